/-
 HeapApart: part 30 of what the claim rests on.
-/
import Derived.Test.YtilcofpceadpbaaGreatDoorA29
set_option linter.unusedVariables false
set_option linter.unusedSimpArgs false
set_option maxHeartbeats 64000000
namespace Go.Proofs.YtilcofpceadpbaaGreatDoor
open Go.ChangeShapes Go.WideShapes Go.ChangeAt Go.RowKit Go.Maps

set_option maxRecDepth 100000 in
theorem samefn_any (p1 p2 : Int) (A1 A2 : Option Addr) (n1 c1 n2 c2 : Nat) (x1 x2 : VV) (t1 t2 : LTy) (k1 k2 : Int) (v1 v2 : Bool) (w : World) (cs1 cs2 : List Int) (hl1 : cs1.length = n1) (hl2 : cs2.length = n2) (hr1 : Reads w w.heap.size A1 (cs1.map (.int .i64 ·))) (hr2 : Reads w w.heap.size A2 (cs2.map (.int .i64 ·))) (ht1 : LIn w w.heap.size t1) (ht2 : LIn w w.heap.size t2) (hn : n1 ≤ 140737488351232) :
  Calls Tryz.prog 26 #[.agg #[.int .i64 p1, .slice A1 n1 c1, .int .i64 x1.kind, .int .i64 x1.n, .string x1.s, .int .u64 (x1.label : Int), .int .i64 t1.kind, .slice t1.A t1.ns.length t1.c, .slice t1.A2 t1.xs.length t1.c2, .int .i64 k1, .bool v1], .agg #[.int .i64 p2, .slice A2 n2 c2, .int .i64 x2.kind, .int .i64 x2.n, .string x2.s, .int .u64 (x2.label : Int), .int .i64 t2.kind, .slice t2.A t2.ns.length t2.c, .slice t2.A2 t2.xs.length t2.c2, .int .i64 k2, .bool v2]] w (RetBool w) := by
 have HR := Lib.hid (And.intro hl1 (And.intro hl2 (And.intro hr1 (And.intro hr2 hn))))
 have HT := Lib.hid (fun W' (hb : Below w.heap.size w W') => (show Calls Tryz.prog 66 #[.agg #[.int .i64 t1.kind, .slice t1.A t1.ns.length t1.c, .slice t1.A2 t1.xs.length t1.c2], .agg #[.int .i64 t2.kind, .slice t2.A t2.ns.length t2.c, .slice t2.A2 t2.xs.length t2.c2]] W' (RetB (.bool (tb (strip t1 = strip t2 ∧ May (strip t1)))) W') from trsame_any t1 t2 W' (ht1.on hb) (ht2.on hb)))
 obtain ⟨sm, hsm⟩ : ∃ sm, sm = tb (strip t1 = strip t2 ∧ May (strip t1)) := ⟨_, rfl⟩
 rw [← hsm] at HT
 obtain ⟨q, hq⟩ := veq x1 x2
 have HQ := Lib.hid hq
 clear hl1 hl2 hr1 hr2 ht1 ht2 hn hsm hq
 obtain ⟨b0, hb0⟩ : ∃ b, b = w.heap.size := ⟨_, rfl⟩
 have HE_b0 := Lib.hid hb0
 obtain ⟨b1, hb1⟩ : ∃ b, b = w.heap.size + 1 := ⟨_, rfl⟩
 have HE_b1 := Lib.hid hb1
 clear hb0 hb1
 go_enter Tryz.func26, Tryz.ntmps26
 go_upto_region 1 with fail
 rw [← HE_b1.out, ← HE_b0.out]
 refine gen_wp fun W hW => ?_
 have HB_b0 := Lib.hid (show W.heap[b0]? = some (.cells #[.int .i64 p1, .slice A1 n1 c1, .int .i64 x1.kind, .int .i64 x1.n, .string x1.s, .int .u64 (x1.label : Int), .int .i64 t1.kind, .slice t1.A t1.ns.length t1.c, .slice t1.A2 t1.xs.length t1.c2, .int .i64 k1, .bool v1] 79 (0, 0)) by rw [← hW, HE_b0.out]; exact blk_alloc (heap_new_at _ _ _ (by first | rfl | simp)) _)
 have HB_b1 := Lib.hid (show W.heap[b1]? = some (.cells #[.int .i64 p2, .slice A2 n2 c2, .int .i64 x2.kind, .int .i64 x2.n, .string x2.s, .int .u64 (x2.label : Int), .int .i64 t2.kind, .slice t2.A t2.ns.length t2.c, .slice t2.A2 t2.xs.length t2.c2, .int .i64 k2, .bool v2] 79 (0, 0)) by rw [← hW, HE_b1.out]; exact heap_new_at _ _ _ (by first | rfl | simp))
 have HW := Lib.hid (show Below w.heap.size w W by rw [← hW]; exact ((Below.refl _ _).alloc (by simp <;> omega) _).alloc (by simp <;> omega) _)
 clear hW
 have hq := HQ.out
 obtain ⟨y0, y1, y2, y3, y4, y5, y6, y7, y8, y9, y10, yf0, yf1, yf2, yf3, yf4, yf5, yf6, yf7, yf8, yf9, yf10, yl⟩ := blk_11 HB_b0.out
 obtain ⟨z0, z1, z2, z3, z4, z5, z6, z7, z8, z9, z10, zf0, zf1, zf2, zf3, zf4, zf5, zf6, zf7, zf8, zf9, zf10, zl⟩ := blk_11 HB_b1.out
 by_cases g1 : p1 = p2
 case neg =>
  have e1 : (p1 != p2) = true := by simpa using g1
  have e2 : (p1 == p2) = false := beq_eq_false_iff_ne.2 g1
  go_wp2
  go_returns
  exact ⟨HW.out, _, rfl⟩
 have e1 : (p1 != p2) = false := by simpa using g1
 have e2 : (p1 == p2) = true := beq_iff_eq.2 g1
 by_cases g2 : n1 = n2
 case neg =>
  have g3 : ¬ ((n1 : Int) = (n2 : Int)) := by omega
  have e3 : ((n1 : Int) == (n2 : Int)) = false := beq_eq_false_iff_ne.2 g3
  have e4 : ((n1 : Int) != (n2 : Int)) = true := by rw [bne, e3]; rfl
  go_wp2
  go_returns
  exact ⟨HW.out, _, rfl⟩
 subst g2
 cases q with
 | false =>
  go_wp2
  go_returns
  exact ⟨HW.out, _, rfl⟩
 | true =>
 by_cases g4 : k1 = k2
 case neg =>
  have e5 : (k1 != k2) = true := by simpa using g4
  have e6 : (k1 == k2) = false := beq_eq_false_iff_ne.2 g4
  go_wp2
  go_returns
  exact ⟨HW.out, _, rfl⟩
 have e5 : (k1 != k2) = false := by simpa using g4
 have e6 : (k1 == k2) = true := beq_iff_eq.2 g4
 clear g1 g4
 have hloop : True := trivial
 cases v1 with
 | false =>
  cases v2 with
  | true =>
   go_wp2
   go_returns
   exact ⟨HW.out, _, rfl⟩
  | false =>
   go_wp2_with fail
   go_loopw [56] (fun i wr => ∃ k : Nat, k ≤ n1 ∧ i = .int .i64 k ∧ Hid (Below w.heap.size w wr) ∧ Hid (wr.heap[b0]? = some (.cells #[.int .i64 p1, .slice A1 n1 c1, .int .i64 x1.kind, .int .i64 x1.n, .string x1.s, .int .u64 (x1.label : Int), .int .i64 t1.kind, .slice t1.A t1.ns.length t1.c, .slice t1.A2 t1.xs.length t1.c2, .int .i64 k1, .bool false] 79 (0, 0))) ∧ Hid (wr.heap[b1]? = some (.cells #[.int .i64 p2, .slice A2 n1 c2, .int .i64 x2.kind, .int .i64 x2.n, .string x2.s, .int .u64 (x2.label : Int), .int .i64 t2.kind, .slice t2.A t2.ns.length t2.c, .slice t2.A2 t2.xs.length t2.c2, .int .i64 k2, .bool false] 79 (0, 0)))) (fun i _ => n1 - (intOf i).toNat)
   case atStart => exact ⟨0, by omega, rfl, HW, HB_b0, HB_b1⟩
   case round =>
    obtain ⟨k, hk, rfl, RW, R0, R1⟩ := hrel
    have hnn : n1 ≤ 140737488351232 := HR.out.2.2.2.2
    by_cases hlt : k < n1
    ·obtain ⟨y1, hy1⟩ : ∃ y, cs1[k]? = some y := ⟨_, List.getElem?_eq_getElem (by rw [HR.out.1]; exact hlt)⟩
     obtain ⟨y2, hy2⟩ : ∃ y, cs2[k]? = some y := ⟨_, List.getElem?_eq_getElem (by rw [HR.out.2.1]; exact hlt)⟩
     have hz1 : (cs1.map (Value.int .i64 ·))[k]? = some (.int .i64 y1) := by rw [List.getElem?_map, hy1]; rfl
     have hz2 : (cs2.map (Value.int .i64 ·))[k]? = some (.int .i64 y2) := by rw [List.getElem?_map, hy2]; rfl
     obtain ⟨a1, hA1, hb1, hc1⟩ := (readsOn HR.out.2.2.1 RW.out).at (fun e => by rw [e] at hz1; cases hz1)
     obtain ⟨a2, hA2, hb2, hc2⟩ := (readsOn HR.out.2.2.2.1 RW.out).at (fun e => by rw [e] at hz2; cases hz2)
     have u1 := hc1 k _ hz1
     have u2 := hc2 k _ hz2
     have hk' : (k : Int) < (n1 : Int) := by omega
     have hk0 : (0 : Int) ≤ k := by omega
     have d0 : wr.cell? ⟨b0, 1, none⟩ = some (.slice (some a1) n1 c1) := by rw [← hA1]; exact cell_of_blk R0.out rfl
     have d1 : wr.cell? ⟨b1, 1, none⟩ = some (.slice (some a2) n1 c2) := by rw [← hA2]; exact cell_of_blk R1.out rfl
     have dl0 := blk_lt R0.out
     have dl1 := blk_lt R1.out
     have m1 : (a1.add k).block < wr.heap.size := by rw [block_add']; exact hb1
     have m2 : (a2.add k).block < wr.heap.size := by rw [block_add']; exact hb2
     clear hy1 hy2 hz1 hz2 hc1 hc2 hA1 hA2 hb1 hb2
     by_cases hyy : y1 = y2
     ·have e7 : (y1 != y2) = false := by simpa using hyy
      go_wp2_with fail
      go_quiet (fail)
      go_wp2_with fail
      go_roundw
      case rel =>
       exact ⟨k + 1, by omega, by go_num, Lib.hid (belowDN RW.out _), Lib.hid R0.out, Lib.hid R1.out⟩
      case measure =>
       simp [intOf]
       omega
     ·have e7 : (y1 != y2) = true := by simpa using hyy
      go_wp2_with fail
      go_quiet (fail)
      go_wp2
      go_returns
      exact ⟨belowDN RW.out _, _, rfl⟩
    ·obtain rfl : k = n1 := by omega
     go_wp2
     go_returns
     exact ⟨RW.out, _, rfl⟩
 | true =>
  cases v2 with
  | false =>
   go_wp2
   go_returns
   exact ⟨HW.out, _, rfl⟩
  | true =>
   go_wp2_with fail
   refine (HT.out _ HW.out).mono ?_
   rintro e w4 ⟨rfl, hb4⟩
   have W4 := Lib.hid (HW.out.trans (hb4.mono HW.out.size))
   have K0 := Lib.hid (below_blk hb4 HB_b0.out)
   have K1 := Lib.hid (below_blk hb4 HB_b1.out)
   clear hb4 y0 yf0 y1 yf1 y2 yf2 y3 yf3 y4 yf4 y5 yf5 y6 yf6 y7 yf7 y8 yf8 y9 yf9 y10 yf10 yl z0 zf0 z1 zf1 z2 zf2 z3 zf3 z4 zf4 z5 zf5 z6 zf6 z7 zf7 z8 zf8 z9 zf9 z10 zf10 zl
   cases sm with
   | false =>
    go_wp2
    go_returns
    exact ⟨W4.out, _, rfl⟩
   | true =>
    obtain ⟨y0, y1, y2, y3, y4, y5, y6, y7, y8, y9, y10, yf0, yf1, yf2, yf3, yf4, yf5, yf6, yf7, yf8, yf9, yf10, yl⟩ := blk_11 K0.out
    obtain ⟨z0, z1, z2, z3, z4, z5, z6, z7, z8, z9, z10, zf0, zf1, zf2, zf3, zf4, zf5, zf6, zf7, zf8, zf9, zf10, zl⟩ := blk_11 K1.out
    go_wp2_with fail
    go_loopw [56] (fun i wr => ∃ k : Nat, k ≤ n1 ∧ i = .int .i64 k ∧ Hid (Below w.heap.size w wr) ∧ Hid (wr.heap[b0]? = some (.cells #[.int .i64 p1, .slice A1 n1 c1, .int .i64 x1.kind, .int .i64 x1.n, .string x1.s, .int .u64 (x1.label : Int), .int .i64 t1.kind, .slice t1.A t1.ns.length t1.c, .slice t1.A2 t1.xs.length t1.c2, .int .i64 k1, .bool true] 79 (0, 0))) ∧ Hid (wr.heap[b1]? = some (.cells #[.int .i64 p2, .slice A2 n1 c2, .int .i64 x2.kind, .int .i64 x2.n, .string x2.s, .int .u64 (x2.label : Int), .int .i64 t2.kind, .slice t2.A t2.ns.length t2.c, .slice t2.A2 t2.xs.length t2.c2, .int .i64 k2, .bool true] 79 (0, 0)))) (fun i _ => n1 - (intOf i).toNat)
    case atStart => exact ⟨0, by omega, rfl, W4, K0, K1⟩
    case round =>
     obtain ⟨k, hk, rfl, RW, R0, R1⟩ := hrel
     have hnn : n1 ≤ 140737488351232 := HR.out.2.2.2.2
     by_cases hlt : k < n1
     ·obtain ⟨y1, hy1⟩ : ∃ y, cs1[k]? = some y := ⟨_, List.getElem?_eq_getElem (by rw [HR.out.1]; exact hlt)⟩
      obtain ⟨y2, hy2⟩ : ∃ y, cs2[k]? = some y := ⟨_, List.getElem?_eq_getElem (by rw [HR.out.2.1]; exact hlt)⟩
      have hz1 : (cs1.map (Value.int .i64 ·))[k]? = some (.int .i64 y1) := by rw [List.getElem?_map, hy1]; rfl
      have hz2 : (cs2.map (Value.int .i64 ·))[k]? = some (.int .i64 y2) := by rw [List.getElem?_map, hy2]; rfl
      obtain ⟨a1, hA1, hb1, hc1⟩ := (readsOn HR.out.2.2.1 RW.out).at (fun e => by rw [e] at hz1; cases hz1)
      obtain ⟨a2, hA2, hb2, hc2⟩ := (readsOn HR.out.2.2.2.1 RW.out).at (fun e => by rw [e] at hz2; cases hz2)
      have u1 := hc1 k _ hz1
      have u2 := hc2 k _ hz2
      have hk' : (k : Int) < (n1 : Int) := by omega
      have hk0 : (0 : Int) ≤ k := by omega
      have d0 : wr.cell? ⟨b0, 1, none⟩ = some (.slice (some a1) n1 c1) := by rw [← hA1]; exact cell_of_blk R0.out rfl
      have d1 : wr.cell? ⟨b1, 1, none⟩ = some (.slice (some a2) n1 c2) := by rw [← hA2]; exact cell_of_blk R1.out rfl
      have dl0 := blk_lt R0.out
      have dl1 := blk_lt R1.out
      have m1 : (a1.add k).block < wr.heap.size := by rw [block_add']; exact hb1
      have m2 : (a2.add k).block < wr.heap.size := by rw [block_add']; exact hb2
      clear hy1 hy2 hz1 hz2 hc1 hc2 hA1 hA2 hb1 hb2
      by_cases hyy : y1 = y2
      ·have e7 : (y1 != y2) = false := by simpa using hyy
       go_wp2_with fail
       go_quiet (fail)
       go_wp2_with fail
       go_roundw
       case rel =>
        exact ⟨k + 1, by omega, by go_num, Lib.hid (belowDN RW.out _), Lib.hid R0.out, Lib.hid R1.out⟩
       case measure =>
        simp [intOf]
        omega
      ·have e7 : (y1 != y2) = true := by simpa using hyy
       go_wp2_with fail
       go_quiet (fail)
       go_wp2
       go_returns
       exact ⟨belowDN RW.out _, _, rfl⟩
     ·obtain rfl : k = n1 := by omega
      go_wp2
      go_returns
      exact ⟨RW.out, _, rfl⟩
end Go.Proofs.YtilcofpceadpbaaGreatDoor
