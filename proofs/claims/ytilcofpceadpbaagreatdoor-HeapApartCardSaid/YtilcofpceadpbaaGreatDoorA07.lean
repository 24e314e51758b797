/-
 HeapApart: part 7 of what the claim rests on.
-/
import Derived.Test.YtilcofpceadpbaaGreatDoorA01
import Derived.Test.YtilcofpceadpbaaGreatDoorA05
import Derived.Test.YtilcofpceadpbaaGreatDoorA06
import Derived.Deep.Cut
import Derived.Deep.CutBlock
set_option linter.unusedVariables false
set_option linter.unusedSimpArgs false
set_option maxHeartbeats 64000000
namespace Go.Proofs.YtilcofpceadpbaaGreatDoor
open Go.ChangeShapes Go.WideShapes Go.ChangeAt Go.RowKit

set_option maxRecDepth 100000 in
theorem rlike_any (t : LTy) : LikeAll 100 t := by
 induction t using lty_ind with
 | h t ih =>
 intro u w ht hu
 have hb0 : Below w.heap.size w ((w.alloc (.cells #[.int .i64 t.kind, .slice t.A t.ns.length t.c, .slice t.A2 t.xs.length t.c2] 31)).alloc (.cells #[.int .i64 u.kind, .slice u.A u.ns.length u.c, .slice u.A2 u.xs.length u.c2] 31)) := ((Below.refl _ _).alloc (Nat.le_refl _) _).alloc (by simp) _
 have hbt : ((w.alloc (.cells #[.int .i64 t.kind, .slice t.A t.ns.length t.c, .slice t.A2 t.xs.length t.c2] 31)).alloc (.cells #[.int .i64 u.kind, .slice u.A u.ns.length u.c, .slice u.A2 u.xs.length u.c2] 31)).heap[w.heap.size]? = some (.cells #[.int .i64 t.kind, .slice t.A t.ns.length t.c, .slice t.A2 t.xs.length t.c2] 31 (0, 0)) := blk_alloc (heap_new_at _ _ _ rfl) _
 have hbu : ((w.alloc (.cells #[.int .i64 t.kind, .slice t.A t.ns.length t.c, .slice t.A2 t.xs.length t.c2] 31)).alloc (.cells #[.int .i64 u.kind, .slice u.A u.ns.length u.c, .slice u.A2 u.xs.length u.c2] 31)).heap[w.heap.size + 1]? = some (.cells #[.int .i64 u.kind, .slice u.A u.ns.length u.c, .slice u.A2 u.xs.length u.c2] 31 (0, 0)) := heap_new_at _ _ _ (by simp)
 obtain ⟨ans, hans⟩ : ∃ ans, ans = tb (strip t = strip u) := ⟨_, rfl⟩
 rw [← hans]
 have HA := Lib.hid hans
 have HB := Lib.hid hb0
 have HBT := Lib.hid hbt
 have HBU := Lib.hid hbu
 have HT := Lib.hid ht
 have HU := Lib.hid hu
 have HI := Lib.hid ih
 have hl1 := ht.n1.2
 have hl2 := ht.n2.2
 have hl3 := hu.n1.2
 have hl4 := hu.n2.2
 clear hb0 hbt hbu ht hu ih hans
 unfold LTy.val
 by_cases h1 : t.kind = u.kind
 case neg =>
  have e : ans = false := by rw [HA.out]; exact tb_false (fun e => h1 ((strip_eq t u).1 e).1)
  subst e
  have hb : (t.kind == u.kind) = false := beq_eq_false_iff_ne.2 h1
  have hb' : (t.kind != u.kind) = true := by rw [bne, hb]; rfl
  clear h1 HA
  go_enter Tryz.func100, Tryz.ntmps100
  go_wp2
  go_ret
  exact ⟨rfl, HB.out⟩
 have hb : (t.kind == u.kind) = true := beq_iff_eq.2 h1
 have hb' : (t.kind != u.kind) = false := by rw [bne, hb]; rfl
 have HK := Lib.hid h1
 clear h1 hb
 by_cases h2 : t.ns.length = u.ns.length
 case neg =>
  have e : ans = false := by rw [HA.out]; exact tb_false (fun e => h2 (by rw [((strip_eq t u).1 e).2.1]))
  subst e
  have hb : ((t.ns.length : Int) == (u.ns.length : Int)) = false := beq_eq_false_iff_ne.2 (by omega)
  have hb2 : ((t.ns.length : Int) != (u.ns.length : Int)) = true := by rw [bne, hb]; rfl
  clear h2 HA
  go_enter Tryz.func100, Tryz.ntmps100
  go_wp2
  go_ret
  exact ⟨rfl, HB.out⟩
 have hb2 : ((t.ns.length : Int) != (u.ns.length : Int)) = false := by rw [h2]; simp
 by_cases h3 : t.xs.length = u.xs.length
 case neg =>
  have e : ans = false := by rw [HA.out]; exact tb_false (fun e => h3 (by have := congrArg List.length ((strip_eq t u).1 e).2.2; simpa using this))
  subst e
  have hb : ((t.xs.length : Int) == (u.xs.length : Int)) = false := beq_eq_false_iff_ne.2 (by omega)
  have hb3 : ((t.xs.length : Int) != (u.xs.length : Int)) = true := by rw [bne, hb]; rfl
  clear h2 h3 HA
  go_enter Tryz.func100, Tryz.ntmps100
  go_wp2
  go_ret
  exact ⟨rfl, HB.out⟩
 have hb3 : ((t.xs.length : Int) != (u.xs.length : Int)) = false := by rw [h3]; simp
 have H2 := Lib.hid h2
 have H3 := Lib.hid h3
 clear h2 h3
 obtain ⟨g, hg⟩ : ∃ g, g = w.heap.size := ⟨_, rfl⟩
 go_enter Tryz.func100, Tryz.ntmps100
 go_upto_region 3 with fail
 refine gen_wpT fun W hW => ?_
 rw [← hg]
 have KT := Lib.hid (show W.heap[g]? = some (.cells #[.int .i64 t.kind, .slice t.A t.ns.length t.c, .slice t.A2 t.xs.length t.c2] 31 (0, 0)) by rw [← hW, hg]; first | exact HBT.out | exact blk_drew HBT.out)
 have KU := Lib.hid (show W.heap[g + 1]? = some (.cells #[.int .i64 u.kind, .slice u.A u.ns.length u.c, .slice u.A2 u.xs.length u.c2] 31 (0, 0)) by rw [← hW, hg]; first | exact HBU.out | exact blk_drew HBU.out)
 have KB := Lib.hid (show Below w.heap.size w W by rw [← hW]; first | exact HB.out | exact HB.out.drew)
 clear hW HB HBT HBU
 have HG := Lib.hid hg
 clear hg hb' hb2 hb3
 obtain ⟨n1, hn1⟩ : ∃ n, n = t.ns.length := ⟨_, rfl⟩
 obtain ⟨n2, hn2⟩ : ∃ n, n = t.xs.length := ⟨_, rfl⟩
 have HN := Lib.hid (show t.xs.length = n2 ∧ u.xs.length = n2 ∧ t.ns.length = n1 ∧ u.ns.length = n1 from ⟨hn2.symm, by rw [hn2]; exact H3.out.symm, hn1.symm, by rw [hn1]; exact H2.out.symm⟩)
 have hl1' : n1 ≤ 8796093022208 := by omega
 have hl2' : n2 ≤ 8796093022208 := by omega
 have t1 := cell_of_blk (i := 1) KT.out rfl
 have lt1 := blk_lt KT.out
 have lu1 := blk_lt KU.out
 rw [HN.out.2.2.1] at t1
 clear hn1 hn2 hl1 hl2 hl3 hl4
 go_wp2_with fail
 clear t1
 go_loopw [33] (fun i wr => ∃ k q : Nat, k ≤ n1 ∧ i = .int .i64 k ∧ Hid (∀ j, j < k → t.ns[j]? = u.ns[j]?) ∧ wr = W.drewN q) (fun i _ => n1 - (intOf i).toNat)
 case atStart => exact ⟨0, 0, by omega, rfl, Lib.hid (fun j hj => by omega), rfl⟩
 case round =>
  obtain ⟨k, q, hk, rfl, HJ, rfl⟩ := hrel
  by_cases hlt : k < n1
  ·obtain ⟨x, hx⟩ : ∃ x, t.ns[k]? = some x := ⟨_, List.getElem?_eq_getElem (by rw [HN.out.2.2.1]; exact hlt)⟩
   obtain ⟨y, hy⟩ : ∃ y, u.ns[k]? = some y := ⟨_, List.getElem?_eq_getElem (by rw [HN.out.2.2.2]; exact hlt)⟩
   obtain ⟨a1, hA1, _, x0⟩ := (HT.out.on KB.out).name hx
   obtain ⟨a2, hA2, _, y0⟩ := (HU.out.on KB.out).name hy
   have t1 : ∀ m, (W.drewN m).cell? ⟨g, 1, none⟩ = some (.slice (some a1) n1 t.c) := fun m => by have := cell_of_blk (i := 1) KT.out rfl; rw [HN.out.2.2.1, hA1] at this; exact this
   have u1 : ∀ m, (W.drewN m).cell? ⟨g + 1, 1, none⟩ = some (.slice (some a2) n1 u.c) := fun m => by have := cell_of_blk (i := 1) KU.out rfl; rw [HN.out.2.2.2, hA2] at this; exact this
   have x0' : ∀ m, (W.drewN m).cell? (a1.add k) = some (.string x) := fun m => x0
   have y0' : ∀ m, (W.drewN m).cell? (a2.add k) = some (.string y) := fun m => y0
   have hk' : (k : Int) < (n1 : Int) := by omega
   have hk0 : (0 : Int) ≤ k := by omega
   have hwk : IntKind.i64.wrap (k : Int) = (k : Int) := IntWalk.i64_in _ (by omega)
   clear hA1 hA2
   by_cases hxy : x = y
   ·have hb := str_beq hxy
    have hb' : (x.toList != y.toList) = false := by rw [bne, hb]; rfl
    have HJ2 := Lib.hid (show ∀ j, j < k + 1 → t.ns[j]? = u.ns[j]? from fun j hj => by
     rcases Nat.lt_or_ge j k with h1 | h1
     ·exact HJ.out j h1
     ·obtain rfl : j = k := by omega
      rw [hx, hy, hxy])
    clear hx hy hxy
    go_wp2_with fail
    go_quiet (fail)
    go_wp2_with fail
    go_roundw
    case rel => exact ⟨k + 1, q + nq, by omega, by go_num, HJ2, by first | rfl | exact drew_add W q nq⟩
    case measure => simp [intOf]; omega
   ·have hb := str_bne hxy
    have hb' : (x.toList != y.toList) = true := by rw [bne, hb]; rfl
    have e : ans = false := by rw [HA.out]; exact tb_false (fun e => list_ne_at hx hy hxy ((strip_eq t u).1 e).2.1)
    subst e
    clear hx hy hxy HA
    go_wp2_with fail
    go_quiet (fail)
    go_wp2
    go_ret
    exact ⟨rfl, below_drewT (below_drewT KB.out q) nq⟩
  have hns := Lib.hid (show t.ns = u.ns from list_eq_at (HN.out.2.2.1.trans HN.out.2.2.2.symm) (fun j hj => HJ.out j (by rw [HN.out.2.2.1] at hj; omega)))
  have t2 : (W.drewN q).cell? ⟨g, 2, none⟩ = some (.slice t.A2 n2 t.c2) := by have := cell_of_blk (i := 2) KT.out rfl; rw [HN.out.1] at this; exact this
  have hkk : (n1 : Int) ≤ k := by omega
  go_wp2_with fail
  clear t2
  go_loopw [51] (fun i wr => ∃ k : Nat, k ≤ n2 ∧ i = .int .i64 k ∧ Hid (∀ j, j < k → (t.xs.map strip)[j]? = (u.xs.map strip)[j]?) ∧ Hid (Below W.heap.size W wr)) (fun i _ => n2 - (intOf i).toNat)
  case atStart => exact ⟨0, by omega, rfl, Lib.hid (fun j hj => by omega), Lib.hid (below_drewT (Below.refl _ _) q)⟩
  case round =>
   clear hlt hkk hk HJ
   obtain ⟨k, hk, rfl, HJ, HW⟩ := hrel
   have KBr := Lib.hid (KB.out.trans (HW.out.mono KB.out.size))
   by_cases hlt : k < n2
   case neg =>
    obtain rfl : k = n2 := by omega
    have e : ans = true := by
     rw [HA.out]
     refine tb_true ((strip_eq t u).2 ⟨HK.out, hns.out, list_eq_at (by rw [List.length_map, List.length_map, HN.out.1, HN.out.2.1]) (fun j hj => HJ.out j (by rw [List.length_map, HN.out.1] at hj; exact hj))⟩)
    subst e
    go_wp2
    go_ret
    exact ⟨rfl, KBr.out⟩
   obtain ⟨x, hx⟩ : ∃ x, t.xs[k]? = some x := ⟨_, List.getElem?_eq_getElem (by rw [HN.out.1]; exact hlt)⟩
   obtain ⟨y, hy⟩ : ∃ y, u.xs[k]? = some y := ⟨_, List.getElem?_eq_getElem (by rw [HN.out.2.1]; exact hlt)⟩
   have htr := HT.out.on KBr.out
   have hur := HU.out.on KBr.out
   obtain ⟨a1, hA1, l1, x0, x1, x2⟩ := htr.cells hx
   obtain ⟨a2, hA2, l2, y0, y1, y2⟩ := hur.cells hy
   have m1 : (a1.add (k * 3)).block < wr.heap.size := by rw [block_add']; exact l1
   have m2 : (a2.add (k * 3)).block < wr.heap.size := by rw [block_add']; exact l2
   have BT := Lib.hid (below_blk HW.out KT.out)
   have BU := Lib.hid (below_blk HW.out KU.out)
   have HA1 := Lib.hid hA1
   have HA2 := Lib.hid hA2
   have hk' : (k : Int) < (n2 : Int) := by omega
   have hk0 : (0 : Int) ≤ k := by omega
   have hwk : IntKind.i64.wrap (k : Int) = (k : Int) := IntWalk.i64_in _ (by omega)
   have hd : Below wr.heap.size wr wr.drew := (Below.refl _ _).drew
   have hcall := HI.out x (List.mem_of_getElem? hx) y wr.drew ((htr.part hx).on hd) ((hur.part hy).on hd)
   unfold LTy.val at hcall
   have HC := Lib.hid hcall
   have HX := Lib.hid (show (t.xs.map strip)[k]? = some (strip x) ∧ (u.xs.map strip)[k]? = some (strip y) by rw [List.getElem?_map, List.getElem?_map, hx, hy]; exact ⟨rfl, rfl⟩)
   have lg1 := blk_lt BT.out
   have lg2 := blk_lt BU.out
   clear hcall htr hur hx hy l1 l2 hA1 hA2 hd
   by_cases hxy : strip x = strip y
   ·rw [tb_true hxy] at HC
    have HJ2 := Lib.hid (show ∀ j, j < k + 1 → (t.xs.map strip)[j]? = (u.xs.map strip)[j]? from fun j hj => by
     rcases Nat.lt_or_ge j k with h1 | h1
     ·exact HJ.out j h1
     ·obtain rfl : j = k := by omega
      rw [HX.out.1, HX.out.2, hxy])
    clear hxy
    go_wp2_with fail
    refine wp_region_held_drew (S := fun w' => w'.heap[g]? = some (.cells #[.int .i64 t.kind, .slice t.A t.ns.length t.c, .slice t.A2 t.xs.length t.c2] 31 (0, 0)) ∧ w'.heap[g + 1]? = some (.cells #[.int .i64 u.kind, .slice u.A u.ns.length u.c, .slice u.A2 u.xs.length u.c2] 31 (0, 0)) ∧ (w'.cell? (a1.add (k * 3)) = some (.int .i64 x.kind) ∧ w'.cell? ⟨(a1.add (k * 3)).block, (a1.add (k * 3)).off + 1, none⟩ = some (.slice x.A x.ns.length x.c) ∧ w'.cell? ⟨(a1.add (k * 3)).block, (a1.add (k * 3)).off + 2, none⟩ = some (.slice x.A2 x.xs.length x.c2)) ∧ (w'.cell? (a2.add (k * 3)) = some (.int .i64 y.kind) ∧ w'.cell? ⟨(a2.add (k * 3)).block, (a2.add (k * 3)).off + 1, none⟩ = some (.slice y.A y.ns.length y.c) ∧ w'.cell? ⟨(a2.add (k * 3)).block, (a2.add (k * 3)).off + 2, none⟩ = some (.slice y.A2 y.xs.length y.c2))) (by kernel_rfl) (⟨BT.out, BU.out, ⟨x0, x1, x2⟩, ⟨y0, y1, y2⟩⟩) (fun hHeld => ?_)
    refine tk 0 54 (.pointer (some ⟨g, 2, none⟩)) hHeld ?_; simp only [Act.put, zq1, zq2, zq3]
    refine tk 1 55 (.slice (some a1) n2 t.c2) hHeld ?_ (hy := Or.inl ⟨by rfl, fun w' hS => (by have q := cell_of_blk (i := 2) hS.1 rfl; rw [HN.out.1, HA1.out] at q; go_simp)⟩); simp only [Act.put, zq1, zq2, zq3]
    refine tk 2 56 (.int .i64 (k : Int)) hHeld ?_; simp only [Act.put, zq1, zq2, zq3]
    refine tk 3 57 (.pointer (some (a1.add (k * 3)))) hHeld ?_; simp only [Act.put, zq1, zq2, zq3]
    refine tk 4 58 (.agg #[.int .i64 x.kind, .slice x.A x.ns.length x.c, .slice x.A2 x.xs.length x.c2]) hHeld ?_ (hy := Or.inl ⟨by rfl, fun w' hS => (by obtain ⟨q0, q1, q2⟩ := hS.2.2.1; go_simp)⟩); simp only [Act.put, zq1, zq2, zq3]
    refine tk 5 59 (.pointer (some ⟨g + 1, 2, none⟩)) hHeld ?_; simp only [Act.put, zq1, zq2, zq3]
    refine tk 6 60 (.slice (some a2) n2 u.c2) hHeld ?_ (hy := Or.inl ⟨by rfl, fun w' hS => (by have q := cell_of_blk (i := 2) hS.2.1 rfl; rw [HN.out.2.1, HA2.out] at q; go_simp)⟩); simp only [Act.put, zq1, zq2, zq3]
    refine tk 7 61 (.int .i64 (k : Int)) hHeld ?_; simp only [Act.put, zq1, zq2, zq3]
    refine tk 8 62 (.pointer (some (a2.add (k * 3)))) hHeld ?_; simp only [Act.put, zq1, zq2, zq3]
    refine tk 9 63 (.agg #[.int .i64 y.kind, .slice y.A y.ns.length y.c, .slice y.A2 y.xs.length y.c2]) hHeld ?_ (hy := Or.inl ⟨by rfl, fun w' hS => (by obtain ⟨q0, q1, q2⟩ := hS.2.2.2; go_simp)⟩); simp only [Act.put, zq1, zq2, zq3]
    refine rd 10 fun K hK => ?_
    go_simp
    with_reducible refine HC.out.mono ?_
    rintro e w5 ⟨rfl, hb5⟩
    have HB5 := Lib.hid (show Below wr.heap.size wr w5 from (Below.refl wr.heap.size wr).drew.trans hb5)
    clear hb5
    refine hK.out _ _ ⟨below_blk HB5.out BT.out, below_blk HB5.out BU.out, ⟨(HB5.out.cell m1).trans x0, (HB5.out.cell (p := ⟨(a1.add (k * 3)).block, (a1.add (k * 3)).off + 1, none⟩) m1).trans x1, (HB5.out.cell (p := ⟨(a1.add (k * 3)).block, (a1.add (k * 3)).off + 2, none⟩) m1).trans x2⟩, ⟨(HB5.out.cell m2).trans y0, (HB5.out.cell (p := ⟨(a2.add (k * 3)).block, (a2.add (k * 3)).off + 1, none⟩) m2).trans y1, (HB5.out.cell (p := ⟨(a2.add (k * 3)).block, (a2.add (k * 3)).off + 2, none⟩) m2).trans y2⟩⟩ (fun hHeld => ?_)
    clear hK K
    try simp only [Act.put, zq1, zq2, zq3]
    refine tk 11 65 (.bool false) hHeld ?_; simp only [Act.put, zq1, zq2, zq3]
    refine wpAnyH_done (by kernel_rfl) ?_ _
    go_wp2_with fail
    go_roundw
    case rel => exact ⟨k + 1, by omega, by go_num, HJ2, Lib.hid (HW.out.trans (HB5.out.mono HW.out.size))⟩
    case measure => simp [intOf]; omega
   ·rw [tb_false hxy] at HC
    have e : ans = false := by rw [HA.out]; exact tb_false (fun e => list_ne_at HX.out.1 HX.out.2 hxy ((strip_eq t u).1 e).2.2)
    subst e
    clear hxy HA
    go_wp2_with fail
    refine wp_region_held_drew (S := fun w' => w'.heap[g]? = some (.cells #[.int .i64 t.kind, .slice t.A t.ns.length t.c, .slice t.A2 t.xs.length t.c2] 31 (0, 0)) ∧ w'.heap[g + 1]? = some (.cells #[.int .i64 u.kind, .slice u.A u.ns.length u.c, .slice u.A2 u.xs.length u.c2] 31 (0, 0)) ∧ (w'.cell? (a1.add (k * 3)) = some (.int .i64 x.kind) ∧ w'.cell? ⟨(a1.add (k * 3)).block, (a1.add (k * 3)).off + 1, none⟩ = some (.slice x.A x.ns.length x.c) ∧ w'.cell? ⟨(a1.add (k * 3)).block, (a1.add (k * 3)).off + 2, none⟩ = some (.slice x.A2 x.xs.length x.c2)) ∧ (w'.cell? (a2.add (k * 3)) = some (.int .i64 y.kind) ∧ w'.cell? ⟨(a2.add (k * 3)).block, (a2.add (k * 3)).off + 1, none⟩ = some (.slice y.A y.ns.length y.c) ∧ w'.cell? ⟨(a2.add (k * 3)).block, (a2.add (k * 3)).off + 2, none⟩ = some (.slice y.A2 y.xs.length y.c2))) (by kernel_rfl) (⟨BT.out, BU.out, ⟨x0, x1, x2⟩, ⟨y0, y1, y2⟩⟩) (fun hHeld => ?_)
    refine tk 0 54 (.pointer (some ⟨g, 2, none⟩)) hHeld ?_; simp only [Act.put, zq1, zq2, zq3]
    refine tk 1 55 (.slice (some a1) n2 t.c2) hHeld ?_ (hy := Or.inl ⟨by rfl, fun w' hS => (by have q := cell_of_blk (i := 2) hS.1 rfl; rw [HN.out.1, HA1.out] at q; go_simp)⟩); simp only [Act.put, zq1, zq2, zq3]
    refine tk 2 56 (.int .i64 (k : Int)) hHeld ?_; simp only [Act.put, zq1, zq2, zq3]
    refine tk 3 57 (.pointer (some (a1.add (k * 3)))) hHeld ?_; simp only [Act.put, zq1, zq2, zq3]
    refine tk 4 58 (.agg #[.int .i64 x.kind, .slice x.A x.ns.length x.c, .slice x.A2 x.xs.length x.c2]) hHeld ?_ (hy := Or.inl ⟨by rfl, fun w' hS => (by obtain ⟨q0, q1, q2⟩ := hS.2.2.1; go_simp)⟩); simp only [Act.put, zq1, zq2, zq3]
    refine tk 5 59 (.pointer (some ⟨g + 1, 2, none⟩)) hHeld ?_; simp only [Act.put, zq1, zq2, zq3]
    refine tk 6 60 (.slice (some a2) n2 u.c2) hHeld ?_ (hy := Or.inl ⟨by rfl, fun w' hS => (by have q := cell_of_blk (i := 2) hS.2.1 rfl; rw [HN.out.2.1, HA2.out] at q; go_simp)⟩); simp only [Act.put, zq1, zq2, zq3]
    refine tk 7 61 (.int .i64 (k : Int)) hHeld ?_; simp only [Act.put, zq1, zq2, zq3]
    refine tk 8 62 (.pointer (some (a2.add (k * 3)))) hHeld ?_; simp only [Act.put, zq1, zq2, zq3]
    refine tk 9 63 (.agg #[.int .i64 y.kind, .slice y.A y.ns.length y.c, .slice y.A2 y.xs.length y.c2]) hHeld ?_ (hy := Or.inl ⟨by rfl, fun w' hS => (by obtain ⟨q0, q1, q2⟩ := hS.2.2.2; go_simp)⟩); simp only [Act.put, zq1, zq2, zq3]
    refine rd 10 fun K hK => ?_
    go_simp
    with_reducible refine HC.out.mono ?_
    rintro e w5 ⟨rfl, hb5⟩
    have HB5 := Lib.hid (show Below wr.heap.size wr w5 from (Below.refl wr.heap.size wr).drew.trans hb5)
    clear hb5
    refine hK.out _ _ ⟨below_blk HB5.out BT.out, below_blk HB5.out BU.out, ⟨(HB5.out.cell m1).trans x0, (HB5.out.cell (p := ⟨(a1.add (k * 3)).block, (a1.add (k * 3)).off + 1, none⟩) m1).trans x1, (HB5.out.cell (p := ⟨(a1.add (k * 3)).block, (a1.add (k * 3)).off + 2, none⟩) m1).trans x2⟩, ⟨(HB5.out.cell m2).trans y0, (HB5.out.cell (p := ⟨(a2.add (k * 3)).block, (a2.add (k * 3)).off + 1, none⟩) m2).trans y1, (HB5.out.cell (p := ⟨(a2.add (k * 3)).block, (a2.add (k * 3)).off + 2, none⟩) m2).trans y2⟩⟩ (fun hHeld => ?_)
    clear hK K
    try simp only [Act.put, zq1, zq2, zq3]
    refine tk 11 65 (.bool true) hHeld ?_; simp only [Act.put, zq1, zq2, zq3]
    refine wpAnyH_done (by kernel_rfl) ?_ _
    go_wp2
    go_ret
    exact ⟨rfl, KBr.out.trans (HB5.out.mono KBr.out.size)⟩


end Go.Proofs.YtilcofpceadpbaaGreatDoor
namespace Go.Proofs.YtilcofpceadpbaaGreatDoor

theorem range7 {k : Int} (h0 : 0 ≤ k) (h6 : k ≤ 6) : k = 0 ∨ k = 1 ∨ k = 2 ∨ k = 3 ∨ k = 4 ∨ k = 5 ∨ k = 6 := by omega
theorem leaf_of {n : Nat} {a : Ty} (h : Chk n a) (h0 : 0 < a.kind) (h7 : a.kind < 7) : a = .mk a.kind [] [] := by
 cases n with
 | zero => exact h.elim
 | succ n =>
  rcases h.1 with ⟨_, _, h1, h2⟩ | ⟨h1, _⟩ | ⟨h1, _⟩ | ⟨h1, _⟩
  ·exact Ty.ext rfl (List.eq_nil_of_length_eq_zero h1) (List.eq_nil_of_length_eq_zero h2)
  all_goals omega
theorem union_parts {n : Nat} {t : Ty} (h : Chk n t) (h7 : t.kind = 7) : t.names = [] ∧ 1 < t.args.length ∧ ∀ a ∈ t.args, 0 < a.kind ∧ a.kind < 7 ∧ a = .mk a.kind [] [] := by
 cases n with
 | zero => exact h.elim
 | succ n =>
  rcases h.1 with ⟨_, h1, _⟩ | ⟨_, h1, h2⟩ | ⟨h1, _⟩ | ⟨h1, _⟩
  ·omega
  ·refine ⟨List.eq_nil_of_length_eq_zero h1, h2, fun a ha => ?_⟩
   obtain ⟨i, hi⟩ := List.getElem?_of_mem ha
   have := (h.2 i a hi).1.1 h7
   exact ⟨this.1, this.2.1, leaf_of (h.2 i a hi).2 this.1 this.2.1⟩
  all_goals omega
def midB (c : UInt8) : Bool := c != 44 && c != 41 && c != 125
def Stop (r : List UInt8) : Prop := ∀ c l, r = c :: l → midB c = false
theorem shape_names {n : Nat} {t : Ty} (h : Chk n t) (h8 : t.kind = 8) : t.names.length = t.args.length ∧ ∀ s ∈ t.names, NameOk s := by
 cases n with
 | zero => exact h.elim
 | succ n =>
  have hl : t.names.length = t.args.length := by
   rcases h.1 with ⟨_, h1, _⟩ | ⟨h1, _⟩ | ⟨_, h1⟩ | ⟨h1, _⟩
   ·omega
   ·omega
   ·exact h1
   ·omega
  refine ⟨hl, fun s hs => ?_⟩
  obtain ⟨i, hi⟩ := List.getElem?_of_mem hs
  obtain ⟨a, ha⟩ : ∃ a, t.args[i]? = some a := ⟨_, List.getElem?_eq_getElem (by rw [← hl]; exact (List.getElem?_eq_some_iff.1 hi).1)⟩
  exact (((h.2 i a ha).1.2 h8).2 s hi).1
def wName : List ByteArray → Nat
 | [] => 0
 | s :: l => 1 + s.size / 100 + wName l
mutual
def wt : Ty → Nat
 | .mk _ ns xs => 1 + wName ns + wtL xs
def wtL : List Ty → Nat
 | [] => 0
 | a :: xs => wt a + wtL xs
end
theorem wt_eq (t : Ty) : wt t = 1 + wName t.names + wtL t.args := by cases t; rw [wt]; rfl
theorem wt_nodes : ∀ t : Ty, nodes t ≤ wt t := fun t => Ty.ind (P := fun t => nodes t ≤ wt t) (fun k ns xs ih => by
 rw [nodes_args, wt_eq]
 have : ∀ l : List Ty, (∀ a ∈ l, nodes a ≤ wt a) → nodesL l ≤ wtL l := fun l => by
  induction l with
  | nil => intro _; rw [nodesL]; omega
  | cons a l ihl =>
   intro h
   have h1 := h a (by simp)
   have h2 := ihl fun b hb => h b (by simp [hb])
   rw [nodesL, wtL]
   omega
 have := this xs ih
 show nodesL xs + 1 ≤ 1 + wName ns + wtL xs
 omega) t
end Go.Proofs.YtilcofpceadpbaaGreatDoor
namespace Go.Proofs.YtilcofpceadpbaaGreatDoor
open Go.ChangeShapes Go.WideShapes Go.ChangeAt Go.RowKit

def TBox (w : World) (g : Nat) (t : LTy) : Prop := w.heap[g]? = some (.cells #[.int .i64 t.kind, .slice t.A t.ns.length t.c, .slice t.A2 t.xs.length t.c2] 31 (0, 0))
section
variable {w w' : World} {g : Nat} {t u : LTy}
theorem TBox.below (h : TBox w g t) (hb : Below w.heap.size w w') : TBox w' g t := below_blk hb h
theorem TBox.c0 (h : TBox w g t) : w.cell? ⟨g, 0, none⟩ = some (.int .i64 t.kind) := cell_of_blk h rfl
theorem TBox.c1 (h : TBox w g t) : w.cell? ⟨g, 1, none⟩ = some (.slice t.A t.ns.length t.c) := cell_of_blk h rfl
theorem TBox.c2 (h : TBox w g t) : w.cell? ⟨g, 2, none⟩ = some (.slice t.A2 t.xs.length t.c2) := cell_of_blk h rfl
theorem TBox.lt (h : TBox w g t) : g < w.heap.size := blk_lt h
end
theorem one_box (w : World) (t : LTy) : TBox (w.alloc (.cells #[.int .i64 t.kind, .slice t.A t.ns.length t.c, .slice t.A2 t.xs.length t.c2] 31)) w.heap.size t ∧ Below w.heap.size w (w.alloc (.cells #[.int .i64 t.kind, .slice t.A t.ns.length t.c, .slice t.A2 t.xs.length t.c2] 31)) :=
 ⟨heap_new_at _ _ _ rfl, (Below.refl _ _).alloc (Nat.le_refl _) _⟩
theorem two_boxes (w : World) (t u : LTy) : TBox ((w.alloc (.cells #[.int .i64 t.kind, .slice t.A t.ns.length t.c, .slice t.A2 t.xs.length t.c2] 31)).alloc (.cells #[.int .i64 u.kind, .slice u.A u.ns.length u.c, .slice u.A2 u.xs.length u.c2] 31)) w.heap.size t ∧ TBox ((w.alloc (.cells #[.int .i64 t.kind, .slice t.A t.ns.length t.c, .slice t.A2 t.xs.length t.c2] 31)).alloc (.cells #[.int .i64 u.kind, .slice u.A u.ns.length u.c, .slice u.A2 u.xs.length u.c2] 31)) (w.heap.size + 1) u ∧
  Below w.heap.size w ((w.alloc (.cells #[.int .i64 t.kind, .slice t.A t.ns.length t.c, .slice t.A2 t.xs.length t.c2] 31)).alloc (.cells #[.int .i64 u.kind, .slice u.A u.ns.length u.c, .slice u.A2 u.xs.length u.c2] 31)) :=
 ⟨blk_alloc (heap_new_at _ _ _ rfl) _, heap_new_at _ _ _ (by simp), ((Below.refl _ _).alloc (Nat.le_refl _) _).alloc (by simp) _⟩
def At3 (w : World) (a : Addr) (x : LTy) : Prop := a.block < w.heap.size ∧ w.cell? a = some (.int .i64 x.kind) ∧ w.cell? ⟨a.block, a.off + 1, none⟩ = some (.slice x.A x.ns.length x.c) ∧ w.cell? ⟨a.block, a.off + 2, none⟩ = some (.slice x.A2 x.xs.length x.c2)
theorem At3.below {w w' : World} {a : Addr} {x : LTy} (h : At3 w a x) (hb : Below w.heap.size w w') : At3 w' a x :=
 ⟨Nat.lt_of_lt_of_le h.1 hb.size, (hb.cell h.1).trans h.2.1, (hb.cell (p := ⟨a.block, a.off + 1, none⟩) h.1).trans h.2.2.1, (hb.cell (p := ⟨a.block, a.off + 2, none⟩) h.1).trans h.2.2.2⟩
theorem LIn.at3 {w : World} {t x : LTy} {k : Nat} (h : LIn w w.heap.size t) (hx : t.xs[k]? = some x) : ∃ ad, t.A2 = some ad ∧ At3 w (ad.add (k * 3)) x := by
 obtain ⟨ad, h1, h2, h3, h4, h5⟩ := h.cells hx
 exact ⟨ad, h1, by rw [block_add']; exact h2, h3, h4, h5⟩
theorem tb_and {p q : Prop} : tb (p ∧ q) = (tb p && tb q) := by
 by_cases hp : p
 ·by_cases hq : q
  ·rw [tb_true hp, tb_true hq, tb_true ⟨hp, hq⟩]; rfl
  ·rw [tb_true hp, tb_false hq, tb_false (fun e => hq e.2)]; rfl
 ·rw [tb_false hp, tb_false (fun e => hp e.1)]; rfl


theorem TBox.drewN {w : World} {g : Nat} {t : LTy} (h : TBox w g t) (n : Nat) : TBox (w.drewN n) g t := h

set_option maxRecDepth 100000 in
theorem trcheck_any (t : LTy) (w : World) (hin : LIn w w.heap.size t) : Calls Tryz.prog 74 #[t.val] w (RetB (.bool (tb (May (strip t)))) w) := by
 unfold LTy.val
 obtain ⟨g, hg⟩ : ∃ g, g = w.heap.size := ⟨_, rfl⟩
 have HIN := Lib.hid hin
 clear hin
 go_enter Tryz.func74, Tryz.ntmps74
 go_upto_region 1 with fail
 rw [← hg]
 refine gen_wpT fun W hW => ?_
 obtain ⟨kt, kb⟩ : TBox W g t ∧ Below w.heap.size w W := by rw [← hW, hg]; exact one_box w t
 have KB := Lib.hid kb
 have ktc0 := kt.c0
 have ktc1 := kt.c1
 have ktc2 := kt.c2
 have ktlt := kt.lt
 have hc := rchk_any t 1 0 W (HIN.out.on kb) (by omega) (by omega) (by omega)
 unfold LTy.val at hc
 have HC := Lib.hid hc
 have HG := Lib.hid hg
 clear hc hW kb kt hg
 go_wp2_with fail
 refine HC.out.mono ?_
 rintro e w1 ⟨m, ok, rfl, hb, h1, h2⟩
 have HB := Lib.hid (KB.out.trans (hb.mono KB.out.size))
 clear hb
 cases ok with
 | false =>
  have HF := Lib.hid (show RetB (.bool (tb (May (strip t)))) w (.returned (.bool false)) w1 from ⟨by rw [tb_false (fun e => by have := h2 e.1 (by have := e.2; omega); cases this)], HB.out⟩)
  clear h1 h2
  go_wp2
  go_ret
  exact HF.out
 | true =>
  obtain ⟨hm, hch, hle⟩ := h1 rfl
  by_cases hn : m ≤ 10000
  ·have hn' : decide ((m : Int) ≤ 10000) = true := decide_eq_true (by omega)
   have HF := Lib.hid (show RetB (.bool (tb (May (strip t)))) w (.returned (.bool true)) w1 from ⟨by rw [tb_true (show May (strip t) from ⟨hch, by omega⟩)], HB.out⟩)
   clear h1 h2 hm hch hn
   go_wp2
   go_ret
   exact HF.out
  ·have hn' : decide ((m : Int) ≤ 10000) = false := decide_eq_false (by omega)
   have HF := Lib.hid (show RetB (.bool (tb (May (strip t)))) w (.returned (.bool false)) w1 from ⟨by rw [tb_false (fun e => hn (by have := e.2; omega))], HB.out⟩)
   clear h1 h2 hm hch hn
   go_wp2
   go_ret
   exact HF.out
set_option maxRecDepth 100000 in
theorem tsame_any (t u : LTy) (w : World) (ht : LIn w w.heap.size t) (hu : LIn w w.heap.size u) (hsp : SpW w) : Calls Tryz.prog 51 #[t.val, u.val] w (RetB (.bool (tb (strip t = strip u ∧ May (strip t)))) w) := by
 unfold LTy.val
 obtain ⟨g, hg⟩ : ∃ g, g = w.heap.size := ⟨_, rfl⟩
 have HT := Lib.hid ht
 have HU := Lib.hid hu
 have HSP := Lib.hid hsp
 clear hsp
 clear ht hu
 go_enter Tryz.func51, Tryz.ntmps51
 go_upto_region 1 with fail
 rw [← hg]
 refine gen_wpT fun W hW => ?_
 obtain ⟨kt, ku, kb⟩ : TBox W g t ∧ TBox W (g + 1) u ∧ Below w.heap.size w W := by rw [← hW, hg]; exact two_boxes w t u
 have KB := Lib.hid kb
 have ktc0 := kt.c0
 have ktc1 := kt.c1
 have ktc2 := kt.c2
 have ktlt := kt.lt
 have kuc0 := ku.c0
 have kuc1 := ku.c1
 have kuc2 := ku.c2
 have kult := ku.lt
 clear hW hg
 have hl := tlike_any t u W (HT.out.on kb) (HU.out.on kb)
 unfold LTy.val at hl
 by_cases he : strip t = strip u
 case neg =>
  rw [tb_false he] at hl
  have HL := Lib.hid hl
  have HF := Lib.hid (show ∀ w1, Below w.heap.size w w1 → RetB (.bool (tb (strip t = strip u ∧ May (strip t)))) w (.returned (.bool false)) w1 from fun w1 h => ⟨by rw [tb_false (fun e => he e.1)], h⟩)
  clear hl he kb kt ku
  go_wp2_with fail
  refine HL.out.mono ?_
  rintro e w1 ⟨rfl, hb1⟩
  have HB1 := Lib.hid (KB.out.trans (hb1.mono KB.out.size))
  clear hb1
  go_wp2
  go_ret
  exact HF.out _ HB1.out
 rw [tb_true he] at hl
 have HL := Lib.hid hl
 have HKT := Lib.hid kt
 have HE := Lib.hid (show tb (strip t = strip u ∧ May (strip t)) = tb (May (strip t)) from by rw [tb_and, tb_true he]; rfl)
 clear hl he kb kt ku
 go_wp2_with fail
 refine HL.out.mono ?_
 rintro e w1 ⟨rfl, hb1⟩
 have HB1 := Lib.hid (KB.out.trans (hb1.mono KB.out.size))
 have kt1 := HKT.out.below hb1
 have kt1c0 := kt1.c0
 have kt1c1 := kt1.c1
 have kt1c2 := kt1.c2
 have kt1lt := kt1.lt
 have hc := tcheck_any t w1 (HT.out.on HB1.out) (HSP.out.below HB1.out)
 unfold LTy.val at hc
 have HC := Lib.hid hc
 clear hb1 kt1 hc
 go_wp2_with fail
 refine HC.out.mono ?_
 rintro e w2 ⟨rfl, hb2⟩
 have HB2 := Lib.hid (HB1.out.trans (hb2.mono HB1.out.size))
 clear hb2
 go_wp2
 go_ret
 exact ⟨by rw [HE.out]; first | rfl | (cases tb (May (strip t)) <;> rfl), HB2.out⟩
set_option maxRecDepth 100000 in
theorem trsame_any (t u : LTy) (w : World) (ht : LIn w w.heap.size t) (hu : LIn w w.heap.size u) : Calls Tryz.prog 66 #[t.val, u.val] w (RetB (.bool (tb (strip t = strip u ∧ May (strip t)))) w) := by
 unfold LTy.val
 obtain ⟨g, hg⟩ : ∃ g, g = w.heap.size := ⟨_, rfl⟩
 have HT := Lib.hid ht
 have HU := Lib.hid hu
 clear ht hu
 go_enter Tryz.func66, Tryz.ntmps66
 go_upto_region 1 with fail
 rw [← hg]
 refine gen_wpT fun W hW => ?_
 obtain ⟨kt, ku, kb⟩ : TBox W g t ∧ TBox W (g + 1) u ∧ Below w.heap.size w W := by rw [← hW, hg]; exact two_boxes w t u
 have KB := Lib.hid kb
 have ktc0 := kt.c0
 have ktc1 := kt.c1
 have ktc2 := kt.c2
 have ktlt := kt.lt
 have kuc0 := ku.c0
 have kuc1 := ku.c1
 have kuc2 := ku.c2
 have kult := ku.lt
 clear hW hg
 have HKT := Lib.hid kt
 have HKU := Lib.hid ku
 have hc := trcheck_any t W (HT.out.on kb)
 unfold LTy.val at hc
 by_cases he : May (strip t)
 case neg =>
  rw [tb_false he] at hc
  have HC := Lib.hid hc
  have HF := Lib.hid (show ∀ w1, Below w.heap.size w w1 → RetB (.bool (tb (strip t = strip u ∧ May (strip t)))) w (.returned (.bool false)) w1 from fun w1 h => ⟨by rw [tb_false (fun e => he e.2)], h⟩)
  clear hc he kb kt ku
  go_wp2_with fail
  refine HC.out.mono ?_
  rintro e w1 ⟨rfl, hb1⟩
  have HB1 := Lib.hid (KB.out.trans (hb1.mono KB.out.size))
  clear hb1
  go_wp2
  go_ret
  exact HF.out _ HB1.out
 rw [tb_true he] at hc
 have HC := Lib.hid hc
 clear hc kb kt ku
 go_wp2_with fail
 refine HC.out.mono ?_
 rintro e w1 ⟨rfl, hb1⟩
 have HB1 := Lib.hid (KB.out.trans (hb1.mono KB.out.size))
 have ku1 := HKU.out.below hb1
 have kt1 := HKT.out.below hb1
 have ku1c0 := ku1.c0
 have ku1c1 := ku1.c1
 have ku1c2 := ku1.c2
 have ku1lt := ku1.lt
 have hc := trcheck_any u w1 (HU.out.on HB1.out)
 unfold LTy.val at hc
 by_cases he2 : May (strip u)
 case neg =>
  rw [tb_false he2] at hc
  have HC2 := Lib.hid hc
  have HF := Lib.hid (show ∀ w1, Below w.heap.size w w1 → RetB (.bool (tb (strip t = strip u ∧ May (strip t)))) w (.returned (.bool false)) w1 from fun w1 h => ⟨by rw [tb_false (fun e => he2 (by have h1 := e.2; rw [e.1] at h1; exact h1))], h⟩)
  clear hc he he2 kt1 ku1 hb1
  go_wp2_with fail
  refine HC2.out.mono ?_
  rintro e w2 ⟨rfl, hb2⟩
  have HB2 := Lib.hid (HB1.out.trans (hb2.mono HB1.out.size))
  clear hb2
  go_wp2
  go_ret
  exact HF.out _ HB2.out
 rw [tb_true he2] at hc
 have HC2 := Lib.hid hc
 have HKT1 := Lib.hid kt1
 have HKU1 := Lib.hid ku1
 have HE := Lib.hid (show tb (strip t = strip u ∧ May (strip t)) = tb (strip t = strip u) from by rw [tb_and, tb_true he]; cases tb (strip t = strip u) <;> rfl)
 clear hc he he2 kt1 ku1 hb1
 go_wp2_with fail
 refine HC2.out.mono ?_
 rintro e w2 ⟨rfl, hb2⟩
 have HB2 := Lib.hid (HB1.out.trans (hb2.mono HB1.out.size))
 have ku2 := HKU1.out.below hb2
 have kt2 := HKT1.out.below hb2
 have ku2c0 := ku2.c0
 have ku2c1 := ku2.c1
 have ku2c2 := ku2.c2
 have ku2lt := ku2.lt
 have kt2c0 := kt2.c0
 have kt2c1 := kt2.c1
 have kt2c2 := kt2.c2
 have kt2lt := kt2.lt
 have hl := rlike_any t u w2 (HT.out.on HB2.out) (HU.out.on HB2.out)
 unfold LTy.val at hl
 have HL := Lib.hid hl
 clear hl ku2 kt2 hb2
 go_wp2_with fail
 refine HL.out.mono ?_
 rintro e w3 ⟨rfl, hb3⟩
 have HB3 := Lib.hid (HB2.out.trans (hb3.mono HB2.out.size))
 clear hb3
 go_wp2
 go_ret
 exact ⟨by rw [HE.out]; first | rfl | (cases tb (strip t = strip u) <;> rfl), HB3.out⟩
end Go.Proofs.YtilcofpceadpbaaGreatDoor
