/-
  ValueLabels: the walk.
-/
import Derived.Test.YthhphjfbdoffhaaValOpen
set_option linter.unusedVariables false
set_option linter.unusedSimpArgs false
namespace Go.Proofs.Ythhphjfbdoffhaa
open Go.ChangeShapes Go.WideShapes Go.ChangeAt Go.RowKit

theorem doV_label (op : Int) (a b : VV) : (doV op a b).1.label = a.label ||| b.label := by
  unfold doV
  cases doneS op a b <;> rfl
set_option maxRecDepth 100000 in
set_option maxHeartbeats 1500000 in
theorem vlabels_walk {H : Type} {d0 d1 : DataW H} (op : Int) (a : VV) (va : VVOk a d0) (b : VV) (vb : VVOk b d1) (l : List Nat) (AL : Option Addr) (c : Nat) (w : World) (hl : ∀ x ∈ l, x < 18446744073709551616) (hn : l.length ≤ 9223372036854775807)
    (hr : Reads w w.heap.size AL (l.map fun x : Nat => Value.int .u64 (x : Int))) : Calls Try.prog 4 #[.int .i64 op, .agg (vvEnc a).toArray, .agg (vvEnc b).toArray, .slice AL l.length c] w fun e w' => e = .returned (.bool true) ∧ Below w.heap.size w w' := by
  change Calls Try.prog 4 #[.int .i64 op, .agg (vvCells a), .agg (vvCells b), .slice AL l.length c] w fun e w' => e = .returned (.bool true) ∧ Below w.heap.size w w'
  have hs := fun n c t w' h => small2_any a b n c t w' h
  have h1 : smallV [a, b] = true → ∀ w, _ := fun hq w => vdo_any op a b w va.1 vb.1 (small2_le hq) va.2 vb.2
  have h2 : ∀ w', Below w.heap.size w w' → _ := fun w' hb => with_any a l AL c w' va.2 hl hn ((hr.below hb).imp id fun ⟨ad, e1, e2, e3⟩ => ⟨ad, e1, Nat.lt_of_lt_of_le e2 hb.size, e3⟩)
  have h3 := fun w => rjoin_any a.label b.label w va.2 vb.2
  have h4 : ∀ (k : Nat) (h : k < l.length) w, _ := fun k h w => rwith_any ⟨a.kind, a.n, a.s, a.label ||| joinL (l.take k)⟩ l[k] w (Nat.or_lt_two_pow (n := 64) va.2 (joinL_lt _ fun x hx => hl x (List.mem_of_mem_take hx))) (hl _ (List.getElem_mem h))
  have hq1 : ∀ w, (Op.equalIn 10000 25 (.agg (vvCells (withV a (joinL l)))) (.agg (vvCells (withV a (joinL l))))).run Try.prog w = .ok true w := fun w => by
    have := val_eq (withV a (joinL l)) (withV a (joinL l)) w
    rw [show eqV (withV a (joinL l)) (withV a (joinL l)) = true from by simp [eqV]] at this
    exact this
  have hdl := doV_label op a b
  generalize (doV op a b).1 = X at h1 hdl
  generalize (doV op a b).2 = Y at h1
  obtain ⟨xk, xn, xs, xl⟩ := X
  dsimp only at hdl
  subst hdl
  unfold vvCells withV at h2 h4 hq1
  unfold vvCells at h1 ⊢
  dsimp only at h1 h2 h4 hq1
  have H2 := Lib.hid h2
  have H3 := Lib.hid h3
  have H4 := Lib.hid h4
  have HR := Lib.hid hr
  clear va vb h2 h3 h4 hr
  cases hq : smallV [a, b]
  case false =>
    rw [hq] at hs
    have HS := Lib.hid hs
    clear hs hq h1 hq1
    go_enter Try.func4, Try.ntmps4
    go_wp2_with fail
    refine (awake03 _).mono ?_
    rintro e w0 ⟨rfl, hb0⟩
    have hA0 := below_blk hb0 (blk_alloc (heap_new_at _ _ _ rfl) _)
    have hB0 := below_blk hb0 (heap_new_at _ _ (w.heap.size + 1) (by simp))
    have a0 : w0.cell? ⟨w.heap.size, 0, none⟩ = some (.int .i64 a.kind) := cell_of_blk hA0 rfl
    have a1 : w0.cell? ⟨w.heap.size, 1, none⟩ = some (.int .i64 a.n) := cell_of_blk hA0 rfl
    have a2 : w0.cell? ⟨w.heap.size, 2, none⟩ = some (.string a.s) := cell_of_blk hA0 rfl
    have a3 : w0.cell? ⟨w.heap.size, 3, none⟩ = some (.int .u64 (a.label : Int)) := cell_of_blk hA0 rfl
    have b0 : w0.cell? ⟨w.heap.size + 1, 0, none⟩ = some (.int .i64 b.kind) := cell_of_blk hB0 rfl
    have b1 : w0.cell? ⟨w.heap.size + 1, 1, none⟩ = some (.int .i64 b.n) := cell_of_blk hB0 rfl
    have b2 : w0.cell? ⟨w.heap.size + 1, 2, none⟩ = some (.string b.s) := cell_of_blk hB0 rfl
    have b3 : w0.cell? ⟨w.heap.size + 1, 3, none⟩ = some (.int .u64 (b.label : Int)) := cell_of_blk hB0 rfl
    have hlt := blk_lt hB0
    have hlt0 : w.heap.size < w0.heap.size := by omega
    have HB0 : Hid (Below w.heap.size w w0) := Lib.hid ((((Below.refl _ _).alloc (Nat.le_refl _) _).alloc (by simp) _).trans (hb0.mono (by simp; omega)))
    have HA0 := Lib.hid hA0
    have HBB0 := Lib.hid hB0
    clear hb0 hA0 hB0
    go_wp2_with fail
    refine (HS.out _ _ _ _ (heap_alloc_new _ _)).mono ?_
    rintro e w1 ⟨rfl, hb1⟩
    go_wp2
    go_ret
    exact ⟨rfl, HB0.out.trans ((((Below.refl _ _).alloc (Nat.le_refl _) _).trans (hb1.mono (by simp))).mono HB0.out.size)⟩
  case true =>
    rw [hq] at hs
    have HS := Lib.hid hs
    have H1 := Lib.hid (h1 hq)
    clear hs hq h1
    by_cases hbig : (100 : Int) < (l.length : Int)
    · clear hq1
      go_enter Try.func4, Try.ntmps4
      go_wp2_with fail
      refine (awake03 _).mono ?_
      rintro e w0 ⟨rfl, hb0⟩
      have hA0 := below_blk hb0 (blk_alloc (heap_new_at _ _ _ rfl) _)
      have hB0 := below_blk hb0 (heap_new_at _ _ (w.heap.size + 1) (by simp))
      have a0 : w0.cell? ⟨w.heap.size, 0, none⟩ = some (.int .i64 a.kind) := cell_of_blk hA0 rfl
      have a1 : w0.cell? ⟨w.heap.size, 1, none⟩ = some (.int .i64 a.n) := cell_of_blk hA0 rfl
      have a2 : w0.cell? ⟨w.heap.size, 2, none⟩ = some (.string a.s) := cell_of_blk hA0 rfl
      have a3 : w0.cell? ⟨w.heap.size, 3, none⟩ = some (.int .u64 (a.label : Int)) := cell_of_blk hA0 rfl
      have b0 : w0.cell? ⟨w.heap.size + 1, 0, none⟩ = some (.int .i64 b.kind) := cell_of_blk hB0 rfl
      have b1 : w0.cell? ⟨w.heap.size + 1, 1, none⟩ = some (.int .i64 b.n) := cell_of_blk hB0 rfl
      have b2 : w0.cell? ⟨w.heap.size + 1, 2, none⟩ = some (.string b.s) := cell_of_blk hB0 rfl
      have b3 : w0.cell? ⟨w.heap.size + 1, 3, none⟩ = some (.int .u64 (b.label : Int)) := cell_of_blk hB0 rfl
      have hlt := blk_lt hB0
      have hlt0 : w.heap.size < w0.heap.size := by omega
      have HB0 : Hid (Below w.heap.size w w0) := Lib.hid ((((Below.refl _ _).alloc (Nat.le_refl _) _).alloc (by simp) _).trans (hb0.mono (by simp; omega)))
      have HA0 := Lib.hid hA0
      have HBB0 := Lib.hid hB0
      clear hb0 hA0 hB0
      go_wp2_with fail
      refine (HS.out _ _ _ _ (heap_alloc_new _ _)).mono ?_
      rintro e w1 ⟨rfl, hb1⟩
      go_wp2
      go_ret
      exact ⟨rfl, HB0.out.trans ((((Below.refl _ _).alloc (Nat.le_refl _) _).trans (hb1.mono (by simp))).mono HB0.out.size)⟩
    · have HQ1 := Lib.hid hq1
      clear hq1
      go_enter Try.func4, Try.ntmps4
      go_wp2_with fail
      refine (awake03 _).mono ?_
      rintro e w0 ⟨rfl, hb0⟩
      have hA0 := below_blk hb0 (blk_alloc (heap_new_at _ _ _ rfl) _)
      have hB0 := below_blk hb0 (heap_new_at _ _ (w.heap.size + 1) (by simp))
      have a0 : w0.cell? ⟨w.heap.size, 0, none⟩ = some (.int .i64 a.kind) := cell_of_blk hA0 rfl
      have a1 : w0.cell? ⟨w.heap.size, 1, none⟩ = some (.int .i64 a.n) := cell_of_blk hA0 rfl
      have a2 : w0.cell? ⟨w.heap.size, 2, none⟩ = some (.string a.s) := cell_of_blk hA0 rfl
      have a3 : w0.cell? ⟨w.heap.size, 3, none⟩ = some (.int .u64 (a.label : Int)) := cell_of_blk hA0 rfl
      have b0 : w0.cell? ⟨w.heap.size + 1, 0, none⟩ = some (.int .i64 b.kind) := cell_of_blk hB0 rfl
      have b1 : w0.cell? ⟨w.heap.size + 1, 1, none⟩ = some (.int .i64 b.n) := cell_of_blk hB0 rfl
      have b2 : w0.cell? ⟨w.heap.size + 1, 2, none⟩ = some (.string b.s) := cell_of_blk hB0 rfl
      have b3 : w0.cell? ⟨w.heap.size + 1, 3, none⟩ = some (.int .u64 (b.label : Int)) := cell_of_blk hB0 rfl
      have hlt := blk_lt hB0
      have hlt0 : w.heap.size < w0.heap.size := by omega
      have HB0 : Hid (Below w.heap.size w w0) := Lib.hid ((((Below.refl _ _).alloc (Nat.le_refl _) _).alloc (by simp) _).trans (hb0.mono (by simp; omega)))
      have HA0 := Lib.hid hA0
      have HBB0 := Lib.hid hB0
      clear hb0 hA0 hB0
      go_wp2_with fail
      refine (HS.out _ _ _ _ (heap_alloc_new _ _)).mono ?_
      rintro e w1 ⟨rfl, hb1⟩
      have hA1 := below_blk hb1 (blk_alloc HA0.out _)
      have hB1 := below_blk hb1 (blk_alloc HBB0.out _)
      clear a0 a1 a2 a3 b0 b1 b2 b3
      have a0 : w1.cell? ⟨w.heap.size, 0, none⟩ = some (.int .i64 a.kind) := cell_of_blk hA1 rfl
      have a1 : w1.cell? ⟨w.heap.size, 1, none⟩ = some (.int .i64 a.n) := cell_of_blk hA1 rfl
      have a2 : w1.cell? ⟨w.heap.size, 2, none⟩ = some (.string a.s) := cell_of_blk hA1 rfl
      have a3 : w1.cell? ⟨w.heap.size, 3, none⟩ = some (.int .u64 (a.label : Int)) := cell_of_blk hA1 rfl
      have b0 : w1.cell? ⟨w.heap.size + 1, 0, none⟩ = some (.int .i64 b.kind) := cell_of_blk hB1 rfl
      have b1 : w1.cell? ⟨w.heap.size + 1, 1, none⟩ = some (.int .i64 b.n) := cell_of_blk hB1 rfl
      have b2 : w1.cell? ⟨w.heap.size + 1, 2, none⟩ = some (.string b.s) := cell_of_blk hB1 rfl
      have b3 : w1.cell? ⟨w.heap.size + 1, 3, none⟩ = some (.int .u64 (b.label : Int)) := cell_of_blk hB1 rfl
      have HB1 : Hid (Below w.heap.size w w1) := Lib.hid (HB0.out.trans ((((Below.refl _ _).alloc (Nat.le_refl _) _).trans (hb1.mono (by simp))).mono HB0.out.size))
      have hlt1 := blk_lt hA1
      have hltb1 := blk_lt hB1
      have HA1 := Lib.hid hA1
      have HBB1 := Lib.hid hB1
      clear hA1 hB1 hb1
      go_wp2
      go_loopw [29] (fun i wr => ∃ (k : Nat), k ≤ l.length ∧ i = .int .i64 k ∧ wr.heap[w1.heap.size]? = some (.cells #[.int .i64 a.kind, .int .i64 a.n, .string a.s, .int .u64 ((a.label ||| joinL (l.take k) : Nat) : Int)] 25 (0, 0)) ∧ Below w1.heap.size w1 wr) (fun i _ => l.length - (intOf i).toNat)
      case atStart => exact ⟨0, by omega, rfl, by simpa [joinL] using heap_alloc_new w1 _, (Below.refl _ _).alloc (Nat.le_refl _) _⟩
      case round =>
        obtain ⟨k, hk, rfl, hN, hBN⟩ := hrel
        clear a0 a1 a2 a3 b0 b1 b2 b3
        have n0 : wr.cell? ⟨w1.heap.size, 0, none⟩ = some (.int .i64 a.kind) := cell_of_blk hN rfl
        have n1 : wr.cell? ⟨w1.heap.size, 1, none⟩ = some (.int .i64 a.n) := cell_of_blk hN rfl
        have n2 : wr.cell? ⟨w1.heap.size, 2, none⟩ = some (.string a.s) := cell_of_blk hN rfl
        have n3 : wr.cell? ⟨w1.heap.size, 3, none⟩ = some (.int .u64 ((a.label ||| joinL (l.take k) : Nat) : Int)) := cell_of_blk hN rfl
        have hnl := blk_lt hN
        have HBN := Lib.hid hBN
        have HN := Lib.hid hN
        clear hN hBN
        by_cases hlt : k < l.length
        · obtain ⟨ad, rfl, hadb, hcell⟩ := (HR.out.below (HB1.out.trans (HBN.out.mono HB1.out.size))).at (by intro h; simp at h; subst h; simp at hlt)
          have hc' := hcell k (.int .u64 (l[k] : Int)) (by simp [hlt])
          clear hcell
          have HK := Lib.hid (H4.out k hlt)
          have HJ := Lib.hid (joinL_snoc l k hlt)
          go_wp2_with fail
          refine (HK.out _).mono ?_
          rintro e w2 ⟨rfl, hb2⟩
          have hN2 := below_blk hb2 HN.out
          have m0 : w2.cell? ⟨w1.heap.size, 0, none⟩ = some (.int .i64 a.kind) := cell_of_blk hN2 rfl
          have m1 : w2.cell? ⟨w1.heap.size, 1, none⟩ = some (.int .i64 a.n) := cell_of_blk hN2 rfl
          have m2 : w2.cell? ⟨w1.heap.size, 2, none⟩ = some (.string a.s) := cell_of_blk hN2 rfl
          have m3 : w2.cell? ⟨w1.heap.size, 3, none⟩ = some (.int .u64 ((a.label ||| joinL (l.take k) : Nat) : Int)) := cell_of_blk hN2 rfl
          have q0 : w2.frozen? ⟨w1.heap.size, 0, none⟩ = false := free_of_blk hN2
          have q1 : w2.frozen? ⟨w1.heap.size, 1, none⟩ = false := free_of_blk hN2
          have q2 : w2.frozen? ⟨w1.heap.size, 2, none⟩ = false := free_of_blk hN2
          have q3 : w2.frozen? ⟨w1.heap.size, 3, none⟩ = false := free_of_blk hN2
          have hml := blk_lt hN2
          have HN2 := Lib.hid hN2
          have HB2 : Hid (Below w1.heap.size w1 w2) := Lib.hid (HBN.out.trans (hb2.mono (by omega)))
          clear hb2 hN2 n0 n1 n2 n3
          go_wp2
          go_roundw
          case rel =>
            refine ⟨k + 1, by omega, by go_num, ?_, (((HB2.out.setCell (by simp) _).setCell (by simp) _).setCell (by simp) _).setCell (by simp) _⟩
            have := blk_set (i := 3) (blk_set (i := 2) (blk_set (i := 1) (blk_set (i := 0) HN2.out (.int .i64 a.kind)) (.int .i64 a.n)) (.string a.s)) (.int .u64 ((a.label ||| joinL (l.take k) ||| l[k] : Nat) : Int))
            rw [HJ.out, ← Nat.or_assoc]
            exact this
          case measure => simp [intOf]; omega
        · obtain rfl : k = l.length := by omega
          have hA2 := (HBN.out.block _ hlt1).trans HA1.out
          have hB2 := (HBN.out.block _ hltb1).trans HBB1.out
          have a0 : wr.cell? ⟨w.heap.size, 0, none⟩ = some (.int .i64 a.kind) := cell_of_blk hA2 rfl
          have a1 : wr.cell? ⟨w.heap.size, 1, none⟩ = some (.int .i64 a.n) := cell_of_blk hA2 rfl
          have a2 : wr.cell? ⟨w.heap.size, 2, none⟩ = some (.string a.s) := cell_of_blk hA2 rfl
          have a3 : wr.cell? ⟨w.heap.size, 3, none⟩ = some (.int .u64 (a.label : Int)) := cell_of_blk hA2 rfl
          have b0 : wr.cell? ⟨w.heap.size + 1, 0, none⟩ = some (.int .i64 b.kind) := cell_of_blk hB2 rfl
          have b1 : wr.cell? ⟨w.heap.size + 1, 1, none⟩ = some (.int .i64 b.n) := cell_of_blk hB2 rfl
          have b2 : wr.cell? ⟨w.heap.size + 1, 2, none⟩ = some (.string b.s) := cell_of_blk hB2 rfl
          have b3 : wr.cell? ⟨w.heap.size + 1, 3, none⟩ = some (.int .u64 (b.label : Int)) := cell_of_blk hB2 rfl
          have HBR : Hid (Below w.heap.size w wr) := Lib.hid (HB1.out.trans (HBN.out.mono HB1.out.size))
          have hlA := blk_lt hA2
          have hlB := blk_lt hB2
          go_wp2_with fail
          refine (H1.out _).mono ?_
          rintro e w3 ⟨rfl, hb3⟩
          have hA3 := below_blk hb3 hA2
          have hB3 := below_blk hb3 hB2
          have hN3 := below_blk hb3 HN.out
          rw [List.take_length] at hN3
          have hb3' : Below w.heap.size w w3 := HBR.out.trans (hb3.mono HBR.out.size)
          clear hb3 a0 a1 a2 a3 b0 b1 b2 b3 n0 n1 n2 n3
          go_wp2_with fail
          refine gen_wp fun W hW => ?_
          have hA : W.heap[w.heap.size]? = some (.cells #[.int .i64 a.kind, .int .i64 a.n, .string a.s, .int .u64 (a.label : Int)] 25 (0, 0)) := by rw [← hW]; exact blk_alloc hA3 _
          have hB : W.heap[w.heap.size + 1]? = some (.cells #[.int .i64 b.kind, .int .i64 b.n, .string b.s, .int .u64 (b.label : Int)] 25 (0, 0)) := by rw [← hW]; exact blk_alloc hB3 _
          have hN : W.heap[w1.heap.size]? = some (.cells #[.int .i64 a.kind, .int .i64 a.n, .string a.s, .int .u64 ((a.label ||| joinL l : Nat) : Int)] 25 (0, 0)) := by rw [← hW]; exact blk_alloc hN3 _
          have hV : W.heap[w3.heap.size]? = some (.cells #[.int .i64 xk, .int .i64 xn, .string xs, .int .u64 ((a.label ||| b.label : Nat) : Int)] 25 (0, 0)) := by rw [← hW]; exact heap_alloc_new _ _
          have HBW : Hid (Below w.heap.size w W) := by rw [← hW]; exact Lib.hid (hb3'.alloc hb3'.size _)
          clear hW
          have a0 : W.cell? ⟨w.heap.size, 0, none⟩ = some (.int .i64 a.kind) := cell_of_blk hA rfl
          have a1 : W.cell? ⟨w.heap.size, 1, none⟩ = some (.int .i64 a.n) := cell_of_blk hA rfl
          have a2 : W.cell? ⟨w.heap.size, 2, none⟩ = some (.string a.s) := cell_of_blk hA rfl
          have a3 : W.cell? ⟨w.heap.size, 3, none⟩ = some (.int .u64 (a.label : Int)) := cell_of_blk hA rfl
          have b0 : W.cell? ⟨w.heap.size + 1, 0, none⟩ = some (.int .i64 b.kind) := cell_of_blk hB rfl
          have b1 : W.cell? ⟨w.heap.size + 1, 1, none⟩ = some (.int .i64 b.n) := cell_of_blk hB rfl
          have b2 : W.cell? ⟨w.heap.size + 1, 2, none⟩ = some (.string b.s) := cell_of_blk hB rfl
          have b3 : W.cell? ⟨w.heap.size + 1, 3, none⟩ = some (.int .u64 (b.label : Int)) := cell_of_blk hB rfl
          have n0 : W.cell? ⟨w1.heap.size, 0, none⟩ = some (.int .i64 a.kind) := cell_of_blk hN rfl
          have n1 : W.cell? ⟨w1.heap.size, 1, none⟩ = some (.int .i64 a.n) := cell_of_blk hN rfl
          have n2 : W.cell? ⟨w1.heap.size, 2, none⟩ = some (.string a.s) := cell_of_blk hN rfl
          have n3 : W.cell? ⟨w1.heap.size, 3, none⟩ = some (.int .u64 ((a.label ||| joinL l : Nat) : Int)) := cell_of_blk hN rfl
          have v0 : W.cell? ⟨w3.heap.size, 0, none⟩ = some (.int .i64 xk) := cell_of_blk hV rfl
          have v1 : W.cell? ⟨w3.heap.size, 1, none⟩ = some (.int .i64 xn) := cell_of_blk hV rfl
          have v2 : W.cell? ⟨w3.heap.size, 2, none⟩ = some (.string xs) := cell_of_blk hV rfl
          have v3 : W.cell? ⟨w3.heap.size, 3, none⟩ = some (.int .u64 ((a.label ||| b.label : Nat) : Int)) := cell_of_blk hV rfl
          have XhA := Lib.hid hA
          have XhB := Lib.hid hB
          have XhN := Lib.hid hN
          have XhV := Lib.hid hV
          clear hA hB hN hV hA2 hB2 hA3 hB3 hN3 hb3'
          have hq1 := HQ1.out
          go_region_held3 (fun w' => w'.cell? ⟨w.heap.size, 0, none⟩ = some (.int .i64 a.kind) ∧ w'.cell? ⟨w.heap.size, 1, none⟩ = some (.int .i64 a.n) ∧ w'.cell? ⟨w.heap.size, 2, none⟩ = some (.string a.s) ∧ w'.cell? ⟨w.heap.size, 3, none⟩ = some (.int .u64 (a.label : Int)) ∧ w'.cell? ⟨w.heap.size + 1, 0, none⟩ = some (.int .i64 b.kind) ∧ w'.cell? ⟨w.heap.size + 1, 1, none⟩ = some (.int .i64 b.n) ∧ w'.cell? ⟨w.heap.size + 1, 2, none⟩ = some (.string b.s) ∧ w'.cell? ⟨w.heap.size + 1, 3, none⟩ = some (.int .u64 (b.label : Int)) ∧ w'.cell? ⟨w1.heap.size, 0, none⟩ = some (.int .i64 a.kind) ∧ w'.cell? ⟨w1.heap.size, 1, none⟩ = some (.int .i64 a.n) ∧ w'.cell? ⟨w1.heap.size, 2, none⟩ = some (.string a.s) ∧ w'.cell? ⟨w1.heap.size, 3, none⟩ = some (.int .u64 ((a.label ||| joinL l : Nat) : Int)) ∧ w'.cell? ⟨w3.heap.size, 0, none⟩ = some (.int .i64 xk) ∧ w'.cell? ⟨w3.heap.size, 1, none⟩ = some (.int .i64 xn) ∧ w'.cell? ⟨w3.heap.size, 2, none⟩ = some (.string xs) ∧ w'.cell? ⟨w3.heap.size, 3, none⟩ = some (.int .u64 ((a.label ||| b.label : Nat) : Int))) (first | go_keep | exact ks1 | exact ks2)
            ((first
              | (go_at_call 18; refine (H2.out _ HBW.out.drew).mono ?_; rintro e y1 ⟨rfl, hy1⟩; have hA1 := below_blk hy1 (blk_drew XhA.out); have hB1 := below_blk hy1 (blk_drew XhB.out); have hN1 := below_blk hy1 (blk_drew XhN.out); have hV1 := below_blk hy1 (blk_drew XhV.out); have ks1 := (And.intro (cell_of_blk (i := 0) hA1 rfl) (And.intro (cell_of_blk (i := 1) hA1 rfl) (And.intro (cell_of_blk (i := 2) hA1 rfl) (And.intro (cell_of_blk (i := 3) hA1 rfl) (And.intro (cell_of_blk (i := 0) hB1 rfl) (And.intro (cell_of_blk (i := 1) hB1 rfl) (And.intro (cell_of_blk (i := 2) hB1 rfl) (And.intro (cell_of_blk (i := 3) hB1 rfl) (And.intro (cell_of_blk (i := 0) hN1 rfl) (And.intro (cell_of_blk (i := 1) hN1 rfl) (And.intro (cell_of_blk (i := 2) hN1 rfl) (And.intro (cell_of_blk (i := 3) hN1 rfl) (And.intro (cell_of_blk (i := 0) hV1 rfl) (And.intro (cell_of_blk (i := 1) hV1 rfl) (And.intro (cell_of_blk (i := 2) hV1 rfl) (cell_of_blk (i := 3) hV1 rfl)))))))))))))))))
              | (go_at_call 19; refine (H3.out _).mono ?_; rintro e y2 ⟨rfl, rfl⟩; have ks2 := (And.intro (cell_of_blk (i := 0) hA1 rfl) (And.intro (cell_of_blk (i := 1) hA1 rfl) (And.intro (cell_of_blk (i := 2) hA1 rfl) (And.intro (cell_of_blk (i := 3) hA1 rfl) (And.intro (cell_of_blk (i := 0) hB1 rfl) (And.intro (cell_of_blk (i := 1) hB1 rfl) (And.intro (cell_of_blk (i := 2) hB1 rfl) (And.intro (cell_of_blk (i := 3) hB1 rfl) (And.intro (cell_of_blk (i := 0) hN1 rfl) (And.intro (cell_of_blk (i := 1) hN1 rfl) (And.intro (cell_of_blk (i := 2) hN1 rfl) (And.intro (cell_of_blk (i := 3) hN1 rfl) (And.intro (cell_of_blk (i := 0) hV1 rfl) (And.intro (cell_of_blk (i := 1) hV1 rfl) (And.intro (cell_of_blk (i := 2) hV1 rfl) (cell_of_blk (i := 3) hV1 rfl)))))))))))))))))))
          go_wp2
          go_ret
          exact ⟨rfl, HBW.out.trans (((Below.refl _ _).drew.trans hy1).mono HBW.out.size)⟩
end Go.Proofs.Ythhphjfbdoffhaa
