/-
  Chapter 25: slices.Equal of int64s; Alike, both.
-/
import Derived.Test.YthgcadikinfdiaaDoorTrC
import Derived.Deep.RegionWith
import Derived.Deep.RegionHeld3
set_option linter.unusedVariables false
set_option linter.unusedSimpArgs false
namespace Go.Proofs.YthgcadikinfdiaaDoor
open Go.ChangeShapes Go.WideShapes Go.ChangeAt Go.RowKit

def i64s (xs : List Int) : List Value := xs.map fun x => Value.int .i64 x
theorem i64_ne {xs : List Int} {k : Nat} {x : Int} (h : xs[k]? = some x) : (i64s xs)[k]? = some (.int .i64 x) := by simp [i64s, h]
theorem reads_i64 {w : World} {B : Nat} {A : Option Addr} {xs : List Int} (h : Reads w B A (i64s xs)) {k : Nat} {x : Int} (hx : xs[k]? = some x) : ∃ ad, A = some ad ∧ ad.block < B ∧ w.cell? (ad.add k) = some (.int .i64 x) := by
  obtain ⟨ad, h1, h2, h3⟩ := h.at (fun e => by have := i64_ne hx; rw [e] at this; simp at this)
  exact ⟨ad, h1, h2, h3 k _ (i64_ne hx)⟩
theorem ne_at {xs ys : List Int} {k : Nat} {x y : Int} (hx : xs[k]? = some x) (hy : ys[k]? = some y) (h : ¬ x = y) : ¬ xs = ys := by
  rintro rfl
  rw [hx] at hy
  exact h (Option.some.inj hy)
theorem eq_upto {xs ys : List Int} (hl : xs.length = ys.length) (h : ∀ i, i < xs.length → ys[i]? = xs[i]?) : xs = ys := by
  refine List.ext_getElem? fun i => ?_
  by_cases hi : i < xs.length
  · exact (h i hi).symm
  · rw [List.getElem?_eq_none (by omega), List.getElem?_eq_none (by omega)]
set_option maxRecDepth 100000 in
set_option maxHeartbeats 2000000 in
theorem equal_any (xs ys : List Int) (A C : Option Addr) (c d : Nat) (w : World) (B : Nat) (hB0 : B ≤ w.heap.size) (hx : Reads w B A (i64s xs)) (hy : Reads w B C (i64s ys)) (hnx : xs.length ≤ 9223372036854775807) (hny : ys.length ≤ 9223372036854775807) :
    Calls Tryd.prog 28 #[.slice A xs.length c, .slice C ys.length d] w fun e w' => e = .returned (.bool (decide (xs = ys))) ∧ Below w.heap.size w w' := by
  have HX := Lib.hid hx
  have HY := Lib.hid hy
  clear hx hy
  by_cases hl : ¬ xs.length = ys.length
  · have hl' : (((xs.length : Int)) != (ys.length : Int)) = true := by simp; omega
    have hd : decide (xs = ys) = false := decide_eq_false fun h => hl (by rw [h])
    rw [hd]
    go_enter Tryd.func28, Tryd.ntmps28
    go_wp2
    go_ret
    exact ⟨rfl, Below.refl _ _⟩
  have hl := Decidable.not_not.1 hl
  have hl' : (((xs.length : Int)) != (ys.length : Int)) = false := by simp; omega
  have HL := Lib.hid hl
  clear hl
  go_enter Tryd.func28, Tryd.ntmps28
  go_wp2
  go_loopw [13] (fun i wr => ∃ (k : Nat), k ≤ xs.length ∧ i = .int .i64 k ∧ Hid (∀ i, i < k → ys[i]? = xs[i]?) ∧ Below w.heap.size w wr) (fun i _ => xs.length - (intOf i).toNat)
  case atStart => exact ⟨0, by omega, rfl, Lib.hid fun i hi => by omega, Below.refl _ _⟩
  case round =>
    obtain ⟨k, hk, rfl, hp, hB⟩ := hrel
    have hsz := hB.size
    by_cases hlt : k < xs.length
    · have hlt2 : k < ys.length := by rw [← HL.out]; exact hlt
      obtain ⟨x, hx⟩ : ∃ x, xs[k]? = some x := ⟨_, List.getElem?_eq_getElem hlt⟩
      obtain ⟨y, hy⟩ : ∃ y, ys[k]? = some y := ⟨_, List.getElem?_eq_getElem hlt2⟩
      obtain ⟨ad, rfl, hadb, hc0⟩ := reads_i64 (HX.out.below (hB.mono hB0)) hx
      obtain ⟨ad2, rfl, hadb2, hd0⟩ := reads_i64 (HY.out.below (hB.mono hB0)) hy
      have HK := Lib.hid hx
      have HKy := Lib.hid hy
      have HB := Lib.hid hB
      clear hx hy hB
      by_cases he : x = y
      · subst he
        have hq : (x != x) = false := by simp
        go_wp2_with fail
        all_goals go_quiet (fail)
        go_wp2
        go_roundw
        case rel =>
          refine ⟨k + 1, by omega, by go_num, Lib.hid fun i hi => ?_, below_drewN HB.out _⟩
          rcases Nat.lt_or_ge i k with h | h
          · exact hp.out i h
          · obtain rfl : i = k := by omega
            rw [HK.out, HKy.out]
        case measure => simp [intOf]; omega
      · have hq : (x != y) = true := by simpa using he
        have hb : decide (xs = ys) = false := decide_eq_false (ne_at HK.out HKy.out he)
        have HBE := Lib.hid hb
        clear hp hb
        go_wp2_with fail
        all_goals go_quiet (fail)
        go_wp2
        go_ret
        exact ⟨by rw [HBE.out]; rfl, below_drewN HB.out _⟩
    · obtain rfl : k = xs.length := by omega
      have HBE := Lib.hid (decide_eq_true (eq_upto HL.out hp.out))
      go_wp2
      go_ret
      exact ⟨by rw [HBE.out]; rfl, hB⟩
def alike (xs ys : Nat → List Int) (m : Nat → Nat) (see : Nat) : Bool := (List.range 8).all fun k => !flowsB (m k) see || decide (xs k = ys k)
theorem alike_yes {xs ys : Nat → List Int} {m : Nat → Nat} {see : Nat} (h : ∀ k, k < 8 → flowsB (m k) see = true → xs k = ys k) : alike xs ys m see = true := by
  refine List.all_eq_true.2 fun k hk => ?_
  have := h k (List.mem_range.1 hk)
  cases hf : flowsB (m k) see
  · rfl
  · simp [this hf]
theorem alike_no {xs ys : Nat → List Int} {m : Nat → Nat} {see : Nat} {k : Nat} (hk : k < 8) (hf : flowsB (m k) see = true) (h : ¬ xs k = ys k) : alike xs ys m see = false := by
  refine Bool.eq_false_iff.2 fun ha => ?_
  have := List.all_eq_true.1 ha k (List.mem_range.2 hk)
  simp [hf, h] at this
theorem alike_step {xs ys : Nat → List Int} {m : Nat → Nat} {see k : Nat} (h : ∀ i, i < k → flowsB (m i) see = true → xs i = ys i) (hk : flowsB (m k) see = true → xs k = ys k) : ∀ i, i < k + 1 → flowsB (m i) see = true → xs i = ys i := fun i hi => by
  rcases Nat.lt_or_ge i k with h' | h'
  · exact h i h'
  · obtain rfl : i = k := by omega
    exact hk
/-- Eight slices. -/
def sl8 (A : Nat → Option Addr) (xs : Nat → List Int) (c : Nat → Nat) (k : Nat) : Value := .slice (A k) (xs k).length (c k)
theorem blk3 {w wr : World} {o0 o1 o2 : Obj} (h : Below (w.heap.size + 3) (((w.alloc o0).alloc o1).alloc o2) wr) : wr.heap[w.heap.size]? = some o0 ∧ wr.heap[w.heap.size + 1]? = some o1 ∧ wr.heap[w.heap.size + 1 + 1]? = some o2 :=
  ⟨(h.block _ (by omega)).trans (blk_alloc (blk_alloc (heap_alloc_new w _) _) _), (h.block _ (by omega)).trans (blk_alloc (heap_new_at _ _ _ (by simp)) _), (h.block _ (by omega)).trans (heap_new_at _ _ _ (by simp))⟩
set_option maxRecDepth 100000 in
set_option maxHeartbeats 1000000 in
theorem alike_any (xs ys : Nat → List Int) (A C : Nat → Option Addr) (c d : Nat → Nat) (m : Nat → Nat) (see : Nat) (w : World) (hm : ∀ i, i < 8 → m i < 18446744073709551616) (hs : see < 18446744073709551616)
    (hx : ∀ k, k < 8 → Reads w w.heap.size (A k) (i64s (xs k)) ∧ (xs k).length ≤ 9223372036854775807) (hy : ∀ k, k < 8 → Reads w w.heap.size (C k) (i64s (ys k)) ∧ (ys k).length ≤ 9223372036854775807) :
    Calls Tryd.prog 17 #[.agg (arr8 (sl8 A xs c)), .agg (arr8 (sl8 C ys d)), .agg (arr8 (mv m)), .int .u64 (see : Int)] w (RetB (.bool (alike xs ys m see)) w) := by
  have HX := Lib.hid hx
  have HY := Lib.hid hy
  have HM := Lib.hid hm
  clear hx hy hm
  go_enter Tryd.func17, Tryd.ntmps17
  go_wp2
  go_loopw [10] (fun i wr => ∃ (k : Nat), k ≤ 8 ∧ i = .int .i64 k ∧ Hid (∀ i, i < k → flowsB (m i) see = true → xs i = ys i) ∧ Below (w.heap.size + 3) (((w.alloc (.cells (arr8 (sl8 A xs c)) 35)).alloc (.cells (arr8 (sl8 C ys d)) 35)).alloc (.cells (arr8 (mv m)) 25)) wr) (fun i _ => 8 - (intOf i).toNat)
  case atStart => exact ⟨0, by omega, rfl, Lib.hid fun i hi => by omega, Below.refl _ _⟩
  case round =>
    obtain ⟨k, hk, rfl, hp, hB⟩ := hrel
    obtain ⟨b0, b1, b2⟩ := blk3 hB
    have hsz := hB.size
    simp at hsz
    have hBw : Below w.heap.size w wr := ((((Below.refl _ w).alloc (Nat.le_refl _) _).alloc (by simp) _).alloc (by simp; omega) _).trans (hB.mono (by omega))
    by_cases hlt : k < 8
    · have q0 : wr.cell? ⟨w.heap.size + 1 + 1, 0, none⟩ = some (mv m 0) := cell_of_blk b2 rfl
      have q1 : wr.cell? ⟨w.heap.size + 1 + 1, 1, none⟩ = some (mv m 1) := cell_of_blk b2 rfl
      have q2 : wr.cell? ⟨w.heap.size + 1 + 1, 2, none⟩ = some (mv m 2) := cell_of_blk b2 rfl
      have q3 : wr.cell? ⟨w.heap.size + 1 + 1, 3, none⟩ = some (mv m 3) := cell_of_blk b2 rfl
      have q4 : wr.cell? ⟨w.heap.size + 1 + 1, 4, none⟩ = some (mv m 4) := cell_of_blk b2 rfl
      have q5 : wr.cell? ⟨w.heap.size + 1 + 1, 5, none⟩ = some (mv m 5) := cell_of_blk b2 rfl
      have q6 : wr.cell? ⟨w.heap.size + 1 + 1, 6, none⟩ = some (mv m 6) := cell_of_blk b2 rfl
      have q7 : wr.cell? ⟨w.heap.size + 1 + 1, 7, none⟩ = some (mv m 7) := cell_of_blk b2 rfl
      have f0 : wr.cell? ⟨w.heap.size, k, none⟩ = some (.slice (A k) (xs k).length (c k)) := cell_of_blk b0 (eight_arr (sl8 A xs c) k hlt)
      have f1 : wr.cell? ⟨w.heap.size + 1, k, none⟩ = some (.slice (C k) (ys k).length (d k)) := cell_of_blk b1 (eight_arr (sl8 C ys d) k hlt)
      have l0 := blk_lt b0
      have l1 := blk_lt b1
      have l2 := blk_lt b2
      have hk8 : (k : Int) < 8 := by omega
      have HF := Lib.hid (fun W => sees_any m k see W HM.out hs)
      rw [show seesB m (k : Int) see = flowsB (m k) see from seesB_in m k see hlt] at HF
      have HB := Lib.hid hB
      have HBw := Lib.hid hBw
      clear hB hBw
      have B0 := Lib.hid b0
      have B1 := Lib.hid b1
      have B2 := Lib.hid b2
      clear b0 b1 b2 q0 q1 q2 q3 q4 q5 q6 q7 f0 f1
      cases hfl : flowsB (m k) see
      · rw [hfl] at HF
        have HFL := Lib.hid hfl
        clear hfl
        go_wp2_with fail
        refine wp_region_noPanic ?_
        refine wp_region_held_drew (S := fun w' => w'.heap[w.heap.size]? = some (.cells (arr8 (sl8 A xs c)) 35 (0, 0)) ∧ w'.heap[w.heap.size + 1]? = some (.cells (arr8 (sl8 C ys d)) 35 (0, 0)) ∧ w'.heap[w.heap.size + 1 + 1]? = some (.cells (arr8 (mv m)) 25 (0, 0))) (by kernel_rfl) (⟨B0.out, B1.out, B2.out⟩) (fun hHeld => ?_)
        refine wpAnyH_take (i := 0) (oi := _) (v := .agg #[mv m 0, mv m 1, mv m 2, mv m 3, mv m 4, mv m 5, mv m 6, mv m 7]) rfl (by kernel_rfl) (by kernel_rfl) (by kernel_rfl) (fun _ _ _ h => h) (Or.inl ⟨by rfl, fun w' hS => (by obtain ⟨s0, s1, s2⟩ := hS; have q0 : w'.cell? ⟨w.heap.size + 1 + 1, 0, none⟩ = some (mv m 0) := cell_of_blk s2 rfl; have q1 : w'.cell? ⟨w.heap.size + 1 + 1, 1, none⟩ = some (mv m 1) := cell_of_blk s2 rfl; have q2 : w'.cell? ⟨w.heap.size + 1 + 1, 2, none⟩ = some (mv m 2) := cell_of_blk s2 rfl; have q3 : w'.cell? ⟨w.heap.size + 1 + 1, 3, none⟩ = some (mv m 3) := cell_of_blk s2 rfl; have q4 : w'.cell? ⟨w.heap.size + 1 + 1, 4, none⟩ = some (mv m 4) := cell_of_blk s2 rfl; have q5 : w'.cell? ⟨w.heap.size + 1 + 1, 5, none⟩ = some (mv m 5) := cell_of_blk s2 rfl; have q6 : w'.cell? ⟨w.heap.size + 1 + 1, 6, none⟩ = some (mv m 6) := cell_of_blk s2 rfl; have q7 : w'.cell? ⟨w.heap.size + 1 + 1, 7, none⟩ = some (mv m 7) := cell_of_blk s2 rfl; go_simp)⟩) hHeld ?_
        change wpAnyH _ _ _ _ _ _ _ (Act.put _ (some 13) _) _
        try simp only [Act.put, List.setIfInBounds_toArray, List.set_cons_zero, List.set_cons_succ]
        refine wpAnyH_take (i := 1) (oi := _) (v := .int .i64 (k : Int)) rfl (by kernel_rfl) (by kernel_rfl) (by kernel_rfl) (fun _ _ _ h => h) (Or.inl ⟨by rfl, fun w' hS => (by go_simp)⟩) hHeld ?_
        change wpAnyH _ _ _ _ _ _ _ (Act.put _ (some 14) _) _
        try simp only [Act.put, List.setIfInBounds_toArray, List.set_cons_zero, List.set_cons_succ]
        refine wpAnyH_take (i := 2) (oi := _) (v := .int .u64 (see : Int)) rfl (by kernel_rfl) (by kernel_rfl) (by kernel_rfl) (fun _ _ _ h => h) (Or.inl ⟨by rfl, fun w' hS => (by go_simp)⟩) hHeld ?_
        change wpAnyH _ _ _ _ _ _ _ (Act.put _ (some 15) _) _
        try simp only [Act.put, List.setIfInBounds_toArray, List.set_cons_zero, List.set_cons_succ]
        refine wpAnyH_ready (rs := [3]) (by kernel_rfl) (by simp) ?_
        refine AllReadyH.cons (o := _) rfl (fun K hK => ?_) AllReadyH.nil
        go_simp
        refine (HF.out _).mono ?_
        rintro e w1 ⟨rfl, rfl⟩
        refine hK.out _ _ (⟨blk_drew (blk_alloc B0.out _), blk_drew (blk_alloc B1.out _), blk_drew (blk_alloc B2.out _)⟩) (fun hHeld => ?_)
        clear hK K
        try simp only [Act.put, List.setIfInBounds_toArray, List.set_cons_zero, List.set_cons_succ]
        refine wpAnyH_take (i := 4) (oi := _) (v := .bool false) rfl (by kernel_rfl) (by kernel_rfl) (by kernel_rfl) (fun _ _ _ h => h) (Or.inl ⟨by rfl, fun w' hS => (by go_simp)⟩) hHeld ?_
        change wpAnyH _ _ _ _ _ _ _ (Act.put _ (some 17) _) _
        try simp only [Act.put, List.setIfInBounds_toArray, List.set_cons_zero, List.set_cons_succ]
        refine wpAnyH_take (i := 5) (oi := _) (v := undef) rfl (by kernel_rfl) (by kernel_rfl) (by kernel_rfl) (fun _ _ _ h => h) (Or.inr ⟨by kernel_rfl, rfl⟩) hHeld ?_
        change wpAnyH _ _ _ _ _ _ _ (Act.put _ (some 18) _) _
        try simp only [Act.put, List.setIfInBounds_toArray, List.set_cons_zero, List.set_cons_succ]
        refine wpAnyH_take (i := 6) (oi := _) (v := undef) rfl (by kernel_rfl) (by kernel_rfl) (by kernel_rfl) (fun _ _ _ h => h) (Or.inr ⟨by kernel_rfl, rfl⟩) hHeld ?_
        change wpAnyH _ _ _ _ _ _ _ (Act.put _ (some 19) _) _
        try simp only [Act.put, List.setIfInBounds_toArray, List.set_cons_zero, List.set_cons_succ]
        refine wpAnyH_take (i := 7) (oi := _) (v := undef) rfl (by kernel_rfl) (by kernel_rfl) (by kernel_rfl) (fun _ _ _ h => h) (Or.inr ⟨by kernel_rfl, rfl⟩) hHeld ?_
        change wpAnyH _ _ _ _ _ _ _ (Act.put _ (some 20) _) _
        try simp only [Act.put, List.setIfInBounds_toArray, List.set_cons_zero, List.set_cons_succ]
        refine wpAnyH_take (i := 8) (oi := _) (v := undef) rfl (by kernel_rfl) (by kernel_rfl) (by kernel_rfl) (fun _ _ _ h => h) (Or.inr ⟨by kernel_rfl, rfl⟩) hHeld ?_
        change wpAnyH _ _ _ _ _ _ _ (Act.put _ (some 21) _) _
        try simp only [Act.put, List.setIfInBounds_toArray, List.set_cons_zero, List.set_cons_succ]
        refine wpAnyH_take (i := 9) (oi := _) (v := undef) rfl (by kernel_rfl) (by kernel_rfl) (by kernel_rfl) (fun _ _ _ h => h) (Or.inr ⟨by kernel_rfl, rfl⟩) hHeld ?_
        change wpAnyH _ _ _ _ _ _ _ (Act.put _ (some 22) _) _
        try simp only [Act.put, List.setIfInBounds_toArray, List.set_cons_zero, List.set_cons_succ]
        refine wpAnyH_take (i := 10) (oi := _) (v := undef) rfl (by kernel_rfl) (by kernel_rfl) (by kernel_rfl) (fun _ _ _ h => h) (Or.inr ⟨by kernel_rfl, rfl⟩) hHeld ?_
        change wpAnyH _ _ _ _ _ _ _ (Act.put _ (some 23) _) _
        try simp only [Act.put, List.setIfInBounds_toArray, List.set_cons_zero, List.set_cons_succ]
        refine wpAnyH_take (i := 11) (oi := _) (v := undef) rfl (by kernel_rfl) (by kernel_rfl) (by kernel_rfl) (fun _ _ _ h => h) (Or.inr ⟨by kernel_rfl, rfl⟩) hHeld ?_
        change wpAnyH _ _ _ _ _ _ _ (Act.put _ (some 24) _) _
        try simp only [Act.put, List.setIfInBounds_toArray, List.set_cons_zero, List.set_cons_succ]
        refine wpAnyH_take (i := 12) (oi := _) (v := undef) rfl (by kernel_rfl) (by kernel_rfl) (by kernel_rfl) (fun _ _ _ h => h) (Or.inr ⟨by kernel_rfl, rfl⟩) hHeld ?_
        change wpAnyH _ _ _ _ _ _ _ (Act.put _ (some 25) _) _
        try simp only [Act.put, List.setIfInBounds_toArray, List.set_cons_zero, List.set_cons_succ]
        refine wpAnyH_take (i := 13) (oi := _) (v := .bool false) rfl (by kernel_rfl) (by kernel_rfl) (by kernel_rfl) (fun _ _ _ h => h) (Or.inl ⟨by rfl, fun w' hS => (by go_simp)⟩) hHeld ?_
        change wpAnyH _ _ _ _ _ _ _ (Act.put _ (some 26) _) _
        try simp only [Act.put, List.setIfInBounds_toArray, List.set_cons_zero, List.set_cons_succ]
        refine wpAnyH_done (by kernel_rfl) ?_ _
        refine NoPanic.normal ?_
        go_wp2
        go_roundw
        case rel => exact ⟨k + 1, by omega, by go_num, Lib.hid (alike_step hp.out fun h => by rw [HFL.out] at h; cases h), HB.out.trans (((Below.refl _ _).alloc (by omega) _).drew)⟩
        case measure => simp [intOf]; omega
      · rw [hfl] at HF
        have HFL := Lib.hid hfl
        clear hfl
        have hE : ∀ W, Below wr.heap.size wr W → Calls Tryd.prog 28 #[.slice (A k) (xs k).length (c k), .slice (C k) (ys k).length (d k)] W fun e w' => e = .returned (.bool (decide (xs k = ys k))) ∧ Below wr.heap.size wr w' := fun W hW => by
          have hW2 := HBw.out.trans (hW.mono HBw.out.size)
          refine (equal_any (xs k) (ys k) (A k) (C k) (c k) (d k) W w.heap.size hW2.size ((HX.out k hlt).1.below hW2) ((HY.out k hlt).1.below hW2) (HX.out k hlt).2 (HY.out k hlt).2).mono ?_
          rintro e w' ⟨rfl, hb⟩
          exact ⟨rfl, hW.trans (hb.mono hW.size)⟩
        by_cases he : xs k = ys k
        · rw [decide_eq_true he] at hE
          have HE := Lib.hid hE
          have HEq := Lib.hid he
          clear hE he
          go_wp2_with fail
          refine wp_region_noPanic ?_
          refine wp_region_held_drew (S := fun w' => w'.heap[w.heap.size]? = some (.cells (arr8 (sl8 A xs c)) 35 (0, 0)) ∧ w'.heap[w.heap.size + 1]? = some (.cells (arr8 (sl8 C ys d)) 35 (0, 0)) ∧ w'.heap[w.heap.size + 1 + 1]? = some (.cells (arr8 (mv m)) 25 (0, 0))) (by kernel_rfl) (⟨B0.out, B1.out, B2.out⟩) (fun hHeld => ?_)
          refine wpAnyH_take (i := 0) (oi := _) (v := .agg #[mv m 0, mv m 1, mv m 2, mv m 3, mv m 4, mv m 5, mv m 6, mv m 7]) rfl (by kernel_rfl) (by kernel_rfl) (by kernel_rfl) (fun _ _ _ h => h) (Or.inl ⟨by rfl, fun w' hS => (by obtain ⟨s0, s1, s2⟩ := hS; have q0 : w'.cell? ⟨w.heap.size + 1 + 1, 0, none⟩ = some (mv m 0) := cell_of_blk s2 rfl; have q1 : w'.cell? ⟨w.heap.size + 1 + 1, 1, none⟩ = some (mv m 1) := cell_of_blk s2 rfl; have q2 : w'.cell? ⟨w.heap.size + 1 + 1, 2, none⟩ = some (mv m 2) := cell_of_blk s2 rfl; have q3 : w'.cell? ⟨w.heap.size + 1 + 1, 3, none⟩ = some (mv m 3) := cell_of_blk s2 rfl; have q4 : w'.cell? ⟨w.heap.size + 1 + 1, 4, none⟩ = some (mv m 4) := cell_of_blk s2 rfl; have q5 : w'.cell? ⟨w.heap.size + 1 + 1, 5, none⟩ = some (mv m 5) := cell_of_blk s2 rfl; have q6 : w'.cell? ⟨w.heap.size + 1 + 1, 6, none⟩ = some (mv m 6) := cell_of_blk s2 rfl; have q7 : w'.cell? ⟨w.heap.size + 1 + 1, 7, none⟩ = some (mv m 7) := cell_of_blk s2 rfl; go_simp)⟩) hHeld ?_
          change wpAnyH _ _ _ _ _ _ _ (Act.put _ (some 13) _) _
          try simp only [Act.put, List.setIfInBounds_toArray, List.set_cons_zero, List.set_cons_succ]
          refine wpAnyH_take (i := 1) (oi := _) (v := .int .i64 (k : Int)) rfl (by kernel_rfl) (by kernel_rfl) (by kernel_rfl) (fun _ _ _ h => h) (Or.inl ⟨by rfl, fun w' hS => (by go_simp)⟩) hHeld ?_
          change wpAnyH _ _ _ _ _ _ _ (Act.put _ (some 14) _) _
          try simp only [Act.put, List.setIfInBounds_toArray, List.set_cons_zero, List.set_cons_succ]
          refine wpAnyH_take (i := 2) (oi := _) (v := .int .u64 (see : Int)) rfl (by kernel_rfl) (by kernel_rfl) (by kernel_rfl) (fun _ _ _ h => h) (Or.inl ⟨by rfl, fun w' hS => (by go_simp)⟩) hHeld ?_
          change wpAnyH _ _ _ _ _ _ _ (Act.put _ (some 15) _) _
          try simp only [Act.put, List.setIfInBounds_toArray, List.set_cons_zero, List.set_cons_succ]
          refine wpAnyH_ready (rs := [3]) (by kernel_rfl) (by simp) ?_
          refine AllReadyH.cons (o := _) rfl (fun K hK => ?_) AllReadyH.nil
          go_simp
          refine (HF.out _).mono ?_
          rintro e w1 ⟨rfl, rfl⟩
          refine hK.out _ _ (⟨blk_drew (blk_alloc B0.out _), blk_drew (blk_alloc B1.out _), blk_drew (blk_alloc B2.out _)⟩) (fun hHeld => ?_)
          clear hK K
          try simp only [Act.put, List.setIfInBounds_toArray, List.set_cons_zero, List.set_cons_succ]
          refine wpAnyH_take (i := 4) (oi := _) (v := .bool true) rfl (by kernel_rfl) (by kernel_rfl) (by kernel_rfl) (fun _ _ _ h => h) (Or.inl ⟨by rfl, fun w' hS => (by go_simp)⟩) hHeld ?_
          change wpAnyH _ _ _ _ _ _ _ (Act.put _ (some 17) _) _
          try simp only [Act.put, List.setIfInBounds_toArray, List.set_cons_zero, List.set_cons_succ]
          refine wpAnyH_take (i := 5) (oi := _) (v := .int .i64 (k : Int)) rfl (by kernel_rfl) (by kernel_rfl) (by kernel_rfl) (fun _ _ _ h => h) (Or.inl ⟨by rfl, fun w' hS => (by go_simp)⟩) hHeld ?_
          change wpAnyH _ _ _ _ _ _ _ (Act.put _ (some 18) _) _
          try simp only [Act.put, List.setIfInBounds_toArray, List.set_cons_zero, List.set_cons_succ]
          refine wpAnyH_take (i := 6) (oi := _) (v := .pointer (some ⟨w.heap.size, k, none⟩)) rfl (by kernel_rfl) (by kernel_rfl) (by kernel_rfl) (fun _ _ _ h => h) (Or.inl ⟨by rfl, fun w' hS => (by go_simp)⟩) hHeld ?_
          change wpAnyH _ _ _ _ _ _ _ (Act.put _ (some 19) _) _
          try simp only [Act.put, List.setIfInBounds_toArray, List.set_cons_zero, List.set_cons_succ]
          refine wpAnyH_take (i := 7) (oi := _) (v := .slice (A k) (xs k).length (c k)) rfl (by kernel_rfl) (by kernel_rfl) (by kernel_rfl) (fun _ _ _ h => h) (Or.inl ⟨by rfl, fun w' hS => (by obtain ⟨s0, s1, s2⟩ := hS; have f0 : w'.cell? ⟨w.heap.size, k, none⟩ = some (.slice (A k) (xs k).length (c k)) := cell_of_blk s0 (eight_arr (sl8 A xs c) k hlt); go_simp)⟩) hHeld ?_
          change wpAnyH _ _ _ _ _ _ _ (Act.put _ (some 20) _) _
          try simp only [Act.put, List.setIfInBounds_toArray, List.set_cons_zero, List.set_cons_succ]
          refine wpAnyH_take (i := 8) (oi := _) (v := .int .i64 (k : Int)) rfl (by kernel_rfl) (by kernel_rfl) (by kernel_rfl) (fun _ _ _ h => h) (Or.inl ⟨by rfl, fun w' hS => (by go_simp)⟩) hHeld ?_
          change wpAnyH _ _ _ _ _ _ _ (Act.put _ (some 21) _) _
          try simp only [Act.put, List.setIfInBounds_toArray, List.set_cons_zero, List.set_cons_succ]
          refine wpAnyH_take (i := 9) (oi := _) (v := .pointer (some ⟨w.heap.size + 1, k, none⟩)) rfl (by kernel_rfl) (by kernel_rfl) (by kernel_rfl) (fun _ _ _ h => h) (Or.inl ⟨by rfl, fun w' hS => (by go_simp)⟩) hHeld ?_
          change wpAnyH _ _ _ _ _ _ _ (Act.put _ (some 22) _) _
          try simp only [Act.put, List.setIfInBounds_toArray, List.set_cons_zero, List.set_cons_succ]
          refine wpAnyH_take (i := 10) (oi := _) (v := .slice (C k) (ys k).length (d k)) rfl (by kernel_rfl) (by kernel_rfl) (by kernel_rfl) (fun _ _ _ h => h) (Or.inl ⟨by rfl, fun w' hS => (by obtain ⟨s0, s1, s2⟩ := hS; have f1 : w'.cell? ⟨w.heap.size + 1, k, none⟩ = some (.slice (C k) (ys k).length (d k)) := cell_of_blk s1 (eight_arr (sl8 C ys d) k hlt); go_simp)⟩) hHeld ?_
          change wpAnyH _ _ _ _ _ _ _ (Act.put _ (some 23) _) _
          try simp only [Act.put, List.setIfInBounds_toArray, List.set_cons_zero, List.set_cons_succ]
          refine wpAnyH_ready (rs := [11]) (by kernel_rfl) (by simp) ?_
          refine AllReadyH.cons (o := _) rfl (fun K hK => ?_) AllReadyH.nil
          go_simp
          refine (HE.out _ (Below.drew ((Below.refl _ _).alloc (Nat.le_refl _) _))).mono ?_
          rintro e w2 ⟨rfl, hb2⟩
          have u0 := below_blk hb2 B0.out
          have u1 := below_blk hb2 B1.out
          have u2 := below_blk hb2 B2.out
          refine hK.out _ _ (⟨u0, u1, u2⟩) (fun hHeld => ?_)
          clear hK K
          try simp only [Act.put, List.setIfInBounds_toArray, List.set_cons_zero, List.set_cons_succ]
          refine wpAnyH_take (i := 12) (oi := _) (v := .bool false) rfl (by kernel_rfl) (by kernel_rfl) (by kernel_rfl) (fun _ _ _ h => h) (Or.inl ⟨by rfl, fun w' hS => (by go_simp)⟩) hHeld ?_
          change wpAnyH _ _ _ _ _ _ _ (Act.put _ (some 25) _) _
          try simp only [Act.put, List.setIfInBounds_toArray, List.set_cons_zero, List.set_cons_succ]
          refine wpAnyH_take (i := 13) (oi := _) (v := .bool false) rfl (by kernel_rfl) (by kernel_rfl) (by kernel_rfl) (fun _ _ _ h => h) (Or.inl ⟨by rfl, fun w' hS => (by go_simp)⟩) hHeld ?_
          change wpAnyH _ _ _ _ _ _ _ (Act.put _ (some 26) _) _
          try simp only [Act.put, List.setIfInBounds_toArray, List.set_cons_zero, List.set_cons_succ]
          refine wpAnyH_done (by kernel_rfl) ?_ _
          refine NoPanic.normal ?_
          go_wp2
          go_roundw
          case rel => exact ⟨k + 1, by omega, by go_num, Lib.hid (alike_step hp.out fun _ => HEq.out), HB.out.trans (hb2.mono (by omega))⟩
          case measure => simp [intOf]; omega
        · rw [decide_eq_false he] at hE
          have HE := Lib.hid hE
          have hb := Lib.hid (alike_no (k := k) hlt HFL.out he)
          clear hE he hp
          go_wp2_with fail
          refine wp_region_noPanic ?_
          refine wp_region_held_drew (S := fun w' => w'.heap[w.heap.size]? = some (.cells (arr8 (sl8 A xs c)) 35 (0, 0)) ∧ w'.heap[w.heap.size + 1]? = some (.cells (arr8 (sl8 C ys d)) 35 (0, 0)) ∧ w'.heap[w.heap.size + 1 + 1]? = some (.cells (arr8 (mv m)) 25 (0, 0))) (by kernel_rfl) (⟨B0.out, B1.out, B2.out⟩) (fun hHeld => ?_)
          refine wpAnyH_take (i := 0) (oi := _) (v := .agg #[mv m 0, mv m 1, mv m 2, mv m 3, mv m 4, mv m 5, mv m 6, mv m 7]) rfl (by kernel_rfl) (by kernel_rfl) (by kernel_rfl) (fun _ _ _ h => h) (Or.inl ⟨by rfl, fun w' hS => (by obtain ⟨s0, s1, s2⟩ := hS; have q0 : w'.cell? ⟨w.heap.size + 1 + 1, 0, none⟩ = some (mv m 0) := cell_of_blk s2 rfl; have q1 : w'.cell? ⟨w.heap.size + 1 + 1, 1, none⟩ = some (mv m 1) := cell_of_blk s2 rfl; have q2 : w'.cell? ⟨w.heap.size + 1 + 1, 2, none⟩ = some (mv m 2) := cell_of_blk s2 rfl; have q3 : w'.cell? ⟨w.heap.size + 1 + 1, 3, none⟩ = some (mv m 3) := cell_of_blk s2 rfl; have q4 : w'.cell? ⟨w.heap.size + 1 + 1, 4, none⟩ = some (mv m 4) := cell_of_blk s2 rfl; have q5 : w'.cell? ⟨w.heap.size + 1 + 1, 5, none⟩ = some (mv m 5) := cell_of_blk s2 rfl; have q6 : w'.cell? ⟨w.heap.size + 1 + 1, 6, none⟩ = some (mv m 6) := cell_of_blk s2 rfl; have q7 : w'.cell? ⟨w.heap.size + 1 + 1, 7, none⟩ = some (mv m 7) := cell_of_blk s2 rfl; go_simp)⟩) hHeld ?_
          change wpAnyH _ _ _ _ _ _ _ (Act.put _ (some 13) _) _
          try simp only [Act.put, List.setIfInBounds_toArray, List.set_cons_zero, List.set_cons_succ]
          refine wpAnyH_take (i := 1) (oi := _) (v := .int .i64 (k : Int)) rfl (by kernel_rfl) (by kernel_rfl) (by kernel_rfl) (fun _ _ _ h => h) (Or.inl ⟨by rfl, fun w' hS => (by go_simp)⟩) hHeld ?_
          change wpAnyH _ _ _ _ _ _ _ (Act.put _ (some 14) _) _
          try simp only [Act.put, List.setIfInBounds_toArray, List.set_cons_zero, List.set_cons_succ]
          refine wpAnyH_take (i := 2) (oi := _) (v := .int .u64 (see : Int)) rfl (by kernel_rfl) (by kernel_rfl) (by kernel_rfl) (fun _ _ _ h => h) (Or.inl ⟨by rfl, fun w' hS => (by go_simp)⟩) hHeld ?_
          change wpAnyH _ _ _ _ _ _ _ (Act.put _ (some 15) _) _
          try simp only [Act.put, List.setIfInBounds_toArray, List.set_cons_zero, List.set_cons_succ]
          refine wpAnyH_ready (rs := [3]) (by kernel_rfl) (by simp) ?_
          refine AllReadyH.cons (o := _) rfl (fun K hK => ?_) AllReadyH.nil
          go_simp
          refine (HF.out _).mono ?_
          rintro e w1 ⟨rfl, rfl⟩
          refine hK.out _ _ (⟨blk_drew (blk_alloc B0.out _), blk_drew (blk_alloc B1.out _), blk_drew (blk_alloc B2.out _)⟩) (fun hHeld => ?_)
          clear hK K
          try simp only [Act.put, List.setIfInBounds_toArray, List.set_cons_zero, List.set_cons_succ]
          refine wpAnyH_take (i := 4) (oi := _) (v := .bool true) rfl (by kernel_rfl) (by kernel_rfl) (by kernel_rfl) (fun _ _ _ h => h) (Or.inl ⟨by rfl, fun w' hS => (by go_simp)⟩) hHeld ?_
          change wpAnyH _ _ _ _ _ _ _ (Act.put _ (some 17) _) _
          try simp only [Act.put, List.setIfInBounds_toArray, List.set_cons_zero, List.set_cons_succ]
          refine wpAnyH_take (i := 5) (oi := _) (v := .int .i64 (k : Int)) rfl (by kernel_rfl) (by kernel_rfl) (by kernel_rfl) (fun _ _ _ h => h) (Or.inl ⟨by rfl, fun w' hS => (by go_simp)⟩) hHeld ?_
          change wpAnyH _ _ _ _ _ _ _ (Act.put _ (some 18) _) _
          try simp only [Act.put, List.setIfInBounds_toArray, List.set_cons_zero, List.set_cons_succ]
          refine wpAnyH_take (i := 6) (oi := _) (v := .pointer (some ⟨w.heap.size, k, none⟩)) rfl (by kernel_rfl) (by kernel_rfl) (by kernel_rfl) (fun _ _ _ h => h) (Or.inl ⟨by rfl, fun w' hS => (by go_simp)⟩) hHeld ?_
          change wpAnyH _ _ _ _ _ _ _ (Act.put _ (some 19) _) _
          try simp only [Act.put, List.setIfInBounds_toArray, List.set_cons_zero, List.set_cons_succ]
          refine wpAnyH_take (i := 7) (oi := _) (v := .slice (A k) (xs k).length (c k)) rfl (by kernel_rfl) (by kernel_rfl) (by kernel_rfl) (fun _ _ _ h => h) (Or.inl ⟨by rfl, fun w' hS => (by obtain ⟨s0, s1, s2⟩ := hS; have f0 : w'.cell? ⟨w.heap.size, k, none⟩ = some (.slice (A k) (xs k).length (c k)) := cell_of_blk s0 (eight_arr (sl8 A xs c) k hlt); go_simp)⟩) hHeld ?_
          change wpAnyH _ _ _ _ _ _ _ (Act.put _ (some 20) _) _
          try simp only [Act.put, List.setIfInBounds_toArray, List.set_cons_zero, List.set_cons_succ]
          refine wpAnyH_take (i := 8) (oi := _) (v := .int .i64 (k : Int)) rfl (by kernel_rfl) (by kernel_rfl) (by kernel_rfl) (fun _ _ _ h => h) (Or.inl ⟨by rfl, fun w' hS => (by go_simp)⟩) hHeld ?_
          change wpAnyH _ _ _ _ _ _ _ (Act.put _ (some 21) _) _
          try simp only [Act.put, List.setIfInBounds_toArray, List.set_cons_zero, List.set_cons_succ]
          refine wpAnyH_take (i := 9) (oi := _) (v := .pointer (some ⟨w.heap.size + 1, k, none⟩)) rfl (by kernel_rfl) (by kernel_rfl) (by kernel_rfl) (fun _ _ _ h => h) (Or.inl ⟨by rfl, fun w' hS => (by go_simp)⟩) hHeld ?_
          change wpAnyH _ _ _ _ _ _ _ (Act.put _ (some 22) _) _
          try simp only [Act.put, List.setIfInBounds_toArray, List.set_cons_zero, List.set_cons_succ]
          refine wpAnyH_take (i := 10) (oi := _) (v := .slice (C k) (ys k).length (d k)) rfl (by kernel_rfl) (by kernel_rfl) (by kernel_rfl) (fun _ _ _ h => h) (Or.inl ⟨by rfl, fun w' hS => (by obtain ⟨s0, s1, s2⟩ := hS; have f1 : w'.cell? ⟨w.heap.size + 1, k, none⟩ = some (.slice (C k) (ys k).length (d k)) := cell_of_blk s1 (eight_arr (sl8 C ys d) k hlt); go_simp)⟩) hHeld ?_
          change wpAnyH _ _ _ _ _ _ _ (Act.put _ (some 23) _) _
          try simp only [Act.put, List.setIfInBounds_toArray, List.set_cons_zero, List.set_cons_succ]
          refine wpAnyH_ready (rs := [11]) (by kernel_rfl) (by simp) ?_
          refine AllReadyH.cons (o := _) rfl (fun K hK => ?_) AllReadyH.nil
          go_simp
          refine (HE.out _ (Below.drew ((Below.refl _ _).alloc (Nat.le_refl _) _))).mono ?_
          rintro e w2 ⟨rfl, hb2⟩
          have u0 := below_blk hb2 B0.out
          have u1 := below_blk hb2 B1.out
          have u2 := below_blk hb2 B2.out
          refine hK.out _ _ (⟨u0, u1, u2⟩) (fun hHeld => ?_)
          clear hK K
          try simp only [Act.put, List.setIfInBounds_toArray, List.set_cons_zero, List.set_cons_succ]
          refine wpAnyH_take (i := 12) (oi := _) (v := .bool true) rfl (by kernel_rfl) (by kernel_rfl) (by kernel_rfl) (fun _ _ _ h => h) (Or.inl ⟨by rfl, fun w' hS => (by go_simp)⟩) hHeld ?_
          change wpAnyH _ _ _ _ _ _ _ (Act.put _ (some 25) _) _
          try simp only [Act.put, List.setIfInBounds_toArray, List.set_cons_zero, List.set_cons_succ]
          refine wpAnyH_take (i := 13) (oi := _) (v := .bool true) rfl (by kernel_rfl) (by kernel_rfl) (by kernel_rfl) (fun _ _ _ h => h) (Or.inl ⟨by rfl, fun w' hS => (by go_simp)⟩) hHeld ?_
          change wpAnyH _ _ _ _ _ _ _ (Act.put _ (some 26) _) _
          try simp only [Act.put, List.setIfInBounds_toArray, List.set_cons_zero, List.set_cons_succ]
          refine wpAnyH_done (by kernel_rfl) ?_ _
          refine NoPanic.normal ?_
          go_wp2
          go_ret
          exact ⟨by rw [hb.out]; rfl, HBw.out.trans (hb2.mono HBw.out.size)⟩
    · obtain rfl : k = 8 := by omega
      have HBE := Lib.hid (alike_yes hp.out)
      go_wp2
      go_ret
      exact ⟨by rw [HBE.out]; rfl, hBw⟩
end Go.Proofs.YthgcadikinfdiaaDoor
