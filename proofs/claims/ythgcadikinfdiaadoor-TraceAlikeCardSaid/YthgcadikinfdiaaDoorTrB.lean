/-
  Chapter 25: few; what one sees, by the reference; whether events begin with others.
-/
import Derived.Test.YthgcadikinfdiaaDoorTrA
import Derived.Deep.RegionHeld3
set_option linter.unusedVariables false
set_option linter.unusedSimpArgs false
namespace Go.Proofs.YthgcadikinfdiaaDoor
open Go.ChangeShapes Go.WideShapes Go.ChangeAt Go.RowKit

def totS (l : List Ev) : Nat := (l.map fun e => 5 + e.s.size).sum
theorem totS_snoc {l : List Ev} {k : Nat} {x : Ev} (h : l[k]? = some x) : totS (l.take (k + 1)) = totS (l.take k) + (5 + x.s.size) := by
  unfold totS
  rw [List.take_add_one, h]
  simp
theorem totS_len (l : List Ev) : 5 * l.length ≤ totS l := by
  induction l with
  | nil => simp [totS]
  | cons x l ih => simp only [totS, List.map_cons, List.sum_cons, List.length_cons] at ih ⊢; omega
/-- The cells of an event of a slice. -/
structure EvAt (w : World) (a : Addr) (x : Ev) : Prop where
  c0 : w.cell? a = some (.int .i64 x.channel)
  c1 : w.cell? ⟨a.block, a.off + 1, none⟩ = some (.int .i64 x.kind)
  c2 : w.cell? ⟨a.block, a.off + 2, none⟩ = some (.int .i64 x.n)
  c3 : w.cell? ⟨a.block, a.off + 3, none⟩ = some (.string x.s)
theorem ev_at {w : World} {ad : Addr} {xs : List Ev} (hc : ∀ j u, (xs.flatMap evEnc)[j]? = some u → w.cell? (ad.add j) = some u) {k : Nat} {x : Ev} (hx : xs[k]? = some x) : EvAt w (ad.add (k * 4)) x :=
  ⟨elem_zero (K := 4) (fun a => rfl) hc hx (by omega) rfl, elem_at (K := 4) (fun a => rfl) hc hx 1 (by omega) (by omega) rfl, elem_at (K := 4) (fun a => rfl) hc hx 2 (by omega) (by omega) rfl, elem_at (K := 4) (fun a => rfl) hc hx 3 (by omega) (by omega) rfl⟩
def FewPost (l : List Ev) (w : World) (e : Ending) (w' : World) : Prop := ∃ b, e = .returned (.bool b) ∧ Below w.heap.size w w' ∧ (b = true → totS l ≤ 5000)
set_option maxRecDepth 100000 in
set_option maxHeartbeats 2000000 in
theorem few_any (xs : List Ev) (A : Option Addr) (c : Nat) (w : World) (hr : Reads w w.heap.size A (xs.flatMap evEnc)) (hn : xs.length ≤ 9223372036854775807) (hz : ∀ x ∈ xs, x.s.size ≤ 281474976710656) :
    Calls Tryd.prog 9 #[.slice A xs.length c] w (FewPost xs w) := by
  have HZ := Lib.hid hz
  have HR := Lib.hid hr
  clear hz hr
  go_enter Tryd.func9, Tryd.ntmps9
  go_wp2
  go_loopw [3, 8] (fun n i wr => ∃ (k : Nat), k ≤ xs.length ∧ i = .int .i64 k ∧ n = .int .i64 (totS (xs.take k) : Nat) ∧ totS (xs.take k) ≤ 5000 ∧ Below w.heap.size w wr) (fun _ i _ => xs.length - (intOf i).toNat)
  case atStart => exact ⟨0, by omega, rfl, rfl, by simp [totS], Below.refl _ _⟩
  case round =>
    obtain ⟨k, hk, rfl, rfl, ht, hB⟩ := hrel
    have hsz := hB.size
    by_cases hlt : k < xs.length
    · obtain ⟨x, hx⟩ : ∃ x, xs[k]? = some x := ⟨_, List.getElem?_eq_getElem hlt⟩
      obtain ⟨ad, rfl, hadb, hcell⟩ := (HR.out.below hB).at (flatMap_ne (K := 4) (fun a => rfl) (by omega) hx)
      obtain ⟨hc0, hc1, hc2, hc3⟩ := ev_at hcell hx
      have hts := totS_snoc hx
      have hxs := HZ.out x (List.mem_of_getElem? hx)
      have HT := Lib.hid hts
      clear hx hcell hts
      generalize totS (xs.take k) = T at ht HT ⊢
      by_cases hb : T + (5 + x.s.size) ≤ 5000
      · have hb' : ¬ (5000 : Int) < (T : Int) + (5 + (x.s.size : Int)) := by omega
        go_wp2
        go_roundw
        case rel => exact ⟨k + 1, by omega, by go_num, by rw [HT.out]; go_num, by rw [HT.out]; omega, hB.alloc hsz _⟩
        case measure => simp [intOf]; omega
      · have hb' : (5000 : Int) < (T : Int) + (5 + (x.s.size : Int)) := by omega
        go_wp2
        go_ret
        exact ⟨false, rfl, hB.alloc hsz _, fun h => by cases h⟩
    · obtain rfl : k = xs.length := by omega
      rw [List.take_length] at ht
      go_wp2
      go_ret
      exact ⟨true, rfl, hB, fun _ => ht⟩
def lowS (m : Nat → Nat) (see : Nat) (l : List Ev) : List Ev := l.filter fun e => seesB m e.channel see
theorem low_yes {m : Nat → Nat} {see : Nat} {l : List Ev} {k : Nat} {x : Ev} (h : l[k]? = some x) (hx : seesB m x.channel see = true) : lowS m see (l.take (k + 1)) = lowS m see (l.take k) ++ [x] := by
  unfold lowS
  rw [List.take_add_one, h, List.filter_append]
  simp [hx]
theorem low_no {m : Nat → Nat} {see : Nat} {l : List Ev} {k : Nat} {x : Ev} (h : l[k]? = some x) (hx : seesB m x.channel see = false) : lowS m see (l.take (k + 1)) = lowS m see (l.take k) := by
  unfold lowS
  rw [List.take_add_one, h, List.filter_append]
  simp [hx]
theorem low_len (m : Nat → Nat) (see : Nat) (l : List Ev) : (lowS m see l).length ≤ l.length := List.length_filter_le _ _
theorem own_base {w : World} {base : Nat} {e : TypeId} {sz n : Nat} {v : Value} {xs : List Value} (h : w.ownsRow base e sz v n xs) (g : Nat) (hg : v.ownBlock = some g) : base ≤ g := by
  rcases h.2 with ⟨rfl, _⟩ | ⟨g', cap, cur, rfl, hb, _⟩
  · simp [Value.ownBlock] at hg
  · have : g' = g := by simpa [Value.ownBlock] using hg
    omega
theorem own_mono {w : World} {b b' : Nat} {e : TypeId} {sz n : Nat} {v : Value} {xs : List Value} (h : w.ownsRow b e sz v n xs) (hb : b' ≤ b) : w.ownsRow b' e sz v n xs := by
  obtain ⟨h1, h2⟩ := h
  refine ⟨h1, h2.imp id ?_⟩
  rintro ⟨g, cap, cur, hv, hg, r⟩
  exact ⟨g, cap, cur, hv, by omega, r⟩
theorem infoEv : (Tryd.prog.info? 38).map (fun i => (i.zero, i.size, i.bytes)) = some (some (.agg #[.int .i64 0, .int .i64 0, .int .i64 0, .string ByteArray.empty]), 4, 40) := by kernel_rfl
set_option maxRecDepth 100000 in
set_option maxHeartbeats 4000000 in
theorem rlow_any (m : Nat → Nat) (see : Nat) (xs : List Ev) (A : Option Addr) (c : Nat) (w : World) (hm : ∀ i, i < 8 → m i < 18446744073709551616) (hs : see < 18446744073709551616) (hr : Reads w w.heap.size A (xs.flatMap evEnc)) (hn : (xs.length + 1) * 40 ≤ 140737488355328) :
    Calls Tryd.prog 12 #[.slice A xs.length c, .agg (arr8 (mv m)), .int .u64 (see : Int)] w fun e w' => ∃ v, e = .returned v ∧ w'.ownsRow w.heap.size 38 4 v (lowS m see xs).length ((lowS m see xs).flatMap evEnc) ∧ Below w.heap.size w w' := by
  obtain ⟨i0, hi, hz0, hz1, hz2⟩ := info_parts infoEv
  have HR := Lib.hid hr
  have HM := Lib.hid hm
  clear hr hm
  go_enter Tryd.func12, Tryd.ntmps12
  go_wp2
  go_loopw [7, 12] (fun v i wr => ∃ (k : Nat), k ≤ xs.length ∧ i = .int .i64 k ∧ wr.ownsRow (w.heap.size + 1) 38 4 v (lowS m see (xs.take k)).length ((lowS m see (xs.take k)).flatMap evEnc) ∧ Below (w.heap.size + 1) (w.alloc (.cells (arr8 (mv m)) 25)) wr) (fun _ i _ => xs.length - (intOf i).toNat)
  case atStart => exact ⟨0, by omega, rfl, World.ownsRow_nil _ _ _ _, Below.refl _ _⟩
  case round =>
    obtain ⟨k, hk, rfl, hrow, hB⟩ := hrel
    have hsz := hB.size
    simp at hsz
    have hB0 : Below w.heap.size w wr := ((Below.refl _ _).alloc (Nat.le_refl _) _).trans (hB.mono (by omega))
    have hA : wr.heap[w.heap.size]? = some (.cells (arr8 (mv m)) 25 (0, 0)) := (hB.block _ (Nat.lt_succ_self _)).trans (heap_alloc_new w _)
    have hll := low_len m see (xs.take k)
    rw [List.length_take] at hll
    by_cases hlt : k < xs.length
    · obtain ⟨x, hx⟩ : ∃ x, xs[k]? = some x := ⟨_, List.getElem?_eq_getElem hlt⟩
      obtain ⟨ad, rfl, hadb, hcell⟩ := (HR.out.below hB0).at (flatMap_ne (K := 4) (fun a => rfl) (by omega) hx)
      obtain ⟨hc0, hc1, hc2, hc3⟩ := ev_at hcell hx
      have HX := Lib.hid hx
      have HRow := Lib.hid hrow
      have HB := Lib.hid hB
      clear hx hcell hB0 hrow
      by_cases h0 : x.channel < 0
      · have HN := Lib.hid (low_no HX.out (seesB_out m x.channel see (.inl h0)))
        clear hA hB
        go_wp2
        go_roundw
        case rel => exact ⟨k + 1, by omega, by go_num, by rw [HN.out]; exact HRow.out.alloc _, HB.out.alloc (by omega) _⟩
        case measure => simp [intOf]; omega
      by_cases h1 : 8 ≤ x.channel
      · have HN := Lib.hid (low_no HX.out (seesB_out m x.channel see (.inr h1)))
        clear hA hB
        go_wp2
        go_roundw
        case rel => exact ⟨k + 1, by omega, by go_num, by rw [HN.out]; exact HRow.out.alloc _, HB.out.alloc (by omega) _⟩
        case measure => simp [intOf]; omega
      obtain ⟨xc, xk, xn, xz⟩ := x
      dsimp only at h0 h1 hc0 hc1 hc2 hc3
      obtain ⟨j, hj⟩ := Int.eq_ofNat_of_zero_le (by omega : 0 ≤ xc)
      subst hj
      have hj8 : j < 8 := by omega
      have hseq := seesB_in m j see hj8
      have hf := fun w => rflows_any (m j) see w (HM.out j hj8) hs
      have hmc : wr.cell? ⟨w.heap.size, j, none⟩ = some (.int .u64 (m j : Int)) := cell_of_blk hA (eight_arr (mv m) j hj8)
      have hwl := blk_lt hA
      clear hA hB
      cases hfl : flowsB (m j) see
      · rw [hfl] at hf hseq
        have HN := Lib.hid (low_no HX.out hseq)
        clear hseq hfl
        go_wp2_with (go_at_call 20; refine (hf _).mono ?_; rintro e w' ⟨rfl, rfl⟩)
        go_roundw
        case rel => exact ⟨k + 1, by omega, by go_num, by rw [HN.out]; exact HRow.out.alloc _, HB.out.alloc (by omega) _⟩
        case measure => simp [intOf]; omega
      · rw [hfl] at hf hseq
        have HN := Lib.hid (low_yes HX.out hseq)
        have hrow := HRow.out
        clear hseq hfl
        go_wp2_with (first
          | (go_at_call 20; refine (hf _).mono ?_; rintro e w' ⟨rfl, rfl⟩)
          | (at_builtin; refine wpList_append_own _ rfl _ _ 22 rfl (w.heap.size + 1) 38 i0 _ 4 40 Tryd.underlying22 hi hz0 hz1 hz2 rfl (by decide) _ _ _ rfl ((hrow.alloc _).alloc _) ⟨wr.heap.size + 1, 0, none⟩ 1 1 [.int .i64 (j : Int), .int .i64 xk, .int .i64 xn, .string xz] rfl rfl (World.news_of_block (heap_new_at _ _ _ (by simp))) (by simp [Value.oneCell']) (by unfold maxLen; omega) (by omega) (by simp; omega) ?_; intro v' w1 hown' hgrow _))
        go_roundw
        case rel => exact ⟨k + 1, by omega, by go_num, by rw [HN.out, List.length_append, List.flatMap_append]; simpa [evEnc] using hown', ((HB.out.alloc (by omega) _).alloc (by simp; omega) _).grown hgrow (by simp; omega) fun g hg => own_base hrow g hg⟩
        case measure => simp [intOf]; omega
    · obtain rfl : k = xs.length := by omega
      rw [List.take_length] at hrow
      go_wp2
      go_ret
      exact ⟨_, rfl, own_mono hrow (by omega), hB0⟩
end Go.Proofs.YthgcadikinfdiaaDoor
