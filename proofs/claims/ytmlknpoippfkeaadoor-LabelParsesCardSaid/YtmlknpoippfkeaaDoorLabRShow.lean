/-
  A label as a text: the reference's Show, its number.
-/
import Derived.Test.YtmlknpoippfkeaaDoorLabShow
import Derived.Deep.QuietTactic
import Derived.BigQuiet
set_option linter.unusedVariables false
set_option linter.unusedSimpArgs false
namespace Go.Proofs.YtmlknpoippfkeaaDoor
open Go.ChangeShapes Go.WideShapes Go.ChangeAt Go.RowKit Go.Shelf

/-- What the reference has after some principals. -/
def upS (ps : List Nat) : ByteArray := ⟨(123 :: Lib.join (ps.map digs) [44]).toArray⟩
theorem upS_nil : upS [] = ⟨#[123]⟩ := rfl
theorem upS_first (p : Nat) : upS [] ++ digS p = upS [p] := by
  apply ByteArray.ext
  apply Array.toList_inj.1
  simp [upS, digS, ByteArray.data_append, Lib.join_one, Lib.join]
theorem upS_next {ps : List Nat} (h : ps ≠ []) (p : Nat) : (upS ps ++ ⟨#[44]⟩) ++ digS p = upS (ps ++ [p]) := by
  apply ByteArray.ext
  apply Array.toList_inj.1
  unfold upS digS
  rw [List.map_append, List.map_cons, List.map_nil, join_snoc, if_neg (by simpa using h)]
  simp [ByteArray.data_append]
theorem upS_end (l : Nat) : upS (prin l) ++ ⟨#[125]⟩ = showS l := by
  apply ByteArray.ext
  apply Array.toList_inj.1
  unfold upS showS showB
  simp [ByteArray.data_append]
theorem upS_size {ps : List Nat} (h : ps.length ≤ 64) : (upS ps).size ≤ 2000 := by
  have := join_len h
  rw [digS_data] at this
  show (123 :: Lib.join (ps.map digs) [44]).toArray.size ≤ 2000
  simp
  omega
theorem digS_size (p : Nat) : (digS p).size ≤ 2 := by
  have := (digs_len p).2
  show (digs p).toArray.size ≤ 2
  simpa using this
set_option maxRecDepth 100000 in
set_option maxHeartbeats 2000000 in
theorem rtext_any (L : Nat) (hL : L < 18446744073709551616) (w : World) :
    Calls Tryd.prog 15 #[.int .u64 (L : Int)] w (RetB (.string (showS L)) w) := by
  have hpl := prin_len L
  have hp64 := fun p (h : p ∈ prin L) => prin_lt (l := L) p h
  have hend := upS_end L
  have hls := fun w => rlist_any L hL w
  generalize prin L = ps at hpl hp64 hend hls
  generalize showS L = R at hend
  have HE := Lib.hid hend
  have HP := Lib.hid hp64
  have HL := Lib.hid hls
  clear hend hp64 hls
  go_enter Tryd.func15, Tryd.ntmps15
  go_wp2_with fail
  refine (HL.out _).mono ?_
  rintro e w1 ⟨v, rfl, hrow, hb1⟩
  obtain ⟨A, c, rfl, hc, hm, hf⟩ := own_form hrow
  have HF := Lib.hid hf
  clear hf hrow
  go_wp2
  go_loopw [3, 4, 5, 9] (fun s _ _ i wr => ∃ k : Nat, k ≤ ps.length ∧ i = .int .i64 k ∧ s = .string (upS (ps.take k)) ∧ w1 = wr) (fun _ _ _ i _ => ps.length - (intOf i).toNat)
  case atStart => exact ⟨0, by omega, rfl, by rw [List.take_zero, upS_nil], rfl⟩
  case round =>
    obtain ⟨k, hk, rfl, rfl, rfl⟩ := hrel
    by_cases hlt : k < ps.length
    · obtain ⟨g, rfl, _, hg, _, hcell⟩ := HF.out (by omega)
      have hc' := hcell k (.int .i64 (ps[k] : Int)) (by simp [hlt])
      have hx := HP.out ps[k] (List.getElem_mem hlt)
      have hit := fun w => itoa_any ps[k] hx w
      have hs1 := upS_size (ps := ps.take k) (by simp; omega)
      have hs2 := digS_size ps[k]
      have htk := List.take_succ_eq_append_getElem hlt
      generalize ps[k] = x at hc' hit hx hs2 htk
      clear hcell
      by_cases hk0 : k = 0
      · subst hk0
        have e := upS_first x
        rw [List.take_zero] at hs1 htk ⊢
        have HK := Lib.hid htk
        clear htk
        generalize upS [] = U at hs1 e ⊢
        generalize digS x = D at hit hs2 e
        have HX := Lib.hid e
        clear e
        go_wp2_with (go_at_call 28; refine (hit _).mono ?_; rintro e w' ⟨rfl, rfl⟩)
        go_roundw
        case rel => exact ⟨1, by omega, rfl, by rw [HX.out, HK.out]; rfl, by first | trivial | rfl⟩
        case measure => simp [intOf]; omega
      · have e := upS_next (ps := ps.take k) (by rw [Ne, List.take_eq_nil_iff]; rintro (h | h); exact hk0 h; rw [h] at hlt; simp at hlt) x
        rw [← htk] at e
        generalize upS (ps.take k) = U at hs1 e ⊢
        generalize digS x = D at hit hs2 e
        have HX := Lib.hid e
        have hsz : (U ++ (⟨#[44]⟩ : ByteArray)).size = U.size + 1 := by rw [ByteArray.size_append]; rfl
        clear e htk
        go_wp2_with (go_at_call 28; refine (hit _).mono ?_; rintro e w' ⟨rfl, rfl⟩)
        go_roundw
        case rel => exact ⟨k + 1, by omega, by go_num, by rw [← HX.out], by first | trivial | rfl⟩
        case measure => simp [intOf]; omega
    · obtain rfl : k = ps.length := by omega
      have hs1 := upS_size (ps := ps) (by omega)
      rw [List.take_length]
      have he := HE.out
      generalize upS ps = U at hs1 he ⊢
      go_wp2
      go_ret
      exact ⟨by first | rfl | rw [he], hb1⟩
end Go.Proofs.YtmlknpoippfkeaaDoor
