/-
  Chapter 25: same; the example.
-/
import Derived.Test.YthgcadikinfdiaaDoorTrD
import Derived.Test.YthgcadikinfdiaaDoorTrG
set_option linter.unusedVariables false
set_option linter.unusedSimpArgs false
namespace Go.Proofs.YthgcadikinfdiaaDoor
open Go.ChangeShapes Go.WideShapes Go.ChangeAt Go.RowKit

theorem begB_refl (l : List Ev) : begB l l = true := decide_eq_true (List.prefix_refl l)
theorem same_any (xs : List Ev) (A C : Option Addr) (c d : Nat) (w : World) (hx : Reads w w.heap.size A (xs.flatMap evEnc)) (hy : Reads w w.heap.size C (xs.flatMap evEnc)) (hnx : xs.length ≤ 9223372036854775807) :
    Calls Tryd.prog 10 #[.slice A xs.length c, .slice C xs.length d] w (RetB (.bool true) w) := by
  have h := rbegins_any xs xs A C c d w hx hy hnx hnx
  rw [begB_refl] at h
  have H := Lib.hid h
  clear h hx hy
  go_enter Tryd.func10, Tryd.ntmps10
  go_wp2_with (go_at_call 14; refine H.out.mono ?_; rintro e w' ⟨rfl, hb⟩)
  go_ret
  exact ⟨rfl, hb⟩
def awE : Ev := ⟨2, 2, 5, ⟨#[]⟩⟩
theorem aw_text2 : numText 2 = ⟨#[50]⟩ := by
  unfold numText
  congr 1
  decide +kernel
theorem aw_text5 : numText 5 = ⟨#[53]⟩ := by
  unfold numText
  congr 1
  decide +kernel
theorem aw_show25 : showE [awE] = ⟨#[50, 32, 53, 10]⟩ := by
  show ByteArray.empty ++ (numText 2 ++ ⟨#[32]⟩ ++ textK 2 5 _ ++ ⟨#[10]⟩) = _
  rw [aw_text2, show textK 2 5 awE.s = numText 5 from rfl, aw_text5]
  rfl
def awM1 (k : Nat) : Nat := match k with
  | 2 => 1
  | _ => 0
def awM0 (_ : Nat) : Nat := 0
theorem aw_low1 : lowS awM1 0 [awE] = [] := by decide +kernel
theorem aw_low0 : lowS awM0 0 [awE] = [awE] := by rfl
theorem own_reads {w : World} {base : Nat} {l : List Ev} {v : Value} (h : w.ownsRow base 38 4 v l.length (l.flatMap evEnc)) : ∃ A c, v = .slice A l.length c ∧ Reads w w.heap.size A (l.flatMap evEnc) := by
  obtain ⟨A, c, rfl, _, _, h4⟩ := own_form h
  refine ⟨A, c, rfl, ?_⟩
  by_cases hl : l = []
  · left
    subst hl
    rfl
  · obtain ⟨gb, rfl, _, hlt, _, hc⟩ := h4 (List.length_pos_iff.2 hl)
    exact .inr ⟨_, rfl, hlt, fun j u hu => by cases j <;> simpa [Addr.add] using hc _ u hu⟩
set_option maxRecDepth 100000 in
set_option maxHeartbeats 4000000 in
theorem awake25 (w : World) (ht : Tab w) : Calls Tryd.prog 8 #[] w (RetB (.bool true) w) := by
  have hb0 : Below w.heap.size w (w.alloc (.cells #[.int .i64 2, .int .i64 2, .int .i64 5, .string ⟨#[]⟩] 38)) := (Below.refl _ _).alloc (Nat.le_refl _) _
  have hR : ∀ W, Below (w.heap.size + 1) (w.alloc (.cells #[.int .i64 2, .int .i64 2, .int .i64 5, .string ⟨#[]⟩] 38)) W → Reads W W.heap.size (some ⟨w.heap.size, 0, none⟩) ([awE].flatMap evEnc) := fun W hW => by
    have h := (hW.block w.heap.size (by omega)).trans (heap_alloc_new w _)
    have hz := hW.size
    simp at hz
    refine .inr ⟨_, rfl, by show w.heap.size < _; omega, fun j u hu => ?_⟩
    match j, hu with
    | 0, hu => cases hu; exact cell_of_blk h rfl
    | 1, hu => cases hu; exact cell_of_blk h rfl
    | 2, hu => cases hu; exact cell_of_blk h rfl
    | 3, hu => cases hu; exact cell_of_blk h rfl
    | (j + 4), hu => simp [evEnc] at hu
  have h1 : ∀ W, Below (w.heap.size + 1) (w.alloc (.cells #[.int .i64 2, .int .i64 2, .int .i64 5, .string ⟨#[]⟩] 38)) W → Calls Tryd.prog 15 #[.slice (some ⟨w.heap.size, 0, none⟩) 1 1] W fun e w' => e = .returned (.string ⟨#[50, 32, 53, 10]⟩) ∧ Below (w.heap.size + 1) (w.alloc (.cells #[.int .i64 2, .int .i64 2, .int .i64 5, .string ⟨#[]⟩] 38)) w' := fun W hW => by
    refine (show25_any [awE] _ 1 W (hR W hW) (by simp) (fun x hx => ?_) (ht.below (hb0.trans (hW.mono (by omega))))).mono ?_
    · obtain rfl : x = awE := by simpa using hx
      exact ⟨by decide, by decide, by decide⟩
    · rintro e w' ⟨rfl, hb⟩
      exact ⟨by rw [aw_show25], hW.trans (hb.mono (by have := hW.size; simp at this; omega))⟩
  have h2 : ∀ W, Below (w.heap.size + 1) (w.alloc (.cells #[.int .i64 2, .int .i64 2, .int .i64 5, .string ⟨#[]⟩] 38)) W → Calls Tryd.prog 11 #[.slice (some ⟨w.heap.size, 0, none⟩) 1 1, .agg #[.int .u64 0, .int .u64 0, .int .u64 1, .int .u64 0, .int .u64 0, .int .u64 0, .int .u64 0, .int .u64 0], .int .u64 0] W fun e w' => (∃ A c, e = .returned (.slice A 0 c)) ∧ Below (w.heap.size + 1) (w.alloc (.cells #[.int .i64 2, .int .i64 2, .int .i64 5, .string ⟨#[]⟩] 38)) w' := fun W hW => by
    refine (low_any awM1 0 [awE] _ 1 W (fun i hi => by unfold awM1; split <;> decide) (by decide) (hR W hW) (by simp)).mono ?_
    rintro e w' ⟨v, rfl, ho, hb⟩
    rw [aw_low1] at ho
    obtain ⟨A, c, rfl, _⟩ := own_reads (l := []) ho
    exact ⟨⟨A, c, rfl⟩, hW.trans (hb.mono (by have := hW.size; simp at this; omega))⟩
  have h3 : ∀ W, Below (w.heap.size + 1) (w.alloc (.cells #[.int .i64 2, .int .i64 2, .int .i64 5, .string ⟨#[]⟩] 38)) W → Calls Tryd.prog 11 #[.slice (some ⟨w.heap.size, 0, none⟩) 1 1, .agg #[.int .u64 0, .int .u64 0, .int .u64 0, .int .u64 0, .int .u64 0, .int .u64 0, .int .u64 0, .int .u64 0], .int .u64 0] W fun e w' => (∃ A c, e = .returned (.slice A 1 c)) ∧ Below (w.heap.size + 1) (w.alloc (.cells #[.int .i64 2, .int .i64 2, .int .i64 5, .string ⟨#[]⟩] 38)) w' := fun W hW => by
    refine (low_any awM0 0 [awE] _ 1 W (fun i hi => by unfold awM0; decide) (by decide) (hR W hW) (by simp)).mono ?_
    rintro e w' ⟨v, rfl, ho, hb⟩
    rw [aw_low0] at ho
    obtain ⟨A, c, rfl, _⟩ := own_reads (l := [awE]) ho
    exact ⟨⟨A, c, rfl⟩, hW.trans (hb.mono (by have := hW.size; simp at this; omega))⟩
  have h4 : ∀ W, Below (w.heap.size + 1) (w.alloc (.cells #[.int .i64 2, .int .i64 2, .int .i64 5, .string ⟨#[]⟩] 38)) W → Calls Tryd.prog 13 #[.slice none 0 0, .slice (some ⟨w.heap.size, 0, none⟩) 1 1] W fun e w' => e = .returned (.bool true) ∧ Below (w.heap.size + 1) (w.alloc (.cells #[.int .i64 2, .int .i64 2, .int .i64 5, .string ⟨#[]⟩] 38)) w' := fun W hW => by
    refine (begins_any [] [awE] none _ 0 1 W (.inl rfl) (hR W hW) (by simp) (by simp)).mono ?_
    rintro e w' ⟨rfl, hb⟩
    exact ⟨by rw [show begB [] [awE] = true from decide_eq_true (List.nil_prefix)], hW.trans (hb.mono (by have := hW.size; simp at this; omega))⟩
  have H1 := Lib.hid h1
  have H2 := Lib.hid h2
  have H3 := Lib.hid h3
  have H4 := Lib.hid h4
  have HB0 := Lib.hid hb0
  clear h1 h2 h3 h4 hb0 hR ht
  go_enter Tryd.func8, Tryd.ntmps8
  go_wp2_with fail
  refine (H1.out _ (Below.refl _ _)).mono ?_
  rintro e w1 ⟨rfl, hb1⟩
  go_wp2_with fail
  refine (H2.out _ hb1).mono ?_
  rintro e w2 ⟨⟨A2, c2, rfl⟩, hb2⟩
  go_wp2_with fail
  refine (H3.out _ hb2).mono ?_
  rintro e w3 ⟨⟨A3, c3, rfl⟩, hb3⟩
  go_wp2_with fail
  refine (H4.out _ hb3).mono ?_
  rintro e w4 ⟨rfl, hb4⟩
  go_wp2
  go_ret
  exact ⟨rfl, HB0.out.trans (hb4.mono (by omega))⟩
end Go.Proofs.YthgcadikinfdiaaDoor
