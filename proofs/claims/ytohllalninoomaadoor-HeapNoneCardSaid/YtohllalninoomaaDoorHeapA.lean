/-
  A heap of the program in memory: New, Charge, Used.
-/
import Derived.Test.YtohllalninoomaaDoorHeapNil4
import Derived.Test.YtohllalninoomaaDoorTabIn
import Derived.Deep.AppendLies
import Derived.Deep.DeepCutAuto
import Derived.Deep.CutBlock
set_option linter.unusedVariables false
set_option linter.unusedSimpArgs false
namespace Go.Proofs.YtohllalninoomaaDoor
open Go.ChangeShapes Go.WideShapes Go.ChangeAt Go.RowKit

set_option maxRecDepth 100000 in
theorem hnew_any (l : Int) (w : World) : Calls Tryd.prog 21 #[.int .i64 l] w fun e w' => e = .returned (.pointer (some ⟨w.heap.size, 0, none⟩)) ∧ w'.heap[w.heap.size]? = some (.cells #[.int .i64 (max l 0), .int .i64 0, .slice none 0 0, .slice none 0 0, .slice none 0 0] 74 (0, 0)) ∧ Below w.heap.size w w' := by
  by_cases hl : l < 0
  all_goals
    go_enter Tryd.func21, Tryd.ntmps21
    go_wp2
    go_ret
    refine ⟨rfl, ?_, (Below.refl _ _).alloc (Nat.le_refl _) _⟩
    first
      | (rw [show max l 0 = 0 by omega]; exact heap_new_at _ _ _ rfl)
      | (rw [show max l 0 = l by omega]; exact heap_new_at _ _ _ rfl)
set_option maxRecDepth 100000 in
theorem hused_any {w : World} {h : Nat} {L U : Int} {tv fv cv : Value} (hh : w.heap[h]? = some (.cells #[.int .i64 L, .int .i64 U, tv, fv, cv] 74 (0, 0))) : Calls Tryd.prog 13 #[.pointer (some ⟨h, 0, none⟩)] w (RetB (.int .i64 U) w) := by
  have q0 : w.cell? ⟨h, 0, none⟩ = some (.int .i64 L) := cell_of_blk hh rfl
  have q1 : w.cell? ⟨h, 1, none⟩ = some (.int .i64 U) := cell_of_blk hh rfl
  have q2 : w.cell? ⟨h, 2, none⟩ = some (tv) := cell_of_blk hh rfl
  have q3 : w.cell? ⟨h, 3, none⟩ = some (fv) := cell_of_blk hh rfl
  have q4 : w.cell? ⟨h, 4, none⟩ = some (cv) := cell_of_blk hh rfl
  have qf0 := free_of_blk (i := 0) hh
  have qf1 := free_of_blk (i := 1) hh
  have qf2 := free_of_blk (i := 2) hh
  have qf3 := free_of_blk (i := 3) hh
  have qf4 := free_of_blk (i := 4) hh
  have ql := blk_lt hh
  go_enter Tryd.func13, Tryd.ntmps13
  go_wp2
  go_ret
  exact ⟨rfl, Below.refl _ _⟩
/-- What a charge leaves: where there is room, it is taken. -/
def ChargeOut (h : Nat) (L U n : Int) (tv fv cv : Value) (w : World) (e : Ending) (w' : World) : Prop :=
  (max n 0 > L - U ∧ e = .returned (.bool false) ∧ Below w.heap.size w w') ∨ (max n 0 ≤ L - U ∧ e = .returned (.bool true) ∧ w'.heap[h]? = some (.cells #[.int .i64 L, .int .i64 (U + max n 0), tv, fv, cv] 74 (0, 0)) ∧ Fr [h] w w')
set_option maxRecDepth 100000 in
set_option maxHeartbeats 2000000 in
theorem hcharge_any {w : World} {h : Nat} {L U : Int} {tv fv cv : Value} (n : Int) (hh : w.heap[h]? = some (.cells #[.int .i64 L, .int .i64 U, tv, fv, cv] 74 (0, 0))) (h0 : 0 ≤ U) (h1 : U ≤ L) (h2 : L ≤ 9223372036854775807) (hn : n ≤ 9223372036854775807) : Calls Tryd.prog 12 #[.pointer (some ⟨h, 0, none⟩), .int .i64 n] w (ChargeOut h L U n tv fv cv w) := by
  obtain ⟨m, hm, hm0, hm1⟩ : ∃ m, max n 0 = m ∧ 0 ≤ m ∧ m ≤ 9223372036854775807 := ⟨_, rfl, by omega, by omega⟩
  have HM := Lib.hid hm
  have HH := Lib.hid hh
  have q0 : w.cell? ⟨h, 0, none⟩ = some (.int .i64 L) := cell_of_blk hh rfl
  have q1 : w.cell? ⟨h, 1, none⟩ = some (.int .i64 U) := cell_of_blk hh rfl
  have q2 : w.cell? ⟨h, 2, none⟩ = some (tv) := cell_of_blk hh rfl
  have q3 : w.cell? ⟨h, 3, none⟩ = some (fv) := cell_of_blk hh rfl
  have q4 : w.cell? ⟨h, 4, none⟩ = some (cv) := cell_of_blk hh rfl
  have qf0 := free_of_blk (i := 0) hh
  have qf1 := free_of_blk (i := 1) hh
  have qf2 := free_of_blk (i := 2) hh
  have qf3 := free_of_blk (i := 3) hh
  have qf4 := free_of_blk (i := 4) hh
  have ql := blk_lt hh
  have hsub : IntKind.wrap .i64 (L - U) = L - U := by rw [IntKind.wrap_i64]; omega
  go_enter Tryd.func12, Tryd.ntmps12
  go_upto_region 1 with (fail)
  go_cut [1] (fun s1 w' => s1 = .int .i64 m ∧ w = w')
  case first =>
    by_cases hj : n < 0
    all_goals
      go_wp2
      go_meet
      case rel => exact ⟨by congr 1; omega, rfl⟩
  case rest =>
    obtain ⟨rfl, rfl⟩ := hcut
    clear hm
    have hadd : m ≤ L - U → IntKind.wrap .i64 (U + m) = U + m := fun _ => by rw [IntKind.wrap_i64]; omega
    by_cases hr : m > L - U
    · go_wp2_with fail
      go_quiet (fail)
      go_wp2
      go_ret
      exact .inl ⟨by rw [HM.out]; exact hr, rfl, belowDN (Below.refl _ _) _⟩
    · go_wp2_with fail
      go_quiet (fail)
      go_wp2
      go_ret
      exact .inr ⟨by rw [HM.out]; omega, rfl, by rw [HM.out]; exact blk_set HH.out _, ((Fr.refl [h] w).drewN _).set _ (.inl (by simp))⟩
end Go.Proofs.YtohllalninoomaaDoor
