/-
  Chapter 04: the calls on a table that nobody made.
-/
import Derived.Test.YthhphjfbdoffhaaTabOps
set_option linter.unusedVariables false
set_option linter.unusedSimpArgs false
namespace Go.Proofs.Ythhphjfbdoffhaa
open Go.ChangeShapes Go.WideShapes Go.ChangeAt Go.RowKit Go.Maps

theorem tkey_nil (n : Int) (w : World) (hn : -9223372036854775808 ≤ n ∧ n ≤ 9223372036854775807) : Calls Try.prog 39 #[.pointer none, .int .i64 n] w fun e w' => e = .returned (.tuple #[.agg (vvCells ⟨0, 0, ⟨#[]⟩, 0⟩), .bool false]) ∧ Below w.heap.size w w' := by
  have hl := fun W => tlen_nil W
  by_cases h1 : n < 1
  · go_enter Try.func39, Try.ntmps39
    go_wp2
    exact bodyPost_ret (v := .tuple #[.agg #[.int .i64 0, .int .i64 0, .string ⟨#[]⟩, .int .u64 0], .bool false]) (by simp [results, Try.results39, go_sem]) rfl ⟨rfl, (Below.refl _ _).alloc (Nat.le_refl _) _⟩
  · have h2 : (0 : Int) < n := by omega
    go_enter Try.func39, Try.ntmps39
    go_wp2_with (go_at_call 41; refine (hl _).mono ?_; rintro e w1 ⟨rfl, rfl⟩)
    exact bodyPost_ret (v := .tuple #[.agg #[.int .i64 0, .int .i64 0, .string ⟨#[]⟩, .int .u64 0], .bool false]) (by simp [results, Try.results39, go_sem]) rfl ⟨rfl, (Below.refl _ _).alloc (Nat.le_refl _) _⟩
theorem tget_nil (k : VV) (w : World) : Calls Try.prog 35 #[.pointer none, .agg (vvCells k)] w (RetB (.agg (vvCells ⟨0, 0, ⟨#[]⟩, k.label⟩)) w) := by
  obtain ⟨kk, n, s, l⟩ := k
  unfold vvCells
  go_enter Try.func35, Try.ntmps35
  go_wp2
  exact bodyPost_ret (v := .agg #[.int .i64 0, .int .i64 0, .string ⟨#[]⟩, .int .u64 (l : Int)]) (by simp [results, Try.results35, go_sem]) rfl ⟨rfl, ((Below.refl _ _).alloc (Nat.le_refl _) _).alloc (by simp) _⟩
theorem keyof_form (v : VV) : ∃ a b c, ∀ W, Calls Try.prog 57 #[.agg (vvCells v)] W fun e w' => e = .returned (.tuple #[.agg #[.int .i64 a, .string b, .bool c], .bool (isKey v)]) ∧ Below W.heap.size W w' := by
  have hk := fun W => keyof_any v W
  cases hb : isKey v
  · rw [hb] at hk
    exact ⟨_, _, _, hk⟩
  · rw [hb] at hk
    exact ⟨_, _, _, hk⟩
theorem tput_nil (ctx : Nat) (k v : VV) (w : World) : Calls Try.prog 34 #[.pointer none, .int .u64 (ctx : Int), .agg (vvCells k), .agg (vvCells v)] w (RetB (.int .i64 41) w) := by
  obtain ⟨a, b, c, hk⟩ := keyof_form k
  generalize isKey k = β at hk
  unfold vvCells at hk ⊢
  have HK := Lib.hid hk
  clear hk
  cases β
  all_goals
    go_enter Try.func34, Try.ntmps34
    go_wp2_with fail
    refine (HK.out _).mono ?_
    rintro e w1 ⟨rfl, hb1⟩
    have HB := Lib.hid ((((Below.refl w.heap.size w).alloc (Nat.le_refl _) _).alloc (by simp) _).trans (hb1.mono (by simp; omega)))
    clear hb1
    go_wp2
    go_ret
    exact ⟨rfl, HB.out.alloc HB.out.size _⟩
theorem tstamp_nil (x : Value) (w : World) : Calls Try.prog 40 #[.pointer none, x] w (RetB (.bool false) w) := by
  go_enter Try.func40, Try.ntmps40
  go_wp2
  go_ret
  exact ⟨rfl, Below.refl _ _⟩
theorem tstamps_nil (w : World) : Calls Try.prog 38 #[.pointer none] w (RetB (.slice none 0 0) w) := by
  go_enter Try.func38, Try.ntmps38
  go_wp2
  go_ret
  exact ⟨rfl, Below.refl _ _⟩
end Go.Proofs.Ythhphjfbdoffhaa
