/-
  Chapter 04: the keys of the two maps of a table.
-/
import Derived.Test.YthhphjfbdoffhaaFr
import Derived.Test.YthhphjfbdoffhaaOpen
import Derived.DeepKeys4
import Derived.Maps.Keyed
import Derived.Maps.OwnOps
import Derived.Maps.Views
import Derived.ChangeKeys
set_option linter.unusedVariables false
set_option linter.unusedSimpArgs false
namespace Go.Proofs.Ythhphjfbdoffhaa
open Go.ChangeShapes Go.WideShapes Go.ChangeAt Go.RowKit Go.Maps

theorem wideK : (match Try.prog.underlying 87 with | some (.array _ _) | some (.struct _) => true | _ => false) = true := by rw [Try.underlying87]
theorem rowK : 87 < Try.prog.types.size := of_decide_eq_true (by kernel_rfl)
theorem atK : Try.prog.keyTypeAt 2 87 = true := by kernel_rfl
theorem lawK0 : WideMaps.KeyLaw Try.prog 87 := deep_law_laid laidOut (m := 2) (by omega) rowK atK (by rw [Try.underlying87])
theorem lawK : Keyed Try.prog 87 := Keyed.of_law lawK0
theorem lawS : Keyed Try.prog 9 := string_keyed Try.underlying9
/-- What a key reads as. -/
def keyL (n : Int) (s : ByteArray) (b : Bool) : Lit := .string (keyBytes [.int .i64 n, .string s.data.toList, .bool b])
def keyV (n : Int) (s : ByteArray) (b : Bool) : Value := .agg #[.int .i64 n, .string s, .bool b]
theorem key_of (n : Int) (s : ByteArray) (b : Bool) (hn : -9223372036854775808 ≤ n ∧ n ≤ 9223372036854775807) (hs : s.size ≤ maxLen) : keyOf Try.prog 87 (keyV n s b) = some (keyL n s b) := by
  have hwf : (Lit.int .i64 n).wf = true := WalkArith.wf_i64 hn
  obtain ⟨k, hk⟩ : ∃ k, Try.prog.types.size + 1 = k + 2 := ⟨Try.prog.types.size - 1, by have := rowK; omega⟩
  have h1 : Try.prog.keyType 87 = true := by kernel_rfl
  have hC : Try.prog.cellsOf 87 = 3 := by kernel_rfl
  have c0 : Try.prog.cellsOf 2 = 1 := by kernel_rfl
  have c1 : Try.prog.cellsOf 9 = 1 := by kernel_rfl
  have c2 : Try.prog.cellsOf 4 = 1 := by kernel_rfl
  have h2 : (Value.agg #[.int .i64 n, .string s, .bool b]).formed Try.prog 87 = true := by simp [Value.formed, Try.underlying87, hC]
  unfold keyOf keyV keyL
  rw [Try.underlying87]
  simp only [h1, h2, hk, Bool.and_self, if_true]
  simp [Program.keyLits, Try.underlying87, Try.underlying2, Try.underlying9, Try.underlying4, hC, c0, c1, c2, Value.cells, hwf, hs]
theorem keyL_inj {n n' : Int} {s s' : ByteArray} {b b' : Bool} (hn : -9223372036854775808 ≤ n ∧ n ≤ 9223372036854775807) (hs : s.size ≤ maxLen) (hn' : -9223372036854775808 ≤ n' ∧ n' ≤ 9223372036854775807) (hs' : s'.size ≤ maxLen) (h : keyL n s b = keyL n' s' b') : n = n' ∧ s = s' ∧ b = b' := by
  have h1 := key_of n s b hn hs
  have h2 := key_of n' s' b' hn' hs'
  rw [← h] at h2
  have := lawK.inj h1 h2
  simp [keyV] at this
  exact this
end Go.Proofs.Ythhphjfbdoffhaa
