/-
  Chapter 04: the keys of the two maps of a table.
-/
import Derived.Test.YtohllalninoomaaDoorFr
import Derived.Test.YtohllalninoomaaDoorOpen
import Derived.DeepKeys4
import Derived.Maps.Keyed
import Derived.Maps.OwnOps
import Derived.Maps.Views
import Derived.ChangeKeys
set_option linter.unusedVariables false
set_option linter.unusedSimpArgs false
namespace Go.Proofs.YtohllalninoomaaDoor
open Go.ChangeShapes Go.WideShapes Go.ChangeAt Go.RowKit Go.Maps

theorem wideK : (match Tryd.prog.underlying 117 with | some (.array _ _) | some (.struct _) => true | _ => false) = true := by rw [Tryd.underlying117]
theorem rowK : 117 < Tryd.prog.types.size := of_decide_eq_true (by kernel_rfl)
theorem atK : Tryd.prog.keyTypeAt 2 117 = true := by kernel_rfl
theorem lawK0 : WideMaps.KeyLaw Tryd.prog 117 := deep_law_laid laidOut (m := 2) (by omega) rowK atK (by rw [Tryd.underlying117])
theorem lawK : Keyed Tryd.prog 117 := Keyed.of_law lawK0
theorem lawTS : Keyed Tryd.prog 9 := string_keyed Tryd.underlying9
/-- What a key reads as. -/
def keyL (n : Int) (s : ByteArray) (b : Bool) : Lit := .string (keyBytes [.int .i64 n, .string s.data.toList, .bool b])
def keyV (n : Int) (s : ByteArray) (b : Bool) : Value := .agg #[.int .i64 n, .string s, .bool b]
theorem key_of (n : Int) (s : ByteArray) (b : Bool) (hn : -9223372036854775808 ≤ n ∧ n ≤ 9223372036854775807) (hs : s.size ≤ maxLen) : keyOf Tryd.prog 117 (keyV n s b) = some (keyL n s b) := by
  have hwf : (Lit.int .i64 n).wf = true := WalkArith.wf_i64 hn
  obtain ⟨k, hk⟩ : ∃ k, Tryd.prog.types.size + 1 = k + 2 := ⟨Tryd.prog.types.size - 1, by have := rowK; omega⟩
  have h1 : Tryd.prog.keyType 117 = true := by kernel_rfl
  have hC : Tryd.prog.cellsOf 117 = 3 := by kernel_rfl
  have c0 : Tryd.prog.cellsOf 2 = 1 := by kernel_rfl
  have c1 : Tryd.prog.cellsOf 9 = 1 := by kernel_rfl
  have c2 : Tryd.prog.cellsOf 4 = 1 := by kernel_rfl
  have h2 : (Value.agg #[.int .i64 n, .string s, .bool b]).formed Tryd.prog 117 = true := by simp [Value.formed, Tryd.underlying117, hC]
  unfold keyOf keyV keyL
  rw [Tryd.underlying117]
  simp only [h1, h2, hk, Bool.and_self, if_true]
  simp [Program.keyLits, Tryd.underlying117, Tryd.underlying2, Tryd.underlying9, Tryd.underlying4, hC, c0, c1, c2, Value.cells, hwf, hs]
theorem keyL_inj {n n' : Int} {s s' : ByteArray} {b b' : Bool} (hn : -9223372036854775808 ≤ n ∧ n ≤ 9223372036854775807) (hs : s.size ≤ maxLen) (hn' : -9223372036854775808 ≤ n' ∧ n' ≤ 9223372036854775807) (hs' : s'.size ≤ maxLen) (h : keyL n s b = keyL n' s' b') : n = n' ∧ s = s' ∧ b = b' := by
  have h1 := key_of n s b hn hs
  have h2 := key_of n' s' b' hn' hs'
  rw [← h] at h2
  have := lawK.inj h1 h2
  simp [keyV] at this
  exact this
end Go.Proofs.YtohllalninoomaaDoor
