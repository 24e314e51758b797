/-
  Chapter 25: masks and inputs that came in.
-/
import Derived.Test.YthgcadikinfdiaaDoorTrJ
import Derived.Test.YthgcadikinfdiaaDoorOpen2
set_option linter.unusedVariables false
set_option linter.unusedSimpArgs false
namespace Go.Proofs.YthgcadikinfdiaaDoor
open Go.ChangeShapes Go.WideShapes Go.ChangeAt Go.RowKit

theorem eight_of {α : Type} (d : α) {l : List α} (h : l.length = 8) : l = eight (fun k => l[k]?.getD d) := by
  match l, h with
  | [a, b, c, e, f, g, i, j], _ => rfl
def mOf (ms : List Nat) (k : Nat) : Nat := ms[k]?.getD 0
def sOf (ss : List (Sl Int)) (k : Nat) : Sl Int := ss[k]?.getD ⟨none, 0, []⟩
theorem masks_form {ms : List Nat} (h : ms.length = 8) : Value.agg (ms.flatMap fun n : Nat => [Value.int .u64 (n : Int)]).toArray = .agg (arr8 (mv (mOf ms))) := by
  have e : ms = eight (mOf ms) := eight_of 0 h
  conv => lhs; rw [e]
  rfl
def slV (s : Nat → Sl Int) (k : Nat) : Value := (s k).val
theorem ins_form {ss : List (Sl Int)} (h : ss.length = 8) : Value.agg (ss.flatMap fun s : Sl Int => [s.val]).toArray = .agg (arr8 (slV (sOf ss))) := by
  have e : ss = eight (sOf ss) := eight_of (⟨none, 0, []⟩ : Sl Int) h
  conv => lhs; rw [e]
  rfl
theorem masks_lt {H : Type} {ms : List Nat} {d : DataW H} (h : ArrIn 8 (fun (n : Nat) (d : DataW H) => n < 18446744073709551616 ∧ d = .lit (.int .u64 (n : Int))) ms d) : ∀ k, k < 8 → mOf ms k < 18446744073709551616 := by
  intro k hk
  have hx : ms[k]? = some (ms[k]'(by rw [h.len]; exact hk)) := List.getElem?_eq_getElem _
  obtain ⟨d', _, h1, _⟩ := h.all k _ hx
  unfold mOf
  rw [hx]
  exact h1
theorem ints_cells (l : List Int) : (l.flatMap fun n : Int => [Value.int .i64 n]) = l.map fun x => Value.int .i64 x := by
  induction l with
  | nil => rfl
  | cons x l ih => rw [List.flatMap_cons, ih]; rfl
/-- Eight slices of numbers that came in. -/
def InsOk (W : World) (s : Nat → Sl Int) : Prop := ∀ k, k < 8 → Reads W W.heap.size (s k).A ((s k).xs.map fun x => Value.int .i64 x) ∧ (s k).xs.length ≤ 140737488355328
theorem ins_ok {H : Type} {W : World} {ss : List (Sl Int)} {d : DataW H} (h : ArrIn 8 (SlIn W (fun n : Int => [Value.int .i64 n]) (fun (n : Int) (d : DataW H) => (Lit.int .i64 n).wf = true ∧ d = .lit (.int .i64 n))) ss d) (hz : Sized Tryd.prog 35 d) : InsOk W (sOf ss) := by
  intro k hk
  have hx : ss[k]? = some (ss[k]'(by rw [h.len]; exact hk)) := List.getElem?_eq_getElem _
  obtain ⟨d', h1, h2⟩ := h.all k _ hx
  have e : sOf ss k = ss[k]'(by rw [h.len]; exact hk) := by unfold sOf; rw [hx]; rfl
  have hz' := hz
  rw [h.form] at hz'
  have h3 := sized_sl Tryd.underlying33 h2 (sized_part Tryd.underlying35 hz' h1)
  rw [show Tryd.prog.bytesOf 2 = 8 from by kernel_rfl] at h3
  unfold reachBytes at h3
  have h4 := h2.reads
  rw [ints_cells] at h4
  rw [e]
  exact ⟨h4, by omega⟩
end Go.Proofs.YthgcadikinfdiaaDoor
