/-
  slices.BinarySearch over rising names.
-/
import Derived.Test.YtohllalninoomaaDoorTyLike
set_option linter.unusedVariables false
set_option linter.unusedSimpArgs false
namespace Go.Proofs.YtohllalninoomaaDoor
open Go.ChangeShapes Go.WideShapes Go.ChangeAt Go.RowKit

theorem bytesLess_irr : ∀ l : List UInt8, Op.bytesLess l l = false
  | [] => rfl
  | x :: l => by
    have ih := bytesLess_irr l
    have h1 : ¬ x < x := fun h' => by have := UInt8.lt_iff_toNat_lt.1 h'; omega
    simp [Op.bytesLess, h1, ih]
theorem bytesLess_trans : ∀ {l m n : List UInt8}, Op.bytesLess l m = true → Op.bytesLess m n = true → Op.bytesLess l n = true
  | [], [], n, h, _ => by simp [Op.bytesLess] at h
  | [], y :: m, [], _, h => by simp [Op.bytesLess] at h
  | [], y :: m, z :: n, _, _ => rfl
  | x :: l, [], n, h, _ => by simp [Op.bytesLess] at h
  | x :: l, y :: m, [], _, h => by simp [Op.bytesLess] at h
  | x :: l, y :: m, z :: n, h, k => by
    simp only [Op.bytesLess, Bool.or_eq_true, decide_eq_true_eq, Bool.and_eq_true, beq_iff_eq] at h k ⊢
    have e (a b : UInt8) : (a < b) ↔ a.toNat < b.toNat := UInt8.lt_iff_toNat_lt
    rcases h with h | ⟨rfl, h⟩
    · rcases k with k | ⟨rfl, k⟩
      · exact .inl ((e x z).2 (by have := (e x y).1 h; have := (e y z).1 k; omega))
      · exact .inl h
    · rcases k with k | ⟨rfl, k⟩
      · exact .inl k
      · exact .inr ⟨rfl, bytesLess_trans h k⟩
/-- Names rise. -/
def Rise (ns : List ByteArray) : Prop := ∀ (i j : Nat) (a b : ByteArray), i < j → ns[i]? = some a → ns[j]? = some b → Op.bytesLess a.toList b.toList = true
theorem rise_of {ns : List ByteArray} (h : ∀ (i : Nat) (a b : ByteArray), ns[i]? = some a → ns[i + 1]? = some b → Op.bytesLess a.toList b.toList = true) : Rise ns := by
  intro i j
  induction j with
  | zero => intro a b hij; omega
  | succ j ih =>
    intro a b hij ha hb
    rcases Nat.lt_or_ge i j with h1 | h1
    · have hj : j < ns.length := by have := (List.getElem?_eq_some_iff.1 hb).1; omega
      exact bytesLess_trans (ih a _ h1 ha (List.getElem?_eq_getElem hj)) (h j _ b (List.getElem?_eq_getElem hj) hb)
    · obtain rfl : i = j := by omega
      exact h i a b ha hb
def FoundOut (ns : List ByteArray) (s : ByteArray) (w : World) (e : Ending) (w' : World) : Prop :=
  w = w' ∧ ((∃ j : Nat, ns[j]? = some s ∧ e = .returned (.tuple #[.int .i64 (j : Int), .bool true])) ∨ (s ∉ ns ∧ ∃ j : Nat, e = .returned (.tuple #[.int .i64 (j : Int), .bool false])))
theorem found_no {ns : List ByteArray} (hr : Rise ns) {s : ByteArray} {lo : Nat} (h1 : ∀ (j : Nat) (a : ByteArray), j < lo → ns[j]? = some a → Op.bytesLess a.toList s.toList = true) (h2 : ∀ (j : Nat) (a : ByteArray), lo ≤ j → ns[j]? = some a → Op.bytesLess a.toList s.toList = false)
    (h3 : ns[lo]? ≠ some s) : s ∉ ns := fun hm => by
  obtain ⟨j, hj⟩ := List.getElem?_of_mem hm
  rcases Nat.lt_trichotomy j lo with h | h | h
  · have := h1 j s h hj
    rw [bytesLess_irr] at this
    cases this
  · subst h
    exact h3 hj
  · have hl : lo < ns.length := by have := (List.getElem?_eq_some_iff.1 hj).1; omega
    have := h2 lo _ (Nat.le_refl _) (List.getElem?_eq_getElem hl)
    rw [hr lo j _ s h (List.getElem?_eq_getElem hl) hj] at this
    cases this
end Go.Proofs.YtohllalninoomaaDoor
