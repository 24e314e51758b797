/-
  ValueOrders: the plain law: of two ints, or two strings, one is less, or the other one, or they are alike.
-/
import Derived.Test.YthhphjfbdoffhaaValOpen
set_option linter.unusedVariables false
set_option linter.unusedSimpArgs false
namespace Go.Proofs.Ythhphjfbdoffhaa
open Go.ChangeShapes Go.WideShapes Go.ChangeAt Go.RowKit

/-- The three ways. -/
def Tri (l m : List UInt8) : Prop := (Op.bytesLess l m = true ∧ Op.bytesLess m l = false ∧ (l == m) = false) ∨ (Op.bytesLess l m = false ∧ Op.bytesLess m l = true ∧ (l == m) = false) ∨ (Op.bytesLess l m = false ∧ Op.bytesLess m l = false ∧ (l == m) = true)
theorem bytes_tri : ∀ (l m : List UInt8), Tri l m
  | [], [] => .inr (.inr ⟨rfl, rfl, rfl⟩)
  | [], _ :: _ => .inl ⟨rfl, rfl, rfl⟩
  | _ :: _, [] => .inr (.inl ⟨rfl, rfl, rfl⟩)
  | x :: l, y :: m => by
    have ih := bytes_tri l m
    unfold Tri at *
    simp only [Op.bytesLess, List.cons_beq_cons]
    have e1 : (x < y) ↔ x.toNat < y.toNat := UInt8.lt_iff_toNat_lt
    have e2 : (y < x) ↔ y.toNat < x.toNat := UInt8.lt_iff_toNat_lt
    rcases Nat.lt_trichotomy x.toNat y.toNat with h | h | h
    · left
      have h1 : x < y := e1.2 h
      have h2 : ¬ y < x := fun h' => by have := e2.1 h'; omega
      have h3 : (x == y) = false := by simp; rintro rfl; omega
      have h4 : (y == x) = false := by simp; rintro rfl; omega
      simp [h1, h2, h3, h4]
    · have hxy : x = y := UInt8.toNat_inj.1 h
      subst hxy
      have h1 : ¬ x < x := fun h' => by have := e1.1 h'; omega
      simpa [h1] using ih
    · right; left
      have h1 : y < x := e2.2 h
      have h2 : ¬ x < y := fun h' => by have := e1.1 h'; omega
      have h3 : (x == y) = false := by simp; rintro rfl; omega
      have h4 : (y == x) = false := by simp; rintro rfl; omega
      simp [h1, h2, h3, h4]
def Ord3 (a b : VV) : Prop :=
  (doV 6 a b).2 = ByteArray.empty ∧ (doV 6 b a).2 = ByteArray.empty ∧ (doV 7 a b).2 = ByteArray.empty ∧
  (((doV 6 a b).1.n = 1 ∧ (doV 6 b a).1.n = 0 ∧ sameV a b = false ∧ (doV 7 a b).1.n = 1) ∨ ((doV 6 a b).1.n = 0 ∧ (doV 6 b a).1.n = 1 ∧ sameV a b = false ∧ (doV 7 a b).1.n = 0) ∨ ((doV 6 a b).1.n = 0 ∧ (doV 6 b a).1.n = 0 ∧ sameV a b = true ∧ (doV 7 a b).1.n = 1))
theorem orders_int (a b : VV) (k1 : (a.kind == b.kind) = true) (k2 : (a.kind == 2) = true) (ca : checkV a = true) (cb : checkV b = true) : Ord3 a b := by
  obtain ⟨ka, na, sa, la⟩ := a
  obtain ⟨kb, nb, sb, lb⟩ := b
  simp only [beq_iff_eq] at k1 k2
  subst k2
  subst k1
  have hA : sa.toList = [] := by simpa [checkV] using ca
  have hB : sb.toList = [] := by simpa [checkV] using cb
  rcases Int.lt_trichotomy na nb with h | h | h
  · have h1 : ¬ nb < na := by omega
    have h2 : ¬ na = nb := by omega
    have h3 : na ≤ nb := by omega
    simp [Ord3, doV, doneS, bothK, flagV, sameV, hA, hB, h, h1, h2, h3]
  · subst h
    simp [Ord3, doV, doneS, bothK, flagV, sameV, hA, hB]
  · have h1 : ¬ na < nb := by omega
    have h2 : ¬ na = nb := by omega
    have h3 : ¬ na ≤ nb := by omega
    simp [Ord3, doV, doneS, bothK, flagV, sameV, hA, hB, h, h1, h2, h3]
theorem orders_str (a b : VV) (k1 : (a.kind == b.kind) = true) (k3 : (a.kind == 3) = true) (ca : checkV a = true) (cb : checkV b = true) : Ord3 a b := by
  obtain ⟨ka, na, sa, la⟩ := a
  obtain ⟨kb, nb, sb, lb⟩ := b
  simp only [beq_iff_eq] at k1 k3
  subst k3
  subst k1
  have hA : na = 0 := by simpa [checkV] using ca
  have hB : nb = 0 := by simpa [checkV] using cb
  subst hA
  subst hB
  rcases bytes_tri sa.toList sb.toList with ⟨h1, h2, h3⟩ | ⟨h1, h2, h3⟩ | ⟨h1, h2, h3⟩
  all_goals
    have h4 := h3
    simp only [beq_iff_eq, beq_eq_false_iff_ne, ne_eq] at h4
    try rw [h4] at h1
    simp [Ord3, doV, doneS, bothK, flagV, sameV, h1, h2, h3, h4]
end Go.Proofs.Ythhphjfbdoffhaa
