/-
  How long a type's text is; what joins texts.
-/
import Derived.Test.YtllpicibncdppaaDoorTyShP
import Derived.Lib.Join
set_option linter.unusedVariables false
set_option linter.unusedSimpArgs false
namespace Go.Proofs.YtllpicibncdppaaDoor

theorem join_joinL (sep : List UInt8) (l : List (List UInt8)) : Lib.join l sep = joinL sep l := by
  unfold Lib.join
  cases l with
  | nil => rfl
  | cons a l =>
    have h := Lib.join_cons a l sep
    unfold Lib.join at h
    rw [h]
    simp [joinL, Lib.joinTail, List.flatMap]
/-- The lengths of texts together. -/
def lens : List (List UInt8) → Nat
  | [] => 0
  | a :: l => a.length + lens l
theorem tail_len (sep : List UInt8) : ∀ l : List (List UInt8), (l.flatMap (fun b => sep ++ b)).length = lens l + sep.length * l.length
  | [] => by simp [lens]
  | b :: l => by
    rw [List.flatMap_cons, List.length_append, List.length_append, tail_len sep l, List.length_cons, lens, Nat.mul_add]
    omega
theorem joinL_len (sep : List UInt8) (l : List (List UInt8)) : (joinL sep l).length ≤ lens l + sep.length * l.length := by
  cases l with
  | nil => simp [joinL]
  | cons a l =>
    rw [joinL, List.length_append, tail_len, lens, List.length_cons, Nat.mul_add]
    omega
theorem lens_dropLast : ∀ l : List (List UInt8), lens l = lens l.dropLast + (l.getLast?.getD []).length
  | [] => by simp [lens]
  | [a] => by simp [lens]
  | a :: b :: l => by
    have h := lens_dropLast (b :: l)
    have e1 : lens (a :: b :: l) = a.length + lens (b :: l) := by rw [lens]
    have e2 : lens (a :: (b :: l).dropLast) = a.length + lens (b :: l).dropLast := by rw [lens]
    rw [e1, h, List.dropLast_cons_cons, e2, List.getLast?_cons_cons]
    omega
theorem wrapL_len {k : Int} {l : List (List UInt8)} : (wrapL k l).length ≤ lens l + 3 * l.length + 7 := by
  unfold wrapL
  split
  · have := joinL_len [32, 124, 32] l
    simp at this
    omega
  split
  · have := joinL_len [44, 32] l
    simp at this ⊢
    omega
  split
  · have h1 := joinL_len [44, 32] l.dropLast
    have h2 := lens_dropLast l
    simp at h1 ⊢
    omega
  · unfold nameL
    repeat' split
    all_goals simp
theorem lens_zip : ∀ (ns : List ByteArray) (ss : List (List UInt8)), lens (List.zipWith fieldL ns ss) ≤ lens ss + 2 * ss.length + 100 * wName ns
  | [], ss => by simp [lens]
  | n :: ns, [] => by simp [lens]
  | n :: ns, s :: ss => by
    have := lens_zip ns ss
    have h2 : n.data.toList.length = n.size := rfl
    rw [List.zipWith_cons_cons, lens, lens, fieldL, wName, List.length_append, h2, List.length_cons, List.length_cons, List.length_cons]
    omega
theorem partsL_len {k : Int} {ns : List ByteArray} {ss : List (List UInt8)} : lens (partsL k ns ss) ≤ lens ss + 2 * ss.length + 100 * wName ns ∧ (partsL k ns ss).length ≤ ss.length := by
  unfold partsL
  split
  · exact ⟨lens_zip ns ss, by rw [List.length_zipWith]; omega⟩
  · omega
/-- A text is not much longer than its type weighs. -/
theorem showT_len : ∀ t : Ty, (showT t).length + 10 ≤ 100 * wt t := fun t => Ty.ind (P := fun t => (showT t).length + 10 ≤ 100 * wt t) (fun k ns xs ih => by
  rw [showT_eq, wt_eq]
  show (wrapL k (partsL k ns (xs.map showT))).length + 10 ≤ 100 * (1 + wName ns + wtL xs)
  have h1 := @wrapL_len k (partsL k ns (xs.map showT))
  have h2 := @partsL_len k ns (xs.map showT)
  have h3 : ∀ l : List Ty, (∀ a ∈ l, (showT a).length + 10 ≤ 100 * wt a) → lens (l.map showT) + 10 * l.length ≤ 100 * wtL l := fun l => by
    induction l with
    | nil => intro _; simp [lens, wtL]
    | cons a l ihl =>
      intro h
      have k1 := h a (by simp)
      have k2 := ihl fun b hb => h b (by simp [hb])
      rw [List.map_cons, lens, wtL, List.length_cons]
      omega
  have h4 := h3 xs ih
  rw [List.length_map] at h2
  omega) t
end Go.Proofs.YtllpicibncdppaaDoor
