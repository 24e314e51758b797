/-
  More openers: an array by value; a slice with the form of nil; what the size of an argument bounds.
-/
import Derived.Test.YtohllalninoomaaDoorOpen
import Derived.OpenShut
set_option linter.unusedVariables false
set_option linter.unusedSimpArgs false
namespace Go.Proofs.YtohllalninoomaaDoor
open Go.ChangeShapes Go.WideShapes Go.ChangeAt Go.RowKit

section
variable {H : Type} {enc : TypeId × Value → H} {P : Program} {w : World}

/-- All that a datum weighs is within the reach. -/
def Sized (P : Program) (t : TypeId) (d : DataW H) : Prop := ∀ n ∈ d.weights P t, n ≤ reachBytes
theorem sized_arg {ts : List TypeId} {ds : List (DataW H)} (h : (DataW.weightsEach P ts ds).all (· ≤ reachBytes) = true) {j : Nat} {t : TypeId} {d : DataW H} (ht : ts[j]? = some t) (hd : ds[j]? = some d) : Sized P t d := fun n hn => by
  have := List.all_eq_true.1 h n (DataW.weights_mem_each ht hd n hn)
  simpa using this
theorem weightsAll_mem {e : TypeId} : ∀ {ds : List (DataW H)} {i : Nat} {d : DataW H}, ds[i]? = some d → ∀ n ∈ d.weights P e, n ∈ DataW.weightsAll P e ds
  | [], i, d, h, n, _ => by simp at h
  | x :: ds, 0, d, h, n, hn => by
    simp at h
    subst h
    rw [DataW.weightsAll]
    exact List.mem_append_left _ hn
  | x :: ds, i + 1, d, h, n, hn => by
    simp at h
    rw [DataW.weightsAll]
    exact List.mem_append_right _ (weightsAll_mem h n hn)
theorem sized_part {t e : TypeId} {n : Nat} {ds : List (DataW H)} (ht : P.underlying t = some (.array n e)) (h : Sized P t (.agg ds)) {i : Nat} {d : DataW H} (hd : ds[i]? = some d) : Sized P e d := fun m hm => by
  refine h m ?_
  rw [DataW.weights, ht]
  exact weightsAll_mem hd m hm
theorem sized_sl {α : Type} {f : α → List Value} {G : α → DataW H → Prop} {s : Sl α} {t e : TypeId} {d : DataW H} (ht : P.underlying t = some (.slice e)) (h : SlIn w f G s d) (hs : Sized P t d) : s.xs.length * P.bytesOf e ≤ reachBytes := by
  rcases h.form with hd | hd
  · have := h.len
    rw [hd] at this
    simp [elemsOf] at this
    simp [← this]
  · have h1 : ((elemsOf d).length + (spareOf d).length) * P.bytesOf e ≤ reachBytes := by
      refine hs _ ?_
      rw [hd, DataW.weights, ht]
      simp [elemsOf, spareOf]
    rw [← h.len]
    exact Nat.le_trans (Nat.mul_le_mul_right _ (Nat.le_add_right _ _)) h1

/-- A slice, with the form of nil. -/
structure SlIn2 {α : Type} (w : World) (f : α → List Value) (G : α → DataW H → Prop) (s : Sl α) (d : DataW H) : Prop where
  sl : SlIn w f G s d
  nil_ : s.A = none → s.xs = [] ∧ s.cap = 0
theorem decSlice2 {t e : TypeId} {α : Type} {f : α → List Value} {G : α → DataW H → Prop} {K : Nat} (ht : P.underlying t = some (.slice e)) (hC : P.cellsOf e = K) (hK0 : 0 < K) (hK : ∀ a, (f a).length = K) (hD : Dec enc P w e f G) :
    Dec enc P w t (fun s : Sl α => [s.val]) (SlIn2 w f G) := by
  intro fuel cs x h
  obtain ⟨s, h1, h2⟩ := decSlice ht hC hK0 hK hD fuel cs x h
  refine ⟨s, h1, h2, fun hA => ?_⟩
  rcases Deep.open_slice ht h with ⟨e1, _⟩ | ⟨a, len, cap, m, n, D, Pl, e1, _⟩
  · have e1 : [Value.slice s.A s.xs.length s.cap] = _ := h1.symm.trans e1
    injection e1 with e1 _
    injection e1 with _ e2 e3
    exact ⟨List.eq_nil_of_length_eq_zero e2, e3⟩
  · have e1 : [Value.slice s.A s.xs.length s.cap] = _ := h1.symm.trans e1
    injection e1 with e1 _
    injection e1 with e2 _ _
    rw [hA] at e2
    cases e2
/-- An array by value. -/
structure ArrIn {α : Type} (n : Nat) (G : α → DataW H → Prop) (xs : List α) (d : DataW H) : Prop where
  len : xs.length = n
  form : d = .agg (match d with | .agg ds => ds | _ => [])
  all : ∀ (i : Nat) (x : α), xs[i]? = some x → ∃ d', (match d with | .agg ds => ds | _ => [])[i]? = some d' ∧ G x d'
theorem decArr {t e : TypeId} {n K : Nat} {α : Type} {f : α → List Value} {G : α → DataW H → Prop} (ht : P.underlying t = some (.array n e)) (hC : P.cellsOf e = K) (hCt : P.cellsOf t = n * K) (hK : ∀ a, (f a).length = K) (hD : Dec enc P w e f G) :
    Dec enc P w t (fun xs : List α => xs.flatMap f) (ArrIn n G) := by
  intro fuel cs x h
  obtain ⟨ys, m, rfl, rfl, hlen, hl, hf⟩ := DataW.trod_array ht h
  rw [hC] at hf
  rw [hCt] at hlen
  have hlist : ∀ k, k ≤ n → ∃ xs : List α, xs.length = k ∧ cs.take (k * K) = xs.flatMap f ∧ ∀ (i : Nat) (z : α), xs[i]? = some z → ∃ d', (ys.map (·.1))[i]? = some d' ∧ G z d' := by
    intro k
    induction k with
    | zero => intro _; exact ⟨[], rfl, by simp, fun i z hz => by simp at hz⟩
    | succ k ih =>
      intro hk
      obtain ⟨xs, hxl, hxs, hxa⟩ := ih (by omega)
      have hy : ys[k]? = some (ys[k]'(by omega)) := List.getElem?_eq_getElem _
      obtain ⟨z, h1, h2⟩ := hD _ _ _ ((hf k (by omega)).trans hy)
      refine ⟨xs ++ [z], by simp [hxl], ?_, fun i u hu => ?_⟩
      · rw [Nat.add_mul, Nat.one_mul, List.take_add, hxs, h1]
        simp
      · rcases Nat.lt_or_ge i k with hik | hik
        · rw [List.getElem?_append_left (by omega)] at hu
          exact hxa i u hu
        · rw [List.getElem?_append_right (by omega), hxl] at hu
          have : i = k := by
            rcases Nat.lt_or_ge 0 (i - k) with h0 | h0
            · rw [List.getElem?_eq_none (by simp; omega)] at hu; cases hu
            · omega
          subst this
          simp at hu
          subst hu
          exact ⟨_, by rw [List.getElem?_map, hy]; rfl, h2⟩
  obtain ⟨xs, hxl, hxs, hxa⟩ := hlist n (Nat.le_refl _)
  refine ⟨xs, ?_, hxl, rfl, hxa⟩
  show cs = List.flatMap f xs
  rw [← hxs, List.take_of_length_le (by omega)]
end
end Go.Proofs.YtohllalninoomaaDoor
