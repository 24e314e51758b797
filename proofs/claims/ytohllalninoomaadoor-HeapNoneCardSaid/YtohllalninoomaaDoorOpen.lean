/-
  How arguments are opened: a reading of a type's cells is the cells of some plain value; slices of whatever such type read as lists.
-/
import Derived.Test.YtohllalninoomaaDoorMem
import Derived.Deep.Slices
import Derived.DataReads
import Derived.ChangeArms
set_option linter.unusedVariables false
set_option linter.unusedSimpArgs false
namespace Go.Proofs.YtohllalninoomaaDoor
open Go.ChangeShapes Go.WideShapes Go.ChangeAt Go.RowKit

section
variable {H : Type} {enc : TypeId × Value → H} {P : Program} {w : World}

/-- Whatever reads as a value of type t is the cells 'f a' of some a, of which (with its datum) G holds. -/
def Dec (enc : TypeId × Value → H) (P : Program) (w : World) (t : TypeId) {α : Type} (f : α → List Value) (G : α → DataW H → Prop) : Prop :=
  ∀ (fuel : Nat) (cs : List Value) (x : DataW H × List MemPlace), DataW.trod enc P w 0 (fun _ => true) true fuel t cs = some x → ∃ a, cs = f a ∧ G a x.1

theorem decInt {t : TypeId} {k : IntKind} (ht : P.underlying t = some (.int k)) : Dec enc P w t (fun n : Int => [.int k n]) (fun n d => (Lit.int k n).wf = true ∧ d = .lit (.int k n)) := by
  intro fuel cs x h
  obtain ⟨n, rfl, rfl, hw⟩ := DataW.trod_int ht h
  exact ⟨n, rfl, hw, rfl⟩
theorem wf_u64 {n : Int} (h : (Lit.int .u64 n).wf = true) : 0 ≤ n ∧ n < 18446744073709551616 := by
  have : 0 ≤ n ∧ n ≤ 18446744073709551615 := by simpa [Lit.wf, IntKind.min, IntKind.max, IntKind.signed, IntKind.bits] using h
  omega
theorem wf_i64 {n : Int} (h : (Lit.int .i64 n).wf = true) : -9223372036854775808 ≤ n ∧ n ≤ 9223372036854775807 := by
  simpa [Lit.wf, IntKind.min, IntKind.max, IntKind.signed, IntKind.bits] using h
theorem decNat {t : TypeId} (ht : P.underlying t = some (.int .u64)) : Dec enc P w t (fun n : Nat => [.int .u64 (n : Int)]) (fun n d => n < 18446744073709551616 ∧ d = .lit (.int .u64 (n : Int))) := by
  intro fuel cs x h
  obtain ⟨n, rfl, rfl, hw⟩ := DataW.trod_int ht h
  have := wf_u64 hw
  obtain ⟨m, rfl⟩ := Int.eq_ofNat_of_zero_le this.1
  exact ⟨m, rfl, by omega, rfl⟩
theorem decStr {t : TypeId} (ht : P.underlying t = some .string) : Dec enc P w t (fun s : ByteArray => [.string s]) (fun s d => s.size ≤ maxLen ∧ d = .lit (.string s.data.toList)) := by
  intro fuel cs x h
  obtain ⟨s, rfl, rfl, hw⟩ := DataW.trod_string ht h
  exact ⟨s, rfl, hw, rfl⟩

theorem drop_part {cs p : List Value} {o K o' : Nat} (h : (cs.drop o).take K = p) (ho : o' = o + K) : cs.drop o = p ++ cs.drop o' := by
  subst ho
  rw [← h, ← List.drop_drop, List.take_append_drop]

/-- The elements of a slice's datum. -/
def elemsOf : DataW H → List (DataW H)
  | .slice es _ => es
  | _ => []
def spareOf : DataW H → List (DataW H)
  | .slice _ sp => sp
  | _ => []

/-- What a slice's cell is: an address (if any), a capacity, its elements. -/
structure Sl (α : Type) where
  A : Option Addr
  cap : Nat
  xs : List α
def Sl.val {α : Type} (s : Sl α) : Value := .slice s.A s.xs.length s.cap

/-- A slice in memory reads as the list of its elements. -/
structure SlIn {α : Type} (w : World) (f : α → List Value) (G : α → DataW H → Prop) (s : Sl α) (d : DataW H) : Prop where
  reads : Reads w w.heap.size s.A (s.xs.flatMap f)
  le : s.xs.length ≤ s.cap
  cap : s.cap ≤ maxLen
  len : (elemsOf d).length = s.xs.length
  form : d = .nil ∨ d = .slice (elemsOf d) (spareOf d)
  all : ∀ (i : Nat) (x : α), s.xs[i]? = some x → ∃ d', (elemsOf d)[i]? = some d' ∧ G x d'

theorem SlIn.mem {α : Type} {f : α → List Value} {G : α → DataW H → Prop} {s : Sl α} {d : DataW H} (h : SlIn w f G s d) {x : α} (hx : x ∈ s.xs) : ∃ d', d' ∈ elemsOf d ∧ G x d' := by
  obtain ⟨i, hi⟩ := List.getElem?_of_mem hx
  obtain ⟨d', h1, h2⟩ := h.all i x hi
  exact ⟨d', List.mem_of_getElem? h1, h2⟩

theorem flatMap_at {α : Type} {f : α → List Value} {K : Nat} (hK : ∀ a, (f a).length = K) : ∀ (xs : List α) (j : Nat) (u : Value), (xs.flatMap f)[j]? = some u → ∃ i x r, j = i * K + r ∧ r < K ∧ xs[i]? = some x ∧ (f x)[r]? = some u
  | [], j, u, h => by simp at h
  | x :: xs, j, u, h => by
    rw [List.flatMap_cons] at h
    rcases Nat.lt_or_ge j K with hj | hj
    · rw [List.getElem?_append_left (by rw [hK]; exact hj)] at h
      exact ⟨0, x, j, by simp, hj, rfl, h⟩
    · rw [List.getElem?_append_right (by rw [hK]; exact hj), hK] at h
      obtain ⟨i, y, r, h1, h2, h3, h4⟩ := flatMap_at hK xs _ u h
      exact ⟨i + 1, y, r, by rw [Nat.add_mul]; omega, h2, by simpa using h3, h4⟩

theorem flatMap_get {α : Type} {f : α → List Value} {K : Nat} (hK : ∀ a, (f a).length = K) : ∀ (xs : List α) (i : Nat) (x : α) (r : Nat), xs[i]? = some x → r < K → (xs.flatMap f)[i * K + r]? = (f x)[r]?
  | [], i, x, r, h, _ => by simp at h
  | y :: xs, 0, x, r, h, hr => by
    simp at h
    subst h
    rw [List.flatMap_cons, List.getElem?_append_left (by rw [hK]; omega)]
    simp
  | y :: xs, i + 1, x, r, h, hr => by
    simp at h
    rw [List.flatMap_cons, List.getElem?_append_right (by rw [hK, Nat.add_mul]; omega), hK, ← flatMap_get hK xs i x r h hr]
    congr 1
    rw [Nat.add_mul]
    omega

theorem flatMap_ne {α : Type} {f : α → List Value} {K : Nat} (hK : ∀ a, (f a).length = K) (hK0 : 0 < K) {xs : List α} {i : Nat} {x : α} (h : xs[i]? = some x) : xs.flatMap f ≠ [] := by
  intro h0
  have := flatMap_get hK xs i x 0 h hK0
  rw [h0, List.getElem?_nil] at this
  have h1 : (f x)[0]? = some ((f x)[0]'(by rw [hK]; exact hK0)) := List.getElem?_eq_getElem _
  rw [h1] at this
  cases this

theorem add_add' (a : Addr) (i j : Nat) : (a.add i).add j = a.add (i + j) := by
  unfold Addr.add
  by_cases hi : i = 0 <;> by_cases hj : j = 0 <;> simp [hi, hj, Nat.add_assoc]
theorem block_add' (a : Addr) (i : Nat) : (a.add i).block = a.block := by unfold Addr.add; split <;> rfl
theorem add_off (a : Addr) (n j : Nat) (hj : 0 < j) : a.add (n + j) = ⟨(a.add n).block, (a.add n).off + j, none⟩ := by
  rw [← add_add']
  unfold Addr.add
  rw [if_neg (by omega : ¬ j = 0)]
/-- The cells of element k of a slice of structs, at the addresses that the walk reckons. -/
theorem elem_zero {w : World} {ad : Addr} {α : Type} {f : α → List Value} {K : Nat} {xs : List α} (hK : ∀ a, (f a).length = K) (hcell : ∀ j u, (xs.flatMap f)[j]? = some u → w.cell? (ad.add j) = some u) {k : Nat} {x : α} (hx : xs[k]? = some x) (hK0 : 0 < K) {v : Value} (hv : (f x)[0]? = some v) :
    w.cell? (ad.add (k * K)) = some v := hcell (k * K) v (by rw [← hv, ← flatMap_get hK xs k x 0 hx hK0]; rfl)
theorem elem_at {w : World} {ad : Addr} {α : Type} {f : α → List Value} {K : Nat} {xs : List α} (hK : ∀ a, (f a).length = K) (hcell : ∀ j u, (xs.flatMap f)[j]? = some u → w.cell? (ad.add j) = some u) {k : Nat} {x : α} (hx : xs[k]? = some x) (r : Nat) (hr : r < K) (h0 : 0 < r) {v : Value} (hv : (f x)[r]? = some v) :
    w.cell? ⟨(ad.add (k * K)).block, (ad.add (k * K)).off + r, none⟩ = some v := by
  rw [← add_off _ _ _ h0]
  exact hcell _ v (by rw [← hv, ← flatMap_get hK xs k x r hx hr])
theorem cell_lt {w : World} {a : Addr} {v : Value} (h : w.cell? a = some v) : a.block < w.heap.size := by
  rcases Nat.lt_or_ge a.block w.heap.size with h1 | h1
  · exact h1
  · simp [World.cell?, Array.getElem?_eq_none h1] at h

theorem decSlice {t e : TypeId} {α : Type} {f : α → List Value} {G : α → DataW H → Prop} {K : Nat} (ht : P.underlying t = some (.slice e)) (hC : P.cellsOf e = K) (hK0 : 0 < K) (hK : ∀ a, (f a).length = K) (hD : Dec enc P w e f G) :
    Dec enc P w t (fun s : Sl α => [s.val]) (SlIn w f G) := by
  intro fuel cs x h
  rcases Deep.open_slice ht h with ⟨rfl, rfl⟩ | ⟨a, len, cap, m, n, D, Pl, rfl, _, hl, hm, hmm, rfl, hi⟩
  · exact ⟨⟨none, 0, []⟩, rfl, .inl rfl, Nat.le_refl _, Nat.zero_le _, rfl, .inl rfl, fun i x hx => by simp at hx⟩
  · have hlm : len ≤ m := by rw [hmm]; split <;> omega
    have hex : ∀ i, i < len → ∃ y : α, w.cells? 0 (a.add (i * K)) K = some (f y) ∧ G y (D i) := by
      intro i hil
      obtain ⟨cs', h1, h2⟩ := hi i (by omega)
      rw [hC] at h1
      obtain ⟨y, rfl, h3⟩ := hD _ _ _ h2
      exact ⟨y, h1, h3⟩
    have hlist : ∀ k, k ≤ len → ∃ xs : List α, xs.length = k ∧ ∀ i y, xs[i]? = some y → w.cells? 0 (a.add (i * K)) K = some (f y) ∧ G y (D i) := by
      intro k
      induction k with
      | zero => intro _; exact ⟨[], rfl, fun i y h => by simp at h⟩
      | succ k ih =>
        intro hk
        obtain ⟨xs, hxl, hxs⟩ := ih (by omega)
        obtain ⟨y, h1, h2⟩ := hex k (by omega)
        refine ⟨xs ++ [y], by simp [hxl], fun i z hz => ?_⟩
        rcases Nat.lt_or_ge i k with hik | hik
        · rw [List.getElem?_append_left (by omega)] at hz
          exact hxs i z hz
        · rw [List.getElem?_append_right (by omega), hxl] at hz
          have : i = k := by
            rcases Nat.lt_or_ge 0 (i - k) with h0 | h0
            · rw [List.getElem?_eq_none (by simp; omega)] at hz; cases hz
            · omega
          subst this
          simp at hz
          subst hz
          exact ⟨h1, h2⟩
    obtain ⟨xs, hxl, hxs⟩ := hlist len (Nat.le_refl _)
    have hcell : ∀ j u, (xs.flatMap f)[j]? = some u → w.cell? (a.add j) = some u := by
      intro j u hu
      obtain ⟨i, y, r, rfl, hr, hy, hfu⟩ := flatMap_at hK xs j u hu
      have := (World.cells?_some (hxs i y hy).1).2.2 r hr
      rw [add_add'] at this
      rw [this, hfu]
    refine ⟨⟨some a, cap, xs⟩, by simp [Sl.val, hxl], ?_, by simpa [hxl] using hl, hm, by simp [elemsOf, hxl], .inr rfl, ?_⟩
    · rcases xs with _ | ⟨y, xs⟩
      · exact .inl rfl
      · right
        refine ⟨a, rfl, ?_, hcell⟩
        have h0 := hcell 0 ((f y)[0]'(by rw [hK]; exact hK0)) (by rw [List.flatMap_cons, List.getElem?_append_left (by rw [hK]; exact hK0)]; simp [hK, hK0])
        have := cell_lt h0
        rwa [block_add'] at this
    · intro i y hy
      have hil : i < len := by have := (List.getElem?_eq_some_iff.1 hy).1; simp at this; omega
      refine ⟨D i, ?_, (hxs i y hy).2⟩
      simp [elemsOf, hil]

/-- An argument of a struct's or an array's type, by value. -/
theorem open_agg {t : TypeId} {α : Type} {f : α → List Value} {G : α → DataW H → Prop} {r : Reach} {b0 : Nat} {v : Value} {d : DataW H} {p : List MemPlace} (ht : (∃ fs, P.underlying t = some (.struct fs)) ∨ ∃ n e, P.underlying t = some (.array n e))
    (hv : Value.okWide P w r b0 t v) (h : DataW.Trod enc P w 0 (fun _ => true) true t v d p) (hD : Dec enc P w t f G) : ∃ a, v = .agg (f a).toArray ∧ G a d := by
  obtain ⟨fuel, h⟩ := h
  obtain ⟨a, h1, h2⟩ := hD _ _ _ h
  refine ⟨a, ?_, h2⟩
  have : ∃ cs, v = .agg cs := by
    unfold Value.okWide at hv
    rcases ht with ⟨fs, ht⟩ | ⟨n, e, ht⟩ <;> rw [ht] at hv <;> obtain ⟨cs, rfl, _⟩ := hv <;> exact ⟨cs, rfl⟩
  obtain ⟨cs, rfl⟩ := this
  simp only [Value.cells] at h1
  rw [← h1]
/-- A slice that is an argument. -/
theorem open_sl {t e : TypeId} {α : Type} {f : α → List Value} {G : α → DataW H → Prop} {r : Reach} {b0 : Nat} {v : Value} {d : DataW H} {p : List MemPlace} (ht : P.underlying t = some (.slice e))
    (hv : Value.okWide P w r b0 t v) (h : DataW.Trod enc P w 0 (fun _ => true) true t v d p) (hD : Dec enc P w t (fun s : Sl α => [s.val]) (SlIn w f G)) : ∃ s : Sl α, v = s.val ∧ SlIn w f G s d := by
  obtain ⟨a0, len, cap, rfl⟩ := okWide_slice ht hv
  obtain ⟨fuel, h⟩ := h
  obtain ⟨s, h1, h2⟩ := hD _ _ _ h
  refine ⟨s, ?_, h2⟩
  simpa [Value.cells] using h1
theorem open_nat {t : TypeId} {r : Reach} {b0 : Nat} {v : Value} {d : DataW H} {p : List MemPlace} (ht : P.underlying t = some (.int .u64))
    (hv : Value.okWide P w r b0 t v) (h : DataW.Trod enc P w 0 (fun _ => true) true t v d p) : ∃ n : Nat, v = .int .u64 (n : Int) ∧ n < 18446744073709551616 := by
  obtain ⟨x, rfl, rfl, rfl, wx⟩ := open_int ht hv h
  have := wf_u64 wx
  obtain ⟨m, rfl⟩ := Int.eq_ofNat_of_zero_le this.1
  exact ⟨m, rfl, by omega⟩
end

theorem Reads.below {w w' : World} {B : Nat} {A : Option Addr} {xs : List Value} (h : Reads w B A xs) (hb : Below B w w') : Reads w' B A xs := by
  rcases h with h | ⟨ad, h1, h2, h3⟩
  · exact .inl h
  · exact .inr ⟨ad, h1, h2, fun j u hu => (hb.cell (by rw [block_add']; exact h2)).trans (h3 j u hu)⟩
theorem Reads.at {w : World} {B : Nat} {A : Option Addr} {xs : List Value} (h : Reads w B A xs) (hn : xs ≠ []) : ∃ ad, A = some ad ∧ ad.block < B ∧ ∀ j u, xs[j]? = some u → w.cell? (ad.add j) = some u := h.resolve_left hn
end Go.Proofs.YtohllalninoomaaDoor
