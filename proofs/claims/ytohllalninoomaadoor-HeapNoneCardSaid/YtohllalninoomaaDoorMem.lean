/-
  Plain words for memory and answers: what a call returned with the world as it was; a slice that reads as a list.
-/
import Derived.Test.YtohllalninoomaaDoorFrame
import Derived.WalkLawsBesides
import Derived.WalkSpells
import Derived.Lib.Hide
import Derived.Deep.AppendLies
import Derived.Maps.AppendAt
import Derived.Deep.Draws
set_option linter.unusedVariables false
set_option linter.unusedSimpArgs false
namespace Go.Proofs.YtohllalninoomaaDoor
open Go.ChangeShapes Go.WideShapes Go.ChangeAt Go.RowKit

def Ret (v : Value) (w : World) (e : Ending) (w' : World) : Prop := e = .returned v ∧ w = w'
theorem ret_bool {a b : Bool} (h : a = b) : Ending.returned (.bool a) = .returned (.bool b) := by rw [h]
theorem ret_int {k : IntKind} {a b : Int} (h : a = b) : Ending.returned (.int k a) = .returned (.int k b) := by rw [h]

/-- A slice's cells: at address A (if there is one at all) stand the values xs, below block B. -/
def Reads (w : World) (B : Nat) (A : Option Addr) (xs : List Value) : Prop :=
  xs = [] ∨ ∃ ad, A = some ad ∧ ad.block < B ∧ ∀ j u, xs[j]? = some u → w.cell? (ad.add j) = some u


/-- What a call returned, and that below the old heap's size nothing has turned. -/
def RetB (v : Value) (w : World) (e : Ending) (w' : World) : Prop := e = .returned v ∧ Below w.heap.size w w'

/-- From w to w' nothing below B has turned, and from B on only cells of blocks of the types T; what is new lies behind. -/
structure Keep (B : Nat) (T : List TypeId) (w w' : World) : Prop where
  os : w'.os = w.os
  tape : w'.tape = w.tape
  output : w'.output = w.output
  size : w.heap.size ≤ w'.heap.size
  block : ∀ b, b < w.heap.size → (b < B ∨ ∀ cs t fr, w.heap[b]? = some (.cells cs t fr) → t ∉ T) → w'.heap[b]? = w.heap[b]?

section
variable {B : Nat} {T T' : List TypeId} {w w1 w2 : World}
theorem Keep.refl (B : Nat) (T : List TypeId) (w : World) : Keep B T w w := ⟨rfl, rfl, rfl, Nat.le_refl _, fun _ _ _ => rfl⟩
theorem Keep.trans (h : Keep B T w w1) (k : Keep B T w1 w2) : Keep B T w w2 :=
  ⟨k.os.trans h.os, k.tape.trans h.tape, k.output.trans h.output, Nat.le_trans h.size k.size, fun b hb hc => by
    have e := h.block b hb hc
    exact (k.block b (Nat.lt_of_lt_of_le hb h.size) (hc.imp id fun hn cs t fr h1 => hn cs t fr (e ▸ h1))).trans e⟩
theorem Keep.more (h : Keep B T w w1) (hT : ∀ t ∈ T, t ∈ T') : Keep B T' w w1 :=
  ⟨h.os, h.tape, h.output, h.size, fun b hb hc => h.block b hb (hc.imp id fun hn cs t fr h1 ht => hn cs t fr h1 (hT t ht))⟩
theorem Keep.of_below (h : Below w.heap.size w w1) (B : Nat) (T : List TypeId) : Keep B T w w1 := ⟨h.os, h.tape, h.output, h.size, fun b hb _ => h.block b hb⟩
theorem Keep.below (h : Keep B T w w1) (hB : B ≤ w.heap.size) : Below B w w1 := ⟨h.os, h.tape, h.output, h.size, fun b hb => h.block b (by omega) (.inl hb)⟩
theorem Keep.drew (h : Keep B T w w1) : Keep B T w w1.drew := ⟨h.os, h.tape, h.output, h.size, h.block⟩
theorem Keep.drewN (h : Keep B T w w1) (n : Nat) : Keep B T w (w1.drewN n) := ⟨h.os, h.tape, h.output, h.size, h.block⟩
theorem Keep.alloc (h : Keep B T w w1) (o : Obj) : Keep B T w (w1.alloc o) := h.trans (.of_below ((Below.refl _ _).alloc (Nat.le_refl _) o) B T)
theorem Keep.set (h : Keep B T w w1) {a : Addr} (u : Value) {cs : Array Value} {t : TypeId} {fr : Nat × Nat} (hb : w1.heap[a.block]? = some (.cells cs t fr)) (ht : t ∈ T) (hB : B ≤ a.block) : Keep B T w (w1.setCell a u) :=
  h.trans ⟨rfl, rfl, rfl, by simp [World.setCell], fun b _ hc => by
    refine Below.heap_setCell _ _ _ _ fun e => ?_
    subst e
    rcases hc with hc | hc
    · omega
    · exact hc _ _ _ hb ht⟩
theorem Keep.setNew (h : Keep B T w w1) {a : Addr} (u : Value) (hb : w.heap.size ≤ a.block) : Keep B T w (w1.setCell a u) :=
  ⟨h.os, h.tape, h.output, by simpa [World.setCell] using h.size, fun b hb' hc => (Below.heap_setCell _ _ _ _ (by omega)).trans (h.block b hb' hc)⟩
theorem Keep.grown (h : Keep B T w w1) {row : Option Nat} (hg : w1.grownBy w2 row) (hr : ∀ g, row = some g → w.heap.size ≤ g ∨ (B ≤ g ∧ ∃ cs t fr, w1.heap[g]? = some (.cells cs t fr) ∧ t ∈ T)) : Keep B T w w2 :=
  ⟨hg.os.trans h.os, hg.tape.trans h.tape, hg.output.trans h.output, Nat.le_trans h.size hg.size, fun b hb hc => by
    have e := h.block b hb hc
    refine (hg.block b (Nat.lt_of_lt_of_le hb h.size) fun e' => ?_).trans e
    rcases hr b e'.symm with h1 | ⟨h1, cs, t, fr, h2, h3⟩
    · omega
    · rcases hc with hc | hc
      · omega
      · exact hc _ _ _ (e ▸ h2) h3⟩
theorem Keep.blk (h : Keep B T w w1) {b : Nat} {cs : Array Value} {t : TypeId} {fr : Nat × Nat} (hb : w.heap[b]? = some (.cells cs t fr)) (ht : t ∉ T) : w1.heap[b]? = some (.cells cs t fr) :=
  (h.block b (Array.getElem?_eq_some_iff.1 hb).1 (.inr fun cs' t' fr' h1 => by rw [hb] at h1; injection h1 with h1; injection h1 with _ h1 _; subst h1; exact ht)).trans hb
theorem Keep.own (h : Keep B T w w1) {base : Nat} {e : TypeId} {sz n : Nat} {v : Value} {xs : List Value} (ho : w.ownsRow base e sz v n xs) (ht : e ∉ T) : w1.ownsRow base e sz v n xs := by
  obtain ⟨h1, h2⟩ := ho
  refine ⟨h1, h2.imp id ?_⟩
  rintro ⟨g, cap, cur, hv, hg, hh, r⟩
  exact ⟨g, cap, cur, hv, hg, h.blk hh ht, r⟩
theorem below_own (h : Below w.heap.size w w1) {base : Nat} {e : TypeId} {sz n : Nat} {v : Value} {xs : List Value} (ho : w.ownsRow base e sz v n xs) : w1.ownsRow base e sz v n xs :=
  (Keep.of_below h 0 []).own ho (by simp)
theorem below_blk (h : Below w.heap.size w w1) {b : Nat} {o : Obj} (hb : w.heap[b]? = some o) : w1.heap[b]? = some o :=
  (h.block b (Array.getElem?_eq_some_iff.1 hb).1).trans hb
/-- The form of an owned row's value, whether nil or not. -/
theorem own_form {base : Nat} {e : TypeId} {sz n : Nat} {v : Value} {xs : List Value} (ho : w.ownsRow base e sz v n xs) : ∃ A c, v = .slice A n c ∧ n ≤ c ∧ c ≤ maxLen ∧
    (0 < n → ∃ gb, A = some ⟨gb, 0, none⟩ ∧ base ≤ gb ∧ gb < w.heap.size ∧ (∃ cur, w.heap[gb]? = some (.cells cur e (0, 0))) ∧ ∀ j u, xs[j]? = some u → w.cell? ⟨gb, j, none⟩ = some u) := by
  rcases ho.2 with ⟨rfl, rfl⟩ | ⟨g, cap, cur, rfl, hg, hh, h1, h2, h3, h4⟩
  · exact ⟨none, 0, rfl, Nat.le_refl _, by unfold maxLen; omega, fun h => absurd h (by omega)⟩
  · refine ⟨_, _, rfl, h1, h2, fun _ => ⟨g, rfl, hg, (Array.getElem?_eq_some_iff.1 hh).1, ⟨cur, hh⟩, fun j u hu => ?_⟩⟩
    have hj : j < n * sz := by have := (List.getElem?_eq_some_iff.1 hu).1; have := ho.1; omega
    rw [World.ownsRow.cellAt ho j hj, hu]
end
theorem cell_of_blk {w : World} {b i : Nat} {cs : Array Value} {t : TypeId} {v : Value} (h : w.heap[b]? = some (.cells cs t (0, 0))) (hv : cs[i]? = some v) : w.cell? ⟨b, i, none⟩ = some v := (cell_of_row w b i cs t (0, 0) h).trans hv
theorem free_of_blk {w : World} {b i : Nat} {cs : Array Value} {t : TypeId} (h : w.heap[b]? = some (.cells cs t (0, 0))) : w.frozen? ⟨b, i, none⟩ = false := by simp [World.frozen?, h]
theorem blk_lt {w : World} {b : Nat} {o : Obj} (h : w.heap[b]? = some o) : b < w.heap.size := (Array.getElem?_eq_some_iff.1 h).1
theorem blk_set {w : World} {b i : Nat} {cs : Array Value} {t : TypeId} {fr : Nat × Nat} (h : w.heap[b]? = some (.cells cs t fr)) (u : Value) : (w.setCell ⟨b, i, none⟩ u).heap[b]? = some (.cells (cs.setIfInBounds i u) t fr) := by
  simp [World.setCell, Array.getElem?_modify, h]
theorem blk_far {w : World} {b : Nat} {a : Addr} {o : Obj} (h : w.heap[b]? = some o) (hne : b ≠ a.block) (u : Value) : (w.setCell a u).heap[b]? = some o := (Below.heap_setCell _ _ _ _ hne).trans h
theorem blk_alloc {w : World} {b : Nat} {o : Obj} (h : w.heap[b]? = some o) (o' : Obj) : (w.alloc o').heap[b]? = some o := (Below.heap_alloc w o' b (blk_lt h)).trans h
theorem blk_ne {w : World} {b b' : Nat} {cs cs' : Array Value} {t t' : TypeId} {fr fr' : Nat × Nat} (h : w.heap[b]? = some (.cells cs t fr)) (h' : w.heap[b']? = some (.cells cs' t' fr')) (hne : t ≠ t') : b ≠ b' := by
  rintro rfl
  rw [h] at h'
  injection h' with h'
  injection h' with _ ht
  exact hne ht
theorem blk_grown {w w' : World} {b : Nat} {row : Option Nat} {o : Obj} (h : w.heap[b]? = some o) (hg : w.grownBy w' row) (hne : row ≠ some b) : w'.heap[b]? = some o := (hg.block b (blk_lt h) (fun e => hne e.symm)).trans h
theorem blk_drew {w : World} {b : Nat} {o : Obj} (h : w.heap[b]? = some o) : w.drew.heap[b]? = some o := h
theorem heap_new_at (w : World) (o : Obj) (n : Nat) (h : w.heap.size = n) : (w.alloc o).heap[n]? = some o := by
  subst h
  exact heap_alloc_new w o
theorem news_new (w : World) (cs : Array Value) (t : TypeId) (n : Nat) (h : w.heap.size = n) : ∀ j u, cs.toList[j]? = some u → (w.alloc (.cells cs t)).cell? ((⟨n, 0, none⟩ : Addr).add j) = some u := by
  subst h
  exact World.news_of_block (heap_alloc_new w _)
theorem news_drew (w : World) (cs : Array Value) (t : TypeId) (n : Nat) (h : w.heap.size = n) : ∀ j u, cs.toList[j]? = some u → (w.alloc (.cells cs t)).drew.cell? ((⟨n, 0, none⟩ : Addr).add j) = some u := news_new w cs t n h
theorem own_blk_ne {w : World} {base g : Nat} {e t : TypeId} {size n : Nat} {v : Value} {xs : List Value} {cs : Array Value} {fr : Nat × Nat} (h : w.ownsRow base e size v n xs) (hg : w.heap[g]? = some (.cells cs t fr)) (hne : e ≠ t) : some g ≠ v.ownBlock := by
  rcases h.2 with ⟨rfl, _⟩ | ⟨g', cap, cur, rfl, _, hh, _⟩
  · simp [Value.ownBlock]
  · intro he
    have : g = g' := by simpa [Value.ownBlock] using he
    exact blk_ne hh hg hne this.symm
/-- An owned row stays while a cell of a block of another type is written. -/
theorem own_set_far {w : World} {base : Nat} {e t : TypeId} {size n : Nat} {v : Value} {xs : List Value} {cs : Array Value} {fr : Nat × Nat} (h : w.ownsRow base e size v n xs) {a : Addr} (hg : w.heap[a.block]? = some (.cells cs t fr)) (hne : e ≠ t) (u : Value) :
    (w.setCell a u).ownsRow base e size v n xs := by
  obtain ⟨h1, h2⟩ := h
  refine ⟨h1, h2.imp id ?_⟩
  rintro ⟨g, cap, cur, hv, hb, hh, r⟩
  exact ⟨g, cap, cur, hv, hb, blk_far hh (blk_ne hh hg hne) u, r⟩
/-- A shorter slice of the same row. -/
theorem own_pop {w : World} {base : Nat} {e : TypeId} {size n n' c : Nat} {A : Option Addr} {xs : List Value} (h : w.ownsRow base e size (.slice A n c) n xs) (hn : n' ≤ n) : w.ownsRow base e size (.slice A n' c) n' (xs.take (n' * size)) := by
  have hmul : n' * size ≤ n * size := Nat.mul_le_mul_right _ hn
  refine ⟨by have := h.1; simp; omega, ?_⟩
  rcases h.2 with ⟨h1, h2⟩ | ⟨g, cap, cur, hv, hb, hh, r1, r2, r3, r4⟩
  · subst h2
    obtain rfl : n' = 0 := by omega
    exact .inl ⟨h1, rfl⟩
  · injection hv with e1 e2 e3
    subst e1; subst e3
    refine .inr ⟨g, c, cur, rfl, hb, hh, by omega, r2, r3, ?_⟩
    rw [← r4, List.take_take, Nat.min_eq_left hmul]
theorem own_keep_alloc {w : World} {base : Nat} {e : TypeId} {size n : Nat} {v : Value} {xs : List Value} (h : w.ownsRow base e size v n xs) (o : Obj) : (w.alloc o).ownsRow base e size v n xs := h.alloc o
theorem own_drew {w : World} {base : Nat} {e : TypeId} {size n : Nat} {v : Value} {xs : List Value} (h : w.ownsRow base e size v n xs) : w.drew.ownsRow base e size v n xs := h
theorem own_cond {W : World} {B e sz n X : Nat} {v : Value} {xs : List Value} {T : List TypeId} (h : W.ownsRow B e sz v n xs) (he : e ∈ T) : ∀ g, v.ownBlock = some g → X ≤ g ∨ (B ≤ g ∧ ∃ cs t fr, W.heap[g]? = some (.cells cs t fr) ∧ t ∈ T) := by
  intro g hg
  right
  rcases h.2 with ⟨rfl, _⟩ | ⟨g', cap, cur, rfl, hb, hh, _⟩
  · simp [Value.ownBlock] at hg
  · have e : g' = g := by simpa [Value.ownBlock] using hg
    subst e
    exact ⟨hb, _, _, _, hh, he⟩
theorem nil_or_snoc {α : Type} (l : List α) : l = [] ∨ ∃ L b, l = L ++ [b] := by
  rcases l.eq_nil_or_concat with h | ⟨L, b, h⟩
  · exact .inl h
  · exact .inr ⟨L, b, by rw [h, List.concat_eq_append]⟩
/-- A contract that leaves the world as it was, at a call inside a region that draws its order. -/
theorem quiet_ret {P : Program} {f : FuncId} {args : Array Value} {w : World} {n : Nat} {v : Value} (h : Calls P f args (w.drewN n) (Ret v (w.drewN n))) : Calls P f args (w.drewN n) fun e w'' => e = .returned v ∧ ∃ m, w'' = w.drewN m :=
  h.mono fun _ _ hh => ⟨hh.1, n, hh.2.symm⟩
theorem quiet_ret_add {P : Program} {f : FuncId} {args : Array Value} {w : World} {a n : Nat} {v : Value} (h : Calls P f args (w.drewN (a + n)) (Ret v (w.drewN (a + n)))) : Calls P f args (w.drewN (a + n)) fun e w'' => e = .returned v ∧ ∃ m, w'' = w.drewN (a + m) :=
  h.mono fun _ _ hh => ⟨hh.1, n, hh.2.symm⟩
end Go.Proofs.YtohllalninoomaaDoor
