/-
  Chapter 23: a new world: its channels have the labels and copies of the numbers that it is given.
-/
import Derived.Test.YtkdoohmchdpjoaaWorldA
set_option linter.unusedVariables false
set_option linter.unusedSimpArgs false
namespace Go.Proofs.Ytkdoohmchdpjoaa
open Go.ChangeShapes Go.WideShapes Go.ChangeAt Go.RowKit

/-- Eight of something, by number. -/
def eight {α : Type} (f : Nat → α) : List α := [f 0, f 1, f 2, f 3, f 4, f 5, f 6, f 7]
theorem eight_at {α : Type} (f : Nat → α) (k : Nat) (hk : k < 8) : (eight f)[k]? = some (f k) := by
  match k, hk with
  | 0, _ => rfl
  | 1, _ => rfl
  | 2, _ => rfl
  | 3, _ => rfl
  | 4, _ => rfl
  | 5, _ => rfl
  | 6, _ => rfl
  | 7, _ => rfl
theorem eight_arr {α : Type} (f : Nat → α) (k : Nat) (hk : k < 8) : #[f 0, f 1, f 2, f 3, f 4, f 5, f 6, f 7][k]? = some (f k) := by
  rw [← eight_at f k hk]
  simp [eight]
theorem isAgg_label (w : World) : (isAgg 23).run Try.prog w = .ok false w := by kernel_rfl
theorem sizeOf_label (w : World) : (sizeOf 23).run Try.prog w = .ok 1 w := by kernel_rfl
theorem isAgg_ints (w : World) : (isAgg 48).run Try.prog w = .ok false w := by kernel_rfl
theorem sizeOf_ints (w : World) : (sizeOf 48).run Try.prog w = .ok 1 w := by kernel_rfl

def zeroCV : CV := ⟨0, .slice none 0 0, [], 0⟩
/-- The inputs of a world: what each channel's slice is, and that it reads as its numbers. -/
structure InsOk (w : World) (s : Nat → Sl Int) : Prop where
  reads : ∀ k, k < 8 → Reads w w.heap.size (s k).A (intCells (s k).xs)
  none_ : ∀ k, k < 8 → (s k).A = none → (s k).xs = [] ∧ (s k).cap = 0
  room : ∀ k, k < 8 → (s k).xs.length * 8 ≤ 140737488351232
theorem intCells_one (l : List Int) : ∀ u ∈ intCells l, u.oneCell' = true := by
  intro u hu
  obtain ⟨n, _, rfl⟩ := List.mem_map.1 hu
  rfl
/-- The world's channels when k of them are laid: their slices are v 0 .. v (k - 1). -/
def laidTo (m : Nat → Nat) (s : Nat → Sl Int) (v : Nat → Value) (k : Nat) : List CV := eight fun i => if i < k then ⟨m i, v i, (s i).xs, 0⟩ else zeroCV
theorem laidTo_succ (m : Nat → Nat) (s : Nat → Sl Int) (v : Nat → Value) (k : Nat) (hk : k < 8) (u : Value) : laidTo m s (fun i => if i = k then u else v i) (k + 1) = (laidTo m s v k).set k ⟨m k, u, (s k).xs, 0⟩ := by
  match k, hk with
  | 0, _ => rfl
  | 1, _ => rfl
  | 2, _ => rfl
  | 3, _ => rfl
  | 4, _ => rfl
  | 5, _ => rfl
  | 6, _ => rfl
  | 7, _ => rfl

theorem WorldIn.freeAt {w : World} {B g : Nat} {P : List CV} {ev : List Ev} (h : WorldIn w B g P ev) (k : Nat) :
    w.frozen? ⟨g, k * 3, none⟩ = false ∧ w.frozen? ⟨g, k * 3 + 1, none⟩ = false ∧ w.frozen? ⟨g, k * 3 + 2, none⟩ = false := by
  obtain ⟨v, hb, _⟩ := h.own
  exact ⟨free_of_blk hb, free_of_blk hb, free_of_blk hb⟩
theorem WorldIn.glt {w : World} {B g : Nat} {P : List CV} {ev : List Ev} (h : WorldIn w B g P ev) : g < w.heap.size := by
  obtain ⟨v, hb, _⟩ := h.own
  exact blk_lt hb
theorem Below.setBoth {K : Nat} {a b : World} (h : Below K a b) (p : Addr) (u : Value) : Below K (a.setCell p u) (b.setCell p u) :=
  ⟨h.os, h.tape, h.output, by simpa [World.setCell] using h.size, fun k hk => by
    have e := h.block k hk
    simp only [World.setCell, Array.getElem?_modify, e]⟩
theorem gen_wp {P : Program} {c : Code} {Q : Exit → Act → World → Prop} {a : Act} {w : World} (h : ∀ W, w = W → c.wp P Q a W) : c.wp P Q a w := h w rfl
theorem set_size (w : World) (p : Addr) (u : Value) : (w.setCell p u).heap.size = w.heap.size := by simp [World.setCell]
/-- How far channel k is read is written anew. -/
theorem WorldIn.setRead {w : World} {B g : Nat} {P : List CV} {ev : List Ev} (h : WorldIn w B g P ev) {k : Nat} {c : CV} (hc : P[k]? = some c) (r : Nat) :
    WorldIn (w.setCell ⟨g, k * 3 + 2, none⟩ (.int .i64 (r : Int))) B g (P.set k { c with read := r }) ev := by
  obtain ⟨hB, h8, ⟨v, hb, ho⟩, hi⟩ := h
  have hk : k < P.length := (List.getElem?_eq_some_iff.1 hc).1
  have e3 := flatMap_set (f := chEnc) (K := 3) (fun _ => rfl) P k 2 c { c with read := r } (.int .i64 (r : Int)) hc (by omega) rfl
  have l0 := flatMap_len (f := chEnc) (K := 3) (fun _ => rfl) P
  have b3 := blk_set (i := k * 3 + 2) hb (.int .i64 (r : Int))
  rw [List.setIfInBounds_toArray, List.set_append_left _ _ (by omega), e3] at b3
  refine ⟨hB, by rw [List.length_set]; exact h8, ⟨v, b3, own_set_far ho (a := ⟨g, k * 3 + 2, none⟩) hb (by decide) _⟩, fun x hx => ?_⟩
  rcases List.mem_or_eq_of_mem_set hx with hx | rfl
  · exact own_set_far (hi x hx) (a := ⟨g, k * 3 + 2, none⟩) hb (by decide) _
  · exact own_set_far (hi c (List.mem_of_getElem? hc)) (a := ⟨g, k * 3 + 2, none⟩) hb (by decide) _
/-- Channel k is written anew. -/
theorem WorldIn.set3 {w : World} {B g : Nat} {P : List CV} {ev : List Ev} (h : WorldIn w B g P ev) {k : Nat} {c : CV} (hc : P[k]? = some c) (c' : CV) (hins : w.ownsRow B 2 1 c'.v c'.ins.length (intCells c'.ins)) :
    WorldIn (((w.setCell ⟨g, k * 3, none⟩ (.int .u64 (c'.mask : Int))).setCell ⟨g, k * 3 + 1, none⟩ c'.v).setCell ⟨g, k * 3 + 2, none⟩ (.int .i64 (c'.read : Int))) B g (P.set k c') ev := by
  obtain ⟨hB, h8, ⟨v, hb, ho⟩, hi⟩ := h
  have hk : k < P.length := (List.getElem?_eq_some_iff.1 hc).1
  have e1 := flatMap_set (f := chEnc) (K := 3) (fun _ => rfl) P k 0 c ⟨c'.mask, c.v, c.ins, c.read⟩ (.int .u64 (c'.mask : Int)) hc (by omega) rfl
  have e2 := flatMap_set (f := chEnc) (K := 3) (fun _ => rfl) (P.set k ⟨c'.mask, c.v, c.ins, c.read⟩) k 1 ⟨c'.mask, c.v, c.ins, c.read⟩ ⟨c'.mask, c'.v, c.ins, c.read⟩ c'.v (by simp [hk]) (by omega) rfl
  have e3 := flatMap_set (f := chEnc) (K := 3) (fun _ => rfl) (P.set k ⟨c'.mask, c'.v, c.ins, c.read⟩) k 2 ⟨c'.mask, c'.v, c.ins, c.read⟩ c' (.int .i64 (c'.read : Int)) (by simp [hk]) (by omega) rfl
  rw [List.set_set] at e2 e3
  have l0 := flatMap_len (f := chEnc) (K := 3) (fun _ => rfl) P
  have l1 := flatMap_len (f := chEnc) (K := 3) (fun _ => rfl) (P.set k ⟨c'.mask, c.v, c.ins, c.read⟩)
  have l2 := flatMap_len (f := chEnc) (K := 3) (fun _ => rfl) (P.set k ⟨c'.mask, c'.v, c.ins, c.read⟩)
  rw [List.length_set] at l1 l2
  have b1 := blk_set (i := k * 3) hb (.int .u64 (c'.mask : Int))
  rw [List.setIfInBounds_toArray, List.set_append_left _ _ (by omega), show k * 3 = k * 3 + 0 from rfl, e1] at b1
  have b2 := blk_set (i := k * 3 + 1) b1 c'.v
  rw [List.setIfInBounds_toArray, List.set_append_left _ _ (by omega), e2] at b2
  have b3 := blk_set (i := k * 3 + 2) b2 (.int .i64 (c'.read : Int))
  rw [List.setIfInBounds_toArray, List.set_append_left _ _ (by omega), e3] at b3
  have o3 : ∀ {base : Nat} {e : TypeId} {size n : Nat} {v : Value} {xs : List Value}, w.ownsRow base e size v n xs → e ≠ 93 → (((w.setCell ⟨g, k * 3, none⟩ (.int .u64 (c'.mask : Int))).setCell ⟨g, k * 3 + 1, none⟩ c'.v).setCell ⟨g, k * 3 + 2, none⟩ (.int .i64 (c'.read : Int))).ownsRow base e size v n xs :=
    fun h hne => own_set_far (own_set_far (own_set_far h (a := ⟨g, k * 3, none⟩) hb hne _) (a := ⟨g, k * 3 + 1, none⟩) b1 hne _) (a := ⟨g, k * 3 + 2, none⟩) b2 hne _
  refine ⟨hB, by rw [List.length_set]; exact h8, ⟨v, b3, o3 ho (by decide)⟩, fun x hx => ?_⟩
  rcases List.mem_or_eq_of_mem_set hx with hx | rfl
  · exact o3 (hi x hx) (by decide)
  · exact o3 hins (by decide)
end Go.Proofs.Ytkdoohmchdpjoaa
