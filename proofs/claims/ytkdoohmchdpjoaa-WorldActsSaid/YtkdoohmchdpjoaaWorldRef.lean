/-
  Chapter 23: the document's world, in memory; its Read.
-/
import Derived.Test.YtkdoohmchdpjoaaWorldSees
set_option linter.unusedVariables false
set_option linter.unusedSimpArgs false
namespace Go.Proofs.Ytkdoohmchdpjoaa
open Go.ChangeShapes Go.WideShapes Go.ChangeAt Go.RowKit

def rwCells (f : Nat → CV) (s : Nat → Sl Int) (v : Value) : Array Value := #[.int .u64 ((f 0).mask : Int), .int .u64 ((f 1).mask : Int), .int .u64 ((f 2).mask : Int), .int .u64 ((f 3).mask : Int), .int .u64 ((f 4).mask : Int), .int .u64 ((f 5).mask : Int), .int .u64 ((f 6).mask : Int), .int .u64 ((f 7).mask : Int), sv s 0, sv s 1, sv s 2, sv s 3, sv s 4, sv s 5, sv s 6, sv s 7, .int .i64 ((f 0).read : Int), .int .i64 ((f 1).read : Int), .int .i64 ((f 2).read : Int), .int .i64 ((f 3).read : Int), .int .i64 ((f 4).read : Int), .int .i64 ((f 5).read : Int), .int .i64 ((f 6).read : Int), .int .i64 ((f 7).read : Int), v]
theorem rwCells_at (f : Nat → CV) (s : Nat → Sl Int) (v : Value) (k : Nat) (hk : k < 8) : (rwCells f s v)[k]? = some (.int .u64 ((f k).mask : Int)) ∧ (rwCells f s v)[8 + k]? = some (sv s k) ∧ (rwCells f s v)[16 + k]? = some (.int .i64 ((f k).read : Int)) := by
  match k, hk with
  | 0, _ => exact ⟨rfl, rfl, rfl⟩
  | 1, _ => exact ⟨rfl, rfl, rfl⟩
  | 2, _ => exact ⟨rfl, rfl, rfl⟩
  | 3, _ => exact ⟨rfl, rfl, rfl⟩
  | 4, _ => exact ⟨rfl, rfl, rfl⟩
  | 5, _ => exact ⟨rfl, rfl, rfl⟩
  | 6, _ => exact ⟨rfl, rfl, rfl⟩
  | 7, _ => exact ⟨rfl, rfl, rfl⟩
theorem rwCells_set (f : Nat → CV) (s : Nat → Sl Int) (v : Value) (k r : Nat) (hk : k < 8) : (rwCells f s v).setIfInBounds (16 + k) (.int .i64 (r : Int)) = rwCells (fun i => if i = k then { f k with read := r } else f i) s v := by
  match k, hk with
  | 0, _ => rfl
  | 1, _ => rfl
  | 2, _ => rfl
  | 3, _ => rfl
  | 4, _ => rfl
  | 5, _ => rfl
  | 6, _ => rfl
  | 7, _ => rfl
theorem chAt_set {P : List CV} (h : P.length = 8) (k : Nat) (hk : k < 8) (c' : CV) : chAt (P.set k c') = fun i => if i = k then c' else chAt P i := by
  funext i
  unfold chAt
  rw [List.getElem?_set]
  by_cases hi : k = i
  · subst hi
    simp [h, hk]
  · rw [if_neg hi, if_neg (fun e => hi e.symm)]
theorem chAt_some {P : List CV} {k : Nat} {c : CV} (h : P[k]? = some c) : chAt P k = c := by unfold chAt; rw [h]; rfl

/-- The document's world at block g. -/
structure RefWIn (w : World) (B g : Nat) (s : Nat → Sl Int) (P : List CV) (ev : List Ev) : Prop where
  base : B ≤ g
  eight : P.length = 8
  own : ∃ v, w.heap[g]? = some (.cells (rwCells (chAt P) s v) 59 (0, 0)) ∧ w.ownsRow B 98 4 v ev.length (ev.flatMap evEnc)
  ins : ∀ k c, P[k]? = some c → c.ins = (s k).xs
  reads : ∀ k, k < 8 → Reads w B (s k).A (intCells (s k).xs)
  room : ∀ k, k < 8 → (s k).xs.length ≤ maxLen
theorem RefWIn.below {w w' : World} {B g : Nat} {s : Nat → Sl Int} {P : List CV} {ev : List Ev} (h : RefWIn w B g s P ev) (hb : Below w.heap.size w w') (hB : B ≤ w.heap.size) : RefWIn w' B g s P ev :=
  ⟨h.base, h.eight, h.own.imp fun _ ⟨h1, h2⟩ => ⟨below_blk hb h1, below_own hb h2⟩, h.ins, fun k hk => (h.reads k hk).below (hb.mono hB), h.room⟩
theorem RefWIn.drewN {w : World} {B g : Nat} {s : Nat → Sl Int} {P : List CV} {ev : List Ev} (h : RefWIn w B g s P ev) (n : Nat) : RefWIn (w.drewN n) B g s P ev := ⟨h.base, h.eight, h.own, h.ins, h.reads, h.room⟩
theorem RefWIn.glt {w : World} {B g : Nat} {s : Nat → Sl Int} {P : List CV} {ev : List Ev} (h : RefWIn w B g s P ev) : g < w.heap.size := by
  obtain ⟨v, hb, _⟩ := h.own
  exact blk_lt hb
theorem RefWIn.cellsAt {w : World} {B g : Nat} {s : Nat → Sl Int} {P : List CV} {ev : List Ev} (h : RefWIn w B g s P ev) {k : Nat} {c : CV} (hk : k < 8) (hc : P[k]? = some c) :
    w.cell? ⟨g, k, none⟩ = some (.int .u64 (c.mask : Int)) ∧ w.cell? ⟨g, 8 + k, none⟩ = some (.slice (s k).A (s k).xs.length (s k).cap) ∧ w.cell? ⟨g, 16 + k, none⟩ = some (.int .i64 (c.read : Int)) ∧ w.frozen? ⟨g, 16 + k, none⟩ = false := by
  obtain ⟨v, hb, _⟩ := h.own
  obtain ⟨h1, h2, h3⟩ := rwCells_at (chAt P) s v k hk
  rw [chAt_some hc] at h1 h3
  exact ⟨cell_of_blk hb h1, cell_of_blk hb h2, cell_of_blk hb h3, free_of_blk hb⟩
theorem RefWIn.setRead {w : World} {B g : Nat} {s : Nat → Sl Int} {P : List CV} {ev : List Ev} (h : RefWIn w B g s P ev) {k : Nat} {c : CV} (hk : k < 8) (hc : P[k]? = some c) (r : Nat) :
    RefWIn (w.setCell ⟨g, 16 + k, none⟩ (.int .i64 (r : Int))) B g s (P.set k { c with read := r }) ev := by
  obtain ⟨hB, h8, ⟨v, hb, ho⟩, hi, hr, hm⟩ := h
  have b := blk_set (i := 16 + k) hb (.int .i64 (r : Int))
  rw [rwCells_set _ _ _ _ _ hk, chAt_some hc] at b
  have e := chAt_set h8 k hk { c with read := r }
  refine ⟨hB, by rw [List.length_set]; exact h8, ⟨v, by rw [e]; exact b, own_set_far ho (a := ⟨g, 16 + k, none⟩) hb (by decide) _⟩, fun j d hd => ?_, fun j hj => ?_, hm⟩
  · rw [List.getElem?_set] at hd
    split at hd
    · rename_i e'
      subst e'
      split at hd
      · obtain rfl := Option.some.inj hd
        exact hi k c hc
      · cases hd
    · exact hi j d hd
  · rcases hr j hj with h0 | ⟨ad, h1, h2, h3⟩
    · exact .inl h0
    · refine .inr ⟨ad, h1, h2, fun i u hu => ?_⟩
      have := h3 i u hu
      rw [← this]
      exact World.cell?_of_block (Below.heap_setCell _ _ _ _ (by rw [block_add']; show ad.block ≠ g; omega))
end Go.Proofs.Ytkdoohmchdpjoaa
