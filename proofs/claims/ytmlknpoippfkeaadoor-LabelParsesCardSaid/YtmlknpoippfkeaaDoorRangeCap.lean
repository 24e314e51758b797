/-
  A range over an iterator that keeps its state in a cell of its own (a captured variable), by a body that always goes on: the law of the statement.
-/
import Derived.RangeFuncWrites
import Derived.RangeFuncBox
import Derived.RangeFuncBound
import Derived.RangeFuncCalls
import Derived.RangeFuncLeaves
import Derived.Shelf.Abstract
import Derived.Shelf.RegionOpen
import Derived.WalkKit
import Derived.OwnWalkIn
import Derived.TacticsInMore
import Derived.LoopNIn
import Derived.LoopIn
import Derived.Maps.AppendAt
import Derived.Test.YtmlknpoippfkeaaDoorMem
set_option linter.unusedVariables false
set_option linter.unusedSimpArgs false
namespace Go.Proofs.YtmlknpoippfkeaaDoor
open Go.RowKit Go.Shelf

/-- A round ends off its end; what is no cells and lies from B on lies as it lay; block b, the iterator's own, too. -/
def goPost {α : Type} (B b : Nat) (I : List α → World → Prop) (xs : List α) (W : World) : Exit → Act → World → Prop
  | .normal, _, W' => KeepsFrom B W W' ∧ W'.heap[b]? = W.heap[b]? ∧ I xs W'
  | _, _, _ => False
/-- An invariant that the iterator's stores into its own cell leave. -/
def Abides {α : Type} (b : Nat) (J : List α → World → Prop) : Prop := ∀ pre W v, J pre W → J pre (W.setCell ⟨b, 0, none⟩ v)
/-- The iterator's contract: it hands on xs, one by one; E: what it reads of the world besides; Ok: what may come behind what has come. -/
def Hands {α : Type} (n : Nat) (P : Program) (gf : Nat) (lb : Array Value) (encs : α → Array Value) (b : Nat) (o0 : Obj) (E : World → Prop) (Ok : List α → α → Prop) (xs : List α) : Prop :=
  ∀ (l : Nat) (J : List α → World → Prop) (W : World), Abides b J → (∀ pre W1, J pre W1 → E W1) →
    (∀ pre x W1, J pre W1 → Ok pre x → YieldAt Fence.wide (n - 1) P l (encs x) W1 fun e W' => e = .returned (.bool true) ∧ J (pre ++ [x]) W' ∧ W'.heap[b]? = W1.heap[b]?) →
    J [] W → W.heap[b]? = some o0 →
    CallsIn Fence.wide n P gf (#[.func (.yield l) #[] #[]] ++ lb) W fun e W' => (∃ v, e = .returned v) ∧ J xs W'

theorem range_cap {P : Program} {α : Type} {g : Operand} {ps : Array Tmp} {assign body : Code} {Q : Exit → Act → World → Prop} {a : Act} {w : World} {n : Nat} (h1 : 1 ≤ n)
    {gf : Nat} {lb : Array Value} (hg : a.eval g = .func (.func gf) #[] lb) (eg : ∀ args w, (callFunc gf args).run P w = .ok (.enter gf args) w)
    {encs : α → Array Value} (hps : ∀ x, (encs x).size = ps.size) {b : Nat} (hb : b < w.heap.size) {o0 : Obj} (ho : w.heap[b]? = some o0) {E : World → Prop} {Ok : List α → α → Prop} {xs : List α}
    (hseq : Hands (n - 1) P gf lb encs b o0 E Ok xs)
    (I : List α → World → Prop) (hI : OwnFrom w.heap.size I) (hIs : Abides b I) (hIE : ∀ pre W, I pre W → E W) (h0 : I [] w) (a₁ : α → Act)
    (hassign : ∀ (l : Nat) (x : α) (W : World) (K : Act → World → Prop), K (a₁ x) W →
      assign.wpIn (Fence.wide.inRound l) (n - 1 - 1) P (Exit.then K (fun _ _ _ => False)) { tmps := (ps.zip (encs x)).foldl (fun t (p, v) => t.setIfInBounds p v) a.tmps, defers := [] } W)
    (hbody : ∀ (l : Nat) (pre : List α) (x : α) (W : World), I pre W → Ok pre x → body.wpIn (Fence.wide.inRound l) (n - 1 - 1) P (goPost w.heap.size b I (pre ++ [x]) W) (a₁ x) W)
    (hdone : ∀ (D : Nat) (W : World), w.heap.size ≤ D → I xs W → W.heap[D]? = some (.deferred (some [])) → Q .normal { a with defers := { target := .collected D, args := #[] } :: a.defers } W) :
    (Code.rangeFunc g ps assign body).wpIn Fence.wide n P Q a w := by
  refine wpIn_rangeFunc ?_
  intro fn hfn
  show ∃ l mark w₁ d w₁' f args w₂, (Instr.enterLoop fn a.tmps ps assign body none).run P w = .ok (l, mark) w₁ ∧ _
  let D := w.heap.size
  let l := w.heap.size + 1
  let mk : LoopState → Option Code → Loop := fun st pe => { state := st, pending := pe, fn, tmps := a.tmps, params := ps, assign, body, defers := D }
  let W0 := (w.alloc (.deferred (some []))).alloc (.loop (mk .ready none))
  have z0 : (w.alloc (.deferred (some []))).heap.size = l := World.size_alloc w _
  have rec0 : W0.heap[l]? = some (.loop (mk .ready none)) := by
    rw [← z0]
    exact World.alloc_heap_new _ _
  have def0 : W0.heap[D]? = some (.deferred (some [])) := (Below.heap_alloc _ _ _ (by rw [z0]; exact Nat.lt_succ_self _)).trans (World.alloc_heap_new w _)
  have cap0 : W0.heap[b]? = some o0 := (Below.heap_alloc _ _ _ (by rw [z0]; exact Nat.lt_succ_of_lt hb)).trans ((Below.heap_alloc _ _ _ hb).trans ho)
  refine ⟨l, [{ target := .collected D, args := #[] }], W0, { target := .fn (.func gf) lb, args := #[.func (.yield l) #[] #[]] }, W0, gf, #[.func (.yield l) #[] #[]] ++ lb, W0, run_enterLoop_outer _ _ _ _ _, ?_, fun f' _ => trivial, ?_, fun _ => h1, ?_⟩
  · simp only [resolve, hg]
    simp [go_sem]
  · simp [invoke, go_sem, eg]
  refine (hseq l (fun pre W => I pre W ∧ W.heap[l]? = some (.loop (mk .ready none)) ∧ W.heap[D]? = some (.deferred (some []))) W0 ?_ (fun pre W h => hIE pre W h.1) ?_ ⟨hI.alloc _ (hI.alloc _ h0), rec0, def0⟩ cap0).mono ?_
  · rintro pre W v ⟨i1, i2, i3⟩
    exact ⟨hIs pre W v i1, (Below.heap_setCell W _ v l (by show l ≠ b; omega)).trans i2, (Below.heap_setCell W _ v D (by show D ≠ b; omega)).trans i3⟩
  · rintro pre x W ⟨i1, i2, i3⟩ hok
    have hll : l < W.heap.size := (Array.getElem?_eq_some_iff.1 i2).1
    refine ⟨fn, _, assign, body, run_yield (P := P) (args := encs x) i2 (hps x), roundIn_of_wpIn hfn (hassign l x W _ ⟨_, run_beginRound i2 rfl, ?_⟩)⟩
    have busy : (W.putObj l (.loop (mk .busy none))).heap[l]? = some (.loop (mk .busy none)) := World.putObj_heap_same hll
    have dbusy : (W.putObj l (.loop (mk .busy none))).heap[D]? = some (.deferred (some [])) := (World.putObj_heap_other (by omega)).trans i3
    have cbusy : (W.putObj l (.loop (mk .busy none))).heap[b]? = W.heap[b]? := World.putObj_heap_other (by omega)
    refine wpIn_mono (hbody l pre x _ (hI.putObj _ i1 (by omega) i2 rfl) hok) fun e a3 W3 hp => ?_
    cases e with
    | normal =>
      obtain ⟨k1, k2, k3⟩ := hp
      have rec3 := k1.same _ _ (by omega) busy rfl
      have def3 := k1.same _ _ (Nat.le_refl _) dbusy rfl
      have z3 : l < W3.heap.size := (Array.getElem?_eq_some_iff.1 rec3).1
      exact ⟨_, _, run_endRound none rec3, rfl, ⟨hI.putObj _ k3 (by omega) rec3 rfl, World.putObj_heap_same z3, (World.putObj_heap_other (by omega)).trans def3⟩, (World.putObj_heap_other (by omega)).trans (k2.trans cbusy)⟩
    | ret => exact hp.elim
    | exit id => exact hp.elim
    | goto t => exact hp.elim
    | panic c => exact hp.elim
    | outgrown => exact hp.elim
  · rintro e W2 ⟨⟨v, rfl⟩, i1, i2, i3⟩
    exact ⟨none, _, run_endLoop i2 (by simp [mk]), hdone D _ (Nat.le_refl _) (hI.putObj _ i1 (by omega) i2 rfl) ((World.putObj_heap_other (by omega)).trans i3)⟩
end Go.Proofs.YtmlknpoippfkeaaDoor
