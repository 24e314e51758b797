/-
  Chapter 04: how a table of the program lies in memory; New.
-/
import Derived.Test.YtohllalninoomaaDoorTabK
import Derived.Test.YtohllalninoomaaDoorVal
set_option linter.unusedVariables false
set_option linter.unusedSimpArgs false
namespace Go.Proofs.YtohllalninoomaaDoor
open Go.ChangeShapes Go.WideShapes Go.ChangeAt Go.RowKit Go.Maps

abbrev Fd := VV × VV
abbrev St := ByteArray × Int
def fdEnc (f : Fd) : List Value := (vvCells f.1).toList ++ (vvCells f.2).toList
def stEnc (s : St) : List Value := [.string s.1, .int .i64 s.2]
structure TabS where
  l : Nat
  F : List Fd
  S : List St
/-- A value's key as the map has it. -/
def keyLV (v : VV) : Lit := keyL v.n v.s (decide (v.kind = 3))
/-- The map of places reads as the fields' keys, one by one. -/
structure IdxIs {H : Type} (D : DataW H) (F : List Fd) : Prop where
  at_ : ∀ (i : Nat) (f : Fd), F[i]? = some f → Maps.has D (keyLV f.1) = true ∧ D.atKey (keyLV f.1) (.lit (.int .i64 0)) = .lit (.int .i64 i)
  no_ : ∀ k, (∀ f ∈ F, keyLV f.1 ≠ k) → Maps.has D k = false
structure NamIs {H : Type} (D : DataW H) (S : List St) : Prop where
  at_ : ∀ (i : Nat) (s : St), S[i]? = some s → Maps.has D (.string s.1.data.toList) = true ∧ D.atKey (.string s.1.data.toList) (.lit (.int .i64 0)) = .lit (.int .i64 i)
  no_ : ∀ k, (∀ s ∈ S, Lit.string s.1.data.toList ≠ k) → Maps.has D k = false
/-- Block tb is a table that stands as T; fp: the blocks that are its own. -/
structure TabIn (w : World) (B tb : Nat) (T : TabS) (fp : List Nat) : Prop where
  ex : ∃ (fv sv : Value) (mb nb n m : Nat) (D E : DataW Unit), fp = tb :: mb :: nb :: (fv.ownBlock.toList ++ sv.ownBlock.toList) ∧
    w.heap[tb]? = some (.cells #[.int .u64 (T.l : Int), fv, .map (some mb), sv, .map (some nb)] 103 (0, 0)) ∧
    w.ownsRow B 107 8 fv T.F.length (T.F.flatMap fdEnc) ∧ w.ownsRow B 113 2 sv T.S.length (T.S.flatMap stEnc) ∧
    w.ownsMap Tryd.prog 117 (plainElem Tryd.prog 3) mb n D ∧ w.ownsMap Tryd.prog 9 (plainElem Tryd.prog 3) nb m E ∧ mb ≠ nb ∧
    n ≤ T.F.length ∧ m ≤ T.S.length ∧ IdxIs D T.F ∧ NamIs E T.S
  base : ∀ b ∈ fp, B ≤ b ∧ b < w.heap.size
/-- What turns nothing of a table leaves it as it stands. -/
theorem TabIn.kept {w w' : World} {B tb : Nat} {T : TabS} {fp S : List Nat} (h : TabIn w B tb T fp) (hf : Fr S w w') (hd : ∀ b ∈ fp, b ∉ S) : TabIn w' B tb T fp := by
  obtain ⟨⟨fv, sv, mb, nb, n, m, D, E, rfl, h1, h2, h3, h4, h5, h6⟩, hb⟩ := h
  refine ⟨⟨fv, sv, mb, nb, n, m, D, E, rfl, hf.blk h1 (hd _ (by simp)), hf.own h2 fun g hg => hd g (by simp [hg]), hf.own h3 fun g hg => hd g (by simp [hg]), hf.map h4 (hd _ (by simp)), hf.map h5 (hd _ (by simp)), h6⟩, fun b hm => ?_⟩
  have := hb b hm
  have := hf.size
  omega
theorem idx_nil {H : Type} : IdxIs (H := H) (.map []) [] := ⟨fun i f h => by simp at h, fun k _ => by simp [Maps.has]⟩
theorem nam_nil {H : Type} : NamIs (H := H) (.map []) [] := ⟨fun i f h => by simp at h, fun k _ => by simp [Maps.has]⟩
set_option maxRecDepth 100000 in
set_option maxHeartbeats 1000000 in
theorem tnew_any (l : Nat) (w : World) : Calls Tryd.prog 26 #[.int .u64 (l : Int)] w fun e w' => ∃ tb fp, e = .returned (.pointer (some ⟨tb, 0, none⟩)) ∧ TabIn w' w.heap.size tb ⟨l, [], []⟩ fp ∧ Below w.heap.size w w' := by
  have hmm := @run_makeMap Tryd.prog
  go_enter Tryd.func26, Tryd.ntmps26
  go_wp2
  go_ret
  refine ⟨_, _, rfl, ⟨⟨.slice none 0 0, .slice none 0 0, w.heap.size, w.heap.size + 1, 0, 0, .map [], .map [], rfl, heap_new_at _ _ _ (by simp), World.ownsRow_nil _ _ _ _, World.ownsRow_nil _ _ _ _, ?_, ?_, by omega, Nat.le_refl _, Nat.le_refl _, idx_nil, nam_nil⟩, ?_⟩, ((Below.refl _ _).alloc (Nat.le_refl _) _).alloc (by simp) _ |>.alloc (by simp; omega) _⟩
  · exact ((World.ownsMap_made _ _ _ _).alloc _).alloc _
  · have h := World.ownsMap_made (H := Unit) (w.alloc (.map #[] 0)) Tryd.prog 9 (plainElem Tryd.prog 3)
    rw [World.size_alloc] at h
    exact h.alloc _
  · intro b hb
    simp [Value.ownBlock] at hb ⊢
    omega
end Go.Proofs.YtohllalninoomaaDoor
