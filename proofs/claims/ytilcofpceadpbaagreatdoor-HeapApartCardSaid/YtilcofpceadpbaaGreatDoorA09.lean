/-
 HeapApart: part 9 of what the claim rests on.
-/
import Derived.Test.YtilcofpceadpbaaGreatDoorA01
import Derived.Test.YtilcofpceadpbaaGreatDoorA02
import Derived.Handy
import Derived.BigQuiet
import Derived.Deep.Cut
import Derived.DeepKeys4
import Derived.Maps.Keyed
import Derived.Maps.OwnOps
import Derived.Maps.Views
import Derived.ChangeKeys
import Derived.Deep.AppendLies
import Derived.Deep.DeepCutAuto
import Derived.Deep.CutBlock
set_option linter.unusedVariables false
set_option linter.unusedSimpArgs false
set_option maxHeartbeats 64000000
namespace Go.Proofs.YtilcofpceadpbaaGreatDoor
open Go.ChangeShapes Go.WideShapes Go.ChangeAt Go.RowKit

theorem belowDN {n : Nat} {w w' : World} (h : Below n w w') (m : Nat) : Below n w (w'.drewN m) := ⟨h.os, h.tape, h.output, h.size, h.block⟩

theorem cell_same_set {W : World} {b i : Nat} {cs : Array Value} {T : TypeId} (h : W.heap[b]? = some (.cells cs T (0, 0))) (hi : i < cs.size) (v : Value) : (W.setCell ⟨b, i, none⟩ v).cell? ⟨b, i, none⟩ = some v :=
 cell_of_blk (blk_set h v) (by simp [hi])
theorem four {W : World} {b : Nat} {cs : Array Value} {T : TypeId} (h : W.heap[b]? = some (.cells cs T (0, 0))) (hz : cs.size = 4) (v0 v1 v2 v3 : Value) :
  (W.setCell ⟨b, 0, none⟩ v0).cell? ⟨b, 0, none⟩ = some v0 ∧
  ((W.setCell ⟨b, 0, none⟩ v0).setCell ⟨b, 1, none⟩ v1).cell? ⟨b, 1, none⟩ = some v1 ∧
  (((W.setCell ⟨b, 0, none⟩ v0).setCell ⟨b, 1, none⟩ v1).setCell ⟨b, 2, none⟩ v2).cell? ⟨b, 2, none⟩ = some v2 ∧
  ((((W.setCell ⟨b, 0, none⟩ v0).setCell ⟨b, 1, none⟩ v1).setCell ⟨b, 2, none⟩ v2).setCell ⟨b, 3, none⟩ v3).cell? ⟨b, 3, none⟩ = some v3 := by
 have h1 := blk_set (i := 0) h v0
 have h2 := blk_set (i := 1) h1 v1
 have h3 := blk_set (i := 2) h2 v2
 exact ⟨cell_same_set h (by omega) v0, cell_same_set h1 (by simp; omega) v1, cell_same_set h2 (by simp; omega) v2, cell_same_set h3 (by simp; omega) v3⟩
theorem eleven {W : World} {b : Nat} {cs : Array Value} {T : TypeId} (h : W.heap[b]? = some (.cells cs T (0, 0))) (hz : cs.size = 11) (v0 v1 v2 v3 v4 v5 v6 v7 v8 v9 v10 : Value) :
  (W.setCell ⟨b, 0, none⟩ v0).cell? ⟨b, 0, none⟩ = some v0 ∧
  ((W.setCell ⟨b, 0, none⟩ v0).setCell ⟨b, 1, none⟩ v1).cell? ⟨b, 1, none⟩ = some v1 ∧
  (((W.setCell ⟨b, 0, none⟩ v0).setCell ⟨b, 1, none⟩ v1).setCell ⟨b, 2, none⟩ v2).cell? ⟨b, 2, none⟩ = some v2 ∧
  ((((W.setCell ⟨b, 0, none⟩ v0).setCell ⟨b, 1, none⟩ v1).setCell ⟨b, 2, none⟩ v2).setCell ⟨b, 3, none⟩ v3).cell? ⟨b, 3, none⟩ = some v3 ∧
  (((((W.setCell ⟨b, 0, none⟩ v0).setCell ⟨b, 1, none⟩ v1).setCell ⟨b, 2, none⟩ v2).setCell ⟨b, 3, none⟩ v3).setCell ⟨b, 4, none⟩ v4).cell? ⟨b, 4, none⟩ = some v4 ∧
  ((((((W.setCell ⟨b, 0, none⟩ v0).setCell ⟨b, 1, none⟩ v1).setCell ⟨b, 2, none⟩ v2).setCell ⟨b, 3, none⟩ v3).setCell ⟨b, 4, none⟩ v4).setCell ⟨b, 5, none⟩ v5).cell? ⟨b, 5, none⟩ = some v5 ∧
  (((((((W.setCell ⟨b, 0, none⟩ v0).setCell ⟨b, 1, none⟩ v1).setCell ⟨b, 2, none⟩ v2).setCell ⟨b, 3, none⟩ v3).setCell ⟨b, 4, none⟩ v4).setCell ⟨b, 5, none⟩ v5).setCell ⟨b, 6, none⟩ v6).cell? ⟨b, 6, none⟩ = some v6 ∧
  ((((((((W.setCell ⟨b, 0, none⟩ v0).setCell ⟨b, 1, none⟩ v1).setCell ⟨b, 2, none⟩ v2).setCell ⟨b, 3, none⟩ v3).setCell ⟨b, 4, none⟩ v4).setCell ⟨b, 5, none⟩ v5).setCell ⟨b, 6, none⟩ v6).setCell ⟨b, 7, none⟩ v7).cell? ⟨b, 7, none⟩ = some v7 ∧
  (((((((((W.setCell ⟨b, 0, none⟩ v0).setCell ⟨b, 1, none⟩ v1).setCell ⟨b, 2, none⟩ v2).setCell ⟨b, 3, none⟩ v3).setCell ⟨b, 4, none⟩ v4).setCell ⟨b, 5, none⟩ v5).setCell ⟨b, 6, none⟩ v6).setCell ⟨b, 7, none⟩ v7).setCell ⟨b, 8, none⟩ v8).cell? ⟨b, 8, none⟩ = some v8 ∧
  ((((((((((W.setCell ⟨b, 0, none⟩ v0).setCell ⟨b, 1, none⟩ v1).setCell ⟨b, 2, none⟩ v2).setCell ⟨b, 3, none⟩ v3).setCell ⟨b, 4, none⟩ v4).setCell ⟨b, 5, none⟩ v5).setCell ⟨b, 6, none⟩ v6).setCell ⟨b, 7, none⟩ v7).setCell ⟨b, 8, none⟩ v8).setCell ⟨b, 9, none⟩ v9).cell? ⟨b, 9, none⟩ = some v9 ∧
  (((((((((((W.setCell ⟨b, 0, none⟩ v0).setCell ⟨b, 1, none⟩ v1).setCell ⟨b, 2, none⟩ v2).setCell ⟨b, 3, none⟩ v3).setCell ⟨b, 4, none⟩ v4).setCell ⟨b, 5, none⟩ v5).setCell ⟨b, 6, none⟩ v6).setCell ⟨b, 7, none⟩ v7).setCell ⟨b, 8, none⟩ v8).setCell ⟨b, 9, none⟩ v9).setCell ⟨b, 10, none⟩ v10).cell? ⟨b, 10, none⟩ = some v10 := by
 have h1 := blk_set (i := 0) h v0
 have h2 := blk_set (i := 1) h1 v1
 have h3 := blk_set (i := 2) h2 v2
 have h4 := blk_set (i := 3) h3 v3
 have h5 := blk_set (i := 4) h4 v4
 have h6 := blk_set (i := 5) h5 v5
 have h7 := blk_set (i := 6) h6 v6
 have h8 := blk_set (i := 7) h7 v7
 have h9 := blk_set (i := 8) h8 v8
 have h10 := blk_set (i := 9) h9 v9
 exact ⟨cell_same_set h (by omega) v0, cell_same_set h1 (by simp; omega) v1, cell_same_set h2 (by simp; omega) v2, cell_same_set h3 (by simp; omega) v3, cell_same_set h4 (by simp; omega) v4, cell_same_set h5 (by simp; omega) v5, cell_same_set h6 (by simp; omega) v6, cell_same_set h7 (by simp; omega) v7, cell_same_set h8 (by simp; omega) v8, cell_same_set h9 (by simp; omega) v9, cell_same_set h10 (by simp; omega) v10⟩


theorem readsOn {w w' : World} {A : Option Addr} {xs : List Value} (h : Reads w w.heap.size A xs) (hb : Below w.heap.size w w') : Reads w' w'.heap.size A xs := Reads.more (Reads.below h hb) hb.size
theorem infoI : (Tryz.prog.info? 3).map (fun i => (i.zero, i.size, i.bytes)) = some (some (.int .i64 0), 1, 8) := by kernel_rfl
set_option maxRecDepth 100000 in
theorem clone_is (A : Option Addr) (n c : Nat) (xs : List Value) (w : World) (hr : Reads w w.heap.size A xs) (hlen : xs.length = n) (h1 : ∀ u ∈ xs, u.oneCell' = true) (hA : A = none → n = 0 ∧ c = 0) (hn : n * 8 ≤ 140737488351232) :
  Calls Tryz.prog 63 #[.slice A n c] w fun e w' => ∃ v, e = .returned v ∧ w'.ownsRow w.heap.size 3 1 v n xs ∧ Below w.heap.size w w' := by
 obtain ⟨i0, hi, hz0, hz1, hz2⟩ := info_parts infoI
 have heq := fun W : World => Lib.run_eql_slice_nil (P := Tryz.prog) W 27 3 A n c 0 0 Tryz.underlying27
 rcases A with _ | ad
 ·obtain ⟨rfl, rfl⟩ := hA rfl
  obtain rfl : xs = [] := List.eq_nil_of_length_eq_zero hlen
  go_enter Tryz.func63, Tryz.ntmps63
  go_wp2
  go_ret
  exact ⟨_, rfl, World.ownsRow_nil _ _ _ _, Below.refl _ _⟩
 ·go_enter Tryz.func63, Tryz.ntmps63
  have hr' : Reads (w.alloc (.cells #[] 3)) w.heap.size (some ad) xs := hr.below ((Below.refl _ _).alloc (Nat.le_refl _) _)
  have hown : (w.alloc (.cells #[] 3)).ownsRow w.heap.size 3 1 (.slice (some ⟨w.heap.size, 0, none⟩) 0 0) 0 [] := World.ownsRow_made w #[] 0 (Nat.le_refl _) (by unfold maxLen; omega) rfl
  have hnews : ∀ j u, xs[j]? = some u → (w.alloc (.cells #[] 3)).cell? (ad.add j) = some u := by
   intro j u hu
   rcases hr' with rfl | ⟨ad', e, _, h⟩
   ·simp at hu
   ·injection e with e; subst e; exact h j u hu
  go_wp2_with ((at_builtin; (refine wpList_append_own_at _ rfl _ _ _ rfl w.heap.size 3 i0 (.int .i64 0) 1 8 Tryz.underlying27 hi hz0 hz1 hz2 rfl (by omega) _ 0 [] rfl hown ad n c xs rfl (by omega) hnews h1 (by unfold maxLen; omega) (by omega) (by simp) ?_); intro v w2 hown2 hgrow hat hat2))
  have hgrow' : World.grownBy _ w2 (some w.heap.size) := hgrow
  go_ret
  exact ⟨v, rfl, by simpa using hown2, ((Below.refl _ _).alloc (Nat.le_refl _) _).grown hgrow' (by simp) (fun k hk => Nat.le_of_eq (Option.some.inj hk))⟩
end Go.Proofs.YtilcofpceadpbaaGreatDoor
namespace Go.Proofs.YtilcofpceadpbaaGreatDoor
open Go.ChangeShapes Go.WideShapes Go.ChangeAt Go.RowKit Go.Maps

theorem rowK : 139 < Tryz.prog.types.size := of_decide_eq_true (by kernel_rfl)
theorem atK : Tryz.prog.keyTypeAt 2 139 = true := by kernel_rfl
theorem lawK0 : WideMaps.KeyLaw Tryz.prog 139 := deep_law_laid laidOut (m := 2) (by omega) rowK atK (by rw [Tryz.underlying139])
theorem lawK : Keyed Tryz.prog 139 := Keyed.of_law lawK0
theorem lawTS : Keyed Tryz.prog 9 := string_keyed Tryz.underlying9
def keyL (n : Int) (s : ByteArray) (b : Bool) : Lit := .string (keyBytes [.int .i64 n, .string s.data.toList, .bool b])
def keyV (n : Int) (s : ByteArray) (b : Bool) : Value := .agg #[.int .i64 n, .string s, .bool b]
theorem key_of (n : Int) (s : ByteArray) (b : Bool) (hn : -9223372036854775808 ≤ n ∧ n ≤ 9223372036854775807) (hs : s.size ≤ maxLen) : keyOf Tryz.prog 139 (keyV n s b) = some (keyL n s b) := by
 have hwf : (Lit.int .i64 n).wf = true := WalkArith.wf_i64 hn
 obtain ⟨k, hk⟩ : ∃ k, Tryz.prog.types.size + 1 = k + 2 := ⟨Tryz.prog.types.size - 1, by have := rowK; omega⟩
 have h1 : Tryz.prog.keyType 139 = true := by kernel_rfl
 have hC : Tryz.prog.cellsOf 139 = 3 := by kernel_rfl
 have c0 : Tryz.prog.cellsOf 2 = 1 := by kernel_rfl
 have c1 : Tryz.prog.cellsOf 9 = 1 := by kernel_rfl
 have c2 : Tryz.prog.cellsOf 4 = 1 := by kernel_rfl
 have h2 : (Value.agg #[.int .i64 n, .string s, .bool b]).formed Tryz.prog 139 = true := by simp [Value.formed, Tryz.underlying139, hC]
 unfold keyOf keyV keyL
 rw [Tryz.underlying139]
 simp only [h1, h2, hk, Bool.and_self, if_true]
 simp [Program.keyLits, Tryz.underlying139, Tryz.underlying2, Tryz.underlying9, Tryz.underlying4, hC, c0, c1, c2, Value.cells, hwf, hs]
theorem keyL_inj {n n' : Int} {s s' : ByteArray} {b b' : Bool} (hn : -9223372036854775808 ≤ n ∧ n ≤ 9223372036854775807) (hs : s.size ≤ maxLen) (hn' : -9223372036854775808 ≤ n' ∧ n' ≤ 9223372036854775807) (hs' : s'.size ≤ maxLen) (h : keyL n s b = keyL n' s' b') : n = n' ∧ s = s' ∧ b = b' := by
 have h1 := key_of n s b hn hs
 have h2 := key_of n' s' b' hn' hs'
 rw [← h] at h2
 have := lawK.inj h1 h2
 simp [keyV] at this
 exact this

abbrev Fd := VV × VV
abbrev St := ByteArray × Int
def fdEnc (f : Fd) : List Value := (vvCells f.1).toList ++ (vvCells f.2).toList
def stEnc (s : St) : List Value := [.string s.1, .int .i64 s.2]
structure TabS where
 l : Nat
 F : List Fd
 S : List St
def keyLV (v : VV) : Lit := keyL v.n v.s (decide (v.kind = 3))
structure IdxIs {H : Type} (D : DataW H) (F : List Fd) : Prop where
 at_ : ∀ (i : Nat) (f : Fd), F[i]? = some f → Maps.has D (keyLV f.1) = true ∧ D.atKey (keyLV f.1) (.lit (.int .i64 0)) = .lit (.int .i64 i)
 no_ : ∀ k, (∀ f ∈ F, keyLV f.1 ≠ k) → Maps.has D k = false
structure NamIs {H : Type} (D : DataW H) (S : List St) : Prop where
 at_ : ∀ (i : Nat) (s : St), S[i]? = some s → Maps.has D (.string s.1.data.toList) = true ∧ D.atKey (.string s.1.data.toList) (.lit (.int .i64 0)) = .lit (.int .i64 i)
 no_ : ∀ k, (∀ s ∈ S, Lit.string s.1.data.toList ≠ k) → Maps.has D k = false
structure TabIn (w : World) (B tb : Nat) (T : TabS) (fp : List Nat) : Prop where
 ex : ∃ (fv sv : Value) (mb nb n m : Nat) (D E : DataW Unit), fp = tb :: mb :: nb :: (fv.ownBlock.toList ++ sv.ownBlock.toList) ∧
  w.heap[tb]? = some (.cells #[.int .u64 (T.l : Int), fv, .map (some mb), sv, .map (some nb)] 117 (0, 0)) ∧
  w.ownsRow B 92 8 fv T.F.length (T.F.flatMap fdEnc) ∧ w.ownsRow B 135 2 sv T.S.length (T.S.flatMap stEnc) ∧
  w.ownsMap Tryz.prog 139 (plainElem Tryz.prog 3) mb n D ∧ w.ownsMap Tryz.prog 9 (plainElem Tryz.prog 3) nb m E ∧ mb ≠ nb ∧
  n ≤ T.F.length ∧ m ≤ T.S.length ∧ IdxIs D T.F ∧ NamIs E T.S
 base : ∀ b ∈ fp, B ≤ b ∧ b < w.heap.size
theorem TabIn.kept {w w' : World} {B tb : Nat} {T : TabS} {fp S : List Nat} (h : TabIn w B tb T fp) (hf : Fr S w w') (hd : ∀ b ∈ fp, b ∉ S) : TabIn w' B tb T fp := by
 obtain ⟨⟨fv, sv, mb, nb, n, m, D, E, rfl, h1, h2, h3, h4, h5, h6⟩, hb⟩ := h
 refine ⟨⟨fv, sv, mb, nb, n, m, D, E, rfl, hf.blk h1 (hd _ (by simp)), hf.own h2 fun g hg => hd g (by simp [hg]), hf.own h3 fun g hg => hd g (by simp [hg]), hf.map h4 (hd _ (by simp)), hf.map h5 (hd _ (by simp)), h6⟩, fun b hm => ?_⟩
 have := hb b hm
 have := hf.size
 omega
theorem idx_nil {H : Type} : IdxIs (H := H) (.map []) [] := ⟨fun i f h => by simp at h, fun k _ => by simp [Maps.has]⟩
theorem nam_nil {H : Type} : NamIs (H := H) (.map []) [] := ⟨fun i f h => by simp at h, fun k _ => by simp [Maps.has]⟩
set_option maxRecDepth 100000 in
theorem tnew_any (l : Nat) (w : World) : Calls Tryz.prog 56 #[.int .u64 (l : Int)] w fun e w' => ∃ tb fp, e = .returned (.pointer (some ⟨tb, 0, none⟩)) ∧ TabIn w' w.heap.size tb ⟨l, [], []⟩ fp ∧ Below w.heap.size w w' := by
 have hmm := @run_makeMap Tryz.prog
 go_enter Tryz.func56, Tryz.ntmps56
 go_wp2
 go_ret
 refine ⟨_, _, rfl, ⟨⟨.slice none 0 0, .slice none 0 0, w.heap.size, w.heap.size + 1, 0, 0, .map [], .map [], rfl, heap_new_at _ _ _ (by simp), World.ownsRow_nil _ _ _ _, World.ownsRow_nil _ _ _ _, ?_, ?_, by omega, Nat.le_refl _, Nat.le_refl _, idx_nil, nam_nil⟩, ?_⟩, ((Below.refl _ _).alloc (Nat.le_refl _) _).alloc (by simp) _ |>.alloc (by simp; omega) _⟩
 ·exact ((World.ownsMap_made _ _ _ _).alloc _).alloc _
 ·have h := World.ownsMap_made (H := Unit) (w.alloc (.map #[] 0)) Tryz.prog 9 (plainElem Tryz.prog 3)
  rw [World.size_alloc] at h
  exact h.alloc _
 ·intro b hb
  simp [Value.ownBlock] at hb ⊢
  omega
end Go.Proofs.YtilcofpceadpbaaGreatDoor
namespace Go.Proofs.YtilcofpceadpbaaGreatDoor
open Go.ChangeShapes Go.WideShapes Go.ChangeAt Go.RowKit

set_option maxRecDepth 100000 in
theorem hnew_any (l : Int) (w : World) : Calls Tryz.prog 6 #[.int .i64 l] w fun e w' => e = .returned (.pointer (some ⟨w.heap.size, 0, none⟩)) ∧ w'.heap[w.heap.size]? = some (.cells #[.int .i64 (max l 0), .int .i64 0, .slice none 0 0, .slice none 0 0, .slice none 0 0] 67 (0, 0)) ∧ Below w.heap.size w w' := by
 by_cases hl : l < 0
 all_goals
  go_enter Tryz.func6, Tryz.ntmps6
  go_wp2
  go_ret
  refine ⟨rfl, ?_, (Below.refl _ _).alloc (Nat.le_refl _) _⟩
  first
   | (rw [show max l 0 = 0 by omega]; exact heap_new_at _ _ _ rfl)
   | (rw [show max l 0 = l by omega]; exact heap_new_at _ _ _ rfl)
set_option maxRecDepth 100000 in
theorem hused_any {w : World} {h : Nat} {L U : Int} {tv fv cv : Value} (hh : w.heap[h]? = some (.cells #[.int .i64 L, .int .i64 U, tv, fv, cv] 67 (0, 0))) : Calls Tryz.prog 13 #[.pointer (some ⟨h, 0, none⟩)] w (RetB (.int .i64 U) w) := by
 obtain ⟨q0, q1, q2, q3, q4, qf0, qf1, qf2, qf3, qf4, ql⟩ := blk_5 hh
 go_enter Tryz.func13, Tryz.ntmps13
 go_wp2
 go_ret
 exact ⟨rfl, Below.refl _ _⟩
def ChargeOut (h : Nat) (L U n : Int) (tv fv cv : Value) (w : World) (e : Ending) (w' : World) : Prop :=
 (max n 0 > L - U ∧ e = .returned (.bool false) ∧ Below w.heap.size w w') ∨ (max n 0 ≤ L - U ∧ e = .returned (.bool true) ∧ w'.heap[h]? = some (.cells #[.int .i64 L, .int .i64 (U + max n 0), tv, fv, cv] 67 (0, 0)) ∧ Fr [h] w w')
set_option maxRecDepth 100000 in
theorem hcharge_any {w : World} {h : Nat} {L U : Int} {tv fv cv : Value} (n : Int) (hh : w.heap[h]? = some (.cells #[.int .i64 L, .int .i64 U, tv, fv, cv] 67 (0, 0))) (h0 : 0 ≤ U) (h1 : U ≤ L) (h2 : L ≤ 9223372036854775807) (hn : n ≤ 9223372036854775807) : Calls Tryz.prog 38 #[.pointer (some ⟨h, 0, none⟩), .int .i64 n] w (ChargeOut h L U n tv fv cv w) := by
 obtain ⟨m, hm, hm0, hm1⟩ : ∃ m, max n 0 = m ∧ 0 ≤ m ∧ m ≤ 9223372036854775807 := ⟨_, rfl, by omega, by omega⟩
 have HM := Lib.hid hm
 have HH := Lib.hid hh
 obtain ⟨q0, q1, q2, q3, q4, qf0, qf1, qf2, qf3, qf4, ql⟩ := blk_5 hh
 have hsub : IntKind.wrap .i64 (L - U) = L - U := by rw [IntKind.wrap_i64]; omega
 go_enter Tryz.func38, Tryz.ntmps38
 go_upto_region 1 with (fail)
 go_cut [1] (fun s1 w' => s1 = .int .i64 m ∧ w = w')
 case first =>
  by_cases hj : n < 0
  all_goals
   go_wp2
   go_meet
   case rel => exact ⟨by congr 1; omega, rfl⟩
 case rest =>
  obtain ⟨rfl, rfl⟩ := hcut
  clear hm
  have hadd : m ≤ L - U → IntKind.wrap .i64 (U + m) = U + m := fun _ => by rw [IntKind.wrap_i64]; omega
  by_cases hr : m > L - U
  ·go_wp2_with fail
   go_quiet (fail)
   go_wp2
   go_ret
   exact .inl ⟨by rw [HM.out]; exact hr, rfl, belowDN (Below.refl _ _) _⟩
  ·go_wp2_with fail
   go_quiet (fail)
   go_wp2
   go_ret
   exact .inr ⟨by rw [HM.out]; omega, rfl, by rw [HM.out]; exact blk_set HH.out _, ((Fr.refl [h] w).drewN _).set _ (.inl (by simp))⟩

theorem own_set {w : World} {base b i : Nat} {e t : TypeId} {size n : Nat} {v : Value} {xs : List Value} {cs : Array Value} {fr : Nat × Nat} (h : w.ownsRow base e size v n xs) (hb : w.heap[b]? = some (.cells cs t fr)) (hne : e ≠ t) (u : Value) : (w.setCell ⟨b, i, none⟩ u).ownsRow base e size v n xs :=
 ((Fr.refl [b] w).set (a := ⟨b, i, none⟩) u (.inl (by simp))).own h fun g hg hm => own_blk_ne h hb hne (by simp at hm; rw [hg, hm])
theorem info_tab : (Tryz.prog.info? 56).map (fun i => (i.zero, i.size, i.bytes)) = some (some (.pointer none), 1, 8) := by kernel_rfl
set_option maxRecDepth 100000 in
theorem add_tab {w : World} {B h : Nat} {L U : Int} {fv cv : Value} {A : Option Addr} {n c : Nat} {xs : List Value} (hh : w.heap[h]? = some (.cells #[.int .i64 L, .int .i64 U, .slice A n c, fv, cv] 67 (0, 0))) (ho : w.ownsRow B 56 1 (.slice A n c) n xs) (hn : n ≤ 1000000) (hB : B ≤ w.heap.size) (x : Addr) :
  Calls Tryz.prog 55 #[.pointer (some ⟨h, 2, none⟩), .pointer (some x)] w fun e w' => ∃ g cap, e = .returned (.int .i64 (n : Int)) ∧ w'.heap[h]? = some (.cells #[.int .i64 L, .int .i64 U, .slice (some ⟨g, 0, none⟩) (n + 1) cap, fv, cv] 67 (0, 0)) ∧ w'.ownsRow B 56 1 (.slice (some ⟨g, 0, none⟩) (n + 1) cap) (n + 1) (xs ++ [.pointer (some x)]) ∧ Fr (h :: (Value.slice A n c).ownBlock.toList) w w' ∧ ((Value.slice A n c).ownBlock = some g ∨ w.heap.size ≤ g) := by
 obtain ⟨i0, hi, hz0, hz1, hz2⟩ := info_parts info_tab
 have hne := own_blk_ne ho hh (by decide)
 have HH := Lib.hid hh
 have HO := Lib.hid ho
 obtain ⟨q0, q1, q2, q3, q4, qf0, qf1, qf2, qf3, qf4, ql⟩ := blk_5 hh
 have hw1 : IntKind.wrap .i64 (((n + 1 : Nat) : Int) - 1) = (n : Int) := by rw [IntKind.wrap_i64]; omega
 clear hh ho
 go_enter Tryz.func55, Tryz.ntmps55
 go_wp2_with (at_builtin; (refine wpList_append_lies _ rfl _ _ _ rfl B 56 i0 (.pointer none) 1 8 Tryz.underlying59 hi hz0 hz1 hz2 rfl (by omega) _ n xs rfl (HO.out.alloc _) ⟨w.heap.size, 0, none⟩ 1 1 [.pointer (some x)] rfl rfl (news_new _ #[.pointer (some x)] _ _ rfl) (by simp [Value.oneCell']) (by omega) (by unfold maxLen; omega) (by omega) (by simp; omega) (w.heap.size + 1) (by simp) ?_); intro g cap w2 hown2 hgrow hat hlt2; have hbk2 := blk_grown (blk_alloc HH.out _) hgrow (Ne.symm hne); have HB2 := Lib.hid hbk2; have HG2 := Lib.hid (show World.grownBy _ w2 (Value.slice A n c).ownBlock from hgrow); have HO2 := Lib.hid hown2; have HA2 := Lib.hid hat; clear hgrow hown2 hat; have k0 := cell_of_blk (i := 2) hbk2 rfl; have kf := free_of_blk (i := 2) hbk2; have kl := blk_lt hbk2; clear hbk2)
 go_ret
 refine ⟨g, cap, rfl, blk_set HB2.out _, ?_, ?_, ?_⟩
 ·exact own_set HO2.out HB2.out (by decide) _
 ·exact ((((Fr.refl (h :: (Value.slice A n c).ownBlock.toList) w).alloc _).grown HG2.out fun k hk => .inl (by rw [hk]; simp))).set _ (.inl (by simp))
 ·exact HA2.out.imp id fun e => by omega
def AtOut (none_ : Value) (n : Nat) (xs : List Value) (k : Int) (w : World) (e : Ending) (w' : World) : Prop :=
 Below w.heap.size w w' ∧ ((0 ≤ k ∧ ∃ x, xs[k.toNat]? = some x ∧ e = .returned (.tuple #[x, .bool true])) ∨ ((k < 0 ∨ (n : Int) ≤ k) ∧ e = .returned (.tuple #[none_, .bool false])))
theorem at_tab {w : World} {B h : Nat} {L U : Int} {fv cv : Value} {A : Option Addr} {n c : Nat} {xs : List Value} (hh : w.heap[h]? = some (.cells #[.int .i64 L, .int .i64 U, .slice A n c, fv, cv] 67 (0, 0))) (ho : w.ownsRow B 56 1 (.slice A n c) n xs) (hx : xs.length = n) (hn : n ≤ 1000000) (k : Int) :
  Calls Tryz.prog 57 #[.pointer (some ⟨h, 2, none⟩), .int .i64 k] w (AtOut (.pointer none) n xs k w) := by
 obtain ⟨q0, q1, q2, q3, q4, qf0, qf1, qf2, qf3, qf4, ql⟩ := blk_5 hh
 have HO := Lib.hid ho
 have HH := Lib.hid hh
 clear ho hh
 by_cases h0 : k < 0
 ·go_enter Tryz.func57, Tryz.ntmps57
  go_wp2
  go_returns
  exact ⟨Below.refl _ _, .inr ⟨.inl h0, rfl⟩⟩
 by_cases h1 : k < (n : Int)
 ·obtain ⟨j, rfl⟩ : ∃ j : Nat, k = (j : Int) := ⟨k.toNat, by omega⟩
  have hj : j < n := by omega
  obtain ⟨x, hxj⟩ : ∃ x, xs[j]? = some x := ⟨xs[j]'(by omega), List.getElem?_eq_getElem _⟩
  obtain ⟨A', c', e, _, _, hf⟩ := own_form HO.out
  injection e with e1 e2 e3
  subst e1
  obtain ⟨gb, rfl, _, hlt, _, hc⟩ := hf (by omega)
  have hcj := hc j x hxj
  clear hf hc
  have hge : ¬ ((j : Int) ≥ (n : Int)) := by omega
  go_enter Tryz.func57, Tryz.ntmps57
  go_wp2
  go_returns
  exact ⟨Below.refl _ _, .inl ⟨by omega, x, by simpa using hxj, rfl⟩⟩
 ·have hge : (k : Int) ≥ (n : Int) := by omega
  go_enter Tryz.func57, Tryz.ntmps57
  go_wp2
  go_returns
  exact ⟨Below.refl _ _, .inr ⟨.inr (by omega), rfl⟩⟩

def ptrs (ps : List Nat) : List Value := ps.map fun p => .pointer (some ⟨p, 0, none⟩)
def atV (xs : List Value) (k : Int) : Value := if 0 ≤ k then (xs[k.toNat]?).getD (.pointer none) else .pointer none
theorem at_tab2 {w : World} {B h : Nat} {L U : Int} {fv cv : Value} {A : Option Addr} {n c : Nat} {xs : List Value} (hh : w.heap[h]? = some (.cells #[.int .i64 L, .int .i64 U, .slice A n c, fv, cv] 67 (0, 0))) (ho : w.ownsRow B 56 1 (.slice A n c) n xs) (hx : xs.length = n) (hn : n ≤ 1000000) (hB : B ≤ w.heap.size) (k : Int) :
  Calls Tryz.prog 57 #[.pointer (some ⟨h, 2, none⟩), .int .i64 k] w (RetB (.tuple #[atV xs k, .bool (decide (0 ≤ k ∧ k < (n : Int)))]) w) := by
 refine (at_tab hh ho hx hn k).mono ?_
 rintro e w' ⟨hb, ⟨h0, x, hk, rfl⟩ | ⟨hk, rfl⟩⟩
 ·have h1 : k.toNat < xs.length := (List.getElem?_eq_some_iff.1 hk).1
  refine ⟨?_, hb⟩
  rw [show atV xs k = x by unfold atV; rw [if_pos h0, hk]; rfl, decide_eq_true (by omega)]
 ·refine ⟨?_, hb⟩
  rw [decide_eq_false (by omega)]
  have : atV xs k = .pointer none := by
   unfold atV
   split
   ·rw [List.getElem?_eq_none (by omega)]; rfl
   ·rfl
  rw [this]
def ofV (xs : List Value) (v : VV) : Value := if v.kind = 4 then atV xs v.n else .pointer none
set_option maxRecDepth 100000 in
theorem hof_any {w : World} {B h : Nat} {L U : Int} {fv cv : Value} {A : Option Addr} {n c : Nat} {xs : List Value} (t : VV) (hh : w.heap[h]? = some (.cells #[.int .i64 L, .int .i64 U, .slice A n c, fv, cv] 67 (0, 0))) (ho : w.ownsRow B 56 1 (.slice A n c) n xs) (hx : xs.length = n) (hn : n ≤ 1000000) (hB : B ≤ w.heap.size) :
  Calls Tryz.prog 14 #[.pointer (some ⟨h, 0, none⟩), .agg #[.int .i64 t.kind, .int .i64 t.n, .string t.s, .int .u64 (t.label : Int)]] w (RetB (ofV xs t) w) := by
 obtain ⟨b, hb⟩ : ∃ b, b = w.heap.size := ⟨_, rfl⟩
 have HB := Lib.hid (show w.heap.size ≤ b by omega)
 have HBE := Lib.hid hb
 have HX := Lib.hid (And.intro hx (And.intro hn hB))
 obtain ⟨ov, hov⟩ : ∃ ov, ov = ofV xs t := ⟨_, rfl⟩
 rw [← hov]
 have HOV := Lib.hid hov
 have H0 := Lib.hid hh
 have O0 := Lib.hid ho
 clear hb hh ho hx hn hB hov
 go_enter Tryz.func14, Tryz.ntmps14
 go_upto_region 1 with fail
 rw [← HBE.out]
 refine gen_wp fun W hW => ?_
 have HR := Lib.hid (show W.heap[b]? = some (.cells #[.int .i64 t.kind, .int .i64 t.n, .string t.s, .int .u64 (t.label : Int)] 26 (0, 0)) by rw [← hW, HBE.out]; exact heap_new_at _ _ _ rfl)
 have HH := Lib.hid (show W.heap[h]? = some (.cells #[.int .i64 L, .int .i64 U, .slice A n c, fv, cv] 67 (0, 0)) by rw [← hW]; exact blk_alloc H0.out _)
 have HO := Lib.hid (show W.ownsRow B 56 1 (.slice A n c) n xs by rw [← hW]; exact O0.out.alloc _)
 have HW := Lib.hid (show Below w.heap.size w W by rw [← hW]; exact (Below.refl _ _).alloc (Nat.le_refl _) _)
 clear hW
 obtain ⟨r0, r1, r2, r3, rf0, rf1, rf2, rf3, rl⟩ := blk_4 HR.out
 by_cases hk : t.kind = 4
 ·have HC := Lib.hid (fun w' (hw' : Below W.heap.size W w') => at_tab2 (below_blk hw' HH.out) (below_own hw' HO.out) HX.out.1 HX.out.2.1 (Nat.le_trans HX.out.2.2 (Nat.le_trans HW.out.size hw'.size)) t.n)
  have HOE := Lib.hid (show atV xs t.n = ov by rw [HOV.out]; unfold ofV; rw [if_pos hk])
  obtain ⟨is, his⟩ : ∃ is, is = decide (0 ≤ t.n ∧ t.n < (n : Int)) := ⟨_, rfl⟩
  rw [HOE.out, ← his] at HC
  clear his
  go_wp2_with fail
  refine wp_region_held_drew (S := fun w' => w'.heap[b]? = some (.cells #[.int .i64 t.kind, .int .i64 t.n, .string t.s, .int .u64 (t.label : Int)] 26 (0, 0))) (by kernel_rfl) (HR.out) (fun hHeld => ?_)
  refine tk 0 15 (.pointer (some ⟨h, 0, none⟩)) hHeld ?_; simp only [Act.put, zq1, zq2, zq3]
  refine tk 1 16 (.pointer (some ⟨h, 0, none⟩)) hHeld ?_; simp only [Act.put, zq1, zq2, zq3]
  refine tk 2 17 (.pointer (some ⟨h, 2, none⟩)) hHeld ?_; simp only [Act.put, zq1, zq2, zq3]
  refine tk 3 18 (.pointer (some ⟨b, 1, none⟩)) hHeld ?_; simp only [Act.put, zq1, zq2, zq3]
  refine tk 4 19 (.int .i64 t.n) hHeld ?_ (hy := Or.inl ⟨by rfl, fun w' hS => (by have q0 := cell_of_blk (i := 0) hS rfl; have q1 := cell_of_blk (i := 1) hS rfl; have q2 := cell_of_blk (i := 2) hS rfl; have q3 := cell_of_blk (i := 3) hS rfl; go_simp)⟩); simp only [Act.put, zq1, zq2, zq3]
  refine rd 5 fun K hK => ?_
  go_simp
  refine (HC.out _ (Below.refl _ _).drew).mono ?_
  rintro e w1 ⟨rfl, hb1⟩
  have HW1 := Lib.hid (show Below w.heap.size w w1 from HW.out.trans (((Below.refl _ _).drew.trans hb1).mono HW.out.size))
  have HR1 := Lib.hid (below_blk ((Below.refl _ _).drew.trans hb1) HR.out)
  clear hb1
  refine hK.out _ _ (HR1.out) (fun hHeld => ?_)
  clear hK K
  try simp only [Act.put, zq1, zq2, zq3]
  refine tk 6 14 (.tuple #[ov, .bool is]) hHeld ?_; simp only [Act.put, zq1, zq2, zq3]
  refine tk 7 21 (ov) hHeld ?_; simp only [Act.put, zq1, zq2, zq3]
  refine tk 8 22 (.bool is) hHeld ?_; simp only [Act.put, zq1, zq2, zq3]
  refine tk 9 5 (ov) hHeld ?_; simp only [Act.put, zq1, zq2, zq3]
  refine tk 10 6 (.bool is) hHeld ?_; simp only [Act.put, zq1, zq2, zq3]
  refine wpAnyH_done (by kernel_rfl) ?_ _
  go_wp2
  go_ret
  exact ⟨rfl, HW1.out⟩
 ·have HOE := Lib.hid (show ov = .pointer none by rw [HOV.out]; unfold ofV; rw [if_neg hk])
  go_wp2
  go_ret
  exact ⟨by rw [HOE.out]; rfl, HW.out⟩
theorem hp_own_lt {w : World} {base g : Nat} {e : TypeId} {K n : Nat} {v : Value} {xs : List Value} (h : w.ownsRow base e K v n xs) (hg : v.ownBlock = some g) : base ≤ g ∧ g < w.heap.size := by
 rcases h.2 with ⟨rfl, _⟩ | ⟨g', cap, cur, rfl, hb, hh, _⟩
 ·simp [Value.ownBlock] at hg
 ·obtain rfl : g' = g := by simpa [Value.ownBlock] using hg
  exact ⟨hb, blk_lt hh⟩
theorem hp_own_mono {w : World} {base base' : Nat} {e : TypeId} {K n : Nat} {v : Value} {xs : List Value} (ho : w.ownsRow base e K v n xs) (h : base' ≤ base) : w.ownsRow base' e K v n xs :=
 ⟨ho.1, ho.2.imp id fun ⟨g, cap, cur, hv, hg, r⟩ => ⟨g, cap, cur, hv, Nat.le_trans h hg, r⟩⟩
theorem tabIn_low {w : World} {B B' tb : Nat} {T : TabS} {fp : List Nat} (h : TabIn w B tb T fp) (hB : B' ≤ B) : TabIn w B' tb T fp := by
 obtain ⟨⟨fv, sv, mb, nb, n, m, D, E, rfl, h1, h2, h3, h4⟩, hb⟩ := h
 exact ⟨⟨fv, sv, mb, nb, n, m, D, E, rfl, h1, hp_own_mono h2 hB, hp_own_mono h3 hB, h4⟩, fun b hm => ⟨Nat.le_trans hB (hb b hm).1, (hb b hm).2⟩⟩
def TabMade (B h : Nat) (L U : Int) (fv cv : Value) (A : Option Addr) (n c : Nat) (xs : List Value) (l : Nat) (w w' : World) : Prop :=
 ∃ g cap tb fp, w'.heap[h]? = some (.cells #[.int .i64 L, .int .i64 U, .slice (some ⟨g, 0, none⟩) (n + 1) cap, fv, cv] 67 (0, 0)) ∧ w'.ownsRow B 56 1 (.slice (some ⟨g, 0, none⟩) (n + 1) cap) (n + 1) (xs ++ [.pointer (some ⟨tb, 0, none⟩)]) ∧ TabIn w' w.heap.size tb ⟨l, [], []⟩ fp ∧ Fr (h :: (Value.slice A n c).ownBlock.toList) w w' ∧ ((Value.slice A n c).ownBlock = some g ∨ w.heap.size ≤ g) ∧ g ∉ fp
def newTabV (n : Nat) : Value := .agg #[.int .i64 4, .int .i64 (n : Int), .string ⟨#[]⟩, .int .u64 0]
theorem four_far {W : World} {b x : Nat} {o : Obj} (v0 v1 v2 v3 : Value) (h : W.heap[x]? = some o) (hne : x ≠ b) : ((((W.setCell ⟨b, 0, none⟩ v0).setCell ⟨b, 1, none⟩ v1).setCell ⟨b, 2, none⟩ v2).setCell ⟨b, 3, none⟩ v3).heap[x]? = some o :=
 blk_far (blk_far (blk_far (blk_far h hne _) hne _) hne _) hne _
set_option maxRecDepth 100000 in
theorem tab1_any {w : World} {B h b0 b1 : Nat} {L U : Int} {fv cv : Value} {A : Option Addr} {n c : Nat} {xs : List Value} (l : Nat) (hh : w.heap[h]? = some (.cells #[.int .i64 L, .int .i64 U, .slice A n c, fv, cv] 67 (0, 0))) (ho : w.ownsRow B 56 1 (.slice A n c) n xs) (hx : xs.length = n) (hn : n ≤ 1000000) (hB : B ≤ w.heap.size) (k0 : w.heap[b0]? = some (.cells #[.pointer (some ⟨h, 0, none⟩)] 36 (0, 0))) (k1 : w.heap[b1]? = some (.cells #[.int .u64 (l : Int)] 24 (0, 0))) :
  Calls Tryz.prog 54 #[.pointer (some ⟨b0, 0, none⟩), .pointer (some ⟨b1, 0, none⟩)] w fun e w' => e = .returned (newTabV n) ∧ TabMade B h L U fv cv A n c xs l w w' := by
 obtain ⟨b, hb⟩ : ∃ b, b = w.heap.size := ⟨_, rfl⟩
 have HBE := Lib.hid hb
 have HX := Lib.hid (And.intro hx (And.intro hn hB))
 have N0 := Lib.hid (And.intro (blk_ne k0 hh (by decide)) (And.intro (blk_ne k1 hh (by decide)) (And.intro (own_blk_ne ho k0 (by decide)) (own_blk_ne ho k1 (by decide)))))
 have HL := Lib.hid (And.intro (blk_lt hh) (And.intro (blk_lt k0) (blk_lt k1)))
 have H0 := Lib.hid hh
 have O0 := Lib.hid ho
 have K0 := Lib.hid k0
 have K1 := Lib.hid k1
 have GL := Lib.hid (fun g (hg : (Value.slice A n c).ownBlock = some g) => (hp_own_lt ho hg).2)
 clear hb hh ho hx hn hB k0 k1
 go_enter Tryz.func54, Tryz.ntmps54
 go_upto_region 1 with fail
 rw [← HBE.out]
 refine gen_wp fun W hW => ?_
 have HR := Lib.hid (show W.heap[b]? = some (.cells #[.int .i64 0, .int .i64 0, .string ⟨#[]⟩, .int .u64 0] 26 (0, 0)) by rw [← hW, HBE.out]; exact heap_new_at _ _ _ (by first | rfl | simp))
 have HH := Lib.hid (show W.heap[h]? = some (.cells #[.int .i64 L, .int .i64 U, .slice A n c, fv, cv] 67 (0, 0)) by rw [← hW]; exact blk_alloc H0.out _)
 have HO := Lib.hid (show W.ownsRow B 56 1 (.slice A n c) n xs by rw [← hW]; exact O0.out.alloc _)
 have KW0 := Lib.hid (show W.heap[b0]? = some (.cells #[.pointer (some ⟨h, 0, none⟩)] 36 (0, 0)) by rw [← hW]; exact blk_alloc K0.out _)
 have KW1 := Lib.hid (show W.heap[b1]? = some (.cells #[.int .u64 (l : Int)] 24 (0, 0)) by rw [← hW]; exact blk_alloc K1.out _)
 have HW := Lib.hid (show Below w.heap.size w W by rw [← hW]; exact (Below.refl _ _).alloc (Nat.le_refl _) _)
 clear hW
 go_wp2_with fail
 refine wp_region_held_drew (S := fun w' => w'.heap[b0]? = some (.cells #[.pointer (some ⟨h, 0, none⟩)] 36 (0, 0)) ∧ w'.heap[b1]? = some (.cells #[.int .u64 (l : Int)] 24 (0, 0))) (by kernel_rfl) (⟨KW0.out, KW1.out⟩) (fun hHeld => ?_)
 refine tk 0 3 (.pointer (some ⟨h, 0, none⟩)) hHeld ?_ (hy := Or.inl ⟨by rfl, fun w' hS => (by have q0 := cell_of_blk (i := 0) hS.1 rfl; have q1 := cell_of_blk (i := 0) hS.2 rfl; go_simp)⟩); simp only [Act.put, zq1, zq2, zq3]
 refine tk 1 4 (.pointer (some ⟨h, 0, none⟩)) hHeld ?_; simp only [Act.put, zq1, zq2, zq3]
 refine tk 2 5 (.pointer (some ⟨h, 2, none⟩)) hHeld ?_; simp only [Act.put, zq1, zq2, zq3]
 refine tk 3 6 (.int .u64 (l : Int)) hHeld ?_ (hy := Or.inl ⟨by rfl, fun w' hS => (by have q0 := cell_of_blk (i := 0) hS.1 rfl; have q1 := cell_of_blk (i := 0) hS.2 rfl; go_simp)⟩); simp only [Act.put, zq1, zq2, zq3]
 refine rd 4 fun K hK => ?_
 go_simp
 refine (tnew_any l _).mono ?_
 rintro e w1 ⟨tb, fp, rfl, hT, hb1⟩
 have hb1' : Below W.heap.size W w1 := (Below.refl _ _).drew.trans hb1
 have HT := Lib.hid (show TabIn w1 W.heap.size tb ⟨l, [], []⟩ fp from hT)
 have HB1 := Lib.hid hb1'
 have HH1 := Lib.hid (below_blk hb1' HH.out)
 have HO1 := Lib.hid (below_own hb1' HO.out)
 have S1 := Lib.hid (And.intro (below_blk hb1' KW0.out) (And.intro (below_blk hb1' KW1.out) (below_blk hb1' HR.out)))
 clear hT hb1 hb1'
 refine hK.out _ _ (⟨S1.out.1, S1.out.2.1⟩) (fun hHeld => ?_)
 clear hK K
 try simp only [Act.put, zq1, zq2, zq3]
 refine rd 5 fun K hK => ?_
 go_simp
 refine (add_tab HH1.out HO1.out HX.out.2.1 (Nat.le_trans HX.out.2.2 (Nat.le_trans HW.out.size HB1.out.size)) ⟨tb, 0, none⟩).mono ?_
 rintro e w2 ⟨g, cap, rfl, hh2, ho2, hf2, hg2⟩
 have NB := Lib.hid (show ∀ x ∈ h :: (Value.slice A n c).ownBlock.toList, x < b from fun x hx => by
   rw [HBE.out]
   rcases List.mem_cons.1 hx with rfl | hx
   ·exact HL.out.1
   ·exact GL.out x (by simpa using hx))
 have S2 := Lib.hid (And.intro (hf2.blk S1.out.1 (by have h1 := N0.out.1; have h2 := N0.out.2.2.1; simp only [List.mem_cons, Option.mem_toList]; rintro (e | e); exact h1 e; exact h2 e.symm)) (And.intro (hf2.blk S1.out.2.1 (by have h1 := N0.out.2.1; have h2 := N0.out.2.2.2; simp only [List.mem_cons, Option.mem_toList]; rintro (e | e); exact h1 e; exact h2 e.symm)) (hf2.blk S1.out.2.2 (fun hm => Nat.lt_irrefl _ (NB.out _ hm)))))
 have HH2 := Lib.hid hh2
 have HO2 := Lib.hid ho2
 have HF2 := Lib.hid hf2
 have HG2 := Lib.hid hg2
 clear hh2 ho2 hf2 hg2
 have hb20 := S2.out.2.2
 obtain ⟨r0, r1, r2, r3, rf0, rf1, rf2, rf3, rl⟩ := blk_4 hb20
 clear hb20
 refine hK.out _ _ (⟨S2.out.1, S2.out.2.1⟩) (fun hHeld => ?_)
 clear hK K
 try simp only [Act.put, zq1, zq2, zq3]
 refine tk 6 9 (.agg #[.int .i64 4, .int .i64 (n : Int), .string ⟨#[]⟩, .int .u64 0]) hHeld ?_; simp only [Act.put, zq1, zq2, zq3]
 refine rd 7 fun K hK => ?_
 go_simp
 refine hK.out _ _ (⟨four_far _ _ _ _ S2.out.1 (by rw [HBE.out]; exact Nat.ne_of_lt HL.out.2.1), four_far _ _ _ _ S2.out.2.1 (by rw [HBE.out]; exact Nat.ne_of_lt HL.out.2.2)⟩) (fun hHeld => ?_)
 clear hK K
 try simp only [Act.put, zq1, zq2, zq3]
 refine wpAnyH_done (by kernel_rfl) ?_ _
 go_wp2
 obtain ⟨j0, j1, j2, j3⟩ := four S2.out.2.2 rfl (.int .i64 4) (.int .i64 (n : Int)) (.string ⟨#[]⟩) (.int .u64 0)
 have hnb : ∀ x, x < w.heap.size → x ≠ b := fun x hx => by rw [HBE.out]; exact Nat.ne_of_lt hx
 have hbl : ∀ x ∈ h :: (Value.slice A n c).ownBlock.toList, x < w.heap.size := fun x hx => by rw [← HBE.out]; exact NB.out x hx
 have hsz := Nat.le_trans HW.out.size HB1.out.size
 have hF4 : Fr [b] w2 ((((w2.setCell ⟨b, 0, none⟩ (.int .i64 4)).setCell ⟨b, 1, none⟩ (.int .i64 (n : Int))).setCell ⟨b, 2, none⟩ (.string ⟨#[]⟩)).setCell ⟨b, 3, none⟩ (.int .u64 0)) := ((((Fr.refl [b] w2).set _ (.inl (by simp))).set _ (.inl (by simp))).set _ (.inl (by simp))).set _ (.inl (by simp))
 have hgn : g ≠ b ∧ g ∉ fp := by
  rcases HG2.out with e | e
  ·have hg := hbl g (by rw [e]; simp)
   exact ⟨hnb g hg, fun hm => by have := (HT.out.base g hm).1; have := HW.out.size; omega⟩
  ·have hb1 := blk_lt HR.out
   have := HB1.out.size
   exact ⟨by omega, fun hm => by have := (HT.out.base g hm).2; omega⟩
 refine bodyPost_ret (v := newTabV n) (by unfold newTabV; simp [results, Tryz.results54, go_sem, j0, j1, j2, j3]) rfl ?_
 refine ⟨rfl, g, cap, tb, fp, hF4.blk HH2.out (by simpa using hnb h HL.out.1), hF4.own HO2.out (fun x hx => ?_), ?_, ?_, ?_, hgn.2⟩
 ·obtain rfl : g = x := by simpa [Value.ownBlock] using hx
  simpa using hgn.1
 ·refine (tabIn_low (HT.out.kept HF2.out fun x hx hm => ?_) HW.out.size).kept hF4 fun x hx hm => ?_
  ·have := (HT.out.base x hx).1
   have := hbl x hm
   have := HW.out.size
   omega
  ·have h1 := (HT.out.base x hx).1
   have h2 := blk_lt HR.out
   simp at hm
   omega
 ·refine (((Fr.of_below HW.out _).trans (Fr.of_below HB1.out (h :: (Value.slice A n c).ownBlock.toList)) (fun x hx => .inl hx)).trans HF2.out (fun x hx => .inl hx)).trans hF4 fun x hx => .inr ?_
  simp at hx
  rw [hx]
  exact Nat.le_of_eq HBE.out.symm
 ·rcases HG2.out with e | e
  ·exact .inl e
  ·exact .inr (Nat.le_trans hsz e)
end Go.Proofs.YtilcofpceadpbaaGreatDoor
