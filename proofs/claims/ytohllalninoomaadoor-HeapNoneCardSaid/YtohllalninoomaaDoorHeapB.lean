/-
  A heap's stores: add, at.
-/
import Derived.Test.YtohllalninoomaaDoorHeapA
set_option linter.unusedVariables false
set_option linter.unusedSimpArgs false
namespace Go.Proofs.YtohllalninoomaaDoor
open Go.ChangeShapes Go.WideShapes Go.ChangeAt Go.RowKit

theorem own_set {w : World} {base b i : Nat} {e t : TypeId} {size n : Nat} {v : Value} {xs : List Value} {cs : Array Value} {fr : Nat × Nat} (h : w.ownsRow base e size v n xs) (hb : w.heap[b]? = some (.cells cs t fr)) (hne : e ≠ t) (u : Value) : (w.setCell ⟨b, i, none⟩ u).ownsRow base e size v n xs :=
  ((Fr.refl [b] w).set (a := ⟨b, i, none⟩) u (.inl (by simp))).own h fun g hg hm => own_blk_ne h hb hne (by simp at hm; rw [hg, hm])
theorem info_tab : (Tryd.prog.info? 53).map (fun i => (i.zero, i.size, i.bytes)) = some (some (.pointer none), 1, 8) := by kernel_rfl
set_option maxRecDepth 100000 in
set_option maxHeartbeats 2000000 in
theorem add_tab {w : World} {B h : Nat} {L U : Int} {fv cv : Value} {A : Option Addr} {n c : Nat} {xs : List Value} (hh : w.heap[h]? = some (.cells #[.int .i64 L, .int .i64 U, .slice A n c, fv, cv] 74 (0, 0))) (ho : w.ownsRow B 53 1 (.slice A n c) n xs) (hn : n ≤ 1000000) (hB : B ≤ w.heap.size) (x : Addr) :
    Calls Tryd.prog 25 #[.pointer (some ⟨h, 2, none⟩), .pointer (some x)] w fun e w' => ∃ g cap, e = .returned (.int .i64 (n : Int)) ∧ w'.heap[h]? = some (.cells #[.int .i64 L, .int .i64 U, .slice (some ⟨g, 0, none⟩) (n + 1) cap, fv, cv] 74 (0, 0)) ∧ w'.ownsRow B 53 1 (.slice (some ⟨g, 0, none⟩) (n + 1) cap) (n + 1) (xs ++ [.pointer (some x)]) ∧ Fr (h :: (Value.slice A n c).ownBlock.toList) w w' ∧ ((Value.slice A n c).ownBlock = some g ∨ w.heap.size ≤ g) := by
  obtain ⟨i0, hi, hz0, hz1, hz2⟩ := info_parts info_tab
  have hne := own_blk_ne ho hh (by decide)
  have HH := Lib.hid hh
  have HO := Lib.hid ho
  have q0 : w.cell? ⟨h, 0, none⟩ = some (.int .i64 L) := cell_of_blk hh rfl
  have q1 : w.cell? ⟨h, 1, none⟩ = some (.int .i64 U) := cell_of_blk hh rfl
  have q2 : w.cell? ⟨h, 2, none⟩ = some (.slice A n c) := cell_of_blk hh rfl
  have q3 : w.cell? ⟨h, 3, none⟩ = some (fv) := cell_of_blk hh rfl
  have q4 : w.cell? ⟨h, 4, none⟩ = some (cv) := cell_of_blk hh rfl
  have qf0 := free_of_blk (i := 0) hh
  have qf1 := free_of_blk (i := 1) hh
  have qf2 := free_of_blk (i := 2) hh
  have qf3 := free_of_blk (i := 3) hh
  have qf4 := free_of_blk (i := 4) hh
  have ql := blk_lt hh
  have hw1 : IntKind.wrap .i64 (((n + 1 : Nat) : Int) - 1) = (n : Int) := by rw [IntKind.wrap_i64]; omega
  clear hh ho
  go_enter Tryd.func25, Tryd.ntmps25
  go_wp2_with (at_builtin; (refine wpList_append_lies _ rfl _ _ _ rfl B 53 i0 (.pointer none) 1 8 Tryd.underlying64 hi hz0 hz1 hz2 rfl (by omega) _ n xs rfl (HO.out.alloc _) ⟨w.heap.size, 0, none⟩ 1 1 [.pointer (some x)] rfl rfl (news_new _ #[.pointer (some x)] _ _ rfl) (by simp [Value.oneCell']) (by omega) (by unfold maxLen; omega) (by omega) (by simp; omega) (w.heap.size + 1) (by simp) ?_); intro g cap w2 hown2 hgrow hat hlt2; have hbk2 := blk_grown (blk_alloc HH.out _) hgrow (Ne.symm hne); have HB2 := Lib.hid hbk2; have HG2 := Lib.hid (show World.grownBy _ w2 (Value.slice A n c).ownBlock from hgrow); have HO2 := Lib.hid hown2; have HA2 := Lib.hid hat; clear hgrow hown2 hat; have k0 := cell_of_blk (i := 2) hbk2 rfl; have kf := free_of_blk (i := 2) hbk2; have kl := blk_lt hbk2; clear hbk2)
  go_ret
  refine ⟨g, cap, rfl, blk_set HB2.out _, ?_, ?_, ?_⟩
  · exact own_set HO2.out HB2.out (by decide) _
  · exact ((((Fr.refl (h :: (Value.slice A n c).ownBlock.toList) w).alloc _).grown HG2.out fun k hk => .inl (by rw [hk]; simp))).set _ (.inl (by simp))
  · exact HA2.out.imp id fun e => by omega
/-- What 'at' answers: what there is, or nothing. -/
def AtOut (none_ : Value) (n : Nat) (xs : List Value) (k : Int) (w : World) (e : Ending) (w' : World) : Prop :=
  Below w.heap.size w w' ∧ ((0 ≤ k ∧ ∃ x, xs[k.toNat]? = some x ∧ e = .returned (.tuple #[x, .bool true])) ∨ ((k < 0 ∨ (n : Int) ≤ k) ∧ e = .returned (.tuple #[none_, .bool false])))
/-- One of a heap's tables by its number. -/
theorem at_tab {w : World} {B h : Nat} {L U : Int} {fv cv : Value} {A : Option Addr} {n c : Nat} {xs : List Value} (hh : w.heap[h]? = some (.cells #[.int .i64 L, .int .i64 U, .slice A n c, fv, cv] 74 (0, 0))) (ho : w.ownsRow B 53 1 (.slice A n c) n xs) (hx : xs.length = n) (hn : n ≤ 1000000) (k : Int) :
    Calls Tryd.prog 42 #[.pointer (some ⟨h, 2, none⟩), .int .i64 k] w (AtOut (.pointer none) n xs k w) := by
  have q0 : w.cell? ⟨h, 0, none⟩ = some (.int .i64 L) := cell_of_blk hh rfl
  have q1 : w.cell? ⟨h, 1, none⟩ = some (.int .i64 U) := cell_of_blk hh rfl
  have q2 : w.cell? ⟨h, 2, none⟩ = some (.slice A n c) := cell_of_blk hh rfl
  have q3 : w.cell? ⟨h, 3, none⟩ = some (fv) := cell_of_blk hh rfl
  have q4 : w.cell? ⟨h, 4, none⟩ = some (cv) := cell_of_blk hh rfl
  have qf0 := free_of_blk (i := 0) hh
  have qf1 := free_of_blk (i := 1) hh
  have qf2 := free_of_blk (i := 2) hh
  have qf3 := free_of_blk (i := 3) hh
  have qf4 := free_of_blk (i := 4) hh
  have ql := blk_lt hh
  have HO := Lib.hid ho
  have HH := Lib.hid hh
  clear ho hh
  by_cases h0 : k < 0
  · go_enter Tryd.func42, Tryd.ntmps42
    go_wp2
    go_returns
    exact ⟨Below.refl _ _, .inr ⟨.inl h0, rfl⟩⟩
  by_cases h1 : k < (n : Int)
  · obtain ⟨j, rfl⟩ : ∃ j : Nat, k = (j : Int) := ⟨k.toNat, by omega⟩
    have hj : j < n := by omega
    obtain ⟨x, hxj⟩ : ∃ x, xs[j]? = some x := ⟨xs[j]'(by omega), List.getElem?_eq_getElem _⟩
    obtain ⟨A', c', e, _, _, hf⟩ := own_form HO.out
    injection e with e1 e2 e3
    subst e1
    obtain ⟨gb, rfl, _, hlt, _, hc⟩ := hf (by omega)
    have hcj := hc j x hxj
    clear hf hc
    have hge : ¬ ((j : Int) ≥ (n : Int)) := by omega
    go_enter Tryd.func42, Tryd.ntmps42
    go_wp2
    go_returns
    exact ⟨Below.refl _ _, .inl ⟨by omega, x, by simpa using hxj, rfl⟩⟩
  · have hge : (k : Int) ≥ (n : Int) := by omega
    go_enter Tryd.func42, Tryd.ntmps42
    go_wp2
    go_returns
    exact ⟨Below.refl _ _, .inr ⟨.inr (by omega), rfl⟩⟩
end Go.Proofs.YtohllalninoomaaDoor
