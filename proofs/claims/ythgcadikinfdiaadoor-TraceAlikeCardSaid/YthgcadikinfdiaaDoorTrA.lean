/-
  Chapter 25: events, masks; what one may see.
-/
import Derived.Test.YthgcadikinfdiaaDoorLabel
import Derived.Test.YthgcadikinfdiaaDoorOpen2
import Derived.Deep.QuietTactic
import Derived.BigQuiet
import Derived.Laws.StructEq
set_option linter.unusedVariables false
set_option linter.unusedSimpArgs false
namespace Go.Proofs.YthgcadikinfdiaaDoor
open Go.ChangeShapes Go.WideShapes Go.ChangeAt Go.RowKit

structure Ev where
  channel : Int
  kind : Int
  n : Int
  s : ByteArray
def evEnc (e : Ev) : List Value := [.int .i64 e.channel, .int .i64 e.kind, .int .i64 e.n, .string e.s]
def evCells (e : Ev) : Array Value := #[.int .i64 e.channel, .int .i64 e.kind, .int .i64 e.n, .string e.s]
theorem evEnc_one (l : List Ev) : ∀ u ∈ l.flatMap evEnc, u.oneCell' = true := by
  intro u hu
  obtain ⟨e, _, h⟩ := List.mem_flatMap.1 hu
  simp [evEnc] at h
  rcases h with rfl | rfl | rfl | rfl <;> rfl
theorem evEnc_len (l : List Ev) : (l.flatMap evEnc).length = l.length * 4 := by
  induction l with
  | nil => rfl
  | cons e l ih => simp only [List.flatMap_cons, List.length_append, ih, List.length_cons]; simp [evEnc]; omega
def EvOk {H : Type} (e : Ev) (d : DataW H) : Prop := (-9223372036854775808 ≤ e.channel ∧ e.channel ≤ 9223372036854775807) ∧ (-9223372036854775808 ≤ e.n ∧ e.n ≤ 9223372036854775807) ∧ ∃ x y z, d = .agg [x, y, z, .lit (.string e.s.data.toList)]
theorem list4 {α : Type} {l : List α} (h : l.length = 4) : ∃ a b c d, l = [a, b, c, d] := by
  match l, h with
  | [a, b, c, d], _ => exact ⟨a, b, c, d, rfl⟩
theorem decEv {H : Type} {enc : TypeId × Value → H} {w : World} : Dec enc Tryd.prog w 38 evEnc EvOk := by
  intro fuel cs x h
  obtain ⟨ys, n, rfl, rfl, hlen, hl, hf⟩ := DataW.trod_struct Tryd.underlying38 h
  have hC : Tryd.prog.cellsOf 38 = 4 := by kernel_rfl
  rw [hC] at hlen
  have c0 : Tryd.prog.cellsOf 3 = 1 := by kernel_rfl
  have y0 : ys[0]? = some (ys[0]'(by rw [hl]; decide)) := List.getElem?_eq_getElem _
  obtain ⟨a0, h0, g0⟩ := decInt Tryd.underlying3 _ _ _ ((hf 0 _ rfl).trans y0)
  have p0 := drop_part (cs := cs) (o := 0) (K := Tryd.prog.cellsOf 3) (o' := 1) h0 (by rw [c0])
  have y1 : ys[1]? = some (ys[1]'(by rw [hl]; decide)) := List.getElem?_eq_getElem _
  obtain ⟨a1, h1, g1⟩ := decInt Tryd.underlying3 _ _ _ ((hf 1 _ rfl).trans y1)
  have p1 := drop_part (cs := cs) (o := 1) (K := Tryd.prog.cellsOf 3) (o' := 2) h1 (by rw [c0])
  have c2 : Tryd.prog.cellsOf 2 = 1 := by kernel_rfl
  have y2 : ys[2]? = some (ys[2]'(by rw [hl]; decide)) := List.getElem?_eq_getElem _
  obtain ⟨a2, h2, g2⟩ := decInt Tryd.underlying2 _ _ _ ((hf 2 _ rfl).trans y2)
  have p2 := drop_part (cs := cs) (o := 2) (K := Tryd.prog.cellsOf 2) (o' := 3) h2 (by rw [c2])
  have c3 : Tryd.prog.cellsOf 9 = 1 := by kernel_rfl
  have y3 : ys[3]? = some (ys[3]'(by rw [hl]; decide)) := List.getElem?_eq_getElem _
  obtain ⟨a3, h3, g3⟩ := decStr Tryd.underlying9 _ _ _ ((hf 3 _ rfl).trans y3)
  have p3 := drop_part (cs := cs) (o := 3) (K := Tryd.prog.cellsOf 9) (o' := 4) h3 (by rw [c3])
  have pn : cs.drop 4 = [] := List.drop_eq_nil_of_le (by omega)
  have hcs : cs = _ := p0
  rw [p1, p2, p3, pn] at hcs
  have h4 : ys.length = 4 := by rw [hl]; rfl
  obtain ⟨b0, b1, b2, b3, rfl⟩ := list4 h4
  have e3 : b3.1 = .lit (.string a3.data.toList) := g3.2
  refine ⟨⟨a0, a1, a2, a3⟩, hcs, wf_i64 g0.1, wf_i64 g2.1, b0.1, b1.1, b2.1, ?_⟩
  simp only [List.map_cons, List.map_nil, e3]
/-- What '==' says of two events. -/
def eqEv (a b : Ev) : Bool := a.channel == b.channel && (a.kind == b.kind && (a.n == b.n && a.s.toList == b.s.toList))
theorem eqEv_refl (a : Ev) : eqEv a a = true := by simp [eqEv]
theorem eqEv_iff (a b : Ev) : eqEv a b = true ↔ a = b := by
  obtain ⟨a1, a2, a3, a4⟩ := a
  obtain ⟨b1, b2, b3, b4⟩ := b
  simp only [eqEv, Bool.and_eq_true, beq_iff_eq, Ev.mk.injEq]
  constructor
  · rintro ⟨h1, h2, h3, h4⟩
    refine ⟨h1, h2, h3, ?_⟩
    rw [ByteArray.toList_eq, ByteArray.toList_eq] at h4
    exact ByteArray.ext (Array.toList_inj.1 h4)
  · rintro ⟨rfl, rfl, rfl, rfl⟩
    exact ⟨rfl, rfl, rfl, rfl⟩
set_option maxRecDepth 100000 in
theorem ev_eq (a b : Ev) (w : World) : (Op.equalIn 10000 38 (.agg (evCells a)) (.agg (evCells b))).run Tryd.prog w = .ok (eqEv a b) w := by
  have u1 := Tryd.underlying3
  have u2 := Tryd.underlying2
  have u3 := Tryd.underlying9
  have a1 := Tryd.isAgg3
  have a2 := Tryd.isAgg2
  have a3 := Tryd.isAgg9
  have z1 := Tryd.sizeOf3
  have z2 := Tryd.sizeOf2
  have z3 := Tryd.sizeOf9
  have hS : Tryd.prog.underlying 38 = some (.struct (Tryd.prog.fieldsOf 38)) := by kernel_rfl
  have hp : Tryd.prog.stoodInHeld 38 = false := by kernel_rfl
  unfold evCells eqEv
  rw [show (10000 : Nat) = 9999 + 1 from rfl, run_equalIn_agg w 9999 38 _ _ hS hp]
  simp only [Program.fieldsOf, Tryd.underlying38]
  go_simp
  by_cases h1 : a.channel = b.channel <;> by_cases h2 : a.kind = b.kind <;> by_cases h3 : a.n = b.n <;> by_cases h4 : a.s.toList = b.s.toList <;> simp only [h1, h2, h3, h4, if_true, if_false, beq_self_eq_true, beq_eq_false_iff_ne.2, Bool.true_and, Bool.false_and, ne_eq, not_false_eq_true]
/-- Eight of something, by number. -/
def eight {α : Type} (f : Nat → α) : List α := [f 0, f 1, f 2, f 3, f 4, f 5, f 6, f 7]
theorem eight_at {α : Type} (f : Nat → α) (k : Nat) (hk : k < 8) : (eight f)[k]? = some (f k) := by
  match k, hk with
  | 0, _ => rfl
  | 1, _ => rfl
  | 2, _ => rfl
  | 3, _ => rfl
  | 4, _ => rfl
  | 5, _ => rfl
  | 6, _ => rfl
  | 7, _ => rfl
theorem eight_arr {α : Type} (f : Nat → α) (k : Nat) (hk : k < 8) : #[f 0, f 1, f 2, f 3, f 4, f 5, f 6, f 7][k]? = some (f k) := by
  rw [← eight_at f k hk]
  simp [eight]
def arr8 (f : Nat → Value) : Array Value := #[f 0, f 1, f 2, f 3, f 4, f 5, f 6, f 7]
def mv (m : Nat → Nat) (k : Nat) : Value := .int .u64 (m k : Int)
/-- Whether one may see what flows to a channel. -/
def seesB (m : Nat → Nat) (k : Int) (see : Nat) : Bool := decide (0 ≤ k ∧ k < 8) && flowsB (m k.toNat) see
theorem seesB_in (m : Nat → Nat) (k see : Nat) (h : k < 8) : seesB m k see = flowsB (m k) see := by
  unfold seesB
  rw [Int.toNat_natCast, decide_eq_true (by omega), Bool.true_and]
theorem seesB_out (m : Nat → Nat) (k : Int) (see : Nat) (h : k < 0 ∨ 8 ≤ k) : seesB m k see = false := by
  unfold seesB
  rw [decide_eq_false (by omega), Bool.false_and]
theorem gen_wp {P : Program} {c : Code} {Q : Exit → Act → World → Prop} {a : Act} {w : World} (h : ∀ W, w = W → c.wp P Q a W) : c.wp P Q a w := h w rfl
theorem sees_any (m : Nat → Nat) (k : Int) (see : Nat) (w : World) (hm : ∀ i, i < 8 → m i < 18446744073709551616) (hs : see < 18446744073709551616) :
    Calls Tryd.prog 27 #[.agg (arr8 (mv m)), .int .i64 k, .int .u64 (see : Int)] w fun e w' => e = .returned (.bool (seesB m k see)) ∧ w' = w.alloc (.cells (arr8 (mv m)) 25) := by
  by_cases h0 : k < 0
  · rw [seesB_out m k see (.inl h0)]
    go_enter Tryd.func27, Tryd.ntmps27
    go_wp2
    go_ret
    exact ⟨rfl, rfl⟩
  by_cases h1 : 8 ≤ k
  · rw [seesB_out m k see (.inr h1)]
    go_enter Tryd.func27, Tryd.ntmps27
    go_wp2
    go_ret
    exact ⟨rfl, rfl⟩
  obtain ⟨j, rfl⟩ := Int.eq_ofNat_of_zero_le (by omega : 0 ≤ k)
  have hj : j < 8 := by omega
  rw [seesB_in m j see hj]
  have hf := fun w => flows_any (m j) see w (hm j hj) hs
  have hc : (w.alloc (.cells (arr8 (mv m)) 25)).cell? ⟨w.heap.size, j, none⟩ = some (.int .u64 (m j : Int)) := cell_of_blk (heap_alloc_new _ _) (eight_arr (mv m) j hj)
  have hc2 : (arr8 (mv m))[j]? = some (.int .u64 (m j : Int)) := eight_arr (mv m) j hj
  clear hm
  go_enter Tryd.func27, Tryd.ntmps27
  go_wp2_with fail
  refine (hf _).mono ?_
  rintro e w' ⟨rfl, rfl⟩
  go_wp2
  go_ret
  exact ⟨rfl, rfl⟩
end Go.Proofs.YthgcadikinfdiaaDoor
