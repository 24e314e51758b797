/-
  How the calls that a guard's law is given lie in memory.
-/
import Derived.Test.YtkdoohmchdpjoaaGuardAwake
set_option linter.unusedVariables false
set_option linter.unusedSimpArgs false
namespace Go.Proofs.Ytkdoohmchdpjoaa
open Go.ChangeShapes Go.WideShapes Go.ChangeAt Go.RowKit

structure GAct where
  act : Int
  L : Nat
  place : Int
  tag : Int
def gaEnc (a : GAct) : List Value := [.int .i64 a.act, .int .u64 (a.L : Int), .int .i64 a.place, .int .i64 a.tag]
def GaOk {H : Type} (a : GAct) (d : DataW H) : Prop := a.L < 18446744073709551616

theorem decGAct {H : Type} {enc : TypeId × Value → H} {w : World} : Dec enc Try.prog w 26 gaEnc GaOk := by
  intro fuel cs x h
  obtain ⟨ys, n, rfl, rfl, hlen, hl, hf⟩ := DataW.trod_struct Try.underlying26 h
  have hC : Try.prog.cellsOf 26 = 4 := by kernel_rfl
  rw [hC] at hlen
  have c0 : Try.prog.cellsOf 3 = 1 := by kernel_rfl
  have y0 : ys[0]? = some (ys[0]'(by rw [hl]; decide)) := List.getElem?_eq_getElem _
  obtain ⟨a0, h0, g0⟩ := decInt Try.underlying3 _ _ _ ((hf 0 _ rfl).trans y0)
  have p0 := drop_part (cs := cs) (o := 0) (K := Try.prog.cellsOf 3) (o' := 1) h0 (by rw [c0])
  have c1 : Try.prog.cellsOf 23 = 1 := by kernel_rfl
  have y1 : ys[1]? = some (ys[1]'(by rw [hl]; decide)) := List.getElem?_eq_getElem _
  obtain ⟨a1, h1, g1⟩ := decNat Try.underlying23 _ _ _ ((hf 1 _ rfl).trans y1)
  have p1 := drop_part (cs := cs) (o := 1) (K := Try.prog.cellsOf 23) (o' := 2) h1 (by rw [c1])
  have c2 : Try.prog.cellsOf 3 = 1 := by kernel_rfl
  have y2 : ys[2]? = some (ys[2]'(by rw [hl]; decide)) := List.getElem?_eq_getElem _
  obtain ⟨a2, h2, g2⟩ := decInt Try.underlying3 _ _ _ ((hf 2 _ rfl).trans y2)
  have p2 := drop_part (cs := cs) (o := 2) (K := Try.prog.cellsOf 3) (o' := 3) h2 (by rw [c2])
  have c3 : Try.prog.cellsOf 3 = 1 := by kernel_rfl
  have y3 : ys[3]? = some (ys[3]'(by rw [hl]; decide)) := List.getElem?_eq_getElem _
  obtain ⟨a3, h3, g3⟩ := decInt Try.underlying3 _ _ _ ((hf 3 _ rfl).trans y3)
  have p3 := drop_part (cs := cs) (o := 3) (K := Try.prog.cellsOf 3) (o' := 4) h3 (by rw [c3])
  have pn : cs.drop 4 = [] := List.drop_eq_nil_of_le (by omega)
  have hcs : cs = _ := p0
  rw [p1, p2, p3, pn] at hcs
  refine ⟨⟨a0, a1, a2, a3⟩, hcs, ?_⟩
  exact g1.1

/-- What an invariant of labels asks of a guard: it holds of its label and of each label ahead of a region. -/
def AllG (Q : Nat → Prop) (R : List Reg) (pc : Nat) : Prop := Q pc ∧ ∀ r ∈ R, Q r.was
theorem AllG.push {Q : Nat → Prop} {R : List Reg} {pc : Nat} (h : AllG Q R pc) (j tag : Int) (pc' : Nat) (h' : Q pc') : AllG Q (pushR R j tag pc) pc' := by
  refine ⟨h', fun r hr => ?_⟩
  unfold pushR at hr
  split at hr
  · rcases List.mem_append.1 hr with h1 | h1
    · exact h.2 r h1
    · obtain rfl := List.mem_singleton.1 h1
      exact h.1
  · exact h.2 r hr
theorem push_length (R : List Reg) (j tag : Int) (pc : Nat) : (pushR R j tag pc).length ≤ R.length + 1 := by
  unfold pushR
  split <;> simp
theorem push_pos (R : List Reg) (j tag : Int) (pc : Nat) : 0 < (pushR R j tag pc).length := by
  unfold pushR opens
  cases R <;> (split <;> simp_all)
theorem popS_all {Q : Nat → Prop} (p : Int) : ∀ (S : List Reg) (pc : Nat), Q pc → (∀ r ∈ S, Q r.was) → Q (popS p S pc).2.1 ∧ (∀ r ∈ (popS p S pc).1, Q r.was) ∧ (popS p S pc).1.length ≤ S.length
  | [], pc, h, _ => ⟨h, fun r hr => by simp [popS] at hr, by simp [popS]⟩
  | r :: S, pc, h, hS => by
    unfold popS
    split
    · obtain ⟨h1, h2, h3⟩ := popS_all p S r.was (hS r (by simp)) (fun x hx => hS x (by simp [hx]))
      exact ⟨h1, h2, by simp; omega⟩
    · exact ⟨h, hS, Nat.le_refl _⟩
theorem AllG.at {Q : Nat → Prop} {R : List Reg} {pc : Nat} (h : AllG Q R pc) (p : Int) : AllG Q (atS p R.reverse pc).1.reverse (atS p R.reverse pc).2.1 ∧ (atS p R.reverse pc).1.reverse.length ≤ R.length := by
  unfold atS
  split
  · simp only [List.reverse_reverse]
    exact ⟨h, Nat.le_refl _⟩
  · obtain ⟨h1, h2, h3⟩ := popS_all p R.reverse pc h.1 (fun r hr => h.2 r (by simpa using hr))
    exact ⟨⟨h1, fun r hr => h2 r (by simpa using hr)⟩, by simpa using h3⟩
theorem flowsB_or {o a : Nat} (b : Nat) (h : flowsB o a = true) : flowsB o (a ||| b) = true := by
  rw [flowsB_iff] at h ⊢
  intro i hi
  rw [Nat.testBit_or, h i hi, Bool.true_or]
theorem flowsB_self (a : Nat) : flowsB a a = true := (flowsB_iff a a).2 fun _ h => h
end Go.Proofs.Ytkdoohmchdpjoaa
