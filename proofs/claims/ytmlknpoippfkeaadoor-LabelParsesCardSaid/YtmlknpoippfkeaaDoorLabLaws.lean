/-
  Chapter 1's statements: the walks.
-/
import Derived.Test.YtmlknpoippfkeaaDoorLabParse
set_option linter.unusedVariables false
set_option linter.unusedSimpArgs false
namespace Go.Proofs.YtmlknpoippfkeaaDoor
open Go.ChangeShapes Go.WideShapes Go.ChangeAt Go.RowKit Go.Shelf

theorem show9 : showB 9 = [123, 48, 44, 51, 125] := by decide +kernel
theorem aw_parse (w : World) (hw : LabW w) : Calls Tryd.prog 14 #[.string ⟨#[123, 48, 44, 51, 125]⟩] w (RetB (.tuple #[.int .u64 9, .bool true]) w) := by
  have h := parse_any ⟨#[123, 48, 44, 51, 125]⟩ w (by decide) hw
  have e : parseP (⟨#[123, 48, 44, 51, 125]⟩ : ByteArray).data.toList = some 9 := by
    have h1 := parseP_show (l := 9) (by decide)
    rw [show9] at h1
    exact h1
  rw [e] at h
  exact h
theorem aw_show (w : World) (hT : Tab64 w) : Calls Tryd.prog 13 #[.int .u64 9] w (RetB (.string ⟨#[123, 48, 44, 51, 125]⟩) w) := by
  have h := show_any 9 (by decide) w hT
  have e : showS 9 = ⟨#[123, 48, 44, 51, 125]⟩ := by unfold showS; rw [show9]
  rw [e] at h
  exact h
theorem aw_join (n c : Nat) (t : TypeId) (w : World) (h : w.heap[n]? = some (.cells #[.int .u64 1, .int .u64 8] t (0, 0))) : Calls Tryd.prog 18 #[.slice (some ⟨n, 0, none⟩) 2 c] w (Ret (.int .u64 9) w) :=
  join2_any 1 8 n c t w (by decide) (by decide) h
theorem aw_flows (w : World) : Calls Tryd.prog 11 #[.int .u64 1, .int .u64 9] w (Ret (.bool true) w) := flows_any 1 9 w (by decide) (by decide)
theorem aw_noflows (w : World) : Calls Tryd.prog 11 #[.int .u64 9, .int .u64 1] w (Ret (.bool false) w) := flows_any 9 1 w (by decide) (by decide)
set_option maxRecDepth 100000 in
set_option maxHeartbeats 2000000 in
theorem awake01 (w : World) (hw : LabW w) : Calls Tryd.prog 10 #[] w (RetB (.bool true) w) := by
  have HW := Lib.hid hw
  clear hw
  go_enter Tryd.func10, Tryd.ntmps10
  go_wp2_with fail
  refine (aw_parse _ HW.out).mono ?_
  rintro e w1 ⟨rfl, hb1⟩
  have HB1 := Lib.hid hb1
  have HW1 := Lib.hid (HW.out.below hb1)
  clear hb1
  go_wp2_with fail
  refine (aw_join _ _ _ _ (heap_alloc_new _ _)).mono ?_
  rintro e w' ⟨rfl, rfl⟩
  have HB2 : Hid (Below w.heap.size w (w1.alloc (.cells #[.int .u64 1, .int .u64 8] 23))) := Lib.hid (HB1.out.alloc HB1.out.size _)
  have HT := Lib.hid (HW1.out.tab.below (((Below.refl _ _).alloc (Nat.le_refl _) (.cells #[.int .u64 1, .int .u64 8] 23))))
  go_wp2_with fail
  refine (aw_show _ HT.out).mono ?_
  rintro e w2 ⟨rfl, hb2⟩
  have HB3 := Lib.hid (HB2.out.trans (hb2.mono HB2.out.size))
  clear hb2
  go_wp2_with fail
  refine (aw_flows _).mono ?_
  rintro e w' ⟨rfl, rfl⟩
  go_wp2_with fail
  refine (aw_noflows _).mono ?_
  rintro e w' ⟨rfl, rfl⟩
  go_wp2
  go_ret
  exact ⟨rfl, HB3.out⟩

theorem lflows_walk (a b : Nat) (w : World) (hw : LabW w) (ha : a < 18446744073709551616) (hb : b < 18446744073709551616) :
    Calls Tryd.prog 3 #[.int .u64 (a : Int), .int .u64 (b : Int)] w (RetB (.bool true) w) := by
  have h1 := fun w => flows_any a b w ha hb
  have h2 := fun w => rflows_any a b w ha hb
  cases flowsB a b
  all_goals
    go_enter Tryd.func3, Tryd.ntmps3
    go_wp2_with fail
    refine (awake01 _ hw).mono ?_
    rintro e w1 ⟨rfl, hb1⟩
    go_wp2_with fail
    refine (h1 _).mono ?_
    rintro e w' ⟨rfl, rfl⟩
    go_wp2_with fail
    refine (h2 _).mono ?_
    rintro e w' ⟨rfl, rfl⟩
    go_wp2
    go_ret
    exact ⟨rfl, hb1⟩
theorem or_eq (a b : Nat) : (a ||| b == b) = flowsB a b := by
  rw [Bool.eq_iff_iff, beq_iff_eq, flowsB_iff]
  constructor
  · intro h i hi
    rw [← h, Nat.testBit_or, hi, Bool.true_or]
  · intro h
    apply Nat.eq_of_testBit_eq
    intro i
    rw [Nat.testBit_or]
    cases hi : a.testBit i
    · simp
    · simp [h i hi]
theorem int_beq {a b : Nat} {c : Bool} (h : (a == b) = c) : ((a : Int) == (b : Int)) = c := by
  rw [← h, Bool.eq_iff_iff, beq_iff_eq, beq_iff_eq]
  omega
set_option maxHeartbeats 1000000 in
theorem llattice_walk (a b : Nat) (w : World) (hw : LabW w) (ha : a < 18446744073709551616) (hb : b < 18446744073709551616) :
    Calls Tryd.prog 7 #[.int .u64 (a : Int), .int .u64 (b : Int)] w (RetB (.bool true) w) := by
  have h1 := fun w => flows_any a b w ha hb
  have h2 := fun n c t w h => join2_any a b n c t w ha hb h
  have h3 := fun w => meet_any a b w ha hb
  have e1 := int_beq (or_eq a b)
  have e2 := int_beq (show (a &&& b == a) = flowsB a b from rfl)
  generalize a ||| b = j at h2 e1
  generalize a &&& b = m at h3 e2
  cases hf : flowsB a b
  all_goals
    rw [hf] at h1 e1 e2
    clear hf
    go_enter Tryd.func7, Tryd.ntmps7
    go_wp2_with fail
    refine (awake01 _ hw).mono ?_
    rintro e w1 ⟨rfl, hb1⟩
    go_wp2_with fail
    refine (h1 _).mono ?_
    rintro e w' ⟨rfl, rfl⟩
    go_wp2_with fail
    refine (h2 _ _ _ _ (heap_alloc_new _ _)).mono ?_
    rintro e w' ⟨rfl, rfl⟩
    go_wp2_with fail
    refine (h3 _).mono ?_
    rintro e w' ⟨rfl, rfl⟩
    go_wp2
    go_ret
    exact ⟨by first | rfl | simp [e1, e2], hb1.alloc hb1.size _⟩
theorem flows_or_l (a b : Nat) : flowsB a (a ||| b) = true := (flowsB_iff _ _).2 fun i h => by rw [Nat.testBit_or, h, Bool.true_or]
theorem flows_or_r (a b : Nat) : flowsB b (a ||| b) = true := (flowsB_iff _ _).2 fun i h => by rw [Nat.testBit_or, h, Bool.or_true]
theorem flows_and_l (a b : Nat) : flowsB (a &&& b) a = true := (flowsB_iff _ _).2 fun i h => by rw [Nat.testBit_and, Bool.and_eq_true] at h; exact h.1
theorem flows_and_r (a b : Nat) : flowsB (a &&& b) b = true := (flowsB_iff _ _).2 fun i h => by rw [Nat.testBit_and, Bool.and_eq_true] at h; exact h.2
theorem flows_join (a b c : Nat) : flowsB (a ||| b) c = (flowsB a c && flowsB b c) := by
  rw [Bool.eq_iff_iff, Bool.and_eq_true, flowsB_iff, flowsB_iff, flowsB_iff]
  constructor
  · intro h
    exact ⟨fun i hi => h i (by rw [Nat.testBit_or, hi, Bool.true_or]), fun i hi => h i (by rw [Nat.testBit_or, hi, Bool.or_true])⟩
  · rintro ⟨h1, h2⟩ i hi
    rw [Nat.testBit_or, Bool.or_eq_true] at hi
    exact hi.elim (h1 i) (h2 i)
theorem flows_meet (a b c : Nat) : flowsB c (a &&& b) = (flowsB c a && flowsB c b) := by
  rw [Bool.eq_iff_iff, Bool.and_eq_true, flowsB_iff, flowsB_iff, flowsB_iff]
  constructor
  · intro h
    refine ⟨fun i hi => ?_, fun i hi => ?_⟩
    · have := h i hi; rw [Nat.testBit_and, Bool.and_eq_true] at this; exact this.1
    · have := h i hi; rw [Nat.testBit_and, Bool.and_eq_true] at this; exact this.2
  · rintro ⟨h1, h2⟩ i hi
    rw [Nat.testBit_and, h1 i hi, h2 i hi]
    rfl
theorem flows_tell {a b : Nat} {r : Bool} (ha : a < 18446744073709551616) (hb : b < 18446744073709551616) (h : flowsB a b = r) (w : World) : Calls Tryd.prog 11 #[.int .u64 (a : Int), .int .u64 (b : Int)] w (Ret (.bool r) w) := by
  rw [← h]
  exact flows_any a b w ha hb
set_option maxRecDepth 100000 in
set_option maxHeartbeats 4000000 in
theorem lleast_walk (a b c : Nat) (w : World) (hw : LabW w) (ha : a < 18446744073709551616) (hb : b < 18446744073709551616) (hc : c < 18446744073709551616) :
    Calls Tryd.prog 8 #[.int .u64 (a : Int), .int .u64 (b : Int), .int .u64 (c : Int)] w (RetB (.bool true) w) := by
  have hj := Nat.or_lt_two_pow (n := 64) ha hb
  have hm := Nat.and_lt_two_pow (n := 64) a hb
  have h2 := fun n c t w h => join2_any a b n c t w ha hb h
  have h3 := fun w => meet_any a b w ha hb
  have f1 := flows_tell ha hj (flows_or_l a b)
  have f2 := flows_tell hb hj (flows_or_r a b)
  have f3 := flows_tell hm ha (flows_and_l a b)
  have f4 := flows_tell hm hb (flows_and_r a b)
  have f5 := flows_tell hj hc (flows_join a b c)
  have f6 := flows_tell hc hm (flows_meet a b c)
  generalize a ||| b = j at *
  generalize a &&& b = m at *
  cases g1 : flowsB a c <;> cases g2 : flowsB b c <;> cases g3 : flowsB c a <;> cases g4 : flowsB c b
  all_goals
    have k1 := flows_tell ha hc g1
    have k2 := flows_tell hb hc g2
    have k3 := flows_tell hc ha g3
    have k4 := flows_tell hc hb g4
    rw [g1, g2] at f5
    rw [g3, g4] at f6
    clear g1 g2 g3 g4 hj hm ha hb hc
    go_enter Tryd.func8, Tryd.ntmps8
    go_wp2_with fail
    refine (awake01 _ hw).mono ?_
    rintro e w1 ⟨rfl, hb1⟩
    go_wp2_with fail
    refine (h2 _ _ _ _ (heap_alloc_new _ _)).mono ?_
    rintro e w' ⟨rfl, rfl⟩
    go_wp2_with fail
    refine (h3 _).mono ?_
    rintro e w' ⟨rfl, rfl⟩
    go_wp2_with fail
    refine (f1 _).mono ?_
    rintro e w' ⟨rfl, rfl⟩
    go_wp2_with fail
    refine (f2 _).mono ?_
    rintro e w' ⟨rfl, rfl⟩
    go_wp2_with fail
    refine (f3 _).mono ?_
    rintro e w' ⟨rfl, rfl⟩
    go_wp2_with fail
    refine (f4 _).mono ?_
    rintro e w' ⟨rfl, rfl⟩
    go_wp2_with fail
    refine (f5 _).mono ?_
    rintro e w' ⟨rfl, rfl⟩
    go_wp2_with (go_at_call 11; first
      | ((with_reducible refine (k1 _).mono ?_); rintro e w' ⟨rfl, rfl⟩)
      | ((with_reducible refine (k2 _).mono ?_); rintro e w' ⟨rfl, rfl⟩)
      | ((with_reducible refine (f6 _).mono ?_); rintro e w' ⟨rfl, rfl⟩)
      | ((with_reducible refine (k3 _).mono ?_); rintro e w' ⟨rfl, rfl⟩)
      | ((with_reducible refine (k4 _).mono ?_); rintro e w' ⟨rfl, rfl⟩))
    go_ret
    exact ⟨rfl, hb1.alloc hb1.size _⟩
end Go.Proofs.YtmlknpoippfkeaaDoor
