/-
  The contracts of the labels' functions, the program's and the reference's: joins, and whether one flows to another, as operations on the bits of natural numbers.
-/
import Derived.Test.YtohllalninoomaaDoorMem
set_option linter.unusedVariables false
set_option linter.unusedSimpArgs false
namespace Go.Proofs.YtohllalninoomaaDoor
open Go.ChangeShapes Go.WideShapes Go.ChangeAt Go.RowKit

theorem and_one_test (l p : Nat) (hl : l < 18446744073709551616) : (bits BinOp.and IntKind.u64 ((l : Int) / 2 ^ p) 1 == 1) = l.testBit p := by
  have e1 : ((l : Int) / 2 ^ p) = ((l / 2 ^ p : Nat) : Int) := by simp
  have e2 : (1 : Int) = ((1 : Nat) : Int) := rfl
  have hlt : l / 2 ^ p < 18446744073709551616 := Nat.lt_of_le_of_lt (Nat.div_le_self _ _) hl
  rw [e1, e2, u64_and_nat _ _ hlt (by decide), Nat.and_one_is_mod, Nat.testBit_eq_decide_div_mod_eq]
  rw [Bool.eq_iff_iff]
  simp
  omega

def flowsB (a b : Nat) : Bool := a &&& b == a

theorem bit_lt {a i : Nat} (ha : a < 18446744073709551616) (h : a.testBit i = true) : i < 64 := by
  rcases Nat.lt_or_ge i 64 with h1 | h1
  · exact h1
  · have h2 : (2 : Nat) ^ 64 ≤ 2 ^ i := Nat.pow_le_pow_right (by omega) h1
    rw [Nat.testBit_lt_two_pow (Nat.lt_of_lt_of_le ha h2)] at h
    cases h

theorem flowsB_iff (a b : Nat) : flowsB a b = true ↔ ∀ i, a.testBit i = true → b.testBit i = true := by
  unfold flowsB
  rw [beq_iff_eq]
  constructor
  · intro h i hi
    have h1 := congrArg (fun x => x.testBit i) h
    simpa [Nat.testBit_and, hi] using h1
  · intro h
    apply Nat.eq_of_testBit_eq
    intro i
    rw [Nat.testBit_and]
    cases hi : a.testBit i
    · rfl
    · simp [h i hi]

theorem flowsB_false (a b : Nat) (i : Nat) (h1 : a.testBit i = true) (h2 : b.testBit i = false) : flowsB a b = false := by
  cases h : flowsB a b
  · rfl
  · rw [(flowsB_iff a b).1 h i h1] at h2
    cases h2

theorem andNot_flows (a b : Nat) (ha : a < 18446744073709551616) (hb : b < 18446744073709551616) : (bits BinOp.andNot IntKind.u64 (a : Int) (b : Int) == 0) = flowsB a b := by
  rw [u64_andNot_nat a b ha hb, Bool.eq_iff_iff, flowsB_iff]
  simp only [beq_iff_eq, Int.natCast_eq_zero]
  have key : ∀ i, (18446744073709551615 - b).testBit i = (decide (i < 64) && !b.testBit i) := by
    intro i
    have := Nat.testBit_two_pow_sub_succ (x := b) (n := 64) hb i
    rw [show 2 ^ 64 - (b + 1) = 18446744073709551615 - b from by omega] at this
    exact this
  constructor
  · intro h i hi
    have h1 := congrArg (fun x => x.testBit i) h
    simpa [Nat.testBit_and, key, bit_lt ha hi, hi] using h1
  · intro h
    apply Nat.eq_of_testBit_eq
    intro i
    rw [Nat.testBit_and, key, Nat.zero_testBit]
    cases h2 : a.testBit i
    · rfl
    · simp [h i h2]

theorem flows_any (a b : Nat) (w : World) (ha : a < 18446744073709551616) (hb : b < 18446744073709551616) :
    Calls Tryd.prog 28 #[.int .u64 a, .int .u64 b] w (Ret (.bool (flowsB a b)) w) := by
  go_enter Tryd.func28, Tryd.ntmps28
  go_wp2
  go_ret
  exact ⟨ret_bool (andNot_flows a b ha hb), rfl⟩

def upTo (f k : Nat) : Nat := f % 2 ^ k
theorem upTo_zero (f : Nat) : upTo f 0 = 0 := by simp [upTo, Nat.mod_one]
theorem upTo_all {f : Nat} (hf : f < 18446744073709551616) : upTo f 64 = f := Nat.mod_eq_of_lt hf
theorem upTo_no {f k : Nat} (h : f.testBit k = false) : upTo f (k + 1) = upTo f k := by
  unfold upTo
  apply Nat.eq_of_testBit_eq
  intro i
  simp only [Nat.testBit_mod_two_pow]
  by_cases e : i = k
  · subst e; simp [h]
  · rw [show decide (i < k + 1) = decide (i < k) from by simp; omega]
theorem upTo_yes {f k : Nat} (h : f.testBit k = true) : upTo f (k + 1) = upTo f k ||| 2 ^ k := by
  unfold upTo
  apply Nat.eq_of_testBit_eq
  intro i
  simp only [Nat.testBit_mod_two_pow, Nat.testBit_or, Nat.testBit_two_pow]
  by_cases e : i = k
  · subst e; simp [h]
  · rw [show decide (i < k + 1) = decide (i < k) from by simp; omega, show decide (k = i) = false from by simp; omega, Bool.or_false]
theorem pow_lt64 {k : Nat} (hk : k < 64) : 2 ^ k < 18446744073709551616 := (Nat.pow_lt_pow_right (a := 2) (by omega) hk)
theorem upTo_lt {f k : Nat} (hk : k < 64) : upTo f k < 18446744073709551616 := Nat.lt_trans (Nat.mod_lt _ (Nat.two_pow_pos _)) (pow_lt64 hk)
theorem upTo_step {f k : Nat} (hk : k < 64) (h : f.testBit k = true) : bits BinOp.or IntKind.u64 (upTo f k : Int) (IntKind.u64.wrap (2 ^ k)) = (upTo f (k + 1) : Int) := by
  have e : IntKind.u64.wrap ((2 : Int) ^ k) = ((2 ^ k : Nat) : Int) := by
    rw [IntKind.wrap_u64, show ((2 : Int) ^ k) = ((2 ^ k : Nat) : Int) from by simp]
    have := pow_lt64 hk
    generalize 2 ^ k = m at this
    omega
  rw [e, u64_or_nat _ _ (upTo_lt hk) (pow_lt64 hk), upTo_yes h]

def joinL (l : List Nat) : Nat := l.foldl (· ||| ·) 0
theorem joinL_snoc (l : List Nat) (k : Nat) (h : k < l.length) : joinL (l.take (k + 1)) = joinL (l.take k) ||| l[k] := by
  unfold joinL
  rw [List.take_succ_eq_append_getElem h, List.foldl_append]
  rfl
theorem joinL_lt (l : List Nat) (h : ∀ x ∈ l, x < 18446744073709551616) : joinL l < 18446744073709551616 := by
  have key : ∀ (l : List Nat) (a : Nat), a < 18446744073709551616 → (∀ x ∈ l, x < 18446744073709551616) → l.foldl (· ||| ·) a < 18446744073709551616 := by
    intro l
    induction l with
    | nil => intro a ha _; exact ha
    | cons x l ih => intro a ha hl; exact ih _ (Nat.or_lt_two_pow (n := 64) ha (hl x (by simp))) (fun y hy => hl y (by simp [hy]))
  exact key l 0 (by decide) h

theorem joinv_any (l : List Nat) (A : Option Addr) (c B : Nat) (w : World) (hl : ∀ x ∈ l, x < 18446744073709551616) (hn : l.length ≤ 9223372036854775807)
    (hr : Reads w B A (l.map fun x : Nat => Value.int .u64 (x : Int))) :
    Calls Tryd.prog 29 #[.slice A l.length c] w (Ret (.int .u64 (joinL l : Int)) w) := by
  go_enter Tryd.func29, Tryd.ntmps29
  go_wp2
  go_loop [3, 8] (fun t i => ∃ k : Nat, k ≤ l.length ∧ i = .int .i64 k ∧ t = .int .u64 (joinL (l.take k) : Int)) (fun _ i => l.length - (intOf i).toNat)
  case atStart => exact ⟨0, by omega, rfl, rfl⟩
  case round =>
    obtain ⟨k, hk, rfl, rfl⟩ := hrel
    by_cases hlt : k < l.length
    · rcases hr with h0 | ⟨ad, rfl, hb, hc⟩
      · simp at h0; subst h0; simp at hlt
      · have hc' := hc k (.int .u64 (l[k] : Int)) (by simp [hlt])
        have hj := joinL_snoc l k hlt
        have h1 : joinL (l.take k) < 18446744073709551616 := joinL_lt _ fun x hx => hl x (List.mem_of_mem_take hx)
        have h2 : l[k] < 18446744073709551616 := hl _ (List.getElem_mem hlt)
        have HJ := Lib.hid hj
        clear hj
        go_wp2
        go_round
        case rel => exact ⟨k + 1, by omega, by go_num, by rw [HJ.out, u64_or_nat _ _ h1 h2]⟩
        case measure => simp [intOf]; omega
    · obtain rfl : k = l.length := by omega
      go_wp2
      go_ret
      exact ⟨rfl, rfl⟩

/-- The variadic join of two: the caller has laid both into a block of its own. -/
theorem join2_any (a b n c : Nat) (t : TypeId) (w : World) (ha : a < 18446744073709551616) (hb : b < 18446744073709551616) (h : w.heap[n]? = some (.cells #[.int .u64 (a : Int), .int .u64 (b : Int)] t (0, 0))) :
    Calls Tryd.prog 29 #[.slice (some ⟨n, 0, none⟩) 2 c] w (Ret (.int .u64 ((a ||| b : Nat) : Int)) w) := by
  have e : joinL [a, b] = a ||| b := by simp [joinL]
  rw [← e]
  refine joinv_any [a, b] (some ⟨n, 0, none⟩) c w.heap.size w (by simp [ha, hb]) (by simp) (.inr ⟨_, rfl, blk_lt h, ?_⟩)
  exact World.news_of_block h
end Go.Proofs.YtohllalninoomaaDoor
