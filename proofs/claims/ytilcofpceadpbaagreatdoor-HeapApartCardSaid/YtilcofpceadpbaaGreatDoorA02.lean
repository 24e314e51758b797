/-
  HeapApart: part 2 of what the claim rests on.
-/
import Derived.Test.YtilcofpceadpbaaGreatDoorA01
import Derived.Deep.QuietTactic
import Derived.BigQuiet
import Derived.Deep.RegionHeld3
import Derived.Deep.DrawnRows
import Derived.Laws.StructEq
set_option linter.unusedVariables false
set_option linter.unusedSimpArgs false
set_option maxHeartbeats 64000000
namespace Go.Proofs.YtilcofpceadpbaaGreatDoor
open Go.ChangeShapes Go.WideShapes Go.ChangeAt Go.RowKit


theorem and_one_test (l p : Nat) (hl : l < 18446744073709551616) : (bits BinOp.and IntKind.u64 ((l : Int) / 2 ^ p) 1 == 1) = l.testBit p := by
  have e1 : ((l : Int) / 2 ^ p) = ((l / 2 ^ p : Nat) : Int) := by simp
  have e2 : (1 : Int) = ((1 : Nat) : Int) := rfl
  have hlt : l / 2 ^ p < 18446744073709551616 := Nat.lt_of_le_of_lt (Nat.div_le_self _ _) hl
  rw [e1, e2, u64_and_nat _ _ hlt (by decide), Nat.and_one_is_mod, Nat.testBit_eq_decide_div_mod_eq]
  rw [Bool.eq_iff_iff]
  simp
  omega

def flowsB (a b : Nat) : Bool := a &&& b == a

theorem bit_lt {a i : Nat} (ha : a < 18446744073709551616) (h : a.testBit i = true) : i < 64 := by
  rcases Nat.lt_or_ge i 64 with h1 | h1
  · exact h1
  · have h2 : (2 : Nat) ^ 64 ≤ 2 ^ i := Nat.pow_le_pow_right (by omega) h1
    rw [Nat.testBit_lt_two_pow (Nat.lt_of_lt_of_le ha h2)] at h
    cases h

theorem flowsB_iff (a b : Nat) : flowsB a b = true ↔ ∀ i, a.testBit i = true → b.testBit i = true := by
  unfold flowsB
  rw [beq_iff_eq]
  constructor
  · intro h i hi
    have h1 := congrArg (fun x => x.testBit i) h
    simpa [Nat.testBit_and, hi] using h1
  · intro h
    apply Nat.eq_of_testBit_eq
    intro i
    rw [Nat.testBit_and]
    cases hi : a.testBit i
    · rfl
    · simp [h i hi]

theorem flowsB_false (a b : Nat) (i : Nat) (h1 : a.testBit i = true) (h2 : b.testBit i = false) : flowsB a b = false := by
  cases h : flowsB a b
  · rfl
  · rw [(flowsB_iff a b).1 h i h1] at h2
    cases h2

theorem andNot_flows (a b : Nat) (ha : a < 18446744073709551616) (hb : b < 18446744073709551616) : (bits BinOp.andNot IntKind.u64 (a : Int) (b : Int) == 0) = flowsB a b := by
  rw [u64_andNot_nat a b ha hb, Bool.eq_iff_iff, flowsB_iff]
  simp only [beq_iff_eq, Int.natCast_eq_zero]
  have key : ∀ i, (18446744073709551615 - b).testBit i = (decide (i < 64) && !b.testBit i) := by
    intro i
    have := Nat.testBit_two_pow_sub_succ (x := b) (n := 64) hb i
    rw [show 2 ^ 64 - (b + 1) = 18446744073709551615 - b from by omega] at this
    exact this
  constructor
  · intro h i hi
    have h1 := congrArg (fun x => x.testBit i) h
    simpa [Nat.testBit_and, key, bit_lt ha hi, hi] using h1
  · intro h
    apply Nat.eq_of_testBit_eq
    intro i
    rw [Nat.testBit_and, key, Nat.zero_testBit]
    cases h2 : a.testBit i
    · rfl
    · simp [h i h2]

theorem has_in (l p : Nat) (w : World) (hl : l < 18446744073709551616) (hp : p < 64) :
    Calls Tryz.prog 102 #[.int .u64 l, .int .i64 p] w (Ret (.bool (l.testBit p)) w) := by
  go_enter Tryz.func102, Tryz.ntmps102
  go_wp2
  go_ret
  exact ⟨ret_bool (and_one_test l p hl), rfl⟩

theorem flows_any (a b : Nat) (w : World) (ha : a < 18446744073709551616) (hb : b < 18446744073709551616) :
    Calls Tryz.prog 43 #[.int .u64 a, .int .u64 b] w (Ret (.bool (flowsB a b)) w) := by
  go_enter Tryz.func43, Tryz.ntmps43
  go_wp2
  go_ret
  exact ⟨ret_bool (andNot_flows a b ha hb), rfl⟩

def upTo (f k : Nat) : Nat := f % 2 ^ k
theorem upTo_zero (f : Nat) : upTo f 0 = 0 := by simp [upTo, Nat.mod_one]
theorem upTo_all {f : Nat} (hf : f < 18446744073709551616) : upTo f 64 = f := Nat.mod_eq_of_lt hf
theorem upTo_no {f k : Nat} (h : f.testBit k = false) : upTo f (k + 1) = upTo f k := by
  unfold upTo
  apply Nat.eq_of_testBit_eq
  intro i
  simp only [Nat.testBit_mod_two_pow]
  by_cases e : i = k
  · subst e; simp [h]
  · rw [show decide (i < k + 1) = decide (i < k) from by simp; omega]
theorem upTo_yes {f k : Nat} (h : f.testBit k = true) : upTo f (k + 1) = upTo f k ||| 2 ^ k := by
  unfold upTo
  apply Nat.eq_of_testBit_eq
  intro i
  simp only [Nat.testBit_mod_two_pow, Nat.testBit_or, Nat.testBit_two_pow]
  by_cases e : i = k
  · subst e; simp [h]
  · rw [show decide (i < k + 1) = decide (i < k) from by simp; omega, show decide (k = i) = false from by simp; omega, Bool.or_false]
theorem pow_lt64 {k : Nat} (hk : k < 64) : 2 ^ k < 18446744073709551616 := (Nat.pow_lt_pow_right (a := 2) (by omega) hk)
theorem upTo_lt {f k : Nat} (hk : k < 64) : upTo f k < 18446744073709551616 := Nat.lt_trans (Nat.mod_lt _ (Nat.two_pow_pos _)) (pow_lt64 hk)
theorem upTo_step {f k : Nat} (hk : k < 64) (h : f.testBit k = true) : bits BinOp.or IntKind.u64 (upTo f k : Int) (IntKind.u64.wrap (2 ^ k)) = (upTo f (k + 1) : Int) := by
  have e : IntKind.u64.wrap ((2 : Int) ^ k) = ((2 ^ k : Nat) : Int) := by
    rw [IntKind.wrap_u64, show ((2 : Int) ^ k) = ((2 ^ k : Nat) : Int) from by simp]
    have := pow_lt64 hk
    generalize 2 ^ k = m at this
    omega
  rw [e, u64_or_nat _ _ (upTo_lt hk) (pow_lt64 hk), upTo_yes h]

theorem made_or (a b : Nat) (w : World) (ha : a < 18446744073709551616) (hb : b < 18446744073709551616) :
    Calls Tryz.prog 119 #[.int .u64 a, .int .u64 b, .bool false] w (Ret (.int .u64 ((a ||| b : Nat) : Int)) w) := by
  go_enter Tryz.func119, Tryz.ntmps119
  go_wp2
  go_loop [7, 8] (fun t p => ∃ k : Nat, k ≤ 64 ∧ p = .int .i64 k ∧ t = .int .u64 (upTo (a ||| b) k : Int)) (fun _ p => 64 - (intOf p).toNat)
  case atStart => exact ⟨0, by omega, rfl, by rw [upTo_zero]; rfl⟩
  case round =>
    obtain ⟨k, hk, rfl, rfl⟩ := hrel
    by_cases hlt : k < 64
    · cases h1 : a.testBit k <;> cases h2 : b.testBit k
      all_goals
        have h3 := Nat.testBit_or a b k
        rw [h1, h2] at h3
        go_wp2_with (go_at_call 102; refine (has_in _ _ _ (by assumption) (by assumption)).mono ?_; rintro e w' ⟨rfl, rfl⟩)
        go_round
        case rel => exact ⟨k + 1, by omega, by go_num, by first | rw [upTo_step hlt h3] | rw [upTo_no h3]⟩
        case measure => simp [intOf]; omega
    · obtain rfl : k = 64 := by omega
      go_wp2
      go_ret
      exact ⟨ret_int (by show (upTo (a ||| b) 64 : Int) = _; rw [upTo_all (Nat.or_lt_two_pow (n := 64) ha hb)]), rfl⟩

theorem rjoin_any (a b : Nat) (w : World) (ha : a < 18446744073709551616) (hb : b < 18446744073709551616) :
    Calls Tryz.prog 98 #[.int .u64 a, .int .u64 b] w (Ret (.int .u64 ((a ||| b : Nat) : Int)) w) := by
  go_enter Tryz.func98, Tryz.ntmps98
  go_wp2_with (go_at_call 119; refine (made_or _ _ _ ha hb).mono ?_; rintro e w' ⟨rfl, rfl⟩)
  go_ret
  exact ⟨rfl, rfl⟩

theorem rflows_any (a b : Nat) (w : World) (ha : a < 18446744073709551616) (hb : b < 18446744073709551616) :
    Calls Tryz.prog 72 #[.int .u64 a, .int .u64 b] w (Ret (.bool (flowsB a b)) w) := by
  go_enter Tryz.func72, Tryz.ntmps72
  go_wp2
  go_loop [5] (fun p => ∃ k : Nat, k ≤ 64 ∧ p = .int .i64 k ∧ ∀ i, i < k → a.testBit i = true → b.testBit i = true) (fun p => 64 - (intOf p).toNat)
  case atStart => exact ⟨0, by omega, rfl, fun i hi => absurd hi (by omega)⟩
  case round =>
    obtain ⟨k, hk, rfl, hall⟩ := hrel
    have HA := Lib.hid hall
    clear hall
    by_cases hlt : k < 64
    · cases h1 : a.testBit k <;> cases h2 : b.testBit k
      all_goals
        go_wp2_with (go_at_call 102; refine (has_in _ _ _ (by assumption) (by assumption)).mono ?_; rintro e w' ⟨rfl, rfl⟩)
      all_goals first
        | (go_ret; exact ⟨ret_bool (by rw [flowsB_false a b k h1 h2]), rfl⟩)
        | (go_round
           case rel => exact ⟨k + 1, by omega, by go_num, fun i hi h => by
             rcases Nat.lt_or_ge i k with hi' | hi'
             · exact HA.out i hi' h
             · obtain rfl : i = k := by omega
               first | exact h2 | (rw [h1] at h; cases h)⟩
           case measure => simp [intOf]; omega)
    · obtain rfl : k = 64 := by omega
      go_wp2
      go_ret
      exact ⟨ret_bool ((flowsB_iff a b).2 fun i h => HA.out i (bit_lt ha h) h).symm, rfl⟩

def joinL (l : List Nat) : Nat := l.foldl (· ||| ·) 0
theorem joinL_snoc (l : List Nat) (k : Nat) (h : k < l.length) : joinL (l.take (k + 1)) = joinL (l.take k) ||| l[k] := by
  unfold joinL
  rw [List.take_succ_eq_append_getElem h, List.foldl_append]
  rfl
theorem joinL_lt (l : List Nat) (h : ∀ x ∈ l, x < 18446744073709551616) : joinL l < 18446744073709551616 := by
  have key : ∀ (l : List Nat) (a : Nat), a < 18446744073709551616 → (∀ x ∈ l, x < 18446744073709551616) → l.foldl (· ||| ·) a < 18446744073709551616 := by
    intro l
    induction l with
    | nil => intro a ha _; exact ha
    | cons x l ih => intro a ha hl; exact ih _ (Nat.or_lt_two_pow (n := 64) ha (hl x (by simp))) (fun y hy => hl y (by simp [hy]))
  exact key l 0 (by decide) h

theorem joinv_any (l : List Nat) (A : Option Addr) (c B : Nat) (w : World) (hl : ∀ x ∈ l, x < 18446744073709551616) (hn : l.length ≤ 9223372036854775807)
    (hr : Reads w B A (l.map fun x : Nat => Value.int .u64 (x : Int))) :
    Calls Tryz.prog 44 #[.slice A l.length c] w (Ret (.int .u64 (joinL l : Int)) w) := by
  go_enter Tryz.func44, Tryz.ntmps44
  go_wp2
  go_loop [3, 8] (fun t i => ∃ k : Nat, k ≤ l.length ∧ i = .int .i64 k ∧ t = .int .u64 (joinL (l.take k) : Int)) (fun _ i => l.length - (intOf i).toNat)
  case atStart => exact ⟨0, by omega, rfl, rfl⟩
  case round =>
    obtain ⟨k, hk, rfl, rfl⟩ := hrel
    by_cases hlt : k < l.length
    · rcases hr with h0 | ⟨ad, rfl, hb, hc⟩
      · simp at h0; subst h0; simp at hlt
      · have hc' := hc k (.int .u64 (l[k] : Int)) (by simp [hlt])
        have hj := joinL_snoc l k hlt
        have h1 : joinL (l.take k) < 18446744073709551616 := joinL_lt _ fun x hx => hl x (List.mem_of_mem_take hx)
        have h2 : l[k] < 18446744073709551616 := hl _ (List.getElem_mem hlt)
        have HJ := Lib.hid hj
        clear hj
        go_wp2
        go_round
        case rel => exact ⟨k + 1, by omega, by go_num, by rw [HJ.out, u64_or_nat _ _ h1 h2]⟩
        case measure => simp [intOf]; omega
    · obtain rfl : k = l.length := by omega
      go_wp2
      go_ret
      exact ⟨rfl, rfl⟩

theorem join2_any (a b n c : Nat) (t : TypeId) (w : World) (ha : a < 18446744073709551616) (hb : b < 18446744073709551616) (h : w.heap[n]? = some (.cells #[.int .u64 (a : Int), .int .u64 (b : Int)] t (0, 0))) :
    Calls Tryz.prog 44 #[.slice (some ⟨n, 0, none⟩) 2 c] w (Ret (.int .u64 ((a ||| b : Nat) : Int)) w) := by
  have e : joinL [a, b] = a ||| b := by simp [joinL]
  rw [← e]
  refine joinv_any [a, b] (some ⟨n, 0, none⟩) c w.heap.size w (by simp [ha, hb]) (by simp) (.inr ⟨_, rfl, blk_lt h, ?_⟩)
  exact World.news_of_block h

structure VV where
  kind : Int
  n : Int
  s : ByteArray
  label : Nat
def vvCells (v : VV) : Array Value := #[.int .i64 v.kind, .int .i64 v.n, .string v.s, .int .u64 (v.label : Int)]
def bareV (v : VV) : VV := { v with label := 0 }
def sameV (a b : VV) : Bool := a.kind == b.kind && a.n == b.n && a.s.toList == b.s.toList
theorem gen_wp {P : Program} {c : Code} {Q : Exit → Act → World → Prop} {a : Act} {w : World} (h : ∀ W, w = W → c.wp P Q a W) : c.wp P Q a w := h w rfl
theorem bare_any (v : VV) (w : World) : Calls Tryz.prog 101 #[.agg (vvCells v)] w (RetB (.agg (vvCells (bareV v))) w) := by
  unfold vvCells
  go_enter Tryz.func101, Tryz.ntmps101
  go_wp2
  exact bodyPost_ret (v := .agg (vvCells (bareV v))) (by simp [results, Tryz.results101, go_sem]; rfl) rfl ⟨rfl, (by repeat' (first | exact Below.refl _ _ | refine Below.drew ?_ | refine Below.setCell ?_ ?_ _ | refine Below.alloc ?_ ?_ _ | (simp; done) | (simp; omega)))⟩
def eqV (a b : VV) : Bool := a.kind == b.kind && (a.n == b.n && (a.s.toList == b.s.toList && ((a.label : Int) == (b.label : Int))))
set_option maxRecDepth 100000 in
theorem val_eq (a b : VV) (w : World) : (Op.equalIn 10000 26 (.agg (vvCells a)) (.agg (vvCells b))).run Tryz.prog w = .ok (eqV a b) w := by
  have u1 := Tryz.underlying3
  have u2 := Tryz.underlying2
  have u3 := Tryz.underlying9
  have u4 := Tryz.underlying24
  have a1 := Tryz.isAgg3
  have a2 := Tryz.isAgg2
  have a3 := Tryz.isAgg9
  have a4 := Tryz.isAgg24
  have z1 := Tryz.sizeOf3
  have z2 := Tryz.sizeOf2
  have z3 := Tryz.sizeOf9
  have z4 := Tryz.sizeOf24
  have hS : Tryz.prog.underlying 26 = some (.struct (Tryz.prog.fieldsOf 26)) := by kernel_rfl
  have hp : Tryz.prog.stoodInHeld 26 = false := by kernel_rfl
  unfold vvCells eqV
  rw [show (10000 : Nat) = 9999 + 1 from rfl, run_equalIn_agg w 9999 26 _ _ hS hp]
  simp only [Program.fieldsOf, Tryz.underlying26]
  go_simp
  by_cases h1 : a.kind = b.kind <;> by_cases h2 : a.n = b.n <;> by_cases h3 : a.s.toList = b.s.toList <;> by_cases h4 : (a.label : Int) = (b.label : Int) <;> simp only [h1, h2, h3, h4, if_true, if_false, beq_self_eq_true, beq_eq_false_iff_ne.2, Bool.true_and, Bool.false_and, ne_eq, not_false_eq_true]
set_option maxRecDepth 100000 in
theorem same_any (a b : VV) (w : World) : Calls Tryz.prog 67 #[.agg (vvCells a), .agg (vvCells b)] w (RetB (.bool (sameV a b)) w) := by
  have h1 := fun w => bare_any a w
  have h2 := fun w => bare_any b w
  have heq := fun w => val_eq (bareV a) (bareV b) w
  unfold vvCells at h1 h2 heq ⊢
  go_enter Tryz.func67, Tryz.ntmps67
  go_wp2
  refine gen_wp fun W hW => ?_
  have hA : W.heap[w.heap.size]? = some (.cells #[.int .i64 a.kind, .int .i64 a.n, .string a.s, .int .u64 (a.label : Int)] 26 (0, 0)) := by rw [← hW]; exact blk_alloc (heap_new_at _ _ _ rfl) _
  have hB : W.heap[w.heap.size + 1]? = some (.cells #[.int .i64 b.kind, .int .i64 b.n, .string b.s, .int .u64 (b.label : Int)] 26 (0, 0)) := by rw [← hW]; exact heap_new_at _ _ _ (by simp)
  have hbw : Below w.heap.size w W := by rw [← hW]; exact ((Below.refl _ _).alloc (Nat.le_refl _) _).alloc (by simp) _
  clear hW
  have a0 := cell_of_blk (i := 0) hA rfl
  have a1 := cell_of_blk (i := 1) hA rfl
  have a2 := cell_of_blk (i := 2) hA rfl
  have a3 := cell_of_blk (i := 3) hA rfl
  have b0 := cell_of_blk (i := 0) hB rfl
  have b1 := cell_of_blk (i := 1) hB rfl
  have b2 := cell_of_blk (i := 2) hB rfl
  have b3 := cell_of_blk (i := 3) hB rfl
  have HA := Lib.hid hA
  have HB := Lib.hid hB
  have HW := Lib.hid hbw
  clear hA hB hbw
  go_region_held3 (fun w' => w'.cell? ⟨w.heap.size, 0, none⟩ = some (.int .i64 a.kind) ∧ w'.cell? ⟨w.heap.size, 1, none⟩ = some (.int .i64 a.n) ∧ w'.cell? ⟨w.heap.size, 2, none⟩ = some (.string a.s) ∧ w'.cell? ⟨w.heap.size, 3, none⟩ = some (.int .u64 (a.label : Int)) ∧ w'.cell? ⟨w.heap.size + 1, 0, none⟩ = some (.int .i64 b.kind) ∧ w'.cell? ⟨w.heap.size + 1, 1, none⟩ = some (.int .i64 b.n) ∧ w'.cell? ⟨w.heap.size + 1, 2, none⟩ = some (.string b.s) ∧ w'.cell? ⟨w.heap.size + 1, 3, none⟩ = some (.int .u64 (b.label : Int))) (first | go_keep | exact ks | exact ks2)
    ((first
      | (go_at_call 101; refine (h1 _).mono ?_; rintro e w1 ⟨rfl, hb1⟩; have hA1 := below_blk hb1 (blk_drew HA.out); have hB1 := below_blk hb1 (blk_drew HB.out); have ks := And.intro (cell_of_blk (i := 0) hA1 rfl) (And.intro (cell_of_blk (i := 1) hA1 rfl) (And.intro (cell_of_blk (i := 2) hA1 rfl) (And.intro (cell_of_blk (i := 3) hA1 rfl) (And.intro (cell_of_blk (i := 0) hB1 rfl) (And.intro (cell_of_blk (i := 1) hB1 rfl) (And.intro (cell_of_blk (i := 2) hB1 rfl) (cell_of_blk (i := 3) hB1 rfl))))))))
      | (go_at_call 101; refine (h2 _).mono ?_; rintro e w2 ⟨rfl, hb2⟩; have hA2 := below_blk hb2 hA1; have hB2 := below_blk hb2 hB1; have ks2 := And.intro (cell_of_blk (i := 0) hA2 rfl) (And.intro (cell_of_blk (i := 1) hA2 rfl) (And.intro (cell_of_blk (i := 2) hA2 rfl) (And.intro (cell_of_blk (i := 3) hA2 rfl) (And.intro (cell_of_blk (i := 0) hB2 rfl) (And.intro (cell_of_blk (i := 1) hB2 rfl) (And.intro (cell_of_blk (i := 2) hB2 rfl) (cell_of_blk (i := 3) hB2 rfl))))))))))
  go_wp2
  go_ret
  have e : eqV (bareV a) (bareV b) = sameV a b := by simp [eqV, sameV, bareV, Bool.and_assoc]
  exact ⟨ret_bool e, (HW.out.drew).trans ((hb1.trans (hb2.mono hb1.size)).mono HW.out.size)⟩

def HI (n : Int) : Prop := -9223372036854775808 ≤ n ∧ n ≤ 9223372036854775807
theorem hi_wf {n : Int} (h : (Lit.int .i64 n).wf = true) : HI n := wf_i64 h
structure HAct where
  act : Int
  ctx : Nat
  a : VV
  b : VV
  c : VV
  n : Int
  cells : Sl Int
  to : LTy
def vvE (v : VV) : List Value := [.int .i64 v.kind, .int .i64 v.n, .string v.s, .int .u64 (v.label : Int)]
def intE (n : Int) : List Value := [.int .i64 n]
def haEnc (a : HAct) : List Value := [.int .i64 a.act, .int .u64 (a.ctx : Int), .int .i64 a.a.kind, .int .i64 a.a.n, .string a.a.s, .int .u64 (a.a.label : Int), .int .i64 a.b.kind, .int .i64 a.b.n, .string a.b.s, .int .u64 (a.b.label : Int), .int .i64 a.c.kind, .int .i64 a.c.n, .string a.c.s, .int .u64 (a.c.label : Int), .int .i64 a.n, a.cells.val, .int .i64 a.to.kind, .slice a.to.A a.to.ns.length a.to.c, .slice a.to.A2 a.to.xs.length a.to.c2]
structure HVOk (v : VV) : Prop where
  kind : HI v.kind
  n : HI v.n
  s : v.s.size ≤ 140737488351232
  label : v.label < 18446744073709551616
def HVOkD {H : Type} (v : VV) (d : DataW H) : Prop := HI v.kind ∧ HI v.n ∧ v.label < 18446744073709551616 ∧ (Sized Tryz.prog 26 d → v.s.size ≤ 140737488351232)
theorem HVOkD.ok {H : Type} {v : VV} {d : DataW H} (h : HVOkD v d) (hs : Sized Tryz.prog 26 d) : HVOk v := ⟨h.1, h.2.1, h.2.2.2 hs, h.2.2.1⟩
def IntD {H : Type} (n : Int) (d : DataW H) : Prop := HI n
theorem decHV {H : Type} {enc : TypeId × Value → H} {w : World} : Dec enc Tryz.prog w 26 vvE HVOkD := by
  intro fuel cs x h
  obtain ⟨ys, n, rfl, rfl, hlen, hl, hf⟩ := DataW.trod_struct Tryz.underlying26 h
  have hC : Tryz.prog.cellsOf 26 = 4 := by kernel_rfl
  rw [hC] at hlen
  have c0 : Tryz.prog.cellsOf 3 = 1 := by kernel_rfl
  have y0 : ys[0]? = some (ys[0]'(by rw [hl]; decide)) := List.getElem?_eq_getElem _
  obtain ⟨a0, h0, g0⟩ := decInt Tryz.underlying3 _ _ _ ((hf 0 _ rfl).trans y0)
  have p0 := drop_part (cs := cs) (o := 0) (K := Tryz.prog.cellsOf 3) (o' := 1) h0 (by rw [c0])
  have c1 : Tryz.prog.cellsOf 2 = 1 := by kernel_rfl
  have y1 : ys[1]? = some (ys[1]'(by rw [hl]; decide)) := List.getElem?_eq_getElem _
  obtain ⟨a1, h1, g1⟩ := decInt Tryz.underlying2 _ _ _ ((hf 1 _ rfl).trans y1)
  have p1 := drop_part (cs := cs) (o := 1) (K := Tryz.prog.cellsOf 2) (o' := 2) h1 (by rw [c1])
  have c2 : Tryz.prog.cellsOf 9 = 1 := by kernel_rfl
  have y2 : ys[2]? = some (ys[2]'(by rw [hl]; decide)) := List.getElem?_eq_getElem _
  obtain ⟨a2, h2, g2⟩ := decStr Tryz.underlying9 _ _ _ ((hf 2 _ rfl).trans y2)
  have p2 := drop_part (cs := cs) (o := 2) (K := Tryz.prog.cellsOf 9) (o' := 3) h2 (by rw [c2])
  have c3 : Tryz.prog.cellsOf 24 = 1 := by kernel_rfl
  have y3 : ys[3]? = some (ys[3]'(by rw [hl]; decide)) := List.getElem?_eq_getElem _
  obtain ⟨a3, h3, g3⟩ := decNat Tryz.underlying24 _ _ _ ((hf 3 _ rfl).trans y3)
  have p3 := drop_part (cs := cs) (o := 3) (K := Tryz.prog.cellsOf 24) (o' := 4) h3 (by rw [c3])
  have pn : cs.drop 4 = [] := List.drop_eq_nil_of_le (by omega)
  have hcs : cs = _ := p0
  rw [p1, p2, p3, pn] at hcs
  refine ⟨⟨a0, a1, a2, a3⟩, hcs, ?_⟩
  exact ⟨hi_wf g0.1, hi_wf g1.1, g3.1, fun hs => by have hd : (ys.map (·.1))[2]? = some (DataW.lit (.string a2.data.toList)) := (by rw [List.getElem?_map, y2, ← g2.2]; rfl); have h5 := sized_field Tryz.underlying26 hs (j := 2) rfl hd; have h6 := h5 a2.data.toList.length (by simp [DataW.weights]); unfold reachBytes at h6; simpa using h6⟩
theorem decI {H : Type} {enc : TypeId × Value → H} {w : World} : Dec enc Tryz.prog w 3 intE IntD := fun fuel cs x h => by
  obtain ⟨a, h1, h2⟩ := decInt Tryz.underlying3 fuel cs x h
  exact ⟨a, h1, hi_wf h2.1⟩
def HaOk {H : Type} (w : World) (a : HAct) (d : DataW H) : Prop := HI a.act ∧ a.ctx < 18446744073709551616 ∧ HI a.n ∧ ∃ ys d2 d3 d4 d6 d7, d = .agg ys ∧ ys[2]? = some d2 ∧ ys[3]? = some d3 ∧ ys[4]? = some d4 ∧ HVOkD a.a d2 ∧ HVOkD a.b d3 ∧ HVOkD a.c d4 ∧ ys[6]? = some d6 ∧ ys[7]? = some d7 ∧ SlIn2 w intE IntD a.cells d6 ∧ TyG w a.to d7
theorem decHAct {H : Type} {enc : TypeId × Value → H} {w : World} : Dec enc Tryz.prog w 33 haEnc (HaOk w) := by
  intro fuel cs x h
  obtain ⟨ys, n, rfl, rfl, hlen, hl, hf⟩ := DataW.trod_struct Tryz.underlying33 h
  have hC : Tryz.prog.cellsOf 33 = 19 := by kernel_rfl
  rw [hC] at hlen
  have c0 : Tryz.prog.cellsOf 3 = 1 := by kernel_rfl
  have y0 : ys[0]? = some (ys[0]'(by rw [hl]; decide)) := List.getElem?_eq_getElem _
  obtain ⟨a0, h0, g0⟩ := decInt Tryz.underlying3 _ _ _ ((hf 0 _ rfl).trans y0)
  have p0 := drop_part (cs := cs) (o := 0) (K := Tryz.prog.cellsOf 3) (o' := 1) h0 (by rw [c0])
  have c1 : Tryz.prog.cellsOf 24 = 1 := by kernel_rfl
  have y1 : ys[1]? = some (ys[1]'(by rw [hl]; decide)) := List.getElem?_eq_getElem _
  obtain ⟨a1, h1, g1⟩ := decNat Tryz.underlying24 _ _ _ ((hf 1 _ rfl).trans y1)
  have p1 := drop_part (cs := cs) (o := 1) (K := Tryz.prog.cellsOf 24) (o' := 2) h1 (by rw [c1])
  have c2 : Tryz.prog.cellsOf 26 = 4 := by kernel_rfl
  have y2 : ys[2]? = some (ys[2]'(by rw [hl]; decide)) := List.getElem?_eq_getElem _
  obtain ⟨a2, h2, g2⟩ := decHV _ _ _ ((hf 2 _ rfl).trans y2)
  have p2 := drop_part (cs := cs) (o := 2) (K := Tryz.prog.cellsOf 26) (o' := 6) h2 (by rw [c2])
  have c3 : Tryz.prog.cellsOf 26 = 4 := by kernel_rfl
  have y3 : ys[3]? = some (ys[3]'(by rw [hl]; decide)) := List.getElem?_eq_getElem _
  obtain ⟨a3, h3, g3⟩ := decHV _ _ _ ((hf 3 _ rfl).trans y3)
  have p3 := drop_part (cs := cs) (o := 6) (K := Tryz.prog.cellsOf 26) (o' := 10) h3 (by rw [c3])
  have c4 : Tryz.prog.cellsOf 26 = 4 := by kernel_rfl
  have y4 : ys[4]? = some (ys[4]'(by rw [hl]; decide)) := List.getElem?_eq_getElem _
  obtain ⟨a4, h4, g4⟩ := decHV _ _ _ ((hf 4 _ rfl).trans y4)
  have p4 := drop_part (cs := cs) (o := 10) (K := Tryz.prog.cellsOf 26) (o' := 14) h4 (by rw [c4])
  have c5 : Tryz.prog.cellsOf 3 = 1 := by kernel_rfl
  have y5 : ys[5]? = some (ys[5]'(by rw [hl]; decide)) := List.getElem?_eq_getElem _
  obtain ⟨a5, h5, g5⟩ := decInt Tryz.underlying3 _ _ _ ((hf 5 _ rfl).trans y5)
  have p5 := drop_part (cs := cs) (o := 14) (K := Tryz.prog.cellsOf 3) (o' := 15) h5 (by rw [c5])
  have c6 : Tryz.prog.cellsOf 27 = 1 := by kernel_rfl
  have y6 : ys[6]? = some (ys[6]'(by rw [hl]; decide)) := List.getElem?_eq_getElem _
  obtain ⟨a6, h6, g6⟩ := (decSlice2 Tryz.underlying27 (K := 1) (by kernel_rfl) (by omega) (fun _ => rfl) decI) _ _ _ ((hf 6 _ rfl).trans y6)
  have p6 := drop_part (cs := cs) (o := 15) (K := Tryz.prog.cellsOf 27) (o' := 16) h6 (by rw [c6])
  have c7 : Tryz.prog.cellsOf 31 = 3 := by kernel_rfl
  have y7 : ys[7]? = some (ys[7]'(by rw [hl]; decide)) := List.getElem?_eq_getElem _
  obtain ⟨a7, h7, g7⟩ := decTy _ _ _ ((hf 7 _ rfl).trans y7)
  have p7 := drop_part (cs := cs) (o := 16) (K := Tryz.prog.cellsOf 31) (o' := 19) h7 (by rw [c7])
  have pn : cs.drop 19 = [] := List.drop_eq_nil_of_le (by omega)
  have hcs : cs = _ := p0
  rw [p1, p2, p3, p4, p5, p6, p7, pn] at hcs
  refine ⟨⟨a0, a1, a2, a3, a4, a5, a6, a7⟩, hcs, ?_⟩
  exact ⟨hi_wf g0.1, g1.1, hi_wf g5.1, _, _, _, _, _, _, rfl, (by rw [List.getElem?_map, y2]; rfl), (by rw [List.getElem?_map, y3]; rfl), (by rw [List.getElem?_map, y4]; rfl), g2, g3, g4, (by rw [List.getElem?_map, y6]; rfl), (by rw [List.getElem?_map, y7]; rfl), g6, g7⟩
structure HaFit (w : World) (N : Nat) (x : HAct) : Prop where
  act : HI x.act
  ctx : x.ctx < 18446744073709551616
  va : HVOk x.a
  vb : HVOk x.b
  vc : HVOk x.c
  n : HI x.n
  reads : Reads w N x.cells.A (x.cells.xs.map (.int .i64 ·))
  ints : ∀ i ∈ x.cells.xs, HI i
  len : x.cells.xs.length * 8 ≤ 140737488351232
  le : x.cells.xs.length ≤ x.cells.cap
  nil_ : x.cells.A = none → x.cells.xs.length = 0 ∧ x.cells.cap = 0
  to : LIn w N x.to
theorem HaFit.below {w w' : World} {N : Nat} {a : HAct} (h : HaFit w N a) (hb : Below N w w') : HaFit w' N a :=
  ⟨h.act, h.ctx, h.va, h.vb, h.vc, h.n, h.reads.below hb, h.ints, h.len, h.le, h.nil_, h.to.stay hb⟩
theorem ha_fit {H : Type} {w : World} {a : HAct} {d : DataW H} (h : HaOk w a d) (hs : Sized Tryz.prog 33 d) : HaFit w w.heap.size a := by
  obtain ⟨h1, h2, h6, ys, d2, d3, d4, d6, d7, rfl, y2, y3, y4, g2, g3, g4, hy, hz, hsl, hty⟩ := h
  have h3 := g2.ok (sized_field Tryz.underlying33 hs (j := 2) rfl y2)
  have h4 := g3.ok (sized_field Tryz.underlying33 hs (j := 3) rfl y3)
  have h5 := g4.ok (sized_field Tryz.underlying33 hs (j := 4) rfl y4)
  have hsz := sized_field Tryz.underlying33 hs (j := 6) rfl hy
  have hst := sized_field Tryz.underlying33 hs (j := 7) rfl hz
  have hl := sized_sl Tryz.underlying27 hsl.sl hsz
  rw [show Tryz.prog.bytesOf 3 = 8 by kernel_rfl] at hl
  unfold reachBytes at hl
  refine ⟨h1, h2, h3, h4, h5, h6, ?_, fun i hi => ?_, by omega, hsl.sl.le, fun e => ⟨by rw [(hsl.nil_ e).1]; rfl, (hsl.nil_ e).2⟩, hty hst⟩
  · have := hsl.sl.reads
    unfold intE at this
    rw [← List.map_eq_flatMap] at this
    exact this
  · obtain ⟨k, hk⟩ := List.getElem?_of_mem hi
    obtain ⟨d', _, h7⟩ := hsl.sl.all k i hk
    exact h7
abbrev actA (a : HAct) : Array Value := #[.int .i64 a.act, .int .u64 (a.ctx : Int), .int .i64 a.a.kind, .int .i64 a.a.n, .string a.a.s, .int .u64 (a.a.label : Int), .int .i64 a.b.kind, .int .i64 a.b.n, .string a.b.s, .int .u64 (a.b.label : Int), .int .i64 a.c.kind, .int .i64 a.c.n, .string a.c.s, .int .u64 (a.c.label : Int), .int .i64 a.n, .slice a.cells.A a.cells.xs.length a.cells.cap, .int .i64 a.to.kind, .slice a.to.A a.to.ns.length a.to.c, .slice a.to.A2 a.to.xs.length a.to.c2]
end Go.Proofs.YtilcofpceadpbaaGreatDoor
