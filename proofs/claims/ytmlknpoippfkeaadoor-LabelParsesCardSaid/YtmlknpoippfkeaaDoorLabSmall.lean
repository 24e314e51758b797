/-
  Labels: one principal, meets, the label of principals, the reference's list: the contracts.
-/
import Derived.Test.YtmlknpoippfkeaaDoorLabEach
set_option linter.unusedVariables false
set_option linter.unusedSimpArgs false
namespace Go.Proofs.YtmlknpoippfkeaaDoor
open Go.ChangeShapes Go.WideShapes Go.ChangeAt Go.RowKit

/-- Whether a label has a principal, whatever number that is. -/
def hasB (l : Nat) (p : Int) : Bool := decide (0 ≤ p ∧ p < 64) && l.testBit p.toNat
theorem hasB_in (l k : Nat) (h : k < 64) : hasB l k = l.testBit k := by
  unfold hasB
  rw [Int.toNat_natCast, decide_eq_true (by omega), Bool.true_and]
theorem hasB_out (l : Nat) (p : Int) (h : p < 0 ∨ 64 ≤ p) : hasB l p = false := by
  unfold hasB
  rw [decide_eq_false (by omega), Bool.false_and]
theorem has_any (l : Nat) (p : Int) (w : World) (hl : l < 18446744073709551616) :
    Calls Tryd.prog 21 #[.int .u64 (l : Int), .int .i64 p] w (Ret (.bool (hasB l p)) w) := by
  by_cases h0 : p < 0
  · rw [hasB_out l p (.inl h0)]
    go_enter Tryd.func21, Tryd.ntmps21
    go_wp2
    go_ret
    exact ⟨rfl, rfl⟩
  by_cases h1 : 64 ≤ p
  · rw [hasB_out l p (.inr h1)]
    go_enter Tryd.func21, Tryd.ntmps21
    go_wp2
    go_ret
    exact ⟨rfl, rfl⟩
  obtain ⟨k, rfl⟩ := Int.eq_ofNat_of_zero_le (by omega : 0 ≤ p)
  have hk : k < 64 := by omega
  rw [hasB_in l k hk]
  go_enter Tryd.func21, Tryd.ntmps21
  go_wp2
  go_ret
  exact ⟨ret_bool (and_one_test l k hl), rfl⟩
theorem rhas_any (l : Nat) (p : Int) (w : World) (hl : l < 18446744073709551616) :
    Calls Tryd.prog 22 #[.int .u64 (l : Int), .int .i64 p] w (Ret (.bool (hasB l p)) w) := by
  by_cases h0 : p < 0
  · rw [hasB_out l p (.inl h0)]
    go_enter Tryd.func22, Tryd.ntmps22
    go_wp2
    go_ret
    exact ⟨rfl, rfl⟩
  by_cases h1 : 64 ≤ p
  · rw [hasB_out l p (.inr h1)]
    go_enter Tryd.func22, Tryd.ntmps22
    go_wp2
    go_ret
    exact ⟨rfl, rfl⟩
  obtain ⟨k, rfl⟩ := Int.eq_ofNat_of_zero_le (by omega : 0 ≤ p)
  have hk : k < 64 := by omega
  rw [hasB_in l k hk]
  exact has_in l k w hl hk
theorem meet_any (a b : Nat) (w : World) (ha : a < 18446744073709551616) (hb : b < 18446744073709551616) :
    Calls Tryd.prog 19 #[.int .u64 (a : Int), .int .u64 (b : Int)] w (Ret (.int .u64 ((a &&& b : Nat) : Int)) w) := by
  have e := u64_and_nat a b ha hb
  go_enter Tryd.func19, Tryd.ntmps19
  go_wp2
  go_ret
  exact ⟨rfl, rfl⟩
theorem rmeet_any (a b : Nat) (w : World) (ha : a < 18446744073709551616) (hb : b < 18446744073709551616) :
    Calls Tryd.prog 20 #[.int .u64 (a : Int), .int .u64 (b : Int)] w (Ret (.int .u64 ((a &&& b : Nat) : Int)) w) := by
  go_enter Tryd.func20, Tryd.ntmps20
  go_wp2_with (go_at_call 33; refine (made_and _ _ _ ha hb).mono ?_; rintro e w' ⟨rfl, rfl⟩)
  go_ret
  exact ⟨rfl, rfl⟩
/-- The label of principals, and the error's number. -/
def ofS : List Int → Nat → Nat × Int
  | [], out => (out, 0)
  | p :: ps, out => if p < 0 ∨ 64 ≤ p then (0, 1) else ofS ps (out ||| 2 ^ p.toNat)
theorem pow_u64 {k : Nat} (hk : k < 64) : IntKind.u64.wrap ((2 : Int) ^ k) = ((2 ^ k : Nat) : Int) := by
  rw [IntKind.wrap_u64, show ((2 : Int) ^ k) = ((2 ^ k : Nat) : Int) from by simp]
  have := pow_lt64 hk
  generalize 2 ^ k = m at this
  omega
theorem or_pow {o k : Nat} (ho : o < 18446744073709551616) (hk : k < 64) : bits BinOp.or IntKind.u64 (o : Int) (IntKind.u64.wrap ((2 : Int) ^ k)) = ((o ||| 2 ^ k : Nat) : Int) := by
  rw [pow_u64 hk, u64_or_nat _ _ ho (pow_lt64 hk)]
theorem or_pow_lt {o k : Nat} (ho : o < 18446744073709551616) (hk : k < 64) : o ||| 2 ^ k < 18446744073709551616 := Nat.or_lt_two_pow (n := 64) ho (pow_lt64 hk)
theorem of_any (xs : List Int) (A : Option Addr) (c B : Nat) (w : World) (hn : xs.length ≤ 9223372036854775807)
    (hr : Reads w B A (xs.map fun x : Int => Value.int .i64 x)) :
    Calls Tryd.prog 25 #[.slice A xs.length c] w (Ret (.tuple #[.int .u64 ((ofS xs 0).1 : Int), .int .i64 (ofS xs 0).2]) w) := by
  generalize hR : ofS xs 0 = R
  have HR := Lib.hid hR
  clear hR
  go_enter Tryd.func25, Tryd.ntmps25
  go_wp2
  go_loop [2, 3, 4, 6, 9] (fun r1 r2 o _ i => ∃ (k : Nat) (out : Nat), k ≤ xs.length ∧ i = .int .i64 k ∧ out < 18446744073709551616 ∧ o = .int .u64 (out : Int) ∧ ofS (xs.drop k) out = R) (fun _ _ _ _ i => xs.length - (intOf i).toNat)
  case atStart => exact ⟨0, 0, by omega, rfl, by decide, rfl, HR.out⟩
  case round =>
    obtain ⟨k, out, hk, rfl, ho, rfl, hd⟩ := hrel
    have HD := Lib.hid hd
    clear hd
    by_cases hlt : k < xs.length
    · rcases hr with h0 | ⟨ad, rfl, hb, hc⟩
      · simp at h0; subst h0; simp at hlt
      · have hc' := hc k (.int .i64 xs[k]) (by simp [hlt])
        have hs : xs.drop k = xs[k] :: xs.drop (k + 1) := List.drop_eq_getElem_cons hlt
        have HS := Lib.hid hs
        clear hs hc
        generalize hx : xs[k] = x at hc' HS
        clear hx
        by_cases h0 : x < 0
        · have e : R = (0, 1) := by
            have := HD.out
            rw [HS.out, ofS, if_pos (.inl h0)] at this
            exact this.symm
          subst e
          go_wp2
          go_ret2
          exact ⟨rfl, rfl⟩
        by_cases h1 : 64 ≤ x
        · have e : R = (0, 1) := by
            have := HD.out
            rw [HS.out, ofS, if_pos (.inr h1)] at this
            exact this.symm
          subst e
          go_wp2
          go_ret2
          exact ⟨rfl, rfl⟩
        obtain ⟨m, rfl⟩ := Int.eq_ofNat_of_zero_le (by omega : 0 ≤ x)
        have hm : m < 64 := by omega
        have e := or_pow ho hm
        have HN : Hid (ofS (xs.drop (k + 1)) (out ||| 2 ^ m) = R) := Lib.hid (by
          have := HD.out
          rw [HS.out, ofS, if_neg (by omega), Int.toNat_natCast] at this
          exact this)
        have hlt2 := or_pow_lt ho hm
        generalize out ||| 2 ^ m = o2 at e HN hlt2
        go_wp2
        go_round
        case rel => exact ⟨k + 1, o2, by omega, by go_num, hlt2, by first | rfl | rw [e], HN.out⟩
        case measure => simp [intOf]; omega
    · obtain rfl : k = xs.length := by omega
      have e : R = (out, 0) := by
        have := HD.out
        rw [List.drop_length, ofS] at this
        exact this.symm
      subst e
      go_wp2
      go_ret2
      exact ⟨rfl, rfl⟩
theorem rof_any (xs : List Int) (A : Option Addr) (c B : Nat) (w : World) (hn : xs.length ≤ 9223372036854775807)
    (hr : Reads w B A (xs.map fun x : Int => Value.int .i64 x)) :
    Calls Tryd.prog 26 #[.slice A xs.length c] w (Ret (.tuple #[.int .u64 ((ofS xs 0).1 : Int), .int .i64 (ofS xs 0).2]) w) := by
  generalize hR : ofS xs 0 = R
  have HR := Lib.hid hR
  clear hR
  go_enter Tryd.func26, Tryd.ntmps26
  go_wp2
  go_loop [2, 3, 4, 6, 9] (fun r1 r2 o _ i => ∃ (k : Nat) (out : Nat), k ≤ xs.length ∧ i = .int .i64 k ∧ out < 18446744073709551616 ∧ o = .int .u64 (out : Int) ∧ ofS (xs.drop k) out = R) (fun _ _ _ _ i => xs.length - (intOf i).toNat)
  case atStart => exact ⟨0, 0, by omega, rfl, by decide, rfl, HR.out⟩
  case round =>
    obtain ⟨k, out, hk, rfl, ho, rfl, hd⟩ := hrel
    have HD := Lib.hid hd
    clear hd
    by_cases hlt : k < xs.length
    · rcases hr with h0 | ⟨ad, rfl, hb, hc⟩
      · simp at h0; subst h0; simp at hlt
      · have hc' := hc k (.int .i64 xs[k]) (by simp [hlt])
        have hs : xs.drop k = xs[k] :: xs.drop (k + 1) := List.drop_eq_getElem_cons hlt
        have HS := Lib.hid hs
        clear hs hc
        generalize hx : xs[k] = x at hc' HS
        clear hx
        by_cases h0 : x < 0
        · have e : R = (0, 1) := by
            have := HD.out
            rw [HS.out, ofS, if_pos (.inl h0)] at this
            exact this.symm
          subst e
          go_wp2
          go_ret2
          exact ⟨rfl, rfl⟩
        by_cases h1 : 64 ≤ x
        · have e : R = (0, 1) := by
            have := HD.out
            rw [HS.out, ofS, if_pos (.inr h1)] at this
            exact this.symm
          subst e
          go_wp2
          go_ret2
          exact ⟨rfl, rfl⟩
        obtain ⟨m, rfl⟩ := Int.eq_ofNat_of_zero_le (by omega : 0 ≤ x)
        have hm : m < 64 := by omega
        have e := or_pow ho hm
        have HN : Hid (ofS (xs.drop (k + 1)) (out ||| 2 ^ m) = R) := Lib.hid (by
          have := HD.out
          rw [HS.out, ofS, if_neg (by omega), Int.toNat_natCast] at this
          exact this)
        have hlt2 := or_pow_lt ho hm
        generalize out ||| 2 ^ m = o2 at e HN hlt2
        go_wp2
        go_round
        case rel => exact ⟨k + 1, o2, by omega, by go_num, hlt2, by first | rfl | rw [e], HN.out⟩
        case measure => simp [intOf]; omega
    · obtain rfl : k = xs.length := by omega
      have e : R = (out, 0) := by
        have := HD.out
        rw [List.drop_length, ofS] at this
        exact this.symm
      subst e
      go_wp2
      go_ret2
      exact ⟨rfl, rfl⟩
theorem own_base {w : World} {base : Nat} {e : TypeId} {sz n : Nat} {v : Value} {xs : List Value} (h : w.ownsRow base e sz v n xs) (g : Nat) (hg : v.ownBlock = some g) : base ≤ g := by
  rcases h.2 with ⟨rfl, _⟩ | ⟨g', cap, cur, rfl, hb, _⟩
  · simp [Value.ownBlock] at hg
  · have : g' = g := by simpa [Value.ownBlock] using hg
    omega
def prinTo (l k : Nat) : List Nat := (List.range k).filter l.testBit
theorem prinTo_yes {l k : Nat} (h : l.testBit k = true) : prinTo l (k + 1) = prinTo l k ++ [k] := by
  unfold prinTo
  rw [List.range_succ, List.filter_append]
  simp [h]
theorem prinTo_no {l k : Nat} (h : l.testBit k = false) : prinTo l (k + 1) = prinTo l k := by
  unfold prinTo
  rw [List.range_succ, List.filter_append]
  simp [h]
theorem prinTo_len (l k : Nat) : (prinTo l k).length ≤ k := by
  unfold prinTo
  exact Nat.le_trans (List.length_filter_le _ _) (by simp)
set_option maxRecDepth 100000 in
set_option maxHeartbeats 2000000 in
theorem rlist_any (L : Nat) (hL : L < 18446744073709551616) (w : World) :
    Calls Tryd.prog 24 #[.int .u64 (L : Int)] w fun e w' => ∃ v, e = .returned v ∧ w'.ownsRow w.heap.size 3 1 v (prin L).length ((prin L).map fun p : Nat => Value.int .i64 (p : Int)) ∧ Below w.heap.size w w' := by
  obtain ⟨i0, hi, hz0, hz1, hz2⟩ := info_parts infoInt
  go_enter Tryd.func24, Tryd.ntmps24
  go_wp2
  go_loopw [3, 4] (fun v i wr => ∃ k : Nat, k ≤ 64 ∧ i = .int .i64 k ∧ wr.ownsRow w.heap.size 3 1 v (prinTo L k).length ((prinTo L k).map fun p : Nat => Value.int .i64 (p : Int)) ∧ Below w.heap.size w wr) (fun _ i _ => 64 - (intOf i).toNat)
  case atStart => exact ⟨0, by omega, rfl, World.ownsRow_nil _ _ _ _, Below.refl _ _⟩
  case round =>
    obtain ⟨k, hk, rfl, hrow, hB⟩ := hrel
    by_cases hlt : k < 64
    · have hh := fun w => has_in L k w hL hlt
      have hpl := prinTo_len L k
      cases hb : L.testBit k
      · rw [hb] at hh
        have hn := prinTo_no hb
        have HN := Lib.hid hn
        clear hn hb
        go_wp2_with (go_at_call 22; refine (hh _).mono ?_; rintro e w' ⟨rfl, rfl⟩)
        go_roundw
        case rel => exact ⟨k + 1, by omega, by go_num, by rw [HN.out]; exact hrow, hB⟩
        case measure => simp [intOf]; omega
      · rw [hb] at hh
        have hn := prinTo_yes hb
        have HN := Lib.hid hn
        have hBs := hB.size
        clear hn hb
        go_wp2_with (first
          | (go_at_call 22; refine (hh _).mono ?_; rintro e w' ⟨rfl, rfl⟩)
          | (at_builtin; refine wpList_append_own _ rfl _ _ 36 rfl w.heap.size 3 i0 (.int .i64 0) 1 8 Tryd.underlying36 hi hz0 hz1 hz2 rfl (by decide) _ _ _ rfl (hrow.alloc _) ⟨wr.heap.size, 0, none⟩ 1 1 [.int .i64 (k : Int)] rfl rfl (cell_one_new _ _ _) (by simp [Value.oneCell']) (by unfold maxLen; omega) (by omega) (by simp; omega) ?_; intro v' w1 hown' hgrow _))
        go_roundw
        case rel => exact ⟨k + 1, by omega, by go_num, by rw [HN.out]; simpa using hown', (hB.alloc hBs _).grown hgrow (by simp; omega) fun g e => own_base hrow g e⟩
        case measure => simp [intOf]; omega
    · obtain rfl : k = 64 := by omega
      go_wp2
      go_ret
      exact ⟨_, rfl, hrow, hB⟩
end Go.Proofs.YtmlknpoippfkeaaDoor
