/-
  The operators on numbers: the program's and the reference's contracts.
-/
import Derived.Test.YthhphjfbdoffhaaNumP
import Derived.Deep.QuietTactic
import Derived.BigQuiet
set_option linter.unusedVariables false
set_option linter.unusedSimpArgs false
namespace Go.Proofs.Ythhphjfbdoffhaa
open Go.ChangeShapes Go.WideShapes Go.ChangeAt Go.RowKit

/-- What a call returned, the world as it was but for draws. -/
def RetD (v : Value) (w : World) (e : Ending) (w' : World) : Prop := e = .returned v ∧ ∃ n, w' = w.drewN n

theorem ret_ii {k k' : IntKind} {a b c d : Int} (h1 : a = c) (h2 : b = d) : Ending.returned (.tuple #[.int k a, .int k' b]) = .returned (.tuple #[.int k c, .int k' d]) := by rw [h1, h2]
theorem ret_ib {k : IntKind} {a c : Int} {b d : Bool} (h1 : a = c) (h2 : b = d) : Ending.returned (.tuple #[.int k a, .bool b]) = .returned (.tuple #[.int k c, .bool d]) := by rw [h1, h2]
theorem nflag_any (b : Bool) (w : World) : Calls Try.prog 75 #[.bool b] w (Ret (.int .i64 (if b then 1 else 0)) w) := by
  cases b
  all_goals
    go_enter Try.func75, Try.ntmps75
    go_wp2
    go_ret
    exact ⟨rfl, rfl⟩
theorem rone_any (b : Bool) (w : World) : Calls Try.prog 77 #[.bool b] w (Ret (.int .i64 (if b then 1 else 0)) w) := by
  cases b
  all_goals
    go_enter Try.func77, Try.ntmps77
    go_wp2
    go_ret
    exact ⟨rfl, rfl⟩
set_option maxHeartbeats 1000000 in
theorem divide_any (a b : Int) (w : World) (a0 : -9223372036854775808 ≤ a) (a1 : a ≤ 9223372036854775807) (b0 : -9223372036854775808 ≤ b) (b1 : b ≤ 9223372036854775807) (hb : b ≠ 0) :
    Calls Try.prog 74 #[.int .i64 a, .int .i64 b] w (RetD (.tuple #[.int .i64 (wrap64 (a.fdiv b)), .int .i64 (a.fmod b)]) w) := by
  by_cases h1 : b = -1
  · subst h1
    rw [fdiv_one_neg, fmod_one_neg]
    go_enter Try.func74, Try.ntmps74
    go_wp2
    go_ret2
    exact ⟨rfl, 0, rfl⟩
  · have hb1 : ¬ (b == -1) = true := by simpa using h1
    have hx := i64_xor_neg (a.tmod b) b
    have hr := fdiv_range a0 a1 hb h1
    by_cases hz : a.tmod b = 0
    · have hf := floor_on hb (.inl hz)
      rw [wrap_in hr.1 hr.2, hf.1, hf.2]
      have HE := Lib.hid (show wrap64 (a.tdiv b) = a.tdiv b from wrap_in (hf.1 ▸ hr.1) (hf.1 ▸ hr.2))
      clear hx hf
      go_enter Try.func74, Try.ntmps74
      go_wp2
      go_quiet (fail)
      go_wp2
      go_ret2
      exact ⟨ret_ii HE.out hz.symm, _, rfl⟩
    · have ht := tmod_range (a := a) b0 b1 hb
      have hx' := hx ht.1 ht.2 b0 b1
      by_cases hs : (a.tmod b < 0) ↔ ¬ b < 0
      · have hf := floor_off hb hz hs
        rw [wrap_in hr.1 hr.2, hf.1, hf.2]
        rw [xor_form.2 hs] at hx'
        have HE := Lib.hid (show wrap64 (wrap64 (a.tdiv b) - 1) = a.tdiv b - 1 from by rw [wrap_sub_left]; exact wrap_in (hf.1 ▸ hr.1) (hf.1 ▸ hr.2))
        clear hx hf
        go_enter Try.func74, Try.ntmps74
        go_wp2
        go_quiet (fail)
        go_wp2
        go_ret2
        exact ⟨ret_ii HE.out rfl, _, rfl⟩
      · have hs' : (a.tmod b < 0) ↔ b < 0 := by omega
        have hf := floor_on hb (.inr hs')
        rw [wrap_in hr.1 hr.2, hf.1, hf.2]
        have hx2 : decide (bits .xor .i64 (a.tmod b) b < 0) = false := by
          rw [hx', Bool.eq_false_iff]
          exact fun h => hs (xor_form.1 h)
        have HE := Lib.hid (show wrap64 (a.tdiv b) = a.tdiv b from wrap_in (hf.1 ▸ hr.1) (hf.1 ▸ hr.2))
        clear hx hx' hf
        go_enter Try.func74, Try.ntmps74
        go_wp2
        go_quiet (fail)
        go_wp2
        go_ret2
        exact ⟨ret_ii HE.out rfl, _, rfl⟩
set_option maxHeartbeats 1000000 in
theorem rfloor_any (a b : Int) (w : World) (a0 : -9223372036854775808 ≤ a) (a1 : a ≤ 9223372036854775807) (b0 : -9223372036854775808 ≤ b) (b1 : b ≤ 9223372036854775807) (hb : b ≠ 0) :
    Calls Try.prog 76 #[.int .i64 a, .int .i64 b] w (Ret (.int .i64 (wrap64 (a.fdiv b))) w) := by
  by_cases h1 : b = -1
  · subst h1
    rw [fdiv_one_neg]
    go_enter Try.func76, Try.ntmps76
    go_wp2
    go_ret
    exact ⟨rfl, rfl⟩
  · have hb1 : ¬ (b == -1) = true := by simpa using h1
    have hr := fdiv_range a0 a1 hb h1
    by_cases hz : a.tmod b = 0
    · have hf := floor_on hb (.inl hz)
      rw [wrap_in hr.1 hr.2, hf.1]
      have HE := Lib.hid (show wrap64 (a.tdiv b) = a.tdiv b from wrap_in (hf.1 ▸ hr.1) (hf.1 ▸ hr.2))
      clear hf
      go_enter Try.func76, Try.ntmps76
      go_wp2
      go_ret
      exact ⟨ret_int HE.out, rfl⟩
    · by_cases hs : (a.tmod b < 0) ↔ ¬ b < 0
      · have hf := floor_off hb hz hs
        rw [wrap_in hr.1 hr.2, hf.1]
        have HE := Lib.hid (show wrap64 (wrap64 (a.tdiv b) - 1) = a.tdiv b - 1 from by rw [wrap_sub_left]; exact wrap_in (hf.1 ▸ hr.1) (hf.1 ▸ hr.2))
        rw [tmod_neg_iff hb hz] at hs
        have hq : (!(decide (a < 0) == decide (b < 0))) = true := by
          by_cases h2 : a < 0 <;> by_cases h3 : b < 0 <;> simp only [h2, h3, decide_true, decide_false, Bool.not_true, Bool.not_false] <;> first | rfl | (exfalso; omega)
        clear hf hs
        go_enter Try.func76, Try.ntmps76
        go_wp2
        go_ret
        exact ⟨ret_int HE.out, rfl⟩
      · have hs' : (a.tmod b < 0) ↔ b < 0 := by omega
        have hf := floor_on hb (.inr hs')
        rw [wrap_in hr.1 hr.2, hf.1]
        have HE := Lib.hid (show wrap64 (a.tdiv b) = a.tdiv b from wrap_in (hf.1 ▸ hr.1) (hf.1 ▸ hr.2))
        rw [tmod_neg_iff hb hz] at hs'
        have hq : (!(decide (a < 0) == decide (b < 0))) = false := by
          by_cases h2 : a < 0 <;> by_cases h3 : b < 0 <;> simp only [h2, h3, decide_true, decide_false, Bool.not_true, Bool.not_false] <;> first | rfl | (exfalso; omega)
        clear hf hs hs'
        go_enter Try.func76, Try.ntmps76
        go_wp2
        go_ret
        exact ⟨ret_int HE.out, rfl⟩

set_option maxHeartbeats 2000000 in
theorem ndo_any (op a b : Int) (w : World) (a0 : -9223372036854775808 ≤ a) (a1 : a ≤ 9223372036854775807) (b0 : -9223372036854775808 ≤ b) (b1 : b ≤ 9223372036854775807) :
    Calls Try.prog 67 #[.int .i64 op, .int .i64 a, .int .i64 b] w (RetD (.tuple #[.int .i64 ((doS op a b).getD 0), .bool (doS op a b).isSome]) w) := by
  unfold doS
  by_cases o1 : op = 1
  · subst o1
    go_enter Try.func67, Try.ntmps67
    go_wp2
    go_ret2
    exact ⟨ret_ib rfl rfl, 0, rfl⟩
  rw [if_neg o1]
  by_cases o2 : op = 2
  · subst o2
    go_enter Try.func67, Try.ntmps67
    go_wp2
    go_ret2
    exact ⟨ret_ib (by show wrap64 (a + wrap64 (-b)) = wrap64 (a - b); rw [wrap_add_right, Int.sub_eq_add_neg]) rfl, 0, rfl⟩
  rw [if_neg o2]
  by_cases o3 : op = 3
  · subst o3
    go_enter Try.func67, Try.ntmps67
    go_wp2
    go_ret2
    exact ⟨ret_ib rfl rfl, 0, rfl⟩
  rw [if_neg o3]
  by_cases o4 : op = 4
  · subst o4
    by_cases hb : b = 0
    · subst hb
      go_enter Try.func67, Try.ntmps67
      go_wp2
      go_ret2
      exact ⟨ret_ib rfl rfl, 0, rfl⟩
    · rw [if_pos rfl, if_neg hb]
      go_enter Try.func67, Try.ntmps67
      go_wp2_with (go_at_call 74; refine (divide_any _ _ _ (by assumption) (by assumption) (by assumption) (by assumption) (by assumption)).mono ?_; rintro e w' ⟨rfl, n, rfl⟩)
      go_ret2
      exact ⟨ret_ib rfl rfl, _, rfl⟩
  rw [if_neg o4]
  by_cases o5 : op = 5
  · subst o5
    by_cases hb : b = 0
    · subst hb
      go_enter Try.func67, Try.ntmps67
      go_wp2
      go_ret2
      exact ⟨ret_ib rfl rfl, 0, rfl⟩
    · rw [if_pos rfl, if_neg hb]
      go_enter Try.func67, Try.ntmps67
      go_wp2_with (go_at_call 74; refine (divide_any _ _ _ (by assumption) (by assumption) (by assumption) (by assumption) (by assumption)).mono ?_; rintro e w' ⟨rfl, n, rfl⟩)
      go_ret2
      exact ⟨ret_ib rfl rfl, _, rfl⟩
  rw [if_neg o5]
  by_cases o6 : op = 6
  · subst o6
    by_cases hb : a < b
    all_goals
      first | rw [if_pos rfl, if_pos hb] | rw [if_pos rfl, if_neg hb]
      go_enter Try.func67, Try.ntmps67
      go_wp2_with (go_at_call 75; refine (nflag_any _ _).mono ?_; rintro e w' ⟨rfl, rfl⟩)
      go_ret2
      exact ⟨ret_ib rfl rfl, 0, rfl⟩
  rw [if_neg o6]
  by_cases o7 : op = 7
  · subst o7
    by_cases hb : a ≤ b
    all_goals
      first | rw [if_pos rfl, if_pos hb] | rw [if_pos rfl, if_neg hb]
      go_enter Try.func67, Try.ntmps67
      go_wp2_with (go_at_call 75; refine (nflag_any _ _).mono ?_; rintro e w' ⟨rfl, rfl⟩)
      go_ret2
      exact ⟨ret_ib rfl rfl, 0, rfl⟩
  rw [if_neg o7]
  by_cases o8 : op = 8
  · subst o8
    by_cases hb : a = b
    all_goals
      first | rw [if_pos rfl, if_pos hb] | rw [if_pos rfl, if_neg hb]
      go_enter Try.func67, Try.ntmps67
      go_wp2_with (go_at_call 75; refine (nflag_any _ _).mono ?_; rintro e w' ⟨rfl, rfl⟩)
      go_ret2
      exact ⟨ret_ib rfl rfl, 0, rfl⟩
  rw [if_neg o8]
  go_enter Try.func67, Try.ntmps67
  go_wp2
  go_ret2
  exact ⟨ret_ib rfl rfl, 0, rfl⟩

set_option maxHeartbeats 2000000 in
theorem rdo_any (op a b : Int) (w : World) (a0 : -9223372036854775808 ≤ a) (a1 : a ≤ 9223372036854775807) (b0 : -9223372036854775808 ≤ b) (b1 : b ≤ 9223372036854775807) :
    Calls Try.prog 68 #[.int .i64 op, .int .i64 a, .int .i64 b] w (RetD (.tuple #[.int .i64 ((doS op a b).getD 0), .bool (doS op a b).isSome]) w) := by
  unfold doS
  by_cases o1 : op = 1
  · subst o1
    go_enter Try.func68, Try.ntmps68
    go_wp2
    go_ret2
    exact ⟨ret_ib rfl rfl, 0, rfl⟩
  rw [if_neg o1]
  by_cases o2 : op = 2
  · subst o2
    go_enter Try.func68, Try.ntmps68
    go_wp2
    go_ret2
    exact ⟨ret_ib rfl rfl, 0, rfl⟩
  rw [if_neg o2]
  by_cases o3 : op = 3
  · subst o3
    go_enter Try.func68, Try.ntmps68
    go_wp2
    go_ret2
    exact ⟨ret_ib rfl rfl, 0, rfl⟩
  rw [if_neg o3]
  by_cases o4 : op = 4
  · subst o4
    by_cases hb : b = 0
    · subst hb
      go_enter Try.func68, Try.ntmps68
      go_wp2
      go_ret2
      exact ⟨ret_ib rfl rfl, 0, rfl⟩
    · rw [if_pos rfl, if_neg hb]
      go_enter Try.func68, Try.ntmps68
      go_wp2_with (go_at_call 76; refine (rfloor_any _ _ _ (by assumption) (by assumption) (by assumption) (by assumption) (by assumption)).mono ?_; rintro e w' ⟨rfl, rfl⟩)
      go_ret2
      exact ⟨ret_ib rfl rfl, 0, rfl⟩
  rw [if_neg o4]
  by_cases o5 : op = 5
  · subst o5
    by_cases hb : b = 0
    · subst hb
      go_enter Try.func68, Try.ntmps68
      go_wp2
      go_ret2
      exact ⟨ret_ib rfl rfl, 0, rfl⟩
    · rw [if_pos rfl, if_neg hb]
      have hm := rem_law (b := b) a0 a1 b0 b1 hb
      have HM := Lib.hid hm
      clear hm
      go_enter Try.func68, Try.ntmps68
      go_wp2_with (go_at_call 76; refine (rfloor_any _ _ _ (by assumption) (by assumption) (by assumption) (by assumption) (by assumption)).mono ?_; rintro e w' ⟨rfl, rfl⟩)
      go_ret2
      exact ⟨ret_ib HM.out rfl, 0, rfl⟩
  rw [if_neg o5]
  by_cases o6 : op = 6
  · subst o6
    by_cases hb : a < b
    all_goals
      first | rw [if_pos rfl, if_pos hb] | rw [if_pos rfl, if_neg hb]
      go_enter Try.func68, Try.ntmps68
      go_wp2_with (go_at_call 77; refine (rone_any _ _).mono ?_; rintro e w' ⟨rfl, rfl⟩)
      go_ret2
      exact ⟨ret_ib rfl rfl, 0, rfl⟩
  rw [if_neg o6]
  by_cases o7 : op = 7
  · subst o7
    by_cases hb : a ≤ b
    all_goals
      first | rw [if_pos rfl, if_pos hb] | rw [if_pos rfl, if_neg hb]
      go_enter Try.func68, Try.ntmps68
      go_wp2_with (go_at_call 77; refine (rone_any _ _).mono ?_; rintro e w' ⟨rfl, rfl⟩)
      go_ret2
      exact ⟨ret_ib rfl rfl, 0, rfl⟩
  rw [if_neg o7]
  by_cases o8 : op = 8
  · subst o8
    by_cases hb : a = b
    all_goals
      first | rw [if_pos rfl, if_pos hb] | rw [if_pos rfl, if_neg hb]
      go_enter Try.func68, Try.ntmps68
      go_wp2_with (go_at_call 77; refine (rone_any _ _).mono ?_; rintro e w' ⟨rfl, rfl⟩)
      go_ret2
      exact ⟨ret_ib rfl rfl, 0, rfl⟩
  rw [if_neg o8]
  go_enter Try.func68, Try.ntmps68
  go_wp2
  go_ret2
  exact ⟨ret_ib rfl rfl, 0, rfl⟩
end Go.Proofs.Ythhphjfbdoffhaa
