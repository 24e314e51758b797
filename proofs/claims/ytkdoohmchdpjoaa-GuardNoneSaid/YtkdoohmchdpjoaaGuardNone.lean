/-
  GuardNone: a guard that nobody made lets nothing flow but to all.
-/
import Derived.Test.YtkdoohmchdpjoaaGuardAct
set_option linter.unusedVariables false
set_option linter.unusedSimpArgs false
namespace Go.Proofs.Ytkdoohmchdpjoaa
open Go.ChangeShapes Go.WideShapes Go.ChangeAt Go.RowKit

theorem nbranch (l : Nat) (j tag : Int) (w : World) : Calls Try.prog 12 #[.pointer none, .int .u64 (l : Int), .int .i64 j, .int .i64 tag] w (Ret (.tuple #[]) w) := by
  go_enter Try.func12, Try.ntmps12
  go_wp2
  refine bodyPost_ret (results_none rfl _ _ _) rfl ?_
  exact ⟨rfl, rfl⟩
theorem nat_ (p : Int) (w : World) : Calls Try.prog 13 #[.pointer none, .int .i64 p] w (Ret (.slice none 0 0) w) := by
  go_enter Try.func13, Try.ntmps13
  go_wp2
  go_ret
  exact ⟨rfl, rfl⟩
theorem npc (w : World) : Calls Try.prog 15 #[.pointer none] w (Ret (.int .u64 18446744073709551615) w) := by
  go_enter Try.func15, Try.ntmps15
  go_wp2
  go_ret
  exact ⟨rfl, rfl⟩
theorem ndeep (w : World) : Calls Try.prog 17 #[.pointer none] w (Ret (.int .i64 0) w) := by
  go_enter Try.func17, Try.ntmps17
  go_wp2
  go_ret
  exact ⟨rfl, rfl⟩
theorem flows_all (l : Nat) (hl : l < 18446744073709551616) : flowsB 18446744073709551615 l = ((l : Int) == 18446744073709551615) := by
  rw [Bool.eq_iff_iff, flowsB_iff]
  constructor
  · intro h
    have : l = 18446744073709551615 := by
      apply Nat.eq_of_testBit_eq
      intro i
      have e := Nat.testBit_two_pow_sub_one 64 i
      rw [show 2 ^ 64 - 1 = 18446744073709551615 from by decide] at e
      rw [e]
      by_cases hi : i < 64
      · rw [h i (by rw [e]; simpa using hi)]; simp [hi]
      · cases hb : l.testBit i
        · simp [hi]
        · exact absurd (bit_lt hl hb) hi
    subst this
    rfl
  · intro h i hi
    have : l = 18446744073709551615 := by
      have := eq_of_beq h
      omega
    subst this
    exact hi
theorem nmay (l : Nat) (w : World) (hl : l < 18446744073709551616) : Calls Try.prog 20 #[.pointer none, .int .u64 (l : Int)] w (Ret (.bool (flowsB 18446744073709551615 l)) w) := by
  go_enter Try.func20, Try.ntmps20
  go_wp2_with (first | (go_at_call 15; refine (npc _).mono ?_; rintro e w' ⟨rfl, rfl⟩) | (go_at_call 35; refine (flows_any 18446744073709551615 _ _ (by decide) hl).mono ?_; rintro e w' ⟨rfl, rfl⟩))
  go_ret
  exact ⟨rfl, rfl⟩

set_option maxRecDepth 100000 in
theorem gnone_walk (l : Nat) (a : GAct) (w : World) (hl : l < 18446744073709551616) (ha : a.L < 18446744073709551616) :
    Calls Try.prog 6 #[.int .u64 (l : Int), .agg #[.int .i64 a.act, .int .u64 (a.L : Int), .int .i64 a.place, .int .i64 a.tag]] w (RetB (.bool true) w) := by
  go_enter Try.func6, Try.ntmps6
  go_wp2_with fail
  refine (awake22 _).mono ?_
  rintro e w1 ⟨rfl, hb1⟩
  have hbx := heap_alloc_new w (.cells #[.int .i64 a.act, .int .u64 (a.L : Int), .int .i64 a.place, .int .i64 a.tag] 26)
  have hbx1 := below_blk hb1 hbx
  have hbw : Below w.heap.size w w1 := ((Below.refl _ _).alloc (Nat.le_refl _) _).trans (hb1.mono (by simp))
  clear hbx hb1
  have ha0 := cell_of_blk (i := 1) hbx1 rfl
  have ha1 := cell_of_blk (i := 2) hbx1 rfl
  have ha2 := cell_of_blk (i := 3) hbx1 rfl
  have hfl := flows_all l hl
  have HF := Lib.hid hfl
  clear hfl
  go_wp2_with (first | (go_at_call 12; refine (nbranch _ _ _ _).mono ?_; rintro e w' ⟨rfl, rfl⟩) | (go_at_call 13; refine (nat_ _ _).mono ?_; rintro e w' ⟨rfl, rfl⟩) | (go_at_call 15; refine (npc _).mono ?_; rintro e w' ⟨rfl, rfl⟩) | (go_at_call 17; refine (ndeep _).mono ?_; rintro e w' ⟨rfl, rfl⟩) | (go_at_call 20; refine (nmay _ _ hl).mono ?_; rintro e w' ⟨rfl, rfl⟩))
  go_ret
  exact ⟨ret_bool (by show (flowsB 18446744073709551615 l == ((l : Int) == 18446744073709551615)) = true; rw [HF.out]; simp), hbw⟩

set_option maxRecDepth 100000 in
theorem gnone_lifted (os : Os) (started : os.Started) (H : Type) (enc : TypeId × Value → H) :
    ReturnsInHanded {} Try.checked os 6 .any (Rows.guardNoneSpec.pre6 enc Try.prog Try.f6 Rows.guardNoneRow.domain false) (Rows.guardNoneSpec.post enc Try.prog Try.f6 false true false false) := by
  refine returnsInHanded_of_change_sized (C := Try.checked) own started (by kernel_rfl) Try.func6
    (ChangeSpec.witness6 (enc := enc) (C := Try.checked) false ⟨#[], #[.int .u64 0, .agg #[.int .i64 0, .int .u64 0, .int .i64 0, .int .i64 0]], []⟩ 8 (by kernel_rfl) (by kernel_rfl) (by kernel_rfl) (by kernel_rfl)) ?_
  intro W base args ds gs before hval0 hW hcnd hsz0 _
  have hval : ∀ (j : Nat) t v, Try.f6.params[j]? = some t → args[j]? = some v → Value.okWide Try.prog W .any base t v := hval0
  have hsz : (DataW.weightsEach Try.prog (Try.f6.params.toList ++ Rows.guardNoneSpec.plain.varTypes Try.prog) (ds ++ gs)).all (· ≤ reachBytes) = true := hsz0
  have hW' := hW
  obtain ⟨p, q, hA0, hV, rfl, hfz, hnd⟩ := hW
  have hA : DataW.TrodAll enc Try.prog W 0 (fun _ => true) true Try.f6.params.toList args.toList ds p := hA0
  rw [Try.params6] at hA hval hsz
  obtain ⟨v0, vs0, d0, ds0, p0, q0, hargs0, rfl, rfl, h0, r0⟩ := trodAll_cons hA
  obtain ⟨v1, vs1, d1, ds1, p1, q1, rfl, rfl, rfl, h1, r1⟩ := trodAll_cons r0
  obtain ⟨rfl, rfl, rfl⟩ := trodAll_nil r1
  obtain rfl : args = #[v0, v1] := by cases args; simp_all
  obtain ⟨rfl, rfl⟩ := trodVars_none hV
  obtain ⟨l, rfl, w0⟩ := open_nat Try.underlying23 (hval 0 23 v0 rfl rfl) h0
  obtain ⟨a, rfl, w1⟩ := open_agg (.inl ⟨_, Try.underlying26⟩) (hval 1 26 v1 rfl rfl) h1 decGAct
  refine (gnone_walk l a W w0 w1).mono fun e W' ⟨he, hb⟩ => ⟨_, he, ?_⟩
  exact law_post laidOut hW' rfl rfl Try.underlying4 (by kernel_rfl) rfl rfl rfl hb

theorem gnone_holds : Rows.GuardNoneSaid :=
  OpenClaim.holds_of_wide 6 Try.f6 rfl rfl rfl rfl rfl rfl rfl ⟨rfl, rfl, rfl, rfl, rfl⟩ rfl rfl rfl rfl rfl (by kernel_rfl) Try.func6 (by kernel_rfl)
    (of_decide_eq_true (by kernel_rfl)) (by unfold Func.isWrapper; first | (rw [if_pos (by decide +kernel)]; kernel_rfl) | (rw [if_neg (by decide +kernel)]; exact ⟨rfl, rfl⟩))
    (fun os started H enc _ => gnone_lifted os started H enc)
#print axioms gnone_holds
end Go.Proofs.Ytkdoohmchdpjoaa
