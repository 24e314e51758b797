/-
  NumDivides: the quotient times the divisor, and the rest, are what was divided; the rest has the divisor's sign, and is smaller.
-/
import Derived.Test.YtmlofnnfpedpdaaDoorNumDoor
set_option linter.unusedVariables false
set_option linter.unusedSimpArgs false
namespace Go.Proofs.YtmlofnnfpedpdaaDoor
open Go.ChangeShapes Go.WideShapes Go.ChangeAt Go.RowKit Go.ChangeMaps

set_option maxHeartbeats 2000000 in
theorem ndivides_walk (a b : Int) (w : World) (ht : Tab w) (a0 : -9223372036854775808 ≤ a) (a1 : a ≤ 9223372036854775807) (b0 : -9223372036854775808 ≤ b) (b1 : b ≤ 9223372036854775807) :
    Calls Tryd.prog 7 #[.int .i64 a, .int .i64 b] w (RetB (.bool true) w) := by
  have h1 := fun w => ndo_any 4 a b w a0 a1 b0 b1
  have h2 := fun w => ndo_any 5 a b w a0 a1 b0 b1
  by_cases hb0 : b = 0
  · have e1 : doS 4 a b = none := by unfold doS; simp [hb0]
    have e2 : doS 5 a b = none := by unfold doS; simp [hb0]
    rw [e1] at h1
    rw [e2] at h2
    subst hb0
    clear e1 e2
    go_enter Tryd.func7, Tryd.ntmps7
    go_wp2_with fail
    refine (awake02 _ ht).mono ?_
    rintro e w1 ⟨rfl, hb1⟩
    go_wp2_with fail
    refine (h1 _).mono ?_
    rintro e w2 ⟨rfl, n2, rfl⟩
    go_wp2_with fail
    refine (h2 _).mono ?_
    rintro e w3 ⟨rfl, n3, rfl⟩
    go_wp2
    go_ret
    exact ⟨rfl, below_drewN hb1 _⟩
  · have e1 : doS 4 a b = some (wrap64 (a.fdiv b)) := by unfold doS; simp [hb0]
    have e2 : doS 5 a b = some (a.fmod b) := by unfold doS; simp [hb0]
    have hlaw := div_law (b := b) a0 a1
    have hp := fun h : 0 < b => fmod_pos (a := a) h
    have hn := fun h : b < 0 => fmod_neg (a := a) h
    rw [e1] at h1
    rw [e2] at h2
    generalize wrap64 (a.fdiv b) = q at h1 hlaw
    generalize a.fmod b = r at h2 hlaw hp hn
    clear e1 e2
    have h1' : ∀ w, Calls Tryd.prog 10 #[.int .i64 4, .int .i64 a, .int .i64 b] w (RetD (.tuple #[.int .i64 q, .bool true]) w) := h1
    have h2' : ∀ w, Calls Tryd.prog 10 #[.int .i64 5, .int .i64 a, .int .i64 b] w (RetD (.tuple #[.int .i64 r, .bool true]) w) := h2
    have HL := Lib.hid hlaw
    clear hlaw h1 h2
    rcases Int.lt_or_gt_of_ne hb0 with hs | hs
    · have hn' := hn hs
      obtain ⟨hr1, hr2⟩ := hn'
      clear hn hp
      go_enter Tryd.func7, Tryd.ntmps7
      go_wp2_with fail
      refine (awake02 _ ht).mono ?_
      rintro e w1 ⟨rfl, hb1⟩
      go_wp2_with fail
      refine (h1' _).mono ?_
      rintro e w2 ⟨rfl, n2, rfl⟩
      go_wp2_with fail
      refine (h2' _).mono ?_
      rintro e w3 ⟨rfl, n3, rfl⟩
      have hq : wrap64 (wrap64 (q * b) + r) = a := HL.out
      go_wp2
      go_ret
      exact ⟨rfl, below_drewN hb1 _⟩
    · have hn' := hp hs
      obtain ⟨hr1, hr2⟩ := hn'
      clear hn hp
      go_enter Tryd.func7, Tryd.ntmps7
      go_wp2_with fail
      refine (awake02 _ ht).mono ?_
      rintro e w1 ⟨rfl, hb1⟩
      go_wp2_with fail
      refine (h1' _).mono ?_
      rintro e w2 ⟨rfl, n2, rfl⟩
      go_wp2_with fail
      refine (h2' _).mono ?_
      rintro e w3 ⟨rfl, n3, rfl⟩
      have hq : wrap64 (wrap64 (q * b) + r) = a := HL.out
      go_wp2
      go_ret
      exact ⟨rfl, below_drewN hb1 _⟩
set_option maxRecDepth 100000 in
theorem ndivides_lifted (os : Os) (started : os.Started) (H : Type) (enc : TypeId × Value → H) :
    ReturnsInHanded {} Tryd.checked os 7 .any (fun w args => (Rows.numDividesSpec.pre enc Tryd.prog Tryd.f7 [] false w args ∧ laidMetH Tryd.prog Rows.numDividesRow.laid w) ∧ sizedMet enc Tryd.prog Tryd.f7 (OpenSpec.ofChange Rows.numDividesSpec) false w args)
      (Rows.numDividesSpec.post enc Tryd.prog Tryd.f7 false true false false) := by
  refine returnsInHanded_of_change_and (C := Tryd.checked) (X := fun w _ => laidMetH Tryd.prog Rows.numDividesRow.laid w) (fun _ _ _ hh h => h.of_heap hh) own started (by kernel_rfl) Tryd.func7
    (ChangeSpec.witness_shaped (enc := enc) (C := Tryd.checked) (os := os) (X := fun w _ => laidMetH Tryd.prog Rows.numDividesRow.laid w) false (World.doorLaid Tryd.prog 24 os) #[.int .i64 0, .int .i64 0] 8 rfl (World.shaped_of_RefB (by kernel_rfl) (by kernel_rfl)) (by kernel_rfl) (by kernel_rfl) (by kernel_rfl) (door_met os _)) ?_
  intro W base args ds gs before hval0 hW hcnd hsz0 hL _
  have hval : ∀ (j : Nat) t v, Tryd.f7.params[j]? = some t → args[j]? = some v → Value.okWide Tryd.prog W .any base t v := hval0
  have hsz : (DataW.weightsEach Tryd.prog (Tryd.f7.params.toList ++ Rows.numDividesSpec.plain.varTypes Tryd.prog) (ds ++ gs)).all (· ≤ reachBytes) = true := hsz0
  have hW' := hW
  obtain ⟨p, q, hA0, hV, rfl, hfz, hnd⟩ := hW
  have hA : DataW.TrodAll enc Tryd.prog W 0 (fun _ => true) true Tryd.f7.params.toList args.toList ds p := hA0
  rw [Tryd.params7] at hA hval hsz
  obtain ⟨v0, vs0, d0, ds0, p0, q0, hargs0, rfl, rfl, h0, r0⟩ := trodAll_cons hA
  obtain ⟨v1, vs1, d1, ds1, p1, q1, rfl, rfl, rfl, h1, r1⟩ := trodAll_cons r0
  obtain ⟨rfl, rfl, rfl⟩ := trodAll_nil r1
  obtain rfl : args = #[v0, v1] := by cases args; simp_all
  obtain ⟨rfl, rfl⟩ := trodVars_none hV
  obtain ⟨a, rfl, rfl, rfl, w0⟩ := open_int Tryd.underlying2 (hval 0 2 v0 rfl rfl) h0
  obtain ⟨b, rfl, rfl, rfl, w1⟩ := open_int Tryd.underlying2 (hval 1 2 v1 rfl rfl) h1
  refine (ndivides_walk a b W (table hL) (wf_i64 w0).1 (wf_i64 w0).2 (wf_i64 w1).1 (wf_i64 w1).2).mono fun e W' ⟨he, hb⟩ => ⟨_, he, ?_⟩
  exact law_post laidOut hW' rfl rfl Tryd.underlying4 (by kernel_rfl) rfl rfl rfl hb
theorem ndivides_holds : Rows.NumDividesSaid :=
  OpenClaim.holds_of_wide 7 Tryd.f7 rfl rfl rfl rfl rfl rfl rfl ⟨rfl, rfl, rfl, rfl, rfl⟩ rfl rfl rfl rfl rfl (by kernel_rfl) Tryd.func7 (by kernel_rfl)
    (of_decide_eq_true (by kernel_rfl)) (by unfold Func.isWrapper; first | (rw [if_pos (by decide +kernel)]; kernel_rfl) | (rw [if_neg (by decide +kernel)]; exact ⟨rfl, rfl⟩))
    (fun os started H enc _ => ndivides_lifted os started H enc)
theorem ndivides_plain (f : FuncId) (fn : Func) (hf : Tryd.pinned.checked.prog.funcNamed Rows.numDividesRow.func = some f) (hfn : Tryd.pinned.checked.prog.funcs[f]? = some fn) :
    false = Tryd.pinned.checked.prog.looks [] ∧ ∀ (j : Nat) t, fn.params[j]? = some t → Tryd.pinned.checked.prog.wantsStandIn t = false := by
  obtain rfl : f = 7 := Option.some.inj ((show Tryd.prog.funcNamed Rows.numDividesRow.func = some 7 by kernel_rfl).symm.trans hf) |>.symm
  obtain rfl : fn = Tryd.f7 := (Option.some.inj (Tryd.func7.symm.trans hfn)).symm
  refine ⟨by kernel_rfl, fun j t ht => ?_⟩
  rw [Tryd.params7] at ht
  have hm : t ∈ [2] := by have := Array.mem_of_getElem? ht; simp at this ⊢; omega
  have hall : ([2].all fun u => !Tryd.prog.wantsStandIn u) = true := by kernel_rfl
  exact (show Tryd.prog.wantsStandIn t = false by simpa using List.all_eq_true.1 hall t hm)
theorem ndivides_card : Rows.NumDividesCardSaid :=
  Claim7.holds_tied_plain_at .later [] _ _ _ _ ndivides_holds (fun _ h => by cases h) (by kernel_rfl) (fun _ h => by cases h) numDivides_row_tie rfl ⟨rfl, rfl⟩ (by kernel_rfl) rfl ndivides_plain (by kernel_rfl)
#print axioms ndivides_card
end Go.Proofs.YtmlofnnfpedpdaaDoor
