/-
  TraceAlike: the arguments opened; what the row's list gives; the given card.
-/
import Derived.Test.YthgcadikinfdiaaDoorTrQ
import Derived.Test.YthgcadikinfdiaaDoorTrM
import Derived.Test.YthgcadikinfdiaaDoorCards
import Derived.Test.YthgcadikinfdiaaDoorTie
import Derived.LaidMore
import Derived.OpenShut
import Derived.Stop.Joined
import Derived.Stop.LaidErr
import Derived.Deep.DeepHandedRow
import Derived.SevenTiedAt
set_option linter.unusedVariables false
set_option linter.unusedSimpArgs false
namespace Go.Proofs.YthgcadikinfdiaaDoor
open Go.ChangeShapes Go.WideShapes Go.ChangeAt Go.RowKit Go.ChangeMaps

theorem gp_type : (Tryd.prog.globals[0]?).map (·.type) = some 72 := by kernel_rfl
theorem table {W : World} (h : laidMetH Tryd.prog Rows.traceAlikeRow.laid W) : Tab W := by
  rw [MakeChecks.laidMetH_plain _ _ _ (by kernel_rfl)] at h
  have h2 : laidMet Tryd.prog (("internal/strconv.uint64pow10", Lib.tabData .u64 Lib.pow10Tab) :: []) W := laidMet.tail (laidMet.tail h)
  exact Lib.tabIs_of_head g_pow10 gp_type Tryd.underlying72 Tryd.underlying23 (by kernel_rfl) (by kernel_rfl) h2
theorem door_met (os : Os) (args : Array Value) : laidMetH Tryd.prog Rows.traceAlikeRow.laid ((World.doorLaid Tryd.prog 24 os).forCall (fun _ _ => 0) ⟨#[], args, []⟩).memory :=
  laidMetH_of_parts3 (fuel := 8) (laidMet_of_run' 8 (by kernel_rfl) (by kernel_rfl)) (by kernel_rfl) (by kernel_rfl)
set_option maxRecDepth 100000 in
theorem talike_lifted (os : Os) (started : os.Started) (H : Type) (enc : TypeId × Value → H) :
    ReturnsInHanded {} Tryd.checked os 7 .any (fun w args => (Rows.traceAlikeSpec.pre enc Tryd.prog Tryd.f7 [] false w args ∧ laidMetH Tryd.prog Rows.traceAlikeRow.laid w) ∧ sizedMet enc Tryd.prog Tryd.f7 (OpenSpec.ofChange Rows.traceAlikeSpec) false w args)
      (Rows.traceAlikeSpec.post enc Tryd.prog Tryd.f7 false true false false) := by
  refine returnsInHanded_of_change_and (C := Tryd.checked) (X := fun w _ => laidMetH Tryd.prog Rows.traceAlikeRow.laid w) (fun _ _ _ hh h => h.of_heap hh) own started (by kernel_rfl) Tryd.func7
    (ChangeSpec.witness_shaped (enc := enc) (C := Tryd.checked) (os := os) (X := fun w _ => laidMetH Tryd.prog Rows.traceAlikeRow.laid w) false (World.doorLaid Tryd.prog 24 os) #[.agg #[.slice none 0 0, .slice none 0 0, .slice none 0 0, .slice none 0 0, .slice none 0 0, .slice none 0 0, .slice none 0 0, .slice none 0 0], .agg #[.slice none 0 0, .slice none 0 0, .slice none 0 0, .slice none 0 0, .slice none 0 0, .slice none 0 0, .slice none 0 0, .slice none 0 0], .agg #[.int .u64 0, .int .u64 0, .int .u64 0, .int .u64 0, .int .u64 0, .int .u64 0, .int .u64 0, .int .u64 0], .int .u64 0] 8 rfl (World.shaped_of_RefB (by kernel_rfl) (by kernel_rfl)) (by kernel_rfl) (by kernel_rfl) (by kernel_rfl) (door_met os _)) ?_
  intro W base args ds gs before hval0 hW hcnd hsz0 hL _
  have hval : ∀ (j : Nat) t v, Tryd.f7.params[j]? = some t → args[j]? = some v → Value.okWide Tryd.prog W .any base t v := hval0
  have hsz : (DataW.weightsEach Tryd.prog (Tryd.f7.params.toList ++ Rows.traceAlikeSpec.plain.varTypes Tryd.prog) (ds ++ gs)).all (· ≤ reachBytes) = true := hsz0
  have hW' := hW
  obtain ⟨p, q, hA0, hV, rfl, hfz, hnd⟩ := hW
  have hA : DataW.TrodAll enc Tryd.prog W 0 (fun _ => true) true Tryd.f7.params.toList args.toList ds p := hA0
  rw [Tryd.params7] at hA hval hsz
  obtain ⟨v0, vs0, d0, ds0, p0, q0, hargs0, rfl, rfl, h0, r0⟩ := trodAll_cons hA
  obtain ⟨v1, vs1, d1, ds1, p1, q1, rfl, rfl, rfl, h1, r1⟩ := trodAll_cons r0
  obtain ⟨v2, vs2, d2, ds2, p2, q2, rfl, rfl, rfl, h2, r2⟩ := trodAll_cons r1
  obtain ⟨v3, vs3, d3, ds3, p3, q3, rfl, rfl, rfl, h3, r3⟩ := trodAll_cons r2
  obtain ⟨rfl, rfl, rfl⟩ := trodAll_nil r3
  obtain rfl : args = #[v0, v1, v2, v3] := by cases args; simp_all
  obtain ⟨rfl, rfl⟩ := trodVars_none hV
  obtain ⟨ss, rfl, w0⟩ := open_agg (.inr ⟨_, _, Tryd.underlying35⟩) (hval 0 35 v0 rfl rfl) h0 (decArr Tryd.underlying35 (K := 1) (by kernel_rfl) (by kernel_rfl) (fun _ => rfl) (decSlice Tryd.underlying33 (K := 1) (by kernel_rfl) (by omega) (fun _ => rfl) (decInt Tryd.underlying2)))
  obtain ⟨rr, rfl, w1⟩ := open_agg (.inr ⟨_, _, Tryd.underlying35⟩) (hval 1 35 v1 rfl rfl) h1 (decArr Tryd.underlying35 (K := 1) (by kernel_rfl) (by kernel_rfl) (fun _ => rfl) (decSlice Tryd.underlying33 (K := 1) (by kernel_rfl) (by omega) (fun _ => rfl) (decInt Tryd.underlying2)))
  obtain ⟨ms, rfl, w2⟩ := open_agg (.inr ⟨_, _, Tryd.underlying25⟩) (hval 2 25 v2 rfl rfl) h2 (decArr Tryd.underlying25 (K := 1) (by kernel_rfl) (by kernel_rfl) (fun _ => rfl) (decNat Tryd.underlying24))
  obtain ⟨see, rfl, w3⟩ := open_nat Tryd.underlying24 (hval 3 24 v3 rfl rfl) h3
  have hcall := talike_walk (mOf ms) see (sOf ss) (sOf rr) W (masks_lt w2) w3 (ins_ok w0 (sized_arg hsz (j := 0) rfl rfl)) (ins_ok w1 (sized_arg hsz (j := 1) rfl rfl)) (table hL)
  rw [← masks_form w2.len, ← ins_form w0.len, ← ins_form w1.len] at hcall
  refine (hcall).mono fun e W' ⟨he, hb⟩ => ⟨_, he, ?_⟩
  exact law_post laidOut hW' rfl rfl Tryd.underlying4 (by kernel_rfl) rfl rfl rfl hb
theorem talike_holds : Rows.TraceAlikeSaid :=
  OpenClaim.holds_of_wide 7 Tryd.f7 rfl rfl rfl rfl rfl rfl rfl ⟨rfl, rfl, rfl, rfl, rfl⟩ rfl rfl rfl rfl rfl (by kernel_rfl) Tryd.func7 (by kernel_rfl)
    (of_decide_eq_true (by kernel_rfl)) (by unfold Func.isWrapper; first | (rw [if_pos (by decide +kernel)]; kernel_rfl) | (rw [if_neg (by decide +kernel)]; exact ⟨rfl, rfl⟩))
    (fun os started H enc _ => talike_lifted os started H enc)
theorem talike_plain (f : FuncId) (fn : Func) (hf : Tryd.pinned.checked.prog.funcNamed Rows.traceAlikeRow.func = some f) (hfn : Tryd.pinned.checked.prog.funcs[f]? = some fn) :
    false = Tryd.pinned.checked.prog.looks [] ∧ ∀ (j : Nat) t, fn.params[j]? = some t → Tryd.pinned.checked.prog.wantsStandIn t = false := by
  obtain rfl : f = 7 := Option.some.inj ((show Tryd.prog.funcNamed Rows.traceAlikeRow.func = some 7 by kernel_rfl).symm.trans hf) |>.symm
  obtain rfl : fn = Tryd.f7 := (Option.some.inj (Tryd.func7.symm.trans hfn)).symm
  refine ⟨by kernel_rfl, fun j t ht => ?_⟩
  rw [Tryd.params7] at ht
  have hm : t ∈ [25, 35, 24] := by have := Array.mem_of_getElem? ht; simp at this ⊢; first | omega | (rcases this with h | h | h | h <;> simp [h]) | (rcases this with h | h | h <;> simp [h]) | (rcases this with h | h <;> simp [h])
  have hall : ([25, 35, 24].all fun u => !Tryd.prog.wantsStandIn u) = true := by kernel_rfl
  exact (show Tryd.prog.wantsStandIn t = false by simpa using List.all_eq_true.1 hall t hm)
theorem talike_card : Rows.TraceAlikeCardSaid :=
  Claim7.holds_tied_plain_at .later [] _ _ _ _ talike_holds (fun _ h => by cases h) (by kernel_rfl) (fun _ h => by cases h) traceAlike_row_tie rfl ⟨rfl, rfl⟩ (by kernel_rfl) rfl talike_plain (by kernel_rfl)
#print axioms talike_card
end Go.Proofs.YthgcadikinfdiaaDoor
