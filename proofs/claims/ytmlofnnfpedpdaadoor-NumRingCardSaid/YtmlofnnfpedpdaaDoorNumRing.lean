/-
  NumRing: sums and products don't hang on the order, products part over sums.
-/
import Derived.Test.YtmlofnnfpedpdaaDoorNumDoor
set_option linter.unusedVariables false
set_option linter.unusedSimpArgs false
namespace Go.Proofs.YtmlofnnfpedpdaaDoor
open Go.ChangeShapes Go.WideShapes Go.ChangeAt Go.RowKit Go.ChangeMaps

theorem do_add (a b : Int) : doS 1 a b = some (wrap64 (a + b)) := by unfold doS; rw [if_pos rfl]
theorem do_sub (a b : Int) : doS 2 a b = some (wrap64 (a - b)) := by unfold doS; rw [if_neg (by decide), if_pos rfl]
theorem do_mul (a b : Int) : doS 3 a b = some (wrap64 (a * b)) := by unfold doS; rw [if_neg (by decide), if_neg (by decide), if_pos rfl]
theorem got {P : Program} {f : FuncId} {args : Array Value} {r : Option Int} {v : Int} (hr : r = some v) (h : ∀ w, Calls P f args w (RetD (.tuple #[.int .i64 (r.getD 0), .bool r.isSome]) w)) (w : World) : Calls P f args w (RetD (.tuple #[.int .i64 v, .bool true]) w) := by
  subst hr
  exact h w
set_option maxHeartbeats 2000000 in
theorem nring_walk (a b c : Int) (w : World) (ht : Tab w) (a0 : -9223372036854775808 ≤ a) (a1 : a ≤ 9223372036854775807) (b0 : -9223372036854775808 ≤ b) (b1 : b ≤ 9223372036854775807) (c0 : -9223372036854775808 ≤ c) (c1 : c ≤ 9223372036854775807) :
    Calls Tryd.prog 8 #[.int .i64 a, .int .i64 b, .int .i64 c] w (RetB (.bool true) w) := by
  have hsr := wrap_range (a + b)
  have har := wrap_range (a * c)
  have hbr := wrap_range (c * b)
  have hpq := ring_law a b c
  have hbk := back_law (b := b) a0 a1
  have h1 := got (do_add a b) fun w => ndo_any 1 a b w a0 a1 b0 b1
  have h2 := got (do_add b a) fun w => ndo_any 1 b a w b0 b1 a0 a1
  rw [Int.add_comm b a] at h2
  have h4 := got (do_mul a c) fun w => ndo_any 3 a c w a0 a1 c0 c1
  have h5 := got (do_mul c b) fun w => ndo_any 3 c b w c0 c1 b0 b1
  have h3 := fun (s : Int) s0 s1 => got (do_mul s c) fun w => ndo_any 3 s c w s0 s1 c0 c1
  have h6 := fun (x y : Int) x0 x1 y0 y1 => got (do_add x y) fun w => ndo_any 1 x y w x0 x1 y0 y1
  have h7 := fun (s : Int) s0 s1 => got (do_sub s b) fun w => ndo_any 2 s b w s0 s1 b0 b1
  generalize wrap64 (a + b) = s at hsr hpq hbk h1 h2
  generalize wrap64 (a * c) = x at har hpq h4
  generalize wrap64 (c * b) = y at hbr hpq h5
  have h3 := h3 s hsr.1 hsr.2
  have h6 := h6 x y har.1 har.2 hbr.1 hbr.2
  have h7 := h7 s hsr.1 hsr.2
  rw [hpq] at h3
  rw [hbk] at h7
  generalize wrap64 (x + y) = p at h3 h6
  clear hsr har hbr hpq hbk
  go_enter Tryd.func8, Tryd.ntmps8
  go_wp2_with fail
  refine (awake02 _ ht).mono ?_
  rintro e w1 ⟨rfl, hb1⟩
  go_wp2_with fail
  refine (h1 _).mono ?_
  rintro e w2 ⟨rfl, m1, rfl⟩
  go_wp2_with fail
  refine (h2 _).mono ?_
  rintro e w2 ⟨rfl, m2, rfl⟩
  go_wp2_with fail
  refine (h3 _).mono ?_
  rintro e w2 ⟨rfl, m3, rfl⟩
  go_wp2_with fail
  refine (h4 _).mono ?_
  rintro e w2 ⟨rfl, m4, rfl⟩
  go_wp2_with fail
  refine (h5 _).mono ?_
  rintro e w2 ⟨rfl, m5, rfl⟩
  go_wp2_with fail
  refine (h6 _).mono ?_
  rintro e w2 ⟨rfl, m6, rfl⟩
  go_wp2_with fail
  refine (h7 _).mono ?_
  rintro e w2 ⟨rfl, m7, rfl⟩
  go_wp2
  go_ret
  exact ⟨rfl, below_drewN hb1 _⟩
set_option maxRecDepth 100000 in
theorem nring_lifted (os : Os) (started : os.Started) (H : Type) (enc : TypeId × Value → H) :
    ReturnsInHanded {} Tryd.checked os 8 .any (fun w args => (Rows.numRingSpec.pre enc Tryd.prog Tryd.f8 [] false w args ∧ laidMetH Tryd.prog Rows.numRingRow.laid w) ∧ sizedMet enc Tryd.prog Tryd.f8 (OpenSpec.ofChange Rows.numRingSpec) false w args)
      (Rows.numRingSpec.post enc Tryd.prog Tryd.f8 false true false false) := by
  refine returnsInHanded_of_change_and (C := Tryd.checked) (X := fun w _ => laidMetH Tryd.prog Rows.numRingRow.laid w) (fun _ _ _ hh h => h.of_heap hh) own started (by kernel_rfl) Tryd.func8
    (ChangeSpec.witness_shaped (enc := enc) (C := Tryd.checked) (os := os) (X := fun w _ => laidMetH Tryd.prog Rows.numRingRow.laid w) false (World.doorLaid Tryd.prog 24 os) #[.int .i64 0, .int .i64 0, .int .i64 0] 8 rfl (World.shaped_of_RefB (by kernel_rfl) (by kernel_rfl)) (by kernel_rfl) (by kernel_rfl) (by kernel_rfl) (door_met os _)) ?_
  intro W base args ds gs before hval0 hW hcnd hsz0 hL _
  have hval : ∀ (j : Nat) t v, Tryd.f8.params[j]? = some t → args[j]? = some v → Value.okWide Tryd.prog W .any base t v := hval0
  have hsz : (DataW.weightsEach Tryd.prog (Tryd.f8.params.toList ++ Rows.numRingSpec.plain.varTypes Tryd.prog) (ds ++ gs)).all (· ≤ reachBytes) = true := hsz0
  have hW' := hW
  obtain ⟨p, q, hA0, hV, rfl, hfz, hnd⟩ := hW
  have hA : DataW.TrodAll enc Tryd.prog W 0 (fun _ => true) true Tryd.f8.params.toList args.toList ds p := hA0
  rw [Tryd.params8] at hA hval hsz
  obtain ⟨v0, vs0, d0, ds0, p0, q0, hargs0, rfl, rfl, h0, r0⟩ := trodAll_cons hA
  obtain ⟨v1, vs1, d1, ds1, p1, q1, rfl, rfl, rfl, h1, r1⟩ := trodAll_cons r0
  obtain ⟨v2, vs2, d2, ds2, p2, q2, rfl, rfl, rfl, h2, r2⟩ := trodAll_cons r1
  obtain ⟨rfl, rfl, rfl⟩ := trodAll_nil r2
  obtain rfl : args = #[v0, v1, v2] := by cases args; simp_all
  obtain ⟨rfl, rfl⟩ := trodVars_none hV
  obtain ⟨a, rfl, rfl, rfl, w0⟩ := open_int Tryd.underlying2 (hval 0 2 v0 rfl rfl) h0
  obtain ⟨b, rfl, rfl, rfl, w1⟩ := open_int Tryd.underlying2 (hval 1 2 v1 rfl rfl) h1
  obtain ⟨c, rfl, rfl, rfl, w2⟩ := open_int Tryd.underlying2 (hval 2 2 v2 rfl rfl) h2
  refine (nring_walk a b c W (table hL) (wf_i64 w0).1 (wf_i64 w0).2 (wf_i64 w1).1 (wf_i64 w1).2 (wf_i64 w2).1 (wf_i64 w2).2).mono fun e W' ⟨he, hb⟩ => ⟨_, he, ?_⟩
  exact law_post laidOut hW' rfl rfl Tryd.underlying4 (by kernel_rfl) rfl rfl rfl hb
theorem nring_holds : Rows.NumRingSaid :=
  OpenClaim.holds_of_wide 8 Tryd.f8 rfl rfl rfl rfl rfl rfl rfl ⟨rfl, rfl, rfl, rfl, rfl⟩ rfl rfl rfl rfl rfl (by kernel_rfl) Tryd.func8 (by kernel_rfl)
    (of_decide_eq_true (by kernel_rfl)) (by unfold Func.isWrapper; first | (rw [if_pos (by decide +kernel)]; kernel_rfl) | (rw [if_neg (by decide +kernel)]; exact ⟨rfl, rfl⟩))
    (fun os started H enc _ => nring_lifted os started H enc)
theorem nring_plain (f : FuncId) (fn : Func) (hf : Tryd.pinned.checked.prog.funcNamed Rows.numRingRow.func = some f) (hfn : Tryd.pinned.checked.prog.funcs[f]? = some fn) :
    false = Tryd.pinned.checked.prog.looks [] ∧ ∀ (j : Nat) t, fn.params[j]? = some t → Tryd.pinned.checked.prog.wantsStandIn t = false := by
  obtain rfl : f = 8 := Option.some.inj ((show Tryd.prog.funcNamed Rows.numRingRow.func = some 8 by kernel_rfl).symm.trans hf) |>.symm
  obtain rfl : fn = Tryd.f8 := (Option.some.inj (Tryd.func8.symm.trans hfn)).symm
  refine ⟨by kernel_rfl, fun j t ht => ?_⟩
  rw [Tryd.params8] at ht
  have hm : t ∈ [2] := by have := Array.mem_of_getElem? ht; simp at this ⊢; omega
  have hall : ([2].all fun u => !Tryd.prog.wantsStandIn u) = true := by kernel_rfl
  exact (show Tryd.prog.wantsStandIn t = false by simpa using List.all_eq_true.1 hall t hm)
theorem nring_card : Rows.NumRingCardSaid :=
  Claim7.holds_tied_plain_at .later [] _ _ _ _ nring_holds (fun _ h => by cases h) (by kernel_rfl) (fun _ h => by cases h) numRing_row_tie rfl ⟨rfl, rfl⟩ (by kernel_rfl) rfl nring_plain (by kernel_rfl)
#print axioms nring_card
end Go.Proofs.YtmlofnnfpedpdaaDoor
