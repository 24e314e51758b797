/-
  NumBack: a number from 0 on that is shown is read again.
-/
import Derived.Test.YtmlofnnfpedpdaaDoorNumDoor
import Derived.Lib.ItoaLen
set_option linter.unusedVariables false
set_option linter.unusedSimpArgs false
namespace Go.Proofs.YtmlofnnfpedpdaaDoor
open Go.ChangeShapes Go.WideShapes Go.ChangeAt Go.RowKit Go.ChangeMaps

theorem digit_byte {d : Nat} (h : d < 10) : (UInt8.ofNat (48 + d)).toNat = 48 + d := by
  rw [UInt8.toNat_ofNat']
  exact Nat.mod_eq_of_lt (by omega)
theorem digit_hexV {d : Nat} (h : d < 10) : hexV (48 + d) = d := by
  unfold hexV
  rw [if_pos (by omega)]
  omega
theorem decGo_append (l : List UInt8) (c : UInt8) : ∀ n, decGo (l ++ [c]) n = (decGo l n).bind fun m => decGo [c] m := by
  induction l with
  | nil => intro n; rfl
  | cons x l ih =>
    intro n
    rw [List.cons_append, decGo, decGo]
    split
    · exact ih _
    · rfl
theorem decGo_digits (u : Nat) (h : u ≤ 9223372036854775807) : decGo (Lib.decDigits u) 0 = some u := by
  induction u using Nat.strongRecOn with
  | _ u ih =>
    rw [Lib.decDigits]
    by_cases hu : u < 10
    · rw [dif_pos hu, decGo, digit_byte hu, digit_hexV hu, if_pos (by omega), decGo, Nat.mul_zero, Nat.zero_add]
    · have hm : u % 10 < 10 := Nat.mod_lt _ (by omega)
      rw [dif_neg hu, decGo_append, ih (u / 10) (by omega) (by omega), Option.bind_some, decGo, digit_byte hm, digit_hexV hm, if_pos (by omega), decGo]
      congr 1
      omega
theorem digits_le (u : Nat) : ∀ c ∈ Lib.decDigits u, c.toNat ≤ 57 := by
  induction u using Nat.strongRecOn with
  | _ u ih =>
    rw [Lib.decDigits]
    by_cases hu : u < 10
    · rw [dif_pos hu]
      intro c hc
      obtain rfl := List.mem_singleton.1 hc
      rw [digit_byte hu]
      omega
    · have hm : u % 10 < 10 := Nat.mod_lt _ (by omega)
      rw [dif_neg hu]
      intro c hc
      rcases List.mem_append.1 hc with h | h
      · exact ih (u / 10) (by omega) c h
      · obtain rfl := List.mem_singleton.1 h
        rw [digit_byte hm]
        omega
theorem itoa_le (n : Int) : ∀ c ∈ Lib.itoa n, c.toNat ≤ 57 := by
  intro c hc
  unfold Lib.itoa at hc
  split at hc
  · rcases List.mem_cons.1 hc with h | h
    · subst h; decide
    · exact digits_le _ c h
  · exact digits_le _ c hc
theorem digits_ne (u : Nat) : Lib.decDigits u ≠ [] := by
  rw [Lib.decDigits]
  split <;> simp
theorem text_data (n : Int) : (numText n).data.toList = Lib.itoa n := rfl
theorem text_nohex (n : Int) : isHexB (numText n) = false := by
  unfold isHexB
  rw [Bool.and_eq_false_iff]
  right
  rw [Lib.extract_toList, text_data]
  rw [beq_eq_false_iff_ne]
  intro h
  have hm : (120 : UInt8) ∈ Lib.itoa n := by
    have h1 : (120 : UInt8) ∈ List.take (2 - 0) (List.drop 0 (Lib.itoa n)) := by rw [h]; decide
    exact List.mem_of_mem_drop (List.mem_of_mem_take h1)
  have := itoa_le n 120 hm
  revert this
  decide
theorem text_size (n : Int) : (numText n).size = (Lib.itoa n).length := by
  rw [← text_data]
  simp
theorem itoa_ne (n : Int) : Lib.itoa n ≠ [] := by
  unfold Lib.itoa
  split
  · simp
  · exact digits_ne _
theorem text_back (n : Int) (n0 : -9223372036854775808 ≤ n) (n1 : n ≤ 9223372036854775807) : numS (numText n) = if 0 ≤ n then some n else none := by
  unfold numS
  rw [text_nohex, text_data]
  have hz : ¬ (numText n).size = 0 := by
    rw [text_size]
    exact fun h => itoa_ne n (List.eq_nil_of_length_eq_zero h)
  rw [if_neg (by decide), if_neg hz]
  unfold Lib.itoa
  by_cases h : n < 0
  · rw [if_pos h, if_neg (by omega), decGo_bad (by decide)]
    rfl
  · rw [if_neg h, if_pos (by omega), decGo_digits _ (by omega), Option.map_some, wrap_in (by omega) (by omega)]
    congr 1
    omega
set_option maxHeartbeats 1000000 in
theorem nback_walk (n : Int) (w : World) (ht : Tab w) (n0 : -9223372036854775808 ≤ n) (n1 : n ≤ 9223372036854775807) :
    Calls Tryd.prog 6 #[.int .i64 n] w (RetB (.bool true) w) := by
  have h1 := fun w (h : Tab w) => nshow_any n w n0 n1 h
  have hl := Lib.itoa_length_le n n0 n1
  have h2 := fun w => number_any (numText n) w (by rw [text_size]; unfold maxLen; omega)
  rw [text_back n n0 n1] at h2
  clear hl
  generalize numText n = s at h1 h2
  by_cases hn : 0 ≤ n
  all_goals
    first | rw [if_pos hn] at h2 | rw [if_neg hn] at h2
    simp only [Option.getD_some, Option.isSome_some, Option.getD_none, Option.isSome_none] at h2
    go_enter Tryd.func6, Tryd.ntmps6
    go_wp2_with fail
    refine (awake02 _ ht).mono ?_
    rintro e w1 ⟨rfl, hb1⟩
    go_wp2_with fail
    refine (h1 _ (ht.below hb1)).mono ?_
    rintro e w2 ⟨rfl, hb2⟩
    have hb := hb1.trans (hb2.mono hb1.size)
    go_wp2_with fail
    refine (h2 _).mono ?_
    rintro e w3 ⟨rfl, hb3⟩
    go_wp2
    go_ret
    exact ⟨ret_bool (by simp [hn]), hb.trans (hb3.mono hb.size)⟩
set_option maxRecDepth 100000 in
theorem nback_lifted (os : Os) (started : os.Started) (H : Type) (enc : TypeId × Value → H) :
    ReturnsInHanded {} Tryd.checked os 6 .any (fun w args => (Rows.numBackSpec.pre enc Tryd.prog Tryd.f6 [] false w args ∧ laidMetH Tryd.prog Rows.numBackRow.laid w) ∧ sizedMet enc Tryd.prog Tryd.f6 (OpenSpec.ofChange Rows.numBackSpec) false w args)
      (Rows.numBackSpec.post enc Tryd.prog Tryd.f6 false true false false) := by
  refine returnsInHanded_of_change_and (C := Tryd.checked) (X := fun w _ => laidMetH Tryd.prog Rows.numBackRow.laid w) (fun _ _ _ hh h => h.of_heap hh) own started (by kernel_rfl) Tryd.func6
    (ChangeSpec.witness_shaped (enc := enc) (C := Tryd.checked) (os := os) (X := fun w _ => laidMetH Tryd.prog Rows.numBackRow.laid w) false (World.doorLaid Tryd.prog 24 os) #[.int .i64 0] 8 rfl (World.shaped_of_RefB (by kernel_rfl) (by kernel_rfl)) (by kernel_rfl) (by kernel_rfl) (by kernel_rfl) (door_met os _)) ?_
  intro W base args ds gs before hval0 hW hcnd hsz0 hL _
  have hval : ∀ (j : Nat) t v, Tryd.f6.params[j]? = some t → args[j]? = some v → Value.okWide Tryd.prog W .any base t v := hval0
  have hsz : (DataW.weightsEach Tryd.prog (Tryd.f6.params.toList ++ Rows.numBackSpec.plain.varTypes Tryd.prog) (ds ++ gs)).all (· ≤ reachBytes) = true := hsz0
  have hW' := hW
  obtain ⟨p, q, hA0, hV, rfl, hfz, hnd⟩ := hW
  have hA : DataW.TrodAll enc Tryd.prog W 0 (fun _ => true) true Tryd.f6.params.toList args.toList ds p := hA0
  rw [Tryd.params6] at hA hval hsz
  obtain ⟨v0, vs0, d0, ds0, p0, q0, hargs0, rfl, rfl, h0, r0⟩ := trodAll_cons hA
  obtain ⟨rfl, rfl, rfl⟩ := trodAll_nil r0
  obtain rfl : args = #[v0] := by cases args; simp_all
  obtain ⟨rfl, rfl⟩ := trodVars_none hV
  obtain ⟨n, rfl, rfl, rfl, w0⟩ := open_int Tryd.underlying2 (hval 0 2 v0 rfl rfl) h0
  refine (nback_walk n W (table hL) (wf_i64 w0).1 (wf_i64 w0).2).mono fun e W' ⟨he, hb⟩ => ⟨_, he, ?_⟩
  exact law_post laidOut hW' rfl rfl Tryd.underlying4 (by kernel_rfl) rfl rfl rfl hb
theorem nback_holds : Rows.NumBackSaid :=
  OpenClaim.holds_of_wide 6 Tryd.f6 rfl rfl rfl rfl rfl rfl rfl ⟨rfl, rfl, rfl, rfl, rfl⟩ rfl rfl rfl rfl rfl (by kernel_rfl) Tryd.func6 (by kernel_rfl)
    (of_decide_eq_true (by kernel_rfl)) (by unfold Func.isWrapper; first | (rw [if_pos (by decide +kernel)]; kernel_rfl) | (rw [if_neg (by decide +kernel)]; exact ⟨rfl, rfl⟩))
    (fun os started H enc _ => nback_lifted os started H enc)
theorem nback_plain (f : FuncId) (fn : Func) (hf : Tryd.pinned.checked.prog.funcNamed Rows.numBackRow.func = some f) (hfn : Tryd.pinned.checked.prog.funcs[f]? = some fn) :
    false = Tryd.pinned.checked.prog.looks [] ∧ ∀ (j : Nat) t, fn.params[j]? = some t → Tryd.pinned.checked.prog.wantsStandIn t = false := by
  obtain rfl : f = 6 := Option.some.inj ((show Tryd.prog.funcNamed Rows.numBackRow.func = some 6 by kernel_rfl).symm.trans hf) |>.symm
  obtain rfl : fn = Tryd.f6 := (Option.some.inj (Tryd.func6.symm.trans hfn)).symm
  refine ⟨by kernel_rfl, fun j t ht => ?_⟩
  rw [Tryd.params6] at ht
  have hm : t ∈ [2] := by have := Array.mem_of_getElem? ht; simp at this ⊢; omega
  have hall : ([2].all fun u => !Tryd.prog.wantsStandIn u) = true := by kernel_rfl
  exact (show Tryd.prog.wantsStandIn t = false by simpa using List.all_eq_true.1 hall t hm)
theorem nback_card : Rows.NumBackCardSaid :=
  Claim7.holds_tied_plain_at .later [] _ _ _ _ nback_holds (fun _ h => by cases h) (by kernel_rfl) (fun _ h => by cases h) numBack_row_tie rfl ⟨rfl, rfl⟩ (by kernel_rfl) rfl nback_plain (by kernel_rfl)
#print axioms nback_card
end Go.Proofs.YtmlofnnfpedpdaaDoor
