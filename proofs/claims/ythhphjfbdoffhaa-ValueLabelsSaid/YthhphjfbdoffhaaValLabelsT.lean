/-
  ValueLabels: the argument opened; the given statement.
-/
import Derived.Test.YthhphjfbdoffhaaValLabels
set_option linter.unusedVariables false
set_option linter.unusedSimpArgs false
namespace Go.Proofs.Ythhphjfbdoffhaa
open Go.ChangeShapes Go.WideShapes Go.ChangeAt Go.RowKit

theorem labels_map : ∀ l : List Nat, (l.flatMap fun n : Nat => [Value.int .u64 (n : Int)]) = l.map fun x : Nat => Value.int .u64 (x : Int)
  | [] => rfl
  | x :: l => by rw [List.flatMap_cons, labels_map l]; rfl
set_option maxRecDepth 100000 in
theorem vlabels_lifted (os : Os) (started : os.Started) (H : Type) (enc : TypeId × Value → H) :
    ReturnsInHanded {} Try.checked os 4 .any (Rows.valueLabelsSpec.pre6 enc Try.prog Try.f4 Rows.valueLabelsRow.domain false) (Rows.valueLabelsSpec.post enc Try.prog Try.f4 false true false false) := by
  refine returnsInHanded_of_change_sized (C := Try.checked) own started (by kernel_rfl) Try.func4
    (ChangeSpec.witness6 (enc := enc) (C := Try.checked) false ⟨#[], #[.int .i64 0, .agg #[.int .i64 0, .int .i64 0, .string ByteArray.empty, .int .u64 0], .agg #[.int .i64 0, .int .i64 0, .string ByteArray.empty, .int .u64 0], .slice none 0 0], []⟩ 8 (by kernel_rfl) (by kernel_rfl) (by kernel_rfl) (by kernel_rfl)) ?_
  intro W base args ds gs before hval0 hW hcnd hsz0 _
  have hval : ∀ (j : Nat) t v, Try.f4.params[j]? = some t → args[j]? = some v → Value.okWide Try.prog W .any base t v := hval0
  have hsz : (DataW.weightsEach Try.prog (Try.f4.params.toList ++ Rows.valueLabelsSpec.plain.varTypes Try.prog) (ds ++ gs)).all (· ≤ reachBytes) = true := hsz0
  have hW' := hW
  obtain ⟨p, q, hA0, hV, rfl, hfz, hnd⟩ := hW
  have hA : DataW.TrodAll enc Try.prog W 0 (fun _ => true) true Try.f4.params.toList args.toList ds p := hA0
  rw [Try.params4] at hA hval hsz
  obtain ⟨v0, vs0, d0, ds0, p0, q0, hargs0, rfl, rfl, h0, r0⟩ := trodAll_cons hA
  obtain ⟨v1, vs1, d1, ds1, p1, q1, rfl, rfl, rfl, h1, r1⟩ := trodAll_cons r0
  obtain ⟨v2, vs2, d2, ds2, p2, q2, rfl, rfl, rfl, h2, r2⟩ := trodAll_cons r1
  obtain ⟨v3, vs3, d3, ds3, p3, q3, rfl, rfl, rfl, h3, r3⟩ := trodAll_cons r2
  obtain ⟨rfl, rfl, rfl⟩ := trodAll_nil r3
  obtain rfl : args = #[v0, v1, v2, v3] := by cases args; simp_all
  obtain ⟨rfl, rfl⟩ := trodVars_none hV
  obtain ⟨op, rfl, rfl, rfl, w0⟩ := open_int Try.underlying3 (hval 0 3 v0 rfl rfl) h0
  obtain ⟨a, rfl, w1⟩ := open_agg (.inl ⟨_, Try.underlying25⟩) (hval 1 25 v1 rfl rfl) h1 decVV
  obtain ⟨b, rfl, w2⟩ := open_agg (.inl ⟨_, Try.underlying25⟩) (hval 2 25 v2 rfl rfl) h2 decVV
  obtain ⟨s, rfl, w3⟩ := open_sl Try.underlying31 (hval 3 31 v3 rfl rfl) h3 (decSlice Try.underlying31 (K := 1) (by kernel_rfl) (by omega) (fun _ => rfl) (decNat Try.underlying23))
  refine (vlabels_walk op a w1 b w2 s.xs s.A s.cap W (fun x hx => (w3.mem hx).elim fun _ h => h.2.1) (by have := w3.le; have := w3.cap; unfold maxLen at this; omega) (by have := w3.reads; rwa [labels_map] at this)).mono fun e W' ⟨he, hb⟩ => ⟨_, he, ?_⟩
  exact law_post laidOut hW' rfl rfl Try.underlying4 (by kernel_rfl) rfl rfl rfl hb

theorem vlabels_holds : Rows.ValueLabelsSaid :=
  OpenClaim.holds_of_wide 4 Try.f4 rfl rfl rfl rfl rfl rfl rfl ⟨rfl, rfl, rfl, rfl, rfl⟩ rfl rfl rfl rfl rfl (by kernel_rfl) Try.func4 (by kernel_rfl)
    (of_decide_eq_true (by kernel_rfl)) (by unfold Func.isWrapper; first | (rw [if_pos (by decide +kernel)]; kernel_rfl) | (rw [if_neg (by decide +kernel)]; exact ⟨rfl, rfl⟩))
    (fun os started H enc _ => vlabels_lifted os started H enc)
#print axioms vlabels_holds
end Go.Proofs.Ythhphjfbdoffhaa
