/-
  WorldActs: whatever is read and written, under any labels, in any order: the arguments opened; the given statement.
-/
import Derived.Test.YtkdoohmchdpjoaaWorldActs
import Derived.Test.YtkdoohmchdpjoaaOpen2
import Derived.Test.YtkdoohmchdpjoaaWorldFew
set_option linter.unusedVariables false
set_option linter.unusedSimpArgs false
namespace Go.Proofs.Ytkdoohmchdpjoaa
open Go.ChangeShapes Go.WideShapes Go.ChangeAt Go.RowKit

def mOf (ms : List Nat) (k : Nat) : Nat := ms[k]?.getD 0
def sOf (ss : List (Sl Int)) (k : Nat) : Sl Int := ss[k]?.getD ⟨none, 0, []⟩
theorem masks_form {ms : List Nat} (h : ms.length = 8) : Value.agg (ms.flatMap fun n : Nat => [Value.int .u64 (n : Int)]).toArray = agg8 (mv (mOf ms)) := by
  have e : ms = eight (mOf ms) := eight_of 0 h
  conv => lhs; rw [e]
  rfl
theorem ins_form {ss : List (Sl Int)} (h : ss.length = 8) : Value.agg (ss.flatMap fun s : Sl Int => [s.val]).toArray = agg8 (sv (sOf ss)) := by
  have e : ss = eight (sOf ss) := eight_of (⟨none, 0, []⟩ : Sl Int) h
  conv => lhs; rw [e]
  rfl
theorem masks_lt {H : Type} {ms : List Nat} {d : DataW H} (h : ArrIn 8 (fun (n : Nat) (d : DataW H) => n < 18446744073709551616 ∧ d = .lit (.int .u64 (n : Int))) ms d) : ∀ k, k < 8 → mOf ms k < 18446744073709551616 := by
  intro k hk
  have hx : ms[k]? = some (ms[k]'(by rw [h.len]; exact hk)) := List.getElem?_eq_getElem _
  obtain ⟨d', _, h1, _⟩ := h.all k _ hx
  unfold mOf
  rw [hx]
  exact h1
theorem ints_cells (l : List Int) : (l.flatMap fun n : Int => [Value.int .i64 n]) = intCells l := by
  induction l with
  | nil => rfl
  | cons x l ih => rw [List.flatMap_cons, ih]; rfl
theorem ins_ok {H : Type} {W : World} {ss : List (Sl Int)} {d : DataW H} (h : ArrIn 8 (SlIn2 W (fun n : Int => [Value.int .i64 n]) (fun (n : Int) (d : DataW H) => (Lit.int .i64 n).wf = true ∧ d = .lit (.int .i64 n))) ss d) (hz : Sized Try.prog 50 d) : InsOk W (sOf ss) := by
  have key : ∀ k, k < 8 → ∃ d', SlIn2 W (fun n : Int => [Value.int .i64 n]) (fun (n : Int) (d : DataW H) => (Lit.int .i64 n).wf = true ∧ d = .lit (.int .i64 n)) (sOf ss k) d' ∧ Sized Try.prog 48 d' := by
    intro k hk
    have hx : ss[k]? = some (ss[k]'(by rw [h.len]; exact hk)) := List.getElem?_eq_getElem _
    obtain ⟨d', h1, h2⟩ := h.all k _ hx
    have e : sOf ss k = ss[k]'(by rw [h.len]; exact hk) := by unfold sOf; rw [hx]; rfl
    have hz' := hz
    rw [h.form] at hz'
    rw [e]
    exact ⟨d', h2, sized_part Try.underlying50 hz' h1⟩
  refine ⟨fun k hk => ?_, fun k hk => ?_, fun k hk => ?_⟩
  · obtain ⟨d', h1, _⟩ := key k hk
    have := h1.sl.reads
    rw [ints_cells] at this
    exact this
  · obtain ⟨d', h1, _⟩ := key k hk
    exact h1.nil_
  · obtain ⟨d', h1, h2⟩ := key k hk
    have := sized_sl Try.underlying48 h1.sl h2
    rw [show Try.prog.bytesOf 2 = 8 from by kernel_rfl] at this
    exact this

set_option maxRecDepth 100000 in
theorem wacts_lifted (os : Os) (started : os.Started) (H : Type) (enc : TypeId × Value → H) :
    ReturnsInHanded {} Try.checked os 7 .any (Rows.worldActsSpec.pre6 enc Try.prog Try.f7 Rows.worldActsRow.domain false) (Rows.worldActsSpec.post enc Try.prog Try.f7 false true false false) := by
  refine returnsInHanded_of_change_sized (C := Try.checked) own started (by kernel_rfl) Try.func7
    (ChangeSpec.witness6 (enc := enc) (C := Try.checked) false ⟨#[], #[.agg #[.int .u64 0, .int .u64 0, .int .u64 0, .int .u64 0, .int .u64 0, .int .u64 0, .int .u64 0, .int .u64 0], .agg #[.slice none 0 0, .slice none 0 0, .slice none 0 0, .slice none 0 0, .slice none 0 0, .slice none 0 0, .slice none 0 0, .slice none 0 0], .slice none 0 0], []⟩ 8 (by kernel_rfl) (by kernel_rfl) (by kernel_rfl) (by kernel_rfl)) ?_
  intro W base args ds gs before hval0 hW hcnd hsz0 _
  have hval : ∀ (j : Nat) t v, Try.f7.params[j]? = some t → args[j]? = some v → Value.okWide Try.prog W .any base t v := hval0
  have hsz : (DataW.weightsEach Try.prog (Try.f7.params.toList ++ Rows.worldActsSpec.plain.varTypes Try.prog) (ds ++ gs)).all (· ≤ reachBytes) = true := hsz0
  have hW' := hW
  obtain ⟨p, q, hA0, hV, rfl, hfz, hnd⟩ := hW
  have hA : DataW.TrodAll enc Try.prog W 0 (fun _ => true) true Try.f7.params.toList args.toList ds p := hA0
  rw [Try.params7] at hA hval hsz
  obtain ⟨v0, vs0, d0, ds0, p0, q0, hargs0, rfl, rfl, h0, r0⟩ := trodAll_cons hA
  obtain ⟨v1, vs1, d1, ds1, p1, q1, rfl, rfl, rfl, h1, r1⟩ := trodAll_cons r0
  obtain ⟨v2, vs2, d2, ds2, p2, q2, rfl, rfl, rfl, h2, r2⟩ := trodAll_cons r1
  obtain ⟨rfl, rfl, rfl⟩ := trodAll_nil r2
  obtain rfl : args = #[v0, v1, v2] := by cases args; simp_all
  obtain ⟨rfl, rfl⟩ := trodVars_none hV
  obtain ⟨ms, rfl, w0⟩ := open_agg (.inr ⟨_, _, Try.underlying47⟩) (hval 0 47 v0 rfl rfl) h0 (decArr Try.underlying47 (K := 1) (by kernel_rfl) (by kernel_rfl) (fun _ => rfl) (decNat Try.underlying23))
  obtain ⟨ss, rfl, w1⟩ := open_agg (.inr ⟨_, _, Try.underlying50⟩) (hval 1 50 v1 rfl rfl) h1 (decArr Try.underlying50 (K := 1) (by kernel_rfl) (by kernel_rfl) (fun _ => rfl) (decSlice2 Try.underlying48 (K := 1) (by kernel_rfl) (by omega) (fun _ => rfl) (decInt Try.underlying2)))
  obtain ⟨l, rfl, w2⟩ := open_sl Try.underlying51 (hval 2 51 v2 rfl rfl) h2 (decSlice Try.underlying51 (K := 7) (by kernel_rfl) (by omega) (fun _ => rfl) decWAct)
  have hz2 := sized_sl Try.underlying51 w2 (sized_arg hsz (j := 2) rfl rfl)
  rw [show Try.prog.bytesOf 63 = 64 from by kernel_rfl] at hz2
  have hzl : (l.xs.length + 1) * 40 ≤ 140737488351232 := by unfold reachBytes at hz2; omega
  have hi := ins_ok w1 (sized_arg hsz (j := 1) rfl rfl)
  have hmm := masks_lt w0
  have hcall := wacts_walk (mOf ms) (sOf ss) l.A l.cap l.xs W hmm hi w2.reads (fun x hx => (w2.mem hx).elim fun _ h => ⟨h.2.1, h.2.2.1⟩) hzl
  rw [← masks_form w0.len, ← ins_form w1.len] at hcall
  refine hcall.mono fun e W' ⟨he, hb⟩ => ⟨_, he, ?_⟩
  exact law_post laidOut hW' rfl rfl Try.underlying4 (by kernel_rfl) rfl rfl rfl hb

theorem wacts_holds : Rows.WorldActsSaid :=
  OpenClaim.holds_of_wide 7 Try.f7 rfl rfl rfl rfl rfl rfl rfl ⟨rfl, rfl, rfl, rfl, rfl⟩ rfl rfl rfl rfl rfl (by kernel_rfl) Try.func7 (by kernel_rfl)
    (of_decide_eq_true (by kernel_rfl)) (by unfold Func.isWrapper; first | (rw [if_pos (by decide +kernel)]; kernel_rfl) | (rw [if_neg (by decide +kernel)]; exact ⟨rfl, rfl⟩))
    (fun os started H enc _ => wacts_lifted os started H enc)
#print axioms wacts_holds
end Go.Proofs.Ytkdoohmchdpjoaa
