/-
  Chapter 25: TraceBegins: the walk; a slice appended whole, under a guard.
-/
import Derived.Test.YthgcadikinfdiaaDoorTrJ
import Derived.BigFrame
import Derived.Laws.OwnMore
set_option linter.unusedVariables false
set_option linter.unusedSimpArgs false
namespace Go.Proofs.YthgcadikinfdiaaDoor
open Go.ChangeShapes Go.WideShapes Go.ChangeAt Go.RowKit

theorem open_sl2 {H : Type} {enc : TypeId × Value → H} {P : Program} {w : World} {t e : TypeId} {α : Type} {R : Sl α → DataW H → Prop} {r : Reach} {b0 : Nat} {v : Value} {d : DataW H} {p : List MemPlace} (ht : P.underlying t = some (.slice e))
    (hv : Value.okWide P w r b0 t v) (h : DataW.Trod enc P w 0 (fun _ => true) true t v d p) (hD : Dec enc P w t (fun s : Sl α => [s.val]) R) : ∃ s : Sl α, v = s.val ∧ R s d := by
  obtain ⟨a0, len, cap, rfl⟩ := okWide_slice ht hv
  obtain ⟨fuel, h⟩ := h
  obtain ⟨s, h1, h2⟩ := hD _ _ _ h
  refine ⟨s, ?_, h2⟩
  simpa [Value.cells] using h1
theorem append_evs {ops : Array Oper} {rest : List Oper} {o : Oper} {a : Act} {w : World} {Q : Exit → Act → World → Prop} (hw : Region.wanted o (yielded ops a.tmps) = true) (s x : Operand)
    (ho : o.op = .call { callee := .builtin .append, args := #[s, x], argTypes := #[22, 22] })
    (base : Nat) (v : Value) (l : List Ev) (hs : a.eval s = v) (hown : w.ownsRow base 38 4 v l.length (l.flatMap evEnc))
    (A : Option Addr) (c : Nat) (r : List Ev) (hA : A = none → r = [] ∧ c = 0) (hx : a.eval x = .slice A r.length c) (hr : Reads w w.heap.size A (r.flatMap evEnc))
    (hb : (l.length + r.length) * 40 ≤ 140737488355328) (hbase : base ≤ w.heap.size)
    (h : ∀ v' w', w'.ownsRow base 38 4 v' (l ++ r).length ((l ++ r).flatMap evEnc) → Below base w w' → wpList Tryd.prog ops Q rest (a.put o.dst v') w') : wpList Tryd.prog ops Q (o :: rest) a w := by
  obtain ⟨i0, hi, hz0, hz1, hz2⟩ := info_parts infoEv
  refine BigFrame.wpList_want hw fun K hK => ?_
  cases A with
  | none =>
    obtain ⟨rfl, rfl⟩ := hA rfl
    have hrun := run_append_owned_none (P := Tryd.prog) (w := w) base 22 o.type 38 i0 4 Tryd.underlying22 hi v l.length (l.flatMap evEnc) hown
    have hx' : a.eval x = .slice none 0 0 := hx
    unfold Oper.wp
    simp [execOp, ho, resolve, invoke, builtin, hs, hx', hrun, Result.andThen]
    exact hK _ _ (h v w (by simpa using hown) (Below.refl _ _))
  | some ad =>
    refine wp_append_own w s x 22 ho base 38 i0 _ 4 40 Tryd.underlying22 hi hz0 hz1 hz2 rfl (by decide) v l.length (l.flatMap evEnc) hs hown ad r.length c (r.flatMap evEnc) hx (evEnc_len r) ?_ (evEnc_one r) (by unfold maxLen; omega) hb hbase ?_
    · rcases hr with hr | ⟨ad', e, _, h3⟩
      · intro j u hu
        rw [hr] at hu
        simp at hu
      · obtain rfl : ad = ad' := Option.some.inj e
        exact h3
    · intro v' w' h2 h3 _
      refine hK _ _ (h v' w' ?_ ((Below.refl base w).grown h3 hbase fun g hg => own_base hown g hg))
      rw [List.length_append, List.flatMap_append]
      exact h2
theorem begB_app (a b : List Ev) : begB a (a ++ b) = true := decide_eq_true (List.prefix_append a b)
set_option maxRecDepth 100000 in
set_option maxHeartbeats 4000000 in
theorem tbegins_walk (xs ys : List Ev) (A C : Option Addr) (c d : Nat) (w : World) (h : EvsIn w A xs) (k : EvsIn w C ys) (hA : A = none → xs = [] ∧ c = 0) (hC : C = none → ys = [] ∧ d = 0) (ht : Tab w) : Calls Tryd.prog 4 #[.slice A xs.length c, .slice C ys.length d] w (RetB (.bool true) w) := by
  have hlen := h.len
  have klen := k.len
  have H := Lib.hid h
  have HK := Lib.hid k
  have HT := Lib.hid ht
  have HA := Lib.hid (awake25 w ht)
  have NA := Lib.hid hA
  have NC := Lib.hid hC
  clear h k ht hA hC
  go_enter Tryd.func4, Tryd.ntmps4
  go_wp2_with fail
  refine HA.out.mono ?_
  rintro e w0 ⟨rfl, hb0⟩
  have HB0 := Lib.hid hb0
  clear hb0
  go_wp2_with fail
  refine (few_any xs A c w0 (reads_on H.out.reads HB0.out) (by omega) (fun x hx => (H.out.ok x hx).2.2)).mono ?_
  rintro e w1 ⟨b, rfl, hb1, hf⟩
  have HB1 := Lib.hid (HB0.out.trans (hb1.mono HB0.out.size))
  clear hb1
  cases b
  · clear hf
    go_wp2
    go_ret
    exact ⟨rfl, HB1.out⟩
  have HS := Lib.hid (few_small H.out (hf rfl))
  clear hf
  go_wp2_with fail
  refine (few_any ys C d w1 (reads_on HK.out.reads HB1.out) (by omega) (fun x hx => (HK.out.ok x hx).2.2)).mono ?_
  rintro e w2 ⟨b, rfl, hb2, hf⟩
  have HB2 := Lib.hid (HB1.out.trans (hb2.mono HB1.out.size))
  clear hb2
  cases b
  · clear hf
    go_wp2
    go_ret
    exact ⟨rfl, HB2.out⟩
  have HS2 := Lib.hid (few_small HK.out (hf rfl))
  clear hf
  have hz1 := HS.out.1
  have hz2 := HS2.out.1
  go_wp2_with fail
  refine (begins_any xs ys A C c d w2 (reads_on H.out.reads HB2.out) (reads_on HK.out.reads HB2.out) (by omega) (by omega)).mono ?_
  rintro e w3 ⟨rfl, hb3⟩
  have HB3 := Lib.hid (HB2.out.trans (hb3.mono HB2.out.size))
  clear hb3
  go_wp2_with fail
  refine (rbegins_any xs ys A C c d w3 (reads_on H.out.reads HB3.out) (reads_on HK.out.reads HB3.out) (by omega) (by omega)).mono ?_
  rintro e w4 ⟨rfl, hb4⟩
  have HB4 := Lib.hid (HB3.out.trans (hb4.mono HB3.out.size))
  clear hb4
  have hfin : ∀ V W, W.ownsRow w4.heap.size 38 4 V (xs ++ ys).length ((xs ++ ys).flatMap evEnc) → Below w4.heap.size w4 W → Calls Tryd.prog 13 #[.slice A xs.length c, V] W fun e w' => e = .returned (.bool true) ∧ Below w.heap.size w w' := fun V W ho hb => by
    have hbW := HB4.out.trans (hb.mono HB4.out.size)
    obtain ⟨D, q, rfl, hR⟩ := own_reads ho
    refine (begins_any xs (xs ++ ys) A D c q W (reads_on H.out.reads hbW) hR (by omega) (by simp; omega)).mono ?_
    rintro e w' ⟨rfl, hb'⟩
    exact ⟨by rw [begB_app], hbW.trans (hb'.mono hbW.size)⟩
  have HF := Lib.hid hfin
  clear hfin
  have r1 : ∀ W, Below w4.heap.size w4 W → Reads W W.heap.size C (ys.flatMap evEnc) := fun W hb => reads_on HK.out.reads (HB4.out.trans (hb.mono HB4.out.size))
  have R1 := Lib.hid r1
  have R0 := Lib.hid (reads_on H.out.reads HB4.out)
  clear r1
  generalize begB xs ys = β
  cases β
  all_goals
    go_wp2_with (first
      | (at_builtin; refine append_evs (by rfl) (.const (.slice none 0 0)) _ rfl w4.heap.size (.slice none 0 0) [] rfl (World.ownsRow_nil _ _ _ _) A c xs NA.out rfl R0.out (by simp; omega) (Nat.le_refl _) ?_; intro v1 w5 ho1 hb5)
      | (at_builtin; refine append_evs (by rfl) _ _ rfl w4.heap.size v1 xs rfl ho1 C d ys NC.out rfl (R1.out _ hb5) (by omega) hb5.size ?_; intro v2 w6 ho2 hb6; have hb7 := hb5.trans hb6)
      | (go_at_call 13; refine (HF.out _ _ ho2 hb7).mono ?_; rintro e w8 ⟨rfl, hb8⟩))
    go_ret
    exact ⟨rfl, hb8⟩
end Go.Proofs.YthgcadikinfdiaaDoor
