/-
  Show of the program: a type's text, or a question mark.
-/
import Derived.Test.YtllpicibncdppaaDoorTyShow
set_option linter.unusedVariables false
set_option linter.unusedSimpArgs false
namespace Go.Proofs.YtllpicibncdppaaDoor
open Go.ChangeShapes Go.WideShapes Go.ChangeAt Go.RowKit

open Classical in
/-- What Show answers. -/
noncomputable def showS (t : Ty) : List UInt8 := if May t then showT t else [63]
set_option maxRecDepth 100000 in
set_option maxHeartbeats 2000000 in
theorem tShow_any (t : LTy) (w : World) (ht : LIn w w.heap.size t) (hsp : SpW w) (hw : May (strip t) → wt (strip t) ≤ 1000000) : Calls Tryd.prog 31 #[t.val] w (RetB (strV (showS (strip t))) w) := by
  unfold LTy.val
  obtain ⟨g, hg⟩ : ∃ g, g = w.heap.size := ⟨_, rfl⟩
  have HT := Lib.hid ht
  have HSP := Lib.hid hsp
  have HW := Lib.hid hw
  clear ht hsp hw
  go_enter Tryd.func31, Tryd.ntmps31
  go_upto_region 1 with fail
  rw [← hg]
  refine gen_wpT fun W hW => ?_
  obtain ⟨kt, kb⟩ : TBox W g t ∧ Below w.heap.size w W := by rw [← hW, hg]; exact one_box w t
  have KB := Lib.hid kb
  have KT := Lib.hid kt
  have k0 := kt.c0
  have k1 := kt.c1
  have k2 := kt.c2
  have kl := kt.lt
  clear hW kb kt hg
  by_cases hm : May (strip t)
  case neg =>
    have e : showS (strip t) = [63] := by unfold showS; rw [if_neg hm]
    have hc := tcheck_any t W (HT.out.on KB.out) (HSP.out.below KB.out)
    rw [tb_false hm] at hc
    unfold LTy.val at hc
    have HC := Lib.hid hc
    have HE := Lib.hid e
    clear hc e hm
    go_wp2_with fail
    with_reducible refine HC.out.mono ?_
    rintro e w1 ⟨rfl, hb1⟩
    go_wp2
    go_ret
    exact ⟨by rw [HE.out]; rfl, KB.out.trans (hb1.mono KB.out.size)⟩
  have e : showS (strip t) = showT (strip t) := by unfold showS; rw [if_pos hm]
  have hc := tcheck_any t W (HT.out.on KB.out) (HSP.out.below KB.out)
  rw [tb_true hm] at hc
  unfold LTy.val at hc
  have HC := Lib.hid hc
  have HS := Lib.hid (show ∀ w', Below w.heap.size w w' → Calls Tryd.prog 57 #[.agg #[.int .i64 t.kind, .slice t.A t.ns.length t.c, .slice t.A2 t.xs.length t.c2]] w' (RetB (strV (showT (strip t))) w') from fun w' hb => tshow_all 50 t w' (HT.out.on hb) hm.1 (HW.out hm))
  have HE := Lib.hid e
  clear hc e hm
  go_wp2_with fail
  with_reducible refine HC.out.mono ?_
  rintro e w1 ⟨rfl, hb1⟩
  have KB1 := Lib.hid (KB.out.trans (hb1.mono KB.out.size))
  have kt := KT.out.below hb1
  have q0 := kt.c0
  have q1 := kt.c1
  have q2 := kt.c2
  have ql := kt.lt
  clear kt hb1
  go_wp2_with fail
  with_reducible refine (HS.out _ KB1.out).mono ?_
  rintro e w2 ⟨rfl, hb2⟩
  go_wp2
  go_ret
  exact ⟨by rw [HE.out]; rfl, KB1.out.trans (hb2.mono KB1.out.size)⟩
end Go.Proofs.YtllpicibncdppaaDoor
