/-
  Two types in their boxes: what is alike, what may be, whether something is open; flat; paired; a shape's field.
-/
import Derived.Test.YtohllalninoomaaDoorTyCheck
import Derived.Test.YtohllalninoomaaDoorTyRChk
import Derived.Test.YtohllalninoomaaDoorTyRLike
import Derived.Test.YtohllalninoomaaDoorTyVag
import Derived.Test.YtohllalninoomaaDoorTyBin
import Derived.Test.YtohllalninoomaaDoorTyBox
set_option linter.unusedVariables false
set_option linter.unusedSimpArgs false
namespace Go.Proofs.YtohllalninoomaaDoor
open Go.ChangeShapes Go.WideShapes Go.ChangeAt Go.RowKit

set_option maxRecDepth 100000 in
set_option maxHeartbeats 2000000 in
theorem tsame_any (t u : LTy) (w : World) (ht : LIn w w.heap.size t) (hu : LIn w w.heap.size u) (hsp : SpW w) : Calls Tryd.prog 41 #[t.val, u.val] w (RetB (.bool (tb (strip t = strip u ∧ May (strip t)))) w) := by
  unfold LTy.val
  obtain ⟨g, hg⟩ : ∃ g, g = w.heap.size := ⟨_, rfl⟩
  have HT := Lib.hid ht
  have HU := Lib.hid hu
  have HSP := Lib.hid hsp
  clear hsp
  clear ht hu
  go_enter Tryd.func41, Tryd.ntmps41
  go_upto_region 1 with fail
  rw [← hg]
  refine gen_wpT fun W hW => ?_
  obtain ⟨kt, ku, kb⟩ : TBox W g t ∧ TBox W (g + 1) u ∧ Below w.heap.size w W := by rw [← hW, hg]; exact two_boxes w t u
  have KB := Lib.hid kb
  have ktc0 := kt.c0
  have ktc1 := kt.c1
  have ktc2 := kt.c2
  have ktlt := kt.lt
  have kuc0 := ku.c0
  have kuc1 := ku.c1
  have kuc2 := ku.c2
  have kult := ku.lt
  clear hW hg
  have hl := tlike_any t u W (HT.out.on kb) (HU.out.on kb)
  unfold LTy.val at hl
  by_cases he : strip t = strip u
  case neg =>
    rw [tb_false he] at hl
    have HL := Lib.hid hl
    have HF := Lib.hid (show ∀ w1, Below w.heap.size w w1 → RetB (.bool (tb (strip t = strip u ∧ May (strip t)))) w (.returned (.bool false)) w1 from fun w1 h => ⟨by rw [tb_false (fun e => he e.1)], h⟩)
    clear hl he kb kt ku
    go_wp2_with fail
    refine HL.out.mono ?_
    rintro e w1 ⟨rfl, hb1⟩
    have HB1 := Lib.hid (KB.out.trans (hb1.mono KB.out.size))
    clear hb1
    go_wp2
    go_ret
    exact HF.out _ HB1.out
  rw [tb_true he] at hl
  have HL := Lib.hid hl
  have HKT := Lib.hid kt
  have HE := Lib.hid (show tb (strip t = strip u ∧ May (strip t)) = tb (May (strip t)) from by rw [tb_and, tb_true he]; rfl)
  clear hl he kb kt ku
  go_wp2_with fail
  refine HL.out.mono ?_
  rintro e w1 ⟨rfl, hb1⟩
  have HB1 := Lib.hid (KB.out.trans (hb1.mono KB.out.size))
  have kt1 := HKT.out.below hb1
  have kt1c0 := kt1.c0
  have kt1c1 := kt1.c1
  have kt1c2 := kt1.c2
  have kt1lt := kt1.lt
  have hc := tcheck_any t w1 (HT.out.on HB1.out) (HSP.out.below HB1.out)
  unfold LTy.val at hc
  have HC := Lib.hid hc
  clear hb1 kt1 hc
  go_wp2_with fail
  refine HC.out.mono ?_
  rintro e w2 ⟨rfl, hb2⟩
  have HB2 := Lib.hid (HB1.out.trans (hb2.mono HB1.out.size))
  clear hb2
  go_wp2
  go_ret
  exact ⟨by rw [HE.out]; first | rfl | (cases tb (May (strip t)) <;> rfl), HB2.out⟩
end Go.Proofs.YtohllalninoomaaDoor
