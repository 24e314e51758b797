/-
  Two types in their boxes: what is alike, what may be, whether something is open; flat; paired; a shape's field.
-/
import Derived.Test.YtllpicibncdppaaDoorTyCheck
import Derived.Test.YtllpicibncdppaaDoorTyRChk
import Derived.Test.YtllpicibncdppaaDoorTyRLike
import Derived.Test.YtllpicibncdppaaDoorTyVag
import Derived.Test.YtllpicibncdppaaDoorTyBin
import Derived.Test.YtllpicibncdppaaDoorTyBox
set_option linter.unusedVariables false
set_option linter.unusedSimpArgs false
namespace Go.Proofs.YtllpicibncdppaaDoor
open Go.ChangeShapes Go.WideShapes Go.ChangeAt Go.RowKit

set_option maxRecDepth 100000 in
set_option maxHeartbeats 1000000 in
theorem rcheck_any (t : LTy) (w : World) (hin : LIn w w.heap.size t) : Calls Tryd.prog 34 #[t.val] w (RetB (.bool (tb (May (strip t)))) w) := by
  unfold LTy.val
  obtain ⟨g, hg⟩ : ∃ g, g = w.heap.size := ⟨_, rfl⟩
  have HIN := Lib.hid hin
  clear hin
  go_enter Tryd.func34, Tryd.ntmps34
  go_upto_region 1 with fail
  rw [← hg]
  refine gen_wpT fun W hW => ?_
  obtain ⟨kt, kb⟩ : TBox W g t ∧ Below w.heap.size w W := by rw [← hW, hg]; exact one_box w t
  have KB := Lib.hid kb
  have ktc0 := kt.c0
  have ktc1 := kt.c1
  have ktc2 := kt.c2
  have ktlt := kt.lt
  have hc := rchk_any t 1 0 W (HIN.out.on kb) (by omega) (by omega) (by omega)
  unfold LTy.val at hc
  have HC := Lib.hid hc
  have HG := Lib.hid hg
  clear hc hW kb kt hg
  go_wp2_with fail
  refine HC.out.mono ?_
  rintro e w1 ⟨m, ok, rfl, hb, h1, h2⟩
  have HB := Lib.hid (KB.out.trans (hb.mono KB.out.size))
  clear hb
  cases ok with
  | false =>
    have HF := Lib.hid (show RetB (.bool (tb (May (strip t)))) w (.returned (.bool false)) w1 from ⟨by rw [tb_false (fun e => by have := h2 e.1 (by have := e.2; omega); cases this)], HB.out⟩)
    clear h1 h2
    go_wp2
    go_ret
    exact HF.out
  | true =>
    obtain ⟨hm, hch, hle⟩ := h1 rfl
    by_cases hn : m ≤ 10000
    · have hn' : decide ((m : Int) ≤ 10000) = true := decide_eq_true (by omega)
      have HF := Lib.hid (show RetB (.bool (tb (May (strip t)))) w (.returned (.bool true)) w1 from ⟨by rw [tb_true (show May (strip t) from ⟨hch, by omega⟩)], HB.out⟩)
      clear h1 h2 hm hch hn
      go_wp2
      go_ret
      exact HF.out
    · have hn' : decide ((m : Int) ≤ 10000) = false := decide_eq_false (by omega)
      have HF := Lib.hid (show RetB (.bool (tb (May (strip t)))) w (.returned (.bool false)) w1 from ⟨by rw [tb_false (fun e => hn (by have := e.2; omega))], HB.out⟩)
      clear h1 h2 hm hch hn
      go_wp2
      go_ret
      exact HF.out
set_option maxRecDepth 100000 in
set_option maxHeartbeats 2000000 in
theorem tsame_any (t u : LTy) (w : World) (ht : LIn w w.heap.size t) (hu : LIn w w.heap.size u) (hsp : SpW w) : Calls Tryd.prog 33 #[t.val, u.val] w (RetB (.bool (tb (strip t = strip u ∧ May (strip t)))) w) := by
  unfold LTy.val
  obtain ⟨g, hg⟩ : ∃ g, g = w.heap.size := ⟨_, rfl⟩
  have HT := Lib.hid ht
  have HU := Lib.hid hu
  have HSP := Lib.hid hsp
  clear hsp
  clear ht hu
  go_enter Tryd.func33, Tryd.ntmps33
  go_upto_region 1 with fail
  rw [← hg]
  refine gen_wpT fun W hW => ?_
  obtain ⟨kt, ku, kb⟩ : TBox W g t ∧ TBox W (g + 1) u ∧ Below w.heap.size w W := by rw [← hW, hg]; exact two_boxes w t u
  have KB := Lib.hid kb
  have ktc0 := kt.c0
  have ktc1 := kt.c1
  have ktc2 := kt.c2
  have ktlt := kt.lt
  have kuc0 := ku.c0
  have kuc1 := ku.c1
  have kuc2 := ku.c2
  have kult := ku.lt
  clear hW hg
  have hl := tlike_any t u W (HT.out.on kb) (HU.out.on kb)
  unfold LTy.val at hl
  by_cases he : strip t = strip u
  case neg =>
    rw [tb_false he] at hl
    have HL := Lib.hid hl
    have HF := Lib.hid (show ∀ w1, Below w.heap.size w w1 → RetB (.bool (tb (strip t = strip u ∧ May (strip t)))) w (.returned (.bool false)) w1 from fun w1 h => ⟨by rw [tb_false (fun e => he e.1)], h⟩)
    clear hl he kb kt ku
    go_wp2_with fail
    refine HL.out.mono ?_
    rintro e w1 ⟨rfl, hb1⟩
    have HB1 := Lib.hid (KB.out.trans (hb1.mono KB.out.size))
    clear hb1
    go_wp2
    go_ret
    exact HF.out _ HB1.out
  rw [tb_true he] at hl
  have HL := Lib.hid hl
  have HKT := Lib.hid kt
  have HE := Lib.hid (show tb (strip t = strip u ∧ May (strip t)) = tb (May (strip t)) from by rw [tb_and, tb_true he]; rfl)
  clear hl he kb kt ku
  go_wp2_with fail
  refine HL.out.mono ?_
  rintro e w1 ⟨rfl, hb1⟩
  have HB1 := Lib.hid (KB.out.trans (hb1.mono KB.out.size))
  have kt1 := HKT.out.below hb1
  have kt1c0 := kt1.c0
  have kt1c1 := kt1.c1
  have kt1c2 := kt1.c2
  have kt1lt := kt1.lt
  have hc := tcheck_any t w1 (HT.out.on HB1.out) (HSP.out.below HB1.out)
  unfold LTy.val at hc
  have HC := Lib.hid hc
  clear hb1 kt1 hc
  go_wp2_with fail
  refine HC.out.mono ?_
  rintro e w2 ⟨rfl, hb2⟩
  have HB2 := Lib.hid (HB1.out.trans (hb2.mono HB1.out.size))
  clear hb2
  go_wp2
  go_ret
  exact ⟨by rw [HE.out]; first | rfl | (cases tb (May (strip t)) <;> rfl), HB2.out⟩
set_option maxRecDepth 100000 in
set_option maxHeartbeats 2000000 in
theorem rsame_any (t u : LTy) (w : World) (ht : LIn w w.heap.size t) (hu : LIn w w.heap.size u) : Calls Tryd.prog 18 #[t.val, u.val] w (RetB (.bool (tb (strip t = strip u ∧ May (strip t)))) w) := by
  unfold LTy.val
  obtain ⟨g, hg⟩ : ∃ g, g = w.heap.size := ⟨_, rfl⟩
  have HT := Lib.hid ht
  have HU := Lib.hid hu
  clear ht hu
  go_enter Tryd.func18, Tryd.ntmps18
  go_upto_region 1 with fail
  rw [← hg]
  refine gen_wpT fun W hW => ?_
  obtain ⟨kt, ku, kb⟩ : TBox W g t ∧ TBox W (g + 1) u ∧ Below w.heap.size w W := by rw [← hW, hg]; exact two_boxes w t u
  have KB := Lib.hid kb
  have ktc0 := kt.c0
  have ktc1 := kt.c1
  have ktc2 := kt.c2
  have ktlt := kt.lt
  have kuc0 := ku.c0
  have kuc1 := ku.c1
  have kuc2 := ku.c2
  have kult := ku.lt
  clear hW hg
  have HKT := Lib.hid kt
  have HKU := Lib.hid ku
  have hc := rcheck_any t W (HT.out.on kb)
  unfold LTy.val at hc
  by_cases he : May (strip t)
  case neg =>
    rw [tb_false he] at hc
    have HC := Lib.hid hc
    have HF := Lib.hid (show ∀ w1, Below w.heap.size w w1 → RetB (.bool (tb (strip t = strip u ∧ May (strip t)))) w (.returned (.bool false)) w1 from fun w1 h => ⟨by rw [tb_false (fun e => he e.2)], h⟩)
    clear hc he kb kt ku
    go_wp2_with fail
    refine HC.out.mono ?_
    rintro e w1 ⟨rfl, hb1⟩
    have HB1 := Lib.hid (KB.out.trans (hb1.mono KB.out.size))
    clear hb1
    go_wp2
    go_ret
    exact HF.out _ HB1.out
  rw [tb_true he] at hc
  have HC := Lib.hid hc
  clear hc kb kt ku
  go_wp2_with fail
  refine HC.out.mono ?_
  rintro e w1 ⟨rfl, hb1⟩
  have HB1 := Lib.hid (KB.out.trans (hb1.mono KB.out.size))
  have ku1 := HKU.out.below hb1
  have kt1 := HKT.out.below hb1
  have ku1c0 := ku1.c0
  have ku1c1 := ku1.c1
  have ku1c2 := ku1.c2
  have ku1lt := ku1.lt
  have hc := rcheck_any u w1 (HU.out.on HB1.out)
  unfold LTy.val at hc
  by_cases he2 : May (strip u)
  case neg =>
    rw [tb_false he2] at hc
    have HC2 := Lib.hid hc
    have HF := Lib.hid (show ∀ w1, Below w.heap.size w w1 → RetB (.bool (tb (strip t = strip u ∧ May (strip t)))) w (.returned (.bool false)) w1 from fun w1 h => ⟨by rw [tb_false (fun e => he2 (by have h1 := e.2; rw [e.1] at h1; exact h1))], h⟩)
    clear hc he he2 kt1 ku1 hb1
    go_wp2_with fail
    refine HC2.out.mono ?_
    rintro e w2 ⟨rfl, hb2⟩
    have HB2 := Lib.hid (HB1.out.trans (hb2.mono HB1.out.size))
    clear hb2
    go_wp2
    go_ret
    exact HF.out _ HB2.out
  rw [tb_true he2] at hc
  have HC2 := Lib.hid hc
  have HKT1 := Lib.hid kt1
  have HKU1 := Lib.hid ku1
  have HE := Lib.hid (show tb (strip t = strip u ∧ May (strip t)) = tb (strip t = strip u) from by rw [tb_and, tb_true he]; cases tb (strip t = strip u) <;> rfl)
  clear hc he he2 kt1 ku1 hb1
  go_wp2_with fail
  refine HC2.out.mono ?_
  rintro e w2 ⟨rfl, hb2⟩
  have HB2 := Lib.hid (HB1.out.trans (hb2.mono HB1.out.size))
  have ku2 := HKU1.out.below hb2
  have kt2 := HKT1.out.below hb2
  have ku2c0 := ku2.c0
  have ku2c1 := ku2.c1
  have ku2c2 := ku2.c2
  have ku2lt := ku2.lt
  have kt2c0 := kt2.c0
  have kt2c1 := kt2.c1
  have kt2c2 := kt2.c2
  have kt2lt := kt2.lt
  have hl := rlike_any t u w2 (HT.out.on HB2.out) (HU.out.on HB2.out)
  unfold LTy.val at hl
  have HL := Lib.hid hl
  clear hl ku2 kt2 hb2
  go_wp2_with fail
  refine HL.out.mono ?_
  rintro e w3 ⟨rfl, hb3⟩
  have HB3 := Lib.hid (HB2.out.trans (hb3.mono HB2.out.size))
  clear hb3
  go_wp2
  go_ret
  exact ⟨by rw [HE.out]; first | rfl | (cases tb (strip t = strip u) <;> rfl), HB3.out⟩
set_option maxRecDepth 100000 in
set_option maxHeartbeats 2000000 in
theorem may_any (t u : LTy) (w : World) (ht : LIn w w.heap.size t) (hu : LIn w w.heap.size u) (hsp : SpW w) : Calls Tryd.prog 50 #[t.val, u.val] w (RetB (.bool (tb (May (strip t) ∧ May (strip u)))) w) := by
  unfold LTy.val
  obtain ⟨g, hg⟩ : ∃ g, g = w.heap.size := ⟨_, rfl⟩
  have HT := Lib.hid ht
  have HU := Lib.hid hu
  have HSP := Lib.hid hsp
  clear hsp
  clear ht hu
  go_enter Tryd.func50, Tryd.ntmps50
  go_upto_region 1 with fail
  rw [← hg]
  refine gen_wpT fun W hW => ?_
  obtain ⟨kt, ku, kb⟩ : TBox W g t ∧ TBox W (g + 1) u ∧ Below w.heap.size w W := by rw [← hW, hg]; exact two_boxes w t u
  have KB := Lib.hid kb
  have ktc0 := kt.c0
  have ktc1 := kt.c1
  have ktc2 := kt.c2
  have ktlt := kt.lt
  have kuc0 := ku.c0
  have kuc1 := ku.c1
  have kuc2 := ku.c2
  have kult := ku.lt
  clear hW hg
  have hc := tcheck_any t W (HT.out.on kb) (HSP.out.below kb)
  have HKU := Lib.hid ku
  unfold LTy.val at hc
  by_cases he : May (strip t)
  case neg =>
    rw [tb_false he] at hc
    have HC := Lib.hid hc
    have HF := Lib.hid (show ∀ w1, Below w.heap.size w w1 → RetB (.bool (tb (May (strip t) ∧ May (strip u)))) w (.returned (.bool false)) w1 from fun w1 h => ⟨by rw [tb_false (fun e => he e.1)], h⟩)
    clear hc he kb kt ku
    go_wp2_with fail
    refine HC.out.mono ?_
    rintro e w1 ⟨rfl, hb1⟩
    have HB1 := Lib.hid (KB.out.trans (hb1.mono KB.out.size))
    clear hb1
    go_wp2
    go_ret
    exact HF.out _ HB1.out
  rw [tb_true he] at hc
  have HC := Lib.hid hc
  have HE := Lib.hid (show tb (May (strip t) ∧ May (strip u)) = tb (May (strip u)) from by rw [tb_and, tb_true he]; rfl)
  clear hc he kb kt ku
  go_wp2_with fail
  refine HC.out.mono ?_
  rintro e w1 ⟨rfl, hb1⟩
  have HB1 := Lib.hid (KB.out.trans (hb1.mono KB.out.size))
  have ku1 := HKU.out.below hb1
  have ku1c0 := ku1.c0
  have ku1c1 := ku1.c1
  have ku1c2 := ku1.c2
  have ku1lt := ku1.lt
  have hc := tcheck_any u w1 (HU.out.on HB1.out) (HSP.out.below HB1.out)
  unfold LTy.val at hc
  have HC2 := Lib.hid hc
  clear hb1 ku1 hc
  go_wp2_with fail
  refine HC2.out.mono ?_
  rintro e w2 ⟨rfl, hb2⟩
  have HB2 := Lib.hid (HB1.out.trans (hb2.mono HB1.out.size))
  clear hb2
  go_wp2
  go_ret
  exact ⟨by rw [HE.out]; first | rfl | (cases tb (May (strip u)) <;> rfl), HB2.out⟩
set_option maxRecDepth 100000 in
set_option maxHeartbeats 2000000 in
theorem both_any (t u : LTy) (w : World) (ht : LIn w w.heap.size t) (hu : LIn w w.heap.size u) : Calls Tryd.prog 52 #[t.val, u.val] w (RetB (.bool (tb (May (strip t) ∧ May (strip u)))) w) := by
  unfold LTy.val
  obtain ⟨g, hg⟩ : ∃ g, g = w.heap.size := ⟨_, rfl⟩
  have HT := Lib.hid ht
  have HU := Lib.hid hu
  clear ht hu
  go_enter Tryd.func52, Tryd.ntmps52
  go_upto_region 1 with fail
  rw [← hg]
  refine gen_wpT fun W hW => ?_
  obtain ⟨kt, ku, kb⟩ : TBox W g t ∧ TBox W (g + 1) u ∧ Below w.heap.size w W := by rw [← hW, hg]; exact two_boxes w t u
  have KB := Lib.hid kb
  have ktc0 := kt.c0
  have ktc1 := kt.c1
  have ktc2 := kt.c2
  have ktlt := kt.lt
  have kuc0 := ku.c0
  have kuc1 := ku.c1
  have kuc2 := ku.c2
  have kult := ku.lt
  clear hW hg
  have hc := rcheck_any t W (HT.out.on kb)
  have HKU := Lib.hid ku
  unfold LTy.val at hc
  by_cases he : May (strip t)
  case neg =>
    rw [tb_false he] at hc
    have HC := Lib.hid hc
    have HF := Lib.hid (show ∀ w1, Below w.heap.size w w1 → RetB (.bool (tb (May (strip t) ∧ May (strip u)))) w (.returned (.bool false)) w1 from fun w1 h => ⟨by rw [tb_false (fun e => he e.1)], h⟩)
    clear hc he kb kt ku
    go_wp2_with fail
    refine HC.out.mono ?_
    rintro e w1 ⟨rfl, hb1⟩
    have HB1 := Lib.hid (KB.out.trans (hb1.mono KB.out.size))
    clear hb1
    go_wp2
    go_ret
    exact HF.out _ HB1.out
  rw [tb_true he] at hc
  have HC := Lib.hid hc
  have HE := Lib.hid (show tb (May (strip t) ∧ May (strip u)) = tb (May (strip u)) from by rw [tb_and, tb_true he]; rfl)
  clear hc he kb kt ku
  go_wp2_with fail
  refine HC.out.mono ?_
  rintro e w1 ⟨rfl, hb1⟩
  have HB1 := Lib.hid (KB.out.trans (hb1.mono KB.out.size))
  have ku1 := HKU.out.below hb1
  have ku1c0 := ku1.c0
  have ku1c1 := ku1.c1
  have ku1c2 := ku1.c2
  have ku1lt := ku1.lt
  have hc := rcheck_any u w1 (HU.out.on HB1.out)
  unfold LTy.val at hc
  have HC2 := Lib.hid hc
  clear hb1 ku1 hc
  go_wp2_with fail
  refine HC2.out.mono ?_
  rintro e w2 ⟨rfl, hb2⟩
  have HB2 := Lib.hid (HB1.out.trans (hb2.mono HB1.out.size))
  clear hb2
  go_wp2
  go_ret
  exact ⟨by rw [HE.out]; first | rfl | (cases tb (May (strip u)) <;> rfl), HB2.out⟩
set_option maxRecDepth 100000 in
set_option maxHeartbeats 2000000 in
theorem tvague_any (t : LTy) (w : World) (hin : LIn w w.heap.size t) (hsp : SpW w) : Calls Tryd.prog 38 #[t.val] w (RetB (.bool (tb (May (strip t) → Loose (strip t)))) w) := by
  have hmf : ∀ (fn : Fn) (first cap : Array Value) (w : World), (Instr.makeFunc fn first cap).run Tryd.prog w = .ok (.func fn first cap) w := fun _ _ _ _ => rfl
  have hcf : ∀ args W, (callFunc 61 args).run Tryd.prog W = .ok (.enter 61 args) W := fun _ _ => rfl
  unfold LTy.val
  obtain ⟨g, hg⟩ : ∃ g, g = w.heap.size := ⟨_, rfl⟩
  have HIN := Lib.hid hin
  have HSP := Lib.hid hsp
  clear hin hsp
  go_enter Tryd.func38, Tryd.ntmps38
  go_upto_region 2 with fail
  rw [← hg]
  refine gen_wpT fun W hW => ?_
  obtain ⟨b, hbn⟩ : ∃ b, b = g + 1 := ⟨_, rfl⟩
  have hbg : w.heap.size < b := by omega
  have kt : TBox W g t := by rw [← hW, hg]; exact blk_alloc (one_box w t).1 _
  have kb : Below w.heap.size w W := by rw [← hW]; exact (one_box w t).2.alloc (by simp) _
  have kv : W.heap[b]? = some (.cells #[.nilFunc] 33 (0, 0)) := by rw [← hW, hbn, hg]; exact heap_new_at _ _ _ (by simp)
  have v0 := cell_of_blk (i := 0) kv rfl
  have fv := free_of_blk (i := 0) kv
  have lv := blk_lt kv
  have KT := Lib.hid kt
  have KB := Lib.hid kb
  have KV := Lib.hid kv
  rw [← hbn]
  clear hW kt kb kv hbn
  go_upto_region 3 with fail
  refine gen_wpT fun V hV => ?_
  have hgb : g ≠ b := by omega
  have kt : TBox V g t := by rw [← hV]; exact blk_far KT.out hgb _
  have kv : VBox V b := by rw [← hV]; exact blk_set (i := 0) KV.out _
  have kb : Below w.heap.size w V := by rw [← hV]; exact KB.out.setCell (by simp; omega) _
  have lv2 := blk_lt kv
  have hv0 := cell_of_blk (i := 0) kv rfl
  have hvag := vag_any b t V (HIN.out.on kb) kv
  have ktc0 := kt.c0
  have ktc1 := kt.c1
  have ktc2 := kt.c2
  have ktlt := kt.lt
  unfold LTy.val at hvag
  have HKT := Lib.hid kt
  have HKB := Lib.hid kb
  clear hV kv v0 fv lv hgb hg hbg
  by_cases hl : Loose (strip t)
  · rw [tb_true hl] at hvag
    have HE := Lib.hid (show tb (May (strip t) → Loose (strip t)) = true from tb_true (fun _ => hl))
    have HV := Lib.hid hvag
    clear hvag hl kt kb
    go_wp2_with fail
    refine HV.out.mono ?_
    rintro e w1 ⟨rfl, hb1⟩
    have HB1 := Lib.hid (HKB.out.trans (hb1.mono HKB.out.size))
    clear hb1
    go_wp2
    go_ret
    exact ⟨by rw [HE.out]; rfl, HB1.out⟩
  · rw [tb_false hl] at hvag
    have HV := Lib.hid hvag
    have HE := Lib.hid (show tb (May (strip t) → Loose (strip t)) = !tb (May (strip t)) by
      by_cases hm : May (strip t)
      · rw [tb_true hm, tb_false (fun e => hl (e hm))]; rfl
      · rw [tb_false hm, tb_true (fun e => (hm e).elim)]; rfl)
    clear hvag hl kt kb
    go_wp2_with fail
    refine HV.out.mono ?_
    rintro e w1 ⟨rfl, hb1⟩
    have HB1 := Lib.hid (HKB.out.trans (hb1.mono HKB.out.size))
    have kt1 := HKT.out.below hb1
    have kt1c0 := kt1.c0
    have kt1c1 := kt1.c1
    have kt1c2 := kt1.c2
    have kt1lt := kt1.lt
    have hc := tcheck_any t w1 (HIN.out.on HB1.out) (HSP.out.below HB1.out)
    unfold LTy.val at hc
    have HC := Lib.hid hc
    clear hb1 kt1 hc
    go_wp2_with fail
    refine HC.out.mono ?_
    rintro e w2 ⟨rfl, hb2⟩
    have HB2 := Lib.hid (HB1.out.trans (hb2.mono HB1.out.size))
    clear hb2
    go_wp2
    go_ret
    exact ⟨by rw [HE.out]; first | rfl | (cases tb (May (strip t)) <;> rfl), HB2.out⟩
set_option maxRecDepth 100000 in
set_option maxHeartbeats 2000000 in
theorem rvague_any (t : LTy) (w : World) (hin : LIn w w.heap.size t) : Calls Tryd.prog 29 #[t.val] w (RetB (.bool (tb (May (strip t) → Loose (strip t)))) w) := by
  unfold LTy.val
  obtain ⟨g, hg⟩ : ∃ g, g = w.heap.size := ⟨_, rfl⟩
  have HIN := Lib.hid hin
  clear hin
  go_enter Tryd.func29, Tryd.ntmps29
  go_upto_region 1 with fail
  rw [← hg]
  refine gen_wpT fun W hW => ?_
  obtain ⟨kt, kb⟩ : TBox W g t ∧ Below w.heap.size w W := by rw [← hW, hg]; exact one_box w t
  have KB := Lib.hid kb
  have KT := Lib.hid kt
  have ktc0 := kt.c0
  have ktc1 := kt.c1
  have ktc2 := kt.c2
  have ktlt := kt.lt
  have hc := rcheck_any t W (HIN.out.on kb)
  unfold LTy.val at hc
  clear hW kb kt hg
  by_cases hm : May (strip t)
  · rw [tb_true hm] at hc
    have HC := Lib.hid hc
    have HE := Lib.hid (show tb (May (strip t) → Loose (strip t)) = tb (Loose (strip t)) from tb_congr ⟨fun e => e hm, fun e _ => e⟩)
    clear hc hm
    go_wp2_with fail
    refine HC.out.mono ?_
    rintro e w1 ⟨rfl, hb1⟩
    have HB1 := Lib.hid (KB.out.trans (hb1.mono KB.out.size))
    have kt1 := KT.out.below hb1
    have kt1c0 := kt1.c0
    have kt1c1 := kt1.c1
    have kt1c2 := kt1.c2
    have kt1lt := kt1.lt
    have hv := rvag_any t w1 (HIN.out.on HB1.out)
    unfold LTy.val at hv
    have HV := Lib.hid hv
    clear hb1 kt1 hv
    go_wp2_with fail
    refine HV.out.mono ?_
    rintro e w2 ⟨rfl, hb2⟩
    have HB2 := Lib.hid (HB1.out.trans (hb2.mono HB1.out.size))
    clear hb2
    go_wp2
    go_ret
    exact ⟨by rw [HE.out]; first | rfl | (cases tb (Loose (strip t)) <;> rfl), HB2.out⟩
  · rw [tb_false hm] at hc
    have HC := Lib.hid hc
    have HE := Lib.hid (show tb (May (strip t) → Loose (strip t)) = true from tb_true (fun e => (hm e).elim))
    clear hc hm
    go_wp2_with fail
    refine HC.out.mono ?_
    rintro e w1 ⟨rfl, hb1⟩
    have HB1 := Lib.hid (KB.out.trans (hb1.mono KB.out.size))
    clear hb1
    go_wp2
    go_ret
    exact ⟨by rw [HE.out]; rfl, HB1.out⟩
end Go.Proofs.YtllpicibncdppaaDoor
