/-
  What two types say together: the program's Meet.
-/
import Derived.Test.YtllpicibncdppaaDoorReMeet
set_option linter.unusedVariables false
set_option linter.unusedSimpArgs false
namespace Go.Proofs.YtllpicibncdppaaDoor
open Go.ChangeShapes Go.WideShapes Go.ChangeAt Go.RowKit

set_option maxRecDepth 100000 in
set_option maxHeartbeats 8000000 in
theorem tMeet_any (t u : LTy) (w : World) (B : Nat) (hB : B ≤ w.heap.size) (ht : LIn w B t) (hu : LIn w B u) (hsp : SpW w) : Calls Tryd.prog 42 #[t.val, u.val] w (RetM B (meetT (strip t) (strip u)) w) := by
  obtain ⟨ans, hans⟩ : ∃ ans, ans = meetT (strip t) (strip u) := ⟨_, rfl⟩
  rw [← hans]
  have HA := Lib.hid hans
  unfold LTy.val
  obtain ⟨g, hg⟩ : ∃ g, g = w.heap.size := ⟨_, rfl⟩
  have HOT := Lib.hid ht
  have HOU := Lib.hid hu
  have HBB := Lib.hid hB
  have HT := Lib.hid (ht.more hB)
  have HU := Lib.hid (hu.more hB)
  have HSP := Lib.hid hsp
  clear hsp
  clear hans ht hu hB
  go_enter Tryd.func42, Tryd.ntmps42
  go_upto_region 1 with fail
  rw [← hg]
  refine gen_wpT fun w0 hW => ?_
  obtain ⟨kt, ku, kr, kb⟩ : TBox w0 g t ∧ TBox w0 (g + 1) u ∧ ZBox w0 (g + 2) ∧ Below w.heap.size w w0 := by rw [← hW, hg]; exact three_boxes w t u
  have T0 := Lib.hid kt
  have U0 := Lib.hid ku
  have R0 := Lib.hid kr
  have B0 := Lib.hid kb
  have HGW := Lib.hid (show w.heap.size ≤ g + 2 by omega)
  have G0 : g + 2 < w0.heap.size := blk_lt kr
  clear hW hg kt ku kr kb
  have t0 := T0.out
  have t0c0 := t0.c0
  have t0c1 := t0.c1
  have t0c2 := t0.c2
  have t0lt := t0.lt
  have u0 := U0.out
  have u0c0 := u0.c0
  have u0c1 := u0.c1
  have u0c2 := u0.c2
  have u0lt := u0.lt
  have r0 := R0.out
  have r0c0 := cell_of_blk (i := 0) r0 rfl
  have r0c1 := cell_of_blk (i := 1) r0 rfl
  have r0c2 := cell_of_blk (i := 2) r0 rfl
  have r0f0 := free_of_blk (i := 0) r0
  have r0f1 := free_of_blk (i := 1) r0
  have r0f2 := free_of_blk (i := 2) r0
  clear t0 u0 r0
  have HMA := Lib.hid (show ∀ w', Below w.heap.size w w' → Calls Tryd.prog 50 #[.agg #[.int .i64 t.kind, .slice t.A t.ns.length t.c, .slice t.A2 t.xs.length t.c2], .agg #[.int .i64 u.kind, .slice u.A u.ns.length u.c, .slice u.A2 u.xs.length u.c2]] w' (RetB (.bool (tb (May (strip t) ∧ May (strip u)))) w') from fun w' hb => may_any t u w' (HT.out.on hb) (HU.out.on hb) (HSP.out.below hb))
  by_cases hm : May (strip t) ∧ May (strip u)
  case neg =>
    rw [tb_false hm] at HMA
    have HN := Lib.hid hm
    clear hm
    go_wp2_with fail
    with_reducible refine ((HMA.out w0 B0.out)).mono ?_
    rintro e w1 ⟨rfl, hb1⟩
    have T1 := Lib.hid (T0.out.below hb1)
    have U1 := Lib.hid (U0.out.below hb1)
    have R1 := Lib.hid (R0.out.below hb1)
    have B1 := Lib.hid (B0.out.trans (hb1.mono B0.out.size))
    have G1 : g + 2 < w1.heap.size := blk_lt R1.out
    clear hb1
    have t1 := T1.out
    have t1c0 := t1.c0
    have t1c1 := t1.c1
    have t1c2 := t1.c2
    have t1lt := t1.lt
    have u1 := U1.out
    have u1c0 := u1.c0
    have u1c1 := u1.c1
    have u1c2 := u1.c2
    have u1lt := u1.lt
    have r1 := R1.out
    have r1c0 := cell_of_blk (i := 0) r1 rfl
    have r1c1 := cell_of_blk (i := 1) r1 rfl
    have r1c2 := cell_of_blk (i := 2) r1 rfl
    have r1f0 := free_of_blk (i := 0) r1
    have r1f1 := free_of_blk (i := 1) r1
    have r1f2 := free_of_blk (i := 2) r1
    clear t1 u1 r1
    go_wp2
    refine bodyPost_ret (v := .tuple #[.agg #[.int .i64 0, .slice none 0 0, .slice none 0 0], .bool false]) (by simp [results, Tryd.results42, go_sem, r1c0, r1c1, r1c2]) rfl ?_
    first | exact .inl ⟨by rw [HA.out]; exact if_neg HN.out, rfl, (((B1.out.setCell (by have := HGW.out; simp; omega) _).setCell (by have := HGW.out; simp; omega) _).setCell (by have := HGW.out; simp; omega) _)⟩ | exact .inl ⟨by rw [HA.out]; exact if_neg HN.out, rfl, B1.out⟩
  rw [tb_true hm] at HMA
  have HMM := Lib.hid hm
  have HE := Lib.hid (show ans = meetF 50 (strip t) (strip u) by rw [HA.out]; exact if_pos hm)
  clear hm
  have HM := Lib.hid (show ∀ w', Below w.heap.size w w' → Calls Tryd.prog 66 #[.agg #[.int .i64 t.kind, .slice t.A t.ns.length t.c, .slice t.A2 t.xs.length t.c2], .agg #[.int .i64 u.kind, .slice u.A u.ns.length u.c, .slice u.A2 u.xs.length u.c2]] w' (RetM B ans w') from fun w' hb => by
    have := meet_all 50 t u w' B (Nat.le_trans HBB.out hb.size) (HOT.out.stay (hb.mono HBB.out)) (HOU.out.stay (hb.mono HBB.out)) (HSP.out.below hb) HMM.out.1 HMM.out.2 HMM.out.1.1 HMM.out.2.1
    rw [← HE.out] at this
    exact this)
  go_wp2_with fail
  with_reducible refine ((HMA.out w0 B0.out)).mono ?_
  rintro e w1 ⟨rfl, hb1⟩
  have T1 := Lib.hid (T0.out.below hb1)
  have U1 := Lib.hid (U0.out.below hb1)
  have R1 := Lib.hid (R0.out.below hb1)
  have B1 := Lib.hid (B0.out.trans (hb1.mono B0.out.size))
  have G1 : g + 2 < w1.heap.size := blk_lt R1.out
  clear hb1
  have t1 := T1.out
  have t1c0 := t1.c0
  have t1c1 := t1.c1
  have t1c2 := t1.c2
  have t1lt := t1.lt
  have u1 := U1.out
  have u1c0 := u1.c0
  have u1c1 := u1.c1
  have u1c2 := u1.c2
  have u1lt := u1.lt
  have r1 := R1.out
  have r1c0 := cell_of_blk (i := 0) r1 rfl
  have r1c1 := cell_of_blk (i := 1) r1 rfl
  have r1c2 := cell_of_blk (i := 2) r1 rfl
  have r1f0 := free_of_blk (i := 0) r1
  have r1f1 := free_of_blk (i := 1) r1
  have r1f2 := free_of_blk (i := 2) r1
  clear t1 u1 r1
  go_wp2_with fail
  with_reducible refine (HM.out w1 B1.out).mono ?_
  rintro e w2 (⟨h, rfl, hb2⟩ | ⟨r, hr, rfl, hlive, hb2⟩)
  · have HEN := Lib.hid (HA.out.symm.trans h)
    have T2 := Lib.hid (T1.out.below hb2)
    have U2 := Lib.hid (U1.out.below hb2)
    have R2 := Lib.hid (R1.out.below hb2)
    have B2 := Lib.hid (B1.out.trans (hb2.mono B1.out.size))
    have G2 : g + 2 < w2.heap.size := blk_lt R2.out
    clear hb2 h
    have t2 := T2.out
    have t2c0 := t2.c0
    have t2c1 := t2.c1
    have t2c2 := t2.c2
    have t2lt := t2.lt
    have u2 := U2.out
    have u2c0 := u2.c0
    have u2c1 := u2.c1
    have u2c2 := u2.c2
    have u2lt := u2.lt
    have r2 := R2.out
    have r2c0 := cell_of_blk (i := 0) r2 rfl
    have r2c1 := cell_of_blk (i := 1) r2 rfl
    have r2c2 := cell_of_blk (i := 2) r2 rfl
    have r2f0 := free_of_blk (i := 0) r2
    have r2f1 := free_of_blk (i := 1) r2
    have r2f2 := free_of_blk (i := 2) r2
    clear t2 u2 r2
    go_wp2
    refine bodyPost_ret (v := .tuple #[.agg #[.int .i64 0, .slice none 0 0, .slice none 0 0], .bool false]) (by simp [results, Tryd.results42, go_sem, r2c0, r2c1, r2c2]) rfl ?_
    first | exact .inl ⟨by rw [HA.out]; exact HEN.out, rfl, (((B2.out.setCell (by have := HGW.out; simp; omega) _).setCell (by have := HGW.out; simp; omega) _).setCell (by have := HGW.out; simp; omega) _)⟩ | exact .inl ⟨by rw [HA.out]; exact HEN.out, rfl, B2.out⟩
  · have HER := Lib.hid (HA.out.symm.trans hr)
    have HLV := Lib.hid hlive
    have HB2 := Lib.hid hb2
    have T2 := Lib.hid (T1.out.below hb2)
    have U2 := Lib.hid (U1.out.below hb2)
    have R2 := Lib.hid (R1.out.below hb2)
    have B2 := Lib.hid (B1.out.trans (hb2.mono B1.out.size))
    have G2 : g + 2 < w2.heap.size := blk_lt R2.out
    clear hb2 hr hlive
    have t2 := T2.out
    have t2c0 := t2.c0
    have t2c1 := t2.c1
    have t2c2 := t2.c2
    have t2lt := t2.lt
    have u2 := U2.out
    have u2c0 := u2.c0
    have u2c1 := u2.c1
    have u2c2 := u2.c2
    have u2lt := u2.lt
    have r2 := R2.out
    have r2c0 := cell_of_blk (i := 0) r2 rfl
    have r2c1 := cell_of_blk (i := 1) r2 rfl
    have r2c2 := cell_of_blk (i := 2) r2 rfl
    have r2f0 := free_of_blk (i := 0) r2
    have r2f1 := free_of_blk (i := 1) r2
    have r2f2 := free_of_blk (i := 2) r2
    clear t2 u2 r2
    unfold LTy.val
    go_wp2
    refine bodyPost_ret (v := .tuple #[.agg #[.int .i64 r.kind, .slice r.A r.ns.length r.c, .slice r.A2 r.xs.length r.c2], .bool true]) (by simp [results, Tryd.results42, go_sem, r2c0, r2c1, r2c2]) rfl ?_
    refine .inr ⟨r, by rw [HA.out]; exact HER.out, rfl, lives_in HLV.out B1.out.size (fun b hb hlt => set3_heap w2 (g + 2) _ _ _ ?_) (Nat.le_of_eq (set3_size w2 (g + 2) _ _ _).symm), (((B2.out.setCell (by have := HGW.out; simp; omega) _).setCell (by have := HGW.out; simp; omega) _).setCell (by have := HGW.out; simp; omega) _)⟩
    have h1 := HBB.out
    have h2 := HGW.out
    omega
theorem tMeet_self (t : LTy) (w : World) (ht : LIn w w.heap.size t) (hsp : SpW w) (hm : May (strip t)) : Calls Tryd.prog 42 #[t.val, t.val] w (RetM w.heap.size (some (strip t)) w) := by
  rw [← meetT_self hm]
  exact tMeet_any t t w _ (Nat.le_refl _) ht ht hsp
end Go.Proofs.YtllpicibncdppaaDoor
