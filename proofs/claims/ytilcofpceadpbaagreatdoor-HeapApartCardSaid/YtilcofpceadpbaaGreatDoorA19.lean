/-
 HeapApart: part 19 of what the claim rests on.
-/
import Derived.Test.YtilcofpceadpbaaGreatDoorA17
import Derived.Test.YtilcofpceadpbaaGreatDoorA18
import Derived.Deep.RegionLaw
set_option linter.unusedVariables false
set_option linter.unusedSimpArgs false
set_option maxHeartbeats 64000000
namespace Go.Proofs.YtilcofpceadpbaaGreatDoor
open Go.ChangeShapes Go.WideShapes Go.ChangeAt Go.RowKit Go.Maps

theorem rhnew_any (l : Int) (w : World) : Calls Tryz.prog 7 #[.int .i64 l] w fun e w' => e = .returned (.pointer (some ⟨w.heap.size, 0, none⟩)) ∧ w'.heap[w.heap.size]? = some (.cells #[.int .i64 (max l 0), .int .i64 0, .slice none 0 0, .slice none 0 0, .slice none 0 0] 45 (0, 0)) ∧ Below w.heap.size w w' := by
 by_cases hl : l < 0
 all_goals
  go_enter Tryz.func7, Tryz.ntmps7
  go_wp2
  go_ret
  refine ⟨rfl, ?_, (Below.refl _ _).alloc (Nat.le_refl _) _⟩
  first
   | (rw [show max l 0 = 0 by omega]; exact heap_new_at _ _ _ rfl)
   | (rw [show max l 0 = l by omega]; exact heap_new_at _ _ _ rfl)
def RChargeOut (h : Nat) (L U n : Int) (tv fv cv : Value) (w : World) (e : Ending) (w' : World) : Prop :=
 (max n 0 > L - U ∧ e = .returned (.bool false) ∧ Below w.heap.size w w') ∨ (max n 0 ≤ L - U ∧ e = .returned (.bool true) ∧ w'.heap[h]? = some (.cells #[.int .i64 L, .int .i64 (U + max n 0), tv, fv, cv] 45 (0, 0)) ∧ Fr [h] w w')
set_option maxRecDepth 100000 in
theorem rhcharge_any {w : World} {h : Nat} {L U : Int} {tv fv cv : Value} (n : Int) (hh : w.heap[h]? = some (.cells #[.int .i64 L, .int .i64 U, tv, fv, cv] 45 (0, 0))) (h0 : 0 ≤ U) (h1 : U ≤ L) (h2 : L ≤ 9223372036854775807) (hn : n ≤ 9223372036854775807) : Calls Tryz.prog 39 #[.pointer (some ⟨h, 0, none⟩), .int .i64 n] w (RChargeOut h L U n tv fv cv w) := by
 obtain ⟨m, hm, hm0, hm1⟩ : ∃ m, max n 0 = m ∧ 0 ≤ m ∧ m ≤ 9223372036854775807 := ⟨_, rfl, by omega, by omega⟩
 have HM := Lib.hid hm
 have HH := Lib.hid hh
 obtain ⟨q0, q1, q2, q3, q4, qf0, qf1, qf2, qf3, qf4, ql⟩ := blk_5 hh
 have hsub : IntKind.wrap .i64 (L - U) = L - U := by rw [IntKind.wrap_i64]; omega
 go_enter Tryz.func39, Tryz.ntmps39
 go_upto_region 1 with (fail)
 go_cut [1] (fun s1 w' => s1 = .int .i64 m ∧ w = w')
 case first =>
  by_cases hj : n < 0
  all_goals
   go_wp2
   go_meet
   case rel => exact ⟨by congr 1; omega, rfl⟩
 case rest =>
  obtain ⟨rfl, rfl⟩ := hcut
  clear hm
  have hadd : m ≤ L - U → IntKind.wrap .i64 (U + m) = U + m := fun _ => by rw [IntKind.wrap_i64]; omega
  by_cases hr : m > L - U
  ·go_wp2_with fail
   go_quiet (fail)
   go_wp2
   go_ret
   exact .inl ⟨by rw [HM.out]; exact hr, rfl, belowDN (Below.refl _ _) _⟩
  ·go_wp2_with fail
   go_quiet (fail)
   go_wp2
   go_ret
   exact .inr ⟨by rw [HM.out]; omega, rfl, by rw [HM.out]; exact blk_set HH.out _, ((Fr.refl [h] w).drewN _).set _ (.inl (by simp))⟩
theorem rcharge_at {w : World} {B N h : Nat} {s : HpS} {d : HpD} (H : RpAt w B N h s d) (k : Int) (hk : k ≤ 9223372036854775807) : Calls Tryz.prog 39 #[.pointer (some ⟨h, 0, none⟩), .int .i64 k] w fun e w' =>
  (e = .returned (.bool false) ∧ Below w.heap.size w w') ∨ (e = .returned (.bool true) ∧ s.U + max k 0 ≤ s.L ∧ RpAt w' B N h { s with U := s.U + max k 0 } d ∧ Fr [h] w w') := by
 refine (rhcharge_any k H.blk H.u0 H.u1 H.u2 hk).mono ?_
 rintro e w' (⟨_, rfl, hb⟩ | ⟨hr, rfl, hh, hf⟩)
 ·exact .inl ⟨rfl, hb⟩
 ·refine .inr ⟨rfl, by omega, H.charged hf hh (by have := H.u0; omega) (by omega), hf⟩
theorem RpTo.charged {w : World} {B N h : Nat} {s : HpS} {d : HpD} (H : RpAt w B N h s d) {w' : World} {U' : Int} (hh : RpAt w' B N h { s with U := U' } d) (hf : Fr [h] w w') : RpTo w B N h s d { s with U := U' } w' :=
 ⟨d, hh, hf.more fun x hx => .inl (by simp at hx; rw [hx]; exact fp_h _ _ _), fun b hb => .inl hb⟩
def RGoV (w : World) (B N h : Nat) (s : HpS) (d : HpD) (n : Nat) (e : Ending) (w' : World) : Prop := ∃ (x : VV) (b : Bool) (s' : HpS), e = .returned (.tuple #[.agg #[.int .i64 x.kind, .int .i64 x.n, .string x.s, .int .u64 (x.label : Int)], .bool b]) ∧ HpLe n s s' ∧ RpTo w B N h s d s' w'
def RGoI (w : World) (B N h : Nat) (s : HpS) (d : HpD) (n : Nat) (e : Ending) (w' : World) : Prop := ∃ (k : Int) (b : Bool) (s' : HpS), e = .returned (.tuple #[.int .i64 k, .bool b]) ∧ HpLe n s s' ∧ RpTo w B N h s d s' w'
def RGoE (w : World) (B N h : Nat) (s : HpS) (d : HpD) (n : Nat) (e : Ending) (w' : World) : Prop := ∃ (k : Int) (s' : HpS), e = .returned (.int .i64 k) ∧ HpLe n s s' ∧ RpTo w B N h s d s' w'
theorem RpTo.trans2 {w w1 w2 : World} {B N h : Nat} {s s1 s2 : HpS} {d d1 d2 : HpD} (f1 : Fr (d.fp h s.F) w w1) (n1 : ∀ b ∈ d1.fp h s1.F, b ∈ d.fp h s.F ∨ w.heap.size ≤ b) (h2 : RpAt w2 B N h s2 d2) (f2 : Fr (d1.fp h s1.F) w1 w2) (n2 : ∀ b ∈ d2.fp h s2.F, b ∈ d1.fp h s1.F ∨ w1.heap.size ≤ b) : RpTo w B N h s d s2 w2 :=
 ⟨d2, h2, f1.trans f2 n1, fun b hb => (n2 b hb).elim (fun e => n1 b e) fun e => .inr (Nat.le_trans f1.size e)⟩
theorem RpTo.wrap {w w1 w2 w' : World} {B N h : Nat} {s s' : HpS} {d : HpD} {R : List Nat} (H : RpAt w1 B N h s d) (hb : Below w.heap.size w w1) (hl : ∀ b ∈ d.fp h s.F, b < w.heap.size) (h2 : RpTo w1 B N h s d s' w2) (hf : Fr R w2 w') (hR : ∀ x ∈ R, w.heap.size ≤ x ∧ x < w1.heap.size) : RpTo w B N h s d s' w' := by
 obtain ⟨d', h3, h4, h5⟩ := h2
 refine ⟨d', h3.kept hf (fun b hb hm => ?_) (fun b hm => ?_), ((Fr.of_below hb _).trans h4 fun x hx => .inl hx).trans hf fun x hx => .inr (hR x hx).1, fun b hb' => (h5 b hb').imp id fun e => Nat.le_trans hb.size e⟩
 ·have := hR b hm
  rcases h5 b hb with e | e
  ·have := hl b e; omega
  ·omega
 ·have := (hR b hm).1
  have h6 := (H.kinds (fp_h d h s.F)).1
  have h7 := hl h (fp_h d h s.F)
  have := H.nB
  omega
theorem RpTo.of_charged {w w1 w2 : World} {B N h : Nat} {s s2 : HpS} {d : HpD} {U' : Int} (hf : Fr [h] w w1) (h2 : RpTo w1 B N h { s with U := U' } d s2 w2) : RpTo w B N h s d s2 w2 := by
 obtain ⟨d2, a, b, c⟩ := h2
 exact RpTo.trans2 (s1 := { s with U := U' }) (hf.more fun x hx => .inl (by simp at hx; rw [hx]; exact fp_h _ _ _)) (fun b hb => .inl hb) a b c
theorem rp_cells {w : World} {B N h : Nat} {s : HpS} {d : HpD} (H : RpAt w B N h s d) : w.cell? ⟨h, 0, none⟩ = some (.int .i64 s.L) ∧ w.cell? ⟨h, 1, none⟩ = some (.int .i64 s.U) ∧ w.cell? ⟨h, 2, none⟩ = some (.slice d.A1 s.T.length d.c1) ∧ w.cell? ⟨h, 3, none⟩ = some (.slice d.A2 s.F.length d.c2) ∧ w.cell? ⟨h, 4, none⟩ = some (.slice d.A3 s.C.length d.c3) ∧ (∀ i, w.frozen? ⟨h, i, none⟩ = false) ∧ h < w.heap.size :=
 ⟨cell_of_blk H.blk rfl, cell_of_blk H.blk rfl, cell_of_blk H.blk rfl, cell_of_blk H.blk rfl, cell_of_blk H.blk rfl, fun i => free_of_blk H.blk, blk_lt H.blk⟩
theorem ref_swap {w w' : World} {B N h : Nat} {s : HpS} {d : HpD} (H : RpAt w B N h s d) {i p' : Nat} {f' : List Nat} {T' : TabS} (hi : i < s.T.length) (ht : RTabIn w' B p' T' f') (hr : w'.ownsRow B 70 1 (.slice d.A1 s.T.length d.c1) s.T.length (ptrs (d.ps.set i p'))) (hf : Fr (aB d.A1) w w') (hd : ∀ b ∈ f', b ∉ d.fp h s.F) :
  RpAt w' B N h { s with T := s.T.set i T' } { d with ps := d.ps.set i p', fps := d.fps.set i f' } := by
 have hf' : Fr (h :: aB d.A1) w w' := hf.more fun x hx => .inl (List.mem_cons_of_mem _ hx)
 obtain ⟨r1, r2, r3, r4, r5⟩ := H.rest (A := d.A1) H.k1 hf' ⟨by decide, by decide, by decide, by decide⟩
 refine ⟨?_, by simpa using hr, r4 (by decide), r5 (by decide), by simp [H.lp], by simp [H.lf], ?_, ?_, r2, H.hB, Nat.le_trans H.wB hf.size, H.nB, H.u0, H.u1, H.u2⟩
 ·have := hf.blk H.blk (fun hm => by obtain ⟨_, cs, fr, hk⟩ := H.k1 h hm; exact kind_ne hk H.blk (by decide) rfl)
  simpa using this
 ·intro j q T g e1 e2 e3
  simp only [List.getElem?_set] at e1 e2 e3
  by_cases hij : i = j
  ·subst hij
   rw [if_pos rfl, if_pos (by rw [H.lp]; exact hi)] at e1
   rw [if_pos rfl, if_pos hi] at e2
   rw [if_pos rfl, if_pos (by rw [H.lf]; exact hi)] at e3
   injection e1 with e1
   injection e2 with e2
   injection e3 with e3
   subst e1 e2 e3
   exact ht
  ·rw [if_neg hij] at e1 e2 e3
   exact r1 j q T g e1 e2 e3
 ·intro j k g g' hjk e1 e2 x hx hx'
  simp only [List.getElem?_set] at e1 e2
  by_cases hj : i = j
  ·rw [if_pos hj, if_pos (by rw [H.lf]; exact hi)] at e1
   rw [if_neg (fun e => hjk (hj.symm.trans e))] at e2
   injection e1 with e1
   subst e1
   exact hd x hx (fp_t (List.mem_of_getElem? e2) hx')
  ·rw [if_neg hj] at e1
   by_cases hk : i = k
   ·rw [if_pos hk, if_pos (by rw [H.lf]; exact hi)] at e2
    injection e2 with e2
    subst e2
    exact hd x hx' (fp_t (List.mem_of_getElem? e1) hx)
   ·rw [if_neg hk] at e2
    exact H.disj j k g g' hjk e1 e2 x hx hx'
theorem info_rtab : (Tryz.prog.info? 70).map (fun i => (i.zero, i.size, i.bytes)) = some (some (.pointer none), 1, 8) := by kernel_rfl
set_option maxRecDepth 100000 in
theorem rtable_at {w : World} {B N h : Nat} {s : HpS} {d : HpD} (H : RpAt w B N h s d) (l : Nat) (hl : l < 18446744073709551616) (n : Nat) (hn : s.T.length ≤ 1000000) : Calls Tryz.prog 16 #[.pointer (some ⟨h, 0, none⟩), .int .u64 (l : Int)] w (RGoV w B N h s d n) := by
 obtain ⟨i0, hi, hz0, hz1, hz2⟩ := info_parts info_rtab
 obtain ⟨b0, hb0⟩ : ∃ b, b = w.heap.size := ⟨_, rfl⟩
 have HE0 := Lib.hid hb0
 have HH := Lib.hid H
 have HLT := Lib.hid (fun b (hb : b ∈ d.fp h s.F) => (H.kinds hb).2)
 have HL := Lib.hid (And.intro hl hn)
 clear hb0 H hl hn
 go_enter Tryz.func16, Tryz.ntmps16
 go_upto_region 1 with fail
 rw [← HE0.out]
 refine gen_wp fun W hW => ?_
 have HB0 := Lib.hid (show W.heap[b0]? = some (.cells #[.int .i64 0, .int .i64 0, .string ⟨#[]⟩, .int .u64 0] 26 (0, 0)) by rw [← hW, HE0.out]; exact heap_new_at _ _ _ (by first | rfl | simp))
 have HW := Lib.hid (show Below w.heap.size w W by rw [← hW]; exact (Below.refl _ _).alloc (Nat.le_refl _) _)
 clear hW
 have HC := Lib.hid (rcharge_at (HH.out.below HW.out) 1 (by omega))
 go_wp2_with fail
 refine HC.out.mono ?_
 rintro e w1 (⟨rfl, hb⟩ | ⟨rfl, hr, hh, hf⟩)
 ·have D0 := Lib.hid (below_blk hb HB0.out)
  have DW := Lib.hid (HW.out.trans (hb.mono HW.out.size))
  clear hb
  obtain ⟨r0, r1, r2, r3, rf0, rf1, rf2, rf3, rl⟩ := blk_4 D0.out
  go_wp2
  obtain ⟨j0, j1, j2, j3⟩ := four D0.out rfl (.int .i64 0) (.int .i64 0) (.string ⟨#[]⟩) (.int .u64 0)
  refine bodyPost_ret (v := .tuple #[.agg #[.int .i64 0, .int .i64 0, .string ⟨#[]⟩, .int .u64 0], .bool false]) (by simp [results, Tryz.results16, go_sem, j0, j1, j2, j3]) rfl ?_
  exact ⟨⟨0, 0, ⟨#[]⟩, 0⟩, false, s, rfl, .refl _ _, .same HH.out (Below.setCell (p := ⟨b0, 3, none⟩) (Below.setCell (p := ⟨b0, 2, none⟩) (Below.setCell (p := ⟨b0, 1, none⟩) (Below.setCell (p := ⟨b0, 0, none⟩) DW.out (show w.heap.size ≤ b0 by have := HE0.out; omega) (.int .i64 0)) (show w.heap.size ≤ b0 by have := HE0.out; omega) (.int .i64 0)) (show w.heap.size ≤ b0 by have := HE0.out; omega) (.string ⟨#[]⟩)) (show w.heap.size ≤ b0 by have := HE0.out; omega) (.int .u64 0))⟩
 ·have hne0 : b0 ≠ h := fun e => by have := HLT.out h (fp_h d h s.F); have := HE0.out; omega
  have D0 := Lib.hid (hf.blk HB0.out (by simp; exact hne0))
  have HNE := Lib.hid hne0
  have HF1 := Lib.hid hf
  have HR := Lib.hid hr
  have H1 := Lib.hid hh
  clear hf hr hh hne0
  obtain ⟨U1, hU1⟩ : ∃ U1, U1 = s.U + max 1 0 := ⟨_, rfl⟩
  have HU := Lib.hid hU1
  rw [← hU1] at H1 HR
  clear hU1
  obtain ⟨c0, c1, c2, c3, c4, cf, cl⟩ := rp_cells H1.out
  have HBK := Lib.hid (show w1.heap[h]? = some (.cells #[.int .i64 s.L, .int .i64 U1, .slice d.A1 s.T.length d.c1, .slice d.A2 s.F.length d.c2, .slice d.A3 s.C.length d.c3] 45 (0, 0)) from H1.out.blk)
  have HO := Lib.hid (show w1.ownsRow B 70 1 (.slice d.A1 s.T.length d.c1) s.T.length (ptrs d.ps) from H1.out.o1)
  have hne := own_blk_ne HO.out HBK.out (by decide)
  have hw1 : IntKind.wrap .i64 (((s.T.length + 1 : Nat) : Int) - 1) = (s.T.length : Int) := by have := HL.out.2; rw [IntKind.wrap_i64]; omega
  have cf2 := cf 2
  have hBW : B ≤ w1.heap.size := H1.out.wB
  have hneb : (Value.slice d.A1 s.T.length d.c1).ownBlock ≠ some b0 := fun e => by
   have := (HLT.out b0 (fp_1 (mem_aB e)))
   have := HE0.out
   omega
  have HNB := Lib.hid hneb
  have HNE1 := Lib.hid hne
  have hTl := HL.out.2
  have hTl2 : (ptrs d.ps).length = s.T.length := by simp [ptrs, HH.out.lp]
  have HW1 := Lib.hid hw1
  clear hne hneb hw1 cf
  go_upto_region 4 with (at_builtin; (refine wpList_append_lies _ rfl _ _ _ rfl B 70 i0 (.pointer none) 1 8 Tryz.underlying41 hi hz0 hz1 hz2 rfl (by omega) _ s.T.length (ptrs d.ps) rfl ((HO.out.alloc _).alloc _) ⟨w1.heap.size + 1, 0, none⟩ 1 1 [.pointer (some ⟨w1.heap.size, 0, none⟩)] rfl rfl (news_new _ #[.pointer (some ⟨w1.heap.size, 0, none⟩)] _ _ (by simp)) (by simp [Value.oneCell']) (by omega) (by unfold maxLen; omega) (by omega) (by simp; omega) (w1.heap.size + 2) (by simp) ?_); intro g cap w2 hown2 hgrow hat hlt2; have HG2 := Lib.hid (show World.grownBy _ w2 (Value.slice d.A1 s.T.length d.c1).ownBlock from hgrow); have HO2 := Lib.hid hown2; have HA2 := Lib.hid hat; have hbk2 := blk_grown (blk_alloc (blk_alloc HBK.out _) _) hgrow (Ne.symm HNE1.out); have HB2 := Lib.hid hbk2; have D2 := Lib.hid (blk_grown (blk_alloc (blk_alloc D0.out _) _) hgrow HNB.out); clear hgrow hown2 hat; have k0 := cell_of_blk (i := 2) hbk2 rfl; have kf := free_of_blk (i := 2) hbk2; have kl := blk_lt hbk2; clear hbk2)
  have D3 := Lib.hid (blk_far (a := ⟨h, 2, none⟩) D2.out HNE.out (.slice (some ⟨g, 0, none⟩) (s.T.length + 1) cap))
  have B3 := Lib.hid (blk_set (i := 2) HB2.out (.slice (some ⟨g, 0, none⟩) (s.T.length + 1) cap))
  clear k0 kf kl c0 c1 c2 c3 c4 cf2 cl
  obtain ⟨X, hX⟩ : ∃ X, X = w2.setCell ⟨h, 2, none⟩ (.slice (some ⟨g, 0, none⟩) (s.T.length + 1) cap) := ⟨_, rfl⟩
  have HX := Lib.hid hX
  rw [← hX] at D3 B3
  refine gen_wp fun X' hX' => ?_
  obtain rfl : X' = X := by rw [← hX', hX]
  clear hX hX'
  have y2 := cell_of_blk (i := 2) B3.out rfl
  have yf := free_of_blk (i := 2) B3.out
  have yl := blk_lt B3.out
  obtain ⟨r0, r1, r2, r3, rf0, rf1, rf2, rf3, rl⟩ := blk_4 D3.out
  have hw1 := HW1.out
  go_wp2
  obtain ⟨j0, j1, j2, j3⟩ := four D3.out rfl (.int .i64 4) (.int .i64 (s.T.length : Int)) (.string ⟨#[]⟩) (.int .u64 0)
  refine bodyPost_ret (v := .tuple #[newTabV s.T.length, .bool true]) (by unfold newTabV; simp [results, Tryz.results16, go_sem, j0, j1, j2, j3]) rfl ?_
  rw [HX.out]
  have hlt : ∀ x, (Value.slice d.A1 s.T.length d.c1).ownBlock = some x → x < w1.heap.size := fun x e => Nat.lt_of_lt_of_le (HLT.out x (fp_1 (mem_aB e))) (Nat.le_trans HW.out.size HF1.out.size)
  have hhl : h < w1.heap.size := blk_lt HBK.out
  have hmade : RTabMade B h s.L U1 (.slice d.A2 s.F.length d.c2) (.slice d.A3 s.C.length d.c3) d.A1 s.T.length d.c1 (ptrs d.ps) l w1 (w2.setCell ⟨h, 2, none⟩ (.slice (some ⟨g, 0, none⟩) (s.T.length + 1) cap)) := by
   refine ⟨g, cap, w1.heap.size, [w1.heap.size], blk_set HB2.out _, own_set HO2.out HB2.out (by decide) _, (rtab_new w1 l).kept (S := h :: (Value.slice d.A1 s.T.length d.c1).ownBlock.toList) ((((Fr.refl _ _).alloc _).grown HG2.out fun k hk => .inl (by rw [hk]; simp)).set _ (.inl (by simp))) ?_, ((((Fr.refl _ w1).alloc _).alloc _).grown HG2.out fun k hk => .inl (by rw [hk]; simp)).set _ (.inl (by simp)), HA2.out.imp id fun e => by omega, ?_⟩
   ·intro b hb hm
    simp at hb hm
    subst hb
    rcases hm with e | e
    ·omega
    ·have := hlt _ e
     omega
   ·intro hm
    simp at hm
    rcases HA2.out with e | e
    ·have := hlt _ e
     omega
    ·omega
  refine ⟨⟨4, (s.T.length : Int), ⟨#[]⟩, 0⟩, true, _, rfl, le_table HL.out.1 (U := U1) (by rw [HU.out]; omega), ?_⟩
  refine RpTo.wrap (R := [b0]) (HH.out.below HW.out) HW.out HLT.out (RpTo.of_charged HF1.out (H1.out.madeT hmade (by have := HH.out.u0; have := HU.out; omega) (by have := HR.out; exact this))) (fr_sets _ _ _ _) ?_
  intro x hx
  simp at hx
  subst hx
  exact ⟨by have := HE0.out; omega, blk_lt HB0.out⟩

theorem own_put {w : World} {base : Nat} {e : TypeId} {K n c gb : Nat} {xs : List Value} (h : w.ownsRow base e K (.slice (some ⟨gb, 0, none⟩) n c) n xs) (i : Nat) (u : Value) : (w.setCell ⟨gb, i, none⟩ u).ownsRow base e K (.slice (some ⟨gb, 0, none⟩) n c) n (xs.set i u) := by
 obtain ⟨h1, h2⟩ := h
 rcases h2 with ⟨e1, _⟩ | ⟨g, cap, cur, e1, hb, hh, hn, hm, hs, ht⟩
 ·cases e1
 ·cases e1
  refine ⟨by simpa using h1, .inr ⟨gb, c, cur.setIfInBounds i u, rfl, hb, blk_set hh u, hn, hm, by simpa using hs, ?_⟩⟩
  rw [← ht]
  simp [List.take_set]
theorem own_put4 {w : World} {base n c gb j : Nat} {xs : List VV} (h : w.ownsRow base 26 4 (.slice (some ⟨gb, 0, none⟩) n c) n (xs.flatMap vvE)) (y : VV) (hj : j < xs.length) :
  ((((w.setCell ⟨gb, j * 4, none⟩ (.int .i64 y.kind)).setCell ⟨gb, j * 4 + 1, none⟩ (.int .i64 y.n)).setCell ⟨gb, j * 4 + 2, none⟩ (.string y.s)).setCell ⟨gb, j * 4 + 3, none⟩ (.int .u64 (y.label : Int))).ownsRow base 26 4 (.slice (some ⟨gb, 0, none⟩) n c) n ((xs.set j y).flatMap vvE) := by
 have h4 := own_put (own_put (own_put (own_put h (j * 4) (.int .i64 y.kind)) (j * 4 + 1) (.int .i64 y.n)) (j * 4 + 2) (.string y.s)) (j * 4 + 3) (.int .u64 (y.label : Int))
 have e : ((((xs.flatMap vvE).set (j * 4) (.int .i64 y.kind)).set (j * 4 + 1) (.int .i64 y.n)).set (j * 4 + 2) (.string y.s)).set (j * 4 + 3) (.int .u64 (y.label : Int)) = (xs.set j y).flatMap vvE := by
  clear h4 h
  induction xs generalizing j with
  | nil => simp at hj
  | cons x xs ih =>
   cases j with
   | zero => simp [vvE]
   | succ j =>
    have e1 : (j + 1) * 4 = j * 4 + 4 := by omega
    have ih' := ih (j := j) (by simpa using hj)
    rw [e1]
    simp only [List.flatMap_cons, List.set_cons_succ]
    rw [← ih']
    simp [vvE, List.set_cons_succ]
 rw [e] at h4
 exact h4
set_option maxRecDepth 100000 in
theorem load_none {w : World} {B N h : Nat} {s : HpS} {d : HpD} (H : HpAt w B N h s d) (hn : s.C.length ≤ 1000000) (k : Int) (hk : k < 0 ∨ (s.C.length : Int) ≤ k) :
  Calls Tryz.prog 33 #[.pointer (some ⟨h, 0, none⟩), .int .i64 k] w (RetB (.agg #[.int .i64 0, .int .i64 0, .string ⟨#[]⟩, .int .u64 0]) w) := by
 obtain ⟨b0, hb0⟩ : ∃ b, b = w.heap.size := ⟨_, rfl⟩
 have HE0 := Lib.hid hb0
 have HH := Lib.hid H
 have HN := Lib.hid hn
 have HV := Lib.hid hk
 clear hb0 H hn hk
 go_enter Tryz.func33, Tryz.ntmps33
 go_upto_region 1 with fail
 rw [← HE0.out]
 refine gen_wp fun W hW => ?_
 have HB0 := Lib.hid (show W.heap[b0]? = some (.cells #[.int .i64 0, .int .i64 0, .string ⟨#[]⟩, .int .u64 0] 26 (0, 0)) by rw [← hW, HE0.out]; exact heap_new_at _ _ _ (by first | rfl | simp))
 have HW := Lib.hid (show Below w.heap.size w W by rw [← hW]; exact (Below.refl _ _).alloc (Nat.le_refl _) _)
 clear hW
 go_wp2_with fail
 have HB : Below w.heap.size w W := HW.out
 refine (at_cel_none (HH.out.below HB).blk (HH.out.below HB).o3 rfl HN.out k HV.out).mono ?_
 rintro e w1 ⟨rfl, hb1⟩
 have HW1 := Lib.hid (show Below w.heap.size w w1 from HB.trans (hb1.mono HB.size))
 have D0 := Lib.hid (below_blk hb1 (HB0.out))
 clear hb1 HB
 go_upto_region 4 with fail
 obtain ⟨b2, hb2⟩ : ∃ b, b = w1.heap.size := ⟨_, rfl⟩
 rw [← hb2]
 refine gen_wp fun U hU => ?_
 have KN := Lib.hid (show U.heap[b2]? = some (.cells #[.int .i64 0, .int .i64 0, .string ⟨#[]⟩, .int .u64 0] 26 (0, 0)) by rw [← hU, hb2]; exact heap_new_at _ _ _ (by first | rfl | simp))
 have K0 := Lib.hid (show U.heap[b0]? = some (.cells #[.int .i64 0, .int .i64 0, .string ⟨#[]⟩, .int .u64 0] 26 (0, 0)) by rw [← hU]; exact blk_alloc D0.out _)
 have UW := Lib.hid (show Below w.heap.size w U by rw [← hU]; exact HW1.out.alloc HW1.out.size _)
 have NE0 := Lib.hid (show b0 ≠ b2 by have := blk_lt D0.out; omega)
 have NB := Lib.hid (show w.heap.size ≤ b2 by rw [hb2]; exact HW1.out.size)
 clear hU hb2
 obtain ⟨p0, p1, p2, p3, pf0, pf1, pf2, pf3, pl⟩ := blk_4 K0.out
 obtain ⟨r0, r1, r2, r3, rf0, rf1, rf2, rf3, rl⟩ := blk_4 KN.out
 go_wp2
 obtain ⟨j0, j1, j2, j3⟩ := four K0.out rfl (.int .i64 0) (.int .i64 0) (.string ⟨#[]⟩) (.int .u64 0)
 refine bodyPost_ret (v := .agg #[.int .i64 0, .int .i64 0, .string ⟨#[]⟩, .int .u64 0]) (by simp [results, Tryz.results33, go_sem, j0, j1, j2, j3]) rfl ?_
 exact ⟨rfl, (Below.setCell (p := ⟨b0, 3, none⟩) (Below.setCell (p := ⟨b0, 2, none⟩) (Below.setCell (p := ⟨b0, 1, none⟩) (Below.setCell (p := ⟨b0, 0, none⟩) UW.out (show w.heap.size ≤ b0 by have := HE0.out; omega) (.int .i64 0)) (show w.heap.size ≤ b0 by have := HE0.out; omega) (.int .i64 0)) (show w.heap.size ≤ b0 by have := HE0.out; omega) (.string ⟨#[]⟩)) (show w.heap.size ≤ b0 by have := HE0.out; omega) (.int .u64 0))⟩
set_option maxRecDepth 100000 in
theorem load_some {w : World} {B N h : Nat} {s : HpS} {d : HpD} (H : HpAt w B N h s d) (hn : s.C.length ≤ 1000000) {x : VV} {j : Nat} (hj : s.C[j]? = some x) :
  Calls Tryz.prog 33 #[.pointer (some ⟨h, 0, none⟩), .int .i64 (j : Int)] w (RetB (.agg #[.int .i64 x.kind, .int .i64 x.n, .string x.s, .int .u64 (x.label : Int)]) w) := by
 obtain ⟨b0, hb0⟩ : ∃ b, b = w.heap.size := ⟨_, rfl⟩
 have HE0 := Lib.hid hb0
 have HH := Lib.hid H
 have HN := Lib.hid hn
 have HJ := Lib.hid hj
 clear hb0 H hn hj
 go_enter Tryz.func33, Tryz.ntmps33
 go_upto_region 1 with fail
 rw [← HE0.out]
 refine gen_wp fun W hW => ?_
 have HB0 := Lib.hid (show W.heap[b0]? = some (.cells #[.int .i64 0, .int .i64 0, .string ⟨#[]⟩, .int .u64 0] 26 (0, 0)) by rw [← hW, HE0.out]; exact heap_new_at _ _ _ (by first | rfl | simp))
 have HW := Lib.hid (show Below w.heap.size w W by rw [← hW]; exact (Below.refl _ _).alloc (Nat.le_refl _) _)
 clear hW
 go_wp2_with fail
 have HB : Below w.heap.size w W := HW.out
 refine (at_cel_some (HH.out.below HB).blk (HH.out.below HB).o3 rfl HN.out HJ.out).mono ?_
 rintro e w1 ⟨rfl, hb1⟩
 have HW1 := Lib.hid (show Below w.heap.size w w1 from HB.trans (hb1.mono HB.size))
 have D0 := Lib.hid (below_blk hb1 (HB0.out))
 clear hb1 HB
 go_upto_region 4 with fail
 obtain ⟨b2, hb2⟩ : ∃ b, b = w1.heap.size := ⟨_, rfl⟩
 rw [← hb2]
 refine gen_wp fun U hU => ?_
 have KN := Lib.hid (show U.heap[b2]? = some (.cells #[.int .i64 x.kind, .int .i64 x.n, .string x.s, .int .u64 (x.label : Int)] 26 (0, 0)) by rw [← hU, hb2]; exact heap_new_at _ _ _ (by first | rfl | simp))
 have K0 := Lib.hid (show U.heap[b0]? = some (.cells #[.int .i64 0, .int .i64 0, .string ⟨#[]⟩, .int .u64 0] 26 (0, 0)) by rw [← hU]; exact blk_alloc D0.out _)
 have UW := Lib.hid (show Below w.heap.size w U by rw [← hU]; exact HW1.out.alloc HW1.out.size _)
 have NE0 := Lib.hid (show b0 ≠ b2 by have := blk_lt D0.out; omega)
 have NB := Lib.hid (show w.heap.size ≤ b2 by rw [hb2]; exact HW1.out.size)
 clear hU hb2
 obtain ⟨p0, p1, p2, p3, pf0, pf1, pf2, pf3, pl⟩ := blk_4 K0.out
 obtain ⟨r0, r1, r2, r3, rf0, rf1, rf2, rf3, rl⟩ := blk_4 KN.out
 go_wp2
 obtain ⟨j0, j1, j2, j3⟩ := four K0.out rfl (.int .i64 x.kind) (.int .i64 x.n) (.string x.s) (.int .u64 (x.label : Int))
 refine bodyPost_ret (v := .agg #[.int .i64 x.kind, .int .i64 x.n, .string x.s, .int .u64 (x.label : Int)]) (by simp [results, Tryz.results33, go_sem, j0, j1, j2, j3]) rfl ?_
 exact ⟨rfl, (Below.setCell (p := ⟨b0, 3, none⟩) (Below.setCell (p := ⟨b0, 2, none⟩) (Below.setCell (p := ⟨b0, 1, none⟩) (Below.setCell (p := ⟨b0, 0, none⟩) UW.out (show w.heap.size ≤ b0 by have := HE0.out; omega) (.int .i64 x.kind)) (show w.heap.size ≤ b0 by have := HE0.out; omega) (.int .i64 x.n)) (show w.heap.size ≤ b0 by have := HE0.out; omega) (.string x.s)) (show w.heap.size ≤ b0 by have := HE0.out; omega) (.int .u64 (x.label : Int)))⟩
theorem load_at {w : World} {B N h : Nat} {s : HpS} {d : HpD} (H : HpAt w B N h s d) (hn : s.C.length ≤ 1000000) (k : Int) : Calls Tryz.prog 33 #[.pointer (some ⟨h, 0, none⟩), .int .i64 k] w (RetV w) := by
 by_cases hk : k < 0 ∨ (s.C.length : Int) ≤ k
 ·exact (load_none H hn k hk).mono fun e w' ⟨he, hb⟩ => ⟨hb, ⟨0, 0, ⟨#[]⟩, 0⟩, he⟩
 ·obtain ⟨j, rfl⟩ : ∃ j : Nat, k = (j : Int) := ⟨k.toNat, by omega⟩
  have hj : j < s.C.length := by omega
  exact (load_some H hn (List.getElem?_eq_getElem hj)).mono fun e w' ⟨he, hb⟩ => ⟨hb, _, he⟩
theorem HpTo.of_charged {w w1 w2 : World} {B N h : Nat} {s s2 : HpS} {d : HpD} {U' : Int} (hf : Fr [h] w w1) (h2 : HpTo w1 B N h { s with U := U' } d s2 w2) : HpTo w B N h s d s2 w2 := by
 obtain ⟨d2, a, b, c⟩ := h2
 exact HpTo.trans2 (s1 := { s with U := U' }) (hf.more fun x hx => .inl (by simp at hx; rw [hx]; exact fp_h _ _ _)) (fun b hb => .inl hb) a b c
set_option maxRecDepth 100000 in
theorem cell_at {w : World} {B N h : Nat} {s : HpS} {d : HpD} (H : HpAt w B N h s d) (x : VV) (hx : HVOk x) (n : Nat) (hn : s.C.length ≤ 1000000) :
  Calls Tryz.prog 31 #[.pointer (some ⟨h, 0, none⟩), .agg #[.int .i64 x.kind, .int .i64 x.n, .string x.s, .int .u64 (x.label : Int)]] w (GoI w B N h s d n) := by
 obtain ⟨b0, hb0⟩ : ∃ b, b = w.heap.size := ⟨_, rfl⟩
 have HE0 := Lib.hid hb0
 have HH := Lib.hid H
 have HN := Lib.hid (And.intro hn hx)
 have HLT := Lib.hid (fun b (hb : b ∈ d.fp h s.F) => (H.kinds hb).2)
 clear hb0 H hn hx
 go_enter Tryz.func31, Tryz.ntmps31
 go_upto_region 1 with fail
 rw [← HE0.out]
 refine gen_wp fun W hW => ?_
 have HB0 := Lib.hid (show W.heap[b0]? = some (.cells #[.int .i64 x.kind, .int .i64 x.n, .string x.s, .int .u64 (x.label : Int)] 26 (0, 0)) by rw [← hW, HE0.out]; exact heap_new_at _ _ _ (by first | rfl | simp))
 have HW := Lib.hid (show Below w.heap.size w W by rw [← hW]; exact (Below.refl _ _).alloc (Nat.le_refl _) _)
 clear hW
 have HCH := Lib.hid (charge_at (HH.out.below HW.out) 1 (by omega))
 go_wp2_with fail
 refine HCH.out.mono ?_
 rintro e w1 (⟨rfl, hb⟩ | ⟨rfl, hr, ha, hf⟩)
 ·have HW1 := Lib.hid (HW.out.trans (hb.mono HW.out.size))
  clear hb
  go_wp2
  go_returns
  exact ⟨0, false, s, rfl, .refl _ _, .same HH.out HW1.out⟩
 ·have HA1 := Lib.hid ha
  have HF1 := Lib.hid hf
  have HR := Lib.hid hr
  have hne : b0 ∉ [h] := by have := HLT.out h (fp_h _ _ _); have := HE0.out; simp; omega
  have D0 := Lib.hid (hf.blk HB0.out hne)
  clear ha hf hr hne
  go_wp2_with fail
  refine wp_region_held_drew (S := fun w' => w'.heap[b0]? = some (.cells #[.int .i64 x.kind, .int .i64 x.n, .string x.s, .int .u64 (x.label : Int)] 26 (0, 0))) (by kernel_rfl) (D0.out) (fun hHeld => ?_)
  refine tk 0 9 (.pointer (some ⟨h, 0, none⟩)) hHeld ?_; simp only [Act.put, zq1, zq2, zq3]
  refine tk 1 10 (.pointer (some ⟨h, 0, none⟩)) hHeld ?_; simp only [Act.put, zq1, zq2, zq3]
  refine tk 2 11 (.pointer (some ⟨h, 4, none⟩)) hHeld ?_; simp only [Act.put, zq1, zq2, zq3]
  refine tk 3 12 (.agg #[.int .i64 x.kind, .int .i64 x.n, .string x.s, .int .u64 (x.label : Int)]) hHeld ?_ (hy := Or.inl ⟨by rfl, fun w' hS => (by have q0 := cell_of_blk (i := 0) hS rfl; have q1 := cell_of_blk (i := 1) hS rfl; have q2 := cell_of_blk (i := 2) hS rfl; have q3 := cell_of_blk (i := 3) hS rfl; go_simp)⟩); simp only [Act.put, zq1, zq2, zq3]
  refine rd 4 fun K hK => ?_
  go_simp
  have hbd : Below w1.heap.size w1 w1.drew := (Below.refl _ _).drew
  refine (add_cel (below_blk hbd HA1.out.blk) (below_own hbd HA1.out.o3) HN.out.1 (by exact HA1.out.wB) x).mono ?_
  rintro e w2 ⟨g, cap, rfl, hh2, ho2, hf2, hg2⟩
  have hf3 : Fr (h :: aB d.A3) w1 w2 := by rw [ownB] at hf2; exact ((Fr.refl _ w1).drew).trans hf2 fun x hx => .inl hx
  have HT2 := Lib.hid (HA1.out.madeC hh2 ho2 hf3 (hg2.imp (fun e => mem_aB e) id) (by have := HH.out.u0; show (0 : Int) ≤ s.U + max 1 0; omega) (by have := HR.out; show s.U + max 1 0 ≤ s.L; omega))
  have HB2 := Lib.hid (hf3.blk D0.out (fun hm => by have h8 : b0 ∈ d.fp h s.F := (by rcases List.mem_cons.1 hm with e | e; rw [e]; exact fp_h _ _ _; exact fp_3 e); have := HLT.out b0 h8; have := HE0.out; omega))
  clear hh2 ho2 hf2 hg2 hf3 hbd
  refine hK.out _ _ (HB2.out) (fun hHeld => ?_)
  clear hK K
  try simp only [Act.put, zq1, zq2, zq3]
  refine tk 5 4 (.int .i64 (s.C.length : Int)) hHeld ?_; simp only [Act.put, zq1, zq2, zq3]
  refine tk 6 5 (.bool true) hHeld ?_; simp only [Act.put, zq1, zq2, zq3]
  refine wpAnyH_done (by kernel_rfl) ?_ _
  go_wp2
  go_returns
  refine ⟨_, true, _, rfl, le_cell HN.out.2.vok (show s.U ≤ s.U + max 1 0 by omega), ?_⟩
  exact HpTo.wrap (R := []) (HH.out.below HW.out) HW.out HLT.out (HpTo.of_charged HF1.out HT2.out) (Fr.refl _ _) (by simp)
end Go.Proofs.YtilcofpceadpbaaGreatDoor
