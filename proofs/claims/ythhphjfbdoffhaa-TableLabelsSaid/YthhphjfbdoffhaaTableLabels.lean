/-
  TableLabels: the walk, and the given statement.
-/
import Derived.Test.YthhphjfbdoffhaaTabLaw
import Derived.Deep.RegionHeld3
set_option linter.unusedVariables false
set_option linter.unusedSimpArgs false
namespace Go.Proofs.Ythhphjfbdoffhaa
open Go.ChangeShapes Go.WideShapes Go.ChangeAt Go.RowKit Go.Maps

theorem getV_ok {T : TabS} (ok : TabOk T) (k : VV) : VOk (getV T.F k) := by
  have h0 : VOk noneV := ⟨i64_0, i64_0, by show (0 : Nat) ≤ _; exact Nat.zero_le _, by show (0 : Nat) < _; decide⟩
  unfold getV
  split
  · split
    · rename_i i _ f hf
      exact ok.vOk f (List.mem_of_getElem? hf)
    · exact h0
  · exact h0
theorem labels_eq (v : VV) (c k own : Nat) : eqV (withV (withV v (c ||| k)) (joinL [k, own])) (withV v (k ||| own ||| (c ||| v.label))) = true := by
  have e : v.label ||| (c ||| k) ||| (k ||| own) = v.label ||| (k ||| own ||| (c ||| v.label)) := by
    apply Nat.eq_of_testBit_eq
    intro i
    simp only [Nat.testBit_or]
    cases v.label.testBit i <;> cases c.testBit i <;> cases k.testBit i <;> cases own.testBit i <;> rfl
  rw [joinL2]
  unfold eqV withV
  simp [e]
theorem labels_fl (v : VV) (k own : Nat) : flowsB (k ||| own) (withV v (joinL [k, own])).label = true := by
  rw [joinL2, flowsB_iff]
  intro i hi
  show (v.label ||| (k ||| own)).testBit i = true
  rw [Nat.testBit_or, hi, Bool.or_true]
set_option maxRecDepth 100000 in
set_option maxHeartbeats 16000000 in
theorem tlabels_walk (own : Nat) (xs : List TAct) (A : Option Addr) (c : Nat) (a : TAct) (w : World) (hown : own < 18446744073709551616) (hr : Reads w w.heap.size A (xs.flatMap taEnc)) (hfit : ∀ x ∈ xs, TaFit w w.heap.size x) (hlen : xs.length * 128 ≤ 140737488351232) (ha : TaFit w w.heap.size a) :
    Calls Try.prog 8 #[.int .u64 (own : Int), .slice A xs.length c, .agg #[.int .i64 a.act, .int .u64 (a.ctx : Int), .int .i64 a.key.kind, .int .i64 a.key.n, .string a.key.s, .int .u64 (a.key.label : Int), .int .i64 a.val.kind, .int .i64 a.val.n, .string a.val.s, .int .u64 (a.val.label : Int), .int .i64 a.n, .slice a.s.A a.s.xs.length a.s.cap]] w (RetB (.bool true) w) := by
  have hnl : xs.length ≤ 9223372036854775807 := Nat.le_trans (Nat.le_mul_of_pos_right _ (by decide)) (Nat.le_trans hlen (by decide))
  have HR := Lib.hid hr
  have HFit := Lib.hid hfit
  have HA := Lib.hid ha
  have hb0 := (Below.refl w.heap.size w).alloc (Nat.le_refl _) (.cells #[.int .i64 a.act, .int .u64 (a.ctx : Int), .int .i64 a.key.kind, .int .i64 a.key.n, .string a.key.s, .int .u64 (a.key.label : Int), .int .i64 a.val.kind, .int .i64 a.val.n, .string a.val.s, .int .u64 (a.val.label : Int), .int .i64 a.n, .slice a.s.A a.s.xs.length a.s.cap] 43)
  have HB0 := Lib.hid hb0
  have HAW := Lib.hid (fun W => awake04 W)
  clear hr hfit ha hb0 hlen
  go_enter Try.func8, Try.ntmps8
  go_wp2_with fail
  refine (HAW.out _).mono ?_
  rintro e w1 ⟨rfl, hb1⟩
  have HB1 := Lib.hid (HB0.out.trans (hb1.mono (by simp)))
  have BX1 := Lib.hid (below_blk hb1 (heap_alloc_new w (.cells #[.int .i64 a.act, .int .u64 (a.ctx : Int), .int .i64 a.key.kind, .int .i64 a.key.n, .string a.key.s, .int .u64 (a.key.label : Int), .int .i64 a.val.kind, .int .i64 a.val.n, .string a.val.s, .int .u64 (a.val.label : Int), .int .i64 a.n, .slice a.s.A a.s.xs.length a.s.cap] 43)))
  clear hb1
  go_wp2_with fail
  refine (tfew_any xs A c w1 ((HR.out.below HB1.out).mono' HB1.out.size) hnl (fun x hx => (HFit.out x hx).len) (fun x hx => ⟨(HFit.out x hx).key.s, (HFit.out x hx).val.s⟩)).mono ?_
  rintro e w2 ⟨b2, rfl, hb2, ht2⟩
  have HB2 := Lib.hid (HB1.out.trans (hb2.mono HB1.out.size))
  have BX2 := Lib.hid (below_blk hb2 BX1.out)
  clear hb2 BX1 HB1
  cases b2
  · go_wp2_with fail
    go_ret
    exact ⟨rfl, HB2.out⟩
  have HT2 := Lib.hid (ht2 rfl)
  clear ht2
  have x0 := cell_of_blk (i := 0) BX2.out rfl
  have x1 := cell_of_blk (i := 1) BX2.out rfl
  have x2 := cell_of_blk (i := 2) BX2.out rfl
  have x3 := cell_of_blk (i := 3) BX2.out rfl
  have x4 := cell_of_blk (i := 4) BX2.out rfl
  have x5 := cell_of_blk (i := 5) BX2.out rfl
  have x6 := cell_of_blk (i := 6) BX2.out rfl
  have x7 := cell_of_blk (i := 7) BX2.out rfl
  have x8 := cell_of_blk (i := 8) BX2.out rfl
  have x9 := cell_of_blk (i := 9) BX2.out rfl
  have x10 := cell_of_blk (i := 10) BX2.out rfl
  have x11 := cell_of_blk (i := 11) BX2.out rfl
  have l2 := blk_lt BX2.out
  go_wp2_with fail
  refine (tfew1_any a _ _ 43 _ (by exact heap_alloc_new w2 (.cells #[.int .i64 a.act, .int .u64 (a.ctx : Int), .int .i64 a.key.kind, .int .i64 a.key.n, .string a.key.s, .int .u64 (a.key.label : Int), .int .i64 a.val.kind, .int .i64 a.val.n, .string a.val.s, .int .u64 (a.val.label : Int), .int .i64 a.n, .slice a.s.A a.s.xs.length a.s.cap] 43)) HA.out.len ⟨HA.out.key.s, HA.out.val.s⟩).mono ?_
  rintro e w3 ⟨b3, rfl, hb3, ht3⟩
  have HB3 := Lib.hid ((HB2.out.alloc HB2.out.size _).trans (hb3.mono (Nat.le_trans HB2.out.size (by simp))))
  have BX3 := Lib.hid (below_blk hb3 (blk_alloc BX2.out _))
  clear hb3 BX2 HB2 l2 x0 x1 x2 x3 x4 x5 x6 x7 x8 x9 x10 x11
  cases b3
  · go_wp2_with fail
    go_ret
    exact ⟨rfl, HB3.out⟩
  have HT3 := Lib.hid (ht3 rfl)
  clear ht3
  go_wp2_with fail
  refine (tnew_any own w3).mono ?_
  rintro e w4 ⟨tb, fp0, rfl, hT4, hb4⟩
  have H4 := Lib.hid (Two.start hT4 hb4)
  have BX4 := Lib.hid (below_blk hb4 BX3.out)
  have hN0 : w.heap.size < w3.heap.size := blk_lt BX3.out
  clear hb4 hT4
  go_wp2_with fail
  go_loopw [34] (fun i wr => ∃ (k : Nat) (T : TabS), k ≤ xs.length ∧ i = .int .i64 k ∧ Hid (Good own (totT (xs.take k)) T) ∧ Hid (Two w3.heap.size w3 wr tb w4.heap.size T)) (fun i wr => xs.length - (intOf i).toNat)
  case atStart => exact ⟨0, ⟨own, [], []⟩, by omega, rfl, Lib.hid ⟨tabOk_new hown, rfl, by simp, by simp⟩, H4⟩
  case round =>
    obtain ⟨k, T, hk, rfl, HG, HTwo⟩ := hrel
    by_cases hlt : k < xs.length
    · obtain ⟨x, hx⟩ : ∃ x, xs[k]? = some x := ⟨_, List.getElem?_eq_getElem hlt⟩
      have hxm := List.mem_of_getElem? hx
      have hr3 := (HR.out.below HB3.out).mono' HB3.out.size
      obtain ⟨ad, rfl, hadb, hcell⟩ := (hr3.below HTwo.out.before).at (flatMap_ne (K := 12) taEnc_len (by omega) hx)
      have x0 := elem_zero taEnc_len hcell hx (by omega) (v := .int .i64 x.act) rfl
      have x1 := elem_at taEnc_len hcell hx 1 (by omega) (by omega) (v := .int .u64 (x.ctx : Int)) rfl
      have x2 := elem_at taEnc_len hcell hx 2 (by omega) (by omega) (v := .int .i64 x.key.kind) rfl
      have x3 := elem_at taEnc_len hcell hx 3 (by omega) (by omega) (v := .int .i64 x.key.n) rfl
      have x4 := elem_at taEnc_len hcell hx 4 (by omega) (by omega) (v := .string x.key.s) rfl
      have x5 := elem_at taEnc_len hcell hx 5 (by omega) (by omega) (v := .int .u64 (x.key.label : Int)) rfl
      have x6 := elem_at taEnc_len hcell hx 6 (by omega) (by omega) (v := .int .i64 x.val.kind) rfl
      have x7 := elem_at taEnc_len hcell hx 7 (by omega) (by omega) (v := .int .i64 x.val.n) rfl
      have x8 := elem_at taEnc_len hcell hx 8 (by omega) (by omega) (v := .string x.val.s) rfl
      have x9 := elem_at taEnc_len hcell hx 9 (by omega) (by omega) (v := .int .u64 (x.val.label : Int)) rfl
      have x10 := elem_at taEnc_len hcell hx 10 (by omega) (by omega) (v := .int .i64 x.n) rfl
      have x11 := elem_at taEnc_len hcell hx 11 (by omega) (by omega) (v := .slice x.s.A x.s.xs.length x.s.cap) rfl
      have hsz := HTwo.out.size
      have hk' : (k : Int) < (xs.length : Int) := by omega
      have hk0 : (0 : Int) ≤ k := by omega
      have hll : (ad.add (k * 12)).block < wr.heap.size := by rw [block_add']; omega
      have hfx := ((HFit.out x hxm).below HB3.out).up HB3.out.size
      have hle := Nat.le_trans (totT_take_le xs k) HT2.out
      have hxl := Nat.le_trans (totT_mem hxm) HT2.out
      have hact := act_two (HTwo.out.below hsz ((Below.refl _ _).alloc (Nat.le_refl _) (.cells #[.int .i64 x.act, .int .u64 (x.ctx : Int), .int .i64 x.key.kind, .int .i64 x.key.n, .string x.key.s, .int .u64 (x.key.label : Int), .int .i64 x.val.kind, .int .i64 x.val.n, .string x.val.s, .int .u64 (x.val.label : Int), .int .i64 x.n, .slice x.s.A x.s.xs.length x.s.cap] 43))) (Nat.le_refl _) HG.out.ok x hfx (by have := HG.out.F; omega) (by have := HG.out.S; omega) (by omega)
      have hg := HG.out.step hfx
      rw [← totT_snoc hx] at hg
      have HGn := Lib.hid hg
      have HAct := Lib.hid hact
      clear hx hcell hact hg hr3 hxm
      go_wp2_with fail
      refine HAct.out.mono ?_
      rintro e w6 ⟨⟨b, rfl⟩, h6⟩
      have H6 := Lib.hid h6
      clear h6
      go_wp2_with fail
      go_roundw
      case rel => exact ⟨k + 1, _, by omega, by go_num, HGn, H6⟩
      case measure => simp [intOf]; omega
    · obtain rfl : k = xs.length := by omega
      have hG := HG.out
      rw [List.take_length] at hG
      have hT2 := HT2.out
      have HOK := Lib.hid hG.ok
      have hTF : T.F.length ≤ 2000 := Nat.le_trans hG.F hT2
      have hTS : T.S.length ≤ 2000 := Nat.le_trans hG.S hT2
      have hTL := hG.l
      have haL : a.s.xs.length ≤ 2000 := Nat.le_trans (totT_mem (l := [a]) (by simp)) HT3.out
      have hbr := HTwo.out.before
      have BXr := Lib.hid ((hbr.block _ hN0).trans BX3.out)
      have HAr := Lib.hid (((HA.out.below HB3.out).up HB3.out.size).below hbr)
      have hsz := hbr.size
      have HBr := Lib.hid hbr
      clear hG hbr
      have x0 := cell_of_blk (i := 0) BXr.out rfl
      have x1 := cell_of_blk (i := 1) BXr.out rfl
      have x2 := cell_of_blk (i := 2) BXr.out rfl
      have x3 := cell_of_blk (i := 3) BXr.out rfl
      have x4 := cell_of_blk (i := 4) BXr.out rfl
      have x5 := cell_of_blk (i := 5) BXr.out rfl
      have x6 := cell_of_blk (i := 6) BXr.out rfl
      have x7 := cell_of_blk (i := 7) BXr.out rfl
      have x8 := cell_of_blk (i := 8) BXr.out rfl
      have x9 := cell_of_blk (i := 9) BXr.out rfl
      have x10 := cell_of_blk (i := 10) BXr.out rfl
      have x11 := cell_of_blk (i := 11) BXr.out rfl
      have lr := blk_lt BXr.out
      obtain ⟨fp, fr, h1, h2, h3, h4⟩ := HTwo.out
      obtain ⟨_, r80b⟩ := small_room (n := T.F.length) (by omega)
      have hP := tput_any h1 HOK.out HAr.out.ctx HAr.out.key HAr.out.val r80b
      have hokD := doPut_ok HOK.out HAr.out.ctx HAr.out.key HAr.out.val
      have hlD := (doPut_len T a.ctx a.key a.val).2.2
      have hgp := fun h => get_put HOK.out (c := a.ctx) (k := a.key) (v := a.val) h
      have H1 := Lib.hid h1
      generalize doPut T a.ctx a.key a.val = D at hP hokD hlD hgp
      obtain ⟨dn, dT⟩ := D
      have HP := Lib.hid hP
      have HOKD := Lib.hid (show TabOk dT from hokD)
      have HLD := Lib.hid (show dT.l = own from Eq.trans hlD hTL)
      have HGP := Lib.hid (show dn = 0 → getV dT.F a.key = withV a.val (a.ctx ||| a.key.label) from hgp)
      have HKL := Lib.hid HAr.out.key.label
      have HVL := Lib.hid HAr.out.val.label
      have HCL := Lib.hid HAr.out.ctx
      clear hP hokD hlD hgp h1 h2 h3 h4 r80b hTF hTS hTL haL
      unfold vvCells at HP
      go_wp2_with fail
      refine HP.out.mono ?_
      rintro e w6 ⟨rfl, hto⟩
      obtain ⟨fp6, k1, k2, k3⟩ := hto
      have hG := tget_is k1 HOKD.out HAr.out.key
      rw [HLD.out] at hG
      have hN6 : w3.heap.size ≤ w6.heap.size := Nat.le_trans hsz k2.size
      have HB6 := Lib.hid (HBr.out.trans (k2.to_below hsz fun b hb => (H1.out.base b hb).1))
      have BX6 := Lib.hid (k2.blk BXr.out (fun hf => absurd (H1.out.base _ hf).1 (by omega)))
      have HGD := Lib.hid (show VOk (withV (getV dT.F a.key) (joinL [a.key.label, own])) from withV_ok (getV_ok HOKD.out a.key) (by rw [joinL2]; exact Nat.or_lt_two_pow (n := 64) HKL.out hown))
      have HGE := Lib.hid (show dn = 0 → eqV (withV (getV dT.F a.key) (joinL [a.key.label, own])) (withV a.val (a.key.label ||| own ||| (a.ctx ||| a.val.label))) = true from fun hz => by rw [HGP.out hz]; exact labels_eq _ _ _ _)
      have HFE := Lib.hid (show flowsB (a.key.label ||| own) (withV (getV dT.F a.key) (joinL [a.key.label, own])).label = true from labels_fl _ _ _)
      generalize withV (getV dT.F a.key) (joinL [a.key.label, own]) = G at hG HGD HGE HFE
      unfold vvCells at hG
      have HGG := Lib.hid hG
      clear k1 k2 k3 hG x0 x1 x2 x3 x4 x5 x6 x7 x8 x9 x10 x11 lr BXr
      have y0 := cell_of_blk (i := 0) BX6.out rfl
      have y1 := cell_of_blk (i := 1) BX6.out rfl
      have y2 := cell_of_blk (i := 2) BX6.out rfl
      have y3 := cell_of_blk (i := 3) BX6.out rfl
      have y4 := cell_of_blk (i := 4) BX6.out rfl
      have y5 := cell_of_blk (i := 5) BX6.out rfl
      have y6 := cell_of_blk (i := 6) BX6.out rfl
      have y7 := cell_of_blk (i := 7) BX6.out rfl
      have y8 := cell_of_blk (i := 8) BX6.out rfl
      have y9 := cell_of_blk (i := 9) BX6.out rfl
      have y10 := cell_of_blk (i := 10) BX6.out rfl
      have y11 := cell_of_blk (i := 11) BX6.out rfl
      have l6 := blk_lt BX6.out
      go_wp2_with fail
      refine HGG.out.mono ?_
      rintro e w7 ⟨rfl, hb7⟩
      have HB7 := Lib.hid (HB6.out.trans (hb7.mono hN6))
      have hN7 : w3.heap.size ≤ w7.heap.size := Nat.le_trans hN6 hb7.size
      have BX7 := Lib.hid (below_blk hb7 BX6.out)
      clear hb7 y0 y1 y2 y3 y4 y5 y6 y7 y8 y9 y10 y11 l6 BX6
      have z0 := cell_of_blk (i := 0) BX7.out rfl
      have z1 := cell_of_blk (i := 1) BX7.out rfl
      have z2 := cell_of_blk (i := 2) BX7.out rfl
      have z3 := cell_of_blk (i := 3) BX7.out rfl
      have z4 := cell_of_blk (i := 4) BX7.out rfl
      have z5 := cell_of_blk (i := 5) BX7.out rfl
      have z6 := cell_of_blk (i := 6) BX7.out rfl
      have z7 := cell_of_blk (i := 7) BX7.out rfl
      have z8 := cell_of_blk (i := 8) BX7.out rfl
      have z9 := cell_of_blk (i := 9) BX7.out rfl
      have z10 := cell_of_blk (i := 10) BX7.out rfl
      have z11 := cell_of_blk (i := 11) BX7.out rfl
      have l7 := blk_lt BX7.out
      have hj1 : a.key.label ||| own < 18446744073709551616 := Nat.or_lt_two_pow (n := 64) HKL.out hown
      have hj2 : a.ctx ||| a.val.label < 18446744073709551616 := Nat.or_lt_two_pow (n := 64) HCL.out HVL.out
      have HJ1 := Lib.hid (fun W => rjoin_any a.key.label own W HKL.out hown)
      have HJ2 := Lib.hid (fun W => rjoin_any a.ctx a.val.label W HCL.out HVL.out)
      have HJ3 := Lib.hid (fun W => rjoin_any (a.key.label ||| own) (a.ctx ||| a.val.label) W hj1 hj2)
      have hfl := fun W => rflows_any (a.key.label ||| own) G.label W hj1 HGD.out.label
      rw [HFE.out] at hfl
      have HFl := Lib.hid hfl
      have hwi := fun W => rwith_any a.val (a.key.label ||| own ||| (a.ctx ||| a.val.label)) W HVL.out (Nat.or_lt_two_pow (n := 64) hj1 hj2)
      have hev := fun (hz : dn = 0) W => (val_eq G (withV a.val (a.key.label ||| own ||| (a.ctx ||| a.val.label))) W).trans (by rw [HGE.out hz])
      generalize withV a.val (a.key.label ||| own ||| (a.ctx ||| a.val.label)) = Q at hwi hev
      have HEV := Lib.hid hev
      unfold vvCells at hwi
      have HWith := Lib.hid hwi
      clear hfl hwi hj1 hj2 hev
      go_wp2_with fail
      refine (HJ1.out _).mono ?_
      rintro e w8 ⟨rfl, rfl⟩
      by_cases hz : dn = 0
      · have hz1 : (dn == 0) = true := by simpa using hz
        have heq := HEV.out hz
        unfold vvCells at heq
        clear hz
        go_wp2_with fail
        refine (HJ2.out _).mono ?_
        rintro e w8 ⟨rfl, rfl⟩
        go_wp2_with fail
        refine (HJ3.out _).mono ?_
        rintro e w8 ⟨rfl, rfl⟩
        go_wp2_with fail
        refine gen_wp fun W hW => ?_
        have BW := Lib.hid (show W.heap[w.heap.size]? = some (.cells #[.int .i64 a.act, .int .u64 (a.ctx : Int), .int .i64 a.key.kind, .int .i64 a.key.n, .string a.key.s, .int .u64 (a.key.label : Int), .int .i64 a.val.kind, .int .i64 a.val.n, .string a.val.s, .int .u64 (a.val.label : Int), .int .i64 a.n, .slice a.s.A a.s.xs.length a.s.cap] 43 (0, 0)) by rw [← hW]; exact blk_alloc BX7.out _)
        have VW := Lib.hid (show W.heap[w7.heap.size]? = some (.cells #[.int .i64 G.kind, .int .i64 G.n, .string G.s, .int .u64 (G.label : Int)] 25 (0, 0)) by rw [← hW]; exact heap_alloc_new _ _)
        have HBW := Lib.hid (show Below w3.heap.size w3 W by rw [← hW]; exact HB7.out.alloc hN7 _)
        have hNW : w3.heap.size ≤ W.heap.size := HBW.out.size
        have lw := blk_lt BW.out
        have lv := blk_lt VW.out
        clear hW z0 z1 z2 z3 z4 z5 z6 z7 z8 z9 z10 z11 l7
        refine wp_region_noPanic ?_
        refine wp_region_held_drew (S := fun w' => w'.heap[w.heap.size]? = some (.cells #[.int .i64 a.act, .int .u64 (a.ctx : Int), .int .i64 a.key.kind, .int .i64 a.key.n, .string a.key.s, .int .u64 (a.key.label : Int), .int .i64 a.val.kind, .int .i64 a.val.n, .string a.val.s, .int .u64 (a.val.label : Int), .int .i64 a.n, .slice a.s.A a.s.xs.length a.s.cap] 43 (0, 0)) ∧ w'.heap[w7.heap.size]? = some (.cells #[.int .i64 G.kind, .int .i64 G.n, .string G.s, .int .u64 (G.label : Int)] 25 (0, 0))) (by kernel_rfl) (⟨BW.out, VW.out⟩) (fun hHeld => ?_)
        refine wpAnyH_take (i := 0) (oi := _) (v := .agg #[.int .i64 G.kind, .int .i64 G.n, .string G.s, .int .u64 (G.label : Int)]) rfl (by kernel_rfl) (by kernel_rfl) (by kernel_rfl) (fun _ _ _ h => h) (Or.inl ⟨by rfl, fun w' hS => (by obtain ⟨s0, s1⟩ := hS; have q0 := cell_of_blk (i := 0) s1 rfl; have q1 := cell_of_blk (i := 1) s1 rfl; have q2 := cell_of_blk (i := 2) s1 rfl; have q3 := cell_of_blk (i := 3) s1 rfl; go_simp)⟩) hHeld ?_
        change wpAnyH _ _ _ _ _ _ _ (Act.put _ (some 70) _) _
        try simp only [Act.put, List.setIfInBounds_toArray, List.set_cons_zero, List.set_cons_succ]
        refine wpAnyH_take (i := 1) (oi := _) (v := .pointer (some ⟨w.heap.size, 6, none⟩)) rfl (by kernel_rfl) (by kernel_rfl) (by kernel_rfl) (fun _ _ _ h => h) (Or.inl ⟨by rfl, fun w' hS => (by go_simp)⟩) hHeld ?_
        change wpAnyH _ _ _ _ _ _ _ (Act.put _ (some 71) _) _
        try simp only [Act.put, List.setIfInBounds_toArray, List.set_cons_zero, List.set_cons_succ]
        refine wpAnyH_take (i := 2) (oi := _) (v := .agg #[.int .i64 a.val.kind, .int .i64 a.val.n, .string a.val.s, .int .u64 (a.val.label : Int)]) rfl (by kernel_rfl) (by kernel_rfl) (by kernel_rfl) (fun _ _ _ h => h) (Or.inl ⟨by rfl, fun w' hS => (by obtain ⟨s0, s1⟩ := hS; have q6 := cell_of_blk (i := 6) s0 rfl; have q7 := cell_of_blk (i := 7) s0 rfl; have q8 := cell_of_blk (i := 8) s0 rfl; have q9 := cell_of_blk (i := 9) s0 rfl; go_simp)⟩) hHeld ?_
        change wpAnyH _ _ _ _ _ _ _ (Act.put _ (some 72) _) _
        try simp only [Act.put, List.setIfInBounds_toArray, List.set_cons_zero, List.set_cons_succ]
        refine wpAnyH_take (i := 3) (oi := _) (v := .int .u64 ((a.key.label ||| own ||| (a.ctx ||| a.val.label) : Nat) : Int)) rfl (by kernel_rfl) (by kernel_rfl) (by kernel_rfl) (fun _ _ _ h => h) (Or.inl ⟨by rfl, fun w' hS => (by go_simp)⟩) hHeld ?_
        change wpAnyH _ _ _ _ _ _ _ (Act.put _ (some 73) _) _
        try simp only [Act.put, List.setIfInBounds_toArray, List.set_cons_zero, List.set_cons_succ]
        refine wpAnyH_ready (rs := [4]) (by kernel_rfl) (by simp) ?_
        refine AllReadyH.cons (o := _) rfl (fun K hK => ?_) AllReadyH.nil
        go_simp
        refine (HWith.out _).mono ?_
        rintro e w9 ⟨rfl, hb9⟩
        have HB9 := Lib.hid (show Below W.heap.size W w9 from by first | exact hb9 | exact (show Below W.heap.size W _ from Below.trans (by repeat' (first | exact Below.refl _ _ | refine Below.drew ?_)) hb9))
        clear hb9
        refine hK.out _ _ ⟨below_blk HB9.out BW.out, below_blk HB9.out VW.out⟩ (fun hHeld => ?_)
        clear hK K
        try simp only [Act.put, List.setIfInBounds_toArray, List.set_cons_zero, List.set_cons_succ]
        refine wpAnyH_take (i := 5) (oi := _) (v := .bool true) rfl (by kernel_rfl) (by kernel_rfl) (by kernel_rfl) (fun _ _ _ h => h) (Or.inl ⟨by rfl, fun w' hS => (by go_simp)⟩) hHeld ?_
        change wpAnyH _ _ _ _ _ _ _ (Act.put _ (some 75) _) _
        try simp only [Act.put, List.setIfInBounds_toArray, List.set_cons_zero, List.set_cons_succ]
        refine wpAnyH_take (i := 6) (oi := _) (v := .bool true) rfl (by kernel_rfl) (by kernel_rfl) (by kernel_rfl) (fun _ _ _ h => h) (Or.inl ⟨by rfl, fun w' hS => (by go_simp)⟩) hHeld ?_
        change wpAnyH _ _ _ _ _ _ _ (Act.put _ (some 6) _) _
        try simp only [Act.put, List.setIfInBounds_toArray, List.set_cons_zero, List.set_cons_succ]
        refine wpAnyH_done (by kernel_rfl) ?_ _
        refine NoPanic.normal ?_
        go_wp2_with fail
        go_ret
        exact ⟨rfl, HB3.out.trans ((HBW.out.trans (HB9.out.mono hNW)).mono (Nat.le_of_lt hN0))⟩
      · have hz1 : (dn == 0) = false := by simpa using hz
        clear hz
        go_wp2_with fail
        refine (HFl.out _).mono ?_
        rintro e w8 ⟨rfl, rfl⟩
        go_wp2_with fail
        go_ret
        exact ⟨rfl, HB3.out.trans ((HB7.out.alloc hN7 _).mono (Nat.le_of_lt hN0))⟩
set_option maxRecDepth 100000 in
theorem tlabels_lifted (os : Os) (started : os.Started) (H : Type) (enc : TypeId × Value → H) :
    ReturnsInHanded {} Try.checked os 8 .any (Rows.tableLabelsSpec.pre6 enc Try.prog Try.f8 Rows.tableLabelsRow.domain false) (Rows.tableLabelsSpec.post enc Try.prog Try.f8 false true false false) := by
  refine returnsInHanded_of_change_sized (C := Try.checked) own started (by kernel_rfl) Try.func8
    (ChangeSpec.witness6 (enc := enc) (C := Try.checked) false ⟨#[], #[.int .u64 0, .slice none 0 0, .agg #[.int .i64 0, .int .u64 0, .int .i64 0, .int .i64 0, .string ByteArray.empty, .int .u64 0, .int .i64 0, .int .i64 0, .string ByteArray.empty, .int .u64 0, .int .i64 0, .slice none 0 0]], []⟩ 8 (by kernel_rfl) (by kernel_rfl) (by kernel_rfl) (by kernel_rfl)) ?_
  intro W base args ds gs before hval0 hW hcnd hsz0 _
  have hval : ∀ (j : Nat) t v, Try.f8.params[j]? = some t → args[j]? = some v → Value.okWide Try.prog W .any base t v := hval0
  have hsz : (DataW.weightsEach Try.prog (Try.f8.params.toList ++ Rows.tableLabelsSpec.plain.varTypes Try.prog) (ds ++ gs)).all (· ≤ reachBytes) = true := hsz0
  have hW' := hW
  obtain ⟨p, q, hA0, hV, rfl, hfz, hnd⟩ := hW
  have hA : DataW.TrodAll enc Try.prog W 0 (fun _ => true) true Try.f8.params.toList args.toList ds p := hA0
  rw [Try.params8] at hA hval hsz
  obtain ⟨v0, vs0, d0, ds0, p0, q0, hargs0, rfl, rfl, h0, r0⟩ := trodAll_cons hA
  obtain ⟨v1, vs1, d1, ds1, p1, q1, rfl, rfl, rfl, h1, r1⟩ := trodAll_cons r0
  obtain ⟨v2, vs2, d2, ds2, p2, q2, rfl, rfl, rfl, h2, r2⟩ := trodAll_cons r1
  obtain ⟨rfl, rfl, rfl⟩ := trodAll_nil r2
  obtain rfl : args = #[v0, v1, v2] := by cases args; simp_all
  obtain ⟨rfl, rfl⟩ := trodVars_none hV
  obtain ⟨own, rfl, w0⟩ := open_nat Try.underlying23 (hval 0 23 v0 rfl rfl) h0
  obtain ⟨l, rfl, w1⟩ := open_sl Try.underlying40 (hval 1 40 v1 rfl rfl) h1 (decSlice Try.underlying40 (K := 12) (by kernel_rfl) (by omega) (fun _ => rfl) decTAct)
  obtain ⟨a, rfl, w2⟩ := open_agg (.inl ⟨_, Try.underlying43⟩) (hval 2 43 v2 rfl rfl) h2 decTAct
  refine (tlabels_walk own l.xs l.A l.cap a W w0 w1.reads (tas_fit w1 (sized_arg hsz (j := 1) rfl rfl)).1 (tas_fit w1 (sized_arg hsz (j := 1) rfl rfl)).2 (ta_fit w2 (sized_arg hsz (j := 2) rfl rfl))).mono fun e W' ⟨he, hb⟩ => ⟨_, he, ?_⟩
  exact law_post laidOut hW' rfl rfl Try.underlying4 (by kernel_rfl) rfl rfl rfl hb

theorem tlabels_holds : Rows.TableLabelsSaid :=
  OpenClaim.holds_of_wide 8 Try.f8 rfl rfl rfl rfl rfl rfl rfl ⟨rfl, rfl, rfl, rfl, rfl⟩ rfl rfl rfl rfl rfl (by kernel_rfl) Try.func8 (by kernel_rfl)
    (of_decide_eq_true (by kernel_rfl)) (by unfold Func.isWrapper; first | (rw [if_pos (by decide +kernel)]; kernel_rfl) | (rw [if_neg (by decide +kernel)]; exact ⟨rfl, rfl⟩))
    (fun os started H enc _ => tlabels_lifted os started H enc)
#print axioms tlabels_holds
end Go.Proofs.Ythhphjfbdoffhaa
