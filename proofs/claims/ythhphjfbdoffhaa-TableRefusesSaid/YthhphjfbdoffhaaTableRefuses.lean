/-
  TableRefuses: the walk, and the given statement.
-/
import Derived.Test.YthhphjfbdoffhaaTabLaw
set_option linter.unusedVariables false
set_option linter.unusedSimpArgs false
namespace Go.Proofs.Ythhphjfbdoffhaa
open Go.ChangeShapes Go.WideShapes Go.ChangeAt Go.RowKit Go.Maps

set_option maxRecDepth 100000 in
set_option maxHeartbeats 16000000 in
theorem trefuses_walk (own : Nat) (xs : List TAct) (A : Option Addr) (c : Nat) (a : TAct) (w : World) (hown : own < 18446744073709551616) (hr : Reads w w.heap.size A (xs.flatMap taEnc)) (hfit : ∀ x ∈ xs, TaFit w w.heap.size x) (hlen : xs.length * 128 ≤ 140737488351232) (ha : TaFit w w.heap.size a) :
    Calls Try.prog 11 #[.int .u64 (own : Int), .slice A xs.length c, .agg #[.int .i64 a.act, .int .u64 (a.ctx : Int), .int .i64 a.key.kind, .int .i64 a.key.n, .string a.key.s, .int .u64 (a.key.label : Int), .int .i64 a.val.kind, .int .i64 a.val.n, .string a.val.s, .int .u64 (a.val.label : Int), .int .i64 a.n, .slice a.s.A a.s.xs.length a.s.cap]] w (RetB (.bool true) w) := by
  have hnl : xs.length ≤ 9223372036854775807 := Nat.le_trans (Nat.le_mul_of_pos_right _ (by decide)) (Nat.le_trans hlen (by decide))
  have HR := Lib.hid hr
  have HFit := Lib.hid hfit
  have HA := Lib.hid ha
  have hb0 := (Below.refl w.heap.size w).alloc (Nat.le_refl _) (.cells #[.int .i64 a.act, .int .u64 (a.ctx : Int), .int .i64 a.key.kind, .int .i64 a.key.n, .string a.key.s, .int .u64 (a.key.label : Int), .int .i64 a.val.kind, .int .i64 a.val.n, .string a.val.s, .int .u64 (a.val.label : Int), .int .i64 a.n, .slice a.s.A a.s.xs.length a.s.cap] 43)
  have HB0 := Lib.hid hb0
  have HAW := Lib.hid (fun W => awake04 W)
  clear hr hfit ha hb0 hlen
  go_enter Try.func11, Try.ntmps11
  go_wp2_with fail
  refine (HAW.out _).mono ?_
  rintro e w1 ⟨rfl, hb1⟩
  have HB1 := Lib.hid (HB0.out.trans (hb1.mono (by simp)))
  have BX1 := Lib.hid (below_blk hb1 (heap_alloc_new w (.cells #[.int .i64 a.act, .int .u64 (a.ctx : Int), .int .i64 a.key.kind, .int .i64 a.key.n, .string a.key.s, .int .u64 (a.key.label : Int), .int .i64 a.val.kind, .int .i64 a.val.n, .string a.val.s, .int .u64 (a.val.label : Int), .int .i64 a.n, .slice a.s.A a.s.xs.length a.s.cap] 43)))
  clear hb1
  go_wp2_with fail
  refine (tfew_any xs A c w1 ((HR.out.below HB1.out).mono' HB1.out.size) hnl (fun x hx => (HFit.out x hx).len) (fun x hx => ⟨(HFit.out x hx).key.s, (HFit.out x hx).val.s⟩)).mono ?_
  rintro e w2 ⟨b2, rfl, hb2, ht2⟩
  have HB2 := Lib.hid (HB1.out.trans (hb2.mono HB1.out.size))
  have BX2 := Lib.hid (below_blk hb2 BX1.out)
  clear hb2 BX1 HB1
  cases b2
  · go_wp2_with fail
    go_ret
    exact ⟨rfl, HB2.out⟩
  have HT2 := Lib.hid (ht2 rfl)
  clear ht2
  have x0 := cell_of_blk (i := 0) BX2.out rfl
  have x1 := cell_of_blk (i := 1) BX2.out rfl
  have x2 := cell_of_blk (i := 2) BX2.out rfl
  have x3 := cell_of_blk (i := 3) BX2.out rfl
  have x4 := cell_of_blk (i := 4) BX2.out rfl
  have x5 := cell_of_blk (i := 5) BX2.out rfl
  have x6 := cell_of_blk (i := 6) BX2.out rfl
  have x7 := cell_of_blk (i := 7) BX2.out rfl
  have x8 := cell_of_blk (i := 8) BX2.out rfl
  have x9 := cell_of_blk (i := 9) BX2.out rfl
  have x10 := cell_of_blk (i := 10) BX2.out rfl
  have x11 := cell_of_blk (i := 11) BX2.out rfl
  have l2 := blk_lt BX2.out
  go_wp2_with fail
  refine (tfew1_any a _ _ 43 _ (by exact heap_alloc_new w2 (.cells #[.int .i64 a.act, .int .u64 (a.ctx : Int), .int .i64 a.key.kind, .int .i64 a.key.n, .string a.key.s, .int .u64 (a.key.label : Int), .int .i64 a.val.kind, .int .i64 a.val.n, .string a.val.s, .int .u64 (a.val.label : Int), .int .i64 a.n, .slice a.s.A a.s.xs.length a.s.cap] 43)) HA.out.len ⟨HA.out.key.s, HA.out.val.s⟩).mono ?_
  rintro e w3 ⟨b3, rfl, hb3, ht3⟩
  have HB3 := Lib.hid ((HB2.out.alloc HB2.out.size _).trans (hb3.mono (Nat.le_trans HB2.out.size (by simp))))
  have BX3 := Lib.hid (below_blk hb3 (blk_alloc BX2.out _))
  clear hb3 BX2 HB2 l2 x0 x1 x2 x3 x4 x5 x6 x7 x8 x9 x10 x11
  cases b3
  · go_wp2_with fail
    go_ret
    exact ⟨rfl, HB3.out⟩
  have HT3 := Lib.hid (ht3 rfl)
  clear ht3
  go_wp2_with fail
  refine (tnew_any own w3).mono ?_
  rintro e w4 ⟨tb, fp0, rfl, hT4, hb4⟩
  have H4 := Lib.hid (Two.start hT4 hb4)
  have BX4 := Lib.hid (below_blk hb4 BX3.out)
  have hN0 : w.heap.size < w3.heap.size := blk_lt BX3.out
  clear hb4 hT4
  go_wp2_with fail
  go_loopw [32] (fun i wr => ∃ (k : Nat) (T : TabS), k ≤ xs.length ∧ i = .int .i64 k ∧ Hid (Good own (totT (xs.take k)) T) ∧ Hid (Two w3.heap.size w3 wr tb w4.heap.size T)) (fun i wr => xs.length - (intOf i).toNat)
  case atStart => exact ⟨0, ⟨own, [], []⟩, by omega, rfl, Lib.hid ⟨tabOk_new hown, rfl, by simp, by simp⟩, H4⟩
  case round =>
    obtain ⟨k, T, hk, rfl, HG, HTwo⟩ := hrel
    by_cases hlt : k < xs.length
    · obtain ⟨x, hx⟩ : ∃ x, xs[k]? = some x := ⟨_, List.getElem?_eq_getElem hlt⟩
      have hxm := List.mem_of_getElem? hx
      have hr3 := (HR.out.below HB3.out).mono' HB3.out.size
      obtain ⟨ad, rfl, hadb, hcell⟩ := (hr3.below HTwo.out.before).at (flatMap_ne (K := 12) taEnc_len (by omega) hx)
      have x0 := elem_zero taEnc_len hcell hx (by omega) (v := .int .i64 x.act) rfl
      have x1 := elem_at taEnc_len hcell hx 1 (by omega) (by omega) (v := .int .u64 (x.ctx : Int)) rfl
      have x2 := elem_at taEnc_len hcell hx 2 (by omega) (by omega) (v := .int .i64 x.key.kind) rfl
      have x3 := elem_at taEnc_len hcell hx 3 (by omega) (by omega) (v := .int .i64 x.key.n) rfl
      have x4 := elem_at taEnc_len hcell hx 4 (by omega) (by omega) (v := .string x.key.s) rfl
      have x5 := elem_at taEnc_len hcell hx 5 (by omega) (by omega) (v := .int .u64 (x.key.label : Int)) rfl
      have x6 := elem_at taEnc_len hcell hx 6 (by omega) (by omega) (v := .int .i64 x.val.kind) rfl
      have x7 := elem_at taEnc_len hcell hx 7 (by omega) (by omega) (v := .int .i64 x.val.n) rfl
      have x8 := elem_at taEnc_len hcell hx 8 (by omega) (by omega) (v := .string x.val.s) rfl
      have x9 := elem_at taEnc_len hcell hx 9 (by omega) (by omega) (v := .int .u64 (x.val.label : Int)) rfl
      have x10 := elem_at taEnc_len hcell hx 10 (by omega) (by omega) (v := .int .i64 x.n) rfl
      have x11 := elem_at taEnc_len hcell hx 11 (by omega) (by omega) (v := .slice x.s.A x.s.xs.length x.s.cap) rfl
      have hsz := HTwo.out.size
      have hk' : (k : Int) < (xs.length : Int) := by omega
      have hk0 : (0 : Int) ≤ k := by omega
      have hll : (ad.add (k * 12)).block < wr.heap.size := by rw [block_add']; omega
      have hfx := ((HFit.out x hxm).below HB3.out).up HB3.out.size
      have hle := Nat.le_trans (totT_take_le xs k) HT2.out
      have hxl := Nat.le_trans (totT_mem hxm) HT2.out
      have hact := act_two (HTwo.out.below hsz ((Below.refl _ _).alloc (Nat.le_refl _) (.cells #[.int .i64 x.act, .int .u64 (x.ctx : Int), .int .i64 x.key.kind, .int .i64 x.key.n, .string x.key.s, .int .u64 (x.key.label : Int), .int .i64 x.val.kind, .int .i64 x.val.n, .string x.val.s, .int .u64 (x.val.label : Int), .int .i64 x.n, .slice x.s.A x.s.xs.length x.s.cap] 43))) (Nat.le_refl _) HG.out.ok x hfx (by have := HG.out.F; omega) (by have := HG.out.S; omega) (by omega)
      have hg := HG.out.step hfx
      rw [← totT_snoc hx] at hg
      have HGn := Lib.hid hg
      have HAct := Lib.hid hact
      clear hx hcell hact hg hr3 hxm
      go_wp2_with fail
      refine HAct.out.mono ?_
      rintro e w6 ⟨⟨b, rfl⟩, h6⟩
      have H6 := Lib.hid h6
      clear h6
      go_wp2_with fail
      go_roundw
      case rel => exact ⟨k + 1, _, by omega, by go_num, HGn, H6⟩
      case measure => simp [intOf]; omega
    · obtain rfl : k = xs.length := by omega
      have hG := HG.out
      rw [List.take_length] at hG
      have hT2 := HT2.out
      have HOK := Lib.hid hG.ok
      have hTF : T.F.length ≤ 2000 := Nat.le_trans hG.F hT2
      have hTS : T.S.length ≤ 2000 := Nat.le_trans hG.S hT2
      have hTL := hG.l
      have haL : a.s.xs.length ≤ 2000 := Nat.le_trans (totT_mem (l := [a]) (by simp)) HT3.out
      have hbr := HTwo.out.before
      have BXr := Lib.hid ((hbr.block _ hN0).trans BX3.out)
      have HAr := Lib.hid (((HA.out.below HB3.out).up HB3.out.size).below hbr)
      have hsz := hbr.size
      have HBr := Lib.hid hbr
      clear hG hbr
      have x0 := cell_of_blk (i := 0) BXr.out rfl
      have x1 := cell_of_blk (i := 1) BXr.out rfl
      have x2 := cell_of_blk (i := 2) BXr.out rfl
      have x3 := cell_of_blk (i := 3) BXr.out rfl
      have x4 := cell_of_blk (i := 4) BXr.out rfl
      have x5 := cell_of_blk (i := 5) BXr.out rfl
      have x6 := cell_of_blk (i := 6) BXr.out rfl
      have x7 := cell_of_blk (i := 7) BXr.out rfl
      have x8 := cell_of_blk (i := 8) BXr.out rfl
      have x9 := cell_of_blk (i := 9) BXr.out rfl
      have x10 := cell_of_blk (i := 10) BXr.out rfl
      have x11 := cell_of_blk (i := 11) BXr.out rfl
      have lr := blk_lt BXr.out
      obtain ⟨fp, fr, h1, h2, h3, h4⟩ := HTwo.out
      obtain ⟨r80, r24⟩ := small_room2 (a := T.F.length) (b := T.S.length) (by omega) (by omega)
      obtain ⟨_, r24b⟩ := small_room2 (a := T.S.length) (b := a.s.xs.length) (by omega) (by omega)
      obtain ⟨_, r80b⟩ := small_room (n := T.F.length) (by omega)
      have HTw := Lib.hid (rtwin_any h2 r80)
      have H1 := Lib.hid h1
      clear h1 h2 h3 h4 r80 r24
      go_wp2_with fail
      refine HTw.out.mono ?_
      rintro e w6 ⟨rb', fp6, rfl, hR6, hb6⟩
      have h16 := H1.out.kept (Fr.of_below hb6 []) (by simp)
      have hN6 : w3.heap.size ≤ w6.heap.size := Nat.le_trans hsz hb6.size
      have HB6 := Lib.hid (HBr.out.trans (hb6.mono hsz))
      have HD := Lib.hid (show ∀ b ∈ fp6, b ∉ fp from fun b hm hf => absurd (H1.out.base b hf).2 (by have := (hR6.base b hm).1; omega))
      have BX6 := Lib.hid (below_blk hb6 BXr.out)
      have HR6 := Lib.hid hR6
      have HS6 := Lib.hid (tstamp_any h16 HOK.out a.s.xs a.s.A a.s.cap (((HAr.out.reads.below (hb6.mono hsz))).mono' hN6) HAr.out.sts r24b)
      have H16 := Lib.hid h16
      clear hb6 hR6 h16 x0 x1 x2 x3 x4 x5 x6 x7 x8 x9 x10 x11 lr BXr r24b
      have x11 := cell_of_blk (i := 11) BX6.out rfl
      have l6 := blk_lt BX6.out
      go_wp2_with fail
      refine HS6.out.mono ?_
      intro e w7 h7
      obtain ⟨rfl, hto⟩ := h7
      cases hst : (doStamp T a.s.xs).1
      · rw [doStamp_no hst] at hto
        obtain ⟨fp7, k1, k2, k3⟩ := hto
        have hN7 : w3.heap.size ≤ w7.heap.size := Nat.le_trans hN6 k2.size
        have HB7 := Lib.hid (HB6.out.trans (k2.to_below hN6 fun b hb => (H16.out.base b hb).1))
        have BX7 := Lib.hid (k2.blk BX6.out (fun hf => absurd (H16.out.base _ hf).1 (by omega)))
        have hR7 := HR6.out.kept k2 (fun b hb => HD.out b hb)
        have HD7 := Lib.hid (show ∀ b ∈ fp6, b ∉ fp7 from fun b hm hf => (k3 b hf).elim (HD.out b hm) fun h => absurd (HR6.out.base b hm).2 (by omega))
        have HAl := Lib.hid (alike_any k1 hR7 (by omega) (by omega))
        have K1 := Lib.hid k1
        have HR7 := Lib.hid hR7
        clear k1 k2 k3 hR7 x11 l6 BX6
        have y1 := cell_of_blk (i := 1) BX7.out rfl
        go_wp2_with fail
        refine HAl.out.mono ?_
        rintro e w8 ⟨rfl, hb8⟩
        have hN8 : w3.heap.size ≤ w8.heap.size := Nat.le_trans hN7 hb8.size
        have HB8 := Lib.hid (HB7.out.trans (hb8.mono hN7))
        have BX8 := Lib.hid (below_blk hb8 BX7.out)
        have h18 := K1.out.kept (Fr.of_below hb8 []) (by simp)
        have HR8 := Lib.hid (HR7.out.kept (Fr.of_below hb8 []) (by simp))
        have HP := Lib.hid (tput_any h18 HOK.out HAr.out.ctx HAr.out.key HAr.out.val r80b)
        have H18 := Lib.hid h18
        clear hb8 h18 y1 BX7
        have y0 := cell_of_blk (i := 0) BX8.out rfl
        have y1 := cell_of_blk (i := 1) BX8.out rfl
        have y2 := cell_of_blk (i := 2) BX8.out rfl
        have y3 := cell_of_blk (i := 3) BX8.out rfl
        have y4 := cell_of_blk (i := 4) BX8.out rfl
        have y5 := cell_of_blk (i := 5) BX8.out rfl
        have y6 := cell_of_blk (i := 6) BX8.out rfl
        have y7 := cell_of_blk (i := 7) BX8.out rfl
        have y8 := cell_of_blk (i := 8) BX8.out rfl
        have y9 := cell_of_blk (i := 9) BX8.out rfl
        have y10 := cell_of_blk (i := 10) BX8.out rfl
        have y11 := cell_of_blk (i := 11) BX8.out rfl
        have l8 := blk_lt BX8.out
        have hpn : (doPut T a.ctx a.key a.val).1 ≠ 0 → (doPut T a.ctx a.key a.val).2 = T := doPut_no
        have HP' := HP.out
        generalize doPut T a.ctx a.key a.val = D at HP' hpn
        obtain ⟨dn, dT⟩ := D
        have HPP := Lib.hid HP'
        have HPN := Lib.hid hpn
        clear HP' hpn HP
        unfold vvCells at HPP
        go_wp2_with fail
        refine HPP.out.mono ?_
        rintro e w9 ⟨rfl, hto9⟩
        have HTo9 := Lib.hid hto9
        have HB9 := Lib.hid (show Below w3.heap.size w3 w9 from hto9.elim fun fp9 h => HB8.out.trans (h.2.1.to_below hN8 fun b hb => (H18.out.base b hb).1))
        clear hto9
        try dsimp only at HTo9 HPN
        by_cases hz : dn = 0
        · have hz1 : (dn == 0) = true := by simpa using hz
          clear hz
          go_wp2_with fail
          go_ret
          exact ⟨rfl, HB3.out.trans (HB9.out.mono (Nat.le_of_lt hN0))⟩
        · have hz1 : (dn == 0) = false := by simpa using hz
          have hT9 := HTo9.out
          rw [HPN.out hz] at hT9
          obtain ⟨fp9, k1, k2, k3⟩ := hT9
          have hR9 := HR8.out.kept k2 (fun b hb => HD7.out b hb)
          have HAl9 := Lib.hid (alike_any k1 hR9 (by omega) (by omega))
          have hN9 : w3.heap.size ≤ w9.heap.size := Nat.le_trans hN8 k2.size
          clear k1 k2 k3 hR9 hz
          go_wp2_with fail
          refine HAl9.out.mono ?_
          rintro e w10 ⟨rfl, hb10⟩
          have HB10 := Lib.hid (HB9.out.trans (hb10.mono hN9))
          clear hb10
          go_wp2_with fail
          go_ret
          exact ⟨rfl, HB3.out.trans (HB10.out.mono (Nat.le_of_lt hN0))⟩
      · have HB7 := Lib.hid (show Below w3.heap.size w3 w7 from hto.elim fun fp9 h => HB6.out.trans (h.2.1.to_below hN6 fun b hb => (H16.out.base b hb).1))
        clear hto
        go_wp2_with fail
        go_ret
        exact ⟨rfl, HB3.out.trans (HB7.out.mono (Nat.le_of_lt hN0))⟩
set_option maxRecDepth 100000 in
theorem trefuses_lifted (os : Os) (started : os.Started) (H : Type) (enc : TypeId × Value → H) :
    ReturnsInHanded {} Try.checked os 11 .any (Rows.tableRefusesSpec.pre6 enc Try.prog Try.f11 Rows.tableRefusesRow.domain false) (Rows.tableRefusesSpec.post enc Try.prog Try.f11 false true false false) := by
  refine returnsInHanded_of_change_sized (C := Try.checked) own started (by kernel_rfl) Try.func11
    (ChangeSpec.witness6 (enc := enc) (C := Try.checked) false ⟨#[], #[.int .u64 0, .slice none 0 0, .agg #[.int .i64 0, .int .u64 0, .int .i64 0, .int .i64 0, .string ByteArray.empty, .int .u64 0, .int .i64 0, .int .i64 0, .string ByteArray.empty, .int .u64 0, .int .i64 0, .slice none 0 0]], []⟩ 8 (by kernel_rfl) (by kernel_rfl) (by kernel_rfl) (by kernel_rfl)) ?_
  intro W base args ds gs before hval0 hW hcnd hsz0 _
  have hval : ∀ (j : Nat) t v, Try.f11.params[j]? = some t → args[j]? = some v → Value.okWide Try.prog W .any base t v := hval0
  have hsz : (DataW.weightsEach Try.prog (Try.f11.params.toList ++ Rows.tableRefusesSpec.plain.varTypes Try.prog) (ds ++ gs)).all (· ≤ reachBytes) = true := hsz0
  have hW' := hW
  obtain ⟨p, q, hA0, hV, rfl, hfz, hnd⟩ := hW
  have hA : DataW.TrodAll enc Try.prog W 0 (fun _ => true) true Try.f11.params.toList args.toList ds p := hA0
  rw [Try.params11] at hA hval hsz
  obtain ⟨v0, vs0, d0, ds0, p0, q0, hargs0, rfl, rfl, h0, r0⟩ := trodAll_cons hA
  obtain ⟨v1, vs1, d1, ds1, p1, q1, rfl, rfl, rfl, h1, r1⟩ := trodAll_cons r0
  obtain ⟨v2, vs2, d2, ds2, p2, q2, rfl, rfl, rfl, h2, r2⟩ := trodAll_cons r1
  obtain ⟨rfl, rfl, rfl⟩ := trodAll_nil r2
  obtain rfl : args = #[v0, v1, v2] := by cases args; simp_all
  obtain ⟨rfl, rfl⟩ := trodVars_none hV
  obtain ⟨own, rfl, w0⟩ := open_nat Try.underlying23 (hval 0 23 v0 rfl rfl) h0
  obtain ⟨l, rfl, w1⟩ := open_sl Try.underlying40 (hval 1 40 v1 rfl rfl) h1 (decSlice Try.underlying40 (K := 12) (by kernel_rfl) (by omega) (fun _ => rfl) decTAct)
  obtain ⟨a, rfl, w2⟩ := open_agg (.inl ⟨_, Try.underlying43⟩) (hval 2 43 v2 rfl rfl) h2 decTAct
  refine (trefuses_walk own l.xs l.A l.cap a W w0 w1.reads (tas_fit w1 (sized_arg hsz (j := 1) rfl rfl)).1 (tas_fit w1 (sized_arg hsz (j := 1) rfl rfl)).2 (ta_fit w2 (sized_arg hsz (j := 2) rfl rfl))).mono fun e W' ⟨he, hb⟩ => ⟨_, he, ?_⟩
  exact law_post laidOut hW' rfl rfl Try.underlying4 (by kernel_rfl) rfl rfl rfl hb

theorem trefuses_holds : Rows.TableRefusesSaid :=
  OpenClaim.holds_of_wide 11 Try.f11 rfl rfl rfl rfl rfl rfl rfl ⟨rfl, rfl, rfl, rfl, rfl⟩ rfl rfl rfl rfl rfl (by kernel_rfl) Try.func11 (by kernel_rfl)
    (of_decide_eq_true (by kernel_rfl)) (by unfold Func.isWrapper; first | (rw [if_pos (by decide +kernel)]; kernel_rfl) | (rw [if_neg (by decide +kernel)]; exact ⟨rfl, rfl⟩))
    (fun os started H enc _ => trefuses_lifted os started H enc)
#print axioms trefuses_holds
end Go.Proofs.Ythhphjfbdoffhaa
