/-
  TableMonotone: the walk, and the given statement.
-/
import Derived.Test.YthhphjfbdoffhaaTabMono
set_option linter.unusedVariables false
set_option linter.unusedSimpArgs false
namespace Go.Proofs.Ythhphjfbdoffhaa
open Go.ChangeShapes Go.WideShapes Go.ChangeAt Go.RowKit Go.Maps

theorem eqV_self (G : VV) : eqV G G = true := by simp [eqV]
set_option maxRecDepth 100000 in
set_option maxHeartbeats 16000000 in
theorem tmono_walk (own : Nat) (xs : List TAct) (A : Option Addr) (c : Nat) (w : World) (hown : own < 18446744073709551616) (hr : Reads w w.heap.size A (xs.flatMap taEnc)) (hfit : ∀ x ∈ xs, TaFit w w.heap.size x) (hlen : xs.length * 128 ≤ 140737488351232) :
    Calls Try.prog 9 #[.int .u64 (own : Int), .slice A xs.length c] w (RetB (.bool true) w) := by
  have hnl : xs.length ≤ 9223372036854775807 := Nat.le_trans (Nat.le_mul_of_pos_right _ (by decide)) (Nat.le_trans hlen (by decide))
  have HR := Lib.hid hr
  have HFit := Lib.hid hfit
  have HAW := Lib.hid (fun W => awake04 W)
  clear hr hfit hlen
  go_enter Try.func9, Try.ntmps9
  go_wp2_with fail
  refine (HAW.out _).mono ?_
  rintro e w1 ⟨rfl, hb1⟩
  have HB1 := Lib.hid hb1
  clear hb1
  go_wp2_with fail
  refine (tfew_any xs A c w1 ((HR.out.below HB1.out).mono' HB1.out.size) hnl (fun x hx => (HFit.out x hx).len) (fun x hx => ⟨(HFit.out x hx).key.s, (HFit.out x hx).val.s⟩)).mono ?_
  rintro e w3 ⟨b2, rfl, hb2, ht2⟩
  have HB2 := Lib.hid (HB1.out.trans (hb2.mono HB1.out.size))
  clear hb2 HB1
  cases b2
  · go_wp2_with fail
    go_ret
    exact ⟨rfl, HB2.out⟩
  have HT2 := Lib.hid (ht2 rfl)
  clear ht2
  have HB3 := Lib.hid HB2.out
  clear HB2
  go_wp2_with fail
  refine (tnew_any own w3).mono ?_
  rintro e w4 ⟨tb, fp0, rfl, hT4, hb4⟩
  have H4 := Lib.hid (Two.start hT4 hb4)
  have hN0 : w.heap.size ≤ w3.heap.size := HB3.out.size
  clear hb4 hT4
  go_wp2_with fail
  go_loopw [32] (fun i wr => ∃ (k : Nat) (T : TabS), k ≤ xs.length ∧ i = .int .i64 k ∧ Hid (Good own (totT (xs.take k)) T) ∧ Hid (Two w3.heap.size w3 wr tb w4.heap.size T)) (fun i wr => xs.length - (intOf i).toNat)
  case atStart => exact ⟨0, ⟨own, [], []⟩, by omega, rfl, Lib.hid ⟨tabOk_new hown, rfl, by simp, by simp⟩, H4⟩
  case round =>
    obtain ⟨k, T, hk, rfl, HG, HTwo⟩ := hrel
    by_cases hlt : k < xs.length
    · obtain ⟨x, hx⟩ : ∃ x, xs[k]? = some x := ⟨_, List.getElem?_eq_getElem hlt⟩
      have hxm := List.mem_of_getElem? hx
      have hr3 := (HR.out.below HB3.out).mono' HB3.out.size
      obtain ⟨ad, rfl, hadb, hcell⟩ := (hr3.below HTwo.out.before).at (flatMap_ne (K := 12) taEnc_len (by omega) hx)
      have x0 := elem_zero taEnc_len hcell hx (by omega) (v := .int .i64 x.act) rfl
      have x1 := elem_at taEnc_len hcell hx 1 (by omega) (by omega) (v := .int .u64 (x.ctx : Int)) rfl
      have x2 := elem_at taEnc_len hcell hx 2 (by omega) (by omega) (v := .int .i64 x.key.kind) rfl
      have x3 := elem_at taEnc_len hcell hx 3 (by omega) (by omega) (v := .int .i64 x.key.n) rfl
      have x4 := elem_at taEnc_len hcell hx 4 (by omega) (by omega) (v := .string x.key.s) rfl
      have x5 := elem_at taEnc_len hcell hx 5 (by omega) (by omega) (v := .int .u64 (x.key.label : Int)) rfl
      have x6 := elem_at taEnc_len hcell hx 6 (by omega) (by omega) (v := .int .i64 x.val.kind) rfl
      have x7 := elem_at taEnc_len hcell hx 7 (by omega) (by omega) (v := .int .i64 x.val.n) rfl
      have x8 := elem_at taEnc_len hcell hx 8 (by omega) (by omega) (v := .string x.val.s) rfl
      have x9 := elem_at taEnc_len hcell hx 9 (by omega) (by omega) (v := .int .u64 (x.val.label : Int)) rfl
      have x10 := elem_at taEnc_len hcell hx 10 (by omega) (by omega) (v := .int .i64 x.n) rfl
      have x11 := elem_at taEnc_len hcell hx 11 (by omega) (by omega) (v := .slice x.s.A x.s.xs.length x.s.cap) rfl
      have hsz := HTwo.out.size
      have hk' : (k : Int) < (xs.length : Int) := by omega
      have hk0 : (0 : Int) ≤ k := by omega
      have hll : (ad.add (k * 12)).block < wr.heap.size := by rw [block_add']; omega
      have hfx := ((HFit.out x hxm).below HB3.out).up HB3.out.size
      have hle := Nat.le_trans (totT_take_le xs k) HT2.out
      have hxl := Nat.le_trans (totT_mem hxm) HT2.out
      have hTF : T.F.length ≤ 2000 := Nat.le_trans HG.out.F hle
      have hTS : T.S.length ≤ 2000 := Nat.le_trans HG.out.S hle
      have hg := HG.out.step hfx
      rw [← totT_snoc hx] at hg
      have HGn := Lib.hid hg
      have hle2 := Nat.le_trans (totT_take_le xs (k + 1)) HT2.out
      have hTF' : (stepT T x).F.length ≤ 2000 := Nat.le_trans hg.F hle2
      have hTS' : (stepT T x).S.length ≤ 2000 := Nat.le_trans hg.S hle2
      obtain ⟨hMF, hMS⟩ := stepT_mono T x
      have HMF := Lib.hid hMF
      have HMS := Lib.hid hMS
      have hlF := monoF_len hMF
      have hlS := monoS_len hMS
      have HOK' := Lib.hid hg.ok
      have HOKT := Lib.hid HG.out.ok
      have hFX := Lib.hid hfx
      obtain ⟨wo, hwo⟩ : ∃ z, z = wr := ⟨_, rfl⟩
      subst hwo
      obtain ⟨fp, fr, h1, h2, h3, h4⟩ := HTwo.out
      have hbA := (Below.refl wo.heap.size wo).alloc (Nat.le_refl _) (.cells #[.int .i64 x.act, .int .u64 (x.ctx : Int), .int .i64 x.key.kind, .int .i64 x.key.n, .string x.key.s, .int .u64 (x.key.label : Int), .int .i64 x.val.kind, .int .i64 x.val.n, .string x.val.s, .int .u64 (x.val.label : Int), .int .i64 x.n, .slice x.s.A x.s.xs.length x.s.cap] 43)
      have h1A := h1.kept (Fr.of_below hbA []) (by simp)
      have h2A := h2.kept (Fr.of_below hbA []) (by simp)
      have HFds := Lib.hid (tfields_any h1A (small_room (n := T.F.length) (by omega)).2)
      have HBo := Lib.hid (fun b (hb : b ∈ fp ++ fr) => show w3.heap.size ≤ b ∧ b < wo.heap.size from (List.mem_append.1 hb).elim (fun h => h1.base b h) (fun h => h2.base b h))
      have HD := Lib.hid h3
      have H1A := Lib.hid h1A
      have H2A := Lib.hid h2A
      have HB4 := Lib.hid (h4.trans (hbA.mono hsz))
      have BXA := Lib.hid (heap_alloc_new wo (.cells #[.int .i64 x.act, .int .u64 (x.ctx : Int), .int .i64 x.key.kind, .int .i64 x.key.n, .string x.key.s, .int .u64 (x.key.label : Int), .int .i64 x.val.kind, .int .i64 x.val.n, .string x.val.s, .int .u64 (x.val.label : Int), .int .i64 x.n, .slice x.s.A x.s.xs.length x.s.cap] 43))
      generalize hT' : stepT T x = T' at *
      clear hx hcell hxm hr3 hg hfx h1 h2 h3 h4 hbA h1A h2A hMF hMS
      go_wp2_with fail
      refine HFds.out.mono ?_
      rintro e w5 ⟨vO, rfl, hoO, hb5⟩
      obtain ⟨AO, cO, rfl, _, _, _, _⟩ := own_reads hoO
      have HO5 := Lib.hid hoO
      have h15 := H1A.out.kept (Fr.of_below hb5 []) (by simp)
      have HStp := Lib.hid (tstamps_any h15 (small_room (n := T.S.length) (by omega)).1)
      have HB5 := Lib.hid (HB4.out.trans (hb5.mono (Nat.le_trans hsz (by simp))))
      have BX5 := Lib.hid (below_blk hb5 BXA.out)
      have H15 := Lib.hid h15
      have H25 := Lib.hid (H2A.out.kept (Fr.of_below hb5 []) (by simp))
      have hs5 : wo.heap.size < w5.heap.size := blk_lt BX5.out
      clear hb5 hoO h15 x0 x1 x2 x3 x4 x5 x6 x7 x8 x9 x10 x11
      go_wp2_with fail
      refine HStp.out.mono ?_
      rintro e w6 ⟨vW, rfl, hoW, hb6⟩
      obtain ⟨AW, cW, rfl, _, _, _, _⟩ := own_reads hoW
      have HB6 := Lib.hid (HB5.out.trans (hb6.mono (by omega)))
      have BX6 := Lib.hid (below_blk hb6 BX5.out)
      have HO6 := Lib.hid (below_own hb6 HO5.out)
      have HW6 := Lib.hid hoW
      have h16 := H15.out.kept (Fr.of_below hb6 []) (by simp)
      have h26 := H25.out.kept (Fr.of_below hb6 []) (by simp)
      have hs6 := hb6.size
      have hact := act_any ⟨h16, h26, HD.out⟩ HOKT.out x (hFX.out.below HB6.out) (by omega) (by omega) (by omega)
      rw [hT'] at hact
      have HAct := Lib.hid hact
      clear hb6 hoW h16 h26 hact BX5 HO5 HB5
      have x0 := cell_of_blk (i := 0) BX6.out rfl
      have x1 := cell_of_blk (i := 1) BX6.out rfl
      have x2 := cell_of_blk (i := 2) BX6.out rfl
      have x3 := cell_of_blk (i := 3) BX6.out rfl
      have x4 := cell_of_blk (i := 4) BX6.out rfl
      have x5 := cell_of_blk (i := 5) BX6.out rfl
      have x6 := cell_of_blk (i := 6) BX6.out rfl
      have x7 := cell_of_blk (i := 7) BX6.out rfl
      have x8 := cell_of_blk (i := 8) BX6.out rfl
      have x9 := cell_of_blk (i := 9) BX6.out rfl
      have x10 := cell_of_blk (i := 10) BX6.out rfl
      have x11 := cell_of_blk (i := 11) BX6.out rfl
      have l6 := blk_lt BX6.out
      go_wp2_with fail
      refine HAct.out.mono ?_
      rintro e w7 ⟨⟨b7, rfl⟩, _, _, f7, fp7, fr7, k1, k2, k3, k4, k5⟩
      have hB7 : Below w3.heap.size w3 w7 := HB6.out.trans (f7.to_below (by omega) fun b hb => (HBo.out b hb).1)
      have HO7 := Lib.hid (f7.own HO6.out fun g hg hm => by have := own_base HO6.out hg; have := (HBo.out g hm).2; simp at *; omega)
      have HW7 := Lib.hid (f7.own HW6.out fun g hg hm => by have := own_base HW6.out hg; have := (HBo.out g hm).2; omega)
      have hs7 := f7.size
      have hTwo7 : Two w3.heap.size w3 w7 tb w4.heap.size T' := ⟨fp7, fr7, k1, k2, k5, hB7⟩
      have HFd7 := Lib.hid (tfields_any k1 (small_room (n := T'.F.length) (by omega)).2)
      have HK1 := Lib.hid k1
      have HTw7 := Lib.hid hTwo7
      clear f7 k1 k2 k3 k4 k5 hTwo7 hB7 x0 x1 x2 x3 x4 x5 x6 x7 x8 x9 x10 x11 l6 BX6 HO6 HW6
      go_wp2_with fail
      refine HFd7.out.mono ?_
      rintro e w8 ⟨vN, rfl, hoN, hb8⟩
      obtain ⟨AN, cN, rfl, _, _, _, _⟩ := own_reads hoN
      have hN7 : w3.heap.size ≤ w7.heap.size := by omega
      have HTw8 := Lib.hid (HTw7.out.below hN7 hb8)
      have HO8 := Lib.hid (below_own hb8 HO7.out)
      have HW8 := Lib.hid (below_own hb8 HW7.out)
      have HN8 := Lib.hid hoN
      have h18 := HK1.out.kept (Fr.of_below hb8 []) (by simp)
      have HSt8 := Lib.hid (tstamps_any h18 (small_room (n := T'.S.length) (by omega)).1)
      have HK8 := Lib.hid h18
      have hs8 := hb8.size
      clear hb8 hoN h18
      go_wp2_with fail
      refine HSt8.out.mono ?_
      rintro e w9 ⟨vI, rfl, hoI, hb9⟩
      obtain ⟨AI, cI, rfl, _, _, _, _⟩ := own_reads hoI
      have hN8 : w3.heap.size ≤ w8.heap.size := by omega
      have HTw9 := Lib.hid (HTw8.out.below hN8 hb9)
      have HO9 := Lib.hid (below_own hb9 HO8.out)
      have HW9 := Lib.hid (below_own hb9 HW8.out)
      have HN9 := Lib.hid (below_own hb9 HN8.out)
      have HI9 := Lib.hid hoI
      have HGet := Lib.hid (fun (W : World) (hW : Below w9.heap.size w9 W) (k : VV) (kk : VOk k) => tget_is ((HK8.out.kept (Fr.of_below hb9 []) (by simp)).kept (Fr.of_below hW []) (by simp)) HOK'.out kk)
      have hs9 := hb9.size
      have hN9 : w3.heap.size ≤ w9.heap.size := by omega
      have hcF : ¬ (T'.F.length : Int) < (T.F.length : Int) := by omega
      have hcS : ¬ (T'.S.length : Int) < (T.S.length : Int) := by omega
      have hdF : decide (T'.F.length < T.F.length) = false := decide_eq_false (by omega)
      have hdS : decide (T'.S.length < T.S.length) = false := decide_eq_false (by omega)
      have hnF : ¬ T'.F.length < T.F.length := by omega
      have hnS : ¬ T'.S.length < T.S.length := by omega
      clear hb9 hoI
      go_wp2_with fail
      go_loopw [62] (fun i wr => ∃ j : Nat, j ≤ T.F.length ∧ i = .int .i64 j ∧ ∃ n, wr = w9.drewN n) (fun i wr => T.F.length - (intOf i).toNat)
      case atStart => exact ⟨0, by omega, rfl, 0, rfl⟩
      case round =>
        obtain ⟨j, hj, rfl, n, rfl⟩ := hrel
        by_cases hlj : j < T.F.length
        · obtain ⟨f, hf⟩ : ∃ f, T.F[j]? = some f := ⟨_, List.getElem?_eq_getElem hlj⟩
          obtain ⟨g, hg, hgf⟩ := HMF.out j f hf
          obtain ⟨ae, ce, hv, _, hae, hcelle⟩ := own_elem HO9.out fdEnc_len (by omega) hf
          obtain ⟨rfl, rfl⟩ : AO = some ae ∧ cO = ce := by simpa using hv
          obtain ⟨ag, cg, hvg, _, hag, hcellg⟩ := own_elem HN9.out fdEnc_len (by omega) hg
          obtain ⟨rfl, rfl⟩ : AN = some ag ∧ cN = cg := by simpa using hvg
          obtain ⟨y0, y1, y2, y3, _, _, _, _⟩ := fd_at hcelle hf
          obtain ⟨z0, z1, z2, z3, _, _, _, _⟩ := fd_at hcellg hg
          rw [hgf] at z0 z1 z2 z3
          have heq := fun W => val_eq f.1 f.1 W
          rw [eqV_self] at heq
          unfold vvCells at heq
          have hj' : (j : Int) < (T.F.length : Int) := by omega
          have hj2 : (j : Int) < (T'.F.length : Int) := by omega
          have hj0 : (0 : Int) ≤ j := by omega
          clear hf hg hv hvg hcelle hcellg hgf
          go_wp2_with fail
          go_quiet (fail)
          go_wp2_with fail
          go_roundw
          case rel => exact ⟨j + 1, by omega, by go_num, _, rfl⟩
          case measure => simp [intOf]; omega
        · obtain rfl : j = T.F.length := by omega
          go_wp2_with fail
          go_loopw [79] (fun i wr => ∃ j : Nat, j ≤ T.S.length ∧ i = .int .i64 j ∧ ∃ n, wr = w9.drewN n) (fun i wr => T.S.length - (intOf i).toNat)
          case atStart => exact ⟨0, by omega, rfl, _, rfl⟩
          case round =>
            obtain ⟨j, hj, rfl, n2, rfl⟩ := hrel
            by_cases hlj : j < T.S.length
            · obtain ⟨s, hs⟩ : ∃ s, T.S[j]? = some s := ⟨_, List.getElem?_eq_getElem hlj⟩
              obtain ⟨t, ht, hts, hsub⟩ := HMS.out j s hs
              obtain ⟨ae, ce, hv, _, hae, hcelle⟩ := own_elem HW9.out stEnc_len (by omega) hs
              obtain ⟨rfl, rfl⟩ : AW = some ae ∧ cW = ce := by simpa using hv
              obtain ⟨ag, cg, hvg, _, hag, hcellg⟩ := own_elem HI9.out stEnc_len (by omega) ht
              obtain ⟨rfl, rfl⟩ : AI = some ag ∧ cI = cg := by simpa using hvg
              obtain ⟨y0, y1⟩ := st_at hcelle hs
              obtain ⟨z0, z1⟩ := st_at hcellg ht
              rw [hts] at z0
              have hz := subB_zero hsub
              have hj' : (j : Int) < (T.S.length : Int) := by omega
              have hj2 : (j : Int) < (T'.S.length : Int) := by omega
              have hj0 : (0 : Int) ≤ j := by omega
              clear hs ht hv hvg hcelle hcellg hts hsub
              go_wp2_with fail
              go_quiet (fail)
              go_wp2_with fail
              go_roundw
              case rel => exact ⟨j + 1, by omega, by go_num, _, rfl⟩
              case measure => simp [intOf]; omega
            · obtain rfl : j = T.S.length := by omega
              go_wp2_with fail
              go_loopw [110] (fun i wr => ∃ j : Nat, j ≤ T'.S.length ∧ i = .int .i64 j ∧ Below w9.heap.size w9 wr) (fun i wr => T'.S.length - (intOf i).toNat)
              case atStart => exact ⟨0, by omega, rfl, below_drewN (Below.refl _ _) _⟩
              case round =>
                obtain ⟨j, hj, rfl, hB⟩ := hrel
                have HBj := Lib.hid hB
                by_cases hlj : j < T'.S.length
                · obtain ⟨s, hs⟩ : ∃ s, T'.S[j]? = some s := ⟨_, List.getElem?_eq_getElem hlj⟩
                  obtain ⟨ae, ce, hv, _, hae, hcelle⟩ := own_elem (below_own hB HI9.out) stEnc_len (by omega) hs
                  obtain ⟨rfl, rfl⟩ : AI = some ae ∧ cI = ce := by simpa using hv
                  obtain ⟨y0, y1⟩ := st_at hcelle hs
                  have hsm := List.mem_of_getElem? hs
                  obtain ⟨n3, hn3, hkd, hbit⟩ := stamp_kind HOK'.out hsm (joinL [0, T'.l])
                  have hsj := hB.size
                  have hbS := hB.alloc hsj (.cells #[.string s.1, .int .i64 s.2] 61)
                  have hgt := HGet.out _ hbS ⟨3, 0, s.1, 0⟩ ⟨i64_3, i64_0, (HOK'.out.sOk s hsm).1, by show (0 : Nat) < _; decide⟩
                  change Calls Try.prog _ _ _ (RetB (.agg (vvCells (withV (getV T'.F ⟨3, 0, s.1, 0⟩) (joinL [0, T'.l])))) _) at hgt
                  generalize withV (getV T'.F ⟨3, 0, s.1, 0⟩) (joinL [0, T'.l]) = V at hgt hkd
                  obtain ⟨vk, vn, vs, vl⟩ := V
                  obtain rfl : vk = (n3 : Int) := hkd
                  unfold vvCells at hgt
                  have HGt := Lib.hid hgt
                  have HbS := Lib.hid hbS
                  have BS := Lib.hid (heap_alloc_new wr (.cells #[.string s.1, .int .i64 s.2] 61))
                  have hlae : (ae.add (j * 2)).block < wr.heap.size := by rw [block_add']; exact hae
                  have hj' : (j : Int) < (T'.S.length : Int) := by omega
                  have hj0 : (0 : Int) ≤ j := by omega
                  have hn3' : (n3 : Int) ≤ 62 := by omega
                  have hn64 : (n3 : Int) < 64 := by omega
                  clear hs hv hcelle hsm hbS hgt hB
                  go_wp2_with fail
                  refine HGt.out.mono ?_
                  rintro e w12 ⟨rfl, hb12⟩
                  have HB12 := Lib.hid (HbS.out.trans (hb12.mono HbS.out.size))
                  have bs := below_blk hb12 BS.out
                  have q1 := cell_of_blk (i := 1) bs rfl
                  have lq := blk_lt bs
                  have HBe := Lib.hid (HB12.out.alloc HB12.out.size (.cells #[.int .i64 n3, .int .i64 vn, .string vs, .int .u64 (vl : Int)] 25))
                  clear hb12 bs
                  go_wp2_with fail
                  go_roundw
                  case rel => exact ⟨j + 1, by omega, by go_num, HBe.out⟩
                  case measure => simp [intOf]; omega
                · obtain rfl : j = T'.S.length := by omega
                  have HTwF := Lib.hid (HTw9.out.below hN9 HBj.out)
                  go_wp2_with fail
                  go_roundw
                  case rel => exact ⟨k + 1, T', by omega, by go_num, HGn, HTwF⟩
                  case measure => simp [intOf]; omega
    · have HBr := Lib.hid HTwo.out.before
      go_wp2_with fail
      go_ret
      exact ⟨rfl, HB3.out.trans (HBr.out.mono hN0)⟩
set_option maxRecDepth 100000 in
theorem tmono_lifted (os : Os) (started : os.Started) (H : Type) (enc : TypeId × Value → H) :
    ReturnsInHanded {} Try.checked os 9 .any (Rows.tableMonotoneSpec.pre6 enc Try.prog Try.f9 Rows.tableMonotoneRow.domain false) (Rows.tableMonotoneSpec.post enc Try.prog Try.f9 false true false false) := by
  refine returnsInHanded_of_change_sized (C := Try.checked) own started (by kernel_rfl) Try.func9
    (ChangeSpec.witness6 (enc := enc) (C := Try.checked) false ⟨#[], #[.int .u64 0, .slice none 0 0], []⟩ 8 (by kernel_rfl) (by kernel_rfl) (by kernel_rfl) (by kernel_rfl)) ?_
  intro W base args ds gs before hval0 hW hcnd hsz0 _
  have hval : ∀ (j : Nat) t v, Try.f9.params[j]? = some t → args[j]? = some v → Value.okWide Try.prog W .any base t v := hval0
  have hsz : (DataW.weightsEach Try.prog (Try.f9.params.toList ++ Rows.tableMonotoneSpec.plain.varTypes Try.prog) (ds ++ gs)).all (· ≤ reachBytes) = true := hsz0
  have hW' := hW
  obtain ⟨p, q, hA0, hV, rfl, hfz, hnd⟩ := hW
  have hA : DataW.TrodAll enc Try.prog W 0 (fun _ => true) true Try.f9.params.toList args.toList ds p := hA0
  rw [Try.params9] at hA hval hsz
  obtain ⟨v0, vs0, d0, ds0, p0, q0, hargs0, rfl, rfl, h0, r0⟩ := trodAll_cons hA
  obtain ⟨v1, vs1, d1, ds1, p1, q1, rfl, rfl, rfl, h1, r1⟩ := trodAll_cons r0
  obtain ⟨rfl, rfl, rfl⟩ := trodAll_nil r1
  obtain rfl : args = #[v0, v1] := by cases args; simp_all
  obtain ⟨rfl, rfl⟩ := trodVars_none hV
  obtain ⟨own, rfl, w0⟩ := open_nat Try.underlying23 (hval 0 23 v0 rfl rfl) h0
  obtain ⟨l, rfl, w1⟩ := open_sl Try.underlying40 (hval 1 40 v1 rfl rfl) h1 (decSlice Try.underlying40 (K := 12) (by kernel_rfl) (by omega) (fun _ => rfl) decTAct)
  refine (tmono_walk own l.xs l.A l.cap W w0 w1.reads (tas_fit w1 (sized_arg hsz (j := 1) rfl rfl)).1 (tas_fit w1 (sized_arg hsz (j := 1) rfl rfl)).2).mono fun e W' ⟨he, hb⟩ => ⟨_, he, ?_⟩
  exact law_post laidOut hW' rfl rfl Try.underlying4 (by kernel_rfl) rfl rfl rfl hb

theorem tmono_holds : Rows.TableMonotoneSaid :=
  OpenClaim.holds_of_wide 9 Try.f9 rfl rfl rfl rfl rfl rfl rfl ⟨rfl, rfl, rfl, rfl, rfl⟩ rfl rfl rfl rfl rfl (by kernel_rfl) Try.func9 (by kernel_rfl)
    (of_decide_eq_true (by kernel_rfl)) (by unfold Func.isWrapper; first | (rw [if_pos (by decide +kernel)]; kernel_rfl) | (rw [if_neg (by decide +kernel)]; exact ⟨rfl, rfl⟩))
    (fun os started H enc _ => tmono_lifted os started H enc)
#print axioms tmono_holds
end Go.Proofs.Ythhphjfbdoffhaa
