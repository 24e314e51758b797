/-
  TableReads: the walk, and the given statement.
-/
import Derived.Test.YthhphjfbdoffhaaTabLaw
import Derived.Deep.RegionHeld3
set_option linter.unusedVariables false
set_option linter.unusedSimpArgs false
namespace Go.Proofs.Ythhphjfbdoffhaa
open Go.ChangeShapes Go.WideShapes Go.ChangeAt Go.RowKit Go.Maps

theorem eqV_self (G : VV) : eqV G G = true := by simp [eqV]
set_option maxRecDepth 100000 in
set_option maxHeartbeats 16000000 in
theorem treads_walk (own : Nat) (xs : List TAct) (A : Option Addr) (c : Nat) (ks : List TAct) (C : Option Addr) (d : Nat) (w : World) (hown : own < 18446744073709551616) (hr : Reads w w.heap.size A (xs.flatMap taEnc)) (hfit : ∀ x ∈ xs, TaFit w w.heap.size x) (hlen : xs.length * 128 ≤ 140737488351232) (hkr : Reads w w.heap.size C (ks.flatMap taEnc)) (hkfit : ∀ x ∈ ks, TaFit w w.heap.size x) (hklen : ks.length * 128 ≤ 140737488351232) :
    Calls Try.prog 12 #[.int .u64 (own : Int), .slice A xs.length c, .slice C ks.length d] w (RetB (.bool true) w) := by
  have hnl : xs.length ≤ 9223372036854775807 := Nat.le_trans (Nat.le_mul_of_pos_right _ (by decide)) (Nat.le_trans hlen (by decide))
  have HR := Lib.hid hr
  have HFit := Lib.hid hfit
  have HAW := Lib.hid (fun W => awake04 W)
  have hnk : ks.length ≤ 9223372036854775807 := Nat.le_trans (Nat.le_mul_of_pos_right _ (by decide)) (Nat.le_trans hklen (by decide))
  have HKR := Lib.hid hkr
  have HKF := Lib.hid hkfit
  clear hkr hkfit hklen
  clear hr hfit hlen
  go_enter Try.func12, Try.ntmps12
  go_wp2_with fail
  refine (HAW.out _).mono ?_
  rintro e w1 ⟨rfl, hb1⟩
  have HB1 := Lib.hid hb1
  clear hb1
  go_wp2_with fail
  refine (tfew_any xs A c w1 ((HR.out.below HB1.out).mono' HB1.out.size) hnl (fun x hx => (HFit.out x hx).len) (fun x hx => ⟨(HFit.out x hx).key.s, (HFit.out x hx).val.s⟩)).mono ?_
  rintro e w2 ⟨b2, rfl, hb2, ht2⟩
  have HB2 := Lib.hid (HB1.out.trans (hb2.mono HB1.out.size))
  clear hb2 HB1
  cases b2
  · go_wp2_with fail
    go_ret
    exact ⟨rfl, HB2.out⟩
  have HT2 := Lib.hid (ht2 rfl)
  clear ht2
  go_wp2_with fail
  refine (tfew_any ks C d w2 ((HKR.out.below HB2.out).mono' HB2.out.size) hnk (fun x hx => (HKF.out x hx).len) (fun x hx => ⟨(HKF.out x hx).key.s, (HKF.out x hx).val.s⟩)).mono ?_
  rintro e w3 ⟨b3, rfl, hb3, ht3⟩
  have HB3 := Lib.hid (HB2.out.trans (hb3.mono HB2.out.size))
  clear hb3 HB2
  cases b3
  · go_wp2_with fail
    go_ret
    exact ⟨rfl, HB3.out⟩
  have HT3 := Lib.hid (ht3 rfl)
  clear ht3
  go_wp2_with fail
  refine (tnew_any own w3).mono ?_
  rintro e w4 ⟨tb, fp0, rfl, hT4, hb4⟩
  have H4 := Lib.hid (Two.start hT4 hb4)
  have hN0 : w.heap.size ≤ w3.heap.size := HB3.out.size
  clear hb4 hT4
  go_wp2_with fail
  go_loopw [36] (fun i wr => ∃ (k : Nat) (T : TabS), k ≤ xs.length ∧ i = .int .i64 k ∧ Hid (Good own (totT (xs.take k)) T) ∧ Hid (Two w3.heap.size w3 wr tb w4.heap.size T)) (fun i wr => xs.length - (intOf i).toNat)
  case atStart => exact ⟨0, ⟨own, [], []⟩, by omega, rfl, Lib.hid ⟨tabOk_new hown, rfl, by simp, by simp⟩, H4⟩
  case round =>
    obtain ⟨k, T, hk, rfl, HG, HTwo⟩ := hrel
    by_cases hlt : k < xs.length
    · obtain ⟨x, hx⟩ : ∃ x, xs[k]? = some x := ⟨_, List.getElem?_eq_getElem hlt⟩
      have hxm := List.mem_of_getElem? hx
      have hr3 := (HR.out.below HB3.out).mono' HB3.out.size
      obtain ⟨ad, rfl, hadb, hcell⟩ := (hr3.below HTwo.out.before).at (flatMap_ne (K := 12) taEnc_len (by omega) hx)
      have x0 := elem_zero taEnc_len hcell hx (by omega) (v := .int .i64 x.act) rfl
      have x1 := elem_at taEnc_len hcell hx 1 (by omega) (by omega) (v := .int .u64 (x.ctx : Int)) rfl
      have x2 := elem_at taEnc_len hcell hx 2 (by omega) (by omega) (v := .int .i64 x.key.kind) rfl
      have x3 := elem_at taEnc_len hcell hx 3 (by omega) (by omega) (v := .int .i64 x.key.n) rfl
      have x4 := elem_at taEnc_len hcell hx 4 (by omega) (by omega) (v := .string x.key.s) rfl
      have x5 := elem_at taEnc_len hcell hx 5 (by omega) (by omega) (v := .int .u64 (x.key.label : Int)) rfl
      have x6 := elem_at taEnc_len hcell hx 6 (by omega) (by omega) (v := .int .i64 x.val.kind) rfl
      have x7 := elem_at taEnc_len hcell hx 7 (by omega) (by omega) (v := .int .i64 x.val.n) rfl
      have x8 := elem_at taEnc_len hcell hx 8 (by omega) (by omega) (v := .string x.val.s) rfl
      have x9 := elem_at taEnc_len hcell hx 9 (by omega) (by omega) (v := .int .u64 (x.val.label : Int)) rfl
      have x10 := elem_at taEnc_len hcell hx 10 (by omega) (by omega) (v := .int .i64 x.n) rfl
      have x11 := elem_at taEnc_len hcell hx 11 (by omega) (by omega) (v := .slice x.s.A x.s.xs.length x.s.cap) rfl
      have hsz := HTwo.out.size
      have hk' : (k : Int) < (xs.length : Int) := by omega
      have hk0 : (0 : Int) ≤ k := by omega
      have hll : (ad.add (k * 12)).block < wr.heap.size := by rw [block_add']; omega
      have hfx := ((HFit.out x hxm).below HB3.out).up HB3.out.size
      have hle := Nat.le_trans (totT_take_le xs k) HT2.out
      have hxl := Nat.le_trans (totT_mem hxm) HT2.out
      have hact := act_two (HTwo.out.below hsz ((Below.refl _ _).alloc (Nat.le_refl _) (.cells #[.int .i64 x.act, .int .u64 (x.ctx : Int), .int .i64 x.key.kind, .int .i64 x.key.n, .string x.key.s, .int .u64 (x.key.label : Int), .int .i64 x.val.kind, .int .i64 x.val.n, .string x.val.s, .int .u64 (x.val.label : Int), .int .i64 x.n, .slice x.s.A x.s.xs.length x.s.cap] 43))) (Nat.le_refl _) HG.out.ok x hfx (by have := HG.out.F; omega) (by have := HG.out.S; omega) (by omega)
      have hg := HG.out.step hfx
      rw [← totT_snoc hx] at hg
      have HGn := Lib.hid hg
      have HAct := Lib.hid hact
      clear hx hcell hact hg hr3 hxm
      go_wp2_with fail
      refine HAct.out.mono ?_
      rintro e w6 ⟨⟨b, rfl⟩, h6⟩
      have H6 := Lib.hid h6
      clear h6
      go_wp2_with fail
      go_roundw
      case rel => exact ⟨k + 1, _, by omega, by go_num, HGn, H6⟩
      case measure => simp [intOf]; omega
    · obtain rfl : k = xs.length := by omega
      have hG := HG.out
      rw [List.take_length] at hG
      have hT2 := HT2.out
      have HOK := Lib.hid hG.ok
      have hTF : T.F.length ≤ 2000 := Nat.le_trans hG.F hT2
      have hTS : T.S.length ≤ 2000 := Nat.le_trans hG.S hT2
      have hbr := HTwo.out.before
      have hsz := hbr.size
      have HBr := Lib.hid hbr
      obtain ⟨fp, fr, h1, h2, h3, h4⟩ := HTwo.out
      obtain ⟨r80, r24⟩ := small_room2 (a := T.F.length) (b := T.S.length) (by omega) (by omega)
      obtain ⟨_, r80b⟩ := small_room (n := T.F.length) (by omega)
      have HTw := Lib.hid (rtwin_any h2 r80)
      have H1 := Lib.hid h1
      clear h1 h2 h3 h4 r80 r24 hG hbr hT2
      go_wp2_with fail
      refine HTw.out.mono ?_
      rintro e w7 ⟨rb', fp6, rfl, hR7, hb7⟩
      have h17 := H1.out.kept (Fr.of_below hb7 []) (by simp)
      have hN7 : w3.heap.size ≤ w7.heap.size := Nat.le_trans hsz hb7.size
      have HB7 := Lib.hid (HBr.out.trans (hb7.mono hsz))
      have HGet := Lib.hid (fun (W : World) (hW : Below w7.heap.size w7 W) (k : VV) (kk : VOk k) => tget_is (h17.kept (Fr.of_below hW []) (by simp)) HOK.out kk)
      have HKey := Lib.hid (fun (W : World) (hW : Below w7.heap.size w7 W) (n : Int) (hn : I64 n) => tkey_any (h17.kept (Fr.of_below hW []) (by simp)) n hn)
      have HFds := Lib.hid (fun (W : World) (hW : Below w7.heap.size w7 W) => tfields_any (h17.kept (Fr.of_below hW []) (by simp)) r80b)
      have HAlk := Lib.hid (fun (W : World) (hW : Below w7.heap.size w7 W) => alike_any (h17.kept (Fr.of_below hW []) (by simp)) (hR7.kept (Fr.of_below hW []) (by simp)) (by omega) (by omega))
      have HK7 := Lib.hid (fun (W : World) (hW : Below w7.heap.size w7 W) => ((HKR.out.below HB3.out).mono' HB3.out.size).below (HB7.out.trans (hW.mono hN7)))
      clear hb7 hR7 h17 r80b HTw
      go_wp2_with fail
      go_loopw [49] (fun i wr => ∃ k : Nat, k ≤ ks.length ∧ i = .int .i64 k ∧ Below w7.heap.size w7 wr) (fun i wr => ks.length - (intOf i).toNat)
      case atStart => exact ⟨0, by omega, rfl, Below.refl _ _⟩
      case round =>
        obtain ⟨k, hk, rfl, hB⟩ := hrel
        by_cases hlt : k < ks.length
        · obtain ⟨x, hx⟩ : ∃ x, ks[k]? = some x := ⟨_, List.getElem?_eq_getElem hlt⟩
          obtain ⟨ad, rfl, hadb, hcell⟩ := (HK7.out _ hB).at (flatMap_ne (K := 12) taEnc_len (by omega) hx)
          have x0 := elem_zero taEnc_len hcell hx (by omega) (v := .int .i64 x.act) rfl
          have x1 := elem_at taEnc_len hcell hx 1 (by omega) (by omega) (v := .int .u64 (x.ctx : Int)) rfl
          have x2 := elem_at taEnc_len hcell hx 2 (by omega) (by omega) (v := .int .i64 x.key.kind) rfl
          have x3 := elem_at taEnc_len hcell hx 3 (by omega) (by omega) (v := .int .i64 x.key.n) rfl
          have x4 := elem_at taEnc_len hcell hx 4 (by omega) (by omega) (v := .string x.key.s) rfl
          have x5 := elem_at taEnc_len hcell hx 5 (by omega) (by omega) (v := .int .u64 (x.key.label : Int)) rfl
          have x6 := elem_at taEnc_len hcell hx 6 (by omega) (by omega) (v := .int .i64 x.val.kind) rfl
          have x7 := elem_at taEnc_len hcell hx 7 (by omega) (by omega) (v := .int .i64 x.val.n) rfl
          have x8 := elem_at taEnc_len hcell hx 8 (by omega) (by omega) (v := .string x.val.s) rfl
          have x9 := elem_at taEnc_len hcell hx 9 (by omega) (by omega) (v := .int .u64 (x.val.label : Int)) rfl
          have x10 := elem_at taEnc_len hcell hx 10 (by omega) (by omega) (v := .int .i64 x.n) rfl
          have x11 := elem_at taEnc_len hcell hx 11 (by omega) (by omega) (v := .slice x.s.A x.s.xs.length x.s.cap) rfl
          have hfx := HKF.out x (List.mem_of_getElem? hx)
          have hsz7 := hB.size
          have hk' : (k : Int) < (ks.length : Int) := by omega
          have hk0 : (0 : Int) ≤ k := by omega
          have hll : (ad.add (k * 12)).block < wr.heap.size := by rw [block_add']; omega
          obtain ⟨wo, hwo⟩ : ∃ z, z = wr := ⟨_, rfl⟩
          subst hwo
          have hbA := hB.alloc hsz7 (.cells #[.int .i64 x.act, .int .u64 (x.ctx : Int), .int .i64 x.key.kind, .int .i64 x.key.n, .string x.key.s, .int .u64 (x.key.label : Int), .int .i64 x.val.kind, .int .i64 x.val.n, .string x.val.s, .int .u64 (x.val.label : Int), .int .i64 x.n, .slice x.s.A x.s.xs.length x.s.cap] 43)
          have hgx := fun (W : World) (hW : Below w7.heap.size w7 W) => HGet.out W hW x.key hfx.key
          generalize withV (getV T.F x.key) (joinL [x.key.label, T.l]) = G at hgx
          have heq := fun W => val_eq G G W
          rw [eqV_self] at heq
          have hgk := fun (W : World) (hW : Below w7.heap.size w7 W) => HKey.out W hW x.n hfx.n
          unfold vvCells at hgx heq
          have HGX := Lib.hid hgx
          have HGK := Lib.hid hgk
          have HbA := Lib.hid hbA
          have BXA := Lib.hid (heap_alloc_new wo (.cells #[.int .i64 x.act, .int .u64 (x.ctx : Int), .int .i64 x.key.kind, .int .i64 x.key.n, .string x.key.s, .int .u64 (x.key.label : Int), .int .i64 x.val.kind, .int .i64 x.val.n, .string x.val.s, .int .u64 (x.val.label : Int), .int .i64 x.n, .slice x.s.A x.s.xs.length x.s.cap] 43))
          clear hx hcell hfx hgx hgk hbA hB
          go_wp2_with fail
          refine (HGX.out _ HbA.out).mono ?_
          rintro e w8 ⟨rfl, hb8⟩
          have HB8 := Lib.hid (HbA.out.trans (hb8.mono HbA.out.size))
          have BX8 := Lib.hid (below_blk hb8 BXA.out)
          have VX8 := Lib.hid (heap_alloc_new w8 (.cells #[.int .i64 G.kind, .int .i64 G.n, .string G.s, .int .u64 (G.label : Int)] 25))
          have hbV := HB8.out.alloc HB8.out.size (.cells #[.int .i64 G.kind, .int .i64 G.n, .string G.s, .int .u64 (G.label : Int)] 25)
          have HBV := Lib.hid hbV
          have y10 := cell_of_blk (i := 10) BX8.out rfl
          have l8 := blk_lt BX8.out
          clear hb8 hbV x0 x1 x2 x3 x4 x5 x6 x7 x8 x9 x10 x11
          go_wp2_with fail
          refine (HGK.out _ HBV.out).mono ?_
          rintro e w9 ⟨⟨kk1, kb1, rfl⟩, hb9⟩
          have HB9 := Lib.hid (HBV.out.trans (hb9.mono HBV.out.size))
          have BX9 := Lib.hid (below_blk hb9 (blk_alloc BX8.out _))
          have VX9 := Lib.hid (below_blk hb9 VX8.out)
          clear hb9 y10 l8 BX8 VX8 HBV HB8
          go_wp2_with fail
          refine (HFds.out _ HB9.out).mono ?_
          rintro e w10 ⟨v10, rfl, ho10, hb10⟩
          obtain ⟨AF, cF, rfl, _, _, _, _⟩ := own_reads ho10
          have HB10 := Lib.hid (HB9.out.trans (hb10.mono HB9.out.size))
          have BX10 := Lib.hid (below_blk hb10 BX9.out)
          have VX10 := Lib.hid (below_blk hb10 VX9.out)
          have O10 := Lib.hid ho10
          clear hb10 ho10 BX9 VX9 HB9
          go_wp2_with fail
          go_loopw [64] (fun i wr => ∃ j : Nat, j ≤ T.F.length ∧ i = .int .i64 j ∧ Below w10.heap.size w10 wr) (fun i wr => T.F.length - (intOf i).toNat)
          case atStart => exact ⟨0, by omega, rfl, Below.refl _ _⟩
          case round =>
            obtain ⟨j, hj, rfl, hB⟩ := hrel
            have HBj := Lib.hid (HB10.out.trans (hB.mono HB10.out.size))
            by_cases hlj : j < T.F.length
            · obtain ⟨f, hf⟩ : ∃ f, T.F[j]? = some f := ⟨_, List.getElem?_eq_getElem hlj⟩
              obtain ⟨af, cf', hv, _, hal, hcf⟩ := own_elem (below_own hB O10.out) fdEnc_len (by omega) hf
              obtain ⟨rfl, rfl⟩ : AF = some af ∧ cF = cf' := by simpa using hv
              obtain ⟨f0, f1, f2, f3, f4, f5, f6, f7⟩ := fd_at hcf hf
              have hj' : (j : Int) < (T.F.length : Int) := by omega
              have hj0 : (0 : Int) ≤ j := by omega
              have hlf : (af.add (j * 8)).block < wr.heap.size := by rw [block_add']; exact hal
              have hsj := hB.size
              have hbF := HBj.out.alloc HBj.out.size (.cells #[.int .i64 f.1.kind, .int .i64 f.1.n, .string f.1.s, .int .u64 (f.1.label : Int), .int .i64 f.2.kind, .int .i64 f.2.n, .string f.2.s, .int .u64 (f.2.label : Int)] 59)
              have hgf := HGet.out _ hbF f.1 (HOK.out.kOk f (List.mem_of_getElem? hf))
              generalize withV (getV T.F f.1) (joinL [f.1.label, T.l]) = GF at hgf
              unfold vvCells at hgf
              have HGF := Lib.hid hgf
              have HBjB := Lib.hid (hB.alloc hsj (.cells #[.int .i64 f.1.kind, .int .i64 f.1.n, .string f.1.s, .int .u64 (f.1.label : Int), .int .i64 f.2.kind, .int .i64 f.2.n, .string f.2.s, .int .u64 (f.2.label : Int)] 59))
              clear hf hv hcf hbF hgf hB
              go_wp2_with fail
              refine HGF.out.mono ?_
              rintro e w11 ⟨rfl, hb11⟩
              have HB11 := Lib.hid (HBjB.out.trans (hb11.mono HBjB.out.size))
              clear hb11
              go_wp2_with fail
              go_roundw
              case rel => exact ⟨j + 1, by omega, by go_num, HB11.out⟩
              case measure => simp [intOf]; omega
            · obtain rfl : j = T.F.length := by omega
              have BXW := Lib.hid (below_blk hB BX10.out)
              have VXW := Lib.hid (below_blk hB VX10.out)
              have lw := blk_lt BXW.out
              have lv := blk_lt VXW.out
              clear hB
              go_wp2_with fail
              refine wp_region_noPanic ?_
              refine wp_region_held_drew (S := fun w' => w'.heap[wo.heap.size]? = some (.cells #[.int .i64 x.act, .int .u64 (x.ctx : Int), .int .i64 x.key.kind, .int .i64 x.key.n, .string x.key.s, .int .u64 (x.key.label : Int), .int .i64 x.val.kind, .int .i64 x.val.n, .string x.val.s, .int .u64 (x.val.label : Int), .int .i64 x.n, .slice x.s.A x.s.xs.length x.s.cap] 43 (0, 0)) ∧ w'.heap[w8.heap.size]? = some (.cells #[.int .i64 G.kind, .int .i64 G.n, .string G.s, .int .u64 (G.label : Int)] 25 (0, 0))) (by kernel_rfl) (⟨BXW.out, VXW.out⟩) (fun hHeld => ?_)
              refine wpAnyH_take (i := 0) (oi := _) (v := .pointer (some ⟨tb, 0, none⟩)) rfl (by kernel_rfl) (by kernel_rfl) (by kernel_rfl) (fun _ _ _ h => h) (Or.inl ⟨by rfl, fun w' hS => (by go_simp)⟩) hHeld ?_
              change wpAnyH _ _ _ _ _ _ _ (Act.put _ (some 73) _) _
              try simp only [Act.put, List.setIfInBounds_toArray, List.set_cons_zero, List.set_cons_succ]
              refine wpAnyH_take (i := 1) (oi := _) (v := .pointer (some ⟨wo.heap.size, 2, none⟩)) rfl (by kernel_rfl) (by kernel_rfl) (by kernel_rfl) (fun _ _ _ h => h) (Or.inl ⟨by rfl, fun w' hS => (by go_simp)⟩) hHeld ?_
              change wpAnyH _ _ _ _ _ _ _ (Act.put _ (some 74) _) _
              try simp only [Act.put, List.setIfInBounds_toArray, List.set_cons_zero, List.set_cons_succ]
              refine wpAnyH_take (i := 2) (oi := _) (v := .agg #[.int .i64 x.key.kind, .int .i64 x.key.n, .string x.key.s, .int .u64 (x.key.label : Int)]) rfl (by kernel_rfl) (by kernel_rfl) (by kernel_rfl) (fun _ _ _ h => h) (Or.inl ⟨by rfl, fun w' hS => (by obtain ⟨s0, s1⟩ := hS; have q2 := cell_of_blk (i := 2) s0 rfl; have q3 := cell_of_blk (i := 3) s0 rfl; have q4 := cell_of_blk (i := 4) s0 rfl; have q5 := cell_of_blk (i := 5) s0 rfl; go_simp)⟩) hHeld ?_
              change wpAnyH _ _ _ _ _ _ _ (Act.put _ (some 75) _) _
              try simp only [Act.put, List.setIfInBounds_toArray, List.set_cons_zero, List.set_cons_succ]
              refine wpAnyH_take (i := 4) (oi := _) (v := .agg #[.int .i64 G.kind, .int .i64 G.n, .string G.s, .int .u64 (G.label : Int)]) rfl (by kernel_rfl) (by kernel_rfl) (by kernel_rfl) (fun _ _ _ h => h) (Or.inl ⟨by rfl, fun w' hS => (by obtain ⟨s0, s1⟩ := hS; have q0 := cell_of_blk (i := 0) s1 rfl; have q1 := cell_of_blk (i := 1) s1 rfl; have q2 := cell_of_blk (i := 2) s1 rfl; have q3 := cell_of_blk (i := 3) s1 rfl; go_simp)⟩) hHeld ?_
              change wpAnyH _ _ _ _ _ _ _ (Act.put _ (some 77) _) _
              try simp only [Act.put, List.setIfInBounds_toArray, List.set_cons_zero, List.set_cons_succ]
              refine wpAnyH_ready (rs := [3]) (by kernel_rfl) (by simp) ?_
              refine AllReadyH.cons (o := _) rfl (fun K hK => ?_) AllReadyH.nil
              go_simp
              refine (HGX.out _ (by first | exact HBj.out | exact HBj.out.drew)).mono ?_
              rintro e w12 ⟨rfl, hb12⟩
              have HB12 := Lib.hid (show Below wr.heap.size wr w12 from by first | exact hb12 | exact (show Below wr.heap.size wr _ from Below.trans (by repeat' (first | exact Below.refl _ _ | refine Below.drew ?_)) hb12))
              clear hb12
              refine hK.out _ _ ⟨below_blk HB12.out BXW.out, below_blk HB12.out VXW.out⟩ (fun hHeld => ?_)
              clear hK K
              try simp only [Act.put, List.setIfInBounds_toArray, List.set_cons_zero, List.set_cons_succ]
              refine wpAnyH_take (i := 5) (oi := _) (v := .bool false) rfl (by kernel_rfl) (by kernel_rfl) (by kernel_rfl) (fun _ _ _ h => h) (Or.inl ⟨by rfl, fun w' hS => (by go_simp)⟩) hHeld ?_
              change wpAnyH _ _ _ _ _ _ _ (Act.put _ (some 78) _) _
              try simp only [Act.put, List.setIfInBounds_toArray, List.set_cons_zero, List.set_cons_succ]
              refine wpAnyH_done (by kernel_rfl) ?_ _
              refine NoPanic.normal ?_
              go_wp2_with fail
              go_roundw
              case rel => exact ⟨k + 1, by omega, by go_num, HBj.out.trans (HB12.out.mono HBj.out.size)⟩
              case measure => simp [intOf]; omega
        · obtain rfl : k = ks.length := by omega
          have HBk := Lib.hid hB
          have hN8 : w3.heap.size ≤ wr.heap.size := Nat.le_trans hN7 hB.size
          clear hB
          go_wp2_with fail
          refine (HAlk.out _ HBk.out).mono ?_
          rintro e w9 ⟨rfl, hb9⟩
          have HB9 := Lib.hid (HB7.out.trans ((HBk.out.trans (hb9.mono HBk.out.size)).mono hN7))
          clear hb9
          go_wp2_with fail
          go_ret
          exact ⟨rfl, HB3.out.trans (HB9.out.mono hN0)⟩
set_option maxRecDepth 100000 in
theorem treads_lifted (os : Os) (started : os.Started) (H : Type) (enc : TypeId × Value → H) :
    ReturnsInHanded {} Try.checked os 12 .any (Rows.tableReadsSpec.pre6 enc Try.prog Try.f12 Rows.tableReadsRow.domain false) (Rows.tableReadsSpec.post enc Try.prog Try.f12 false true false false) := by
  refine returnsInHanded_of_change_sized (C := Try.checked) own started (by kernel_rfl) Try.func12
    (ChangeSpec.witness6 (enc := enc) (C := Try.checked) false ⟨#[], #[.int .u64 0, .slice none 0 0, .slice none 0 0], []⟩ 8 (by kernel_rfl) (by kernel_rfl) (by kernel_rfl) (by kernel_rfl)) ?_
  intro W base args ds gs before hval0 hW hcnd hsz0 _
  have hval : ∀ (j : Nat) t v, Try.f12.params[j]? = some t → args[j]? = some v → Value.okWide Try.prog W .any base t v := hval0
  have hsz : (DataW.weightsEach Try.prog (Try.f12.params.toList ++ Rows.tableReadsSpec.plain.varTypes Try.prog) (ds ++ gs)).all (· ≤ reachBytes) = true := hsz0
  have hW' := hW
  obtain ⟨p, q, hA0, hV, rfl, hfz, hnd⟩ := hW
  have hA : DataW.TrodAll enc Try.prog W 0 (fun _ => true) true Try.f12.params.toList args.toList ds p := hA0
  rw [Try.params12] at hA hval hsz
  obtain ⟨v0, vs0, d0, ds0, p0, q0, hargs0, rfl, rfl, h0, r0⟩ := trodAll_cons hA
  obtain ⟨v1, vs1, d1, ds1, p1, q1, rfl, rfl, rfl, h1, r1⟩ := trodAll_cons r0
  obtain ⟨v2, vs2, d2, ds2, p2, q2, rfl, rfl, rfl, h2, r2⟩ := trodAll_cons r1
  obtain ⟨rfl, rfl, rfl⟩ := trodAll_nil r2
  obtain rfl : args = #[v0, v1, v2] := by cases args; simp_all
  obtain ⟨rfl, rfl⟩ := trodVars_none hV
  obtain ⟨own, rfl, w0⟩ := open_nat Try.underlying23 (hval 0 23 v0 rfl rfl) h0
  obtain ⟨l, rfl, w1⟩ := open_sl Try.underlying40 (hval 1 40 v1 rfl rfl) h1 (decSlice Try.underlying40 (K := 12) (by kernel_rfl) (by omega) (fun _ => rfl) decTAct)
  obtain ⟨m, rfl, w2⟩ := open_sl Try.underlying40 (hval 2 40 v2 rfl rfl) h2 (decSlice Try.underlying40 (K := 12) (by kernel_rfl) (by omega) (fun _ => rfl) decTAct)
  refine (treads_walk own l.xs l.A l.cap m.xs m.A m.cap W w0 w1.reads (tas_fit w1 (sized_arg hsz (j := 1) rfl rfl)).1 (tas_fit w1 (sized_arg hsz (j := 1) rfl rfl)).2 w2.reads (tas_fit w2 (sized_arg hsz (j := 2) rfl rfl)).1 (tas_fit w2 (sized_arg hsz (j := 2) rfl rfl)).2).mono fun e W' ⟨he, hb⟩ => ⟨_, he, ?_⟩
  exact law_post laidOut hW' rfl rfl Try.underlying4 (by kernel_rfl) rfl rfl rfl hb

theorem treads_holds : Rows.TableReadsSaid :=
  OpenClaim.holds_of_wide 12 Try.f12 rfl rfl rfl rfl rfl rfl rfl ⟨rfl, rfl, rfl, rfl, rfl⟩ rfl rfl rfl rfl rfl (by kernel_rfl) Try.func12 (by kernel_rfl)
    (of_decide_eq_true (by kernel_rfl)) (by unfold Func.isWrapper; first | (rw [if_pos (by decide +kernel)]; kernel_rfl) | (rw [if_neg (by decide +kernel)]; exact ⟨rfl, rfl⟩))
    (fun os started H enc _ => treads_lifted os started H enc)
#print axioms treads_holds
end Go.Proofs.Ythhphjfbdoffhaa
