/-
  LexBack, LexSpans: the walks.
-/
import Derived.Test.YtmjkelmlbihkpaaDoorLexAwake
import Derived.Test.YtmjkelmlbihkpaaDoorLexPB
import Derived.ChangeAlike
set_option linter.unusedVariables false
set_option linter.unusedSimpArgs false
namespace Go.Proofs.YtmjkelmlbihkpaaDoor
open Go.ChangeShapes Go.WideShapes Go.ChangeAt Go.RowKit

theorem tk_eq (a b c d : Int) (x : ByteArray) (w : World) : (Op.equalIn 10000 33 (.agg #[.int .i64 a, .string x, .int .i64 b, .int .i64 c, .int .i64 d]) (.agg #[.int .i64 a, .string x, .int .i64 b, .int .i64 c, .int .i64 d])).run Tryd.prog w = .ok true w := by
  have u1 := Tryd.underlying3
  have u2 := Tryd.underlying2
  have u3 := Tryd.underlying9
  have a1 := Tryd.isAgg3
  have a2 := Tryd.isAgg2
  have a3 := Tryd.isAgg9
  have z1 := Tryd.sizeOf3
  have z2 := Tryd.sizeOf2
  have z3 := Tryd.sizeOf9
  have hS : Tryd.prog.underlying 33 = some (.struct (Tryd.prog.fieldsOf 33)) := by kernel_rfl
  have hp : Tryd.prog.stoodInHeld 33 = false := by kernel_rfl
  rw [show (10000 : Nat) = 9999 + 1 from rfl, run_equalIn_agg w 9999 33 _ _ hS hp]
  simp only [Program.fieldsOf, Tryd.underlying33]
  go_simp
set_option maxRecDepth 100000 in
set_option maxHeartbeats 8000000 in
theorem lexBack_walk (s : ByteArray) (w : World) (hw : LexW w) : Calls Tryd.prog 5 #[.string s] w (RetB (.bool true) w) := by
  have HW := Lib.hid hw
  clear hw
  go_enter Tryd.func5, Tryd.ntmps5
  go_wp2_with fail
  refine (awake05_any w HW.out).mono ?_
  rintro e w1 ⟨rfl, hb1⟩
  by_cases hs : 3000 < s.size
  · have hs' : (3000 : Int) < (s.size : Int) := by omega
    clear hs
    go_wp2
    go_ret
    exact ⟨rfl, hb1⟩
  have hs' : ¬ (3000 : Int) < (s.size : Int) := by omega
  have HN := Lib.hid (quote_any s (by omega) w1)
  obtain ⟨qs, hq⟩ : ∃ qs, qs = quoteS s := ⟨_, rfl⟩
  rw [← hq] at HN
  have hsl : (⟨s.data.toList.toArray⟩ : ByteArray) = s := ByteArray.ext (by simp)
  have hql : qs.data.toList = quoteB s.data.toList := by rw [hq]; simp [quoteS]
  have hqs : (quoteB s.data.toList).length = qs.size := by rw [← hql]; simp
  have hqz : qs.size ≤ 100000 := by
    have h1 := qTo_len s s.size (Nat.le_refl _)
    have h2 := congrArg List.length (qTo_all s)
    rw [List.length_append] at h2
    simp at h2
    omega
  have HSC := Lib.hid (show scanL qs.data.toList = .inr [⟨4, s, 0, qs.size, 0⟩, ⟨0, ⟨#[]⟩, qs.size, qs.size, 0⟩] by rw [hql, scan_quoted, hqs, hsl])
  have HB1 := Lib.hid hb1
  clear hb1 hs hq hsl hql hqs
  go_wp2_with fail
  refine HN.out.mono ?_
  rintro e w2 ⟨rfl, hb2⟩
  have HB2 := Lib.hid (HB1.out.trans (hb2.mono HB1.out.size))
  clear hb2
  go_wp2_with fail
  refine (scan_anyW qs w2 (HW.out.below HB2.out)).mono ?_
  rintro e w3 ⟨hb3, ⟨h, _⟩ | ⟨_, p, er, h, _⟩ | ⟨_, toks, A, c, h, rfl, hr, hc, _⟩⟩
  · omega
  · rw [HSC.out] at h; cases h
  rw [HSC.out] at h
  injection h with h
  subst h
  obtain ⟨ad, rfl, hab, hcell⟩ := hr.at (by simp [tkEnc])
  have x0 : w3.cell? ad = some (.int .i64 4) := elem_zero (K := 5) tkEnc_len hcell (show ([⟨4, s, 0, qs.size, 0⟩, ⟨0, ⟨#[]⟩, qs.size, qs.size, 0⟩] : List Tok)[0]? = some ⟨4, s, 0, qs.size, 0⟩ from rfl) (by omega) rfl
  have x1 : w3.cell? ⟨ad.block, ad.off + 1, none⟩ = some (.string s) := elem_at (K := 5) tkEnc_len hcell (show ([⟨4, s, 0, qs.size, 0⟩, ⟨0, ⟨#[]⟩, qs.size, qs.size, 0⟩] : List Tok)[0]? = some ⟨4, s, 0, qs.size, 0⟩ from rfl) 1 (by omega) (by omega) rfl
  have x2 : w3.cell? ⟨ad.block, ad.off + 2, none⟩ = some (.int .i64 0) := elem_at (K := 5) tkEnc_len hcell (show ([⟨4, s, 0, qs.size, 0⟩, ⟨0, ⟨#[]⟩, qs.size, qs.size, 0⟩] : List Tok)[0]? = some ⟨4, s, 0, qs.size, 0⟩ from rfl) 2 (by omega) (by omega) rfl
  have x3 : w3.cell? ⟨ad.block, ad.off + 3, none⟩ = some (.int .i64 (qs.size : Int)) := elem_at (K := 5) tkEnc_len hcell (show ([⟨4, s, 0, qs.size, 0⟩, ⟨0, ⟨#[]⟩, qs.size, qs.size, 0⟩] : List Tok)[0]? = some ⟨4, s, 0, qs.size, 0⟩ from rfl) 3 (by omega) (by omega) rfl
  have x4 : w3.cell? ⟨ad.block, ad.off + 4, none⟩ = some (.int .i64 0) := elem_at (K := 5) tkEnc_len hcell (show ([⟨4, s, 0, qs.size, 0⟩, ⟨0, ⟨#[]⟩, qs.size, qs.size, 0⟩] : List Tok)[0]? = some ⟨4, s, 0, qs.size, 0⟩ from rfl) 4 (by omega) (by omega) rfl
  have hl1 : ad.block < w3.heap.size := hab
  have heq := tk_eq 4 0 (qs.size : Int) 0 s
  have HB3 := Lib.hid (HB2.out.trans (hb3.mono HB2.out.size))
  clear hb3 hcell hr hc
  go_wp2
  go_ret
  exact ⟨rfl, HB3.out⟩
set_option maxRecDepth 100000 in
set_option maxHeartbeats 8000000 in
theorem lexSpans_walk (s : ByteArray) (w : World) (hw : LexW w) : Calls Tryd.prog 6 #[.string s] w (RetB (.bool true) w) := by
  have HW := Lib.hid hw
  clear hw
  go_enter Tryd.func6, Tryd.ntmps6
  go_wp2_with fail
  refine (awake05_any w HW.out).mono ?_
  rintro e w1 ⟨rfl, hb1⟩
  by_cases hs : 5000 < s.size
  · have hs' : (5000 : Int) < (s.size : Int) := by omega
    clear hs
    go_wp2
    go_ret
    exact ⟨rfl, hb1⟩
  have hs' : ¬ (5000 : Int) < (s.size : Int) := by omega
  have HB1 := Lib.hid hb1
  clear hb1
  go_wp2_with fail
  refine (scan_anyW s w1 (HW.out.below HB1.out)).mono ?_
  rintro e w2 ⟨hb2, ⟨h, _⟩ | ⟨_, p, er, h, rfl⟩ | ⟨_, toks, A, c, h, rfl, hr, hc, hn⟩⟩
  · omega
  · have HB2 := Lib.hid (HB1.out.trans (hb2.mono HB1.out.size))
    obtain ⟨h1, h2⟩ := scanL_err h
    have h3 : p < s.size := by simpa using h2
    have he : ((er : Int) == 0) = false := beq_eq_false_iff_ne.2 (by omega)
    have he' : ((er : Int) != 0) = true := by rw [bne, he]; rfl
    have hp0 : (0 : Int) ≤ (p : Int) := by omega
    have hp1 : (p : Int) < (s.size : Int) := by omega
    clear hb2 h h1 h2 h3 hs
    go_wp2
    go_ret
    exact ⟨rfl, HB2.out⟩
  obtain ⟨hsp, l, hl⟩ := scanL_spans h
  have HSP := Lib.hid hsp
  have HL := Lib.hid hl
  have HB2 := Lib.hid (HB1.out.trans (hb2.mono HB1.out.size))
  obtain ⟨n, hnn⟩ : ∃ n, n = toks.length := ⟨_, rfl⟩
  have HN := Lib.hid hnn
  rw [← hnn] at hn hc ⊢
  have HR := Lib.hid hr
  clear hsp hl hb2 h hr hnn
  go_wp2_with fail
  go_loopw [6, 37] (fun lv iv wr => ∃ k : Nat, k ≤ n ∧ iv = .int .i64 k ∧ lv = .int .i64 (lastZ toks k : Nat) ∧ Hid (Below w2.heap.size w2 wr)) (fun _ iv _ => n - (intOf iv).toNat)
  case atStart => exact ⟨0, by omega, rfl, by rw [lastZ_zero]; rfl, Lib.hid (Below.refl _ _)⟩
  case round =>
    obtain ⟨k, hk, rfl, rfl, HWR⟩ := hrel
    by_cases hlt : k < n
    case neg =>
      obtain rfl : k = n := by omega
      have hkk : ¬ (k : Int) < (k : Int) := by omega
      obtain ⟨mm, hmm⟩ : ∃ mm, mm = l.length := ⟨_, rfl⟩
      have hkm : k = mm + 1 := by rw [HN.out, HL.out, hmm]; simp
      have hx : toks[mm]? = some ⟨0, ⟨#[]⟩, s.size, s.size, 0⟩ := by rw [HL.out, hmm]; simp
      obtain ⟨ad, rfl, hab, hcell⟩ := (Reads.below HR.out HWR.out).at (flatMap_ne (K := 5) tkEnc_len (by omega) hx)
      have x0 := elem_zero (K := 5) tkEnc_len hcell hx (by omega) rfl
      have x1 := elem_at (K := 5) tkEnc_len hcell hx 1 (by omega) (by omega) rfl
      have x2 := elem_at (K := 5) tkEnc_len hcell hx 2 (by omega) (by omega) rfl
      have x3 := elem_at (K := 5) tkEnc_len hcell hx 3 (by omega) (by omega) rfl
      have x4 := elem_at (K := 5) tkEnc_len hcell hx 4 (by omega) (by omega) rfl
      have hl1 : (ad.add (mm * 5)).block < wr.heap.size := by rw [block_add']; exact Nat.lt_of_lt_of_le hab HWR.out.size
      have heq := tk_eq 0 (s.size : Int) (s.size : Int) 0 ⟨#[]⟩
      have hk0 : (0 : Int) < (k : Int) := by omega
      have hk1 : (k : Int) - 1 = (mm : Int) := by omega
      have hk1w : IntKind.i64.wrap (mm : Int) = (mm : Int) := IntWalk.i64_in _ (by omega)
      have hk2 : (mm : Int) < (k : Int) := by omega
      have hk3 : (0 : Int) ≤ (mm : Int) := by omega
      clear hx hcell hkm hmm hlt
      go_wp2
      go_ret
      exact ⟨rfl, HB2.out.trans (HWR.out.mono HB2.out.size)⟩
    obtain ⟨x, hx⟩ : ∃ x, toks[k]? = some x := ⟨_, List.getElem?_eq_getElem (by rw [← HN.out]; exact hlt)⟩
    obtain ⟨ad, rfl, hab, hcell⟩ := (Reads.below HR.out HWR.out).at (flatMap_ne (K := 5) tkEnc_len (by omega) hx)
    have x0 := elem_zero (K := 5) tkEnc_len hcell hx (by omega) rfl
    have x1 := elem_at (K := 5) tkEnc_len hcell hx 1 (by omega) (by omega) rfl
    have x2 := elem_at (K := 5) tkEnc_len hcell hx 2 (by omega) (by omega) rfl
    have x3 := elem_at (K := 5) tkEnc_len hcell hx 3 (by omega) (by omega) rfl
    have x4 := elem_at (K := 5) tkEnc_len hcell hx 4 (by omega) (by omega) rfl
    have hl1 : (ad.add (k * 5)).block < wr.heap.size := by rw [block_add']; exact Nat.lt_of_lt_of_le hab HWR.out.size
    have hk' : (k : Int) < (n : Int) := by omega
    have hk0 : (0 : Int) ≤ k := by omega
    have hok := HSP.out k x hx
    obtain ⟨lz, hlz⟩ : ∃ lz, lz = lastZ toks k := ⟨_, rfl⟩
    have HNX := Lib.hid (lastZ_succ hx)
    unfold SpanAt at hok
    rw [← hlz] at hok ⊢
    have o1 : ¬ (x.a : Int) < (lz : Int) := by omega
    have o2 : ¬ (x.z : Int) < (x.a : Int) := by omega
    have o3 : ¬ (s.size : Int) < (x.z : Int) := by omega
    have o4 : (x.a : Int) ≤ (x.z : Int) := by omega
    have o5 : (x.z : Int) ≤ (s.size : Int) := by omega
    have o6 : (0 : Int) ≤ (x.a : Int) := by omega
    by_cases h4 : x.kind = 4
    · have q4 : (x.kind == 4) = true := beq_iff_eq.2 h4
      have q4' : (x.kind != 4) = false := by rw [bne, q4]; rfl
      clear hx hcell hok hlz h4
      go_upto_region 12 with fail
      obtain ⟨gb, hgb⟩ : ∃ b, b = wr.heap.size := ⟨_, rfl⟩
      rw [← hgb]
      refine gen_wpT fun V hV => ?_
      have hbx : V.heap[gb]? = some (.cells #[.int .i64 x.kind, .string x.text, .int .i64 (x.a : Int), .int .i64 (x.z : Int), .int .i64 x.n] 33 (0, 0)) := by rw [← hV, hgb]; exact heap_new_at _ _ _ rfl
      have HWV := Lib.hid (show Below w2.heap.size w2 V by rw [← hV]; exact HWR.out.alloc HWR.out.size _)
      have b0 := cell_of_blk (i := 0) hbx rfl
      have b1 := cell_of_blk (i := 1) hbx rfl
      have b2 := cell_of_blk (i := 2) hbx rfl
      have b3 := cell_of_blk (i := 3) hbx rfl
      have bl := blk_lt hbx
      clear hV hgb hbx x0 x1 x2 x3 x4 hl1
      go_quiet (fail)
      go_wp2_with fail
      go_roundw
      case rel => exact ⟨k + 1, by omega, by go_num, by rw [HNX.out], Lib.hid (by first | exact below_drewT HWV.out _ | exact HWV.out)⟩
      case measure => simp [intOf]; omega
    · have q4 : (x.kind == 4) = false := beq_eq_false_iff_ne.2 h4
      have q4' : (x.kind != 4) = true := by rw [bne, q4]; rfl
      have htx : s.extract x.a x.z = x.text := (hok.2.2.2 h4).symm
      clear hx hcell hok hlz h4
      go_upto_region 12 with fail
      obtain ⟨gb, hgb⟩ : ∃ b, b = wr.heap.size := ⟨_, rfl⟩
      rw [← hgb]
      refine gen_wpT fun V hV => ?_
      have hbx : V.heap[gb]? = some (.cells #[.int .i64 x.kind, .string x.text, .int .i64 (x.a : Int), .int .i64 (x.z : Int), .int .i64 x.n] 33 (0, 0)) := by rw [← hV, hgb]; exact heap_new_at _ _ _ rfl
      have HWV := Lib.hid (show Below w2.heap.size w2 V by rw [← hV]; exact HWR.out.alloc HWR.out.size _)
      have b0 := cell_of_blk (i := 0) hbx rfl
      have b1 := cell_of_blk (i := 1) hbx rfl
      have b2 := cell_of_blk (i := 2) hbx rfl
      have b3 := cell_of_blk (i := 3) hbx rfl
      have bl := blk_lt hbx
      clear hV hgb hbx x0 x1 x2 x3 x4 hl1
      go_quiet (fail)
      go_wp2_with fail
      go_roundw
      case rel => exact ⟨k + 1, by omega, by go_num, by rw [HNX.out], Lib.hid (by first | exact below_drewT HWV.out _ | exact HWV.out)⟩
      case measure => simp [intOf]; omega
end Go.Proofs.YtmjkelmlbihkpaaDoor
