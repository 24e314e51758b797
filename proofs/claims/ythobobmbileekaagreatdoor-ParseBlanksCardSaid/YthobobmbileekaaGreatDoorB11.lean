/-
 ParseBlanks: part 11 of what the claim rests on.
-/
import Derived.Test.YthobobmbileekaaGreatDoorB10
set_option linter.unusedVariables false
set_option linter.unusedSimpArgs false
set_option maxHeartbeats 64000000
namespace Go.Proofs.YthobobmbileekaaGreatDoor
open Go.ChangeShapes Go.WideShapes Go.ChangeAt Go.RowKit

set_option maxRecDepth 100000 in
theorem walk_colon {f : Nat} (AP : ∀ g, g ≤ f → AllPart g) (bd : Bool) : Callee (f + 1) (.colon bd) 73 (fun p => #[.pointer (some ⟨p, 0, none⟩), .bool bd]) := by
 intro K w p i o sn ns fp h hroom ho r hr
 change stepColon K.T (parF K.T f) bd o i = some r at hr
 unfold stepColon at hr
 have HB := Lib.hid (Beg.of h)
 have HTK := Lib.hid h.env.tok
 have HRM := Lib.hid hroom.2
 have HI := Lib.hid hroom.1
 have HO := Lib.hid ho
 have HS0 := Lib.hid (St.start h)
 have HLN := Lib.hid h.env.len
 have HAP := Lib.hid AP
 clear h hroom ho AP
 have HR := Lib.hid hr
 clear hr
 go_enter Tryz.func73, Tryz.ntmps73
 have hr := HR.out
 clear HR
 cases hb : isAny (tk K.T i) [⟨#[58]⟩] with
 | true =>
  rw [if_pos hb] at hr
  have HLT1 := Lib.hid (any_lt HTK.out HI.out hb)
  have HC4 := Lib.hid (got_yes HS0.out.pa HI.out ⟨#[58]⟩ hb)
  clear hb
  have HR := Lib.hid hr
  clear hr
  go_wp2_with fail
  refine HC4.out.mono ?_
  rintro e w2 ⟨rfl, h1, h2⟩
  have HS3 := Lib.hid (HS0.out.step h1 h2)
  clear h1 h2
  have hr := HR.out
  clear HR
  obtain ⟨X, hX⟩ : ∃ X, (parF K.T f).one (.kind) o (i + 1) = X := ⟨_, rfl⟩
  rw [hX] at hr
  cases X with
  | none => exact absurd hr (by simp [Res.then])
  | some X =>
  cases X with
  | bad a n =>
   have HRR7 := Lib.hid (show Res.bad a n = r from (by dsimp only [Res.then] at hr; exact Option.some.inj hr))
   have HC10 := Lib.hid (call_bad ((HAP.out f (Nat.le_refl f)).kind) HS3.out HB.out ⟨HLT1.out, by have := HRM.out; have := HI.out; have := HLT1.out; (try simp only [ptsS, ptS, noneT, ptsS_append, Nat.add_zero, Nat.zero_add]); omega⟩ HO.out hX)
   clear hr hX
   go_wp2_with fail
   refine HC10.out.mono ?_
   rintro e wb ⟨rfl, hb⟩
   have HB9 := Lib.hid hb
   clear hb
   unfold wrongP
   go_wp2
   exact ⟨rfl, by rw [← HRR7.out]; exact ⟨rfl, HB9.out⟩⟩
  | ok t5 j6 =>
   have hft := (fit_all HTK.out f).one (.kind) o (i + 1) HLT1.out
   rw [hX] at hft
   obtain ⟨f1, f2, f3⟩ := hft
   simp only [lazy1, sl1, ex1, Bool.false_eq_true, if_false, if_true] at f2 f3
   have HF8 := Lib.hid (And.intro f1 (And.intro f2 f3))
   clear f1 f2 f3
   have HC14 := Lib.hid (call_ok ((HAP.out f (Nat.le_refl f)).kind) HS3.out ⟨HLT1.out, by have := HRM.out; have := HI.out; have := HLT1.out; (try simp only [ptsS, ptS, noneT, ptsS_append, Nat.add_zero, Nat.zero_add]); omega⟩ HO.out hX)
   dsimp only [Res.then] at hr
   clear hX
   have HR := Lib.hid hr
   clear hr
   go_wp2_with fail
   refine HC14.out.mono ?_
   rintro e w11 ⟨rfl, fp12, h1, h2⟩
   obtain ⟨n15, hn⟩ : ∃ n, n = nr ns [] t5 := ⟨_, rfl⟩
   rw [← hn]
   have HN16 := Lib.hid hn
   have HS13 := Lib.hid (show St K w p j6 o sn ns fp [t5] w11 fp12 from h1)
   clear h1 h2 hn
   have hr := HR.out
   clear HR
   have HC19 := Lib.hid (at_any HS13.out.pa HF8.out.1)
   have HR := Lib.hid hr
   clear hr
   go_wp2_with fail
   refine HC19.out.mono ?_
   rintro e w17 ⟨rfl, h2⟩
   have HS18 := Lib.hid (HS13.out.below h2)
   clear h2
   have hr := HR.out
   clear HR
   cases bd with
   | true =>
    rw [Bool.true_and] at hr
    cases hb : isAny (tk K.T j6) [⟨#[64]⟩] with
    | true =>
     rw [if_pos hb] at hr
     have HLT20 := Lib.hid (any_lt HTK.out HF8.out.1 hb)
     have HC23 := Lib.hid (got_yes HS18.out.pa HF8.out.1 ⟨#[64]⟩ hb)
     clear hb
     have HR := Lib.hid hr
     clear hr
     go_wp2_with fail
     refine HC23.out.mono ?_
     rintro e w21 ⟨rfl, h1, h2⟩
     have HS22 := Lib.hid (HS18.out.step h1 h2)
     clear h1 h2
     have hr := HR.out
     clear HR
     rw [mask_then] at hr
     obtain ⟨X, hX⟩ : ∃ X, maskL K.T (j6 + 1) one1 = X := ⟨_, rfl⟩
     rw [hX] at hr
     cases X with
     | none => exact absurd hr (by simp [Res.then])
     | some X =>
     cases X with
     | bad a n =>
      have HRR24 := Lib.hid (show Res.bad a n = r from by dsimp only [Res.then] at hr; exact Option.some.inj hr)
      have HC29 := Lib.hid ((mask_any HS22.out.pa HLT20.out hX).mono fun e w' hh => (show OutB w p a n e w' from ⟨hh.1, HS22.out.bad HB.out hh.2⟩))
      clear hr hX
      go_wp2_with fail
      refine HC29.out.mono ?_
      rintro e wb ⟨rfl, hb⟩
      have HB28 := Lib.hid hb
      clear hb
      unfold wrongP
      go_wp2
      exact ⟨rfl, by rw [← HRR24.out]; exact ⟨rfl, HB28.out⟩⟩
     | ok m25 j26 =>
      dsimp only [Res.then] at hr
      have hft := FSat.mask (Q := fun (x : ByteArray) j => (j6 + 1) < j ∧ j < K.T.length) (k := one1) HTK.out HLT20.out (fun x j h1 h2 => ⟨h1, h2⟩)
      rw [hX] at hft
      have HF27 := Lib.hid (show (j6 + 1) < j26 ∧ j26 < K.T.length from hft)
      clear hft
      have HC32 := Lib.hid ((show Calls Tryz.prog 45 #[.pointer (some ⟨p, 0, none⟩)] w21 (OutV K w21 p j26 o sn (ns ++ flats ns.length [t5]) fp12 (.string m25)) from mask_any HS22.out.pa HLT20.out hX))
      clear hX
      have HR := Lib.hid hr
      clear hr
      go_wp2_with fail
      refine HC32.out.mono ?_
      rintro e w30 ⟨rfl, h1, h2⟩
      have HS31 := Lib.hid (HS22.out.step h1 h2)
      clear h1 h2
      have hr := HR.out
      clear HR
      have HRR34 := Lib.hid (show Res.ok _ _ = r from Option.some.inj hr)
      clear hr
      have HL33 := Lib.hid (show ∀ W, W = w30.alloc (.cells #[natV n15] 3) → Calls Tryz.prog 23 #[.pointer (some ⟨p, 0, none⟩), .int .i64 36, .string m25, natV (tk K.T j6).a, .slice (some ⟨w30.heap.size, 0, none⟩) 1 1] W (OutP K w p o sn ns fp (.ok (.mk 36 m25 (tk K.T j6).a [t5]) j26)) from fun W hW => by
       subst hW
       exact lay_fin (HS31.out.below ((Below.refl _ _).alloc (Nat.le_refl _) _)) (by have := HRM.out; have := HI.out; have := HLT1.out; have := HF8.out; have := HLT20.out; have := HF27.out; (try simp only [ptsS, ptS, noneT, ptsS_append, List.nil_append, List.cons_append, Nat.add_zero, Nat.zero_add]); omega) (by simp) 36 m25 (tk K.T j6).a (KidsV.new w30 n15 [] _ rfl) (by simp only [HN16.out, nr, roots, ptsS, Nat.add_zero, Nat.add_assoc]))
      try unfold natV
      go_wp2_with fail
      refine (HL33.out _ rfl).mono ?_
      rintro e wz ⟨rfl, fpz, h1, h2⟩
      have HZ35 := Lib.hid (show OutP K w p o sn ns fp (.ok (.mk 36 m25 (tk K.T j6).a [t5]) j26) (.returned _) wz from ⟨rfl, fpz, h1, h2⟩)
      clear h1 h2
      go_wp2
      go_ret
      exact (by rw [← HRR34.out]; exact HZ35.out)
    | false =>
     rw [if_neg (by rw [hb]; decide)] at hr
     have HC38 := Lib.hid (got_no HS18.out.pa HF8.out.1 ⟨#[64]⟩ hb)
     clear hb
     have HR := Lib.hid hr
     clear hr
     go_wp2_with fail
     refine HC38.out.mono ?_
     rintro e w36 ⟨rfl, h1, h2⟩
     have HS37 := Lib.hid (HS18.out.below h2)
     clear h2 h1
     have hr := HR.out
     clear HR
     have HRR39 := Lib.hid (show Res.ok _ _ = r from Option.some.inj hr)
     clear hr
     go_wp2
     go_ret
     exact (by rw [← HRR39.out, HN16.out]; exact HS37.out.out)
   | false =>
    rw [Bool.false_and, if_neg (by decide)] at hr
    have HRR40 := Lib.hid (show Res.ok _ _ = r from Option.some.inj hr)
    clear hr
    go_wp2
    go_ret
    exact (by rw [← HRR40.out, HN16.out]; exact HS18.out.out)
 | false =>
  rw [if_neg (by rw [hb]; decide)] at hr
  have HC43 := Lib.hid (got_no HS0.out.pa HI.out ⟨#[58]⟩ hb)
  clear hb
  have HR := Lib.hid hr
  clear hr
  go_wp2_with fail
  refine HC43.out.mono ?_
  rintro e w41 ⟨rfl, h1, h2⟩
  have HS42 := Lib.hid (HS0.out.below h2)
  clear h2 h1
  have hr := HR.out
  clear HR
  have HC47 := Lib.hid (none_ok HS42.out (by have := HRM.out; have := HI.out; (try simp only [ptsS, ptS, noneT, ptsS_append, List.nil_append, List.cons_append, Nat.add_zero, Nat.zero_add]); omega))
  have HR := Lib.hid hr
  clear hr
  go_wp2_with fail
  refine HC47.out.mono ?_
  rintro e w44 ⟨rfl, fp45, h1, h2⟩
  obtain ⟨n48, hn⟩ : ∃ n, n = nr ns [] noneT := ⟨_, rfl⟩
  rw [← hn]
  have HN49 := Lib.hid hn
  have HS46 := Lib.hid (show St K w p i o sn ns fp [noneT] w44 fp45 from h1)
  clear h1 h2 hn
  have hr := HR.out
  clear HR
  have HRR50 := Lib.hid (show Res.ok _ _ = r from Option.some.inj hr)
  clear hr
  go_wp2
  go_ret
  exact (by rw [← HRR50.out, HN49.out]; exact HS46.out.out)
set_option maxRecDepth 100000 in
theorem walk_cond {f : Nat} (AP : ∀ g, g ≤ f → AllPart g) (a : Nat) : Callee (f + 1) (.cond a) 78 (fun p => #[.pointer (some ⟨p, 0, none⟩), natV a]) := by
 intro K w p i o sn ns fp h hroom ho r hr
 change stepCond K.T (parF K.T f) a o i = some r at hr
 unfold stepCond at hr
 have HB := Lib.hid (Beg.of h)
 have HTK := Lib.hid h.env.tok
 have HRM := Lib.hid hroom.2
 have HI := Lib.hid hroom.1
 have HO := Lib.hid ho
 have HS0 := Lib.hid (St.start h)
 have HLN := Lib.hid h.env.len
 have HAP := Lib.hid AP
 clear h hroom ho AP
 have HR := Lib.hid hr
 clear hr
 go_enter Tryz.func78, Tryz.ntmps78
 have hr := HR.out
 clear HR
 have HR := Lib.hid hr
 clear hr
 go_upto_region 1 with fail
 obtain ⟨b1, hb⟩ : ∃ b, b = w.heap.size := ⟨_, rfl⟩
 rw [← hb]
 refine gen_wpT fun w2 hW => ?_
 have HX3 := Lib.hid (show w2.heap[b1]? = some (.cells #[.pointer (some ⟨p, 0, none⟩)] 44 (0, 0)) by rw [← hW]; exact heap_new_at _ _ _ hb.symm)
 have HBL6 := Lib.hid (show Below w.heap.size w w2 by rw [← hW]; exact (Below.refl _ _).alloc (Nat.le_refl _) _)
 have HS5 := Lib.hid (HS0.out.below HBL6.out)
 have HA4 := Lib.hid (Away.new HS0.out.pa (Nat.le_of_eq hb.symm) (blk_lt HX3.out))
 have HBE7 := Lib.hid (show w.heap.size ≤ b1 from by have := HS0.out.pt.fr.size; omega)
 clear hW hb
 have x8 := cell_of_blk (i := 0) HX3.out rfl
 have xl9 := blk_lt HX3.out
 have hr := HR.out
 clear HR
 obtain ⟨X, hX⟩ : ∃ X, (parF K.T f).one (.exp) o i = X := ⟨_, rfl⟩
 rw [hX] at hr
 cases X with
 | none => exact absurd hr (by simp [Res.then])
 | some X =>
 cases X with
 | bad a n =>
  have HRR12 := Lib.hid (show Res.bad a n = r from (by dsimp only [Res.then] at hr; exact Option.some.inj hr))
  have HC15 := Lib.hid (call_bad ((HAP.out f (Nat.le_refl f)).exp) HS5.out HB.out ⟨HI.out, by have := HRM.out; have := HI.out; (try simp only [ptsS, ptS, noneT, ptsS_append, Nat.add_zero, Nat.zero_add]); omega⟩ HO.out hX)
  clear hr hX
  go_wp2_with fail
  refine HC15.out.mono ?_
  rintro e wb ⟨rfl, hb⟩
  have HB14 := Lib.hid hb
  clear hb
  unfold wrongP
  go_wp2
  exact ⟨rfl, by rw [← HRR12.out]; exact ⟨rfl, HB14.out⟩⟩
 | ok t10 j11 =>
  have hft := (fit_all HTK.out f).one (.exp) o i HI.out
  rw [hX] at hft
  obtain ⟨f1, f2, f3⟩ := hft
  simp only [lazy1, sl1, ex1, Bool.false_eq_true, if_false, if_true] at f2 f3
  have HF13 := Lib.hid (And.intro f1 (And.intro f2 f3))
  clear f1 f2 f3
  have HC19 := Lib.hid (call_ok ((HAP.out f (Nat.le_refl f)).exp) HS5.out ⟨HI.out, by have := HRM.out; have := HI.out; (try simp only [ptsS, ptS, noneT, ptsS_append, Nat.add_zero, Nat.zero_add]); omega⟩ HO.out hX)
  dsimp only [Res.then] at hr
  clear hX
  have HR := Lib.hid hr
  clear hr
  go_wp2_with fail
  clear x8 xl9
  refine HC19.out.mono ?_
  rintro e w16 ⟨rfl, fp17, h1, h2⟩
  obtain ⟨n20, hn⟩ : ∃ n, n = nr ns [] t10 := ⟨_, rfl⟩
  rw [← hn]
  have HN21 := Lib.hid hn
  have HS18 := Lib.hid (show St K w p j11 o sn ns fp [t10] w16 fp17 from h1)
  have HX22 := Lib.hid (Away.blkTo HX3.out HA4.out h2)
  have HA23 := Lib.hid (HA4.out.to h2)
  clear h1 h2 hn
  have x24 := cell_of_blk (i := 0) HX22.out rfl
  have xl25 := blk_lt HX22.out
  have hr := HR.out
  clear HR
  unfold need at hr
  cases hb : isAny (tk K.T j11) [⟨#[116, 104, 101, 110]⟩] with
  | false =>
   rw [if_neg (by rw [hb]; decide)] at hr
   have HRR27 := Lib.hid (show Res.bad _ _ = r from (by exact Option.some.inj hr))
   have HC29 := Lib.hid ((need_no HS18.out.pa HF13.out.1 ⟨#[116, 104, 101, 110]⟩ hb).mono fun e w' hh => (show OutB w p _ 70 e w' from ⟨hh.1, HS18.out.bad HB.out hh.2⟩))
   clear hr
   go_wp2_with fail
   refine HC29.out.mono ?_
   rintro e wb ⟨rfl, hb⟩
   have HB28 := Lib.hid hb
   clear hb
   unfold wrongP
   go_wp2
   exact ⟨rfl, by rw [← HRR27.out]; exact ⟨rfl, HB28.out⟩⟩
  | true =>
   rw [if_pos hb] at hr
   have HLT26 := Lib.hid (any_lt HTK.out HF13.out.1 hb)
   have HC32 := Lib.hid (need_yes HS18.out.pa HF13.out.1 ⟨#[116, 104, 101, 110]⟩ hb)
   clear hb
   have HR := Lib.hid hr
   clear hr
   go_wp2_with fail
   clear x24 xl25
   refine HC32.out.mono ?_
   rintro e w30 ⟨rfl, h1, h2⟩
   have HS31 := Lib.hid (HS18.out.step h1 h2)
   have HX33 := Lib.hid (Away.blkTo HX22.out HA23.out h2)
   have HA34 := Lib.hid (HA23.out.to h2)
   clear h1 h2
   have x35 := cell_of_blk (i := 0) HX33.out rfl
   have xl36 := blk_lt HX33.out
   have hr := HR.out
   clear HR
   obtain ⟨X, hX⟩ : ∃ X, (parF K.T f).one (.block) o (j11 + 1) = X := ⟨_, rfl⟩
   rw [hX] at hr
   cases X with
   | none => exact absurd hr (by simp [Res.then])
   | some X =>
   cases X with
   | bad a n =>
    have HRR39 := Lib.hid (show Res.bad a n = r from (by dsimp only [Res.then] at hr; exact Option.some.inj hr))
    have HC42 := Lib.hid (call_bad ((HAP.out f (Nat.le_refl f)).block) HS31.out HB.out ⟨HLT26.out, by have := HRM.out; have := HI.out; have := HF13.out; have := HLT26.out; (try simp only [ptsS, ptS, noneT, ptsS_append, Nat.add_zero, Nat.zero_add]); omega⟩ HO.out hX)
    clear hr hX
    go_wp2_with fail
    refine HC42.out.mono ?_
    rintro e wb ⟨rfl, hb⟩
    have HB41 := Lib.hid hb
    clear hb
    unfold wrongP
    go_wp2
    exact ⟨rfl, by rw [← HRR39.out]; exact ⟨rfl, HB41.out⟩⟩
   | ok t37 j38 =>
    have hft := (fit_all HTK.out f).one (.block) o (j11 + 1) HLT26.out
    rw [hX] at hft
    obtain ⟨f1, f2, f3⟩ := hft
    simp only [lazy1, sl1, ex1, Bool.false_eq_true, if_false, if_true] at f2 f3
    have HF40 := Lib.hid (And.intro f1 (And.intro f2 f3))
    clear f1 f2 f3
    have HC46 := Lib.hid (call_ok ((HAP.out f (Nat.le_refl f)).block) HS31.out ⟨HLT26.out, by have := HRM.out; have := HI.out; have := HF13.out; have := HLT26.out; (try simp only [ptsS, ptS, noneT, ptsS_append, Nat.add_zero, Nat.zero_add]); omega⟩ HO.out hX)
    dsimp only [Res.then] at hr
    clear hX
    have HR := Lib.hid hr
    clear hr
    go_wp2_with fail
    clear x35 xl36
    refine HC46.out.mono ?_
    rintro e w43 ⟨rfl, fp44, h1, h2⟩
    obtain ⟨n47, hn⟩ : ∃ n, n = nr ns [t10] t37 := ⟨_, rfl⟩
    rw [← hn]
    have HN48 := Lib.hid hn
    have HS45 := Lib.hid (show St K w p j38 o sn ns fp [t10, t37] w43 fp44 from h1)
    have HX49 := Lib.hid (Away.blkTo HX33.out HA34.out h2)
    have HA50 := Lib.hid (HA34.out.to h2)
    clear h1 h2 hn
    have x51 := cell_of_blk (i := 0) HX49.out rfl
    have xl52 := blk_lt HX49.out
    have hr := HR.out
    clear HR
    have HC55 := Lib.hid (at_any HS45.out.pa HF40.out.1)
    have HR := Lib.hid hr
    clear hr
    go_wp2_with fail
    clear x51 xl52
    refine HC55.out.mono ?_
    rintro e w53 ⟨rfl, h2⟩
    have HS54 := Lib.hid (HS45.out.below h2)
    have HX56 := Lib.hid (below_blk h2 HX49.out)
    have HA57 := Lib.hid (HA50.out.on h2.size)
    clear h2
    have x58 := cell_of_blk (i := 0) HX56.out rfl
    have xl59 := blk_lt HX56.out
    have hr := HR.out
    clear HR
    unfold natV
    have HR := Lib.hid hr
    clear hr
    go_upto_region 5 with fail
    clear x58 xl59
    obtain ⟨b60, hb⟩ : ∃ b, b = w53.heap.size := ⟨_, rfl⟩
    rw [← hb]
    refine gen_wpT fun w61 hW => ?_
    have HX62 := Lib.hid (show w61.heap[b60]? = some (.cells #[natV (tk K.T j38).a] 3 (0, 0)) by rw [← hW]; exact heap_new_at _ _ _ hb.symm)
    have HBL65 := Lib.hid (show Below w53.heap.size w53 w61 by rw [← hW]; exact (Below.refl _ _).alloc (Nat.le_refl _) _)
    have HS64 := Lib.hid (HS54.out.below HBL65.out)
    have HA63 := Lib.hid (Away.new HS54.out.pa (Nat.le_of_eq hb.symm) (blk_lt HX62.out))
    have HBE66 := Lib.hid (show w.heap.size ≤ b60 from by have := HS54.out.pt.fr.size; omega)
    have HX67 := Lib.hid (below_blk HBL65.out HX56.out)
    have HA68 := Lib.hid (HA57.out.on HBL65.out.size)
    clear hW hb
    have x69 := cell_of_blk (i := 0) HX67.out rfl
    have xl70 := blk_lt HX67.out
    have x71 := cell_of_blk (i := 0) HX62.out rfl
    have xl72 := blk_lt HX62.out
    have hr := HR.out
    clear HR
    try dsimp only at hr
    cases hb : isAny (tk K.T j38) [⟨#[101, 108, 115, 101, 105, 102]⟩] with
    | true =>
     rw [if_pos hb] at hr
     have HLT73 := Lib.hid (any_lt HTK.out HF40.out.1 hb)
     have HC76 := Lib.hid (got_yes HS64.out.pa HF40.out.1 ⟨#[101, 108, 115, 101, 105, 102]⟩ hb)
     clear hb
     have HR := Lib.hid hr
     clear hr
     go_wp2_with fail
     clear x69 xl70 x71 xl72
     refine HC76.out.mono ?_
     rintro e w74 ⟨rfl, h1, h2⟩
     have HS75 := Lib.hid (HS64.out.step h1 h2)
     have HX77 := Lib.hid (Away.blkTo HX67.out HA68.out h2)
     have HA78 := Lib.hid (HA68.out.to h2)
     have HX79 := Lib.hid (Away.blkTo HX62.out HA63.out h2)
     have HA80 := Lib.hid (HA63.out.to h2)
     clear h1 h2
     have x81 := cell_of_blk (i := 0) HX77.out rfl
     have xl82 := blk_lt HX77.out
     have x83 := cell_of_blk (i := 0) HX79.out rfl
     have xl84 := blk_lt HX79.out
     have hr := HR.out
     clear HR
     unfold deeper at hr
     by_cases hdp : 150 < o + 1
     ·rw [if_pos hdp] at hr
      have HRR89 := Lib.hid (show Res.bad _ _ = r from (by exact Option.some.inj hr))
      have HC91 := Lib.hid ((within_deep HS75.out.pa hdp HO.out ((tk K.T j38).a) (.func (.func 98) #[] #[.pointer (some ⟨b1, 0, none⟩), .pointer (some ⟨b60, 0, none⟩)])).mono fun e w' hh => (show OutB w p _ 61 e w' from ⟨hh.1, HS75.out.bad HB.out hh.2⟩))
      clear hr hdp
      go_wp2_with fail
      refine HC91.out.mono ?_
      rintro e wb ⟨rfl, hb⟩
      have HB90 := Lib.hid hb
      clear hb
      unfold wrongP
      go_wp2
      exact ⟨rfl, by rw [← HRR89.out]; exact ⟨rfl, HB90.out⟩⟩
     ·rw [if_neg hdp] at hr
      obtain ⟨X, hX⟩ : ∃ X, (parF K.T f).one (.cond ((tk K.T j38).a)) (o + 1) (j38 + 1) = X := ⟨_, rfl⟩
      dsimp only at hr
      rw [hX] at hr
      have HDP := Lib.hid hdp
      clear hdp
      cases X with
      | none => exact absurd hr (by simp [Res.then])
      | some X =>
      cases X with
      | bad a n =>
       have HRR87 := Lib.hid (show Res.bad a n = r from (by dsimp only [Res.then] at hr; exact Option.some.inj hr))
       have HC93 := Lib.hid (within_no (fn := 98) (fst := #[]) (cap := #[.pointer (some ⟨b1, 0, none⟩), .pointer (some ⟨b60, 0, none⟩)]) (args := #[.pointer (some ⟨b1, 0, none⟩), .pointer (some ⟨b60, 0, none⟩)]) HS75.out HB.out HDP.out ((tk K.T j38).a) (fun W => rfl) rfl hX (fun w1 h1 h2 r hr => (wrap_cond1 ((tk K.T j38).a) ((HAP.out f (Nat.le_refl f)).cond ((tk K.T j38).a))) K w1 p (j38 + 1) (o + 1) sn _ fp44 b1 b60 h1 ⟨HLT73.out, by rw [len_more]; exact by have := HRM.out; have := HI.out; have := HF13.out; have := HLT26.out; have := HF40.out; have := HLT73.out; (try simp only [ptsS, ptS, noneT, ptsS_append, Nat.add_zero, Nat.zero_add]); omega⟩ (by have := HDP.out; omega) (Away.blkTo HX77.out HA78.out h2) (HA78.out.to h2) (Away.blkTo HX79.out HA80.out h2) (HA80.out.to h2) r hr))
       clear hr hX
       go_wp2_with fail
       refine HC93.out.mono ?_
       rintro e wb ⟨rfl, hb⟩
       have HB92 := Lib.hid hb
       clear hb
       unfold wrongP
       go_wp2
       exact ⟨rfl, by rw [← HRR87.out]; exact ⟨rfl, HB92.out⟩⟩
      | ok t85 j86 =>
       have hft := (fit_all HTK.out f).one (.cond ((tk K.T j38).a)) (o + 1) (j38 + 1) HLT73.out
       rw [hX] at hft
       obtain ⟨f1, f2, f3⟩ := hft
       simp only [lazy1, sl1, ex1, Bool.false_eq_true, if_false, if_true] at f2 f3
       have HF88 := Lib.hid (And.intro f1 (And.intro f2 f3))
       clear f1 f2 f3
       have HC97 := Lib.hid (within_ok (fn := 98) (fst := #[]) (cap := #[.pointer (some ⟨b1, 0, none⟩), .pointer (some ⟨b60, 0, none⟩)]) (args := #[.pointer (some ⟨b1, 0, none⟩), .pointer (some ⟨b60, 0, none⟩)]) HS75.out HDP.out ((tk K.T j38).a) (fun W => rfl) rfl hX (fun w1 h1 h2 r hr => (wrap_cond1 ((tk K.T j38).a) ((HAP.out f (Nat.le_refl f)).cond ((tk K.T j38).a))) K w1 p (j38 + 1) (o + 1) sn _ fp44 b1 b60 h1 ⟨HLT73.out, by rw [len_more]; exact by have := HRM.out; have := HI.out; have := HF13.out; have := HLT26.out; have := HF40.out; have := HLT73.out; (try simp only [ptsS, ptS, noneT, ptsS_append, Nat.add_zero, Nat.zero_add]); omega⟩ (by have := HDP.out; omega) (Away.blkTo HX77.out HA78.out h2) (HA78.out.to h2) (Away.blkTo HX79.out HA80.out h2) (HA80.out.to h2) r hr))
       dsimp only [Res.then] at hr
       clear hX
       have HR := Lib.hid hr
       clear hr
       go_wp2_with fail
       clear x81 xl82 x83 xl84
       refine HC97.out.mono ?_
       rintro e w94 ⟨rfl, fp95, h1, h2⟩
       obtain ⟨n98, hn⟩ : ∃ n, n = nr ns [t10, t37] t85 := ⟨_, rfl⟩
       rw [← hn]
       have HN99 := Lib.hid hn
       have HS96 := Lib.hid (show St K w p j86 o sn ns fp [t10, t37, t85] w94 fp95 from h1)
       have HX100 := Lib.hid (Away.blkTo HX77.out HA78.out h2)
       have HA101 := Lib.hid (HA78.out.to h2)
       have HX102 := Lib.hid (Away.blkTo HX79.out HA80.out h2)
       have HA103 := Lib.hid (HA80.out.to h2)
       clear h1 h2 hn
       have x104 := cell_of_blk (i := 0) HX100.out rfl
       have xl105 := blk_lt HX100.out
       have x106 := cell_of_blk (i := 0) HX102.out rfl
       have xl107 := blk_lt HX102.out
       have hr := HR.out
       clear HR
       have HC111 := Lib.hid (show ∀ W, W = w94.alloc (.cells #[natV n98] 3) → Calls Tryz.prog 23 #[.pointer (some ⟨p, 0, none⟩), .int .i64 3, .string ⟨#[]⟩, natV (tk K.T j38).a, .slice (some ⟨w94.heap.size, 0, none⟩) 1 1] W (OneOk K w p o sn ns fp [t10, t37] W fp95 (.mk 3 ⟨#[]⟩ (tk K.T j38).a [t85]) j86) from fun W hW => by
        subst hW
        exact lay_mid (L1 := [t10, t37]) (L2 := [t85]) (HS96.out.below ((Below.refl _ _).alloc (Nat.le_refl _) _)) (by have := HRM.out; have := HI.out; have := HF13.out; have := HLT26.out; have := HF40.out; have := HLT73.out; have := HF88.out; simp only [ptsS, ptS, noneT, List.nil_append, List.cons_append, Nat.add_zero, Nat.zero_add]; omega) (by simp) 3 ⟨#[]⟩ (tk K.T j38).a (KidsV.new w94 n98 [] _ rfl) (by simp only [HN99.out, nr, roots, ptsS, Nat.add_zero, Nat.add_assoc]))
       have HR := Lib.hid hr
       clear hr
       try unfold natV
       go_wp2_with fail
       clear x104 xl105 x106 xl107
       refine (HC111.out _ rfl).mono ?_
       rintro e w108 ⟨rfl, fp109, h1, h2⟩
       obtain ⟨n112, hn⟩ : ∃ n, n = nr ns [t10, t37] (.mk 3 ⟨#[]⟩ (tk K.T j38).a [t85]) := ⟨_, rfl⟩
       rw [← hn]
       have HN113 := Lib.hid hn
       have HS110 := Lib.hid (show St K w p j86 o sn ns fp [t10, t37, (.mk 3 ⟨#[]⟩ (tk K.T j38).a [t85])] w108 fp109 from h1)
       have hbl : PaTo w94 fp95 w108 fp109 := (PaTo.of_below HS96.out.pa ((Below.refl _ _).alloc (Nat.le_refl _) _)).trans h2
       have HX114 := Lib.hid (Away.blkTo HX100.out HA101.out hbl)
       have HA115 := Lib.hid (HA101.out.to hbl)
       have HX116 := Lib.hid (Away.blkTo HX102.out HA103.out hbl)
       have HA117 := Lib.hid (HA103.out.to hbl)
       clear h1 h2 hn hbl
       have x118 := cell_of_blk (i := 0) HX114.out rfl
       have xl119 := blk_lt HX114.out
       have x120 := cell_of_blk (i := 0) HX116.out rfl
       have xl121 := blk_lt HX116.out
       have hr := HR.out
       clear HR
       have HRR123 := Lib.hid (show Res.ok _ _ = r from Option.some.inj hr)
       clear hr
       have HL122 := Lib.hid (show ∀ W, W = w108.alloc (.cells #[natV n20, natV n47, natV n112] 3) → Calls Tryz.prog 23 #[.pointer (some ⟨p, 0, none⟩), .int .i64 8, .string ⟨#[]⟩, natV a, .slice (some ⟨w108.heap.size, 0, none⟩) 3 3] W (OutP K w p o sn ns fp (.ok (.mk 8 ⟨#[]⟩ a [t10, t37, (.mk 3 ⟨#[]⟩ (tk K.T j38).a [t85])]) j86)) from fun W hW => by
        subst hW
        exact lay_fin (HS110.out.below ((Below.refl _ _).alloc (Nat.le_refl _) _)) (by have := HRM.out; have := HI.out; have := HF13.out; have := HLT26.out; have := HF40.out; have := HLT73.out; have := HF88.out; (try simp only [ptsS, ptS, noneT, ptsS_append, List.nil_append, List.cons_append, Nat.add_zero, Nat.zero_add]); omega) (by simp) 8 ⟨#[]⟩ a (KidsV.new w108 n20 [n47, n112] _ rfl) (by simp only [HN21.out, HN48.out, HN113.out, nr, roots, ptsS, Nat.add_zero, Nat.add_assoc]))
       try unfold natV
       go_wp2_with fail
       refine (HL122.out _ rfl).mono ?_
       rintro e wz ⟨rfl, fpz, h1, h2⟩
       have HZ124 := Lib.hid (show OutP K w p o sn ns fp (.ok (.mk 8 ⟨#[]⟩ a [t10, t37, (.mk 3 ⟨#[]⟩ (tk K.T j38).a [t85])]) j86) (.returned _) wz from ⟨rfl, fpz, h1, h2⟩)
       clear h1 h2
       go_wp2
       go_ret
       exact (by rw [← HRR123.out]; exact HZ124.out)
    | false =>
     rw [if_neg (by rw [hb]; decide)] at hr
     have HC127 := Lib.hid (got_no HS64.out.pa HF40.out.1 ⟨#[101, 108, 115, 101, 105, 102]⟩ hb)
     clear hb
     have HR := Lib.hid hr
     clear hr
     go_wp2_with fail
     clear x69 xl70 x71 xl72
     refine HC127.out.mono ?_
     rintro e w125 ⟨rfl, h1, h2⟩
     have HS126 := Lib.hid (HS64.out.below h2)
     have HX128 := Lib.hid (below_blk h2 HX67.out)
     have HA129 := Lib.hid (HA68.out.on h2.size)
     have HX130 := Lib.hid (below_blk h2 HX62.out)
     have HA131 := Lib.hid (HA63.out.on h2.size)
     clear h2 h1
     have x132 := cell_of_blk (i := 0) HX128.out rfl
     have xl133 := blk_lt HX128.out
     have x134 := cell_of_blk (i := 0) HX130.out rfl
     have xl135 := blk_lt HX130.out
     have hr := HR.out
     clear HR
     cases hb : isAny (tk K.T j38) [⟨#[101, 108, 115, 101]⟩] with
     | true =>
      rw [if_pos hb] at hr
      have HLT136 := Lib.hid (any_lt HTK.out HF40.out.1 hb)
      have HC139 := Lib.hid (got_yes HS126.out.pa HF40.out.1 ⟨#[101, 108, 115, 101]⟩ hb)
      clear hb
      have HR := Lib.hid hr
      clear hr
      go_wp2_with fail
      clear x132 xl133 x134 xl135
      refine HC139.out.mono ?_
      rintro e w137 ⟨rfl, h1, h2⟩
      have HS138 := Lib.hid (HS126.out.step h1 h2)
      have HX140 := Lib.hid (Away.blkTo HX128.out HA129.out h2)
      have HA141 := Lib.hid (HA129.out.to h2)
      have HX142 := Lib.hid (Away.blkTo HX130.out HA131.out h2)
      have HA143 := Lib.hid (HA131.out.to h2)
      clear h1 h2
      have x144 := cell_of_blk (i := 0) HX140.out rfl
      have xl145 := blk_lt HX140.out
      have x146 := cell_of_blk (i := 0) HX142.out rfl
      have xl147 := blk_lt HX142.out
      have hr := HR.out
      clear HR
      obtain ⟨X, hX⟩ : ∃ X, (parF K.T f).one (.ended) o (j38 + 1) = X := ⟨_, rfl⟩
      rw [hX] at hr
      cases X with
      | none => exact absurd hr (by simp [Res.then])
      | some X =>
      cases X with
      | bad a n =>
       have HRR150 := Lib.hid (show Res.bad a n = r from (by dsimp only [Res.then] at hr; exact Option.some.inj hr))
       have HC153 := Lib.hid (call_bad ((HAP.out f (Nat.le_refl f)).ended) HS138.out HB.out ⟨HLT136.out, by have := HRM.out; have := HI.out; have := HF13.out; have := HLT26.out; have := HF40.out; have := HLT136.out; (try simp only [ptsS, ptS, noneT, ptsS_append, Nat.add_zero, Nat.zero_add]); omega⟩ HO.out hX)
       clear hr hX
       go_wp2_with fail
       refine HC153.out.mono ?_
       rintro e wb ⟨rfl, hb⟩
       have HB152 := Lib.hid hb
       clear hb
       unfold wrongP
       go_wp2
       exact ⟨rfl, by rw [← HRR150.out]; exact ⟨rfl, HB152.out⟩⟩
      | ok t148 j149 =>
       have hft := (fit_all HTK.out f).one (.ended) o (j38 + 1) HLT136.out
       rw [hX] at hft
       obtain ⟨f1, f2, f3⟩ := hft
       simp only [lazy1, sl1, ex1, Bool.false_eq_true, if_false, if_true] at f2 f3
       have HF151 := Lib.hid (And.intro f1 (And.intro f2 f3))
       clear f1 f2 f3
       have HC157 := Lib.hid (call_ok ((HAP.out f (Nat.le_refl f)).ended) HS138.out ⟨HLT136.out, by have := HRM.out; have := HI.out; have := HF13.out; have := HLT26.out; have := HF40.out; have := HLT136.out; (try simp only [ptsS, ptS, noneT, ptsS_append, Nat.add_zero, Nat.zero_add]); omega⟩ HO.out hX)
       dsimp only [Res.then] at hr
       clear hX
       have HR := Lib.hid hr
       clear hr
       go_wp2_with fail
       clear x144 xl145 x146 xl147
       refine HC157.out.mono ?_
       rintro e w154 ⟨rfl, fp155, h1, h2⟩
       obtain ⟨n158, hn⟩ : ∃ n, n = nr ns [t10, t37] t148 := ⟨_, rfl⟩
       rw [← hn]
       have HN159 := Lib.hid hn
       have HS156 := Lib.hid (show St K w p j149 o sn ns fp [t10, t37, t148] w154 fp155 from h1)
       have HX160 := Lib.hid (Away.blkTo HX140.out HA141.out h2)
       have HA161 := Lib.hid (HA141.out.to h2)
       have HX162 := Lib.hid (Away.blkTo HX142.out HA143.out h2)
       have HA163 := Lib.hid (HA143.out.to h2)
       clear h1 h2 hn
       have x164 := cell_of_blk (i := 0) HX160.out rfl
       have xl165 := blk_lt HX160.out
       have x166 := cell_of_blk (i := 0) HX162.out rfl
       have xl167 := blk_lt HX162.out
       have hr := HR.out
       clear HR
       have HRR169 := Lib.hid (show Res.ok _ _ = r from Option.some.inj hr)
       clear hr
       have HL168 := Lib.hid (show ∀ W, W = w154.alloc (.cells #[natV n20, natV n47, natV n158] 3) → Calls Tryz.prog 23 #[.pointer (some ⟨p, 0, none⟩), .int .i64 8, .string ⟨#[]⟩, natV a, .slice (some ⟨w154.heap.size, 0, none⟩) 3 3] W (OutP K w p o sn ns fp (.ok (.mk 8 ⟨#[]⟩ a [t10, t37, t148]) j149)) from fun W hW => by
        subst hW
        exact lay_fin (HS156.out.below ((Below.refl _ _).alloc (Nat.le_refl _) _)) (by have := HRM.out; have := HI.out; have := HF13.out; have := HLT26.out; have := HF40.out; have := HLT136.out; have := HF151.out; (try simp only [ptsS, ptS, noneT, ptsS_append, List.nil_append, List.cons_append, Nat.add_zero, Nat.zero_add]); omega) (by simp) 8 ⟨#[]⟩ a (KidsV.new w154 n20 [n47, n158] _ rfl) (by simp only [HN21.out, HN48.out, HN159.out, nr, roots, ptsS, Nat.add_zero, Nat.add_assoc]))
       try unfold natV
       go_wp2_with fail
       refine (HL168.out _ rfl).mono ?_
       rintro e wz ⟨rfl, fpz, h1, h2⟩
       have HZ170 := Lib.hid (show OutP K w p o sn ns fp (.ok (.mk 8 ⟨#[]⟩ a [t10, t37, t148]) j149) (.returned _) wz from ⟨rfl, fpz, h1, h2⟩)
       clear h1 h2
       go_wp2
       go_ret
       exact (by rw [← HRR169.out]; exact HZ170.out)
     | false =>
      rw [if_neg (by rw [hb]; decide)] at hr
      have HC173 := Lib.hid (got_no HS126.out.pa HF40.out.1 ⟨#[101, 108, 115, 101]⟩ hb)
      clear hb
      have HR := Lib.hid hr
      clear hr
      go_wp2_with fail
      clear x132 xl133 x134 xl135
      refine HC173.out.mono ?_
      rintro e w171 ⟨rfl, h1, h2⟩
      have HS172 := Lib.hid (HS126.out.below h2)
      have HX174 := Lib.hid (below_blk h2 HX128.out)
      have HA175 := Lib.hid (HA129.out.on h2.size)
      have HX176 := Lib.hid (below_blk h2 HX130.out)
      have HA177 := Lib.hid (HA131.out.on h2.size)
      clear h2 h1
      have x178 := cell_of_blk (i := 0) HX174.out rfl
      have xl179 := blk_lt HX174.out
      have x180 := cell_of_blk (i := 0) HX176.out rfl
      have xl181 := blk_lt HX176.out
      have hr := HR.out
      clear HR
      have HC185 := Lib.hid (none_ok HS172.out (by have := HRM.out; have := HI.out; have := HF13.out; have := HLT26.out; have := HF40.out; (try simp only [ptsS, ptS, noneT, ptsS_append, List.nil_append, List.cons_append, Nat.add_zero, Nat.zero_add]); omega))
      have HR := Lib.hid hr
      clear hr
      go_wp2_with fail
      clear x178 xl179 x180 xl181
      refine HC185.out.mono ?_
      rintro e w182 ⟨rfl, fp183, h1, h2⟩
      obtain ⟨n186, hn⟩ : ∃ n, n = nr ns [t10, t37] noneT := ⟨_, rfl⟩
      rw [← hn]
      have HN187 := Lib.hid hn
      have HS184 := Lib.hid (show St K w p j38 o sn ns fp [t10, t37, noneT] w182 fp183 from h1)
      have HX188 := Lib.hid (Away.blkTo HX174.out HA175.out h2)
      have HA189 := Lib.hid (HA175.out.to h2)
      have HX190 := Lib.hid (Away.blkTo HX176.out HA177.out h2)
      have HA191 := Lib.hid (HA177.out.to h2)
      clear h1 h2 hn
      have x192 := cell_of_blk (i := 0) HX188.out rfl
      have xl193 := blk_lt HX188.out
      have x194 := cell_of_blk (i := 0) HX190.out rfl
      have xl195 := blk_lt HX190.out
      have hr := HR.out
      clear HR
      unfold need at hr
      cases hb : isAny (tk K.T j38) [⟨#[101, 110, 100]⟩] with
      | false =>
       rw [if_neg (by rw [hb]; decide)] at hr
       have HRR197 := Lib.hid (show Res.bad _ _ = r from (by exact Option.some.inj hr))
       have HC199 := Lib.hid ((need_no HS184.out.pa HF40.out.1 ⟨#[101, 110, 100]⟩ hb).mono fun e w' hh => (show OutB w p _ 70 e w' from ⟨hh.1, HS184.out.bad HB.out hh.2⟩))
       clear hr
       go_wp2_with fail
       refine HC199.out.mono ?_
       rintro e wb ⟨rfl, hb⟩
       have HB198 := Lib.hid hb
       clear hb
       unfold wrongP
       go_wp2
       exact ⟨rfl, by rw [← HRR197.out]; exact ⟨rfl, HB198.out⟩⟩
      | true =>
       rw [if_pos hb] at hr
       have HLT196 := Lib.hid (any_lt HTK.out HF40.out.1 hb)
       have HC202 := Lib.hid (need_yes HS184.out.pa HF40.out.1 ⟨#[101, 110, 100]⟩ hb)
       clear hb
       have HR := Lib.hid hr
       clear hr
       go_wp2_with fail
       clear x192 xl193 x194 xl195
       refine HC202.out.mono ?_
       rintro e w200 ⟨rfl, h1, h2⟩
       have HS201 := Lib.hid (HS184.out.step h1 h2)
       have HX203 := Lib.hid (Away.blkTo HX188.out HA189.out h2)
       have HA204 := Lib.hid (HA189.out.to h2)
       have HX205 := Lib.hid (Away.blkTo HX190.out HA191.out h2)
       have HA206 := Lib.hid (HA191.out.to h2)
       clear h1 h2
       have x207 := cell_of_blk (i := 0) HX203.out rfl
       have xl208 := blk_lt HX203.out
       have x209 := cell_of_blk (i := 0) HX205.out rfl
       have xl210 := blk_lt HX205.out
       have hr := HR.out
       clear HR
       have HRR212 := Lib.hid (show Res.ok _ _ = r from Option.some.inj hr)
       clear hr
       have HL211 := Lib.hid (show ∀ W, W = w200.alloc (.cells #[natV n20, natV n47, natV n186] 3) → Calls Tryz.prog 23 #[.pointer (some ⟨p, 0, none⟩), .int .i64 8, .string ⟨#[]⟩, natV a, .slice (some ⟨w200.heap.size, 0, none⟩) 3 3] W (OutP K w p o sn ns fp (.ok (.mk 8 ⟨#[]⟩ a [t10, t37, noneT]) (j38 + 1))) from fun W hW => by
        subst hW
        exact lay_fin (HS201.out.below ((Below.refl _ _).alloc (Nat.le_refl _) _)) (by have := HRM.out; have := HI.out; have := HF13.out; have := HLT26.out; have := HF40.out; have := HLT196.out; (try simp only [ptsS, ptS, noneT, ptsS_append, List.nil_append, List.cons_append, Nat.add_zero, Nat.zero_add]); omega) (by simp) 8 ⟨#[]⟩ a (KidsV.new w200 n20 [n47, n186] _ rfl) (by simp only [HN21.out, HN48.out, HN187.out, nr, roots, ptsS, Nat.add_zero, Nat.add_assoc]))
       try unfold natV
       go_wp2_with fail
       refine (HL211.out _ rfl).mono ?_
       rintro e wz ⟨rfl, fpz, h1, h2⟩
       have HZ213 := Lib.hid (show OutP K w p o sn ns fp (.ok (.mk 8 ⟨#[]⟩ a [t10, t37, noneT]) (j38 + 1)) (.returned _) wz from ⟨rfl, fpz, h1, h2⟩)
       clear h1 h2
       go_wp2
       go_ret
       exact (by rw [← HRR212.out]; exact HZ213.out)
end Go.Proofs.YthobobmbileekaaGreatDoor
