/-
 ParseBlanks: part 13 of what the claim rests on.
-/
import Derived.Test.YthobobmbileekaaGreatDoorB12
import Derived.Deep.RegionHeld3
set_option linter.unusedVariables false
set_option linter.unusedSimpArgs false
set_option maxHeartbeats 64000000
namespace Go.Proofs.YthobobmbileekaaGreatDoor
open Go.ChangeShapes Go.WideShapes Go.ChangeAt Go.RowKit

set_option maxRecDepth 100000 in
theorem walk_body {f : Nat} (AP : ∀ g, g ≤ f → AllPart g) (a : Nat) : Callee (f + 1) (.body a) 76 (fun p => #[.pointer (some ⟨p, 0, none⟩), natV a]) := by
 intro K w p i o sn ns fp h hroom ho r hr
 change stepBody K.T (parF K.T f) a o i = some r at hr
 unfold stepBody at hr
 have HB := Lib.hid (Beg.of h)
 have HTK := Lib.hid h.env.tok
 have HRM := Lib.hid hroom.2
 have HI := Lib.hid hroom.1
 have HO := Lib.hid ho
 have HS0 := Lib.hid (St.start h)
 have HLN := Lib.hid h.env.len
 have HAP := Lib.hid AP
 clear h hroom ho AP
 have HR := Lib.hid hr
 clear hr
 go_enter Tryz.func76, Tryz.ntmps76
 have hr := HR.out
 clear HR
 have HR := Lib.hid hr
 clear hr
 go_upto_region 1 with fail
 obtain ⟨b1, hb⟩ : ∃ b, b = w.heap.size := ⟨_, rfl⟩
 rw [← hb]
 refine gen_wpT fun w2 hW => ?_
 have HX3 := Lib.hid (show w2.heap[b1]? = some (.cells #[.pointer (some ⟨p, 0, none⟩)] 44 (0, 0)) by rw [← hW]; exact heap_new_at _ _ _ hb.symm)
 have HBL6 := Lib.hid (show Below w.heap.size w w2 by rw [← hW]; exact (Below.refl _ _).alloc (Nat.le_refl _) _)
 have HS5 := Lib.hid (HS0.out.below HBL6.out)
 have HA4 := Lib.hid (Away.new HS0.out.pa (Nat.le_of_eq hb.symm) (blk_lt HX3.out))
 have HBE7 := Lib.hid (show w.heap.size ≤ b1 from by have := HS0.out.pt.fr.size; omega)
 clear hW hb
 have x8 := cell_of_blk (i := 0) HX3.out rfl
 have xl9 := blk_lt HX3.out
 have hr := HR.out
 clear HR
 unfold need at hr
 cases hb : isAny (tk K.T i) [⟨#[40]⟩] with
 | false =>
  rw [if_neg (by rw [hb]; decide)] at hr
  have HRR11 := Lib.hid (show Res.bad _ _ = r from (by exact Option.some.inj hr))
  have HC13 := Lib.hid ((need_no HS5.out.pa HI.out ⟨#[40]⟩ hb).mono fun e w' hh => (show OutB w p _ 70 e w' from ⟨hh.1, HS5.out.bad HB.out hh.2⟩))
  clear hr
  go_wp2_with fail
  refine HC13.out.mono ?_
  rintro e wb ⟨rfl, hb⟩
  have HB12 := Lib.hid hb
  clear hb
  unfold wrongP
  go_wp2
  exact ⟨rfl, by rw [← HRR11.out]; exact ⟨rfl, HB12.out⟩⟩
 | true =>
  rw [if_pos hb] at hr
  have HLT10 := Lib.hid (any_lt HTK.out HI.out hb)
  have HC16 := Lib.hid (need_yes HS5.out.pa HI.out ⟨#[40]⟩ hb)
  clear hb
  have HR := Lib.hid hr
  clear hr
  go_wp2_with fail
  clear x8 xl9
  refine HC16.out.mono ?_
  rintro e w14 ⟨rfl, h1, h2⟩
  have HS15 := Lib.hid (HS5.out.step h1 h2)
  have HX17 := Lib.hid (Away.blkTo HX3.out HA4.out h2)
  have HA18 := Lib.hid (HA4.out.to h2)
  clear h1 h2
  have x19 := cell_of_blk (i := 0) HX17.out rfl
  have xl20 := blk_lt HX17.out
  have hr := HR.out
  clear HR
  obtain ⟨X, hX⟩ : ∃ X, (parF K.T f).many (.until ⟨#[41]⟩ .param []) o (i + 1) = X := ⟨_, rfl⟩
  rw [hX] at hr
  cases X with
  | none => exact absurd hr (by simp [Res.then])
  | some X =>
  cases X with
  | bad a n =>
   have HRR23 := Lib.hid (show Res.bad a n = r from by dsimp only [Res.then] at hr; exact Option.some.inj hr)
   have HC36 := Lib.hid (until_rowno (fn := 97) (fst := #[]) (cap := #[.pointer (some ⟨b1, 0, none⟩)]) (args := #[.pointer (some ⟨b1, 0, none⟩)]) HS15.out HB.out ⟨HLT10.out, by have := HRM.out; have := HI.out; have := HLT10.out; (try simp only [ptsS, ptS, noneT, ptsS_append, Nat.add_zero, Nat.zero_add]); omega⟩ HO.out ⟨#[41]⟩ .param (fun W => rfl) rfl (BoxInv b1 (.cells #[.pointer (some ⟨p, 0, none⟩)] 44 (0, 0)) p) ⟨HX17.out, HA18.out⟩ (fun acc w1 w2 fp1 S hI hf hS => box_stay (blk_lt HX17.out) hI hf hS) (fun g acc w1 i1 ns1 fp1 hg h1 h2 h3 r hr => item_box h3 ((HAP.out g hg).paramC K w1 p i1 o sn ns1 fp1 b1 h1 h2 HO.out h3.1 h3.2 r hr)) hX)
   clear hr hX
   go_wp2_with fail
   refine HC36.out.mono ?_
   rintro e wb ⟨rfl, hb⟩
   have HB35 := Lib.hid hb
   clear hb
   unfold wrongP
   go_wp2
   exact ⟨rfl, by rw [← HRR23.out]; exact ⟨rfl, HB35.out⟩⟩
  | ok l21 j22 =>
   dsimp only [Res.then] at hr
   have hft := (fit_all HTK.out f).many (.until ⟨#[41]⟩ .param []) o (i + 1) HLT10.out
   rw [hX] at hft
   obtain ⟨f1, f2, f3⟩ := hft
   simp only [ptsS, Nat.zero_add] at f3
   have HF24 := Lib.hid (And.intro f1 (And.intro f2 f3))
   clear f1 f2 f3
   have HC30 := Lib.hid (until_row (fn := 97) (fst := #[]) (cap := #[.pointer (some ⟨b1, 0, none⟩)]) (args := #[.pointer (some ⟨b1, 0, none⟩)]) HS15.out ⟨HLT10.out, by have := HRM.out; have := HI.out; have := HLT10.out; (try simp only [ptsS, ptS, noneT, ptsS_append, Nat.add_zero, Nat.zero_add]); omega⟩ HO.out ⟨#[41]⟩ .param (fun W => rfl) rfl (BoxInv b1 (.cells #[.pointer (some ⟨p, 0, none⟩)] 44 (0, 0)) p) ⟨HX17.out, HA18.out⟩ (fun acc w1 w2 fp1 S hI hf hS => box_stay (blk_lt HX17.out) hI hf hS) (fun g acc w1 i1 ns1 fp1 hg h1 h2 h3 r hr => item_box h3 ((HAP.out g hg).paramC K w1 p i1 o sn ns1 fp1 b1 h1 h2 HO.out h3.1 h3.2 r hr)) hX)
   clear hX
   have HR := Lib.hid hr
   clear hr
   go_wp2_with fail
   clear x19 xl20
   refine HC30.out.mono ?_
   rintro e w28 ⟨A25, c26, fp27, rfl, h1, h2, h3, h4⟩
   obtain ⟨k33, hrl⟩ : ∃ k, k = l21.length := ⟨_, rfl⟩
   rw [← hrl] at h3 h4 ⊢
   have HS29 := Lib.hid h1
   have HV31 := Lib.hid h3
   have HGO32 := Lib.hid h4
   have HK34 := Lib.hid hrl
   have HX37 := Lib.hid (Away.blkTo HX17.out HA18.out h2)
   have HA38 := Lib.hid (HA18.out.to h2)
   clear h1 h2 h3 h4 hrl
   have x39 := cell_of_blk (i := 0) HX37.out rfl
   have xl40 := blk_lt HX37.out
   have hr := HR.out
   clear HR
   obtain ⟨X, hX⟩ : ∃ X, (parF K.T f).one (.colon false) o j22 = X := ⟨_, rfl⟩
   rw [hX] at hr
   cases X with
   | none => exact absurd hr (by simp [Res.then])
   | some X =>
   cases X with
   | bad a n =>
    have HRR43 := Lib.hid (show Res.bad a n = r from (by dsimp only [Res.then] at hr; exact Option.some.inj hr))
    have HC46 := Lib.hid (call_bad ((HAP.out f (Nat.le_refl f)).colon false) HS29.out HB.out ⟨HF24.out.1, by have := HRM.out; have := HI.out; have := HLT10.out; have := HF24.out; (try simp only [ptsS, ptS, noneT, ptsS_append, Nat.add_zero, Nat.zero_add]); omega⟩ HO.out hX)
    clear hr hX
    go_wp2_with fail
    refine HC46.out.mono ?_
    rintro e wb ⟨rfl, hb⟩
    have HB45 := Lib.hid hb
    clear hb
    unfold wrongP
    go_wp2
    exact ⟨rfl, by rw [← HRR43.out]; exact ⟨rfl, HB45.out⟩⟩
   | ok t41 j42 =>
    have hft := (fit_all HTK.out f).one (.colon false) o j22 HF24.out.1
    rw [hX] at hft
    obtain ⟨f1, f2, f3⟩ := hft
    simp only [lazy1, sl1, ex1, Bool.false_eq_true, if_false, if_true] at f2 f3
    have HF44 := Lib.hid (And.intro f1 (And.intro f2 f3))
    clear f1 f2 f3
    have HC50 := Lib.hid (call_ok ((HAP.out f (Nat.le_refl f)).colon false) HS29.out ⟨HF24.out.1, by have := HRM.out; have := HI.out; have := HLT10.out; have := HF24.out; (try simp only [ptsS, ptS, noneT, ptsS_append, Nat.add_zero, Nat.zero_add]); omega⟩ HO.out hX)
    dsimp only [Res.then] at hr
    clear hX
    have HR := Lib.hid hr
    clear hr
    go_wp2_with fail
    clear x39 xl40
    refine HC50.out.mono ?_
    rintro e w47 ⟨rfl, fp48, h1, h2⟩
    obtain ⟨n51, hn⟩ : ∃ n, n = nr ns l21 t41 := ⟨_, rfl⟩
    rw [← hn]
    have HN52 := Lib.hid hn
    have HS49 := Lib.hid (show St K w p j42 o sn ns fp (l21 ++ [t41]) w47 fp48 from h1)
    have HX53 := Lib.hid (Away.blkTo HX37.out HA38.out h2)
    have HA54 := Lib.hid (HA38.out.to h2)
    have HV55 := Lib.hid (HV31.out.to h2)
    clear h1 h2 hn
    have x56 := cell_of_blk (i := 0) HX53.out rfl
    have xl57 := blk_lt HX53.out
    have hr := HR.out
    clear HR
    have HKB67 := Lib.hid (show k33 ≤ 900000 by have h9 := HK34.out; have h8 := ptsS_len l21; have h7 := (show ns.length + ptsS (l21 ++ [t41]) + 4 * (K.T.length - j42) ≤ 900000 from by have := HRM.out; have := HI.out; have := HLT10.out; have := HF24.out; have := HF44.out; (try simp only [ptsS, ptS, noneT, ptsS_append, Nat.add_zero, Nat.zero_add]); omega); (try simp only [ptsS_append, List.length_append] at h7 h8 h9); omega)
    try unfold natV
    have HR := Lib.hid hr
    clear hr
    go_wp2_with (at_builtin; (refine wpList_push (n := n51) rfl _ _ rfl HS49.out HV55.out (by rw [roots_len]; exact HK34.out) HKB67.out (B := w.heap.size) (Nat.le_refl _) HS49.out.pt.fr.size HGO32.out rfl rfl rfl ?_); intro g58 cap59 w60 h1 h2 h3 h4; clear x56 xl57; have HS63 := Lib.hid h1; have HV61 := Lib.hid h2; have HGO62 := Lib.hid h3; have HX68 := Lib.hid (h4.blk HX53.out (.inl (by decide))); have HA69 := Lib.hid (HA54.out.on h4.size); have x70 := cell_of_blk (i := 0) HX68.out rfl; have xl71 := blk_lt HX68.out; clear h1 h2 h3 h4)
    obtain ⟨k65, hk2⟩ : ∃ k, k = k33 + 1 := ⟨_, rfl⟩
    have HK66 := Lib.hid (show k65 = (l21 ++ [t41]).length by rw [hk2, HK34.out]; simp)
    have HV72 := Lib.hid (show Ints w60 p fp48 (.slice (some ⟨g58, 0, none⟩) k65 cap59) (roots ns.length (l21 ++ [t41])) by rw [roots_more, ← HN52.out, hk2]; exact HV61.out)
    rw [← hk2] at HGO62
    try rw [← hk2]
    clear hk2
    have hr := HR.out
    clear HR
    obtain ⟨X, hX⟩ : ∃ X, (parF K.T f).one (.ended) o j42 = X := ⟨_, rfl⟩
    rw [hX] at hr
    cases X with
    | none => exact absurd hr (by simp [Res.then])
    | some X =>
    cases X with
    | bad a n =>
     have HRR75 := Lib.hid (show Res.bad a n = r from (by dsimp only [Res.then] at hr; exact Option.some.inj hr))
     have HC78 := Lib.hid (call_bad ((HAP.out f (Nat.le_refl f)).ended) HS63.out HB.out ⟨HF44.out.1, by have := HRM.out; have := HI.out; have := HLT10.out; have := HF24.out; have := HF44.out; (try simp only [ptsS, ptS, noneT, ptsS_append, Nat.add_zero, Nat.zero_add]); omega⟩ HO.out hX)
     clear hr hX
     go_wp2_with fail
     refine HC78.out.mono ?_
     rintro e wb ⟨rfl, hb⟩
     have HB77 := Lib.hid hb
     clear hb
     unfold wrongP
     go_wp2
     exact ⟨rfl, by rw [← HRR75.out]; exact ⟨rfl, HB77.out⟩⟩
    | ok t73 j74 =>
     have hft := (fit_all HTK.out f).one (.ended) o j42 HF44.out.1
     rw [hX] at hft
     obtain ⟨f1, f2, f3⟩ := hft
     simp only [lazy1, sl1, ex1, Bool.false_eq_true, if_false, if_true] at f2 f3
     have HF76 := Lib.hid (And.intro f1 (And.intro f2 f3))
     clear f1 f2 f3
     have HC82 := Lib.hid (call_ok ((HAP.out f (Nat.le_refl f)).ended) HS63.out ⟨HF44.out.1, by have := HRM.out; have := HI.out; have := HLT10.out; have := HF24.out; have := HF44.out; (try simp only [ptsS, ptS, noneT, ptsS_append, Nat.add_zero, Nat.zero_add]); omega⟩ HO.out hX)
     dsimp only [Res.then] at hr
     clear hX
     have HR := Lib.hid hr
     clear hr
     go_wp2_with fail
     clear x70 xl71
     refine HC82.out.mono ?_
     rintro e w79 ⟨rfl, fp80, h1, h2⟩
     obtain ⟨n83, hn⟩ : ∃ n, n = nr ns (l21 ++ [t41]) t73 := ⟨_, rfl⟩
     rw [← hn]
     have HN84 := Lib.hid hn
     have HS81 := Lib.hid (show St K w p j74 o sn ns fp ((l21 ++ [t41]) ++ [t73]) w79 fp80 from h1)
     have HX85 := Lib.hid (Away.blkTo HX68.out HA69.out h2)
     have HA86 := Lib.hid (HA69.out.to h2)
     have HV87 := Lib.hid (HV72.out.to h2)
     clear h1 h2 hn
     have x88 := cell_of_blk (i := 0) HX85.out rfl
     have xl89 := blk_lt HX85.out
     have hr := HR.out
     clear HR
     have HKB99 := Lib.hid (show k65 ≤ 900000 by have h9 := HK66.out; have h8 := ptsS_len (l21 ++ [t41]); have h7 := (show ns.length + ptsS ((l21 ++ [t41]) ++ [t73]) + 4 * (K.T.length - j74) ≤ 900000 from by have := HRM.out; have := HI.out; have := HLT10.out; have := HF24.out; have := HF44.out; have := HF76.out; (try simp only [ptsS, ptS, noneT, ptsS_append, Nat.add_zero, Nat.zero_add]); omega); (try simp only [ptsS_append, List.length_append] at h7 h8 h9); omega)
     try unfold natV
     have HR := Lib.hid hr
     clear hr
     go_wp2_with (at_builtin; (refine wpList_push (n := n83) rfl _ _ rfl HS81.out HV87.out (by rw [roots_len]; exact HK66.out) HKB99.out (B := w.heap.size) (Nat.le_refl _) HS81.out.pt.fr.size HGO62.out rfl rfl rfl ?_); intro g90 cap91 w92 h1 h2 h3 h4; clear x88 xl89; have HS95 := Lib.hid h1; have HV93 := Lib.hid h2; have HGO94 := Lib.hid h3; have HX100 := Lib.hid (h4.blk HX85.out (.inl (by decide))); have HA101 := Lib.hid (HA86.out.on h4.size); have x102 := cell_of_blk (i := 0) HX100.out rfl; have xl103 := blk_lt HX100.out; clear h1 h2 h3 h4)
     obtain ⟨k97, hk2⟩ : ∃ k, k = k65 + 1 := ⟨_, rfl⟩
     have HK98 := Lib.hid (show k97 = ((l21 ++ [t41]) ++ [t73]).length by rw [hk2, HK66.out]; simp)
     have HV104 := Lib.hid (show Ints w92 p fp80 (.slice (some ⟨g90, 0, none⟩) k97 cap91) (roots ns.length ((l21 ++ [t41]) ++ [t73])) by rw [roots_more, ← HN84.out, hk2]; exact HV93.out)
     rw [← hk2] at HGO94
     try rw [← hk2]
     clear hk2
     have hr := HR.out
     clear HR
     have HRR106 := Lib.hid (show Res.ok _ _ = r from Option.some.inj hr)
     clear hr
     have HL105 := Lib.hid (lay_row HS95.out (by have h7 := (show ns.length + ptsS ((l21 ++ [t41]) ++ [t73]) + 4 * (K.T.length - j74) ≤ 900000 from by have := HRM.out; have := HI.out; have := HLT10.out; have := HF24.out; have := HF44.out; have := HF76.out; (try simp only [ptsS, ptS, noneT, ptsS_append, Nat.add_zero, Nat.zero_add]); omega); omega) 22 ⟨#[]⟩ a HV104.out)
     go_wp2_with fail
     refine HL105.out.mono ?_
     rintro e wz ⟨rfl, fpz, h1, h2⟩
     have HZ107 := Lib.hid (show OutP K w p o sn ns fp (.ok (.mk 22 ⟨#[]⟩ a ((l21 ++ [t41]) ++ [t73])) j74) (.returned _) wz from ⟨rfl, fpz, h1, h2⟩)
     clear h1 h2
     go_wp2
     go_ret
     exact (by rw [← HRR106.out]; first | exact HZ107.out | (have h9 := HZ107.out; rw [List.append_assoc] at h9; exact h9))
set_option maxRecDepth 100000 in
theorem clos_param {f : Nat} (AP : ∀ g, g ≤ f → AllPart g)  : ClosP (f + 1)  .param 97 := by
 intro K w p i o sn ns fp b h hroom ho hb1 ha1 r hr
 change stepParam K.T (parF K.T f) o i = some r at hr
 unfold stepParam at hr
 have HB := Lib.hid (Beg.of h)
 have HTK := Lib.hid h.env.tok
 have HRM := Lib.hid hroom.2
 have HI := Lib.hid hroom.1
 have HO := Lib.hid ho
 have HS0 := Lib.hid (St.start h)
 have HLN := Lib.hid h.env.len
 have HAP := Lib.hid AP
 have HX0 := Lib.hid hb1
 have HA0 := Lib.hid ha1
 clear h hroom ho AP hb1 ha1
 have HR := Lib.hid hr
 clear hr
 go_enter Tryz.func97, Tryz.ntmps97
 have x1 := cell_of_blk (i := 0) HX0.out rfl
 have xl2 := blk_lt HX0.out
 have hr := HR.out
 clear HR
 unfold variableL token at hr
 by_cases hk : (tk K.T i).kind = 1
 ·rw [if_pos hk] at hr
  dsimp only at hr
  have HLT3 := Lib.hid (tk_lt HTK.out HI.out (by rw [hk]; decide))
  cases hbu : builtinL (tk K.T i).text with
  | some nb =>
   rw [hbu] at hr
   have HRR5 := Lib.hid (show Res.bad (tk K.T i).a 70 = r from Option.some.inj hr)
   have HC10 := Lib.hid ((variable_builtin HS0.out.pa HI.out hk hbu).mono fun e w' hh => (show OutB w p _ 70 e w' from ⟨hh.1, HS0.out.bad HB.out hh.2⟩))
   clear hr hk hbu
   go_wp2_with fail
   refine HC10.out.mono ?_
   rintro e wb ⟨rfl, hb⟩
   have HB9 := Lib.hid hb
   clear hb
   unfold wrongP
   go_wp2
   exact ⟨rfl, by rw [← HRR5.out]; exact ⟨rfl, HB9.out⟩⟩
  | none =>
   rw [hbu] at hr
   dsimp only [Option.isSome] at hr
   rw [if_neg (by decide)] at hr
   have HC13 := Lib.hid (variable_ok HS0.out.pa HI.out hk hbu)
   clear hk hbu
   have HR := Lib.hid hr
   clear hr
   go_wp2_with fail
   clear x1 xl2
   refine HC13.out.mono ?_
   rintro e w11 ⟨rfl, h1, h2⟩
   have HS12 := Lib.hid (HS0.out.step h1 h2)
   have HX14 := Lib.hid (Away.blkTo HX0.out HA0.out h2)
   have HA15 := Lib.hid (HA0.out.to h2)
   clear h1 h2
   have x16 := cell_of_blk (i := 0) HX14.out rfl
   have xl17 := blk_lt HX14.out
   have hr := HR.out
   clear HR
   unfold tokJ
   have HR := Lib.hid hr
   clear hr
   go_upto_region 2 with fail
   clear x16 xl17
   obtain ⟨b18, hb⟩ : ∃ b, b = w11.heap.size := ⟨_, rfl⟩
   rw [← hb]
   refine gen_wpT fun w19 hW => ?_
   have HX20 := Lib.hid (show w19.heap[b18]? = some (.cells #[.int .i64 (tk K.T i).kind, .string (tk K.T i).text, .int .i64 ((tk K.T i).a : Int), .int .i64 ((tk K.T i).z : Int), .int .i64 (tk K.T i).n] 65 (0, 0)) by rw [← hW]; exact heap_new_at _ _ _ hb.symm)
   have HBL23 := Lib.hid (show Below w11.heap.size w11 w19 by rw [← hW]; exact (Below.refl _ _).alloc (Nat.le_refl _) _)
   have HS22 := Lib.hid (HS12.out.below HBL23.out)
   have HA21 := Lib.hid (Away.new HS12.out.pa (Nat.le_of_eq hb.symm) (blk_lt HX20.out))
   have HBE24 := Lib.hid (show w.heap.size ≤ b18 from by have := HS12.out.pt.fr.size; omega)
   have HX25 := Lib.hid (below_blk HBL23.out HX14.out)
   have HA26 := Lib.hid (HA15.out.on HBL23.out.size)
   clear hW hb
   have x27 := cell_of_blk (i := 0) HX25.out rfl
   have xl28 := blk_lt HX25.out
   have x29 := cell_of_blk (i := 0) HX20.out rfl
   have x30 := cell_of_blk (i := 1) HX20.out rfl
   have x31 := cell_of_blk (i := 2) HX20.out rfl
   have x32 := cell_of_blk (i := 3) HX20.out rfl
   have x33 := cell_of_blk (i := 4) HX20.out rfl
   have xl34 := blk_lt HX20.out
   have hr := HR.out
   clear HR
   obtain ⟨X, hX⟩ : ∃ X, (parF K.T f).one (.colon true) o (i + 1) = X := ⟨_, rfl⟩
   rw [hX] at hr
   cases X with
   | none => exact absurd hr (by simp [Res.then])
   | some X =>
   cases X with
   | bad a n =>
    have HRR37 := Lib.hid (show Res.bad a n = r from (by dsimp only [Res.then] at hr; exact Option.some.inj hr))
    have HC40 := Lib.hid (call_bad ((HAP.out f (Nat.le_refl f)).colon true) HS22.out HB.out ⟨HLT3.out, by have := HRM.out; have := HI.out; have := HLT3.out; (try simp only [ptsS, ptS, noneT, ptsS_append, Nat.add_zero, Nat.zero_add]); omega⟩ HO.out hX)
    clear hr hX
    go_wp2_with fail
    refine HC40.out.mono ?_
    rintro e wb ⟨rfl, hb⟩
    have HB39 := Lib.hid hb
    clear hb
    unfold wrongP
    go_wp2
    exact ⟨rfl, by rw [← HRR37.out]; exact ⟨rfl, HB39.out⟩⟩
   | ok t35 j36 =>
    have hft := (fit_all HTK.out f).one (.colon true) o (i + 1) HLT3.out
    rw [hX] at hft
    obtain ⟨f1, f2, f3⟩ := hft
    simp only [lazy1, sl1, ex1, Bool.false_eq_true, if_false, if_true] at f2 f3
    have HF38 := Lib.hid (And.intro f1 (And.intro f2 f3))
    clear f1 f2 f3
    have HC44 := Lib.hid (call_ok ((HAP.out f (Nat.le_refl f)).colon true) HS22.out ⟨HLT3.out, by have := HRM.out; have := HI.out; have := HLT3.out; (try simp only [ptsS, ptS, noneT, ptsS_append, Nat.add_zero, Nat.zero_add]); omega⟩ HO.out hX)
    dsimp only [Res.then] at hr
    clear hX
    have HR := Lib.hid hr
    clear hr
    go_wp2_with fail
    clear x27 xl28 x29 x30 x31 x32 x33 xl34
    refine HC44.out.mono ?_
    rintro e w41 ⟨rfl, fp42, h1, h2⟩
    obtain ⟨n45, hn⟩ : ∃ n, n = nr ns [] t35 := ⟨_, rfl⟩
    rw [← hn]
    have HN46 := Lib.hid hn
    have HS43 := Lib.hid (show St K w p j36 o sn ns fp [t35] w41 fp42 from h1)
    have HX47 := Lib.hid (Away.blkTo HX25.out HA26.out h2)
    have HA48 := Lib.hid (HA26.out.to h2)
    have HX49 := Lib.hid (Away.blkTo HX20.out HA21.out h2)
    have HA50 := Lib.hid (HA21.out.to h2)
    clear h1 h2 hn
    have x51 := cell_of_blk (i := 0) HX47.out rfl
    have xl52 := blk_lt HX47.out
    have x53 := cell_of_blk (i := 0) HX49.out rfl
    have x54 := cell_of_blk (i := 1) HX49.out rfl
    have x55 := cell_of_blk (i := 2) HX49.out rfl
    have x56 := cell_of_blk (i := 3) HX49.out rfl
    have x57 := cell_of_blk (i := 4) HX49.out rfl
    have xl58 := blk_lt HX49.out
    have hr := HR.out
    clear HR
    have HRR60 := Lib.hid (show Res.ok _ _ = r from Option.some.inj hr)
    clear hr
    have HL59 := Lib.hid (show ∀ W, W = w41.alloc (.cells #[natV n45] 3) → Calls Tryz.prog 23 #[.pointer (some ⟨p, 0, none⟩), .int .i64 23, .string (tk K.T i).text, natV (tk K.T i).a, .slice (some ⟨w41.heap.size, 0, none⟩) 1 1] W (OutP K w p o sn ns fp (.ok (.mk 23 (tk K.T i).text (tk K.T i).a [t35]) j36)) from fun W hW => by
     subst hW
     exact lay_fin (HS43.out.below ((Below.refl _ _).alloc (Nat.le_refl _) _)) (by have := HRM.out; have := HI.out; have := HLT3.out; have := HF38.out; (try simp only [ptsS, ptS, noneT, ptsS_append, List.nil_append, List.cons_append, Nat.add_zero, Nat.zero_add]); omega) (by simp) 23 (tk K.T i).text (tk K.T i).a (KidsV.new w41 n45 [] _ rfl) (by simp only [HN46.out, nr, roots, ptsS, Nat.add_zero, Nat.add_assoc]))
    try unfold natV
    go_wp2_with fail
    refine (HL59.out _ rfl).mono ?_
    rintro e wz ⟨rfl, fpz, h1, h2⟩
    have HZ61 := Lib.hid (show OutP K w p o sn ns fp (.ok (.mk 23 (tk K.T i).text (tk K.T i).a [t35]) j36) (.returned _) wz from ⟨rfl, fpz, h1, h2⟩)
    clear h1 h2
    go_wp2
    go_ret
    exact (by rw [← HRR60.out]; exact HZ61.out)
 ·rw [if_neg hk] at hr
  have HRR4 := Lib.hid (show Res.bad _ _ = r from (by exact Option.some.inj hr))
  have HC8 := Lib.hid ((variable_no HS0.out.pa HI.out hk).mono fun e w' hh => (show OutB w p _ 70 e w' from ⟨hh.1, HS0.out.bad HB.out hh.2⟩))
  clear hr hk
  go_wp2_with fail
  refine HC8.out.mono ?_
  rintro e wb ⟨rfl, hb⟩
  have HB7 := Lib.hid hb
  clear hb
  unfold wrongP
  go_wp2
  exact ⟨rfl, by rw [← HRR4.out]; exact ⟨rfl, HB7.out⟩⟩
set_option maxRecDepth 100000 in
theorem clos_kind {f : Nat} (AP : ∀ g, g ≤ f → AllPart g) (a : Nat) : ClosA (f + 1) a (.kindF a) 111 := by
 intro K w p i o sn ns fp b b2 h hroom ho hb1 ha1 hb2 ha2 r hr
 change stepKindF K.T (parF K.T f) a o i = some r at hr
 unfold stepKindF at hr
 have HB := Lib.hid (Beg.of h)
 have HTK := Lib.hid h.env.tok
 have HRM := Lib.hid hroom.2
 have HI := Lib.hid hroom.1
 have HO := Lib.hid ho
 have HS0 := Lib.hid (St.start h)
 have HLN := Lib.hid h.env.len
 have HAP := Lib.hid AP
 have HX0 := Lib.hid hb1
 have HA0 := Lib.hid ha1
 have HX00 := Lib.hid hb2
 have HA00 := Lib.hid ha2
 clear h hroom ho AP hb1 ha1 hb2 ha2
 have HR := Lib.hid hr
 clear hr
 go_enter Tryz.func111, Tryz.ntmps111
 have x1 := cell_of_blk (i := 0) HX0.out rfl
 have xl2 := blk_lt HX0.out
 have x3 := cell_of_blk (i := 0) HX00.out rfl
 have xl4 := blk_lt HX00.out
 have hr := HR.out
 clear HR
 have HOLD := Lib.hid (show b2 < w.heap.size from HA00.out.2.1)
 obtain ⟨X, hX⟩ : ∃ X, (parF K.T f).many (.until ⟨#[41]⟩ .kind []) o i = X := ⟨_, rfl⟩
 rw [hX] at hr
 cases X with
 | none => exact absurd hr (by simp [Res.then])
 | some X =>
 cases X with
 | bad a n =>
  have HRR7 := Lib.hid (show Res.bad a n = r from by dsimp only [Res.then] at hr; exact Option.some.inj hr)
  have HC20 := Lib.hid (until_rowno (fn := 95) (fst := #[.pointer (some ⟨p, 0, none⟩)]) (cap := #[]) (args := #[.pointer (some ⟨p, 0, none⟩)]) HS0.out HB.out ⟨HI.out, by have := HRM.out; have := HI.out; (try simp only [ptsS, ptS, noneT, ptsS_append, Nat.add_zero, Nat.zero_add]); omega⟩ HO.out ⟨#[41]⟩ .kind (fun W => rfl) rfl (fun _ _ _ => True) trivial (fun _ _ _ _ _ _ _ _ => trivial) (fun g acc w1 i1 ns1 fp1 hg h1 h2 h3 r hr => item_fn (nt := .exp) (g := g) (o := o) ((HAP.out g hg).kind K w1 p i1 o sn ns1 fp1 h1 h2 HO.out r hr)) hX)
  clear hr hX
  go_wp2_with fail
  refine HC20.out.mono ?_
  rintro e wb ⟨rfl, hb⟩
  have HB19 := Lib.hid hb
  clear hb
  unfold wrongP
  go_wp2
  exact ⟨rfl, by rw [← HRR7.out]; exact ⟨rfl, HB19.out⟩⟩
 | ok l5 j6 =>
  dsimp only [Res.then] at hr
  have hft := (fit_all HTK.out f).many (.until ⟨#[41]⟩ .kind []) o i HI.out
  rw [hX] at hft
  obtain ⟨f1, f2, f3⟩ := hft
  simp only [ptsS, Nat.zero_add] at f3
  have HF8 := Lib.hid (And.intro f1 (And.intro f2 f3))
  clear f1 f2 f3
  have HC14 := Lib.hid (until_row (fn := 95) (fst := #[.pointer (some ⟨p, 0, none⟩)]) (cap := #[]) (args := #[.pointer (some ⟨p, 0, none⟩)]) HS0.out ⟨HI.out, by have := HRM.out; have := HI.out; (try simp only [ptsS, ptS, noneT, ptsS_append, Nat.add_zero, Nat.zero_add]); omega⟩ HO.out ⟨#[41]⟩ .kind (fun W => rfl) rfl (fun _ _ _ => True) trivial (fun _ _ _ _ _ _ _ _ => trivial) (fun g acc w1 i1 ns1 fp1 hg h1 h2 h3 r hr => item_fn (nt := .exp) (g := g) (o := o) ((HAP.out g hg).kind K w1 p i1 o sn ns1 fp1 h1 h2 HO.out r hr)) hX)
  clear hX
  have HR := Lib.hid hr
  clear hr
  go_wp2_with fail
  clear x1 xl2 x3 xl4
  refine HC14.out.mono ?_
  rintro e w12 ⟨A9, c10, fp11, rfl, h1, h2, h3, h4⟩
  obtain ⟨k17, hrl⟩ : ∃ k, k = l5.length := ⟨_, rfl⟩
  rw [← hrl] at h3 h4 ⊢
  have HS13 := Lib.hid h1
  have HV15 := Lib.hid h3
  have HGO16 := Lib.hid h4
  have HK18 := Lib.hid hrl
  have HX21 := Lib.hid (Away.blkTo HX0.out HA0.out h2)
  have HA22 := Lib.hid (HA0.out.to h2)
  have HX23 := Lib.hid (Away.blkTo HX00.out HA00.out h2)
  have HA24 := Lib.hid (HA00.out.to h2)
  clear h1 h2 h3 h4 hrl
  have x25 := cell_of_blk (i := 0) HX21.out rfl
  have xl26 := blk_lt HX21.out
  have x27 := cell_of_blk (i := 0) HX23.out rfl
  have xl28 := blk_lt HX23.out
  have hr := HR.out
  clear HR
  unfold need at hr
  cases hb : isAny (tk K.T j6) [⟨#[45, 62]⟩] with
  | false =>
   rw [if_neg (by rw [hb]; decide)] at hr
   have HRR30 := Lib.hid (show Res.bad _ _ = r from (by exact Option.some.inj hr))
   have HC32 := Lib.hid ((need_no HS13.out.pa HF8.out.1 ⟨#[45, 62]⟩ hb).mono fun e w' hh => (show OutB w p _ 70 e w' from ⟨hh.1, HS13.out.bad HB.out hh.2⟩))
   clear hr
   go_wp2_with fail
   refine HC32.out.mono ?_
   rintro e wb ⟨rfl, hb⟩
   have HB31 := Lib.hid hb
   clear hb
   unfold wrongP
   go_wp2
   exact ⟨rfl, by rw [← HRR30.out]; exact ⟨rfl, HB31.out⟩⟩
  | true =>
   rw [if_pos hb] at hr
   have HLT29 := Lib.hid (any_lt HTK.out HF8.out.1 hb)
   have HC35 := Lib.hid (need_yes HS13.out.pa HF8.out.1 ⟨#[45, 62]⟩ hb)
   clear hb
   have HR := Lib.hid hr
   clear hr
   go_wp2_with fail
   clear x25 xl26 x27 xl28
   refine HC35.out.mono ?_
   rintro e w33 ⟨rfl, h1, h2⟩
   have HS34 := Lib.hid (HS13.out.step h1 h2)
   have HX36 := Lib.hid (Away.blkTo HX21.out HA22.out h2)
   have HA37 := Lib.hid (HA22.out.to h2)
   have HX38 := Lib.hid (Away.blkTo HX23.out HA24.out h2)
   have HA39 := Lib.hid (HA24.out.to h2)
   have HV40 := Lib.hid (HV15.out.to h2)
   clear h1 h2
   have x41 := cell_of_blk (i := 0) HX36.out rfl
   have xl42 := blk_lt HX36.out
   have x43 := cell_of_blk (i := 0) HX38.out rfl
   have xl44 := blk_lt HX38.out
   have hr := HR.out
   clear HR
   obtain ⟨X, hX⟩ : ∃ X, (parF K.T f).one (.kind) o (j6 + 1) = X := ⟨_, rfl⟩
   rw [hX] at hr
   cases X with
   | none => exact absurd hr (by simp [Res.then])
   | some X =>
   cases X with
   | bad a n =>
    have HRR47 := Lib.hid (show Res.bad a n = r from (by dsimp only [Res.then] at hr; exact Option.some.inj hr))
    have HC50 := Lib.hid (call_bad ((HAP.out f (Nat.le_refl f)).kind) HS34.out HB.out ⟨HLT29.out, by have := HRM.out; have := HI.out; have := HF8.out; have := HLT29.out; (try simp only [ptsS, ptS, noneT, ptsS_append, Nat.add_zero, Nat.zero_add]); omega⟩ HO.out hX)
    clear hr hX
    go_wp2_with fail
    refine HC50.out.mono ?_
    rintro e wb ⟨rfl, hb⟩
    have HB49 := Lib.hid hb
    clear hb
    unfold wrongP
    go_wp2
    exact ⟨rfl, by rw [← HRR47.out]; exact ⟨rfl, HB49.out⟩⟩
   | ok t45 j46 =>
    have hft := (fit_all HTK.out f).one (.kind) o (j6 + 1) HLT29.out
    rw [hX] at hft
    obtain ⟨f1, f2, f3⟩ := hft
    simp only [lazy1, sl1, ex1, Bool.false_eq_true, if_false, if_true] at f2 f3
    have HF48 := Lib.hid (And.intro f1 (And.intro f2 f3))
    clear f1 f2 f3
    have HC54 := Lib.hid (call_ok ((HAP.out f (Nat.le_refl f)).kind) HS34.out ⟨HLT29.out, by have := HRM.out; have := HI.out; have := HF8.out; have := HLT29.out; (try simp only [ptsS, ptS, noneT, ptsS_append, Nat.add_zero, Nat.zero_add]); omega⟩ HO.out hX)
    dsimp only [Res.then] at hr
    clear hX
    have HR := Lib.hid hr
    clear hr
    go_wp2_with fail
    clear x41 xl42 x43 xl44
    refine HC54.out.mono ?_
    rintro e w51 ⟨rfl, fp52, h1, h2⟩
    obtain ⟨n55, hn⟩ : ∃ n, n = nr ns l5 t45 := ⟨_, rfl⟩
    rw [← hn]
    have HN56 := Lib.hid hn
    have HS53 := Lib.hid (show St K w p j46 o sn ns fp (l5 ++ [t45]) w51 fp52 from h1)
    have HX57 := Lib.hid (Away.blkTo HX36.out HA37.out h2)
    have HA58 := Lib.hid (HA37.out.to h2)
    have HX59 := Lib.hid (Away.blkTo HX38.out HA39.out h2)
    have HA60 := Lib.hid (HA39.out.to h2)
    have HV61 := Lib.hid (HV40.out.to h2)
    clear h1 h2 hn
    have x62 := cell_of_blk (i := 0) HX57.out rfl
    have xl63 := blk_lt HX57.out
    have x64 := cell_of_blk (i := 0) HX59.out rfl
    have xl65 := blk_lt HX59.out
    have hr := HR.out
    clear HR
    have HKB75 := Lib.hid (show k17 ≤ 900000 by have h9 := HK18.out; have h8 := ptsS_len l5; have h7 := (show ns.length + ptsS (l5 ++ [t45]) + 4 * (K.T.length - j46) ≤ 900000 from by have := HRM.out; have := HI.out; have := HF8.out; have := HLT29.out; have := HF48.out; (try simp only [ptsS, ptS, noneT, ptsS_append, Nat.add_zero, Nat.zero_add]); omega); (try simp only [ptsS_append, List.length_append] at h7 h8 h9); omega)
    try unfold natV
    have HR := Lib.hid hr
    clear hr
    go_wp2_with (at_builtin; (refine wpList_push (n := n55) rfl _ _ rfl HS53.out HV61.out (by rw [roots_len]; exact HK18.out) HKB75.out (B := w.heap.size) (Nat.le_refl _) HS53.out.pt.fr.size HGO16.out rfl rfl rfl ?_); intro g66 cap67 w68 h1 h2 h3 h4; clear x62 xl63 x64 xl65; have HS71 := Lib.hid h1; have HV69 := Lib.hid h2; have HGO70 := Lib.hid h3; have HX76 := Lib.hid (h4.blk HX57.out (.inl (by decide))); have HA77 := Lib.hid (HA58.out.on h4.size); have HX78 := Lib.hid (h4.blk HX59.out (.inr HOLD.out)); have HA79 := Lib.hid (HA60.out.on h4.size); have x80 := cell_of_blk (i := 0) HX76.out rfl; have xl81 := blk_lt HX76.out; have x82 := cell_of_blk (i := 0) HX78.out rfl; have xl83 := blk_lt HX78.out; clear h1 h2 h3 h4)
    obtain ⟨k73, hk2⟩ : ∃ k, k = k17 + 1 := ⟨_, rfl⟩
    have HK74 := Lib.hid (show k73 = (l5 ++ [t45]).length by rw [hk2, HK18.out]; simp)
    have HV84 := Lib.hid (show Ints w68 p fp52 (.slice (some ⟨g66, 0, none⟩) k73 cap67) (roots ns.length (l5 ++ [t45])) by rw [roots_more, ← HN56.out, hk2]; exact HV69.out)
    rw [← hk2] at HGO70
    try rw [← hk2]
    clear hk2
    have hr := HR.out
    clear HR
    have HRR86 := Lib.hid (show Res.ok _ _ = r from Option.some.inj hr)
    clear hr
    have HL85 := Lib.hid (lay_row HS71.out (by have h7 := (show ns.length + ptsS (l5 ++ [t45]) + 4 * (K.T.length - j46) ≤ 900000 from by have := HRM.out; have := HI.out; have := HF8.out; have := HLT29.out; have := HF48.out; (try simp only [ptsS, ptS, noneT, ptsS_append, Nat.add_zero, Nat.zero_add]); omega); omega) 34 ⟨#[]⟩ a HV84.out)
    go_wp2_with fail
    refine HL85.out.mono ?_
    rintro e wz ⟨rfl, fpz, h1, h2⟩
    have HZ87 := Lib.hid (show OutP K w p o sn ns fp (.ok (.mk 34 ⟨#[]⟩ a (l5 ++ [t45])) j46) (.returned _) wz from ⟨rfl, fpz, h1, h2⟩)
    clear h1 h2
    go_wp2
    go_ret
    exact (by rw [← HRR86.out]; first | exact HZ87.out | (have h9 := HZ87.out; rw [List.append_assoc] at h9; exact h9))

set_option maxRecDepth 100000 in
theorem walk_block {f : Nat} (AP : ∀ g, g ≤ f → AllPart g)  : Callee (f + 1) .block 21 (fun p => #[.pointer (some ⟨p, 0, none⟩)]) := by
 intro K w p i o sn ns fp h hroom ho r hr
 change stepBlock K.T (parF K.T f) o i = some r at hr
 unfold stepBlock at hr
 have HB := Lib.hid (Beg.of h)
 have HTK := Lib.hid h.env.tok
 have HRM := Lib.hid hroom.2
 have HI := Lib.hid hroom.1
 have HO := Lib.hid ho
 have HS0 := Lib.hid (St.start h)
 have HLN := Lib.hid h.env.len
 have HAP := Lib.hid AP
 clear h hroom ho AP
 have HR := Lib.hid hr
 clear hr
 go_enter Tryz.func21, Tryz.ntmps21
 have hr := HR.out
 clear HR
 have HC3 := Lib.hid (at_any HS0.out.pa HI.out)
 have HR := Lib.hid hr
 clear hr
 go_wp2_with fail
 refine HC3.out.mono ?_
 rintro e w1 ⟨rfl, h2⟩
 have HS2 := Lib.hid (HS0.out.below h2)
 clear h2
 have hr := HR.out
 clear HR
 obtain ⟨X, hX⟩ : ∃ X, (parF K.T f).many (.stats false []) o i = X := ⟨_, rfl⟩
 rw [hX] at hr
 cases X with
 | none => exact absurd hr (by simp [Res.then])
 | some r1 =>
 have HX := Lib.hid hX
 have HRT := Lib.hid hr
 clear hX hr
 unfold natV
 go_wp2_with fail
 go_loopw [4, 5] (fun lv bv wr => ∃ (acc : List PT) (last : Bool) (i1 : Nat) (fp1 : List Nat) (f1 : Nat), bv = .bool last ∧ Hid (St K w p i1 o sn ns fp acc wr fp1) ∧ Hid (Ints wr p fp1 lv (roots ns.length acc)) ∧ Hid (∀ g', lv.ownBlock = some g' → w.heap.size ≤ g') ∧ Hid (f1 ≤ f ∧ (parF K.T f1).many (.stats last acc) o i1 = some r1) ∧ Hid (i1 < K.T.length ∧ ns.length + ptsS acc + 4 * (K.T.length - i1) ≤ 900000)) (fun lv _ _ => 900001 - sliceLen lv)
 case atStart => exact ⟨[], false, i, fp, f, rfl, HS2, Lib.hid (Ints.nil _ _ _), Lib.hid (fun g' hg' => by simp [Value.ownBlock] at hg'), Lib.hid ⟨Nat.le_refl _, HX.out⟩, Lib.hid ⟨HI.out, by have := HRM.out; simp only [ptsS]; omega⟩⟩
 case round =>
  obtain ⟨acc, last, i1, fp1, f1, rfl, HS, HV, HG, HR0, HRL⟩ := hrel
  obtain ⟨hle, hr⟩ := HR0.out
  clear HR0
  cases f1 with
  | zero => exact absurd hr (by simp [parF])
  | succ f =>
  have HAP := Lib.hid (fun g (hg : g ≤ f) => HAP.out g (by omega))
  have HLE := Lib.hid hle
  clear hle
  change stepStats K.T (parF K.T f) last acc o i1 = some r1 at hr
  unfold stepStats at hr
  obtain ⟨A1, c1, hlv, hlc1, hlc2, hfm⟩ := own_form HV.out.own
  subst hlv
  obtain ⟨rl, hrl⟩ : ∃ k, k = (roots ns.length acc).length := ⟨_, rfl⟩
  have HKR := Lib.hid (show rl = acc.length by rw [hrl, roots_len])
  have HVR := Lib.hid (show Ints _ p _ (.slice A1 rl c1) (roots ns.length acc) by rw [hrl]; exact HV.out)
  rw [← hrl]
  clear hlc1 hlc2 hfm
  have HGR := Lib.hid (show ∀ g', (Value.slice A1 rl c1).ownBlock = some g' → w.heap.size ≤ g' by rw [hrl]; exact HG.out)
  clear hrl
  cases last with
  | true =>
   rw [if_pos (by rfl)] at hr
   have hlq : True := trivial
   have h1 := Option.some.inj hr
   subst h1
   clear hr
   have hr := HRT.out
   dsimp only [Res.then] at hr
   clear HRT
   have HRR5 := Lib.hid (show Res.ok _ _ = r from Option.some.inj hr)
   clear hr
   have HL4 := Lib.hid (lay_row HS.out (by have h7 := (show ns.length + ptsS acc + 4 * (K.T.length - i1) ≤ 900000 from by have := HRM.out; have := HRL.out; (try simp only [ptsS, ptS, noneT, ptsS_append, Nat.add_zero, Nat.zero_add]); omega); omega) 3 ⟨#[]⟩ (tk K.T i).a HVR.out)
   go_wp2_with fail
   refine HL4.out.mono ?_
   rintro e wz ⟨rfl, fpz, h1, h2⟩
   have HZ6 := Lib.hid (show OutP K w p o sn ns fp (.ok (.mk 3 ⟨#[]⟩ (tk K.T i).a acc) i1) (.returned _) wz from ⟨rfl, fpz, h1, h2⟩)
   clear h1 h2
   go_wp2
   go_ret
   exact (by rw [← HRR5.out]; first | exact HZ6.out | (have h9 := HZ6.out; rw [List.append_assoc] at h9; exact h9))
  | false =>
   have HC9 := Lib.hid (over_any HS.out.pa HRL.out.1)
   have HR := Lib.hid hr
   clear hr
   go_wp2_with fail
   refine HC9.out.mono ?_
   rintro e w7 ⟨rfl, h2⟩
   have HS8 := Lib.hid (HS.out.below h2)
   have HV10 := Lib.hid (HVR.out.to (PaTo.of_below HS.out.pa h2))
   clear h2
   have hr := HR.out
   clear HR
   cases hov : overL K.T i1 with
   | true =>
    rw [hov, Bool.or_true, if_pos rfl] at hr
    have h1 := Option.some.inj hr
    subst h1
    clear hr
    have hr := HRT.out
    dsimp only [Res.then] at hr
    clear HRT
    have HRR12 := Lib.hid (show Res.ok _ _ = r from Option.some.inj hr)
    clear hr
    have HL11 := Lib.hid (lay_row HS8.out (by have h7 := (show ns.length + ptsS acc + 4 * (K.T.length - i1) ≤ 900000 from by have := HRM.out; have := HRL.out; (try simp only [ptsS, ptS, noneT, ptsS_append, Nat.add_zero, Nat.zero_add]); omega); omega) 3 ⟨#[]⟩ (tk K.T i).a HV10.out)
    go_wp2_with fail
    refine HL11.out.mono ?_
    rintro e wz ⟨rfl, fpz, h1, h2⟩
    have HZ13 := Lib.hid (show OutP K w p o sn ns fp (.ok (.mk 3 ⟨#[]⟩ (tk K.T i).a acc) i1) (.returned _) wz from ⟨rfl, fpz, h1, h2⟩)
    clear h1 h2
    go_wp2
    go_ret
    exact (by rw [← HRR12.out]; first | exact HZ13.out | (have h9 := HZ13.out; rw [List.append_assoc] at h9; exact h9))
   | false =>
    rw [hov, Bool.or_false, if_neg (by decide)] at hr
    have HC14 := Lib.hid (fun W (hW : W = w7.alloc (.cells #[.string ⟨#[114, 101, 116, 117, 114, 110]⟩, .string ⟨#[98, 114, 101, 97, 107]⟩] 9)) => (show Calls Tryz.prog 19 #[.pointer (some ⟨p, 0, none⟩), .slice (some ⟨w7.heap.size, 0, none⟩) 2 2] W (RetB (.bool (isAny (tk K.T i1) [⟨#[114, 101, 116, 117, 114, 110]⟩, ⟨#[98, 114, 101, 97, 107]⟩])) W) from
     is_any (K := K) (i := i1) (o := o) (sn := sn) (ns := ns ++ flats ns.length acc) (fp := fp1) (c := 2) (L := [⟨#[114, 101, 116, 117, 114, 110]⟩, ⟨#[98, 114, 101, 97, 107]⟩]) (hW ▸ HS8.out.pa.below ((Below.refl _ _).alloc (Nat.le_refl _) _)) HRL.out.1 (by rw [hW]; exact .inr ⟨⟨w7.heap.size, 0, none⟩, rfl, by simp, fun j u hu => news_new w7 #[.string ⟨#[114, 101, 116, 117, 114, 110]⟩, .string ⟨#[98, 114, 101, 97, 107]⟩] _ _ rfl j u hu⟩) (by simp)))
    have HR := Lib.hid hr
    clear hr
    go_wp2_with fail
    refine (HC14.out _ rfl).mono ?_
    rintro e w15 ⟨rfl, h2⟩
    have HK17 := Lib.hid (show Below w7.heap.size w7 w15 from ((Below.refl _ _).alloc (Nat.le_refl _) _).trans (h2.mono (by simp)))
    have HS16 := Lib.hid (HS8.out.below HK17.out)
    have HV18 := Lib.hid (HV10.out.to (PaTo.of_below HS8.out.pa HK17.out))
    clear h2
    have hr := HR.out
    clear HR
    obtain ⟨X, hX⟩ : ∃ X, (parF K.T f).one (.stat) o i1 = X := ⟨_, rfl⟩
    rw [hX] at hr
    cases X with
    | none => exact absurd hr (by simp [Res.then])
    | some X =>
    cases X with
    | bad a n =>
     have HRR21 := Lib.hid (show Res.bad a n = r from (by dsimp only [Res.then] at hr; have h1 := Option.some.inj hr; have h2 := HRT.out; rw [← h1] at h2; dsimp only [Res.then] at h2; exact Option.some.inj h2))
     have HC24 := Lib.hid (call_bad ((HAP.out f (Nat.le_refl f)).stat) HS16.out HB.out ⟨HRL.out.1, by have := HRM.out; have := HRL.out; (try simp only [ptsS, ptS, noneT, ptsS_append, Nat.add_zero, Nat.zero_add]); omega⟩ HO.out hX)
     clear hr hX
     go_wp2_with fail
     refine HC24.out.mono ?_
     rintro e wb ⟨rfl, hb⟩
     have HB23 := Lib.hid hb
     clear hb
     unfold wrongP
     go_wp2
     exact ⟨rfl, by rw [← HRR21.out]; exact ⟨rfl, HB23.out⟩⟩
    | ok t19 j20 =>
     have hft := (fit_all HTK.out f).one (.stat) o i1 HRL.out.1
     rw [hX] at hft
     obtain ⟨f1, f2, f3⟩ := hft
     simp only [lazy1, sl1, ex1, Bool.false_eq_true, if_false, if_true] at f2 f3
     have HF22 := Lib.hid (And.intro f1 (And.intro f2 f3))
     clear f1 f2 f3
     have HC28 := Lib.hid (call_ok ((HAP.out f (Nat.le_refl f)).stat) HS16.out ⟨HRL.out.1, by have := HRM.out; have := HRL.out; (try simp only [ptsS, ptS, noneT, ptsS_append, Nat.add_zero, Nat.zero_add]); omega⟩ HO.out hX)
     dsimp only [Res.then] at hr
     clear hX
     have HR := Lib.hid hr
     clear hr
     go_wp2_with fail
     refine HC28.out.mono ?_
     rintro e w25 ⟨rfl, fp26, h1, h2⟩
     obtain ⟨n29, hn⟩ : ∃ n, n = nr ns acc t19 := ⟨_, rfl⟩
     rw [← hn]
     have HN30 := Lib.hid hn
     have HS27 := Lib.hid (show St K w p j20 o sn ns fp (acc ++ [t19]) w25 fp26 from h1)
     have HV31 := Lib.hid (HV18.out.to h2)
     clear h1 h2 hn
     have hr := HR.out
     clear HR
     have HKB41 := Lib.hid (show rl ≤ 900000 by have h9 := HKR.out; have h8 := ptsS_len acc; have h7 := (show ns.length + ptsS (acc ++ [t19]) + 4 * (K.T.length - j20) ≤ 900000 from by have := HRM.out; have := HRL.out; have := HF22.out; (try simp only [ptsS, ptS, noneT, ptsS_append, Nat.add_zero, Nat.zero_add]); omega); (try simp only [ptsS_append, List.length_append] at h7 h8 h9); omega)
     try unfold natV
     have HR := Lib.hid hr
     clear hr
     go_wp2_with (at_builtin; (refine wpList_push (n := n29) rfl _ _ rfl HS27.out HV31.out (by rw [roots_len]; exact HKR.out) HKB41.out (B := w.heap.size) (Nat.le_refl _) HS27.out.pt.fr.size HGR.out rfl rfl rfl ?_); intro g32 cap33 w34 h1 h2 h3 h4; skip; have HS37 := Lib.hid h1; have HV35 := Lib.hid h2; have HGO36 := Lib.hid h3; clear h1 h2 h3 h4)
     obtain ⟨k39, hk2⟩ : ∃ k, k = rl + 1 := ⟨_, rfl⟩
     have HK40 := Lib.hid (show k39 = (acc ++ [t19]).length by rw [hk2, HKR.out]; simp)
     have HV42 := Lib.hid (show Ints w34 p fp26 (.slice (some ⟨g32, 0, none⟩) k39 cap33) (roots ns.length (acc ++ [t19])) by rw [roots_more, ← HN30.out, hk2]; exact HV35.out)
     rw [← hk2] at HGO36
     try rw [← hk2]
     clear hk2
     have hr := HR.out
     clear HR
     have HRF := Lib.hid hr
     clear hr
     go_roundw
     case rel => exact ⟨_, _, j20, fp26, f, rfl, HS37, HV42, HGO36, Lib.hid ⟨by have := HLE.out; omega, HRF.out⟩, Lib.hid ⟨HF22.out.1, by have := HRM.out; have := HRL.out; have := HF22.out; (try simp only [ptsS, ptS, noneT, ptsS_append, Nat.add_zero, Nat.zero_add]); omega⟩⟩
     case measure => have h5 := HK40.out; rw [List.length_append, List.length_singleton] at h5; have := HKR.out; have h8 := ptsS_len acc; have := HRL.out; simp [sliceLen]; omega

def ChS (K : PaK) (p b : Nat) (t : Tok) (w w' : World) : Prop := w'.cell? ⟨p, 4, none⟩ = some (.map (some K.rb)) ∧ w'.heap[b]? = some (.cells (tokA0 t) 65 (0, 0)) ∧ w'.heap[K.rb]? = w.heap[K.rb]?
theorem look_rank {K : PaK} {w : World} {p : Nat} (h : PaEnv K w p) (s : ByteArray) (hs : s.size ≤ maxLen) :
  ∀ W : World, W.heap[K.rb]? = w.heap[K.rb]? → (Instr.lookup 42 (.map (some K.rb)) (.string s) false).run Tryz.prog W = .ok (.int .i64 (rankL s : Int)) W := fun W hW => by
 have h' : W.ownsMap Tryz.prog 9 (plainElem Tryz.prog 3) K.rb K.rn K.D := by
  obtain ⟨es, clock, hb, r⟩ := h.rk
  exact ⟨es, clock, hW.trans hb, r⟩
 obtain ⟨c, hrun, hat, _⟩ := h'.lookup_int lawS Tryz.underlying42 Tryz.underlying3 (Tryz.zeroValue3 W) (name_key hs)
 have := hat.symm.trans (h.rks s)
 rw [hrun]
 simp only [DataW.lit.injEq, Lit.int.injEq, true_and] at this
 rw [this]
set_option maxRecDepth 100000 in
theorem walk_chain {f : Nat} (AP : ∀ g, g ≤ f → AllPart g) (rk : Nat) (hr7 : rk ≤ 7) : Callee (f + 1) (.chain rk) 99 (fun p => #[.pointer (some ⟨p, 0, none⟩), natV rk]) := by
 intro K w p i o sn ns fp h hroom ho r hr
 change stepChain (parF K.T f) rk o i = some r at hr
 unfold stepChain at hr
 have HB := Lib.hid (Beg.of h)
 have HTK := Lib.hid h.env.tok
 have HRM := Lib.hid hroom.2
 have HI := Lib.hid hroom.1
 have HO := Lib.hid ho
 have HS0 := Lib.hid (St.start h)
 have HLN := Lib.hid h.env.len
 have HAP := Lib.hid AP
 clear h hroom ho AP
 have HR7 := Lib.hid hr7
 have HR := Lib.hid hr
 clear hr
 go_enter Tryz.func99, Tryz.ntmps99
 have hr := HR.out
 clear HR
 by_cases h6 : 6 < rk
 ·unfold natV
  have hq6 : (6 : Int) < (rk : Int) := by omega
  rw [if_pos h6] at hr
  clear h6
  obtain ⟨X, hX⟩ : ∃ X, (parF K.T f).one (.unary) o i = X := ⟨_, rfl⟩
  rw [hX] at hr
  cases X with
  | none => exact absurd hr (by simp [Res.then])
  | some X =>
  cases X with
  | bad a n =>
   have HRR3 := Lib.hid (show Res.bad a n = r from (by exact Option.some.inj hr))
   have HC6 := Lib.hid (call_bad ((HAP.out f (Nat.le_refl f)).unary) HS0.out HB.out ⟨HI.out, by have := HRM.out; have := HI.out; (try simp only [ptsS, ptS, noneT, ptsS_append, Nat.add_zero, Nat.zero_add]); omega⟩ HO.out hX)
   clear hr hX
   go_wp2_with fail
   refine HC6.out.mono ?_
   rintro e wb ⟨rfl, hb⟩
   have HB5 := Lib.hid hb
   clear hb
   unfold wrongP
   go_wp2
   exact ⟨rfl, by rw [← HRR3.out]; exact ⟨rfl, HB5.out⟩⟩
  | ok t1 j2 =>
   have hft := (fit_all HTK.out f).one (.unary) o i HI.out
   rw [hX] at hft
   obtain ⟨f1, f2, f3⟩ := hft
   simp only [lazy1, sl1, ex1, Bool.false_eq_true, if_false, if_true] at f2 f3
   have HF4 := Lib.hid (And.intro f1 (And.intro f2 f3))
   clear f1 f2 f3
   have HC10 := Lib.hid (call_ok ((HAP.out f (Nat.le_refl f)).unary) HS0.out ⟨HI.out, by have := HRM.out; have := HI.out; (try simp only [ptsS, ptS, noneT, ptsS_append, Nat.add_zero, Nat.zero_add]); omega⟩ HO.out hX)
   clear hX
   have HR := Lib.hid hr
   clear hr
   go_wp2_with fail
   refine HC10.out.mono ?_
   rintro e w7 ⟨rfl, fp8, h1, h2⟩
   obtain ⟨n11, hn⟩ : ∃ n, n = nr ns [] t1 := ⟨_, rfl⟩
   rw [← hn]
   have HN12 := Lib.hid hn
   have HS9 := Lib.hid (show St K w p j2 o sn ns fp [t1] w7 fp8 from h1)
   clear h1 h2 hn
   have hr := HR.out
   clear HR
   have HRR13 := Lib.hid (show Res.ok _ _ = r from Option.some.inj hr)
   clear hr
   go_wp2
   go_ret
   exact (by rw [← HRR13.out, HN12.out]; exact HS9.out.out)
 ·have hq6 : ¬ (6 : Int) < (rk : Int) := by omega
  rw [if_neg h6] at hr
  obtain ⟨rk1, hrk1⟩ : ∃ k, k = rk + 1 := ⟨_, rfl⟩
  rw [← hrk1] at hr
  have hradd : (rk : Int) + 1 = (rk1 : Int) := by omega
  have hrw : IntKind.i64.wrap (rk1 : Int) = (rk1 : Int) := IntWalk.i64_in _ (by omega)
  have hrb : rk1 ≤ 7 := by omega
  have HRK1 := Lib.hid (And.intro hrk1 hrb)
  clear h6 hrk1
  unfold natV
  obtain ⟨X, hX⟩ : ∃ X, (parF K.T f).one (.chain rk1) o i = X := ⟨_, rfl⟩
  rw [hX] at hr
  cases X with
  | none => exact absurd hr (by simp [Res.then])
  | some X =>
  cases X with
  | bad a n =>
   have HRR16 := Lib.hid (show Res.bad a n = r from (by dsimp only [Res.then] at hr; exact Option.some.inj hr))
   have HC19 := Lib.hid (call_bad ((HAP.out f (Nat.le_refl f)).chain rk1 HRK1.out.2) HS0.out HB.out ⟨HI.out, by have := HRM.out; have := HI.out; (try simp only [ptsS, ptS, noneT, ptsS_append, Nat.add_zero, Nat.zero_add]); omega⟩ HO.out hX)
   clear hr hX
   go_wp2_with fail
   refine HC19.out.mono ?_
   rintro e wb ⟨rfl, hb⟩
   have HB18 := Lib.hid hb
   clear hb
   unfold wrongP
   go_wp2
   exact ⟨rfl, by rw [← HRR16.out]; exact ⟨rfl, HB18.out⟩⟩
  | ok t14 j15 =>
   have hft := (fit_all HTK.out f).one (.chain rk1) o i HI.out
   rw [hX] at hft
   obtain ⟨f1, f2, f3⟩ := hft
   simp only [lazy1, sl1, ex1, Bool.false_eq_true, if_false, if_true] at f2 f3
   have HF17 := Lib.hid (And.intro f1 (And.intro f2 f3))
   clear f1 f2 f3
   have HC23 := Lib.hid (call_ok ((HAP.out f (Nat.le_refl f)).chain rk1 HRK1.out.2) HS0.out ⟨HI.out, by have := HRM.out; have := HI.out; (try simp only [ptsS, ptS, noneT, ptsS_append, Nat.add_zero, Nat.zero_add]); omega⟩ HO.out hX)
   dsimp only [Res.then] at hr
   clear hX
   have HR := Lib.hid hr
   clear hr
   go_wp2_with fail
   refine HC23.out.mono ?_
   rintro e w20 ⟨rfl, fp21, h1, h2⟩
   obtain ⟨n24, hn⟩ : ∃ n, n = nr ns [] t14 := ⟨_, rfl⟩
   rw [← hn]
   have HN25 := Lib.hid hn
   have HS22 := Lib.hid (show St K w p j15 o sn ns fp [t14] w20 fp21 from h1)
   clear h1 h2 hn
   have hr := HR.out
   clear HR
   have HR9 := Lib.hid hr
   clear hr
   try unfold natV
   go_wp2_with fail
   go_loopw [5] (fun xv wr => ∃ (x : PT) (nx : Nat) (i1 : Nat) (fp1 : List Nat) (f1 : Nat), xv = .int .i64 (nx : Int) ∧ Hid (nx = nr ns [] x) ∧ Hid (St K w p i1 o sn ns fp [x] wr fp1) ∧ Hid (f1 ≤ f ∧ (parF K.T f1).one (.chainL rk x) o i1 = some r) ∧ Hid (i1 < K.T.length ∧ ns.length + ptsS [x] + 4 * (K.T.length - i1) ≤ 900000)) (fun xv _ => 900001 - (intOf xv).toNat)
   case atStart => exact ⟨t14, n24, j15, fp21, f, rfl, HN25, HS22, Lib.hid ⟨Nat.le_refl _, HR9.out⟩, Lib.hid ⟨HF17.out.1, by have := HRM.out; have := HI.out; have := HF17.out; (try simp only [ptsS, ptS, noneT, ptsS_append, Nat.add_zero, Nat.zero_add]); omega⟩⟩
   case round =>
    obtain ⟨x, nx, i1, fp1, f1, rfl, HNX, HS, HR0, HRL⟩ := hrel
    obtain ⟨hle, hr⟩ := HR0.out
    clear HR0
    cases f1 with
    | zero => exact absurd hr (by simp [parF])
    | succ f =>
    have HAP := Lib.hid (fun g (hg : g ≤ f) => HAP.out g (by omega))
    have HLE := Lib.hid hle
    clear hle
    change stepChainL K.T (parF K.T f) rk x o i1 = some r at hr
    unfold stepChainL at hr
    dsimp only at hr
    have HRLs := Lib.hid (show ns.length + ptS x + 4 * (K.T.length - i1) ≤ 900000 by have h9 := HRL.out.2; rw [ptsS_one] at h9; exact h9)
    have HC28 := Lib.hid (now_any HS.out.pa HRL.out.1)
    have HR := Lib.hid hr
    clear hr
    go_wp2_with fail
    refine HC28.out.mono ?_
    rintro e w26 ⟨rfl, h2⟩
    have HS27 := Lib.hid (HS.out.below h2)
    clear h2
    have hr := HR.out
    clear HR
    unfold tkEnc
    have HR := Lib.hid hr
    clear hr
    go_upto_region 5 with fail
    obtain ⟨b29, hb⟩ : ∃ b, b = w26.heap.size := ⟨_, rfl⟩
    rw [← hb]
    refine gen_wpT fun w30 hW => ?_
    have HX31 := Lib.hid (show w30.heap[b29]? = some (.cells #[.int .i64 (tk K.T i1).kind, .string (tk K.T i1).text, .int .i64 ((tk K.T i1).a : Int), .int .i64 ((tk K.T i1).z : Int), .int .i64 (tk K.T i1).n] 65 (0, 0)) by rw [← hW]; exact heap_new_at _ _ _ hb.symm)
    have HBL34 := Lib.hid (show Below w26.heap.size w26 w30 by rw [← hW]; exact (Below.refl _ _).alloc (Nat.le_refl _) _)
    have HS33 := Lib.hid (HS27.out.below HBL34.out)
    have HA32 := Lib.hid (Away.new HS27.out.pa (Nat.le_of_eq hb.symm) (blk_lt HX31.out))
    have HBE35 := Lib.hid (show w.heap.size ≤ b29 from by have := HS27.out.pt.fr.size; omega)
    clear hW hb
    have x36 := cell_of_blk (i := 0) HX31.out rfl
    have x37 := cell_of_blk (i := 1) HX31.out rfl
    have x38 := cell_of_blk (i := 2) HX31.out rfl
    have x39 := cell_of_blk (i := 3) HX31.out rfl
    have x40 := cell_of_blk (i := 4) HX31.out rfl
    have xl41 := blk_lt HX31.out
    have hr := HR.out
    clear HR
    have HCS := Lib.hid (show ChS K p b29 (tk K.T i1) w30 w30 from by
     obtain ⟨nv, l, hm⟩ := HS33.out.pa.mem
     exact ⟨(pa_cell hm.blk).2.2.2.2.1, HX31.out, rfl⟩)
    have HLK := Lib.hid (look_rank HS33.out.pa.env (tk K.T i1).text (by have := HS33.out.pa.env.txt i1; unfold maxLen; omega))
    by_cases hrk : rankL (tk K.T i1).text = rk
    ·by_cases h5 : (tk K.T i1).kind = 5
     ·have hcond : ((tk K.T i1).kind = 5 ∨ (tk K.T i1).kind = 2) ∧ rankL (tk K.T i1).text = rk := ⟨.inl h5, hrk⟩
      have HK5 := Lib.hid h5
      have HKQ := Lib.hid (show (rankL (tk K.T i1).text : Int) = (rk : Int) by omega)
      clear h5 hrk
      rw [if_pos hcond] at hr
      have HRX := Lib.hid hr
      clear hr
      have HLTK := Lib.hid (tk_lt HTK.out HRL.out.1 (by rcases hcond.1 with e9 | e9 <;> rw [e9] <;> decide))
      clear hcond
      have HX42 := Lib.hid (show w30.drew.heap[b29]? = _ from HX31.out)
      have HA43 := Lib.hid HA32.out.drew
      have HS44 := Lib.hid HS33.out.drew
      go_wp2_with fail
      clear x36 x37 x38 x39 x40 xl41
      refine wp_region_held_drew (S := ChS K p b29 (tk K.T i1) w30) (by kernel_rfl) (HCS.out) (fun hHeld => ?_)
      refine ztk 0 18 (.pointer (some ⟨b29, 0, none⟩)) hHeld ?_; simp only [Act.put, zq1, zq2, zq3]
      refine ztk 1 19 (.int .i64 (tk K.T i1).kind) hHeld ?_ (hy := Or.inl ⟨by rfl, fun w' hS => (by have z0 := cell_of_blk (i := 0) hS.2.1 rfl; go_simp)⟩); simp only [Act.put, zq1, zq2, zq3]
      refine ztk 2 20 (.bool false) hHeld ?_ (hy := Or.inl ⟨by rfl, fun w' hS => (by have q5 := HK5.out; go_simp)⟩); simp only [Act.put, zq1, zq2, zq3]
      refine ztk 3 21 (.bool false) hHeld ?_; simp only [Act.put, zq1, zq2, zq3]
      refine ztu 4 22 hHeld ?_; simp only [Act.put, zq1, zq2, zq3]
      refine ztu 5 23 hHeld ?_; simp only [Act.put, zq1, zq2, zq3]
      refine ztu 6 24 hHeld ?_; simp only [Act.put, zq1, zq2, zq3]
      refine ztk 7 25 (.bool false) hHeld ?_; simp only [Act.put, zq1, zq2, zq3]
      refine ztk 8 26 (.bool false) hHeld ?_; simp only [Act.put, zq1, zq2, zq3]
      refine ztk 9 27 (.pointer (some ⟨p, 0, none⟩)) hHeld ?_; simp only [Act.put, zq1, zq2, zq3]
      refine ztk 10 28 (.pointer (some ⟨p, 0, none⟩)) hHeld ?_; simp only [Act.put, zq1, zq2, zq3]
      refine ztk 11 29 (.pointer (some ⟨p, 4, none⟩)) hHeld ?_; simp only [Act.put, zq1, zq2, zq3]
      refine ztk 12 30 (.map (some K.rb)) hHeld ?_ (hy := Or.inl ⟨by rfl, fun w' hS => (by have z4 := hS.1; go_simp)⟩); simp only [Act.put, zq1, zq2, zq3]
      refine ztk 13 31 (.pointer (some ⟨b29, 1, none⟩)) hHeld ?_; simp only [Act.put, zq1, zq2, zq3]
      refine ztk 14 32 (.string (tk K.T i1).text) hHeld ?_ (hy := Or.inl ⟨by rfl, fun w' hS => (by have z1 := cell_of_blk (i := 1) hS.2.1 rfl; go_simp)⟩); simp only [Act.put, zq1, zq2, zq3]
      refine ztk 15 33 (.int .i64 (rankL (tk K.T i1).text : Int)) hHeld ?_ (hy := Or.inl ⟨by rfl, fun w' hS => (by have hl := HLK.out w' hS.2.2; go_simp)⟩); simp only [Act.put, zq1, zq2, zq3]
      refine ztk 16 34 (.int .i64 (rk : Int)) hHeld ?_; simp only [Act.put, zq1, zq2, zq3]
      refine ztk 17 35 (.bool false) hHeld ?_ (hy := Or.inl ⟨by rfl, fun w' hS => (by have qr := HKQ.out; go_simp)⟩); simp only [Act.put, zq1, zq2, zq3]
      refine ztk 18 36 (.bool false) hHeld ?_; simp only [Act.put, zq1, zq2, zq3]
      refine wpAnyH_done (by kernel_rfl) ?_ _
      have hr := HRX.out
      clear HRX
      have x45 := cell_of_blk (i := 0) HX42.out rfl
      have x46 := cell_of_blk (i := 1) HX42.out rfl
      have x47 := cell_of_blk (i := 2) HX42.out rfl
      have x48 := cell_of_blk (i := 3) HX42.out rfl
      have x49 := cell_of_blk (i := 4) HX42.out rfl
      have xl50 := blk_lt HX42.out
      obtain ⟨nv, l, hm⟩ := HS44.out.pa.mem
      obtain ⟨-, y55, -, -, -, cf⟩ := pa_cell hm.blk
      have y56 := cf 1
      have y57 := blk_lt hm.blk
      clear hm cf
      obtain ⟨i52, hi1⟩ : ∃ ix, ix = i1 + 1 := ⟨_, rfl⟩
      have y58 : (i1 : Int) + 1 = (i52 : Int) := by omega
      have y59 : i52 ≤ 200002 := by have := HLTK.out; have := HLN.out; omega
      have y60 : IntKind.i64.wrap (i52 : Int) = (i52 : Int) := IntWalk.i64_in _ (by omega)
      try rw [← hi1] at hr
      have HIE53 := Lib.hid hi1
      have HLT54 := Lib.hid (show i52 < K.T.length by rw [hi1]; exact HLTK.out)
      clear hi1 nv l
      have hst := HS44.out.pa.setI i52
      have hto : PaTo w30.drew fp1 (w30.drew.setCell ⟨p, 1, none⟩ (.int .i64 (i52 : Int))) fp1 := hst.2
      have HS51 := Lib.hid (show St K w p i52 o sn ns fp [x] (w30.drew.setCell ⟨p, 1, none⟩ (.int .i64 (i52 : Int))) fp1 from HS44.out.step hst.1 hto)
      have HX61 := Lib.hid (Away.blkTo HX42.out HA43.out hto)
      have HA62 := Lib.hid (HA43.out.to hto)
      clear hst hto
      have x63 := cell_of_blk (i := 0) HX61.out rfl
      have x64 := cell_of_blk (i := 1) HX61.out rfl
      have x65 := cell_of_blk (i := 2) HX61.out rfl
      have x66 := cell_of_blk (i := 3) HX61.out rfl
      have x67 := cell_of_blk (i := 4) HX61.out rfl
      have xl68 := blk_lt HX61.out
      rw [← HRK1.out.1] at hr
      have hradd : (rk : Int) + 1 = (rk1 : Int) := by have := HRK1.out; omega
      have hrw : IntKind.i64.wrap (rk1 : Int) = (rk1 : Int) := IntWalk.i64_in _ (by have := HRK1.out; omega)
      have hrb : rk1 ≤ 7 := HRK1.out.2
      obtain ⟨X, hX⟩ : ∃ X, (parF K.T f).one (.chain rk1) o i52 = X := ⟨_, rfl⟩
      rw [hX] at hr
      cases X with
      | none => exact absurd hr (by simp [Res.then])
      | some X =>
      cases X with
      | bad a n =>
       have HRR71 := Lib.hid (show Res.bad a n = r from (by dsimp only [Res.then] at hr; exact Option.some.inj hr))
       have HC74 := Lib.hid (call_bad ((HAP.out f (Nat.le_refl f)).chain rk1 HRK1.out.2) HS51.out HB.out ⟨HLT54.out, by have := HRM.out; have := HRLs.out; have := HLTK.out; have := HIE53.out; have := HLT54.out; (try simp only [ptsS, ptS, noneT, ptsS_append, Nat.add_zero, Nat.zero_add]); omega⟩ HO.out hX)
       clear hr hX
       go_wp2_with fail
       refine HC74.out.mono ?_
       rintro e wb ⟨rfl, hb⟩
       have HB73 := Lib.hid hb
       clear hb
       unfold wrongP
       go_wp2
       exact ⟨rfl, by rw [← HRR71.out]; exact ⟨rfl, HB73.out⟩⟩
      | ok t69 j70 =>
       have hft := (fit_all HTK.out f).one (.chain rk1) o i52 HLT54.out
       rw [hX] at hft
       obtain ⟨f1, f2, f3⟩ := hft
       simp only [lazy1, sl1, ex1, Bool.false_eq_true, if_false, if_true] at f2 f3
       have HF72 := Lib.hid (And.intro f1 (And.intro f2 f3))
       clear f1 f2 f3
       have HC78 := Lib.hid (call_ok ((HAP.out f (Nat.le_refl f)).chain rk1 HRK1.out.2) HS51.out ⟨HLT54.out, by have := HRM.out; have := HRLs.out; have := HLTK.out; have := HIE53.out; have := HLT54.out; (try simp only [ptsS, ptS, noneT, ptsS_append, Nat.add_zero, Nat.zero_add]); omega⟩ HO.out hX)
       dsimp only [Res.then] at hr
       clear hX
       have HR := Lib.hid hr
       clear hr
       go_wp2_with fail
       clear x63 x64 x65 x66 x67 xl68 y55 y56 y57 y58 y59 y60 x45 x46 x47 x48 x49 xl50
       refine HC78.out.mono ?_
       rintro e w75 ⟨rfl, fp76, h1, h2⟩
       obtain ⟨n79, hn⟩ : ∃ n, n = nr ns [x] t69 := ⟨_, rfl⟩
       rw [← hn]
       have HN80 := Lib.hid hn
       have HS77 := Lib.hid (show St K w p j70 o sn ns fp [x, t69] w75 fp76 from h1)
       have HX81 := Lib.hid (Away.blkTo HX61.out HA62.out h2)
       have HA82 := Lib.hid (HA62.out.to h2)
       clear h1 h2 hn
       have x83 := cell_of_blk (i := 0) HX81.out rfl
       have x84 := cell_of_blk (i := 1) HX81.out rfl
       have x85 := cell_of_blk (i := 2) HX81.out rfl
       have x86 := cell_of_blk (i := 3) HX81.out rfl
       have x87 := cell_of_blk (i := 4) HX81.out rfl
       have xl88 := blk_lt HX81.out
       have hr := HR.out
       clear HR
       cases hand : ((tk K.T i1).text.toList == [97, 110, 100]) with
       | true =>
        rw [show opT (tk K.T i1) x t69 = .mk 29 ⟨#[]⟩ (tk K.T i1).a [x, t69] from if_pos (eqB hand)] at hr
        have HC92 := Lib.hid (show ∀ W, W = w75.alloc (.cells #[natV nx, natV n79] 3) → Calls Tryz.prog 23 #[.pointer (some ⟨p, 0, none⟩), .int .i64 29, .string ⟨#[]⟩, natV (tk K.T i1).a, .slice (some ⟨w75.heap.size, 0, none⟩) 2 2] W (OneOk K w p o sn ns fp [] W fp76 (.mk 29 ⟨#[]⟩ (tk K.T i1).a [x, t69]) j70) from fun W hW => by
         subst hW
         exact lay_mid (L1 := []) (L2 := [x, t69]) (HS77.out.below ((Below.refl _ _).alloc (Nat.le_refl _) _)) (by have := HRM.out; have := HRLs.out; have := HLTK.out; have := HIE53.out; have := HLT54.out; have := HF72.out; simp only [ptsS, ptS, noneT, List.nil_append, List.cons_append, Nat.add_zero, Nat.zero_add]; omega) (by simp) 29 ⟨#[]⟩ (tk K.T i1).a (KidsV.new w75 nx [n79] _ rfl) (by simp only [HNX.out, HN80.out, nr, roots, ptsS, Nat.add_zero, Nat.add_assoc]))
        have HR := Lib.hid hr
        clear hr
        try unfold natV
        go_wp2_with fail
        clear x83 x84 x85 x86 x87 xl88
        refine (HC92.out _ rfl).mono ?_
        rintro e w89 ⟨rfl, fp90, h1, h2⟩
        obtain ⟨n93, hn⟩ : ∃ n, n = nr ns [] (.mk 29 ⟨#[]⟩ (tk K.T i1).a [x, t69]) := ⟨_, rfl⟩
        rw [← hn]
        have HN94 := Lib.hid hn
        have HS91 := Lib.hid (show St K w p j70 o sn ns fp [(.mk 29 ⟨#[]⟩ (tk K.T i1).a [x, t69])] w89 fp90 from h1)
        have hbl : PaTo w75 fp76 w89 fp90 := (PaTo.of_below HS77.out.pa ((Below.refl _ _).alloc (Nat.le_refl _) _)).trans h2
        have HX95 := Lib.hid (Away.blkTo HX81.out HA82.out hbl)
        have HA96 := Lib.hid (HA82.out.to hbl)
        clear h1 h2 hn hbl
        have x97 := cell_of_blk (i := 0) HX95.out rfl
        have x98 := cell_of_blk (i := 1) HX95.out rfl
        have x99 := cell_of_blk (i := 2) HX95.out rfl
        have x100 := cell_of_blk (i := 3) HX95.out rfl
        have x101 := cell_of_blk (i := 4) HX95.out rfl
        have xl102 := blk_lt HX95.out
        have hr := HR.out
        clear HR
        have HRF := Lib.hid hr
        clear hr
        try unfold natV
        go_wp2_with fail
        clear x97 x98 x99 x100 x101 xl102
        go_roundw
        case rel => exact ⟨_, n93, j70, fp90, f, rfl, HN94, HS91, Lib.hid ⟨by have := HLE.out; omega, HRF.out⟩, Lib.hid ⟨HF72.out.1, by have := HRM.out; have := HRLs.out; have := HLTK.out; have := HIE53.out; have := HLT54.out; have := HF72.out; (try simp only [ptsS, ptS, noneT, ptsS_append, Nat.add_zero, Nat.zero_add]); omega⟩⟩
        case measure => have h5 := HN94.out; have h6 := HNX.out; have h7 := ptS_pos x; have h8 := ptS_pos t69; unfold nr at h5 h6; simp only [ptsS, ptS, Nat.add_zero, Nat.zero_add] at h5 h6; have := HRLs.out; have := HLTK.out; have := HIE53.out; have := HLT54.out; have := HF72.out; simp [intOf]; omega
       | false =>
       cases hor : ((tk K.T i1).text.toList == [111, 114]) with
       | true =>
        rw [show opT (tk K.T i1) x t69 = .mk 30 ⟨#[]⟩ (tk K.T i1).a [x, t69] from (if_neg (neB hand)).trans (if_pos (eqB hor))] at hr
        have HC106 := Lib.hid (show ∀ W, W = w75.alloc (.cells #[natV nx, natV n79] 3) → Calls Tryz.prog 23 #[.pointer (some ⟨p, 0, none⟩), .int .i64 30, .string ⟨#[]⟩, natV (tk K.T i1).a, .slice (some ⟨w75.heap.size, 0, none⟩) 2 2] W (OneOk K w p o sn ns fp [] W fp76 (.mk 30 ⟨#[]⟩ (tk K.T i1).a [x, t69]) j70) from fun W hW => by
         subst hW
         exact lay_mid (L1 := []) (L2 := [x, t69]) (HS77.out.below ((Below.refl _ _).alloc (Nat.le_refl _) _)) (by have := HRM.out; have := HRLs.out; have := HLTK.out; have := HIE53.out; have := HLT54.out; have := HF72.out; simp only [ptsS, ptS, noneT, List.nil_append, List.cons_append, Nat.add_zero, Nat.zero_add]; omega) (by simp) 30 ⟨#[]⟩ (tk K.T i1).a (KidsV.new w75 nx [n79] _ rfl) (by simp only [HNX.out, HN80.out, nr, roots, ptsS, Nat.add_zero, Nat.add_assoc]))
        have HR := Lib.hid hr
        clear hr
        try unfold natV
        go_wp2_with fail
        clear x83 x84 x85 x86 x87 xl88
        refine (HC106.out _ rfl).mono ?_
        rintro e w103 ⟨rfl, fp104, h1, h2⟩
        obtain ⟨n107, hn⟩ : ∃ n, n = nr ns [] (.mk 30 ⟨#[]⟩ (tk K.T i1).a [x, t69]) := ⟨_, rfl⟩
        rw [← hn]
        have HN108 := Lib.hid hn
        have HS105 := Lib.hid (show St K w p j70 o sn ns fp [(.mk 30 ⟨#[]⟩ (tk K.T i1).a [x, t69])] w103 fp104 from h1)
        have hbl : PaTo w75 fp76 w103 fp104 := (PaTo.of_below HS77.out.pa ((Below.refl _ _).alloc (Nat.le_refl _) _)).trans h2
        have HX109 := Lib.hid (Away.blkTo HX81.out HA82.out hbl)
        have HA110 := Lib.hid (HA82.out.to hbl)
        clear h1 h2 hn hbl
        have x111 := cell_of_blk (i := 0) HX109.out rfl
        have x112 := cell_of_blk (i := 1) HX109.out rfl
        have x113 := cell_of_blk (i := 2) HX109.out rfl
        have x114 := cell_of_blk (i := 3) HX109.out rfl
        have x115 := cell_of_blk (i := 4) HX109.out rfl
        have xl116 := blk_lt HX109.out
        have hr := HR.out
        clear HR
        have HRF := Lib.hid hr
        clear hr
        try unfold natV
        go_wp2_with fail
        clear x111 x112 x113 x114 x115 xl116
        go_roundw
        case rel => exact ⟨_, n107, j70, fp104, f, rfl, HN108, HS105, Lib.hid ⟨by have := HLE.out; omega, HRF.out⟩, Lib.hid ⟨HF72.out.1, by have := HRM.out; have := HRLs.out; have := HLTK.out; have := HIE53.out; have := HLT54.out; have := HF72.out; (try simp only [ptsS, ptS, noneT, ptsS_append, Nat.add_zero, Nat.zero_add]); omega⟩⟩
        case measure => have h5 := HN108.out; have h6 := HNX.out; have h7 := ptS_pos x; have h8 := ptS_pos t69; unfold nr at h5 h6; simp only [ptsS, ptS, Nat.add_zero, Nat.zero_add] at h5 h6; have := HRLs.out; have := HLTK.out; have := HIE53.out; have := HLT54.out; have := HF72.out; simp [intOf]; omega
       | false =>
        rw [show opT (tk K.T i1) x t69 = .mk 27 (tk K.T i1).text (tk K.T i1).a [x, t69] from (if_neg (neB hand)).trans (if_neg (neB hor))] at hr
        have HC120 := Lib.hid (show ∀ W, W = w75.alloc (.cells #[natV nx, natV n79] 3) → Calls Tryz.prog 23 #[.pointer (some ⟨p, 0, none⟩), .int .i64 27, .string (tk K.T i1).text, natV (tk K.T i1).a, .slice (some ⟨w75.heap.size, 0, none⟩) 2 2] W (OneOk K w p o sn ns fp [] W fp76 (.mk 27 (tk K.T i1).text (tk K.T i1).a [x, t69]) j70) from fun W hW => by
         subst hW
         exact lay_mid (L1 := []) (L2 := [x, t69]) (HS77.out.below ((Below.refl _ _).alloc (Nat.le_refl _) _)) (by have := HRM.out; have := HRLs.out; have := HLTK.out; have := HIE53.out; have := HLT54.out; have := HF72.out; simp only [ptsS, ptS, noneT, List.nil_append, List.cons_append, Nat.add_zero, Nat.zero_add]; omega) (by simp) 27 (tk K.T i1).text (tk K.T i1).a (KidsV.new w75 nx [n79] _ rfl) (by simp only [HNX.out, HN80.out, nr, roots, ptsS, Nat.add_zero, Nat.add_assoc]))
        have HR := Lib.hid hr
        clear hr
        try unfold natV
        go_wp2_with fail
        clear x83 x84 x85 x86 x87 xl88
        refine (HC120.out _ rfl).mono ?_
        rintro e w117 ⟨rfl, fp118, h1, h2⟩
        obtain ⟨n121, hn⟩ : ∃ n, n = nr ns [] (.mk 27 (tk K.T i1).text (tk K.T i1).a [x, t69]) := ⟨_, rfl⟩
        rw [← hn]
        have HN122 := Lib.hid hn
        have HS119 := Lib.hid (show St K w p j70 o sn ns fp [(.mk 27 (tk K.T i1).text (tk K.T i1).a [x, t69])] w117 fp118 from h1)
        have hbl : PaTo w75 fp76 w117 fp118 := (PaTo.of_below HS77.out.pa ((Below.refl _ _).alloc (Nat.le_refl _) _)).trans h2
        have HX123 := Lib.hid (Away.blkTo HX81.out HA82.out hbl)
        have HA124 := Lib.hid (HA82.out.to hbl)
        clear h1 h2 hn hbl
        have x125 := cell_of_blk (i := 0) HX123.out rfl
        have x126 := cell_of_blk (i := 1) HX123.out rfl
        have x127 := cell_of_blk (i := 2) HX123.out rfl
        have x128 := cell_of_blk (i := 3) HX123.out rfl
        have x129 := cell_of_blk (i := 4) HX123.out rfl
        have xl130 := blk_lt HX123.out
        have hr := HR.out
        clear HR
        have HRF := Lib.hid hr
        clear hr
        try unfold natV
        go_wp2_with fail
        clear x125 x126 x127 x128 x129 xl130
        go_roundw
        case rel => exact ⟨_, n121, j70, fp118, f, rfl, HN122, HS119, Lib.hid ⟨by have := HLE.out; omega, HRF.out⟩, Lib.hid ⟨HF72.out.1, by have := HRM.out; have := HRLs.out; have := HLTK.out; have := HIE53.out; have := HLT54.out; have := HF72.out; (try simp only [ptsS, ptS, noneT, ptsS_append, Nat.add_zero, Nat.zero_add]); omega⟩⟩
        case measure => have h5 := HN122.out; have h6 := HNX.out; have h7 := ptS_pos x; have h8 := ptS_pos t69; unfold nr at h5 h6; simp only [ptsS, ptS, Nat.add_zero, Nat.zero_add] at h5 h6; have := HRLs.out; have := HLTK.out; have := HIE53.out; have := HLT54.out; have := HF72.out; simp [intOf]; omega
     ·by_cases h2 : (tk K.T i1).kind = 2
      ·have hcond : ((tk K.T i1).kind = 5 ∨ (tk K.T i1).kind = 2) ∧ rankL (tk K.T i1).text = rk := ⟨.inr h2, hrk⟩
       have HK5 := Lib.hid h5
       have HK2 := Lib.hid h2
       have HKQ := Lib.hid (show (rankL (tk K.T i1).text : Int) = (rk : Int) by omega)
       clear h5 h2 hrk
       rw [if_pos hcond] at hr
       have HRX := Lib.hid hr
       clear hr
       have HLTK := Lib.hid (tk_lt HTK.out HRL.out.1 (by rcases hcond.1 with e9 | e9 <;> rw [e9] <;> decide))
       clear hcond
       have HX131 := Lib.hid (show w30.drew.heap[b29]? = _ from HX31.out)
       have HA132 := Lib.hid HA32.out.drew
       have HS133 := Lib.hid HS33.out.drew
       go_wp2_with fail
       clear x36 x37 x38 x39 x40 xl41
       refine wp_region_held_drew (S := ChS K p b29 (tk K.T i1) w30) (by kernel_rfl) (HCS.out) (fun hHeld => ?_)
       refine ztk 0 18 (.pointer (some ⟨b29, 0, none⟩)) hHeld ?_; simp only [Act.put, zq1, zq2, zq3]
       refine ztk 1 19 (.int .i64 (tk K.T i1).kind) hHeld ?_ (hy := Or.inl ⟨by rfl, fun w' hS => (by have z0 := cell_of_blk (i := 0) hS.2.1 rfl; go_simp)⟩); simp only [Act.put, zq1, zq2, zq3]
       refine ztk 2 20 (.bool true) hHeld ?_ (hy := Or.inl ⟨by rfl, fun w' hS => (by have q5 := HK5.out; go_simp)⟩); simp only [Act.put, zq1, zq2, zq3]
       refine ztk 3 21 (.bool true) hHeld ?_; simp only [Act.put, zq1, zq2, zq3]
       refine ztk 4 22 (.pointer (some ⟨b29, 0, none⟩)) hHeld ?_; simp only [Act.put, zq1, zq2, zq3]
       refine ztk 5 23 (.int .i64 (tk K.T i1).kind) hHeld ?_ (hy := Or.inl ⟨by rfl, fun w' hS => (by have z0 := cell_of_blk (i := 0) hS.2.1 rfl; go_simp)⟩); simp only [Act.put, zq1, zq2, zq3]
       refine ztk 6 24 (.bool false) hHeld ?_ (hy := Or.inl ⟨by rfl, fun w' hS => (by have q2 := HK2.out; go_simp)⟩); simp only [Act.put, zq1, zq2, zq3]
       refine ztk 7 25 (.bool false) hHeld ?_; simp only [Act.put, zq1, zq2, zq3]
       refine ztk 8 26 (.bool false) hHeld ?_; simp only [Act.put, zq1, zq2, zq3]
       refine ztk 9 27 (.pointer (some ⟨p, 0, none⟩)) hHeld ?_; simp only [Act.put, zq1, zq2, zq3]
       refine ztk 10 28 (.pointer (some ⟨p, 0, none⟩)) hHeld ?_; simp only [Act.put, zq1, zq2, zq3]
       refine ztk 11 29 (.pointer (some ⟨p, 4, none⟩)) hHeld ?_; simp only [Act.put, zq1, zq2, zq3]
       refine ztk 12 30 (.map (some K.rb)) hHeld ?_ (hy := Or.inl ⟨by rfl, fun w' hS => (by have z4 := hS.1; go_simp)⟩); simp only [Act.put, zq1, zq2, zq3]
       refine ztk 13 31 (.pointer (some ⟨b29, 1, none⟩)) hHeld ?_; simp only [Act.put, zq1, zq2, zq3]
       refine ztk 14 32 (.string (tk K.T i1).text) hHeld ?_ (hy := Or.inl ⟨by rfl, fun w' hS => (by have z1 := cell_of_blk (i := 1) hS.2.1 rfl; go_simp)⟩); simp only [Act.put, zq1, zq2, zq3]
       refine ztk 15 33 (.int .i64 (rankL (tk K.T i1).text : Int)) hHeld ?_ (hy := Or.inl ⟨by rfl, fun w' hS => (by have hl := HLK.out w' hS.2.2; go_simp)⟩); simp only [Act.put, zq1, zq2, zq3]
       refine ztk 16 34 (.int .i64 (rk : Int)) hHeld ?_; simp only [Act.put, zq1, zq2, zq3]
       refine ztk 17 35 (.bool false) hHeld ?_ (hy := Or.inl ⟨by rfl, fun w' hS => (by have qr := HKQ.out; go_simp)⟩); simp only [Act.put, zq1, zq2, zq3]
       refine ztk 18 36 (.bool false) hHeld ?_; simp only [Act.put, zq1, zq2, zq3]
       refine wpAnyH_done (by kernel_rfl) ?_ _
       have hr := HRX.out
       clear HRX
       have x134 := cell_of_blk (i := 0) HX131.out rfl
       have x135 := cell_of_blk (i := 1) HX131.out rfl
       have x136 := cell_of_blk (i := 2) HX131.out rfl
       have x137 := cell_of_blk (i := 3) HX131.out rfl
       have x138 := cell_of_blk (i := 4) HX131.out rfl
       have xl139 := blk_lt HX131.out
       obtain ⟨nv, l, hm⟩ := HS133.out.pa.mem
       obtain ⟨-, y144, -, -, -, cf⟩ := pa_cell hm.blk
       have y145 := cf 1
       have y146 := blk_lt hm.blk
       clear hm cf
       obtain ⟨i141, hi1⟩ : ∃ ix, ix = i1 + 1 := ⟨_, rfl⟩
       have y147 : (i1 : Int) + 1 = (i141 : Int) := by omega
       have y148 : i141 ≤ 200002 := by have := HLTK.out; have := HLN.out; omega
       have y149 : IntKind.i64.wrap (i141 : Int) = (i141 : Int) := IntWalk.i64_in _ (by omega)
       try rw [← hi1] at hr
       have HIE142 := Lib.hid hi1
       have HLT143 := Lib.hid (show i141 < K.T.length by rw [hi1]; exact HLTK.out)
       clear hi1 nv l
       have hst := HS133.out.pa.setI i141
       have hto : PaTo w30.drew fp1 (w30.drew.setCell ⟨p, 1, none⟩ (.int .i64 (i141 : Int))) fp1 := hst.2
       have HS140 := Lib.hid (show St K w p i141 o sn ns fp [x] (w30.drew.setCell ⟨p, 1, none⟩ (.int .i64 (i141 : Int))) fp1 from HS133.out.step hst.1 hto)
       have HX150 := Lib.hid (Away.blkTo HX131.out HA132.out hto)
       have HA151 := Lib.hid (HA132.out.to hto)
       clear hst hto
       have x152 := cell_of_blk (i := 0) HX150.out rfl
       have x153 := cell_of_blk (i := 1) HX150.out rfl
       have x154 := cell_of_blk (i := 2) HX150.out rfl
       have x155 := cell_of_blk (i := 3) HX150.out rfl
       have x156 := cell_of_blk (i := 4) HX150.out rfl
       have xl157 := blk_lt HX150.out
       rw [← HRK1.out.1] at hr
       have hradd : (rk : Int) + 1 = (rk1 : Int) := by have := HRK1.out; omega
       have hrw : IntKind.i64.wrap (rk1 : Int) = (rk1 : Int) := IntWalk.i64_in _ (by have := HRK1.out; omega)
       have hrb : rk1 ≤ 7 := HRK1.out.2
       obtain ⟨X, hX⟩ : ∃ X, (parF K.T f).one (.chain rk1) o i141 = X := ⟨_, rfl⟩
       rw [hX] at hr
       cases X with
       | none => exact absurd hr (by simp [Res.then])
       | some X =>
       cases X with
       | bad a n =>
        have HRR160 := Lib.hid (show Res.bad a n = r from (by dsimp only [Res.then] at hr; exact Option.some.inj hr))
        have HC163 := Lib.hid (call_bad ((HAP.out f (Nat.le_refl f)).chain rk1 HRK1.out.2) HS140.out HB.out ⟨HLT143.out, by have := HRM.out; have := HRLs.out; have := HLTK.out; have := HIE142.out; have := HLT143.out; (try simp only [ptsS, ptS, noneT, ptsS_append, Nat.add_zero, Nat.zero_add]); omega⟩ HO.out hX)
        clear hr hX
        go_wp2_with fail
        refine HC163.out.mono ?_
        rintro e wb ⟨rfl, hb⟩
        have HB162 := Lib.hid hb
        clear hb
        unfold wrongP
        go_wp2
        exact ⟨rfl, by rw [← HRR160.out]; exact ⟨rfl, HB162.out⟩⟩
       | ok t158 j159 =>
        have hft := (fit_all HTK.out f).one (.chain rk1) o i141 HLT143.out
        rw [hX] at hft
        obtain ⟨f1, f2, f3⟩ := hft
        simp only [lazy1, sl1, ex1, Bool.false_eq_true, if_false, if_true] at f2 f3
        have HF161 := Lib.hid (And.intro f1 (And.intro f2 f3))
        clear f1 f2 f3
        have HC167 := Lib.hid (call_ok ((HAP.out f (Nat.le_refl f)).chain rk1 HRK1.out.2) HS140.out ⟨HLT143.out, by have := HRM.out; have := HRLs.out; have := HLTK.out; have := HIE142.out; have := HLT143.out; (try simp only [ptsS, ptS, noneT, ptsS_append, Nat.add_zero, Nat.zero_add]); omega⟩ HO.out hX)
        dsimp only [Res.then] at hr
        clear hX
        have HR := Lib.hid hr
        clear hr
        go_wp2_with fail
        clear x152 x153 x154 x155 x156 xl157 y144 y145 y146 y147 y148 y149 x134 x135 x136 x137 x138 xl139
        refine HC167.out.mono ?_
        rintro e w164 ⟨rfl, fp165, h1, h2⟩
        obtain ⟨n168, hn⟩ : ∃ n, n = nr ns [x] t158 := ⟨_, rfl⟩
        rw [← hn]
        have HN169 := Lib.hid hn
        have HS166 := Lib.hid (show St K w p j159 o sn ns fp [x, t158] w164 fp165 from h1)
        have HX170 := Lib.hid (Away.blkTo HX150.out HA151.out h2)
        have HA171 := Lib.hid (HA151.out.to h2)
        clear h1 h2 hn
        have x172 := cell_of_blk (i := 0) HX170.out rfl
        have x173 := cell_of_blk (i := 1) HX170.out rfl
        have x174 := cell_of_blk (i := 2) HX170.out rfl
        have x175 := cell_of_blk (i := 3) HX170.out rfl
        have x176 := cell_of_blk (i := 4) HX170.out rfl
        have xl177 := blk_lt HX170.out
        have hr := HR.out
        clear HR
        cases hand : ((tk K.T i1).text.toList == [97, 110, 100]) with
        | true =>
         rw [show opT (tk K.T i1) x t158 = .mk 29 ⟨#[]⟩ (tk K.T i1).a [x, t158] from if_pos (eqB hand)] at hr
         have HC181 := Lib.hid (show ∀ W, W = w164.alloc (.cells #[natV nx, natV n168] 3) → Calls Tryz.prog 23 #[.pointer (some ⟨p, 0, none⟩), .int .i64 29, .string ⟨#[]⟩, natV (tk K.T i1).a, .slice (some ⟨w164.heap.size, 0, none⟩) 2 2] W (OneOk K w p o sn ns fp [] W fp165 (.mk 29 ⟨#[]⟩ (tk K.T i1).a [x, t158]) j159) from fun W hW => by
          subst hW
          exact lay_mid (L1 := []) (L2 := [x, t158]) (HS166.out.below ((Below.refl _ _).alloc (Nat.le_refl _) _)) (by have := HRM.out; have := HRLs.out; have := HLTK.out; have := HIE142.out; have := HLT143.out; have := HF161.out; simp only [ptsS, ptS, noneT, List.nil_append, List.cons_append, Nat.add_zero, Nat.zero_add]; omega) (by simp) 29 ⟨#[]⟩ (tk K.T i1).a (KidsV.new w164 nx [n168] _ rfl) (by simp only [HNX.out, HN169.out, nr, roots, ptsS, Nat.add_zero, Nat.add_assoc]))
         have HR := Lib.hid hr
         clear hr
         try unfold natV
         go_wp2_with fail
         clear x172 x173 x174 x175 x176 xl177
         refine (HC181.out _ rfl).mono ?_
         rintro e w178 ⟨rfl, fp179, h1, h2⟩
         obtain ⟨n182, hn⟩ : ∃ n, n = nr ns [] (.mk 29 ⟨#[]⟩ (tk K.T i1).a [x, t158]) := ⟨_, rfl⟩
         rw [← hn]
         have HN183 := Lib.hid hn
         have HS180 := Lib.hid (show St K w p j159 o sn ns fp [(.mk 29 ⟨#[]⟩ (tk K.T i1).a [x, t158])] w178 fp179 from h1)
         have hbl : PaTo w164 fp165 w178 fp179 := (PaTo.of_below HS166.out.pa ((Below.refl _ _).alloc (Nat.le_refl _) _)).trans h2
         have HX184 := Lib.hid (Away.blkTo HX170.out HA171.out hbl)
         have HA185 := Lib.hid (HA171.out.to hbl)
         clear h1 h2 hn hbl
         have x186 := cell_of_blk (i := 0) HX184.out rfl
         have x187 := cell_of_blk (i := 1) HX184.out rfl
         have x188 := cell_of_blk (i := 2) HX184.out rfl
         have x189 := cell_of_blk (i := 3) HX184.out rfl
         have x190 := cell_of_blk (i := 4) HX184.out rfl
         have xl191 := blk_lt HX184.out
         have hr := HR.out
         clear HR
         have HRF := Lib.hid hr
         clear hr
         try unfold natV
         go_wp2_with fail
         clear x186 x187 x188 x189 x190 xl191
         go_roundw
         case rel => exact ⟨_, n182, j159, fp179, f, rfl, HN183, HS180, Lib.hid ⟨by have := HLE.out; omega, HRF.out⟩, Lib.hid ⟨HF161.out.1, by have := HRM.out; have := HRLs.out; have := HLTK.out; have := HIE142.out; have := HLT143.out; have := HF161.out; (try simp only [ptsS, ptS, noneT, ptsS_append, Nat.add_zero, Nat.zero_add]); omega⟩⟩
         case measure => have h5 := HN183.out; have h6 := HNX.out; have h7 := ptS_pos x; have h8 := ptS_pos t158; unfold nr at h5 h6; simp only [ptsS, ptS, Nat.add_zero, Nat.zero_add] at h5 h6; have := HRLs.out; have := HLTK.out; have := HIE142.out; have := HLT143.out; have := HF161.out; simp [intOf]; omega
        | false =>
        cases hor : ((tk K.T i1).text.toList == [111, 114]) with
        | true =>
         rw [show opT (tk K.T i1) x t158 = .mk 30 ⟨#[]⟩ (tk K.T i1).a [x, t158] from (if_neg (neB hand)).trans (if_pos (eqB hor))] at hr
         have HC195 := Lib.hid (show ∀ W, W = w164.alloc (.cells #[natV nx, natV n168] 3) → Calls Tryz.prog 23 #[.pointer (some ⟨p, 0, none⟩), .int .i64 30, .string ⟨#[]⟩, natV (tk K.T i1).a, .slice (some ⟨w164.heap.size, 0, none⟩) 2 2] W (OneOk K w p o sn ns fp [] W fp165 (.mk 30 ⟨#[]⟩ (tk K.T i1).a [x, t158]) j159) from fun W hW => by
          subst hW
          exact lay_mid (L1 := []) (L2 := [x, t158]) (HS166.out.below ((Below.refl _ _).alloc (Nat.le_refl _) _)) (by have := HRM.out; have := HRLs.out; have := HLTK.out; have := HIE142.out; have := HLT143.out; have := HF161.out; simp only [ptsS, ptS, noneT, List.nil_append, List.cons_append, Nat.add_zero, Nat.zero_add]; omega) (by simp) 30 ⟨#[]⟩ (tk K.T i1).a (KidsV.new w164 nx [n168] _ rfl) (by simp only [HNX.out, HN169.out, nr, roots, ptsS, Nat.add_zero, Nat.add_assoc]))
         have HR := Lib.hid hr
         clear hr
         try unfold natV
         go_wp2_with fail
         clear x172 x173 x174 x175 x176 xl177
         refine (HC195.out _ rfl).mono ?_
         rintro e w192 ⟨rfl, fp193, h1, h2⟩
         obtain ⟨n196, hn⟩ : ∃ n, n = nr ns [] (.mk 30 ⟨#[]⟩ (tk K.T i1).a [x, t158]) := ⟨_, rfl⟩
         rw [← hn]
         have HN197 := Lib.hid hn
         have HS194 := Lib.hid (show St K w p j159 o sn ns fp [(.mk 30 ⟨#[]⟩ (tk K.T i1).a [x, t158])] w192 fp193 from h1)
         have hbl : PaTo w164 fp165 w192 fp193 := (PaTo.of_below HS166.out.pa ((Below.refl _ _).alloc (Nat.le_refl _) _)).trans h2
         have HX198 := Lib.hid (Away.blkTo HX170.out HA171.out hbl)
         have HA199 := Lib.hid (HA171.out.to hbl)
         clear h1 h2 hn hbl
         have x200 := cell_of_blk (i := 0) HX198.out rfl
         have x201 := cell_of_blk (i := 1) HX198.out rfl
         have x202 := cell_of_blk (i := 2) HX198.out rfl
         have x203 := cell_of_blk (i := 3) HX198.out rfl
         have x204 := cell_of_blk (i := 4) HX198.out rfl
         have xl205 := blk_lt HX198.out
         have hr := HR.out
         clear HR
         have HRF := Lib.hid hr
         clear hr
         try unfold natV
         go_wp2_with fail
         clear x200 x201 x202 x203 x204 xl205
         go_roundw
         case rel => exact ⟨_, n196, j159, fp193, f, rfl, HN197, HS194, Lib.hid ⟨by have := HLE.out; omega, HRF.out⟩, Lib.hid ⟨HF161.out.1, by have := HRM.out; have := HRLs.out; have := HLTK.out; have := HIE142.out; have := HLT143.out; have := HF161.out; (try simp only [ptsS, ptS, noneT, ptsS_append, Nat.add_zero, Nat.zero_add]); omega⟩⟩
         case measure => have h5 := HN197.out; have h6 := HNX.out; have h7 := ptS_pos x; have h8 := ptS_pos t158; unfold nr at h5 h6; simp only [ptsS, ptS, Nat.add_zero, Nat.zero_add] at h5 h6; have := HRLs.out; have := HLTK.out; have := HIE142.out; have := HLT143.out; have := HF161.out; simp [intOf]; omega
        | false =>
         rw [show opT (tk K.T i1) x t158 = .mk 27 (tk K.T i1).text (tk K.T i1).a [x, t158] from (if_neg (neB hand)).trans (if_neg (neB hor))] at hr
         have HC209 := Lib.hid (show ∀ W, W = w164.alloc (.cells #[natV nx, natV n168] 3) → Calls Tryz.prog 23 #[.pointer (some ⟨p, 0, none⟩), .int .i64 27, .string (tk K.T i1).text, natV (tk K.T i1).a, .slice (some ⟨w164.heap.size, 0, none⟩) 2 2] W (OneOk K w p o sn ns fp [] W fp165 (.mk 27 (tk K.T i1).text (tk K.T i1).a [x, t158]) j159) from fun W hW => by
          subst hW
          exact lay_mid (L1 := []) (L2 := [x, t158]) (HS166.out.below ((Below.refl _ _).alloc (Nat.le_refl _) _)) (by have := HRM.out; have := HRLs.out; have := HLTK.out; have := HIE142.out; have := HLT143.out; have := HF161.out; simp only [ptsS, ptS, noneT, List.nil_append, List.cons_append, Nat.add_zero, Nat.zero_add]; omega) (by simp) 27 (tk K.T i1).text (tk K.T i1).a (KidsV.new w164 nx [n168] _ rfl) (by simp only [HNX.out, HN169.out, nr, roots, ptsS, Nat.add_zero, Nat.add_assoc]))
         have HR := Lib.hid hr
         clear hr
         try unfold natV
         go_wp2_with fail
         clear x172 x173 x174 x175 x176 xl177
         refine (HC209.out _ rfl).mono ?_
         rintro e w206 ⟨rfl, fp207, h1, h2⟩
         obtain ⟨n210, hn⟩ : ∃ n, n = nr ns [] (.mk 27 (tk K.T i1).text (tk K.T i1).a [x, t158]) := ⟨_, rfl⟩
         rw [← hn]
         have HN211 := Lib.hid hn
         have HS208 := Lib.hid (show St K w p j159 o sn ns fp [(.mk 27 (tk K.T i1).text (tk K.T i1).a [x, t158])] w206 fp207 from h1)
         have hbl : PaTo w164 fp165 w206 fp207 := (PaTo.of_below HS166.out.pa ((Below.refl _ _).alloc (Nat.le_refl _) _)).trans h2
         have HX212 := Lib.hid (Away.blkTo HX170.out HA171.out hbl)
         have HA213 := Lib.hid (HA171.out.to hbl)
         clear h1 h2 hn hbl
         have x214 := cell_of_blk (i := 0) HX212.out rfl
         have x215 := cell_of_blk (i := 1) HX212.out rfl
         have x216 := cell_of_blk (i := 2) HX212.out rfl
         have x217 := cell_of_blk (i := 3) HX212.out rfl
         have x218 := cell_of_blk (i := 4) HX212.out rfl
         have xl219 := blk_lt HX212.out
         have hr := HR.out
         clear HR
         have HRF := Lib.hid hr
         clear hr
         try unfold natV
         go_wp2_with fail
         clear x214 x215 x216 x217 x218 xl219
         go_roundw
         case rel => exact ⟨_, n210, j159, fp207, f, rfl, HN211, HS208, Lib.hid ⟨by have := HLE.out; omega, HRF.out⟩, Lib.hid ⟨HF161.out.1, by have := HRM.out; have := HRLs.out; have := HLTK.out; have := HIE142.out; have := HLT143.out; have := HF161.out; (try simp only [ptsS, ptS, noneT, ptsS_append, Nat.add_zero, Nat.zero_add]); omega⟩⟩
         case measure => have h5 := HN211.out; have h6 := HNX.out; have h7 := ptS_pos x; have h8 := ptS_pos t158; unfold nr at h5 h6; simp only [ptsS, ptS, Nat.add_zero, Nat.zero_add] at h5 h6; have := HRLs.out; have := HLTK.out; have := HIE142.out; have := HLT143.out; have := HF161.out; simp [intOf]; omega
      ·have hcond : ¬ (((tk K.T i1).kind = 5 ∨ (tk K.T i1).kind = 2) ∧ rankL (tk K.T i1).text = rk) := fun e9 => e9.1.elim h5 h2
       have HK5 := Lib.hid h5
       have HK2 := Lib.hid h2
       clear h5 h2 hrk
       rw [if_neg hcond] at hr
       have HFI := Lib.hid (Option.some.inj hr)
       clear hr hcond
       have HZZ := Lib.hid (HS33.out.drew.out)
       go_wp2_with fail
       clear x36 x37 x38 x39 x40 xl41
       refine wp_region_held_drew (S := ChS K p b29 (tk K.T i1) w30) (by kernel_rfl) (HCS.out) (fun hHeld => ?_)
       refine ztk 0 18 (.pointer (some ⟨b29, 0, none⟩)) hHeld ?_; simp only [Act.put, zq1, zq2, zq3]
       refine ztk 1 19 (.int .i64 (tk K.T i1).kind) hHeld ?_ (hy := Or.inl ⟨by rfl, fun w' hS => (by have z0 := cell_of_blk (i := 0) hS.2.1 rfl; go_simp)⟩); simp only [Act.put, zq1, zq2, zq3]
       refine ztk 2 20 (.bool true) hHeld ?_ (hy := Or.inl ⟨by rfl, fun w' hS => (by have q5 := HK5.out; go_simp)⟩); simp only [Act.put, zq1, zq2, zq3]
       refine ztk 3 21 (.bool true) hHeld ?_; simp only [Act.put, zq1, zq2, zq3]
       refine ztk 4 22 (.pointer (some ⟨b29, 0, none⟩)) hHeld ?_; simp only [Act.put, zq1, zq2, zq3]
       refine ztk 5 23 (.int .i64 (tk K.T i1).kind) hHeld ?_ (hy := Or.inl ⟨by rfl, fun w' hS => (by have z0 := cell_of_blk (i := 0) hS.2.1 rfl; go_simp)⟩); simp only [Act.put, zq1, zq2, zq3]
       refine ztk 6 24 (.bool true) hHeld ?_ (hy := Or.inl ⟨by rfl, fun w' hS => (by have q2 := HK2.out; go_simp)⟩); simp only [Act.put, zq1, zq2, zq3]
       refine ztk 7 25 (.bool true) hHeld ?_; simp only [Act.put, zq1, zq2, zq3]
       refine ztk 8 26 (.bool true) hHeld ?_; simp only [Act.put, zq1, zq2, zq3]
       refine ztu 9 27 hHeld ?_; simp only [Act.put, zq1, zq2, zq3]
       refine ztu 10 28 hHeld ?_; simp only [Act.put, zq1, zq2, zq3]
       refine ztu 11 29 hHeld ?_; simp only [Act.put, zq1, zq2, zq3]
       refine ztu 12 30 hHeld ?_; simp only [Act.put, zq1, zq2, zq3]
       refine ztu 13 31 hHeld ?_; simp only [Act.put, zq1, zq2, zq3]
       refine ztu 14 32 hHeld ?_; simp only [Act.put, zq1, zq2, zq3]
       refine ztu 15 33 hHeld ?_; simp only [Act.put, zq1, zq2, zq3]
       refine ztu 16 34 hHeld ?_; simp only [Act.put, zq1, zq2, zq3]
       refine ztu 17 35 hHeld ?_; simp only [Act.put, zq1, zq2, zq3]
       refine ztk 18 36 (.bool true) hHeld ?_; simp only [Act.put, zq1, zq2, zq3]
       refine wpAnyH_done (by kernel_rfl) ?_ _
       go_wp2
       go_ret
       exact (by rw [← HFI.out]; have h9 := HZZ.out; rw [← HNX.out] at h9; exact h9)
    ·by_cases h5 : (tk K.T i1).kind = 5
     ·have hcond : ¬ (((tk K.T i1).kind = 5 ∨ (tk K.T i1).kind = 2) ∧ rankL (tk K.T i1).text = rk) := fun e9 => hrk e9.2
      have HK5 := Lib.hid h5
      have HKQ := Lib.hid (show ¬ (rankL (tk K.T i1).text : Int) = (rk : Int) by omega)
      clear h5 hrk
      rw [if_neg hcond] at hr
      have HFI := Lib.hid (Option.some.inj hr)
      clear hr hcond
      have HZZ := Lib.hid (HS33.out.drew.out)
      go_wp2_with fail
      clear x36 x37 x38 x39 x40 xl41
      refine wp_region_held_drew (S := ChS K p b29 (tk K.T i1) w30) (by kernel_rfl) (HCS.out) (fun hHeld => ?_)
      refine ztk 0 18 (.pointer (some ⟨b29, 0, none⟩)) hHeld ?_; simp only [Act.put, zq1, zq2, zq3]
      refine ztk 1 19 (.int .i64 (tk K.T i1).kind) hHeld ?_ (hy := Or.inl ⟨by rfl, fun w' hS => (by have z0 := cell_of_blk (i := 0) hS.2.1 rfl; go_simp)⟩); simp only [Act.put, zq1, zq2, zq3]
      refine ztk 2 20 (.bool false) hHeld ?_ (hy := Or.inl ⟨by rfl, fun w' hS => (by have q5 := HK5.out; go_simp)⟩); simp only [Act.put, zq1, zq2, zq3]
      refine ztk 3 21 (.bool false) hHeld ?_; simp only [Act.put, zq1, zq2, zq3]
      refine ztu 4 22 hHeld ?_; simp only [Act.put, zq1, zq2, zq3]
      refine ztu 5 23 hHeld ?_; simp only [Act.put, zq1, zq2, zq3]
      refine ztu 6 24 hHeld ?_; simp only [Act.put, zq1, zq2, zq3]
      refine ztk 7 25 (.bool false) hHeld ?_; simp only [Act.put, zq1, zq2, zq3]
      refine ztk 8 26 (.bool false) hHeld ?_; simp only [Act.put, zq1, zq2, zq3]
      refine ztk 9 27 (.pointer (some ⟨p, 0, none⟩)) hHeld ?_; simp only [Act.put, zq1, zq2, zq3]
      refine ztk 10 28 (.pointer (some ⟨p, 0, none⟩)) hHeld ?_; simp only [Act.put, zq1, zq2, zq3]
      refine ztk 11 29 (.pointer (some ⟨p, 4, none⟩)) hHeld ?_; simp only [Act.put, zq1, zq2, zq3]
      refine ztk 12 30 (.map (some K.rb)) hHeld ?_ (hy := Or.inl ⟨by rfl, fun w' hS => (by have z4 := hS.1; go_simp)⟩); simp only [Act.put, zq1, zq2, zq3]
      refine ztk 13 31 (.pointer (some ⟨b29, 1, none⟩)) hHeld ?_; simp only [Act.put, zq1, zq2, zq3]
      refine ztk 14 32 (.string (tk K.T i1).text) hHeld ?_ (hy := Or.inl ⟨by rfl, fun w' hS => (by have z1 := cell_of_blk (i := 1) hS.2.1 rfl; go_simp)⟩); simp only [Act.put, zq1, zq2, zq3]
      refine ztk 15 33 (.int .i64 (rankL (tk K.T i1).text : Int)) hHeld ?_ (hy := Or.inl ⟨by rfl, fun w' hS => (by have hl := HLK.out w' hS.2.2; go_simp)⟩); simp only [Act.put, zq1, zq2, zq3]
      refine ztk 16 34 (.int .i64 (rk : Int)) hHeld ?_; simp only [Act.put, zq1, zq2, zq3]
      refine ztk 17 35 (.bool true) hHeld ?_ (hy := Or.inl ⟨by rfl, fun w' hS => (by have qr := HKQ.out; go_simp)⟩); simp only [Act.put, zq1, zq2, zq3]
      refine ztk 18 36 (.bool true) hHeld ?_; simp only [Act.put, zq1, zq2, zq3]
      refine wpAnyH_done (by kernel_rfl) ?_ _
      go_wp2
      go_ret
      exact (by rw [← HFI.out]; have h9 := HZZ.out; rw [← HNX.out] at h9; exact h9)
     ·by_cases h2 : (tk K.T i1).kind = 2
      ·have hcond : ¬ (((tk K.T i1).kind = 5 ∨ (tk K.T i1).kind = 2) ∧ rankL (tk K.T i1).text = rk) := fun e9 => hrk e9.2
       have HK5 := Lib.hid h5
       have HK2 := Lib.hid h2
       have HKQ := Lib.hid (show ¬ (rankL (tk K.T i1).text : Int) = (rk : Int) by omega)
       clear h5 h2 hrk
       rw [if_neg hcond] at hr
       have HFI := Lib.hid (Option.some.inj hr)
       clear hr hcond
       have HZZ := Lib.hid (HS33.out.drew.out)
       go_wp2_with fail
       clear x36 x37 x38 x39 x40 xl41
       refine wp_region_held_drew (S := ChS K p b29 (tk K.T i1) w30) (by kernel_rfl) (HCS.out) (fun hHeld => ?_)
       refine ztk 0 18 (.pointer (some ⟨b29, 0, none⟩)) hHeld ?_; simp only [Act.put, zq1, zq2, zq3]
       refine ztk 1 19 (.int .i64 (tk K.T i1).kind) hHeld ?_ (hy := Or.inl ⟨by rfl, fun w' hS => (by have z0 := cell_of_blk (i := 0) hS.2.1 rfl; go_simp)⟩); simp only [Act.put, zq1, zq2, zq3]
       refine ztk 2 20 (.bool true) hHeld ?_ (hy := Or.inl ⟨by rfl, fun w' hS => (by have q5 := HK5.out; go_simp)⟩); simp only [Act.put, zq1, zq2, zq3]
       refine ztk 3 21 (.bool true) hHeld ?_; simp only [Act.put, zq1, zq2, zq3]
       refine ztk 4 22 (.pointer (some ⟨b29, 0, none⟩)) hHeld ?_; simp only [Act.put, zq1, zq2, zq3]
       refine ztk 5 23 (.int .i64 (tk K.T i1).kind) hHeld ?_ (hy := Or.inl ⟨by rfl, fun w' hS => (by have z0 := cell_of_blk (i := 0) hS.2.1 rfl; go_simp)⟩); simp only [Act.put, zq1, zq2, zq3]
       refine ztk 6 24 (.bool false) hHeld ?_ (hy := Or.inl ⟨by rfl, fun w' hS => (by have q2 := HK2.out; go_simp)⟩); simp only [Act.put, zq1, zq2, zq3]
       refine ztk 7 25 (.bool false) hHeld ?_; simp only [Act.put, zq1, zq2, zq3]
       refine ztk 8 26 (.bool false) hHeld ?_; simp only [Act.put, zq1, zq2, zq3]
       refine ztk 9 27 (.pointer (some ⟨p, 0, none⟩)) hHeld ?_; simp only [Act.put, zq1, zq2, zq3]
       refine ztk 10 28 (.pointer (some ⟨p, 0, none⟩)) hHeld ?_; simp only [Act.put, zq1, zq2, zq3]
       refine ztk 11 29 (.pointer (some ⟨p, 4, none⟩)) hHeld ?_; simp only [Act.put, zq1, zq2, zq3]
       refine ztk 12 30 (.map (some K.rb)) hHeld ?_ (hy := Or.inl ⟨by rfl, fun w' hS => (by have z4 := hS.1; go_simp)⟩); simp only [Act.put, zq1, zq2, zq3]
       refine ztk 13 31 (.pointer (some ⟨b29, 1, none⟩)) hHeld ?_; simp only [Act.put, zq1, zq2, zq3]
       refine ztk 14 32 (.string (tk K.T i1).text) hHeld ?_ (hy := Or.inl ⟨by rfl, fun w' hS => (by have z1 := cell_of_blk (i := 1) hS.2.1 rfl; go_simp)⟩); simp only [Act.put, zq1, zq2, zq3]
       refine ztk 15 33 (.int .i64 (rankL (tk K.T i1).text : Int)) hHeld ?_ (hy := Or.inl ⟨by rfl, fun w' hS => (by have hl := HLK.out w' hS.2.2; go_simp)⟩); simp only [Act.put, zq1, zq2, zq3]
       refine ztk 16 34 (.int .i64 (rk : Int)) hHeld ?_; simp only [Act.put, zq1, zq2, zq3]
       refine ztk 17 35 (.bool true) hHeld ?_ (hy := Or.inl ⟨by rfl, fun w' hS => (by have qr := HKQ.out; go_simp)⟩); simp only [Act.put, zq1, zq2, zq3]
       refine ztk 18 36 (.bool true) hHeld ?_; simp only [Act.put, zq1, zq2, zq3]
       refine wpAnyH_done (by kernel_rfl) ?_ _
       go_wp2
       go_ret
       exact (by rw [← HFI.out]; have h9 := HZZ.out; rw [← HNX.out] at h9; exact h9)
      ·have hcond : ¬ (((tk K.T i1).kind = 5 ∨ (tk K.T i1).kind = 2) ∧ rankL (tk K.T i1).text = rk) := fun e9 => e9.1.elim h5 h2
       have HK5 := Lib.hid h5
       have HK2 := Lib.hid h2
       clear h5 h2 hrk
       rw [if_neg hcond] at hr
       have HFI := Lib.hid (Option.some.inj hr)
       clear hr hcond
       have HZZ := Lib.hid (HS33.out.drew.out)
       go_wp2_with fail
       clear x36 x37 x38 x39 x40 xl41
       refine wp_region_held_drew (S := ChS K p b29 (tk K.T i1) w30) (by kernel_rfl) (HCS.out) (fun hHeld => ?_)
       refine ztk 0 18 (.pointer (some ⟨b29, 0, none⟩)) hHeld ?_; simp only [Act.put, zq1, zq2, zq3]
       refine ztk 1 19 (.int .i64 (tk K.T i1).kind) hHeld ?_ (hy := Or.inl ⟨by rfl, fun w' hS => (by have z0 := cell_of_blk (i := 0) hS.2.1 rfl; go_simp)⟩); simp only [Act.put, zq1, zq2, zq3]
       refine ztk 2 20 (.bool true) hHeld ?_ (hy := Or.inl ⟨by rfl, fun w' hS => (by have q5 := HK5.out; go_simp)⟩); simp only [Act.put, zq1, zq2, zq3]
       refine ztk 3 21 (.bool true) hHeld ?_; simp only [Act.put, zq1, zq2, zq3]
       refine ztk 4 22 (.pointer (some ⟨b29, 0, none⟩)) hHeld ?_; simp only [Act.put, zq1, zq2, zq3]
       refine ztk 5 23 (.int .i64 (tk K.T i1).kind) hHeld ?_ (hy := Or.inl ⟨by rfl, fun w' hS => (by have z0 := cell_of_blk (i := 0) hS.2.1 rfl; go_simp)⟩); simp only [Act.put, zq1, zq2, zq3]
       refine ztk 6 24 (.bool true) hHeld ?_ (hy := Or.inl ⟨by rfl, fun w' hS => (by have q2 := HK2.out; go_simp)⟩); simp only [Act.put, zq1, zq2, zq3]
       refine ztk 7 25 (.bool true) hHeld ?_; simp only [Act.put, zq1, zq2, zq3]
       refine ztk 8 26 (.bool true) hHeld ?_; simp only [Act.put, zq1, zq2, zq3]
       refine ztu 9 27 hHeld ?_; simp only [Act.put, zq1, zq2, zq3]
       refine ztu 10 28 hHeld ?_; simp only [Act.put, zq1, zq2, zq3]
       refine ztu 11 29 hHeld ?_; simp only [Act.put, zq1, zq2, zq3]
       refine ztu 12 30 hHeld ?_; simp only [Act.put, zq1, zq2, zq3]
       refine ztu 13 31 hHeld ?_; simp only [Act.put, zq1, zq2, zq3]
       refine ztu 14 32 hHeld ?_; simp only [Act.put, zq1, zq2, zq3]
       refine ztu 15 33 hHeld ?_; simp only [Act.put, zq1, zq2, zq3]
       refine ztu 16 34 hHeld ?_; simp only [Act.put, zq1, zq2, zq3]
       refine ztu 17 35 hHeld ?_; simp only [Act.put, zq1, zq2, zq3]
       refine ztk 18 36 (.bool true) hHeld ?_; simp only [Act.put, zq1, zq2, zq3]
       refine wpAnyH_done (by kernel_rfl) ?_ _
       go_wp2
       go_ret
       exact (by rw [← HFI.out]; have h9 := HZZ.out; rw [← HNX.out] at h9; exact h9)
end Go.Proofs.YthobobmbileekaaGreatDoor
