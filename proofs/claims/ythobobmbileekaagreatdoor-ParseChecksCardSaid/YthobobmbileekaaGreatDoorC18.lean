/-
 ParseChecks: part 18 of what the claim rests on.
-/
import Derived.Test.YthobobmbileekaaGreatDoorC01
import Derived.Test.YthobobmbileekaaGreatDoorC17
import Derived.Deep.RegionHeld3
set_option linter.unusedVariables false
set_option linter.unusedSimpArgs false
set_option maxHeartbeats 64000000
set_option maxRecDepth 100000
namespace Go.Proofs.YthobobmbileekaaGreatDoor
open Go.ChangeShapes Go.WideShapes Go.ChangeAt Go.RowKit

theorem walk_body {f : Nat} (AP : ∀ g, g ≤ f → AllPart g) (a : Nat) : Callee (f + 1) (.body a) 76 (fun p => #[.pointer (some ⟨p, 0, none⟩), natV a]) := by
 intro K w p i o sn ns fp h hroom ho r hr
 change stepBody K.T (parF K.T f) a o i = some r at hr
 unfold stepBody at hr
 have HB := zh (Beg.of h)
 have HTK := zh h.env.tok
 have HRM := zh hroom.2
 have HI := zh hroom.1
 have HO := zh ho
 have HS0 := zh (St.start h)
 have HLN := zh h.env.len
 have HAP := zh AP
 clear h hroom ho AP
 have HR := zh hr
 clear hr
 go_enter Tryz.func76, Tryz.ntmps76
 have hr := HR.out
 clear HR
 have HR := zh hr
 clear hr
 go_upto_region 1 with fail
 obtain ⟨b1, hb⟩ : ∃ b, b = w.heap.size := ⟨_, rfl⟩
 rw [← hb]
 refine gen_wpT fun w2 hW => ?_
 have HX3 := zh (show w2.heap[b1]? = some (.cells #[.pointer (some ⟨p, 0, none⟩)] 44 (0, 0)) by rw [← hW]; exact heap_new_at _ _ _ hb.symm)
 have HBL6 := zh (show Below w.heap.size w w2 by rw [← hW]; exact zbr.alloc znr _)
 have HS5 := zh (HS0.out.below HBL6.out)
 have HA4 := zh (Away.new HS0.out.pa (Nat.le_of_eq hb.symm) (blk_lt HX3.out))
 have HBE7 := zh (show w.heap.size ≤ b1 from by have := HS0.out.pt.fr.size; omega)
 clear hW hb
 have x8 := zc 0 HX3.out rfl
 have xl9 := blk_lt HX3.out
 have hr := HR.out
 clear HR
 unfold need at hr
 cases hb : isAny (tk K.T i) [⟨#[40]⟩] with
 | false =>
  rw [if_neg (by rw [hb]; decide)] at hr; have HRR11 := zh (show Res.bad _ _ = r from (by exact Option.some.inj hr)); have HC13 := zh ((need_no HS5.out.pa HI.out ⟨#[40]⟩ hb).mono fun e w' hh => (show OutB w p _ 70 e w' from ⟨hh.1, HS5.out.bad HB.out hh.2⟩)); clear hr; go_wp2_with fail
  refine HC13.out.mono ?_; rintro e wb ⟨rfl, hb⟩; have HB12 := zh hb; clear hb; unfold wrongP; go_wp2
  exact ⟨rfl, by rw [← HRR11.out]; exact ⟨rfl, HB12.out⟩⟩
 | true =>
  rw [if_pos hb] at hr; have HLT10 := zh (any_lt HTK.out HI.out hb); have HC16 := zh (need_yes HS5.out.pa HI.out ⟨#[40]⟩ hb); clear hb; have HR := zh hr; clear hr; go_wp2_with fail
  clear x8 xl9; refine HC16.out.mono ?_; rintro e w14 ⟨rfl, h1, h2⟩; have HS15 := zh (HS5.out.step h1 h2); have HX17 := zh (Away.blkTo HX3.out HA4.out h2); have HA18 := zh (HA4.out.to h2); clear h1 h2; have x19 := zc 0 HX17.out rfl; have xl20 := blk_lt HX17.out; have hr := HR.out; clear HR; obtain ⟨X, hX⟩ : ∃ X, (parF K.T f).many (.until ⟨#[41]⟩ .param []) o (i + 1) = X := ⟨_, rfl⟩; rw [hX] at hr
  cases X with
  | none => exact absurd hr (by simp [Res.then])
  | some X =>
  cases X with
  | bad a n =>
   have HRR23 := zh (show Res.bad a n = r from by dsimp only [Res.then] at hr; exact Option.some.inj hr); have HC36 := zh (until_rowno (fn := 97) (fst := #[]) (cap := #[.pointer (some ⟨b1, 0, none⟩)]) (args := #[.pointer (some ⟨b1, 0, none⟩)]) HS15.out HB.out ⟨HLT10.out, by have := HRM.out; have := HI.out; have := HLT10.out; (try simp only [zS]); omega⟩ HO.out ⟨#[41]⟩ .param (fun W => rfl) rfl (BoxInv b1 (.cells #[.pointer (some ⟨p, 0, none⟩)] 44 (0, 0)) p) ⟨HX17.out, HA18.out⟩ (fun acc w1 w2 fp1 S hI hf hS => box_stay (blk_lt HX17.out) hI hf hS) (fun g acc w1 i1 ns1 fp1 hg h1 h2 h3 r hr => item_box h3 ((HAP.out g hg).paramC K w1 p i1 o sn ns1 fp1 b1 h1 h2 HO.out h3.1 h3.2 r hr)) hX); clear hr hX; go_wp2_with fail
   refine HC36.out.mono ?_; rintro e wb ⟨rfl, hb⟩; have HB35 := zh hb; clear hb; unfold wrongP; go_wp2
   exact ⟨rfl, by rw [← HRR23.out]; exact ⟨rfl, HB35.out⟩⟩
  | ok l21 j22 =>
   dsimp only [Res.then] at hr
   have hft := (fit_all HTK.out f).many (.until ⟨#[41]⟩ .param []) o (i + 1) HLT10.out; rw [hX] at hft; obtain ⟨f1, f2, f3⟩ := hft; simp only [ptsS, Nat.zero_add] at f3
   have HF24 := zh (And.intro f1 (And.intro f2 f3)); clear f1 f2 f3; have HC30 := zh (until_row (fn := 97) (fst := #[]) (cap := #[.pointer (some ⟨b1, 0, none⟩)]) (args := #[.pointer (some ⟨b1, 0, none⟩)]) HS15.out ⟨HLT10.out, by have := HRM.out; have := HI.out; have := HLT10.out; (try simp only [zS]); omega⟩ HO.out ⟨#[41]⟩ .param (fun W => rfl) rfl (BoxInv b1 (.cells #[.pointer (some ⟨p, 0, none⟩)] 44 (0, 0)) p) ⟨HX17.out, HA18.out⟩ (fun acc w1 w2 fp1 S hI hf hS => box_stay (blk_lt HX17.out) hI hf hS) (fun g acc w1 i1 ns1 fp1 hg h1 h2 h3 r hr => item_box h3 ((HAP.out g hg).paramC K w1 p i1 o sn ns1 fp1 b1 h1 h2 HO.out h3.1 h3.2 r hr)) hX); clear hX; have HR := zh hr; clear hr; go_wp2_with fail
   clear x19 xl20; refine HC30.out.mono ?_; rintro e w28 ⟨A25, c26, fp27, rfl, h1, h2, h3, h4⟩; obtain ⟨k33, hrl⟩ : ∃ k, k = l21.length := ⟨_, rfl⟩; rw [← hrl] at h3 h4 ⊢; have HS29 := zh h1; have HV31 := zh h3; have HGO32 := zh h4; have HK34 := zh hrl; have HX37 := zh (Away.blkTo HX17.out HA18.out h2); have HA38 := zh (HA18.out.to h2); clear h1 h2 h3 h4 hrl; have x39 := zc 0 HX37.out rfl; have xl40 := blk_lt HX37.out; have hr := HR.out; clear HR; obtain ⟨X, hX⟩ : ∃ X, (parF K.T f).one (.colon false) o j22 = X := ⟨_, rfl⟩; rw [hX] at hr
   cases X with
   | none => exact absurd hr (by simp [Res.then])
   | some X =>
   cases X with
   | bad a n =>
    have HRR43 := zh (show Res.bad a n = r from (by dsimp only [Res.then] at hr; exact Option.some.inj hr)); have HC46 := zh (call_bad ((HAP.out f (Nat.le_refl f)).colon false) HS29.out HB.out ⟨HF24.out.1, by have := HRM.out; have := HI.out; have := HLT10.out; have := HF24.out; (try simp only [zS]); omega⟩ HO.out hX); clear hr hX; go_wp2_with fail
    refine HC46.out.mono ?_; rintro e wb ⟨rfl, hb⟩; have HB45 := zh hb; clear hb; unfold wrongP; go_wp2
    exact ⟨rfl, by rw [← HRR43.out]; exact ⟨rfl, HB45.out⟩⟩
   | ok t41 j42 =>
    have hft := (fit_all HTK.out f).one (.colon false) o j22 HF24.out.1; rw [hX] at hft; obtain ⟨f1, f2, f3⟩ := hft; simp only [lazy1, sl1, ex1, zf] at f2 f3
    have HF44 := zh (And.intro f1 (And.intro f2 f3)); clear f1 f2 f3; have HC50 := zh (call_ok ((HAP.out f (Nat.le_refl f)).colon false) HS29.out ⟨HF24.out.1, by have := HRM.out; have := HI.out; have := HLT10.out; have := HF24.out; (try simp only [zS]); omega⟩ HO.out hX); dsimp only [Res.then] at hr
    clear hX; have HR := zh hr; clear hr; go_wp2_with fail
    clear x39 xl40; refine HC50.out.mono ?_; rintro e w47 ⟨rfl, fp48, h1, h2⟩; obtain ⟨n51, hn⟩ : ∃ n, n = nr ns l21 t41 := ⟨_, rfl⟩; rw [← hn]; have HN52 := zh hn; have HS49 := zh (show St K w p j42 o sn ns fp (l21 ++ [t41]) w47 fp48 from h1); have HX53 := zh (Away.blkTo HX37.out HA38.out h2); have HA54 := zh (HA38.out.to h2); have HV55 := zh (HV31.out.to h2); clear h1 h2 hn; have x56 := zc 0 HX53.out rfl; have xl57 := blk_lt HX53.out; have hr := HR.out; clear HR; have HKB67 := zh (show k33 ≤ 900000 by have h9 := HK34.out; have h8 := ptsS_len l21; have h7 := (show ns.length + ptsS (l21 ++ [t41]) + 4 * (K.T.length - j42) ≤ 900000 from by have := HRM.out; have := HI.out; have := HLT10.out; have := HF24.out; have := HF44.out; (try simp only [zS]); omega); (try simp only [ptsS_append, List.length_append] at h7 h8 h9); omega)
    try unfold natV
    have HR := zh hr; clear hr; go_wp2_with (at_builtin; (refine wpList_push (n := n51) rfl _ _ rfl HS49.out HV55.out (by rw [roots_len]; exact HK34.out) HKB67.out (B := w.heap.size) znr HS49.out.pt.fr.size HGO32.out rfl rfl rfl ?_); intro g58 cap59 w60 h1 h2 h3 h4; clear x56 xl57; have HS63 := zh h1; have HV61 := zh h2; have HGO62 := zh h3; have HX68 := zh (h4.blk HX53.out (.inl (by decide))); have HA69 := zh (HA54.out.on h4.size); have x70 := zc 0 HX68.out rfl; have xl71 := blk_lt HX68.out; clear h1 h2 h3 h4)
    obtain ⟨k65, hk2⟩ : ∃ k, k = k33 + 1 := ⟨_, rfl⟩; have HK66 := zh (show k65 = (l21 ++ [t41]).length by rw [hk2, HK34.out]; simp); have HV72 := zh (show Ints w60 p fp48 (.slice (some ⟨g58, 0, none⟩) k65 cap59) (roots ns.length (l21 ++ [t41])) by rw [roots_more, ← HN52.out, hk2]; exact HV61.out); rw [← hk2] at HGO62
    try rw [← hk2]
    clear hk2; have hr := HR.out; clear HR; obtain ⟨X, hX⟩ : ∃ X, (parF K.T f).one (.ended) o j42 = X := ⟨_, rfl⟩; rw [hX] at hr
    cases X with
    | none => exact absurd hr (by simp [Res.then])
    | some X =>
    cases X with
    | bad a n =>
     have HRR75 := zh (show Res.bad a n = r from (by dsimp only [Res.then] at hr; exact Option.some.inj hr)); have HC78 := zh (call_bad ((HAP.out f (Nat.le_refl f)).ended) HS63.out HB.out ⟨HF44.out.1, by have := HRM.out; have := HI.out; have := HLT10.out; have := HF24.out; have := HF44.out; (try simp only [zS]); omega⟩ HO.out hX); clear hr hX; go_wp2_with fail
     refine HC78.out.mono ?_; rintro e wb ⟨rfl, hb⟩; have HB77 := zh hb; clear hb; unfold wrongP; go_wp2
     exact ⟨rfl, by rw [← HRR75.out]; exact ⟨rfl, HB77.out⟩⟩
    | ok t73 j74 =>
     have hft := (fit_all HTK.out f).one (.ended) o j42 HF44.out.1; rw [hX] at hft; obtain ⟨f1, f2, f3⟩ := hft; simp only [lazy1, sl1, ex1, zf] at f2 f3
     have HF76 := zh (And.intro f1 (And.intro f2 f3)); clear f1 f2 f3; have HC82 := zh (call_ok ((HAP.out f (Nat.le_refl f)).ended) HS63.out ⟨HF44.out.1, by have := HRM.out; have := HI.out; have := HLT10.out; have := HF24.out; have := HF44.out; (try simp only [zS]); omega⟩ HO.out hX); dsimp only [Res.then] at hr
     clear hX; have HR := zh hr; clear hr; go_wp2_with fail
     clear x70 xl71; refine HC82.out.mono ?_; rintro e w79 ⟨rfl, fp80, h1, h2⟩; obtain ⟨n83, hn⟩ : ∃ n, n = nr ns (l21 ++ [t41]) t73 := ⟨_, rfl⟩; rw [← hn]; have HN84 := zh hn; have HS81 := zh (show St K w p j74 o sn ns fp ((l21 ++ [t41]) ++ [t73]) w79 fp80 from h1); have HX85 := zh (Away.blkTo HX68.out HA69.out h2); have HA86 := zh (HA69.out.to h2); have HV87 := zh (HV72.out.to h2); clear h1 h2 hn; have x88 := zc 0 HX85.out rfl; have xl89 := blk_lt HX85.out; have hr := HR.out; clear HR; have HKB99 := zh (show k65 ≤ 900000 by have h9 := HK66.out; have h8 := ptsS_len (l21 ++ [t41]); have h7 := (show ns.length + ptsS ((l21 ++ [t41]) ++ [t73]) + 4 * (K.T.length - j74) ≤ 900000 from by have := HRM.out; have := HI.out; have := HLT10.out; have := HF24.out; have := HF44.out; have := HF76.out; (try simp only [zS]); omega); (try simp only [ptsS_append, List.length_append] at h7 h8 h9); omega)
     try unfold natV
     have HR := zh hr; clear hr; go_wp2_with (at_builtin; (refine wpList_push (n := n83) rfl _ _ rfl HS81.out HV87.out (by rw [roots_len]; exact HK66.out) HKB99.out (B := w.heap.size) znr HS81.out.pt.fr.size HGO62.out rfl rfl rfl ?_); intro g90 cap91 w92 h1 h2 h3 h4; clear x88 xl89; have HS95 := zh h1; have HV93 := zh h2; have HGO94 := zh h3; have HX100 := zh (h4.blk HX85.out (.inl (by decide))); have HA101 := zh (HA86.out.on h4.size); have x102 := zc 0 HX100.out rfl; have xl103 := blk_lt HX100.out; clear h1 h2 h3 h4)
     obtain ⟨k97, hk2⟩ : ∃ k, k = k65 + 1 := ⟨_, rfl⟩; have HK98 := zh (show k97 = ((l21 ++ [t41]) ++ [t73]).length by rw [hk2, HK66.out]; simp); have HV104 := zh (show Ints w92 p fp80 (.slice (some ⟨g90, 0, none⟩) k97 cap91) (roots ns.length ((l21 ++ [t41]) ++ [t73])) by rw [roots_more, ← HN84.out, hk2]; exact HV93.out); rw [← hk2] at HGO94
     try rw [← hk2]
     clear hk2; have hr := HR.out; clear HR; have HRR106 := zh (show Res.ok _ _ = r from Option.some.inj hr); clear hr; have HL105 := zh (lay_row HS95.out (by have h7 := (show ns.length + ptsS ((l21 ++ [t41]) ++ [t73]) + 4 * (K.T.length - j74) ≤ 900000 from by have := HRM.out; have := HI.out; have := HLT10.out; have := HF24.out; have := HF44.out; have := HF76.out; (try simp only [zS]); omega); omega) 22 ⟨#[]⟩ a HV104.out); go_wp2_with fail
     refine HL105.out.mono ?_; rintro e wz ⟨rfl, fpz, h1, h2⟩; have HZ107 := zh (show OutP K w p o sn ns fp (.ok (.mk 22 ⟨#[]⟩ a ((l21 ++ [t41]) ++ [t73])) j74) (.returned _) wz from ⟨rfl, fpz, h1, h2⟩); clear h1 h2; go_wp2
     go_ret
     exact (by rw [← HRR106.out]; first | exact HZ107.out | (have h9 := HZ107.out; rw [List.append_assoc] at h9; exact h9))
theorem clos_param {f : Nat} (AP : ∀ g, g ≤ f → AllPart g)  : ClosP (f + 1)  .param 97 := by
 intro K w p i o sn ns fp b h hroom ho hb1 ha1 r hr
 change stepParam K.T (parF K.T f) o i = some r at hr
 unfold stepParam at hr
 have HB := zh (Beg.of h)
 have HTK := zh h.env.tok
 have HRM := zh hroom.2
 have HI := zh hroom.1
 have HO := zh ho
 have HS0 := zh (St.start h)
 have HLN := zh h.env.len
 have HAP := zh AP
 have HX0 := zh hb1
 have HA0 := zh ha1
 clear h hroom ho AP hb1 ha1
 have HR := zh hr
 clear hr
 go_enter Tryz.func97, Tryz.ntmps97
 have x1 := zc 0 HX0.out rfl
 have xl2 := blk_lt HX0.out
 have hr := HR.out
 clear HR
 unfold variableL token at hr
 by_cases hk : (tk K.T i).kind = 1
 ·rw [if_pos hk] at hr
  dsimp only at hr
  have HLT3 := zh (tk_lt HTK.out HI.out (by rw [hk]; decide))
  cases hbu : builtinL (tk K.T i).text with
  | some nb =>
   rw [hbu] at hr; have HRR5 := zh (show Res.bad (tk K.T i).a 70 = r from Option.some.inj hr); have HC10 := zh ((variable_builtin HS0.out.pa HI.out hk hbu).mono fun e w' hh => (show OutB w p _ 70 e w' from ⟨hh.1, HS0.out.bad HB.out hh.2⟩)); clear hr hk hbu; go_wp2_with fail
   refine HC10.out.mono ?_; rintro e wb ⟨rfl, hb⟩; have HB9 := zh hb; clear hb; unfold wrongP; go_wp2
   exact ⟨rfl, by rw [← HRR5.out]; exact ⟨rfl, HB9.out⟩⟩
  | none =>
   rw [hbu] at hr; dsimp only [Option.isSome] at hr
   rw [if_neg (by decide)] at hr; have HC13 := zh (variable_ok HS0.out.pa HI.out hk hbu); clear hk hbu; have HR := zh hr; clear hr; go_wp2_with fail
   clear x1 xl2; refine HC13.out.mono ?_; rintro e w11 ⟨rfl, h1, h2⟩; have HS12 := zh (HS0.out.step h1 h2); have HX14 := zh (Away.blkTo HX0.out HA0.out h2); have HA15 := zh (HA0.out.to h2); clear h1 h2; have x16 := zc 0 HX14.out rfl; have xl17 := blk_lt HX14.out; have hr := HR.out; clear HR; unfold tokJ; have HR := zh hr; clear hr
   go_upto_region 2 with fail
   clear x16 xl17; obtain ⟨b18, hb⟩ : ∃ b, b = w11.heap.size := ⟨_, rfl⟩; rw [← hb]; refine gen_wpT fun w19 hW => ?_; have HX20 := zh (show w19.heap[b18]? = some (.cells #[.int .i64 (tk K.T i).kind, .string (tk K.T i).text, .int .i64 ((tk K.T i).a : Int), .int .i64 ((tk K.T i).z : Int), .int .i64 (tk K.T i).n] 65 (0, 0)) by rw [← hW]; exact heap_new_at _ _ _ hb.symm); have HBL23 := zh (show Below w11.heap.size w11 w19 by rw [← hW]; exact zbr.alloc znr _); have HS22 := zh (HS12.out.below HBL23.out); have HA21 := zh (Away.new HS12.out.pa (Nat.le_of_eq hb.symm) (blk_lt HX20.out)); have HBE24 := zh (show w.heap.size ≤ b18 from by have := HS12.out.pt.fr.size; omega); have HX25 := zh (below_blk HBL23.out HX14.out); have HA26 := zh (HA15.out.on HBL23.out.size); clear hW hb; have x27 := zc 0 HX25.out rfl; have xl28 := blk_lt HX25.out; have x29 := zc 0 HX20.out rfl; have x30 := zc 1 HX20.out rfl; have x31 := zc 2 HX20.out rfl; have x32 := zc 3 HX20.out rfl; have x33 := zc 4 HX20.out rfl; have xl34 := blk_lt HX20.out; have hr := HR.out; clear HR; obtain ⟨X, hX⟩ : ∃ X, (parF K.T f).one (.colon true) o (i + 1) = X := ⟨_, rfl⟩; rw [hX] at hr
   cases X with
   | none => exact absurd hr (by simp [Res.then])
   | some X =>
   cases X with
   | bad a n =>
    have HRR37 := zh (show Res.bad a n = r from (by dsimp only [Res.then] at hr; exact Option.some.inj hr)); have HC40 := zh (call_bad ((HAP.out f (Nat.le_refl f)).colon true) HS22.out HB.out ⟨HLT3.out, by have := HRM.out; have := HI.out; have := HLT3.out; (try simp only [zS]); omega⟩ HO.out hX); clear hr hX; go_wp2_with fail
    refine HC40.out.mono ?_; rintro e wb ⟨rfl, hb⟩; have HB39 := zh hb; clear hb; unfold wrongP; go_wp2
    exact ⟨rfl, by rw [← HRR37.out]; exact ⟨rfl, HB39.out⟩⟩
   | ok t35 j36 =>
    have hft := (fit_all HTK.out f).one (.colon true) o (i + 1) HLT3.out; rw [hX] at hft; obtain ⟨f1, f2, f3⟩ := hft; simp only [lazy1, sl1, ex1, zf] at f2 f3
    have HF38 := zh (And.intro f1 (And.intro f2 f3)); clear f1 f2 f3; have HC44 := zh (call_ok ((HAP.out f (Nat.le_refl f)).colon true) HS22.out ⟨HLT3.out, by have := HRM.out; have := HI.out; have := HLT3.out; (try simp only [zS]); omega⟩ HO.out hX); dsimp only [Res.then] at hr
    clear hX; have HR := zh hr; clear hr; go_wp2_with fail
    clear x27 xl28 x29 x30 x31 x32 x33 xl34; refine HC44.out.mono ?_; rintro e w41 ⟨rfl, fp42, h1, h2⟩; obtain ⟨n45, hn⟩ : ∃ n, n = nr ns [] t35 := ⟨_, rfl⟩; rw [← hn]; have HN46 := zh hn; have HS43 := zh (show St K w p j36 o sn ns fp [t35] w41 fp42 from h1); have HX47 := zh (Away.blkTo HX25.out HA26.out h2); have HA48 := zh (HA26.out.to h2); have HX49 := zh (Away.blkTo HX20.out HA21.out h2); have HA50 := zh (HA21.out.to h2); clear h1 h2 hn; have x51 := zc 0 HX47.out rfl; have xl52 := blk_lt HX47.out; have x53 := zc 0 HX49.out rfl; have x54 := zc 1 HX49.out rfl; have x55 := zc 2 HX49.out rfl; have x56 := zc 3 HX49.out rfl; have x57 := zc 4 HX49.out rfl; have xl58 := blk_lt HX49.out; have hr := HR.out; clear HR; have HRR60 := zh (show Res.ok _ _ = r from Option.some.inj hr); clear hr; have HL59 := zh (show ∀ W, W = w41.alloc (.cells #[natV n45] 3) → Calls Tryz.prog 23 #[.pointer (some ⟨p, 0, none⟩), .int .i64 23, .string (tk K.T i).text, natV (tk K.T i).a, .slice (some ⟨w41.heap.size, 0, none⟩) 1 1] W (OutP K w p o sn ns fp (.ok (.mk 23 (tk K.T i).text (tk K.T i).a [t35]) j36)) from fun W hW => by
     subst hW; exact lay_fin (HS43.out.below (zbr.alloc znr _)) (by have := HRM.out; have := HI.out; have := HLT3.out; have := HF38.out; (try simp only [ptsS, ptS, noneT, ptsS_append, List.nil_append, List.cons_append, Nat.add_zero, Nat.zero_add]); omega) (by simp) 23 (tk K.T i).text (tk K.T i).a (KidsV.new w41 n45 [] _ rfl) (by simp only [HN46.out, nr, roots, ptsS, Nat.add_zero, Nat.add_assoc]))
    try unfold natV
    go_wp2_with fail
    refine (HL59.out _ rfl).mono ?_; rintro e wz ⟨rfl, fpz, h1, h2⟩; have HZ61 := zh (show OutP K w p o sn ns fp (.ok (.mk 23 (tk K.T i).text (tk K.T i).a [t35]) j36) (.returned _) wz from ⟨rfl, fpz, h1, h2⟩); clear h1 h2; go_wp2
    go_ret
    exact (by rw [← HRR60.out]; exact HZ61.out)
 ·rw [if_neg hk] at hr
  have HRR4 := zh (show Res.bad _ _ = r from (by exact Option.some.inj hr)); have HC8 := zh ((variable_no HS0.out.pa HI.out hk).mono fun e w' hh => (show OutB w p _ 70 e w' from ⟨hh.1, HS0.out.bad HB.out hh.2⟩)); clear hr hk; go_wp2_with fail
  refine HC8.out.mono ?_; rintro e wb ⟨rfl, hb⟩; have HB7 := zh hb; clear hb; unfold wrongP; go_wp2
  exact ⟨rfl, by rw [← HRR4.out]; exact ⟨rfl, HB7.out⟩⟩
theorem clos_kind {f : Nat} (AP : ∀ g, g ≤ f → AllPart g) (a : Nat) : ClosA (f + 1) a (.kindF a) 111 := by
 intro K w p i o sn ns fp b b2 h hroom ho hb1 ha1 hb2 ha2 r hr
 change stepKindF K.T (parF K.T f) a o i = some r at hr
 unfold stepKindF at hr
 have HB := zh (Beg.of h)
 have HTK := zh h.env.tok
 have HRM := zh hroom.2
 have HI := zh hroom.1
 have HO := zh ho
 have HS0 := zh (St.start h)
 have HLN := zh h.env.len
 have HAP := zh AP
 have HX0 := zh hb1
 have HA0 := zh ha1
 have HX00 := zh hb2
 have HA00 := zh ha2
 clear h hroom ho AP hb1 ha1 hb2 ha2
 have HR := zh hr
 clear hr
 go_enter Tryz.func111, Tryz.ntmps111
 have x1 := zc 0 HX0.out rfl
 have xl2 := blk_lt HX0.out
 have x3 := zc 0 HX00.out rfl
 have xl4 := blk_lt HX00.out
 have hr := HR.out
 clear HR
 have HOLD := zh (show b2 < w.heap.size from HA00.out.2.1)
 obtain ⟨X, hX⟩ : ∃ X, (parF K.T f).many (.until ⟨#[41]⟩ .kind []) o i = X := ⟨_, rfl⟩
 rw [hX] at hr
 cases X with
 | none => exact absurd hr (by simp [Res.then])
 | some X =>
 cases X with
 | bad a n =>
  have HRR7 := zh (show Res.bad a n = r from by dsimp only [Res.then] at hr; exact Option.some.inj hr); have HC20 := zh (until_rowno (fn := 95) (fst := #[.pointer (some ⟨p, 0, none⟩)]) (cap := #[]) (args := #[.pointer (some ⟨p, 0, none⟩)]) HS0.out HB.out ⟨HI.out, by have := HRM.out; have := HI.out; (try simp only [zS]); omega⟩ HO.out ⟨#[41]⟩ .kind (fun W => rfl) rfl (fun _ _ _ => True) trivial (fun _ _ _ _ _ _ _ _ => trivial) (fun g acc w1 i1 ns1 fp1 hg h1 h2 h3 r hr => item_fn (nt := .exp) (g := g) (o := o) ((HAP.out g hg).kind K w1 p i1 o sn ns1 fp1 h1 h2 HO.out r hr)) hX); clear hr hX; go_wp2_with fail
  refine HC20.out.mono ?_; rintro e wb ⟨rfl, hb⟩; have HB19 := zh hb; clear hb; unfold wrongP; go_wp2
  exact ⟨rfl, by rw [← HRR7.out]; exact ⟨rfl, HB19.out⟩⟩
 | ok l5 j6 =>
  dsimp only [Res.then] at hr
  have hft := (fit_all HTK.out f).many (.until ⟨#[41]⟩ .kind []) o i HI.out; rw [hX] at hft; obtain ⟨f1, f2, f3⟩ := hft; simp only [ptsS, Nat.zero_add] at f3
  have HF8 := zh (And.intro f1 (And.intro f2 f3)); clear f1 f2 f3; have HC14 := zh (until_row (fn := 95) (fst := #[.pointer (some ⟨p, 0, none⟩)]) (cap := #[]) (args := #[.pointer (some ⟨p, 0, none⟩)]) HS0.out ⟨HI.out, by have := HRM.out; have := HI.out; (try simp only [zS]); omega⟩ HO.out ⟨#[41]⟩ .kind (fun W => rfl) rfl (fun _ _ _ => True) trivial (fun _ _ _ _ _ _ _ _ => trivial) (fun g acc w1 i1 ns1 fp1 hg h1 h2 h3 r hr => item_fn (nt := .exp) (g := g) (o := o) ((HAP.out g hg).kind K w1 p i1 o sn ns1 fp1 h1 h2 HO.out r hr)) hX); clear hX; have HR := zh hr; clear hr; go_wp2_with fail
  clear x1 xl2 x3 xl4; refine HC14.out.mono ?_; rintro e w12 ⟨A9, c10, fp11, rfl, h1, h2, h3, h4⟩; obtain ⟨k17, hrl⟩ : ∃ k, k = l5.length := ⟨_, rfl⟩; rw [← hrl] at h3 h4 ⊢; have HS13 := zh h1; have HV15 := zh h3; have HGO16 := zh h4; have HK18 := zh hrl; have HX21 := zh (Away.blkTo HX0.out HA0.out h2); have HA22 := zh (HA0.out.to h2); have HX23 := zh (Away.blkTo HX00.out HA00.out h2); have HA24 := zh (HA00.out.to h2); clear h1 h2 h3 h4 hrl; have x25 := zc 0 HX21.out rfl; have xl26 := blk_lt HX21.out; have x27 := zc 0 HX23.out rfl; have xl28 := blk_lt HX23.out; have hr := HR.out; clear HR; unfold need at hr
  cases hb : isAny (tk K.T j6) [⟨#[45, 62]⟩] with
  | false =>
   rw [if_neg (by rw [hb]; decide)] at hr; have HRR30 := zh (show Res.bad _ _ = r from (by exact Option.some.inj hr)); have HC32 := zh ((need_no HS13.out.pa HF8.out.1 ⟨#[45, 62]⟩ hb).mono fun e w' hh => (show OutB w p _ 70 e w' from ⟨hh.1, HS13.out.bad HB.out hh.2⟩)); clear hr; go_wp2_with fail
   refine HC32.out.mono ?_; rintro e wb ⟨rfl, hb⟩; have HB31 := zh hb; clear hb; unfold wrongP; go_wp2
   exact ⟨rfl, by rw [← HRR30.out]; exact ⟨rfl, HB31.out⟩⟩
  | true =>
   rw [if_pos hb] at hr; have HLT29 := zh (any_lt HTK.out HF8.out.1 hb); have HC35 := zh (need_yes HS13.out.pa HF8.out.1 ⟨#[45, 62]⟩ hb); clear hb; have HR := zh hr; clear hr; go_wp2_with fail
   clear x25 xl26 x27 xl28; refine HC35.out.mono ?_; rintro e w33 ⟨rfl, h1, h2⟩; have HS34 := zh (HS13.out.step h1 h2); have HX36 := zh (Away.blkTo HX21.out HA22.out h2); have HA37 := zh (HA22.out.to h2); have HX38 := zh (Away.blkTo HX23.out HA24.out h2); have HA39 := zh (HA24.out.to h2); have HV40 := zh (HV15.out.to h2); clear h1 h2; have x41 := zc 0 HX36.out rfl; have xl42 := blk_lt HX36.out; have x43 := zc 0 HX38.out rfl; have xl44 := blk_lt HX38.out; have hr := HR.out; clear HR; obtain ⟨X, hX⟩ : ∃ X, (parF K.T f).one (.kind) o (j6 + 1) = X := ⟨_, rfl⟩; rw [hX] at hr
   cases X with
   | none => exact absurd hr (by simp [Res.then])
   | some X =>
   cases X with
   | bad a n =>
    have HRR47 := zh (show Res.bad a n = r from (by dsimp only [Res.then] at hr; exact Option.some.inj hr)); have HC50 := zh (call_bad ((HAP.out f (Nat.le_refl f)).kind) HS34.out HB.out ⟨HLT29.out, by have := HRM.out; have := HI.out; have := HF8.out; have := HLT29.out; (try simp only [zS]); omega⟩ HO.out hX); clear hr hX; go_wp2_with fail
    refine HC50.out.mono ?_; rintro e wb ⟨rfl, hb⟩; have HB49 := zh hb; clear hb; unfold wrongP; go_wp2
    exact ⟨rfl, by rw [← HRR47.out]; exact ⟨rfl, HB49.out⟩⟩
   | ok t45 j46 =>
    have hft := (fit_all HTK.out f).one (.kind) o (j6 + 1) HLT29.out; rw [hX] at hft; obtain ⟨f1, f2, f3⟩ := hft; simp only [lazy1, sl1, ex1, zf] at f2 f3
    have HF48 := zh (And.intro f1 (And.intro f2 f3)); clear f1 f2 f3; have HC54 := zh (call_ok ((HAP.out f (Nat.le_refl f)).kind) HS34.out ⟨HLT29.out, by have := HRM.out; have := HI.out; have := HF8.out; have := HLT29.out; (try simp only [zS]); omega⟩ HO.out hX); dsimp only [Res.then] at hr
    clear hX; have HR := zh hr; clear hr; go_wp2_with fail
    clear x41 xl42 x43 xl44; refine HC54.out.mono ?_; rintro e w51 ⟨rfl, fp52, h1, h2⟩; obtain ⟨n55, hn⟩ : ∃ n, n = nr ns l5 t45 := ⟨_, rfl⟩; rw [← hn]; have HN56 := zh hn; have HS53 := zh (show St K w p j46 o sn ns fp (l5 ++ [t45]) w51 fp52 from h1); have HX57 := zh (Away.blkTo HX36.out HA37.out h2); have HA58 := zh (HA37.out.to h2); have HX59 := zh (Away.blkTo HX38.out HA39.out h2); have HA60 := zh (HA39.out.to h2); have HV61 := zh (HV40.out.to h2); clear h1 h2 hn; have x62 := zc 0 HX57.out rfl; have xl63 := blk_lt HX57.out; have x64 := zc 0 HX59.out rfl; have xl65 := blk_lt HX59.out; have hr := HR.out; clear HR; have HKB75 := zh (show k17 ≤ 900000 by have h9 := HK18.out; have h8 := ptsS_len l5; have h7 := (show ns.length + ptsS (l5 ++ [t45]) + 4 * (K.T.length - j46) ≤ 900000 from by have := HRM.out; have := HI.out; have := HF8.out; have := HLT29.out; have := HF48.out; (try simp only [zS]); omega); (try simp only [ptsS_append, List.length_append] at h7 h8 h9); omega)
    try unfold natV
    have HR := zh hr; clear hr; go_wp2_with (at_builtin; (refine wpList_push (n := n55) rfl _ _ rfl HS53.out HV61.out (by rw [roots_len]; exact HK18.out) HKB75.out (B := w.heap.size) znr HS53.out.pt.fr.size HGO16.out rfl rfl rfl ?_); intro g66 cap67 w68 h1 h2 h3 h4; clear x62 xl63 x64 xl65; have HS71 := zh h1; have HV69 := zh h2; have HGO70 := zh h3; have HX76 := zh (h4.blk HX57.out (.inl (by decide))); have HA77 := zh (HA58.out.on h4.size); have HX78 := zh (h4.blk HX59.out (.inr HOLD.out)); have HA79 := zh (HA60.out.on h4.size); have x80 := zc 0 HX76.out rfl; have xl81 := blk_lt HX76.out; have x82 := zc 0 HX78.out rfl; have xl83 := blk_lt HX78.out; clear h1 h2 h3 h4)
    obtain ⟨k73, hk2⟩ : ∃ k, k = k17 + 1 := ⟨_, rfl⟩; have HK74 := zh (show k73 = (l5 ++ [t45]).length by rw [hk2, HK18.out]; simp); have HV84 := zh (show Ints w68 p fp52 (.slice (some ⟨g66, 0, none⟩) k73 cap67) (roots ns.length (l5 ++ [t45])) by rw [roots_more, ← HN56.out, hk2]; exact HV69.out); rw [← hk2] at HGO70
    try rw [← hk2]
    clear hk2; have hr := HR.out; clear HR; have HRR86 := zh (show Res.ok _ _ = r from Option.some.inj hr); clear hr; have HL85 := zh (lay_row HS71.out (by have h7 := (show ns.length + ptsS (l5 ++ [t45]) + 4 * (K.T.length - j46) ≤ 900000 from by have := HRM.out; have := HI.out; have := HF8.out; have := HLT29.out; have := HF48.out; (try simp only [zS]); omega); omega) 34 ⟨#[]⟩ a HV84.out); go_wp2_with fail
    refine HL85.out.mono ?_; rintro e wz ⟨rfl, fpz, h1, h2⟩; have HZ87 := zh (show OutP K w p o sn ns fp (.ok (.mk 34 ⟨#[]⟩ a (l5 ++ [t45])) j46) (.returned _) wz from ⟨rfl, fpz, h1, h2⟩); clear h1 h2; go_wp2
    go_ret
    exact (by rw [← HRR86.out]; first | exact HZ87.out | (have h9 := HZ87.out; rw [List.append_assoc] at h9; exact h9))

theorem walk_block {f : Nat} (AP : ∀ g, g ≤ f → AllPart g)  : Callee (f + 1) .block 21 (fun p => #[.pointer (some ⟨p, 0, none⟩)]) := by
 intro K w p i o sn ns fp h hroom ho r hr
 change stepBlock K.T (parF K.T f) o i = some r at hr
 unfold stepBlock at hr
 have HB := zh (Beg.of h)
 have HTK := zh h.env.tok
 have HRM := zh hroom.2
 have HI := zh hroom.1
 have HO := zh ho
 have HS0 := zh (St.start h)
 have HLN := zh h.env.len
 have HAP := zh AP
 clear h hroom ho AP
 have HR := zh hr
 clear hr
 go_enter Tryz.func21, Tryz.ntmps21
 have hr := HR.out
 clear HR
 have HC3 := zh (at_any HS0.out.pa HI.out)
 have HR := zh hr
 clear hr
 go_wp2_with fail
 refine HC3.out.mono ?_
 rintro e w1 ⟨rfl, h2⟩
 have HS2 := zh (HS0.out.below h2)
 clear h2
 have hr := HR.out
 clear HR
 obtain ⟨X, hX⟩ : ∃ X, (parF K.T f).many (.stats false []) o i = X := ⟨_, rfl⟩
 rw [hX] at hr
 cases X with
 | none => exact absurd hr (by simp [Res.then])
 | some r1 =>
 have HX := zh hX
 have HRT := zh hr
 clear hX hr
 unfold natV
 go_wp2_with fail
 go_loopw [4, 5] (fun lv bv wr => ∃ (acc : List PT) (last : Bool) (i1 : Nat) (fp1 : List Nat) (f1 : Nat), bv = .bool last ∧ Hid (St K w p i1 o sn ns fp acc wr fp1) ∧ Hid (Ints wr p fp1 lv (roots ns.length acc)) ∧ Hid (∀ g', lv.ownBlock = some g' → w.heap.size ≤ g') ∧ Hid (f1 ≤ f ∧ (parF K.T f1).many (.stats last acc) o i1 = some r1) ∧ Hid (i1 < K.T.length ∧ ns.length + ptsS acc + 4 * (K.T.length - i1) ≤ 900000)) (fun lv _ _ => 900001 - sliceLen lv)
 case atStart => exact ⟨[], false, i, fp, f, rfl, HS2, zh (Ints.nil _ _ _), zh (fun g' hg' => by simp [Value.ownBlock] at hg'), zh ⟨znr, HX.out⟩, zh ⟨HI.out, by have := HRM.out; simp only [ptsS]; omega⟩⟩
 case round =>
  obtain ⟨acc, last, i1, fp1, f1, rfl, HS, HV, HG, HR0, HRL⟩ := hrel; obtain ⟨hle, hr⟩ := HR0.out; clear HR0
  cases f1 with
  | zero => exact absurd hr (by simp [parF])
  | succ f =>
  have HAP := zh (fun g (hg : g ≤ f) => HAP.out g (by omega)); have HLE := zh hle; clear hle
  change stepStats K.T (parF K.T f) last acc o i1 = some r1 at hr
  unfold stepStats at hr; obtain ⟨A1, c1, hlv, hlc1, hlc2, hfm⟩ := own_form HV.out.own; subst hlv; obtain ⟨rl, hrl⟩ : ∃ k, k = (roots ns.length acc).length := ⟨_, rfl⟩; have HKR := zh (show rl = acc.length by rw [hrl, roots_len]); have HVR := zh (show Ints _ p _ (.slice A1 rl c1) (roots ns.length acc) by rw [hrl]; exact HV.out); rw [← hrl]; clear hlc1 hlc2 hfm; have HGR := zh (show ∀ g', (Value.slice A1 rl c1).ownBlock = some g' → w.heap.size ≤ g' by rw [hrl]; exact HG.out); clear hrl
  cases last with
  | true =>
   rw [if_pos (by rfl)] at hr; have hlq : True := trivial; have h1 := Option.some.inj hr; subst h1; clear hr; have hr := HRT.out; dsimp only [Res.then] at hr
   clear HRT; have HRR5 := zh (show Res.ok _ _ = r from Option.some.inj hr); clear hr; have HL4 := zh (lay_row HS.out (by have h7 := (show ns.length + ptsS acc + 4 * (K.T.length - i1) ≤ 900000 from by have := HRM.out; have := HRL.out; (try simp only [zS]); omega); omega) 3 ⟨#[]⟩ (tk K.T i).a HVR.out); go_wp2_with fail
   refine HL4.out.mono ?_; rintro e wz ⟨rfl, fpz, h1, h2⟩; have HZ6 := zh (show OutP K w p o sn ns fp (.ok (.mk 3 ⟨#[]⟩ (tk K.T i).a acc) i1) (.returned _) wz from ⟨rfl, fpz, h1, h2⟩); clear h1 h2; go_wp2
   go_ret
   exact (by rw [← HRR5.out]; first | exact HZ6.out | (have h9 := HZ6.out; rw [List.append_assoc] at h9; exact h9))
  | false =>
   have HC9 := zh (over_any HS.out.pa HRL.out.1); have HR := zh hr; clear hr; go_wp2_with fail
   refine HC9.out.mono ?_; rintro e w7 ⟨rfl, h2⟩; have HS8 := zh (HS.out.below h2); have HV10 := zh (HVR.out.to (PaTo.of_below HS.out.pa h2)); clear h2; have hr := HR.out; clear HR
   cases hov : overL K.T i1 with
   | true =>
    rw [hov, Bool.or_true, if_pos rfl] at hr; have h1 := Option.some.inj hr; subst h1; clear hr; have hr := HRT.out; dsimp only [Res.then] at hr
    clear HRT; have HRR12 := zh (show Res.ok _ _ = r from Option.some.inj hr); clear hr; have HL11 := zh (lay_row HS8.out (by have h7 := (show ns.length + ptsS acc + 4 * (K.T.length - i1) ≤ 900000 from by have := HRM.out; have := HRL.out; (try simp only [zS]); omega); omega) 3 ⟨#[]⟩ (tk K.T i).a HV10.out); go_wp2_with fail
    refine HL11.out.mono ?_; rintro e wz ⟨rfl, fpz, h1, h2⟩; have HZ13 := zh (show OutP K w p o sn ns fp (.ok (.mk 3 ⟨#[]⟩ (tk K.T i).a acc) i1) (.returned _) wz from ⟨rfl, fpz, h1, h2⟩); clear h1 h2; go_wp2
    go_ret
    exact (by rw [← HRR12.out]; first | exact HZ13.out | (have h9 := HZ13.out; rw [List.append_assoc] at h9; exact h9))
   | false =>
    rw [hov, Bool.or_false, if_neg (by decide)] at hr; have HC14 := zh (fun W (hW : W = w7.alloc (.cells #[.string ⟨#[114, 101, 116, 117, 114, 110]⟩, .string ⟨#[98, 114, 101, 97, 107]⟩] 9)) => (show Calls Tryz.prog 19 #[.pointer (some ⟨p, 0, none⟩), .slice (some ⟨w7.heap.size, 0, none⟩) 2 2] W (RetB (.bool (isAny (tk K.T i1) [⟨#[114, 101, 116, 117, 114, 110]⟩, ⟨#[98, 114, 101, 97, 107]⟩])) W) from
     is_any (K := K) (i := i1) (o := o) (sn := sn) (ns := ns ++ flats ns.length acc) (fp := fp1) (c := 2) (L := [⟨#[114, 101, 116, 117, 114, 110]⟩, ⟨#[98, 114, 101, 97, 107]⟩]) (hW ▸ HS8.out.pa.below (zbr.alloc znr _)) HRL.out.1 (by rw [hW]; exact .inr ⟨⟨w7.heap.size, 0, none⟩, rfl, by simp, fun j u hu => news_new w7 #[.string ⟨#[114, 101, 116, 117, 114, 110]⟩, .string ⟨#[98, 114, 101, 97, 107]⟩] _ _ rfl j u hu⟩) (by simp)))
    have HR := zh hr; clear hr; go_wp2_with fail
    refine (HC14.out _ rfl).mono ?_; rintro e w15 ⟨rfl, h2⟩; have HK17 := zh (show Below w7.heap.size w7 w15 from (zbr.alloc znr _).trans (h2.mono (by simp))); have HS16 := zh (HS8.out.below HK17.out); have HV18 := zh (HV10.out.to (PaTo.of_below HS8.out.pa HK17.out)); clear h2; have hr := HR.out; clear HR; obtain ⟨X, hX⟩ : ∃ X, (parF K.T f).one (.stat) o i1 = X := ⟨_, rfl⟩; rw [hX] at hr
    cases X with
    | none => exact absurd hr (by simp [Res.then])
    | some X =>
    cases X with
    | bad a n =>
     have HRR21 := zh (show Res.bad a n = r from (by dsimp only [Res.then] at hr; have h1 := Option.some.inj hr; have h2 := HRT.out; rw [← h1] at h2; dsimp only [Res.then] at h2; exact Option.some.inj h2)); have HC24 := zh (call_bad ((HAP.out f (Nat.le_refl f)).stat) HS16.out HB.out ⟨HRL.out.1, by have := HRM.out; have := HRL.out; (try simp only [zS]); omega⟩ HO.out hX); clear hr hX; go_wp2_with fail
     refine HC24.out.mono ?_; rintro e wb ⟨rfl, hb⟩; have HB23 := zh hb; clear hb; unfold wrongP; go_wp2
     exact ⟨rfl, by rw [← HRR21.out]; exact ⟨rfl, HB23.out⟩⟩
    | ok t19 j20 =>
     have hft := (fit_all HTK.out f).one (.stat) o i1 HRL.out.1; rw [hX] at hft; obtain ⟨f1, f2, f3⟩ := hft; simp only [lazy1, sl1, ex1, zf] at f2 f3
     have HF22 := zh (And.intro f1 (And.intro f2 f3)); clear f1 f2 f3; have HC28 := zh (call_ok ((HAP.out f (Nat.le_refl f)).stat) HS16.out ⟨HRL.out.1, by have := HRM.out; have := HRL.out; (try simp only [zS]); omega⟩ HO.out hX); dsimp only [Res.then] at hr
     clear hX; have HR := zh hr; clear hr; go_wp2_with fail
     refine HC28.out.mono ?_; rintro e w25 ⟨rfl, fp26, h1, h2⟩; obtain ⟨n29, hn⟩ : ∃ n, n = nr ns acc t19 := ⟨_, rfl⟩; rw [← hn]; have HN30 := zh hn; have HS27 := zh (show St K w p j20 o sn ns fp (acc ++ [t19]) w25 fp26 from h1); have HV31 := zh (HV18.out.to h2); clear h1 h2 hn; have hr := HR.out; clear HR; have HKB41 := zh (show rl ≤ 900000 by have h9 := HKR.out; have h8 := ptsS_len acc; have h7 := (show ns.length + ptsS (acc ++ [t19]) + 4 * (K.T.length - j20) ≤ 900000 from by have := HRM.out; have := HRL.out; have := HF22.out; (try simp only [zS]); omega); (try simp only [ptsS_append, List.length_append] at h7 h8 h9); omega)
     try unfold natV
     have HR := zh hr; clear hr; go_wp2_with (at_builtin; (refine wpList_push (n := n29) rfl _ _ rfl HS27.out HV31.out (by rw [roots_len]; exact HKR.out) HKB41.out (B := w.heap.size) znr HS27.out.pt.fr.size HGR.out rfl rfl rfl ?_); intro g32 cap33 w34 h1 h2 h3 h4; skip; have HS37 := zh h1; have HV35 := zh h2; have HGO36 := zh h3; clear h1 h2 h3 h4)
     obtain ⟨k39, hk2⟩ : ∃ k, k = rl + 1 := ⟨_, rfl⟩; have HK40 := zh (show k39 = (acc ++ [t19]).length by rw [hk2, HKR.out]; simp); have HV42 := zh (show Ints w34 p fp26 (.slice (some ⟨g32, 0, none⟩) k39 cap33) (roots ns.length (acc ++ [t19])) by rw [roots_more, ← HN30.out, hk2]; exact HV35.out); rw [← hk2] at HGO36
     try rw [← hk2]
     clear hk2; have hr := HR.out; clear HR; have HRF := zh hr; clear hr; go_roundw
     case rel => exact ⟨_, _, j20, fp26, f, rfl, HS37, HV42, HGO36, zh ⟨by have := HLE.out; omega, HRF.out⟩, zh ⟨HF22.out.1, by have := HRM.out; have := HRL.out; have := HF22.out; (try simp only [zS]); omega⟩⟩
     case measure => have h5 := HK40.out; rw [List.length_append, List.length_singleton] at h5; have := HKR.out; have h8 := ptsS_len acc; have := HRL.out; simp [sliceLen]; omega

def ChS (K : PaK) (p b : Nat) (t : Tok) (w w' : World) : Prop := w'.cell? ⟨p, 4, none⟩ = some (.map (some K.rb)) ∧ w'.heap[b]? = some (.cells (tokA0 t) 65 (0, 0)) ∧ w'.heap[K.rb]? = w.heap[K.rb]?
theorem look_rank {K : PaK} {w : World} {p : Nat} (h : PaEnv K w p) (s : ByteArray) (hs : s.size ≤ maxLen) :
  ∀ W : World, W.heap[K.rb]? = w.heap[K.rb]? → (Instr.lookup 42 (.map (some K.rb)) (.string s) false).run Tryz.prog W = .ok (.int .i64 (rankL s : Int)) W := fun W hW => by
 have h' : W.ownsMap Tryz.prog 9 (plainElem Tryz.prog 3) K.rb K.rn K.D := by
  obtain ⟨es, clock, hb, r⟩ := h.rk; exact ⟨es, clock, hW.trans hb, r⟩
 obtain ⟨c, hrun, hat, _⟩ := h'.lookup_int lawS Tryz.underlying42 Tryz.underlying3 (Tryz.zeroValue3 W) (name_key hs)
 have := hat.symm.trans (h.rks s)
 rw [hrun]
 simp only [DataW.lit.injEq, Lit.int.injEq, true_and] at this
 rw [this]
theorem walk_chain {f : Nat} (AP : ∀ g, g ≤ f → AllPart g) (rk : Nat) (hr7 : rk ≤ 7) : Callee (f + 1) (.chain rk) 99 (fun p => #[.pointer (some ⟨p, 0, none⟩), natV rk]) := by
 intro K w p i o sn ns fp h hroom ho r hr
 change stepChain (parF K.T f) rk o i = some r at hr
 unfold stepChain at hr
 have HB := zh (Beg.of h)
 have HTK := zh h.env.tok
 have HRM := zh hroom.2
 have HI := zh hroom.1
 have HO := zh ho
 have HS0 := zh (St.start h)
 have HLN := zh h.env.len
 have HAP := zh AP
 clear h hroom ho AP
 have HR7 := zh hr7
 have HR := zh hr
 clear hr
 go_enter Tryz.func99, Tryz.ntmps99
 have hr := HR.out
 clear HR
 by_cases h6 : 6 < rk
 ·unfold natV
  have hq6 : (6 : Int) < (rk : Int) := by omega
  rw [if_pos h6] at hr; clear h6; obtain ⟨X, hX⟩ : ∃ X, (parF K.T f).one (.unary) o i = X := ⟨_, rfl⟩; rw [hX] at hr
  cases X with
  | none => exact absurd hr (by simp [Res.then])
  | some X =>
  cases X with
  | bad a n =>
   have HRR3 := zh (show Res.bad a n = r from (by exact Option.some.inj hr)); have HC6 := zh (call_bad ((HAP.out f (Nat.le_refl f)).unary) HS0.out HB.out ⟨HI.out, by have := HRM.out; have := HI.out; (try simp only [zS]); omega⟩ HO.out hX); clear hr hX; go_wp2_with fail
   refine HC6.out.mono ?_; rintro e wb ⟨rfl, hb⟩; have HB5 := zh hb; clear hb; unfold wrongP; go_wp2
   exact ⟨rfl, by rw [← HRR3.out]; exact ⟨rfl, HB5.out⟩⟩
  | ok t1 j2 =>
   have hft := (fit_all HTK.out f).one (.unary) o i HI.out; rw [hX] at hft; obtain ⟨f1, f2, f3⟩ := hft; simp only [lazy1, sl1, ex1, zf] at f2 f3
   have HF4 := zh (And.intro f1 (And.intro f2 f3)); clear f1 f2 f3; have HC10 := zh (call_ok ((HAP.out f (Nat.le_refl f)).unary) HS0.out ⟨HI.out, by have := HRM.out; have := HI.out; (try simp only [zS]); omega⟩ HO.out hX); clear hX; have HR := zh hr; clear hr; go_wp2_with fail
   refine HC10.out.mono ?_; rintro e w7 ⟨rfl, fp8, h1, h2⟩; obtain ⟨n11, hn⟩ : ∃ n, n = nr ns [] t1 := ⟨_, rfl⟩; rw [← hn]; have HN12 := zh hn; have HS9 := zh (show St K w p j2 o sn ns fp [t1] w7 fp8 from h1); clear h1 h2 hn; have hr := HR.out; clear HR; have HRR13 := zh (show Res.ok _ _ = r from Option.some.inj hr); clear hr; go_wp2
   go_ret
   exact (by rw [← HRR13.out, HN12.out]; exact HS9.out.out)
 ·have hq6 : ¬ (6 : Int) < (rk : Int) := by omega
  rw [if_neg h6] at hr; obtain ⟨rk1, hrk1⟩ : ∃ k, k = rk + 1 := ⟨_, rfl⟩; rw [← hrk1] at hr; have hradd : (rk : Int) + 1 = (rk1 : Int) := by omega
  have hrw : IntKind.i64.wrap (rk1 : Int) = (rk1 : Int) := IntWalk.i64_in _ (by omega); have hrb : rk1 ≤ 7 := by omega
  have HRK1 := zh (And.intro hrk1 hrb); clear h6 hrk1; unfold natV; obtain ⟨X, hX⟩ : ∃ X, (parF K.T f).one (.chain rk1) o i = X := ⟨_, rfl⟩; rw [hX] at hr
  cases X with
  | none => exact absurd hr (by simp [Res.then])
  | some X =>
  cases X with
  | bad a n =>
   have HRR16 := zh (show Res.bad a n = r from (by dsimp only [Res.then] at hr; exact Option.some.inj hr)); have HC19 := zh (call_bad ((HAP.out f (Nat.le_refl f)).chain rk1 HRK1.out.2) HS0.out HB.out ⟨HI.out, by have := HRM.out; have := HI.out; (try simp only [zS]); omega⟩ HO.out hX); clear hr hX; go_wp2_with fail
   refine HC19.out.mono ?_; rintro e wb ⟨rfl, hb⟩; have HB18 := zh hb; clear hb; unfold wrongP; go_wp2
   exact ⟨rfl, by rw [← HRR16.out]; exact ⟨rfl, HB18.out⟩⟩
  | ok t14 j15 =>
   have hft := (fit_all HTK.out f).one (.chain rk1) o i HI.out; rw [hX] at hft; obtain ⟨f1, f2, f3⟩ := hft; simp only [lazy1, sl1, ex1, zf] at f2 f3
   have HF17 := zh (And.intro f1 (And.intro f2 f3)); clear f1 f2 f3; have HC23 := zh (call_ok ((HAP.out f (Nat.le_refl f)).chain rk1 HRK1.out.2) HS0.out ⟨HI.out, by have := HRM.out; have := HI.out; (try simp only [zS]); omega⟩ HO.out hX); dsimp only [Res.then] at hr
   clear hX; have HR := zh hr; clear hr; go_wp2_with fail
   refine HC23.out.mono ?_; rintro e w20 ⟨rfl, fp21, h1, h2⟩; obtain ⟨n24, hn⟩ : ∃ n, n = nr ns [] t14 := ⟨_, rfl⟩; rw [← hn]; have HN25 := zh hn; have HS22 := zh (show St K w p j15 o sn ns fp [t14] w20 fp21 from h1); clear h1 h2 hn; have hr := HR.out; clear HR; have HR9 := zh hr; clear hr
   try unfold natV
   go_wp2_with fail
   go_loopw [5] (fun xv wr => ∃ (x : PT) (nx : Nat) (i1 : Nat) (fp1 : List Nat) (f1 : Nat), xv = .int .i64 (nx : Int) ∧ Hid (nx = nr ns [] x) ∧ Hid (St K w p i1 o sn ns fp [x] wr fp1) ∧ Hid (f1 ≤ f ∧ (parF K.T f1).one (.chainL rk x) o i1 = some r) ∧ Hid (i1 < K.T.length ∧ ns.length + ptsS [x] + 4 * (K.T.length - i1) ≤ 900000)) (fun xv _ => 900001 - (intOf xv).toNat)
   case atStart => exact ⟨t14, n24, j15, fp21, f, rfl, HN25, HS22, zh ⟨znr, HR9.out⟩, zh ⟨HF17.out.1, by have := HRM.out; have := HI.out; have := HF17.out; (try simp only [zS]); omega⟩⟩
   case round =>
    obtain ⟨x, nx, i1, fp1, f1, rfl, HNX, HS, HR0, HRL⟩ := hrel; obtain ⟨hle, hr⟩ := HR0.out; clear HR0
    cases f1 with
    | zero => exact absurd hr (by simp [parF])
    | succ f =>
    have HAP := zh (fun g (hg : g ≤ f) => HAP.out g (by omega)); have HLE := zh hle; clear hle
    change stepChainL K.T (parF K.T f) rk x o i1 = some r at hr
    unfold stepChainL at hr; dsimp only at hr
    have HRLs := zh (show ns.length + ptS x + 4 * (K.T.length - i1) ≤ 900000 by have h9 := HRL.out.2; rw [ptsS_one] at h9; exact h9); have HC28 := zh (now_any HS.out.pa HRL.out.1); have HR := zh hr; clear hr; go_wp2_with fail
    refine HC28.out.mono ?_; rintro e w26 ⟨rfl, h2⟩; have HS27 := zh (HS.out.below h2); clear h2; have hr := HR.out; clear HR; unfold tkEnc; have HR := zh hr; clear hr
    go_upto_region 5 with fail
    obtain ⟨b29, hb⟩ : ∃ b, b = w26.heap.size := ⟨_, rfl⟩; rw [← hb]; refine gen_wpT fun w30 hW => ?_; have HX31 := zh (show w30.heap[b29]? = some (.cells #[.int .i64 (tk K.T i1).kind, .string (tk K.T i1).text, .int .i64 ((tk K.T i1).a : Int), .int .i64 ((tk K.T i1).z : Int), .int .i64 (tk K.T i1).n] 65 (0, 0)) by rw [← hW]; exact heap_new_at _ _ _ hb.symm); have HBL34 := zh (show Below w26.heap.size w26 w30 by rw [← hW]; exact zbr.alloc znr _); have HS33 := zh (HS27.out.below HBL34.out); have HA32 := zh (Away.new HS27.out.pa (Nat.le_of_eq hb.symm) (blk_lt HX31.out)); have HBE35 := zh (show w.heap.size ≤ b29 from by have := HS27.out.pt.fr.size; omega); clear hW hb; have x36 := zc 0 HX31.out rfl; have x37 := zc 1 HX31.out rfl; have x38 := zc 2 HX31.out rfl; have x39 := zc 3 HX31.out rfl; have x40 := zc 4 HX31.out rfl; have xl41 := blk_lt HX31.out; have hr := HR.out; clear HR; have HCS := zh (show ChS K p b29 (tk K.T i1) w30 w30 from by
     obtain ⟨nv, l, hm⟩ := HS33.out.pa.mem; exact ⟨(pa_cell hm.blk).2.2.2.2.1, HX31.out, rfl⟩)
    have HLK := zh (look_rank HS33.out.pa.env (tk K.T i1).text (by have := HS33.out.pa.env.txt i1; unfold maxLen; omega)); by_cases hrk : rankL (tk K.T i1).text = rk
    ·by_cases h5 : (tk K.T i1).kind = 5
     ·have hcond : ((tk K.T i1).kind = 5 ∨ (tk K.T i1).kind = 2) ∧ rankL (tk K.T i1).text = rk := ⟨.inl h5, hrk⟩
      have HK5 := zh h5; have HKQ := zh (show (rankL (tk K.T i1).text : Int) = (rk : Int) by omega); clear h5 hrk; rw [if_pos hcond] at hr; have HRX := zh hr; clear hr; have HLTK := zh (tk_lt HTK.out HRL.out.1 (by rcases hcond.1 with e9 | e9 <;> rw [e9] <;> decide)); clear hcond; have HX42 := zh (show w30.drew.heap[b29]? = _ from HX31.out); have HA43 := zh HA32.out.drew; have HS44 := zh HS33.out.drew; go_wp2_with fail
      clear x36 x37 x38 x39 x40 xl41; refine wp_region_held_drew (S := ChS K p b29 (tk K.T i1) w30) (by kernel_rfl) (HCS.out) (fun hHeld => ?_); refine ztk 0 18 (.pointer (some ⟨b29, 0, none⟩)) hHeld ?_; simp only [zq]; refine ztk 1 19 (.int .i64 (tk K.T i1).kind) hHeld ?_ (hy := Or.inl ⟨by rfl, fun w' hS => (by have z0 := zc 0 hS.2.1 rfl; go_simp)⟩); simp only [zq]; refine ztk 2 20 (.bool false) hHeld ?_ (hy := Or.inl ⟨by rfl, fun w' hS => (by have q5 := HK5.out; go_simp)⟩); simp only [zq]; refine ztk 3 21 (.bool false) hHeld ?_; simp only [zq]; refine ztu 4 22 hHeld ?_; simp only [zq]; refine ztu 5 23 hHeld ?_; simp only [zq]; refine ztu 6 24 hHeld ?_; simp only [zq]; refine ztk 7 25 (.bool false) hHeld ?_; simp only [zq]; refine ztk 8 26 (.bool false) hHeld ?_; simp only [zq]; refine ztk 9 27 (.pointer (some ⟨p, 0, none⟩)) hHeld ?_; simp only [zq]; refine ztk 10 28 (.pointer (some ⟨p, 0, none⟩)) hHeld ?_; simp only [zq]; refine ztk 11 29 (.pointer (some ⟨p, 4, none⟩)) hHeld ?_; simp only [zq]; refine ztk 12 30 (.map (some K.rb)) hHeld ?_ (hy := Or.inl ⟨by rfl, fun w' hS => (by have z4 := hS.1; go_simp)⟩); simp only [zq]; refine ztk 13 31 (.pointer (some ⟨b29, 1, none⟩)) hHeld ?_; simp only [zq]; refine ztk 14 32 (.string (tk K.T i1).text) hHeld ?_ (hy := Or.inl ⟨by rfl, fun w' hS => (by have z1 := zc 1 hS.2.1 rfl; go_simp)⟩); simp only [zq]; refine ztk 15 33 (.int .i64 (rankL (tk K.T i1).text : Int)) hHeld ?_ (hy := Or.inl ⟨by rfl, fun w' hS => (by have hl := HLK.out w' hS.2.2; go_simp)⟩); simp only [zq]; refine ztk 16 34 (.int .i64 (rk : Int)) hHeld ?_; simp only [zq]; refine ztk 17 35 (.bool false) hHeld ?_ (hy := Or.inl ⟨by rfl, fun w' hS => (by have qr := HKQ.out; go_simp)⟩); simp only [zq]; refine ztk 18 36 (.bool false) hHeld ?_; simp only [zq]; refine wpAnyH_done (by kernel_rfl) ?_ _; have hr := HRX.out; clear HRX; have x45 := zc 0 HX42.out rfl; have x46 := zc 1 HX42.out rfl; have x47 := zc 2 HX42.out rfl; have x48 := zc 3 HX42.out rfl; have x49 := zc 4 HX42.out rfl; have xl50 := blk_lt HX42.out; obtain ⟨nv, l, hm⟩ := HS44.out.pa.mem; obtain ⟨-, y55, -, -, -, cf⟩ := pa_cell hm.blk; have y56 := cf 1; have y57 := blk_lt hm.blk; clear hm cf; obtain ⟨i52, hi1⟩ : ∃ ix, ix = i1 + 1 := ⟨_, rfl⟩; have y58 : (i1 : Int) + 1 = (i52 : Int) := by omega
      have y59 : i52 ≤ 200002 := by have := HLTK.out; have := HLN.out; omega
      have y60 : IntKind.i64.wrap (i52 : Int) = (i52 : Int) := IntWalk.i64_in _ (by omega)
      try rw [← hi1] at hr
      have HIE53 := zh hi1; have HLT54 := zh (show i52 < K.T.length by rw [hi1]; exact HLTK.out); clear hi1 nv l; have hst := HS44.out.pa.setI i52; have hto : PaTo w30.drew fp1 (w30.drew.setCell ⟨p, 1, none⟩ (.int .i64 (i52 : Int))) fp1 := hst.2; have HS51 := zh (show St K w p i52 o sn ns fp [x] (w30.drew.setCell ⟨p, 1, none⟩ (.int .i64 (i52 : Int))) fp1 from HS44.out.step hst.1 hto); have HX61 := zh (Away.blkTo HX42.out HA43.out hto); have HA62 := zh (HA43.out.to hto); clear hst hto; have x63 := zc 0 HX61.out rfl; have x64 := zc 1 HX61.out rfl; have x65 := zc 2 HX61.out rfl; have x66 := zc 3 HX61.out rfl; have x67 := zc 4 HX61.out rfl; have xl68 := blk_lt HX61.out; rw [← HRK1.out.1] at hr; have hradd : (rk : Int) + 1 = (rk1 : Int) := by have := HRK1.out; omega
      have hrw : IntKind.i64.wrap (rk1 : Int) = (rk1 : Int) := IntWalk.i64_in _ (by have := HRK1.out; omega); have hrb : rk1 ≤ 7 := HRK1.out.2; obtain ⟨X, hX⟩ : ∃ X, (parF K.T f).one (.chain rk1) o i52 = X := ⟨_, rfl⟩; rw [hX] at hr
      cases X with
      | none => exact absurd hr (by simp [Res.then])
      | some X =>
      cases X with
      | bad a n =>
       have HRR71 := zh (show Res.bad a n = r from (by dsimp only [Res.then] at hr; exact Option.some.inj hr)); have HC74 := zh (call_bad ((HAP.out f (Nat.le_refl f)).chain rk1 HRK1.out.2) HS51.out HB.out ⟨HLT54.out, by have := HRM.out; have := HRLs.out; have := HLTK.out; have := HIE53.out; have := HLT54.out; (try simp only [zS]); omega⟩ HO.out hX); clear hr hX; go_wp2_with fail
       refine HC74.out.mono ?_; rintro e wb ⟨rfl, hb⟩; have HB73 := zh hb; clear hb; unfold wrongP; go_wp2
       exact ⟨rfl, by rw [← HRR71.out]; exact ⟨rfl, HB73.out⟩⟩
      | ok t69 j70 =>
       have hft := (fit_all HTK.out f).one (.chain rk1) o i52 HLT54.out; rw [hX] at hft; obtain ⟨f1, f2, f3⟩ := hft; simp only [lazy1, sl1, ex1, zf] at f2 f3
       have HF72 := zh (And.intro f1 (And.intro f2 f3)); clear f1 f2 f3; have HC78 := zh (call_ok ((HAP.out f (Nat.le_refl f)).chain rk1 HRK1.out.2) HS51.out ⟨HLT54.out, by have := HRM.out; have := HRLs.out; have := HLTK.out; have := HIE53.out; have := HLT54.out; (try simp only [zS]); omega⟩ HO.out hX); dsimp only [Res.then] at hr
       clear hX; have HR := zh hr; clear hr; go_wp2_with fail
       clear x63 x64 x65 x66 x67 xl68 y55 y56 y57 y58 y59 y60 x45 x46 x47 x48 x49 xl50; refine HC78.out.mono ?_; rintro e w75 ⟨rfl, fp76, h1, h2⟩; obtain ⟨n79, hn⟩ : ∃ n, n = nr ns [x] t69 := ⟨_, rfl⟩; rw [← hn]; have HN80 := zh hn; have HS77 := zh (show St K w p j70 o sn ns fp [x, t69] w75 fp76 from h1); have HX81 := zh (Away.blkTo HX61.out HA62.out h2); have HA82 := zh (HA62.out.to h2); clear h1 h2 hn; have x83 := zc 0 HX81.out rfl; have x84 := zc 1 HX81.out rfl; have x85 := zc 2 HX81.out rfl; have x86 := zc 3 HX81.out rfl; have x87 := zc 4 HX81.out rfl; have xl88 := blk_lt HX81.out; have hr := HR.out; clear HR
       cases hand : ((tk K.T i1).text.toList == [97, 110, 100]) with
       | true =>
        rw [show opT (tk K.T i1) x t69 = .mk 29 ⟨#[]⟩ (tk K.T i1).a [x, t69] from if_pos (eqB hand)] at hr; have HC92 := zh (show ∀ W, W = w75.alloc (.cells #[natV nx, natV n79] 3) → Calls Tryz.prog 23 #[.pointer (some ⟨p, 0, none⟩), .int .i64 29, .string ⟨#[]⟩, natV (tk K.T i1).a, .slice (some ⟨w75.heap.size, 0, none⟩) 2 2] W (OneOk K w p o sn ns fp [] W fp76 (.mk 29 ⟨#[]⟩ (tk K.T i1).a [x, t69]) j70) from fun W hW => by
         subst hW; exact lay_mid (L1 := []) (L2 := [x, t69]) (HS77.out.below (zbr.alloc znr _)) (by have := HRM.out; have := HRLs.out; have := HLTK.out; have := HIE53.out; have := HLT54.out; have := HF72.out; simp only [ptsS, ptS, noneT, List.nil_append, List.cons_append, Nat.add_zero, Nat.zero_add]; omega) (by simp) 29 ⟨#[]⟩ (tk K.T i1).a (KidsV.new w75 nx [n79] _ rfl) (by simp only [HNX.out, HN80.out, nr, roots, ptsS, Nat.add_zero, Nat.add_assoc]))
        have HR := zh hr; clear hr
        try unfold natV
        go_wp2_with fail
        clear x83 x84 x85 x86 x87 xl88; refine (HC92.out _ rfl).mono ?_; rintro e w89 ⟨rfl, fp90, h1, h2⟩; obtain ⟨n93, hn⟩ : ∃ n, n = nr ns [] (.mk 29 ⟨#[]⟩ (tk K.T i1).a [x, t69]) := ⟨_, rfl⟩; rw [← hn]; have HN94 := zh hn; have HS91 := zh (show St K w p j70 o sn ns fp [(.mk 29 ⟨#[]⟩ (tk K.T i1).a [x, t69])] w89 fp90 from h1); have hbl : PaTo w75 fp76 w89 fp90 := (PaTo.of_below HS77.out.pa (zbr.alloc znr _)).trans h2; have HX95 := zh (Away.blkTo HX81.out HA82.out hbl); have HA96 := zh (HA82.out.to hbl); clear h1 h2 hn hbl; have x97 := zc 0 HX95.out rfl; have x98 := zc 1 HX95.out rfl; have x99 := zc 2 HX95.out rfl; have x100 := zc 3 HX95.out rfl; have x101 := zc 4 HX95.out rfl; have xl102 := blk_lt HX95.out; have hr := HR.out; clear HR; have HRF := zh hr; clear hr
        try unfold natV
        go_wp2_with fail
        clear x97 x98 x99 x100 x101 xl102; go_roundw
        case rel => exact ⟨_, n93, j70, fp90, f, rfl, HN94, HS91, zh ⟨by have := HLE.out; omega, HRF.out⟩, zh ⟨HF72.out.1, by have := HRM.out; have := HRLs.out; have := HLTK.out; have := HIE53.out; have := HLT54.out; have := HF72.out; (try simp only [zS]); omega⟩⟩
        case measure => have h5 := HN94.out; have h6 := HNX.out; have h7 := ptS_pos x; have h8 := ptS_pos t69; unfold nr at h5 h6; simp only [ptsS, ptS, Nat.add_zero, Nat.zero_add] at h5 h6; have := HRLs.out; have := HLTK.out; have := HIE53.out; have := HLT54.out; have := HF72.out; simp [intOf]; omega
       | false =>
       cases hor : ((tk K.T i1).text.toList == [111, 114]) with
       | true =>
        rw [show opT (tk K.T i1) x t69 = .mk 30 ⟨#[]⟩ (tk K.T i1).a [x, t69] from (if_neg (neB hand)).trans (if_pos (eqB hor))] at hr; have HC106 := zh (show ∀ W, W = w75.alloc (.cells #[natV nx, natV n79] 3) → Calls Tryz.prog 23 #[.pointer (some ⟨p, 0, none⟩), .int .i64 30, .string ⟨#[]⟩, natV (tk K.T i1).a, .slice (some ⟨w75.heap.size, 0, none⟩) 2 2] W (OneOk K w p o sn ns fp [] W fp76 (.mk 30 ⟨#[]⟩ (tk K.T i1).a [x, t69]) j70) from fun W hW => by
         subst hW; exact lay_mid (L1 := []) (L2 := [x, t69]) (HS77.out.below (zbr.alloc znr _)) (by have := HRM.out; have := HRLs.out; have := HLTK.out; have := HIE53.out; have := HLT54.out; have := HF72.out; simp only [ptsS, ptS, noneT, List.nil_append, List.cons_append, Nat.add_zero, Nat.zero_add]; omega) (by simp) 30 ⟨#[]⟩ (tk K.T i1).a (KidsV.new w75 nx [n79] _ rfl) (by simp only [HNX.out, HN80.out, nr, roots, ptsS, Nat.add_zero, Nat.add_assoc]))
        have HR := zh hr; clear hr
        try unfold natV
        go_wp2_with fail
        clear x83 x84 x85 x86 x87 xl88; refine (HC106.out _ rfl).mono ?_; rintro e w103 ⟨rfl, fp104, h1, h2⟩; obtain ⟨n107, hn⟩ : ∃ n, n = nr ns [] (.mk 30 ⟨#[]⟩ (tk K.T i1).a [x, t69]) := ⟨_, rfl⟩; rw [← hn]; have HN108 := zh hn; have HS105 := zh (show St K w p j70 o sn ns fp [(.mk 30 ⟨#[]⟩ (tk K.T i1).a [x, t69])] w103 fp104 from h1); have hbl : PaTo w75 fp76 w103 fp104 := (PaTo.of_below HS77.out.pa (zbr.alloc znr _)).trans h2; have HX109 := zh (Away.blkTo HX81.out HA82.out hbl); have HA110 := zh (HA82.out.to hbl); clear h1 h2 hn hbl; have x111 := zc 0 HX109.out rfl; have x112 := zc 1 HX109.out rfl; have x113 := zc 2 HX109.out rfl; have x114 := zc 3 HX109.out rfl; have x115 := zc 4 HX109.out rfl; have xl116 := blk_lt HX109.out; have hr := HR.out; clear HR; have HRF := zh hr; clear hr
        try unfold natV
        go_wp2_with fail
        clear x111 x112 x113 x114 x115 xl116; go_roundw
        case rel => exact ⟨_, n107, j70, fp104, f, rfl, HN108, HS105, zh ⟨by have := HLE.out; omega, HRF.out⟩, zh ⟨HF72.out.1, by have := HRM.out; have := HRLs.out; have := HLTK.out; have := HIE53.out; have := HLT54.out; have := HF72.out; (try simp only [zS]); omega⟩⟩
        case measure => have h5 := HN108.out; have h6 := HNX.out; have h7 := ptS_pos x; have h8 := ptS_pos t69; unfold nr at h5 h6; simp only [ptsS, ptS, Nat.add_zero, Nat.zero_add] at h5 h6; have := HRLs.out; have := HLTK.out; have := HIE53.out; have := HLT54.out; have := HF72.out; simp [intOf]; omega
       | false =>
        rw [show opT (tk K.T i1) x t69 = .mk 27 (tk K.T i1).text (tk K.T i1).a [x, t69] from (if_neg (neB hand)).trans (if_neg (neB hor))] at hr; have HC120 := zh (show ∀ W, W = w75.alloc (.cells #[natV nx, natV n79] 3) → Calls Tryz.prog 23 #[.pointer (some ⟨p, 0, none⟩), .int .i64 27, .string (tk K.T i1).text, natV (tk K.T i1).a, .slice (some ⟨w75.heap.size, 0, none⟩) 2 2] W (OneOk K w p o sn ns fp [] W fp76 (.mk 27 (tk K.T i1).text (tk K.T i1).a [x, t69]) j70) from fun W hW => by
         subst hW; exact lay_mid (L1 := []) (L2 := [x, t69]) (HS77.out.below (zbr.alloc znr _)) (by have := HRM.out; have := HRLs.out; have := HLTK.out; have := HIE53.out; have := HLT54.out; have := HF72.out; simp only [ptsS, ptS, noneT, List.nil_append, List.cons_append, Nat.add_zero, Nat.zero_add]; omega) (by simp) 27 (tk K.T i1).text (tk K.T i1).a (KidsV.new w75 nx [n79] _ rfl) (by simp only [HNX.out, HN80.out, nr, roots, ptsS, Nat.add_zero, Nat.add_assoc]))
        have HR := zh hr; clear hr
        try unfold natV
        go_wp2_with fail
        clear x83 x84 x85 x86 x87 xl88; refine (HC120.out _ rfl).mono ?_; rintro e w117 ⟨rfl, fp118, h1, h2⟩; obtain ⟨n121, hn⟩ : ∃ n, n = nr ns [] (.mk 27 (tk K.T i1).text (tk K.T i1).a [x, t69]) := ⟨_, rfl⟩; rw [← hn]; have HN122 := zh hn; have HS119 := zh (show St K w p j70 o sn ns fp [(.mk 27 (tk K.T i1).text (tk K.T i1).a [x, t69])] w117 fp118 from h1); have hbl : PaTo w75 fp76 w117 fp118 := (PaTo.of_below HS77.out.pa (zbr.alloc znr _)).trans h2; have HX123 := zh (Away.blkTo HX81.out HA82.out hbl); have HA124 := zh (HA82.out.to hbl); clear h1 h2 hn hbl; have x125 := zc 0 HX123.out rfl; have x126 := zc 1 HX123.out rfl; have x127 := zc 2 HX123.out rfl; have x128 := zc 3 HX123.out rfl; have x129 := zc 4 HX123.out rfl; have xl130 := blk_lt HX123.out; have hr := HR.out; clear HR; have HRF := zh hr; clear hr
        try unfold natV
        go_wp2_with fail
        clear x125 x126 x127 x128 x129 xl130; go_roundw
        case rel => exact ⟨_, n121, j70, fp118, f, rfl, HN122, HS119, zh ⟨by have := HLE.out; omega, HRF.out⟩, zh ⟨HF72.out.1, by have := HRM.out; have := HRLs.out; have := HLTK.out; have := HIE53.out; have := HLT54.out; have := HF72.out; (try simp only [zS]); omega⟩⟩
        case measure => have h5 := HN122.out; have h6 := HNX.out; have h7 := ptS_pos x; have h8 := ptS_pos t69; unfold nr at h5 h6; simp only [ptsS, ptS, Nat.add_zero, Nat.zero_add] at h5 h6; have := HRLs.out; have := HLTK.out; have := HIE53.out; have := HLT54.out; have := HF72.out; simp [intOf]; omega
     ·by_cases h2 : (tk K.T i1).kind = 2
      ·have hcond : ((tk K.T i1).kind = 5 ∨ (tk K.T i1).kind = 2) ∧ rankL (tk K.T i1).text = rk := ⟨.inr h2, hrk⟩
       have HK5 := zh h5; have HK2 := zh h2; have HKQ := zh (show (rankL (tk K.T i1).text : Int) = (rk : Int) by omega); clear h5 h2 hrk; rw [if_pos hcond] at hr; have HRX := zh hr; clear hr; have HLTK := zh (tk_lt HTK.out HRL.out.1 (by rcases hcond.1 with e9 | e9 <;> rw [e9] <;> decide)); clear hcond; have HX131 := zh (show w30.drew.heap[b29]? = _ from HX31.out); have HA132 := zh HA32.out.drew; have HS133 := zh HS33.out.drew; go_wp2_with fail
       clear x36 x37 x38 x39 x40 xl41; refine wp_region_held_drew (S := ChS K p b29 (tk K.T i1) w30) (by kernel_rfl) (HCS.out) (fun hHeld => ?_); refine ztk 0 18 (.pointer (some ⟨b29, 0, none⟩)) hHeld ?_; simp only [zq]; refine ztk 1 19 (.int .i64 (tk K.T i1).kind) hHeld ?_ (hy := Or.inl ⟨by rfl, fun w' hS => (by have z0 := zc 0 hS.2.1 rfl; go_simp)⟩); simp only [zq]; refine ztk 2 20 (.bool true) hHeld ?_ (hy := Or.inl ⟨by rfl, fun w' hS => (by have q5 := HK5.out; go_simp)⟩); simp only [zq]; refine ztk 3 21 (.bool true) hHeld ?_; simp only [zq]; refine ztk 4 22 (.pointer (some ⟨b29, 0, none⟩)) hHeld ?_; simp only [zq]; refine ztk 5 23 (.int .i64 (tk K.T i1).kind) hHeld ?_ (hy := Or.inl ⟨by rfl, fun w' hS => (by have z0 := zc 0 hS.2.1 rfl; go_simp)⟩); simp only [zq]; refine ztk 6 24 (.bool false) hHeld ?_ (hy := Or.inl ⟨by rfl, fun w' hS => (by have q2 := HK2.out; go_simp)⟩); simp only [zq]; refine ztk 7 25 (.bool false) hHeld ?_; simp only [zq]; refine ztk 8 26 (.bool false) hHeld ?_; simp only [zq]; refine ztk 9 27 (.pointer (some ⟨p, 0, none⟩)) hHeld ?_; simp only [zq]; refine ztk 10 28 (.pointer (some ⟨p, 0, none⟩)) hHeld ?_; simp only [zq]; refine ztk 11 29 (.pointer (some ⟨p, 4, none⟩)) hHeld ?_; simp only [zq]; refine ztk 12 30 (.map (some K.rb)) hHeld ?_ (hy := Or.inl ⟨by rfl, fun w' hS => (by have z4 := hS.1; go_simp)⟩); simp only [zq]; refine ztk 13 31 (.pointer (some ⟨b29, 1, none⟩)) hHeld ?_; simp only [zq]; refine ztk 14 32 (.string (tk K.T i1).text) hHeld ?_ (hy := Or.inl ⟨by rfl, fun w' hS => (by have z1 := zc 1 hS.2.1 rfl; go_simp)⟩); simp only [zq]; refine ztk 15 33 (.int .i64 (rankL (tk K.T i1).text : Int)) hHeld ?_ (hy := Or.inl ⟨by rfl, fun w' hS => (by have hl := HLK.out w' hS.2.2; go_simp)⟩); simp only [zq]; refine ztk 16 34 (.int .i64 (rk : Int)) hHeld ?_; simp only [zq]; refine ztk 17 35 (.bool false) hHeld ?_ (hy := Or.inl ⟨by rfl, fun w' hS => (by have qr := HKQ.out; go_simp)⟩); simp only [zq]; refine ztk 18 36 (.bool false) hHeld ?_; simp only [zq]; refine wpAnyH_done (by kernel_rfl) ?_ _; have hr := HRX.out; clear HRX; have x134 := zc 0 HX131.out rfl; have x135 := zc 1 HX131.out rfl; have x136 := zc 2 HX131.out rfl; have x137 := zc 3 HX131.out rfl; have x138 := zc 4 HX131.out rfl; have xl139 := blk_lt HX131.out; obtain ⟨nv, l, hm⟩ := HS133.out.pa.mem; obtain ⟨-, y144, -, -, -, cf⟩ := pa_cell hm.blk; have y145 := cf 1; have y146 := blk_lt hm.blk; clear hm cf; obtain ⟨i141, hi1⟩ : ∃ ix, ix = i1 + 1 := ⟨_, rfl⟩; have y147 : (i1 : Int) + 1 = (i141 : Int) := by omega
       have y148 : i141 ≤ 200002 := by have := HLTK.out; have := HLN.out; omega
       have y149 : IntKind.i64.wrap (i141 : Int) = (i141 : Int) := IntWalk.i64_in _ (by omega)
       try rw [← hi1] at hr
       have HIE142 := zh hi1; have HLT143 := zh (show i141 < K.T.length by rw [hi1]; exact HLTK.out); clear hi1 nv l; have hst := HS133.out.pa.setI i141; have hto : PaTo w30.drew fp1 (w30.drew.setCell ⟨p, 1, none⟩ (.int .i64 (i141 : Int))) fp1 := hst.2; have HS140 := zh (show St K w p i141 o sn ns fp [x] (w30.drew.setCell ⟨p, 1, none⟩ (.int .i64 (i141 : Int))) fp1 from HS133.out.step hst.1 hto); have HX150 := zh (Away.blkTo HX131.out HA132.out hto); have HA151 := zh (HA132.out.to hto); clear hst hto; have x152 := zc 0 HX150.out rfl; have x153 := zc 1 HX150.out rfl; have x154 := zc 2 HX150.out rfl; have x155 := zc 3 HX150.out rfl; have x156 := zc 4 HX150.out rfl; have xl157 := blk_lt HX150.out; rw [← HRK1.out.1] at hr; have hradd : (rk : Int) + 1 = (rk1 : Int) := by have := HRK1.out; omega
       have hrw : IntKind.i64.wrap (rk1 : Int) = (rk1 : Int) := IntWalk.i64_in _ (by have := HRK1.out; omega); have hrb : rk1 ≤ 7 := HRK1.out.2; obtain ⟨X, hX⟩ : ∃ X, (parF K.T f).one (.chain rk1) o i141 = X := ⟨_, rfl⟩; rw [hX] at hr
       cases X with
       | none => exact absurd hr (by simp [Res.then])
       | some X =>
       cases X with
       | bad a n =>
        have HRR160 := zh (show Res.bad a n = r from (by dsimp only [Res.then] at hr; exact Option.some.inj hr)); have HC163 := zh (call_bad ((HAP.out f (Nat.le_refl f)).chain rk1 HRK1.out.2) HS140.out HB.out ⟨HLT143.out, by have := HRM.out; have := HRLs.out; have := HLTK.out; have := HIE142.out; have := HLT143.out; (try simp only [zS]); omega⟩ HO.out hX); clear hr hX; go_wp2_with fail
        refine HC163.out.mono ?_; rintro e wb ⟨rfl, hb⟩; have HB162 := zh hb; clear hb; unfold wrongP; go_wp2
        exact ⟨rfl, by rw [← HRR160.out]; exact ⟨rfl, HB162.out⟩⟩
       | ok t158 j159 =>
        have hft := (fit_all HTK.out f).one (.chain rk1) o i141 HLT143.out; rw [hX] at hft; obtain ⟨f1, f2, f3⟩ := hft; simp only [lazy1, sl1, ex1, zf] at f2 f3
        have HF161 := zh (And.intro f1 (And.intro f2 f3)); clear f1 f2 f3; have HC167 := zh (call_ok ((HAP.out f (Nat.le_refl f)).chain rk1 HRK1.out.2) HS140.out ⟨HLT143.out, by have := HRM.out; have := HRLs.out; have := HLTK.out; have := HIE142.out; have := HLT143.out; (try simp only [zS]); omega⟩ HO.out hX); dsimp only [Res.then] at hr
        clear hX; have HR := zh hr; clear hr; go_wp2_with fail
        clear x152 x153 x154 x155 x156 xl157 y144 y145 y146 y147 y148 y149 x134 x135 x136 x137 x138 xl139; refine HC167.out.mono ?_; rintro e w164 ⟨rfl, fp165, h1, h2⟩; obtain ⟨n168, hn⟩ : ∃ n, n = nr ns [x] t158 := ⟨_, rfl⟩; rw [← hn]; have HN169 := zh hn; have HS166 := zh (show St K w p j159 o sn ns fp [x, t158] w164 fp165 from h1); have HX170 := zh (Away.blkTo HX150.out HA151.out h2); have HA171 := zh (HA151.out.to h2); clear h1 h2 hn; have x172 := zc 0 HX170.out rfl; have x173 := zc 1 HX170.out rfl; have x174 := zc 2 HX170.out rfl; have x175 := zc 3 HX170.out rfl; have x176 := zc 4 HX170.out rfl; have xl177 := blk_lt HX170.out; have hr := HR.out; clear HR
        cases hand : ((tk K.T i1).text.toList == [97, 110, 100]) with
        | true =>
         rw [show opT (tk K.T i1) x t158 = .mk 29 ⟨#[]⟩ (tk K.T i1).a [x, t158] from if_pos (eqB hand)] at hr; have HC181 := zh (show ∀ W, W = w164.alloc (.cells #[natV nx, natV n168] 3) → Calls Tryz.prog 23 #[.pointer (some ⟨p, 0, none⟩), .int .i64 29, .string ⟨#[]⟩, natV (tk K.T i1).a, .slice (some ⟨w164.heap.size, 0, none⟩) 2 2] W (OneOk K w p o sn ns fp [] W fp165 (.mk 29 ⟨#[]⟩ (tk K.T i1).a [x, t158]) j159) from fun W hW => by
          subst hW; exact lay_mid (L1 := []) (L2 := [x, t158]) (HS166.out.below (zbr.alloc znr _)) (by have := HRM.out; have := HRLs.out; have := HLTK.out; have := HIE142.out; have := HLT143.out; have := HF161.out; simp only [ptsS, ptS, noneT, List.nil_append, List.cons_append, Nat.add_zero, Nat.zero_add]; omega) (by simp) 29 ⟨#[]⟩ (tk K.T i1).a (KidsV.new w164 nx [n168] _ rfl) (by simp only [HNX.out, HN169.out, nr, roots, ptsS, Nat.add_zero, Nat.add_assoc]))
         have HR := zh hr; clear hr
         try unfold natV
         go_wp2_with fail
         clear x172 x173 x174 x175 x176 xl177; refine (HC181.out _ rfl).mono ?_; rintro e w178 ⟨rfl, fp179, h1, h2⟩; obtain ⟨n182, hn⟩ : ∃ n, n = nr ns [] (.mk 29 ⟨#[]⟩ (tk K.T i1).a [x, t158]) := ⟨_, rfl⟩; rw [← hn]; have HN183 := zh hn; have HS180 := zh (show St K w p j159 o sn ns fp [(.mk 29 ⟨#[]⟩ (tk K.T i1).a [x, t158])] w178 fp179 from h1); have hbl : PaTo w164 fp165 w178 fp179 := (PaTo.of_below HS166.out.pa (zbr.alloc znr _)).trans h2; have HX184 := zh (Away.blkTo HX170.out HA171.out hbl); have HA185 := zh (HA171.out.to hbl); clear h1 h2 hn hbl; have x186 := zc 0 HX184.out rfl; have x187 := zc 1 HX184.out rfl; have x188 := zc 2 HX184.out rfl; have x189 := zc 3 HX184.out rfl; have x190 := zc 4 HX184.out rfl; have xl191 := blk_lt HX184.out; have hr := HR.out; clear HR; have HRF := zh hr; clear hr
         try unfold natV
         go_wp2_with fail
         clear x186 x187 x188 x189 x190 xl191; go_roundw
         case rel => exact ⟨_, n182, j159, fp179, f, rfl, HN183, HS180, zh ⟨by have := HLE.out; omega, HRF.out⟩, zh ⟨HF161.out.1, by have := HRM.out; have := HRLs.out; have := HLTK.out; have := HIE142.out; have := HLT143.out; have := HF161.out; (try simp only [zS]); omega⟩⟩
         case measure => have h5 := HN183.out; have h6 := HNX.out; have h7 := ptS_pos x; have h8 := ptS_pos t158; unfold nr at h5 h6; simp only [ptsS, ptS, Nat.add_zero, Nat.zero_add] at h5 h6; have := HRLs.out; have := HLTK.out; have := HIE142.out; have := HLT143.out; have := HF161.out; simp [intOf]; omega
        | false =>
        cases hor : ((tk K.T i1).text.toList == [111, 114]) with
        | true =>
         rw [show opT (tk K.T i1) x t158 = .mk 30 ⟨#[]⟩ (tk K.T i1).a [x, t158] from (if_neg (neB hand)).trans (if_pos (eqB hor))] at hr; have HC195 := zh (show ∀ W, W = w164.alloc (.cells #[natV nx, natV n168] 3) → Calls Tryz.prog 23 #[.pointer (some ⟨p, 0, none⟩), .int .i64 30, .string ⟨#[]⟩, natV (tk K.T i1).a, .slice (some ⟨w164.heap.size, 0, none⟩) 2 2] W (OneOk K w p o sn ns fp [] W fp165 (.mk 30 ⟨#[]⟩ (tk K.T i1).a [x, t158]) j159) from fun W hW => by
          subst hW; exact lay_mid (L1 := []) (L2 := [x, t158]) (HS166.out.below (zbr.alloc znr _)) (by have := HRM.out; have := HRLs.out; have := HLTK.out; have := HIE142.out; have := HLT143.out; have := HF161.out; simp only [ptsS, ptS, noneT, List.nil_append, List.cons_append, Nat.add_zero, Nat.zero_add]; omega) (by simp) 30 ⟨#[]⟩ (tk K.T i1).a (KidsV.new w164 nx [n168] _ rfl) (by simp only [HNX.out, HN169.out, nr, roots, ptsS, Nat.add_zero, Nat.add_assoc]))
         have HR := zh hr; clear hr
         try unfold natV
         go_wp2_with fail
         clear x172 x173 x174 x175 x176 xl177; refine (HC195.out _ rfl).mono ?_; rintro e w192 ⟨rfl, fp193, h1, h2⟩; obtain ⟨n196, hn⟩ : ∃ n, n = nr ns [] (.mk 30 ⟨#[]⟩ (tk K.T i1).a [x, t158]) := ⟨_, rfl⟩; rw [← hn]; have HN197 := zh hn; have HS194 := zh (show St K w p j159 o sn ns fp [(.mk 30 ⟨#[]⟩ (tk K.T i1).a [x, t158])] w192 fp193 from h1); have hbl : PaTo w164 fp165 w192 fp193 := (PaTo.of_below HS166.out.pa (zbr.alloc znr _)).trans h2; have HX198 := zh (Away.blkTo HX170.out HA171.out hbl); have HA199 := zh (HA171.out.to hbl); clear h1 h2 hn hbl; have x200 := zc 0 HX198.out rfl; have x201 := zc 1 HX198.out rfl; have x202 := zc 2 HX198.out rfl; have x203 := zc 3 HX198.out rfl; have x204 := zc 4 HX198.out rfl; have xl205 := blk_lt HX198.out; have hr := HR.out; clear HR; have HRF := zh hr; clear hr
         try unfold natV
         go_wp2_with fail
         clear x200 x201 x202 x203 x204 xl205; go_roundw
         case rel => exact ⟨_, n196, j159, fp193, f, rfl, HN197, HS194, zh ⟨by have := HLE.out; omega, HRF.out⟩, zh ⟨HF161.out.1, by have := HRM.out; have := HRLs.out; have := HLTK.out; have := HIE142.out; have := HLT143.out; have := HF161.out; (try simp only [zS]); omega⟩⟩
         case measure => have h5 := HN197.out; have h6 := HNX.out; have h7 := ptS_pos x; have h8 := ptS_pos t158; unfold nr at h5 h6; simp only [ptsS, ptS, Nat.add_zero, Nat.zero_add] at h5 h6; have := HRLs.out; have := HLTK.out; have := HIE142.out; have := HLT143.out; have := HF161.out; simp [intOf]; omega
        | false =>
         rw [show opT (tk K.T i1) x t158 = .mk 27 (tk K.T i1).text (tk K.T i1).a [x, t158] from (if_neg (neB hand)).trans (if_neg (neB hor))] at hr; have HC209 := zh (show ∀ W, W = w164.alloc (.cells #[natV nx, natV n168] 3) → Calls Tryz.prog 23 #[.pointer (some ⟨p, 0, none⟩), .int .i64 27, .string (tk K.T i1).text, natV (tk K.T i1).a, .slice (some ⟨w164.heap.size, 0, none⟩) 2 2] W (OneOk K w p o sn ns fp [] W fp165 (.mk 27 (tk K.T i1).text (tk K.T i1).a [x, t158]) j159) from fun W hW => by
          subst hW; exact lay_mid (L1 := []) (L2 := [x, t158]) (HS166.out.below (zbr.alloc znr _)) (by have := HRM.out; have := HRLs.out; have := HLTK.out; have := HIE142.out; have := HLT143.out; have := HF161.out; simp only [ptsS, ptS, noneT, List.nil_append, List.cons_append, Nat.add_zero, Nat.zero_add]; omega) (by simp) 27 (tk K.T i1).text (tk K.T i1).a (KidsV.new w164 nx [n168] _ rfl) (by simp only [HNX.out, HN169.out, nr, roots, ptsS, Nat.add_zero, Nat.add_assoc]))
         have HR := zh hr; clear hr
         try unfold natV
         go_wp2_with fail
         clear x172 x173 x174 x175 x176 xl177; refine (HC209.out _ rfl).mono ?_; rintro e w206 ⟨rfl, fp207, h1, h2⟩; obtain ⟨n210, hn⟩ : ∃ n, n = nr ns [] (.mk 27 (tk K.T i1).text (tk K.T i1).a [x, t158]) := ⟨_, rfl⟩; rw [← hn]; have HN211 := zh hn; have HS208 := zh (show St K w p j159 o sn ns fp [(.mk 27 (tk K.T i1).text (tk K.T i1).a [x, t158])] w206 fp207 from h1); have hbl : PaTo w164 fp165 w206 fp207 := (PaTo.of_below HS166.out.pa (zbr.alloc znr _)).trans h2; have HX212 := zh (Away.blkTo HX170.out HA171.out hbl); have HA213 := zh (HA171.out.to hbl); clear h1 h2 hn hbl; have x214 := zc 0 HX212.out rfl; have x215 := zc 1 HX212.out rfl; have x216 := zc 2 HX212.out rfl; have x217 := zc 3 HX212.out rfl; have x218 := zc 4 HX212.out rfl; have xl219 := blk_lt HX212.out; have hr := HR.out; clear HR; have HRF := zh hr; clear hr
         try unfold natV
         go_wp2_with fail
         clear x214 x215 x216 x217 x218 xl219; go_roundw
         case rel => exact ⟨_, n210, j159, fp207, f, rfl, HN211, HS208, zh ⟨by have := HLE.out; omega, HRF.out⟩, zh ⟨HF161.out.1, by have := HRM.out; have := HRLs.out; have := HLTK.out; have := HIE142.out; have := HLT143.out; have := HF161.out; (try simp only [zS]); omega⟩⟩
         case measure => have h5 := HN211.out; have h6 := HNX.out; have h7 := ptS_pos x; have h8 := ptS_pos t158; unfold nr at h5 h6; simp only [ptsS, ptS, Nat.add_zero, Nat.zero_add] at h5 h6; have := HRLs.out; have := HLTK.out; have := HIE142.out; have := HLT143.out; have := HF161.out; simp [intOf]; omega
      ·have hcond : ¬ (((tk K.T i1).kind = 5 ∨ (tk K.T i1).kind = 2) ∧ rankL (tk K.T i1).text = rk) := fun e9 => e9.1.elim h5 h2
       have HK5 := zh h5; have HK2 := zh h2; clear h5 h2 hrk; rw [if_neg hcond] at hr; have HFI := zh (Option.some.inj hr); clear hr hcond; have HZZ := zh (HS33.out.drew.out); go_wp2_with fail
       clear x36 x37 x38 x39 x40 xl41; refine wp_region_held_drew (S := ChS K p b29 (tk K.T i1) w30) (by kernel_rfl) (HCS.out) (fun hHeld => ?_); refine ztk 0 18 (.pointer (some ⟨b29, 0, none⟩)) hHeld ?_; simp only [zq]; refine ztk 1 19 (.int .i64 (tk K.T i1).kind) hHeld ?_ (hy := Or.inl ⟨by rfl, fun w' hS => (by have z0 := zc 0 hS.2.1 rfl; go_simp)⟩); simp only [zq]; refine ztk 2 20 (.bool true) hHeld ?_ (hy := Or.inl ⟨by rfl, fun w' hS => (by have q5 := HK5.out; go_simp)⟩); simp only [zq]; refine ztk 3 21 (.bool true) hHeld ?_; simp only [zq]; refine ztk 4 22 (.pointer (some ⟨b29, 0, none⟩)) hHeld ?_; simp only [zq]; refine ztk 5 23 (.int .i64 (tk K.T i1).kind) hHeld ?_ (hy := Or.inl ⟨by rfl, fun w' hS => (by have z0 := zc 0 hS.2.1 rfl; go_simp)⟩); simp only [zq]; refine ztk 6 24 (.bool true) hHeld ?_ (hy := Or.inl ⟨by rfl, fun w' hS => (by have q2 := HK2.out; go_simp)⟩); simp only [zq]; refine ztk 7 25 (.bool true) hHeld ?_; simp only [zq]; refine ztk 8 26 (.bool true) hHeld ?_; simp only [zq]; refine ztu 9 27 hHeld ?_; simp only [zq]; refine ztu 10 28 hHeld ?_; simp only [zq]; refine ztu 11 29 hHeld ?_; simp only [zq]; refine ztu 12 30 hHeld ?_; simp only [zq]; refine ztu 13 31 hHeld ?_; simp only [zq]; refine ztu 14 32 hHeld ?_; simp only [zq]; refine ztu 15 33 hHeld ?_; simp only [zq]; refine ztu 16 34 hHeld ?_; simp only [zq]; refine ztu 17 35 hHeld ?_; simp only [zq]; refine ztk 18 36 (.bool true) hHeld ?_; simp only [zq]; refine wpAnyH_done (by kernel_rfl) ?_ _; go_wp2
       go_ret
       exact (by rw [← HFI.out]; have h9 := HZZ.out; rw [← HNX.out] at h9; exact h9)
    ·by_cases h5 : (tk K.T i1).kind = 5
     ·have hcond : ¬ (((tk K.T i1).kind = 5 ∨ (tk K.T i1).kind = 2) ∧ rankL (tk K.T i1).text = rk) := fun e9 => hrk e9.2
      have HK5 := zh h5; have HKQ := zh (show ¬ (rankL (tk K.T i1).text : Int) = (rk : Int) by omega); clear h5 hrk; rw [if_neg hcond] at hr; have HFI := zh (Option.some.inj hr); clear hr hcond; have HZZ := zh (HS33.out.drew.out); go_wp2_with fail
      clear x36 x37 x38 x39 x40 xl41; refine wp_region_held_drew (S := ChS K p b29 (tk K.T i1) w30) (by kernel_rfl) (HCS.out) (fun hHeld => ?_); refine ztk 0 18 (.pointer (some ⟨b29, 0, none⟩)) hHeld ?_; simp only [zq]; refine ztk 1 19 (.int .i64 (tk K.T i1).kind) hHeld ?_ (hy := Or.inl ⟨by rfl, fun w' hS => (by have z0 := zc 0 hS.2.1 rfl; go_simp)⟩); simp only [zq]; refine ztk 2 20 (.bool false) hHeld ?_ (hy := Or.inl ⟨by rfl, fun w' hS => (by have q5 := HK5.out; go_simp)⟩); simp only [zq]; refine ztk 3 21 (.bool false) hHeld ?_; simp only [zq]; refine ztu 4 22 hHeld ?_; simp only [zq]; refine ztu 5 23 hHeld ?_; simp only [zq]; refine ztu 6 24 hHeld ?_; simp only [zq]; refine ztk 7 25 (.bool false) hHeld ?_; simp only [zq]; refine ztk 8 26 (.bool false) hHeld ?_; simp only [zq]; refine ztk 9 27 (.pointer (some ⟨p, 0, none⟩)) hHeld ?_; simp only [zq]; refine ztk 10 28 (.pointer (some ⟨p, 0, none⟩)) hHeld ?_; simp only [zq]; refine ztk 11 29 (.pointer (some ⟨p, 4, none⟩)) hHeld ?_; simp only [zq]; refine ztk 12 30 (.map (some K.rb)) hHeld ?_ (hy := Or.inl ⟨by rfl, fun w' hS => (by have z4 := hS.1; go_simp)⟩); simp only [zq]; refine ztk 13 31 (.pointer (some ⟨b29, 1, none⟩)) hHeld ?_; simp only [zq]; refine ztk 14 32 (.string (tk K.T i1).text) hHeld ?_ (hy := Or.inl ⟨by rfl, fun w' hS => (by have z1 := zc 1 hS.2.1 rfl; go_simp)⟩); simp only [zq]; refine ztk 15 33 (.int .i64 (rankL (tk K.T i1).text : Int)) hHeld ?_ (hy := Or.inl ⟨by rfl, fun w' hS => (by have hl := HLK.out w' hS.2.2; go_simp)⟩); simp only [zq]; refine ztk 16 34 (.int .i64 (rk : Int)) hHeld ?_; simp only [zq]; refine ztk 17 35 (.bool true) hHeld ?_ (hy := Or.inl ⟨by rfl, fun w' hS => (by have qr := HKQ.out; go_simp)⟩); simp only [zq]; refine ztk 18 36 (.bool true) hHeld ?_; simp only [zq]; refine wpAnyH_done (by kernel_rfl) ?_ _; go_wp2
      go_ret
      exact (by rw [← HFI.out]; have h9 := HZZ.out; rw [← HNX.out] at h9; exact h9)
     ·by_cases h2 : (tk K.T i1).kind = 2
      ·have hcond : ¬ (((tk K.T i1).kind = 5 ∨ (tk K.T i1).kind = 2) ∧ rankL (tk K.T i1).text = rk) := fun e9 => hrk e9.2
       have HK5 := zh h5; have HK2 := zh h2; have HKQ := zh (show ¬ (rankL (tk K.T i1).text : Int) = (rk : Int) by omega); clear h5 h2 hrk; rw [if_neg hcond] at hr; have HFI := zh (Option.some.inj hr); clear hr hcond; have HZZ := zh (HS33.out.drew.out); go_wp2_with fail
       clear x36 x37 x38 x39 x40 xl41; refine wp_region_held_drew (S := ChS K p b29 (tk K.T i1) w30) (by kernel_rfl) (HCS.out) (fun hHeld => ?_); refine ztk 0 18 (.pointer (some ⟨b29, 0, none⟩)) hHeld ?_; simp only [zq]; refine ztk 1 19 (.int .i64 (tk K.T i1).kind) hHeld ?_ (hy := Or.inl ⟨by rfl, fun w' hS => (by have z0 := zc 0 hS.2.1 rfl; go_simp)⟩); simp only [zq]; refine ztk 2 20 (.bool true) hHeld ?_ (hy := Or.inl ⟨by rfl, fun w' hS => (by have q5 := HK5.out; go_simp)⟩); simp only [zq]; refine ztk 3 21 (.bool true) hHeld ?_; simp only [zq]; refine ztk 4 22 (.pointer (some ⟨b29, 0, none⟩)) hHeld ?_; simp only [zq]; refine ztk 5 23 (.int .i64 (tk K.T i1).kind) hHeld ?_ (hy := Or.inl ⟨by rfl, fun w' hS => (by have z0 := zc 0 hS.2.1 rfl; go_simp)⟩); simp only [zq]; refine ztk 6 24 (.bool false) hHeld ?_ (hy := Or.inl ⟨by rfl, fun w' hS => (by have q2 := HK2.out; go_simp)⟩); simp only [zq]; refine ztk 7 25 (.bool false) hHeld ?_; simp only [zq]; refine ztk 8 26 (.bool false) hHeld ?_; simp only [zq]; refine ztk 9 27 (.pointer (some ⟨p, 0, none⟩)) hHeld ?_; simp only [zq]; refine ztk 10 28 (.pointer (some ⟨p, 0, none⟩)) hHeld ?_; simp only [zq]; refine ztk 11 29 (.pointer (some ⟨p, 4, none⟩)) hHeld ?_; simp only [zq]; refine ztk 12 30 (.map (some K.rb)) hHeld ?_ (hy := Or.inl ⟨by rfl, fun w' hS => (by have z4 := hS.1; go_simp)⟩); simp only [zq]; refine ztk 13 31 (.pointer (some ⟨b29, 1, none⟩)) hHeld ?_; simp only [zq]; refine ztk 14 32 (.string (tk K.T i1).text) hHeld ?_ (hy := Or.inl ⟨by rfl, fun w' hS => (by have z1 := zc 1 hS.2.1 rfl; go_simp)⟩); simp only [zq]; refine ztk 15 33 (.int .i64 (rankL (tk K.T i1).text : Int)) hHeld ?_ (hy := Or.inl ⟨by rfl, fun w' hS => (by have hl := HLK.out w' hS.2.2; go_simp)⟩); simp only [zq]; refine ztk 16 34 (.int .i64 (rk : Int)) hHeld ?_; simp only [zq]; refine ztk 17 35 (.bool true) hHeld ?_ (hy := Or.inl ⟨by rfl, fun w' hS => (by have qr := HKQ.out; go_simp)⟩); simp only [zq]; refine ztk 18 36 (.bool true) hHeld ?_; simp only [zq]; refine wpAnyH_done (by kernel_rfl) ?_ _; go_wp2
       go_ret
       exact (by rw [← HFI.out]; have h9 := HZZ.out; rw [← HNX.out] at h9; exact h9)
      ·have hcond : ¬ (((tk K.T i1).kind = 5 ∨ (tk K.T i1).kind = 2) ∧ rankL (tk K.T i1).text = rk) := fun e9 => e9.1.elim h5 h2
       have HK5 := zh h5; have HK2 := zh h2; clear h5 h2 hrk; rw [if_neg hcond] at hr; have HFI := zh (Option.some.inj hr); clear hr hcond; have HZZ := zh (HS33.out.drew.out); go_wp2_with fail
       clear x36 x37 x38 x39 x40 xl41; refine wp_region_held_drew (S := ChS K p b29 (tk K.T i1) w30) (by kernel_rfl) (HCS.out) (fun hHeld => ?_); refine ztk 0 18 (.pointer (some ⟨b29, 0, none⟩)) hHeld ?_; simp only [zq]; refine ztk 1 19 (.int .i64 (tk K.T i1).kind) hHeld ?_ (hy := Or.inl ⟨by rfl, fun w' hS => (by have z0 := zc 0 hS.2.1 rfl; go_simp)⟩); simp only [zq]; refine ztk 2 20 (.bool true) hHeld ?_ (hy := Or.inl ⟨by rfl, fun w' hS => (by have q5 := HK5.out; go_simp)⟩); simp only [zq]; refine ztk 3 21 (.bool true) hHeld ?_; simp only [zq]; refine ztk 4 22 (.pointer (some ⟨b29, 0, none⟩)) hHeld ?_; simp only [zq]; refine ztk 5 23 (.int .i64 (tk K.T i1).kind) hHeld ?_ (hy := Or.inl ⟨by rfl, fun w' hS => (by have z0 := zc 0 hS.2.1 rfl; go_simp)⟩); simp only [zq]; refine ztk 6 24 (.bool true) hHeld ?_ (hy := Or.inl ⟨by rfl, fun w' hS => (by have q2 := HK2.out; go_simp)⟩); simp only [zq]; refine ztk 7 25 (.bool true) hHeld ?_; simp only [zq]; refine ztk 8 26 (.bool true) hHeld ?_; simp only [zq]; refine ztu 9 27 hHeld ?_; simp only [zq]; refine ztu 10 28 hHeld ?_; simp only [zq]; refine ztu 11 29 hHeld ?_; simp only [zq]; refine ztu 12 30 hHeld ?_; simp only [zq]; refine ztu 13 31 hHeld ?_; simp only [zq]; refine ztu 14 32 hHeld ?_; simp only [zq]; refine ztu 15 33 hHeld ?_; simp only [zq]; refine ztu 16 34 hHeld ?_; simp only [zq]; refine ztu 17 35 hHeld ?_; simp only [zq]; refine ztk 18 36 (.bool true) hHeld ?_; simp only [zq]; refine wpAnyH_done (by kernel_rfl) ?_ _; go_wp2
       go_ret
       exact (by rw [← HFI.out]; have h9 := HZZ.out; rw [← HNX.out] at h9; exact h9)
end Go.Proofs.YthobobmbileekaaGreatDoor
