/-
 ParseChecks: part 23 of what the claim rests on.
-/
import Derived.Test.YthobobmbileekaaGreatDoorC01
import Derived.Test.YthobobmbileekaaGreatDoorC20
import Derived.Test.YthobobmbileekaaGreatDoorC22
set_option linter.unusedVariables false
set_option linter.unusedSimpArgs false
set_option maxHeartbeats 64000000
set_option maxRecDepth 100000
namespace Go.Proofs.YthobobmbileekaaGreatDoor
open Go.ChangeShapes Go.WideShapes Go.ChangeAt Go.RowKit

theorem unhidP {q : Prop} (h : Hid q) : q := h.out
def FieldOut (K : PaK) (w : World) (p o : Nat) (sn : Fin 8 → Bool) (ns : List Nd) (fp : List Nat) (mb n b b2 : Nat) (seen : List ByteArray) : Res PT → Ending → World → Prop
 | .bad a e => OutB w p a e
 | .ok t j => fun e w' => e = .returned (natV (ns.length + ptS t - 1)) ∧ ∃ fp', PaAt K w' p j o sn (ns ++ flat ns.length t) fp' ∧ PaTo w ([mb] ++ fp) w' fp' ∧ SeenAt w' p fp' mb (n + 1) (seen ++ [t.text]) ∧ w'.heap[b]? = some (.cells #[.pointer (some ⟨p, 0, none⟩)] 44 (0, 0)) ∧ Away w' p fp' b ∧ w'.heap[b2]? = some (.cells #[.map (some mb)] 42 (0, 0)) ∧ Away w' p fp' b2
theorem walk_field {f : Nat} (AP : ∀ g, g ≤ f → AllPart g) {K : PaK} {w : World} {p i o : Nat} {sn : Fin 8 → Bool} {ns : List Nd} {fps : List Nat} {mb nm b b2 : Nat} {seen : List ByteArray} (h : PaAt K w p i o sn ns fps) (hroom : Room K i ns) (ho : o ≤ 150) (hb1 : w.heap[b]? = some (.cells #[.pointer (some ⟨p, 0, none⟩)] 44 (0, 0))) (ha1 : Away w p fps b) (hb2 : w.heap[b2]? = some (.cells #[.map (some mb)] 42 (0, 0))) (ha2 : Away w p fps b2) (hsm : SeenAt w p fps mb nm seen) (hnm : nm ≤ 900000) {r : Res PT} (hr : (parF K.T (f + 1)).one (.field seen) o i = some r) : Calls Tryz.prog 142 #[.pointer (some ⟨b, 0, none⟩), .pointer (some ⟨b2, 0, none⟩)] w (FieldOut K w p o sn ns fps mb nm b b2 seen r) := by
 change stepField K.T (parF K.T f) seen o i = some r at hr
 unfold stepField at hr
 obtain ⟨fp, hfp⟩ : ∃ fp, fp = [mb] ++ fps := ⟨_, rfl⟩
 have HFP := zh hfp
 have HB := zh (show Beg w p fp by rw [hfp]; exact Beg.ofX h (fun x hx => by rw [List.mem_singleton.1 hx]; exact hsm.away.1))
 have HTK := zh h.env.tok
 have HRM := zh hroom.2
 have HI := zh hroom.1
 have HO := zh ho
 have HS0 := zh (show St K w p i o sn ns fp [] w fps by rw [hfp]; exact St.startX h [mb])
 have HLN := zh h.env.len
 have HAP := zh AP
 have HX0 := zh hb1
 have HA0 := zh ha1
 have HX00 := zh hb2
 have HA00 := zh ha2
 have HM0 := zh hsm
 have HNM := zh hnm
 clear h hroom ho AP hb1 ha1 hb2 ha2 hsm hnm hfp
 have HR := zh hr
 clear hr
 go_enter Tryz.func142, Tryz.ntmps142
 have x1 := zc 0 HX0.out rfl
 have xl2 := blk_lt HX0.out
 have x3 := zc 0 HX00.out rfl
 have xl4 := blk_lt HX00.out
 have hr := HR.out
 clear HR
 unfold token at hr
 by_cases hk : (tk K.T i).kind = 1
 ·rw [if_pos hk] at hr
  dsimp only at hr
  have HLT5 := zh (tk_lt HTK.out HI.out (by rw [hk]; decide)); have HC11 := zh (token_ok HS0.out.pa HI.out 1 hk); clear hk; have HR := zh hr; clear hr; go_wp2_with fail
  clear x1 xl2 x3 xl4; refine HC11.out.mono ?_; rintro e w9 ⟨rfl, h1, h2⟩; have HS10 := zh (HS0.out.step h1 h2); have HX12 := zh (Away.blkTo HX0.out HA0.out h2); have HA13 := zh (HA0.out.to h2); have HX14 := zh (Away.blkTo HX00.out HA00.out h2); have HA15 := zh (HA00.out.to h2); have HM16 := zh (HM0.out.to h2); clear h1 h2; have x17 := zc 0 HX12.out rfl; have xl18 := blk_lt HX12.out; have x19 := zc 0 HX14.out rfl; have xl20 := blk_lt HX14.out; have hr := HR.out; clear HR; unfold tokJ; have HR := zh hr; clear hr
  go_upto_region 2 with fail
  clear x17 xl18 x19 xl20; obtain ⟨b21, hb⟩ : ∃ b, b = w9.heap.size := ⟨_, rfl⟩; rw [← hb]; refine gen_wpT fun w22 hW => ?_; have HX23 := zh (show w22.heap[b21]? = some (.cells #[.int .i64 (tk K.T i).kind, .string (tk K.T i).text, .int .i64 ((tk K.T i).a : Int), .int .i64 ((tk K.T i).z : Int), .int .i64 (tk K.T i).n] 65 (0, 0)) by rw [← hW]; exact heap_new_at _ _ _ hb.symm); have HBL26 := zh (show Below w9.heap.size w9 w22 by rw [← hW]; exact zbr.alloc znr _); have HS25 := zh (HS10.out.below HBL26.out); have HA24 := zh (Away.new HS10.out.pa (Nat.le_of_eq hb.symm) (blk_lt HX23.out)); have HBE27 := zh (show w.heap.size ≤ b21 from by have := HS10.out.pt.fr.size; omega); have HX28 := zh (below_blk HBL26.out HX12.out); have HA29 := zh (HA13.out.on HBL26.out.size); have HX30 := zh (below_blk HBL26.out HX14.out); have HA31 := zh (HA15.out.on HBL26.out.size); have HM32 := zh (HM16.out.below HBL26.out); clear hW hb; have x33 := zc 0 HX28.out rfl; have xl34 := blk_lt HX28.out; have x35 := zc 0 HX30.out rfl; have xl36 := blk_lt HX30.out; have x37 := zc 0 HX23.out rfl; have x38 := zc 1 HX23.out rfl; have x39 := zc 2 HX23.out rfl; have x40 := zc 3 HX23.out rfl; have x41 := zc 4 HX23.out rfl; have xl42 := blk_lt HX23.out; have hr := HR.out; clear HR; have hlt : (tk K.T i).text.size ≤ 200000 := HS25.out.pa.env.txt i; obtain ⟨D, hM, hD⟩ := HM32.out.map; obtain ⟨c7, hrun, hat, _⟩ := hM.lookup_int lawS Tryz.underlying42 Tryz.underlying3 (Tryz.zeroValue3 w22) (name_key (show (tk K.T i).text.size ≤ maxLen by unfold maxLen; omega)); have hv := hat.symm.trans (hD (tk K.T i).text); have hv2 : c7 = (if tb ((tk K.T i).text ∈ seen) = true then 1 else 0) := by injection hv with e1; injection e1 with _ e2
  clear hv hat; by_cases hin : (tk K.T i).text ∈ seen
  ·rw [if_pos (inB_iff.2 hin)] at hr
   rw [if_pos (tb_true hin)] at hv2; subst hv2; have hw1 : IntKind.i64.wrap 2 = 2 := by decide
   have HR := zh hr; clear hr; have HMD := zh (And.intro hM hD); go_wp2_with (at_mapUpdate; refine wpList_mapUpdate_own _ rfl _ _ _ 42 rfl 9 3 lawS Tryz.underlying42 _ mb nm D rfl hM (by have := HNM.out; unfold maxLen; omega) _ _ _ rfl rfl (name_key (by unfold maxLen; omega)) _ [] (plainElem_int Tryz.underlying3 (by decide)) ?_; intro w10 hm10 hg10; refine unhidP ?_)
   clear hM hrun hw1; clear x33 xl34 x35 xl36 x37 x38 x39 x40 x41 xl42; have hM := HMD.out.1; have hD := HMD.out.2; have hfr : Fr [mb] w22 w10 := (Fr.refl _ _).grown hg10 (fun g e => .inl (List.mem_singleton.2 (Option.some.inj e).symm)); have HS43 := zh (show St K w p (i + 1) o sn ns fp [] w10 fps by have h9 := HS25.out; rw [HFP.out] at h9 ⊢; exact h9.turn hfr (fun x hx => by rw [List.mem_singleton.1 hx]; exact ⟨HM32.out.away.1, HM32.out.away.2.2⟩)); have HX44 := zh (hfr.blk HX28.out (fun e9 => map_ne hM HX28.out (List.mem_singleton.1 e9).symm)); have HA45 := zh (HA29.out.on hfr.size); have HX46 := zh (hfr.blk HX30.out (fun e9 => map_ne hM HX30.out (List.mem_singleton.1 e9).symm)); have HA47 := zh (HA31.out.on hfr.size); have HX48 := zh (hfr.blk HX23.out (fun e9 => map_ne hM HX23.out (List.mem_singleton.1 e9).symm)); have HA49 := zh (HA24.out.on hfr.size); obtain ⟨c8, hrun8, hat8, _⟩ := hm10.lookup_int lawS Tryz.underlying42 Tryz.underlying3 (Tryz.zeroValue3 w10) (name_key (show (tk K.T i).text.size ≤ maxLen by unfold maxLen; omega)); have h8 : c8 = 2 := by
    rw [Maps.atKey_put_same hM.isMap (show WideAt.IsKeyLit (.string (tk K.T i).text.data.toList) from trivial)] at hat8; simp only [DataW.lit.injEq, Lit.int.injEq, true_and] at hat8
    exact hat8.symm
   subst h8; have x51 := zc 0 HX44.out rfl; have xl52 := blk_lt HX44.out; have x53 := zc 0 HX46.out rfl; have xl54 := blk_lt HX46.out; have x55 := zc 0 HX48.out rfl; have x56 := zc 1 HX48.out rfl; have x57 := zc 2 HX48.out rfl; have x58 := zc 3 HX48.out rfl; have x59 := zc 4 HX48.out rfl; have xl60 := blk_lt HX48.out; clear hm10 hg10 hM hfr hat8 hD HMD hin; have hr := HR.out; clear HR; refine zh ?_; have HRR61 := zh (show Res.bad (tk K.T i).a 70 = r from (by exact Option.some.inj hr)); have HC63 := zh ((show Calls Tryz.prog 44 #[.pointer (some ⟨p, 0, none⟩), natV (tk K.T i).a] w10 (OutB w p (tk K.T i).a 70) from (no_any _ _ _).mono fun e w' hh => ⟨hh.1, by rw [← hh.2]; exact HS43.out.bad HB.out zbr⟩)); clear hr; go_wp2_with fail
   refine HC63.out.mono ?_; rintro e wb ⟨rfl, hb⟩; have HB62 := zh hb; clear hb; unfold wrongP; go_wp2
   exact ⟨rfl, by rw [← HRR61.out]; exact ⟨rfl, HB62.out⟩⟩
  ·rw [if_neg (fun e9 => hin (inB_iff.1 e9))] at hr
   rw [if_neg (by rw [tb_false hin]; decide)] at hv2; subst hv2; have hw1 : IntKind.i64.wrap 1 = 1 := by decide
   have HR := zh hr; clear hr; have HMD := zh (And.intro hM hD); go_wp2_with (at_mapUpdate; refine wpList_mapUpdate_own _ rfl _ _ _ 42 rfl 9 3 lawS Tryz.underlying42 _ mb nm D rfl hM (by have := HNM.out; unfold maxLen; omega) _ _ _ rfl rfl (name_key (by unfold maxLen; omega)) _ [] (plainElem_int Tryz.underlying3 (by decide)) ?_; intro w10 hm10 hg10; refine unhidP ?_)
   clear hM hrun hw1; clear x33 xl34 x35 xl36 x37 x38 x39 x40 x41 xl42; have hM := HMD.out.1; have hD := HMD.out.2; have hfr : Fr [mb] w22 w10 := (Fr.refl _ _).grown hg10 (fun g e => .inl (List.mem_singleton.2 (Option.some.inj e).symm)); have HS64 := zh (show St K w p (i + 1) o sn ns fp [] w10 fps by have h9 := HS25.out; rw [HFP.out] at h9 ⊢; exact h9.turn hfr (fun x hx => by rw [List.mem_singleton.1 hx]; exact ⟨HM32.out.away.1, HM32.out.away.2.2⟩)); have HX65 := zh (hfr.blk HX28.out (fun e9 => map_ne hM HX28.out (List.mem_singleton.1 e9).symm)); have HA66 := zh (HA29.out.on hfr.size); have HX67 := zh (hfr.blk HX30.out (fun e9 => map_ne hM HX30.out (List.mem_singleton.1 e9).symm)); have HA68 := zh (HA31.out.on hfr.size); have HX69 := zh (hfr.blk HX23.out (fun e9 => map_ne hM HX23.out (List.mem_singleton.1 e9).symm)); have HA70 := zh (HA24.out.on hfr.size); have HM71 := zh (show SeenAt w10 p fps mb (nm + 1) (seen ++ [(tk K.T i).text]) from ⟨⟨_, hm10, wmap_put hD hM.isMap _⟩, HM32.out.away.on hfr.size⟩); obtain ⟨c8, hrun8, hat8, _⟩ := hm10.lookup_int lawS Tryz.underlying42 Tryz.underlying3 (Tryz.zeroValue3 w10) (name_key (show (tk K.T i).text.size ≤ maxLen by unfold maxLen; omega)); have h8 : c8 = 1 := by
    rw [Maps.atKey_put_same hM.isMap (show WideAt.IsKeyLit (.string (tk K.T i).text.data.toList) from trivial)] at hat8; simp only [DataW.lit.injEq, Lit.int.injEq, true_and] at hat8
    exact hat8.symm
   subst h8; have x72 := zc 0 HX65.out rfl; have xl73 := blk_lt HX65.out; have x74 := zc 0 HX67.out rfl; have xl75 := blk_lt HX67.out; have x76 := zc 0 HX69.out rfl; have x77 := zc 1 HX69.out rfl; have x78 := zc 2 HX69.out rfl; have x79 := zc 3 HX69.out rfl; have x80 := zc 4 HX69.out rfl; have xl81 := blk_lt HX69.out; clear hm10 hg10 hM hfr hat8 hD HMD hin; have hr := HR.out; clear HR; refine zh ?_; unfold need at hr
   cases hb : isAny (tk K.T (i + 1)) [⟨#[58]⟩] with
   | false =>
    rw [if_neg (by rw [hb]; decide)] at hr; have HRR83 := zh (show Res.bad _ _ = r from (by exact Option.some.inj hr)); have HC85 := zh ((need_no HS64.out.pa HLT5.out ⟨#[58]⟩ hb).mono fun e w' hh => (show OutB w p _ 70 e w' from ⟨hh.1, HS64.out.bad HB.out hh.2⟩)); clear hr; go_wp2_with fail
    refine HC85.out.mono ?_; rintro e wb ⟨rfl, hb⟩; have HB84 := zh hb; clear hb; unfold wrongP; go_wp2
    exact ⟨rfl, by rw [← HRR83.out]; exact ⟨rfl, HB84.out⟩⟩
   | true =>
    rw [if_pos hb] at hr; have HLT82 := zh (any_lt HTK.out HLT5.out hb); have HC88 := zh (need_yes HS64.out.pa HLT5.out ⟨#[58]⟩ hb); clear hb; have HR := zh hr; clear hr; go_wp2_with fail
    clear x72 xl73 x74 xl75 x76 x77 x78 x79 x80 xl81; refine HC88.out.mono ?_; rintro e w86 ⟨rfl, h1, h2⟩; have HS87 := zh (HS64.out.step h1 h2); have HX89 := zh (Away.blkTo HX65.out HA66.out h2); have HA90 := zh (HA66.out.to h2); have HX91 := zh (Away.blkTo HX67.out HA68.out h2); have HA92 := zh (HA68.out.to h2); have HX93 := zh (Away.blkTo HX69.out HA70.out h2); have HA94 := zh (HA70.out.to h2); have HM95 := zh (HM71.out.to h2); clear h1 h2; have x96 := zc 0 HX89.out rfl; have xl97 := blk_lt HX89.out; have x98 := zc 0 HX91.out rfl; have xl99 := blk_lt HX91.out; have x100 := zc 0 HX93.out rfl; have x101 := zc 1 HX93.out rfl; have x102 := zc 2 HX93.out rfl; have x103 := zc 3 HX93.out rfl; have x104 := zc 4 HX93.out rfl; have xl105 := blk_lt HX93.out; have hr := HR.out; clear HR; obtain ⟨X, hX⟩ : ∃ X, (parF K.T f).one (.kind) o ((i + 1) + 1) = X := ⟨_, rfl⟩; rw [hX] at hr
    cases X with
    | none => exact absurd hr (by simp [Res.then])
    | some X =>
    cases X with
    | bad a n =>
     have HRR108 := zh (show Res.bad a n = r from (by dsimp only [Res.then] at hr; exact Option.some.inj hr)); have HC111 := zh (call_bad ((HAP.out f (Nat.le_refl f)).kind) HS87.out HB.out ⟨HLT82.out, by have := HRM.out; have := HI.out; have := HLT5.out; have := HLT82.out; (try simp only [zS]); omega⟩ HO.out hX); clear hr hX; go_wp2_with fail
     refine HC111.out.mono ?_; rintro e wb ⟨rfl, hb⟩; have HB110 := zh hb; clear hb; unfold wrongP; go_wp2
     exact ⟨rfl, by rw [← HRR108.out]; exact ⟨rfl, HB110.out⟩⟩
    | ok t106 j107 =>
     have hft := (fit_all HTK.out f).one (.kind) o ((i + 1) + 1) HLT82.out; rw [hX] at hft; obtain ⟨f1, f2, f3⟩ := hft; simp only [lazy1, sl1, ex1, zf] at f2 f3
     have HF109 := zh (And.intro f1 (And.intro f2 f3)); clear f1 f2 f3; have HC115 := zh (call_ok ((HAP.out f (Nat.le_refl f)).kind) HS87.out ⟨HLT82.out, by have := HRM.out; have := HI.out; have := HLT5.out; have := HLT82.out; (try simp only [zS]); omega⟩ HO.out hX); dsimp only [Res.then] at hr
     clear hX; have HR := zh hr; clear hr; go_wp2_with fail
     clear x96 xl97 x98 xl99 x100 x101 x102 x103 x104 xl105; refine HC115.out.mono ?_; rintro e w112 ⟨rfl, fp113, h1, h2⟩; obtain ⟨n116, hn⟩ : ∃ n, n = nr ns [] t106 := ⟨_, rfl⟩; rw [← hn]; have HN117 := zh hn; have HS114 := zh (show St K w p j107 o sn ns fp [t106] w112 fp113 from h1); have HX118 := zh (Away.blkTo HX89.out HA90.out h2); have HA119 := zh (HA90.out.to h2); have HX120 := zh (Away.blkTo HX91.out HA92.out h2); have HA121 := zh (HA92.out.to h2); have HX122 := zh (Away.blkTo HX93.out HA94.out h2); have HA123 := zh (HA94.out.to h2); have HM124 := zh (HM95.out.to h2); clear h1 h2 hn; have x125 := zc 0 HX118.out rfl; have xl126 := blk_lt HX118.out; have x127 := zc 0 HX120.out rfl; have xl128 := blk_lt HX120.out; have x129 := zc 0 HX122.out rfl; have x130 := zc 1 HX122.out rfl; have x131 := zc 2 HX122.out rfl; have x132 := zc 3 HX122.out rfl; have x133 := zc 4 HX122.out rfl; have xl134 := blk_lt HX122.out; have hr := HR.out; clear HR; have HC138 := zh (show ∀ W, W = w112.alloc (.cells #[natV n116] 3) → Calls Tryz.prog 23 #[.pointer (some ⟨p, 0, none⟩), .int .i64 33, .string (tk K.T i).text, natV (tk K.T i).a, .slice (some ⟨w112.heap.size, 0, none⟩) 1 1] W (OneOk K w p o sn ns fp [] W fp113 (.mk 33 (tk K.T i).text (tk K.T i).a [t106]) j107) from fun W hW => by
      subst hW; exact lay_mid (L1 := []) (L2 := [t106]) (HS114.out.below (zbr.alloc znr _)) (by have := HRM.out; have := HI.out; have := HLT5.out; have := HLT82.out; have := HF109.out; simp only [ptsS, ptS, noneT, List.nil_append, List.cons_append, Nat.add_zero, Nat.zero_add]; omega) (by simp) 33 (tk K.T i).text (tk K.T i).a (KidsV.new w112 n116 [] _ rfl) (by simp only [HN117.out, nr, roots, ptsS, Nat.add_zero, Nat.add_assoc]))
     have HR := zh hr; clear hr
     try unfold natV
     go_wp2_with fail
     clear x125 xl126 x127 xl128 x129 x130 x131 x132 x133 xl134; refine (HC138.out _ rfl).mono ?_; rintro e w135 ⟨rfl, fp136, h1, h2⟩; obtain ⟨n139, hn⟩ : ∃ n, n = nr ns [] (.mk 33 (tk K.T i).text (tk K.T i).a [t106]) := ⟨_, rfl⟩; rw [← hn]; have HN140 := zh hn; have HS137 := zh (show St K w p j107 o sn ns fp [(.mk 33 (tk K.T i).text (tk K.T i).a [t106])] w135 fp136 from h1); have hbl : PaTo w112 fp113 w135 fp136 := (PaTo.of_below HS114.out.pa (zbr.alloc znr _)).trans h2; have HX141 := zh (Away.blkTo HX118.out HA119.out hbl); have HA142 := zh (HA119.out.to hbl); have HX143 := zh (Away.blkTo HX120.out HA121.out hbl); have HA144 := zh (HA121.out.to hbl); have HX145 := zh (Away.blkTo HX122.out HA123.out hbl); have HA146 := zh (HA123.out.to hbl); have HM147 := zh (HM124.out.to hbl); clear h1 h2 hn hbl; have x148 := zc 0 HX141.out rfl; have xl149 := blk_lt HX141.out; have x150 := zc 0 HX143.out rfl; have xl151 := blk_lt HX143.out; have x152 := zc 0 HX145.out rfl; have x153 := zc 1 HX145.out rfl; have x154 := zc 2 HX145.out rfl; have x155 := zc 3 HX145.out rfl; have x156 := zc 4 HX145.out rfl; have xl157 := blk_lt HX145.out; have hr := HR.out; clear HR; have HFI := zh (show Res.ok _ _ = r from Option.some.inj hr); clear hr; unfold natV; go_wp2
     go_ret
     exact (by rw [← HFI.out]; exact ⟨by rw [HN140.out]; simp only [nr, ptsS, Nat.add_zero]; rfl, fp136, by have h9 := HS137.out.pa; rw [flats_one] at h9; exact h9, by have h9 := HS137.out.pt; rw [HFP.out] at h9; exact h9, HM147.out, HX141.out, HA142.out, HX143.out, HA144.out⟩)
 ·rw [if_neg hk] at hr
  have HRR6 := zh (show Res.bad _ _ = r from (by exact Option.some.inj hr)); have HC8 := zh ((token_no HS0.out.pa HI.out 1 hk).mono fun e w' hh => (show OutB w p _ 70 e w' from ⟨hh.1, HS0.out.bad HB.out hh.2⟩)); clear hr hk; go_wp2_with fail
  refine HC8.out.mono ?_; rintro e wb ⟨rfl, hb⟩; have HB7 := zh hb; clear hb; unfold wrongP; go_wp2
  exact ⟨rfl, by rw [← HRR6.out]; exact ⟨rfl, HB7.out⟩⟩

def FieldInv (p b b2 mb : Nat) (acc : List PT) (w : World) (fp : List Nat) : Prop := SeenAt w p fp mb acc.length (acc.map PT.text) ∧ BoxInv b (.cells #[.pointer (some ⟨p, 0, none⟩)] 44 (0, 0)) p acc w fp ∧ BoxInv b2 (.cells #[.map (some mb)] 42 (0, 0)) p acc w fp
section
variable {K : PaK} {w0 w w' : World} {p i o b b2 mb : Nat} {sn : Fin 8 → Bool} {ns : List Nd} {fp0 fp : List Nat}
theorem field_stay (hm : mb < w.heap.size) (hb : b < w.heap.size) (hb2 : b2 < w.heap.size) : ∀ acc w1 w2 fp1 S, FieldInv p b b2 mb acc w1 fp1 → Fr S w1 w2 → (∀ x ∈ S, x ∈ fp1 ∨ w.heap.size ≤ x) → FieldInv p b b2 mb acc w2 fp1 :=
 fun acc w1 w2 fp1 S h hf hS => ⟨h.1.stay hm hf hS, box_stay hb h.2.1 hf hS, box_stay hb2 h.2.2 hf hS⟩
theorem field_item {f : Nat} (AP : ∀ g, g ≤ f → AllPart g) (ho : o ≤ 150) : ∀ g acc w1 i1 ns1 fp1, g ≤ f → PaAt K w1 p i1 o sn ns1 fp1 → Room K i1 ns1 → acc.length ≤ 900000 → FieldInv p b b2 mb acc w1 fp1 → ∀ r, (parF K.T g).one (Item.nt acc .field) o i1 = some r →
  Calls Tryz.prog 142 #[.pointer (some ⟨b, 0, none⟩), .pointer (some ⟨b2, 0, none⟩)] w1 (ItemX [mb] K w1 p o sn ns1 fp1 (FieldInv p b b2 mb) acc r) := by
 intro g acc w1 i1 ns1 fp1 hg h hroom hn hI r hr
 cases g with
 | zero => exact absurd hr (by simp [parF])
 | succ g =>
  refine (walk_field (f := g) (fun k hk => AP k (by omega)) h hroom ho hI.2.1.1 hI.2.1.2 hI.2.2.1 hI.2.2.2 hI.1 hn hr).mono ?_
  cases r with
  | bad a n => exact fun e w' hh => hh
  | ok t j =>
   rintro e w' ⟨rfl, fp', h1, h2, h3, h4, h5, h6, h7⟩; refine ⟨rfl, fp', h1, h2.fr, fun x hx => ?_, ⟨by rw [List.length_append, List.map_append]; exact h3, ⟨h4, h5⟩, ⟨h6, h7⟩⟩⟩
   rcases h2.new x hx with h8 | h8
   ·rcases List.mem_append.1 h8 with h9 | h9
    ·rw [List.mem_singleton.1 h9] at hx; exact absurd hx h3.away.2.2
    ·exact .inl h9
   ·exact .inr h8
theorem fields_ok {f : Nat} (AP : ∀ g, g ≤ f → AllPart g) (h : St K w0 p i o sn ns fp0 [] w fp) (hroom : i < K.T.length ∧ ns.length + ptsS [] + 4 * (K.T.length - i) ≤ 900000) (ho : o ≤ 150) (hI : FieldInv p b b2 mb [] w fp) (hmb : w0.heap.size ≤ mb) {l : List PT} {j : Nat} (hX : (parF K.T f).many (.until ⟨#[125]⟩ .field []) o i = some (.ok l j)) :
  Calls Tryz.prog 96 #[.pointer (some ⟨p, 0, none⟩), .string ⟨#[125]⟩, .func (.func 142) #[] #[.pointer (some ⟨b, 0, none⟩), .pointer (some ⟨b2, 0, none⟩)]] w (RowOk K w0 p o sn ns fp0 w ([mb] ++ fp) l j) := by
 refine (until_ownrow [mb] (fun x hx => by rw [List.mem_singleton.1 hx]; exact ⟨hI.1.away.1, hI.1.away.2.1⟩) (st_nil h) ⟨hroom.1, by simpa [ptsS] using hroom.2⟩ ho ⟨#[125]⟩ .field (fn := 142) (fst := #[]) (cap := #[.pointer (some ⟨b, 0, none⟩), .pointer (some ⟨b2, 0, none⟩)]) (args := #[.pointer (some ⟨b, 0, none⟩), .pointer (some ⟨b2, 0, none⟩)]) (fun W => rfl) rfl (FieldInv p b b2 mb) hI (field_stay hI.1.away.2.1 hI.2.1.2.2.1 hI.2.2.2.2.1) (field_item AP ho) hX).mono ?_
 rintro e w1 ⟨A, c, fp1, rfl, h1, h2, h3, h4⟩
 refine ⟨A, c, fp1, rfl, ⟨h1.pa, ?_, fun x hx => ?_⟩, h2, h3, fun g hg => Nat.le_trans h.pt.fr.size (h4 g hg)⟩
 ·exact h.pt.fr.trans h2.fr fun x hx => (List.mem_append.1 hx).elim (fun h9 => .inr (by rw [List.mem_singleton.1 h9]; exact hmb)) (h.pt.new x)
 ·rcases h2.new x hx with h8 | h8
  ·rcases List.mem_append.1 h8 with h9 | h9
   ·exact .inr (by rw [List.mem_singleton.1 h9]; exact hmb)
   ·exact h.pt.new x h9
  ·exact .inr (Nat.le_trans h.pt.fr.size h8)
theorem fields_bad {f : Nat} (AP : ∀ g, g ≤ f → AllPart g) (h : St K w0 p i o sn ns fp0 [] w fp) (hB : Beg w0 p fp0) (hroom : i < K.T.length ∧ ns.length + ptsS [] + 4 * (K.T.length - i) ≤ 900000) (ho : o ≤ 150) (hI : FieldInv p b b2 mb [] w fp) {a n : Nat} (hX : (parF K.T f).many (.until ⟨#[125]⟩ .field []) o i = some (.bad a n)) :
  Calls Tryz.prog 96 #[.pointer (some ⟨p, 0, none⟩), .string ⟨#[125]⟩, .func (.func 142) #[] #[.pointer (some ⟨b, 0, none⟩), .pointer (some ⟨b2, 0, none⟩)]] w (OutB w0 p a n) :=
 (until_own [mb] (fun x hx => by rw [List.mem_singleton.1 hx]; exact ⟨hI.1.away.1, hI.1.away.2.1⟩) (st_nil h) ⟨hroom.1, by simpa [ptsS] using hroom.2⟩ ho ⟨#[125]⟩ .field (fn := 142) (fst := #[]) (cap := #[.pointer (some ⟨b, 0, none⟩), .pointer (some ⟨b2, 0, none⟩)]) (args := #[.pointer (some ⟨b, 0, none⟩), .pointer (some ⟨b2, 0, none⟩)]) (fun W => rfl) rfl (FieldInv p b b2 mb) hI (field_stay hI.1.away.2.1 hI.2.1.2.2.1 hI.2.2.2.2.1) (field_item AP ho) hX).mono fun e w1 hh => ⟨hh.1, h.bad hB hh.2⟩
theorem away_cons {b mb : Nat} (h : Away w p fp b) (hne : b ≠ mb) : Away w p ([mb] ++ fp) b := ⟨h.1, h.2.1, fun e => (List.mem_append.1 e).elim (fun h9 => hne (List.mem_singleton.1 h9)) h.2.2⟩
end
theorem walk_shape {f : Nat} (AP : ∀ g, g ≤ f → AllPart g) (a : Nat) : Callee (f + 1) (.shape a) 129 (fun p => #[.pointer (some ⟨p, 0, none⟩), natV a]) := by
 intro K w p i o sn ns fp h hroom ho r hr
 change stepShape K.T (parF K.T f) a o i = some r at hr
 unfold stepShape at hr
 have HB := zh (Beg.of h)
 have HTK := zh h.env.tok
 have HRM := zh hroom.2
 have HI := zh hroom.1
 have HO := zh ho
 have HS0 := zh (St.start h)
 have HLN := zh h.env.len
 have HAP := zh AP
 clear h hroom ho AP
 have HR := zh hr
 clear hr
 go_enter Tryz.func129, Tryz.ntmps129
 have hr := HR.out
 clear HR
 have HR := zh hr
 clear hr
 go_upto_region 1 with fail
 obtain ⟨b1, hb⟩ : ∃ b, b = w.heap.size := ⟨_, rfl⟩
 rw [← hb]
 refine gen_wpT fun w2 hW => ?_
 have HX3 := zh (show w2.heap[b1]? = some (.cells #[.pointer (some ⟨p, 0, none⟩)] 44 (0, 0)) by rw [← hW]; exact heap_new_at _ _ _ hb.symm)
 have HBL6 := zh (show Below w.heap.size w w2 by rw [← hW]; exact zbr.alloc znr _)
 have HS5 := zh (HS0.out.below HBL6.out)
 have HA4 := zh (Away.new HS0.out.pa (Nat.le_of_eq hb.symm) (blk_lt HX3.out))
 have HBE7 := zh (show w.heap.size ≤ b1 from by have := HS0.out.pt.fr.size; omega)
 clear hW hb
 have x8 := zc 0 HX3.out rfl
 have xl9 := blk_lt HX3.out
 have hr := HR.out
 clear HR
 have HR := zh hr
 clear hr
 have hmm := @run_makeMap Tryz.prog
 go_upto_region 2 with fail
 clear hmm
 clear x8 xl9
 obtain ⟨mb, hmb⟩ : ∃ b, b = w2.heap.size := ⟨_, rfl⟩
 refine gen_wpT fun w10 hW => ?_
 have HBL11 := zh (show Below w2.heap.size w2 w10 by rw [← hW]; exact (zbr.alloc znr _).alloc (by simp) _)
 have HS14 := zh (HS5.out.below HBL11.out)
 have HX12 := zh (show w10.heap[mb + 1]? = some (.cells #[.map (some mb)] 42 (0, 0)) by rw [← hW, hmb]; exact heap_new_at _ _ _ (by simp))
 have HA13 := zh (Away.new HS5.out.pa (show w2.heap.size ≤ mb + 1 by omega) (blk_lt HX12.out))
 have HMB16 := zh (show w.heap.size ≤ mb from by have := HS5.out.pt.fr.size; omega)
 have HX17 := zh (below_blk HBL11.out HX3.out)
 have HA18 := zh (HA4.out.on HBL11.out.size)
 have HIV15 := zh (show FieldInv p b1 (mb + 1) mb [] w10 fp from ⟨⟨⟨_, by rw [← hW, hmb]; exact (World.ownsMap_made w2 _ _ _).alloc _, wmap_nil⟩, Away.new HS5.out.pa (Nat.le_of_eq hmb.symm) (by have := blk_lt HX12.out; omega)⟩, ⟨HX17.out, HA18.out⟩, ⟨HX12.out, HA13.out⟩⟩)
 have HNE := zh (show b1 ≠ mb from fun e9 => by have := blk_lt HX3.out; omega)
 rw [← hmb]
 clear hW hmb
 have x19 := zc 0 HX17.out rfl
 have xl20 := blk_lt HX17.out
 have x21 := zc 0 HX12.out rfl
 have xl22 := blk_lt HX12.out
 have hr := HR.out
 clear HR
 obtain ⟨X, hX⟩ : ∃ X, (parF K.T f).many (.until ⟨#[125]⟩ .field []) o i = X := ⟨_, rfl⟩
 rw [hX] at hr
 cases X with
 | none => exact absurd hr (by simp [Res.then])
 | some X =>
 cases X with
 | bad a n =>
  have HRR23 := zh (show Res.bad a n = r from by dsimp only [Res.then] at hr; exact Option.some.inj hr); have HC29 := zh (fields_bad HAP.out HS14.out HB.out ⟨HI.out, by have := HRM.out; have := HI.out; (try simp only [zS]); omega⟩ HO.out HIV15.out hX); clear hr hX; go_wp2_with fail
  refine HC29.out.mono ?_; rintro e wb ⟨rfl, hb⟩; have HB28 := zh hb; clear hb; unfold wrongP; go_wp2
  exact ⟨rfl, by rw [← HRR23.out]; exact ⟨rfl, HB28.out⟩⟩
 | ok l25 j26 =>
  dsimp only [Res.then] at hr
  have hft := (fit_all HTK.out f).many (.until ⟨#[125]⟩ .field []) o i HI.out; rw [hX] at hft; obtain ⟨f1, f2, f3⟩ := hft; simp only [ptsS, Nat.zero_add] at f3
  have HF27 := zh (And.intro f1 (And.intro f2 f3)); clear f1 f2 f3; have HC24 := zh (fields_ok HAP.out HS14.out ⟨HI.out, by have := HRM.out; have := HI.out; (try simp only [zS]); omega⟩ HO.out HIV15.out HMB16.out hX); clear hX; have HR := zh hr; clear hr; go_wp2_with fail
  clear x19 xl20 x21 xl22; refine HC24.out.mono ?_; rintro e w33 ⟨A30, c31, fp32, rfl, h1, h2, h3, h4⟩; obtain ⟨k37, hrl⟩ : ∃ k, k = l25.length := ⟨_, rfl⟩; rw [← hrl] at h3 h4 ⊢; have HS34 := zh h1; have HV35 := zh h3; have HGO36 := zh h4; have HK38 := zh hrl; have HX39 := zh (Away.blkTo HX17.out (away_cons HA18.out HNE.out) h2); have HA40 := zh ((away_cons HA18.out HNE.out).to h2); clear h1 h2 h3 h4 hrl; have x41 := zc 0 HX39.out rfl; have xl42 := blk_lt HX39.out; have hr := HR.out; clear HR; have HRR44 := zh (show Res.ok _ _ = r from Option.some.inj hr); clear hr; have HL43 := zh (lay_row HS34.out (by have h7 := (show ns.length + ptsS l25 + 4 * (K.T.length - j26) ≤ 900000 from by have := HRM.out; have := HI.out; have := HF27.out; (try simp only [zS]); omega); omega) 32 ⟨#[]⟩ a HV35.out); go_wp2_with fail
  refine HL43.out.mono ?_; rintro e wz ⟨rfl, fpz, h1, h2⟩; have HZ45 := zh (show OutP K w p o sn ns fp (.ok (.mk 32 ⟨#[]⟩ a l25) j26) (.returned _) wz from ⟨rfl, fpz, h1, h2⟩); clear h1 h2; go_wp2
  go_ret
  exact (by rw [← HRR44.out]; first | exact HZ45.out | (have h9 := HZ45.out; rw [List.append_assoc] at h9; exact h9))
end Go.Proofs.YthobobmbileekaaGreatDoor
