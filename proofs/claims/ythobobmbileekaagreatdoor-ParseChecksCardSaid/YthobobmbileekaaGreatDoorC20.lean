/-
 ParseChecks: part 20 of what the claim rests on.
-/
import Derived.Test.YthobobmbileekaaGreatDoorC01
import Derived.Test.YthobobmbileekaaGreatDoorC16
import Derived.Test.YthobobmbileekaaGreatDoorC17
import Derived.Deep.RegionHeld3
import Derived.Deep.AppendLies
set_option linter.unusedVariables false
set_option linter.unusedSimpArgs false
set_option maxHeartbeats 64000000
set_option maxRecDepth 100000
namespace Go.Proofs.YthobobmbileekaaGreatDoor
open Go.ChangeShapes Go.WideShapes Go.ChangeAt Go.RowKit

theorem base_con {K : PaK} {w : World} {p : Nat} (h : PaEnv K w p) (s : ByteArray) : Calls Tryz.prog 66 #[.string ⟨#[32, 97, 110, 121, 32, 98, 111, 111, 108, 32, 105, 110, 116, 32, 115, 116, 114, 105, 110, 103, 32, 116, 97, 98, 108, 101, 32, 116, 104, 114, 101, 97, 100, 32]⟩, .string ((⟨#[32]⟩ ++ s) ++ ⟨#[32]⟩)] w (RetB (.bool (baseL s)) w) := by
 obtain ⟨m, hm⟩ := h.max
 have h1 := Tryz.strings_Contains ⟨#[32, 97, 110, 121, 32, 98, 111, 111, 108, 32, 105, 110, 116, 32, 115, 116, 114, 105, 110, 103, 32, 116, 97, 98, 108, 101, 32, 116, 104, 114, 101, 97, 100, 32]⟩ ((⟨#[32]⟩ ++ s) ++ ⟨#[32]⟩) m w (by decide) hm.1
 refine h1.mono ?_
 rintro e w' ⟨rfl, rfl⟩
 unfold baseL
 exact ⟨rfl, zbr⟩
theorem walk_one {f : Nat} (AP : ∀ g, g ≤ f → AllPart g)  : Callee (f + 1) .one 112 (fun p => #[.pointer (some ⟨p, 0, none⟩)]) := by
 intro K w p i o sn ns fp h hroom ho r hr
 change stepOne K.T (parF K.T f) o i = some r at hr
 unfold stepOne at hr
 have HB := zh (Beg.of h)
 have HTK := zh h.env.tok
 have HRM := zh hroom.2
 have HI := zh hroom.1
 have HO := zh ho
 have HS0 := zh (St.start h)
 have HLN := zh h.env.len
 have HAP := zh AP
 clear h hroom ho AP
 have HR := zh hr
 clear hr
 go_enter Tryz.func112, Tryz.ntmps112
 have hr := HR.out
 clear HR
 dsimp only at hr
 have HR := zh hr
 clear hr
 go_upto_region 1 with fail
 obtain ⟨b1, hb⟩ : ∃ b, b = w.heap.size := ⟨_, rfl⟩
 rw [← hb]
 refine gen_wpT fun w2 hW => ?_
 have HX3 := zh (show w2.heap[b1]? = some (.cells #[.pointer (some ⟨p, 0, none⟩)] 44 (0, 0)) by rw [← hW]; exact heap_new_at _ _ _ hb.symm)
 have HBL6 := zh (show Below w.heap.size w w2 by rw [← hW]; exact zbr.alloc znr _)
 have HS5 := zh (HS0.out.below HBL6.out)
 have HA4 := zh (Away.new HS0.out.pa (Nat.le_of_eq hb.symm) (blk_lt HX3.out))
 have HBE7 := zh (show w.heap.size ≤ b1 from by have := HS0.out.pt.fr.size; omega)
 clear hW hb
 have x8 := zc 0 HX3.out rfl
 have xl9 := blk_lt HX3.out
 have hr := HR.out
 clear HR
 have HC12 := zh (now_any HS5.out.pa HI.out)
 have HR := zh hr
 clear hr
 go_wp2_with fail
 clear x8 xl9
 refine HC12.out.mono ?_
 rintro e w10 ⟨rfl, h2⟩
 have HS11 := zh (HS5.out.below h2)
 have HX13 := zh (below_blk h2 HX3.out)
 have HA14 := zh (HA4.out.on h2.size)
 clear h2
 have x15 := zc 0 HX13.out rfl
 have xl16 := blk_lt HX13.out
 have hr := HR.out
 clear HR
 unfold tkEnc
 have HR := zh hr
 clear hr
 go_upto_region 3 with fail
 clear x15 xl16
 obtain ⟨b17, hb⟩ : ∃ b, b = w10.heap.size := ⟨_, rfl⟩
 rw [← hb]
 refine gen_wpT fun w18 hW => ?_
 have HX19 := zh (show w18.heap[b17]? = some (.cells #[.int .i64 (tk K.T i).kind, .string (tk K.T i).text, .int .i64 ((tk K.T i).a : Int), .int .i64 ((tk K.T i).z : Int), .int .i64 (tk K.T i).n] 65 (0, 0)) by rw [← hW]; exact heap_new_at _ _ _ hb.symm)
 have HBL22 := zh (show Below w10.heap.size w10 w18 by rw [← hW]; exact zbr.alloc znr _)
 have HS21 := zh (HS11.out.below HBL22.out)
 have HA20 := zh (Away.new HS11.out.pa (Nat.le_of_eq hb.symm) (blk_lt HX19.out))
 have HBE23 := zh (show w.heap.size ≤ b17 from by have := HS11.out.pt.fr.size; omega)
 have HX24 := zh (below_blk HBL22.out HX13.out)
 have HA25 := zh (HA14.out.on HBL22.out.size)
 clear hW hb
 have x26 := zc 0 HX24.out rfl
 have xl27 := blk_lt HX24.out
 have x28 := zc 0 HX19.out rfl
 have x29 := zc 1 HX19.out rfl
 have x30 := zc 2 HX19.out rfl
 have x31 := zc 3 HX19.out rfl
 have x32 := zc 4 HX19.out rfl
 have xl33 := blk_lt HX19.out
 have hr := HR.out
 clear HR
 cases hb : isAny (tk K.T i) [⟨#[110, 105, 108]⟩] with
 | true =>
  rw [if_pos hb] at hr; have HLT34 := zh (any_lt HTK.out HI.out hb); have HC37 := zh (got_yes HS21.out.pa HI.out ⟨#[110, 105, 108]⟩ hb); clear hb; have HR := zh hr; clear hr; go_wp2_with fail
  clear x26 xl27 x28 x29 x30 x31 x32 xl33; refine HC37.out.mono ?_; rintro e w35 ⟨rfl, h1, h2⟩; have HS36 := zh (HS21.out.step h1 h2); have HX38 := zh (Away.blkTo HX24.out HA25.out h2); have HA39 := zh (HA25.out.to h2); have HX40 := zh (Away.blkTo HX19.out HA20.out h2); have HA41 := zh (HA20.out.to h2); clear h1 h2; have x42 := zc 0 HX38.out rfl; have xl43 := blk_lt HX38.out; have x44 := zc 0 HX40.out rfl; have x45 := zc 1 HX40.out rfl; have x46 := zc 2 HX40.out rfl; have x47 := zc 3 HX40.out rfl; have x48 := zc 4 HX40.out rfl; have xl49 := blk_lt HX40.out; have hr := HR.out; clear HR; have HRR51 := zh (show Res.ok _ _ = r from Option.some.inj hr); clear hr; have HL50 := zh (lay_fin (L := []) HS36.out (by have := HRM.out; have := HI.out; have := HLT34.out; (try simp only [ptsS, ptS, noneT, ptsS_append, List.nil_append, List.cons_append, Nat.add_zero, Nat.zero_add]); omega) (by simp) 31 (tk K.T i).text (tk K.T i).a (KidsV.nil w35) rfl); go_wp2_with fail
  refine HL50.out.mono ?_; rintro e wz ⟨rfl, fpz, h1, h2⟩; have HZ52 := zh (show OutP K w p o sn ns fp (.ok (.mk 31 (tk K.T i).text (tk K.T i).a []) (i + 1)) (.returned _) wz from ⟨rfl, fpz, h1, h2⟩); clear h1 h2; go_wp2
  go_ret
  exact (by rw [← HRR51.out]; exact HZ52.out)
 | false =>
  rw [if_neg (by rw [hb]; decide)] at hr; have HC55 := zh (got_no HS21.out.pa HI.out ⟨#[110, 105, 108]⟩ hb); clear hb; have HR := zh hr; clear hr; go_wp2_with fail
  clear x26 xl27 x28 x29 x30 x31 x32 xl33; refine HC55.out.mono ?_; rintro e w53 ⟨rfl, h1, h2⟩; have HS54 := zh (HS21.out.below h2); have HX56 := zh (below_blk h2 HX24.out); have HA57 := zh (HA25.out.on h2.size); have HX58 := zh (below_blk h2 HX19.out); have HA59 := zh (HA20.out.on h2.size); clear h2 h1; have x60 := zc 0 HX56.out rfl; have xl61 := blk_lt HX56.out; have x62 := zc 0 HX58.out rfl; have x63 := zc 1 HX58.out rfl; have x64 := zc 2 HX58.out rfl; have x65 := zc 3 HX58.out rfl; have x66 := zc 4 HX58.out rfl; have xl67 := blk_lt HX58.out; have hr := HR.out; clear HR
  cases hb : isAny (tk K.T i) [⟨#[123]⟩] with
  | true =>
   rw [if_pos hb] at hr; have HLT68 := zh (any_lt HTK.out HI.out hb); have HC71 := zh (got_yes HS54.out.pa HI.out ⟨#[123]⟩ hb); clear hb; have HR := zh hr; clear hr; go_wp2_with fail
   clear x60 xl61 x62 x63 x64 x65 x66 xl67; refine HC71.out.mono ?_; rintro e w69 ⟨rfl, h1, h2⟩; have HS70 := zh (HS54.out.step h1 h2); have HX72 := zh (Away.blkTo HX56.out HA57.out h2); have HA73 := zh (HA57.out.to h2); have HX74 := zh (Away.blkTo HX58.out HA59.out h2); have HA75 := zh (HA59.out.to h2); clear h1 h2; have x76 := zc 0 HX72.out rfl; have xl77 := blk_lt HX72.out; have x78 := zc 0 HX74.out rfl; have x79 := zc 1 HX74.out rfl; have x80 := zc 2 HX74.out rfl; have x81 := zc 3 HX74.out rfl; have x82 := zc 4 HX74.out rfl; have xl83 := blk_lt HX74.out; have hr := HR.out; clear HR; unfold deeper at hr; by_cases hdp : 150 < o + 1
   ·rw [if_pos hdp] at hr
    have HRR88 := zh (show Res.bad _ _ = r from (by exact Option.some.inj hr)); have HC90 := zh ((within_deep HS70.out.pa hdp HO.out ((tk K.T i).a) (.func (.func 128) #[] #[.pointer (some ⟨b1, 0, none⟩), .pointer (some ⟨b17, 0, none⟩)])).mono fun e w' hh => (show OutB w p _ 61 e w' from ⟨hh.1, HS70.out.bad HB.out hh.2⟩)); clear hr hdp; go_wp2_with fail
    refine HC90.out.mono ?_; rintro e wb ⟨rfl, hb⟩; have HB89 := zh hb; clear hb; unfold wrongP; go_wp2
    exact ⟨rfl, by rw [← HRR88.out]; exact ⟨rfl, HB89.out⟩⟩
   ·rw [if_neg hdp] at hr
    obtain ⟨X, hX⟩ : ∃ X, (parF K.T f).one (.shape ((tk K.T i).a)) (o + 1) (i + 1) = X := ⟨_, rfl⟩; dsimp only at hr
    rw [hX] at hr; have HDP := zh hdp; clear hdp
    cases X with
    | none => exact absurd hr (by simp [Res.then])
    | some X =>
    cases X with
    | bad a n =>
     have HRR86 := zh (show Res.bad a n = r from (by exact Option.some.inj hr)); have HC92 := zh (within_no (fn := 128) (fst := #[]) (cap := #[.pointer (some ⟨b1, 0, none⟩), .pointer (some ⟨b17, 0, none⟩)]) (args := #[.pointer (some ⟨b1, 0, none⟩), .pointer (some ⟨b17, 0, none⟩)]) HS70.out HB.out HDP.out ((tk K.T i).a) (fun W => rfl) rfl hX (fun w1 h1 h2 r hr => (wrap_one1 (tk K.T i) ((HAP.out f (Nat.le_refl f)).shape ((tk K.T i).a))) K w1 p (i + 1) (o + 1) sn _ fp b1 b17 h1 ⟨HLT68.out, by rw [len_more]; exact by have := HRM.out; have := HI.out; have := HLT68.out; (try simp only [zS]); omega⟩ (by have := HDP.out; omega) (Away.blkTo HX72.out HA73.out h2) (HA73.out.to h2) (Away.blkTo HX74.out HA75.out h2) (HA75.out.to h2) r hr)); clear hr hX; go_wp2_with fail
     refine HC92.out.mono ?_; rintro e wb ⟨rfl, hb⟩; have HB91 := zh hb; clear hb; unfold wrongP; go_wp2
     exact ⟨rfl, by rw [← HRR86.out]; exact ⟨rfl, HB91.out⟩⟩
    | ok t84 j85 =>
     have hft := (fit_all HTK.out f).one (.shape ((tk K.T i).a)) (o + 1) (i + 1) HLT68.out; rw [hX] at hft; obtain ⟨f1, f2, f3⟩ := hft; simp only [lazy1, sl1, ex1, zf] at f2 f3
     have HF87 := zh (And.intro f1 (And.intro f2 f3)); clear f1 f2 f3; have HC96 := zh (within_ok (fn := 128) (fst := #[]) (cap := #[.pointer (some ⟨b1, 0, none⟩), .pointer (some ⟨b17, 0, none⟩)]) (args := #[.pointer (some ⟨b1, 0, none⟩), .pointer (some ⟨b17, 0, none⟩)]) HS70.out HDP.out ((tk K.T i).a) (fun W => rfl) rfl hX (fun w1 h1 h2 r hr => (wrap_one1 (tk K.T i) ((HAP.out f (Nat.le_refl f)).shape ((tk K.T i).a))) K w1 p (i + 1) (o + 1) sn _ fp b1 b17 h1 ⟨HLT68.out, by rw [len_more]; exact by have := HRM.out; have := HI.out; have := HLT68.out; (try simp only [zS]); omega⟩ (by have := HDP.out; omega) (Away.blkTo HX72.out HA73.out h2) (HA73.out.to h2) (Away.blkTo HX74.out HA75.out h2) (HA75.out.to h2) r hr)); clear hX; have HR := zh hr; clear hr; go_wp2_with fail
     clear x76 xl77 x78 x79 x80 x81 x82 xl83; refine HC96.out.mono ?_; rintro e w93 ⟨rfl, fp94, h1, h2⟩; obtain ⟨n97, hn⟩ : ∃ n, n = nr ns [] t84 := ⟨_, rfl⟩; rw [← hn]; have HN98 := zh hn; have HS95 := zh (show St K w p j85 o sn ns fp [t84] w93 fp94 from h1); have HX99 := zh (Away.blkTo HX72.out HA73.out h2); have HA100 := zh (HA73.out.to h2); have HX101 := zh (Away.blkTo HX74.out HA75.out h2); have HA102 := zh (HA75.out.to h2); clear h1 h2 hn; have x103 := zc 0 HX99.out rfl; have xl104 := blk_lt HX99.out; have x105 := zc 0 HX101.out rfl; have x106 := zc 1 HX101.out rfl; have x107 := zc 2 HX101.out rfl; have x108 := zc 3 HX101.out rfl; have x109 := zc 4 HX101.out rfl; have xl110 := blk_lt HX101.out; have hr := HR.out; clear HR; have HRR111 := zh (show Res.ok _ _ = r from Option.some.inj hr); clear hr; go_wp2
     go_ret
     exact (by rw [← HRR111.out, HN98.out]; exact HS95.out.out)
  | false =>
   rw [if_neg (by rw [hb]; decide)] at hr; have HC114 := zh (got_no HS54.out.pa HI.out ⟨#[123]⟩ hb); clear hb; have HR := zh hr; clear hr; go_wp2_with fail
   clear x60 xl61 x62 x63 x64 x65 x66 xl67; refine HC114.out.mono ?_; rintro e w112 ⟨rfl, h1, h2⟩; have HS113 := zh (HS54.out.below h2); have HX115 := zh (below_blk h2 HX56.out); have HA116 := zh (HA57.out.on h2.size); have HX117 := zh (below_blk h2 HX58.out); have HA118 := zh (HA59.out.on h2.size); clear h2 h1; have x119 := zc 0 HX115.out rfl; have xl120 := blk_lt HX115.out; have x121 := zc 0 HX117.out rfl; have x122 := zc 1 HX117.out rfl; have x123 := zc 2 HX117.out rfl; have x124 := zc 3 HX117.out rfl; have x125 := zc 4 HX117.out rfl; have xl126 := blk_lt HX117.out; have hr := HR.out; clear HR; by_cases h1 : (tk K.T i).kind = 1 ∧ baseL (tk K.T i).text = true
   ·rw [if_pos h1] at hr
    have q1 : ((tk K.T i).kind != 1) = false := by rw [h1.1]; rfl
    have HBS := zh h1.2; have HLT1 := zh (tk_lt HTK.out HI.out (by rw [h1.1]; decide)); clear h1; have hz0 : (tk K.T i).text.size ≤ 200000 := HS113.out.pa.env.txt i; have hz1 : ¬ 9223372036854775807 < 1 + (tk K.T i).text.size := by omega
    have hz2 : ¬ 9223372036854775807 < 1 + (tk K.T i).text.size + 1 := by omega
    clear hz0; have HC129 := zh (base_con HS113.out.pa.env (tk K.T i).text); have HR := zh hr; clear hr; go_wp2_with fail
    clear x119 xl120 x121 x122 x123 x124 x125 xl126; refine HC129.out.mono ?_; rintro e w127 ⟨rfl, h2⟩; have HS128 := zh (HS113.out.below h2); have HX130 := zh (below_blk h2 HX115.out); have HA131 := zh (HA116.out.on h2.size); have HX132 := zh (below_blk h2 HX117.out); have HA133 := zh (HA118.out.on h2.size); clear h2; have x134 := zc 0 HX130.out rfl; have xl135 := blk_lt HX130.out; have x136 := zc 0 HX132.out rfl; have x137 := zc 1 HX132.out rfl; have x138 := zc 2 HX132.out rfl; have x139 := zc 3 HX132.out rfl; have x140 := zc 4 HX132.out rfl; have xl141 := blk_lt HX132.out; have hr := HR.out; clear HR; rw [HBS.out]; obtain ⟨nv, l, hm⟩ := HS128.out.pa.mem; obtain ⟨-, y146, -, -, -, cf⟩ := pa_cell hm.blk; have y147 := cf 1; have y148 := blk_lt hm.blk; clear hm cf; obtain ⟨i143, hi1⟩ : ∃ ix, ix = i + 1 := ⟨_, rfl⟩; have y149 : (i : Int) + 1 = (i143 : Int) := by omega
    have y150 : i143 ≤ 200002 := by have := HLT1.out; have := HLN.out; omega
    have y151 : IntKind.i64.wrap (i143 : Int) = (i143 : Int) := IntWalk.i64_in _ (by omega)
    try rw [← hi1] at hr
    have HIE144 := zh hi1; have HLT145 := zh (show i143 < K.T.length by rw [hi1]; exact HLT1.out); clear hi1 nv l; have hst := HS128.out.pa.setI i143; have hto : PaTo w127 fp (w127.setCell ⟨p, 1, none⟩ (.int .i64 (i143 : Int))) fp := hst.2; have HS142 := zh (show St K w p i143 o sn ns fp [] (w127.setCell ⟨p, 1, none⟩ (.int .i64 (i143 : Int))) fp from HS128.out.step hst.1 hto); have HX152 := zh (Away.blkTo HX130.out HA131.out hto); have HA153 := zh (HA131.out.to hto); have HX154 := zh (Away.blkTo HX132.out HA133.out hto); have HA155 := zh (HA133.out.to hto); clear hst hto; have x156 := zc 0 HX152.out rfl; have xl157 := blk_lt HX152.out; have x158 := zc 0 HX154.out rfl; have x159 := zc 1 HX154.out rfl; have x160 := zc 2 HX154.out rfl; have x161 := zc 3 HX154.out rfl; have x162 := zc 4 HX154.out rfl; have xl163 := blk_lt HX154.out; have HRR165 := zh (show Res.ok _ _ = r from Option.some.inj hr); clear hr; have HL164 := zh (lay_fin (L := []) HS142.out (by have := HRM.out; have := HI.out; have := HLT1.out; have := HIE144.out; have := HLT145.out; (try simp only [ptsS, ptS, noneT, ptsS_append, List.nil_append, List.cons_append, Nat.add_zero, Nat.zero_add]); omega) (by simp) 31 (tk K.T i).text (tk K.T i).a (KidsV.nil (w127.setCell ⟨p, 1, none⟩ (.int .i64 (i143 : Int)))) rfl); go_wp2_with fail
    refine HL164.out.mono ?_; rintro e wz ⟨rfl, fpz, h1, h2⟩; have HZ166 := zh (show OutP K w p o sn ns fp (.ok (.mk 31 (tk K.T i).text (tk K.T i).a []) i143) (.returned _) wz from ⟨rfl, fpz, h1, h2⟩); clear h1 h2; go_wp2
    go_ret
    exact (by rw [← HRR165.out]; exact HZ166.out)
   ·rw [if_neg h1] at hr
    by_cases k1 : (tk K.T i).kind = 1
    ·have q1 : ((tk K.T i).kind != 1) = false := by rw [k1]; rfl
     have HBS := zh (show baseL (tk K.T i).text = false by cases e9 : baseL (tk K.T i).text with
      | true => exact absurd ⟨k1, e9⟩ h1
      | false => rfl)
     clear h1 k1; have hz0 : (tk K.T i).text.size ≤ 200000 := HS113.out.pa.env.txt i; have hz1 : ¬ 9223372036854775807 < 1 + (tk K.T i).text.size := by omega
     have hz2 : ¬ 9223372036854775807 < 1 + (tk K.T i).text.size + 1 := by omega
     clear hz0; have HC169 := zh (base_con HS113.out.pa.env (tk K.T i).text); have HR := zh hr; clear hr; go_wp2_with fail
     clear x119 xl120 x121 x122 x123 x124 x125 xl126; refine HC169.out.mono ?_; rintro e w167 ⟨rfl, h2⟩; have HS168 := zh (HS113.out.below h2); have HX170 := zh (below_blk h2 HX115.out); have HA171 := zh (HA116.out.on h2.size); have HX172 := zh (below_blk h2 HX117.out); have HA173 := zh (HA118.out.on h2.size); clear h2; have x174 := zc 0 HX170.out rfl; have xl175 := blk_lt HX170.out; have x176 := zc 0 HX172.out rfl; have x177 := zc 1 HX172.out rfl; have x178 := zc 2 HX172.out rfl; have x179 := zc 3 HX172.out rfl; have x180 := zc 4 HX172.out rfl; have xl181 := blk_lt HX172.out; have hr := HR.out; clear HR; rw [HBS.out]; have HRR182 := zh (show Res.bad (tk K.T i).a 70 = r from (by exact Option.some.inj hr)); have HC184 := zh ((show Calls Tryz.prog 44 #[.pointer (some ⟨p, 0, none⟩), natV (tk K.T i).a] w167 (OutB w p (tk K.T i).a 70) from (no_any _ _ _).mono fun e w' hh => ⟨hh.1, by rw [← hh.2]; exact HS168.out.bad HB.out zbr⟩)); clear hr; go_wp2_with fail
     refine HC184.out.mono ?_; rintro e wb ⟨rfl, hb⟩; have HB183 := zh hb; clear hb; unfold wrongP; go_wp2
     exact ⟨rfl, by rw [← HRR182.out]; exact ⟨rfl, HB183.out⟩⟩
    ·have q1 : ((tk K.T i).kind != 1) = true := bne_iff_ne.2 k1
     clear h1 k1; have HRR185 := zh (show Res.bad (tk K.T i).a 70 = r from (by exact Option.some.inj hr)); have HC187 := zh ((show Calls Tryz.prog 44 #[.pointer (some ⟨p, 0, none⟩), natV (tk K.T i).a] w112 (OutB w p (tk K.T i).a 70) from (no_any _ _ _).mono fun e w' hh => ⟨hh.1, by rw [← hh.2]; exact HS113.out.bad HB.out zbr⟩)); clear hr; go_wp2_with fail
     refine HC187.out.mono ?_; rintro e wb ⟨rfl, hb⟩; have HB186 := zh hb; clear hb; unfold wrongP; go_wp2
     exact ⟨rfl, by rw [← HRR185.out]; exact ⟨rfl, HB186.out⟩⟩

theorem walk_kind {f : Nat} (AP : ∀ g, g ≤ f → AllPart g)  : Callee (f + 1) .kind 95 (fun p => #[.pointer (some ⟨p, 0, none⟩)]) := by
 intro K w p i o sn ns fp h hroom ho r hr
 change stepKind K.T (parF K.T f) o i = some r at hr
 unfold stepKind at hr
 have HB := zh (Beg.of h)
 have HTK := zh h.env.tok
 have HRM := zh hroom.2
 have HI := zh hroom.1
 have HO := zh ho
 have HS0 := zh (St.start h)
 have HLN := zh h.env.len
 have HAP := zh AP
 clear h hroom ho AP
 have HR := zh hr
 clear hr
 go_enter Tryz.func95, Tryz.ntmps95
 have hr := HR.out
 clear HR
 have HR := zh hr
 clear hr
 go_upto_region 1 with fail
 obtain ⟨b1, hb⟩ : ∃ b, b = w.heap.size := ⟨_, rfl⟩
 rw [← hb]
 refine gen_wpT fun w2 hW => ?_
 have HX3 := zh (show w2.heap[b1]? = some (.cells #[.pointer (some ⟨p, 0, none⟩)] 44 (0, 0)) by rw [← hW]; exact heap_new_at _ _ _ hb.symm)
 have HBL6 := zh (show Below w.heap.size w w2 by rw [← hW]; exact zbr.alloc znr _)
 have HS5 := zh (HS0.out.below HBL6.out)
 have HA4 := zh (Away.new HS0.out.pa (Nat.le_of_eq hb.symm) (blk_lt HX3.out))
 have HBE7 := zh (show w.heap.size ≤ b1 from by have := HS0.out.pt.fr.size; omega)
 clear hW hb
 have x8 := zc 0 HX3.out rfl
 have xl9 := blk_lt HX3.out
 have hr := HR.out
 clear HR
 have HC12 := zh (at_any HS5.out.pa HI.out)
 have HR := zh hr
 clear hr
 go_wp2_with fail
 clear x8 xl9
 refine HC12.out.mono ?_
 rintro e w10 ⟨rfl, h2⟩
 have HS11 := zh (HS5.out.below h2)
 have HX13 := zh (below_blk h2 HX3.out)
 have HA14 := zh (HA4.out.on h2.size)
 clear h2
 have x15 := zc 0 HX13.out rfl
 have xl16 := blk_lt HX13.out
 have hr := HR.out
 clear HR
 unfold natV
 have HR := zh hr
 clear hr
 go_upto_region 2 with fail
 clear x15 xl16
 obtain ⟨b17, hb⟩ : ∃ b, b = w10.heap.size := ⟨_, rfl⟩
 rw [← hb]
 refine gen_wpT fun w18 hW => ?_
 have HX19 := zh (show w18.heap[b17]? = some (.cells #[natV (tk K.T i).a] 3 (0, 0)) by rw [← hW]; exact heap_new_at _ _ _ hb.symm)
 have HBL22 := zh (show Below w10.heap.size w10 w18 by rw [← hW]; exact zbr.alloc znr _)
 have HS21 := zh (HS11.out.below HBL22.out)
 have HA20 := zh (Away.new HS11.out.pa (Nat.le_of_eq hb.symm) (blk_lt HX19.out))
 have HBE23 := zh (show w.heap.size ≤ b17 from by have := HS11.out.pt.fr.size; omega)
 have HX24 := zh (below_blk HBL22.out HX13.out)
 have HA25 := zh (HA14.out.on HBL22.out.size)
 clear hW hb
 have x26 := zc 0 HX24.out rfl
 have xl27 := blk_lt HX24.out
 have x28 := zc 0 HX19.out rfl
 have xl29 := blk_lt HX19.out
 have hr := HR.out
 clear HR
 try dsimp only at hr
 cases hb : isAny (tk K.T i) [⟨#[40]⟩] with
 | true =>
  rw [if_pos hb] at hr; have HLT30 := zh (any_lt HTK.out HI.out hb); have HC33 := zh (got_yes HS21.out.pa HI.out ⟨#[40]⟩ hb); clear hb; have HR := zh hr; clear hr; go_wp2_with fail
  clear x26 xl27 x28 xl29; refine HC33.out.mono ?_; rintro e w31 ⟨rfl, h1, h2⟩; have HS32 := zh (HS21.out.step h1 h2); have HX34 := zh (Away.blkTo HX24.out HA25.out h2); have HA35 := zh (HA25.out.to h2); have HX36 := zh (Away.blkTo HX19.out HA20.out h2); have HA37 := zh (HA20.out.to h2); clear h1 h2; have x38 := zc 0 HX34.out rfl; have xl39 := blk_lt HX34.out; have x40 := zc 0 HX36.out rfl; have xl41 := blk_lt HX36.out; have hr := HR.out; clear HR; unfold deeper at hr; by_cases hdp : 150 < o + 1
  ·rw [if_pos hdp] at hr
   have HRR46 := zh (show Res.bad _ _ = r from (by exact Option.some.inj hr)); have HC48 := zh ((within_deep HS32.out.pa hdp HO.out ((tk K.T i).a) (.func (.func 111) #[] #[.pointer (some ⟨b1, 0, none⟩), .pointer (some ⟨b17, 0, none⟩)])).mono fun e w' hh => (show OutB w p _ 61 e w' from ⟨hh.1, HS32.out.bad HB.out hh.2⟩)); clear hr hdp; go_wp2_with fail
   refine HC48.out.mono ?_; rintro e wb ⟨rfl, hb⟩; have HB47 := zh hb; clear hb; unfold wrongP; go_wp2
   exact ⟨rfl, by rw [← HRR46.out]; exact ⟨rfl, HB47.out⟩⟩
  ·rw [if_neg hdp] at hr
   obtain ⟨X, hX⟩ : ∃ X, (parF K.T f).one (.kindF ((tk K.T i).a)) (o + 1) (i + 1) = X := ⟨_, rfl⟩; dsimp only at hr
   rw [hX] at hr; have HDP := zh hdp; clear hdp
   cases X with
   | none => exact absurd hr (by simp [Res.then])
   | some X =>
   cases X with
   | bad a n =>
    have HRR44 := zh (show Res.bad a n = r from (by exact Option.some.inj hr)); have HC50 := zh (within_no (fn := 111) (fst := #[]) (cap := #[.pointer (some ⟨b1, 0, none⟩), .pointer (some ⟨b17, 0, none⟩)]) (args := #[.pointer (some ⟨b1, 0, none⟩), .pointer (some ⟨b17, 0, none⟩)]) HS32.out HB.out HDP.out ((tk K.T i).a) (fun W => rfl) rfl hX (fun w1 h1 h2 r hr => ((HAP.out f (Nat.le_refl f)).kindC ((tk K.T i).a)) K w1 p (i + 1) (o + 1) sn _ fp b1 b17 h1 ⟨HLT30.out, by rw [len_more]; exact by have := HRM.out; have := HI.out; have := HLT30.out; (try simp only [zS]); omega⟩ (by have := HDP.out; omega) (Away.blkTo HX34.out HA35.out h2) (HA35.out.to h2) (Away.blkTo HX36.out HA37.out h2) (HA37.out.to h2) r hr)); clear hr hX; go_wp2_with fail
    refine HC50.out.mono ?_; rintro e wb ⟨rfl, hb⟩; have HB49 := zh hb; clear hb; unfold wrongP; go_wp2
    exact ⟨rfl, by rw [← HRR44.out]; exact ⟨rfl, HB49.out⟩⟩
   | ok t42 j43 =>
    have hft := (fit_all HTK.out f).one (.kindF ((tk K.T i).a)) (o + 1) (i + 1) HLT30.out; rw [hX] at hft; obtain ⟨f1, f2, f3⟩ := hft; simp only [lazy1, sl1, ex1, zf] at f2 f3
    have HF45 := zh (And.intro f1 (And.intro f2 f3)); clear f1 f2 f3; have HC54 := zh (within_ok (fn := 111) (fst := #[]) (cap := #[.pointer (some ⟨b1, 0, none⟩), .pointer (some ⟨b17, 0, none⟩)]) (args := #[.pointer (some ⟨b1, 0, none⟩), .pointer (some ⟨b17, 0, none⟩)]) HS32.out HDP.out ((tk K.T i).a) (fun W => rfl) rfl hX (fun w1 h1 h2 r hr => ((HAP.out f (Nat.le_refl f)).kindC ((tk K.T i).a)) K w1 p (i + 1) (o + 1) sn _ fp b1 b17 h1 ⟨HLT30.out, by rw [len_more]; exact by have := HRM.out; have := HI.out; have := HLT30.out; (try simp only [zS]); omega⟩ (by have := HDP.out; omega) (Away.blkTo HX34.out HA35.out h2) (HA35.out.to h2) (Away.blkTo HX36.out HA37.out h2) (HA37.out.to h2) r hr)); clear hX; have HR := zh hr; clear hr; go_wp2_with fail
    clear x38 xl39 x40 xl41; refine HC54.out.mono ?_; rintro e w51 ⟨rfl, fp52, h1, h2⟩; obtain ⟨n55, hn⟩ : ∃ n, n = nr ns [] t42 := ⟨_, rfl⟩; rw [← hn]; have HN56 := zh hn; have HS53 := zh (show St K w p j43 o sn ns fp [t42] w51 fp52 from h1); have HX57 := zh (Away.blkTo HX34.out HA35.out h2); have HA58 := zh (HA35.out.to h2); have HX59 := zh (Away.blkTo HX36.out HA37.out h2); have HA60 := zh (HA37.out.to h2); clear h1 h2 hn; have x61 := zc 0 HX57.out rfl; have xl62 := blk_lt HX57.out; have x63 := zc 0 HX59.out rfl; have xl64 := blk_lt HX59.out; have hr := HR.out; clear HR; have HRR65 := zh (show Res.ok _ _ = r from Option.some.inj hr); clear hr; go_wp2
    go_ret
    exact (by rw [← HRR65.out, HN56.out]; exact HS53.out.out)
 | false =>
  rw [if_neg (by rw [hb]; decide)] at hr; have HC68 := zh (got_no HS21.out.pa HI.out ⟨#[40]⟩ hb); clear hb; have HR := zh hr; clear hr; go_wp2_with fail
  clear x26 xl27 x28 xl29; refine HC68.out.mono ?_; rintro e w66 ⟨rfl, h1, h2⟩; have HS67 := zh (HS21.out.below h2); have HX69 := zh (below_blk h2 HX24.out); have HA70 := zh (HA25.out.on h2.size); have HX71 := zh (below_blk h2 HX19.out); have HA72 := zh (HA20.out.on h2.size); clear h2 h1; have x73 := zc 0 HX69.out rfl; have xl74 := blk_lt HX69.out; have x75 := zc 0 HX71.out rfl; have xl76 := blk_lt HX71.out; have hr := HR.out; clear HR; obtain ⟨X, hX⟩ : ∃ X, (parF K.T f).one (.one) o i = X := ⟨_, rfl⟩; rw [hX] at hr
  cases X with
  | none => exact absurd hr (by simp [Res.then])
  | some X =>
  cases X with
  | bad a n =>
   have HRR79 := zh (show Res.bad a n = r from (by dsimp only [Res.then] at hr; exact Option.some.inj hr)); have HC82 := zh (call_bad ((HAP.out f (Nat.le_refl f)).one) HS67.out HB.out ⟨HI.out, by have := HRM.out; have := HI.out; (try simp only [zS]); omega⟩ HO.out hX); clear hr hX; go_wp2_with fail
   refine HC82.out.mono ?_; rintro e wb ⟨rfl, hb⟩; have HB81 := zh hb; clear hb; unfold wrongP; go_wp2
   exact ⟨rfl, by rw [← HRR79.out]; exact ⟨rfl, HB81.out⟩⟩
  | ok t77 j78 =>
   have hft := (fit_all HTK.out f).one (.one) o i HI.out; rw [hX] at hft; obtain ⟨f1, f2, f3⟩ := hft; simp only [lazy1, sl1, ex1, zf] at f2 f3
   have HF80 := zh (And.intro f1 (And.intro f2 f3)); clear f1 f2 f3; have HC86 := zh (call_ok ((HAP.out f (Nat.le_refl f)).one) HS67.out ⟨HI.out, by have := HRM.out; have := HI.out; (try simp only [zS]); omega⟩ HO.out hX); dsimp only [Res.then] at hr
   clear hX; have HR := zh hr; clear hr; go_wp2_with fail
   clear x73 xl74 x75 xl76; refine HC86.out.mono ?_; rintro e w83 ⟨rfl, fp84, h1, h2⟩; obtain ⟨n87, hn⟩ : ∃ n, n = nr ns [] t77 := ⟨_, rfl⟩; rw [← hn]; have HN88 := zh hn; have HS85 := zh (show St K w p j78 o sn ns fp [t77] w83 fp84 from h1); have HX89 := zh (Away.blkTo HX69.out HA70.out h2); have HA90 := zh (HA70.out.to h2); have HX91 := zh (Away.blkTo HX71.out HA72.out h2); have HA92 := zh (HA72.out.to h2); clear h1 h2 hn; have x93 := zc 0 HX89.out rfl; have xl94 := blk_lt HX89.out; have x95 := zc 0 HX91.out rfl; have xl96 := blk_lt HX91.out; have hr := HR.out; clear HR; obtain ⟨X, hX⟩ : ∃ X, (parF K.T f).many (.ones [t77]) o j78 = X := ⟨_, rfl⟩; rw [hX] at hr
   cases X with
   | none => exact absurd hr (by simp [Res.then])
   | some r1 =>
   have HX := zh hX; have HRT := zh hr; clear hX hr; have HI1 := zh (Ints.one HS85.out.pa n87); have HSA := zh (HS85.out.below (zbr.alloc znr (.cells #[.int .i64 (n87 : Int)] 3))); have HY1 := zh (below_blk (zbr.alloc znr (.cells #[.int .i64 (n87 : Int)] 3) : Below w83.heap.size w83 (w83.alloc (.cells #[.int .i64 (n87 : Int)] 3))) HX89.out); have HY2 := zh (below_blk (zbr.alloc znr (.cells #[.int .i64 (n87 : Int)] 3) : Below w83.heap.size w83 (w83.alloc (.cells #[.int .i64 (n87 : Int)] 3))) HX91.out); have HZ1 := zh (HA90.out.on (zbr.alloc znr (.cells #[.int .i64 (n87 : Int)] 3) : Below w83.heap.size w83 (w83.alloc (.cells #[.int .i64 (n87 : Int)] 3))).size); have HZ2 := zh (HA92.out.on (zbr.alloc znr (.cells #[.int .i64 (n87 : Int)] 3) : Below w83.heap.size w83 (w83.alloc (.cells #[.int .i64 (n87 : Int)] 3))).size); unfold natV; go_wp2_with fail
   clear x93 xl94 x95 xl96
   go_loopw [4] (fun lv wr => ∃ (acc : List PT) (i1 : Nat) (fp1 : List Nat) (f1 : Nat), Hid (St K w p i1 o sn ns fp acc wr fp1) ∧ Hid (Ints wr p fp1 lv (roots ns.length acc)) ∧ Hid (∀ g', lv.ownBlock = some g' → b17 + 1 ≤ g') ∧ Hid (f1 ≤ f ∧ (parF K.T f1).many (.ones acc) o i1 = some r1) ∧ Hid (i1 < K.T.length ∧ ns.length + ptsS acc + 4 * (K.T.length - i1) ≤ 900000) ∧ Hid (wr.heap[b1]? = some (.cells #[.pointer (some ⟨p, 0, none⟩)] 44 (0, 0)) ∧ Away wr p fp1 b1 ∧ wr.heap[b17]? = some (.cells #[natV (tk K.T i).a] 3 (0, 0)) ∧ Away wr p fp1 b17) ∧ Hid (0 < acc.length)) (fun lv _ => 900001 - sliceLen lv)
   case atStart => exact ⟨[t77], j78, fp84, f, HSA, zh (by have h9 := HI1.out; rw [HN88.out] at h9 ⊢; exact h9), zh (fun g' hg' => by have e9 : w83.heap.size = g' := (by simpa [Value.ownBlock] using hg'); have h8 := HA92.out.2.1; omega), zh ⟨znr, HX.out⟩, zh ⟨HF80.out.1, by have := HRM.out; have := HI.out; have := HF80.out; (try simp only [zS]); omega⟩, zh ⟨HY1.out, HZ1.out, HY2.out, HZ2.out⟩, zh (by simp)⟩
   case round =>
    obtain ⟨acc, i1, fp1, f1, HS, HV, HG, HR0, HRL, HBX, HSZ⟩ := hrel; obtain ⟨hle, hr⟩ := HR0.out; clear HR0
    cases f1 with
    | zero => exact absurd hr (by simp [parF])
    | succ f =>
    have HAP := zh (fun g (hg : g ≤ f) => HAP.out g (by omega)); have HLE := zh hle; clear hle
    change stepOnes K.T (parF K.T f) acc o i1 = some r1 at hr
    unfold stepOnes at hr; obtain ⟨A1, c1, hlv, hlc1, hlc2, hfm⟩ := own_form HV.out.own; subst hlv; obtain ⟨rl, hrl⟩ : ∃ k, k = (roots ns.length acc).length := ⟨_, rfl⟩; have HKR := zh (show rl = acc.length by rw [hrl, roots_len]); have HVR := zh (show Ints _ p _ (.slice A1 rl c1) (roots ns.length acc) by rw [hrl]; exact HV.out); rw [← hrl]; clear hlc1 hlc2 hfm; have HGR := zh (show ∀ g', (Value.slice A1 rl c1).ownBlock = some g' → b17 + 1 ≤ g' by rw [hrl]; exact HG.out); clear hrl; have HX9 := zh HBX.out.1; have HA9 := zh HBX.out.2.1; have HX8 := zh HBX.out.2.2.1; have HA8 := zh HBX.out.2.2.2; have x97 := zc 0 HX9.out rfl; have xl98 := blk_lt HX9.out; have x99 := zc 0 HX8.out rfl; have xl100 := blk_lt HX8.out
    cases hb : isAny (tk K.T i1) [⟨#[124]⟩] with
    | true =>
     rw [if_pos hb] at hr; have HLT101 := zh (any_lt HTK.out HRL.out.1 hb); have HC104 := zh (got_yes HS.out.pa HRL.out.1 ⟨#[124]⟩ hb); clear hb; have HR := zh hr; clear hr; go_wp2_with fail
     clear x97 xl98 x99 xl100; refine HC104.out.mono ?_; rintro e w102 ⟨rfl, h1, h2⟩; have HS103 := zh (HS.out.step h1 h2); have HX105 := zh (Away.blkTo HX9.out HA9.out h2); have HA106 := zh (HA9.out.to h2); have HX107 := zh (Away.blkTo HX8.out HA8.out h2); have HA108 := zh (HA8.out.to h2); have HV109 := zh (HVR.out.to h2); clear h1 h2; have x110 := zc 0 HX105.out rfl; have xl111 := blk_lt HX105.out; have x112 := zc 0 HX107.out rfl; have xl113 := blk_lt HX107.out; have hr := HR.out; clear HR; obtain ⟨X, hX⟩ : ∃ X, (parF K.T f).one (.one) o (i1 + 1) = X := ⟨_, rfl⟩; rw [hX] at hr
     cases X with
     | none => exact absurd hr (by simp [Res.then])
     | some X =>
     cases X with
     | bad a n =>
      have HRR116 := zh (show Res.bad a n = r from (by dsimp only [Res.then] at hr; have h1 := Option.some.inj hr; have h2 := HRT.out; rw [← h1] at h2; dsimp only [Res.then] at h2; exact Option.some.inj h2)); have HC119 := zh (call_bad ((HAP.out f (Nat.le_refl f)).one) HS103.out HB.out ⟨HLT101.out, by have := HRM.out; have := HRL.out; have := HLT101.out; (try simp only [zS]); omega⟩ HO.out hX); clear hr hX; go_wp2_with fail
      refine HC119.out.mono ?_; rintro e wb ⟨rfl, hb⟩; have HB118 := zh hb; clear hb; unfold wrongP; go_wp2
      exact ⟨rfl, by rw [← HRR116.out]; exact ⟨rfl, HB118.out⟩⟩
     | ok t114 j115 =>
      have hft := (fit_all HTK.out f).one (.one) o (i1 + 1) HLT101.out; rw [hX] at hft; obtain ⟨f1, f2, f3⟩ := hft; simp only [lazy1, sl1, ex1, zf] at f2 f3
      have HF117 := zh (And.intro f1 (And.intro f2 f3)); clear f1 f2 f3; have HC123 := zh (call_ok ((HAP.out f (Nat.le_refl f)).one) HS103.out ⟨HLT101.out, by have := HRM.out; have := HRL.out; have := HLT101.out; (try simp only [zS]); omega⟩ HO.out hX); dsimp only [Res.then] at hr
      clear hX; have HR := zh hr; clear hr; go_wp2_with fail
      clear x110 xl111 x112 xl113; refine HC123.out.mono ?_; rintro e w120 ⟨rfl, fp121, h1, h2⟩; obtain ⟨n124, hn⟩ : ∃ n, n = nr ns acc t114 := ⟨_, rfl⟩; rw [← hn]; have HN125 := zh hn; have HS122 := zh (show St K w p j115 o sn ns fp (acc ++ [t114]) w120 fp121 from h1); have HX126 := zh (Away.blkTo HX105.out HA106.out h2); have HA127 := zh (HA106.out.to h2); have HX128 := zh (Away.blkTo HX107.out HA108.out h2); have HA129 := zh (HA108.out.to h2); have HV130 := zh (HV109.out.to h2); clear h1 h2 hn; have x131 := zc 0 HX126.out rfl; have xl132 := blk_lt HX126.out; have x133 := zc 0 HX128.out rfl; have xl134 := blk_lt HX128.out; have hr := HR.out; clear HR; have HKB144 := zh (show rl ≤ 900000 by have h9 := HKR.out; have h8 := ptsS_len acc; have h7 := (show ns.length + ptsS (acc ++ [t114]) + 4 * (K.T.length - j115) ≤ 900000 from by have := HRM.out; have := HRL.out; have := HLT101.out; have := HF117.out; (try simp only [zS]); omega); (try simp only [ptsS_append, List.length_append] at h7 h8 h9); omega)
      try unfold natV
      have HR := zh hr; clear hr; go_wp2_with (at_builtin; (refine wpList_push (n := n124) rfl _ _ rfl HS122.out HV130.out (by rw [roots_len]; exact HKR.out) HKB144.out (B := b17 + 1) (Nat.le_succ_of_le HBE23.out) HA129.out.2.1 HGR.out rfl rfl rfl ?_); intro g135 cap136 w137 h1 h2 h3 h4; clear x131 xl132 x133 xl134; have HS140 := zh h1; have HV138 := zh h2; have HGO139 := zh h3; have HX145 := zh (h4.blk HX126.out (.inl (by decide))); have HA146 := zh (HA127.out.on h4.size); have HX147 := zh (h4.blk HX128.out (.inr (Nat.lt_succ_self _))); have HA148 := zh (HA129.out.on h4.size); have x149 := zc 0 HX145.out rfl; have xl150 := blk_lt HX145.out; have x151 := zc 0 HX147.out rfl; have xl152 := blk_lt HX147.out; clear h1 h2 h3 h4)
      obtain ⟨k142, hk2⟩ : ∃ k, k = rl + 1 := ⟨_, rfl⟩; have HK143 := zh (show k142 = (acc ++ [t114]).length by rw [hk2, HKR.out]; simp); have HV153 := zh (show Ints w137 p fp121 (.slice (some ⟨g135, 0, none⟩) k142 cap136) (roots ns.length (acc ++ [t114])) by rw [roots_more, ← HN125.out, hk2]; exact HV138.out); rw [← hk2] at HGO139
      try rw [← hk2]
      clear hk2; have hr := HR.out; clear HR; have HRF := zh hr; clear hr; go_roundw
      case rel => exact ⟨_, j115, fp121, f, HS140, HV153, HGO139, zh ⟨by have := HLE.out; omega, HRF.out⟩, zh ⟨HF117.out.1, by have := HRM.out; have := HRL.out; have := HLT101.out; have := HF117.out; (try simp only [zS]); omega⟩, zh ⟨HX145.out, HA146.out, HX147.out, HA148.out⟩, zh (by simp)⟩
      case measure => have h5 := HK143.out; rw [List.length_append, List.length_singleton] at h5; have := HKR.out; have h8 := ptsS_len acc; have := HRL.out; simp [sliceLen]; omega
    | false =>
     rw [if_neg (by rw [hb]; decide)] at hr; have HC156 := zh (got_no HS.out.pa HRL.out.1 ⟨#[124]⟩ hb); clear hb; have HR := zh hr; clear hr; go_wp2_with fail
     clear x97 xl98 x99 xl100; refine HC156.out.mono ?_; rintro e w154 ⟨rfl, h1, h2⟩; have HS155 := zh (HS.out.below h2); have HX157 := zh (below_blk h2 HX9.out); have HA158 := zh (HA9.out.on h2.size); have HX159 := zh (below_blk h2 HX8.out); have HA160 := zh (HA8.out.on h2.size); have HV161 := zh (HVR.out.to (PaTo.of_below HS.out.pa h2)); clear h2 h1; have x162 := zc 0 HX157.out rfl; have xl163 := blk_lt HX157.out; have x164 := zc 0 HX159.out rfl; have xl165 := blk_lt HX159.out; have hr := HR.out; clear HR; have h1 := Option.some.inj hr; subst h1; clear hr; have hr := HRT.out; dsimp only [Res.then] at hr
     clear HRT; have HLN2 := HSZ.out
     cases acc with
     | nil => simp at HLN2
     | cons y rest =>
     cases rest with
     | nil =>
      have HFI := zh (show Res.ok y _ = r from Option.some.inj hr); clear hr HLN2; obtain ⟨A9, c9, hv9, hn1, hn2, hfm9⟩ := own_form HV161.out.own; obtain ⟨gb, hgb, _, hgl, _, hgc⟩ := hfm9 (by simp [roots])
      injection hv9 with e1 e2 e3
      subst e1 e3; have z0 : w154.cell? ⟨gb, 0, none⟩ = some (natV (nr ns [] y)) := hgc 0 _ rfl; unfold natV at z0; have HRL1 := HKR.out; have hq : ((rl : Int) == 1) = true := beq_iff_eq.2 (by simp at HRL1; omega); have hq0 : (0 : Int) < (rl : Int) := by simp at HRL1; omega
      have hz0 := hgl; have HGB := zh hgb; clear hfm9 hgc hgl hn1 hn2 HRL1; subst hgb; have HZZ := zh (HS155.out.out); go_wp2
      go_ret
      exact (by rw [← HFI.out]; exact HZZ.out)
     | cons z rest =>
      have HRLs := zh HRL.out.2; have HRL1 := HKR.out; have hq : ((rl : Int) == 1) = false := beq_eq_false_iff_ne.2 (by simp at HRL1; omega); clear HRL1 HLN2; have HRR167 := zh (show Res.ok _ _ = r from Option.some.inj hr); clear hr; have HL166 := zh (lay_row HS155.out (by have h7 := (show ns.length + ptsS (y :: z :: rest) + 4 * (K.T.length - i1) ≤ 900000 from HRLs.out); omega) 35 ⟨#[]⟩ (tk K.T i).a HV161.out); go_wp2_with fail
      refine HL166.out.mono ?_; rintro e wz ⟨rfl, fpz, h1, h2⟩; have HZ168 := zh (show OutP K w p o sn ns fp (.ok (.mk 35 ⟨#[]⟩ (tk K.T i).a (y :: z :: rest)) i1) (.returned _) wz from ⟨rfl, fpz, h1, h2⟩); clear h1 h2; go_wp2
      go_ret
      exact (by rw [← HRR167.out]; first | exact HZ168.out | (have h9 := HZ168.out; rw [List.append_assoc] at h9; exact h9))

section
variable {K : PaK} {w0 w w' : World} {p i j o : Nat} {sn : Fin 8 → Bool} {ns : List Nd} {fp0 fp fp' : List Nat} {L : List PT}
theorem within_own (h : PaAt K w p i o sn ns fp) (ho : ¬ 150 < o + 1) (a : Nat) {fn : FuncId} {fst cap args : Array Value} (hcall : ∀ W, (callFunc fn args).run Tryz.prog W = .ok (.enter fn args) W) (harg : fst ++ cap = args) {n j : Nat} {ns' : List Nd} (S : List Nat) (R : World → List Nat → Prop)
  (hR : ∀ w1 fp1 v, R w1 fp1 → p ∈ fp1 → p < w1.heap.size → R (w1.setCell ⟨p, 3, none⟩ v) fp1)
  (hC : ∀ w1, PaAt K w1 p i (o + 1) sn ns fp → PaTo w fp w1 fp → Calls Tryz.prog fn args w1 (fun e w2 => e = .returned (natV n) ∧ ∃ fp2, PaAt K w2 p j (o + 1) sn ns' fp2 ∧ Fr (S ++ fp) w1 w2 ∧ (∀ b ∈ fp2, b ∈ fp ∨ w1.heap.size ≤ b) ∧ R w2 fp2)) :
  Calls Tryz.prog 74 #[.pointer (some ⟨p, 0, none⟩), natV a, .func (.func fn) fst cap] w (fun e w2 => e = .returned (natV n) ∧ ∃ fp2, PaAt K w2 p j o sn ns' fp2 ∧ Fr (S ++ fp) w w2 ∧ (∀ b ∈ fp2, b ∈ fp ∨ w.heap.size ≤ b) ∧ R w2 fp2) := by
 obtain ⟨o1, ho1⟩ : ∃ o1, o1 = o + 1 := ⟨_, rfl⟩
 rw [← ho1] at hC
 have hadd : (o : Int) + 1 = (o1 : Int) := by omega
 have hw : IntKind.i64.wrap (o1 : Int) = (o1 : Int) := IntWalk.i64_in _ (by omega)
 have hgt : ¬ (150 : Int) < (o1 : Int) := by omega
 have hsub : (o1 : Int) - 1 = (o : Int) := by omega
 have hw0 : IntKind.i64.wrap (o : Int) = (o : Int) := IntWalk.i64_in _ (by omega)
 have H := zh h
 have HC := zh hC
 have HR := zh hR
 have HO := zh ho1
 obtain ⟨nv, l, hm⟩ := h.mem
 obtain ⟨-, -, -, c3, -, cf⟩ := pa_cell hm.blk
 have c3f := cf 3
 have pl := blk_lt hm.blk
 have e3 : (w.setCell ⟨p, 3, none⟩ (.int .i64 (o1 : Int))).cell? ⟨p, 3, none⟩ = some (.int .i64 (o1 : Int)) := cell_of_blk (blk_set (i := 3) hm.blk _) rfl
 clear h hm cf ho ho1 hC hR
 unfold natV
 go_enter Tryz.func74, Tryz.ntmps74
 go_wp2_with fail
 refine (HC.out _ (H.out.setO o1).1 (H.out.setO o1).2).mono ?_
 rintro e w1 ⟨rfl, fp1, h1, h2, hn, h3⟩
 have HNW := zh hn
 have H1 := zh h1
 have H2 := zh h2
 have H3 := zh h3
 obtain ⟨nv2, l2, hm2⟩ := h1.mem
 obtain ⟨-, -, -, z3, -, zf⟩ := pa_cell hm2.blk
 have z3f := zf 3
 have zl := blk_lt hm2.blk
 clear h1 h2 hn h3 hm2 zf c3 c3f pl e3
 unfold natV
 go_wp2
 go_ret
 obtain ⟨q1, q2⟩ := H1.out.setO o
 have hs := (H.out.setO o1).2.fr.size
 refine ⟨rfl, fp1, q1, ?_, fun b hb => (HNW.out b hb).imp id fun h' => Nat.le_trans hs h', HR.out _ _ _ H3.out H1.out.fpp H1.out.lt⟩
 refine (((H.out.setO o1).2.fr.more fun b hb => .inl (by simp [hb])).trans H2.out fun b hb => .inl hb).trans q2.fr fun b hb => ?_
 rcases HNW.out b hb with h' | h'
 ·exact .inl (by simp [h'])
 ·exact .inr (Nat.le_trans hs h')

def ArgR (w0 : World) (b2 p : Nat) (ns : List Nd) (l : List PT) (w : World) (fp : List Nat) : Prop :=
 ∃ A c, w.heap[b2]? = some (.cells #[.slice A l.length c] 29 (0, 0)) ∧ Ints w p fp (.slice A l.length c) (roots ns.length l) ∧ ∀ g, (Value.slice A l.length c).ownBlock = some g → w0.heap.size ≤ g
theorem args1_ok {f : Nat} (AP : ∀ g, g ≤ f → AllPart g) (h : PaAt K w p i o sn ns fp) (hroom : Room K i ns) (ho : o ≤ 150) {b b2 : Nat} {v : Value} (hb : w.heap[b]? = some (.cells #[.pointer (some ⟨p, 0, none⟩)] 44 (0, 0))) (ha : Away w p fp b) (hb2 : w.heap[b2]? = some (.cells #[v] 29 (0, 0))) (ha2 : Away w p fp b2)
  {l : List PT} (hX : (parF K.T f).many (.until ⟨#[41]⟩ .exp []) o i = some (.ok l j)) :
  Calls Tryz.prog 135 #[.pointer (some ⟨b, 0, none⟩), .pointer (some ⟨b2, 0, none⟩)] w (fun e w2 => e = .returned (natV 0) ∧ ∃ fp2, PaAt K w2 p j o sn (ns ++ flats ns.length l) fp2 ∧ Fr ([b2] ++ fp) w w2 ∧ (∀ b ∈ fp2, b ∈ fp ∨ w.heap.size ≤ b) ∧ ArgR w b2 p ns l w2 fp2) := by
 have x1 := zc 0 hb rfl
 have xl1 := blk_lt hb
 have HS := zh (St.start h)
 have HC := zh (until_row (fn := 80) (fst := #[.pointer (some ⟨p, 0, none⟩)]) (cap := #[]) (args := #[.pointer (some ⟨p, 0, none⟩)]) (St.start h) ⟨hroom.1, by simpa [ptsS] using hroom.2⟩ ho ⟨#[41]⟩ .exp (fun W => rfl) rfl (fun _ _ _ => True) trivial (fun _ _ _ _ _ _ _ _ => trivial)
  (fun g acc w1 i1 ns1 fp1 hg h1 h2 h3 r hr => item_fn (nt := .exp) (g := g) (o := o) ((AP g hg).exp K w1 p i1 o sn ns1 fp1 h1 h2 ho r hr)) hX)
 have HX2 := zh hb2
 have HA2 := zh ha2
 have H := zh h
 clear h hroom ho hb ha hb2 ha2 hX AP
 go_enter Tryz.func135, Tryz.ntmps135
 go_wp2_with fail
 refine HC.out.mono ?_
 rintro e w1 ⟨A, c, fp1, rfl, h1, h2, h3, h4⟩
 have hx2 := Away.blkTo HX2.out HA2.out h2
 have x2 := zc 0 hx2 rfl
 have xf2 := free_of_blk (i := 0) hx2
 have xl2 := blk_lt hx2
 have hfr : Fr [b2] w1 (w1.setCell ⟨b2, 0, none⟩ (.slice A l.length c)) := (Fr.refl _ _).set _ (.inl (by simp))
 have haw := HA2.out.to h2
 have hS : ∀ x ∈ [b2], p ≤ x ∧ x ∉ fp1 := fun x hx => by rw [List.mem_singleton.1 hx]; exact ⟨haw.1, haw.2.2⟩
 have hnot : ∀ g, (Value.slice A l.length c).ownBlock = some g → g ∉ [b2] := fun g hg e => by
  have e1 := h4 g hg; have e2 := HA2.out.2.1; have := List.mem_singleton.1 e
  omega
 have HFIN := zh (show ∃ fp2, PaAt K (w1.setCell ⟨b2, 0, none⟩ (.slice A l.length c)) p j o sn (ns ++ flats ns.length l) fp2 ∧ Fr ([b2] ++ fp) w (w1.setCell ⟨b2, 0, none⟩ (.slice A l.length c)) ∧ (∀ b ∈ fp2, b ∈ fp ∨ w.heap.size ≤ b) ∧ ArgR w b2 p ns l (w1.setCell ⟨b2, 0, none⟩ (.slice A l.length c)) fp2 from
  ⟨fp1, h1.pa.fr hfr hS, (h2.fr.more fun b hb => .inl (by simp [hb])).trans hfr fun b hb => .inl (by rw [List.mem_singleton.1 hb]; simp), h2.new, A, c, blk_set (i := 0) hx2 _, ⟨hfr.own h3.own hnot, fun g hg => (h3.away g hg).on hfr.size, h3.nil_⟩, h4⟩)
 clear h1 h2 h3 h4 hx2 hfr haw hS hnot
 go_wp2
 go_ret
 exact ⟨rfl, HFIN.out⟩
theorem args1_no {f : Nat} (AP : ∀ g, g ≤ f → AllPart g) (h : PaAt K w p i o sn ns fp) (hroom : Room K i ns) (ho : o ≤ 150) {b b2 : Nat} (hb : w.heap[b]? = some (.cells #[.pointer (some ⟨p, 0, none⟩)] 44 (0, 0)))
  {a n : Nat} (hX : (parF K.T f).many (.until ⟨#[41]⟩ .exp []) o i = some (.bad a n)) :
  Calls Tryz.prog 135 #[.pointer (some ⟨b, 0, none⟩), .pointer (some ⟨b2, 0, none⟩)] w (OutB w p a n) := by
 have x1 := zc 0 hb rfl
 have xl1 := blk_lt hb
 have HC := zh (until_rowno (fn := 80) (fst := #[.pointer (some ⟨p, 0, none⟩)]) (cap := #[]) (args := #[.pointer (some ⟨p, 0, none⟩)]) (St.start h) (Beg.of h) ⟨hroom.1, by simpa [ptsS] using hroom.2⟩ ho ⟨#[41]⟩ .exp (fun W => rfl) rfl (fun _ _ _ => True) trivial (fun _ _ _ _ _ _ _ _ => trivial)
  (fun g acc w1 i1 ns1 fp1 hg h1 h2 h3 r hr => item_fn (nt := .exp) (g := g) (o := o) ((AP g hg).exp K w1 p i1 o sn ns1 fp1 h1 h2 ho r hr)) hX)
 clear h hroom ho hb hX AP
 go_enter Tryz.func135, Tryz.ntmps135
 go_wp2_with fail
 refine HC.out.mono ?_
 rintro e w1 ⟨rfl, hb⟩
 have HB := zh hb
 clear hb
 unfold wrongP
 go_wp2
 exact ⟨rfl, rfl, HB.out⟩
theorem walk_args {f : Nat} (AP : ∀ g, g ≤ f → AllPart g) (a : Nat) : CalleeL (f + 1) (.args a) 116 (fun p => #[.pointer (some ⟨p, 0, none⟩), natV a]) := by
 intro K w p i o sn ns fp h hroom ho r hr
 change stepArgs K.T (parF K.T f) a o i = some r at hr
 unfold stepArgs deeper at hr
 have H := zh h
 have HAP := zh AP
 have HRM := zh hroom
 have HO := zh ho
 clear h AP hroom ho
 have HR := zh hr
 clear hr
 unfold natV
 go_enter Tryz.func116, Tryz.ntmps116
 go_upto_region 2 with fail
 obtain ⟨b, hb⟩ : ∃ b, b = w.heap.size := ⟨_, rfl⟩
 rw [← hb]
 refine gen_wpT fun W hW => ?_
 have HX := zh (show W.heap[b]? = some (.cells #[.pointer (some ⟨p, 0, none⟩)] 44 (0, 0)) by rw [← hW]; exact blk_alloc (heap_new_at _ _ _ hb.symm) _)
 have HX2 := zh (show W.heap[b + 1]? = some (.cells #[.slice none 0 0] 29 (0, 0)) by rw [← hW]; exact heap_new_at _ _ _ (by rw [hb]; simp))
 have HBL := zh (show Below w.heap.size w W by rw [← hW]; exact (zbr.alloc znr _).alloc (by simp) _)
 have HA := zh (show Away W p fp b from Away.new H.out (Nat.le_of_eq hb.symm) (blk_lt HX.out))
 have HA2 := zh (show Away W p fp (b + 1) from Away.new H.out (by omega) (blk_lt HX2.out))
 have HBE := zh hb
 have HW := zh (H.out.below HBL.out)
 clear hW hb
 have x1 := zc 0 HX.out rfl
 have xl1 := blk_lt HX.out
 have hr := HR.out
 clear HR
 by_cases hdp : 150 < o + 1
 ·rw [if_pos hdp] at hr
  have HRR := zh (Option.some.inj hr); have HC := zh (within_deep HW.out hdp HO.out a (.func (.func 135) #[] #[.pointer (some ⟨b, 0, none⟩), .pointer (some ⟨b + 1, 0, none⟩)])); unfold natV at HC; clear hr hdp; go_wp2_with fail
  refine HC.out.mono ?_; rintro e w1 ⟨rfl, hb⟩; have HB := zh (show Below p w w1 from (HBL.out.mono (Nat.le_of_lt H.out.lt)).trans hb); clear hb; unfold wrongP; go_wp2
  exact ⟨rfl, by rw [← HRR.out]; exact ⟨rfl, HB.out⟩⟩
 rw [if_neg hdp] at hr
 have HDP := zh hdp
 clear hdp
 cases r with
 | bad a' n =>
  have HC := zh (within_bad (fn := 135) (fst := #[]) (cap := #[.pointer (some ⟨b, 0, none⟩), .pointer (some ⟨b + 1, 0, none⟩)]) (args := #[.pointer (some ⟨b, 0, none⟩), .pointer (some ⟨b + 1, 0, none⟩)]) HW.out HDP.out a (fun W => rfl) rfl
   (fun w1 h1 h2 => args1_no HAP.out h1 HRM.out (by have := HDP.out; omega) (Away.blkTo HX.out HA.out h2) hr))
  unfold natV at HC; clear hr; go_wp2_with fail
  refine HC.out.mono ?_; rintro e w1 ⟨rfl, hb⟩; have HB := zh (show Below p w w1 from (HBL.out.mono (Nat.le_of_lt H.out.lt)).trans hb); clear hb; unfold wrongP; go_wp2
  exact ⟨rfl, rfl, HB.out⟩
 | ok l j =>
  have HC := zh (within_own (fn := 135) (fst := #[]) (cap := #[.pointer (some ⟨b, 0, none⟩), .pointer (some ⟨b + 1, 0, none⟩)]) (args := #[.pointer (some ⟨b, 0, none⟩), .pointer (some ⟨b + 1, 0, none⟩)]) HW.out HDP.out a (fun W => rfl) rfl (n := 0) (j := j) (ns' := ns ++ flats ns.length l) [b + 1] (ArgR W (b + 1) p ns l)
   (fun w1 fp1 v hR hpf hpl => by
    obtain ⟨A, c, h1, h2, h3⟩ := hR; have hfr : Fr [p] w1 (w1.setCell ⟨p, 3, none⟩ v) := (Fr.refl _ _).set _ (.inl (by simp)); refine ⟨A, c, hfr.blk h1 (fun e => ?_), ⟨hfr.own h2.own (fun g hg e => ?_), fun g hg => (h2.away g hg).on hfr.size, h2.nil_⟩, h3⟩
    ·have := List.mem_singleton.1 e
     have := H.out.lt; have := HBE.out
     omega
    ·exact (h2.away g hg).2.2 (by rw [List.mem_singleton.1 e]; exact hpf))
   (fun w1 h1 h2 => (args1_ok HAP.out h1 HRM.out (by have := HDP.out; omega) (Away.blkTo HX.out HA.out h2) (HA.out.to h2) (Away.blkTo HX2.out HA2.out h2) (HA2.out.to h2) hr).mono fun e w2 ⟨e1, fp2, q1, q2, q3, A, c, q4, q5, q6⟩ => ⟨e1, fp2, q1, q2, q3, A, c, q4, q5, fun g hg => Nat.le_trans h2.fr.size (q6 g hg)⟩))
  unfold natV at HC; clear hr; go_wp2_with fail
  refine HC.out.mono ?_; rintro e w1 ⟨rfl, fp1, h1, h2, h3, A, c, h4, h5, h6⟩; have y1 := zc 0 h4 rfl; have yl1 := blk_lt h4; have HFIN := zh (show PaAt K w1 p j o sn (ns ++ flats ns.length l) fp1 ∧ PaTo w fp w1 fp1 ∧ Ints w1 p fp1 (.slice A l.length c) (roots ns.length l) ∧ ∀ g, (Value.slice A l.length c).ownBlock = some g → w.heap.size ≤ g from
   ⟨h1, ⟨(Fr.of_below HBL.out fp).trans h2 fun x hx => by
    rcases List.mem_append.1 hx with hx | hx
    ·exact .inr (by rw [List.mem_singleton.1 hx]; have := HBE.out; omega)
    ·exact .inl hx, fun x hx => (h3 x hx).imp id fun h' => Nat.le_trans HBL.out.size h'⟩, h5, fun g hg => Nat.le_trans HBL.out.size (h6 g hg)⟩)
  clear h1 h2 h3 h4 h5 h6; go_wp2
  go_ret
  exact ⟨.slice A l.length c, fp1, rfl, HFIN.out⟩
end

theorem step_append_none {ops : Array Oper} {o : Oper} {a : Act} {K : Act → World → Prop} {Q : Exit → Act → World → Prop} {E : Prop} {w : World} (hgd : o.guard = none) (s x : Operand)
  (ho : o.op = .call { callee := .builtin .append, args := #[s, x], argTypes := #[29, 29] }) {base : Nat} {v : Value} {n : Nat} {xs : List Value} (hown : w.ownsRow base 3 1 v n xs)
  (hs : a.eval s = v) (hx : a.eval x = .slice none 0 0) (h : K (a.put o.dst v) w) :
  if Region.wanted o (yielded ops a.tmps) = true then Oper.wp Tryz.prog o a w K Q else E := by
 obtain ⟨i0, hi, hz0, hz1, hz2⟩ := info_parts infoIn
 have hw : Region.wanted o (yielded ops a.tmps) = true := by simp [Region.wanted, hgd]
 rw [if_pos hw]
 have hrun := run_append_owned_none (P := Tryz.prog) (w := w) base 29 o.type 3 i0 1 Tryz.underlying29 hi v n xs hown
 unfold Oper.wp
 simp [execOp, ho, resolve, invoke, builtin, hs, hx, hrun, Result.andThen]
 exact h
section
variable {K : PaK} {w0 w w' : World} {p i j o : Nat} {sn : Fin 8 → Bool} {ns : List Nd} {fp0 fp fp' : List Nat} {L : List PT}
theorem step_cat {ops : Array Oper} {op : Oper} {a : Act} {KQ : Act → World → Prop} {Q : Exit → Act → World → Prop} {E : Prop} (hgd : op.guard = none) (s x : Operand)
  (hop : op.op = .call { callee := .builtin .append, args := #[s, x], argTypes := #[29, 29] })
  {A : Option Addr} {rl c n g0 : Nat} {l0 : List Nat} (h : St K w0 p i o sn ns fp0 L w fp) (hg : w.heap[g0]? = some (.cells #[.int .i64 (n : Int)] 3 (0, 0))) (ha : Away w p fp g0) (hpg : p + 1 ≤ g0) (h0 : w0.heap.size ≤ g0) (hV : Ints w p fp (.slice A rl c) l0) (hrl : rl = l0.length) (hlen : rl ≤ 900000)
  (hs : a.eval s = .slice (some ⟨g0, 0, none⟩) 1 1) (hx : a.eval x = .slice A rl c)
  (hk : ∀ A' c' w', St K w0 p i o sn ns fp0 L w' fp → Fr [g0] w w' → Ints w' p fp (.slice A' (rl + 1) c') (n :: l0) → KQ (a.put op.dst (.slice A' (rl + 1) c')) w') :
  if Region.wanted op (yielded ops a.tmps) = true then Oper.wp Tryz.prog op a w KQ Q else E := by
 obtain ⟨iI, hiI, hI0, hI1, hI2⟩ := info_parts infoIn
 have hown : w.ownsRow (p + 1) 3 1 (.slice (some ⟨g0, 0, none⟩) 1 1) 1 [natV n] := ⟨rfl, .inr ⟨g0, 1, #[.int .i64 (n : Int)], rfl, hpg, hg, znr, by unfold maxLen; omega, rfl, rfl⟩⟩
 have hi1 : Ints w p fp (.slice (some ⟨g0, 0, none⟩) 1 1) [n] := ⟨hown, fun g hg' => by
  have e : g0 = g := by simpa [Value.ownBlock] using hg'
  subst e; exact ha, fun e => by simp at e⟩
 obtain ⟨A1, c1, e, h1, h2, h3⟩ := own_form hV.own
 rcases Nat.eq_zero_or_pos l0.length with hz | hz
 ·have e2 := List.eq_nil_of_length_eq_zero hz
  have e3 := hV.nil_ e2; have hr0 : rl = 0 := hrl.trans hz; subst e2; refine step_append_none hgd s x hop hown hs (hx.trans e3) ?_; have := hk (some ⟨g0, 0, none⟩) 1 w h (Fr.refl _ _); rw [hr0] at this; exact this hi1
 ·obtain ⟨gb, rfl, _, h4, _, h5⟩ := h3 hz
  injection e with e4 e5 e6
  subst e4 e6; refine step_append_lies w hgd s x 29 hop (p + 1) 3 iI (.int .i64 0) 1 8 Tryz.underlying29 hiI hI0 hI1 hI2 rfl (by omega) _ 1 [natV n] hs hown ⟨gb, 0, none⟩ rl c (l0.map natV) hx (by rw [hrl]; simp) (fun j u hu => by rw [Addr.add_mid, Nat.zero_add]; exact h5 j u hu) (fun u hu => by obtain ⟨k, _, rfl⟩ := List.mem_map.1 hu; rfl) (by omega) (by unfold maxLen; omega) (by omega) (by have := h.pa.lt; omega) w.heap.size rfl fun g cap w' ho' hg' hat hlt => ?_; have hfr : Fr [g0] w w' := (Fr.refl _ _).grown hg' fun g' e' => .inl (List.mem_singleton.2 (show g' = g0 by simpa [Value.ownBlock] using e'.symm)); have hc : 1 + rl = rl + 1 := by omega
  rw [hc] at ho' ⊢; refine hk (some ⟨g, 0, none⟩) cap w' (h.own hfr fun b hb => by rw [List.mem_singleton.1 hb]; exact ⟨ha.1, ha.2.2, h0⟩) hfr ⟨by rw [show (n :: l0).length = rl + 1 by rw [hrl]; rfl]; exact ho', fun g' e' => ?_, fun e => by simp at e⟩; have e9 : g = g' := by simpa [Value.ownBlock] using e'
  subst e9
  rcases hat with e | e
  ·have : g0 = g := by simpa [Value.ownBlock] using e
   rw [← this]; exact ha.on hfr.size
  ·exact ⟨by have := h.pa.lt; omega, hlt, h.pa.notin (by omega)⟩
theorem args_ok {f a : Nat} (hC : CalleeL f (.args a) 116 (fun p => #[.pointer (some ⟨p, 0, none⟩), natV a])) (h : St K w0 p i o sn ns fp0 L w fp) (hr : i < K.T.length ∧ ns.length + ptsS L + 4 * (K.T.length - i) ≤ 900000) (ho : o ≤ 150) {l : List PT} (hX : (parF K.T f).many (.args a) o i = some (.ok l j)) :
  Calls Tryz.prog 116 #[.pointer (some ⟨p, 0, none⟩), natV a] w (fun e w' => ∃ A c fp', e = .returned (.slice A l.length c) ∧ St K w0 p j o sn ns fp0 (L ++ l) w' fp' ∧ PaTo w fp w' fp' ∧ Ints w' p fp' (.slice A l.length c) (roots (ns.length + ptsS L) l) ∧ ∀ g, (Value.slice A l.length c).ownBlock = some g → w.heap.size ≤ g) := by
 refine (hC K w p i o sn _ fp h.pa ⟨hr.1, by rw [len_more]; exact hr.2⟩ ho _ hX).mono ?_
 rintro e w1 ⟨v, fp1, rfl, h1, h2, h3, h4⟩
 rw [len_more] at h3
 obtain ⟨A, c, rfl, _, _, _⟩ := own_form h3.own
 rw [roots_len] at h3 h4 ⊢
 rw [flats_more] at h1
 exact ⟨A, c, fp1, rfl, ⟨h1, h.pt.trans h2⟩, h2, h3, h4⟩
theorem args_bad {f a : Nat} (hC : CalleeL f (.args a) 116 (fun p => #[.pointer (some ⟨p, 0, none⟩), natV a])) (h : St K w0 p i o sn ns fp0 L w fp) (hB : Beg w0 p fp0) (hr : i < K.T.length ∧ ns.length + ptsS L + 4 * (K.T.length - i) ≤ 900000) (ho : o ≤ 150) {b n : Nat} (hX : (parF K.T f).many (.args a) o i = some (.bad b n)) :
  Calls Tryz.prog 116 #[.pointer (some ⟨p, 0, none⟩), natV a] w (OutB w0 p b n) := by
 refine (hC K w p i o sn _ fp h.pa ⟨hr.1, by rw [len_more]; exact hr.2⟩ ho _ hX).mono ?_
 rintro e w1 ⟨rfl, hb⟩
 exact ⟨rfl, h.bad hB hb⟩
end
end Go.Proofs.YthobobmbileekaaGreatDoor
