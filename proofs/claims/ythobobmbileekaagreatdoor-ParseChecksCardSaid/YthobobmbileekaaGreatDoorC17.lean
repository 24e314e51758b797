/-
 ParseChecks: part 17 of what the claim rests on.
-/
import Derived.Test.YthobobmbileekaaGreatDoorC01
import Derived.Test.YthobobmbileekaaGreatDoorC14
import Derived.Test.YthobobmbileekaaGreatDoorC16
import Derived.Deep.RegionHeld3
set_option linter.unusedVariables false
set_option linter.unusedSimpArgs false
set_option maxHeartbeats 64000000
set_option maxRecDepth 100000
namespace Go.Proofs.YthobobmbileekaaGreatDoor
open Go.ChangeShapes Go.WideShapes Go.ChangeAt Go.RowKit

theorem walk_stat {f : Nat} (AP : ∀ g, g ≤ f → AllPart g)  : Callee (f + 1) .stat 48 (fun p => #[.pointer (some ⟨p, 0, none⟩)]) := by
 intro K w p i o sn ns fp h hroom ho r hr
 change stepStat K.T (parF K.T f) o i = some r at hr
 unfold stepStat at hr
 have HB := zh (Beg.of h)
 have HTK := zh h.env.tok
 have HRM := zh hroom.2
 have HI := zh hroom.1
 have HO := zh ho
 have HS0 := zh (St.start h)
 have HLN := zh h.env.len
 have HAP := zh AP
 clear h hroom ho AP
 have HR := zh hr
 clear hr
 go_enter Tryz.func48, Tryz.ntmps48
 have hr := HR.out
 clear HR
 dsimp only at hr
 have HR := zh hr
 clear hr
 go_upto_region 1 with fail
 obtain ⟨b1, hb⟩ : ∃ b, b = w.heap.size := ⟨_, rfl⟩
 rw [← hb]
 refine gen_wpT fun w2 hW => ?_
 have HX3 := zh (show w2.heap[b1]? = some (.cells #[.pointer (some ⟨p, 0, none⟩)] 44 (0, 0)) by rw [← hW]; exact heap_new_at _ _ _ hb.symm)
 have HBL6 := zh (show Below w.heap.size w w2 by rw [← hW]; exact zbr.alloc znr _)
 have HS5 := zh (HS0.out.below HBL6.out)
 have HA4 := zh (Away.new HS0.out.pa (Nat.le_of_eq hb.symm) (blk_lt HX3.out))
 have HBE7 := zh (show w.heap.size ≤ b1 from by have := HS0.out.pt.fr.size; omega)
 clear hW hb
 have x8 := zc 0 HX3.out rfl
 have xl9 := blk_lt HX3.out
 have hr := HR.out
 clear HR
 have HC12 := zh (at_any HS5.out.pa HI.out)
 have HR := zh hr
 clear hr
 go_wp2_with fail
 clear x8 xl9
 refine HC12.out.mono ?_
 rintro e w10 ⟨rfl, h2⟩
 have HS11 := zh (HS5.out.below h2)
 have HX13 := zh (below_blk h2 HX3.out)
 have HA14 := zh (HA4.out.on h2.size)
 clear h2
 have x15 := zc 0 HX13.out rfl
 have xl16 := blk_lt HX13.out
 have hr := HR.out
 clear HR
 unfold natV
 have HR := zh hr
 clear hr
 go_upto_region 2 with fail
 clear x15 xl16
 obtain ⟨b17, hb⟩ : ∃ b, b = w10.heap.size := ⟨_, rfl⟩
 rw [← hb]
 refine gen_wpT fun w18 hW => ?_
 have HX19 := zh (show w18.heap[b17]? = some (.cells #[natV (tk K.T i).a] 3 (0, 0)) by rw [← hW]; exact heap_new_at _ _ _ hb.symm)
 have HBL22 := zh (show Below w10.heap.size w10 w18 by rw [← hW]; exact zbr.alloc znr _)
 have HS21 := zh (HS11.out.below HBL22.out)
 have HA20 := zh (Away.new HS11.out.pa (Nat.le_of_eq hb.symm) (blk_lt HX19.out))
 have HBE23 := zh (show w.heap.size ≤ b17 from by have := HS11.out.pt.fr.size; omega)
 have HX24 := zh (below_blk HBL22.out HX13.out)
 have HA25 := zh (HA14.out.on HBL22.out.size)
 clear hW hb
 have x26 := zc 0 HX24.out rfl
 have xl27 := blk_lt HX24.out
 have x28 := zc 0 HX19.out rfl
 have xl29 := blk_lt HX19.out
 have hr := HR.out
 clear HR
 cases hb : isAny (tk K.T i) [⟨#[98, 114, 101, 97, 107]⟩] with
 | true =>
  rw [if_pos hb] at hr; have HLT30 := zh (any_lt HTK.out HI.out hb); have HC33 := zh (got_yes HS21.out.pa HI.out ⟨#[98, 114, 101, 97, 107]⟩ hb); clear hb; have HR := zh hr; clear hr; go_wp2_with fail
  clear x26 xl27 x28 xl29; refine HC33.out.mono ?_; rintro e w31 ⟨rfl, h1, h2⟩; have HS32 := zh (HS21.out.step h1 h2); have HX34 := zh (Away.blkTo HX24.out HA25.out h2); have HA35 := zh (HA25.out.to h2); have HX36 := zh (Away.blkTo HX19.out HA20.out h2); have HA37 := zh (HA20.out.to h2); clear h1 h2; have x38 := zc 0 HX34.out rfl; have xl39 := blk_lt HX34.out; have x40 := zc 0 HX36.out rfl; have xl41 := blk_lt HX36.out; have hr := HR.out; clear HR; have HRR43 := zh (show Res.ok _ _ = r from Option.some.inj hr); clear hr; have HL42 := zh (lay_fin (L := []) HS32.out (by have := HRM.out; have := HI.out; have := HLT30.out; (try simp only [ptsS, ptS, noneT, ptsS_append, List.nil_append, List.cons_append, Nat.add_zero, Nat.zero_add]); omega) (by simp) 11 ⟨#[]⟩ (tk K.T i).a (KidsV.nil w31) rfl); go_wp2_with fail
  refine HL42.out.mono ?_; rintro e wz ⟨rfl, fpz, h1, h2⟩; have HZ44 := zh (show OutP K w p o sn ns fp (.ok (.mk 11 ⟨#[]⟩ (tk K.T i).a []) (i + 1)) (.returned _) wz from ⟨rfl, fpz, h1, h2⟩); clear h1 h2; go_wp2
  go_ret
  exact (by rw [← HRR43.out]; exact HZ44.out)
 | false =>
  rw [if_neg (by rw [hb]; decide)] at hr; have HC47 := zh (got_no HS21.out.pa HI.out ⟨#[98, 114, 101, 97, 107]⟩ hb); clear hb; have HR := zh hr; clear hr; go_wp2_with fail
  clear x26 xl27 x28 xl29; refine HC47.out.mono ?_; rintro e w45 ⟨rfl, h1, h2⟩; have HS46 := zh (HS21.out.below h2); have HX48 := zh (below_blk h2 HX24.out); have HA49 := zh (HA25.out.on h2.size); have HX50 := zh (below_blk h2 HX19.out); have HA51 := zh (HA20.out.on h2.size); clear h2 h1; have x52 := zc 0 HX48.out rfl; have xl53 := blk_lt HX48.out; have x54 := zc 0 HX50.out rfl; have xl55 := blk_lt HX50.out; have hr := HR.out; clear HR
  cases hb : isAny (tk K.T i) [⟨#[114, 101, 116, 117, 114, 110]⟩] with
  | true =>
   rw [if_pos hb] at hr; have HLT56 := zh (any_lt HTK.out HI.out hb); have HC59 := zh (got_yes HS46.out.pa HI.out ⟨#[114, 101, 116, 117, 114, 110]⟩ hb); clear hb; have HR := zh hr; clear hr; go_wp2_with fail
   clear x52 xl53 x54 xl55; refine HC59.out.mono ?_; rintro e w57 ⟨rfl, h1, h2⟩; have HS58 := zh (HS46.out.step h1 h2); have HX60 := zh (Away.blkTo HX48.out HA49.out h2); have HA61 := zh (HA49.out.to h2); have HX62 := zh (Away.blkTo HX50.out HA51.out h2); have HA63 := zh (HA51.out.to h2); clear h1 h2; have x64 := zc 0 HX60.out rfl; have xl65 := blk_lt HX60.out; have x66 := zc 0 HX62.out rfl; have xl67 := blk_lt HX62.out; have hr := HR.out; clear HR; have HX68 := zh (show w57.drew.heap[b1]? = _ from HX60.out); have HA69 := zh HA61.out.drew; have HX70 := zh (show w57.drew.heap[b17]? = _ from HX62.out); have HA71 := zh HA63.out.drew; have HS72 := zh HS58.out.drew; have HC75 := zh (over_any HS72.out.pa HLT56.out); obtain ⟨X, hX⟩ : ∃ X, (parF K.T f).one (.maybe (!overL K.T (i + 1))) o (i + 1) = X := ⟨_, rfl⟩; rw [hX] at hr
   cases X with
   | none => exact absurd hr (by simp [Res.then])
   | some X =>
   cases X with
   | bad a n =>
    have HRR80 := zh (show Res.bad a n = r from by dsimp only [Res.then] at hr; exact Option.some.inj hr); have HC81 := zh (fun w73 (hs : St K w p (i + 1) o sn ns fp [] w73 fp) => call_bad ((HAP.out f (Nat.le_refl f)).maybe (!overL K.T (i + 1))) hs HB.out ⟨HLT56.out, by have := HRM.out; have := HI.out; have := HLT56.out; (try simp only [zS]); omega⟩ HO.out hX); clear hr hX; go_wp2_with fail
    clear x64 xl65 x66 xl67; refine wp_region_held_drew (S := fun w' => w'.heap[b1]? = some (.cells #[.pointer (some ⟨p, 0, none⟩)] 44 (0, 0)) ∧ w'.heap[b17]? = some (.cells #[natV (tk K.T i).a] 3 (0, 0))) (by kernel_rfl) (⟨HX60.out, HX62.out⟩) (fun hHeld => ?_); refine ztk 0 21 (.pointer (some ⟨p, 0, none⟩)) hHeld ?_ (hy := Or.inl ⟨by rfl, fun w' hS => (by have q0 := zc 0 hS.1 rfl; go_simp)⟩); simp only [zq]; refine ztk 1 22 (.pointer (some ⟨p, 0, none⟩)) hHeld ?_ (hy := Or.inl ⟨by rfl, fun w' hS => (by have q0 := zc 0 hS.1 rfl; go_simp)⟩); simp only [zq]; refine zrd 2 fun KQ hK => ?_
    go_simp
    refine HC75.out.mono ?_; rintro e w73 ⟨rfl, h2⟩; have HS74 := zh (HS72.out.below h2); have HX76 := zh (below_blk h2 HX68.out); have HA77 := zh (HA69.out.on h2.size); have HX78 := zh (below_blk h2 HX70.out); have HA79 := zh (HA71.out.on h2.size); clear h2; refine hK.out _ _ (⟨HX76.out, HX78.out⟩) (fun hHeld => ?_); clear hK KQ
    try simp only [zq]
    refine ztk 3 24 (.bool (!overL K.T (i + 1))) hHeld ?_; simp only [zq]; refine zrd 4 fun KQ hK => ?_
    go_simp
    refine (HC81.out _ HS74.out).mono ?_; rintro e wb ⟨rfl, hb⟩; have HBB := zh hb; clear hb; unfold wrongP; go_wp2
    exact ⟨rfl, by rw [← HRR80.out]; exact ⟨rfl, HBB.out⟩⟩
   | ok t82 j83 =>
    dsimp only [Res.then] at hr
    have hft := (fit_all HTK.out f).one (.maybe (!overL K.T (i + 1))) o (i + 1) HLT56.out; rw [hX] at hft; obtain ⟨f1, f2, f3⟩ := hft; simp only [lazy1, sl1, ex1, zf] at f2 f3
    have HF84 := zh (And.intro f1 (And.intro f2 f3)); clear f1 f2 f3; have HC81 := zh (fun w73 (hs : St K w p (i + 1) o sn ns fp [] w73 fp) => call_ok ((HAP.out f (Nat.le_refl f)).maybe (!overL K.T (i + 1))) hs ⟨HLT56.out, by have := HRM.out; have := HI.out; have := HLT56.out; (try simp only [zS]); omega⟩ HO.out hX); clear hX; have HR := zh hr; clear hr; go_wp2_with fail
    clear x64 xl65 x66 xl67; refine wp_region_held_drew (S := fun w' => w'.heap[b1]? = some (.cells #[.pointer (some ⟨p, 0, none⟩)] 44 (0, 0)) ∧ w'.heap[b17]? = some (.cells #[natV (tk K.T i).a] 3 (0, 0))) (by kernel_rfl) (⟨HX60.out, HX62.out⟩) (fun hHeld => ?_); refine ztk 0 21 (.pointer (some ⟨p, 0, none⟩)) hHeld ?_ (hy := Or.inl ⟨by rfl, fun w' hS => (by have q0 := zc 0 hS.1 rfl; go_simp)⟩); simp only [zq]; refine ztk 1 22 (.pointer (some ⟨p, 0, none⟩)) hHeld ?_ (hy := Or.inl ⟨by rfl, fun w' hS => (by have q0 := zc 0 hS.1 rfl; go_simp)⟩); simp only [zq]; refine zrd 2 fun KQ hK => ?_
    go_simp
    refine HC75.out.mono ?_; rintro e w73 ⟨rfl, h2⟩; have HS74 := zh (HS72.out.below h2); have HX76 := zh (below_blk h2 HX68.out); have HA77 := zh (HA69.out.on h2.size); have HX78 := zh (below_blk h2 HX70.out); have HA79 := zh (HA71.out.on h2.size); clear h2; refine hK.out _ _ (⟨HX76.out, HX78.out⟩) (fun hHeld => ?_); clear hK KQ
    try simp only [zq]
    refine ztk 3 24 (.bool (!overL K.T (i + 1))) hHeld ?_; simp only [zq]; refine zrd 4 fun KQ hK => ?_
    go_simp
    refine (HC81.out _ HS74.out).mono ?_; rintro e w85 ⟨rfl, fp86, h1, h2⟩; obtain ⟨n88, hn⟩ : ∃ n, n = nr ns [] t82 := ⟨_, rfl⟩; rw [← hn]; have HN89 := zh hn; have HS87 := zh (show St K w p j83 o sn ns fp [t82] w85 fp86 from h1); have HX90 := zh (Away.blkTo HX76.out HA77.out h2); have HA91 := zh (HA77.out.to h2); have HX92 := zh (Away.blkTo HX78.out HA79.out h2); have HA93 := zh (HA79.out.to h2); clear h1 h2 hn; refine hK.out _ _ (⟨HX90.out, HX92.out⟩) (fun hHeld => ?_); clear hK KQ
    try simp only [zq]
    refine ztk 5 4 (natV n88) hHeld ?_; simp only [zq]; refine wpAnyH_done (by kernel_rfl) ?_ _; have x94 := zc 0 HX90.out rfl; have xl95 := blk_lt HX90.out; have x96 := zc 0 HX92.out rfl; have xl97 := blk_lt HX92.out; have hr := HR.out; clear HR; have HRR99 := zh (show Res.ok _ _ = r from Option.some.inj hr); clear hr; have HL98 := zh (show ∀ W, W = w85.alloc (.cells #[natV n88] 3) → Calls Tryz.prog 23 #[.pointer (some ⟨p, 0, none⟩), .int .i64 10, .string ⟨#[]⟩, natV (tk K.T i).a, .slice (some ⟨w85.heap.size, 0, none⟩) 1 1] W (OutP K w p o sn ns fp (.ok (.mk 10 ⟨#[]⟩ (tk K.T i).a [t82]) j83)) from fun W hW => by
     subst hW; exact lay_fin (HS87.out.below (zbr.alloc znr _)) (by have := HRM.out; have := HI.out; have := HLT56.out; have := HF84.out; (try simp only [ptsS, ptS, noneT, ptsS_append, List.nil_append, List.cons_append, Nat.add_zero, Nat.zero_add]); omega) (by simp) 10 ⟨#[]⟩ (tk K.T i).a (KidsV.new w85 n88 [] _ rfl) (by simp only [HN89.out, nr, roots, ptsS, Nat.add_zero, Nat.add_assoc]))
    try unfold natV
    go_wp2_with fail
    refine (HL98.out _ rfl).mono ?_; rintro e wz ⟨rfl, fpz, h1, h2⟩; have HZ100 := zh (show OutP K w p o sn ns fp (.ok (.mk 10 ⟨#[]⟩ (tk K.T i).a [t82]) j83) (.returned _) wz from ⟨rfl, fpz, h1, h2⟩); clear h1 h2; go_wp2
    go_ret
    exact (by rw [← HRR99.out]; exact HZ100.out)
  | false =>
   rw [if_neg (by rw [hb]; decide)] at hr; have HC103 := zh (got_no HS46.out.pa HI.out ⟨#[114, 101, 116, 117, 114, 110]⟩ hb); clear hb; have HR := zh hr; clear hr; go_wp2_with fail
   clear x52 xl53 x54 xl55; refine HC103.out.mono ?_; rintro e w101 ⟨rfl, h1, h2⟩; have HS102 := zh (HS46.out.below h2); have HX104 := zh (below_blk h2 HX48.out); have HA105 := zh (HA49.out.on h2.size); have HX106 := zh (below_blk h2 HX50.out); have HA107 := zh (HA51.out.on h2.size); clear h2 h1; have x108 := zc 0 HX104.out rfl; have xl109 := blk_lt HX104.out; have x110 := zc 0 HX106.out rfl; have xl111 := blk_lt HX106.out; have hr := HR.out; clear HR
   cases hb : isAny (tk K.T i) [⟨#[108, 111, 99, 97, 108]⟩] with
   | true =>
    rw [if_pos hb] at hr; have HLT112 := zh (any_lt HTK.out HI.out hb); have HC115 := zh (got_yes HS102.out.pa HI.out ⟨#[108, 111, 99, 97, 108]⟩ hb); clear hb; have HR := zh hr; clear hr; go_wp2_with fail
    clear x108 xl109 x110 xl111; refine HC115.out.mono ?_; rintro e w113 ⟨rfl, h1, h2⟩; have HS114 := zh (HS102.out.step h1 h2); have HX116 := zh (Away.blkTo HX104.out HA105.out h2); have HA117 := zh (HA105.out.to h2); have HX118 := zh (Away.blkTo HX106.out HA107.out h2); have HA119 := zh (HA107.out.to h2); clear h1 h2; have x120 := zc 0 HX116.out rfl; have xl121 := blk_lt HX116.out; have x122 := zc 0 HX118.out rfl; have xl123 := blk_lt HX118.out; have hr := HR.out; clear HR; unfold variableL token at hr; by_cases hk : (tk K.T (i + 1)).kind = 1
    ·rw [if_pos hk] at hr
     dsimp only at hr
     have HLT124 := zh (tk_lt HTK.out HLT112.out (by rw [hk]; decide))
     cases hbu : builtinL (tk K.T (i + 1)).text with
     | some nb =>
      rw [hbu] at hr; have HRR126 := zh (show Res.bad (tk K.T (i + 1)).a 70 = r from Option.some.inj hr); have HC131 := zh ((variable_builtin HS114.out.pa HLT112.out hk hbu).mono fun e w' hh => (show OutB w p _ 70 e w' from ⟨hh.1, HS114.out.bad HB.out hh.2⟩)); clear hr hk hbu; go_wp2_with fail
      refine HC131.out.mono ?_; rintro e wb ⟨rfl, hb⟩; have HB130 := zh hb; clear hb; unfold wrongP; go_wp2
      exact ⟨rfl, by rw [← HRR126.out]; exact ⟨rfl, HB130.out⟩⟩
     | none =>
      rw [hbu] at hr; dsimp only [Option.isSome] at hr
      rw [if_neg (by decide)] at hr; have HC134 := zh (variable_ok HS114.out.pa HLT112.out hk hbu); clear hk hbu; have HR := zh hr; clear hr; go_wp2_with fail
      clear x120 xl121 x122 xl123; refine HC134.out.mono ?_; rintro e w132 ⟨rfl, h1, h2⟩; have HS133 := zh (HS114.out.step h1 h2); have HX135 := zh (Away.blkTo HX116.out HA117.out h2); have HA136 := zh (HA117.out.to h2); have HX137 := zh (Away.blkTo HX118.out HA119.out h2); have HA138 := zh (HA119.out.to h2); clear h1 h2; have x139 := zc 0 HX135.out rfl; have xl140 := blk_lt HX135.out; have x141 := zc 0 HX137.out rfl; have xl142 := blk_lt HX137.out; have hr := HR.out; clear HR; have tf := tok_f1 (.int .i64 (tk K.T (i + 1)).kind) (.int .i64 ((tk K.T (i + 1)).a : Int)) (.int .i64 ((tk K.T (i + 1)).z : Int)) (.int .i64 (tk K.T (i + 1)).n) (.string (tk K.T (i + 1)).text); unfold tokJ; obtain ⟨X, hX⟩ : ∃ X, (parF K.T f).one (.colon true) o ((i + 1) + 1) = X := ⟨_, rfl⟩; rw [hX] at hr
      cases X with
      | none => exact absurd hr (by simp [Res.then])
      | some X =>
      cases X with
      | bad a n =>
       have HRR145 := zh (show Res.bad a n = r from (by dsimp only [Res.then] at hr; exact Option.some.inj hr)); have HC148 := zh (call_bad ((HAP.out f (Nat.le_refl f)).colon true) HS133.out HB.out ⟨HLT124.out, by have := HRM.out; have := HI.out; have := HLT112.out; have := HLT124.out; (try simp only [zS]); omega⟩ HO.out hX); clear hr hX; go_wp2_with fail
       refine HC148.out.mono ?_; rintro e wb ⟨rfl, hb⟩; have HB147 := zh hb; clear hb; unfold wrongP; go_wp2
       exact ⟨rfl, by rw [← HRR145.out]; exact ⟨rfl, HB147.out⟩⟩
      | ok t143 j144 =>
       have hft := (fit_all HTK.out f).one (.colon true) o ((i + 1) + 1) HLT124.out; rw [hX] at hft; obtain ⟨f1, f2, f3⟩ := hft; simp only [lazy1, sl1, ex1, zf] at f2 f3
       have HF146 := zh (And.intro f1 (And.intro f2 f3)); clear f1 f2 f3; have HC152 := zh (call_ok ((HAP.out f (Nat.le_refl f)).colon true) HS133.out ⟨HLT124.out, by have := HRM.out; have := HI.out; have := HLT112.out; have := HLT124.out; (try simp only [zS]); omega⟩ HO.out hX); dsimp only [Res.then] at hr
       clear hX; have HR := zh hr; clear hr; go_wp2_with fail
       clear x139 xl140 x141 xl142; refine HC152.out.mono ?_; rintro e w149 ⟨rfl, fp150, h1, h2⟩; obtain ⟨n153, hn⟩ : ∃ n, n = nr ns [] t143 := ⟨_, rfl⟩; rw [← hn]; have HN154 := zh hn; have HS151 := zh (show St K w p j144 o sn ns fp [t143] w149 fp150 from h1); have HX155 := zh (Away.blkTo HX135.out HA136.out h2); have HA156 := zh (HA136.out.to h2); have HX157 := zh (Away.blkTo HX137.out HA138.out h2); have HA158 := zh (HA138.out.to h2); clear h1 h2 hn; have x159 := zc 0 HX155.out rfl; have xl160 := blk_lt HX155.out; have x161 := zc 0 HX157.out rfl; have xl162 := blk_lt HX157.out; have hr := HR.out; clear HR
       cases hb : isAny (tk K.T j144) [⟨#[61]⟩] with
       | true =>
        rw [if_pos hb] at hr; have HX163 := zh (show w149.drew.heap[b1]? = _ from HX155.out); have HA164 := zh HA156.out.drew; have HX165 := zh (show w149.drew.heap[b17]? = _ from HX157.out); have HA166 := zh HA158.out.drew; have HS167 := zh HS151.out.drew; have HLT171 := zh (any_lt HTK.out HF146.out.1 hb); have HC170 := zh (got_yes HS167.out.pa HF146.out.1 ⟨#[61]⟩ hb); clear hb; obtain ⟨X, hX⟩ : ∃ X, (parF K.T f).one (.maybe (true)) o (j144 + 1) = X := ⟨_, rfl⟩; rw [hX] at hr
        cases X with
        | none => exact absurd hr (by simp [Res.then])
        | some X =>
        cases X with
        | bad a n =>
         have HRR176 := zh (show Res.bad a n = r from by dsimp only [Res.then] at hr; exact Option.some.inj hr); have HC177 := zh (fun w168 (hs : St K w p (j144 + 1) o sn ns fp [t143] w168 fp150) => call_bad ((HAP.out f (Nat.le_refl f)).maybe (true)) hs HB.out ⟨HLT171.out, by have := HRM.out; have := HI.out; have := HLT112.out; have := HLT124.out; have := HF146.out; have := HLT171.out; (try simp only [zS]); omega⟩ HO.out hX); clear hr hX; go_wp2_with fail
         clear x159 xl160 x161 xl162; refine wp_region_held_drew (S := fun w' => w'.heap[b1]? = some (.cells #[.pointer (some ⟨p, 0, none⟩)] 44 (0, 0)) ∧ w'.heap[b17]? = some (.cells #[natV (tk K.T i).a] 3 (0, 0))) (by kernel_rfl) (⟨HX155.out, HX157.out⟩) (fun hHeld => ?_); refine ztk 0 39 (.pointer (some ⟨p, 0, none⟩)) hHeld ?_ (hy := Or.inl ⟨by rfl, fun w' hS => (by have q0 := zc 0 hS.1 rfl; go_simp)⟩); simp only [zq]; refine ztk 1 40 (.pointer (some ⟨p, 0, none⟩)) hHeld ?_ (hy := Or.inl ⟨by rfl, fun w' hS => (by have q0 := zc 0 hS.1 rfl; go_simp)⟩); simp only [zq]; refine zrd 2 fun KQ hK => ?_
         go_simp
         refine HC170.out.mono ?_; rintro e w168 ⟨rfl, h1, h2⟩; have HS169 := zh (HS167.out.step h1 h2); have HX172 := zh (Away.blkTo HX163.out HA164.out h2); have HA173 := zh (HA164.out.to h2); have HX174 := zh (Away.blkTo HX165.out HA166.out h2); have HA175 := zh (HA166.out.to h2); clear h1 h2; refine hK.out _ _ (⟨HX172.out, HX174.out⟩) (fun hHeld => ?_); clear hK KQ
         try simp only [zq]
         refine zrd 3 fun KQ hK => ?_
         go_simp
         refine (HC177.out _ HS169.out).mono ?_; rintro e wb ⟨rfl, hb⟩; have HBB := zh hb; clear hb; unfold wrongP; go_wp2
         exact ⟨rfl, by rw [← HRR176.out]; exact ⟨rfl, HBB.out⟩⟩
        | ok t178 j179 =>
         dsimp only [Res.then] at hr
         have hft := (fit_all HTK.out f).one (.maybe (true)) o (j144 + 1) HLT171.out; rw [hX] at hft; obtain ⟨f1, f2, f3⟩ := hft; simp only [lazy1, sl1, ex1, zf] at f2 f3
         have HF180 := zh (And.intro f1 (And.intro f2 f3)); clear f1 f2 f3; have HC177 := zh (fun w168 (hs : St K w p (j144 + 1) o sn ns fp [t143] w168 fp150) => call_ok ((HAP.out f (Nat.le_refl f)).maybe (true)) hs ⟨HLT171.out, by have := HRM.out; have := HI.out; have := HLT112.out; have := HLT124.out; have := HF146.out; have := HLT171.out; (try simp only [zS]); omega⟩ HO.out hX); clear hX; have HR := zh hr; clear hr; go_wp2_with fail
         clear x159 xl160 x161 xl162; refine wp_region_held_drew (S := fun w' => w'.heap[b1]? = some (.cells #[.pointer (some ⟨p, 0, none⟩)] 44 (0, 0)) ∧ w'.heap[b17]? = some (.cells #[natV (tk K.T i).a] 3 (0, 0))) (by kernel_rfl) (⟨HX155.out, HX157.out⟩) (fun hHeld => ?_); refine ztk 0 39 (.pointer (some ⟨p, 0, none⟩)) hHeld ?_ (hy := Or.inl ⟨by rfl, fun w' hS => (by have q0 := zc 0 hS.1 rfl; go_simp)⟩); simp only [zq]; refine ztk 1 40 (.pointer (some ⟨p, 0, none⟩)) hHeld ?_ (hy := Or.inl ⟨by rfl, fun w' hS => (by have q0 := zc 0 hS.1 rfl; go_simp)⟩); simp only [zq]; refine zrd 2 fun KQ hK => ?_
         go_simp
         refine HC170.out.mono ?_; rintro e w168 ⟨rfl, h1, h2⟩; have HS169 := zh (HS167.out.step h1 h2); have HX172 := zh (Away.blkTo HX163.out HA164.out h2); have HA173 := zh (HA164.out.to h2); have HX174 := zh (Away.blkTo HX165.out HA166.out h2); have HA175 := zh (HA166.out.to h2); clear h1 h2; refine hK.out _ _ (⟨HX172.out, HX174.out⟩) (fun hHeld => ?_); clear hK KQ
         try simp only [zq]
         refine zrd 3 fun KQ hK => ?_
         go_simp
         refine (HC177.out _ HS169.out).mono ?_; rintro e w181 ⟨rfl, fp182, h1, h2⟩; obtain ⟨n184, hn⟩ : ∃ n, n = nr ns [t143] t178 := ⟨_, rfl⟩; rw [← hn]; have HN185 := zh hn; have HS183 := zh (show St K w p j179 o sn ns fp [t143, t178] w181 fp182 from h1); have HX186 := zh (Away.blkTo HX172.out HA173.out h2); have HA187 := zh (HA173.out.to h2); have HX188 := zh (Away.blkTo HX174.out HA175.out h2); have HA189 := zh (HA175.out.to h2); clear h1 h2 hn; refine hK.out _ _ (⟨HX186.out, HX188.out⟩) (fun hHeld => ?_); clear hK KQ
         try simp only [zq]
         refine ztk 4 7 (natV n184) hHeld ?_; simp only [zq]; refine wpAnyH_done (by kernel_rfl) ?_ _; have x190 := zc 0 HX186.out rfl; have xl191 := blk_lt HX186.out; have x192 := zc 0 HX188.out rfl; have xl193 := blk_lt HX188.out; have hr := HR.out; clear HR; have HRR195 := zh (show Res.ok _ _ = r from Option.some.inj hr); clear hr; have HL194 := zh (show ∀ W, W = w181.alloc (.cells #[natV n153, natV n184] 3) → Calls Tryz.prog 23 #[.pointer (some ⟨p, 0, none⟩), .int .i64 4, .string (tk K.T (i + 1)).text, natV (tk K.T i).a, .slice (some ⟨w181.heap.size, 0, none⟩) 2 2] W (OutP K w p o sn ns fp (.ok (.mk 4 (tk K.T (i + 1)).text (tk K.T i).a [t143, t178]) j179)) from fun W hW => by
          subst hW; exact lay_fin (HS183.out.below (zbr.alloc znr _)) (by have := HRM.out; have := HI.out; have := HLT112.out; have := HLT124.out; have := HF146.out; have := HLT171.out; have := HF180.out; (try simp only [ptsS, ptS, noneT, ptsS_append, List.nil_append, List.cons_append, Nat.add_zero, Nat.zero_add]); omega) (by simp) 4 (tk K.T (i + 1)).text (tk K.T i).a (KidsV.new w181 n153 [n184] _ rfl) (by simp only [HN154.out, HN185.out, nr, roots, ptsS, Nat.add_zero, Nat.add_assoc]))
         try unfold natV
         go_wp2_with fail
         refine (HL194.out _ rfl).mono ?_; rintro e wz ⟨rfl, fpz, h1, h2⟩; have HZ196 := zh (show OutP K w p o sn ns fp (.ok (.mk 4 (tk K.T (i + 1)).text (tk K.T i).a [t143, t178]) j179) (.returned _) wz from ⟨rfl, fpz, h1, h2⟩); clear h1 h2; go_wp2
         go_ret
         exact (by rw [← HRR195.out]; exact HZ196.out)
       | false =>
        rw [if_neg (by rw [hb]; decide)] at hr; have HX197 := zh (show w149.drew.heap[b1]? = _ from HX155.out); have HA198 := zh HA156.out.drew; have HX199 := zh (show w149.drew.heap[b17]? = _ from HX157.out); have HA200 := zh HA158.out.drew; have HS201 := zh HS151.out.drew; have HC204 := zh (got_no HS201.out.pa HF146.out.1 ⟨#[61]⟩ hb); clear hb; obtain ⟨X, hX⟩ : ∃ X, (parF K.T f).one (.maybe (false)) o j144 = X := ⟨_, rfl⟩; rw [hX] at hr
        cases X with
        | none => exact absurd hr (by simp [Res.then])
        | some X =>
        cases X with
        | bad a n =>
         have HRR209 := zh (show Res.bad a n = r from by dsimp only [Res.then] at hr; exact Option.some.inj hr); have HC210 := zh (fun w202 (hs : St K w p j144 o sn ns fp [t143] w202 fp150) => call_bad ((HAP.out f (Nat.le_refl f)).maybe (false)) hs HB.out ⟨HF146.out.1, by have := HRM.out; have := HI.out; have := HLT112.out; have := HLT124.out; have := HF146.out; (try simp only [zS]); omega⟩ HO.out hX); clear hr hX; go_wp2_with fail
         clear x159 xl160 x161 xl162; refine wp_region_held_drew (S := fun w' => w'.heap[b1]? = some (.cells #[.pointer (some ⟨p, 0, none⟩)] 44 (0, 0)) ∧ w'.heap[b17]? = some (.cells #[natV (tk K.T i).a] 3 (0, 0))) (by kernel_rfl) (⟨HX155.out, HX157.out⟩) (fun hHeld => ?_); refine ztk 0 39 (.pointer (some ⟨p, 0, none⟩)) hHeld ?_ (hy := Or.inl ⟨by rfl, fun w' hS => (by have q0 := zc 0 hS.1 rfl; go_simp)⟩); simp only [zq]; refine ztk 1 40 (.pointer (some ⟨p, 0, none⟩)) hHeld ?_ (hy := Or.inl ⟨by rfl, fun w' hS => (by have q0 := zc 0 hS.1 rfl; go_simp)⟩); simp only [zq]; refine zrd 2 fun KQ hK => ?_
         go_simp
         refine HC204.out.mono ?_; rintro e w202 ⟨rfl, h1, h2⟩; have HS203 := zh (HS201.out.below h2); have HX205 := zh (below_blk h2 HX197.out); have HA206 := zh (HA198.out.on h2.size); have HX207 := zh (below_blk h2 HX199.out); have HA208 := zh (HA200.out.on h2.size); clear h1 h2; refine hK.out _ _ (⟨HX205.out, HX207.out⟩) (fun hHeld => ?_); clear hK KQ
         try simp only [zq]
         refine zrd 3 fun KQ hK => ?_
         go_simp
         refine (HC210.out _ HS203.out).mono ?_; rintro e wb ⟨rfl, hb⟩; have HBB := zh hb; clear hb; unfold wrongP; go_wp2
         exact ⟨rfl, by rw [← HRR209.out]; exact ⟨rfl, HBB.out⟩⟩
        | ok t211 j212 =>
         dsimp only [Res.then] at hr
         have hft := (fit_all HTK.out f).one (.maybe (false)) o j144 HF146.out.1; rw [hX] at hft; obtain ⟨f1, f2, f3⟩ := hft; simp only [lazy1, sl1, ex1, zf] at f2 f3
         have HF213 := zh (And.intro f1 (And.intro f2 f3)); clear f1 f2 f3; have HC210 := zh (fun w202 (hs : St K w p j144 o sn ns fp [t143] w202 fp150) => call_ok ((HAP.out f (Nat.le_refl f)).maybe (false)) hs ⟨HF146.out.1, by have := HRM.out; have := HI.out; have := HLT112.out; have := HLT124.out; have := HF146.out; (try simp only [zS]); omega⟩ HO.out hX); clear hX; have HR := zh hr; clear hr; go_wp2_with fail
         clear x159 xl160 x161 xl162; refine wp_region_held_drew (S := fun w' => w'.heap[b1]? = some (.cells #[.pointer (some ⟨p, 0, none⟩)] 44 (0, 0)) ∧ w'.heap[b17]? = some (.cells #[natV (tk K.T i).a] 3 (0, 0))) (by kernel_rfl) (⟨HX155.out, HX157.out⟩) (fun hHeld => ?_); refine ztk 0 39 (.pointer (some ⟨p, 0, none⟩)) hHeld ?_ (hy := Or.inl ⟨by rfl, fun w' hS => (by have q0 := zc 0 hS.1 rfl; go_simp)⟩); simp only [zq]; refine ztk 1 40 (.pointer (some ⟨p, 0, none⟩)) hHeld ?_ (hy := Or.inl ⟨by rfl, fun w' hS => (by have q0 := zc 0 hS.1 rfl; go_simp)⟩); simp only [zq]; refine zrd 2 fun KQ hK => ?_
         go_simp
         refine HC204.out.mono ?_; rintro e w202 ⟨rfl, h1, h2⟩; have HS203 := zh (HS201.out.below h2); have HX205 := zh (below_blk h2 HX197.out); have HA206 := zh (HA198.out.on h2.size); have HX207 := zh (below_blk h2 HX199.out); have HA208 := zh (HA200.out.on h2.size); clear h1 h2; refine hK.out _ _ (⟨HX205.out, HX207.out⟩) (fun hHeld => ?_); clear hK KQ
         try simp only [zq]
         refine zrd 3 fun KQ hK => ?_
         go_simp
         refine (HC210.out _ HS203.out).mono ?_; rintro e w214 ⟨rfl, fp215, h1, h2⟩; obtain ⟨n217, hn⟩ : ∃ n, n = nr ns [t143] t211 := ⟨_, rfl⟩; rw [← hn]; have HN218 := zh hn; have HS216 := zh (show St K w p j212 o sn ns fp [t143, t211] w214 fp215 from h1); have HX219 := zh (Away.blkTo HX205.out HA206.out h2); have HA220 := zh (HA206.out.to h2); have HX221 := zh (Away.blkTo HX207.out HA208.out h2); have HA222 := zh (HA208.out.to h2); clear h1 h2 hn; refine hK.out _ _ (⟨HX219.out, HX221.out⟩) (fun hHeld => ?_); clear hK KQ
         try simp only [zq]
         refine ztk 4 7 (natV n217) hHeld ?_; simp only [zq]; refine wpAnyH_done (by kernel_rfl) ?_ _; have x223 := zc 0 HX219.out rfl; have xl224 := blk_lt HX219.out; have x225 := zc 0 HX221.out rfl; have xl226 := blk_lt HX221.out; have hr := HR.out; clear HR; have HRR228 := zh (show Res.ok _ _ = r from Option.some.inj hr); clear hr; have HL227 := zh (show ∀ W, W = w214.alloc (.cells #[natV n153, natV n217] 3) → Calls Tryz.prog 23 #[.pointer (some ⟨p, 0, none⟩), .int .i64 4, .string (tk K.T (i + 1)).text, natV (tk K.T i).a, .slice (some ⟨w214.heap.size, 0, none⟩) 2 2] W (OutP K w p o sn ns fp (.ok (.mk 4 (tk K.T (i + 1)).text (tk K.T i).a [t143, t211]) j212)) from fun W hW => by
          subst hW; exact lay_fin (HS216.out.below (zbr.alloc znr _)) (by have := HRM.out; have := HI.out; have := HLT112.out; have := HLT124.out; have := HF146.out; have := HF213.out; (try simp only [ptsS, ptS, noneT, ptsS_append, List.nil_append, List.cons_append, Nat.add_zero, Nat.zero_add]); omega) (by simp) 4 (tk K.T (i + 1)).text (tk K.T i).a (KidsV.new w214 n153 [n217] _ rfl) (by simp only [HN154.out, HN218.out, nr, roots, ptsS, Nat.add_zero, Nat.add_assoc]))
         try unfold natV
         go_wp2_with fail
         refine (HL227.out _ rfl).mono ?_; rintro e wz ⟨rfl, fpz, h1, h2⟩; have HZ229 := zh (show OutP K w p o sn ns fp (.ok (.mk 4 (tk K.T (i + 1)).text (tk K.T i).a [t143, t211]) j212) (.returned _) wz from ⟨rfl, fpz, h1, h2⟩); clear h1 h2; go_wp2
         go_ret
         exact (by rw [← HRR228.out]; exact HZ229.out)
    ·rw [if_neg hk] at hr
     have HRR125 := zh (show Res.bad _ _ = r from (by exact Option.some.inj hr)); have HC129 := zh ((variable_no HS114.out.pa HLT112.out hk).mono fun e w' hh => (show OutB w p _ 70 e w' from ⟨hh.1, HS114.out.bad HB.out hh.2⟩)); clear hr hk; go_wp2_with fail
     refine HC129.out.mono ?_; rintro e wb ⟨rfl, hb⟩; have HB128 := zh hb; clear hb; unfold wrongP; go_wp2
     exact ⟨rfl, by rw [← HRR125.out]; exact ⟨rfl, HB128.out⟩⟩
   | false =>
    rw [if_neg (by rw [hb]; decide)] at hr; have HC232 := zh (got_no HS102.out.pa HI.out ⟨#[108, 111, 99, 97, 108]⟩ hb); clear hb; have HR := zh hr; clear hr; go_wp2_with fail
    clear x108 xl109 x110 xl111; refine HC232.out.mono ?_; rintro e w230 ⟨rfl, h1, h2⟩; have HS231 := zh (HS102.out.below h2); have HX233 := zh (below_blk h2 HX104.out); have HA234 := zh (HA105.out.on h2.size); have HX235 := zh (below_blk h2 HX106.out); have HA236 := zh (HA107.out.on h2.size); clear h2 h1; have x237 := zc 0 HX233.out rfl; have xl238 := blk_lt HX233.out; have x239 := zc 0 HX235.out rfl; have xl240 := blk_lt HX235.out; have hr := HR.out; clear HR
    cases hb : isAny (tk K.T i) [⟨#[102, 117, 110, 99, 116, 105, 111, 110]⟩] with
    | true =>
     rw [if_pos hb] at hr; have HLT241 := zh (any_lt HTK.out HI.out hb); have HC244 := zh (got_yes HS231.out.pa HI.out ⟨#[102, 117, 110, 99, 116, 105, 111, 110]⟩ hb); clear hb; have HR := zh hr; clear hr; go_wp2_with fail
     clear x237 xl238 x239 xl240; refine HC244.out.mono ?_; rintro e w242 ⟨rfl, h1, h2⟩; have HS243 := zh (HS231.out.step h1 h2); have HX245 := zh (Away.blkTo HX233.out HA234.out h2); have HA246 := zh (HA234.out.to h2); have HX247 := zh (Away.blkTo HX235.out HA236.out h2); have HA248 := zh (HA236.out.to h2); clear h1 h2; have x249 := zc 0 HX245.out rfl; have xl250 := blk_lt HX245.out; have x251 := zc 0 HX247.out rfl; have xl252 := blk_lt HX247.out; have hr := HR.out; clear HR; unfold variableL token at hr; by_cases hk : (tk K.T (i + 1)).kind = 1
     ·rw [if_pos hk] at hr
      dsimp only at hr
      have HLT253 := zh (tk_lt HTK.out HLT241.out (by rw [hk]; decide))
      cases hbu : builtinL (tk K.T (i + 1)).text with
      | some nb =>
       rw [hbu] at hr; have HRR255 := zh (show Res.bad (tk K.T (i + 1)).a 70 = r from Option.some.inj hr); have HC260 := zh ((variable_builtin HS243.out.pa HLT241.out hk hbu).mono fun e w' hh => (show OutB w p _ 70 e w' from ⟨hh.1, HS243.out.bad HB.out hh.2⟩)); clear hr hk hbu; go_wp2_with fail
       refine HC260.out.mono ?_; rintro e wb ⟨rfl, hb⟩; have HB259 := zh hb; clear hb; unfold wrongP; go_wp2
       exact ⟨rfl, by rw [← HRR255.out]; exact ⟨rfl, HB259.out⟩⟩
      | none =>
       rw [hbu] at hr; dsimp only [Option.isSome] at hr
       rw [if_neg (by decide)] at hr; have HC263 := zh (variable_ok HS243.out.pa HLT241.out hk hbu); clear hk hbu; have HR := zh hr; clear hr; go_wp2_with fail
       clear x249 xl250 x251 xl252; refine HC263.out.mono ?_; rintro e w261 ⟨rfl, h1, h2⟩; have HS262 := zh (HS243.out.step h1 h2); have HX264 := zh (Away.blkTo HX245.out HA246.out h2); have HA265 := zh (HA246.out.to h2); have HX266 := zh (Away.blkTo HX247.out HA248.out h2); have HA267 := zh (HA248.out.to h2); clear h1 h2; have x268 := zc 0 HX264.out rfl; have xl269 := blk_lt HX264.out; have x270 := zc 0 HX266.out rfl; have xl271 := blk_lt HX266.out; have hr := HR.out; clear HR; have tf := tok_f1 (.int .i64 (tk K.T (i + 1)).kind) (.int .i64 ((tk K.T (i + 1)).a : Int)) (.int .i64 ((tk K.T (i + 1)).z : Int)) (.int .i64 (tk K.T (i + 1)).n) (.string (tk K.T (i + 1)).text); unfold tokJ; unfold deeper at hr; by_cases hdp : 150 < o + 1
       ·rw [if_pos hdp] at hr
        have HRR276 := zh (show Res.bad _ _ = r from (by exact Option.some.inj hr)); have HC278 := zh ((within_deep HS262.out.pa hdp HO.out ((tk K.T i).a) (.func (.func 75) #[] #[.pointer (some ⟨b1, 0, none⟩), .pointer (some ⟨b17, 0, none⟩)])).mono fun e w' hh => (show OutB w p _ 61 e w' from ⟨hh.1, HS262.out.bad HB.out hh.2⟩)); clear hr hdp; go_wp2_with fail
        refine HC278.out.mono ?_; rintro e wb ⟨rfl, hb⟩; have HB277 := zh hb; clear hb; unfold wrongP; go_wp2
        exact ⟨rfl, by rw [← HRR276.out]; exact ⟨rfl, HB277.out⟩⟩
       ·rw [if_neg hdp] at hr
        obtain ⟨X, hX⟩ : ∃ X, (parF K.T f).one (.body ((tk K.T i).a)) (o + 1) ((i + 1) + 1) = X := ⟨_, rfl⟩; dsimp only at hr
        rw [hX] at hr; have HDP := zh hdp; clear hdp
        cases X with
        | none => exact absurd hr (by simp [Res.then])
        | some X =>
        cases X with
        | bad a n =>
         have HRR274 := zh (show Res.bad a n = r from (by dsimp only [Res.then] at hr; exact Option.some.inj hr)); have HC280 := zh (within_no (fn := 75) (fst := #[]) (cap := #[.pointer (some ⟨b1, 0, none⟩), .pointer (some ⟨b17, 0, none⟩)]) (args := #[.pointer (some ⟨b1, 0, none⟩), .pointer (some ⟨b17, 0, none⟩)]) HS262.out HB.out HDP.out ((tk K.T i).a) (fun W => rfl) rfl hX (fun w1 h1 h2 r hr => (wrap_stat1 ((tk K.T i).a) ((HAP.out f (Nat.le_refl f)).body ((tk K.T i).a))) K w1 p ((i + 1) + 1) (o + 1) sn _ fp b1 b17 h1 ⟨HLT253.out, by rw [len_more]; exact by have := HRM.out; have := HI.out; have := HLT241.out; have := HLT253.out; (try simp only [zS]); omega⟩ (by have := HDP.out; omega) (Away.blkTo HX264.out HA265.out h2) (HA265.out.to h2) (Away.blkTo HX266.out HA267.out h2) (HA267.out.to h2) r hr)); clear hr hX; go_wp2_with fail
         refine HC280.out.mono ?_; rintro e wb ⟨rfl, hb⟩; have HB279 := zh hb; clear hb; unfold wrongP; go_wp2
         exact ⟨rfl, by rw [← HRR274.out]; exact ⟨rfl, HB279.out⟩⟩
        | ok t272 j273 =>
         have hft := (fit_all HTK.out f).one (.body ((tk K.T i).a)) (o + 1) ((i + 1) + 1) HLT253.out; rw [hX] at hft; obtain ⟨f1, f2, f3⟩ := hft; simp only [lazy1, sl1, ex1, zf] at f2 f3
         have HF275 := zh (And.intro f1 (And.intro f2 f3)); clear f1 f2 f3; have HC284 := zh (within_ok (fn := 75) (fst := #[]) (cap := #[.pointer (some ⟨b1, 0, none⟩), .pointer (some ⟨b17, 0, none⟩)]) (args := #[.pointer (some ⟨b1, 0, none⟩), .pointer (some ⟨b17, 0, none⟩)]) HS262.out HDP.out ((tk K.T i).a) (fun W => rfl) rfl hX (fun w1 h1 h2 r hr => (wrap_stat1 ((tk K.T i).a) ((HAP.out f (Nat.le_refl f)).body ((tk K.T i).a))) K w1 p ((i + 1) + 1) (o + 1) sn _ fp b1 b17 h1 ⟨HLT253.out, by rw [len_more]; exact by have := HRM.out; have := HI.out; have := HLT241.out; have := HLT253.out; (try simp only [zS]); omega⟩ (by have := HDP.out; omega) (Away.blkTo HX264.out HA265.out h2) (HA265.out.to h2) (Away.blkTo HX266.out HA267.out h2) (HA267.out.to h2) r hr)); dsimp only [Res.then] at hr
         clear hX; have HR := zh hr; clear hr; go_wp2_with fail
         clear x268 xl269 x270 xl271; refine HC284.out.mono ?_; rintro e w281 ⟨rfl, fp282, h1, h2⟩; obtain ⟨n285, hn⟩ : ∃ n, n = nr ns [] t272 := ⟨_, rfl⟩; rw [← hn]; have HN286 := zh hn; have HS283 := zh (show St K w p j273 o sn ns fp [t272] w281 fp282 from h1); have HX287 := zh (Away.blkTo HX264.out HA265.out h2); have HA288 := zh (HA265.out.to h2); have HX289 := zh (Away.blkTo HX266.out HA267.out h2); have HA290 := zh (HA267.out.to h2); clear h1 h2 hn; have x291 := zc 0 HX287.out rfl; have xl292 := blk_lt HX287.out; have x293 := zc 0 HX289.out rfl; have xl294 := blk_lt HX289.out; have hr := HR.out; clear HR; have HRR296 := zh (show Res.ok _ _ = r from Option.some.inj hr); clear hr; have HL295 := zh (show ∀ W, W = w281.alloc (.cells #[natV n285] 3) → Calls Tryz.prog 23 #[.pointer (some ⟨p, 0, none⟩), .int .i64 5, .string (tk K.T (i + 1)).text, natV (tk K.T i).a, .slice (some ⟨w281.heap.size, 0, none⟩) 1 1] W (OutP K w p o sn ns fp (.ok (.mk 5 (tk K.T (i + 1)).text (tk K.T i).a [t272]) j273)) from fun W hW => by
          subst hW; exact lay_fin (HS283.out.below (zbr.alloc znr _)) (by have := HRM.out; have := HI.out; have := HLT241.out; have := HLT253.out; have := HF275.out; (try simp only [ptsS, ptS, noneT, ptsS_append, List.nil_append, List.cons_append, Nat.add_zero, Nat.zero_add]); omega) (by simp) 5 (tk K.T (i + 1)).text (tk K.T i).a (KidsV.new w281 n285 [] _ rfl) (by simp only [HN286.out, nr, roots, ptsS, Nat.add_zero, Nat.add_assoc]))
         try unfold natV
         go_wp2_with fail
         refine (HL295.out _ rfl).mono ?_; rintro e wz ⟨rfl, fpz, h1, h2⟩; have HZ297 := zh (show OutP K w p o sn ns fp (.ok (.mk 5 (tk K.T (i + 1)).text (tk K.T i).a [t272]) j273) (.returned _) wz from ⟨rfl, fpz, h1, h2⟩); clear h1 h2; go_wp2
         go_ret
         exact (by rw [← HRR296.out]; exact HZ297.out)
     ·rw [if_neg hk] at hr
      have HRR254 := zh (show Res.bad _ _ = r from (by exact Option.some.inj hr)); have HC258 := zh ((variable_no HS243.out.pa HLT241.out hk).mono fun e w' hh => (show OutB w p _ 70 e w' from ⟨hh.1, HS243.out.bad HB.out hh.2⟩)); clear hr hk; go_wp2_with fail
      refine HC258.out.mono ?_; rintro e wb ⟨rfl, hb⟩; have HB257 := zh hb; clear hb; unfold wrongP; go_wp2
      exact ⟨rfl, by rw [← HRR254.out]; exact ⟨rfl, HB257.out⟩⟩
    | false =>
     rw [if_neg (by rw [hb]; decide)] at hr; have HC300 := zh (got_no HS231.out.pa HI.out ⟨#[102, 117, 110, 99, 116, 105, 111, 110]⟩ hb); clear hb; have HR := zh hr; clear hr; go_wp2_with fail
     clear x237 xl238 x239 xl240; refine HC300.out.mono ?_; rintro e w298 ⟨rfl, h1, h2⟩; have HS299 := zh (HS231.out.below h2); have HX301 := zh (below_blk h2 HX233.out); have HA302 := zh (HA234.out.on h2.size); have HX303 := zh (below_blk h2 HX235.out); have HA304 := zh (HA236.out.on h2.size); clear h2 h1; have x305 := zc 0 HX301.out rfl; have xl306 := blk_lt HX301.out; have x307 := zc 0 HX303.out rfl; have xl308 := blk_lt HX303.out; have hr := HR.out; clear HR
     cases hb : isAny (tk K.T i) [⟨#[105, 102]⟩] with
     | true =>
      rw [if_pos hb] at hr; have HLT309 := zh (any_lt HTK.out HI.out hb); have HC312 := zh (got_yes HS299.out.pa HI.out ⟨#[105, 102]⟩ hb); clear hb; have HR := zh hr; clear hr; go_wp2_with fail
      clear x305 xl306 x307 xl308; refine HC312.out.mono ?_; rintro e w310 ⟨rfl, h1, h2⟩; have HS311 := zh (HS299.out.step h1 h2); have HX313 := zh (Away.blkTo HX301.out HA302.out h2); have HA314 := zh (HA302.out.to h2); have HX315 := zh (Away.blkTo HX303.out HA304.out h2); have HA316 := zh (HA304.out.to h2); clear h1 h2; have x317 := zc 0 HX313.out rfl; have xl318 := blk_lt HX313.out; have x319 := zc 0 HX315.out rfl; have xl320 := blk_lt HX315.out; have hr := HR.out; clear HR; unfold deeper at hr; by_cases hdp : 150 < o + 1
      ·rw [if_pos hdp] at hr
       have HRR325 := zh (show Res.bad _ _ = r from (by exact Option.some.inj hr)); have HC327 := zh ((within_deep HS311.out.pa hdp HO.out ((tk K.T i).a) (.func (.func 77) #[] #[.pointer (some ⟨b1, 0, none⟩), .pointer (some ⟨b17, 0, none⟩)])).mono fun e w' hh => (show OutB w p _ 61 e w' from ⟨hh.1, HS311.out.bad HB.out hh.2⟩)); clear hr hdp; go_wp2_with fail
       refine HC327.out.mono ?_; rintro e wb ⟨rfl, hb⟩; have HB326 := zh hb; clear hb; unfold wrongP; go_wp2
       exact ⟨rfl, by rw [← HRR325.out]; exact ⟨rfl, HB326.out⟩⟩
      ·rw [if_neg hdp] at hr
       obtain ⟨X, hX⟩ : ∃ X, (parF K.T f).one (.cond ((tk K.T i).a)) (o + 1) (i + 1) = X := ⟨_, rfl⟩; dsimp only at hr
       rw [hX] at hr; have HDP := zh hdp; clear hdp
       cases X with
       | none => exact absurd hr (by simp [Res.then])
       | some X =>
       cases X with
       | bad a n =>
        have HRR323 := zh (show Res.bad a n = r from (by exact Option.some.inj hr)); have HC329 := zh (within_no (fn := 77) (fst := #[]) (cap := #[.pointer (some ⟨b1, 0, none⟩), .pointer (some ⟨b17, 0, none⟩)]) (args := #[.pointer (some ⟨b1, 0, none⟩), .pointer (some ⟨b17, 0, none⟩)]) HS311.out HB.out HDP.out ((tk K.T i).a) (fun W => rfl) rfl hX (fun w1 h1 h2 r hr => (wrap_stat2 ((tk K.T i).a) ((HAP.out f (Nat.le_refl f)).cond ((tk K.T i).a))) K w1 p (i + 1) (o + 1) sn _ fp b1 b17 h1 ⟨HLT309.out, by rw [len_more]; exact by have := HRM.out; have := HI.out; have := HLT309.out; (try simp only [zS]); omega⟩ (by have := HDP.out; omega) (Away.blkTo HX313.out HA314.out h2) (HA314.out.to h2) (Away.blkTo HX315.out HA316.out h2) (HA316.out.to h2) r hr)); clear hr hX; go_wp2_with fail
        refine HC329.out.mono ?_; rintro e wb ⟨rfl, hb⟩; have HB328 := zh hb; clear hb; unfold wrongP; go_wp2
        exact ⟨rfl, by rw [← HRR323.out]; exact ⟨rfl, HB328.out⟩⟩
       | ok t321 j322 =>
        have hft := (fit_all HTK.out f).one (.cond ((tk K.T i).a)) (o + 1) (i + 1) HLT309.out; rw [hX] at hft; obtain ⟨f1, f2, f3⟩ := hft; simp only [lazy1, sl1, ex1, zf] at f2 f3
        have HF324 := zh (And.intro f1 (And.intro f2 f3)); clear f1 f2 f3; have HC333 := zh (within_ok (fn := 77) (fst := #[]) (cap := #[.pointer (some ⟨b1, 0, none⟩), .pointer (some ⟨b17, 0, none⟩)]) (args := #[.pointer (some ⟨b1, 0, none⟩), .pointer (some ⟨b17, 0, none⟩)]) HS311.out HDP.out ((tk K.T i).a) (fun W => rfl) rfl hX (fun w1 h1 h2 r hr => (wrap_stat2 ((tk K.T i).a) ((HAP.out f (Nat.le_refl f)).cond ((tk K.T i).a))) K w1 p (i + 1) (o + 1) sn _ fp b1 b17 h1 ⟨HLT309.out, by rw [len_more]; exact by have := HRM.out; have := HI.out; have := HLT309.out; (try simp only [zS]); omega⟩ (by have := HDP.out; omega) (Away.blkTo HX313.out HA314.out h2) (HA314.out.to h2) (Away.blkTo HX315.out HA316.out h2) (HA316.out.to h2) r hr)); clear hX; have HR := zh hr; clear hr; go_wp2_with fail
        clear x317 xl318 x319 xl320; refine HC333.out.mono ?_; rintro e w330 ⟨rfl, fp331, h1, h2⟩; obtain ⟨n334, hn⟩ : ∃ n, n = nr ns [] t321 := ⟨_, rfl⟩; rw [← hn]; have HN335 := zh hn; have HS332 := zh (show St K w p j322 o sn ns fp [t321] w330 fp331 from h1); have HX336 := zh (Away.blkTo HX313.out HA314.out h2); have HA337 := zh (HA314.out.to h2); have HX338 := zh (Away.blkTo HX315.out HA316.out h2); have HA339 := zh (HA316.out.to h2); clear h1 h2 hn; have x340 := zc 0 HX336.out rfl; have xl341 := blk_lt HX336.out; have x342 := zc 0 HX338.out rfl; have xl343 := blk_lt HX338.out; have hr := HR.out; clear HR; have HRR344 := zh (show Res.ok _ _ = r from Option.some.inj hr); clear hr; go_wp2
        go_ret
        exact (by rw [← HRR344.out, HN335.out]; exact HS332.out.out)
     | false =>
      rw [if_neg (by rw [hb]; decide)] at hr; have HC347 := zh (got_no HS299.out.pa HI.out ⟨#[105, 102]⟩ hb); clear hb; have HR := zh hr; clear hr; go_wp2_with fail
      clear x305 xl306 x307 xl308; refine HC347.out.mono ?_; rintro e w345 ⟨rfl, h1, h2⟩; have HS346 := zh (HS299.out.below h2); have HX348 := zh (below_blk h2 HX301.out); have HA349 := zh (HA302.out.on h2.size); have HX350 := zh (below_blk h2 HX303.out); have HA351 := zh (HA304.out.on h2.size); clear h2 h1; have x352 := zc 0 HX348.out rfl; have xl353 := blk_lt HX348.out; have x354 := zc 0 HX350.out rfl; have xl355 := blk_lt HX350.out; have hr := HR.out; clear HR
      cases hb : isAny (tk K.T i) [⟨#[119, 104, 105, 108, 101]⟩] with
      | true =>
       rw [if_pos hb] at hr; have HLT356 := zh (any_lt HTK.out HI.out hb); have HC359 := zh (got_yes HS346.out.pa HI.out ⟨#[119, 104, 105, 108, 101]⟩ hb); clear hb; have HR := zh hr; clear hr; go_wp2_with fail
       clear x352 xl353 x354 xl355; refine HC359.out.mono ?_; rintro e w357 ⟨rfl, h1, h2⟩; have HS358 := zh (HS346.out.step h1 h2); have HX360 := zh (Away.blkTo HX348.out HA349.out h2); have HA361 := zh (HA349.out.to h2); have HX362 := zh (Away.blkTo HX350.out HA351.out h2); have HA363 := zh (HA351.out.to h2); clear h1 h2; have x364 := zc 0 HX360.out rfl; have xl365 := blk_lt HX360.out; have x366 := zc 0 HX362.out rfl; have xl367 := blk_lt HX362.out; have hr := HR.out; clear HR; unfold deeper at hr; by_cases hdp : 150 < o + 1
       ·rw [if_pos hdp] at hr
        have HRR372 := zh (show Res.bad _ _ = r from (by exact Option.some.inj hr)); have HC374 := zh ((within_deep HS358.out.pa hdp HO.out ((tk K.T i).a) (.func (.func 79) #[] #[.pointer (some ⟨b1, 0, none⟩), .pointer (some ⟨b17, 0, none⟩)])).mono fun e w' hh => (show OutB w p _ 61 e w' from ⟨hh.1, HS358.out.bad HB.out hh.2⟩)); clear hr hdp; go_wp2_with fail
        refine HC374.out.mono ?_; rintro e wb ⟨rfl, hb⟩; have HB373 := zh hb; clear hb; unfold wrongP; go_wp2
        exact ⟨rfl, by rw [← HRR372.out]; exact ⟨rfl, HB373.out⟩⟩
       ·rw [if_neg hdp] at hr
        obtain ⟨X, hX⟩ : ∃ X, (parF K.T f).one (.whileB ((tk K.T i).a)) (o + 1) (i + 1) = X := ⟨_, rfl⟩; dsimp only at hr
        rw [hX] at hr; have HDP := zh hdp; clear hdp
        cases X with
        | none => exact absurd hr (by simp [Res.then])
        | some X =>
        cases X with
        | bad a n =>
         have HRR370 := zh (show Res.bad a n = r from (by exact Option.some.inj hr)); have HC376 := zh (within_no (fn := 79) (fst := #[]) (cap := #[.pointer (some ⟨b1, 0, none⟩), .pointer (some ⟨b17, 0, none⟩)]) (args := #[.pointer (some ⟨b1, 0, none⟩), .pointer (some ⟨b17, 0, none⟩)]) HS358.out HB.out HDP.out ((tk K.T i).a) (fun W => rfl) rfl hX (fun w1 h1 h2 r hr => ((HAP.out f (Nat.le_refl f)).whileC ((tk K.T i).a)) K w1 p (i + 1) (o + 1) sn _ fp b1 b17 h1 ⟨HLT356.out, by rw [len_more]; exact by have := HRM.out; have := HI.out; have := HLT356.out; (try simp only [zS]); omega⟩ (by have := HDP.out; omega) (Away.blkTo HX360.out HA361.out h2) (HA361.out.to h2) (Away.blkTo HX362.out HA363.out h2) (HA363.out.to h2) r hr)); clear hr hX; go_wp2_with fail
         refine HC376.out.mono ?_; rintro e wb ⟨rfl, hb⟩; have HB375 := zh hb; clear hb; unfold wrongP; go_wp2
         exact ⟨rfl, by rw [← HRR370.out]; exact ⟨rfl, HB375.out⟩⟩
        | ok t368 j369 =>
         have hft := (fit_all HTK.out f).one (.whileB ((tk K.T i).a)) (o + 1) (i + 1) HLT356.out; rw [hX] at hft; obtain ⟨f1, f2, f3⟩ := hft; simp only [lazy1, sl1, ex1, zf] at f2 f3
         have HF371 := zh (And.intro f1 (And.intro f2 f3)); clear f1 f2 f3; have HC380 := zh (within_ok (fn := 79) (fst := #[]) (cap := #[.pointer (some ⟨b1, 0, none⟩), .pointer (some ⟨b17, 0, none⟩)]) (args := #[.pointer (some ⟨b1, 0, none⟩), .pointer (some ⟨b17, 0, none⟩)]) HS358.out HDP.out ((tk K.T i).a) (fun W => rfl) rfl hX (fun w1 h1 h2 r hr => ((HAP.out f (Nat.le_refl f)).whileC ((tk K.T i).a)) K w1 p (i + 1) (o + 1) sn _ fp b1 b17 h1 ⟨HLT356.out, by rw [len_more]; exact by have := HRM.out; have := HI.out; have := HLT356.out; (try simp only [zS]); omega⟩ (by have := HDP.out; omega) (Away.blkTo HX360.out HA361.out h2) (HA361.out.to h2) (Away.blkTo HX362.out HA363.out h2) (HA363.out.to h2) r hr)); clear hX; have HR := zh hr; clear hr; go_wp2_with fail
         clear x364 xl365 x366 xl367; refine HC380.out.mono ?_; rintro e w377 ⟨rfl, fp378, h1, h2⟩; obtain ⟨n381, hn⟩ : ∃ n, n = nr ns [] t368 := ⟨_, rfl⟩; rw [← hn]; have HN382 := zh hn; have HS379 := zh (show St K w p j369 o sn ns fp [t368] w377 fp378 from h1); have HX383 := zh (Away.blkTo HX360.out HA361.out h2); have HA384 := zh (HA361.out.to h2); have HX385 := zh (Away.blkTo HX362.out HA363.out h2); have HA386 := zh (HA363.out.to h2); clear h1 h2 hn; have x387 := zc 0 HX383.out rfl; have xl388 := blk_lt HX383.out; have x389 := zc 0 HX385.out rfl; have xl390 := blk_lt HX385.out; have hr := HR.out; clear HR; have HRR391 := zh (show Res.ok _ _ = r from Option.some.inj hr); clear hr; go_wp2
         go_ret
         exact (by rw [← HRR391.out, HN382.out]; exact HS379.out.out)
      | false =>
       rw [if_neg (by rw [hb]; decide)] at hr; have HC394 := zh (got_no HS346.out.pa HI.out ⟨#[119, 104, 105, 108, 101]⟩ hb); clear hb; have HR := zh hr; clear hr; go_wp2_with fail
       clear x352 xl353 x354 xl355; refine HC394.out.mono ?_; rintro e w392 ⟨rfl, h1, h2⟩; have HS393 := zh (HS346.out.below h2); have HX395 := zh (below_blk h2 HX348.out); have HA396 := zh (HA349.out.on h2.size); have HX397 := zh (below_blk h2 HX350.out); have HA398 := zh (HA351.out.on h2.size); clear h2 h1; have x399 := zc 0 HX395.out rfl; have xl400 := blk_lt HX395.out; have x401 := zc 0 HX397.out rfl; have xl402 := blk_lt HX397.out; have hr := HR.out; clear HR; have HC405 := zh (now_any HS393.out.pa HI.out); have HR := zh hr; clear hr; go_wp2_with fail
       clear x399 xl400 x401 xl402; refine HC405.out.mono ?_; rintro e w403 ⟨rfl, h2⟩; have HS404 := zh (HS393.out.below h2); have HX406 := zh (below_blk h2 HX395.out); have HA407 := zh (HA396.out.on h2.size); have HX408 := zh (below_blk h2 HX397.out); have HA409 := zh (HA398.out.on h2.size); clear h2; have x410 := zc 0 HX406.out rfl; have xl411 := blk_lt HX406.out; have x412 := zc 0 HX408.out rfl; have xl413 := blk_lt HX408.out; have hr := HR.out; clear HR; unfold tkEnc; have tf := tok_f0 (.int .i64 (tk K.T i).kind) (.int .i64 ((tk K.T i).a : Int)) (.int .i64 ((tk K.T i).z : Int)) (.int .i64 (tk K.T i).n) (.string (tk K.T i).text); by_cases hk : (tk K.T i).kind ≠ 1
       ·rw [if_pos hk] at hr
        have HRK := zh (show Res.bad (tk K.T i).a 70 = r from Option.some.inj hr); have qk : ((tk K.T i).kind != 1) = true := bne_iff_ne.2 hk; have HC415 := zh ((show Calls Tryz.prog 44 #[.pointer (some ⟨p, 0, none⟩), natV (tk K.T i).a] w403 (OutB w p (tk K.T i).a 70) from (no_any _ _ _).mono fun e w' hh => ⟨hh.1, by rw [← hh.2]; exact HS404.out.bad HB.out zbr⟩)); clear hr hk; go_wp2_with fail
        refine HC415.out.mono ?_; rintro e wb ⟨rfl, hb⟩; have HB414 := zh hb; clear hb; unfold wrongP; go_wp2
        exact ⟨rfl, by rw [← HRK.out]; exact ⟨rfl, HB414.out⟩⟩
       ·rw [if_neg hk] at hr
        have qk : ((tk K.T i).kind != 1) = false := by rw [Classical.not_not.1 hk]; rfl
        clear hk; obtain ⟨X, hX⟩ : ∃ X, (parF K.T f).one (.simple ((tk K.T i).a)) o i = X := ⟨_, rfl⟩; rw [hX] at hr
        cases X with
        | none => exact absurd hr (by simp [Res.then])
        | some X =>
        cases X with
        | bad a n =>
         have HRR418 := zh (show Res.bad a n = r from (by exact Option.some.inj hr)); have HC421 := zh (call_bad ((HAP.out f (Nat.le_refl f)).simple ((tk K.T i).a)) HS404.out HB.out ⟨HI.out, by have := HRM.out; have := HI.out; (try simp only [zS]); omega⟩ HO.out hX); clear hr hX; go_wp2_with fail
         refine HC421.out.mono ?_; rintro e wb ⟨rfl, hb⟩; have HB420 := zh hb; clear hb; unfold wrongP; go_wp2
         exact ⟨rfl, by rw [← HRR418.out]; exact ⟨rfl, HB420.out⟩⟩
        | ok t416 j417 =>
         have hft := (fit_all HTK.out f).one (.simple ((tk K.T i).a)) o i HI.out; rw [hX] at hft; obtain ⟨f1, f2, f3⟩ := hft; simp only [lazy1, sl1, ex1, zf] at f2 f3
         have HF419 := zh (And.intro f1 (And.intro f2 f3)); clear f1 f2 f3; have HC425 := zh (call_ok ((HAP.out f (Nat.le_refl f)).simple ((tk K.T i).a)) HS404.out ⟨HI.out, by have := HRM.out; have := HI.out; (try simp only [zS]); omega⟩ HO.out hX); clear hX; have HR := zh hr; clear hr; go_wp2_with fail
         clear x410 xl411 x412 xl413; refine HC425.out.mono ?_; rintro e w422 ⟨rfl, fp423, h1, h2⟩; obtain ⟨n426, hn⟩ : ∃ n, n = nr ns [] t416 := ⟨_, rfl⟩; rw [← hn]; have HN427 := zh hn; have HS424 := zh (show St K w p j417 o sn ns fp [t416] w422 fp423 from h1); have HX428 := zh (Away.blkTo HX406.out HA407.out h2); have HA429 := zh (HA407.out.to h2); have HX430 := zh (Away.blkTo HX408.out HA409.out h2); have HA431 := zh (HA409.out.to h2); clear h1 h2 hn; have x432 := zc 0 HX428.out rfl; have xl433 := blk_lt HX428.out; have x434 := zc 0 HX430.out rfl; have xl435 := blk_lt HX430.out; have hr := HR.out; clear HR; have HRR436 := zh (show Res.ok _ _ = r from Option.some.inj hr); clear hr; go_wp2
         go_ret
         exact (by rw [← HRR436.out, HN427.out]; exact HS424.out.out)

def PushFr (B : Nat) (w w' : World) : Prop := ∃ R : List Nat, Fr R w w' ∧ ∀ b ∈ R, B ≤ b ∧ ∃ cur, w.heap[b]? = some (.cells cur 3 (0, 0))
theorem PushFr.blk {B : Nat} {w w' : World} (h : PushFr B w w') {b : Nat} {cs : Array Value} {ty : TypeId} {fr : Nat × Nat} (hb : w.heap[b]? = some (.cells cs ty fr)) (hne : ty ≠ 3 ∨ b < B) : w'.heap[b]? = some (.cells cs ty fr) := by
 obtain ⟨R, hf, hR⟩ := h
 refine hf.blk hb fun e => ?_
 obtain ⟨h1, cur, h2⟩ := hR b e
 rcases hne with h | h
 ·rw [hb] at h2
  injection h2 with h2
  injection h2 with _ h3 _
  exact h h3
 ·omega
theorem PushFr.size {B : Nat} {w w' : World} (h : PushFr B w w') : w.heap.size ≤ w'.heap.size := by obtain ⟨R, hf, _⟩ := h; exact hf.size
theorem wpList_push {ops : Array Oper} {rest : List Oper} {op : Oper} {a : Act} {Q : Exit → Act → World → Prop} (hgd : op.guard = none) (s x : Operand)
  (ho : op.op = .call { callee := .builtin .append, args := #[s, x], argTypes := #[29, 29] })
  {K : PaK} {w0 w W : World} {p i o : Nat} {sn : Fin 8 → Bool} {ns : List Nd} {fp0 fp : List Nat} {L : List PT} {A : Option Addr} {rl c n : Nat} {l0 : List Nat} (h : St K w0 p i o sn ns fp0 L w fp) (hV : Ints w p fp (.slice A rl c) l0) (hrl : rl = l0.length) (hlen : rl ≤ 900000) {B : Nat} (hB0 : w0.heap.size ≤ B) (hB1 : B ≤ w.heap.size) (hG : ∀ g, (Value.slice A rl c).ownBlock = some g → B ≤ g)
  (hW : W = w.alloc (.cells #[.int .i64 (n : Int)] 3)) (hs : a.eval s = .slice A rl c) (hx : a.eval x = .slice (some ⟨w.heap.size, 0, none⟩) 1 1)
  (hk : ∀ g cap w', St K w0 p i o sn ns fp0 L w' fp → Ints w' p fp (.slice (some ⟨g, 0, none⟩) (rl + 1) cap) (l0 ++ [n]) → (∀ g', (Value.slice (some ⟨g, 0, none⟩) (rl + 1) cap).ownBlock = some g' → B ≤ g') → PushFr B w w' → wpList Tryz.prog ops Q rest (a.put op.dst (.slice (some ⟨g, 0, none⟩) (rl + 1) cap)) w') :
  wpList Tryz.prog ops Q (op :: rest) a W := by
 obtain ⟨iI, hiI, hI0, hI1, hI2⟩ := info_parts infoIn
 have hbl : Below w.heap.size w W := by rw [hW]; exact zbr.alloc znr _
 have hown : w.ownsRow (p + 1) 3 1 (.slice A rl c) rl (l0.map natV) := by have := hV.own; rw [← hrl] at this; exact this
 have hsz : W.heap.size = w.heap.size + 1 := by rw [hW]; simp
 refine wpList_append_lies W hgd s x 29 ho (p + 1) 3 iI (.int .i64 0) 1 8 Tryz.underlying29 hiI hI0 hI1 hI2 rfl (by omega) _ rl (l0.map natV) hs (below_own hbl hown) ⟨w.heap.size, 0, none⟩ 1 1 [.int .i64 (n : Int)] hx rfl (by rw [hW]; exact news_new w #[.int .i64 (n : Int)] _ _ rfl) (by simp [Value.oneCell']) (by omega) (by unfold maxLen; omega) (by omega) (by have := h.pa.lt; omega) (w.heap.size + 1) hsz fun g cap w' ho' hg' hat hlt => ?_
 have hfr : Fr (Value.slice A rl c).ownBlock.toList w w' := (Fr.of_below hbl _).trans ((Fr.refl _ _).grown hg' fun g' hg' => .inl (by simp [hg'])) fun b hb => .inl hb
 have hR : ∀ b ∈ (Value.slice A rl c).ownBlock.toList, (Value.slice A rl c).ownBlock = some b := fun b hb => by simpa using hb
 have hat' : (Value.slice A rl c).ownBlock = some g ∨ (w.heap.size ≤ g ∧ g ∉ fp) := hat.imp id fun e => ⟨by omega, h.pa.notin (by omega)⟩
 refine hk g cap w' (h.own hfr fun b hb => ⟨(hV.away b (hR b hb)).1, (hV.away b (hR b hb)).2.2, Nat.le_trans hB0 (hG b (hR b hb))⟩) ?_ (fun g' e => ?_) ⟨_, hfr, fun b hb => ⟨hG b (hR b hb), ?_⟩⟩
 ·rw [hrl] at ho' hat' ⊢
  have hVW : Ints W p fp (.slice A l0.length c) l0 := by have := hV.to (PaTo.of_below h.pa hbl); rw [hrl] at this; exact this
  refine Ints.push (n := n) hVW rfl (by have := h.pa.lt; omega) (by rw [← hrl]; exact hg') ho' (hat'.imp id fun e => ⟨?_, e.2⟩)
  rcases hat with e9 | e9
  ·have := (hV.away g e9).2.1
   exfalso
   have := e.1
   omega
  ·omega
 ·have e1 : g = g' := by simpa [Value.ownBlock] using e
  rw [← e1]
  rcases hat with e9 | e9
  ·exact hG g e9
  ·omega
 ·have hb' := hR b hb
  rcases hown.2 with ⟨e, _⟩ | ⟨g', cap', cur, e, _, hh, _⟩
  ·rw [e] at hb'; simp [Value.ownBlock] at hb'
  ·rw [e] at hb'
   have : g' = b := by simpa [Value.ownBlock] using hb'
   subst this; exact ⟨cur, hh⟩
theorem Ints.one {K : PaK} {w : World} {p i o : Nat} {sn : Fin 8 → Bool} {ns : List Nd} {fp : List Nat} (h : PaAt K w p i o sn ns fp) (n : Nat) : Ints (w.alloc (.cells #[.int .i64 (n : Int)] 3)) p fp (.slice (some ⟨w.heap.size, 0, none⟩) 1 1) [n] :=
 ⟨⟨rfl, .inr ⟨w.heap.size, 1, #[.int .i64 (n : Int)], rfl, by have := h.lt; omega, heap_new_at _ _ _ rfl, znr, by unfold maxLen; omega, rfl, rfl⟩⟩, fun g hg => by
  have e : w.heap.size = g := by simpa [Value.ownBlock] using hg
  subst e; exact Away.new h znr (by simp), fun e => by simp at e⟩
theorem lay_row {K : PaK} {w0 w : World} {p i o : Nat} {sn : Fin 8 → Bool} {ns : List Nd} {fp0 fp : List Nat} {L : List PT} {A : Option Addr} {rl c : Nat} (h : St K w0 p i o sn ns fp0 L w fp) (hr : ns.length + ptsS L ≤ 900000) (kd : Int) (x : ByteArray) (a : Nat) (hV : Ints w p fp (.slice A rl c) (roots ns.length L)) :
  Calls Tryz.prog 23 #[.pointer (some ⟨p, 0, none⟩), .int .i64 kd, .string x, natV a, .slice A rl c] w (OutP K w0 p o sn ns fp0 (.ok (.mk kd x a L) i)) :=
 lay_fin h hr (by have := ptsS_len L; omega) kd x a hV.kids rfl
end Go.Proofs.YthobobmbileekaaGreatDoor
