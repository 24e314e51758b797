/-
 ParseChecks: part 22 of what the claim rests on.
-/
import Derived.Test.YthobobmbileekaaGreatDoorC01
import Derived.Test.YthobobmbileekaaGreatDoorC16
import Derived.Test.YthobobmbileekaaGreatDoorC17
import Derived.Test.YthobobmbileekaaGreatDoorC21
set_option linter.unusedVariables false
set_option linter.unusedSimpArgs false
set_option maxHeartbeats 64000000
set_option maxRecDepth 100000
namespace Go.Proofs.YthobobmbileekaaGreatDoor
open Go.ChangeShapes Go.WideShapes Go.ChangeAt Go.RowKit

theorem walk_simple {f : Nat} (AP : ∀ g, g ≤ f → AllPart g) (a : Nat) : Callee (f + 1) (.simple a) 82 (fun p => #[.pointer (some ⟨p, 0, none⟩), natV a]) := by
 intro K w p i o sn ns fp h hroom ho r hr
 change stepSimple K.T (parF K.T f) a o i = some r at hr
 unfold stepSimple at hr
 have HB := zh (Beg.of h)
 have HTK := zh h.env.tok
 have HRM := zh hroom.2
 have HI := zh hroom.1
 have HO := zh ho
 have HS0 := zh (St.start h)
 have HLN := zh h.env.len
 have HAP := zh AP
 clear h hroom ho AP
 have HR := zh hr
 clear hr
 go_enter Tryz.func82, Tryz.ntmps82
 have hr := HR.out
 clear HR
 obtain ⟨X, hX⟩ : ∃ X, (parF K.T f).one (.suffixed) o i = X := ⟨_, rfl⟩
 rw [hX] at hr
 cases X with
 | none => exact absurd hr (by simp [Res.then])
 | some X =>
 cases X with
 | bad a n =>
  have HRR3 := zh (show Res.bad a n = r from (by dsimp only [Res.then] at hr; exact Option.some.inj hr)); have HC6 := zh (call_bad ((HAP.out f (Nat.le_refl f)).suffixed) HS0.out HB.out ⟨HI.out, by have := HRM.out; have := HI.out; (try simp only [zS]); omega⟩ HO.out hX); clear hr hX; go_wp2_with fail
  refine HC6.out.mono ?_; rintro e wb ⟨rfl, hb⟩; have HB5 := zh hb; clear hb; unfold wrongP; go_wp2
  exact ⟨rfl, by rw [← HRR3.out]; exact ⟨rfl, HB5.out⟩⟩
 | ok t1 j2 =>
  have hft := (fit_all HTK.out f).one (.suffixed) o i HI.out; rw [hX] at hft; obtain ⟨f1, f2, f3⟩ := hft; simp only [lazy1, sl1, ex1, zf] at f2 f3
  have HF4 := zh (And.intro f1 (And.intro f2 f3)); clear f1 f2 f3; have HC10 := zh (call_ok ((HAP.out f (Nat.le_refl f)).suffixed) HS0.out ⟨HI.out, by have := HRM.out; have := HI.out; (try simp only [zS]); omega⟩ HO.out hX); dsimp only [Res.then] at hr
  clear hX; have HR := zh hr; clear hr; go_wp2_with fail
  refine HC10.out.mono ?_; rintro e w7 ⟨rfl, fp8, h1, h2⟩; obtain ⟨n11, hn⟩ : ∃ n, n = nr ns [] t1 := ⟨_, rfl⟩; rw [← hn]; have HN12 := zh hn; have HS9 := zh (show St K w p j2 o sn ns fp [t1] w7 fp8 from h1); clear h1 h2 hn; have hr := HR.out; clear HR; obtain ⟨gb, N, c9, A9, n9, d9, hkN, hpN, hgN, hnd⟩ := pa_node (ns := ns ++ flats ns.length ([] ++ t1 :: [])) (HS9.out.pa) (root_at ns [] [] t1); rw [← HN12.out] at hkN hnd; dsimp only at hnd
  have hq0 : (0 : Int) ≤ (n11 : Int) := by omega
  have hq1 : (n11 : Int) < (N : Int) := by omega
  have HND := zh hnd; have HPN := zh hpN; have HGN := zh hgN; clear hkN hpN hgN hnd; have HS13 := zh HS9.out.drew; have HC14 := zh (at_any HS13.out.pa HF4.out.1); have HR9 := zh hr; clear hr
  try unfold natV
  go_wp2_with fail
  refine wp_region_held_drew (S := fun w' => NodeAt w' p gb N c9 n11 A9 n9 d9 t1.kind t1.text t1.a) (by kernel_rfl) (HND.out) (fun hHeld => ?_); refine ztk 0 11 (.pointer (some ⟨p, 0, none⟩)) hHeld ?_; simp only [zq]; refine ztk 1 12 (.pointer (some ⟨p, 0, none⟩)) hHeld ?_; simp only [zq]; refine ztk 2 13 (.pointer (some ⟨p, 2, none⟩)) hHeld ?_; simp only [zq]; refine ztk 3 14 (.slice (some (⟨gb, 0, none⟩ : Addr)) N c9) hHeld ?_ (hy := Or.inl ⟨by rfl, fun w' hS => (by have z := hS.1; go_simp)⟩); simp only [zq]; refine ztk 4 15 (.int .i64 (n11 : Int)) hHeld ?_; simp only [zq]; refine ztk 5 16 (.pointer (some ((⟨gb, 0, none⟩ : Addr).add (n11 * 4)))) hHeld ?_; simp only [zq]; refine ztk 6 17 (.pointer (some ((⟨gb, 0, none⟩ : Addr).add (n11 * 4)))) hHeld ?_; simp only [zq]; refine ztk 7 18 (.int .i64 t1.kind) hHeld ?_ (hy := Or.inl ⟨by rfl, fun w' hS => (by have z := hS.2.1; rw [Addr.add_mid, Nat.zero_add] at z; go_simp)⟩); simp only [zq]; refine ztk 8 19 (.pointer (some ⟨p, 0, none⟩)) hHeld ?_; simp only [zq]; refine zrd 9 fun KQ hK => ?_
  go_simp
  refine HC14.out.mono ?_; rintro e w15 ⟨rfl, h2⟩; have HS16 := zh (HS13.out.below h2); have HND1 := zh (NodeAt.below (w := w7.drew) HND.out (show p < w7.drew.heap.size from HPN.out) HGN.out h2); clear h2; refine hK.out _ _ (HND1.out) (fun hHeld => ?_); clear hK KQ
  try simp only [zq]
  refine ztk 10 6 (.int .i64 t1.kind) hHeld ?_; simp only [zq]; refine ztk 11 7 (natV (tk K.T j2).a) hHeld ?_; simp only [zq]; refine wpAnyH_done (by kernel_rfl) ?_ _; have hr := HR9.out; clear HR9 HND1
  try unfold natV
  have HC17 := zh (fun W (hW : W = w15.alloc (.cells #[.string ⟨#[61]⟩] 9)) => (show Calls Tryz.prog 19 #[.pointer (some ⟨p, 0, none⟩), .slice (some ⟨w15.heap.size, 0, none⟩) 1 1] W (RetB (.bool (isAny (tk K.T j2) [⟨#[61]⟩])) W) from
   is_any (K := K) (i := j2) (o := o) (sn := sn) (ns := ns ++ flats ns.length [t1]) (fp := fp8) (c := 1) (L := [⟨#[61]⟩]) (hW ▸ HS16.out.pa.below (zbr.alloc znr _)) HF4.out.1 (by rw [hW]; exact .inr ⟨⟨w15.heap.size, 0, none⟩, rfl, by simp, fun j u hu => news_new w15 #[.string ⟨#[61]⟩] _ _ rfl j u hu⟩) (by simp)))
  cases hb : isAny (tk K.T j2) [⟨#[61]⟩] with
  | true =>
   rw [if_pos hb] at hr; have HLT20 := zh (any_lt HTK.out HF4.out.1 hb); have HBB := zh hb; clear hb; have HR := zh hr; clear hr; go_wp2_with fail
   refine (HC17.out _ rfl).mono ?_; rw [HBB.out]; rintro e w21 ⟨rfl, h2⟩; have HK23 := zh (show Below w15.heap.size w15 w21 from (zbr.alloc znr _).trans (h2.mono (by simp))); have HS22 := zh (HS16.out.below HK23.out); clear h2; have hr := HR.out; clear HR; by_cases e17 : t1.kind = 17
   ·have hc9 : ¬ (t1.kind ≠ 17 ∧ t1.kind ≠ 18 ∧ t1.kind ≠ 19) := fun e9 => e9.1 e17
    rw [if_neg hc9] at hr; clear hc9; have q17 : (t1.kind != 17) = false := by rw [e17]; rfl
    clear e17; have HC26 := zh (need_yes HS22.out.pa HF4.out.1 ⟨#[61]⟩ HBB.out); have HR := zh hr; clear hr; go_wp2_with fail
    refine HC26.out.mono ?_; rintro e w24 ⟨rfl, h1, h2⟩; have HS25 := zh (HS22.out.step h1 h2); clear h1 h2; have hr := HR.out; clear HR; obtain ⟨X, hX⟩ : ∃ X, (parF K.T f).one (.exp) o (j2 + 1) = X := ⟨_, rfl⟩; rw [hX] at hr
    cases X with
    | none => exact absurd hr (by simp [Res.then])
    | some X =>
    cases X with
    | bad a n =>
     have HRR29 := zh (show Res.bad a n = r from (by dsimp only [Res.then] at hr; exact Option.some.inj hr)); have HC32 := zh (call_bad ((HAP.out f (Nat.le_refl f)).exp) HS25.out HB.out ⟨HLT20.out, by have := HRM.out; have := HI.out; have := HF4.out; have := HLT20.out; (try simp only [zS]); omega⟩ HO.out hX); clear hr hX; go_wp2_with fail
     refine HC32.out.mono ?_; rintro e wb ⟨rfl, hb⟩; have HB31 := zh hb; clear hb; unfold wrongP; go_wp2
     exact ⟨rfl, by rw [← HRR29.out]; exact ⟨rfl, HB31.out⟩⟩
    | ok t27 j28 =>
     have hft := (fit_all HTK.out f).one (.exp) o (j2 + 1) HLT20.out; rw [hX] at hft; obtain ⟨f1, f2, f3⟩ := hft; simp only [lazy1, sl1, ex1, zf] at f2 f3
     have HF30 := zh (And.intro f1 (And.intro f2 f3)); clear f1 f2 f3; have HC36 := zh (call_ok ((HAP.out f (Nat.le_refl f)).exp) HS25.out ⟨HLT20.out, by have := HRM.out; have := HI.out; have := HF4.out; have := HLT20.out; (try simp only [zS]); omega⟩ HO.out hX); dsimp only [Res.then] at hr
     clear hX; have HR := zh hr; clear hr; go_wp2_with fail
     refine HC36.out.mono ?_; rintro e w33 ⟨rfl, fp34, h1, h2⟩; obtain ⟨n37, hn⟩ : ∃ n, n = nr ns [t1] t27 := ⟨_, rfl⟩; rw [← hn]; have HN38 := zh hn; have HS35 := zh (show St K w p j28 o sn ns fp [t1, t27] w33 fp34 from h1); clear h1 h2 hn; have hr := HR.out; clear HR; have HRR40 := zh (show Res.ok _ _ = r from Option.some.inj hr); clear hr; have HL39 := zh (show ∀ W, W = w33.alloc (.cells #[natV n11, natV n37] 3) → Calls Tryz.prog 23 #[.pointer (some ⟨p, 0, none⟩), .int .i64 6, .string ⟨#[]⟩, natV (tk K.T j2).a, .slice (some ⟨w33.heap.size, 0, none⟩) 2 2] W (OutP K w p o sn ns fp (.ok (.mk 6 ⟨#[]⟩ (tk K.T j2).a [t1, t27]) j28)) from fun W hW => by
      subst hW; exact lay_fin (HS35.out.below (zbr.alloc znr _)) (by have := HRM.out; have := HI.out; have := HF4.out; have := HLT20.out; have := HF30.out; (try simp only [ptsS, ptS, noneT, ptsS_append, List.nil_append, List.cons_append, Nat.add_zero, Nat.zero_add]); omega) (by simp) 6 ⟨#[]⟩ (tk K.T j2).a (KidsV.new w33 n11 [n37] _ rfl) (by simp only [HN12.out, HN38.out, nr, roots, ptsS, Nat.add_zero, Nat.add_assoc]))
     try unfold natV
     go_wp2_with fail
     refine (HL39.out _ rfl).mono ?_; rintro e wz ⟨rfl, fpz, h1, h2⟩; have HZ41 := zh (show OutP K w p o sn ns fp (.ok (.mk 6 ⟨#[]⟩ (tk K.T j2).a [t1, t27]) j28) (.returned _) wz from ⟨rfl, fpz, h1, h2⟩); clear h1 h2; go_wp2
     go_ret
     exact (by rw [← HRR40.out]; exact HZ41.out)
   ·by_cases e18 : t1.kind = 18
    ·have hc9 : ¬ (t1.kind ≠ 17 ∧ t1.kind ≠ 18 ∧ t1.kind ≠ 19) := fun e9 => e9.2.1 e18
     rw [if_neg hc9] at hr; clear hc9; have q17 : (t1.kind != 17) = true := bne_iff_ne.2 e17; have q18 : (t1.kind != 18) = false := by rw [e18]; rfl
     clear e17 e18; have HC44 := zh (need_yes HS22.out.pa HF4.out.1 ⟨#[61]⟩ HBB.out); have HR := zh hr; clear hr; go_wp2_with fail
     refine HC44.out.mono ?_; rintro e w42 ⟨rfl, h1, h2⟩; have HS43 := zh (HS22.out.step h1 h2); clear h1 h2; have hr := HR.out; clear HR; obtain ⟨X, hX⟩ : ∃ X, (parF K.T f).one (.exp) o (j2 + 1) = X := ⟨_, rfl⟩; rw [hX] at hr
     cases X with
     | none => exact absurd hr (by simp [Res.then])
     | some X =>
     cases X with
     | bad a n =>
      have HRR47 := zh (show Res.bad a n = r from (by dsimp only [Res.then] at hr; exact Option.some.inj hr)); have HC50 := zh (call_bad ((HAP.out f (Nat.le_refl f)).exp) HS43.out HB.out ⟨HLT20.out, by have := HRM.out; have := HI.out; have := HF4.out; have := HLT20.out; (try simp only [zS]); omega⟩ HO.out hX); clear hr hX; go_wp2_with fail
      refine HC50.out.mono ?_; rintro e wb ⟨rfl, hb⟩; have HB49 := zh hb; clear hb; unfold wrongP; go_wp2
      exact ⟨rfl, by rw [← HRR47.out]; exact ⟨rfl, HB49.out⟩⟩
     | ok t45 j46 =>
      have hft := (fit_all HTK.out f).one (.exp) o (j2 + 1) HLT20.out; rw [hX] at hft; obtain ⟨f1, f2, f3⟩ := hft; simp only [lazy1, sl1, ex1, zf] at f2 f3
      have HF48 := zh (And.intro f1 (And.intro f2 f3)); clear f1 f2 f3; have HC54 := zh (call_ok ((HAP.out f (Nat.le_refl f)).exp) HS43.out ⟨HLT20.out, by have := HRM.out; have := HI.out; have := HF4.out; have := HLT20.out; (try simp only [zS]); omega⟩ HO.out hX); dsimp only [Res.then] at hr
      clear hX; have HR := zh hr; clear hr; go_wp2_with fail
      refine HC54.out.mono ?_; rintro e w51 ⟨rfl, fp52, h1, h2⟩; obtain ⟨n55, hn⟩ : ∃ n, n = nr ns [t1] t45 := ⟨_, rfl⟩; rw [← hn]; have HN56 := zh hn; have HS53 := zh (show St K w p j46 o sn ns fp [t1, t45] w51 fp52 from h1); clear h1 h2 hn; have hr := HR.out; clear HR; have HRR58 := zh (show Res.ok _ _ = r from Option.some.inj hr); clear hr; have HL57 := zh (show ∀ W, W = w51.alloc (.cells #[natV n11, natV n55] 3) → Calls Tryz.prog 23 #[.pointer (some ⟨p, 0, none⟩), .int .i64 6, .string ⟨#[]⟩, natV (tk K.T j2).a, .slice (some ⟨w51.heap.size, 0, none⟩) 2 2] W (OutP K w p o sn ns fp (.ok (.mk 6 ⟨#[]⟩ (tk K.T j2).a [t1, t45]) j46)) from fun W hW => by
       subst hW; exact lay_fin (HS53.out.below (zbr.alloc znr _)) (by have := HRM.out; have := HI.out; have := HF4.out; have := HLT20.out; have := HF48.out; (try simp only [ptsS, ptS, noneT, ptsS_append, List.nil_append, List.cons_append, Nat.add_zero, Nat.zero_add]); omega) (by simp) 6 ⟨#[]⟩ (tk K.T j2).a (KidsV.new w51 n11 [n55] _ rfl) (by simp only [HN12.out, HN56.out, nr, roots, ptsS, Nat.add_zero, Nat.add_assoc]))
      try unfold natV
      go_wp2_with fail
      refine (HL57.out _ rfl).mono ?_; rintro e wz ⟨rfl, fpz, h1, h2⟩; have HZ59 := zh (show OutP K w p o sn ns fp (.ok (.mk 6 ⟨#[]⟩ (tk K.T j2).a [t1, t45]) j46) (.returned _) wz from ⟨rfl, fpz, h1, h2⟩); clear h1 h2; go_wp2
      go_ret
      exact (by rw [← HRR58.out]; exact HZ59.out)
    ·by_cases e19 : t1.kind = 19
     ·have hc9 : ¬ (t1.kind ≠ 17 ∧ t1.kind ≠ 18 ∧ t1.kind ≠ 19) := fun e9 => e9.2.2 e19
      rw [if_neg hc9] at hr; clear hc9; have q17 : (t1.kind != 17) = true := bne_iff_ne.2 e17; have q18 : (t1.kind != 18) = true := bne_iff_ne.2 e18; have q19 : (t1.kind != 19) = false := by rw [e19]; rfl
      clear e17 e18 e19; have HC62 := zh (need_yes HS22.out.pa HF4.out.1 ⟨#[61]⟩ HBB.out); have HR := zh hr; clear hr; go_wp2_with fail
      refine HC62.out.mono ?_; rintro e w60 ⟨rfl, h1, h2⟩; have HS61 := zh (HS22.out.step h1 h2); clear h1 h2; have hr := HR.out; clear HR; obtain ⟨X, hX⟩ : ∃ X, (parF K.T f).one (.exp) o (j2 + 1) = X := ⟨_, rfl⟩; rw [hX] at hr
      cases X with
      | none => exact absurd hr (by simp [Res.then])
      | some X =>
      cases X with
      | bad a n =>
       have HRR65 := zh (show Res.bad a n = r from (by dsimp only [Res.then] at hr; exact Option.some.inj hr)); have HC68 := zh (call_bad ((HAP.out f (Nat.le_refl f)).exp) HS61.out HB.out ⟨HLT20.out, by have := HRM.out; have := HI.out; have := HF4.out; have := HLT20.out; (try simp only [zS]); omega⟩ HO.out hX); clear hr hX; go_wp2_with fail
       refine HC68.out.mono ?_; rintro e wb ⟨rfl, hb⟩; have HB67 := zh hb; clear hb; unfold wrongP; go_wp2
       exact ⟨rfl, by rw [← HRR65.out]; exact ⟨rfl, HB67.out⟩⟩
      | ok t63 j64 =>
       have hft := (fit_all HTK.out f).one (.exp) o (j2 + 1) HLT20.out; rw [hX] at hft; obtain ⟨f1, f2, f3⟩ := hft; simp only [lazy1, sl1, ex1, zf] at f2 f3
       have HF66 := zh (And.intro f1 (And.intro f2 f3)); clear f1 f2 f3; have HC72 := zh (call_ok ((HAP.out f (Nat.le_refl f)).exp) HS61.out ⟨HLT20.out, by have := HRM.out; have := HI.out; have := HF4.out; have := HLT20.out; (try simp only [zS]); omega⟩ HO.out hX); dsimp only [Res.then] at hr
       clear hX; have HR := zh hr; clear hr; go_wp2_with fail
       refine HC72.out.mono ?_; rintro e w69 ⟨rfl, fp70, h1, h2⟩; obtain ⟨n73, hn⟩ : ∃ n, n = nr ns [t1] t63 := ⟨_, rfl⟩; rw [← hn]; have HN74 := zh hn; have HS71 := zh (show St K w p j64 o sn ns fp [t1, t63] w69 fp70 from h1); clear h1 h2 hn; have hr := HR.out; clear HR; have HRR76 := zh (show Res.ok _ _ = r from Option.some.inj hr); clear hr; have HL75 := zh (show ∀ W, W = w69.alloc (.cells #[natV n11, natV n73] 3) → Calls Tryz.prog 23 #[.pointer (some ⟨p, 0, none⟩), .int .i64 6, .string ⟨#[]⟩, natV (tk K.T j2).a, .slice (some ⟨w69.heap.size, 0, none⟩) 2 2] W (OutP K w p o sn ns fp (.ok (.mk 6 ⟨#[]⟩ (tk K.T j2).a [t1, t63]) j64)) from fun W hW => by
        subst hW; exact lay_fin (HS71.out.below (zbr.alloc znr _)) (by have := HRM.out; have := HI.out; have := HF4.out; have := HLT20.out; have := HF66.out; (try simp only [ptsS, ptS, noneT, ptsS_append, List.nil_append, List.cons_append, Nat.add_zero, Nat.zero_add]); omega) (by simp) 6 ⟨#[]⟩ (tk K.T j2).a (KidsV.new w69 n11 [n73] _ rfl) (by simp only [HN12.out, HN74.out, nr, roots, ptsS, Nat.add_zero, Nat.add_assoc]))
       try unfold natV
       go_wp2_with fail
       refine (HL75.out _ rfl).mono ?_; rintro e wz ⟨rfl, fpz, h1, h2⟩; have HZ77 := zh (show OutP K w p o sn ns fp (.ok (.mk 6 ⟨#[]⟩ (tk K.T j2).a [t1, t63]) j64) (.returned _) wz from ⟨rfl, fpz, h1, h2⟩); clear h1 h2; go_wp2
       go_ret
       exact (by rw [← HRR76.out]; exact HZ77.out)
     ·rw [if_pos ⟨e17, e18, e19⟩] at hr
      have q17 : (t1.kind != 17) = true := bne_iff_ne.2 e17; have q18 : (t1.kind != 18) = true := bne_iff_ne.2 e18; have q19 : (t1.kind != 19) = true := bne_iff_ne.2 e19; clear e17 e18 e19; have HRR78 := zh (show Res.bad (tk K.T j2).a 70 = r from (by exact Option.some.inj hr)); have HC80 := zh ((show Calls Tryz.prog 44 #[.pointer (some ⟨p, 0, none⟩), natV (tk K.T j2).a] w21 (OutB w p (tk K.T j2).a 70) from (no_any _ _ _).mono fun e w' hh => ⟨hh.1, by rw [← hh.2]; exact HS22.out.bad HB.out zbr⟩)); clear hr; go_wp2_with fail
      refine HC80.out.mono ?_; rintro e wb ⟨rfl, hb⟩; have HB79 := zh hb; clear hb; unfold wrongP; go_wp2
      exact ⟨rfl, by rw [← HRR78.out]; exact ⟨rfl, HB79.out⟩⟩
  | false =>
   rw [if_neg (by rw [hb]; decide)] at hr; have HBB := zh hb; clear hb; have HR := zh hr; clear hr; go_wp2_with fail
   refine (HC17.out _ rfl).mono ?_; rw [HBB.out]; rintro e w81 ⟨rfl, h2⟩; have HK83 := zh (show Below w15.heap.size w15 w81 from (zbr.alloc znr _).trans (h2.mono (by simp))); have HS82 := zh (HS16.out.below HK83.out); clear h2; have hr := HR.out; clear HR; by_cases e20 : t1.kind = 20
   ·have hc9 : ¬ (t1.kind ≠ 20 ∧ t1.kind ≠ 21) := fun e9 => e9.1 e20
    rw [if_neg hc9] at hr; clear hc9; have q20 : (t1.kind != 20) = false := by rw [e20]; rfl
    clear e20; obtain ⟨gb2, N2, c92, A92, n92, d92, hkN, hpN, hgN, hnd⟩ := pa_node (ns := ns ++ flats ns.length ([] ++ t1 :: [])) (HS82.out.pa) (root_at ns [] [] t1); rw [← HN12.out] at hkN hnd; dsimp only at hnd
    obtain ⟨y1, y2, y3, y4, y5⟩ := hnd; have hr0 : (0 : Int) ≤ (n11 : Int) := by omega
    have hr1 : (n11 : Int) < (N2 : Int) := by omega
    simp only [Addr.add_mid, Nat.zero_add] at y5
    clear hkN hpN hgN y2 y3 y4; have HRR85 := zh (show Res.ok _ _ = r from Option.some.inj hr); clear hr; have HL84 := zh (show ∀ W, W = w81.alloc (.cells #[natV n11] 3) → Calls Tryz.prog 23 #[.pointer (some ⟨p, 0, none⟩), .int .i64 7, .string ⟨#[]⟩, natV t1.a, .slice (some ⟨w81.heap.size, 0, none⟩) 1 1] W (OutP K w p o sn ns fp (.ok (.mk 7 ⟨#[]⟩ t1.a [t1]) j2)) from fun W hW => by
     subst hW; exact lay_fin (HS82.out.below (zbr.alloc znr _)) (by have := HRM.out; have := HI.out; have := HF4.out; (try simp only [ptsS, ptS, noneT, ptsS_append, List.nil_append, List.cons_append, Nat.add_zero, Nat.zero_add]); omega) (by simp) 7 ⟨#[]⟩ t1.a (KidsV.new w81 n11 [] _ rfl) (by simp only [HN12.out, nr, roots, ptsS, Nat.add_zero, Nat.add_assoc]))
    try unfold natV
    go_wp2_with fail
    refine (HL84.out _ rfl).mono ?_; rintro e wz ⟨rfl, fpz, h1, h2⟩; have HZ86 := zh (show OutP K w p o sn ns fp (.ok (.mk 7 ⟨#[]⟩ t1.a [t1]) j2) (.returned _) wz from ⟨rfl, fpz, h1, h2⟩); clear h1 h2; go_wp2
    go_ret
    exact (by rw [← HRR85.out]; exact HZ86.out)
   ·by_cases e21 : t1.kind = 21
    ·have hc9 : ¬ (t1.kind ≠ 20 ∧ t1.kind ≠ 21) := fun e9 => e9.2 e21
     rw [if_neg hc9] at hr; clear hc9; have q20 : (t1.kind != 20) = true := bne_iff_ne.2 e20; have q21 : (t1.kind != 21) = false := by rw [e21]; rfl
     clear e20 e21; obtain ⟨gb2, N2, c92, A92, n92, d92, hkN, hpN, hgN, hnd⟩ := pa_node (ns := ns ++ flats ns.length ([] ++ t1 :: [])) (HS82.out.pa) (root_at ns [] [] t1); rw [← HN12.out] at hkN hnd; dsimp only at hnd
     obtain ⟨y1, y2, y3, y4, y5⟩ := hnd; have hr0 : (0 : Int) ≤ (n11 : Int) := by omega
     have hr1 : (n11 : Int) < (N2 : Int) := by omega
     simp only [Addr.add_mid, Nat.zero_add] at y5
     clear hkN hpN hgN y2 y3 y4; have HRR88 := zh (show Res.ok _ _ = r from Option.some.inj hr); clear hr; have HL87 := zh (show ∀ W, W = w81.alloc (.cells #[natV n11] 3) → Calls Tryz.prog 23 #[.pointer (some ⟨p, 0, none⟩), .int .i64 7, .string ⟨#[]⟩, natV t1.a, .slice (some ⟨w81.heap.size, 0, none⟩) 1 1] W (OutP K w p o sn ns fp (.ok (.mk 7 ⟨#[]⟩ t1.a [t1]) j2)) from fun W hW => by
      subst hW; exact lay_fin (HS82.out.below (zbr.alloc znr _)) (by have := HRM.out; have := HI.out; have := HF4.out; (try simp only [ptsS, ptS, noneT, ptsS_append, List.nil_append, List.cons_append, Nat.add_zero, Nat.zero_add]); omega) (by simp) 7 ⟨#[]⟩ t1.a (KidsV.new w81 n11 [] _ rfl) (by simp only [HN12.out, nr, roots, ptsS, Nat.add_zero, Nat.add_assoc]))
     try unfold natV
     go_wp2_with fail
     refine (HL87.out _ rfl).mono ?_; rintro e wz ⟨rfl, fpz, h1, h2⟩; have HZ89 := zh (show OutP K w p o sn ns fp (.ok (.mk 7 ⟨#[]⟩ t1.a [t1]) j2) (.returned _) wz from ⟨rfl, fpz, h1, h2⟩); clear h1 h2; go_wp2
     go_ret
     exact (by rw [← HRR88.out]; exact HZ89.out)
    ·rw [if_pos ⟨e20, e21⟩] at hr
     have q20 : (t1.kind != 20) = true := bne_iff_ne.2 e20; have q21 : (t1.kind != 21) = true := bne_iff_ne.2 e21; clear e20 e21; have HRR90 := zh (show Res.bad a 70 = r from (by exact Option.some.inj hr)); have HC92 := zh ((show Calls Tryz.prog 44 #[.pointer (some ⟨p, 0, none⟩), natV a] w81 (OutB w p a 70) from (no_any _ _ _).mono fun e w' hh => ⟨hh.1, by rw [← hh.2]; exact HS82.out.bad HB.out zbr⟩)); clear hr; go_wp2_with fail
     refine HC92.out.mono ?_; rintro e wb ⟨rfl, hb⟩; have HB91 := zh hb; clear hb; unfold wrongP; go_wp2
     exact ⟨rfl, by rw [← HRR90.out]; exact ⟨rfl, HB91.out⟩⟩

theorem walk_name {f : Nat} (AP : ∀ g, g ≤ f → AllPart g) (t : Tok) : Callee (f + 1) (.name t) 130 (fun p => #[.pointer (some ⟨p, 0, none⟩), tokJ t]) := by
 intro K w p i o sn ns fp h hroom ho r hr
 change stepName K.T (parF K.T f) t o i = some r at hr
 unfold stepName at hr
 have HB := zh (Beg.of h)
 have HTK := zh h.env.tok
 have HRM := zh hroom.2
 have HI := zh hroom.1
 have HO := zh ho
 have HS0 := zh (St.start h)
 have HLN := zh h.env.len
 have HAP := zh AP
 clear h hroom ho AP
 have HR := zh hr
 clear hr
 go_enter Tryz.func130, Tryz.ntmps130
 have hr := HR.out
 clear HR
 unfold tokJ
 have HR := zh hr
 clear hr
 go_upto_region 1 with fail
 obtain ⟨b1, hb⟩ : ∃ b, b = w.heap.size := ⟨_, rfl⟩
 rw [← hb]
 refine gen_wpT fun w2 hW => ?_
 have HX3 := zh (show w2.heap[b1]? = some (.cells #[.int .i64 t.kind, .string t.text, .int .i64 (t.a : Int), .int .i64 (t.z : Int), .int .i64 t.n] 65 (0, 0)) by rw [← hW]; exact heap_new_at _ _ _ hb.symm)
 have HBL6 := zh (show Below w.heap.size w w2 by rw [← hW]; exact zbr.alloc znr _)
 have HS5 := zh (HS0.out.below HBL6.out)
 have HA4 := zh (Away.new HS0.out.pa (Nat.le_of_eq hb.symm) (blk_lt HX3.out))
 have HBE7 := zh (show w.heap.size ≤ b1 from by have := HS0.out.pt.fr.size; omega)
 clear hW hb
 have x8 := zc 0 HX3.out rfl
 have x9 := zc 1 HX3.out rfl
 have x10 := zc 2 HX3.out rfl
 have x11 := zc 3 HX3.out rfl
 have x12 := zc 4 HX3.out rfl
 have xl13 := blk_lt HX3.out
 have hr := HR.out
 clear HR
 have HC16 := zh (at_any HS5.out.pa HI.out)
 have HR := zh hr
 clear hr
 go_wp2_with fail
 clear x8 x9 x10 x11 x12 xl13
 refine HC16.out.mono ?_
 rintro e w14 ⟨rfl, h2⟩
 have HS15 := zh (HS5.out.below h2)
 have HX17 := zh (below_blk h2 HX3.out)
 have HA18 := zh (HA4.out.on h2.size)
 clear h2
 have x19 := zc 0 HX17.out rfl
 have x20 := zc 1 HX17.out rfl
 have x21 := zc 2 HX17.out rfl
 have x22 := zc 3 HX17.out rfl
 have x23 := zc 4 HX17.out rfl
 have xl24 := blk_lt HX17.out
 have hr := HR.out
 clear HR
 try unfold natV
 cases hbu : builtinL t.text with
 | none =>
  rw [hbu] at hr; dsimp only at hr
  have HBI := zh (built_neg hbu); clear hbu; have HR := zh hr; clear hr; go_wp2_with fail
  refine (builtin_any _ _).mono ?_; rintro e wq ⟨rfl, rfl⟩; rw [HBI.out]; have hr := HR.out; clear HR; have HRR26 := zh (show Res.ok _ _ = r from Option.some.inj hr); clear hr; have HL25 := zh (lay_fin (L := []) HS15.out (by have := HRM.out; have := HI.out; (try simp only [ptsS, ptS, noneT, ptsS_append, List.nil_append, List.cons_append, Nat.add_zero, Nat.zero_add]); omega) (by simp) 17 t.text t.a (KidsV.nil w14) rfl); go_wp2_with fail
  refine HL25.out.mono ?_; rintro e wz ⟨rfl, fpz, h1, h2⟩; have HZ27 := zh (show OutP K w p o sn ns fp (.ok (.mk 17 t.text t.a []) i) (.returned _) wz from ⟨rfl, fpz, h1, h2⟩); clear h1 h2; go_wp2
  go_ret
  exact (by rw [← HRR26.out]; exact HZ27.out)
 | some nb =>
  rw [hbu] at hr; dsimp only at hr
  have HBI := zh (built_pos hbu).1; have HB12 := zh (built_pos hbu).2; clear hbu; have hb0 : ¬ (nb : Int) < 0 := by omega
  have HR := zh hr; clear hr; go_wp2_with fail
  refine (builtin_any _ _).mono ?_; rintro e wq ⟨rfl, rfl⟩; rw [HBI.out]; have hr := HR.out; clear HR
  cases hb : isAny (tk K.T i) [⟨#[40]⟩] with
  | true =>
   rw [if_pos hb] at hr; have HLT28 := zh (any_lt HTK.out HI.out hb); have HC31 := zh (got_yes HS15.out.pa HI.out ⟨#[40]⟩ hb); clear hb; have HR := zh hr; clear hr; go_wp2_with fail
   clear x19 x20 x21 x22 x23 xl24; refine HC31.out.mono ?_; rintro e w29 ⟨rfl, h1, h2⟩; have HS30 := zh (HS15.out.step h1 h2); have HX32 := zh (Away.blkTo HX17.out HA18.out h2); have HA33 := zh (HA18.out.to h2); clear h1 h2; have x34 := zc 0 HX32.out rfl; have x35 := zc 1 HX32.out rfl; have x36 := zc 2 HX32.out rfl; have x37 := zc 3 HX32.out rfl; have x38 := zc 4 HX32.out rfl; have xl39 := blk_lt HX32.out; have hr := HR.out; clear HR; obtain ⟨X, hX⟩ : ∃ X, (parF K.T f).many (.args (tk K.T i).a) o (i + 1) = X := ⟨_, rfl⟩; rw [hX] at hr
   cases X with
   | none => exact absurd hr (by simp [Res.then])
   | some X =>
   cases X with
   | bad a n =>
    have HRR40 := zh (show Res.bad a n = r from by dsimp only [Res.then] at hr; exact Option.some.inj hr); have HC44 := zh (args_bad ((HAP.out f (Nat.le_refl f)).args _) HS30.out HB.out ⟨HLT28.out, by have := HRM.out; have := HI.out; have := HLT28.out; (try simp only [zS]); omega⟩ HO.out hX); clear hr hX; unfold natV at HC44; go_wp2_with fail
    refine HC44.out.mono ?_; rintro e wb ⟨rfl, hb⟩; have HBB := zh hb; clear hb; unfold wrongP; go_wp2
    exact ⟨rfl, by rw [← HRR40.out]; exact ⟨rfl, HBB.out⟩⟩
   | ok l41 j42 =>
    dsimp only [Res.then] at hr
    have hft := (fit_all HTK.out f).many (.args (tk K.T i).a) o (i + 1) HLT28.out; rw [hX] at hft; have HF43 := zh (show j42 < K.T.length ∧ (i + 1) < j42 ∧ ptsS l41 + 4 ≤ 4 * (j42 - (i + 1)) from hft); clear hft; have HC44 := zh (args_ok ((HAP.out f (Nat.le_refl f)).args _) HS30.out ⟨HLT28.out, by have := HRM.out; have := HI.out; have := HLT28.out; (try simp only [zS]); omega⟩ HO.out hX); clear hX; unfold natV at HC44; have HR := zh hr; clear hr; go_wp2_with fail
    clear x34 x35 x36 x37 x38 xl39; refine HC44.out.mono ?_; rintro e w45 ⟨A46, c47, fp48, rfl, h1, h2, h3, h4⟩; clear h4; obtain ⟨k49, hk⟩ : ∃ k, k = l41.length := ⟨_, rfl⟩; rw [← hk] at h3 ⊢; have HK50 := zh hk; have HS51 := zh (show St K w p j42 o sn ns fp l41 w45 fp48 from h1); have HV52 := zh (show Ints w45 p fp48 (.slice A46 k49 c47) (roots ns.length l41) from h3); have HX53 := zh (Away.blkTo HX32.out HA33.out h2); have HA54 := zh (HA33.out.to h2); clear h1 h2 h3 hk; have x55 := zc 0 HX53.out rfl; have x56 := zc 1 HX53.out rfl; have x57 := zc 2 HX53.out rfl; have x58 := zc 3 HX53.out rfl; have x59 := zc 4 HX53.out rfl; have xl60 := blk_lt HX53.out; have hr := HR.out; clear HR; by_cases hl : l41.length ≠ nb
    ·rw [if_pos hl] at hr
     have hcm : ((k49 : Int) != (nb : Int)) = true := bne_iff_ne.2 (by have := HK50.out; omega); clear hl; have HR := zh hr; clear hr; go_wp2_with fail
     refine (builtin_any _ _).mono ?_; rintro e wq ⟨rfl, rfl⟩; rw [HBI.out]; have hr := HR.out; clear HR; have HRR61 := zh (show Res.bad t.a 70 = r from (by exact Option.some.inj hr)); have HC63 := zh ((show Calls Tryz.prog 44 #[.pointer (some ⟨p, 0, none⟩), natV t.a] w45 (OutB w p t.a 70) from (no_any _ _ _).mono fun e w' hh => ⟨hh.1, by rw [← hh.2]; exact HS51.out.bad HB.out zbr⟩)); clear hr; go_wp2_with fail
     refine HC63.out.mono ?_; rintro e wb ⟨rfl, hb⟩; have HB62 := zh hb; clear hb; unfold wrongP; go_wp2
     exact ⟨rfl, by rw [← HRR61.out]; exact ⟨rfl, HB62.out⟩⟩
    ·rw [if_neg hl] at hr
     have HLL := zh (show k49 = nb by have := HK50.out; omega); have hcm : ((k49 : Int) != (nb : Int)) = false := by rw [HLL.out]; simp
     clear hl; have HR := zh hr; clear hr; go_wp2_with fail
     refine (builtin_any _ _).mono ?_; rintro e wq ⟨rfl, rfl⟩; rw [HBI.out]; have hr := HR.out; clear HR
     cases hrd : (t.text.toList == [114, 101, 97, 100]) with
     | true =>
      have HRW := zh (show t.text = ⟨#[114, 101, 97, 100]⟩ ∨ t.text = ⟨#[119, 114, 105, 116, 101]⟩ from .inl (eqB hrd)); obtain ⟨x, rest, rfl⟩ : ∃ x rest, l41 = x :: rest := by
       cases l41 with
       | nil => exact absurd HK50.out (by have := HLL.out; have := HB12.out; simp; omega)
       | cons x rest => exact ⟨x, rest, rfl⟩
      have HRLz := zh (show ns.length + ptsS (x :: rest) + 4 * (K.T.length - j42) ≤ 900000 by have := HRM.out; have := HI.out; have := HLT28.out; have := HF43.out; omega); obtain ⟨n, hn⟩ : ∃ n, n = nr ns [] x := ⟨_, rfl⟩; have HNX := zh hn; clear hn; obtain ⟨gb, N, c9, A9, n9, d9, hkN, hpN, hgN, hnd⟩ := pa_node (ns := ns ++ flats ns.length ([] ++ x :: rest)) (HS51.out.pa) (root_at ns [] rest x); rw [← HNX.out] at hkN hnd; dsimp only at hnd
      obtain ⟨A8, c8, hv8, hn1, hn2, hfm8⟩ := own_form HV52.out.own; obtain ⟨gl, hgl, _, hgl2, _, hgc⟩ := hfm8 (by simp [roots])
      injection hv8 with e1 e2 e3
      subst e1 e3; have z0 : w45.cell? ⟨gl, 0, none⟩ = some (natV n) := hgc 0 _ (by rw [HNX.out]; simp [roots, nr, ptsS]); unfold natV at z0; have hq0 : (0 : Int) < (k49 : Int) := by have := HLL.out; have := HB12.out; omega
      have hr0 : (0 : Int) ≤ (n : Int) := by omega
      have hr1 : (n : Int) < (N : Int) := by omega
      obtain ⟨y1, y2, y3, y4, y5⟩ := hnd; simp only [Addr.add_mid, Nat.zero_add] at y2 y3 y4 y5
      subst hgl; clear hfm8 hgc hn1 hn2 hkN e2; have HR := zh hr; clear hr; go_wp2_with fail
      go_region
      clear x55 x56 x57 x58 x59 xl60; obtain ⟨w64, hW⟩ : ∃ W, W = (w45.alloc (.cells #[.int .i64 x.kind, .string x.text, .slice A9 n9 d9, .int .i64 (x.a : Int)] 31)).drew := ⟨_, rfl⟩; rw [← hW]; have hbl : Below w45.heap.size w45 w64 := by rw [hW]; exact (zbr.alloc znr _).drew
      have HS65 := zh (HS51.out.below hbl); have HX68 := zh (below_blk hbl HX53.out); have HA69 := zh (HA54.out.on hbl.size); have HV70 := zh (HV52.out.to (PaTo.of_below HS51.out.pa hbl)); obtain ⟨g9, hg9⟩ : ∃ g, g = w45.heap.size := ⟨_, rfl⟩; have HX66 := zh (show w64.heap[g9]? = some (.cells #[.int .i64 x.kind, .string x.text, .slice A9 n9 d9, .int .i64 (x.a : Int)] 31 (0, 0)) by rw [hW]; exact heap_new_at w45 _ _ hg9.symm); have HA67 := zh (Away.new HS51.out.pa (Nat.le_of_eq hg9.symm) (blk_lt HX66.out)); rw [← hg9]; clear hW hbl hg9 y1 y2 y3 y4 y5 z0 hq0 hr0 hr1 hgl2 hpN hgN; have x71 := zc 0 HX68.out rfl; have x72 := zc 1 HX68.out rfl; have x73 := zc 2 HX68.out rfl; have x74 := zc 3 HX68.out rfl; have x75 := zc 4 HX68.out rfl; have xl76 := blk_lt HX68.out; have x77 := zc 0 HX66.out rfl; have x78 := zc 1 HX66.out rfl; have x79 := zc 2 HX66.out rfl; have x80 := zc 3 HX66.out rfl; have xl81 := blk_lt HX66.out; have hr := HR.out; clear HR; have h7 : ((⟨#[55]⟩ : ByteArray)).toList = [55] := by rw [ByteArray.toList_eq]
      by_cases hk15 : x.kind = 15
      ·have q15 : (x.kind != 15) = false := by rw [hk15]; rfl
       by_cases hs1 : x.text.size ≤ 1
       ·have qs : ¬ (1 : Int) < (x.text.size : Int) := by omega
        cases hb1 : Op.bytesLess x.text.toList [55] with
        | true =>
         have hch : chanT x = true := by unfold chanT; rw [h7]; simp [hk15, hs1, hb1]
         rw [if_neg (fun e9 => e9.2 (show chanT x = true from hch))] at hr; clear hch hk15 hs1 h7; have HRR86 := zh (show Res.ok _ _ = r from Option.some.inj hr); clear hr; have HL85 := zh (lay_row HS65.out (by have h7 := (show ns.length + ptsS (x :: rest) + 4 * (K.T.length - j42) ≤ 900000 from HRLz.out); omega) 21 t.text t.a HV70.out); go_wp2_with fail
         refine HL85.out.mono ?_; rintro e wz ⟨rfl, fpz, h1, h2⟩; have HZ87 := zh (show OutP K w p o sn ns fp (.ok (.mk 21 t.text t.a (x :: rest)) j42) (.returned _) wz from ⟨rfl, fpz, h1, h2⟩); clear h1 h2; go_wp2
         go_ret
         exact (by rw [← HRR86.out]; first | exact HZ87.out | (have h9 := HZ87.out; rw [List.append_assoc] at h9; exact h9))
        | false =>
        cases hb2 : (x.text.toList == [55]) with
        | true =>
         have hch : chanT x = true := by unfold chanT; rw [h7]; simp [hk15, hs1, hb1, hb2]
         rw [if_neg (fun e9 => e9.2 (show chanT x = true from hch))] at hr; clear hch hk15 hs1 h7; have HRR89 := zh (show Res.ok _ _ = r from Option.some.inj hr); clear hr; have HL88 := zh (lay_row HS65.out (by have h7 := (show ns.length + ptsS (x :: rest) + 4 * (K.T.length - j42) ≤ 900000 from HRLz.out); omega) 21 t.text t.a HV70.out); go_wp2_with fail
         refine HL88.out.mono ?_; rintro e wz ⟨rfl, fpz, h1, h2⟩; have HZ90 := zh (show OutP K w p o sn ns fp (.ok (.mk 21 t.text t.a (x :: rest)) j42) (.returned _) wz from ⟨rfl, fpz, h1, h2⟩); clear h1 h2; go_wp2
         go_ret
         exact (by rw [← HRR89.out]; first | exact HZ90.out | (have h9 := HZ90.out; rw [List.append_assoc] at h9; exact h9))
        | false =>
         have hch : chanT x = false := by unfold chanT; rw [h7, hb1, hb2]; simp
         rw [if_pos ⟨HRW.out, by show ¬ chanT x = true; rw [hch]; decide⟩] at hr; clear hch hk15 hs1 h7; have HRR91 := zh (show Res.bad t.a 70 = r from (by exact Option.some.inj hr)); have HC93 := zh ((show Calls Tryz.prog 44 #[.pointer (some ⟨p, 0, none⟩), natV t.a] w64 (OutB w p t.a 70) from (no_any _ _ _).mono fun e w' hh => ⟨hh.1, by rw [← hh.2]; exact HS65.out.bad HB.out zbr⟩)); clear hr; go_wp2_with fail
         refine HC93.out.mono ?_; rintro e wb ⟨rfl, hb⟩; have HB92 := zh hb; clear hb; unfold wrongP; go_wp2
         exact ⟨rfl, by rw [← HRR91.out]; exact ⟨rfl, HB92.out⟩⟩
       ·have qs : (1 : Int) < (x.text.size : Int) := by omega
        have hch : chanT x = false := by unfold chanT; simp [hs1]
        rw [if_pos ⟨HRW.out, by show ¬ chanT x = true; rw [hch]; decide⟩] at hr; clear hch; clear hk15 hs1 h7; have HRR94 := zh (show Res.bad t.a 70 = r from (by exact Option.some.inj hr)); have HC96 := zh ((show Calls Tryz.prog 44 #[.pointer (some ⟨p, 0, none⟩), natV t.a] w64 (OutB w p t.a 70) from (no_any _ _ _).mono fun e w' hh => ⟨hh.1, by rw [← hh.2]; exact HS65.out.bad HB.out zbr⟩)); clear hr; go_wp2_with fail
        refine HC96.out.mono ?_; rintro e wb ⟨rfl, hb⟩; have HB95 := zh hb; clear hb; unfold wrongP; go_wp2
        exact ⟨rfl, by rw [← HRR94.out]; exact ⟨rfl, HB95.out⟩⟩
      ·have q15 : (x.kind != 15) = true := bne_iff_ne.2 hk15
       have hch : chanT x = false := by unfold chanT; simp [hk15]
       rw [if_pos ⟨HRW.out, by show ¬ chanT x = true; rw [hch]; decide⟩] at hr; clear hch; clear hk15 h7; have HRR82 := zh (show Res.bad t.a 70 = r from (by exact Option.some.inj hr)); have HC84 := zh ((show Calls Tryz.prog 44 #[.pointer (some ⟨p, 0, none⟩), natV t.a] w64 (OutB w p t.a 70) from (no_any _ _ _).mono fun e w' hh => ⟨hh.1, by rw [← hh.2]; exact HS65.out.bad HB.out zbr⟩)); clear hr; go_wp2_with fail
       refine HC84.out.mono ?_; rintro e wb ⟨rfl, hb⟩; have HB83 := zh hb; clear hb; unfold wrongP; go_wp2
       exact ⟨rfl, by rw [← HRR82.out]; exact ⟨rfl, HB83.out⟩⟩
     | false =>
     cases hwr : (t.text.toList == [119, 114, 105, 116, 101]) with
     | true =>
      have HRW := zh (show t.text = ⟨#[114, 101, 97, 100]⟩ ∨ t.text = ⟨#[119, 114, 105, 116, 101]⟩ from .inr (eqB hwr)); obtain ⟨x, rest, rfl⟩ : ∃ x rest, l41 = x :: rest := by
       cases l41 with
       | nil => exact absurd HK50.out (by have := HLL.out; have := HB12.out; simp; omega)
       | cons x rest => exact ⟨x, rest, rfl⟩
      have HRLz := zh (show ns.length + ptsS (x :: rest) + 4 * (K.T.length - j42) ≤ 900000 by have := HRM.out; have := HI.out; have := HLT28.out; have := HF43.out; omega); obtain ⟨n, hn⟩ : ∃ n, n = nr ns [] x := ⟨_, rfl⟩; have HNX := zh hn; clear hn; obtain ⟨gb, N, c9, A9, n9, d9, hkN, hpN, hgN, hnd⟩ := pa_node (ns := ns ++ flats ns.length ([] ++ x :: rest)) (HS51.out.pa) (root_at ns [] rest x); rw [← HNX.out] at hkN hnd; dsimp only at hnd
      obtain ⟨A8, c8, hv8, hn1, hn2, hfm8⟩ := own_form HV52.out.own; obtain ⟨gl, hgl, _, hgl2, _, hgc⟩ := hfm8 (by simp [roots])
      injection hv8 with e1 e2 e3
      subst e1 e3; have z0 : w45.cell? ⟨gl, 0, none⟩ = some (natV n) := hgc 0 _ (by rw [HNX.out]; simp [roots, nr, ptsS]); unfold natV at z0; have hq0 : (0 : Int) < (k49 : Int) := by have := HLL.out; have := HB12.out; omega
      have hr0 : (0 : Int) ≤ (n : Int) := by omega
      have hr1 : (n : Int) < (N : Int) := by omega
      obtain ⟨y1, y2, y3, y4, y5⟩ := hnd; simp only [Addr.add_mid, Nat.zero_add] at y2 y3 y4 y5
      subst hgl; clear hfm8 hgc hn1 hn2 hkN e2; have HR := zh hr; clear hr; go_wp2_with fail
      go_region
      clear x55 x56 x57 x58 x59 xl60; obtain ⟨w97, hW⟩ : ∃ W, W = (w45.alloc (.cells #[.int .i64 x.kind, .string x.text, .slice A9 n9 d9, .int .i64 (x.a : Int)] 31)).drew := ⟨_, rfl⟩; rw [← hW]; have hbl : Below w45.heap.size w45 w97 := by rw [hW]; exact (zbr.alloc znr _).drew
      have HS98 := zh (HS51.out.below hbl); have HX101 := zh (below_blk hbl HX53.out); have HA102 := zh (HA54.out.on hbl.size); have HV103 := zh (HV52.out.to (PaTo.of_below HS51.out.pa hbl)); obtain ⟨g9, hg9⟩ : ∃ g, g = w45.heap.size := ⟨_, rfl⟩; have HX99 := zh (show w97.heap[g9]? = some (.cells #[.int .i64 x.kind, .string x.text, .slice A9 n9 d9, .int .i64 (x.a : Int)] 31 (0, 0)) by rw [hW]; exact heap_new_at w45 _ _ hg9.symm); have HA100 := zh (Away.new HS51.out.pa (Nat.le_of_eq hg9.symm) (blk_lt HX99.out)); rw [← hg9]; clear hW hbl hg9 y1 y2 y3 y4 y5 z0 hq0 hr0 hr1 hgl2 hpN hgN; have x104 := zc 0 HX101.out rfl; have x105 := zc 1 HX101.out rfl; have x106 := zc 2 HX101.out rfl; have x107 := zc 3 HX101.out rfl; have x108 := zc 4 HX101.out rfl; have xl109 := blk_lt HX101.out; have x110 := zc 0 HX99.out rfl; have x111 := zc 1 HX99.out rfl; have x112 := zc 2 HX99.out rfl; have x113 := zc 3 HX99.out rfl; have xl114 := blk_lt HX99.out; have hr := HR.out; clear HR; have h7 : ((⟨#[55]⟩ : ByteArray)).toList = [55] := by rw [ByteArray.toList_eq]
      by_cases hk15 : x.kind = 15
      ·have q15 : (x.kind != 15) = false := by rw [hk15]; rfl
       by_cases hs1 : x.text.size ≤ 1
       ·have qs : ¬ (1 : Int) < (x.text.size : Int) := by omega
        cases hb1 : Op.bytesLess x.text.toList [55] with
        | true =>
         have hch : chanT x = true := by unfold chanT; rw [h7]; simp [hk15, hs1, hb1]
         rw [if_neg (fun e9 => e9.2 (show chanT x = true from hch))] at hr; clear hch hk15 hs1 h7; have HRR119 := zh (show Res.ok _ _ = r from Option.some.inj hr); clear hr; have HL118 := zh (lay_row HS98.out (by have h7 := (show ns.length + ptsS (x :: rest) + 4 * (K.T.length - j42) ≤ 900000 from HRLz.out); omega) 21 t.text t.a HV103.out); go_wp2_with fail
         refine HL118.out.mono ?_; rintro e wz ⟨rfl, fpz, h1, h2⟩; have HZ120 := zh (show OutP K w p o sn ns fp (.ok (.mk 21 t.text t.a (x :: rest)) j42) (.returned _) wz from ⟨rfl, fpz, h1, h2⟩); clear h1 h2; go_wp2
         go_ret
         exact (by rw [← HRR119.out]; first | exact HZ120.out | (have h9 := HZ120.out; rw [List.append_assoc] at h9; exact h9))
        | false =>
        cases hb2 : (x.text.toList == [55]) with
        | true =>
         have hch : chanT x = true := by unfold chanT; rw [h7]; simp [hk15, hs1, hb1, hb2]
         rw [if_neg (fun e9 => e9.2 (show chanT x = true from hch))] at hr; clear hch hk15 hs1 h7; have HRR122 := zh (show Res.ok _ _ = r from Option.some.inj hr); clear hr; have HL121 := zh (lay_row HS98.out (by have h7 := (show ns.length + ptsS (x :: rest) + 4 * (K.T.length - j42) ≤ 900000 from HRLz.out); omega) 21 t.text t.a HV103.out); go_wp2_with fail
         refine HL121.out.mono ?_; rintro e wz ⟨rfl, fpz, h1, h2⟩; have HZ123 := zh (show OutP K w p o sn ns fp (.ok (.mk 21 t.text t.a (x :: rest)) j42) (.returned _) wz from ⟨rfl, fpz, h1, h2⟩); clear h1 h2; go_wp2
         go_ret
         exact (by rw [← HRR122.out]; first | exact HZ123.out | (have h9 := HZ123.out; rw [List.append_assoc] at h9; exact h9))
        | false =>
         have hch : chanT x = false := by unfold chanT; rw [h7, hb1, hb2]; simp
         rw [if_pos ⟨HRW.out, by show ¬ chanT x = true; rw [hch]; decide⟩] at hr; clear hch hk15 hs1 h7; have HRR124 := zh (show Res.bad t.a 70 = r from (by exact Option.some.inj hr)); have HC126 := zh ((show Calls Tryz.prog 44 #[.pointer (some ⟨p, 0, none⟩), natV t.a] w97 (OutB w p t.a 70) from (no_any _ _ _).mono fun e w' hh => ⟨hh.1, by rw [← hh.2]; exact HS98.out.bad HB.out zbr⟩)); clear hr; go_wp2_with fail
         refine HC126.out.mono ?_; rintro e wb ⟨rfl, hb⟩; have HB125 := zh hb; clear hb; unfold wrongP; go_wp2
         exact ⟨rfl, by rw [← HRR124.out]; exact ⟨rfl, HB125.out⟩⟩
       ·have qs : (1 : Int) < (x.text.size : Int) := by omega
        have hch : chanT x = false := by unfold chanT; simp [hs1]
        rw [if_pos ⟨HRW.out, by show ¬ chanT x = true; rw [hch]; decide⟩] at hr; clear hch; clear hk15 hs1 h7; have HRR127 := zh (show Res.bad t.a 70 = r from (by exact Option.some.inj hr)); have HC129 := zh ((show Calls Tryz.prog 44 #[.pointer (some ⟨p, 0, none⟩), natV t.a] w97 (OutB w p t.a 70) from (no_any _ _ _).mono fun e w' hh => ⟨hh.1, by rw [← hh.2]; exact HS98.out.bad HB.out zbr⟩)); clear hr; go_wp2_with fail
        refine HC129.out.mono ?_; rintro e wb ⟨rfl, hb⟩; have HB128 := zh hb; clear hb; unfold wrongP; go_wp2
        exact ⟨rfl, by rw [← HRR127.out]; exact ⟨rfl, HB128.out⟩⟩
      ·have q15 : (x.kind != 15) = true := bne_iff_ne.2 hk15
       have hch : chanT x = false := by unfold chanT; simp [hk15]
       rw [if_pos ⟨HRW.out, by show ¬ chanT x = true; rw [hch]; decide⟩] at hr; clear hch; clear hk15 h7; have HRR115 := zh (show Res.bad t.a 70 = r from (by exact Option.some.inj hr)); have HC117 := zh ((show Calls Tryz.prog 44 #[.pointer (some ⟨p, 0, none⟩), natV t.a] w97 (OutB w p t.a 70) from (no_any _ _ _).mono fun e w' hh => ⟨hh.1, by rw [← hh.2]; exact HS98.out.bad HB.out zbr⟩)); clear hr; go_wp2_with fail
       refine HC117.out.mono ?_; rintro e wb ⟨rfl, hb⟩; have HB116 := zh hb; clear hb; unfold wrongP; go_wp2
       exact ⟨rfl, by rw [← HRR115.out]; exact ⟨rfl, HB116.out⟩⟩
     | false =>
      rw [if_neg (fun e9 => e9.1.elim (neB hrd) (neB hwr))] at hr; have HRR131 := zh (show Res.ok _ _ = r from Option.some.inj hr); clear hr; have HL130 := zh (lay_row HS51.out (by have h7 := (show ns.length + ptsS l41 + 4 * (K.T.length - j42) ≤ 900000 from by have := HRM.out; have := HI.out; have := HLT28.out; have := HF43.out; (try simp only [zS]); omega); omega) 21 t.text t.a HV52.out); go_wp2_with fail
      refine HL130.out.mono ?_; rintro e wz ⟨rfl, fpz, h1, h2⟩; have HZ132 := zh (show OutP K w p o sn ns fp (.ok (.mk 21 t.text t.a l41) j42) (.returned _) wz from ⟨rfl, fpz, h1, h2⟩); clear h1 h2; go_wp2
      go_ret
      exact (by rw [← HRR131.out]; first | exact HZ132.out | (have h9 := HZ132.out; rw [List.append_assoc] at h9; exact h9))
  | false =>
   rw [if_neg (by rw [hb]; decide)] at hr; have HC135 := zh (got_no HS15.out.pa HI.out ⟨#[40]⟩ hb); clear hb; have HR := zh hr; clear hr; go_wp2_with fail
   clear x19 x20 x21 x22 x23 xl24; refine HC135.out.mono ?_; rintro e w133 ⟨rfl, h1, h2⟩; have HS134 := zh (HS15.out.below h2); have HX136 := zh (below_blk h2 HX17.out); have HA137 := zh (HA18.out.on h2.size); clear h2 h1; have x138 := zc 0 HX136.out rfl; have x139 := zc 1 HX136.out rfl; have x140 := zc 2 HX136.out rfl; have x141 := zc 3 HX136.out rfl; have x142 := zc 4 HX136.out rfl; have xl143 := blk_lt HX136.out; have hr := HR.out; clear HR; have HRR144 := zh (show Res.bad t.a 70 = r from (by exact Option.some.inj hr)); have HC146 := zh ((show Calls Tryz.prog 44 #[.pointer (some ⟨p, 0, none⟩), natV t.a] w133 (OutB w p t.a 70) from (no_any _ _ _).mono fun e w' hh => ⟨hh.1, by rw [← hh.2]; exact HS134.out.bad HB.out zbr⟩)); clear hr; go_wp2_with fail
   refine HC146.out.mono ?_; rintro e wb ⟨rfl, hb⟩; have HB145 := zh hb; clear hb; unfold wrongP; go_wp2
   exact ⟨rfl, by rw [← HRR144.out]; exact ⟨rfl, HB145.out⟩⟩

def ItemX (X : List Nat) (K : PaK) (w : World) (p o : Nat) (sn : Fin 8 → Bool) (ns : List Nd) (fp : List Nat) (Inv : List PT → World → List Nat → Prop) (acc : List PT) : Res PT → Ending → World → Prop
 | .bad a n => OutB w p a n
 | .ok t j => fun e w' => e = .returned (natV (ns.length + ptS t - 1)) ∧ ∃ fp', PaAt K w' p j o sn (ns ++ flat ns.length t) fp' ∧ Fr (X ++ fp) w w' ∧ (∀ b ∈ fp', b ∈ fp ∨ w.heap.size ≤ b) ∧ Inv (acc ++ [t]) w' fp'
section
variable {K : PaK} {w0 w w' w1 w2 : World} {p i j o : Nat} {sn : Fin 8 → Bool} {ns : List Nd} {fp0 fp fp' fp1 fp2 X : List Nat} {L : List PT}
theorem PaTo.transX (h : PaTo w (X ++ fp) w1 fp1) (h2 : Fr (X ++ fp1) w1 w2) (h3 : ∀ b ∈ fp2, b ∈ fp1 ∨ w1.heap.size ≤ b) : PaTo w (X ++ fp) w2 fp2 :=
 ⟨h.fr.trans h2 fun b hb => (List.mem_append.1 hb).elim (fun h' => .inl (List.mem_append.2 (.inl h'))) (h.new b), fun b hb => (h3 b hb).elim (h.new b) fun h' => .inr (Nat.le_trans h.fr.size h')⟩
theorem Ints.toX {v : Value} {l : List Nat} (h : Ints w p fp v l) (k : Fr (X ++ fp) w w') (k2 : ∀ b ∈ fp', b ∈ fp ∨ w.heap.size ≤ b) (hX : ∀ g, v.ownBlock = some g → g ∉ X) : Ints w' p fp' v l :=
 ⟨k.own h.own fun g hg e => (List.mem_append.1 e).elim (hX g hg) (h.away g hg).2.2, fun g hg => ⟨(h.away g hg).1, Nat.lt_of_lt_of_le (h.away g hg).2.1 k.size, fun e => (k2 g e).elim (h.away g hg).2.2 fun h' => by have := (h.away g hg).2.1; omega⟩, h.nil_⟩
theorem until_own {F : Nat} (X : List Nat) (hXp : ∀ b ∈ X, p ≤ b ∧ b < w.heap.size) (h : PaAt K w p i o sn ns fp) (hroom : Room K i ns) (ho : o ≤ 150) (e : ByteArray) (it : Item) {fn : FuncId} {fst cap args : Array Value} (hcall : ∀ W, (callFunc fn args).run Tryz.prog W = .ok (.enter fn args) W) (harg : fst ++ cap = args)
  (Inv : List PT → World → List Nat → Prop) (hI0 : Inv [] w fp) (hIS : ∀ acc w1 w2 fp1 S, Inv acc w1 fp1 → Fr S w1 w2 → (∀ b ∈ S, b ∈ fp1 ∨ w.heap.size ≤ b) → Inv acc w2 fp1)
  (hC : ∀ g acc w1 i1 ns1 fp1, g ≤ F → PaAt K w1 p i1 o sn ns1 fp1 → Room K i1 ns1 → acc.length ≤ 900000 → Inv acc w1 fp1 → ∀ r, (parF K.T g).one (it.nt acc) o i1 = some r → Calls Tryz.prog fn args w1 (ItemX X K w1 p o sn ns1 fp1 Inv acc r))
  {r : Res (List PT)} (hr : (parF K.T F).many (.until e it []) o i = some r) :
  Calls Tryz.prog 96 #[.pointer (some ⟨p, 0, none⟩), .string e, .func (.func fn) fst cap] w (OutL K w p o sn ns (X ++ fp) r) := by
 obtain ⟨iI, hiI, hI0', hI1', hI2'⟩ := info_parts infoIn
 have HBG := zh (show Beg w p (X ++ fp) from ⟨h.lt, fun b hb => (List.mem_append.1 hb).elim (fun h' => (hXp b h').1) fun h' => (h.fpb b h').1⟩)
 have HXP := zh hXp
 have HTK := zh h.env.tok
 have HRO := zh hroom
 have HIS := zh hIS
 have HC := zh hC
 have HS0 := zh (show St K w p i o sn ns (X ++ fp) [] w fp from ⟨(St.start h).pa, Fr.refl _ _, fun b hb => .inl (List.mem_append.2 (.inr hb))⟩)
 have HLEN := zh h.env.len
 have HR0 := zh hr
 have HIN := zh hI0
 have HNI := zh h
 have HO := zh ho
 clear h hXp hroom hIS hC hr hI0 ho
 go_enter Tryz.func96, Tryz.ntmps96
 go_wp2_with fail
 go_loopw [7] (fun lv wr => ∃ (acc : List PT) (i1 : Nat) (fp1 : List Nat) (g : Nat), Hid (St K w p i1 o sn ns (X ++ fp) acc wr fp1) ∧ Hid (Ints wr p fp1 lv (roots ns.length acc)) ∧ Hid (∀ g', lv.ownBlock = some g' → w.heap.size ≤ g') ∧ Hid (Inv acc wr fp1) ∧ Hid (g ≤ F ∧ (parF K.T g).many (.until e it acc) o i1 = some r) ∧ Hid (i1 < K.T.length ∧ ns.length + ptsS acc + 4 * (K.T.length - i1) ≤ 900000)) (fun lv _ => 900001 - sliceLen lv)
 case atStart => exact ⟨[], i, fp, F, HS0, zh (Ints.nil _ _ _), zh (fun g' hg' => by simp [Value.ownBlock] at hg'), HIN, zh ⟨znr, HR0.out⟩, zh ⟨HRO.out.1, by have := HRO.out.2; simpa [ptsS] using this⟩⟩
 case round =>
  obtain ⟨acc, i1, fp1, g0, HS, HV, HVN, HIV, HG0, HRM⟩ := hrel; obtain ⟨hg0, hr⟩ := HG0.out
  cases g0 with
  | zero => exact absurd hr (by simp [parF])
  | succ g =>
  have HG := zh (show g + 1 ≤ F ∧ True from ⟨hg0, trivial⟩); clear hg0 HG0
  change stepUntil K.T (parF K.T g) e it acc o i1 = some r at hr
  unfold stepUntil at hr; obtain ⟨A1, c1, hlv, hlc1, hlc2, hfm⟩ := own_form HV.out.own; subst hlv; obtain ⟨rl, hrl⟩ : ∃ k, k = (roots ns.length acc).length := ⟨_, rfl⟩; have HRL := zh hrl; have HRL2 := zh (show rl ≤ 900000 by rw [hrl, roots_len]; have := ptsS_len acc; have := HRM.out.2; omega); have HRLA := zh (show rl = acc.length by rw [hrl, roots_len]); rw [← hrl]; clear hlc1 hlc2 hfm
  cases hb : isAny (tk K.T i1) [e] with
  | true =>
   rw [if_pos hb] at hr; have HRR := zh (show Res.ok acc (i1 + 1) = r from Option.some.inj hr); have HGO := zh (got_yes HS.out.pa HRM.out.1 e hb); clear hr hb hrl; go_wp2_with fail
   refine HGO.out.mono ?_; rintro e w2 ⟨rfl, h1, h2⟩; have HS2 := zh (HS.out.step h1 h2); have HV2 := zh (HV.out.to h2); clear h1 h2; go_wp2
   go_ret
   exact (by rw [← HRR.out]; exact ⟨.slice A1 rl c1, fp1, rfl, HS2.out.pa, HS2.out.pt, by have h9 := HV2.out; rw [← HRL.out] at h9; exact h9, by have h9 := HVN.out; rw [← HRL.out] at h9; exact h9⟩)
  | false =>
   rw [if_neg (by rw [hb]; decide)] at hr; have HGO := zh (got_no HS.out.pa HRM.out.1 e hb); clear hb; have HR := zh hr; clear hr hrl; go_wp2_with fail
   refine HGO.out.mono ?_; rintro e w2 ⟨rfl, h1, h2⟩; have HS2 := zh (HS.out.below h2); have HV2 := zh (HV.out.to (PaTo.of_below HS.out.pa h2)); have HI2 := zh (HIS.out _ _ _ _ [] HIV.out (Fr.of_below h2 []) (by simp)); clear h1 h2; by_cases hac : acc = []
   ·have hrl0 : rl = 0 := by rw [HRLA.out, hac]; rfl
    have hr := HR.out; rw [if_pos hac] at hr; clear HR; have hq : ¬ (0 : Int) < (rl : Int) := by omega
    have HLT := zh HRM.out.1; clear hac hrl0; obtain ⟨x, hX⟩ : ∃ x, (parF K.T g).one (it.nt acc) o i1 = x := ⟨_, rfl⟩; rw [hX] at hr
    cases x with
    | none => exact absurd hr (by simp [Res.then])
    | some x =>
    have HLN := zh (show ns.length + ptsS acc + 4 * (K.T.length - i1) ≤ 900000 by have := HRM.out; have := HLT.out; omega)
    cases x with
    | bad a n =>
     have HRR := zh (show Res.bad a n = r from by dsimp only [Res.then] at hr; exact Option.some.inj hr); have HCC := zh (HC.out g acc _ i1 _ _ (by have := HG.out.1; omega) HS2.out.pa ⟨HLT.out, by rw [len_more]; exact HLN.out⟩ (by have h9 := ptsS_len acc; have h8 := HLN.out; omega) HI2.out _ hX); clear hr hX; go_wp2_with fail
     refine HCC.out.mono ?_; rintro e w3 ⟨rfl, hb3⟩; have HB3 := zh (HS2.out.bad HBG.out hb3); clear hb3; unfold wrongP; go_wp2
     exact ⟨rfl, by rw [← HRR.out]; exact ⟨rfl, HB3.out⟩⟩
    | ok t j =>
     have hft := item_fit HTK.out HLT.out hX; have HFT := zh hft; have HRR := zh (show (parF K.T g).many (.until e it (acc ++ [t])) o j = some r from by dsimp only [Res.then] at hr; exact hr); have HCC := zh (HC.out g acc _ i1 _ _ (by have := HG.out.1; omega) HS2.out.pa ⟨HLT.out, by rw [len_more]; exact HLN.out⟩ (by have h9 := ptsS_len acc; have h8 := HLN.out; omega) HI2.out _ hX); clear hr hX hft; go_wp2_with fail
     refine HCC.out.mono ?_; rintro e w3 ⟨rfl, fp3, h3, h4, h4n, h5⟩; obtain ⟨n1, hn1⟩ : ∃ n, n = (ns ++ flats ns.length acc).length + ptS t - 1 := ⟨_, rfl⟩; rw [← hn1]; have HN1 := zh (show n1 = nr ns acc t by rw [hn1, len_more]; rfl); have HS3 := zh (show St K w p j o sn ns (X ++ fp) (acc ++ [t]) w3 fp3 from ⟨by rw [← flats_one_more]; exact h3, HS2.out.pt.transX h4 h4n⟩); have HV3 := zh (HV2.out.toX h4 h4n fun g' hg' e9 => by have h1 := HVN.out g' hg'; have h2 := (HXP.out g' e9).2; omega); have HI3 := zh h5; clear h3 h4 h4n h5 hn1; unfold natV; go_wp2_with (at_builtin; (refine wpList_append_lies _ rfl _ _ _ rfl (p + 1) 3 iI (.int .i64 0) 1 8 Tryz.underlying29 hiI hI0' hI1' hI2' rfl (by omega) _ rl ((roots ns.length acc).map natV) rfl ((by rw [HRL.out]; exact HV3.out.own : w3.ownsRow (p + 1) 3 1 (.slice A1 rl c1) rl ((roots ns.length acc).map natV)).alloc _) ⟨w3.heap.size, 0, none⟩ 1 1 [.int .i64 (n1 : Int)] rfl rfl (news_new _ #[.int .i64 (n1 : Int)] _ _ rfl) (by simp [Value.oneCell']) (by omega) (by have := HRL2.out; unfold maxLen; omega) (by have := HRL2.out; omega) (by have := HS3.out.pa.lt; simp; omega) (w3.heap.size + 1) (by simp) ?_); intro gb cap w4 hown4 hgrow4 hat4 hlt4; have HO4 := zh hown4; have HG4 := zh (show World.grownBy _ w4 (Value.slice A1 rl c1).ownBlock from hgrow4); have HA4 := zh (show (Value.slice A1 rl c1).ownBlock = some gb ∨ gb = w3.heap.size + 1 from hat4); clear hown4 hgrow4 hat4)
     have HFR := zh (show Fr ((Value.slice A1 rl c1).ownBlock.toList) w3 w4 from ((Fr.refl _ _).alloc _).grown HG4.out (fun g' hg' => .inl (by simp [hg']))); have HAW := zh (show ∀ b ∈ (Value.slice A1 rl c1).ownBlock.toList, p ≤ b ∧ b ∉ fp3 ∧ w.heap.size ≤ b from fun b hb => by
      have hb' : (Value.slice A1 rl c1).ownBlock = some b := by simpa using hb
      rw [HRL.out] at hb'; have h9 := HV3.out.away b hb'; exact ⟨h9.1, h9.2.2, HVN.out b hb'⟩)
     have HV4 := zh (show Ints w4 p fp3 (.slice (some ⟨gb, 0, none⟩) (rl + 1) cap) (roots ns.length (acc ++ [t])) from by
      rw [roots_more, ← HN1.out]; have h8 : (w3.alloc (.cells #[.int .i64 (n1 : Int)] 3)).heap.size = w3.heap.size + 1 := by simp
      have h9 := Ints.push (n := n1) (cap := cap) (g := gb) ((HV3.out.to (PaTo.of_below HS3.out.pa (zbr.alloc znr (.cells #[.int .i64 (n1 : Int)] 3)))) ) (by rw [← HRL.out]) (by have := HS3.out.pa.lt; omega) (by rw [← HRL.out]; exact HG4.out) (by rw [← HRL.out]; exact HO4.out) (by rw [← HRL.out]; exact HA4.out.imp id fun e9 => ⟨by omega, HS3.out.pa.notin (by omega)⟩); rw [← HRL.out] at h9; exact h9)
     have HVN4 := zh (show ∀ g', (Value.slice (some ⟨gb, 0, none⟩) (rl + 1) cap).ownBlock = some g' → w.heap.size ≤ g' from fun g' hg' => by
      have e9 : gb = g' := by simpa [Value.ownBlock] using hg'
      rw [← e9]
      rcases HA4.out with h9 | h9
      ·rw [HRL.out] at h9; exact HVN.out gb h9
      ·have := HS3.out.pt.fr.size; omega)
     go_roundw
     case rel => exact ⟨acc ++ [t], j, fp3, g, zh (HS3.out.own HFR.out HAW.out), HV4, HVN4, zh (HIS.out _ _ _ _ _ HI3.out HFR.out fun b hb => .inr (HAW.out b hb).2.2), zh ⟨by have := HG.out.1; omega, HRR.out⟩, zh ⟨HFT.out.1, by rw [ptsS_append, ptsS_one]; have := HFT.out; have := HLN.out; have := HLT.out; omega⟩⟩
     case measure => have := HRL2.out; simp [sliceLen]; omega
   ·have hrl0 : 0 < rl := by rw [HRLA.out]; exact List.length_pos_iff.2 hac
    have hr := HR.out; rw [if_neg hac] at hr; clear HR; have hq : (0 : Int) < (rl : Int) := by omega
    unfold need at hr; clear hac
    cases hb : isAny (tk K.T i1) [⟨#[44]⟩] with
    | false =>
     rw [if_neg (by rw [hb]; decide)] at hr; have HRR := zh (show Res.bad (tk K.T i1).a 70 = r from Option.some.inj hr); have HND := zh (need_no HS2.out.pa HRM.out.1 _ hb); clear hr hb hrl0; go_wp2_with fail
     refine HND.out.mono ?_; rintro e w3 ⟨rfl, hb3⟩; have HB3 := zh (HS2.out.bad HBG.out hb3); clear hb3; unfold wrongP; go_wp2
     exact ⟨rfl, by rw [← HRR.out]; exact ⟨rfl, HB3.out⟩⟩
    | true =>
     rw [if_pos hb] at hr; have HND := zh (need_yes HS2.out.pa HRM.out.1 _ hb); have HLT := zh (any_lt HTK.out HRM.out.1 hb); have HR := zh hr; clear hr hb hrl0; go_wp2_with fail
     refine HND.out.mono ?_; rintro e w2b ⟨rfl, h1, h2⟩; have HS2b := zh (HS2.out.step h1 h2); have HV2b := zh (HV2.out.to h2); have HI2b := zh (HIS.out _ _ _ _ _ HI2.out h2.fr fun b hb => .inl hb); clear h1 h2; have hr := HR.out; clear HR; obtain ⟨x, hX⟩ : ∃ x, (parF K.T g).one (it.nt acc) o (i1 + 1) = x := ⟨_, rfl⟩; rw [hX] at hr
     cases x with
     | none => exact absurd hr (by simp [Res.then])
     | some x =>
     have HLN := zh (show ns.length + ptsS acc + 4 * (K.T.length - (i1 + 1)) ≤ 900000 by have := HRM.out; have := HLT.out; omega)
     cases x with
     | bad a n =>
      have HRR := zh (show Res.bad a n = r from by dsimp only [Res.then] at hr; exact Option.some.inj hr); have HCC := zh (HC.out g acc _ (i1 + 1) _ _ (by have := HG.out.1; omega) HS2b.out.pa ⟨HLT.out, by rw [len_more]; exact HLN.out⟩ (by have h9 := ptsS_len acc; have h8 := HLN.out; omega) HI2b.out _ hX); clear hr hX; go_wp2_with fail
      refine HCC.out.mono ?_; rintro e w3 ⟨rfl, hb3⟩; have HB3 := zh (HS2b.out.bad HBG.out hb3); clear hb3; unfold wrongP; go_wp2
      exact ⟨rfl, by rw [← HRR.out]; exact ⟨rfl, HB3.out⟩⟩
     | ok t j =>
      have hft := item_fit HTK.out HLT.out hX; have HFT := zh hft; have HRR := zh (show (parF K.T g).many (.until e it (acc ++ [t])) o j = some r from by dsimp only [Res.then] at hr; exact hr); have HCC := zh (HC.out g acc _ (i1 + 1) _ _ (by have := HG.out.1; omega) HS2b.out.pa ⟨HLT.out, by rw [len_more]; exact HLN.out⟩ (by have h9 := ptsS_len acc; have h8 := HLN.out; omega) HI2b.out _ hX); clear hr hX hft; go_wp2_with fail
      refine HCC.out.mono ?_; rintro e w3 ⟨rfl, fp3, h3, h4, h4n, h5⟩; obtain ⟨n1, hn1⟩ : ∃ n, n = (ns ++ flats ns.length acc).length + ptS t - 1 := ⟨_, rfl⟩; rw [← hn1]; have HN1 := zh (show n1 = nr ns acc t by rw [hn1, len_more]; rfl); have HS3 := zh (show St K w p j o sn ns (X ++ fp) (acc ++ [t]) w3 fp3 from ⟨by rw [← flats_one_more]; exact h3, HS2b.out.pt.transX h4 h4n⟩); have HV3 := zh (HV2b.out.toX h4 h4n fun g' hg' e9 => by have h1 := HVN.out g' hg'; have h2 := (HXP.out g' e9).2; omega); have HI3 := zh h5; clear h3 h4 h4n h5 hn1; unfold natV; go_wp2_with (at_builtin; (refine wpList_append_lies _ rfl _ _ _ rfl (p + 1) 3 iI (.int .i64 0) 1 8 Tryz.underlying29 hiI hI0' hI1' hI2' rfl (by omega) _ rl ((roots ns.length acc).map natV) rfl ((by rw [HRL.out]; exact HV3.out.own : w3.ownsRow (p + 1) 3 1 (.slice A1 rl c1) rl ((roots ns.length acc).map natV)).alloc _) ⟨w3.heap.size, 0, none⟩ 1 1 [.int .i64 (n1 : Int)] rfl rfl (news_new _ #[.int .i64 (n1 : Int)] _ _ rfl) (by simp [Value.oneCell']) (by omega) (by have := HRL2.out; unfold maxLen; omega) (by have := HRL2.out; omega) (by have := HS3.out.pa.lt; simp; omega) (w3.heap.size + 1) (by simp) ?_); intro gb cap w4 hown4 hgrow4 hat4 hlt4; have HO4 := zh hown4; have HG4 := zh (show World.grownBy _ w4 (Value.slice A1 rl c1).ownBlock from hgrow4); have HA4 := zh (show (Value.slice A1 rl c1).ownBlock = some gb ∨ gb = w3.heap.size + 1 from hat4); clear hown4 hgrow4 hat4)
      have HFR := zh (show Fr ((Value.slice A1 rl c1).ownBlock.toList) w3 w4 from ((Fr.refl _ _).alloc _).grown HG4.out (fun g' hg' => .inl (by simp [hg']))); have HAW := zh (show ∀ b ∈ (Value.slice A1 rl c1).ownBlock.toList, p ≤ b ∧ b ∉ fp3 ∧ w.heap.size ≤ b from fun b hb => by
       have hb' : (Value.slice A1 rl c1).ownBlock = some b := by simpa using hb
       rw [HRL.out] at hb'; have h9 := HV3.out.away b hb'; exact ⟨h9.1, h9.2.2, HVN.out b hb'⟩)
      have HV4 := zh (show Ints w4 p fp3 (.slice (some ⟨gb, 0, none⟩) (rl + 1) cap) (roots ns.length (acc ++ [t])) from by
       rw [roots_more, ← HN1.out]; have h8 : (w3.alloc (.cells #[.int .i64 (n1 : Int)] 3)).heap.size = w3.heap.size + 1 := by simp
       have h9 := Ints.push (n := n1) (cap := cap) (g := gb) ((HV3.out.to (PaTo.of_below HS3.out.pa (zbr.alloc znr (.cells #[.int .i64 (n1 : Int)] 3)))) ) (by rw [← HRL.out]) (by have := HS3.out.pa.lt; omega) (by rw [← HRL.out]; exact HG4.out) (by rw [← HRL.out]; exact HO4.out) (by rw [← HRL.out]; exact HA4.out.imp id fun e9 => ⟨by omega, HS3.out.pa.notin (by omega)⟩); rw [← HRL.out] at h9; exact h9)
      have HVN4 := zh (show ∀ g', (Value.slice (some ⟨gb, 0, none⟩) (rl + 1) cap).ownBlock = some g' → w.heap.size ≤ g' from fun g' hg' => by
       have e9 : gb = g' := by simpa [Value.ownBlock] using hg'
       rw [← e9]
       rcases HA4.out with h9 | h9
       ·rw [HRL.out] at h9; exact HVN.out gb h9
       ·have := HS3.out.pt.fr.size; omega)
      go_roundw
      case rel => exact ⟨acc ++ [t], j, fp3, g, zh (HS3.out.own HFR.out HAW.out), HV4, HVN4, zh (HIS.out _ _ _ _ _ HI3.out HFR.out fun b hb => .inr (HAW.out b hb).2.2), zh ⟨by have := HG.out.1; omega, HRR.out⟩, zh ⟨HFT.out.1, by rw [ptsS_append, ptsS_one]; have := HFT.out; have := HLN.out; have := HLT.out; omega⟩⟩
      case measure => have := HRL2.out; simp [sliceLen]; omega

theorem until_ownrow {F : Nat} (X : List Nat) (hXp : ∀ b ∈ X, p ≤ b ∧ b < w.heap.size) (h : PaAt K w p i o sn ns fp) (hroom : Room K i ns) (ho : o ≤ 150) (e : ByteArray) (it : Item) {fn : FuncId} {fst cap args : Array Value} (hcall : ∀ W, (callFunc fn args).run Tryz.prog W = .ok (.enter fn args) W) (harg : fst ++ cap = args)
  (Inv : List PT → World → List Nat → Prop) (hI0 : Inv [] w fp) (hIS : ∀ acc w1 w2 fp1 S, Inv acc w1 fp1 → Fr S w1 w2 → (∀ b ∈ S, b ∈ fp1 ∨ w.heap.size ≤ b) → Inv acc w2 fp1)
  (hC : ∀ g acc w1 i1 ns1 fp1, g ≤ F → PaAt K w1 p i1 o sn ns1 fp1 → Room K i1 ns1 → acc.length ≤ 900000 → Inv acc w1 fp1 → ∀ r, (parF K.T g).one (it.nt acc) o i1 = some r → Calls Tryz.prog fn args w1 (ItemX X K w1 p o sn ns1 fp1 Inv acc r))
  {l : List PT} {j : Nat} (hX : (parF K.T F).many (.until e it []) o i = some (.ok l j)) :
  Calls Tryz.prog 96 #[.pointer (some ⟨p, 0, none⟩), .string e, .func (.func fn) fst cap] w (RowOk K w p o sn ns (X ++ fp) w (X ++ fp) l j) := by
 refine (until_own X hXp h hroom ho e it hcall harg Inv hI0 hIS hC hX).mono ?_
 rintro en w1 ⟨v, fp1, rfl, h1, h2, h3, h4⟩
 obtain ⟨A, c, hv, _, _, _⟩ := own_form h3.own
 rw [roots_len] at hv
 subst hv
 exact ⟨A, c, fp1, rfl, ⟨h1, h2⟩, h2, h3, h4⟩
end

theorem map_ne {w : World} {k : TypeId} {mb n b : Nat} {D : DataW Unit} {R : Value → Option (DataW Unit × List MemPlace)} {cs : Array Value} {t : TypeId} {fr : Nat × Nat} (h : w.ownsMap Tryz.prog k R mb n D) (hb : w.heap[b]? = some (.cells cs t fr)) : mb ≠ b := by
 rintro rfl
 obtain ⟨es, clock, h1, _⟩ := h
 rw [h1] at hb
 simp at hb
structure SeenAt (w : World) (p : Nat) (fp : List Nat) (mb n : Nat) (L : List ByteArray) : Prop where
 map : ∃ D : DataW Unit, w.ownsMap Tryz.prog 9 (plainElem Tryz.prog 3) mb n D ∧ WMap D L
 away : Away w p fp mb
section
variable {K : PaK} {w0 w w' : World} {p i j o n mb : Nat} {sn : Fin 8 → Bool} {ns : List Nd} {fp0 fp fp' X : List Nat} {L : List PT} {l : List ByteArray}
theorem SeenAt.same (h : SeenAt w p fp mb n l) (hb : w'.heap[mb]? = w.heap[mb]?) (ha : Away w' p fp' mb) : SeenAt w' p fp' mb n l := by
 obtain ⟨⟨D, ⟨es, clock, hh, r⟩, h2⟩, _⟩ := h
 exact ⟨⟨D, ⟨es, clock, hb.trans hh, r⟩, h2⟩, ha⟩
theorem SeenAt.to (h : SeenAt w p fp mb n l) (k : PaTo w fp w' fp') : SeenAt w' p fp' mb n l := h.same (k.fr.block mb h.away.2.1 h.away.2.2) (h.away.to k)
theorem SeenAt.below (h : SeenAt w p fp mb n l) (k : Below w.heap.size w w') : SeenAt w' p fp mb n l := h.same (k.block mb h.away.2.1) (h.away.on k.size)
theorem SeenAt.stay {S : List Nat} {B : Nat} (h : SeenAt w p fp mb n l) (hB : mb < B) (hf : Fr S w w') (hS : ∀ b ∈ S, b ∈ fp ∨ B ≤ b) : SeenAt w' p fp mb n l :=
 h.same (hf.block mb h.away.2.1 fun e => (hS mb e).elim h.away.2.2 fun h' => by omega) (h.away.on hf.size)
theorem St.turn (h : St K w0 p i o sn ns (X ++ fp0) L w fp) (hf : Fr X w w') (hX : ∀ b ∈ X, p ≤ b ∧ b ∉ fp) : St K w0 p i o sn ns (X ++ fp0) L w' fp :=
 ⟨h.pa.fr hf hX, ⟨h.pt.fr.trans hf fun b hb => .inl (List.mem_append.2 (.inl hb)), h.pt.new⟩⟩
theorem St.startX (h : PaAt K w p i o sn ns fp) (X : List Nat) : St K w p i o sn ns (X ++ fp) [] w fp := ⟨(St.start h).pa, Fr.refl _ _, fun b hb => .inl (List.mem_append.2 (.inr hb))⟩
theorem Beg.ofX (h : PaAt K w p i o sn ns fp) (hX : ∀ b ∈ X, p ≤ b) : Beg w p (X ++ fp) := ⟨h.lt, fun b hb => (List.mem_append.1 hb).elim (hX b) fun h' => (h.fpb b h').1⟩
end
end Go.Proofs.YthobobmbileekaaGreatDoor
