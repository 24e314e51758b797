/-
 ParseChecks: part 21 of what the claim rests on.
-/
import Derived.Test.YthobobmbileekaaGreatDoorC01
import Derived.Test.YthobobmbileekaaGreatDoorC16
import Derived.Test.YthobobmbileekaaGreatDoorC20
set_option linter.unusedVariables false
set_option linter.unusedSimpArgs false
set_option maxHeartbeats 64000000
set_option maxRecDepth 100000
namespace Go.Proofs.YthobobmbileekaaGreatDoor
open Go.ChangeShapes Go.WideShapes Go.ChangeAt Go.RowKit

theorem one_get {k : Nat} {j : Nat} {u : Value} (h : (([k] : List Nat).map natV)[j]? = some u) : j = 0 ∧ u = natV k := by
 cases j with
 | zero => exact ⟨rfl, by simpa using h.symm⟩
 | succ j => simp at h
theorem walk_suffixed {f : Nat} (AP : ∀ g, g ≤ f → AllPart g)  : Callee (f + 1) .suffixed 100 (fun p => #[.pointer (some ⟨p, 0, none⟩)]) := by
 intro K w p i o sn ns fp h hroom ho r hr
 change stepSuffixed (parF K.T f) o i = some r at hr
 unfold stepSuffixed at hr
 have HB := zh (Beg.of h)
 have HTK := zh h.env.tok
 have HRM := zh hroom.2
 have HI := zh hroom.1
 have HO := zh ho
 have HS0 := zh (St.start h)
 have HLN := zh h.env.len
 have HAP := zh AP
 clear h hroom ho AP
 have HR := zh hr
 clear hr
 go_enter Tryz.func100, Tryz.ntmps100
 have hr := HR.out
 clear HR
 have HR := zh hr
 clear hr
 go_upto_region 1 with fail
 obtain ⟨b1, hb⟩ : ∃ b, b = w.heap.size := ⟨_, rfl⟩
 rw [← hb]
 refine gen_wpT fun w2 hW => ?_
 have HX3 := zh (show w2.heap[b1]? = some (.cells #[.pointer (some ⟨p, 0, none⟩)] 44 (0, 0)) by rw [← hW]; exact heap_new_at _ _ _ hb.symm)
 have HBL6 := zh (show Below w.heap.size w w2 by rw [← hW]; exact zbr.alloc znr _)
 have HS5 := zh (HS0.out.below HBL6.out)
 have HA4 := zh (Away.new HS0.out.pa (Nat.le_of_eq hb.symm) (blk_lt HX3.out))
 have HBE7 := zh (show w.heap.size ≤ b1 from by have := HS0.out.pt.fr.size; omega)
 clear hW hb
 have x8 := zc 0 HX3.out rfl
 have xl9 := blk_lt HX3.out
 have hr := HR.out
 clear HR
 obtain ⟨X, hX⟩ : ∃ X, (parF K.T f).one (.prim) o i = X := ⟨_, rfl⟩
 rw [hX] at hr
 cases X with
 | none => exact absurd hr (by simp [Res.then])
 | some X =>
 cases X with
 | bad a n =>
  have HRR12 := zh (show Res.bad a n = r from (by dsimp only [Res.then] at hr; exact Option.some.inj hr)); have HC15 := zh (call_bad ((HAP.out f (Nat.le_refl f)).prim) HS5.out HB.out ⟨HI.out, by have := HRM.out; have := HI.out; (try simp only [zS]); omega⟩ HO.out hX); clear hr hX; go_wp2_with fail
  refine HC15.out.mono ?_; rintro e wb ⟨rfl, hb⟩; have HB14 := zh hb; clear hb; unfold wrongP; go_wp2
  exact ⟨rfl, by rw [← HRR12.out]; exact ⟨rfl, HB14.out⟩⟩
 | ok t10 j11 =>
  have hft := (fit_all HTK.out f).one (.prim) o i HI.out; rw [hX] at hft; obtain ⟨f1, f2, f3⟩ := hft; simp only [lazy1, sl1, ex1, zf] at f2 f3
  have HF13 := zh (And.intro f1 (And.intro f2 f3)); clear f1 f2 f3; have HC19 := zh (call_ok ((HAP.out f (Nat.le_refl f)).prim) HS5.out ⟨HI.out, by have := HRM.out; have := HI.out; (try simp only [zS]); omega⟩ HO.out hX); dsimp only [Res.then] at hr
  clear hX; have HR := zh hr; clear hr; go_wp2_with fail
  clear x8 xl9; refine HC19.out.mono ?_; rintro e w16 ⟨rfl, fp17, h1, h2⟩; obtain ⟨n20, hn⟩ : ∃ n, n = nr ns [] t10 := ⟨_, rfl⟩; rw [← hn]; have HN21 := zh hn; have HS18 := zh (show St K w p j11 o sn ns fp [t10] w16 fp17 from h1); have HX22 := zh (Away.blkTo HX3.out HA4.out h2); have HA23 := zh (HA4.out.to h2); clear h1 h2 hn; have x24 := zc 0 HX22.out rfl; have xl25 := blk_lt HX22.out; have hr := HR.out; clear HR; have HR9 := zh hr; clear hr
  try unfold natV
  go_wp2_with fail
  clear x24 xl25
  go_loopw [3] (fun xv wr => ∃ (x : PT) (nx : Nat) (i1 : Nat) (fp1 : List Nat) (f1 : Nat), xv = .int .i64 (nx : Int) ∧ Hid (nx = nr ns [] x) ∧ Hid (St K w p i1 o sn ns fp [x] wr fp1) ∧ Hid (f1 ≤ f ∧ (parF K.T f1).one (.suffixedL x) o i1 = some r) ∧ Hid (i1 < K.T.length ∧ ns.length + ptsS [x] + 4 * (K.T.length - i1) ≤ 900000) ∧ Hid (wr.heap[b1]? = some (.cells #[.pointer (some ⟨p, 0, none⟩)] 44 (0, 0)) ∧ Away wr p fp1 b1)) (fun xv _ => 900001 - (intOf xv).toNat)
  case atStart => exact ⟨t10, n20, j11, fp17, f, rfl, HN21, HS18, zh ⟨znr, HR9.out⟩, zh ⟨HF13.out.1, by have := HRM.out; have := HI.out; have := HF13.out; (try simp only [zS]); omega⟩, zh ⟨HX22.out, HA23.out⟩⟩
  case round =>
   obtain ⟨x, nx, i1, fp1, f1, rfl, HNX, HS, HR0, HRL, HBX⟩ := hrel; obtain ⟨hle, hr⟩ := HR0.out; clear HR0
   cases f1 with
   | zero => exact absurd hr (by simp [parF])
   | succ f =>
   have HAP := zh (fun g (hg : g ≤ f) => HAP.out g (by omega)); have HLE := zh hle; clear hle
   change stepSuffixedL K.T (parF K.T f) x o i1 = some r at hr
   unfold stepSuffixedL at hr; dsimp only at hr
   have HRLs := zh (show ns.length + ptS x + 4 * (K.T.length - i1) ≤ 900000 by have h9 := HRL.out.2; rw [ptsS_one] at h9; exact h9); have HX9 := zh HBX.out.1; have HA9 := zh HBX.out.2; clear HBX; have x26 := zc 0 HX9.out rfl; have xl27 := blk_lt HX9.out; have HC30 := zh (at_any HS.out.pa HRL.out.1); have HR := zh hr; clear hr; go_wp2_with fail
   clear x26 xl27; refine HC30.out.mono ?_; rintro e w28 ⟨rfl, h2⟩; have HS29 := zh (HS.out.below h2); have HX31 := zh (below_blk h2 HX9.out); have HA32 := zh (HA9.out.on h2.size); clear h2; have x33 := zc 0 HX31.out rfl; have xl34 := blk_lt HX31.out; have hr := HR.out; clear HR
   try dsimp only at hr
   try unfold natV
   cases hb : isAny (tk K.T i1) [⟨#[46]⟩] with
   | true =>
    rw [if_pos hb] at hr; have HLT35 := zh (any_lt HTK.out HRL.out.1 hb); have HC38 := zh (got_yes HS29.out.pa HRL.out.1 ⟨#[46]⟩ hb); clear hb; have HR := zh hr; clear hr; go_wp2_with fail
    clear x33 xl34; refine HC38.out.mono ?_; rintro e w36 ⟨rfl, h1, h2⟩; have HS37 := zh (HS29.out.step h1 h2); have HX39 := zh (Away.blkTo HX31.out HA32.out h2); have HA40 := zh (HA32.out.to h2); clear h1 h2; have x41 := zc 0 HX39.out rfl; have xl42 := blk_lt HX39.out; have hr := HR.out; clear HR; unfold token at hr; by_cases hk : (tk K.T (i1 + 1)).kind = 1
    ·rw [if_pos hk] at hr
     dsimp only at hr
     have HLT50 := zh (tk_lt HTK.out HLT35.out (by rw [hk]; decide)); have HKK := zh hk; clear hk; have HX43 := zh (show w36.drew.heap[b1]? = _ from HX39.out); have HA44 := zh HA40.out.drew; have HS45 := zh HS37.out.drew; have HS46 := zh (HS45.out.below (zbr.alloc znr _ : Below w36.drew.heap.size w36.drew (w36.drew.alloc (.cells #[.int .i64 (nx : Int)] 3)))); have HX47 := zh (below_blk (zbr.alloc znr _ : Below w36.drew.heap.size w36.drew (w36.drew.alloc (.cells #[.int .i64 (nx : Int)] 3))) HX43.out); have HA48 := zh (HA44.out.on (zbr.alloc znr _ : Below w36.drew.heap.size w36.drew (w36.drew.alloc (.cells #[.int .i64 (nx : Int)] 3))).size); have HR9 := zh hr; clear hr; go_wp2_with fail
     clear x41 xl42; refine wp_region_held_drew (S := fun w' => w'.heap[b1]? = some (.cells #[.pointer (some ⟨p, 0, none⟩)] 44 (0, 0))) (by kernel_rfl) (HX43.out) (fun hHeld => ?_); refine ztk 0 14 (.pointer (some ⟨p, 0, none⟩)) hHeld ?_ (hy := Or.inl ⟨by rfl, fun w' hS => (by have q0 := zc 0 hS rfl; go_simp)⟩); simp only [zq]; refine ztk 1 15 (.pointer (some ⟨p, 0, none⟩)) hHeld ?_ (hy := Or.inl ⟨by rfl, fun w' hS => (by have q0 := zc 0 hS rfl; go_simp)⟩); simp only [zq]; refine ztk 4 18 (.int .i64 ((tk K.T i1).a : Int)) hHeld ?_; simp only [zq]; refine ztk 5 19 (.int .i64 (nx : Int)) hHeld ?_; simp only [zq]; refine wpAnyH_ready (rs := [2, 6]) (by kernel_rfl) (by simp) ?_; refine AllReadyH.cons (o := _) rfl (fun KQ hK => ?_) (AllReadyH.cons (o := _) rfl (fun KQ hK => ?_) (AllReadyH.nil))
     ·go_simp
      refine (token_ok HS45.out.pa HLT35.out 1 HKK.out).mono ?_; rintro e w51 ⟨rfl, h1, h2⟩; have HS52 := zh (HS45.out.step h1 h2); have HX53 := zh (Away.blkTo HX43.out HA44.out h2); have HA54 := zh (HA44.out.to h2); clear h1 h2; have tf := tok_f1 (.int .i64 (tk K.T (i1 + 1)).kind) (.int .i64 ((tk K.T (i1 + 1)).a : Int)) (.int .i64 ((tk K.T (i1 + 1)).z : Int)) (.int .i64 (tk K.T (i1 + 1)).n) (.string (tk K.T (i1 + 1)).text); unfold tokJ; refine hK.out _ _ (HX53.out) (fun hHeld => ?_); clear hK KQ
      try simp only [zq]
      refine ztk 3 17 (.string (tk K.T (i1 + 1)).text) hHeld ?_; simp only [zq]; refine zrd 6 fun KQ hK => ?_
      go_simp
      have HS55 := zh (HS52.out.below (zbr.alloc znr _ : Below w51.heap.size w51 (w51.alloc (.cells #[.int .i64 (nx : Int)] 3)))); have HX56 := zh (below_blk (zbr.alloc znr _ : Below w51.heap.size w51 (w51.alloc (.cells #[.int .i64 (nx : Int)] 3))) HX53.out); have HA57 := zh (HA54.out.on (zbr.alloc znr _ : Below w51.heap.size w51 (w51.alloc (.cells #[.int .i64 (nx : Int)] 3))).size); have HKV := zh (KidsV.new w51 nx [] _ rfl); refine hK.out _ _ (HX56.out) (fun hHeld => ?_); clear hK KQ
      try simp only [zq]
      refine zrd 7 fun KQ hK => ?_
      go_simp
      refine (lay_mid (L1 := []) (L2 := [x]) HS55.out (by have := HRM.out; have := HRLs.out; have := HLT35.out; have := HLT50.out; (try simp only [ptsS, ptS, List.nil_append, Nat.add_zero, Nat.zero_add]); omega) (by simp) 18 (tk K.T (i1 + 1)).text (tk K.T i1).a HKV.out (by simp only [HNX.out, nr, roots, ptsS, Nat.add_zero])).mono ?_; rintro e w58 ⟨rfl, fp59, h1, h2⟩; obtain ⟨n61, hn⟩ : ∃ n, n = nr ns [] (.mk 18 (tk K.T (i1 + 1)).text (tk K.T i1).a [x]) := ⟨_, rfl⟩; rw [← hn]; have HN62 := zh hn; have HS60 := zh (show St K w p ((i1 + 1) + 1) o sn ns fp [(.mk 18 (tk K.T (i1 + 1)).text (tk K.T i1).a [x])] w58 fp59 from h1); have HX63 := zh (Away.blkTo HX56.out HA57.out h2); have HA64 := zh (HA57.out.to h2); clear h1 h2 hn HKV; refine hK.out _ _ (HX63.out) (fun hHeld => ?_); clear hK KQ
      try simp only [zq]
      refine ztk 8 3 (natV n61) hHeld ?_; simp only [zq]; refine wpAnyH_done (by kernel_rfl) ?_ _; have hr := HR9.out; clear HR9; have x65 := zc 0 HX63.out rfl; have xl66 := blk_lt HX63.out; have HRF := zh hr; clear hr
      try unfold natV
      try go_wp2_with fail
      clear x65 xl66; go_roundw
      case rel => exact ⟨_, n61, ((i1 + 1) + 1), fp59, f, rfl, HN62, HS60, zh ⟨by have := HLE.out; omega, HRF.out⟩, zh ⟨HLT50.out, by have := HRM.out; have := HRLs.out; have := HLT35.out; have := HLT50.out; (try simp only [zS]); omega⟩, zh ⟨HX63.out, HA64.out⟩⟩
      case measure => have h5 := HN62.out; have h6 := HNX.out; have h7 := ptS_pos x; have h8 := ptS_pos (.mk 18 (tk K.T (i1 + 1)).text (tk K.T i1).a [x]); unfold nr at h5 h6; simp only [ptsS, ptS, Nat.add_zero, Nat.zero_add] at h5 h6 h8; have := HRLs.out; have := HLT35.out; have := HLT50.out; simp [intOf]; omega
     ·go_simp
      refine hK.out _ _ (HX47.out) (fun hHeld => ?_); clear hK KQ
      try simp only [zq]
      refine zrd 2 fun KQ hK => ?_
      go_simp
      refine (token_ok HS46.out.pa HLT35.out 1 HKK.out).mono ?_; rintro e w67 ⟨rfl, h1, h2⟩; have HS68 := zh (HS46.out.step h1 h2); have HX69 := zh (Away.blkTo HX47.out HA48.out h2); have HA70 := zh (HA48.out.to h2); have HKV := zh (show KidsV w67 (.slice (some ⟨w36.drew.heap.size, 0, none⟩) 1 1) [nx] from .inr ⟨⟨w36.drew.heap.size, 0, none⟩, 1, rfl, fun j u hu => by
       obtain ⟨rfl, rfl⟩ := one_get hu; exact zc 0 (h2.fr.blk (heap_new_at w36.drew (.cells #[.int .i64 (nx : Int)] 3) _ rfl) (HS45.out.pa.notin znr)) rfl, by simp, Nat.lt_of_lt_of_le (by simp) h2.fr.size⟩)
      clear h1 h2; have tf := tok_f1 (.int .i64 (tk K.T (i1 + 1)).kind) (.int .i64 ((tk K.T (i1 + 1)).a : Int)) (.int .i64 ((tk K.T (i1 + 1)).z : Int)) (.int .i64 (tk K.T (i1 + 1)).n) (.string (tk K.T (i1 + 1)).text); unfold tokJ; refine hK.out _ _ (HX69.out) (fun hHeld => ?_); clear hK KQ
      try simp only [zq]
      refine ztk 3 17 (.string (tk K.T (i1 + 1)).text) hHeld ?_; simp only [zq]; refine zrd 7 fun KQ hK => ?_
      go_simp
      refine (lay_mid (L1 := []) (L2 := [x]) HS68.out (by have := HRM.out; have := HRLs.out; have := HLT35.out; have := HLT50.out; (try simp only [ptsS, ptS, List.nil_append, Nat.add_zero, Nat.zero_add]); omega) (by simp) 18 (tk K.T (i1 + 1)).text (tk K.T i1).a HKV.out (by simp only [HNX.out, nr, roots, ptsS, Nat.add_zero])).mono ?_; rintro e w71 ⟨rfl, fp72, h1, h2⟩; obtain ⟨n74, hn⟩ : ∃ n, n = nr ns [] (.mk 18 (tk K.T (i1 + 1)).text (tk K.T i1).a [x]) := ⟨_, rfl⟩; rw [← hn]; have HN75 := zh hn; have HS73 := zh (show St K w p ((i1 + 1) + 1) o sn ns fp [(.mk 18 (tk K.T (i1 + 1)).text (tk K.T i1).a [x])] w71 fp72 from h1); have HX76 := zh (Away.blkTo HX69.out HA70.out h2); have HA77 := zh (HA70.out.to h2); clear h1 h2 hn HKV; refine hK.out _ _ (HX76.out) (fun hHeld => ?_); clear hK KQ
      try simp only [zq]
      refine ztk 8 3 (natV n74) hHeld ?_; simp only [zq]; refine wpAnyH_done (by kernel_rfl) ?_ _; have hr := HR9.out; clear HR9; have x78 := zc 0 HX76.out rfl; have xl79 := blk_lt HX76.out; have HRF := zh hr; clear hr
      try unfold natV
      try go_wp2_with fail
      clear x78 xl79; go_roundw
      case rel => exact ⟨_, n74, ((i1 + 1) + 1), fp72, f, rfl, HN75, HS73, zh ⟨by have := HLE.out; omega, HRF.out⟩, zh ⟨HLT50.out, by have := HRM.out; have := HRLs.out; have := HLT35.out; have := HLT50.out; (try simp only [zS]); omega⟩, zh ⟨HX76.out, HA77.out⟩⟩
      case measure => have h5 := HN75.out; have h6 := HNX.out; have h7 := ptS_pos x; have h8 := ptS_pos (.mk 18 (tk K.T (i1 + 1)).text (tk K.T i1).a [x]); unfold nr at h5 h6; simp only [ptsS, ptS, Nat.add_zero, Nat.zero_add] at h5 h6 h8; have := HRLs.out; have := HLT35.out; have := HLT50.out; simp [intOf]; omega
    ·rw [if_neg hk] at hr
     have HRR49 := zh (show Res.bad _ _ = r from Option.some.inj hr); clear hr; have HX43 := zh (show w36.drew.heap[b1]? = _ from HX39.out); have HA44 := zh HA40.out.drew; have HS45 := zh HS37.out.drew; have HS46 := zh (HS45.out.below (zbr.alloc znr _ : Below w36.drew.heap.size w36.drew (w36.drew.alloc (.cells #[.int .i64 (nx : Int)] 3)))); have HX47 := zh (below_blk (zbr.alloc znr _ : Below w36.drew.heap.size w36.drew (w36.drew.alloc (.cells #[.int .i64 (nx : Int)] 3))) HX43.out); have HA48 := zh (HA44.out.on (zbr.alloc znr _ : Below w36.drew.heap.size w36.drew (w36.drew.alloc (.cells #[.int .i64 (nx : Int)] 3))).size); have HKK := zh hk; clear hk; go_wp2_with fail
     clear x41 xl42; refine wp_region_held_drew (S := fun w' => w'.heap[b1]? = some (.cells #[.pointer (some ⟨p, 0, none⟩)] 44 (0, 0))) (by kernel_rfl) (HX43.out) (fun hHeld => ?_); refine ztk 0 14 (.pointer (some ⟨p, 0, none⟩)) hHeld ?_ (hy := Or.inl ⟨by rfl, fun w' hS => (by have q0 := zc 0 hS rfl; go_simp)⟩); simp only [zq]; refine ztk 1 15 (.pointer (some ⟨p, 0, none⟩)) hHeld ?_ (hy := Or.inl ⟨by rfl, fun w' hS => (by have q0 := zc 0 hS rfl; go_simp)⟩); simp only [zq]; refine ztk 4 18 (.int .i64 ((tk K.T i1).a : Int)) hHeld ?_; simp only [zq]; refine ztk 5 19 (.int .i64 (nx : Int)) hHeld ?_; simp only [zq]; refine wpAnyH_ready (rs := [2, 6]) (by kernel_rfl) (by simp) ?_; refine AllReadyH.cons (o := _) rfl (fun KQ hK => ?_) (AllReadyH.cons (o := _) rfl (fun KQ hK => ?_) (AllReadyH.nil))
     ·go_simp
      refine (token_no HS45.out.pa HLT35.out 1 HKK.out).mono ?_; rintro e wb ⟨rfl, hb⟩; have HBB := zh (HS45.out.bad HB.out hb); clear hb; unfold wrongP; go_wp2
      exact ⟨rfl, by rw [← HRR49.out]; exact ⟨rfl, HBB.out⟩⟩
     ·go_simp
      refine hK.out _ _ (HX47.out) (fun hHeld => ?_); clear hK KQ
      try simp only [zq]
      refine zrd 2 fun KQ hK => ?_
      go_simp
      refine (token_no HS46.out.pa HLT35.out 1 HKK.out).mono ?_; rintro e wb ⟨rfl, hb⟩; have HBB := zh (HS46.out.bad HB.out hb); clear hb; unfold wrongP; go_wp2
      exact ⟨rfl, by rw [← HRR49.out]; exact ⟨rfl, HBB.out⟩⟩
   | false =>
    rw [if_neg (by rw [hb]; decide)] at hr; have HC82 := zh (got_no HS29.out.pa HRL.out.1 ⟨#[46]⟩ hb); clear hb; have HR := zh hr; clear hr; go_wp2_with fail
    clear x33 xl34; refine HC82.out.mono ?_; rintro e w80 ⟨rfl, h1, h2⟩; have HS81 := zh (HS29.out.below h2); have HX83 := zh (below_blk h2 HX31.out); have HA84 := zh (HA32.out.on h2.size); clear h2 h1; have x85 := zc 0 HX83.out rfl; have xl86 := blk_lt HX83.out; have hr := HR.out; clear HR
    cases hb : isAny (tk K.T i1) [⟨#[91]⟩] with
    | true =>
     rw [if_pos hb] at hr; have HLT87 := zh (any_lt HTK.out HRL.out.1 hb); have HC90 := zh (got_yes HS81.out.pa HRL.out.1 ⟨#[91]⟩ hb); clear hb; have HR := zh hr; clear hr; go_wp2_with fail
     clear x85 xl86; refine HC90.out.mono ?_; rintro e w88 ⟨rfl, h1, h2⟩; have HS89 := zh (HS81.out.step h1 h2); have HX91 := zh (Away.blkTo HX83.out HA84.out h2); have HA92 := zh (HA84.out.to h2); clear h1 h2; have x93 := zc 0 HX91.out rfl; have xl94 := blk_lt HX91.out; have hr := HR.out; clear HR; unfold deeper at hr; by_cases hdp : 150 < o + 1
     ·rw [if_pos hdp] at hr
      have HRR99 := zh (show Res.bad _ _ = r from (by exact Option.some.inj hr)); have HC101 := zh ((within_deep HS89.out.pa hdp HO.out ((tk K.T i1).a) (.func (.func 115) #[] #[.pointer (some ⟨b1, 0, none⟩)])).mono fun e w' hh => (show OutB w p _ 61 e w' from ⟨hh.1, HS89.out.bad HB.out hh.2⟩)); clear hr hdp; go_wp2_with fail
      refine HC101.out.mono ?_; rintro e wb ⟨rfl, hb⟩; have HB100 := zh hb; clear hb; unfold wrongP; go_wp2
      exact ⟨rfl, by rw [← HRR99.out]; exact ⟨rfl, HB100.out⟩⟩
     ·rw [if_neg hdp] at hr
      obtain ⟨X, hX⟩ : ∃ X, (parF K.T f).one (.index) (o + 1) (i1 + 1) = X := ⟨_, rfl⟩; dsimp only at hr
      rw [hX] at hr; have HDP := zh hdp; clear hdp
      cases X with
      | none => exact absurd hr (by simp [Res.then])
      | some X =>
      cases X with
      | bad a n =>
       have HRR97 := zh (show Res.bad a n = r from (by dsimp only [Res.then] at hr; exact Option.some.inj hr)); have HC103 := zh (within_no (fn := 115) (fst := #[]) (cap := #[.pointer (some ⟨b1, 0, none⟩)]) (args := #[.pointer (some ⟨b1, 0, none⟩)]) HS89.out HB.out HDP.out ((tk K.T i1).a) (fun W => rfl) rfl hX (fun w1 h1 h2 r hr => ((HAP.out f (Nat.le_refl f)).indexC) K w1 p (i1 + 1) (o + 1) sn _ fp1 b1 h1 ⟨HLT87.out, by rw [len_more]; exact by have := HRM.out; have := HRLs.out; have := HLT87.out; (try simp only [zS]); omega⟩ (by have := HDP.out; omega) (Away.blkTo HX91.out HA92.out h2) (HA92.out.to h2) r hr)); clear hr hX; go_wp2_with fail
       refine HC103.out.mono ?_; rintro e wb ⟨rfl, hb⟩; have HB102 := zh hb; clear hb; unfold wrongP; go_wp2
       exact ⟨rfl, by rw [← HRR97.out]; exact ⟨rfl, HB102.out⟩⟩
      | ok t95 j96 =>
       have hft := (fit_all HTK.out f).one (.index) (o + 1) (i1 + 1) HLT87.out; rw [hX] at hft; obtain ⟨f1, f2, f3⟩ := hft; simp only [lazy1, sl1, ex1, zf] at f2 f3
       have HF98 := zh (And.intro f1 (And.intro f2 f3)); clear f1 f2 f3; have HC107 := zh (within_ok (fn := 115) (fst := #[]) (cap := #[.pointer (some ⟨b1, 0, none⟩)]) (args := #[.pointer (some ⟨b1, 0, none⟩)]) HS89.out HDP.out ((tk K.T i1).a) (fun W => rfl) rfl hX (fun w1 h1 h2 r hr => ((HAP.out f (Nat.le_refl f)).indexC) K w1 p (i1 + 1) (o + 1) sn _ fp1 b1 h1 ⟨HLT87.out, by rw [len_more]; exact by have := HRM.out; have := HRLs.out; have := HLT87.out; (try simp only [zS]); omega⟩ (by have := HDP.out; omega) (Away.blkTo HX91.out HA92.out h2) (HA92.out.to h2) r hr)); dsimp only [Res.then] at hr
       clear hX; have HR := zh hr; clear hr; go_wp2_with fail
       clear x93 xl94; refine HC107.out.mono ?_; rintro e w104 ⟨rfl, fp105, h1, h2⟩; obtain ⟨n108, hn⟩ : ∃ n, n = nr ns [x] t95 := ⟨_, rfl⟩; rw [← hn]; have HN109 := zh hn; have HS106 := zh (show St K w p j96 o sn ns fp [x, t95] w104 fp105 from h1); have HX110 := zh (Away.blkTo HX91.out HA92.out h2); have HA111 := zh (HA92.out.to h2); clear h1 h2 hn; have x112 := zc 0 HX110.out rfl; have xl113 := blk_lt HX110.out; have hr := HR.out; clear HR; have HC117 := zh (show ∀ W, W = w104.alloc (.cells #[natV nx, natV n108] 3) → Calls Tryz.prog 23 #[.pointer (some ⟨p, 0, none⟩), .int .i64 19, .string ⟨#[]⟩, natV (tk K.T i1).a, .slice (some ⟨w104.heap.size, 0, none⟩) 2 2] W (OneOk K w p o sn ns fp [] W fp105 (.mk 19 ⟨#[]⟩ (tk K.T i1).a [x, t95]) j96) from fun W hW => by
        subst hW; exact lay_mid (L1 := []) (L2 := [x, t95]) (HS106.out.below (zbr.alloc znr _)) (by have := HRM.out; have := HRLs.out; have := HLT87.out; have := HF98.out; simp only [ptsS, ptS, noneT, List.nil_append, List.cons_append, Nat.add_zero, Nat.zero_add]; omega) (by simp) 19 ⟨#[]⟩ (tk K.T i1).a (KidsV.new w104 nx [n108] _ rfl) (by simp only [HNX.out, HN109.out, nr, roots, ptsS, Nat.add_zero, Nat.add_assoc]))
       have HR := zh hr; clear hr
       try unfold natV
       go_wp2_with fail
       clear x112 xl113; refine (HC117.out _ rfl).mono ?_; rintro e w114 ⟨rfl, fp115, h1, h2⟩; obtain ⟨n118, hn⟩ : ∃ n, n = nr ns [] (.mk 19 ⟨#[]⟩ (tk K.T i1).a [x, t95]) := ⟨_, rfl⟩; rw [← hn]; have HN119 := zh hn; have HS116 := zh (show St K w p j96 o sn ns fp [(.mk 19 ⟨#[]⟩ (tk K.T i1).a [x, t95])] w114 fp115 from h1); have hbl : PaTo w104 fp105 w114 fp115 := (PaTo.of_below HS106.out.pa (zbr.alloc znr _)).trans h2; have HX120 := zh (Away.blkTo HX110.out HA111.out hbl); have HA121 := zh (HA111.out.to hbl); clear h1 h2 hn hbl; have x122 := zc 0 HX120.out rfl; have xl123 := blk_lt HX120.out; have hr := HR.out; clear HR; have HRF := zh hr; clear hr
       try unfold natV
       go_wp2_with fail
       clear x122 xl123; go_roundw
       case rel => exact ⟨_, n118, j96, fp115, f, rfl, HN119, HS116, zh ⟨by have := HLE.out; omega, HRF.out⟩, zh ⟨HF98.out.1, by have := HRM.out; have := HRLs.out; have := HLT87.out; have := HF98.out; (try simp only [zS]); omega⟩, zh ⟨HX120.out, HA121.out⟩⟩
       case measure => have h5 := HN119.out; have h6 := HNX.out; have h7 := ptS_pos x; have h8 := ptS_pos (.mk 19 ⟨#[]⟩ (tk K.T i1).a [x, t95]); unfold nr at h5 h6; simp only [ptsS, ptS, Nat.add_zero, Nat.zero_add] at h5 h6 h8; have := HRLs.out; have := HLT87.out; have := HF98.out; simp [intOf]; omega
    | false =>
     rw [if_neg (by rw [hb]; decide)] at hr; have HC126 := zh (got_no HS81.out.pa HRL.out.1 ⟨#[91]⟩ hb); clear hb; have HR := zh hr; clear hr; go_wp2_with fail
     clear x85 xl86; refine HC126.out.mono ?_; rintro e w124 ⟨rfl, h1, h2⟩; have HS125 := zh (HS81.out.below h2); have HX127 := zh (below_blk h2 HX83.out); have HA128 := zh (HA84.out.on h2.size); clear h2 h1; have x129 := zc 0 HX127.out rfl; have xl130 := blk_lt HX127.out; have hr := HR.out; clear HR
     cases hb : isAny (tk K.T i1) [⟨#[40]⟩] with
     | true =>
      rw [if_pos hb] at hr; have HLT131 := zh (any_lt HTK.out HRL.out.1 hb); have HC134 := zh (got_yes HS125.out.pa HRL.out.1 ⟨#[40]⟩ hb); clear hb; have HR := zh hr; clear hr; go_wp2_with fail
      clear x129 xl130; refine HC134.out.mono ?_; rintro e w132 ⟨rfl, h1, h2⟩; have HS133 := zh (HS125.out.step h1 h2); have HX135 := zh (Away.blkTo HX127.out HA128.out h2); have HA136 := zh (HA128.out.to h2); clear h1 h2; have x137 := zc 0 HX135.out rfl; have xl138 := blk_lt HX135.out; have hr := HR.out; clear HR; obtain ⟨X, hX⟩ : ∃ X, (parF K.T f).many (.args (tk K.T i1).a) o (i1 + 1) = X := ⟨_, rfl⟩; rw [hX] at hr
      cases X with
      | none => exact absurd hr (by simp [Res.then])
      | some X =>
      cases X with
      | bad a n =>
       have HRR145 := zh (show Res.bad a n = r from by dsimp only [Res.then] at hr; exact Option.some.inj hr); have HXX := zh hX; clear hr hX; have HX139 := zh (show w132.drew.heap[b1]? = _ from HX135.out); have HA140 := zh HA136.out.drew; have HS141 := zh HS133.out.drew; have HS142 := zh (HS141.out.below (zbr.alloc znr _ : Below w132.drew.heap.size w132.drew (w132.drew.alloc (.cells #[.int .i64 (nx : Int)] 3)))); have HX143 := zh (below_blk (zbr.alloc znr _ : Below w132.drew.heap.size w132.drew (w132.drew.alloc (.cells #[.int .i64 (nx : Int)] 3))) HX139.out); have HA144 := zh (HA140.out.on (zbr.alloc znr _ : Below w132.drew.heap.size w132.drew (w132.drew.alloc (.cells #[.int .i64 (nx : Int)] 3))).size); go_wp2_with fail
       clear x137 xl138; refine wp_region_held_drew (S := fun w' => w'.heap[b1]? = some (.cells #[.pointer (some ⟨p, 0, none⟩)] 44 (0, 0))) (by kernel_rfl) (HX139.out) (fun hHeld => ?_); refine ztk 0 38 (.pointer (some ⟨p, 0, none⟩)) hHeld ?_ (hy := Or.inl ⟨by rfl, fun w' hS => (by have q0 := zc 0 hS rfl; go_simp)⟩); simp only [zq]; refine ztk 1 39 (.int .i64 ((tk K.T i1).a : Int)) hHeld ?_; simp only [zq]; refine ztk 2 40 (.int .i64 (nx : Int)) hHeld ?_; simp only [zq]; refine ztk 4 42 (.pointer (some ⟨p, 0, none⟩)) hHeld ?_ (hy := Or.inl ⟨by rfl, fun w' hS => (by have q0 := zc 0 hS rfl; go_simp)⟩); simp only [zq]; refine ztk 5 43 (.int .i64 ((tk K.T i1).a : Int)) hHeld ?_; simp only [zq]; refine wpAnyH_ready (rs := [3, 6]) (by kernel_rfl) (by simp) ?_; refine AllReadyH.cons (o := _) rfl (fun KQ hK => ?_) (AllReadyH.cons (o := _) rfl (fun KQ hK => ?_) (AllReadyH.nil))
       ·go_simp
        refine hK.out _ _ (HX143.out) (fun hHeld => ?_); clear hK KQ
        try simp only [zq]
        refine zrd 6 fun KQ hK => ?_
        go_simp
        refine (args_bad ((HAP.out f (Nat.le_refl f)).args _) HS142.out HB.out ⟨HLT131.out, by have := HRM.out; have := HRLs.out; have := HLT131.out; (try simp only [zS]); omega⟩ HO.out HXX.out).mono ?_; rintro e wb ⟨rfl, hb⟩; have HBB := zh hb; clear hb; unfold wrongP; go_wp2
        exact ⟨rfl, by rw [← HRR145.out]; exact ⟨rfl, HBB.out⟩⟩
       ·go_simp
        refine (args_bad ((HAP.out f (Nat.le_refl f)).args _) HS141.out HB.out ⟨HLT131.out, by have := HRM.out; have := HRLs.out; have := HLT131.out; (try simp only [zS]); omega⟩ HO.out HXX.out).mono ?_; rintro e wb ⟨rfl, hb⟩; have HBB := zh hb; clear hb; unfold wrongP; go_wp2
        exact ⟨rfl, by rw [← HRR145.out]; exact ⟨rfl, HBB.out⟩⟩
      | ok l146 j147 =>
       dsimp only [Res.then] at hr
       have hft := (fit_all HTK.out f).many (.args (tk K.T i1).a) o (i1 + 1) HLT131.out; rw [hX] at hft; have HF148 := zh (show j147 < K.T.length ∧ (i1 + 1) < j147 ∧ ptsS l146 + 4 ≤ 4 * (j147 - (i1 + 1)) from hft); clear hft; have HXX := zh hX; have HR9 := zh hr; clear hr hX; have HX139 := zh (show w132.drew.heap[b1]? = _ from HX135.out); have HA140 := zh HA136.out.drew; have HS141 := zh HS133.out.drew; have HS142 := zh (HS141.out.below (zbr.alloc znr _ : Below w132.drew.heap.size w132.drew (w132.drew.alloc (.cells #[.int .i64 (nx : Int)] 3)))); have HX143 := zh (below_blk (zbr.alloc znr _ : Below w132.drew.heap.size w132.drew (w132.drew.alloc (.cells #[.int .i64 (nx : Int)] 3))) HX139.out); have HA144 := zh (HA140.out.on (zbr.alloc znr _ : Below w132.drew.heap.size w132.drew (w132.drew.alloc (.cells #[.int .i64 (nx : Int)] 3))).size); go_wp2_with fail
       clear x137 xl138; refine wp_region_held_drew (S := fun w' => w'.heap[b1]? = some (.cells #[.pointer (some ⟨p, 0, none⟩)] 44 (0, 0))) (by kernel_rfl) (HX139.out) (fun hHeld => ?_); refine ztk 0 38 (.pointer (some ⟨p, 0, none⟩)) hHeld ?_ (hy := Or.inl ⟨by rfl, fun w' hS => (by have q0 := zc 0 hS rfl; go_simp)⟩); simp only [zq]; refine ztk 1 39 (.int .i64 ((tk K.T i1).a : Int)) hHeld ?_; simp only [zq]; refine ztk 2 40 (.int .i64 (nx : Int)) hHeld ?_; simp only [zq]; refine ztk 4 42 (.pointer (some ⟨p, 0, none⟩)) hHeld ?_ (hy := Or.inl ⟨by rfl, fun w' hS => (by have q0 := zc 0 hS rfl; go_simp)⟩); simp only [zq]; refine ztk 5 43 (.int .i64 ((tk K.T i1).a : Int)) hHeld ?_; simp only [zq]; refine wpAnyH_ready (rs := [3, 6]) (by kernel_rfl) (by simp) ?_; refine AllReadyH.cons (o := _) rfl (fun KQ hK => ?_) (AllReadyH.cons (o := _) rfl (fun KQ hK => ?_) (AllReadyH.nil))
       ·go_simp
        refine hK.out _ _ (HX143.out) (fun hHeld => ?_); clear hK KQ
        try simp only [zq]
        refine zrd 6 fun KQ hK => ?_
        go_simp
        refine (args_ok ((HAP.out f (Nat.le_refl f)).args _) HS142.out ⟨HLT131.out, by have := HRM.out; have := HRLs.out; have := HLT131.out; (try simp only [zS]); omega⟩ HO.out HXX.out).mono ?_; rintro e w149 ⟨A154, c155, fp151, rfl, h1, h2, h3, h4⟩; clear h4; obtain ⟨k152, hk⟩ : ∃ k, k = l146.length := ⟨_, rfl⟩; rw [← hk] at h3 ⊢; have HK153 := zh hk; have HS150 := zh h1; have HV156 := zh h3; have HX157 := zh (Away.blkTo HX143.out HA144.out h2); have HA158 := zh (HA144.out.to h2); have HG0 := zh (show w149.heap[w132.drew.heap.size]? = some (.cells #[.int .i64 (nx : Int)] 3 (0, 0)) from h2.fr.blk (heap_new_at w132.drew (.cells #[.int .i64 (nx : Int)] 3) _ rfl) (HS141.out.pa.notin znr)); have HG1 := zh ((Away.new HS141.out.pa znr (by simp) : Away (w132.drew.alloc (.cells #[.int .i64 (nx : Int)] 3)) p fp1 w132.drew.heap.size).to h2); have HG2 := zh (show p + 1 ≤ w132.drew.heap.size from HS141.out.pa.lt); have HG3 := zh (show w.heap.size ≤ w132.drew.heap.size from HS141.out.pt.fr.size); have HG4 := zh (show b1 ∉ [w132.drew.heap.size] from fun e9 => by have := blk_lt HX139.out; have := List.mem_singleton.1 e9; omega); clear h1 h2 h3 hk; refine hK.out _ _ (HX157.out) (fun hHeld => ?_); clear hK KQ
        try simp only [zq]
        refine zrd 7 fun KQ hK => ?_; refine step_cat (by rfl) _ _ (by rfl) (L := [x] ++ l146) HS150.out HG0.out HG1.out HG2.out HG3.out HV156.out (by rw [roots_len]; exact HK153.out) (by have h9 := HK153.out; have h8 := ptsS_len l146; have h7 := HRM.out; have h6 := HF148.out; have h5 := HRLs.out; have h4 := HF148.out; have h3 := HLN.out; omega) (by rfl) (by rfl) ?_; intro A161 c162 w159 h1 h2 h3; have HS160 := zh h1; have HV163 := zh h3; have HX164 := zh (h2.blk HX157.out HG4.out); have HA165 := zh (HA158.out.on h2.size); clear h1 h2 h3 HG0 HG1 HG2 HG3 HG4; refine hK.out _ _ (HX164.out) (fun hHeld => ?_); clear hK KQ
        try simp only [zq]
        refine zrd 8 fun KQ hK => ?_
        go_simp
        refine (lay_mid (L1 := []) (L2 := x :: l146) (show St K w p j147 o sn ns fp ([] ++ (x :: l146)) w159 fp151 from HS160.out) (by have := HRM.out; have := HRLs.out; have := HLT131.out; have := HF148.out; (try simp only [ptsS, ptS, List.nil_append, Nat.add_zero, Nat.zero_add]); omega) (by have h8 := ptsS_len l146; have := HRM.out; have := HLN.out; have := HRLs.out; have := HLT131.out; have := HF148.out; simp only [List.length_cons]; omega) 20 ⟨#[]⟩ (tk K.T i1).a HV163.out.kids (by simp only [HNX.out, nr, roots, ptsS, Nat.add_zero])).mono ?_; rintro e w166 ⟨rfl, fp167, h1, h2⟩; obtain ⟨n169, hn⟩ : ∃ n, n = nr ns [] (.mk 20 ⟨#[]⟩ (tk K.T i1).a (x :: l146)) := ⟨_, rfl⟩; rw [← hn]; have HN170 := zh hn; have HS168 := zh (show St K w p j147 o sn ns fp [(.mk 20 ⟨#[]⟩ (tk K.T i1).a (x :: l146))] w166 fp167 from h1); have HX171 := zh (Away.blkTo HX164.out HA165.out h2); have HA172 := zh (HA165.out.to h2); clear h1 h2 hn; refine hK.out _ _ (HX171.out) (fun hHeld => ?_); clear hK KQ
        try simp only [zq]
        refine ztk 9 3 (natV n169) hHeld ?_; simp only [zq]; refine wpAnyH_done (by kernel_rfl) ?_ _; have hr := HR9.out; clear HR9; have x173 := zc 0 HX171.out rfl; have xl174 := blk_lt HX171.out; have HRF := zh hr; clear hr
        try unfold natV
        try go_wp2_with fail
        clear x173 xl174; go_roundw
        case rel => exact ⟨_, n169, j147, fp167, f, rfl, HN170, HS168, zh ⟨by have := HLE.out; omega, HRF.out⟩, zh ⟨HF148.out.1, by have := HRM.out; have := HRLs.out; have := HLT131.out; have := HF148.out; (try simp only [zS]); omega⟩, zh ⟨HX171.out, HA172.out⟩⟩
        case measure => have h5 := HN170.out; have h6 := HNX.out; have h7 := ptS_pos x; have h8 := ptS_pos (.mk 20 ⟨#[]⟩ (tk K.T i1).a (x :: l146)); unfold nr at h5 h6; simp only [ptsS, ptS, Nat.add_zero, Nat.zero_add] at h5 h6 h8; have := HRLs.out; have := HLT131.out; have := HF148.out; simp [intOf]; omega
       ·go_simp
        refine (args_ok ((HAP.out f (Nat.le_refl f)).args _) HS141.out ⟨HLT131.out, by have := HRM.out; have := HRLs.out; have := HLT131.out; (try simp only [zS]); omega⟩ HO.out HXX.out).mono ?_; rintro e w175 ⟨A180, c181, fp177, rfl, h1, h2, h3, h4⟩; clear h4; obtain ⟨k178, hk⟩ : ∃ k, k = l146.length := ⟨_, rfl⟩; rw [← hk] at h3 ⊢; have HK179 := zh hk; have HS176 := zh h1; have HV182 := zh h3; have HX183 := zh (Away.blkTo HX139.out HA140.out h2); have HA184 := zh (HA140.out.to h2); clear h1 h2 h3 hk; refine hK.out _ _ (HX183.out) (fun hHeld => ?_); clear hK KQ
        try simp only [zq]
        refine zrd 3 fun KQ hK => ?_
        go_simp
        have HS185 := zh (HS176.out.below (zbr.alloc znr _ : Below w175.heap.size w175 (w175.alloc (.cells #[.int .i64 (nx : Int)] 3)))); have HV186 := zh (HV182.out.to (PaTo.of_below HS176.out.pa (zbr.alloc znr _ : Below w175.heap.size w175 (w175.alloc (.cells #[.int .i64 (nx : Int)] 3))))); have HX187 := zh (below_blk (zbr.alloc znr _ : Below w175.heap.size w175 (w175.alloc (.cells #[.int .i64 (nx : Int)] 3))) HX183.out); have HA188 := zh (HA184.out.on (zbr.alloc znr _ : Below w175.heap.size w175 (w175.alloc (.cells #[.int .i64 (nx : Int)] 3))).size); have HG0 := zh (heap_new_at w175 (.cells #[.int .i64 (nx : Int)] 3) _ rfl); have HG1 := zh (Away.new HS176.out.pa znr (by simp) : Away (w175.alloc (.cells #[.int .i64 (nx : Int)] 3)) p fp177 w175.heap.size); have HG2 := zh (show p + 1 ≤ w175.heap.size from HS176.out.pa.lt); have HG3 := zh (show w.heap.size ≤ w175.heap.size from HS176.out.pt.fr.size); have HG4 := zh (show b1 ∉ [w175.heap.size] from fun e9 => by have := blk_lt HX183.out; have := List.mem_singleton.1 e9; omega); refine hK.out _ _ (HX187.out) (fun hHeld => ?_); clear hK KQ
        try simp only [zq]
        refine zrd 7 fun KQ hK => ?_; refine step_cat (by rfl) _ _ (by rfl) (L := [x] ++ l146) HS185.out HG0.out HG1.out HG2.out HG3.out HV186.out (by rw [roots_len]; exact HK179.out) (by have h9 := HK179.out; have h8 := ptsS_len l146; have h7 := HRM.out; have h6 := HF148.out; have h5 := HRLs.out; have h4 := HF148.out; have h3 := HLN.out; omega) (by rfl) (by rfl) ?_; intro A191 c192 w189 h1 h2 h3; have HS190 := zh h1; have HV193 := zh h3; have HX194 := zh (h2.blk HX187.out HG4.out); have HA195 := zh (HA188.out.on h2.size); clear h1 h2 h3 HG0 HG1 HG2 HG3 HG4; refine hK.out _ _ (HX194.out) (fun hHeld => ?_); clear hK KQ
        try simp only [zq]
        refine zrd 8 fun KQ hK => ?_
        go_simp
        refine (lay_mid (L1 := []) (L2 := x :: l146) (show St K w p j147 o sn ns fp ([] ++ (x :: l146)) w189 fp177 from HS190.out) (by have := HRM.out; have := HRLs.out; have := HLT131.out; have := HF148.out; (try simp only [ptsS, ptS, List.nil_append, Nat.add_zero, Nat.zero_add]); omega) (by have h8 := ptsS_len l146; have := HRM.out; have := HLN.out; have := HRLs.out; have := HLT131.out; have := HF148.out; simp only [List.length_cons]; omega) 20 ⟨#[]⟩ (tk K.T i1).a HV193.out.kids (by simp only [HNX.out, nr, roots, ptsS, Nat.add_zero])).mono ?_; rintro e w196 ⟨rfl, fp197, h1, h2⟩; obtain ⟨n199, hn⟩ : ∃ n, n = nr ns [] (.mk 20 ⟨#[]⟩ (tk K.T i1).a (x :: l146)) := ⟨_, rfl⟩; rw [← hn]; have HN200 := zh hn; have HS198 := zh (show St K w p j147 o sn ns fp [(.mk 20 ⟨#[]⟩ (tk K.T i1).a (x :: l146))] w196 fp197 from h1); have HX201 := zh (Away.blkTo HX194.out HA195.out h2); have HA202 := zh (HA195.out.to h2); clear h1 h2 hn; refine hK.out _ _ (HX201.out) (fun hHeld => ?_); clear hK KQ
        try simp only [zq]
        refine ztk 9 3 (natV n199) hHeld ?_; simp only [zq]; refine wpAnyH_done (by kernel_rfl) ?_ _; have hr := HR9.out; clear HR9; have x203 := zc 0 HX201.out rfl; have xl204 := blk_lt HX201.out; have HRF := zh hr; clear hr
        try unfold natV
        try go_wp2_with fail
        clear x203 xl204; go_roundw
        case rel => exact ⟨_, n199, j147, fp197, f, rfl, HN200, HS198, zh ⟨by have := HLE.out; omega, HRF.out⟩, zh ⟨HF148.out.1, by have := HRM.out; have := HRLs.out; have := HLT131.out; have := HF148.out; (try simp only [zS]); omega⟩, zh ⟨HX201.out, HA202.out⟩⟩
        case measure => have h5 := HN200.out; have h6 := HNX.out; have h7 := ptS_pos x; have h8 := ptS_pos (.mk 20 ⟨#[]⟩ (tk K.T i1).a (x :: l146)); unfold nr at h5 h6; simp only [ptsS, ptS, Nat.add_zero, Nat.zero_add] at h5 h6 h8; have := HRLs.out; have := HLT131.out; have := HF148.out; simp [intOf]; omega
     | false =>
      rw [if_neg (by rw [hb]; decide)] at hr; have HC207 := zh (got_no HS125.out.pa HRL.out.1 ⟨#[40]⟩ hb); clear hb; have HR := zh hr; clear hr; go_wp2_with fail
      clear x129 xl130; refine HC207.out.mono ?_; rintro e w205 ⟨rfl, h1, h2⟩; have HS206 := zh (HS125.out.below h2); have HX208 := zh (below_blk h2 HX127.out); have HA209 := zh (HA128.out.on h2.size); clear h2 h1; have x210 := zc 0 HX208.out rfl; have xl211 := blk_lt HX208.out; have hr := HR.out; clear HR; have HFI := zh (show Res.ok _ _ = r from Option.some.inj hr); clear hr; have HZZ := zh (HS206.out.out); go_wp2
      go_ret
      exact (by rw [← HFI.out]; have h9 := HZZ.out; rw [← HNX.out] at h9; exact h9)

theorem flat_last (b : Nat) (t : PT) : (flat b t)[ptS t - 1]? = some ⟨t.kind, t.text, roots b t.kids, t.a⟩ := by
 cases t with
 | mk k x a l =>
  rw [flat, ptS, Nat.add_sub_cancel, List.getElem?_append_right (by rw [flats_len]; exact znr), flats_len, Nat.sub_self]
  rfl
theorem root_at (ns : List Nd) (L1 L2 : List PT) (x : PT) : (ns ++ flats ns.length (L1 ++ x :: L2))[nr ns L1 x]? = some ⟨x.kind, x.text, roots (ns.length + ptsS L1) x.kids, x.a⟩ := by
 have hp := ptS_pos x
 unfold nr
 rw [List.getElem?_append_right (by omega), flats_append, List.getElem?_append_right (by rw [flats_len]; omega), flats_len, flats, List.getElem?_append_left (by rw [flat_len]; omega)]
 rw [show ns.length + ptsS L1 + ptS x - 1 - ns.length - ptsS L1 = ptS x - 1 by omega]
 exact flat_last _ x
def NodeAt (w : World) (p gb N c k : Nat) (A1 : Option Addr) (n1 c1 : Nat) (kd : Int) (x : ByteArray) (a : Nat) : Prop :=
 w.cell? ⟨p, 2, none⟩ = some (.slice (some ⟨gb, 0, none⟩) N c) ∧ w.cell? ((⟨gb, 0, none⟩ : Addr).add (k * 4)) = some (.int .i64 kd) ∧ w.cell? ⟨((⟨gb, 0, none⟩ : Addr).add (k * 4)).block, ((⟨gb, 0, none⟩ : Addr).add (k * 4)).off + 1, none⟩ = some (.string x) ∧
  w.cell? ⟨((⟨gb, 0, none⟩ : Addr).add (k * 4)).block, ((⟨gb, 0, none⟩ : Addr).add (k * 4)).off + 2, none⟩ = some (.slice A1 n1 c1) ∧ w.cell? ⟨((⟨gb, 0, none⟩ : Addr).add (k * 4)).block, ((⟨gb, 0, none⟩ : Addr).add (k * 4)).off + 3, none⟩ = some (.int .i64 (a : Int))
theorem pa_node {K : PaK} {w : World} {p i o : Nat} {sn : Fin 8 → Bool} {ns : List Nd} {fp : List Nat} (h : PaAt K w p i o sn ns fp) {k : Nat} {nd : Nd} (hk : ns[k]? = some nd) :
  ∃ gb N c A1 n1 c1, k < N ∧ p < w.heap.size ∧ gb < w.heap.size ∧ NodeAt w p gb N c k A1 n1 c1 nd.kind nd.text nd.a := by
 obtain ⟨nv, l, hm⟩ := h.mem
 have hp := pa_cell hm.blk
 have hlt : k < ns.length := (List.getElem?_eq_some_iff.1 hk).1
 obtain ⟨A, c, rfl, _, _, h3⟩ := own_form hm.own
 obtain ⟨gb, rfl, _, h4, _, h5⟩ := h3 (by omega)
 have hlen : l.length = ns.length := by rw [← hm.nds, List.length_map]
 obtain ⟨x, hx⟩ : ∃ x, l[k]? = some x := ⟨l[k]'(by omega), List.getElem?_eq_getElem (by omega)⟩
 have hnd : x.nd = nd := by
  have := hk; rw [← hm.nds, List.getElem?_map, hx] at this; exact Option.some.inj this
 have hcell : ∀ j u, (l.flatMap ndEnc)[j]? = some u → w.cell? ((⟨gb, 0, none⟩ : Addr).add j) = some u := fun j u hu => by rw [Addr.add_mid, Nat.zero_add]; exact h5 j u hu
 have x0 := elem_zero (K := 4) ndEnc_len hcell hx (by omega) rfl
 have x1 := elem_at (K := 4) ndEnc_len hcell hx 1 (by omega) (by omega) rfl
 have x2 := elem_at (K := 4) ndEnc_len hcell hx 2 (by omega) (by omega) rfl
 have x3 := elem_at (K := 4) ndEnc_len hcell hx 3 (by omega) (by omega) rfl
 rw [hnd] at x0 x1 x2 x3
 exact ⟨gb, ns.length, c, x.A, nd.kids.length, x.c, hlt, h.lt, h4, hp.2.2.1, x0, x1, x2, x3⟩
theorem NodeAt.below {w w' : World} {p gb N c k : Nat} {A1 : Option Addr} {n1 c1 : Nat} {kd : Int} {x : ByteArray} {a B : Nat} (h : NodeAt w p gb N c k A1 n1 c1 kd x a) (hp : p < B) (hg : gb < B) (hb : Below B w w') : NodeAt w' p gb N c k A1 n1 c1 kd x a :=
 ⟨(hb.cell (by exact hp)).trans h.1, (hb.cell (by rw [block_add']; exact hg)).trans h.2.1, (hb.cell (by show (Addr.add _ _).block < B; rw [block_add']; exact hg)).trans h.2.2.1, (hb.cell (by show (Addr.add _ _).block < B; rw [block_add']; exact hg)).trans h.2.2.2.1, (hb.cell (by show (Addr.add _ _).block < B; rw [block_add']; exact hg)).trans h.2.2.2.2⟩
end Go.Proofs.YthobobmbileekaaGreatDoor
