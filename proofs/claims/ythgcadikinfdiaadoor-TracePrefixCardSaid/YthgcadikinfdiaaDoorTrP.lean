/-
  TracePrefix: the walk: what somebody sees of a beginning is the beginning of what they see; who may see more sees no less.
-/
import Derived.Test.YthgcadikinfdiaaDoorTrK
import Derived.Laws.BitsAllLaws
import Derived.Deep.RegionHeld3
set_option linter.unusedVariables false
set_option linter.unusedSimpArgs false
namespace Go.Proofs.YthgcadikinfdiaaDoor
open Go.ChangeShapes Go.WideShapes Go.ChangeAt Go.RowKit

theorem flowsB_more {a s t : Nat} (h : flowsB a s = true) : flowsB a (s ||| t) = true := by
  unfold flowsB at h ⊢
  have h' : a &&& s = a := by simpa using h
  have : a &&& (s ||| t) = a := by
    refine Nat.eq_of_testBit_eq fun i => ?_
    have hi := congrArg (fun x => x.testBit i) h'
    simp only [Nat.testBit_and, Nat.testBit_or] at hi ⊢
    cases ha : a.testBit i
    · simp
    · rw [ha] at hi
      simp at hi
      simp [hi]
  simpa using this
theorem seesB_more {m : Nat → Nat} {k : Int} {s t : Nat} (h : seesB m k s = true) : seesB m k (s ||| t) = true := by
  unfold seesB at h ⊢
  rw [Bool.and_eq_true] at h ⊢
  exact ⟨h.1, flowsB_more h.2⟩
theorem low_low (m : Nat → Nat) (s t : Nat) (l : List Ev) : lowS m s (lowS m (s ||| t) l) = lowS m s l := by
  unfold lowS
  rw [List.filter_filter]
  refine List.filter_congr fun e _ => ?_
  cases h : seesB m e.channel s
  · rfl
  · rw [seesB_more h]; rfl
theorem low_sum (m : Nat → Nat) (see : Nat) (a b : List Ev) (A : Option Addr) (c : Nat) (w : World) (hm : ∀ i, i < 8 → m i < 18446744073709551616) (hs : see < 18446744073709551616) (hr : Reads w w.heap.size A ((a ++ b).flatMap evEnc)) (hn : ((a ++ b).length + 1) * 40 ≤ 140737488355328) :
    Calls Tryd.prog 11 #[.slice A (a.length + b.length : Nat) c, .agg (arr8 (mv m)), .int .u64 (see : Int)] w fun e w' => ∃ v, e = .returned v ∧ w'.ownsRow w.heap.size 38 4 v (lowS m see (a ++ b)).length ((lowS m see (a ++ b)).flatMap evEnc) ∧ Below w.heap.size w w' := by
  have h := low_any m see (a ++ b) A c w hm hs hr hn
  rw [List.length_append] at h
  exact h
theorem app_len {a b : List Ev} (h1 : a.length ≤ 1000) (h2 : b.length ≤ 1000) : ((a ++ b).length + 1) * 40 ≤ 140737488355328 := by
  rw [List.length_append]
  omega
theorem low_app (m : Nat → Nat) (s : Nat) (a b : List Ev) : begB (lowS m s a) (lowS m s (a ++ b)) = true := by
  unfold lowS
  rw [List.filter_append]
  exact begB_app _ _
set_option maxRecDepth 100000 in
set_option maxHeartbeats 400000 in
theorem tprefix_walk (m : Nat → Nat) (see more : Nat) (xs ys : List Ev) (A C : Option Addr) (c d : Nat) (w : World) (hm : ∀ i, i < 8 → m i < 18446744073709551616) (hs : see < 18446744073709551616) (hmo : more < 18446744073709551616) (h : EvsIn w A xs) (k : EvsIn w C ys)
    (hA : A = none → xs = [] ∧ c = 0) (hC : C = none → ys = [] ∧ d = 0) (ht : Tab w) :
    Calls Tryd.prog 6 #[.slice A xs.length c, .slice C ys.length d, .agg (arr8 (mv m)), .int .u64 (see : Int), .int .u64 (more : Int)] w (RetB (.bool true) w) := by
  have hlen := h.len
  have klen := k.len
  have H := Lib.hid h
  have HK := Lib.hid k
  have hb := (Below.refl w.heap.size w).alloc (Nat.le_refl _) (.cells (arr8 (mv m)) 25)
  have HBX := Lib.hid hb
  have HA := Lib.hid (awake25 (w.alloc (.cells (arr8 (mv m)) 25)) (ht.below hb))
  have NA := Lib.hid hA
  have NC := Lib.hid hC
  have hBM := heap_alloc_new w (.cells (arr8 (mv m)) 25)
  have HBM := Lib.hid hBM
  have HM := Lib.hid hm
  have HSE := Lib.hid hs
  have HMO := Lib.hid hmo
  have HOR := Lib.hid (u64_or_nat see more hs hmo)
  have HOL := Lib.hid (Nat.or_lt_two_pow (n := 64) hs hmo)
  clear h k ht hA hC hb hBM hm hs hmo
  go_enter Tryd.func6, Tryd.ntmps6
  go_wp2_with fail
  refine HA.out.mono ?_
  rintro e w0 ⟨rfl, hb0⟩
  have B0 := Lib.hid (below_blk hb0 HBM.out)
  have HB0 := Lib.hid (HBX.out.trans (hb0.mono (by simp)))
  clear hb0
  go_wp2_with fail
  refine (few_any xs A c w0 (reads_on H.out.reads HB0.out) (by omega) (fun x hx => (H.out.ok x hx).2.2)).mono ?_
  rintro e w1 ⟨b, rfl, hb1, hf⟩
  have B1 := Lib.hid (below_blk hb1 B0.out)
  have HB1 := Lib.hid (HB0.out.trans (hb1.mono HB0.out.size))
  clear hb1
  cases b
  · clear hf
    go_wp2
    go_ret
    exact ⟨rfl, HB1.out⟩
  have HS := Lib.hid (few_small H.out (hf rfl))
  clear hf
  go_wp2_with fail
  refine (few_any ys C d w1 (reads_on HK.out.reads HB1.out) (by omega) (fun x hx => (HK.out.ok x hx).2.2)).mono ?_
  rintro e w2 ⟨b, rfl, hb2, hf⟩
  have B2 := Lib.hid (below_blk hb2 B1.out)
  have HB2 := Lib.hid (HB1.out.trans (hb2.mono HB1.out.size))
  clear hb2
  cases b
  · clear hf
    go_wp2
    go_ret
    exact ⟨rfl, HB2.out⟩
  have HS2 := Lib.hid (few_small HK.out (hf rfl))
  clear hf
  have hz1 := HS.out.1
  have hz2 := HS2.out.1
  have r1 : ∀ W, Below w2.heap.size w2 W → Reads W W.heap.size C (ys.flatMap evEnc) := fun W hb => reads_on HK.out.reads (HB2.out.trans (hb.mono HB2.out.size))
  have R1 := Lib.hid r1
  have R0 := Lib.hid (reads_on H.out.reads HB2.out)
  clear r1
  go_wp2_with (first
    | (at_builtin; refine append_evs (by rfl) (.const (.slice none 0 0)) _ rfl w2.heap.size (.slice none 0 0) [] rfl (World.ownsRow_nil _ _ _ _) A c xs NA.out rfl R0.out (by simp; omega) (Nat.le_refl _) ?_; intro v1 w5 ho1 hb5)
    | (at_builtin; refine append_evs (by rfl) _ _ rfl w2.heap.size v1 xs rfl ho1 C d ys NC.out rfl (R1.out _ hb5) (by omega) hb5.size ?_; intro v2 w6 ho2 hb6; have hb7 := hb5.trans hb6; obtain ⟨D, q, rfl, hRA⟩ := own_reads ho2))
  have B6 := Lib.hid (below_blk hb7 B2.out)
  have HB6 := Lib.hid (HB2.out.trans (hb7.mono HB2.out.size))
  have hR6 : Reads w6 w6.heap.size D ((xs ++ ys).flatMap evEnc) := hRA
  have H6 := Lib.hid hR6
  have hzl := app_len hz1 hz2
  have HX := Lib.hid (fun (W : World) (hW : Below w6.heap.size w6 W) => low_any m see xs A c W HM.out HSE.out (reads_on H.out.reads (HB6.out.trans (hW.mono HB6.out.size))) hlen)
  have HY := Lib.hid (fun (W : World) (hW : Below w6.heap.size w6 W) => low_sum m see xs ys D q W HM.out HSE.out (reads_on H6.out hW) hzl)
  have HZ := Lib.hid (fun (W : World) (hW : Below w6.heap.size w6 W) => low_sum m (see ||| more) xs ys D q W HM.out HOL.out (reads_on H6.out hW) hzl)
  have hln1 := low_len m see xs
  have hln2 := low_len m see (xs ++ ys)
  have hln3 := low_len m (see ||| more) (xs ++ ys)
  have HAP := Lib.hid (low_app m see xs ys)
  have HLL := Lib.hid (low_low m see more (xs ++ ys))
  clear ho1 ho2 hb5 hb6 hb7 hRA hR6
  generalize hO : see ||| more = O at *
  refine wp_region_noPanic ?_
  refine wp_region_held_drew (S := fun w' => w'.heap[w.heap.size]? = some (.cells (arr8 (mv m)) 25 (0, 0))) (by kernel_rfl) (B6.out) (fun hHeld => ?_)
  refine wpAnyH_take (i := 0) (oi := _) (v := .slice A xs.length c) rfl (by kernel_rfl) (by kernel_rfl) (by kernel_rfl) (fun _ _ _ h => h) (Or.inl ⟨by rfl, fun w' hS => (by go_simp)⟩) hHeld ?_
  change wpAnyH _ _ _ _ _ _ _ (Act.put _ (some 29) _) _
  try simp only [Act.put, List.setIfInBounds_toArray, List.set_cons_zero, List.set_cons_succ]
  refine wpAnyH_take (i := 1) (oi := _) (v := .agg #[mv m 0, mv m 1, mv m 2, mv m 3, mv m 4, mv m 5, mv m 6, mv m 7]) rfl (by kernel_rfl) (by kernel_rfl) (by kernel_rfl) (fun _ _ _ h => h) (Or.inl ⟨by rfl, fun w' hS => (by have q0 : w'.cell? ⟨w.heap.size, 0, none⟩ = some (mv m 0) := cell_of_blk hS rfl; have q1 : w'.cell? ⟨w.heap.size, 1, none⟩ = some (mv m 1) := cell_of_blk hS rfl; have q2 : w'.cell? ⟨w.heap.size, 2, none⟩ = some (mv m 2) := cell_of_blk hS rfl; have q3 : w'.cell? ⟨w.heap.size, 3, none⟩ = some (mv m 3) := cell_of_blk hS rfl; have q4 : w'.cell? ⟨w.heap.size, 4, none⟩ = some (mv m 4) := cell_of_blk hS rfl; have q5 : w'.cell? ⟨w.heap.size, 5, none⟩ = some (mv m 5) := cell_of_blk hS rfl; have q6 : w'.cell? ⟨w.heap.size, 6, none⟩ = some (mv m 6) := cell_of_blk hS rfl; have q7 : w'.cell? ⟨w.heap.size, 7, none⟩ = some (mv m 7) := cell_of_blk hS rfl; go_simp)⟩) hHeld ?_
  change wpAnyH _ _ _ _ _ _ _ (Act.put _ (some 30) _) _
  try simp only [Act.put, List.setIfInBounds_toArray, List.set_cons_zero, List.set_cons_succ]
  refine wpAnyH_take (i := 2) (oi := _) (v := .int .u64 (see : Int)) rfl (by kernel_rfl) (by kernel_rfl) (by kernel_rfl) (fun _ _ _ h => h) (Or.inl ⟨by rfl, fun w' hS => (by go_simp)⟩) hHeld ?_
  change wpAnyH _ _ _ _ _ _ _ (Act.put _ (some 31) _) _
  try simp only [Act.put, List.setIfInBounds_toArray, List.set_cons_zero, List.set_cons_succ]
  refine wpAnyH_take (i := 4) (oi := _) (v := .slice D (xs.length + ys.length) q) rfl (by kernel_rfl) (by kernel_rfl) (by kernel_rfl) (fun _ _ _ h => h) (Or.inl ⟨by rfl, fun w' hS => (by go_simp)⟩) hHeld ?_
  change wpAnyH _ _ _ _ _ _ _ (Act.put _ (some 33) _) _
  try simp only [Act.put, List.setIfInBounds_toArray, List.set_cons_zero, List.set_cons_succ]
  refine wpAnyH_take (i := 5) (oi := _) (v := .agg #[mv m 0, mv m 1, mv m 2, mv m 3, mv m 4, mv m 5, mv m 6, mv m 7]) rfl (by kernel_rfl) (by kernel_rfl) (by kernel_rfl) (fun _ _ _ h => h) (Or.inl ⟨by rfl, fun w' hS => (by have q0 : w'.cell? ⟨w.heap.size, 0, none⟩ = some (mv m 0) := cell_of_blk hS rfl; have q1 : w'.cell? ⟨w.heap.size, 1, none⟩ = some (mv m 1) := cell_of_blk hS rfl; have q2 : w'.cell? ⟨w.heap.size, 2, none⟩ = some (mv m 2) := cell_of_blk hS rfl; have q3 : w'.cell? ⟨w.heap.size, 3, none⟩ = some (mv m 3) := cell_of_blk hS rfl; have q4 : w'.cell? ⟨w.heap.size, 4, none⟩ = some (mv m 4) := cell_of_blk hS rfl; have q5 : w'.cell? ⟨w.heap.size, 5, none⟩ = some (mv m 5) := cell_of_blk hS rfl; have q6 : w'.cell? ⟨w.heap.size, 6, none⟩ = some (mv m 6) := cell_of_blk hS rfl; have q7 : w'.cell? ⟨w.heap.size, 7, none⟩ = some (mv m 7) := cell_of_blk hS rfl; go_simp)⟩) hHeld ?_
  change wpAnyH _ _ _ _ _ _ _ (Act.put _ (some 34) _) _
  try simp only [Act.put, List.setIfInBounds_toArray, List.set_cons_zero, List.set_cons_succ]
  refine wpAnyH_take (i := 6) (oi := _) (v := .int .u64 (see : Int)) rfl (by kernel_rfl) (by kernel_rfl) (by kernel_rfl) (fun _ _ _ h => h) (Or.inl ⟨by rfl, fun w' hS => (by go_simp)⟩) hHeld ?_
  change wpAnyH _ _ _ _ _ _ _ (Act.put _ (some 35) _) _
  try simp only [Act.put, List.setIfInBounds_toArray, List.set_cons_zero, List.set_cons_succ]
  refine wpAnyH_take (i := 8) (oi := _) (v := .slice D (xs.length + ys.length) q) rfl (by kernel_rfl) (by kernel_rfl) (by kernel_rfl) (fun _ _ _ h => h) (Or.inl ⟨by rfl, fun w' hS => (by go_simp)⟩) hHeld ?_
  change wpAnyH _ _ _ _ _ _ _ (Act.put _ (some 37) _) _
  try simp only [Act.put, List.setIfInBounds_toArray, List.set_cons_zero, List.set_cons_succ]
  refine wpAnyH_take (i := 9) (oi := _) (v := .agg #[mv m 0, mv m 1, mv m 2, mv m 3, mv m 4, mv m 5, mv m 6, mv m 7]) rfl (by kernel_rfl) (by kernel_rfl) (by kernel_rfl) (fun _ _ _ h => h) (Or.inl ⟨by rfl, fun w' hS => (by have q0 : w'.cell? ⟨w.heap.size, 0, none⟩ = some (mv m 0) := cell_of_blk hS rfl; have q1 : w'.cell? ⟨w.heap.size, 1, none⟩ = some (mv m 1) := cell_of_blk hS rfl; have q2 : w'.cell? ⟨w.heap.size, 2, none⟩ = some (mv m 2) := cell_of_blk hS rfl; have q3 : w'.cell? ⟨w.heap.size, 3, none⟩ = some (mv m 3) := cell_of_blk hS rfl; have q4 : w'.cell? ⟨w.heap.size, 4, none⟩ = some (mv m 4) := cell_of_blk hS rfl; have q5 : w'.cell? ⟨w.heap.size, 5, none⟩ = some (mv m 5) := cell_of_blk hS rfl; have q6 : w'.cell? ⟨w.heap.size, 6, none⟩ = some (mv m 6) := cell_of_blk hS rfl; have q7 : w'.cell? ⟨w.heap.size, 7, none⟩ = some (mv m 7) := cell_of_blk hS rfl; go_simp)⟩) hHeld ?_
  change wpAnyH _ _ _ _ _ _ _ (Act.put _ (some 38) _) _
  try simp only [Act.put, List.setIfInBounds_toArray, List.set_cons_zero, List.set_cons_succ]
  refine wpAnyH_take (i := 10) (oi := _) (v := .int .u64 (see : Int)) rfl (by kernel_rfl) (by kernel_rfl) (by kernel_rfl) (fun _ _ _ h => h) (Or.inl ⟨by rfl, fun w' hS => (by go_simp)⟩) hHeld ?_
  change wpAnyH _ _ _ _ _ _ _ (Act.put _ (some 39) _) _
  try simp only [Act.put, List.setIfInBounds_toArray, List.set_cons_zero, List.set_cons_succ]
  refine wpAnyH_take (i := 11) (oi := _) (v := .int .u64 (more : Int)) rfl (by kernel_rfl) (by kernel_rfl) (by kernel_rfl) (fun _ _ _ h => h) (Or.inl ⟨by rfl, fun w' hS => (by go_simp)⟩) hHeld ?_
  change wpAnyH _ _ _ _ _ _ _ (Act.put _ (some 40) _) _
  try simp only [Act.put, List.setIfInBounds_toArray, List.set_cons_zero, List.set_cons_succ]
  refine wpAnyH_take (i := 12) (oi := _) (v := .int .u64 (O : Int)) rfl (by kernel_rfl) (by kernel_rfl) (by kernel_rfl) (fun _ _ _ h => h) (Or.inl ⟨by rfl, fun w' hS => (by have hor := HOR.out; go_simp)⟩) hHeld ?_
  change wpAnyH _ _ _ _ _ _ _ (Act.put _ (some 41) _) _
  try simp only [Act.put, List.setIfInBounds_toArray, List.set_cons_zero, List.set_cons_succ]
  refine wpAnyH_ready (rs := [3]) (by kernel_rfl) (by simp) ?_
  refine AllReadyH.cons (o := _) rfl (fun K hK => ?_) AllReadyH.nil
  go_simp
  refine (HX.out _ ((Below.refl _ _).drew)).mono ?_
  rintro e w7 ⟨u7, rfl, ho, hbb⟩
  obtain ⟨A7, c7, rfl, hRR⟩ := own_reads ho
  have B7 := Lib.hid (below_blk hbb (blk_drew B6.out))
  have HC7 := Lib.hid ((Below.refl w6.heap.size w6).drew.trans (hbb.mono (by simp)))
  have RR7 := Lib.hid hRR
  clear ho hRR hbb
  refine hK.out _ _ (B7.out) (fun hHeld => ?_)
  clear hK K
  try simp only [Act.put, List.setIfInBounds_toArray, List.set_cons_zero, List.set_cons_succ]
  refine wpAnyH_ready (rs := [7]) (by kernel_rfl) (by simp) ?_
  refine AllReadyH.cons (o := _) rfl (fun K hK => ?_) AllReadyH.nil
  go_simp
  refine (HY.out _ (HC7.out)).mono ?_
  rintro e w8 ⟨u8, rfl, ho, hbb⟩
  obtain ⟨A8, c8, rfl, hRR⟩ := own_reads ho
  have B8 := Lib.hid (below_blk hbb B7.out)
  have HC8 := Lib.hid (HC7.out.trans (hbb.mono HC7.out.size))
  have RR8 := Lib.hid hRR
  have RR7 := Lib.hid (reads_on RR7.out hbb)
  clear ho hRR hbb
  refine hK.out _ _ (B8.out) (fun hHeld => ?_)
  clear hK K
  try simp only [Act.put, List.setIfInBounds_toArray, List.set_cons_zero, List.set_cons_succ]
  refine wpAnyH_ready (rs := [13]) (by kernel_rfl) (by simp) ?_
  refine AllReadyH.cons (o := _) rfl (fun K hK => ?_) AllReadyH.nil
  go_simp
  refine (HZ.out _ (HC8.out)).mono ?_
  rintro e w9 ⟨u9, rfl, ho, hbb⟩
  obtain ⟨A9, c9, rfl, hRR⟩ := own_reads ho
  have B9 := Lib.hid (below_blk hbb B8.out)
  have HC9 := Lib.hid (HC8.out.trans (hbb.mono HC8.out.size))
  have RR9 := Lib.hid hRR
  have RR7 := Lib.hid (reads_on RR7.out hbb)
  have RR8 := Lib.hid (reads_on RR8.out hbb)
  clear ho hRR hbb
  refine hK.out _ _ (B9.out) (fun hHeld => ?_)
  clear hK K
  try simp only [Act.put, List.setIfInBounds_toArray, List.set_cons_zero, List.set_cons_succ]
  refine wpAnyH_take (i := 14) (oi := _) (v := .slice A7 (lowS m see xs).length c7) rfl (by kernel_rfl) (by kernel_rfl) (by kernel_rfl) (fun _ _ _ h => h) (Or.inl ⟨by rfl, fun w' hS => (by go_simp)⟩) hHeld ?_
  change wpAnyH _ _ _ _ _ _ _ (Act.put _ (some 12) _) _
  try simp only [Act.put, List.setIfInBounds_toArray, List.set_cons_zero, List.set_cons_succ]
  refine wpAnyH_take (i := 15) (oi := _) (v := .slice A8 (lowS m see (xs ++ ys)).length c8) rfl (by kernel_rfl) (by kernel_rfl) (by kernel_rfl) (fun _ _ _ h => h) (Or.inl ⟨by rfl, fun w' hS => (by go_simp)⟩) hHeld ?_
  change wpAnyH _ _ _ _ _ _ _ (Act.put _ (some 13) _) _
  try simp only [Act.put, List.setIfInBounds_toArray, List.set_cons_zero, List.set_cons_succ]
  refine wpAnyH_take (i := 16) (oi := _) (v := .slice A9 (lowS m O (xs ++ ys)).length c9) rfl (by kernel_rfl) (by kernel_rfl) (by kernel_rfl) (fun _ _ _ h => h) (Or.inl ⟨by rfl, fun w' hS => (by go_simp)⟩) hHeld ?_
  change wpAnyH _ _ _ _ _ _ _ (Act.put _ (some 14) _) _
  try simp only [Act.put, List.setIfInBounds_toArray, List.set_cons_zero, List.set_cons_succ]
  refine wpAnyH_done (by kernel_rfl) ?_ _
  refine NoPanic.normal ?_
  have HC := Lib.hid (HB6.out.trans (HC9.out.mono HB6.out.size))
  go_wp2_with fail
  refine (begins_any _ _ A7 A8 c7 c8 w9 RR7.out RR8.out (by omega) (by omega)).mono ?_
  rintro e w10 ⟨he, hb10⟩
  rw [HAP.out] at he
  subst he
  have B10 := Lib.hid (below_blk hb10 B9.out)
  have HC10 := Lib.hid (HC.out.trans (hb10.mono HC.out.size))
  have RZ := Lib.hid (reads_on RR9.out hb10)
  have RY := Lib.hid (reads_on RR8.out hb10)
  clear hb10
  have q0 : w10.cell? ⟨w.heap.size, 0, none⟩ = some (mv m 0) := cell_of_blk B10.out rfl
  have q1 : w10.cell? ⟨w.heap.size, 1, none⟩ = some (mv m 1) := cell_of_blk B10.out rfl
  have q2 : w10.cell? ⟨w.heap.size, 2, none⟩ = some (mv m 2) := cell_of_blk B10.out rfl
  have q3 : w10.cell? ⟨w.heap.size, 3, none⟩ = some (mv m 3) := cell_of_blk B10.out rfl
  have q4 : w10.cell? ⟨w.heap.size, 4, none⟩ = some (mv m 4) := cell_of_blk B10.out rfl
  have q5 : w10.cell? ⟨w.heap.size, 5, none⟩ = some (mv m 5) := cell_of_blk B10.out rfl
  have q6 : w10.cell? ⟨w.heap.size, 6, none⟩ = some (mv m 6) := cell_of_blk B10.out rfl
  have q7 : w10.cell? ⟨w.heap.size, 7, none⟩ = some (mv m 7) := cell_of_blk B10.out rfl
  go_wp2_with fail
  refine (low_any m see (lowS m O (xs ++ ys)) A9 c9 w10 HM.out HSE.out RZ.out (by omega)).mono ?_
  rintro e w11 ⟨u11, rfl, ho, hb11⟩
  rw [HLL.out] at ho
  obtain ⟨A11, c11, rfl, hR11⟩ := own_reads ho
  have HR11 := Lib.hid hR11
  have RY2 := Lib.hid (reads_on RY.out hb11)
  have HC11 := Lib.hid (HC10.out.trans (hb11.mono HC10.out.size))
  clear ho hR11 hb11 q0 q1 q2 q3 q4 q5 q6 q7
  go_wp2_with fail
  refine (same_any (lowS m see (xs ++ ys)) A11 A8 c11 c8 w11 HR11.out RY2.out (by omega)).mono ?_
  rintro e w12 ⟨rfl, hb12⟩
  have HC12 := Lib.hid (HC11.out.trans (hb12.mono HC11.out.size))
  clear hb12
  go_wp2
  go_ret
  exact ⟨by first | rfl | simp, HC12.out⟩
end Go.Proofs.YthgcadikinfdiaaDoor
