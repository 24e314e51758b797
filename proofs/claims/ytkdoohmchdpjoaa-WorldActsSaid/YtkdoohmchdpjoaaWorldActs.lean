/-
  WorldActs: whatever is read and written, under any labels, in any order: the walk.
-/
import Derived.Test.YtkdoohmchdpjoaaWorldTwo
import Derived.Deep.RegionHeld3
set_option linter.unusedVariables false
set_option linter.unusedSimpArgs false
namespace Go.Proofs.Ytkdoohmchdpjoaa
open Go.ChangeShapes Go.WideShapes Go.ChangeAt Go.RowKit

theorem rw_laid (m : Nat → Nat) (s : Nat → Sl Int) (v : Nat → Value) : rwCells (chAt (laidTo m s v 8)) s (.slice none 0 0) = #[mv m 0, mv m 1, mv m 2, mv m 3, mv m 4, mv m 5, mv m 6, mv m 7, sv s 0, sv s 1, sv s 2, sv s 3, sv s 4, sv s 5, sv s 6, sv s 7, .int .i64 0, .int .i64 0, .int .i64 0, .int .i64 0, .int .i64 0, .int .i64 0, .int .i64 0, .int .i64 0, .slice none 0 0] := by
  have h : ∀ k, k < 8 → chAt (laidTo m s v 8) k = ⟨m k, v k, (s k).xs, 0⟩ := fun k hk => chAt_some (laid_at m s v k hk)
  unfold rwCells
  rw [h 0 (by omega), h 1 (by omega), h 2 (by omega), h 3 (by omega), h 4 (by omega), h 5 (by omega), h 6 (by omega), h 7 (by omega)]
  rfl
theorem WorldIn.lower {w : World} {B B' g : Nat} {P : List CV} {ev : List Ev} (h : WorldIn w B g P ev) (hb : B' ≤ B) : WorldIn w B' g P ev :=
  ⟨Nat.le_trans hb h.base, h.eight, h.own.imp fun _ ⟨h1, h2⟩ => ⟨h1, own_base h2 hb⟩, fun c hc => own_base (h.ins c hc) hb⟩
theorem room_max {n : Nat} (h : n * 8 ≤ 140737488351232) : n ≤ maxLen := by unfold maxLen; omega
theorem st_start {N g gr : Nat} {s : Nat → Sl Int} {m : Nat → Nat} {v : Nat → Value} {w2 w4 : World} (hW : WorldIn w4 N g (laidTo m s v 8) []) (hbl : w4.heap[gr]? = some (.cells #[mv m 0, mv m 1, mv m 2, mv m 3, mv m 4, mv m 5, mv m 6, mv m 7, sv s 0, sv s 1, sv s 2, sv s 3, sv s 4, sv s 5, sv s 6, sv s 7, .int .i64 0, .int .i64 0, .int .i64 0, .int .i64 0, .int .i64 0, .int .i64 0, .int .i64 0, .int .i64 0, .slice none 0 0] 59 (0, 0))) (hgr : N ≤ gr) (hsI : InsOk w2 s) (hN : w2.heap.size = N) (hb4 : Below N w2 w4) :
    St23 N g gr s (laidTo m s v 8) (laidTo m s v 8) [] [] w4 := by
  rw [← rw_laid m s v] at hbl
  refine ⟨hW, ⟨hgr, hW.eight, ⟨_, hbl, World.ownsRow_nil _ _ _ _⟩, fun k c hc => ?_, fun k hk => ?_, fun k hk => room_max (hsI.room k hk)⟩, fun b _ ⟨u, h1, h2⟩ => ?_, by have := hb4.size; omega⟩
  · have hk8 : k < 8 := by have := (List.getElem?_eq_some_iff.1 hc).1; rw [hW.eight] at this; exact this
    rw [laid_at m s v k hk8] at hc
    rw [← Option.some.inj hc]
  · have := hsI.reads k hk
    rw [hN] at this
    exact this.below hb4
  · rw [show w4.cell? ⟨gr, 24, none⟩ = some (.slice none 0 0) from cell_of_blk hbl rfl] at h1
    rw [← Option.some.inj h1] at h2
    simp [Value.ownBlock] at h2
theorem readS_ms {P : List CV} (h : Ms P) (l : Nat) (k : Int) : Ms (readS P l k).1 := by
  unfold readS
  split
  · exact h
  · rename_i c hc
    split
    · split
      · rename_i x hx
        obtain ⟨n, rfl, h1, h2⟩ := chOf_some hc
        intro d hd
        rcases List.mem_or_eq_of_mem_set hd with h3 | rfl
        · exact h d h3
        · exact h c (List.mem_of_getElem? h2)
      · exact h
    · exact h
def eqV (a b : VV) : Bool := a.kind == b.kind && (a.n == b.n && (a.s.toList == b.s.toList && ((a.label : Int) == (b.label : Int))))
set_option maxRecDepth 100000 in
theorem val_eq (a b : VV) (w : World) : (Op.equalIn 10000 61 (.agg (vvCells a)) (.agg (vvCells b))).run Try.prog w = .ok (eqV a b) w := by
  have u1 := Try.underlying3
  have u2 := Try.underlying2
  have u3 := Try.underlying9
  have u4 := Try.underlying23
  have a1 := Try.isAgg3
  have a2 := Try.isAgg2
  have a3 := Try.isAgg9
  have a4 := Try.isAgg23
  have z1 := Try.sizeOf3
  have z2 := Try.sizeOf2
  have z3 := Try.sizeOf9
  have z4 := Try.sizeOf23
  have hS : Try.prog.underlying 61 = some (.struct (Try.prog.fieldsOf 61)) := by kernel_rfl
  have hp : Try.prog.stoodInHeld 61 = false := by kernel_rfl
  unfold vvCells eqV
  rw [show (10000 : Nat) = 9999 + 1 from rfl, run_equalIn_agg w 9999 61 _ _ hS hp]
  simp only [Program.fieldsOf, Try.underlying61]
  go_simp
  by_cases h1 : a.kind = b.kind <;> by_cases h2 : a.n = b.n <;> by_cases h3 : a.s.toList = b.s.toList <;> by_cases h4 : (a.label : Int) = (b.label : Int) <;> simp only [h1, h2, h3, h4, if_true, if_false, beq_self_eq_true, beq_eq_false_iff_ne.2, Bool.true_and, Bool.false_and, ne_eq, not_false_eq_true]
theorem gen_then {K : Act → World → Prop} {Q : Exit → Act → World → Prop} {e : Exit} {a : Act} {w : World} (h : ∀ W, w = W → Exit.then K Q e a W) : Exit.then K Q e a w := h w rfl
theorem eqV_self (G : VV) : eqV G G = true := by simp [eqV]
set_option maxRecDepth 100000 in
set_option maxHeartbeats 16000000 in
theorem wacts_walk (m : Nat → Nat) (s : Nat → Sl Int) (A : Option Addr) (c : Nat) (xs : List WAct) (w : World) (hm : ∀ k, k < 8 → m k < 18446744073709551616) (hs : InsOk w s) (hr : Reads w w.heap.size A (xs.flatMap waEnc))
    (hL : ∀ x ∈ xs, x.pc < 18446744073709551616 ∧ x.v.label < 18446744073709551616) (hn : (xs.length + 1) * 40 ≤ 140737488351232) :
    Calls Try.prog 7 #[agg8 (mv m), agg8 (sv s), .slice A xs.length c] w (RetB (.bool true) w) := by
  have hfew := fun w' h => few23 s A c xs w' h (by omega)
  have hnew := wnew_walk m s
  unfold agg8 at hfew hnew ⊢
  have HF := Lib.hid hfew
  have HW := Lib.hid hnew
  clear hfew hnew
  go_enter Try.func7, Try.ntmps7
  go_wp2_with fail
  refine (awake23 _).mono ?_
  rintro e w1 ⟨rfl, hb1⟩
  have hx0 := blk_alloc (heap_new_at w (.cells #[mv m 0, mv m 1, mv m 2, mv m 3, mv m 4, mv m 5, mv m 6, mv m 7] 47) _ rfl) (.cells #[sv s 0, sv s 1, sv s 2, sv s 3, sv s 4, sv s 5, sv s 6, sv s 7] 50)
  have hx1 := heap_new_at (w.alloc (.cells #[mv m 0, mv m 1, mv m 2, mv m 3, mv m 4, mv m 5, mv m 6, mv m 7] 47)) (.cells #[sv s 0, sv s 1, sv s 2, sv s 3, sv s 4, sv s 5, sv s 6, sv s 7] 50) (w.heap.size + 1) (by simp)
  have hy0 := below_blk hb1 hx0
  have hy1 := below_blk hb1 hx1
  have hbw : Below w.heap.size w w1 := (((Below.refl _ _).alloc (Nat.le_refl _) _).alloc (by simp) _).trans (hb1.mono (by simp; omega))
  clear hb1 hx0 hx1
  go_wp2_with (refine wpList_load_row rfl 50 _ rfl (w.heap.size + 1) rfl 50 _ (0, 0) _ hy1 Try.underlying50 rfl (by rfl) ?_)
  refine (HF.out w1 ((hr.below hbw).mono hbw.size)).mono ?_
  rintro e w2 ⟨⟨b, rfl⟩, hb2⟩
  have hz0 := below_blk hb2 hy0
  have hz1 := below_blk hb2 hy1
  have hbw2 := hbw.trans (hb2.mono hbw.size)
  clear hy0 hy1 hb2 hbw
  cases b with
  | false =>
    go_wp2
    go_ret
    exact ⟨rfl, hbw2⟩
  | true =>
    have Z0 := Lib.hid hz0
    have Z1 := Lib.hid hz1
    obtain ⟨N, hN⟩ : ∃ N, w2.heap.size = N := ⟨_, rfl⟩
    have hsI := hs.below hbw2
    have hNle : w.heap.size ≤ N := by have := hbw2.size; omega
    have HBW2 := Lib.hid hbw2
    have hM := laid_ms m s
    have HS := Lib.hid hs
    have HRX := Lib.hid hr
    have HL := Lib.hid hL
    clear hz0 hz1 hbw2 hs hr hL
    go_wp2_with fail
    refine wp_region_noPanic ?_
    refine wp_region_held_drew (S := fun w' => w'.heap[w.heap.size]? = some (.cells #[mv m 0, mv m 1, mv m 2, mv m 3, mv m 4, mv m 5, mv m 6, mv m 7] 47 (0, 0)) ∧ w'.heap[w.heap.size + 1]? = some (.cells #[sv s 0, sv s 1, sv s 2, sv s 3, sv s 4, sv s 5, sv s 6, sv s 7] 50 (0, 0))) (by kernel_rfl) (⟨Z0.out, Z1.out⟩) (fun hHeld => ?_)
    refine wpAnyH_take (i := 0) (oi := _) (v := .agg #[mv m 0, mv m 1, mv m 2, mv m 3, mv m 4, mv m 5, mv m 6, mv m 7]) rfl (by kernel_rfl) (by kernel_rfl) (by kernel_rfl) (fun _ _ _ h => h) (Or.inl ⟨by rfl, fun w' hS => (by obtain ⟨s0, s1⟩ := hS; have q0 := cell_of_blk (i := 0) s0 rfl; have q1 := cell_of_blk (i := 1) s0 rfl; have q2 := cell_of_blk (i := 2) s0 rfl; have q3 := cell_of_blk (i := 3) s0 rfl; have q4 := cell_of_blk (i := 4) s0 rfl; have q5 := cell_of_blk (i := 5) s0 rfl; have q6 := cell_of_blk (i := 6) s0 rfl; have q7 := cell_of_blk (i := 7) s0 rfl; go_simp)⟩) hHeld ?_
    change wpAnyH _ _ _ _ _ _ _ (Act.put _ (some 21) _) _
    try simp only [Act.put, List.setIfInBounds_toArray, List.set_cons_zero, List.set_cons_succ]
    refine wpAnyH_take (i := 1) (oi := _) (v := .agg #[sv s 0, sv s 1, sv s 2, sv s 3, sv s 4, sv s 5, sv s 6, sv s 7]) rfl (by kernel_rfl) (by kernel_rfl) (by kernel_rfl) (fun _ _ _ h => h) (Or.inl ⟨by rfl, fun w' hS => (by obtain ⟨s0, s1⟩ := hS; have q0 := cell_of_blk (i := 0) s1 rfl; have q1 := cell_of_blk (i := 1) s1 rfl; have q2 := cell_of_blk (i := 2) s1 rfl; have q3 := cell_of_blk (i := 3) s1 rfl; have q4 := cell_of_blk (i := 4) s1 rfl; have q5 := cell_of_blk (i := 5) s1 rfl; have q6 := cell_of_blk (i := 6) s1 rfl; have q7 := cell_of_blk (i := 7) s1 rfl; go_simp)⟩) hHeld ?_
    change wpAnyH _ _ _ _ _ _ _ (Act.put _ (some 22) _) _
    try simp only [Act.put, List.setIfInBounds_toArray, List.set_cons_zero, List.set_cons_succ]
    refine wpAnyH_take (i := 3) (oi := _) (v := .agg #[mv m 0, mv m 1, mv m 2, mv m 3, mv m 4, mv m 5, mv m 6, mv m 7]) rfl (by kernel_rfl) (by kernel_rfl) (by kernel_rfl) (fun _ _ _ h => h) (Or.inl ⟨by rfl, fun w' hS => (by obtain ⟨s0, s1⟩ := hS; have q0 := cell_of_blk (i := 0) s0 rfl; have q1 := cell_of_blk (i := 1) s0 rfl; have q2 := cell_of_blk (i := 2) s0 rfl; have q3 := cell_of_blk (i := 3) s0 rfl; have q4 := cell_of_blk (i := 4) s0 rfl; have q5 := cell_of_blk (i := 5) s0 rfl; have q6 := cell_of_blk (i := 6) s0 rfl; have q7 := cell_of_blk (i := 7) s0 rfl; go_simp)⟩) hHeld ?_
    change wpAnyH _ _ _ _ _ _ _ (Act.put _ (some 24) _) _
    try simp only [Act.put, List.setIfInBounds_toArray, List.set_cons_zero, List.set_cons_succ]
    refine wpAnyH_take (i := 4) (oi := _) (v := .agg #[sv s 0, sv s 1, sv s 2, sv s 3, sv s 4, sv s 5, sv s 6, sv s 7]) rfl (by kernel_rfl) (by kernel_rfl) (by kernel_rfl) (fun _ _ _ h => h) (Or.inl ⟨by rfl, fun w' hS => (by obtain ⟨s0, s1⟩ := hS; have q0 := cell_of_blk (i := 0) s1 rfl; have q1 := cell_of_blk (i := 1) s1 rfl; have q2 := cell_of_blk (i := 2) s1 rfl; have q3 := cell_of_blk (i := 3) s1 rfl; have q4 := cell_of_blk (i := 4) s1 rfl; have q5 := cell_of_blk (i := 5) s1 rfl; have q6 := cell_of_blk (i := 6) s1 rfl; have q7 := cell_of_blk (i := 7) s1 rfl; go_simp)⟩) hHeld ?_
    change wpAnyH _ _ _ _ _ _ _ (Act.put _ (some 25) _) _
    try simp only [Act.put, List.setIfInBounds_toArray, List.set_cons_zero, List.set_cons_succ]
    refine wpAnyH_take (i := 5) (oi := _) (v := .agg #[mv m 0, mv m 1, mv m 2, mv m 3, mv m 4, mv m 5, mv m 6, mv m 7, sv s 0, sv s 1, sv s 2, sv s 3, sv s 4, sv s 5, sv s 6, sv s 7, .int .i64 0, .int .i64 0, .int .i64 0, .int .i64 0, .int .i64 0, .int .i64 0, .int .i64 0, .int .i64 0, .slice none 0 0]) rfl (by kernel_rfl) (by kernel_rfl) (by kernel_rfl) (fun _ _ _ h => h) (Or.inl ⟨by rfl, fun w' hS => (by go_simp)⟩) hHeld ?_
    change wpAnyH _ _ _ _ _ _ _ (Act.put _ (some 26) _) _
    try simp only [Act.put, List.setIfInBounds_toArray, List.set_cons_zero, List.set_cons_succ]
    refine wpAnyH_ready (rs := [2, 6]) (by kernel_rfl) (by simp) ?_
    refine AllReadyH.cons (o := _) rfl (fun K hK => ?ga) (AllReadyH.cons (o := _) rfl (fun K hK => ?gb) AllReadyH.nil)
    case' ga =>
      go_simp
      refine (HW.out _ N (by first | exact hN | exact (show (World.drew _).heap.size = N from hN)) (by first | exact hsI | exact hsI.below (Below.refl _ _).drew)).mono ?_
      rintro e w3 ⟨v, rfl, hw3, hb3⟩
      have hb3' : Below N w2 w3 := by first | exact hb3 | exact (Below.refl N w2).drew.trans hb3
      have Z30 := Lib.hid ((hb3'.block _ (by have := blk_lt Z0.out; omega)).trans Z0.out)
      have Z31 := Lib.hid ((hb3'.block _ (by have := blk_lt Z1.out; omega)).trans Z1.out)
      have HB3 := Lib.hid hb3'
      have HW3 := Lib.hid hw3
      clear hb3 hb3' hw3
      refine hK.out _ _ ⟨Z30.out, Z31.out⟩ (fun hHeld => ?_)
      clear hK K
      try simp only [Act.put, List.setIfInBounds_toArray, List.set_cons_zero, List.set_cons_succ]
      refine wpAnyH_take (i := 7) (oi := _) (v := .pointer (some ⟨N + 1 + 1, 0, none⟩)) rfl (by kernel_rfl) (by kernel_rfl) (by kernel_rfl) (fun _ _ _ h => h) (Or.inl ⟨by rfl, fun w' hS => (by go_simp)⟩) hHeld ?_
      change wpAnyH _ _ _ _ _ _ _ (Act.put _ (some 7) _) _
      try simp only [Act.put, List.setIfInBounds_toArray, List.set_cons_zero, List.set_cons_succ]
      refine wpAnyH_ready (rs := [6]) (by kernel_rfl) (by simp) ?_
      refine AllReadyH.cons (o := _) rfl (fun K hK => ?_) AllReadyH.nil
      go_simp
      refine hK.out _ _ ⟨by first | exact blk_alloc Z30.out _ | exact blk_drew (blk_alloc Z30.out _), by first | exact blk_alloc Z31.out _ | exact blk_drew (blk_alloc Z31.out _)⟩ (fun hHeld => ?_)
      clear hK K
      try simp only [Act.put, List.setIfInBounds_toArray, List.set_cons_zero, List.set_cons_succ]
      refine wpAnyH_take (i := 8) (oi := _) (v := .pointer (some ⟨w3.heap.size, 0, none⟩)) rfl (by kernel_rfl) (by kernel_rfl) (by kernel_rfl) (fun _ _ _ h => h) (Or.inl ⟨by rfl, fun w' hS => (by go_simp)⟩) hHeld ?_
      change wpAnyH _ _ _ _ _ _ _ (Act.put _ (some 8) _) _
      try simp only [Act.put, List.setIfInBounds_toArray, List.set_cons_zero, List.set_cons_succ]
      refine wpAnyH_done (by kernel_rfl) ?_ _
      refine NoPanic.normal ?_
      refine gen_then fun w4 hw4 => ?_
      have hsz3 : N ≤ w3.heap.size := by have := HB3.out.size; omega
      have hb4 : Below N w2 w4 := by rw [← hw4]; first | exact HB3.out.alloc hsz3 _ | exact (HB3.out.alloc hsz3 _).drew
      have HST0 := Lib.hid (st_start (m := m) (v := v) (by rw [← hw4]; first | exact HW3.out.below ((Below.refl _ _).alloc (Nat.le_refl _) _) | exact HW3.out.below (((Below.refl _ _).alloc (Nat.le_refl _) _).drew)) (show w4.heap[w3.heap.size]? = some (.cells #[mv m 0, mv m 1, mv m 2, mv m 3, mv m 4, mv m 5, mv m 6, mv m 7, sv s 0, sv s 1, sv s 2, sv s 3, sv s 4, sv s 5, sv s 6, sv s 7, .int .i64 0, .int .i64 0, .int .i64 0, .int .i64 0, .int .i64 0, .int .i64 0, .int .i64 0, .int .i64 0, .slice none 0 0] 59 (0, 0)) by rw [← hw4]; first | exact heap_alloc_new _ _ | exact blk_drew (heap_alloc_new _ _)) hsz3 hsI hN hb4)
      have HBW4 := Lib.hid (HBW2.out.trans (hb4.mono hNle))
      have hMv := hM v hm
      obtain ⟨gr, hgr⟩ : ∃ gr, gr = w3.heap.size := ⟨_, rfl⟩
      rw [← hgr] at HST0 ⊢
      obtain ⟨g, hg⟩ : ∃ g, g = N + 1 + 1 := ⟨_, rfl⟩
      rw [← hg] at HST0 ⊢
      clear hb4 hw4 hgr hg hsz3 Z30 Z31 HB3 HW3
    case' gb =>
      go_simp
      have hbb : Below N w2 (w2.alloc (.cells #[mv m 0, mv m 1, mv m 2, mv m 3, mv m 4, mv m 5, mv m 6, mv m 7, sv s 0, sv s 1, sv s 2, sv s 3, sv s 4, sv s 5, sv s 6, sv s 7, .int .i64 0, .int .i64 0, .int .i64 0, .int .i64 0, .int .i64 0, .int .i64 0, .int .i64 0, .int .i64 0, .slice none 0 0] 59)) := (Below.refl _ _).alloc (by omega) _
      have hrb := heap_new_at w2 (.cells #[mv m 0, mv m 1, mv m 2, mv m 3, mv m 4, mv m 5, mv m 6, mv m 7, sv s 0, sv s 1, sv s 2, sv s 3, sv s 4, sv s 5, sv s 6, sv s 7, .int .i64 0, .int .i64 0, .int .i64 0, .int .i64 0, .int .i64 0, .int .i64 0, .int .i64 0, .int .i64 0, .slice none 0 0] 59) N hN
      refine hK.out _ _ ⟨by first | exact blk_alloc Z0.out _ | exact blk_drew (blk_alloc Z0.out _), by first | exact blk_alloc Z1.out _ | exact blk_drew (blk_alloc Z1.out _)⟩ (fun hHeld => ?_)
      clear hK K
      try simp only [Act.put, List.setIfInBounds_toArray, List.set_cons_zero, List.set_cons_succ]
      refine wpAnyH_ready (rs := [2]) (by kernel_rfl) (by simp) ?_
      refine AllReadyH.cons (o := _) rfl (fun K hK => ?_) AllReadyH.nil
      go_simp
      refine (HW.out _ (N + 1) (by simp [hN]) (hsI.below (hN ▸ (by first | exact hbb | exact hbb.drew)))).mono ?_
      rintro e w3 ⟨v, rfl, hw3, hb3⟩
      have hb3' : Below (N + 1) (w2.alloc (.cells #[mv m 0, mv m 1, mv m 2, mv m 3, mv m 4, mv m 5, mv m 6, mv m 7, sv s 0, sv s 1, sv s 2, sv s 3, sv s 4, sv s 5, sv s 6, sv s 7, .int .i64 0, .int .i64 0, .int .i64 0, .int .i64 0, .int .i64 0, .int .i64 0, .int .i64 0, .int .i64 0, .slice none 0 0] 59)) w3 := by first | exact hb3 | exact (Below.refl _ _).drew.trans hb3
      have Z30 := Lib.hid ((hb3'.block _ (by have := blk_lt Z0.out; omega)).trans (blk_alloc Z0.out _))
      have Z31 := Lib.hid ((hb3'.block _ (by have := blk_lt Z1.out; omega)).trans (blk_alloc Z1.out _))
      have HB3 := Lib.hid (hbb.trans (hb3'.mono (Nat.le_succ N)))
      have HW3 := Lib.hid (WorldIn.lower hw3 (Nat.le_succ N))
      have HR3 := Lib.hid ((hb3'.block N (Nat.lt_succ_self N)).trans hrb)
      clear hb3 hb3' hw3 hbb hrb
      refine hK.out _ _ ⟨Z30.out, Z31.out⟩ (fun hHeld => ?_)
      clear hK K
      try simp only [Act.put, List.setIfInBounds_toArray, List.set_cons_zero, List.set_cons_succ]
      refine wpAnyH_take (i := 7) (oi := _) (v := .pointer (some ⟨N + 1 + 1 + 1, 0, none⟩)) rfl (by kernel_rfl) (by kernel_rfl) (by kernel_rfl) (fun _ _ _ h => h) (Or.inl ⟨by rfl, fun w' hS => (by go_simp)⟩) hHeld ?_
      change wpAnyH _ _ _ _ _ _ _ (Act.put _ (some 7) _) _
      try simp only [Act.put, List.setIfInBounds_toArray, List.set_cons_zero, List.set_cons_succ]
      refine wpAnyH_take (i := 8) (oi := _) (v := .pointer (some ⟨N, 0, none⟩)) rfl (by kernel_rfl) (by kernel_rfl) (by kernel_rfl) (fun _ _ _ h => h) (Or.inl ⟨by rfl, fun w' hS => (by go_simp)⟩) hHeld ?_
      change wpAnyH _ _ _ _ _ _ _ (Act.put _ (some 8) _) _
      try simp only [Act.put, List.setIfInBounds_toArray, List.set_cons_zero, List.set_cons_succ]
      refine wpAnyH_done (by kernel_rfl) ?_ _
      refine NoPanic.normal ?_
      refine gen_then fun w4 hw4 => ?_
      have hb4 : Below N w2 w4 := by rw [← hw4]; first | exact HB3.out | exact HB3.out.drew
      have HST0 := Lib.hid (st_start (m := m) (v := v) (by rw [← hw4]; first | exact HW3.out | exact HW3.out.drew) (show w4.heap[N]? = some (.cells #[mv m 0, mv m 1, mv m 2, mv m 3, mv m 4, mv m 5, mv m 6, mv m 7, sv s 0, sv s 1, sv s 2, sv s 3, sv s 4, sv s 5, sv s 6, sv s 7, .int .i64 0, .int .i64 0, .int .i64 0, .int .i64 0, .int .i64 0, .int .i64 0, .int .i64 0, .int .i64 0, .slice none 0 0] 59 (0, 0)) by rw [← hw4]; first | exact HR3.out | exact blk_drew HR3.out) (Nat.le_refl N) hsI hN hb4)
      have HBW4 := Lib.hid (HBW2.out.trans (hb4.mono hNle))
      have hMv := hM v hm
      obtain ⟨g, hg⟩ : ∃ g, g = N + 1 + 1 + 1 := ⟨_, rfl⟩
      rw [← hg] at HST0 ⊢
      obtain ⟨gr, hgr⟩ : ∃ gr, gr = N := ⟨_, rfl⟩
      rw [← hgr]
      have HST0 : Hid (St23 N g gr s (laidTo m s v 8) (laidTo m s v 8) [] [] w4) := by rw [hgr]; exact HST0
      clear hb4 hw4 hg hgr Z30 Z31 HB3 HW3 HR3
    all_goals
      go_wp2_with fail
      go_loopw [32] (fun i wr => ∃ (k : Nat) (P : List CV) (ev : List Ev), k ≤ xs.length ∧ i = .int .i64 k ∧ Hid (St23 N g gr s P P ev ev wr) ∧ Hid (Ms P) ∧ ev.length ≤ k ∧ Hid (Below w.heap.size w wr)) (fun i _ => xs.length - (intOf i).toNat)
      case atStart => exact ⟨0, _, [], by omega, rfl, HST0, Lib.hid hMv, by simp, HBW4⟩
      case round =>
        obtain ⟨k, P, ev, hk, rfl, HSr, HMs, hev, HBr⟩ := hrel
        by_cases hlt : k < xs.length
        · obtain ⟨x, hx⟩ : ∃ x, xs[k]? = some x := ⟨_, List.getElem?_eq_getElem hlt⟩
          obtain ⟨hxpc, hxlb⟩ := HL.out x (List.mem_of_getElem? hx)
          obtain ⟨ad, rfl, hadb, hcell⟩ := (HRX.out.below HBr.out).at (flatMap_ne (K := 7) (fun a => rfl) (by omega) hx)
          have hc0 := elem_zero (K := 7) (fun a => rfl) hcell hx (by omega) (v := .int .i64 x.act) rfl
          have hc1 := elem_at (K := 7) (fun a => rfl) hcell hx 1 (by omega) (by omega) (v := .int .u64 (x.pc : Int)) rfl
          have hc2 := elem_at (K := 7) (fun a => rfl) hcell hx 2 (by omega) (by omega) (v := .int .i64 x.k) rfl
          have hc3 := elem_at (K := 7) (fun a => rfl) hcell hx 3 (by omega) (by omega) (v := .int .i64 x.v.kind) rfl
          have hc4 := elem_at (K := 7) (fun a => rfl) hcell hx 4 (by omega) (by omega) (v := .int .i64 x.v.n) rfl
          have hc5 := elem_at (K := 7) (fun a => rfl) hcell hx 5 (by omega) (by omega) (v := .string x.v.s) rfl
          have hc6 := elem_at (K := 7) (fun a => rfl) hcell hx 6 (by omega) (by omega) (v := .int .u64 (x.v.label : Int)) rfl
          have hk' : (k : Int) < (xs.length : Int) := by omega
          have hk0 : (0 : Int) ≤ k := by omega
          have hbr := HBr.out.size
          have hll : (ad.add (k * 7)).block < wr.heap.size := by rw [block_add']; omega
          have HSt := Lib.hid (HSr.out.below ((Below.refl wr.heap.size wr).alloc (Nat.le_refl _) (.cells #[.int .i64 x.act, .int .u64 (x.pc : Int), .int .i64 x.k, .int .i64 x.v.kind, .int .i64 x.v.n, .string x.v.s, .int .u64 (x.v.label : Int)] 63)))
          have BX := Lib.hid (heap_alloc_new wr (.cells #[.int .i64 x.act, .int .u64 (x.pc : Int), .int .i64 x.k, .int .i64 x.v.kind, .int .i64 x.v.n, .string x.v.s, .int .u64 (x.v.label : Int)] 63))
          have hNr := HSr.out.n
          have HBA := Lib.hid (HBr.out.alloc hbr (.cells #[.int .i64 x.act, .int .u64 (x.pc : Int), .int .i64 x.k, .int .i64 x.v.kind, .int .i64 x.v.n, .string x.v.s, .int .u64 (x.v.label : Int)] 63))
          clear hx hcell
          by_cases ha : x.act = 0
          · have ha1 : (x.act == 0) = true := by simpa using ha
            have hrd := fun W (h : St23 N g gr s P P ev ev W) => (wread_fr x.pc x.k W h.W HMs.out hxpc h.n).mono (R' := fun e w' => e = .returned (.tuple #[.agg (vvCells (readS P x.pc x.k).2.1), .int .i64 (readS P x.pc x.k).2.2]) ∧ St23 N g gr s (readS P x.pc x.k).1 P ev ev w' ∧ Keep N [93] W w') fun e w' ⟨h1, h2, h3, h4⟩ => ⟨h1, h.readW h2 h3 h4, h3⟩
            have hrd2 := fun W (h : St23 N g gr s (readS P x.pc x.k).1 P ev ev W) => (rread_fr x.pc x.k W h.R HMs.out hxpc h.n).mono (R' := fun e w' => e = .returned (.tuple #[.agg (vvCells (readS P x.pc x.k).2.1), .int .i64 (readS P x.pc x.k).2.2]) ∧ St23 N g gr s (readS P x.pc x.k).1 (readS P x.pc x.k).1 ev ev w' ∧ Keep N [59] W w') fun e w' ⟨h1, h2, h3, h4⟩ => ⟨h1, h.readR h2 h3 h4, h3⟩
            have HM2 := Lib.hid (readS_ms HMs.out x.pc x.k)
            generalize readS P x.pc x.k = D at hrd hrd2 HM2
            obtain ⟨P2, vR, nR⟩ := D
            try dsimp only at hrd hrd2 HM2
            have heq := fun W => val_eq vR vR W
            rw [eqV_self] at heq
            unfold vvCells at hrd hrd2 heq
            have HRd := Lib.hid hrd
            have HRd2 := Lib.hid hrd2
            clear hrd hrd2 ha
            go_wp2_with fail
            refine (HRd.out _ HSt.out).mono ?_
            rintro e w5 ⟨rfl, hst5, hk5⟩
            have hst5b := hst5.below ((Below.refl _ _).alloc (Nat.le_refl _) (.cells #[.int .i64 vR.kind, .int .i64 vR.n, .string vR.s, .int .u64 (vR.label : Int)] 61))
            have HS5 := Lib.hid hst5b
            have BX5 := Lib.hid (hk5.blk BX.out (by decide))
            have HB5 := Lib.hid (HBA.out.trans ((hk5.below HSt.out.n).mono (Nat.le_trans hNle (Nat.le_refl _))))
            have VX5 := Lib.hid (heap_alloc_new w5 (.cells #[.int .i64 vR.kind, .int .i64 vR.n, .string vR.s, .int .u64 (vR.label : Int)] 61))
            have y1 := cell_of_blk (i := 1) BX5.out rfl
            have y2 := cell_of_blk (i := 2) BX5.out rfl
            have l5 := blk_lt BX5.out
            clear hst5 hk5 hst5b hc0 hc1 hc2 hc3 hc4 hc5 hc6
            go_wp2_with fail
            refine (HRd2.out _ HS5.out).mono ?_
            rintro e w6 ⟨rfl, hst6, hk6⟩
            have VX6 := Lib.hid (hk6.blk VX5.out (by decide))
            have HB6 := Lib.hid ((HB5.out.alloc HB5.out.size (.cells #[.int .i64 vR.kind, .int .i64 vR.n, .string vR.s, .int .u64 (vR.label : Int)] 61)).trans ((hk6.below HS5.out.n).mono (Nat.le_trans hNle (Nat.le_refl _))))
            have HS6 := Lib.hid hst6
            have z0 := cell_of_blk (i := 0) VX6.out rfl
            have z1 := cell_of_blk (i := 1) VX6.out rfl
            have z2 := cell_of_blk (i := 2) VX6.out rfl
            have z3 := cell_of_blk (i := 3) VX6.out rfl
            have l6 := blk_lt VX6.out
            have HS7 := Lib.hid (hst6.below ((Below.refl _ _).alloc (Nat.le_refl _) (.cells #[.int .i64 vR.kind, .int .i64 vR.n, .string vR.s, .int .u64 (vR.label : Int)] 61)))
            have HB7 := Lib.hid (HB6.out.alloc HB6.out.size (.cells #[.int .i64 vR.kind, .int .i64 vR.n, .string vR.s, .int .u64 (vR.label : Int)] 61))
            clear hst6 hk6 y1 y2 l5
            go_wp2_with fail
            go_roundw
            case rel => exact ⟨k + 1, P2, ev, by omega, by go_num, HS7, HM2, by omega, HB7⟩
            case measure => simp [intOf]; omega
          · have ha1 : (x.act == 0) = false := by simpa using ha
            have hwr := fun W (h : St23 N g gr s P P ev ev W) => (wwrite_fr x.pc x.k x.v W h.W HMs.out hxpc hxlb h.n (by omega)).mono (R' := fun e w' => e = .returned (.int .i64 (writeS P ev x.pc x.k x.v).2) ∧ St23 N g gr s P P (writeS P ev x.pc x.k x.v).1 ev w' ∧ Keep N wTypes W w') fun e w' ⟨h1, h2, h3, h4⟩ => ⟨h1, h.writeW h2 h3 h4, h3⟩
            have hwr2 := fun W (h : St23 N g gr s P P (writeS P ev x.pc x.k x.v).1 ev W) => (rwrite_fr x.pc x.k x.v W h.R HMs.out hxpc hxlb h.n (by omega)).mono (R' := fun e w' => e = .returned (.int .i64 (writeS P ev x.pc x.k x.v).2) ∧ St23 N g gr s P P (writeS P ev x.pc x.k x.v).1 (writeS P ev x.pc x.k x.v).1 w' ∧ Keep N rwTypes W w') fun e w' ⟨h1, h2, h3, h4⟩ => ⟨h1, h.writeR h2 h3 h4, h3⟩
            have hwl : (writeS P ev x.pc x.k x.v).1.length ≤ ev.length + 1 := by
              unfold writeS
              split
              · simp
              · split <;> simp
            generalize writeS P ev x.pc x.k x.v = D at hwr hwr2 hwl
            obtain ⟨ev2, nW⟩ := D
            try dsimp only at hwr hwr2 hwl
            unfold vvCells at hwr hwr2
            have HWr := Lib.hid hwr
            have HWr2 := Lib.hid hwr2
            clear hwr hwr2 ha
            go_wp2_with fail
            refine wp_region_noPanic ?_
            refine wp_region_held_drew (S := fun w' => w'.heap[wr.heap.size]? = some (.cells #[.int .i64 x.act, .int .u64 (x.pc : Int), .int .i64 x.k, .int .i64 x.v.kind, .int .i64 x.v.n, .string x.v.s, .int .u64 (x.v.label : Int)] 63 (0, 0))) (by kernel_rfl) (BX.out) (fun hHeld => ?_)
            refine wpAnyH_take (i := 0) (oi := _) (v := .pointer (some ⟨g, 0, none⟩)) rfl (by kernel_rfl) (by kernel_rfl) (by kernel_rfl) (fun _ _ _ h => h) (Or.inl ⟨by rfl, fun w' hS => (by go_simp)⟩) hHeld ?_
            change wpAnyH _ _ _ _ _ _ _ (Act.put _ (some 65) _) _
            try simp only [Act.put, List.setIfInBounds_toArray, List.set_cons_zero, List.set_cons_succ]
            refine wpAnyH_take (i := 1) (oi := _) (v := .pointer (some ⟨wr.heap.size, 1, none⟩)) rfl (by kernel_rfl) (by kernel_rfl) (by kernel_rfl) (fun _ _ _ h => h) (Or.inl ⟨by rfl, fun w' hS => (by go_simp)⟩) hHeld ?_
            change wpAnyH _ _ _ _ _ _ _ (Act.put _ (some 66) _) _
            try simp only [Act.put, List.setIfInBounds_toArray, List.set_cons_zero, List.set_cons_succ]
            refine wpAnyH_take (i := 2) (oi := _) (v := .int .u64 (x.pc : Int)) rfl (by kernel_rfl) (by kernel_rfl) (by kernel_rfl) (fun _ _ _ h => h) (Or.inl ⟨by rfl, fun w' hS => (by have q1 := cell_of_blk (i := 1) hS rfl; go_simp)⟩) hHeld ?_
            change wpAnyH _ _ _ _ _ _ _ (Act.put _ (some 67) _) _
            try simp only [Act.put, List.setIfInBounds_toArray, List.set_cons_zero, List.set_cons_succ]
            refine wpAnyH_take (i := 3) (oi := _) (v := .pointer (some ⟨wr.heap.size, 2, none⟩)) rfl (by kernel_rfl) (by kernel_rfl) (by kernel_rfl) (fun _ _ _ h => h) (Or.inl ⟨by rfl, fun w' hS => (by go_simp)⟩) hHeld ?_
            change wpAnyH _ _ _ _ _ _ _ (Act.put _ (some 68) _) _
            try simp only [Act.put, List.setIfInBounds_toArray, List.set_cons_zero, List.set_cons_succ]
            refine wpAnyH_take (i := 4) (oi := _) (v := .int .i64 x.k) rfl (by kernel_rfl) (by kernel_rfl) (by kernel_rfl) (fun _ _ _ h => h) (Or.inl ⟨by rfl, fun w' hS => (by have q2 := cell_of_blk (i := 2) hS rfl; go_simp)⟩) hHeld ?_
            change wpAnyH _ _ _ _ _ _ _ (Act.put _ (some 69) _) _
            try simp only [Act.put, List.setIfInBounds_toArray, List.set_cons_zero, List.set_cons_succ]
            refine wpAnyH_take (i := 5) (oi := _) (v := .pointer (some ⟨wr.heap.size, 3, none⟩)) rfl (by kernel_rfl) (by kernel_rfl) (by kernel_rfl) (fun _ _ _ h => h) (Or.inl ⟨by rfl, fun w' hS => (by go_simp)⟩) hHeld ?_
            change wpAnyH _ _ _ _ _ _ _ (Act.put _ (some 70) _) _
            try simp only [Act.put, List.setIfInBounds_toArray, List.set_cons_zero, List.set_cons_succ]
            refine wpAnyH_take (i := 6) (oi := _) (v := .agg #[.int .i64 x.v.kind, .int .i64 x.v.n, .string x.v.s, .int .u64 (x.v.label : Int)]) rfl (by kernel_rfl) (by kernel_rfl) (by kernel_rfl) (fun _ _ _ h => h) (Or.inl ⟨by rfl, fun w' hS => (by have q3 := cell_of_blk (i := 3) hS rfl; have q4 := cell_of_blk (i := 4) hS rfl; have q5 := cell_of_blk (i := 5) hS rfl; have q6 := cell_of_blk (i := 6) hS rfl; go_simp)⟩) hHeld ?_
            change wpAnyH _ _ _ _ _ _ _ (Act.put _ (some 71) _) _
            try simp only [Act.put, List.setIfInBounds_toArray, List.set_cons_zero, List.set_cons_succ]
            refine wpAnyH_take (i := 8) (oi := _) (v := .pointer (some ⟨gr, 0, none⟩)) rfl (by kernel_rfl) (by kernel_rfl) (by kernel_rfl) (fun _ _ _ h => h) (Or.inl ⟨by rfl, fun w' hS => (by go_simp)⟩) hHeld ?_
            change wpAnyH _ _ _ _ _ _ _ (Act.put _ (some 73) _) _
            try simp only [Act.put, List.setIfInBounds_toArray, List.set_cons_zero, List.set_cons_succ]
            refine wpAnyH_take (i := 9) (oi := _) (v := .pointer (some ⟨wr.heap.size, 1, none⟩)) rfl (by kernel_rfl) (by kernel_rfl) (by kernel_rfl) (fun _ _ _ h => h) (Or.inl ⟨by rfl, fun w' hS => (by go_simp)⟩) hHeld ?_
            change wpAnyH _ _ _ _ _ _ _ (Act.put _ (some 74) _) _
            try simp only [Act.put, List.setIfInBounds_toArray, List.set_cons_zero, List.set_cons_succ]
            refine wpAnyH_take (i := 10) (oi := _) (v := .int .u64 (x.pc : Int)) rfl (by kernel_rfl) (by kernel_rfl) (by kernel_rfl) (fun _ _ _ h => h) (Or.inl ⟨by rfl, fun w' hS => (by have q1 := cell_of_blk (i := 1) hS rfl; go_simp)⟩) hHeld ?_
            change wpAnyH _ _ _ _ _ _ _ (Act.put _ (some 75) _) _
            try simp only [Act.put, List.setIfInBounds_toArray, List.set_cons_zero, List.set_cons_succ]
            refine wpAnyH_take (i := 11) (oi := _) (v := .pointer (some ⟨wr.heap.size, 2, none⟩)) rfl (by kernel_rfl) (by kernel_rfl) (by kernel_rfl) (fun _ _ _ h => h) (Or.inl ⟨by rfl, fun w' hS => (by go_simp)⟩) hHeld ?_
            change wpAnyH _ _ _ _ _ _ _ (Act.put _ (some 76) _) _
            try simp only [Act.put, List.setIfInBounds_toArray, List.set_cons_zero, List.set_cons_succ]
            refine wpAnyH_take (i := 12) (oi := _) (v := .int .i64 x.k) rfl (by kernel_rfl) (by kernel_rfl) (by kernel_rfl) (fun _ _ _ h => h) (Or.inl ⟨by rfl, fun w' hS => (by have q2 := cell_of_blk (i := 2) hS rfl; go_simp)⟩) hHeld ?_
            change wpAnyH _ _ _ _ _ _ _ (Act.put _ (some 77) _) _
            try simp only [Act.put, List.setIfInBounds_toArray, List.set_cons_zero, List.set_cons_succ]
            refine wpAnyH_take (i := 13) (oi := _) (v := .pointer (some ⟨wr.heap.size, 3, none⟩)) rfl (by kernel_rfl) (by kernel_rfl) (by kernel_rfl) (fun _ _ _ h => h) (Or.inl ⟨by rfl, fun w' hS => (by go_simp)⟩) hHeld ?_
            change wpAnyH _ _ _ _ _ _ _ (Act.put _ (some 78) _) _
            try simp only [Act.put, List.setIfInBounds_toArray, List.set_cons_zero, List.set_cons_succ]
            refine wpAnyH_take (i := 14) (oi := _) (v := .agg #[.int .i64 x.v.kind, .int .i64 x.v.n, .string x.v.s, .int .u64 (x.v.label : Int)]) rfl (by kernel_rfl) (by kernel_rfl) (by kernel_rfl) (fun _ _ _ h => h) (Or.inl ⟨by rfl, fun w' hS => (by have q3 := cell_of_blk (i := 3) hS rfl; have q4 := cell_of_blk (i := 4) hS rfl; have q5 := cell_of_blk (i := 5) hS rfl; have q6 := cell_of_blk (i := 6) hS rfl; go_simp)⟩) hHeld ?_
            change wpAnyH _ _ _ _ _ _ _ (Act.put _ (some 79) _) _
            try simp only [Act.put, List.setIfInBounds_toArray, List.set_cons_zero, List.set_cons_succ]
            refine wpAnyH_ready (rs := [7]) (by kernel_rfl) (by simp) ?_
            refine AllReadyH.cons (o := _) rfl (fun K hK => ?_) AllReadyH.nil
            go_simp
            refine (HWr.out _ (by first | exact HSt.out | exact HSt.out.below (Below.refl _ _).drew)).mono ?_
            rintro e w5 ⟨rfl, hst5, hk5⟩
            refine hK.out _ _ (hk5.blk BX.out (by decide)) (fun hHeld => ?_)
            clear hK K
            try simp only [Act.put, List.setIfInBounds_toArray, List.set_cons_zero, List.set_cons_succ]
            refine wpAnyH_ready (rs := [15]) (by kernel_rfl) (by simp) ?_
            refine AllReadyH.cons (o := _) rfl (fun K hK => ?_) AllReadyH.nil
            go_simp
            refine (HWr2.out _ (by first | exact hst5 | exact hst5.below (Below.refl _ _).drew)).mono ?_
            rintro e w6 ⟨rfl, hst6, hk6⟩
            have HB6 := Lib.hid (show Below N (wr.alloc (.cells #[.int .i64 x.act, .int .u64 (x.pc : Int), .int .i64 x.k, .int .i64 x.v.kind, .int .i64 x.v.n, .string x.v.s, .int .u64 (x.v.label : Int)] 63)) w6 from (show Below N (wr.alloc (.cells #[.int .i64 x.act, .int .u64 (x.pc : Int), .int .i64 x.k, .int .i64 x.v.kind, .int .i64 x.v.n, .string x.v.s, .int .u64 (x.v.label : Int)] 63)) w5 from by first | exact hk5.below HSt.out.n | exact (Below.refl _ _).drew.trans (hk5.below HSt.out.n)).trans (by first | exact hk6.below hst5.n | exact (Below.refl _ _).drew.trans (hk6.below hst5.n)))
            refine hK.out _ _ (hk6.blk (hk5.blk BX.out (by decide)) (by decide)) (fun hHeld => ?_)
            clear hK K
            try simp only [Act.put, List.setIfInBounds_toArray, List.set_cons_zero, List.set_cons_succ]
            refine wpAnyH_take (i := 16) (oi := _) (v := .bool false) rfl (by kernel_rfl) (by kernel_rfl) (by kernel_rfl) (fun _ _ _ h => h) (Or.inl ⟨by rfl, fun w' hS => (by go_simp)⟩) hHeld ?_
            change wpAnyH _ _ _ _ _ _ _ (Act.put _ (some 81) _) _
            try simp only [Act.put, List.setIfInBounds_toArray, List.set_cons_zero, List.set_cons_succ]
            refine wpAnyH_done (by kernel_rfl) ?_ _
            refine NoPanic.normal ?_
            refine gen_then fun w7 hw7 => ?_
            have HS7 := Lib.hid (show St23 N g gr s P P ev2 ev2 w7 by rw [← hw7]; first | exact hst6 | exact hst6.below (Below.refl _ _).drew)
            have HB7 := Lib.hid (show Below w.heap.size w w7 by rw [← hw7]; first | exact HBA.out.trans (HB6.out.mono hNle) | exact (HBA.out.trans (HB6.out.mono hNle)).drew)
            clear hw7 hst6 hk6 hk5 hst5
            go_wp2_with fail
            go_roundw
            case rel => exact ⟨k + 1, P, ev2, by omega, by go_num, HS7, HMs, by omega, HB7⟩
            case measure => simp [intOf]; omega
        · obtain rfl : k = xs.length := by omega
          have hnev : ev.length ≤ 9223372036854775807 := by omega
          have HEv := Lib.hid (fun W (h : Below wr.heap.size wr W) => wevents_any W (HSr.out.W.below h) (by omega))
          have hpl := fun W (h : Below wr.heap.size wr W) => wplaces_any W (HSr.out.W.below h)
          unfold agg8 at hpl
          have HPl := Lib.hid hpl
          obtain ⟨vE, hE1, hE2⟩ := HSr.out.R.own
          obtain ⟨AE, cE, rfl, hrE, _, _, _⟩ := own_reads hE2
          have HRE := Lib.hid hrE
          have RB := Lib.hid hE1
          have heq : ∀ w, (Op.equalIn 10000 56 (.agg #[iv (rdAt P) 0, iv (rdAt P) 1, iv (rdAt P) 2, iv (rdAt P) 3, iv (rdAt P) 4, iv (rdAt P) 5, iv (rdAt P) 6, iv (rdAt P) 7]) (.agg #[iv (rdAt P) 0, iv (rdAt P) 1, iv (rdAt P) 2, iv (rdAt P) 3, iv (rdAt P) 4, iv (rdAt P) 5, iv (rdAt P) 6, iv (rdAt P) 7])).run Try.prog w = .ok true w := fun w => (places_eq (rdAt P) (rdAt P) w).trans (by simp)
          have lr := blk_lt hE1
          clear hpl hE1 hE2 hrE
          go_wp2_with fail
          refine wp_region_noPanic ?_
          refine wp_region_held_drew (S := fun w' => w'.heap[gr]? = some (.cells (rwCells (chAt P) s (.slice AE ev.length cE)) 59 (0, 0))) (by kernel_rfl) (RB.out) (fun hHeld => ?_)
          refine wpAnyH_take (i := 0) (oi := _) (v := .pointer (some ⟨g, 0, none⟩)) rfl (by kernel_rfl) (by kernel_rfl) (by kernel_rfl) (fun _ _ _ h => h) (Or.inl ⟨by rfl, fun w' hS => (by go_simp)⟩) hHeld ?_
          change wpAnyH _ _ _ _ _ _ _ (Act.put _ (some 83) _) _
          try simp only [Act.put, List.setIfInBounds_toArray, List.set_cons_zero, List.set_cons_succ]
          refine wpAnyH_take (i := 2) (oi := _) (v := .pointer (some ⟨gr, 0, none⟩)) rfl (by kernel_rfl) (by kernel_rfl) (by kernel_rfl) (fun _ _ _ h => h) (Or.inl ⟨by rfl, fun w' hS => (by go_simp)⟩) hHeld ?_
          change wpAnyH _ _ _ _ _ _ _ (Act.put _ (some 85) _) _
          try simp only [Act.put, List.setIfInBounds_toArray, List.set_cons_zero, List.set_cons_succ]
          refine wpAnyH_take (i := 3) (oi := _) (v := .pointer (some ⟨gr, 0, none⟩)) rfl (by kernel_rfl) (by kernel_rfl) (by kernel_rfl) (fun _ _ _ h => h) (Or.inl ⟨by rfl, fun w' hS => (by go_simp)⟩) hHeld ?_
          change wpAnyH _ _ _ _ _ _ _ (Act.put _ (some 86) _) _
          try simp only [Act.put, List.setIfInBounds_toArray, List.set_cons_zero, List.set_cons_succ]
          refine wpAnyH_take (i := 4) (oi := _) (v := .pointer (some ⟨gr, 24, none⟩)) rfl (by kernel_rfl) (by kernel_rfl) (by kernel_rfl) (fun _ _ _ h => h) (Or.inl ⟨by rfl, fun w' hS => (by go_simp)⟩) hHeld ?_
          change wpAnyH _ _ _ _ _ _ _ (Act.put _ (some 87) _) _
          try simp only [Act.put, List.setIfInBounds_toArray, List.set_cons_zero, List.set_cons_succ]
          refine wpAnyH_take (i := 5) (oi := _) (v := .slice AE ev.length cE) rfl (by kernel_rfl) (by kernel_rfl) (by kernel_rfl) (fun _ _ _ h => h) (Or.inl ⟨by rfl, fun w' hS => (by have q : w'.cell? ⟨gr, 24, none⟩ = some (.slice AE ev.length cE) := cell_of_blk hS rfl; go_simp)⟩) hHeld ?_
          change wpAnyH _ _ _ _ _ _ _ (Act.put _ (some 88) _) _
          try simp only [Act.put, List.setIfInBounds_toArray, List.set_cons_zero, List.set_cons_succ]
          refine wpAnyH_ready (rs := [1]) (by kernel_rfl) (by simp) ?_
          refine AllReadyH.cons (o := _) rfl (fun K hK => ?_) AllReadyH.nil
          go_simp
          refine (HEv.out _ (by first | exact Below.refl _ _ | exact (Below.refl _ _).drew)).mono ?_
          rintro e w5 ⟨v5, rfl, ho5, hb5⟩
          obtain ⟨A5, c5, rfl, hr5, _, _, _⟩ := own_reads ho5
          have HB5 := Lib.hid (show Below wr.heap.size wr w5 from by first | exact hb5 | exact (Below.refl _ _).drew.trans hb5)
          have HR5 := Lib.hid hr5
          clear hb5 ho5 hr5
          refine hK.out _ _ (below_blk HB5.out RB.out) (fun hHeld => ?_)
          clear hK K
          try simp only [Act.put, List.setIfInBounds_toArray, List.set_cons_zero, List.set_cons_succ]
          refine wpAnyH_ready (rs := [6]) (by kernel_rfl) (by simp) ?_
          refine AllReadyH.cons (o := _) rfl (fun K hK => ?_) AllReadyH.nil
          go_simp
          refine (same23_any ev A5 AE c5 cE _ (by exact HR5.out) (by exact (HRE.out.below HB5.out).mono HB5.out.size) hnev).mono ?_
          rintro e w6 ⟨rfl, n6, rfl⟩
          refine hK.out _ _ (by exact below_blk HB5.out RB.out) (fun hHeld => ?_)
          clear hK K
          try simp only [Act.put, List.setIfInBounds_toArray, List.set_cons_zero, List.set_cons_succ]
          refine wpAnyH_take (i := 7) (oi := _) (v := .bool true) rfl (by kernel_rfl) (by kernel_rfl) (by kernel_rfl) (fun _ _ _ h => h) (Or.inl ⟨by rfl, fun w' hS => (by go_simp)⟩) hHeld ?_
          change wpAnyH _ _ _ _ _ _ _ (Act.put _ (some 90) _) _
          try simp only [Act.put, List.setIfInBounds_toArray, List.set_cons_zero, List.set_cons_succ]
          refine wpAnyH_take (i := 8) (oi := _) (v := .pointer (some ⟨g, 0, none⟩)) rfl (by kernel_rfl) (by kernel_rfl) (by kernel_rfl) (fun _ _ _ h => h) (Or.inl ⟨by rfl, fun w' hS => (by go_simp)⟩) hHeld ?_
          change wpAnyH _ _ _ _ _ _ _ (Act.put _ (some 91) _) _
          try simp only [Act.put, List.setIfInBounds_toArray, List.set_cons_zero, List.set_cons_succ]
          refine wpAnyH_take (i := 10) (oi := _) (v := .pointer (some ⟨gr, 0, none⟩)) rfl (by kernel_rfl) (by kernel_rfl) (by kernel_rfl) (fun _ _ _ h => h) (Or.inl ⟨by rfl, fun w' hS => (by go_simp)⟩) hHeld ?_
          change wpAnyH _ _ _ _ _ _ _ (Act.put _ (some 93) _) _
          try simp only [Act.put, List.setIfInBounds_toArray, List.set_cons_zero, List.set_cons_succ]
          refine wpAnyH_take (i := 11) (oi := _) (v := .pointer (some ⟨gr, 0, none⟩)) rfl (by kernel_rfl) (by kernel_rfl) (by kernel_rfl) (fun _ _ _ h => h) (Or.inl ⟨by rfl, fun w' hS => (by go_simp)⟩) hHeld ?_
          change wpAnyH _ _ _ _ _ _ _ (Act.put _ (some 94) _) _
          try simp only [Act.put, List.setIfInBounds_toArray, List.set_cons_zero, List.set_cons_succ]
          refine wpAnyH_take (i := 12) (oi := _) (v := .pointer (some ⟨gr, 16, none⟩)) rfl (by kernel_rfl) (by kernel_rfl) (by kernel_rfl) (fun _ _ _ h => h) (Or.inl ⟨by rfl, fun w' hS => (by go_simp)⟩) hHeld ?_
          change wpAnyH _ _ _ _ _ _ _ (Act.put _ (some 95) _) _
          try simp only [Act.put, List.setIfInBounds_toArray, List.set_cons_zero, List.set_cons_succ]
          refine wpAnyH_take (i := 13) (oi := _) (v := .agg #[iv (rdAt P) 0, iv (rdAt P) 1, iv (rdAt P) 2, iv (rdAt P) 3, iv (rdAt P) 4, iv (rdAt P) 5, iv (rdAt P) 6, iv (rdAt P) 7]) rfl (by kernel_rfl) (by kernel_rfl) (by kernel_rfl) (fun _ _ _ h => h) (Or.inl ⟨by rfl, fun w' hS => (by have q0 : w'.cell? ⟨gr, 16, none⟩ = some (iv (rdAt P) 0) := cell_of_blk hS rfl; have q1 : w'.cell? ⟨gr, 17, none⟩ = some (iv (rdAt P) 1) := cell_of_blk hS rfl; have q2 : w'.cell? ⟨gr, 18, none⟩ = some (iv (rdAt P) 2) := cell_of_blk hS rfl; have q3 : w'.cell? ⟨gr, 19, none⟩ = some (iv (rdAt P) 3) := cell_of_blk hS rfl; have q4 : w'.cell? ⟨gr, 20, none⟩ = some (iv (rdAt P) 4) := cell_of_blk hS rfl; have q5 : w'.cell? ⟨gr, 21, none⟩ = some (iv (rdAt P) 5) := cell_of_blk hS rfl; have q6 : w'.cell? ⟨gr, 22, none⟩ = some (iv (rdAt P) 6) := cell_of_blk hS rfl; have q7 : w'.cell? ⟨gr, 23, none⟩ = some (iv (rdAt P) 7) := cell_of_blk hS rfl; go_simp)⟩) hHeld ?_
          change wpAnyH _ _ _ _ _ _ _ (Act.put _ (some 96) _) _
          try simp only [Act.put, List.setIfInBounds_toArray, List.set_cons_zero, List.set_cons_succ]
          refine wpAnyH_ready (rs := [9]) (by kernel_rfl) (by simp) ?_
          refine AllReadyH.cons (o := _) rfl (fun K hK => ?_) AllReadyH.nil
          go_simp
          refine (HPl.out _ (by first | exact below_drewN HB5.out _ | exact (below_drewN HB5.out _).drew)).mono ?_
          rintro e w7 ⟨rfl, hb7⟩
          have HB7 := Lib.hid (show Below wr.heap.size wr w7 from by first | exact (below_drewN HB5.out n6).trans (hb7.mono HB5.out.size) | exact (below_drewN HB5.out n6).drew.trans (hb7.mono HB5.out.size))
          clear hb7
          refine hK.out _ _ (below_blk HB7.out RB.out) (fun hHeld => ?_)
          clear hK K
          try simp only [Act.put, List.setIfInBounds_toArray, List.set_cons_zero, List.set_cons_succ]
          refine wpAnyH_take (i := 14) (oi := _) (v := .bool true) rfl (by kernel_rfl) (by kernel_rfl) (by kernel_rfl) (fun _ _ _ h => h) (Or.inl ⟨by rfl, fun w' hS => (by go_simp)⟩) hHeld ?_
          change wpAnyH _ _ _ _ _ _ _ (Act.put _ (some 97) _) _
          try simp only [Act.put, List.setIfInBounds_toArray, List.set_cons_zero, List.set_cons_succ]
          refine wpAnyH_take (i := 15) (oi := _) (v := .bool true) rfl (by kernel_rfl) (by kernel_rfl) (by kernel_rfl) (fun _ _ _ h => h) (Or.inl ⟨by rfl, fun w' hS => (by go_simp)⟩) hHeld ?_
          change wpAnyH _ _ _ _ _ _ _ (Act.put _ (some 98) _) _
          try simp only [Act.put, List.setIfInBounds_toArray, List.set_cons_zero, List.set_cons_succ]
          refine wpAnyH_take (i := 16) (oi := _) (v := .bool true) rfl (by kernel_rfl) (by kernel_rfl) (by kernel_rfl) (fun _ _ _ h => h) (Or.inl ⟨by rfl, fun w' hS => (by go_simp)⟩) hHeld ?_
          change wpAnyH _ _ _ _ _ _ _ (Act.put _ (some 6) _) _
          try simp only [Act.put, List.setIfInBounds_toArray, List.set_cons_zero, List.set_cons_succ]
          refine wpAnyH_done (by kernel_rfl) ?_ _
          refine NoPanic.normal ?_
          go_wp2_with fail
          go_ret
          exact ⟨rfl, by first | exact HBr.out.trans (HB7.out.mono HBr.out.size) | exact (HBr.out.trans (HB7.out.mono HBr.out.size)).drew⟩
end Go.Proofs.Ytkdoohmchdpjoaa
