/-
  Chapter 23: the document's Write.
-/
import Derived.Test.YtkdoohmchdpjoaaWorldBare
import Derived.StillTailTactics
import Derived.Deep.RegionHeld3
set_option linter.unusedVariables false
set_option linter.unusedSimpArgs false
namespace Go.Proofs.Ytkdoohmchdpjoaa
open Go.ChangeShapes Go.WideShapes Go.ChangeAt Go.RowKit

def rwTypes : List TypeId := [59, 98]
theorem RefWIn.pushed {w2 : World} {B g : Nat} {s : Nat → Sl Int} {P : List CV} {ev : List Ev} {v0 v2 : Value} (e : Ev) (hB : B ≤ g) (h8 : P.length = 8) (hbk2 : w2.heap[g]? = some (.cells (rwCells (chAt P) s v0) 59 (0, 0)))
    (hown2 : w2.ownsRow B 98 4 v2 (ev.length + 1) (ev.flatMap evEnc ++ evEnc e)) (hins : ∀ k c, P[k]? = some c → c.ins = (s k).xs) (hr : ∀ k, k < 8 → Reads w2 B (s k).A (intCells (s k).xs)) (hm : ∀ k, k < 8 → (s k).xs.length ≤ maxLen) :
    RefWIn (w2.setCell ⟨g, 24, none⟩ v2) B g s P (ev ++ [e]) := by
  have b := blk_set (i := 24) hbk2 v2
  refine ⟨hB, h8, ⟨v2, b, ?_⟩, hins, fun j hj => ?_, hm⟩
  · have := own_set_far hown2 (a := ⟨g, 24, none⟩) hbk2 (by decide) v2
    simpa using this
  · exact (hr j hj).below ((Below.refl _ _).setCell hB _)

set_option maxRecDepth 100000 in
set_option maxHeartbeats 2000000 in
theorem rwrite_any {B g : Nat} {s : Nat → Sl Int} {P : List CV} {ev : List Ev} (l : Nat) (k : Int) (v : VV) (w : World) (hw : RefWIn w B g s P ev) (hM : Ms P) (hl : l < 18446744073709551616) (hv : v.label < 18446744073709551616) (hBw : B ≤ w.heap.size) (hn : (ev.length + 1) * 40 ≤ 140737488355328) :
    Calls Try.prog 27 #[.pointer (some ⟨g, 0, none⟩), .int .u64 (l : Int), .int .i64 k, .agg (vvCells v)] w fun e w' => e = .returned (.int .i64 (writeS P ev l k v).2) ∧ RefWIn w' B g s P (writeS P ev l k v).1 ∧ Keep B rwTypes w w' := by
  have hbare := fun w => rbare_any v w
  unfold vvCells at hbare ⊢
  have HBR := Lib.hid hbare
  clear hbare
  have hbA : Below w.heap.size w (w.alloc (.cells #[.int .i64 v.kind, .int .i64 v.n, .string v.s, .int .u64 (v.label : Int)] 61)) := (Below.refl _ _).alloc (Nat.le_refl _) _
  have hwA := RefWIn.below hw hbA hBw
  have hor : l ||| v.label < 18446744073709551616 := Nat.or_lt_two_pow (n := 64) hl hv
  unfold writeS
  cases hc : chOf P k with
  | none =>
    have hk := chOf_none hw.eight hc
    rcases Classical.em (k < 0) with h0 | h0
    all_goals
      try have h8 : 8 ≤ k := hk.resolve_left h0
      try have h7 : 7 < k := by omega
      go_enter Try.func27, Try.ntmps27
      go_wp2
      go_ret
      exact ⟨rfl, hwA, Keep.of_below hbA _ _⟩
  | some c =>
    obtain ⟨n, rfl, hn8, hP⟩ := chOf_some hc
    obtain ⟨ca, cb, cc, fc⟩ := hw.cellsAt hn8 hP
    have hcm := hM c (List.mem_of_getElem? hP)
    have hgl := hw.glt
    have h1 : (0 : Int) ≤ n := by omega
    have h8 : (n : Int) < 8 := by omega
    have h0 : ¬ (n : Int) < 0 := by omega
    have h7 : ¬ 7 < (n : Int) := by omega
    cases hf : flowsB (l ||| v.label) c.mask with
    | false =>
      go_enter Try.func27, Try.ntmps27
      go_wp2
      go_quiet ((first | (go_at_call 16; exact quiet_ret (rjoin_any _ _ _ (by assumption) (by assumption))) | (go_at_call 14; exact quiet_ret (rflows_any _ _ _ (by assumption) (by assumption)))))
      go_wp2
      all_goals
        go_ret
        exact ⟨rfl, RefWIn.drewN hwA _, Keep.of_below (below_drewN hbA _) _ _⟩
    | true =>
      go_enter Try.func27, Try.ntmps27
      go_wp2
      go_quiet ((first | (go_at_call 16; exact quiet_ret (rjoin_any _ _ _ (by assumption) (by assumption))) | (go_at_call 14; exact quiet_ret (rflows_any _ _ _ (by assumption) (by assumption)))))
      go_wp2_with fail
      refine (HBR.out _).mono ?_
      rintro e w2 ⟨rfl, hb2⟩
      have hbw2 : Below w.heap.size w w2 := (below_drewN hbA _).trans (hb2.mono (by show w.heap.size ≤ (World.alloc w _).heap.size; simp))
      have hbe : bareEv n v = ⟨(n : Int), (bareVV v).kind, (bareVV v).n, (bareVV v).s⟩ := rfl
      have HBE := Lib.hid hbe
      clear hbe hb2 hbA hwA HBR ca cb cc fc
      generalize bareVV v = bv at HBE ⊢
      go_wp2
      refine gen_wp fun wc hwc => ?_
      have hbE : Below w.heap.size w wc := by rw [← hwc]; exact hbw2.alloc hbw2.size _
      have hblE : wc.heap[w2.heap.size]? = some (.cells #[.int .i64 bv.kind, .int .i64 bv.n, .string bv.s, .int .u64 (bv.label : Int)] 61 (0, 0)) := by rw [← hwc]; exact heap_new_at _ _ _ rfl
      have hwE := RefWIn.below hw hbE hBw
      clear hwc
      obtain ⟨hB, h8', ⟨v0, hbk1, hown1⟩, hins, hrd, hrm⟩ := hwE
      obtain ⟨A1, c1, rfl, _, _, _⟩ := own_form hown1
      have hne := own_blk_ne hown1 hbk1 (by decide)
      have hd24 : ∀ (W : World) (u : Value), W.heap[g]? = some (.cells (rwCells (chAt P) s u) 59 (0, 0)) → W.cell? ⟨g, 24, none⟩ = some u := fun W u h => cell_of_blk h rfl
      have hd0 := hd24 _ _ hbk1
      have e0 := cell_of_blk (i := 0) hblE rfl
      have e1 := cell_of_blk (i := 1) hblE rfl
      have e2 := cell_of_blk (i := 2) hblE rfl
      have hltg := blk_lt hbk1
      have hltE := blk_lt hblE
      have hBc : B ≤ wc.heap.size := Nat.le_trans hBw hbE.size
      obtain ⟨i0, hi, hz0, hz1, hz2⟩ := info_parts infoEvent
      have hkE := Keep.of_below hbE B rwTypes
      have HE := Lib.hid hbE
      have HBL := Lib.hid hblE
      have hneE := own_blk_ne hown1 hblE (by decide)
      have hneg : w2.heap.size ≠ g := blk_ne hblE hbk1 (by decide)
      clear hbE hP hblE hbw2
      refine wp_region_noPanic ?_
      refine wp_region_held_drew (S := fun w' => w'.cell? ⟨w2.heap.size, 0, none⟩ = some (.int .i64 bv.kind) ∧ w'.cell? ⟨w2.heap.size, 1, none⟩ = some (.int .i64 bv.n) ∧ w'.cell? ⟨w2.heap.size, 2, none⟩ = some (.string bv.s)) (by kernel_rfl) ⟨e0, e1, e2⟩ (fun hHeld => ?_)
      refine wpAnyH_take (i := 0) (oi := _) (v := .pointer (some ⟨g, 0, none⟩)) rfl (by kernel_rfl) (by kernel_rfl) (by kernel_rfl) (fun _ _ _ h => h) (Or.inl ⟨by rfl, fun w' hS => ?_⟩) hHeld ?_
      · obtain ⟨s0, s1, s2⟩ := hS
        go_simp
      simp only [Act.put, List.setIfInBounds_toArray, List.set_cons_zero, List.set_cons_succ]
      refine wpAnyH_take (i := 1) (oi := _) (v := .pointer (some ⟨g, 0, none⟩)) rfl (by kernel_rfl) (by kernel_rfl) (by kernel_rfl) (fun _ _ _ h => h) (Or.inl ⟨by rfl, fun w' hS => ?_⟩) hHeld ?_
      · obtain ⟨s0, s1, s2⟩ := hS
        go_simp
      simp only [Act.put, List.setIfInBounds_toArray, List.set_cons_zero, List.set_cons_succ]
      refine wpAnyH_take (i := 2) (oi := _) (v := .pointer (some ⟨g, 0, none⟩)) rfl (by kernel_rfl) (by kernel_rfl) (by kernel_rfl) (fun _ _ _ h => h) (Or.inl ⟨by rfl, fun w' hS => ?_⟩) hHeld ?_
      · obtain ⟨s0, s1, s2⟩ := hS
        go_simp
      simp only [Act.put, List.setIfInBounds_toArray, List.set_cons_zero, List.set_cons_succ]
      refine wpAnyH_take (i := 3) (oi := _) (v := .pointer (some ⟨g, 24, none⟩)) rfl (by kernel_rfl) (by kernel_rfl) (by kernel_rfl) (fun _ _ _ h => h) (Or.inl ⟨by rfl, fun w' hS => ?_⟩) hHeld ?_
      · obtain ⟨s0, s1, s2⟩ := hS
        go_simp
      simp only [Act.put, List.setIfInBounds_toArray, List.set_cons_zero, List.set_cons_succ]
      refine wpAnyH_take (i := 5) (oi := _) (v := .int .i64 (n : Int)) rfl (by kernel_rfl) (by kernel_rfl) (by kernel_rfl) (fun _ _ _ h => h) (Or.inl ⟨by rfl, fun w' hS => ?_⟩) hHeld ?_
      · obtain ⟨s0, s1, s2⟩ := hS
        go_simp
      simp only [Act.put, List.setIfInBounds_toArray, List.set_cons_zero, List.set_cons_succ]
      refine wpAnyH_take (i := 6) (oi := _) (v := .pointer (some ⟨w2.heap.size, 0, none⟩)) rfl (by kernel_rfl) (by kernel_rfl) (by kernel_rfl) (fun _ _ _ h => h) (Or.inl ⟨by rfl, fun w' hS => ?_⟩) hHeld ?_
      · obtain ⟨s0, s1, s2⟩ := hS
        go_simp
      simp only [Act.put, List.setIfInBounds_toArray, List.set_cons_zero, List.set_cons_succ]
      refine wpAnyH_take (i := 7) (oi := _) (v := .int .i64 bv.kind) rfl (by kernel_rfl) (by kernel_rfl) (by kernel_rfl) (fun _ _ _ h => h) (Or.inl ⟨by rfl, fun w' hS => ?_⟩) hHeld ?_
      · obtain ⟨s0, s1, s2⟩ := hS
        go_simp
      simp only [Act.put, List.setIfInBounds_toArray, List.set_cons_zero, List.set_cons_succ]
      refine wpAnyH_take (i := 8) (oi := _) (v := .pointer (some ⟨w2.heap.size, 1, none⟩)) rfl (by kernel_rfl) (by kernel_rfl) (by kernel_rfl) (fun _ _ _ h => h) (Or.inl ⟨by rfl, fun w' hS => ?_⟩) hHeld ?_
      · obtain ⟨s0, s1, s2⟩ := hS
        go_simp
      simp only [Act.put, List.setIfInBounds_toArray, List.set_cons_zero, List.set_cons_succ]
      refine wpAnyH_take (i := 9) (oi := _) (v := .int .i64 bv.n) rfl (by kernel_rfl) (by kernel_rfl) (by kernel_rfl) (fun _ _ _ h => h) (Or.inl ⟨by rfl, fun w' hS => ?_⟩) hHeld ?_
      · obtain ⟨s0, s1, s2⟩ := hS
        go_simp
      simp only [Act.put, List.setIfInBounds_toArray, List.set_cons_zero, List.set_cons_succ]
      refine wpAnyH_take (i := 10) (oi := _) (v := .pointer (some ⟨w2.heap.size, 2, none⟩)) rfl (by kernel_rfl) (by kernel_rfl) (by kernel_rfl) (fun _ _ _ h => h) (Or.inl ⟨by rfl, fun w' hS => ?_⟩) hHeld ?_
      · obtain ⟨s0, s1, s2⟩ := hS
        go_simp
      simp only [Act.put, List.setIfInBounds_toArray, List.set_cons_zero, List.set_cons_succ]
      refine wpAnyH_take (i := 11) (oi := _) (v := .string bv.s) rfl (by kernel_rfl) (by kernel_rfl) (by kernel_rfl) (fun _ _ _ h => h) (Or.inl ⟨by rfl, fun w' hS => ?_⟩) hHeld ?_
      · obtain ⟨s0, s1, s2⟩ := hS
        go_simp
      simp only [Act.put, List.setIfInBounds_toArray, List.set_cons_zero, List.set_cons_succ]
      refine wpAnyH_take (i := 12) (oi := _) (v := .agg #[.int .i64 (n : Int), .int .i64 bv.kind, .int .i64 bv.n, .string bv.s]) rfl (by kernel_rfl) (by kernel_rfl) (by kernel_rfl) (fun _ _ _ h => h) (Or.inl ⟨by rfl, fun w' hS => ?_⟩) hHeld ?_
      · obtain ⟨s0, s1, s2⟩ := hS
        go_simp
      simp only [Act.put, List.setIfInBounds_toArray, List.set_cons_zero, List.set_cons_succ]
      refine wpAnyH_ready (rs := [4, 13]) (by kernel_rfl) (by simp) ?_
      refine AllReadyH.cons (o := _) rfl (fun K hK => ?ga) (AllReadyH.cons (o := _) rfl (fun K hK => ?gb) AllReadyH.nil)
      case' ga =>
        go_simp
        refine hK.out _ _ ⟨e0, e1, e2⟩ (fun hHeld => ?_)
        clear hK K
        try simp only [Act.put, List.setIfInBounds_toArray, List.set_cons_zero, List.set_cons_succ]
        refine wpAnyH_ready (rs := [13]) (by kernel_rfl) (by simp) ?_
        refine AllReadyH.cons (o := _) rfl (fun K hK => ?_) AllReadyH.nil
        go_simp
        refine hK.out _ _ ⟨by go_keep, by go_keep, by go_keep⟩ (fun hHeld => ?_)
        clear hK K
      case' gb =>
        go_simp
        refine hK.out _ _ ⟨by go_keep, by go_keep, by go_keep⟩ (fun hHeld => ?_)
        clear hK K
        try simp only [Act.put, List.setIfInBounds_toArray, List.set_cons_zero, List.set_cons_succ]
        refine wpAnyH_ready (rs := [4]) (by kernel_rfl) (by simp) ?_
        refine AllReadyH.cons (o := _) rfl (fun K hK => ?_) AllReadyH.nil
        go_simp
        refine hK.out _ _ ⟨by go_keep, by go_keep, by go_keep⟩ (fun hHeld => ?_)
        clear hK K
      all_goals try simp only [Act.put, List.setIfInBounds_toArray, List.set_cons_zero, List.set_cons_succ]
      all_goals refine wpAnyH_ready (rs := [14]) (by kernel_rfl) (by simp) ?_
      all_goals refine AllReadyH.cons (o := _) rfl (fun K hK => ?_) AllReadyH.nil
      all_goals
        refine step_append_lies _ (by rfl) _ _ _ (by rfl) B 98 i0 (.agg #[.int .i64 0, .int .i64 0, .int .i64 0, .string ByteArray.empty]) 4 40 Try.underlying57 hi hz0 hz1 hz2 rfl (by omega) (.slice A1 ev.length c1) ev.length (ev.flatMap evEnc) (by rfl) (by exact hown1.alloc _) ⟨wc.heap.size, 0, none⟩ 1 1 (evEnc ⟨(n : Int), bv.kind, bv.n, bv.s⟩) (by rfl) (by rfl) (by exact news_drew _ #[.int .i64 (n : Int), .int .i64 bv.kind, .int .i64 bv.n, .string bv.s] _ _ (by simp)) (by simp [evEnc, Value.oneCell']) (by omega) (by unfold maxLen; omega) (by omega) (by simp; omega) (wc.heap.size + 1) (by simp) ?_
        intro gb cap w3 hown2 hgrow hat hlt2
        have hbk2 : w3.heap[g]? = some (.cells (rwCells (chAt P) s (Value.slice A1 ev.length c1)) 59 (0, 0)) := blk_grown (blk_drew (blk_alloc hbk1 _)) hgrow (Ne.symm hne)
        have he0 := hd24 _ _ hbk2
        have hef := free_of_blk (i := 24) hbk2
        have hE3 : w3.heap[w2.heap.size]? = some (.cells #[.int .i64 bv.kind, .int .i64 bv.n, .string bv.s, .int .u64 (bv.label : Int)] 61 (0, 0)) := blk_grown (blk_drew (blk_alloc HBL.out _)) hgrow (Ne.symm hneE)
        have q0 : w3.cell? ⟨w2.heap.size, 0, none⟩ = some (.int .i64 bv.kind) := cell_of_blk hE3 rfl
        have q1 : w3.cell? ⟨w2.heap.size, 1, none⟩ = some (.int .i64 bv.n) := cell_of_blk hE3 rfl
        have q2 : w3.cell? ⟨w2.heap.size, 2, none⟩ = some (.string bv.s) := cell_of_blk hE3 rfl
        refine hK.out _ _ ⟨q0, q1, q2⟩ (fun hHeld => ?_)
        clear hK K
        try simp only [Act.put, List.setIfInBounds_toArray, List.set_cons_zero, List.set_cons_succ]
      all_goals
        refine wpAnyH_take (i := 15) (oi := _) (v := .pointer (some ⟨g, 0, none⟩)) rfl (by kernel_rfl) (by kernel_rfl) (by kernel_rfl) (fun _ _ _ h => h) (Or.inl ⟨by rfl, fun w' hS => (by go_simp)⟩) hHeld ?_
        simp only [Act.put, List.setIfInBounds_toArray, List.set_cons_zero, List.set_cons_succ]
        refine wpAnyH_take (i := 16) (oi := _) (v := .pointer (some ⟨g, 24, none⟩)) rfl (by kernel_rfl) (by kernel_rfl) (by kernel_rfl) (fun _ _ _ h => h) (Or.inl ⟨by rfl, fun w' hS => (by go_simp)⟩) hHeld ?_
        simp only [Act.put, List.setIfInBounds_toArray, List.set_cons_zero, List.set_cons_succ]
        refine wpAnyH_ready (rs := [17]) (by kernel_rfl) (by simp) ?_
        refine AllReadyH.cons (o := _) rfl (fun K hK => ?_) AllReadyH.nil
        go_simp
        refine hK.out _ _ ⟨cell_of_blk (i := 0) (blk_far hE3 hneg _) rfl, cell_of_blk (i := 1) (blk_far hE3 hneg _) rfl, cell_of_blk (i := 2) (blk_far hE3 hneg _) rfl⟩ (fun hHeld => ?_)
        clear hK K
        refine wpAnyH_done (by kernel_rfl) ?_ _
        refine NoPanic.normal ?_
        go_wp2
        go_ret
        have hkc := ((((Keep.refl B rwTypes wc).alloc _).drew).grown hgrow (own_cond (own_drew (own_keep_alloc hown1 _)) (by decide))).below hBc
        rw [HBE.out]
        exact ⟨rfl, RefWIn.pushed _ hB h8' hbk2 hown2 hins (fun j hj => (hrd j hj).below hkc) hrm, (((hkE.alloc _).drew).grown hgrow (own_cond (own_drew (own_keep_alloc hown1 _)) (by decide))).set _ hbk2 (by decide) hB⟩
end Go.Proofs.Ytkdoohmchdpjoaa
