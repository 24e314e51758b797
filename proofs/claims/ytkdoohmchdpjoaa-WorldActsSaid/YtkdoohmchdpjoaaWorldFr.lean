/-
  Chapter 23: both Writes with a sharper frame: only the world's own block and its events' own block turn.
-/
import Derived.Test.YtkdoohmchdpjoaaWorldWrite
import Derived.Test.YtkdoohmchdpjoaaFr
set_option linter.unusedVariables false
set_option linter.unusedSimpArgs false
namespace Go.Proofs.Ytkdoohmchdpjoaa
open Go.ChangeShapes Go.WideShapes Go.ChangeAt Go.RowKit

/-- Block b holds what was put out by the world at block g. -/
def EvB (w : World) (g b : Nat) : Prop := ∃ v, w.cell? ⟨g, 24, none⟩ = some v ∧ v.ownBlock = some b
def EvMove (w w' : World) (g : Nat) : Prop := (∀ b, b < w.heap.size → b ≠ g → ¬ EvB w g b → w'.heap[b]? = w.heap[b]?) ∧ ∀ b, EvB w' g b → EvB w g b ∨ w.heap.size ≤ b
theorem EvMove.of_below {w w' : World} {g : Nat} (h : Below w.heap.size w w') (hg : g < w.heap.size) : EvMove w w' g :=
  ⟨fun b hb _ _ => h.block b hb, fun b ⟨v, h1, h2⟩ => .inl ⟨v, (h.cell (p := ⟨g, 24, none⟩) hg).symm.trans h1, h2⟩⟩
theorem EvMove.of_fr {w w' : World} {g : Nat} {v0 v' : Value} (h : Fr (g :: v0.ownBlock.toList) w w') (h0 : w.cell? ⟨g, 24, none⟩ = some v0) (h1 : w'.cell? ⟨g, 24, none⟩ = some v') (hv : ∀ b, v'.ownBlock = some b → v0.ownBlock = some b ∨ w.heap.size ≤ b) : EvMove w w' g := by
  refine ⟨fun b hb hn he => h.block b hb fun hm => ?_, fun b hb => ?_⟩
  · rcases List.mem_cons.1 hm with e | e
    · exact hn e
    · exact he ⟨v0, h0, by simpa using e⟩
  · obtain ⟨v, h2, h3⟩ := hb
    rw [h1] at h2
    obtain rfl := Option.some.inj h2
    exact (hv b h3).imp (fun h => ⟨v0, h0, h⟩) id
def Still (w w' : World) (g : Nat) : Prop := w'.cell? ⟨g, 24, none⟩ = w.cell? ⟨g, 24, none⟩
theorem Still.of_below {w w' : World} {g : Nat} (h : Below w.heap.size w w') (hg : g < w.heap.size) : Still w w' g := h.cell (p := ⟨g, 24, none⟩) hg
theorem Still.of_set {w w' : World} {g i : Nat} {u : Value} {cs : Array Value} {t : TypeId} (hb : w.heap[g]? = some (.cells cs t (0, 0))) (hi : i ≠ 24) (h : Below (w.setCell ⟨g, i, none⟩ u).heap.size (w.setCell ⟨g, i, none⟩ u) w') (hg : g < w.heap.size) : Still w w' g := by
  have h1 := h.cell (p := ⟨g, 24, none⟩) (by simpa [World.setCell] using hg)
  have h2 : (w.setCell ⟨g, i, none⟩ u).cell? ⟨g, 24, none⟩ = cs[24]? := by
    rw [cell_of_row _ g 24 _ t (0, 0) (blk_set (i := i) hb u), Array.getElem?_setIfInBounds_ne hi]
  have h3 : w.cell? ⟨g, 24, none⟩ = cs[24]? := cell_of_row _ g 24 _ t (0, 0) hb
  exact h1.trans (h2.trans h3.symm)
set_option maxRecDepth 100000 in
set_option maxHeartbeats 2000000 in
theorem wwrite_fr {B g : Nat} {P : List CV} {ev : List Ev} (l : Nat) (k : Int) (v : VV) (w : World) (hw : WorldIn w B g P ev) (hM : Ms P) (hl : l < 18446744073709551616) (hv : v.label < 18446744073709551616) (hBw : B ≤ w.heap.size) (hn : (ev.length + 1) * 40 ≤ 140737488355328) :
    Calls Try.prog 26 #[.pointer (some ⟨g, 0, none⟩), .int .u64 (l : Int), .int .i64 k, .agg (vvCells v)] w fun e w' => e = .returned (.int .i64 (writeS P ev l k v).2) ∧ WorldIn w' B g P (writeS P ev l k v).1 ∧ Keep B wTypes w w' ∧ EvMove w w' g := by
  have HG := Lib.hid (show g < w.heap.size from hw.own.elim fun v h => blk_lt h.1)
  unfold vvCells
  have hbA : Below w.heap.size w ((w.alloc (.cells #[.int .i64 v.kind, .int .i64 v.n, .string v.s, .int .u64 (v.label : Int)] 61)).alloc (.cells #[.int .u64 (l : Int), .int .u64 (v.label : Int)] 23)) := ((Below.refl _ _).alloc (Nat.le_refl _) _).alloc (by simp) _
  have hwA := hw.below hbA
  have hj := heap_new_at (w.alloc (.cells #[.int .i64 v.kind, .int .i64 v.n, .string v.s, .int .u64 (v.label : Int)] 61)) (.cells #[.int .u64 (l : Int), .int .u64 (v.label : Int)] 23) (w.heap.size + 1) (by simp)
  have hjoin := join2_any l v.label (w.heap.size + 1) 2 23 _ hl hv hj
  have hor : l ||| v.label < 18446744073709551616 := Nat.or_lt_two_pow (n := 64) hl hv
  have hmay := wmay_any (l ||| v.label) k _ hwA hM hor
  unfold writeS
  unfold mayS at hmay
  clear hj
  cases hc : chOf P k with
  | none =>
    simp only [hc] at hmay
    go_enter Try.func26, Try.ntmps26
    go_wp2_with (first | (go_at_call 32; refine hjoin.mono ?_; rintro e w' ⟨rfl, rfl⟩) | (go_at_call 37; refine hmay.mono ?_; rintro e w' ⟨rfl, rfl⟩))
    go_ret
    exact ⟨rfl, hwA, Keep.of_below hbA _ _, EvMove.of_below hbA HG.out⟩
  | some c =>
    simp only [hc] at hmay
    obtain ⟨n, rfl, hn8, hP⟩ := chOf_some hc
    cases hf : flowsB (l ||| v.label) c.mask with
    | false =>
      simp only [hf, if_true, if_false, Bool.false_eq_true] at hmay
      go_enter Try.func26, Try.ntmps26
      go_wp2_with (first | (go_at_call 32; refine hjoin.mono ?_; rintro e w' ⟨rfl, rfl⟩) | (go_at_call 37; refine hmay.mono ?_; rintro e w' ⟨rfl, rfl⟩))
      all_goals
        go_ret
        exact ⟨rfl, hwA, Keep.of_below hbA _ _, EvMove.of_below hbA HG.out⟩
    | true =>
      simp only [hf, if_true, if_false, Bool.false_eq_true] at hmay
      simp only [if_true]
      go_enter Try.func26, Try.ntmps26
      go_upto_block 0 with (first | (go_at_call 32; refine hjoin.mono ?_; rintro e w' ⟨rfl, rfl⟩) | (go_at_call 37; refine hmay.mono ?_; rintro e w' ⟨rfl, rfl⟩))
      go_cut [] (fun w' => w'.heap[w.heap.size + 1 + 1]? = some (.cells #[.int .i64 (bareEv n v).channel, .int .i64 (bareEv n v).kind, .int .i64 (bareEv n v).n, .string (bareEv n v).s] 98 (0, 0)) ∧ Below w.heap.size w w')
      case first =>
        by_cases k1 : v.kind = 1
        · go_wp2
          go_meet
          case rel =>
            refine ⟨(heap_new_at _ _ _ ?_).trans ?_, ?_⟩
            · simp
            · simp [bareEv, k1] <;> rfl
            · (repeat' (first | exact Below.refl _ _ | refine Below.drew ?_ | refine Below.setCell ?_ ?_ _ | refine Below.alloc ?_ ?_ _ | (simp; done) | (simp; omega)))
        · by_cases k2 : v.kind = 2
          · go_wp2
            go_meet
            case rel =>
              refine ⟨(heap_new_at _ _ _ ?_).trans ?_, ?_⟩
              · simp
              · simp [bareEv, k2] <;> rfl
              · (repeat' (first | exact Below.refl _ _ | refine Below.drew ?_ | refine Below.setCell ?_ ?_ _ | refine Below.alloc ?_ ?_ _ | (simp; done) | (simp; omega)))
          · by_cases k3 : v.kind = 3
            · go_wp2
              go_meet
              case rel =>
                refine ⟨(heap_new_at _ _ _ ?_).trans ?_, ?_⟩
                · simp
                · simp [bareEv, k3] <;> rfl
                · (repeat' (first | exact Below.refl _ _ | refine Below.drew ?_ | refine Below.setCell ?_ ?_ _ | refine Below.alloc ?_ ?_ _ | (simp; done) | (simp; omega)))
            · go_wp2
              go_meet
              case rel =>
                refine ⟨(heap_new_at _ _ _ ?_).trans ?_, ?_⟩
                · simp
                · simp [bareEv, k1, k2, k3] <;> rfl
                · (repeat' (first | exact Below.refl _ _ | refine Below.drew ?_ | refine Below.setCell ?_ ?_ _ | refine Below.alloc ?_ ?_ _ | (simp; done) | (simp; omega)))
      case rest =>
        obtain ⟨hblE, hbE⟩ := hcut
        have hwE := hw.below hbE
        obtain ⟨hB, h8, ⟨v0, hbk1, hown1⟩, hins⟩ := hwE
        obtain ⟨A1, c1, rfl, _, _, _⟩ := own_form hown1
        have hne := own_blk_ne hown1 hbk1 (by decide)
        have hl24 : (P.flatMap chEnc).length = 24 := by rw [flatMap_len (K := 3) (fun _ => rfl), h8]
        have hd24 : ∀ (W : World) (u : Value), W.heap[g]? = some (.cells (P.flatMap chEnc ++ [u]).toArray 93 (0, 0)) → W.cell? ⟨g, 24, none⟩ = some u := fun W u h => cell_of_blk h (by rw [List.getElem?_toArray, List.getElem?_append_right (by omega), hl24]; rfl)
        have hd0 := hd24 _ _ hbk1
        have e0 := cell_of_blk (i := 0) hblE rfl
        have e1 := cell_of_blk (i := 1) hblE rfl
        have e2 := cell_of_blk (i := 2) hblE rfl
        have e3 := cell_of_blk (i := 3) hblE rfl
        have hltg := blk_lt hbk1
        have hltE := blk_lt hblE
        have hBc : B ≤ wc.heap.size := Nat.le_trans hBw hbE.size
        obtain ⟨i0, hi, hz0, hz1, hz2⟩ := info_parts infoEvent
        have hkE := Keep.of_below hbE B wTypes
        generalize hbe : bareEv n v = be at *
        have HBE := Lib.hid hbe
        clear hbe
        have HW := Lib.hid hw
        have HE := Lib.hid hbE
        have HD0 := Lib.hid ((hbE.cell (p := ⟨g, 24, none⟩) HG.out).symm.trans hd0)
        clear hw hbE hbA hwA hjoin hmay hP hblE
        go_wp2
        go_region_law ((refine step_append_lies _ (by rfl) _ _ _ (by rfl) B 98 i0 (.agg #[.int .i64 0, .int .i64 0, .int .i64 0, .string ByteArray.empty]) 4 40 Try.underlying57 hi hz0 hz1 hz2 rfl (by omega) (.slice A1 ev.length c1) ev.length (ev.flatMap evEnc) (by rfl) (by exact hown1.alloc _) ⟨wc.heap.size, 0, none⟩ 1 1 (evEnc be) (by rfl) (by rfl) (by exact news_drew _ #[.int .i64 be.channel, .int .i64 be.kind, .int .i64 be.n, .string be.s] _ _ (by simp)) (by simp [evEnc, Value.oneCell']) (by omega) (by unfold maxLen; omega) (by omega) (by simp; omega) (wc.heap.size + 1) (by simp) ?_; intro gb cap w2 hown2 hgrow hat hlt2; have hbk2 : w2.heap[g]? = some (.cells (P.flatMap chEnc ++ [Value.slice A1 ev.length c1]).toArray 93 (0, 0)) := (by exact blk_grown (blk_drew (blk_alloc hbk1 _)) hgrow (Ne.symm hne)); have he0 := hd24 _ _ hbk2; have hef := free_of_blk (i := 24) hbk2))
        all_goals
          go_wp2
          go_ret
          rw [HBE.out]
          refine ⟨rfl, WorldIn.pushed be hB h8 hbk2 hown2 (fun c hc => ((Keep.refl B [98] _).grown hgrow (own_cond (own_drew (own_keep_alloc hown1 _)) (by decide))).own (own_drew (own_keep_alloc (hins c hc) _)) (by decide)), (((hkE.alloc _).drew).grown hgrow (own_cond (own_drew (own_keep_alloc hown1 _)) (by decide))).set _ hbk2 (by decide) hB, EvMove.of_fr (v0 := .slice A1 ev.length c1) (v' := .slice (some ⟨gb, 0, none⟩) (ev.length + 1) cap) (((((Fr.of_below HE.out _).alloc _).drew).grown hgrow (fun g' hg' => .inl (by simp [hg']))).set _ (.inl (by simp))) HD0.out (cell_of_blk (blk_set (i := 24) hbk2 _) (by simp [hl24])) (fun b hb => by (have e : gb = b := (by simpa [Value.ownBlock] using hb)); (subst e); rcases hat with h | h; (exact .inl h); (exact .inr (by rw [h]; exact Nat.le_succ_of_le HE.out.size)))⟩
set_option maxRecDepth 100000 in
set_option maxHeartbeats 2000000 in
theorem rwrite_fr {B g : Nat} {s : Nat → Sl Int} {P : List CV} {ev : List Ev} (l : Nat) (k : Int) (v : VV) (w : World) (hw : RefWIn w B g s P ev) (hM : Ms P) (hl : l < 18446744073709551616) (hv : v.label < 18446744073709551616) (hBw : B ≤ w.heap.size) (hn : (ev.length + 1) * 40 ≤ 140737488355328) :
    Calls Try.prog 27 #[.pointer (some ⟨g, 0, none⟩), .int .u64 (l : Int), .int .i64 k, .agg (vvCells v)] w fun e w' => e = .returned (.int .i64 (writeS P ev l k v).2) ∧ RefWIn w' B g s P (writeS P ev l k v).1 ∧ Keep B rwTypes w w' ∧ EvMove w w' g := by
  have HG := Lib.hid (show g < w.heap.size from hw.own.elim fun v h => blk_lt h.1)
  have hbare := fun w => rbare_any v w
  unfold vvCells at hbare ⊢
  have HBR := Lib.hid hbare
  clear hbare
  have hbA : Below w.heap.size w (w.alloc (.cells #[.int .i64 v.kind, .int .i64 v.n, .string v.s, .int .u64 (v.label : Int)] 61)) := (Below.refl _ _).alloc (Nat.le_refl _) _
  have hwA := RefWIn.below hw hbA hBw
  have hor : l ||| v.label < 18446744073709551616 := Nat.or_lt_two_pow (n := 64) hl hv
  unfold writeS
  cases hc : chOf P k with
  | none =>
    have hk := chOf_none hw.eight hc
    rcases Classical.em (k < 0) with h0 | h0
    all_goals
      try have h8 : 8 ≤ k := hk.resolve_left h0
      try have h7 : 7 < k := by omega
      go_enter Try.func27, Try.ntmps27
      go_wp2
      go_ret
      exact ⟨rfl, hwA, Keep.of_below hbA _ _, EvMove.of_below hbA HG.out⟩
  | some c =>
    obtain ⟨n, rfl, hn8, hP⟩ := chOf_some hc
    obtain ⟨ca, cb, cc, fc⟩ := hw.cellsAt hn8 hP
    have hcm := hM c (List.mem_of_getElem? hP)
    have hgl := hw.glt
    have h1 : (0 : Int) ≤ n := by omega
    have h8 : (n : Int) < 8 := by omega
    have h0 : ¬ (n : Int) < 0 := by omega
    have h7 : ¬ 7 < (n : Int) := by omega
    cases hf : flowsB (l ||| v.label) c.mask with
    | false =>
      go_enter Try.func27, Try.ntmps27
      go_wp2
      go_quiet ((first | (go_at_call 16; exact quiet_ret (rjoin_any _ _ _ (by assumption) (by assumption))) | (go_at_call 14; exact quiet_ret (rflows_any _ _ _ (by assumption) (by assumption)))))
      go_wp2
      all_goals
        go_ret
        exact ⟨rfl, RefWIn.drewN hwA _, Keep.of_below (below_drewN hbA _) _ _, EvMove.of_below (below_drewN hbA _) HG.out⟩
    | true =>
      go_enter Try.func27, Try.ntmps27
      go_wp2
      go_quiet ((first | (go_at_call 16; exact quiet_ret (rjoin_any _ _ _ (by assumption) (by assumption))) | (go_at_call 14; exact quiet_ret (rflows_any _ _ _ (by assumption) (by assumption)))))
      go_wp2_with fail
      refine (HBR.out _).mono ?_
      rintro e w2 ⟨rfl, hb2⟩
      have hbw2 : Below w.heap.size w w2 := (below_drewN hbA _).trans (hb2.mono (by show w.heap.size ≤ (World.alloc w _).heap.size; simp))
      have hbe : bareEv n v = ⟨(n : Int), (bareVV v).kind, (bareVV v).n, (bareVV v).s⟩ := rfl
      have HBE := Lib.hid hbe
      clear hbe hb2 hbA hwA HBR ca cb cc fc
      generalize bareVV v = bv at HBE ⊢
      go_wp2
      refine gen_wp fun wc hwc => ?_
      have hbE : Below w.heap.size w wc := by rw [← hwc]; exact hbw2.alloc hbw2.size _
      have hblE : wc.heap[w2.heap.size]? = some (.cells #[.int .i64 bv.kind, .int .i64 bv.n, .string bv.s, .int .u64 (bv.label : Int)] 61 (0, 0)) := by rw [← hwc]; exact heap_new_at _ _ _ rfl
      have hwE := RefWIn.below hw hbE hBw
      clear hwc
      obtain ⟨hB, h8', ⟨v0, hbk1, hown1⟩, hins, hrd, hrm⟩ := hwE
      obtain ⟨A1, c1, rfl, _, _, _⟩ := own_form hown1
      have hne := own_blk_ne hown1 hbk1 (by decide)
      have hd24 : ∀ (W : World) (u : Value), W.heap[g]? = some (.cells (rwCells (chAt P) s u) 59 (0, 0)) → W.cell? ⟨g, 24, none⟩ = some u := fun W u h => cell_of_blk h rfl
      have hd0 := hd24 _ _ hbk1
      have e0 := cell_of_blk (i := 0) hblE rfl
      have e1 := cell_of_blk (i := 1) hblE rfl
      have e2 := cell_of_blk (i := 2) hblE rfl
      have hltg := blk_lt hbk1
      have hltE := blk_lt hblE
      have hBc : B ≤ wc.heap.size := Nat.le_trans hBw hbE.size
      obtain ⟨i0, hi, hz0, hz1, hz2⟩ := info_parts infoEvent
      have hkE := Keep.of_below hbE B rwTypes
      have HE := Lib.hid hbE
      have HD0 := Lib.hid ((hbE.cell (p := ⟨g, 24, none⟩) HG.out).symm.trans hd0)
      have HBL := Lib.hid hblE
      have hneE := own_blk_ne hown1 hblE (by decide)
      have hneg : w2.heap.size ≠ g := blk_ne hblE hbk1 (by decide)
      clear hbE hP hblE hbw2
      refine wp_region_noPanic ?_
      refine wp_region_held_drew (S := fun w' => w'.cell? ⟨w2.heap.size, 0, none⟩ = some (.int .i64 bv.kind) ∧ w'.cell? ⟨w2.heap.size, 1, none⟩ = some (.int .i64 bv.n) ∧ w'.cell? ⟨w2.heap.size, 2, none⟩ = some (.string bv.s)) (by kernel_rfl) ⟨e0, e1, e2⟩ (fun hHeld => ?_)
      refine wpAnyH_take (i := 0) (oi := _) (v := .pointer (some ⟨g, 0, none⟩)) rfl (by kernel_rfl) (by kernel_rfl) (by kernel_rfl) (fun _ _ _ h => h) (Or.inl ⟨by rfl, fun w' hS => ?_⟩) hHeld ?_
      · obtain ⟨s0, s1, s2⟩ := hS
        go_simp
      simp only [Act.put, List.setIfInBounds_toArray, List.set_cons_zero, List.set_cons_succ]
      refine wpAnyH_take (i := 1) (oi := _) (v := .pointer (some ⟨g, 0, none⟩)) rfl (by kernel_rfl) (by kernel_rfl) (by kernel_rfl) (fun _ _ _ h => h) (Or.inl ⟨by rfl, fun w' hS => ?_⟩) hHeld ?_
      · obtain ⟨s0, s1, s2⟩ := hS
        go_simp
      simp only [Act.put, List.setIfInBounds_toArray, List.set_cons_zero, List.set_cons_succ]
      refine wpAnyH_take (i := 2) (oi := _) (v := .pointer (some ⟨g, 0, none⟩)) rfl (by kernel_rfl) (by kernel_rfl) (by kernel_rfl) (fun _ _ _ h => h) (Or.inl ⟨by rfl, fun w' hS => ?_⟩) hHeld ?_
      · obtain ⟨s0, s1, s2⟩ := hS
        go_simp
      simp only [Act.put, List.setIfInBounds_toArray, List.set_cons_zero, List.set_cons_succ]
      refine wpAnyH_take (i := 3) (oi := _) (v := .pointer (some ⟨g, 24, none⟩)) rfl (by kernel_rfl) (by kernel_rfl) (by kernel_rfl) (fun _ _ _ h => h) (Or.inl ⟨by rfl, fun w' hS => ?_⟩) hHeld ?_
      · obtain ⟨s0, s1, s2⟩ := hS
        go_simp
      simp only [Act.put, List.setIfInBounds_toArray, List.set_cons_zero, List.set_cons_succ]
      refine wpAnyH_take (i := 5) (oi := _) (v := .int .i64 (n : Int)) rfl (by kernel_rfl) (by kernel_rfl) (by kernel_rfl) (fun _ _ _ h => h) (Or.inl ⟨by rfl, fun w' hS => ?_⟩) hHeld ?_
      · obtain ⟨s0, s1, s2⟩ := hS
        go_simp
      simp only [Act.put, List.setIfInBounds_toArray, List.set_cons_zero, List.set_cons_succ]
      refine wpAnyH_take (i := 6) (oi := _) (v := .pointer (some ⟨w2.heap.size, 0, none⟩)) rfl (by kernel_rfl) (by kernel_rfl) (by kernel_rfl) (fun _ _ _ h => h) (Or.inl ⟨by rfl, fun w' hS => ?_⟩) hHeld ?_
      · obtain ⟨s0, s1, s2⟩ := hS
        go_simp
      simp only [Act.put, List.setIfInBounds_toArray, List.set_cons_zero, List.set_cons_succ]
      refine wpAnyH_take (i := 7) (oi := _) (v := .int .i64 bv.kind) rfl (by kernel_rfl) (by kernel_rfl) (by kernel_rfl) (fun _ _ _ h => h) (Or.inl ⟨by rfl, fun w' hS => ?_⟩) hHeld ?_
      · obtain ⟨s0, s1, s2⟩ := hS
        go_simp
      simp only [Act.put, List.setIfInBounds_toArray, List.set_cons_zero, List.set_cons_succ]
      refine wpAnyH_take (i := 8) (oi := _) (v := .pointer (some ⟨w2.heap.size, 1, none⟩)) rfl (by kernel_rfl) (by kernel_rfl) (by kernel_rfl) (fun _ _ _ h => h) (Or.inl ⟨by rfl, fun w' hS => ?_⟩) hHeld ?_
      · obtain ⟨s0, s1, s2⟩ := hS
        go_simp
      simp only [Act.put, List.setIfInBounds_toArray, List.set_cons_zero, List.set_cons_succ]
      refine wpAnyH_take (i := 9) (oi := _) (v := .int .i64 bv.n) rfl (by kernel_rfl) (by kernel_rfl) (by kernel_rfl) (fun _ _ _ h => h) (Or.inl ⟨by rfl, fun w' hS => ?_⟩) hHeld ?_
      · obtain ⟨s0, s1, s2⟩ := hS
        go_simp
      simp only [Act.put, List.setIfInBounds_toArray, List.set_cons_zero, List.set_cons_succ]
      refine wpAnyH_take (i := 10) (oi := _) (v := .pointer (some ⟨w2.heap.size, 2, none⟩)) rfl (by kernel_rfl) (by kernel_rfl) (by kernel_rfl) (fun _ _ _ h => h) (Or.inl ⟨by rfl, fun w' hS => ?_⟩) hHeld ?_
      · obtain ⟨s0, s1, s2⟩ := hS
        go_simp
      simp only [Act.put, List.setIfInBounds_toArray, List.set_cons_zero, List.set_cons_succ]
      refine wpAnyH_take (i := 11) (oi := _) (v := .string bv.s) rfl (by kernel_rfl) (by kernel_rfl) (by kernel_rfl) (fun _ _ _ h => h) (Or.inl ⟨by rfl, fun w' hS => ?_⟩) hHeld ?_
      · obtain ⟨s0, s1, s2⟩ := hS
        go_simp
      simp only [Act.put, List.setIfInBounds_toArray, List.set_cons_zero, List.set_cons_succ]
      refine wpAnyH_take (i := 12) (oi := _) (v := .agg #[.int .i64 (n : Int), .int .i64 bv.kind, .int .i64 bv.n, .string bv.s]) rfl (by kernel_rfl) (by kernel_rfl) (by kernel_rfl) (fun _ _ _ h => h) (Or.inl ⟨by rfl, fun w' hS => ?_⟩) hHeld ?_
      · obtain ⟨s0, s1, s2⟩ := hS
        go_simp
      simp only [Act.put, List.setIfInBounds_toArray, List.set_cons_zero, List.set_cons_succ]
      refine wpAnyH_ready (rs := [4, 13]) (by kernel_rfl) (by simp) ?_
      refine AllReadyH.cons (o := _) rfl (fun K hK => ?ga) (AllReadyH.cons (o := _) rfl (fun K hK => ?gb) AllReadyH.nil)
      case' ga =>
        go_simp
        refine hK.out _ _ ⟨e0, e1, e2⟩ (fun hHeld => ?_)
        clear hK K
        try simp only [Act.put, List.setIfInBounds_toArray, List.set_cons_zero, List.set_cons_succ]
        refine wpAnyH_ready (rs := [13]) (by kernel_rfl) (by simp) ?_
        refine AllReadyH.cons (o := _) rfl (fun K hK => ?_) AllReadyH.nil
        go_simp
        refine hK.out _ _ ⟨by go_keep, by go_keep, by go_keep⟩ (fun hHeld => ?_)
        clear hK K
      case' gb =>
        go_simp
        refine hK.out _ _ ⟨by go_keep, by go_keep, by go_keep⟩ (fun hHeld => ?_)
        clear hK K
        try simp only [Act.put, List.setIfInBounds_toArray, List.set_cons_zero, List.set_cons_succ]
        refine wpAnyH_ready (rs := [4]) (by kernel_rfl) (by simp) ?_
        refine AllReadyH.cons (o := _) rfl (fun K hK => ?_) AllReadyH.nil
        go_simp
        refine hK.out _ _ ⟨by go_keep, by go_keep, by go_keep⟩ (fun hHeld => ?_)
        clear hK K
      all_goals try simp only [Act.put, List.setIfInBounds_toArray, List.set_cons_zero, List.set_cons_succ]
      all_goals refine wpAnyH_ready (rs := [14]) (by kernel_rfl) (by simp) ?_
      all_goals refine AllReadyH.cons (o := _) rfl (fun K hK => ?_) AllReadyH.nil
      all_goals
        refine step_append_lies _ (by rfl) _ _ _ (by rfl) B 98 i0 (.agg #[.int .i64 0, .int .i64 0, .int .i64 0, .string ByteArray.empty]) 4 40 Try.underlying57 hi hz0 hz1 hz2 rfl (by omega) (.slice A1 ev.length c1) ev.length (ev.flatMap evEnc) (by rfl) (by exact hown1.alloc _) ⟨wc.heap.size, 0, none⟩ 1 1 (evEnc ⟨(n : Int), bv.kind, bv.n, bv.s⟩) (by rfl) (by rfl) (by exact news_drew _ #[.int .i64 (n : Int), .int .i64 bv.kind, .int .i64 bv.n, .string bv.s] _ _ (by simp)) (by simp [evEnc, Value.oneCell']) (by omega) (by unfold maxLen; omega) (by omega) (by simp; omega) (wc.heap.size + 1) (by simp) ?_
        intro gb cap w3 hown2 hgrow hat hlt2
        have hbk2 : w3.heap[g]? = some (.cells (rwCells (chAt P) s (Value.slice A1 ev.length c1)) 59 (0, 0)) := blk_grown (blk_drew (blk_alloc hbk1 _)) hgrow (Ne.symm hne)
        have he0 := hd24 _ _ hbk2
        have hef := free_of_blk (i := 24) hbk2
        have hE3 : w3.heap[w2.heap.size]? = some (.cells #[.int .i64 bv.kind, .int .i64 bv.n, .string bv.s, .int .u64 (bv.label : Int)] 61 (0, 0)) := blk_grown (blk_drew (blk_alloc HBL.out _)) hgrow (Ne.symm hneE)
        have q0 : w3.cell? ⟨w2.heap.size, 0, none⟩ = some (.int .i64 bv.kind) := cell_of_blk hE3 rfl
        have q1 : w3.cell? ⟨w2.heap.size, 1, none⟩ = some (.int .i64 bv.n) := cell_of_blk hE3 rfl
        have q2 : w3.cell? ⟨w2.heap.size, 2, none⟩ = some (.string bv.s) := cell_of_blk hE3 rfl
        refine hK.out _ _ ⟨q0, q1, q2⟩ (fun hHeld => ?_)
        clear hK K
        try simp only [Act.put, List.setIfInBounds_toArray, List.set_cons_zero, List.set_cons_succ]
      all_goals
        refine wpAnyH_take (i := 15) (oi := _) (v := .pointer (some ⟨g, 0, none⟩)) rfl (by kernel_rfl) (by kernel_rfl) (by kernel_rfl) (fun _ _ _ h => h) (Or.inl ⟨by rfl, fun w' hS => (by go_simp)⟩) hHeld ?_
        simp only [Act.put, List.setIfInBounds_toArray, List.set_cons_zero, List.set_cons_succ]
        refine wpAnyH_take (i := 16) (oi := _) (v := .pointer (some ⟨g, 24, none⟩)) rfl (by kernel_rfl) (by kernel_rfl) (by kernel_rfl) (fun _ _ _ h => h) (Or.inl ⟨by rfl, fun w' hS => (by go_simp)⟩) hHeld ?_
        simp only [Act.put, List.setIfInBounds_toArray, List.set_cons_zero, List.set_cons_succ]
        refine wpAnyH_ready (rs := [17]) (by kernel_rfl) (by simp) ?_
        refine AllReadyH.cons (o := _) rfl (fun K hK => ?_) AllReadyH.nil
        go_simp
        refine hK.out _ _ ⟨cell_of_blk (i := 0) (blk_far hE3 hneg _) rfl, cell_of_blk (i := 1) (blk_far hE3 hneg _) rfl, cell_of_blk (i := 2) (blk_far hE3 hneg _) rfl⟩ (fun hHeld => ?_)
        clear hK K
        refine wpAnyH_done (by kernel_rfl) ?_ _
        refine NoPanic.normal ?_
        go_wp2
        go_ret
        have hkc := ((((Keep.refl B rwTypes wc).alloc _).drew).grown hgrow (own_cond (own_drew (own_keep_alloc hown1 _)) (by decide))).below hBc
        rw [HBE.out]
        exact ⟨rfl, RefWIn.pushed _ hB h8' hbk2 hown2 hins (fun j hj => (hrd j hj).below hkc) hrm, (((hkE.alloc _).drew).grown hgrow (own_cond (own_drew (own_keep_alloc hown1 _)) (by decide))).set _ hbk2 (by decide) hB, EvMove.of_fr (v0 := .slice A1 ev.length c1) (v' := .slice (some ⟨gb, 0, none⟩) (ev.length + 1) cap) (((((Fr.of_below HE.out _).alloc _).drew).grown hgrow (fun g' hg' => .inl (by simp [hg']))).set _ (.inl (by simp))) HD0.out (cell_of_blk (blk_set (i := 24) hbk2 _) rfl) (fun b hb => by (have e : gb = b := (by simpa [Value.ownBlock] using hb)); (subst e); rcases hat with h | h; (exact .inl h); (exact .inr (by rw [h]; exact Nat.le_succ_of_le HE.out.size)))⟩
end Go.Proofs.Ytkdoohmchdpjoaa
