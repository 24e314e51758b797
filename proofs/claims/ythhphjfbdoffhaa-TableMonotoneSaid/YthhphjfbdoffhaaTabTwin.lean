/-
  Chapter 04: the document's Twin: a table in new memory.
-/
import Derived.Test.YthhphjfbdoffhaaTabRMore
set_option linter.unusedVariables false
set_option linter.unusedSimpArgs false
namespace Go.Proofs.Ythhphjfbdoffhaa
open Go.ChangeShapes Go.WideShapes Go.ChangeAt Go.RowKit Go.Maps

/-- append of a whole slice, nil or not, as one step of a region that draws its order. -/
theorem step_append_row {ops : Array Oper} {o : Oper} {a : Act} {w : World} {K : Act → World → Prop} {Q : Exit → Act → World → Prop} {E : Prop} (hgd : o.guard = none) (s x : Operand) (t e : TypeId) (i : TypeInfo) (z : Value) (size bytes : Nat)
    (ho : o.op = .call { callee := .builtin .append, args := #[s, x], argTypes := #[t, t] }) (ht : Try.prog.underlying t = some (.slice e)) (hi : Try.prog.info? e = some i) (hz0 : i.zero = some z) (hz1 : i.size = size) (hz2 : i.bytes = bytes) (hzs : z.cells.size = size) (hsz : 0 < size)
    (base : Nat) (v : Value) (n : Nat) (xs : List Value) (hs : a.eval s = v) (hown : w.ownsRow base e size v n xs)
    (A : Option Addr) (c m : Nat) (news : List Value) (hA : A = none → m = 0 ∧ c = 0) (hx : a.eval x = .slice A m c) (hl : news.length = m * size) (hr : Reads w w.heap.size A news) (h1 : ∀ u ∈ news, u.oneCell' = true)
    (hm : n + m ≤ maxLen) (hb : (n + m) * bytes ≤ 140737488355328) (hbase : base ≤ w.heap.size)
    (h : ∀ v' w', w'.ownsRow base e size v' (n + m) (xs ++ news) → w.grownBy w' v.ownBlock → K (a.put o.dst v') w') : if Region.wanted o (yielded ops a.tmps) = true then Oper.wp Try.prog o a w K Q else E := by
  have hw : Region.wanted o (yielded ops a.tmps) = true := by simp [Region.wanted, hgd]
  rw [if_pos hw]
  cases A with
  | none =>
    obtain ⟨rfl, rfl⟩ := hA rfl
    obtain rfl : news = [] := List.eq_nil_of_length_eq_zero (by simpa using hl)
    have hrun := run_append_owned_none (P := Try.prog) (w := w) base t o.type e i size ht hi v n xs hown
    unfold Oper.wp
    simp [execOp, ho, resolve, invoke, builtin, hs, hx, hrun, Result.andThen]
    exact h v w (by simpa using hown) ⟨rfl, rfl, rfl, Nat.le_refl _, fun _ _ _ => rfl⟩
  | some ad =>
    refine wp_append_own w s x t ho base e i z size bytes ht hi hz0 hz1 hz2 hzs hsz v n xs hs hown ad m c news hx hl ?_ h1 hm hb hbase ?_
    · rcases hr with hr | ⟨ad', e, _, h3⟩
      · intro j u hu
        rw [hr] at hu
        simp at hu
      · obtain rfl : ad = ad' := Option.some.inj e
        exact h3
    · intro v' w' h2 h3 _
      exact h v' w' h2 h3
theorem rtwin_in {w w2 : World} {T : TabS} {vF vS : Value} (hF : w2.ownsRow w.heap.size 59 8 vF T.F.length (T.F.flatMap fdEnc)) (hS : w2.ownsRow w.heap.size 61 2 vS T.S.length (T.S.flatMap stEnc)) (hb : Below w.heap.size w w2) :
    RTabIn (w2.alloc (.cells #[.int .u64 (T.l : Int), vF, vS] 50)) w.heap.size w2.heap.size T (w2.heap.size :: (vF.ownBlock.toList ++ vS.ownBlock.toList)) := by
  refine ⟨⟨vF, vS, rfl, heap_alloc_new _ _, hF.alloc _, hS.alloc _⟩, fun b hm => ?_⟩
  have hlt : ∀ {e : TypeId} {K n : Nat} {v : Value} {xs : List Value}, w2.ownsRow w.heap.size e K v n xs → v.ownBlock = some b → w.heap.size ≤ b ∧ b < w2.heap.size := by
    intro e K n v xs ho hg
    rcases ho.2 with ⟨rfl, _⟩ | ⟨g', cap, cur, rfl, hgb, hh, _⟩
    · simp [Value.ownBlock] at hg
    · obtain rfl : g' = b := by simpa [Value.ownBlock] using hg
      exact ⟨hgb, blk_lt hh⟩
  have hsz := hb.size
  have hs1 : (w2.alloc (.cells #[.int .u64 (T.l : Int), vF, vS] 50)).heap.size = w2.heap.size + 1 := by simp
  rw [hs1]
  simp at hm
  rcases hm with rfl | h | h
  · omega
  · have := hlt hF h; omega
  · have := hlt hS h; omega
set_option maxRecDepth 100000 in
set_option maxHeartbeats 8000000 in
theorem rtwin_any {w : World} {B rb : Nat} {T : TabS} {fp : List Nat} (h : RTabIn w B rb T fp) (hb : (T.F.length + T.S.length + 1) * 80 ≤ 140737488355328) :
    Calls Try.prog 43 #[.pointer (some ⟨rb, 0, none⟩)] w fun e w' => ∃ rb' fp', e = .returned (.pointer (some ⟨rb', 0, none⟩)) ∧ RTabIn w' w.heap.size rb' T fp' ∧ Below w.heap.size w w' := by
  obtain ⟨i1, i2, i3, i4⟩ := room80 hb
  have hb' : (T.S.length + T.F.length + 1) * 80 ≤ 140737488355328 := by rw [Nat.add_comm T.S.length]; exact hb
  obtain ⟨j1, j2, j3, j4⟩ := room80 hb'
  have HR1 := Lib.hid (Nat.le_of_succ_le i3)
  have HR2 := Lib.hid (Nat.le_trans (Nat.mul_le_mul_right 80 (Nat.le_succ _)) i4)
  have HR3 := Lib.hid (Nat.le_of_succ_le j3)
  have HR4 := Lib.hid (Nat.le_trans (Nat.mul_le_mul_left _ (by decide : 24 ≤ 80)) (Nat.le_trans (Nat.mul_le_mul_right 80 (Nat.le_succ T.S.length)) j4))
  clear i1 i2 i3 i4 j1 j2 j3 j4 hb hb'
  obtain ⟨iF, hiF, hF0, hF1, hF2⟩ := info_parts infoFd
  obtain ⟨iS, hiS, hS0, hS1, hS2⟩ := info_parts infoSt
  obtain ⟨⟨fv, sv, hfp, h1, h2, h3⟩, hbase⟩ := h
  obtain ⟨AF, cf, rfl, hcf1, hcf2, hAF, hRF⟩ := own_reads h2
  obtain ⟨AS, cs, rfl, hcs1, hcs2, hAS, hRS⟩ := own_reads h3
  have H1 := Lib.hid h1
  have HRF := Lib.hid hRF
  have HRS := Lib.hid hRS
  have hrl := blk_lt h1
  clear h1 h2 h3 hRF hRS hbase hfp
  go_enter Try.func43, Try.ntmps43
  go_wp2_with fail
  refine wp_region_noPanic ?_
  refine wp_region_held_drew (S := fun w' => w'.heap[rb]? = some (.cells #[.int .u64 (T.l : Int), .slice AF T.F.length cf, .slice AS T.S.length cs] 50 (0, 0))) (by kernel_rfl) (H1.out) (fun hHeld => ?_)
  refine wpAnyH_take (i := 0) (oi := _) (v := .pointer (some ⟨rb, 0, none⟩)) rfl (by kernel_rfl) (by kernel_rfl) (by kernel_rfl) (fun _ _ _ h => h) (Or.inl ⟨by rfl, fun w' hS => (by go_simp)⟩) hHeld ?_
  change wpAnyH _ _ _ _ _ _ _ (Act.put _ (some 3) _) _
  try simp only [Act.put, List.setIfInBounds_toArray, List.set_cons_zero, List.set_cons_succ]
  refine wpAnyH_take (i := 1) (oi := _) (v := .pointer (some ⟨rb, 0, none⟩)) rfl (by kernel_rfl) (by kernel_rfl) (by kernel_rfl) (fun _ _ _ h => h) (Or.inl ⟨by rfl, fun w' hS => (by go_simp)⟩) hHeld ?_
  change wpAnyH _ _ _ _ _ _ _ (Act.put _ (some 4) _) _
  try simp only [Act.put, List.setIfInBounds_toArray, List.set_cons_zero, List.set_cons_succ]
  refine wpAnyH_take (i := 2) (oi := _) (v := .pointer (some ⟨rb, 0, none⟩)) rfl (by kernel_rfl) (by kernel_rfl) (by kernel_rfl) (fun _ _ _ h => h) (Or.inl ⟨by rfl, fun w' hS => (by go_simp)⟩) hHeld ?_
  change wpAnyH _ _ _ _ _ _ _ (Act.put _ (some 5) _) _
  try simp only [Act.put, List.setIfInBounds_toArray, List.set_cons_zero, List.set_cons_succ]
  refine wpAnyH_take (i := 3) (oi := _) (v := .int .u64 (T.l : Int)) rfl (by kernel_rfl) (by kernel_rfl) (by kernel_rfl) (fun _ _ _ h => h) (Or.inl ⟨by rfl, fun w' hS => (by have q := cell_of_blk (i := 0) hS rfl; go_simp)⟩) hHeld ?_
  change wpAnyH _ _ _ _ _ _ _ (Act.put _ (some 6) _) _
  try simp only [Act.put, List.setIfInBounds_toArray, List.set_cons_zero, List.set_cons_succ]
  refine wpAnyH_take (i := 4) (oi := _) (v := .pointer (some ⟨rb, 0, none⟩)) rfl (by kernel_rfl) (by kernel_rfl) (by kernel_rfl) (fun _ _ _ h => h) (Or.inl ⟨by rfl, fun w' hS => (by go_simp)⟩) hHeld ?_
  change wpAnyH _ _ _ _ _ _ _ (Act.put _ (some 7) _) _
  try simp only [Act.put, List.setIfInBounds_toArray, List.set_cons_zero, List.set_cons_succ]
  refine wpAnyH_take (i := 5) (oi := _) (v := .pointer (some ⟨rb, 0, none⟩)) rfl (by kernel_rfl) (by kernel_rfl) (by kernel_rfl) (fun _ _ _ h => h) (Or.inl ⟨by rfl, fun w' hS => (by go_simp)⟩) hHeld ?_
  change wpAnyH _ _ _ _ _ _ _ (Act.put _ (some 8) _) _
  try simp only [Act.put, List.setIfInBounds_toArray, List.set_cons_zero, List.set_cons_succ]
  refine wpAnyH_take (i := 6) (oi := _) (v := .pointer (some ⟨rb, 1, none⟩)) rfl (by kernel_rfl) (by kernel_rfl) (by kernel_rfl) (fun _ _ _ h => h) (Or.inl ⟨by rfl, fun w' hS => (by go_simp)⟩) hHeld ?_
  change wpAnyH _ _ _ _ _ _ _ (Act.put _ (some 9) _) _
  try simp only [Act.put, List.setIfInBounds_toArray, List.set_cons_zero, List.set_cons_succ]
  refine wpAnyH_take (i := 7) (oi := _) (v := .slice AF T.F.length cf) rfl (by kernel_rfl) (by kernel_rfl) (by kernel_rfl) (fun _ _ _ h => h) (Or.inl ⟨by rfl, fun w' hS => (by have q := cell_of_blk (i := 1) hS rfl; go_simp)⟩) hHeld ?_
  change wpAnyH _ _ _ _ _ _ _ (Act.put _ (some 10) _) _
  try simp only [Act.put, List.setIfInBounds_toArray, List.set_cons_zero, List.set_cons_succ]
  refine wpAnyH_take (i := 9) (oi := _) (v := .pointer (some ⟨rb, 0, none⟩)) rfl (by kernel_rfl) (by kernel_rfl) (by kernel_rfl) (fun _ _ _ h => h) (Or.inl ⟨by rfl, fun w' hS => (by go_simp)⟩) hHeld ?_
  change wpAnyH _ _ _ _ _ _ _ (Act.put _ (some 12) _) _
  try simp only [Act.put, List.setIfInBounds_toArray, List.set_cons_zero, List.set_cons_succ]
  refine wpAnyH_take (i := 10) (oi := _) (v := .pointer (some ⟨rb, 0, none⟩)) rfl (by kernel_rfl) (by kernel_rfl) (by kernel_rfl) (fun _ _ _ h => h) (Or.inl ⟨by rfl, fun w' hS => (by go_simp)⟩) hHeld ?_
  change wpAnyH _ _ _ _ _ _ _ (Act.put _ (some 13) _) _
  try simp only [Act.put, List.setIfInBounds_toArray, List.set_cons_zero, List.set_cons_succ]
  refine wpAnyH_take (i := 11) (oi := _) (v := .pointer (some ⟨rb, 2, none⟩)) rfl (by kernel_rfl) (by kernel_rfl) (by kernel_rfl) (fun _ _ _ h => h) (Or.inl ⟨by rfl, fun w' hS => (by go_simp)⟩) hHeld ?_
  change wpAnyH _ _ _ _ _ _ _ (Act.put _ (some 14) _) _
  try simp only [Act.put, List.setIfInBounds_toArray, List.set_cons_zero, List.set_cons_succ]
  refine wpAnyH_take (i := 12) (oi := _) (v := .slice AS T.S.length cs) rfl (by kernel_rfl) (by kernel_rfl) (by kernel_rfl) (fun _ _ _ h => h) (Or.inl ⟨by rfl, fun w' hS => (by have q := cell_of_blk (i := 2) hS rfl; go_simp)⟩) hHeld ?_
  change wpAnyH _ _ _ _ _ _ _ (Act.put _ (some 15) _) _
  try simp only [Act.put, List.setIfInBounds_toArray, List.set_cons_zero, List.set_cons_succ]
  refine wpAnyH_ready (rs := [8]) (by kernel_rfl) (by simp) ?_
  refine AllReadyH.cons (o := _) rfl (fun K hK => ?_) AllReadyH.nil
  refine step_append_row rfl _ _ 48 59 iF _ 8 80 rfl Try.underlying48 hiF hF0 hF1 hF2 rfl (by decide) w.heap.size (.slice none 0 0) 0 [] rfl (World.ownsRow_nil _ _ _ _) AF cf T.F.length (T.F.flatMap fdEnc) hAF rfl (fdEnc_lenAll _) (by first | exact HRF.out | exact (HRF.out.below (Below.refl _ _).drew).mono' (Nat.le_refl _)) (fdEnc_one _) (by simpa using HR1.out) (by simpa using HR2.out) (Nat.le_refl _) ?_
  intro vF w1 hoF hg1
  rw [List.nil_append, Nat.zero_add] at hoF
  have hb1 : Below w.heap.size w w1 := by first | exact (Below.refl w.heap.size w).grown hg1 (Nat.le_refl _) (fun g hg => by simp [Value.ownBlock] at hg) | exact ((Below.refl w.heap.size w).drew).grown hg1 (Nat.le_refl _) (fun g hg => by simp [Value.ownBlock] at hg)
  refine hK.out _ _ (below_blk hb1 H1.out) (fun hHeld => ?_)
  clear hK K
  try simp only [Act.put, List.setIfInBounds_toArray, List.set_cons_zero, List.set_cons_succ]
  refine wpAnyH_ready (rs := [13]) (by kernel_rfl) (by simp) ?_
  refine AllReadyH.cons (o := _) rfl (fun K hK => ?_) AllReadyH.nil
  refine step_append_row rfl _ _ 41 61 iS _ 2 24 rfl Try.underlying41 hiS hS0 hS1 hS2 rfl (by decide) w.heap.size (.slice none 0 0) 0 [] rfl (World.ownsRow_nil _ _ _ _) AS cs T.S.length (T.S.flatMap stEnc) hAS rfl (stEnc_lenAll _) (by first | exact (HRS.out.below hb1).mono' hb1.size | exact ((HRS.out.below hb1).below (Below.refl _ _).drew).mono' hb1.size) (stEnc_one _) (by simpa using HR3.out) (by simpa using HR4.out) (hb1.size) ?_
  intro vS w2 hoS hg2
  rw [List.nil_append, Nat.zero_add] at hoS
  have hb2 : Below w1.heap.size w1 w2 := by first | exact (Below.refl w1.heap.size w1).grown hg2 (Nat.le_refl _) (fun g hg => by simp [Value.ownBlock] at hg) | exact ((Below.refl w1.heap.size w1).drew).grown hg2 (Nat.le_refl _) (fun g hg => by simp [Value.ownBlock] at hg)
  replace hoF := below_own hb2 hoF
  have hbb := hb1.trans (hb2.mono hb1.size)
  refine hK.out _ _ (below_blk hbb H1.out) (fun hHeld => ?_)
  clear hK K
  try simp only [Act.put, List.setIfInBounds_toArray, List.set_cons_zero, List.set_cons_succ]
  obtain ⟨A1, c1, rfl, _, _, _⟩ := own_form hoF
  obtain ⟨A2, c2, rfl, _, _, _⟩ := own_form hoS
  have HOF := Lib.hid hoF
  have HOS := Lib.hid hoS
  have HBB := Lib.hid hbb
  clear hoF hoS hbb hb1 hb2 hg1 hg2
  refine wpAnyH_take (i := 14) (oi := _) (v := .agg #[.int .u64 (T.l : Int), .slice A1 T.F.length c1, .slice A2 T.S.length c2]) rfl (by kernel_rfl) (by kernel_rfl) (by kernel_rfl) (fun _ _ _ h => h) (Or.inl ⟨by rfl, fun w' hS => (by go_simp)⟩) hHeld ?_
  change wpAnyH _ _ _ _ _ _ _ (Act.put _ (some 17) _) _
  try simp only [Act.put, List.setIfInBounds_toArray, List.set_cons_zero, List.set_cons_succ]
  refine wpAnyH_ready (rs := [15]) (by kernel_rfl) (by simp) ?_
  refine AllReadyH.cons (o := _) rfl (fun K hK => ?_) AllReadyH.nil
  go_simp
  refine hK.out _ _ (by first | exact blk_alloc (below_blk HBB.out H1.out) _ | exact blk_drew (blk_alloc (below_blk HBB.out H1.out) _)) (fun hHeld => ?_)
  clear hK K
  try simp only [Act.put, List.setIfInBounds_toArray, List.set_cons_zero, List.set_cons_succ]
  refine wpAnyH_take (i := 16) (oi := _) (v := .pointer (some ⟨w2.heap.size, 0, none⟩)) rfl (by kernel_rfl) (by kernel_rfl) (by kernel_rfl) (fun _ _ _ h => h) (Or.inl ⟨by rfl, fun w' hS => (by go_simp)⟩) hHeld ?_
  change wpAnyH _ _ _ _ _ _ _ (Act.put _ (some 2) _) _
  try simp only [Act.put, List.setIfInBounds_toArray, List.set_cons_zero, List.set_cons_succ]
  refine wpAnyH_done (by kernel_rfl) ?_ _
  refine NoPanic.normal ?_
  go_wp2_with fail
  go_ret
  exact ⟨_, _, rfl, rtwin_in HOF.out HOS.out HBB.out, HBB.out.alloc HBB.out.size _⟩
end Go.Proofs.Ythhphjfbdoffhaa
