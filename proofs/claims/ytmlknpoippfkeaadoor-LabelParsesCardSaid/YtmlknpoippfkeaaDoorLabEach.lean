/-
  The principals of a label, one by one: the program's iterator; List.
-/
import Derived.Test.YtmlknpoippfkeaaDoorRangeCap
import Derived.Test.YtmlknpoippfkeaaDoorLabP
import Derived.Test.YtmlknpoippfkeaaDoorLabel
import Derived.Test.YtmlknpoippfkeaaDoorOpen
import Derived.Shelf.Spec.TrailingZeros
import Derived.Test.YtmlknpoippfkeaaDoorShelf
set_option linter.unusedVariables false
set_option linter.unusedSimpArgs false
namespace Go.Proofs.YtmlknpoippfkeaaDoor
open Go.ChangeShapes Go.WideShapes Go.ChangeAt Go.RowKit Go.Shelf

/-- The de Bruijn table lies as it should. -/
def Tab64 (w : World) : Prop := ∀ j, j < Lib.deBruijn64tab.length → w.cell? ⟨0, j, none⟩ = some (.int .u8 (Lib.deBruijn64tab.getD j 0))
theorem Tab64.below {w w' : World} (h : Tab64 w) (hb : Below w.heap.size w w') : Tab64 w' := fun j hj => (hb.cell (p := ⟨0, j, none⟩) (cell_lt (h j hj))).trans (h j hj)
theorem ctz_any (x : Nat) (hx : x < 18446744073709551616) (w : World) (hT : Tab64 w) :
    Calls Tryd.prog 35 #[.int .u64 (x : Int)] w (Ret (.int .i64 (Lib.ctz 64 x : Nat)) w) :=
  (Any7.bits_TrailingZeros64 Tryd.lays7_29 x hx w (fun _ => hT)).mono fun _ _ h => ⟨h.1, h.2.symm⟩
theorem each_any (l : Nat) (w : World) : Calls Tryd.prog 27 #[.int .u64 (l : Int)] w fun e w' => e = .returned (.func (.func 34) #[] #[.pointer (some ⟨w.heap.size, 0, none⟩)]) ∧ w' = w.alloc (.cells #[.int .u64 (l : Int)] 23) := by
  go_enter Tryd.func27, Tryd.ntmps27
  go_wp2
  go_ret
  exact ⟨rfl, rfl⟩
def capN (b : Nat) (w : World) : Nat := match w.cell? ⟨b, 0, none⟩ with
  | some (.int _ n) => n.toNat
  | _ => 0
theorem capN_eq {b : Nat} {w : World} {n : Nat} {k : IntKind} (h : w.cell? ⟨b, 0, none⟩ = some (.int k (n : Int))) : capN b w = n := by unfold capN; rw [h]; simp
theorem and_pred_lt {l : Nat} (h : 0 < l) : l &&& (l - 1) < l := Nat.lt_of_le_of_lt Nat.and_le_right (by omega)
theorem yield_mono {F : Fence} {m : Nat} {P : Program} {l : Nat} {args : Array Value} {W : World} {R R' : Ending → World → Prop} (h : YieldAt F m P l args W R) (hr : ∀ e w, R e w → R' e w) : YieldAt F m P l args W R' := h.mono hr
attribute [local go_sem] Oper.semAt_some
set_option maxRecDepth 100000 in
set_option maxHeartbeats 2000000 in
theorem each1_hands (n b L : Nat) (hn : 1 ≤ n) (hL : L < 18446744073709551616) :
    Hands n Tryd.prog 34 #[.pointer (some ⟨b, 0, none⟩)] (fun p : Nat => #[.int .i64 (p : Int)]) b (.cells #[.int .u64 (L : Int)] 23 (0, 0)) Tab64 (fun pre p => pre ++ [p] <+: prin L) (prin L) := by
  intro l J W hA hE hY h0 hb
  have HA := Lib.hid hA
  have HE := Lib.hid hE
  have HY := Lib.hid hY
  clear hA hE hY
  refine callsIn_of_wp Tryd.func34 rfl trivial ?_ rfl
  simp only [Tryd.ntmps34, List.size_toArray, List.length_cons, List.length_nil, Nat.reduceAdd, Nat.reduceSub, Array.replicate_succ, Array.replicate_zero, List.push_toArray, List.append_toArray, List.nil_append, List.cons_append]
  gi_wp2
  gi_loopw [3] (fun _ wr => ∃ (pre : List Nat) (l' : Nat), prin L = pre ++ prin l' ∧ l' < 18446744073709551616 ∧ wr.heap[b]? = some (.cells #[.int .u64 (l' : Int)] 23 (0, 0)) ∧ J pre wr) (fun _ wr => capN b wr)
  case atStart => exact ⟨[], L, rfl, hL, hb, h0⟩
  case round =>
    obtain ⟨pre, l', hp, hl', hb', hJ⟩ := hrel
    have HP := Lib.hid hp
    have c0 : wr.cell? ⟨b, 0, none⟩ = some (.int .u64 (l' : Int)) := cell_of_blk hb' rfl
    have HB' := Lib.hid hb'
    clear hp hb' h0 hb
    by_cases hz : l' = 0
    · subst hz
      have e : prin L = pre := by rw [HP.out, prin_zero, List.append_nil]
      gi_wp2
      go_end0
      exact ⟨⟨_, rfl⟩, by rw [e]; exact hJ⟩
    · have hs := prin_step (l := l') (by omega) hl'
      have hok : pre ++ [Lib.ctz 64 l'] <+: prin L := by rw [HP.out, hs]; exact ⟨prin (l' &&& (l' - 1)), by simp⟩
      have hctz := ctz_any l' hl' wr (HE.out _ _ hJ)
      obtain ⟨fn, tmps, assign, body, hy, hR⟩ := HY.out pre (Lib.ctz 64 l') wr hJ hok
      have hand : bits BinOp.and IntKind.u64 (l' : Int) ((l' : Int) - 1) = ((l' &&& (l' - 1) : Nat) : Int) := by
        rw [show ((l' : Int) - 1) = ((l' - 1 : Nat) : Int) from by omega, u64_and_nat _ _ hl' (by omega)]
      have hlt := and_pred_lt (l := l') (by omega)
      have HS := Lib.hid hs
      have HOK := Lib.hid hok
      generalize Lib.ctz 64 l' = p at hctz hy hR HS HOK
      generalize l' &&& (l' - 1) = l2 at hand hlt HS
      clear hs hok
      have hz' : ((l' : Int) != 0) = true := by simp; omega
      gi_wp2_with (refine ⟨trivial, ?_⟩; gi_at_call 35; refine (callsIn_wide.2 hctz).mono ?_; rintro e w' ⟨rfl, rfl⟩)
      refine hR.mono ?_
      rintro e W3 ⟨rfl, hJ3, hk3⟩
      have hb3 := hk3.trans HB'.out
      have c3 : W3.cell? ⟨b, 0, none⟩ = some (.int .u64 (l' : Int)) := cell_of_blk hb3 rfl
      have f3 : W3.frozen? ⟨b, 0, none⟩ = false := free_of_blk hb3
      have HB3 := Lib.hid hb3
      clear hk3 hb3
      gi_wp2
      go_roundw
      case rel => exact ⟨pre ++ [p], l2, by rw [HP.out, HS.out]; simp, by omega, by rw [blk_set HB3.out]; rfl, HA.out _ _ _ hJ3⟩
      case measure => rw [capN_eq c0, capN_eq (cell_of_blk (blk_set HB3.out _) rfl)]; exact hlt
theorem infoInt : (Tryd.prog.info? 3).map (fun i => (i.zero, i.size, i.bytes)) = some (some (.int .i64 0), 1, 8) := by kernel_rfl
theorem pre_le {pre : List Nat} {p L : Nat} (h : pre ++ [p] <+: prin L) : pre.length < 64 ∧ p < 64 := by
  have h1 := h.length_le
  have h2 : (prin L).length ≤ 64 := by
    unfold prin
    exact Nat.le_trans (List.length_filter_le _ _) (by simp)
  simp at h1
  exact ⟨by omega, prin_lt p (h.subset (by simp))⟩
theorem boxed_some_own {β : Type} (B : Nat) (t : TypeId) : Own (fun (_ : β) W => ∃ u, Boxed W B t u) := by
  rintro s X Y row ⟨u, h⟩ hg hr
  refine ⟨u, h.kept hg fun e' => ?_⟩
  obtain ⟨o, ho, hc⟩ := hr B e'.symm
  rw [show X.heap[B]? = _ from h] at ho
  cases ho
  cases hc
/-- What a body that appends to a box of its own keeps, with the iterator's cell. -/
theorem keep_cap {W w1 : World} {n₀ B b : Nat} {t e tc : TypeId} {size k : Nat} {v v' u : Value} {xs : List Value} {tmp : Obj} (hb : Boxed W b tc u) (hv : Boxed W B t v) (hrow : W.ownsRow n₀ e size v k xs) (hte : tc ≠ e) (hne : b ≠ B) (hgrow : (W.alloc tmp).grownBy w1 v.ownBlock) : (w1.setCell ⟨B, 0, none⟩ v').heap[b]? = W.heap[b]? := by
  have h1 : Boxed w1 b tc u := (hb.alloc tmp).kept hgrow (hb.not_row hte hrow)
  exact ((Below.heap_setCell w1 _ v' b (by simpa using hne)).trans h1).trans hb.symm
set_option maxRecDepth 100000 in
set_option maxHeartbeats 2000000 in
theorem list_any (L : Nat) (hL : L < 18446744073709551616) (w : World) (hT : Tab64 w) :
    Calls Tryd.prog 23 #[.int .u64 (L : Int)] w fun e w' => ∃ v, e = .returned v ∧ w'.ownsRow w.heap.size 3 1 v (prin L).length ((prin L).map fun p : Nat => Value.int .i64 (p : Int)) ∧ Below w.heap.size w w' := by
  obtain ⟨i0, hi, hz0, hz1, hz2⟩ := info_parts infoInt
  have HT := Lib.hid hT
  clear hT
  refine (callsIn_wide (n := 9)).1 ?_
  refine callsIn_of_wp_marks Tryd.func23 rfl trivial ?_ rfl
  simp only [Tryd.ntmps23, List.size_toArray, List.length_cons, List.length_nil, Nat.reduceAdd, Nat.reduceSub, Array.replicate_succ, Array.replicate_zero, List.push_toArray, List.append_toArray, List.nil_append, List.cons_append]
  gi_wp2_with (refine ⟨trivial, ?_⟩; gi_at_call 27; refine (callsIn_wide.2 (each_any L _)).mono ?_; rintro e w' ⟨rfl, rfl⟩)
  have bO := Boxed.new w 36 (.slice none 0 0)
  have bN := Boxed.new (w.alloc (.cells #[.slice none 0 0] 36)) 23 (.int .u64 (L : Int))
  rw [World.size_alloc] at bN
  have hB0 : Below w.heap.size w ((w.alloc (.cells #[.slice none 0 0] 36)).alloc (.cells #[.int .u64 (L : Int)] 23)) := ((Below.refl _ w).alloc (Nat.le_refl _) _).alloc (by simp) _
  refine range_cap (n := 9) (by omega) (gf := 34) (lb := #[.pointer (some ⟨w.heap.size + 1, 0, none⟩)]) rfl (enters_of Tryd.func34 (by kernel_rfl) rfl) (fun _ => rfl) (b := w.heap.size + 1) (by simp) bN
    (each1_hands 8 (w.heap.size + 1) L (by omega) hL)
    (fun pre W => (∃ v, Boxed W w.heap.size 36 v ∧ W.ownsRow w.heap.size 3 1 v pre.length (pre.map fun p : Nat => Value.int .i64 (p : Int)) ∧ True) ∧ (∃ u, Boxed W (w.heap.size + 1) 23 u) ∧ Below w.heap.size w W)
    (OwnFrom.and (Own.from (holdsRow_own w.heap.size w.heap.size 36 3 1 (fun pre : List Nat => pre.length) (fun pre => pre.map fun p : Nat => Value.int .i64 (p : Int)) (fun _ _ => True)) _) (OwnFrom.and (Own.from (boxed_some_own _ _) _) (ownFrom_below (Nat.le_refl _) (by simp; omega))))
    ?abides (fun pre W h => HT.out.below h.2.2)
    ⟨⟨_, bO.alloc _, World.ownsRow_nil _ _ _ _, trivial⟩, ⟨_, bN⟩, hB0⟩
    (fun x => { tmps := #[.int .u64 (L : Int), undef, .slice none 0 0, .pointer (some ⟨w.heap.size, 0, none⟩), .int .i64 (x : Int), .int .u64 (L : Int), .func (.func 34) #[] #[.pointer (some ⟨w.heap.size + 1, 0, none⟩)], .int .i64 (x : Int), undef, undef, undef, undef, undef], defers := [] }) ?assign ?body ?done
  case abides =>
    rintro pre W u ⟨⟨v, hv, hrow, _⟩, ⟨u0, hu⟩, hB⟩
    exact ⟨⟨v, blk_far hv (by simp) _, own_set_far (a := ⟨w.heap.size + 1, 0, none⟩) hrow (show W.heap[w.heap.size + 1]? = some (.cells #[u0] 23 (0, 0)) from hu) (by decide) _, trivial⟩, ⟨_, hu.set u⟩, hB.setCell (by simp) _⟩
  case assign =>
    intro l x W K hK
    gi_wp2
    exact hK
  case body =>
    rintro l pre x W ⟨⟨v, hv, hrow, _⟩, ⟨u0, hu⟩, hB⟩ hok
    have hc := hv.cell
    obtain ⟨hpl, _⟩ := pre_le hok
    gi_wp2_with (gi_at_builtin; refine wpListIn_append_own _ rfl _ _ 36 rfl w.heap.size 3 i0 (.int .i64 0) 1 8 Tryd.underlying36 hi hz0 hz1 hz2 rfl (by decide) _ _ _ rfl (hrow.alloc _) ⟨W.heap.size, 0, none⟩ 1 1 [.int .i64 (x : Int)] rfl rfl (cell_one_new _ _ _) (by simp [Value.oneCell']) (by unfold maxLen; omega) (by omega) (by have := hB.size; simp; omega) ?_; intro v' w1 hown' hgrow _; obtain ⟨g', cap', rfl⟩ := ownsRow_succ hown'; obtain ⟨hv1, hv2, hr2, hk2, hb2⟩ := hv.appended (by decide) hrow hB.size (Nat.le_refl _) hown' hgrow; have hkc := keep_cap (v' := .slice (some ⟨g', 0, none⟩) (pre.length + 1) cap') hu hv hrow (by decide) (by omega) hgrow; have hc1 := hv1.cell; have hf1 := hv1.frozen)
    exact ⟨hk2.from _, hkc, ⟨_, hv2, by simpa using hr2, trivial⟩, ⟨u0, hkc.trans hu⟩, hB.trans hb2⟩
  case done =>
    rintro D W hD ⟨⟨v, hv, hrow, _⟩, _, hB⟩ hK
    have hc := hv.cell
    gi_wp2
    refine ⟨by simp, .inl ⟨_, _, rfl, run_takeDeferred hK, ?_⟩⟩
    exact ⟨_, results_tmp rfl _ _ _, v, rfl, ownsRow_putObj hrow _ hK rfl, hB.trans (belowK_b (w := w) (Nat.le_refl _) W D _ _ (by simp at hD; omega) hK rfl rfl)⟩
end Go.Proofs.YtmlknpoippfkeaaDoor
