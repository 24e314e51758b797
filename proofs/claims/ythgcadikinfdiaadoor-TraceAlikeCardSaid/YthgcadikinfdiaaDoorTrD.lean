/-
  Chapter 25: the program's iterator over what one sees; Low.
-/
import Derived.Test.YthgcadikinfdiaaDoorTrC
import Derived.RangeFuncNested
import Derived.RangeFuncLeaves
import Derived.Shelf.Abstract
import Derived.Shelf.RegionOpen
import Derived.WalkKit
import Derived.OwnWalkIn
import Derived.TacticsInMore
import Derived.LoopNIn
import Derived.LoopIn
import Derived.Maps.AppendAt
set_option linter.unusedVariables false
set_option linter.unusedSimpArgs false
namespace Go.Proofs.YthgcadikinfdiaaDoor
open Go.ChangeShapes Go.WideShapes Go.ChangeAt Go.RowKit Go.Shelf

theorem cells_own {β : Type} (B : Nat) (cs : Array Value) (t : TypeId) : Own (fun (_ : β) W => W.heap[B]? = some (.cells cs t (0, 0))) := fun s X Y row hs hg hr =>
  blk_grown hs hg fun e => by
    obtain ⟨o, ho, hc⟩ := hr B e
    rw [show X.heap[B]? = _ from hs] at ho
    cases ho
    cases hc
theorem own_and {β : Type} {I I' : β → World → Prop} (h : Own I) (h' : Own I') : Own (fun s W => I s W ∧ I' s W) := fun s W W' row hs hg hr => ⟨h s W W' row hs.1 hg hr, h' s W W' row hs.2 hg hr⟩
/-- What a body that appends to a box of its own keeps: a block of another type. -/
theorem keep_blk {W w1 : World} {n₀ B b : Nat} {e tc : TypeId} {size k : Nat} {cs : Array Value} {v v' : Value} {xs : List Value} {tmp : Obj} (hb : W.heap[b]? = some (.cells cs tc (0, 0))) (hrow : W.ownsRow n₀ e size v k xs) (hte : e ≠ tc) (hne : b ≠ B) (hgrow : (W.alloc tmp).grownBy w1 v.ownBlock) : (w1.setCell ⟨B, 0, none⟩ v').heap[b]? = some (.cells cs tc (0, 0)) :=
  blk_far (blk_grown (blk_alloc hb tmp) hgrow fun e' => own_blk_ne hrow hb hte e'.symm) hne v'
def KpLow (n₀ B1 B2 : Nat) (W W' : World) : Prop := Below n₀ W W' ∧ W'.heap[B1]? = W.heap[B1]? ∧ W'.heap[B2]? = W.heap[B2]?
theorem low_fn (m : Nat → Nat) (see : Nat) (A : Option Addr) (k c : Nat) (w : World) : Calls Tryd.prog 19 #[.slice A k c, .agg (arr8 (mv m)), .int .u64 (see : Int)] w fun e w' =>
    e = .returned (.func (.func 29) #[] #[.pointer (some ⟨w.heap.size, 0, none⟩), .pointer (some ⟨w.heap.size + 1, 0, none⟩), .pointer (some ⟨w.heap.size + 1 + 1, 0, none⟩)]) ∧
      w' = ((w.alloc (.cells #[.slice A k c] 22)).alloc (.cells (arr8 (mv m)) 25)).alloc (.cells #[.int .u64 (see : Int)] 24) := by
  go_enter Tryd.func19, Tryd.ntmps19
  go_wp2
  go_ret
  exact ⟨rfl, rfl⟩
attribute [local go_sem] Oper.semAt_some
set_option maxRecDepth 100000 in
set_option maxHeartbeats 4000000 in
theorem low1_stops (n : Nat) (hn : 1 ≤ n) (m : Nat → Nat) (see : Nat) (xs : List Ev) (A : Option Addr) (c n₀ B0 B1 B2 : Nat) (w : World) (hn₀ : n₀ ≤ w.heap.size)
    (hm : ∀ i, i < 8 → m i < 18446744073709551616) (hs : see < 18446744073709551616) (hnx : xs.length ≤ 9223372036854775807)
    (b0 : w.heap[B0]? = some (.cells #[.slice A xs.length c] 22 (0, 0))) (b1 : w.heap[B1]? = some (.cells (arr8 (mv m)) 25 (0, 0))) (b2 : w.heap[B2]? = some (.cells #[.int .u64 (see : Int)] 24 (0, 0)))
    (hr : Reads w n₀ A (xs.flatMap evEnc)) :
    SeqStopsK Fence.wide n Tryd.prog 29 #[.pointer (some ⟨B0, 0, none⟩), .pointer (some ⟨B1, 0, none⟩), .pointer (some ⟨B2, 0, none⟩)] (fun e : Ev => #[.agg #[.int .i64 e.channel, .int .i64 e.kind, .int .i64 e.n, .string e.s]])
      (KpLow n₀ B1 B2) (fun ys => ys = lowS m see xs) (fun _ => True) xs.length w := by
  intro l J Jx W hW hJ hJx hY h0
  have c0 : W.cell? ⟨B0, 0, none⟩ = some (.slice A xs.length c) := cell_of_blk (below_blk hW b0) rfl
  have HR := Lib.hid (hr.below (hW.mono hn₀))
  have hn0 : n₀ ≤ W.heap.size := Nat.le_trans hn₀ hW.size
  have HJ := Lib.hid hJ
  have HJx := Lib.hid hJx
  have HY := Lib.hid hY
  have HS := Lib.hid (sees_any m · see · hm hs)
  have D1 := Lib.hid (below_blk hW b1)
  have D2 := Lib.hid (below_blk hW b2)
  clear hJ hJx hY hr b0 b1 b2 hW hm hs hn₀
  refine callsIn_of_wp Tryd.func29 rfl trivial ?_ rfl
  simp only [Tryd.ntmps29, List.size_toArray, List.length_cons, List.length_nil, Nat.reduceAdd, Nat.reduceSub, Array.replicate_succ, Array.replicate_zero, List.push_toArray, List.append_toArray, List.nil_append, List.cons_append]
  gi_wp2
  gi_loopw [9] (fun i wr => ∃ (k : Nat), k ≤ xs.length ∧ i = .int .i64 k ∧ Hid (J (lowS m see (xs.take k)) wr) ∧ Below n₀ W wr ∧ wr.heap[B1]? = some (.cells (arr8 (mv m)) 25 (0, 0)) ∧ wr.heap[B2]? = some (.cells #[.int .u64 (see : Int)] 24 (0, 0)))
    (fun i wr => xs.length - (intOf i).toNat)
  case atStart => exact ⟨0, by omega, rfl, Lib.hid h0, Below.refl _ _, D1.out, D2.out⟩
  case round =>
    obtain ⟨k, hk, rfl, HJk, hB, d1, d2⟩ := hrel
    by_cases hlt : k < xs.length
    · obtain ⟨x, hx⟩ : ∃ x, xs[k]? = some x := ⟨_, List.getElem?_eq_getElem hlt⟩
      obtain ⟨ad, rfl, hadb, hcell⟩ := (HR.out.below hB).at (flatMap_ne (K := 4) (fun a => rfl) (by omega) hx)
      obtain ⟨hc0, hc1, hc2, hc3⟩ := ev_at hcell hx
      have HX := Lib.hid hx
      have e1 : Hid (wr.heap[B1]? = some (.cells (arr8 (mv m)) 25 (0, 0))) := Lib.hid d1
      have e2 : Hid (wr.heap[B2]? = some (.cells #[.int .u64 (see : Int)] 24 (0, 0))) := Lib.hid d2
      have q0 : wr.cell? ⟨B1, 0, none⟩ = some (mv m 0) := cell_of_blk d1 rfl
      have q1 : wr.cell? ⟨B1, 1, none⟩ = some (mv m 1) := cell_of_blk d1 rfl
      have q2 : wr.cell? ⟨B1, 2, none⟩ = some (mv m 2) := cell_of_blk d1 rfl
      have q3 : wr.cell? ⟨B1, 3, none⟩ = some (mv m 3) := cell_of_blk d1 rfl
      have q4 : wr.cell? ⟨B1, 4, none⟩ = some (mv m 4) := cell_of_blk d1 rfl
      have q5 : wr.cell? ⟨B1, 5, none⟩ = some (mv m 5) := cell_of_blk d1 rfl
      have q6 : wr.cell? ⟨B1, 6, none⟩ = some (mv m 6) := cell_of_blk d1 rfl
      have q7 : wr.cell? ⟨B1, 7, none⟩ = some (mv m 7) := cell_of_blk d1 rfl
      have l1 := blk_lt d1
      have s0 : wr.cell? ⟨B2, 0, none⟩ = some (.int .u64 (see : Int)) := cell_of_blk d2 rfl
      have l2 := blk_lt d2
      have hsz := hB.size
      have HB := Lib.hid hB
      have hll := low_len m see (xs.take k)
      rw [List.length_take] at hll
      clear hx hcell hB d1 d2 c0 h0
      cases hse : seesB m x.channel see
      · have hf := HS.out x.channel
        rw [hse] at hf
        have HN := Lib.hid (low_no HX.out hse)
        clear hse
        gi_wp2_with (refine ⟨trivial, ?_⟩; gi_at_call 27; refine (callsIn_wide.2 (hf _)).mono ?_; rintro e w' ⟨rfl, rfl⟩)
        refine ⟨(fun f hf => by cases hf), ?_⟩
        gi_wp2
        go_roundw
        case rel => exact ⟨k + 1, by omega, by go_num, by rw [HN.out]; exact Lib.hid (HJ.out _ _ _ none (HJ.out _ _ _ none HJk.out (World.grownBy_alloc _ _ none) (by simp)) (World.grownBy_alloc _ _ none) (by simp)), (HB.out.alloc (by omega) _).alloc (by simp; omega) _, blk_alloc (blk_alloc e1.out _) _, blk_alloc (blk_alloc e2.out _) _⟩
        case measure => simp [intOf]; omega
      · have hf := HS.out x.channel
        rw [hse] at hf
        have HN := Lib.hid (low_yes HX.out hse)
        have hJ2 := HJ.out _ _ _ none (HJ.out _ _ _ none HJk.out (World.grownBy_alloc wr (.cells #[.int .i64 x.channel, .int .i64 x.kind, .int .i64 x.n, .string x.s] 38) none) (by simp)) (World.grownBy_alloc _ (.cells (arr8 (mv m)) 25) none) (by simp)
        obtain ⟨fn, tmps, assign, body, hy, hR⟩ := HY.out _ x _ hJ2 (by omega)
        have g1 := Lib.hid (blk_alloc (blk_alloc e1.out (.cells #[.int .i64 x.channel, .int .i64 x.kind, .int .i64 x.n, .string x.s] 38)) (.cells (arr8 (mv m)) 25))
        have g2 := Lib.hid (blk_alloc (blk_alloc e2.out (.cells #[.int .i64 x.channel, .int .i64 x.kind, .int .i64 x.n, .string x.s] 38)) (.cells (arr8 (mv m)) 25))
        have HB2 := Lib.hid ((HB.out.alloc (by omega) (.cells #[.int .i64 x.channel, .int .i64 x.kind, .int .i64 x.n, .string x.s] 38)).alloc (by simp; omega) (.cells (arr8 (mv m)) 25))
        clear hse hJ2
        gi_wp2_with (refine ⟨trivial, ?_⟩; gi_at_call 27; refine (callsIn_wide.2 (hf _)).mono ?_; rintro e w' ⟨rfl, rfl⟩)
        refine hR.mono ?_
        rintro e W3 (⟨rfl, hJ3, hk3⟩ | ⟨rfl, hJx3⟩)
        · obtain ⟨k1, k2, k3⟩ := hk3
          have K1 := Lib.hid k1
          have K2 := Lib.hid (k2.trans g1.out)
          have K3 := Lib.hid (k3.trans g2.out)
          have HJ3 := Lib.hid hJ3
          clear k1 k2 k3 hJ3
          gi_wp2
          go_roundw
          case rel => exact ⟨k + 1, by omega, by go_num, by rw [HN.out]; exact HJ3, HB2.out.trans K1.out, K2.out, K3.out⟩
          case measure => simp [intOf]; omega
        · gi_wp2
          refine bodyPost_ret (results_none rfl _ _ _) rfl ?_
          exact ⟨⟨_, rfl⟩, .inr ⟨_, trivial, hJx3⟩⟩
    · obtain rfl : k = xs.length := by omega
      have HJk' := HJk.out
      rw [List.take_length] at HJk'
      gi_wp2
      go_end0
      exact ⟨⟨_, rfl⟩, .inl ⟨_, rfl, HJk'⟩⟩
set_option maxRecDepth 100000 in
set_option maxHeartbeats 4000000 in
theorem low_any (m : Nat → Nat) (see : Nat) (xs : List Ev) (A : Option Addr) (c : Nat) (w : World) (hm : ∀ i, i < 8 → m i < 18446744073709551616) (hs : see < 18446744073709551616) (hr : Reads w w.heap.size A (xs.flatMap evEnc)) (hn : (xs.length + 1) * 40 ≤ 140737488355328) :
    Calls Tryd.prog 11 #[.slice A xs.length c, .agg (arr8 (mv m)), .int .u64 (see : Int)] w fun e w' => ∃ v, e = .returned v ∧ w'.ownsRow w.heap.size 38 4 v (lowS m see xs).length ((lowS m see xs).flatMap evEnc) ∧ Below w.heap.size w w' := by
  obtain ⟨i0, hi, hz0, hz1, hz2⟩ := info_parts infoEv
  refine (callsIn_wide (n := 9)).1 ?_
  refine callsIn_of_wp_marks Tryd.func11 rfl trivial ?_ rfl
  simp only [Tryd.ntmps11, List.size_toArray, List.length_cons, List.length_nil, Nat.reduceAdd, Nat.reduceSub, Array.replicate_succ, Array.replicate_zero, List.push_toArray, List.append_toArray, List.nil_append, List.cons_append]
  have q0 : ∀ o : Obj, ((w.alloc (.cells (arr8 (mv m)) 25)).alloc o).cell? ⟨w.heap.size, 0, none⟩ = some (mv m 0) := fun o => cell_of_blk (blk_alloc (heap_alloc_new w _) o) rfl
  have q1 : ∀ o : Obj, ((w.alloc (.cells (arr8 (mv m)) 25)).alloc o).cell? ⟨w.heap.size, 1, none⟩ = some (mv m 1) := fun o => cell_of_blk (blk_alloc (heap_alloc_new w _) o) rfl
  have q2 : ∀ o : Obj, ((w.alloc (.cells (arr8 (mv m)) 25)).alloc o).cell? ⟨w.heap.size, 2, none⟩ = some (mv m 2) := fun o => cell_of_blk (blk_alloc (heap_alloc_new w _) o) rfl
  have q3 : ∀ o : Obj, ((w.alloc (.cells (arr8 (mv m)) 25)).alloc o).cell? ⟨w.heap.size, 3, none⟩ = some (mv m 3) := fun o => cell_of_blk (blk_alloc (heap_alloc_new w _) o) rfl
  have q4 : ∀ o : Obj, ((w.alloc (.cells (arr8 (mv m)) 25)).alloc o).cell? ⟨w.heap.size, 4, none⟩ = some (mv m 4) := fun o => cell_of_blk (blk_alloc (heap_alloc_new w _) o) rfl
  have q5 : ∀ o : Obj, ((w.alloc (.cells (arr8 (mv m)) 25)).alloc o).cell? ⟨w.heap.size, 5, none⟩ = some (mv m 5) := fun o => cell_of_blk (blk_alloc (heap_alloc_new w _) o) rfl
  have q6 : ∀ o : Obj, ((w.alloc (.cells (arr8 (mv m)) 25)).alloc o).cell? ⟨w.heap.size, 6, none⟩ = some (mv m 6) := fun o => cell_of_blk (blk_alloc (heap_alloc_new w _) o) rfl
  have q7 : ∀ o : Obj, ((w.alloc (.cells (arr8 (mv m)) 25)).alloc o).cell? ⟨w.heap.size, 7, none⟩ = some (mv m 7) := fun o => cell_of_blk (blk_alloc (heap_alloc_new w _) o) rfl
  gi_wp2_with (refine ⟨trivial, ?_⟩; gi_at_call 19; refine (callsIn_wide.2 (low_fn m see _ _ _ _)).mono ?_; rintro e w' ⟨rfl, rfl⟩)
  clear q0 q1 q2 q3 q4 q5 q6 q7
  obtain ⟨W5, hW5⟩ : ∃ W5, W5 = (((((w.alloc (.cells (arr8 (mv m)) 25)).alloc (.cells #[.slice none 0 0] 22)).alloc (.cells #[.slice A xs.length c] 22)).alloc (.cells (arr8 (mv m)) 25)).alloc (.cells #[.int .u64 (see : Int)] 24)) := ⟨_, rfl⟩
  rw [← hW5]
  have z5 : W5.heap.size = w.heap.size + 5 := by rw [hW5]; simp
  have hB5 : Below w.heap.size w W5 := by
    rw [hW5]
    exact (((((Below.refl _ w).alloc (Nat.le_refl _) _).alloc (by simp) _).alloc (by simp; omega) _).alloc (by simp; omega) _).alloc (by simp; omega) _
  have bO : Boxed W5 (w.heap.size + 1) 22 (.slice none 0 0) := by
    rw [hW5]
    exact blk_alloc (blk_alloc (blk_alloc (heap_new_at _ _ _ (by simp)) _) _) _
  have d0 : W5.heap[w.heap.size + 1 + 1]? = some (.cells #[.slice A xs.length c] 22 (0, 0)) := by
    rw [hW5]
    exact blk_alloc (blk_alloc (heap_new_at _ _ _ (by simp)) _) _
  have d1 : W5.heap[w.heap.size + 1 + 1 + 1]? = some (.cells (arr8 (mv m)) 25 (0, 0)) := by
    rw [hW5]
    exact blk_alloc (heap_new_at _ _ _ (by simp)) _
  have d2 : W5.heap[w.heap.size + 1 + 1 + 1 + 1]? = some (.cells #[.int .u64 (see : Int)] 24 (0, 0)) := by
    rw [hW5]
    exact heap_new_at _ _ _ (by simp)
  clear hW5
  refine wpIn_rangeFunc_ownH rfl (by omega) (gf := 29) (lb := #[.pointer (some ⟨w.heap.size + 1 + 1, 0, none⟩), .pointer (some ⟨w.heap.size + 1 + 1 + 1, 0, none⟩), .pointer (some ⟨w.heap.size + 1 + 1 + 1 + 1, 0, none⟩)]) rfl trivial (enters_of Tryd.func29 (by kernel_rfl) rfl)
    (low1_stops 8 (by omega) m see xs A c w.heap.size _ _ _ W5 (by omega) hm hs (by omega) d0 d1 d2 (hr.below hB5))
    (fun h k => ⟨h.1.trans k.1, k.2.1.trans h.2.1, k.2.2.trans h.2.2⟩)
    (fun W l o o' hl h hc hw => ⟨belowK_b (w := W5) (by omega) W l o o' hl h hc hw, World.putObj_heap_other (by omega), World.putObj_heap_other (by omega)⟩)
    (Below.refl _ _) (fun _ => rfl)
    (fun pre W => (∃ v, Boxed W (w.heap.size + 1) 22 v ∧ W.ownsRow w.heap.size 38 4 v pre.length (pre.flatMap evEnc) ∧ True) ∧ (W.heap[w.heap.size + 1 + 1 + 1]? = some (.cells (arr8 (mv m)) 25 (0, 0)) ∧ W.heap[w.heap.size + 1 + 1 + 1 + 1]? = some (.cells #[.int .u64 (see : Int)] 24 (0, 0))) ∧ Below w.heap.size w W)
    (fun _ _ _ => False)
    (OwnFrom.and (Own.from (holdsRow_own w.heap.size (w.heap.size + 1) 22 38 4 (fun pre : List Ev => pre.length) (fun pre => pre.flatMap evEnc) (fun _ _ => True)) _) (OwnFrom.and (Own.from (own_and (cells_own _ _ _) (cells_own _ _ _)) _) (ownFrom_below (Nat.le_refl _) (by omega))))
    (fun _ _ _ _ _ hs _ _ => hs)
    ⟨⟨_, bO, World.ownsRow_nil _ _ _ _, trivial⟩, ⟨d1, d2⟩, hB5⟩
    (fun x a' W => ∃ Bx, W.heap[Bx]? = some (.cells #[.int .i64 x.channel, .int .i64 x.kind, .int .i64 x.n, .string x.s] 38 (0, 0)) ∧ a' = { tmps := #[.slice A xs.length c, .agg (arr8 (mv m)), .int .u64 (see : Int), undef, .pointer (some ⟨w.heap.size, 0, none⟩), undef, .slice none 0 0, .pointer (some ⟨w.heap.size + 1, 0, none⟩), .pointer (some ⟨Bx, 0, none⟩), .slice A xs.length c, .agg #[mv m 0, mv m 1, mv m 2, mv m 3, mv m 4, mv m 5, mv m 6, mv m 7], .int .u64 (see : Int), .func (.func 29) #[] #[.pointer (some ⟨w.heap.size + 1 + 1, 0, none⟩), .pointer (some ⟨w.heap.size + 1 + 1 + 1, 0, none⟩), .pointer (some ⟨w.heap.size + 1 + 1 + 1 + 1, 0, none⟩)], .agg #[.int .i64 x.channel, .int .i64 x.kind, .int .i64 x.n, .string x.s], undef, undef, undef, undef, undef], defers := [] })
    (fun x a' _ X Y row hs hg hr => by obtain ⟨Bx, h1, h2⟩ := hs; exact ⟨Bx, cells_own (β := Unit) Bx _ _ () X Y row h1 hg (fun r e => (hr r e).2), h2⟩)
    ?assign ?body ?done ?stop
  case assign =>
    rintro l pre x W K ⟨⟨v, hv, hrow, _⟩, ⟨m1, m2⟩, hB⟩ hK
    have hsz := hB.size
    gi_wp2
    exact hK _ _ ((KeepsOthers.alloc _ _).from _) ⟨(Below.refl _ W).alloc hsz _, Below.heap_alloc _ _ _ (blk_lt m1), Below.heap_alloc _ _ _ (blk_lt m2)⟩ ⟨⟨v, hv.alloc _, hrow.alloc _, trivial⟩, ⟨blk_alloc m1 _, blk_alloc m2 _⟩, hB.alloc hsz _⟩ ⟨W.heap.size, heap_alloc_new W _, rfl⟩
  case body =>
    rintro l pre x a' W hl _ ⟨⟨v, hv, hrow, _⟩, ⟨m1, m2⟩, hB⟩ ⟨Bx, bX, rfl⟩ hlt
    have hc := hv.cell
    have e0 : W.cell? ⟨Bx, 0, none⟩ = some (.int .i64 x.channel) := cell_of_blk bX rfl
    have e1 : W.cell? ⟨Bx, 1, none⟩ = some (.int .i64 x.kind) := cell_of_blk bX rfl
    have e2 : W.cell? ⟨Bx, 2, none⟩ = some (.int .i64 x.n) := cell_of_blk bX rfl
    have e3 : W.cell? ⟨Bx, 3, none⟩ = some (.string x.s) := cell_of_blk bX rfl
    have M1 := Lib.hid m1
    have M2 := Lib.hid m2
    have hsz := hB.size
    have HB := Lib.hid hB
    clear m1 m2 bX hB hr hB5 bO d0 d1 d2 hm hs
    gi_wp2_with (gi_at_builtin; refine wpListIn_append_own _ rfl _ _ 22 rfl w.heap.size 38 i0 _ 4 40 Tryd.underlying22 hi hz0 hz1 hz2 rfl (by decide) _ _ _ rfl (hrow.alloc _) ⟨W.heap.size, 0, none⟩ 1 1 [.int .i64 x.channel, .int .i64 x.kind, .int .i64 x.n, .string x.s] rfl rfl (World.news_of_block (heap_new_at _ _ _ rfl)) (by simp [Value.oneCell']) (by unfold maxLen; omega) (by omega) (by simp; omega) ?_; intro v' w1 hown' hgrow _; obtain ⟨g', cap', rfl⟩ := ownsRow_succ hown'; obtain ⟨hv1, hv2, hr2, hk2, hb2⟩ := hv.appended (by decide) hrow hsz (by omega) hown' hgrow; have hkA := Lib.hid (keep_blk (B := w.heap.size + 1) (v' := .slice (some ⟨g', 0, none⟩) (pre.length + 1) cap') M1.out hrow (by decide) (by omega) hgrow); have hkB := Lib.hid (keep_blk (B := w.heap.size + 1) (v' := .slice (some ⟨g', 0, none⟩) (pre.length + 1) cap') M2.out hrow (by decide) (by omega) hgrow); have hc1 := hv1.cell; have hf1 := hv1.frozen)
    exact ⟨hk2.from _, ⟨hb2, hkA.out.trans M1.out.symm, hkB.out.trans M2.out.symm⟩, ⟨_, hv2, by simpa [evEnc] using hr2, trivial⟩, ⟨hkA.out, hkB.out⟩, HB.out.trans hb2⟩
  case done =>
    rintro D ys W hD rfl ⟨⟨v, hv, hrow, _⟩, _, hB⟩ hK
    have hc := hv.cell
    gi_wp2
    refine ⟨by simp, .inl ⟨_, _, rfl, run_takeDeferred hK, ?_⟩⟩
    exact ⟨_, results_tmp rfl _ _ _, v, rfl, ownsRow_putObj hrow _ hK rfl, hB.trans (belowK_b (w := w) (Nat.le_refl _) W D _ _ (by omega) hK rfl rfl)⟩
  case stop =>
    rintro D c pre W _ _ h _
    exact h.elim
end Go.Proofs.YthgcadikinfdiaaDoor
