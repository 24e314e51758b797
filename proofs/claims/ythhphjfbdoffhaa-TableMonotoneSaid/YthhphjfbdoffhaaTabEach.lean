/-
  Chapter 04: Fields.
-/
import Derived.Test.YthhphjfbdoffhaaTabFields
set_option linter.unusedVariables false
set_option linter.unusedSimpArgs false
namespace Go.Proofs.Ythhphjfbdoffhaa
open Go.ChangeShapes Go.WideShapes Go.ChangeAt Go.RowKit Go.Shelf

theorem FdAt.below {n : Nat} {w w' : World} {a : Addr} {x : Fd} (h : FdAt w a x) (hb : Below n w w') (ha : a.block < n) : FdAt w' a x :=
  ⟨(hb.cell ha).trans h.c0, (hb.cell (p := ⟨a.block, _, none⟩) ha).trans h.c1, (hb.cell (p := ⟨a.block, _, none⟩) ha).trans h.c2, (hb.cell (p := ⟨a.block, _, none⟩) ha).trans h.c3, (hb.cell (p := ⟨a.block, _, none⟩) ha).trans h.c4, (hb.cell (p := ⟨a.block, _, none⟩) ha).trans h.c5, (hb.cell (p := ⟨a.block, _, none⟩) ha).trans h.c6, (hb.cell (p := ⟨a.block, _, none⟩) ha).trans h.c7⟩
theorem cells_own {β : Type} (B : Nat) (cs : Array Value) (t : TypeId) : Own (fun (_ : β) W => W.heap[B]? = some (.cells cs t (0, 0))) := fun s X Y row hs hg hr =>
  blk_grown hs hg fun e => by
    obtain ⟨o, ho, hc⟩ := hr B e
    rw [show X.heap[B]? = _ from hs] at ho
    cases ho
    cases hc
/-- What a body that appends to a box of its own keeps: a block of another type. -/
theorem keep_blk {W w1 : World} {n₀ B b : Nat} {e tc : TypeId} {size k : Nat} {cs : Array Value} {v v' : Value} {xs : List Value} {tmp : Obj} (hb : W.heap[b]? = some (.cells cs tc (0, 0))) (hrow : W.ownsRow n₀ e size v k xs) (hte : e ≠ tc) (hne : b ≠ B) (hgrow : (W.alloc tmp).grownBy w1 v.ownBlock) : (w1.setCell ⟨B, 0, none⟩ v').heap[b]? = some (.cells cs tc (0, 0)) :=
  blk_far (blk_grown (blk_alloc hb tmp) hgrow fun e' => own_blk_ne hrow hb hte e'.symm) hne v'
def KpTab (n₀ B0 : Nat) (W W' : World) : Prop := Below n₀ W W' ∧ W'.heap[B0]? = W.heap[B0]?
theorem each_fn (p : Value) (w : World) (hp : p = .pointer none ∨ ∃ a, p = .pointer (some a)) : Calls Try.prog 62 #[p] w fun e w' =>
    e = .returned (.func (.func 73) #[] #[.pointer (some ⟨w.heap.size, 0, none⟩)]) ∧ w' = w.alloc (.cells #[p] 45) := by
  rcases hp with rfl | ⟨a, rfl⟩
  all_goals
    go_enter Try.func62, Try.ntmps62
    go_wp2
    go_ret
    exact ⟨rfl, rfl⟩
attribute [local go_sem] Oper.semAt_some
set_option maxRecDepth 100000 in
set_option maxHeartbeats 4000000 in
theorem each1_stops (n : Nat) (hn : 1 ≤ n) (p : Value) (F : List Fd) (n₀ B0 : Nat) (w : World) (hn₀ : n₀ ≤ w.heap.size) (hnx : F.length ≤ 9223372036854775807)
    (b0 : w.heap[B0]? = some (.cells #[p] 45 (0, 0))) (hL : ∀ W, Below n₀ w W → Calls Try.prog 41 #[p] W (Ret (.int .i64 (F.length : Int)) W))
    (hT : ∀ (i : Nat) (x : Fd), F[i]? = some x → ∃ tb ad c, p = .pointer (some ⟨tb, 0, none⟩) ∧ tb < n₀ ∧ w.cell? ⟨tb, 1, none⟩ = some (.slice (some ad) F.length c) ∧ ad.block < n₀ ∧ FdAt w (ad.add (i * 8)) x) :
    SeqStopsK Fence.wide n Try.prog 73 #[.pointer (some ⟨B0, 0, none⟩)] (fun f : Fd => #[.agg #[.int .i64 f.1.kind, .int .i64 f.1.n, .string f.1.s, .int .u64 (f.1.label : Int), .int .i64 f.2.kind, .int .i64 f.2.n, .string f.2.s, .int .u64 (f.2.label : Int)]])
      (KpTab n₀ B0) (fun ys => ys = F) (fun _ => True) F.length w := by
  intro l J Jx W hW hJ hJx hY h0
  have c0 : W.cell? ⟨B0, 0, none⟩ = some p := cell_of_blk (below_blk hW b0) rfl
  have hl := hL W (hW.mono hn₀)
  have hn0 : n₀ ≤ W.heap.size := Nat.le_trans hn₀ hW.size
  have HJ := Lib.hid hJ
  have HJx := Lib.hid hJx
  have HY := Lib.hid hY
  have HLn := Lib.hid hl
  have HWn := Lib.hid (hW.mono hn₀)
  have D0 := Lib.hid (below_blk hW b0)
  have HT := Lib.hid hT
  clear hJ hJx hY b0 hW hl hL hT hn₀
  refine callsIn_of_wp Try.func73 rfl trivial ?_ rfl
  simp only [Try.ntmps73, List.size_toArray, List.length_cons, List.length_nil, Nat.reduceAdd, Nat.reduceSub, Array.replicate_succ, Array.replicate_zero, List.push_toArray, List.append_toArray, List.nil_append, List.cons_append]
  gi_wp2_with (refine ⟨trivial, ?_⟩; gi_at_call 41; refine (callsIn_wide.2 HLn.out).mono ?_; rintro e w' ⟨rfl, rfl⟩)
  gi_loopw [6] (fun i wr => ∃ (k : Nat), k ≤ F.length ∧ i = .int .i64 k ∧ Hid (J (F.take k) wr) ∧ Below n₀ W wr ∧ wr.heap[B0]? = some (.cells #[p] 45 (0, 0)))
    (fun i wr => F.length - (intOf i).toNat)
  case atStart => exact ⟨0, by omega, rfl, Lib.hid h0, Below.refl _ _, D0.out⟩
  case round =>
    obtain ⟨k, hk, rfl, HJk, hB, d0⟩ := hrel
    by_cases hlt : k < F.length
    · obtain ⟨x, hx⟩ : ∃ x, F[k]? = some x := ⟨_, List.getElem?_eq_getElem hlt⟩
      obtain ⟨tb, ad, c, rfl, htb, hc, hab, hf⟩ := HT.out k x hx
      have hBw := HWn.out.trans hB
      have hlt' : (k : Int) < (F.length : Int) := by omega
      have hk0 : (0 : Int) ≤ k := by omega
      have hab' : (ad.add (k * 8)).block < n₀ := by rw [block_add']; exact hab
      have c1 := (hBw.cell (p := ⟨tb, 1, none⟩) htb).trans hc
      obtain ⟨x0, x1, x2, x3, x4, x5, x6, x7⟩ := hf.below hBw hab'
      have q0 : wr.cell? ⟨B0, 0, none⟩ = some (.pointer (some ⟨tb, 0, none⟩)) := cell_of_blk d0 rfl
      have hsz := hB.size
      have HB := Lib.hid hB
      have E0 := Lib.hid d0
      have hll : (F.take k).length = k := by rw [List.length_take]; omega
      have HN := Lib.hid (show F.take (k + 1) = F.take k ++ [x] by rw [List.take_add_one, hx]; rfl)
      obtain ⟨fn, tmps, assign, body, hy, hR⟩ := HY.out _ x _ HJk.out (by omega)
      have HR := Lib.hid hR
      clear hx hB d0 c0 h0 hc hf hBw hR
      gi_wp2
      refine HR.out.mono ?_
      rintro e W3 (⟨rfl, hJ3, hk3⟩ | ⟨rfl, hJx3⟩)
      · obtain ⟨k1, k2⟩ := hk3
        have K1 := Lib.hid k1
        have K2 := Lib.hid (k2.trans E0.out)
        have HJ3 := Lib.hid hJ3
        clear k1 k2 hJ3
        gi_wp2
        go_roundw
        case rel => exact ⟨k + 1, by omega, by go_num, by rw [HN.out]; exact HJ3, HB.out.trans K1.out, K2.out⟩
        case measure => simp [intOf]; omega
      · gi_wp2
        refine bodyPost_ret (results_none rfl _ _ _) rfl ?_
        exact ⟨⟨_, rfl⟩, .inr ⟨_, trivial, hJx3⟩⟩
    · obtain rfl : k = F.length := by omega
      have HJk' := HJk.out
      rw [List.take_length] at HJk'
      gi_wp2
      go_end0
      exact ⟨⟨_, rfl⟩, .inl ⟨_, rfl, HJk'⟩⟩
set_option maxRecDepth 100000 in
set_option maxHeartbeats 4000000 in
theorem fields_any (p : Value) (F : List Fd) (w : World) (hp : p = .pointer none ∨ ∃ a, p = .pointer (some a)) (hn : (F.length + 1) * 80 ≤ 140737488355328)
    (hL : ∀ W, Below w.heap.size w W → Calls Try.prog 41 #[p] W (Ret (.int .i64 (F.length : Int)) W))
    (hT : ∀ (i : Nat) (x : Fd), F[i]? = some x → ∃ tb ad c, p = .pointer (some ⟨tb, 0, none⟩) ∧ tb < w.heap.size ∧ w.cell? ⟨tb, 1, none⟩ = some (.slice (some ad) F.length c) ∧ ad.block < w.heap.size ∧ FdAt w (ad.add (i * 8)) x) :
    Calls Try.prog 37 #[p] w fun e w' => ∃ v, e = .returned v ∧ w'.ownsRow w.heap.size 59 8 v F.length (F.flatMap fdEnc) ∧ Below w.heap.size w w' := by
  obtain ⟨i0, hi, hz0, hz1, hz2⟩ := info_parts infoFd
  refine (callsIn_wide (n := 9)).1 ?_
  refine callsIn_of_wp_marks Try.func37 rfl trivial ?_ rfl
  simp only [Try.ntmps37, List.size_toArray, List.length_cons, List.length_nil, Nat.reduceAdd, Nat.reduceSub, Array.replicate_succ, Array.replicate_zero, List.push_toArray, List.append_toArray, List.nil_append, List.cons_append]
  gi_wp2_with (refine ⟨trivial, ?_⟩; gi_at_call 62; refine (callsIn_wide.2 (each_fn p _ hp)).mono ?_; rintro e w' ⟨rfl, rfl⟩)
  obtain ⟨W5, hW5⟩ : ∃ W5, W5 = ((w.alloc (.cells #[.slice none 0 0] 48)).alloc (.cells #[p] 45)) := ⟨_, rfl⟩
  rw [← hW5]
  have z5 : W5.heap.size = w.heap.size + 2 := by rw [hW5]; simp
  have hB5 : Below w.heap.size w W5 := by
    rw [hW5]
    exact ((Below.refl _ w).alloc (Nat.le_refl _) _).alloc (by simp) _
  have bO : Boxed W5 w.heap.size 48 (.slice none 0 0) := by
    rw [hW5]
    exact blk_alloc (heap_new_at _ _ _ rfl) _
  have d0 : W5.heap[w.heap.size + 1]? = some (.cells #[p] 45 (0, 0)) := by
    rw [hW5]
    exact heap_new_at _ _ _ (by simp)
  have hT5 : ∀ (i : Nat) (x : Fd), F[i]? = some x → ∃ tb ad c, p = .pointer (some ⟨tb, 0, none⟩) ∧ tb < w.heap.size ∧ W5.cell? ⟨tb, 1, none⟩ = some (.slice (some ad) F.length c) ∧ ad.block < w.heap.size ∧ FdAt W5 (ad.add (i * 8)) x := by
    intro i x hx
    obtain ⟨tb, ad, c, h1, h2, h3, h4, h5⟩ := hT i x hx
    have h4' : (ad.add (i * 8)).block < w.heap.size := by rw [block_add']; exact h4
    exact ⟨tb, ad, c, h1, h2, (hB5.cell h2).trans h3, h4, h5.below hB5 h4'⟩
  have hL5 : ∀ W, Below w.heap.size W5 W → Calls Try.prog 41 #[p] W (Ret (.int .i64 (F.length : Int)) W) := fun W h => hL W (hB5.trans h)
  clear hW5 hT hL
  refine wpIn_rangeFunc_ownH rfl (by omega) (gf := 73) (lb := #[.pointer (some ⟨w.heap.size + 1, 0, none⟩)]) rfl trivial (enters_of Try.func73 (by kernel_rfl) rfl)
    (each1_stops 8 (by omega) p F w.heap.size _ W5 (by omega) (by omega) d0 hL5 hT5)
    (fun h k => ⟨h.1.trans k.1, k.2.trans h.2⟩)
    (fun W l o o' hl h hc hw => ⟨belowK_b (w := W5) (by omega) W l o o' hl h hc hw, World.putObj_heap_other (by omega)⟩)
    (Below.refl _ _) (fun _ => rfl)
    (fun pre W => (∃ v, Boxed W w.heap.size 48 v ∧ W.ownsRow w.heap.size 59 8 v pre.length (pre.flatMap fdEnc) ∧ True) ∧ W.heap[w.heap.size + 1]? = some (.cells #[p] 45 (0, 0)) ∧ Below w.heap.size w W)
    (fun _ _ _ => False)
    (OwnFrom.and (Own.from (holdsRow_own w.heap.size w.heap.size 48 59 8 (fun pre : List Fd => pre.length) (fun pre => pre.flatMap fdEnc) (fun _ _ => True)) _) (OwnFrom.and (Own.from (cells_own _ _ _) _) (ownFrom_below (Nat.le_refl _) (by omega))))
    (fun _ _ _ _ _ hs _ _ => hs)
    ⟨⟨_, bO, World.ownsRow_nil _ _ _ _, trivial⟩, d0, hB5⟩
    (fun x a' W => ∃ Bx, W.heap[Bx]? = some (.cells #[.int .i64 x.1.kind, .int .i64 x.1.n, .string x.1.s, .int .u64 (x.1.label : Int), .int .i64 x.2.kind, .int .i64 x.2.n, .string x.2.s, .int .u64 (x.2.label : Int)] 59 (0, 0)) ∧ a' = { tmps := #[p, undef, .slice none 0 0, .pointer (some ⟨w.heap.size, 0, none⟩), .pointer (some ⟨Bx, 0, none⟩), p, .func (.func 73) #[] #[.pointer (some ⟨w.heap.size + 1, 0, none⟩)], .agg #[.int .i64 x.1.kind, .int .i64 x.1.n, .string x.1.s, .int .u64 (x.1.label : Int), .int .i64 x.2.kind, .int .i64 x.2.n, .string x.2.s, .int .u64 (x.2.label : Int)], undef, undef, undef, undef, undef], defers := [] })
    (fun x a' _ X Y row hs hg hr => by obtain ⟨Bx, h1, h2⟩ := hs; exact ⟨Bx, cells_own (β := Unit) Bx _ _ () X Y row h1 hg (fun r e => (hr r e).2), h2⟩)
    ?assign ?body ?done ?stop
  case assign =>
    rintro l pre x W K ⟨⟨v, hv, hrow, _⟩, m1, hB⟩ hK
    have hsz := hB.size
    gi_wp2
    exact hK _ _ ((KeepsOthers.alloc _ _).from _) ⟨(Below.refl _ W).alloc hsz _, Below.heap_alloc _ _ _ (blk_lt m1)⟩ ⟨⟨v, hv.alloc _, hrow.alloc _, trivial⟩, blk_alloc m1 _, hB.alloc hsz _⟩ ⟨W.heap.size, heap_alloc_new W _, rfl⟩
  case body =>
    rintro l pre x a' W hl _ ⟨⟨v, hv, hrow, _⟩, m1, hB⟩ ⟨Bx, bX, rfl⟩ hlt
    have hc := hv.cell
    have e0 := cell_of_blk (i := 0) bX rfl
    have e1 := cell_of_blk (i := 1) bX rfl
    have e2 := cell_of_blk (i := 2) bX rfl
    have e3 := cell_of_blk (i := 3) bX rfl
    have e4 := cell_of_blk (i := 4) bX rfl
    have e5 := cell_of_blk (i := 5) bX rfl
    have e6 := cell_of_blk (i := 6) bX rfl
    have e7 := cell_of_blk (i := 7) bX rfl
    have M1 := Lib.hid m1
    have hsz := hB.size
    have HB := Lib.hid hB
    clear m1 bX hB hB5 bO d0 hL5 hT5
    gi_wp2_with (gi_at_builtin; refine wpListIn_append_own _ rfl _ _ 48 rfl w.heap.size 59 i0 _ 8 80 Try.underlying48 hi hz0 hz1 hz2 rfl (by decide) _ _ _ rfl (hrow.alloc _) ⟨W.heap.size, 0, none⟩ 1 1 [.int .i64 x.1.kind, .int .i64 x.1.n, .string x.1.s, .int .u64 (x.1.label : Int), .int .i64 x.2.kind, .int .i64 x.2.n, .string x.2.s, .int .u64 (x.2.label : Int)] rfl rfl (World.news_of_block (heap_new_at _ _ _ rfl)) (by simp [Value.oneCell']) (by unfold maxLen; omega) (by omega) (by simp; omega) ?_; intro v' w1 hown' hgrow _; obtain ⟨g', cap', rfl⟩ := ownsRow_succ hown'; obtain ⟨hv1, hv2, hr2, hk2, hb2⟩ := hv.appended (by decide) hrow hsz (by omega) hown' hgrow; have hkA := Lib.hid (keep_blk (B := w.heap.size) (v' := .slice (some ⟨g', 0, none⟩) (pre.length + 1) cap') M1.out hrow (by decide) (by omega) hgrow); have hc1 := hv1.cell; have hf1 := hv1.frozen)
    exact ⟨hk2.from _, ⟨hb2, hkA.out.trans M1.out.symm⟩, ⟨_, hv2, by simpa [fdEnc, vvCells] using hr2, trivial⟩, hkA.out, HB.out.trans hb2⟩
  case done =>
    rintro D ys W hD rfl ⟨⟨v, hv, hrow, _⟩, _, hB⟩ hK
    have hc := hv.cell
    gi_wp2
    refine ⟨by simp, .inl ⟨_, _, rfl, run_takeDeferred hK, ?_⟩⟩
    exact ⟨_, results_tmp rfl _ _ _, v, rfl, ownsRow_putObj hrow _ hK rfl, hB.trans (belowK_b (w := w) (Nat.le_refl _) W D _ _ (by omega) hK rfl rfl)⟩
  case stop =>
    rintro D c pre W _ _ h _
    exact h.elim
theorem tfields_any {w : World} {B tb : Nat} {T : TabS} {fp : List Nat} (h : TabIn w B tb T fp) (hn : (T.F.length + 1) * 80 ≤ 140737488355328) :
    Calls Try.prog 37 #[.pointer (some ⟨tb, 0, none⟩)] w fun e w' => ∃ v, e = .returned v ∧ w'.ownsRow w.heap.size 59 8 v T.F.length (T.F.flatMap fdEnc) ∧ Below w.heap.size w w' := by
  refine fields_any _ T.F w (.inr ⟨_, rfl⟩) hn (fun W hW => tlen_any (h.kept (Fr.of_below hW []) (by simp))) fun i x hx => ?_
  obtain ⟨⟨fv, sv, mb, nb, n, m, D, E, _, h1, h2, _⟩, _⟩ := h
  obtain ⟨A, c, rfl, _, _, hA, hr⟩ := own_reads h2
  obtain ⟨ad, rfl, hadb, hcell⟩ := hr.at (flatMap_ne (K := 8) (fun a => rfl) (by omega) hx)
  exact ⟨tb, ad, c, rfl, blk_lt h1, cell_of_blk h1 rfl, hadb, fd_at hcell hx⟩
theorem tfields_nil (w : World) : Calls Try.prog 37 #[.pointer none] w fun e w' => ∃ v, e = .returned v ∧ w'.ownsRow w.heap.size 59 8 v 0 [] ∧ Below w.heap.size w w' :=
  fields_any _ [] w (.inl rfl) (by simp) (fun W _ => tlen_nil W) fun i x hx => by simp at hx
end Go.Proofs.Ythhphjfbdoffhaa
