/-
 HeapApart: part 22 of what the claim rests on.
-/
import Derived.Test.YtilcofpceadpbaaGreatDoorA19
import Derived.Test.YtilcofpceadpbaaGreatDoorA21
import Derived.BigFrame
set_option linter.unusedVariables false
set_option linter.unusedSimpArgs false
set_option maxHeartbeats 64000000
namespace Go.Proofs.YtilcofpceadpbaaGreatDoor
open Go.ChangeShapes Go.WideShapes Go.ChangeAt Go.RowKit Go.Maps

def RFnAt (w : World) (B N h : Nat) (s : HpS) (d : HpD) (f : FnS) (k : Int) (e : Ending) (w' : World) : Prop :=
 (e = .returned (.tuple #[.agg #[.int .i64 0, .int .i64 0, .string ⟨#[]⟩, .int .u64 0], .bool false]) ∧ Below w.heap.size w w') ∨ (e = .returned (.tuple #[newFnV s.F.length, .bool true]) ∧ s.U + max k 0 ≤ s.L ∧
  ∃ d', RpAt w' B N h { s with U := s.U + max k 0, F := s.F ++ [f] } d' ∧ Fr (d.fp h s.F) w w' ∧ ∀ b ∈ d'.fp h (s.F ++ [f]), b ∈ d.fp h s.F ∨ b ∈ aB f.A ∨ w.heap.size ≤ b)
theorem rfnIn_kept {w w' : World} {B N h : Nat} {s : HpS} {d : HpD} (H : RpAt w B N h s d) {f : FnS} (hfn : FnIn w B N f) (m3 : Fr (h :: aB d.A2) w w') : FnIn w' B N f := by
 obtain ⟨cs, hc, ho⟩ := hfn.cells
 refine ⟨⟨cs, hc, m3.own ho fun x hx hm => ?_⟩, hfn.ty.stay (m3.to_below (Nat.le_trans H.nB H.wB) fun b hb => ?_), hfn.len⟩
 ·obtain ⟨cs1, fr1, hk1⟩ := own_kind ho hx
  rcases List.mem_cons.1 hm with rfl | hm
  ·exact kind_ne hk1 H.blk (by decide) rfl
  ·obtain ⟨_, cs2, fr2, hk2⟩ := H.k2 x hm
   exact kind_ne hk1 hk2 (by decide) rfl
 ·rcases List.mem_cons.1 hb with rfl | hb
  ·exact Nat.le_trans H.nB H.hB
  ·exact Nat.le_trans H.nB (H.k2 b hb).1
set_option maxRecDepth 100000 in
theorem rfn_at {w : World} {B N h : Nat} {s : HpS} {d : HpD} (H : RpAt w B N h s d) (f : FnS) (hfn : FnIn w B N f) (k : Int) (hk : k ≤ 9223372036854775807) (hn : s.F.length ≤ 1000000) :
  Calls Tryz.prog 64 #[.pointer (some ⟨h, 0, none⟩), .agg #[.int .i64 f.pr, .slice f.A f.n f.c, .int .i64 f.x.kind, .int .i64 f.x.n, .string f.x.s, .int .u64 (f.x.label : Int), .int .i64 f.ty.kind, .slice f.ty.A f.ty.ns.length f.ty.c, .slice f.ty.A2 f.ty.xs.length f.ty.c2, .int .i64 f.ca, .bool f.wr], .int .i64 k] w (RFnAt w B N h s d f k) := by
 obtain ⟨i0, hi, hz0, hz1, hz2⟩ := info_parts info_fns
 have HH := Lib.hid H
 have HFN := Lib.hid hfn
 have HLT := Lib.hid (fun b (hb : b ∈ d.fp h s.F) => (H.kinds hb).2)
 have HFA := Lib.hid (fun b (hb : b ∈ aB f.A) => (by obtain ⟨_, _, ho⟩ := hfn.cells; exact (hp_own_lt ho (aB_own hb)).2 : b < w.heap.size))
 have HKK := Lib.hid hk
 clear H hfn hk
 obtain ⟨b0, hb0⟩ : ∃ b, b = w.heap.size := ⟨_, rfl⟩
 have HE_b0 := Lib.hid hb0
 obtain ⟨b1, hb1⟩ : ∃ b, b = w.heap.size + 1 := ⟨_, rfl⟩
 have HE_b1 := Lib.hid hb1
 clear hb0 hb1
 go_enter Tryz.func64, Tryz.ntmps64
 go_upto_region 1 with fail
 rw [← HE_b1.out, ← HE_b0.out]
 refine gen_wp fun W hW => ?_
 have HB_b0 := Lib.hid (show W.heap[b0]? = some (.cells #[.int .i64 f.pr, .slice f.A f.n f.c, .int .i64 f.x.kind, .int .i64 f.x.n, .string f.x.s, .int .u64 (f.x.label : Int), .int .i64 f.ty.kind, .slice f.ty.A f.ty.ns.length f.ty.c, .slice f.ty.A2 f.ty.xs.length f.ty.c2, .int .i64 f.ca, .bool f.wr] 79 (0, 0)) by rw [← hW, HE_b0.out]; exact blk_alloc (heap_new_at _ _ _ (by first | rfl | simp)) _)
 have HB_b1 := Lib.hid (show W.heap[b1]? = some (.cells #[.int .i64 0, .int .i64 0, .string ⟨#[]⟩, .int .u64 0] 26 (0, 0)) by rw [← hW, HE_b1.out]; exact heap_new_at _ _ _ (by first | rfl | simp))
 have HW := Lib.hid (show Below w.heap.size w W by rw [← hW]; exact ((Below.refl _ _).alloc (by simp <;> omega) _).alloc (by simp <;> omega) _)
 clear hW
 have HC := Lib.hid (rcharge_at (HH.out.below HW.out) k HKK.out)
 go_wp2_with fail
 refine HC.out.mono ?_
 rintro e w1 (⟨rfl, hb⟩ | ⟨rfl, hr, hh, hf⟩)
 ·have D1 := Lib.hid (below_blk hb HB_b1.out)
  have W1 := Lib.hid (HW.out.trans (hb.mono HW.out.size))
  clear hb
  obtain ⟨z0, z1, z2, z3, zf0, zf1, zf2, zf3, zl⟩ := blk_4 D1.out
  go_wp2
  obtain ⟨j0, j1, j2, j3⟩ := four D1.out rfl (.int .i64 0) (.int .i64 0) (.string ⟨#[]⟩) (.int .u64 0)
  refine bodyPost_ret (v := .tuple #[.agg #[.int .i64 0, .int .i64 0, .string ⟨#[]⟩, .int .u64 0], .bool false]) (by simp [results, Tryz.results64, go_sem, j0, j1, j2, j3]) rfl ?_
  exact .inl ⟨rfl, (Below.setCell (p := ⟨b1, 3, none⟩) (Below.setCell (p := ⟨b1, 2, none⟩) (Below.setCell (p := ⟨b1, 1, none⟩) (Below.setCell (p := ⟨b1, 0, none⟩) W1.out (show w.heap.size ≤ b1 by have := HE_b1.out; omega) (.int .i64 0)) (show w.heap.size ≤ b1 by have := HE_b1.out; omega) (.int .i64 0)) (show w.heap.size ≤ b1 by have := HE_b1.out; omega) (.string ⟨#[]⟩)) (show w.heap.size ≤ b1 by have := HE_b1.out; omega) (.int .u64 0))⟩
 ·have HF1 := Lib.hid hf
  have H1 := Lib.hid hh
  have HR := Lib.hid hr
  obtain ⟨U1, hU1⟩ : ∃ U1, U1 = s.U + max k 0 := ⟨_, rfl⟩
  have HU := Lib.hid hU1
  rw [← hU1] at H1 HR
  have hne0 : b0 ∉ [h] := by have := HLT.out h (fp_h d h s.F); have := HE_b0.out; simp; omega
  have D0 := Lib.hid (hf.blk HB_b0.out hne0)
  have hne1 : b1 ∉ [h] := by have := HLT.out h (fp_h d h s.F); have := HE_b1.out; simp; omega
  have D1 := Lib.hid (hf.blk HB_b1.out hne1)
  have hblk : w1.heap[h]? = some (.cells #[.int .i64 s.L, .int .i64 U1, .slice d.A1 s.T.length d.c1, .slice d.A2 s.F.length d.c2, .slice d.A3 s.C.length d.c3] 45 (0, 0)) := H1.out.blk
  have hown : w1.ownsRow B 79 11 (.slice d.A2 s.F.length d.c2) s.F.length (s.F.flatMap fnEnc) := H1.out.o2
  have hBW : B ≤ w1.heap.size := H1.out.wB
  clear hf hh hr hU1 hne0 hne1
  obtain ⟨r0, r1, r2, r3, r4, r5, r6, r7, r8, r9, r10, rf0, rf1, rf2, rf3, rf4, rf5, rf6, rf7, rf8, rf9, rf10, rl⟩ := blk_11 D0.out
  have hne := own_blk_ne hown hblk (by decide)
  obtain ⟨p0, p1, p2, p3, p4, pf0, pf1, pf2, pf3, pf4, pl⟩ := blk_5 hblk
  go_wp2_with fail
  go_region_law ((refine step_append_lies _ (by rfl) _ _ _ (by rfl) B 79 i0 (.agg #[.int .i64 0, .slice none 0 0, .int .i64 0, .int .i64 0, .string ByteArray.empty, .int .u64 0, .int .i64 0, .slice none 0 0, .slice none 0 0, .int .i64 0, .bool false]) 11 144 Tryz.underlying42 hi hz0 hz1 hz2 rfl (by omega) (.slice d.A2 s.F.length d.c2) s.F.length (s.F.flatMap fnEnc) (by rfl) (by exact hown.alloc _) ⟨w1.heap.size, 0, none⟩ 1 1 (fnEnc f) (by rfl) (by rfl) (by exact news_drew _ #[.int .i64 f.pr, .slice f.A f.n f.c, .int .i64 f.x.kind, .int .i64 f.x.n, .string f.x.s, .int .u64 (f.x.label : Int), .int .i64 f.ty.kind, .slice f.ty.A f.ty.ns.length f.ty.c, .slice f.ty.A2 f.ty.xs.length f.ty.c2, .int .i64 f.ca, .bool f.wr] _ _ (by simp)) (by simp [fnEnc, vvE, Value.oneCell']) (by omega) (by unfold maxLen; omega) (by omega) (by simp; omega) (w1.heap.size + 1) (by simp) ?_; intro g cap w2 hown2 hgrow hat hlt2; have hbk2 : w2.heap[h]? = some (.cells #[.int .i64 s.L, .int .i64 U1, .slice d.A1 s.T.length d.c1, .slice d.A2 s.F.length d.c2, .slice d.A3 s.C.length d.c3] 45 (0, 0)) := (by exact blk_grown (blk_drew (blk_alloc hblk _)) hgrow (Ne.symm hne)); have he0 := cell_of_blk (i := 3) hbk2 rfl; have hef := free_of_blk (i := 3) hbk2; have hel := blk_lt hbk2))
  all_goals
   have hw1 : IntKind.wrap .i64 (((s.F.length + 1 : Nat) : Int) - 1) = (s.F.length : Int) := by rw [IntKind.wrap_i64]; omega
   have hgg : (w2.setCell ⟨h, 3, none⟩ (.slice (some ⟨g, 0, none⟩) (s.F.length + 1) cap)).heap[h]? = some (.cells #[.int .i64 s.L, .int .i64 U1, .slice d.A1 s.T.length d.c1, .slice (some ⟨g, 0, none⟩) (s.F.length + 1) cap, .slice d.A3 s.C.length d.c3] 45 (0, 0)) := blk_set hbk2 _
   have hfr : Fr (h :: aB d.A2) w1 (w2.setCell ⟨h, 3, none⟩ (.slice (some ⟨g, 0, none⟩) (s.F.length + 1) cap)) := by rw [← ownB d.A2 s.F.length d.c2]; exact ((((Fr.refl (h :: (.slice d.A2 s.F.length d.c2 : Value).ownBlock.toList) w1).alloc _).drew).grown hgrow fun k hk => .inl (by rw [hk]; simp)).set _ (.inl (by simp))
   have HFR := Lib.hid hfr
   have hfn1 : FnIn w1 B N f := by
    have hf1 : Fr (h :: aB d.A2) w w1 := ((Fr.of_below HW.out _).trans HF1.out fun x hx => .inl (by simp at hx; simp [hx]))
    exact rfnIn_kept HH.out HFN.out hf1
   have HT2 := Lib.hid (H1.out.madeF (f := f) (U' := U1) hgg (own_set hown2 hbk2 (by decide) _) hfr (hat.imp (fun e => mem_aB e) fun e => by omega) (rfnIn_kept H1.out hfn1 hfr) (by have := HH.out.u0; have := HU.out; omega) (by have := HR.out; exact this))
   have E1 := Lib.hid (hfr.blk D1.out (fun hm => by
    have h8 : b1 ∈ d.fp h s.F := by
     rcases List.mem_cons.1 hm with e | e
     ·rw [e]; exact fp_h _ _ _
     ·exact fp_2 e
    have := HLT.out b1 h8
    have := HE_b1.out
    omega))
   obtain ⟨X, hX⟩ : ∃ X, X = w2.setCell ⟨h, 3, none⟩ (.slice (some ⟨g, 0, none⟩) (s.F.length + 1) cap) := ⟨_, rfl⟩
   rw [← hX] at HT2 E1 hgg
   go_upto_region 4 with fail
   refine gen_wp fun X' hX' => ?_
   obtain rfl : X' = X := by rw [← hX', hX]
   clear hX hX' hfn1 hfr hbk2 he0 hef hel hown2 hgrow hat r0 rf0 r1 rf1 r2 rf2 r3 rf3 r4 rf4 r5 rf5 r6 rf6 r7 rf7 r8 rf8 r9 rf9 r10 rf10 rl p0 pf0 p1 pf1 p2 pf2 p3 pf3 p4 pf4 pl
   have hq5 := cell_of_blk (i := 3) hgg rfl
   have hq6 := free_of_blk (i := 3) hgg
   have hq7 := blk_lt hgg
   clear hgg
   obtain ⟨z0, z1, z2, z3, zf0, zf1, zf2, zf3, zl⟩ := blk_4 E1.out
   have HPOS := Lib.hid (show w.heap.size ≤ b1 by have := HE_b1.out; omega)
   go_wp2
   obtain ⟨j0, j1, j2, j3⟩ := four E1.out rfl (.int .i64 5) (.int .i64 (s.F.length : Int)) (.string ⟨#[]⟩) (.int .u64 0)
   refine bodyPost_ret (v := .tuple #[newFnV s.F.length, .bool true]) (by unfold newFnV; simp [results, Tryz.results64, go_sem, j0, j1, j2, j3]) rfl ?_
   obtain ⟨d', a1, a2, a3⟩ := HT2.out
   have hfs := fr_sets (w := X') (b := b1) (.int .i64 5) (.int .i64 (s.F.length : Int)) (.string ⟨#[]⟩) (.int .u64 0)
   have hW1 : Fr (d.fp h s.F) w w1 := (Fr.of_below HW.out _).trans HF1.out fun x hx => .inl (by simp at hx; rw [hx]; exact fp_h _ _ _)
   refine .inr ⟨rfl, by have := HR.out; rw [← HU.out]; exact this, d', ?_, (hW1.trans a2 fun x hx => .inl hx).trans hfs fun x hx => .inr (by simp at hx; rw [hx]; exact HPOS.out), fun b hb => ?_⟩
   ·rw [← HU.out]
    refine a1.kept hfs (fun b hb hm => ?_) (fun b hm => ?_)
    ·simp at hm
     subst hm
     rcases a3 b hb with e | e | e
     ·have := HLT.out b e; have := HPOS.out; omega
     ·have := HFA.out b e
      have := HPOS.out
      omega
     ·have h2 := blk_lt D1.out
      omega
    ·simp at hm
     subst hm
     have := HH.out.nB
     have := HH.out.wB
     have := HPOS.out
     omega
   ·rcases a3 b hb with e | e | e
    ·exact .inl e
    ·exact .inr (.inl e)
    ·exact .inr (.inr (Nat.le_trans hW1.size e))
theorem append_row {ops : Array Oper} {rest : List Oper} {o : Oper} {a : Act} {w : World} {Q : Exit → Act → World → Prop} (hw : Region.wanted o (yielded ops a.tmps) = true) (s x : Operand) (t e : TypeId) (i : TypeInfo) (z : Value) (size bytes : Nat)
  (ho : o.op = .call { callee := .builtin .append, args := #[s, x], argTypes := #[t, t] }) (ht : Tryz.prog.underlying t = some (.slice e)) (hi : Tryz.prog.info? e = some i) (hz0 : i.zero = some z) (hz1 : i.size = size) (hz2 : i.bytes = bytes) (hzs : z.cells.size = size) (hsz : 0 < size)
  (base : Nat) (v : Value) (n : Nat) (xs : List Value) (hs : a.eval s = v) (hown : w.ownsRow base e size v n xs)
  (A : Option Addr) (c m : Nat) (news : List Value) (hA : A = none → m = 0 ∧ c = 0) (hx : a.eval x = .slice A m c) (hl : news.length = m * size) (hr : Reads w w.heap.size A news) (h1 : ∀ u ∈ news, u.oneCell' = true)
  (hm : n + m ≤ maxLen) (hb : (n + m) * bytes ≤ 140737488355328) (hbase : base ≤ w.heap.size)
  (h : ∀ v' w', w'.ownsRow base e size v' (n + m) (xs ++ news) → w.grownBy w' v.ownBlock → wpList Tryz.prog ops Q rest (a.put o.dst v') w') : wpList Tryz.prog ops Q (o :: rest) a w := by
 refine BigFrame.wpList_want hw fun K hK => ?_
 cases A with
 | none =>
  obtain ⟨rfl, rfl⟩ := hA rfl
  obtain rfl : news = [] := List.eq_nil_of_length_eq_zero (by simpa using hl)
  have hrun := run_append_owned_none (P := Tryz.prog) (w := w) base t o.type e i size ht hi v n xs hown
  unfold Oper.wp
  simp [execOp, ho, resolve, invoke, builtin, hs, hx, hrun, Result.andThen]
  exact hK _ _ (h v w (by simpa using hown) ⟨rfl, rfl, rfl, Nat.le_refl _, fun _ _ _ => rfl⟩)
 | some ad =>
  refine wp_append_own w s x t ho base e i z size bytes ht hi hz0 hz1 hz2 hzs hsz v n xs hs hown ad m c news hx hl ?_ h1 hm hb hbase ?_
  ·rcases hr with hr | ⟨ad', e, _, h3⟩
   ·intro j u hu
    rw [hr] at hu
    simp at hu
   ·obtain rfl : ad = ad' := Option.some.inj e
    exact h3
  ·intro v' w' h2 h3 _
   exact hK _ _ (h v' w' h2 h3)
theorem info_int : (Tryz.prog.info? 3).map (fun i => (i.zero, i.size, i.bytes)) = some (some (.int .i64 0), 1, 8) := by kernel_rfl
set_option maxRecDepth 100000 in
theorem rclosure_at {w : World} {B N h : Nat} {s : HpS} {d : HpD} (H : RpAt w B N h s d) (pr : Int) (sl : Sl Int) (hr : Reads w w.heap.size sl.A (sl.xs.map (.int .i64 ·))) (hl : sl.xs.length * 8 ≤ 140737488351232) (hz : sl.A = none → sl.xs.length = 0 ∧ sl.cap = 0) (n : Nat) (hn : s.F.length ≤ 1000000) :
  Calls Tryz.prog 23 #[.pointer (some ⟨h, 0, none⟩), .int .i64 pr, .slice sl.A sl.xs.length sl.cap] w (RGoV w B N h s d n) := by
 obtain ⟨i0, hi, hz0, hz1, hz2⟩ := info_parts info_int
 have HH := Lib.hid H
 have HLT := Lib.hid (fun b (hb : b ∈ d.fp h s.F) => (H.kinds hb).2)
 obtain ⟨k, hk⟩ : ∃ k, k = sl.xs.length := ⟨_, rfl⟩
 obtain ⟨news, hnews⟩ : ∃ news : List Value, news = sl.xs.map (.int .i64 ·) := ⟨_, rfl⟩
 have HNW := Lib.hid hnews
 have HX := Lib.hid (And.intro hr (And.intro hl (And.intro hz (And.intro hn hk))))
 have hnl : news.length = k * 1 := by rw [hnews, List.length_map, hk]; omega
 have hn1 : ∀ u ∈ news, u.oneCell' = true := by intro u hu; rw [hnews] at hu; simp at hu; obtain ⟨_, _, rfl⟩ := hu; rfl
 rw [← hnews] at hr
 rw [← hk] at hl hz
 rw [← hk]
 have hw1 : IntKind.wrap .i64 (1 + (k : Int)) = 1 + (k : Int) := by rw [IntKind.wrap_i64]; omega
 have HW1 := Lib.hid hw1
 have HK := Lib.hid (show (1 + (k : Int)) ≤ 9223372036854775807 by omega)
 have HKL := Lib.hid (show 0 + k ≤ maxLen ∧ (0 + k) * 8 ≤ 140737488355328 by unfold maxLen; omega)
 have HRR := Lib.hid hr
 have HZ := Lib.hid hz
 clear H hr hl hn hk hw1 hz hnews
 obtain ⟨b0, hb0⟩ : ∃ b, b = w.heap.size := ⟨_, rfl⟩
 have HE_b0 := Lib.hid hb0
 clear hb0
 go_enter Tryz.func23, Tryz.ntmps23
 go_upto_region 1 with fail
 rw [← HE_b0.out]
 refine gen_wp fun W hW => ?_
 have HB_b0 := Lib.hid (show W.heap[b0]? = some (.cells #[.int .i64 0, .int .i64 0, .string ⟨#[]⟩, .int .u64 0] 26 (0, 0)) by rw [← hW, HE_b0.out]; exact heap_new_at _ _ _ (by first | rfl | simp))
 have HW := Lib.hid (show Below w.heap.size w W by rw [← hW]; exact (Below.refl _ _).alloc (by simp <;> omega) _)
 clear hW
 go_wp2_with (at_builtin; refine append_row (by rfl) (.const (.slice none 0 0)) _ 27 3 i0 (.int .i64 0) 1 8 rfl Tryz.underlying27 hi hz0 hz1 hz2 rfl (by decide) W.heap.size (.slice none 0 0) 0 [] rfl (World.ownsRow_nil _ _ _ _) sl.A sl.cap k news HZ.out rfl hnl (readsOn HRR.out HW.out) hn1 HKL.out.1 HKL.out.2 (Nat.le_refl _) ?_; intro v1 w1 ho1 hg1; refine unhid ?_)
 refine Lib.hid ?_
 rw [Nat.zero_add, List.nil_append] at ho1
 obtain ⟨A', c', rfl, _, _, hfm⟩ := own_form ho1
 have HG1 := Lib.hid (show Below W.heap.size W w1 from (Below.refl W.heap.size W).grown hg1 (Nat.le_refl _) fun g hg => by simp [Value.ownBlock] at hg)
 have HW2 := Lib.hid (HW.out.trans (HG1.out.mono HW.out.size))
 have HO1 := Lib.hid ho1
 have D0 := Lib.hid (below_blk HG1.out HB_b0.out)
 clear hfm ho1 hg1
 have HFN := Lib.hid (show FnIn w1 B N (cloF pr A' k c') from ⟨⟨sl.xs, HX.out.2.2.2.2.symm, by have := HO1.out; rw [HNW.out] at this; exact hp_own_mono this (Nat.le_trans HH.out.wB HW.out.size)⟩, zTy_in _ _, by have := HX.out.2.1; have := HX.out.2.2.2.2; show k * 8 ≤ _; omega⟩)
 have HFC := Lib.hid (show Calls Tryz.prog 64 #[.pointer (some ⟨h, 0, none⟩), .agg #[.int .i64 pr, .slice A' k c', .int .i64 0, .int .i64 0, .string ⟨#[]⟩, .int .u64 0, .int .i64 0, .slice none 0 0, .slice none 0 0, .int .i64 0, .bool false], .int .i64 (1 + (k : Int))] w1 (RFnAt w1 B N h s d (cloF pr A' k c') (1 + (k : Int))) from rfn_at (HH.out.below HW2.out) (cloF pr A' k c') HFN.out (1 + (k : Int)) HK.out HX.out.2.2.2.1)
 have hw1 := HW1.out
 go_wp2_with fail
 clear hw1
 refine HFC.out.mono ?_
 rintro e w2 (⟨rfl, hb⟩ | ⟨rfl, hr, d', ha, hf, hn'⟩)
 ·have D2 := Lib.hid (below_blk hb D0.out)
  have HW3 := Lib.hid (HW2.out.trans (hb.mono HW2.out.size))
  clear hb
  obtain ⟨r0, r1, r2, r3, rf0, rf1, rf2, rf3, rl⟩ := blk_4 D2.out
  go_wp2
  obtain ⟨j0, j1, j2, j3⟩ := four D2.out rfl (.int .i64 0) (.int .i64 0) (.string ⟨#[]⟩) (.int .u64 0)
  refine bodyPost_ret (v := .tuple #[.agg #[.int .i64 0, .int .i64 0, .string ⟨#[]⟩, .int .u64 0], .bool false]) (by simp [results, Tryz.results23, go_sem, j0, j1, j2, j3]) rfl ?_
  exact ⟨⟨0, 0, ⟨#[]⟩, 0⟩, false, s, rfl, .refl _ _, .same HH.out (Below.setCell (p := ⟨b0, 3, none⟩) (Below.setCell (p := ⟨b0, 2, none⟩) (Below.setCell (p := ⟨b0, 1, none⟩) (Below.setCell (p := ⟨b0, 0, none⟩) HW3.out (show w.heap.size ≤ b0 by have := HE_b0.out; omega) (.int .i64 0)) (show w.heap.size ≤ b0 by have := HE_b0.out; omega) (.int .i64 0)) (show w.heap.size ≤ b0 by have := HE_b0.out; omega) (.string ⟨#[]⟩)) (show w.heap.size ≤ b0 by have := HE_b0.out; omega) (.int .u64 0))⟩
 ·have hne : b0 ∉ d.fp h s.F := fun hm => by have := HLT.out b0 hm; have := HE_b0.out; omega
  have D2 := Lib.hid (hf.blk D0.out hne)
  have HR := Lib.hid hr
  have HA := Lib.hid ha
  have HF := Lib.hid hf
  have HN' := Lib.hid hn'
  clear hr ha hf hn' hne
  unfold newFnV
  obtain ⟨r0, r1, r2, r3, rf0, rf1, rf2, rf3, rl⟩ := blk_4 D2.out
  go_wp2
  obtain ⟨j0, j1, j2, j3⟩ := four D2.out rfl (.int .i64 5) (.int .i64 (s.F.length : Int)) (.string ⟨#[]⟩) (.int .u64 0)
  refine bodyPost_ret (v := .tuple #[newFnV s.F.length, .bool true]) (by unfold newFnV; simp [results, Tryz.results23, go_sem, j0, j1, j2, j3]) rfl ?_
  refine ⟨⟨5, (s.F.length : Int), ⟨#[]⟩, 0⟩, true, _, rfl, le_fn (f := cloF pr A' k c') (fun e => by cases e) (show s.U ≤ s.U + max (1 + (k : Int)) 0 by omega), ?_⟩
  have hfs := fr_sets (w := w2) (b := b0) (.int .i64 5) (.int .i64 (s.F.length : Int)) (.string ⟨#[]⟩) (.int .u64 0)
  have hb0w : w.heap.size ≤ b0 := by have := HE_b0.out; omega
  refine ⟨d', HA.out.kept hfs (fun b hb hm => ?_) (fun b hm => ?_), ((Fr.of_below HW2.out _).trans HF.out fun x hx => .inl hx).trans hfs fun x hx => .inr (by simp at hx; rw [hx]; exact hb0w), fun b hb => ?_⟩
  ·simp at hm
   subst hm
   rcases HN'.out b hb with e | e | e
   ·have := HLT.out b e; omega
   ·have h1 := (hp_own_lt HO1.out (aB_own e)).1
    have h2 := blk_lt HB_b0.out
    omega
   ·have h2 := blk_lt D0.out
    omega
  ·simp at hm
   subst hm
   have := HH.out.nB
   have := HH.out.wB
   omega
  ·rcases HN'.out b hb with e | e | e
   ·exact .inl e
   ·exact .inr (Nat.le_trans HW.out.size (hp_own_lt HO1.out (aB_own e)).1)
   ·exact .inr (Nat.le_trans HW2.out.size e)
end Go.Proofs.YtilcofpceadpbaaGreatDoor
