/-
  Join of both texts: a type of both's values.
-/
import Derived.Test.YtllpicibncdppaaDoorRePrecW
import Derived.Test.YtllpicibncdppaaDoorReWrap
import Derived.Test.YtllpicibncdppaaDoorTyUnion
set_option linter.unusedVariables false
set_option linter.unusedSimpArgs false
namespace Go.Proofs.YtllpicibncdppaaDoor
open Go.ChangeShapes Go.WideShapes Go.ChangeAt Go.RowKit

def ZBox (w : World) (g : Nat) : Prop := w.heap[g]? = some (.cells #[.int .i64 0, .slice none 0 0, .slice none 0 0] 26 (0, 0))
theorem ZBox.below {w w' : World} {g : Nat} (h : ZBox w g) (hb : Below w.heap.size w w') : ZBox w' g := below_blk hb h
theorem lives_old {w w' : World} {B : Nat} {u : LTy} (hB : B ≤ w.heap.size) (hu : LIn w B u) (hb : Below w.heap.size w w') : ∀ w2, Stays B w w' w2 → LIn w2 w2.heap.size u := fun w2 h =>
  ((hu.stay (hb.mono hB)).same (fun b hlt => h.1 b (.inl hlt) (Nat.lt_of_lt_of_le hlt (Nat.le_trans hB hb.size)))).more (Nat.le_trans hB (Nat.le_trans hb.size h.2))
theorem lives_new {w wk wk' w' : World} {B : Nat} {r : LTy} (h : ∀ w2, Stays 0 wk wk' w2 → LIn w2 w2.heap.size r) (hw : w.heap.size ≤ wk.heap.size) (hh : ∀ b, wk.heap.size ≤ b → b < wk'.heap.size → w'.heap[b]? = wk'.heap[b]?) (hs : wk'.heap.size ≤ w'.heap.size) :
    ∀ w2, Stays B w w' w2 → LIn w2 w2.heap.size r := fun w2 h2 => h w2 ⟨fun b hb hlt => by
    rcases hb with hb | hb
    · omega
    · exact (h2.1 b (.inr (by omega)) (by omega)).trans (hh b hb hlt), Nat.le_trans hs h2.2⟩
theorem three_boxes (w : World) (t u : LTy) : TBox (((w.alloc (.cells #[.int .i64 t.kind, .slice t.A t.ns.length t.c, .slice t.A2 t.xs.length t.c2] 26)).alloc (.cells #[.int .i64 u.kind, .slice u.A u.ns.length u.c, .slice u.A2 u.xs.length u.c2] 26)).alloc (.cells #[.int .i64 0, .slice none 0 0, .slice none 0 0] 26)) w.heap.size t ∧ TBox (((w.alloc (.cells #[.int .i64 t.kind, .slice t.A t.ns.length t.c, .slice t.A2 t.xs.length t.c2] 26)).alloc (.cells #[.int .i64 u.kind, .slice u.A u.ns.length u.c, .slice u.A2 u.xs.length u.c2] 26)).alloc (.cells #[.int .i64 0, .slice none 0 0, .slice none 0 0] 26)) (w.heap.size + 1) u ∧
    ZBox (((w.alloc (.cells #[.int .i64 t.kind, .slice t.A t.ns.length t.c, .slice t.A2 t.xs.length t.c2] 26)).alloc (.cells #[.int .i64 u.kind, .slice u.A u.ns.length u.c, .slice u.A2 u.xs.length u.c2] 26)).alloc (.cells #[.int .i64 0, .slice none 0 0, .slice none 0 0] 26)) (w.heap.size + 2) ∧ Below w.heap.size w (((w.alloc (.cells #[.int .i64 t.kind, .slice t.A t.ns.length t.c, .slice t.A2 t.xs.length t.c2] 26)).alloc (.cells #[.int .i64 u.kind, .slice u.A u.ns.length u.c, .slice u.A2 u.xs.length u.c2] 26)).alloc (.cells #[.int .i64 0, .slice none 0 0, .slice none 0 0] 26)) :=
  ⟨blk_alloc (two_boxes w t u).1 _, blk_alloc (two_boxes w t u).2.1 _, heap_new_at _ _ _ (by simp), (two_boxes w t u).2.2.alloc (by simp; omega) _⟩
theorem joinT_one {a b : Ty} (h : Sub a b) : joinT a b = b := by unfold joinT; rw [if_pos h]
theorem joinT_two {a b : Ty} (h : ¬ Sub a b) (h2 : Sub b a) : joinT a b = a := by unfold joinT; rw [if_neg h, if_pos h2]
theorem joinT_flat {a b : Ty} (h : ¬ Sub a b) (h2 : ¬ Sub b a) (h3 : May a ∧ May b ∧ Flat a.kind ∧ Flat b.kind) : joinT a b = unionT (kindsT a ||| kindsT b) := by unfold joinT; rw [if_neg h, if_neg h2, if_pos h3]
theorem joinT_any {a b : Ty} (h : ¬ Sub a b) (h2 : ¬ Sub b a) (h3 : ¬ (May a ∧ May b ∧ Flat a.kind ∧ Flat b.kind)) : joinT a b = .mk 0 [] [] := by unfold joinT; rw [if_neg h, if_neg h2, if_neg h3]; rfl
theorem kindsN_nat {n : Nat} (h : n < 128) : kindsN (n : Int) = n := by unfold kindsN; omega
theorem tbox_set3 {w : World} {a g : Nat} {t : LTy} (h : TBox w a t) (hne : a ≠ g) (v0 v1 v2 : Value) : TBox (((w.setCell ⟨g, 0, none⟩ v0).setCell ⟨g, 1, none⟩ v1).setCell ⟨g, 2, none⟩ v2) a t := (set3_heap w g v0 v1 v2 hne).trans h
set_option maxRecDepth 100000 in
set_option maxHeartbeats 8000000 in
theorem tJoin_any (t u : LTy) (w : World) (B : Nat) (hB : B ≤ w.heap.size) (ht : LIn w B t) (hu : LIn w B u) (hsp : SpW w) : Calls Tryd.prog 41 #[t.val, u.val] w (RetT B (joinT (strip t) (strip u)) w) := by
  obtain ⟨ans, hans⟩ : ∃ ans, ans = joinT (strip t) (strip u) := ⟨_, rfl⟩
  rw [← hans]
  have HA := Lib.hid hans
  unfold LTy.val
  obtain ⟨g, hg⟩ : ∃ g, g = w.heap.size := ⟨_, rfl⟩
  have HOT := Lib.hid ht
  have HOU := Lib.hid hu
  have HBB := Lib.hid hB
  have HT := Lib.hid (ht.more hB)
  have HU := Lib.hid (hu.more hB)
  have HKT := Lib.hid (strip_kind t)
  have HKU := Lib.hid (strip_kind u)
  have HSP := Lib.hid hsp
  clear hsp
  clear hans ht hu hB
  go_enter Tryd.func41, Tryd.ntmps41
  go_upto_region 1 with fail
  rw [← hg]
  refine gen_wpT fun w0 hW => ?_
  obtain ⟨kt, ku, kr, kb⟩ : TBox w0 g t ∧ TBox w0 (g + 1) u ∧ ZBox w0 (g + 2) ∧ Below w.heap.size w w0 := by rw [← hW, hg]; exact three_boxes w t u
  have T0 := Lib.hid kt
  have U0 := Lib.hid ku
  have R0 := Lib.hid kr
  have B0 := Lib.hid kb
  have HGW := Lib.hid (show w.heap.size ≤ g + 2 by omega)
  have G0 : g + 2 < w0.heap.size := blk_lt kr
  clear hW hg kt ku kr kb
  have t0 := T0.out
  have t0c0 := t0.c0
  have t0c1 := t0.c1
  have t0c2 := t0.c2
  have t0lt := t0.lt
  have u0 := U0.out
  have u0c0 := u0.c0
  have u0c1 := u0.c1
  have u0c2 := u0.c2
  have u0lt := u0.lt
  have r0 := R0.out
  have r0c0 := cell_of_blk (i := 0) r0 rfl
  have r0c1 := cell_of_blk (i := 1) r0 rfl
  have r0c2 := cell_of_blk (i := 2) r0 rfl
  have r0f0 := free_of_blk (i := 0) r0
  have r0f1 := free_of_blk (i := 1) r0
  have r0f2 := free_of_blk (i := 2) r0
  clear t0 u0 r0
  have HS1 := Lib.hid (show ∀ w', Below w.heap.size w w' → Calls Tryd.prog 23 #[.agg #[.int .i64 t.kind, .slice t.A t.ns.length t.c, .slice t.A2 t.xs.length t.c2], .agg #[.int .i64 u.kind, .slice u.A u.ns.length u.c, .slice u.A2 u.xs.length u.c2]] w' (RetB (.bool (tb (Sub (strip t) (strip u)))) w') from fun w' hb => tSub_any t u w' (HT.out.on hb) (HU.out.on hb) (HSP.out.below hb))
  have HS2 := Lib.hid (show ∀ w', Below w.heap.size w w' → Calls Tryd.prog 23 #[.agg #[.int .i64 u.kind, .slice u.A u.ns.length u.c, .slice u.A2 u.xs.length u.c2], .agg #[.int .i64 t.kind, .slice t.A t.ns.length t.c, .slice t.A2 t.xs.length t.c2]] w' (RetB (.bool (tb (Sub (strip u) (strip t)))) w') from fun w' hb => tSub_any u t w' (HU.out.on hb) (HT.out.on hb) (HSP.out.below hb))
  have HMA := Lib.hid (show ∀ w', Below w.heap.size w w' → Calls Tryd.prog 50 #[.agg #[.int .i64 t.kind, .slice t.A t.ns.length t.c, .slice t.A2 t.xs.length t.c2], .agg #[.int .i64 u.kind, .slice u.A u.ns.length u.c, .slice u.A2 u.xs.length u.c2]] w' (RetB (.bool (tb (May (strip t) ∧ May (strip u)))) w') from fun w' hb => may_any t u w' (HT.out.on hb) (HU.out.on hb) (HSP.out.below hb))
  have HF1 := Lib.hid (show ∀ w', Calls Tryd.prog 65 #[.agg #[.int .i64 t.kind, .slice t.A t.ns.length t.c, .slice t.A2 t.xs.length t.c2]] w' (RetB (.bool (tb (Flat t.kind))) w') from fun w' => bflat_any t w')
  have HF2 := Lib.hid (show ∀ w', Calls Tryd.prog 65 #[.agg #[.int .i64 u.kind, .slice u.A u.ns.length u.c, .slice u.A2 u.xs.length u.c2]] w' (RetB (.bool (tb (Flat u.kind))) w') from fun w' => bflat_any u w')
  by_cases h1 : Sub (strip t) (strip u)
  · rw [tb_true h1] at HS1
    have H1 := Lib.hid h1
    clear h1
    go_wp2_with fail
    with_reducible refine ((HS1.out w0 B0.out)).mono ?_
    rintro e w1 ⟨rfl, hb1⟩
    have T1 := Lib.hid (T0.out.below hb1)
    have U1 := Lib.hid (U0.out.below hb1)
    have R1 := Lib.hid (R0.out.below hb1)
    have B1 := Lib.hid (B0.out.trans (hb1.mono B0.out.size))
    have G1 : g + 2 < w1.heap.size := blk_lt R1.out
    clear hb1
    have t1 := T1.out
    have t1c0 := t1.c0
    have t1c1 := t1.c1
    have t1c2 := t1.c2
    have t1lt := t1.lt
    have u1 := U1.out
    have u1c0 := u1.c0
    have u1c1 := u1.c1
    have u1c2 := u1.c2
    have u1lt := u1.lt
    have r1 := R1.out
    have r1c0 := cell_of_blk (i := 0) r1 rfl
    have r1c1 := cell_of_blk (i := 1) r1 rfl
    have r1c2 := cell_of_blk (i := 2) r1 rfl
    have r1f0 := free_of_blk (i := 0) r1
    have r1f1 := free_of_blk (i := 1) r1
    have r1f2 := free_of_blk (i := 2) r1
    clear t1 u1 r1
    go_wp2
    refine bodyPost_ret (v := .agg #[.int .i64 u.kind, .slice u.A u.ns.length u.c, .slice u.A2 u.xs.length u.c2]) (by simp [results, Tryd.results41, go_sem, r1c0, r1c1, r1c2]) rfl ?_
    exact ⟨u, rfl, lives_old HBB.out HOU.out (((B1.out.setCell (by have := HGW.out; simp; omega) _).setCell (by have := HGW.out; simp; omega) _).setCell (by have := HGW.out; simp; omega) _), by rw [HA.out]; exact (joinT_one H1.out).symm, (((B1.out.setCell (by have := HGW.out; simp; omega) _).setCell (by have := HGW.out; simp; omega) _).setCell (by have := HGW.out; simp; omega) _)⟩
  rw [tb_false h1] at HS1
  have H1 := Lib.hid h1
  clear h1
  go_wp2_with fail
  with_reducible refine ((HS1.out w0 B0.out)).mono ?_
  rintro e w1 ⟨rfl, hb1⟩
  have T1 := Lib.hid (T0.out.below hb1)
  have U1 := Lib.hid (U0.out.below hb1)
  have R1 := Lib.hid (R0.out.below hb1)
  have B1 := Lib.hid (B0.out.trans (hb1.mono B0.out.size))
  have G1 : g + 2 < w1.heap.size := blk_lt R1.out
  clear hb1
  have t1 := T1.out
  have t1c0 := t1.c0
  have t1c1 := t1.c1
  have t1c2 := t1.c2
  have t1lt := t1.lt
  have u1 := U1.out
  have u1c0 := u1.c0
  have u1c1 := u1.c1
  have u1c2 := u1.c2
  have u1lt := u1.lt
  have r1 := R1.out
  have r1c0 := cell_of_blk (i := 0) r1 rfl
  have r1c1 := cell_of_blk (i := 1) r1 rfl
  have r1c2 := cell_of_blk (i := 2) r1 rfl
  have r1f0 := free_of_blk (i := 0) r1
  have r1f1 := free_of_blk (i := 1) r1
  have r1f2 := free_of_blk (i := 2) r1
  clear t1 u1 r1
  by_cases h2 : Sub (strip u) (strip t)
  · rw [tb_true h2] at HS2
    have H2 := Lib.hid h2
    clear h2
    go_wp2_with fail
    with_reducible refine ((HS2.out w1 B1.out)).mono ?_
    rintro e w2 ⟨rfl, hb2⟩
    have T2 := Lib.hid (T1.out.below hb2)
    have U2 := Lib.hid (U1.out.below hb2)
    have R2 := Lib.hid (R1.out.below hb2)
    have B2 := Lib.hid (B1.out.trans (hb2.mono B1.out.size))
    have G2 : g + 2 < w2.heap.size := blk_lt R2.out
    clear hb2
    have t2 := T2.out
    have t2c0 := t2.c0
    have t2c1 := t2.c1
    have t2c2 := t2.c2
    have t2lt := t2.lt
    have u2 := U2.out
    have u2c0 := u2.c0
    have u2c1 := u2.c1
    have u2c2 := u2.c2
    have u2lt := u2.lt
    have r2 := R2.out
    have r2c0 := cell_of_blk (i := 0) r2 rfl
    have r2c1 := cell_of_blk (i := 1) r2 rfl
    have r2c2 := cell_of_blk (i := 2) r2 rfl
    have r2f0 := free_of_blk (i := 0) r2
    have r2f1 := free_of_blk (i := 1) r2
    have r2f2 := free_of_blk (i := 2) r2
    clear t2 u2 r2
    go_wp2
    refine bodyPost_ret (v := .agg #[.int .i64 t.kind, .slice t.A t.ns.length t.c, .slice t.A2 t.xs.length t.c2]) (by simp [results, Tryd.results41, go_sem, r2c0, r2c1, r2c2]) rfl ?_
    exact ⟨t, rfl, lives_old HBB.out HOT.out (((B2.out.setCell (by have := HGW.out; simp; omega) _).setCell (by have := HGW.out; simp; omega) _).setCell (by have := HGW.out; simp; omega) _), by rw [HA.out]; exact (joinT_two H1.out H2.out).symm, (((B2.out.setCell (by have := HGW.out; simp; omega) _).setCell (by have := HGW.out; simp; omega) _).setCell (by have := HGW.out; simp; omega) _)⟩
  rw [tb_false h2] at HS2
  have H2 := Lib.hid h2
  clear h2
  go_wp2_with fail
  with_reducible refine ((HS2.out w1 B1.out)).mono ?_
  rintro e w2 ⟨rfl, hb2⟩
  have T2 := Lib.hid (T1.out.below hb2)
  have U2 := Lib.hid (U1.out.below hb2)
  have R2 := Lib.hid (R1.out.below hb2)
  have B2 := Lib.hid (B1.out.trans (hb2.mono B1.out.size))
  have G2 : g + 2 < w2.heap.size := blk_lt R2.out
  clear hb2
  have t2 := T2.out
  have t2c0 := t2.c0
  have t2c1 := t2.c1
  have t2c2 := t2.c2
  have t2lt := t2.lt
  have u2 := U2.out
  have u2c0 := u2.c0
  have u2c1 := u2.c1
  have u2c2 := u2.c2
  have u2lt := u2.lt
  have r2 := R2.out
  have r2c0 := cell_of_blk (i := 0) r2 rfl
  have r2c1 := cell_of_blk (i := 1) r2 rfl
  have r2c2 := cell_of_blk (i := 2) r2 rfl
  have r2f0 := free_of_blk (i := 0) r2
  have r2f1 := free_of_blk (i := 1) r2
  have r2f2 := free_of_blk (i := 2) r2
  clear t2 u2 r2
  by_cases hm : May (strip t) ∧ May (strip u)
  case neg =>
    rw [tb_false hm] at HMA
    have HN := Lib.hid hm
    clear hm
    go_wp2_with fail
    with_reducible refine ((HMA.out w2 B2.out)).mono ?_
    rintro e w3 ⟨rfl, hb3⟩
    have T3 := Lib.hid (T2.out.below hb3)
    have U3 := Lib.hid (U2.out.below hb3)
    have R3 := Lib.hid (R2.out.below hb3)
    have B3 := Lib.hid (B2.out.trans (hb3.mono B2.out.size))
    have G3 : g + 2 < w3.heap.size := blk_lt R3.out
    clear hb3
    have t3 := T3.out
    have t3c0 := t3.c0
    have t3c1 := t3.c1
    have t3c2 := t3.c2
    have t3lt := t3.lt
    have u3 := U3.out
    have u3c0 := u3.c0
    have u3c1 := u3.c1
    have u3c2 := u3.c2
    have u3lt := u3.lt
    have r3 := R3.out
    have r3c0 := cell_of_blk (i := 0) r3 rfl
    have r3c1 := cell_of_blk (i := 1) r3 rfl
    have r3c2 := cell_of_blk (i := 2) r3 rfl
    have r3f0 := free_of_blk (i := 0) r3
    have r3f1 := free_of_blk (i := 1) r3
    have r3f2 := free_of_blk (i := 2) r3
    clear t3 u3 r3
    go_wp2
    refine bodyPost_ret (v := .agg #[.int .i64 0, .slice none 0 0, .slice none 0 0]) (by simp [results, Tryd.results41, go_sem, r3c0, r3c1, r3c2]) rfl ?_
    first | exact ⟨leaf 0, rfl, fun _ _ => leaf_in _ _ _, by rw [HA.out, strip_leaf]; exact (joinT_any H1.out H2.out (fun e => HN.out ⟨e.1, e.2.1⟩)).symm, (((B3.out.setCell (by have := HGW.out; simp; omega) _).setCell (by have := HGW.out; simp; omega) _).setCell (by have := HGW.out; simp; omega) _)⟩ | exact ⟨leaf 0, rfl, fun _ _ => leaf_in _ _ _, by rw [HA.out, strip_leaf]; exact (joinT_any H1.out H2.out (fun e => HN.out ⟨e.1, e.2.1⟩)).symm, B3.out⟩
  rw [tb_true hm] at HMA
  have HMM := Lib.hid hm
  clear hm
  go_wp2_with fail
  with_reducible refine ((HMA.out w2 B2.out)).mono ?_
  rintro e w3 ⟨rfl, hb3⟩
  have T3 := Lib.hid (T2.out.below hb3)
  have U3 := Lib.hid (U2.out.below hb3)
  have R3 := Lib.hid (R2.out.below hb3)
  have B3 := Lib.hid (B2.out.trans (hb3.mono B2.out.size))
  have G3 : g + 2 < w3.heap.size := blk_lt R3.out
  clear hb3
  have t3 := T3.out
  have t3c0 := t3.c0
  have t3c1 := t3.c1
  have t3c2 := t3.c2
  have t3lt := t3.lt
  have u3 := U3.out
  have u3c0 := u3.c0
  have u3c1 := u3.c1
  have u3c2 := u3.c2
  have u3lt := u3.lt
  have r3 := R3.out
  have r3c0 := cell_of_blk (i := 0) r3 rfl
  have r3c1 := cell_of_blk (i := 1) r3 rfl
  have r3c2 := cell_of_blk (i := 2) r3 rfl
  have r3f0 := free_of_blk (i := 0) r3
  have r3f1 := free_of_blk (i := 1) r3
  have r3f2 := free_of_blk (i := 2) r3
  clear t3 u3 r3
  by_cases ft : Flat t.kind
  case neg =>
    rw [tb_false ft] at HF1
    have HN := Lib.hid ft
    clear ft
    go_wp2_with fail
    with_reducible refine ((HF1.out w3)).mono ?_
    rintro e w4 ⟨rfl, hb4⟩
    have T4 := Lib.hid (T3.out.below hb4)
    have U4 := Lib.hid (U3.out.below hb4)
    have R4 := Lib.hid (R3.out.below hb4)
    have B4 := Lib.hid (B3.out.trans (hb4.mono B3.out.size))
    have G4 : g + 2 < w4.heap.size := blk_lt R4.out
    clear hb4
    have t4 := T4.out
    have t4c0 := t4.c0
    have t4c1 := t4.c1
    have t4c2 := t4.c2
    have t4lt := t4.lt
    have u4 := U4.out
    have u4c0 := u4.c0
    have u4c1 := u4.c1
    have u4c2 := u4.c2
    have u4lt := u4.lt
    have r4 := R4.out
    have r4c0 := cell_of_blk (i := 0) r4 rfl
    have r4c1 := cell_of_blk (i := 1) r4 rfl
    have r4c2 := cell_of_blk (i := 2) r4 rfl
    have r4f0 := free_of_blk (i := 0) r4
    have r4f1 := free_of_blk (i := 1) r4
    have r4f2 := free_of_blk (i := 2) r4
    clear t4 u4 r4
    go_wp2
    refine bodyPost_ret (v := .agg #[.int .i64 0, .slice none 0 0, .slice none 0 0]) (by simp [results, Tryd.results41, go_sem, r4c0, r4c1, r4c2]) rfl ?_
    first | exact ⟨leaf 0, rfl, fun _ _ => leaf_in _ _ _, by rw [HA.out, strip_leaf]; exact (joinT_any H1.out H2.out (fun e => HN.out (by have := e.2.2.1; rwa [HKT.out] at this))).symm, (((B4.out.setCell (by have := HGW.out; simp; omega) _).setCell (by have := HGW.out; simp; omega) _).setCell (by have := HGW.out; simp; omega) _)⟩ | exact ⟨leaf 0, rfl, fun _ _ => leaf_in _ _ _, by rw [HA.out, strip_leaf]; exact (joinT_any H1.out H2.out (fun e => HN.out (by have := e.2.2.1; rwa [HKT.out] at this))).symm, B4.out⟩
  rw [tb_true ft] at HF1
  have HFT := Lib.hid ft
  clear ft
  go_wp2_with fail
  with_reducible refine ((HF1.out w3)).mono ?_
  rintro e w4 ⟨rfl, hb4⟩
  have T4 := Lib.hid (T3.out.below hb4)
  have U4 := Lib.hid (U3.out.below hb4)
  have R4 := Lib.hid (R3.out.below hb4)
  have B4 := Lib.hid (B3.out.trans (hb4.mono B3.out.size))
  have G4 : g + 2 < w4.heap.size := blk_lt R4.out
  clear hb4
  have t4 := T4.out
  have t4c0 := t4.c0
  have t4c1 := t4.c1
  have t4c2 := t4.c2
  have t4lt := t4.lt
  have u4 := U4.out
  have u4c0 := u4.c0
  have u4c1 := u4.c1
  have u4c2 := u4.c2
  have u4lt := u4.lt
  have r4 := R4.out
  have r4c0 := cell_of_blk (i := 0) r4 rfl
  have r4c1 := cell_of_blk (i := 1) r4 rfl
  have r4c2 := cell_of_blk (i := 2) r4 rfl
  have r4f0 := free_of_blk (i := 0) r4
  have r4f1 := free_of_blk (i := 1) r4
  have r4f2 := free_of_blk (i := 2) r4
  clear t4 u4 r4
  by_cases fu : Flat u.kind
  case neg =>
    rw [tb_false fu] at HF2
    have HN := Lib.hid fu
    clear fu
    go_wp2_with fail
    with_reducible refine ((HF2.out w4)).mono ?_
    rintro e w5 ⟨rfl, hb5⟩
    have T5 := Lib.hid (T4.out.below hb5)
    have U5 := Lib.hid (U4.out.below hb5)
    have R5 := Lib.hid (R4.out.below hb5)
    have B5 := Lib.hid (B4.out.trans (hb5.mono B4.out.size))
    have G5 : g + 2 < w5.heap.size := blk_lt R5.out
    clear hb5
    have t5 := T5.out
    have t5c0 := t5.c0
    have t5c1 := t5.c1
    have t5c2 := t5.c2
    have t5lt := t5.lt
    have u5 := U5.out
    have u5c0 := u5.c0
    have u5c1 := u5.c1
    have u5c2 := u5.c2
    have u5lt := u5.lt
    have r5 := R5.out
    have r5c0 := cell_of_blk (i := 0) r5 rfl
    have r5c1 := cell_of_blk (i := 1) r5 rfl
    have r5c2 := cell_of_blk (i := 2) r5 rfl
    have r5f0 := free_of_blk (i := 0) r5
    have r5f1 := free_of_blk (i := 1) r5
    have r5f2 := free_of_blk (i := 2) r5
    clear t5 u5 r5
    go_wp2
    refine bodyPost_ret (v := .agg #[.int .i64 0, .slice none 0 0, .slice none 0 0]) (by simp [results, Tryd.results41, go_sem, r5c0, r5c1, r5c2]) rfl ?_
    first | exact ⟨leaf 0, rfl, fun _ _ => leaf_in _ _ _, by rw [HA.out, strip_leaf]; exact (joinT_any H1.out H2.out (fun e => HN.out (by have := e.2.2.2; rwa [HKU.out] at this))).symm, (((B5.out.setCell (by have := HGW.out; simp; omega) _).setCell (by have := HGW.out; simp; omega) _).setCell (by have := HGW.out; simp; omega) _)⟩ | exact ⟨leaf 0, rfl, fun _ _ => leaf_in _ _ _, by rw [HA.out, strip_leaf]; exact (joinT_any H1.out H2.out (fun e => HN.out (by have := e.2.2.2; rwa [HKU.out] at this))).symm, B5.out⟩
  rw [tb_true fu] at HF2
  have HJ := Lib.hid (joinT_flat H1.out H2.out ⟨HMM.out.1, HMM.out.2, by rw [HKT.out]; exact HFT.out, by rw [HKU.out]; exact fu⟩)
  clear fu
  go_wp2_with fail
  with_reducible refine ((HF2.out w4)).mono ?_
  rintro e w5 ⟨rfl, hb5⟩
  have T5 := Lib.hid (T4.out.below hb5)
  have U5 := Lib.hid (U4.out.below hb5)
  have R5 := Lib.hid (R4.out.below hb5)
  have B5 := Lib.hid (B4.out.trans (hb5.mono B4.out.size))
  have G5 : g + 2 < w5.heap.size := blk_lt R5.out
  clear hb5
  have t5 := T5.out
  have t5c0 := t5.c0
  have t5c1 := t5.c1
  have t5c2 := t5.c2
  have t5lt := t5.lt
  have u5 := U5.out
  have u5c0 := u5.c0
  have u5c1 := u5.c1
  have u5c2 := u5.c2
  have u5lt := u5.lt
  have r5 := R5.out
  have r5c0 := cell_of_blk (i := 0) r5 rfl
  have r5c1 := cell_of_blk (i := 1) r5 rfl
  have r5c2 := cell_of_blk (i := 2) r5 rfl
  have r5f0 := free_of_blk (i := 0) r5
  have r5f1 := free_of_blk (i := 1) r5
  have r5f2 := free_of_blk (i := 2) r5
  clear t5 u5 r5
  have HK1 := Lib.hid (show ∀ w', Below w.heap.size w w' → Calls Tryd.prog 20 #[.agg #[.int .i64 t.kind, .slice t.A t.ns.length t.c, .slice t.A2 t.xs.length t.c2]] w' (RetB (.int .i64 (kindsT (strip t) : Nat)) w') from fun w' hb => by
    have := tkinds_any t w' (HT.out.on hb) (HSP.out.below hb)
    rw [kindsV_yes HMM.out.1] at this
    unfold LTy.val at this
    exact this)
  have HK2 := Lib.hid (show ∀ w', Below w.heap.size w w' → Calls Tryd.prog 20 #[.agg #[.int .i64 u.kind, .slice u.A u.ns.length u.c, .slice u.A2 u.xs.length u.c2]] w' (RetB (.int .i64 (kindsT (strip u) : Nat)) w') from fun w' hb => by
    have := tkinds_any u w' (HU.out.on hb) (HSP.out.below hb)
    rw [kindsV_yes HMM.out.2] at this
    unfold LTy.val at this
    exact this)
  have hor128 : kindsT (strip t) ||| kindsT (strip u) < 128 := Nat.or_lt_two_pow (n := 7) (kinds128 _) (kinds128 _)
  have HKN := Lib.hid (kindsN_nat hor128)
  have HOR := Lib.hid (or_i64 (kinds128 (strip t)) (kinds128 (strip u)))
  clear hor128
  go_wp2_with fail
  refine wp_region_held_drew (S := fun w' => TBox w' g t ∧ TBox w' (g + 1) u) (by kernel_rfl) (⟨T5.out, U5.out⟩) (fun hHeld => ?_)
  refine wpAnyH_take (i := 0) (oi := _) (v := .agg #[.int .i64 t.kind, .slice t.A t.ns.length t.c, .slice t.A2 t.xs.length t.c2]) rfl (by kernel_rfl) (by kernel_rfl) (by kernel_rfl) (fun _ _ _ h => h) (Or.inl ⟨by rfl, fun w' hS => (by have q0 := TBox.c0 hS.1; have q1 := TBox.c1 hS.1; have q2 := TBox.c2 hS.1; go_simp)⟩) hHeld ?_
  change wpAnyH _ _ _ _ _ _ _ (Act.put _ (some 27) _) _
  try simp only [Act.put, List.setIfInBounds_toArray, List.set_cons_zero, List.set_cons_succ]
  refine wpAnyH_take (i := 2) (oi := _) (v := .agg #[.int .i64 u.kind, .slice u.A u.ns.length u.c, .slice u.A2 u.xs.length u.c2]) rfl (by kernel_rfl) (by kernel_rfl) (by kernel_rfl) (fun _ _ _ h => h) (Or.inl ⟨by rfl, fun w' hS => (by have q0 := TBox.c0 hS.2; have q1 := TBox.c1 hS.2; have q2 := TBox.c2 hS.2; go_simp)⟩) hHeld ?_
  change wpAnyH _ _ _ _ _ _ _ (Act.put _ (some 29) _) _
  try simp only [Act.put, List.setIfInBounds_toArray, List.set_cons_zero, List.set_cons_succ]
  refine wpAnyH_ready (rs := [1]) (by kernel_rfl) (by simp) ?_
  refine AllReadyH.cons (o := _) rfl (fun K hK => ?_) AllReadyH.nil
  go_simp
  with_reducible refine (HK1.out _ B5.out.drew).mono ?_
  rintro e v1 ⟨rfl, hc1⟩
  have C1 := Lib.hid (show Below w5.heap.size w5 v1 from (Below.refl _ _).drew.trans hc1)
  clear hc1
  refine hK.out _ _ (⟨T5.out.below C1.out, U5.out.below C1.out⟩) (fun hHeld => ?_)
  clear hK K
  try simp only [Act.put, List.setIfInBounds_toArray, List.set_cons_zero, List.set_cons_succ]
  refine wpAnyH_ready (rs := [3]) (by kernel_rfl) (by simp) ?_
  refine AllReadyH.cons (o := _) rfl (fun K hK => ?_) AllReadyH.nil
  go_simp
  with_reducible refine (HK2.out _ (B5.out.trans (C1.out.mono B5.out.size))).mono ?_
  rintro e v2 ⟨rfl, hc2⟩
  have C2 := Lib.hid (C1.out.trans (hc2.mono C1.out.size))
  clear hc2
  refine hK.out _ _ (⟨T5.out.below C2.out, U5.out.below C2.out⟩) (fun hHeld => ?_)
  clear hK K
  try simp only [Act.put, List.setIfInBounds_toArray, List.set_cons_zero, List.set_cons_succ]
  refine wpAnyH_take (i := 4) (oi := _) (v := .int .i64 (bits .or .i64 (kindsT (strip t) : Nat) (kindsT (strip u) : Nat))) rfl (by kernel_rfl) (by kernel_rfl) (by kernel_rfl) (fun _ _ _ h => h) (Or.inl ⟨by rfl, fun w' hS => (by go_simp)⟩) hHeld ?_
  change wpAnyH _ _ _ _ _ _ _ (Act.put _ (some 31) _) _
  try simp only [Act.put, List.setIfInBounds_toArray, List.set_cons_zero, List.set_cons_succ]
  refine wpAnyH_ready (rs := [5]) (by kernel_rfl) (by simp) ?_
  refine AllReadyH.cons (o := _) rfl (fun K hK => ?_) AllReadyH.nil
  go_simp
  rw [HOR.out]
  with_reducible refine (tunion_any _ _).mono ?_
  rintro e v3 ⟨r, rfl, hlive, hstr, hc3⟩
  have C3 := Lib.hid (C2.out.trans (hc3.mono C2.out.size))
  have HLV := Lib.hid hlive
  have HST := Lib.hid hstr
  have HC2 := Lib.hid C2.out.size
  have rz := R5.out.below C3.out
  have z0 := cell_of_blk (i := 0) rz rfl
  have z1 := cell_of_blk (i := 1) rz rfl
  have z2 := cell_of_blk (i := 2) rz rfl
  have zf0 := free_of_blk (i := 0) rz
  have zf1 := free_of_blk (i := 1) rz
  have zf2 := free_of_blk (i := 2) rz
  have RZ := Lib.hid rz
  have zl : g + 2 < v3.heap.size := blk_lt rz
  clear hlive hstr hc3 rz
  refine hK.out _ _ (⟨T5.out.below C3.out, U5.out.below C3.out⟩) (fun hHeld => ?_)
  clear hK K
  try simp only [Act.put, List.setIfInBounds_toArray, List.set_cons_zero, List.set_cons_succ]
  unfold LTy.val
  refine wpAnyH_ready (rs := [6]) (by kernel_rfl) (by simp) ?_
  refine AllReadyH.cons (o := _) rfl (fun K hK => ?_) AllReadyH.nil
  go_simp
  refine hK.out _ _ (⟨tbox_set3 (T5.out.below C3.out) (by omega) _ _ _, tbox_set3 (U5.out.below C3.out) (by omega) _ _ _⟩) (fun hHeld => ?_)
  clear hK K
  try simp only [Act.put, List.setIfInBounds_toArray, List.set_cons_zero, List.set_cons_succ]
  refine wpAnyH_done (by kernel_rfl) ?_ _
  go_wp2
  refine bodyPost_ret (v := .agg #[.int .i64 r.kind, .slice r.A r.ns.length r.c, .slice r.A2 r.xs.length r.c2]) (by simp [results, Tryd.results41, go_sem, z0, z1, z2]) rfl ?_
  have hbw : Below w.heap.size w v3 := B5.out.trans (C3.out.mono B5.out.size)
  have hsz : w.heap.size ≤ g + 2 := HGW.out
  refine ⟨r, rfl, lives_new HLV.out ?_ (fun b hb hlt => set3_heap v3 (g + 2) _ _ _ ?_) (Nat.le_of_eq (set3_size v3 (g + 2) _ _ _).symm), ?_, ((hbw.setCell (by simp; omega) _).setCell (by simp; omega) _).setCell (by simp; omega) _⟩
  · have := HC2.out; have := B5.out.size; omega
  · have := HC2.out; omega
  · rw [HST.out, HKN.out, HA.out]; exact HJ.out.symm
set_option maxRecDepth 100000 in
set_option maxHeartbeats 8000000 in
theorem rJoin_any (t u : LTy) (w : World) (B : Nat) (hB : B ≤ w.heap.size) (ht : LIn w B t) (hu : LIn w B u) : Calls Tryd.prog 44 #[t.val, u.val] w (RetT B (joinT (strip t) (strip u)) w) := by
  obtain ⟨ans, hans⟩ : ∃ ans, ans = joinT (strip t) (strip u) := ⟨_, rfl⟩
  rw [← hans]
  have HA := Lib.hid hans
  unfold LTy.val
  obtain ⟨g, hg⟩ : ∃ g, g = w.heap.size := ⟨_, rfl⟩
  have HOT := Lib.hid ht
  have HOU := Lib.hid hu
  have HBB := Lib.hid hB
  have HT := Lib.hid (ht.more hB)
  have HU := Lib.hid (hu.more hB)
  have HKT := Lib.hid (strip_kind t)
  have HKU := Lib.hid (strip_kind u)
  clear hans ht hu hB
  go_enter Tryd.func44, Tryd.ntmps44
  go_upto_region 1 with fail
  rw [← hg]
  refine gen_wpT fun w0 hW => ?_
  obtain ⟨kt, ku, kr, kb⟩ : TBox w0 g t ∧ TBox w0 (g + 1) u ∧ ZBox w0 (g + 2) ∧ Below w.heap.size w w0 := by rw [← hW, hg]; exact three_boxes w t u
  have T0 := Lib.hid kt
  have U0 := Lib.hid ku
  have R0 := Lib.hid kr
  have B0 := Lib.hid kb
  have HGW := Lib.hid (show w.heap.size ≤ g + 2 by omega)
  have G0 : g + 2 < w0.heap.size := blk_lt kr
  clear hW hg kt ku kr kb
  have t0 := T0.out
  have t0c0 := t0.c0
  have t0c1 := t0.c1
  have t0c2 := t0.c2
  have t0lt := t0.lt
  have u0 := U0.out
  have u0c0 := u0.c0
  have u0c1 := u0.c1
  have u0c2 := u0.c2
  have u0lt := u0.lt
  have r0 := R0.out
  have r0c0 := cell_of_blk (i := 0) r0 rfl
  have r0c1 := cell_of_blk (i := 1) r0 rfl
  have r0c2 := cell_of_blk (i := 2) r0 rfl
  have r0f0 := free_of_blk (i := 0) r0
  have r0f1 := free_of_blk (i := 1) r0
  have r0f2 := free_of_blk (i := 2) r0
  clear t0 u0 r0
  have HMA := Lib.hid (show ∀ w', Below w.heap.size w w' → Calls Tryd.prog 52 #[.agg #[.int .i64 t.kind, .slice t.A t.ns.length t.c, .slice t.A2 t.xs.length t.c2], .agg #[.int .i64 u.kind, .slice u.A u.ns.length u.c, .slice u.A2 u.xs.length u.c2]] w' (RetB (.bool (tb (May (strip t) ∧ May (strip u)))) w') from fun w' hb => both_any t u w' (HT.out.on hb) (HU.out.on hb))
  have HF1 := Lib.hid (show ∀ w', Calls Tryd.prog 68 #[.agg #[.int .i64 t.kind, .slice t.A t.ns.length t.c, .slice t.A2 t.xs.length t.c2]] w' (RetB (.bool (tb (Flat t.kind))) w') from fun w' => r10flat_any t w')
  have HF2 := Lib.hid (show ∀ w', Calls Tryd.prog 68 #[.agg #[.int .i64 u.kind, .slice u.A u.ns.length u.c, .slice u.A2 u.xs.length u.c2]] w' (RetB (.bool (tb (Flat u.kind))) w') from fun w' => r10flat_any u w')
  by_cases hm : May (strip t) ∧ May (strip u)
  case neg =>
    rw [tb_false hm] at HMA
    have HN := Lib.hid hm
    clear hm
    go_wp2_with fail
    with_reducible refine ((HMA.out w0 B0.out)).mono ?_
    rintro e w1 ⟨rfl, hb1⟩
    have T1 := Lib.hid (T0.out.below hb1)
    have U1 := Lib.hid (U0.out.below hb1)
    have R1 := Lib.hid (R0.out.below hb1)
    have B1 := Lib.hid (B0.out.trans (hb1.mono B0.out.size))
    have G1 : g + 2 < w1.heap.size := blk_lt R1.out
    clear hb1
    have t1 := T1.out
    have t1c0 := t1.c0
    have t1c1 := t1.c1
    have t1c2 := t1.c2
    have t1lt := t1.lt
    have u1 := U1.out
    have u1c0 := u1.c0
    have u1c1 := u1.c1
    have u1c2 := u1.c2
    have u1lt := u1.lt
    have r1 := R1.out
    have r1c0 := cell_of_blk (i := 0) r1 rfl
    have r1c1 := cell_of_blk (i := 1) r1 rfl
    have r1c2 := cell_of_blk (i := 2) r1 rfl
    have r1f0 := free_of_blk (i := 0) r1
    have r1f1 := free_of_blk (i := 1) r1
    have r1f2 := free_of_blk (i := 2) r1
    clear t1 u1 r1
    go_wp2
    refine bodyPost_ret (v := .agg #[.int .i64 0, .slice none 0 0, .slice none 0 0]) (by simp [results, Tryd.results44, go_sem, r1c0, r1c1, r1c2]) rfl ?_
    first | exact ⟨leaf 0, rfl, fun _ _ => leaf_in _ _ _, by rw [HA.out, strip_leaf]; exact (joinT_any (fun e => HN.out ⟨e.1, e.2.1⟩) (fun e => HN.out ⟨e.2.1, e.1⟩) (fun e => HN.out ⟨e.1, e.2.1⟩)).symm, (((B1.out.setCell (by have := HGW.out; simp; omega) _).setCell (by have := HGW.out; simp; omega) _).setCell (by have := HGW.out; simp; omega) _)⟩ | exact ⟨leaf 0, rfl, fun _ _ => leaf_in _ _ _, by rw [HA.out, strip_leaf]; exact (joinT_any (fun e => HN.out ⟨e.1, e.2.1⟩) (fun e => HN.out ⟨e.2.1, e.1⟩) (fun e => HN.out ⟨e.1, e.2.1⟩)).symm, B1.out⟩
  rw [tb_true hm] at HMA
  have HMM := Lib.hid hm
  clear hm
  have HS1 := Lib.hid (show ∀ w', Below w.heap.size w w' → Calls Tryd.prog 53 #[.agg #[.int .i64 t.kind, .slice t.A t.ns.length t.c, .slice t.A2 t.xs.length t.c2], .agg #[.int .i64 u.kind, .slice u.A u.ns.length u.c, .slice u.A2 u.xs.length u.c2]] w' (RetB (.bool (tb (Sub (strip t) (strip u)))) w') from fun w' hb => by
    have := rsub_all 50 t u w' (HT.out.on hb) (HU.out.on hb) HMM.out.1 HMM.out.2 HMM.out.1.1 HMM.out.2.1
    rw [tb_congr (show Goes false 50 (strip t) (strip u) ↔ Sub (strip t) (strip u) from ⟨fun e => ⟨HMM.out.1, HMM.out.2, e⟩, fun e => e.2.2⟩)] at this
    exact this)
  have HS2 := Lib.hid (show ∀ w', Below w.heap.size w w' → Calls Tryd.prog 53 #[.agg #[.int .i64 u.kind, .slice u.A u.ns.length u.c, .slice u.A2 u.xs.length u.c2], .agg #[.int .i64 t.kind, .slice t.A t.ns.length t.c, .slice t.A2 t.xs.length t.c2]] w' (RetB (.bool (tb (Sub (strip u) (strip t)))) w') from fun w' hb => by
    have := rsub_all 50 u t w' (HU.out.on hb) (HT.out.on hb) HMM.out.2 HMM.out.1 HMM.out.2.1 HMM.out.1.1
    rw [tb_congr (show Goes false 50 (strip u) (strip t) ↔ Sub (strip u) (strip t) from ⟨fun e => ⟨HMM.out.2, HMM.out.1, e⟩, fun e => e.2.2⟩)] at this
    exact this)
  go_wp2_with fail
  with_reducible refine ((HMA.out w0 B0.out)).mono ?_
  rintro e w1 ⟨rfl, hb1⟩
  have T1 := Lib.hid (T0.out.below hb1)
  have U1 := Lib.hid (U0.out.below hb1)
  have R1 := Lib.hid (R0.out.below hb1)
  have B1 := Lib.hid (B0.out.trans (hb1.mono B0.out.size))
  have G1 : g + 2 < w1.heap.size := blk_lt R1.out
  clear hb1
  have t1 := T1.out
  have t1c0 := t1.c0
  have t1c1 := t1.c1
  have t1c2 := t1.c2
  have t1lt := t1.lt
  have u1 := U1.out
  have u1c0 := u1.c0
  have u1c1 := u1.c1
  have u1c2 := u1.c2
  have u1lt := u1.lt
  have r1 := R1.out
  have r1c0 := cell_of_blk (i := 0) r1 rfl
  have r1c1 := cell_of_blk (i := 1) r1 rfl
  have r1c2 := cell_of_blk (i := 2) r1 rfl
  have r1f0 := free_of_blk (i := 0) r1
  have r1f1 := free_of_blk (i := 1) r1
  have r1f2 := free_of_blk (i := 2) r1
  clear t1 u1 r1
  by_cases h1 : Sub (strip t) (strip u)
  · rw [tb_true h1] at HS1
    have H1 := Lib.hid h1
    clear h1
    go_wp2_with fail
    with_reducible refine ((HS1.out w1 B1.out)).mono ?_
    rintro e w2 ⟨rfl, hb2⟩
    have T2 := Lib.hid (T1.out.below hb2)
    have U2 := Lib.hid (U1.out.below hb2)
    have R2 := Lib.hid (R1.out.below hb2)
    have B2 := Lib.hid (B1.out.trans (hb2.mono B1.out.size))
    have G2 : g + 2 < w2.heap.size := blk_lt R2.out
    clear hb2
    have t2 := T2.out
    have t2c0 := t2.c0
    have t2c1 := t2.c1
    have t2c2 := t2.c2
    have t2lt := t2.lt
    have u2 := U2.out
    have u2c0 := u2.c0
    have u2c1 := u2.c1
    have u2c2 := u2.c2
    have u2lt := u2.lt
    have r2 := R2.out
    have r2c0 := cell_of_blk (i := 0) r2 rfl
    have r2c1 := cell_of_blk (i := 1) r2 rfl
    have r2c2 := cell_of_blk (i := 2) r2 rfl
    have r2f0 := free_of_blk (i := 0) r2
    have r2f1 := free_of_blk (i := 1) r2
    have r2f2 := free_of_blk (i := 2) r2
    clear t2 u2 r2
    go_wp2
    refine bodyPost_ret (v := .agg #[.int .i64 u.kind, .slice u.A u.ns.length u.c, .slice u.A2 u.xs.length u.c2]) (by simp [results, Tryd.results44, go_sem, r2c0, r2c1, r2c2]) rfl ?_
    exact ⟨u, rfl, lives_old HBB.out HOU.out (((B2.out.setCell (by have := HGW.out; simp; omega) _).setCell (by have := HGW.out; simp; omega) _).setCell (by have := HGW.out; simp; omega) _), by rw [HA.out]; exact (joinT_one H1.out).symm, (((B2.out.setCell (by have := HGW.out; simp; omega) _).setCell (by have := HGW.out; simp; omega) _).setCell (by have := HGW.out; simp; omega) _)⟩
  rw [tb_false h1] at HS1
  have H1 := Lib.hid h1
  clear h1
  go_wp2_with fail
  with_reducible refine ((HS1.out w1 B1.out)).mono ?_
  rintro e w2 ⟨rfl, hb2⟩
  have T2 := Lib.hid (T1.out.below hb2)
  have U2 := Lib.hid (U1.out.below hb2)
  have R2 := Lib.hid (R1.out.below hb2)
  have B2 := Lib.hid (B1.out.trans (hb2.mono B1.out.size))
  have G2 : g + 2 < w2.heap.size := blk_lt R2.out
  clear hb2
  have t2 := T2.out
  have t2c0 := t2.c0
  have t2c1 := t2.c1
  have t2c2 := t2.c2
  have t2lt := t2.lt
  have u2 := U2.out
  have u2c0 := u2.c0
  have u2c1 := u2.c1
  have u2c2 := u2.c2
  have u2lt := u2.lt
  have r2 := R2.out
  have r2c0 := cell_of_blk (i := 0) r2 rfl
  have r2c1 := cell_of_blk (i := 1) r2 rfl
  have r2c2 := cell_of_blk (i := 2) r2 rfl
  have r2f0 := free_of_blk (i := 0) r2
  have r2f1 := free_of_blk (i := 1) r2
  have r2f2 := free_of_blk (i := 2) r2
  clear t2 u2 r2
  by_cases h2 : Sub (strip u) (strip t)
  · rw [tb_true h2] at HS2
    have H2 := Lib.hid h2
    clear h2
    go_wp2_with fail
    with_reducible refine ((HS2.out w2 B2.out)).mono ?_
    rintro e w3 ⟨rfl, hb3⟩
    have T3 := Lib.hid (T2.out.below hb3)
    have U3 := Lib.hid (U2.out.below hb3)
    have R3 := Lib.hid (R2.out.below hb3)
    have B3 := Lib.hid (B2.out.trans (hb3.mono B2.out.size))
    have G3 : g + 2 < w3.heap.size := blk_lt R3.out
    clear hb3
    have t3 := T3.out
    have t3c0 := t3.c0
    have t3c1 := t3.c1
    have t3c2 := t3.c2
    have t3lt := t3.lt
    have u3 := U3.out
    have u3c0 := u3.c0
    have u3c1 := u3.c1
    have u3c2 := u3.c2
    have u3lt := u3.lt
    have r3 := R3.out
    have r3c0 := cell_of_blk (i := 0) r3 rfl
    have r3c1 := cell_of_blk (i := 1) r3 rfl
    have r3c2 := cell_of_blk (i := 2) r3 rfl
    have r3f0 := free_of_blk (i := 0) r3
    have r3f1 := free_of_blk (i := 1) r3
    have r3f2 := free_of_blk (i := 2) r3
    clear t3 u3 r3
    go_wp2
    refine bodyPost_ret (v := .agg #[.int .i64 t.kind, .slice t.A t.ns.length t.c, .slice t.A2 t.xs.length t.c2]) (by simp [results, Tryd.results44, go_sem, r3c0, r3c1, r3c2]) rfl ?_
    exact ⟨t, rfl, lives_old HBB.out HOT.out (((B3.out.setCell (by have := HGW.out; simp; omega) _).setCell (by have := HGW.out; simp; omega) _).setCell (by have := HGW.out; simp; omega) _), by rw [HA.out]; exact (joinT_two H1.out H2.out).symm, (((B3.out.setCell (by have := HGW.out; simp; omega) _).setCell (by have := HGW.out; simp; omega) _).setCell (by have := HGW.out; simp; omega) _)⟩
  rw [tb_false h2] at HS2
  have H2 := Lib.hid h2
  clear h2
  go_wp2_with fail
  with_reducible refine ((HS2.out w2 B2.out)).mono ?_
  rintro e w3 ⟨rfl, hb3⟩
  have T3 := Lib.hid (T2.out.below hb3)
  have U3 := Lib.hid (U2.out.below hb3)
  have R3 := Lib.hid (R2.out.below hb3)
  have B3 := Lib.hid (B2.out.trans (hb3.mono B2.out.size))
  have G3 : g + 2 < w3.heap.size := blk_lt R3.out
  clear hb3
  have t3 := T3.out
  have t3c0 := t3.c0
  have t3c1 := t3.c1
  have t3c2 := t3.c2
  have t3lt := t3.lt
  have u3 := U3.out
  have u3c0 := u3.c0
  have u3c1 := u3.c1
  have u3c2 := u3.c2
  have u3lt := u3.lt
  have r3 := R3.out
  have r3c0 := cell_of_blk (i := 0) r3 rfl
  have r3c1 := cell_of_blk (i := 1) r3 rfl
  have r3c2 := cell_of_blk (i := 2) r3 rfl
  have r3f0 := free_of_blk (i := 0) r3
  have r3f1 := free_of_blk (i := 1) r3
  have r3f2 := free_of_blk (i := 2) r3
  clear t3 u3 r3
  by_cases ft : Flat t.kind
  case neg =>
    rw [tb_false ft] at HF1
    have HN := Lib.hid ft
    clear ft
    go_wp2_with fail
    with_reducible refine ((HF1.out w3)).mono ?_
    rintro e w4 ⟨rfl, hb4⟩
    have T4 := Lib.hid (T3.out.below hb4)
    have U4 := Lib.hid (U3.out.below hb4)
    have R4 := Lib.hid (R3.out.below hb4)
    have B4 := Lib.hid (B3.out.trans (hb4.mono B3.out.size))
    have G4 : g + 2 < w4.heap.size := blk_lt R4.out
    clear hb4
    have t4 := T4.out
    have t4c0 := t4.c0
    have t4c1 := t4.c1
    have t4c2 := t4.c2
    have t4lt := t4.lt
    have u4 := U4.out
    have u4c0 := u4.c0
    have u4c1 := u4.c1
    have u4c2 := u4.c2
    have u4lt := u4.lt
    have r4 := R4.out
    have r4c0 := cell_of_blk (i := 0) r4 rfl
    have r4c1 := cell_of_blk (i := 1) r4 rfl
    have r4c2 := cell_of_blk (i := 2) r4 rfl
    have r4f0 := free_of_blk (i := 0) r4
    have r4f1 := free_of_blk (i := 1) r4
    have r4f2 := free_of_blk (i := 2) r4
    clear t4 u4 r4
    go_wp2
    refine bodyPost_ret (v := .agg #[.int .i64 0, .slice none 0 0, .slice none 0 0]) (by simp [results, Tryd.results44, go_sem, r4c0, r4c1, r4c2]) rfl ?_
    first | exact ⟨leaf 0, rfl, fun _ _ => leaf_in _ _ _, by rw [HA.out, strip_leaf]; exact (joinT_any H1.out H2.out (fun e => HN.out (by have := e.2.2.1; rwa [HKT.out] at this))).symm, (((B4.out.setCell (by have := HGW.out; simp; omega) _).setCell (by have := HGW.out; simp; omega) _).setCell (by have := HGW.out; simp; omega) _)⟩ | exact ⟨leaf 0, rfl, fun _ _ => leaf_in _ _ _, by rw [HA.out, strip_leaf]; exact (joinT_any H1.out H2.out (fun e => HN.out (by have := e.2.2.1; rwa [HKT.out] at this))).symm, B4.out⟩
  rw [tb_true ft] at HF1
  have HFT := Lib.hid ft
  clear ft
  go_wp2_with fail
  with_reducible refine ((HF1.out w3)).mono ?_
  rintro e w4 ⟨rfl, hb4⟩
  have T4 := Lib.hid (T3.out.below hb4)
  have U4 := Lib.hid (U3.out.below hb4)
  have R4 := Lib.hid (R3.out.below hb4)
  have B4 := Lib.hid (B3.out.trans (hb4.mono B3.out.size))
  have G4 : g + 2 < w4.heap.size := blk_lt R4.out
  clear hb4
  have t4 := T4.out
  have t4c0 := t4.c0
  have t4c1 := t4.c1
  have t4c2 := t4.c2
  have t4lt := t4.lt
  have u4 := U4.out
  have u4c0 := u4.c0
  have u4c1 := u4.c1
  have u4c2 := u4.c2
  have u4lt := u4.lt
  have r4 := R4.out
  have r4c0 := cell_of_blk (i := 0) r4 rfl
  have r4c1 := cell_of_blk (i := 1) r4 rfl
  have r4c2 := cell_of_blk (i := 2) r4 rfl
  have r4f0 := free_of_blk (i := 0) r4
  have r4f1 := free_of_blk (i := 1) r4
  have r4f2 := free_of_blk (i := 2) r4
  clear t4 u4 r4
  by_cases fu : Flat u.kind
  case neg =>
    rw [tb_false fu] at HF2
    have HN := Lib.hid fu
    clear fu
    go_wp2_with fail
    with_reducible refine ((HF2.out w4)).mono ?_
    rintro e w5 ⟨rfl, hb5⟩
    have T5 := Lib.hid (T4.out.below hb5)
    have U5 := Lib.hid (U4.out.below hb5)
    have R5 := Lib.hid (R4.out.below hb5)
    have B5 := Lib.hid (B4.out.trans (hb5.mono B4.out.size))
    have G5 : g + 2 < w5.heap.size := blk_lt R5.out
    clear hb5
    have t5 := T5.out
    have t5c0 := t5.c0
    have t5c1 := t5.c1
    have t5c2 := t5.c2
    have t5lt := t5.lt
    have u5 := U5.out
    have u5c0 := u5.c0
    have u5c1 := u5.c1
    have u5c2 := u5.c2
    have u5lt := u5.lt
    have r5 := R5.out
    have r5c0 := cell_of_blk (i := 0) r5 rfl
    have r5c1 := cell_of_blk (i := 1) r5 rfl
    have r5c2 := cell_of_blk (i := 2) r5 rfl
    have r5f0 := free_of_blk (i := 0) r5
    have r5f1 := free_of_blk (i := 1) r5
    have r5f2 := free_of_blk (i := 2) r5
    clear t5 u5 r5
    go_wp2
    refine bodyPost_ret (v := .agg #[.int .i64 0, .slice none 0 0, .slice none 0 0]) (by simp [results, Tryd.results44, go_sem, r5c0, r5c1, r5c2]) rfl ?_
    first | exact ⟨leaf 0, rfl, fun _ _ => leaf_in _ _ _, by rw [HA.out, strip_leaf]; exact (joinT_any H1.out H2.out (fun e => HN.out (by have := e.2.2.2; rwa [HKU.out] at this))).symm, (((B5.out.setCell (by have := HGW.out; simp; omega) _).setCell (by have := HGW.out; simp; omega) _).setCell (by have := HGW.out; simp; omega) _)⟩ | exact ⟨leaf 0, rfl, fun _ _ => leaf_in _ _ _, by rw [HA.out, strip_leaf]; exact (joinT_any H1.out H2.out (fun e => HN.out (by have := e.2.2.2; rwa [HKU.out] at this))).symm, B5.out⟩
  rw [tb_true fu] at HF2
  have HJ := Lib.hid (joinT_flat H1.out H2.out ⟨HMM.out.1, HMM.out.2, by rw [HKT.out]; exact HFT.out, by rw [HKU.out]; exact fu⟩)
  clear fu
  go_wp2_with fail
  with_reducible refine ((HF2.out w4)).mono ?_
  rintro e w5 ⟨rfl, hb5⟩
  have T5 := Lib.hid (T4.out.below hb5)
  have U5 := Lib.hid (U4.out.below hb5)
  have R5 := Lib.hid (R4.out.below hb5)
  have B5 := Lib.hid (B4.out.trans (hb5.mono B4.out.size))
  have G5 : g + 2 < w5.heap.size := blk_lt R5.out
  clear hb5
  have t5 := T5.out
  have t5c0 := t5.c0
  have t5c1 := t5.c1
  have t5c2 := t5.c2
  have t5lt := t5.lt
  have u5 := U5.out
  have u5c0 := u5.c0
  have u5c1 := u5.c1
  have u5c2 := u5.c2
  have u5lt := u5.lt
  have r5 := R5.out
  have r5c0 := cell_of_blk (i := 0) r5 rfl
  have r5c1 := cell_of_blk (i := 1) r5 rfl
  have r5c2 := cell_of_blk (i := 2) r5 rfl
  have r5f0 := free_of_blk (i := 0) r5
  have r5f1 := free_of_blk (i := 1) r5
  have r5f2 := free_of_blk (i := 2) r5
  clear t5 u5 r5
  have HK1 := Lib.hid (show ∀ w', Below w.heap.size w w' → Calls Tryd.prog 37 #[.agg #[.int .i64 t.kind, .slice t.A t.ns.length t.c, .slice t.A2 t.xs.length t.c2]] w' (RetB (.int .i64 (kindsT (strip t) : Nat)) w') from fun w' hb => by
    have := rkinds_any t w' (HT.out.on hb)
    rw [kindsV_yes HMM.out.1] at this
    unfold LTy.val at this
    exact this)
  have HK2 := Lib.hid (show ∀ w', Below w.heap.size w w' → Calls Tryd.prog 37 #[.agg #[.int .i64 u.kind, .slice u.A u.ns.length u.c, .slice u.A2 u.xs.length u.c2]] w' (RetB (.int .i64 (kindsT (strip u) : Nat)) w') from fun w' hb => by
    have := rkinds_any u w' (HU.out.on hb)
    rw [kindsV_yes HMM.out.2] at this
    unfold LTy.val at this
    exact this)
  have hor128 : kindsT (strip t) ||| kindsT (strip u) < 128 := Nat.or_lt_two_pow (n := 7) (kinds128 _) (kinds128 _)
  have HKN := Lib.hid (kindsN_nat hor128)
  have HOR := Lib.hid (or_i64 (kinds128 (strip t)) (kinds128 (strip u)))
  clear hor128
  go_wp2_with fail
  refine wp_region_held_drew (S := fun w' => TBox w' g t ∧ TBox w' (g + 1) u) (by kernel_rfl) (⟨T5.out, U5.out⟩) (fun hHeld => ?_)
  refine wpAnyH_take (i := 0) (oi := _) (v := .agg #[.int .i64 t.kind, .slice t.A t.ns.length t.c, .slice t.A2 t.xs.length t.c2]) rfl (by kernel_rfl) (by kernel_rfl) (by kernel_rfl) (fun _ _ _ h => h) (Or.inl ⟨by rfl, fun w' hS => (by have q0 := TBox.c0 hS.1; have q1 := TBox.c1 hS.1; have q2 := TBox.c2 hS.1; go_simp)⟩) hHeld ?_
  change wpAnyH _ _ _ _ _ _ _ (Act.put _ (some 28) _) _
  try simp only [Act.put, List.setIfInBounds_toArray, List.set_cons_zero, List.set_cons_succ]
  refine wpAnyH_take (i := 2) (oi := _) (v := .agg #[.int .i64 u.kind, .slice u.A u.ns.length u.c, .slice u.A2 u.xs.length u.c2]) rfl (by kernel_rfl) (by kernel_rfl) (by kernel_rfl) (fun _ _ _ h => h) (Or.inl ⟨by rfl, fun w' hS => (by have q0 := TBox.c0 hS.2; have q1 := TBox.c1 hS.2; have q2 := TBox.c2 hS.2; go_simp)⟩) hHeld ?_
  change wpAnyH _ _ _ _ _ _ _ (Act.put _ (some 30) _) _
  try simp only [Act.put, List.setIfInBounds_toArray, List.set_cons_zero, List.set_cons_succ]
  refine wpAnyH_ready (rs := [1]) (by kernel_rfl) (by simp) ?_
  refine AllReadyH.cons (o := _) rfl (fun K hK => ?_) AllReadyH.nil
  go_simp
  with_reducible refine (HK1.out _ B5.out.drew).mono ?_
  rintro e v1 ⟨rfl, hc1⟩
  have C1 := Lib.hid (show Below w5.heap.size w5 v1 from (Below.refl _ _).drew.trans hc1)
  clear hc1
  refine hK.out _ _ (⟨T5.out.below C1.out, U5.out.below C1.out⟩) (fun hHeld => ?_)
  clear hK K
  try simp only [Act.put, List.setIfInBounds_toArray, List.set_cons_zero, List.set_cons_succ]
  refine wpAnyH_ready (rs := [3]) (by kernel_rfl) (by simp) ?_
  refine AllReadyH.cons (o := _) rfl (fun K hK => ?_) AllReadyH.nil
  go_simp
  with_reducible refine (HK2.out _ (B5.out.trans (C1.out.mono B5.out.size))).mono ?_
  rintro e v2 ⟨rfl, hc2⟩
  have C2 := Lib.hid (C1.out.trans (hc2.mono C1.out.size))
  clear hc2
  refine hK.out _ _ (⟨T5.out.below C2.out, U5.out.below C2.out⟩) (fun hHeld => ?_)
  clear hK K
  try simp only [Act.put, List.setIfInBounds_toArray, List.set_cons_zero, List.set_cons_succ]
  refine wpAnyH_take (i := 4) (oi := _) (v := .int .i64 (bits .or .i64 (kindsT (strip t) : Nat) (kindsT (strip u) : Nat))) rfl (by kernel_rfl) (by kernel_rfl) (by kernel_rfl) (fun _ _ _ h => h) (Or.inl ⟨by rfl, fun w' hS => (by go_simp)⟩) hHeld ?_
  change wpAnyH _ _ _ _ _ _ _ (Act.put _ (some 32) _) _
  try simp only [Act.put, List.setIfInBounds_toArray, List.set_cons_zero, List.set_cons_succ]
  refine wpAnyH_ready (rs := [5]) (by kernel_rfl) (by simp) ?_
  refine AllReadyH.cons (o := _) rfl (fun K hK => ?_) AllReadyH.nil
  go_simp
  rw [HOR.out]
  with_reducible refine (runion_any _ _).mono ?_
  rintro e v3 ⟨r, rfl, hlive, hstr, hc3⟩
  have C3 := Lib.hid (C2.out.trans (hc3.mono C2.out.size))
  have HLV := Lib.hid hlive
  have HST := Lib.hid hstr
  have HC2 := Lib.hid C2.out.size
  have rz := R5.out.below C3.out
  have z0 := cell_of_blk (i := 0) rz rfl
  have z1 := cell_of_blk (i := 1) rz rfl
  have z2 := cell_of_blk (i := 2) rz rfl
  have zf0 := free_of_blk (i := 0) rz
  have zf1 := free_of_blk (i := 1) rz
  have zf2 := free_of_blk (i := 2) rz
  have RZ := Lib.hid rz
  have zl : g + 2 < v3.heap.size := blk_lt rz
  clear hlive hstr hc3 rz
  refine hK.out _ _ (⟨T5.out.below C3.out, U5.out.below C3.out⟩) (fun hHeld => ?_)
  clear hK K
  try simp only [Act.put, List.setIfInBounds_toArray, List.set_cons_zero, List.set_cons_succ]
  unfold LTy.val
  refine wpAnyH_ready (rs := [6]) (by kernel_rfl) (by simp) ?_
  refine AllReadyH.cons (o := _) rfl (fun K hK => ?_) AllReadyH.nil
  go_simp
  refine hK.out _ _ (⟨tbox_set3 (T5.out.below C3.out) (by omega) _ _ _, tbox_set3 (U5.out.below C3.out) (by omega) _ _ _⟩) (fun hHeld => ?_)
  clear hK K
  try simp only [Act.put, List.setIfInBounds_toArray, List.set_cons_zero, List.set_cons_succ]
  refine wpAnyH_done (by kernel_rfl) ?_ _
  go_wp2
  refine bodyPost_ret (v := .agg #[.int .i64 r.kind, .slice r.A r.ns.length r.c, .slice r.A2 r.xs.length r.c2]) (by simp [results, Tryd.results44, go_sem, z0, z1, z2]) rfl ?_
  have hbw : Below w.heap.size w v3 := B5.out.trans (C3.out.mono B5.out.size)
  have hsz : w.heap.size ≤ g + 2 := HGW.out
  refine ⟨r, rfl, lives_new HLV.out ?_ (fun b hb hlt => set3_heap v3 (g + 2) _ _ _ ?_) (Nat.le_of_eq (set3_size v3 (g + 2) _ _ _).symm), ?_, ((hbw.setCell (by simp; omega) _).setCell (by simp; omega) _).setCell (by simp; omega) _⟩
  · have := HC2.out; have := B5.out.size; omega
  · have := HC2.out; omega
  · rw [HST.out, HKN.out, HA.out]; exact HJ.out.symm
end Go.Proofs.YtllpicibncdppaaDoor
