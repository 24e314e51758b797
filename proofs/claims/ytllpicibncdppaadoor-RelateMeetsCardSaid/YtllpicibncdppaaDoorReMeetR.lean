/-
  What two types say together: the reference's meet.
-/
import Derived.Test.YtllpicibncdppaaDoorReMeetP
import Derived.Deep.RegionLawGrows
set_option linter.unusedVariables false
set_option linter.unusedSimpArgs false
namespace Go.Proofs.YtllpicibncdppaaDoor
open Go.ChangeShapes Go.WideShapes Go.ChangeAt Go.RowKit

/-- append of a whole slice, nil or not, as one step of a region that draws its order. -/
theorem step_append_row {ops : Array Oper} {o : Oper} {a : Act} {w : World} {K : Act → World → Prop} {Q : Exit → Act → World → Prop} {E : Prop} (hgd : o.guard = none) (s x : Operand) (t e : TypeId) (i : TypeInfo) (z : Value) (size bytes : Nat)
    (ho : o.op = .call { callee := .builtin .append, args := #[s, x], argTypes := #[t, t] }) (ht : Tryd.prog.underlying t = some (.slice e)) (hi : Tryd.prog.info? e = some i) (hz0 : i.zero = some z) (hz1 : i.size = size) (hz2 : i.bytes = bytes) (hzs : z.cells.size = size) (hsz : 0 < size)
    (base : Nat) (v : Value) (n : Nat) (xs : List Value) (hs : a.eval s = v) (hown : w.ownsRow base e size v n xs)
    (A : Option Addr) (c m : Nat) (news : List Value) (hA : A = none → m = 0 ∧ c = 0) (hx : a.eval x = .slice A m c) (hl : news.length = m * size) (hr : Reads w w.heap.size A news) (h1 : ∀ u ∈ news, u.oneCell' = true)
    (hm : n + m ≤ maxLen) (hb : (n + m) * bytes ≤ 140737488355328) (hbase : base ≤ w.heap.size)
    (h : ∀ v' w', w'.ownsRow base e size v' (n + m) (xs ++ news) → w.grownBy w' v.ownBlock → K (a.put o.dst v') w') : if Region.wanted o (yielded ops a.tmps) = true then Oper.wp Tryd.prog o a w K Q else E := by
  have hw : Region.wanted o (yielded ops a.tmps) = true := by simp [Region.wanted, hgd]
  rw [if_pos hw]
  cases A with
  | none =>
    obtain ⟨rfl, rfl⟩ := hA rfl
    obtain rfl : news = [] := List.eq_nil_of_length_eq_zero (by simpa using hl)
    have hrun := run_append_owned_none (P := Tryd.prog) (w := w) base t o.type e i size ht hi v n xs hown
    unfold Oper.wp
    simp [execOp, ho, resolve, invoke, builtin, hs, hx, hrun, Result.andThen]
    exact h v w (by simpa using hown) ⟨rfl, rfl, rfl, Nat.le_refl _, fun _ _ _ => rfl⟩
  | some ad =>
    refine wp_append_own w s x t ho base e i z size bytes ht hi hz0 hz1 hz2 hzs hsz v n xs hs hown ad m c news hx hl ?_ h1 hm hb hbase ?_
    · rcases hr with hr | ⟨ad', e, _, h3⟩
      · intro j u hu
        rw [hr] at hu
        simp at hu
      · obtain rfl : ad = ad' := Option.some.inj e
        exact h3
    · intro v' w' h2 h3 _
      exact h v' w' h2 h3
def RMeetAll (f n : Nat) : Prop := ∀ (t u : LTy) (w : World) (B : Nat), B ≤ w.heap.size → LIn w B t → LIn w B u → May (strip t) → May (strip u) → Chk n (strip t) → Chk n (strip u) → Calls Tryd.prog f #[t.val, u.val] w (RetM B (meetF n (strip t) (strip u)) w)
set_option maxRecDepth 100000 in
set_option maxHeartbeats 16000000 in
theorem rmeet_succ (n : Nat) (ih : RMeetAll 67 n) : RMeetAll 67 (n + 1) := by
  intro t u w B hB ht hu mt mu ct cu
  obtain ⟨i0, hi, hz0, hz1, hz2⟩ := info_parts infoTy
  obtain ⟨ans, hans⟩ : ∃ ans, ans = meetF (n + 1) (strip t) (strip u) := ⟨_, rfl⟩
  rw [← hans]
  have HA := Lib.hid hans
  unfold LTy.val
  obtain ⟨g, hg⟩ : ∃ g, g = w.heap.size := ⟨_, rfl⟩
  have HIH := Lib.hid ih
  have HMT := Lib.hid mt
  have HMU := Lib.hid mu
  have HCT := Lib.hid ct
  have HCU := Lib.hid cu
  have HOT := Lib.hid ht
  have HOU := Lib.hid hu
  have HBB := Lib.hid hB
  have HT := Lib.hid (ht.more hB)
  have HU := Lib.hid (hu.more hB)
  clear hans ht hu hB ih mt mu ct cu
  go_enter Tryd.func67, Tryd.ntmps67
  go_upto_region 1 with fail
  rw [← hg]
  refine gen_wpT fun w0 hW => ?_
  obtain ⟨kt, ku, kr, kb⟩ : TBox w0 g t ∧ TBox w0 (g + 1) u ∧ ZBox w0 (g + 2) ∧ Below w.heap.size w w0 := by rw [← hW, hg]; exact three_boxes w t u
  have T0 := Lib.hid kt
  have U0 := Lib.hid ku
  have R0 := Lib.hid kr
  have B0 := Lib.hid kb
  have HGW := Lib.hid (show w.heap.size ≤ g + 2 by omega)
  have G0 : g + 2 < w0.heap.size := blk_lt kr
  clear hW hg kt ku kr kb
  have t0 := T0.out
  have t0c0 := t0.c0
  have t0c1 := t0.c1
  have t0c2 := t0.c2
  have t0lt := t0.lt
  have u0 := U0.out
  have u0c0 := u0.c0
  have u0c1 := u0.c1
  have u0c2 := u0.c2
  have u0lt := u0.lt
  have r0 := R0.out
  have r0c0 := cell_of_blk (i := 0) r0 rfl
  have r0c1 := cell_of_blk (i := 1) r0 rfl
  have r0c2 := cell_of_blk (i := 2) r0 rfl
  have r0f0 := free_of_blk (i := 0) r0
  have r0f1 := free_of_blk (i := 1) r0
  have r0f2 := free_of_blk (i := 2) r0
  clear t0 u0 r0
  have HP1 := Lib.hid (show ∀ w', Below w.heap.size w w' → Calls Tryd.prog 64 #[.agg #[.int .i64 t.kind, .slice t.A t.ns.length t.c, .slice t.A2 t.xs.length t.c2], .agg #[.int .i64 u.kind, .slice u.A u.ns.length u.c, .slice u.A2 u.xs.length u.c2]] w' (RetB (.bool (tb (Prec (n + 1) (strip t) (strip u)))) w') from fun w' hb => rprec_all (n + 1) t u w' (HT.out.on hb) (HU.out.on hb) HMT.out HMU.out HCT.out HCU.out)
  have HP2 := Lib.hid (show ∀ w', Below w.heap.size w w' → Calls Tryd.prog 64 #[.agg #[.int .i64 u.kind, .slice u.A u.ns.length u.c, .slice u.A2 u.xs.length u.c2], .agg #[.int .i64 t.kind, .slice t.A t.ns.length t.c, .slice t.A2 t.xs.length t.c2]] w' (RetB (.bool (tb (Prec (n + 1) (strip u) (strip t)))) w') from fun w' hb => rprec_all (n + 1) u t w' (HU.out.on hb) (HT.out.on hb) HMU.out HMT.out HCU.out HCT.out)
  have HP3 := Lib.hid (show ∀ w', Below w.heap.size w w' → Calls Tryd.prog 85 #[.agg #[.int .i64 t.kind, .slice t.A t.ns.length t.c, .slice t.A2 t.xs.length t.c2], .agg #[.int .i64 u.kind, .slice u.A u.ns.length u.c, .slice u.A2 u.xs.length u.c2]] w' (RetB (.bool (tb (Paired (strip t) (strip u)))) w') from fun w' hb => rpaired_any (n + 1) (n + 1) t u w' (HT.out.on hb) (HU.out.on hb) HCT.out HCU.out)
  by_cases h1 : Prec (n + 1) (strip t) (strip u)
  · rw [tb_true h1] at HP1
    have H1 := Lib.hid h1
    clear h1
    go_wp2_with fail
    with_reducible refine ((HP1.out w0 B0.out)).mono ?_
    rintro e w1 ⟨rfl, hb1⟩
    have T1 := Lib.hid (T0.out.below hb1)
    have U1 := Lib.hid (U0.out.below hb1)
    have R1 := Lib.hid (R0.out.below hb1)
    have B1 := Lib.hid (B0.out.trans (hb1.mono B0.out.size))
    have G1 : g + 2 < w1.heap.size := blk_lt R1.out
    clear hb1
    have t1 := T1.out
    have t1c0 := t1.c0
    have t1c1 := t1.c1
    have t1c2 := t1.c2
    have t1lt := t1.lt
    have u1 := U1.out
    have u1c0 := u1.c0
    have u1c1 := u1.c1
    have u1c2 := u1.c2
    have u1lt := u1.lt
    have r1 := R1.out
    have r1c0 := cell_of_blk (i := 0) r1 rfl
    have r1c1 := cell_of_blk (i := 1) r1 rfl
    have r1c2 := cell_of_blk (i := 2) r1 rfl
    have r1f0 := free_of_blk (i := 0) r1
    have r1f1 := free_of_blk (i := 1) r1
    have r1f2 := free_of_blk (i := 2) r1
    clear t1 u1 r1
    go_wp2
    refine bodyPost_ret (v := .tuple #[.agg #[.int .i64 t.kind, .slice t.A t.ns.length t.c, .slice t.A2 t.xs.length t.c2], .bool true]) (by simp [results, Tryd.results67, go_sem, r1c0, r1c1, r1c2]) rfl ?_
    exact .inr ⟨t, by rw [HA.out]; exact meetF_zero H1.out, rfl, lives_old HBB.out HOT.out (((B1.out.setCell (by have := HGW.out; simp; omega) _).setCell (by have := HGW.out; simp; omega) _).setCell (by have := HGW.out; simp; omega) _), (((B1.out.setCell (by have := HGW.out; simp; omega) _).setCell (by have := HGW.out; simp; omega) _).setCell (by have := HGW.out; simp; omega) _)⟩
  rw [tb_false h1] at HP1
  have H1 := Lib.hid h1
  clear h1
  have Q0 := Lib.hid (Below.refl w0.heap.size w0)
  go_wp2_with fail
  with_reducible refine ((HP1.out w0 B0.out)).mono ?_
  rintro e w1 ⟨rfl, hb1⟩
  have T1 := Lib.hid (T0.out.below hb1)
  have U1 := Lib.hid (U0.out.below hb1)
  have R1 := Lib.hid (R0.out.below hb1)
  have B1 := Lib.hid (B0.out.trans (hb1.mono B0.out.size))
  have G1 : g + 2 < w1.heap.size := blk_lt R1.out
  have Q1 := Lib.hid (Q0.out.trans (hb1.mono Q0.out.size))
  clear hb1
  have t1 := T1.out
  have t1c0 := t1.c0
  have t1c1 := t1.c1
  have t1c2 := t1.c2
  have t1lt := t1.lt
  have u1 := U1.out
  have u1c0 := u1.c0
  have u1c1 := u1.c1
  have u1c2 := u1.c2
  have u1lt := u1.lt
  have r1 := R1.out
  have r1c0 := cell_of_blk (i := 0) r1 rfl
  have r1c1 := cell_of_blk (i := 1) r1 rfl
  have r1c2 := cell_of_blk (i := 2) r1 rfl
  have r1f0 := free_of_blk (i := 0) r1
  have r1f1 := free_of_blk (i := 1) r1
  have r1f2 := free_of_blk (i := 2) r1
  clear t1 u1 r1
  by_cases h2 : Prec (n + 1) (strip u) (strip t)
  · rw [tb_true h2] at HP2
    have H2 := Lib.hid h2
    clear h2
    go_wp2_with fail
    with_reducible refine ((HP2.out w1 B1.out)).mono ?_
    rintro e w2 ⟨rfl, hb2⟩
    have T2 := Lib.hid (T1.out.below hb2)
    have U2 := Lib.hid (U1.out.below hb2)
    have R2 := Lib.hid (R1.out.below hb2)
    have B2 := Lib.hid (B1.out.trans (hb2.mono B1.out.size))
    have G2 : g + 2 < w2.heap.size := blk_lt R2.out
    clear hb2
    have t2 := T2.out
    have t2c0 := t2.c0
    have t2c1 := t2.c1
    have t2c2 := t2.c2
    have t2lt := t2.lt
    have u2 := U2.out
    have u2c0 := u2.c0
    have u2c1 := u2.c1
    have u2c2 := u2.c2
    have u2lt := u2.lt
    have r2 := R2.out
    have r2c0 := cell_of_blk (i := 0) r2 rfl
    have r2c1 := cell_of_blk (i := 1) r2 rfl
    have r2c2 := cell_of_blk (i := 2) r2 rfl
    have r2f0 := free_of_blk (i := 0) r2
    have r2f1 := free_of_blk (i := 1) r2
    have r2f2 := free_of_blk (i := 2) r2
    clear t2 u2 r2
    go_wp2
    refine bodyPost_ret (v := .tuple #[.agg #[.int .i64 u.kind, .slice u.A u.ns.length u.c, .slice u.A2 u.xs.length u.c2], .bool true]) (by simp [results, Tryd.results67, go_sem, r2c0, r2c1, r2c2]) rfl ?_
    exact .inr ⟨u, by rw [HA.out]; exact meetF_one H1.out H2.out, rfl, lives_old HBB.out HOU.out (((B2.out.setCell (by have := HGW.out; simp; omega) _).setCell (by have := HGW.out; simp; omega) _).setCell (by have := HGW.out; simp; omega) _), (((B2.out.setCell (by have := HGW.out; simp; omega) _).setCell (by have := HGW.out; simp; omega) _).setCell (by have := HGW.out; simp; omega) _)⟩
  rw [tb_false h2] at HP2
  have H2 := Lib.hid h2
  clear h2
  go_wp2_with fail
  with_reducible refine ((HP2.out w1 B1.out)).mono ?_
  rintro e w2 ⟨rfl, hb2⟩
  have T2 := Lib.hid (T1.out.below hb2)
  have U2 := Lib.hid (U1.out.below hb2)
  have R2 := Lib.hid (R1.out.below hb2)
  have B2 := Lib.hid (B1.out.trans (hb2.mono B1.out.size))
  have G2 : g + 2 < w2.heap.size := blk_lt R2.out
  have Q2 := Lib.hid (Q1.out.trans (hb2.mono Q1.out.size))
  clear hb2
  have t2 := T2.out
  have t2c0 := t2.c0
  have t2c1 := t2.c1
  have t2c2 := t2.c2
  have t2lt := t2.lt
  have u2 := U2.out
  have u2c0 := u2.c0
  have u2c1 := u2.c1
  have u2c2 := u2.c2
  have u2lt := u2.lt
  have r2 := R2.out
  have r2c0 := cell_of_blk (i := 0) r2 rfl
  have r2c1 := cell_of_blk (i := 1) r2 rfl
  have r2c2 := cell_of_blk (i := 2) r2 rfl
  have r2f0 := free_of_blk (i := 0) r2
  have r2f1 := free_of_blk (i := 1) r2
  have r2f2 := free_of_blk (i := 2) r2
  clear t2 u2 r2
  by_cases h3 : Paired (strip t) (strip u)
  case neg =>
    rw [tb_false h3] at HP3
    have H3 := Lib.hid h3
    clear h3
    go_wp2_with fail
    with_reducible refine ((HP3.out w2 B2.out)).mono ?_
    rintro e w3 ⟨rfl, hb3⟩
    have T3 := Lib.hid (T2.out.below hb3)
    have U3 := Lib.hid (U2.out.below hb3)
    have R3 := Lib.hid (R2.out.below hb3)
    have B3 := Lib.hid (B2.out.trans (hb3.mono B2.out.size))
    have G3 : g + 2 < w3.heap.size := blk_lt R3.out
    clear hb3
    have t3 := T3.out
    have t3c0 := t3.c0
    have t3c1 := t3.c1
    have t3c2 := t3.c2
    have t3lt := t3.lt
    have u3 := U3.out
    have u3c0 := u3.c0
    have u3c1 := u3.c1
    have u3c2 := u3.c2
    have u3lt := u3.lt
    have r3 := R3.out
    have r3c0 := cell_of_blk (i := 0) r3 rfl
    have r3c1 := cell_of_blk (i := 1) r3 rfl
    have r3c2 := cell_of_blk (i := 2) r3 rfl
    have r3f0 := free_of_blk (i := 0) r3
    have r3f1 := free_of_blk (i := 1) r3
    have r3f2 := free_of_blk (i := 2) r3
    clear t3 u3 r3
    go_wp2
    refine bodyPost_ret (v := .tuple #[.agg #[.int .i64 0, .slice none 0 0, .slice none 0 0], .bool false]) (by simp [results, Tryd.results67, go_sem, r3c0, r3c1, r3c2]) rfl ?_
    first | exact .inl ⟨by rw [HA.out]; exact meetF_no H1.out H2.out H3.out, rfl, (((B3.out.setCell (by have := HGW.out; simp; omega) _).setCell (by have := HGW.out; simp; omega) _).setCell (by have := HGW.out; simp; omega) _)⟩ | exact .inl ⟨by rw [HA.out]; exact meetF_no H1.out H2.out H3.out, rfl, B3.out⟩
  rw [tb_true h3] at HP3
  have H3 := Lib.hid h3
  clear h3
  go_wp2_with fail
  with_reducible refine ((HP3.out w2 B2.out)).mono ?_
  rintro e w3 ⟨rfl, hb3⟩
  have T3 := Lib.hid (T2.out.below hb3)
  have U3 := Lib.hid (U2.out.below hb3)
  have R3 := Lib.hid (R2.out.below hb3)
  have B3 := Lib.hid (B2.out.trans (hb3.mono B2.out.size))
  have G3 : g + 2 < w3.heap.size := blk_lt R3.out
  have Q3 := Lib.hid (Q2.out.trans (hb3.mono Q2.out.size))
  clear hb3
  have t3 := T3.out
  have t3c0 := t3.c0
  have t3c1 := t3.c1
  have t3c2 := t3.c2
  have t3lt := t3.lt
  have u3 := U3.out
  have u3c0 := u3.c0
  have u3c1 := u3.c1
  have u3c2 := u3.c2
  have u3lt := u3.lt
  have r3 := R3.out
  have r3c0 := cell_of_blk (i := 0) r3 rfl
  have r3c1 := cell_of_blk (i := 1) r3 rfl
  have r3c2 := cell_of_blk (i := 2) r3 rfl
  have r3f0 := free_of_blk (i := 0) r3
  have r3f1 := free_of_blk (i := 1) r3
  have r3f2 := free_of_blk (i := 2) r3
  clear t3 u3 r3
  have HC3 := Q3
  obtain ⟨iS, hiS, hS0, hS1, hS2⟩ := info_parts infoStr
  have HRN := Lib.hid (show ∀ w', Below w3.heap.size w3 w' → Reads w' w'.heap.size t.A (t.ns.map Value.string) from fun w' hb => (HT.out.on (B3.out.trans (hb.mono B3.out.size))).names)
  have hra : t.A = none → t.ns.length = 0 := fun e => by
    rcases HT.out.names with h | ⟨_, h, _⟩
    · simpa using h
    · rw [e] at h; cases h
  have HRA := Lib.hid (show t.A = none → t.ns.length = 0 ∧ t.c = 0 from fun e => ⟨hra e, HT.out.nilA e⟩)
  clear hra
  have HRL := Lib.hid HT.out.n1.2
  have hlen : t.xs.length = u.xs.length := by have := H3.out.2.2; rwa [strip_len, strip_len] at this
  obtain ⟨n2, hn2⟩ : ∃ n, n = t.xs.length := ⟨_, rfl⟩
  have HN := Lib.hid (show t.xs.length = n2 ∧ u.xs.length = n2 from ⟨hn2.symm, by rw [hn2]; exact hlen.symm⟩)
  have hl2 : n2 ≤ 10000 := by
    have h5 := HMT.out.2
    rw [nodes_args] at h5
    have h6 := nodesL_len (strip t).args
    rw [strip_len, ← hn2] at h6
    omega
  have HPM := Lib.hid (show ∀ (i : Nat) (x y : LTy), t.xs[i]? = some x → u.xs[i]? = some y → (May (strip x) ∧ Chk n (strip x)) ∧ May (strip y) ∧ Chk n (strip y) from fun i x y hx hy => ⟨⟨HMT.out.part (strip_at hx), HCT.out.part (strip_at hx)⟩, HMU.out.part (strip_at hy), HCU.out.part (strip_at hy)⟩)
  clear hlen hn2
  go_wp2_with fail
  refine wp_region_held_drew (S := fun w' => TBox w' g t ∧ TBox w' (g + 1) u) (by kernel_rfl) (⟨T3.out, U3.out⟩) (fun hHeld => ?_)
  refine wpAnyH_take (i := 0) (oi := _) (v := .pointer (some ⟨g, 0, none⟩)) rfl (by kernel_rfl) (by kernel_rfl) (by kernel_rfl) (fun _ _ _ h => h) (Or.inl ⟨by rfl, fun w' hS => (by go_simp)⟩) hHeld ?_
  change wpAnyH _ _ _ _ _ _ _ (Act.put _ (some 26) _) _
  try simp only [Act.put, List.setIfInBounds_toArray, List.set_cons_zero, List.set_cons_succ]
  refine wpAnyH_take (i := 1) (oi := _) (v := .int .i64 t.kind) rfl (by kernel_rfl) (by kernel_rfl) (by kernel_rfl) (fun _ _ _ h => h) (Or.inl ⟨by rfl, fun w' hS => (by have q := TBox.c0 hS.1; go_simp)⟩) hHeld ?_
  change wpAnyH _ _ _ _ _ _ _ (Act.put _ (some 27) _) _
  try simp only [Act.put, List.setIfInBounds_toArray, List.set_cons_zero, List.set_cons_succ]
  refine wpAnyH_take (i := 2) (oi := _) (v := .pointer (some ⟨g, 1, none⟩)) rfl (by kernel_rfl) (by kernel_rfl) (by kernel_rfl) (fun _ _ _ h => h) (Or.inl ⟨by rfl, fun w' hS => (by go_simp)⟩) hHeld ?_
  change wpAnyH _ _ _ _ _ _ _ (Act.put _ (some 28) _) _
  try simp only [Act.put, List.setIfInBounds_toArray, List.set_cons_zero, List.set_cons_succ]
  refine wpAnyH_take (i := 3) (oi := _) (v := .slice t.A t.ns.length t.c) rfl (by kernel_rfl) (by kernel_rfl) (by kernel_rfl) (fun _ _ _ h => h) (Or.inl ⟨by rfl, fun w' hS => (by have q := TBox.c1 hS.1; go_simp)⟩) hHeld ?_
  change wpAnyH _ _ _ _ _ _ _ (Act.put _ (some 29) _) _
  try simp only [Act.put, List.setIfInBounds_toArray, List.set_cons_zero, List.set_cons_succ]
  refine wpAnyH_ready (rs := [4, 6]) (by kernel_rfl) (by simp) ?_
  refine AllReadyH.cons (o := _) rfl (fun K hK => ?_) (AllReadyH.cons (o := _) rfl (fun K hK => ?_) (AllReadyH.nil))
  · refine step_append_row rfl _ _ 23 9 iS _ 1 16 rfl Tryd.underlying23 hiS hS0 hS1 hS2 rfl (by decide) w3.heap.size (.slice none 0 0) 0 [] rfl (World.ownsRow_nil _ _ _ _) t.A t.c t.ns.length (t.ns.map Value.string) HRA.out rfl (by rw [List.length_map]; omega) (HRN.out _ ((Below.refl w3.heap.size w3).drew)) (fun u hu => by obtain ⟨s, _, rfl⟩ := List.mem_map.1 hu; rfl) (by have := HRL.out; unfold maxLen; omega) (by have := HRL.out; omega) (by simp) ?_
    intro vN v1 hown hg1
    rw [List.nil_append, Nat.zero_add] at hown
    obtain ⟨A1, c1, rfl, _, _, _⟩ := own_form hown
    have hb : Below (w3.drew).heap.size (w3.drew) v1 := (Below.refl _ _).grown hg1 (Nat.le_refl _) (fun g hg => by simp [Value.ownBlock] at hg)
    have C1 := Lib.hid (((Below.refl w3.heap.size w3).drew).trans (hb.mono (by simp)))
    have HOW := Lib.hid hown
    have HNC := Lib.hid (show t.ns.length ≤ c1 ∧ (A1 = none → c1 = 0) from ⟨(own_reads hown).2, own_nil hown⟩)
    clear hown hb hg1
    refine hK.out _ _ (⟨T3.out.below C1.out, U3.out.below C1.out⟩) (fun hHeld => ?_)
    clear hK K
    try simp only [Act.put, List.setIfInBounds_toArray, List.set_cons_zero, List.set_cons_succ]
    refine wpAnyH_take (i := 5) (oi := _) (v := .agg #[.int .i64 t.kind, .slice A1 t.ns.length c1, .slice none 0 0]) rfl (by kernel_rfl) (by kernel_rfl) (by kernel_rfl) (fun _ _ _ h => h) (Or.inl ⟨by rfl, fun w' hS => (by go_simp)⟩) hHeld ?_
    change wpAnyH _ _ _ _ _ _ _ (Act.put _ (some 31) _) _
    try simp only [Act.put, List.setIfInBounds_toArray, List.set_cons_zero, List.set_cons_succ]
    refine wpAnyH_ready (rs := [6]) (by kernel_rfl) (by simp) ?_
    refine AllReadyH.cons (o := _) rfl (fun K hK => ?_) AllReadyH.nil
    go_simp
    have C2 := Lib.hid (C1.out.alloc C1.out.size (.cells #[.int .i64 0, .slice none 0 0, .slice none 0 0] 26))
    refine hK.out _ _ (⟨T3.out.below C2.out, U3.out.below C2.out⟩) (fun hHeld => ?_)
    clear hK K
    try simp only [Act.put, List.setIfInBounds_toArray, List.set_cons_zero, List.set_cons_succ]
    refine wpAnyH_ready (rs := [7]) (by kernel_rfl) (by simp) ?_
    refine AllReadyH.cons (o := _) rfl (fun K hK => ?_) AllReadyH.nil
    go_simp
    have C3 := Lib.hid (C1.out.alloc C1.out.size (.cells #[.int .i64 t.kind, .slice A1 t.ns.length c1, .slice none 0 0] 26))
    refine hK.out _ _ (⟨T3.out.below C3.out, U3.out.below C3.out⟩) (fun hHeld => ?_)
    clear hK K
    try simp only [Act.put, List.setIfInBounds_toArray, List.set_cons_zero, List.set_cons_succ]
    refine wpAnyH_done (by kernel_rfl) ?_ _
    go_upto_region 8 with fail
    obtain ⟨gb, hgb⟩ : ∃ b, b = v1.heap.size := ⟨_, rfl⟩
    rw [← hgb]
    refine gen_wpT fun w4 hW => ?_
    have C4 := Lib.hid (show Below w3.heap.size w3 w4 by rw [← hW]; (try rw [hgb]); exact C3.out)
    have HGB := Lib.hid (show w4.heap[gb]? = some (.cells #[.int .i64 t.kind, .slice A1 t.ns.length c1, .slice none 0 0] 26 (0, 0)) by rw [← hW, hgb]; exact heap_new_at v1 _ _ rfl)
    have hkp : ∀ b, b < v1.heap.size → b ≠ gb ∧ w4.heap[b]? = v1.heap[b]? := fun b hb2 => by
      have hb1 : b ≠ gb := by omega
      refine ⟨hb1, ?_⟩
      rw [← hW]
      exact Below.heap_alloc v1 _ b hb2
    have hs4 : v1.heap.size ≤ w4.heap.size := by rw [← hW]; simp
    have HNM := Lib.hid (names_live (wc := w3) (B := B) (lo := w0.heap.size) (gb := gb) HOW.out (by have := HC3.out.size; simp; omega) (fun b _ h => hkp b h) hs4)
    have HGL := Lib.hid (show w0.heap.size ≤ gb by have := HC3.out.size; have := C1.out.size; omega)
    have HWB := Lib.hid (HC3.out.trans (C4.out.mono HC3.out.size))
    have t4 := T3.out.below C4.out
    have t4c2 := t4.c2
    have t4lt := t4.lt
    rw [HN.out.1] at t4c2
    clear hW hgb hkp hs4 t4 HOW C1 C3
    go_upto_region 9 with fail
    go_loopw [35] (fun i wr => ∃ (k : Nat) (l : List LTy) (A2 : Option Addr) (c2 : Nat), k ≤ n2 ∧ i = .int .i64 k ∧ Hid (l.length = k) ∧ Hid (wr.heap[gb]? = some (.cells #[.int .i64 t.kind, .slice A1 t.ns.length c1, .slice A2 k c2] 26 (0, 0))) ∧ Hid (wr.ownsRow (gb + 1) 26 3 (.slice A2 k c2) k (l.flatMap LTy.enc)) ∧ Hid (Parts n t u l) ∧ Hid (∀ w2, But B w0.heap.size wr w2 gb (.slice A2 k c2) → Reads w2 w2.heap.size A1 (t.ns.map Value.string) ∧ ∀ z ∈ l, LIn w2 w2.heap.size z) ∧ Hid (Below w0.heap.size w0 wr)) (fun i _ => n2 - (intOf i).toNat)
    case atStart => exact ⟨0, [], none, 0, by omega, rfl, Lib.hid rfl, HGB, Lib.hid (World.ownsRow_nil _ _ _ _), Lib.hid (fun j x y z _ _ hz => by simp at hz), Lib.hid (fun w2 h2 => ⟨HNM.out w2 h2, fun z hz => by simp at hz⟩), HWB⟩
    case round =>
      obtain ⟨k, l, A2, c2, hk, rfl, HL, HGB, HO, HPT, HLL, HW0⟩ := hrel
      have HWr := Lib.hid (B0.out.trans (HW0.out.mono B0.out.size))
      have BT := Lib.hid (T0.out.below HW0.out)
      have BU := Lib.hid (U0.out.below HW0.out)
      have RR := Lib.hid (R0.out.below HW0.out)
      by_cases hlt : k < n2
      case neg =>
        obtain rfl : k = n2 := by omega
        have hkk : ¬ (k : Int) < (k : Int) := by omega
        have rr := RR.out
        have rc0 := cell_of_blk (i := 0) rr rfl
        have rc1 := cell_of_blk (i := 1) rr rfl
        have rc2 := cell_of_blk (i := 2) rr rfl
        have rf0 := free_of_blk (i := 0) rr
        have rf1 := free_of_blk (i := 1) rr
        have rf2 := free_of_blk (i := 2) rr
        have gr := HGB.out
        have gc0 := cell_of_blk (i := 0) gr rfl
        have gc1 := cell_of_blk (i := 1) gr rfl
        have gc2 := cell_of_blk (i := 2) gr rfl
        have gl := blk_lt gr
        have GG : g + 2 < wr.heap.size := blk_lt rr
        clear rr gr
        go_wp2
        refine bodyPost_ret (v := .tuple #[.agg #[.int .i64 t.kind, .slice A1 t.ns.length c1, .slice A2 k c2], .bool true]) (by simp [results, Tryd.results67, go_sem, rc0, rc1, rc2]) rfl ?_
        have hls : l.length = k := HL.out
        have GB := HGL.out
        have hown := own_set_ne (own_set_ne (own_set_ne HO.out (a := ⟨g + 2, 0, none⟩) (by simp; omega) (.int .i64 t.kind)) (a := ⟨g + 2, 1, none⟩) (by simp; omega) (.slice A1 t.ns.length c1)) (a := ⟨g + 2, 2, none⟩) (by simp; omega) (.slice A2 k c2)
        refine .inr ⟨.mk t.kind A1 c1 t.ns A2 c2 l, by rw [HA.out]; exact meet_done H1.out H2.out H3.out (by rw [hls]; exact HN.out.1.symm) HPT.out, ?_, fun w2 h2 => ?_, ((HWr.out.setCell (by have := HGW.out; simp; omega) _).setCell (by have := HGW.out; simp; omega) _).setCell (by have := HGW.out; simp; omega) _⟩
        · show _ = Ending.returned (.tuple #[.agg #[.int .i64 t.kind, .slice A1 t.ns.length c1, .slice A2 l.length c2], .bool true])
          rw [hls]
        · have h9 : B ≤ w.heap.size := HBB.out
          have h10 := B0.out.size
          have h11 := HGW.out
          have hs3 := set3_size wr (g + 2) (.int .i64 t.kind) (.slice A1 t.ns.length c1) (.slice A2 k c2)
          have k1 := HLL.out w2 ⟨fun b hb1 hb2 hb3 hb4 => (h2.1 b (by omega) (by rw [hs3]; exact hb4)).trans (set3_heap wr (g + 2) _ _ _ (by omega)), by have := h2.2; rw [hs3] at this; exact this⟩
          exact meet_in k1.1 HNC.out.1 HNC.out.2 HT.out hls HN.out.1.symm (own_same hown (fun b hb hlt => h2.1 b (.inr (by omega)) hlt)) k1.2
      obtain ⟨x, hx⟩ : ∃ x, t.xs[k]? = some x := ⟨_, List.getElem?_eq_getElem (by rw [HN.out.1]; omega)⟩
      obtain ⟨y, hy⟩ : ∃ y, u.xs[k]? = some y := ⟨_, List.getElem?_eq_getElem (by rw [HN.out.2]; omega)⟩
      have htr := HT.out.on HWr.out
      have hur := HU.out.on HWr.out
      obtain ⟨a1, hA1, hx3⟩ := htr.at3 hx
      obtain ⟨a2, hA2, hy3⟩ := hur.at3 hy
      have X3 := Lib.hid hx3
      have Y3 := Lib.hid hy3
      have HA1 := Lib.hid hA1
      have HA2 := Lib.hid hA2
      have hpm := HPM.out k x y hx hy
      have lt1 := BT.out.lt
      have lu1 := BU.out.lt
      have hwk : IntKind.i64.wrap (k : Int) = (k : Int) := IntWalk.i64_in _ (by omega)
      have HC := Lib.hid (show ∀ w', Below wr.heap.size wr w' → Calls Tryd.prog 67 #[.agg #[.int .i64 x.kind, .slice x.A x.ns.length x.c, .slice x.A2 x.xs.length x.c2], .agg #[.int .i64 y.kind, .slice y.A y.ns.length y.c, .slice y.A2 y.xs.length y.c2]] w' (RetM B (meetF n (strip x) (strip y)) w') from fun w' hb => HIH.out x y w' B (Nat.le_trans HBB.out (Nat.le_trans HWr.out.size hb.size)) ((HOT.out.part hx).stay ((HWr.out.mono HBB.out).trans (hb.mono (Nat.le_trans HBB.out HWr.out.size)))) ((HOU.out.part hy).stay ((HWr.out.mono HBB.out).trans (hb.mono (Nat.le_trans HBB.out HWr.out.size)))) hpm.1.1 hpm.2.1 hpm.1.2 hpm.2.2)
      have HX := Lib.hid (show t.xs[k]? = some x ∧ u.xs[k]? = some y from ⟨hx, hy⟩)
      have hk' : (k : Int) < (n2 : Int) := by omega
      have hk0 : (0 : Int) ≤ k := by omega
      clear htr hur hx hy hA1 hA2 hx3 hy3 hpm
      cases hAN : meetF n (strip x) (strip y) with
      | none =>
        have HAN := Lib.hid hAN
        clear hAN
        rw [HAN.out] at HC
        go_wp2_with fail
        refine wp_region_held_drew (S := fun w' => TBox w' g t ∧ TBox w' (g + 1) u ∧ At3 w' (a1.add (k * 3)) x ∧ At3 w' (a2.add (k * 3)) y) (by kernel_rfl) (⟨BT.out, BU.out, X3.out, Y3.out⟩) (fun hHeld => ?_)
        refine wpAnyH_take (i := 0) (oi := _) (v := .pointer (some ⟨g, 2, none⟩)) rfl (by kernel_rfl) (by kernel_rfl) (by kernel_rfl) (fun _ _ _ h => h) (Or.inl ⟨by rfl, fun w' hS => (by go_simp)⟩) hHeld ?_
        change wpAnyH _ _ _ _ _ _ _ (Act.put _ (some 39) _) _
        try simp only [Act.put, List.setIfInBounds_toArray, List.set_cons_zero, List.set_cons_succ]
        refine wpAnyH_take (i := 1) (oi := _) (v := .slice (some a1) n2 t.c2) rfl (by kernel_rfl) (by kernel_rfl) (by kernel_rfl) (fun _ _ _ h => h) (Or.inl ⟨by rfl, fun w' hS => (by have q := TBox.c2 hS.1; rw [HN.out.1, HA1.out] at q; go_simp)⟩) hHeld ?_
        change wpAnyH _ _ _ _ _ _ _ (Act.put _ (some 40) _) _
        try simp only [Act.put, List.setIfInBounds_toArray, List.set_cons_zero, List.set_cons_succ]
        refine wpAnyH_take (i := 2) (oi := _) (v := .int .i64 (k : Int)) rfl (by kernel_rfl) (by kernel_rfl) (by kernel_rfl) (fun _ _ _ h => h) (Or.inl ⟨by rfl, fun w' hS => (by go_simp)⟩) hHeld ?_
        change wpAnyH _ _ _ _ _ _ _ (Act.put _ (some 41) _) _
        try simp only [Act.put, List.setIfInBounds_toArray, List.set_cons_zero, List.set_cons_succ]
        refine wpAnyH_take (i := 3) (oi := _) (v := .pointer (some (a1.add (k * 3)))) rfl (by kernel_rfl) (by kernel_rfl) (by kernel_rfl) (fun _ _ _ h => h) (Or.inl ⟨by rfl, fun w' hS => (by go_simp)⟩) hHeld ?_
        change wpAnyH _ _ _ _ _ _ _ (Act.put _ (some 42) _) _
        try simp only [Act.put, List.setIfInBounds_toArray, List.set_cons_zero, List.set_cons_succ]
        refine wpAnyH_take (i := 4) (oi := _) (v := .agg #[.int .i64 x.kind, .slice x.A x.ns.length x.c, .slice x.A2 x.xs.length x.c2]) rfl (by kernel_rfl) (by kernel_rfl) (by kernel_rfl) (fun _ _ _ h => h) (Or.inl ⟨by rfl, fun w' hS => (by obtain ⟨_, q0, q1, q2⟩ := hS.2.2.1; go_simp)⟩) hHeld ?_
        change wpAnyH _ _ _ _ _ _ _ (Act.put _ (some 43) _) _
        try simp only [Act.put, List.setIfInBounds_toArray, List.set_cons_zero, List.set_cons_succ]
        refine wpAnyH_take (i := 5) (oi := _) (v := .pointer (some ⟨g + 1, 2, none⟩)) rfl (by kernel_rfl) (by kernel_rfl) (by kernel_rfl) (fun _ _ _ h => h) (Or.inl ⟨by rfl, fun w' hS => (by go_simp)⟩) hHeld ?_
        change wpAnyH _ _ _ _ _ _ _ (Act.put _ (some 44) _) _
        try simp only [Act.put, List.setIfInBounds_toArray, List.set_cons_zero, List.set_cons_succ]
        refine wpAnyH_take (i := 6) (oi := _) (v := .slice (some a2) n2 u.c2) rfl (by kernel_rfl) (by kernel_rfl) (by kernel_rfl) (fun _ _ _ h => h) (Or.inl ⟨by rfl, fun w' hS => (by have q := TBox.c2 hS.2.1; rw [HN.out.2, HA2.out] at q; go_simp)⟩) hHeld ?_
        change wpAnyH _ _ _ _ _ _ _ (Act.put _ (some 45) _) _
        try simp only [Act.put, List.setIfInBounds_toArray, List.set_cons_zero, List.set_cons_succ]
        refine wpAnyH_take (i := 7) (oi := _) (v := .int .i64 (k : Int)) rfl (by kernel_rfl) (by kernel_rfl) (by kernel_rfl) (fun _ _ _ h => h) (Or.inl ⟨by rfl, fun w' hS => (by go_simp)⟩) hHeld ?_
        change wpAnyH _ _ _ _ _ _ _ (Act.put _ (some 46) _) _
        try simp only [Act.put, List.setIfInBounds_toArray, List.set_cons_zero, List.set_cons_succ]
        refine wpAnyH_take (i := 8) (oi := _) (v := .pointer (some (a2.add (k * 3)))) rfl (by kernel_rfl) (by kernel_rfl) (by kernel_rfl) (fun _ _ _ h => h) (Or.inl ⟨by rfl, fun w' hS => (by go_simp)⟩) hHeld ?_
        change wpAnyH _ _ _ _ _ _ _ (Act.put _ (some 47) _) _
        try simp only [Act.put, List.setIfInBounds_toArray, List.set_cons_zero, List.set_cons_succ]
        refine wpAnyH_take (i := 9) (oi := _) (v := .agg #[.int .i64 y.kind, .slice y.A y.ns.length y.c, .slice y.A2 y.xs.length y.c2]) rfl (by kernel_rfl) (by kernel_rfl) (by kernel_rfl) (fun _ _ _ h => h) (Or.inl ⟨by rfl, fun w' hS => (by obtain ⟨_, q0, q1, q2⟩ := hS.2.2.2; go_simp)⟩) hHeld ?_
        change wpAnyH _ _ _ _ _ _ _ (Act.put _ (some 48) _) _
        try simp only [Act.put, List.setIfInBounds_toArray, List.set_cons_zero, List.set_cons_succ]
        refine wpAnyH_ready (rs := [10, 14]) (by kernel_rfl) (by simp) ?_
        refine AllReadyH.cons (o := _) rfl (fun K hK => ?_) (AllReadyH.cons (o := _) rfl (fun K hK => ?_) (AllReadyH.nil))
        · go_simp
          with_reducible refine (HC.out _ ((Below.refl wr.heap.size wr).drew)).mono ?_
          rintro e w5 (⟨_, rfl, hb5⟩ | ⟨z, hz, _⟩)
          rotate_left
          · cases hz
          have HB5 := Lib.hid (((Below.refl wr.heap.size wr).drew).trans (hb5.mono (by simp)))
          clear hb5
          refine hK.out _ _ (⟨BT.out.below HB5.out, BU.out.below HB5.out, X3.out.below HB5.out, Y3.out.below HB5.out⟩) (fun hHeld => ?_)
          clear hK K
          try simp only [Act.put, List.setIfInBounds_toArray, List.set_cons_zero, List.set_cons_succ]
          refine wpAnyH_take (i := 11) (oi := _) (v := .tuple #[.agg #[.int .i64 0, .slice none 0 0, .slice none 0 0], .bool false]) rfl (by kernel_rfl) (by kernel_rfl) (by kernel_rfl) (fun _ _ _ h => h) (Or.inl ⟨by rfl, fun w' hS => (by go_simp)⟩) hHeld ?_
          change wpAnyH _ _ _ _ _ _ _ (Act.put _ (some 38) _) _
          try simp only [Act.put, List.setIfInBounds_toArray, List.set_cons_zero, List.set_cons_succ]
          refine wpAnyH_take (i := 12) (oi := _) (v := .agg #[.int .i64 0, .slice none 0 0, .slice none 0 0]) rfl (by kernel_rfl) (by kernel_rfl) (by kernel_rfl) (fun _ _ _ h => h) (Or.inl ⟨by rfl, fun w' hS => (by go_simp)⟩) hHeld ?_
          change wpAnyH _ _ _ _ _ _ _ (Act.put _ (some 50) _) _
          try simp only [Act.put, List.setIfInBounds_toArray, List.set_cons_zero, List.set_cons_succ]
          refine wpAnyH_take (i := 13) (oi := _) (v := .bool false) rfl (by kernel_rfl) (by kernel_rfl) (by kernel_rfl) (fun _ _ _ h => h) (Or.inl ⟨by rfl, fun w' hS => (by go_simp)⟩) hHeld ?_
          change wpAnyH _ _ _ _ _ _ _ (Act.put _ (some 51) _) _
          try simp only [Act.put, List.setIfInBounds_toArray, List.set_cons_zero, List.set_cons_succ]
          refine wpAnyH_ready (rs := [14]) (by kernel_rfl) (by simp) ?_
          refine AllReadyH.cons (o := _) rfl (fun K hK => ?_) AllReadyH.nil
          go_simp
          have HB6 := Lib.hid (HB5.out.alloc HB5.out.size (.cells #[.int .i64 0, .slice none 0 0, .slice none 0 0] 26))
          refine hK.out _ _ (⟨BT.out.below HB6.out, BU.out.below HB6.out, X3.out.below HB6.out, Y3.out.below HB6.out⟩) (fun hHeld => ?_)
          clear hK K
          try simp only [Act.put, List.setIfInBounds_toArray, List.set_cons_zero, List.set_cons_succ]
          refine wpAnyH_ready (rs := [15]) (by kernel_rfl) (by simp) ?_
          refine AllReadyH.cons (o := _) rfl (fun K hK => ?_) AllReadyH.nil
          go_simp
          have HB7 := Lib.hid (HB5.out.alloc HB5.out.size (.cells #[.int .i64 0, .slice none 0 0, .slice none 0 0] 26))
          refine hK.out _ _ (⟨BT.out.below HB7.out, BU.out.below HB7.out, X3.out.below HB7.out, Y3.out.below HB7.out⟩) (fun hHeld => ?_)
          clear hK K
          try simp only [Act.put, List.setIfInBounds_toArray, List.set_cons_zero, List.set_cons_succ]
          refine wpAnyH_take (i := 16) (oi := _) (v := .bool false) rfl (by kernel_rfl) (by kernel_rfl) (by kernel_rfl) (fun _ _ _ h => h) (Or.inl ⟨by rfl, fun w' hS => (by go_simp)⟩) hHeld ?_
          change wpAnyH _ _ _ _ _ _ _ (Act.put _ (some 9) _) _
          try simp only [Act.put, List.setIfInBounds_toArray, List.set_cons_zero, List.set_cons_succ]
          refine wpAnyH_done (by kernel_rfl) ?_ _
          go_upto_region 12 with fail
          obtain ⟨hb, hhb⟩ : ∃ b, b = w5.heap.size := ⟨_, rfl⟩
          rw [← hhb]
          refine gen_wpT fun w6 hW => ?_
          have HB6' := Lib.hid (show Below wr.heap.size wr w6 by rw [← hW]; (try rw [hhb]); exact HB7.out)
          have B6 := Lib.hid (HWr.out.trans (HB6'.out.mono HWr.out.size))
          have R6 := Lib.hid (RR.out.below HB6'.out)
          have r6 := R6.out
          have r6c0 := cell_of_blk (i := 0) r6 rfl
          have r6c1 := cell_of_blk (i := 1) r6 rfl
          have r6c2 := cell_of_blk (i := 2) r6 rfl
          have r6f0 := free_of_blk (i := 0) r6
          have r6f1 := free_of_blk (i := 1) r6
          have r6f2 := free_of_blk (i := 2) r6
          have G6 : g + 2 < w6.heap.size := blk_lt r6
          clear hW hhb r6
          go_wp2
          refine bodyPost_ret (v := .tuple #[.agg #[.int .i64 0, .slice none 0 0, .slice none 0 0], .bool false]) (by simp [results, Tryd.results67, go_sem, r6c0, r6c1, r6c2]) rfl ?_
          first | exact .inl ⟨by rw [HA.out]; exact meet_none H1.out H2.out H3.out HX.out.1 HX.out.2 HAN.out, rfl, (((B6.out.setCell (by have := HGW.out; simp; omega) _).setCell (by have := HGW.out; simp; omega) _).setCell (by have := HGW.out; simp; omega) _)⟩ | exact .inl ⟨by rw [HA.out]; exact meet_none H1.out H2.out H3.out HX.out.1 HX.out.2 HAN.out, rfl, B6.out⟩
        · go_simp
          have HB4 := Lib.hid (((Below.refl wr.heap.size wr).alloc (Nat.le_refl _) (.cells #[.int .i64 0, .slice none 0 0, .slice none 0 0] 26)).drew)
          refine hK.out _ _ (⟨BT.out.below HB4.out, BU.out.below HB4.out, X3.out.below HB4.out, Y3.out.below HB4.out⟩) (fun hHeld => ?_)
          clear hK K
          try simp only [Act.put, List.setIfInBounds_toArray, List.set_cons_zero, List.set_cons_succ]
          refine wpAnyH_ready (rs := [10]) (by kernel_rfl) (by simp) ?_
          refine AllReadyH.cons (o := _) rfl (fun K hK => ?_) AllReadyH.nil
          go_simp
          with_reducible refine (HC.out _ (((Below.refl wr.heap.size wr).alloc (Nat.le_refl _) (.cells #[.int .i64 0, .slice none 0 0, .slice none 0 0] 26)).drew)).mono ?_
          rintro e w5 (⟨_, rfl, hb5⟩ | ⟨z, hz, _⟩)
          rotate_left
          · cases hz
          have HB5 := Lib.hid ((((Below.refl wr.heap.size wr).alloc (Nat.le_refl _) (.cells #[.int .i64 0, .slice none 0 0, .slice none 0 0] 26)).drew).trans (hb5.mono (by simp)))
          have HX5 := Lib.hid (below_blk hb5 (show ((wr.alloc (.cells #[.int .i64 0, .slice none 0 0, .slice none 0 0] 26)).drew).heap[wr.heap.size]? = some (.cells #[.int .i64 0, .slice none 0 0, .slice none 0 0] 26 (0, 0)) from heap_new_at wr _ _ rfl))
          have x5c0 := cell_of_blk (i := 0) HX5.out rfl
          have x5c1 := cell_of_blk (i := 1) HX5.out rfl
          have x5c2 := cell_of_blk (i := 2) HX5.out rfl
          have x5f0 := free_of_blk (i := 0) HX5.out
          have x5f1 := free_of_blk (i := 1) HX5.out
          have x5f2 := free_of_blk (i := 2) HX5.out
          have x5l := blk_lt HX5.out
          clear hb5
          refine hK.out _ _ (⟨BT.out.below HB5.out, BU.out.below HB5.out, X3.out.below HB5.out, Y3.out.below HB5.out⟩) (fun hHeld => ?_)
          clear hK K
          try simp only [Act.put, List.setIfInBounds_toArray, List.set_cons_zero, List.set_cons_succ]
          refine wpAnyH_take (i := 11) (oi := _) (v := .tuple #[.agg #[.int .i64 0, .slice none 0 0, .slice none 0 0], .bool false]) rfl (by kernel_rfl) (by kernel_rfl) (by kernel_rfl) (fun _ _ _ h => h) (Or.inl ⟨by rfl, fun w' hS => (by go_simp)⟩) hHeld ?_
          change wpAnyH _ _ _ _ _ _ _ (Act.put _ (some 38) _) _
          try simp only [Act.put, List.setIfInBounds_toArray, List.set_cons_zero, List.set_cons_succ]
          refine wpAnyH_take (i := 12) (oi := _) (v := .agg #[.int .i64 0, .slice none 0 0, .slice none 0 0]) rfl (by kernel_rfl) (by kernel_rfl) (by kernel_rfl) (fun _ _ _ h => h) (Or.inl ⟨by rfl, fun w' hS => (by go_simp)⟩) hHeld ?_
          change wpAnyH _ _ _ _ _ _ _ (Act.put _ (some 50) _) _
          try simp only [Act.put, List.setIfInBounds_toArray, List.set_cons_zero, List.set_cons_succ]
          refine wpAnyH_take (i := 13) (oi := _) (v := .bool false) rfl (by kernel_rfl) (by kernel_rfl) (by kernel_rfl) (fun _ _ _ h => h) (Or.inl ⟨by rfl, fun w' hS => (by go_simp)⟩) hHeld ?_
          change wpAnyH _ _ _ _ _ _ _ (Act.put _ (some 51) _) _
          try simp only [Act.put, List.setIfInBounds_toArray, List.set_cons_zero, List.set_cons_succ]
          refine wpAnyH_ready (rs := [15]) (by kernel_rfl) (by simp) ?_
          refine AllReadyH.cons (o := _) rfl (fun K hK => ?_) AllReadyH.nil
          go_simp
          have HB7 := Lib.hid (((HB5.out.setCell (p := ⟨wr.heap.size, 0, none⟩) (by have := HB5.out.size; simp; try omega) (.int .i64 0)).setCell (p := ⟨wr.heap.size, 1, none⟩) (by have := HB5.out.size; simp; try omega) (.slice none 0 0)).setCell (p := ⟨wr.heap.size, 2, none⟩) (by have := HB5.out.size; simp; try omega) (.slice none 0 0))
          refine hK.out _ _ (⟨BT.out.below HB7.out, BU.out.below HB7.out, X3.out.below HB7.out, Y3.out.below HB7.out⟩) (fun hHeld => ?_)
          clear hK K
          try simp only [Act.put, List.setIfInBounds_toArray, List.set_cons_zero, List.set_cons_succ]
          refine wpAnyH_take (i := 16) (oi := _) (v := .bool false) rfl (by kernel_rfl) (by kernel_rfl) (by kernel_rfl) (fun _ _ _ h => h) (Or.inl ⟨by rfl, fun w' hS => (by go_simp)⟩) hHeld ?_
          change wpAnyH _ _ _ _ _ _ _ (Act.put _ (some 9) _) _
          try simp only [Act.put, List.setIfInBounds_toArray, List.set_cons_zero, List.set_cons_succ]
          refine wpAnyH_done (by kernel_rfl) ?_ _
          go_upto_region 12 with fail
          obtain ⟨hb, hhb⟩ : ∃ b, b = wr.heap.size := ⟨_, rfl⟩
          rw [← hhb]
          refine gen_wpT fun w6 hW => ?_
          have HB6' := Lib.hid (show Below wr.heap.size wr w6 by rw [← hW]; (try rw [hhb]); exact HB7.out)
          have B6 := Lib.hid (HWr.out.trans (HB6'.out.mono HWr.out.size))
          have R6 := Lib.hid (RR.out.below HB6'.out)
          have r6 := R6.out
          have r6c0 := cell_of_blk (i := 0) r6 rfl
          have r6c1 := cell_of_blk (i := 1) r6 rfl
          have r6c2 := cell_of_blk (i := 2) r6 rfl
          have r6f0 := free_of_blk (i := 0) r6
          have r6f1 := free_of_blk (i := 1) r6
          have r6f2 := free_of_blk (i := 2) r6
          have G6 : g + 2 < w6.heap.size := blk_lt r6
          clear hW hhb r6 x5c0 x5c1 x5c2 x5f0 x5f1 x5f2 x5l
          go_wp2
          refine bodyPost_ret (v := .tuple #[.agg #[.int .i64 0, .slice none 0 0, .slice none 0 0], .bool false]) (by simp [results, Tryd.results67, go_sem, r6c0, r6c1, r6c2]) rfl ?_
          first | exact .inl ⟨by rw [HA.out]; exact meet_none H1.out H2.out H3.out HX.out.1 HX.out.2 HAN.out, rfl, (((B6.out.setCell (by have := HGW.out; simp; omega) _).setCell (by have := HGW.out; simp; omega) _).setCell (by have := HGW.out; simp; omega) _)⟩ | exact .inl ⟨by rw [HA.out]; exact meet_none H1.out H2.out H3.out HX.out.1 HX.out.2 HAN.out, rfl, B6.out⟩
      | some zt =>
        have HAN := Lib.hid hAN
        clear hAN
        rw [HAN.out] at HC
        go_wp2_with fail
        refine wp_region_held_drew (S := fun w' => TBox w' g t ∧ TBox w' (g + 1) u ∧ At3 w' (a1.add (k * 3)) x ∧ At3 w' (a2.add (k * 3)) y) (by kernel_rfl) (⟨BT.out, BU.out, X3.out, Y3.out⟩) (fun hHeld => ?_)
        refine wpAnyH_take (i := 0) (oi := _) (v := .pointer (some ⟨g, 2, none⟩)) rfl (by kernel_rfl) (by kernel_rfl) (by kernel_rfl) (fun _ _ _ h => h) (Or.inl ⟨by rfl, fun w' hS => (by go_simp)⟩) hHeld ?_
        change wpAnyH _ _ _ _ _ _ _ (Act.put _ (some 39) _) _
        try simp only [Act.put, List.setIfInBounds_toArray, List.set_cons_zero, List.set_cons_succ]
        refine wpAnyH_take (i := 1) (oi := _) (v := .slice (some a1) n2 t.c2) rfl (by kernel_rfl) (by kernel_rfl) (by kernel_rfl) (fun _ _ _ h => h) (Or.inl ⟨by rfl, fun w' hS => (by have q := TBox.c2 hS.1; rw [HN.out.1, HA1.out] at q; go_simp)⟩) hHeld ?_
        change wpAnyH _ _ _ _ _ _ _ (Act.put _ (some 40) _) _
        try simp only [Act.put, List.setIfInBounds_toArray, List.set_cons_zero, List.set_cons_succ]
        refine wpAnyH_take (i := 2) (oi := _) (v := .int .i64 (k : Int)) rfl (by kernel_rfl) (by kernel_rfl) (by kernel_rfl) (fun _ _ _ h => h) (Or.inl ⟨by rfl, fun w' hS => (by go_simp)⟩) hHeld ?_
        change wpAnyH _ _ _ _ _ _ _ (Act.put _ (some 41) _) _
        try simp only [Act.put, List.setIfInBounds_toArray, List.set_cons_zero, List.set_cons_succ]
        refine wpAnyH_take (i := 3) (oi := _) (v := .pointer (some (a1.add (k * 3)))) rfl (by kernel_rfl) (by kernel_rfl) (by kernel_rfl) (fun _ _ _ h => h) (Or.inl ⟨by rfl, fun w' hS => (by go_simp)⟩) hHeld ?_
        change wpAnyH _ _ _ _ _ _ _ (Act.put _ (some 42) _) _
        try simp only [Act.put, List.setIfInBounds_toArray, List.set_cons_zero, List.set_cons_succ]
        refine wpAnyH_take (i := 4) (oi := _) (v := .agg #[.int .i64 x.kind, .slice x.A x.ns.length x.c, .slice x.A2 x.xs.length x.c2]) rfl (by kernel_rfl) (by kernel_rfl) (by kernel_rfl) (fun _ _ _ h => h) (Or.inl ⟨by rfl, fun w' hS => (by obtain ⟨_, q0, q1, q2⟩ := hS.2.2.1; go_simp)⟩) hHeld ?_
        change wpAnyH _ _ _ _ _ _ _ (Act.put _ (some 43) _) _
        try simp only [Act.put, List.setIfInBounds_toArray, List.set_cons_zero, List.set_cons_succ]
        refine wpAnyH_take (i := 5) (oi := _) (v := .pointer (some ⟨g + 1, 2, none⟩)) rfl (by kernel_rfl) (by kernel_rfl) (by kernel_rfl) (fun _ _ _ h => h) (Or.inl ⟨by rfl, fun w' hS => (by go_simp)⟩) hHeld ?_
        change wpAnyH _ _ _ _ _ _ _ (Act.put _ (some 44) _) _
        try simp only [Act.put, List.setIfInBounds_toArray, List.set_cons_zero, List.set_cons_succ]
        refine wpAnyH_take (i := 6) (oi := _) (v := .slice (some a2) n2 u.c2) rfl (by kernel_rfl) (by kernel_rfl) (by kernel_rfl) (fun _ _ _ h => h) (Or.inl ⟨by rfl, fun w' hS => (by have q := TBox.c2 hS.2.1; rw [HN.out.2, HA2.out] at q; go_simp)⟩) hHeld ?_
        change wpAnyH _ _ _ _ _ _ _ (Act.put _ (some 45) _) _
        try simp only [Act.put, List.setIfInBounds_toArray, List.set_cons_zero, List.set_cons_succ]
        refine wpAnyH_take (i := 7) (oi := _) (v := .int .i64 (k : Int)) rfl (by kernel_rfl) (by kernel_rfl) (by kernel_rfl) (fun _ _ _ h => h) (Or.inl ⟨by rfl, fun w' hS => (by go_simp)⟩) hHeld ?_
        change wpAnyH _ _ _ _ _ _ _ (Act.put _ (some 46) _) _
        try simp only [Act.put, List.setIfInBounds_toArray, List.set_cons_zero, List.set_cons_succ]
        refine wpAnyH_take (i := 8) (oi := _) (v := .pointer (some (a2.add (k * 3)))) rfl (by kernel_rfl) (by kernel_rfl) (by kernel_rfl) (fun _ _ _ h => h) (Or.inl ⟨by rfl, fun w' hS => (by go_simp)⟩) hHeld ?_
        change wpAnyH _ _ _ _ _ _ _ (Act.put _ (some 47) _) _
        try simp only [Act.put, List.setIfInBounds_toArray, List.set_cons_zero, List.set_cons_succ]
        refine wpAnyH_take (i := 9) (oi := _) (v := .agg #[.int .i64 y.kind, .slice y.A y.ns.length y.c, .slice y.A2 y.xs.length y.c2]) rfl (by kernel_rfl) (by kernel_rfl) (by kernel_rfl) (fun _ _ _ h => h) (Or.inl ⟨by rfl, fun w' hS => (by obtain ⟨_, q0, q1, q2⟩ := hS.2.2.2; go_simp)⟩) hHeld ?_
        change wpAnyH _ _ _ _ _ _ _ (Act.put _ (some 48) _) _
        try simp only [Act.put, List.setIfInBounds_toArray, List.set_cons_zero, List.set_cons_succ]
        refine wpAnyH_ready (rs := [10, 14]) (by kernel_rfl) (by simp) ?_
        refine AllReadyH.cons (o := _) rfl (fun K hK => ?_) (AllReadyH.cons (o := _) rfl (fun K hK => ?_) (AllReadyH.nil))
        · go_simp
          with_reducible refine (HC.out _ ((Below.refl wr.heap.size wr).drew)).mono ?_
          rintro e w5 (⟨h, _⟩ | ⟨z, hz, rfl, hlive, hb5⟩)
          · cases h
          have HB5 := Lib.hid (((Below.refl wr.heap.size wr).drew).trans (hb5.mono (by simp)))
          have HLV := Lib.hid hlive
          have HZ := Lib.hid hz
          unfold LTy.val
          clear hlive hz
          clear hb5
          refine hK.out _ _ (⟨BT.out.below HB5.out, BU.out.below HB5.out, X3.out.below HB5.out, Y3.out.below HB5.out⟩) (fun hHeld => ?_)
          clear hK K
          try simp only [Act.put, List.setIfInBounds_toArray, List.set_cons_zero, List.set_cons_succ]
          refine wpAnyH_take (i := 11) (oi := _) (v := .tuple #[.agg #[.int .i64 z.kind, .slice z.A z.ns.length z.c, .slice z.A2 z.xs.length z.c2], .bool true]) rfl (by kernel_rfl) (by kernel_rfl) (by kernel_rfl) (fun _ _ _ h => h) (Or.inl ⟨by rfl, fun w' hS => (by go_simp)⟩) hHeld ?_
          change wpAnyH _ _ _ _ _ _ _ (Act.put _ (some 38) _) _
          try simp only [Act.put, List.setIfInBounds_toArray, List.set_cons_zero, List.set_cons_succ]
          refine wpAnyH_take (i := 12) (oi := _) (v := .agg #[.int .i64 z.kind, .slice z.A z.ns.length z.c, .slice z.A2 z.xs.length z.c2]) rfl (by kernel_rfl) (by kernel_rfl) (by kernel_rfl) (fun _ _ _ h => h) (Or.inl ⟨by rfl, fun w' hS => (by go_simp)⟩) hHeld ?_
          change wpAnyH _ _ _ _ _ _ _ (Act.put _ (some 50) _) _
          try simp only [Act.put, List.setIfInBounds_toArray, List.set_cons_zero, List.set_cons_succ]
          refine wpAnyH_take (i := 13) (oi := _) (v := .bool true) rfl (by kernel_rfl) (by kernel_rfl) (by kernel_rfl) (fun _ _ _ h => h) (Or.inl ⟨by rfl, fun w' hS => (by go_simp)⟩) hHeld ?_
          change wpAnyH _ _ _ _ _ _ _ (Act.put _ (some 51) _) _
          try simp only [Act.put, List.setIfInBounds_toArray, List.set_cons_zero, List.set_cons_succ]
          refine wpAnyH_ready (rs := [14]) (by kernel_rfl) (by simp) ?_
          refine AllReadyH.cons (o := _) rfl (fun K hK => ?_) AllReadyH.nil
          go_simp
          have HB6 := Lib.hid (HB5.out.alloc HB5.out.size (.cells #[.int .i64 0, .slice none 0 0, .slice none 0 0] 26))
          refine hK.out _ _ (⟨BT.out.below HB6.out, BU.out.below HB6.out, X3.out.below HB6.out, Y3.out.below HB6.out⟩) (fun hHeld => ?_)
          clear hK K
          try simp only [Act.put, List.setIfInBounds_toArray, List.set_cons_zero, List.set_cons_succ]
          refine wpAnyH_ready (rs := [15]) (by kernel_rfl) (by simp) ?_
          refine AllReadyH.cons (o := _) rfl (fun K hK => ?_) AllReadyH.nil
          go_simp
          have HB7 := Lib.hid (HB5.out.alloc HB5.out.size (.cells #[.int .i64 z.kind, .slice z.A z.ns.length z.c, .slice z.A2 z.xs.length z.c2] 26))
          refine hK.out _ _ (⟨BT.out.below HB7.out, BU.out.below HB7.out, X3.out.below HB7.out, Y3.out.below HB7.out⟩) (fun hHeld => ?_)
          clear hK K
          try simp only [Act.put, List.setIfInBounds_toArray, List.set_cons_zero, List.set_cons_succ]
          refine wpAnyH_take (i := 16) (oi := _) (v := .bool true) rfl (by kernel_rfl) (by kernel_rfl) (by kernel_rfl) (fun _ _ _ h => h) (Or.inl ⟨by rfl, fun w' hS => (by go_simp)⟩) hHeld ?_
          change wpAnyH _ _ _ _ _ _ _ (Act.put _ (some 9) _) _
          try simp only [Act.put, List.setIfInBounds_toArray, List.set_cons_zero, List.set_cons_succ]
          refine wpAnyH_done (by kernel_rfl) ?_ _
          go_upto_region 12 with fail
          obtain ⟨hb, hhb⟩ : ∃ b, b = w5.heap.size := ⟨_, rfl⟩
          rw [← hhb]
          refine gen_wpT fun w6 hW => ?_
          have HB6' := Lib.hid (show Below wr.heap.size wr w6 by rw [← hW]; (try rw [hhb]); exact HB7.out)
          have HX6 := Lib.hid (show TBox w6 hb z by rw [← hW, hhb]; exact heap_new_at w5 _ _ rfl)
          have HK6 := Lib.hid (show ∀ b, b ≠ hb → b < w5.heap.size → w6.heap[b]? = w5.heap[b]? from fun b hb1 hb2 => by rw [← hW]; exact Below.heap_alloc w5 _ b hb2)
          have HS6 := Lib.hid (show w5.heap.size ≤ w6.heap.size ∧ wr.heap.size ≤ hb by rw [← hW, hhb]; exact ⟨by simp, HB5.out.size⟩)
          have HL6 := Lib.hid (show ∀ w2, (∀ b, (b < B ∨ wr.heap.size ≤ b) → b ≠ hb → b < w6.heap.size → w2.heap[b]? = w6.heap[b]?) → w6.heap.size ≤ w2.heap.size → LIn w2 w2.heap.size z from fun w2 h1 h2 => HLV.out w2 ⟨fun b h3 h4 => by
            have h7 := HS6.out
            have h9 : B ≤ wr.heap.size := Nat.le_trans HBB.out HWr.out.size
            have h5 : b ≠ hb := by rcases h3 with h3 | h3 <;> (try simp at h3) <;> omega
            have h6 : b < B ∨ wr.heap.size ≤ b := by rcases h3 with h3 | h3 <;> (try simp at h3) <;> omega
            exact (h1 b h6 h5 (by omega)).trans (HK6.out b h5 h4), Nat.le_trans HS6.out.1 h2⟩)
          clear HLV HK6
          have B6 := Lib.hid (HWr.out.trans (HB6'.out.mono HWr.out.size))
          have R6 := Lib.hid (RR.out.below HB6'.out)
          have r6 := R6.out
          have r6c0 := cell_of_blk (i := 0) r6 rfl
          have r6c1 := cell_of_blk (i := 1) r6 rfl
          have r6c2 := cell_of_blk (i := 2) r6 rfl
          have r6f0 := free_of_blk (i := 0) r6
          have r6f1 := free_of_blk (i := 1) r6
          have r6f2 := free_of_blk (i := 2) r6
          have G6 : g + 2 < w6.heap.size := blk_lt r6
          clear hW hhb r6
          have x6 := HX6.out
          have x6c0 := x6.c0
          have x6c1 := x6.c1
          have x6c2 := x6.c2
          have x6l := x6.lt
          clear x6
          have HG6 := Lib.hid (below_blk HB6'.out HGB.out)
          have g6c := cell_of_blk (i := 2) HG6.out rfl
          have g6f := free_of_blk (i := 2) HG6.out
          have g6l := blk_lt HG6.out
          have HO6 := Lib.hid (own_same HO.out (fun b _ hlt => HB6'.out.block b hlt))
          have GB := HGL.out
          have SZ := HB6'.out.size
          have hnl := blk_lt HGB.out
          go_wp2_with (at_builtin; refine wpList_append_own_at _ rfl _ _ 24 rfl (gb + 1) 26 i0 _ 3 56 Tryd.underlying24 hi hz0 hz1 hz2 rfl (by decide) _ _ _ rfl (HO6.out.alloc _) ⟨w6.heap.size, 0, none⟩ 1 1 z.enc rfl rfl (World.news_of_block (heap_alloc_new _ _)) (by simp [LTy.enc, Value.oneCell']) (by unfold maxLen; omega) (by omega) (by simp; omega) ?_; intro v' w7 hown7 hg7 _ hat7; obtain ⟨A7, c7, rfl, _, _, _⟩ := own_form hown7; have hbx7 := blk_grown (blk_alloc HG6.out _) hg7 (fun e => by have := row_ge HO6.out _ e; omega); have HG7 := Lib.hid hbx7; have HO7 := Lib.hid hown7; have HGR := Lib.hid hg7; have HAT := Lib.hid hat7; have s7 := hg7.size; have t7 := cell_of_blk (i := 2) hbx7 rfl; have f7 := free_of_blk (i := 2) hbx7; have l7 := blk_lt hbx7; clear hbx7 hown7 hg7 hat7)
          go_roundw
          case rel =>
            have hls : l.length = k := HL.out
            have e1 : (l ++ [z]).flatMap LTy.enc = l.flatMap LTy.enc ++ z.enc := by simp
            have hkeep : ∀ b, b ≠ gb → (Value.slice A2 k c2).ownBlock ≠ some b → b < w6.heap.size → (w7.setCell ⟨gb, 2, none⟩ (.slice A7 (k + 1) c7)).heap[b]? = w6.heap[b]? := fun b hb1 hb2 hb3 => by
              rw [Below.heap_setCell _ _ _ _ hb1, HGR.out.block b (by simp; omega) (fun e => hb2 e.symm)]
              exact Below.heap_alloc w6 _ b hb3
            have hat : (Value.slice A7 (k + 1) c7).ownBlock = (Value.slice A2 k c2).ownBlock ∨ ∃ s, (Value.slice A7 (k + 1) c7).ownBlock = some s ∧ w6.heap.size ≤ s := HAT.out.imp id fun e => ⟨_, e, by simp⟩
            have hsz : w6.heap.size ≤ (w7.setCell ⟨gb, 2, none⟩ (.slice A7 (k + 1) c7)).heap.size := by simp at s7 ⊢; omega
            refine ⟨k + 1, l ++ [z], A7, c7, by omega, by go_num, Lib.hid (by rw [List.length_append, hls]; rfl), Lib.hid (blk_set (i := 2) HG7.out _), Lib.hid (by rw [e1]; exact own_set_ne HO7.out (by simp) _), Lib.hid (HPT.out.snoc (by rw [hls]; exact HX.out.1) (by rw [hls]; exact HX.out.2) (HAN.out.trans HZ.out)), Lib.hid (fun w2 h2 => ?_), Lib.hid ?_⟩
            · have k1 := HLL.out w2 (h2.step (Nat.le_trans SZ hsz) (fun b hb1 hb2 hb3 => (hkeep b hb1 hb2 (by omega)).trans (HB6'.out.block b hb3)) (hat.imp id fun ⟨s, e, h⟩ => ⟨s, e, by omega⟩))
              refine ⟨k1.1, fun y hy => ?_⟩
              rcases List.mem_append.1 hy with hy | hy
              · exact k1.2 y hy
              obtain rfl : y = z := by simpa using hy
              refine HL6.out w2 (fun b hb1 hb2 hb3 => ?_) (Nat.le_trans hsz h2.2)
              have h9 : B ≤ w.heap.size := HBB.out
              have h10 := B0.out.size
              have hbg : b ≠ gb := by omega
              have hbv : (Value.slice A2 k c2).ownBlock ≠ some b := fun e => by
                have k2 := row_ge HO.out _ e
                have k3 := (World.ownsRow.lt HO.out b e).2
                omega
              refine (h2.1 b (by omega) hbg (fun e => ?_) (by omega)).trans (hkeep b hbg hbv hb3)
              rcases hat with hat | ⟨s, hat, hs⟩
              · exact hbv (hat ▸ e)
              · rw [hat] at e; have := Option.some.inj e; omega
            · exact (((HW0.out.trans (HB6'.out.mono HW0.out.size)).alloc (by omega) _).grown HGR.out (by simp; omega) (fun gg hgg => by have := row_ge HO6.out _ hgg; omega)).setCell (by simp; omega) _
          case measure => simp [intOf]; omega
        · go_simp
          have HB4 := Lib.hid (((Below.refl wr.heap.size wr).alloc (Nat.le_refl _) (.cells #[.int .i64 0, .slice none 0 0, .slice none 0 0] 26)).drew)
          refine hK.out _ _ (⟨BT.out.below HB4.out, BU.out.below HB4.out, X3.out.below HB4.out, Y3.out.below HB4.out⟩) (fun hHeld => ?_)
          clear hK K
          try simp only [Act.put, List.setIfInBounds_toArray, List.set_cons_zero, List.set_cons_succ]
          refine wpAnyH_ready (rs := [10]) (by kernel_rfl) (by simp) ?_
          refine AllReadyH.cons (o := _) rfl (fun K hK => ?_) AllReadyH.nil
          go_simp
          with_reducible refine (HC.out _ (((Below.refl wr.heap.size wr).alloc (Nat.le_refl _) (.cells #[.int .i64 0, .slice none 0 0, .slice none 0 0] 26)).drew)).mono ?_
          rintro e w5 (⟨h, _⟩ | ⟨z, hz, rfl, hlive, hb5⟩)
          · cases h
          have HB5 := Lib.hid ((((Below.refl wr.heap.size wr).alloc (Nat.le_refl _) (.cells #[.int .i64 0, .slice none 0 0, .slice none 0 0] 26)).drew).trans (hb5.mono (by simp)))
          have HLV := Lib.hid hlive
          have HZ := Lib.hid hz
          unfold LTy.val
          clear hlive hz
          have HX5 := Lib.hid (below_blk hb5 (show ((wr.alloc (.cells #[.int .i64 0, .slice none 0 0, .slice none 0 0] 26)).drew).heap[wr.heap.size]? = some (.cells #[.int .i64 0, .slice none 0 0, .slice none 0 0] 26 (0, 0)) from heap_new_at wr _ _ rfl))
          have x5c0 := cell_of_blk (i := 0) HX5.out rfl
          have x5c1 := cell_of_blk (i := 1) HX5.out rfl
          have x5c2 := cell_of_blk (i := 2) HX5.out rfl
          have x5f0 := free_of_blk (i := 0) HX5.out
          have x5f1 := free_of_blk (i := 1) HX5.out
          have x5f2 := free_of_blk (i := 2) HX5.out
          have x5l := blk_lt HX5.out
          clear hb5
          refine hK.out _ _ (⟨BT.out.below HB5.out, BU.out.below HB5.out, X3.out.below HB5.out, Y3.out.below HB5.out⟩) (fun hHeld => ?_)
          clear hK K
          try simp only [Act.put, List.setIfInBounds_toArray, List.set_cons_zero, List.set_cons_succ]
          refine wpAnyH_take (i := 11) (oi := _) (v := .tuple #[.agg #[.int .i64 z.kind, .slice z.A z.ns.length z.c, .slice z.A2 z.xs.length z.c2], .bool true]) rfl (by kernel_rfl) (by kernel_rfl) (by kernel_rfl) (fun _ _ _ h => h) (Or.inl ⟨by rfl, fun w' hS => (by go_simp)⟩) hHeld ?_
          change wpAnyH _ _ _ _ _ _ _ (Act.put _ (some 38) _) _
          try simp only [Act.put, List.setIfInBounds_toArray, List.set_cons_zero, List.set_cons_succ]
          refine wpAnyH_take (i := 12) (oi := _) (v := .agg #[.int .i64 z.kind, .slice z.A z.ns.length z.c, .slice z.A2 z.xs.length z.c2]) rfl (by kernel_rfl) (by kernel_rfl) (by kernel_rfl) (fun _ _ _ h => h) (Or.inl ⟨by rfl, fun w' hS => (by go_simp)⟩) hHeld ?_
          change wpAnyH _ _ _ _ _ _ _ (Act.put _ (some 50) _) _
          try simp only [Act.put, List.setIfInBounds_toArray, List.set_cons_zero, List.set_cons_succ]
          refine wpAnyH_take (i := 13) (oi := _) (v := .bool true) rfl (by kernel_rfl) (by kernel_rfl) (by kernel_rfl) (fun _ _ _ h => h) (Or.inl ⟨by rfl, fun w' hS => (by go_simp)⟩) hHeld ?_
          change wpAnyH _ _ _ _ _ _ _ (Act.put _ (some 51) _) _
          try simp only [Act.put, List.setIfInBounds_toArray, List.set_cons_zero, List.set_cons_succ]
          refine wpAnyH_ready (rs := [15]) (by kernel_rfl) (by simp) ?_
          refine AllReadyH.cons (o := _) rfl (fun K hK => ?_) AllReadyH.nil
          go_simp
          have HB7 := Lib.hid (((HB5.out.setCell (p := ⟨wr.heap.size, 0, none⟩) (by have := HB5.out.size; simp; try omega) (.int .i64 z.kind)).setCell (p := ⟨wr.heap.size, 1, none⟩) (by have := HB5.out.size; simp; try omega) (.slice z.A z.ns.length z.c)).setCell (p := ⟨wr.heap.size, 2, none⟩) (by have := HB5.out.size; simp; try omega) (.slice z.A2 z.xs.length z.c2))
          refine hK.out _ _ (⟨BT.out.below HB7.out, BU.out.below HB7.out, X3.out.below HB7.out, Y3.out.below HB7.out⟩) (fun hHeld => ?_)
          clear hK K
          try simp only [Act.put, List.setIfInBounds_toArray, List.set_cons_zero, List.set_cons_succ]
          refine wpAnyH_take (i := 16) (oi := _) (v := .bool true) rfl (by kernel_rfl) (by kernel_rfl) (by kernel_rfl) (fun _ _ _ h => h) (Or.inl ⟨by rfl, fun w' hS => (by go_simp)⟩) hHeld ?_
          change wpAnyH _ _ _ _ _ _ _ (Act.put _ (some 9) _) _
          try simp only [Act.put, List.setIfInBounds_toArray, List.set_cons_zero, List.set_cons_succ]
          refine wpAnyH_done (by kernel_rfl) ?_ _
          go_upto_region 12 with fail
          obtain ⟨hb, hhb⟩ : ∃ b, b = wr.heap.size := ⟨_, rfl⟩
          rw [← hhb]
          refine gen_wpT fun w6 hW => ?_
          have HB6' := Lib.hid (show Below wr.heap.size wr w6 by rw [← hW]; (try rw [hhb]); exact HB7.out)
          have HX6 := Lib.hid (show TBox w6 hb z by rw [← hW, hhb]; exact blk_set (i := 2) (blk_set (i := 1) (blk_set (i := 0) HX5.out _) _) _)
          have HK6 := Lib.hid (show ∀ b, b ≠ hb → b < w5.heap.size → w6.heap[b]? = w5.heap[b]? from fun b hb1 hb2 => by rw [← hW]; exact set3_heap _ _ _ _ _ hb1)
          have HS6 := Lib.hid (show w5.heap.size ≤ w6.heap.size ∧ wr.heap.size ≤ hb by rw [← hW, set3_size, hhb]; exact ⟨Nat.le_refl _, Nat.le_refl _⟩)
          have HL6 := Lib.hid (show ∀ w2, (∀ b, (b < B ∨ wr.heap.size ≤ b) → b ≠ hb → b < w6.heap.size → w2.heap[b]? = w6.heap[b]?) → w6.heap.size ≤ w2.heap.size → LIn w2 w2.heap.size z from fun w2 h1 h2 => HLV.out w2 ⟨fun b h3 h4 => by
            have h7 := HS6.out
            have h9 : B ≤ wr.heap.size := Nat.le_trans HBB.out HWr.out.size
            have h5 : b ≠ hb := by rcases h3 with h3 | h3 <;> (try simp at h3) <;> omega
            have h6 : b < B ∨ wr.heap.size ≤ b := by rcases h3 with h3 | h3 <;> (try simp at h3) <;> omega
            exact (h1 b h6 h5 (by omega)).trans (HK6.out b h5 h4), Nat.le_trans HS6.out.1 h2⟩)
          clear HLV HK6
          have B6 := Lib.hid (HWr.out.trans (HB6'.out.mono HWr.out.size))
          have R6 := Lib.hid (RR.out.below HB6'.out)
          have r6 := R6.out
          have r6c0 := cell_of_blk (i := 0) r6 rfl
          have r6c1 := cell_of_blk (i := 1) r6 rfl
          have r6c2 := cell_of_blk (i := 2) r6 rfl
          have r6f0 := free_of_blk (i := 0) r6
          have r6f1 := free_of_blk (i := 1) r6
          have r6f2 := free_of_blk (i := 2) r6
          have G6 : g + 2 < w6.heap.size := blk_lt r6
          clear hW hhb r6 x5c0 x5c1 x5c2 x5f0 x5f1 x5f2 x5l
          have x6 := HX6.out
          have x6c0 := x6.c0
          have x6c1 := x6.c1
          have x6c2 := x6.c2
          have x6l := x6.lt
          clear x6
          have HG6 := Lib.hid (below_blk HB6'.out HGB.out)
          have g6c := cell_of_blk (i := 2) HG6.out rfl
          have g6f := free_of_blk (i := 2) HG6.out
          have g6l := blk_lt HG6.out
          have HO6 := Lib.hid (own_same HO.out (fun b _ hlt => HB6'.out.block b hlt))
          have GB := HGL.out
          have SZ := HB6'.out.size
          have hnl := blk_lt HGB.out
          go_wp2_with (at_builtin; refine wpList_append_own_at _ rfl _ _ 24 rfl (gb + 1) 26 i0 _ 3 56 Tryd.underlying24 hi hz0 hz1 hz2 rfl (by decide) _ _ _ rfl (HO6.out.alloc _) ⟨w6.heap.size, 0, none⟩ 1 1 z.enc rfl rfl (World.news_of_block (heap_alloc_new _ _)) (by simp [LTy.enc, Value.oneCell']) (by unfold maxLen; omega) (by omega) (by simp; omega) ?_; intro v' w7 hown7 hg7 _ hat7; obtain ⟨A7, c7, rfl, _, _, _⟩ := own_form hown7; have hbx7 := blk_grown (blk_alloc HG6.out _) hg7 (fun e => by have := row_ge HO6.out _ e; omega); have HG7 := Lib.hid hbx7; have HO7 := Lib.hid hown7; have HGR := Lib.hid hg7; have HAT := Lib.hid hat7; have s7 := hg7.size; have t7 := cell_of_blk (i := 2) hbx7 rfl; have f7 := free_of_blk (i := 2) hbx7; have l7 := blk_lt hbx7; clear hbx7 hown7 hg7 hat7)
          go_roundw
          case rel =>
            have hls : l.length = k := HL.out
            have e1 : (l ++ [z]).flatMap LTy.enc = l.flatMap LTy.enc ++ z.enc := by simp
            have hkeep : ∀ b, b ≠ gb → (Value.slice A2 k c2).ownBlock ≠ some b → b < w6.heap.size → (w7.setCell ⟨gb, 2, none⟩ (.slice A7 (k + 1) c7)).heap[b]? = w6.heap[b]? := fun b hb1 hb2 hb3 => by
              rw [Below.heap_setCell _ _ _ _ hb1, HGR.out.block b (by simp; omega) (fun e => hb2 e.symm)]
              exact Below.heap_alloc w6 _ b hb3
            have hat : (Value.slice A7 (k + 1) c7).ownBlock = (Value.slice A2 k c2).ownBlock ∨ ∃ s, (Value.slice A7 (k + 1) c7).ownBlock = some s ∧ w6.heap.size ≤ s := HAT.out.imp id fun e => ⟨_, e, by simp⟩
            have hsz : w6.heap.size ≤ (w7.setCell ⟨gb, 2, none⟩ (.slice A7 (k + 1) c7)).heap.size := by simp at s7 ⊢; omega
            refine ⟨k + 1, l ++ [z], A7, c7, by omega, by go_num, Lib.hid (by rw [List.length_append, hls]; rfl), Lib.hid (blk_set (i := 2) HG7.out _), Lib.hid (by rw [e1]; exact own_set_ne HO7.out (by simp) _), Lib.hid (HPT.out.snoc (by rw [hls]; exact HX.out.1) (by rw [hls]; exact HX.out.2) (HAN.out.trans HZ.out)), Lib.hid (fun w2 h2 => ?_), Lib.hid ?_⟩
            · have k1 := HLL.out w2 (h2.step (Nat.le_trans SZ hsz) (fun b hb1 hb2 hb3 => (hkeep b hb1 hb2 (by omega)).trans (HB6'.out.block b hb3)) (hat.imp id fun ⟨s, e, h⟩ => ⟨s, e, by omega⟩))
              refine ⟨k1.1, fun y hy => ?_⟩
              rcases List.mem_append.1 hy with hy | hy
              · exact k1.2 y hy
              obtain rfl : y = z := by simpa using hy
              refine HL6.out w2 (fun b hb1 hb2 hb3 => ?_) (Nat.le_trans hsz h2.2)
              have h9 : B ≤ w.heap.size := HBB.out
              have h10 := B0.out.size
              have hbg : b ≠ gb := by omega
              have hbv : (Value.slice A2 k c2).ownBlock ≠ some b := fun e => by
                have k2 := row_ge HO.out _ e
                have k3 := (World.ownsRow.lt HO.out b e).2
                omega
              refine (h2.1 b (by omega) hbg (fun e => ?_) (by omega)).trans (hkeep b hbg hbv hb3)
              rcases hat with hat | ⟨s, hat, hs⟩
              · exact hbv (hat ▸ e)
              · rw [hat] at e; have := Option.some.inj e; omega
            · exact (((HW0.out.trans (HB6'.out.mono HW0.out.size)).alloc (by omega) _).grown HGR.out (by simp; omega) (fun gg hgg => by have := row_ge HO6.out _ hgg; omega)).setCell (by simp; omega) _
          case measure => simp [intOf]; omega
  · go_simp
    have C0 := Lib.hid (((Below.refl w3.heap.size w3).alloc (Nat.le_refl _) (.cells #[.int .i64 0, .slice none 0 0, .slice none 0 0] 26)).drew)
    refine hK.out _ _ (⟨T3.out.below C0.out, U3.out.below C0.out⟩) (fun hHeld => ?_)
    clear hK K
    try simp only [Act.put, List.setIfInBounds_toArray, List.set_cons_zero, List.set_cons_succ]
    refine wpAnyH_ready (rs := [4]) (by kernel_rfl) (by simp) ?_
    refine AllReadyH.cons (o := _) rfl (fun K hK => ?_) AllReadyH.nil
    refine step_append_row rfl _ _ 23 9 iS _ 1 16 rfl Tryd.underlying23 hiS hS0 hS1 hS2 rfl (by decide) (w3.heap.size + 1) (.slice none 0 0) 0 [] rfl (World.ownsRow_nil _ _ _ _) t.A t.c t.ns.length (t.ns.map Value.string) HRA.out rfl (by rw [List.length_map]; omega) (HRN.out _ (((Below.refl w3.heap.size w3).alloc (Nat.le_refl _) (.cells #[.int .i64 0, .slice none 0 0, .slice none 0 0] 26)).drew)) (fun u hu => by obtain ⟨s, _, rfl⟩ := List.mem_map.1 hu; rfl) (by have := HRL.out; unfold maxLen; omega) (by have := HRL.out; omega) (by simp) ?_
    intro vN v1 hown hg1
    rw [List.nil_append, Nat.zero_add] at hown
    obtain ⟨A1, c1, rfl, _, _, _⟩ := own_form hown
    have hb : Below ((w3.alloc (.cells #[.int .i64 0, .slice none 0 0, .slice none 0 0] 26)).drew).heap.size ((w3.alloc (.cells #[.int .i64 0, .slice none 0 0, .slice none 0 0] 26)).drew) v1 := (Below.refl _ _).grown hg1 (Nat.le_refl _) (fun g hg => by simp [Value.ownBlock] at hg)
    have C1 := Lib.hid ((((Below.refl w3.heap.size w3).alloc (Nat.le_refl _) (.cells #[.int .i64 0, .slice none 0 0, .slice none 0 0] 26)).drew).trans (hb.mono (by simp)))
    have HOW := Lib.hid hown
    have HNC := Lib.hid (show t.ns.length ≤ c1 ∧ (A1 = none → c1 = 0) from ⟨(own_reads hown).2, own_nil hown⟩)
    have HX5 := Lib.hid (below_blk hb (show (w3.alloc (.cells #[.int .i64 0, .slice none 0 0, .slice none 0 0] 26)).drew.heap[w3.heap.size]? = some (.cells #[.int .i64 0, .slice none 0 0, .slice none 0 0] 26 (0, 0)) from heap_new_at w3 _ _ rfl))
    have x5c0 := cell_of_blk (i := 0) HX5.out rfl
    have x5c1 := cell_of_blk (i := 1) HX5.out rfl
    have x5c2 := cell_of_blk (i := 2) HX5.out rfl
    have x5f0 := free_of_blk (i := 0) HX5.out
    have x5f1 := free_of_blk (i := 1) HX5.out
    have x5f2 := free_of_blk (i := 2) HX5.out
    have x5l := blk_lt HX5.out
    clear hown hb hg1
    refine hK.out _ _ (⟨T3.out.below C1.out, U3.out.below C1.out⟩) (fun hHeld => ?_)
    clear hK K
    try simp only [Act.put, List.setIfInBounds_toArray, List.set_cons_zero, List.set_cons_succ]
    refine wpAnyH_take (i := 5) (oi := _) (v := .agg #[.int .i64 t.kind, .slice A1 t.ns.length c1, .slice none 0 0]) rfl (by kernel_rfl) (by kernel_rfl) (by kernel_rfl) (fun _ _ _ h => h) (Or.inl ⟨by rfl, fun w' hS => (by go_simp)⟩) hHeld ?_
    change wpAnyH _ _ _ _ _ _ _ (Act.put _ (some 31) _) _
    try simp only [Act.put, List.setIfInBounds_toArray, List.set_cons_zero, List.set_cons_succ]
    refine wpAnyH_ready (rs := [7]) (by kernel_rfl) (by simp) ?_
    refine AllReadyH.cons (o := _) rfl (fun K hK => ?_) AllReadyH.nil
    go_simp
    have C3 := Lib.hid (((C1.out.setCell (p := ⟨w3.heap.size, 0, none⟩) (by have := C1.out.size; simp; try omega) (.int .i64 t.kind)).setCell (p := ⟨w3.heap.size, 1, none⟩) (by have := C1.out.size; simp; try omega) (.slice A1 t.ns.length c1)).setCell (p := ⟨w3.heap.size, 2, none⟩) (by have := C1.out.size; simp; try omega) (.slice none 0 0))
    refine hK.out _ _ (⟨T3.out.below C3.out, U3.out.below C3.out⟩) (fun hHeld => ?_)
    clear hK K
    try simp only [Act.put, List.setIfInBounds_toArray, List.set_cons_zero, List.set_cons_succ]
    refine wpAnyH_done (by kernel_rfl) ?_ _
    go_upto_region 8 with fail
    obtain ⟨gb, hgb⟩ : ∃ b, b = w3.heap.size := ⟨_, rfl⟩
    rw [← hgb]
    refine gen_wpT fun w4 hW => ?_
    have C4 := Lib.hid (show Below w3.heap.size w3 w4 by rw [← hW]; (try rw [hgb]); exact C3.out)
    have HGB := Lib.hid (show w4.heap[gb]? = some (.cells #[.int .i64 t.kind, .slice A1 t.ns.length c1, .slice none 0 0] 26 (0, 0)) by rw [← hW, hgb]; exact blk_set (i := 2) (blk_set (i := 1) (blk_set (i := 0) HX5.out _) _) _)
    have hkp : ∀ b, w3.heap.size + 1 ≤ b → b ≠ gb ∧ w4.heap[b]? = v1.heap[b]? := fun b hb2 => by
      have hb1 : b ≠ gb := by omega
      refine ⟨hb1, ?_⟩
      rw [← hW]
      exact set3_heap _ _ _ _ _ hb1
    have hs4 : v1.heap.size ≤ w4.heap.size := by rw [← hW, set3_size]; exact Nat.le_refl _
    have HNM := Lib.hid (names_live (wc := w3) (B := B) (lo := w0.heap.size) (gb := gb) HOW.out (by have := HC3.out.size; simp; omega) (fun b h _ => hkp b (by simpa using h)) hs4)
    have HGL := Lib.hid (show w0.heap.size ≤ gb by have := HC3.out.size; have := C1.out.size; omega)
    have HWB := Lib.hid (HC3.out.trans (C4.out.mono HC3.out.size))
    have t4 := T3.out.below C4.out
    have t4c2 := t4.c2
    have t4lt := t4.lt
    rw [HN.out.1] at t4c2
    clear hW hgb hkp hs4 t4 HOW C1 C3 x5c0 x5c1 x5c2 x5f0 x5f1 x5f2 x5l HX5
    go_upto_region 9 with fail
    go_loopw [35] (fun i wr => ∃ (k : Nat) (l : List LTy) (A2 : Option Addr) (c2 : Nat), k ≤ n2 ∧ i = .int .i64 k ∧ Hid (l.length = k) ∧ Hid (wr.heap[gb]? = some (.cells #[.int .i64 t.kind, .slice A1 t.ns.length c1, .slice A2 k c2] 26 (0, 0))) ∧ Hid (wr.ownsRow (gb + 1) 26 3 (.slice A2 k c2) k (l.flatMap LTy.enc)) ∧ Hid (Parts n t u l) ∧ Hid (∀ w2, But B w0.heap.size wr w2 gb (.slice A2 k c2) → Reads w2 w2.heap.size A1 (t.ns.map Value.string) ∧ ∀ z ∈ l, LIn w2 w2.heap.size z) ∧ Hid (Below w0.heap.size w0 wr)) (fun i _ => n2 - (intOf i).toNat)
    case atStart => exact ⟨0, [], none, 0, by omega, rfl, Lib.hid rfl, HGB, Lib.hid (World.ownsRow_nil _ _ _ _), Lib.hid (fun j x y z _ _ hz => by simp at hz), Lib.hid (fun w2 h2 => ⟨HNM.out w2 h2, fun z hz => by simp at hz⟩), HWB⟩
    case round =>
      obtain ⟨k, l, A2, c2, hk, rfl, HL, HGB, HO, HPT, HLL, HW0⟩ := hrel
      have HWr := Lib.hid (B0.out.trans (HW0.out.mono B0.out.size))
      have BT := Lib.hid (T0.out.below HW0.out)
      have BU := Lib.hid (U0.out.below HW0.out)
      have RR := Lib.hid (R0.out.below HW0.out)
      by_cases hlt : k < n2
      case neg =>
        obtain rfl : k = n2 := by omega
        have hkk : ¬ (k : Int) < (k : Int) := by omega
        have rr := RR.out
        have rc0 := cell_of_blk (i := 0) rr rfl
        have rc1 := cell_of_blk (i := 1) rr rfl
        have rc2 := cell_of_blk (i := 2) rr rfl
        have rf0 := free_of_blk (i := 0) rr
        have rf1 := free_of_blk (i := 1) rr
        have rf2 := free_of_blk (i := 2) rr
        have gr := HGB.out
        have gc0 := cell_of_blk (i := 0) gr rfl
        have gc1 := cell_of_blk (i := 1) gr rfl
        have gc2 := cell_of_blk (i := 2) gr rfl
        have gl := blk_lt gr
        have GG : g + 2 < wr.heap.size := blk_lt rr
        clear rr gr
        go_wp2
        refine bodyPost_ret (v := .tuple #[.agg #[.int .i64 t.kind, .slice A1 t.ns.length c1, .slice A2 k c2], .bool true]) (by simp [results, Tryd.results67, go_sem, rc0, rc1, rc2]) rfl ?_
        have hls : l.length = k := HL.out
        have GB := HGL.out
        have hown := own_set_ne (own_set_ne (own_set_ne HO.out (a := ⟨g + 2, 0, none⟩) (by simp; omega) (.int .i64 t.kind)) (a := ⟨g + 2, 1, none⟩) (by simp; omega) (.slice A1 t.ns.length c1)) (a := ⟨g + 2, 2, none⟩) (by simp; omega) (.slice A2 k c2)
        refine .inr ⟨.mk t.kind A1 c1 t.ns A2 c2 l, by rw [HA.out]; exact meet_done H1.out H2.out H3.out (by rw [hls]; exact HN.out.1.symm) HPT.out, ?_, fun w2 h2 => ?_, ((HWr.out.setCell (by have := HGW.out; simp; omega) _).setCell (by have := HGW.out; simp; omega) _).setCell (by have := HGW.out; simp; omega) _⟩
        · show _ = Ending.returned (.tuple #[.agg #[.int .i64 t.kind, .slice A1 t.ns.length c1, .slice A2 l.length c2], .bool true])
          rw [hls]
        · have h9 : B ≤ w.heap.size := HBB.out
          have h10 := B0.out.size
          have h11 := HGW.out
          have hs3 := set3_size wr (g + 2) (.int .i64 t.kind) (.slice A1 t.ns.length c1) (.slice A2 k c2)
          have k1 := HLL.out w2 ⟨fun b hb1 hb2 hb3 hb4 => (h2.1 b (by omega) (by rw [hs3]; exact hb4)).trans (set3_heap wr (g + 2) _ _ _ (by omega)), by have := h2.2; rw [hs3] at this; exact this⟩
          exact meet_in k1.1 HNC.out.1 HNC.out.2 HT.out hls HN.out.1.symm (own_same hown (fun b hb hlt => h2.1 b (.inr (by omega)) hlt)) k1.2
      obtain ⟨x, hx⟩ : ∃ x, t.xs[k]? = some x := ⟨_, List.getElem?_eq_getElem (by rw [HN.out.1]; omega)⟩
      obtain ⟨y, hy⟩ : ∃ y, u.xs[k]? = some y := ⟨_, List.getElem?_eq_getElem (by rw [HN.out.2]; omega)⟩
      have htr := HT.out.on HWr.out
      have hur := HU.out.on HWr.out
      obtain ⟨a1, hA1, hx3⟩ := htr.at3 hx
      obtain ⟨a2, hA2, hy3⟩ := hur.at3 hy
      have X3 := Lib.hid hx3
      have Y3 := Lib.hid hy3
      have HA1 := Lib.hid hA1
      have HA2 := Lib.hid hA2
      have hpm := HPM.out k x y hx hy
      have lt1 := BT.out.lt
      have lu1 := BU.out.lt
      have hwk : IntKind.i64.wrap (k : Int) = (k : Int) := IntWalk.i64_in _ (by omega)
      have HC := Lib.hid (show ∀ w', Below wr.heap.size wr w' → Calls Tryd.prog 67 #[.agg #[.int .i64 x.kind, .slice x.A x.ns.length x.c, .slice x.A2 x.xs.length x.c2], .agg #[.int .i64 y.kind, .slice y.A y.ns.length y.c, .slice y.A2 y.xs.length y.c2]] w' (RetM B (meetF n (strip x) (strip y)) w') from fun w' hb => HIH.out x y w' B (Nat.le_trans HBB.out (Nat.le_trans HWr.out.size hb.size)) ((HOT.out.part hx).stay ((HWr.out.mono HBB.out).trans (hb.mono (Nat.le_trans HBB.out HWr.out.size)))) ((HOU.out.part hy).stay ((HWr.out.mono HBB.out).trans (hb.mono (Nat.le_trans HBB.out HWr.out.size)))) hpm.1.1 hpm.2.1 hpm.1.2 hpm.2.2)
      have HX := Lib.hid (show t.xs[k]? = some x ∧ u.xs[k]? = some y from ⟨hx, hy⟩)
      have hk' : (k : Int) < (n2 : Int) := by omega
      have hk0 : (0 : Int) ≤ k := by omega
      clear htr hur hx hy hA1 hA2 hx3 hy3 hpm
      cases hAN : meetF n (strip x) (strip y) with
      | none =>
        have HAN := Lib.hid hAN
        clear hAN
        rw [HAN.out] at HC
        go_wp2_with fail
        refine wp_region_held_drew (S := fun w' => TBox w' g t ∧ TBox w' (g + 1) u ∧ At3 w' (a1.add (k * 3)) x ∧ At3 w' (a2.add (k * 3)) y) (by kernel_rfl) (⟨BT.out, BU.out, X3.out, Y3.out⟩) (fun hHeld => ?_)
        refine wpAnyH_take (i := 0) (oi := _) (v := .pointer (some ⟨g, 2, none⟩)) rfl (by kernel_rfl) (by kernel_rfl) (by kernel_rfl) (fun _ _ _ h => h) (Or.inl ⟨by rfl, fun w' hS => (by go_simp)⟩) hHeld ?_
        change wpAnyH _ _ _ _ _ _ _ (Act.put _ (some 39) _) _
        try simp only [Act.put, List.setIfInBounds_toArray, List.set_cons_zero, List.set_cons_succ]
        refine wpAnyH_take (i := 1) (oi := _) (v := .slice (some a1) n2 t.c2) rfl (by kernel_rfl) (by kernel_rfl) (by kernel_rfl) (fun _ _ _ h => h) (Or.inl ⟨by rfl, fun w' hS => (by have q := TBox.c2 hS.1; rw [HN.out.1, HA1.out] at q; go_simp)⟩) hHeld ?_
        change wpAnyH _ _ _ _ _ _ _ (Act.put _ (some 40) _) _
        try simp only [Act.put, List.setIfInBounds_toArray, List.set_cons_zero, List.set_cons_succ]
        refine wpAnyH_take (i := 2) (oi := _) (v := .int .i64 (k : Int)) rfl (by kernel_rfl) (by kernel_rfl) (by kernel_rfl) (fun _ _ _ h => h) (Or.inl ⟨by rfl, fun w' hS => (by go_simp)⟩) hHeld ?_
        change wpAnyH _ _ _ _ _ _ _ (Act.put _ (some 41) _) _
        try simp only [Act.put, List.setIfInBounds_toArray, List.set_cons_zero, List.set_cons_succ]
        refine wpAnyH_take (i := 3) (oi := _) (v := .pointer (some (a1.add (k * 3)))) rfl (by kernel_rfl) (by kernel_rfl) (by kernel_rfl) (fun _ _ _ h => h) (Or.inl ⟨by rfl, fun w' hS => (by go_simp)⟩) hHeld ?_
        change wpAnyH _ _ _ _ _ _ _ (Act.put _ (some 42) _) _
        try simp only [Act.put, List.setIfInBounds_toArray, List.set_cons_zero, List.set_cons_succ]
        refine wpAnyH_take (i := 4) (oi := _) (v := .agg #[.int .i64 x.kind, .slice x.A x.ns.length x.c, .slice x.A2 x.xs.length x.c2]) rfl (by kernel_rfl) (by kernel_rfl) (by kernel_rfl) (fun _ _ _ h => h) (Or.inl ⟨by rfl, fun w' hS => (by obtain ⟨_, q0, q1, q2⟩ := hS.2.2.1; go_simp)⟩) hHeld ?_
        change wpAnyH _ _ _ _ _ _ _ (Act.put _ (some 43) _) _
        try simp only [Act.put, List.setIfInBounds_toArray, List.set_cons_zero, List.set_cons_succ]
        refine wpAnyH_take (i := 5) (oi := _) (v := .pointer (some ⟨g + 1, 2, none⟩)) rfl (by kernel_rfl) (by kernel_rfl) (by kernel_rfl) (fun _ _ _ h => h) (Or.inl ⟨by rfl, fun w' hS => (by go_simp)⟩) hHeld ?_
        change wpAnyH _ _ _ _ _ _ _ (Act.put _ (some 44) _) _
        try simp only [Act.put, List.setIfInBounds_toArray, List.set_cons_zero, List.set_cons_succ]
        refine wpAnyH_take (i := 6) (oi := _) (v := .slice (some a2) n2 u.c2) rfl (by kernel_rfl) (by kernel_rfl) (by kernel_rfl) (fun _ _ _ h => h) (Or.inl ⟨by rfl, fun w' hS => (by have q := TBox.c2 hS.2.1; rw [HN.out.2, HA2.out] at q; go_simp)⟩) hHeld ?_
        change wpAnyH _ _ _ _ _ _ _ (Act.put _ (some 45) _) _
        try simp only [Act.put, List.setIfInBounds_toArray, List.set_cons_zero, List.set_cons_succ]
        refine wpAnyH_take (i := 7) (oi := _) (v := .int .i64 (k : Int)) rfl (by kernel_rfl) (by kernel_rfl) (by kernel_rfl) (fun _ _ _ h => h) (Or.inl ⟨by rfl, fun w' hS => (by go_simp)⟩) hHeld ?_
        change wpAnyH _ _ _ _ _ _ _ (Act.put _ (some 46) _) _
        try simp only [Act.put, List.setIfInBounds_toArray, List.set_cons_zero, List.set_cons_succ]
        refine wpAnyH_take (i := 8) (oi := _) (v := .pointer (some (a2.add (k * 3)))) rfl (by kernel_rfl) (by kernel_rfl) (by kernel_rfl) (fun _ _ _ h => h) (Or.inl ⟨by rfl, fun w' hS => (by go_simp)⟩) hHeld ?_
        change wpAnyH _ _ _ _ _ _ _ (Act.put _ (some 47) _) _
        try simp only [Act.put, List.setIfInBounds_toArray, List.set_cons_zero, List.set_cons_succ]
        refine wpAnyH_take (i := 9) (oi := _) (v := .agg #[.int .i64 y.kind, .slice y.A y.ns.length y.c, .slice y.A2 y.xs.length y.c2]) rfl (by kernel_rfl) (by kernel_rfl) (by kernel_rfl) (fun _ _ _ h => h) (Or.inl ⟨by rfl, fun w' hS => (by obtain ⟨_, q0, q1, q2⟩ := hS.2.2.2; go_simp)⟩) hHeld ?_
        change wpAnyH _ _ _ _ _ _ _ (Act.put _ (some 48) _) _
        try simp only [Act.put, List.setIfInBounds_toArray, List.set_cons_zero, List.set_cons_succ]
        refine wpAnyH_ready (rs := [10, 14]) (by kernel_rfl) (by simp) ?_
        refine AllReadyH.cons (o := _) rfl (fun K hK => ?_) (AllReadyH.cons (o := _) rfl (fun K hK => ?_) (AllReadyH.nil))
        · go_simp
          with_reducible refine (HC.out _ ((Below.refl wr.heap.size wr).drew)).mono ?_
          rintro e w5 (⟨_, rfl, hb5⟩ | ⟨z, hz, _⟩)
          rotate_left
          · cases hz
          have HB5 := Lib.hid (((Below.refl wr.heap.size wr).drew).trans (hb5.mono (by simp)))
          clear hb5
          refine hK.out _ _ (⟨BT.out.below HB5.out, BU.out.below HB5.out, X3.out.below HB5.out, Y3.out.below HB5.out⟩) (fun hHeld => ?_)
          clear hK K
          try simp only [Act.put, List.setIfInBounds_toArray, List.set_cons_zero, List.set_cons_succ]
          refine wpAnyH_take (i := 11) (oi := _) (v := .tuple #[.agg #[.int .i64 0, .slice none 0 0, .slice none 0 0], .bool false]) rfl (by kernel_rfl) (by kernel_rfl) (by kernel_rfl) (fun _ _ _ h => h) (Or.inl ⟨by rfl, fun w' hS => (by go_simp)⟩) hHeld ?_
          change wpAnyH _ _ _ _ _ _ _ (Act.put _ (some 38) _) _
          try simp only [Act.put, List.setIfInBounds_toArray, List.set_cons_zero, List.set_cons_succ]
          refine wpAnyH_take (i := 12) (oi := _) (v := .agg #[.int .i64 0, .slice none 0 0, .slice none 0 0]) rfl (by kernel_rfl) (by kernel_rfl) (by kernel_rfl) (fun _ _ _ h => h) (Or.inl ⟨by rfl, fun w' hS => (by go_simp)⟩) hHeld ?_
          change wpAnyH _ _ _ _ _ _ _ (Act.put _ (some 50) _) _
          try simp only [Act.put, List.setIfInBounds_toArray, List.set_cons_zero, List.set_cons_succ]
          refine wpAnyH_take (i := 13) (oi := _) (v := .bool false) rfl (by kernel_rfl) (by kernel_rfl) (by kernel_rfl) (fun _ _ _ h => h) (Or.inl ⟨by rfl, fun w' hS => (by go_simp)⟩) hHeld ?_
          change wpAnyH _ _ _ _ _ _ _ (Act.put _ (some 51) _) _
          try simp only [Act.put, List.setIfInBounds_toArray, List.set_cons_zero, List.set_cons_succ]
          refine wpAnyH_ready (rs := [14]) (by kernel_rfl) (by simp) ?_
          refine AllReadyH.cons (o := _) rfl (fun K hK => ?_) AllReadyH.nil
          go_simp
          have HB6 := Lib.hid (HB5.out.alloc HB5.out.size (.cells #[.int .i64 0, .slice none 0 0, .slice none 0 0] 26))
          refine hK.out _ _ (⟨BT.out.below HB6.out, BU.out.below HB6.out, X3.out.below HB6.out, Y3.out.below HB6.out⟩) (fun hHeld => ?_)
          clear hK K
          try simp only [Act.put, List.setIfInBounds_toArray, List.set_cons_zero, List.set_cons_succ]
          refine wpAnyH_ready (rs := [15]) (by kernel_rfl) (by simp) ?_
          refine AllReadyH.cons (o := _) rfl (fun K hK => ?_) AllReadyH.nil
          go_simp
          have HB7 := Lib.hid (HB5.out.alloc HB5.out.size (.cells #[.int .i64 0, .slice none 0 0, .slice none 0 0] 26))
          refine hK.out _ _ (⟨BT.out.below HB7.out, BU.out.below HB7.out, X3.out.below HB7.out, Y3.out.below HB7.out⟩) (fun hHeld => ?_)
          clear hK K
          try simp only [Act.put, List.setIfInBounds_toArray, List.set_cons_zero, List.set_cons_succ]
          refine wpAnyH_take (i := 16) (oi := _) (v := .bool false) rfl (by kernel_rfl) (by kernel_rfl) (by kernel_rfl) (fun _ _ _ h => h) (Or.inl ⟨by rfl, fun w' hS => (by go_simp)⟩) hHeld ?_
          change wpAnyH _ _ _ _ _ _ _ (Act.put _ (some 9) _) _
          try simp only [Act.put, List.setIfInBounds_toArray, List.set_cons_zero, List.set_cons_succ]
          refine wpAnyH_done (by kernel_rfl) ?_ _
          go_upto_region 12 with fail
          obtain ⟨hb, hhb⟩ : ∃ b, b = w5.heap.size := ⟨_, rfl⟩
          rw [← hhb]
          refine gen_wpT fun w6 hW => ?_
          have HB6' := Lib.hid (show Below wr.heap.size wr w6 by rw [← hW]; (try rw [hhb]); exact HB7.out)
          have B6 := Lib.hid (HWr.out.trans (HB6'.out.mono HWr.out.size))
          have R6 := Lib.hid (RR.out.below HB6'.out)
          have r6 := R6.out
          have r6c0 := cell_of_blk (i := 0) r6 rfl
          have r6c1 := cell_of_blk (i := 1) r6 rfl
          have r6c2 := cell_of_blk (i := 2) r6 rfl
          have r6f0 := free_of_blk (i := 0) r6
          have r6f1 := free_of_blk (i := 1) r6
          have r6f2 := free_of_blk (i := 2) r6
          have G6 : g + 2 < w6.heap.size := blk_lt r6
          clear hW hhb r6
          go_wp2
          refine bodyPost_ret (v := .tuple #[.agg #[.int .i64 0, .slice none 0 0, .slice none 0 0], .bool false]) (by simp [results, Tryd.results67, go_sem, r6c0, r6c1, r6c2]) rfl ?_
          first | exact .inl ⟨by rw [HA.out]; exact meet_none H1.out H2.out H3.out HX.out.1 HX.out.2 HAN.out, rfl, (((B6.out.setCell (by have := HGW.out; simp; omega) _).setCell (by have := HGW.out; simp; omega) _).setCell (by have := HGW.out; simp; omega) _)⟩ | exact .inl ⟨by rw [HA.out]; exact meet_none H1.out H2.out H3.out HX.out.1 HX.out.2 HAN.out, rfl, B6.out⟩
        · go_simp
          have HB4 := Lib.hid (((Below.refl wr.heap.size wr).alloc (Nat.le_refl _) (.cells #[.int .i64 0, .slice none 0 0, .slice none 0 0] 26)).drew)
          refine hK.out _ _ (⟨BT.out.below HB4.out, BU.out.below HB4.out, X3.out.below HB4.out, Y3.out.below HB4.out⟩) (fun hHeld => ?_)
          clear hK K
          try simp only [Act.put, List.setIfInBounds_toArray, List.set_cons_zero, List.set_cons_succ]
          refine wpAnyH_ready (rs := [10]) (by kernel_rfl) (by simp) ?_
          refine AllReadyH.cons (o := _) rfl (fun K hK => ?_) AllReadyH.nil
          go_simp
          with_reducible refine (HC.out _ (((Below.refl wr.heap.size wr).alloc (Nat.le_refl _) (.cells #[.int .i64 0, .slice none 0 0, .slice none 0 0] 26)).drew)).mono ?_
          rintro e w5 (⟨_, rfl, hb5⟩ | ⟨z, hz, _⟩)
          rotate_left
          · cases hz
          have HB5 := Lib.hid ((((Below.refl wr.heap.size wr).alloc (Nat.le_refl _) (.cells #[.int .i64 0, .slice none 0 0, .slice none 0 0] 26)).drew).trans (hb5.mono (by simp)))
          have HX5 := Lib.hid (below_blk hb5 (show ((wr.alloc (.cells #[.int .i64 0, .slice none 0 0, .slice none 0 0] 26)).drew).heap[wr.heap.size]? = some (.cells #[.int .i64 0, .slice none 0 0, .slice none 0 0] 26 (0, 0)) from heap_new_at wr _ _ rfl))
          have x5c0 := cell_of_blk (i := 0) HX5.out rfl
          have x5c1 := cell_of_blk (i := 1) HX5.out rfl
          have x5c2 := cell_of_blk (i := 2) HX5.out rfl
          have x5f0 := free_of_blk (i := 0) HX5.out
          have x5f1 := free_of_blk (i := 1) HX5.out
          have x5f2 := free_of_blk (i := 2) HX5.out
          have x5l := blk_lt HX5.out
          clear hb5
          refine hK.out _ _ (⟨BT.out.below HB5.out, BU.out.below HB5.out, X3.out.below HB5.out, Y3.out.below HB5.out⟩) (fun hHeld => ?_)
          clear hK K
          try simp only [Act.put, List.setIfInBounds_toArray, List.set_cons_zero, List.set_cons_succ]
          refine wpAnyH_take (i := 11) (oi := _) (v := .tuple #[.agg #[.int .i64 0, .slice none 0 0, .slice none 0 0], .bool false]) rfl (by kernel_rfl) (by kernel_rfl) (by kernel_rfl) (fun _ _ _ h => h) (Or.inl ⟨by rfl, fun w' hS => (by go_simp)⟩) hHeld ?_
          change wpAnyH _ _ _ _ _ _ _ (Act.put _ (some 38) _) _
          try simp only [Act.put, List.setIfInBounds_toArray, List.set_cons_zero, List.set_cons_succ]
          refine wpAnyH_take (i := 12) (oi := _) (v := .agg #[.int .i64 0, .slice none 0 0, .slice none 0 0]) rfl (by kernel_rfl) (by kernel_rfl) (by kernel_rfl) (fun _ _ _ h => h) (Or.inl ⟨by rfl, fun w' hS => (by go_simp)⟩) hHeld ?_
          change wpAnyH _ _ _ _ _ _ _ (Act.put _ (some 50) _) _
          try simp only [Act.put, List.setIfInBounds_toArray, List.set_cons_zero, List.set_cons_succ]
          refine wpAnyH_take (i := 13) (oi := _) (v := .bool false) rfl (by kernel_rfl) (by kernel_rfl) (by kernel_rfl) (fun _ _ _ h => h) (Or.inl ⟨by rfl, fun w' hS => (by go_simp)⟩) hHeld ?_
          change wpAnyH _ _ _ _ _ _ _ (Act.put _ (some 51) _) _
          try simp only [Act.put, List.setIfInBounds_toArray, List.set_cons_zero, List.set_cons_succ]
          refine wpAnyH_ready (rs := [15]) (by kernel_rfl) (by simp) ?_
          refine AllReadyH.cons (o := _) rfl (fun K hK => ?_) AllReadyH.nil
          go_simp
          have HB7 := Lib.hid (((HB5.out.setCell (p := ⟨wr.heap.size, 0, none⟩) (by have := HB5.out.size; simp; try omega) (.int .i64 0)).setCell (p := ⟨wr.heap.size, 1, none⟩) (by have := HB5.out.size; simp; try omega) (.slice none 0 0)).setCell (p := ⟨wr.heap.size, 2, none⟩) (by have := HB5.out.size; simp; try omega) (.slice none 0 0))
          refine hK.out _ _ (⟨BT.out.below HB7.out, BU.out.below HB7.out, X3.out.below HB7.out, Y3.out.below HB7.out⟩) (fun hHeld => ?_)
          clear hK K
          try simp only [Act.put, List.setIfInBounds_toArray, List.set_cons_zero, List.set_cons_succ]
          refine wpAnyH_take (i := 16) (oi := _) (v := .bool false) rfl (by kernel_rfl) (by kernel_rfl) (by kernel_rfl) (fun _ _ _ h => h) (Or.inl ⟨by rfl, fun w' hS => (by go_simp)⟩) hHeld ?_
          change wpAnyH _ _ _ _ _ _ _ (Act.put _ (some 9) _) _
          try simp only [Act.put, List.setIfInBounds_toArray, List.set_cons_zero, List.set_cons_succ]
          refine wpAnyH_done (by kernel_rfl) ?_ _
          go_upto_region 12 with fail
          obtain ⟨hb, hhb⟩ : ∃ b, b = wr.heap.size := ⟨_, rfl⟩
          rw [← hhb]
          refine gen_wpT fun w6 hW => ?_
          have HB6' := Lib.hid (show Below wr.heap.size wr w6 by rw [← hW]; (try rw [hhb]); exact HB7.out)
          have B6 := Lib.hid (HWr.out.trans (HB6'.out.mono HWr.out.size))
          have R6 := Lib.hid (RR.out.below HB6'.out)
          have r6 := R6.out
          have r6c0 := cell_of_blk (i := 0) r6 rfl
          have r6c1 := cell_of_blk (i := 1) r6 rfl
          have r6c2 := cell_of_blk (i := 2) r6 rfl
          have r6f0 := free_of_blk (i := 0) r6
          have r6f1 := free_of_blk (i := 1) r6
          have r6f2 := free_of_blk (i := 2) r6
          have G6 : g + 2 < w6.heap.size := blk_lt r6
          clear hW hhb r6 x5c0 x5c1 x5c2 x5f0 x5f1 x5f2 x5l
          go_wp2
          refine bodyPost_ret (v := .tuple #[.agg #[.int .i64 0, .slice none 0 0, .slice none 0 0], .bool false]) (by simp [results, Tryd.results67, go_sem, r6c0, r6c1, r6c2]) rfl ?_
          first | exact .inl ⟨by rw [HA.out]; exact meet_none H1.out H2.out H3.out HX.out.1 HX.out.2 HAN.out, rfl, (((B6.out.setCell (by have := HGW.out; simp; omega) _).setCell (by have := HGW.out; simp; omega) _).setCell (by have := HGW.out; simp; omega) _)⟩ | exact .inl ⟨by rw [HA.out]; exact meet_none H1.out H2.out H3.out HX.out.1 HX.out.2 HAN.out, rfl, B6.out⟩
      | some zt =>
        have HAN := Lib.hid hAN
        clear hAN
        rw [HAN.out] at HC
        go_wp2_with fail
        refine wp_region_held_drew (S := fun w' => TBox w' g t ∧ TBox w' (g + 1) u ∧ At3 w' (a1.add (k * 3)) x ∧ At3 w' (a2.add (k * 3)) y) (by kernel_rfl) (⟨BT.out, BU.out, X3.out, Y3.out⟩) (fun hHeld => ?_)
        refine wpAnyH_take (i := 0) (oi := _) (v := .pointer (some ⟨g, 2, none⟩)) rfl (by kernel_rfl) (by kernel_rfl) (by kernel_rfl) (fun _ _ _ h => h) (Or.inl ⟨by rfl, fun w' hS => (by go_simp)⟩) hHeld ?_
        change wpAnyH _ _ _ _ _ _ _ (Act.put _ (some 39) _) _
        try simp only [Act.put, List.setIfInBounds_toArray, List.set_cons_zero, List.set_cons_succ]
        refine wpAnyH_take (i := 1) (oi := _) (v := .slice (some a1) n2 t.c2) rfl (by kernel_rfl) (by kernel_rfl) (by kernel_rfl) (fun _ _ _ h => h) (Or.inl ⟨by rfl, fun w' hS => (by have q := TBox.c2 hS.1; rw [HN.out.1, HA1.out] at q; go_simp)⟩) hHeld ?_
        change wpAnyH _ _ _ _ _ _ _ (Act.put _ (some 40) _) _
        try simp only [Act.put, List.setIfInBounds_toArray, List.set_cons_zero, List.set_cons_succ]
        refine wpAnyH_take (i := 2) (oi := _) (v := .int .i64 (k : Int)) rfl (by kernel_rfl) (by kernel_rfl) (by kernel_rfl) (fun _ _ _ h => h) (Or.inl ⟨by rfl, fun w' hS => (by go_simp)⟩) hHeld ?_
        change wpAnyH _ _ _ _ _ _ _ (Act.put _ (some 41) _) _
        try simp only [Act.put, List.setIfInBounds_toArray, List.set_cons_zero, List.set_cons_succ]
        refine wpAnyH_take (i := 3) (oi := _) (v := .pointer (some (a1.add (k * 3)))) rfl (by kernel_rfl) (by kernel_rfl) (by kernel_rfl) (fun _ _ _ h => h) (Or.inl ⟨by rfl, fun w' hS => (by go_simp)⟩) hHeld ?_
        change wpAnyH _ _ _ _ _ _ _ (Act.put _ (some 42) _) _
        try simp only [Act.put, List.setIfInBounds_toArray, List.set_cons_zero, List.set_cons_succ]
        refine wpAnyH_take (i := 4) (oi := _) (v := .agg #[.int .i64 x.kind, .slice x.A x.ns.length x.c, .slice x.A2 x.xs.length x.c2]) rfl (by kernel_rfl) (by kernel_rfl) (by kernel_rfl) (fun _ _ _ h => h) (Or.inl ⟨by rfl, fun w' hS => (by obtain ⟨_, q0, q1, q2⟩ := hS.2.2.1; go_simp)⟩) hHeld ?_
        change wpAnyH _ _ _ _ _ _ _ (Act.put _ (some 43) _) _
        try simp only [Act.put, List.setIfInBounds_toArray, List.set_cons_zero, List.set_cons_succ]
        refine wpAnyH_take (i := 5) (oi := _) (v := .pointer (some ⟨g + 1, 2, none⟩)) rfl (by kernel_rfl) (by kernel_rfl) (by kernel_rfl) (fun _ _ _ h => h) (Or.inl ⟨by rfl, fun w' hS => (by go_simp)⟩) hHeld ?_
        change wpAnyH _ _ _ _ _ _ _ (Act.put _ (some 44) _) _
        try simp only [Act.put, List.setIfInBounds_toArray, List.set_cons_zero, List.set_cons_succ]
        refine wpAnyH_take (i := 6) (oi := _) (v := .slice (some a2) n2 u.c2) rfl (by kernel_rfl) (by kernel_rfl) (by kernel_rfl) (fun _ _ _ h => h) (Or.inl ⟨by rfl, fun w' hS => (by have q := TBox.c2 hS.2.1; rw [HN.out.2, HA2.out] at q; go_simp)⟩) hHeld ?_
        change wpAnyH _ _ _ _ _ _ _ (Act.put _ (some 45) _) _
        try simp only [Act.put, List.setIfInBounds_toArray, List.set_cons_zero, List.set_cons_succ]
        refine wpAnyH_take (i := 7) (oi := _) (v := .int .i64 (k : Int)) rfl (by kernel_rfl) (by kernel_rfl) (by kernel_rfl) (fun _ _ _ h => h) (Or.inl ⟨by rfl, fun w' hS => (by go_simp)⟩) hHeld ?_
        change wpAnyH _ _ _ _ _ _ _ (Act.put _ (some 46) _) _
        try simp only [Act.put, List.setIfInBounds_toArray, List.set_cons_zero, List.set_cons_succ]
        refine wpAnyH_take (i := 8) (oi := _) (v := .pointer (some (a2.add (k * 3)))) rfl (by kernel_rfl) (by kernel_rfl) (by kernel_rfl) (fun _ _ _ h => h) (Or.inl ⟨by rfl, fun w' hS => (by go_simp)⟩) hHeld ?_
        change wpAnyH _ _ _ _ _ _ _ (Act.put _ (some 47) _) _
        try simp only [Act.put, List.setIfInBounds_toArray, List.set_cons_zero, List.set_cons_succ]
        refine wpAnyH_take (i := 9) (oi := _) (v := .agg #[.int .i64 y.kind, .slice y.A y.ns.length y.c, .slice y.A2 y.xs.length y.c2]) rfl (by kernel_rfl) (by kernel_rfl) (by kernel_rfl) (fun _ _ _ h => h) (Or.inl ⟨by rfl, fun w' hS => (by obtain ⟨_, q0, q1, q2⟩ := hS.2.2.2; go_simp)⟩) hHeld ?_
        change wpAnyH _ _ _ _ _ _ _ (Act.put _ (some 48) _) _
        try simp only [Act.put, List.setIfInBounds_toArray, List.set_cons_zero, List.set_cons_succ]
        refine wpAnyH_ready (rs := [10, 14]) (by kernel_rfl) (by simp) ?_
        refine AllReadyH.cons (o := _) rfl (fun K hK => ?_) (AllReadyH.cons (o := _) rfl (fun K hK => ?_) (AllReadyH.nil))
        · go_simp
          with_reducible refine (HC.out _ ((Below.refl wr.heap.size wr).drew)).mono ?_
          rintro e w5 (⟨h, _⟩ | ⟨z, hz, rfl, hlive, hb5⟩)
          · cases h
          have HB5 := Lib.hid (((Below.refl wr.heap.size wr).drew).trans (hb5.mono (by simp)))
          have HLV := Lib.hid hlive
          have HZ := Lib.hid hz
          unfold LTy.val
          clear hlive hz
          clear hb5
          refine hK.out _ _ (⟨BT.out.below HB5.out, BU.out.below HB5.out, X3.out.below HB5.out, Y3.out.below HB5.out⟩) (fun hHeld => ?_)
          clear hK K
          try simp only [Act.put, List.setIfInBounds_toArray, List.set_cons_zero, List.set_cons_succ]
          refine wpAnyH_take (i := 11) (oi := _) (v := .tuple #[.agg #[.int .i64 z.kind, .slice z.A z.ns.length z.c, .slice z.A2 z.xs.length z.c2], .bool true]) rfl (by kernel_rfl) (by kernel_rfl) (by kernel_rfl) (fun _ _ _ h => h) (Or.inl ⟨by rfl, fun w' hS => (by go_simp)⟩) hHeld ?_
          change wpAnyH _ _ _ _ _ _ _ (Act.put _ (some 38) _) _
          try simp only [Act.put, List.setIfInBounds_toArray, List.set_cons_zero, List.set_cons_succ]
          refine wpAnyH_take (i := 12) (oi := _) (v := .agg #[.int .i64 z.kind, .slice z.A z.ns.length z.c, .slice z.A2 z.xs.length z.c2]) rfl (by kernel_rfl) (by kernel_rfl) (by kernel_rfl) (fun _ _ _ h => h) (Or.inl ⟨by rfl, fun w' hS => (by go_simp)⟩) hHeld ?_
          change wpAnyH _ _ _ _ _ _ _ (Act.put _ (some 50) _) _
          try simp only [Act.put, List.setIfInBounds_toArray, List.set_cons_zero, List.set_cons_succ]
          refine wpAnyH_take (i := 13) (oi := _) (v := .bool true) rfl (by kernel_rfl) (by kernel_rfl) (by kernel_rfl) (fun _ _ _ h => h) (Or.inl ⟨by rfl, fun w' hS => (by go_simp)⟩) hHeld ?_
          change wpAnyH _ _ _ _ _ _ _ (Act.put _ (some 51) _) _
          try simp only [Act.put, List.setIfInBounds_toArray, List.set_cons_zero, List.set_cons_succ]
          refine wpAnyH_ready (rs := [14]) (by kernel_rfl) (by simp) ?_
          refine AllReadyH.cons (o := _) rfl (fun K hK => ?_) AllReadyH.nil
          go_simp
          have HB6 := Lib.hid (HB5.out.alloc HB5.out.size (.cells #[.int .i64 0, .slice none 0 0, .slice none 0 0] 26))
          refine hK.out _ _ (⟨BT.out.below HB6.out, BU.out.below HB6.out, X3.out.below HB6.out, Y3.out.below HB6.out⟩) (fun hHeld => ?_)
          clear hK K
          try simp only [Act.put, List.setIfInBounds_toArray, List.set_cons_zero, List.set_cons_succ]
          refine wpAnyH_ready (rs := [15]) (by kernel_rfl) (by simp) ?_
          refine AllReadyH.cons (o := _) rfl (fun K hK => ?_) AllReadyH.nil
          go_simp
          have HB7 := Lib.hid (HB5.out.alloc HB5.out.size (.cells #[.int .i64 z.kind, .slice z.A z.ns.length z.c, .slice z.A2 z.xs.length z.c2] 26))
          refine hK.out _ _ (⟨BT.out.below HB7.out, BU.out.below HB7.out, X3.out.below HB7.out, Y3.out.below HB7.out⟩) (fun hHeld => ?_)
          clear hK K
          try simp only [Act.put, List.setIfInBounds_toArray, List.set_cons_zero, List.set_cons_succ]
          refine wpAnyH_take (i := 16) (oi := _) (v := .bool true) rfl (by kernel_rfl) (by kernel_rfl) (by kernel_rfl) (fun _ _ _ h => h) (Or.inl ⟨by rfl, fun w' hS => (by go_simp)⟩) hHeld ?_
          change wpAnyH _ _ _ _ _ _ _ (Act.put _ (some 9) _) _
          try simp only [Act.put, List.setIfInBounds_toArray, List.set_cons_zero, List.set_cons_succ]
          refine wpAnyH_done (by kernel_rfl) ?_ _
          go_upto_region 12 with fail
          obtain ⟨hb, hhb⟩ : ∃ b, b = w5.heap.size := ⟨_, rfl⟩
          rw [← hhb]
          refine gen_wpT fun w6 hW => ?_
          have HB6' := Lib.hid (show Below wr.heap.size wr w6 by rw [← hW]; (try rw [hhb]); exact HB7.out)
          have HX6 := Lib.hid (show TBox w6 hb z by rw [← hW, hhb]; exact heap_new_at w5 _ _ rfl)
          have HK6 := Lib.hid (show ∀ b, b ≠ hb → b < w5.heap.size → w6.heap[b]? = w5.heap[b]? from fun b hb1 hb2 => by rw [← hW]; exact Below.heap_alloc w5 _ b hb2)
          have HS6 := Lib.hid (show w5.heap.size ≤ w6.heap.size ∧ wr.heap.size ≤ hb by rw [← hW, hhb]; exact ⟨by simp, HB5.out.size⟩)
          have HL6 := Lib.hid (show ∀ w2, (∀ b, (b < B ∨ wr.heap.size ≤ b) → b ≠ hb → b < w6.heap.size → w2.heap[b]? = w6.heap[b]?) → w6.heap.size ≤ w2.heap.size → LIn w2 w2.heap.size z from fun w2 h1 h2 => HLV.out w2 ⟨fun b h3 h4 => by
            have h7 := HS6.out
            have h9 : B ≤ wr.heap.size := Nat.le_trans HBB.out HWr.out.size
            have h5 : b ≠ hb := by rcases h3 with h3 | h3 <;> (try simp at h3) <;> omega
            have h6 : b < B ∨ wr.heap.size ≤ b := by rcases h3 with h3 | h3 <;> (try simp at h3) <;> omega
            exact (h1 b h6 h5 (by omega)).trans (HK6.out b h5 h4), Nat.le_trans HS6.out.1 h2⟩)
          clear HLV HK6
          have B6 := Lib.hid (HWr.out.trans (HB6'.out.mono HWr.out.size))
          have R6 := Lib.hid (RR.out.below HB6'.out)
          have r6 := R6.out
          have r6c0 := cell_of_blk (i := 0) r6 rfl
          have r6c1 := cell_of_blk (i := 1) r6 rfl
          have r6c2 := cell_of_blk (i := 2) r6 rfl
          have r6f0 := free_of_blk (i := 0) r6
          have r6f1 := free_of_blk (i := 1) r6
          have r6f2 := free_of_blk (i := 2) r6
          have G6 : g + 2 < w6.heap.size := blk_lt r6
          clear hW hhb r6
          have x6 := HX6.out
          have x6c0 := x6.c0
          have x6c1 := x6.c1
          have x6c2 := x6.c2
          have x6l := x6.lt
          clear x6
          have HG6 := Lib.hid (below_blk HB6'.out HGB.out)
          have g6c := cell_of_blk (i := 2) HG6.out rfl
          have g6f := free_of_blk (i := 2) HG6.out
          have g6l := blk_lt HG6.out
          have HO6 := Lib.hid (own_same HO.out (fun b _ hlt => HB6'.out.block b hlt))
          have GB := HGL.out
          have SZ := HB6'.out.size
          have hnl := blk_lt HGB.out
          go_wp2_with (at_builtin; refine wpList_append_own_at _ rfl _ _ 24 rfl (gb + 1) 26 i0 _ 3 56 Tryd.underlying24 hi hz0 hz1 hz2 rfl (by decide) _ _ _ rfl (HO6.out.alloc _) ⟨w6.heap.size, 0, none⟩ 1 1 z.enc rfl rfl (World.news_of_block (heap_alloc_new _ _)) (by simp [LTy.enc, Value.oneCell']) (by unfold maxLen; omega) (by omega) (by simp; omega) ?_; intro v' w7 hown7 hg7 _ hat7; obtain ⟨A7, c7, rfl, _, _, _⟩ := own_form hown7; have hbx7 := blk_grown (blk_alloc HG6.out _) hg7 (fun e => by have := row_ge HO6.out _ e; omega); have HG7 := Lib.hid hbx7; have HO7 := Lib.hid hown7; have HGR := Lib.hid hg7; have HAT := Lib.hid hat7; have s7 := hg7.size; have t7 := cell_of_blk (i := 2) hbx7 rfl; have f7 := free_of_blk (i := 2) hbx7; have l7 := blk_lt hbx7; clear hbx7 hown7 hg7 hat7)
          go_roundw
          case rel =>
            have hls : l.length = k := HL.out
            have e1 : (l ++ [z]).flatMap LTy.enc = l.flatMap LTy.enc ++ z.enc := by simp
            have hkeep : ∀ b, b ≠ gb → (Value.slice A2 k c2).ownBlock ≠ some b → b < w6.heap.size → (w7.setCell ⟨gb, 2, none⟩ (.slice A7 (k + 1) c7)).heap[b]? = w6.heap[b]? := fun b hb1 hb2 hb3 => by
              rw [Below.heap_setCell _ _ _ _ hb1, HGR.out.block b (by simp; omega) (fun e => hb2 e.symm)]
              exact Below.heap_alloc w6 _ b hb3
            have hat : (Value.slice A7 (k + 1) c7).ownBlock = (Value.slice A2 k c2).ownBlock ∨ ∃ s, (Value.slice A7 (k + 1) c7).ownBlock = some s ∧ w6.heap.size ≤ s := HAT.out.imp id fun e => ⟨_, e, by simp⟩
            have hsz : w6.heap.size ≤ (w7.setCell ⟨gb, 2, none⟩ (.slice A7 (k + 1) c7)).heap.size := by simp at s7 ⊢; omega
            refine ⟨k + 1, l ++ [z], A7, c7, by omega, by go_num, Lib.hid (by rw [List.length_append, hls]; rfl), Lib.hid (blk_set (i := 2) HG7.out _), Lib.hid (by rw [e1]; exact own_set_ne HO7.out (by simp) _), Lib.hid (HPT.out.snoc (by rw [hls]; exact HX.out.1) (by rw [hls]; exact HX.out.2) (HAN.out.trans HZ.out)), Lib.hid (fun w2 h2 => ?_), Lib.hid ?_⟩
            · have k1 := HLL.out w2 (h2.step (Nat.le_trans SZ hsz) (fun b hb1 hb2 hb3 => (hkeep b hb1 hb2 (by omega)).trans (HB6'.out.block b hb3)) (hat.imp id fun ⟨s, e, h⟩ => ⟨s, e, by omega⟩))
              refine ⟨k1.1, fun y hy => ?_⟩
              rcases List.mem_append.1 hy with hy | hy
              · exact k1.2 y hy
              obtain rfl : y = z := by simpa using hy
              refine HL6.out w2 (fun b hb1 hb2 hb3 => ?_) (Nat.le_trans hsz h2.2)
              have h9 : B ≤ w.heap.size := HBB.out
              have h10 := B0.out.size
              have hbg : b ≠ gb := by omega
              have hbv : (Value.slice A2 k c2).ownBlock ≠ some b := fun e => by
                have k2 := row_ge HO.out _ e
                have k3 := (World.ownsRow.lt HO.out b e).2
                omega
              refine (h2.1 b (by omega) hbg (fun e => ?_) (by omega)).trans (hkeep b hbg hbv hb3)
              rcases hat with hat | ⟨s, hat, hs⟩
              · exact hbv (hat ▸ e)
              · rw [hat] at e; have := Option.some.inj e; omega
            · exact (((HW0.out.trans (HB6'.out.mono HW0.out.size)).alloc (by omega) _).grown HGR.out (by simp; omega) (fun gg hgg => by have := row_ge HO6.out _ hgg; omega)).setCell (by simp; omega) _
          case measure => simp [intOf]; omega
        · go_simp
          have HB4 := Lib.hid (((Below.refl wr.heap.size wr).alloc (Nat.le_refl _) (.cells #[.int .i64 0, .slice none 0 0, .slice none 0 0] 26)).drew)
          refine hK.out _ _ (⟨BT.out.below HB4.out, BU.out.below HB4.out, X3.out.below HB4.out, Y3.out.below HB4.out⟩) (fun hHeld => ?_)
          clear hK K
          try simp only [Act.put, List.setIfInBounds_toArray, List.set_cons_zero, List.set_cons_succ]
          refine wpAnyH_ready (rs := [10]) (by kernel_rfl) (by simp) ?_
          refine AllReadyH.cons (o := _) rfl (fun K hK => ?_) AllReadyH.nil
          go_simp
          with_reducible refine (HC.out _ (((Below.refl wr.heap.size wr).alloc (Nat.le_refl _) (.cells #[.int .i64 0, .slice none 0 0, .slice none 0 0] 26)).drew)).mono ?_
          rintro e w5 (⟨h, _⟩ | ⟨z, hz, rfl, hlive, hb5⟩)
          · cases h
          have HB5 := Lib.hid ((((Below.refl wr.heap.size wr).alloc (Nat.le_refl _) (.cells #[.int .i64 0, .slice none 0 0, .slice none 0 0] 26)).drew).trans (hb5.mono (by simp)))
          have HLV := Lib.hid hlive
          have HZ := Lib.hid hz
          unfold LTy.val
          clear hlive hz
          have HX5 := Lib.hid (below_blk hb5 (show ((wr.alloc (.cells #[.int .i64 0, .slice none 0 0, .slice none 0 0] 26)).drew).heap[wr.heap.size]? = some (.cells #[.int .i64 0, .slice none 0 0, .slice none 0 0] 26 (0, 0)) from heap_new_at wr _ _ rfl))
          have x5c0 := cell_of_blk (i := 0) HX5.out rfl
          have x5c1 := cell_of_blk (i := 1) HX5.out rfl
          have x5c2 := cell_of_blk (i := 2) HX5.out rfl
          have x5f0 := free_of_blk (i := 0) HX5.out
          have x5f1 := free_of_blk (i := 1) HX5.out
          have x5f2 := free_of_blk (i := 2) HX5.out
          have x5l := blk_lt HX5.out
          clear hb5
          refine hK.out _ _ (⟨BT.out.below HB5.out, BU.out.below HB5.out, X3.out.below HB5.out, Y3.out.below HB5.out⟩) (fun hHeld => ?_)
          clear hK K
          try simp only [Act.put, List.setIfInBounds_toArray, List.set_cons_zero, List.set_cons_succ]
          refine wpAnyH_take (i := 11) (oi := _) (v := .tuple #[.agg #[.int .i64 z.kind, .slice z.A z.ns.length z.c, .slice z.A2 z.xs.length z.c2], .bool true]) rfl (by kernel_rfl) (by kernel_rfl) (by kernel_rfl) (fun _ _ _ h => h) (Or.inl ⟨by rfl, fun w' hS => (by go_simp)⟩) hHeld ?_
          change wpAnyH _ _ _ _ _ _ _ (Act.put _ (some 38) _) _
          try simp only [Act.put, List.setIfInBounds_toArray, List.set_cons_zero, List.set_cons_succ]
          refine wpAnyH_take (i := 12) (oi := _) (v := .agg #[.int .i64 z.kind, .slice z.A z.ns.length z.c, .slice z.A2 z.xs.length z.c2]) rfl (by kernel_rfl) (by kernel_rfl) (by kernel_rfl) (fun _ _ _ h => h) (Or.inl ⟨by rfl, fun w' hS => (by go_simp)⟩) hHeld ?_
          change wpAnyH _ _ _ _ _ _ _ (Act.put _ (some 50) _) _
          try simp only [Act.put, List.setIfInBounds_toArray, List.set_cons_zero, List.set_cons_succ]
          refine wpAnyH_take (i := 13) (oi := _) (v := .bool true) rfl (by kernel_rfl) (by kernel_rfl) (by kernel_rfl) (fun _ _ _ h => h) (Or.inl ⟨by rfl, fun w' hS => (by go_simp)⟩) hHeld ?_
          change wpAnyH _ _ _ _ _ _ _ (Act.put _ (some 51) _) _
          try simp only [Act.put, List.setIfInBounds_toArray, List.set_cons_zero, List.set_cons_succ]
          refine wpAnyH_ready (rs := [15]) (by kernel_rfl) (by simp) ?_
          refine AllReadyH.cons (o := _) rfl (fun K hK => ?_) AllReadyH.nil
          go_simp
          have HB7 := Lib.hid (((HB5.out.setCell (p := ⟨wr.heap.size, 0, none⟩) (by have := HB5.out.size; simp; try omega) (.int .i64 z.kind)).setCell (p := ⟨wr.heap.size, 1, none⟩) (by have := HB5.out.size; simp; try omega) (.slice z.A z.ns.length z.c)).setCell (p := ⟨wr.heap.size, 2, none⟩) (by have := HB5.out.size; simp; try omega) (.slice z.A2 z.xs.length z.c2))
          refine hK.out _ _ (⟨BT.out.below HB7.out, BU.out.below HB7.out, X3.out.below HB7.out, Y3.out.below HB7.out⟩) (fun hHeld => ?_)
          clear hK K
          try simp only [Act.put, List.setIfInBounds_toArray, List.set_cons_zero, List.set_cons_succ]
          refine wpAnyH_take (i := 16) (oi := _) (v := .bool true) rfl (by kernel_rfl) (by kernel_rfl) (by kernel_rfl) (fun _ _ _ h => h) (Or.inl ⟨by rfl, fun w' hS => (by go_simp)⟩) hHeld ?_
          change wpAnyH _ _ _ _ _ _ _ (Act.put _ (some 9) _) _
          try simp only [Act.put, List.setIfInBounds_toArray, List.set_cons_zero, List.set_cons_succ]
          refine wpAnyH_done (by kernel_rfl) ?_ _
          go_upto_region 12 with fail
          obtain ⟨hb, hhb⟩ : ∃ b, b = wr.heap.size := ⟨_, rfl⟩
          rw [← hhb]
          refine gen_wpT fun w6 hW => ?_
          have HB6' := Lib.hid (show Below wr.heap.size wr w6 by rw [← hW]; (try rw [hhb]); exact HB7.out)
          have HX6 := Lib.hid (show TBox w6 hb z by rw [← hW, hhb]; exact blk_set (i := 2) (blk_set (i := 1) (blk_set (i := 0) HX5.out _) _) _)
          have HK6 := Lib.hid (show ∀ b, b ≠ hb → b < w5.heap.size → w6.heap[b]? = w5.heap[b]? from fun b hb1 hb2 => by rw [← hW]; exact set3_heap _ _ _ _ _ hb1)
          have HS6 := Lib.hid (show w5.heap.size ≤ w6.heap.size ∧ wr.heap.size ≤ hb by rw [← hW, set3_size, hhb]; exact ⟨Nat.le_refl _, Nat.le_refl _⟩)
          have HL6 := Lib.hid (show ∀ w2, (∀ b, (b < B ∨ wr.heap.size ≤ b) → b ≠ hb → b < w6.heap.size → w2.heap[b]? = w6.heap[b]?) → w6.heap.size ≤ w2.heap.size → LIn w2 w2.heap.size z from fun w2 h1 h2 => HLV.out w2 ⟨fun b h3 h4 => by
            have h7 := HS6.out
            have h9 : B ≤ wr.heap.size := Nat.le_trans HBB.out HWr.out.size
            have h5 : b ≠ hb := by rcases h3 with h3 | h3 <;> (try simp at h3) <;> omega
            have h6 : b < B ∨ wr.heap.size ≤ b := by rcases h3 with h3 | h3 <;> (try simp at h3) <;> omega
            exact (h1 b h6 h5 (by omega)).trans (HK6.out b h5 h4), Nat.le_trans HS6.out.1 h2⟩)
          clear HLV HK6
          have B6 := Lib.hid (HWr.out.trans (HB6'.out.mono HWr.out.size))
          have R6 := Lib.hid (RR.out.below HB6'.out)
          have r6 := R6.out
          have r6c0 := cell_of_blk (i := 0) r6 rfl
          have r6c1 := cell_of_blk (i := 1) r6 rfl
          have r6c2 := cell_of_blk (i := 2) r6 rfl
          have r6f0 := free_of_blk (i := 0) r6
          have r6f1 := free_of_blk (i := 1) r6
          have r6f2 := free_of_blk (i := 2) r6
          have G6 : g + 2 < w6.heap.size := blk_lt r6
          clear hW hhb r6 x5c0 x5c1 x5c2 x5f0 x5f1 x5f2 x5l
          have x6 := HX6.out
          have x6c0 := x6.c0
          have x6c1 := x6.c1
          have x6c2 := x6.c2
          have x6l := x6.lt
          clear x6
          have HG6 := Lib.hid (below_blk HB6'.out HGB.out)
          have g6c := cell_of_blk (i := 2) HG6.out rfl
          have g6f := free_of_blk (i := 2) HG6.out
          have g6l := blk_lt HG6.out
          have HO6 := Lib.hid (own_same HO.out (fun b _ hlt => HB6'.out.block b hlt))
          have GB := HGL.out
          have SZ := HB6'.out.size
          have hnl := blk_lt HGB.out
          go_wp2_with (at_builtin; refine wpList_append_own_at _ rfl _ _ 24 rfl (gb + 1) 26 i0 _ 3 56 Tryd.underlying24 hi hz0 hz1 hz2 rfl (by decide) _ _ _ rfl (HO6.out.alloc _) ⟨w6.heap.size, 0, none⟩ 1 1 z.enc rfl rfl (World.news_of_block (heap_alloc_new _ _)) (by simp [LTy.enc, Value.oneCell']) (by unfold maxLen; omega) (by omega) (by simp; omega) ?_; intro v' w7 hown7 hg7 _ hat7; obtain ⟨A7, c7, rfl, _, _, _⟩ := own_form hown7; have hbx7 := blk_grown (blk_alloc HG6.out _) hg7 (fun e => by have := row_ge HO6.out _ e; omega); have HG7 := Lib.hid hbx7; have HO7 := Lib.hid hown7; have HGR := Lib.hid hg7; have HAT := Lib.hid hat7; have s7 := hg7.size; have t7 := cell_of_blk (i := 2) hbx7 rfl; have f7 := free_of_blk (i := 2) hbx7; have l7 := blk_lt hbx7; clear hbx7 hown7 hg7 hat7)
          go_roundw
          case rel =>
            have hls : l.length = k := HL.out
            have e1 : (l ++ [z]).flatMap LTy.enc = l.flatMap LTy.enc ++ z.enc := by simp
            have hkeep : ∀ b, b ≠ gb → (Value.slice A2 k c2).ownBlock ≠ some b → b < w6.heap.size → (w7.setCell ⟨gb, 2, none⟩ (.slice A7 (k + 1) c7)).heap[b]? = w6.heap[b]? := fun b hb1 hb2 hb3 => by
              rw [Below.heap_setCell _ _ _ _ hb1, HGR.out.block b (by simp; omega) (fun e => hb2 e.symm)]
              exact Below.heap_alloc w6 _ b hb3
            have hat : (Value.slice A7 (k + 1) c7).ownBlock = (Value.slice A2 k c2).ownBlock ∨ ∃ s, (Value.slice A7 (k + 1) c7).ownBlock = some s ∧ w6.heap.size ≤ s := HAT.out.imp id fun e => ⟨_, e, by simp⟩
            have hsz : w6.heap.size ≤ (w7.setCell ⟨gb, 2, none⟩ (.slice A7 (k + 1) c7)).heap.size := by simp at s7 ⊢; omega
            refine ⟨k + 1, l ++ [z], A7, c7, by omega, by go_num, Lib.hid (by rw [List.length_append, hls]; rfl), Lib.hid (blk_set (i := 2) HG7.out _), Lib.hid (by rw [e1]; exact own_set_ne HO7.out (by simp) _), Lib.hid (HPT.out.snoc (by rw [hls]; exact HX.out.1) (by rw [hls]; exact HX.out.2) (HAN.out.trans HZ.out)), Lib.hid (fun w2 h2 => ?_), Lib.hid ?_⟩
            · have k1 := HLL.out w2 (h2.step (Nat.le_trans SZ hsz) (fun b hb1 hb2 hb3 => (hkeep b hb1 hb2 (by omega)).trans (HB6'.out.block b hb3)) (hat.imp id fun ⟨s, e, h⟩ => ⟨s, e, by omega⟩))
              refine ⟨k1.1, fun y hy => ?_⟩
              rcases List.mem_append.1 hy with hy | hy
              · exact k1.2 y hy
              obtain rfl : y = z := by simpa using hy
              refine HL6.out w2 (fun b hb1 hb2 hb3 => ?_) (Nat.le_trans hsz h2.2)
              have h9 : B ≤ w.heap.size := HBB.out
              have h10 := B0.out.size
              have hbg : b ≠ gb := by omega
              have hbv : (Value.slice A2 k c2).ownBlock ≠ some b := fun e => by
                have k2 := row_ge HO.out _ e
                have k3 := (World.ownsRow.lt HO.out b e).2
                omega
              refine (h2.1 b (by omega) hbg (fun e => ?_) (by omega)).trans (hkeep b hbg hbv hb3)
              rcases hat with hat | ⟨s, hat, hs⟩
              · exact hbv (hat ▸ e)
              · rw [hat] at e; have := Option.some.inj e; omega
            · exact (((HW0.out.trans (HB6'.out.mono HW0.out.size)).alloc (by omega) _).grown HGR.out (by simp; omega) (fun gg hgg => by have := row_ge HO6.out _ hgg; omega)).setCell (by simp; omega) _
          case measure => simp [intOf]; omega
theorem rmeet_all : ∀ n, RMeetAll 67 n
  | 0 => fun _ _ _ _ _ _ _ _ _ h _ => absurd h (by simp [Chk])
  | n + 1 => rmeet_succ n (rmeet_all n)
end Go.Proofs.YtllpicibncdppaaDoor
