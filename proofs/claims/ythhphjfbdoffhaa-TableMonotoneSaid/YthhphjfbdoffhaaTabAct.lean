/-
  Chapter 04: one call on both tables.
-/
import Derived.Test.YthhphjfbdoffhaaTabAwake
import Derived.Test.YthhphjfbdoffhaaTabOpen
set_option linter.unusedVariables false
set_option linter.unusedSimpArgs false
namespace Go.Proofs.Ythhphjfbdoffhaa
open Go.ChangeShapes Go.WideShapes Go.ChangeAt Go.RowKit Go.Maps

/-- Both tables stand in w, apart from one another, each within its old blocks and new ones since w0; T: the program's, R: the document's. -/
structure AtT (N : Nat) (tb rb : Nat) (fp fr : List Nat) (w0 : World) (T R : TabS) (w : World) : Prop where
  t : ∃ fp', TabIn w N tb T fp' ∧ ∀ b ∈ fp', b ∈ fp ∨ w0.heap.size ≤ b
  r : ∃ fr', RTabIn w N rb R fr' ∧ ∀ b ∈ fr', b ∈ fr ∨ w0.heap.size ≤ b
  f : Fr (fp ++ fr) w0 w
  d : ∃ fp' fr', TabIn w N tb T fp' ∧ RTabIn w N rb R fr' ∧ (∀ b ∈ fp', b ∈ fp ∨ w0.heap.size ≤ b) ∧ (∀ b ∈ fr', b ∈ fr ∨ w0.heap.size ≤ b) ∧ ∀ b ∈ fp', b ∉ fr'
theorem AtT.mk' {N tb rb : Nat} {fp fr : List Nat} {w0 w : World} {T R : TabS} (f : Fr (fp ++ fr) w0 w) {fp' fr' : List Nat} (h1 : TabIn w N tb T fp') (h2 : RTabIn w N rb R fr') (h3 : ∀ b ∈ fp', b ∈ fp ∨ w0.heap.size ≤ b) (h4 : ∀ b ∈ fr', b ∈ fr ∨ w0.heap.size ≤ b) (h5 : ∀ b ∈ fp', b ∉ fr') : AtT N tb rb fp fr w0 T R w :=
  ⟨⟨fp', h1, h3⟩, ⟨fr', h2, h4⟩, f, fp', fr', h1, h2, h3, h4, h5⟩
theorem AtT.start {N tb rb : Nat} {fp fr : List Nat} {w0 w : World} {T R : TabS} (hb : Below w0.heap.size w0 w) (h : TabIn w0 N tb T fp ∧ RTabIn w0 N rb R fr ∧ ∀ b ∈ fp, b ∉ fr) : AtT N tb rb fp fr w0 T R w :=
  AtT.mk' (Fr.of_below hb _) (h.1.kept (Fr.of_below hb []) (by simp)) (h.2.1.kept (Fr.of_below hb []) (by simp)) (fun b hb => .inl hb) (fun b hb => .inl hb) h.2.2
theorem AtT.drew {N tb rb : Nat} {fp fr : List Nat} {w0 w : World} {T R : TabS} (h : AtT N tb rb fp fr w0 T R w) : AtT N tb rb fp fr w0 T R w.drew := by
  obtain ⟨_, _, f, fp', fr', h1, h2, h3, h4, h5⟩ := h
  exact AtT.mk' f.drew (h1.kept ((Fr.refl [] _).drew) (by simp)) (h2.kept ((Fr.refl [] _).drew) (by simp)) h3 h4 h5
theorem AtT.below {N tb rb : Nat} {fp fr : List Nat} {w0 w w' : World} {T R : TabS} (h : AtT N tb rb fp fr w0 T R w) (hb : Below w.heap.size w w') : AtT N tb rb fp fr w0 T R w' := by
  obtain ⟨_, _, f, fp', fr', h1, h2, h3, h4, h5⟩ := h
  exact AtT.mk' (f.trans (Fr.of_below hb []) (by simp)) (h1.kept (Fr.of_below hb []) (by simp)) (h2.kept (Fr.of_below hb []) (by simp)) h3 h4 h5
/-- The program's table turned. -/
theorem AtT.turnT {N tb rb : Nat} {fp fr : List Nat} {w0 w w' : World} {T T' R : TabS} {fp' fr' : List Nat} (f : Fr (fp ++ fr) w0 w) (h1 : TabIn w N tb T fp') (h2 : RTabIn w N rb R fr') (h3 : ∀ b ∈ fp', b ∈ fp ∨ w0.heap.size ≤ b) (h4 : ∀ b ∈ fr', b ∈ fr ∨ w0.heap.size ≤ b) (h5 : ∀ b ∈ fp', b ∉ fr') (h : TabTo w N tb T' fp' w') : AtT N tb rb fp fr w0 T' R w' := by
  obtain ⟨fp2, k1, k2, k3⟩ := h
  refine AtT.mk' (f.trans k2 fun b hb => (h3 b hb).imp (fun h => List.mem_append_left _ h) id) k1 (h2.kept k2 fun b hb hm => h5 b hm hb) (fun b hb => (k3 b hb).elim (h3 b) fun h => .inr (Nat.le_trans f.size h)) h4 fun b hb hm => ?_
  rcases k3 b hb with h | h
  · exact h5 b h hm
  · exact absurd (h2.base b hm).2 (by omega)
/-- The document's table turned. -/
theorem AtT.turnR {N tb rb : Nat} {fp fr : List Nat} {w0 w w' : World} {T R R' : TabS} {fp' fr' : List Nat} (f : Fr (fp ++ fr) w0 w) (h1 : TabIn w N tb T fp') (h2 : RTabIn w N rb R fr') (h3 : ∀ b ∈ fp', b ∈ fp ∨ w0.heap.size ≤ b) (h4 : ∀ b ∈ fr', b ∈ fr ∨ w0.heap.size ≤ b) (h5 : ∀ b ∈ fp', b ∉ fr') (h : RTabTo w N rb R' fr' w') : AtT N tb rb fp fr w0 T R' w' := by
  obtain ⟨fr2, k1, k2, k3⟩ := h
  refine AtT.mk' (f.trans k2 fun b hb => (h4 b hb).imp (fun h => List.mem_append_right _ h) id) (h1.kept k2 fun b hb hm => h5 b hb hm) k1 h3 (fun b hb => (k3 b hb).elim (h4 b) fun h => .inr (Nat.le_trans f.size h)) fun b hb hm => ?_
  rcases k3 b hm with h | h
  · exact h5 b hb h
  · exact absurd (h1.base b hb).2 (by omega)
/-- What is no block of a table's stays. -/
theorem AtT.keep' {N tb rb : Nat} {fp fr : List Nat} {w0 w : World} {T R : TabS} (h : AtT N tb rb fp fr w0 T R w) {b : Nat} {o : Obj} (hb : w0.heap[b]? = some o) (hf : b ∉ fp) (hr : b ∉ fr) : w.heap[b]? = some o := h.f.blk hb (by simp [hf, hr])
/-- What a call makes of a table. -/
def stepT (T : TabS) (a : TAct) : TabS := if a.act = 0 then (doPut T a.ctx a.key a.val).2 else if a.act = 1 then T else if a.act = 2 then T else (doStamp T a.s.xs).2
theorem stepT_ok {T : TabS} {w : World} {N : Nat} {a : TAct} (ok : TabOk T) (h : TaFit w N a) : TabOk (stepT T a) := by
  unfold stepT
  split
  · exact doPut_ok ok h.ctx h.key h.val
  · split
    · exact ok
    · split
      · exact ok
      · exact doStamp_ok ok h.sts
theorem stepT_len (T : TabS) (a : TAct) : (stepT T a).F.length ≤ T.F.length + 1 ∧ (stepT T a).S.length ≤ T.S.length + a.s.xs.length ∧ (stepT T a).l = T.l := by
  unfold stepT
  split
  · have := doPut_len T a.ctx a.key a.val
    rw [this.2.1]
    omega
  · split
    · omega
    · split
      · omega
      · have := doStamp_len T a.s.xs
        rw [this.1]
        omega
def ActOut (N tb rb : Nat) (fp fr : List Nat) (w0 : World) (T : TabS) (e : Ending) (w' : World) : Prop := (∃ b, e = .returned (.bool b)) ∧ AtT N tb rb fp fr w0 T T w'
theorem AtT.back {N tb rb : Nat} {fp fr : List Nat} {w0 w1 w : World} {T R : TabS} (h : AtT N tb rb fp fr w1 T R w) (hb : Below w0.heap.size w0 w1) : AtT N tb rb fp fr w0 T R w := by
  obtain ⟨_, _, f, fp', fr', h1, h2, h3, h4, h5⟩ := h
  exact AtT.mk' ((Fr.of_below hb _).trans f (fun b hb => .inl hb)) h1 h2 (fun b hm => (h3 b hm).imp id fun h => Nat.le_trans hb.size h) (fun b hm => (h4 b hm).imp id fun h => Nat.le_trans hb.size h) h5
set_option maxRecDepth 100000 in
set_option maxHeartbeats 8000000 in
theorem act_put {w0 : World} {N tb rb : Nat} {T : TabS} {fp fr : List Nat} (hTR0 : TabIn w0 N tb T fp ∧ RTabIn w0 N rb T fr ∧ ∀ b ∈ fp, b ∉ fr) (ok : TabOk T) (a : TAct) (ha0 : TaFit w0 N a) (hF : T.F.length ≤ 5000) (hS : T.S.length ≤ 5000) (hL : a.s.xs.length ≤ 5000) (h0 : a.act = 0) :
    Calls Try.prog 33 #[.pointer (some ⟨tb, 0, none⟩), .pointer (some ⟨rb, 0, none⟩), .agg #[.int .i64 a.act, .int .u64 (a.ctx : Int), .int .i64 a.key.kind, .int .i64 a.key.n, .string a.key.s, .int .u64 (a.key.label : Int), .int .i64 a.val.kind, .int .i64 a.val.n, .string a.val.s, .int .u64 (a.val.label : Int), .int .i64 a.n, .slice a.s.A a.s.xs.length a.s.cap]] w0 (ActOut N tb rb fp fr w0 (doPut T a.ctx a.key a.val).2) := by
  have hF1 : T.F.length ≤ 10000 := by omega
  have hS1 : T.S.length + a.s.xs.length ≤ 10000 := by omega
  obtain ⟨_, r80⟩ := small_room hF1
  obtain ⟨r80b, _⟩ := small_room2 (a := T.F.length) (b := T.S.length) (by omega) (by omega)
  obtain ⟨_, r24⟩ := small_room2 (a := T.S.length) (b := a.s.xs.length) (by omega) (by omega)
  have hnF : T.F.length ≤ 9223372036854775807 := Nat.le_trans hF1 (by decide)
  have hbp : w0.heap.size ∉ fp := fun hm => absurd (hTR0.1.base _ hm).2 (by omega)
  have hbr : w0.heap.size ∉ fr := fun hm => absurd (hTR0.2.1.base _ hm).2 (by omega)
  have hN : N ≤ w0.heap.size := by
    obtain ⟨⟨_, _, _, _, _, _, _, _, hfp, _⟩, hbs⟩ := hTR0.1
    have := hbs tb (by rw [hfp]; simp)
    omega
  have hge : ∀ b ∈ fp ++ fr, N ≤ b := fun b hb => (List.mem_append.1 hb).elim (fun h => (hTR0.1.base b h).1) (fun h => (hTR0.2.1.base b h).1)
  have hb0 := (Below.refl w0.heap.size w0).alloc (Nat.le_refl _) (.cells #[.int .i64 a.act, .int .u64 (a.ctx : Int), .int .i64 a.key.kind, .int .i64 a.key.n, .string a.key.s, .int .u64 (a.key.label : Int), .int .i64 a.val.kind, .int .i64 a.val.n, .string a.val.s, .int .u64 (a.val.label : Int), .int .i64 a.n, .slice a.s.A a.s.xs.length a.s.cap] 43)
  obtain ⟨w, hw⟩ : ∃ w, w = w0.alloc (.cells #[.int .i64 a.act, .int .u64 (a.ctx : Int), .int .i64 a.key.kind, .int .i64 a.key.n, .string a.key.s, .int .u64 (a.key.label : Int), .int .i64 a.val.kind, .int .i64 a.val.n, .string a.val.s, .int .u64 (a.val.label : Int), .int .i64 a.n, .slice a.s.A a.s.xs.length a.s.cap] 43) := ⟨_, rfl⟩
  have BX := Lib.hid (show w.heap[w0.heap.size]? = some (.cells #[.int .i64 a.act, .int .u64 (a.ctx : Int), .int .i64 a.key.kind, .int .i64 a.key.n, .string a.key.s, .int .u64 (a.key.label : Int), .int .i64 a.val.kind, .int .i64 a.val.n, .string a.val.s, .int .u64 (a.val.label : Int), .int .i64 a.n, .slice a.s.A a.s.xs.length a.s.cap] 43 (0, 0)) by rw [hw]; exact heap_alloc_new _ _)
  rw [← hw] at hb0
  have hTR : TabIn w N tb T fp ∧ RTabIn w N rb T fr ∧ ∀ b ∈ fp, b ∉ fr := ⟨hTR0.1.kept (Fr.of_below hb0 []) (by simp), hTR0.2.1.kept (Fr.of_below hb0 []) (by simp), hTR0.2.2⟩
  have HS0 := Lib.hid (AtT.start (Below.refl w.heap.size w) hTR)
  have ha := ha0.below (hb0.mono hN)
  have hN1 : N ≤ w.heap.size := Nat.le_trans hN hb0.size
  have HB0 := Lib.hid hb0
  have HP := Lib.hid (show ∀ W, AtT N tb rb fp fr w T T W → Calls Try.prog 34 #[.pointer (some ⟨tb, 0, none⟩), .int .u64 (a.ctx : Int), .agg (vvCells a.key), .agg (vvCells a.val)] W (fun e w' => e = .returned (.int .i64 (doPut T a.ctx a.key a.val).1) ∧ AtT N tb rb fp fr w (doPut T a.ctx a.key a.val).2 T w') from fun W hW => by
    obtain ⟨_, _, f, fp', fr', h1, h2, h3, h4, h5⟩ := hW
    refine (tput_any h1 ok ha.ctx ha.key ha.val r80).mono ?_
    rintro e w' ⟨rfl, hto⟩
    exact ⟨rfl, AtT.turnT f h1 h2 h3 h4 h5 hto⟩)
  have HP2 := Lib.hid (show ∀ W, AtT N tb rb fp fr w T (doPut T a.ctx a.key a.val).2 W → Calls Try.prog 34 #[.pointer (some ⟨tb, 0, none⟩), .int .u64 (a.ctx : Int), .agg (vvCells a.key), .agg (vvCells a.val)] W (fun e w' => e = .returned (.int .i64 (doPut T a.ctx a.key a.val).1) ∧ AtT N tb rb fp fr w (doPut T a.ctx a.key a.val).2 (doPut T a.ctx a.key a.val).2 w') from fun W hW => by
    obtain ⟨_, _, f, fp', fr', h1, h2, h3, h4, h5⟩ := hW
    refine (tput_any h1 ok ha.ctx ha.key ha.val r80).mono ?_
    rintro e w' ⟨rfl, hto⟩
    exact ⟨rfl, AtT.turnT f h1 h2 h3 h4 h5 hto⟩)
  have HR := Lib.hid (show ∀ W, AtT N tb rb fp fr w T T W → Calls Try.prog 53 #[.pointer (some ⟨rb, 0, none⟩), .int .u64 (a.ctx : Int), .agg (vvCells a.key), .agg (vvCells a.val)] W (fun e w' => e = .returned (.int .i64 (doPut T a.ctx a.key a.val).1) ∧ AtT N tb rb fp fr w T (doPut T a.ctx a.key a.val).2 w') from fun W hW => by
    obtain ⟨_, _, f, fp', fr', h1, h2, h3, h4, h5⟩ := hW
    refine (rput_any h2 ok ha.ctx ha.key ha.val r80b).mono ?_
    rintro e w' ⟨rfl, hto⟩
    exact ⟨rfl, AtT.turnR f h1 h2 h3 h4 h5 hto⟩)
  have HR2 := Lib.hid (show ∀ W, AtT N tb rb fp fr w (doPut T a.ctx a.key a.val).2 T W → Calls Try.prog 53 #[.pointer (some ⟨rb, 0, none⟩), .int .u64 (a.ctx : Int), .agg (vvCells a.key), .agg (vvCells a.val)] W (fun e w' => e = .returned (.int .i64 (doPut T a.ctx a.key a.val).1) ∧ AtT N tb rb fp fr w (doPut T a.ctx a.key a.val).2 (doPut T a.ctx a.key a.val).2 w') from fun W hW => by
    obtain ⟨_, _, f, fp', fr', h1, h2, h3, h4, h5⟩ := hW
    refine (rput_any h2 ok ha.ctx ha.key ha.val r80b).mono ?_
    rintro e w' ⟨rfl, hto⟩
    exact ⟨rfl, AtT.turnR f h1 h2 h3 h4 h5 hto⟩)
  have e0 : (a.act == 0) = true := by simpa using h0
  generalize (doPut T a.ctx a.key a.val) = D at *
  clear ha ha0 hTR hTR0 ok hb0 hge r80 r80b r24
  clear h0
  unfold vvCells at *
  go_enter Try.func33, Try.ntmps33
  go_wp2_with fail
  rw [← hw]
  clear hw
  refine wp_region_noPanic ?_
  refine wp_region_held_drew (S := fun w' => w'.heap[w0.heap.size]? = some (.cells #[.int .i64 a.act, .int .u64 (a.ctx : Int), .int .i64 a.key.kind, .int .i64 a.key.n, .string a.key.s, .int .u64 (a.key.label : Int), .int .i64 a.val.kind, .int .i64 a.val.n, .string a.val.s, .int .u64 (a.val.label : Int), .int .i64 a.n, .slice a.s.A a.s.xs.length a.s.cap] 43 (0, 0))) (by kernel_rfl) (BX.out) (fun hHeld => ?_)
  refine wpAnyH_take (i := 0) (oi := _) (v := .pointer (some ⟨tb, 0, none⟩)) rfl (by kernel_rfl) (by kernel_rfl) (by kernel_rfl) (fun _ _ _ h => h) (Or.inl ⟨by rfl, fun w' hS => (by go_simp)⟩) hHeld ?_
  change wpAnyH _ _ _ _ _ _ _ (Act.put _ (some 15) _) _
  try simp only [Act.put, List.setIfInBounds_toArray, List.set_cons_zero, List.set_cons_succ]
  refine wpAnyH_take (i := 1) (oi := _) (v := .pointer (some ⟨w0.heap.size, 1, none⟩)) rfl (by kernel_rfl) (by kernel_rfl) (by kernel_rfl) (fun _ _ _ h => h) (Or.inl ⟨by rfl, fun w' hS => (by go_simp)⟩) hHeld ?_
  change wpAnyH _ _ _ _ _ _ _ (Act.put _ (some 16) _) _
  try simp only [Act.put, List.setIfInBounds_toArray, List.set_cons_zero, List.set_cons_succ]
  refine wpAnyH_take (i := 2) (oi := _) (v := .int .u64 (a.ctx : Int)) rfl (by kernel_rfl) (by kernel_rfl) (by kernel_rfl) (fun _ _ _ h => h) (Or.inl ⟨by rfl, fun w' hS => (by have q1 := cell_of_blk (i := 1) hS rfl; go_simp)⟩) hHeld ?_
  change wpAnyH _ _ _ _ _ _ _ (Act.put _ (some 17) _) _
  try simp only [Act.put, List.setIfInBounds_toArray, List.set_cons_zero, List.set_cons_succ]
  refine wpAnyH_take (i := 3) (oi := _) (v := .pointer (some ⟨w0.heap.size, 2, none⟩)) rfl (by kernel_rfl) (by kernel_rfl) (by kernel_rfl) (fun _ _ _ h => h) (Or.inl ⟨by rfl, fun w' hS => (by go_simp)⟩) hHeld ?_
  change wpAnyH _ _ _ _ _ _ _ (Act.put _ (some 18) _) _
  try simp only [Act.put, List.setIfInBounds_toArray, List.set_cons_zero, List.set_cons_succ]
  refine wpAnyH_take (i := 4) (oi := _) (v := .agg #[.int .i64 a.key.kind, .int .i64 a.key.n, .string a.key.s, .int .u64 (a.key.label : Int)]) rfl (by kernel_rfl) (by kernel_rfl) (by kernel_rfl) (fun _ _ _ h => h) (Or.inl ⟨by rfl, fun w' hS => (by have q2 := cell_of_blk (i := 2) hS rfl; have q3 := cell_of_blk (i := 3) hS rfl; have q4 := cell_of_blk (i := 4) hS rfl; have q5 := cell_of_blk (i := 5) hS rfl; go_simp)⟩) hHeld ?_
  change wpAnyH _ _ _ _ _ _ _ (Act.put _ (some 19) _) _
  try simp only [Act.put, List.setIfInBounds_toArray, List.set_cons_zero, List.set_cons_succ]
  refine wpAnyH_take (i := 5) (oi := _) (v := .pointer (some ⟨w0.heap.size, 6, none⟩)) rfl (by kernel_rfl) (by kernel_rfl) (by kernel_rfl) (fun _ _ _ h => h) (Or.inl ⟨by rfl, fun w' hS => (by go_simp)⟩) hHeld ?_
  change wpAnyH _ _ _ _ _ _ _ (Act.put _ (some 20) _) _
  try simp only [Act.put, List.setIfInBounds_toArray, List.set_cons_zero, List.set_cons_succ]
  refine wpAnyH_take (i := 6) (oi := _) (v := .agg #[.int .i64 a.val.kind, .int .i64 a.val.n, .string a.val.s, .int .u64 (a.val.label : Int)]) rfl (by kernel_rfl) (by kernel_rfl) (by kernel_rfl) (fun _ _ _ h => h) (Or.inl ⟨by rfl, fun w' hS => (by have q6 := cell_of_blk (i := 6) hS rfl; have q7 := cell_of_blk (i := 7) hS rfl; have q8 := cell_of_blk (i := 8) hS rfl; have q9 := cell_of_blk (i := 9) hS rfl; go_simp)⟩) hHeld ?_
  change wpAnyH _ _ _ _ _ _ _ (Act.put _ (some 21) _) _
  try simp only [Act.put, List.setIfInBounds_toArray, List.set_cons_zero, List.set_cons_succ]
  refine wpAnyH_take (i := 8) (oi := _) (v := .pointer (some ⟨rb, 0, none⟩)) rfl (by kernel_rfl) (by kernel_rfl) (by kernel_rfl) (fun _ _ _ h => h) (Or.inl ⟨by rfl, fun w' hS => (by go_simp)⟩) hHeld ?_
  change wpAnyH _ _ _ _ _ _ _ (Act.put _ (some 23) _) _
  try simp only [Act.put, List.setIfInBounds_toArray, List.set_cons_zero, List.set_cons_succ]
  refine wpAnyH_take (i := 9) (oi := _) (v := .pointer (some ⟨w0.heap.size, 1, none⟩)) rfl (by kernel_rfl) (by kernel_rfl) (by kernel_rfl) (fun _ _ _ h => h) (Or.inl ⟨by rfl, fun w' hS => (by go_simp)⟩) hHeld ?_
  change wpAnyH _ _ _ _ _ _ _ (Act.put _ (some 24) _) _
  try simp only [Act.put, List.setIfInBounds_toArray, List.set_cons_zero, List.set_cons_succ]
  refine wpAnyH_take (i := 10) (oi := _) (v := .int .u64 (a.ctx : Int)) rfl (by kernel_rfl) (by kernel_rfl) (by kernel_rfl) (fun _ _ _ h => h) (Or.inl ⟨by rfl, fun w' hS => (by have q1 := cell_of_blk (i := 1) hS rfl; go_simp)⟩) hHeld ?_
  change wpAnyH _ _ _ _ _ _ _ (Act.put _ (some 25) _) _
  try simp only [Act.put, List.setIfInBounds_toArray, List.set_cons_zero, List.set_cons_succ]
  refine wpAnyH_take (i := 11) (oi := _) (v := .pointer (some ⟨w0.heap.size, 2, none⟩)) rfl (by kernel_rfl) (by kernel_rfl) (by kernel_rfl) (fun _ _ _ h => h) (Or.inl ⟨by rfl, fun w' hS => (by go_simp)⟩) hHeld ?_
  change wpAnyH _ _ _ _ _ _ _ (Act.put _ (some 26) _) _
  try simp only [Act.put, List.setIfInBounds_toArray, List.set_cons_zero, List.set_cons_succ]
  refine wpAnyH_take (i := 12) (oi := _) (v := .agg #[.int .i64 a.key.kind, .int .i64 a.key.n, .string a.key.s, .int .u64 (a.key.label : Int)]) rfl (by kernel_rfl) (by kernel_rfl) (by kernel_rfl) (fun _ _ _ h => h) (Or.inl ⟨by rfl, fun w' hS => (by have q2 := cell_of_blk (i := 2) hS rfl; have q3 := cell_of_blk (i := 3) hS rfl; have q4 := cell_of_blk (i := 4) hS rfl; have q5 := cell_of_blk (i := 5) hS rfl; go_simp)⟩) hHeld ?_
  change wpAnyH _ _ _ _ _ _ _ (Act.put _ (some 27) _) _
  try simp only [Act.put, List.setIfInBounds_toArray, List.set_cons_zero, List.set_cons_succ]
  refine wpAnyH_take (i := 13) (oi := _) (v := .pointer (some ⟨w0.heap.size, 6, none⟩)) rfl (by kernel_rfl) (by kernel_rfl) (by kernel_rfl) (fun _ _ _ h => h) (Or.inl ⟨by rfl, fun w' hS => (by go_simp)⟩) hHeld ?_
  change wpAnyH _ _ _ _ _ _ _ (Act.put _ (some 28) _) _
  try simp only [Act.put, List.setIfInBounds_toArray, List.set_cons_zero, List.set_cons_succ]
  refine wpAnyH_take (i := 14) (oi := _) (v := .agg #[.int .i64 a.val.kind, .int .i64 a.val.n, .string a.val.s, .int .u64 (a.val.label : Int)]) rfl (by kernel_rfl) (by kernel_rfl) (by kernel_rfl) (fun _ _ _ h => h) (Or.inl ⟨by rfl, fun w' hS => (by have q6 := cell_of_blk (i := 6) hS rfl; have q7 := cell_of_blk (i := 7) hS rfl; have q8 := cell_of_blk (i := 8) hS rfl; have q9 := cell_of_blk (i := 9) hS rfl; go_simp)⟩) hHeld ?_
  change wpAnyH _ _ _ _ _ _ _ (Act.put _ (some 29) _) _
  try simp only [Act.put, List.setIfInBounds_toArray, List.set_cons_zero, List.set_cons_succ]
  refine wpAnyH_ready (rs := [7]) (by kernel_rfl) (by simp) ?_
  refine AllReadyH.cons (o := _) rfl (fun K hK => ?_) AllReadyH.nil
  go_simp
  refine (HP.out _ (by first | exact HS0.out | exact HS0.out.drew)).mono ?_
  rintro e w2 ⟨rfl, hat⟩
  refine hK.out _ _ (hat.keep' BX.out hbp hbr) (fun hHeld => ?_)
  clear hK K
  try simp only [Act.put, List.setIfInBounds_toArray, List.set_cons_zero, List.set_cons_succ]
  refine wpAnyH_ready (rs := [15]) (by kernel_rfl) (by simp) ?_
  refine AllReadyH.cons (o := _) rfl (fun K hK => ?_) AllReadyH.nil
  go_simp
  refine (HR2.out _ (by first | exact hat | exact hat.drew)).mono ?_
  rintro e w3 ⟨rfl, hfin⟩
  refine hK.out _ _ (hfin.keep' BX.out hbp hbr) (fun hHeld => ?_)
  clear hK K
  try simp only [Act.put, List.setIfInBounds_toArray, List.set_cons_zero, List.set_cons_succ]
  refine wpAnyH_take (i := 16) (oi := _) (v := .bool (D.1 == D.1)) rfl (by kernel_rfl) (by kernel_rfl) (by kernel_rfl) (fun _ _ _ h => h) (Or.inl ⟨by rfl, fun w' hS => (by go_simp)⟩) hHeld ?_
  change wpAnyH _ _ _ _ _ _ _ (Act.put _ (some 31) _) _
  try simp only [Act.put, List.setIfInBounds_toArray, List.set_cons_zero, List.set_cons_succ]
  refine wpAnyH_take (i := 17) (oi := _) (v := .bool (D.1 == D.1)) rfl (by kernel_rfl) (by kernel_rfl) (by kernel_rfl) (fun _ _ _ h => h) (Or.inl ⟨by rfl, fun w' hS => (by go_simp)⟩) hHeld ?_
  change wpAnyH _ _ _ _ _ _ _ (Act.put _ (some 6) _) _
  try simp only [Act.put, List.setIfInBounds_toArray, List.set_cons_zero, List.set_cons_succ]
  refine wpAnyH_done (by kernel_rfl) ?_ _
  refine NoPanic.normal ?_
  go_wp2_with fail
  go_ret
  exact ⟨⟨_, rfl⟩, by first | exact (hfin.back HB0.out) | exact (hfin.back HB0.out).drew⟩
set_option maxRecDepth 100000 in
set_option maxHeartbeats 8000000 in
theorem act_stamp {w0 : World} {N tb rb : Nat} {T : TabS} {fp fr : List Nat} (hTR0 : TabIn w0 N tb T fp ∧ RTabIn w0 N rb T fr ∧ ∀ b ∈ fp, b ∉ fr) (ok : TabOk T) (a : TAct) (ha0 : TaFit w0 N a) (hF : T.F.length ≤ 5000) (hS : T.S.length ≤ 5000) (hL : a.s.xs.length ≤ 5000) (h0 : ¬ a.act = 0) (h1 : ¬ a.act = 1) (h2 : ¬ a.act = 2) :
    Calls Try.prog 33 #[.pointer (some ⟨tb, 0, none⟩), .pointer (some ⟨rb, 0, none⟩), .agg #[.int .i64 a.act, .int .u64 (a.ctx : Int), .int .i64 a.key.kind, .int .i64 a.key.n, .string a.key.s, .int .u64 (a.key.label : Int), .int .i64 a.val.kind, .int .i64 a.val.n, .string a.val.s, .int .u64 (a.val.label : Int), .int .i64 a.n, .slice a.s.A a.s.xs.length a.s.cap]] w0 (ActOut N tb rb fp fr w0 (doStamp T a.s.xs).2) := by
  have hF1 : T.F.length ≤ 10000 := by omega
  have hS1 : T.S.length + a.s.xs.length ≤ 10000 := by omega
  obtain ⟨_, r80⟩ := small_room hF1
  obtain ⟨r80b, _⟩ := small_room2 (a := T.F.length) (b := T.S.length) (by omega) (by omega)
  obtain ⟨_, r24⟩ := small_room2 (a := T.S.length) (b := a.s.xs.length) (by omega) (by omega)
  have hnF : T.F.length ≤ 9223372036854775807 := Nat.le_trans hF1 (by decide)
  have hbp : w0.heap.size ∉ fp := fun hm => absurd (hTR0.1.base _ hm).2 (by omega)
  have hbr : w0.heap.size ∉ fr := fun hm => absurd (hTR0.2.1.base _ hm).2 (by omega)
  have hN : N ≤ w0.heap.size := by
    obtain ⟨⟨_, _, _, _, _, _, _, _, hfp, _⟩, hbs⟩ := hTR0.1
    have := hbs tb (by rw [hfp]; simp)
    omega
  have hge : ∀ b ∈ fp ++ fr, N ≤ b := fun b hb => (List.mem_append.1 hb).elim (fun h => (hTR0.1.base b h).1) (fun h => (hTR0.2.1.base b h).1)
  have hb0 := (Below.refl w0.heap.size w0).alloc (Nat.le_refl _) (.cells #[.int .i64 a.act, .int .u64 (a.ctx : Int), .int .i64 a.key.kind, .int .i64 a.key.n, .string a.key.s, .int .u64 (a.key.label : Int), .int .i64 a.val.kind, .int .i64 a.val.n, .string a.val.s, .int .u64 (a.val.label : Int), .int .i64 a.n, .slice a.s.A a.s.xs.length a.s.cap] 43)
  obtain ⟨w, hw⟩ : ∃ w, w = w0.alloc (.cells #[.int .i64 a.act, .int .u64 (a.ctx : Int), .int .i64 a.key.kind, .int .i64 a.key.n, .string a.key.s, .int .u64 (a.key.label : Int), .int .i64 a.val.kind, .int .i64 a.val.n, .string a.val.s, .int .u64 (a.val.label : Int), .int .i64 a.n, .slice a.s.A a.s.xs.length a.s.cap] 43) := ⟨_, rfl⟩
  have BX := Lib.hid (show w.heap[w0.heap.size]? = some (.cells #[.int .i64 a.act, .int .u64 (a.ctx : Int), .int .i64 a.key.kind, .int .i64 a.key.n, .string a.key.s, .int .u64 (a.key.label : Int), .int .i64 a.val.kind, .int .i64 a.val.n, .string a.val.s, .int .u64 (a.val.label : Int), .int .i64 a.n, .slice a.s.A a.s.xs.length a.s.cap] 43 (0, 0)) by rw [hw]; exact heap_alloc_new _ _)
  rw [← hw] at hb0
  have hTR : TabIn w N tb T fp ∧ RTabIn w N rb T fr ∧ ∀ b ∈ fp, b ∉ fr := ⟨hTR0.1.kept (Fr.of_below hb0 []) (by simp), hTR0.2.1.kept (Fr.of_below hb0 []) (by simp), hTR0.2.2⟩
  have HS0 := Lib.hid (AtT.start (Below.refl w.heap.size w) hTR)
  have ha := ha0.below (hb0.mono hN)
  have hN1 : N ≤ w.heap.size := Nat.le_trans hN hb0.size
  have HB0 := Lib.hid hb0
  have HP := Lib.hid (show ∀ W, AtT N tb rb fp fr w T T W → Calls Try.prog 40 #[.pointer (some ⟨tb, 0, none⟩), .slice a.s.A a.s.xs.length a.s.cap] W (fun e w' => e = .returned (.bool (doStamp T a.s.xs).1) ∧ AtT N tb rb fp fr w (doStamp T a.s.xs).2 T w') from fun W hW => by
    obtain ⟨_, _, f, fp', fr', h1, h2, h3, h4, h5⟩ := hW
    refine (tstamp_any h1 ok a.s.xs a.s.A a.s.cap ((ha.reads.below (f.to_below hN1 hge)).mono' (Nat.le_trans hN1 f.size)) ha.sts r24).mono ?_
    rintro e w' ⟨rfl, hto⟩
    exact ⟨rfl, AtT.turnT f h1 h2 h3 h4 h5 hto⟩)
  have HP2 := Lib.hid (show ∀ W, AtT N tb rb fp fr w T (doStamp T a.s.xs).2 W → Calls Try.prog 40 #[.pointer (some ⟨tb, 0, none⟩), .slice a.s.A a.s.xs.length a.s.cap] W (fun e w' => e = .returned (.bool (doStamp T a.s.xs).1) ∧ AtT N tb rb fp fr w (doStamp T a.s.xs).2 (doStamp T a.s.xs).2 w') from fun W hW => by
    obtain ⟨_, _, f, fp', fr', h1, h2, h3, h4, h5⟩ := hW
    refine (tstamp_any h1 ok a.s.xs a.s.A a.s.cap ((ha.reads.below (f.to_below hN1 hge)).mono' (Nat.le_trans hN1 f.size)) ha.sts r24).mono ?_
    rintro e w' ⟨rfl, hto⟩
    exact ⟨rfl, AtT.turnT f h1 h2 h3 h4 h5 hto⟩)
  have HR := Lib.hid (show ∀ W, AtT N tb rb fp fr w T T W → Calls Try.prog 56 #[.pointer (some ⟨rb, 0, none⟩), .slice a.s.A a.s.xs.length a.s.cap] W (fun e w' => e = .returned (.bool (doStamp T a.s.xs).1) ∧ AtT N tb rb fp fr w T (doStamp T a.s.xs).2 w') from fun W hW => by
    obtain ⟨_, _, f, fp', fr', h1, h2, h3, h4, h5⟩ := hW
    refine (rstamp_any h2 ok a.s.xs a.s.A a.s.cap ((ha.reads.below (f.to_below hN1 hge)).mono' (Nat.le_trans hN1 f.size)) ha.sts r24 hnF).mono ?_
    rintro e w' ⟨rfl, hto⟩
    exact ⟨rfl, AtT.turnR f h1 h2 h3 h4 h5 hto⟩)
  have HR2 := Lib.hid (show ∀ W, AtT N tb rb fp fr w (doStamp T a.s.xs).2 T W → Calls Try.prog 56 #[.pointer (some ⟨rb, 0, none⟩), .slice a.s.A a.s.xs.length a.s.cap] W (fun e w' => e = .returned (.bool (doStamp T a.s.xs).1) ∧ AtT N tb rb fp fr w (doStamp T a.s.xs).2 (doStamp T a.s.xs).2 w') from fun W hW => by
    obtain ⟨_, _, f, fp', fr', h1, h2, h3, h4, h5⟩ := hW
    refine (rstamp_any h2 ok a.s.xs a.s.A a.s.cap ((ha.reads.below (f.to_below hN1 hge)).mono' (Nat.le_trans hN1 f.size)) ha.sts r24 hnF).mono ?_
    rintro e w' ⟨rfl, hto⟩
    exact ⟨rfl, AtT.turnR f h1 h2 h3 h4 h5 hto⟩)
  have e0 : (a.act == 0) = false := by simpa using h0
  have e1 : (a.act == 1) = false := by simpa using h1
  have e2 : (a.act == 2) = false := by simpa using h2
  generalize (doStamp T a.s.xs) = D at *
  clear ha ha0 hTR hTR0 ok hb0 hge r80 r80b r24
  clear h0 h1 h2
  unfold vvCells at *
  go_enter Try.func33, Try.ntmps33
  go_wp2_with fail
  rw [← hw]
  clear hw
  refine wp_region_noPanic ?_
  refine wp_region_held_drew (S := fun w' => w'.heap[w0.heap.size]? = some (.cells #[.int .i64 a.act, .int .u64 (a.ctx : Int), .int .i64 a.key.kind, .int .i64 a.key.n, .string a.key.s, .int .u64 (a.key.label : Int), .int .i64 a.val.kind, .int .i64 a.val.n, .string a.val.s, .int .u64 (a.val.label : Int), .int .i64 a.n, .slice a.s.A a.s.xs.length a.s.cap] 43 (0, 0))) (by kernel_rfl) (BX.out) (fun hHeld => ?_)
  refine wpAnyH_take (i := 0) (oi := _) (v := .pointer (some ⟨tb, 0, none⟩)) rfl (by kernel_rfl) (by kernel_rfl) (by kernel_rfl) (fun _ _ _ h => h) (Or.inl ⟨by rfl, fun w' hS => (by go_simp)⟩) hHeld ?_
  change wpAnyH _ _ _ _ _ _ _ (Act.put _ (some 67) _) _
  try simp only [Act.put, List.setIfInBounds_toArray, List.set_cons_zero, List.set_cons_succ]
  refine wpAnyH_take (i := 1) (oi := _) (v := .pointer (some ⟨w0.heap.size, 11, none⟩)) rfl (by kernel_rfl) (by kernel_rfl) (by kernel_rfl) (fun _ _ _ h => h) (Or.inl ⟨by rfl, fun w' hS => (by go_simp)⟩) hHeld ?_
  change wpAnyH _ _ _ _ _ _ _ (Act.put _ (some 68) _) _
  try simp only [Act.put, List.setIfInBounds_toArray, List.set_cons_zero, List.set_cons_succ]
  refine wpAnyH_take (i := 2) (oi := _) (v := .slice a.s.A a.s.xs.length a.s.cap) rfl (by kernel_rfl) (by kernel_rfl) (by kernel_rfl) (fun _ _ _ h => h) (Or.inl ⟨by rfl, fun w' hS => (by have q11 := cell_of_blk (i := 11) hS rfl; go_simp)⟩) hHeld ?_
  change wpAnyH _ _ _ _ _ _ _ (Act.put _ (some 69) _) _
  try simp only [Act.put, List.setIfInBounds_toArray, List.set_cons_zero, List.set_cons_succ]
  refine wpAnyH_take (i := 4) (oi := _) (v := .pointer (some ⟨rb, 0, none⟩)) rfl (by kernel_rfl) (by kernel_rfl) (by kernel_rfl) (fun _ _ _ h => h) (Or.inl ⟨by rfl, fun w' hS => (by go_simp)⟩) hHeld ?_
  change wpAnyH _ _ _ _ _ _ _ (Act.put _ (some 71) _) _
  try simp only [Act.put, List.setIfInBounds_toArray, List.set_cons_zero, List.set_cons_succ]
  refine wpAnyH_take (i := 5) (oi := _) (v := .pointer (some ⟨w0.heap.size, 11, none⟩)) rfl (by kernel_rfl) (by kernel_rfl) (by kernel_rfl) (fun _ _ _ h => h) (Or.inl ⟨by rfl, fun w' hS => (by go_simp)⟩) hHeld ?_
  change wpAnyH _ _ _ _ _ _ _ (Act.put _ (some 72) _) _
  try simp only [Act.put, List.setIfInBounds_toArray, List.set_cons_zero, List.set_cons_succ]
  refine wpAnyH_take (i := 6) (oi := _) (v := .slice a.s.A a.s.xs.length a.s.cap) rfl (by kernel_rfl) (by kernel_rfl) (by kernel_rfl) (fun _ _ _ h => h) (Or.inl ⟨by rfl, fun w' hS => (by have q11 := cell_of_blk (i := 11) hS rfl; go_simp)⟩) hHeld ?_
  change wpAnyH _ _ _ _ _ _ _ (Act.put _ (some 73) _) _
  try simp only [Act.put, List.setIfInBounds_toArray, List.set_cons_zero, List.set_cons_succ]
  refine wpAnyH_ready (rs := [3]) (by kernel_rfl) (by simp) ?_
  refine AllReadyH.cons (o := _) rfl (fun K hK => ?_) AllReadyH.nil
  go_simp
  refine (HP.out _ (by first | exact HS0.out | exact HS0.out.drew)).mono ?_
  rintro e w2 ⟨rfl, hat⟩
  refine hK.out _ _ (hat.keep' BX.out hbp hbr) (fun hHeld => ?_)
  clear hK K
  try simp only [Act.put, List.setIfInBounds_toArray, List.set_cons_zero, List.set_cons_succ]
  refine wpAnyH_ready (rs := [7]) (by kernel_rfl) (by simp) ?_
  refine AllReadyH.cons (o := _) rfl (fun K hK => ?_) AllReadyH.nil
  go_simp
  refine (HR2.out _ (by first | exact hat | exact hat.drew)).mono ?_
  rintro e w3 ⟨rfl, hfin⟩
  refine hK.out _ _ (hfin.keep' BX.out hbp hbr) (fun hHeld => ?_)
  clear hK K
  try simp only [Act.put, List.setIfInBounds_toArray, List.set_cons_zero, List.set_cons_succ]
  refine wpAnyH_take (i := 8) (oi := _) (v := .bool (D.1 == D.1)) rfl (by kernel_rfl) (by kernel_rfl) (by kernel_rfl) (fun _ _ _ h => h) (Or.inl ⟨by rfl, fun w' hS => (by go_simp)⟩) hHeld ?_
  change wpAnyH _ _ _ _ _ _ _ (Act.put _ (some 75) _) _
  try simp only [Act.put, List.setIfInBounds_toArray, List.set_cons_zero, List.set_cons_succ]
  refine wpAnyH_take (i := 9) (oi := _) (v := .bool (D.1 == D.1)) rfl (by kernel_rfl) (by kernel_rfl) (by kernel_rfl) (fun _ _ _ h => h) (Or.inl ⟨by rfl, fun w' hS => (by go_simp)⟩) hHeld ?_
  change wpAnyH _ _ _ _ _ _ _ (Act.put _ (some 6) _) _
  try simp only [Act.put, List.setIfInBounds_toArray, List.set_cons_zero, List.set_cons_succ]
  refine wpAnyH_done (by kernel_rfl) ?_ _
  refine NoPanic.normal ?_
  go_wp2_with fail
  go_ret
  exact ⟨⟨_, rfl⟩, by first | exact (hfin.back HB0.out) | exact (hfin.back HB0.out).drew⟩
set_option maxRecDepth 100000 in
set_option maxHeartbeats 8000000 in
theorem act_get {w0 : World} {N tb rb : Nat} {T : TabS} {fp fr : List Nat} (hTR0 : TabIn w0 N tb T fp ∧ RTabIn w0 N rb T fr ∧ ∀ b ∈ fp, b ∉ fr) (ok : TabOk T) (a : TAct) (ha0 : TaFit w0 N a) (hF : T.F.length ≤ 5000) (hS : T.S.length ≤ 5000) (hL : a.s.xs.length ≤ 5000) (h0 : ¬ a.act = 0) (h1 : a.act = 1) :
    Calls Try.prog 33 #[.pointer (some ⟨tb, 0, none⟩), .pointer (some ⟨rb, 0, none⟩), .agg #[.int .i64 a.act, .int .u64 (a.ctx : Int), .int .i64 a.key.kind, .int .i64 a.key.n, .string a.key.s, .int .u64 (a.key.label : Int), .int .i64 a.val.kind, .int .i64 a.val.n, .string a.val.s, .int .u64 (a.val.label : Int), .int .i64 a.n, .slice a.s.A a.s.xs.length a.s.cap]] w0 (ActOut N tb rb fp fr w0 T) := by
  have hF1 : T.F.length ≤ 10000 := by omega
  have hS1 : T.S.length + a.s.xs.length ≤ 10000 := by omega
  obtain ⟨_, r80⟩ := small_room hF1
  obtain ⟨r80b, _⟩ := small_room2 (a := T.F.length) (b := T.S.length) (by omega) (by omega)
  obtain ⟨_, r24⟩ := small_room2 (a := T.S.length) (b := a.s.xs.length) (by omega) (by omega)
  have hnF : T.F.length ≤ 9223372036854775807 := Nat.le_trans hF1 (by decide)
  have hbp : w0.heap.size ∉ fp := fun hm => absurd (hTR0.1.base _ hm).2 (by omega)
  have hbr : w0.heap.size ∉ fr := fun hm => absurd (hTR0.2.1.base _ hm).2 (by omega)
  have hN : N ≤ w0.heap.size := by
    obtain ⟨⟨_, _, _, _, _, _, _, _, hfp, _⟩, hbs⟩ := hTR0.1
    have := hbs tb (by rw [hfp]; simp)
    omega
  have hge : ∀ b ∈ fp ++ fr, N ≤ b := fun b hb => (List.mem_append.1 hb).elim (fun h => (hTR0.1.base b h).1) (fun h => (hTR0.2.1.base b h).1)
  have hb0 := (Below.refl w0.heap.size w0).alloc (Nat.le_refl _) (.cells #[.int .i64 a.act, .int .u64 (a.ctx : Int), .int .i64 a.key.kind, .int .i64 a.key.n, .string a.key.s, .int .u64 (a.key.label : Int), .int .i64 a.val.kind, .int .i64 a.val.n, .string a.val.s, .int .u64 (a.val.label : Int), .int .i64 a.n, .slice a.s.A a.s.xs.length a.s.cap] 43)
  obtain ⟨w, hw⟩ : ∃ w, w = w0.alloc (.cells #[.int .i64 a.act, .int .u64 (a.ctx : Int), .int .i64 a.key.kind, .int .i64 a.key.n, .string a.key.s, .int .u64 (a.key.label : Int), .int .i64 a.val.kind, .int .i64 a.val.n, .string a.val.s, .int .u64 (a.val.label : Int), .int .i64 a.n, .slice a.s.A a.s.xs.length a.s.cap] 43) := ⟨_, rfl⟩
  have BX := Lib.hid (show w.heap[w0.heap.size]? = some (.cells #[.int .i64 a.act, .int .u64 (a.ctx : Int), .int .i64 a.key.kind, .int .i64 a.key.n, .string a.key.s, .int .u64 (a.key.label : Int), .int .i64 a.val.kind, .int .i64 a.val.n, .string a.val.s, .int .u64 (a.val.label : Int), .int .i64 a.n, .slice a.s.A a.s.xs.length a.s.cap] 43 (0, 0)) by rw [hw]; exact heap_alloc_new _ _)
  rw [← hw] at hb0
  have hTR : TabIn w N tb T fp ∧ RTabIn w N rb T fr ∧ ∀ b ∈ fp, b ∉ fr := ⟨hTR0.1.kept (Fr.of_below hb0 []) (by simp), hTR0.2.1.kept (Fr.of_below hb0 []) (by simp), hTR0.2.2⟩
  have HS0 := Lib.hid (AtT.start (Below.refl w.heap.size w) hTR)
  have ha := ha0.below (hb0.mono hN)
  have hN1 : N ≤ w.heap.size := Nat.le_trans hN hb0.size
  have HB0 := Lib.hid hb0
  have e0 : (a.act == 0) = false := by simpa using h0
  have e1 : (a.act == 1) = true := by simpa using h1
  have HG := Lib.hid (show ∀ W, AtT N tb rb fp fr w T T W → Calls Try.prog 35 #[.pointer (some ⟨tb, 0, none⟩), .agg (vvCells a.key)] W (RetB (.agg (vvCells (withV (getV T.F a.key) (joinL [a.key.label, T.l])))) W) from fun W hW => by
    obtain ⟨_, _, f, fp', fr', h1, h2, h3, h4, h5⟩ := hW
    exact tget_is h1 ok ha.key)
  have HRG := Lib.hid (show ∀ W, AtT N tb rb fp fr w T T W → Calls Try.prog 54 #[.pointer (some ⟨rb, 0, none⟩), .agg (vvCells a.key)] W (RetB (.agg (vvCells (withV (getV T.F a.key) (a.key.label ||| T.l)))) W) from fun W hW => by
    obtain ⟨_, _, f, fp', fr', h1, h2, h3, h4, h5⟩ := hW
    exact rget_any h2 ok ha.key hnF)
  generalize withV (getV T.F a.key) (joinL [a.key.label, T.l]) = G1 at HG
  generalize withV (getV T.F a.key) (a.key.label ||| T.l) = G2 at HRG
  have heq := fun W => val_eq G1 G2 W
  clear ha ha0 hTR hTR0 ok hb0 hge r80 r80b r24
  clear h0 h1
  unfold vvCells at *
  go_enter Try.func33, Try.ntmps33
  go_wp2_with fail
  rw [← hw]
  clear hw
  refine wp_region_noPanic ?_
  refine wp_region_held_drew (S := fun w' => w'.heap[w0.heap.size]? = some (.cells #[.int .i64 a.act, .int .u64 (a.ctx : Int), .int .i64 a.key.kind, .int .i64 a.key.n, .string a.key.s, .int .u64 (a.key.label : Int), .int .i64 a.val.kind, .int .i64 a.val.n, .string a.val.s, .int .u64 (a.val.label : Int), .int .i64 a.n, .slice a.s.A a.s.xs.length a.s.cap] 43 (0, 0))) (by kernel_rfl) (BX.out) (fun hHeld => ?_)
  refine wpAnyH_take (i := 0) (oi := _) (v := .pointer (some ⟨tb, 0, none⟩)) rfl (by kernel_rfl) (by kernel_rfl) (by kernel_rfl) (fun _ _ _ h => h) (Or.inl ⟨by rfl, fun w' hS => (by go_simp)⟩) hHeld ?_
  change wpAnyH _ _ _ _ _ _ _ (Act.put _ (some 34) _) _
  try simp only [Act.put, List.setIfInBounds_toArray, List.set_cons_zero, List.set_cons_succ]
  refine wpAnyH_take (i := 1) (oi := _) (v := .pointer (some ⟨w0.heap.size, 2, none⟩)) rfl (by kernel_rfl) (by kernel_rfl) (by kernel_rfl) (fun _ _ _ h => h) (Or.inl ⟨by rfl, fun w' hS => (by go_simp)⟩) hHeld ?_
  change wpAnyH _ _ _ _ _ _ _ (Act.put _ (some 35) _) _
  try simp only [Act.put, List.setIfInBounds_toArray, List.set_cons_zero, List.set_cons_succ]
  refine wpAnyH_take (i := 2) (oi := _) (v := .agg #[.int .i64 a.key.kind, .int .i64 a.key.n, .string a.key.s, .int .u64 (a.key.label : Int)]) rfl (by kernel_rfl) (by kernel_rfl) (by kernel_rfl) (fun _ _ _ h => h) (Or.inl ⟨by rfl, fun w' hS => (by have q2 := cell_of_blk (i := 2) hS rfl; have q3 := cell_of_blk (i := 3) hS rfl; have q4 := cell_of_blk (i := 4) hS rfl; have q5 := cell_of_blk (i := 5) hS rfl; go_simp)⟩) hHeld ?_
  change wpAnyH _ _ _ _ _ _ _ (Act.put _ (some 36) _) _
  try simp only [Act.put, List.setIfInBounds_toArray, List.set_cons_zero, List.set_cons_succ]
  refine wpAnyH_take (i := 4) (oi := _) (v := .pointer (some ⟨rb, 0, none⟩)) rfl (by kernel_rfl) (by kernel_rfl) (by kernel_rfl) (fun _ _ _ h => h) (Or.inl ⟨by rfl, fun w' hS => (by go_simp)⟩) hHeld ?_
  change wpAnyH _ _ _ _ _ _ _ (Act.put _ (some 38) _) _
  try simp only [Act.put, List.setIfInBounds_toArray, List.set_cons_zero, List.set_cons_succ]
  refine wpAnyH_take (i := 5) (oi := _) (v := .pointer (some ⟨w0.heap.size, 2, none⟩)) rfl (by kernel_rfl) (by kernel_rfl) (by kernel_rfl) (fun _ _ _ h => h) (Or.inl ⟨by rfl, fun w' hS => (by go_simp)⟩) hHeld ?_
  change wpAnyH _ _ _ _ _ _ _ (Act.put _ (some 39) _) _
  try simp only [Act.put, List.setIfInBounds_toArray, List.set_cons_zero, List.set_cons_succ]
  refine wpAnyH_take (i := 6) (oi := _) (v := .agg #[.int .i64 a.key.kind, .int .i64 a.key.n, .string a.key.s, .int .u64 (a.key.label : Int)]) rfl (by kernel_rfl) (by kernel_rfl) (by kernel_rfl) (fun _ _ _ h => h) (Or.inl ⟨by rfl, fun w' hS => (by have q2 := cell_of_blk (i := 2) hS rfl; have q3 := cell_of_blk (i := 3) hS rfl; have q4 := cell_of_blk (i := 4) hS rfl; have q5 := cell_of_blk (i := 5) hS rfl; go_simp)⟩) hHeld ?_
  change wpAnyH _ _ _ _ _ _ _ (Act.put _ (some 40) _) _
  try simp only [Act.put, List.setIfInBounds_toArray, List.set_cons_zero, List.set_cons_succ]
  refine wpAnyH_ready (rs := [3]) (by kernel_rfl) (by simp) ?_
  refine AllReadyH.cons (o := _) rfl (fun K hK => ?_) AllReadyH.nil
  go_simp
  refine (HG.out _ (by first | exact HS0.out | exact HS0.out.drew)).mono ?_
  rintro e w2 ⟨rfl, hb2⟩
  have hat : AtT N tb rb fp fr w T T w2 := by first | exact HS0.out.below hb2 | exact HS0.out.drew.below hb2
  refine hK.out _ _ (hat.keep' BX.out hbp hbr) (fun hHeld => ?_)
  clear hK K
  try simp only [Act.put, List.setIfInBounds_toArray, List.set_cons_zero, List.set_cons_succ]
  refine wpAnyH_ready (rs := [7]) (by kernel_rfl) (by simp) ?_
  refine AllReadyH.cons (o := _) rfl (fun K hK => ?_) AllReadyH.nil
  go_simp
  refine (HRG.out _ (by first | exact hat | exact hat.drew)).mono ?_
  rintro e w3 ⟨rfl, hb3⟩
  have hfin : AtT N tb rb fp fr w T T w3 := by first | exact hat.below hb3 | exact hat.drew.below hb3
  refine hK.out _ _ (hfin.keep' BX.out hbp hbr) (fun hHeld => ?_)
  clear hK K
  try simp only [Act.put, List.setIfInBounds_toArray, List.set_cons_zero, List.set_cons_succ]
  refine wpAnyH_take (i := 8) (oi := _) (v := .bool (eqV G1 G2)) rfl (by kernel_rfl) (by kernel_rfl) (by kernel_rfl) (fun _ _ _ h => h) (Or.inl ⟨by rfl, fun w' hS => (by go_simp)⟩) hHeld ?_
  change wpAnyH _ _ _ _ _ _ _ (Act.put _ (some 42) _) _
  try simp only [Act.put, List.setIfInBounds_toArray, List.set_cons_zero, List.set_cons_succ]
  refine wpAnyH_take (i := 9) (oi := _) (v := .bool (eqV G1 G2)) rfl (by kernel_rfl) (by kernel_rfl) (by kernel_rfl) (fun _ _ _ h => h) (Or.inl ⟨by rfl, fun w' hS => (by go_simp)⟩) hHeld ?_
  change wpAnyH _ _ _ _ _ _ _ (Act.put _ (some 6) _) _
  try simp only [Act.put, List.setIfInBounds_toArray, List.set_cons_zero, List.set_cons_succ]
  refine wpAnyH_done (by kernel_rfl) ?_ _
  refine NoPanic.normal ?_
  go_wp2_with fail
  go_ret
  exact ⟨⟨_, rfl⟩, by first | exact (hfin.back HB0.out) | exact (hfin.back HB0.out).drew⟩
set_option maxRecDepth 100000 in
set_option maxHeartbeats 8000000 in
theorem act_key {w0 : World} {N tb rb : Nat} {T : TabS} {fp fr : List Nat} (hTR0 : TabIn w0 N tb T fp ∧ RTabIn w0 N rb T fr ∧ ∀ b ∈ fp, b ∉ fr) (ok : TabOk T) (a : TAct) (ha0 : TaFit w0 N a) (hF : T.F.length ≤ 5000) (hS : T.S.length ≤ 5000) (hL : a.s.xs.length ≤ 5000) (h0 : ¬ a.act = 0) (h1 : ¬ a.act = 1) (h2 : a.act = 2) :
    Calls Try.prog 33 #[.pointer (some ⟨tb, 0, none⟩), .pointer (some ⟨rb, 0, none⟩), .agg #[.int .i64 a.act, .int .u64 (a.ctx : Int), .int .i64 a.key.kind, .int .i64 a.key.n, .string a.key.s, .int .u64 (a.key.label : Int), .int .i64 a.val.kind, .int .i64 a.val.n, .string a.val.s, .int .u64 (a.val.label : Int), .int .i64 a.n, .slice a.s.A a.s.xs.length a.s.cap]] w0 (ActOut N tb rb fp fr w0 T) := by
  have hF1 : T.F.length ≤ 10000 := by omega
  have hS1 : T.S.length + a.s.xs.length ≤ 10000 := by omega
  obtain ⟨_, r80⟩ := small_room hF1
  obtain ⟨r80b, _⟩ := small_room2 (a := T.F.length) (b := T.S.length) (by omega) (by omega)
  obtain ⟨_, r24⟩ := small_room2 (a := T.S.length) (b := a.s.xs.length) (by omega) (by omega)
  have hnF : T.F.length ≤ 9223372036854775807 := Nat.le_trans hF1 (by decide)
  have hbp : w0.heap.size ∉ fp := fun hm => absurd (hTR0.1.base _ hm).2 (by omega)
  have hbr : w0.heap.size ∉ fr := fun hm => absurd (hTR0.2.1.base _ hm).2 (by omega)
  have hN : N ≤ w0.heap.size := by
    obtain ⟨⟨_, _, _, _, _, _, _, _, hfp, _⟩, hbs⟩ := hTR0.1
    have := hbs tb (by rw [hfp]; simp)
    omega
  have hge : ∀ b ∈ fp ++ fr, N ≤ b := fun b hb => (List.mem_append.1 hb).elim (fun h => (hTR0.1.base b h).1) (fun h => (hTR0.2.1.base b h).1)
  have hb0 := (Below.refl w0.heap.size w0).alloc (Nat.le_refl _) (.cells #[.int .i64 a.act, .int .u64 (a.ctx : Int), .int .i64 a.key.kind, .int .i64 a.key.n, .string a.key.s, .int .u64 (a.key.label : Int), .int .i64 a.val.kind, .int .i64 a.val.n, .string a.val.s, .int .u64 (a.val.label : Int), .int .i64 a.n, .slice a.s.A a.s.xs.length a.s.cap] 43)
  obtain ⟨w, hw⟩ : ∃ w, w = w0.alloc (.cells #[.int .i64 a.act, .int .u64 (a.ctx : Int), .int .i64 a.key.kind, .int .i64 a.key.n, .string a.key.s, .int .u64 (a.key.label : Int), .int .i64 a.val.kind, .int .i64 a.val.n, .string a.val.s, .int .u64 (a.val.label : Int), .int .i64 a.n, .slice a.s.A a.s.xs.length a.s.cap] 43) := ⟨_, rfl⟩
  have BX := Lib.hid (show w.heap[w0.heap.size]? = some (.cells #[.int .i64 a.act, .int .u64 (a.ctx : Int), .int .i64 a.key.kind, .int .i64 a.key.n, .string a.key.s, .int .u64 (a.key.label : Int), .int .i64 a.val.kind, .int .i64 a.val.n, .string a.val.s, .int .u64 (a.val.label : Int), .int .i64 a.n, .slice a.s.A a.s.xs.length a.s.cap] 43 (0, 0)) by rw [hw]; exact heap_alloc_new _ _)
  rw [← hw] at hb0
  have hTR : TabIn w N tb T fp ∧ RTabIn w N rb T fr ∧ ∀ b ∈ fp, b ∉ fr := ⟨hTR0.1.kept (Fr.of_below hb0 []) (by simp), hTR0.2.1.kept (Fr.of_below hb0 []) (by simp), hTR0.2.2⟩
  have HS0 := Lib.hid (AtT.start (Below.refl w.heap.size w) hTR)
  have ha := ha0.below (hb0.mono hN)
  have hN1 : N ≤ w.heap.size := Nat.le_trans hN hb0.size
  have HB0 := Lib.hid hb0
  have e0 : (a.act == 0) = false := by simpa using h0
  have e1 : (a.act == 1) = false := by simpa using h1
  have e2 : (a.act == 2) = true := by simpa using h2
  have HG := Lib.hid (show ∀ W, AtT N tb rb fp fr w T T W → Calls Try.prog 39 #[.pointer (some ⟨tb, 0, none⟩), .int .i64 a.n] W (fun e w' => (∃ k b, e = .returned (.tuple #[.agg (vvCells k), .bool b])) ∧ Below W.heap.size W w') from fun W hW => by
    obtain ⟨_, _, f, fp', fr', h1, h2, h3, h4, h5⟩ := hW
    exact tkey_any h1 a.n ha.n)
  have HRG := Lib.hid (show ∀ W, AtT N tb rb fp fr w T T W → Calls Try.prog 55 #[.pointer (some ⟨rb, 0, none⟩), .int .i64 a.n] W (fun e w' => (∃ k b, e = .returned (.tuple #[.agg (vvCells k), .bool b])) ∧ Below W.heap.size W w') from fun W hW => by
    obtain ⟨_, _, f, fp', fr', h1, h2, h3, h4, h5⟩ := hW
    exact rkeyn_any h2 a.n ha.n)
  have x0 := cell_of_blk (i := 0) BX.out rfl
  have x10 := cell_of_blk (i := 10) BX.out rfl
  have l0 := blk_lt BX.out
  clear ha ha0 hTR hTR0 ok hb0 hge r80 r80b r24
  clear h0 h1 h2
  unfold vvCells at *
  go_enter Try.func33, Try.ntmps33
  go_wp2_with fail
  rw [← hw]
  clear hw
  refine (HG.out _ HS0.out).mono ?_
  rintro e w2 ⟨⟨k1, b1, rfl⟩, hb2⟩
  have hat := HS0.out.below hb2
  have BX2 := Lib.hid (hat.keep' BX.out hbp hbr)
  have HA2 := Lib.hid hat
  have y10 := cell_of_blk (i := 10) BX2.out rfl
  have l2 := blk_lt BX2.out
  clear hb2 hat x0 x10 l0
  go_wp2_with fail
  have hat := HA2.out.below ((Below.refl _ _).alloc (Nat.le_refl _) (.cells #[.int .i64 k1.kind, .int .i64 k1.n, .string k1.s, .int .u64 (k1.label : Int)] 25))
  have hV := heap_alloc_new w2 (.cells #[.int .i64 k1.kind, .int .i64 k1.n, .string k1.s, .int .u64 (k1.label : Int)] 25)
  refine (HRG.out _ hat).mono ?_
  rintro e w3 ⟨⟨k2, b2, rfl⟩, hb3⟩
  have hfin := hat.below hb3
  have HV := Lib.hid (below_blk hb3 hV)
  have HFN := Lib.hid hfin
  clear hb3 hat hV hfin y10 l2
  have v0 := cell_of_blk (i := 0) HV.out rfl
  have v1 := cell_of_blk (i := 1) HV.out rfl
  have v2 := cell_of_blk (i := 2) HV.out rfl
  have v3 := cell_of_blk (i := 3) HV.out rfl
  have lv := blk_lt HV.out
  have heq := fun W => val_eq k1 k2 W
  unfold vvCells at heq
  have HFN2 := Lib.hid ((HFN.out.below ((Below.refl _ _).alloc (Nat.le_refl _) (.cells #[.int .i64 k2.kind, .int .i64 k2.n, .string k2.s, .int .u64 (k2.label : Int)] 25))).back HB0.out)
  cases hE : eqV k1 k2
  all_goals
    rw [hE] at heq
    go_wp2_with fail
    go_ret
    exact ⟨⟨_, rfl⟩, HFN2.out⟩
theorem act_any {w0 : World} {N tb rb : Nat} {T : TabS} {fp fr : List Nat} (hTR0 : TabIn w0 N tb T fp ∧ RTabIn w0 N rb T fr ∧ ∀ b ∈ fp, b ∉ fr) (ok : TabOk T) (a : TAct) (ha0 : TaFit w0 N a) (hF : T.F.length ≤ 5000) (hS : T.S.length ≤ 5000) (hL : a.s.xs.length ≤ 5000) :
    Calls Try.prog 33 #[.pointer (some ⟨tb, 0, none⟩), .pointer (some ⟨rb, 0, none⟩), .agg #[.int .i64 a.act, .int .u64 (a.ctx : Int), .int .i64 a.key.kind, .int .i64 a.key.n, .string a.key.s, .int .u64 (a.key.label : Int), .int .i64 a.val.kind, .int .i64 a.val.n, .string a.val.s, .int .u64 (a.val.label : Int), .int .i64 a.n, .slice a.s.A a.s.xs.length a.s.cap]] w0 (ActOut N tb rb fp fr w0 (stepT T a)) := by
  unfold stepT
  by_cases h0 : a.act = 0
  · rw [if_pos h0]
    exact act_put hTR0 ok a ha0 hF hS hL h0
  rw [if_neg h0]
  by_cases h1 : a.act = 1
  · rw [if_pos h1]
    exact act_get hTR0 ok a ha0 hF hS hL h0 h1
  rw [if_neg h1]
  by_cases h2 : a.act = 2
  · rw [if_pos h2]
    exact act_key hTR0 ok a ha0 hF hS hL h0 h1 h2
  rw [if_neg h2]
  exact act_stamp hTR0 ok a ha0 hF hS hL h0 h1 h2
end Go.Proofs.Ythhphjfbdoffhaa
