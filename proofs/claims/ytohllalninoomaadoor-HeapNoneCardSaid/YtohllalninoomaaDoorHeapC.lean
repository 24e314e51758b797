/-
  A heap's tables: Of, a new one.
-/
import Derived.Test.YtohllalninoomaaDoorHeapB
set_option linter.unusedVariables false
set_option linter.unusedSimpArgs false
namespace Go.Proofs.YtohllalninoomaaDoor
open Go.ChangeShapes Go.WideShapes Go.ChangeAt Go.RowKit

/-- A heap's tables as they lie: pointers. -/
def ptrs (ps : List Nat) : List Value := ps.map fun p => .pointer (some ⟨p, 0, none⟩)
/-- One of the tables by its number, or nil. -/
def atV (xs : List Value) (k : Int) : Value := if 0 ≤ k then (xs[k.toNat]?).getD (.pointer none) else .pointer none
theorem at_tab2 {w : World} {B h : Nat} {L U : Int} {fv cv : Value} {A : Option Addr} {n c : Nat} {xs : List Value} (hh : w.heap[h]? = some (.cells #[.int .i64 L, .int .i64 U, .slice A n c, fv, cv] 74 (0, 0))) (ho : w.ownsRow B 53 1 (.slice A n c) n xs) (hx : xs.length = n) (hn : n ≤ 1000000) (hB : B ≤ w.heap.size) (k : Int) :
    Calls Tryd.prog 42 #[.pointer (some ⟨h, 2, none⟩), .int .i64 k] w (RetB (.tuple #[atV xs k, .bool (decide (0 ≤ k ∧ k < (n : Int)))]) w) := by
  refine (at_tab hh ho hx hn k).mono ?_
  rintro e w' ⟨hb, ⟨h0, x, hk, rfl⟩ | ⟨hk, rfl⟩⟩
  · have h1 : k.toNat < xs.length := (List.getElem?_eq_some_iff.1 hk).1
    refine ⟨?_, hb⟩
    rw [show atV xs k = x by unfold atV; rw [if_pos h0, hk]; rfl, decide_eq_true (by omega)]
  · refine ⟨?_, hb⟩
    rw [decide_eq_false (by omega)]
    have : atV xs k = .pointer none := by
      unfold atV
      split
      · rw [List.getElem?_eq_none (by omega)]; rfl
      · rfl
    rw [this]
/-- What 'Of' answers. -/
def ofV (xs : List Value) (v : VV) : Value := if v.kind = 4 then atV xs v.n else .pointer none
set_option maxRecDepth 100000 in
set_option maxHeartbeats 2000000 in
theorem hof_any {w : World} {B h : Nat} {L U : Int} {fv cv : Value} {A : Option Addr} {n c : Nat} {xs : List Value} (t : VV) (hh : w.heap[h]? = some (.cells #[.int .i64 L, .int .i64 U, .slice A n c, fv, cv] 74 (0, 0))) (ho : w.ownsRow B 53 1 (.slice A n c) n xs) (hx : xs.length = n) (hn : n ≤ 1000000) (hB : B ≤ w.heap.size) :
    Calls Tryd.prog 14 #[.pointer (some ⟨h, 0, none⟩), .agg #[.int .i64 t.kind, .int .i64 t.n, .string t.s, .int .u64 (t.label : Int)]] w (RetB (ofV xs t) w) := by
  obtain ⟨b, hb⟩ : ∃ b, b = w.heap.size := ⟨_, rfl⟩
  have HB := Lib.hid (show w.heap.size ≤ b by omega)
  have HBE := Lib.hid hb
  have HX := Lib.hid (And.intro hx (And.intro hn hB))
  obtain ⟨ov, hov⟩ : ∃ ov, ov = ofV xs t := ⟨_, rfl⟩
  rw [← hov]
  have HOV := Lib.hid hov
  have H0 := Lib.hid hh
  have O0 := Lib.hid ho
  clear hb hh ho hx hn hB hov
  go_enter Tryd.func14, Tryd.ntmps14
  go_upto_region 1 with fail
  rw [← HBE.out]
  refine gen_wp fun W hW => ?_
  have HR := Lib.hid (show W.heap[b]? = some (.cells #[.int .i64 t.kind, .int .i64 t.n, .string t.s, .int .u64 (t.label : Int)] 25 (0, 0)) by rw [← hW, HBE.out]; exact heap_new_at _ _ _ rfl)
  have HH := Lib.hid (show W.heap[h]? = some (.cells #[.int .i64 L, .int .i64 U, .slice A n c, fv, cv] 74 (0, 0)) by rw [← hW]; exact blk_alloc H0.out _)
  have HO := Lib.hid (show W.ownsRow B 53 1 (.slice A n c) n xs by rw [← hW]; exact O0.out.alloc _)
  have HW := Lib.hid (show Below w.heap.size w W by rw [← hW]; exact (Below.refl _ _).alloc (Nat.le_refl _) _)
  clear hW
  have r0 : W.cell? ⟨b, 0, none⟩ = some (.int .i64 t.kind) := cell_of_blk HR.out rfl
  have r1 : W.cell? ⟨b, 1, none⟩ = some (.int .i64 t.n) := cell_of_blk HR.out rfl
  have r2 : W.cell? ⟨b, 2, none⟩ = some (.string t.s) := cell_of_blk HR.out rfl
  have r3 : W.cell? ⟨b, 3, none⟩ = some (.int .u64 (t.label : Int)) := cell_of_blk HR.out rfl
  have rf0 := free_of_blk (i := 0) HR.out
  have rf1 := free_of_blk (i := 1) HR.out
  have rf2 := free_of_blk (i := 2) HR.out
  have rf3 := free_of_blk (i := 3) HR.out
  have rl := blk_lt HR.out
  by_cases hk : t.kind = 4
  · have HC := Lib.hid (fun w' (hw' : Below W.heap.size W w') => at_tab2 (below_blk hw' HH.out) (below_own hw' HO.out) HX.out.1 HX.out.2.1 (Nat.le_trans HX.out.2.2 (Nat.le_trans HW.out.size hw'.size)) t.n)
    have HOE := Lib.hid (show atV xs t.n = ov by rw [HOV.out]; unfold ofV; rw [if_pos hk])
    obtain ⟨is, his⟩ : ∃ is, is = decide (0 ≤ t.n ∧ t.n < (n : Int)) := ⟨_, rfl⟩
    rw [HOE.out, ← his] at HC
    clear his
    go_wp2_with fail
    refine wp_region_held_drew (S := fun w' => w'.heap[b]? = some (.cells #[.int .i64 t.kind, .int .i64 t.n, .string t.s, .int .u64 (t.label : Int)] 25 (0, 0))) (by kernel_rfl) (HR.out) (fun hHeld => ?_)
    refine wpAnyH_take (i := 0) (oi := _) (v := .pointer (some ⟨h, 0, none⟩)) rfl (by kernel_rfl) (by kernel_rfl) (by kernel_rfl) (fun _ _ _ h => h) (Or.inl ⟨by rfl, fun w' hS => (by go_simp)⟩) hHeld ?_
    change wpAnyH _ _ _ _ _ _ _ (Act.put _ (some 15) _) _
    try simp only [Act.put, List.setIfInBounds_toArray, List.set_cons_zero, List.set_cons_succ]
    refine wpAnyH_take (i := 1) (oi := _) (v := .pointer (some ⟨h, 0, none⟩)) rfl (by kernel_rfl) (by kernel_rfl) (by kernel_rfl) (fun _ _ _ h => h) (Or.inl ⟨by rfl, fun w' hS => (by go_simp)⟩) hHeld ?_
    change wpAnyH _ _ _ _ _ _ _ (Act.put _ (some 16) _) _
    try simp only [Act.put, List.setIfInBounds_toArray, List.set_cons_zero, List.set_cons_succ]
    refine wpAnyH_take (i := 2) (oi := _) (v := .pointer (some ⟨h, 2, none⟩)) rfl (by kernel_rfl) (by kernel_rfl) (by kernel_rfl) (fun _ _ _ h => h) (Or.inl ⟨by rfl, fun w' hS => (by go_simp)⟩) hHeld ?_
    change wpAnyH _ _ _ _ _ _ _ (Act.put _ (some 17) _) _
    try simp only [Act.put, List.setIfInBounds_toArray, List.set_cons_zero, List.set_cons_succ]
    refine wpAnyH_take (i := 3) (oi := _) (v := .pointer (some ⟨b, 1, none⟩)) rfl (by kernel_rfl) (by kernel_rfl) (by kernel_rfl) (fun _ _ _ h => h) (Or.inl ⟨by rfl, fun w' hS => (by go_simp)⟩) hHeld ?_
    change wpAnyH _ _ _ _ _ _ _ (Act.put _ (some 18) _) _
    try simp only [Act.put, List.setIfInBounds_toArray, List.set_cons_zero, List.set_cons_succ]
    refine wpAnyH_take (i := 4) (oi := _) (v := .int .i64 t.n) rfl (by kernel_rfl) (by kernel_rfl) (by kernel_rfl) (fun _ _ _ h => h) (Or.inl ⟨by rfl, fun w' hS => (by have q0 := cell_of_blk (i := 0) hS rfl; have q1 := cell_of_blk (i := 1) hS rfl; have q2 := cell_of_blk (i := 2) hS rfl; have q3 := cell_of_blk (i := 3) hS rfl; go_simp)⟩) hHeld ?_
    change wpAnyH _ _ _ _ _ _ _ (Act.put _ (some 19) _) _
    try simp only [Act.put, List.setIfInBounds_toArray, List.set_cons_zero, List.set_cons_succ]
    refine wpAnyH_ready (rs := [5]) (by kernel_rfl) (by simp) ?_
    refine AllReadyH.cons (o := _) rfl (fun K hK => ?_) AllReadyH.nil
    go_simp
    refine (HC.out _ (Below.refl _ _).drew).mono ?_
    rintro e w1 ⟨rfl, hb1⟩
    have HW1 := Lib.hid (show Below w.heap.size w w1 from HW.out.trans (((Below.refl _ _).drew.trans hb1).mono HW.out.size))
    have HR1 := Lib.hid (below_blk ((Below.refl _ _).drew.trans hb1) HR.out)
    clear hb1
    refine hK.out _ _ (HR1.out) (fun hHeld => ?_)
    clear hK K
    try simp only [Act.put, List.setIfInBounds_toArray, List.set_cons_zero, List.set_cons_succ]
    refine wpAnyH_take (i := 6) (oi := _) (v := .tuple #[ov, .bool is]) rfl (by kernel_rfl) (by kernel_rfl) (by kernel_rfl) (fun _ _ _ h => h) (Or.inl ⟨by rfl, fun w' hS => (by go_simp)⟩) hHeld ?_
    change wpAnyH _ _ _ _ _ _ _ (Act.put _ (some 14) _) _
    try simp only [Act.put, List.setIfInBounds_toArray, List.set_cons_zero, List.set_cons_succ]
    refine wpAnyH_take (i := 7) (oi := _) (v := ov) rfl (by kernel_rfl) (by kernel_rfl) (by kernel_rfl) (fun _ _ _ h => h) (Or.inl ⟨by rfl, fun w' hS => (by go_simp)⟩) hHeld ?_
    change wpAnyH _ _ _ _ _ _ _ (Act.put _ (some 21) _) _
    try simp only [Act.put, List.setIfInBounds_toArray, List.set_cons_zero, List.set_cons_succ]
    refine wpAnyH_take (i := 8) (oi := _) (v := .bool is) rfl (by kernel_rfl) (by kernel_rfl) (by kernel_rfl) (fun _ _ _ h => h) (Or.inl ⟨by rfl, fun w' hS => (by go_simp)⟩) hHeld ?_
    change wpAnyH _ _ _ _ _ _ _ (Act.put _ (some 22) _) _
    try simp only [Act.put, List.setIfInBounds_toArray, List.set_cons_zero, List.set_cons_succ]
    refine wpAnyH_take (i := 9) (oi := _) (v := ov) rfl (by kernel_rfl) (by kernel_rfl) (by kernel_rfl) (fun _ _ _ h => h) (Or.inl ⟨by rfl, fun w' hS => (by go_simp)⟩) hHeld ?_
    change wpAnyH _ _ _ _ _ _ _ (Act.put _ (some 5) _) _
    try simp only [Act.put, List.setIfInBounds_toArray, List.set_cons_zero, List.set_cons_succ]
    refine wpAnyH_take (i := 10) (oi := _) (v := .bool is) rfl (by kernel_rfl) (by kernel_rfl) (by kernel_rfl) (fun _ _ _ h => h) (Or.inl ⟨by rfl, fun w' hS => (by go_simp)⟩) hHeld ?_
    change wpAnyH _ _ _ _ _ _ _ (Act.put _ (some 6) _) _
    try simp only [Act.put, List.setIfInBounds_toArray, List.set_cons_zero, List.set_cons_succ]
    refine wpAnyH_done (by kernel_rfl) ?_ _
    go_wp2
    go_ret
    exact ⟨rfl, HW1.out⟩
  · have HOE := Lib.hid (show ov = .pointer none by rw [HOV.out]; unfold ofV; rw [if_neg hk])
    go_wp2
    go_ret
    exact ⟨by rw [HOE.out]; rfl, HW.out⟩
theorem hp_own_lt {w : World} {base g : Nat} {e : TypeId} {K n : Nat} {v : Value} {xs : List Value} (h : w.ownsRow base e K v n xs) (hg : v.ownBlock = some g) : base ≤ g ∧ g < w.heap.size := by
  rcases h.2 with ⟨rfl, _⟩ | ⟨g', cap, cur, rfl, hb, hh, _⟩
  · simp [Value.ownBlock] at hg
  · obtain rfl : g' = g := by simpa [Value.ownBlock] using hg
    exact ⟨hb, blk_lt hh⟩
theorem hp_own_mono {w : World} {base base' : Nat} {e : TypeId} {K n : Nat} {v : Value} {xs : List Value} (ho : w.ownsRow base e K v n xs) (h : base' ≤ base) : w.ownsRow base' e K v n xs :=
  ⟨ho.1, ho.2.imp id fun ⟨g, cap, cur, hv, hg, r⟩ => ⟨g, cap, cur, hv, Nat.le_trans h hg, r⟩⟩
theorem tabIn_low {w : World} {B B' tb : Nat} {T : TabS} {fp : List Nat} (h : TabIn w B tb T fp) (hB : B' ≤ B) : TabIn w B' tb T fp := by
  obtain ⟨⟨fv, sv, mb, nb, n, m, D, E, rfl, h1, h2, h3, h4⟩, hb⟩ := h
  exact ⟨⟨fv, sv, mb, nb, n, m, D, E, rfl, h1, hp_own_mono h2 hB, hp_own_mono h3 hB, h4⟩, fun b hm => ⟨Nat.le_trans hB (hb b hm).1, (hb b hm).2⟩⟩
/-- What a new table leaves. -/
def TabMade (B h : Nat) (L U : Int) (fv cv : Value) (A : Option Addr) (n c : Nat) (xs : List Value) (l : Nat) (w w' : World) : Prop :=
  ∃ g cap tb fp, w'.heap[h]? = some (.cells #[.int .i64 L, .int .i64 U, .slice (some ⟨g, 0, none⟩) (n + 1) cap, fv, cv] 74 (0, 0)) ∧ w'.ownsRow B 53 1 (.slice (some ⟨g, 0, none⟩) (n + 1) cap) (n + 1) (xs ++ [.pointer (some ⟨tb, 0, none⟩)]) ∧ TabIn w' w.heap.size tb ⟨l, [], []⟩ fp ∧ Fr (h :: (Value.slice A n c).ownBlock.toList) w w' ∧ ((Value.slice A n c).ownBlock = some g ∨ w.heap.size ≤ g) ∧ g ∉ fp
def newTabV (n : Nat) : Value := .agg #[.int .i64 4, .int .i64 (n : Int), .string ⟨#[]⟩, .int .u64 0]
theorem four_far {W : World} {b x : Nat} {o : Obj} (v0 v1 v2 v3 : Value) (h : W.heap[x]? = some o) (hne : x ≠ b) : ((((W.setCell ⟨b, 0, none⟩ v0).setCell ⟨b, 1, none⟩ v1).setCell ⟨b, 2, none⟩ v2).setCell ⟨b, 3, none⟩ v3).heap[x]? = some o :=
  blk_far (blk_far (blk_far (blk_far h hne _) hne _) hne _) hne _
set_option maxRecDepth 100000 in
set_option maxHeartbeats 4000000 in
theorem tab1_any {w : World} {B h b0 b1 : Nat} {L U : Int} {fv cv : Value} {A : Option Addr} {n c : Nat} {xs : List Value} (l : Nat) (hh : w.heap[h]? = some (.cells #[.int .i64 L, .int .i64 U, .slice A n c, fv, cv] 74 (0, 0))) (ho : w.ownsRow B 53 1 (.slice A n c) n xs) (hx : xs.length = n) (hn : n ≤ 1000000) (hB : B ≤ w.heap.size) (k0 : w.heap[b0]? = some (.cells #[.pointer (some ⟨h, 0, none⟩)] 36 (0, 0))) (k1 : w.heap[b1]? = some (.cells #[.int .u64 (l : Int)] 23 (0, 0))) :
    Calls Tryd.prog 24 #[.pointer (some ⟨b0, 0, none⟩), .pointer (some ⟨b1, 0, none⟩)] w fun e w' => e = .returned (newTabV n) ∧ TabMade B h L U fv cv A n c xs l w w' := by
  obtain ⟨b, hb⟩ : ∃ b, b = w.heap.size := ⟨_, rfl⟩
  have HBE := Lib.hid hb
  have HX := Lib.hid (And.intro hx (And.intro hn hB))
  have N0 := Lib.hid (And.intro (blk_ne k0 hh (by decide)) (And.intro (blk_ne k1 hh (by decide)) (And.intro (own_blk_ne ho k0 (by decide)) (own_blk_ne ho k1 (by decide)))))
  have HL := Lib.hid (And.intro (blk_lt hh) (And.intro (blk_lt k0) (blk_lt k1)))
  have H0 := Lib.hid hh
  have O0 := Lib.hid ho
  have K0 := Lib.hid k0
  have K1 := Lib.hid k1
  have GL := Lib.hid (fun g (hg : (Value.slice A n c).ownBlock = some g) => (hp_own_lt ho hg).2)
  clear hb hh ho hx hn hB k0 k1
  go_enter Tryd.func24, Tryd.ntmps24
  go_upto_region 1 with fail
  rw [← HBE.out]
  refine gen_wp fun W hW => ?_
  have HR := Lib.hid (show W.heap[b]? = some (.cells #[.int .i64 0, .int .i64 0, .string ⟨#[]⟩, .int .u64 0] 25 (0, 0)) by rw [← hW, HBE.out]; exact heap_new_at _ _ _ (by first | rfl | simp))
  have HH := Lib.hid (show W.heap[h]? = some (.cells #[.int .i64 L, .int .i64 U, .slice A n c, fv, cv] 74 (0, 0)) by rw [← hW]; exact blk_alloc H0.out _)
  have HO := Lib.hid (show W.ownsRow B 53 1 (.slice A n c) n xs by rw [← hW]; exact O0.out.alloc _)
  have KW0 := Lib.hid (show W.heap[b0]? = some (.cells #[.pointer (some ⟨h, 0, none⟩)] 36 (0, 0)) by rw [← hW]; exact blk_alloc K0.out _)
  have KW1 := Lib.hid (show W.heap[b1]? = some (.cells #[.int .u64 (l : Int)] 23 (0, 0)) by rw [← hW]; exact blk_alloc K1.out _)
  have HW := Lib.hid (show Below w.heap.size w W by rw [← hW]; exact (Below.refl _ _).alloc (Nat.le_refl _) _)
  clear hW
  go_wp2_with fail
  refine wp_region_held_drew (S := fun w' => w'.heap[b0]? = some (.cells #[.pointer (some ⟨h, 0, none⟩)] 36 (0, 0)) ∧ w'.heap[b1]? = some (.cells #[.int .u64 (l : Int)] 23 (0, 0))) (by kernel_rfl) (⟨KW0.out, KW1.out⟩) (fun hHeld => ?_)
  refine wpAnyH_take (i := 0) (oi := _) (v := .pointer (some ⟨h, 0, none⟩)) rfl (by kernel_rfl) (by kernel_rfl) (by kernel_rfl) (fun _ _ _ h => h) (Or.inl ⟨by rfl, fun w' hS => (by have q0 := cell_of_blk (i := 0) hS.1 rfl; have q1 := cell_of_blk (i := 0) hS.2 rfl; go_simp)⟩) hHeld ?_
  change wpAnyH _ _ _ _ _ _ _ (Act.put _ (some 3) _) _
  try simp only [Act.put, List.setIfInBounds_toArray, List.set_cons_zero, List.set_cons_succ]
  refine wpAnyH_take (i := 1) (oi := _) (v := .pointer (some ⟨h, 0, none⟩)) rfl (by kernel_rfl) (by kernel_rfl) (by kernel_rfl) (fun _ _ _ h => h) (Or.inl ⟨by rfl, fun w' hS => (by go_simp)⟩) hHeld ?_
  change wpAnyH _ _ _ _ _ _ _ (Act.put _ (some 4) _) _
  try simp only [Act.put, List.setIfInBounds_toArray, List.set_cons_zero, List.set_cons_succ]
  refine wpAnyH_take (i := 2) (oi := _) (v := .pointer (some ⟨h, 2, none⟩)) rfl (by kernel_rfl) (by kernel_rfl) (by kernel_rfl) (fun _ _ _ h => h) (Or.inl ⟨by rfl, fun w' hS => (by go_simp)⟩) hHeld ?_
  change wpAnyH _ _ _ _ _ _ _ (Act.put _ (some 5) _) _
  try simp only [Act.put, List.setIfInBounds_toArray, List.set_cons_zero, List.set_cons_succ]
  refine wpAnyH_take (i := 3) (oi := _) (v := .int .u64 (l : Int)) rfl (by kernel_rfl) (by kernel_rfl) (by kernel_rfl) (fun _ _ _ h => h) (Or.inl ⟨by rfl, fun w' hS => (by have q0 := cell_of_blk (i := 0) hS.1 rfl; have q1 := cell_of_blk (i := 0) hS.2 rfl; go_simp)⟩) hHeld ?_
  change wpAnyH _ _ _ _ _ _ _ (Act.put _ (some 6) _) _
  try simp only [Act.put, List.setIfInBounds_toArray, List.set_cons_zero, List.set_cons_succ]
  refine wpAnyH_ready (rs := [4]) (by kernel_rfl) (by simp) ?_
  refine AllReadyH.cons (o := _) rfl (fun K hK => ?_) AllReadyH.nil
  go_simp
  refine (tnew_any l _).mono ?_
  rintro e w1 ⟨tb, fp, rfl, hT, hb1⟩
  have hb1' : Below W.heap.size W w1 := (Below.refl _ _).drew.trans hb1
  have HT := Lib.hid (show TabIn w1 W.heap.size tb ⟨l, [], []⟩ fp from hT)
  have HB1 := Lib.hid hb1'
  have HH1 := Lib.hid (below_blk hb1' HH.out)
  have HO1 := Lib.hid (below_own hb1' HO.out)
  have S1 := Lib.hid (And.intro (below_blk hb1' KW0.out) (And.intro (below_blk hb1' KW1.out) (below_blk hb1' HR.out)))
  clear hT hb1 hb1'
  refine hK.out _ _ (⟨S1.out.1, S1.out.2.1⟩) (fun hHeld => ?_)
  clear hK K
  try simp only [Act.put, List.setIfInBounds_toArray, List.set_cons_zero, List.set_cons_succ]
  refine wpAnyH_ready (rs := [5]) (by kernel_rfl) (by simp) ?_
  refine AllReadyH.cons (o := _) rfl (fun K hK => ?_) AllReadyH.nil
  go_simp
  refine (add_tab HH1.out HO1.out HX.out.2.1 (Nat.le_trans HX.out.2.2 (Nat.le_trans HW.out.size HB1.out.size)) ⟨tb, 0, none⟩).mono ?_
  rintro e w2 ⟨g, cap, rfl, hh2, ho2, hf2, hg2⟩
  have NB := Lib.hid (show ∀ x ∈ h :: (Value.slice A n c).ownBlock.toList, x < b from fun x hx => by
      rw [HBE.out]
      rcases List.mem_cons.1 hx with rfl | hx
      · exact HL.out.1
      · exact GL.out x (by simpa using hx))
  have S2 := Lib.hid (And.intro (hf2.blk S1.out.1 (by have h1 := N0.out.1; have h2 := N0.out.2.2.1; simp only [List.mem_cons, Option.mem_toList]; rintro (e | e); exact h1 e; exact h2 e.symm)) (And.intro (hf2.blk S1.out.2.1 (by have h1 := N0.out.2.1; have h2 := N0.out.2.2.2; simp only [List.mem_cons, Option.mem_toList]; rintro (e | e); exact h1 e; exact h2 e.symm)) (hf2.blk S1.out.2.2 (fun hm => Nat.lt_irrefl _ (NB.out _ hm)))))
  have HH2 := Lib.hid hh2
  have HO2 := Lib.hid ho2
  have HF2 := Lib.hid hf2
  have HG2 := Lib.hid hg2
  clear hh2 ho2 hf2 hg2
  have hb20 := S2.out.2.2
  have r0 : w2.cell? ⟨b, 0, none⟩ = some (.int .i64 0) := cell_of_blk hb20 rfl
  have r1 : w2.cell? ⟨b, 1, none⟩ = some (.int .i64 0) := cell_of_blk hb20 rfl
  have r2 : w2.cell? ⟨b, 2, none⟩ = some (.string ⟨#[]⟩) := cell_of_blk hb20 rfl
  have r3 : w2.cell? ⟨b, 3, none⟩ = some (.int .u64 0) := cell_of_blk hb20 rfl
  have rf0 := free_of_blk (i := 0) hb20
  have rf1 := free_of_blk (i := 1) hb20
  have rf2 := free_of_blk (i := 2) hb20
  have rf3 := free_of_blk (i := 3) hb20
  have rl := blk_lt hb20
  clear hb20
  refine hK.out _ _ (⟨S2.out.1, S2.out.2.1⟩) (fun hHeld => ?_)
  clear hK K
  try simp only [Act.put, List.setIfInBounds_toArray, List.set_cons_zero, List.set_cons_succ]
  refine wpAnyH_take (i := 6) (oi := _) (v := .agg #[.int .i64 4, .int .i64 (n : Int), .string ⟨#[]⟩, .int .u64 0]) rfl (by kernel_rfl) (by kernel_rfl) (by kernel_rfl) (fun _ _ _ h => h) (Or.inl ⟨by rfl, fun w' hS => (by go_simp)⟩) hHeld ?_
  change wpAnyH _ _ _ _ _ _ _ (Act.put _ (some 9) _) _
  try simp only [Act.put, List.setIfInBounds_toArray, List.set_cons_zero, List.set_cons_succ]
  refine wpAnyH_ready (rs := [7]) (by kernel_rfl) (by simp) ?_
  refine AllReadyH.cons (o := _) rfl (fun K hK => ?_) AllReadyH.nil
  go_simp
  refine hK.out _ _ (⟨four_far _ _ _ _ S2.out.1 (by rw [HBE.out]; exact Nat.ne_of_lt HL.out.2.1), four_far _ _ _ _ S2.out.2.1 (by rw [HBE.out]; exact Nat.ne_of_lt HL.out.2.2)⟩) (fun hHeld => ?_)
  clear hK K
  try simp only [Act.put, List.setIfInBounds_toArray, List.set_cons_zero, List.set_cons_succ]
  refine wpAnyH_done (by kernel_rfl) ?_ _
  go_wp2
  obtain ⟨j0, j1, j2, j3⟩ := four S2.out.2.2 rfl (.int .i64 4) (.int .i64 (n : Int)) (.string ⟨#[]⟩) (.int .u64 0)
  have hnb : ∀ x, x < w.heap.size → x ≠ b := fun x hx => by rw [HBE.out]; exact Nat.ne_of_lt hx
  have hbl : ∀ x ∈ h :: (Value.slice A n c).ownBlock.toList, x < w.heap.size := fun x hx => by rw [← HBE.out]; exact NB.out x hx
  have hsz := Nat.le_trans HW.out.size HB1.out.size
  have hF4 : Fr [b] w2 ((((w2.setCell ⟨b, 0, none⟩ (.int .i64 4)).setCell ⟨b, 1, none⟩ (.int .i64 (n : Int))).setCell ⟨b, 2, none⟩ (.string ⟨#[]⟩)).setCell ⟨b, 3, none⟩ (.int .u64 0)) := ((((Fr.refl [b] w2).set _ (.inl (by simp))).set _ (.inl (by simp))).set _ (.inl (by simp))).set _ (.inl (by simp))
  have hgn : g ≠ b ∧ g ∉ fp := by
    rcases HG2.out with e | e
    · have hg := hbl g (by rw [e]; simp)
      exact ⟨hnb g hg, fun hm => by have := (HT.out.base g hm).1; have := HW.out.size; omega⟩
    · have hb1 := blk_lt HR.out
      have := HB1.out.size
      exact ⟨by omega, fun hm => by have := (HT.out.base g hm).2; omega⟩
  refine bodyPost_ret (v := newTabV n) (by unfold newTabV; simp [results, Tryd.results24, go_sem, j0, j1, j2, j3]) rfl ?_
  refine ⟨rfl, g, cap, tb, fp, hF4.blk HH2.out (by simpa using hnb h HL.out.1), hF4.own HO2.out (fun x hx => ?_), ?_, ?_, ?_, hgn.2⟩
  · obtain rfl : g = x := by simpa [Value.ownBlock] using hx
    simpa using hgn.1
  · refine (tabIn_low (HT.out.kept HF2.out fun x hx hm => ?_) HW.out.size).kept hF4 fun x hx hm => ?_
    · have := (HT.out.base x hx).1
      have := hbl x hm
      have := HW.out.size
      omega
    · have h1 := (HT.out.base x hx).1
      have h2 := blk_lt HR.out
      simp at hm
      omega
  · refine (((Fr.of_below HW.out _).trans (Fr.of_below HB1.out (h :: (Value.slice A n c).ownBlock.toList)) (fun x hx => .inl hx)).trans HF2.out (fun x hx => .inl hx)).trans hF4 fun x hx => .inr ?_
    simp at hx
    rw [hx]
    exact Nat.le_of_eq HBE.out.symm
  · rcases HG2.out with e | e
    · exact .inl e
    · exact .inr (Nat.le_trans hsz e)
end Go.Proofs.YtohllalninoomaaDoor
