/-
  A new table on a heap.
-/
import Derived.Test.YtohllalninoomaaDoorHeapD
set_option linter.unusedVariables false
set_option linter.unusedSimpArgs false
namespace Go.Proofs.YtohllalninoomaaDoor
open Go.ChangeShapes Go.WideShapes Go.ChangeAt Go.RowKit

theorem tabMade_wrap {B h : Nat} {L U : Int} {fv cv : Value} {A : Option Addr} {n c : Nat} {xs : List Value} {l : Nat} {w w1 w2 w' : World} {R : List Nat} (hm : TabMade B h L U fv cv A n c xs l w1 w2) (hF : Fr [h] w w1) (hF2 : Fr R w2 w')
    (hR : ∀ x ∈ R, w.heap.size ≤ x ∧ x < w1.heap.size) (hh : h < w.heap.size) (ho : ∀ g, (Value.slice A n c).ownBlock = some g → g < w.heap.size) : TabMade B h L U fv cv A n c xs l w w' := by
  obtain ⟨g, cap, tb, fp, h1, h2, h3, h4, h5, h6⟩ := hm
  have hg : g ∉ R := fun hm => by
    have hr := hR g hm
    rcases h5 with e | e
    · have := ho g e; omega
    · omega
  refine ⟨g, cap, tb, fp, hF2.blk h1 (fun hm => ?_), hF2.own h2 (fun x hx => ?_), (tabIn_low h3 hF.size).kept hF2 (fun x hx hm => ?_), ?_, ?_, h6⟩
  · have := (hR h hm).1; omega
  · obtain rfl : g = x := by simpa [Value.ownBlock] using hx
    exact hg
  · have := (h3.base x hx).1
    have := (hR x hm).2
    omega
  · exact (((hF.more (S' := h :: (Value.slice A n c).ownBlock.toList) (fun x hx => .inl (by simp at hx; simp [hx]))).trans h4 (fun x hx => .inl hx))).trans hF2 fun x hx => .inr (hR x hx).1
  · exact h5.imp id fun e => Nat.le_trans hF.size e
def TableOut (B h : Nat) (L U : Int) (fv cv : Value) (A : Option Addr) (n c : Nat) (xs : List Value) (l : Nat) (w : World) (e : Ending) (w' : World) : Prop :=
  (1 > L - U ∧ e = .returned (.tuple #[.agg #[.int .i64 0, .int .i64 0, .string ⟨#[]⟩, .int .u64 0], .bool false]) ∧ Below w.heap.size w w') ∨ (1 ≤ L - U ∧ e = .returned (.tuple #[newTabV n, .bool true]) ∧ TabMade B h L (U + 1) fv cv A n c xs l w w')
set_option maxRecDepth 100000 in
set_option maxHeartbeats 4000000 in
theorem htable_any {w : World} {B h : Nat} {L U : Int} {fv cv : Value} {A : Option Addr} {n c : Nat} {xs : List Value} (l : Nat) (hh : w.heap[h]? = some (.cells #[.int .i64 L, .int .i64 U, .slice A n c, fv, cv] 74 (0, 0))) (ho : w.ownsRow B 53 1 (.slice A n c) n xs) (hx : xs.length = n) (hn : n ≤ 1000000) (hB : B ≤ w.heap.size) (h0 : 0 ≤ U) (h1 : U ≤ L) (h2 : L ≤ 9223372036854775807) :
    Calls Tryd.prog 6 #[.pointer (some ⟨h, 0, none⟩), .int .u64 (l : Int)] w (TableOut B h L U fv cv A n c xs l w) := by
  have hmf := hmf_
  obtain ⟨b0, hb0⟩ : ∃ b, b = w.heap.size := ⟨_, rfl⟩
  obtain ⟨b1, hb1⟩ : ∃ b, b = w.heap.size + 1 := ⟨_, rfl⟩
  obtain ⟨b2, hb2⟩ : ∃ b, b = w.heap.size + 1 + 1 := ⟨_, rfl⟩
  have HE0 := Lib.hid hb0
  have HE1 := Lib.hid hb1
  have HE2 := Lib.hid hb2
  have HX := Lib.hid (And.intro h0 (And.intro h1 h2))
  have HY := Lib.hid (And.intro hx (And.intro hn hB))
  have HL := Lib.hid (blk_lt hh)
  have GL := Lib.hid (fun g (hg : (Value.slice A n c).ownBlock = some g) => (hp_own_lt ho hg).2)
  have H0 := Lib.hid hh
  have O0 := Lib.hid ho
  clear hb0 hb1 hb2 hh ho hx hn hB h0 h1 h2
  go_enter Tryd.func6, Tryd.ntmps6
  go_upto_region 1 with fail
  rw [← HE2.out, ← HE1.out, ← HE0.out]
  refine gen_wp fun W hW => ?_
  have HK0 := Lib.hid (show W.heap[b0]? = some (.cells #[.pointer (some ⟨h, 0, none⟩)] 36 (0, 0)) by rw [← hW, HE0.out]; exact blk_alloc (blk_alloc (heap_new_at _ _ _ (by first | rfl | simp)) _) _)
  have HK1 := Lib.hid (show W.heap[b1]? = some (.cells #[.int .u64 (l : Int)] 23 (0, 0)) by rw [← hW, HE1.out]; exact blk_alloc (heap_new_at _ _ _ (by first | rfl | simp)) _)
  have HR := Lib.hid (show W.heap[b2]? = some (.cells #[.int .i64 0, .int .i64 0, .string ⟨#[]⟩, .int .u64 0] 25 (0, 0)) by rw [← hW, HE2.out]; exact heap_new_at _ _ _ (by first | rfl | simp))
  have HH := Lib.hid (show W.heap[h]? = some (.cells #[.int .i64 L, .int .i64 U, .slice A n c, fv, cv] 74 (0, 0)) by rw [← hW]; exact blk_alloc (blk_alloc (blk_alloc H0.out _) _) _)
  have HO := Lib.hid (show W.ownsRow B 53 1 (.slice A n c) n xs by rw [← hW]; exact ((O0.out.alloc _).alloc _).alloc _)
  have HW := Lib.hid (show Below w.heap.size w W by rw [← hW]; exact (((Below.refl _ _).alloc (Nat.le_refl _) _).alloc (by simp) _).alloc (by simp; omega) _)
  have HLW := Lib.hid (show W.heap.size = w.heap.size + 3 by rw [← hW]; simp)
  clear hW
  have s0 : W.cell? ⟨b0, 0, none⟩ = some (.pointer (some ⟨h, 0, none⟩)) := cell_of_blk HK0.out rfl
  have sf0 := free_of_blk (i := 0) HK0.out
  have sl := blk_lt HK0.out
  have r0 : W.cell? ⟨b2, 0, none⟩ = some (.int .i64 0) := cell_of_blk HR.out rfl
  have r1 : W.cell? ⟨b2, 1, none⟩ = some (.int .i64 0) := cell_of_blk HR.out rfl
  have r2 : W.cell? ⟨b2, 2, none⟩ = some (.string ⟨#[]⟩) := cell_of_blk HR.out rfl
  have r3 : W.cell? ⟨b2, 3, none⟩ = some (.int .u64 0) := cell_of_blk HR.out rfl
  have rf0 := free_of_blk (i := 0) HR.out
  have rf1 := free_of_blk (i := 1) HR.out
  have rf2 := free_of_blk (i := 2) HR.out
  have rf3 := free_of_blk (i := 3) HR.out
  have rl := blk_lt HR.out
  have GLW := Lib.hid (show ∀ x ∈ h :: (Value.slice A n c).ownBlock.toList, x < W.heap.size from fun x hx => by
    have := HW.out.size
    rcases List.mem_cons.1 hx with rfl | hx
    · have := HL.out; omega
    · have := GL.out x (by simpa using hx); omega)
  have HC := Lib.hid (hpaid_tab (b0 := b0) (b1 := b1) 1 4 (n : Int) HH.out HX.out.1 HX.out.2.1 HX.out.2.2 (by omega) (fun w1 w2 => TabMade B h L (U + max 1 0) fv cv A n c xs l w1 w2) (h :: (Value.slice A n c).ownBlock.toList) GLW.out fun w1 hh1 hf1 => by
    have hne0 : b0 ∉ [h] := by have := HL.out; have := HE0.out; simp; omega
    have hne1 : b1 ∉ [h] := by have := HL.out; have := HE1.out; simp; omega
    have ho1 := hf1.own HO.out fun g hg => by simpa using (Ne.symm (fun e => own_blk_ne HO.out HH.out (by decide) (by rw [hg, e])) : g ≠ h)
    refine (tab1_any l hh1 ho1 HY.out.1 HY.out.2.1 (Nat.le_trans HY.out.2.2 (Nat.le_trans HW.out.size hf1.size)) (hf1.blk HK0.out hne0) (hf1.blk HK1.out hne1)).mono ?_
    rintro e w2 ⟨he, hm⟩
    refine ⟨he, hm, ?_⟩
    obtain ⟨_, _, _, _, _, _, _, hfr, _⟩ := hm
    exact hfr)
  go_wp2_with fail
  refine HC.out.mono ?_
  rintro e w1 (⟨hr, rfl, hb1⟩ | ⟨hr, rfl, b, v1, v2, hb1, hb2, hf1, hh1, hq, hf2⟩)
  · have HR1 := Lib.hid (below_blk hb1 HR.out)
    have HW1 := Lib.hid (HW.out.trans (hb1.mono HW.out.size))
    have HRR := Lib.hid hr
    clear hb1 hr
    have r0 : w1.cell? ⟨b2, 0, none⟩ = some (.int .i64 0) := cell_of_blk HR1.out rfl
    have r1 : w1.cell? ⟨b2, 1, none⟩ = some (.int .i64 0) := cell_of_blk HR1.out rfl
    have r2 : w1.cell? ⟨b2, 2, none⟩ = some (.string ⟨#[]⟩) := cell_of_blk HR1.out rfl
    have r3 : w1.cell? ⟨b2, 3, none⟩ = some (.int .u64 0) := cell_of_blk HR1.out rfl
    have rf0 := free_of_blk (i := 0) HR1.out
    have rf1 := free_of_blk (i := 1) HR1.out
    have rf2 := free_of_blk (i := 2) HR1.out
    have rf3 := free_of_blk (i := 3) HR1.out
    have rl := blk_lt HR1.out
    go_wp2
    obtain ⟨j0, j1, j2, j3⟩ := four HR1.out rfl (.int .i64 0) (.int .i64 0) (.string ⟨#[]⟩) (.int .u64 0)
    refine bodyPost_ret (v := .tuple #[.agg #[.int .i64 0, .int .i64 0, .string ⟨#[]⟩, .int .u64 0], .bool false]) (by simp [results, Tryd.results6, go_sem, j0, j1, j2, j3]) rfl ?_
    exact .inl ⟨by have := HRR.out; omega, rfl, (Below.setCell (p := ⟨b2, 3, none⟩) (Below.setCell (p := ⟨b2, 2, none⟩) (Below.setCell (p := ⟨b2, 1, none⟩) (Below.setCell (p := ⟨b2, 0, none⟩) HW1.out (show w.heap.size ≤ b2 by have := HE2.out; omega) (.int .i64 0)) (show w.heap.size ≤ b2 by have := HE2.out; omega) (.int .i64 0)) (show w.heap.size ≤ b2 by have := HE2.out; omega) (.string ⟨#[]⟩)) (show w.heap.size ≤ b2 by have := HE2.out; omega) (.int .u64 0))⟩
  · have hbn : b2 < b := by have := HE2.out; have := HLW.out; omega
    obtain ⟨g, cap, tb, fp, _, _, _, hfr, _⟩ := id hq
    have HR1 := Lib.hid (hf2.blk (hfr.blk (hf1.blk HR.out (by have := HL.out; have := HE2.out; simp; omega)) (fun hm => by
      have h3 : b2 < w.heap.size := by
        rcases List.mem_cons.1 hm with rfl | hm
        · exact HL.out
        · exact GL.out b2 (by simpa using hm)
      have := HE2.out
      omega)) (by simp; omega))
    have HB := Lib.hid (And.intro hb1 hb2)
    have HQ := Lib.hid hq
    have HF1 := Lib.hid hf1
    have HF2 := Lib.hid hf2
    have HRR := Lib.hid hr
    clear hb1 hb2 hq hf1 hf2 hr hh1 hfr hbn
    have r0 : w1.cell? ⟨b2, 0, none⟩ = some (.int .i64 0) := cell_of_blk HR1.out rfl
    have r1 : w1.cell? ⟨b2, 1, none⟩ = some (.int .i64 0) := cell_of_blk HR1.out rfl
    have r2 : w1.cell? ⟨b2, 2, none⟩ = some (.string ⟨#[]⟩) := cell_of_blk HR1.out rfl
    have r3 : w1.cell? ⟨b2, 3, none⟩ = some (.int .u64 0) := cell_of_blk HR1.out rfl
    have rf0 := free_of_blk (i := 0) HR1.out
    have rf1 := free_of_blk (i := 1) HR1.out
    have rf2 := free_of_blk (i := 2) HR1.out
    have rf3 := free_of_blk (i := 3) HR1.out
    have rl := blk_lt HR1.out
    go_wp2
    obtain ⟨j0, j1, j2, j3⟩ := four HR1.out rfl (.int .i64 4) (.int .i64 (n : Int)) (.string ⟨#[]⟩) (.int .u64 0)
    refine bodyPost_ret (v := .tuple #[newTabV n, .bool true]) (by unfold newTabV; simp [results, Tryd.results6, go_sem, j0, j1, j2, j3]) rfl ?_
    refine .inr ⟨by have := HRR.out; omega, rfl, ?_⟩
    refine tabMade_wrap (R := [b, b2]) HQ.out ((Fr.of_below HW.out [h]).trans HF1.out fun x hx => .inl hx) (((HF2.out.more (S' := [b, b2]) (fun x hx => .inl (by simp at hx; simp [hx])))).trans (fr_sets _ _ _ _) fun x hx => .inl (by simp at hx; simp [hx])) ?_ HL.out GL.out
    intro x hx
    have h4 := HF1.out.size
    have h5 := HLW.out
    have h6 := HE2.out
    have h7 := HB.out
    simp at hx
    rcases hx with rfl | rfl
    · exact ⟨by omega, h7.2⟩
    · exact ⟨by omega, by omega⟩
end Go.Proofs.YtohllalninoomaaDoor
