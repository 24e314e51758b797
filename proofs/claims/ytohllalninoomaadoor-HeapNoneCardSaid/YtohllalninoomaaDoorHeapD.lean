/-
  A heap's charge for something made; a new table.
-/
import Derived.Test.YtohllalninoomaaDoorHeapC
import Derived.Deep.Cut
set_option linter.unusedVariables false
set_option linter.unusedSimpArgs false
namespace Go.Proofs.YtohllalninoomaaDoor
open Go.ChangeShapes Go.WideShapes Go.ChangeAt Go.RowKit

/-- What a charge for something made leaves: Q tells of the making. -/
def PaidOut (h : Nat) (L U n : Int) (tv fv cv : Value) (vs : Array Value) (Q : World → World → Prop) (w : World) (e : Ending) (w' : World) : Prop :=
  (max n 0 > L - U ∧ e = .returned (.tuple #[.agg #[.int .i64 0, .int .i64 0, .string ⟨#[]⟩, .int .u64 0], .bool false]) ∧ Below w.heap.size w w') ∨
  (max n 0 ≤ L - U ∧ e = .returned (.tuple #[.agg vs, .bool true]) ∧ ∃ b w1 w2, w.heap.size ≤ b ∧ b < w1.heap.size ∧ Fr [h] w w1 ∧ w1.heap[h]? = some (.cells #[.int .i64 L, .int .i64 (U + max n 0), tv, fv, cv] 74 (0, 0)) ∧ Q w1 w2 ∧ Fr [b] w2 w')
theorem hmf_ : ∀ (fn : Fn) (first cap : Array Value) (w : World), (Instr.makeFunc fn first cap).run Tryd.prog w = .ok (.func fn first cap) w := fun _ _ _ _ => rfl
theorem fr_sets {w : World} {b : Nat} (v0 v1 v2 v3 : Value) : Fr [b] w ((((w.setCell ⟨b, 0, none⟩ (v0)).setCell ⟨b, 1, none⟩ (v1)).setCell ⟨b, 2, none⟩ (v2)).setCell ⟨b, 3, none⟩ (v3)) := ((((Fr.refl [b] w).set _ (.inl (by simp))).set _ (.inl (by simp))).set _ (.inl (by simp))).set _ (.inl (by simp))
set_option maxRecDepth 100000 in
set_option maxHeartbeats 4000000 in
theorem hpaid_tab {w : World} {h b0 b1 : Nat} {L U : Int} {tv fv cv : Value} (n : Int) (K N : Int) (hh : w.heap[h]? = some (.cells #[.int .i64 L, .int .i64 U, tv, fv, cv] 74 (0, 0))) (h0 : 0 ≤ U) (h1 : U ≤ L) (h2 : L ≤ 9223372036854775807) (hn : n ≤ 9223372036854775807) (Q : World → World → Prop) (S : List Nat) (hS : ∀ x ∈ S, x < w.heap.size)
    (HC : ∀ w1, w1.heap[h]? = some (.cells #[.int .i64 L, .int .i64 (U + max n 0), tv, fv, cv] 74 (0, 0)) → Fr [h] w w1 → Calls Tryd.prog 24 #[.pointer (some ⟨b0, 0, none⟩), .pointer (some ⟨b1, 0, none⟩)] w1 fun e w' => e = .returned (.agg #[.int .i64 K, .int .i64 N, .string ⟨#[]⟩, .int .u64 0]) ∧ Q w1 w' ∧ Fr S w1 w') :
    Calls Tryd.prog 23 #[.pointer (some ⟨h, 0, none⟩), .int .i64 n, .func (.func 24) #[] #[.pointer (some ⟨b0, 0, none⟩), .pointer (some ⟨b1, 0, none⟩)]] w (PaidOut h L U n tv fv cv #[.int .i64 K, .int .i64 N, .string ⟨#[]⟩, .int .u64 0] Q w) := by
  obtain ⟨b, hb⟩ : ∃ b, b = w.heap.size := ⟨_, rfl⟩
  have HBE := Lib.hid hb
  have HX := Lib.hid (And.intro h0 (And.intro h1 (And.intro h2 hn)))
  have H0 := Lib.hid hh
  have HS := Lib.hid hS
  have HCL := Lib.hid HC
  have HL := Lib.hid (blk_lt hh)
  clear hb hh h0 h1 h2 hn hS HC
  go_enter Tryd.func23, Tryd.ntmps23
  go_upto_region 1 with fail
  rw [← HBE.out]
  refine gen_wp fun W hW => ?_
  have HR := Lib.hid (show W.heap[b]? = some (.cells #[.int .i64 0, .int .i64 0, .string ⟨#[]⟩, .int .u64 0] 25 (0, 0)) by rw [← hW, HBE.out]; exact heap_new_at _ _ _ (by first | rfl | simp))
  have HH := Lib.hid (show W.heap[h]? = some (.cells #[.int .i64 L, .int .i64 U, tv, fv, cv] 74 (0, 0)) by rw [← hW]; exact blk_alloc H0.out _)
  have HW := Lib.hid (show Below w.heap.size w W by rw [← hW]; exact (Below.refl _ _).alloc (Nat.le_refl _) _)
  clear hW
  go_wp2_with fail
  refine (hcharge_any n HH.out HX.out.1 HX.out.2.1 HX.out.2.2.1 HX.out.2.2.2).mono ?_
  rintro e w1 (⟨hr, rfl, hb1⟩ | ⟨hr, rfl, hh1, hf1⟩)
  · have HR1 := Lib.hid (below_blk hb1 HR.out)
    have HW1 := Lib.hid (HW.out.trans (hb1.mono HW.out.size))
    have HRR := Lib.hid hr
    clear hb1 hr
    have r0 : w1.cell? ⟨b, 0, none⟩ = some (.int .i64 0) := cell_of_blk HR1.out rfl
    have r1 : w1.cell? ⟨b, 1, none⟩ = some (.int .i64 0) := cell_of_blk HR1.out rfl
    have r2 : w1.cell? ⟨b, 2, none⟩ = some (.string ⟨#[]⟩) := cell_of_blk HR1.out rfl
    have r3 : w1.cell? ⟨b, 3, none⟩ = some (.int .u64 0) := cell_of_blk HR1.out rfl
    have rf0 := free_of_blk (i := 0) HR1.out
    have rf1 := free_of_blk (i := 1) HR1.out
    have rf2 := free_of_blk (i := 2) HR1.out
    have rf3 := free_of_blk (i := 3) HR1.out
    have rl := blk_lt HR1.out
    go_wp2
    obtain ⟨j0, j1, j2, j3⟩ := four HR1.out rfl (.int .i64 0) (.int .i64 0) (.string ⟨#[]⟩) (.int .u64 0)
    refine bodyPost_ret (v := .tuple #[.agg #[.int .i64 0, .int .i64 0, .string ⟨#[]⟩, .int .u64 0], .bool false]) (by simp [results, Tryd.results23, go_sem, j0, j1, j2, j3]) rfl ?_
    exact .inl ⟨HRR.out, rfl, (Below.setCell (p := ⟨b, 3, none⟩) (Below.setCell (p := ⟨b, 2, none⟩) (Below.setCell (p := ⟨b, 1, none⟩) (Below.setCell (p := ⟨b, 0, none⟩) HW1.out (Nat.le_of_eq HBE.out.symm) (.int .i64 0)) (Nat.le_of_eq HBE.out.symm) (.int .i64 0)) (Nat.le_of_eq HBE.out.symm) (.string ⟨#[]⟩)) (Nat.le_of_eq HBE.out.symm) (.int .u64 0))⟩
  · have hF1 : Fr [h] w w1 := (Fr.of_below HW.out [h]).trans hf1 fun x hx => .inl hx
    have hne : b ≠ h := by have := HL.out; have := HBE.out; omega
    have HR1 := Lib.hid (hf1.blk HR.out (by simpa using hne))
    have HH1 := Lib.hid hh1
    have HF1 := Lib.hid hF1
    have HRR := Lib.hid hr
    clear hF1 hf1 hr hh1 hne
    go_wp2_with fail
    refine (HCL.out w1 HH1.out HF1.out).mono ?_
    rintro e w2 ⟨rfl, hq, hf2⟩
    have HR2 := Lib.hid (hf2.blk HR1.out (fun hm => by have := HS.out _ hm; have := HBE.out; omega))
    have HQ := Lib.hid hq
    clear hf2 hq
    have r0 : w2.cell? ⟨b, 0, none⟩ = some (.int .i64 0) := cell_of_blk HR2.out rfl
    have r1 : w2.cell? ⟨b, 1, none⟩ = some (.int .i64 0) := cell_of_blk HR2.out rfl
    have r2 : w2.cell? ⟨b, 2, none⟩ = some (.string ⟨#[]⟩) := cell_of_blk HR2.out rfl
    have r3 : w2.cell? ⟨b, 3, none⟩ = some (.int .u64 0) := cell_of_blk HR2.out rfl
    have rf0 := free_of_blk (i := 0) HR2.out
    have rf1 := free_of_blk (i := 1) HR2.out
    have rf2 := free_of_blk (i := 2) HR2.out
    have rf3 := free_of_blk (i := 3) HR2.out
    have rl := blk_lt HR2.out
    go_wp2
    obtain ⟨j0, j1, j2, j3⟩ := four HR2.out rfl (.int .i64 K) (.int .i64 N) (.string ⟨#[]⟩) (.int .u64 0)
    refine bodyPost_ret (v := .tuple #[.agg #[.int .i64 K, .int .i64 N, .string ⟨#[]⟩, .int .u64 0], .bool true]) (by simp [results, Tryd.results23, go_sem, j0, j1, j2, j3]) rfl ?_
    exact .inr ⟨HRR.out, rfl, b, w1, w2, Nat.le_of_eq HBE.out.symm, blk_lt HR1.out, HF1.out, HH1.out, HQ.out, fr_sets _ _ _ _⟩
end Go.Proofs.YtohllalninoomaaDoor
