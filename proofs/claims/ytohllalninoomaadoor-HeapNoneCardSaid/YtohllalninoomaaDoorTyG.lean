/-
  What is thrown, and caught: types.must, types.guarded.
-/
import Derived.Test.YtohllalninoomaaDoorTyM
import Derived.Defers
import Derived.Recover
set_option linter.unusedVariables false
set_option linter.unusedSimpArgs false
namespace Go.Proofs.YtohllalninoomaaDoor
open Go.ChangeShapes Go.WideShapes Go.ChangeAt Go.RowKit

theorem gen_wpT {P : Program} {Q : Exit → Act → World → Prop} {c : Code} {a : Act} {w : World} (h : ∀ W, w = W → c.wp P Q a W) : c.wp P Q a w := h w rfl
def wrongV (a n : Int) : List PanicEntry := [{ v := .iface 140 (.agg #[.int .i64 a, .int .i64 n]), recovered := false }]
theorem tmust_ok (a : Int) (w : World) : Calls Tryd.prog 69 #[.bool true, .int .i64 a] w fun e w' => e = .returned (.tuple #[]) ∧ w = w' := by
  go_enter Tryd.func69, Tryd.ntmps69
  go_wp2
  go_end0
  exact ⟨rfl, rfl⟩
theorem tmust_no (a : Int) (w : World) : Calls Tryd.prog 69 #[.bool false, .int .i64 a] w fun e w' => e = .panicked (wrongV a 90) ∧ w = w' := by
  go_enter Tryd.func69, Tryd.ntmps69
  go_wp2
  exact ⟨rfl, rfl, rfl⟩
set_option maxRecDepth 100000 in
set_option maxHeartbeats 2000000 in
theorem grec_idle (g : Nat) (w : World) (hg : g + 1 < w.heap.size) :
    CallsD Tryd.prog 80 #[.pointer (some ⟨g, 0, none⟩), .pointer (some ⟨g + 1, 0, none⟩)] .returning w fun e u' w' =>
      e = .returned (.tuple #[]) ∧ u' = .returning ∧ w = w' := by
  refine callsD_of_wpS Tryd.func80 rfl fun c₀ cs hu => ?_
  apply wpS_seq
  apply wpS_region
  simp [wpOpsS, go_sem, recoverD, hu, Tryd.ntmps80, Exit.thenS, Array.replicate, List.replicate]
  refine wpS_of_wp ?_
  go_wp2
  simp [bodyPostS, results, Tryd.results80]
  cases c₀; cases hu; rfl
set_option maxRecDepth 100000 in
set_option maxHeartbeats 2000000 in
theorem grec_panic (g : Nat) (x y a n : Int) (w : World) (h0 : w.heap[g]? = some (.cells #[.int .i64 x] 3 (0, 0))) (h1 : w.heap[g + 1]? = some (.cells #[.int .i64 y] 39 (0, 0))) :
    CallsD Tryd.prog 80 #[.pointer (some ⟨g, 0, none⟩), .pointer (some ⟨g + 1, 0, none⟩)] (.panicking ({ v := .iface 140 (.agg #[.int .i64 a, .int .i64 n]), recovered := false } :: [])) w fun e u' w' =>
      e = .returned (.tuple #[]) ∧ u' = .panicking ({ v := .iface 140 (.agg #[.int .i64 a, .int .i64 n]), recovered := true } :: []) ∧ w'.heap[g]? = some (.cells #[.int .i64 a] 3 (0, 0)) ∧ w'.heap[g + 1]? = some (.cells #[.int .i64 n] 39 (0, 0)) ∧ Fr [g, g + 1] w w' := by
  have hta : ∀ w, (Instr.typeAssert (.iface 140 (.agg #[.int .i64 a, .int .i64 n])) 20 140 true).run Tryd.prog w = .ok (.tuple #[.agg #[.int .i64 a, .int .i64 n], .bool true]) w := fun w => by kernel_rfl
  have H0 := Lib.hid h0
  have H1 := Lib.hid h1
  clear h0 h1
  refine callsD_of_wpS Tryd.func80 rfl fun c₀ cs hu => ?_
  apply wpS_seq
  apply wpS_region
  simp [wpOpsS, go_sem, recoverD, hu, Tryd.ntmps80, Exit.thenS, Array.replicate, List.replicate]
  refine wpS_of_wp ?_
  go_wp2
  refine gen_wpT fun W hW => ?_
  have k0 : W.heap[g]? = some (.cells #[.int .i64 x] 3 (0, 0)) := by rw [← hW]; exact blk_alloc H0.out _
  have k1 : W.heap[g + 1]? = some (.cells #[.int .i64 y] 39 (0, 0)) := by rw [← hW]; exact blk_alloc H1.out _
  have kT : W.heap[w.heap.size]? = some (.cells #[.int .i64 a, .int .i64 n] 140 (0, 0)) := by rw [← hW]; exact heap_new_at _ _ _ rfl
  have kW : Fr [g, g + 1] w W := by rw [← hW]; exact (Fr.refl _ _).alloc _
  clear hW
  have t0 : W.cell? ⟨w.heap.size, 0, none⟩ = some (.int .i64 a) := cell_of_blk kT rfl
  have t1 : W.cell? ⟨w.heap.size, 1, none⟩ = some (.int .i64 n) := cell_of_blk kT rfl
  have v0 : W.cell? ⟨g, 0, none⟩ = some (.int .i64 x) := cell_of_blk k0 rfl
  have v1 : W.cell? ⟨g + 1, 0, none⟩ = some (.int .i64 y) := cell_of_blk k1 rfl
  have f0 : W.frozen? ⟨g, 0, none⟩ = false := free_of_blk k0
  have f1 : W.frozen? ⟨g + 1, 0, none⟩ = false := free_of_blk k1
  have l0 := blk_lt H0.out
  have l1 := blk_lt H1.out
  have hn1 : w.heap.size ≠ g := by omega
  have hn2 : w.heap.size ≠ g + 1 := by omega
  have K0 := Lib.hid k0
  have K1 := Lib.hid k1
  have KW := Lib.hid kW
  clear k0 k1 kT kW
  go_region
  have hR : (((W.setCell ⟨g, 0, none⟩ (.int .i64 a)).setCell ⟨g + 1, 0, none⟩ (.int .i64 n)).drew).heap[g]? = some (.cells #[.int .i64 a] 3 (0, 0)) ∧ (((W.setCell ⟨g, 0, none⟩ (.int .i64 a)).setCell ⟨g + 1, 0, none⟩ (.int .i64 n)).drew).heap[g + 1]? = some (.cells #[.int .i64 n] 39 (0, 0)) ∧ Fr [g, g + 1] w (((W.setCell ⟨g, 0, none⟩ (.int .i64 a)).setCell ⟨g + 1, 0, none⟩ (.int .i64 n)).drew) :=
    ⟨blk_drew (blk_far (blk_set (i := 0) K0.out _) (by simp) _), blk_drew (blk_set (i := 0) (blk_far K1.out (by simp) _) _), ((KW.out.set _ (.inl (by simp))).set _ (.inl (by simp))).drew⟩
  have HR := Lib.hid hR
  clear hR
  change bodyPostS Tryd.prog Tryd.f80 _ _ _ _ _ _ _
  simp [bodyPostS, results, Tryd.results80]
  first | exact HR.out | exact ⟨_, by cases c₀; cases hu; rfl, rfl, HR.out⟩

/-- What guarded leaves, where the thing that was done returned. -/
def GuardOk (P : World → Prop) (g : Nat) (e : Ending) (w' : World) : Prop := e = .returned (.tuple #[.int .i64 0, .int .i64 0]) ∧ ∃ w2, P w2 ∧ Fr [g, g + 1] w2 w'
set_option maxRecDepth 100000 in
set_option maxHeartbeats 2000000 in
theorem guarded_ok (f : Nat) (cap : Array Value) (w : World) (P : World → Prop) (S : List Nat) (hS : ∀ b ∈ S, b < w.heap.size)
    (hdo : ∀ w1, w1 = (w.alloc (.cells #[.int .i64 0] 3)).alloc (.cells #[.int .i64 0] 39) → Calls Tryd.prog f cap w1 fun e w2 => e = .returned (.tuple #[]) ∧ Fr S w1 w2 ∧ P w2)
    (hcall : ∀ W, (callFunc f cap).run Tryd.prog W = .ok (.enter f cap) W) :
    Calls Tryd.prog 72 #[.func (.func f) #[] cap] w (GuardOk P w.heap.size) := by
  have HD := Lib.hid hdo
  clear hdo
  go_enter_defers Tryd.func72, Tryd.ntmps72
  go_wp2_with fail
  refine (HD.out _ rfl).mono ?_
  rintro e w1 ⟨rfl, hf, hp⟩
  have k0 := hf.blk (blk_alloc (heap_new_at w (.cells #[.int .i64 0] 3) _ rfl) (.cells #[.int .i64 0] 39)) (fun h => by have := hS _ h; omega)
  have k1 := hf.blk (heap_new_at (w.alloc (.cells #[.int .i64 0] 3)) (.cells #[.int .i64 0] 39) (w.heap.size + 1) (by simp)) (fun h => by have := hS _ h; omega)
  have f0 := free_of_blk (i := 0) k0
  have f1 := free_of_blk (i := 0) k1
  have v0 := cell_of_blk (i := 0) k0 rfl
  have v1 := cell_of_blk (i := 0) k1 rfl
  have l1 := blk_lt k1
  have K0 := Lib.hid k0
  have K1 := Lib.hid k1
  have HP := Lib.hid hp
  clear k0 k1 hp hf
  go_wp2
  refine leaves_cons (f := 80) (args := #[.pointer (some ⟨w.heap.size, 0, none⟩), .pointer (some ⟨w.heap.size + 1, 0, none⟩)]) (by simp) (by simp [go_sem]) ?_
  refine (grec_idle w.heap.size _ (by simp [World.setCell]; omega)).mono ?_
  rintro e u' w'' ⟨rfl, rfl, rfl⟩
  have j0 := cell_of_blk (i := 0) (blk_far (blk_set (i := 0) K0.out (.int .i64 0)) (a := ⟨w.heap.size + 1, 0, none⟩) (by simp) (.int .i64 0)) rfl
  have j1 := cell_of_blk (i := 0) (blk_set (i := 0) (blk_far K1.out (a := ⟨w.heap.size, 0, none⟩) (by simp) (.int .i64 0)) (.int .i64 0)) rfl
  simp [Leaves, settle, results, Tryd.results72, go_sem, j0, j1]
  exact ⟨rfl, w1, HP.out, ((Fr.refl _ _).set _ (.inl (by simp))).set _ (.inl (by simp))⟩
/-- .. where it threw. -/
def GuardNo (a n : Int) (P : World → Prop) (g : Nat) (e : Ending) (w' : World) : Prop := e = .returned (.tuple #[.int .i64 a, .int .i64 n]) ∧ ∃ w2, P w2 ∧ Fr [g, g + 1] w2 w'
set_option maxRecDepth 100000 in
set_option maxHeartbeats 2000000 in
theorem guarded_no (a n : Int) (f : Nat) (cap : Array Value) (w : World) (P : World → Prop) (S : List Nat) (hS : ∀ b ∈ S, b < w.heap.size)
    (hdo : ∀ w1, w1 = (w.alloc (.cells #[.int .i64 0] 3)).alloc (.cells #[.int .i64 0] 39) → Calls Tryd.prog f cap w1 fun e w2 => e = .panicked (wrongV a n) ∧ Fr S w1 w2 ∧ P w2)
    (hcall : ∀ W, (callFunc f cap).run Tryd.prog W = .ok (.enter f cap) W) :
    Calls Tryd.prog 72 #[.func (.func f) #[] cap] w (GuardNo a n P w.heap.size) := by
  have HD := Lib.hid hdo
  clear hdo
  go_enter_defers Tryd.func72, Tryd.ntmps72
  go_wp2_with fail
  refine (HD.out _ rfl).mono ?_
  rintro e w1 ⟨rfl, hf, hp⟩
  have k0 := hf.blk (blk_alloc (heap_new_at w (.cells #[.int .i64 0] 3) _ rfl) (.cells #[.int .i64 0] 39)) (fun h => by have := hS _ h; omega)
  have k1 := hf.blk (heap_new_at (w.alloc (.cells #[.int .i64 0] 3)) (.cells #[.int .i64 0] 39) (w.heap.size + 1) (by simp)) (fun h => by have := hS _ h; omega)
  have l1 := blk_lt k1
  have K0 := Lib.hid k0
  have K1 := Lib.hid k1
  have HP := Lib.hid hp
  clear k0 k1 hp hf
  unfold wrongV
  go_wp2
  refine leaves_cons (f := 80) (args := #[.pointer (some ⟨w.heap.size, 0, none⟩), .pointer (some ⟨w.heap.size + 1, 0, none⟩)]) (by simp) (by simp [go_sem]) ?_
  refine (grec_panic w.heap.size 0 0 a n _ K0.out K1.out).mono ?_
  rintro e u' w'' ⟨rfl, rfl, h0, h1, hF⟩
  have j0 := cell_of_blk (i := 0) h0 rfl
  have j1 := cell_of_blk (i := 0) h1 rfl
  simp [Leaves, settle, results, Tryd.results72, go_sem, j0, j1]
  exact ⟨rfl, w1, HP.out, hF⟩
end Go.Proofs.YtohllalninoomaaDoor
