/-
  The deferred closure of value.Do, for a frame that returns and for one that panics; value.Do.
-/
import Derived.Test.YthhphjfbdoffhaaValDo
import Derived.Defers
import Derived.Recover
set_option linter.unusedVariables false
set_option linter.unusedSimpArgs false
namespace Go.Proofs.Ythhphjfbdoffhaa
open Go.ChangeShapes Go.WideShapes Go.ChangeAt Go.RowKit

/-- What the deferred closure leaves: the answer's cells with both labels; the reason; below g nothing has turned. -/
def RecPost (g : Nat) (v : VV) (y : ByteArray) (w w' : World) : Prop := w'.heap[g + 2]? = some (.cells (vvCells v) 25 (0, 0)) ∧ w'.heap[g + 3]? = some (.cells #[.string y] 9 (0, 0)) ∧ Below g w w'
theorem vv_set (v : VV) (l : Nat) : (vvCells v).setIfInBounds 3 (.int .u64 (l : Int)) = vvCells { v with label := l } := rfl
set_option maxRecDepth 100000 in
set_option maxHeartbeats 2000000 in
theorem rec_idle (g : Nat) (a b v : VV) (y : ByteArray) (w : World) (ha : w.heap[g]? = some (.cells (vvCells a) 25 (0, 0))) (hb : w.heap[g + 1]? = some (.cells (vvCells b) 25 (0, 0))) (hv : w.heap[g + 2]? = some (.cells (vvCells v) 25 (0, 0))) (hy : w.heap[g + 3]? = some (.cells #[.string y] 9 (0, 0)))
    (la : a.label < 18446744073709551616) (lb : b.label < 18446744073709551616) :
    CallsD Try.prog 45 #[.pointer (some ⟨g + 2, 0, none⟩), .pointer (some ⟨g + 3, 0, none⟩), .pointer (some ⟨g, 0, none⟩), .pointer (some ⟨g + 1, 0, none⟩)] .returning w fun e u' w' =>
      e = .returned (.tuple #[]) ∧ u' = .returning ∧ RecPost g { v with label := a.label ||| b.label } y w w' := by
  have a3 : w.cell? ⟨g, 3, none⟩ = some (.int .u64 (a.label : Int)) := cell_of_blk ha rfl
  have b3 : w.cell? ⟨g + 1, 3, none⟩ = some (.int .u64 (b.label : Int)) := cell_of_blk hb rfl
  have v3 : w.cell? ⟨g + 2, 3, none⟩ = some (.int .u64 (v.label : Int)) := cell_of_blk hv rfl
  have vf : w.frozen? ⟨g + 2, 3, none⟩ = false := free_of_blk hv
  have hlt : g + 3 < w.heap.size := blk_lt hy
  have hlt2 : g + 2 < w.heap.size := by omega
  have hlt1 : g + 1 < w.heap.size := by omega
  have hlt0 : g < w.heap.size := by omega
  have hj := fun n c t w' h => join2_any a.label b.label n c t w' la lb h
  have hnew := heap_alloc_new w (.cells #[.int .u64 (a.label : Int), .int .u64 (b.label : Int)] 23)
  have HV := Lib.hid hv
  have HY := Lib.hid hy
  have HJ := Lib.hid hj
  have HN := Lib.hid hnew
  have LA := Lib.hid la
  have LB := Lib.hid lb
  clear hv hy ha hb hj hnew la lb
  refine callsD_of_wpS Try.func45 rfl fun c₀ cs hu => ?_
  apply wpS_seq
  apply wpS_seq
  apply wpS_region
  simp [wpOpsS, go_sem, recoverD, hu, Try.ntmps45, Exit.thenS, Array.replicate, List.replicate]
  refine wpS_of_wp ?_
  go_wp2
  change Code.wpS _ _ _ _ _ _
  refine wpS_of_wp ?_
  go_wp2_with (go_at_call 46; refine (HJ.out _ _ _ _ HN.out).mono ?_; rintro e w' ⟨rfl, rfl⟩)
  have hR : RecPost g { v with label := a.label ||| b.label } y w ((w.setCell ⟨g + 2, 3, none⟩ (.int .u64 ((a.label ||| b.label : Nat) : Int))).alloc (.cells #[.int .u64 (a.label : Int), .int .u64 (b.label : Int)] 23)) := by
    refine ⟨?_, ?_, ?_⟩
    · have := blk_alloc (blk_set (i := 3) HV.out (.int .u64 ((a.label ||| b.label : Nat) : Int))) (.cells #[.int .u64 (a.label : Int), .int .u64 (b.label : Int)] 23)
      rw [vv_set] at this
      exact this
    · exact blk_alloc (blk_far HY.out (by simp) _) _
    · exact ((Below.refl _ _).setCell (by simp) _).alloc (by simp [World.setCell]; omega) _
  have HR := Lib.hid hR
  clear hR
  simp [bodyPostS, results, Try.results45]
  exact ⟨.returning, by cases c₀; cases hu; rfl, rfl, HR.out⟩

set_option maxRecDepth 100000 in
set_option maxHeartbeats 2000000 in
theorem rec_panic (g : Nat) (a b v : VV) (y s : ByteArray) (w : World) (ha : w.heap[g]? = some (.cells (vvCells a) 25 (0, 0))) (hb : w.heap[g + 1]? = some (.cells (vvCells b) 25 (0, 0))) (hv : w.heap[g + 2]? = some (.cells (vvCells v) 25 (0, 0))) (hy : w.heap[g + 3]? = some (.cells #[.string y] 9 (0, 0)))
    (la : a.label < 18446744073709551616) (lb : b.label < 18446744073709551616) :
    CallsD Try.prog 45 #[.pointer (some ⟨g + 2, 0, none⟩), .pointer (some ⟨g + 3, 0, none⟩), .pointer (some ⟨g, 0, none⟩), .pointer (some ⟨g + 1, 0, none⟩)] (.panicking ({ v := .iface 75 (.agg #[.string s]), recovered := false } :: [])) w fun e u' w' =>
      e = .returned (.tuple #[]) ∧ u' = .panicking ({ v := .iface 75 (.agg #[.string s]), recovered := true } :: []) ∧ RecPost g ⟨0, 0, ByteArray.empty, a.label ||| b.label⟩ s w w' := by
  have a3 : w.cell? ⟨g, 3, none⟩ = some (.int .u64 (a.label : Int)) := cell_of_blk ha rfl
  have b3 : w.cell? ⟨g + 1, 3, none⟩ = some (.int .u64 (b.label : Int)) := cell_of_blk hb rfl
  have v0 : w.cell? ⟨g + 2, 0, none⟩ = some (.int .i64 v.kind) := cell_of_blk hv rfl
  have v1 : w.cell? ⟨g + 2, 1, none⟩ = some (.int .i64 v.n) := cell_of_blk hv rfl
  have v2 : w.cell? ⟨g + 2, 2, none⟩ = some (.string v.s) := cell_of_blk hv rfl
  have v3 : w.cell? ⟨g + 2, 3, none⟩ = some (.int .u64 (v.label : Int)) := cell_of_blk hv rfl
  have y0 : w.cell? ⟨g + 3, 0, none⟩ = some (.string y) := cell_of_blk hy rfl
  have f0 : w.frozen? ⟨g + 2, 0, none⟩ = false := free_of_blk hv
  have f1 : w.frozen? ⟨g + 2, 1, none⟩ = false := free_of_blk hv
  have f2 : w.frozen? ⟨g + 2, 2, none⟩ = false := free_of_blk hv
  have f3 : w.frozen? ⟨g + 2, 3, none⟩ = false := free_of_blk hv
  have fy : w.frozen? ⟨g + 3, 0, none⟩ = false := free_of_blk hy
  have hlt : g + 3 < w.heap.size := blk_lt hy
  have hlt2 : g + 2 < w.heap.size := by omega
  have hlt1 : g + 1 < w.heap.size := by omega
  have hlt0 : g < w.heap.size := by omega
  have hj := fun n c t w' h => join2_any a.label b.label n c t w' la lb h
  have hta : ∀ w, (Instr.typeAssert (.iface 75 (.agg #[.string s])) 20 75 true).run Try.prog w = .ok (.tuple #[.agg #[.string s], .bool true]) w := fun w => by kernel_rfl
  have HA := Lib.hid ha
  have HB := Lib.hid hb
  have HV := Lib.hid hv
  have HY := Lib.hid hy
  have HJ := Lib.hid hj
  have LA := Lib.hid la
  have LB := Lib.hid lb
  clear hv hy ha hb hj la lb
  refine callsD_of_wpS Try.func45 rfl fun c₀ cs hu => ?_
  apply wpS_seq
  apply wpS_seq
  apply wpS_region
  simp [wpOpsS, go_sem, recoverD, hu, Try.ntmps45, Exit.thenS, Array.replicate, List.replicate]
  refine wpS_of_wp ?_
  go_wp2
  refine gen_wp fun W hW => ?_
  have kA : W.heap[g]? = some (.cells (vvCells a) 25 (0, 0)) := by rw [← hW]; exact blk_alloc HA.out _
  have kB : W.heap[g + 1]? = some (.cells (vvCells b) 25 (0, 0)) := by rw [← hW]; exact blk_alloc HB.out _
  have kV : W.heap[g + 2]? = some (.cells (vvCells v) 25 (0, 0)) := by rw [← hW]; exact blk_alloc HV.out _
  have kY : W.heap[g + 3]? = some (.cells #[.string y] 9 (0, 0)) := by rw [← hW]; exact blk_alloc HY.out _
  have kT : W.heap[w.heap.size]? = some (.cells #[.string s] 75 (0, 0)) := by rw [← hW]; exact heap_new_at _ _ _ rfl
  have kW : Below g w W := by rw [← hW]; exact (Below.refl _ _).alloc (by omega) _
  clear hW a3 b3 v0 v1 v2 v3 y0 f0 f1 f2 f3 fy
  have t0 : W.cell? ⟨w.heap.size, 0, none⟩ = some (.string s) := cell_of_blk kT rfl
  have v0 : W.cell? ⟨g + 2, 0, none⟩ = some (.int .i64 v.kind) := cell_of_blk kV rfl
  have v1 : W.cell? ⟨g + 2, 1, none⟩ = some (.int .i64 v.n) := cell_of_blk kV rfl
  have v2 : W.cell? ⟨g + 2, 2, none⟩ = some (.string v.s) := cell_of_blk kV rfl
  have v3 : W.cell? ⟨g + 2, 3, none⟩ = some (.int .u64 (v.label : Int)) := cell_of_blk kV rfl
  have y0 : W.cell? ⟨g + 3, 0, none⟩ = some (.string y) := cell_of_blk kY rfl
  have f0 : W.frozen? ⟨g + 2, 0, none⟩ = false := free_of_blk kV
  have f1 : W.frozen? ⟨g + 2, 1, none⟩ = false := free_of_blk kV
  have f2 : W.frozen? ⟨g + 2, 2, none⟩ = false := free_of_blk kV
  have f3 : W.frozen? ⟨g + 2, 3, none⟩ = false := free_of_blk kV
  have fy : W.frozen? ⟨g + 3, 0, none⟩ = false := free_of_blk kY
  have hn1 : w.heap.size ≠ g + 2 := by omega
  have hn2 : w.heap.size ≠ g + 3 := by omega
  have KA := Lib.hid kA
  have KB := Lib.hid kB
  have KV := Lib.hid kV
  have KY := Lib.hid kY
  have KW := Lib.hid kW
  clear kA kB kV kY kT kW
  go_region
  change Code.wpS _ _ _ _ _ _
  refine wpS_of_wp ?_
  refine gen_wp fun W2 hW2 => ?_
  have mA : W2.heap[g]? = some (.cells (vvCells a) 25 (0, 0)) := by rw [← hW2]; exact blk_drew (blk_far (blk_far (blk_far (blk_far (blk_far KA.out (by simp) _) (by simp) _) (by simp) _) (by simp) _) (by simp) _)
  have mB : W2.heap[g + 1]? = some (.cells (vvCells b) 25 (0, 0)) := by rw [← hW2]; exact blk_drew (blk_far (blk_far (blk_far (blk_far (blk_far KB.out (by simp) _) (by simp) _) (by simp) _) (by simp) _) (by simp) _)
  have mV : W2.heap[g + 2]? = some (.cells (vvCells zeroVV) 25 (0, 0)) := by rw [← hW2]; exact blk_drew (blk_far (blk_set (i := 3) (blk_set (i := 2) (blk_set (i := 1) (blk_set (i := 0) KV.out _) _) _) _) (by simp) _)
  have mY : W2.heap[g + 3]? = some (.cells #[.string s] 9 (0, 0)) := by rw [← hW2]; exact blk_drew (blk_set (i := 0) (blk_far (blk_far (blk_far (blk_far KY.out (by simp) _) (by simp) _) (by simp) _) (by simp) _) _)
  have mW : Below g w W2 := by rw [← hW2]; exact (((((KW.out.setCell (by simp) _).setCell (by simp) _).setCell (by simp) _).setCell (by simp) _).setCell (by simp) _).drew
  clear hW2 v0 v1 v2 v3 y0 f0 f1 f2 f3 fy t0
  have a3 : W2.cell? ⟨g, 3, none⟩ = some (.int .u64 (a.label : Int)) := cell_of_blk mA rfl
  have b3 : W2.cell? ⟨g + 1, 3, none⟩ = some (.int .u64 (b.label : Int)) := cell_of_blk mB rfl
  have v3 : W2.cell? ⟨g + 2, 3, none⟩ = some (.int .u64 ((0 : Nat) : Int)) := cell_of_blk mV rfl
  have vf : W2.frozen? ⟨g + 2, 3, none⟩ = false := free_of_blk mV
  have hlt : g + 3 < W2.heap.size := blk_lt mY
  have hlt2 : g + 2 < W2.heap.size := by omega
  have hlt1 : g + 1 < W2.heap.size := by omega
  have hlt0 : g < W2.heap.size := by omega
  have HN := Lib.hid (heap_alloc_new W2 (.cells #[.int .u64 (a.label : Int), .int .u64 (b.label : Int)] 23))
  have MV := Lib.hid mV
  have MY := Lib.hid mY
  have MW := Lib.hid mW
  clear mV mY mA mB mW
  go_wp2_with (go_at_call 46; refine (HJ.out _ _ _ _ HN.out).mono ?_; rintro e w' ⟨rfl, rfl⟩)
  have hR : RecPost g ⟨0, 0, ByteArray.empty, a.label ||| b.label⟩ s w ((W2.setCell ⟨g + 2, 3, none⟩ (.int .u64 ((a.label ||| b.label : Nat) : Int))).alloc (.cells #[.int .u64 (a.label : Int), .int .u64 (b.label : Int)] 23)) := by
    refine ⟨?_, ?_, ?_⟩
    · have := blk_alloc (blk_set (i := 3) MV.out (.int .u64 ((a.label ||| b.label : Nat) : Int))) (.cells #[.int .u64 (a.label : Int), .int .u64 (b.label : Int)] 23)
      rw [vv_set] at this
      exact this
    · exact blk_alloc (blk_far MY.out (by simp) _) _
    · exact (MW.out.setCell (by simp) _).alloc (by simp [World.setCell]; omega) _
  have HR := Lib.hid hR
  clear hR
  simp [bodyPostS, results, Try.results45]
  first | exact HR.out | exact ⟨_, by cases c₀; cases hu; rfl, rfl, HR.out⟩

theorem ne3 (n : Nat) : n ≠ n + 1 + 1 ∧ n ≠ n + 1 + 1 + 1 := by omega
/-- The answer with both labels, and why not (nothing: an answer). -/
def doV (op : Int) (a b : VV) : VV × ByteArray := match doneS op a b with
  | .ok v => ({ v with label := a.label ||| b.label }, ByteArray.empty)
  | .error s => (⟨0, 0, ByteArray.empty, a.label ||| b.label⟩, s)
set_option maxRecDepth 100000 in
set_option maxHeartbeats 4000000 in
theorem vdo_any (op : Int) (a b : VV) (w : World) (ha : -9223372036854775808 ≤ a.n ∧ a.n ≤ 9223372036854775807) (hb : -9223372036854775808 ≤ b.n ∧ b.n ≤ 9223372036854775807) (hsz : a.s.size + b.s.size ≤ 1000000)
    (la : a.label < 18446744073709551616) (lb : b.label < 18446744073709551616) :
    Calls Try.prog 15 #[.int .i64 op, .agg (vvCells a), .agg (vvCells b)] w (RetB (.tuple #[.agg (vvCells (doV op a b).1), .string (doV op a b).2]) w) := by
  have hmf : ∀ (fn : Fn) (first cap : Array Value) (w : World), (Instr.makeFunc fn first cap).run Try.prog w = .ok (.func fn first cap) w := fun _ _ _ _ => rfl
  have hd := fun w => done_any op a b w ha hb hsz
  unfold doV
  cases hr : doneS op a b with
  | ok v =>
    rw [hr] at hd
    have HD := Lib.hid hd
    clear hd ha hb hsz hr
    go_enter_defers Try.func15, Try.ntmps15
    unfold vvCells at HD ⊢
    go_wp2_with fail
    refine (HD.out _).mono ?_
    rintro e w1 ⟨he, hb1⟩
    obtain rfl : e = .returned (.agg (vvCells v)) := he
    have mA := below_blk hb1 (blk_alloc (blk_alloc (blk_alloc (heap_new_at w (.cells #[.int .i64 a.kind, .int .i64 a.n, .string a.s, .int .u64 (a.label : Int)] 25) _ rfl) (.cells #[.int .i64 b.kind, .int .i64 b.n, .string b.s, .int .u64 (b.label : Int)] 25)) (.cells #[.int .i64 0, .int .i64 0, .string ByteArray.empty, .int .u64 0] 25)) (.cells #[.string ByteArray.empty] 9))
    have mB := below_blk hb1 (blk_alloc (blk_alloc (heap_new_at (w.alloc (.cells #[.int .i64 a.kind, .int .i64 a.n, .string a.s, .int .u64 (a.label : Int)] 25)) (.cells #[.int .i64 b.kind, .int .i64 b.n, .string b.s, .int .u64 (b.label : Int)] 25) (w.heap.size + 1) (by simp)) (.cells #[.int .i64 0, .int .i64 0, .string ByteArray.empty, .int .u64 0] 25)) (.cells #[.string ByteArray.empty] 9))
    have mV := below_blk hb1 (blk_alloc (heap_new_at ((w.alloc (.cells #[.int .i64 a.kind, .int .i64 a.n, .string a.s, .int .u64 (a.label : Int)] 25)).alloc (.cells #[.int .i64 b.kind, .int .i64 b.n, .string b.s, .int .u64 (b.label : Int)] 25)) (.cells #[.int .i64 0, .int .i64 0, .string ByteArray.empty, .int .u64 0] 25) (w.heap.size + 2) (by simp)) (.cells #[.string ByteArray.empty] 9))
    have mY := below_blk hb1 (heap_new_at (((w.alloc (.cells #[.int .i64 a.kind, .int .i64 a.n, .string a.s, .int .u64 (a.label : Int)] 25)).alloc (.cells #[.int .i64 b.kind, .int .i64 b.n, .string b.s, .int .u64 (b.label : Int)] 25)).alloc (.cells #[.int .i64 0, .int .i64 0, .string ByteArray.empty, .int .u64 0] 25)) (.cells #[.string ByteArray.empty] 9) (w.heap.size + 3) (by simp))
    have mW : Below w.heap.size w w1 := ((((Below.refl _ _).alloc (Nat.le_refl _) _).alloc (by simp) _).alloc (by simp; omega) _).alloc (by simp; omega) _ |>.trans (hb1.mono (by simp; omega))
    clear hb1
    have v0 := cell_of_blk (i := 0) mV rfl
    have v1 := cell_of_blk (i := 1) mV rfl
    have v2 := cell_of_blk (i := 2) mV rfl
    have v3 := cell_of_blk (i := 3) mV rfl
    have y0 := cell_of_blk (i := 0) mY rfl
    have f0 := free_of_blk (i := 0) mV
    have f1 := free_of_blk (i := 1) mV
    have f2 := free_of_blk (i := 2) mV
    have f3 := free_of_blk (i := 3) mV
    have fy := free_of_blk (i := 0) mY
    have MA := Lib.hid mA
    have MB := Lib.hid mB
    have MV := Lib.hid mV
    have MY := Lib.hid mY
    have MW := Lib.hid mW
    clear mA mB mV mY mW
    unfold vvCells
    go_wp2
    refine leaves_cons (f := 45) (args := #[.pointer (some ⟨w.heap.size + 2, 0, none⟩), .pointer (some ⟨w.heap.size + 3, 0, none⟩), .pointer (some ⟨w.heap.size, 0, none⟩), .pointer (some ⟨w.heap.size + 1, 0, none⟩)]) (by simp) (by simp [go_sem]) ?_
    refine (rec_idle w.heap.size a b v ByteArray.empty _ ?_ ?_ ?_ ?_ la lb).mono ?_
    · exact blk_far (blk_far (blk_far (blk_far (blk_far MA.out (ne3 _).1 _) (ne3 _).1 _) (ne3 _).1 _) (ne3 _).1 _) (ne3 _).2 _
    · exact blk_far (blk_far (blk_far (blk_far (blk_far MB.out (by simp) _) (by simp) _) (by simp) _) (by simp) _) (by simp) _
    · exact blk_far (blk_set (i := 3) (blk_set (i := 2) (blk_set (i := 1) (blk_set (i := 0) MV.out _) _) _) _) (by simp) _
    · exact blk_set (i := 0) (blk_far (blk_far (blk_far (blk_far MY.out (by simp) _) (by simp) _) (by simp) _) (by simp) _) _
    rintro e u' w'' ⟨rfl, rfl, hV, hY, hB⟩
    have c0 := cell_of_blk (i := 0) hV rfl
    have c1 := cell_of_blk (i := 1) hV rfl
    have c2 := cell_of_blk (i := 2) hV rfl
    have c3 := cell_of_blk (i := 3) hV rfl
    have d0 := cell_of_blk (i := 0) hY rfl
    have hfin : Below w.heap.size w w'' := (((((MW.out.setCell (by simp; omega) _).setCell (by simp; omega) _).setCell (by simp; omega) _).setCell (by simp; omega) _).setCell (by simp; omega) _).trans hB
    simp [Leaves, settle, results, Try.results15, go_sem, c0, c1, c2, c3, d0]
    exact ⟨rfl, hfin⟩
  | error s =>
    rw [hr] at hd
    have HD := Lib.hid hd
    clear hd ha hb hsz hr
    go_enter_defers Try.func15, Try.ntmps15
    unfold vvCells at HD ⊢
    go_wp2_with fail
    refine (HD.out _).mono ?_
    rintro e w1 ⟨he, hb1⟩
    obtain rfl : e = .panicked (troubleV s) := he
    have mA := below_blk hb1 (blk_alloc (blk_alloc (blk_alloc (heap_new_at w (.cells #[.int .i64 a.kind, .int .i64 a.n, .string a.s, .int .u64 (a.label : Int)] 25) _ rfl) (.cells #[.int .i64 b.kind, .int .i64 b.n, .string b.s, .int .u64 (b.label : Int)] 25)) (.cells #[.int .i64 0, .int .i64 0, .string ByteArray.empty, .int .u64 0] 25)) (.cells #[.string ByteArray.empty] 9))
    have mB := below_blk hb1 (blk_alloc (blk_alloc (heap_new_at (w.alloc (.cells #[.int .i64 a.kind, .int .i64 a.n, .string a.s, .int .u64 (a.label : Int)] 25)) (.cells #[.int .i64 b.kind, .int .i64 b.n, .string b.s, .int .u64 (b.label : Int)] 25) (w.heap.size + 1) (by simp)) (.cells #[.int .i64 0, .int .i64 0, .string ByteArray.empty, .int .u64 0] 25)) (.cells #[.string ByteArray.empty] 9))
    have mV := below_blk hb1 (blk_alloc (heap_new_at ((w.alloc (.cells #[.int .i64 a.kind, .int .i64 a.n, .string a.s, .int .u64 (a.label : Int)] 25)).alloc (.cells #[.int .i64 b.kind, .int .i64 b.n, .string b.s, .int .u64 (b.label : Int)] 25)) (.cells #[.int .i64 0, .int .i64 0, .string ByteArray.empty, .int .u64 0] 25) (w.heap.size + 2) (by simp)) (.cells #[.string ByteArray.empty] 9))
    have mY := below_blk hb1 (heap_new_at (((w.alloc (.cells #[.int .i64 a.kind, .int .i64 a.n, .string a.s, .int .u64 (a.label : Int)] 25)).alloc (.cells #[.int .i64 b.kind, .int .i64 b.n, .string b.s, .int .u64 (b.label : Int)] 25)).alloc (.cells #[.int .i64 0, .int .i64 0, .string ByteArray.empty, .int .u64 0] 25)) (.cells #[.string ByteArray.empty] 9) (w.heap.size + 3) (by simp))
    have mW : Below w.heap.size w w1 := ((((Below.refl _ _).alloc (Nat.le_refl _) _).alloc (by simp) _).alloc (by simp; omega) _).alloc (by simp; omega) _ |>.trans (hb1.mono (by simp; omega))
    clear hb1
    have v0 := cell_of_blk (i := 0) mV rfl
    have v1 := cell_of_blk (i := 1) mV rfl
    have v2 := cell_of_blk (i := 2) mV rfl
    have v3 := cell_of_blk (i := 3) mV rfl
    have y0 := cell_of_blk (i := 0) mY rfl
    have f0 := free_of_blk (i := 0) mV
    have f1 := free_of_blk (i := 1) mV
    have f2 := free_of_blk (i := 2) mV
    have f3 := free_of_blk (i := 3) mV
    have fy := free_of_blk (i := 0) mY
    have MA := Lib.hid mA
    have MB := Lib.hid mB
    have MV := Lib.hid mV
    have MY := Lib.hid mY
    have MW := Lib.hid mW
    clear mA mB mV mY mW
    unfold troubleV
    go_wp2
    refine leaves_cons (f := 45) (args := #[.pointer (some ⟨w.heap.size + 2, 0, none⟩), .pointer (some ⟨w.heap.size + 3, 0, none⟩), .pointer (some ⟨w.heap.size, 0, none⟩), .pointer (some ⟨w.heap.size + 1, 0, none⟩)]) (by simp) (by simp [go_sem]) ?_
    refine (rec_panic w.heap.size a b zeroVV ByteArray.empty s _ MA.out MB.out MV.out MY.out la lb).mono ?_
    rintro e u' w'' ⟨rfl, rfl, hV, hY, hB⟩
    have c0 := cell_of_blk (i := 0) hV rfl
    have c1 := cell_of_blk (i := 1) hV rfl
    have c2 := cell_of_blk (i := 2) hV rfl
    have c3 := cell_of_blk (i := 3) hV rfl
    have d0 := cell_of_blk (i := 0) hY rfl
    have hfin : Below w.heap.size w w'' := MW.out.trans hB
    simp [Leaves, settle, results, Try.results15, go_sem, c0, c1, c2, c3, d0]
    exact ⟨rfl, hfin⟩
end Go.Proofs.Ythhphjfbdoffhaa
