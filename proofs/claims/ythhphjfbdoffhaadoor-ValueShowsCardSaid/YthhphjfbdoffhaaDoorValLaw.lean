/-
  Chapter 3's statements: the examples they begin with, and small.
-/
import Derived.Test.YthhphjfbdoffhaaDoorValNot
set_option linter.unusedVariables false
set_option linter.unusedSimpArgs false
namespace Go.Proofs.YthhphjfbdoffhaaDoor
open Go.ChangeShapes Go.WideShapes Go.ChangeAt Go.RowKit

theorem aw_e1 : doV 1 ⟨2, 2, ByteArray.empty, 1⟩ ⟨2, 3, ByteArray.empty, 2⟩ = (⟨2, 5, ByteArray.empty, 3⟩, ByteArray.empty) := by simp [doV, doneS, bothK, doS, wrap64]
theorem aw_e2 : doV 6 ⟨3, 0, ⟨#[97]⟩, 0⟩ ⟨3, 0, ⟨#[97, 98]⟩, 0⟩ = (⟨1, 1, ByteArray.empty, 0⟩, ByteArray.empty) := by simp [doV, doneS, bothK, flagV, ByteArray.toList_eq, Op.bytesLess]
theorem aw_1 (w : World) : Calls Tryd.prog 10 #[.int .i64 1, .agg #[.int .i64 2, .int .i64 2, .string ⟨#[]⟩, .int .u64 1], .agg #[.int .i64 2, .int .i64 3, .string ⟨#[]⟩, .int .u64 2]] w (RetB (.tuple #[.agg #[.int .i64 2, .int .i64 5, .string ⟨#[]⟩, .int .u64 3], .string ⟨#[]⟩]) w) := by
  have := vdo_any 1 ⟨2, 2, ByteArray.empty, 1⟩ ⟨2, 3, ByteArray.empty, 2⟩ w (by decide) (by decide) (by simp) (by decide) (by decide)
  rw [aw_e1] at this
  exact this
theorem aw_2 (w : World) : Calls Tryd.prog 10 #[.int .i64 6, .agg #[.int .i64 3, .int .i64 0, .string ⟨#[97]⟩, .int .u64 0], .agg #[.int .i64 3, .int .i64 0, .string ⟨#[97, 98]⟩, .int .u64 0]] w (RetB (.tuple #[.agg #[.int .i64 1, .int .i64 1, .string ⟨#[]⟩, .int .u64 0], .string ⟨#[]⟩]) w) := by
  have := vdo_any 6 ⟨3, 0, ⟨#[97]⟩, 0⟩ ⟨3, 0, ⟨#[97, 98]⟩, 0⟩ w (by decide) (by decide) (by decide) (by decide) (by decide)
  rw [aw_e2] at this
  exact this
theorem aw_q (w : World) : (Op.equalIn 10000 25 (.agg #[.int .i64 2, .int .i64 5, .string ⟨#[]⟩, .int .u64 3]) (.agg #[.int .i64 2, .int .i64 5, .string ⟨#[]⟩, .int .u64 3])).run Tryd.prog w = .ok true w := by
  have := val_eq ⟨2, 5, ByteArray.empty, 3⟩ ⟨2, 5, ByteArray.empty, 3⟩ w
  rw [show eqV ⟨2, 5, ByteArray.empty, 3⟩ ⟨2, 5, ByteArray.empty, 3⟩ = true from by simp [eqV]] at this
  exact this
set_option maxRecDepth 100000 in
theorem awake03 (w : World) : Calls Tryd.prog 4 #[] w (RetB (.bool true) w) := by
  have heq := aw_q
  go_enter Tryd.func4, Tryd.ntmps4
  go_wp2_with (go_at_call 10; first | ((with_reducible refine (aw_1 _).mono ?_); rintro e w1 ⟨rfl, hb1⟩) | ((with_reducible refine (aw_2 _).mono ?_); rintro e w2 ⟨rfl, hb2⟩; have hk := below_blk hb2 (heap_alloc_new _ _); have c0 : w2.cell? ⟨w1.heap.size, 0, none⟩ = some (.int .i64 2) := cell_of_blk hk rfl; have c1 : w2.cell? ⟨w1.heap.size, 1, none⟩ = some (.int .i64 5) := cell_of_blk hk rfl; have c2 : w2.cell? ⟨w1.heap.size, 2, none⟩ = some (.string ⟨#[]⟩) := cell_of_blk hk rfl; have c3 : w2.cell? ⟨w1.heap.size, 3, none⟩ = some (.int .u64 3) := cell_of_blk hk rfl; have hlk := blk_lt hk))
  go_ret
  exact ⟨rfl, ((hb1.alloc hb1.size _).trans (hb2.mono (by have := hb1.size; simp; omega))).alloc (by have := hb1.size; have := hb2.size; simp at *; omega) _⟩
def smallV (xs : List VV) : Bool := xs.all fun v => decide (v.s.size ≤ 1000)
def vvEnc (v : VV) : List Value := [.int .i64 v.kind, .int .i64 v.n, .string v.s, .int .u64 (v.label : Int)]
set_option maxRecDepth 100000 in
set_option maxHeartbeats 2000000 in
theorem small_any (xs : List VV) (A : Option Addr) (c : Nat) (w : World) (hr : Reads w w.heap.size A (xs.flatMap vvEnc)) (hn : xs.length ≤ 9223372036854775807) :
    Calls Tryd.prog 5 #[.slice A xs.length c] w (RetB (.bool (smallV xs)) w) := by
  have hyes : (∀ x ∈ xs, x.s.size ≤ 1000) → smallV xs = true := fun h => by simpa [smallV] using h
  have hno : ∀ x, x ∈ xs → 1000 < x.s.size → smallV xs = false := fun x hx h => by
    have := hyes
    cases he : smallV xs
    · rfl
    · have h2 := (by simpa [smallV] using he : ∀ x ∈ xs, x.s.size ≤ 1000) x hx
      omega
  generalize smallV xs = R at hyes hno ⊢
  have HY := Lib.hid hyes
  have HO := Lib.hid hno
  clear hyes hno
  go_enter Tryd.func5, Tryd.ntmps5
  go_wp2
  go_loopw [7] (fun i wr => ∃ (k : Nat), k ≤ xs.length ∧ i = .int .i64 k ∧ (∀ x ∈ xs.take k, x.s.size ≤ 1000) ∧ Below w.heap.size w wr) (fun i _ => xs.length - (intOf i).toNat)
  case atStart => exact ⟨0, by omega, rfl, by simp, Below.refl _ _⟩
  case round =>
    obtain ⟨k, hk, rfl, hpre, hB⟩ := hrel
    have HP := Lib.hid hpre
    clear hpre
    by_cases hlt : k < xs.length
    · have hsr := hr.below hB
      obtain ⟨x, hx⟩ : ∃ x, xs[k]? = some x := ⟨_, List.getElem?_eq_getElem hlt⟩
      obtain ⟨ad, rfl, hadb, hcell⟩ := hsr.at (flatMap_ne (K := 4) (fun a => rfl) (by omega) hx)
      have hc0 := elem_zero (K := 4) (fun a => rfl) hcell hx (by omega) (v := .int .i64 x.kind) rfl
      have hc1 := elem_at (K := 4) (fun a => rfl) hcell hx 1 (by omega) (by omega) (v := .int .i64 x.n) rfl
      have hc2 := elem_at (K := 4) (fun a => rfl) hcell hx 2 (by omega) (by omega) (v := .string x.s) rfl
      have hc3 := elem_at (K := 4) (fun a => rfl) hcell hx 3 (by omega) (by omega) (v := .int .u64 (x.label : Int)) rfl
      have HX := Lib.hid hx
      clear hx hcell hsr
      have hszB := hB.size
      by_cases hz : x.s.size ≤ 1000
      · have hz' : ¬ (1000 : Int) < (x.s.size : Int) := by omega
        go_wp2
        go_roundw
        case rel =>
          refine ⟨k + 1, by omega, by go_num, ?_, hB.alloc hszB _⟩
          intro y hy
          rw [List.take_add_one, HX.out] at hy
          rcases List.mem_append.1 hy with hy | hy
          · exact HP.out y hy
          · simp at hy; subst hy; exact hz
        case measure => simp [intOf]; omega
      · have hz' : (1000 : Int) < (x.s.size : Int) := by omega
        go_wp2
        go_ret
        exact ⟨ret_bool (HO.out x (List.mem_of_getElem? HX.out) (by omega)).symm, hB.alloc hszB _⟩
    · obtain rfl : k = xs.length := by omega
      go_wp2
      go_ret
      exact ⟨ret_bool (HY.out (by simpa using HP.out)).symm, hB⟩
end Go.Proofs.YthhphjfbdoffhaaDoor
