/-
  Chapter 23: few; Places of a world.
-/
import Derived.Test.YtkdoohmchdpjoaaWorldNone
set_option linter.unusedVariables false
set_option linter.unusedSimpArgs false
namespace Go.Proofs.Ytkdoohmchdpjoaa
open Go.ChangeShapes Go.WideShapes Go.ChangeAt Go.RowKit

set_option maxRecDepth 100000 in
set_option maxHeartbeats 2000000 in
theorem few23 (s : Nat → Sl Int) (A : Option Addr) (c : Nat) (xs : List WAct) (w : World) (hr : Reads w w.heap.size A (xs.flatMap waEnc)) (hn : xs.length ≤ 9223372036854775807) :
    Calls Try.prog 22 #[agg8 (sv s), .slice A xs.length c] w fun e w' => (∃ b, e = .returned (.bool b)) ∧ Below w.heap.size w w' := by
  unfold agg8
  go_enter Try.func22, Try.ntmps22
  go_wp2
  go_loopw [5, 7, 13] (fun n _ i wr => ∃ (k : Nat) (m : Int), k ≤ 8 ∧ i = .int .i64 k ∧ n = .int .i64 m ∧ Below w.heap.size w wr) (fun _ _ i _ => 8 - (intOf i).toNat)
  case atStart => exact ⟨0, _, by omega, rfl, rfl, (Below.refl _ _).alloc (Nat.le_refl _) _⟩
  case round =>
    obtain ⟨k, m, hk, rfl, rfl, hB⟩ := hrel
    by_cases hlt : k < 8
    · have hix : ∀ W, (Instr.index 50 (.agg #[sv s 0, sv s 1, sv s 2, sv s 3, sv s 4, sv s 5, sv s 6, sv s 7]) (.int .i64 (k : Int))).run Try.prog W = .ok (.slice (s k).A (s k).xs.length (s k).cap) W := run_index_one _ _ 8 _ k _ Try.underlying50 isAgg_ints sizeOf_ints hlt (eight_arr (sv s) k hlt)
      go_wp2
      go_roundw
      case rel => exact ⟨k + 1, _, by omega, by go_num, rfl, hB⟩
      case measure => simp [intOf]; omega
    · obtain rfl : k = 8 := by omega
      go_wp2
      go_loopw [5, 9, 23] (fun n _ i wr => ∃ (k : Nat) (m : Int), k ≤ xs.length ∧ i = .int .i64 k ∧ n = .int .i64 m ∧ Below w.heap.size w wr) (fun _ _ i _ => xs.length - (intOf i).toNat)
      case atStart => exact ⟨0, _, by omega, rfl, rfl, hB⟩
      case round =>
        clear hB
        obtain ⟨k, m, hk, rfl, rfl, hB⟩ := hrel
        by_cases hlt : k < xs.length
        · have hsr := hr.below hB
          obtain ⟨x, hx⟩ : ∃ x, xs[k]? = some x := ⟨_, List.getElem?_eq_getElem hlt⟩
          obtain ⟨ad, rfl, hadb, hcell⟩ := hsr.at (flatMap_ne (K := 7) (fun a => rfl) (by omega) hx)
          have hc0 := elem_zero (K := 7) (fun a => rfl) hcell hx (by omega) (v := .int .i64 x.act) rfl
          have hc1 := elem_at (K := 7) (fun a => rfl) hcell hx 1 (by omega) (by omega) (v := .int .u64 (x.pc : Int)) rfl
          have hc2 := elem_at (K := 7) (fun a => rfl) hcell hx 2 (by omega) (by omega) (v := .int .i64 x.k) rfl
          have hc3 := elem_at (K := 7) (fun a => rfl) hcell hx 3 (by omega) (by omega) (v := .int .i64 x.v.kind) rfl
          have hc4 := elem_at (K := 7) (fun a => rfl) hcell hx 4 (by omega) (by omega) (v := .int .i64 x.v.n) rfl
          have hc5 := elem_at (K := 7) (fun a => rfl) hcell hx 5 (by omega) (by omega) (v := .string x.v.s) rfl
          have hc6 := elem_at (K := 7) (fun a => rfl) hcell hx 6 (by omega) (by omega) (v := .int .u64 (x.v.label : Int)) rfl
          have HX := Lib.hid hx
          clear hx hcell hsr
          have hszB := hB.size
          go_wp2
          go_roundw
          case rel => exact ⟨k + 1, _, by omega, by go_num, rfl, hB.alloc hszB _⟩
          case measure => simp [intOf]; omega
        · obtain rfl : k = xs.length := by omega
          go_wp2
          go_ret
          exact ⟨⟨_, rfl⟩, hB⟩
end Go.Proofs.Ytkdoohmchdpjoaa
