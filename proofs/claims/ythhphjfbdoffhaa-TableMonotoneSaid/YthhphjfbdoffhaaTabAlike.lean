/-
  Chapter 04: awake; lists of stamps alike.
-/
import Derived.Test.YthhphjfbdoffhaaTabTwin
import Derived.Test.YthhphjfbdoffhaaTabEach
import Derived.Test.YthhphjfbdoffhaaTabPutF
set_option linter.unusedVariables false
set_option linter.unusedSimpArgs false
namespace Go.Proofs.Ythhphjfbdoffhaa
open Go.ChangeShapes Go.WideShapes Go.ChangeAt Go.RowKit Go.Maps

theorem st_eq (a : St) (w : World) : (Op.equalIn 10000 61 (.agg #[.string a.1, .int .i64 a.2]) (.agg #[.string a.1, .int .i64 a.2])).run Try.prog w = .ok true w := by
  have u1 := Try.underlying3
  have u3 := Try.underlying9
  have a1 := Try.isAgg3
  have a3 := Try.isAgg9
  have z1 := Try.sizeOf3
  have z3 := Try.sizeOf9
  have hS : Try.prog.underlying 61 = some (.struct (Try.prog.fieldsOf 61)) := by kernel_rfl
  have hp : Try.prog.stoodInHeld 61 = false := by kernel_rfl
  rw [show (10000 : Nat) = 9999 + 1 from rfl, run_equalIn_agg w 9999 61 _ _ hS hp]
  simp only [Program.fieldsOf, Try.underlying61]
  go_simp
set_option maxRecDepth 100000 in
set_option maxHeartbeats 4000000 in
theorem stamps_any (xs : List St) (A C : Option Addr) (c d : Nat) (w : World) (hx : Reads w w.heap.size A (xs.flatMap stEnc)) (hy : Reads w w.heap.size C (xs.flatMap stEnc)) (hn : xs.length ≤ 9223372036854775807) :
    Calls Try.prog 64 #[.slice A xs.length c, .slice C xs.length d] w fun e w' => e = .returned (.bool true) ∧ ∃ n, w' = w.drewN n := by
  have HX := Lib.hid hx
  have HY := Lib.hid hy
  clear hx hy
  go_enter Try.func64, Try.ntmps64
  go_wp2
  go_loopw [13] (fun i wr => ∃ k : Nat, k ≤ xs.length ∧ i = .int .i64 k ∧ ∃ n, wr = w.drewN n) (fun i wr => xs.length - (intOf i).toNat)
  case atStart => exact ⟨0, by omega, rfl, 0, rfl⟩
  case round =>
    obtain ⟨k, hk, rfl, n, rfl⟩ := hrel
    by_cases hlt : k < xs.length
    · obtain ⟨x, hx⟩ : ∃ x, xs[k]? = some x := ⟨_, List.getElem?_eq_getElem hlt⟩
      obtain ⟨ad, rfl, hab, hcell⟩ := HX.out.at (flatMap_ne (K := 2) (fun a => rfl) (by omega) hx)
      obtain ⟨ae, rfl, hae, hcelle⟩ := HY.out.at (flatMap_ne (K := 2) (fun a => rfl) (by omega) hx)
      obtain ⟨x0, x1⟩ := st_at hcell hx
      obtain ⟨y0, y1⟩ := st_at hcelle hx
      have heq := fun W => st_eq x W
      have hk' : (k : Int) < (xs.length : Int) := by omega
      have hk0 : (0 : Int) ≤ k := by omega
      clear hx hcell hcelle
      go_wp2_with fail
      go_quiet (fail)
      go_wp2_with fail
      go_roundw
      case rel => exact ⟨k + 1, by omega, by go_num, _, rfl⟩
      case measure => simp [intOf]; omega
    · obtain rfl : k = xs.length := by omega
      go_wp2
      go_ret
      exact ⟨rfl, n, rfl⟩
end Go.Proofs.Ythhphjfbdoffhaa
