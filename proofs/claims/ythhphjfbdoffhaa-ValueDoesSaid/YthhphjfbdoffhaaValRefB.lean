/-
  The reference's operators on values, second part.
-/
import Derived.Test.YthhphjfbdoffhaaValRefH
import Derived.Deep.CutBlock
import Derived.Deep.DeepCutAuto
set_option linter.unusedVariables false
set_option linter.unusedSimpArgs false
namespace Go.Proofs.Ythhphjfbdoffhaa
open Go.ChangeShapes Go.WideShapes Go.ChangeAt Go.RowKit

set_option maxRecDepth 100000 in
set_option maxHeartbeats 4000000 in
theorem raw_noarith (a b : VV) (w : World) (op : Int) (h1 : 1 ≤ op) (h5 : op ≤ 5) (h2 : bothK 2 a b = false) : Calls Try.prog 48 #[.int .i64 op, .agg (vvCells a), .agg (vvCells b)] w (RetT zeroVV sArith w) := by
  unfold vvCells
  have hb0 : Below w.heap.size w (((w.alloc (.cells #[.int .i64 a.kind, .int .i64 a.n, .string a.s, .int .u64 (a.label : Int)] 25)).alloc (.cells #[.int .i64 b.kind, .int .i64 b.n, .string b.s, .int .u64 (b.label : Int)] 25)).alloc (.cells #[.int .i64 0, .int .i64 0, .string ByteArray.empty, .int .u64 0] 25)) := (((Below.refl _ _).alloc (Nat.le_refl _) _).alloc (by simp) _).alloc (by simp; omega) _
  have HB0 := Lib.hid hb0
  clear hb0
  obtain rfl | rfl | rfl | rfl | rfl : op = 1 ∨ op = 2 ∨ op = 3 ∨ op = 4 ∨ op = 5 := by omega
  all_goals
    go_enter Try.func48, Try.ntmps48
    go_upto_region 1 with (fail)
    go_cut [8] (fun i w' => i = .bool (bothK 2 a b) ∧ w' = (((w.alloc (.cells #[.int .i64 a.kind, .int .i64 a.n, .string a.s, .int .u64 (a.label : Int)] 25)).alloc (.cells #[.int .i64 b.kind, .int .i64 b.n, .string b.s, .int .u64 (b.label : Int)] 25)).alloc (.cells #[.int .i64 0, .int .i64 0, .string ByteArray.empty, .int .u64 0] 25)))
    case first =>
      clear HB0
      cases ka : (a.kind == 2) <;> cases kb : (b.kind == 2)
      all_goals
        go_wp2
        go_meet
        case rel => exact ⟨by simp [bothK, ka, kb], rfl⟩
    case rest =>
      rw [h2] at hcut
      obtain ⟨rfl, rfl⟩ := hcut
      go_upto_region 2 with (fail)
      go_cut [9] (fun i w' => i = .bool (bothK 3 a b) ∧ w' = (((w.alloc (.cells #[.int .i64 a.kind, .int .i64 a.n, .string a.s, .int .u64 (a.label : Int)] 25)).alloc (.cells #[.int .i64 b.kind, .int .i64 b.n, .string b.s, .int .u64 (b.label : Int)] 25)).alloc (.cells #[.int .i64 0, .int .i64 0, .string ByteArray.empty, .int .u64 0] 25)))
      case first =>
        clear HB0
        cases ka : (a.kind == 3) <;> cases kb : (b.kind == 3)
        all_goals
          go_wp2
          go_meet
          case rel => exact ⟨by simp [bothK, ka, kb], rfl⟩
      case rest =>
        obtain ⟨rfl, rfl⟩ := hcut
        go_wp2
        refine bodyPost_ret (v := .tuple #[.agg (vvCells zeroVV), .string sArith]) (by simp [results, Try.results48, go_sem]; first | rfl | exact ⟨rfl, rfl⟩) rfl ⟨rfl, ?_⟩
        repeat' (first | exact HB0.out | exact Below.refl _ _ | refine Below.drew ?_ | refine below_drewN ?_ _ | refine Below.setCell ?_ ?_ _ | refine Below.alloc ?_ ?_ _ | (simp; done) | (simp; omega) | omega)
set_option maxRecDepth 100000 in
set_option maxHeartbeats 4000000 in
theorem raw_low (a b : VV) (w : World) (op : Int) (h1 : op < 1) : Calls Try.prog 48 #[.int .i64 op, .agg (vvCells a), .agg (vvCells b)] w (RetT zeroVV sArith w) := by
  have n1 : ¬ op = 1 := by omega
  have n2 : ¬ op = 2 := by omega
  have n3 : ¬ op = 3 := by omega
  have n4 : ¬ op = 4 := by omega
  have n5 : ¬ op = 5 := by omega
  have n6 : ¬ op = 6 := by omega
  have n7 : ¬ op = 7 := by omega
  have n8 : ¬ op = 8 := by omega
  have n9 : ¬ op = 9 := by omega
  unfold vvCells
  have hb0 : Below w.heap.size w (((w.alloc (.cells #[.int .i64 a.kind, .int .i64 a.n, .string a.s, .int .u64 (a.label : Int)] 25)).alloc (.cells #[.int .i64 b.kind, .int .i64 b.n, .string b.s, .int .u64 (b.label : Int)] 25)).alloc (.cells #[.int .i64 0, .int .i64 0, .string ByteArray.empty, .int .u64 0] 25)) := (((Below.refl _ _).alloc (Nat.le_refl _) _).alloc (by simp) _).alloc (by simp; omega) _
  have HB0 := Lib.hid hb0
  clear hb0
  go_enter Try.func48, Try.ntmps48
  go_upto_region 1 with (fail)
  go_cut [8] (fun i w' => i = .bool (bothK 2 a b) ∧ w' = (((w.alloc (.cells #[.int .i64 a.kind, .int .i64 a.n, .string a.s, .int .u64 (a.label : Int)] 25)).alloc (.cells #[.int .i64 b.kind, .int .i64 b.n, .string b.s, .int .u64 (b.label : Int)] 25)).alloc (.cells #[.int .i64 0, .int .i64 0, .string ByteArray.empty, .int .u64 0] 25)))
  case first =>
    clear HB0
    cases ka : (a.kind == 2) <;> cases kb : (b.kind == 2)
    all_goals
      go_wp2
      go_meet
      case rel => exact ⟨by simp [bothK, ka, kb], rfl⟩
  case rest =>
    obtain ⟨rfl, rfl⟩ := hcut
    go_upto_region 2 with (fail)
    go_cut [9] (fun i w' => i = .bool (bothK 3 a b) ∧ w' = (((w.alloc (.cells #[.int .i64 a.kind, .int .i64 a.n, .string a.s, .int .u64 (a.label : Int)] 25)).alloc (.cells #[.int .i64 b.kind, .int .i64 b.n, .string b.s, .int .u64 (b.label : Int)] 25)).alloc (.cells #[.int .i64 0, .int .i64 0, .string ByteArray.empty, .int .u64 0] 25)))
    case first =>
      clear HB0
      cases ka : (a.kind == 3) <;> cases kb : (b.kind == 3)
      all_goals
        go_wp2
        go_meet
        case rel => exact ⟨by simp [bothK, ka, kb], rfl⟩
    case rest =>
      obtain ⟨rfl, rfl⟩ := hcut
      go_wp2
      refine bodyPost_ret (v := .tuple #[.agg (vvCells zeroVV), .string sArith]) (by simp [results, Try.results48, go_sem]; first | rfl | exact ⟨rfl, rfl⟩) rfl ⟨rfl, ?_⟩
      repeat' (first | exact HB0.out | exact Below.refl _ _ | refine Below.drew ?_ | refine below_drewN ?_ _ | refine Below.setCell ?_ ?_ _ | refine Below.alloc ?_ ?_ _ | (simp; done) | (simp; omega) | omega)
set_option maxRecDepth 100000 in
set_option maxHeartbeats 4000000 in
theorem raw_high (a b : VV) (w : World) (op : Int) (h1 : 9 < op) : Calls Try.prog 48 #[.int .i64 op, .agg (vvCells a), .agg (vvCells b)] w (RetT zeroVV sArith w) := by
  have n1 : ¬ op = 1 := by omega
  have n2 : ¬ op = 2 := by omega
  have n3 : ¬ op = 3 := by omega
  have n4 : ¬ op = 4 := by omega
  have n5 : ¬ op = 5 := by omega
  have n6 : ¬ op = 6 := by omega
  have n7 : ¬ op = 7 := by omega
  have n8 : ¬ op = 8 := by omega
  have n9 : ¬ op = 9 := by omega
  unfold vvCells
  have hb0 : Below w.heap.size w (((w.alloc (.cells #[.int .i64 a.kind, .int .i64 a.n, .string a.s, .int .u64 (a.label : Int)] 25)).alloc (.cells #[.int .i64 b.kind, .int .i64 b.n, .string b.s, .int .u64 (b.label : Int)] 25)).alloc (.cells #[.int .i64 0, .int .i64 0, .string ByteArray.empty, .int .u64 0] 25)) := (((Below.refl _ _).alloc (Nat.le_refl _) _).alloc (by simp) _).alloc (by simp; omega) _
  have HB0 := Lib.hid hb0
  clear hb0
  go_enter Try.func48, Try.ntmps48
  go_upto_region 1 with (fail)
  go_cut [8] (fun i w' => i = .bool (bothK 2 a b) ∧ w' = (((w.alloc (.cells #[.int .i64 a.kind, .int .i64 a.n, .string a.s, .int .u64 (a.label : Int)] 25)).alloc (.cells #[.int .i64 b.kind, .int .i64 b.n, .string b.s, .int .u64 (b.label : Int)] 25)).alloc (.cells #[.int .i64 0, .int .i64 0, .string ByteArray.empty, .int .u64 0] 25)))
  case first =>
    clear HB0
    cases ka : (a.kind == 2) <;> cases kb : (b.kind == 2)
    all_goals
      go_wp2
      go_meet
      case rel => exact ⟨by simp [bothK, ka, kb], rfl⟩
  case rest =>
    obtain ⟨rfl, rfl⟩ := hcut
    go_upto_region 2 with (fail)
    go_cut [9] (fun i w' => i = .bool (bothK 3 a b) ∧ w' = (((w.alloc (.cells #[.int .i64 a.kind, .int .i64 a.n, .string a.s, .int .u64 (a.label : Int)] 25)).alloc (.cells #[.int .i64 b.kind, .int .i64 b.n, .string b.s, .int .u64 (b.label : Int)] 25)).alloc (.cells #[.int .i64 0, .int .i64 0, .string ByteArray.empty, .int .u64 0] 25)))
    case first =>
      clear HB0
      cases ka : (a.kind == 3) <;> cases kb : (b.kind == 3)
      all_goals
        go_wp2
        go_meet
        case rel => exact ⟨by simp [bothK, ka, kb], rfl⟩
    case rest =>
      obtain ⟨rfl, rfl⟩ := hcut
      go_wp2
      refine bodyPost_ret (v := .tuple #[.agg (vvCells zeroVV), .string sArith]) (by simp [results, Try.results48, go_sem]; first | rfl | exact ⟨rfl, rfl⟩) rfl ⟨rfl, ?_⟩
      repeat' (first | exact HB0.out | exact Below.refl _ _ | refine Below.drew ?_ | refine below_drewN ?_ _ | refine Below.setCell ?_ ?_ _ | refine Below.alloc ?_ ?_ _ | (simp; done) | (simp; omega) | omega)
end Go.Proofs.Ythhphjfbdoffhaa
