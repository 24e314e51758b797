/-
  The reference's operators on values, arithmetic.
-/
import Derived.Test.YthhphjfbdoffhaaValRefH
import Derived.Deep.CutBlock
import Derived.Deep.DeepCutAuto
set_option linter.unusedVariables false
set_option linter.unusedSimpArgs false
namespace Go.Proofs.Ythhphjfbdoffhaa
open Go.ChangeShapes Go.WideShapes Go.ChangeAt Go.RowKit

set_option maxRecDepth 100000 in
set_option maxHeartbeats 4000000 in
theorem raw_arith1 (a b : VV) (w : World) (h2 : bothK 2 a b = true) (ha : -9223372036854775808 ≤ a.n ∧ a.n ≤ 9223372036854775807) (hb : -9223372036854775808 ≤ b.n ∧ b.n ≤ 9223372036854775807) (n : Int) (hn : doS 1 a.n b.n = some n) : Calls Try.prog 48 #[.int .i64 1, .agg (vvCells a), .agg (vvCells b)] w (RetT (⟨2, n, ByteArray.empty, 0⟩ : VV) ByteArray.empty w) := by
  have hdo : ∀ w, Calls Try.prog 68 #[.int .i64 1, .int .i64 a.n, .int .i64 b.n] w (RetD (.tuple #[.int .i64 n, .bool true]) w) := fun w => by have := rdo_any 1 a.n b.n w ha.1 ha.2 hb.1 hb.2; rw [hn] at this; exact this
  clear ha hb hn
  unfold vvCells
  have hb0 : Below w.heap.size w (((w.alloc (.cells #[.int .i64 a.kind, .int .i64 a.n, .string a.s, .int .u64 (a.label : Int)] 25)).alloc (.cells #[.int .i64 b.kind, .int .i64 b.n, .string b.s, .int .u64 (b.label : Int)] 25)).alloc (.cells #[.int .i64 0, .int .i64 0, .string ByteArray.empty, .int .u64 0] 25)) := (((Below.refl _ _).alloc (Nat.le_refl _) _).alloc (by simp) _).alloc (by simp; omega) _
  have HB0 := Lib.hid hb0
  clear hb0
  go_enter Try.func48, Try.ntmps48
  go_upto_region 1 with (fail)
  go_cut [8] (fun i w' => i = .bool (bothK 2 a b) ∧ w' = (((w.alloc (.cells #[.int .i64 a.kind, .int .i64 a.n, .string a.s, .int .u64 (a.label : Int)] 25)).alloc (.cells #[.int .i64 b.kind, .int .i64 b.n, .string b.s, .int .u64 (b.label : Int)] 25)).alloc (.cells #[.int .i64 0, .int .i64 0, .string ByteArray.empty, .int .u64 0] 25)))
  case first =>
    clear HB0
    cases ka : (a.kind == 2) <;> cases kb : (b.kind == 2)
    all_goals
      go_wp2
      go_meet
      case rel => exact ⟨by simp [bothK, ka, kb], rfl⟩
  case rest =>
    rw [h2] at hcut
    obtain ⟨rfl, rfl⟩ := hcut
    go_upto_region 2 with (fail)
    go_cut [9] (fun i w' => i = .bool (bothK 3 a b) ∧ w' = (((w.alloc (.cells #[.int .i64 a.kind, .int .i64 a.n, .string a.s, .int .u64 (a.label : Int)] 25)).alloc (.cells #[.int .i64 b.kind, .int .i64 b.n, .string b.s, .int .u64 (b.label : Int)] 25)).alloc (.cells #[.int .i64 0, .int .i64 0, .string ByteArray.empty, .int .u64 0] 25)))
    case first =>
      clear HB0
      cases ka : (a.kind == 3) <;> cases kb : (b.kind == 3)
      all_goals
        go_wp2
        go_meet
        case rel => exact ⟨by simp [bothK, ka, kb], rfl⟩
    case rest =>
      obtain ⟨rfl, rfl⟩ := hcut
      go_wp2_with fail
      refine (hdo _).mono ?_
      rintro e wx ⟨rfl, nd1, rfl⟩
      go_wp2
      refine bodyPost_ret (v := .tuple #[.agg (vvCells (⟨2, n, ByteArray.empty, 0⟩ : VV)), .string ByteArray.empty]) (by simp [results, Try.results48, go_sem]; first | rfl | exact ⟨rfl, rfl⟩) rfl ⟨rfl, ?_⟩
      repeat' (first | exact (below_drewN HB0.out nd1) | exact Below.refl _ _ | refine Below.drew ?_ | refine below_drewN ?_ _ | refine Below.setCell ?_ ?_ _ | refine Below.alloc ?_ ?_ _ | (simp; done) | (simp; omega) | omega)
set_option maxRecDepth 100000 in
set_option maxHeartbeats 4000000 in
theorem raw_arith2 (a b : VV) (w : World) (h2 : bothK 2 a b = true) (ha : -9223372036854775808 ≤ a.n ∧ a.n ≤ 9223372036854775807) (hb : -9223372036854775808 ≤ b.n ∧ b.n ≤ 9223372036854775807) (n : Int) (hn : doS 2 a.n b.n = some n) : Calls Try.prog 48 #[.int .i64 2, .agg (vvCells a), .agg (vvCells b)] w (RetT (⟨2, n, ByteArray.empty, 0⟩ : VV) ByteArray.empty w) := by
  have hdo : ∀ w, Calls Try.prog 68 #[.int .i64 2, .int .i64 a.n, .int .i64 b.n] w (RetD (.tuple #[.int .i64 n, .bool true]) w) := fun w => by have := rdo_any 2 a.n b.n w ha.1 ha.2 hb.1 hb.2; rw [hn] at this; exact this
  clear ha hb hn
  unfold vvCells
  have hb0 : Below w.heap.size w (((w.alloc (.cells #[.int .i64 a.kind, .int .i64 a.n, .string a.s, .int .u64 (a.label : Int)] 25)).alloc (.cells #[.int .i64 b.kind, .int .i64 b.n, .string b.s, .int .u64 (b.label : Int)] 25)).alloc (.cells #[.int .i64 0, .int .i64 0, .string ByteArray.empty, .int .u64 0] 25)) := (((Below.refl _ _).alloc (Nat.le_refl _) _).alloc (by simp) _).alloc (by simp; omega) _
  have HB0 := Lib.hid hb0
  clear hb0
  go_enter Try.func48, Try.ntmps48
  go_upto_region 1 with (fail)
  go_cut [8] (fun i w' => i = .bool (bothK 2 a b) ∧ w' = (((w.alloc (.cells #[.int .i64 a.kind, .int .i64 a.n, .string a.s, .int .u64 (a.label : Int)] 25)).alloc (.cells #[.int .i64 b.kind, .int .i64 b.n, .string b.s, .int .u64 (b.label : Int)] 25)).alloc (.cells #[.int .i64 0, .int .i64 0, .string ByteArray.empty, .int .u64 0] 25)))
  case first =>
    clear HB0
    cases ka : (a.kind == 2) <;> cases kb : (b.kind == 2)
    all_goals
      go_wp2
      go_meet
      case rel => exact ⟨by simp [bothK, ka, kb], rfl⟩
  case rest =>
    rw [h2] at hcut
    obtain ⟨rfl, rfl⟩ := hcut
    go_upto_region 2 with (fail)
    go_cut [9] (fun i w' => i = .bool (bothK 3 a b) ∧ w' = (((w.alloc (.cells #[.int .i64 a.kind, .int .i64 a.n, .string a.s, .int .u64 (a.label : Int)] 25)).alloc (.cells #[.int .i64 b.kind, .int .i64 b.n, .string b.s, .int .u64 (b.label : Int)] 25)).alloc (.cells #[.int .i64 0, .int .i64 0, .string ByteArray.empty, .int .u64 0] 25)))
    case first =>
      clear HB0
      cases ka : (a.kind == 3) <;> cases kb : (b.kind == 3)
      all_goals
        go_wp2
        go_meet
        case rel => exact ⟨by simp [bothK, ka, kb], rfl⟩
    case rest =>
      obtain ⟨rfl, rfl⟩ := hcut
      go_wp2_with fail
      refine (hdo _).mono ?_
      rintro e wx ⟨rfl, nd1, rfl⟩
      go_wp2
      refine bodyPost_ret (v := .tuple #[.agg (vvCells (⟨2, n, ByteArray.empty, 0⟩ : VV)), .string ByteArray.empty]) (by simp [results, Try.results48, go_sem]; first | rfl | exact ⟨rfl, rfl⟩) rfl ⟨rfl, ?_⟩
      repeat' (first | exact (below_drewN HB0.out nd1) | exact Below.refl _ _ | refine Below.drew ?_ | refine below_drewN ?_ _ | refine Below.setCell ?_ ?_ _ | refine Below.alloc ?_ ?_ _ | (simp; done) | (simp; omega) | omega)
set_option maxRecDepth 100000 in
set_option maxHeartbeats 4000000 in
theorem raw_arith3 (a b : VV) (w : World) (h2 : bothK 2 a b = true) (ha : -9223372036854775808 ≤ a.n ∧ a.n ≤ 9223372036854775807) (hb : -9223372036854775808 ≤ b.n ∧ b.n ≤ 9223372036854775807) (n : Int) (hn : doS 3 a.n b.n = some n) : Calls Try.prog 48 #[.int .i64 3, .agg (vvCells a), .agg (vvCells b)] w (RetT (⟨2, n, ByteArray.empty, 0⟩ : VV) ByteArray.empty w) := by
  have hdo : ∀ w, Calls Try.prog 68 #[.int .i64 3, .int .i64 a.n, .int .i64 b.n] w (RetD (.tuple #[.int .i64 n, .bool true]) w) := fun w => by have := rdo_any 3 a.n b.n w ha.1 ha.2 hb.1 hb.2; rw [hn] at this; exact this
  clear ha hb hn
  unfold vvCells
  have hb0 : Below w.heap.size w (((w.alloc (.cells #[.int .i64 a.kind, .int .i64 a.n, .string a.s, .int .u64 (a.label : Int)] 25)).alloc (.cells #[.int .i64 b.kind, .int .i64 b.n, .string b.s, .int .u64 (b.label : Int)] 25)).alloc (.cells #[.int .i64 0, .int .i64 0, .string ByteArray.empty, .int .u64 0] 25)) := (((Below.refl _ _).alloc (Nat.le_refl _) _).alloc (by simp) _).alloc (by simp; omega) _
  have HB0 := Lib.hid hb0
  clear hb0
  go_enter Try.func48, Try.ntmps48
  go_upto_region 1 with (fail)
  go_cut [8] (fun i w' => i = .bool (bothK 2 a b) ∧ w' = (((w.alloc (.cells #[.int .i64 a.kind, .int .i64 a.n, .string a.s, .int .u64 (a.label : Int)] 25)).alloc (.cells #[.int .i64 b.kind, .int .i64 b.n, .string b.s, .int .u64 (b.label : Int)] 25)).alloc (.cells #[.int .i64 0, .int .i64 0, .string ByteArray.empty, .int .u64 0] 25)))
  case first =>
    clear HB0
    cases ka : (a.kind == 2) <;> cases kb : (b.kind == 2)
    all_goals
      go_wp2
      go_meet
      case rel => exact ⟨by simp [bothK, ka, kb], rfl⟩
  case rest =>
    rw [h2] at hcut
    obtain ⟨rfl, rfl⟩ := hcut
    go_upto_region 2 with (fail)
    go_cut [9] (fun i w' => i = .bool (bothK 3 a b) ∧ w' = (((w.alloc (.cells #[.int .i64 a.kind, .int .i64 a.n, .string a.s, .int .u64 (a.label : Int)] 25)).alloc (.cells #[.int .i64 b.kind, .int .i64 b.n, .string b.s, .int .u64 (b.label : Int)] 25)).alloc (.cells #[.int .i64 0, .int .i64 0, .string ByteArray.empty, .int .u64 0] 25)))
    case first =>
      clear HB0
      cases ka : (a.kind == 3) <;> cases kb : (b.kind == 3)
      all_goals
        go_wp2
        go_meet
        case rel => exact ⟨by simp [bothK, ka, kb], rfl⟩
    case rest =>
      obtain ⟨rfl, rfl⟩ := hcut
      go_wp2_with fail
      refine (hdo _).mono ?_
      rintro e wx ⟨rfl, nd1, rfl⟩
      go_wp2
      refine bodyPost_ret (v := .tuple #[.agg (vvCells (⟨2, n, ByteArray.empty, 0⟩ : VV)), .string ByteArray.empty]) (by simp [results, Try.results48, go_sem]; first | rfl | exact ⟨rfl, rfl⟩) rfl ⟨rfl, ?_⟩
      repeat' (first | exact (below_drewN HB0.out nd1) | exact Below.refl _ _ | refine Below.drew ?_ | refine below_drewN ?_ _ | refine Below.setCell ?_ ?_ _ | refine Below.alloc ?_ ?_ _ | (simp; done) | (simp; omega) | omega)
end Go.Proofs.Ythhphjfbdoffhaa
