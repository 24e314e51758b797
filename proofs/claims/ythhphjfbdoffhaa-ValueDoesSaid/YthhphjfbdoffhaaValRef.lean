/-
  The reference's operators on values, first part.
-/
import Derived.Test.YthhphjfbdoffhaaValRefH
import Derived.Deep.CutBlock
import Derived.Deep.DeepCutAuto
set_option linter.unusedVariables false
set_option linter.unusedSimpArgs false
namespace Go.Proofs.Ythhphjfbdoffhaa
open Go.ChangeShapes Go.WideShapes Go.ChangeAt Go.RowKit

set_option maxRecDepth 100000 in
set_option maxHeartbeats 4000000 in
theorem raw_eq (a b : VV) (w : World) : Calls Try.prog 48 #[.int .i64 8, .agg (vvCells a), .agg (vvCells b)] w (RetT (flagV (sameV a b)) ByteArray.empty w) := by
  have hs := fun w => rsame_any a b w
  have hfl := fun w => rflag_any (sameV a b) w
  unfold vvCells at hs hfl ⊢
  have hb0 : Below w.heap.size w (((w.alloc (.cells #[.int .i64 a.kind, .int .i64 a.n, .string a.s, .int .u64 (a.label : Int)] 25)).alloc (.cells #[.int .i64 b.kind, .int .i64 b.n, .string b.s, .int .u64 (b.label : Int)] 25)).alloc (.cells #[.int .i64 0, .int .i64 0, .string ByteArray.empty, .int .u64 0] 25)) := (((Below.refl _ _).alloc (Nat.le_refl _) _).alloc (by simp) _).alloc (by simp; omega) _
  have HB0 := Lib.hid hb0
  clear hb0
  go_enter Try.func48, Try.ntmps48
  go_upto_region 1 with (fail)
  go_cut [8] (fun i w' => i = .bool (bothK 2 a b) ∧ w' = (((w.alloc (.cells #[.int .i64 a.kind, .int .i64 a.n, .string a.s, .int .u64 (a.label : Int)] 25)).alloc (.cells #[.int .i64 b.kind, .int .i64 b.n, .string b.s, .int .u64 (b.label : Int)] 25)).alloc (.cells #[.int .i64 0, .int .i64 0, .string ByteArray.empty, .int .u64 0] 25)))
  case first =>
    clear HB0
    cases ka : (a.kind == 2) <;> cases kb : (b.kind == 2)
    all_goals
      go_wp2
      go_meet
      case rel => exact ⟨by simp [bothK, ka, kb], rfl⟩
  case rest =>
    obtain ⟨rfl, rfl⟩ := hcut
    go_upto_region 2 with (fail)
    go_cut [9] (fun i w' => i = .bool (bothK 3 a b) ∧ w' = (((w.alloc (.cells #[.int .i64 a.kind, .int .i64 a.n, .string a.s, .int .u64 (a.label : Int)] 25)).alloc (.cells #[.int .i64 b.kind, .int .i64 b.n, .string b.s, .int .u64 (b.label : Int)] 25)).alloc (.cells #[.int .i64 0, .int .i64 0, .string ByteArray.empty, .int .u64 0] 25)))
    case first =>
      clear HB0
      cases ka : (a.kind == 3) <;> cases kb : (b.kind == 3)
      all_goals
        go_wp2
        go_meet
        case rel => exact ⟨by simp [bothK, ka, kb], rfl⟩
    case rest =>
      obtain ⟨rfl, rfl⟩ := hcut
      go_wp2_with fail
      refine (hs _).mono ?_
      rintro e w1 ⟨rfl, hb1⟩
      obtain ⟨hc1, hf1⟩ := bcell hb1
      have hz1 : w.heap.size + 2 < w1.heap.size := by have := hb1.size; (try simp at this); omega
      have hy1 : w.heap.size < w1.heap.size ∧ w.heap.size + 1 < w1.heap.size := ⟨by omega, by omega⟩
      obtain ⟨hx1, hy1⟩ := hy1
      have HB1 := Lib.hid (show Below w.heap.size w w1 from (HB0.out).trans (hb1.mono (HB0.out).size))
      clear hb1
      go_wp2_with fail
      refine (hfl _).mono ?_
      rintro e w2 ⟨rfl, hb2⟩
      obtain ⟨hc2, hf2⟩ := bcell hb2
      have hz2 : w.heap.size + 2 < w2.heap.size := by have := hb2.size; (try simp at this); omega
      have hy2 : w.heap.size < w2.heap.size ∧ w.heap.size + 1 < w2.heap.size := ⟨by omega, by omega⟩
      obtain ⟨hx2, hy2⟩ := hy2
      have HB2 := Lib.hid (show Below w.heap.size w w2 from (HB1.out).trans (hb2.mono (HB1.out).size))
      clear hb2
      go_wp2
      refine bodyPost_ret (v := .tuple #[.agg (vvCells (flagV (sameV a b))), .string ByteArray.empty]) (by simp [results, Try.results48, go_sem, hc1, hf1, hz1, hc2, hf2, hz2]; first | rfl | exact ⟨rfl, rfl⟩) rfl ⟨rfl, ?_⟩
      repeat' (first | exact HB2.out | exact Below.refl _ _ | refine Below.drew ?_ | refine below_drewN ?_ _ | refine Below.setCell ?_ ?_ _ | refine Below.alloc ?_ ?_ _ | (simp; done) | (simp; omega) | omega)
set_option maxRecDepth 100000 in
set_option maxHeartbeats 4000000 in
theorem raw_cat (a b : VV) (w : World) (h3 : bothK 3 a b = true) (hsz : a.s.size + b.s.size ≤ 1000000) : Calls Try.prog 48 #[.int .i64 9, .agg (vvCells a), .agg (vvCells b)] w (RetT (⟨3, 0, a.s ++ b.s, 0⟩ : VV) ByteArray.empty w) := by
  unfold vvCells
  have hb0 : Below w.heap.size w (((w.alloc (.cells #[.int .i64 a.kind, .int .i64 a.n, .string a.s, .int .u64 (a.label : Int)] 25)).alloc (.cells #[.int .i64 b.kind, .int .i64 b.n, .string b.s, .int .u64 (b.label : Int)] 25)).alloc (.cells #[.int .i64 0, .int .i64 0, .string ByteArray.empty, .int .u64 0] 25)) := (((Below.refl _ _).alloc (Nat.le_refl _) _).alloc (by simp) _).alloc (by simp; omega) _
  have HB0 := Lib.hid hb0
  clear hb0
  go_enter Try.func48, Try.ntmps48
  go_upto_region 1 with (fail)
  go_cut [8] (fun i w' => i = .bool (bothK 2 a b) ∧ w' = (((w.alloc (.cells #[.int .i64 a.kind, .int .i64 a.n, .string a.s, .int .u64 (a.label : Int)] 25)).alloc (.cells #[.int .i64 b.kind, .int .i64 b.n, .string b.s, .int .u64 (b.label : Int)] 25)).alloc (.cells #[.int .i64 0, .int .i64 0, .string ByteArray.empty, .int .u64 0] 25)))
  case first =>
    clear HB0
    cases ka : (a.kind == 2) <;> cases kb : (b.kind == 2)
    all_goals
      go_wp2
      go_meet
      case rel => exact ⟨by simp [bothK, ka, kb], rfl⟩
  case rest =>
    obtain ⟨rfl, rfl⟩ := hcut
    go_upto_region 2 with (fail)
    go_cut [9] (fun i w' => i = .bool (bothK 3 a b) ∧ w' = (((w.alloc (.cells #[.int .i64 a.kind, .int .i64 a.n, .string a.s, .int .u64 (a.label : Int)] 25)).alloc (.cells #[.int .i64 b.kind, .int .i64 b.n, .string b.s, .int .u64 (b.label : Int)] 25)).alloc (.cells #[.int .i64 0, .int .i64 0, .string ByteArray.empty, .int .u64 0] 25)))
    case first =>
      clear HB0
      cases ka : (a.kind == 3) <;> cases kb : (b.kind == 3)
      all_goals
        go_wp2
        go_meet
        case rel => exact ⟨by simp [bothK, ka, kb], rfl⟩
    case rest =>
      rw [h3] at hcut
      obtain ⟨rfl, rfl⟩ := hcut
      go_wp2
      refine bodyPost_ret (v := .tuple #[.agg (vvCells (⟨3, 0, a.s ++ b.s, 0⟩ : VV)), .string ByteArray.empty]) (by simp [results, Try.results48, go_sem]; first | rfl | exact ⟨rfl, rfl⟩) rfl ⟨rfl, ?_⟩
      repeat' (first | exact HB0.out | exact Below.refl _ _ | refine Below.drew ?_ | refine below_drewN ?_ _ | refine Below.setCell ?_ ?_ _ | refine Below.alloc ?_ ?_ _ | (simp; done) | (simp; omega) | omega)
set_option maxRecDepth 100000 in
set_option maxHeartbeats 4000000 in
theorem raw_nocat (a b : VV) (w : World) (h3 : bothK 3 a b = false) : Calls Try.prog 48 #[.int .i64 9, .agg (vvCells a), .agg (vvCells b)] w (RetT zeroVV sConcat w) := by
  unfold vvCells
  have hb0 : Below w.heap.size w (((w.alloc (.cells #[.int .i64 a.kind, .int .i64 a.n, .string a.s, .int .u64 (a.label : Int)] 25)).alloc (.cells #[.int .i64 b.kind, .int .i64 b.n, .string b.s, .int .u64 (b.label : Int)] 25)).alloc (.cells #[.int .i64 0, .int .i64 0, .string ByteArray.empty, .int .u64 0] 25)) := (((Below.refl _ _).alloc (Nat.le_refl _) _).alloc (by simp) _).alloc (by simp; omega) _
  have HB0 := Lib.hid hb0
  clear hb0
  go_enter Try.func48, Try.ntmps48
  go_upto_region 1 with (fail)
  go_cut [8] (fun i w' => i = .bool (bothK 2 a b) ∧ w' = (((w.alloc (.cells #[.int .i64 a.kind, .int .i64 a.n, .string a.s, .int .u64 (a.label : Int)] 25)).alloc (.cells #[.int .i64 b.kind, .int .i64 b.n, .string b.s, .int .u64 (b.label : Int)] 25)).alloc (.cells #[.int .i64 0, .int .i64 0, .string ByteArray.empty, .int .u64 0] 25)))
  case first =>
    clear HB0
    cases ka : (a.kind == 2) <;> cases kb : (b.kind == 2)
    all_goals
      go_wp2
      go_meet
      case rel => exact ⟨by simp [bothK, ka, kb], rfl⟩
  case rest =>
    obtain ⟨rfl, rfl⟩ := hcut
    go_upto_region 2 with (fail)
    go_cut [9] (fun i w' => i = .bool (bothK 3 a b) ∧ w' = (((w.alloc (.cells #[.int .i64 a.kind, .int .i64 a.n, .string a.s, .int .u64 (a.label : Int)] 25)).alloc (.cells #[.int .i64 b.kind, .int .i64 b.n, .string b.s, .int .u64 (b.label : Int)] 25)).alloc (.cells #[.int .i64 0, .int .i64 0, .string ByteArray.empty, .int .u64 0] 25)))
    case first =>
      clear HB0
      cases ka : (a.kind == 3) <;> cases kb : (b.kind == 3)
      all_goals
        go_wp2
        go_meet
        case rel => exact ⟨by simp [bothK, ka, kb], rfl⟩
    case rest =>
      rw [h3] at hcut
      obtain ⟨rfl, rfl⟩ := hcut
      go_wp2
      refine bodyPost_ret (v := .tuple #[.agg (vvCells zeroVV), .string sConcat]) (by simp [results, Try.results48, go_sem]; first | rfl | exact ⟨rfl, rfl⟩) rfl ⟨rfl, ?_⟩
      repeat' (first | exact HB0.out | exact Below.refl _ _ | refine Below.drew ?_ | refine below_drewN ?_ _ | refine Below.setCell ?_ ?_ _ | refine Below.alloc ?_ ?_ _ | (simp; done) | (simp; omega) | omega)
set_option maxRecDepth 100000 in
set_option maxHeartbeats 4000000 in
theorem raw_lt_str (a b : VV) (w : World) (h2 : bothK 2 a b = false) (h3 : bothK 3 a b = true) : Calls Try.prog 48 #[.int .i64 6, .agg (vvCells a), .agg (vvCells b)] w (RetT (flagV (Op.bytesLess a.s.toList b.s.toList)) ByteArray.empty w) := by
  have hfl := fun (x : Bool) w => rflag_any x w
  unfold vvCells at hfl ⊢
  have hb0 : Below w.heap.size w (((w.alloc (.cells #[.int .i64 a.kind, .int .i64 a.n, .string a.s, .int .u64 (a.label : Int)] 25)).alloc (.cells #[.int .i64 b.kind, .int .i64 b.n, .string b.s, .int .u64 (b.label : Int)] 25)).alloc (.cells #[.int .i64 0, .int .i64 0, .string ByteArray.empty, .int .u64 0] 25)) := (((Below.refl _ _).alloc (Nat.le_refl _) _).alloc (by simp) _).alloc (by simp; omega) _
  have HB0 := Lib.hid hb0
  clear hb0
  cases hl : Op.bytesLess a.s.toList b.s.toList
  all_goals
    go_enter Try.func48, Try.ntmps48
    go_upto_region 1 with (fail)
    go_cut [8] (fun i w' => i = .bool (bothK 2 a b) ∧ w' = (((w.alloc (.cells #[.int .i64 a.kind, .int .i64 a.n, .string a.s, .int .u64 (a.label : Int)] 25)).alloc (.cells #[.int .i64 b.kind, .int .i64 b.n, .string b.s, .int .u64 (b.label : Int)] 25)).alloc (.cells #[.int .i64 0, .int .i64 0, .string ByteArray.empty, .int .u64 0] 25)))
    case first =>
      clear HB0
      cases ka : (a.kind == 2) <;> cases kb : (b.kind == 2)
      all_goals
        go_wp2
        go_meet
        case rel => exact ⟨by simp [bothK, ka, kb], rfl⟩
    case rest =>
      rw [h2] at hcut
      obtain ⟨rfl, rfl⟩ := hcut
      go_upto_region 2 with (fail)
      go_cut [9] (fun i w' => i = .bool (bothK 3 a b) ∧ w' = (((w.alloc (.cells #[.int .i64 a.kind, .int .i64 a.n, .string a.s, .int .u64 (a.label : Int)] 25)).alloc (.cells #[.int .i64 b.kind, .int .i64 b.n, .string b.s, .int .u64 (b.label : Int)] 25)).alloc (.cells #[.int .i64 0, .int .i64 0, .string ByteArray.empty, .int .u64 0] 25)))
      case first =>
        clear HB0
        cases ka : (a.kind == 3) <;> cases kb : (b.kind == 3)
        all_goals
          go_wp2
          go_meet
          case rel => exact ⟨by simp [bothK, ka, kb], rfl⟩
      case rest =>
        rw [h3] at hcut
        obtain ⟨rfl, rfl⟩ := hcut
        go_wp2_with fail
        refine (hfl _ _).mono ?_
        rintro e w1 ⟨rfl, hb1⟩
        obtain ⟨hc1, hf1⟩ := bcell hb1
        have hz1 : w.heap.size + 2 < w1.heap.size := by have := hb1.size; (try simp at this); omega
        have hy1 : w.heap.size < w1.heap.size ∧ w.heap.size + 1 < w1.heap.size := ⟨by omega, by omega⟩
        obtain ⟨hx1, hy1⟩ := hy1
        have HB1 := Lib.hid (show Below w.heap.size w w1 from (HB0.out).trans (hb1.mono (HB0.out).size))
        clear hb1
        go_wp2
        refine bodyPost_ret (v := .tuple #[.agg (vvCells (flagV _)), .string ByteArray.empty]) (by simp [results, Try.results48, go_sem, hc1, hf1, hz1]; first | rfl | exact ⟨rfl, rfl⟩) rfl ⟨rfl, ?_⟩
        repeat' (first | exact HB1.out | exact Below.refl _ _ | refine Below.drew ?_ | refine below_drewN ?_ _ | refine Below.setCell ?_ ?_ _ | refine Below.alloc ?_ ?_ _ | (simp; done) | (simp; omega) | omega)
set_option maxRecDepth 100000 in
set_option maxHeartbeats 4000000 in
theorem raw_lt_int (a b : VV) (w : World) (h2 : bothK 2 a b = true) (h3 : bothK 3 a b = false) : Calls Try.prog 48 #[.int .i64 6, .agg (vvCells a), .agg (vvCells b)] w (RetT (flagV (decide (a.n < b.n))) ByteArray.empty w) := by
  have hfl := fun (x : Bool) w => rflag_any x w
  unfold vvCells at hfl ⊢
  have hb0 : Below w.heap.size w (((w.alloc (.cells #[.int .i64 a.kind, .int .i64 a.n, .string a.s, .int .u64 (a.label : Int)] 25)).alloc (.cells #[.int .i64 b.kind, .int .i64 b.n, .string b.s, .int .u64 (b.label : Int)] 25)).alloc (.cells #[.int .i64 0, .int .i64 0, .string ByteArray.empty, .int .u64 0] 25)) := (((Below.refl _ _).alloc (Nat.le_refl _) _).alloc (by simp) _).alloc (by simp; omega) _
  have HB0 := Lib.hid hb0
  clear hb0
  by_cases hl : a.n < b.n
  all_goals simp only [hl, decide_true, decide_false]
  all_goals
    go_enter Try.func48, Try.ntmps48
    go_upto_region 1 with (fail)
    go_cut [8] (fun i w' => i = .bool (bothK 2 a b) ∧ w' = (((w.alloc (.cells #[.int .i64 a.kind, .int .i64 a.n, .string a.s, .int .u64 (a.label : Int)] 25)).alloc (.cells #[.int .i64 b.kind, .int .i64 b.n, .string b.s, .int .u64 (b.label : Int)] 25)).alloc (.cells #[.int .i64 0, .int .i64 0, .string ByteArray.empty, .int .u64 0] 25)))
    case first =>
      clear HB0
      cases ka : (a.kind == 2) <;> cases kb : (b.kind == 2)
      all_goals
        go_wp2
        go_meet
        case rel => exact ⟨by simp [bothK, ka, kb], rfl⟩
    case rest =>
      rw [h2] at hcut
      obtain ⟨rfl, rfl⟩ := hcut
      go_upto_region 2 with (fail)
      go_cut [9] (fun i w' => i = .bool (bothK 3 a b) ∧ w' = (((w.alloc (.cells #[.int .i64 a.kind, .int .i64 a.n, .string a.s, .int .u64 (a.label : Int)] 25)).alloc (.cells #[.int .i64 b.kind, .int .i64 b.n, .string b.s, .int .u64 (b.label : Int)] 25)).alloc (.cells #[.int .i64 0, .int .i64 0, .string ByteArray.empty, .int .u64 0] 25)))
      case first =>
        clear HB0
        cases ka : (a.kind == 3) <;> cases kb : (b.kind == 3)
        all_goals
          go_wp2
          go_meet
          case rel => exact ⟨by simp [bothK, ka, kb], rfl⟩
      case rest =>
        rw [h3] at hcut
        obtain ⟨rfl, rfl⟩ := hcut
        go_wp2_with fail
        refine (hfl _ _).mono ?_
        rintro e w1 ⟨rfl, hb1⟩
        obtain ⟨hc1, hf1⟩ := bcell hb1
        have hz1 : w.heap.size + 2 < w1.heap.size := by have := hb1.size; (try simp at this); omega
        have hy1 : w.heap.size < w1.heap.size ∧ w.heap.size + 1 < w1.heap.size := ⟨by omega, by omega⟩
        obtain ⟨hx1, hy1⟩ := hy1
        have HB1 := Lib.hid (show Below w.heap.size w w1 from (HB0.out).trans (hb1.mono (HB0.out).size))
        clear hb1
        go_wp2
        refine bodyPost_ret (v := .tuple #[.agg (vvCells (flagV _)), .string ByteArray.empty]) (by simp [results, Try.results48, go_sem, hc1, hf1, hz1]; first | rfl | exact ⟨rfl, rfl⟩) rfl ⟨rfl, ?_⟩
        repeat' (first | exact HB1.out | exact Below.refl _ _ | refine Below.drew ?_ | refine below_drewN ?_ _ | refine Below.setCell ?_ ?_ _ | refine Below.alloc ?_ ?_ _ | (simp; done) | (simp; omega) | omega)
set_option maxRecDepth 100000 in
set_option maxHeartbeats 4000000 in
theorem raw_lt_no (a b : VV) (w : World) (h2 : bothK 2 a b = false) (h3 : bothK 3 a b = false) : Calls Try.prog 48 #[.int .i64 6, .agg (vvCells a), .agg (vvCells b)] w (RetT zeroVV sCompare w) := by
  unfold vvCells
  have hb0 : Below w.heap.size w (((w.alloc (.cells #[.int .i64 a.kind, .int .i64 a.n, .string a.s, .int .u64 (a.label : Int)] 25)).alloc (.cells #[.int .i64 b.kind, .int .i64 b.n, .string b.s, .int .u64 (b.label : Int)] 25)).alloc (.cells #[.int .i64 0, .int .i64 0, .string ByteArray.empty, .int .u64 0] 25)) := (((Below.refl _ _).alloc (Nat.le_refl _) _).alloc (by simp) _).alloc (by simp; omega) _
  have HB0 := Lib.hid hb0
  clear hb0
  go_enter Try.func48, Try.ntmps48
  go_upto_region 1 with (fail)
  go_cut [8] (fun i w' => i = .bool (bothK 2 a b) ∧ w' = (((w.alloc (.cells #[.int .i64 a.kind, .int .i64 a.n, .string a.s, .int .u64 (a.label : Int)] 25)).alloc (.cells #[.int .i64 b.kind, .int .i64 b.n, .string b.s, .int .u64 (b.label : Int)] 25)).alloc (.cells #[.int .i64 0, .int .i64 0, .string ByteArray.empty, .int .u64 0] 25)))
  case first =>
    clear HB0
    cases ka : (a.kind == 2) <;> cases kb : (b.kind == 2)
    all_goals
      go_wp2
      go_meet
      case rel => exact ⟨by simp [bothK, ka, kb], rfl⟩
  case rest =>
    rw [h2] at hcut
    obtain ⟨rfl, rfl⟩ := hcut
    go_upto_region 2 with (fail)
    go_cut [9] (fun i w' => i = .bool (bothK 3 a b) ∧ w' = (((w.alloc (.cells #[.int .i64 a.kind, .int .i64 a.n, .string a.s, .int .u64 (a.label : Int)] 25)).alloc (.cells #[.int .i64 b.kind, .int .i64 b.n, .string b.s, .int .u64 (b.label : Int)] 25)).alloc (.cells #[.int .i64 0, .int .i64 0, .string ByteArray.empty, .int .u64 0] 25)))
    case first =>
      clear HB0
      cases ka : (a.kind == 3) <;> cases kb : (b.kind == 3)
      all_goals
        go_wp2
        go_meet
        case rel => exact ⟨by simp [bothK, ka, kb], rfl⟩
    case rest =>
      rw [h3] at hcut
      obtain ⟨rfl, rfl⟩ := hcut
      go_wp2
      refine bodyPost_ret (v := .tuple #[.agg (vvCells zeroVV), .string sCompare]) (by simp [results, Try.results48, go_sem]; first | rfl | exact ⟨rfl, rfl⟩) rfl ⟨rfl, ?_⟩
      repeat' (first | exact HB0.out | exact Below.refl _ _ | refine Below.drew ?_ | refine below_drewN ?_ _ | refine Below.setCell ?_ ?_ _ | refine Below.alloc ?_ ?_ _ | (simp; done) | (simp; omega) | omega)
set_option maxRecDepth 100000 in
set_option maxHeartbeats 4000000 in
theorem raw_le_str (a b : VV) (w : World) (h2 : bothK 2 a b = false) (h3 : bothK 3 a b = true) : Calls Try.prog 48 #[.int .i64 7, .agg (vvCells a), .agg (vvCells b)] w (RetT (flagV (Op.bytesLess a.s.toList b.s.toList || a.s.toList == b.s.toList)) ByteArray.empty w) := by
  have hfl := fun (x : Bool) w => rflag_any x w
  unfold vvCells at hfl ⊢
  have hb0 : Below w.heap.size w (((w.alloc (.cells #[.int .i64 a.kind, .int .i64 a.n, .string a.s, .int .u64 (a.label : Int)] 25)).alloc (.cells #[.int .i64 b.kind, .int .i64 b.n, .string b.s, .int .u64 (b.label : Int)] 25)).alloc (.cells #[.int .i64 0, .int .i64 0, .string ByteArray.empty, .int .u64 0] 25)) := (((Below.refl _ _).alloc (Nat.le_refl _) _).alloc (by simp) _).alloc (by simp; omega) _
  have HB0 := Lib.hid hb0
  clear hb0
  cases hl : Op.bytesLess a.s.toList b.s.toList <;> cases hl2 : (a.s.toList == b.s.toList)
  all_goals simp only [Bool.true_or, Bool.false_or]
  all_goals
    go_enter Try.func48, Try.ntmps48
    go_upto_region 1 with (fail)
    go_cut [8] (fun i w' => i = .bool (bothK 2 a b) ∧ w' = (((w.alloc (.cells #[.int .i64 a.kind, .int .i64 a.n, .string a.s, .int .u64 (a.label : Int)] 25)).alloc (.cells #[.int .i64 b.kind, .int .i64 b.n, .string b.s, .int .u64 (b.label : Int)] 25)).alloc (.cells #[.int .i64 0, .int .i64 0, .string ByteArray.empty, .int .u64 0] 25)))
    case first =>
      clear HB0
      cases ka : (a.kind == 2) <;> cases kb : (b.kind == 2)
      all_goals
        go_wp2
        go_meet
        case rel => exact ⟨by simp [bothK, ka, kb], rfl⟩
    case rest =>
      rw [h2] at hcut
      obtain ⟨rfl, rfl⟩ := hcut
      go_upto_region 2 with (fail)
      go_cut [9] (fun i w' => i = .bool (bothK 3 a b) ∧ w' = (((w.alloc (.cells #[.int .i64 a.kind, .int .i64 a.n, .string a.s, .int .u64 (a.label : Int)] 25)).alloc (.cells #[.int .i64 b.kind, .int .i64 b.n, .string b.s, .int .u64 (b.label : Int)] 25)).alloc (.cells #[.int .i64 0, .int .i64 0, .string ByteArray.empty, .int .u64 0] 25)))
      case first =>
        clear HB0
        cases ka : (a.kind == 3) <;> cases kb : (b.kind == 3)
        all_goals
          go_wp2
          go_meet
          case rel => exact ⟨by simp [bothK, ka, kb], rfl⟩
      case rest =>
        rw [h3] at hcut
        obtain ⟨rfl, rfl⟩ := hcut
        go_wp2_with fail
        refine (hfl _ _).mono ?_
        rintro e w1 ⟨rfl, hb1⟩
        obtain ⟨hc1, hf1⟩ := bcell hb1
        have hz1 : w.heap.size + 2 < w1.heap.size := by have := hb1.size; (try simp at this); omega
        have hy1 : w.heap.size < w1.heap.size ∧ w.heap.size + 1 < w1.heap.size := ⟨by omega, by omega⟩
        obtain ⟨hx1, hy1⟩ := hy1
        have HB1 := Lib.hid (show Below w.heap.size w w1 from (HB0.out).trans (hb1.mono (HB0.out).size))
        clear hb1
        go_wp2
        refine bodyPost_ret (v := .tuple #[.agg (vvCells (flagV _)), .string ByteArray.empty]) (by simp [results, Try.results48, go_sem, hc1, hf1, hz1]; first | rfl | exact ⟨rfl, rfl⟩) rfl ⟨rfl, ?_⟩
        repeat' (first | exact HB1.out | exact Below.refl _ _ | refine Below.drew ?_ | refine below_drewN ?_ _ | refine Below.setCell ?_ ?_ _ | refine Below.alloc ?_ ?_ _ | (simp; done) | (simp; omega) | omega)
set_option maxRecDepth 100000 in
set_option maxHeartbeats 4000000 in
theorem raw_le_int (a b : VV) (w : World) (h2 : bothK 2 a b = true) (h3 : bothK 3 a b = false) : Calls Try.prog 48 #[.int .i64 7, .agg (vvCells a), .agg (vvCells b)] w (RetT (flagV (decide (a.n ≤ b.n))) ByteArray.empty w) := by
  have hfl := fun (x : Bool) w => rflag_any x w
  unfold vvCells at hfl ⊢
  have hb0 : Below w.heap.size w (((w.alloc (.cells #[.int .i64 a.kind, .int .i64 a.n, .string a.s, .int .u64 (a.label : Int)] 25)).alloc (.cells #[.int .i64 b.kind, .int .i64 b.n, .string b.s, .int .u64 (b.label : Int)] 25)).alloc (.cells #[.int .i64 0, .int .i64 0, .string ByteArray.empty, .int .u64 0] 25)) := (((Below.refl _ _).alloc (Nat.le_refl _) _).alloc (by simp) _).alloc (by simp; omega) _
  have HB0 := Lib.hid hb0
  clear hb0
  by_cases hl : a.n < b.n <;> cases hq : (a.n == b.n)
  all_goals have hq2 := hq
  all_goals simp only [beq_iff_eq, beq_eq_false_iff_ne, ne_eq] at hq2
  all_goals try (exfalso; omega)
  all_goals first
    | rw [show decide (a.n ≤ b.n) = true from by simp; omega]
    | rw [show decide (a.n ≤ b.n) = false from by simp; omega]
  all_goals clear hq2
  all_goals
    go_enter Try.func48, Try.ntmps48
    go_upto_region 1 with (fail)
    go_cut [8] (fun i w' => i = .bool (bothK 2 a b) ∧ w' = (((w.alloc (.cells #[.int .i64 a.kind, .int .i64 a.n, .string a.s, .int .u64 (a.label : Int)] 25)).alloc (.cells #[.int .i64 b.kind, .int .i64 b.n, .string b.s, .int .u64 (b.label : Int)] 25)).alloc (.cells #[.int .i64 0, .int .i64 0, .string ByteArray.empty, .int .u64 0] 25)))
    case first =>
      clear HB0
      cases ka : (a.kind == 2) <;> cases kb : (b.kind == 2)
      all_goals
        go_wp2
        go_meet
        case rel => exact ⟨by simp [bothK, ka, kb], rfl⟩
    case rest =>
      rw [h2] at hcut
      obtain ⟨rfl, rfl⟩ := hcut
      go_upto_region 2 with (fail)
      go_cut [9] (fun i w' => i = .bool (bothK 3 a b) ∧ w' = (((w.alloc (.cells #[.int .i64 a.kind, .int .i64 a.n, .string a.s, .int .u64 (a.label : Int)] 25)).alloc (.cells #[.int .i64 b.kind, .int .i64 b.n, .string b.s, .int .u64 (b.label : Int)] 25)).alloc (.cells #[.int .i64 0, .int .i64 0, .string ByteArray.empty, .int .u64 0] 25)))
      case first =>
        clear HB0
        cases ka : (a.kind == 3) <;> cases kb : (b.kind == 3)
        all_goals
          go_wp2
          go_meet
          case rel => exact ⟨by simp [bothK, ka, kb], rfl⟩
      case rest =>
        rw [h3] at hcut
        obtain ⟨rfl, rfl⟩ := hcut
        go_wp2_with fail
        refine (hfl _ _).mono ?_
        rintro e w1 ⟨rfl, hb1⟩
        obtain ⟨hc1, hf1⟩ := bcell hb1
        have hz1 : w.heap.size + 2 < w1.heap.size := by have := hb1.size; (try simp at this); omega
        have hy1 : w.heap.size < w1.heap.size ∧ w.heap.size + 1 < w1.heap.size := ⟨by omega, by omega⟩
        obtain ⟨hx1, hy1⟩ := hy1
        have HB1 := Lib.hid (show Below w.heap.size w w1 from (HB0.out).trans (hb1.mono (HB0.out).size))
        clear hb1
        go_wp2
        refine bodyPost_ret (v := .tuple #[.agg (vvCells (flagV _)), .string ByteArray.empty]) (by simp [results, Try.results48, go_sem, hc1, hf1, hz1]; first | rfl | exact ⟨rfl, rfl⟩) rfl ⟨rfl, ?_⟩
        repeat' (first | exact HB1.out | exact Below.refl _ _ | refine Below.drew ?_ | refine below_drewN ?_ _ | refine Below.setCell ?_ ?_ _ | refine Below.alloc ?_ ?_ _ | (simp; done) | (simp; omega) | omega)
set_option maxRecDepth 100000 in
set_option maxHeartbeats 4000000 in
theorem raw_le_no (a b : VV) (w : World) (h2 : bothK 2 a b = false) (h3 : bothK 3 a b = false) : Calls Try.prog 48 #[.int .i64 7, .agg (vvCells a), .agg (vvCells b)] w (RetT zeroVV sCompare w) := by
  unfold vvCells
  have hb0 : Below w.heap.size w (((w.alloc (.cells #[.int .i64 a.kind, .int .i64 a.n, .string a.s, .int .u64 (a.label : Int)] 25)).alloc (.cells #[.int .i64 b.kind, .int .i64 b.n, .string b.s, .int .u64 (b.label : Int)] 25)).alloc (.cells #[.int .i64 0, .int .i64 0, .string ByteArray.empty, .int .u64 0] 25)) := (((Below.refl _ _).alloc (Nat.le_refl _) _).alloc (by simp) _).alloc (by simp; omega) _
  have HB0 := Lib.hid hb0
  clear hb0
  go_enter Try.func48, Try.ntmps48
  go_upto_region 1 with (fail)
  go_cut [8] (fun i w' => i = .bool (bothK 2 a b) ∧ w' = (((w.alloc (.cells #[.int .i64 a.kind, .int .i64 a.n, .string a.s, .int .u64 (a.label : Int)] 25)).alloc (.cells #[.int .i64 b.kind, .int .i64 b.n, .string b.s, .int .u64 (b.label : Int)] 25)).alloc (.cells #[.int .i64 0, .int .i64 0, .string ByteArray.empty, .int .u64 0] 25)))
  case first =>
    clear HB0
    cases ka : (a.kind == 2) <;> cases kb : (b.kind == 2)
    all_goals
      go_wp2
      go_meet
      case rel => exact ⟨by simp [bothK, ka, kb], rfl⟩
  case rest =>
    rw [h2] at hcut
    obtain ⟨rfl, rfl⟩ := hcut
    go_upto_region 2 with (fail)
    go_cut [9] (fun i w' => i = .bool (bothK 3 a b) ∧ w' = (((w.alloc (.cells #[.int .i64 a.kind, .int .i64 a.n, .string a.s, .int .u64 (a.label : Int)] 25)).alloc (.cells #[.int .i64 b.kind, .int .i64 b.n, .string b.s, .int .u64 (b.label : Int)] 25)).alloc (.cells #[.int .i64 0, .int .i64 0, .string ByteArray.empty, .int .u64 0] 25)))
    case first =>
      clear HB0
      cases ka : (a.kind == 3) <;> cases kb : (b.kind == 3)
      all_goals
        go_wp2
        go_meet
        case rel => exact ⟨by simp [bothK, ka, kb], rfl⟩
    case rest =>
      rw [h3] at hcut
      obtain ⟨rfl, rfl⟩ := hcut
      go_wp2
      refine bodyPost_ret (v := .tuple #[.agg (vvCells zeroVV), .string sCompare]) (by simp [results, Try.results48, go_sem]; first | rfl | exact ⟨rfl, rfl⟩) rfl ⟨rfl, ?_⟩
      repeat' (first | exact HB0.out | exact Below.refl _ _ | refine Below.drew ?_ | refine below_drewN ?_ _ | refine Below.setCell ?_ ?_ _ | refine Below.alloc ?_ ?_ _ | (simp; done) | (simp; omega) | omega)
end Go.Proofs.Ythhphjfbdoffhaa
