/-
  The operators on values: what they answer, or why not; the program's walk, and its panic.
-/
import Derived.Test.YthhphjfbdoffhaaVal
set_option linter.unusedVariables false
set_option linter.unusedSimpArgs false
namespace Go.Proofs.Ythhphjfbdoffhaa
open Go.ChangeShapes Go.WideShapes Go.ChangeAt Go.RowKit

theorem bcell {W w1 : World} (hb : Below W.heap.size W w1) : (∀ b o, b < W.heap.size → w1.cell? ⟨b, o, none⟩ = W.cell? ⟨b, o, none⟩) ∧ (∀ b o, b < W.heap.size → w1.frozen? ⟨b, o, none⟩ = W.frozen? ⟨b, o, none⟩) :=
  ⟨fun b o h => hb.cell (p := ⟨b, o, none⟩) h, fun b o h => hb.frozen (p := ⟨b, o, none⟩) h⟩
def sArith : ByteArray := ⟨#[97, 114, 105, 116, 104]⟩
def sDivide : ByteArray := ⟨#[100, 105, 118, 105, 100, 101]⟩
def sConcat : ByteArray := ⟨#[99, 111, 110, 99, 97, 116]⟩
def sCompare : ByteArray := ⟨#[99, 111, 109, 112, 97, 114, 101]⟩
/-- The answer without labels, or why not. -/
def doneS (op : Int) (a b : VV) : Except ByteArray VV :=
  if op = 8 then .ok (flagV (sameV a b))
  else if op = 9 then (if bothK 3 a b then .ok ⟨3, 0, a.s ++ b.s, 0⟩ else .error sConcat)
  else if op = 6 then (if bothK 3 a b then .ok (flagV (Op.bytesLess a.s.toList b.s.toList)) else if bothK 2 a b then .ok (flagV (decide (a.n < b.n))) else .error sCompare)
  else if op = 7 then (if bothK 3 a b then .ok (flagV (Op.bytesLess a.s.toList b.s.toList || a.s.toList == b.s.toList)) else if bothK 2 a b then .ok (flagV (decide (a.n ≤ b.n))) else .error sCompare)
  else if 1 ≤ op ∧ op ≤ 5 ∧ bothK 2 a b = true then (match doS op a.n b.n with | some n => .ok ⟨2, n, ByteArray.empty, 0⟩ | none => .error sDivide)
  else .error sArith
/-- What a call returned, or how it panicked; old memory as it was. -/
def OutV (r : Except ByteArray VV) (w : World) (e : Ending) (w' : World) : Prop := (match r with | .ok v => e = .returned (.agg (vvCells v)) | .error s => e = .panicked (troubleV s)) ∧ Below w.heap.size w w'

theorem do_lt (x y : Int) (w : World) (a0 : -9223372036854775808 ≤ x) (a1 : x ≤ 9223372036854775807) (b0 : -9223372036854775808 ≤ y) (b1 : y ≤ 9223372036854775807) : Calls Try.prog 67 #[.int .i64 6, .int .i64 x, .int .i64 y] w (RetD (.tuple #[.int .i64 (if x < y then 1 else 0), .bool true]) w) := ndo_any 6 x y w a0 a1 b0 b1
theorem do_le (x y : Int) (w : World) (a0 : -9223372036854775808 ≤ x) (a1 : x ≤ 9223372036854775807) (b0 : -9223372036854775808 ≤ y) (b1 : y ≤ 9223372036854775807) : Calls Try.prog 67 #[.int .i64 7, .int .i64 x, .int .i64 y] w (RetD (.tuple #[.int .i64 (if x ≤ y then 1 else 0), .bool true]) w) := ndo_any 7 x y w a0 a1 b0 b1
set_option maxRecDepth 100000 in
set_option maxHeartbeats 4000000 in
theorem done_eq (a b : VV) (w : World) : Calls Try.prog 47 #[.int .i64 8, .agg (vvCells a), .agg (vvCells b)] w (OutV (.ok (flagV (sameV a b))) w) := by
  have hs := fun w => same_any a b w
  have hfl := fun w => vflag_any (sameV a b) w
  unfold vvCells at hs hfl ⊢
  have hb0 : Below w.heap.size w (((w.alloc (.cells #[.int .i64 a.kind, .int .i64 a.n, .string a.s, .int .u64 (a.label : Int)] 25)).alloc (.cells #[.int .i64 b.kind, .int .i64 b.n, .string b.s, .int .u64 (b.label : Int)] 25)).alloc (.cells #[.int .i64 0, .int .i64 0, .string ByteArray.empty, .int .u64 0] 25)) := (((Below.refl _ _).alloc (Nat.le_refl _) _).alloc (by simp) _).alloc (by simp; omega) _
  have HB0 := Lib.hid hb0
  clear hb0
  go_enter Try.func47, Try.ntmps47
  go_wp2_with fail
  refine (hs _).mono ?_
  rintro e w1 ⟨rfl, hb1⟩
  obtain ⟨hc1, hf1⟩ := bcell hb1
  have hz1 : w.heap.size + 2 < w1.heap.size := by have := hb1.size; (try simp at this); omega
  have hy1 : w.heap.size < w1.heap.size ∧ w.heap.size + 1 < w1.heap.size := ⟨by omega, by omega⟩
  obtain ⟨hx1, hy1⟩ := hy1
  have HB1 := Lib.hid (show Below w.heap.size w w1 from (HB0.out).trans (hb1.mono (HB0.out).size))
  clear hb1
  go_wp2_with fail
  refine (hfl _).mono ?_
  rintro e w2 ⟨rfl, hb2⟩
  obtain ⟨hc2, hf2⟩ := bcell hb2
  have hz2 : w.heap.size + 2 < w2.heap.size := by have := hb2.size; (try simp at this); omega
  have hy2 : w.heap.size < w2.heap.size ∧ w.heap.size + 1 < w2.heap.size := ⟨by omega, by omega⟩
  obtain ⟨hx2, hy2⟩ := hy2
  have HB2 := Lib.hid (show Below w.heap.size w w2 from (HB1.out).trans (hb2.mono (HB1.out).size))
  clear hb2
  go_wp2
  refine bodyPost_ret (v := .agg (vvCells (flagV (sameV a b)))) (by simp [results, Try.results47, go_sem, hc1, hf1, hz1, hc2, hf2, hz2]; rfl) rfl ⟨rfl, ?_⟩
  repeat' (first | exact HB2.out | exact Below.refl _ _ | refine Below.drew ?_ | refine below_drewN ?_ _ | refine Below.setCell ?_ ?_ _ | refine Below.alloc ?_ ?_ _ | (simp; done) | (simp; omega) | omega)
set_option maxRecDepth 100000 in
set_option maxHeartbeats 4000000 in
theorem done_cat (a b : VV) (w : World) (h3 : bothK 3 a b = true) (hsz : a.s.size + b.s.size ≤ 1000000) : Calls Try.prog 47 #[.int .i64 9, .agg (vvCells a), .agg (vvCells b)] w (OutV (.ok (⟨3, 0, a.s ++ b.s, 0⟩ : VV)) w) := by
  have hbt : ∀ w, Calls Try.prog 66 #[.int .i64 3, .agg (vvCells a), .agg (vvCells b)] w (RetB (.bool true) w) := fun w => h3 ▸ both_any 3 a b w
  unfold vvCells at hbt ⊢
  have hb0 : Below w.heap.size w (((w.alloc (.cells #[.int .i64 a.kind, .int .i64 a.n, .string a.s, .int .u64 (a.label : Int)] 25)).alloc (.cells #[.int .i64 b.kind, .int .i64 b.n, .string b.s, .int .u64 (b.label : Int)] 25)).alloc (.cells #[.int .i64 0, .int .i64 0, .string ByteArray.empty, .int .u64 0] 25)) := (((Below.refl _ _).alloc (Nat.le_refl _) _).alloc (by simp) _).alloc (by simp; omega) _
  have HB0 := Lib.hid hb0
  clear hb0
  go_enter Try.func47, Try.ntmps47
  go_wp2_with fail
  refine (hbt _).mono ?_
  rintro e w1 ⟨rfl, hb1⟩
  obtain ⟨hc1, hf1⟩ := bcell hb1
  have hz1 : w.heap.size + 2 < w1.heap.size := by have := hb1.size; (try simp at this); omega
  have hy1 : w.heap.size < w1.heap.size ∧ w.heap.size + 1 < w1.heap.size := ⟨by omega, by omega⟩
  obtain ⟨hx1, hy1⟩ := hy1
  have HB1 := Lib.hid (show Below w.heap.size w w1 from (HB0.out).trans (hb1.mono (HB0.out).size))
  clear hb1
  go_wp2_with fail
  refine (must_ok _ _).mono ?_
  rintro e wx ⟨rfl, rfl⟩
  go_wp2
  refine bodyPost_ret (v := .agg (vvCells (⟨3, 0, a.s ++ b.s, 0⟩ : VV))) (by simp [results, Try.results47, go_sem, hc1, hf1, hz1]; rfl) rfl ⟨rfl, ?_⟩
  repeat' (first | exact HB1.out | exact Below.refl _ _ | refine Below.drew ?_ | refine below_drewN ?_ _ | refine Below.setCell ?_ ?_ _ | refine Below.alloc ?_ ?_ _ | (simp; done) | (simp; omega) | omega)
set_option maxRecDepth 100000 in
set_option maxHeartbeats 4000000 in
theorem done_nocat (a b : VV) (w : World) (h3 : bothK 3 a b = false) : Calls Try.prog 47 #[.int .i64 9, .agg (vvCells a), .agg (vvCells b)] w (OutV (.error sConcat) w) := by
  have hbt : ∀ w, Calls Try.prog 66 #[.int .i64 3, .agg (vvCells a), .agg (vvCells b)] w (RetB (.bool false) w) := fun w => h3 ▸ both_any 3 a b w
  unfold vvCells at hbt ⊢
  have hb0 : Below w.heap.size w (((w.alloc (.cells #[.int .i64 a.kind, .int .i64 a.n, .string a.s, .int .u64 (a.label : Int)] 25)).alloc (.cells #[.int .i64 b.kind, .int .i64 b.n, .string b.s, .int .u64 (b.label : Int)] 25)).alloc (.cells #[.int .i64 0, .int .i64 0, .string ByteArray.empty, .int .u64 0] 25)) := (((Below.refl _ _).alloc (Nat.le_refl _) _).alloc (by simp) _).alloc (by simp; omega) _
  have HB0 := Lib.hid hb0
  clear hb0
  go_enter Try.func47, Try.ntmps47
  go_wp2_with fail
  refine (hbt _).mono ?_
  rintro e w1 ⟨rfl, hb1⟩
  obtain ⟨hc1, hf1⟩ := bcell hb1
  have hz1 : w.heap.size + 2 < w1.heap.size := by have := hb1.size; (try simp at this); omega
  have hy1 : w.heap.size < w1.heap.size ∧ w.heap.size + 1 < w1.heap.size := ⟨by omega, by omega⟩
  obtain ⟨hx1, hy1⟩ := hy1
  have HB1 := Lib.hid (show Below w.heap.size w w1 from (HB0.out).trans (hb1.mono (HB0.out).size))
  clear hb1
  go_wp2_with fail
  refine (must_no _ _).mono ?_
  rintro e wx ⟨rfl, rfl⟩
  go_wp2
  refine ⟨rfl, rfl, ?_⟩
  repeat' (first | exact HB1.out | exact Below.refl _ _ | refine Below.drew ?_ | refine below_drewN ?_ _ | refine Below.setCell ?_ ?_ _ | refine Below.alloc ?_ ?_ _ | (simp; done) | (simp; omega) | omega)
set_option maxRecDepth 100000 in
set_option maxHeartbeats 4000000 in
theorem done_lt_str (a b : VV) (w : World) (h3 : bothK 3 a b = true) : Calls Try.prog 47 #[.int .i64 6, .agg (vvCells a), .agg (vvCells b)] w (OutV (.ok (flagV (Op.bytesLess a.s.toList b.s.toList))) w) := by
  have hbt : ∀ w, Calls Try.prog 66 #[.int .i64 3, .agg (vvCells a), .agg (vvCells b)] w (RetB (.bool true) w) := fun w => h3 ▸ both_any 3 a b w
  have hfl := fun (x : Bool) w => vflag_any x w
  unfold vvCells at hbt hfl ⊢
  have hb0 : Below w.heap.size w (((w.alloc (.cells #[.int .i64 a.kind, .int .i64 a.n, .string a.s, .int .u64 (a.label : Int)] 25)).alloc (.cells #[.int .i64 b.kind, .int .i64 b.n, .string b.s, .int .u64 (b.label : Int)] 25)).alloc (.cells #[.int .i64 0, .int .i64 0, .string ByteArray.empty, .int .u64 0] 25)) := (((Below.refl _ _).alloc (Nat.le_refl _) _).alloc (by simp) _).alloc (by simp; omega) _
  have HB0 := Lib.hid hb0
  clear hb0
  cases hl : Op.bytesLess a.s.toList b.s.toList
  all_goals
    go_enter Try.func47, Try.ntmps47
    go_wp2_with fail
    refine (hbt _).mono ?_
    rintro e w1 ⟨rfl, hb1⟩
    obtain ⟨hc1, hf1⟩ := bcell hb1
    have hz1 : w.heap.size + 2 < w1.heap.size := by have := hb1.size; (try simp at this); omega
    have hy1 : w.heap.size < w1.heap.size ∧ w.heap.size + 1 < w1.heap.size := ⟨by omega, by omega⟩
    obtain ⟨hx1, hy1⟩ := hy1
    have HB1 := Lib.hid (show Below w.heap.size w w1 from (HB0.out).trans (hb1.mono (HB0.out).size))
    clear hb1
    go_wp2_with fail
    refine (hfl _ _).mono ?_
    rintro e w2 ⟨rfl, hb2⟩
    obtain ⟨hc2, hf2⟩ := bcell hb2
    have hz2 : w.heap.size + 2 < w2.heap.size := by have := hb2.size; (try simp at this); omega
    have hy2 : w.heap.size < w2.heap.size ∧ w.heap.size + 1 < w2.heap.size := ⟨by omega, by omega⟩
    obtain ⟨hx2, hy2⟩ := hy2
    have HB2 := Lib.hid (show Below w.heap.size w w2 from (HB1.out).trans (hb2.mono (HB1.out).size))
    clear hb2
    go_wp2
    refine bodyPost_ret (v := .agg (vvCells (flagV _))) (by simp [results, Try.results47, go_sem, hc1, hf1, hz1, hc2, hf2, hz2]; rfl) rfl ⟨rfl, ?_⟩
    repeat' (first | exact HB2.out | exact Below.refl _ _ | refine Below.drew ?_ | refine below_drewN ?_ _ | refine Below.setCell ?_ ?_ _ | refine Below.alloc ?_ ?_ _ | (simp; done) | (simp; omega) | omega)
set_option maxRecDepth 100000 in
set_option maxHeartbeats 4000000 in
theorem done_lt_int (a b : VV) (w : World) (h3 : bothK 3 a b = false) (h2 : bothK 2 a b = true) (ha : -9223372036854775808 ≤ a.n ∧ a.n ≤ 9223372036854775807) (hb : -9223372036854775808 ≤ b.n ∧ b.n ≤ 9223372036854775807) : Calls Try.prog 47 #[.int .i64 6, .agg (vvCells a), .agg (vvCells b)] w (OutV (.ok (flagV (decide (a.n < b.n)))) w) := by
  have hbt : ∀ w, Calls Try.prog 66 #[.int .i64 3, .agg (vvCells a), .agg (vvCells b)] w (RetB (.bool false) w) := fun w => h3 ▸ both_any 3 a b w
  have hbu : ∀ w, Calls Try.prog 66 #[.int .i64 2, .agg (vvCells a), .agg (vvCells b)] w (RetB (.bool true) w) := fun w => h2 ▸ both_any 2 a b w
  have hdo : ∀ w, Calls Try.prog 67 #[.int .i64 6, .int .i64 a.n, .int .i64 b.n] w (RetD (.tuple #[.int .i64 (if (a.n < b.n) then 1 else 0), .bool true]) w) := fun w => do_lt a.n b.n w ha.1 ha.2 hb.1 hb.2
  have hfl : ∀ w, Calls Try.prog 51 #[.bool ((if (a.n < b.n) then (1 : Int) else 0) == 1)] w (RetB (.agg (vvCells (flagV (decide (a.n < b.n))))) w) := fun w => by have := vflag_any (decide (a.n < b.n)) w; by_cases h : (a.n < b.n) <;> simpa [h] using this
  unfold vvCells at hbt hbu hfl ⊢
  generalize hx : (if (a.n < b.n) then (1 : Int) else 0) = x at hdo hfl
  clear hx ha hb
  have hb0 : Below w.heap.size w (((w.alloc (.cells #[.int .i64 a.kind, .int .i64 a.n, .string a.s, .int .u64 (a.label : Int)] 25)).alloc (.cells #[.int .i64 b.kind, .int .i64 b.n, .string b.s, .int .u64 (b.label : Int)] 25)).alloc (.cells #[.int .i64 0, .int .i64 0, .string ByteArray.empty, .int .u64 0] 25)) := (((Below.refl _ _).alloc (Nat.le_refl _) _).alloc (by simp) _).alloc (by simp; omega) _
  have HB0 := Lib.hid hb0
  clear hb0
  go_enter Try.func47, Try.ntmps47
  go_wp2_with fail
  refine (hbt _).mono ?_
  rintro e w1 ⟨rfl, hb1⟩
  obtain ⟨hc1, hf1⟩ := bcell hb1
  have hz1 : w.heap.size + 2 < w1.heap.size := by have := hb1.size; (try simp at this); omega
  have hy1 : w.heap.size < w1.heap.size ∧ w.heap.size + 1 < w1.heap.size := ⟨by omega, by omega⟩
  obtain ⟨hx1, hy1⟩ := hy1
  have HB1 := Lib.hid (show Below w.heap.size w w1 from (HB0.out).trans (hb1.mono (HB0.out).size))
  clear hb1
  go_wp2_with fail
  refine (hbu _).mono ?_
  rintro e w2 ⟨rfl, hb2⟩
  obtain ⟨hc2, hf2⟩ := bcell hb2
  have hz2 : w.heap.size + 2 < w2.heap.size := by have := hb2.size; (try simp at this); omega
  have hy2 : w.heap.size < w2.heap.size ∧ w.heap.size + 1 < w2.heap.size := ⟨by omega, by omega⟩
  obtain ⟨hx2, hy2⟩ := hy2
  have HB2 := Lib.hid (show Below w.heap.size w w2 from (HB1.out).trans (hb2.mono (HB1.out).size))
  clear hb2
  go_wp2_with fail
  refine (must_ok _ _).mono ?_
  rintro e wx ⟨rfl, rfl⟩
  go_wp2_with fail
  refine (hdo _).mono ?_
  rintro e wx ⟨rfl, nd3, rfl⟩
  go_wp2_with fail
  refine (hfl _).mono ?_
  rintro e w4 ⟨rfl, hb4⟩
  have hb4 : Below w2.heap.size w2 w4 := (below_drewN (Below.refl _ _) nd3).trans hb4
  obtain ⟨hc4, hf4⟩ := bcell hb4
  have hz4 : w.heap.size + 2 < w4.heap.size := by have := hb4.size; (try simp at this); omega
  have hy4 : w.heap.size < w4.heap.size ∧ w.heap.size + 1 < w4.heap.size := ⟨by omega, by omega⟩
  obtain ⟨hx4, hy4⟩ := hy4
  have HB4 := Lib.hid (show Below w.heap.size w w4 from (HB2.out).trans (hb4.mono (HB2.out).size))
  clear hb4
  go_wp2
  refine bodyPost_ret (v := .agg (vvCells (flagV (decide (a.n < b.n))))) (by simp [results, Try.results47, go_sem, hc1, hf1, hz1, hc2, hf2, hz2, hc4, hf4, hz4]; rfl) rfl ⟨rfl, ?_⟩
  repeat' (first | exact HB4.out | exact Below.refl _ _ | refine Below.drew ?_ | refine below_drewN ?_ _ | refine Below.setCell ?_ ?_ _ | refine Below.alloc ?_ ?_ _ | (simp; done) | (simp; omega) | omega)
set_option maxRecDepth 100000 in
set_option maxHeartbeats 4000000 in
theorem done_lt_no (a b : VV) (w : World) (h3 : bothK 3 a b = false) (h2 : bothK 2 a b = false) : Calls Try.prog 47 #[.int .i64 6, .agg (vvCells a), .agg (vvCells b)] w (OutV (.error sCompare) w) := by
  have hbt : ∀ w, Calls Try.prog 66 #[.int .i64 3, .agg (vvCells a), .agg (vvCells b)] w (RetB (.bool false) w) := fun w => h3 ▸ both_any 3 a b w
  have hbu : ∀ w, Calls Try.prog 66 #[.int .i64 2, .agg (vvCells a), .agg (vvCells b)] w (RetB (.bool false) w) := fun w => h2 ▸ both_any 2 a b w
  unfold vvCells at hbt hbu ⊢
  have hb0 : Below w.heap.size w (((w.alloc (.cells #[.int .i64 a.kind, .int .i64 a.n, .string a.s, .int .u64 (a.label : Int)] 25)).alloc (.cells #[.int .i64 b.kind, .int .i64 b.n, .string b.s, .int .u64 (b.label : Int)] 25)).alloc (.cells #[.int .i64 0, .int .i64 0, .string ByteArray.empty, .int .u64 0] 25)) := (((Below.refl _ _).alloc (Nat.le_refl _) _).alloc (by simp) _).alloc (by simp; omega) _
  have HB0 := Lib.hid hb0
  clear hb0
  go_enter Try.func47, Try.ntmps47
  go_wp2_with fail
  refine (hbt _).mono ?_
  rintro e w1 ⟨rfl, hb1⟩
  obtain ⟨hc1, hf1⟩ := bcell hb1
  have hz1 : w.heap.size + 2 < w1.heap.size := by have := hb1.size; (try simp at this); omega
  have hy1 : w.heap.size < w1.heap.size ∧ w.heap.size + 1 < w1.heap.size := ⟨by omega, by omega⟩
  obtain ⟨hx1, hy1⟩ := hy1
  have HB1 := Lib.hid (show Below w.heap.size w w1 from (HB0.out).trans (hb1.mono (HB0.out).size))
  clear hb1
  go_wp2_with fail
  refine (hbu _).mono ?_
  rintro e w2 ⟨rfl, hb2⟩
  obtain ⟨hc2, hf2⟩ := bcell hb2
  have hz2 : w.heap.size + 2 < w2.heap.size := by have := hb2.size; (try simp at this); omega
  have hy2 : w.heap.size < w2.heap.size ∧ w.heap.size + 1 < w2.heap.size := ⟨by omega, by omega⟩
  obtain ⟨hx2, hy2⟩ := hy2
  have HB2 := Lib.hid (show Below w.heap.size w w2 from (HB1.out).trans (hb2.mono (HB1.out).size))
  clear hb2
  go_wp2_with fail
  refine (must_no _ _).mono ?_
  rintro e wx ⟨rfl, rfl⟩
  go_wp2
  refine ⟨rfl, rfl, ?_⟩
  repeat' (first | exact HB2.out | exact Below.refl _ _ | refine Below.drew ?_ | refine below_drewN ?_ _ | refine Below.setCell ?_ ?_ _ | refine Below.alloc ?_ ?_ _ | (simp; done) | (simp; omega) | omega)
set_option maxRecDepth 100000 in
set_option maxHeartbeats 4000000 in
theorem done_le_str (a b : VV) (w : World) (h3 : bothK 3 a b = true) : Calls Try.prog 47 #[.int .i64 7, .agg (vvCells a), .agg (vvCells b)] w (OutV (.ok (flagV (Op.bytesLess a.s.toList b.s.toList || a.s.toList == b.s.toList))) w) := by
  have hbt : ∀ w, Calls Try.prog 66 #[.int .i64 3, .agg (vvCells a), .agg (vvCells b)] w (RetB (.bool true) w) := fun w => h3 ▸ both_any 3 a b w
  have hfl := fun (x : Bool) w => vflag_any x w
  unfold vvCells at hbt hfl ⊢
  have hb0 : Below w.heap.size w (((w.alloc (.cells #[.int .i64 a.kind, .int .i64 a.n, .string a.s, .int .u64 (a.label : Int)] 25)).alloc (.cells #[.int .i64 b.kind, .int .i64 b.n, .string b.s, .int .u64 (b.label : Int)] 25)).alloc (.cells #[.int .i64 0, .int .i64 0, .string ByteArray.empty, .int .u64 0] 25)) := (((Below.refl _ _).alloc (Nat.le_refl _) _).alloc (by simp) _).alloc (by simp; omega) _
  have HB0 := Lib.hid hb0
  clear hb0
  cases hl : Op.bytesLess a.s.toList b.s.toList <;> cases hl2 : (a.s.toList == b.s.toList)
  all_goals simp only [Bool.true_or, Bool.false_or]
  all_goals
    go_enter Try.func47, Try.ntmps47
    go_wp2_with fail
    refine (hbt _).mono ?_
    rintro e w1 ⟨rfl, hb1⟩
    obtain ⟨hc1, hf1⟩ := bcell hb1
    have hz1 : w.heap.size + 2 < w1.heap.size := by have := hb1.size; (try simp at this); omega
    have hy1 : w.heap.size < w1.heap.size ∧ w.heap.size + 1 < w1.heap.size := ⟨by omega, by omega⟩
    obtain ⟨hx1, hy1⟩ := hy1
    have HB1 := Lib.hid (show Below w.heap.size w w1 from (HB0.out).trans (hb1.mono (HB0.out).size))
    clear hb1
    go_wp2_with fail
    refine (hfl _ _).mono ?_
    rintro e w2 ⟨rfl, hb2⟩
    obtain ⟨hc2, hf2⟩ := bcell hb2
    have hz2 : w.heap.size + 2 < w2.heap.size := by have := hb2.size; (try simp at this); omega
    have hy2 : w.heap.size < w2.heap.size ∧ w.heap.size + 1 < w2.heap.size := ⟨by omega, by omega⟩
    obtain ⟨hx2, hy2⟩ := hy2
    have HB2 := Lib.hid (show Below w.heap.size w w2 from (HB1.out).trans (hb2.mono (HB1.out).size))
    clear hb2
    go_wp2
    refine bodyPost_ret (v := .agg (vvCells (flagV _))) (by simp [results, Try.results47, go_sem, hc1, hf1, hz1, hc2, hf2, hz2]; rfl) rfl ⟨rfl, ?_⟩
    repeat' (first | exact HB2.out | exact Below.refl _ _ | refine Below.drew ?_ | refine below_drewN ?_ _ | refine Below.setCell ?_ ?_ _ | refine Below.alloc ?_ ?_ _ | (simp; done) | (simp; omega) | omega)
set_option maxRecDepth 100000 in
set_option maxHeartbeats 4000000 in
theorem done_le_int (a b : VV) (w : World) (h3 : bothK 3 a b = false) (h2 : bothK 2 a b = true) (ha : -9223372036854775808 ≤ a.n ∧ a.n ≤ 9223372036854775807) (hb : -9223372036854775808 ≤ b.n ∧ b.n ≤ 9223372036854775807) : Calls Try.prog 47 #[.int .i64 7, .agg (vvCells a), .agg (vvCells b)] w (OutV (.ok (flagV (decide (a.n ≤ b.n)))) w) := by
  have hbt : ∀ w, Calls Try.prog 66 #[.int .i64 3, .agg (vvCells a), .agg (vvCells b)] w (RetB (.bool false) w) := fun w => h3 ▸ both_any 3 a b w
  have hbu : ∀ w, Calls Try.prog 66 #[.int .i64 2, .agg (vvCells a), .agg (vvCells b)] w (RetB (.bool true) w) := fun w => h2 ▸ both_any 2 a b w
  have hdo : ∀ w, Calls Try.prog 67 #[.int .i64 7, .int .i64 a.n, .int .i64 b.n] w (RetD (.tuple #[.int .i64 (if (a.n ≤ b.n) then 1 else 0), .bool true]) w) := fun w => do_le a.n b.n w ha.1 ha.2 hb.1 hb.2
  have hfl : ∀ w, Calls Try.prog 51 #[.bool ((if (a.n ≤ b.n) then (1 : Int) else 0) == 1)] w (RetB (.agg (vvCells (flagV (decide (a.n ≤ b.n))))) w) := fun w => by have := vflag_any (decide (a.n ≤ b.n)) w; by_cases h : (a.n ≤ b.n) <;> simpa [h] using this
  unfold vvCells at hbt hbu hfl ⊢
  generalize hx : (if (a.n ≤ b.n) then (1 : Int) else 0) = x at hdo hfl
  clear hx ha hb
  have hb0 : Below w.heap.size w (((w.alloc (.cells #[.int .i64 a.kind, .int .i64 a.n, .string a.s, .int .u64 (a.label : Int)] 25)).alloc (.cells #[.int .i64 b.kind, .int .i64 b.n, .string b.s, .int .u64 (b.label : Int)] 25)).alloc (.cells #[.int .i64 0, .int .i64 0, .string ByteArray.empty, .int .u64 0] 25)) := (((Below.refl _ _).alloc (Nat.le_refl _) _).alloc (by simp) _).alloc (by simp; omega) _
  have HB0 := Lib.hid hb0
  clear hb0
  go_enter Try.func47, Try.ntmps47
  go_wp2_with fail
  refine (hbt _).mono ?_
  rintro e w1 ⟨rfl, hb1⟩
  obtain ⟨hc1, hf1⟩ := bcell hb1
  have hz1 : w.heap.size + 2 < w1.heap.size := by have := hb1.size; (try simp at this); omega
  have hy1 : w.heap.size < w1.heap.size ∧ w.heap.size + 1 < w1.heap.size := ⟨by omega, by omega⟩
  obtain ⟨hx1, hy1⟩ := hy1
  have HB1 := Lib.hid (show Below w.heap.size w w1 from (HB0.out).trans (hb1.mono (HB0.out).size))
  clear hb1
  go_wp2_with fail
  refine (hbu _).mono ?_
  rintro e w2 ⟨rfl, hb2⟩
  obtain ⟨hc2, hf2⟩ := bcell hb2
  have hz2 : w.heap.size + 2 < w2.heap.size := by have := hb2.size; (try simp at this); omega
  have hy2 : w.heap.size < w2.heap.size ∧ w.heap.size + 1 < w2.heap.size := ⟨by omega, by omega⟩
  obtain ⟨hx2, hy2⟩ := hy2
  have HB2 := Lib.hid (show Below w.heap.size w w2 from (HB1.out).trans (hb2.mono (HB1.out).size))
  clear hb2
  go_wp2_with fail
  refine (must_ok _ _).mono ?_
  rintro e wx ⟨rfl, rfl⟩
  go_wp2_with fail
  refine (hdo _).mono ?_
  rintro e wx ⟨rfl, nd3, rfl⟩
  go_wp2_with fail
  refine (hfl _).mono ?_
  rintro e w4 ⟨rfl, hb4⟩
  have hb4 : Below w2.heap.size w2 w4 := (below_drewN (Below.refl _ _) nd3).trans hb4
  obtain ⟨hc4, hf4⟩ := bcell hb4
  have hz4 : w.heap.size + 2 < w4.heap.size := by have := hb4.size; (try simp at this); omega
  have hy4 : w.heap.size < w4.heap.size ∧ w.heap.size + 1 < w4.heap.size := ⟨by omega, by omega⟩
  obtain ⟨hx4, hy4⟩ := hy4
  have HB4 := Lib.hid (show Below w.heap.size w w4 from (HB2.out).trans (hb4.mono (HB2.out).size))
  clear hb4
  go_wp2
  refine bodyPost_ret (v := .agg (vvCells (flagV (decide (a.n ≤ b.n))))) (by simp [results, Try.results47, go_sem, hc1, hf1, hz1, hc2, hf2, hz2, hc4, hf4, hz4]; rfl) rfl ⟨rfl, ?_⟩
  repeat' (first | exact HB4.out | exact Below.refl _ _ | refine Below.drew ?_ | refine below_drewN ?_ _ | refine Below.setCell ?_ ?_ _ | refine Below.alloc ?_ ?_ _ | (simp; done) | (simp; omega) | omega)
set_option maxRecDepth 100000 in
set_option maxHeartbeats 4000000 in
theorem done_le_no (a b : VV) (w : World) (h3 : bothK 3 a b = false) (h2 : bothK 2 a b = false) : Calls Try.prog 47 #[.int .i64 7, .agg (vvCells a), .agg (vvCells b)] w (OutV (.error sCompare) w) := by
  have hbt : ∀ w, Calls Try.prog 66 #[.int .i64 3, .agg (vvCells a), .agg (vvCells b)] w (RetB (.bool false) w) := fun w => h3 ▸ both_any 3 a b w
  have hbu : ∀ w, Calls Try.prog 66 #[.int .i64 2, .agg (vvCells a), .agg (vvCells b)] w (RetB (.bool false) w) := fun w => h2 ▸ both_any 2 a b w
  unfold vvCells at hbt hbu ⊢
  have hb0 : Below w.heap.size w (((w.alloc (.cells #[.int .i64 a.kind, .int .i64 a.n, .string a.s, .int .u64 (a.label : Int)] 25)).alloc (.cells #[.int .i64 b.kind, .int .i64 b.n, .string b.s, .int .u64 (b.label : Int)] 25)).alloc (.cells #[.int .i64 0, .int .i64 0, .string ByteArray.empty, .int .u64 0] 25)) := (((Below.refl _ _).alloc (Nat.le_refl _) _).alloc (by simp) _).alloc (by simp; omega) _
  have HB0 := Lib.hid hb0
  clear hb0
  go_enter Try.func47, Try.ntmps47
  go_wp2_with fail
  refine (hbt _).mono ?_
  rintro e w1 ⟨rfl, hb1⟩
  obtain ⟨hc1, hf1⟩ := bcell hb1
  have hz1 : w.heap.size + 2 < w1.heap.size := by have := hb1.size; (try simp at this); omega
  have hy1 : w.heap.size < w1.heap.size ∧ w.heap.size + 1 < w1.heap.size := ⟨by omega, by omega⟩
  obtain ⟨hx1, hy1⟩ := hy1
  have HB1 := Lib.hid (show Below w.heap.size w w1 from (HB0.out).trans (hb1.mono (HB0.out).size))
  clear hb1
  go_wp2_with fail
  refine (hbu _).mono ?_
  rintro e w2 ⟨rfl, hb2⟩
  obtain ⟨hc2, hf2⟩ := bcell hb2
  have hz2 : w.heap.size + 2 < w2.heap.size := by have := hb2.size; (try simp at this); omega
  have hy2 : w.heap.size < w2.heap.size ∧ w.heap.size + 1 < w2.heap.size := ⟨by omega, by omega⟩
  obtain ⟨hx2, hy2⟩ := hy2
  have HB2 := Lib.hid (show Below w.heap.size w w2 from (HB1.out).trans (hb2.mono (HB1.out).size))
  clear hb2
  go_wp2_with fail
  refine (must_no _ _).mono ?_
  rintro e wx ⟨rfl, rfl⟩
  go_wp2
  refine ⟨rfl, rfl, ?_⟩
  repeat' (first | exact HB2.out | exact Below.refl _ _ | refine Below.drew ?_ | refine below_drewN ?_ _ | refine Below.setCell ?_ ?_ _ | refine Below.alloc ?_ ?_ _ | (simp; done) | (simp; omega) | omega)
set_option maxRecDepth 100000 in
set_option maxHeartbeats 4000000 in
theorem done_arith (a b : VV) (w : World) (op : Int) (h1 : 1 ≤ op) (h5 : op ≤ 5) (h2 : bothK 2 a b = true) (ha : -9223372036854775808 ≤ a.n ∧ a.n ≤ 9223372036854775807) (hb : -9223372036854775808 ≤ b.n ∧ b.n ≤ 9223372036854775807) (n : Int) (hn : doS op a.n b.n = some n) : Calls Try.prog 47 #[.int .i64 op, .agg (vvCells a), .agg (vvCells b)] w (OutV (.ok (⟨2, n, ByteArray.empty, 0⟩ : VV)) w) := by
  have n8 : ¬ op = 8 := by omega
  have n9 : ¬ op = 9 := by omega
  have n6 : ¬ op = 6 := by omega
  have n7 : ¬ op = 7 := by omega
  have hbu : ∀ w, Calls Try.prog 66 #[.int .i64 2, .agg (vvCells a), .agg (vvCells b)] w (RetB (.bool true) w) := fun w => h2 ▸ both_any 2 a b w
  have hdo : ∀ w, Calls Try.prog 67 #[.int .i64 op, .int .i64 a.n, .int .i64 b.n] w (RetD (.tuple #[.int .i64 n, .bool true]) w) := fun w => by have := ndo_any op a.n b.n w ha.1 ha.2 hb.1 hb.2; rw [hn] at this; exact this
  unfold vvCells at hbu ⊢
  clear ha hb
  have hb0 : Below w.heap.size w (((w.alloc (.cells #[.int .i64 a.kind, .int .i64 a.n, .string a.s, .int .u64 (a.label : Int)] 25)).alloc (.cells #[.int .i64 b.kind, .int .i64 b.n, .string b.s, .int .u64 (b.label : Int)] 25)).alloc (.cells #[.int .i64 0, .int .i64 0, .string ByteArray.empty, .int .u64 0] 25)) := (((Below.refl _ _).alloc (Nat.le_refl _) _).alloc (by simp) _).alloc (by simp; omega) _
  have HB0 := Lib.hid hb0
  clear hb0
  go_enter Try.func47, Try.ntmps47
  go_wp2_with fail
  refine (hbu _).mono ?_
  rintro e w1 ⟨rfl, hb1⟩
  obtain ⟨hc1, hf1⟩ := bcell hb1
  have hz1 : w.heap.size + 2 < w1.heap.size := by have := hb1.size; (try simp at this); omega
  have hy1 : w.heap.size < w1.heap.size ∧ w.heap.size + 1 < w1.heap.size := ⟨by omega, by omega⟩
  obtain ⟨hx1, hy1⟩ := hy1
  have HB1 := Lib.hid (show Below w.heap.size w w1 from (HB0.out).trans (hb1.mono (HB0.out).size))
  clear hb1
  go_wp2_with fail
  refine (must_ok _ _).mono ?_
  rintro e wx ⟨rfl, rfl⟩
  go_wp2_with fail
  refine (hdo _).mono ?_
  rintro e wx ⟨rfl, nd2, rfl⟩
  go_wp2_with fail
  refine (must_ok _ _).mono ?_
  rintro e wx ⟨rfl, rfl⟩
  go_wp2
  refine bodyPost_ret (v := .agg (vvCells (⟨2, n, ByteArray.empty, 0⟩ : VV))) (by simp [results, Try.results47, go_sem, hc1, hf1, hz1]; rfl) rfl ⟨rfl, ?_⟩
  repeat' (first | exact (below_drewN HB1.out nd2) | exact Below.refl _ _ | refine Below.drew ?_ | refine below_drewN ?_ _ | refine Below.setCell ?_ ?_ _ | refine Below.alloc ?_ ?_ _ | (simp; done) | (simp; omega) | omega)
set_option maxRecDepth 100000 in
set_option maxHeartbeats 4000000 in
theorem done_divide (a b : VV) (w : World) (op : Int) (h1 : 1 ≤ op) (h5 : op ≤ 5) (h2 : bothK 2 a b = true) (ha : -9223372036854775808 ≤ a.n ∧ a.n ≤ 9223372036854775807) (hb : -9223372036854775808 ≤ b.n ∧ b.n ≤ 9223372036854775807) (hn : doS op a.n b.n = none) : Calls Try.prog 47 #[.int .i64 op, .agg (vvCells a), .agg (vvCells b)] w (OutV (.error sDivide) w) := by
  have n8 : ¬ op = 8 := by omega
  have n9 : ¬ op = 9 := by omega
  have n6 : ¬ op = 6 := by omega
  have n7 : ¬ op = 7 := by omega
  have hbu : ∀ w, Calls Try.prog 66 #[.int .i64 2, .agg (vvCells a), .agg (vvCells b)] w (RetB (.bool true) w) := fun w => h2 ▸ both_any 2 a b w
  have hdo : ∀ w, Calls Try.prog 67 #[.int .i64 op, .int .i64 a.n, .int .i64 b.n] w (RetD (.tuple #[.int .i64 0, .bool false]) w) := fun w => by have := ndo_any op a.n b.n w ha.1 ha.2 hb.1 hb.2; rw [hn] at this; exact this
  unfold vvCells at hbu ⊢
  clear ha hb
  have hb0 : Below w.heap.size w (((w.alloc (.cells #[.int .i64 a.kind, .int .i64 a.n, .string a.s, .int .u64 (a.label : Int)] 25)).alloc (.cells #[.int .i64 b.kind, .int .i64 b.n, .string b.s, .int .u64 (b.label : Int)] 25)).alloc (.cells #[.int .i64 0, .int .i64 0, .string ByteArray.empty, .int .u64 0] 25)) := (((Below.refl _ _).alloc (Nat.le_refl _) _).alloc (by simp) _).alloc (by simp; omega) _
  have HB0 := Lib.hid hb0
  clear hb0
  go_enter Try.func47, Try.ntmps47
  go_wp2_with fail
  refine (hbu _).mono ?_
  rintro e w1 ⟨rfl, hb1⟩
  obtain ⟨hc1, hf1⟩ := bcell hb1
  have hz1 : w.heap.size + 2 < w1.heap.size := by have := hb1.size; (try simp at this); omega
  have hy1 : w.heap.size < w1.heap.size ∧ w.heap.size + 1 < w1.heap.size := ⟨by omega, by omega⟩
  obtain ⟨hx1, hy1⟩ := hy1
  have HB1 := Lib.hid (show Below w.heap.size w w1 from (HB0.out).trans (hb1.mono (HB0.out).size))
  clear hb1
  go_wp2_with fail
  refine (must_ok _ _).mono ?_
  rintro e wx ⟨rfl, rfl⟩
  go_wp2_with fail
  refine (hdo _).mono ?_
  rintro e wx ⟨rfl, nd2, rfl⟩
  go_wp2_with fail
  refine (must_no _ _).mono ?_
  rintro e wx ⟨rfl, rfl⟩
  go_wp2
  refine ⟨rfl, rfl, ?_⟩
  repeat' (first | exact (below_drewN HB1.out nd2) | exact Below.refl _ _ | refine Below.drew ?_ | refine below_drewN ?_ _ | refine Below.setCell ?_ ?_ _ | refine Below.alloc ?_ ?_ _ | (simp; done) | (simp; omega) | omega)
set_option maxRecDepth 100000 in
set_option maxHeartbeats 4000000 in
theorem done_noarith (a b : VV) (w : World) (op : Int) (h1 : 1 ≤ op) (h5 : op ≤ 5) (h2 : bothK 2 a b = false) : Calls Try.prog 47 #[.int .i64 op, .agg (vvCells a), .agg (vvCells b)] w (OutV (.error sArith) w) := by
  have n8 : ¬ op = 8 := by omega
  have n9 : ¬ op = 9 := by omega
  have n6 : ¬ op = 6 := by omega
  have n7 : ¬ op = 7 := by omega
  have hbu : ∀ w, Calls Try.prog 66 #[.int .i64 2, .agg (vvCells a), .agg (vvCells b)] w (RetB (.bool false) w) := fun w => h2 ▸ both_any 2 a b w
  unfold vvCells at hbu ⊢
  have hb0 : Below w.heap.size w (((w.alloc (.cells #[.int .i64 a.kind, .int .i64 a.n, .string a.s, .int .u64 (a.label : Int)] 25)).alloc (.cells #[.int .i64 b.kind, .int .i64 b.n, .string b.s, .int .u64 (b.label : Int)] 25)).alloc (.cells #[.int .i64 0, .int .i64 0, .string ByteArray.empty, .int .u64 0] 25)) := (((Below.refl _ _).alloc (Nat.le_refl _) _).alloc (by simp) _).alloc (by simp; omega) _
  have HB0 := Lib.hid hb0
  clear hb0
  go_enter Try.func47, Try.ntmps47
  go_wp2_with fail
  refine (hbu _).mono ?_
  rintro e w1 ⟨rfl, hb1⟩
  obtain ⟨hc1, hf1⟩ := bcell hb1
  have hz1 : w.heap.size + 2 < w1.heap.size := by have := hb1.size; (try simp at this); omega
  have hy1 : w.heap.size < w1.heap.size ∧ w.heap.size + 1 < w1.heap.size := ⟨by omega, by omega⟩
  obtain ⟨hx1, hy1⟩ := hy1
  have HB1 := Lib.hid (show Below w.heap.size w w1 from (HB0.out).trans (hb1.mono (HB0.out).size))
  clear hb1
  go_wp2_with fail
  refine (must_no _ _).mono ?_
  rintro e wx ⟨rfl, rfl⟩
  go_wp2
  refine ⟨rfl, rfl, ?_⟩
  repeat' (first | exact HB1.out | exact Below.refl _ _ | refine Below.drew ?_ | refine below_drewN ?_ _ | refine Below.setCell ?_ ?_ _ | refine Below.alloc ?_ ?_ _ | (simp; done) | (simp; omega) | omega)
set_option maxRecDepth 100000 in
set_option maxHeartbeats 4000000 in
theorem done_low (a b : VV) (w : World) (op : Int) (h1 : op < 1) : Calls Try.prog 47 #[.int .i64 op, .agg (vvCells a), .agg (vvCells b)] w (OutV (.error sArith) w) := by
  have n8 : ¬ op = 8 := by omega
  have n9 : ¬ op = 9 := by omega
  have n6 : ¬ op = 6 := by omega
  have n7 : ¬ op = 7 := by omega
  unfold vvCells
  have hb0 : Below w.heap.size w (((w.alloc (.cells #[.int .i64 a.kind, .int .i64 a.n, .string a.s, .int .u64 (a.label : Int)] 25)).alloc (.cells #[.int .i64 b.kind, .int .i64 b.n, .string b.s, .int .u64 (b.label : Int)] 25)).alloc (.cells #[.int .i64 0, .int .i64 0, .string ByteArray.empty, .int .u64 0] 25)) := (((Below.refl _ _).alloc (Nat.le_refl _) _).alloc (by simp) _).alloc (by simp; omega) _
  have HB0 := Lib.hid hb0
  clear hb0
  go_enter Try.func47, Try.ntmps47
  go_wp2_with fail
  refine (must_no _ _).mono ?_
  rintro e wx ⟨rfl, rfl⟩
  go_wp2
  refine ⟨rfl, rfl, ?_⟩
  repeat' (first | exact HB0.out | exact Below.refl _ _ | refine Below.drew ?_ | refine below_drewN ?_ _ | refine Below.setCell ?_ ?_ _ | refine Below.alloc ?_ ?_ _ | (simp; done) | (simp; omega) | omega)
set_option maxRecDepth 100000 in
set_option maxHeartbeats 4000000 in
theorem done_high (a b : VV) (w : World) (op : Int) (h1 : 9 < op) : Calls Try.prog 47 #[.int .i64 op, .agg (vvCells a), .agg (vvCells b)] w (OutV (.error sArith) w) := by
  have n8 : ¬ op = 8 := by omega
  have n9 : ¬ op = 9 := by omega
  have n6 : ¬ op = 6 := by omega
  have n7 : ¬ op = 7 := by omega
  unfold vvCells
  have hb0 : Below w.heap.size w (((w.alloc (.cells #[.int .i64 a.kind, .int .i64 a.n, .string a.s, .int .u64 (a.label : Int)] 25)).alloc (.cells #[.int .i64 b.kind, .int .i64 b.n, .string b.s, .int .u64 (b.label : Int)] 25)).alloc (.cells #[.int .i64 0, .int .i64 0, .string ByteArray.empty, .int .u64 0] 25)) := (((Below.refl _ _).alloc (Nat.le_refl _) _).alloc (by simp) _).alloc (by simp; omega) _
  have HB0 := Lib.hid hb0
  clear hb0
  go_enter Try.func47, Try.ntmps47
  go_wp2_with fail
  refine (must_no _ _).mono ?_
  rintro e wx ⟨rfl, rfl⟩
  go_wp2
  refine ⟨rfl, rfl, ?_⟩
  repeat' (first | exact HB0.out | exact Below.refl _ _ | refine Below.drew ?_ | refine below_drewN ?_ _ | refine Below.setCell ?_ ?_ _ | refine Below.alloc ?_ ?_ _ | (simp; done) | (simp; omega) | omega)
theorem done_any (op : Int) (a b : VV) (w : World) (ha : -9223372036854775808 ≤ a.n ∧ a.n ≤ 9223372036854775807) (hb : -9223372036854775808 ≤ b.n ∧ b.n ≤ 9223372036854775807) (hsz : a.s.size + b.s.size ≤ 1000000) :
    Calls Try.prog 47 #[.int .i64 op, .agg (vvCells a), .agg (vvCells b)] w (OutV (doneS op a b) w) := by
  unfold doneS
  by_cases o8 : op = 8
  · subst o8; exact done_eq a b w
  rw [if_neg o8]
  by_cases o9 : op = 9
  · subst o9
    rw [if_pos rfl]
    cases h3 : bothK 3 a b
    · exact done_nocat a b w h3
    · exact done_cat a b w h3 hsz
  rw [if_neg o9]
  by_cases o6 : op = 6
  · subst o6
    rw [if_pos rfl]
    cases h3 : bothK 3 a b
    · cases h2 : bothK 2 a b
      · exact done_lt_no a b w h3 h2
      · exact done_lt_int a b w h3 h2 ha hb
    · exact done_lt_str a b w h3
  rw [if_neg o6]
  by_cases o7 : op = 7
  · subst o7
    rw [if_pos rfl]
    cases h3 : bothK 3 a b
    · cases h2 : bothK 2 a b
      · exact done_le_no a b w h3 h2
      · exact done_le_int a b w h3 h2 ha hb
    · exact done_le_str a b w h3
  rw [if_neg o7]
  by_cases h1 : 1 ≤ op
  · by_cases h5 : op ≤ 5
    · cases h2 : bothK 2 a b
      · rw [if_neg (fun h => by cases h.2.2)]
        exact done_noarith a b w op h1 h5 h2
      · rw [if_pos ⟨h1, h5, rfl⟩]
        cases hn : doS op a.n b.n with
        | none => exact done_divide a b w op h1 h5 h2 ha hb hn
        | some n => exact done_arith a b w op h1 h5 h2 ha hb n hn
    · rw [if_neg (fun h => h5 h.2.1)]
      exact done_high a b w op (by omega)
  · rw [if_neg (fun h => h1 h.1)]
    exact done_low a b w op (by omega)
end Go.Proofs.Ythhphjfbdoffhaa
