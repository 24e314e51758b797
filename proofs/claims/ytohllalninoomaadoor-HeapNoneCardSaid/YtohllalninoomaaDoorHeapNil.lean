/-
  The calls on a heap that nobody made.
-/
import Derived.Test.YtohllalninoomaaDoorVal
import Derived.Handy
import Derived.BigQuiet
set_option linter.unusedVariables false
set_option linter.unusedSimpArgs false
namespace Go.Proofs.YtohllalninoomaaDoor
open Go.ChangeShapes Go.WideShapes Go.ChangeAt Go.RowKit

theorem belowDN {n : Nat} {w w' : World} (h : Below n w w') (m : Nat) : Below n w (w'.drewN m) := ⟨h.os, h.tape, h.output, h.size, h.block⟩
set_option maxRecDepth 100000 in
theorem hcharge_nil (n : Int) (w : World) : Calls Tryd.prog 12 #[.pointer none, .int .i64 n] w (RetB (.bool false) w) := by
  go_enter Tryd.func12, Tryd.ntmps12
  go_wp2_with fail
  all_goals
    go_quiet (fail)
    go_wp2
    go_returns
    exact ⟨rfl, belowDN (Below.refl _ _) _⟩
set_option maxRecDepth 100000 in
theorem hused_nil (w : World) : Calls Tryd.prog 13 #[.pointer none] w (RetB (.int .i64 0) w) := by
  go_enter Tryd.func13, Tryd.ntmps13
  go_wp2
  go_returns
  first
    | exact ⟨rfl, Below.refl _ _⟩
    | exact ⟨rfl, (Below.refl _ _).alloc (Nat.le_refl _) _⟩
    | exact ⟨rfl, ((Below.refl _ _).alloc (Nat.le_refl _) _).alloc (by simp) _⟩
    | exact ⟨rfl, belowDN (Below.refl _ _) _⟩
    | exact ⟨rfl, (((Below.refl _ _).alloc (Nat.le_refl _) _).alloc (by simp) _).alloc (by simp; omega) _⟩
set_option maxRecDepth 100000 in
theorem hof_nil (t : VV) (w : World) : Calls Tryd.prog 14 #[.pointer none, .agg #[.int .i64 t.kind, .int .i64 t.n, .string t.s, .int .u64 (t.label : Int)]] w (RetB (.pointer none) w) := by
  go_enter Tryd.func14, Tryd.ntmps14
  go_wp2
  go_returns
  first
    | exact ⟨rfl, Below.refl _ _⟩
    | exact ⟨rfl, (Below.refl _ _).alloc (Nat.le_refl _) _⟩
    | exact ⟨rfl, ((Below.refl _ _).alloc (Nat.le_refl _) _).alloc (by simp) _⟩
    | exact ⟨rfl, belowDN (Below.refl _ _) _⟩
    | exact ⟨rfl, (((Below.refl _ _).alloc (Nat.le_refl _) _).alloc (by simp) _).alloc (by simp; omega) _⟩
set_option maxRecDepth 100000 in
theorem hload_nil (n : Int) (w : World) : Calls Tryd.prog 16 #[.pointer none, .int .i64 n] w (RetB (.agg #[.int .i64 0, .int .i64 0, .string ⟨#[]⟩, .int .u64 0]) w) := by
  go_enter Tryd.func16, Tryd.ntmps16
  go_wp2
  go_returns
  first
    | exact ⟨rfl, Below.refl _ _⟩
    | exact ⟨rfl, (Below.refl _ _).alloc (Nat.le_refl _) _⟩
    | exact ⟨rfl, ((Below.refl _ _).alloc (Nat.le_refl _) _).alloc (by simp) _⟩
    | exact ⟨rfl, belowDN (Below.refl _ _) _⟩
    | exact ⟨rfl, (((Below.refl _ _).alloc (Nat.le_refl _) _).alloc (by simp) _).alloc (by simp; omega) _⟩
set_option maxRecDepth 100000 in
theorem hstore_nil (c : Nat) (n : Int) (v : VV) (w : World) : Calls Tryd.prog 15 #[.pointer none, .int .u64 (c : Int), .int .i64 n, .agg #[.int .i64 v.kind, .int .i64 v.n, .string v.s, .int .u64 (v.label : Int)]] w (RetB (.int .i64 3) w) := by
  go_enter Tryd.func15, Tryd.ntmps15
  go_wp2
  go_returns
  first
    | exact ⟨rfl, Below.refl _ _⟩
    | exact ⟨rfl, (Below.refl _ _).alloc (Nat.le_refl _) _⟩
    | exact ⟨rfl, ((Below.refl _ _).alloc (Nat.le_refl _) _).alloc (by simp) _⟩
    | exact ⟨rfl, belowDN (Below.refl _ _) _⟩
    | exact ⟨rfl, (((Below.refl _ _).alloc (Nat.le_refl _) _).alloc (by simp) _).alloc (by simp; omega) _⟩
set_option maxRecDepth 100000 in
theorem hcell_nil (v : VV) (w : World) : Calls Tryd.prog 10 #[.pointer none, .agg #[.int .i64 v.kind, .int .i64 v.n, .string v.s, .int .u64 (v.label : Int)]] w (RetB (.tuple #[.int .i64 0, .bool false]) w) := by
  go_enter Tryd.func10, Tryd.ntmps10
  go_wp2_with fail
  refine (hcharge_nil 1 _).mono ?_
  rintro e w1 ⟨rfl, hb1⟩
  go_wp2
  go_returns
  exact ⟨rfl, ((Below.refl _ _).alloc (Nat.le_refl _) _).trans (hb1.mono (by simp))⟩
set_option maxRecDepth 100000 in
theorem hput_nil (c : Nat) (t k v : VV) (w : World) : Calls Tryd.prog 7 #[.pointer none, .int .u64 (c : Int), .agg #[.int .i64 t.kind, .int .i64 t.n, .string t.s, .int .u64 (t.label : Int)], .agg #[.int .i64 k.kind, .int .i64 k.n, .string k.s, .int .u64 (k.label : Int)], .agg #[.int .i64 v.kind, .int .i64 v.n, .string v.s, .int .u64 (v.label : Int)]] w (RetB (.tuple #[.int .i64 3, .bool true]) w) := by
  go_enter Tryd.func7, Tryd.ntmps7
  go_wp2_with fail
  refine (hof_nil t _).mono ?_
  rintro e w1 ⟨rfl, hb1⟩
  go_wp2
  go_returns
  exact ⟨rfl, ((((Below.refl _ _).alloc (Nat.le_refl _) _).alloc (by simp) _).alloc (by simp; omega) _).trans (hb1.mono (by simp; omega))⟩
end Go.Proofs.YtohllalninoomaaDoor
