/-
  The kinds' names.
-/
import Derived.Test.YthhphjfbdoffhaaDoorVal
set_option linter.unusedVariables false
set_option linter.unusedSimpArgs false
namespace Go.Proofs.YthhphjfbdoffhaaDoor
open Go.ChangeShapes Go.WideShapes Go.ChangeAt Go.RowKit

def kindS (k : Int) : ByteArray :=
  if k = 0 then ⟨#[110, 105, 108]⟩ else if k = 1 then ⟨#[98, 111, 111, 108]⟩ else if k = 2 then ⟨#[105, 110, 116]⟩ else if k = 3 then ⟨#[115, 116, 114, 105, 110, 103]⟩
  else if k = 4 then ⟨#[116, 97, 98, 108, 101]⟩ else if k = 5 then ⟨#[102, 117, 110, 99, 116, 105, 111, 110]⟩ else if k = 6 then ⟨#[116, 104, 114, 101, 97, 100]⟩ else ⟨#[63]⟩
theorem kinds9 (k : Int) : k < 0 ∨ k = 0 ∨ k = 1 ∨ k = 2 ∨ k = 3 ∨ k = 4 ∨ k = 5 ∨ k = 6 ∨ 6 < k := by omega
theorem kindS_low {k : Int} (h : k < 0) : kindS k = ⟨#[63]⟩ := by
  unfold kindS
  rw [if_neg (by omega), if_neg (by omega), if_neg (by omega), if_neg (by omega), if_neg (by omega), if_neg (by omega), if_neg (by omega)]
theorem kindS_high {k : Int} (h : 6 < k) : kindS k = ⟨#[63]⟩ := by
  unfold kindS
  rw [if_neg (by omega), if_neg (by omega), if_neg (by omega), if_neg (by omega), if_neg (by omega), if_neg (by omega), if_neg (by omega)]
theorem rkind_any (k : Int) (w : World) : Calls Tryd.prog 12 #[.int .i64 k] w (Ret (.string (kindS k)) w) := by
  obtain h | rfl | rfl | rfl | rfl | rfl | rfl | rfl | h := kinds9 k
  case inl =>
    rw [kindS_low h]
    go_enter Tryd.func12, Tryd.ntmps12
    go_wp2
    go_ret
    exact ⟨rfl, rfl⟩
  case inr.inr.inr.inr.inr.inr.inr.inr =>
    rw [kindS_high h]
    go_enter Tryd.func12, Tryd.ntmps12
    go_wp2
    go_ret
    exact ⟨rfl, rfl⟩
  all_goals
    go_enter Tryd.func12, Tryd.ntmps12
    go_wp2
    go_ret
    exact ⟨rfl, rfl⟩
end Go.Proofs.YthhphjfbdoffhaaDoor
