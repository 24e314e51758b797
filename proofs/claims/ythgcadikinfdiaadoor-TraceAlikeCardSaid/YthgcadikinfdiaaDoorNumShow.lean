/-
  A number as a text, the chapter's examples: the contracts.
-/
import Derived.Test.YthgcadikinfdiaaDoorNumberR
import Derived.Test.YthgcadikinfdiaaDoorShelf
import Derived.Lib.SmallJoins
import Derived.Lib.LaidTab
set_option linter.unusedVariables false
set_option linter.unusedSimpArgs false
namespace Go.Proofs.YthgcadikinfdiaaDoor
open Go.ChangeShapes Go.WideShapes Go.ChangeAt Go.RowKit

theorem below_grow {B : Nat} {w w1 : World} (h : Below B w w1) (hB : B ≤ w1.heap.size) (os : Array Obj) : Below B w (Sort.grow w1 os) := by
  refine ⟨h.os, h.tape, h.output, ?_, fun b hb => ?_⟩
  · have := h.size
    show w.heap.size ≤ (w1.heap ++ os).size
    simp
    omega
  · show (w1.heap ++ os)[b]? = _
    rw [Array.getElem?_append_left (by omega)]
    exact h.block b hb
theorem g_pow10 : Tryd.prog.globalNamed "internal/strconv.uint64pow10" = some 0 := by kernel_rfl
/-- The table of powers of ten lies as it should. -/
def Tab (w : World) : Prop := Lib.TabIs Tryd.prog w "internal/strconv.uint64pow10" .u64 Lib.pow10Tab
theorem Tab.below {w w' : World} (h : Tab w) (hb : Below w.heap.size w w') : Tab w' := Joins.tab_stays g_pow10 h hb (Nat.le_refl _)
def numText (n : Int) : ByteArray := ⟨(Lib.itoa n).toArray⟩
theorem nshow_any (n : Int) (w : World) (h0 : -9223372036854775808 ≤ n) (h1 : n ≤ 9223372036854775807) (ht : Tab w) : Calls Tryd.prog 22 #[.int .i64 n] w (RetB (.string (numText n)) w) := by
  go_enter Tryd.func22, Tryd.ntmps22
  go_wp2_with (go_at_call 32; refine (Tryd.strconv_FormatInt_10 n h0 h1 _ ht).mono ?_; rintro e w' ⟨rfl, k, os, rfl⟩)
  go_ret
  exact ⟨rfl, below_grow (below_drewN (Below.refl _ _) _) (Nat.le_refl _) _⟩
theorem rshow_any (n : Int) (w : World) (h0 : -9223372036854775808 ≤ n) (h1 : n ≤ 9223372036854775807) (ht : Tab w) : Calls Tryd.prog 25 #[.int .i64 n] w (RetB (.string (numText n)) w) := by
  go_enter Tryd.func25, Tryd.ntmps25
  go_wp2_with (go_at_call 32; refine (Tryd.strconv_FormatInt_10 n h0 h1 _ ht).mono ?_; rintro e w' ⟨rfl, k, os, rfl⟩)
  go_ret
  exact ⟨rfl, below_grow (below_drewN (Below.refl _ _) _) (Nat.le_refl _) _⟩
theorem aw_number : numS ⟨#[48, 120, 102, 102]⟩ = some 255 := by
  unfold numS isHexB
  rw [Lib.extract_toList]
  decide +kernel
theorem aw_show : numText (-5) = ⟨#[45, 53]⟩ := by
  unfold numText
  simp [Lib.itoa, Lib.decDigits]
end Go.Proofs.YthgcadikinfdiaaDoor
