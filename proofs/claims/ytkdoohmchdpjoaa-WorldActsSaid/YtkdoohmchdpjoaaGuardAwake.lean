/-
  The example of chapter 22, run by the law's own 'awake': it answers true and leaves old memory as it was.
-/
import Derived.Test.YtkdoohmchdpjoaaGuardRefAt
import Derived.Test.YtkdoohmchdpjoaaOpen
set_option linter.unusedVariables false
set_option linter.unusedSimpArgs false
namespace Go.Proofs.Ytkdoohmchdpjoaa
open Go.ChangeShapes Go.WideShapes Go.ChangeAt Go.RowKit

/-- At, at whatever place. -/
def atS (p : Int) (S : List Reg) (pc : Nat) : List Reg × Nat × List Int := if p < 0 then (S, pc, []) else popS p S pc
theorem gat_all {B g pc : Nat} {R : List Reg} (p : Int) (w : World) (hg : GuardIn w B g R pc) (hR : R.length ≤ 1000000) (hBw : B ≤ w.heap.size) :
    Calls Try.prog 13 #[.pointer (some ⟨g, 0, none⟩), .int .i64 p] w (AtPost w B g (atS p R.reverse pc)) := by
  have hg' : GuardIn w B g R.reverse.reverse pc := by rw [List.reverse_reverse]; exact hg
  unfold atS
  split
  · exact gat_neg p w hg' (by assumption)
  · exact gat_any p w hg' (by omega) (by simpa using hR) hBw
theorem rat_all {B g pc : Nat} {R : List Reg} (p : Int) (w : World) (hg : RefIn w B g R pc) (hR : R.length ≤ 1000000) :
    Calls Try.prog 19 #[.pointer (some ⟨g, 0, none⟩), .int .i64 p] w (RAtPost w B g (atS p R.reverse pc)) := by
  have hg' : RefIn w B g R.reverse.reverse pc := by rw [List.reverse_reverse]; exact hg
  unfold atS
  split
  · exact rat_neg p w hg' (by assumption)
  · exact rat_any p w hg' (by omega) (by simpa using hR)

set_option maxRecDepth 100000 in
set_option maxHeartbeats 1000000 in
theorem awake22 (w : World) : Calls Try.prog 10 #[] w (RetB (.bool true) w) := by
  go_enter Try.func10, Try.ntmps10
  go_wp2_with fail
  refine (gnew_any 1 w).mono ?_
  rintro e w1 ⟨rfl, hg1, hb1⟩
  go_wp2_with fail
  refine (gbranch_any 2 9 4 w1 hg1 (by decide) (by decide) (by simp) hb1.size).mono ?_
  rintro e w2 ⟨rfl, hg2, hk2⟩
  have hg2' : GuardIn w2 w.heap.size w.heap.size [⟨9, 4, 1⟩] 3 := hg2
  clear hg2
  have hb2 := hb1.trans (hk2.below hb1.size)
  go_wp2_with fail
  refine (gbranch_any 4 9 6 w2 hg2' (by decide) (by decide) (by simp) hb2.size).mono ?_
  rintro e w3 ⟨rfl, hg3, hk3⟩
  have hg3' : GuardIn w3 w.heap.size w.heap.size [⟨9, 4, 1⟩] 7 := hg3
  clear hg3
  have hb3 := hb2.trans (hk3.below hb2.size)
  go_wp2_with fail
  refine (gpc_any w3 hg3').mono ?_
  rintro e w' ⟨rfl, rfl⟩
  go_wp2_with fail
  refine (gdeep_any w3 hg3').mono ?_
  rintro e w' ⟨rfl, rfl⟩
  go_wp2_with fail
  refine (gat_all 9 w3 hg3' (by simp) hb3.size).mono ?_
  rintro e w4 ⟨v, rfl, hown4, hg4, hk4⟩
  have hg4' : GuardIn w4 w.heap.size w.heap.size [] 1 := hg4
  have hown4' : w4.ownsRow w3.heap.size 3 1 v 1 [.int .i64 4] := hown4
  clear hown4 hg4
  obtain ⟨A, c, rfl, _, _, hf⟩ := own_form hown4'
  obtain ⟨gb, rfl, _, _, _, hc⟩ := hf (by omega)
  have hc0 := hc 0 _ rfl
  clear hf hc
  have hb4 := hb3.trans (hk4.below hb3.size)
  go_wp2_with (go_at_call 15; refine (gpc_any w4 hg4').mono ?_; rintro e w' ⟨rfl, rfl⟩)
  go_ret
  exact ⟨rfl, hb4⟩
end Go.Proofs.Ytkdoohmchdpjoaa
