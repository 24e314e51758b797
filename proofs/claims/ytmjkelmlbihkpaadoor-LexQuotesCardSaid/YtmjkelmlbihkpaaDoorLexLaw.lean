/-
  LexNames, LexQuotes: the walks.
-/
import Derived.Test.YtmjkelmlbihkpaaDoorLexAwake
import Derived.Test.YtmjkelmlbihkpaaDoorRQuote
set_option linter.unusedVariables false
set_option linter.unusedSimpArgs false
namespace Go.Proofs.YtmjkelmlbihkpaaDoor
open Go.ChangeShapes Go.WideShapes Go.ChangeAt Go.RowKit

set_option maxRecDepth 100000 in
set_option maxHeartbeats 4000000 in
theorem lexNames_walk (s : ByteArray) (w : World) (hw : LexW w) : Calls Tryd.prog 7 #[.string s] w (RetB (.bool true) w) := by
  have HW := Lib.hid hw
  clear hw
  go_enter Tryd.func7, Tryd.ntmps7
  go_wp2_with fail
  refine (awake05_any w HW.out).mono ?_
  rintro e w1 ⟨rfl, hb1⟩
  by_cases hs : 1000 < s.size
  · have hs' : (1000 : Int) < (s.size : Int) := by omega
    clear hs
    go_wp2
    go_ret
    exact ⟨rfl, hb1⟩
  have hs' : ¬ (1000 : Int) < (s.size : Int) := by omega
  obtain ⟨b, hb⟩ : ∃ b, b = tb (NameOk s) := ⟨_, rfl⟩
  have HN := Lib.hid (name_any s (by omega) w1 (HW.out.below hb1).1)
  have HR := Lib.hid (fun w => rname_any s (by omega) w)
  rw [← hb] at HN HR
  have HB1 := Lib.hid hb1
  clear hb1 hb hs
  go_wp2_with fail
  refine HN.out.mono ?_
  rintro e w2 ⟨rfl, hb2⟩
  have HB2 := Lib.hid (HB1.out.trans (hb2.mono HB1.out.size))
  clear hb2
  go_wp2_with fail
  refine (HR.out _).mono ?_
  rintro e w3 ⟨rfl, rfl⟩
  cases b
  all_goals
    go_wp2
    go_ret
    exact ⟨rfl, HB2.out⟩
set_option maxRecDepth 100000 in
set_option maxHeartbeats 4000000 in
theorem lexQuotes_walk (s : ByteArray) (w : World) (hw : LexW w) : Calls Tryd.prog 4 #[.string s] w (RetB (.bool true) w) := by
  have HW := Lib.hid hw
  clear hw
  go_enter Tryd.func4, Tryd.ntmps4
  go_wp2_with fail
  refine (awake05_any w HW.out).mono ?_
  rintro e w1 ⟨rfl, hb1⟩
  by_cases hs : 3000 < s.size
  · have hs' : (3000 : Int) < (s.size : Int) := by omega
    clear hs
    go_wp2
    go_ret
    exact ⟨rfl, hb1⟩
  have hs' : ¬ (3000 : Int) < (s.size : Int) := by omega
  have HN := Lib.hid (quote_any s (by omega) w1)
  have HR := Lib.hid (fun w => rquote_any s (by omega) w)
  generalize quoteS s = qs at HN HR
  have HB1 := Lib.hid hb1
  clear hb1 hs
  go_wp2_with fail
  refine HN.out.mono ?_
  rintro e w2 ⟨rfl, hb2⟩
  have HB2 := Lib.hid (HB1.out.trans (hb2.mono HB1.out.size))
  clear hb2
  go_wp2_with fail
  refine (HR.out _).mono ?_
  rintro e w3 ⟨rfl, q, rfl⟩
  go_wp2
  go_ret
  exact ⟨ret_bool (by simp), below_drewT HB2.out q⟩
end Go.Proofs.YtmjkelmlbihkpaaDoor
