/-
  A kind's name, a value as a text: the program's contracts and the reference's.
-/
import Derived.Test.YthhphjfbdoffhaaDoorValShow
import Derived.Test.YthhphjfbdoffhaaDoorValOpen
import Derived.Test.YthhphjfbdoffhaaDoorNumShow
set_option linter.unusedVariables false
set_option linter.unusedSimpArgs false
namespace Go.Proofs.YthhphjfbdoffhaaDoor
open Go.ChangeShapes Go.WideShapes Go.ChangeAt Go.RowKit

def namesA : Array Value := #[.string ⟨#[110, 105, 108]⟩, .string ⟨#[98, 111, 111, 108]⟩, .string ⟨#[105, 110, 116]⟩, .string ⟨#[115, 116, 114, 105, 110, 103]⟩, .string ⟨#[116, 97, 98, 108, 101]⟩, .string ⟨#[102, 117, 110, 99, 116, 105, 111, 110]⟩, .string ⟨#[116, 104, 114, 101, 97, 100]⟩]
theorem names_any (w : World) : Calls Tryd.prog 11 #[] w (RetB (.agg namesA) w) := by
  go_enter Tryd.func11, Tryd.ntmps11
  go_wp2
  exact bodyPost_ret (v := .agg namesA) (by simp [results, Tryd.results11, go_sem]; rfl) rfl ⟨rfl, (by repeat' (first | exact Below.refl _ _ | refine Below.drew ?_ | refine Below.setCell ?_ ?_ _ | refine Below.alloc ?_ ?_ _ | (simp; done) | (simp; omega)))⟩
set_option maxRecDepth 100000 in
set_option maxHeartbeats 2000000 in
theorem type_any (v : VV) (w : World) : Calls Tryd.prog 6 #[.agg (vvCells v)] w (RetB (.string (kindS v.kind)) w) := by
  obtain ⟨k, n, s, l⟩ := v
  have hn := fun w => names_any w
  unfold vvCells
  unfold namesA at hn
  have HN := Lib.hid hn
  clear hn
  show Calls _ _ _ _ (RetB (.string (kindS k)) w)
  obtain h | rfl | rfl | rfl | rfl | rfl | rfl | rfl | h := kinds9 k
  case' inl => rw [kindS_low h]
  case' inr.inr.inr.inr.inr.inr.inr.inr => rw [kindS_high h]
  all_goals
    go_enter Tryd.func6, Tryd.ntmps6
    go_wp2_with fail
    refine (HN.out _).mono ?_
    rintro e w1 ⟨rfl, hb1⟩
    have hA1 := below_blk hb1 (heap_alloc_new _ _)
    have a0 := cell_of_blk (i := 0) hA1 rfl
    have hlt := blk_lt hA1
    have HB : Hid (Below w.heap.size w w1) := Lib.hid (((Below.refl _ _).alloc (Nat.le_refl _) _).trans (hb1.mono (by simp)))
    have HS := hb1.size
    simp at HS
    clear hb1 hA1
    go_wp2
    go_ret
    exact ⟨rfl, HB.out.alloc (by omega) _⟩
theorem rtype_any (v : VV) (w : World) : Calls Tryd.prog 7 #[.agg (vvCells v)] w (RetB (.string (kindS v.kind)) w) := by
  obtain ⟨k, n, s, l⟩ := v
  unfold vvCells
  show Calls _ _ _ _ (RetB (.string (kindS k)) w)
  have hk := fun w => rkind_any k w
  generalize kindS k = K at hk
  go_enter Tryd.func7, Tryd.ntmps7
  go_wp2_with fail
  refine (hk _).mono ?_
  rintro e w1 ⟨rfl, rfl⟩
  go_wp2
  go_ret
  exact ⟨rfl, (Below.refl _ _).alloc (Nat.le_refl _) _⟩
def showV (v : VV) : ByteArray := if v.kind = 2 then numText v.n else if v.kind = 3 then v.s else if v.kind = 1 then (if v.n = 0 then ⟨#[102, 97, 108, 115, 101]⟩ else ⟨#[116, 114, 117, 101]⟩) else kindS v.kind
set_option maxRecDepth 100000 in
set_option maxHeartbeats 2000000 in
theorem vshow_any (v : VV) (w : World) (h0 : -9223372036854775808 ≤ v.n) (h1 : v.n ≤ 9223372036854775807) (ht : Tab w) : Calls Tryd.prog 8 #[.agg (vvCells v)] w (RetB (.string (showV v)) w) := by
  obtain ⟨k, n, s, l⟩ := v
  have hn := fun w (h : Tab w) => nshow_any n w h0 h1 h
  have hk := fun w => type_any ⟨k, n, s, l⟩ w
  clear h0 h1
  unfold vvCells at hk ⊢
  have HB0 : Hid (Below w.heap.size w (w.alloc (.cells #[.int .i64 k, .int .i64 n, .string s, .int .u64 (l : Int)] 25))) := Lib.hid ((Below.refl _ _).alloc (Nat.le_refl _) _)
  have HT := Lib.hid (ht.below HB0.out)
  clear ht
  by_cases k2 : k = 2
  · subst k2
    show Calls _ _ _ _ (RetB (.string (numText n)) w)
    generalize numText n = T at hn
    go_enter Tryd.func8, Tryd.ntmps8
    go_wp2_with fail
    refine (hn _ HT.out).mono ?_
    rintro e w1 ⟨rfl, hb1⟩
    go_wp2
    go_ret
    exact ⟨rfl, HB0.out.trans (hb1.mono (by simp))⟩
  by_cases k3 : k = 3
  · subst k3
    show Calls _ _ _ _ (RetB (.string s) w)
    go_enter Tryd.func8, Tryd.ntmps8
    go_wp2
    go_ret
    exact ⟨rfl, HB0.out⟩
  by_cases k1 : k = 1
  · subst k1
    by_cases n0 : n = 0
    · subst n0
      show Calls _ _ _ _ (RetB (.string ⟨#[102, 97, 108, 115, 101]⟩) w)
      go_enter Tryd.func8, Tryd.ntmps8
      go_wp2
      go_ret
      exact ⟨rfl, HB0.out⟩
    · have e : showV ⟨1, n, s, l⟩ = ⟨#[116, 114, 117, 101]⟩ := by unfold showV; simp [n0]
      rw [e]
      clear e
      go_enter Tryd.func8, Tryd.ntmps8
      go_wp2
      go_ret
      exact ⟨rfl, HB0.out⟩
  · have e : showV ⟨k, n, s, l⟩ = kindS k := by unfold showV; simp [k1, k2, k3]
    rw [e]
    clear e
    generalize kindS k = K at hk
    go_enter Tryd.func8, Tryd.ntmps8
    go_wp2_with fail
    refine (hk _).mono ?_
    rintro e w1 ⟨rfl, hb1⟩
    go_wp2
    go_ret
    exact ⟨rfl, HB0.out.trans (hb1.mono (by simp))⟩
set_option maxRecDepth 100000 in
set_option maxHeartbeats 2000000 in
theorem rvshow_any (v : VV) (w : World) (h0 : -9223372036854775808 ≤ v.n) (h1 : v.n ≤ 9223372036854775807) (ht : Tab w) : Calls Tryd.prog 9 #[.agg (vvCells v)] w (RetB (.string (showV v)) w) := by
  obtain ⟨k, n, s, l⟩ := v
  have hn := fun w (h : Tab w) => rshow_any n w h0 h1 h
  have hk := fun w => rtype_any ⟨k, n, s, l⟩ w
  clear h0 h1
  unfold vvCells at hk ⊢
  have HB0 : Hid (Below w.heap.size w (w.alloc (.cells #[.int .i64 k, .int .i64 n, .string s, .int .u64 (l : Int)] 25))) := Lib.hid ((Below.refl _ _).alloc (Nat.le_refl _) _)
  have HT := Lib.hid (ht.below HB0.out)
  clear ht
  by_cases k2 : k = 2
  · subst k2
    show Calls _ _ _ _ (RetB (.string (numText n)) w)
    generalize numText n = T at hn
    go_enter Tryd.func9, Tryd.ntmps9
    go_wp2_with fail
    refine (hn _ HT.out).mono ?_
    rintro e w1 ⟨rfl, hb1⟩
    go_wp2
    go_ret
    exact ⟨rfl, HB0.out.trans (hb1.mono (by simp))⟩
  by_cases k3 : k = 3
  · subst k3
    show Calls _ _ _ _ (RetB (.string s) w)
    go_enter Tryd.func9, Tryd.ntmps9
    go_wp2
    go_ret
    exact ⟨rfl, HB0.out⟩
  by_cases k1 : k = 1
  · subst k1
    by_cases n0 : n = 0
    · subst n0
      show Calls _ _ _ _ (RetB (.string ⟨#[102, 97, 108, 115, 101]⟩) w)
      go_enter Tryd.func9, Tryd.ntmps9
      go_wp2
      go_ret
      exact ⟨rfl, HB0.out⟩
    · have e : showV ⟨1, n, s, l⟩ = ⟨#[116, 114, 117, 101]⟩ := by unfold showV; simp [n0]
      rw [e]
      clear e
      go_enter Tryd.func9, Tryd.ntmps9
      go_wp2
      go_ret
      exact ⟨rfl, HB0.out⟩
  · have e : showV ⟨k, n, s, l⟩ = kindS k := by unfold showV; simp [k1, k2, k3]
    rw [e]
    clear e
    generalize kindS k = K at hk
    go_enter Tryd.func9, Tryd.ntmps9
    go_wp2_with fail
    refine (hk _).mono ?_
    rintro e w1 ⟨rfl, hb1⟩
    go_wp2
    go_ret
    exact ⟨rfl, HB0.out.trans (hb1.mono (by simp))⟩
end Go.Proofs.YthhphjfbdoffhaaDoor
