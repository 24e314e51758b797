/-
  Chapter 25: whether events begin with others.
-/
import Derived.Test.YthgcadikinfdiaaDoorTrA
import Derived.Test.YthgcadikinfdiaaDoorTrB
import Derived.BigQuiet
set_option linter.unusedVariables false
set_option linter.unusedSimpArgs false
namespace Go.Proofs.YthgcadikinfdiaaDoor
open Go.ChangeShapes Go.WideShapes Go.ChangeAt Go.RowKit

instance : DecidableEq Ev := fun a b => decidable_of_iff _ (eqEv_iff a b)
theorem below_drewN {n : Nat} {w w' : World} (h : Below n w w') (m : Nat) : Below n w (w'.drewN m) := ⟨h.os, h.tape, h.output, h.size, h.block⟩
/-- Whether the second row begins with the first. -/
def begB (a b : List Ev) : Bool := decide (a <+: b)
theorem begB_yes {a b : List Ev} (h : ∀ (i : Nat) (x : Ev), a[i]? = some x → b[i]? = some x) : begB a b = true := by
  refine decide_eq_true (List.prefix_iff_getElem?.2 fun i hi => ?_)
  exact h i _ (List.getElem?_eq_getElem hi)
theorem begB_no {a b : List Ev} (i : Nat) {x : Ev} (h : a[i]? = some x) (hb : b[i]? ≠ some x) : begB a b = false := by
  refine decide_eq_false fun hp => hb ?_
  obtain ⟨c, rfl⟩ := hp
  have hi : i < a.length := by
    rcases List.getElem?_eq_some_iff.1 h with ⟨hi, _⟩
    exact hi
  rw [List.getElem?_append_left hi]
  exact h
theorem ev_eqW {a b : Ev} (h : a = b) (w : World) : (Op.equalIn 10000 38 (.agg #[.int .i64 a.channel, .int .i64 a.kind, .int .i64 a.n, .string a.s]) (.agg #[.int .i64 b.channel, .int .i64 b.kind, .int .i64 b.n, .string b.s])).run Tryd.prog w = .ok true w := by
  have := ev_eq a b w
  rw [(eqEv_iff a b).2 h] at this
  exact this
theorem ev_neW {a b : Ev} (h : ¬ a = b) (w : World) : (Op.equalIn 10000 38 (.agg #[.int .i64 a.channel, .int .i64 a.kind, .int .i64 a.n, .string a.s]) (.agg #[.int .i64 b.channel, .int .i64 b.kind, .int .i64 b.n, .string b.s])).run Tryd.prog w = .ok false w := by
  have := ev_eq a b w
  rw [Bool.eq_false_iff.2 fun hh => h ((eqEv_iff a b).1 hh)] at this
  exact this
set_option maxRecDepth 100000 in
set_option maxHeartbeats 2000000 in
theorem begins_any (xs ys : List Ev) (A C : Option Addr) (c d : Nat) (w : World) (hx : Reads w w.heap.size A (xs.flatMap evEnc)) (hy : Reads w w.heap.size C (ys.flatMap evEnc)) (hnx : xs.length ≤ 9223372036854775807) (hny : ys.length ≤ 9223372036854775807) :
    Calls Tryd.prog 13 #[.slice A xs.length c, .slice C ys.length d] w (RetB (.bool (begB xs ys)) w) := by
  have HX := Lib.hid hx
  have HY := Lib.hid hy
  clear hx hy
  go_enter Tryd.func13, Tryd.ntmps13
  go_wp2
  go_loopw [9] (fun i wr => ∃ (k : Nat), k ≤ xs.length ∧ i = .int .i64 k ∧ Hid (∀ i, i < k → ys[i]? = xs[i]?) ∧ Below w.heap.size w wr) (fun i _ => xs.length - (intOf i).toNat)
  case atStart => exact ⟨0, by omega, rfl, Lib.hid fun i hi => by omega, Below.refl _ _⟩
  case round =>
    obtain ⟨k, hk, rfl, hp, hB⟩ := hrel
    have hsz := hB.size
    by_cases hlt : k < xs.length
    · obtain ⟨x, hx⟩ : ∃ x, xs[k]? = some x := ⟨_, List.getElem?_eq_getElem hlt⟩
      obtain ⟨ad, rfl, hadb, hcell⟩ := (HX.out.below hB).at (flatMap_ne (K := 4) (fun a => rfl) (by omega) hx)
      obtain ⟨hc0, hc1, hc2, hc3⟩ := ev_at hcell hx
      have HK := Lib.hid hx
      clear hx hcell
      by_cases hle : ys.length ≤ k
      · have hb : begB xs ys = false := begB_no k HK.out (by rw [List.getElem?_eq_none hle]; simp)
        rw [hb]
        have hd : decide ((ys.length : Int) ≤ (k : Int)) = true := decide_eq_true (by omega)
        have HB := Lib.hid hB
        clear hB hp
        go_wp2_with fail
        all_goals go_quiet (fail)
        go_wp2
        go_ret
        exact ⟨rfl, below_drewN (HB.out.alloc hsz _) _⟩
      · obtain ⟨y, hy⟩ : ∃ y, ys[k]? = some y := ⟨_, List.getElem?_eq_getElem (by omega)⟩
        have hB2 : Below w.heap.size w (wr.alloc (.cells #[.int .i64 x.channel, .int .i64 x.kind, .int .i64 x.n, .string x.s] 38)) := hB.alloc hsz _
        obtain ⟨ad2, rfl, hadb2, hcell2⟩ := (HY.out.below hB2).at (flatMap_ne (K := 4) (fun a => rfl) (by omega) hy)
        obtain ⟨hd0, hd1, hd2, hd3⟩ := ev_at hcell2 hy
        have hlt2 : k < ys.length := by omega
        have HKy := Lib.hid hy
        clear hy hcell2
        have HB := Lib.hid hB
        clear hB2
        clear hB
        by_cases he : x = y
        · subst he
          have hq := ev_eqW (rfl : x = x)
          go_wp2_with fail
          all_goals go_quiet (fail)
          go_wp2
          go_roundw
          case rel =>
            refine ⟨k + 1, by omega, by go_num, Lib.hid fun i hi => ?_, below_drewN (HB.out.alloc hsz _) _⟩
            rcases Nat.lt_or_ge i k with h | h
            · exact hp.out i h
            · obtain rfl : i = k := by omega
              rw [HK.out, HKy.out]
          case measure => simp [intOf]; omega
        · have hq := ev_neW he
          have hb : begB xs ys = false := begB_no k HK.out (by rw [HKy.out]; intro h; exact he (Option.some.inj h).symm)
          rw [hb]
          clear hp
          go_wp2_with fail
          all_goals go_quiet (fail)
          go_wp2
          go_ret
          exact ⟨rfl, below_drewN (HB.out.alloc hsz _) _⟩
    · obtain rfl : k = xs.length := by omega
      have hb : begB xs ys = true := begB_yes fun i x hi => by
        rw [hp.out i (by rcases List.getElem?_eq_some_iff.1 hi with ⟨h, _⟩; exact h)]
        exact hi
      go_wp2
      go_ret
      exact ⟨by rw [hb]; rfl, hB⟩
set_option maxRecDepth 100000 in
set_option maxHeartbeats 2000000 in
theorem rbegins_any (xs ys : List Ev) (A C : Option Addr) (c d : Nat) (w : World) (hx : Reads w w.heap.size A (xs.flatMap evEnc)) (hy : Reads w w.heap.size C (ys.flatMap evEnc)) (hnx : xs.length ≤ 9223372036854775807) (hny : ys.length ≤ 9223372036854775807) :
    Calls Tryd.prog 14 #[.slice A xs.length c, .slice C ys.length d] w (RetB (.bool (begB xs ys)) w) := by
  have HX := Lib.hid hx
  have HY := Lib.hid hy
  clear hx hy
  by_cases hl : ys.length < xs.length
  · have hl' : (ys.length : Int) < (xs.length : Int) := by omega
    have hb : begB xs ys = false := begB_no ys.length (List.getElem?_eq_getElem hl) (by rw [List.getElem?_eq_none (Nat.le_refl _)]; simp)
    rw [hb]
    go_enter Tryd.func14, Tryd.ntmps14
    go_wp2
    go_ret
    exact ⟨rfl, Below.refl _ _⟩
  have hl' : ¬ (ys.length : Int) < (xs.length : Int) := by omega
  go_enter Tryd.func14, Tryd.ntmps14
  go_wp2
  go_loopw [13] (fun i wr => ∃ (k : Nat), k ≤ xs.length ∧ i = .int .i64 k ∧ Hid (∀ i, i < k → ys[i]? = xs[i]?) ∧ Below w.heap.size w wr) (fun i _ => xs.length - (intOf i).toNat)
  case atStart => exact ⟨0, by omega, rfl, Lib.hid fun i hi => by omega, Below.refl _ _⟩
  case round =>
    obtain ⟨k, hk, rfl, hp, hB⟩ := hrel
    have hsz := hB.size
    by_cases hlt : k < xs.length
    · obtain ⟨x, hx⟩ : ∃ x, xs[k]? = some x := ⟨_, List.getElem?_eq_getElem hlt⟩
      obtain ⟨ad, rfl, hadb, hcell⟩ := (HX.out.below hB).at (flatMap_ne (K := 4) (fun a => rfl) (by omega) hx)
      obtain ⟨hc0, hc1, hc2, hc3⟩ := ev_at hcell hx
      have HK := Lib.hid hx
      clear hx hcell
      obtain ⟨y, hy⟩ : ∃ y, ys[k]? = some y := ⟨_, List.getElem?_eq_getElem (by omega)⟩
      obtain ⟨ad2, rfl, hadb2, hcell2⟩ := (HY.out.below hB).at (flatMap_ne (K := 4) (fun a => rfl) (by omega) hy)
      obtain ⟨hd0, hd1, hd2, hd3⟩ := ev_at hcell2 hy
      have hlt2 : k < ys.length := by omega
      have HKy := Lib.hid hy
      clear hy hcell2
      have HB := Lib.hid hB
      clear hB
      by_cases he : x = y
      · subst he
        have hq := ev_eqW (rfl : x = x)
        go_wp2_with fail
        all_goals go_quiet (fail)
        go_wp2
        go_roundw
        case rel =>
          refine ⟨k + 1, by omega, by go_num, Lib.hid fun i hi => ?_, below_drewN HB.out _⟩
          rcases Nat.lt_or_ge i k with h | h
          · exact hp.out i h
          · obtain rfl : i = k := by omega
            rw [HK.out, HKy.out]
        case measure => simp [intOf]; omega
      · have hq := ev_neW he
        have hb : begB xs ys = false := begB_no k HK.out (by rw [HKy.out]; intro h; exact he (Option.some.inj h).symm)
        rw [hb]
        clear hp
        go_wp2_with fail
        all_goals go_quiet (fail)
        go_wp2
        go_ret
        exact ⟨rfl, below_drewN HB.out _⟩
    · obtain rfl : k = xs.length := by omega
      have hb : begB xs ys = true := begB_yes fun i x hi => by
        rw [hp.out i (by rcases List.getElem?_eq_some_iff.1 hi with ⟨h, _⟩; exact h)]
        exact hi
      go_wp2
      go_ret
      exact ⟨by rw [hb]; rfl, hB⟩
end Go.Proofs.YthgcadikinfdiaaDoor
