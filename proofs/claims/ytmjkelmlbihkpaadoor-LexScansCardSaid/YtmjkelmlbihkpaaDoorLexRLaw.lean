/-
  LexScans: the walk.
-/
import Derived.Test.YtmjkelmlbihkpaaDoorLexR5
import Derived.Test.YtmjkelmlbihkpaaDoorLexLaw2
set_option linter.unusedVariables false
set_option linter.unusedSimpArgs false
namespace Go.Proofs.YtmjkelmlbihkpaaDoor
open Go.ChangeShapes Go.WideShapes Go.ChangeAt Go.RowKit

set_option maxRecDepth 100000 in
set_option maxHeartbeats 8000000 in
theorem same_any (xs : List Tok) (A C : Option Addr) (c d : Nat) (w : World) (hx : Reads w w.heap.size A (xs.flatMap tkEnc)) (hy : Reads w w.heap.size C (xs.flatMap tkEnc)) (hn : xs.length ≤ 9223372036854775807) :
    Calls Tryd.prog 12 #[.slice A xs.length c, .slice C xs.length d] w fun e w' => e = .returned (.bool true) ∧ ∃ n, w' = w.drewN n := by
  obtain ⟨nx, hnx⟩ : ∃ nx, nx = xs.length := ⟨_, rfl⟩
  rw [← hnx] at hn ⊢
  have HN := Lib.hid hnx
  have HX := Lib.hid hx
  have HY := Lib.hid hy
  clear hx hy hnx
  go_enter Tryd.func12, Tryd.ntmps12
  go_wp2
  go_loopw [13] (fun i wr => ∃ k : Nat, k ≤ nx ∧ i = .int .i64 k ∧ ∃ n, wr = w.drewN n) (fun i wr => nx - (intOf i).toNat)
  case atStart => exact ⟨0, by omega, rfl, 0, rfl⟩
  case round =>
    obtain ⟨k, hk, rfl, n, rfl⟩ := hrel
    by_cases hlt : k < nx
    · obtain ⟨x, hx⟩ : ∃ x, xs[k]? = some x := ⟨_, List.getElem?_eq_getElem (by rw [← HN.out]; exact hlt)⟩
      obtain ⟨ad, rfl, hab, hcell⟩ := HX.out.at (flatMap_ne (K := 5) tkEnc_len (by omega) hx)
      obtain ⟨ae, rfl, hae, hcelle⟩ := HY.out.at (flatMap_ne (K := 5) tkEnc_len (by omega) hx)
      have x0 := elem_zero (K := 5) tkEnc_len hcell hx (by omega) rfl
      have x1 := elem_at (K := 5) tkEnc_len hcell hx 1 (by omega) (by omega) rfl
      have x2 := elem_at (K := 5) tkEnc_len hcell hx 2 (by omega) (by omega) rfl
      have x3 := elem_at (K := 5) tkEnc_len hcell hx 3 (by omega) (by omega) rfl
      have x4 := elem_at (K := 5) tkEnc_len hcell hx 4 (by omega) (by omega) rfl
      have y0 := elem_zero (K := 5) tkEnc_len hcelle hx (by omega) rfl
      have y1 := elem_at (K := 5) tkEnc_len hcelle hx 1 (by omega) (by omega) rfl
      have y2 := elem_at (K := 5) tkEnc_len hcelle hx 2 (by omega) (by omega) rfl
      have y3 := elem_at (K := 5) tkEnc_len hcelle hx 3 (by omega) (by omega) rfl
      have y4 := elem_at (K := 5) tkEnc_len hcelle hx 4 (by omega) (by omega) rfl
      have heq := tk_eq x.kind (x.a : Int) (x.z : Int) x.n x.text
      have hk' : (k : Int) < (nx : Int) := by omega
      have hk0 : (0 : Int) ≤ k := by omega
      clear hx hcell hcelle
      go_wp2_with fail
      go_quiet (fail)
      go_wp2_with fail
      go_roundw
      case rel => exact ⟨k + 1, by omega, by go_num, _, rfl⟩
      case measure => simp [intOf]; omega
    · obtain rfl : k = nx := by omega
      go_wp2
      go_ret
      exact ⟨rfl, n, rfl⟩
theorem reads_onX {w w' : World} {A : Option Addr} {xs : List Value} (h : Reads w w.heap.size A xs) (hb : Below w.heap.size w w') : Reads w' w'.heap.size A xs :=
  (Reads.below h hb).imp id fun ⟨ad, h1, h2, h3⟩ => ⟨ad, h1, Nat.lt_of_lt_of_le h2 hb.size, h3⟩
/-- Both Scans answer alike. -/
theorem scan_then {s : ByteArray} {w : World} {e : Ending} {w1 : World} (h1 : ScanOut s w e w1) :
    ∃ (toks : List Tok) (A : Option Addr) (c p er : Nat), e = .returned (.tuple #[.slice A toks.length c, .int .i64 (p : Int), .int .i64 (er : Int)]) ∧ toks.length ≤ 100001 ∧ Below w.heap.size w w1 ∧
      ∀ (e2 : Ending) (w2 : World), ScanOut s w1 e2 w2 → ∃ (C : Option Addr) (d : Nat), e2 = .returned (.tuple #[.slice C toks.length d, .int .i64 (p : Int), .int .i64 (er : Int)]) ∧
        Reads w2 w2.heap.size A (toks.flatMap tkEnc) ∧ Reads w2 w2.heap.size C (toks.flatMap tkEnc) ∧ Below w1.heap.size w1 w2 := by
  obtain ⟨hb1, h1⟩ := h1
  rcases h1 with ⟨k1, rfl⟩ | ⟨k1, p, er, h, rfl⟩ | ⟨k1, toks, A, c, h, rfl, hr, _, hl⟩
  · refine ⟨[], none, 0, 0, 2, rfl, by simp, hb1, fun e2 w2 h2 => ?_⟩
    obtain ⟨hb2, h2⟩ := h2
    rcases h2 with ⟨_, rfl⟩ | ⟨k2, _⟩ | ⟨k2, _⟩
    · exact ⟨none, 0, rfl, .inl rfl, .inl rfl, hb2⟩
    · omega
    · omega
  · refine ⟨[], none, 0, p, er, rfl, by simp, hb1, fun e2 w2 h2 => ?_⟩
    obtain ⟨hb2, h2⟩ := h2
    rcases h2 with ⟨k2, _⟩ | ⟨_, p', er', h', rfl⟩ | ⟨_, toks, A, c, h', _⟩
    · omega
    · rw [h] at h'
      injection h' with h'
      injection h' with e1 e2
      subst e1 e2
      exact ⟨none, 0, rfl, .inl rfl, .inl rfl, hb2⟩
    · rw [h] at h'; cases h'
  · refine ⟨toks, A, c, 0, 0, rfl, by omega, hb1, fun e2 w2 h2 => ?_⟩
    obtain ⟨hb2, h2⟩ := h2
    rcases h2 with ⟨k2, _⟩ | ⟨_, p', er', h', _⟩ | ⟨_, toks', C, d, h', rfl, hr2, _, _⟩
    · omega
    · rw [h] at h'; cases h'
    · rw [h] at h'
      injection h' with h'
      subst h'
      exact ⟨C, d, rfl, reads_onX hr hb2, hr2, hb2⟩
set_option maxRecDepth 100000 in
set_option maxHeartbeats 8000000 in
theorem lexScans_walk (s : ByteArray) (w : World) (hw : LexW w) : Calls Tryd.prog 3 #[.string s] w (RetB (.bool true) w) := by
  have HW := Lib.hid hw
  clear hw
  go_enter Tryd.func3, Tryd.ntmps3
  go_wp2_with fail
  refine (awake05_any w HW.out).mono ?_
  rintro e w1 ⟨rfl, hb1⟩
  have HB1 := Lib.hid hb1
  clear hb1
  by_cases h5 : 5000 < s.size
  · have h5' : (5000 : Int) < (s.size : Int) := by omega
    by_cases h1 : s.size ≤ 100000
    · have h1' : (s.size : Int) ≤ 100000 := by omega
      clear h5 h1
      go_wp2
      go_ret
      exact ⟨rfl, HB1.out⟩
    have h1' : ¬ (s.size : Int) ≤ 100000 := by omega
    clear h5 h1
    go_wp2_with fail
    refine (scan_anyW s w1 (HW.out.below HB1.out)).mono ?_
    intro e w2 ho1
    obtain ⟨toks, A, c, p, er, rfl, hl, hb2, hth⟩ := scan_then ho1
    have HTH := Lib.hid hth
    have HB2 := Lib.hid (HB1.out.trans (hb2.mono HB1.out.size))
    clear ho1 hb2 hth
    obtain ⟨nx, hnx⟩ : ∃ nx, nx = toks.length := ⟨_, rfl⟩
    have HNX := Lib.hid hnx
    rw [← hnx] at hl ⊢
    clear hnx
    go_wp2_with fail
    refine (rscan_any s w2).mono ?_
    intro e w3 ho2
    obtain ⟨C, d, rfl, hrA, hrC, hb3⟩ := HTH.out _ _ ho2
    have HB3 := Lib.hid (HB2.out.trans (hb3.mono HB2.out.size))
    have HSM := Lib.hid (same_any toks A C c d w3 hrA hrC (by rw [← HNX.out]; omega))
    rw [← HNX.out] at HSM ⊢
    clear ho2 hrA hrC hb3
    go_wp2_with fail
    refine HSM.out.mono ?_
    rintro e w4 ⟨rfl, q, rfl⟩
    go_wp2
    go_ret
    exact ⟨rfl, ⟨HB3.out.os, HB3.out.tape, HB3.out.output, HB3.out.size, HB3.out.block⟩⟩
  have h5' : ¬ (5000 : Int) < (s.size : Int) := by omega
  clear h5
  go_wp2_with fail
  refine (scan_anyW s w1 (HW.out.below HB1.out)).mono ?_
  intro e w2 ho1
  obtain ⟨toks, A, c, p, er, rfl, hl, hb2, hth⟩ := scan_then ho1
  have HTH := Lib.hid hth
  have HB2 := Lib.hid (HB1.out.trans (hb2.mono HB1.out.size))
  clear ho1 hb2 hth
  obtain ⟨nx, hnx⟩ : ∃ nx, nx = toks.length := ⟨_, rfl⟩
  have HNX := Lib.hid hnx
  rw [← hnx] at hl ⊢
  clear hnx
  go_wp2_with fail
  refine (rscan_any s w2).mono ?_
  intro e w3 ho2
  obtain ⟨C, d, rfl, hrA, hrC, hb3⟩ := HTH.out _ _ ho2
  have HB3 := Lib.hid (HB2.out.trans (hb3.mono HB2.out.size))
  have HSM := Lib.hid (same_any toks A C c d w3 hrA hrC (by rw [← HNX.out]; omega))
  rw [← HNX.out] at HSM ⊢
  clear ho2 hrA hrC hb3
  go_wp2_with fail
  refine HSM.out.mono ?_
  rintro e w4 ⟨rfl, q, rfl⟩
  go_wp2
  go_ret
  exact ⟨rfl, ⟨HB3.out.os, HB3.out.tape, HB3.out.output, HB3.out.size, HB3.out.block⟩⟩
end Go.Proofs.YtmjkelmlbihkpaaDoor
