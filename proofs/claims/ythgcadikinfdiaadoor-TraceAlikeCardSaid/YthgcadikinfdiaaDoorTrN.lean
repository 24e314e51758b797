/-
  Chapter 25: Alike of the reference.
-/
import Derived.Test.YthgcadikinfdiaaDoorTrH
set_option linter.unusedVariables false
set_option linter.unusedSimpArgs false
namespace Go.Proofs.YthgcadikinfdiaaDoor
open Go.ChangeShapes Go.WideShapes Go.ChangeAt Go.RowKit

theorem len_ne {xs ys : List Int} (h : ¬ xs.length = ys.length) : ¬ xs = ys := fun e => h (by rw [e])
set_option maxRecDepth 100000 in
set_option maxHeartbeats 2000000 in
theorem ralike_any (xs ys : Nat → List Int) (A C : Nat → Option Addr) (c d : Nat → Nat) (m : Nat → Nat) (see : Nat) (w : World) (hm : ∀ i, i < 8 → m i < 18446744073709551616) (hs : see < 18446744073709551616)
    (hx : ∀ k, k < 8 → Reads w w.heap.size (A k) (i64s (xs k)) ∧ (xs k).length ≤ 9223372036854775807) (hy : ∀ k, k < 8 → Reads w w.heap.size (C k) (i64s (ys k)) ∧ (ys k).length ≤ 9223372036854775807) :
    Calls Tryd.prog 18 #[.agg (arr8 (sl8 A xs c)), .agg (arr8 (sl8 C ys d)), .agg (arr8 (mv m)), .int .u64 (see : Int)] w (RetB (.bool (alike xs ys m see)) w) := by
  have HX := Lib.hid hx
  have HY := Lib.hid hy
  have HM := Lib.hid hm
  have HSE := Lib.hid hs
  clear hx hy hm hs
  go_enter Tryd.func18, Tryd.ntmps18
  go_wp2
  go_loopw [11] (fun i wr => ∃ (k : Nat), k ≤ 8 ∧ i = .int .i64 k ∧ Hid (∀ i, i < k → flowsB (m i) see = true → xs i = ys i) ∧ Below (w.heap.size + 3) (((w.alloc (.cells (arr8 (sl8 A xs c)) 35)).alloc (.cells (arr8 (sl8 C ys d)) 35)).alloc (.cells (arr8 (mv m)) 25)) wr) (fun i _ => 8 - (intOf i).toNat)
  case atStart => exact ⟨0, by omega, rfl, Lib.hid fun i hi => by omega, Below.refl _ _⟩
  case round =>
    obtain ⟨k, hk, rfl, hp, hB⟩ := hrel
    obtain ⟨b0, b1, b2⟩ := blk3 hB
    have hsz := hB.size
    simp at hsz
    have hBw : Below w.heap.size w wr := ((((Below.refl _ w).alloc (Nat.le_refl _) _).alloc (by simp) _).alloc (by simp; omega) _).trans (hB.mono (by omega))
    by_cases hlt : k < 8
    · have q0 : wr.cell? ⟨w.heap.size + 1 + 1, k, none⟩ = some (.int .u64 (m k : Int)) := cell_of_blk b2 (eight_arr (mv m) k hlt)
      have f0 : wr.cell? ⟨w.heap.size, k, none⟩ = some (.slice (A k) (xs k).length (c k)) := cell_of_blk b0 (eight_arr (sl8 A xs c) k hlt)
      have f1 : wr.cell? ⟨w.heap.size + 1, k, none⟩ = some (.slice (C k) (ys k).length (d k)) := cell_of_blk b1 (eight_arr (sl8 C ys d) k hlt)
      have l0 := blk_lt b0
      have l1 := blk_lt b1
      have l2 := blk_lt b2
      have hk8 : (k : Int) < 8 := by omega
      have HF := Lib.hid (fun W => rflows_any (m k) see W (HM.out k hlt) HSE.out)
      have HB := Lib.hid hB
      have HBw := Lib.hid hBw
      have HXk := Lib.hid (HX.out k hlt)
      have HYk := Lib.hid (HY.out k hlt)
      have B0 := Lib.hid b0
      have B1 := Lib.hid b1
      clear b0 b1 b2 hB hBw
      have hnx := HXk.out.2
      have hny := HYk.out.2
      cases hfl : flowsB (m k) see
      · rw [hfl] at HF
        have HFL := Lib.hid hfl
        clear hfl f0 f1
        go_wp2_with (go_at_call 20; refine (HF.out _).mono ?_; rintro e w' ⟨rfl, rfl⟩)
        go_roundw
        case rel => exact ⟨k + 1, by omega, by go_num, Lib.hid (alike_step hp.out fun h => by rw [HFL.out] at h; cases h), HB.out⟩
        case measure => simp [intOf]; omega
      rw [hfl] at HF
      have HFL := Lib.hid hfl
      clear hfl
      by_cases hl : (xs k).length = (ys k).length
      · have hq : (((xs k).length : Int) != ((ys k).length : Int)) = false := by simp; omega
        have HL := Lib.hid hl
        clear hl
        go_wp2_with (go_at_call 20; refine (HF.out _).mono ?_; rintro e w' ⟨rfl, rfl⟩)
        all_goals go_quiet (fail)
        go_wp2
        clear f0 f1 q0
        go_loopw [33] (fun j wr2 => ∃ (i : Nat), i ≤ (xs k).length ∧ j = .int .i64 i ∧ Hid (∀ z, z < i → (ys k)[z]? = (xs k)[z]?) ∧ Below (w.heap.size + 3) (((w.alloc (.cells (arr8 (sl8 A xs c)) 35)).alloc (.cells (arr8 (sl8 C ys d)) 35)).alloc (.cells (arr8 (mv m)) 25)) wr2) (fun j _ => (xs k).length - (intOf j).toNat)
        case atStart => exact ⟨0, by omega, rfl, Lib.hid fun i hi => by omega, below_drewN HB.out _⟩
        case round =>
          obtain ⟨i, hi, rfl, hp2, hB2⟩ := hrel
          obtain ⟨b0, b1, b2⟩ := blk3 hB2
          have hsz2 := hB2.size
          simp at hsz2
          have hBw2 := Lib.hid (((((Below.refl _ w).alloc (Nat.le_refl _) (.cells (arr8 (sl8 A xs c)) 35)).alloc (by simp) (.cells (arr8 (sl8 C ys d)) 35)).alloc (by simp; omega) (.cells (arr8 (mv m)) 25)).trans (hB2.mono (by omega)))
          have HB2 := Lib.hid hB2
          by_cases hlt2 : i < (xs k).length
          · have hlt3 : i < (ys k).length := by rw [← HL.out]; exact hlt2
            obtain ⟨x, hx⟩ : ∃ x, (xs k)[i]? = some x := ⟨_, List.getElem?_eq_getElem hlt2⟩
            obtain ⟨y, hy⟩ : ∃ y, (ys k)[i]? = some y := ⟨_, List.getElem?_eq_getElem hlt3⟩
            obtain ⟨ad, hA, hadb, hc0⟩ := reads_i64 (HXk.out.1.below hBw2.out) hx
            obtain ⟨ad2, hC, hadb2, hd0⟩ := reads_i64 (HYk.out.1.below hBw2.out) hy
            have f0 : wr.cell? ⟨w.heap.size, k, none⟩ = some (.slice (some ad) (xs k).length (c k)) := by rw [← hA]; exact cell_of_blk b0 (eight_arr (sl8 A xs c) k hlt)
            have f1 : wr.cell? ⟨w.heap.size + 1, k, none⟩ = some (.slice (some ad2) (ys k).length (d k)) := by rw [← hC]; exact cell_of_blk b1 (eight_arr (sl8 C ys d) k hlt)
            have HKx := Lib.hid hx
            have HKy := Lib.hid hy
            clear b0 b1 b2 hB2 hx hy hA hC
            by_cases he : x = y
            · subst he
              have hq2 : (x != x) = false := by simp
              go_wp2_with fail
              all_goals go_quiet (fail)
              go_wp2
              go_roundw
              case rel =>
                refine ⟨i + 1, by omega, by go_num, Lib.hid fun z hz => ?_, below_drewN HB2.out _⟩
                rcases Nat.lt_or_ge z i with h | h
                · exact hp2.out z h
                · obtain rfl : z = i := by omega
                  rw [HKx.out, HKy.out]
              case measure => simp [intOf]; omega
            · have hq2 : (x != y) = true := by simpa using he
              have hb := Lib.hid (alike_no (k := k) hlt HFL.out (ne_at HKx.out HKy.out he))
              clear hp2 he
              go_wp2_with fail
              all_goals go_quiet (fail)
              go_wp2
              go_ret
              exact ⟨by rw [hb.out]; rfl, below_drewN hBw2.out _⟩
          · obtain rfl : i = (xs k).length := by omega
            have HEQ := Lib.hid (eq_upto HL.out hp2.out)
            clear b0 b1 b2 hB2
            go_wp2
            go_roundw
            case rel => exact ⟨k + 1, by omega, by go_num, Lib.hid (alike_step hp.out fun _ => HEQ.out), HB2.out⟩
            case measure => simp [intOf]; omega
      · have hq : (((xs k).length : Int) != ((ys k).length : Int)) = true := by simp; omega
        have hb := Lib.hid (alike_no (k := k) hlt HFL.out (len_ne hl))
        clear hl
        go_wp2_with (go_at_call 20; refine (HF.out _).mono ?_; rintro e w' ⟨rfl, rfl⟩)
        all_goals go_quiet (fail)
        go_wp2
        go_ret
        exact ⟨by rw [hb.out]; rfl, below_drewN HBw.out _⟩
    · obtain rfl : k = 8 := by omega
      have HBE := Lib.hid (alike_yes hp.out)
      go_wp2
      go_ret
      exact ⟨by rw [HBE.out]; rfl, hBw⟩
end Go.Proofs.YthgcadikinfdiaaDoor
