/-
  A number's text: the program's reader.
-/
import Derived.Test.YtmjkelmlbihkpaaDoorNumber
set_option linter.unusedVariables false
set_option linter.unusedSimpArgs false
namespace Go.Proofs.YtmjkelmlbihkpaaDoor
open Go.ChangeShapes Go.WideShapes Go.ChangeAt Go.RowKit

set_option maxRecDepth 100000 in
set_option maxHeartbeats 2000000 in
theorem number_dec (s : ByteArray) (w : World) (hs : s.size ≤ maxLen) (hx : isHexB s = false) : Calls Tryd.prog 47 #[.string s] w (RetB (.tuple #[.int .i64 ((numS s).getD 0), .bool (numS s).isSome]) w) := by
  have e0 : numS s = if s.size = 0 then none else (decGo s.data.toList 0).map (fun n : Nat => wrap64 (n : Int)) := by unfold numS; rw [hx]; rfl
  unfold maxLen at hs
  have hx2 : 2 < s.size → ((s.extract 0 2).toList == [48, 120]) = false := by
    intro h
    unfold isHexB at hx
    simpa [h] using hx
  clear hx
  generalize hR : numS s = R at e0 ⊢
  clear hR
  have E0 := Lib.hid e0
  clear e0
  by_cases h2 : 2 < s.size
  all_goals
    first | have hx3 := hx2 h2 | skip
    clear hx2
    go_enter Tryd.func47, Tryd.ntmps47
    go_wp2
    go_loopw [5] (fun n w' => ∃ (pos N : Nat), w' = w.iter s pos ∧ pos ≤ s.size ∧ n = .int .u64 (N : Int) ∧ N ≤ 9223372036854775807 ∧ Hid (decGo (s.data.toList.drop pos) N = decGo s.data.toList 0)) (fun _ w' => s.size - w'.iterPos w.heap.size)
    case atStart => exact ⟨0, 0, rfl, by omega, rfl, by omega, Lib.hid rfl⟩
    case round =>
      obtain ⟨pos, N, rfl, hps, rfl, hN, hG⟩ := hrel
      by_cases hp : pos < s.size
      · have hd := drop_at hp
        have HG := Lib.hid hG.out
        clear hG
        have hG := HG.out
        rw [hd] at hG
        clear hd HG
        by_cases ha : (s[pos]'hp).toNat < 128
        · have hdec := decode_ascii s pos hp ha
          have hnx : ∀ ty, (Instr.next (.pointer (some ⟨w.heap.size, 0, none⟩)) true ty).run Tryd.prog (w.iter s pos) = _ := fun ty => run_next_ascii w s pos ty hp ha
          have hcl := digit_any (s[pos]'hp).toNat (w.iter s (pos + 1)) (by omega)
          clear hdec
          generalize (s[pos]'hp) = c at hcl hnx hG ha
          have hDl := digN_le c.toNat
          have HN := Lib.hid hN
          clear hN
          by_cases h10 : hexV c.toNat < 10
          · rw [digN_lo (by omega)] at hcl hDl
            have HG := Lib.hid hG
            clear hG
            go_wp2_with (go_at_call 59; refine hcl.mono ?_; rintro e w' ⟨rfl, rfl⟩)
            · have hq : 10 ≤ (hexV c.toNat : Int) ∨ (9223372036854775807 - (hexV c.toNat : Int)) / 10 < N := by assumption
              have hG := HG.out
              rw [decGo_over (by omega)] at hG
              have hR : R = none := by rw [E0.out, ← hG]; simp
              subst hR
              go_ret2
              exact ⟨rfl, below_iter (Below.refl _ _) (Nat.le_refl _) _ _⟩
            · have hq : (hexV c.toNat : Int) < 10 ∧ (N : Int) ≤ (9223372036854775807 - (hexV c.toNat : Int)) / 10 := by assumption
              have hG := HG.out
              rw [decGo_step h10 (by omega)] at hG
              go_roundw
              case rel => exact ⟨pos + 1, 10 * N + hexV c.toNat, rfl, by omega, by go_num, by omega, Lib.hid hG⟩
              case measure => simp; omega
          · have h99 := digN_ge h10
            rw [decGo_bad h10] at hG
            have hR : R = none := by rw [E0.out, ← hG]; simp
            subst hR
            clear hG h10
            generalize digN c.toNat = D at hcl hDl h99
            go_wp2_with (go_at_call 59; refine hcl.mono ?_; rintro e w' ⟨rfl, rfl⟩)
            go_ret2
            exact ⟨rfl, below_iter (Below.refl _ _) (Nat.le_refl _) _ _⟩
        · have hnx : ∀ ty, (Instr.next (.pointer (some ⟨w.heap.size, 0, none⟩)) true ty).run Tryd.prog (w.iter s pos) = _ := fun ty => run_next_any w s pos ty hp
          obtain ⟨hr1, hr2⟩ := decode_high s pos hp (by omega)
          have hr3 := decode_le s pos
          rw [decGo_bad (by rw [hexV_high _ (by omega)]; omega)] at hG
          have hR : R = none := by rw [E0.out, ← hG]; simp
          subst hR
          clear hG
          generalize Utf8.decode s pos = dd at hnx hr1 hr2 hr3
          obtain ⟨rn, wd⟩ := dd
          have hcl := digit_any rn (w.iter s (pos + wd)) (by omega)
          rw [digN_high rn (by omega)] at hcl
          go_wp2_with (go_at_call 59; refine hcl.mono ?_; rintro e w' ⟨rfl, rfl⟩)
          go_ret2
          exact ⟨rfl, below_iter (Below.refl _ _) (Nat.le_refl _) _ _⟩
      · obtain rfl : pos = s.size := by omega
        have hG' := hG.out
        rw [List.drop_of_length_le (by simp)] at hG'
        have hnx : ∀ ty, (Instr.next (.pointer (some ⟨w.heap.size, 0, none⟩)) true ty).run Tryd.prog (w.iter s s.size) = _ := fun ty => run_next_end w s s.size ty hp
        have hR := E0.out
        rw [← hG'] at hR
        have HR := Lib.hid hR
        clear hG hG' hp hR
        by_cases hz : s.size = 0
        · obtain ⟨z1, z2⟩ := bytes_none hz
          have hR : R = none := by rw [HR.out, if_pos hz]
          subst hR
          clear hz
          first
            | (exfalso; omega)
            | (go_wp2
               go_ret2
               exact ⟨rfl, below_iter (Below.refl _ _) (Nat.le_refl _) _ _⟩)
        · obtain ⟨z1, z2⟩ := bytes_some hz
          have hR : R = some (N : Int) := by rw [HR.out, if_neg hz, decGo, Option.map_some, wrap_in (by omega) (by omega)]
          subst hR
          clear hz
          go_wp2
          go_ret2
          exact ⟨rfl, below_iter (Below.refl _ _) (Nat.le_refl _) _ _⟩
end Go.Proofs.YtmjkelmlbihkpaaDoor
