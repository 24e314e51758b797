/-
  A number's text: the program's reader, at a hexadecimal one.
-/
import Derived.Test.YtmjkelmlbihkpaaDoorNumberW
set_option linter.unusedVariables false
set_option linter.unusedSimpArgs false
namespace Go.Proofs.YtmjkelmlbihkpaaDoor
open Go.ChangeShapes Go.WideShapes Go.ChangeAt Go.RowKit

theorem hex_wrap (N D : Nat) : IntKind.u64.wrap (IntKind.u64.wrap ((N : Int) * 16) + (D : Int)) = (((16 * N + D) % 18446744073709551616 : Nat) : Int) := by
  rw [IntKind.wrap_u64, IntKind.wrap_u64]
  omega
set_option maxRecDepth 100000 in
set_option maxHeartbeats 2000000 in
theorem number_hex (s : ByteArray) (w : World) (hs : s.size ≤ maxLen) (hx : isHexB s = true) : Calls Tryd.prog 47 #[.string s] w (RetB (.tuple #[.int .i64 ((numS s).getD 0), .bool (numS s).isSome]) w) := by
  have e0 : numS s = if s.size ≤ 18 then (hexGo (s.extract 2 s.size).data.toList 0).map (fun n : Nat => wrap64 (n : Int)) else none := by
    unfold numS
    rw [hx, Lib.extract_data, List.take_of_length_le (by simp)]
    rfl
  unfold maxLen at hs
  have h2 : 2 < s.size := by unfold isHexB at hx; simp at hx; exact hx.1
  have hx3 : ((s.extract 0 2).toList == [48, 120]) = true := by
    unfold isHexB at hx
    simpa [h2] using hx
  clear hx
  generalize hR : numS s = R at e0 ⊢
  clear hR
  have hsz : (s.extract 2 s.size).size = s.size - 2 := by simp
  have E0 := Lib.hid e0
  have HZ := Lib.hid hsz
  clear e0 hsz
  go_enter Tryd.func47, Tryd.ntmps47
  go_wp2
  go_quiet (fail)
  go_wp2
  have hbW : Below w.heap.size w (w.drewN nq) := below_drewN (Below.refl _ _) nq
  have eW : w.heap.size = (w.drewN nq).heap.size := rfl
  rw [eW]
  have hsW : w.heap.size ≤ (w.drewN nq).heap.size := Nat.le_refl _
  generalize w.drewN nq = W at *
  generalize s.extract 2 s.size = t at *
  clear eW
  go_loopw [5] (fun n w' => ∃ (pos N : Nat), w' = W.iter t pos ∧ pos ≤ t.size ∧ n = .int .u64 (N : Int) ∧ Hid (hexGo (t.data.toList.drop pos) N = hexGo t.data.toList 0)) (fun _ w' => t.size - w'.iterPos W.heap.size)
  case atStart => exact ⟨0, 0, rfl, by omega, rfl, Lib.hid rfl⟩
  case round =>
    obtain ⟨pos, N, rfl, hps, rfl, hG⟩ := hrel
    by_cases hp : pos < t.size
    · have hd := drop_at hp
      have HG := Lib.hid hG.out
      clear hG
      have hG := HG.out
      rw [hd] at hG
      clear hd HG
      by_cases ha : (t[pos]'hp).toNat < 128
      · have hdec := decode_ascii t pos hp ha
        have hnx : ∀ ty, (Instr.next (.pointer (some ⟨W.heap.size, 0, none⟩)) true ty).run Tryd.prog (W.iter t pos) = _ := fun ty => run_next_ascii W t pos ty hp ha
        have hcl := digit_any (t[pos]'hp).toNat (W.iter t (pos + 1)) (by omega)
        clear hdec
        generalize (t[pos]'hp) = c at hcl hnx hG ha
        have hDl := digN_le c.toNat
        by_cases h10 : hexV c.toNat < 16
        · rw [digN_lo (by omega)] at hcl hDl
          rw [hexGo_step h10] at hG
          have HG := Lib.hid hG
          clear hG
          generalize hexV c.toNat = D at hcl h10 HG hDl
          go_wp2_with (go_at_call 59; refine hcl.mono ?_; rintro e w' ⟨rfl, rfl⟩)
          go_roundw
          case rel => exact ⟨pos + 1, (16 * N + D) % 18446744073709551616, rfl, by omega, by rw [hex_wrap], HG⟩
          case measure => simp; omega
        · have h99 := digN_16 h10
          rw [hexGo_bad h10] at hG
          have hR : R = none := by rw [E0.out, ← hG]; simp
          subst hR
          clear hG h10
          rw [h99] at hcl
          clear h99 hDl
          go_wp2_with (go_at_call 59; refine hcl.mono ?_; rintro e w' ⟨rfl, rfl⟩)
          go_ret2
          exact ⟨rfl, below_iter hbW hsW _ _⟩
      · have hnx : ∀ ty, (Instr.next (.pointer (some ⟨W.heap.size, 0, none⟩)) true ty).run Tryd.prog (W.iter t pos) = _ := fun ty => run_next_any W t pos ty hp
        obtain ⟨hr1, hr2⟩ := decode_high t pos hp (by omega)
        have hr3 := decode_le t pos
        rw [hexGo_bad (by rw [hexV_high _ (by omega)]; omega)] at hG
        have hR : R = none := by rw [E0.out, ← hG]; simp
        subst hR
        clear hG
        generalize Utf8.decode t pos = dd at hnx hr1 hr2 hr3
        obtain ⟨rn, wd⟩ := dd
        have hcl := digit_any rn (W.iter t (pos + wd)) (by omega)
        rw [digN_high rn (by omega)] at hcl
        go_wp2_with (go_at_call 59; refine hcl.mono ?_; rintro e w' ⟨rfl, rfl⟩)
        go_ret2
        exact ⟨rfl, below_iter hbW hsW _ _⟩
    · obtain rfl : pos = t.size := by omega
      have hG' := hG.out
      rw [List.drop_of_length_le (by simp)] at hG'
      have hnx : ∀ ty, (Instr.next (.pointer (some ⟨W.heap.size, 0, none⟩)) true ty).run Tryd.prog (W.iter t t.size) = _ := fun ty => run_next_end W t t.size ty hp
      have hR := E0.out
      rw [← hG'] at hR
      have HR := Lib.hid hR
      clear hG hG' hp hR
      have hz := HZ.out
      obtain ⟨z1, z2⟩ := bytes_some (s := t) (by omega)
      clear hz
      by_cases h18 : s.size ≤ 18
      · obtain ⟨v, hv⟩ : ∃ v, wrap64 (N : Int) = v := ⟨_, rfl⟩
        have hR : R = some v := by rw [HR.out, if_pos h18, hexGo, Option.map_some, hv]
        have hq : ¬ 16 < (t.size : Int) := by have := HZ.out; omega
        have HV := Lib.hid hv
        subst hR
        clear h18 hv
        go_wp2
        go_ret2
        exact ⟨ret_ib HV.out rfl, below_iter hbW hsW _ _⟩
      · have hR : R = none := by rw [HR.out, if_neg h18]
        have hq : 16 < (t.size : Int) := by have := HZ.out; omega
        subst hR
        clear h18
        go_wp2
        go_ret2
        exact ⟨rfl, below_iter hbW hsW _ _⟩
theorem number_any (s : ByteArray) (w : World) (hs : s.size ≤ maxLen) : Calls Tryd.prog 47 #[.string s] w (RetB (.tuple #[.int .i64 ((numS s).getD 0), .bool (numS s).isSome]) w) := by
  cases hx : isHexB s
  · exact number_dec s w hs hx
  · exact number_hex s w hs hx
end Go.Proofs.YtmjkelmlbihkpaaDoor
