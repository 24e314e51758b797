/-
  Chapter 1's statements: the walks of those over texts and lists.
-/
import Derived.Test.YtmlknpoippfkeaaDoorLabLaws
set_option linter.unusedVariables false
set_option linter.unusedSimpArgs false
namespace Go.Proofs.YtmlknpoippfkeaaDoor
open Go.ChangeShapes Go.WideShapes Go.ChangeAt Go.RowKit Go.Shelf

theorem showS_size (l : Nat) : (showS l).size ≤ 300 := by
  have := (showB_len l).2
  show (showB l).toArray.size ≤ 300
  simpa using this
set_option maxHeartbeats 1000000 in
theorem lshows_walk (l : Nat) (w : World) (hw : LabW w) (hl : l < 18446744073709551616) :
    Calls Tryd.prog 4 #[.int .u64 (l : Int)] w (RetB (.bool true) w) := by
  have h1 := fun w (h : Tab64 w) => show_any l hl w h
  have h2 := fun w (h : LabW w) => parse_any (showS l) w (by have := showS_size l; unfold maxLen; omega) h
  have h3 := fun w => rtext_any l hl w
  have e : parseP (showS l).data.toList = some l := parseP_show hl
  rw [e] at h2
  have h2' : ∀ w, LabW w → Calls Tryd.prog 14 #[.string (showS l)] w (RetB (.tuple #[.int .u64 (l : Int), .bool true]) w) := h2
  have H2 := Lib.hid h2'
  have HW := Lib.hid hw
  clear h2 h2' e hw
  generalize showS l = s at h1 H2 h3
  go_enter Tryd.func4, Tryd.ntmps4
  go_wp2_with fail
  refine (awake01 _ HW.out).mono ?_
  rintro e w1 ⟨rfl, hb1⟩
  have HW1 := Lib.hid (HW.out.below hb1)
  go_wp2_with fail
  refine (h1 _ HW1.out.tab).mono ?_
  rintro e w2 ⟨rfl, hb2⟩
  have HW2 := Lib.hid (HW1.out.below hb2)
  have hb12 := hb1.trans (hb2.mono hb1.size)
  go_wp2_with fail
  refine (H2.out _ HW2.out).mono ?_
  rintro e w3 ⟨rfl, hb3⟩
  have hb13 := hb12.trans (hb3.mono hb12.size)
  go_wp2_with fail
  refine (h3 _).mono ?_
  rintro e w4 ⟨rfl, hb4⟩
  go_wp2
  go_ret
  exact ⟨by first | rfl | simp, hb13.trans (hb4.mono hb13.size)⟩
set_option maxHeartbeats 1000000 in
theorem lparses_walk (s : ByteArray) (w : World) (hw : LabW w) (hs : s.size ≤ maxLen) :
    Calls Tryd.prog 5 #[.string s] w (RetB (.bool true) w) := by
  have h1 := fun w (h : LabW w) => parse_any s w hs h
  have h2 := fun w => rparse_any s w hs
  rw [parse_alike] at h2
  generalize parseP s.data.toList = R at h1 h2
  have HW := Lib.hid hw
  clear hw
  unfold maxLen at hs
  by_cases hl : 1000 < s.size
  · go_enter Tryd.func5, Tryd.ntmps5
    go_wp2_with fail
    refine (awake01 _ HW.out).mono ?_
    rintro e w1 ⟨rfl, hb1⟩
    go_wp2
    go_ret
    exact ⟨rfl, hb1⟩
  · unfold parseV at h1 h2
    cases R
    all_goals
      simp only [Option.getD_none, Option.getD_some, Option.isSome_none, Option.isSome_some] at h1 h2
      go_enter Tryd.func5, Tryd.ntmps5
      go_wp2_with fail
      refine (awake01 _ HW.out).mono ?_
      rintro e w1 ⟨rfl, hb1⟩
      have HW1 := Lib.hid (HW.out.below hb1)
      go_wp2_with fail
      refine (h1 _ HW1.out).mono ?_
      rintro e w2 ⟨rfl, hb2⟩
      have hb12 := hb1.trans (hb2.mono hb1.size)
      go_wp2_with fail
      refine (h2 _).mono ?_
      rintro e w3 ⟨rfl, n3, rfl⟩
      go_wp2
      go_ret
      exact ⟨by first | rfl | simp, hb12.trans ((below_drewN (Below.refl _ _) n3).mono hb12.size)⟩
set_option maxRecDepth 100000 in
set_option maxHeartbeats 2000000 in
theorem ljoins_walk (l : List Nat) (A : Option Addr) (c a b : Nat) (w : World) (hw : LabW w) (hl : ∀ x ∈ l, x < 18446744073709551616) (ha : a < 18446744073709551616) (hb : b < 18446744073709551616) (hn : l.length ≤ 9223372036854775807)
    (hr : Reads w w.heap.size A (l.map fun x : Nat => Value.int .u64 (x : Int))) :
    Calls Tryd.prog 6 #[.slice A l.length c, .int .u64 (a : Int), .int .u64 (b : Int)] w (RetB (.bool true) w) := by
  have HW := Lib.hid hw
  have HL := Lib.hid hl
  have HR := Lib.hid hr
  clear hw hr
  by_cases hlen : 200 < l.length
  · go_enter Tryd.func6, Tryd.ntmps6
    go_wp2_with fail
    refine (awake01 _ HW.out).mono ?_
    rintro e w1 ⟨rfl, hb1⟩
    go_wp2
    go_ret
    exact ⟨rfl, hb1⟩
  · have hjl := joinL_lt l hl
    have hj1 : ∀ w', Below w.heap.size w w' → Calls Tryd.prog 18 #[.slice A l.length c] w' (Ret (.int .u64 (joinL l : Int)) w') := fun w' hb => joinv_any l A c w.heap.size w' hl hn (HR.out.below hb)
    have hj2 := fun n c t w h => join2_any a b n c t w ha hb h
    have hj3 := fun w => rjoin_any a b w ha hb
    have hj4 := fun w => meet_any a b w ha hb
    have hj5 := fun w => rmeet_any a b w ha hb
    have HJ1 := Lib.hid hj1
    have HJ2 := Lib.hid hj2
    have HJ3 := Lib.hid hj3
    have HJ4 := Lib.hid hj4
    have HJ5 := Lib.hid hj5
    clear hj1 hj2 hj3 hj4 hj5 hl
    go_enter Tryd.func6, Tryd.ntmps6
    go_wp2_with fail
    refine (awake01 _ HW.out).mono ?_
    rintro e w1 ⟨rfl, hb1⟩
    have HB1 := Lib.hid hb1
    have HR1 := Lib.hid (HR.out.below hb1)
    clear hb1
    go_wp2
    go_loop [7, 9, 17] (fun t _ i => ∃ k : Nat, k ≤ l.length ∧ i = .int .i64 k ∧ t = .int .u64 (joinL (l.take k) : Int)) (fun _ _ i => l.length - (intOf i).toNat)
    case atStart => exact ⟨0, by omega, rfl, rfl⟩
    case round =>
      obtain ⟨k, hk, rfl, rfl⟩ := hrel
      by_cases hlt : k < l.length
      · rcases HR1.out with h0 | ⟨ad, rfl, hbd, hc⟩
        · simp at h0; subst h0; simp at hlt
        · have hc' := hc k (.int .u64 (l[k] : Int)) (by simp [hlt])
          have hj := joinL_snoc l k hlt
          have h1 : joinL (l.take k) < 18446744073709551616 := joinL_lt _ fun x hx => HL.out x (List.mem_of_mem_take hx)
          have h2 : l[k] < 18446744073709551616 := HL.out _ (List.getElem_mem hlt)
          have hrj := fun w => rjoin_any _ _ w h1 h2
          rw [← hj] at hrj
          generalize l[k] = x at hc' hrj
          generalize joinL (l.take k) = o1 at hrj ⊢
          generalize hO2 : joinL (l.take (k + 1)) = o2 at hrj
          have HO := Lib.hid hO2
          clear hj hc hO2
          go_wp2_with fail
          refine (hrj _).mono ?_
          rintro e w' ⟨rfl, rfl⟩
          go_wp2
          go_round
          case rel => exact ⟨k + 1, by omega, by go_num, by rw [HO.out]⟩
          case measure => simp [intOf]; omega
      · obtain rfl : k = l.length := by omega
        rw [List.take_length]
        go_wp2_with fail
        refine (HJ1.out _ HB1.out).mono ?_
        rintro e w' ⟨rfl, rfl⟩
        go_wp2_with fail
        refine (HJ2.out _ _ _ _ (heap_alloc_new _ _)).mono ?_
        rintro e w' ⟨rfl, rfl⟩
        go_wp2_with fail
        refine (HJ3.out _).mono ?_
        rintro e w' ⟨rfl, rfl⟩
        go_wp2_with fail
        refine (HJ4.out _).mono ?_
        rintro e w' ⟨rfl, rfl⟩
        go_wp2_with fail
        refine (HJ5.out _).mono ?_
        rintro e w' ⟨rfl, rfl⟩
        go_wp2
        go_ret
        exact ⟨by first | rfl | simp, HB1.out.alloc HB1.out.size _⟩
set_option maxRecDepth 100000 in
set_option maxHeartbeats 4000000 in
theorem llists_walk (l : Nat) (p : Int) (xs : List Int) (A : Option Addr) (c : Nat) (w : World) (hw : LabW w) (hl : l < 18446744073709551616) (hn : xs.length ≤ 9223372036854775807)
    (hr : Reads w w.heap.size A (xs.map fun x : Int => Value.int .i64 x)) :
    Calls Tryd.prog 9 #[.int .u64 (l : Int), .int .i64 p, .slice A xs.length c] w (RetB (.bool true) w) := by
  have HW := Lib.hid hw
  have HR := Lib.hid hr
  clear hw hr
  by_cases hlen : 200 < xs.length
  · go_enter Tryd.func9, Tryd.ntmps9
    go_wp2_with fail
    refine (awake01 _ HW.out).mono ?_
    rintro e w1 ⟨rfl, hb1⟩
    go_wp2
    go_ret
    exact ⟨rfl, hb1⟩
  · have h1 := fun w => has_any l p w hl
    have h2 := fun w => rhas_any l p w hl
    have h3 := fun w (h : Tab64 w) => list_any l hl w h
    have h4 := fun w => rlist_any l hl w
    have h5 : ∀ w', Below w.heap.size w w' → Calls Tryd.prog 25 #[.slice A xs.length c] w' _ := fun w' hb => of_any xs A c w.heap.size w' hn (HR.out.below hb)
    have h6 : ∀ w', Below w.heap.size w w' → Calls Tryd.prog 26 #[.slice A xs.length c] w' _ := fun w' hb => rof_any xs A c w.heap.size w' hn (HR.out.below hb)
    have hpl := prin_len l
    generalize prin l = ps at h3 h4 hpl
    generalize (ofS xs 0).1 = o1 at h5 h6
    generalize (ofS xs 0).2 = o2 at h5 h6
    have H1 := Lib.hid h1
    have H2 := Lib.hid h2
    have H3 := Lib.hid h3
    have H4 := Lib.hid h4
    have H5 := Lib.hid h5
    have H6 := Lib.hid h6
    clear h1 h2 h3 h4 h5 h6
    cases hb : hasB l p
    all_goals
      rw [hb] at H1 H2
      clear hb
      go_enter Tryd.func9, Tryd.ntmps9
      go_wp2_with fail
      refine (awake01 _ HW.out).mono ?_
      rintro e w1 ⟨rfl, hb1⟩
      have HB1 := Lib.hid hb1
      have HW1 := Lib.hid (HW.out.below hb1)
      clear hb1
      go_wp2_with fail
      refine (H1.out _).mono ?_
      rintro e w' ⟨rfl, rfl⟩
      go_wp2_with fail
      refine (H2.out _).mono ?_
      rintro e w' ⟨rfl, rfl⟩
      go_wp2_with fail
      refine (H3.out _ HW1.out.tab).mono ?_
      rintro e w2 ⟨v, rfl, hrow2, hb2⟩
      have HB2 := Lib.hid (HB1.out.trans (hb2.mono HB1.out.size))
      have HO2 := Lib.hid hrow2
      clear hb2 hrow2
      go_wp2_with fail
      refine (H4.out _).mono ?_
      rintro e w3 ⟨v', rfl, hrow3, hb3⟩
      have HB3 := Lib.hid (HB2.out.trans (hb3.mono HB2.out.size))
      obtain ⟨A1, c1, rfl, _, _, hf1⟩ := own_form (below_own hb3 HO2.out)
      obtain ⟨A2, c2, rfl, _, _, hf2⟩ := own_form hrow3
      have HF1 := Lib.hid hf1
      have HF2 := Lib.hid hf2
      clear hb3 hrow3 hf1 hf2 HO2
      go_wp2
      go_loopw [9, 37] (fun _ i wr => ∃ k : Nat, k ≤ ps.length ∧ i = .int .i64 k ∧ ∃ n, wr = w3.drewN n) (fun _ i _ => ps.length - (intOf i).toNat)
      case atStart => exact ⟨0, by omega, rfl, 0, rfl⟩
      case round =>
        obtain ⟨k, hk, rfl, n, rfl⟩ := hrel
        by_cases hlt : k < ps.length
        · obtain ⟨g1, rfl, _, hg1, _, hcell1⟩ := HF1.out (by omega)
          obtain ⟨g2, rfl, _, hg2, _, hcell2⟩ := HF2.out (by omega)
          have c1' := hcell1 k (.int .i64 (ps[k] : Int)) (by simp [hlt])
          have c2' := hcell2 k (.int .i64 (ps[k] : Int)) (by simp [hlt])
          generalize ps[k] = x at c1' c2'
          have hk0 : (0 : Int) ≤ k := by omega
          have hkl : (k : Int) < ps.length := by omega
          clear hcell1 hcell2
          go_wp2
          go_quiet (fail)
          go_wp2
          go_roundw
          case rel => exact ⟨k + 1, by omega, by go_num, _, rfl⟩
          case measure => simp [intOf]; omega
        · obtain rfl : k = ps.length := by omega
          have HBn : Hid (Below w.heap.size w (w3.drewN n)) := Lib.hid (below_drewN HB3.out n)
          go_wp2_with fail
          refine (H5.out _ HBn.out).mono ?_
          rintro e w' ⟨rfl, rfl⟩
          go_wp2_with fail
          refine (H6.out _ HBn.out).mono ?_
          rintro e w' ⟨rfl, rfl⟩
          go_wp2
          go_ret
          exact ⟨by first | rfl | simp, HBn.out⟩
end Go.Proofs.YtmlknpoippfkeaaDoor
