/-
  Bytes as a string is written: the program's Quote.
-/
import Derived.Test.YtmjkelmlbihkpaaDoorQuoteP
import Derived.Lib.AppendStr
import Derived.Laws.IdiomStrings
import Derived.Deep.RegionLaw
import Derived.Laws.BitsAllLaws
set_option linter.unusedVariables false
set_option linter.unusedSimpArgs false
namespace Go.Proofs.YtmjkelmlbihkpaaDoor
open Go.ChangeShapes Go.WideShapes Go.ChangeAt Go.RowKit

theorem infoU8 : (Tryd.prog.info? 5).map (fun i => (i.zero, i.size, i.bytes)) = some (some (.int .u8 0), 1, 1) := by kernel_rfl
theorem own_base {w : World} {base : Nat} {e : TypeId} {sz n : Nat} {v : Value} {xs : List Value} (h : w.ownsRow base e sz v n xs) (g : Nat) (hg : v.ownBlock = some g) : base ≤ g := by
  rcases h.2 with ⟨rfl, _⟩ | ⟨g', cap, cur, rfl, hb, _⟩
  · simp [Value.ownBlock] at hg
  · have : g' = g := by simpa [Value.ownBlock] using hg
    omega
theorem own_form1 {w : World} {base : Nat} {e : TypeId} {sz k : Nat} {v : Value} {xs : List Value} (h : w.ownsRow base e sz v k xs) (hk : 0 < k) : ∃ g cap, v = .slice (some ⟨g, 0, none⟩) k cap ∧ ∀ j u, xs[j]? = some u → w.cell? ⟨g, j, none⟩ = some u := by
  obtain ⟨A, c, rfl, _, _, hf⟩ := own_form h
  obtain ⟨g, rfl, _, _, _, hc⟩ := hf hk
  exact ⟨g, c, rfl, hc⟩
theorem add_lit0 (g j : Nat) : ((⟨g, 0, none⟩ : Addr).add j) = ⟨g, j, none⟩ := by
  unfold Addr.add
  by_cases h : j = 0
  · subst h; rfl
  · rw [if_neg h]; simp
theorem bC_get {l : List UInt8} {j : Nat} (h : j < l.length) : (bC l)[j]? = some (.int .u8 (l[j].toNat : Int)) := by
  unfold bC
  rw [List.getElem?_map, List.getElem?_eq_getElem h]
  rfl
theorem u8_lit {c : UInt8} {n : Nat} (hn : n < 256) (h : c ≠ UInt8.ofNat n) : ((c.toNat : Int) == (n : Int)) = false := by
  rw [beq_eq_false_iff_ne]
  intro e
  apply h
  apply UInt8.toNat_inj.1
  rw [UInt8.toNat_ofNat', Nat.mod_eq_of_lt hn]
  omega
set_option maxRecDepth 100000 in
set_option maxHeartbeats 4000000 in
theorem quote_any (s : ByteArray) (hs : s.size ≤ 35000000000000) (w : World) : Calls Tryd.prog 13 #[.string s] w (RetB (.string (quoteS s)) w) := by
  obtain ⟨i0, hi, hz0, hz1, hz2⟩ := info_parts infoU8
  go_enter Tryd.func13, Tryd.ntmps13
  go_wp2
  have hrow0 : (w.alloc (.cells #[.int .u8 34] 5)).ownsRow w.heap.size 5 1 (.slice (some ⟨w.heap.size, 0, none⟩) 1 1) 1 (bC [34]) :=
    ⟨rfl, .inr ⟨w.heap.size, 1, _, rfl, Nat.le_refl _, heap_alloc_new w _, Nat.le_refl _, by unfold maxLen; omega, rfl, rfl⟩⟩
  go_loopw [3, 4, 5, 9] (fun v _ _ i wr => ∃ k : Nat, k ≤ s.size ∧ i = .int .i64 k ∧ wr.ownsRow w.heap.size 5 1 v (qTo s k).length (bC (qTo s k)) ∧ Below w.heap.size w wr) (fun _ _ _ i _ => s.size - (intOf i).toNat)
  case atStart => exact ⟨0, by omega, rfl, hrow0, (Below.refl _ _).alloc (Nat.le_refl _) _⟩
  case round =>
    obtain ⟨k, hk, rfl, hrow, hB⟩ := hrel
    have hql := qTo_len s k hk
    have hBs := hB.size
    by_cases hlt : k < s.size
    · have hq := qTo_succ s k hlt
      generalize hc : s[k] = c at hq
      have hrow' := hrow
      by_cases h10 : c = 10
      · subst h10
        have e : qbyte 10 = [92, 110] := rfl
        go_wp2_with (at_builtin; refine Lib.wpList_append_own_string _ rfl _ _ 49 9 rfl w.heap.size 5 i0 Tryd.underlying49 Tryd.underlying9 hi hz0 hz1 hz2 _ _ _ rfl hrow ⟨#[92, 110]⟩ rfl (by have : (⟨#[92, 110]⟩ : ByteArray).size = 2 := rfl; unfold maxLen; omega) (by have : (⟨#[92, 110]⟩ : ByteArray).size = 2 := rfl; omega) (by omega) ?_; intro v' w1 hown' hgrow _)
        go_roundw
        case rel => exact ⟨k + 1, by omega, by go_num, by rw [hq, e, bC_app, List.length_append]; exact hown', hB.grown hgrow hBs fun g hg => own_base hrow g hg⟩
        case measure => simp [intOf]; omega
      have n10 : ((c.toNat : Int) == 10) = false := u8_lit (n := 10) (by decide) h10
      by_cases h34 : c = 34 ∨ c = 92
      · have e : qbyte c = [92, c] := by unfold qbyte; rw [if_neg h10, if_pos h34]
        have hor : c = 34 ∨ (((c.toNat : Int) == 34) = false ∧ c = 92) := by
          rcases h34 with h | h
          · exact .inl h
          · subst h; exact .inr ⟨by decide, rfl⟩
        clear h34 h10 n10
        rcases hor with h | ⟨n34, h⟩
        · subst h
          go_wp2_with (at_builtin; refine wpList_append_own _ rfl _ _ 49 rfl w.heap.size 5 i0 (.int .u8 0) 1 1 Tryd.underlying49 hi hz0 hz1 hz2 rfl (by decide) _ _ _ rfl (hrow.alloc _) ⟨wr.heap.size, 0, none⟩ 2 2 (bC [92, 34]) rfl rfl (World.news_of_block (heap_alloc_new _ _)) (bC_one _) (by unfold maxLen; omega) (by omega) (by simp; omega) ?_; intro v' w1 hown' hgrow _)
          go_roundw
          case rel => exact ⟨k + 1, by omega, by go_num, by rw [hq, e, bC_app, List.length_append]; exact hown', (hB.alloc hBs _).grown hgrow (by simp; omega) fun g hg => own_base hrow g hg⟩
          case measure => simp [intOf]; omega
        · subst h
          go_wp2_with (at_builtin; refine wpList_append_own _ rfl _ _ 49 rfl w.heap.size 5 i0 (.int .u8 0) 1 1 Tryd.underlying49 hi hz0 hz1 hz2 rfl (by decide) _ _ _ rfl (hrow.alloc _) ⟨wr.heap.size, 0, none⟩ 2 2 (bC [92, 92]) rfl rfl (World.news_of_block (heap_alloc_new _ _)) (bC_one _) (by unfold maxLen; omega) (by omega) (by simp; omega) ?_; intro v' w1 hown' hgrow _)
          go_roundw
          case rel => exact ⟨k + 1, by omega, by go_num, by rw [hq, e, bC_app, List.length_append]; exact hown', (hB.alloc hBs _).grown hgrow (by simp; omega) fun g hg => own_base hrow g hg⟩
          case measure => simp [intOf]; omega
      have n34 : ((c.toNat : Int) == 34) = false := u8_lit (n := 34) (by decide) (fun h => h34 (.inl h))
      have n92 : ((c.toNat : Int) == 92) = false := u8_lit (n := 92) (by decide) (fun h => h34 (.inr h))
      by_cases h32 : c.toNat < 32 ∨ 126 < c.toNat
      · obtain ⟨q, hq16⟩ : ∃ q, q = c.toNat / 16 := ⟨_, rfl⟩
        obtain ⟨r, hr16⟩ : ∃ r, r = c.toNat % 16 := ⟨_, rfl⟩
        have e : qbyte c = [92, 120, hexD q, hexD r] := by unfold qbyte; rw [if_neg h10, if_neg h34, if_pos h32, hq16, hr16]
        have hc256 : c.toNat < 256 := c.toNat_lt
        have e1 : (c.toNat : Int) / 16 = (q : Int) := by omega
        have e2 : bits BinOp.and IntKind.u8 (c.toNat : Int) 15 = (r : Int) := by
          have := u8_and_nat c.toNat 15 hc256 (by decide)
          rw [show c.toNat &&& 15 = c.toNat % 16 from Nat.and_two_pow_sub_one_eq_mod c.toNat 4, ← hr16] at this
          exact this
        have hql : q < 16 := by omega
        have hrl : r < 16 := by omega
        have x1 : ∀ h, (({ data := #[48, 49, 50, 51, 52, 53, 54, 55, 56, 57, 97, 98, 99, 100, 101, 102] } : ByteArray)[q]'h) = hexD q := fun h => Option.some.inj ((Array.getElem?_eq_getElem h).symm.trans (hexS_at q hql))
        have x2 : ∀ h, (({ data := #[48, 49, 50, 51, 52, 53, 54, 55, 56, 57, 97, 98, 99, 100, 101, 102] } : ByteArray)[r]'h) = hexD r := fun h => Option.some.inj ((Array.getElem?_eq_getElem h).symm.trans (hexS_at r hrl))
        have hql' : (q : Int) < 16 := by omega
        have hrl' : (r : Int) < 16 := by omega
        have hh : (c.toNat : Int) < 32 ∨ 126 < (c.toNat : Int) := by omega
        clear h32 hq16 hr16
        rcases hh with h32 | h32
        all_goals
          go_wp2
          go_region_law (refine step_append_lies _ rfl (.tmp 42) (.tmp 49) 49 rfl w.heap.size 5 i0 (.int .u8 0) 1 1 Tryd.underlying49 hi hz0 hz1 hz2 rfl (by decide) _ _ _ rfl (World.ownsRow.alloc (w := wr.drew) hrow _) ⟨wr.heap.size, 0, none⟩ 4 4 (bC [92, 120, hexD q, hexD r]) rfl rfl (World.news_of_block (heap_alloc_new wr.drew _)) (bC_one _) (by decide) (by unfold maxLen; omega) (by omega) (by simp; omega) _ rfl ?_; intro g cap w1 hown' hgrow hat hlt1)
          all_goals go_wp2
          all_goals exact ⟨⟨k + 1, by omega, by go_num, by rw [hq, e, bC_app, List.length_append]; exact hown', (hB.drew.alloc hBs _).grown hgrow (by simp; omega) fun g hg => own_base hrow g hg⟩, by simp [intOf]; omega⟩
      · have e : qbyte c = [c] := by unfold qbyte; rw [if_neg h10, if_neg h34, if_neg h32]
        have h1 : (32 : Int) ≤ c.toNat := by omega
        have h2 : (c.toNat : Int) ≤ 126 := by omega
        go_wp2_with (at_builtin; refine wpList_append_own _ rfl _ _ 49 rfl w.heap.size 5 i0 (.int .u8 0) 1 1 Tryd.underlying49 hi hz0 hz1 hz2 rfl (by decide) _ _ _ rfl (hrow.alloc _) ⟨wr.heap.size, 0, none⟩ 1 1 (bC [c]) rfl rfl (World.news_of_block (heap_alloc_new _ _)) (bC_one _) (by unfold maxLen; omega) (by omega) (by simp; omega) ?_; intro v' w1 hown' hgrow _)
        go_roundw
        case rel => exact ⟨k + 1, by omega, by go_num, by rw [hq, e, bC_app, List.length_append]; exact hown', (hB.alloc hBs _).grown hgrow (by simp; omega) fun g hg => own_base hrow g hg⟩
        case measure => simp [intOf]; omega
    · obtain rfl : k = s.size := by omega
      have hall := qTo_all s
      have HA := Lib.hid hall
      clear hall
      generalize qTo s s.size = Q at hrow hql HA
      go_wp2_with (at_builtin; refine wpList_append_own _ rfl _ _ 49 rfl w.heap.size 5 i0 (.int .u8 0) 1 1 Tryd.underlying49 hi hz0 hz1 hz2 rfl (by decide) _ _ _ rfl (hrow.alloc _) ⟨wr.heap.size, 0, none⟩ 1 1 (bC [34]) rfl rfl (World.news_of_block (heap_alloc_new _ _)) (bC_one _) (by unfold maxLen; omega) (by omega) (by simp; omega) ?_; intro v' w1 hown' hgrow _; obtain ⟨g1, cap1, rfl, hcell⟩ := own_form1 hown' (by omega); have hcv := run_convert_bytes_back (P := Tryd.prog) w1 49 9 5 ⟨g1, 0, none⟩ cap1 (Q ++ [34]) Tryd.underlying49 Tryd.underlying5 Tryd.underlying9 (fun j hj => by rw [add_lit0]; exact hcell j _ (by rw [← bC_app]; exact bC_get hj)); rw [List.length_append] at hcv; change (convert _ _ (.slice _ (Q.length + 1) _)).run _ _ = _ at hcv)
      go_ret
      exact ⟨by rw [HA.out]; rfl, (hB.alloc hBs _).grown hgrow (by simp; omega) fun g hg => own_base hrow g hg⟩
end Go.Proofs.YtmjkelmlbihkpaaDoor
