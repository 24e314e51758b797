/-
  The reference's text.
-/
import Derived.Test.YtmjkelmlbihkpaaDoorLexR1
import Derived.Test.YtmjkelmlbihkpaaDoorLexTP
import Derived.Deep.AppendLies
import Derived.Deep.RegionHeld3
set_option linter.unusedVariables false
set_option linter.unusedSimpArgs false
namespace Go.Proofs.YtmjkelmlbihkpaaDoor
open Go.ChangeShapes Go.WideShapes Go.ChangeAt Go.RowKit

/-- What the reference's text answers. -/
def RTextV : Option (List UInt8 × Nat) → Value
  | none => .tuple #[.string ⟨#[]⟩, .int .i64 0, .bool false]
  | some (x, n) => .tuple #[.string ⟨x.toArray⟩, .int .i64 ((n + 1 : Nat) : Int), .bool true]
set_option maxRecDepth 100000 in
set_option maxHeartbeats 64000000 in
theorem rtext_any (s : ByteArray) (hs : s.size ≤ 1000000) (hs0 : 0 < s.size) (w : World) : Calls Tryd.prog 38 #[.string s] w (RetB (RTextV (textL (s.data.toList.drop 1))) w) := by
  obtain ⟨iU, hiU, hU0, hU1, hU2⟩ := info_parts infoU8
  obtain ⟨T, hT⟩ : ∃ T, T = textL (s.data.toList.drop 1) := ⟨_, rfl⟩
  rw [← hT]
  have HT := Lib.hid hT
  have hlen : s.data.toList.length = s.size := by simp
  have HLL := Lib.hid hlen
  clear hT hlen
  go_enter Tryd.func38, Tryd.ntmps38
  go_wp2_with fail
  go_loopw [5, 6] (fun bv iv wr => ∃ (p : Nat) (A : Option Addr) (c : Nat) (xs : List UInt8), bv = .slice A xs.length c ∧ iv = .int .i64 (p : Int) ∧ 1 ≤ p ∧ p ≤ s.size ∧ xs.length ≤ p ∧ Hid (textL (s.data.toList.drop 1) = (textL (s.data.toList.drop p)).map fun q => (xs ++ q.1, (p - 1) + q.2)) ∧ Hid (wr.ownsRow w.heap.size 5 1 (.slice A xs.length c) xs.length (bC xs)) ∧ Hid (Below w.heap.size w wr)) (fun _ iv _ => s.size - (intOf iv).toNat)
  case atStart => exact ⟨1, none, 0, [], rfl, rfl, Nat.le_refl _, by omega, Nat.zero_le _, Lib.hid (by simp), Lib.hid (World.ownsRow_nil _ _ _ _), Lib.hid (Below.refl _ _)⟩
  case round =>
    obtain ⟨p, A, c, xs, rfl, rfl, hip, hpl, hxp, HJ, HO, HW⟩ := hrel
    have hp0 : (0 : Int) ≤ p := by omega
    by_cases hps : p < s.size
    case neg =>
      have hps' : ¬ (p : Int) < (s.size : Int) := by omega
      have HN := Lib.hid (show textL (s.data.toList.drop p) = none by rw [List.drop_eq_nil_of_le (by rw [HLL.out]; omega)]; exact textL_none rfl)
      go_wp2
      refine bodyPost_ret (v := .tuple #[.string ⟨#[]⟩, .int .i64 0, .bool false]) (by simp [results, Tryd.results38, go_sem]) rfl ?_
      exact ⟨by rw [HT.out, HJ.out, HN.out]; rfl, HW.out⟩
    have hps' : (p : Int) < (s.size : Int) := by omega
    obtain ⟨c0, hc0⟩ : ∃ c0, c0 = s[p] := ⟨_, rfl⟩
    have hcx : s[p] = c0 := hc0.symm
    have hdrop := drop_at hps
    rw [hcx] at hdrop
    have HD := Lib.hid hdrop
    clear hc0 hdrop
    by_cases h34 : c0 = 34
    case pos =>
      have q34 : ((c0.toNat : Int) == 34) = true := by rw [h34]; rfl
      have HE := Lib.hid (show T = some (xs, (p - 1) + 1) by rw [HT.out, HJ.out, HD.out, h34, textL_end step_end]; simp)
      have hcv := conv_row HO.out
      obtain ⟨pn, hpn⟩ : ∃ pn, pn = p + 1 := ⟨_, rfl⟩
      have hadd9 : (p : Int) + 1 = (pn : Int) := by omega
      have haddw9 : IntKind.i64.wrap (pn : Int) = (pn : Int) := IntWalk.i64_in _ (by omega)
      have HPN := Lib.hid (show (p - 1) + 1 + 1 = pn by omega)
      clear hpn h34
      go_wp2
      refine bodyPost_ret (v := .tuple #[.string ⟨xs.toArray⟩, .int .i64 (pn : Int), .bool true]) (by simp [results, Tryd.results38, go_sem]) rfl ?_
      exact ⟨by rw [HE.out]; unfold RTextV; simp only; rw [HPN.out], HW.out⟩
    have n34 : ((c0.toNat : Int) == 34) = false := u8_lit (n := 34) (by decide) h34
    by_cases hbad : c0.toNat < 32 ∨ 126 < c0.toNat
    case pos =>
      have HN := Lib.hid (show textL (s.data.toList.drop p) = none by rw [HD.out]; exact textL_none (step_bad hbad))
      rcases hbad with hb | hb
      · have hbi : (c0.toNat : Int) < 32 := by omega
        clear hb
        go_wp2
        refine bodyPost_ret (v := .tuple #[.string ⟨#[]⟩, .int .i64 0, .bool false]) (by simp [results, Tryd.results38, go_sem]) rfl ?_
        exact ⟨by rw [HT.out, HJ.out, HN.out]; rfl, HW.out⟩
      · have hbi : ¬ (c0.toNat : Int) < 32 := by omega
        have hbj : 126 < (c0.toNat : Int) := by omega
        clear hb
        go_wp2
        refine bodyPost_ret (v := .tuple #[.string ⟨#[]⟩, .int .i64 0, .bool false]) (by simp [results, Tryd.results38, go_sem]) rfl ?_
        exact ⟨by rw [HT.out, HJ.out, HN.out]; rfl, HW.out⟩
    have hbi : ¬ (c0.toNat : Int) < 32 := by omega
    have hbj : ¬ 126 < (c0.toNat : Int) := by omega
    by_cases h92 : c0 = 92
    case neg =>
      have n92 : ((c0.toNat : Int) == 92) = false := u8_lit (n := 92) (by decide) h92
      have n92' : ((c0.toNat : Int) != 92) = true := by rw [bne, n92]; rfl
      obtain ⟨bb, hbb⟩ : ∃ bb, bb = c0 := ⟨_, rfl⟩
      have HST := Lib.hid (show stepT (s.data.toList.drop p) = some (some (bb, 1)) by rw [HD.out, hbb]; exact step_byte hbad h34 h92)
      subst hbb
      clear h34 h92 hbad
      have HFIT := Lib.hid (step_fit HST.out (Nat.le_of_lt hps))
      obtain ⟨pn, hpn⟩ : ∃ pn, pn = p + 1 := ⟨_, rfl⟩
      have hadd9 : (p : Int) + 1 = (pn : Int) := by omega
      have hpns : pn ≤ s.size := by have := HFIT.out; omega
      have haddw9 : IntKind.i64.wrap (pn : Int) = (pn : Int) := IntWalk.i64_in _ (by omega)
      have HPN := Lib.hid hpn
      clear hpn
      go_wp2_with (at_builtin; refine wpList_append_own _ rfl _ _ 49 rfl w.heap.size 5 iU (.int .u8 0) 1 1 Tryd.underlying49 hiU hU0 hU1 hU2 rfl (by decide) _ _ _ rfl (HO.out.alloc _) ⟨wr.heap.size, 0, none⟩ 1 1 (bC [bb]) rfl rfl (World.news_of_block (heap_alloc_new _ _)) (bC_one _) (by unfold maxLen; omega) (by omega) (by have := HW.out.size; simp; omega) ?_; intro v' w6 hown6 hg6 _; obtain ⟨A6, c6, rfl, _, _, _⟩ := own_form hown6; have HO6 := Lib.hid hown6; have HW6 := Lib.hid ((HW.out.alloc HW.out.size _).grown hg6 (by have := HW.out.size; simp; omega) (fun gg hgg => own_base HO.out gg hgg)); clear hown6 hg6)
      go_roundw
      case rel => exact ⟨pn, A6, c6, xs ++ [bb], by rw [List.length_append]; rfl, by go_num, by have := HPN.out; omega, by have := HPN.out; have := HFIT.out; omega, by rw [List.length_append]; have := HPN.out; have := HFIT.out; simp; omega, Lib.hid (text_next HJ.out HST.out hip HPN.out), Lib.hid (by rw [List.length_append, bC_app]; exact HO6.out), HW6⟩
      case measure => have := HPN.out; simp [intOf]; omega
    have e92 : ((c0.toNat : Int) == 92) = true := by rw [h92]; rfl
    have e92' : ((c0.toNat : Int) != 92) = false := by rw [bne, e92]; rfl
    have HD1 := Lib.hid (show s.data.toList.drop p = 92 :: s.data.toList.drop (p + 1) by rw [HD.out, h92])
    clear h34 h92 hbad
    obtain ⟨p1, hp1⟩ : ∃ p1, p1 = p + 1 := ⟨_, rfl⟩
    obtain ⟨p2, hp2⟩ : ∃ p2, p2 = p + 2 := ⟨_, rfl⟩
    obtain ⟨p3, hp3⟩ : ∃ p3, p3 = p + 3 := ⟨_, rfl⟩
    have ha1 : (p : Int) + 1 = (p1 : Int) := by omega
    have ha2 : (p : Int) + 2 = (p2 : Int) := by omega
    have ha3 : (p : Int) + 3 = (p3 : Int) := by omega
    have ha1w : IntKind.i64.wrap (p1 : Int) = (p1 : Int) := IntWalk.i64_in _ (by omega)
    have ha2w : IntKind.i64.wrap (p2 : Int) = (p2 : Int) := IntWalk.i64_in _ (by omega)
    have ha3w : IntKind.i64.wrap (p3 : Int) = (p3 : Int) := IntWalk.i64_in _ (by omega)
    have HPP := Lib.hid (show p1 = p + 1 ∧ p2 = p + 2 ∧ p3 = p + 3 from ⟨hp1, hp2, hp3⟩)
    rw [← hp1] at HD1
    have hpb : p + 1 ≤ p1 ∧ p1 ≤ p + 1 ∧ p + 2 ≤ p2 ∧ p2 ≤ p + 2 ∧ p + 3 ≤ p3 ∧ p3 ≤ p + 3 := by omega
    clear hp1 hp2 hp3
    by_cases hl1 : p1 < s.size
    case neg =>
      have hl1' : ¬ (p1 : Int) < (s.size : Int) := by omega
      have hl3' : ¬ (p3 : Int) < (s.size : Int) := by omega
      have HN := Lib.hid (show textL (s.data.toList.drop p) = none by
        rw [HD1.out, List.drop_eq_nil_of_le (by rw [HLL.out]; omega)]
        exact textL_none (by rw [step_esc]))
      go_wp2
      refine bodyPost_ret (v := .tuple #[.string ⟨#[]⟩, .int .i64 0, .bool false]) (by simp [results, Tryd.results38, go_sem]) rfl ?_
      exact ⟨by rw [HT.out, HJ.out, HN.out]; rfl, HW.out⟩
    have hl1' : (p1 : Int) < (s.size : Int) := by omega
    have hp10 : (0 : Int) ≤ (p1 : Int) := by omega
    obtain ⟨d, hd0⟩ : ∃ d, d = s[p1] := ⟨_, rfl⟩
    have hdx : s[p1] = d := hd0.symm
    have hdr1 := drop_at hl1
    rw [hdx] at hdr1
    have HD2 := Lib.hid (show s.data.toList.drop p = 92 :: d :: s.data.toList.drop (p1 + 1) by rw [HD1.out, hdr1])
    clear hd0 hdr1
    by_cases h110 : d = 110
    case pos =>
      have q110 : ((d.toNat : Int) == 110) = true := by rw [h110]; rfl
      obtain ⟨bb, hbb⟩ : ∃ bb : UInt8, bb = 10 := ⟨_, rfl⟩
      have HST := Lib.hid (show stepT (s.data.toList.drop p) = some (some (bb, 2)) by rw [HD2.out, hbb, step_esc, h110]; rfl)
      have hb10 : (10 : Int) = (bb.toNat : Int) := by rw [hbb]; rfl
      clear hbb h110
      have HFIT := Lib.hid (step_fit HST.out (Nat.le_of_lt hps))
      obtain ⟨pn, hpn⟩ : ∃ pn, pn = p + 2 := ⟨_, rfl⟩
      have hadd9 : (p1 : Int) + 1 = (pn : Int) := by omega
      have hpns : pn ≤ s.size := by have := HFIT.out; omega
      have haddw9 : IntKind.i64.wrap (pn : Int) = (pn : Int) := IntWalk.i64_in _ (by omega)
      have HPN := Lib.hid hpn
      clear hpn
      go_wp2_with (at_builtin; refine wpList_append_own _ rfl _ _ 49 rfl w.heap.size 5 iU (.int .u8 0) 1 1 Tryd.underlying49 hiU hU0 hU1 hU2 rfl (by decide) _ _ _ rfl (HO.out.alloc _) ⟨wr.heap.size, 0, none⟩ 1 1 (bC [bb]) rfl rfl (World.news_of_block (heap_alloc_new _ _)) (bC_one _) (by unfold maxLen; omega) (by omega) (by have := HW.out.size; simp; omega) ?_; intro v' w6 hown6 hg6 _; obtain ⟨A6, c6, rfl, _, _, _⟩ := own_form hown6; have HO6 := Lib.hid hown6; have HW6 := Lib.hid ((HW.out.alloc HW.out.size _).grown hg6 (by have := HW.out.size; simp; omega) (fun gg hgg => own_base HO.out gg hgg)); clear hown6 hg6)
      go_roundw
      case rel => exact ⟨pn, A6, c6, xs ++ [bb], by rw [List.length_append]; rfl, by go_num, by have := HPN.out; omega, by have := HPN.out; have := HFIT.out; omega, by rw [List.length_append]; have := HPN.out; have := HFIT.out; simp; omega, Lib.hid (text_next HJ.out HST.out hip HPN.out), Lib.hid (by rw [List.length_append, bC_app]; exact HO6.out), HW6⟩
      case measure => have := HPN.out; simp [intOf]; omega
    have n110 : ((d.toNat : Int) == 110) = false := u8_lit (n := 110) (by decide) h110
    by_cases hok : d = 92 ∨ d = 34
    case pos =>
      obtain ⟨bb, hbb⟩ : ∃ bb, bb = d := ⟨_, rfl⟩
      have HST := Lib.hid (show stepT (s.data.toList.drop p) = some (some (bb, 2)) by rw [HD2.out, hbb, step_esc]; simp only; rw [if_neg h110, if_pos hok])
      subst hbb
      clear h110
      rcases hok with h | h
      · have q92 : ((bb.toNat : Int) == 92) = true := by rw [h]; rfl
        clear h
        have HFIT := Lib.hid (step_fit HST.out (Nat.le_of_lt hps))
        obtain ⟨pn, hpn⟩ : ∃ pn, pn = p + 2 := ⟨_, rfl⟩
        have hadd9 : (p1 : Int) + 1 = (pn : Int) := by omega
        have hpns : pn ≤ s.size := by have := HFIT.out; omega
        have haddw9 : IntKind.i64.wrap (pn : Int) = (pn : Int) := IntWalk.i64_in _ (by omega)
        have HPN := Lib.hid hpn
        clear hpn
        go_wp2_with (at_builtin; refine wpList_append_own _ rfl _ _ 49 rfl w.heap.size 5 iU (.int .u8 0) 1 1 Tryd.underlying49 hiU hU0 hU1 hU2 rfl (by decide) _ _ _ rfl (HO.out.alloc _) ⟨wr.heap.size, 0, none⟩ 1 1 (bC [bb]) rfl rfl (World.news_of_block (heap_alloc_new _ _)) (bC_one _) (by unfold maxLen; omega) (by omega) (by have := HW.out.size; simp; omega) ?_; intro v' w6 hown6 hg6 _; obtain ⟨A6, c6, rfl, _, _, _⟩ := own_form hown6; have HO6 := Lib.hid hown6; have HW6 := Lib.hid ((HW.out.alloc HW.out.size _).grown hg6 (by have := HW.out.size; simp; omega) (fun gg hgg => own_base HO.out gg hgg)); clear hown6 hg6)
        go_roundw
        case rel => exact ⟨pn, A6, c6, xs ++ [bb], by rw [List.length_append]; rfl, by go_num, by have := HPN.out; omega, by have := HPN.out; have := HFIT.out; omega, by rw [List.length_append]; have := HPN.out; have := HFIT.out; simp; omega, Lib.hid (text_next HJ.out HST.out hip HPN.out), Lib.hid (by rw [List.length_append, bC_app]; exact HO6.out), HW6⟩
        case measure => have := HPN.out; simp [intOf]; omega
      · have q92 : ((bb.toNat : Int) == 92) = false := by rw [h]; rfl
        have q34 : ((bb.toNat : Int) == 34) = true := by rw [h]; rfl
        clear h
        have HFIT := Lib.hid (step_fit HST.out (Nat.le_of_lt hps))
        obtain ⟨pn, hpn⟩ : ∃ pn, pn = p + 2 := ⟨_, rfl⟩
        have hadd9 : (p1 : Int) + 1 = (pn : Int) := by omega
        have hpns : pn ≤ s.size := by have := HFIT.out; omega
        have haddw9 : IntKind.i64.wrap (pn : Int) = (pn : Int) := IntWalk.i64_in _ (by omega)
        have HPN := Lib.hid hpn
        clear hpn
        go_wp2_with (at_builtin; refine wpList_append_own _ rfl _ _ 49 rfl w.heap.size 5 iU (.int .u8 0) 1 1 Tryd.underlying49 hiU hU0 hU1 hU2 rfl (by decide) _ _ _ rfl (HO.out.alloc _) ⟨wr.heap.size, 0, none⟩ 1 1 (bC [bb]) rfl rfl (World.news_of_block (heap_alloc_new _ _)) (bC_one _) (by unfold maxLen; omega) (by omega) (by have := HW.out.size; simp; omega) ?_; intro v' w6 hown6 hg6 _; obtain ⟨A6, c6, rfl, _, _, _⟩ := own_form hown6; have HO6 := Lib.hid hown6; have HW6 := Lib.hid ((HW.out.alloc HW.out.size _).grown hg6 (by have := HW.out.size; simp; omega) (fun gg hgg => own_base HO.out gg hgg)); clear hown6 hg6)
        go_roundw
        case rel => exact ⟨pn, A6, c6, xs ++ [bb], by rw [List.length_append]; rfl, by go_num, by have := HPN.out; omega, by have := HPN.out; have := HFIT.out; omega, by rw [List.length_append]; have := HPN.out; have := HFIT.out; simp; omega, Lib.hid (text_next HJ.out HST.out hip HPN.out), Lib.hid (by rw [List.length_append, bC_app]; exact HO6.out), HW6⟩
        case measure => have := HPN.out; simp [intOf]; omega
    have m34 : ((d.toNat : Int) == 34) = false := u8_lit (n := 34) (by decide) (fun h => hok (.inr h))
    have m92 : ((d.toNat : Int) == 92) = false := u8_lit (n := 92) (by decide) (fun h => hok (.inl h))
    by_cases h120 : d = 120
    case neg =>
      have n120 : ((d.toNat : Int) == 120) = false := u8_lit (n := 120) (by decide) h120
      have HN := Lib.hid (show textL (s.data.toList.drop p) = none from textL_none (by rw [HD2.out, step_esc]; simp only; rw [if_neg h110, if_neg hok, if_pos h120]))
      clear h110 hok h120
      by_cases hl3 : p3 < s.size
      · have hl3' : (p3 : Int) < (s.size : Int) := by omega
        go_wp2
        refine bodyPost_ret (v := .tuple #[.string ⟨#[]⟩, .int .i64 0, .bool false]) (by simp [results, Tryd.results38, go_sem]) rfl ?_
        exact ⟨by rw [HT.out, HJ.out, HN.out]; rfl, HW.out⟩
      · have hl3' : ¬ (p3 : Int) < (s.size : Int) := by omega
        go_wp2
        refine bodyPost_ret (v := .tuple #[.string ⟨#[]⟩, .int .i64 0, .bool false]) (by simp [results, Tryd.results38, go_sem]) rfl ?_
        exact ⟨by rw [HT.out, HJ.out, HN.out]; rfl, HW.out⟩
    have q120 : ((d.toNat : Int) == 120) = true := by rw [h120]; rfl
    have HSX := Lib.hid (step_hex (p := p) (by rw [HD2.out, h120]))
    clear h110 hok h120
    by_cases hl3 : p3 < s.size
    case neg =>
      have hl3' : ¬ (p3 : Int) < (s.size : Int) := by omega
      have HN := Lib.hid (show textL (s.data.toList.drop p) = none from textL_none (by
        rw [HSX.out, hexO_out (p := p + 3) (by have := HPP.out; omega)]
        cases hexO s (p + 2) <;> rfl))
      go_wp2
      refine bodyPost_ret (v := .tuple #[.string ⟨#[]⟩, .int .i64 0, .bool false]) (by simp [results, Tryd.results38, go_sem]) rfl ?_
      exact ⟨by rw [HT.out, HJ.out, HN.out]; rfl, HW.out⟩
    have hl3' : (p3 : Int) < (s.size : Int) := by omega
    have hl2 : p2 < s.size := by omega
    have hl2' : (p2 : Int) < (s.size : Int) := by omega
    have hp20 : (0 : Int) ≤ (p2 : Int) := by omega
    have hp30 : (0 : Int) ≤ (p3 : Int) := by omega
    obtain ⟨e0, he0⟩ : ∃ e0, e0 = s[p2] := ⟨_, rfl⟩
    obtain ⟨f0, hf0⟩ : ∃ f0, f0 = s[p3] := ⟨_, rfl⟩
    have hex : s[p2] = e0 := he0.symm
    have hfx : s[p3] = f0 := hf0.symm
    obtain ⟨v1, hv1⟩ : ∃ v1, v1 = hexV e0.toNat := ⟨_, rfl⟩
    obtain ⟨v2, hv2⟩ : ∃ v2, v2 = hexV f0.toNat := ⟨_, rfl⟩
    have HX := Lib.hid (show stepT (s.data.toList.drop p) = match (if v1 < 16 then some v1 else none), (if v2 < 16 then some v2 else none) with
      | some a, some b => some (some (UInt8.ofNat (16 * a + b), 4))
      | _, _ => none by
        have h := HSX.out
        rw [← HPP.out.2.1, ← HPP.out.2.2, hexO_at hl2, hexO_at hl3, hex, hfx, ← hv1, ← hv2] at h
        exact h)
    have HG1 := Lib.hid (show ∀ w, Calls Tryd.prog 55 #[.int .u8 (e0.toNat : Int)] w (Ret (.int .i64 (v1 : Int)) w) from fun w => by rw [hv1]; exact rdigit_any _ w (UInt8.toNat_lt _))
    have HG2 := Lib.hid (show ∀ w, Calls Tryd.prog 55 #[.int .u8 (f0.toNat : Int)] w (Ret (.int .i64 (v2 : Int)) w) from fun w => by rw [hv2]; exact rdigit_any _ w (UInt8.toNat_lt _))
    clear he0 hf0 hv1 hv2 HSX
    by_cases k1 : v1 < 16
    case neg =>
      have k1' : ¬ (v1 : Int) < 16 := by omega
      have HN := Lib.hid (show textL (s.data.toList.drop p) = none from textL_none (by rw [HX.out, if_neg k1]))
      clear k1
      go_wp2_with fail
      refine (HG1.out _).mono ?_
      rintro e w5 ⟨rfl, rfl⟩
      go_wp2
      refine bodyPost_ret (v := .tuple #[.string ⟨#[]⟩, .int .i64 0, .bool false]) (by simp [results, Tryd.results38, go_sem]) rfl ?_
      exact ⟨by rw [HT.out, HJ.out, HN.out]; rfl, HW.out⟩
    have k1' : (v1 : Int) < 16 := by omega
    by_cases k2 : v2 < 16
    case neg =>
      have k2' : ¬ (v2 : Int) < 16 := by omega
      have HN := Lib.hid (show textL (s.data.toList.drop p) = none from textL_none (by rw [HX.out, if_pos k1, if_neg k2]))
      clear k1 k2
      go_wp2_with fail
      refine (HG1.out _).mono ?_
      rintro e w5 ⟨rfl, rfl⟩
      go_wp2_with fail
      refine (HG2.out _).mono ?_
      rintro e w5 ⟨rfl, rfl⟩
      go_wp2
      refine bodyPost_ret (v := .tuple #[.string ⟨#[]⟩, .int .i64 0, .bool false]) (by simp [results, Tryd.results38, go_sem]) rfl ?_
      exact ⟨by rw [HT.out, HJ.out, HN.out]; rfl, HW.out⟩
    have k2' : (v2 : Int) < 16 := by omega
    obtain ⟨bb, hbb⟩ : ∃ bb : UInt8, bb = UInt8.ofNat (16 * v1 + v2) := ⟨_, rfl⟩
    have hbn : bb.toNat = 16 * v1 + v2 := by rw [hbb]; simp; omega
    have HST := Lib.hid (show stepT (s.data.toList.drop p) = some (some (bb, 4)) by rw [HX.out, if_pos k1, if_pos k2, hbb])
    obtain ⟨m1, hm1⟩ : ∃ m1, m1 = 16 * v1 := ⟨_, rfl⟩
    obtain ⟨m2, hm2⟩ : ∃ m2, m2 = m1 + v2 := ⟨_, rfl⟩
    have hma : (16 : Int) * (v1 : Int) = (m1 : Int) := by omega
    have hmaw : IntKind.i64.wrap (m1 : Int) = (m1 : Int) := IntWalk.i64_in _ (by omega)
    have hmb : (m1 : Int) + (v2 : Int) = (m2 : Int) := by omega
    have hmbw : IntKind.i64.wrap (m2 : Int) = (m2 : Int) := IntWalk.i64_in _ (by omega)
    have hcw : IntKind.u8.wrap (m2 : Int) = (bb.toNat : Int) := by rw [IntKind.wrap_u8]; omega
    have HFIT := Lib.hid (step_fit HST.out (Nat.le_of_lt hps))
    obtain ⟨pn, hpn⟩ : ∃ pn, pn = p + 4 := ⟨_, rfl⟩
    have hadd9 : (p3 : Int) + 1 = (pn : Int) := by omega
    have hpns : pn ≤ s.size := by have := HFIT.out; omega
    have haddw9 : IntKind.i64.wrap (pn : Int) = (pn : Int) := IntWalk.i64_in _ (by omega)
    have HPN := Lib.hid hpn
    clear hpn hbb hbn hm1 hm2 k1 k2
    go_wp2_with fail
    refine (HG1.out _).mono ?_
    rintro e w5 ⟨rfl, rfl⟩
    go_wp2_with fail
    refine (HG2.out _).mono ?_
    rintro e w5 ⟨rfl, rfl⟩
    go_upto_region 20 with fail
    refine gen_wpT fun V hV => ?_
    have HOV := Lib.hid (show V.ownsRow w.heap.size 5 1 (.slice A xs.length c) xs.length (bC xs) by rw [← hV]; exact HO.out)
    have HWV := Lib.hid (show Below w.heap.size w V by rw [← hV]; exact HW.out)
    have hVs := HWV.out.size
    clear hV
    refine wp_region_held_drew (S := fun _ => True) (by kernel_rfl) (trivial) (fun hHeld => ?_)
    refine wpAnyH_take (i := 0) (oi := _) (v := .slice A xs.length c) rfl (by kernel_rfl) (by kernel_rfl) (by kernel_rfl) (fun _ _ _ h => h) (Or.inl ⟨by rfl, fun w' hS => (by go_simp)⟩) hHeld ?_
    change wpAnyH _ _ _ _ _ _ _ (Act.put _ (some 114) _) _
    try simp only [Act.put, List.setIfInBounds_toArray, List.set_cons_zero, List.set_cons_succ]
    refine wpAnyH_take (i := 1) (oi := _) (v := .string s) rfl (by kernel_rfl) (by kernel_rfl) (by kernel_rfl) (fun _ _ _ h => h) (Or.inl ⟨by rfl, fun w' hS => (by go_simp)⟩) hHeld ?_
    change wpAnyH _ _ _ _ _ _ _ (Act.put _ (some 115) _) _
    try simp only [Act.put, List.setIfInBounds_toArray, List.set_cons_zero, List.set_cons_succ]
    refine wpAnyH_take (i := 2) (oi := _) (v := .int .i64 (p : Int)) rfl (by kernel_rfl) (by kernel_rfl) (by kernel_rfl) (fun _ _ _ h => h) (Or.inl ⟨by rfl, fun w' hS => (by go_simp)⟩) hHeld ?_
    change wpAnyH _ _ _ _ _ _ _ (Act.put _ (some 116) _) _
    try simp only [Act.put, List.setIfInBounds_toArray, List.set_cons_zero, List.set_cons_succ]
    refine wpAnyH_take (i := 3) (oi := _) (v := .int .i64 (p2 : Int)) rfl (by kernel_rfl) (by kernel_rfl) (by kernel_rfl) (fun _ _ _ h => h) (Or.inl ⟨by rfl, fun w' hS => (by go_simp)⟩) hHeld ?_
    change wpAnyH _ _ _ _ _ _ _ (Act.put _ (some 117) _) _
    try simp only [Act.put, List.setIfInBounds_toArray, List.set_cons_zero, List.set_cons_succ]
    refine wpAnyH_take (i := 4) (oi := _) (v := .int .u8 (e0.toNat : Int)) rfl (by kernel_rfl) (by kernel_rfl) (by kernel_rfl) (fun _ _ _ h => h) (Or.inl ⟨by rfl, fun w' hS => (by go_simp)⟩) hHeld ?_
    change wpAnyH _ _ _ _ _ _ _ (Act.put _ (some 118) _) _
    try simp only [Act.put, List.setIfInBounds_toArray, List.set_cons_zero, List.set_cons_succ]
    refine wpAnyH_take (i := 7) (oi := _) (v := .string s) rfl (by kernel_rfl) (by kernel_rfl) (by kernel_rfl) (fun _ _ _ h => h) (Or.inl ⟨by rfl, fun w' hS => (by go_simp)⟩) hHeld ?_
    change wpAnyH _ _ _ _ _ _ _ (Act.put _ (some 121) _) _
    try simp only [Act.put, List.setIfInBounds_toArray, List.set_cons_zero, List.set_cons_succ]
    refine wpAnyH_take (i := 8) (oi := _) (v := .int .i64 (p : Int)) rfl (by kernel_rfl) (by kernel_rfl) (by kernel_rfl) (fun _ _ _ h => h) (Or.inl ⟨by rfl, fun w' hS => (by go_simp)⟩) hHeld ?_
    change wpAnyH _ _ _ _ _ _ _ (Act.put _ (some 122) _) _
    try simp only [Act.put, List.setIfInBounds_toArray, List.set_cons_zero, List.set_cons_succ]
    refine wpAnyH_take (i := 9) (oi := _) (v := .int .i64 (p3 : Int)) rfl (by kernel_rfl) (by kernel_rfl) (by kernel_rfl) (fun _ _ _ h => h) (Or.inl ⟨by rfl, fun w' hS => (by go_simp)⟩) hHeld ?_
    change wpAnyH _ _ _ _ _ _ _ (Act.put _ (some 123) _) _
    try simp only [Act.put, List.setIfInBounds_toArray, List.set_cons_zero, List.set_cons_succ]
    refine wpAnyH_take (i := 10) (oi := _) (v := .int .u8 (f0.toNat : Int)) rfl (by kernel_rfl) (by kernel_rfl) (by kernel_rfl) (fun _ _ _ h => h) (Or.inl ⟨by rfl, fun w' hS => (by go_simp)⟩) hHeld ?_
    change wpAnyH _ _ _ _ _ _ _ (Act.put _ (some 124) _) _
    try simp only [Act.put, List.setIfInBounds_toArray, List.set_cons_zero, List.set_cons_succ]
    refine wpAnyH_ready (rs := [5]) (by kernel_rfl) (by simp) ?_
    refine AllReadyH.cons (o := _) rfl (fun K hK => ?_) AllReadyH.nil
    go_simp
    refine (HG1.out _).mono ?_
    rintro e w5 ⟨rfl, rfl⟩
    refine hK.out _ _ (trivial) (fun hHeld => ?_)
    clear hK K
    try simp only [Act.put, List.setIfInBounds_toArray, List.set_cons_zero, List.set_cons_succ]
    refine wpAnyH_take (i := 6) (oi := _) (v := .int .i64 (m1 : Int)) rfl (by kernel_rfl) (by kernel_rfl) (by kernel_rfl) (fun _ _ _ h => h) (Or.inl ⟨by rfl, fun w' hS => (by go_simp)⟩) hHeld ?_
    change wpAnyH _ _ _ _ _ _ _ (Act.put _ (some 120) _) _
    try simp only [Act.put, List.setIfInBounds_toArray, List.set_cons_zero, List.set_cons_succ]
    refine wpAnyH_ready (rs := [11]) (by kernel_rfl) (by simp) ?_
    refine AllReadyH.cons (o := _) rfl (fun K hK => ?_) AllReadyH.nil
    go_simp
    refine (HG2.out _).mono ?_
    rintro e w5 ⟨rfl, rfl⟩
    refine hK.out _ _ (trivial) (fun hHeld => ?_)
    clear hK K
    try simp only [Act.put, List.setIfInBounds_toArray, List.set_cons_zero, List.set_cons_succ]
    refine wpAnyH_take (i := 12) (oi := _) (v := .int .i64 (m2 : Int)) rfl (by kernel_rfl) (by kernel_rfl) (by kernel_rfl) (fun _ _ _ h => h) (Or.inl ⟨by rfl, fun w' hS => (by go_simp)⟩) hHeld ?_
    change wpAnyH _ _ _ _ _ _ _ (Act.put _ (some 126) _) _
    try simp only [Act.put, List.setIfInBounds_toArray, List.set_cons_zero, List.set_cons_succ]
    refine wpAnyH_take (i := 13) (oi := _) (v := .int .u8 (bb.toNat : Int)) rfl (by kernel_rfl) (by kernel_rfl) (by kernel_rfl) (fun _ _ _ h => h) (Or.inl ⟨by rfl, fun w' hS => (by go_simp)⟩) hHeld ?_
    change wpAnyH _ _ _ _ _ _ _ (Act.put _ (some 127) _) _
    try simp only [Act.put, List.setIfInBounds_toArray, List.set_cons_zero, List.set_cons_succ]
    refine wpAnyH_ready (rs := [14]) (by kernel_rfl) (by simp) ?_
    refine AllReadyH.cons (o := _) rfl (fun K hK => ?_) AllReadyH.nil
    go_simp
    refine hK.out _ _ (trivial) (fun hHeld => ?_)
    clear hK K
    try simp only [Act.put, List.setIfInBounds_toArray, List.set_cons_zero, List.set_cons_succ]
    refine wpAnyH_ready (rs := [15]) (by kernel_rfl) (by simp) ?_
    refine AllReadyH.cons (o := _) rfl (fun K hK => ?_) AllReadyH.nil
    refine step_append_lies _ (by rfl) _ _ _ (by rfl) w.heap.size 5 iU (.int .u8 0) 1 1 Tryd.underlying49 hiU hU0 hU1 hU2 rfl (by omega) (.slice A xs.length c) xs.length (bC xs) (by rfl) (by exact HOV.out.alloc _) ⟨V.heap.size, 0, none⟩ 1 1 (bC [bb]) (by rfl) (by rfl) (by exact news_drew V #[.int .u8 (bb.toNat : Int)] _ _ rfl) (bC_one _) (by omega) (by unfold maxLen; omega) (by omega) (by simp; omega) (V.heap.size + 1) (by simp) ?_
    intro gb c6 w12 hown12 hg12 hat12 hl12
    obtain ⟨A6, hA6⟩ : ∃ A6 : Option Addr, A6 = some ⟨gb, 0, none⟩ := ⟨_, rfl⟩
    have HO6 := Lib.hid (show w12.ownsRow w.heap.size 5 1 (.slice A6 (xs.length + 1) c6) (xs.length + 1) (bC xs ++ bC [bb]) by rw [hA6]; exact hown12)
    have HW6 := Lib.hid (show Below w.heap.size w w12 by first | exact ((HWV.out.alloc HWV.out.size _).drew).grown hg12 (by simp; omega) (fun gg hgg => own_base HOV.out gg hgg) | exact ((HWV.out.drew.alloc HWV.out.size _)).grown hg12 (by simp; omega) (fun gg hgg => own_base HOV.out gg hgg) | exact ((HWV.out.alloc HWV.out.size _)).grown hg12 (by simp; omega) (fun gg hgg => own_base HOV.out gg hgg))
    rw [← hA6]
    clear hown12 hg12 hat12 hl12 hA6
    refine hK.out _ _ (trivial) (fun hHeld => ?_)
    clear hK K
    try simp only [Act.put, List.setIfInBounds_toArray, List.set_cons_zero, List.set_cons_succ]
    refine wpAnyH_take (i := 16) (oi := _) (v := .slice A6 (xs.length + 1) c6) rfl (by kernel_rfl) (by kernel_rfl) (by kernel_rfl) (fun _ _ _ h => h) (Or.inl ⟨by rfl, fun w' hS => (by go_simp)⟩) hHeld ?_
    change wpAnyH _ _ _ _ _ _ _ (Act.put _ (some 5) _) _
    try simp only [Act.put, List.setIfInBounds_toArray, List.set_cons_zero, List.set_cons_succ]
    refine wpAnyH_done (by kernel_rfl) ?_ _
    go_wp2_with fail
    go_roundw
    case rel => exact ⟨pn, A6, c6, xs ++ [bb], by rw [List.length_append]; rfl, by go_num, by have := HPN.out; omega, by have := HPN.out; have := HFIT.out; omega, by rw [List.length_append]; have := HPN.out; have := HFIT.out; simp; omega, Lib.hid (text_next HJ.out HST.out hip HPN.out), Lib.hid (by rw [List.length_append, bC_app]; exact HO6.out), HW6⟩
    case measure => have := HPN.out; simp [intOf]; omega
end Go.Proofs.YtmjkelmlbihkpaaDoor
