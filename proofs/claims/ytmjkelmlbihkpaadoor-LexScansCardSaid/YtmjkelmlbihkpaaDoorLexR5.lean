/-
  The reference's Scan.
-/
import Derived.Test.YtmjkelmlbihkpaaDoorLexR4
import Derived.Test.YtmjkelmlbihkpaaDoorLexScan
import Derived.Test.YtmjkelmlbihkpaaDoorLexPB
set_option linter.unusedVariables false
set_option linter.unusedSimpArgs false
namespace Go.Proofs.YtmjkelmlbihkpaaDoor
open Go.ChangeShapes Go.WideShapes Go.ChangeAt Go.RowKit

set_option maxRecDepth 100000 in
set_option maxHeartbeats 32000000 in
theorem rscan_any (s : ByteArray) (w : World) : Calls Tryd.prog 11 #[.string s] w (ScanOut s w) := by
  by_cases hbig : 100000 < s.size
  · have hb' : (100000 : Int) < (s.size : Int) := by omega
    go_enter Tryd.func11, Tryd.ntmps11
    go_wp2
    refine bodyPost_ret (v := .tuple #[.slice none 0 0, .int .i64 0, .int .i64 2]) (by simp [results, Tryd.results11, go_sem]) rfl ?_
    exact ⟨Below.refl _ _, .inl ⟨hbig, rfl⟩⟩
  have hb' : ¬ (100000 : Int) < (s.size : Int) := by omega
  have hs : s.size ≤ 100000 := by omega
  clear hbig
  obtain ⟨iT, hiT, hT0, hT1, hT2⟩ := info_parts infoTok
  have hll : s.data.toList.length = s.size := by simp
  have HLL := Lib.hid hll
  obtain ⟨p0, hp0⟩ : ∃ p0, p0 = blankL false s.data.toList := ⟨_, rfl⟩
  have HBL := Lib.hid (show ∀ w, Calls Tryd.prog 22 #[.string s] w (Ret (.int .i64 (p0 : Int)) w) from fun w => by rw [hp0]; exact rblank_any s (by omega) w)
  have HP0 := Lib.hid hp0
  have hp0s : p0 ≤ s.size := by have := blankL_le s.data.toList false; omega
  clear hll hp0
  go_enter Tryd.func11, Tryd.ntmps11
  go_wp2_with fail
  refine (HBL.out _).mono ?_
  rintro e w1 ⟨rfl, rfl⟩
  go_wp2_with fail
  go_loopw [5, 6] (fun lv iv wr => ∃ (p : Nat) (A : Option Addr) (c : Nat) (toks : List Tok), lv = .slice A toks.length c ∧ iv = .int .i64 (p : Int) ∧ p ≤ s.size ∧ toks.length ≤ p ∧ Hid (scanL s.data.toList = scanAt s.data.toList p toks) ∧ Hid (wr.ownsRow w.heap.size 33 5 (.slice A toks.length c) toks.length (toks.flatMap tkEnc)) ∧ Hid (Below w.heap.size w wr)) (fun _ iv _ => s.size - (intOf iv).toNat)
  case atStart => exact ⟨p0, none, 0, [], rfl, rfl, hp0s, Nat.zero_le _, Lib.hid (by rw [HP0.out]; rfl), Lib.hid (World.ownsRow_nil _ _ _ _), Lib.hid (Below.refl _ _)⟩
  case round =>
    obtain ⟨p, A, c, toks, rfl, rfl, hps, htp, HS, HO, HW⟩ := hrel
    have hpi : (0 : Int) ≤ p := by omega
    have hws := HW.out.size
    by_cases hlt : p < s.size
    case neg =>
      obtain rfl : p = s.size := by omega
      have hkk : ¬ (s.size : Int) < (s.size : Int) := by omega
      have HEND := Lib.hid (show scanL s.data.toList = .inr (toks ++ [⟨0, ⟨#[]⟩, s.size, s.size, 0⟩]) by rw [HS.out]; exact scanAt_end (by rw [HLL.out]; exact Nat.le_refl _))
      go_wp2_with (at_builtin; refine wpList_append_own _ rfl _ _ 23 rfl w.heap.size 33 iT _ 5 48 Tryd.underlying23 hiT hT0 hT1 hT2 rfl (by decide) _ _ _ rfl (HO.out.alloc _) ⟨wr.heap.size, 0, none⟩ 1 1 (tkEnc ⟨0, ⟨#[]⟩, s.size, s.size, 0⟩) rfl rfl (World.news_of_block (heap_alloc_new _ _)) (by simp [tkEnc, Value.oneCell']) (by unfold maxLen; omega) (by omega) (by simp; omega) ?_; intro v' w6 hown6 hg6 _; obtain ⟨A6, c6, rfl, _, _, _⟩ := own_form hown6; have HO6 := Lib.hid hown6; have HW6 := Lib.hid ((HW.out.alloc HW.out.size _).grown hg6 (by simp; omega) (fun gg hgg => own_base HO.out gg hgg)); clear hown6 hg6)
      refine bodyPost_ret (v := .tuple #[.slice A6 (toks.length + 1) c6, .int .i64 0, .int .i64 0]) (by simp [results, Tryd.results11, go_sem]) rfl ?_
      have h2 := own_readsX HO6.out
      exact ⟨HW6.out, .inr (.inr ⟨hs, _, A6, c6, HEND.out, by rw [List.length_append]; rfl, by rw [List.flatMap_append]; exact h2.1, by rw [List.length_append]; exact h2.2, by rw [List.length_append]; simp; omega⟩)⟩
    have hlt' : (p : Int) < (s.size : Int) := by omega
    have hle' : (p : Int) ≤ (s.size : Int) := by omega
    obtain ⟨r, hr⟩ : ∃ r, r = tailB s p := ⟨_, rfl⟩
    have hrx : s.extract p s.size = r := hr.symm
    have hrs : r.size = s.size - p := by rw [hr]; exact tailB_size _ _
    have HTK := Lib.hid (fun w => rtoken_any r (by omega) (by omega) w)
    have hrl : r.data.toList = s.data.toList.drop p := by rw [hr]; exact tailB_list _ _
    rw [hrl] at HTK
    clear hr hrl hrs
    cases htk : tokenL (s.data.toList.drop p) with
    | inl er =>
      rw [htk] at HTK
      have HBAD := Lib.hid (show scanL s.data.toList = .inl (p, er) by rw [HS.out]; exact scanAt_bad (by rw [HLL.out]; omega) htk)
      have he : ((er : Int) == 0) = false := beq_eq_false_iff_ne.2 (by have := tokenL_err htk; omega)
      have he' : ((er : Int) != 0) = true := by rw [bne, he]; rfl
      unfold RTokV tokV at HTK
      clear htk
      go_wp2_with fail
      refine (HTK.out _).mono ?_
      rintro e w5 ⟨rfl, hb5⟩
      have HW5 := Lib.hid (HW.out.trans (hb5.mono HW.out.size))
      clear hb5
      go_wp2
      refine bodyPost_ret (v := .tuple #[.slice none 0 0, .int .i64 (p : Int), .int .i64 (er : Int)]) (by simp [results, Tryd.results11, go_sem]) rfl ?_
      exact ⟨HW5.out.alloc HW5.out.size _, .inr (.inl ⟨hs, p, er, HBAD.out, rfl⟩)⟩
    | inr q =>
      obtain ⟨kd, x, v, n⟩ := q
      rw [htk] at HTK
      have hlen := tokenL_len htk
      rw [List.length_drop, HLL.out] at hlen
      have hnx := scanAt_on (acc := toks) (L := s.data.toList) (p := p) (by rw [HLL.out]; omega) htk
      obtain ⟨p2, hp2⟩ : ∃ p2, p2 = p + n := ⟨_, rfl⟩
      rw [← hp2] at hnx
      obtain ⟨bl, hbl⟩ : ∃ bl, bl = blankL false (s.data.toList.drop p2) := ⟨_, rfl⟩
      rw [← hbl] at hnx
      have hbll := blankL_le (s.data.toList.drop p2) false
      rw [← hbl, List.length_drop, HLL.out] at hbll
      obtain ⟨p3, hp3⟩ : ∃ p3, p3 = p2 + bl := ⟨_, rfl⟩
      rw [← hp3] at hnx
      have HNX := Lib.hid hnx
      obtain ⟨r2, hr2⟩ : ∃ r2, r2 = tailB s p2 := ⟨_, rfl⟩
      have hr2x : s.extract p2 s.size = r2 := hr2.symm
      have HB2 := Lib.hid (show ∀ w, Calls Tryd.prog 22 #[.string r2] w (Ret (.int .i64 (bl : Int)) w) from fun w => by rw [hbl, ← tailB_list, ← hr2]; exact rblank_any r2 (by rw [hr2, tailB_size]; omega) w)
      have ha2 : (p : Int) + (n : Int) = (p2 : Int) := by omega
      have ha2w : IntKind.i64.wrap (p2 : Int) = (p2 : Int) := IntWalk.i64_in _ (by omega)
      obtain ⟨nb, hnb⟩ : ∃ nb, nb = n + bl := ⟨_, rfl⟩
      have ha3 : (n : Int) + (bl : Int) = (nb : Int) := by omega
      have ha3w : IntKind.i64.wrap (nb : Int) = (nb : Int) := IntWalk.i64_in _ (by omega)
      have ha4 : (p : Int) + (nb : Int) = (p3 : Int) := by omega
      have ha4w : IntKind.i64.wrap (p3 : Int) = (p3 : Int) := IntWalk.i64_in _ (by omega)
      have hp20 : (0 : Int) ≤ (p2 : Int) := by omega
      have hp2s : (p2 : Int) ≤ (s.size : Int) := by omega
      have HPB := Lib.hid (show p < p3 ∧ p3 ≤ s.size ∧ toks.length + 1 ≤ p3 by omega)
      unfold RTokV tokV at HTK
      clear htk hlen hnx hp2 hbl hbll hp3 hr2 hnb
      go_wp2_with fail
      refine (HTK.out _).mono ?_
      rintro e w5 ⟨rfl, hb5⟩
      obtain ⟨bt, hbt⟩ : ∃ b, b = w5.heap.size := ⟨_, rfl⟩
      have HW5 := Lib.hid (HW.out.trans (hb5.mono HW.out.size))
      have HO5 := Lib.hid (below_own hb5 HO.out)
      clear hb5
      go_upto_region 9 with fail
      rw [← hbt]
      refine gen_wpT fun V hV => ?_
      have HTV := Lib.hid (show V.heap[bt]? = some (.cells #[.int .i64 kd, .string x, .int .i64 0, .int .i64 0, .int .i64 v] 33 (0, 0)) by rw [← hV, hbt]; exact heap_new_at _ _ _ rfl)
      have HWV := Lib.hid (show Below w.heap.size w V by rw [← hV]; exact HW5.out.alloc HW5.out.size _)
      have HOV := Lib.hid (show V.ownsRow w.heap.size 33 5 (.slice A toks.length c) toks.length (toks.flatMap tkEnc) by rw [← hV]; exact HO5.out.alloc _)
      have HBT := Lib.hid (show w.heap.size ≤ bt by rw [hbt]; exact HW5.out.size)
      have HNE := Lib.hid (show ∀ gg, Value.ownBlock (.slice A toks.length c) = some gg → gg < bt from fun gg hgg => by rw [hbt]; exact (World.ownsRow.lt HO5.out gg hgg).2)
      have t2 := cell_of_blk (i := 2) HTV.out rfl
      have t3 := cell_of_blk (i := 3) HTV.out rfl
      have tf2 := free_of_blk (i := 2) HTV.out
      have tf3 := free_of_blk (i := 3) HTV.out
      have tl := blk_lt HTV.out
      clear hV hbt
      go_upto_region 10 with fail
      refine gen_wpT fun U hU => ?_
      have HTU := Lib.hid (show U.heap[bt]? = some (.cells #[.int .i64 kd, .string x, .int .i64 (p : Int), .int .i64 (p2 : Int), .int .i64 v] 33 (0, 0)) by rw [← hU]; exact blk_set (i := 3) (blk_set (i := 2) HTV.out _) _)
      have HWU := Lib.hid (show Below w.heap.size w U by rw [← hU]; exact (HWV.out.setCell (p := ⟨bt, 2, none⟩) HBT.out _).setCell (p := ⟨bt, 3, none⟩) HBT.out _)
      have HOU := Lib.hid (show U.ownsRow w.heap.size 33 5 (.slice A toks.length c) toks.length (toks.flatMap tkEnc) by
        rw [← hU]
        refine Fr.own (S := [bt]) (((Fr.refl [bt] V).set _ (.inl (by simp))).set _ (.inl (by simp))) HOV.out (fun gg hgg => ?_)
        have := HNE.out gg hgg
        simp
        omega)
      clear hU t2 t3 tf2 tf3 tl
      have u0 := cell_of_blk (i := 0) HTU.out rfl
      have u1 := cell_of_blk (i := 1) HTU.out rfl
      have u2 := cell_of_blk (i := 2) HTU.out rfl
      have u3 := cell_of_blk (i := 3) HTU.out rfl
      have u4 := cell_of_blk (i := 4) HTU.out rfl
      have ul := blk_lt HTU.out
      have hUs := HWU.out.size
      go_wp2_with (at_builtin; refine wpList_append_own _ rfl _ _ 23 rfl w.heap.size 33 iT _ 5 48 Tryd.underlying23 hiT hT0 hT1 hT2 rfl (by decide) _ _ _ rfl (HOU.out.alloc _) ⟨U.heap.size, 0, none⟩ 1 1 (tkEnc ⟨kd, x, p, p2, v⟩) rfl rfl (World.news_of_block (heap_alloc_new _ _)) (by simp [tkEnc, Value.oneCell']) (by unfold maxLen; omega) (by omega) (by simp; omega) ?_; intro v' w6 hown6 hg6 _; obtain ⟨A6, c6, rfl, _, _, _⟩ := own_form hown6; have HO6 := Lib.hid hown6; have HW6 := Lib.hid ((HWU.out.alloc HWU.out.size _).grown hg6 (by simp; omega) (fun gg hgg => own_base HOU.out gg hgg)); clear hown6 hg6)
      refine (HB2.out _).mono ?_
      rintro e w7 ⟨rfl, rfl⟩
      go_wp2_with fail
      go_roundw
      case rel => exact ⟨p3, A6, c6, toks ++ [⟨kd, x, p, p2, v⟩], by rw [List.length_append]; rfl, rfl, HPB.out.2.1, by rw [List.length_append]; exact HPB.out.2.2, Lib.hid (by rw [HS.out, HNX.out]), Lib.hid (by rw [List.length_append, List.flatMap_append]; exact HO6.out), HW6⟩
      case measure => have := HPB.out; simp [intOf]; omega
end Go.Proofs.YtmjkelmlbihkpaaDoor
