/-
 ParseChecks: part 11 of what the claim rests on.
-/
import Derived.Test.YthobobmbileekaaGreatDoorC01
import Derived.Test.YthobobmbileekaaGreatDoorC02
import Derived.Test.YthobobmbileekaaGreatDoorC03
import Derived.Test.YthobobmbileekaaGreatDoorC04
import Derived.Test.YthobobmbileekaaGreatDoorC05
import Derived.Test.YthobobmbileekaaGreatDoorC08
import Derived.Test.YthobobmbileekaaGreatDoorC09
import Derived.Test.YthobobmbileekaaGreatDoorC10
import Derived.Deep.AppendLies
import Derived.BigQuiet
import Derived.Lib.ItoaLen
set_option linter.unusedVariables false
set_option linter.unusedSimpArgs false
set_option maxHeartbeats 64000000
set_option maxRecDepth 100000
namespace Go.Proofs.YthobobmbileekaaGreatDoor
open Go.ChangeShapes Go.WideShapes Go.ChangeAt Go.RowKit

theorem infoTok : (Tryz.prog.info? 65).map (fun i => (i.zero, i.size, i.bytes)) = some (some (.agg #[.int .i64 0, .string ByteArray.empty, .int .i64 0, .int .i64 0, .int .i64 0]), 5, 48) := by kernel_rfl
def tkEnc (t : Tok) : List Value := [.int .i64 t.kind, .string t.text, .int .i64 (t.a : Int), .int .i64 (t.z : Int), .int .i64 t.n]
theorem tkEnc_len (t : Tok) : (tkEnc t).length = 5 := rfl
theorem own_readsX {w : World} {base : Nat} {e : TypeId} {sz n c : Nat} {A : Option Addr} {xs : List Value} (h : w.ownsRow base e sz (.slice A n c) n xs) : Reads w w.heap.size A xs ∧ n ≤ c := by
 obtain ⟨A', c', hv, h1, _, h3⟩ := own_form h
 injection hv with e1 e2 e3
 subst e1 e3
 refine ⟨?_, h1⟩
 rcases Nat.eq_zero_or_pos n with h0 | h0
 ·subst h0
  have := h.1; exact .inl (List.eq_nil_of_length_eq_zero (by omega))
 ·obtain ⟨gb, h4, h5, h6, _, h7⟩ := h3 h0
  subst h4; exact .inr ⟨⟨gb, 0, none⟩, rfl, h6, fun j u hu => by rw [add_lit0]; exact h7 j u hu⟩
def AllOut (L : List UInt8) (w : World) (e : Ending) (w' : World) : Prop :=
 (∃ p er : Nat, scanL L = .inl (p, er) ∧ e = .panicked (wrongX p er)) ∨
 (∃ (toks : List Tok) (A : Option Addr) (c : Nat), scanL L = .inr toks ∧ e = .returned (.slice A toks.length c) ∧ w'.ownsRow w.heap.size 65 5 (.slice A toks.length c) toks.length (toks.flatMap tkEnc) ∧ toks.length ≤ L.length + 1)
theorem xall_any {g mb nb : Nat} {D : DataW Unit} {s : ByteArray} {m : Int} (hs : s.size ≤ 1000000) (w : World) (h : ScB w g s 0 mb) (hM : w.ownsMap Tryz.prog 9 (plainElem Tryz.prog 3) mb nb D) (hD : WMap D wordsL) (hmg : mb ≠ g) (hm : MaxC w m) (hg : g ≠ 3) :
  Calls Tryz.prog 18 #[.pointer (some ⟨g, 0, none⟩)] w (fun e w' => Fr [g] w w' ∧ AllOut s.data.toList w e w') := by
 have hmf : ∀ (fn : Fn) (first cap : Array Value) (w : World), (Instr.makeFunc fn first cap).run Tryz.prog w = .ok (.func fn first cap) w := fun _ _ _ _ => rfl
 obtain ⟨iT, hiT, hT0, hT1, hT2⟩ := info_parts infoTok
 have hll : s.data.toList.length = s.size := by simp
 have HLL := zh hll
 have H := zh h
 have HM := zh hm
 have HMM := zh (show w.ownsMap Tryz.prog 9 (plainElem Tryz.prog 3) mb nb D ∧ WMap D wordsL from ⟨hM, hD⟩)
 have HGW := zh (show g < w.heap.size from h.lt)
 clear h hm hM hD hll
 go_enter Tryz.func18, Tryz.ntmps18
 go_wp2_with fail
 refine (xblanks_any hs w H.out (Nat.zero_le _) HM.out hg).mono ?_
 rintro e w1 ⟨rfl, hb1, hf1⟩
 have HB1 := zh hb1
 have HF1 := zh hf1
 clear hb1 hf1
 go_wp2_with fail
 go_loopw [3] (fun lv wr => ∃ (p : Nat) (A : Option Addr) (c : Nat) (toks : List Tok), lv = .slice A toks.length c ∧ p ≤ s.size ∧ toks.length ≤ p ∧ Hid (scanL s.data.toList = scanAt s.data.toList p toks) ∧ Hid (ScB wr g s p mb) ∧ Hid (wr.ownsRow w.heap.size 65 5 (.slice A toks.length c) toks.length (toks.flatMap tkEnc)) ∧ Hid (Fr [g] w wr)) (fun _ wr => s.size - scI wr g)
 case atStart => exact ⟨0 + blankL false (s.data.toList.drop 0), none, 0, [], rfl, by have h1 := blankL_le (s.data.toList.drop 0) false; rw [List.length_drop, HLL.out] at h1; omega, Nat.zero_le _, zh (by rw [Nat.zero_add, List.drop_zero]; rfl), HB1, zh (World.ownsRow_nil _ _ _ _), HF1⟩
 case round =>
  obtain ⟨p, A, c, toks, rfl, hps, htp, HS, HBr, HO, HFr⟩ := hrel; have c0 := HBr.out.c0; have c1 := HBr.out.c1; have cf := HBr.out.fr; have cl := HBr.out.lt; have hp0 : (0 : Int) ≤ p := by omega
  by_cases hlt : p < s.size
  case neg =>
   obtain rfl : p = s.size := by omega
   have hkk : ¬ (s.size : Int) < (s.size : Int) := by omega
   have HEND := zh (show scanL s.data.toList = .inr (toks ++ [⟨0, ⟨#[]⟩, s.size, s.size, 0⟩]) by rw [HS.out]; exact scanAt_end (by rw [HLL.out]; exact znr)); have hws := HFr.out.size; go_wp2_with fail
   go_quiet (fail)
   go_wp2_with fail
   refine gen_wpT fun V hV => ?_; have HBV := zh (show ScB V g s s.size mb by rw [← hV]; exact HBr.out); have HOV := zh (show V.ownsRow w.heap.size 65 5 (.slice A toks.length c) toks.length (toks.flatMap tkEnc) by rw [← hV]; exact HO.out); have HFV := zh (show Fr [g] w V by rw [← hV]; exact HFr.out.drewN _); have hVs := HFV.out.size; clear hV c0 c1 cf cl; refine wp_region_held_drew (S := fun w' => ScB w' g s s.size mb) (by kernel_rfl) (HBV.out) (fun hHeld => ?_); refine ztk 0 66 (.slice A toks.length c) hHeld ?_; simp only [zq]; refine ztk 1 67 (.pointer (some ⟨g, 0, none⟩)) hHeld ?_; simp only [zq]; refine ztk 2 68 (.pointer (some ⟨g, 0, none⟩)) hHeld ?_; simp only [zq]; refine ztk 3 69 (.pointer (some ⟨g, 0, none⟩)) hHeld ?_; simp only [zq]; refine ztk 4 70 (.string s) hHeld ?_ (hy := Or.inl ⟨by rfl, fun w' hS => (by have q := ScB.c0 hS; go_simp)⟩); simp only [zq]; refine ztk 5 71 (.int .i64 (s.size : Int)) hHeld ?_; simp only [zq]; refine ztk 6 72 (.pointer (some ⟨g, 0, none⟩)) hHeld ?_; simp only [zq]; refine ztk 7 73 (.pointer (some ⟨g, 0, none⟩)) hHeld ?_; simp only [zq]; refine ztk 8 74 (.pointer (some ⟨g, 0, none⟩)) hHeld ?_; simp only [zq]; refine ztk 9 75 (.string s) hHeld ?_ (hy := Or.inl ⟨by rfl, fun w' hS => (by have q := ScB.c0 hS; go_simp)⟩); simp only [zq]; refine ztk 10 76 (.int .i64 (s.size : Int)) hHeld ?_; simp only [zq]; refine ztk 11 77 (.agg #[.int .i64 0, .string ⟨#[]⟩, .int .i64 (s.size : Int), .int .i64 (s.size : Int), .int .i64 0]) hHeld ?_; simp only [zq]; refine zrd 12 fun K hK => ?_
   go_simp
   refine hK.out _ _ (by exact blk_alloc (by exact HBV.out) _) (fun hHeld => ?_); clear hK K
   try simp only [zq]
   refine zrd 13 fun K hK => ?_; refine step_append_lies _ (by rfl) _ _ _ (by rfl) w.heap.size 65 iT _ 5 48 Tryz.underlying36 hiT hT0 hT1 hT2 rfl (by omega) (.slice A toks.length c) toks.length (toks.flatMap tkEnc) (by rfl) (by exact HOV.out.alloc _) ⟨V.heap.size, 0, none⟩ 1 1 (tkEnc ⟨0, ⟨#[]⟩, s.size, s.size, 0⟩) (by rfl) (by rfl) (by exact news_drew V #[.int .i64 0, .string ⟨#[]⟩, .int .i64 (s.size : Int), .int .i64 (s.size : Int), .int .i64 0] _ _ rfl) (by simp [tkEnc, Value.oneCell']) (by omega) (by unfold maxLen; omega) (by omega) (by simp; omega) (V.heap.size + 1) (by simp) ?_; intro gb cap w12 hown12 hg12 hat12 hl12; have HOE := zh hown12; have HBE := zh (show ScB w12 g s s.size mb from blk_grown (blk_drew (blk_alloc (by exact HBV.out) _)) hg12 (fun e => by have h1 := own_base HOV.out g e; have h2 := HGW.out; omega)); have HFE := zh (show Fr [g] w w12 by first | exact (HFV.out.alloc _).grown hg12 (fun gg hgg => .inr (own_base HOV.out gg hgg)) | exact (HFV.out.drew.alloc _).grown hg12 (fun gg hgg => .inr (own_base HOV.out gg hgg)) | exact ((HFV.out.alloc _).drew).grown hg12 (fun gg hgg => .inr (own_base HOV.out gg hgg))); clear hown12 hg12 hat12 hl12; refine hK.out _ _ (HBE.out) (fun hHeld => ?_); clear hK K
   try simp only [zq]
   refine ztk 14 2 (.slice (some ⟨gb, 0, none⟩) (toks.length + 1) cap) hHeld ?_; simp only [zq]; refine wpAnyH_done (by kernel_rfl) ?_ _; go_wp2
   go_ret
   refine ⟨HFE.out, .inr ⟨_, (some ⟨gb, 0, none⟩), cap, HEND.out, (?_ : _ = Ending.returned (Value.slice (some ⟨gb, 0, none⟩) (toks ++ [(⟨0, ⟨#[]⟩, s.size, s.size, 0⟩ : Tok)]).length cap)), by rw [List.flatMap_append, List.length_append]; exact HOE.out, by rw [List.length_append, HLL.out]; simp; omega⟩⟩; have e9 : (toks ++ [(⟨0, ⟨#[]⟩, s.size, s.size, 0⟩ : Tok)]).length = toks.length + 1 := by simp
   rw [e9]
   first | rfl | (simp [List.set]; done) | (trace_state; rfl)
  have hlt' : (p : Int) < (s.size : Int) := by omega
  have HMr := zh (HM.out.fr HFr.out hg); have HMMr := zh (show wr.ownsMap Tryz.prog 9 (plainElem Tryz.prog 3) mb nb D ∧ WMap D wordsL from ⟨HFr.out.map HMM.out.1 (by simp; exact hmg), HMM.out.2⟩); have hpart := fun w => part_any s[p].toNat w (UInt8.toNat_lt _); go_wp2_with fail
  go_quiet (fail)
  go_wp2_with fail
  go_quiet (fail)
  by_cases hpp : partN s[p].toNat = true
  case pos =>
   rw [hpp] at hpart; have HPT := zh hpart; have HRD := zh (show ∀ q, Calls Tryz.prog 36 #[.pointer (some ⟨g, 0, none⟩)] (wr.drewN q) (ReadOut g s p mb (wr.drewN q)) from fun q => xword_any hs (wr.drewN q) (by exact HBr.out) hlt hpp (by exact HMMr.out.1) HMMr.out.2 hmg); clear hpart; go_wp2_with fail
   refine (HPT.out _).mono ?_; rintro e w4 ⟨rfl, rfl⟩; go_wp2_with fail
   refine (HRD.out _).mono ?_; rintro e w5 ⟨hf, ⟨er, h1, rfl⟩ | ⟨kd, x, v, n, h1, rfl, hb⟩⟩
   ·have HTB := zh (show scanL s.data.toList = .inl (p, er) by rw [HS.out]; exact scanAt_bad (by rw [HLL.out]; omega) h1)
    have HFX := zh (HFr.out.next (((Fr.refl [g] wr).drewN _).next hf)); clear hf h1; go_wp2
    exact ⟨rfl, HFX.out, .inl ⟨p, er, HTB.out, rfl⟩⟩
   have HLEN := zh (tokenL_len h1); have hnx := scanAt_on (acc := toks) (L := s.data.toList) (p := p) (by rw [HLL.out]; omega) h1; obtain ⟨p2, hp2⟩ : ∃ p2, p2 = p + n := ⟨_, rfl⟩; rw [← hp2] at hnx; have HNX := zh hnx; have HP2 := zh hp2; clear hnx; rw [← hp2] at hb; have hp2s : p2 ≤ s.size := by have h2 := HLEN.out; rw [List.length_drop, HLL.out] at h2; omega
   have HB5 := zh hb; have HF5 := zh (show Fr [g] wr w5 from ((Fr.refl [g] wr).drewN _).next hf); have HO5 := zh (HF5.out.own HO.out (fun g' hg' => by have h1 := own_base HO.out g' hg'; have h2 := HGW.out; simp; omega)); have h5s := HF5.out.size; unfold tokV; clear hf h1 hb hp2 c0 c1 cf cl; obtain ⟨bt, hbt⟩ : ∃ b, b = w5.heap.size := ⟨_, rfl⟩
   go_upto_region 13 with fail
   rw [← hbt]; refine gen_wpT fun V hV => ?_; have HTV := zh (show V.heap[bt]? = some (.cells #[.int .i64 kd, .string x, .int .i64 0, .int .i64 0, .int .i64 v] 65 (0, 0)) by rw [← hV, hbt]; exact heap_new_at _ _ _ rfl); have HBV := zh (show ScB V g s p2 mb by rw [← hV]; exact blk_alloc HB5.out _); have HFV := zh (show Fr [g] wr V by rw [← hV]; exact HF5.out.alloc _); have HOV := zh (show V.ownsRow w.heap.size 65 5 (.slice A toks.length c) toks.length (toks.flatMap tkEnc) by rw [← hV]; exact HO5.out.alloc _); have HBT := zh (show bt ≠ g ∧ w.heap.size ≤ bt ∧ wr.heap.size ≤ bt by have h1 := HB5.out.lt; have h2 := HFr.out.size; exact ⟨by omega, by omega, by omega⟩); have t0 := zc 0 HTV.out rfl; have t1 := zc 1 HTV.out rfl; have t2 := zc 2 HTV.out rfl; have t3 := zc 3 HTV.out rfl; have t4 := zc 4 HTV.out rfl; have tf0 := free_of_blk (i := 0) HTV.out; have tf2 := free_of_blk (i := 2) HTV.out; have tf3 := free_of_blk (i := 3) HTV.out; have tl := blk_lt HTV.out; have c1 := HBV.out.c1; have cl := HBV.out.lt; have ntg := HBT.out.1; clear hV hbt
   go_region
   all_goals
    go_upto_region 14 with fail
    refine gen_wpT fun U hU => ?_; have HTU := zh (show U.heap[bt]? = some (.cells #[.int .i64 kd, .string x, .int .i64 (p : Int), .int .i64 (p2 : Int), .int .i64 v] 65 (0, 0)) by rw [← hU]; first | exact blk_set (i := 3) (blk_set (i := 2) HTV.out _) _ | exact blk_set (i := 2) (blk_set (i := 3) HTV.out _) _); have HBU := zh (show ScB U g s p2 mb by rw [← hU]; first | exact blk_far (a := ⟨bt, 3, none⟩) (blk_far (a := ⟨bt, 2, none⟩) HBV.out HBT.out.1.symm _) HBT.out.1.symm _ | exact blk_far (a := ⟨bt, 2, none⟩) (blk_far (a := ⟨bt, 3, none⟩) HBV.out HBT.out.1.symm _) HBT.out.1.symm _); have HFW := zh (show Fr [g] wr U by rw [← hU]; first | exact ((HFV.out.set (a := ⟨bt, 2, none⟩) _ (.inr HBT.out.2.2)).set (a := ⟨bt, 3, none⟩) _ (.inr HBT.out.2.2)).drew | exact ((HFV.out.set (a := ⟨bt, 3, none⟩) _ (.inr HBT.out.2.2)).set (a := ⟨bt, 2, none⟩) _ (.inr HBT.out.2.2)).drew | exact ((HFV.out.set (a := ⟨bt, 2, none⟩) _ (.inr HBT.out.2.2)).set (a := ⟨bt, 3, none⟩) _ (.inr HBT.out.2.2)) | exact ((HFV.out.set (a := ⟨bt, 3, none⟩) _ (.inr HBT.out.2.2)).set (a := ⟨bt, 2, none⟩) _ (.inr HBT.out.2.2))); have HOU := zh (HFW.out.own HO.out (fun g' hg' => by have h1 := own_base HO.out g' hg'; have h2 := HGW.out; simp; omega)); clear hU t0 t1 t2 t3 t4 tf0 tf2 tf3 tl c1 cl; have u0 := zc 0 HTU.out rfl; have u1 := zc 1 HTU.out rfl; have u2 := zc 2 HTU.out rfl; have u3 := zc 3 HTU.out rfl; have u4 := zc 4 HTU.out rfl; have ul := blk_lt HTU.out; have hUs := HFW.out.size; have hws := HFr.out.size; go_wp2_with (at_builtin; refine wpList_append_own _ rfl _ _ 36 rfl w.heap.size 65 iT _ 5 48 Tryz.underlying36 hiT hT0 hT1 hT2 rfl (by decide) _ _ _ rfl (HOU.out.alloc _) ⟨U.heap.size, 0, none⟩ 1 1 (tkEnc ⟨kd, x, p, p2, v⟩) rfl rfl (World.news_of_block (heap_alloc_new _ _)) (by simp [tkEnc, Value.oneCell']) (by unfold maxLen; omega) (by omega) (by simp; omega) ?_; intro v' w6 hown6 hg6 _; obtain ⟨A6, c6, rfl, _, _, _⟩ := own_form hown6; have HO6 := zh hown6; have HB6 := zh (show ScB w6 g s p2 mb from blk_grown (blk_alloc HBU.out _) hg6 (fun e => by have h1 := own_base HOU.out g e; have h2 := HGW.out; omega)); have HF6 := zh (((HFr.out.next HFW.out).alloc _).grown hg6 (fun gg hgg => .inr (own_base HOU.out gg hgg))); clear hown6 hg6)
    refine (xblanks_any hs w6 HB6.out hp2s (HM.out.fr HF6.out hg) hg).mono ?_; rintro e w7 ⟨rfl, hb7, hf7⟩; obtain ⟨p3, hp3⟩ : ∃ p3, p3 = p2 + blankL false (s.data.toList.drop p2) := ⟨_, rfl⟩; rw [← hp3] at hb7; have HP3 := zh hp3; have HB7 := zh hb7; have HF7 := zh (HF6.out.next hf7); have HO7 := zh (hf7.own HO6.out (fun g' hg' => by have h1 := own_base HO6.out g' hg'; have h2 := HGW.out; simp; omega)); clear hb7 hf7 hp3; go_wp2_with fail
    go_roundw
    case rel => exact ⟨p3, A6, c6, toks ++ [⟨kd, x, p, p2, v⟩], by rw [List.length_append]; rfl, by have h1 := blankL_le (s.data.toList.drop p2) false; rw [List.length_drop, HLL.out] at h1; have h2 := HP3.out; omega, by rw [List.length_append]; have h1 := HLEN.out; have h2 := HP3.out; have h3 := HP2.out; simp; omega, zh (by rw [HS.out, HNX.out, ← HP3.out]), HB7, zh (by rw [List.length_append, List.flatMap_append]; exact HO7.out), HF7⟩
    case measure =>
     rw [scI_of HBr.out, scI_of HB7.out]; have h1 := HLEN.out; have h2 := HP3.out; have h3 := HP2.out
     omega
  have hpf : partN s[p].toNat = false := by cases h : partN s[p].toNat with | false => rfl | true => exact (hpp h).elim
  rw [hpf] at hpart; have HPT := zh hpart; clear hpart; by_cases h34 : s[p] = 34
  case pos =>
   have q34 : ((s[p].toNat : Int) == 34) = true := by rw [h34]; rfl
   have HRD := zh (show ∀ q, Calls Tryz.prog 37 #[.pointer (some ⟨g, 0, none⟩)] (wr.drewN q) (ReadOut g s p mb (wr.drewN q)) from fun q => xtext_any hs (wr.drewN q) (by exact HBr.out) hlt h34); clear hpp hpf h34; go_wp2_with fail
   refine (HPT.out _).mono ?_; rintro e w4 ⟨rfl, rfl⟩; go_wp2_with fail
   refine (HRD.out _).mono ?_; rintro e w5 ⟨hf, ⟨er, h1, rfl⟩ | ⟨kd, x, v, n, h1, rfl, hb⟩⟩
   ·have HTB := zh (show scanL s.data.toList = .inl (p, er) by rw [HS.out]; exact scanAt_bad (by rw [HLL.out]; omega) h1)
    have HFX := zh (HFr.out.next (((Fr.refl [g] wr).drewN _).next hf)); clear hf h1; go_wp2
    exact ⟨rfl, HFX.out, .inl ⟨p, er, HTB.out, rfl⟩⟩
   have HLEN := zh (tokenL_len h1); have hnx := scanAt_on (acc := toks) (L := s.data.toList) (p := p) (by rw [HLL.out]; omega) h1; obtain ⟨p2, hp2⟩ : ∃ p2, p2 = p + n := ⟨_, rfl⟩; rw [← hp2] at hnx; have HNX := zh hnx; have HP2 := zh hp2; clear hnx; rw [← hp2] at hb; have hp2s : p2 ≤ s.size := by have h2 := HLEN.out; rw [List.length_drop, HLL.out] at h2; omega
   have HB5 := zh hb; have HF5 := zh (show Fr [g] wr w5 from ((Fr.refl [g] wr).drewN _).next hf); have HO5 := zh (HF5.out.own HO.out (fun g' hg' => by have h1 := own_base HO.out g' hg'; have h2 := HGW.out; simp; omega)); have h5s := HF5.out.size; unfold tokV; clear hf h1 hb hp2 c0 c1 cf cl; obtain ⟨bt, hbt⟩ : ∃ b, b = w5.heap.size := ⟨_, rfl⟩
   go_upto_region 13 with fail
   rw [← hbt]; refine gen_wpT fun V hV => ?_; have HTV := zh (show V.heap[bt]? = some (.cells #[.int .i64 kd, .string x, .int .i64 0, .int .i64 0, .int .i64 v] 65 (0, 0)) by rw [← hV, hbt]; exact heap_new_at _ _ _ rfl); have HBV := zh (show ScB V g s p2 mb by rw [← hV]; exact blk_alloc HB5.out _); have HFV := zh (show Fr [g] wr V by rw [← hV]; exact HF5.out.alloc _); have HOV := zh (show V.ownsRow w.heap.size 65 5 (.slice A toks.length c) toks.length (toks.flatMap tkEnc) by rw [← hV]; exact HO5.out.alloc _); have HBT := zh (show bt ≠ g ∧ w.heap.size ≤ bt ∧ wr.heap.size ≤ bt by have h1 := HB5.out.lt; have h2 := HFr.out.size; exact ⟨by omega, by omega, by omega⟩); have t0 := zc 0 HTV.out rfl; have t1 := zc 1 HTV.out rfl; have t2 := zc 2 HTV.out rfl; have t3 := zc 3 HTV.out rfl; have t4 := zc 4 HTV.out rfl; have tf0 := free_of_blk (i := 0) HTV.out; have tf2 := free_of_blk (i := 2) HTV.out; have tf3 := free_of_blk (i := 3) HTV.out; have tl := blk_lt HTV.out; have c1 := HBV.out.c1; have cl := HBV.out.lt; have ntg := HBT.out.1; clear hV hbt
   go_region
   all_goals
    go_upto_region 14 with fail
    refine gen_wpT fun U hU => ?_; have HTU := zh (show U.heap[bt]? = some (.cells #[.int .i64 kd, .string x, .int .i64 (p : Int), .int .i64 (p2 : Int), .int .i64 v] 65 (0, 0)) by rw [← hU]; first | exact blk_set (i := 3) (blk_set (i := 2) HTV.out _) _ | exact blk_set (i := 2) (blk_set (i := 3) HTV.out _) _); have HBU := zh (show ScB U g s p2 mb by rw [← hU]; first | exact blk_far (a := ⟨bt, 3, none⟩) (blk_far (a := ⟨bt, 2, none⟩) HBV.out HBT.out.1.symm _) HBT.out.1.symm _ | exact blk_far (a := ⟨bt, 2, none⟩) (blk_far (a := ⟨bt, 3, none⟩) HBV.out HBT.out.1.symm _) HBT.out.1.symm _); have HFW := zh (show Fr [g] wr U by rw [← hU]; first | exact ((HFV.out.set (a := ⟨bt, 2, none⟩) _ (.inr HBT.out.2.2)).set (a := ⟨bt, 3, none⟩) _ (.inr HBT.out.2.2)).drew | exact ((HFV.out.set (a := ⟨bt, 3, none⟩) _ (.inr HBT.out.2.2)).set (a := ⟨bt, 2, none⟩) _ (.inr HBT.out.2.2)).drew | exact ((HFV.out.set (a := ⟨bt, 2, none⟩) _ (.inr HBT.out.2.2)).set (a := ⟨bt, 3, none⟩) _ (.inr HBT.out.2.2)) | exact ((HFV.out.set (a := ⟨bt, 3, none⟩) _ (.inr HBT.out.2.2)).set (a := ⟨bt, 2, none⟩) _ (.inr HBT.out.2.2))); have HOU := zh (HFW.out.own HO.out (fun g' hg' => by have h1 := own_base HO.out g' hg'; have h2 := HGW.out; simp; omega)); clear hU t0 t1 t2 t3 t4 tf0 tf2 tf3 tl c1 cl; have u0 := zc 0 HTU.out rfl; have u1 := zc 1 HTU.out rfl; have u2 := zc 2 HTU.out rfl; have u3 := zc 3 HTU.out rfl; have u4 := zc 4 HTU.out rfl; have ul := blk_lt HTU.out; have hUs := HFW.out.size; have hws := HFr.out.size; go_wp2_with (at_builtin; refine wpList_append_own _ rfl _ _ 36 rfl w.heap.size 65 iT _ 5 48 Tryz.underlying36 hiT hT0 hT1 hT2 rfl (by decide) _ _ _ rfl (HOU.out.alloc _) ⟨U.heap.size, 0, none⟩ 1 1 (tkEnc ⟨kd, x, p, p2, v⟩) rfl rfl (World.news_of_block (heap_alloc_new _ _)) (by simp [tkEnc, Value.oneCell']) (by unfold maxLen; omega) (by omega) (by simp; omega) ?_; intro v' w6 hown6 hg6 _; obtain ⟨A6, c6, rfl, _, _, _⟩ := own_form hown6; have HO6 := zh hown6; have HB6 := zh (show ScB w6 g s p2 mb from blk_grown (blk_alloc HBU.out _) hg6 (fun e => by have h1 := own_base HOU.out g e; have h2 := HGW.out; omega)); have HF6 := zh (((HFr.out.next HFW.out).alloc _).grown hg6 (fun gg hgg => .inr (own_base HOU.out gg hgg))); clear hown6 hg6)
    refine (xblanks_any hs w6 HB6.out hp2s (HM.out.fr HF6.out hg) hg).mono ?_; rintro e w7 ⟨rfl, hb7, hf7⟩; obtain ⟨p3, hp3⟩ : ∃ p3, p3 = p2 + blankL false (s.data.toList.drop p2) := ⟨_, rfl⟩; rw [← hp3] at hb7; have HP3 := zh hp3; have HB7 := zh hb7; have HF7 := zh (HF6.out.next hf7); have HO7 := zh (hf7.own HO6.out (fun g' hg' => by have h1 := own_base HO6.out g' hg'; have h2 := HGW.out; simp; omega)); clear hb7 hf7 hp3; go_wp2_with fail
    go_roundw
    case rel => exact ⟨p3, A6, c6, toks ++ [⟨kd, x, p, p2, v⟩], by rw [List.length_append]; rfl, by have h1 := blankL_le (s.data.toList.drop p2) false; rw [List.length_drop, HLL.out] at h1; have h2 := HP3.out; omega, by rw [List.length_append]; have h1 := HLEN.out; have h2 := HP3.out; have h3 := HP2.out; simp; omega, zh (by rw [HS.out, HNX.out, ← HP3.out]), HB7, zh (by rw [List.length_append, List.flatMap_append]; exact HO7.out), HF7⟩
    case measure =>
     rw [scI_of HBr.out, scI_of HB7.out]; have h1 := HLEN.out; have h2 := HP3.out; have h3 := HP2.out
     omega
  have q34 : ((s[p].toNat : Int) == 34) = false := u8_lit (n := 34) (by decide) h34; have HRD := zh (show ∀ q, Calls Tryz.prog 38 #[.pointer (some ⟨g, 0, none⟩)] (wr.drewN q) (ReadOut g s p mb (wr.drewN q)) from fun q => xsign_any hs (wr.drewN q) (by exact HBr.out) hlt hpf h34 (by exact HMr.out) hg); clear hpp hpf h34; go_wp2_with fail
  refine (HPT.out _).mono ?_; rintro e w4 ⟨rfl, rfl⟩; go_wp2_with fail
  refine (HRD.out _).mono ?_; rintro e w5 ⟨hf, ⟨er, h1, rfl⟩ | ⟨kd, x, v, n, h1, rfl, hb⟩⟩
  ·have HTB := zh (show scanL s.data.toList = .inl (p, er) by rw [HS.out]; exact scanAt_bad (by rw [HLL.out]; omega) h1)
   have HFX := zh (HFr.out.next (((Fr.refl [g] wr).drewN _).next hf)); clear hf h1; go_wp2
   exact ⟨rfl, HFX.out, .inl ⟨p, er, HTB.out, rfl⟩⟩
  have HLEN := zh (tokenL_len h1); have hnx := scanAt_on (acc := toks) (L := s.data.toList) (p := p) (by rw [HLL.out]; omega) h1; obtain ⟨p2, hp2⟩ : ∃ p2, p2 = p + n := ⟨_, rfl⟩; rw [← hp2] at hnx; have HNX := zh hnx; have HP2 := zh hp2; clear hnx; rw [← hp2] at hb; have hp2s : p2 ≤ s.size := by have h2 := HLEN.out; rw [List.length_drop, HLL.out] at h2; omega
  have HB5 := zh hb; have HF5 := zh (show Fr [g] wr w5 from ((Fr.refl [g] wr).drewN _).next hf); have HO5 := zh (HF5.out.own HO.out (fun g' hg' => by have h1 := own_base HO.out g' hg'; have h2 := HGW.out; simp; omega)); have h5s := HF5.out.size; unfold tokV; clear hf h1 hb hp2 c0 c1 cf cl; obtain ⟨bt, hbt⟩ : ∃ b, b = w5.heap.size := ⟨_, rfl⟩
  go_upto_region 13 with fail
  rw [← hbt]; refine gen_wpT fun V hV => ?_; have HTV := zh (show V.heap[bt]? = some (.cells #[.int .i64 kd, .string x, .int .i64 0, .int .i64 0, .int .i64 v] 65 (0, 0)) by rw [← hV, hbt]; exact heap_new_at _ _ _ rfl); have HBV := zh (show ScB V g s p2 mb by rw [← hV]; exact blk_alloc HB5.out _); have HFV := zh (show Fr [g] wr V by rw [← hV]; exact HF5.out.alloc _); have HOV := zh (show V.ownsRow w.heap.size 65 5 (.slice A toks.length c) toks.length (toks.flatMap tkEnc) by rw [← hV]; exact HO5.out.alloc _); have HBT := zh (show bt ≠ g ∧ w.heap.size ≤ bt ∧ wr.heap.size ≤ bt by have h1 := HB5.out.lt; have h2 := HFr.out.size; exact ⟨by omega, by omega, by omega⟩); have t0 := zc 0 HTV.out rfl; have t1 := zc 1 HTV.out rfl; have t2 := zc 2 HTV.out rfl; have t3 := zc 3 HTV.out rfl; have t4 := zc 4 HTV.out rfl; have tf0 := free_of_blk (i := 0) HTV.out; have tf2 := free_of_blk (i := 2) HTV.out; have tf3 := free_of_blk (i := 3) HTV.out; have tl := blk_lt HTV.out; have c1 := HBV.out.c1; have cl := HBV.out.lt; have ntg := HBT.out.1; clear hV hbt
  go_region
  all_goals
   go_upto_region 14 with fail
   refine gen_wpT fun U hU => ?_; have HTU := zh (show U.heap[bt]? = some (.cells #[.int .i64 kd, .string x, .int .i64 (p : Int), .int .i64 (p2 : Int), .int .i64 v] 65 (0, 0)) by rw [← hU]; first | exact blk_set (i := 3) (blk_set (i := 2) HTV.out _) _ | exact blk_set (i := 2) (blk_set (i := 3) HTV.out _) _); have HBU := zh (show ScB U g s p2 mb by rw [← hU]; first | exact blk_far (a := ⟨bt, 3, none⟩) (blk_far (a := ⟨bt, 2, none⟩) HBV.out HBT.out.1.symm _) HBT.out.1.symm _ | exact blk_far (a := ⟨bt, 2, none⟩) (blk_far (a := ⟨bt, 3, none⟩) HBV.out HBT.out.1.symm _) HBT.out.1.symm _); have HFW := zh (show Fr [g] wr U by rw [← hU]; first | exact ((HFV.out.set (a := ⟨bt, 2, none⟩) _ (.inr HBT.out.2.2)).set (a := ⟨bt, 3, none⟩) _ (.inr HBT.out.2.2)).drew | exact ((HFV.out.set (a := ⟨bt, 3, none⟩) _ (.inr HBT.out.2.2)).set (a := ⟨bt, 2, none⟩) _ (.inr HBT.out.2.2)).drew | exact ((HFV.out.set (a := ⟨bt, 2, none⟩) _ (.inr HBT.out.2.2)).set (a := ⟨bt, 3, none⟩) _ (.inr HBT.out.2.2)) | exact ((HFV.out.set (a := ⟨bt, 3, none⟩) _ (.inr HBT.out.2.2)).set (a := ⟨bt, 2, none⟩) _ (.inr HBT.out.2.2))); have HOU := zh (HFW.out.own HO.out (fun g' hg' => by have h1 := own_base HO.out g' hg'; have h2 := HGW.out; simp; omega)); clear hU t0 t1 t2 t3 t4 tf0 tf2 tf3 tl c1 cl; have u0 := zc 0 HTU.out rfl; have u1 := zc 1 HTU.out rfl; have u2 := zc 2 HTU.out rfl; have u3 := zc 3 HTU.out rfl; have u4 := zc 4 HTU.out rfl; have ul := blk_lt HTU.out; have hUs := HFW.out.size; have hws := HFr.out.size; go_wp2_with (at_builtin; refine wpList_append_own _ rfl _ _ 36 rfl w.heap.size 65 iT _ 5 48 Tryz.underlying36 hiT hT0 hT1 hT2 rfl (by decide) _ _ _ rfl (HOU.out.alloc _) ⟨U.heap.size, 0, none⟩ 1 1 (tkEnc ⟨kd, x, p, p2, v⟩) rfl rfl (World.news_of_block (heap_alloc_new _ _)) (by simp [tkEnc, Value.oneCell']) (by unfold maxLen; omega) (by omega) (by simp; omega) ?_; intro v' w6 hown6 hg6 _; obtain ⟨A6, c6, rfl, _, _, _⟩ := own_form hown6; have HO6 := zh hown6; have HB6 := zh (show ScB w6 g s p2 mb from blk_grown (blk_alloc HBU.out _) hg6 (fun e => by have h1 := own_base HOU.out g e; have h2 := HGW.out; omega)); have HF6 := zh (((HFr.out.next HFW.out).alloc _).grown hg6 (fun gg hgg => .inr (own_base HOU.out gg hgg))); clear hown6 hg6)
   refine (xblanks_any hs w6 HB6.out hp2s (HM.out.fr HF6.out hg) hg).mono ?_; rintro e w7 ⟨rfl, hb7, hf7⟩; obtain ⟨p3, hp3⟩ : ∃ p3, p3 = p2 + blankL false (s.data.toList.drop p2) := ⟨_, rfl⟩; rw [← hp3] at hb7; have HP3 := zh hp3; have HB7 := zh hb7; have HF7 := zh (HF6.out.next hf7); have HO7 := zh (hf7.own HO6.out (fun g' hg' => by have h1 := own_base HO6.out g' hg'; have h2 := HGW.out; simp; omega)); clear hb7 hf7 hp3; go_wp2_with fail
   go_roundw
   case rel => exact ⟨p3, A6, c6, toks ++ [⟨kd, x, p, p2, v⟩], by rw [List.length_append]; rfl, by have h1 := blankL_le (s.data.toList.drop p2) false; rw [List.length_drop, HLL.out] at h1; have h2 := HP3.out; omega, by rw [List.length_append]; have h1 := HLEN.out; have h2 := HP3.out; have h3 := HP2.out; simp; omega, zh (by rw [HS.out, HNX.out, ← HP3.out]), HB7, zh (by rw [List.length_append, List.flatMap_append]; exact HO7.out), HF7⟩
   case measure =>
    rw [scI_of HBr.out, scI_of HB7.out]; have h1 := HLEN.out; have h2 := HP3.out; have h3 := HP2.out
    omega

structure PaK where
 T : List Tok
 A : Option Addr
 c : Nat
 M : Nat
 rb : Nat
 rn : Nat
 D : DataW Unit
def RankOk (D : DataW Unit) : Prop := ∀ s : ByteArray, D.atKey (.string s.data.toList) (.lit (.int .i64 0)) = .lit (.int .i64 (rankL s : Int))
theorem Below.cellAt {w w' : World} {B g i : Nat} (hb : Below B w w') (hg : g < B) : w'.cell? ⟨g, i, none⟩ = w.cell? ⟨g, i, none⟩ := by simp only [World.cell?, hb.block g hg]
theorem tab_low {w w' : World} {B : Nat} (h : Tab w) (hg : 2 < B) (hb : Below B w w') : Tab w' := by
 unfold Tab Lib.TabIs World.var? at h ⊢
 rw [g_pow10] at h ⊢
 simp only [Option.bind_some] at h ⊢
 rw [hb.block _ hg]
 exact h
theorem max_low {w w' : World} {B : Nat} {m : Int} (h : MaxC w m) (hg : 3 < B) (hb : Below B w w') : MaxC w' m := ⟨(Below.cellAt hb hg).trans h.1, Nat.lt_of_lt_of_le h.2 hb.size⟩
structure PaEnv (K : PaK) (w : World) (p : Nat) : Prop where
 tok : TokOk K.T K.M
 len : K.T.length ≤ 200000
 txt : ∀ i, (tk K.T i).text.size ≤ 200000
 toks : Reads w p K.A (K.T.flatMap tkEnc)
 rlt : K.rb < p
 rk : w.ownsMap Tryz.prog 9 (plainElem Tryz.prog 3) K.rb K.rn K.D
 rks : RankOk K.D
 plt : p < w.heap.size
 tab : Tab w
 glt : 2 < p
 max : ∃ m, MaxC w m
 mlt : 3 < p
def natV (k : Nat) : Value := .int .i64 (k : Int)
structure NdM where
 nd : Nd
 A : Option Addr
 c : Nat
def ndEnc (x : NdM) : List Value := [.int .i64 x.nd.kind, .string x.nd.text, .slice x.A x.nd.kids.length x.c, .int .i64 (x.nd.a : Int)]
theorem ndEnc_len (x : NdM) : (ndEnc x).length = 4 := rfl
def NdKid (w : World) (p : Nat) (x : NdM) : Prop := w.ownsRow (p + 1) 3 1 (.slice x.A x.nd.kids.length x.c) x.nd.kids.length (x.nd.kids.map natV)
def PaBlk (K : PaK) (i o : Nat) (nv : Value) (sn : Fin 8 → Bool) : Obj := .cells #[.slice K.A K.T.length K.c, .int .i64 (i : Int), nv, .int .i64 (o : Int), .map (some K.rb), .bool (sn 0), .bool (sn 1), .bool (sn 2), .bool (sn 3), .bool (sn 4), .bool (sn 5), .bool (sn 6), .bool (sn 7)] 47 (0, 0)
structure PaMem (K : PaK) (w : World) (p i o : Nat) (sn : Fin 8 → Bool) (ns : List Nd) (fp : List Nat) (nv : Value) (l : List NdM) : Prop where
 blk : w.heap[p]? = some (PaBlk K i o nv sn)
 own : w.ownsRow (p + 1) 31 4 nv ns.length (l.flatMap ndEnc)
 nds : l.map NdM.nd = ns
 kid : ∀ x ∈ l, NdKid w p x
 fpp : p ∈ fp
 fpo : ∀ g, nv.ownBlock = some g → g ∈ fp
 fpk : ∀ x ∈ l, ∀ g, (Value.slice x.A x.nd.kids.length x.c).ownBlock = some g → g ∈ fp
 fpb : ∀ b ∈ fp, p ≤ b ∧ b < w.heap.size
structure PaAt (K : PaK) (w : World) (p i o : Nat) (sn : Fin 8 → Bool) (ns : List Nd) (fp : List Nat) : Prop where
 env : PaEnv K w p
 mem : ∃ nv l, PaMem K w p i o sn ns fp nv l
structure PaTo (w : World) (fp : List Nat) (w' : World) (fp' : List Nat) : Prop where
 fr : Fr fp w w'
 new : ∀ b ∈ fp', b ∈ fp ∨ w.heap.size ≤ b
theorem PaTo.refl (w : World) (fp : List Nat) : PaTo w fp w fp := ⟨Fr.refl _ _, fun b h => .inl h⟩
theorem PaTo.trans {w w1 w2 : World} {fp fp1 fp2 : List Nat} (h : PaTo w fp w1 fp1) (k : PaTo w1 fp1 w2 fp2) : PaTo w fp w2 fp2 :=
 ⟨h.fr.trans k.fr h.new, fun b hb => (k.new b hb).elim (h.new b) fun h' => .inr (Nat.le_trans h.fr.size h')⟩
section
variable {K : PaK} {w w' : World} {p i o : Nat} {sn : Fin 8 → Bool} {ns : List Nd} {fp fp' : List Nat} {nv : Value} {l : List NdM}
theorem PaEnv.below (h : PaEnv K w p) (hb : Below p w w') : PaEnv K w' p :=
 ⟨h.tok, h.len, h.txt, h.toks.below hb, h.rlt, by
  obtain ⟨es, clock, hh, r⟩ := h.rk; exact ⟨es, clock, (hb.block _ h.rlt).trans hh, r⟩, h.rks, Nat.lt_of_lt_of_le h.plt hb.size, tab_low h.tab h.glt hb, h.glt, by obtain ⟨m, hm⟩ := h.max; exact ⟨m, max_low hm h.mlt hb⟩, h.mlt⟩
theorem PaMem.fr (h : PaMem K w p i o sn ns fp nv l) {S : List Nat} (hf : Fr S w w') (hs : ∀ b ∈ S, b ∉ fp) : PaMem K w' p i o sn ns fp nv l :=
 ⟨hf.blk h.blk fun e => hs _ e h.fpp, hf.own h.own fun g hg e => hs g e (h.fpo g hg), h.nds, fun x hx => hf.own (h.kid x hx) fun g hg e => hs g e (h.fpk x hx g hg), h.fpp, h.fpo, h.fpk, fun b hb => ⟨(h.fpb b hb).1, Nat.lt_of_lt_of_le (h.fpb b hb).2 hf.size⟩⟩
theorem PaAt.fr (h : PaAt K w p i o sn ns fp) {S : List Nat} (hf : Fr S w w') (hs : ∀ b ∈ S, p ≤ b ∧ b ∉ fp) : PaAt K w' p i o sn ns fp := by
 obtain ⟨nv, l, hm⟩ := h.mem
 exact ⟨h.env.below (hf.to_below (Nat.le_of_lt h.env.plt) fun b hb => (hs b hb).1), nv, l, hm.fr hf fun b hb => (hs b hb).2⟩
theorem PaAt.below (h : PaAt K w p i o sn ns fp) (hb : Below w.heap.size w w') : PaAt K w' p i o sn ns fp := h.fr (S := []) (Fr.of_below hb []) (by simp)
theorem PaAt.fpb (h : PaAt K w p i o sn ns fp) : ∀ b ∈ fp, p ≤ b ∧ b < w.heap.size := by obtain ⟨nv, l, hm⟩ := h.mem; exact hm.fpb
theorem PaAt.fpp (h : PaAt K w p i o sn ns fp) : p ∈ fp := by obtain ⟨nv, l, hm⟩ := h.mem; exact hm.fpp
theorem PaAt.lt (h : PaAt K w p i o sn ns fp) : p < w.heap.size := h.env.plt
theorem PaAt.notin (h : PaAt K w p i o sn ns fp) {b : Nat} (hb : w.heap.size ≤ b) : b ∉ fp := fun e => by have := (h.fpb b e).2; omega
def Away (w : World) (p : Nat) (fp : List Nat) (b : Nat) : Prop := p ≤ b ∧ b < w.heap.size ∧ b ∉ fp
theorem Away.to {b : Nat} (h : Away w p fp b) (k : PaTo w fp w' fp') : Away w' p fp' b := ⟨h.1, Nat.lt_of_lt_of_le h.2.1 k.fr.size, fun e => (k.new b e).elim h.2.2 fun h' => by have := h.2.1; omega⟩
theorem Away.new (h : PaAt K w p i o sn ns fp) {b : Nat} (hb : w.heap.size ≤ b) (hb' : b < w'.heap.size) : Away w' p fp b := ⟨by have := h.lt; omega, hb', h.notin hb⟩
theorem Away.on {b : Nat} (h : Away w p fp b) (hs : w.heap.size ≤ w'.heap.size) : Away w' p fp b := ⟨h.1, Nat.lt_of_lt_of_le h.2.1 hs, h.2.2⟩
theorem PaTo.blk (k : PaTo w fp w' fp') {b : Nat} {ob : Obj} (hb : w.heap[b]? = some ob) (h : Away w p fp b) : w'.heap[b]? = some ob := k.fr.blk hb h.2.2
theorem PaTo.below (k : PaTo w fp w' fp') (h : PaAt K w p i o sn ns fp) : Below p w w' := k.fr.to_below (Nat.le_of_lt h.lt) fun b hb => (h.fpb b hb).1
end
structure Ints (w : World) (p : Nat) (fp : List Nat) (v : Value) (l : List Nat) : Prop where
 own : w.ownsRow (p + 1) 3 1 v l.length (l.map natV)
 away : ∀ g, v.ownBlock = some g → Away w p fp g
 nil_ : l = [] → v = .slice none 0 0
theorem Ints.nil (w : World) (p : Nat) (fp : List Nat) : Ints w p fp (.slice none 0 0) [] := ⟨World.ownsRow_nil _ _ _ _, fun g hg => by simp [Value.ownBlock] at hg, fun _ => rfl⟩
theorem Ints.to {w w' : World} {p : Nat} {fp fp' : List Nat} {v : Value} {l : List Nat} (h : Ints w p fp v l) (k : PaTo w fp w' fp') : Ints w' p fp' v l :=
 ⟨k.fr.own h.own fun g hg => (h.away g hg).2.2, fun g hg => (h.away g hg).to k, h.nil_⟩
def wrongP (a e : Nat) : List PanicEntry := [{ v := .iface 40 (.agg #[.int .i64 (a : Int), .int .i64 (e : Int)]), recovered := false }]
def OutP (K : PaK) (w : World) (p o : Nat) (sn : Fin 8 → Bool) (ns : List Nd) (fp : List Nat) : Res PT → Ending → World → Prop
 | .bad a e => fun en w' => en = .panicked (wrongP a e) ∧ Below p w w'
 | .ok t j => fun en w' => en = .returned (natV (ns.length + ptS t - 1)) ∧ ∃ fp', PaAt K w' p j o sn (ns ++ flat ns.length t) fp' ∧ PaTo w fp w' fp'
def OutL (K : PaK) (w : World) (p o : Nat) (sn : Fin 8 → Bool) (ns : List Nd) (fp : List Nat) : Res (List PT) → Ending → World → Prop
 | .bad a e => fun en w' => en = .panicked (wrongP a e) ∧ Below p w w'
 | .ok l j => fun en w' => ∃ v fp', en = .returned v ∧ PaAt K w' p j o sn (ns ++ flats ns.length l) fp' ∧ PaTo w fp w' fp' ∧ Ints w' p fp' v (roots ns.length l) ∧ ∀ g, v.ownBlock = some g → w.heap.size ≤ g
def Room (K : PaK) (i : Nat) (ns : List Nd) : Prop := i < K.T.length ∧ ns.length + 4 * (K.T.length - i) ≤ 900000

structure NodesR (w : World) (B : Nat) (A : Option Addr) (l : List NdM) : Prop where
 rd : Reads w B A (l.flatMap ndEnc)
 kd : ∀ x ∈ l, Reads w B x.A (x.nd.kids.map natV)
 lo : B ≤ w.heap.size
 kc : ∀ x ∈ l, x.nd.kids.length ≤ x.c
section
variable {w w' : World} {B : Nat} {A : Option Addr} {l : List NdM}
theorem NodesR.below (h : NodesR w B A l) (hb : Below B w w') : NodesR w' B A l := ⟨h.rd.below hb, fun x hx => (h.kd x hx).below hb, Nat.le_trans h.lo hb.size, h.kc⟩
theorem NodesR.ad (h : NodesR w B A l) {k : Nat} {x : NdM} (hx : l[k]? = some x) : ∃ ad, A = some ad ∧ ad.block < B := by
 obtain ⟨ad, h1, h2, _⟩ := h.rd.at (flatMap_ne (K := 4) ndEnc_len (by omega) hx)
 exact ⟨ad, h1, h2⟩
theorem NodesR.node (h : NodesR w B A l) {ad : Addr} (hA : A = some ad) {k : Nat} {x : NdM} (hx : l[k]? = some x) :
  w.cell? (ad.add (k * 4)) = some (.int .i64 x.nd.kind) ∧ w.cell? ⟨(ad.add (k * 4)).block, (ad.add (k * 4)).off + 1, none⟩ = some (.string x.nd.text) ∧ w.cell? ⟨(ad.add (k * 4)).block, (ad.add (k * 4)).off + 2, none⟩ = some (.slice x.A x.nd.kids.length x.c) ∧
   w.cell? ⟨(ad.add (k * 4)).block, (ad.add (k * 4)).off + 3, none⟩ = some (.int .i64 (x.nd.a : Int)) ∧ (ad.add (k * 4)).block < w.heap.size := by
 obtain ⟨ad', hA', hab, hcell⟩ := h.rd.at (flatMap_ne (K := 4) ndEnc_len (by omega) hx)
 rw [hA] at hA'
 obtain rfl := Option.some.inj hA'
 exact ⟨elem_zero (K := 4) ndEnc_len hcell hx (by omega) rfl, elem_at (K := 4) ndEnc_len hcell hx 1 (by omega) (by omega) rfl, elem_at (K := 4) ndEnc_len hcell hx 2 (by omega) (by omega) rfl, elem_at (K := 4) ndEnc_len hcell hx 3 (by omega) (by omega) rfl, by rw [block_add']; have := h.lo; omega⟩
theorem NodesR.kid (h : NodesR w B A l) {x : NdM} (hm : x ∈ l) {j q : Nat} (hj : x.nd.kids[j]? = some q) : ∃ ad, x.A = some ad ∧ w.cell? (ad.add j) = some (.int .i64 (q : Int)) ∧ (ad.add j).block < w.heap.size := by
 have hq : (x.nd.kids.map natV)[j]? = some (natV q) := by rw [List.getElem?_map, hj]; rfl
 obtain ⟨ad, h1, h2, h3⟩ := (h.kd x hm).at (fun e => by rw [e] at hq; simp at hq)
 exact ⟨ad, h1, h3 j _ hq, by rw [block_add']; have := h.lo; omega⟩
end
theorem below_dN {w w' : World} {B : Nat} (h : Below B w w') (n : Nat) : Below B w (w'.drewN n) := ⟨h.os, h.tape, h.output, h.size, h.block⟩

theorem rowK_get : ∀ {a : List Let} {l : List Int}, rowK a l → l.length = a.length ∧ ∀ (i : Nat) (n : Int), l[i]? = some n → ∃ L, a[i]? = some L ∧ isK n L
 | [], l, h => by
  have h : l = [] := h; subst h; exact ⟨rfl, fun i n hn => by simp at hn⟩
 | x :: r, [], h => h.elim
 | x :: r, k :: m, h => by
  obtain ⟨h1, h2⟩ : isK k x ∧ rowK r m := h; obtain ⟨h3, h4⟩ := rowK_get h2; refine ⟨by rw [List.length_cons, List.length_cons, h3], fun i n hn => ?_⟩
  cases i with
  | zero =>
   have : k = n := by simpa using hn
   subst this; exact ⟨x, rfl, h1⟩
  | succ i => exact h4 i n (by simpa using hn)
theorem kids_at {a b : List Let} {o : Option Let} {A M B : List Int} (ha : rowK a A) (hb : rowK b B) (hm : ∀ x ∈ M, ∃ y, o = some y ∧ isK x y) {i : Nat} {n : Int} (hn : (A ++ M ++ B)[i]? = some n) :
  (i < a.length ∧ ∃ L, a[i]? = some L ∧ isK n L) ∨ (a.length ≤ i ∧ i < a.length + M.length ∧ ∃ L, o = some L ∧ isK n L) ∨ (a.length + M.length ≤ i ∧ ∃ L, b[i - a.length - M.length]? = some L ∧ isK n L) := by
 obtain ⟨h1, h2⟩ := rowK_get ha
 obtain ⟨h3, h4⟩ := rowK_get hb
 rcases Nat.lt_or_ge i A.length with hi | hi
 ·rw [List.append_assoc, List.getElem?_append_left hi] at hn
  exact .inl ⟨by omega, h2 i n hn⟩
 ·rw [List.append_assoc, List.getElem?_append_right hi] at hn
  rcases Nat.lt_or_ge (i - A.length) M.length with hj | hj
  ·rw [List.getElem?_append_left hj] at hn
   obtain ⟨L, e1, e2⟩ := hm n (List.mem_of_getElem? hn); exact .inr (.inl ⟨by omega, by omega, L, e1, e2⟩)
  ·rw [List.getElem?_append_right hj, h1] at hn
   exact .inr (.inr ⟨by omega, h4 _ n hn⟩)
theorem letsB_at {a : List Let} {i : Nat} {L : Let} (h : a[i]? = some L) : ∃ hi : i < (letsB a).size, (letsB a)[i] = letB L := by
 have hl : (letsB a).size = a.length := by unfold letsB; simp [ByteArray.size]
 have hi : i < (letsB a).size := by rw [hl]; exact (List.getElem?_eq_some_iff.1 h).1
 refine ⟨hi, ?_⟩
 have h2 : (letsB a).data.toList[i]? = some (letB L) := by
  unfold letsB; rw [List.getElem?_map, h]; rfl
 have h3 : (letsB a).data.toList[i]? = some (letsB a)[i] := by
  rw [Array.getElem?_toList]; exact Array.getElem?_eq_getElem hi
 rw [h3] at h2
 exact Option.some.inj h2
theorem kids_any {w : World} {k : Int} {l : List Int} {A : Option Addr} {c : Nat} (hk : 1 ≤ k ∧ k ≤ 36) (h : KidsK k l) (hn : l.length ≤ 50000) (hr : Reads w w.heap.size A (l.map fun n => .int .i64 n)) :
  Calls Tryz.prog 12 #[.int .i64 k, .slice A l.length c] w (RetB (.bool true) w) := by
 obtain ⟨LA, LM, LB, hl, ha, hb, hm⟩ := h
 have HSH := zh (pc_shape k hk w)
 obtain ⟨fa, hfa⟩ : ∃ f, f = (formK k).1 := ⟨_, rfl⟩
 obtain ⟨fo, hfo⟩ : ∃ f, f = (formK k).2.1 := ⟨_, rfl⟩
 obtain ⟨fb, hfb⟩ : ∃ f, f = (formK k).2.2 := ⟨_, rfl⟩
 rw [← hfa, ← hfo, ← hfb] at HSH
 rw [← hfa] at ha
 rw [← hfb] at hb
 simp only [← hfo] at hm
 clear hfa hfo hfb
 obtain ⟨sa, hsa⟩ : ∃ s, s = letsB fa := ⟨_, rfl⟩
 obtain ⟨so, hso⟩ : ∃ s, s = optB fo := ⟨_, rfl⟩
 obtain ⟨sb, hsb⟩ : ∃ s, s = letsB fb := ⟨_, rfl⟩
 rw [← hsa, ← hso, ← hsb] at HSH
 have hza : sa.size = fa.length := by rw [hsa]; unfold letsB; simp [ByteArray.size]
 have hzb : sb.size = fb.length := by rw [hsb]; unfold letsB; simp [ByteArray.size]
 have hra := (rowK_get ha).1
 have hrb := (rowK_get hb).1
 obtain ⟨N, hN⟩ : ∃ N, N = l.length := ⟨_, rfl⟩
 rw [← hN] at hn ⊢
 have hN2 : N = fa.length + LM.length + fb.length := by rw [hN, hl, List.length_append, List.length_append, hra, hrb]
 obtain ⟨nm, hnm⟩ : ∃ n, n = LM.length := ⟨_, rfl⟩
 obtain ⟨r1, hr1⟩ : ∃ n, n = N - fa.length := ⟨_, rfl⟩
 have e1 : (N : Int) - (sa.size : Int) = (r1 : Int) := by omega
 have e2 : IntKind.i64.wrap (r1 : Int) = (r1 : Int) := IntWalk.i64_in _ (by omega)
 have e3 : (r1 : Int) - (sb.size : Int) = (nm : Int) := by omega
 have e4 : IntKind.i64.wrap (nm : Int) = (nm : Int) := IntWalk.i64_in _ (by omega)
 have e5 : ¬ (nm : Int) < 0 := by omega
 have HZ := zh (show sa.size = fa.length ∧ sb.size = fb.length ∧ nm = LM.length ∧ N = fa.length + nm + fb.length ∧ N = l.length by omega)
 have HS := zh (And.intro hsa (And.intro hso hsb))
 have HA := zh (And.intro ha (And.intro hb hm))
 have HL := zh hl
 have HR := zh hr
 have HN5 := zh hn
 have hoc : (0 : Int) < (nm : Int) → (so.toList == []) = false := fun h0 => by
  cases LM with
  | nil => simp at hnm; omega
  | cons x r =>
   obtain ⟨y, hy, _⟩ := hm x (by simp); rw [hso, hy]; unfold optB; rw [ByteArray.toList_eq]
   rfl
 clear hk hl ha hb hm hsa hso hsb hza hzb hra hrb hN hN2 hnm hr1 hr hn
 go_enter Tryz.func12, Tryz.ntmps12
 go_wp2_with fail
 refine HSH.out.mono ?_
 rintro e w1 ⟨rfl, hb1⟩
 have HB1 := zh hb1
 clear hb1
 by_cases h0 : (0 : Int) < (nm : Int)
 ·have h0' := hoc h0
  go_wp2_with fail
  clear h0 h0' hoc e1 e2 e3 e4 e5
  go_loopw [10] (fun iv wr => ∃ i : Nat, i ≤ N ∧ iv = .int .i64 (i : Int) ∧ Hid (Below w.heap.size w wr)) (fun iv _ => N - (intOf iv).toNat)
  case atStart => exact ⟨0, Nat.zero_le _, rfl, HB1⟩
  case round =>
   obtain ⟨i, hiN, rfl, HB⟩ := hrel; have hN5 := HN5.out; by_cases hlt : i < N
   ·obtain ⟨n, hn⟩ : ∃ n, l[i]? = some n := ⟨_, List.getElem?_eq_getElem (by rw [← HZ.out.2.2.2.2]; exact hlt)⟩
    obtain ⟨ad, hA, had, hcell⟩ := (HR.out.below HB.out).at (by intro e; have := congrArg List.length e; rw [List.length_map] at this; simp at this; rw [this] at hn; simp at hn); have z0 := hcell i _ (by rw [List.getElem?_map, hn]; rfl); have zl : (ad.add i).block < wr.heap.size := by rw [block_add']; have := HB.out.size; omega
    have hlet := kids_at HA.out.1 HA.out.2.1 HA.out.2.2 (by rw [← HL.out]; exact hn); have hiI : (i : Int) < (N : Int) := by omega
    have hi0 : (0 : Int) ≤ (i : Int) := by omega
    have hz := HZ.out; subst hA; clear hcell had hn
    rcases hlet with ⟨h1, L, h2, h3⟩ | ⟨h1, h1b, L, h2, h3⟩ | ⟨h1, L, h2, h3⟩
    ·have q1 : (i : Int) < (sa.size : Int) := by omega
     obtain ⟨hi', hv⟩ : ∃ hi : i < sa.size, sa[i] = letB L := by rw [HS.out.1]; exact letsB_at h2
     have HIS := zh (fun w => pc_is n L h3 w); clear h1 h2 h3 hz; go_wp2_with fail
     refine (show Calls Tryz.prog 26 #[.int .i64 n, .int .u8 ((letB L).toNat : Int)] wr _ from HIS.out wr).mono ?_; rintro e w2 ⟨rfl, hb2⟩; have HB2 := zh (HB.out.trans (hb2.mono HB.out.size)); clear hb2; go_wp2_with fail
     go_roundw
     case rel => exact ⟨i + 1, by omega, by go_num, HB2⟩
     case measure => simp [intOf]; omega
    ·have q1 : ¬ (i : Int) < (sa.size : Int) := by omega
     obtain ⟨j, hj⟩ : ∃ j, j = sa.size + nm := ⟨_, rfl⟩; have q2 : (sa.size : Int) + (nm : Int) = (j : Int) := by omega
     have q3 : IntKind.i64.wrap (j : Int) = (j : Int) := IntWalk.i64_in _ (by omega); have q4 : (i : Int) < (j : Int) := by omega
     have HIS := zh (fun w => pc_is n L h3 w); have hso : so = ⟨#[letB L]⟩ := by rw [HS.out.2.1, h2]; rfl
     subst hso; clear h1 h1b h2 h3 hz hj; go_wp2_with fail
     refine (show Calls Tryz.prog 26 #[.int .i64 n, .int .u8 ((letB L).toNat : Int)] wr _ from HIS.out wr).mono ?_; rintro e w2 ⟨rfl, hb2⟩; have HB2 := zh (HB.out.trans (hb2.mono HB.out.size)); clear hb2; go_wp2_with fail
     go_roundw
     case rel => exact ⟨i + 1, by omega, by go_num, HB2⟩
     case measure => simp [intOf]; omega
    ·have q1 : ¬ (i : Int) < (sa.size : Int) := by omega
     obtain ⟨j, hj⟩ : ∃ j, j = sa.size + nm := ⟨_, rfl⟩; have q2 : (sa.size : Int) + (nm : Int) = (j : Int) := by omega
     have q3 : IntKind.i64.wrap (j : Int) = (j : Int) := IntWalk.i64_in _ (by omega); have q4 : ¬ (i : Int) < (j : Int) := by omega
     obtain ⟨j1, hj1⟩ : ∃ j1, j1 = i - fa.length := ⟨_, rfl⟩; obtain ⟨j2, hj2⟩ : ∃ j2, j2 = i - fa.length - LM.length := ⟨_, rfl⟩; have q5 : (i : Int) - (sa.size : Int) = (j1 : Int) := by omega
     have q6 : IntKind.i64.wrap (j1 : Int) = (j1 : Int) := IntWalk.i64_in _ (by omega); have q7 : (j1 : Int) - (nm : Int) = (j2 : Int) := by omega
     have q8 : IntKind.i64.wrap (j2 : Int) = (j2 : Int) := IntWalk.i64_in _ (by omega); have HIS := zh (fun w => pc_is n L h3 w); rw [← hj2] at h2; obtain ⟨hi', hv⟩ : ∃ hi : j2 < sb.size, sb[j2] = letB L := by rw [HS.out.2.2]; exact letsB_at h2
     have q9 : (j2 : Int) < (sb.size : Int) := by omega
     have q0 : (0 : Int) ≤ (j2 : Int) := by omega
     clear h1 h2 h3 hz hj hj1 hj2; go_wp2_with fail
     refine (show Calls Tryz.prog 26 #[.int .i64 n, .int .u8 ((letB L).toNat : Int)] wr _ from HIS.out wr).mono ?_; rintro e w2 ⟨rfl, hb2⟩; have HB2 := zh (HB.out.trans (hb2.mono HB.out.size)); clear hb2; go_wp2_with fail
     go_roundw
     case rel => exact ⟨i + 1, by omega, by go_num, HB2⟩
     case measure => simp [intOf]; omega
   ·obtain rfl : i = N := by omega
    have hq : ¬ (i : Int) < (i : Int) := by omega
    go_wp2
    go_ret
    exact ⟨rfl, HB.out⟩
 ·go_wp2_with fail
  clear h0 hoc e1 e2 e3 e4 e5
  go_loopw [10] (fun iv wr => ∃ i : Nat, i ≤ N ∧ iv = .int .i64 (i : Int) ∧ Hid (Below w.heap.size w wr)) (fun iv _ => N - (intOf iv).toNat)
  case atStart => exact ⟨0, Nat.zero_le _, rfl, HB1⟩
  case round =>
   obtain ⟨i, hiN, rfl, HB⟩ := hrel; have hN5 := HN5.out; by_cases hlt : i < N
   ·obtain ⟨n, hn⟩ : ∃ n, l[i]? = some n := ⟨_, List.getElem?_eq_getElem (by rw [← HZ.out.2.2.2.2]; exact hlt)⟩
    obtain ⟨ad, hA, had, hcell⟩ := (HR.out.below HB.out).at (by intro e; have := congrArg List.length e; rw [List.length_map] at this; simp at this; rw [this] at hn; simp at hn); have z0 := hcell i _ (by rw [List.getElem?_map, hn]; rfl); have zl : (ad.add i).block < wr.heap.size := by rw [block_add']; have := HB.out.size; omega
    have hlet := kids_at HA.out.1 HA.out.2.1 HA.out.2.2 (by rw [← HL.out]; exact hn); have hiI : (i : Int) < (N : Int) := by omega
    have hi0 : (0 : Int) ≤ (i : Int) := by omega
    have hz := HZ.out; subst hA; clear hcell had hn
    rcases hlet with ⟨h1, L, h2, h3⟩ | ⟨h1, h1b, L, h2, h3⟩ | ⟨h1, L, h2, h3⟩
    ·have q1 : (i : Int) < (sa.size : Int) := by omega
     obtain ⟨hi', hv⟩ : ∃ hi : i < sa.size, sa[i] = letB L := by rw [HS.out.1]; exact letsB_at h2
     have HIS := zh (fun w => pc_is n L h3 w); clear h1 h2 h3 hz; go_wp2_with fail
     refine (show Calls Tryz.prog 26 #[.int .i64 n, .int .u8 ((letB L).toNat : Int)] wr _ from HIS.out wr).mono ?_; rintro e w2 ⟨rfl, hb2⟩; have HB2 := zh (HB.out.trans (hb2.mono HB.out.size)); clear hb2; go_wp2_with fail
     go_roundw
     case rel => exact ⟨i + 1, by omega, by go_num, HB2⟩
     case measure => simp [intOf]; omega
    ·have q1 : ¬ (i : Int) < (sa.size : Int) := by omega
     obtain ⟨j, hj⟩ : ∃ j, j = sa.size + nm := ⟨_, rfl⟩; have q2 : (sa.size : Int) + (nm : Int) = (j : Int) := by omega
     have q3 : IntKind.i64.wrap (j : Int) = (j : Int) := IntWalk.i64_in _ (by omega); have q4 : (i : Int) < (j : Int) := by omega
     have HIS := zh (fun w => pc_is n L h3 w); have hso : so = ⟨#[letB L]⟩ := by rw [HS.out.2.1, h2]; rfl
     subst hso; clear h1 h1b h2 h3 hz hj; go_wp2_with fail
     refine (show Calls Tryz.prog 26 #[.int .i64 n, .int .u8 ((letB L).toNat : Int)] wr _ from HIS.out wr).mono ?_; rintro e w2 ⟨rfl, hb2⟩; have HB2 := zh (HB.out.trans (hb2.mono HB.out.size)); clear hb2; go_wp2_with fail
     go_roundw
     case rel => exact ⟨i + 1, by omega, by go_num, HB2⟩
     case measure => simp [intOf]; omega
    ·have q1 : ¬ (i : Int) < (sa.size : Int) := by omega
     obtain ⟨j, hj⟩ : ∃ j, j = sa.size + nm := ⟨_, rfl⟩; have q2 : (sa.size : Int) + (nm : Int) = (j : Int) := by omega
     have q3 : IntKind.i64.wrap (j : Int) = (j : Int) := IntWalk.i64_in _ (by omega); have q4 : ¬ (i : Int) < (j : Int) := by omega
     obtain ⟨j1, hj1⟩ : ∃ j1, j1 = i - fa.length := ⟨_, rfl⟩; obtain ⟨j2, hj2⟩ : ∃ j2, j2 = i - fa.length - LM.length := ⟨_, rfl⟩; have q5 : (i : Int) - (sa.size : Int) = (j1 : Int) := by omega
     have q6 : IntKind.i64.wrap (j1 : Int) = (j1 : Int) := IntWalk.i64_in _ (by omega); have q7 : (j1 : Int) - (nm : Int) = (j2 : Int) := by omega
     have q8 : IntKind.i64.wrap (j2 : Int) = (j2 : Int) := IntWalk.i64_in _ (by omega); have HIS := zh (fun w => pc_is n L h3 w); rw [← hj2] at h2; obtain ⟨hi', hv⟩ : ∃ hi : j2 < sb.size, sb[j2] = letB L := by rw [HS.out.2.2]; exact letsB_at h2
     have q9 : (j2 : Int) < (sb.size : Int) := by omega
     have q0 : (0 : Int) ≤ (j2 : Int) := by omega
     clear h1 h2 h3 hz hj hj1 hj2; go_wp2_with fail
     refine (show Calls Tryz.prog 26 #[.int .i64 n, .int .u8 ((letB L).toNat : Int)] wr _ from HIS.out wr).mono ?_; rintro e w2 ⟨rfl, hb2⟩; have HB2 := zh (HB.out.trans (hb2.mono HB.out.size)); clear hb2; go_wp2_with fail
     go_roundw
     case rel => exact ⟨i + 1, by omega, by go_num, HB2⟩
     case measure => simp [intOf]; omega
   ·obtain rfl : i = N := by omega
    have hq : ¬ (i : Int) < (i : Int) := by omega
    go_wp2
    go_ret
    exact ⟨rfl, HB.out⟩
end Go.Proofs.YthobobmbileekaaGreatDoor
namespace Go.Proofs.YthobobmbileekaaGreatDoor
open Go.ChangeShapes Go.WideShapes Go.ChangeAt Go.RowKit Go.ChangeMaps

theorem digit_byte {d : Nat} (h : d < 10) : (UInt8.ofNat (48 + d)).toNat = 48 + d := by
 rw [UInt8.toNat_ofNat']
 exact Nat.mod_eq_of_lt (by omega)
theorem digit_hexV {d : Nat} (h : d < 10) : hexV (48 + d) = d := by
 unfold hexV
 rw [if_pos (by omega)]
 omega
theorem decGo_append (l : List UInt8) (c : UInt8) : ∀ n, decGo (l ++ [c]) n = (decGo l n).bind fun m => decGo [c] m := by
 induction l with
 | nil => intro n; rfl
 | cons x l ih =>
  intro n; rw [List.cons_append, decGo, decGo]
  split
  ·exact ih _
  ·rfl
theorem decGo_digits (u : Nat) (h : u ≤ 9223372036854775807) : decGo (Lib.decDigits u) 0 = some u := by
 induction u using Nat.strongRecOn with
 | _ u ih =>
  rw [Lib.decDigits]; by_cases hu : u < 10
  ·rw [dif_pos hu, decGo, digit_byte hu, digit_hexV hu, if_pos (by omega), decGo, Nat.mul_zero, Nat.zero_add]
  ·have hm : u % 10 < 10 := Nat.mod_lt _ (by omega)
   rw [dif_neg hu, decGo_append, ih (u / 10) (by omega) (by omega), Option.bind_some, decGo, digit_byte hm, digit_hexV hm, if_pos (by omega), decGo]
   congr 1
   omega
theorem digits_le (u : Nat) : ∀ c ∈ Lib.decDigits u, c.toNat ≤ 57 := by
 induction u using Nat.strongRecOn with
 | _ u ih =>
  rw [Lib.decDigits]; by_cases hu : u < 10
  ·rw [dif_pos hu]
   intro c hc; obtain rfl := List.mem_singleton.1 hc; rw [digit_byte hu]
   omega
  ·have hm : u % 10 < 10 := Nat.mod_lt _ (by omega)
   rw [dif_neg hu]; intro c hc
   rcases List.mem_append.1 hc with h | h
   ·exact ih (u / 10) (by omega) c h
   ·obtain rfl := List.mem_singleton.1 h
    rw [digit_byte hm]
    omega
theorem itoa_le (n : Int) : ∀ c ∈ Lib.itoa n, c.toNat ≤ 57 := by
 intro c hc
 unfold Lib.itoa at hc
 split at hc
 ·rcases List.mem_cons.1 hc with h | h
  ·subst h; decide
  ·exact digits_le _ c h
 ·exact digits_le _ c hc
theorem digits_ne (u : Nat) : Lib.decDigits u ≠ [] := by
 rw [Lib.decDigits]
 split <;> simp
theorem text_data (n : Int) : (numText n).data.toList = Lib.itoa n := rfl
theorem text_nohex (n : Int) : isHexB (numText n) = false := by
 unfold isHexB
 rw [Bool.and_eq_false_iff]
 right
 rw [Lib.extract_toList, text_data]
 rw [beq_eq_false_iff_ne]
 intro h
 have hm : (120 : UInt8) ∈ Lib.itoa n := by
  have h1 : (120 : UInt8) ∈ List.take (2 - 0) (List.drop 0 (Lib.itoa n)) := by rw [h]; decide
  exact List.mem_of_mem_drop (List.mem_of_mem_take h1)
 have := itoa_le n 120 hm
 revert this
 decide
theorem text_size (n : Int) : (numText n).size = (Lib.itoa n).length := by
 rw [← text_data]
 simp
theorem itoa_ne (n : Int) : Lib.itoa n ≠ [] := by
 unfold Lib.itoa
 split
 ·simp
 ·exact digits_ne _
theorem text_back (n : Int) (n0 : -9223372036854775808 ≤ n) (n1 : n ≤ 9223372036854775807) : numS (numText n) = if 0 ≤ n then some n else none := by
 unfold numS
 rw [text_nohex, text_data]
 have hz : ¬ (numText n).size = 0 := by
  rw [text_size]; exact fun h => itoa_ne n (List.eq_nil_of_length_eq_zero h)
 rw [if_neg (by decide), if_neg hz]
 unfold Lib.itoa
 by_cases h : n < 0
 ·rw [if_pos h, if_neg (by omega), decGo_bad (by decide)]
  rfl
 ·rw [if_neg h, if_pos (by omega), decGo_digits _ (by omega), Option.map_some, wrap_in (by omega) (by omega)]
  congr 1
  omega
theorem numText_size (n : Int) (h0 : -9223372036854775808 ≤ n) (h1 : n ≤ 9223372036854775807) : (numText n).size ≤ 21 := by
 have := Lib.itoa_length_le n h0 h1
 simpa [numText, ByteArray.size] using this
end Go.Proofs.YthobobmbileekaaGreatDoor
