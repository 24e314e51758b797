/-
  All of a text's tokens: the program.
-/
import Derived.Test.YtmjkelmlbihkpaaDoorLexT
import Derived.Test.YtmjkelmlbihkpaaDoorLexW
import Derived.Test.YtmjkelmlbihkpaaDoorLexS
import Derived.Deep.AppendLies
set_option linter.unusedVariables false
set_option linter.unusedSimpArgs false
namespace Go.Proofs.YtmjkelmlbihkpaaDoor
open Go.ChangeShapes Go.WideShapes Go.ChangeAt Go.RowKit

theorem infoTok : (Tryd.prog.info? 33).map (fun i => (i.zero, i.size, i.bytes)) = some (some (.agg #[.int .i64 0, .string ByteArray.empty, .int .i64 0, .int .i64 0, .int .i64 0]), 5, 48) := by kernel_rfl
def tkEnc (t : Tok) : List Value := [.int .i64 t.kind, .string t.text, .int .i64 (t.a : Int), .int .i64 (t.z : Int), .int .i64 t.n]
theorem tkEnc_len (t : Tok) : (tkEnc t).length = 5 := rfl
theorem own_readsX {w : World} {base : Nat} {e : TypeId} {sz n c : Nat} {A : Option Addr} {xs : List Value} (h : w.ownsRow base e sz (.slice A n c) n xs) : Reads w w.heap.size A xs ∧ n ≤ c := by
  obtain ⟨A', c', hv, h1, _, h3⟩ := own_form h
  injection hv with e1 e2 e3
  subst e1 e3
  refine ⟨?_, h1⟩
  rcases Nat.eq_zero_or_pos n with h0 | h0
  · subst h0
    have := h.1
    exact .inl (List.eq_nil_of_length_eq_zero (by omega))
  · obtain ⟨gb, h4, h5, h6, _, h7⟩ := h3 h0
    subst h4
    exact .inr ⟨⟨gb, 0, none⟩, rfl, h6, fun j u hu => by rw [add_lit0]; exact h7 j u hu⟩
/-- What is left of all tokens. -/
def AllOut (L : List UInt8) (w : World) (e : Ending) (w' : World) : Prop :=
  (∃ p er : Nat, scanL L = .inl (p, er) ∧ e = .panicked (wrongX p er)) ∨
  (∃ (toks : List Tok) (A : Option Addr) (c : Nat), scanL L = .inr toks ∧ e = .returned (.slice A toks.length c) ∧ w'.ownsRow w.heap.size 33 5 (.slice A toks.length c) toks.length (toks.flatMap tkEnc) ∧ toks.length ≤ L.length + 1)
set_option maxRecDepth 100000 in
set_option maxHeartbeats 64000000 in
theorem xall_any {g mb nb : Nat} {D : DataW Unit} {s : ByteArray} {m : Int} (hs : s.size ≤ 1000000) (w : World) (h : ScB w g s 0 mb) (hM : w.ownsMap Tryd.prog 9 (plainElem Tryd.prog 3) mb nb D) (hD : WMap D wordsL) (hmg : mb ≠ g) (hm : MaxC w m) (hg : g ≠ 1) :
    Calls Tryd.prog 21 #[.pointer (some ⟨g, 0, none⟩)] w (fun e w' => Fr [g] w w' ∧ AllOut s.data.toList w e w') := by
  have hmf : ∀ (fn : Fn) (first cap : Array Value) (w : World), (Instr.makeFunc fn first cap).run Tryd.prog w = .ok (.func fn first cap) w := fun _ _ _ _ => rfl
  obtain ⟨iT, hiT, hT0, hT1, hT2⟩ := info_parts infoTok
  have hll : s.data.toList.length = s.size := by simp
  have HLL := Lib.hid hll
  have H := Lib.hid h
  have HM := Lib.hid hm
  have HMM := Lib.hid (show w.ownsMap Tryd.prog 9 (plainElem Tryd.prog 3) mb nb D ∧ WMap D wordsL from ⟨hM, hD⟩)
  have HGW := Lib.hid (show g < w.heap.size from h.lt)
  clear h hm hM hD hll
  go_enter Tryd.func21, Tryd.ntmps21
  go_wp2_with fail
  refine (xblanks_any hs w H.out (Nat.zero_le _) HM.out hg).mono ?_
  rintro e w1 ⟨rfl, hb1, hf1⟩
  have HB1 := Lib.hid hb1
  have HF1 := Lib.hid hf1
  clear hb1 hf1
  go_wp2_with fail
  go_loopw [3] (fun lv wr => ∃ (p : Nat) (A : Option Addr) (c : Nat) (toks : List Tok), lv = .slice A toks.length c ∧ p ≤ s.size ∧ toks.length ≤ p ∧ Hid (scanL s.data.toList = scanAt s.data.toList p toks) ∧ Hid (ScB wr g s p mb) ∧ Hid (wr.ownsRow w.heap.size 33 5 (.slice A toks.length c) toks.length (toks.flatMap tkEnc)) ∧ Hid (Fr [g] w wr)) (fun _ wr => s.size - scI wr g)
  case atStart => exact ⟨0 + blankL false (s.data.toList.drop 0), none, 0, [], rfl, by have h1 := blankL_le (s.data.toList.drop 0) false; rw [List.length_drop, HLL.out] at h1; omega, Nat.zero_le _, Lib.hid (by rw [Nat.zero_add, List.drop_zero]; rfl), HB1, Lib.hid (World.ownsRow_nil _ _ _ _), HF1⟩
  case round =>
    obtain ⟨p, A, c, toks, rfl, hps, htp, HS, HBr, HO, HFr⟩ := hrel
    have c0 := HBr.out.c0
    have c1 := HBr.out.c1
    have cf := HBr.out.fr
    have cl := HBr.out.lt
    have hp0 : (0 : Int) ≤ p := by omega
    by_cases hlt : p < s.size
    case neg =>
      obtain rfl : p = s.size := by omega
      have hkk : ¬ (s.size : Int) < (s.size : Int) := by omega
      have HEND := Lib.hid (show scanL s.data.toList = .inr (toks ++ [⟨0, ⟨#[]⟩, s.size, s.size, 0⟩]) by rw [HS.out]; exact scanAt_end (by rw [HLL.out]; exact Nat.le_refl _))
      have hws := HFr.out.size
      go_wp2_with fail
      go_quiet (fail)
      go_wp2_with fail
      refine gen_wpT fun V hV => ?_
      have HBV := Lib.hid (show ScB V g s s.size mb by rw [← hV]; exact HBr.out)
      have HOV := Lib.hid (show V.ownsRow w.heap.size 33 5 (.slice A toks.length c) toks.length (toks.flatMap tkEnc) by rw [← hV]; exact HO.out)
      have HFV := Lib.hid (show Fr [g] w V by rw [← hV]; exact HFr.out.drewN _)
      have hVs := HFV.out.size
      clear hV c0 c1 cf cl
      refine wp_region_held_drew (S := fun w' => ScB w' g s s.size mb) (by kernel_rfl) (HBV.out) (fun hHeld => ?_)
      refine wpAnyH_take (i := 0) (oi := _) (v := .slice A toks.length c) rfl (by kernel_rfl) (by kernel_rfl) (by kernel_rfl) (fun _ _ _ h => h) (Or.inl ⟨by rfl, fun w' hS => (by go_simp)⟩) hHeld ?_
      change wpAnyH _ _ _ _ _ _ _ (Act.put _ (some 66) _) _
      try simp only [Act.put, List.setIfInBounds_toArray, List.set_cons_zero, List.set_cons_succ]
      refine wpAnyH_take (i := 1) (oi := _) (v := .pointer (some ⟨g, 0, none⟩)) rfl (by kernel_rfl) (by kernel_rfl) (by kernel_rfl) (fun _ _ _ h => h) (Or.inl ⟨by rfl, fun w' hS => (by go_simp)⟩) hHeld ?_
      change wpAnyH _ _ _ _ _ _ _ (Act.put _ (some 67) _) _
      try simp only [Act.put, List.setIfInBounds_toArray, List.set_cons_zero, List.set_cons_succ]
      refine wpAnyH_take (i := 2) (oi := _) (v := .pointer (some ⟨g, 0, none⟩)) rfl (by kernel_rfl) (by kernel_rfl) (by kernel_rfl) (fun _ _ _ h => h) (Or.inl ⟨by rfl, fun w' hS => (by go_simp)⟩) hHeld ?_
      change wpAnyH _ _ _ _ _ _ _ (Act.put _ (some 68) _) _
      try simp only [Act.put, List.setIfInBounds_toArray, List.set_cons_zero, List.set_cons_succ]
      refine wpAnyH_take (i := 3) (oi := _) (v := .pointer (some ⟨g, 0, none⟩)) rfl (by kernel_rfl) (by kernel_rfl) (by kernel_rfl) (fun _ _ _ h => h) (Or.inl ⟨by rfl, fun w' hS => (by go_simp)⟩) hHeld ?_
      change wpAnyH _ _ _ _ _ _ _ (Act.put _ (some 69) _) _
      try simp only [Act.put, List.setIfInBounds_toArray, List.set_cons_zero, List.set_cons_succ]
      refine wpAnyH_take (i := 4) (oi := _) (v := .string s) rfl (by kernel_rfl) (by kernel_rfl) (by kernel_rfl) (fun _ _ _ h => h) (Or.inl ⟨by rfl, fun w' hS => (by have q := ScB.c0 hS; go_simp)⟩) hHeld ?_
      change wpAnyH _ _ _ _ _ _ _ (Act.put _ (some 70) _) _
      try simp only [Act.put, List.setIfInBounds_toArray, List.set_cons_zero, List.set_cons_succ]
      refine wpAnyH_take (i := 5) (oi := _) (v := .int .i64 (s.size : Int)) rfl (by kernel_rfl) (by kernel_rfl) (by kernel_rfl) (fun _ _ _ h => h) (Or.inl ⟨by rfl, fun w' hS => (by go_simp)⟩) hHeld ?_
      change wpAnyH _ _ _ _ _ _ _ (Act.put _ (some 71) _) _
      try simp only [Act.put, List.setIfInBounds_toArray, List.set_cons_zero, List.set_cons_succ]
      refine wpAnyH_take (i := 6) (oi := _) (v := .pointer (some ⟨g, 0, none⟩)) rfl (by kernel_rfl) (by kernel_rfl) (by kernel_rfl) (fun _ _ _ h => h) (Or.inl ⟨by rfl, fun w' hS => (by go_simp)⟩) hHeld ?_
      change wpAnyH _ _ _ _ _ _ _ (Act.put _ (some 72) _) _
      try simp only [Act.put, List.setIfInBounds_toArray, List.set_cons_zero, List.set_cons_succ]
      refine wpAnyH_take (i := 7) (oi := _) (v := .pointer (some ⟨g, 0, none⟩)) rfl (by kernel_rfl) (by kernel_rfl) (by kernel_rfl) (fun _ _ _ h => h) (Or.inl ⟨by rfl, fun w' hS => (by go_simp)⟩) hHeld ?_
      change wpAnyH _ _ _ _ _ _ _ (Act.put _ (some 73) _) _
      try simp only [Act.put, List.setIfInBounds_toArray, List.set_cons_zero, List.set_cons_succ]
      refine wpAnyH_take (i := 8) (oi := _) (v := .pointer (some ⟨g, 0, none⟩)) rfl (by kernel_rfl) (by kernel_rfl) (by kernel_rfl) (fun _ _ _ h => h) (Or.inl ⟨by rfl, fun w' hS => (by go_simp)⟩) hHeld ?_
      change wpAnyH _ _ _ _ _ _ _ (Act.put _ (some 74) _) _
      try simp only [Act.put, List.setIfInBounds_toArray, List.set_cons_zero, List.set_cons_succ]
      refine wpAnyH_take (i := 9) (oi := _) (v := .string s) rfl (by kernel_rfl) (by kernel_rfl) (by kernel_rfl) (fun _ _ _ h => h) (Or.inl ⟨by rfl, fun w' hS => (by have q := ScB.c0 hS; go_simp)⟩) hHeld ?_
      change wpAnyH _ _ _ _ _ _ _ (Act.put _ (some 75) _) _
      try simp only [Act.put, List.setIfInBounds_toArray, List.set_cons_zero, List.set_cons_succ]
      refine wpAnyH_take (i := 10) (oi := _) (v := .int .i64 (s.size : Int)) rfl (by kernel_rfl) (by kernel_rfl) (by kernel_rfl) (fun _ _ _ h => h) (Or.inl ⟨by rfl, fun w' hS => (by go_simp)⟩) hHeld ?_
      change wpAnyH _ _ _ _ _ _ _ (Act.put _ (some 76) _) _
      try simp only [Act.put, List.setIfInBounds_toArray, List.set_cons_zero, List.set_cons_succ]
      refine wpAnyH_take (i := 11) (oi := _) (v := .agg #[.int .i64 0, .string ⟨#[]⟩, .int .i64 (s.size : Int), .int .i64 (s.size : Int), .int .i64 0]) rfl (by kernel_rfl) (by kernel_rfl) (by kernel_rfl) (fun _ _ _ h => h) (Or.inl ⟨by rfl, fun w' hS => (by go_simp)⟩) hHeld ?_
      change wpAnyH _ _ _ _ _ _ _ (Act.put _ (some 77) _) _
      try simp only [Act.put, List.setIfInBounds_toArray, List.set_cons_zero, List.set_cons_succ]
      refine wpAnyH_ready (rs := [12]) (by kernel_rfl) (by simp) ?_
      refine AllReadyH.cons (o := _) rfl (fun K hK => ?_) AllReadyH.nil
      go_simp
      refine hK.out _ _ (by exact blk_alloc (by exact HBV.out) _) (fun hHeld => ?_)
      clear hK K
      try simp only [Act.put, List.setIfInBounds_toArray, List.set_cons_zero, List.set_cons_succ]
      refine wpAnyH_ready (rs := [13]) (by kernel_rfl) (by simp) ?_
      refine AllReadyH.cons (o := _) rfl (fun K hK => ?_) AllReadyH.nil
      refine step_append_lies _ (by rfl) _ _ _ (by rfl) w.heap.size 33 iT _ 5 48 Tryd.underlying23 hiT hT0 hT1 hT2 rfl (by omega) (.slice A toks.length c) toks.length (toks.flatMap tkEnc) (by rfl) (by exact HOV.out.alloc _) ⟨V.heap.size, 0, none⟩ 1 1 (tkEnc ⟨0, ⟨#[]⟩, s.size, s.size, 0⟩) (by rfl) (by rfl) (by exact news_drew V #[.int .i64 0, .string ⟨#[]⟩, .int .i64 (s.size : Int), .int .i64 (s.size : Int), .int .i64 0] _ _ rfl) (by simp [tkEnc, Value.oneCell']) (by omega) (by unfold maxLen; omega) (by omega) (by simp; omega) (V.heap.size + 1) (by simp) ?_
      intro gb cap w12 hown12 hg12 hat12 hl12
      have HOE := Lib.hid hown12
      have HBE := Lib.hid (show ScB w12 g s s.size mb from blk_grown (blk_drew (blk_alloc (by exact HBV.out) _)) hg12 (fun e => by have h1 := own_base HOV.out g e; have h2 := HGW.out; omega))
      have HFE := Lib.hid (show Fr [g] w w12 by first | exact (HFV.out.alloc _).grown hg12 (fun gg hgg => .inr (own_base HOV.out gg hgg)) | exact (HFV.out.drew.alloc _).grown hg12 (fun gg hgg => .inr (own_base HOV.out gg hgg)) | exact ((HFV.out.alloc _).drew).grown hg12 (fun gg hgg => .inr (own_base HOV.out gg hgg)))
      clear hown12 hg12 hat12 hl12
      refine hK.out _ _ (HBE.out) (fun hHeld => ?_)
      clear hK K
      try simp only [Act.put, List.setIfInBounds_toArray, List.set_cons_zero, List.set_cons_succ]
      refine wpAnyH_take (i := 14) (oi := _) (v := .slice (some ⟨gb, 0, none⟩) (toks.length + 1) cap) rfl (by kernel_rfl) (by kernel_rfl) (by kernel_rfl) (fun _ _ _ h => h) (Or.inl ⟨by rfl, fun w' hS => (by go_simp)⟩) hHeld ?_
      change wpAnyH _ _ _ _ _ _ _ (Act.put _ (some 2) _) _
      try simp only [Act.put, List.setIfInBounds_toArray, List.set_cons_zero, List.set_cons_succ]
      refine wpAnyH_done (by kernel_rfl) ?_ _
      go_wp2
      go_ret
      refine ⟨HFE.out, .inr ⟨_, (some ⟨gb, 0, none⟩), cap, HEND.out, (?_ : _ = Ending.returned (Value.slice (some ⟨gb, 0, none⟩) (toks ++ [(⟨0, ⟨#[]⟩, s.size, s.size, 0⟩ : Tok)]).length cap)), by rw [List.flatMap_append, List.length_append]; exact HOE.out, by rw [List.length_append, HLL.out]; simp; omega⟩⟩
      have e9 : (toks ++ [(⟨0, ⟨#[]⟩, s.size, s.size, 0⟩ : Tok)]).length = toks.length + 1 := by simp
      rw [e9]
      first | rfl | (simp [List.set]; done) | (trace_state; rfl)
    have hlt' : (p : Int) < (s.size : Int) := by omega
    have HMr := Lib.hid (HM.out.fr HFr.out hg)
    have HMMr := Lib.hid (show wr.ownsMap Tryd.prog 9 (plainElem Tryd.prog 3) mb nb D ∧ WMap D wordsL from ⟨HFr.out.map HMM.out.1 (by simp; exact hmg), HMM.out.2⟩)
    have hpart := fun w => part_any s[p].toNat w (UInt8.toNat_lt _)
    go_wp2_with fail
    go_quiet (fail)
    go_wp2_with fail
    go_quiet (fail)
    by_cases hpp : partN s[p].toNat = true
    case pos =>
      rw [hpp] at hpart
      have HPT := Lib.hid hpart
      have HRD := Lib.hid (show ∀ q, Calls Tryd.prog 32 #[.pointer (some ⟨g, 0, none⟩)] (wr.drewN q) (ReadOut g s p mb (wr.drewN q)) from fun q => xword_any hs (wr.drewN q) (by exact HBr.out) hlt hpp (by exact HMMr.out.1) HMMr.out.2 hmg)
      clear hpart
      go_wp2_with fail
      refine (HPT.out _).mono ?_
      rintro e w4 ⟨rfl, rfl⟩
      go_wp2_with fail
      refine (HRD.out _).mono ?_
      rintro e w5 ⟨hf, ⟨er, h1, rfl⟩ | ⟨kd, x, v, n, h1, rfl, hb⟩⟩
      · have HTB := Lib.hid (show scanL s.data.toList = .inl (p, er) by rw [HS.out]; exact scanAt_bad (by rw [HLL.out]; omega) h1)
        have HFX := Lib.hid (HFr.out.next (((Fr.refl [g] wr).drewN _).next hf))
        clear hf h1
        go_wp2
        exact ⟨rfl, HFX.out, .inl ⟨p, er, HTB.out, rfl⟩⟩
      have HLEN := Lib.hid (tokenL_len h1)
      have hnx := scanAt_on (acc := toks) (L := s.data.toList) (p := p) (by rw [HLL.out]; omega) h1
      obtain ⟨p2, hp2⟩ : ∃ p2, p2 = p + n := ⟨_, rfl⟩
      rw [← hp2] at hnx
      have HNX := Lib.hid hnx
      have HP2 := Lib.hid hp2
      clear hnx
      rw [← hp2] at hb
      have hp2s : p2 ≤ s.size := by have h2 := HLEN.out; rw [List.length_drop, HLL.out] at h2; omega
      have HB5 := Lib.hid hb
      have HF5 := Lib.hid (show Fr [g] wr w5 from ((Fr.refl [g] wr).drewN _).next hf)
      have HO5 := Lib.hid (HF5.out.own HO.out (fun g' hg' => by have h1 := own_base HO.out g' hg'; have h2 := HGW.out; simp; omega))
      have h5s := HF5.out.size
      unfold tokV
      clear hf h1 hb hp2 c0 c1 cf cl
      obtain ⟨bt, hbt⟩ : ∃ b, b = w5.heap.size := ⟨_, rfl⟩
      go_upto_region 13 with fail
      rw [← hbt]
      refine gen_wpT fun V hV => ?_
      have HTV := Lib.hid (show V.heap[bt]? = some (.cells #[.int .i64 kd, .string x, .int .i64 0, .int .i64 0, .int .i64 v] 33 (0, 0)) by rw [← hV, hbt]; exact heap_new_at _ _ _ rfl)
      have HBV := Lib.hid (show ScB V g s p2 mb by rw [← hV]; exact blk_alloc HB5.out _)
      have HFV := Lib.hid (show Fr [g] wr V by rw [← hV]; exact HF5.out.alloc _)
      have HOV := Lib.hid (show V.ownsRow w.heap.size 33 5 (.slice A toks.length c) toks.length (toks.flatMap tkEnc) by rw [← hV]; exact HO5.out.alloc _)
      have HBT := Lib.hid (show bt ≠ g ∧ w.heap.size ≤ bt ∧ wr.heap.size ≤ bt by have h1 := HB5.out.lt; have h2 := HFr.out.size; exact ⟨by omega, by omega, by omega⟩)
      have t0 := cell_of_blk (i := 0) HTV.out rfl
      have t1 := cell_of_blk (i := 1) HTV.out rfl
      have t2 := cell_of_blk (i := 2) HTV.out rfl
      have t3 := cell_of_blk (i := 3) HTV.out rfl
      have t4 := cell_of_blk (i := 4) HTV.out rfl
      have tf0 := free_of_blk (i := 0) HTV.out
      have tf2 := free_of_blk (i := 2) HTV.out
      have tf3 := free_of_blk (i := 3) HTV.out
      have tl := blk_lt HTV.out
      have c1 := HBV.out.c1
      have cl := HBV.out.lt
      have ntg := HBT.out.1
      clear hV hbt
      go_region
      all_goals
        go_upto_region 14 with fail
        refine gen_wpT fun U hU => ?_
        have HTU := Lib.hid (show U.heap[bt]? = some (.cells #[.int .i64 kd, .string x, .int .i64 (p : Int), .int .i64 (p2 : Int), .int .i64 v] 33 (0, 0)) by rw [← hU]; first | exact blk_set (i := 3) (blk_set (i := 2) HTV.out _) _ | exact blk_set (i := 2) (blk_set (i := 3) HTV.out _) _)
        have HBU := Lib.hid (show ScB U g s p2 mb by rw [← hU]; first | exact blk_far (a := ⟨bt, 3, none⟩) (blk_far (a := ⟨bt, 2, none⟩) HBV.out HBT.out.1.symm _) HBT.out.1.symm _ | exact blk_far (a := ⟨bt, 2, none⟩) (blk_far (a := ⟨bt, 3, none⟩) HBV.out HBT.out.1.symm _) HBT.out.1.symm _)
        have HFW := Lib.hid (show Fr [g] wr U by rw [← hU]; first | exact ((HFV.out.set (a := ⟨bt, 2, none⟩) _ (.inr HBT.out.2.2)).set (a := ⟨bt, 3, none⟩) _ (.inr HBT.out.2.2)).drew | exact ((HFV.out.set (a := ⟨bt, 3, none⟩) _ (.inr HBT.out.2.2)).set (a := ⟨bt, 2, none⟩) _ (.inr HBT.out.2.2)).drew | exact ((HFV.out.set (a := ⟨bt, 2, none⟩) _ (.inr HBT.out.2.2)).set (a := ⟨bt, 3, none⟩) _ (.inr HBT.out.2.2)) | exact ((HFV.out.set (a := ⟨bt, 3, none⟩) _ (.inr HBT.out.2.2)).set (a := ⟨bt, 2, none⟩) _ (.inr HBT.out.2.2)))
        have HOU := Lib.hid (HFW.out.own HO.out (fun g' hg' => by have h1 := own_base HO.out g' hg'; have h2 := HGW.out; simp; omega))
        clear hU t0 t1 t2 t3 t4 tf0 tf2 tf3 tl c1 cl
        have u0 := cell_of_blk (i := 0) HTU.out rfl
        have u1 := cell_of_blk (i := 1) HTU.out rfl
        have u2 := cell_of_blk (i := 2) HTU.out rfl
        have u3 := cell_of_blk (i := 3) HTU.out rfl
        have u4 := cell_of_blk (i := 4) HTU.out rfl
        have ul := blk_lt HTU.out
        have hUs := HFW.out.size
        have hws := HFr.out.size
        go_wp2_with (at_builtin; refine wpList_append_own _ rfl _ _ 23 rfl w.heap.size 33 iT _ 5 48 Tryd.underlying23 hiT hT0 hT1 hT2 rfl (by decide) _ _ _ rfl (HOU.out.alloc _) ⟨U.heap.size, 0, none⟩ 1 1 (tkEnc ⟨kd, x, p, p2, v⟩) rfl rfl (World.news_of_block (heap_alloc_new _ _)) (by simp [tkEnc, Value.oneCell']) (by unfold maxLen; omega) (by omega) (by simp; omega) ?_; intro v' w6 hown6 hg6 _; obtain ⟨A6, c6, rfl, _, _, _⟩ := own_form hown6; have HO6 := Lib.hid hown6; have HB6 := Lib.hid (show ScB w6 g s p2 mb from blk_grown (blk_alloc HBU.out _) hg6 (fun e => by have h1 := own_base HOU.out g e; have h2 := HGW.out; omega)); have HF6 := Lib.hid (((HFr.out.next HFW.out).alloc _).grown hg6 (fun gg hgg => .inr (own_base HOU.out gg hgg))); clear hown6 hg6)
        refine (xblanks_any hs w6 HB6.out hp2s (HM.out.fr HF6.out hg) hg).mono ?_
        rintro e w7 ⟨rfl, hb7, hf7⟩
        obtain ⟨p3, hp3⟩ : ∃ p3, p3 = p2 + blankL false (s.data.toList.drop p2) := ⟨_, rfl⟩
        rw [← hp3] at hb7
        have HP3 := Lib.hid hp3
        have HB7 := Lib.hid hb7
        have HF7 := Lib.hid (HF6.out.next hf7)
        have HO7 := Lib.hid (hf7.own HO6.out (fun g' hg' => by have h1 := own_base HO6.out g' hg'; have h2 := HGW.out; simp; omega))
        clear hb7 hf7 hp3
        go_wp2_with fail
        go_roundw
        case rel => exact ⟨p3, A6, c6, toks ++ [⟨kd, x, p, p2, v⟩], by rw [List.length_append]; rfl, by have h1 := blankL_le (s.data.toList.drop p2) false; rw [List.length_drop, HLL.out] at h1; have h2 := HP3.out; omega, by rw [List.length_append]; have h1 := HLEN.out; have h2 := HP3.out; have h3 := HP2.out; simp; omega, Lib.hid (by rw [HS.out, HNX.out, ← HP3.out]), HB7, Lib.hid (by rw [List.length_append, List.flatMap_append]; exact HO7.out), HF7⟩
        case measure =>
          rw [scI_of HBr.out, scI_of HB7.out]
          have h1 := HLEN.out; have h2 := HP3.out; have h3 := HP2.out
          omega
    have hpf : partN s[p].toNat = false := by cases h : partN s[p].toNat with | false => rfl | true => exact (hpp h).elim
    rw [hpf] at hpart
    have HPT := Lib.hid hpart
    clear hpart
    by_cases h34 : s[p] = 34
    case pos =>
      have q34 : ((s[p].toNat : Int) == 34) = true := by rw [h34]; rfl
      have HRD := Lib.hid (show ∀ q, Calls Tryd.prog 33 #[.pointer (some ⟨g, 0, none⟩)] (wr.drewN q) (ReadOut g s p mb (wr.drewN q)) from fun q => xtext_any hs (wr.drewN q) (by exact HBr.out) hlt h34)
      clear hpp hpf h34
      go_wp2_with fail
      refine (HPT.out _).mono ?_
      rintro e w4 ⟨rfl, rfl⟩
      go_wp2_with fail
      refine (HRD.out _).mono ?_
      rintro e w5 ⟨hf, ⟨er, h1, rfl⟩ | ⟨kd, x, v, n, h1, rfl, hb⟩⟩
      · have HTB := Lib.hid (show scanL s.data.toList = .inl (p, er) by rw [HS.out]; exact scanAt_bad (by rw [HLL.out]; omega) h1)
        have HFX := Lib.hid (HFr.out.next (((Fr.refl [g] wr).drewN _).next hf))
        clear hf h1
        go_wp2
        exact ⟨rfl, HFX.out, .inl ⟨p, er, HTB.out, rfl⟩⟩
      have HLEN := Lib.hid (tokenL_len h1)
      have hnx := scanAt_on (acc := toks) (L := s.data.toList) (p := p) (by rw [HLL.out]; omega) h1
      obtain ⟨p2, hp2⟩ : ∃ p2, p2 = p + n := ⟨_, rfl⟩
      rw [← hp2] at hnx
      have HNX := Lib.hid hnx
      have HP2 := Lib.hid hp2
      clear hnx
      rw [← hp2] at hb
      have hp2s : p2 ≤ s.size := by have h2 := HLEN.out; rw [List.length_drop, HLL.out] at h2; omega
      have HB5 := Lib.hid hb
      have HF5 := Lib.hid (show Fr [g] wr w5 from ((Fr.refl [g] wr).drewN _).next hf)
      have HO5 := Lib.hid (HF5.out.own HO.out (fun g' hg' => by have h1 := own_base HO.out g' hg'; have h2 := HGW.out; simp; omega))
      have h5s := HF5.out.size
      unfold tokV
      clear hf h1 hb hp2 c0 c1 cf cl
      obtain ⟨bt, hbt⟩ : ∃ b, b = w5.heap.size := ⟨_, rfl⟩
      go_upto_region 13 with fail
      rw [← hbt]
      refine gen_wpT fun V hV => ?_
      have HTV := Lib.hid (show V.heap[bt]? = some (.cells #[.int .i64 kd, .string x, .int .i64 0, .int .i64 0, .int .i64 v] 33 (0, 0)) by rw [← hV, hbt]; exact heap_new_at _ _ _ rfl)
      have HBV := Lib.hid (show ScB V g s p2 mb by rw [← hV]; exact blk_alloc HB5.out _)
      have HFV := Lib.hid (show Fr [g] wr V by rw [← hV]; exact HF5.out.alloc _)
      have HOV := Lib.hid (show V.ownsRow w.heap.size 33 5 (.slice A toks.length c) toks.length (toks.flatMap tkEnc) by rw [← hV]; exact HO5.out.alloc _)
      have HBT := Lib.hid (show bt ≠ g ∧ w.heap.size ≤ bt ∧ wr.heap.size ≤ bt by have h1 := HB5.out.lt; have h2 := HFr.out.size; exact ⟨by omega, by omega, by omega⟩)
      have t0 := cell_of_blk (i := 0) HTV.out rfl
      have t1 := cell_of_blk (i := 1) HTV.out rfl
      have t2 := cell_of_blk (i := 2) HTV.out rfl
      have t3 := cell_of_blk (i := 3) HTV.out rfl
      have t4 := cell_of_blk (i := 4) HTV.out rfl
      have tf0 := free_of_blk (i := 0) HTV.out
      have tf2 := free_of_blk (i := 2) HTV.out
      have tf3 := free_of_blk (i := 3) HTV.out
      have tl := blk_lt HTV.out
      have c1 := HBV.out.c1
      have cl := HBV.out.lt
      have ntg := HBT.out.1
      clear hV hbt
      go_region
      all_goals
        go_upto_region 14 with fail
        refine gen_wpT fun U hU => ?_
        have HTU := Lib.hid (show U.heap[bt]? = some (.cells #[.int .i64 kd, .string x, .int .i64 (p : Int), .int .i64 (p2 : Int), .int .i64 v] 33 (0, 0)) by rw [← hU]; first | exact blk_set (i := 3) (blk_set (i := 2) HTV.out _) _ | exact blk_set (i := 2) (blk_set (i := 3) HTV.out _) _)
        have HBU := Lib.hid (show ScB U g s p2 mb by rw [← hU]; first | exact blk_far (a := ⟨bt, 3, none⟩) (blk_far (a := ⟨bt, 2, none⟩) HBV.out HBT.out.1.symm _) HBT.out.1.symm _ | exact blk_far (a := ⟨bt, 2, none⟩) (blk_far (a := ⟨bt, 3, none⟩) HBV.out HBT.out.1.symm _) HBT.out.1.symm _)
        have HFW := Lib.hid (show Fr [g] wr U by rw [← hU]; first | exact ((HFV.out.set (a := ⟨bt, 2, none⟩) _ (.inr HBT.out.2.2)).set (a := ⟨bt, 3, none⟩) _ (.inr HBT.out.2.2)).drew | exact ((HFV.out.set (a := ⟨bt, 3, none⟩) _ (.inr HBT.out.2.2)).set (a := ⟨bt, 2, none⟩) _ (.inr HBT.out.2.2)).drew | exact ((HFV.out.set (a := ⟨bt, 2, none⟩) _ (.inr HBT.out.2.2)).set (a := ⟨bt, 3, none⟩) _ (.inr HBT.out.2.2)) | exact ((HFV.out.set (a := ⟨bt, 3, none⟩) _ (.inr HBT.out.2.2)).set (a := ⟨bt, 2, none⟩) _ (.inr HBT.out.2.2)))
        have HOU := Lib.hid (HFW.out.own HO.out (fun g' hg' => by have h1 := own_base HO.out g' hg'; have h2 := HGW.out; simp; omega))
        clear hU t0 t1 t2 t3 t4 tf0 tf2 tf3 tl c1 cl
        have u0 := cell_of_blk (i := 0) HTU.out rfl
        have u1 := cell_of_blk (i := 1) HTU.out rfl
        have u2 := cell_of_blk (i := 2) HTU.out rfl
        have u3 := cell_of_blk (i := 3) HTU.out rfl
        have u4 := cell_of_blk (i := 4) HTU.out rfl
        have ul := blk_lt HTU.out
        have hUs := HFW.out.size
        have hws := HFr.out.size
        go_wp2_with (at_builtin; refine wpList_append_own _ rfl _ _ 23 rfl w.heap.size 33 iT _ 5 48 Tryd.underlying23 hiT hT0 hT1 hT2 rfl (by decide) _ _ _ rfl (HOU.out.alloc _) ⟨U.heap.size, 0, none⟩ 1 1 (tkEnc ⟨kd, x, p, p2, v⟩) rfl rfl (World.news_of_block (heap_alloc_new _ _)) (by simp [tkEnc, Value.oneCell']) (by unfold maxLen; omega) (by omega) (by simp; omega) ?_; intro v' w6 hown6 hg6 _; obtain ⟨A6, c6, rfl, _, _, _⟩ := own_form hown6; have HO6 := Lib.hid hown6; have HB6 := Lib.hid (show ScB w6 g s p2 mb from blk_grown (blk_alloc HBU.out _) hg6 (fun e => by have h1 := own_base HOU.out g e; have h2 := HGW.out; omega)); have HF6 := Lib.hid (((HFr.out.next HFW.out).alloc _).grown hg6 (fun gg hgg => .inr (own_base HOU.out gg hgg))); clear hown6 hg6)
        refine (xblanks_any hs w6 HB6.out hp2s (HM.out.fr HF6.out hg) hg).mono ?_
        rintro e w7 ⟨rfl, hb7, hf7⟩
        obtain ⟨p3, hp3⟩ : ∃ p3, p3 = p2 + blankL false (s.data.toList.drop p2) := ⟨_, rfl⟩
        rw [← hp3] at hb7
        have HP3 := Lib.hid hp3
        have HB7 := Lib.hid hb7
        have HF7 := Lib.hid (HF6.out.next hf7)
        have HO7 := Lib.hid (hf7.own HO6.out (fun g' hg' => by have h1 := own_base HO6.out g' hg'; have h2 := HGW.out; simp; omega))
        clear hb7 hf7 hp3
        go_wp2_with fail
        go_roundw
        case rel => exact ⟨p3, A6, c6, toks ++ [⟨kd, x, p, p2, v⟩], by rw [List.length_append]; rfl, by have h1 := blankL_le (s.data.toList.drop p2) false; rw [List.length_drop, HLL.out] at h1; have h2 := HP3.out; omega, by rw [List.length_append]; have h1 := HLEN.out; have h2 := HP3.out; have h3 := HP2.out; simp; omega, Lib.hid (by rw [HS.out, HNX.out, ← HP3.out]), HB7, Lib.hid (by rw [List.length_append, List.flatMap_append]; exact HO7.out), HF7⟩
        case measure =>
          rw [scI_of HBr.out, scI_of HB7.out]
          have h1 := HLEN.out; have h2 := HP3.out; have h3 := HP2.out
          omega
    have q34 : ((s[p].toNat : Int) == 34) = false := u8_lit (n := 34) (by decide) h34
    have HRD := Lib.hid (show ∀ q, Calls Tryd.prog 34 #[.pointer (some ⟨g, 0, none⟩)] (wr.drewN q) (ReadOut g s p mb (wr.drewN q)) from fun q => xsign_any hs (wr.drewN q) (by exact HBr.out) hlt hpf h34 (by exact HMr.out) hg)
    clear hpp hpf h34
    go_wp2_with fail
    refine (HPT.out _).mono ?_
    rintro e w4 ⟨rfl, rfl⟩
    go_wp2_with fail
    refine (HRD.out _).mono ?_
    rintro e w5 ⟨hf, ⟨er, h1, rfl⟩ | ⟨kd, x, v, n, h1, rfl, hb⟩⟩
    · have HTB := Lib.hid (show scanL s.data.toList = .inl (p, er) by rw [HS.out]; exact scanAt_bad (by rw [HLL.out]; omega) h1)
      have HFX := Lib.hid (HFr.out.next (((Fr.refl [g] wr).drewN _).next hf))
      clear hf h1
      go_wp2
      exact ⟨rfl, HFX.out, .inl ⟨p, er, HTB.out, rfl⟩⟩
    have HLEN := Lib.hid (tokenL_len h1)
    have hnx := scanAt_on (acc := toks) (L := s.data.toList) (p := p) (by rw [HLL.out]; omega) h1
    obtain ⟨p2, hp2⟩ : ∃ p2, p2 = p + n := ⟨_, rfl⟩
    rw [← hp2] at hnx
    have HNX := Lib.hid hnx
    have HP2 := Lib.hid hp2
    clear hnx
    rw [← hp2] at hb
    have hp2s : p2 ≤ s.size := by have h2 := HLEN.out; rw [List.length_drop, HLL.out] at h2; omega
    have HB5 := Lib.hid hb
    have HF5 := Lib.hid (show Fr [g] wr w5 from ((Fr.refl [g] wr).drewN _).next hf)
    have HO5 := Lib.hid (HF5.out.own HO.out (fun g' hg' => by have h1 := own_base HO.out g' hg'; have h2 := HGW.out; simp; omega))
    have h5s := HF5.out.size
    unfold tokV
    clear hf h1 hb hp2 c0 c1 cf cl
    obtain ⟨bt, hbt⟩ : ∃ b, b = w5.heap.size := ⟨_, rfl⟩
    go_upto_region 13 with fail
    rw [← hbt]
    refine gen_wpT fun V hV => ?_
    have HTV := Lib.hid (show V.heap[bt]? = some (.cells #[.int .i64 kd, .string x, .int .i64 0, .int .i64 0, .int .i64 v] 33 (0, 0)) by rw [← hV, hbt]; exact heap_new_at _ _ _ rfl)
    have HBV := Lib.hid (show ScB V g s p2 mb by rw [← hV]; exact blk_alloc HB5.out _)
    have HFV := Lib.hid (show Fr [g] wr V by rw [← hV]; exact HF5.out.alloc _)
    have HOV := Lib.hid (show V.ownsRow w.heap.size 33 5 (.slice A toks.length c) toks.length (toks.flatMap tkEnc) by rw [← hV]; exact HO5.out.alloc _)
    have HBT := Lib.hid (show bt ≠ g ∧ w.heap.size ≤ bt ∧ wr.heap.size ≤ bt by have h1 := HB5.out.lt; have h2 := HFr.out.size; exact ⟨by omega, by omega, by omega⟩)
    have t0 := cell_of_blk (i := 0) HTV.out rfl
    have t1 := cell_of_blk (i := 1) HTV.out rfl
    have t2 := cell_of_blk (i := 2) HTV.out rfl
    have t3 := cell_of_blk (i := 3) HTV.out rfl
    have t4 := cell_of_blk (i := 4) HTV.out rfl
    have tf0 := free_of_blk (i := 0) HTV.out
    have tf2 := free_of_blk (i := 2) HTV.out
    have tf3 := free_of_blk (i := 3) HTV.out
    have tl := blk_lt HTV.out
    have c1 := HBV.out.c1
    have cl := HBV.out.lt
    have ntg := HBT.out.1
    clear hV hbt
    go_region
    all_goals
      go_upto_region 14 with fail
      refine gen_wpT fun U hU => ?_
      have HTU := Lib.hid (show U.heap[bt]? = some (.cells #[.int .i64 kd, .string x, .int .i64 (p : Int), .int .i64 (p2 : Int), .int .i64 v] 33 (0, 0)) by rw [← hU]; first | exact blk_set (i := 3) (blk_set (i := 2) HTV.out _) _ | exact blk_set (i := 2) (blk_set (i := 3) HTV.out _) _)
      have HBU := Lib.hid (show ScB U g s p2 mb by rw [← hU]; first | exact blk_far (a := ⟨bt, 3, none⟩) (blk_far (a := ⟨bt, 2, none⟩) HBV.out HBT.out.1.symm _) HBT.out.1.symm _ | exact blk_far (a := ⟨bt, 2, none⟩) (blk_far (a := ⟨bt, 3, none⟩) HBV.out HBT.out.1.symm _) HBT.out.1.symm _)
      have HFW := Lib.hid (show Fr [g] wr U by rw [← hU]; first | exact ((HFV.out.set (a := ⟨bt, 2, none⟩) _ (.inr HBT.out.2.2)).set (a := ⟨bt, 3, none⟩) _ (.inr HBT.out.2.2)).drew | exact ((HFV.out.set (a := ⟨bt, 3, none⟩) _ (.inr HBT.out.2.2)).set (a := ⟨bt, 2, none⟩) _ (.inr HBT.out.2.2)).drew | exact ((HFV.out.set (a := ⟨bt, 2, none⟩) _ (.inr HBT.out.2.2)).set (a := ⟨bt, 3, none⟩) _ (.inr HBT.out.2.2)) | exact ((HFV.out.set (a := ⟨bt, 3, none⟩) _ (.inr HBT.out.2.2)).set (a := ⟨bt, 2, none⟩) _ (.inr HBT.out.2.2)))
      have HOU := Lib.hid (HFW.out.own HO.out (fun g' hg' => by have h1 := own_base HO.out g' hg'; have h2 := HGW.out; simp; omega))
      clear hU t0 t1 t2 t3 t4 tf0 tf2 tf3 tl c1 cl
      have u0 := cell_of_blk (i := 0) HTU.out rfl
      have u1 := cell_of_blk (i := 1) HTU.out rfl
      have u2 := cell_of_blk (i := 2) HTU.out rfl
      have u3 := cell_of_blk (i := 3) HTU.out rfl
      have u4 := cell_of_blk (i := 4) HTU.out rfl
      have ul := blk_lt HTU.out
      have hUs := HFW.out.size
      have hws := HFr.out.size
      go_wp2_with (at_builtin; refine wpList_append_own _ rfl _ _ 23 rfl w.heap.size 33 iT _ 5 48 Tryd.underlying23 hiT hT0 hT1 hT2 rfl (by decide) _ _ _ rfl (HOU.out.alloc _) ⟨U.heap.size, 0, none⟩ 1 1 (tkEnc ⟨kd, x, p, p2, v⟩) rfl rfl (World.news_of_block (heap_alloc_new _ _)) (by simp [tkEnc, Value.oneCell']) (by unfold maxLen; omega) (by omega) (by simp; omega) ?_; intro v' w6 hown6 hg6 _; obtain ⟨A6, c6, rfl, _, _, _⟩ := own_form hown6; have HO6 := Lib.hid hown6; have HB6 := Lib.hid (show ScB w6 g s p2 mb from blk_grown (blk_alloc HBU.out _) hg6 (fun e => by have h1 := own_base HOU.out g e; have h2 := HGW.out; omega)); have HF6 := Lib.hid (((HFr.out.next HFW.out).alloc _).grown hg6 (fun gg hgg => .inr (own_base HOU.out gg hgg))); clear hown6 hg6)
      refine (xblanks_any hs w6 HB6.out hp2s (HM.out.fr HF6.out hg) hg).mono ?_
      rintro e w7 ⟨rfl, hb7, hf7⟩
      obtain ⟨p3, hp3⟩ : ∃ p3, p3 = p2 + blankL false (s.data.toList.drop p2) := ⟨_, rfl⟩
      rw [← hp3] at hb7
      have HP3 := Lib.hid hp3
      have HB7 := Lib.hid hb7
      have HF7 := Lib.hid (HF6.out.next hf7)
      have HO7 := Lib.hid (hf7.own HO6.out (fun g' hg' => by have h1 := own_base HO6.out g' hg'; have h2 := HGW.out; simp; omega))
      clear hb7 hf7 hp3
      go_wp2_with fail
      go_roundw
      case rel => exact ⟨p3, A6, c6, toks ++ [⟨kd, x, p, p2, v⟩], by rw [List.length_append]; rfl, by have h1 := blankL_le (s.data.toList.drop p2) false; rw [List.length_drop, HLL.out] at h1; have h2 := HP3.out; omega, by rw [List.length_append]; have h1 := HLEN.out; have h2 := HP3.out; have h3 := HP2.out; simp; omega, Lib.hid (by rw [HS.out, HNX.out, ← HP3.out]), HB7, Lib.hid (by rw [List.length_append, List.flatMap_append]; exact HO7.out), HF7⟩
      case measure =>
        rw [scI_of HBr.out, scI_of HB7.out]
        have h1 := HLEN.out; have h2 := HP3.out; have h3 := HP2.out
        omega
end Go.Proofs.YtmjkelmlbihkpaaDoor
