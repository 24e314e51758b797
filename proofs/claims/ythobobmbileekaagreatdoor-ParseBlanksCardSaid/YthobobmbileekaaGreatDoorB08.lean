/-
  ParseBlanks: part 8 of what the claim rests on.
-/
import Derived.Test.YthobobmbileekaaGreatDoorB02
import Derived.Test.YthobobmbileekaaGreatDoorB05
import Derived.Test.YthobobmbileekaaGreatDoorB06
import Derived.Test.YthobobmbileekaaGreatDoorB07
import Derived.Deep.AppendLies
import Derived.Deep.CondSized
set_option linter.unusedVariables false
set_option linter.unusedSimpArgs false
set_option maxHeartbeats 64000000
namespace Go.Proofs.YthobobmbileekaaGreatDoor
open Go.ChangeShapes Go.WideShapes Go.ChangeAt Go.RowKit

theorem infoTok : (Tryz.prog.info? 65).map (fun i => (i.zero, i.size, i.bytes)) = some (some (.agg #[.int .i64 0, .string ByteArray.empty, .int .i64 0, .int .i64 0, .int .i64 0]), 5, 48) := by kernel_rfl
def tkEnc (t : Tok) : List Value := [.int .i64 t.kind, .string t.text, .int .i64 (t.a : Int), .int .i64 (t.z : Int), .int .i64 t.n]
theorem tkEnc_len (t : Tok) : (tkEnc t).length = 5 := rfl
theorem own_readsX {w : World} {base : Nat} {e : TypeId} {sz n c : Nat} {A : Option Addr} {xs : List Value} (h : w.ownsRow base e sz (.slice A n c) n xs) : Reads w w.heap.size A xs ∧ n ≤ c := by
  obtain ⟨A', c', hv, h1, _, h3⟩ := own_form h
  injection hv with e1 e2 e3
  subst e1 e3
  refine ⟨?_, h1⟩
  rcases Nat.eq_zero_or_pos n with h0 | h0
  · subst h0
    have := h.1
    exact .inl (List.eq_nil_of_length_eq_zero (by omega))
  · obtain ⟨gb, h4, h5, h6, _, h7⟩ := h3 h0
    subst h4
    exact .inr ⟨⟨gb, 0, none⟩, rfl, h6, fun j u hu => by rw [add_lit0]; exact h7 j u hu⟩
def AllOut (L : List UInt8) (w : World) (e : Ending) (w' : World) : Prop :=
  (∃ p er : Nat, scanL L = .inl (p, er) ∧ e = .panicked (wrongX p er)) ∨
  (∃ (toks : List Tok) (A : Option Addr) (c : Nat), scanL L = .inr toks ∧ e = .returned (.slice A toks.length c) ∧ w'.ownsRow w.heap.size 65 5 (.slice A toks.length c) toks.length (toks.flatMap tkEnc) ∧ toks.length ≤ L.length + 1)
set_option maxRecDepth 100000 in
theorem xall_any {g mb nb : Nat} {D : DataW Unit} {s : ByteArray} {m : Int} (hs : s.size ≤ 1000000) (w : World) (h : ScB w g s 0 mb) (hM : w.ownsMap Tryz.prog 9 (plainElem Tryz.prog 3) mb nb D) (hD : WMap D wordsL) (hmg : mb ≠ g) (hm : MaxC w m) (hg : g ≠ 3) :
    Calls Tryz.prog 18 #[.pointer (some ⟨g, 0, none⟩)] w (fun e w' => Fr [g] w w' ∧ AllOut s.data.toList w e w') := by
  have hmf : ∀ (fn : Fn) (first cap : Array Value) (w : World), (Instr.makeFunc fn first cap).run Tryz.prog w = .ok (.func fn first cap) w := fun _ _ _ _ => rfl
  obtain ⟨iT, hiT, hT0, hT1, hT2⟩ := info_parts infoTok
  have hll : s.data.toList.length = s.size := by simp
  have HLL := Lib.hid hll
  have H := Lib.hid h
  have HM := Lib.hid hm
  have HMM := Lib.hid (show w.ownsMap Tryz.prog 9 (plainElem Tryz.prog 3) mb nb D ∧ WMap D wordsL from ⟨hM, hD⟩)
  have HGW := Lib.hid (show g < w.heap.size from h.lt)
  clear h hm hM hD hll
  go_enter Tryz.func18, Tryz.ntmps18
  go_wp2_with fail
  refine (xblanks_any hs w H.out (Nat.zero_le _) HM.out hg).mono ?_
  rintro e w1 ⟨rfl, hb1, hf1⟩
  have HB1 := Lib.hid hb1
  have HF1 := Lib.hid hf1
  clear hb1 hf1
  go_wp2_with fail
  go_loopw [3] (fun lv wr => ∃ (p : Nat) (A : Option Addr) (c : Nat) (toks : List Tok), lv = .slice A toks.length c ∧ p ≤ s.size ∧ toks.length ≤ p ∧ Hid (scanL s.data.toList = scanAt s.data.toList p toks) ∧ Hid (ScB wr g s p mb) ∧ Hid (wr.ownsRow w.heap.size 65 5 (.slice A toks.length c) toks.length (toks.flatMap tkEnc)) ∧ Hid (Fr [g] w wr)) (fun _ wr => s.size - scI wr g)
  case atStart => exact ⟨0 + blankL false (s.data.toList.drop 0), none, 0, [], rfl, by have h1 := blankL_le (s.data.toList.drop 0) false; rw [List.length_drop, HLL.out] at h1; omega, Nat.zero_le _, Lib.hid (by rw [Nat.zero_add, List.drop_zero]; rfl), HB1, Lib.hid (World.ownsRow_nil _ _ _ _), HF1⟩
  case round =>
    obtain ⟨p, A, c, toks, rfl, hps, htp, HS, HBr, HO, HFr⟩ := hrel
    have c0 := HBr.out.c0
    have c1 := HBr.out.c1
    have cf := HBr.out.fr
    have cl := HBr.out.lt
    have hp0 : (0 : Int) ≤ p := by omega
    by_cases hlt : p < s.size
    case neg =>
      obtain rfl : p = s.size := by omega
      have hkk : ¬ (s.size : Int) < (s.size : Int) := by omega
      have HEND := Lib.hid (show scanL s.data.toList = .inr (toks ++ [⟨0, ⟨#[]⟩, s.size, s.size, 0⟩]) by rw [HS.out]; exact scanAt_end (by rw [HLL.out]; exact Nat.le_refl _))
      have hws := HFr.out.size
      go_wp2_with fail
      go_quiet (fail)
      go_wp2_with fail
      refine gen_wpT fun V hV => ?_
      have HBV := Lib.hid (show ScB V g s s.size mb by rw [← hV]; exact HBr.out)
      have HOV := Lib.hid (show V.ownsRow w.heap.size 65 5 (.slice A toks.length c) toks.length (toks.flatMap tkEnc) by rw [← hV]; exact HO.out)
      have HFV := Lib.hid (show Fr [g] w V by rw [← hV]; exact HFr.out.drewN _)
      have hVs := HFV.out.size
      clear hV c0 c1 cf cl
      refine wp_region_held_drew (S := fun w' => ScB w' g s s.size mb) (by kernel_rfl) (HBV.out) (fun hHeld => ?_)
      refine ztk 0 66 (.slice A toks.length c) hHeld ?_; simp only [Act.put, zq1, zq2, zq3]
      refine ztk 1 67 (.pointer (some ⟨g, 0, none⟩)) hHeld ?_; simp only [Act.put, zq1, zq2, zq3]
      refine ztk 2 68 (.pointer (some ⟨g, 0, none⟩)) hHeld ?_; simp only [Act.put, zq1, zq2, zq3]
      refine ztk 3 69 (.pointer (some ⟨g, 0, none⟩)) hHeld ?_; simp only [Act.put, zq1, zq2, zq3]
      refine ztk 4 70 (.string s) hHeld ?_ (hy := Or.inl ⟨by rfl, fun w' hS => (by have q := ScB.c0 hS; go_simp)⟩); simp only [Act.put, zq1, zq2, zq3]
      refine ztk 5 71 (.int .i64 (s.size : Int)) hHeld ?_; simp only [Act.put, zq1, zq2, zq3]
      refine ztk 6 72 (.pointer (some ⟨g, 0, none⟩)) hHeld ?_; simp only [Act.put, zq1, zq2, zq3]
      refine ztk 7 73 (.pointer (some ⟨g, 0, none⟩)) hHeld ?_; simp only [Act.put, zq1, zq2, zq3]
      refine ztk 8 74 (.pointer (some ⟨g, 0, none⟩)) hHeld ?_; simp only [Act.put, zq1, zq2, zq3]
      refine ztk 9 75 (.string s) hHeld ?_ (hy := Or.inl ⟨by rfl, fun w' hS => (by have q := ScB.c0 hS; go_simp)⟩); simp only [Act.put, zq1, zq2, zq3]
      refine ztk 10 76 (.int .i64 (s.size : Int)) hHeld ?_; simp only [Act.put, zq1, zq2, zq3]
      refine ztk 11 77 (.agg #[.int .i64 0, .string ⟨#[]⟩, .int .i64 (s.size : Int), .int .i64 (s.size : Int), .int .i64 0]) hHeld ?_; simp only [Act.put, zq1, zq2, zq3]
      refine zrd 12 fun K hK => ?_
      go_simp
      refine hK.out _ _ (by exact blk_alloc (by exact HBV.out) _) (fun hHeld => ?_)
      clear hK K
      try simp only [Act.put, zq1, zq2, zq3]
      refine zrd 13 fun K hK => ?_
      refine step_append_lies _ (by rfl) _ _ _ (by rfl) w.heap.size 65 iT _ 5 48 Tryz.underlying36 hiT hT0 hT1 hT2 rfl (by omega) (.slice A toks.length c) toks.length (toks.flatMap tkEnc) (by rfl) (by exact HOV.out.alloc _) ⟨V.heap.size, 0, none⟩ 1 1 (tkEnc ⟨0, ⟨#[]⟩, s.size, s.size, 0⟩) (by rfl) (by rfl) (by exact news_drew V #[.int .i64 0, .string ⟨#[]⟩, .int .i64 (s.size : Int), .int .i64 (s.size : Int), .int .i64 0] _ _ rfl) (by simp [tkEnc, Value.oneCell']) (by omega) (by unfold maxLen; omega) (by omega) (by simp; omega) (V.heap.size + 1) (by simp) ?_
      intro gb cap w12 hown12 hg12 hat12 hl12
      have HOE := Lib.hid hown12
      have HBE := Lib.hid (show ScB w12 g s s.size mb from blk_grown (blk_drew (blk_alloc (by exact HBV.out) _)) hg12 (fun e => by have h1 := own_base HOV.out g e; have h2 := HGW.out; omega))
      have HFE := Lib.hid (show Fr [g] w w12 by first | exact (HFV.out.alloc _).grown hg12 (fun gg hgg => .inr (own_base HOV.out gg hgg)) | exact (HFV.out.drew.alloc _).grown hg12 (fun gg hgg => .inr (own_base HOV.out gg hgg)) | exact ((HFV.out.alloc _).drew).grown hg12 (fun gg hgg => .inr (own_base HOV.out gg hgg)))
      clear hown12 hg12 hat12 hl12
      refine hK.out _ _ (HBE.out) (fun hHeld => ?_)
      clear hK K
      try simp only [Act.put, zq1, zq2, zq3]
      refine ztk 14 2 (.slice (some ⟨gb, 0, none⟩) (toks.length + 1) cap) hHeld ?_; simp only [Act.put, zq1, zq2, zq3]
      refine wpAnyH_done (by kernel_rfl) ?_ _
      go_wp2
      go_ret
      refine ⟨HFE.out, .inr ⟨_, (some ⟨gb, 0, none⟩), cap, HEND.out, (?_ : _ = Ending.returned (Value.slice (some ⟨gb, 0, none⟩) (toks ++ [(⟨0, ⟨#[]⟩, s.size, s.size, 0⟩ : Tok)]).length cap)), by rw [List.flatMap_append, List.length_append]; exact HOE.out, by rw [List.length_append, HLL.out]; simp; omega⟩⟩
      have e9 : (toks ++ [(⟨0, ⟨#[]⟩, s.size, s.size, 0⟩ : Tok)]).length = toks.length + 1 := by simp
      rw [e9]
      first | rfl | (simp [List.set]; done) | (trace_state; rfl)
    have hlt' : (p : Int) < (s.size : Int) := by omega
    have HMr := Lib.hid (HM.out.fr HFr.out hg)
    have HMMr := Lib.hid (show wr.ownsMap Tryz.prog 9 (plainElem Tryz.prog 3) mb nb D ∧ WMap D wordsL from ⟨HFr.out.map HMM.out.1 (by simp; exact hmg), HMM.out.2⟩)
    have hpart := fun w => part_any s[p].toNat w (UInt8.toNat_lt _)
    go_wp2_with fail
    go_quiet (fail)
    go_wp2_with fail
    go_quiet (fail)
    by_cases hpp : partN s[p].toNat = true
    case pos =>
      rw [hpp] at hpart
      have HPT := Lib.hid hpart
      have HRD := Lib.hid (show ∀ q, Calls Tryz.prog 36 #[.pointer (some ⟨g, 0, none⟩)] (wr.drewN q) (ReadOut g s p mb (wr.drewN q)) from fun q => xword_any hs (wr.drewN q) (by exact HBr.out) hlt hpp (by exact HMMr.out.1) HMMr.out.2 hmg)
      clear hpart
      go_wp2_with fail
      refine (HPT.out _).mono ?_
      rintro e w4 ⟨rfl, rfl⟩
      go_wp2_with fail
      refine (HRD.out _).mono ?_
      rintro e w5 ⟨hf, ⟨er, h1, rfl⟩ | ⟨kd, x, v, n, h1, rfl, hb⟩⟩
      · have HTB := Lib.hid (show scanL s.data.toList = .inl (p, er) by rw [HS.out]; exact scanAt_bad (by rw [HLL.out]; omega) h1)
        have HFX := Lib.hid (HFr.out.next (((Fr.refl [g] wr).drewN _).next hf))
        clear hf h1
        go_wp2
        exact ⟨rfl, HFX.out, .inl ⟨p, er, HTB.out, rfl⟩⟩
      have HLEN := Lib.hid (tokenL_len h1)
      have hnx := scanAt_on (acc := toks) (L := s.data.toList) (p := p) (by rw [HLL.out]; omega) h1
      obtain ⟨p2, hp2⟩ : ∃ p2, p2 = p + n := ⟨_, rfl⟩
      rw [← hp2] at hnx
      have HNX := Lib.hid hnx
      have HP2 := Lib.hid hp2
      clear hnx
      rw [← hp2] at hb
      have hp2s : p2 ≤ s.size := by have h2 := HLEN.out; rw [List.length_drop, HLL.out] at h2; omega
      have HB5 := Lib.hid hb
      have HF5 := Lib.hid (show Fr [g] wr w5 from ((Fr.refl [g] wr).drewN _).next hf)
      have HO5 := Lib.hid (HF5.out.own HO.out (fun g' hg' => by have h1 := own_base HO.out g' hg'; have h2 := HGW.out; simp; omega))
      have h5s := HF5.out.size
      unfold tokV
      clear hf h1 hb hp2 c0 c1 cf cl
      obtain ⟨bt, hbt⟩ : ∃ b, b = w5.heap.size := ⟨_, rfl⟩
      go_upto_region 13 with fail
      rw [← hbt]
      refine gen_wpT fun V hV => ?_
      have HTV := Lib.hid (show V.heap[bt]? = some (.cells #[.int .i64 kd, .string x, .int .i64 0, .int .i64 0, .int .i64 v] 65 (0, 0)) by rw [← hV, hbt]; exact heap_new_at _ _ _ rfl)
      have HBV := Lib.hid (show ScB V g s p2 mb by rw [← hV]; exact blk_alloc HB5.out _)
      have HFV := Lib.hid (show Fr [g] wr V by rw [← hV]; exact HF5.out.alloc _)
      have HOV := Lib.hid (show V.ownsRow w.heap.size 65 5 (.slice A toks.length c) toks.length (toks.flatMap tkEnc) by rw [← hV]; exact HO5.out.alloc _)
      have HBT := Lib.hid (show bt ≠ g ∧ w.heap.size ≤ bt ∧ wr.heap.size ≤ bt by have h1 := HB5.out.lt; have h2 := HFr.out.size; exact ⟨by omega, by omega, by omega⟩)
      have t0 := cell_of_blk (i := 0) HTV.out rfl
      have t1 := cell_of_blk (i := 1) HTV.out rfl
      have t2 := cell_of_blk (i := 2) HTV.out rfl
      have t3 := cell_of_blk (i := 3) HTV.out rfl
      have t4 := cell_of_blk (i := 4) HTV.out rfl
      have tf0 := free_of_blk (i := 0) HTV.out
      have tf2 := free_of_blk (i := 2) HTV.out
      have tf3 := free_of_blk (i := 3) HTV.out
      have tl := blk_lt HTV.out
      have c1 := HBV.out.c1
      have cl := HBV.out.lt
      have ntg := HBT.out.1
      clear hV hbt
      go_region
      all_goals
        go_upto_region 14 with fail
        refine gen_wpT fun U hU => ?_
        have HTU := Lib.hid (show U.heap[bt]? = some (.cells #[.int .i64 kd, .string x, .int .i64 (p : Int), .int .i64 (p2 : Int), .int .i64 v] 65 (0, 0)) by rw [← hU]; first | exact blk_set (i := 3) (blk_set (i := 2) HTV.out _) _ | exact blk_set (i := 2) (blk_set (i := 3) HTV.out _) _)
        have HBU := Lib.hid (show ScB U g s p2 mb by rw [← hU]; first | exact blk_far (a := ⟨bt, 3, none⟩) (blk_far (a := ⟨bt, 2, none⟩) HBV.out HBT.out.1.symm _) HBT.out.1.symm _ | exact blk_far (a := ⟨bt, 2, none⟩) (blk_far (a := ⟨bt, 3, none⟩) HBV.out HBT.out.1.symm _) HBT.out.1.symm _)
        have HFW := Lib.hid (show Fr [g] wr U by rw [← hU]; first | exact ((HFV.out.set (a := ⟨bt, 2, none⟩) _ (.inr HBT.out.2.2)).set (a := ⟨bt, 3, none⟩) _ (.inr HBT.out.2.2)).drew | exact ((HFV.out.set (a := ⟨bt, 3, none⟩) _ (.inr HBT.out.2.2)).set (a := ⟨bt, 2, none⟩) _ (.inr HBT.out.2.2)).drew | exact ((HFV.out.set (a := ⟨bt, 2, none⟩) _ (.inr HBT.out.2.2)).set (a := ⟨bt, 3, none⟩) _ (.inr HBT.out.2.2)) | exact ((HFV.out.set (a := ⟨bt, 3, none⟩) _ (.inr HBT.out.2.2)).set (a := ⟨bt, 2, none⟩) _ (.inr HBT.out.2.2)))
        have HOU := Lib.hid (HFW.out.own HO.out (fun g' hg' => by have h1 := own_base HO.out g' hg'; have h2 := HGW.out; simp; omega))
        clear hU t0 t1 t2 t3 t4 tf0 tf2 tf3 tl c1 cl
        have u0 := cell_of_blk (i := 0) HTU.out rfl
        have u1 := cell_of_blk (i := 1) HTU.out rfl
        have u2 := cell_of_blk (i := 2) HTU.out rfl
        have u3 := cell_of_blk (i := 3) HTU.out rfl
        have u4 := cell_of_blk (i := 4) HTU.out rfl
        have ul := blk_lt HTU.out
        have hUs := HFW.out.size
        have hws := HFr.out.size
        go_wp2_with (at_builtin; refine wpList_append_own _ rfl _ _ 36 rfl w.heap.size 65 iT _ 5 48 Tryz.underlying36 hiT hT0 hT1 hT2 rfl (by decide) _ _ _ rfl (HOU.out.alloc _) ⟨U.heap.size, 0, none⟩ 1 1 (tkEnc ⟨kd, x, p, p2, v⟩) rfl rfl (World.news_of_block (heap_alloc_new _ _)) (by simp [tkEnc, Value.oneCell']) (by unfold maxLen; omega) (by omega) (by simp; omega) ?_; intro v' w6 hown6 hg6 _; obtain ⟨A6, c6, rfl, _, _, _⟩ := own_form hown6; have HO6 := Lib.hid hown6; have HB6 := Lib.hid (show ScB w6 g s p2 mb from blk_grown (blk_alloc HBU.out _) hg6 (fun e => by have h1 := own_base HOU.out g e; have h2 := HGW.out; omega)); have HF6 := Lib.hid (((HFr.out.next HFW.out).alloc _).grown hg6 (fun gg hgg => .inr (own_base HOU.out gg hgg))); clear hown6 hg6)
        refine (xblanks_any hs w6 HB6.out hp2s (HM.out.fr HF6.out hg) hg).mono ?_
        rintro e w7 ⟨rfl, hb7, hf7⟩
        obtain ⟨p3, hp3⟩ : ∃ p3, p3 = p2 + blankL false (s.data.toList.drop p2) := ⟨_, rfl⟩
        rw [← hp3] at hb7
        have HP3 := Lib.hid hp3
        have HB7 := Lib.hid hb7
        have HF7 := Lib.hid (HF6.out.next hf7)
        have HO7 := Lib.hid (hf7.own HO6.out (fun g' hg' => by have h1 := own_base HO6.out g' hg'; have h2 := HGW.out; simp; omega))
        clear hb7 hf7 hp3
        go_wp2_with fail
        go_roundw
        case rel => exact ⟨p3, A6, c6, toks ++ [⟨kd, x, p, p2, v⟩], by rw [List.length_append]; rfl, by have h1 := blankL_le (s.data.toList.drop p2) false; rw [List.length_drop, HLL.out] at h1; have h2 := HP3.out; omega, by rw [List.length_append]; have h1 := HLEN.out; have h2 := HP3.out; have h3 := HP2.out; simp; omega, Lib.hid (by rw [HS.out, HNX.out, ← HP3.out]), HB7, Lib.hid (by rw [List.length_append, List.flatMap_append]; exact HO7.out), HF7⟩
        case measure =>
          rw [scI_of HBr.out, scI_of HB7.out]
          have h1 := HLEN.out; have h2 := HP3.out; have h3 := HP2.out
          omega
    have hpf : partN s[p].toNat = false := by cases h : partN s[p].toNat with | false => rfl | true => exact (hpp h).elim
    rw [hpf] at hpart
    have HPT := Lib.hid hpart
    clear hpart
    by_cases h34 : s[p] = 34
    case pos =>
      have q34 : ((s[p].toNat : Int) == 34) = true := by rw [h34]; rfl
      have HRD := Lib.hid (show ∀ q, Calls Tryz.prog 37 #[.pointer (some ⟨g, 0, none⟩)] (wr.drewN q) (ReadOut g s p mb (wr.drewN q)) from fun q => xtext_any hs (wr.drewN q) (by exact HBr.out) hlt h34)
      clear hpp hpf h34
      go_wp2_with fail
      refine (HPT.out _).mono ?_
      rintro e w4 ⟨rfl, rfl⟩
      go_wp2_with fail
      refine (HRD.out _).mono ?_
      rintro e w5 ⟨hf, ⟨er, h1, rfl⟩ | ⟨kd, x, v, n, h1, rfl, hb⟩⟩
      · have HTB := Lib.hid (show scanL s.data.toList = .inl (p, er) by rw [HS.out]; exact scanAt_bad (by rw [HLL.out]; omega) h1)
        have HFX := Lib.hid (HFr.out.next (((Fr.refl [g] wr).drewN _).next hf))
        clear hf h1
        go_wp2
        exact ⟨rfl, HFX.out, .inl ⟨p, er, HTB.out, rfl⟩⟩
      have HLEN := Lib.hid (tokenL_len h1)
      have hnx := scanAt_on (acc := toks) (L := s.data.toList) (p := p) (by rw [HLL.out]; omega) h1
      obtain ⟨p2, hp2⟩ : ∃ p2, p2 = p + n := ⟨_, rfl⟩
      rw [← hp2] at hnx
      have HNX := Lib.hid hnx
      have HP2 := Lib.hid hp2
      clear hnx
      rw [← hp2] at hb
      have hp2s : p2 ≤ s.size := by have h2 := HLEN.out; rw [List.length_drop, HLL.out] at h2; omega
      have HB5 := Lib.hid hb
      have HF5 := Lib.hid (show Fr [g] wr w5 from ((Fr.refl [g] wr).drewN _).next hf)
      have HO5 := Lib.hid (HF5.out.own HO.out (fun g' hg' => by have h1 := own_base HO.out g' hg'; have h2 := HGW.out; simp; omega))
      have h5s := HF5.out.size
      unfold tokV
      clear hf h1 hb hp2 c0 c1 cf cl
      obtain ⟨bt, hbt⟩ : ∃ b, b = w5.heap.size := ⟨_, rfl⟩
      go_upto_region 13 with fail
      rw [← hbt]
      refine gen_wpT fun V hV => ?_
      have HTV := Lib.hid (show V.heap[bt]? = some (.cells #[.int .i64 kd, .string x, .int .i64 0, .int .i64 0, .int .i64 v] 65 (0, 0)) by rw [← hV, hbt]; exact heap_new_at _ _ _ rfl)
      have HBV := Lib.hid (show ScB V g s p2 mb by rw [← hV]; exact blk_alloc HB5.out _)
      have HFV := Lib.hid (show Fr [g] wr V by rw [← hV]; exact HF5.out.alloc _)
      have HOV := Lib.hid (show V.ownsRow w.heap.size 65 5 (.slice A toks.length c) toks.length (toks.flatMap tkEnc) by rw [← hV]; exact HO5.out.alloc _)
      have HBT := Lib.hid (show bt ≠ g ∧ w.heap.size ≤ bt ∧ wr.heap.size ≤ bt by have h1 := HB5.out.lt; have h2 := HFr.out.size; exact ⟨by omega, by omega, by omega⟩)
      have t0 := cell_of_blk (i := 0) HTV.out rfl
      have t1 := cell_of_blk (i := 1) HTV.out rfl
      have t2 := cell_of_blk (i := 2) HTV.out rfl
      have t3 := cell_of_blk (i := 3) HTV.out rfl
      have t4 := cell_of_blk (i := 4) HTV.out rfl
      have tf0 := free_of_blk (i := 0) HTV.out
      have tf2 := free_of_blk (i := 2) HTV.out
      have tf3 := free_of_blk (i := 3) HTV.out
      have tl := blk_lt HTV.out
      have c1 := HBV.out.c1
      have cl := HBV.out.lt
      have ntg := HBT.out.1
      clear hV hbt
      go_region
      all_goals
        go_upto_region 14 with fail
        refine gen_wpT fun U hU => ?_
        have HTU := Lib.hid (show U.heap[bt]? = some (.cells #[.int .i64 kd, .string x, .int .i64 (p : Int), .int .i64 (p2 : Int), .int .i64 v] 65 (0, 0)) by rw [← hU]; first | exact blk_set (i := 3) (blk_set (i := 2) HTV.out _) _ | exact blk_set (i := 2) (blk_set (i := 3) HTV.out _) _)
        have HBU := Lib.hid (show ScB U g s p2 mb by rw [← hU]; first | exact blk_far (a := ⟨bt, 3, none⟩) (blk_far (a := ⟨bt, 2, none⟩) HBV.out HBT.out.1.symm _) HBT.out.1.symm _ | exact blk_far (a := ⟨bt, 2, none⟩) (blk_far (a := ⟨bt, 3, none⟩) HBV.out HBT.out.1.symm _) HBT.out.1.symm _)
        have HFW := Lib.hid (show Fr [g] wr U by rw [← hU]; first | exact ((HFV.out.set (a := ⟨bt, 2, none⟩) _ (.inr HBT.out.2.2)).set (a := ⟨bt, 3, none⟩) _ (.inr HBT.out.2.2)).drew | exact ((HFV.out.set (a := ⟨bt, 3, none⟩) _ (.inr HBT.out.2.2)).set (a := ⟨bt, 2, none⟩) _ (.inr HBT.out.2.2)).drew | exact ((HFV.out.set (a := ⟨bt, 2, none⟩) _ (.inr HBT.out.2.2)).set (a := ⟨bt, 3, none⟩) _ (.inr HBT.out.2.2)) | exact ((HFV.out.set (a := ⟨bt, 3, none⟩) _ (.inr HBT.out.2.2)).set (a := ⟨bt, 2, none⟩) _ (.inr HBT.out.2.2)))
        have HOU := Lib.hid (HFW.out.own HO.out (fun g' hg' => by have h1 := own_base HO.out g' hg'; have h2 := HGW.out; simp; omega))
        clear hU t0 t1 t2 t3 t4 tf0 tf2 tf3 tl c1 cl
        have u0 := cell_of_blk (i := 0) HTU.out rfl
        have u1 := cell_of_blk (i := 1) HTU.out rfl
        have u2 := cell_of_blk (i := 2) HTU.out rfl
        have u3 := cell_of_blk (i := 3) HTU.out rfl
        have u4 := cell_of_blk (i := 4) HTU.out rfl
        have ul := blk_lt HTU.out
        have hUs := HFW.out.size
        have hws := HFr.out.size
        go_wp2_with (at_builtin; refine wpList_append_own _ rfl _ _ 36 rfl w.heap.size 65 iT _ 5 48 Tryz.underlying36 hiT hT0 hT1 hT2 rfl (by decide) _ _ _ rfl (HOU.out.alloc _) ⟨U.heap.size, 0, none⟩ 1 1 (tkEnc ⟨kd, x, p, p2, v⟩) rfl rfl (World.news_of_block (heap_alloc_new _ _)) (by simp [tkEnc, Value.oneCell']) (by unfold maxLen; omega) (by omega) (by simp; omega) ?_; intro v' w6 hown6 hg6 _; obtain ⟨A6, c6, rfl, _, _, _⟩ := own_form hown6; have HO6 := Lib.hid hown6; have HB6 := Lib.hid (show ScB w6 g s p2 mb from blk_grown (blk_alloc HBU.out _) hg6 (fun e => by have h1 := own_base HOU.out g e; have h2 := HGW.out; omega)); have HF6 := Lib.hid (((HFr.out.next HFW.out).alloc _).grown hg6 (fun gg hgg => .inr (own_base HOU.out gg hgg))); clear hown6 hg6)
        refine (xblanks_any hs w6 HB6.out hp2s (HM.out.fr HF6.out hg) hg).mono ?_
        rintro e w7 ⟨rfl, hb7, hf7⟩
        obtain ⟨p3, hp3⟩ : ∃ p3, p3 = p2 + blankL false (s.data.toList.drop p2) := ⟨_, rfl⟩
        rw [← hp3] at hb7
        have HP3 := Lib.hid hp3
        have HB7 := Lib.hid hb7
        have HF7 := Lib.hid (HF6.out.next hf7)
        have HO7 := Lib.hid (hf7.own HO6.out (fun g' hg' => by have h1 := own_base HO6.out g' hg'; have h2 := HGW.out; simp; omega))
        clear hb7 hf7 hp3
        go_wp2_with fail
        go_roundw
        case rel => exact ⟨p3, A6, c6, toks ++ [⟨kd, x, p, p2, v⟩], by rw [List.length_append]; rfl, by have h1 := blankL_le (s.data.toList.drop p2) false; rw [List.length_drop, HLL.out] at h1; have h2 := HP3.out; omega, by rw [List.length_append]; have h1 := HLEN.out; have h2 := HP3.out; have h3 := HP2.out; simp; omega, Lib.hid (by rw [HS.out, HNX.out, ← HP3.out]), HB7, Lib.hid (by rw [List.length_append, List.flatMap_append]; exact HO7.out), HF7⟩
        case measure =>
          rw [scI_of HBr.out, scI_of HB7.out]
          have h1 := HLEN.out; have h2 := HP3.out; have h3 := HP2.out
          omega
    have q34 : ((s[p].toNat : Int) == 34) = false := u8_lit (n := 34) (by decide) h34
    have HRD := Lib.hid (show ∀ q, Calls Tryz.prog 38 #[.pointer (some ⟨g, 0, none⟩)] (wr.drewN q) (ReadOut g s p mb (wr.drewN q)) from fun q => xsign_any hs (wr.drewN q) (by exact HBr.out) hlt hpf h34 (by exact HMr.out) hg)
    clear hpp hpf h34
    go_wp2_with fail
    refine (HPT.out _).mono ?_
    rintro e w4 ⟨rfl, rfl⟩
    go_wp2_with fail
    refine (HRD.out _).mono ?_
    rintro e w5 ⟨hf, ⟨er, h1, rfl⟩ | ⟨kd, x, v, n, h1, rfl, hb⟩⟩
    · have HTB := Lib.hid (show scanL s.data.toList = .inl (p, er) by rw [HS.out]; exact scanAt_bad (by rw [HLL.out]; omega) h1)
      have HFX := Lib.hid (HFr.out.next (((Fr.refl [g] wr).drewN _).next hf))
      clear hf h1
      go_wp2
      exact ⟨rfl, HFX.out, .inl ⟨p, er, HTB.out, rfl⟩⟩
    have HLEN := Lib.hid (tokenL_len h1)
    have hnx := scanAt_on (acc := toks) (L := s.data.toList) (p := p) (by rw [HLL.out]; omega) h1
    obtain ⟨p2, hp2⟩ : ∃ p2, p2 = p + n := ⟨_, rfl⟩
    rw [← hp2] at hnx
    have HNX := Lib.hid hnx
    have HP2 := Lib.hid hp2
    clear hnx
    rw [← hp2] at hb
    have hp2s : p2 ≤ s.size := by have h2 := HLEN.out; rw [List.length_drop, HLL.out] at h2; omega
    have HB5 := Lib.hid hb
    have HF5 := Lib.hid (show Fr [g] wr w5 from ((Fr.refl [g] wr).drewN _).next hf)
    have HO5 := Lib.hid (HF5.out.own HO.out (fun g' hg' => by have h1 := own_base HO.out g' hg'; have h2 := HGW.out; simp; omega))
    have h5s := HF5.out.size
    unfold tokV
    clear hf h1 hb hp2 c0 c1 cf cl
    obtain ⟨bt, hbt⟩ : ∃ b, b = w5.heap.size := ⟨_, rfl⟩
    go_upto_region 13 with fail
    rw [← hbt]
    refine gen_wpT fun V hV => ?_
    have HTV := Lib.hid (show V.heap[bt]? = some (.cells #[.int .i64 kd, .string x, .int .i64 0, .int .i64 0, .int .i64 v] 65 (0, 0)) by rw [← hV, hbt]; exact heap_new_at _ _ _ rfl)
    have HBV := Lib.hid (show ScB V g s p2 mb by rw [← hV]; exact blk_alloc HB5.out _)
    have HFV := Lib.hid (show Fr [g] wr V by rw [← hV]; exact HF5.out.alloc _)
    have HOV := Lib.hid (show V.ownsRow w.heap.size 65 5 (.slice A toks.length c) toks.length (toks.flatMap tkEnc) by rw [← hV]; exact HO5.out.alloc _)
    have HBT := Lib.hid (show bt ≠ g ∧ w.heap.size ≤ bt ∧ wr.heap.size ≤ bt by have h1 := HB5.out.lt; have h2 := HFr.out.size; exact ⟨by omega, by omega, by omega⟩)
    have t0 := cell_of_blk (i := 0) HTV.out rfl
    have t1 := cell_of_blk (i := 1) HTV.out rfl
    have t2 := cell_of_blk (i := 2) HTV.out rfl
    have t3 := cell_of_blk (i := 3) HTV.out rfl
    have t4 := cell_of_blk (i := 4) HTV.out rfl
    have tf0 := free_of_blk (i := 0) HTV.out
    have tf2 := free_of_blk (i := 2) HTV.out
    have tf3 := free_of_blk (i := 3) HTV.out
    have tl := blk_lt HTV.out
    have c1 := HBV.out.c1
    have cl := HBV.out.lt
    have ntg := HBT.out.1
    clear hV hbt
    go_region
    all_goals
      go_upto_region 14 with fail
      refine gen_wpT fun U hU => ?_
      have HTU := Lib.hid (show U.heap[bt]? = some (.cells #[.int .i64 kd, .string x, .int .i64 (p : Int), .int .i64 (p2 : Int), .int .i64 v] 65 (0, 0)) by rw [← hU]; first | exact blk_set (i := 3) (blk_set (i := 2) HTV.out _) _ | exact blk_set (i := 2) (blk_set (i := 3) HTV.out _) _)
      have HBU := Lib.hid (show ScB U g s p2 mb by rw [← hU]; first | exact blk_far (a := ⟨bt, 3, none⟩) (blk_far (a := ⟨bt, 2, none⟩) HBV.out HBT.out.1.symm _) HBT.out.1.symm _ | exact blk_far (a := ⟨bt, 2, none⟩) (blk_far (a := ⟨bt, 3, none⟩) HBV.out HBT.out.1.symm _) HBT.out.1.symm _)
      have HFW := Lib.hid (show Fr [g] wr U by rw [← hU]; first | exact ((HFV.out.set (a := ⟨bt, 2, none⟩) _ (.inr HBT.out.2.2)).set (a := ⟨bt, 3, none⟩) _ (.inr HBT.out.2.2)).drew | exact ((HFV.out.set (a := ⟨bt, 3, none⟩) _ (.inr HBT.out.2.2)).set (a := ⟨bt, 2, none⟩) _ (.inr HBT.out.2.2)).drew | exact ((HFV.out.set (a := ⟨bt, 2, none⟩) _ (.inr HBT.out.2.2)).set (a := ⟨bt, 3, none⟩) _ (.inr HBT.out.2.2)) | exact ((HFV.out.set (a := ⟨bt, 3, none⟩) _ (.inr HBT.out.2.2)).set (a := ⟨bt, 2, none⟩) _ (.inr HBT.out.2.2)))
      have HOU := Lib.hid (HFW.out.own HO.out (fun g' hg' => by have h1 := own_base HO.out g' hg'; have h2 := HGW.out; simp; omega))
      clear hU t0 t1 t2 t3 t4 tf0 tf2 tf3 tl c1 cl
      have u0 := cell_of_blk (i := 0) HTU.out rfl
      have u1 := cell_of_blk (i := 1) HTU.out rfl
      have u2 := cell_of_blk (i := 2) HTU.out rfl
      have u3 := cell_of_blk (i := 3) HTU.out rfl
      have u4 := cell_of_blk (i := 4) HTU.out rfl
      have ul := blk_lt HTU.out
      have hUs := HFW.out.size
      have hws := HFr.out.size
      go_wp2_with (at_builtin; refine wpList_append_own _ rfl _ _ 36 rfl w.heap.size 65 iT _ 5 48 Tryz.underlying36 hiT hT0 hT1 hT2 rfl (by decide) _ _ _ rfl (HOU.out.alloc _) ⟨U.heap.size, 0, none⟩ 1 1 (tkEnc ⟨kd, x, p, p2, v⟩) rfl rfl (World.news_of_block (heap_alloc_new _ _)) (by simp [tkEnc, Value.oneCell']) (by unfold maxLen; omega) (by omega) (by simp; omega) ?_; intro v' w6 hown6 hg6 _; obtain ⟨A6, c6, rfl, _, _, _⟩ := own_form hown6; have HO6 := Lib.hid hown6; have HB6 := Lib.hid (show ScB w6 g s p2 mb from blk_grown (blk_alloc HBU.out _) hg6 (fun e => by have h1 := own_base HOU.out g e; have h2 := HGW.out; omega)); have HF6 := Lib.hid (((HFr.out.next HFW.out).alloc _).grown hg6 (fun gg hgg => .inr (own_base HOU.out gg hgg))); clear hown6 hg6)
      refine (xblanks_any hs w6 HB6.out hp2s (HM.out.fr HF6.out hg) hg).mono ?_
      rintro e w7 ⟨rfl, hb7, hf7⟩
      obtain ⟨p3, hp3⟩ : ∃ p3, p3 = p2 + blankL false (s.data.toList.drop p2) := ⟨_, rfl⟩
      rw [← hp3] at hb7
      have HP3 := Lib.hid hp3
      have HB7 := Lib.hid hb7
      have HF7 := Lib.hid (HF6.out.next hf7)
      have HO7 := Lib.hid (hf7.own HO6.out (fun g' hg' => by have h1 := own_base HO6.out g' hg'; have h2 := HGW.out; simp; omega))
      clear hb7 hf7 hp3
      go_wp2_with fail
      go_roundw
      case rel => exact ⟨p3, A6, c6, toks ++ [⟨kd, x, p, p2, v⟩], by rw [List.length_append]; rfl, by have h1 := blankL_le (s.data.toList.drop p2) false; rw [List.length_drop, HLL.out] at h1; have h2 := HP3.out; omega, by rw [List.length_append]; have h1 := HLEN.out; have h2 := HP3.out; have h3 := HP2.out; simp; omega, Lib.hid (by rw [HS.out, HNX.out, ← HP3.out]), HB7, Lib.hid (by rw [List.length_append, List.flatMap_append]; exact HO7.out), HF7⟩
      case measure =>
        rw [scI_of HBr.out, scI_of HB7.out]
        have h1 := HLEN.out; have h2 := HP3.out; have h3 := HP2.out
        omega

structure PaK where
  T : List Tok
  A : Option Addr
  c : Nat
  M : Nat
  rb : Nat
  rn : Nat
  D : DataW Unit
def RankOk (D : DataW Unit) : Prop := ∀ s : ByteArray, D.atKey (.string s.data.toList) (.lit (.int .i64 0)) = .lit (.int .i64 (rankL s : Int))
theorem Below.cellAt {w w' : World} {B g i : Nat} (hb : Below B w w') (hg : g < B) : w'.cell? ⟨g, i, none⟩ = w.cell? ⟨g, i, none⟩ := by simp only [World.cell?, hb.block g hg]
theorem tab_low {w w' : World} {B : Nat} (h : Tab w) (hg : 2 < B) (hb : Below B w w') : Tab w' := by
  unfold Tab Lib.TabIs World.var? at h ⊢
  rw [g_pow10] at h ⊢
  simp only [Option.bind_some] at h ⊢
  rw [hb.block _ hg]
  exact h
theorem max_low {w w' : World} {B : Nat} {m : Int} (h : MaxC w m) (hg : 3 < B) (hb : Below B w w') : MaxC w' m := ⟨(Below.cellAt hb hg).trans h.1, Nat.lt_of_lt_of_le h.2 hb.size⟩
structure PaEnv (K : PaK) (w : World) (p : Nat) : Prop where
  tok : TokOk K.T K.M
  len : K.T.length ≤ 200000
  txt : ∀ i, (tk K.T i).text.size ≤ 200000
  toks : Reads w p K.A (K.T.flatMap tkEnc)
  rlt : K.rb < p
  rk : w.ownsMap Tryz.prog 9 (plainElem Tryz.prog 3) K.rb K.rn K.D
  rks : RankOk K.D
  plt : p < w.heap.size
  tab : Tab w
  glt : 2 < p
  max : ∃ m, MaxC w m
  mlt : 3 < p
def natV (k : Nat) : Value := .int .i64 (k : Int)
structure NdM where
  nd : Nd
  A : Option Addr
  c : Nat
def ndEnc (x : NdM) : List Value := [.int .i64 x.nd.kind, .string x.nd.text, .slice x.A x.nd.kids.length x.c, .int .i64 (x.nd.a : Int)]
theorem ndEnc_len (x : NdM) : (ndEnc x).length = 4 := rfl
def NdKid (w : World) (p : Nat) (x : NdM) : Prop := w.ownsRow (p + 1) 3 1 (.slice x.A x.nd.kids.length x.c) x.nd.kids.length (x.nd.kids.map natV)
def PaBlk (K : PaK) (i o : Nat) (nv : Value) (sn : Fin 8 → Bool) : Obj := .cells #[.slice K.A K.T.length K.c, .int .i64 (i : Int), nv, .int .i64 (o : Int), .map (some K.rb), .bool (sn 0), .bool (sn 1), .bool (sn 2), .bool (sn 3), .bool (sn 4), .bool (sn 5), .bool (sn 6), .bool (sn 7)] 47 (0, 0)
structure PaMem (K : PaK) (w : World) (p i o : Nat) (sn : Fin 8 → Bool) (ns : List Nd) (fp : List Nat) (nv : Value) (l : List NdM) : Prop where
  blk : w.heap[p]? = some (PaBlk K i o nv sn)
  own : w.ownsRow (p + 1) 31 4 nv ns.length (l.flatMap ndEnc)
  nds : l.map NdM.nd = ns
  kid : ∀ x ∈ l, NdKid w p x
  fpp : p ∈ fp
  fpo : ∀ g, nv.ownBlock = some g → g ∈ fp
  fpk : ∀ x ∈ l, ∀ g, (Value.slice x.A x.nd.kids.length x.c).ownBlock = some g → g ∈ fp
  fpb : ∀ b ∈ fp, p ≤ b ∧ b < w.heap.size
structure PaAt (K : PaK) (w : World) (p i o : Nat) (sn : Fin 8 → Bool) (ns : List Nd) (fp : List Nat) : Prop where
  env : PaEnv K w p
  mem : ∃ nv l, PaMem K w p i o sn ns fp nv l
structure PaTo (w : World) (fp : List Nat) (w' : World) (fp' : List Nat) : Prop where
  fr : Fr fp w w'
  new : ∀ b ∈ fp', b ∈ fp ∨ w.heap.size ≤ b
theorem PaTo.refl (w : World) (fp : List Nat) : PaTo w fp w fp := ⟨Fr.refl _ _, fun b h => .inl h⟩
theorem PaTo.trans {w w1 w2 : World} {fp fp1 fp2 : List Nat} (h : PaTo w fp w1 fp1) (k : PaTo w1 fp1 w2 fp2) : PaTo w fp w2 fp2 :=
  ⟨h.fr.trans k.fr h.new, fun b hb => (k.new b hb).elim (h.new b) fun h' => .inr (Nat.le_trans h.fr.size h')⟩
section
variable {K : PaK} {w w' : World} {p i o : Nat} {sn : Fin 8 → Bool} {ns : List Nd} {fp fp' : List Nat} {nv : Value} {l : List NdM}
theorem PaEnv.below (h : PaEnv K w p) (hb : Below p w w') : PaEnv K w' p :=
  ⟨h.tok, h.len, h.txt, h.toks.below hb, h.rlt, by
    obtain ⟨es, clock, hh, r⟩ := h.rk
    exact ⟨es, clock, (hb.block _ h.rlt).trans hh, r⟩, h.rks, Nat.lt_of_lt_of_le h.plt hb.size, tab_low h.tab h.glt hb, h.glt, by obtain ⟨m, hm⟩ := h.max; exact ⟨m, max_low hm h.mlt hb⟩, h.mlt⟩
theorem PaMem.fr (h : PaMem K w p i o sn ns fp nv l) {S : List Nat} (hf : Fr S w w') (hs : ∀ b ∈ S, b ∉ fp) : PaMem K w' p i o sn ns fp nv l :=
  ⟨hf.blk h.blk fun e => hs _ e h.fpp, hf.own h.own fun g hg e => hs g e (h.fpo g hg), h.nds, fun x hx => hf.own (h.kid x hx) fun g hg e => hs g e (h.fpk x hx g hg), h.fpp, h.fpo, h.fpk, fun b hb => ⟨(h.fpb b hb).1, Nat.lt_of_lt_of_le (h.fpb b hb).2 hf.size⟩⟩
theorem PaAt.fr (h : PaAt K w p i o sn ns fp) {S : List Nat} (hf : Fr S w w') (hs : ∀ b ∈ S, p ≤ b ∧ b ∉ fp) : PaAt K w' p i o sn ns fp := by
  obtain ⟨nv, l, hm⟩ := h.mem
  exact ⟨h.env.below (hf.to_below (Nat.le_of_lt h.env.plt) fun b hb => (hs b hb).1), nv, l, hm.fr hf fun b hb => (hs b hb).2⟩
theorem PaAt.below (h : PaAt K w p i o sn ns fp) (hb : Below w.heap.size w w') : PaAt K w' p i o sn ns fp := h.fr (S := []) (Fr.of_below hb []) (by simp)
theorem PaAt.fpb (h : PaAt K w p i o sn ns fp) : ∀ b ∈ fp, p ≤ b ∧ b < w.heap.size := by obtain ⟨nv, l, hm⟩ := h.mem; exact hm.fpb
theorem PaAt.fpp (h : PaAt K w p i o sn ns fp) : p ∈ fp := by obtain ⟨nv, l, hm⟩ := h.mem; exact hm.fpp
theorem PaAt.lt (h : PaAt K w p i o sn ns fp) : p < w.heap.size := h.env.plt
theorem PaAt.notin (h : PaAt K w p i o sn ns fp) {b : Nat} (hb : w.heap.size ≤ b) : b ∉ fp := fun e => by have := (h.fpb b e).2; omega
def Away (w : World) (p : Nat) (fp : List Nat) (b : Nat) : Prop := p ≤ b ∧ b < w.heap.size ∧ b ∉ fp
theorem Away.to {b : Nat} (h : Away w p fp b) (k : PaTo w fp w' fp') : Away w' p fp' b := ⟨h.1, Nat.lt_of_lt_of_le h.2.1 k.fr.size, fun e => (k.new b e).elim h.2.2 fun h' => by have := h.2.1; omega⟩
theorem Away.new (h : PaAt K w p i o sn ns fp) {b : Nat} (hb : w.heap.size ≤ b) (hb' : b < w'.heap.size) : Away w' p fp b := ⟨by have := h.lt; omega, hb', h.notin hb⟩
theorem Away.on {b : Nat} (h : Away w p fp b) (hs : w.heap.size ≤ w'.heap.size) : Away w' p fp b := ⟨h.1, Nat.lt_of_lt_of_le h.2.1 hs, h.2.2⟩
theorem PaTo.blk (k : PaTo w fp w' fp') {b : Nat} {ob : Obj} (hb : w.heap[b]? = some ob) (h : Away w p fp b) : w'.heap[b]? = some ob := k.fr.blk hb h.2.2
theorem PaTo.below (k : PaTo w fp w' fp') (h : PaAt K w p i o sn ns fp) : Below p w w' := k.fr.to_below (Nat.le_of_lt h.lt) fun b hb => (h.fpb b hb).1
end
structure Ints (w : World) (p : Nat) (fp : List Nat) (v : Value) (l : List Nat) : Prop where
  own : w.ownsRow (p + 1) 3 1 v l.length (l.map natV)
  away : ∀ g, v.ownBlock = some g → Away w p fp g
  nil_ : l = [] → v = .slice none 0 0
theorem Ints.nil (w : World) (p : Nat) (fp : List Nat) : Ints w p fp (.slice none 0 0) [] := ⟨World.ownsRow_nil _ _ _ _, fun g hg => by simp [Value.ownBlock] at hg, fun _ => rfl⟩
theorem Ints.to {w w' : World} {p : Nat} {fp fp' : List Nat} {v : Value} {l : List Nat} (h : Ints w p fp v l) (k : PaTo w fp w' fp') : Ints w' p fp' v l :=
  ⟨k.fr.own h.own fun g hg => (h.away g hg).2.2, fun g hg => (h.away g hg).to k, h.nil_⟩
def wrongP (a e : Nat) : List PanicEntry := [{ v := .iface 40 (.agg #[.int .i64 (a : Int), .int .i64 (e : Int)]), recovered := false }]
def OutP (K : PaK) (w : World) (p o : Nat) (sn : Fin 8 → Bool) (ns : List Nd) (fp : List Nat) : Res PT → Ending → World → Prop
  | .bad a e => fun en w' => en = .panicked (wrongP a e) ∧ Below p w w'
  | .ok t j => fun en w' => en = .returned (natV (ns.length + ptS t - 1)) ∧ ∃ fp', PaAt K w' p j o sn (ns ++ flat ns.length t) fp' ∧ PaTo w fp w' fp'
def OutL (K : PaK) (w : World) (p o : Nat) (sn : Fin 8 → Bool) (ns : List Nd) (fp : List Nat) : Res (List PT) → Ending → World → Prop
  | .bad a e => fun en w' => en = .panicked (wrongP a e) ∧ Below p w w'
  | .ok l j => fun en w' => ∃ v fp', en = .returned v ∧ PaAt K w' p j o sn (ns ++ flats ns.length l) fp' ∧ PaTo w fp w' fp' ∧ Ints w' p fp' v (roots ns.length l) ∧ ∀ g, v.ownBlock = some g → w.heap.size ≤ g
def Room (K : PaK) (i : Nat) (ns : List Nd) : Prop := i < K.T.length ∧ ns.length + 4 * (K.T.length - i) ≤ 900000

section
variable {K : PaK} {w w' : World} {p i o : Nat} {sn : Fin 8 → Bool} {ns : List Nd} {fp fp' : List Nat} {nv : Value} {l : List NdM}
theorem pa_cell {nv : Value} (h : w.heap[p]? = some (PaBlk K i o nv sn)) : w.cell? ⟨p, 0, none⟩ = some (.slice K.A K.T.length K.c) ∧ w.cell? ⟨p, 1, none⟩ = some (.int .i64 (i : Int)) ∧ w.cell? ⟨p, 2, none⟩ = some nv ∧ w.cell? ⟨p, 3, none⟩ = some (.int .i64 (o : Int)) ∧ w.cell? ⟨p, 4, none⟩ = some (.map (some K.rb)) ∧ (∀ a, w.frozen? ⟨p, a, none⟩ = false) :=
  ⟨cell_of_blk h rfl, cell_of_blk h rfl, cell_of_blk h rfl, cell_of_blk h rfl, cell_of_blk h rfl, fun a => free_of_blk h⟩
theorem tk_some {T : List Tok} {i : Nat} (h : i < T.length) : T[i]? = some (tk T i) := by
  unfold tk
  rw [List.getElem?_eq_getElem h]; rfl
set_option maxRecDepth 100000 in
theorem now_any (h : PaAt K w p i o sn ns fp) (hi : i < K.T.length) : Calls Tryz.prog 41 #[.pointer (some ⟨p, 0, none⟩)] w (RetB (.agg (tkEnc (tk K.T i)).toArray) w) := by
  obtain ⟨nv, l, hm⟩ := h.mem
  have hx := tk_some hi
  obtain ⟨t, ht⟩ : ∃ t, t = tk K.T i := ⟨_, rfl⟩
  rw [← ht] at hx ⊢
  obtain ⟨g, hg⟩ : ∃ g, g = w.heap.size := ⟨_, rfl⟩
  have H := Lib.hid h
  have HB := Lib.hid hm.blk
  have HX := Lib.hid hx
  have HL := Lib.hid h.env.len
  clear h hm hx ht
  go_enter Tryz.func41, Tryz.ntmps41
  go_upto_region 1 with fail
  rw [← hg]
  refine gen_wpT fun W hW => ?_
  have hWB := Lib.hid (show Below w.heap.size w W by rw [← hW]; exact (Below.refl _ _).alloc (Nat.le_refl _) _)
  have HR := Lib.hid (show W.heap[g]? = some (.cells #[.int .i64 0, .string ByteArray.empty, .int .i64 0, .int .i64 0, .int .i64 0] 65 (0, 0)) by rw [← hW]; exact heap_new_at _ _ _ hg.symm)
  have HG := Lib.hid hg
  clear hW hg
  obtain ⟨c0, c1, -, -, -, cf⟩ := pa_cell (below_blk hWB.out HB.out)
  obtain ⟨ad, hA, hab, hcell⟩ := (H.out.env.toks.below (hWB.out.mono (Nat.le_of_lt H.out.lt))).at (flatMap_ne (K := 5) tkEnc_len (by omega) HX.out)
  have x0 := elem_zero (K := 5) tkEnc_len hcell HX.out (by omega) rfl
  have x1 := elem_at (K := 5) tkEnc_len hcell HX.out 1 (by omega) (by omega) rfl
  have x2 := elem_at (K := 5) tkEnc_len hcell HX.out 2 (by omega) (by omega) rfl
  have x3 := elem_at (K := 5) tkEnc_len hcell HX.out 3 (by omega) (by omega) rfl
  have x4 := elem_at (K := 5) tkEnc_len hcell HX.out 4 (by omega) (by omega) rfl
  have pl := blk_lt (below_blk hWB.out HB.out)
  have hl1 : (ad.add (i * 5)).block < W.heap.size := by rw [block_add']; have := H.out.lt; have := hWB.out.size; omega
  have bl := blk_lt HR.out
  have b0 := cell_of_blk (i := 0) HR.out rfl
  have b1 := cell_of_blk (i := 1) HR.out rfl
  have b2 := cell_of_blk (i := 2) HR.out rfl
  have b3 := cell_of_blk (i := 3) HR.out rfl
  have b4 := cell_of_blk (i := 4) HR.out rfl
  have f0 := free_of_blk (i := 0) HR.out
  have f1 := free_of_blk (i := 1) HR.out
  have f2 := free_of_blk (i := 2) HR.out
  have f3 := free_of_blk (i := 3) HR.out
  have f4 := free_of_blk (i := 4) HR.out
  have hi0 : (0 : Int) ≤ i := by omega
  have hi1 : (i : Int) < (K.T.length : Int) := by omega
  rw [hA] at c0
  clear hcell hab hA hi cf
  go_region
  have hx0 : W.heap[g]? = some (.cells #[.int .i64 0, .string ByteArray.empty, .int .i64 0, .int .i64 0, .int .i64 0] 65 (0, 0)) := HR.out
  obtain ⟨j0, j1, j2, j3, j4⟩ := tok_five hx0 rfl (.int .i64 t.kind) (.string t.text) (.int .i64 (t.a : Int)) (.int .i64 (t.z : Int)) (.int .i64 t.n)
  clear hx0
  have hgw : w.heap.size ≤ g := Nat.le_of_eq HG.out.symm
  have HFB := Lib.hid (fun v0 v1 v2 v3 v4 => (((((((Fr.of_below hWB.out [])).set (a := ⟨g, 0, none⟩) v0 (.inr hgw)).set (a := ⟨g, 1, none⟩) v1 (.inr hgw)).set (a := ⟨g, 2, none⟩) v2 (.inr hgw)).set (a := ⟨g, 3, none⟩) v3 (.inr hgw)).set (a := ⟨g, 4, none⟩) v4 (.inr hgw)).drew.to_below (Nat.le_refl _) (by simp))
  go_wp2
  refine bodyPost_ret (v := .agg (tkEnc t).toArray) (by simp [results, Tryz.results41, go_sem, j0, j1, j2, j3, j4, tkEnc]) rfl ?_
  exact ⟨rfl, HFB.out _ _ _ _ _⟩
theorem tok_f0 (a c d e : Value) (b : Value) (w : World) : (Instr.field 65 (.agg #[a, b, c, d, e]) 0).run Tryz.prog w = .ok a w := by kernel_rfl
theorem tok_f1 (a c d e : Value) (b : Value) (w : World) : (Instr.field 65 (.agg #[a, b, c, d, e]) 1).run Tryz.prog w = .ok b w := by kernel_rfl
theorem tok_f2 (a c d e : Value) (b : Value) (w : World) : (Instr.field 65 (.agg #[a, b, c, d, e]) 2).run Tryz.prog w = .ok c w := by kernel_rfl
set_option maxRecDepth 100000 in
theorem at_any (h : PaAt K w p i o sn ns fp) (hi : i < K.T.length) : Calls Tryz.prog 42 #[.pointer (some ⟨p, 0, none⟩)] w (RetB (natV (tk K.T i).a) w) := by
  have HN := Lib.hid (now_any h hi)
  clear h
  go_enter Tryz.func42, Tryz.ntmps42
  go_wp2_with fail
  refine HN.out.mono ?_
  rintro e w1 ⟨rfl, hb⟩
  have HB := Lib.hid hb
  clear hb
  unfold tkEnc
  have f2 := tok_f2 (.int .i64 (tk K.T i).kind) (.int .i64 ((tk K.T i).a : Int)) (.int .i64 ((tk K.T i).z : Int)) (.int .i64 (tk K.T i).n) (.string (tk K.T i).text)
  go_wp2
  go_ret
  exact ⟨rfl, HB.out⟩
theorem no_any (x : Value) (a : Nat) (w : World) : Calls Tryz.prog 44 #[x, natV a] w fun e w' => e = .panicked (wrongP a 70) ∧ w = w' := by
  unfold natV
  go_enter Tryz.func44, Tryz.ntmps44
  go_wp2
  exact ⟨rfl, rfl, rfl⟩
theorem isAny_take {t : Tok} {l : List ByteArray} {k : Nat} {s : ByteArray} (hs : l[k]? = some s) (h : isAny t (l.take k) = false) : (isAny t [s] = true → isAny t l = true) ∧ (isAny t [s] = false → isAny t (l.take (k + 1)) = false) := by
  have h1 : l.take (k + 1) = l.take k ++ [s] := by rw [List.take_add_one, hs]; rfl
  have hm := List.mem_of_getElem? hs
  unfold isAny at h ⊢
  refine ⟨fun h2 => ?_, fun h2 => ?_⟩
  · rw [Bool.and_eq_true] at h2 ⊢
    refine ⟨h2.1, List.any_eq_true.2 ⟨s, hm, by simpa using h2.2⟩⟩
  · rw [h1, List.any_append, Bool.and_or_distrib_left, h, Bool.false_or, h2]
theorem isAny_one (t : Tok) (s : ByteArray) : isAny t [s] = (decide (t.kind = 5 ∨ t.kind = 2) && (t.text.toList == s.toList)) := by
  unfold isAny
  congr 1
  rw [List.any_cons, List.any_nil, Bool.or_false, Bool.eq_iff_iff, decide_eq_true_eq, beq_iff_eq]
  exact ⟨fun e => by rw [e], fun e => ByteArray.ext (Array.toList_inj.1 (by rw [ByteArray.toList_eq, ByteArray.toList_eq] at e; exact e))⟩
set_option maxRecDepth 100000 in
theorem is_any (h : PaAt K w p i o sn ns fp) (hi : i < K.T.length) {A : Option Addr} {c : Nat} {L : List ByteArray} (hr : Reads w w.heap.size A (L.map Value.string)) (hl : L.length ≤ 100) :
    Calls Tryz.prog 19 #[.pointer (some ⟨p, 0, none⟩), .slice A L.length c] w (RetB (.bool (isAny (tk K.T i) L)) w) := by
  have HN := Lib.hid (now_any h hi)
  obtain ⟨t, ht⟩ : ∃ t, t = tk K.T i := ⟨_, rfl⟩
  rw [← ht] at HN ⊢
  have HR := Lib.hid hr
  obtain ⟨nl, hnl⟩ : ∃ n, n = L.length := ⟨_, rfl⟩
  have HNL := Lib.hid hnl
  rw [← hnl] at hl ⊢
  clear h hr ht hnl
  go_enter Tryz.func19, Tryz.ntmps19
  go_wp2_with fail
  refine HN.out.mono ?_
  rintro e w1 ⟨rfl, hb⟩
  obtain ⟨g, hg⟩ : ∃ g, g = w1.heap.size := ⟨_, rfl⟩
  have HB := Lib.hid hb
  clear hb
  unfold tkEnc
  go_upto_region 2 with fail
  rw [← hg]
  refine gen_wpT fun W hW => ?_
  have hWB := Lib.hid (show Below w.heap.size w W by rw [← hW]; exact HB.out.alloc HB.out.size _)
  have HT := Lib.hid (show W.heap[g]? = some (.cells #[.int .i64 t.kind, .string t.text, .int .i64 (t.a : Int), .int .i64 (t.z : Int), .int .i64 t.n] 65 (0, 0)) by rw [← hW]; exact heap_new_at _ _ _ hg.symm)
  clear hW hg
  go_wp2_with fail
  go_loopw [7, 12] (fun s7 iv wr => ∃ k : Nat, k ≤ nl ∧ iv = .int .i64 k ∧ Hid (isAny t (L.take k) = false) ∧ Hid (Below W.heap.size W wr)) (fun _ iv _ => nl - (intOf iv).toNat)
  case atStart => exact ⟨0, by omega, rfl, Lib.hid (by unfold isAny; simp), Lib.hid (Below.refl _ _)⟩
  case round =>
    obtain ⟨k, hk, rfl, HA, HW⟩ := hrel
    by_cases hlt : k < nl
    case neg =>
      obtain rfl : k = nl := by omega
      have hkk : ¬ (k : Int) < (k : Int) := by omega
      have HE := Lib.hid (show isAny t L = false by have := HA.out; rw [HNL.out, List.take_length] at this; exact this)
      go_wp2
      go_ret
      exact ⟨by rw [HE.out]; rfl, hWB.out.trans (HW.out.mono hWB.out.size)⟩
    obtain ⟨s, hs⟩ : ∃ s, L[k]? = some s := ⟨_, List.getElem?_eq_getElem (by rw [← HNL.out]; exact hlt)⟩
    have hs2 : (L.map Value.string)[k]? = some (.string s) := by rw [List.getElem?_map, hs]; rfl
    obtain ⟨ad, rfl, hab, hcell⟩ := ((HR.out.below hWB.out).below (HW.out.mono hWB.out.size)).at (by intro e; rw [e] at hs2; simp at hs2)
    have x0 := hcell k _ hs2
    have hl1 : (ad.add k).block < wr.heap.size := by rw [block_add']; have := HW.out.size; have := hWB.out.size; omega
    have hk' : (k : Int) < (nl : Int) := by omega
    have hk0 : (0 : Int) ≤ k := by omega
    have hT := below_blk HW.out HT.out
    have t0 := cell_of_blk (i := 0) hT rfl
    have t1 := cell_of_blk (i := 1) hT rfl
    have tl := blk_lt hT
    have HTK := Lib.hid (isAny_take hs HA.out)
    rw [isAny_one] at HTK
    clear hcell hab hT hs hs2
    by_cases h5 : t.kind = 5
    · have q5 : (t.kind == 5) = true := beq_iff_eq.2 h5
      cases he : (t.text.toList == s.toList) with
      | true =>
        have HE := Lib.hid (show isAny t L = true from HTK.out.1 (by rw [he, h5]; rfl))
        clear h5
        go_wp2
        go_ret
        exact ⟨by rw [HE.out]; rfl, hWB.out.trans (HW.out.mono hWB.out.size)⟩
      | false =>
        have HE := Lib.hid (HTK.out.2 (by rw [he, Bool.and_false]))
        clear h5
        go_wp2_with fail
        go_roundw
        case rel => exact ⟨k + 1, by omega, by go_num, HE, HW⟩
        case measure => simp [intOf]; omega
    · have q5 : (t.kind == 5) = false := beq_eq_false_iff_ne.2 h5
      by_cases h2 : t.kind = 2
      · have q2 : (t.kind == 2) = true := beq_iff_eq.2 h2
        cases he : (t.text.toList == s.toList) with
        | true =>
          have HE := Lib.hid (show isAny t L = true from HTK.out.1 (by rw [he, h2]; rfl))
          clear h5 h2
          go_wp2
          go_ret
          exact ⟨by rw [HE.out]; rfl, hWB.out.trans (HW.out.mono hWB.out.size)⟩
        | false =>
          have HE := Lib.hid (HTK.out.2 (by rw [he, Bool.and_false]))
          clear h5 h2
          go_wp2_with fail
          go_roundw
          case rel => exact ⟨k + 1, by omega, by go_num, HE, HW⟩
          case measure => simp [intOf]; omega
      · have q2 : (t.kind == 2) = false := beq_eq_false_iff_ne.2 h2
        have HE := Lib.hid (HTK.out.2 (by rw [decide_eq_false (by simp [h5, h2]), Bool.false_and]))
        clear h5 h2
        go_wp2_with fail
        go_roundw
        case rel => exact ⟨k + 1, by omega, by go_num, HE, HW⟩
        case measure => simp [intOf]; omega
theorem PaMem.parser_ne (h : PaMem K w p i o sn ns fp nv l) : some p ≠ nv.ownBlock ∧ ∀ x ∈ l, some p ≠ (Value.slice x.A x.nd.kids.length x.c).ownBlock :=
  ⟨own_blk_ne h.own h.blk (by decide), fun x hx => own_blk_ne (h.kid x hx) h.blk (by decide)⟩
theorem PaAt.set (h : PaAt K w p i o sn ns fp) {i' o' : Nat} {sn' : Fin 8 → Bool} (k : Nat) (v : Value) (hb : ∀ nv, w.heap[p]? = some (PaBlk K i o nv sn) → (w.setCell ⟨p, k, none⟩ v).heap[p]? = some (PaBlk K i' o' nv sn')) :
    PaAt K (w.setCell ⟨p, k, none⟩ v) p i' o' sn' ns fp ∧ PaTo w fp (w.setCell ⟨p, k, none⟩ v) fp := by
  obtain ⟨nv, l, hm⟩ := h.mem
  have hf : Fr [p] w (w.setCell ⟨p, k, none⟩ v) := (Fr.refl _ _).set _ (.inl (by simp))
  refine ⟨⟨h.env.below (hf.to_below (Nat.le_of_lt h.lt) (by simp)), nv, l, hb nv hm.blk, hf.own hm.own fun g hg e => ?_, hm.nds, fun x hx => hf.own (hm.kid x hx) fun g hg e => ?_, hm.fpp, hm.fpo, hm.fpk, fun b hb => ⟨(hm.fpb b hb).1, Nat.lt_of_lt_of_le (hm.fpb b hb).2 hf.size⟩⟩, hf.more fun b hb => ?_, fun b hb => .inl hb⟩
  · rw [List.mem_singleton.1 e] at hg; exact hm.parser_ne.1 hg.symm
  · rw [List.mem_singleton.1 e] at hg; exact hm.parser_ne.2 x hx hg.symm
  · rw [List.mem_singleton.1 hb]; exact .inl hm.fpp
theorem PaAt.setI (h : PaAt K w p i o sn ns fp) (i' : Nat) : PaAt K (w.setCell ⟨p, 1, none⟩ (.int .i64 (i' : Int))) p i' o sn ns fp ∧ PaTo w fp (w.setCell ⟨p, 1, none⟩ (.int .i64 (i' : Int))) fp := h.set 1 _ fun nv hb => blk_set (i := 1) hb _
theorem PaAt.setO (h : PaAt K w p i o sn ns fp) (o' : Nat) : PaAt K (w.setCell ⟨p, 3, none⟩ (.int .i64 (o' : Int))) p i o' sn ns fp ∧ PaTo w fp (w.setCell ⟨p, 3, none⟩ (.int .i64 (o' : Int))) fp := h.set 3 _ fun nv hb => blk_set (i := 3) hb _
theorem PaTo.of_below (h : PaAt K w p i o sn ns fp) (hb : Below w.heap.size w w') : PaTo w fp w' fp := ⟨Fr.of_below hb _, fun b h => .inl h⟩
theorem reads_one (w : World) (s : ByteArray) (n : Nat) (hn : w.heap.size = n) : Reads (w.alloc (.cells #[.string s] 9)) (w.alloc (.cells #[.string s] 9)).heap.size (some ⟨n, 0, none⟩) ([s].map Value.string) :=
  .inr ⟨⟨n, 0, none⟩, rfl, by rw [← hn]; simp, fun j u hu => news_new w #[.string s] _ n hn j u hu⟩
set_option maxRecDepth 100000 in
theorem got_no (h : PaAt K w p i o sn ns fp) (hi : i < K.T.length) (s : ByteArray) (hb : isAny (tk K.T i) [s] = false) :
    Calls Tryz.prog 70 #[.pointer (some ⟨p, 0, none⟩), .string s] w fun e w' => e = .returned (.bool false) ∧ PaAt K w' p i o sn ns fp ∧ Below w.heap.size w w' := by
  have hbl : Below w.heap.size w (w.alloc (.cells #[.string s] 9)) := (Below.refl _ _).alloc (Nat.le_refl _) _
  have HI := Lib.hid (is_any (c := 1) (h.below hbl) hi (reads_one w s _ rfl) (by simp))
  have H := Lib.hid h
  rw [hb] at HI
  clear h hb hbl
  go_enter Tryz.func70, Tryz.ntmps70
  go_wp2_with fail
  refine HI.out.mono ?_
  rintro e w1 ⟨rfl, hb1⟩
  have HB := Lib.hid (show Below w.heap.size w w1 from ((Below.refl _ _).alloc (Nat.le_refl _) _).trans (hb1.mono (by simp)))
  clear hb1
  go_wp2
  go_ret
  exact ⟨rfl, H.out.below HB.out, HB.out⟩
set_option maxRecDepth 100000 in
theorem got_yes (h : PaAt K w p i o sn ns fp) (hi : i < K.T.length) (s : ByteArray) (hb : isAny (tk K.T i) [s] = true) :
    Calls Tryz.prog 70 #[.pointer (some ⟨p, 0, none⟩), .string s] w fun e w' => e = .returned (.bool true) ∧ PaAt K w' p (i + 1) o sn ns fp ∧ PaTo w fp w' fp := by
  have hbl : Below w.heap.size w (w.alloc (.cells #[.string s] 9)) := (Below.refl _ _).alloc (Nat.le_refl _) _
  have HI := Lib.hid (is_any (c := 1) (h.below hbl) hi (reads_one w s _ rfl) (by simp))
  have H := Lib.hid h
  have hl := h.env.len
  rw [hb] at HI
  clear h hb hbl
  go_enter Tryz.func70, Tryz.ntmps70
  go_wp2_with fail
  refine HI.out.mono ?_
  rintro e w1 ⟨rfl, hb1⟩
  have HB := Lib.hid (show Below w.heap.size w w1 from ((Below.refl _ _).alloc (Nat.le_refl _) _).trans (hb1.mono (by simp)))
  have HP := Lib.hid (H.out.below HB.out)
  obtain ⟨nv, l, hm⟩ := HP.out.mem
  obtain ⟨-, c1, -, -, -, cf⟩ := pa_cell hm.blk
  have c1f := cf 1
  have pl := blk_lt hm.blk
  have hw : IntKind.i64.wrap ((i : Int) + 1) = ((i + 1 : Nat) : Int) := by rw [show ((i : Int) + 1) = ((i + 1 : Nat) : Int) by omega]; exact IntWalk.i64_in _ (by omega)
  clear hb1 hm cf
  go_wp2
  go_ret
  obtain ⟨h1, h2⟩ := HP.out.setI (i + 1)
  refine ⟨rfl, ?_, ?_⟩
  · first | exact h1 | (rw [hw]; exact h1)
  · first | exact (PaTo.of_below H.out HB.out).trans h2 | (rw [hw]; exact (PaTo.of_below H.out HB.out).trans h2)
set_option maxRecDepth 100000 in
theorem need_yes (h : PaAt K w p i o sn ns fp) (hi : i < K.T.length) (s : ByteArray) (hb : isAny (tk K.T i) [s] = true) :
    Calls Tryz.prog 43 #[.pointer (some ⟨p, 0, none⟩), .string s] w fun e w' => e = .returned (.tuple #[]) ∧ PaAt K w' p (i + 1) o sn ns fp ∧ PaTo w fp w' fp := by
  have HI := Lib.hid (got_yes h hi s hb)
  clear h hb
  go_enter Tryz.func43, Tryz.ntmps43
  go_wp2_with fail
  refine HI.out.mono ?_
  rintro e w1 ⟨rfl, h1, h2⟩
  have H1 := Lib.hid h1
  have H2 := Lib.hid h2
  clear h1 h2
  go_wp2
  go_end0
  exact ⟨rfl, H1.out, H2.out⟩
set_option maxRecDepth 100000 in
theorem need_no (h : PaAt K w p i o sn ns fp) (hi : i < K.T.length) (s : ByteArray) (hb : isAny (tk K.T i) [s] = false) :
    Calls Tryz.prog 43 #[.pointer (some ⟨p, 0, none⟩), .string s] w fun e w' => e = .panicked (wrongP (tk K.T i).a 70) ∧ Below p w w' := by
  have HI := Lib.hid (got_no h hi s hb)
  have H := Lib.hid h
  clear h hb
  go_enter Tryz.func43, Tryz.ntmps43
  go_wp2_with fail
  refine HI.out.mono ?_
  rintro e w1 ⟨rfl, h1, h2⟩
  have HA := Lib.hid (at_any h1 hi)
  have HB := Lib.hid h2
  clear h1 h2
  go_wp2_with fail
  refine HA.out.mono ?_
  rintro e w2 ⟨rfl, hb2⟩
  have HB2 := Lib.hid (show Below p w w2 from (HB.out.trans (hb2.mono HB.out.size)).mono (Nat.le_of_lt H.out.lt))
  clear hb2
  go_wp2_with fail
  refine (no_any _ _ _).mono ?_
  rintro e w3 ⟨rfl, rfl⟩
  unfold wrongP
  go_wp2
  exact ⟨rfl, rfl, HB2.out⟩
end

set_option maxRecDepth 100000 in
theorem srec_idle (x y z : Nat) (w : World) :
    CallsD Tryz.prog 16 #[.pointer (some ⟨x, 0, none⟩), .pointer (some ⟨y, 0, none⟩), .pointer (some ⟨z, 0, none⟩)] .returning w fun e u' w' =>
      e = .returned (.tuple #[]) ∧ u' = .returning ∧ w = w' := by
  refine callsD_of_wpS Tryz.func16 rfl fun c₀ cs hu => ?_
  apply wpS_seq
  apply wpS_region
  simp [wpOpsS, go_sem, recoverD, hu, Tryz.ntmps16, Exit.thenS, Array.replicate, List.replicate]
  refine wpS_of_wp ?_
  go_wp2
  simp [bodyPostS, results, Tryz.results16]
  cases c₀; cases hu; rfl
set_option maxRecDepth 100000 in
theorem srec_panic (g : Nat) (v : Value) (x y a n : Int) (w : World) (h0 : w.heap[g]? = some (.cells #[v] 36 (0, 0))) (h1 : w.heap[g + 1]? = some (.cells #[.int .i64 x] 3 (0, 0))) (h2 : w.heap[g + 2]? = some (.cells #[.int .i64 y] 24 (0, 0))) :
    CallsD Tryz.prog 16 #[.pointer (some ⟨g, 0, none⟩), .pointer (some ⟨g + 1, 0, none⟩), .pointer (some ⟨g + 2, 0, none⟩)] (.panicking ({ v := .iface 55 (.agg #[.int .i64 a, .int .i64 n]), recovered := false } :: [])) w fun e u' w' =>
      e = .returned (.tuple #[]) ∧ u' = .panicking ({ v := .iface 55 (.agg #[.int .i64 a, .int .i64 n]), recovered := true } :: []) ∧ w'.heap[g]? = some (.cells #[.slice none 0 0] 36 (0, 0)) ∧ w'.heap[g + 1]? = some (.cells #[.int .i64 a] 3 (0, 0)) ∧ w'.heap[g + 2]? = some (.cells #[.int .i64 n] 24 (0, 0)) ∧ Fr [g, g + 1, g + 2] w w' := by
  have hta : ∀ w, (Instr.typeAssert (.iface 55 (.agg #[.int .i64 a, .int .i64 n])) 20 55 true).run Tryz.prog w = .ok (.tuple #[.agg #[.int .i64 a, .int .i64 n], .bool true]) w := fun w => by kernel_rfl
  have H0 := Lib.hid h0
  have H1 := Lib.hid h1
  have H2 := Lib.hid h2
  clear h0 h1 h2
  refine callsD_of_wpS Tryz.func16 rfl fun c₀ cs hu => ?_
  apply wpS_seq
  apply wpS_region
  simp [wpOpsS, go_sem, recoverD, hu, Tryz.ntmps16, Exit.thenS, Array.replicate, List.replicate]
  refine wpS_of_wp ?_
  go_wp2
  refine gen_wpT fun W hW => ?_
  have k0 : W.heap[g]? = some (.cells #[v] 36 (0, 0)) := by rw [← hW]; exact blk_alloc H0.out _
  have k1 : W.heap[g + 1]? = some (.cells #[.int .i64 x] 3 (0, 0)) := by rw [← hW]; exact blk_alloc H1.out _
  have k2 : W.heap[g + 2]? = some (.cells #[.int .i64 y] 24 (0, 0)) := by rw [← hW]; exact blk_alloc H2.out _
  have kT : W.heap[w.heap.size]? = some (.cells #[.int .i64 a, .int .i64 n] 55 (0, 0)) := by rw [← hW]; exact heap_new_at _ _ _ rfl
  have kW : Fr [g, g + 1, g + 2] w W := by rw [← hW]; exact (Fr.refl _ _).alloc _
  clear hW
  have t0 : W.cell? ⟨w.heap.size, 0, none⟩ = some (.int .i64 a) := cell_of_blk kT rfl
  have t1 : W.cell? ⟨w.heap.size, 1, none⟩ = some (.int .i64 n) := cell_of_blk kT rfl
  have v0 : W.cell? ⟨g, 0, none⟩ = some v := cell_of_blk k0 rfl
  have v1 : W.cell? ⟨g + 1, 0, none⟩ = some (.int .i64 x) := cell_of_blk k1 rfl
  have v2 : W.cell? ⟨g + 2, 0, none⟩ = some (.int .i64 y) := cell_of_blk k2 rfl
  have f0 : W.frozen? ⟨g, 0, none⟩ = false := free_of_blk k0
  have f1 : W.frozen? ⟨g + 1, 0, none⟩ = false := free_of_blk k1
  have f2 : W.frozen? ⟨g + 2, 0, none⟩ = false := free_of_blk k2
  have l0 := blk_lt H0.out
  have l1 := blk_lt H1.out
  have l2 := blk_lt H2.out
  have lT := blk_lt kT
  have hn0 : w.heap.size ≠ g := by omega
  have hn1 : w.heap.size ≠ g + 1 := by omega
  have hn2 : w.heap.size ≠ g + 2 := by omega
  have K0 := Lib.hid k0
  have K1 := Lib.hid k1
  have K2 := Lib.hid k2
  have KW := Lib.hid kW
  clear k0 k1 k2 kT kW
  go_region
  have hR : ((((W.setCell ⟨g, 0, none⟩ (.slice none 0 0)).setCell ⟨g + 1, 0, none⟩ (.int .i64 a)).setCell ⟨g + 2, 0, none⟩ (.int .i64 n)).drew).heap[g]? = some (.cells #[.slice none 0 0] 36 (0, 0)) ∧ ((((W.setCell ⟨g, 0, none⟩ (.slice none 0 0)).setCell ⟨g + 1, 0, none⟩ (.int .i64 a)).setCell ⟨g + 2, 0, none⟩ (.int .i64 n)).drew).heap[g + 1]? = some (.cells #[.int .i64 a] 3 (0, 0)) ∧ ((((W.setCell ⟨g, 0, none⟩ (.slice none 0 0)).setCell ⟨g + 1, 0, none⟩ (.int .i64 a)).setCell ⟨g + 2, 0, none⟩ (.int .i64 n)).drew).heap[g + 2]? = some (.cells #[.int .i64 n] 24 (0, 0)) ∧ Fr [g, g + 1, g + 2] w ((((W.setCell ⟨g, 0, none⟩ (.slice none 0 0)).setCell ⟨g + 1, 0, none⟩ (.int .i64 a)).setCell ⟨g + 2, 0, none⟩ (.int .i64 n)).drew) :=
    ⟨blk_drew (blk_far (blk_far (blk_set (i := 0) K0.out _) (by simp) _) (by simp) _), blk_drew (blk_far (blk_set (i := 0) (blk_far K1.out (by simp) _) _) (by simp) _), blk_drew (blk_set (i := 0) (blk_far (blk_far K2.out (by simp) _) (by simp) _) _), (((KW.out.set _ (.inl (by simp))).set _ (.inl (by simp))).set _ (.inl (by simp))).drew⟩
  have HR := Lib.hid hR
  clear hR
  change bodyPostS Tryz.prog Tryz.f16 _ _ _ _ _ _ _
  simp [bodyPostS, results, Tryz.results16]
  first | exact HR.out | exact ⟨_, by cases c₀; cases hu; rfl, rfl, HR.out⟩
def ScanOut (s : ByteArray) (w : World) (e : Ending) (w' : World) : Prop := Below w.heap.size w w' ∧
  ((100000 < s.size ∧ e = .returned (.tuple #[.slice none 0 0, .int .i64 0, .int .i64 2])) ∨
   (s.size ≤ 100000 ∧ ∃ p er : Nat, scanL s.data.toList = .inl (p, er) ∧ e = .returned (.tuple #[.slice none 0 0, .int .i64 (p : Int), .int .i64 (er : Int)])) ∨
   (s.size ≤ 100000 ∧ ∃ (toks : List Tok) (A : Option Addr) (c : Nat), scanL s.data.toList = .inr toks ∧ e = .returned (.tuple #[.slice A toks.length c, .int .i64 0, .int .i64 0]) ∧ Reads w' w'.heap.size A (toks.flatMap tkEnc) ∧ toks.length ≤ c ∧ toks.length ≤ s.size + 1))
theorem MaxC.below {w w' : World} {m : Int} (h : MaxC w m) (hb : Below w.heap.size w w') : MaxC w' m := ⟨(hb.cell (p := ⟨3, 0, none⟩) h.2).trans h.1, Nat.lt_of_lt_of_le h.2 hb.size⟩
set_option maxRecDepth 100000 in
theorem scan_any (s : ByteArray) (m : Int) (w : World) (hsp : SpW w) (hm : MaxC w m) : Calls Tryz.prog 9 #[.string s] w (ScanOut s w) := by
  have HSP := Lib.hid hsp
  have HM := Lib.hid hm
  clear hsp hm
  have hmf : ∀ (fn : Fn) (first cap : Array Value) (w : World), (Instr.makeFunc fn first cap).run Tryz.prog w = .ok (.func fn first cap) w := fun _ _ _ _ => rfl
  by_cases hbig : 100000 < s.size
  · have hb' : (100000 : Int) < (s.size : Int) := by omega
    have HBG := Lib.hid hbig
    clear hbig
    go_enter_defers Tryz.func9, Tryz.ntmps9
    go_wp2_with fail
    have z0 : (((w.alloc (.cells #[.slice none 0 0] 36)).alloc (.cells #[.int .i64 0] 3)).alloc (.cells #[.int .i64 2] 24)).cell? ⟨w.heap.size, 0, none⟩ = some (.slice none 0 0) := cell_of_blk (blk_alloc (blk_alloc (heap_new_at _ _ _ rfl) _) _) rfl
    have z1 : (((w.alloc (.cells #[.slice none 0 0] 36)).alloc (.cells #[.int .i64 0] 3)).alloc (.cells #[.int .i64 2] 24)).cell? ⟨w.heap.size + 1, 0, none⟩ = some (.int .i64 0) := cell_of_blk (blk_alloc (heap_new_at _ _ _ (by simp)) _) rfl
    have z2 : (((w.alloc (.cells #[.slice none 0 0] 36)).alloc (.cells #[.int .i64 0] 3)).alloc (.cells #[.int .i64 2] 24)).cell? ⟨w.heap.size + 1 + 1, 0, none⟩ = some (.int .i64 2) := cell_of_blk (heap_new_at _ _ _ (by simp)) rfl
    have HFIN := Lib.hid (show ScanOut s w (.returned (.tuple #[.slice none 0 0, .int .i64 0, .int .i64 2])) (((w.alloc (.cells #[.slice none 0 0] 36)).alloc (.cells #[.int .i64 0] 3)).alloc (.cells #[.int .i64 2] 24)) from ⟨(((Below.refl _ _).alloc (Nat.le_refl _) _).alloc (by simp) _).alloc (by simp; omega) _, .inl ⟨HBG.out, rfl⟩⟩)
    simp [bodyPostD, Leaves, settle, results, Tryz.results9, go_sem, z0, z1, z2]
    exact HFIN.out
  have hb' : ¬ (100000 : Int) < (s.size : Int) := by omega
  have hs : s.size ≤ 100000 := by omega
  clear hbig
  obtain ⟨b0, hb0⟩ : ∃ b, b = w.heap.size := ⟨_, rfl⟩
  obtain ⟨W, hW⟩ : ∃ W, W = ((w.alloc (.cells #[.slice none 0 0] 36)).alloc (.cells #[.int .i64 0] 3)).alloc (.cells #[.int .i64 0] 24) := ⟨_, rfl⟩
  have K0 := Lib.hid (show W.heap[b0]? = some (.cells #[.slice none 0 0] 36 (0, 0)) by rw [hW, hb0]; exact blk_alloc (blk_alloc (heap_new_at _ _ _ rfl) _) _)
  have K1 := Lib.hid (show W.heap[b0 + 1]? = some (.cells #[.int .i64 0] 3 (0, 0)) by rw [hW, hb0]; exact blk_alloc (heap_new_at _ _ _ (by simp)) _)
  have K2 := Lib.hid (show W.heap[b0 + 2]? = some (.cells #[.int .i64 0] 24 (0, 0)) by rw [hW, hb0]; exact heap_new_at _ _ _ (by simp))
  have KB := Lib.hid (show Below w.heap.size w W by rw [hW]; exact (((Below.refl _ _).alloc (Nat.le_refl _) _).alloc (by simp) _).alloc (by simp; omega) _)
  have HB0 := Lib.hid hb0
  have HWW := Lib.hid hW
  clear hW
  go_enter_defers Tryz.func9, Tryz.ntmps9
  go_wp2_with fail
  rw [← hb0, ← HWW.out]
  refine (words_any W (HSP.out.below KB.out)).mono ?_
  rintro e w1 ⟨mb, nb, D, rfl, hmb, hM, hD, hB1⟩
  obtain ⟨g, hg⟩ : ∃ g, g = w1.heap.size := ⟨_, rfl⟩
  have H1 := Lib.hid hB1
  have hbs : b0 + 2 < W.heap.size := blk_lt K2.out
  have hs1 := hB1.size
  have hg1 : g ≠ 3 := by have := HM.out.2; have := KB.out.size; omega
  have hbm : mb < w1.heap.size := by obtain ⟨es, clock, hb, r⟩ := hM; exact blk_lt hb
  have HA := Lib.hid (xall_any (g := g) (mb := mb) (nb := nb) (D := D) (s := s) (m := m) (by omega) (w1.alloc (.cells #[.string s, .int .i64 0, .map (some mb)] 60)) (heap_new_at _ _ _ hg.symm) (((Fr.refl [] w1).alloc _).map hM (by simp)) hD (by omega) ((HM.out.below KB.out).below hB1 |>.below ((Below.refl _ _).alloc (Nat.le_refl _) _)) hg1)
  have K0a := Lib.hid (blk_alloc (below_blk hB1 K0.out) (.cells #[.string s, .int .i64 0, .map (some mb)] 60))
  have K1a := Lib.hid (blk_alloc (below_blk hB1 K1.out) (.cells #[.string s, .int .i64 0, .map (some mb)] 60))
  have K2a := Lib.hid (blk_alloc (below_blk hB1 K2.out) (.cells #[.string s, .int .i64 0, .map (some mb)] 60))
  have KBa := Lib.hid (KB.out.trans ((hB1.trans (((Below.refl w1.heap.size w1).alloc (Nat.le_refl _) (.cells #[.string s, .int .i64 0, .map (some mb)] 60)).mono hB1.size)).mono KB.out.size))
  clear hmb hM hD hB1
  go_wp2_with fail
  rw [← hg]
  refine HA.out.mono ?_
  rintro e w2 ⟨hf, hao⟩
  have hbg : b0 + 2 < g := by omega
  have K0b := Lib.hid (hf.blk K0a.out (by simp; omega))
  have K1b := Lib.hid (hf.blk K1a.out (by simp; omega))
  have K2b := Lib.hid (hf.blk K2a.out (by simp; omega))
  have KBb := Lib.hid (show Below w.heap.size w w2 from KBa.out.trans (hf.to_below (by have := KBa.out.size; omega) (by intro b hb; rw [List.mem_singleton.1 hb]; have := KB.out.size; omega)))
  have hgs : g < (w1.alloc (.cells #[.string s, .int .i64 0, .map (some mb)] 60)).heap.size := by simp; omega
  have HGS := Lib.hid hgs
  clear hf hgs
  rcases hao with ⟨p, er, h1, rfl⟩ | ⟨toks, A, c, h1, rfl, hO, hlen⟩
  · have HS := Lib.hid h1
    clear h1
    unfold wrongX
    go_wp2
    rw [← hb0]
    refine leaves_cons (f := 16) (args := #[.pointer (some ⟨b0, 0, none⟩), .pointer (some ⟨b0 + 1, 0, none⟩), .pointer (some ⟨b0 + 2, 0, none⟩)]) (by simp) (by simp [go_sem]) ?_
    refine (srec_panic b0 (.slice none 0 0) 0 0 p er _ K0b.out K1b.out K2b.out).mono ?_
    rintro e u' w3 ⟨rfl, rfl, k0, k1, k2, hF⟩
    have j0 := cell_of_blk (i := 0) k0 rfl
    have j1 := cell_of_blk (i := 0) k1 rfl
    have j2 := cell_of_blk (i := 0) k2 rfl
    have HFIN := Lib.hid (show ScanOut s w (.returned (.tuple #[.slice none 0 0, .int .i64 (p : Int), .int .i64 (er : Int)])) w3 from ⟨KBb.out.trans (hF.to_below KBb.out.size (by intro b hb; have := HB0.out; simp at hb; omega)), .inr (.inl ⟨hs, p, er, HS.out, rfl⟩)⟩)
    simp [Leaves, settle, results, Tryz.results9, go_sem, j0, j1, j2]
    exact HFIN.out
  · have HS := Lib.hid h1
    have HO := Lib.hid hO
    have HLN := Lib.hid hlen
    clear h1 hO hlen
    subst hb0
    have v0 : w2.cell? ⟨w.heap.size, 0, none⟩ = some (.slice none 0 0) := cell_of_blk (i := 0) K0b.out rfl
    have v1 : w2.cell? ⟨w.heap.size + 1, 0, none⟩ = some (.int .i64 0) := cell_of_blk (i := 0) K1b.out rfl
    have v2 : w2.cell? ⟨w.heap.size + 1 + 1, 0, none⟩ = some (.int .i64 0) := cell_of_blk (i := 0) K2b.out rfl
    have f0 : w2.frozen? ⟨w.heap.size, 0, none⟩ = false := free_of_blk (i := 0) K0b.out
    have f1 : w2.frozen? ⟨w.heap.size + 1, 0, none⟩ = false := free_of_blk (i := 0) K1b.out
    have f2 : w2.frozen? ⟨w.heap.size + 1 + 1, 0, none⟩ = false := free_of_blk (i := 0) K2b.out
    have l0 := blk_lt K0b.out
    have l1 := blk_lt K1b.out
    have l2 : w.heap.size + 1 + 1 < w2.heap.size := blk_lt K2b.out
    have j0 : (((w2.setCell ⟨w.heap.size, 0, none⟩ (.slice A toks.length c)).setCell ⟨w.heap.size + 1, 0, none⟩ (.int .i64 0)).setCell ⟨w.heap.size + 1 + 1, 0, none⟩ (.int .i64 0)).cell? ⟨w.heap.size, 0, none⟩ = some (.slice A toks.length c) := cell_of_blk (i := 0) (blk_far (a := ⟨w.heap.size + 1 + 1, 0, none⟩) (blk_far (a := ⟨w.heap.size + 1, 0, none⟩) (blk_set (i := 0) K0b.out _) (by simp) _) (by simp; omega) _) rfl
    have j1 : (((w2.setCell ⟨w.heap.size, 0, none⟩ (.slice A toks.length c)).setCell ⟨w.heap.size + 1, 0, none⟩ (.int .i64 0)).setCell ⟨w.heap.size + 1 + 1, 0, none⟩ (.int .i64 0)).cell? ⟨w.heap.size + 1, 0, none⟩ = some (.int .i64 0) := cell_of_blk (i := 0) (blk_far (a := ⟨w.heap.size + 1 + 1, 0, none⟩) (blk_set (i := 0) (blk_far (a := ⟨w.heap.size, 0, none⟩) K1b.out (by simp) _) _) (by simp) _) rfl
    have j2 : (((w2.setCell ⟨w.heap.size, 0, none⟩ (.slice A toks.length c)).setCell ⟨w.heap.size + 1, 0, none⟩ (.int .i64 0)).setCell ⟨w.heap.size + 1 + 1, 0, none⟩ (.int .i64 0)).cell? ⟨w.heap.size + 1 + 1, 0, none⟩ = some (.int .i64 0) := cell_of_blk (i := 0) (blk_set (i := 0) (blk_far (a := ⟨w.heap.size + 1, 0, none⟩) (blk_far (a := ⟨w.heap.size, 0, none⟩) K2b.out (by simp) _) (by simp) _) _) rfl
    have hFr : Fr [w.heap.size, w.heap.size + 1, w.heap.size + 1 + 1] w2 (((w2.setCell ⟨w.heap.size, 0, none⟩ (.slice A toks.length c)).setCell ⟨w.heap.size + 1, 0, none⟩ (.int .i64 0)).setCell ⟨w.heap.size + 1 + 1, 0, none⟩ (.int .i64 0)) := (((Fr.refl _ _).set _ (.inl (by simp))).set _ (.inl (by simp))).set _ (.inl (by simp))
    have hown := own_readsX (hFr.own HO.out (fun g' hg' => by have h1 := own_base HO.out g' hg'; have h2 := HGS.out; simp; omega))
    have HFIN := Lib.hid (show ScanOut s w (.returned (.tuple #[.slice A toks.length c, .int .i64 0, .int .i64 0])) (((w2.setCell ⟨w.heap.size, 0, none⟩ (.slice A toks.length c)).setCell ⟨w.heap.size + 1, 0, none⟩ (.int .i64 0)).setCell ⟨w.heap.size + 1 + 1, 0, none⟩ (.int .i64 0)) from ⟨KBb.out.trans (hFr.to_below KBb.out.size (by intro b hb; simp at hb; omega)), .inr (.inr ⟨hs, toks, A, c, HS.out, rfl, hown.1, hown.2, by have := HLN.out; simpa using this⟩)⟩)
    have J0 := Lib.hid j0
    have J1 := Lib.hid j1
    have J2 := Lib.hid j2
    clear j0 j1 j2 hFr hown
    go_wp2
    refine leaves_cons (f := 16) (args := #[.pointer (some ⟨w.heap.size, 0, none⟩), .pointer (some ⟨w.heap.size + 1, 0, none⟩), .pointer (some ⟨w.heap.size + 1 + 1, 0, none⟩)]) (by simp) (by simp [go_sem]) ?_
    refine (srec_idle w.heap.size (w.heap.size + 1) (w.heap.size + 1 + 1) _).mono ?_
    rintro e u' w3 ⟨rfl, rfl, rfl⟩
    simp [Leaves, settle, results, Tryz.results9, go_sem, J0.out, J1.out, J2.out]
    exact HFIN.out

abbrev tokJ (t : Tok) : Value := .agg #[.int .i64 t.kind, .string t.text, .int .i64 (t.a : Int), .int .i64 (t.z : Int), .int .i64 t.n]
abbrev tokZ0 : Array Value := #[.int .i64 0, .string ByteArray.empty, .int .i64 0, .int .i64 0, .int .i64 0]
abbrev tokA0 (t : Tok) : Array Value := #[.int .i64 t.kind, .string t.text, .int .i64 (t.a : Int), .int .i64 (t.z : Int), .int .i64 t.n]
theorem blk5 {w : World} {b : Nat} {T : TypeId} {v0 v1 v2 v3 v4 : Value} (h : w.heap[b]? = some (.cells #[v0, v1, v2, v3, v4] T (0, 0))) : w.cell? ⟨b, 0, none⟩ = some v0 ∧ w.cell? ⟨b, 1, none⟩ = some v1 ∧ w.cell? ⟨b, 2, none⟩ = some v2 ∧ w.cell? ⟨b, 3, none⟩ = some v3 ∧ w.cell? ⟨b, 4, none⟩ = some v4 ∧ b < w.heap.size :=
  ⟨cell_of_blk h rfl, cell_of_blk h rfl, cell_of_blk h rfl, cell_of_blk h rfl, cell_of_blk h rfl, blk_lt h⟩
theorem frz5 {w : World} {b : Nat} {cs : Array Value} {T : TypeId} (h : w.heap[b]? = some (.cells cs T (0, 0))) : w.frozen? ⟨b, 0, none⟩ = false ∧ w.frozen? ⟨b, 1, none⟩ = false ∧ w.frozen? ⟨b, 2, none⟩ = false ∧ w.frozen? ⟨b, 3, none⟩ = false ∧ w.frozen? ⟨b, 4, none⟩ = false :=
  ⟨free_of_blk h, free_of_blk h, free_of_blk h, free_of_blk h, free_of_blk h⟩
abbrev set5 (w : World) (b : Nat) (v0 v1 v2 v3 v4 : Value) : World := ((((w.setCell ⟨b, 0, none⟩ v0).setCell ⟨b, 1, none⟩ v1).setCell ⟨b, 2, none⟩ v2).setCell ⟨b, 3, none⟩ v3).setCell ⟨b, 4, none⟩ v4
theorem fr_five (w : World) (b : Nat) (v0 v1 v2 v3 v4 : Value) : Fr [b] w (set5 w b v0 v1 v2 v3 v4) :=
  (((((Fr.refl [b] w).set (a := ⟨b, 0, none⟩) v0 (.inl (by simp))).set (a := ⟨b, 1, none⟩) v1 (.inl (by simp))).set (a := ⟨b, 2, none⟩) v2 (.inl (by simp))).set (a := ⟨b, 3, none⟩) v3 (.inl (by simp))).set (a := ⟨b, 4, none⟩) v4 (.inl (by simp))
section
variable {K : PaK} {w w' : World} {p i o : Nat} {sn : Fin 8 → Bool} {ns : List Nd} {fp fp' : List Nat}
def OutV (K : PaK) (w : World) (p i o : Nat) (sn : Fin 8 → Bool) (ns : List Nd) (fp : List Nat) (v : Value) (e : Ending) (w' : World) : Prop := e = .returned v ∧ PaAt K w' p i o sn ns fp ∧ PaTo w fp w' fp
def OutB (w : World) (p a n : Nat) (e : Ending) (w' : World) : Prop := e = .panicked (wrongP a n) ∧ Below p w w'
set_option maxRecDepth 100000 in
theorem token_ok (h : PaAt K w p i o sn ns fp) (hi : i < K.T.length) (kd : Int) (hk : (tk K.T i).kind = kd) :
    Calls Tryz.prog 22 #[.pointer (some ⟨p, 0, none⟩), .int .i64 kd] w (OutV K w p (i + 1) o sn ns fp (tokJ (tk K.T i))) := by
  have hb0 : Below w.heap.size w (w.alloc (.cells tokZ0 65)) := (Below.refl _ _).alloc (Nat.le_refl _) _
  have HN := Lib.hid (now_any (h.below hb0) hi)
  obtain ⟨t, ht⟩ : ∃ t, t = tk K.T i := ⟨_, rfl⟩
  rw [← ht] at HN hk ⊢
  obtain ⟨g, hg⟩ : ∃ g, g = w.heap.size := ⟨_, rfl⟩
  have HG := Lib.hid hg
  have hq : (t.kind != kd) = false := by rw [hk]; simp
  have H := Lib.hid h
  have hl := h.env.len
  obtain ⟨i1, hi1⟩ : ∃ i1, i1 = i + 1 := ⟨_, rfl⟩
  rw [← hi1]
  have hadd : (i : Int) + 1 = (i1 : Int) := by omega
  have hw : IntKind.i64.wrap (i1 : Int) = (i1 : Int) := IntWalk.i64_in _ (by omega)
  have HZ := Lib.hid (show (w.alloc (.cells tokZ0 65)).heap[g]? = some (.cells tokZ0 65 (0, 0)) from heap_new_at _ _ _ hg.symm)
  clear h ht hk hb0 hg hi1
  go_enter Tryz.func22, Tryz.ntmps22
  go_wp2_with fail
  rw [← HG.out]
  refine HN.out.mono ?_
  rintro e w1 ⟨rfl, hb1⟩
  have HZ1 := Lib.hid (below_blk hb1 HZ.out)
  have HB1 := Lib.hid (show Below w.heap.size w w1 from ((Below.refl _ _).alloc (Nat.le_refl _) _).trans (hb1.mono (by simp)))
  clear hb1
  unfold tkEnc
  go_upto_region 2 with fail
  obtain ⟨b, hb⟩ : ∃ b, b = w1.heap.size := ⟨_, rfl⟩
  rw [← hb]
  refine gen_wpT fun W hW => ?_
  have HT := Lib.hid (show W.heap[b]? = some (.cells (tokA0 t) 65 (0, 0)) by rw [← hW]; exact heap_new_at _ _ _ hb.symm)
  have HZ2 := Lib.hid (show W.heap[g]? = some (.cells tokZ0 65 (0, 0)) by rw [← hW]; exact blk_alloc HZ1.out _)
  have HWB := Lib.hid (show Below w.heap.size w W by rw [← hW]; exact HB1.out.alloc HB1.out.size _)
  have HNE := Lib.hid (show b ≠ g ∧ p ≠ b ∧ p ≠ g from by have h1 := blk_lt HZ1.out; have h2 := H.out.lt; have h3 := HG.out; have h4 := HB1.out.size; exact ⟨by omega, by omega, by omega⟩)
  clear hW hb
  have HP := Lib.hid (H.out.below HWB.out)
  obtain ⟨nv, l, hm⟩ := HP.out.mem
  obtain ⟨-, c1, -, -, -, cf⟩ := pa_cell hm.blk
  have c1f := cf 1
  have pl := blk_lt hm.blk
  obtain ⟨t0, t1, t2, t3, t4, tl⟩ := blk5 HT.out
  obtain ⟨z0, z1, z2, z3, z4, zl⟩ := blk5 HZ2.out
  obtain ⟨y0, y1, y2, y3, y4⟩ := frz5 HZ2.out
  have n1 := HNE.out.1
  have n2 := HNE.out.2.1
  have n3 := HNE.out.2.2
  clear hm cf
  go_wp2
  obtain ⟨h1, h2⟩ := HP.out.setI i1
  have hzx : (W.setCell ⟨p, 1, none⟩ (.int .i64 (i1 : Int))).heap[g]? = some (.cells tokZ0 65 (0, 0)) := blk_far HZ2.out (by simp; exact Ne.symm n3) _
  obtain ⟨j0, j1, j2, j3, j4⟩ := tok_five hzx rfl (.int .i64 t.kind) (.string t.text) (.int .i64 (t.a : Int)) (.int .i64 (t.z : Int)) (.int .i64 t.n)
  have hfr := fr_five (W.setCell ⟨p, 1, none⟩ (.int .i64 (i1 : Int))) g (.int .i64 t.kind) (.string t.text) (.int .i64 (t.a : Int)) (.int .i64 (t.z : Int)) (.int .i64 t.n)
  have hgf : p ≤ g ∧ g ∉ fp := ⟨by have := H.out.lt; have := HG.out; omega, H.out.notin (Nat.le_of_eq HG.out.symm)⟩
  have HFIN := Lib.hid (show OutV K w p i1 o sn ns fp (tokJ t) (.returned (tokJ t)) (set5 (W.setCell ⟨p, 1, none⟩ (.int .i64 (i1 : Int))) g (.int .i64 t.kind) (.string t.text) (.int .i64 (t.a : Int)) (.int .i64 (t.z : Int)) (.int .i64 t.n)) from
    ⟨rfl, h1.fr hfr (by simpa using hgf), ⟨((PaTo.of_below H.out HWB.out).trans h2).fr.trans hfr fun b hb => .inr (by rw [List.mem_singleton.1 hb, HG.out]; exact Nat.le_refl _), fun b hb => .inl hb⟩⟩)
  clear h1 h2 hzx hfr
  refine bodyPost_ret (v := tokJ t) (by simp [results, Tryz.results22, go_sem, j0, j1, j2, j3, j4]) rfl ?_
  exact HFIN.out
end

theorem eqB {s : ByteArray} {l : List UInt8} (h : (s.toList == l) = true) : s = ⟨l.toArray⟩ := ByteArray.ext (Array.toList_inj.1 (by rw [beq_iff_eq, ByteArray.toList_eq] at h; exact h))
theorem neB {s : ByteArray} {l : List UInt8} (h : (s.toList == l) = false) : ¬ s = ⟨l.toArray⟩ := fun e => by
  rw [beq_eq_false_iff_ne] at h
  exact h (by rw [e, ByteArray.toList_eq])
def builtI (s : ByteArray) : Int := match builtinL s with | some n => (n : Int) | none => -1
theorem built_no {s : ByteArray} (h0 : ¬ s = ⟨#[114, 101, 97, 100]⟩) (h1 : ¬ s = ⟨#[112, 99, 97, 108, 108]⟩) (h2 : ¬ s = ⟨#[101, 114, 114, 111, 114]⟩) (h3 : ¬ s = ⟨#[116, 121, 112, 101]⟩) (h4 : ¬ s = ⟨#[99, 114, 101, 97, 116, 101]⟩) (h5 : ¬ s = ⟨#[121, 105, 101, 108, 100]⟩) (h6 : ¬ s = ⟨#[115, 116, 97, 116, 117, 115]⟩) (h7 : ¬ s = ⟨#[119, 114, 105, 116, 101]⟩) (h8 : ¬ s = ⟨#[107, 101, 121]⟩) (h9 : ¬ s = ⟨#[114, 101, 115, 117, 109, 101]⟩) : builtI s = -1 := by
  unfold builtI builtinL inB
  simp [h0, h1, h2, h3, h4, h5, h6, h7, h8, h9]
set_option maxRecDepth 100000 in
theorem builtin_any (s : ByteArray) (w : World) : Calls Tryz.prog 94 #[.string s] w (Ret (.int .i64 (builtI s)) w) := by
  cases e0 : (s.toList == [119, 114, 105, 116, 101]) with
  | true =>
    have HR := Lib.hid (show builtI s = 2 by rw [eqB e0]; decide)
    go_enter Tryz.func94, Tryz.ntmps94
    go_wp2
    go_ret
    exact ⟨by rw [HR.out]; rfl, rfl⟩
  | false =>
  cases e1 : (s.toList == [107, 101, 121]) with
  | true =>
    have HR := Lib.hid (show builtI s = 2 by rw [eqB e1]; decide)
    go_enter Tryz.func94, Tryz.ntmps94
    go_wp2
    go_ret
    exact ⟨by rw [HR.out]; rfl, rfl⟩
  | false =>
  cases e2 : (s.toList == [114, 101, 115, 117, 109, 101]) with
  | true =>
    have HR := Lib.hid (show builtI s = 2 by rw [eqB e2]; decide)
    go_enter Tryz.func94, Tryz.ntmps94
    go_wp2
    go_ret
    exact ⟨by rw [HR.out]; rfl, rfl⟩
  | false =>
  cases e3 : (s.toList == [114, 101, 97, 100]) with
  | true =>
    have HR := Lib.hid (show builtI s = 1 by rw [eqB e3]; decide)
    go_enter Tryz.func94, Tryz.ntmps94
    go_wp2
    go_ret
    exact ⟨by rw [HR.out]; rfl, rfl⟩
  | false =>
  cases e4 : (s.toList == [112, 99, 97, 108, 108]) with
  | true =>
    have HR := Lib.hid (show builtI s = 1 by rw [eqB e4]; decide)
    go_enter Tryz.func94, Tryz.ntmps94
    go_wp2
    go_ret
    exact ⟨by rw [HR.out]; rfl, rfl⟩
  | false =>
  cases e5 : (s.toList == [101, 114, 114, 111, 114]) with
  | true =>
    have HR := Lib.hid (show builtI s = 1 by rw [eqB e5]; decide)
    go_enter Tryz.func94, Tryz.ntmps94
    go_wp2
    go_ret
    exact ⟨by rw [HR.out]; rfl, rfl⟩
  | false =>
  cases e6 : (s.toList == [116, 121, 112, 101]) with
  | true =>
    have HR := Lib.hid (show builtI s = 1 by rw [eqB e6]; decide)
    go_enter Tryz.func94, Tryz.ntmps94
    go_wp2
    go_ret
    exact ⟨by rw [HR.out]; rfl, rfl⟩
  | false =>
  cases e7 : (s.toList == [99, 114, 101, 97, 116, 101]) with
  | true =>
    have HR := Lib.hid (show builtI s = 1 by rw [eqB e7]; decide)
    go_enter Tryz.func94, Tryz.ntmps94
    go_wp2
    go_ret
    exact ⟨by rw [HR.out]; rfl, rfl⟩
  | false =>
  cases e8 : (s.toList == [121, 105, 101, 108, 100]) with
  | true =>
    have HR := Lib.hid (show builtI s = 1 by rw [eqB e8]; decide)
    go_enter Tryz.func94, Tryz.ntmps94
    go_wp2
    go_ret
    exact ⟨by rw [HR.out]; rfl, rfl⟩
  | false =>
  cases e9 : (s.toList == [115, 116, 97, 116, 117, 115]) with
  | true =>
    have HR := Lib.hid (show builtI s = 1 by rw [eqB e9]; decide)
    go_enter Tryz.func94, Tryz.ntmps94
    go_wp2
    go_ret
    exact ⟨by rw [HR.out]; rfl, rfl⟩
  | false =>
  have HR := Lib.hid (built_no (s := s) (neB e3) (neB e4) (neB e5) (neB e6) (neB e7) (neB e8) (neB e9) (neB e0) (neB e1) (neB e2))
  go_enter Tryz.func94, Tryz.ntmps94
  go_wp2
  go_ret
  exact ⟨by rw [HR.out]; rfl, rfl⟩
end Go.Proofs.YthobobmbileekaaGreatDoor
