/-
 ParseChecks: part 8 of what the claim rests on.
-/
import Derived.Test.YthobobmbileekaaGreatDoorC01
import Derived.Test.YthobobmbileekaaGreatDoorC07
import Derived.Handy
set_option linter.unusedVariables false
set_option linter.unusedSimpArgs false
set_option maxHeartbeats 64000000
set_option maxRecDepth 100000
namespace Go.Proofs.YthobobmbileekaaGreatDoor
open Go.ChangeShapes Go.WideShapes Go.ChangeAt Go.RowKit

theorem ext_take (s : ByteArray) (i n : Nat) : s.extract i (i + n) = ⟨((s.data.toList.drop i).take n).toArray⟩ := by
 refine ByteArray.ext (Array.toList_inj.1 ?_)
 rw [ByteArray.data_extract, Array.toList_extract]
 simp [List.extract]
def tokV (k : Int) (x : ByteArray) (v : Int) : Value := .agg #[.int .i64 k, .string x, .int .i64 0, .int .i64 0, .int .i64 v]
def ReadOut (g : Nat) (s : ByteArray) (i mb : Nat) (w : World) (e : Ending) (w' : World) : Prop :=
 Fr [g] w w' ∧ ((∃ er, tokenL (s.data.toList.drop i) = .inl er ∧ e = .panicked (wrongX i er)) ∨
  (∃ k x v n, tokenL (s.data.toList.drop i) = .inr (k, x, v, n) ∧ e = .returned (tokV k x v) ∧ ScB w' g s (i + n) mb))
theorem tok_part {l : List UInt8} {c : UInt8} {r : List UInt8} {tx : ByteArray} (hl : l = c :: r) (hp : partN c.toNat = true) (hx : tx = ⟨(l.take (runL l)).toArray⟩) :
  tokenL l = if letterN c.toNat = true then .inr (if isWord tx then 2 else 1, tx, 0, runL l) else match numS tx with
   | none => .inl 51
   | some k => .inr (3, tx, k, runL l) := by
 subst hl hx
 rw [tokenL, if_pos hp]
 rfl
theorem part_split (c : Nat) (h : partN c = true) : digitN c = !letterN c := by
 unfold partN at h
 cases h1 : letterN c with
 | true => simp [letterN, digitN] at h1 ⊢; omega
 | false => rw [h1] at h; simpa using h
theorem cell_same_set {W : World} {b i : Nat} {cs : Array Value} {T : TypeId} (h : W.heap[b]? = some (.cells cs T (0, 0))) (hi : i < cs.size) (v : Value) : (W.setCell ⟨b, i, none⟩ v).cell? ⟨b, i, none⟩ = some v :=
 cell_of_blk (blk_set h v) (by simp [hi])
theorem tok_five {W : World} {b : Nat} {cs : Array Value} {T : TypeId} (h : W.heap[b]? = some (.cells cs T (0, 0))) (hz : cs.size = 5) (v0 v1 v2 v3 v4 : Value) :
  (W.setCell ⟨b, 0, none⟩ v0).cell? ⟨b, 0, none⟩ = some v0 ∧ ((W.setCell ⟨b, 0, none⟩ v0).setCell ⟨b, 1, none⟩ v1).cell? ⟨b, 1, none⟩ = some v1 ∧
  (((W.setCell ⟨b, 0, none⟩ v0).setCell ⟨b, 1, none⟩ v1).setCell ⟨b, 2, none⟩ v2).cell? ⟨b, 2, none⟩ = some v2 ∧
  ((((W.setCell ⟨b, 0, none⟩ v0).setCell ⟨b, 1, none⟩ v1).setCell ⟨b, 2, none⟩ v2).setCell ⟨b, 3, none⟩ v3).cell? ⟨b, 3, none⟩ = some v3 ∧
  (((((W.setCell ⟨b, 0, none⟩ v0).setCell ⟨b, 1, none⟩ v1).setCell ⟨b, 2, none⟩ v2).setCell ⟨b, 3, none⟩ v3).setCell ⟨b, 4, none⟩ v4).cell? ⟨b, 4, none⟩ = some v4 := by
 have h1 := blk_set (i := 0) h v0
 have h2 := blk_set (i := 1) h1 v1
 have h3 := blk_set (i := 2) h2 v2
 have h4 := blk_set (i := 3) h3 v3
 exact ⟨cell_same_set h (by omega) v0, cell_same_set h1 (by simp; omega) v1, cell_same_set h2 (by simp; omega) v2, cell_same_set h3 (by simp; omega) v3, cell_same_set h4 (by simp; omega) v4⟩
theorem xword_any {g i mb nb : Nat} {D : DataW Unit} {s : ByteArray} (hs : s.size ≤ 1000000) (w : World) (h : ScB w g s i mb) (hi : i < s.size) (hp : partN s[i].toNat = true) (hM : w.ownsMap Tryz.prog 9 (plainElem Tryz.prog 3) mb nb D) (hD : WMap D wordsL) (hmg : mb ≠ g) :
  Calls Tryz.prog 36 #[.pointer (some ⟨g, 0, none⟩)] w (ReadOut g s i mb w) := by
 obtain ⟨n, hn⟩ : ∃ n, n = runL (s.data.toList.drop i) := ⟨_, rfl⟩
 obtain ⟨T, hT⟩ : ∃ T, T = i + n := ⟨_, rfl⟩
 obtain ⟨tx, htx⟩ : ∃ tx, tx = s.extract i T := ⟨_, rfl⟩
 have hlen : s.data.toList.length = s.size := by simp
 have hTs : T ≤ s.size := by have := runL_le (s.data.toList.drop i); rw [List.length_drop] at this; omega
 have hcons := drop_at hi
 have hn1 : 1 ≤ n := by rw [hn, hcons, runL_yes hp]; omega
 have htok := tok_part (tx := tx) hcons hp (by rw [htx, hT, hn]; exact ext_take _ _ _)
 rw [← hn] at htok
 have htxs : tx.size = n := by rw [htx]; simp; omega
 have h0x : 0 < tx.size := by omega
 have htxb : tx.size ≤ 1000000 := by omega
 have hx0 : tx[0] = s[i] := by subst htx; simp [ByteArray.getElem_extract]
 have hdg := part_split _ hp
 have H := zh h
 have HTOK := zh htok
 have HTX := zh htx
 have HNT := zh (show T = i + n ∧ n = runL (s.data.toList.drop i) from ⟨hT, hn⟩)
 have HMM := zh (show w.ownsMap Tryz.prog 9 (plainElem Tryz.prog 3) mb nb D ∧ WMap D wordsL from ⟨hM, hD⟩)
 have HX0 := zh (show digitN tx[0].toNat = !letterN s[i].toNat by rw [hx0]; exact hdg)
 obtain ⟨lt, hlt0⟩ : ∃ lt, lt = letterN s[i].toNat := ⟨_, rfl⟩
 rw [← hlt0] at HTOK HX0
 clear hlt0 hdg hx0 htok hcons hT hn hM hD hp h hlen htx
 obtain ⟨b2, hb2⟩ : ∃ b, b = w.heap.size := ⟨_, rfl⟩
 go_enter Tryz.func36, Tryz.ntmps36
 go_upto_region 1 with fail
 rw [← hb2]
 refine gen_wpT fun W hW => ?_
 have HR := zh (show W.heap[b2]? = some (.cells #[.int .i64 0, .string ByteArray.empty, .int .i64 0, .int .i64 0, .int .i64 0] 65 (0, 0)) by rw [← hW, hb2]; exact heap_new_at _ _ _ rfl)
 have HB := zh (show ScB W g s i mb by rw [← hW]; exact blk_alloc H.out _)
 have HF := zh (show Fr [g] w W by rw [← hW]; exact (Fr.refl _ _).alloc _)
 have HBG := zh (show b2 ≠ g ∧ w.heap.size ≤ b2 by have := H.out.lt; exact ⟨by omega, by omega⟩)
 have c1 := HB.out.c1
 have cl := HB.out.lt
 clear hW hb2
 go_wp2_with fail
 go_loopw [] (fun wr => ∃ j : Nat, j ≤ T ∧ i ≤ j ∧ Hid (ScB wr g s j mb) ∧ Hid (j + runL (s.data.toList.drop j) = T) ∧ Hid (wr.heap[b2]? = some (.cells #[.int .i64 0, .string ByteArray.empty, .int .i64 0, .int .i64 0, .int .i64 0] 65 (0, 0))) ∧ Hid (Fr [g] w wr)) (fun wr => s.size - scI wr g)
 case atStart => exact ⟨i, by have := HNT.out; omega, znr, HB, zh (by have := HNT.out; omega), HR, HF⟩
 case round =>
  obtain ⟨j, hjT, hij, HBj, HJ, HRj, HFj⟩ := hrel; clear c1 cl; have c0 := HBj.out.c0; have c1 := HBj.out.c1; have cf := HBj.out.fr; have cl := HBj.out.lt; by_cases hjs : j < s.size
  case pos =>
   have hjs' : (j : Int) < (s.size : Int) := by omega
   have hj0 : (0 : Int) ≤ j := by omega
   have hpart := fun w => part_any s[j].toNat w (UInt8.toNat_lt _); have hdj := drop_at hjs
   cases hpj : partN s[j].toNat with
   | true =>
    have hjn : j + 1 ≤ T ∧ (j + 1) + runL (s.data.toList.drop (j + 1)) = T := by
     have h1 := HJ.out; rw [hdj, runL_yes hpj] at h1
     omega
    have HJN := zh hjn; obtain ⟨j1, hj1⟩ : ∃ j1, j1 = j + 1 := ⟨_, rfl⟩; have hadd : (j : Int) + 1 = (j1 : Int) := by omega
    have haddw : IntKind.i64.wrap (j1 : Int) = (j1 : Int) := IntWalk.i64_in _ (by omega); have HJ1 := zh hj1; rw [hpj] at hpart; clear hdj hpj hjn hj1; go_wp2_with fail
    go_quiet ((go_at_call 40; exact quiet_ret (hpart _)))
    go_wp2_with fail
    go_roundw
    case rel => exact ⟨j1, by have := HJ1.out; have := HJN.out; omega, by have := HJ1.out; omega, zh (ScB.set (by exact HBj.out) j1), zh (by rw [HJ1.out]; exact HJN.out.2), zh (blk_far (by exact HRj.out) (by have := HBG.out.1; simp; omega) _), zh ((HFj.out.drewN _).setN _)⟩
    case measure =>
     rw [scI_of HBj.out, scI_of (ScB.set (i := j) (s := s) (mb := mb) (by exact HBj.out) j1)]; have := HJ1.out
     omega
   | false =>
    have hjT2 : j = T := by
     have h1 := HJ.out; rw [hdj, runL_no hpj] at h1
     omega
    rw [hpj] at hpart; clear hdj hpj; subst hjT2; go_wp2_with fail
    go_quiet ((go_at_call 40; exact quiet_ret (hpart _)))
    go_upto_region 4 with fail
    refine gen_wpT fun V hV => ?_; have HBV := zh (show ScB V g s j mb by rw [← hV]; exact HBj.out); have HRV := zh (show V.heap[b2]? = some (.cells #[.int .i64 0, .string ByteArray.empty, .int .i64 0, .int .i64 0, .int .i64 0] 65 (0, 0)) by rw [← hV]; exact HRj.out); have HFV := zh (show Fr [g] w V by rw [← hV]; exact HFj.out.drewN _); have hiT : (i : Int) ≤ (j : Int) := by omega
    have hi0 : (0 : Int) ≤ i := by omega
    have hTs' : (j : Int) ≤ (s.size : Int) := by omega
    clear hV c0 c1 cf cl; refine wp_region_held_drew (S := fun w' => ScB w' g s j mb) (by kernel_rfl) (HBV.out) (fun hHeld => ?_); refine ztk 0 40 (.pointer (some ⟨g, 0, none⟩)) hHeld ?_; simp only [zq]; refine ztk 1 41 (.pointer (some ⟨g, 0, none⟩)) hHeld ?_; simp only [zq]; refine ztk 2 42 (.pointer (some ⟨g, 0, none⟩)) hHeld ?_; simp only [zq]; refine ztk 3 43 (.string s) hHeld ?_ (hy := Or.inl ⟨by rfl, fun w' hS => (by have q := ScB.c0 hS; go_simp)⟩); simp only [zq]; refine ztk 4 44 (.int .i64 (i : Int)) hHeld ?_; simp only [zq]; refine ztk 5 45 (.pointer (some ⟨g, 0, none⟩)) hHeld ?_; simp only [zq]; refine ztk 6 46 (.pointer (some ⟨g, 0, none⟩)) hHeld ?_; simp only [zq]; refine ztk 7 47 (.pointer (some ⟨g, 1, none⟩)) hHeld ?_; simp only [zq]; refine ztk 8 48 (.int .i64 (j : Int)) hHeld ?_ (hy := Or.inl ⟨by rfl, fun w' hS => (by have q := ScB.c1 hS; go_simp)⟩); simp only [zq]; refine ztk 9 49 (.string tx) hHeld ?_ (hy := Or.inl ⟨by rfl, fun w' hS => (by have hx := HTX.out.symm; go_simp)⟩); simp only [zq]; refine ztk 10 50 (.agg #[.int .i64 1, .string tx, .int .i64 0, .int .i64 0, .int .i64 0]) hHeld ?_; simp only [zq]; refine zrd 11 fun K hK => ?_
    go_simp
    refine hK.out _ _ (by exact blk_alloc (by exact HBV.out) _) (fun hHeld => ?_); clear hK K
    try simp only [zq]
    refine zrd 12 fun K hK => ?_
    go_simp
    refine hK.out _ _ (by exact blk_alloc (by exact HBV.out) _) (fun hHeld => ?_); clear hK K
    try simp only [zq]
    refine wpAnyH_done (by kernel_rfl) ?_ _
    go_upto_region 5 with fail
    obtain ⟨bt, hbt⟩ : ∃ b, b = V.heap.size := ⟨_, rfl⟩; rw [← hbt]; refine gen_wpT fun U hU => ?_; have HBU := zh (show ScB U g s j mb by rw [← hU]; exact blk_alloc (by exact HBV.out) _); have HRU := zh (show U.heap[b2]? = some (.cells #[.int .i64 0, .string ByteArray.empty, .int .i64 0, .int .i64 0, .int .i64 0] 65 (0, 0)) by rw [← hU]; exact blk_alloc (by exact HRV.out) _); have HTU := zh (show U.heap[bt]? = some (.cells #[.int .i64 1, .string tx, .int .i64 0, .int .i64 0, .int .i64 0] 65 (0, 0)) by rw [← hU, hbt]; exact heap_new_at _ _ _ (by simp)); have HFU := zh (show Fr [g] w U by rw [← hU]; exact (HFV.out.drewN 1).alloc _); have hbn : bt ≠ g ∧ bt ≠ b2 ∧ w.heap.size ≤ bt := by
     have h1 := blk_lt HRV.out; have h2 := HBV.out.lt; have h3 := HFV.out.size; exact ⟨by omega, by omega, by omega⟩
    have HBN := zh hbn; have n1 := hbn.1; have n2 := hbn.2.1; have n3 := HBG.out.1; clear hU hbt hbn; obtain ⟨r0, r1, r2, r3, r4, rf0, rf1, rf2, rf3, rf4, rl⟩ := blk_5 HRU.out; obtain ⟨t0, t1, t2, t3, t4, tf0, tf1, tf2, tf3, tf4, tl⟩ := blk_5 HTU.out; have hdig := fun w => digits_any tx[0].toNat w (UInt8.toNat_lt _); rw [HX0.out] at hdig; have HDG := zh hdig; clear hdig
    cases lt with
    | true =>
     cases hwd : isWord tx
     case false =>
      have HWD := zh hwd; have HTOK2 := zh (show tokenL (s.data.toList.drop i) = .inr (1, tx, 0, n) by rw [HTOK.out, if_pos rfl, hwd]; rfl); have HML := zh (show mb < w.heap.size from by obtain ⟨es, clock, hb, r⟩ := HMM.out.1; exact blk_lt hb); clear hwd; go_wp2_with fail
      refine (HDG.out _).mono ?_; rintro e w5 ⟨rfl, rfl⟩; go_wp2_with fail
      refine wp_region_held_drew (S := fun w' => ScB w' g s j mb ∧ w'.cell? ⟨bt, 1, none⟩ = some (.string tx) ∧ w'.heap[mb]? = w.heap[mb]?) (by kernel_rfl) (⟨HBU.out, t1, HFU.out.block mb HML.out (by simp; exact hmg)⟩) (fun hHeld => ?_); refine ztk 0 70 (.pointer (some ⟨g, 0, none⟩)) hHeld ?_; simp only [zq]; refine ztk 1 71 (.pointer (some ⟨g, 0, none⟩)) hHeld ?_; simp only [zq]; refine ztk 2 72 (.pointer (some ⟨g, 2, none⟩)) hHeld ?_; simp only [zq]; refine ztk 3 73 (.map (some mb)) hHeld ?_ (hy := Or.inl ⟨by rfl, fun w' hS => (by have q := ScB.c2 hS.1; go_simp)⟩); simp only [zq]; refine ztk 4 74 (.pointer (some ⟨bt, 1, none⟩)) hHeld ?_; simp only [zq]; refine ztk 5 75 (.string tx) hHeld ?_ (hy := Or.inl ⟨by rfl, fun w' hS => (by have q := hS.2.1; go_simp)⟩); simp only [zq]; refine ztk 6 76 (.int .i64 0) hHeld ?_ (hy := Or.inl ⟨by rfl, fun w' hS => (by have hl := look_word HMM.out.1 HMM.out.2 tx (by unfold maxLen; omega) w' hS.2.2; rw [isWord_tb, HWD.out] at hl; rw [if_neg (by decide)] at hl; have q0 := ScB.c2 hS.1; have q1 := hS.2.1; go_simp)⟩); simp only [zq]; refine ztk 7 77 (.bool false) hHeld ?_; simp only [zq]; refine ztk 8 69 (.bool false) hHeld ?_; simp only [zq]; refine wpAnyH_done (by kernel_rfl) ?_ _
      go_upto_region 11 with fail
      refine gen_wpT fun U2 hU2 => ?_; have HBX := zh (show ScB U2 g s j mb by rw [← hU2]; exact HBU.out); have HFX := zh (show Fr [g] w U2 by rw [← hU2]; exact HFU.out.drewN 1); have HRX := zh (show U2.heap[b2]? = some (.cells #[.int .i64 0, .string ByteArray.empty, .int .i64 0, .int .i64 0, .int .i64 0] 65 (0, 0)) by rw [← hU2]; exact HRU.out); have HTX2 := zh (show U2.heap[bt]? = some (.cells #[.int .i64 1, .string tx, .int .i64 0, .int .i64 0, .int .i64 0] 65 (0, 0)) by rw [← hU2]; exact HTU.out); clear hU2 r0 r1 r2 r3 r4 rf0 rf1 rf2 rf3 rf4 rl t0 t1 t2 t3 t4 tf0 tf1 tf2 tf3 tf4 tl; obtain ⟨r0, r1, r2, r3, r4, rf0, rf1, rf2, rf3, rf4, rl⟩ := blk_5 HRX.out; obtain ⟨t0, t1, t2, t3, t4, tf0, tf1, tf2, tf3, tf4, tl⟩ := blk_5 HTX2.out; go_wp2
      have n4 : b2 ≠ bt := by omega
      have hx0 : U2.heap[b2]? = some (.cells #[.int .i64 0, .string ByteArray.empty, .int .i64 0, .int .i64 0, .int .i64 0] 65 (0, 0)) := HRX.out; obtain ⟨j0, j1, j2, j3, j4⟩ := tok_five hx0 rfl (.int .i64 1) (.string tx) (.int .i64 0) (.int .i64 0) (.int .i64 0); clear hx0; refine bodyPost_ret (v := .agg #[.int .i64 1, .string tx, .int .i64 0, .int .i64 0, .int .i64 0]) (by simp [results, Tryz.results36, go_sem, j0, j1, j2, j3, j4]) rfl ?_; exact ⟨(Fr.set (a := ⟨b2, 4, none⟩) (Fr.set (a := ⟨b2, 3, none⟩) (Fr.set (a := ⟨b2, 2, none⟩) (Fr.set (a := ⟨b2, 1, none⟩) (Fr.set (a := ⟨b2, 0, none⟩) HFX.out (.int .i64 1) (.inr HBG.out.2)) (.string tx) (.inr HBG.out.2)) (.int .i64 0) (.inr HBG.out.2)) (.int .i64 0) (.inr HBG.out.2)) (.int .i64 0) (.inr HBG.out.2)), .inr ⟨_, _, _, n, HTOK2.out, rfl, (by rw [← HNT.out.1]; exact (blk_far (a := ⟨b2, 4, none⟩) (blk_far (a := ⟨b2, 3, none⟩) (blk_far (a := ⟨b2, 2, none⟩) (blk_far (a := ⟨b2, 1, none⟩) (blk_far (a := ⟨b2, 0, none⟩) HBX.out HBG.out.1.symm (.int .i64 1)) HBG.out.1.symm (.string tx)) HBG.out.1.symm (.int .i64 0)) HBG.out.1.symm (.int .i64 0)) HBG.out.1.symm (.int .i64 0)))⟩⟩
     case true =>
      have HWD := zh hwd; have HTOK2 := zh (show tokenL (s.data.toList.drop i) = .inr (2, tx, 0, n) by rw [HTOK.out, if_pos rfl, hwd]; rfl); have HML := zh (show mb < w.heap.size from by obtain ⟨es, clock, hb, r⟩ := HMM.out.1; exact blk_lt hb); clear hwd; go_wp2_with fail
      refine (HDG.out _).mono ?_; rintro e w5 ⟨rfl, rfl⟩; go_wp2_with fail
      refine wp_region_held_drew (S := fun w' => ScB w' g s j mb ∧ w'.cell? ⟨bt, 1, none⟩ = some (.string tx) ∧ w'.heap[mb]? = w.heap[mb]?) (by kernel_rfl) (⟨HBU.out, t1, HFU.out.block mb HML.out (by simp; exact hmg)⟩) (fun hHeld => ?_); refine ztk 0 70 (.pointer (some ⟨g, 0, none⟩)) hHeld ?_; simp only [zq]; refine ztk 1 71 (.pointer (some ⟨g, 0, none⟩)) hHeld ?_; simp only [zq]; refine ztk 2 72 (.pointer (some ⟨g, 2, none⟩)) hHeld ?_; simp only [zq]; refine ztk 3 73 (.map (some mb)) hHeld ?_ (hy := Or.inl ⟨by rfl, fun w' hS => (by have q := ScB.c2 hS.1; go_simp)⟩); simp only [zq]; refine ztk 4 74 (.pointer (some ⟨bt, 1, none⟩)) hHeld ?_; simp only [zq]; refine ztk 5 75 (.string tx) hHeld ?_ (hy := Or.inl ⟨by rfl, fun w' hS => (by have q := hS.2.1; go_simp)⟩); simp only [zq]; refine ztk 6 76 (.int .i64 1) hHeld ?_ (hy := Or.inl ⟨by rfl, fun w' hS => (by have hl := look_word HMM.out.1 HMM.out.2 tx (by unfold maxLen; omega) w' hS.2.2; rw [isWord_tb, HWD.out] at hl; rw [if_pos rfl] at hl; have q0 := ScB.c2 hS.1; have q1 := hS.2.1; go_simp)⟩); simp only [zq]; refine ztk 7 77 (.bool true) hHeld ?_; simp only [zq]; refine ztk 8 69 (.bool true) hHeld ?_; simp only [zq]; refine wpAnyH_done (by kernel_rfl) ?_ _
      go_upto_region 10 with fail
      refine gen_wpT fun U2 hU2 => ?_; have HBX := zh (show ScB U2 g s j mb by rw [← hU2]; exact HBU.out); have HFX := zh (show Fr [g] w U2 by rw [← hU2]; exact HFU.out.drewN 1); have HRX := zh (show U2.heap[b2]? = some (.cells #[.int .i64 0, .string ByteArray.empty, .int .i64 0, .int .i64 0, .int .i64 0] 65 (0, 0)) by rw [← hU2]; exact HRU.out); have HTX2 := zh (show U2.heap[bt]? = some (.cells #[.int .i64 1, .string tx, .int .i64 0, .int .i64 0, .int .i64 0] 65 (0, 0)) by rw [← hU2]; exact HTU.out); clear hU2 r0 r1 r2 r3 r4 rf0 rf1 rf2 rf3 rf4 rl t0 t1 t2 t3 t4 tf0 tf1 tf2 tf3 tf4 tl; obtain ⟨r0, r1, r2, r3, r4, rf0, rf1, rf2, rf3, rf4, rl⟩ := blk_5 HRX.out; obtain ⟨t0, t1, t2, t3, t4, tf0, tf1, tf2, tf3, tf4, tl⟩ := blk_5 HTX2.out; go_wp2
      have n4 : b2 ≠ bt := by omega
      have hx0 : (U2.setCell ⟨bt, 0, none⟩ (.int .i64 2)).heap[b2]? = some (.cells #[.int .i64 0, .string ByteArray.empty, .int .i64 0, .int .i64 0, .int .i64 0] 65 (0, 0)) := (blk_far (a := ⟨bt, 0, none⟩) (HRX.out) n4 (.int .i64 2)); obtain ⟨j0, j1, j2, j3, j4⟩ := tok_five hx0 rfl (.int .i64 2) (.string tx) (.int .i64 0) (.int .i64 0) (.int .i64 0); clear hx0; refine bodyPost_ret (v := .agg #[.int .i64 2, .string tx, .int .i64 0, .int .i64 0, .int .i64 0]) (by simp [results, Tryz.results36, go_sem, j0, j1, j2, j3, j4]) rfl ?_; exact ⟨(Fr.set (a := ⟨b2, 4, none⟩) (Fr.set (a := ⟨b2, 3, none⟩) (Fr.set (a := ⟨b2, 2, none⟩) (Fr.set (a := ⟨b2, 1, none⟩) (Fr.set (a := ⟨b2, 0, none⟩) (Fr.set (a := ⟨bt, 0, none⟩) HFX.out (.int .i64 2) (.inr HBN.out.2.2)) (.int .i64 2) (.inr HBG.out.2)) (.string tx) (.inr HBG.out.2)) (.int .i64 0) (.inr HBG.out.2)) (.int .i64 0) (.inr HBG.out.2)) (.int .i64 0) (.inr HBG.out.2)), .inr ⟨_, _, _, n, HTOK2.out, rfl, (by rw [← HNT.out.1]; exact (blk_far (a := ⟨b2, 4, none⟩) (blk_far (a := ⟨b2, 3, none⟩) (blk_far (a := ⟨b2, 2, none⟩) (blk_far (a := ⟨b2, 1, none⟩) (blk_far (a := ⟨b2, 0, none⟩) (blk_far (a := ⟨bt, 0, none⟩) HBX.out HBN.out.1.symm (.int .i64 2)) HBG.out.1.symm (.int .i64 2)) HBG.out.1.symm (.string tx)) HBG.out.1.symm (.int .i64 0)) HBG.out.1.symm (.int .i64 0)) HBG.out.1.symm (.int .i64 0)))⟩⟩
    | false =>
     have hnum := fun w => number_any tx w (by unfold maxLen; omega)
     cases hnn : numS tx with
     | none =>
      rw [hnn] at hnum; have HNU := zh hnum; have HTOK2 := zh (show tokenL (s.data.toList.drop i) = .inl 51 by rw [HTOK.out, if_neg (by decide), hnn]); clear hnum hnn; go_wp2_with fail
      refine (HDG.out _).mono ?_; rintro e w5 ⟨rfl, rfl⟩; go_wp2_with fail
      refine (HNU.out _).mono ?_; rintro e w6 ⟨rfl, hb6⟩; have HFX := zh (HFU.out.belowN hb6); clear hb6; go_wp2_with fail
      refine (xmust_no _ _ _ _).mono ?_; rintro e w7 ⟨rfl, rfl⟩; go_wp2
      exact ⟨rfl, HFX.out, .inl ⟨51, HTOK2.out, rfl⟩⟩
     | some k =>
      rw [hnn] at hnum; have HNU := zh hnum; have HTOK2 := zh (show tokenL (s.data.toList.drop i) = .inr (3, tx, k, n) by rw [HTOK.out, if_neg (by decide), hnn]); clear hnum hnn; go_wp2_with fail
      refine (HDG.out _).mono ?_; rintro e w5 ⟨rfl, rfl⟩; go_wp2_with fail
      refine (HNU.out _).mono ?_; rintro e w6 ⟨rfl, hb6⟩; have HFX := zh (HFU.out.belowN hb6); have HBX := zh (HBU.out.below hb6); have HRX := zh (below_blk hb6 HRU.out); have HTX2 := zh (below_blk hb6 HTU.out); clear hb6 r0 r1 r2 r3 r4 rf0 rf1 rf2 rf3 rf4 rl t0 t1 t2 t3 t4 tf0 tf1 tf2 tf3 tf4 tl; obtain ⟨r0, r1, r2, r3, r4, rf0, rf1, rf2, rf3, rf4, rl⟩ := blk_5 HRX.out; obtain ⟨t0, t1, t2, t3, t4, tf0, tf1, tf2, tf3, tf4, tl⟩ := blk_5 HTX2.out; go_wp2_with fail
      refine (xmust_ok _ _ _ _).mono ?_; rintro e w7 ⟨rfl, rfl⟩; go_wp2
      have n4 : b2 ≠ bt := by omega
      have hx0 : ((w6.setCell ⟨bt, 0, none⟩ (.int .i64 3)).setCell ⟨bt, 4, none⟩ (.int .i64 k)).heap[b2]? = some (.cells #[.int .i64 0, .string ByteArray.empty, .int .i64 0, .int .i64 0, .int .i64 0] 65 (0, 0)) := (blk_far (a := ⟨bt, 4, none⟩) ((blk_far (a := ⟨bt, 0, none⟩) (HRX.out) n4 (.int .i64 3))) n4 (.int .i64 k)); obtain ⟨j0, j1, j2, j3, j4⟩ := tok_five hx0 rfl (.int .i64 3) (.string tx) (.int .i64 0) (.int .i64 0) (.int .i64 k); clear hx0; refine bodyPost_ret (v := .agg #[.int .i64 3, .string tx, .int .i64 0, .int .i64 0, .int .i64 k]) (by simp [results, Tryz.results36, go_sem, j0, j1, j2, j3, j4]) rfl ?_; exact ⟨(Fr.set (a := ⟨b2, 4, none⟩) (Fr.set (a := ⟨b2, 3, none⟩) (Fr.set (a := ⟨b2, 2, none⟩) (Fr.set (a := ⟨b2, 1, none⟩) (Fr.set (a := ⟨b2, 0, none⟩) (Fr.set (a := ⟨bt, 4, none⟩) (Fr.set (a := ⟨bt, 0, none⟩) HFX.out (.int .i64 3) (.inr HBN.out.2.2)) (.int .i64 k) (.inr HBN.out.2.2)) (.int .i64 3) (.inr HBG.out.2)) (.string tx) (.inr HBG.out.2)) (.int .i64 0) (.inr HBG.out.2)) (.int .i64 0) (.inr HBG.out.2)) (.int .i64 k) (.inr HBG.out.2)), .inr ⟨_, _, _, n, HTOK2.out, rfl, (by rw [← HNT.out.1]; exact (blk_far (a := ⟨b2, 4, none⟩) (blk_far (a := ⟨b2, 3, none⟩) (blk_far (a := ⟨b2, 2, none⟩) (blk_far (a := ⟨b2, 1, none⟩) (blk_far (a := ⟨b2, 0, none⟩) (blk_far (a := ⟨bt, 4, none⟩) (blk_far (a := ⟨bt, 0, none⟩) HBX.out HBN.out.1.symm (.int .i64 3)) HBN.out.1.symm (.int .i64 k)) HBG.out.1.symm (.int .i64 3)) HBG.out.1.symm (.string tx)) HBG.out.1.symm (.int .i64 0)) HBG.out.1.symm (.int .i64 0)) HBG.out.1.symm (.int .i64 k)))⟩⟩
  case neg =>
   have hjs' : ¬ (j : Int) < (s.size : Int) := by omega
   have hjT2 : j = T := by omega
   subst hjT2; go_wp2_with fail
   go_quiet ((go_at_call 40; exact quiet_ret (part_any _ _ _)))
   go_upto_region 4 with fail
   refine gen_wpT fun V hV => ?_; have HBV := zh (show ScB V g s j mb by rw [← hV]; exact HBj.out); have HRV := zh (show V.heap[b2]? = some (.cells #[.int .i64 0, .string ByteArray.empty, .int .i64 0, .int .i64 0, .int .i64 0] 65 (0, 0)) by rw [← hV]; exact HRj.out); have HFV := zh (show Fr [g] w V by rw [← hV]; exact HFj.out.drewN _); have hiT : (i : Int) ≤ (j : Int) := by omega
   have hi0 : (0 : Int) ≤ i := by omega
   have hTs' : (j : Int) ≤ (s.size : Int) := by omega
   clear hV c0 c1 cf cl; refine wp_region_held_drew (S := fun w' => ScB w' g s j mb) (by kernel_rfl) (HBV.out) (fun hHeld => ?_); refine ztk 0 40 (.pointer (some ⟨g, 0, none⟩)) hHeld ?_; simp only [zq]; refine ztk 1 41 (.pointer (some ⟨g, 0, none⟩)) hHeld ?_; simp only [zq]; refine ztk 2 42 (.pointer (some ⟨g, 0, none⟩)) hHeld ?_; simp only [zq]; refine ztk 3 43 (.string s) hHeld ?_ (hy := Or.inl ⟨by rfl, fun w' hS => (by have q := ScB.c0 hS; go_simp)⟩); simp only [zq]; refine ztk 4 44 (.int .i64 (i : Int)) hHeld ?_; simp only [zq]; refine ztk 5 45 (.pointer (some ⟨g, 0, none⟩)) hHeld ?_; simp only [zq]; refine ztk 6 46 (.pointer (some ⟨g, 0, none⟩)) hHeld ?_; simp only [zq]; refine ztk 7 47 (.pointer (some ⟨g, 1, none⟩)) hHeld ?_; simp only [zq]; refine ztk 8 48 (.int .i64 (j : Int)) hHeld ?_ (hy := Or.inl ⟨by rfl, fun w' hS => (by have q := ScB.c1 hS; go_simp)⟩); simp only [zq]; refine ztk 9 49 (.string tx) hHeld ?_ (hy := Or.inl ⟨by rfl, fun w' hS => (by have hx := HTX.out.symm; go_simp)⟩); simp only [zq]; refine ztk 10 50 (.agg #[.int .i64 1, .string tx, .int .i64 0, .int .i64 0, .int .i64 0]) hHeld ?_; simp only [zq]; refine zrd 11 fun K hK => ?_
   go_simp
   refine hK.out _ _ (by exact blk_alloc (by exact HBV.out) _) (fun hHeld => ?_); clear hK K
   try simp only [zq]
   refine zrd 12 fun K hK => ?_
   go_simp
   refine hK.out _ _ (by exact blk_alloc (by exact HBV.out) _) (fun hHeld => ?_); clear hK K
   try simp only [zq]
   refine wpAnyH_done (by kernel_rfl) ?_ _
   go_upto_region 5 with fail
   obtain ⟨bt, hbt⟩ : ∃ b, b = V.heap.size := ⟨_, rfl⟩; rw [← hbt]; refine gen_wpT fun U hU => ?_; have HBU := zh (show ScB U g s j mb by rw [← hU]; exact blk_alloc (by exact HBV.out) _); have HRU := zh (show U.heap[b2]? = some (.cells #[.int .i64 0, .string ByteArray.empty, .int .i64 0, .int .i64 0, .int .i64 0] 65 (0, 0)) by rw [← hU]; exact blk_alloc (by exact HRV.out) _); have HTU := zh (show U.heap[bt]? = some (.cells #[.int .i64 1, .string tx, .int .i64 0, .int .i64 0, .int .i64 0] 65 (0, 0)) by rw [← hU, hbt]; exact heap_new_at _ _ _ (by simp)); have HFU := zh (show Fr [g] w U by rw [← hU]; exact (HFV.out.drewN 1).alloc _); have hbn : bt ≠ g ∧ bt ≠ b2 ∧ w.heap.size ≤ bt := by
    have h1 := blk_lt HRV.out; have h2 := HBV.out.lt; have h3 := HFV.out.size; exact ⟨by omega, by omega, by omega⟩
   have HBN := zh hbn; have n1 := hbn.1; have n2 := hbn.2.1; have n3 := HBG.out.1; clear hU hbt hbn; obtain ⟨r0, r1, r2, r3, r4, rf0, rf1, rf2, rf3, rf4, rl⟩ := blk_5 HRU.out; obtain ⟨t0, t1, t2, t3, t4, tf0, tf1, tf2, tf3, tf4, tl⟩ := blk_5 HTU.out; have hdig := fun w => digits_any tx[0].toNat w (UInt8.toNat_lt _); rw [HX0.out] at hdig; have HDG := zh hdig; clear hdig
   cases lt with
   | true =>
    cases hwd : isWord tx
    case false =>
     have HWD := zh hwd; have HTOK2 := zh (show tokenL (s.data.toList.drop i) = .inr (1, tx, 0, n) by rw [HTOK.out, if_pos rfl, hwd]; rfl); have HML := zh (show mb < w.heap.size from by obtain ⟨es, clock, hb, r⟩ := HMM.out.1; exact blk_lt hb); clear hwd; go_wp2_with fail
     refine (HDG.out _).mono ?_; rintro e w5 ⟨rfl, rfl⟩; go_wp2_with fail
     refine wp_region_held_drew (S := fun w' => ScB w' g s j mb ∧ w'.cell? ⟨bt, 1, none⟩ = some (.string tx) ∧ w'.heap[mb]? = w.heap[mb]?) (by kernel_rfl) (⟨HBU.out, t1, HFU.out.block mb HML.out (by simp; exact hmg)⟩) (fun hHeld => ?_); refine ztk 0 70 (.pointer (some ⟨g, 0, none⟩)) hHeld ?_; simp only [zq]; refine ztk 1 71 (.pointer (some ⟨g, 0, none⟩)) hHeld ?_; simp only [zq]; refine ztk 2 72 (.pointer (some ⟨g, 2, none⟩)) hHeld ?_; simp only [zq]; refine ztk 3 73 (.map (some mb)) hHeld ?_ (hy := Or.inl ⟨by rfl, fun w' hS => (by have q := ScB.c2 hS.1; go_simp)⟩); simp only [zq]; refine ztk 4 74 (.pointer (some ⟨bt, 1, none⟩)) hHeld ?_; simp only [zq]; refine ztk 5 75 (.string tx) hHeld ?_ (hy := Or.inl ⟨by rfl, fun w' hS => (by have q := hS.2.1; go_simp)⟩); simp only [zq]; refine ztk 6 76 (.int .i64 0) hHeld ?_ (hy := Or.inl ⟨by rfl, fun w' hS => (by have hl := look_word HMM.out.1 HMM.out.2 tx (by unfold maxLen; omega) w' hS.2.2; rw [isWord_tb, HWD.out] at hl; rw [if_neg (by decide)] at hl; have q0 := ScB.c2 hS.1; have q1 := hS.2.1; go_simp)⟩); simp only [zq]; refine ztk 7 77 (.bool false) hHeld ?_; simp only [zq]; refine ztk 8 69 (.bool false) hHeld ?_; simp only [zq]; refine wpAnyH_done (by kernel_rfl) ?_ _
     go_upto_region 11 with fail
     refine gen_wpT fun U2 hU2 => ?_; have HBX := zh (show ScB U2 g s j mb by rw [← hU2]; exact HBU.out); have HFX := zh (show Fr [g] w U2 by rw [← hU2]; exact HFU.out.drewN 1); have HRX := zh (show U2.heap[b2]? = some (.cells #[.int .i64 0, .string ByteArray.empty, .int .i64 0, .int .i64 0, .int .i64 0] 65 (0, 0)) by rw [← hU2]; exact HRU.out); have HTX2 := zh (show U2.heap[bt]? = some (.cells #[.int .i64 1, .string tx, .int .i64 0, .int .i64 0, .int .i64 0] 65 (0, 0)) by rw [← hU2]; exact HTU.out); clear hU2 r0 r1 r2 r3 r4 rf0 rf1 rf2 rf3 rf4 rl t0 t1 t2 t3 t4 tf0 tf1 tf2 tf3 tf4 tl; obtain ⟨r0, r1, r2, r3, r4, rf0, rf1, rf2, rf3, rf4, rl⟩ := blk_5 HRX.out; obtain ⟨t0, t1, t2, t3, t4, tf0, tf1, tf2, tf3, tf4, tl⟩ := blk_5 HTX2.out; go_wp2
     have n4 : b2 ≠ bt := by omega
     have hx0 : U2.heap[b2]? = some (.cells #[.int .i64 0, .string ByteArray.empty, .int .i64 0, .int .i64 0, .int .i64 0] 65 (0, 0)) := HRX.out; obtain ⟨j0, j1, j2, j3, j4⟩ := tok_five hx0 rfl (.int .i64 1) (.string tx) (.int .i64 0) (.int .i64 0) (.int .i64 0); clear hx0; refine bodyPost_ret (v := .agg #[.int .i64 1, .string tx, .int .i64 0, .int .i64 0, .int .i64 0]) (by simp [results, Tryz.results36, go_sem, j0, j1, j2, j3, j4]) rfl ?_; exact ⟨(Fr.set (a := ⟨b2, 4, none⟩) (Fr.set (a := ⟨b2, 3, none⟩) (Fr.set (a := ⟨b2, 2, none⟩) (Fr.set (a := ⟨b2, 1, none⟩) (Fr.set (a := ⟨b2, 0, none⟩) HFX.out (.int .i64 1) (.inr HBG.out.2)) (.string tx) (.inr HBG.out.2)) (.int .i64 0) (.inr HBG.out.2)) (.int .i64 0) (.inr HBG.out.2)) (.int .i64 0) (.inr HBG.out.2)), .inr ⟨_, _, _, n, HTOK2.out, rfl, (by rw [← HNT.out.1]; exact (blk_far (a := ⟨b2, 4, none⟩) (blk_far (a := ⟨b2, 3, none⟩) (blk_far (a := ⟨b2, 2, none⟩) (blk_far (a := ⟨b2, 1, none⟩) (blk_far (a := ⟨b2, 0, none⟩) HBX.out HBG.out.1.symm (.int .i64 1)) HBG.out.1.symm (.string tx)) HBG.out.1.symm (.int .i64 0)) HBG.out.1.symm (.int .i64 0)) HBG.out.1.symm (.int .i64 0)))⟩⟩
    case true =>
     have HWD := zh hwd; have HTOK2 := zh (show tokenL (s.data.toList.drop i) = .inr (2, tx, 0, n) by rw [HTOK.out, if_pos rfl, hwd]; rfl); have HML := zh (show mb < w.heap.size from by obtain ⟨es, clock, hb, r⟩ := HMM.out.1; exact blk_lt hb); clear hwd; go_wp2_with fail
     refine (HDG.out _).mono ?_; rintro e w5 ⟨rfl, rfl⟩; go_wp2_with fail
     refine wp_region_held_drew (S := fun w' => ScB w' g s j mb ∧ w'.cell? ⟨bt, 1, none⟩ = some (.string tx) ∧ w'.heap[mb]? = w.heap[mb]?) (by kernel_rfl) (⟨HBU.out, t1, HFU.out.block mb HML.out (by simp; exact hmg)⟩) (fun hHeld => ?_); refine ztk 0 70 (.pointer (some ⟨g, 0, none⟩)) hHeld ?_; simp only [zq]; refine ztk 1 71 (.pointer (some ⟨g, 0, none⟩)) hHeld ?_; simp only [zq]; refine ztk 2 72 (.pointer (some ⟨g, 2, none⟩)) hHeld ?_; simp only [zq]; refine ztk 3 73 (.map (some mb)) hHeld ?_ (hy := Or.inl ⟨by rfl, fun w' hS => (by have q := ScB.c2 hS.1; go_simp)⟩); simp only [zq]; refine ztk 4 74 (.pointer (some ⟨bt, 1, none⟩)) hHeld ?_; simp only [zq]; refine ztk 5 75 (.string tx) hHeld ?_ (hy := Or.inl ⟨by rfl, fun w' hS => (by have q := hS.2.1; go_simp)⟩); simp only [zq]; refine ztk 6 76 (.int .i64 1) hHeld ?_ (hy := Or.inl ⟨by rfl, fun w' hS => (by have hl := look_word HMM.out.1 HMM.out.2 tx (by unfold maxLen; omega) w' hS.2.2; rw [isWord_tb, HWD.out] at hl; rw [if_pos rfl] at hl; have q0 := ScB.c2 hS.1; have q1 := hS.2.1; go_simp)⟩); simp only [zq]; refine ztk 7 77 (.bool true) hHeld ?_; simp only [zq]; refine ztk 8 69 (.bool true) hHeld ?_; simp only [zq]; refine wpAnyH_done (by kernel_rfl) ?_ _
     go_upto_region 10 with fail
     refine gen_wpT fun U2 hU2 => ?_; have HBX := zh (show ScB U2 g s j mb by rw [← hU2]; exact HBU.out); have HFX := zh (show Fr [g] w U2 by rw [← hU2]; exact HFU.out.drewN 1); have HRX := zh (show U2.heap[b2]? = some (.cells #[.int .i64 0, .string ByteArray.empty, .int .i64 0, .int .i64 0, .int .i64 0] 65 (0, 0)) by rw [← hU2]; exact HRU.out); have HTX2 := zh (show U2.heap[bt]? = some (.cells #[.int .i64 1, .string tx, .int .i64 0, .int .i64 0, .int .i64 0] 65 (0, 0)) by rw [← hU2]; exact HTU.out); clear hU2 r0 r1 r2 r3 r4 rf0 rf1 rf2 rf3 rf4 rl t0 t1 t2 t3 t4 tf0 tf1 tf2 tf3 tf4 tl; obtain ⟨r0, r1, r2, r3, r4, rf0, rf1, rf2, rf3, rf4, rl⟩ := blk_5 HRX.out; obtain ⟨t0, t1, t2, t3, t4, tf0, tf1, tf2, tf3, tf4, tl⟩ := blk_5 HTX2.out; go_wp2
     have n4 : b2 ≠ bt := by omega
     have hx0 : (U2.setCell ⟨bt, 0, none⟩ (.int .i64 2)).heap[b2]? = some (.cells #[.int .i64 0, .string ByteArray.empty, .int .i64 0, .int .i64 0, .int .i64 0] 65 (0, 0)) := (blk_far (a := ⟨bt, 0, none⟩) (HRX.out) n4 (.int .i64 2)); obtain ⟨j0, j1, j2, j3, j4⟩ := tok_five hx0 rfl (.int .i64 2) (.string tx) (.int .i64 0) (.int .i64 0) (.int .i64 0); clear hx0; refine bodyPost_ret (v := .agg #[.int .i64 2, .string tx, .int .i64 0, .int .i64 0, .int .i64 0]) (by simp [results, Tryz.results36, go_sem, j0, j1, j2, j3, j4]) rfl ?_; exact ⟨(Fr.set (a := ⟨b2, 4, none⟩) (Fr.set (a := ⟨b2, 3, none⟩) (Fr.set (a := ⟨b2, 2, none⟩) (Fr.set (a := ⟨b2, 1, none⟩) (Fr.set (a := ⟨b2, 0, none⟩) (Fr.set (a := ⟨bt, 0, none⟩) HFX.out (.int .i64 2) (.inr HBN.out.2.2)) (.int .i64 2) (.inr HBG.out.2)) (.string tx) (.inr HBG.out.2)) (.int .i64 0) (.inr HBG.out.2)) (.int .i64 0) (.inr HBG.out.2)) (.int .i64 0) (.inr HBG.out.2)), .inr ⟨_, _, _, n, HTOK2.out, rfl, (by rw [← HNT.out.1]; exact (blk_far (a := ⟨b2, 4, none⟩) (blk_far (a := ⟨b2, 3, none⟩) (blk_far (a := ⟨b2, 2, none⟩) (blk_far (a := ⟨b2, 1, none⟩) (blk_far (a := ⟨b2, 0, none⟩) (blk_far (a := ⟨bt, 0, none⟩) HBX.out HBN.out.1.symm (.int .i64 2)) HBG.out.1.symm (.int .i64 2)) HBG.out.1.symm (.string tx)) HBG.out.1.symm (.int .i64 0)) HBG.out.1.symm (.int .i64 0)) HBG.out.1.symm (.int .i64 0)))⟩⟩
   | false =>
    have hnum := fun w => number_any tx w (by unfold maxLen; omega)
    cases hnn : numS tx with
    | none =>
     rw [hnn] at hnum; have HNU := zh hnum; have HTOK2 := zh (show tokenL (s.data.toList.drop i) = .inl 51 by rw [HTOK.out, if_neg (by decide), hnn]); clear hnum hnn; go_wp2_with fail
     refine (HDG.out _).mono ?_; rintro e w5 ⟨rfl, rfl⟩; go_wp2_with fail
     refine (HNU.out _).mono ?_; rintro e w6 ⟨rfl, hb6⟩; have HFX := zh (HFU.out.belowN hb6); clear hb6; go_wp2_with fail
     refine (xmust_no _ _ _ _).mono ?_; rintro e w7 ⟨rfl, rfl⟩; go_wp2
     exact ⟨rfl, HFX.out, .inl ⟨51, HTOK2.out, rfl⟩⟩
    | some k =>
     rw [hnn] at hnum; have HNU := zh hnum; have HTOK2 := zh (show tokenL (s.data.toList.drop i) = .inr (3, tx, k, n) by rw [HTOK.out, if_neg (by decide), hnn]); clear hnum hnn; go_wp2_with fail
     refine (HDG.out _).mono ?_; rintro e w5 ⟨rfl, rfl⟩; go_wp2_with fail
     refine (HNU.out _).mono ?_; rintro e w6 ⟨rfl, hb6⟩; have HFX := zh (HFU.out.belowN hb6); have HBX := zh (HBU.out.below hb6); have HRX := zh (below_blk hb6 HRU.out); have HTX2 := zh (below_blk hb6 HTU.out); clear hb6 r0 r1 r2 r3 r4 rf0 rf1 rf2 rf3 rf4 rl t0 t1 t2 t3 t4 tf0 tf1 tf2 tf3 tf4 tl; obtain ⟨r0, r1, r2, r3, r4, rf0, rf1, rf2, rf3, rf4, rl⟩ := blk_5 HRX.out; obtain ⟨t0, t1, t2, t3, t4, tf0, tf1, tf2, tf3, tf4, tl⟩ := blk_5 HTX2.out; go_wp2_with fail
     refine (xmust_ok _ _ _ _).mono ?_; rintro e w7 ⟨rfl, rfl⟩; go_wp2
     have n4 : b2 ≠ bt := by omega
     have hx0 : ((w6.setCell ⟨bt, 0, none⟩ (.int .i64 3)).setCell ⟨bt, 4, none⟩ (.int .i64 k)).heap[b2]? = some (.cells #[.int .i64 0, .string ByteArray.empty, .int .i64 0, .int .i64 0, .int .i64 0] 65 (0, 0)) := (blk_far (a := ⟨bt, 4, none⟩) ((blk_far (a := ⟨bt, 0, none⟩) (HRX.out) n4 (.int .i64 3))) n4 (.int .i64 k)); obtain ⟨j0, j1, j2, j3, j4⟩ := tok_five hx0 rfl (.int .i64 3) (.string tx) (.int .i64 0) (.int .i64 0) (.int .i64 k); clear hx0; refine bodyPost_ret (v := .agg #[.int .i64 3, .string tx, .int .i64 0, .int .i64 0, .int .i64 k]) (by simp [results, Tryz.results36, go_sem, j0, j1, j2, j3, j4]) rfl ?_; exact ⟨(Fr.set (a := ⟨b2, 4, none⟩) (Fr.set (a := ⟨b2, 3, none⟩) (Fr.set (a := ⟨b2, 2, none⟩) (Fr.set (a := ⟨b2, 1, none⟩) (Fr.set (a := ⟨b2, 0, none⟩) (Fr.set (a := ⟨bt, 4, none⟩) (Fr.set (a := ⟨bt, 0, none⟩) HFX.out (.int .i64 3) (.inr HBN.out.2.2)) (.int .i64 k) (.inr HBN.out.2.2)) (.int .i64 3) (.inr HBG.out.2)) (.string tx) (.inr HBG.out.2)) (.int .i64 0) (.inr HBG.out.2)) (.int .i64 0) (.inr HBG.out.2)) (.int .i64 k) (.inr HBG.out.2)), .inr ⟨_, _, _, n, HTOK2.out, rfl, (by rw [← HNT.out.1]; exact (blk_far (a := ⟨b2, 4, none⟩) (blk_far (a := ⟨b2, 3, none⟩) (blk_far (a := ⟨b2, 2, none⟩) (blk_far (a := ⟨b2, 1, none⟩) (blk_far (a := ⟨b2, 0, none⟩) (blk_far (a := ⟨bt, 4, none⟩) (blk_far (a := ⟨bt, 0, none⟩) HBX.out HBN.out.1.symm (.int .i64 3)) HBN.out.1.symm (.int .i64 k)) HBG.out.1.symm (.int .i64 3)) HBG.out.1.symm (.string tx)) HBG.out.1.symm (.int .i64 0)) HBG.out.1.symm (.int .i64 0)) HBG.out.1.symm (.int .i64 k)))⟩⟩
end Go.Proofs.YthobobmbileekaaGreatDoor
