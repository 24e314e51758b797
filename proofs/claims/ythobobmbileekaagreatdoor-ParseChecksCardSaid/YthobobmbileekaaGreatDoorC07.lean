/-
 ParseChecks: part 7 of what the claim rests on.
-/
import Derived.Test.YthobobmbileekaaGreatDoorC01
import Derived.Test.YthobobmbileekaaGreatDoorC06
import Derived.Shelf.Strings.SlTrimAscii
set_option linter.unusedVariables false
set_option linter.unusedSimpArgs false
set_option maxHeartbeats 64000000
set_option maxRecDepth 100000
namespace Go.Proofs.YthobobmbileekaaGreatDoor
open Go.ChangeShapes Go.WideShapes Go.ChangeAt Go.RowKit

theorem Fr.cell {S : List Nat} {w w' : World} (h : Fr S w w') {p : Addr} (hp : p.block < w.heap.size) (hn : p.block ∉ S) : w'.cell? p = w.cell? p := by
 unfold World.cell?
 rw [h.block _ hp hn]
def MaxC (w : World) (m : Int) : Prop := w.cell? ⟨3, 0, none⟩ = some (.int .i64 m) ∧ 3 < w.heap.size
theorem MaxC.fr {w w' : World} {m : Int} {g : Nat} (h : MaxC w m) (hf : Fr [g] w w') (hg : g ≠ 3) : MaxC w' m :=
 ⟨(hf.cell (p := ⟨3, 0, none⟩) h.2 (by simp; omega)).trans h.1, Nat.lt_of_lt_of_le h.2 hf.size⟩
theorem Fr.next {g : Nat} {w w1 w2 : World} (h : Fr [g] w w1) (k : Fr [g] w1 w2) : Fr [g] w w2 := h.trans k fun b hb => .inl hb
theorem Fr.belowN {g : Nat} {w w1 w2 : World} (h : Fr [g] w w1) (k : Below w1.heap.size w1 w2) : Fr [g] w w2 := h.next (.of_below k _)
theorem Fr.setN {g i : Nat} {w w1 : World} (h : Fr [g] w w1) (v : Value) : Fr [g] w (w1.setCell ⟨g, i, none⟩ v) := h.set v (.inl (by simp))
def scI (w : World) (g : Nat) : Nat := match w.cell? ⟨g, 1, none⟩ with
 | some (.int _ v) => v.toNat
 | _ => 0
theorem scI_of {w : World} {g i mb : Nat} {s : ByteArray} (h : ScB w g s i mb) : scI w g = i := by unfold scI; rw [h.c1]; simp
theorem trim_blank (l : List UInt8) : Lib.trimLeftS l [32, 9, 10, 13] = l.drop (l.takeWhile blB).length := by
 unfold Lib.trimLeftS
 rw [show (fun c : UInt8 => [32, 9, 10, 13].contains c) = blB from funext fun c => by unfold blB; rw [Bool.eq_iff_iff]; simp [or_assoc]]
 exact drop_while _ _
theorem prefix_two (l : List UInt8) : Lib.hasPrefix l [45, 45] = true ↔ ∃ r, l = 45 :: 45 :: r := by
 unfold Lib.hasPrefix
 match l with
 | [] => simp
 | [a] => simp
 | a :: b :: r => simp [List.isPrefixOf]; constructor <;> rintro ⟨h1, h2⟩ <;> exact ⟨h1.symm, h2.symm⟩
theorem blank_stop {l : List UInt8} (h1 : (l.takeWhile blB).length = 0) (h2 : Lib.hasPrefix l [45, 45] = false) : blankL false l = 0 := by
 match l with
 | [] => rfl
 | c :: r =>
  have hb : blB c = false := by
   cases h : blB c with
   | false => rfl
   | true => rw [List.takeWhile_cons_of_pos h] at h1; simp at h1
  refine blank_no hb (fun ⟨e1, e2⟩ => ?_)
  match r with
  | [] => simp at e2
  | d :: r2 =>
   simp at e2
   have := (prefix_two (c :: d :: r2)).2 ⟨r2, by rw [e1, e2]⟩; rw [this] at h2
   cases h2
theorem blank_dash {l : List UInt8} (h : Lib.hasPrefix l [45, 45] = true) : blankL false l = (l.takeWhile (· != 10)).length + blankL false (l.drop (l.takeWhile (· != 10)).length) ∧ 2 ≤ (l.takeWhile (· != 10)).length := by
 obtain ⟨r, rfl⟩ := (prefix_two l).1 h
 have h1 := note_trim r
 rw [drop_while] at h1
 have e : (List.takeWhile (fun x => x != 10) (45 :: 45 :: r)).length = (r.takeWhile (· != 10)).length + 2 := by
  rw [List.takeWhile_cons_of_pos (by decide), List.takeWhile_cons_of_pos (by decide)]
  rfl
 rw [e, blank_note, h1]
 refine ⟨?_, by omega⟩
 rw [List.drop_succ_cons, List.drop_succ_cons]
 omega
theorem xblanks_any {g i mb : Nat} {s : ByteArray} {m : Int} (hs : s.size ≤ 1000000) (w : World) (h : ScB w g s i mb) (hi : i ≤ s.size) (hm : MaxC w m) (hg : g ≠ 3) :
  Calls Tryz.prog 39 #[.pointer (some ⟨g, 0, none⟩)] w fun e w' => e = .returned (.tuple #[]) ∧ ScB w' g s (i + blankL false (s.data.toList.drop i)) mb ∧ Fr [g] w w' := by
 obtain ⟨T, hT⟩ : ∃ T, T = i + blankL false (s.data.toList.drop i) := ⟨_, rfl⟩
 rw [← hT]
 have HT := zh hT
 have H := zh h
 have HM := zh hm
 clear hT h hm
 go_enter Tryz.func39, Tryz.ntmps39
 go_wp2_with fail
 go_loopw [] (fun wr => ∃ j : Nat, j ≤ s.size ∧ Hid (ScB wr g s j mb) ∧ Hid (j + blankL false (s.data.toList.drop j) = T) ∧ Hid (Fr [g] w wr)) (fun wr => s.size - scI wr g)
 case atStart => exact ⟨i, hi, H, zh HT.out.symm, zh (Fr.refl _ _)⟩
 case round =>
  obtain ⟨j, hj, HB, HJ, HF⟩ := hrel; have c1 := HB.out.c1; have cf := HB.out.fr; have cl := HB.out.lt; obtain ⟨r, hr⟩ : ∃ r, r = tailB s j := ⟨_, rfl⟩; have HR := zh hr; have hrs : r.size = s.size - j := by rw [hr]; exact tailB_size _ _
  obtain ⟨k1, hk1⟩ : ∃ k, k = ((s.data.toList.drop j).takeWhile blB).length := ⟨_, rfl⟩; have HK1 := zh hk1; have hk1l : j + k1 ≤ s.size := by
   have h1 := while_le blB (s.data.toList.drop j); have h2 : s.data.toList.length = s.size := by simp
   rw [← hk1, List.length_drop] at h1
   omega
  obtain ⟨r2, hr2⟩ : ∃ r2 : ByteArray, r2 = ⟨(Lib.trimLeftS r.data.toList [32, 9, 10, 13]).toArray⟩ := ⟨_, rfl⟩; have hr2s : r2.size = s.size - j - k1 := by
   rw [hr2]
   show (Lib.trimLeftS r.data.toList [32, 9, 10, 13]).toArray.size = _
   rw [trim_blank, hr, tailB_list, ← hk1]; simp
   omega
  have HRC := zh (show ∀ w', ScB w' g s j mb → Calls Tryz.prog 65 #[.pointer (some ⟨g, 0, none⟩)] w' (fun e w'' => e = .returned (.string r) ∧ ∃ q, w'' = w'.drewN q) from fun w' h' => by rw [hr]; exact xrest_any w' h' hj); have HTR := zh (show ∀ w', Calls Tryz.prog 67 #[.string r, .string ⟨#[32, 9, 10, 13]⟩] w' (RetB (.string r2) w') from fun w' => by rw [hr2]; exact Any.strings_TrimLeft_laid Tryz.lays161 (by kernel_rfl) r ⟨#[32, 9, 10, 13]⟩ w' (by decide) (ascii_of_all (by decide))); have hsub : (r.size : Int) - (r2.size : Int) = (k1 : Int) := by omega
  have hsubw : IntKind.i64.wrap (k1 : Int) = (k1 : Int) := IntWalk.i64_in _ (by omega); obtain ⟨j2, hj2⟩ : ∃ j2, j2 = j + k1 := ⟨_, rfl⟩; have hadd : (j : Int) + (k1 : Int) = (j2 : Int) := by omega
  have haddw : IntKind.i64.wrap (j2 : Int) = (j2 : Int) := IntWalk.i64_in _ (by omega); have HJ2 := zh hj2; have HRS := zh (show r.size = s.size - j ∧ r2.size = s.size - j - k1 from ⟨hrs, hr2s⟩); have hj2s : j2 ≤ s.size := by omega
  clear hr hrs hr2 hr2s hk1 hj2 hk1l
  go_upto_region 1 with fail
  go_cut [] from 10 to 25 (fun wx => Hid (ScB wx g s j2 mb) ∧ Hid (Fr [g] wr wx))
  case first =>
   refine wp_region_held_drew (S := fun _ => True) (by kernel_rfl) (trivial) (fun hHeld => ?_); refine ztk 0 10 (.pointer (some ⟨g, 0, none⟩)) hHeld ?_; simp only [zq]; refine ztk 1 11 (.pointer (some ⟨g, 0, none⟩)) hHeld ?_; simp only [zq]; refine ztk 2 12 (.pointer (some ⟨g, 1, none⟩)) hHeld ?_; simp only [zq]; refine ztk 4 14 (.pointer (some ⟨g, 0, none⟩)) hHeld ?_; simp only [zq]; refine ztk 7 17 (.pointer (some ⟨g, 0, none⟩)) hHeld ?_; simp only [zq]; refine wpAnyH_ready (rs := [3, 5]) (by kernel_rfl) (by simp) ?_; refine AllReadyH.cons (o := _) rfl (fun K hK => ?_) (AllReadyH.cons (o := _) rfl (fun K hK => ?_) (AllReadyH.nil))
   ·go_simp
    refine hK.out _ _ (trivial) (fun hHeld => ?_); clear hK K
    try simp only [zq]
    refine zrd 5 fun K hK => ?_
    go_simp
    refine (HRC.out _ (by exact HB.out)).mono ?_; rintro e w1 ⟨rfl, q1, rfl⟩; refine hK.out _ _ (trivial) (fun hHeld => ?_); clear hK K
    try simp only [zq]
    refine ztk 6 16 (.int .i64 (r.size : Int)) hHeld ?_; simp only [zq]; refine zrd 8 fun K hK => ?_
    go_simp
    refine (HRC.out _ (by exact HB.out)).mono ?_; rintro e w2 ⟨rfl, q2, rfl⟩; refine hK.out _ _ (trivial) (fun hHeld => ?_); clear hK K
    try simp only [zq]
    refine zrd 9 fun K hK => ?_
    go_simp
    refine (HTR.out _).mono ?_; rintro e w3 ⟨rfl, hb3⟩; have HB3 := zh (ScB.below (by exact HB.out) hb3); have HF3 := zh (show Fr [g] wr w3 from ((Fr.refl [g] wr).drewN _).next (.of_below hb3 [g])); have d1 := HB3.out.c1; have df := HB3.out.fr; have dl := HB3.out.lt; clear hb3; refine hK.out _ _ (trivial) (fun hHeld => ?_); clear hK K
    try simp only [zq]
    refine ztk 10 20 (.int .i64 (r2.size : Int)) hHeld ?_; simp only [zq]; refine ztk 11 21 (.int .i64 (k1 : Int)) hHeld ?_; simp only [zq]; refine ztk 12 22 (.int .i64 (j2 : Int)) hHeld ?_; simp only [zq]; refine ztk 13 23 (.pointer (some ⟨g, 0, none⟩)) hHeld ?_; simp only [zq]; refine ztk 14 24 (.pointer (some ⟨g, 1, none⟩)) hHeld ?_; simp only [zq]; refine zrd 15 fun K hK => ?_
    go_simp
    refine hK.out _ _ (trivial) (fun hHeld => ?_); clear hK K
    try simp only [zq]
    refine wpAnyH_done (by kernel_rfl) ?_ _; go_wp2_with fail
    go_meet
    case rel => exact ⟨zh (HB3.out.set j2), zh (HF3.out.setN _)⟩
   ·go_simp
    refine (HRC.out _ (by exact HB.out)).mono ?_; rintro e w1 ⟨rfl, q1, rfl⟩; refine hK.out _ _ (trivial) (fun hHeld => ?_); clear hK K
    try simp only [zq]
    refine ztk 6 16 (.int .i64 (r.size : Int)) hHeld ?_; simp only [zq]; refine wpAnyH_ready (rs := [3, 8]) (by kernel_rfl) (by simp) ?_; refine AllReadyH.cons (o := _) rfl (fun K hK => ?_) (AllReadyH.cons (o := _) rfl (fun K hK => ?_) (AllReadyH.nil))
    ·go_simp
     refine hK.out _ _ (trivial) (fun hHeld => ?_); clear hK K
     try simp only [zq]
     refine zrd 8 fun K hK => ?_
     go_simp
     refine (HRC.out _ (by exact HB.out)).mono ?_; rintro e w2 ⟨rfl, q2, rfl⟩; refine hK.out _ _ (trivial) (fun hHeld => ?_); clear hK K
     try simp only [zq]
     refine zrd 9 fun K hK => ?_
     go_simp
     refine (HTR.out _).mono ?_; rintro e w3 ⟨rfl, hb3⟩; have HB3 := zh (ScB.below (by exact HB.out) hb3); have HF3 := zh (show Fr [g] wr w3 from ((Fr.refl [g] wr).drewN _).next (.of_below hb3 [g])); have d1 := HB3.out.c1; have df := HB3.out.fr; have dl := HB3.out.lt; clear hb3; refine hK.out _ _ (trivial) (fun hHeld => ?_); clear hK K
     try simp only [zq]
     refine ztk 10 20 (.int .i64 (r2.size : Int)) hHeld ?_; simp only [zq]; refine ztk 11 21 (.int .i64 (k1 : Int)) hHeld ?_; simp only [zq]; refine ztk 12 22 (.int .i64 (j2 : Int)) hHeld ?_; simp only [zq]; refine ztk 13 23 (.pointer (some ⟨g, 0, none⟩)) hHeld ?_; simp only [zq]; refine ztk 14 24 (.pointer (some ⟨g, 1, none⟩)) hHeld ?_; simp only [zq]; refine zrd 15 fun K hK => ?_
     go_simp
     refine hK.out _ _ (trivial) (fun hHeld => ?_); clear hK K
     try simp only [zq]
     refine wpAnyH_done (by kernel_rfl) ?_ _; go_wp2_with fail
     go_meet
     case rel => exact ⟨zh (HB3.out.set j2), zh (HF3.out.setN _)⟩
    ·go_simp
     refine (HRC.out _ (by exact HB.out)).mono ?_; rintro e w2 ⟨rfl, q2, rfl⟩; refine hK.out _ _ (trivial) (fun hHeld => ?_); clear hK K
     try simp only [zq]
     refine wpAnyH_ready (rs := [3, 9]) (by kernel_rfl) (by simp) ?_; refine AllReadyH.cons (o := _) rfl (fun K hK => ?_) (AllReadyH.cons (o := _) rfl (fun K hK => ?_) (AllReadyH.nil))
     ·go_simp
      refine hK.out _ _ (trivial) (fun hHeld => ?_); clear hK K
      try simp only [zq]
      refine zrd 9 fun K hK => ?_
      go_simp
      refine (HTR.out _).mono ?_; rintro e w3 ⟨rfl, hb3⟩; have HB3 := zh (ScB.below (by exact HB.out) hb3); have HF3 := zh (show Fr [g] wr w3 from ((Fr.refl [g] wr).drewN _).next (.of_below hb3 [g])); have d1 := HB3.out.c1; have df := HB3.out.fr; have dl := HB3.out.lt; clear hb3; refine hK.out _ _ (trivial) (fun hHeld => ?_); clear hK K
      try simp only [zq]
      refine ztk 10 20 (.int .i64 (r2.size : Int)) hHeld ?_; simp only [zq]; refine ztk 11 21 (.int .i64 (k1 : Int)) hHeld ?_; simp only [zq]; refine ztk 12 22 (.int .i64 (j2 : Int)) hHeld ?_; simp only [zq]; refine ztk 13 23 (.pointer (some ⟨g, 0, none⟩)) hHeld ?_; simp only [zq]; refine ztk 14 24 (.pointer (some ⟨g, 1, none⟩)) hHeld ?_; simp only [zq]; refine zrd 15 fun K hK => ?_
      go_simp
      refine hK.out _ _ (trivial) (fun hHeld => ?_); clear hK K
      try simp only [zq]
      refine wpAnyH_done (by kernel_rfl) ?_ _; go_wp2_with fail
      go_meet
      case rel => exact ⟨zh (HB3.out.set j2), zh (HF3.out.setN _)⟩
     ·go_simp
      refine (HTR.out _).mono ?_; rintro e w3 ⟨rfl, hb3⟩; have HB3 := zh (ScB.below (by exact HB.out) hb3); have HF3 := zh (show Fr [g] wr w3 from ((Fr.refl [g] wr).drewN _).next (.of_below hb3 [g])); have d1 := HB3.out.c1; have df := HB3.out.fr; have dl := HB3.out.lt; clear hb3; refine hK.out _ _ (trivial) (fun hHeld => ?_); clear hK K
      try simp only [zq]
      refine ztk 10 20 (.int .i64 (r2.size : Int)) hHeld ?_; simp only [zq]; refine ztk 11 21 (.int .i64 (k1 : Int)) hHeld ?_; simp only [zq]; refine zrd 3 fun K hK => ?_
      go_simp
      refine hK.out _ _ (trivial) (fun hHeld => ?_); clear hK K
      try simp only [zq]
      refine ztk 12 22 (.int .i64 (j2 : Int)) hHeld ?_; simp only [zq]; refine ztk 13 23 (.pointer (some ⟨g, 0, none⟩)) hHeld ?_; simp only [zq]; refine ztk 14 24 (.pointer (some ⟨g, 1, none⟩)) hHeld ?_; simp only [zq]; refine zrd 15 fun K hK => ?_
      go_simp
      refine hK.out _ _ (trivial) (fun hHeld => ?_); clear hK K
      try simp only [zq]
      refine wpAnyH_done (by kernel_rfl) ?_ _; go_wp2_with fail
      go_meet
      case rel => exact ⟨zh (HB3.out.set j2), zh (HF3.out.setN _)⟩
  case rest =>
   obtain ⟨HB2, HF2⟩ := hcut; have HFW := zh (HF.out.next HF2.out); have c1c := HB2.out.c1; have cfc := HB2.out.fr; have clc := HB2.out.lt; have HMC := zh (HM.out.fr HFW.out hg); obtain ⟨r3, hr3⟩ : ∃ r, r = tailB s j2 := ⟨_, rfl⟩; have HR3 := zh hr3; have hr3s : r3.size ≤ 1000000 := by rw [hr3, tailB_size]; omega
   have HRC2 := zh (show ∀ w', ScB w' g s j2 mb → Calls Tryz.prog 65 #[.pointer (some ⟨g, 0, none⟩)] w' (fun e w'' => e = .returned (.string r3) ∧ ∃ q, w'' = w'.drewN q) from fun w' h' => by rw [hr3]; exact xrest_any w' h' hj2s); obtain ⟨hp, hhp⟩ : ∃ hp, hp = Lib.hasPrefix r3.data.toList [45, 45] := ⟨_, rfl⟩; have HHP := zh hhp; have HPC := zh (show ∀ w', Calls Tryz.prog 68 #[.string r3, .string ⟨#[45, 45]⟩] w' (fun e w'' => e = .returned (.bool hp) ∧ w'' = w') from fun w' => by rw [hhp]; exact Tryz.strings_HasPrefix r3 ⟨#[45, 45]⟩ w'); clear hr3 hhp c1 cf cl
   cases hp with
   | true =>
    obtain ⟨ln, hln⟩ : ∃ ln : ByteArray, ln = ⟨(Lib.cut r3.data.toList [10]).1.toArray⟩ := ⟨_, rfl⟩; have hbd := blank_dash HHP.out.symm; have hl1 := while_le (fun x => x != 10) r3.data.toList; have hlns : ln.size = (r3.data.toList.takeWhile (fun x => x != 10)).length := by rw [hln, ← cut_nl]; show (Lib.cut r3.data.toList [10]).1.toArray.size = _; simp
    have hr3l : r3.data.toList.length = s.size - j2 := by rw [HR3.out, tailB_list]; simp
    have HCUT := zh (show ∀ w', MaxC w' m → Calls Tryz.prog 69 #[.string r3, .string ⟨#[10]⟩] w' (fun e w'' => ∃ a b, e = .returned (.tuple #[.string ln, .string a, .bool b]) ∧ ∃ q, w'' = w'.drewN q) from fun w' h' => by
     rw [hln]; refine (Tryz.strings_Cut r3 ⟨#[10]⟩ m w' (by omega) h'.1).mono ?_; rintro e w'' ⟨rfl, q, rfl⟩; exact ⟨_, _, rfl, q, rfl⟩)
    obtain ⟨j3, hj3⟩ : ∃ j3, j3 = j2 + ln.size := ⟨_, rfl⟩; have hadd3 : (j2 : Int) + (ln.size : Int) = (j3 : Int) := by omega
    have hj3s : j3 ≤ s.size := by omega
    have haddw3 : IntKind.i64.wrap (j3 : Int) = (j3 : Int) := IntWalk.i64_in _ (by omega); have hjj := HJ2.out; have hne : ((j3 : Int) == (j : Int)) = false := beq_eq_false_iff_ne.2 (by omega); have hj3j : j < j3 := by omega
    have HJ3 := zh (show j3 + blankL false (s.data.toList.drop j3) = T by
     have h1 := HJ.out; have h2 := blank_trim (s.data.toList.drop j); rw [drop_while, ← HK1.out, List.drop_drop, ← HJ2.out] at h2; have h3 := hbd.1; rw [← hlns, HR3.out, tailB_list, List.drop_drop, ← hj3] at h3
     omega)
    clear hbd hl1 hlns hr3l hln hj3 hjj; go_wp2_with fail
    refine (HRC2.out _ (by exact HB2.out)).mono ?_; rintro e w4 ⟨rfl, q4, rfl⟩; go_wp2_with fail
    refine (HPC.out _).mono ?_; rintro e w5 ⟨rfl, rfl⟩; go_wp2_with fail
    refine (HRC2.out _ (by exact HB2.out)).mono ?_; rintro e w6 ⟨rfl, q6, rfl⟩; go_wp2_with fail
    refine (HCUT.out _ (by exact HMC.out)).mono ?_; rintro e w7 ⟨a7, b7, rfl, q7, rfl⟩; go_wp2_with fail
    go_roundw
    case rel => exact ⟨j3, hj3s, zh (ScB.set (by exact HB2.out) j3), HJ3, zh (((HFW.out.drewN _).setN _))⟩
    case measure =>
     rw [scI_of (HB.out), scI_of (ScB.set (i := j2) (s := s) (mb := mb) (by exact HB2.out) j3)]
     omega
   | false =>
    have hjj := HJ2.out; have HJ4 := zh (show j2 + blankL false (s.data.toList.drop j2) = T by
     have h1 := HJ.out; have h2 := blank_trim (s.data.toList.drop j); rw [drop_while, ← HK1.out, List.drop_drop, ← HJ2.out] at h2
     omega)
    by_cases hk0 : k1 = 0
    ·have e : j2 = j := by omega
     have HTT := zh (show T = j2 by
      have h1 := HJ4.out; have h3 := blank_stop (l := s.data.toList.drop j2) (by rw [e, ← HK1.out]; exact hk0) (by have h := HHP.out.symm; rw [HR3.out, tailB_list] at h; exact h)
      omega)
     subst e; clear hjj; go_wp2_with fail
     refine (HRC2.out _ (by exact HB2.out)).mono ?_; rintro e w4 ⟨rfl, q4, rfl⟩; go_wp2_with fail
     refine (HPC.out _).mono ?_; rintro e w5 ⟨rfl, rfl⟩; go_wp2
     refine bodyPost_ret (v := .tuple #[]) (by simp [results, Tryz.results39, go_sem]) rfl ?_; exact ⟨rfl, by rw [HTT.out]; exact HB2.out, HFW.out.drewN _⟩
    ·have hne : ((j2 : Int) == (j : Int)) = false := beq_eq_false_iff_ne.2 (by omega)
     have hj2j : j < j2 := by omega
     clear hjj hk0; go_wp2_with fail
     refine (HRC2.out _ (by exact HB2.out)).mono ?_; rintro e w4 ⟨rfl, q4, rfl⟩; go_wp2_with fail
     refine (HPC.out _).mono ?_; rintro e w5 ⟨rfl, rfl⟩; go_wp2_with fail
     go_roundw
     case rel => exact ⟨j2, hj2s, zh (by exact HB2.out), HJ4, zh (HFW.out.drewN _)⟩
     case measure =>
      rw [scI_of (HB.out), scI_of (i := j2) (s := s) (mb := mb) (by exact HB2.out)]
      omega
end Go.Proofs.YthobobmbileekaaGreatDoor
