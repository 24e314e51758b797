/-
 ParseChecks: part 10 of what the claim rests on.
-/
import Derived.Test.YthobobmbileekaaGreatDoorC01
import Derived.Test.YthobobmbileekaaGreatDoorC09
set_option linter.unusedVariables false
set_option linter.unusedSimpArgs false
set_option maxHeartbeats 64000000
set_option maxRecDepth 100000
namespace Go.Proofs.YthobobmbileekaaGreatDoor
open Go.ChangeShapes Go.WideShapes Go.ChangeAt Go.RowKit

theorem xtext_any {g i mb : Nat} {s : ByteArray} (hs : s.size ≤ 1000000) (w : World) (h : ScB w g s i mb) (hi : i < s.size) (hq : s[i] = 34) :
  Calls Tryz.prog 37 #[.pointer (some ⟨g, 0, none⟩)] w (ReadOut g s i mb w) := by
 obtain ⟨iU, hiU, hU0, hU1, hU2⟩ := info_parts infoU8
 have hcons := drop_at hi
 rw [hq] at hcons
 have htok := tok_text hcons
 obtain ⟨i1, hi1⟩ : ∃ i1, i1 = i + 1 := ⟨_, rfl⟩
 rw [← hi1] at htok
 have HTF := zh (show textL (s.data.toList.drop i1) = none → tokenL (s.data.toList.drop i) = .inl 52 from fun h => by rw [htok, h])
 have HTS := zh (show ∀ x n, textL (s.data.toList.drop i1) = some (x, n) → tokenL (s.data.toList.drop i) = .inr (4, ⟨x.toArray⟩, 0, n + 1) from fun x n h => by rw [htok, h])
 have hadd1 : (i : Int) + 1 = (i1 : Int) := by omega
 have haddw1 : IntKind.i64.wrap (i1 : Int) = (i1 : Int) := IntWalk.i64_in _ (by omega)
 have hi1s : i1 ≤ s.size := by omega
 have HI1 := zh hi1
 have H := zh h
 clear hcons htok hi1 h hq
 obtain ⟨b2, hb2⟩ : ∃ b, b = w.heap.size := ⟨_, rfl⟩
 go_enter Tryz.func37, Tryz.ntmps37
 go_upto_region 1 with fail
 rw [← hb2]
 refine gen_wpT fun W hW => ?_
 have HR := zh (show W.heap[b2]? = some (.cells #[.int .i64 0, .string ByteArray.empty, .int .i64 0, .int .i64 0, .int .i64 0] 65 (0, 0)) by rw [← hW, hb2]; exact heap_new_at _ _ _ rfl)
 have HB := zh (show ScB W g s i mb by rw [← hW]; exact blk_alloc H.out _)
 have HF := zh (show Fr [g] w W by rw [← hW]; exact (Fr.refl _ _).alloc _)
 have HBG := zh (show b2 ≠ g ∧ w.heap.size ≤ b2 ∧ g < b2 by have := H.out.lt; exact ⟨by omega, by omega, by omega⟩)
 have c1 := HB.out.c1
 have cf := HB.out.fr
 have cl := HB.out.lt
 clear hW hb2
 go_wp2_with fail
 go_loopw [4] (fun bv wr => ∃ (p : Nat) (A : Option Addr) (c : Nat) (xs : List UInt8), bv = .slice A xs.length c ∧ i1 ≤ p ∧ p ≤ s.size ∧ xs.length ≤ p ∧ Hid (textL (s.data.toList.drop i1) = (textL (s.data.toList.drop p)).map fun q => (xs ++ q.1, (p - i1) + q.2)) ∧ Hid (ScB wr g s p mb) ∧ Hid (wr.ownsRow (b2 + 1) 5 1 (.slice A xs.length c) xs.length (bC xs)) ∧ Hid (wr.heap[b2]? = some (.cells #[.int .i64 0, .string ByteArray.empty, .int .i64 0, .int .i64 0, .int .i64 0] 65 (0, 0))) ∧ Hid (Fr [g] w wr)) (fun _ wr => s.size - scI wr g)
 case atStart => exact ⟨i1, none, 0, [], rfl, znr, hi1s, Nat.zero_le _, zh (by rw [Nat.sub_self]; simp), zh (HB.out.set i1), zh (World.ownsRow_nil _ _ _ _), zh (blk_far (a := ⟨g, 1, none⟩) HR.out HBG.out.1 _), zh (HF.out.setN _)⟩
 case round =>
  clear c1 cf cl; obtain ⟨p, A, c, xs, rfl, hip, hpl, hxp, HJ, HBj, HOj, HRj, HFj⟩ := hrel; have hp0 : (0 : Int) ≤ p := by omega
  by_cases hps : p < s.size
  case neg =>
   have hps' : ¬ (p : Int) < (s.size : Int) := by omega
   have HN := zh (show textL (s.data.toList.drop p) = none by rw [List.drop_eq_nil_of_le (by simp; omega)]; exact textL_none rfl); go_wp2_with fail
   refine wp_region_held_drew (S := fun w' => ScB w' g s p mb) (by kernel_rfl) (HBj.out) (fun hHeld => ?_); refine ztk 0 24 (.pointer (some ⟨g, 0, none⟩)) hHeld ?_; simp only [zq]; refine ztk 1 25 (.pointer (some ⟨g, 0, none⟩)) hHeld ?_; simp only [zq]; refine ztk 2 26 (.pointer (some ⟨g, 0, none⟩)) hHeld ?_; simp only [zq]; refine ztk 3 27 (.pointer (some ⟨g, 1, none⟩)) hHeld ?_; simp only [zq]; refine ztk 4 28 (.int .i64 (p : Int)) hHeld ?_ (hy := Or.inl ⟨by rfl, fun w' hS => (by have q := ScB.c1 hS; go_simp)⟩); simp only [zq]; refine ztk 5 29 (.pointer (some ⟨g, 0, none⟩)) hHeld ?_; simp only [zq]; refine ztk 6 30 (.pointer (some ⟨g, 0, none⟩)) hHeld ?_; simp only [zq]; refine ztk 7 31 (.pointer (some ⟨g, 0, none⟩)) hHeld ?_; simp only [zq]; refine ztk 8 32 (.string s) hHeld ?_ (hy := Or.inl ⟨by rfl, fun w' hS => (by have q := ScB.c0 hS; go_simp)⟩); simp only [zq]; refine ztk 9 33 (.int .i64 (s.size : Int)) hHeld ?_; simp only [zq]; refine ztk 10 34 (.bool false) hHeld ?_; simp only [zq]; refine ztk 11 35 (.bool false) hHeld ?_; simp only [zq]; refine ztu 12 36 hHeld ?_; simp only [zq]; refine ztu 13 37 hHeld ?_; simp only [zq]; refine ztu 14 38 hHeld ?_; simp only [zq]; refine ztu 15 39 hHeld ?_; simp only [zq]; refine ztu 16 40 hHeld ?_; simp only [zq]; refine ztu 17 41 hHeld ?_; simp only [zq]; refine ztu 18 42 hHeld ?_; simp only [zq]; refine ztu 19 43 hHeld ?_; simp only [zq]; refine ztu 20 44 hHeld ?_; simp only [zq]; refine ztu 21 45 hHeld ?_; simp only [zq]; refine ztk 22 46 (.bool false) hHeld ?_; simp only [zq]; refine ztk 23 47 (.bool false) hHeld ?_; simp only [zq]; refine ztu 24 48 hHeld ?_; simp only [zq]; refine ztu 25 49 hHeld ?_; simp only [zq]; refine ztu 26 50 hHeld ?_; simp only [zq]; refine ztu 27 51 hHeld ?_; simp only [zq]; refine ztu 28 52 hHeld ?_; simp only [zq]; refine ztu 29 53 hHeld ?_; simp only [zq]; refine ztu 30 54 hHeld ?_; simp only [zq]; refine ztu 31 55 hHeld ?_; simp only [zq]; refine ztu 32 56 hHeld ?_; simp only [zq]; refine ztu 33 57 hHeld ?_; simp only [zq]; refine ztk 34 58 (.bool false) hHeld ?_; simp only [zq]; refine ztk 35 59 (.int .i64 (i : Int)) hHeld ?_; simp only [zq]; refine zrd 36 fun K hK => ?_
   go_simp
   refine (xmust_no _ _ _ _).mono ?_; rintro e w7 ⟨rfl, rfl⟩; go_wp2
   exact ⟨rfl, HFj.out.drewN 1, .inl ⟨52, HTF.out (by rw [HJ.out, HN.out]; rfl), rfl⟩⟩
  have hps' : (p : Int) < (s.size : Int) := by omega
  obtain ⟨c0, hc0⟩ : ∃ c0, c0 = s[p] := ⟨_, rfl⟩; have hcx : s[p] = c0 := hc0.symm; have hdrop := drop_at hps; rw [hcx] at hdrop; have HD := zh hdrop; clear hc0 hdrop; by_cases hbad : c0.toNat < 32 ∨ 126 < c0.toNat
  case pos =>
   have HN := zh (show textL (s.data.toList.drop p) = none by rw [HD.out]; exact textL_none (step_bad hbad))
   rcases hbad with hb | hb
   ·have hbi : ¬ (32 : Int) ≤ (c0.toNat : Int) := by omega
    clear hb; go_wp2_with fail
    refine wp_region_held_drew (S := fun w' => ScB w' g s p mb) (by kernel_rfl) (HBj.out) (fun hHeld => ?_); refine ztk 0 24 (.pointer (some ⟨g, 0, none⟩)) hHeld ?_; simp only [zq]; refine ztk 1 25 (.pointer (some ⟨g, 0, none⟩)) hHeld ?_; simp only [zq]; refine ztk 2 26 (.pointer (some ⟨g, 0, none⟩)) hHeld ?_; simp only [zq]; refine ztk 3 27 (.pointer (some ⟨g, 1, none⟩)) hHeld ?_; simp only [zq]; refine ztk 4 28 (.int .i64 (p : Int)) hHeld ?_ (hy := Or.inl ⟨by rfl, fun w' hS => (by have q := ScB.c1 hS; go_simp)⟩); simp only [zq]; refine ztk 5 29 (.pointer (some ⟨g, 0, none⟩)) hHeld ?_; simp only [zq]; refine ztk 6 30 (.pointer (some ⟨g, 0, none⟩)) hHeld ?_; simp only [zq]; refine ztk 7 31 (.pointer (some ⟨g, 0, none⟩)) hHeld ?_; simp only [zq]; refine ztk 8 32 (.string s) hHeld ?_ (hy := Or.inl ⟨by rfl, fun w' hS => (by have q := ScB.c0 hS; go_simp)⟩); simp only [zq]; refine ztk 9 33 (.int .i64 (s.size : Int)) hHeld ?_; simp only [zq]; refine ztk 10 34 (.bool true) hHeld ?_; simp only [zq]; refine ztk 11 35 (.bool true) hHeld ?_; simp only [zq]; refine ztk 12 36 (.pointer (some ⟨g, 0, none⟩)) hHeld ?_; simp only [zq]; refine ztk 13 37 (.pointer (some ⟨g, 0, none⟩)) hHeld ?_; simp only [zq]; refine ztk 14 38 (.pointer (some ⟨g, 0, none⟩)) hHeld ?_; simp only [zq]; refine ztk 15 39 (.string s) hHeld ?_ (hy := Or.inl ⟨by rfl, fun w' hS => (by have q := ScB.c0 hS; go_simp)⟩); simp only [zq]; refine ztk 16 40 (.pointer (some ⟨g, 0, none⟩)) hHeld ?_; simp only [zq]; refine ztk 17 41 (.pointer (some ⟨g, 0, none⟩)) hHeld ?_; simp only [zq]; refine ztk 18 42 (.pointer (some ⟨g, 1, none⟩)) hHeld ?_; simp only [zq]; refine ztk 19 43 (.int .i64 (p : Int)) hHeld ?_ (hy := Or.inl ⟨by rfl, fun w' hS => (by have q := ScB.c1 hS; go_simp)⟩); simp only [zq]; refine ztk 20 44 (.int .u8 (c0.toNat : Int)) hHeld ?_; simp only [zq]; refine ztk 21 45 (.bool false) hHeld ?_; simp only [zq]; refine ztk 22 46 (.bool false) hHeld ?_; simp only [zq]; refine ztk 23 47 (.bool false) hHeld ?_; simp only [zq]; refine ztu 24 48 hHeld ?_; simp only [zq]; refine ztu 25 49 hHeld ?_; simp only [zq]; refine ztu 26 50 hHeld ?_; simp only [zq]; refine ztu 27 51 hHeld ?_; simp only [zq]; refine ztu 28 52 hHeld ?_; simp only [zq]; refine ztu 29 53 hHeld ?_; simp only [zq]; refine ztu 30 54 hHeld ?_; simp only [zq]; refine ztu 31 55 hHeld ?_; simp only [zq]; refine ztu 32 56 hHeld ?_; simp only [zq]; refine ztu 33 57 hHeld ?_; simp only [zq]; refine ztk 34 58 (.bool false) hHeld ?_; simp only [zq]; refine ztk 35 59 (.int .i64 (i : Int)) hHeld ?_; simp only [zq]; refine zrd 36 fun K hK => ?_
    go_simp
    refine (xmust_no _ _ _ _).mono ?_; rintro e w7 ⟨rfl, rfl⟩; go_wp2
    exact ⟨rfl, HFj.out.drewN 1, .inl ⟨52, HTF.out (by rw [HJ.out, HN.out]; rfl), rfl⟩⟩
   ·have hbi : (32 : Int) ≤ (c0.toNat : Int) := by omega
    have hbj : ¬ (c0.toNat : Int) ≤ 126 := by omega
    clear hb; go_wp2_with fail
    refine wp_region_held_drew (S := fun w' => ScB w' g s p mb) (by kernel_rfl) (HBj.out) (fun hHeld => ?_); refine ztk 0 24 (.pointer (some ⟨g, 0, none⟩)) hHeld ?_; simp only [zq]; refine ztk 1 25 (.pointer (some ⟨g, 0, none⟩)) hHeld ?_; simp only [zq]; refine ztk 2 26 (.pointer (some ⟨g, 0, none⟩)) hHeld ?_; simp only [zq]; refine ztk 3 27 (.pointer (some ⟨g, 1, none⟩)) hHeld ?_; simp only [zq]; refine ztk 4 28 (.int .i64 (p : Int)) hHeld ?_ (hy := Or.inl ⟨by rfl, fun w' hS => (by have q := ScB.c1 hS; go_simp)⟩); simp only [zq]; refine ztk 5 29 (.pointer (some ⟨g, 0, none⟩)) hHeld ?_; simp only [zq]; refine ztk 6 30 (.pointer (some ⟨g, 0, none⟩)) hHeld ?_; simp only [zq]; refine ztk 7 31 (.pointer (some ⟨g, 0, none⟩)) hHeld ?_; simp only [zq]; refine ztk 8 32 (.string s) hHeld ?_ (hy := Or.inl ⟨by rfl, fun w' hS => (by have q := ScB.c0 hS; go_simp)⟩); simp only [zq]; refine ztk 9 33 (.int .i64 (s.size : Int)) hHeld ?_; simp only [zq]; refine ztk 10 34 (.bool true) hHeld ?_; simp only [zq]; refine ztk 11 35 (.bool true) hHeld ?_; simp only [zq]; refine ztk 12 36 (.pointer (some ⟨g, 0, none⟩)) hHeld ?_; simp only [zq]; refine ztk 13 37 (.pointer (some ⟨g, 0, none⟩)) hHeld ?_; simp only [zq]; refine ztk 14 38 (.pointer (some ⟨g, 0, none⟩)) hHeld ?_; simp only [zq]; refine ztk 15 39 (.string s) hHeld ?_ (hy := Or.inl ⟨by rfl, fun w' hS => (by have q := ScB.c0 hS; go_simp)⟩); simp only [zq]; refine ztk 16 40 (.pointer (some ⟨g, 0, none⟩)) hHeld ?_; simp only [zq]; refine ztk 17 41 (.pointer (some ⟨g, 0, none⟩)) hHeld ?_; simp only [zq]; refine ztk 18 42 (.pointer (some ⟨g, 1, none⟩)) hHeld ?_; simp only [zq]; refine ztk 19 43 (.int .i64 (p : Int)) hHeld ?_ (hy := Or.inl ⟨by rfl, fun w' hS => (by have q := ScB.c1 hS; go_simp)⟩); simp only [zq]; refine ztk 20 44 (.int .u8 (c0.toNat : Int)) hHeld ?_; simp only [zq]; refine ztk 21 45 (.bool true) hHeld ?_; simp only [zq]; refine ztk 22 46 (.bool true) hHeld ?_; simp only [zq]; refine ztk 23 47 (.bool true) hHeld ?_; simp only [zq]; refine ztk 24 48 (.pointer (some ⟨g, 0, none⟩)) hHeld ?_; simp only [zq]; refine ztk 25 49 (.pointer (some ⟨g, 0, none⟩)) hHeld ?_; simp only [zq]; refine ztk 26 50 (.pointer (some ⟨g, 0, none⟩)) hHeld ?_; simp only [zq]; refine ztk 27 51 (.string s) hHeld ?_ (hy := Or.inl ⟨by rfl, fun w' hS => (by have q := ScB.c0 hS; go_simp)⟩); simp only [zq]; refine ztk 28 52 (.pointer (some ⟨g, 0, none⟩)) hHeld ?_; simp only [zq]; refine ztk 29 53 (.pointer (some ⟨g, 0, none⟩)) hHeld ?_; simp only [zq]; refine ztk 30 54 (.pointer (some ⟨g, 1, none⟩)) hHeld ?_; simp only [zq]; refine ztk 31 55 (.int .i64 (p : Int)) hHeld ?_ (hy := Or.inl ⟨by rfl, fun w' hS => (by have q := ScB.c1 hS; go_simp)⟩); simp only [zq]; refine ztk 32 56 (.int .u8 (c0.toNat : Int)) hHeld ?_; simp only [zq]; refine ztk 33 57 (.bool false) hHeld ?_; simp only [zq]; refine ztk 34 58 (.bool false) hHeld ?_; simp only [zq]; refine ztk 35 59 (.int .i64 (i : Int)) hHeld ?_; simp only [zq]; refine zrd 36 fun K hK => ?_
    go_simp
    refine (xmust_no _ _ _ _).mono ?_; rintro e w7 ⟨rfl, rfl⟩; go_wp2
    exact ⟨rfl, HFj.out.drewN 1, .inl ⟨52, HTF.out (by rw [HJ.out, HN.out]; rfl), rfl⟩⟩
  have hbi : (32 : Int) ≤ (c0.toNat : Int) := by omega
  have hbj : (c0.toNat : Int) ≤ 126 := by omega
  have HBAD := zh hbad; clear hbad; go_wp2_with fail
  refine wp_region_held_drew (S := fun w' => ScB w' g s p mb) (by kernel_rfl) (HBj.out) (fun hHeld => ?_); refine ztk 0 24 (.pointer (some ⟨g, 0, none⟩)) hHeld ?_; simp only [zq]; refine ztk 1 25 (.pointer (some ⟨g, 0, none⟩)) hHeld ?_; simp only [zq]; refine ztk 2 26 (.pointer (some ⟨g, 0, none⟩)) hHeld ?_; simp only [zq]; refine ztk 3 27 (.pointer (some ⟨g, 1, none⟩)) hHeld ?_; simp only [zq]; refine ztk 4 28 (.int .i64 (p : Int)) hHeld ?_ (hy := Or.inl ⟨by rfl, fun w' hS => (by have q := ScB.c1 hS; go_simp)⟩); simp only [zq]; refine ztk 5 29 (.pointer (some ⟨g, 0, none⟩)) hHeld ?_; simp only [zq]; refine ztk 6 30 (.pointer (some ⟨g, 0, none⟩)) hHeld ?_; simp only [zq]; refine ztk 7 31 (.pointer (some ⟨g, 0, none⟩)) hHeld ?_; simp only [zq]; refine ztk 8 32 (.string s) hHeld ?_ (hy := Or.inl ⟨by rfl, fun w' hS => (by have q := ScB.c0 hS; go_simp)⟩); simp only [zq]; refine ztk 9 33 (.int .i64 (s.size : Int)) hHeld ?_; simp only [zq]; refine ztk 10 34 (.bool true) hHeld ?_; simp only [zq]; refine ztk 11 35 (.bool true) hHeld ?_; simp only [zq]; refine ztk 12 36 (.pointer (some ⟨g, 0, none⟩)) hHeld ?_; simp only [zq]; refine ztk 13 37 (.pointer (some ⟨g, 0, none⟩)) hHeld ?_; simp only [zq]; refine ztk 14 38 (.pointer (some ⟨g, 0, none⟩)) hHeld ?_; simp only [zq]; refine ztk 15 39 (.string s) hHeld ?_ (hy := Or.inl ⟨by rfl, fun w' hS => (by have q := ScB.c0 hS; go_simp)⟩); simp only [zq]; refine ztk 16 40 (.pointer (some ⟨g, 0, none⟩)) hHeld ?_; simp only [zq]; refine ztk 17 41 (.pointer (some ⟨g, 0, none⟩)) hHeld ?_; simp only [zq]; refine ztk 18 42 (.pointer (some ⟨g, 1, none⟩)) hHeld ?_; simp only [zq]; refine ztk 19 43 (.int .i64 (p : Int)) hHeld ?_ (hy := Or.inl ⟨by rfl, fun w' hS => (by have q := ScB.c1 hS; go_simp)⟩); simp only [zq]; refine ztk 20 44 (.int .u8 (c0.toNat : Int)) hHeld ?_; simp only [zq]; refine ztk 21 45 (.bool true) hHeld ?_; simp only [zq]; refine ztk 22 46 (.bool true) hHeld ?_; simp only [zq]; refine ztk 23 47 (.bool true) hHeld ?_; simp only [zq]; refine ztk 24 48 (.pointer (some ⟨g, 0, none⟩)) hHeld ?_; simp only [zq]; refine ztk 25 49 (.pointer (some ⟨g, 0, none⟩)) hHeld ?_; simp only [zq]; refine ztk 26 50 (.pointer (some ⟨g, 0, none⟩)) hHeld ?_; simp only [zq]; refine ztk 27 51 (.string s) hHeld ?_ (hy := Or.inl ⟨by rfl, fun w' hS => (by have q := ScB.c0 hS; go_simp)⟩); simp only [zq]; refine ztk 28 52 (.pointer (some ⟨g, 0, none⟩)) hHeld ?_; simp only [zq]; refine ztk 29 53 (.pointer (some ⟨g, 0, none⟩)) hHeld ?_; simp only [zq]; refine ztk 30 54 (.pointer (some ⟨g, 1, none⟩)) hHeld ?_; simp only [zq]; refine ztk 31 55 (.int .i64 (p : Int)) hHeld ?_ (hy := Or.inl ⟨by rfl, fun w' hS => (by have q := ScB.c1 hS; go_simp)⟩); simp only [zq]; refine ztk 32 56 (.int .u8 (c0.toNat : Int)) hHeld ?_; simp only [zq]; refine ztk 33 57 (.bool true) hHeld ?_; simp only [zq]; refine ztk 34 58 (.bool true) hHeld ?_; simp only [zq]; refine ztk 35 59 (.int .i64 (i : Int)) hHeld ?_; simp only [zq]; refine zrd 36 fun K hK => ?_
  go_simp
  refine (xmust_ok _ _ _ _).mono ?_; rintro e w7 ⟨rfl, rfl⟩; refine hK.out _ _ (HBj.out) (fun hHeld => ?_); clear hK K
  try simp only [zq]
  refine wpAnyH_done (by kernel_rfl) ?_ _
  go_upto_region 6 with fail
  refine gen_wpT fun V0 hV0 => ?_; have HB0 := zh (show ScB V0 g s p mb by rw [← hV0]; exact HBj.out); have HO0 := zh (show V0.ownsRow (b2 + 1) 5 1 (.slice A xs.length c) xs.length (bC xs) by rw [← hV0]; exact HOj.out); have HR0 := zh (show V0.heap[b2]? = some (.cells #[.int .i64 0, .string ByteArray.empty, .int .i64 0, .int .i64 0, .int .i64 0] 65 (0, 0)) by rw [← hV0]; exact HRj.out); have HF0 := zh (show Fr [g] w V0 by rw [← hV0]; exact HFj.out.drewN 1); have c0' := HB0.out.c0; have c1 := HB0.out.c1; have cf := HB0.out.fr; have cl := HB0.out.lt; clear hV0 hHeld
  go_quiet (fail)
  by_cases h34 : c0 = 34
  case pos =>
   subst h34; have HTX := zh (show tokenL (s.data.toList.drop i) = .inr (4, ⟨xs.toArray⟩, 0, (p - i1) + 1 + 1) by
    refine HTS.out xs _ ?_; rw [HJ.out, HD.out, textL_end step_end]
    simp)
   obtain ⟨pn, hpn⟩ : ∃ pn, pn = p + 1 := ⟨_, rfl⟩; have hadd9 : (p : Int) + 1 = (pn : Int) := by omega
   have haddw9 : IntKind.i64.wrap (pn : Int) = (pn : Int) := IntWalk.i64_in _ (by omega); have HPN := zh (show i + ((p - i1) + 1 + 1) = pn by have := HI1.out; omega); clear hpn hbi hbj hcx
   go_upto_region 9 with fail
   refine gen_wpT fun U hU => ?_; have HBX := zh (show ScB U g s pn mb by rw [← hU]; exact ScB.set (by exact HB0.out) pn); have HOX := zh (show U.ownsRow (b2 + 1) 5 1 (.slice A xs.length c) xs.length (bC xs) by rw [← hU]; exact (((Fr.refl [g] V0).drewN _).setN _).own HO0.out (fun g' hg' => by have h1 := own_base HO0.out g' hg'; have h2 := HBG.out; simp; omega)); have HRX := zh (show U.heap[b2]? = some (.cells #[.int .i64 0, .string ByteArray.empty, .int .i64 0, .int .i64 0, .int .i64 0] 65 (0, 0)) by rw [← hU]; exact blk_far (a := ⟨g, 1, none⟩) (by exact HR0.out) HBG.out.1 _); have HFX := zh (show Fr [g] w U by rw [← hU]; exact (HF0.out.drewN _).setN _); have hcv := conv_row HOX.out; clear hU c0' c1 cf cl; obtain ⟨r0, r1, r2, r3, r4, rf0, rf1, rf2, rf3, rf4, rl⟩ := blk_5 HRX.out; go_wp2
   obtain ⟨j0, j1, j2, j3, j4⟩ := tok_five HRX.out rfl (.int .i64 4) (.string ⟨xs.toArray⟩) (.int .i64 0) (.int .i64 0) (.int .i64 0); refine bodyPost_ret (v := .agg #[.int .i64 4, .string ⟨xs.toArray⟩, .int .i64 0, .int .i64 0, .int .i64 0]) (by simp [results, Tryz.results37, go_sem, j0, j1, j2, j3, j4]) rfl ?_; exact ⟨(Fr.set (a := ⟨b2, 4, none⟩) (Fr.set (a := ⟨b2, 3, none⟩) (Fr.set (a := ⟨b2, 2, none⟩) (Fr.set (a := ⟨b2, 1, none⟩) (Fr.set (a := ⟨b2, 0, none⟩) HFX.out (.int .i64 4) (.inr HBG.out.2.1)) (.string ⟨xs.toArray⟩) (.inr HBG.out.2.1)) (.int .i64 0) (.inr HBG.out.2.1)) (.int .i64 0) (.inr HBG.out.2.1)) (.int .i64 0) (.inr HBG.out.2.1)), .inr ⟨_, _, _, _, HTX.out, rfl, (by rw [HPN.out]; exact (blk_far (a := ⟨b2, 4, none⟩) (blk_far (a := ⟨b2, 3, none⟩) (blk_far (a := ⟨b2, 2, none⟩) (blk_far (a := ⟨b2, 1, none⟩) (blk_far (a := ⟨b2, 0, none⟩) HBX.out HBG.out.1.symm (.int .i64 4)) HBG.out.1.symm (.string ⟨xs.toArray⟩)) HBG.out.1.symm (.int .i64 0)) HBG.out.1.symm (.int .i64 0)) HBG.out.1.symm (.int .i64 0)))⟩⟩
  have n34 : ((c0.toNat : Int) == 34) = false := u8_lit (n := 34) (by decide) h34; by_cases h92 : c0 = 92
  case neg =>
   have n92 : ((c0.toNat : Int) == 92) = false := u8_lit (n := 92) (by decide) h92; obtain ⟨bb, hbb⟩ : ∃ bb, bb = c0 := ⟨_, rfl⟩; have HST := zh (show stepT (s.data.toList.drop p) = some (some (bb, 1)) by rw [HD.out, hbb]; exact step_byte HBAD.out h34 h92); subst hbb; clear h34 h92; have HFIT := zh (step_fit HST.out (Nat.le_of_lt hps)); obtain ⟨pn, hpn⟩ : ∃ pn, pn = p + 1 := ⟨_, rfl⟩; have hpz : p + 1 = pn := by omega
   have hadd9 : (p : Int) + 1 = (pn : Int) := by omega
   have hpns : pn ≤ s.size := by have := HFIT.out; omega
   have haddw9 : IntKind.i64.wrap (pn : Int) = (pn : Int) := IntWalk.i64_in _ (by omega); have HPN := zh hpn; clear hpz hpn
   go_upto_region 21 with fail
   refine gen_wpT fun V hV => ?_; have HBV := zh (show ScB V g s p mb by rw [← hV]; exact HB0.out); have HOV := zh (show V.ownsRow (b2 + 1) 5 1 (.slice A xs.length c) xs.length (bC xs) by rw [← hV]; exact HO0.out); have HRV := zh (show V.heap[b2]? = some (.cells #[.int .i64 0, .string ByteArray.empty, .int .i64 0, .int .i64 0, .int .i64 0] 65 (0, 0)) by rw [← hV]; exact HR0.out); have HFV := zh (show Fr [g] w V by rw [← hV]; exact HF0.out.drewN _); have hVs : b2 + 1 ≤ V.heap.size := by have := blk_lt HRV.out; omega
   clear hV; go_wp2_with (at_builtin; refine wpList_append_own _ rfl _ _ 33 rfl (b2 + 1) 5 iU (.int .u8 0) 1 1 Tryz.underlying33 hiU hU0 hU1 hU2 rfl (by decide) _ _ _ rfl (HOV.out.alloc _) ⟨V.heap.size, 0, none⟩ 1 1 (bC [bb]) rfl rfl (World.news_of_block (heap_alloc_new _ _)) (bC_one _) (by unfold maxLen; omega) (by omega) (by simp; omega) ?_; intro v' w6 hown6 hg6 _; obtain ⟨A6, c6, rfl, _, _, _⟩ := own_form hown6; have HO6 := zh hown6; have HB6 := zh (show ScB w6 g s p mb from blk_grown (blk_alloc HBV.out _) hg6 (fun e => by have h1 := own_base HOV.out g e; have h2 := HBG.out; omega)); have HR6 := zh (blk_grown (blk_alloc HRV.out _) hg6 (fun e => by have h1 := own_base HOV.out b2 e; omega)); have HF6 := zh ((HFV.out.alloc _).grown hg6 (fun gg hgg => .inr (by have h1 := own_base HOV.out gg hgg; have h2 := HBG.out; omega))); have d1 := HB6.out.c1; have df := HB6.out.fr; have dl := HB6.out.lt; clear hown6 hg6)
   go_roundw
   case rel => exact ⟨pn, A6, c6, xs ++ [bb], by rw [List.length_append]; rfl, by have := HPN.out; omega, hpns, by rw [List.length_append]; have := HPN.out; have := HFIT.out; simp; omega, zh (text_next HJ.out HST.out hip HPN.out), zh (HB6.out.set pn), zh (by rw [List.length_append, bC_app]; exact (((Fr.refl [g] w6).setN _).own HO6.out (fun g' hg' => by have h1 := own_base HO6.out g' hg'; have h2 := HBG.out; simp; omega))), zh (blk_far (a := ⟨g, 1, none⟩) HR6.out HBG.out.1 _), zh (HF6.out.setN _)⟩
   case measure =>
    rw [scI_of HBj.out, scI_of (HB6.out.set pn)]; have := HPN.out
    omega
  subst h92; clear h34 n34; obtain ⟨p1, hp1⟩ : ∃ p1, p1 = p + 1 := ⟨_, rfl⟩; have haddp : (p : Int) + 1 = (p1 : Int) := by omega
  have haddpw : IntKind.i64.wrap (p1 : Int) = (p1 : Int) := IntWalk.i64_in _ (by omega); have HP1 := zh hp1; have hp1b : p + 1 ≤ p1 ∧ p1 ≤ p + 1 := by omega
  clear hp1
  go_upto_region 12 with fail
  refine gen_wpT fun V1 hV1 => ?_; have HB1 := zh (show ScB V1 g s p1 mb by rw [← hV1]; exact ScB.set (by exact HB0.out) p1); have HO1 := zh (show V1.ownsRow (b2 + 1) 5 1 (.slice A xs.length c) xs.length (bC xs) by rw [← hV1]; exact (((Fr.refl [g] V0).drewN _).setN _).own HO0.out (fun g' hg' => by have h1 := own_base HO0.out g' hg'; have h2 := HBG.out; simp; omega)); have HR1 := zh (show V1.heap[b2]? = some (.cells #[.int .i64 0, .string ByteArray.empty, .int .i64 0, .int .i64 0, .int .i64 0] 65 (0, 0)) by rw [← hV1]; exact blk_far (a := ⟨g, 1, none⟩) (by exact HR0.out) HBG.out.1 _); have HF1 := zh (show Fr [g] w V1 by rw [← hV1]; exact (HF0.out.drewN _).setN _); clear hV1 c0' c1 cf cl haddp haddpw; by_cases hps1 : p1 < s.size
  case neg =>
   have hps1' : ¬ (p1 : Int) < (s.size : Int) := by omega
   have HN := zh (show textL (s.data.toList.drop p) = none by
    rw [HD.out, ← HP1.out, List.drop_eq_nil_of_le (by simp; omega)]; exact textL_none (by rw [step_esc]))
   refine wp_region_held_drew (S := fun w' => ScB w' g s p1 mb) (by kernel_rfl) (HB1.out) (fun hHeld => ?_); refine ztk 0 91 (.pointer (some ⟨g, 0, none⟩)) hHeld ?_; simp only [zq]; refine ztk 1 92 (.pointer (some ⟨g, 0, none⟩)) hHeld ?_; simp only [zq]; refine ztk 2 93 (.pointer (some ⟨g, 0, none⟩)) hHeld ?_; simp only [zq]; refine ztk 3 94 (.pointer (some ⟨g, 1, none⟩)) hHeld ?_; simp only [zq]; refine ztk 4 95 (.int .i64 (p1 : Int)) hHeld ?_ (hy := Or.inl ⟨by rfl, fun w' hS => (by have q := ScB.c1 hS; go_simp)⟩); simp only [zq]; refine ztk 5 96 (.pointer (some ⟨g, 0, none⟩)) hHeld ?_; simp only [zq]; refine ztk 6 97 (.pointer (some ⟨g, 0, none⟩)) hHeld ?_; simp only [zq]; refine ztk 7 98 (.pointer (some ⟨g, 0, none⟩)) hHeld ?_; simp only [zq]; refine ztk 8 99 (.string s) hHeld ?_ (hy := Or.inl ⟨by rfl, fun w' hS => (by have q := ScB.c0 hS; go_simp)⟩); simp only [zq]; refine ztk 9 100 (.int .i64 (s.size : Int)) hHeld ?_; simp only [zq]; refine ztk 10 101 (.bool false) hHeld ?_; simp only [zq]; refine ztk 11 102 (.int .i64 (i : Int)) hHeld ?_; simp only [zq]; refine zrd 12 fun K hK => ?_
   go_simp
   refine (xmust_no _ _ _ _).mono ?_; rintro e w7 ⟨rfl, rfl⟩; go_wp2
   exact ⟨rfl, HF1.out.drewN 1, .inl ⟨52, HTF.out (by rw [HJ.out, HN.out]; rfl), rfl⟩⟩
  have hps1' : (p1 : Int) < (s.size : Int) := by omega
  have hp10 : (0 : Int) ≤ p1 := by omega
  obtain ⟨d, hd0⟩ : ∃ d, d = s[p1] := ⟨_, rfl⟩; have hdx : s[p1] = d := hd0.symm; have hdr1 := drop_at hps1; rw [hdx] at hdr1; have HD1 := zh (show s.data.toList.drop p = 92 :: d :: s.data.toList.drop (p1 + 1) by rw [HD.out, ← HP1.out, hdr1]); clear hd0 hdr1; refine wp_region_held_drew (S := fun w' => ScB w' g s p1 mb) (by kernel_rfl) (HB1.out) (fun hHeld => ?_); refine ztk 0 91 (.pointer (some ⟨g, 0, none⟩)) hHeld ?_; simp only [zq]; refine ztk 1 92 (.pointer (some ⟨g, 0, none⟩)) hHeld ?_; simp only [zq]; refine ztk 2 93 (.pointer (some ⟨g, 0, none⟩)) hHeld ?_; simp only [zq]; refine ztk 3 94 (.pointer (some ⟨g, 1, none⟩)) hHeld ?_; simp only [zq]; refine ztk 4 95 (.int .i64 (p1 : Int)) hHeld ?_ (hy := Or.inl ⟨by rfl, fun w' hS => (by have q := ScB.c1 hS; go_simp)⟩); simp only [zq]; refine ztk 5 96 (.pointer (some ⟨g, 0, none⟩)) hHeld ?_; simp only [zq]; refine ztk 6 97 (.pointer (some ⟨g, 0, none⟩)) hHeld ?_; simp only [zq]; refine ztk 7 98 (.pointer (some ⟨g, 0, none⟩)) hHeld ?_; simp only [zq]; refine ztk 8 99 (.string s) hHeld ?_ (hy := Or.inl ⟨by rfl, fun w' hS => (by have q := ScB.c0 hS; go_simp)⟩); simp only [zq]; refine ztk 9 100 (.int .i64 (s.size : Int)) hHeld ?_; simp only [zq]; refine ztk 10 101 (.bool true) hHeld ?_; simp only [zq]; refine ztk 11 102 (.int .i64 (i : Int)) hHeld ?_; simp only [zq]; refine zrd 12 fun K hK => ?_
  go_simp
  refine (xmust_ok _ _ _ _).mono ?_; rintro e w7 ⟨rfl, rfl⟩; refine hK.out _ _ (HB1.out) (fun hHeld => ?_); clear hK K
  try simp only [zq]
  refine wpAnyH_done (by kernel_rfl) ?_ _
  go_upto_region 13 with fail
  refine gen_wpT fun V2 hV2 => ?_; have HB2 := zh (show ScB V2 g s p1 mb by rw [← hV2]; exact HB1.out); have HO2 := zh (show V2.ownsRow (b2 + 1) 5 1 (.slice A xs.length c) xs.length (bC xs) by rw [← hV2]; exact HO1.out); have HR2 := zh (show V2.heap[b2]? = some (.cells #[.int .i64 0, .string ByteArray.empty, .int .i64 0, .int .i64 0, .int .i64 0] 65 (0, 0)) by rw [← hV2]; exact HR1.out); have HF2 := zh (show Fr [g] w V2 by rw [← hV2]; exact HF1.out.drewN 1); have c0' := HB2.out.c0; have c1 := HB2.out.c1; have cf := HB2.out.fr; have cl := HB2.out.lt; clear hV2 hHeld
  go_quiet (fail)
  by_cases h110 : d = 110
  case pos =>
   subst h110; obtain ⟨bb, hbb⟩ : ∃ bb : UInt8, bb = 10 := ⟨_, rfl⟩; have HST := zh (show stepT (s.data.toList.drop p) = some (some (bb, 2)) by rw [HD1.out, hbb, step_esc]; rfl); have hb10 : (10 : Int) = (bb.toNat : Int) := by rw [hbb]; rfl
   clear hbb; have HFIT := zh (step_fit HST.out (Nat.le_of_lt hps)); obtain ⟨pn, hpn⟩ : ∃ pn, pn = p + 2 := ⟨_, rfl⟩; have hpz : p1 + 1 = pn := by omega
   have hadd9 : (p1 : Int) + 1 = (pn : Int) := by omega
   have hpns : pn ≤ s.size := by have := HFIT.out; omega
   have haddw9 : IntKind.i64.wrap (pn : Int) = (pn : Int) := IntWalk.i64_in _ (by omega); have HPN := zh hpn; clear hpz hpn
   go_upto_region 21 with fail
   refine gen_wpT fun V hV => ?_; have HBV := zh (show ScB V g s p1 mb by rw [← hV]; exact HB2.out); have HOV := zh (show V.ownsRow (b2 + 1) 5 1 (.slice A xs.length c) xs.length (bC xs) by rw [← hV]; exact HO2.out); have HRV := zh (show V.heap[b2]? = some (.cells #[.int .i64 0, .string ByteArray.empty, .int .i64 0, .int .i64 0, .int .i64 0] 65 (0, 0)) by rw [← hV]; exact HR2.out); have HFV := zh (show Fr [g] w V by rw [← hV]; exact HF2.out.drewN _); have hVs : b2 + 1 ≤ V.heap.size := by have := blk_lt HRV.out; omega
   clear hV; go_wp2_with (at_builtin; refine wpList_append_own _ rfl _ _ 33 rfl (b2 + 1) 5 iU (.int .u8 0) 1 1 Tryz.underlying33 hiU hU0 hU1 hU2 rfl (by decide) _ _ _ rfl (HOV.out.alloc _) ⟨V.heap.size, 0, none⟩ 1 1 (bC [bb]) rfl rfl (World.news_of_block (heap_alloc_new _ _)) (bC_one _) (by unfold maxLen; omega) (by omega) (by simp; omega) ?_; intro v' w6 hown6 hg6 _; obtain ⟨A6, c6, rfl, _, _, _⟩ := own_form hown6; have HO6 := zh hown6; have HB6 := zh (show ScB w6 g s p1 mb from blk_grown (blk_alloc HBV.out _) hg6 (fun e => by have h1 := own_base HOV.out g e; have h2 := HBG.out; omega)); have HR6 := zh (blk_grown (blk_alloc HRV.out _) hg6 (fun e => by have h1 := own_base HOV.out b2 e; omega)); have HF6 := zh ((HFV.out.alloc _).grown hg6 (fun gg hgg => .inr (by have h1 := own_base HOV.out gg hgg; have h2 := HBG.out; omega))); have d1 := HB6.out.c1; have df := HB6.out.fr; have dl := HB6.out.lt; clear hown6 hg6)
   go_roundw
   case rel => exact ⟨pn, A6, c6, xs ++ [bb], by rw [List.length_append]; rfl, by have := HPN.out; omega, hpns, by rw [List.length_append]; have := HPN.out; have := HFIT.out; simp; omega, zh (text_next HJ.out HST.out hip HPN.out), zh (HB6.out.set pn), zh (by rw [List.length_append, bC_app]; exact (((Fr.refl [g] w6).setN _).own HO6.out (fun g' hg' => by have h1 := own_base HO6.out g' hg'; have h2 := HBG.out; simp; omega))), zh (blk_far (a := ⟨g, 1, none⟩) HR6.out HBG.out.1 _), zh (HF6.out.setN _)⟩
   case measure =>
    rw [scI_of HBj.out, scI_of (HB6.out.set pn)]; have := HPN.out
    omega
  have n110 : ((d.toNat : Int) == 110) = false := u8_lit (n := 110) (by decide) h110; by_cases h120 : d = 120
  case pos =>
   subst h120; obtain ⟨p2, hp2⟩ : ∃ p2, p2 = p1 + 1 := ⟨_, rfl⟩; obtain ⟨p3, hp3⟩ : ∃ p3, p3 = p1 + 2 := ⟨_, rfl⟩; have HSX := zh (step_hex HD1.out); have HP23 := zh (show p + 2 = p2 ∧ p + 3 = p3 by omega); have ha2 : (p1 : Int) + 1 = (p2 : Int) := by omega
   have ha2w : IntKind.i64.wrap (p2 : Int) = (p2 : Int) := IntWalk.i64_in _ (by omega); have ha3 : (p1 : Int) + 2 = (p3 : Int) := by omega
   have ha3w : IntKind.i64.wrap (p3 : Int) = (p3 : Int) := IntWalk.i64_in _ (by omega); have hp2b : p2 ≤ 2000000 ∧ p3 ≤ 2000000 := by omega
   have hp3b : p1 + 2 ≤ p3 ∧ p3 ≤ p1 + 2 := by omega
   clear hp2 hp3 hdx
   cases e1 : hexO s p2 with
   | none =>
    have HN := zh (show textL (s.data.toList.drop p) = none from textL_none (by rw [HSX.out, HP23.out.1, e1])); have HX1 := zh (show ∀ w', ScB w' g s p1 mb → Calls Tryz.prog 64 #[.pointer (some ⟨g, 0, none⟩), .int .i64 (p2 : Int), .int .i64 (i : Int)] w' (fun e w'' => e = .panicked (wrongX i 52) ∧ Below w'.heap.size w' w'') from fun w' h' => (xhex_any hs p2 hp2b.1 (i : Int) w' h').mono fun e w'' hh => by
     obtain ⟨hb, ⟨v, hv, _⟩ | ⟨_, he⟩⟩ := hh
     ·rw [e1] at hv; cases hv
     ·exact ⟨he, hb⟩)
    clear e1; go_wp2_with fail
    refine wp_region_held_drew (S := fun w' => ScB w' g s p1 mb) (by kernel_rfl) (HB2.out) (fun hHeld => ?_); refine ztk 0 127 (.pointer (some ⟨g, 0, none⟩)) hHeld ?_; simp only [zq]; refine ztk 1 128 (.pointer (some ⟨g, 0, none⟩)) hHeld ?_; simp only [zq]; refine ztk 2 129 (.pointer (some ⟨g, 0, none⟩)) hHeld ?_; simp only [zq]; refine ztk 3 130 (.pointer (some ⟨g, 1, none⟩)) hHeld ?_; simp only [zq]; refine ztk 4 131 (.int .i64 (p1 : Int)) hHeld ?_ (hy := Or.inl ⟨by rfl, fun w' hS => (by have q := ScB.c1 hS; go_simp)⟩); simp only [zq]; refine ztk 5 132 (.int .i64 (p2 : Int)) hHeld ?_; simp only [zq]; refine ztk 6 133 (.int .i64 (i : Int)) hHeld ?_; simp only [zq]; refine ztk 9 136 (.pointer (some ⟨g, 0, none⟩)) hHeld ?_; simp only [zq]; refine ztk 10 137 (.pointer (some ⟨g, 0, none⟩)) hHeld ?_; simp only [zq]; refine ztk 11 138 (.pointer (some ⟨g, 0, none⟩)) hHeld ?_; simp only [zq]; refine ztk 12 139 (.pointer (some ⟨g, 1, none⟩)) hHeld ?_; simp only [zq]; refine ztk 13 140 (.int .i64 (p1 : Int)) hHeld ?_ (hy := Or.inl ⟨by rfl, fun w' hS => (by have q := ScB.c1 hS; go_simp)⟩); simp only [zq]; refine ztk 14 141 (.int .i64 (p3 : Int)) hHeld ?_; simp only [zq]; refine ztk 15 142 (.int .i64 (i : Int)) hHeld ?_; simp only [zq]; refine zrd 7 fun K hK => ?_
    go_simp
    refine (HX1.out _ (by exact HB2.out)).mono ?_; rintro e w5 ⟨rfl, hb5⟩; have HF5 := zh ((HF2.out.drewN _).next (.of_below hb5 [g])); clear hb5; go_wp2
    exact ⟨rfl, HF5.out, .inl ⟨52, HTF.out (by rw [HJ.out, HN.out]; rfl), rfl⟩⟩
   | some v1 =>
    have HX1 := zh (show ∀ w', ScB w' g s p1 mb → Calls Tryz.prog 64 #[.pointer (some ⟨g, 0, none⟩), .int .i64 (p2 : Int), .int .i64 (i : Int)] w' (fun e w'' => e = .returned (.int .u8 (v1 : Int)) ∧ Below w'.heap.size w' w'') from fun w' h' => (xhex_any hs p2 hp2b.1 (i : Int) w' h').mono fun e w'' hh => by
     obtain ⟨hb, ⟨v, hv, _, he⟩ | ⟨hn, _⟩⟩ := hh
     ·rw [e1] at hv
      injection hv with hv
      subst hv; exact ⟨he, hb⟩
     ·rw [e1] at hn; cases hn)
    have hv1 : v1 < 16 := by
     unfold hexO at e1
     split at e1
     ·cases e1
     ·split at e1
      ·injection e1 with e1; omega
      ·cases e1
    obtain ⟨m1, hm1⟩ : ∃ m1, m1 = 16 * v1 := ⟨_, rfl⟩; have hshl1 : IntKind.u8.wrap ((v1 : Int) * 16) = (m1 : Int) := by rw [IntKind.wrap_u8]; omega
    have hshl2 : IntKind.u8.wrap ((v1 : Int) * 2 ^ 4) = (m1 : Int) := by rw [IntKind.wrap_u8]; omega
    have HM1 := zh hm1; clear hm1
    cases e2 : hexO s p3 with
    | none =>
     have HN := zh (show textL (s.data.toList.drop p) = none from textL_none (by rw [HSX.out, HP23.out.1, HP23.out.2, e1, e2])); have HX2 := zh (show ∀ w', ScB w' g s p1 mb → Calls Tryz.prog 64 #[.pointer (some ⟨g, 0, none⟩), .int .i64 (p3 : Int), .int .i64 (i : Int)] w' (fun e w'' => e = .panicked (wrongX i 52) ∧ Below w'.heap.size w' w'') from fun w' h' => (xhex_any hs p3 hp2b.2 (i : Int) w' h').mono fun e w'' hh => by
      obtain ⟨hb, ⟨v, hv, _⟩ | ⟨_, he⟩⟩ := hh
      ·rw [e2] at hv; cases hv
      ·exact ⟨he, hb⟩)
     clear e1 e2; go_wp2_with fail
     refine wp_region_held_drew (S := fun w' => ScB w' g s p1 mb) (by kernel_rfl) (HB2.out) (fun hHeld => ?_); refine ztk 0 127 (.pointer (some ⟨g, 0, none⟩)) hHeld ?_; simp only [zq]; refine ztk 1 128 (.pointer (some ⟨g, 0, none⟩)) hHeld ?_; simp only [zq]; refine ztk 2 129 (.pointer (some ⟨g, 0, none⟩)) hHeld ?_; simp only [zq]; refine ztk 3 130 (.pointer (some ⟨g, 1, none⟩)) hHeld ?_; simp only [zq]; refine ztk 4 131 (.int .i64 (p1 : Int)) hHeld ?_ (hy := Or.inl ⟨by rfl, fun w' hS => (by have q := ScB.c1 hS; go_simp)⟩); simp only [zq]; refine ztk 5 132 (.int .i64 (p2 : Int)) hHeld ?_; simp only [zq]; refine ztk 6 133 (.int .i64 (i : Int)) hHeld ?_; simp only [zq]; refine ztk 9 136 (.pointer (some ⟨g, 0, none⟩)) hHeld ?_; simp only [zq]; refine ztk 10 137 (.pointer (some ⟨g, 0, none⟩)) hHeld ?_; simp only [zq]; refine ztk 11 138 (.pointer (some ⟨g, 0, none⟩)) hHeld ?_; simp only [zq]; refine ztk 12 139 (.pointer (some ⟨g, 1, none⟩)) hHeld ?_; simp only [zq]; refine ztk 13 140 (.int .i64 (p1 : Int)) hHeld ?_ (hy := Or.inl ⟨by rfl, fun w' hS => (by have q := ScB.c1 hS; go_simp)⟩); simp only [zq]; refine ztk 14 141 (.int .i64 (p3 : Int)) hHeld ?_; simp only [zq]; refine ztk 15 142 (.int .i64 (i : Int)) hHeld ?_; simp only [zq]; refine zrd 7 fun K hK => ?_
     go_simp
     refine (HX1.out _ (by exact HB2.out)).mono ?_; rintro e w5 ⟨rfl, hb5⟩; have HB5 := zh (ScB.below (by exact HB2.out) hb5); have HF5 := zh ((HF2.out.drewN _).next (.of_below hb5 [g])); have HQ5 := zh (below_own hb5 (by exact HO2.out)); have HY5 := zh (below_blk hb5 (by exact HR2.out)); clear hb5; refine hK.out _ _ (HB5.out) (fun hHeld => ?_); clear hK K
     try simp only [zq]
     refine ztk 8 135 (.int .u8 (m1 : Int)) hHeld ?_; simp only [zq]; refine zrd 16 fun K hK => ?_
     go_simp
     refine (HX2.out _ (by exact HB5.out)).mono ?_; rintro e w6 ⟨rfl, hb6⟩; have HF6 := zh (HF5.out.next (.of_below hb6 [g])); clear hb6; go_wp2
     exact ⟨rfl, HF6.out, .inl ⟨52, HTF.out (by rw [HJ.out, HN.out]; rfl), rfl⟩⟩
    | some v2 =>
     have HX2 := zh (show ∀ w', ScB w' g s p1 mb → Calls Tryz.prog 64 #[.pointer (some ⟨g, 0, none⟩), .int .i64 (p3 : Int), .int .i64 (i : Int)] w' (fun e w'' => e = .returned (.int .u8 (v2 : Int)) ∧ Below w'.heap.size w' w'') from fun w' h' => (xhex_any hs p3 hp2b.2 (i : Int) w' h').mono fun e w'' hh => by
      obtain ⟨hb, ⟨v, hv, _, he⟩ | ⟨hn, _⟩⟩ := hh
      ·rw [e2] at hv
       injection hv with hv
       subst hv; exact ⟨he, hb⟩
      ·rw [e2] at hn; cases hn)
     have hv2 : v2 < 16 := by
      unfold hexO at e2
      split at e2
      ·cases e2
      ·split at e2
       ·injection e2 with e2; omega
       ·cases e2
     obtain ⟨bb, hbb⟩ : ∃ bb : UInt8, bb = UInt8.ofNat (16 * v1 + v2) := ⟨_, rfl⟩; have hbn : bb.toNat = 16 * v1 + v2 := by rw [hbb]; simp; omega
     have hor : bits .or .u8 (m1 : Int) (v2 : Int) = (bb.toNat : Int) := by rw [HM1.out, hbn]; exact or16 ⟨v1, hv1⟩ ⟨v2, hv2⟩
     have HST := zh (show stepT (s.data.toList.drop p) = some (some (bb, 4)) by rw [HSX.out, HP23.out.1, HP23.out.2, e1, e2, hbb]); clear e1 e2 hbb hbn; go_wp2_with fail
     refine wp_region_held_drew (S := fun w' => ScB w' g s p1 mb) (by kernel_rfl) (HB2.out) (fun hHeld => ?_); refine ztk 0 127 (.pointer (some ⟨g, 0, none⟩)) hHeld ?_; simp only [zq]; refine ztk 1 128 (.pointer (some ⟨g, 0, none⟩)) hHeld ?_; simp only [zq]; refine ztk 2 129 (.pointer (some ⟨g, 0, none⟩)) hHeld ?_; simp only [zq]; refine ztk 3 130 (.pointer (some ⟨g, 1, none⟩)) hHeld ?_; simp only [zq]; refine ztk 4 131 (.int .i64 (p1 : Int)) hHeld ?_ (hy := Or.inl ⟨by rfl, fun w' hS => (by have q := ScB.c1 hS; go_simp)⟩); simp only [zq]; refine ztk 5 132 (.int .i64 (p2 : Int)) hHeld ?_; simp only [zq]; refine ztk 6 133 (.int .i64 (i : Int)) hHeld ?_; simp only [zq]; refine ztk 9 136 (.pointer (some ⟨g, 0, none⟩)) hHeld ?_; simp only [zq]; refine ztk 10 137 (.pointer (some ⟨g, 0, none⟩)) hHeld ?_; simp only [zq]; refine ztk 11 138 (.pointer (some ⟨g, 0, none⟩)) hHeld ?_; simp only [zq]; refine ztk 12 139 (.pointer (some ⟨g, 1, none⟩)) hHeld ?_; simp only [zq]; refine ztk 13 140 (.int .i64 (p1 : Int)) hHeld ?_ (hy := Or.inl ⟨by rfl, fun w' hS => (by have q := ScB.c1 hS; go_simp)⟩); simp only [zq]; refine ztk 14 141 (.int .i64 (p3 : Int)) hHeld ?_; simp only [zq]; refine ztk 15 142 (.int .i64 (i : Int)) hHeld ?_; simp only [zq]; refine zrd 7 fun K hK => ?_
     go_simp
     refine (HX1.out _ (by exact HB2.out)).mono ?_; rintro e w5 ⟨rfl, hb5⟩; have HB5 := zh (ScB.below (by exact HB2.out) hb5); have HF5 := zh ((HF2.out.drewN _).next (.of_below hb5 [g])); have HQ5 := zh (below_own hb5 (by exact HO2.out)); have HY5 := zh (below_blk hb5 (by exact HR2.out)); clear hb5; refine hK.out _ _ (HB5.out) (fun hHeld => ?_); clear hK K
     try simp only [zq]
     refine ztk 8 135 (.int .u8 (m1 : Int)) hHeld ?_; simp only [zq]; refine zrd 16 fun K hK => ?_
     go_simp
     refine (HX2.out _ (by exact HB5.out)).mono ?_; rintro e w6 ⟨rfl, hb6⟩; have HB6 := zh (ScB.below (by exact HB5.out) hb6); have HF6 := zh (HF5.out.next (.of_below hb6 [g])); have HQ6 := zh (below_own hb6 (by exact HQ5.out)); have HY6 := zh (below_blk hb6 (by exact HY5.out)); clear hb6; refine hK.out _ _ (HB6.out) (fun hHeld => ?_); clear hK K
     try simp only [zq]
     refine ztk 17 144 (.int .u8 (bb.toNat : Int)) hHeld ?_; simp only [zq]; refine ztk 18 5 (.int .u8 (bb.toNat : Int)) hHeld ?_; simp only [zq]; refine wpAnyH_done (by kernel_rfl) ?_ _
     go_upto_region 20 with fail
     refine gen_wpT fun V3 hV3 => ?_; have HB3 := zh (show ScB V3 g s p1 mb by rw [← hV3]; exact HB6.out); have HO3 := zh (show V3.ownsRow (b2 + 1) 5 1 (.slice A xs.length c) xs.length (bC xs) by rw [← hV3]; exact HQ6.out); have HR3 := zh (show V3.heap[b2]? = some (.cells #[.int .i64 0, .string ByteArray.empty, .int .i64 0, .int .i64 0, .int .i64 0] 65 (0, 0)) by rw [← hV3]; exact HY6.out); have HF3 := zh (show Fr [g] w V3 by rw [← hV3]; exact HF6.out); clear hV3 hHeld c0' c1 cf cl ha2 ha2w hor hshl1 hshl2; have c1 := HB3.out.c1; have cf := HB3.out.fr; have cl := HB3.out.lt; have HFIT := zh (step_fit HST.out (Nat.le_of_lt hps)); obtain ⟨pn, hpn⟩ : ∃ pn, pn = p + 4 := ⟨_, rfl⟩; have hpz : p3 + 1 = pn := by omega
     have hadd9 : (p3 : Int) + 1 = (pn : Int) := by omega
     have hpns : pn ≤ s.size := by have := HFIT.out; omega
     have haddw9 : IntKind.i64.wrap (pn : Int) = (pn : Int) := IntWalk.i64_in _ (by omega); have HPN := zh hpn; clear hpz hpn
     go_upto_region 21 with fail
     refine gen_wpT fun V hV => ?_; have HBV := zh (show ScB V g s p3 mb by rw [← hV]; exact ScB.set (by exact HB3.out) p3); have HOV := zh (show V.ownsRow (b2 + 1) 5 1 (.slice A xs.length c) xs.length (bC xs) by rw [← hV]; exact (((Fr.refl [g] V3)).setN _).own HO3.out (fun g' hg' => by have h1 := own_base HO3.out g' hg'; have h2 := HBG.out; simp; omega)); have HRV := zh (show V.heap[b2]? = some (.cells #[.int .i64 0, .string ByteArray.empty, .int .i64 0, .int .i64 0, .int .i64 0] 65 (0, 0)) by rw [← hV]; exact blk_far (a := ⟨g, 1, none⟩) (by exact HR3.out) HBG.out.1 _); have HFV := zh (show Fr [g] w V by rw [← hV]; exact HF3.out.setN _); have hVs : b2 + 1 ≤ V.heap.size := by have := blk_lt HRV.out; omega
     clear hV; go_wp2_with (at_builtin; refine wpList_append_own _ rfl _ _ 33 rfl (b2 + 1) 5 iU (.int .u8 0) 1 1 Tryz.underlying33 hiU hU0 hU1 hU2 rfl (by decide) _ _ _ rfl (HOV.out.alloc _) ⟨V.heap.size, 0, none⟩ 1 1 (bC [bb]) rfl rfl (World.news_of_block (heap_alloc_new _ _)) (bC_one _) (by unfold maxLen; omega) (by omega) (by simp; omega) ?_; intro v' w6 hown6 hg6 _; obtain ⟨A6, c6, rfl, _, _, _⟩ := own_form hown6; have HO6 := zh hown6; have HB6 := zh (show ScB w6 g s p3 mb from blk_grown (blk_alloc HBV.out _) hg6 (fun e => by have h1 := own_base HOV.out g e; have h2 := HBG.out; omega)); have HR6 := zh (blk_grown (blk_alloc HRV.out _) hg6 (fun e => by have h1 := own_base HOV.out b2 e; omega)); have HF6 := zh ((HFV.out.alloc _).grown hg6 (fun gg hgg => .inr (by have h1 := own_base HOV.out gg hgg; have h2 := HBG.out; omega))); have d1 := HB6.out.c1; have df := HB6.out.fr; have dl := HB6.out.lt; clear hown6 hg6)
     go_roundw
     case rel => exact ⟨pn, A6, c6, xs ++ [bb], by rw [List.length_append]; rfl, by have := HPN.out; omega, hpns, by rw [List.length_append]; have := HPN.out; have := HFIT.out; simp; omega, zh (text_next HJ.out HST.out hip HPN.out), zh (HB6.out.set pn), zh (by rw [List.length_append, bC_app]; exact (((Fr.refl [g] w6).setN _).own HO6.out (fun g' hg' => by have h1 := own_base HO6.out g' hg'; have h2 := HBG.out; simp; omega))), zh (blk_far (a := ⟨g, 1, none⟩) HR6.out HBG.out.1 _), zh (HF6.out.setN _)⟩
     case measure =>
      rw [scI_of HBj.out, scI_of (HB6.out.set pn)]; have := HPN.out
      omega
  have n120 : ((d.toNat : Int) == 120) = false := u8_lit (n := 120) (by decide) h120; by_cases hok : d = 92 ∨ d = 34
  case pos =>
   obtain ⟨bb, hbb⟩ : ∃ bb, bb = d := ⟨_, rfl⟩; have HST := zh (show stepT (s.data.toList.drop p) = some (some (bb, 2)) by rw [HD1.out, hbb, step_esc]; simp only; rw [if_neg h110, if_pos hok]); subst hbb; clear h110 h120
   rcases hok with h | h
   ·have q92 : ((bb.toNat : Int) == 92) = true := by rw [h]; rfl
    have q34 : ((bb.toNat : Int) == 34) = false := by rw [h]; rfl
    clear h; go_wp2_with fail
    refine (xmust_ok _ _ _ _).mono ?_; rintro e w7 ⟨rfl, rfl⟩; have HFIT := zh (step_fit HST.out (Nat.le_of_lt hps)); obtain ⟨pn, hpn⟩ : ∃ pn, pn = p + 2 := ⟨_, rfl⟩; have hpz : p1 + 1 = pn := by omega
    have hadd9 : (p1 : Int) + 1 = (pn : Int) := by omega
    have hpns : pn ≤ s.size := by have := HFIT.out; omega
    have haddw9 : IntKind.i64.wrap (pn : Int) = (pn : Int) := IntWalk.i64_in _ (by omega); have HPN := zh hpn; clear hpz hpn
    go_upto_region 21 with fail
    refine gen_wpT fun V hV => ?_; have HBV := zh (show ScB V g s p1 mb by rw [← hV]; exact HB2.out); have HOV := zh (show V.ownsRow (b2 + 1) 5 1 (.slice A xs.length c) xs.length (bC xs) by rw [← hV]; exact HO2.out); have HRV := zh (show V.heap[b2]? = some (.cells #[.int .i64 0, .string ByteArray.empty, .int .i64 0, .int .i64 0, .int .i64 0] 65 (0, 0)) by rw [← hV]; exact HR2.out); have HFV := zh (show Fr [g] w V by rw [← hV]; exact HF2.out.drewN _); have hVs : b2 + 1 ≤ V.heap.size := by have := blk_lt HRV.out; omega
    clear hV; go_wp2_with (at_builtin; refine wpList_append_own _ rfl _ _ 33 rfl (b2 + 1) 5 iU (.int .u8 0) 1 1 Tryz.underlying33 hiU hU0 hU1 hU2 rfl (by decide) _ _ _ rfl (HOV.out.alloc _) ⟨V.heap.size, 0, none⟩ 1 1 (bC [bb]) rfl rfl (World.news_of_block (heap_alloc_new _ _)) (bC_one _) (by unfold maxLen; omega) (by omega) (by simp; omega) ?_; intro v' w6 hown6 hg6 _; obtain ⟨A6, c6, rfl, _, _, _⟩ := own_form hown6; have HO6 := zh hown6; have HB6 := zh (show ScB w6 g s p1 mb from blk_grown (blk_alloc HBV.out _) hg6 (fun e => by have h1 := own_base HOV.out g e; have h2 := HBG.out; omega)); have HR6 := zh (blk_grown (blk_alloc HRV.out _) hg6 (fun e => by have h1 := own_base HOV.out b2 e; omega)); have HF6 := zh ((HFV.out.alloc _).grown hg6 (fun gg hgg => .inr (by have h1 := own_base HOV.out gg hgg; have h2 := HBG.out; omega))); have d1 := HB6.out.c1; have df := HB6.out.fr; have dl := HB6.out.lt; clear hown6 hg6)
    go_roundw
    case rel => exact ⟨pn, A6, c6, xs ++ [bb], by rw [List.length_append]; rfl, by have := HPN.out; omega, hpns, by rw [List.length_append]; have := HPN.out; have := HFIT.out; simp; omega, zh (text_next HJ.out HST.out hip HPN.out), zh (HB6.out.set pn), zh (by rw [List.length_append, bC_app]; exact (((Fr.refl [g] w6).setN _).own HO6.out (fun g' hg' => by have h1 := own_base HO6.out g' hg'; have h2 := HBG.out; simp; omega))), zh (blk_far (a := ⟨g, 1, none⟩) HR6.out HBG.out.1 _), zh (HF6.out.setN _)⟩
    case measure =>
     rw [scI_of HBj.out, scI_of (HB6.out.set pn)]; have := HPN.out
     omega
   ·have q34 : ((bb.toNat : Int) == 34) = true := by rw [h]; rfl
    clear h; go_wp2_with fail
    refine (xmust_ok _ _ _ _).mono ?_; rintro e w7 ⟨rfl, rfl⟩; have HFIT := zh (step_fit HST.out (Nat.le_of_lt hps)); obtain ⟨pn, hpn⟩ : ∃ pn, pn = p + 2 := ⟨_, rfl⟩; have hpz : p1 + 1 = pn := by omega
    have hadd9 : (p1 : Int) + 1 = (pn : Int) := by omega
    have hpns : pn ≤ s.size := by have := HFIT.out; omega
    have haddw9 : IntKind.i64.wrap (pn : Int) = (pn : Int) := IntWalk.i64_in _ (by omega); have HPN := zh hpn; clear hpz hpn
    go_upto_region 21 with fail
    refine gen_wpT fun V hV => ?_; have HBV := zh (show ScB V g s p1 mb by rw [← hV]; exact HB2.out); have HOV := zh (show V.ownsRow (b2 + 1) 5 1 (.slice A xs.length c) xs.length (bC xs) by rw [← hV]; exact HO2.out); have HRV := zh (show V.heap[b2]? = some (.cells #[.int .i64 0, .string ByteArray.empty, .int .i64 0, .int .i64 0, .int .i64 0] 65 (0, 0)) by rw [← hV]; exact HR2.out); have HFV := zh (show Fr [g] w V by rw [← hV]; exact HF2.out.drewN _); have hVs : b2 + 1 ≤ V.heap.size := by have := blk_lt HRV.out; omega
    clear hV; go_wp2_with (at_builtin; refine wpList_append_own _ rfl _ _ 33 rfl (b2 + 1) 5 iU (.int .u8 0) 1 1 Tryz.underlying33 hiU hU0 hU1 hU2 rfl (by decide) _ _ _ rfl (HOV.out.alloc _) ⟨V.heap.size, 0, none⟩ 1 1 (bC [bb]) rfl rfl (World.news_of_block (heap_alloc_new _ _)) (bC_one _) (by unfold maxLen; omega) (by omega) (by simp; omega) ?_; intro v' w6 hown6 hg6 _; obtain ⟨A6, c6, rfl, _, _, _⟩ := own_form hown6; have HO6 := zh hown6; have HB6 := zh (show ScB w6 g s p1 mb from blk_grown (blk_alloc HBV.out _) hg6 (fun e => by have h1 := own_base HOV.out g e; have h2 := HBG.out; omega)); have HR6 := zh (blk_grown (blk_alloc HRV.out _) hg6 (fun e => by have h1 := own_base HOV.out b2 e; omega)); have HF6 := zh ((HFV.out.alloc _).grown hg6 (fun gg hgg => .inr (by have h1 := own_base HOV.out gg hgg; have h2 := HBG.out; omega))); have d1 := HB6.out.c1; have df := HB6.out.fr; have dl := HB6.out.lt; clear hown6 hg6)
    go_roundw
    case rel => exact ⟨pn, A6, c6, xs ++ [bb], by rw [List.length_append]; rfl, by have := HPN.out; omega, hpns, by rw [List.length_append]; have := HPN.out; have := HFIT.out; simp; omega, zh (text_next HJ.out HST.out hip HPN.out), zh (HB6.out.set pn), zh (by rw [List.length_append, bC_app]; exact (((Fr.refl [g] w6).setN _).own HO6.out (fun g' hg' => by have h1 := own_base HO6.out g' hg'; have h2 := HBG.out; simp; omega))), zh (blk_far (a := ⟨g, 1, none⟩) HR6.out HBG.out.1 _), zh (HF6.out.setN _)⟩
    case measure =>
     rw [scI_of HBj.out, scI_of (HB6.out.set pn)]; have := HPN.out
     omega
  have HN := zh (show textL (s.data.toList.drop p) = none from textL_none (by rw [HD1.out, step_esc]; simp only; rw [if_neg h110, if_neg hok, if_pos h120])); have m34 : ((d.toNat : Int) == 34) = false := u8_lit (n := 34) (by decide) (fun h => hok (.inr h)); have m92 : ((d.toNat : Int) == 92) = false := u8_lit (n := 92) (by decide) (fun h => hok (.inl h)); clear h110 h120 hok; go_wp2_with fail
  refine (xmust_no _ _ _ _).mono ?_; rintro e w7 ⟨rfl, rfl⟩; go_wp2
  exact ⟨rfl, HF2.out.drewN _, .inl ⟨52, HTF.out (by rw [HJ.out, HN.out]; rfl), rfl⟩⟩
end Go.Proofs.YthobobmbileekaaGreatDoor
