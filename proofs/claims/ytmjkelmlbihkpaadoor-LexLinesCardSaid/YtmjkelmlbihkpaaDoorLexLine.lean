/-
  The line and byte of a place: the program's and the reference's Line; the law.
-/
import Derived.Test.YtmjkelmlbihkpaaDoorLexAwake
import Derived.Lib.LastIndexLaws
set_option linter.unusedVariables false
set_option linter.unusedSimpArgs false
namespace Go.Proofs.YtmjkelmlbihkpaaDoor
open Go.ChangeShapes Go.WideShapes Go.ChangeAt Go.RowKit

theorem occ_at {a : List UInt8} {i : Nat} {c : UInt8} (h : a[i]? = some c) : Lib.occAt a [10] i = (c == 10) := by
  obtain ⟨hi, rfl⟩ := List.getElem?_eq_some_iff.1 h
  unfold Lib.occAt
  rw [List.drop_eq_getElem_cons hi]
  show ((10 : UInt8) == a[i] && true) = (a[i] == 10)
  rw [Bool.and_true, Bool.eq_iff_iff, beq_iff_eq, beq_iff_eq]
  exact ⟨fun h => h.symm, fun h => h.symm⟩
theorem last_len (a : List UInt8) : Lib.lastIndex a [10] = Lib.lastOcc a [10] a.length := by
  unfold Lib.lastIndex
  cases a with
  | nil => rfl
  | cons c r =>
    rw [if_pos (by simp)]
    rfl
theorem last_in (a : List UInt8) : ∀ k : Nat, -1 ≤ Lib.lastOcc a [10] k ∧ Lib.lastOcc a [10] k < (k : Int)
  | 0 => by simp [Lib.lastOcc]
  | k + 1 => by
    have h := last_in a k
    rw [Lib.lastOcc]
    split <;> omega
theorem count_snoc {a : List UInt8} {i : Nat} {c : UInt8} (h : a[i]? = some c) : (a.take (i + 1)).count 10 = (a.take i).count 10 + (if c = 10 then 1 else 0) := by
  rw [List.take_add_one, h]
  show ((a.take i) ++ [c]).count 10 = _
  rw [List.count_append]
  congr 1
  by_cases hc : c = 10
  · subst hc; rfl
  · rw [if_neg hc]
    exact List.count_eq_zero_of_not_mem (by simpa using fun h => hc h.symm)
set_option maxRecDepth 100000 in
set_option maxHeartbeats 4000000 in
theorem tline_any (s : ByteArray) (x : Int) (k : Nat) (hs : s.size ≤ 5000) (hk : min (max x 0) (s.size : Int) = (k : Int)) (hks : k ≤ s.size) (w : World) :
    Calls Tryd.prog 17 #[.string s, .int .i64 x] w fun e w' => e = .returned (.tuple #[.int .i64 (((s.data.toList.take k).count 10 : Nat) + 1), .int .i64 ((k : Int) - Lib.lastOcc (s.data.toList.take k) [10] k)]) ∧ w' = w := by
  obtain ⟨a, ha⟩ : ∃ a : ByteArray, a = s.extract 0 k := ⟨_, rfl⟩
  have hal : a.data.toList = s.data.toList.take k := by
    have := ext_take s 0 k
    rw [Nat.zero_add, List.drop_zero] at this
    rw [ha, this]
  have hsz : a.size = k := by rw [ha]; simp; omega
  have hax : s.extract 0 k = a := ha.symm
  have hl : (s.data.toList.take k).length = k := by rw [← hal]; simpa using hsz
  obtain ⟨cn, hcn⟩ : ∃ cn, cn = (s.data.toList.take k).count 10 := ⟨_, rfl⟩
  obtain ⟨lst, hlst⟩ : ∃ lst, lst = Lib.lastOcc (s.data.toList.take k) [10] k := ⟨_, rfl⟩
  have hC := Lib.hid (show ∀ w, Calls Tryd.prog 29 #[.string a, .string ⟨#[10]⟩] w (fun e w' => e = .returned (.int .i64 (cn : Int)) ∧ w' = w) from fun w => by
    have := Tryd.strings_Count_one a 10 w
    rw [hal] at this
    rw [hcn]
    exact this)
  have hL := Lib.hid (show ∀ w, Calls Tryd.prog 30 #[.string a, .string ⟨#[10]⟩] w (fun e w' => e = .returned (.int .i64 lst) ∧ w' = w) from fun w => by
    have := Tryd.strings_LastIndex a ⟨#[10]⟩ (by omega) w
    rw [show (⟨#[10]⟩ : ByteArray).data.toList = [10] from rfl, last_len, hal, hl] at this
    rw [hlst]
    exact this)
  have hcb : cn ≤ k := by rw [hcn]; exact Nat.le_trans List.count_le_length (Nat.le_of_eq hl)
  have hlb := last_in (s.data.toList.take k) k
  rw [← hlst] at hlb ⊢
  rw [← hcn]
  have hw1 : IntKind.i64.wrap ((cn : Int) + 1) = (cn : Int) + 1 := IntWalk.i64_in _ (by omega)
  have hw2 : IntKind.i64.wrap ((k : Int) - lst) = (k : Int) - lst := IntWalk.i64_in _ (by omega)
  have hk0 : (0 : Int) ≤ (k : Int) := by omega
  have hk1 : (k : Int) ≤ (s.size : Int) := by omega
  clear ha hal hl hcn hlst hcb hlb
  go_enter Tryd.func17, Tryd.ntmps17
  go_wp2_with fail
  refine (hC.out _).mono ?_
  rintro e w1 ⟨rfl, rfl⟩
  go_wp2_with fail
  refine (hL.out _).mono ?_
  rintro e w2 ⟨rfl, rfl⟩
  go_wp2
  refine bodyPost_ret (v := .tuple #[.int .i64 ((cn : Int) + 1), .int .i64 ((k : Int) - lst)]) (by simp [results, Tryd.results17, go_sem]) rfl ?_
  exact ⟨rfl, rfl⟩
set_option maxRecDepth 100000 in
set_option maxHeartbeats 4000000 in
theorem rline_any (s : ByteArray) (x : Int) (k : Nat) (hs : s.size ≤ 5000) (hk : min (max x 0) (s.size : Int) = (k : Int)) (hks : k ≤ s.size) (w : World) :
    Calls Tryd.prog 18 #[.string s, .int .i64 x] w fun e w' => e = .returned (.tuple #[.int .i64 (((s.data.toList.take k).count 10 : Nat) + 1), .int .i64 ((k : Int) - Lib.lastOcc (s.data.toList.take k) [10] k)]) ∧ w = w' := by
  obtain ⟨a, ha⟩ : ∃ a, a = s.data.toList.take k := ⟨_, rfl⟩
  rw [← ha]
  have hl : a.length = k := by rw [ha]; simp; omega
  have HA := Lib.hid ha
  have HL := Lib.hid hl
  clear ha hl
  go_enter Tryd.func18, Tryd.ntmps18
  go_wp2_with fail
  go_loop [6, 7, 8] (fun lv cv iv => ∃ (i ln cl : Nat), i ≤ k ∧ lv = .int .i64 (ln : Int) ∧ cv = .int .i64 (cl : Int) ∧ iv = .int .i64 (i : Int) ∧ Hid (ln = (a.take i).count 10 + 1) ∧ Hid ((cl : Int) = (i : Int) - Lib.lastOcc a [10] i) ∧ ln ≤ i + 1 ∧ cl ≤ i + 1) (fun _ _ iv => k - (intOf iv).toNat)
  case atStart => exact ⟨0, 1, 1, by omega, rfl, rfl, rfl, Lib.hid (by simp), Lib.hid (by simp [Lib.lastOcc]), by omega, by omega⟩
  case round =>
    obtain ⟨i, ln, cl, hi, rfl, rfl, rfl, HLN, HCL, hlb, hcb⟩ := hrel
    by_cases hlt : i < k
    · have hlt' : (i : Int) < (k : Int) := by omega
      have his : i < s.size := by omega
      have his' : (i : Int) < (s.size : Int) := by omega
      have hi0 : (0 : Int) ≤ (i : Int) := by omega
      have hai : a[i]? = some s[i] := by rw [HA.out, List.getElem?_take_of_lt hlt]; exact byte_at his
      have hocc := occ_at hai
      have hcs := count_snoc hai
      have hw1 : IntKind.i64.wrap ((cl : Int) + 1) = (cl : Int) + 1 := IntWalk.i64_in _ (by omega)
      have hw2 : IntKind.i64.wrap ((ln : Int) + 1) = (ln : Int) + 1 := IntWalk.i64_in _ (by omega)
      by_cases h10 : s[i] = 10
      · have q10 : ((s[i].toNat : Int) == 10) = true := by rw [h10]; rfl
        have HO := Lib.hid (show Lib.lastOcc a [10] (i + 1) = (i : Int) from Lib.lastOcc_hit _ _ _ (by rw [hocc, h10]; rfl))
        have HC := Lib.hid (show (a.take (i + 1)).count 10 = (a.take i).count 10 + 1 by rw [hcs, if_pos h10])
        clear hai hocc hcs h10
        go_wp2_with fail
        go_round
        case rel => exact ⟨i + 1, ln + 1, 1, by omega, by go_num, rfl, by go_num, Lib.hid (by rw [HC.out, HLN.out]), Lib.hid (by rw [HO.out]; omega), by omega, by omega⟩
        case measure => simp [intOf]; omega
      · have q10 : ((s[i].toNat : Int) == 10) = false := u8_lit (n := 10) (by decide) h10
        have HO := Lib.hid (show Lib.lastOcc a [10] (i + 1) = Lib.lastOcc a [10] i from Lib.lastOcc_miss _ _ _ (by rw [hocc]; exact beq_eq_false_iff_ne.2 h10))
        have HC := Lib.hid (show (a.take (i + 1)).count 10 = (a.take i).count 10 by rw [hcs, if_neg h10]; rfl)
        clear hai hocc hcs h10
        go_wp2_with fail
        go_round
        case rel => exact ⟨i + 1, ln, cl + 1, by omega, rfl, by go_num, by go_num, Lib.hid (by rw [HC.out, HLN.out]), Lib.hid (by rw [HO.out]; have := HCL.out; omega), by omega, by omega⟩
        case measure => simp [intOf]; omega
    · obtain rfl : i = k := by omega
      have hkk : ¬ (i : Int) < (i : Int) := by omega
      have e1 : (a.take i).count 10 = a.count 10 := by rw [List.take_of_length_le (by rw [HL.out]; exact Nat.le_refl _)]
      have HE := Lib.hid (show (ln : Int) = ((a.count 10 : Nat) : Int) + 1 by rw [HLN.out, e1]; omega)
      clear e1
      go_wp2
      refine bodyPost_ret (v := .tuple #[.int .i64 (ln : Int), .int .i64 (cl : Int)]) (by simp [results, Tryd.results18, go_sem]) rfl ?_
      exact ⟨by rw [← HE.out, ← HCL.out], rfl⟩
set_option maxRecDepth 100000 in
set_option maxHeartbeats 4000000 in
theorem lexLines_walk (s : ByteArray) (x : Int) (w : World) (hw : LexW w) : Calls Tryd.prog 8 #[.string s, .int .i64 x] w (RetB (.bool true) w) := by
  have HW := Lib.hid hw
  clear hw
  go_enter Tryd.func8, Tryd.ntmps8
  go_wp2_with fail
  refine (awake05_any w HW.out).mono ?_
  rintro e w1 ⟨rfl, hb1⟩
  by_cases hs : 5000 < s.size
  · have hs' : (5000 : Int) < (s.size : Int) := by omega
    clear hs
    go_wp2
    go_ret
    exact ⟨rfl, hb1⟩
  have hs' : ¬ (5000 : Int) < (s.size : Int) := by omega
  obtain ⟨k, hk⟩ : ∃ k : Nat, min (max x 0) (s.size : Int) = (k : Int) := ⟨(min (max x 0) (s.size : Int)).toNat, by omega⟩
  have HT := Lib.hid (fun w => tline_any s x k (by omega) hk (by omega) w)
  have HR := Lib.hid (fun w => rline_any s x k (by omega) hk (by omega) w)
  generalize (((s.data.toList.take k).count 10 : Nat) : Int) + 1 = u at HT HR
  generalize (k : Int) - Lib.lastOcc (s.data.toList.take k) [10] k = v at HT HR
  have HB1 := Lib.hid hb1
  clear hb1 hk hs
  go_wp2_with fail
  refine (HT.out _).mono ?_
  rintro e w2 ⟨rfl, rfl⟩
  go_wp2_with fail
  refine (HR.out _).mono ?_
  rintro e w3 ⟨rfl, rfl⟩
  go_wp2
  go_ret
  exact ⟨ret_bool (by simp), HB1.out⟩
end Go.Proofs.YtmjkelmlbihkpaaDoor
