/-
  Names: the program's and the reference's.
-/
import Derived.Test.YtmjkelmlbihkpaaDoorTyM

import Derived.Maps.OwnSet
import Derived.Maps.Keyed
import Derived.Maps.AppendAt
import Derived.Lib.Hide
set_option linter.unusedVariables false
set_option linter.unusedSimpArgs false
namespace Go.Proofs.YtmjkelmlbihkpaaDoor
open Go.ChangeShapes Go.WideShapes Go.ChangeAt Go.RowKit Go.Maps

theorem lawS : Keyed Tryd.prog 9 := string_keyed Tryd.underlying9
theorem name_key {nm : ByteArray} (hs : nm.size ≤ maxLen) : keyOf Tryd.prog 9 (.string nm) = some (.string nm.data.toList) := by
  rw [keyOf_string Tryd.underlying9]
  simp [mapKey, Tryd.underlying9, hs]
theorem or32_all : ∀ c : Fin 256, bits .or .u8 (c.1 : Int) 32 = ((c.1 ||| 32 : Nat) : Int) ∧ ((97 ≤ c.1 ||| 32 ∧ c.1 ||| 32 ≤ 122) ↔ (97 ≤ c.1 ∧ c.1 ≤ 122) ∨ (65 ≤ c.1 ∧ c.1 ≤ 90)) := by decide +kernel
theorem or32 (c : Nat) (hc : c < 256) : ∃ o : Nat, bits .or .u8 (c : Int) 32 = (o : Int) ∧ ((97 ≤ o ∧ o ≤ 122) ↔ (97 ≤ c ∧ c ≤ 122) ∨ (65 ≤ c ∧ c ≤ 90)) := ⟨_, or32_all ⟨c, hc⟩⟩
set_option maxHeartbeats 1000000 in
theorem digits_any (c : Nat) (w : World) (hc : c < 256) : Calls Tryd.prog 24 #[.int .u8 (c : Int)] w (Ret (.bool (digitN c)) w) := by
  go_enter Tryd.func24, Tryd.ntmps24
  go_wp2
  all_goals
    go_ret
    refine ⟨ret_bool ?_, rfl⟩
    rw [Bool.eq_iff_iff]
    simp [digitN]
    try omega
set_option maxHeartbeats 1000000 in
theorem part_any (c : Nat) (w : World) (hc : c < 256) : Calls Tryd.prog 25 #[.int .u8 (c : Int)] w (Ret (.bool (partN c)) w) := by
  obtain ⟨o, ho, hoo⟩ := or32 c hc
  have HO := Lib.hid hoo
  clear hoo
  go_enter Tryd.func25, Tryd.ntmps25
  go_wp2
  all_goals
    go_ret
    refine ⟨ret_bool ?_, rfl⟩
    have hoo := HO.out
    clear HO
    try simp only [ho]
    rw [Bool.eq_iff_iff]
    simp [partN, letterN, digitN]
    try omega
set_option maxHeartbeats 1000000 in
theorem rletter_any (c : Nat) (w : World) (hc : c < 256) : Calls Tryd.prog 26 #[.int .u8 (c : Int)] w (Ret (.bool (letterN c)) w) := by
  go_enter Tryd.func26, Tryd.ntmps26
  go_wp2
  all_goals
    go_ret
    refine ⟨ret_bool ?_, rfl⟩
    rw [Bool.eq_iff_iff]
    simp [letterN]
    try omega
set_option maxHeartbeats 1000000 in
theorem rpart_any (c : Nat) (w : World) (hc : c < 256) : Calls Tryd.prog 28 #[.int .u8 (c : Int)] w (Ret (.bool (partN c)) w) := by
  have h := fun w => rletter_any c w hc
  have H := Lib.hid h
  clear h
  cases hl : letterN c
  all_goals
    rw [hl] at H
    go_enter Tryd.func28, Tryd.ntmps28
    go_wp2_with (go_at_call 26; refine (H.out _).mono ?_; rintro e w1 ⟨rfl, rfl⟩)
  all_goals
    go_ret
    refine ⟨ret_bool ?_, rfl⟩
    rw [Bool.eq_iff_iff]
    simp [partN, hl, digitN]
    try omega
theorem ne_word {s c : ByteArray} {l : List UInt8} (h : ¬ s = c) (hl : c.data.toList = l) : (s.toList == l) = false := by
  rw [beq_eq_false_iff_ne]
  intro e
  rw [← hl, ByteArray.toList_eq] at e
  exact h (ByteArray.ext (Array.toList_inj.1 e))
set_option maxRecDepth 100000 in
set_option maxHeartbeats 4000000 in
theorem rword_any (s : ByteArray) (w : World) : Calls Tryd.prog 27 #[.string s] w (Ret (.bool (tb (s ∈ wordsL))) w) := by
  by_cases h0 : s = ⟨#[97, 110, 100]⟩
  · subst h0
    rw [tb_true (by simp [wordsL])]
    go_enter Tryd.func27, Tryd.ntmps27
    go_wp2
    go_ret
    exact ⟨rfl, rfl⟩
  by_cases h1 : s = ⟨#[98, 114, 101, 97, 107]⟩
  · subst h1
    rw [tb_true (by simp [wordsL])]
    go_enter Tryd.func27, Tryd.ntmps27
    go_wp2
    go_ret
    exact ⟨rfl, rfl⟩
  by_cases h2 : s = ⟨#[99, 104, 97, 110, 110, 101, 108]⟩
  · subst h2
    rw [tb_true (by simp [wordsL])]
    go_enter Tryd.func27, Tryd.ntmps27
    go_wp2
    go_ret
    exact ⟨rfl, rfl⟩
  by_cases h3 : s = ⟨#[100, 111]⟩
  · subst h3
    rw [tb_true (by simp [wordsL])]
    go_enter Tryd.func27, Tryd.ntmps27
    go_wp2
    go_ret
    exact ⟨rfl, rfl⟩
  by_cases h4 : s = ⟨#[101, 108, 115, 101]⟩
  · subst h4
    rw [tb_true (by simp [wordsL])]
    go_enter Tryd.func27, Tryd.ntmps27
    go_wp2
    go_ret
    exact ⟨rfl, rfl⟩
  by_cases h5 : s = ⟨#[101, 108, 115, 101, 105, 102]⟩
  · subst h5
    rw [tb_true (by simp [wordsL])]
    go_enter Tryd.func27, Tryd.ntmps27
    go_wp2
    go_ret
    exact ⟨rfl, rfl⟩
  by_cases h6 : s = ⟨#[101, 110, 100]⟩
  · subst h6
    rw [tb_true (by simp [wordsL])]
    go_enter Tryd.func27, Tryd.ntmps27
    go_wp2
    go_ret
    exact ⟨rfl, rfl⟩
  by_cases h7 : s = ⟨#[102, 97, 108, 115, 101]⟩
  · subst h7
    rw [tb_true (by simp [wordsL])]
    go_enter Tryd.func27, Tryd.ntmps27
    go_wp2
    go_ret
    exact ⟨rfl, rfl⟩
  by_cases h8 : s = ⟨#[102, 117, 110, 99, 116, 105, 111, 110]⟩
  · subst h8
    rw [tb_true (by simp [wordsL])]
    go_enter Tryd.func27, Tryd.ntmps27
    go_wp2
    go_ret
    exact ⟨rfl, rfl⟩
  by_cases h9 : s = ⟨#[105, 102]⟩
  · subst h9
    rw [tb_true (by simp [wordsL])]
    go_enter Tryd.func27, Tryd.ntmps27
    go_wp2
    go_ret
    exact ⟨rfl, rfl⟩
  by_cases h10 : s = ⟨#[108, 111, 99, 97, 108]⟩
  · subst h10
    rw [tb_true (by simp [wordsL])]
    go_enter Tryd.func27, Tryd.ntmps27
    go_wp2
    go_ret
    exact ⟨rfl, rfl⟩
  by_cases h11 : s = ⟨#[110, 105, 108]⟩
  · subst h11
    rw [tb_true (by simp [wordsL])]
    go_enter Tryd.func27, Tryd.ntmps27
    go_wp2
    go_ret
    exact ⟨rfl, rfl⟩
  by_cases h12 : s = ⟨#[110, 111, 116]⟩
  · subst h12
    rw [tb_true (by simp [wordsL])]
    go_enter Tryd.func27, Tryd.ntmps27
    go_wp2
    go_ret
    exact ⟨rfl, rfl⟩
  by_cases h13 : s = ⟨#[111, 114]⟩
  · subst h13
    rw [tb_true (by simp [wordsL])]
    go_enter Tryd.func27, Tryd.ntmps27
    go_wp2
    go_ret
    exact ⟨rfl, rfl⟩
  by_cases h14 : s = ⟨#[114, 101, 116, 117, 114, 110]⟩
  · subst h14
    rw [tb_true (by simp [wordsL])]
    go_enter Tryd.func27, Tryd.ntmps27
    go_wp2
    go_ret
    exact ⟨rfl, rfl⟩
  by_cases h15 : s = ⟨#[116, 104, 101, 110]⟩
  · subst h15
    rw [tb_true (by simp [wordsL])]
    go_enter Tryd.func27, Tryd.ntmps27
    go_wp2
    go_ret
    exact ⟨rfl, rfl⟩
  by_cases h16 : s = ⟨#[116, 114, 117, 101]⟩
  · subst h16
    rw [tb_true (by simp [wordsL])]
    go_enter Tryd.func27, Tryd.ntmps27
    go_wp2
    go_ret
    exact ⟨rfl, rfl⟩
  by_cases h17 : s = ⟨#[119, 104, 105, 108, 101]⟩
  · subst h17
    rw [tb_true (by simp [wordsL])]
    go_enter Tryd.func27, Tryd.ntmps27
    go_wp2
    go_ret
    exact ⟨rfl, rfl⟩
  rw [tb_false (by simp [wordsL, h0, h1, h2, h3, h4, h5, h6, h7, h8, h9, h10, h11, h12, h13, h14, h15, h16, h17])]
  have e0 : (s.toList == [97, 110, 100]) = false := ne_word h0 rfl
  have e1 : (s.toList == [98, 114, 101, 97, 107]) = false := ne_word h1 rfl
  have e2 : (s.toList == [99, 104, 97, 110, 110, 101, 108]) = false := ne_word h2 rfl
  have e3 : (s.toList == [100, 111]) = false := ne_word h3 rfl
  have e4 : (s.toList == [101, 108, 115, 101]) = false := ne_word h4 rfl
  have e5 : (s.toList == [101, 108, 115, 101, 105, 102]) = false := ne_word h5 rfl
  have e6 : (s.toList == [101, 110, 100]) = false := ne_word h6 rfl
  have e7 : (s.toList == [102, 97, 108, 115, 101]) = false := ne_word h7 rfl
  have e8 : (s.toList == [102, 117, 110, 99, 116, 105, 111, 110]) = false := ne_word h8 rfl
  have e9 : (s.toList == [105, 102]) = false := ne_word h9 rfl
  have e10 : (s.toList == [108, 111, 99, 97, 108]) = false := ne_word h10 rfl
  have e11 : (s.toList == [110, 105, 108]) = false := ne_word h11 rfl
  have e12 : (s.toList == [110, 111, 116]) = false := ne_word h12 rfl
  have e13 : (s.toList == [111, 114]) = false := ne_word h13 rfl
  have e14 : (s.toList == [114, 101, 116, 117, 114, 110]) = false := ne_word h14 rfl
  have e15 : (s.toList == [116, 104, 101, 110]) = false := ne_word h15 rfl
  have e16 : (s.toList == [116, 114, 117, 101]) = false := ne_word h16 rfl
  have e17 : (s.toList == [119, 104, 105, 108, 101]) = false := ne_word h17 rfl
  clear h0 h1 h2 h3 h4 h5 h6 h7 h8 h9 h10 h11 h12 h13 h14 h15 h16 h17
  go_enter Tryd.func27, Tryd.ntmps27
  go_wp2
  go_ret
  exact ⟨rfl, rfl⟩
theorem byte_at {s : ByteArray} {k : Nat} (h : k < s.size) : s.data.toList[k]? = some s[k] := by
  rw [List.getElem?_eq_getElem (by simpa using h)]
  rfl
theorem name_no {s : ByteArray} {k : Nat} (h : k < s.size) (hp : partN s[k].toNat = false) : ¬ NameOk s := fun e => by
  have := e.2.1 _ (List.mem_of_getElem? (byte_at h))
  rw [hp] at this
  cases this
theorem name_yes {s : ByteArray} (h0 : 0 < s.size) (hw : s ∉ wordsL) (hl : letterN s[0].toNat = true) (hp : ∀ (j : Nat) (h : j < s.size), partN s[j].toNat = true) : NameOk s :=
  ⟨hw, fun c hc => by
    obtain ⟨j, hj⟩ := List.getElem?_of_mem hc
    have hlt : j < s.size := by have := (List.getElem?_eq_some_iff.1 hj).1; simpa using this
    rw [byte_at hlt] at hj
    rw [← Option.some.inj hj]
    exact hp j hlt, _, byte_at h0, hl⟩
set_option maxRecDepth 100000 in
set_option maxHeartbeats 4000000 in
theorem rname_any (s : ByteArray) (hs : s.size ≤ 140737488355328) (w : World) : Calls Tryd.prog 16 #[.string s] w (Ret (.bool (tb (NameOk s))) w) := by
  by_cases h0 : s.size = 0
  · rw [tb_false (fun e => by
      obtain ⟨c, hc, _⟩ := e.2.2
      have h1 := (List.getElem?_eq_some_iff.1 hc).1
      have h2 : s.data.toList.length = s.size := by simp
      omega)]
    have hem : s = ByteArray.empty := by
      refine ByteArray.ext (Array.eq_empty_of_size_eq_zero ?_)
      exact h0
    subst hem
    go_enter Tryd.func16, Tryd.ntmps16
    go_wp2
    go_ret
    exact ⟨rfl, rfl⟩
  have hp0 : 0 < s.size := by omega
  have hne : (s.toList == []) = false := by
    rw [beq_eq_false_iff_ne, ByteArray.toList_eq]
    intro e
    have h1 : s.data.toList.length = 0 := by rw [e]; rfl
    have h2 : s.data.toList.length = s.size := by simp
    omega
  have hlet := fun w => rletter_any s[0].toNat w (UInt8.toNat_lt _)
  have hword := fun w => rword_any s w
  have hpart := fun (k : Nat) (h : k < s.size) w => rpart_any s[k].toNat w (UInt8.toNat_lt _)
  have HP := Lib.hid hpart
  have HW := Lib.hid hword
  have HL := Lib.hid hlet
  clear hpart hword hlet h0
  cases hl : letterN s[0].toNat
  · rw [tb_false (fun e => by
      obtain ⟨c, hc, h1⟩ := e.2.2
      rw [byte_at hp0] at hc
      rw [← Option.some.inj hc, hl] at h1
      cases h1)]
    rw [hl] at HL
    clear hl
    go_enter Tryd.func16, Tryd.ntmps16
    go_wp2_with fail
    refine (HL.out _).mono ?_
    rintro e w1 ⟨rfl, rfl⟩
    go_wp2
    go_ret
    exact ⟨rfl, rfl⟩
  rw [hl] at HL
  by_cases hw : s ∈ wordsL
  · rw [tb_false (fun e => e.1 hw)]
    rw [tb_true hw] at HW
    clear hl hw
    go_enter Tryd.func16, Tryd.ntmps16
    go_wp2_with fail
    refine (HL.out _).mono ?_
    rintro e w1 ⟨rfl, rfl⟩
    go_wp2_with fail
    refine (HW.out _).mono ?_
    rintro e w1 ⟨rfl, rfl⟩
    go_wp2
    go_ret
    exact ⟨rfl, rfl⟩
  rw [tb_false hw] at HW
  have HNW := Lib.hid hw
  have HLL := Lib.hid hl
  obtain ⟨ans, hans⟩ : ∃ ans, ans = tb (NameOk s) := ⟨_, rfl⟩
  rw [← hans]
  have HA := Lib.hid hans
  clear hl hw hans
  go_enter Tryd.func16, Tryd.ntmps16
  go_wp2_with fail
  refine (HL.out _).mono ?_
  rintro e w1 ⟨rfl, rfl⟩
  go_wp2_with fail
  refine (HW.out _).mono ?_
  rintro e w1 ⟨rfl, rfl⟩
  go_wp2_with fail
  go_loopw [3] (fun i wr => ∃ k : Nat, k ≤ s.size ∧ i = .int .i64 k ∧ Hid (∀ (j : Nat) (h : j < s.size), j < k → partN s[j].toNat = true) ∧ wr = w) (fun i _ => s.size - (intOf i).toNat)
  case atStart => exact ⟨0, by omega, rfl, Lib.hid (fun j h hj => by omega), rfl⟩
  case round =>
    obtain ⟨k, hk, rfl, HK, rfl⟩ := hrel
    by_cases hlt : k < s.size
    · have hpk := fun w => HP.out k hlt w
      have hk' : (k : Int) < (s.size : Int) := by omega
      have hk0 : (0 : Int) ≤ k := by omega
      have HPk := Lib.hid hpk
      clear hpk
      cases hpp : partN s[k].toNat
      · rw [hpp] at HPk
        have e : ans = false := by rw [HA.out]; exact tb_false (name_no hlt hpp)
        subst e
        clear hpp
        go_wp2_with fail
        refine (HPk.out _).mono ?_
        rintro e w1 ⟨rfl, rfl⟩
        go_wp2
        go_ret
        exact ⟨rfl, rfl⟩
      · rw [hpp] at HPk
        have HK2 := Lib.hid (show ∀ (j : Nat) (h : j < s.size), j < k + 1 → partN s[j].toNat = true from fun j h hj => by
          rcases Nat.lt_or_ge j k with h1 | h1
          · exact HK.out j h h1
          · obtain rfl : j = k := by omega
            exact hpp)
        clear hpp
        go_wp2_with fail
        refine (HPk.out _).mono ?_
        rintro e w1 ⟨rfl, rfl⟩
        go_wp2_with fail
        go_roundw
        case rel => exact ⟨k + 1, by omega, by go_num, HK2, (by first | rfl | trivial)⟩
        case measure => simp [intOf]; omega
    · obtain rfl : k = s.size := by omega
      have e : ans = true := by rw [HA.out]; exact tb_true (name_yes hp0 HNW.out HLL.out (fun j h => HK.out j h h))
      subst e
      go_wp2
      go_ret
      exact ⟨rfl, rfl⟩
end Go.Proofs.YtmjkelmlbihkpaaDoor
