/-
  Names: the program's and the reference's.
-/
import Derived.Test.YtohllalninoomaaDoorTyM

import Derived.Maps.OwnSet
import Derived.Maps.Keyed
import Derived.Maps.AppendAt
import Derived.Lib.Hide
set_option linter.unusedVariables false
set_option linter.unusedSimpArgs false
namespace Go.Proofs.YtohllalninoomaaDoor
open Go.ChangeShapes Go.WideShapes Go.ChangeAt Go.RowKit Go.Maps

theorem lawS : Keyed Tryd.prog 9 := string_keyed Tryd.underlying9
theorem name_key {nm : ByteArray} (hs : nm.size ≤ maxLen) : keyOf Tryd.prog 9 (.string nm) = some (.string nm.data.toList) := by
  rw [keyOf_string Tryd.underlying9]
  simp [mapKey, Tryd.underlying9, hs]
theorem or32_all : ∀ c : Fin 256, bits .or .u8 (c.1 : Int) 32 = ((c.1 ||| 32 : Nat) : Int) ∧ ((97 ≤ c.1 ||| 32 ∧ c.1 ||| 32 ≤ 122) ↔ (97 ≤ c.1 ∧ c.1 ≤ 122) ∨ (65 ≤ c.1 ∧ c.1 ≤ 90)) := by decide +kernel
theorem or32 (c : Nat) (hc : c < 256) : ∃ o : Nat, bits .or .u8 (c : Int) 32 = (o : Int) ∧ ((97 ≤ o ∧ o ≤ 122) ↔ (97 ≤ c ∧ c ≤ 122) ∨ (65 ≤ c ∧ c ≤ 90)) := ⟨_, or32_all ⟨c, hc⟩⟩
set_option maxHeartbeats 1000000 in
theorem digits_any (c : Nat) (w : World) (hc : c < 256) : Calls Tryd.prog 77 #[.int .u8 (c : Int)] w (Ret (.bool (digitN c)) w) := by
  go_enter Tryd.func77, Tryd.ntmps77
  go_wp2
  all_goals
    go_ret
    refine ⟨ret_bool ?_, rfl⟩
    rw [Bool.eq_iff_iff]
    simp [digitN]
    try omega
set_option maxHeartbeats 1000000 in
theorem part_any (c : Nat) (w : World) (hc : c < 256) : Calls Tryd.prog 79 #[.int .u8 (c : Int)] w (Ret (.bool (partN c)) w) := by
  obtain ⟨o, ho, hoo⟩ := or32 c hc
  have HO := Lib.hid hoo
  clear hoo
  go_enter Tryd.func79, Tryd.ntmps79
  go_wp2
  all_goals
    go_ret
    refine ⟨ret_bool ?_, rfl⟩
    have hoo := HO.out
    clear HO
    try simp only [ho]
    rw [Bool.eq_iff_iff]
    simp [partN, letterN, digitN]
    try omega
theorem ne_word {s c : ByteArray} {l : List UInt8} (h : ¬ s = c) (hl : c.data.toList = l) : (s.toList == l) = false := by
  rw [beq_eq_false_iff_ne]
  intro e
  rw [← hl, ByteArray.toList_eq] at e
  exact h (ByteArray.ext (Array.toList_inj.1 e))
theorem byte_at {s : ByteArray} {k : Nat} (h : k < s.size) : s.data.toList[k]? = some s[k] := by
  rw [List.getElem?_eq_getElem (by simpa using h)]
  rfl
theorem name_no {s : ByteArray} {k : Nat} (h : k < s.size) (hp : partN s[k].toNat = false) : ¬ NameOk s := fun e => by
  have := e.2.1 _ (List.mem_of_getElem? (byte_at h))
  rw [hp] at this
  cases this
theorem name_yes {s : ByteArray} (h0 : 0 < s.size) (hw : s ∉ wordsL) (hl : letterN s[0].toNat = true) (hp : ∀ (j : Nat) (h : j < s.size), partN s[j].toNat = true) : NameOk s :=
  ⟨hw, fun c hc => by
    obtain ⟨j, hj⟩ := List.getElem?_of_mem hc
    have hlt : j < s.size := by have := (List.getElem?_eq_some_iff.1 hj).1; simpa using this
    rw [byte_at hlt] at hj
    rw [← Option.some.inj hj]
    exact hp j hlt, _, byte_at h0, hl⟩
end Go.Proofs.YtohllalninoomaaDoor
