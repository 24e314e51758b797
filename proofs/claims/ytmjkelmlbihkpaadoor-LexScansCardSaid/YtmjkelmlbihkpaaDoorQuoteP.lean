/-
  Bytes as a string is written: the plain function.
-/
import Derived.Test.YtmjkelmlbihkpaaDoorMem
import Derived.Lib.Strings
set_option linter.unusedVariables false
set_option linter.unusedSimpArgs false
namespace Go.Proofs.YtmjkelmlbihkpaaDoor
open Go.RowKit

def hexD (k : Nat) : UInt8 := if k < 10 then UInt8.ofNat (48 + k) else UInt8.ofNat (87 + k)
def qbyte (c : UInt8) : List UInt8 := if c = 10 then [92, 110] else if c = 34 ∨ c = 92 then [92, c] else if c.toNat < 32 ∨ 126 < c.toNat then [92, 120, hexD (c.toNat / 16), hexD (c.toNat % 16)] else [c]
def quoteB (l : List UInt8) : List UInt8 := 34 :: (l.flatMap qbyte ++ [34])
def quoteS (s : ByteArray) : ByteArray := ⟨(quoteB s.data.toList).toArray⟩
def qTo (s : ByteArray) (k : Nat) : List UInt8 := 34 :: (s.data.toList.take k).flatMap qbyte
def bC (l : List UInt8) : List Value := l.map fun b => Value.int .u8 (b.toNat : Int)
theorem qTo_zero (s : ByteArray) : qTo s 0 = [34] := rfl
theorem qTo_succ (s : ByteArray) (k : Nat) (h : k < s.size) : qTo s (k + 1) = qTo s k ++ qbyte s[k] := by
  unfold qTo
  have h' : k < s.data.toList.length := by simpa using h
  rw [List.take_succ_eq_append_getElem h', List.flatMap_append, List.cons_append]
  congr 2
  simp
  rfl
theorem qTo_all (s : ByteArray) : qTo s s.size ++ [34] = quoteB s.data.toList := by
  unfold qTo quoteB
  rw [List.take_of_length_le (by simp), List.cons_append]
theorem qbyte_len (c : UInt8) : 1 ≤ (qbyte c).length ∧ (qbyte c).length ≤ 4 := by
  unfold qbyte
  split
  · simp
  · split
    · simp
    · split <;> simp
theorem qTo_len (s : ByteArray) (k : Nat) (h : k ≤ s.size) : (qTo s k).length ≤ 4 * k + 1 := by
  induction k with
  | zero => simp [qTo]
  | succ k ih =>
    have := qbyte_len s[k]
    rw [qTo_succ s k (by omega), List.length_append]
    have := ih (by omega)
    omega
theorem bC_len (l : List UInt8) : (bC l).length = l.length := by simp [bC]
theorem bC_app (a b : List UInt8) : bC (a ++ b) = bC a ++ bC b := by simp [bC]
theorem bC_one (l : List UInt8) : ∀ u ∈ bC l, u.oneCell' = true := by
  intro u hu
  obtain ⟨b, _, rfl⟩ := List.mem_map.1 hu
  rfl
theorem hexS_at (k : Nat) (h : k < 16) : (#[48, 49, 50, 51, 52, 53, 54, 55, 56, 57, 97, 98, 99, 100, 101, 102] : Array UInt8)[k]? = some (hexD k) := by
  have : ∀ k, k < 16 → (#[48, 49, 50, 51, 52, 53, 54, 55, 56, 57, 97, 98, 99, 100, 101, 102] : Array UInt8)[k]? = some (hexD k) := by decide +kernel
  exact this k h
end Go.Proofs.YtmjkelmlbihkpaaDoor
