/-
  Chapter 04: stamps: whether a kind is one of a stamp's; the reference's allows.
-/
import Derived.Test.YthhphjfbdoffhaaTabFields
import Derived.Laws.Bits128
set_option linter.unusedVariables false
set_option linter.unusedSimpArgs false
namespace Go.Proofs.Ythhphjfbdoffhaa
open Go.ChangeShapes Go.WideShapes Go.ChangeAt Go.RowKit

/-- Whether a stamp's kinds have one. -/
def fitsB (kinds kind : Int) : Bool := decide (0 ≤ kind ∧ kind ≤ 62) && (kinds / 2 ^ kind.toNat) % 2 == 1
theorem i64_and1 (n : Int) : bits .and .i64 n 1 = n % 2 := by
  have h1 : (BitVec.ofInt 64 1).toNat = 2 ^ 1 - 1 := by decide
  have key : (BitVec.ofInt 64 n &&& BitVec.ofInt 64 1).toNat = (n % ((2 ^ 64 : Nat) : Int)).toNat % 2 ^ 1 := by
    rw [BitVec.toNat_and, BitVec.toNat_ofInt, h1, Nat.and_two_pow_sub_one_eq_mod]
  show IntKind.i64.wrap ((BitVec.ofInt 64 n &&& BitVec.ofInt 64 1).toNat : Nat) = n % 2
  rw [key, IntKind.wrap_i64]
  omega
theorem fits_any (a k : Int) (w : World) : Calls Try.prog 58 #[.int .i64 a, .int .i64 k] w (Ret (.bool (fitsB a k)) w) := by
  by_cases h0 : k < 0
  · have h0' : ¬ 0 ≤ k := by omega
    have e : fitsB a k = false := by simp [fitsB, h0']
    rw [e]
    go_enter Try.func58, Try.ntmps58
    go_wp2
    go_ret
    exact ⟨rfl, rfl⟩
  by_cases h1 : 62 < k
  · have h0' : 0 ≤ k := by omega
    have h1' : ¬ k ≤ 62 := by omega
    have e : fitsB a k = false := by simp [fitsB, h1']
    rw [e]
    go_enter Try.func58, Try.ntmps58
    go_wp2
    go_ret
    exact ⟨rfl, rfl⟩
  · obtain ⟨n, rfl⟩ : ∃ n : Nat, k = (n : Int) := ⟨k.toNat, by omega⟩
    have h0' : (0 : Int) ≤ n := by omega
    have h1' : (n : Int) ≤ 62 := by omega
    have e : fitsB a n = ((bits .and .i64 (a / 2 ^ n) 1) == 1) := by rw [i64_and1]; simp [fitsB, h1']
    rw [e]
    go_enter Try.func58, Try.ntmps58
    go_wp2
    go_ret
    exact ⟨by simp, rfl⟩
/-- Whether stamps allow a kind under a name. -/
def allowsB (S : List St) (name : ByteArray) (k : Int) : Bool := S.all fun s => !(s.1.toList == name.toList) || fitsB s.2 k
structure StAt (w : World) (a : Addr) (x : St) : Prop where
  c0 : w.cell? a = some (.string x.1)
  c1 : w.cell? ⟨a.block, a.off + 1, none⟩ = some (.int .i64 x.2)
theorem st_at {w : World} {ad : Addr} {xs : List St} (hc : ∀ j u, (xs.flatMap stEnc)[j]? = some u → w.cell? (ad.add j) = some u) {k : Nat} {x : St} (hx : xs[k]? = some x) : StAt w (ad.add (k * 2)) x :=
  ⟨elem_zero (K := 2) (fun a => rfl) hc hx (by omega) rfl, elem_at (K := 2) (fun a => rfl) hc hx 1 (by omega) (by omega) rfl⟩
set_option maxRecDepth 100000 in
set_option maxHeartbeats 2000000 in
theorem allows_any (S : List St) (A : Option Addr) (c : Nat) (name : ByteArray) (k : Int) (w : World) (hr : Reads w w.heap.size A (S.flatMap stEnc)) (hn : S.length ≤ 9223372036854775807) (hk : -9223372036854775808 ≤ k ∧ k ≤ 9223372036854775807) :
    Calls Try.prog 70 #[.slice A S.length c, .string name, .int .i64 k] w (RetB (.bool (allowsB S name k)) w) := by
  have HR := Lib.hid hr
  clear hr
  go_enter Try.func70, Try.ntmps70
  go_wp2
  go_loopw [11] (fun i wr => ∃ j : Nat, j ≤ S.length ∧ i = .int .i64 j ∧ Below w.heap.size w wr ∧ Hid ((S.take j).all (fun s => !(s.1.toList == name.toList) || fitsB s.2 k) = true)) (fun i wr => S.length - (intOf i).toNat)
  case atStart => exact ⟨0, by omega, rfl, Below.refl _ _, Lib.hid rfl⟩
  case round =>
    obtain ⟨j, hj, rfl, hB, HA⟩ := hrel
    by_cases hlt : j < S.length
    · obtain ⟨x, hx⟩ : ∃ x, S[j]? = some x := ⟨_, List.getElem?_eq_getElem hlt⟩
      obtain ⟨ad, rfl, hadb, hcell⟩ := (HR.out.below hB).at (flatMap_ne (K := 2) (fun a => rfl) (by omega) hx)
      obtain ⟨c0, c1⟩ := st_at hcell hx
      have hxm := List.mem_of_getElem? hx
      have HT := Lib.hid (show S.take (j + 1) = S.take j ++ [x] by rw [List.take_add_one, hx]; rfl)
      have hsz := hB.size
      have HB := Lib.hid hB
      obtain ⟨nm, kd⟩ := x
      clear hcell hB hx
      dsimp only at c0 c1
      have no : (!(nm.toList == name.toList) || fitsB kd k) = false → allowsB S name k = false := fun h => by
        unfold allowsB
        rw [List.all_eq_false]
        exact ⟨_, hxm, by simpa using h⟩
      have NO := Lib.hid no
      clear no hxm
      by_cases hnm : nm.toList = name.toList
      · by_cases h0 : k < 0
        · have e : allowsB S name k = false := NO.out (by simp [hnm, fitsB]; omega)
          rw [e]
          go_wp2
          go_ret
          exact ⟨rfl, HB.out.alloc hsz _⟩
        by_cases h1 : 62 < k
        · have e : allowsB S name k = false := NO.out (by simp [hnm, fitsB]; omega)
          rw [e]
          go_wp2
          go_ret
          exact ⟨rfl, HB.out.alloc hsz _⟩
        · obtain ⟨n, rfl⟩ : ∃ n : Nat, k = (n : Int) := ⟨k.toNat, by omega⟩
          have hf : fitsB kd n = !((bits .and .i64 (kd / 2 ^ n) 1) == 0) := by
            rw [i64_and1, Bool.eq_iff_iff]
            simp [fitsB]
            omega
          have h3 : (n : Int) ≤ 62 := by omega
          by_cases hz : (bits .and .i64 (kd / 2 ^ n) 1) = 0
          · have e : allowsB S name n = false := NO.out (by simp [hnm, hf, hz])
            rw [e]
            go_wp2
            go_ret
            exact ⟨rfl, HB.out.alloc hsz _⟩
          · go_wp2
            go_roundw
            case rel => exact ⟨j + 1, by omega, by go_num, HB.out.alloc hsz _, by rw [HT.out, List.all_append, HA.out]; exact Lib.hid (by simp [hf, hz])⟩
            case measure => simp [intOf]; omega
      · go_wp2
        go_roundw
        case rel => exact ⟨j + 1, by omega, by go_num, HB.out.alloc hsz _, by rw [HT.out, List.all_append, HA.out]; exact Lib.hid (by simp [hnm])⟩
        case measure => simp [intOf]; omega
    · obtain rfl : j = S.length := by omega
      have e : allowsB S name k = true := by
        have := HA.out
        rw [List.take_length] at this
        exact this
      go_wp2
      go_ret
      exact ⟨by rw [e]; rfl, hB⟩
end Go.Proofs.Ythhphjfbdoffhaa
