/-
  Bytes as a string is written: the reference's Quote.
-/
import Derived.Test.YtmjkelmlbihkpaaDoorQuote
import Derived.Deep.QuietTactic
import Derived.BigQuiet
set_option linter.unusedVariables false
set_option linter.unusedSimpArgs false
namespace Go.Proofs.YtmjkelmlbihkpaaDoor
open Go.ChangeShapes Go.WideShapes Go.ChangeAt Go.RowKit

def qS (s : ByteArray) (k : Nat) : ByteArray := ⟨(qTo s k).toArray⟩
theorem qS_add {s : ByteArray} {k : Nat} {l : List UInt8} (h : qTo s (k + 1) = qTo s k ++ l) : qS s k ++ ⟨l.toArray⟩ = qS s (k + 1) := by
  apply ByteArray.ext
  apply Array.toList_inj.1
  unfold qS
  rw [h]
  simp [ByteArray.data_append]
theorem qS_size (s : ByteArray) (k : Nat) (h : k ≤ s.size) : (qS s k).size ≤ 4 * k + 1 := by
  have := qTo_len s k h
  show (qTo s k).toArray.size ≤ _
  simpa using this
theorem ext_one (s : ByteArray) (k : Nat) (h : k < s.size) : s.extract k (k + 1) = ⟨#[s[k]]⟩ := by
  apply ByteArray.ext
  apply Array.toList_inj.1
  rw [Lib.extract_data]
  have h' : k < s.data.toList.length := by simpa using h
  rw [List.drop_eq_getElem_cons h']
  simp
  rfl
theorem hex_ext (q : Nat) (h : q < 16) : ({ data := #[48, 49, 50, 51, 52, 53, 54, 55, 56, 57, 97, 98, 99, 100, 101, 102] } : ByteArray).extract q (q + 1) = ⟨#[hexD q]⟩ := by
  have hs : q < ({ data := #[48, 49, 50, 51, 52, 53, 54, 55, 56, 57, 97, 98, 99, 100, 101, 102] } : ByteArray).size := h
  rw [ext_one _ q hs]
  have := Option.some.inj ((Array.getElem?_eq_getElem hs).symm.trans (hexS_at q h))
  exact congrArg (fun x => (⟨#[x]⟩ : ByteArray)) this
theorem cat2 (a b : UInt8) : (⟨#[a]⟩ : ByteArray) ++ ⟨#[b]⟩ = ⟨#[a, b]⟩ := rfl
theorem cat3 (a b c : UInt8) : (⟨#[a, b]⟩ : ByteArray) ++ ⟨#[c]⟩ = ⟨#[a, b, c]⟩ := rfl
theorem cat4 (a b c d : UInt8) : (⟨#[a, b, c]⟩ : ByteArray) ++ ⟨#[d]⟩ = ⟨#[a, b, c, d]⟩ := rfl
theorem siz1 (a : UInt8) : (⟨#[a]⟩ : ByteArray).size = 1 := rfl
theorem siz2 (a b : UInt8) : (⟨#[a, b]⟩ : ByteArray).size = 2 := rfl
theorem siz3 (a b c : UInt8) : (⟨#[a, b, c]⟩ : ByteArray).size = 3 := rfl
theorem siz4 (a b c d : UInt8) : (⟨#[a, b, c, d]⟩ : ByteArray).size = 4 := rfl
set_option maxRecDepth 100000 in
set_option maxHeartbeats 4000000 in
theorem rquote_any (s : ByteArray) (hs : s.size ≤ 35000000000000) (w : World) : Calls Tryd.prog 14 #[.string s] w fun e w' => e = .returned (.string (quoteS s)) ∧ ∃ n, w' = w.drewN n := by
  have c2 := cat2
  have c3 := cat3
  have c4 := cat4
  have z1 := siz1
  have z2 := siz2
  have z3 := siz3
  have z4 := siz4
  go_enter Tryd.func14, Tryd.ntmps14
  go_wp2
  go_loopw [3, 4, 5] (fun v i _ wr => ∃ k : Nat, k ≤ s.size ∧ i = .int .i64 k ∧ v = .string (qS s k) ∧ ∃ n, wr = w.drewN n) (fun _ i _ _ => s.size - (intOf i).toNat)
  case atStart => exact ⟨0, by omega, rfl, rfl, 0, rfl⟩
  case round =>
    obtain ⟨k, hk, rfl, rfl, n, rfl⟩ := hrel
    have hql := qS_size s k hk
    by_cases hlt : k < s.size
    · have hq := qTo_succ s k hlt
      have hx := ext_one s k hlt
      generalize hc : s[k] = c at hq hx
      by_cases h10 : c = 10
      · subst h10
        have e := qS_add (l := [92, 110]) hq
        generalize qS s k = Q at hql e ⊢
        have HE := Lib.hid e
        clear e hq hx
        go_wp2
        exact ⟨⟨k + 1, by omega, by go_num, by rw [← HE.out], _, rfl⟩, by simp [intOf]; omega⟩
      have n10 : ((c.toNat : Int) == 10) = false := u8_lit (n := 10) (by decide) h10
      by_cases h34 : c = 34 ∨ c = 92
      · have eb : qbyte c = [92, c] := by unfold qbyte; rw [if_neg h10, if_pos h34]
        rw [eb] at hq
        have e := qS_add hq
        generalize qS s k = Q at hql e ⊢
        have HE := Lib.hid e
        have hor : c = 92 ∨ (((c.toNat : Int) == 92) = false ∧ c = 34) := by
          rcases h34 with h | h
          · subst h; exact .inr ⟨by decide, rfl⟩
          · exact .inl h
        clear e hq eb h34 h10 n10
        rcases hor with h | ⟨n34, h⟩
        all_goals
          subst h
          go_wp2
          exact ⟨⟨k + 1, by omega, by go_num, by rw [← HE.out], _, rfl⟩, by simp [intOf]; omega⟩
      have n34 : ((c.toNat : Int) == 34) = false := u8_lit (n := 34) (by decide) (fun h => h34 (.inl h))
      have n92 : ((c.toNat : Int) == 92) = false := u8_lit (n := 92) (by decide) (fun h => h34 (.inr h))
      by_cases h32 : c.toNat < 32 ∨ 126 < c.toNat
      · obtain ⟨q, hq16⟩ : ∃ q, q = c.toNat / 16 := ⟨_, rfl⟩
        obtain ⟨r, hr16⟩ : ∃ r, r = c.toNat % 16 := ⟨_, rfl⟩
        have eb : qbyte c = [92, 120, hexD q, hexD r] := by unfold qbyte; rw [if_neg h10, if_neg h34, if_pos h32, hq16, hr16]
        rw [eb] at hq
        have e := qS_add hq
        generalize qS s k = Q at hql e ⊢
        have HE := Lib.hid e
        have hc256 : c.toNat < 256 := c.toNat_lt
        have e1 : (c.toNat : Int) / 16 = (q : Int) := by omega
        have e2 : (c.toNat : Int) % 16 = (r : Int) := by omega
        have hql : q < 16 := by omega
        have hrl : r < 16 := by omega
        have x1 := hex_ext q hql
        have x2 := hex_ext r hrl
        have hql' : (q : Int) < 16 := by omega
        have hrl' : (r : Int) < 16 := by omega
        have hh : (c.toNat : Int) < 32 ∨ 126 < (c.toNat : Int) := by omega
        clear h32 hq16 hr16 e hq eb h34 h10 hx
        rcases hh with h32 | h32
        all_goals
          go_wp2
          go_quiet (fail)
          go_wp2
          exact ⟨⟨k + 1, by omega, by go_num, by rw [← HE.out], _, rfl⟩, by simp [intOf]; omega⟩
      · have eb : qbyte c = [c] := by unfold qbyte; rw [if_neg h10, if_neg h34, if_neg h32]
        rw [eb] at hq
        have e := qS_add hq
        generalize qS s k = Q at hql e ⊢
        have HE := Lib.hid e
        have h1 : (32 : Int) ≤ c.toNat := by omega
        have h2 : (c.toNat : Int) ≤ 126 := by omega
        clear e hq eb h34 h10 h32
        go_wp2
        exact ⟨⟨k + 1, by omega, by go_num, by rw [← HE.out], _, rfl⟩, by simp [intOf]; omega⟩
    · obtain rfl : k = s.size := by omega
      have e : qS s s.size ++ ⟨#[34]⟩ = quoteS s := by
        apply ByteArray.ext
        apply Array.toList_inj.1
        unfold qS quoteS
        rw [← qTo_all]
        simp [ByteArray.data_append]
      generalize qS s s.size = Q at hql e ⊢
      have HE := Lib.hid e
      clear e
      go_wp2
      go_ret
      exact ⟨by rw [← HE.out]; rfl, _, rfl⟩
end Go.Proofs.YtmjkelmlbihkpaaDoor
