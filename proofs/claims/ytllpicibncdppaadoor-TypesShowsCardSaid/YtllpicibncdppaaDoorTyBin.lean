/-
  slices.BinarySearch over rising names.
-/
import Derived.Test.YtllpicibncdppaaDoorTyLike
set_option linter.unusedVariables false
set_option linter.unusedSimpArgs false
namespace Go.Proofs.YtllpicibncdppaaDoor
open Go.ChangeShapes Go.WideShapes Go.ChangeAt Go.RowKit

theorem bytesLess_irr : ∀ l : List UInt8, Op.bytesLess l l = false
  | [] => rfl
  | x :: l => by
    have ih := bytesLess_irr l
    have h1 : ¬ x < x := fun h' => by have := UInt8.lt_iff_toNat_lt.1 h'; omega
    simp [Op.bytesLess, h1, ih]
theorem bytesLess_trans : ∀ {l m n : List UInt8}, Op.bytesLess l m = true → Op.bytesLess m n = true → Op.bytesLess l n = true
  | [], [], n, h, _ => by simp [Op.bytesLess] at h
  | [], y :: m, [], _, h => by simp [Op.bytesLess] at h
  | [], y :: m, z :: n, _, _ => rfl
  | x :: l, [], n, h, _ => by simp [Op.bytesLess] at h
  | x :: l, y :: m, [], _, h => by simp [Op.bytesLess] at h
  | x :: l, y :: m, z :: n, h, k => by
    simp only [Op.bytesLess, Bool.or_eq_true, decide_eq_true_eq, Bool.and_eq_true, beq_iff_eq] at h k ⊢
    have e (a b : UInt8) : (a < b) ↔ a.toNat < b.toNat := UInt8.lt_iff_toNat_lt
    rcases h with h | ⟨rfl, h⟩
    · rcases k with k | ⟨rfl, k⟩
      · exact .inl ((e x z).2 (by have := (e x y).1 h; have := (e y z).1 k; omega))
      · exact .inl h
    · rcases k with k | ⟨rfl, k⟩
      · exact .inl k
      · exact .inr ⟨rfl, bytesLess_trans h k⟩
/-- Names rise. -/
def Rise (ns : List ByteArray) : Prop := ∀ (i j : Nat) (a b : ByteArray), i < j → ns[i]? = some a → ns[j]? = some b → Op.bytesLess a.toList b.toList = true
theorem rise_of {ns : List ByteArray} (h : ∀ (i : Nat) (a b : ByteArray), ns[i]? = some a → ns[i + 1]? = some b → Op.bytesLess a.toList b.toList = true) : Rise ns := by
  intro i j
  induction j with
  | zero => intro a b hij; omega
  | succ j ih =>
    intro a b hij ha hb
    rcases Nat.lt_or_ge i j with h1 | h1
    · have hj : j < ns.length := by have := (List.getElem?_eq_some_iff.1 hb).1; omega
      exact bytesLess_trans (ih a _ h1 ha (List.getElem?_eq_getElem hj)) (h j _ b (List.getElem?_eq_getElem hj) hb)
    · obtain rfl : i = j := by omega
      exact h i a b ha hb
set_option maxRecDepth 100000 in
set_option maxHeartbeats 1000000 in
theorem snan_any (s : ByteArray) (w : World) : Calls Tryd.prog 100 #[.string s] w (Ret (.bool false) w) := by
  have hb := str_beq (rfl : s = s)
  have hb' : (s.toList != s.toList) = false := by rw [bne, hb]; rfl
  go_enter Tryd.func100, Tryd.ntmps100
  go_wp2
  go_ret
  exact ⟨rfl, rfl⟩
set_option maxRecDepth 100000 in
set_option maxHeartbeats 1000000 in
theorem cnan_any (s : ByteArray) (w : World) : Calls Tryd.prog 105 #[.string s] w (Ret (.bool false) w) := by
  have hb := str_beq (rfl : s = s)
  have hb' : (s.toList != s.toList) = false := by rw [bne, hb]; rfl
  go_enter Tryd.func105, Tryd.ntmps105
  go_wp2
  go_ret
  exact ⟨rfl, rfl⟩
set_option maxRecDepth 100000 in
set_option maxHeartbeats 1000000 in
theorem sless_any (s t : ByteArray) (w : World) : Calls Tryd.prog 99 #[.string s, .string t] w (Ret (.bool (Op.bytesLess s.toList t.toList)) w) := by
  go_enter Tryd.func99, Tryd.ntmps99
  go_wp2_with fail
  refine (cnan_any s _).mono ?_
  rintro e w' ⟨rfl, rfl⟩
  go_wp2
  go_ret
  exact ⟨rfl, rfl⟩
def FoundOut (ns : List ByteArray) (s : ByteArray) (w : World) (e : Ending) (w' : World) : Prop :=
  w = w' ∧ ((∃ j : Nat, ns[j]? = some s ∧ e = .returned (.tuple #[.int .i64 (j : Int), .bool true])) ∨ (s ∉ ns ∧ ∃ j : Nat, e = .returned (.tuple #[.int .i64 (j : Int), .bool false])))
theorem found_no {ns : List ByteArray} (hr : Rise ns) {s : ByteArray} {lo : Nat} (h1 : ∀ (j : Nat) (a : ByteArray), j < lo → ns[j]? = some a → Op.bytesLess a.toList s.toList = true) (h2 : ∀ (j : Nat) (a : ByteArray), lo ≤ j → ns[j]? = some a → Op.bytesLess a.toList s.toList = false)
    (h3 : ns[lo]? ≠ some s) : s ∉ ns := fun hm => by
  obtain ⟨j, hj⟩ := List.getElem?_of_mem hm
  rcases Nat.lt_trichotomy j lo with h | h | h
  · have := h1 j s h hj
    rw [bytesLess_irr] at this
    cases this
  · subst h
    exact h3 hj
  · have hl : lo < ns.length := by have := (List.getElem?_eq_some_iff.1 hj).1; omega
    have := h2 lo _ (Nat.le_refl _) (List.getElem?_eq_getElem hl)
    rw [hr lo j _ s h (List.getElem?_eq_getElem hl) hj] at this
    cases this
set_option maxRecDepth 100000 in
set_option maxHeartbeats 4000000 in
theorem bsearch_any (ns : List ByteArray) (A : Option Addr) (c B : Nat) (s : ByteArray) (w : World) (h : Reads w B A (ns.map Value.string)) (hl : ns.length ≤ 8796093022208) (hr : Rise ns) :
    Calls Tryd.prog 91 #[.slice A ns.length c, .string s] w (FoundOut ns s w) := by
  obtain ⟨n, hn⟩ : ∃ n, n = ns.length := ⟨_, rfl⟩
  rw [← hn] at hl
  rw [← hn]
  have HX := Lib.hid h
  have HR := Lib.hid hr
  have HN := Lib.hid hn
  clear h hr hn
  go_enter Tryd.func91, Tryd.ntmps91
  go_wp2_with fail
  go_loop [7, 8] (fun a b => ∃ lo hi : Nat, lo ≤ hi ∧ hi ≤ n ∧ a = .int .i64 lo ∧ b = .int .i64 hi ∧ Hid (∀ (j : Nat) (a : ByteArray), j < lo → ns[j]? = some a → Op.bytesLess a.toList s.toList = true) ∧ Hid (∀ (j : Nat) (a : ByteArray), hi ≤ j → ns[j]? = some a → Op.bytesLess a.toList s.toList = false)) (fun a b => (intOf b).toNat - (intOf a).toNat)
  case atStart => exact ⟨0, n, by omega, Nat.le_refl _, rfl, rfl, Lib.hid (fun j a hj => by omega), Lib.hid (fun j a hj ha => by have := (List.getElem?_eq_some_iff.1 ha).1; have := HN.out; omega)⟩
  case round =>
    obtain ⟨lo, hi, h1, h2, rfl, rfl, H1, H2⟩ := hrel
    by_cases hlt : lo < hi
    · obtain ⟨m, hm⟩ : ∃ m, m = (lo + hi) / 2 := ⟨_, rfl⟩
      have hmlo : lo ≤ m := by omega
      have hmhi : m < hi := by omega
      have hmi : ((lo : Int) + (hi : Int)) / 2 = (m : Int) := by omega
      obtain ⟨a, ha⟩ : ∃ a, ns[m]? = some a := ⟨_, List.getElem?_eq_getElem (by have := HN.out; omega)⟩
      obtain ⟨ad, hA, _, x0⟩ := reads_name HX.out ha
      have HM := Lib.hid hmi
      have HAA := Lib.hid ha
      rw [hA]
      have hmn : (m : Int) < (n : Int) := by omega
      have hm0 : (0 : Int) ≤ (m : Int) := by omega
      clear hm ha
      cases hc : Op.bytesLess a.toList s.toList
      · have H2' := Lib.hid (show ∀ (j : Nat) (b : ByteArray), m ≤ j → ns[j]? = some b → Op.bytesLess b.toList s.toList = false from fun j b hj hb => by
          rcases Nat.lt_or_ge m j with h | h
          · cases e : Op.bytesLess b.toList s.toList
            · rfl
            · have := bytesLess_trans (HR.out m j a b h HAA.out hb) e
              rw [hc] at this
              cases this
          · obtain rfl : j = m := by omega
            rw [HAA.out] at hb
            obtain rfl := Option.some.inj hb
            exact hc)
        go_wp2_with fail
        refine (sless_any a s _).mono ?_
        rintro e w' ⟨rfl, rfl⟩
        go_wp2_with fail
        go_round
        case rel => exact ⟨lo, m, hmlo, by omega, rfl, rfl, H1, H2'⟩
        case measure => simp [intOf]; omega
      · have H1' := Lib.hid (show ∀ (j : Nat) (b : ByteArray), j < m + 1 → ns[j]? = some b → Op.bytesLess b.toList s.toList = true from fun j b hj hb => by
          rcases Nat.lt_or_ge j m with h | h
          · exact bytesLess_trans (HR.out j m b a h hb HAA.out) hc
          · obtain rfl : j = m := by omega
            rw [HAA.out] at hb
            obtain rfl := Option.some.inj hb
            exact hc)
        go_wp2_with fail
        refine (sless_any a s _).mono ?_
        rintro e w' ⟨rfl, rfl⟩
        go_wp2_with fail
        go_round
        case rel => exact ⟨m + 1, hi, by omega, by omega, by go_num, rfl, H1', H2⟩
        case measure => simp [intOf]; omega
    · obtain rfl : lo = hi := by omega
      by_cases hln : lo < n
      · obtain ⟨a, ha⟩ : ∃ a, ns[lo]? = some a := ⟨_, List.getElem?_eq_getElem (by have := HN.out; omega)⟩
        obtain ⟨ad, hA, _, x0⟩ := reads_name HX.out ha
        rw [hA]
        have hmn : (lo : Int) < (n : Int) := by omega
        have hm0 : (0 : Int) ≤ (lo : Int) := by omega
        by_cases hxy : a = s
        · have hb := str_beq hxy
          have HF := Lib.hid (show FoundOut ns s w (.returned (.tuple #[.int .i64 (lo : Int), .bool true])) w from ⟨rfl, .inl ⟨lo, by rw [ha, hxy], rfl⟩⟩)
          clear hxy ha
          go_wp2
          go_ret2
          exact HF.out
        · have hb := str_bne hxy
          have HF := Lib.hid (show FoundOut ns s w (.returned (.tuple #[.int .i64 (lo : Int), .bool false])) w from ⟨rfl, .inr ⟨found_no HR.out H1.out H2.out (by rw [ha]; exact fun e => hxy (Option.some.inj e)), lo, rfl⟩⟩)
          clear hxy ha
          go_wp2_with fail
          refine (snan_any a _).mono ?_
          rintro e w' ⟨rfl, rfl⟩
          go_wp2
          go_ret2
          exact HF.out
      · have hln' : ¬ (lo : Int) < (n : Int) := by omega
        have HF := Lib.hid (show FoundOut ns s w (.returned (.tuple #[.int .i64 (lo : Int), .bool false])) w from ⟨rfl, .inr ⟨found_no HR.out H1.out H2.out (by rw [List.getElem?_eq_none (by have := HN.out; omega)]; simp), lo, rfl⟩⟩)
        go_wp2
        go_ret2
        exact HF.out
end Go.Proofs.YtllpicibncdppaaDoor
