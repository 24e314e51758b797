/-
  The scanner's text: a string as it is written.
-/
import Derived.Test.YtmjkelmlbihkpaaDoorLexS
import Derived.Test.YtmjkelmlbihkpaaDoorQuote
import Derived.Lib.BufferRead
set_option linter.unusedVariables false
set_option linter.unusedSimpArgs false
namespace Go.Proofs.YtmjkelmlbihkpaaDoor
open Go.ChangeShapes Go.WideShapes Go.ChangeAt Go.RowKit

set_option maxRecDepth 100000 in
theorem conv_row {w : World} {base c : Nat} {A : Option Addr} {xs : List UInt8} (h : w.ownsRow base 5 1 (.slice A xs.length c) xs.length (bC xs)) :
    (convert 49 9 (.slice A xs.length c)).run Tryd.prog w = .ok (.string ⟨xs.toArray⟩) w := by
  obtain ⟨A', c', hv, h1, _, h3⟩ := own_form h
  injection hv with e1 e2 e3
  subst e1 e3
  cases A with
  | none =>
    have h0 : xs.length = 0 := by
      rcases Nat.eq_zero_or_pos xs.length with h | h
      · exact h
      · obtain ⟨gb, h4, _⟩ := h3 h
        cases h4
    obtain rfl : xs = [] := List.eq_nil_of_length_eq_zero h0
    exact Lib.run_convert_nil_bytes w 49 9 5 c Tryd.underlying49 Tryd.underlying5 Tryd.underlying9
  | some a =>
    refine run_convert_bytes_back (P := Tryd.prog) w 49 9 5 a c xs Tryd.underlying49 Tryd.underlying5 Tryd.underlying9 (fun j hj => ?_)
    obtain ⟨gb, h4, _, _, _, h7⟩ := h3 (by omega)
    injection h4 with h4
    subst h4
    rw [add_lit0]
    exact h7 j _ (bC_get hj)
theorem tok_text {l r : List UInt8} (hl : l = 34 :: r) : tokenL l = match textL r with
    | none => .inl 52
    | some (x, n) => .inr (4, ⟨x.toArray⟩, 0, n + 1) := by
  subst hl
  rw [tokenL, if_neg (by decide), if_pos rfl]
  rcases textL r with _ | ⟨x, n⟩ <;> rfl
theorem hexO_at {s : ByteArray} {p : Nat} (h : p < s.size) : hexO s p = if hexV s[p].toNat < 16 then some (hexV s[p].toNat) else none := by unfold hexO; rw [byte_at h]
theorem hexO_out {s : ByteArray} {p : Nat} (h : ¬ p < s.size) : hexO s p = none := by unfold hexO; rw [List.getElem?_eq_none (by simp; omega)]
theorem shl4 : ∀ a : Fin 16, (IntKind.u8.wrap ((a.1 : Int) * 2 ^ 4)) = ((16 * a.1 : Nat) : Int) := by decide +kernel
theorem or16 : ∀ (a b : Fin 16), bits .or .u8 ((16 * a.1 : Nat) : Int) (b.1 : Int) = ((16 * a.1 + b.1 : Nat) : Int) := by decide +kernel
/-- What follows in a string, by the bytes at hand. -/
theorem step_end {r : List UInt8} : stepT (34 :: r) = some none := by unfold stepT; simp
theorem step_bad {c : UInt8} {r : List UInt8} (h : c.toNat < 32 ∨ 126 < c.toNat) : stepT (c :: r) = none := by
  unfold stepT
  simp only
  rw [if_neg (by rintro rfl; revert h; decide), if_pos h]
theorem step_byte {c : UInt8} {r : List UInt8} (h1 : ¬ (c.toNat < 32 ∨ 126 < c.toNat)) (h2 : ¬ c = 34) (h3 : ¬ c = 92) : stepT (c :: r) = some (some (c, 1)) := by
  unfold stepT
  simp only
  rw [if_neg h2, if_neg h1, if_pos h3]
theorem step_esc {r : List UInt8} : stepT (92 :: r) = match r with
    | [] => none
    | d :: r2 => if d = 110 then some (some (10, 2)) else if d = 92 ∨ d = 34 then some (some (d, 2)) else if ¬ d = 120 then none else
      match r2 with
      | e :: f :: _ => if hexV e.toNat < 16 ∧ hexV f.toNat < 16 then some (some (UInt8.ofNat (16 * hexV e.toNat + hexV f.toNat), 4)) else none
      | _ => none := by
  rw [stepT.eq_def]
  simp only
  rw [if_neg (by decide), if_neg (by decide), if_neg (by decide)]
  cases r <;> rfl
theorem step_hex {s : ByteArray} {p : Nat} {r : List UInt8} (h : s.data.toList.drop p = 92 :: 120 :: r) : stepT (s.data.toList.drop p) = match hexO s (p + 2), hexO s (p + 3) with
    | some a, some b => some (some (UInt8.ofNat (16 * a + b), 4))
    | _, _ => none := by
  have hlen : s.data.toList.length = s.size := by simp
  have hr : s.data.toList.drop (p + 2) = r := by rw [← List.drop_drop, h]; rfl
  rw [h, step_esc]
  simp only
  rw [if_neg (by decide), if_neg (by decide), if_neg (by decide)]
  by_cases h2 : p + 2 < s.size
  · rw [drop_at h2] at hr
    rw [hexO_at h2]
    by_cases h3 : p + 3 < s.size
    · rw [show p + 2 + 1 = p + 3 from rfl, drop_at h3] at hr
      rw [hexO_at h3, ← hr]
      simp only
      by_cases k1 : hexV s[p + 2].toNat < 16
      · by_cases k2 : hexV s[p + 3].toNat < 16
        · rw [if_pos ⟨k1, k2⟩, if_pos k1, if_pos k2]
        · rw [if_neg (fun h => k2 h.2), if_pos k1, if_neg k2]
      · rw [if_neg (fun h => k1 h.1), if_neg k1]
    · rw [show p + 2 + 1 = p + 3 from rfl, List.drop_eq_nil_of_le (by omega)] at hr
      rw [hexO_out h3, ← hr]
      simp only
      cases (if hexV s[p + 2].toNat < 16 then some (hexV s[p + 2].toNat) else none) <;> rfl
  · rw [List.drop_eq_nil_of_le (by omega)] at hr
    rw [hexO_out h2, ← hr]
theorem text_next {L : List UInt8} {i1 p n pn : Nat} {xs : List UInt8} {bb : UInt8} (h : textL (L.drop i1) = (textL (L.drop p)).map fun q => (xs ++ q.1, (p - i1) + q.2)) (hs : stepT (L.drop p) = some (some (bb, n))) (hi : i1 ≤ p) (hn : pn = p + n) :
    textL (L.drop i1) = (textL (L.drop pn)).map fun q => ((xs ++ [bb]) ++ q.1, (pn - i1) + q.2) := by
  rw [h, textL_on hs, List.drop_drop, Option.map_map, hn]
  congr 1
  funext q
  simp only [Function.comp, List.append_assoc, List.singleton_append]
  rw [show p - i1 + (n + q.2) = p + n - i1 + q.2 by omega]
theorem step_fit {s : ByteArray} {p n : Nat} {bb : UInt8} (h : stepT (s.data.toList.drop p) = some (some (bb, n))) (hp : p ≤ s.size) : 1 ≤ n ∧ p + n ≤ s.size := by
  have h1 := stepT_len h
  rw [List.length_drop] at h1
  have h2 : s.data.toList.length = s.size := by simp
  omega
end Go.Proofs.YtmjkelmlbihkpaaDoor
