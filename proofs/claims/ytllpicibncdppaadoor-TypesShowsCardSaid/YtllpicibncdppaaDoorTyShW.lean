/-
  What the walks of show want: strings.Join of a row that is owned; the names of the kinds; the text of a part.
-/
import Derived.Test.YtllpicibncdppaaDoorTyShL
import Derived.Test.YtllpicibncdppaaDoorTyUnion
import Derived.Test.YtllpicibncdppaaDoorShelf
set_option linter.unusedVariables false
set_option linter.unusedSimpArgs false
namespace Go.Proofs.YtllpicibncdppaaDoor
open Go.ChangeShapes Go.WideShapes Go.ChangeAt Go.RowKit

/-- A text's value. -/
def strV (s : List UInt8) : Value := .string ⟨s.toArray⟩
theorem strV_cat3 (a : ByteArray) (b c : List UInt8) : Value.string ((a ++ ⟨b.toArray⟩) ++ ⟨c.toArray⟩) = strV (a.data.toList ++ (b ++ c)) := by
  unfold strV
  congr 1
  apply ByteArray.ext
  simp [ByteArray.data_append]
/-- The texts of a type's parts. -/
def partV (t : LTy) : List (List UInt8) := partsL t.kind t.ns ((strip t).args.map showT)
theorem partV_len {t : LTy} {n : Nat} (h : Chk (n + 1) (strip t)) : (partV t).length = t.xs.length := by
  unfold partV partsL
  split
  · rename_i h8
    rw [List.length_zipWith, List.length_map, strip_len]
    have h3 := h.1
    rw [strip_names, strip_len, strip_kind] at h3
    unfold HeadOk at h3
    omega
  · rw [List.length_map, strip_len]
theorem partV_not {t x : LTy} {k : Nat} (h8 : ¬ t.kind = 8) (hx : t.xs[k]? = some x) : (partV t)[k]? = some (showT (strip x)) := by
  unfold partV partsL
  rw [if_neg h8, List.getElem?_map, strip_at hx]
  rfl
theorem partV_shape {t x : LTy} {k : Nat} {s : ByteArray} (h8 : t.kind = 8) (hx : t.xs[k]? = some x) (hs : t.ns[k]? = some s) : (partV t)[k]? = some (fieldL s (showT (strip x))) := by
  unfold partV partsL
  rw [if_pos h8, List.getElem?_zipWith, List.getElem?_map, strip_at hx, hs]
  rfl
theorem show_parts (t : LTy) : showT (strip t) = wrapL t.kind (partV t) := by
  rw [showT_eq, strip_kind, strip_names]
  rfl
theorem take_snoc {α : Type} {l : List α} {k : Nat} {x : α} (h : l[k]? = some x) : l.take (k + 1) = l.take k ++ [x] := by
  rw [List.take_add_one, h]
  rfl
/-- strings.Join of a row of the call's own. -/
theorem join_row {w : World} {base n c : Nat} {A : Option Addr} {L : List (List UInt8)} {e : TypeId} (h : w.ownsRow base e 1 (.slice A n c) n (L.map strV)) (sep : ByteArray) (hl : (joinL sep.data.toList L).length ≤ 140737488355328) (hn : n ≤ 1000000000) :
    Calls Tryd.prog 77 #[.slice A n c, .string sep] w (RetB (strV (joinL sep.data.toList L)) w) := by
  have hL : L.length = n := by have := h.1; rw [List.length_map] at this; omega
  rcases Nat.eq_zero_or_pos n with h0 | h0
  · subst h0
    obtain rfl : L = [] := List.eq_nil_of_length_eq_zero hL
    refine (Tryd.strings_Join_none A c sep w).mono ?_
    rintro e w' ⟨rfl, rfl⟩
    exact ⟨rfl, Below.refl _ _⟩
  · obtain ⟨A', c', hv, h1, _, h3⟩ := own_form h
    injection hv with e1 e2 e3
    subst e1 e3
    obtain ⟨gb, h4, h5, h6, _, h7⟩ := h3 h0
    subst h4
    have hm : (L.map (fun s : List UInt8 => (⟨s.toArray⟩ : ByteArray))).map (·.data.toList) = L := by
      rw [List.map_map]
      exact List.map_id'' (fun s => by simp) L
    have hc := Tryd.strings_Join gb 0 c (L.map (fun s => ⟨s.toArray⟩)) sep w (fun j x hx => by
      rw [List.getElem?_map] at hx
      have h8 := h7 j (.string x) (by
        rw [List.getElem?_map]
        cases hj : L[j]? with
        | none => rw [hj] at hx; simp at hx
        | some y => rw [hj] at hx; simp at hx; subst hx; rfl)
      simpa using h8) h6 (by rw [List.length_map]; omega) (by rw [List.length_map]; omega) (by rw [hm, join_joinL]; exact hl)
    rw [List.length_map, hL, hm, join_joinL] at hc
    exact hc
end Go.Proofs.YtllpicibncdppaaDoor
