/-
  Tokens, plain: blanks, runs, signs, strings, all of a text.
-/
import Derived.Test.YtmjkelmlbihkpaaDoorTyP
import Derived.Test.YtmjkelmlbihkpaaDoorNumberR
import Derived.Lib.IndexMore
import Derived.Lib.IndexLaws
import Derived.Lib.SlTrimSet
set_option linter.unusedVariables false
set_option linter.unusedSimpArgs false
namespace Go.Proofs.YtmjkelmlbihkpaaDoor

/-- A blank byte. -/
def blB (c : UInt8) : Bool := c == 32 || c == 9 || c == 10 || c == 13
/-- How many bytes of blanks and notes stand at the beginning; in a note or not. -/
def blankL : Bool → List UInt8 → Nat
  | _, [] => 0
  | true, c :: r => 1 + blankL (c != 10) r
  | false, c :: r => if blB c then 1 + blankL false r else if c = 45 ∧ r.head? = some 45 then 1 + blankL true r else 0
theorem blankL_le : ∀ (l : List UInt8) (b : Bool), blankL b l ≤ l.length
  | [], b => by cases b <;> simp [blankL]
  | c :: r, true => by rw [blankL, List.length_cons]; have := blankL_le r (c != 10); omega
  | c :: r, false => by
    rw [blankL, List.length_cons]
    have h1 := blankL_le r false
    have h2 := blankL_le r true
    split
    · omega
    · split <;> omega
theorem blank_nil : blankL false [] = 0 := rfl
theorem blank_yes {c : UInt8} {r : List UInt8} (h : blB c = true) : blankL false (c :: r) = 1 + blankL false r := by rw [blankL, if_pos h]
theorem blank_note {r : List UInt8} : blankL false (45 :: 45 :: r) = 2 + blankL true r := by
  rw [blankL, if_neg (by decide), if_pos ⟨rfl, rfl⟩, blankL, show ((45 : UInt8) != 10) = true from rfl]
  omega
theorem blank_no {c : UInt8} {r : List UInt8} (h : blB c = false) (h2 : ¬ (c = 45 ∧ r.head? = some 45)) : blankL false (c :: r) = 0 := by rw [blankL, if_neg (by rw [h]; decide), if_neg h2]
theorem note_end {r : List UInt8} : blankL true (10 :: r) = blankL false (10 :: r) := by
  rw [blankL, blank_yes (by decide)]
  rfl
theorem note_on {c : UInt8} {r : List UInt8} (h : ¬ c = 10) : blankL true (c :: r) = 1 + blankL true r := by
  rw [blankL, show (c != 10) = true from bne_iff_ne.2 h]
/-- Blanks passed over. -/
theorem blank_trim : ∀ l : List UInt8, blankL false l = (l.takeWhile blB).length + blankL false (l.dropWhile blB)
  | [] => rfl
  | c :: r => by
    by_cases h : blB c = true
    · rw [blank_yes h, List.takeWhile_cons_of_pos h, List.dropWhile_cons_of_pos h, blank_trim r, List.length_cons]
      omega
    · rw [List.takeWhile_cons_of_neg h, List.dropWhile_cons_of_neg h]
      simp
/-- A note passed over. -/
theorem note_trim : ∀ l : List UInt8, blankL true l = (l.takeWhile (· != 10)).length + blankL false (l.dropWhile (· != 10))
  | [] => rfl
  | c :: r => by
    by_cases h : c = 10
    · subst h
      rw [List.takeWhile_cons_of_neg (by decide), List.dropWhile_cons_of_neg (by decide), note_end]
      simp
    · have h2 : (c != 10) = true := bne_iff_ne.2 h
      rw [note_on h, List.takeWhile_cons_of_pos (p := fun x => x != 10) h2, List.dropWhile_cons_of_pos (p := fun x => x != 10) h2, note_trim r, List.length_cons]
      omega
theorem drop_while (p : UInt8 → Bool) (l : List UInt8) : l.dropWhile p = l.drop (l.takeWhile p).length := by
  induction l with
  | nil => rfl
  | cons c r ih =>
    by_cases h : p c = true
    · rw [List.takeWhile_cons_of_pos h, List.dropWhile_cons_of_pos h, List.length_cons, List.drop_succ_cons, ih]
    · rw [List.takeWhile_cons_of_neg h, List.dropWhile_cons_of_neg h]; rfl
theorem take_while (p : UInt8 → Bool) (l : List UInt8) : l.takeWhile p = l.take (l.takeWhile p).length := by
  induction l with
  | nil => rfl
  | cons c r ih =>
    by_cases h : p c = true
    · rw [List.takeWhile_cons_of_pos h, List.length_cons, List.take_succ_cons, ← ih]
    · rw [List.takeWhile_cons_of_neg h]; rfl
theorem while_le (p : UInt8 → Bool) (l : List UInt8) : (l.takeWhile p).length ≤ l.length := by
  have := congrArg List.length (List.takeWhile_append_dropWhile (p := p) (l := l))
  rw [List.length_append] at this
  omega
/-- strings.Cut at a line's end: what stands ahead of it. -/
theorem index_nl : ∀ l : List UInt8, (0 ≤ Lib.index l [10] → (Lib.index l [10]).toNat = (l.takeWhile (· != 10)).length) ∧ (¬ 0 ≤ Lib.index l [10] → l.takeWhile (· != 10) = l) ∧ -1 ≤ Lib.index l [10]
  | [] => by simp [Lib.index]
  | c :: r => by
    obtain ⟨h1, h2, h3⟩ := index_nl r
    rw [Lib.index]
    by_cases h : c = 10
    · subst h
      rw [if_pos (by simp [List.isPrefixOf]), List.takeWhile_cons_of_neg (by decide)]
      refine ⟨fun _ => rfl, fun h => by simp at h, by decide⟩
    · have hb : (c != 10) = true := bne_iff_ne.2 h
      rw [if_neg (by simp [List.isPrefixOf]; exact fun e => h e.symm), List.takeWhile_cons_of_pos (p := fun x => x != 10) hb]
      by_cases hi : Lib.index r [10] = -1
      · rw [if_pos (beq_iff_eq.2 hi)]
        refine ⟨fun h => by simp at h, fun _ => by rw [h2 (by omega)], by decide⟩
      · rw [if_neg (by rw [beq_iff_eq]; exact hi)]
        have h0 : 0 ≤ Lib.index r [10] := by omega
        have h4 := h1 h0
        refine ⟨fun _ => by rw [List.length_cons, ← h4]; omega, fun h => by omega, by omega⟩
theorem cut_nl (l : List UInt8) : (Lib.cut l [10]).1 = l.takeWhile (· != 10) := by
  obtain ⟨h1, h2, _⟩ := index_nl l
  unfold Lib.cut
  by_cases h : 0 ≤ Lib.index l [10]
  · rw [if_pos h, h1 h, ← take_while]
  · rw [if_neg h, h2 h]
/-- Parts of names. -/
def partB (c : UInt8) : Bool := partN c.toNat
def runL (l : List UInt8) : Nat := (l.takeWhile partB).length
theorem runL_le (l : List UInt8) : runL l ≤ l.length := while_le _ _
theorem runL_nil : runL [] = 0 := rfl
theorem runL_yes {c : UInt8} {r : List UInt8} (h : partN c.toNat = true) : runL (c :: r) = 1 + runL r := by
  unfold runL
  rw [List.takeWhile_cons_of_pos (show partB c = true from h), List.length_cons]
  omega
theorem runL_no {c : UInt8} {r : List UInt8} (h : partN c.toNat = false) : runL (c :: r) = 0 := by
  unfold runL
  rw [List.takeWhile_cons_of_neg (by unfold partB; rw [h]; decide)]
  rfl
/-- Signs. -/
def signs1 : List UInt8 := [43, 45, 42, 37, 60, 62, 61, 40, 41, 123, 125, 91, 93, 44, 58, 59, 46, 35, 124, 64]
def sign2 (a b : UInt8) : Bool := (a == 61 && b == 61) || (a == 126 && b == 61) || (a == 60 && b == 61) || (a == 62 && b == 61) || (a == 47 && b == 47) || (a == 46 && b == 46) || (a == 45 && b == 62)
def signL : List UInt8 → Nat
  | [] => 0
  | [a] => if signs1.contains a then 1 else 0
  | a :: b :: _ => if sign2 a b then 2 else if signs1.contains a then 1 else 0
theorem signL_le (l : List UInt8) : signL l ≤ l.length ∧ signL l ≤ 2 := by
  match l with
  | [] => simp [signL]
  | [a] => simp only [signL, List.length_cons, List.length_nil]; split <;> omega
  | a :: b :: r => simp only [signL, List.length_cons]; split; omega; split <;> omega
def anyPre : List UInt8 → List UInt8 → Bool
  | [], sub => sub.isEmpty
  | b :: l, sub => sub.isPrefixOf (b :: l) || anyPre l sub
theorem contains_any : ∀ (l sub : List UInt8), Lib.contains l sub = anyPre l sub ∧ -1 ≤ Lib.index l sub
  | [], sub => by
    unfold Lib.contains Lib.index anyPre
    cases h : sub.isEmpty <;> simp
  | b :: l, sub => by
    obtain ⟨h1, h2⟩ := contains_any l sub
    unfold Lib.contains at h1 ⊢
    unfold anyPre
    rw [Lib.index]
    by_cases hp : sub.isPrefixOf (b :: l) = true
    · rw [if_pos hp, hp]; simp
    · rw [if_neg hp, ← h1]
      by_cases hi : Lib.index l sub = -1
      · rw [if_pos (beq_iff_eq.2 hi), hi]; simp [hp]
      · rw [if_neg (by rw [beq_iff_eq]; exact hi)]
        have h0 : 0 ≤ Lib.index l sub := by omega
        refine ⟨?_, by omega⟩
        rw [decide_eq_true (by omega : 0 ≤ Lib.index l sub + 1), decide_eq_true h0, Bool.or_true]
theorem sign1_in (a : UInt8) : Lib.contains [43, 45, 42, 37, 60, 62, 61, 40, 41, 123, 125, 91, 93, 44, 58, 59, 46, 35, 124, 64] [a] = signs1.contains a := by
  rw [(contains_any _ _).1]
  simp only [anyPre, List.isPrefixOf, Bool.and_true, Bool.or_false, List.isEmpty_cons, signs1, List.contains_cons, List.contains_nil]
theorem sign2_in (a b : UInt8) : Lib.contains [32, 61, 61, 32, 126, 61, 32, 60, 61, 32, 62, 61, 32, 47, 47, 32, 46, 46, 32, 45, 62, 32] [32, a, b, 32] = sign2 a b := by
  rw [(contains_any _ _).1]
  simp [anyPre, List.isPrefixOf, sign2, Bool.or_assoc]
/-- What stands next in a string: none: nothing that may be; none within: its end; a byte, and how long it is written. -/
def stepT : List UInt8 → Option (Option (UInt8 × Nat))
  | [] => none
  | c :: r => if c = 34 then some none else if c.toNat < 32 ∨ 126 < c.toNat then none else if ¬ c = 92 then some (some (c, 1)) else
    match r with
    | [] => none
    | d :: r2 => if d = 110 then some (some (10, 2)) else if d = 92 ∨ d = 34 then some (some (d, 2)) else if ¬ d = 120 then none else
      match r2 with
      | e :: f :: _ => if hexV e.toNat < 16 ∧ hexV f.toNat < 16 then some (some (UInt8.ofNat (16 * hexV e.toNat + hexV f.toNat), 4)) else none
      | _ => none
theorem stepT_len {l : List UInt8} {b : UInt8} {n : Nat} (h : stepT l = some (some (b, n))) : 1 ≤ n ∧ n ≤ l.length := by
  match l with
  | [] => simp [stepT] at h
  | c :: r =>
    unfold stepT at h
    simp only at h
    split at h
    · simp at h
    split at h
    · simp at h
    split at h
    · simp at h; simp; omega
    match r with
    | [] => simp at h
    | d :: r2 =>
      simp only at h
      split at h
      · simp at h; simp; omega
      split at h
      · simp at h; simp; omega
      split at h
      · simp at h
      match r2 with
      | [] => simp at h
      | [e] => simp at h
      | e :: f :: r3 =>
        simp only at h
        split at h
        · simp at h; simp; omega
        · simp at h
/-- A string's bytes, and how long it is written, its end with it. -/
def textF : Nat → List UInt8 → Option (List UInt8 × Nat)
  | 0, _ => none
  | f + 1, l => match stepT l with
    | none => none
    | some none => some ([], 1)
    | some (some (b, n)) => (textF f (l.drop n)).map fun p => (b :: p.1, n + p.2)
theorem textF_more : ∀ (f g : Nat) (l : List UInt8), l.length < f → l.length < g → textF f l = textF g l
  | 0, _, l, h, _ => by omega
  | _ + 1, 0, l, _, h => by omega
  | f + 1, g + 1, l, hf, hg => by
    rw [textF, textF]
    match h : stepT l with
    | none => rfl
    | some none => rfl
    | some (some (b, n)) =>
      have h1 := stepT_len h
      have h2 : (l.drop n).length < l.length := by rw [List.length_drop]; omega
      simp only
      rw [textF_more f g (l.drop n) (by omega) (by omega)]
def textL (l : List UInt8) : Option (List UInt8 × Nat) := textF (l.length + 1) l
theorem textL_none {l : List UInt8} (h : stepT l = none) : textL l = none := by unfold textL; rw [textF, h]
theorem textL_end {l : List UInt8} (h : stepT l = some none) : textL l = some ([], 1) := by unfold textL; rw [textF, h]
theorem textL_on {l : List UInt8} {b : UInt8} {n : Nat} (h : stepT l = some (some (b, n))) : textL l = (textL (l.drop n)).map fun p => (b :: p.1, n + p.2) := by
  have h1 := stepT_len h
  have h2 : (l.drop n).length < l.length := by rw [List.length_drop]; omega
  unfold textL
  rw [textF, h]
  simp only
  rw [textF_more l.length ((l.drop n).length + 1) (l.drop n) (by omega) (by omega)]
theorem textF_len : ∀ (f : Nat) (l : List UInt8) (x : List UInt8) (n : Nat), textF f l = some (x, n) → 1 ≤ n ∧ n ≤ l.length ∧ x.length < n
  | 0, l, x, n, h => by simp [textF] at h
  | f + 1, l, x, n, h => by
    rw [textF] at h
    match hs : stepT l with
    | none => rw [hs] at h; simp at h
    | some none =>
      rw [hs] at h
      simp at h
      obtain ⟨rfl, rfl⟩ := h
      refine ⟨by omega, ?_, by simp⟩
      cases l with
      | nil => simp [stepT] at hs
      | cons c r => simp
    | some (some (b, m)) =>
      rw [hs] at h
      simp only [Option.map_eq_some_iff] at h
      obtain ⟨⟨y, k⟩, h1, h2⟩ := h
      simp only [Prod.mk.injEq] at h2
      obtain ⟨rfl, rfl⟩ := h2
      have h3 := textF_len f (l.drop m) y k h1
      have h4 := stepT_len hs
      rw [List.length_drop] at h3
      refine ⟨by omega, by omega, by simp; omega⟩
theorem textL_len {l x : List UInt8} {n : Nat} (h : textL l = some (x, n)) : 1 ≤ n ∧ n ≤ l.length ∧ x.length < n := textF_len _ _ _ _ h
/-- A token: kind, text, its place, the place behind it, a number. -/
structure Tok where
  kind : Int
  text : ByteArray
  a : Nat
  z : Nat
  n : Int
def isWord (s : ByteArray) : Bool := wordsL.any fun x => x.data.toList == s.data.toList
theorem isWord_iff (s : ByteArray) : isWord s = true ↔ s ∈ wordsL := by
  unfold isWord
  rw [List.any_eq_true]
  constructor
  · rintro ⟨x, h1, h2⟩
    have : x = s := ByteArray.ext (Array.toList_inj.1 (beq_iff_eq.1 h2))
    rw [← this]; exact h1
  · exact fun h => ⟨s, h, beq_self_eq_true _⟩
theorem isWord_tb (s : ByteArray) : tb (s ∈ wordsL) = isWord s := by
  cases h : isWord s
  · exact tb_false (fun h2 => by rw [(isWord_iff s).2 h2] at h; cases h)
  · exact tb_true ((isWord_iff s).1 h)
/-- What stands at the beginning: an error's number, or kind, text, number, length. -/
def tokenL (l : List UInt8) : Nat ⊕ (Int × ByteArray × Int × Nat) :=
  match l with
  | [] => .inl 50
  | c :: r =>
    if partN c.toNat = true then
      let s : ByteArray := ⟨(l.take (runL l)).toArray⟩
      if letterN c.toNat = true then .inr (if isWord s then 2 else 1, s, 0, runL l)
      else match numS s with
        | none => .inl 51
        | some k => .inr (3, s, k, runL l)
    else if c = 34 then match textL r with
      | none => .inl 52
      | some (x, n) => .inr (4, ⟨x.toArray⟩, 0, n + 1)
    else if signL l = 0 then .inl 50 else .inr (5, ⟨(l.take (signL l)).toArray⟩, 0, signL l)
theorem tokenL_len {l : List UInt8} {k : Int} {x : ByteArray} {v : Int} {n : Nat} (h : tokenL l = .inr (k, x, v, n)) : 1 ≤ n ∧ n ≤ l.length := by
  match l with
  | [] => simp [tokenL] at h
  | c :: r =>
    rw [tokenL] at h
    by_cases hp : partN c.toNat = true
    · rw [if_pos hp] at h
      have h1 : 1 ≤ runL (c :: r) := by rw [runL_yes hp]; omega
      have h2 := runL_le (c :: r)
      simp only at h
      split at h
      · simp at h; omega
      · split at h
        · simp at h
        · simp at h; omega
    · rw [if_neg hp] at h
      split at h
      · split at h
        · simp at h
        · rename_i hx
          simp at h
          have := textL_len hx
          simp
          omega
      · split at h
        · simp at h
        · have := signL_le (c :: r)
          simp at h
          omega
/-- All tokens from a place on, behind those that were read; or the place of what is wrong, and its error. -/
def scanF : Nat → List UInt8 → Nat → List Tok → (Nat × Nat) ⊕ List Tok
  | 0, _, _, acc => .inr acc
  | f + 1, l, p, acc =>
    if l = [] then .inr (acc ++ [⟨0, ⟨#[]⟩, p, p, 0⟩]) else
    match tokenL l with
    | .inl e => .inl (p, e)
    | .inr (k, x, v, n) => scanF f (l.drop (n + blankL false (l.drop n))) (p + (n + blankL false (l.drop n))) (acc ++ [⟨k, x, p, p + n, v⟩])
theorem scanF_more : ∀ (f g : Nat) (l : List UInt8) (p : Nat) (acc : List Tok), l.length < f → l.length < g → scanF f l p acc = scanF g l p acc
  | 0, _, l, _, _, h, _ => by omega
  | _ + 1, 0, l, _, _, _, h => by omega
  | f + 1, g + 1, l, p, acc, hf, hg => by
    rw [scanF, scanF]
    by_cases hl : l = []
    · rw [if_pos hl, if_pos hl]
    · rw [if_neg hl, if_neg hl]
      match h : tokenL l with
      | .inl e => rfl
      | .inr (k, x, v, n) =>
        have h1 := tokenL_len h
        simp only
        exact scanF_more f g _ _ _ (by rw [List.length_drop]; omega) (by rw [List.length_drop]; omega)
/-- From place p of a text on. -/
def scanAt (L : List UInt8) (p : Nat) (acc : List Tok) : (Nat × Nat) ⊕ List Tok := scanF ((L.drop p).length + 1) (L.drop p) p acc
def scanL (L : List UInt8) : (Nat × Nat) ⊕ List Tok := scanAt L (blankL false L) []
theorem scanAt_end {L : List UInt8} {p : Nat} {acc : List Tok} (h : L.length ≤ p) : scanAt L p acc = .inr (acc ++ [⟨0, ⟨#[]⟩, p, p, 0⟩]) := by
  unfold scanAt
  rw [scanF, if_pos (List.drop_eq_nil_of_le h)]
theorem scanAt_bad {L : List UInt8} {p : Nat} {acc : List Tok} {e : Nat} (h : p < L.length) (ht : tokenL (L.drop p) = .inl e) : scanAt L p acc = .inl (p, e) := by
  unfold scanAt
  rw [scanF, if_neg (fun e => by have := congrArg List.length e; rw [List.length_drop, List.length_nil] at this; omega), ht]
theorem scanAt_on {L : List UInt8} {p : Nat} {acc : List Tok} {k : Int} {x : ByteArray} {v : Int} {n : Nat} (h : p < L.length) (ht : tokenL (L.drop p) = .inr (k, x, v, n)) :
    scanAt L p acc = scanAt L (p + n + blankL false (L.drop (p + n))) (acc ++ [⟨k, x, p, p + n, v⟩]) := by
  have h1 := tokenL_len ht
  unfold scanAt
  rw [scanF, if_neg (fun e => by have := congrArg List.length e; rw [List.length_drop, List.length_nil] at this; omega), ht]
  simp only
  rw [List.drop_drop, List.drop_drop, Nat.add_assoc]
  refine scanF_more _ _ _ _ _ ?_ ?_
  · rw [List.length_drop, List.length_drop]
    rw [List.length_drop] at h1
    omega
  · omega
end Go.Proofs.YtmjkelmlbihkpaaDoor
