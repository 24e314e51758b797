/-
 ParseChecks: part 2 of what the claim rests on.
-/
import Derived.Test.YthobobmbileekaaGreatDoorProg
import Derived.Test.YthobobmbileekaaGreatDoorC01
import Derived.Lib.IndexMore
import Derived.Lib.IndexLaws
import Derived.Lib.SlTrimSet
import Derived.Shelf.Strings.Trim
import Derived.Shelf.Small.Utf8
import Derived.Shelf.Small.Strs
import Derived.Shelf.Strconv.Itoa0
import Derived.Shelf.Strconv.Itoa1
import Derived.Shelf.LaysM
import Derived.Shelf.Strconv.Itoa2
import Derived.Shelf.Strconv.Itoa3
import Derived.Shelf.Strconv.Itoa4
import Derived.Shelf.Strings.Search1
import Derived.Shelf.Strings.Search2
import Derived.Shelf.Strings.Search3
import Derived.Shelf.Strings.Cut
import Derived.Shelf.Strings.Shaped
import Derived.Shelf.Strings.Prefix
import Derived.Shelf.Strings.Fields
import Derived.Shelf.Strings.SplitShaped
import Derived.Shelf.Unicode.Latin
import Derived.Shelf.Unicode.Decode
import Derived.Shelf.Strings.Runes
import Derived.Shelf.Strings.AsciiSet
import Derived.Shelf.Unicode.DecodeSlow
import Derived.Shelf.Unicode.DecodeAny
import Derived.Shelf.Unicode.Is16White
import Derived.Shelf.Unicode.IsSpaceAny
import Derived.Shelf.Unicode.Is16WhiteD
import Derived.Shelf.Unicode.IsSpaceAnyD
import Derived.Shelf.Strings.FieldsAny
import Derived.Shelf.Strings.FieldsFuncAny
import Derived.Shelf.Unicode.Is16Any
import Derived.Shelf.Unicode.Is32Any
import Derived.Shelf.Unicode.ExclAny
import Derived.Shelf.Strings.FieldsFuncGrows
import Derived.Lib.SmallJoins
import Derived.Lib.LaidTab
set_option linter.unusedVariables false
set_option linter.unusedSimpArgs false
set_option maxHeartbeats 64000000
set_option maxRecDepth 100000
namespace Go.Proofs.YthobobmbileekaaGreatDoor

inductive Ty where
 | mk (kind : Int) (names : List ByteArray) (args : List Ty)

def Ty.kind : Ty → Int | .mk k _ _ => k
def Ty.names : Ty → List ByteArray | .mk _ n _ => n
def Ty.args : Ty → List Ty | .mk _ _ a => a
theorem Ty.eta (t : Ty) : Ty.mk t.kind t.names t.args = t := by cases t; rfl
theorem Ty.ext {a b : Ty} (h1 : a.kind = b.kind) (h2 : a.names = b.names) (h3 : a.args = b.args) : a = b := by
 rw [← a.eta, ← b.eta, h1, h2, h3]
theorem Ty.ind {P : Ty → Prop} (h : ∀ k n xs, (∀ a ∈ xs, P a) → P (.mk k n xs)) : ∀ t, P t
 | .mk k n xs => h k n xs (fun a _ => Ty.ind h a)

mutual
def nodes : Ty → Nat
 | .mk _ _ xs => nodesL xs + 1
def nodesL : List Ty → Nat
 | [] => 0
 | a :: xs => nodes a + nodesL xs
end
theorem nodes_args (t : Ty) : nodes t = nodesL t.args + 1 := by cases t; rw [nodes]; rfl
theorem nodes_mem {a : Ty} : ∀ {xs : List Ty}, a ∈ xs → nodes a ≤ nodesL xs
 | b :: xs, h => by
  rw [nodesL]
  rcases List.mem_cons.1 h with rfl | h
  ·omega
  ·have := nodes_mem h
   omega
open Classical in
def Flat (k : Int) : Prop := 0 ≤ k ∧ k ≤ 7

def letterN (c : Nat) : Bool := decide (c = 95) || (decide (97 ≤ c) && decide (c ≤ 122)) || (decide (65 ≤ c) && decide (c ≤ 90))
def digitN (c : Nat) : Bool := decide (48 ≤ c) && decide (c ≤ 57)
def partN (c : Nat) : Bool := letterN c || digitN c
def wordsL : List ByteArray := [⟨#[97, 110, 100]⟩, ⟨#[98, 114, 101, 97, 107]⟩, ⟨#[99, 104, 97, 110, 110, 101, 108]⟩, ⟨#[100, 111]⟩, ⟨#[101, 108, 115, 101]⟩, ⟨#[101, 108, 115, 101, 105, 102]⟩, ⟨#[101, 110, 100]⟩, ⟨#[102, 97, 108, 115, 101]⟩, ⟨#[102, 117, 110, 99, 116, 105, 111, 110]⟩, ⟨#[105, 102]⟩, ⟨#[108, 111, 99, 97, 108]⟩, ⟨#[110, 105, 108]⟩, ⟨#[110, 111, 116]⟩, ⟨#[111, 114]⟩, ⟨#[114, 101, 116, 117, 114, 110]⟩, ⟨#[116, 104, 101, 110]⟩, ⟨#[116, 114, 117, 101]⟩, ⟨#[119, 104, 105, 108, 101]⟩]
def NameOk (s : ByteArray) : Prop := s ∉ wordsL ∧ (∀ c ∈ s.data.toList, partN c.toNat = true) ∧ ∃ c, s.data.toList[0]? = some c ∧ letterN c.toNat = true
noncomputable def tb (p : Prop) : Bool := @decide p (Classical.propDecidable p)
theorem tb_true {p : Prop} (h : p) : tb p = true := by unfold tb; exact @decide_eq_true p (Classical.propDecidable p) h
theorem tb_false {p : Prop} (h : ¬ p) : tb p = false := by unfold tb; exact @decide_eq_false p (Classical.propDecidable p) h
theorem tb_congr {p q : Prop} (h : p ↔ q) : tb p = tb q := by rw [propext h]

def HeadOk (k : Int) (n m : Nat) : Prop :=
 (0 ≤ k ∧ k ≤ 6 ∧ n = 0 ∧ m = 0) ∨ (k = 7 ∧ n = 0 ∧ 1 < m) ∨ (k = 8 ∧ n = m) ∨ (k = 9 ∧ n = 0 ∧ 0 < m)
def PartOk (k : Int) (ns : List ByteArray) (xs : List Ty) (i : Nat) (a : Ty) : Prop :=
 (k = 7 → 0 < a.kind ∧ a.kind < 7 ∧ ∀ b, 0 < i → xs[i - 1]? = some b → b.kind < a.kind) ∧
 (k = 8 → Flat a.kind ∧ ∀ s, ns[i]? = some s → NameOk s ∧ ∀ r, 0 < i → ns[i - 1]? = some r → Op.bytesLess r.toList s.toList = true)
def Chk : Nat → Ty → Prop
 | 0, _ => False
 | n + 1, t => HeadOk t.kind t.names.length t.args.length ∧ ∀ (i : Nat) (a : Ty), t.args[i]? = some a → PartOk t.kind t.names t.args i a ∧ Chk n a

theorem Chk.mono : ∀ {n m : Nat} {t : Ty}, Chk n t → n ≤ m → Chk m t
 | 0, _, _, h, _ => h.elim
 | n + 1, 0, _, _, h => by omega
 | n + 1, m + 1, t, h, hm => ⟨h.1, fun i a ha => ⟨(h.2 i a ha).1, (h.2 i a ha).2.mono (by omega)⟩⟩
theorem Chk.part {n : Nat} {t : Ty} (h : Chk (n + 1) t) {i : Nat} {a : Ty} (ha : t.args[i]? = some a) : Chk n a := (h.2 i a ha).2
theorem Chk.part' {n : Nat} {t : Ty} (h : Chk n t) {i : Nat} {a : Ty} (ha : t.args[i]? = some a) : Chk n a := by
 cases n with
 | zero => exact h.elim
 | succ n => exact (h.part ha).mono (by omega)

def May (t : Ty) : Prop := Chk 50 t ∧ nodes t ≤ 10000
theorem May.part {t a : Ty} (h : May t) {i : Nat} (ha : t.args[i]? = some a) : May a :=
 ⟨h.1.part' ha, by have := nodes_mem (List.mem_of_getElem? ha); have := h.2; rw [nodes_args] at this; omega⟩

def Paired (a b : Ty) : Prop := ((a.kind = 8 ∧ a.names = b.names) ∨ a.kind = 9) ∧ a.kind = b.kind ∧ a.args.length = b.args.length
section
variable {h : Bool} {n : Nat} {a b c : Ty}
theorem Chk.cases (hc : Chk n a) : Flat a.kind ∨ a.kind = 8 ∨ a.kind = 9 := by
 cases n with
 | zero => exact hc.elim
 | succ n =>
  rcases hc.1 with ⟨h1, h2, _⟩ | ⟨h1, _⟩ | ⟨h1, _⟩ | ⟨h1, _⟩
  ·exact .inl ⟨h1, by omega⟩
  ·exact .inl ⟨by omega, by omega⟩
  ·exact .inr (.inl h1)
  ·exact .inr (.inr h1)
end
theorem Paired.kind {a b : Ty} (h : Paired a b) : (a.kind = 8 ∨ a.kind = 9) ∧ (b.kind = 8 ∨ b.kind = 9) := by
 obtain ⟨h1, h2, _⟩ := h
 rcases h1 with ⟨h1, _⟩ | h1
 ·exact ⟨.inl h1, .inl (by omega)⟩
 ·exact ⟨.inr h1, .inr (by omega)⟩
theorem Paired.trans {a b c : Ty} (h : Paired a b) (k : Paired b c) : Paired a c := by
 refine ⟨?_, h.2.1.trans k.2.1, h.2.2.trans k.2.2⟩
 rcases h.1 with ⟨h1, h2⟩ | h1
 ·refine .inl ⟨h1, h2.trans ?_⟩
  rcases k.1 with ⟨_, k2⟩ | k1
  ·exact k2
  ·have := h.2.1; omega
 ·exact .inr h1
theorem Paired.symm {a b : Ty} (h : Paired a b) : Paired b a := by
 refine ⟨?_, h.2.1.symm, h.2.2.symm⟩
 rcases h.1 with ⟨h1, h2⟩ | h1
 ·exact .inl ⟨by have := h.2.1; omega, h2.symm⟩
 ·exact .inr (by have := h.2.1; omega)
end Go.Proofs.YthobobmbileekaaGreatDoor
namespace Go.Proofs.YthobobmbileekaaGreatDoor

def blB (c : UInt8) : Bool := c == 32 || c == 9 || c == 10 || c == 13
def blankL : Bool → List UInt8 → Nat
 | _, [] => 0
 | true, c :: r => 1 + blankL (c != 10) r
 | false, c :: r => if blB c then 1 + blankL false r else if c = 45 ∧ r.head? = some 45 then 1 + blankL true r else 0
theorem blankL_le : ∀ (l : List UInt8) (b : Bool), blankL b l ≤ l.length
 | [], b => by cases b <;> simp [blankL]
 | c :: r, true => by rw [blankL, List.length_cons]; have := blankL_le r (c != 10); omega
 | c :: r, false => by
  rw [blankL, List.length_cons]; have h1 := blankL_le r false; have h2 := blankL_le r true
  split
  ·omega
  ·split <;> omega
theorem blank_yes {c : UInt8} {r : List UInt8} (h : blB c = true) : blankL false (c :: r) = 1 + blankL false r := by rw [blankL, if_pos h]
theorem blank_note {r : List UInt8} : blankL false (45 :: 45 :: r) = 2 + blankL true r := by
 rw [blankL, if_neg (by decide), if_pos ⟨rfl, rfl⟩, blankL, show ((45 : UInt8) != 10) = true from rfl]
 omega
theorem blank_no {c : UInt8} {r : List UInt8} (h : blB c = false) (h2 : ¬ (c = 45 ∧ r.head? = some 45)) : blankL false (c :: r) = 0 := by rw [blankL, if_neg (by rw [h]; decide), if_neg h2]
theorem note_end {r : List UInt8} : blankL true (10 :: r) = blankL false (10 :: r) := by
 rw [blankL, blank_yes (by decide)]
 rfl
theorem note_on {c : UInt8} {r : List UInt8} (h : ¬ c = 10) : blankL true (c :: r) = 1 + blankL true r := by
 rw [blankL, show (c != 10) = true from bne_iff_ne.2 h]
theorem blank_trim : ∀ l : List UInt8, blankL false l = (l.takeWhile blB).length + blankL false (l.dropWhile blB)
 | [] => rfl
 | c :: r => by
  by_cases h : blB c = true
  ·rw [blank_yes h, List.takeWhile_cons_of_pos h, List.dropWhile_cons_of_pos h, blank_trim r, List.length_cons]
   omega
  ·rw [List.takeWhile_cons_of_neg h, List.dropWhile_cons_of_neg h]
   simp
theorem note_trim : ∀ l : List UInt8, blankL true l = (l.takeWhile (· != 10)).length + blankL false (l.dropWhile (· != 10))
 | [] => rfl
 | c :: r => by
  by_cases h : c = 10
  ·subst h
   rw [List.takeWhile_cons_of_neg (by decide), List.dropWhile_cons_of_neg (by decide), note_end]; simp
  ·have h2 : (c != 10) = true := bne_iff_ne.2 h
   rw [note_on h, List.takeWhile_cons_of_pos (p := fun x => x != 10) h2, List.dropWhile_cons_of_pos (p := fun x => x != 10) h2, note_trim r, List.length_cons]
   omega
theorem drop_while (p : UInt8 → Bool) (l : List UInt8) : l.dropWhile p = l.drop (l.takeWhile p).length := by
 induction l with
 | nil => rfl
 | cons c r ih =>
  by_cases h : p c = true
  ·rw [List.takeWhile_cons_of_pos h, List.dropWhile_cons_of_pos h, List.length_cons, List.drop_succ_cons, ih]
  ·rw [List.takeWhile_cons_of_neg h, List.dropWhile_cons_of_neg h]; rfl
theorem take_while (p : UInt8 → Bool) (l : List UInt8) : l.takeWhile p = l.take (l.takeWhile p).length := by
 induction l with
 | nil => rfl
 | cons c r ih =>
  by_cases h : p c = true
  ·rw [List.takeWhile_cons_of_pos h, List.length_cons, List.take_succ_cons, ← ih]
  ·rw [List.takeWhile_cons_of_neg h]; rfl
theorem while_le (p : UInt8 → Bool) (l : List UInt8) : (l.takeWhile p).length ≤ l.length := by
 have := congrArg List.length (List.takeWhile_append_dropWhile (p := p) (l := l))
 rw [List.length_append] at this
 omega
theorem index_nl : ∀ l : List UInt8, (0 ≤ Lib.index l [10] → (Lib.index l [10]).toNat = (l.takeWhile (· != 10)).length) ∧ (¬ 0 ≤ Lib.index l [10] → l.takeWhile (· != 10) = l) ∧ -1 ≤ Lib.index l [10]
 | [] => by simp [Lib.index]
 | c :: r => by
  obtain ⟨h1, h2, h3⟩ := index_nl r; rw [Lib.index]; by_cases h : c = 10
  ·subst h
   rw [if_pos (by simp [List.isPrefixOf]), List.takeWhile_cons_of_neg (by decide)]; refine ⟨fun _ => rfl, fun h => by simp at h, by decide⟩
  ·have hb : (c != 10) = true := bne_iff_ne.2 h
   rw [if_neg (by simp [List.isPrefixOf]; exact fun e => h e.symm), List.takeWhile_cons_of_pos (p := fun x => x != 10) hb]; by_cases hi : Lib.index r [10] = -1
   ·rw [if_pos (beq_iff_eq.2 hi)]
    refine ⟨fun h => by simp at h, fun _ => by rw [h2 (by omega)], by decide⟩
   ·rw [if_neg (by rw [beq_iff_eq]; exact hi)]
    have h0 : 0 ≤ Lib.index r [10] := by omega
    have h4 := h1 h0; refine ⟨fun _ => by rw [List.length_cons, ← h4]; omega, fun h => by omega, by omega⟩
theorem cut_nl (l : List UInt8) : (Lib.cut l [10]).1 = l.takeWhile (· != 10) := by
 obtain ⟨h1, h2, _⟩ := index_nl l
 unfold Lib.cut
 by_cases h : 0 ≤ Lib.index l [10]
 ·rw [if_pos h, h1 h, ← take_while]
 ·rw [if_neg h, h2 h]
def partB (c : UInt8) : Bool := partN c.toNat
def runL (l : List UInt8) : Nat := (l.takeWhile partB).length
theorem runL_le (l : List UInt8) : runL l ≤ l.length := while_le _ _
theorem runL_yes {c : UInt8} {r : List UInt8} (h : partN c.toNat = true) : runL (c :: r) = 1 + runL r := by
 unfold runL
 rw [List.takeWhile_cons_of_pos (show partB c = true from h), List.length_cons]
 omega
theorem runL_no {c : UInt8} {r : List UInt8} (h : partN c.toNat = false) : runL (c :: r) = 0 := by
 unfold runL
 rw [List.takeWhile_cons_of_neg (by unfold partB; rw [h]; decide)]
 rfl
def signs1 : List UInt8 := [43, 45, 42, 37, 60, 62, 61, 40, 41, 123, 125, 91, 93, 44, 58, 59, 46, 35, 124, 64]
def sign2 (a b : UInt8) : Bool := (a == 61 && b == 61) || (a == 126 && b == 61) || (a == 60 && b == 61) || (a == 62 && b == 61) || (a == 47 && b == 47) || (a == 46 && b == 46) || (a == 45 && b == 62)
def signL : List UInt8 → Nat
 | [] => 0
 | [a] => if signs1.contains a then 1 else 0
 | a :: b :: _ => if sign2 a b then 2 else if signs1.contains a then 1 else 0
theorem signL_le (l : List UInt8) : signL l ≤ l.length ∧ signL l ≤ 2 := by
 match l with
 | [] => simp [signL]
 | [a] => simp only [signL, List.length_cons, List.length_nil]; split <;> omega
 | a :: b :: r => simp only [signL, List.length_cons]; split; omega; split <;> omega
def anyPre : List UInt8 → List UInt8 → Bool
 | [], sub => sub.isEmpty
 | b :: l, sub => sub.isPrefixOf (b :: l) || anyPre l sub
theorem contains_any : ∀ (l sub : List UInt8), Lib.contains l sub = anyPre l sub ∧ -1 ≤ Lib.index l sub
 | [], sub => by
  unfold Lib.contains Lib.index anyPre
  cases h : sub.isEmpty <;> simp
 | b :: l, sub => by
  obtain ⟨h1, h2⟩ := contains_any l sub; unfold Lib.contains at h1 ⊢; unfold anyPre; rw [Lib.index]; by_cases hp : sub.isPrefixOf (b :: l) = true
  ·rw [if_pos hp, hp]; simp
  ·rw [if_neg hp, ← h1]
   by_cases hi : Lib.index l sub = -1
   ·rw [if_pos (beq_iff_eq.2 hi), hi]; simp [hp]
   ·rw [if_neg (by rw [beq_iff_eq]; exact hi)]
    have h0 : 0 ≤ Lib.index l sub := by omega
    refine ⟨?_, by omega⟩; rw [decide_eq_true (by omega : 0 ≤ Lib.index l sub + 1), decide_eq_true h0, Bool.or_true]
theorem sign1_in (a : UInt8) : Lib.contains [43, 45, 42, 37, 60, 62, 61, 40, 41, 123, 125, 91, 93, 44, 58, 59, 46, 35, 124, 64] [a] = signs1.contains a := by
 rw [(contains_any _ _).1]
 simp only [anyPre, List.isPrefixOf, Bool.and_true, Bool.or_false, List.isEmpty_cons, signs1, List.contains_cons, List.contains_nil]
theorem sign2_in (a b : UInt8) : Lib.contains [32, 61, 61, 32, 126, 61, 32, 60, 61, 32, 62, 61, 32, 47, 47, 32, 46, 46, 32, 45, 62, 32] [32, a, b, 32] = sign2 a b := by
 rw [(contains_any _ _).1]
 simp [anyPre, List.isPrefixOf, sign2, Bool.or_assoc]
def stepT : List UInt8 → Option (Option (UInt8 × Nat))
 | [] => none
 | c :: r => if c = 34 then some none else if c.toNat < 32 ∨ 126 < c.toNat then none else if ¬ c = 92 then some (some (c, 1)) else
  match r with
  | [] => none
  | d :: r2 => if d = 110 then some (some (10, 2)) else if d = 92 ∨ d = 34 then some (some (d, 2)) else if ¬ d = 120 then none else
   match r2 with
   | e :: f :: _ => if hexV e.toNat < 16 ∧ hexV f.toNat < 16 then some (some (UInt8.ofNat (16 * hexV e.toNat + hexV f.toNat), 4)) else none
   | _ => none
theorem stepT_len {l : List UInt8} {b : UInt8} {n : Nat} (h : stepT l = some (some (b, n))) : 1 ≤ n ∧ n ≤ l.length := by
 match l with
 | [] => simp [stepT] at h
 | c :: r =>
  unfold stepT at h; simp only at h
  split at h
  ·simp at h
  split at h
  ·simp at h
  split at h
  ·simp at h; simp; omega
  match r with
  | [] => simp at h
  | d :: r2 =>
   simp only at h
   split at h
   ·simp at h; simp; omega
   split at h
   ·simp at h; simp; omega
   split at h
   ·simp at h
   match r2 with
   | [] => simp at h
   | [e] => simp at h
   | e :: f :: r3 =>
    simp only at h
    split at h
    ·simp at h; simp; omega
    ·simp at h
def textF : Nat → List UInt8 → Option (List UInt8 × Nat)
 | 0, _ => none
 | f + 1, l => match stepT l with
  | none => none
  | some none => some ([], 1)
  | some (some (b, n)) => (textF f (l.drop n)).map fun p => (b :: p.1, n + p.2)
theorem textF_more : ∀ (f g : Nat) (l : List UInt8), l.length < f → l.length < g → textF f l = textF g l
 | 0, _, l, h, _ => by omega
 | _ + 1, 0, l, _, h => by omega
 | f + 1, g + 1, l, hf, hg => by
  rw [textF, textF]
  match h : stepT l with
  | none => rfl
  | some none => rfl
  | some (some (b, n)) =>
   have h1 := stepT_len h; have h2 : (l.drop n).length < l.length := by rw [List.length_drop]; omega
   simp only
   rw [textF_more f g (l.drop n) (by omega) (by omega)]
def textL (l : List UInt8) : Option (List UInt8 × Nat) := textF (l.length + 1) l
theorem textL_none {l : List UInt8} (h : stepT l = none) : textL l = none := by unfold textL; rw [textF, h]
theorem textL_end {l : List UInt8} (h : stepT l = some none) : textL l = some ([], 1) := by unfold textL; rw [textF, h]
theorem textL_on {l : List UInt8} {b : UInt8} {n : Nat} (h : stepT l = some (some (b, n))) : textL l = (textL (l.drop n)).map fun p => (b :: p.1, n + p.2) := by
 have h1 := stepT_len h
 have h2 : (l.drop n).length < l.length := by rw [List.length_drop]; omega
 unfold textL
 rw [textF, h]
 simp only
 rw [textF_more l.length ((l.drop n).length + 1) (l.drop n) (by omega) (by omega)]
theorem textF_len : ∀ (f : Nat) (l : List UInt8) (x : List UInt8) (n : Nat), textF f l = some (x, n) → 1 ≤ n ∧ n ≤ l.length ∧ x.length < n
 | 0, l, x, n, h => by simp [textF] at h
 | f + 1, l, x, n, h => by
  rw [textF] at h
  match hs : stepT l with
  | none => rw [hs] at h; simp at h
  | some none =>
   rw [hs] at h; simp at h
   obtain ⟨rfl, rfl⟩ := h; refine ⟨by omega, ?_, by simp⟩
   cases l with
   | nil => simp [stepT] at hs
   | cons c r => simp
  | some (some (b, m)) =>
   rw [hs] at h; simp only [Option.map_eq_some_iff] at h
   obtain ⟨⟨y, k⟩, h1, h2⟩ := h; simp only [Prod.mk.injEq] at h2
   obtain ⟨rfl, rfl⟩ := h2; have h3 := textF_len f (l.drop m) y k h1; have h4 := stepT_len hs; rw [List.length_drop] at h3; refine ⟨by omega, by omega, by simp; omega⟩
theorem textL_len {l x : List UInt8} {n : Nat} (h : textL l = some (x, n)) : 1 ≤ n ∧ n ≤ l.length ∧ x.length < n := textF_len _ _ _ _ h
structure Tok where
 kind : Int
 text : ByteArray
 a : Nat
 z : Nat
 n : Int
def isWord (s : ByteArray) : Bool := wordsL.any fun x => x.data.toList == s.data.toList
theorem isWord_iff (s : ByteArray) : isWord s = true ↔ s ∈ wordsL := by
 unfold isWord
 rw [List.any_eq_true]
 constructor
 ·rintro ⟨x, h1, h2⟩
  have : x = s := ByteArray.ext (Array.toList_inj.1 (beq_iff_eq.1 h2)); rw [← this]; exact h1
 ·exact fun h => ⟨s, h, beq_self_eq_true _⟩
theorem isWord_tb (s : ByteArray) : tb (s ∈ wordsL) = isWord s := by
 cases h : isWord s
 ·exact tb_false (fun h2 => by rw [(isWord_iff s).2 h2] at h; cases h)
 ·exact tb_true ((isWord_iff s).1 h)
def tokenL (l : List UInt8) : Nat ⊕ (Int × ByteArray × Int × Nat) :=
 match l with
 | [] => .inl 50
 | c :: r =>
  if partN c.toNat = true then
   let s : ByteArray := ⟨(l.take (runL l)).toArray⟩
   if letterN c.toNat = true then .inr (if isWord s then 2 else 1, s, 0, runL l)
   else match numS s with
    | none => .inl 51
    | some k => .inr (3, s, k, runL l)
  else if c = 34 then match textL r with
   | none => .inl 52
   | some (x, n) => .inr (4, ⟨x.toArray⟩, 0, n + 1)
  else if signL l = 0 then .inl 50 else .inr (5, ⟨(l.take (signL l)).toArray⟩, 0, signL l)
theorem tokenL_len {l : List UInt8} {k : Int} {x : ByteArray} {v : Int} {n : Nat} (h : tokenL l = .inr (k, x, v, n)) : 1 ≤ n ∧ n ≤ l.length := by
 match l with
 | [] => simp [tokenL] at h
 | c :: r =>
  rw [tokenL] at h; by_cases hp : partN c.toNat = true
  ·rw [if_pos hp] at h
   have h1 : 1 ≤ runL (c :: r) := by rw [runL_yes hp]; omega
   have h2 := runL_le (c :: r); simp only at h
   split at h
   ·simp at h; omega
   ·split at h
    ·simp at h
    ·simp at h; omega
  ·rw [if_neg hp] at h
   split at h
   ·split at h
    ·simp at h
    ·rename_i hx
     simp at h
     have := textL_len hx; simp
     omega
   ·split at h
    ·simp at h
    ·have := signL_le (c :: r)
     simp at h
     omega
def scanF : Nat → List UInt8 → Nat → List Tok → (Nat × Nat) ⊕ List Tok
 | 0, _, _, acc => .inr acc
 | f + 1, l, p, acc =>
  if l = [] then .inr (acc ++ [⟨0, ⟨#[]⟩, p, p, 0⟩]) else
  match tokenL l with
  | .inl e => .inl (p, e)
  | .inr (k, x, v, n) => scanF f (l.drop (n + blankL false (l.drop n))) (p + (n + blankL false (l.drop n))) (acc ++ [⟨k, x, p, p + n, v⟩])
theorem scanF_more : ∀ (f g : Nat) (l : List UInt8) (p : Nat) (acc : List Tok), l.length < f → l.length < g → scanF f l p acc = scanF g l p acc
 | 0, _, l, _, _, h, _ => by omega
 | _ + 1, 0, l, _, _, _, h => by omega
 | f + 1, g + 1, l, p, acc, hf, hg => by
  rw [scanF, scanF]; by_cases hl : l = []
  ·rw [if_pos hl, if_pos hl]
  ·rw [if_neg hl, if_neg hl]
   match h : tokenL l with
   | .inl e => rfl
   | .inr (k, x, v, n) =>
    have h1 := tokenL_len h; simp only
    exact scanF_more f g _ _ _ (by rw [List.length_drop]; omega) (by rw [List.length_drop]; omega)
def scanAt (L : List UInt8) (p : Nat) (acc : List Tok) : (Nat × Nat) ⊕ List Tok := scanF ((L.drop p).length + 1) (L.drop p) p acc
def scanL (L : List UInt8) : (Nat × Nat) ⊕ List Tok := scanAt L (blankL false L) []
theorem scanAt_end {L : List UInt8} {p : Nat} {acc : List Tok} (h : L.length ≤ p) : scanAt L p acc = .inr (acc ++ [⟨0, ⟨#[]⟩, p, p, 0⟩]) := by
 unfold scanAt
 rw [scanF, if_pos (List.drop_eq_nil_of_le h)]
theorem scanAt_bad {L : List UInt8} {p : Nat} {acc : List Tok} {e : Nat} (h : p < L.length) (ht : tokenL (L.drop p) = .inl e) : scanAt L p acc = .inl (p, e) := by
 unfold scanAt
 rw [scanF, if_neg (fun e => by have := congrArg List.length e; rw [List.length_drop, List.length_nil] at this; omega), ht]
theorem scanAt_on {L : List UInt8} {p : Nat} {acc : List Tok} {k : Int} {x : ByteArray} {v : Int} {n : Nat} (h : p < L.length) (ht : tokenL (L.drop p) = .inr (k, x, v, n)) :
  scanAt L p acc = scanAt L (p + n + blankL false (L.drop (p + n))) (acc ++ [⟨k, x, p, p + n, v⟩]) := by
 have h1 := tokenL_len ht
 unfold scanAt
 rw [scanF, if_neg (fun e => by have := congrArg List.length e; rw [List.length_drop, List.length_nil] at this; omega), ht]
 simp only
 rw [List.drop_drop, List.drop_drop, Nat.add_assoc]
 refine scanF_more _ _ _ _ _ ?_ ?_
 ·rw [List.length_drop, List.length_drop]
  rw [List.length_drop] at h1
  omega
 ·omega
end Go.Proofs.YthobobmbileekaaGreatDoor
namespace Go.Proofs
open Go.Shelf
def Tryz.lays161_ren : Go.Shelf.Ren := ⟨fun | 161 => 67 | 231 => 87 | 227 => 88 | 233 => 89 | 235 => 90 | 228 => 108 | 197 => 109 | 151 => 110 | 260 => 126 | 152 => 127 | 137 => 140 | 119 => 141 | 224 => 124 | 225 => 123 | 217 => 122 | 266 => 138 | n => n, fun | 9 => 9 | 4 => 4 | 3 => 3 | 5 => 5 | 117 => 110 | 116 => 109 | 0 => 0 | 124 => 113 | 105 => 132 | 21 => 21 | 119 => 86 | 46 => 91 | 139 => 149 | 138 => 148 | n => n, fun | 3 => 4 | 4 => 5 | n => n⟩
theorem Tryz.lays161 : Go.Proofs.Lays.n161 Tryz.prog Tryz.lays161_ren := {
 mixed := by kernel_rfl
 f119 := Tryz.func141.trans (congrArg some (by kernel_rfl))
 f137 := Tryz.func140.trans (congrArg some (by kernel_rfl))
 f151 := Tryz.func110.trans (congrArg some (by kernel_rfl))
 f152 := Tryz.func127.trans (congrArg some (by kernel_rfl))
 f161 := Tryz.func67.trans (congrArg some (by kernel_rfl))
 f197 := Tryz.func109.trans (congrArg some (by kernel_rfl))
 f217 := Tryz.func122.trans (congrArg some (by kernel_rfl))
 f224 := Tryz.func124.trans (congrArg some (by kernel_rfl))
 f225 := Tryz.func123.trans (congrArg some (by kernel_rfl))
 f227 := Tryz.func88.trans (congrArg some (by kernel_rfl))
 f228 := Tryz.func108.trans (congrArg some (by kernel_rfl))
 f231 := Tryz.func87.trans (congrArg some (by kernel_rfl))
 f233 := Tryz.func89.trans (congrArg some (by kernel_rfl))
 f235 := Tryz.func90.trans (congrArg some (by kernel_rfl))
 f260 := Tryz.func126.trans (congrArg some (by kernel_rfl))
 f266 := Tryz.func138.trans (congrArg some (by kernel_rfl))
 t0 := Tryz.underlying0
 a0 := Tryz.isAgg0
 z0 := Tryz.sizeOf0
 v0 := Tryz.zeroValue0
 t3 := Tryz.underlying3
 a3 := Tryz.isAgg3
 z3 := Tryz.sizeOf3
 v3 := Tryz.zeroValue3
 t4 := Tryz.underlying4
 a4 := Tryz.isAgg4
 z4 := Tryz.sizeOf4
 v4 := Tryz.zeroValue4
 t5 := Tryz.underlying5
 a5 := Tryz.isAgg5
 z5 := Tryz.sizeOf5
 v5 := Tryz.zeroValue5
 t9 := Tryz.underlying9
 a9 := Tryz.isAgg9
 z9 := Tryz.sizeOf9
 v9 := Tryz.zeroValue9
 t21 := Tryz.underlying21
 a21 := Tryz.isAgg21
 z21 := Tryz.sizeOf21
 v21 := Tryz.zeroValue21
 t46 := Tryz.underlying91
 a46 := Tryz.isAgg91
 z46 := Tryz.sizeOf91
 v46 := Tryz.zeroValue91
 t105 := Tryz.underlying132
 a105 := Tryz.isAgg132
 z105 := Tryz.sizeOf132
 v105 := Tryz.zeroValue132
 t116 := Tryz.underlying109
 a116 := Tryz.isAgg109
 z116 := Tryz.sizeOf109
 t117 := Tryz.underlying110
 a117 := Tryz.isAgg110
 z117 := Tryz.sizeOf110
 v117 := Tryz.zeroValue110
 t119 := Tryz.underlying86
 a119 := Tryz.isAgg86
 z119 := Tryz.sizeOf86
 t124 := Tryz.underlying113
 a124 := Tryz.isAgg113
 z124 := Tryz.sizeOf113
 v124 := Tryz.zeroValue113
 t138 := Tryz.underlying148
 a138 := Tryz.isAgg148
 z138 := Tryz.sizeOf148
 v138 := Tryz.zeroValue148
 t139 := Tryz.underlying149
 a139 := Tryz.isAgg149
 z139 := Tryz.sizeOf149
 v139 := Tryz.zeroValue149
 g3 := by kernel_rfl
 g4 := by kernel_rfl }
def Tryz.laysM173_ren : Go.Shelf.Ren := ⟨fun | 173 => 58 | 246 => 83 | 283 => 101 | 284 => 102 | 285 => 103 | 286 => 104 | 129 => 118 | 317 => 117 | 318 => 119 | 319 => 120 | 320 => 121 | 337 => 136 | 338 => 137 | n => n, fun | 2 => 2 | 3 => 3 | 9 => 9 | 4 => 4 | 171 => 116 | 0 => 0 | 53 => 83 | 37 => 33 | 5 => 5 | 173 => 119 | 212 => 136 | 51 => 102 | 20 => 20 | 213 => 137 | 46 => 91 | 232 => 150 | 233 => 151 | n => n, fun | 17 => 2 | 18 => 6 | 19 => 7 | n => n⟩
theorem Tryz.laysM173 : Go.Proofs.LaysM.n173 Tryz.prog Tryz.laysM173_ren := {
 mixed := by kernel_rfl
 f129 := Tryz.func118.trans (congrArg some (by kernel_rfl))
 f173 := Tryz.func58.trans (congrArg some (by kernel_rfl))
 f246 := Tryz.func83.trans (congrArg some (by kernel_rfl))
 f283 := Tryz.func101.trans (congrArg some (by kernel_rfl))
 f284 := Tryz.func102.trans (congrArg some (by kernel_rfl))
 f285 := Tryz.func103.trans (congrArg some (by kernel_rfl))
 f286 := Tryz.func104.trans (congrArg some (by kernel_rfl))
 f317 := Tryz.func117.trans (congrArg some (by kernel_rfl))
 f318 := Tryz.func119.trans (congrArg some (by kernel_rfl))
 f319 := Tryz.func120.trans (congrArg some (by kernel_rfl))
 f320 := Tryz.func121.trans (congrArg some (by kernel_rfl))
 f337 := Tryz.func136.trans (congrArg some (by kernel_rfl))
 f338 := Tryz.func137.trans (congrArg some (by kernel_rfl))
 t0 := Tryz.underlying0
 a0 := Tryz.isAgg0
 z0 := Tryz.sizeOf0
 v0 := Tryz.zeroValue0
 t2 := Tryz.underlying2
 a2 := Tryz.isAgg2
 z2 := Tryz.sizeOf2
 v2 := Tryz.zeroValue2
 t3 := Tryz.underlying3
 a3 := Tryz.isAgg3
 z3 := Tryz.sizeOf3
 v3 := Tryz.zeroValue3
 t4 := Tryz.underlying4
 a4 := Tryz.isAgg4
 z4 := Tryz.sizeOf4
 v4 := Tryz.zeroValue4
 t5 := Tryz.underlying5
 a5 := Tryz.isAgg5
 z5 := Tryz.sizeOf5
 v5 := Tryz.zeroValue5
 t9 := Tryz.underlying9
 a9 := Tryz.isAgg9
 z9 := Tryz.sizeOf9
 v9 := Tryz.zeroValue9
 t20 := Tryz.underlying20
 a20 := Tryz.isAgg20
 z20 := Tryz.sizeOf20
 v20 := Tryz.zeroValue20
 t37 := Tryz.underlying33
 a37 := Tryz.isAgg33
 z37 := Tryz.sizeOf33
 v37 := Tryz.zeroValue33
 t46 := Tryz.underlying91
 a46 := Tryz.isAgg91
 z46 := Tryz.sizeOf91
 v46 := Tryz.zeroValue91
 t51 := Tryz.underlying102
 a51 := Tryz.isAgg102
 z51 := Tryz.sizeOf102
 v51 := Tryz.zeroValue102
 t53 := Tryz.underlying83
 a53 := Tryz.isAgg83
 z53 := Tryz.sizeOf83
 v53 := Tryz.zeroValue83
 t171 := Tryz.underlying116
 a171 := Tryz.isAgg116
 z171 := Tryz.sizeOf116
 v171 := Tryz.zeroValue116
 t173 := Tryz.underlying119
 a173 := Tryz.isAgg119
 z173 := Tryz.sizeOf119
 v173 := Tryz.zeroValue119
 t212 := Tryz.underlying136
 a212 := Tryz.isAgg136
 z212 := Tryz.sizeOf136
 v212 := Tryz.zeroValue136
 t213 := Tryz.underlying137
 a213 := Tryz.isAgg137
 z213 := Tryz.sizeOf137
 t232 := Tryz.underlying150
 a232 := Tryz.isAgg150
 z232 := Tryz.sizeOf150
 v232 := Tryz.zeroValue150
 t233 := Tryz.underlying151
 a233 := Tryz.isAgg151
 z233 := Tryz.sizeOf151
 v233 := Tryz.zeroValue151
 g17 := by kernel_rfl
 g18 := by kernel_rfl
 g19 := by kernel_rfl
 i0 := by kernel_rfl
 i2 := by kernel_rfl
 i3 := by kernel_rfl
 i4 := by kernel_rfl
 i5 := by kernel_rfl
 i9 := by kernel_rfl
 i20 := by kernel_rfl
 i37 := by kernel_rfl
 i46 := by kernel_rfl
 i51 := by kernel_rfl
 i53 := by kernel_rfl
 i171 := by kernel_rfl
 i173 := by kernel_rfl
 i212 := by kernel_rfl
 i232 := by kernel_rfl
 i233 := by kernel_rfl
 m17 := by kernel_rfl
 m18 := by kernel_rfl
 m19 := by kernel_rfl }
open Go.RowKit Go.Sort Go.Lib in
theorem Tryz.strconv_FormatInt_10 (n : Int) (h0 : -9223372036854775808 ≤ n) (h1 : n ≤ 9223372036854775807) (w : World) (htab : Lib.TabIs Tryz.prog w "internal/strconv.uint64pow10" .u64 Lib.pow10Tab) :
  Calls Tryz.prog 58 #[.int .i64 n, .int .i64 10] w fun e w' => e = .returned (.string ⟨(Lib.itoa n).toArray⟩) ∧ ∃ k os, w' = grow (w.drewN k) os := Any.strconv_FormatInt_10 Tryz.laysM173 n h0 h1 w htab
def Tryz.lays144_ren : Go.Shelf.Ren := ⟨fun | 144 => 66 | 143 => 86 | 219 => 107 | 217 => 122 | 225 => 123 | 224 => 124 | 267 => 125 | 266 => 138 | 314 => 139 | n => n, fun | 9 => 9 | 4 => 4 | 3 => 3 | 5 => 5 | 46 => 91 | 146 => 145 | 51 => 102 | n => n, fun | 1 => 3 | n => n⟩
theorem Tryz.lays144 : Go.Proofs.Lays.n144 Tryz.prog Tryz.lays144_ren := {
 mixed := by kernel_rfl
 f143 := Tryz.func86.trans (congrArg some (by kernel_rfl))
 f144 := Tryz.func66.trans (congrArg some (by kernel_rfl))
 f217 := Tryz.func122.trans (congrArg some (by kernel_rfl))
 f219 := Tryz.func107.trans (congrArg some (by kernel_rfl))
 f224 := Tryz.func124.trans (congrArg some (by kernel_rfl))
 f225 := Tryz.func123.trans (congrArg some (by kernel_rfl))
 f266 := Tryz.func138.trans (congrArg some (by kernel_rfl))
 f267 := Tryz.func125.trans (congrArg some (by kernel_rfl))
 f314 := Tryz.func139.trans (congrArg some (by kernel_rfl))
 t3 := Tryz.underlying3
 a3 := Tryz.isAgg3
 z3 := Tryz.sizeOf3
 v3 := Tryz.zeroValue3
 t4 := Tryz.underlying4
 a4 := Tryz.isAgg4
 z4 := Tryz.sizeOf4
 v4 := Tryz.zeroValue4
 t5 := Tryz.underlying5
 a5 := Tryz.isAgg5
 z5 := Tryz.sizeOf5
 v5 := Tryz.zeroValue5
 t9 := Tryz.underlying9
 a9 := Tryz.isAgg9
 z9 := Tryz.sizeOf9
 v9 := Tryz.zeroValue9
 t46 := Tryz.underlying91
 a46 := Tryz.isAgg91
 z46 := Tryz.sizeOf91
 v46 := Tryz.zeroValue91
 t51 := Tryz.underlying102
 a51 := Tryz.isAgg102
 z51 := Tryz.sizeOf102
 v51 := Tryz.zeroValue102
 t146 := Tryz.underlying145
 a146 := Tryz.isAgg145
 z146 := Tryz.sizeOf145
 v146 := Tryz.zeroValue145
 g1 := by kernel_rfl }
open Go.RowKit Go.Lib in
theorem Tryz.strings_Contains (s sub : ByteArray) (m : Int) (w : World) (hs : s.size < 4294967281) (hm : w.cell? ⟨3, 0, none⟩ = some (.int .i64 m)) :
  Calls Tryz.prog 66 #[.string s, .string sub] w fun e w' => e = .returned (.bool (Lib.contains s.data.toList sub.data.toList)) ∧ w' = w := Any.strings_Contains Tryz.lays144 s sub m w hs hm
def Tryz.lays145_ren : Go.Shelf.Ren := ⟨fun | 145 => 69 | 220 => 92 | 219 => 107 | 217 => 122 | 225 => 123 | 224 => 124 | 267 => 125 | 266 => 138 | 314 => 139 | n => n, fun | 9 => 9 | 4 => 4 | 59 => 94 | 3 => 3 | 5 => 5 | 46 => 91 | 146 => 145 | 51 => 102 | n => n, fun | 1 => 3 | n => n⟩
theorem Tryz.lays145 : Go.Proofs.Lays.n145 Tryz.prog Tryz.lays145_ren := {
 mixed := by kernel_rfl
 f145 := Tryz.func69.trans (congrArg some (by kernel_rfl))
 f217 := Tryz.func122.trans (congrArg some (by kernel_rfl))
 f219 := Tryz.func107.trans (congrArg some (by kernel_rfl))
 f220 := Tryz.func92.trans (congrArg some (by kernel_rfl))
 f224 := Tryz.func124.trans (congrArg some (by kernel_rfl))
 f225 := Tryz.func123.trans (congrArg some (by kernel_rfl))
 f266 := Tryz.func138.trans (congrArg some (by kernel_rfl))
 f267 := Tryz.func125.trans (congrArg some (by kernel_rfl))
 f314 := Tryz.func139.trans (congrArg some (by kernel_rfl))
 t3 := Tryz.underlying3
 a3 := Tryz.isAgg3
 z3 := Tryz.sizeOf3
 v3 := Tryz.zeroValue3
 t4 := Tryz.underlying4
 a4 := Tryz.isAgg4
 z4 := Tryz.sizeOf4
 v4 := Tryz.zeroValue4
 t5 := Tryz.underlying5
 a5 := Tryz.isAgg5
 z5 := Tryz.sizeOf5
 v5 := Tryz.zeroValue5
 t9 := Tryz.underlying9
 a9 := Tryz.isAgg9
 z9 := Tryz.sizeOf9
 v9 := Tryz.zeroValue9
 t46 := Tryz.underlying91
 a46 := Tryz.isAgg91
 z46 := Tryz.sizeOf91
 v46 := Tryz.zeroValue91
 t51 := Tryz.underlying102
 a51 := Tryz.isAgg102
 z51 := Tryz.sizeOf102
 v51 := Tryz.zeroValue102
 t59 := Tryz.underlying94
 a59 := Tryz.isAgg94
 z59 := Tryz.sizeOf94
 v59 := Tryz.zeroValue94
 t146 := Tryz.underlying145
 a146 := Tryz.isAgg145
 z146 := Tryz.sizeOf145
 v146 := Tryz.zeroValue145
 g1 := by kernel_rfl }
open Go.RowKit Go.Lib in
theorem Tryz.strings_Cut (s sep : ByteArray) (m : Int) (w : World) (hs : s.size < 4294967281) (hm : w.cell? ⟨3, 0, none⟩ = some (.int .i64 m)) :
  Calls Tryz.prog 69 #[.string s, .string sep] w fun e w' => e = .returned (.tuple #[.string ⟨(Lib.cut s.data.toList sep.data.toList).1.toArray⟩, .string ⟨(Lib.cut s.data.toList sep.data.toList).2.1.toArray⟩, .bool (Lib.cut s.data.toList sep.data.toList).2.2]) ∧ ∃ n, w' = w.drewN n := Any.strings_Cut Tryz.lays145 s sep m w hs hm
def Tryz.laysM219_ren : Go.Shelf.Ren := ⟨fun | 219 => 107 | 217 => 122 | 225 => 123 | 224 => 124 | 267 => 125 | 266 => 138 | 314 => 139 | n => n, fun | 9 => 9 | 3 => 3 | 4 => 4 | 5 => 5 | 46 => 91 | 146 => 145 | 51 => 102 | n => n, fun | 1 => 3 | n => n⟩
theorem Tryz.laysM219 : Go.Proofs.LaysM.n219 Tryz.prog Tryz.laysM219_ren := {
 mixed := by kernel_rfl
 f217 := Tryz.func122.trans (congrArg some (by kernel_rfl))
 f219 := Tryz.func107.trans (congrArg some (by kernel_rfl))
 f224 := Tryz.func124.trans (congrArg some (by kernel_rfl))
 f225 := Tryz.func123.trans (congrArg some (by kernel_rfl))
 f266 := Tryz.func138.trans (congrArg some (by kernel_rfl))
 f267 := Tryz.func125.trans (congrArg some (by kernel_rfl))
 f314 := Tryz.func139.trans (congrArg some (by kernel_rfl))
 t3 := Tryz.underlying3
 a3 := Tryz.isAgg3
 z3 := Tryz.sizeOf3
 v3 := Tryz.zeroValue3
 t4 := Tryz.underlying4
 a4 := Tryz.isAgg4
 z4 := Tryz.sizeOf4
 v4 := Tryz.zeroValue4
 t5 := Tryz.underlying5
 a5 := Tryz.isAgg5
 z5 := Tryz.sizeOf5
 v5 := Tryz.zeroValue5
 t9 := Tryz.underlying9
 a9 := Tryz.isAgg9
 z9 := Tryz.sizeOf9
 v9 := Tryz.zeroValue9
 t46 := Tryz.underlying91
 a46 := Tryz.isAgg91
 z46 := Tryz.sizeOf91
 v46 := Tryz.zeroValue91
 t51 := Tryz.underlying102
 a51 := Tryz.isAgg102
 z51 := Tryz.sizeOf102
 v51 := Tryz.zeroValue102
 t146 := Tryz.underlying145
 a146 := Tryz.isAgg145
 z146 := Tryz.sizeOf145
 v146 := Tryz.zeroValue145
 g1 := by kernel_rfl
 i3 := by kernel_rfl
 i4 := by kernel_rfl
 i5 := by kernel_rfl
 i9 := by kernel_rfl
 i46 := by kernel_rfl
 i51 := by kernel_rfl
 i146 := by kernel_rfl
 m1 := by kernel_rfl
 s1_3 := fun w h => Go.Proofs.cell_of_shapedOpen_int (zero := #[.int .i64 0]) (t := 3) h (of_decide_eq_true (by kernel_rfl)) (by kernel_rfl) rfl (by kernel_rfl) (by kernel_rfl) Tryz.underlying3 }
def Tryz.lays99_ren : Go.Shelf.Ren := ⟨fun | 99 => 68 | 206 => 91 | n => n, fun | 9 => 9 | 4 => 4 | 3 => 3 | n => n, fun | n => n⟩
theorem Tryz.lays99 : Go.Proofs.Lays.n99 Tryz.prog Tryz.lays99_ren := {
 mixed := by kernel_rfl
 f99 := Tryz.func68.trans (congrArg some (by kernel_rfl))
 f206 := Tryz.func91.trans (congrArg some (by kernel_rfl))
 t3 := Tryz.underlying3
 a3 := Tryz.isAgg3
 z3 := Tryz.sizeOf3
 v3 := Tryz.zeroValue3
 t4 := Tryz.underlying4
 a4 := Tryz.isAgg4
 z4 := Tryz.sizeOf4
 v4 := Tryz.zeroValue4
 t9 := Tryz.underlying9
 a9 := Tryz.isAgg9
 z9 := Tryz.sizeOf9
 v9 := Tryz.zeroValue9 }
open Go.RowKit Go.Lib in
theorem Tryz.strings_HasPrefix (s p : ByteArray) (w : World) :
  Calls Tryz.prog 68 #[.string s, .string p] w fun e w' => e = .returned (.bool (Lib.hasPrefix s.data.toList p.data.toList)) ∧ w' = w := Any.strings_HasPrefix Tryz.lays99 s p w
def Tryz.lays157_ren : Go.Shelf.Ren := ⟨fun | 157 => 35 | 229 => 59 | 199 => 60 | 261 => 84 | 311 => 105 | 312 => 106 | n => n, fun | 9 => 9 | 31 => 43 | 3 => 3 | 5 => 5 | 4 => 4 | 119 => 86 | 0 => 0 | 40 => 88 | 152 => 99 | 21 => 21 | 154 => 101 | 51 => 102 | 141 => 104 | 196 => 124 | 193 => 121 | 198 => 127 | 49 => 125 | 194 => 122 | 201 => 130 | 226 => 139 | 46 => 91 | 227 => 140 | n => n, fun | 0 => 0 | 6 => 1 | n => n⟩
theorem Tryz.lays157 : Go.Proofs.Lays.n157 Tryz.prog Tryz.lays157_ren := {
 mixed := by kernel_rfl
 f157 := Tryz.func35.trans (congrArg some (by kernel_rfl))
 f199 := Tryz.func60.trans (congrArg some (by kernel_rfl))
 f229 := Tryz.func59.trans (congrArg some (by kernel_rfl))
 f261 := Tryz.func84.trans (congrArg some (by kernel_rfl))
 f311 := Tryz.func105.trans (congrArg some (by kernel_rfl))
 f312 := Tryz.func106.trans (congrArg some (by kernel_rfl))
 t0 := Tryz.underlying0
 a0 := Tryz.isAgg0
 z0 := Tryz.sizeOf0
 v0 := Tryz.zeroValue0
 t3 := Tryz.underlying3
 a3 := Tryz.isAgg3
 z3 := Tryz.sizeOf3
 v3 := Tryz.zeroValue3
 t4 := Tryz.underlying4
 a4 := Tryz.isAgg4
 z4 := Tryz.sizeOf4
 v4 := Tryz.zeroValue4
 t5 := Tryz.underlying5
 a5 := Tryz.isAgg5
 z5 := Tryz.sizeOf5
 v5 := Tryz.zeroValue5
 t9 := Tryz.underlying9
 a9 := Tryz.isAgg9
 z9 := Tryz.sizeOf9
 v9 := Tryz.zeroValue9
 t21 := Tryz.underlying21
 a21 := Tryz.isAgg21
 z21 := Tryz.sizeOf21
 v21 := Tryz.zeroValue21
 t31 := Tryz.underlying43
 a31 := Tryz.isAgg43
 z31 := Tryz.sizeOf43
 v31 := Tryz.zeroValue43
 t40 := Tryz.underlying88
 a40 := Tryz.isAgg88
 z40 := Tryz.sizeOf88
 v40 := Tryz.zeroValue88
 t46 := Tryz.underlying91
 a46 := Tryz.isAgg91
 z46 := Tryz.sizeOf91
 v46 := Tryz.zeroValue91
 t49 := Tryz.underlying125
 a49 := Tryz.isAgg125
 z49 := Tryz.sizeOf125
 v49 := Tryz.zeroValue125
 t51 := Tryz.underlying102
 a51 := Tryz.isAgg102
 z51 := Tryz.sizeOf102
 v51 := Tryz.zeroValue102
 t119 := Tryz.underlying86
 a119 := Tryz.isAgg86
 z119 := Tryz.sizeOf86
 t141 := Tryz.underlying104
 a141 := Tryz.isAgg104
 z141 := Tryz.sizeOf104
 v141 := Tryz.zeroValue104
 t152 := Tryz.underlying99
 a152 := Tryz.isAgg99
 z152 := Tryz.sizeOf99
 v152 := Tryz.zeroValue99
 t154 := Tryz.underlying101
 a154 := Tryz.isAgg101
 z154 := Tryz.sizeOf101
 v154 := Tryz.zeroValue101
 t193 := Tryz.underlying121
 a193 := Tryz.isAgg121
 z193 := Tryz.sizeOf121
 v193 := Tryz.zeroValue121
 t194 := Tryz.underlying122
 a194 := Tryz.isAgg122
 z194 := Tryz.sizeOf122
 v194 := Tryz.zeroValue122
 t196 := Tryz.underlying124
 a196 := Tryz.isAgg124
 z196 := Tryz.sizeOf124
 v196 := Tryz.zeroValue124
 t198 := Tryz.underlying127
 a198 := Tryz.isAgg127
 z198 := Tryz.sizeOf127
 v198 := Tryz.zeroValue127
 t201 := Tryz.underlying130
 a201 := Tryz.isAgg130
 z201 := Tryz.sizeOf130
 v201 := Tryz.zeroValue130
 t226 := Tryz.underlying139
 a226 := Tryz.isAgg139
 z226 := Tryz.sizeOf139
 v226 := Tryz.zeroValue139
 t227 := Tryz.underlying140
 a227 := Tryz.isAgg140
 z227 := Tryz.sizeOf140
 v227 := Tryz.zeroValue140
 g0 := by kernel_rfl
 g6 := by kernel_rfl }
open Go.RowKit Go.Lib in
theorem Tryz.strings_Fields (s : ByteArray) (w : World) (hs : s.size < 4294967281) (hascii : ∀ (j : Nat) b, s.data.toList[j]? = some b → b.toNat < 128) (htab : Lib.TabIs Tryz.prog w "strings.asciiSpace" .u8 Lib.asciiSpaceTab) :
  Calls Tryz.prog 35 #[.string s] w fun e w' =>
   e = .returned (.slice (some ⟨w.heap.size, 0, none⟩) (Lib.fields s.data.toList).length (Lib.fields s.data.toList).length) ∧ w' = w.alloc (.cells ((Lib.fields s.data.toList).map fun l => Value.string ⟨l.toArray⟩).toArray 9) := Any.strings_Fields Tryz.lays157 (by kernel_rfl) (by kernel_rfl) s w hs hascii htab
end Go.Proofs
namespace Go.Proofs.YthobobmbileekaaGreatDoor
open Go.ChangeShapes Go.WideShapes Go.ChangeAt Go.RowKit

theorem below_grow {B : Nat} {w w1 : World} (h : Below B w w1) (hB : B ≤ w1.heap.size) (os : Array Obj) : Below B w (Sort.grow w1 os) := by
 refine ⟨h.os, h.tape, h.output, ?_, fun b hb => ?_⟩
 ·have := h.size
  show w.heap.size ≤ (w1.heap ++ os).size
  simp
  omega
 ·show (w1.heap ++ os)[b]? = _
  rw [Array.getElem?_append_left (by omega)]; exact h.block b hb
theorem g_pow10 : Tryz.prog.globalNamed "internal/strconv.uint64pow10" = some 2 := by kernel_rfl
def Tab (w : World) : Prop := Lib.TabIs Tryz.prog w "internal/strconv.uint64pow10" .u64 Lib.pow10Tab
theorem Tab.below {w w' : World} (h : Tab w) (hb : Below w.heap.size w w') : Tab w' := Joins.tab_stays g_pow10 h hb znr
def numText (n : Int) : ByteArray := ⟨(Lib.itoa n).toArray⟩
theorem nshow_any (n : Int) (w : World) (h0 : -9223372036854775808 ≤ n) (h1 : n ≤ 9223372036854775807) (ht : Tab w) : Calls Tryz.prog 46 #[.int .i64 n] w (RetB (.string (numText n)) w) := by
 go_enter Tryz.func46, Tryz.ntmps46
 go_wp2_with (go_at_call 58; refine (Tryz.strconv_FormatInt_10 n h0 h1 _ ht).mono ?_; rintro e w' ⟨rfl, k, os, rfl⟩)
 go_ret
 exact ⟨rfl, below_grow (show Below _ w (w.drewN k) from ⟨rfl, rfl, rfl, znr, fun _ _ => rfl⟩) znr _⟩
theorem rshow_any (n : Int) (w : World) (h0 : -9223372036854775808 ≤ n) (h1 : n ≤ 9223372036854775807) (ht : Tab w) : Calls Tryz.prog 32 #[.int .i64 n] w (RetB (.string (numText n)) w) := by
 go_enter Tryz.func32, Tryz.ntmps32
 go_wp2_with (go_at_call 58; refine (Tryz.strconv_FormatInt_10 n h0 h1 _ ht).mono ?_; rintro e w' ⟨rfl, k, os, rfl⟩)
 go_ret
 exact ⟨rfl, below_grow (show Below _ w (w.drewN k) from ⟨rfl, rfl, rfl, znr, fun _ _ => rfl⟩) znr _⟩
end Go.Proofs.YthobobmbileekaaGreatDoor
namespace Go.Proofs.YthobobmbileekaaGreatDoor

inductive PT where
 | mk (kind : Int) (text : ByteArray) (a : Nat) (kids : List PT)
namespace PT
def kind : PT → Int | mk k _ _ _ => k
def text : PT → ByteArray | mk _ x _ _ => x
def a : PT → Nat | mk _ _ a _ => a
def kids : PT → List PT | mk _ _ _ l => l
end PT
mutual
def ptS : PT → Nat
 | .mk _ _ _ l => ptsS l + 1
def ptsS : List PT → Nat
 | [] => 0
 | t :: r => ptS t + ptsS r
end
structure Nd where
 kind : Int
 text : ByteArray
 kids : List Nat
 a : Nat
def roots : Nat → List PT → List Nat
 | _, [] => []
 | b, t :: r => (b + ptS t - 1) :: roots (b + ptS t) r
mutual
def flat : Nat → PT → List Nd
 | b, .mk k x a l => flats b l ++ [⟨k, x, roots b l, a⟩]
def flats : Nat → List PT → List Nd
 | _, [] => []
 | b, t :: r => flat b t ++ flats (b + ptS t) r
end
mutual
theorem flat_len : ∀ (b : Nat) (t : PT), (flat b t).length = ptS t
 | b, .mk k x a l => by rw [flat, List.length_append, flats_len b l, ptS]; rfl
theorem flats_len : ∀ (b : Nat) (l : List PT), (flats b l).length = ptsS l
 | _, [] => by simp [flats, ptsS]
 | b, t :: r => by rw [flats, List.length_append, flat_len b t, flats_len _ r, ptsS]
end
theorem roots_len : ∀ (b : Nat) (l : List PT), (roots b l).length = l.length
 | _, [] => rfl
 | b, t :: r => by rw [roots, List.length_cons, roots_len, List.length_cons]
theorem flats_append : ∀ (b : Nat) (l m : List PT), flats b (l ++ m) = flats b l ++ flats (b + ptsS l) m
 | b, [], m => by simp [flats, ptsS]
 | b, t :: r, m => by rw [List.cons_append, flats, flats_append (b + ptS t) r m, flats, List.append_assoc, ptsS, Nat.add_assoc]
theorem roots_append : ∀ (b : Nat) (l m : List PT), roots b (l ++ m) = roots b l ++ roots (b + ptsS l) m
 | b, [], m => by simp [roots, ptsS]
 | b, t :: r, m => by rw [List.cons_append, roots, roots_append (b + ptS t) r m, roots, List.cons_append, ptsS, Nat.add_assoc]
theorem ptsS_append : ∀ (l m : List PT), ptsS (l ++ m) = ptsS l + ptsS m
 | [], m => by simp [ptsS]
 | t :: r, m => by rw [List.cons_append, ptsS, ptsS_append r m, ptsS, Nat.add_assoc]
theorem ptS_pos : ∀ t : PT, 1 ≤ ptS t
 | .mk _ _ _ l => by rw [ptS]; omega
theorem flats_one (b : Nat) (t : PT) : flats b [t] = flat b t := by simp [flats]
theorem roots_one (b : Nat) (t : PT) : roots b [t] = [b + ptS t - 1] := rfl
theorem ptsS_one (t : PT) : ptsS [t] = ptS t := by simp [ptsS]

def tk (T : List Tok) (i : Nat) : Tok := (T[i]?).getD ⟨0, ⟨#[]⟩, 0, 0, 0⟩
def isAny (t : Tok) (l : List ByteArray) : Bool := decide (t.kind = 5 ∨ t.kind = 2) && l.any fun s => decide (t.text = s)
def inB (s : ByteArray) (l : List ByteArray) : Bool := l.any fun x => decide (s = x)
theorem inB_iff {s : ByteArray} {l : List ByteArray} : inB s l = true ↔ s ∈ l := by
 unfold inB
 rw [List.any_eq_true]
 exact ⟨fun ⟨x, h1, h2⟩ => by rw [of_decide_eq_true h2]; exact h1, fun h => ⟨s, h, decide_eq_true rfl⟩⟩
def builtinL (s : ByteArray) : Option Nat :=
 if inB s [⟨#[114, 101, 97, 100]⟩, ⟨#[112, 99, 97, 108, 108]⟩, ⟨#[101, 114, 114, 111, 114]⟩, ⟨#[116, 121, 112, 101]⟩, ⟨#[99, 114, 101, 97, 116, 101]⟩, ⟨#[121, 105, 101, 108, 100]⟩, ⟨#[115, 116, 97, 116, 117, 115]⟩] = true then some 1 else if inB s [⟨#[119, 114, 105, 116, 101]⟩, ⟨#[107, 101, 121]⟩, ⟨#[114, 101, 115, 117, 109, 101]⟩] = true then some 2 else none
def rankL (s : ByteArray) : Nat :=
 if inB s [⟨#[111, 114]⟩] = true then 1 else if inB s [⟨#[97, 110, 100]⟩] = true then 2 else if inB s [⟨#[61, 61]⟩, ⟨#[126, 61]⟩, ⟨#[60]⟩, ⟨#[60, 61]⟩, ⟨#[62]⟩, ⟨#[62, 61]⟩] = true then 3 else if inB s [⟨#[46, 46]⟩] = true then 4 else if inB s [⟨#[43]⟩, ⟨#[45]⟩] = true then 5 else if inB s [⟨#[42]⟩, ⟨#[47, 47]⟩, ⟨#[37]⟩] = true then 6 else 0
def baseL (s : ByteArray) : Bool := Lib.contains (⟨#[32, 97, 110, 121, 32, 98, 111, 111, 108, 32, 105, 110, 116, 32, 115, 116, 114, 105, 110, 103, 32, 116, 97, 98, 108, 101, 32, 116, 104, 114, 101, 97, 100, 32]⟩ : ByteArray).data.toList ((⟨#[32]⟩ ++ s ++ ⟨#[32]⟩ : ByteArray)).data.toList
inductive Item where
 | exp | kind | param | field
inductive N1 where
 | block | ended | maybe (is : Bool) | stat | whileB (p : Nat) | cond (p : Nat) | simple (p : Nat) | colon (bound : Bool)
 | body (p : Nat) | param | chain (r : Nat) | chainL (r : Nat) (x : PT) | exp | unary | suffixed | suffixedL (x : PT) | index | paren
 | prim | name (t : Tok) | table (p : Nat) | kind | kindF (p : Nat) | one | shape (p : Nat) | field (seen : List ByteArray)
inductive NL where
 | stats (last : Bool) (acc : List PT) | until (e : ByteArray) (it : Item) (acc : List PT) | args (p : Nat) | entries (acc : List PT) | ones (acc : List PT)
inductive Res (α : Type) where
 | bad (a e : Nat)
 | ok (x : α) (i : Nat)
def Item.nt (acc : List PT) : Item → N1
 | .exp => .exp
 | .kind => .kind
 | .param => .param
 | .field => .field (acc.map PT.text)
structure Rec where
 one : N1 → Nat → Nat → Option (Res PT)
 many : NL → Nat → Nat → Option (Res (List PT))
def Res.then {α β : Type} (r : Option (Res α)) (k : α → Nat → Option (Res β)) : Option (Res β) :=
 match r with
 | none => none
 | some (.bad a e) => some (.bad a e)
 | some (.ok x i) => k x i
def need {α : Type} (T : List Tok) (s : ByteArray) (i : Nat) (k : Nat → Option (Res α)) : Option (Res α) := if isAny (tk T i) [s] then k (i + 1) else some (.bad (tk T i).a 70)
def token {α : Type} (T : List Tok) (kd : Int) (i : Nat) (k : Tok → Nat → Option (Res α)) : Option (Res α) := if (tk T i).kind = kd then k (tk T i) (i + 1) else some (.bad (tk T i).a 70)
def variableL {α : Type} (T : List Tok) (i : Nat) (k : Tok → Nat → Option (Res α)) : Option (Res α) := token T 1 i fun t j => if (builtinL t.text).isSome then some (.bad t.a 70) else k t j
def deeper {α : Type} (p o : Nat) (k : Nat → Option (Res α)) : Option (Res α) := if 150 < o + 1 then some (.bad p 61) else k (o + 1)
def maskL {α : Type} (T : List Tok) (i : Nat) (k : ByteArray → Nat → Option (Res α)) : Option (Res α) :=
 if isAny (tk T i) [⟨#[45]⟩] then token T 3 (i + 1) fun t j => if t.n < 0 then some (.bad t.a 70) else k (numText (-t.n)) j
 else token T 3 i fun t j => k (numText t.n) j
def overL (T : List Tok) (i : Nat) : Bool := decide ((tk T i).kind = 0) || isAny (tk T i) [⟨#[101, 110, 100]⟩, ⟨#[101, 108, 115, 101]⟩, ⟨#[101, 108, 115, 101, 105, 102]⟩]
def noneT : PT := .mk 12 ⟨#[]⟩ 0 []
def one1 {α : Type} (x : α) (i : Nat) : Option (Res α) := some (.ok x i)
def bad1 {α : Type} (T : List Tok) (i : Nat) : Option (Res α) := some (.bad (tk T i).a 70)

def stepBlock (T : List Tok) (R : Rec) (o i : Nat) : Option (Res PT) := Res.then (R.many (.stats false []) o i) fun l j => one1 (.mk 3 ⟨#[]⟩ (tk T i).a l) j
def stepStats (T : List Tok) (R : Rec) (last : Bool) (acc : List PT) (o i : Nat) : Option (Res (List PT)) :=
 if last || overL T i then one1 acc i else Res.then (R.one .stat o i) fun t j => R.many (.stats (isAny (tk T i) [⟨#[114, 101, 116, 117, 114, 110]⟩, ⟨#[98, 114, 101, 97, 107]⟩]) (acc ++ [t])) o j
def stepEnded (T : List Tok) (R : Rec) (o i : Nat) : Option (Res PT) := Res.then (R.one .block o i) fun b j => need T ⟨#[101, 110, 100]⟩ j fun j => one1 b j
def stepMaybe (R : Rec) (is : Bool) (o i : Nat) : Option (Res PT) := if is then R.one .exp o i else one1 noneT i
def stepStat (T : List Tok) (R : Rec) (o i : Nat) : Option (Res PT) :=
 let p := (tk T i).a
 if isAny (tk T i) [⟨#[98, 114, 101, 97, 107]⟩] then one1 (.mk 11 ⟨#[]⟩ p []) (i + 1)
 else if isAny (tk T i) [⟨#[114, 101, 116, 117, 114, 110]⟩] then Res.then (R.one (.maybe (!overL T (i + 1))) o (i + 1)) fun e j => one1 (.mk 10 ⟨#[]⟩ p [e]) j
 else if isAny (tk T i) [⟨#[108, 111, 99, 97, 108]⟩] then variableL T (i + 1) fun v j => Res.then (R.one (.colon true) o j) fun t j =>
  if isAny (tk T j) [⟨#[61]⟩] then Res.then (R.one (.maybe true) o (j + 1)) fun e j => one1 (.mk 4 v.text p [t, e]) j
  else Res.then (R.one (.maybe false) o j) fun e j => one1 (.mk 4 v.text p [t, e]) j
 else if isAny (tk T i) [⟨#[102, 117, 110, 99, 116, 105, 111, 110]⟩] then variableL T (i + 1) fun v j => deeper p o fun o => Res.then (R.one (.body p) o j) fun f j => one1 (.mk 5 v.text p [f]) j
 else if isAny (tk T i) [⟨#[105, 102]⟩] then deeper p o fun o => R.one (.cond p) o (i + 1)
 else if isAny (tk T i) [⟨#[119, 104, 105, 108, 101]⟩] then deeper p o fun o => R.one (.whileB p) o (i + 1)
 else if (tk T i).kind ≠ 1 then bad1 T i
 else R.one (.simple p) o i
def stepWhile (T : List Tok) (R : Rec) (p o i : Nat) : Option (Res PT) := Res.then (R.one .exp o i) fun e j => need T ⟨#[100, 111]⟩ j fun j => Res.then (R.one .ended o j) fun b j => one1 (.mk 9 ⟨#[]⟩ p [e, b]) j
def stepCond (T : List Tok) (R : Rec) (p o i : Nat) : Option (Res PT) := Res.then (R.one .exp o i) fun e j => need T ⟨#[116, 104, 101, 110]⟩ j fun j => Res.then (R.one .block o j) fun b j =>
 let here := (tk T j).a
 if isAny (tk T j) [⟨#[101, 108, 115, 101, 105, 102]⟩] then deeper here o fun o => Res.then (R.one (.cond here) o (j + 1)) fun n j => one1 (.mk 8 ⟨#[]⟩ p [e, b, .mk 3 ⟨#[]⟩ here [n]]) j
 else if isAny (tk T j) [⟨#[101, 108, 115, 101]⟩] then Res.then (R.one .ended o (j + 1)) fun x j => one1 (.mk 8 ⟨#[]⟩ p [e, b, x]) j
 else need T ⟨#[101, 110, 100]⟩ j fun j => one1 (.mk 8 ⟨#[]⟩ p [e, b, noneT]) j
def stepSimple (T : List Tok) (R : Rec) (p o i : Nat) : Option (Res PT) := Res.then (R.one .suffixed o i) fun x j =>
 if isAny (tk T j) [⟨#[61]⟩] then
  if x.kind ≠ 17 ∧ x.kind ≠ 18 ∧ x.kind ≠ 19 then bad1 T j
  else Res.then (R.one .exp o (j + 1)) fun e j2 => one1 (.mk 6 ⟨#[]⟩ (tk T j).a [x, e]) j2
 else if x.kind ≠ 20 ∧ x.kind ≠ 21 then some (.bad p 70)
 else one1 (.mk 7 ⟨#[]⟩ x.a [x]) j
def stepColon (T : List Tok) (R : Rec) (bound : Bool) (o i : Nat) : Option (Res PT) :=
 if isAny (tk T i) [⟨#[58]⟩] then Res.then (R.one .kind o (i + 1)) fun t j =>
  if bound && isAny (tk T j) [⟨#[64]⟩] then maskL T (j + 1) fun m j2 => one1 (.mk 36 m (tk T j).a [t]) j2
  else one1 t j
 else one1 noneT i
def stepBody (T : List Tok) (R : Rec) (p o i : Nat) : Option (Res PT) := need T ⟨#[40]⟩ i fun j => Res.then (R.many (.until ⟨#[41]⟩ .param []) o j) fun l j => Res.then (R.one (.colon false) o j) fun k j => Res.then (R.one .ended o j) fun b j => one1 (.mk 22 ⟨#[]⟩ p (l ++ [k, b])) j
def stepParam (T : List Tok) (R : Rec) (o i : Nat) : Option (Res PT) := variableL T i fun t j => Res.then (R.one (.colon true) o j) fun k j => one1 (.mk 23 t.text t.a [k]) j
def stepUntil (T : List Tok) (R : Rec) (e : ByteArray) (it : Item) (acc : List PT) (o i : Nat) : Option (Res (List PT)) :=
 if isAny (tk T i) [e] then one1 acc (i + 1)
 else if acc = [] then Res.then (R.one (it.nt acc) o i) fun t j => R.many (.until e it (acc ++ [t])) o j
 else need T ⟨#[44]⟩ i fun i => Res.then (R.one (it.nt acc) o i) fun t j => R.many (.until e it (acc ++ [t])) o j
def stepChain (R : Rec) (r o i : Nat) : Option (Res PT) := if 6 < r then R.one .unary o i else Res.then (R.one (.chain (r + 1)) o i) fun x j => R.one (.chainL r x) o j
def opT (t : Tok) (x y : PT) : PT := if t.text = ⟨#[97, 110, 100]⟩ then .mk 29 ⟨#[]⟩ t.a [x, y] else if t.text = ⟨#[111, 114]⟩ then .mk 30 ⟨#[]⟩ t.a [x, y] else .mk 27 t.text t.a [x, y]
def stepChainL (T : List Tok) (R : Rec) (r : Nat) (x : PT) (o i : Nat) : Option (Res PT) :=
 let t := tk T i
 if (t.kind = 5 ∨ t.kind = 2) ∧ rankL t.text = r then Res.then (R.one (.chain (r + 1)) o (i + 1)) fun y j => R.one (.chainL r (opT t x y)) o j
 else one1 x i
def stepUnary (T : List Tok) (R : Rec) (o i : Nat) : Option (Res PT) :=
 let t := tk T i
 if isAny t [⟨#[110, 111, 116]⟩, ⟨#[45]⟩, ⟨#[35]⟩] then deeper t.a o fun o => Res.then (R.one .unary o (i + 1)) fun x j => one1 (.mk 28 t.text t.a [x]) j
 else R.one .suffixed o i
def stepSuffixed (R : Rec) (o i : Nat) : Option (Res PT) := Res.then (R.one .prim o i) fun x j => R.one (.suffixedL x) o j
def stepSuffixedL (T : List Tok) (R : Rec) (x : PT) (o i : Nat) : Option (Res PT) :=
 let p := (tk T i).a
 if isAny (tk T i) [⟨#[46]⟩] then token T 1 (i + 1) fun t j => R.one (.suffixedL (.mk 18 t.text p [x])) o j
 else if isAny (tk T i) [⟨#[91]⟩] then deeper p o fun o2 => Res.then (R.one .index o2 (i + 1)) fun k j => R.one (.suffixedL (.mk 19 ⟨#[]⟩ p [x, k])) o j
 else if isAny (tk T i) [⟨#[40]⟩] then Res.then (R.many (.args p) o (i + 1)) fun l j => R.one (.suffixedL (.mk 20 ⟨#[]⟩ p (x :: l))) o j
 else one1 x i
def stepIndex (T : List Tok) (R : Rec) (o i : Nat) : Option (Res PT) := Res.then (R.one .exp o i) fun e j => need T ⟨#[93]⟩ j fun j => one1 e j
def stepParen (T : List Tok) (R : Rec) (o i : Nat) : Option (Res PT) := Res.then (R.one .exp o i) fun e j => need T ⟨#[41]⟩ j fun j => one1 e j
def stepArgs (T : List Tok) (R : Rec) (p o i : Nat) : Option (Res (List PT)) := deeper p o fun o => R.many (.until ⟨#[41]⟩ .exp []) o i
def stepPrim (T : List Tok) (R : Rec) (o i : Nat) : Option (Res PT) :=
 let t := tk T i
 if t.kind = 3 ∧ 0 ≤ t.n then one1 (.mk 15 (numText t.n) t.a []) (i + 1)
 else if t.kind = 4 then one1 (.mk 16 t.text t.a []) (i + 1)
 else if t.kind = 1 then R.one (.name t) o (i + 1)
 else if isAny t [⟨#[110, 105, 108]⟩] then one1 (.mk 13 ⟨#[]⟩ t.a []) (i + 1)
 else if isAny t [⟨#[116, 114, 117, 101]⟩, ⟨#[102, 97, 108, 115, 101]⟩] then one1 (.mk 14 t.text t.a []) (i + 1)
 else if isAny t [⟨#[102, 117, 110, 99, 116, 105, 111, 110]⟩] then deeper t.a o fun o => R.one (.body t.a) o (i + 1)
 else if isAny t [⟨#[40]⟩] then deeper t.a o fun o => R.one .paren o (i + 1)
 else if isAny t [⟨#[123]⟩] then deeper t.a o fun o => R.one (.table t.a) o (i + 1)
 else some (.bad t.a 70)
def chanT (x : PT) : Bool := decide (x.kind = 15) && decide (x.text.size ≤ 1) && (Op.bytesLess x.text.toList (⟨#[55]⟩ : ByteArray).toList || x.text.toList == (⟨#[55]⟩ : ByteArray).toList)
def headC : List PT → Bool
 | [] => false
 | x :: _ => chanT x
def stepName (T : List Tok) (R : Rec) (t : Tok) (o i : Nat) : Option (Res PT) :=
 match builtinL t.text with
 | none => one1 (.mk 17 t.text t.a []) i
 | some n => if isAny (tk T i) [⟨#[40]⟩] then Res.then (R.many (.args (tk T i).a) o (i + 1)) fun l j =>
   if l.length ≠ n then some (.bad t.a 70)
   else if (t.text = ⟨#[114, 101, 97, 100]⟩ ∨ t.text = ⟨#[119, 114, 105, 116, 101]⟩) ∧ ¬ headC l = true then some (.bad t.a 70)
   else one1 (.mk 21 t.text t.a l) j
  else some (.bad t.a 70)
def stepEntries (T : List Tok) (R : Rec) (acc : List PT) (o i : Nat) : Option (Res (List PT)) :=
 let more (acc : List PT) (j : Nat) : Option (Res (List PT)) := if isAny (tk T j) [⟨#[44]⟩] || isAny (tk T j) [⟨#[59]⟩] then R.many (.entries acc) o (j + 1) else one1 acc j
 if isAny (tk T i) [⟨#[125]⟩] then one1 acc i
 else if (tk T i).kind = 1 ∧ (tk T (i + 1)).kind = 5 ∧ (tk T (i + 1)).text = ⟨#[61]⟩ then Res.then (R.one .exp o (i + 2)) fun e j => more (acc ++ [.mk 25 (tk T i).text (tk T i).a [e]]) j
 else Res.then (R.one .exp o i) fun e j => more (acc ++ [.mk 26 ⟨#[]⟩ (tk T i).a [e]]) j
def stepTable (T : List Tok) (R : Rec) (p o i : Nat) : Option (Res PT) := Res.then (R.many (.entries []) o i) fun l j => need T ⟨#[125]⟩ j fun j => one1 (.mk 24 ⟨#[]⟩ p l) j
def stepKind (T : List Tok) (R : Rec) (o i : Nat) : Option (Res PT) :=
 let p := (tk T i).a
 if isAny (tk T i) [⟨#[40]⟩] then deeper p o fun o => R.one (.kindF p) o (i + 1)
 else Res.then (R.one .one o i) fun t j => Res.then (R.many (.ones [t]) o j) fun l j => match l with
  | [x] => one1 x j
  | l => one1 (.mk 35 ⟨#[]⟩ p l) j
def stepOnes (T : List Tok) (R : Rec) (acc : List PT) (o i : Nat) : Option (Res (List PT)) :=
 if isAny (tk T i) [⟨#[124]⟩] then Res.then (R.one .one o (i + 1)) fun t j => R.many (.ones (acc ++ [t])) o j else one1 acc i
def stepKindF (T : List Tok) (R : Rec) (p o i : Nat) : Option (Res PT) := Res.then (R.many (.until ⟨#[41]⟩ .kind []) o i) fun l j => need T ⟨#[45, 62]⟩ j fun j => Res.then (R.one .kind o j) fun k j => one1 (.mk 34 ⟨#[]⟩ p (l ++ [k])) j
def stepOne (T : List Tok) (R : Rec) (o i : Nat) : Option (Res PT) :=
 let t := tk T i
 if isAny t [⟨#[110, 105, 108]⟩] then one1 (.mk 31 t.text t.a []) (i + 1)
 else if isAny t [⟨#[123]⟩] then deeper t.a o fun o => R.one (.shape t.a) o (i + 1)
 else if t.kind = 1 ∧ baseL t.text = true then one1 (.mk 31 t.text t.a []) (i + 1)
 else some (.bad t.a 70)
def stepShape (T : List Tok) (R : Rec) (p o i : Nat) : Option (Res PT) := Res.then (R.many (.until ⟨#[125]⟩ .field []) o i) fun l j => one1 (.mk 32 ⟨#[]⟩ p l) j
def stepField (T : List Tok) (R : Rec) (seen : List ByteArray) (o i : Nat) : Option (Res PT) := token T 1 i fun t j => if inB t.text seen = true then some (.bad t.a 70) else need T ⟨#[58]⟩ j fun j => Res.then (R.one .kind o j) fun k j => one1 (.mk 33 t.text t.a [k]) j
def step1 (T : List Tok) (R : Rec) : N1 → Nat → Nat → Option (Res PT)
 | .block => stepBlock T R
 | .ended => stepEnded T R
 | .maybe b => stepMaybe R b
 | .stat => stepStat T R
 | .whileB p => stepWhile T R p
 | .cond p => stepCond T R p
 | .simple p => stepSimple T R p
 | .colon b => stepColon T R b
 | .body p => stepBody T R p
 | .param => stepParam T R
 | .chain r => stepChain R r
 | .chainL r x => stepChainL T R r x
 | .exp => R.one (.chain 1)
 | .unary => stepUnary T R
 | .suffixed => stepSuffixed R
 | .suffixedL x => stepSuffixedL T R x
 | .index => stepIndex T R
 | .paren => stepParen T R
 | .prim => stepPrim T R
 | .name t => stepName T R t
 | .table p => stepTable T R p
 | .kind => stepKind T R
 | .kindF p => stepKindF T R p
 | .one => stepOne T R
 | .shape p => stepShape T R p
 | .field l => stepField T R l
def stepL (T : List Tok) (R : Rec) : NL → Nat → Nat → Option (Res (List PT))
 | .stats b acc => stepStats T R b acc
 | .until e it acc => stepUntil T R e it acc
 | .args p => stepArgs T R p
 | .entries acc => stepEntries T R acc
 | .ones acc => stepOnes T R acc
def parF (T : List Tok) : Nat → Rec
 | 0 => ⟨fun _ _ _ => none, fun _ _ _ => none⟩
 | f + 1 => ⟨step1 T (parF T f), stepL T (parF T f)⟩
def chansF (T : List Tok) : Nat → List Int → List PT → Nat → Option (Res (List PT))
 | 0, _, _, _ => none
 | f + 1, seen, acc, i =>
  if isAny (tk T i) [⟨#[99, 104, 97, 110, 110, 101, 108]⟩] then token T 3 (i + 1) fun t j => if t.n < 0 ∨ 7 < t.n ∨ t.n ∈ seen then some (.bad t.a 70) else need T ⟨#[61]⟩ j fun j => maskL T j fun m j =>
   chansF T f (seen ++ [t.n]) (acc ++ [.mk 2 (numText t.n ++ ⟨#[32]⟩ ++ m) (tk T i).a []]) j
  else one1 acc i
def progF (T : List Tok) (f : Nat) : Option (Res PT) := Res.then (chansF T f [] [] 0) fun l i => Res.then ((parF T f).one .block 0 i) fun b j => token T 0 j fun _ j => one1 (.mk 1 ⟨#[]⟩ 0 (l ++ [b])) j
theorem zS : (ptsS [] = 0) ∧ (∀ (t : PT) (r : List PT), ptsS (t :: r) = ptS t + ptsS r) ∧ (∀ (k : Int) (x : ByteArray) (a : Nat) (l : List PT), ptS (.mk k x a l) = ptsS l + 1) ∧ (noneT = .mk 12 ⟨#[]⟩ 0 []) ∧ (∀ l m : List PT, ptsS (l ++ m) = ptsS l + ptsS m) ∧ (∀ n : Nat, n + 0 = n) ∧ (∀ n : Nat, 0 + n = n) :=
 ⟨by rw [ptsS], fun _ _ => by rw [ptsS], fun _ _ _ _ => by rw [ptS], rfl, ptsS_append, Nat.add_zero, Nat.zero_add⟩
end Go.Proofs.YthobobmbileekaaGreatDoor
namespace Go.Proofs.YthobobmbileekaaGreatDoor

def Sat {α : Type} (N : Prop) (E : Nat → Nat → Prop) (Q : α → Nat → Prop) : Option (Res α) → Prop
 | none => N
 | some (.bad a e) => E a e
 | some (.ok x i) => Q x i
section
variable {α β : Type} {N N' : Prop} {E : Nat → Nat → Prop} {Q Q' : α → Nat → Prop} {Qb : β → Nat → Prop} {r : Option (Res α)}
theorem Sat.mono (h : Sat N E Q r) (hN : N → N') (hQ : ∀ x i, Q x i → Q' x i) : Sat N' E Q' r := by
 match r, h with
 | none, h => exact hN h
 | some (.bad a e), h => exact h
 | some (.ok x i), h => exact hQ x i h
theorem Sat.then {k : α → Nat → Option (Res β)} (h : Sat N' E Q r) (hN : N' → N) (hk : ∀ x i, Q x i → Sat N E Qb (k x i)) : Sat N E Qb (Res.then r k) := by
 match r, h with
 | none, h => exact hN h
 | some (.bad a e), h => exact h
 | some (.ok x i), h => exact hk x i h
theorem Sat.ok {x : α} {i : Nat} (h : Q x i) : Sat N E Q (one1 x i) := h
theorem Sat.ite {c : Prop} [Decidable c] {s : Option (Res α)} (h1 : c → Sat N E Q r) (h2 : ¬ c → Sat N E Q s) : Sat N E Q (if c then r else s) := by
 by_cases h : c
 ·rw [if_pos h]; exact h1 h
 ·rw [if_neg h]; exact h2 h
end
structure TokOk (T : List Tok) (M : Nat) : Prop where
 len : 1 ≤ T.length
 last : (tk T (T.length - 1)).kind = 0
 place : ∀ i, (tk T i).a ≤ M
 name : ∀ i, (tk T i).kind = 1 → NameOk (tk T i).text
 num : ∀ i, -9223372036854775808 ≤ (tk T i).n ∧ (tk T i).n ≤ 9223372036854775807
def ErrP (M : Nat) (a e : Nat) : Prop := a ≤ M ∧ (e = 70 ∨ e = 61)
section
variable {T : List Tok} {M : Nat}
theorem tk_lt (h : TokOk T M) {i : Nat} (hi : i < T.length) (hk : (tk T i).kind ≠ 0) : i + 1 < T.length := by
 have := h.last
 rcases Nat.lt_or_ge (i + 1) T.length with h1 | h1
 ·exact h1
 ·rw [show i = T.length - 1 by omega] at hk; exact absurd this hk
theorem isAny_kind {t : Tok} {l : List ByteArray} (h : isAny t l = true) : t.kind ≠ 0 ∧ t.kind ≠ 1 := by
 unfold isAny at h
 rw [Bool.and_eq_true, decide_eq_true_eq] at h
 rcases h.1 with h | h <;> omega
theorem isAny_text {t : Tok} {l : List ByteArray} (h : isAny t l = true) : t.text ∈ l := by
 unfold isAny at h
 rw [Bool.and_eq_true, List.any_eq_true] at h
 obtain ⟨_, x, h1, h2⟩ := h
 rw [of_decide_eq_true h2]
 exact h1
theorem any_lt (h : TokOk T M) {i : Nat} {l : List ByteArray} (hi : i < T.length) (hk : isAny (tk T i) l = true) : i + 1 < T.length := tk_lt h hi (isAny_kind hk).1
variable {α : Type} {N : Prop} {Q : α → Nat → Prop} {i : Nat}
theorem Sat.bad1 (h : TokOk T M) : Sat N (ErrP M) Q (bad1 T i : Option (Res α)) := ⟨h.place i, .inl rfl⟩
theorem Sat.need (h : TokOk T M) (hi : i < T.length) {s : ByteArray} {k : Nat → Option (Res α)} (hk : isAny (tk T i) [s] = true → i + 1 < T.length → Sat N (ErrP M) Q (k (i + 1))) : Sat N (ErrP M) Q (need T s i k) := by
 unfold Go.Proofs.YthobobmbileekaaGreatDoor.need
 exact Sat.ite (fun h1 => hk h1 (any_lt h hi h1)) (fun _ => ⟨h.place i, .inl rfl⟩)
theorem Sat.token (h : TokOk T M) (hi : i < T.length) {kd : Int} (hkd : kd ≠ 0) {k : Tok → Nat → Option (Res α)} (hk : (tk T i).kind = kd → i + 1 < T.length → Sat N (ErrP M) Q (k (tk T i) (i + 1))) : Sat N (ErrP M) Q (token T kd i k) := by
 unfold Go.Proofs.YthobobmbileekaaGreatDoor.token
 exact Sat.ite (fun h1 => hk h1 (tk_lt h hi (by rw [h1]; exact hkd))) (fun _ => ⟨h.place i, .inl rfl⟩)
theorem Sat.variable (h : TokOk T M) (hi : i < T.length) {k : Tok → Nat → Option (Res α)} (hk : (tk T i).kind = 1 → builtinL (tk T i).text = none → i + 1 < T.length → Sat N (ErrP M) Q (k (tk T i) (i + 1))) : Sat N (ErrP M) Q (variableL T i k) := by
 unfold variableL
 refine Sat.token h hi (by decide) fun h1 h2 => Sat.ite (fun _ => ⟨h.place i, .inl rfl⟩) fun h3 => hk h1 ?_ h2
 cases hb : builtinL (tk T i).text with
 | none => rfl
 | some n => rw [hb] at h3; exact absurd rfl h3
theorem Sat.deeper {p o : Nat} (hp : p ≤ M) {k : Nat → Option (Res α)} (hk : o + 1 ≤ 150 → Sat N (ErrP M) Q (k (o + 1))) : Sat N (ErrP M) Q (deeper p o k) := by
 unfold Go.Proofs.YthobobmbileekaaGreatDoor.deeper
 exact Sat.ite (fun _ => ⟨hp, .inr rfl⟩) fun h => hk (by omega)
def MaskT (x : ByteArray) : Prop := ∃ n : Int, -9223372036854775808 ≤ n ∧ n ≤ 9223372036854775807 ∧ x = numText n
theorem Sat.mask (h : TokOk T M) (hi : i < T.length) {k : ByteArray → Nat → Option (Res α)} (hk : ∀ x j, MaskT x → i < j → j < T.length → Sat N (ErrP M) Q (k x j)) : Sat N (ErrP M) Q (maskL T i k) := by
 unfold maskL
 refine Sat.ite (fun h1 => ?_) fun _ => ?_
 ·have h2 := any_lt h hi h1
  refine Sat.token h h2 (by decide) fun h3 h4 => Sat.ite (fun _ => ⟨h.place _, .inl rfl⟩) fun h5 => hk _ _ ⟨_, ?_, ?_, rfl⟩ (by omega) h4
  ·have := (h.num (i + 1)).2; omega
  ·have := (h.num (i + 1)).1; omega
 ·exact Sat.token h hi (by decide) fun h3 h4 => hk _ _ ⟨_, (h.num i).1, (h.num i).2, rfl⟩ (by omega) h4
end
end Go.Proofs.YthobobmbileekaaGreatDoor
