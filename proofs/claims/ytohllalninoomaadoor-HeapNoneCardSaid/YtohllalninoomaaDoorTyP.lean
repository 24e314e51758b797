/-
  Types xs plain data: which may be, what goes to what, what says xs much xs what; the laws of these.
-/
import Derived.Test.YtohllalninoomaaDoorMem
set_option linter.unusedVariables false
set_option linter.unusedSimpArgs false
namespace Go.Proofs.YtohllalninoomaaDoor

/-- A type: its kind, its names, its parts. -/
inductive Ty where
  | mk (kind : Int) (names : List ByteArray) (args : List Ty)

def Ty.kind : Ty → Int | .mk k _ _ => k
def Ty.names : Ty → List ByteArray | .mk _ n _ => n
def Ty.args : Ty → List Ty | .mk _ _ a => a
theorem Ty.eta (t : Ty) : Ty.mk t.kind t.names t.args = t := by cases t; rfl
theorem Ty.ext {a b : Ty} (h1 : a.kind = b.kind) (h2 : a.names = b.names) (h3 : a.args = b.args) : a = b := by
  rw [← a.eta, ← b.eta, h1, h2, h3]
theorem Ty.ind {P : Ty → Prop} (h : ∀ k n xs, (∀ a ∈ xs, P a) → P (.mk k n xs)) : ∀ t, P t
  | .mk k n xs => h k n xs (fun a _ => Ty.ind h a)

def anyT : Ty := .mk 0 [] []

mutual
/-- How many types there are in one. -/
def nodes : Ty → Nat
  | .mk _ _ xs => nodesL xs + 1
def nodesL : List Ty → Nat
  | [] => 0
  | a :: xs => nodes a + nodesL xs
end
theorem nodes_args (t : Ty) : nodes t = nodesL t.args + 1 := by cases t; rw [nodes]; rfl
theorem nodes_mem {a : Ty} : ∀ {xs : List Ty}, a ∈ xs → nodes a ≤ nodesL xs
  | b :: xs, h => by
    rw [nodesL]
    rcases List.mem_cons.1 h with rfl | h
    · omega
    · have := nodes_mem h
      omega
theorem nodes_pos (t : Ty) : 0 < nodes t := by rw [nodes_args]; omega
theorem nodesL_len : ∀ xs : List Ty, xs.length ≤ nodesL xs
  | [] => by simp [nodesL]
  | a :: xs => by
    have := nodesL_len xs
    have := nodes_pos a
    simp [nodesL]
    omega
theorem nodesL_take : ∀ (xs : List Ty) (k : Nat) (a : Ty), xs[k]? = some a → nodesL (xs.take (k + 1)) = nodesL (xs.take k) + nodes a
  | [], k, a, h => by simp at h
  | b :: xs, 0, a, h => by simp at h; subst h; simp [nodesL]
  | b :: xs, k + 1, a, h => by
    simp at h
    have := nodesL_take xs k a h
    simp only [List.take_succ_cons, nodesL] at this ⊢
    omega
theorem nodesL_take_le : ∀ (xs : List Ty) (k : Nat), nodesL (xs.take k) ≤ nodesL xs
  | [], k => by simp
  | b :: xs, 0 => by simp [nodesL]
  | b :: xs, k + 1 => by
    have := nodesL_take_le xs k
    simp only [List.take_succ_cons, nodesL]
    omega
theorem nodesL_append : ∀ (xs bs : List Ty), nodesL (xs ++ bs) = nodesL xs + nodesL bs
  | [], bs => by simp [nodesL]
  | a :: xs, bs => by simp [nodesL, nodesL_append xs bs]; omega

open Classical in
/-- Flat: from any to union. -/
def Flat (k : Int) : Prop := 0 ≤ k ∧ k ≤ 7

def letterN (c : Nat) : Bool := decide (c = 95) || (decide (97 ≤ c) && decide (c ≤ 122)) || (decide (65 ≤ c) && decide (c ≤ 90))
def digitN (c : Nat) : Bool := decide (48 ≤ c) && decide (c ≤ 57)
def partN (c : Nat) : Bool := letterN c || digitN c
def wordsL : List ByteArray := [⟨#[97, 110, 100]⟩, ⟨#[98, 114, 101, 97, 107]⟩, ⟨#[99, 104, 97, 110, 110, 101, 108]⟩, ⟨#[100, 111]⟩, ⟨#[101, 108, 115, 101]⟩, ⟨#[101, 108, 115, 101, 105, 102]⟩, ⟨#[101, 110, 100]⟩, ⟨#[102, 97, 108, 115, 101]⟩, ⟨#[102, 117, 110, 99, 116, 105, 111, 110]⟩, ⟨#[105, 102]⟩, ⟨#[108, 111, 99, 97, 108]⟩, ⟨#[110, 105, 108]⟩, ⟨#[110, 111, 116]⟩, ⟨#[111, 114]⟩, ⟨#[114, 101, 116, 117, 114, 110]⟩, ⟨#[116, 104, 101, 110]⟩, ⟨#[116, 114, 117, 101]⟩, ⟨#[119, 104, 105, 108, 101]⟩]
/-- A name. -/
def NameOk (s : ByteArray) : Prop := s ∉ wordsL ∧ (∀ c ∈ s.data.toList, partN c.toNat = true) ∧ ∃ c, s.data.toList[0]? = some c ∧ letterN c.toNat = true
/-- A proposition's truth. -/
noncomputable def tb (p : Prop) : Bool := @decide p (Classical.propDecidable p)
theorem tb_true {p : Prop} (h : p) : tb p = true := by unfold tb; exact @decide_eq_true p (Classical.propDecidable p) h
theorem tb_false {p : Prop} (h : ¬ p) : tb p = false := by unfold tb; exact @decide_eq_false p (Classical.propDecidable p) h
theorem tb_iff {p : Prop} : tb p = true ↔ p := ⟨fun h => by unfold tb at h; exact @of_decide_eq_true p (Classical.propDecidable p) h, tb_true⟩
theorem tb_no {p : Prop} : tb p = false ↔ ¬ p := ⟨fun h k => (by rw [tb_true k] at h; cases h), tb_false⟩
theorem tb_congr {p q : Prop} (h : p ↔ q) : tb p = tb q := by rw [propext h]

/-- What a type's own cells must be: kind, how many names, how many parts. -/
def HeadOk (k : Int) (n m : Nat) : Prop :=
  (0 ≤ k ∧ k ≤ 6 ∧ n = 0 ∧ m = 0) ∨ (k = 7 ∧ n = 0 ∧ 1 < m) ∨ (k = 8 ∧ n = m) ∨ (k = 9 ∧ n = 0 ∧ 0 < m)
/-- What part i must be: of a union; of a shape. -/
def PartOk (k : Int) (ns : List ByteArray) (xs : List Ty) (i : Nat) (a : Ty) : Prop :=
  (k = 7 → 0 < a.kind ∧ a.kind < 7 ∧ ∀ b, 0 < i → xs[i - 1]? = some b → b.kind < a.kind) ∧
  (k = 8 → Flat a.kind ∧ ∀ s, ns[i]? = some s → NameOk s ∧ ∀ r, 0 < i → ns[i - 1]? = some r → Op.bytesLess r.toList s.toList = true)
/-- A type that may be, at most n deep. -/
def Chk : Nat → Ty → Prop
  | 0, _ => False
  | n + 1, t => HeadOk t.kind t.names.length t.args.length ∧ ∀ (i : Nat) (a : Ty), t.args[i]? = some a → PartOk t.kind t.names t.args i a ∧ Chk n a

theorem Chk.mono : ∀ {n m : Nat} {t : Ty}, Chk n t → n ≤ m → Chk m t
  | 0, _, _, h, _ => h.elim
  | n + 1, 0, _, _, h => by omega
  | n + 1, m + 1, t, h, hm => ⟨h.1, fun i a ha => ⟨(h.2 i a ha).1, (h.2 i a ha).2.mono (by omega)⟩⟩
theorem Chk.part {n : Nat} {t : Ty} (h : Chk (n + 1) t) {i : Nat} {a : Ty} (ha : t.args[i]? = some a) : Chk n a := (h.2 i a ha).2
theorem Chk.part' {n : Nat} {t : Ty} (h : Chk n t) {i : Nat} {a : Ty} (ha : t.args[i]? = some a) : Chk n a := by
  cases n with
  | zero => exact h.elim
  | succ n => exact (h.part ha).mono (by omega)

/-- A type that may be: at most 50 deep, at most 10000 types in it. -/
def May (t : Ty) : Prop := Chk 50 t ∧ nodes t ≤ 10000
theorem May.part {t a : Ty} (h : May t) {i : Nat} (ha : t.args[i]? = some a) : May a :=
  ⟨h.1.part' ha, by have := nodes_mem (List.mem_of_getElem? ha); have := h.2; rw [nodes_args] at this; omega⟩

/-- The kinds of the values of a type without parts. -/
def bitsOf (k : Int) : Nat := if k = 0 then 127 else if k = 1 then 1 else if k = 2 then 2 else if k = 3 then 4 else if k = 4 then 8 else if k = 5 then 16 else if k = 6 then 64 else 0
def kindsU : List Ty → Nat
  | [] => 0
  | a :: xs => bitsOf a.kind ||| kindsU xs
def kindsT (t : Ty) : Nat := if t.kind = 7 then kindsU t.args else if t.kind = 8 then 16 else if t.kind = 9 then 32 else bitsOf t.kind

/-- Something is open in it. -/
inductive Loose : Ty → Prop
  | any {t : Ty} : t.kind = 0 → Loose t
  | table {t : Ty} : t.kind = 5 → Loose t
  | part {t a : Ty} : a ∈ t.args → Loose a → Loose t
mutual
def height : Ty → Nat
  | .mk _ _ xs => heightL xs + 1
def heightL : List Ty → Nat
  | [] => 0
  | a :: xs => max (height a) (heightL xs)
end
theorem height_mem {a : Ty} : ∀ {xs : List Ty}, a ∈ xs → height a ≤ heightL xs
  | b :: xs, h => by
    rw [heightL]
    rcases List.mem_cons.1 h with rfl | h
    · exact Nat.le_max_left _ _
    · exact Nat.le_trans (height_mem h) (Nat.le_max_right _ _)
theorem height_args (t : Ty) : height t = heightL t.args + 1 := by cases t; rw [height]; rfl

/-- Shapes' fields, xs they are asked (h: with a cast). -/
def FieldsT (h : Bool) (a b : Ty) : Prop := ∀ (i : Nat) (s : ByteArray) (y : Ty), b.names[i]? = some s → b.args[i]? = some y → ∃ (j : Nat) (x : Ty), a.names[j]? = some s ∧ a.args[j]? = some x ∧ (x = y ∨ (h = true ∧ (x.kind = 0 ∨ y.kind = 0)))
open Classical in
/-- Whether a type may be used xs another one, xs it is asked. -/
noncomputable def Goes (h : Bool) : Nat → Ty → Ty → Prop
  | 0, _, _ => False
  | n + 1, a, b =>
    if b.kind = 0 then True
    else if a.kind = 0 then h = true
    else if Flat a.kind ∧ Flat b.kind then kindsT a ||| kindsT b = kindsT b
    else if a.kind = 5 then h = true ∧ b.kind = 8
    else if a.kind = 8 then (if Flat b.kind then kindsT b &&& 16 = 16 else b.kind = 8 ∧ FieldsT h a b)
    else a.kind = 9 ∧ b.kind = 9 ∧ a.args.length = b.args.length ∧
      (∀ (i : Nat) (x y : Ty), i + 1 < a.args.length → a.args[i]? = some x → b.args[i]? = some y → Goes h n y x) ∧
      (∀ (x y : Ty), a.args[a.args.length - 1]? = some x → b.args[b.args.length - 1]? = some y → Goes h n x y)
noncomputable def Sub (a b : Ty) : Prop := May a ∧ May b ∧ Goes false 50 a b
noncomputable def Ease (a b : Ty) : Prop := May a ∧ May b ∧ Goes true 50 a b

def Paired (a b : Ty) : Prop := ((a.kind = 8 ∧ a.names = b.names) ∨ a.kind = 9) ∧ a.kind = b.kind ∧ a.args.length = b.args.length
/-- Whether a type says at least xs much. -/
def Prec : Nat → Ty → Ty → Prop
  | 0, _, _ => False
  | n + 1, a, b => b.kind = 0 ∨ (b.kind = 5 ∧ a.kind = 8) ∨ a = b ∨ (Paired a b ∧ ∀ (i : Nat) (x y : Ty), a.args[i]? = some x → b.args[i]? = some y → Prec n x y)
def Precise (a b : Ty) : Prop := May a ∧ May b ∧ Prec 50 a b
def meetL (f : Ty → Ty → Option Ty) : List Ty → List Ty → Option (List Ty)
  | x :: xs, y :: ys => match f x y with
    | none => none
    | some z => (meetL f xs ys).map (z :: ·)
  | _, _ => some []
open Classical in
/-- What two types say together. -/
noncomputable def meetF : Nat → Ty → Ty → Option Ty
  | 0, _, _ => none
  | n + 1, a, b =>
    if Prec (n + 1) a b then some a
    else if Prec (n + 1) b a then some b
    else if Paired a b then (meetL (meetF n) a.args b.args).map (fun l => .mk a.kind a.names l)
    else none
open Classical in
noncomputable def meetT (a b : Ty) : Option Ty := if May a ∧ May b then meetF 50 a b else none
def unionArgs (kinds : Nat) : List Ty := (([1, 2, 3, 4, 5, 6] : List Int).filter (fun k => kinds &&& bitsOf k != 0)).map (fun k => .mk k [] [])
/-- The flat type of kinds. -/
def unionT (kinds : Nat) : Ty :=
  match unionArgs kinds with
  | [] => anyT
  | [a] => a
  | l => if l.length = 6 then anyT else .mk 7 [] l

section
variable {h : Bool} {n : Nat} {a b c : Ty}
theorem goes_any (hb : b.kind = 0) : Goes h (n + 1) a b := by rw [Goes, if_pos hb]; trivial
theorem goes_from (hb : ¬ b.kind = 0) (ha : a.kind = 0) : Goes h (n + 1) a b ↔ h = true := by rw [Goes, if_neg hb, if_pos ha]
theorem goes_flat (hb : ¬ b.kind = 0) (ha : ¬ a.kind = 0) (hf : Flat a.kind) (hg : Flat b.kind) : Goes h (n + 1) a b ↔ kindsT a ||| kindsT b = kindsT b := by rw [Goes, if_neg hb, if_neg ha, if_pos ⟨hf, hg⟩]
theorem goes_table (hb : ¬ Flat b.kind) (ha : a.kind = 5) : Goes h (n + 1) a b ↔ h = true ∧ b.kind = 8 := by
  rw [Goes, if_neg (fun e => hb (by unfold Flat; omega)), if_neg (by omega), if_neg (fun e => hb e.2), if_pos ha]
theorem goes_shape_flat (hb : ¬ b.kind = 0) (ha : a.kind = 8) (hg : Flat b.kind) : Goes h (n + 1) a b ↔ kindsT b &&& 16 = 16 := by
  rw [Goes, if_neg hb, if_neg (by omega), if_neg (fun e => by have := e.1; unfold Flat at this; omega), if_neg (by omega), if_pos ha, if_pos hg]
theorem goes_shape (ha : a.kind = 8) (hg : ¬ Flat b.kind) : Goes h (n + 1) a b ↔ b.kind = 8 ∧ FieldsT h a b := by
  rw [Goes, if_neg (fun e => hg (by unfold Flat; omega)), if_neg (by omega), if_neg (fun e => hg e.2), if_neg (by omega), if_pos ha, if_neg hg]
theorem goes_else (hb : ¬ b.kind = 0) (h0 : ¬ a.kind = 0) (hf : ¬ (Flat a.kind ∧ Flat b.kind)) (h5 : ¬ a.kind = 5) (h8 : ¬ a.kind = 8) : Goes h (n + 1) a b ↔ a.kind = 9 ∧ b.kind = 9 ∧ a.args.length = b.args.length ∧
      (∀ (i : Nat) (x y : Ty), i + 1 < a.args.length → a.args[i]? = some x → b.args[i]? = some y → Goes h n y x) ∧
      (∀ (x y : Ty), a.args[a.args.length - 1]? = some x → b.args[b.args.length - 1]? = some y → Goes h n x y) := by
  rw [Goes, if_neg hb, if_neg h0, if_neg hf, if_neg h5, if_neg h8]
theorem goes_func (ha : a.kind = 9) (hb : ¬ b.kind = 0) : Goes h (n + 1) a b ↔ a.kind = 9 ∧ b.kind = 9 ∧ a.args.length = b.args.length ∧
      (∀ (i : Nat) (x y : Ty), i + 1 < a.args.length → a.args[i]? = some x → b.args[i]? = some y → Goes h n y x) ∧
      (∀ (x y : Ty), a.args[a.args.length - 1]? = some x → b.args[b.args.length - 1]? = some y → Goes h n x y) :=
  goes_else hb (by omega) (fun e => by have := e.1; unfold Flat at this; omega) (by omega) (by omega)
/-- A flat type that is not any goes to flat ones alone, but that a table is cast to a shape. -/
theorem goes_flat_out (ha : Flat a.kind) (h0 : ¬ a.kind = 0) (hb : ¬ Flat b.kind) (hg : Goes false (n + 1) a b) : False := by
  by_cases h5 : a.kind = 5
  · exact absurd ((goes_table hb h5).1 hg).1 (by simp)
  · have := (goes_else (fun e => hb (by unfold Flat; omega)) h0 (fun e => hb e.2) h5 (by unfold Flat at ha; omega)).1 hg
    unfold Flat at ha
    omega
theorem Chk.cases (hc : Chk n a) : Flat a.kind ∨ a.kind = 8 ∨ a.kind = 9 := by
  cases n with
  | zero => exact hc.elim
  | succ n =>
    rcases hc.1 with ⟨h1, h2, _⟩ | ⟨h1, _⟩ | ⟨h1, _⟩ | ⟨h1, _⟩
    · exact .inl ⟨h1, by omega⟩
    · exact .inl ⟨by omega, by omega⟩
    · exact .inr (.inl h1)
    · exact .inr (.inr h1)
theorem or_sub {x y z : Nat} (h1 : x ||| y = y) (h2 : y ||| z = z) : x ||| z = z := by
  rw [← h2, ← Nat.or_assoc, h1]
theorem and16_sub {y z : Nat} (h1 : y &&& 16 = 16) (h2 : y ||| z = z) : z &&& 16 = 16 := by
  rw [← h2, Nat.and_or_distrib_right, h1]
  exact Nat.eq_of_testBit_eq fun i => by
    rw [Nat.testBit_or, Nat.testBit_and]
    cases Nat.testBit 16 i <;> simp
end
theorem at_len {α : Type} {l m : List α} (h : l.length = m.length) {i : Nat} {x : α} (hx : l[i]? = some x) : ∃ y, m[i]? = some y := by
  have := (List.getElem?_eq_some_iff.1 hx).1
  exact ⟨m[i]'(by omega), List.getElem?_eq_getElem _⟩
theorem goes_refl {h : Bool} : ∀ {n : Nat} {a : Ty}, Chk n a → Goes h n a a
  | 0, a, hc => hc.elim
  | n + 1, a, hc => by
    by_cases h0 : a.kind = 0
    · exact goes_any h0
    rcases hc.cases with hf | h8 | h9
    · exact (goes_flat h0 h0 hf hf).2 (Nat.or_self _)
    · refine (goes_shape h8 (fun e => by unfold Flat at e; omega)).2 ⟨h8, fun i s y hs hy => ⟨i, y, hs, hy, .inl rfl⟩⟩
    · refine (goes_func h9 h0).2 ⟨h9, h9, rfl, fun i x y _ hx hy => ?_, fun x y hx hy => ?_⟩
      · rw [hx] at hy
        obtain rfl := Option.some.inj hy
        exact goes_refl (hc.part hx)
      · rw [hx] at hy
        obtain rfl := Option.some.inj hy
        exact goes_refl (hc.part hx)
theorem goes_trans : ∀ {n : Nat} {a b c : Ty}, Chk n a → Chk n b → Chk n c → Goes false n a b → Goes false n b c → Goes false n a c
  | 0, _, _, _, hc, _, _, _, _ => hc.elim
  | n + 1, a, b, c, ca, cb, cc, hab, hbc => by
    by_cases c0 : c.kind = 0
    · exact goes_any c0
    by_cases b0 : b.kind = 0
    · exact absurd ((goes_from c0 b0).1 hbc) (by simp)
    by_cases a0 : a.kind = 0
    · exact absurd ((goes_from b0 a0).1 hab) (by simp)
    rcases ca.cases with fa | a8 | a9
    · by_cases fb : Flat b.kind
      · by_cases fc : Flat c.kind
        · exact (goes_flat c0 a0 fa fc).2 (or_sub ((goes_flat b0 a0 fa fb).1 hab) ((goes_flat c0 b0 fb fc).1 hbc))
        · exact (goes_flat_out fb b0 fc hbc).elim
      · exact (goes_flat_out fa a0 fb hab).elim
    · by_cases fb : Flat b.kind
      · by_cases fc : Flat c.kind
        · exact (goes_shape_flat c0 a8 fc).2 (and16_sub ((goes_shape_flat b0 a8 fb).1 hab) ((goes_flat c0 b0 fb fc).1 hbc))
        · exact (goes_flat_out fb b0 fc hbc).elim
      · obtain ⟨b8, fab⟩ := (goes_shape a8 fb).1 hab
        by_cases fc : Flat c.kind
        · exact (goes_shape_flat c0 a8 fc).2 ((goes_shape_flat c0 b8 fc).1 hbc)
        · obtain ⟨c8, fbc⟩ := (goes_shape b8 fc).1 hbc
          refine (goes_shape a8 fc).2 ⟨c8, fun i s z hs hz => ?_⟩
          obtain ⟨j, y, h1, h2, h3⟩ := fbc i s z hs hz
          obtain rfl : y = z := h3.resolve_right (fun e => absurd e.1 (by simp))
          exact fab j s y h1 h2
    · obtain ⟨_, b9, hl, h1, h2⟩ := (goes_func a9 b0).1 hab
      obtain ⟨_, c9, hl', k1, k2⟩ := (goes_func b9 c0).1 hbc
      refine (goes_func a9 c0).2 ⟨a9, c9, hl.trans hl', fun i x z hi hx hz => ?_, fun x z hx hz => ?_⟩
      · obtain ⟨y, hy⟩ := at_len hl hx
        exact goes_trans (cc.part hz) (cb.part hy) (ca.part hx) (k1 i y z (by omega) hy hz) (h1 i x y hi hx hy)
      · have hx' := hx
        rw [hl] at hx'
        obtain ⟨y, hy⟩ := at_len hl hx
        rw [hl] at hy
        exact goes_trans (ca.part hx) (cb.part hy) (cc.part hz) (h2 x y hx hy) (k2 y z hy hz)
theorem goes_ease : ∀ {n : Nat} {a b : Ty}, Chk n a → Chk n b → Goes false n a b → Goes true n a b
  | 0, _, _, hc, _, _ => hc.elim
  | n + 1, a, b, ca, cb, hab => by
    by_cases b0 : b.kind = 0
    · exact goes_any b0
    by_cases a0 : a.kind = 0
    · exact (goes_from b0 a0).2 rfl
    rcases ca.cases with fa | a8 | a9
    · by_cases fb : Flat b.kind
      · exact (goes_flat b0 a0 fa fb).2 ((goes_flat b0 a0 fa fb).1 hab)
      · exact (goes_flat_out fa a0 fb hab).elim
    · by_cases fb : Flat b.kind
      · exact (goes_shape_flat b0 a8 fb).2 ((goes_shape_flat b0 a8 fb).1 hab)
      · obtain ⟨b8, fab⟩ := (goes_shape a8 fb).1 hab
        refine (goes_shape a8 fb).2 ⟨b8, fun i s y hs hy => ?_⟩
        obtain ⟨j, x, h1, h2, h3⟩ := fab i s y hs hy
        exact ⟨j, x, h1, h2, .inl (h3.resolve_right (fun e => absurd e.1 (by simp)))⟩
    · obtain ⟨_, b9, hl, h1, h2⟩ := (goes_func a9 b0).1 hab
      refine (goes_func a9 b0).2 ⟨a9, b9, hl, fun i x y hi hx hy => ?_, fun x y hx hy => ?_⟩
      · exact goes_ease (cb.part hy) (ca.part hx) (h1 i x y hi hx hy)
      · exact goes_ease (ca.part hx) (cb.part hy) (h2 x y hx hy)
/-- Where nothing is open, what goes with a cast goes as it is. -/
theorem goes_sides : ∀ {n : Nat} {a b : Ty}, Chk n a → Chk n b → ¬ Loose a → ¬ Loose b → Goes true n a b → Goes false n a b
  | 0, _, _, hc, _, _, _, _ => hc.elim
  | n + 1, a, b, ca, cb, la, lb, hab => by
    have b0 : ¬ b.kind = 0 := fun e => lb (.any e)
    have a0 : ¬ a.kind = 0 := fun e => la (.any e)
    have pa : ∀ {i : Nat} {x : Ty}, a.args[i]? = some x → ¬ Loose x := fun hx e => la (.part (List.mem_of_getElem? hx) e)
    have pb : ∀ {i : Nat} {x : Ty}, b.args[i]? = some x → ¬ Loose x := fun hx e => lb (.part (List.mem_of_getElem? hx) e)
    rcases ca.cases with fa | a8 | a9
    · by_cases fb : Flat b.kind
      · exact (goes_flat b0 a0 fa fb).2 ((goes_flat b0 a0 fa fb).1 hab)
      · by_cases h5 : a.kind = 5
        · exact (la (.table h5)).elim
        · have := (goes_else b0 a0 (fun e => fb e.2) h5 (by unfold Flat at fa; omega)).1 hab
          unfold Flat at fa
          omega
    · by_cases fb : Flat b.kind
      · exact (goes_shape_flat b0 a8 fb).2 ((goes_shape_flat b0 a8 fb).1 hab)
      · obtain ⟨b8, fab⟩ := (goes_shape a8 fb).1 hab
        refine (goes_shape a8 fb).2 ⟨b8, fun i s y hs hy => ?_⟩
        obtain ⟨j, x, h1, h2, h3⟩ := fab i s y hs hy
        refine ⟨j, x, h1, h2, .inl (h3.resolve_right fun e => ?_)⟩
        exact e.2.elim (fun e => pa h2 (.any e)) (fun e => pb hy (.any e))
    · obtain ⟨_, b9, hl, h1, h2⟩ := (goes_func a9 b0).1 hab
      refine (goes_func a9 b0).2 ⟨a9, b9, hl, fun i x y hi hx hy => ?_, fun x y hx hy => ?_⟩
      · exact goes_sides (cb.part hy) (ca.part hx) (pb hy) (pa hx) (h1 i x y hi hx hy)
      · exact goes_sides (ca.part hx) (cb.part hy) (pa hx) (pb hy) (h2 x y hx hy)
theorem ease_sides {a b : Ty} (h : Ease a b) (hn : ¬ Sub a b) : Loose a ∨ Loose b := by
  rcases Classical.em (Loose a) with la | la
  · exact .inl la
  rcases Classical.em (Loose b) with lb | lb
  · exact .inr lb
  exact (hn ⟨h.1, h.2.1, goes_sides h.1.1 h.2.1.1 la lb h.2.2⟩).elim
theorem sub_ease {a b : Ty} (h : Sub a b) : Ease a b := ⟨h.1, h.2.1, goes_ease h.1.1 h.2.1.1 h.2.2⟩
theorem sub_trans {a b c : Ty} (h : Sub a b) (k : Sub b c) : Sub a c := ⟨h.1, k.2.1, goes_trans h.1.1 h.2.1.1 k.2.1.1 h.2.2 k.2.2⟩
theorem sub_refl {a : Ty} (h : May a) : Sub a a := ⟨h, h, goes_refl h.1⟩

theorem prec_refl {n : Nat} {a : Ty} : Prec (n + 1) a a := .inr (.inr (.inl rfl))
theorem Paired.kind {a b : Ty} (h : Paired a b) : (a.kind = 8 ∨ a.kind = 9) ∧ (b.kind = 8 ∨ b.kind = 9) := by
  obtain ⟨h1, h2, _⟩ := h
  rcases h1 with ⟨h1, _⟩ | h1
  · exact ⟨.inl h1, .inl (by omega)⟩
  · exact ⟨.inr h1, .inr (by omega)⟩
theorem Paired.trans {a b c : Ty} (h : Paired a b) (k : Paired b c) : Paired a c := by
  refine ⟨?_, h.2.1.trans k.2.1, h.2.2.trans k.2.2⟩
  rcases h.1 with ⟨h1, h2⟩ | h1
  · refine .inl ⟨h1, h2.trans ?_⟩
    rcases k.1 with ⟨_, k2⟩ | k1
    · exact k2
    · have := h.2.1; omega
  · exact .inr h1
theorem Paired.symm {a b : Ty} (h : Paired a b) : Paired b a := by
  refine ⟨?_, h.2.1.symm, h.2.2.symm⟩
  rcases h.1 with ⟨h1, h2⟩ | h1
  · exact .inl ⟨by have := h.2.1; omega, h2.symm⟩
  · exact .inr (by have := h.2.1; omega)
theorem prec_trans : ∀ {n : Nat} {a b c : Ty}, Prec n a b → Prec n b c → Prec n a c
  | 0, _, _, _, h, _ => h.elim
  | n + 1, a, b, c, hab, hbc => by
    rcases hbc with c0 | ⟨c5, b8⟩ | rfl | ⟨pbc, hbc⟩
    · exact .inl c0
    · rcases hab with b0 | ⟨b5, _⟩ | rfl | ⟨pab, _⟩
      · omega
      · omega
      · exact .inr (.inl ⟨c5, b8⟩)
      · exact .inr (.inl ⟨c5, by have := pab.2.1; omega⟩)
    · exact hab
    · have := pbc.kind
      rcases hab with b0 | ⟨b5, _⟩ | rfl | ⟨pab, hab⟩
      · omega
      · omega
      · exact .inr (.inr (.inr ⟨pbc, hbc⟩))
      · refine .inr (.inr (.inr ⟨pab.trans pbc, fun i x z hx hz => ?_⟩))
        obtain ⟨y, hy⟩ := at_len pab.2.2 hx
        exact prec_trans (hab i x y hx hy) (hbc i y z hy hz)
theorem any_eq {n : Nat} {a : Ty} (h : Chk n a) (h0 : a.kind = 0) : a = anyT := by
  cases n with
  | zero => exact h.elim
  | succ n =>
    rcases h.1 with ⟨_, _, h1, h2⟩ | ⟨h1, _⟩ | ⟨h1, _⟩ | ⟨h1, _⟩
    · exact Ty.ext h0 (List.eq_nil_of_length_eq_zero h1) (List.eq_nil_of_length_eq_zero h2)
    all_goals omega
theorem paired_names {n : Nat} {a b : Ty} (ca : Chk n a) (cb : Chk n b) (h : Paired a b) : a.names = b.names := by
  rcases h.1 with ⟨_, h2⟩ | h9
  · exact h2
  · have b9 : b.kind = 9 := by have := h.2.1; omega
    cases n with
    | zero => exact ca.elim
    | succ n =>
      have e1 : a.names.length = 0 := by rcases ca.1 with ⟨_, _, h1, _⟩ | ⟨h1, _⟩ | ⟨h1, _⟩ | ⟨_, h1, _⟩ <;> omega
      have e2 : b.names.length = 0 := by rcases cb.1 with ⟨_, _, h1, _⟩ | ⟨h1, _⟩ | ⟨h1, _⟩ | ⟨_, h1, _⟩ <;> omega
      rw [List.eq_nil_of_length_eq_zero e1, List.eq_nil_of_length_eq_zero e2]
theorem prec_anti : ∀ {n : Nat} {a b : Ty}, Chk n a → Chk n b → Prec n a b → Prec n b a → a = b
  | 0, _, _, h, _, _, _ => h.elim
  | n + 1, a, b, ca, cb, hab, hba => by
    rcases hab with b0 | ⟨b5, a8⟩ | rfl | ⟨pab, hab⟩
    · rcases hba with a0 | ⟨_, b8⟩ | rfl | ⟨pba, _⟩
      · rw [any_eq ca a0, any_eq cb b0]
      · omega
      · rfl
      · have := pba.kind; omega
    · rcases hba with a0 | ⟨_, b8⟩ | rfl | ⟨pba, _⟩
      · omega
      · omega
      · rfl
      · have := pba.kind; omega
    · rfl
    · have := pab.kind
      rcases hba with a0 | ⟨_, b8⟩ | rfl | ⟨pba, hba⟩
      · omega
      · omega
      · rfl
      · refine Ty.ext pab.2.1 (paired_names ca cb pab) (List.ext_getElem? fun i => ?_)
        cases hx : a.args[i]? with
        | none =>
          have := List.getElem?_eq_none_iff.1 hx
          rw [List.getElem?_eq_none (by have := pab.2.2; omega)]
        | some x =>
          obtain ⟨y, hy⟩ := at_len pab.2.2 hx
          rw [hy, prec_anti (ca.part hx) (cb.part hy) (hab i x y hx hy) (hba i y x hy hx)]
theorem prec_loose : ∀ {n : Nat} {a b : Ty}, Chk n a → Chk n b → Prec n a b → a = b ∨ Loose b
  | 0, _, _, h, _, _ => h.elim
  | n + 1, a, b, ca, cb, hab => by
    rcases hab with b0 | ⟨b5, a8⟩ | rfl | ⟨pab, hab⟩
    · exact .inr (.any b0)
    · exact .inr (.table b5)
    · exact .inl rfl
    · rcases Classical.em (Loose b) with lb | lb
      · exact .inr lb
      · refine .inl (Ty.ext pab.2.1 (paired_names ca cb pab) (List.ext_getElem? fun i => ?_))
        cases hx : a.args[i]? with
        | none =>
          have := List.getElem?_eq_none_iff.1 hx
          rw [List.getElem?_eq_none (by have := pab.2.2; omega)]
        | some x =>
          obtain ⟨y, hy⟩ := at_len pab.2.2 hx
          rcases prec_loose (ca.part hx) (cb.part hy) (hab i x y hx hy) with e | e
          · rw [hy, e]
          · exact (lb (.part (List.mem_of_getElem? hy) e)).elim

theorem meetL_some {f : Ty → Ty → Option Ty} : ∀ {xs ys l : List Ty}, xs.length = ys.length → meetL f xs ys = some l → l.length = xs.length ∧ ∀ (i : Nat) (x y : Ty), xs[i]? = some x → ys[i]? = some y → ∃ z, l[i]? = some z ∧ f x y = some z
  | [], [], l, _, h => by
    simp [meetL] at h
    subst h
    exact ⟨rfl, fun i x y hx => by simp at hx⟩
  | x :: xs, y :: ys, l, hl, h => by
    rw [meetL] at h
    cases hf : f x y with
    | none => rw [hf] at h; cases h
    | some z =>
      rw [hf] at h
      simp only [Option.map_eq_some_iff] at h
      obtain ⟨m, hm, rfl⟩ := h
      obtain ⟨h1, h2⟩ := meetL_some (by simpa using hl) hm
      refine ⟨by simp [h1], fun i u v hu hv => ?_⟩
      cases i with
      | zero =>
        simp at hu hv
        subst hu; subst hv
        exact ⟨z, rfl, hf⟩
      | succ i =>
        simp at hu hv
        simpa using h2 i u v hu hv
theorem meetL_all {f : Ty → Ty → Option Ty} : ∀ {xs ys : List Ty}, (∀ (i : Nat) (x y : Ty), xs[i]? = some x → ys[i]? = some y → ∃ z, f x y = some z) → ∃ l, meetL f xs ys = some l
  | [], _, _ => ⟨[], by simp [meetL]⟩
  | x :: xs, [], _ => ⟨[], by simp [meetL]⟩
  | x :: xs, y :: ys, h => by
    obtain ⟨z, hz⟩ := h 0 x y rfl rfl
    obtain ⟨l, hl⟩ := meetL_all (f := f) (xs := xs) (ys := ys) (fun i u v hu hv => h (i + 1) u v hu hv)
    exact ⟨z :: l, by rw [meetL, hz]; simp [hl]⟩
theorem meetL_none {f : Ty → Ty → Option Ty} {xs ys : List Ty} {i : Nat} {x y : Ty} (hl : xs.length = ys.length) (hx : xs[i]? = some x) (hy : ys[i]? = some y) (h : f x y = none) : meetL f xs ys = none := by
  cases hm : meetL f xs ys with
  | none => rfl
  | some l =>
    obtain ⟨z, _, h2⟩ := (meetL_some hl hm).2 i x y hx hy
    rw [h] at h2
    cases h2
theorem meetL_of {f : Ty → Ty → Option Ty} {xs ys l : List Ty} (hl : xs.length = ys.length) (h1 : l.length = xs.length) (h2 : ∀ (i : Nat) (x y z : Ty), xs[i]? = some x → ys[i]? = some y → l[i]? = some z → f x y = some z) : meetL f xs ys = some l := by
  obtain ⟨m, hm⟩ := meetL_all (f := f) (xs := xs) (ys := ys) (fun i x y hx hy => by
    obtain ⟨z, hz⟩ := at_len h1.symm hx
    exact ⟨z, h2 i x y z hx hy hz⟩)
  obtain ⟨k1, k2⟩ := meetL_some hl hm
  rw [hm]
  refine congrArg some (List.ext_getElem? fun i => ?_)
  cases hx : xs[i]? with
  | none =>
    have := List.getElem?_eq_none_iff.1 hx
    rw [List.getElem?_eq_none (by omega), List.getElem?_eq_none (by omega)]
  | some x =>
    obtain ⟨y, hy⟩ := at_len hl hx
    obtain ⟨z, hz, e⟩ := k2 i x y hx hy
    obtain ⟨u, hu⟩ := at_len h1.symm hx
    rw [hz, hu, ← e, h2 i x y u hx hy hu]
theorem meetF_zero {n : Nat} {a b : Ty} (h : Prec (n + 1) a b) : meetF (n + 1) a b = some a := by rw [meetF, if_pos h]
theorem meetF_one {n : Nat} {a b : Ty} (h1 : ¬ Prec (n + 1) a b) (h : Prec (n + 1) b a) : meetF (n + 1) a b = some b := by rw [meetF, if_neg h1, if_pos h]
theorem meetF_two {n : Nat} {a b : Ty} (h1 : ¬ Prec (n + 1) a b) (h2 : ¬ Prec (n + 1) b a) (h : Paired a b) : meetF (n + 1) a b = (meetL (meetF n) a.args b.args).map (fun l => .mk a.kind a.names l) := by rw [meetF, if_neg h1, if_neg h2, if_pos h]
theorem meetF_no {n : Nat} {a b : Ty} (h1 : ¬ Prec (n + 1) a b) (h2 : ¬ Prec (n + 1) b a) (h : ¬ Paired a b) : meetF (n + 1) a b = none := by rw [meetF, if_neg h1, if_neg h2, if_neg h]
theorem flat_not_paired {a b : Ty} (h : Flat a.kind) : ¬ Paired a b := fun e => by have := e.kind; unfold Flat at h; omega
theorem meet_flat {n : Nat} {a b t : Ty} (h : meetF n a b = some t) (ha : Flat a.kind) (hb : Flat b.kind) : Flat t.kind := by
  cases n with
  | zero => rw [meetF] at h; cases h
  | succ n =>
    by_cases h1 : Prec (n + 1) a b
    · rw [meetF_zero h1] at h
      obtain rfl := Option.some.inj h
      exact ha
    by_cases h2 : Prec (n + 1) b a
    · rw [meetF_one h1 h2] at h
      obtain rfl := Option.some.inj h
      exact hb
    rw [meetF_no h1 h2 (flat_not_paired ha)] at h
    cases h
theorem nodesL_le : ∀ {xs ys zs : List Ty}, zs.length = xs.length → xs.length = ys.length → (∀ (i : Nat) (x y z : Ty), xs[i]? = some x → ys[i]? = some y → zs[i]? = some z → nodes z ≤ nodes x + nodes y) → nodesL zs ≤ nodesL xs + nodesL ys
  | [], ys, [], _, _, _ => by simp [nodesL]
  | x :: xs, y :: ys, z :: zs, h1, h2, h => by
    have := nodesL_le (xs := xs) (ys := ys) (zs := zs) (by simpa using h1) (by simpa using h2) (fun i x y z hx hy hz => h (i + 1) x y z hx hy hz)
    have := h 0 x y z rfl rfl rfl
    simp only [nodesL]
    omega
theorem meet_some : ∀ {n : Nat} {a b t : Ty}, Chk n a → Chk n b → meetF n a b = some t → Chk n t ∧ Prec n t a ∧ Prec n t b ∧ nodes t ≤ nodes a + nodes b
  | 0, _, _, _, h, _, _ => h.elim
  | n + 1, a, b, t, ca, cb, h => by
    by_cases h1 : Prec (n + 1) a b
    · rw [meetF_zero h1] at h
      obtain rfl := Option.some.inj h
      exact ⟨ca, prec_refl, h1, by omega⟩
    by_cases h2 : Prec (n + 1) b a
    · rw [meetF_one h1 h2] at h
      obtain rfl := Option.some.inj h
      exact ⟨cb, h2, prec_refl, by omega⟩
    by_cases hp : Paired a b
    · rw [meetF_two h1 h2 hp] at h
      simp only [Option.map_eq_some_iff] at h
      obtain ⟨l, hl, rfl⟩ := h
      obtain ⟨k1, k2⟩ := meetL_some hp.2.2 hl
      have key : ∀ (i : Nat) (z : Ty), l[i]? = some z → ∃ x y, a.args[i]? = some x ∧ b.args[i]? = some y ∧ meetF n x y = some z := fun i z hz => by
        obtain ⟨x, hx⟩ := at_len k1 hz
        obtain ⟨y, hy⟩ := at_len hp.2.2 hx
        obtain ⟨z', h3, h4⟩ := k2 i x y hx hy
        rw [hz] at h3
        obtain rfl := Option.some.inj h3
        exact ⟨x, y, hx, hy, h4⟩
      have hk := hp.kind
      refine ⟨⟨?_, fun i z hz => ?_⟩, .inr (.inr (.inr ⟨⟨?_, rfl, k1⟩, fun i z x hz hx => ?_⟩)), .inr (.inr (.inr ⟨?_, fun i z y hz hy => ?_⟩)), ?_⟩
      · have := ca.1
        show HeadOk a.kind a.names.length l.length
        rw [k1]
        exact this
      · obtain ⟨x, y, hx, hy, hm⟩ := key i z hz
        refine ⟨⟨fun e => ?_, fun e => ⟨?_, fun s hs => ?_⟩⟩, (meet_some (ca.part hx) (cb.part hy) hm).1⟩
        · have e : a.kind = 7 := e
          omega
        · have e : a.kind = 8 := e
          exact meet_flat hm (((ca.2 i x hx).1.2 e).1) (((cb.2 i y hy).1.2 (by have := hp.2.1; omega)).1)
        · exact ((ca.2 i x hx).1.2 e).2 s hs
      · rcases hk.1 with e | e
        · exact .inl ⟨e, rfl⟩
        · exact .inr e
      · obtain ⟨x', y, hx', hy, hm⟩ := key i z hz
        rw [hx] at hx'
        obtain rfl := Option.some.inj hx'
        exact (meet_some (ca.part hx) (cb.part hy) hm).2.1
      · refine ⟨?_, hp.2.1, by rw [← hp.2.2]; exact k1⟩
        rcases hp.1 with ⟨e, e2⟩ | e
        · exact .inl ⟨e, e2⟩
        · exact .inr e
      · obtain ⟨x, y', hx, hy', hm⟩ := key i z hz
        rw [hy] at hy'
        obtain rfl := Option.some.inj hy'
        exact (meet_some (ca.part hx) (cb.part hy) hm).2.2.1
      · rw [nodes_args a, nodes_args b, nodes]
        have := nodesL_le (xs := a.args) (ys := b.args) (zs := l) k1 hp.2.2 (fun i x y z hx hy hz => by
          obtain ⟨x', y', hx', hy', hm⟩ := key i z hz
          rw [hx] at hx'
          rw [hy] at hy'
          obtain rfl := Option.some.inj hx'
          obtain rfl := Option.some.inj hy'
          exact (meet_some (ca.part hx) (cb.part hy) hm).2.2.2)
        omega
    · rw [meetF_no h1 h2 hp] at h
      cases h
/-- What says as much as both says as much as what they say together. -/
theorem meet_most : ∀ {n : Nat} {a b c : Ty}, Chk n a → Chk n b → Chk n c → Prec n c a → Prec n c b → ∃ t, meetF n a b = some t ∧ Prec n c t
  | 0, _, _, _, h, _, _, _, _ => h.elim
  | n + 1, a, b, c, ca, cb, cc, hca, hcb => by
    by_cases h1 : Prec (n + 1) a b
    · exact ⟨a, meetF_zero h1, hca⟩
    by_cases h2 : Prec (n + 1) b a
    · exact ⟨b, meetF_one h1 h2, hcb⟩
    have a0 : ¬ a.kind = 0 := fun e => h2 (.inl e)
    have b0 : ¬ b.kind = 0 := fun e => h1 (.inl e)
    have na : ¬ c = a := fun e => h1 (e ▸ hcb)
    have nb : ¬ c = b := fun e => h2 (e ▸ hca)
    have a5 : ¬ a.kind = 5 := fun e => by
      rcases hca with h | ⟨_, c8⟩ | h | ⟨p, _⟩
      · exact a0 h
      · rcases hcb with h | ⟨b5, _⟩ | h | ⟨p, _⟩
        · exact b0 h
        · have ea : a.kind = b.kind := by omega
          have za : a.names = [] ∧ a.args = [] := by rcases ca.1 with ⟨_, _, h1, h2⟩ | ⟨h1, _⟩ | ⟨h1, _⟩ | ⟨h1, _⟩ <;> first | omega | exact ⟨List.eq_nil_of_length_eq_zero h1, List.eq_nil_of_length_eq_zero h2⟩
          have zb : b.names = [] ∧ b.args = [] := by rcases cb.1 with ⟨_, _, h1, h2⟩ | ⟨h1, _⟩ | ⟨h1, _⟩ | ⟨h1, _⟩ <;> first | omega | exact ⟨List.eq_nil_of_length_eq_zero h1, List.eq_nil_of_length_eq_zero h2⟩
          exact h1 (.inr (.inr (.inl (Ty.ext ea (za.1.trans zb.1.symm) (za.2.trans zb.2.symm)))))
        · exact nb h
        · exact h2 (.inr (.inl ⟨e, by have := p.2.1; omega⟩))
      · exact na h
      · have := p.kind; omega
    have b5 : ¬ b.kind = 5 := fun e => by
      rcases hcb with h | ⟨_, c8⟩ | h | ⟨p, _⟩
      · exact b0 h
      · rcases hca with h | ⟨a5', _⟩ | h | ⟨p, _⟩
        · exact a0 h
        · exact a5 a5'
        · exact na h
        · exact h1 (.inr (.inl ⟨e, by have := p.2.1; omega⟩))
      · exact nb h
      · have := p.kind; omega
    have pca : Paired c a ∧ ∀ (i : Nat) (x y : Ty), c.args[i]? = some x → a.args[i]? = some y → Prec n x y := by
      rcases hca with h | ⟨h, _⟩ | h | h
      · exact (a0 h).elim
      · exact (a5 h).elim
      · exact (na h).elim
      · exact h
    have pcb : Paired c b ∧ ∀ (i : Nat) (x y : Ty), c.args[i]? = some x → b.args[i]? = some y → Prec n x y := by
      rcases hcb with h | ⟨h, _⟩ | h | h
      · exact (b0 h).elim
      · exact (b5 h).elim
      · exact (nb h).elim
      · exact h
    have pab := pca.1.symm.trans pcb.1
    have hall : ∀ (i : Nat) (x y : Ty), a.args[i]? = some x → b.args[i]? = some y → ∃ z, meetF n x y = some z := fun i x y hx hy => by
      obtain ⟨u, hu⟩ := at_len pca.1.2.2.symm hx
      obtain ⟨t, h, _⟩ := meet_most (ca.part hx) (cb.part hy) (cc.part hu) (pca.2 i u x hu hx) (pcb.2 i u y hu hy)
      exact ⟨t, h⟩
    obtain ⟨l, hl⟩ := meetL_all hall
    obtain ⟨k1, k2⟩ := meetL_some pab.2.2 hl
    refine ⟨.mk a.kind a.names l, by rw [meetF_two h1 h2 pab, hl]; rfl, .inr (.inr (.inr ⟨⟨?_, pca.1.2.1, pca.1.2.2.trans k1.symm⟩, fun i u z hu hz => ?_⟩))⟩
    · exact pca.1.1
    · obtain ⟨x, hx⟩ := at_len pca.1.2.2 hu
      obtain ⟨y, hy⟩ := at_len pcb.1.2.2 hu
      obtain ⟨z', h3, h4⟩ := k2 i x y hx hy
      have hz : l[i]? = some z := hz
      rw [hz] at h3
      obtain rfl := Option.some.inj h3
      obtain ⟨t, h5, h6⟩ := meet_most (ca.part hx) (cb.part hy) (cc.part hu) (pca.2 i u x hu hx) (pcb.2 i u y hu hy)
      rw [h4] at h5
      obtain rfl := Option.some.inj h5
      exact h6
theorem meetT_self {a : Ty} (h : May a) : meetT a a = some a := by
  unfold meetT
  rw [if_pos ⟨h, h⟩]
  exact meetF_zero prec_refl
theorem meetT_some {a b t : Ty} (h : meetT a b = some t) (hn : nodes a + nodes b ≤ 10000) : May a ∧ May b ∧ May t ∧ Precise t a ∧ Precise t b := by
  unfold meetT at h
  split at h
  · rename_i hc
    obtain ⟨h1, h2, h3, h4⟩ := meet_some hc.1.1 hc.2.1 h
    have hm : May t := ⟨h1, by omega⟩
    exact ⟨hc.1, hc.2, hm, ⟨hm, hc.1, h2⟩, ⟨hm, hc.2, h3⟩⟩
  · cases h
theorem meetT_most {a b c : Ty} (ha : Precise c a) (hb : Precise c b) (hn : nodes a + nodes b ≤ 10000) : ∃ t, meetT a b = some t ∧ Precise c t := by
  obtain ⟨t, h1, h2⟩ := meet_most ha.2.1.1 hb.2.1.1 ha.1.1 ha.2.2 hb.2.2
  have h3 : meetT a b = some t := by unfold meetT; rw [if_pos ⟨ha.2.1, hb.2.1⟩]; exact h1
  exact ⟨t, h3, ha.1, (meetT_some h3 hn).2.2.1, h2⟩
theorem precise_trans {a b c : Ty} (h : Precise a b) (k : Precise b c) : Precise a c := ⟨h.1, k.2.1, prec_trans h.2.2 k.2.2⟩
theorem precise_vague {a b : Ty} (h : Precise a b) : a = b ∨ (Loose b ∧ ¬ Precise b a) := by
  rcases Classical.em (a = b) with e | e
  · exact .inl e
  · exact .inr ⟨(prec_loose h.1.1 h.2.1.1 h.2.2).resolve_left e, fun k => e (prec_anti h.1.1 h.2.1.1 h.2.2 k.2.2)⟩

/-- Unions: parts rising. -/
def riseB : Int → List Ty → Bool
  | _, [] => true
  | last, .mk k n a :: r => decide (last < k) && decide (k ≤ 6) && n.isEmpty && a.isEmpty && riseB k r
def flatB : Ty → Bool
  | .mk k n a => n.isEmpty && ((decide (0 ≤ k) && decide (k ≤ 6) && a.isEmpty) || (k == 7 && decide (2 ≤ a.length) && riseB 0 a))
theorem riseB_at : ∀ {xs : List Ty} {last : Int}, riseB last xs = true → ∀ (i : Nat) (a : Ty), xs[i]? = some a → last < a.kind ∧ a.kind ≤ 6 ∧ a.names = [] ∧ a.args = [] ∧ ∀ b, 0 < i → xs[i - 1]? = some b → b.kind < a.kind
  | [], _, _, i, a, h => by simp at h
  | .mk k n l :: r, last, h, i, a, ha => by
    simp only [riseB, Bool.and_eq_true, decide_eq_true_eq, List.isEmpty_iff] at h
    obtain ⟨⟨⟨⟨h1, h2⟩, h3⟩, h4⟩, h5⟩ := h
    cases i with
    | zero =>
      simp at ha
      subst ha
      exact ⟨h1, h2, h3, h4, fun b hb => by omega⟩
    | succ i =>
      simp at ha
      obtain ⟨k1, k2, k3, k4, k5⟩ := riseB_at h5 i a ha
      refine ⟨by omega, k2, k3, k4, fun b _ hb => ?_⟩
      cases i with
      | zero =>
        simp at hb
        subst hb
        exact k1
      | succ i => exact k5 b (by omega) (by simpa using hb)
theorem leaf_chk {n : Nat} {k : Int} (h0 : 0 ≤ k) (h6 : k ≤ 6) : Chk (n + 1) (.mk k [] []) := ⟨.inl ⟨h0, h6, rfl, rfl⟩, fun i a ha => by simp [Ty.args] at ha⟩
theorem flatB_chk {t : Ty} (h : flatB t = true) : Chk 50 t ∧ Flat t.kind := by
  obtain ⟨k, n, l⟩ := t
  simp only [flatB, Bool.and_eq_true, Bool.or_eq_true, decide_eq_true_eq, List.isEmpty_iff, beq_iff_eq] at h
  obtain ⟨rfl, ⟨⟨h1, h2⟩, rfl⟩ | ⟨⟨rfl, h2⟩, h3⟩⟩ := h
  · exact ⟨leaf_chk h1 h2, h1, by show k ≤ 7; omega⟩
  · refine ⟨⟨.inr (.inl ⟨rfl, rfl, by show 1 < l.length; omega⟩), fun i a ha => ?_⟩, by show (0 : Int) ≤ 7; omega, by show (7 : Int) ≤ 7; omega⟩
    obtain ⟨k1, k2, k3, k4, k5⟩ := riseB_at h3 i a ha
    refine ⟨⟨fun _ => ⟨k1, by omega, k5⟩, fun e => by cases e⟩, ?_⟩
    rw [← a.eta, k3, k4]
    exact leaf_chk (by omega) k2
theorem union_all : ∀ k : Fin 128, flatB (unionT k.1) = true ∧ nodes (unionT k.1) ≤ 10 ∧ ((k.1 &&& 95 = 0 ∨ k.1 &&& 95 = 95) ∧ (unionT k.1).kind = 0 ∨ (unionT k.1).kind ≠ 0 ∧ kindsT (unionT k.1) = k.1 &&& 95) := by decide +kernel
theorem union_may {k : Nat} (h : k < 128) : May (unionT k) ∧ Flat (unionT k).kind :=
  ⟨⟨(flatB_chk (union_all ⟨k, h⟩).1).1, by have := (union_all ⟨k, h⟩).2.1; simp only at this; omega⟩, (flatB_chk (union_all ⟨k, h⟩).1).2⟩
theorem union_kinds {k : Nat} (h : k < 128) : (k &&& 95 = 0 ∨ k &&& 95 = 95) ∧ (unionT k).kind = 0 ∨ (unionT k).kind ≠ 0 ∧ kindsT (unionT k) = k &&& 95 := (union_all ⟨k, h⟩).2.2
theorem any_may : May anyT := ⟨leaf_chk (by omega) (by omega), by decide +kernel⟩
open Classical in
/-- A type of both's values. -/
noncomputable def joinT (a b : Ty) : Ty :=
  if Sub a b then b else if Sub b a then a else if May a ∧ May b ∧ Flat a.kind ∧ Flat b.kind then unionT (kindsT a ||| kindsT b) else anyT
theorem bits95 {k : Int} (h1 : 0 < k) (h2 : k < 7) : bitsOf k &&& 95 = bitsOf k ∧ bitsOf k < 128 := by
  have : k = 1 ∨ k = 2 ∨ k = 3 ∨ k = 4 ∨ k = 5 ∨ k = 6 := by omega
  rcases this with rfl | rfl | rfl | rfl | rfl | rfl <;> decide
theorem bits128 (k : Int) : bitsOf k < 128 := by unfold bitsOf; (repeat' split) <;> omega
theorem kindsU128 : ∀ l : List Ty, kindsU l < 128
  | [] => by decide
  | a :: l => Nat.or_lt_two_pow (n := 7) (bits128 a.kind) (kindsU128 l)
theorem kinds128 (t : Ty) : kindsT t < 128 := by
  unfold kindsT
  split
  · exact kindsU128 _
  split
  · omega
  split
  · omega
  · exact bits128 _
theorem kindsU95 : ∀ {l : List Ty}, (∀ a ∈ l, 0 < a.kind ∧ a.kind < 7) → kindsU l &&& 95 = kindsU l
  | [], _ => by decide
  | a :: l, h => by
    rw [kindsU, Nat.and_or_distrib_right, (bits95 (h a (by simp)).1 (h a (by simp)).2).1, kindsU95 fun b hb => h b (by simp [hb])]
theorem kinds95 {n : Nat} {a : Ty} (h : Chk n a) (hf : Flat a.kind) (h0 : ¬ a.kind = 0) : kindsT a &&& 95 = kindsT a := by
  cases n with
  | zero => exact h.elim
  | succ n =>
    unfold Flat at hf
    unfold kindsT
    split
    · rename_i h7
      exact kindsU95 fun b hb => by
        obtain ⟨i, hi⟩ := List.getElem?_of_mem hb
        have := (h.2 i b hi).1.1 h7
        exact ⟨this.1, this.2.1⟩
    rw [if_neg (by omega), if_neg (by omega)]
    exact (bits95 (by omega) (by omega)).1
theorem join_may {a b : Ty} : May (joinT a b) := by
  unfold joinT
  split
  · rename_i h; exact h.2.1
  split
  · rename_i h; exact h.2.1
  split
  · exact (union_may (Nat.or_lt_two_pow (n := 7) (kinds128 a) (kinds128 b))).1
  · exact any_may
theorem sub_any {a : Ty} (h : May a) : Sub a anyT := ⟨h, any_may, goes_any rfl⟩
theorem join_sub {a b : Ty} (ha : May a) (hb : May b) : Sub a (joinT a b) ∧ Sub b (joinT a b) := by
  by_cases h1 : Sub a b
  · rw [show joinT a b = b by unfold joinT; rw [if_pos h1]]
    exact ⟨h1, sub_refl hb⟩
  by_cases h2 : Sub b a
  · rw [show joinT a b = a by unfold joinT; rw [if_neg h1, if_pos h2]]
    exact ⟨sub_refl ha, h2⟩
  by_cases h3 : May a ∧ May b ∧ Flat a.kind ∧ Flat b.kind
  · rw [show joinT a b = unionT (kindsT a ||| kindsT b) by unfold joinT; rw [if_neg h1, if_neg h2, if_pos h3]]
    obtain ⟨_, _, fa, fb⟩ := h3
    have a0 : ¬ a.kind = 0 := fun e => h2 (by rw [any_eq ha.1 e]; exact sub_any hb)
    have b0 : ¬ b.kind = 0 := fun e => h1 (by rw [any_eq hb.1 e]; exact sub_any ha)
    have hlt : kindsT a ||| kindsT b < 128 := Nat.or_lt_two_pow (n := 7) (kinds128 a) (kinds128 b)
    obtain ⟨hm, hf⟩ := union_may hlt
    rcases union_kinds hlt with ⟨_, h0⟩ | ⟨h0, hk⟩
    · exact ⟨⟨ha, hm, goes_any h0⟩, hb, hm, goes_any h0⟩
    · have e : kindsT (unionT (kindsT a ||| kindsT b)) = kindsT a ||| kindsT b := by
        rw [hk, Nat.and_or_distrib_right, kinds95 ha.1 fa a0, kinds95 hb.1 fb b0]
      refine ⟨⟨ha, hm, (goes_flat h0 a0 fa hf).2 ?_⟩, hb, hm, (goes_flat h0 b0 fb hf).2 ?_⟩
      · rw [e, ← Nat.or_assoc, Nat.or_self]
      · rw [e, Nat.or_comm (kindsT a) (kindsT b), ← Nat.or_assoc, Nat.or_self]
  · rw [show joinT a b = anyT by unfold joinT; rw [if_neg h1, if_neg h2, if_neg h3]]
    exact ⟨sub_any ha, sub_any hb⟩
end Go.Proofs.YtohllalninoomaaDoor
