/-
 ParseChecks: part 6 of what the claim rests on.
-/
import Derived.Test.YthobobmbileekaaGreatDoorC01
import Derived.Test.YthobobmbileekaaGreatDoorC02
import Derived.Deep.Slices
import Derived.DataReads
import Derived.ChangeArms
import Derived.Maps.OwnSet
import Derived.Maps.Keyed
import Derived.Maps.AppendAt
import Derived.Lib.Hide
import Derived.Lib.AppendIntMem
import Derived.Defers
import Derived.Recover
import Derived.BigQuiet
import Derived.Deep.RegionHeld3
set_option linter.unusedVariables false
set_option linter.unusedSimpArgs false
set_option maxHeartbeats 64000000
set_option maxRecDepth 100000
namespace Go.Proofs.YthobobmbileekaaGreatDoor
open Go.ChangeShapes Go.WideShapes Go.ChangeAt Go.RowKit

section
variable {H : Type} {enc : TypeId × Value → H} {P : Program} {w : World}

def elemsOf : DataW H → List (DataW H)
 | .slice es _ => es
 | _ => []
def spareOf : DataW H → List (DataW H)
 | .slice _ sp => sp
 | _ => []

structure Sl (α : Type) where
 A : Option Addr
 cap : Nat
 xs : List α
structure SlIn {α : Type} (w : World) (f : α → List Value) (G : α → DataW H → Prop) (s : Sl α) (d : DataW H) : Prop where
 reads : Reads w w.heap.size s.A (s.xs.flatMap f)
 le : s.xs.length ≤ s.cap
 cap : s.cap ≤ maxLen
 len : (elemsOf d).length = s.xs.length
 form : d = .nil ∨ d = .slice (elemsOf d) (spareOf d)
 all : ∀ (i : Nat) (x : α), s.xs[i]? = some x → ∃ d', (elemsOf d)[i]? = some d' ∧ G x d'

theorem SlIn.mem {α : Type} {f : α → List Value} {G : α → DataW H → Prop} {s : Sl α} {d : DataW H} (h : SlIn w f G s d) {x : α} (hx : x ∈ s.xs) : ∃ d', d' ∈ elemsOf d ∧ G x d' := by
 obtain ⟨i, hi⟩ := List.getElem?_of_mem hx
 obtain ⟨d', h1, h2⟩ := h.all i x hi
 exact ⟨d', List.mem_of_getElem? h1, h2⟩

theorem flatMap_get {α : Type} {f : α → List Value} {K : Nat} (hK : ∀ a, (f a).length = K) : ∀ (xs : List α) (i : Nat) (x : α) (r : Nat), xs[i]? = some x → r < K → (xs.flatMap f)[i * K + r]? = (f x)[r]?
 | [], i, x, r, h, _ => by simp at h
 | y :: xs, 0, x, r, h, hr => by
  simp at h
  subst h; rw [List.flatMap_cons, List.getElem?_append_left (by rw [hK]; omega)]; simp
 | y :: xs, i + 1, x, r, h, hr => by
  simp at h
  rw [List.flatMap_cons, List.getElem?_append_right (by rw [hK, Nat.add_mul]; omega), hK, ← flatMap_get hK xs i x r h hr]
  congr 1
  rw [Nat.add_mul]
  omega

theorem flatMap_ne {α : Type} {f : α → List Value} {K : Nat} (hK : ∀ a, (f a).length = K) (hK0 : 0 < K) {xs : List α} {i : Nat} {x : α} (h : xs[i]? = some x) : xs.flatMap f ≠ [] := by
 intro h0
 have := flatMap_get hK xs i x 0 h hK0
 rw [h0, List.getElem?_nil] at this
 have h1 : (f x)[0]? = some ((f x)[0]'(by rw [hK]; exact hK0)) := List.getElem?_eq_getElem _
 rw [h1] at this
 cases this

theorem add_add' (a : Addr) (i j : Nat) : (a.add i).add j = a.add (i + j) := by
 unfold Addr.add
 by_cases hi : i = 0 <;> by_cases hj : j = 0 <;> simp [hi, hj, Nat.add_assoc]
theorem block_add' (a : Addr) (i : Nat) : (a.add i).block = a.block := by unfold Addr.add; split <;> rfl
theorem add_off (a : Addr) (n j : Nat) (hj : 0 < j) : a.add (n + j) = ⟨(a.add n).block, (a.add n).off + j, none⟩ := by
 rw [← add_add']
 unfold Addr.add
 rw [if_neg (by omega : ¬ j = 0)]
theorem elem_zero {w : World} {ad : Addr} {α : Type} {f : α → List Value} {K : Nat} {xs : List α} (hK : ∀ a, (f a).length = K) (hcell : ∀ j u, (xs.flatMap f)[j]? = some u → w.cell? (ad.add j) = some u) {k : Nat} {x : α} (hx : xs[k]? = some x) (hK0 : 0 < K) {v : Value} (hv : (f x)[0]? = some v) :
  w.cell? (ad.add (k * K)) = some v := hcell (k * K) v (by rw [← hv, ← flatMap_get hK xs k x 0 hx hK0]; rfl)
theorem elem_at {w : World} {ad : Addr} {α : Type} {f : α → List Value} {K : Nat} {xs : List α} (hK : ∀ a, (f a).length = K) (hcell : ∀ j u, (xs.flatMap f)[j]? = some u → w.cell? (ad.add j) = some u) {k : Nat} {x : α} (hx : xs[k]? = some x) (r : Nat) (hr : r < K) (h0 : 0 < r) {v : Value} (hv : (f x)[r]? = some v) :
  w.cell? ⟨(ad.add (k * K)).block, (ad.add (k * K)).off + r, none⟩ = some v := by
 rw [← add_off _ _ _ h0]
 exact hcell _ v (by rw [← hv, ← flatMap_get hK xs k x r hx hr])
theorem cell_lt {w : World} {a : Addr} {v : Value} (h : w.cell? a = some v) : a.block < w.heap.size := by
 rcases Nat.lt_or_ge a.block w.heap.size with h1 | h1
 ·exact h1
 ·simp [World.cell?, Array.getElem?_eq_none h1] at h

end

theorem Reads.below {w w' : World} {B : Nat} {A : Option Addr} {xs : List Value} (h : Reads w B A xs) (hb : Below B w w') : Reads w' B A xs := by
 rcases h with h | ⟨ad, h1, h2, h3⟩
 ·exact .inl h
 ·exact .inr ⟨ad, h1, h2, fun j u hu => (hb.cell (by rw [block_add']; exact h2)).trans (h3 j u hu)⟩
theorem Reads.at {w : World} {B : Nat} {A : Option Addr} {xs : List Value} (h : Reads w B A xs) (hn : xs ≠ []) : ∃ ad, A = some ad ∧ ad.block < B ∧ ∀ j u, xs[j]? = some u → w.cell? (ad.add j) = some u := h.resolve_left hn

structure Fr (S : List Nat) (w w' : World) : Prop where
 os : w'.os = w.os
 tape : w'.tape = w.tape
 output : w'.output = w.output
 size : w.heap.size ≤ w'.heap.size
 block : ∀ b, b < w.heap.size → b ∉ S → w'.heap[b]? = w.heap[b]?

section
variable {S S' : List Nat} {w w1 w2 : World}
theorem Fr.refl (S : List Nat) (w : World) : Fr S w w := ⟨rfl, rfl, rfl, znr, fun _ _ _ => rfl⟩
theorem Fr.trans (h : Fr S w w1) (k : Fr S' w1 w2) (hs : ∀ b ∈ S', b ∈ S ∨ w.heap.size ≤ b) : Fr S w w2 :=
 ⟨k.os.trans h.os, k.tape.trans h.tape, k.output.trans h.output, Nat.le_trans h.size k.size, fun b hb hn =>
  (k.block b (Nat.lt_of_lt_of_le hb h.size) fun hm => (hs b hm).elim hn fun h' => by omega).trans (h.block b hb hn)⟩
theorem Fr.more (h : Fr S w w1) (hs : ∀ b ∈ S, b ∈ S' ∨ w.heap.size ≤ b) : Fr S' w w1 := ⟨h.os, h.tape, h.output, h.size, fun b hb hn => h.block b hb fun hm => (hs b hm).elim hn fun h' => by omega⟩
theorem Fr.of_below (h : Below w.heap.size w w1) (S : List Nat) : Fr S w w1 := ⟨h.os, h.tape, h.output, h.size, fun b hb _ => h.block b hb⟩
theorem Fr.to_below {B : Nat} (h : Fr S w w1) (hB : B ≤ w.heap.size) (hs : ∀ b ∈ S, B ≤ b) : Below B w w1 := ⟨h.os, h.tape, h.output, h.size, fun b hb => h.block b (by omega) fun hm => by have := hs b hm; omega⟩
theorem Fr.alloc (h : Fr S w w1) (o : Obj) : Fr S w (w1.alloc o) := h.trans (.of_below (zbr.alloc znr o) S) fun b hb => .inl hb
theorem Fr.drew (h : Fr S w w1) : Fr S w w1.drew := ⟨h.os, h.tape, h.output, h.size, h.block⟩
theorem Fr.drewN (h : Fr S w w1) (n : Nat) : Fr S w (w1.drewN n) := ⟨h.os, h.tape, h.output, h.size, h.block⟩
theorem Fr.set (h : Fr S w w1) {a : Addr} (u : Value) (ha : a.block ∈ S ∨ w.heap.size ≤ a.block) : Fr S w (w1.setCell a u) :=
 ⟨h.os, h.tape, h.output, by simpa [World.setCell] using h.size, fun b hb hn => (Below.heap_setCell _ _ _ _ fun e => by
  subst e
  rcases ha with ha | ha
  ·exact hn ha
  ·omega).trans (h.block b hb hn)⟩
theorem Fr.grown (h : Fr S w w1) {row : Option Nat} (hg : w1.grownBy w2 row) (hr : ∀ g, row = some g → g ∈ S ∨ w.heap.size ≤ g) : Fr S w w2 :=
 ⟨hg.os.trans h.os, hg.tape.trans h.tape, hg.output.trans h.output, Nat.le_trans h.size hg.size, fun b hb hn =>
  (hg.block b (Nat.lt_of_lt_of_le hb h.size) fun e => (hr b e.symm).elim hn fun h' => by omega).trans (h.block b hb hn)⟩
theorem Fr.blk (h : Fr S w w1) {b : Nat} {o : Obj} (hb : w.heap[b]? = some o) (hn : b ∉ S) : w1.heap[b]? = some o := (h.block b (blk_lt hb) hn).trans hb
theorem Fr.own (h : Fr S w w1) {base : Nat} {e : TypeId} {sz n : Nat} {v : Value} {xs : List Value} (ho : w.ownsRow base e sz v n xs) (hn : ∀ g, v.ownBlock = some g → g ∉ S) : w1.ownsRow base e sz v n xs := by
 obtain ⟨h1, h2⟩ := ho
 refine ⟨h1, h2.imp id ?_⟩
 rintro ⟨g, cap, cur, rfl, hg, hh, r⟩
 exact ⟨g, cap, cur, rfl, hg, h.blk hh (hn g rfl), r⟩
theorem Fr.map {H : Type} {P : Program} {k : TypeId} {R : Value → Option (DataW H × List MemPlace)} {b n : Nat} {D : DataW H} (h : Fr S w w1) (ho : w.ownsMap P k R b n D) (hn : b ∉ S) : w1.ownsMap P k R b n D := by
 obtain ⟨es, clock, hb, r⟩ := ho
 exact ⟨es, clock, h.blk hb hn, r⟩
end

inductive LTy where
 | mk (kind : Int) (A : Option Addr) (c : Nat) (ns : List ByteArray) (A2 : Option Addr) (c2 : Nat) (xs : List LTy)
namespace LTy
def kind : LTy → Int | .mk k _ _ _ _ _ _ => k
def A : LTy → Option Addr | .mk _ a _ _ _ _ _ => a
def c : LTy → Nat | .mk _ _ c _ _ _ _ => c
def ns : LTy → List ByteArray | .mk _ _ _ n _ _ _ => n
def A2 : LTy → Option Addr | .mk _ _ _ _ a _ _ => a
def c2 : LTy → Nat | .mk _ _ _ _ _ c _ => c
def xs : LTy → List LTy | .mk _ _ _ _ _ _ x => x
def enc (t : LTy) : List Value := [.int .i64 t.kind, .slice t.A t.ns.length t.c, .slice t.A2 t.xs.length t.c2]
end LTy
theorem enc_len (t : LTy) : t.enc.length = 3 := rfl
inductive LIn (w : World) (B : Nat) : LTy → Prop
 | mk {t : LTy} : Reads w B t.A (t.ns.map Value.string) → Reads w B t.A2 (t.xs.flatMap LTy.enc) → t.ns.length ≤ t.c → t.ns.length ≤ 8796093022208 → t.xs.length ≤ t.c2 → t.xs.length ≤ 8796093022208 → (∀ s ∈ t.ns, s.size ≤ 140737488355328) → (t.A = none → t.c = 0) → (∀ x ∈ t.xs, LIn w B x) → LIn w B t
theorem Reads.more {w : World} {B B' : Nat} {A : Option Addr} {xs : List Value} (h : Reads w B A xs) (hB : B ≤ B') : Reads w B' A xs :=
 h.imp id fun ⟨ad, h1, h2, h3⟩ => ⟨ad, h1, by omega, h3⟩
section
variable {w w' : World} {B B' : Nat} {t x : LTy} {k : Nat}
theorem LIn.names (h : LIn w B t) : Reads w B t.A (t.ns.map Value.string) := by cases h; assumption
theorem LIn.parts (h : LIn w B t) : Reads w B t.A2 (t.xs.flatMap LTy.enc) := by cases h; assumption
theorem LIn.n1 (h : LIn w B t) : t.ns.length ≤ t.c ∧ t.ns.length ≤ 8796093022208 := by cases h; exact ⟨by assumption, by assumption⟩
theorem LIn.n2 (h : LIn w B t) : t.xs.length ≤ t.c2 ∧ t.xs.length ≤ 8796093022208 := by cases h; exact ⟨by assumption, by assumption⟩
theorem LIn.mem (h : LIn w B t) (hx : x ∈ t.xs) : LIn w B x := by
 cases h with
 | mk _ _ _ _ _ _ _ _ h => exact h x hx
theorem LIn.part (h : LIn w B t) (hx : t.xs[k]? = some x) : LIn w B x := h.mem (List.mem_of_getElem? hx)
theorem LIn.stay (h : LIn w B t) (hb : Below B w w') : LIn w' B t := by
 induction h with
 | mk h1 h2 h3 h4 h5 h6 h7 hA h8 ih => exact .mk (h1.below hb) (h2.below hb) h3 h4 h5 h6 h7 hA ih
theorem LIn.more (h : LIn w B t) (hB : B ≤ B') : LIn w B' t := by
 induction h with
 | mk h1 h2 h3 h4 h5 h6 h7 hA h8 ih => exact .mk (h1.more hB) (h2.more hB) h3 h4 h5 h6 h7 hA ih
theorem LIn.on (h : LIn w w.heap.size t) (hb : Below w.heap.size w w') : LIn w' w'.heap.size t := (h.stay hb).more hb.size
theorem LIn.cells (h : LIn w B t) (hx : t.xs[k]? = some x) : ∃ ad, t.A2 = some ad ∧ ad.block < B ∧ w.cell? (ad.add (k * 3)) = some (.int .i64 x.kind) ∧
  w.cell? ⟨(ad.add (k * 3)).block, (ad.add (k * 3)).off + 1, none⟩ = some (.slice x.A x.ns.length x.c) ∧ w.cell? ⟨(ad.add (k * 3)).block, (ad.add (k * 3)).off + 2, none⟩ = some (.slice x.A2 x.xs.length x.c2) := by
 obtain ⟨ad, h1, h2, h3⟩ := h.parts.at (flatMap_ne (K := 3) enc_len (by omega) hx)
 exact ⟨ad, h1, h2, elem_zero (K := 3) enc_len h3 hx (by omega) rfl, elem_at (K := 3) enc_len h3 hx 1 (by omega) (by omega) rfl, elem_at (K := 3) enc_len h3 hx 2 (by omega) (by omega) rfl⟩
theorem LIn.name (h : LIn w B t) {s : ByteArray} (hs : t.ns[k]? = some s) : ∃ ad, t.A = some ad ∧ ad.block < B ∧ w.cell? (ad.add k) = some (.string s) := by
 obtain ⟨ad, h1, h2, h3⟩ := h.names.at (fun e => by
  have := (List.getElem?_eq_some_iff.1 hs).1; rw [List.map_eq_nil_iff] at e; rw [e] at this; simp at this)
 exact ⟨ad, h1, h2, h3 k _ (by rw [List.getElem?_map, hs]; rfl)⟩
end
end Go.Proofs.YthobobmbileekaaGreatDoor
namespace Go.Proofs.YthobobmbileekaaGreatDoor
open Go.ChangeShapes Go.WideShapes Go.ChangeAt Go.RowKit Go.Maps

theorem lawS : Keyed Tryz.prog 9 := string_keyed Tryz.underlying9
theorem name_key {nm : ByteArray} (hs : nm.size ≤ maxLen) : keyOf Tryz.prog 9 (.string nm) = some (.string nm.data.toList) := by
 rw [keyOf_string Tryz.underlying9]
 simp [mapKey, Tryz.underlying9, hs]
theorem or32_all : ∀ c : Fin 256, bits .or .u8 (c.1 : Int) 32 = ((c.1 ||| 32 : Nat) : Int) ∧ ((97 ≤ c.1 ||| 32 ∧ c.1 ||| 32 ≤ 122) ↔ (97 ≤ c.1 ∧ c.1 ≤ 122) ∨ (65 ≤ c.1 ∧ c.1 ≤ 90)) := by decide +kernel
theorem or32 (c : Nat) (hc : c < 256) : ∃ o : Nat, bits .or .u8 (c : Int) 32 = (o : Int) ∧ ((97 ≤ o ∧ o ≤ 122) ↔ (97 ≤ c ∧ c ≤ 122) ∨ (65 ≤ c ∧ c ≤ 90)) := ⟨_, or32_all ⟨c, hc⟩⟩
theorem digits_any (c : Nat) (w : World) (hc : c < 256) : Calls Tryz.prog 61 #[.int .u8 (c : Int)] w (Ret (.bool (digitN c)) w) := by
 go_enter Tryz.func61, Tryz.ntmps61
 go_wp2
 all_goals
  go_ret
  refine ⟨ret_bool ?_, rfl⟩; rw [Bool.eq_iff_iff]; simp [digitN]
  try omega
theorem part_any (c : Nat) (w : World) (hc : c < 256) : Calls Tryz.prog 40 #[.int .u8 (c : Int)] w (Ret (.bool (partN c)) w) := by
 obtain ⟨o, ho, hoo⟩ := or32 c hc
 have HO := zh hoo
 clear hoo
 go_enter Tryz.func40, Tryz.ntmps40
 go_wp2
 all_goals
  go_ret
  refine ⟨ret_bool ?_, rfl⟩; have hoo := HO.out; clear HO
  try simp only [ho]
  rw [Bool.eq_iff_iff]; simp [partN, letterN, digitN]
  try omega
theorem rletter_any (c : Nat) (w : World) (hc : c < 256) : Calls Tryz.prog 54 #[.int .u8 (c : Int)] w (Ret (.bool (letterN c)) w) := by
 go_enter Tryz.func54, Tryz.ntmps54
 go_wp2
 all_goals
  go_ret
  refine ⟨ret_bool ?_, rfl⟩; rw [Bool.eq_iff_iff]; simp [letterN]
  try omega
theorem rpart_any (c : Nat) (w : World) (hc : c < 256) : Calls Tryz.prog 56 #[.int .u8 (c : Int)] w (Ret (.bool (partN c)) w) := by
 have h := fun w => rletter_any c w hc
 have H := zh h
 clear h
 cases hl : letterN c
 all_goals
  rw [hl] at H
  go_enter Tryz.func56, Tryz.ntmps56
  go_wp2_with (go_at_call 54; refine (H.out _).mono ?_; rintro e w1 ⟨rfl, rfl⟩)
 all_goals
  go_ret
  refine ⟨ret_bool ?_, rfl⟩; rw [Bool.eq_iff_iff]; simp [partN, hl, digitN]
  try omega
theorem ne_word {s c : ByteArray} {l : List UInt8} (h : ¬ s = c) (hl : c.data.toList = l) : (s.toList == l) = false := by
 rw [beq_eq_false_iff_ne]
 intro e
 rw [← hl, ByteArray.toList_eq] at e
 exact h (ByteArray.ext (Array.toList_inj.1 e))
theorem rword_any (s : ByteArray) (w : World) : Calls Tryz.prog 55 #[.string s] w (Ret (.bool (tb (s ∈ wordsL))) w) := by
 by_cases h0 : s = ⟨#[97, 110, 100]⟩
 ·subst h0
  rw [tb_true (by simp [wordsL])]
  go_enter Tryz.func55, Tryz.ntmps55
  go_wp2
  go_ret
  exact ⟨rfl, rfl⟩
 by_cases h1 : s = ⟨#[98, 114, 101, 97, 107]⟩
 ·subst h1
  rw [tb_true (by simp [wordsL])]
  go_enter Tryz.func55, Tryz.ntmps55
  go_wp2
  go_ret
  exact ⟨rfl, rfl⟩
 by_cases h2 : s = ⟨#[99, 104, 97, 110, 110, 101, 108]⟩
 ·subst h2
  rw [tb_true (by simp [wordsL])]
  go_enter Tryz.func55, Tryz.ntmps55
  go_wp2
  go_ret
  exact ⟨rfl, rfl⟩
 by_cases h3 : s = ⟨#[100, 111]⟩
 ·subst h3
  rw [tb_true (by simp [wordsL])]
  go_enter Tryz.func55, Tryz.ntmps55
  go_wp2
  go_ret
  exact ⟨rfl, rfl⟩
 by_cases h4 : s = ⟨#[101, 108, 115, 101]⟩
 ·subst h4
  rw [tb_true (by simp [wordsL])]
  go_enter Tryz.func55, Tryz.ntmps55
  go_wp2
  go_ret
  exact ⟨rfl, rfl⟩
 by_cases h5 : s = ⟨#[101, 108, 115, 101, 105, 102]⟩
 ·subst h5
  rw [tb_true (by simp [wordsL])]
  go_enter Tryz.func55, Tryz.ntmps55
  go_wp2
  go_ret
  exact ⟨rfl, rfl⟩
 by_cases h6 : s = ⟨#[101, 110, 100]⟩
 ·subst h6
  rw [tb_true (by simp [wordsL])]
  go_enter Tryz.func55, Tryz.ntmps55
  go_wp2
  go_ret
  exact ⟨rfl, rfl⟩
 by_cases h7 : s = ⟨#[102, 97, 108, 115, 101]⟩
 ·subst h7
  rw [tb_true (by simp [wordsL])]
  go_enter Tryz.func55, Tryz.ntmps55
  go_wp2
  go_ret
  exact ⟨rfl, rfl⟩
 by_cases h8 : s = ⟨#[102, 117, 110, 99, 116, 105, 111, 110]⟩
 ·subst h8
  rw [tb_true (by simp [wordsL])]
  go_enter Tryz.func55, Tryz.ntmps55
  go_wp2
  go_ret
  exact ⟨rfl, rfl⟩
 by_cases h9 : s = ⟨#[105, 102]⟩
 ·subst h9
  rw [tb_true (by simp [wordsL])]
  go_enter Tryz.func55, Tryz.ntmps55
  go_wp2
  go_ret
  exact ⟨rfl, rfl⟩
 by_cases h10 : s = ⟨#[108, 111, 99, 97, 108]⟩
 ·subst h10
  rw [tb_true (by simp [wordsL])]
  go_enter Tryz.func55, Tryz.ntmps55
  go_wp2
  go_ret
  exact ⟨rfl, rfl⟩
 by_cases h11 : s = ⟨#[110, 105, 108]⟩
 ·subst h11
  rw [tb_true (by simp [wordsL])]
  go_enter Tryz.func55, Tryz.ntmps55
  go_wp2
  go_ret
  exact ⟨rfl, rfl⟩
 by_cases h12 : s = ⟨#[110, 111, 116]⟩
 ·subst h12
  rw [tb_true (by simp [wordsL])]
  go_enter Tryz.func55, Tryz.ntmps55
  go_wp2
  go_ret
  exact ⟨rfl, rfl⟩
 by_cases h13 : s = ⟨#[111, 114]⟩
 ·subst h13
  rw [tb_true (by simp [wordsL])]
  go_enter Tryz.func55, Tryz.ntmps55
  go_wp2
  go_ret
  exact ⟨rfl, rfl⟩
 by_cases h14 : s = ⟨#[114, 101, 116, 117, 114, 110]⟩
 ·subst h14
  rw [tb_true (by simp [wordsL])]
  go_enter Tryz.func55, Tryz.ntmps55
  go_wp2
  go_ret
  exact ⟨rfl, rfl⟩
 by_cases h15 : s = ⟨#[116, 104, 101, 110]⟩
 ·subst h15
  rw [tb_true (by simp [wordsL])]
  go_enter Tryz.func55, Tryz.ntmps55
  go_wp2
  go_ret
  exact ⟨rfl, rfl⟩
 by_cases h16 : s = ⟨#[116, 114, 117, 101]⟩
 ·subst h16
  rw [tb_true (by simp [wordsL])]
  go_enter Tryz.func55, Tryz.ntmps55
  go_wp2
  go_ret
  exact ⟨rfl, rfl⟩
 by_cases h17 : s = ⟨#[119, 104, 105, 108, 101]⟩
 ·subst h17
  rw [tb_true (by simp [wordsL])]
  go_enter Tryz.func55, Tryz.ntmps55
  go_wp2
  go_ret
  exact ⟨rfl, rfl⟩
 rw [tb_false (by simp [wordsL, h0, h1, h2, h3, h4, h5, h6, h7, h8, h9, h10, h11, h12, h13, h14, h15, h16, h17])]
 have e0 : (s.toList == [97, 110, 100]) = false := ne_word h0 rfl
 have e1 : (s.toList == [98, 114, 101, 97, 107]) = false := ne_word h1 rfl
 have e2 : (s.toList == [99, 104, 97, 110, 110, 101, 108]) = false := ne_word h2 rfl
 have e3 : (s.toList == [100, 111]) = false := ne_word h3 rfl
 have e4 : (s.toList == [101, 108, 115, 101]) = false := ne_word h4 rfl
 have e5 : (s.toList == [101, 108, 115, 101, 105, 102]) = false := ne_word h5 rfl
 have e6 : (s.toList == [101, 110, 100]) = false := ne_word h6 rfl
 have e7 : (s.toList == [102, 97, 108, 115, 101]) = false := ne_word h7 rfl
 have e8 : (s.toList == [102, 117, 110, 99, 116, 105, 111, 110]) = false := ne_word h8 rfl
 have e9 : (s.toList == [105, 102]) = false := ne_word h9 rfl
 have e10 : (s.toList == [108, 111, 99, 97, 108]) = false := ne_word h10 rfl
 have e11 : (s.toList == [110, 105, 108]) = false := ne_word h11 rfl
 have e12 : (s.toList == [110, 111, 116]) = false := ne_word h12 rfl
 have e13 : (s.toList == [111, 114]) = false := ne_word h13 rfl
 have e14 : (s.toList == [114, 101, 116, 117, 114, 110]) = false := ne_word h14 rfl
 have e15 : (s.toList == [116, 104, 101, 110]) = false := ne_word h15 rfl
 have e16 : (s.toList == [116, 114, 117, 101]) = false := ne_word h16 rfl
 have e17 : (s.toList == [119, 104, 105, 108, 101]) = false := ne_word h17 rfl
 clear h0 h1 h2 h3 h4 h5 h6 h7 h8 h9 h10 h11 h12 h13 h14 h15 h16 h17
 go_enter Tryz.func55, Tryz.ntmps55
 go_wp2
 go_ret
 exact ⟨rfl, rfl⟩
theorem byte_at {s : ByteArray} {k : Nat} (h : k < s.size) : s.data.toList[k]? = some s[k] := by
 rw [List.getElem?_eq_getElem (by simpa using h)]
 rfl
theorem name_no {s : ByteArray} {k : Nat} (h : k < s.size) (hp : partN s[k].toNat = false) : ¬ NameOk s := fun e => by
 have := e.2.1 _ (List.mem_of_getElem? (byte_at h))
 rw [hp] at this
 cases this
theorem name_yes {s : ByteArray} (h0 : 0 < s.size) (hw : s ∉ wordsL) (hl : letterN s[0].toNat = true) (hp : ∀ (j : Nat) (h : j < s.size), partN s[j].toNat = true) : NameOk s :=
 ⟨hw, fun c hc => by
  obtain ⟨j, hj⟩ := List.getElem?_of_mem hc; have hlt : j < s.size := by have := (List.getElem?_eq_some_iff.1 hj).1; simpa using this
  rw [byte_at hlt] at hj; rw [← Option.some.inj hj]; exact hp j hlt, _, byte_at h0, hl⟩
theorem rname_any (s : ByteArray) (hs : s.size ≤ 140737488355328) (w : World) : Calls Tryz.prog 27 #[.string s] w (Ret (.bool (tb (NameOk s))) w) := by
 by_cases h0 : s.size = 0
 ·rw [tb_false (fun e => by
   obtain ⟨c, hc, _⟩ := e.2.2; have h1 := (List.getElem?_eq_some_iff.1 hc).1; have h2 : s.data.toList.length = s.size := by simp
   omega)]
  have hem : s = ByteArray.empty := by
   refine ByteArray.ext (Array.eq_empty_of_size_eq_zero ?_); exact h0
  subst hem
  go_enter Tryz.func27, Tryz.ntmps27
  go_wp2
  go_ret
  exact ⟨rfl, rfl⟩
 have hp0 : 0 < s.size := by omega
 have hne : (s.toList == []) = false := by
  rw [beq_eq_false_iff_ne, ByteArray.toList_eq]; intro e; have h1 : s.data.toList.length = 0 := by rw [e]; rfl
  have h2 : s.data.toList.length = s.size := by simp
  omega
 have hlet := fun w => rletter_any s[0].toNat w (UInt8.toNat_lt _)
 have hword := fun w => rword_any s w
 have hpart := fun (k : Nat) (h : k < s.size) w => rpart_any s[k].toNat w (UInt8.toNat_lt _)
 have HP := zh hpart
 have HW := zh hword
 have HL := zh hlet
 clear hpart hword hlet h0
 cases hl : letterN s[0].toNat
 ·rw [tb_false (fun e => by
   obtain ⟨c, hc, h1⟩ := e.2.2; rw [byte_at hp0] at hc; rw [← Option.some.inj hc, hl] at h1
   cases h1)]
  rw [hl] at HL; clear hl
  go_enter Tryz.func27, Tryz.ntmps27
  go_wp2_with fail
  refine (HL.out _).mono ?_; rintro e w1 ⟨rfl, rfl⟩; go_wp2
  go_ret
  exact ⟨rfl, rfl⟩
 rw [hl] at HL
 by_cases hw : s ∈ wordsL
 ·rw [tb_false (fun e => e.1 hw)]
  rw [tb_true hw] at HW; clear hl hw
  go_enter Tryz.func27, Tryz.ntmps27
  go_wp2_with fail
  refine (HL.out _).mono ?_; rintro e w1 ⟨rfl, rfl⟩; go_wp2_with fail
  refine (HW.out _).mono ?_; rintro e w1 ⟨rfl, rfl⟩; go_wp2
  go_ret
  exact ⟨rfl, rfl⟩
 rw [tb_false hw] at HW
 have HNW := zh hw
 have HLL := zh hl
 obtain ⟨ans, hans⟩ : ∃ ans, ans = tb (NameOk s) := ⟨_, rfl⟩
 rw [← hans]
 have HA := zh hans
 clear hl hw hans
 go_enter Tryz.func27, Tryz.ntmps27
 go_wp2_with fail
 refine (HL.out _).mono ?_
 rintro e w1 ⟨rfl, rfl⟩
 go_wp2_with fail
 refine (HW.out _).mono ?_
 rintro e w1 ⟨rfl, rfl⟩
 go_wp2_with fail
 go_loopw [3] (fun i wr => ∃ k : Nat, k ≤ s.size ∧ i = .int .i64 k ∧ Hid (∀ (j : Nat) (h : j < s.size), j < k → partN s[j].toNat = true) ∧ wr = w) (fun i _ => s.size - (intOf i).toNat)
 case atStart => exact ⟨0, by omega, rfl, zh (fun j h hj => by omega), rfl⟩
 case round =>
  obtain ⟨k, hk, rfl, HK, rfl⟩ := hrel; by_cases hlt : k < s.size
  ·have hpk := fun w => HP.out k hlt w
   have hk' : (k : Int) < (s.size : Int) := by omega
   have hk0 : (0 : Int) ≤ k := by omega
   have HPk := zh hpk; clear hpk
   cases hpp : partN s[k].toNat
   ·rw [hpp] at HPk
    have e : ans = false := by rw [HA.out]; exact tb_false (name_no hlt hpp)
    subst e; clear hpp; go_wp2_with fail
    refine (HPk.out _).mono ?_; rintro e w1 ⟨rfl, rfl⟩; go_wp2
    go_ret
    exact ⟨rfl, rfl⟩
   ·rw [hpp] at HPk
    have HK2 := zh (show ∀ (j : Nat) (h : j < s.size), j < k + 1 → partN s[j].toNat = true from fun j h hj => by
     rcases Nat.lt_or_ge j k with h1 | h1
     ·exact HK.out j h h1
     ·obtain rfl : j = k := by omega
      exact hpp)
    clear hpp; go_wp2_with fail
    refine (HPk.out _).mono ?_; rintro e w1 ⟨rfl, rfl⟩; go_wp2_with fail
    go_roundw
    case rel => exact ⟨k + 1, by omega, by go_num, HK2, (by first | rfl | trivial)⟩
    case measure => simp [intOf]; omega
  ·obtain rfl : k = s.size := by omega
   have e : ans = true := by rw [HA.out]; exact tb_true (name_yes hp0 HNW.out HLL.out (fun j h => HK.out j h h))
   subst e; go_wp2
   go_ret
   exact ⟨rfl, rfl⟩

def SpW (w : World) : Prop := Lib.TabIs Tryz.prog w "strings.asciiSpace" .u8 Lib.asciiSpaceTab
theorem SpW.below {w w' : World} (h : SpW w) (hb : Below w.heap.size w w') : SpW w' := Lib.tabBelow_of_tabIs h _ hb
def wordsText : ByteArray := ⟨#[97, 110, 100, 32, 98, 114, 101, 97, 107, 32, 99, 104, 97, 110, 110, 101, 108, 32, 100, 111, 32, 101, 108, 115, 101, 32, 101, 108, 115, 101, 105, 102, 32, 101, 110, 100, 32, 102, 97, 108, 115, 101, 32, 102, 117, 110, 99, 116, 105, 111, 110, 32, 105, 102, 32, 108, 111, 99, 97, 108, 32, 110, 105, 108, 32, 110, 111, 116, 32, 111, 114, 32, 114, 101, 116, 117, 114, 110, 32, 116, 104, 101, 110, 32, 116, 114, 117, 101, 32, 119, 104, 105, 108, 101]⟩
theorem words_fields : (Lib.fields wordsText.data.toList).map (fun l => Value.string ⟨l.toArray⟩) = wordsL.map Value.string := by kernel_rfl
theorem words_len : (Lib.fields wordsText.data.toList).length = 18 := by kernel_rfl
theorem words_size : ∀ x ∈ wordsL, x.size ≤ maxLen := by
 intro x hx
 simp [wordsL] at hx
 rcases hx with rfl | rfl | rfl | rfl | rfl | rfl | rfl | rfl | rfl | rfl | rfl | rfl | rfl | rfl | rfl | rfl | rfl | rfl <;> (unfold maxLen; simp [ByteArray.size])
def WMap (D : DataW Unit) (L : List ByteArray) : Prop := ∀ s : ByteArray, D.atKey (.string s.data.toList) (.lit (.int .i64 0)) = .lit (.int .i64 (if tb (s ∈ L) = true then 1 else 0))
theorem wmap_nil : WMap (.map []) [] := fun s => by rw [tb_false (by simp)]; rfl
theorem wmap_put {D : DataW Unit} {L : List ByteArray} (h : WMap D L) (hD : Maps.IsMap D) (x : ByteArray) : WMap (D.put (.string x.data.toList) (.lit (.int .i64 1))) (L ++ [x]) := by
 intro s
 by_cases e : s = x
 ·subst e
  rw [Maps.atKey_put_same hD (show WideAt.IsKeyLit (.string s.data.toList) from trivial), tb_true (by simp)]
  rfl
 ·have hne : Lit.string s.data.toList ≠ Lit.string x.data.toList := fun k => e (ByteArray.ext (Array.toList_inj.1 (by injection k)))
  rw [Maps.atKey_put_other hne, h s, tb_congr (show (s ∈ L ++ [x]) ↔ s ∈ L by simp [e])]
def WordsOut (w : World) (e : Ending) (w' : World) : Prop := ∃ (b n : Nat) (D : DataW Unit), e = .returned (.map (some b)) ∧ w.heap.size ≤ b ∧ w'.ownsMap Tryz.prog 9 (plainElem Tryz.prog 3) b n D ∧ WMap D wordsL ∧ Below w.heap.size w w'
theorem words_any (w : World) (hT : SpW w) : Calls Tryz.prog 17 #[] w (WordsOut w) := by
 have hmm := @run_makeMap Tryz.prog
 have hf := fun w h => Tryz.strings_Fields wordsText w (by decide +kernel) (by
  intro j b hb; have : ∀ c ∈ wordsText.data.toList, c.toNat < 128 := by decide +kernel
  exact this b (List.mem_of_getElem? hb)) h
 rw [words_fields, words_len] at hf
 unfold wordsText at hf
 have HF := zh hf
 have HT := zh hT
 clear hf hT
 go_enter Tryz.func17, Tryz.ntmps17
 go_wp2_with fail
 refine (HF.out _ (HT.out.below (zbr.alloc znr _))).mono ?_
 rintro e w1 ⟨rfl, rfl⟩
 go_wp2_with fail
 have hnb : w.heap.size ≤ w.heap.size := znr
 go_loopw [7] (fun i wr => ∃ (k : Nat) (D1 : DataW Unit), k ≤ 18 ∧ i = .int .i64 k ∧ Hid (Below w.heap.size w wr) ∧ Hid (wr.heap[w.heap.size + 1]? = some (.cells (wordsL.map Value.string).toArray 9 (0, 0))) ∧ wr.ownsMap Tryz.prog 9 (plainElem Tryz.prog 3) w.heap.size k D1 ∧ Hid (WMap D1 (wordsL.take k))) (fun i wr => 18 - (intOf i).toNat)
 case atStart => exact ⟨0, .map [], by omega, rfl, zh ((zbr.alloc znr _).alloc (by simp) _), zh (heap_new_at _ _ _ (by simp)), (World.ownsMap_made w _ _ _).alloc _, zh wmap_nil⟩
 case round =>
  obtain ⟨k, D1, hk, rfl, HB, HC, hM, HN⟩ := hrel; by_cases hlt : k < 18
  ·obtain ⟨x, hx⟩ : ∃ x, wordsL[k]? = some x := ⟨_, List.getElem?_eq_getElem (by exact hlt)⟩
   have hxs := words_size x (List.mem_of_getElem? hx); have x0 : wr.cell? ⟨w.heap.size + 1, k, none⟩ = some (.string x) := cell_of_blk HC.out (by rw [List.getElem?_toArray, List.getElem?_map, hx]; rfl); have HN2 := zh (show WMap (D1.put (.string x.data.toList) (.lit (.int .i64 1))) (wordsL.take (k + 1)) by
    rw [List.take_add_one, hx]; exact wmap_put HN.out hM.isMap x)
   have hk' : (k : Int) < 18 := by omega
   have hk0 : (0 : Int) ≤ k := by omega
   have hlw := blk_lt HC.out; clear hx; go_wp2_with (at_mapUpdate; refine wpList_mapUpdate_own _ rfl _ _ _ 42 rfl 9 3 lawS Tryz.underlying42 _ w.heap.size k D1 rfl hM (by unfold maxLen; omega) _ _ _ rfl rfl (name_key hxs) _ [] (plainElem_int Tryz.underlying3 (by decide)) ?_; intro w3 hm3 hg3)
   go_roundw
   case rel => exact ⟨k + 1, _, by omega, by go_num, zh (HB.out.grown hg3 HB.out.size (fun g hg => by rw [← Option.some.inj hg]; omega)), zh (blk_grown HC.out hg3 (by simp)), hm3, HN2⟩
   case measure => simp [intOf]; omega
  ·obtain rfl : k = 18 := by omega
   go_wp2
   go_ret
   exact ⟨_, _, D1, rfl, znr, hM, by have := HN.out; rwa [show wordsL.take 18 = wordsL from rfl] at this, HB.out⟩
theorem look_word {w : World} {b n : Nat} {D : DataW Unit} {L : List ByteArray} (h : w.ownsMap Tryz.prog 9 (plainElem Tryz.prog 3) b n D) (hD : WMap D L) (s : ByteArray) (hs : s.size ≤ maxLen) :
  ∀ W : World, W.heap[b]? = w.heap[b]? → (Instr.lookup 42 (.map (some b)) (.string s) false).run Tryz.prog W = .ok (.int .i64 (if tb (s ∈ L) = true then 1 else 0)) W := fun W hW => by
 have h' : W.ownsMap Tryz.prog 9 (plainElem Tryz.prog 3) b n D := by
  obtain ⟨es, clock, hb, r⟩ := h; exact ⟨es, clock, hW.trans hb, r⟩
 obtain ⟨c, hrun, hat, _⟩ := h'.lookup_int lawS Tryz.underlying42 Tryz.underlying3 (Tryz.zeroValue3 W) (name_key hs)
 have := hat.symm.trans (hD s)
 rw [hrun]
 simp only [DataW.lit.injEq, Lit.int.injEq, true_and] at this
 rw [this]
end Go.Proofs.YthobobmbileekaaGreatDoor
namespace Go.Proofs.YthobobmbileekaaGreatDoor
open Go.ChangeShapes Go.WideShapes Go.ChangeAt Go.RowKit

theorem gen_wpT {P : Program} {Q : Exit → Act → World → Prop} {c : Code} {a : Act} {w : World} (h : ∀ W, w = W → c.wp P Q a W) : c.wp P Q a w := h w rfl
def ScB (w : World) (g : Nat) (s : ByteArray) (i mb : Nat) : Prop := w.heap[g]? = some (.cells #[.string s, .int .i64 (i : Int), .map (some mb)] 60 (0, 0))
section
variable {w w' : World} {g i mb : Nat} {s : ByteArray}
theorem ScB.c0 (h : ScB w g s i mb) : w.cell? ⟨g, 0, none⟩ = some (.string s) := cell_of_blk h rfl
theorem ScB.c1 (h : ScB w g s i mb) : w.cell? ⟨g, 1, none⟩ = some (.int .i64 (i : Int)) := cell_of_blk h rfl
theorem ScB.c2 (h : ScB w g s i mb) : w.cell? ⟨g, 2, none⟩ = some (.map (some mb)) := cell_of_blk h rfl
theorem ScB.lt (h : ScB w g s i mb) : g < w.heap.size := blk_lt h
theorem ScB.fr (h : ScB w g s i mb) : w.frozen? ⟨g, 1, none⟩ = false := free_of_blk h
theorem ScB.below (h : ScB w g s i mb) (hb : Below w.heap.size w w') : ScB w' g s i mb := below_blk hb h
theorem ScB.drewN (h : ScB w g s i mb) (n : Nat) : ScB (w.drewN n) g s i mb := h
theorem ScB.set (h : ScB w g s i mb) (j : Nat) : ScB (w.setCell ⟨g, 1, none⟩ (.int .i64 (j : Int))) g s j mb := blk_set (i := 1) h _
end
def tailB (s : ByteArray) (i : Nat) : ByteArray := s.extract i s.size
theorem tailB_list (s : ByteArray) (i : Nat) : (tailB s i).data.toList = s.data.toList.drop i := by
 unfold tailB
 rw [ByteArray.data_extract, Array.toList_extract]
 simp only [List.extract]
 exact List.take_of_length_le (by simp)
theorem tailB_size (s : ByteArray) (i : Nat) : (tailB s i).size = s.size - i := by unfold tailB; simp
def wrongX (a n : Int) : List PanicEntry := [{ v := .iface 55 (.agg #[.int .i64 a, .int .i64 n]), recovered := false }]
theorem xmust_ok (x : Value) (a n : Int) (w : World) : Calls Tryz.prog 63 #[x, .bool true, .int .i64 a, .int .i64 n] w fun e w' => e = .returned (.tuple #[]) ∧ w = w' := by
 go_enter Tryz.func63, Tryz.ntmps63
 go_wp2
 go_end0
 exact ⟨rfl, rfl⟩
theorem xmust_no (x : Value) (a n : Int) (w : World) : Calls Tryz.prog 63 #[x, .bool false, .int .i64 a, .int .i64 n] w fun e w' => e = .panicked (wrongX a n) ∧ w = w' := by
 go_enter Tryz.func63, Tryz.ntmps63
 go_wp2
 exact ⟨rfl, rfl, rfl⟩
theorem xrest_any {g i mb : Nat} {s : ByteArray} (w : World) (h : ScB w g s i mb) (hi : i ≤ s.size) : Calls Tryz.prog 65 #[.pointer (some ⟨g, 0, none⟩)] w fun e w' => e = .returned (.string (tailB s i)) ∧ ∃ q, w' = w.drewN q := by
 have c0 := h.c0
 have c1 := h.c1
 have cl := h.lt
 have h0 : (0 : Int) ≤ i := by omega
 have h1 : (i : Int) ≤ (s.size : Int) := by omega
 go_enter Tryz.func65, Tryz.ntmps65
 go_wp2_with fail
 go_quiet (fail)
 go_wp2
 go_ret
 exact ⟨rfl, _, rfl⟩
theorem num_hex_all : ∀ c : Fin 256, numS ⟨#[48, 120, UInt8.ofNat c.1]⟩ = if hexV c.1 < 16 then some (hexV c.1 : Int) else none := by decide +kernel
theorem num_hex (c : UInt8) : numS ⟨#[48, 120, c]⟩ = if hexV c.toNat < 16 then some (hexV c.toNat : Int) else none := by
 have h := num_hex_all ⟨c.toNat, UInt8.toNat_lt c⟩
 simp only [UInt8.ofNat_toNat] at h
 exact h
def hexO (s : ByteArray) (p : Nat) : Option Nat := match s.data.toList[p]? with
 | none => none
 | some c => if hexV c.toNat < 16 then some (hexV c.toNat) else none
def HexOut (s : ByteArray) (p : Nat) (fr : Int) (w : World) (e : Ending) (w' : World) : Prop := Below w.heap.size w w' ∧ ((∃ v, hexO s p = some v ∧ v < 16 ∧ e = .returned (.int .u8 (v : Int))) ∨ (hexO s p = none ∧ e = .panicked (wrongX fr 52)))
theorem xhex_any {g i mb : Nat} {s : ByteArray} (hs : s.size ≤ 1000000) (p : Nat) (hp : p ≤ 2000000) (fr : Int) (w : World) (h : ScB w g s i mb) : Calls Tryz.prog 64 #[.pointer (some ⟨g, 0, none⟩), .int .i64 (p : Int), .int .i64 fr] w (HexOut s p fr w) := by
 have c0 := h.c0
 have cl := h.lt
 by_cases hlt : p < s.size
 case neg =>
  have hn := zh (show hexO s p = none by unfold hexO; rw [List.getElem?_eq_none (by simp; omega)]); have hd' : ¬ (p : Int) < (s.size : Int) := by omega
  clear hlt h
  go_enter Tryz.func64, Tryz.ntmps64
  go_wp2_with fail
  with_reducible refine (xmust_no _ _ _ _).mono ?_
  rintro e w1 ⟨rfl, rfl⟩; go_wp2
  exact ⟨rfl, zbr, .inr ⟨hn.out, rfl⟩⟩
 have hd' : (p : Int) < (s.size : Int) := by omega
 have hx := byte_at hlt
 obtain ⟨c, hc⟩ : ∃ c, c = s[p] := ⟨_, rfl⟩
 rw [← hc] at hx
 have hext : s.extract p (p + 1) = ⟨#[c]⟩ := by
  refine ByteArray.ext (Array.toList_inj.1 ?_); rw [ByteArray.data_extract, Array.toList_extract]; have hl : p < s.data.toList.length := by simpa using hlt
  simp only [List.extract, Nat.add_sub_cancel_left]
  rw [List.drop_eq_getElem_cons hl, List.take_succ_cons, List.take_zero]; rw [List.getElem?_eq_getElem hl] at hx; rw [Option.some.inj hx]
 have hN : ∀ w, Calls Tryz.prog 62 #[.string (⟨#[48, 120]⟩ ++ ⟨#[c]⟩)] w (RetB (.tuple #[.int .i64 ((if hexV c.toNat < 16 then some (hexV c.toNat : Int) else none).getD 0), .bool (if hexV c.toNat < 16 then some (hexV c.toNat : Int) else none).isSome]) w) := fun w => by
  have := number_any ⟨#[48, 120, c]⟩ w (by show 3 ≤ maxLen; unfold maxLen; omega); rw [num_hex] at this; exact this
 have h0 : (0 : Int) ≤ p := by omega
 have h1 : (p : Int) + 1 ≤ (s.size : Int) := by omega
 have h2 : (p : Int) ≤ (p : Int) + 1 := by omega
 have hw : IntKind.i64.wrap ((p : Int) + 1) = ((p + 1 : Nat) : Int) := by rw [show ((p : Int) + 1) = ((p + 1 : Nat) : Int) by omega]; exact IntWalk.i64_in _ (by omega)
 by_cases hv : hexV c.toNat < 16
 case neg =>
  have HO := zh (show hexO s p = none by unfold hexO; rw [hx]; simp [hv]); rw [if_neg hv] at hN; have HN := zh hN; clear hN hv hx hc h hlt
  go_enter Tryz.func64, Tryz.ntmps64
  go_wp2_with fail
  with_reducible refine (xmust_ok _ _ _ _).mono ?_
  rintro e w1 ⟨rfl, rfl⟩; go_wp2_with fail
  with_reducible refine (HN.out _).mono ?_
  rintro e w2 ⟨rfl, hb2⟩; have HB := zh hb2; clear hb2; go_wp2_with fail
  with_reducible refine (xmust_no _ _ _ _).mono ?_
  rintro e w3 ⟨rfl, rfl⟩; go_wp2
  exact ⟨rfl, HB.out, .inr ⟨HO.out, rfl⟩⟩
 have HO := zh (show hexO s p = some (hexV c.toNat) by unfold hexO; rw [hx]; simp [hv])
 have HV := zh hv
 rw [if_pos hv] at hN
 have HN := zh hN
 obtain ⟨v, hvv⟩ : ∃ v, v = hexV c.toNat := ⟨_, rfl⟩
 rw [← hvv] at HN HO HV
 have hcv : IntKind.u8.wrap (v : Int) = (v : Int) := by have := HV.out; rw [IntKind.wrap_u8]; omega
 clear hN hv hx hc h hlt hvv
 go_enter Tryz.func64, Tryz.ntmps64
 go_wp2_with fail
 with_reducible refine (xmust_ok _ _ _ _).mono ?_
 rintro e w1 ⟨rfl, rfl⟩
 go_wp2_with fail
 with_reducible refine (HN.out _).mono ?_
 rintro e w2 ⟨rfl, hb2⟩
 have HB := zh hb2
 clear hb2
 go_wp2_with fail
 with_reducible refine (xmust_ok _ _ _ _).mono ?_
 rintro e w3 ⟨rfl, rfl⟩
 go_wp2
 go_ret
 exact ⟨HB.out, .inl ⟨v, HO.out, HV.out, rfl⟩⟩
end Go.Proofs.YthobobmbileekaaGreatDoor
