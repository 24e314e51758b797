/-
  Types in memory: a type with its addresses; how its cells lie; what stays when memory grows.
-/
import Derived.Test.YtohllalninoomaaDoorTyP
import Derived.Test.YtohllalninoomaaDoorOpen
import Derived.Test.YtohllalninoomaaDoorFr
set_option linter.unusedVariables false
set_option linter.unusedSimpArgs false
namespace Go.Proofs.YtohllalninoomaaDoor
open Go.ChangeShapes Go.WideShapes Go.ChangeAt Go.RowKit

/-- A type with the addresses of its names and its parts. -/
inductive LTy where
  | mk (kind : Int) (A : Option Addr) (c : Nat) (ns : List ByteArray) (A2 : Option Addr) (c2 : Nat) (xs : List LTy)
namespace LTy
def kind : LTy → Int | .mk k _ _ _ _ _ _ => k
def A : LTy → Option Addr | .mk _ a _ _ _ _ _ => a
def c : LTy → Nat | .mk _ _ c _ _ _ _ => c
def ns : LTy → List ByteArray | .mk _ _ _ n _ _ _ => n
def A2 : LTy → Option Addr | .mk _ _ _ _ a _ _ => a
def c2 : LTy → Nat | .mk _ _ _ _ _ c _ => c
def xs : LTy → List LTy | .mk _ _ _ _ _ _ x => x
/-- The three cells. -/
def enc (t : LTy) : List Value := [.int .i64 t.kind, .slice t.A t.ns.length t.c, .slice t.A2 t.xs.length t.c2]
/-- The value. -/
def val (t : LTy) : Value := .agg #[.int .i64 t.kind, .slice t.A t.ns.length t.c, .slice t.A2 t.xs.length t.c2]
end LTy
theorem lty_ind {P : LTy → Prop} (h : ∀ t : LTy, (∀ x ∈ t.xs, P x) → P t) : ∀ t, P t
  | .mk k A c ns A2 c2 xs => h _ (fun x hx => by
      have hx : x ∈ xs := hx
      exact lty_ind h x)
mutual
/-- Without the addresses. -/
def strip : LTy → Ty
  | .mk k _ _ ns _ _ xs => .mk k ns (stripL xs)
def stripL : List LTy → List Ty
  | [] => []
  | x :: xs => strip x :: stripL xs
end
theorem stripL_map : ∀ xs : List LTy, stripL xs = xs.map strip
  | [] => by rw [stripL]; rfl
  | x :: xs => by rw [stripL, stripL_map xs]; rfl
theorem strip_mk (t : LTy) : strip t = .mk t.kind t.ns (t.xs.map strip) := by cases t; rw [strip, stripL_map]; rfl
theorem strip_kind (t : LTy) : (strip t).kind = t.kind := by rw [strip_mk]; rfl
theorem strip_names (t : LTy) : (strip t).names = t.ns := by rw [strip_mk]; rfl
theorem strip_args (t : LTy) : (strip t).args = t.xs.map strip := by rw [strip_mk]; rfl
theorem strip_len (t : LTy) : (strip t).args.length = t.xs.length := by rw [strip_args, List.length_map]
theorem strip_at {t x : LTy} {i : Nat} (h : t.xs[i]? = some x) : (strip t).args[i]? = some (strip x) := by rw [strip_args, List.getElem?_map, h]; rfl
theorem strip_of {t : LTy} {i : Nat} {a : Ty} (h : (strip t).args[i]? = some a) : ∃ x, t.xs[i]? = some x ∧ strip x = a := by
  rw [strip_args, List.getElem?_map] at h
  simpa using h
theorem enc_len (t : LTy) : t.enc.length = 3 := rfl
theorem val_enc (t : LTy) : t.val = .agg t.enc.toArray := rfl

/-- A type that lies in memory, below block B. -/
inductive LIn (w : World) (B : Nat) : LTy → Prop
  | mk {t : LTy} : Reads w B t.A (t.ns.map Value.string) → Reads w B t.A2 (t.xs.flatMap LTy.enc) → t.ns.length ≤ t.c → t.ns.length ≤ 8796093022208 → t.xs.length ≤ t.c2 → t.xs.length ≤ 8796093022208 → (∀ s ∈ t.ns, s.size ≤ 140737488355328) → (t.A = none → t.c = 0) → (∀ x ∈ t.xs, LIn w B x) → LIn w B t
theorem Reads.more {w : World} {B B' : Nat} {A : Option Addr} {xs : List Value} (h : Reads w B A xs) (hB : B ≤ B') : Reads w B' A xs :=
  h.imp id fun ⟨ad, h1, h2, h3⟩ => ⟨ad, h1, by omega, h3⟩
section
variable {w w' : World} {B B' : Nat} {t x : LTy} {k : Nat}
theorem LIn.names (h : LIn w B t) : Reads w B t.A (t.ns.map Value.string) := by cases h; assumption
theorem LIn.parts (h : LIn w B t) : Reads w B t.A2 (t.xs.flatMap LTy.enc) := by cases h; assumption
theorem LIn.n1 (h : LIn w B t) : t.ns.length ≤ t.c ∧ t.ns.length ≤ 8796093022208 := by cases h; exact ⟨by assumption, by assumption⟩
theorem LIn.n2 (h : LIn w B t) : t.xs.length ≤ t.c2 ∧ t.xs.length ≤ 8796093022208 := by cases h; exact ⟨by assumption, by assumption⟩
theorem LIn.room (h : LIn w B t) : ∀ s ∈ t.ns, s.size ≤ 140737488355328 := by cases h; assumption
theorem LIn.nilA (h : LIn w B t) : t.A = none → t.c = 0 := by cases h; assumption
theorem LIn.mem (h : LIn w B t) (hx : x ∈ t.xs) : LIn w B x := by
  cases h with
  | mk _ _ _ _ _ _ _ _ h => exact h x hx
theorem LIn.part (h : LIn w B t) (hx : t.xs[k]? = some x) : LIn w B x := h.mem (List.mem_of_getElem? hx)
theorem LIn.stay (h : LIn w B t) (hb : Below B w w') : LIn w' B t := by
  induction h with
  | mk h1 h2 h3 h4 h5 h6 h7 hA h8 ih => exact .mk (h1.below hb) (h2.below hb) h3 h4 h5 h6 h7 hA ih
theorem LIn.more (h : LIn w B t) (hB : B ≤ B') : LIn w B' t := by
  induction h with
  | mk h1 h2 h3 h4 h5 h6 h7 hA h8 ih => exact .mk (h1.more hB) (h2.more hB) h3 h4 h5 h6 h7 hA ih
/-- From the old heap's size on to a later world, all of whose new blocks lie behind. -/
theorem LIn.on (h : LIn w w.heap.size t) (hb : Below w.heap.size w w') : LIn w' w'.heap.size t := (h.stay hb).more hb.size
/-- The cells of part k. -/
theorem LIn.cells (h : LIn w B t) (hx : t.xs[k]? = some x) : ∃ ad, t.A2 = some ad ∧ ad.block < B ∧ w.cell? (ad.add (k * 3)) = some (.int .i64 x.kind) ∧
    w.cell? ⟨(ad.add (k * 3)).block, (ad.add (k * 3)).off + 1, none⟩ = some (.slice x.A x.ns.length x.c) ∧ w.cell? ⟨(ad.add (k * 3)).block, (ad.add (k * 3)).off + 2, none⟩ = some (.slice x.A2 x.xs.length x.c2) := by
  obtain ⟨ad, h1, h2, h3⟩ := h.parts.at (flatMap_ne (K := 3) enc_len (by omega) hx)
  exact ⟨ad, h1, h2, elem_zero (K := 3) enc_len h3 hx (by omega) rfl, elem_at (K := 3) enc_len h3 hx 1 (by omega) (by omega) rfl, elem_at (K := 3) enc_len h3 hx 2 (by omega) (by omega) rfl⟩
/-- The cell of name k. -/
theorem LIn.name (h : LIn w B t) {s : ByteArray} (hs : t.ns[k]? = some s) : ∃ ad, t.A = some ad ∧ ad.block < B ∧ w.cell? (ad.add k) = some (.string s) := by
  obtain ⟨ad, h1, h2, h3⟩ := h.names.at (fun e => by
    have := (List.getElem?_eq_some_iff.1 hs).1
    rw [List.map_eq_nil_iff] at e
    rw [e] at this
    simp at this)
  exact ⟨ad, h1, h2, h3 k _ (by rw [List.getElem?_map, hs]; rfl)⟩
end
/-- The nodes of a located type. -/
theorem nodes_part {t x : LTy} {i : Nat} (h : t.xs[i]? = some x) : nodes (strip x) < nodes (strip t) := by
  have := nodes_mem (List.mem_of_getElem? (strip_at h))
  rw [nodes_args (strip t)]
  omega
end Go.Proofs.YtohllalninoomaaDoor
