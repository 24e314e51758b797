/-
  Which types may be: the reference's walk.
-/
import Derived.Test.YtohllalninoomaaDoorTyLex
import Derived.Test.YtohllalninoomaaDoorTyChk
import Derived.Test.YtohllalninoomaaDoorTyLike
set_option linter.unusedVariables false
set_option linter.unusedSimpArgs false
namespace Go.Proofs.YtohllalninoomaaDoor
open Go.ChangeShapes Go.WideShapes Go.ChangeAt Go.RowKit

def RChkPost (t : LTy) (deep m : Nat) (w : World) (e : Ending) (w' : World) : Prop :=
  ∃ (m' : Nat) (ok : Bool), e = .returned (.tuple #[.int .i64 (m' : Int), .bool ok]) ∧ Below w.heap.size w w' ∧ (ok = true → m' = m + nodes (strip t) ∧ Chk (51 - deep) (strip t) ∧ m' ≤ 8796093032209) ∧ (Chk (51 - deep) (strip t) → m + nodes (strip t) ≤ 10000 → ok = true)
theorem rchk_no {t : LTy} {deep m m' : Nat} {w w' : World} (hb : Below w.heap.size w w') (h : ¬ (Chk (51 - deep) (strip t) ∧ m + nodes (strip t) ≤ 10000)) : RChkPost t deep m w (.returned (.tuple #[.int .i64 (m' : Int), .bool false])) w' :=
  ⟨m', false, rfl, hb, (fun e => by cases e), fun h1 h2 => (h ⟨h1, h2⟩).elim⟩
theorem ret_two {e : Ending} {v v' : Value} (h : v = v') (he : e = .returned v) : e = .returned v' := h ▸ he
theorem rchk_yes {t : LTy} {deep m m' : Nat} {w w' : World} (hb : Below w.heap.size w w') (h1 : m' = m + nodes (strip t)) (h2 : Chk (51 - deep) (strip t)) (h3 : m' ≤ 8796093032209) : RChkPost t deep m w (.returned (.tuple #[.int .i64 (m' : Int), .bool true])) w' :=
  ⟨m', true, rfl, hb, (fun _ => ⟨h1, h2, h3⟩), fun _ _ => rfl⟩
theorem chk_up {deep : Nat} (hd : deep ≤ 50) : 51 - deep = (50 - deep) + 1 := by omega
theorem union_part {t x : LTy} {k deep : Nat} {last : Int} (hK : t.kind = 7) (hx : t.xs[k]? = some x) (hl : (k = 0 ∧ last = 0) ∨ (0 < k ∧ ∃ y, t.xs[k - 1]? = some y ∧ last = y.kind)) (h0 : 0 ≤ last) (hd : deep ≤ 50) :
    (PartOk (strip t).kind (strip t).names (strip t).args k (strip x) ∧ Chk (50 - deep) (strip x)) ↔ (deep < 50 ∧ last < x.kind ∧ x.kind ≤ 6 ∧ x.ns.length = 0 ∧ x.xs.length = 0) := by
  rw [strip_kind, hK]
  constructor
  · rintro ⟨hp, hc⟩
    have h1 := hp.1 rfl
    rw [strip_kind] at h1
    have h2 := chk_deep hc
    have h3 := chk_head hc
    have h4 : x.ns.length = 0 ∧ x.xs.length = 0 := by rcases h3 with ⟨_, _, h, h'⟩ | ⟨h, _⟩ | ⟨h, _⟩ | ⟨h, _⟩ <;> first | omega | exact ⟨h, h'⟩
    refine ⟨by omega, ?_, by omega, h4.1, h4.2⟩
    rcases hl with ⟨_, rfl⟩ | ⟨hk, y, hy, rfl⟩
    · exact h1.1
    · have := h1.2.2 (strip y) hk (strip_at hy)
      rwa [strip_kind] at this
  · rintro ⟨h1, h2, h3, h4, h5⟩
    refine ⟨⟨fun _ => ?_, (fun e => by cases e)⟩, ?_⟩
    · rw [strip_kind]
      refine ⟨by omega, by omega, fun b hk hb => ?_⟩
      rcases hl with ⟨h, _⟩ | ⟨_, y, hy, rfl⟩
      · omega
      · have := strip_at hy
        rw [this] at hb
        rw [← Option.some.inj hb, strip_kind]
        exact h2
    · obtain ⟨n, hn⟩ : ∃ n, 50 - deep = n + 1 := ⟨49 - deep, by omega⟩
      rw [hn]
      refine ⟨.inl ⟨by rw [strip_kind]; omega, by rw [strip_kind]; omega, by rw [strip_names]; exact h4, by rw [strip_len]; exact h5⟩, fun i a ha => ?_⟩
      rw [strip_args, List.eq_nil_of_length_eq_zero h5] at ha
      simp at ha
theorem shape_part {t x : LTy} {k : Nat} {s : ByteArray} (hK : t.kind = 8) (hs : t.ns[k]? = some s) :
    PartOk (strip t).kind (strip t).names (strip t).args k (strip x) ↔ (Flat x.kind ∧ NameOk s ∧ ∀ r, 0 < k → t.ns[k - 1]? = some r → Op.bytesLess r.toList s.toList = true) := by
  rw [strip_kind, hK, strip_names]
  constructor
  · intro e
    have h1 := e.2 rfl
    rw [strip_kind] at h1
    exact ⟨h1.1, (h1.2 s hs).1, (h1.2 s hs).2⟩
  · intro e
    refine ⟨(fun h => by cases h), fun _ => ⟨by rw [strip_kind]; exact e.1, fun s' hs' => ?_⟩⟩
    rw [hs] at hs'
    obtain rfl := Option.some.inj hs'
    exact ⟨e.2.1, e.2.2⟩
theorem other_part {t x : LTy} {k : Nat} (h7 : t.kind ≠ 7) (h8 : t.kind ≠ 8) : PartOk (strip t).kind (strip t).names (strip t).args k (strip x) := by
  rw [strip_kind]
  exact ⟨fun e => (h7 e).elim, fun e => (h8 e).elim⟩
/-- All parts so far may be. -/
def PartsTo (t : LTy) (deep k : Nat) : Prop := ∀ (j : Nat) (a : Ty), j < k → (strip t).args[j]? = some a → PartOk (strip t).kind (strip t).names (strip t).args j a ∧ Chk (50 - deep) a
theorem parts_step {t x : LTy} {deep k : Nat} (h : PartsTo t deep k) (hx : t.xs[k]? = some x) (h1 : PartOk (strip t).kind (strip t).names (strip t).args k (strip x)) (h2 : Chk (50 - deep) (strip x)) : PartsTo t deep (k + 1) := fun j a hj ha => by
  rcases Nat.lt_or_ge j k with h3 | h3
  · exact h j a h3 ha
  · obtain rfl : j = k := by omega
    rw [strip_at hx] at ha
    obtain rfl := Option.some.inj ha
    exact ⟨h1, h2⟩
theorem parts_chk {t : LTy} {deep : Nat} (hd : deep ≤ 50) (hh : HeadOk t.kind t.ns.length t.xs.length) (h : PartsTo t deep t.xs.length) : Chk (51 - deep) (strip t) := by
  rw [chk_up hd]
  refine ⟨by rw [strip_kind, strip_names, strip_len]; exact hh, fun i a ha => h i a ?_ ha⟩
  have := (List.getElem?_eq_some_iff.1 ha).1
  rwa [strip_len] at this
theorem chk_parts {t x : LTy} {deep k : Nat} (hd : deep ≤ 50) (h : Chk (51 - deep) (strip t)) (hx : t.xs[k]? = some x) : PartOk (strip t).kind (strip t).names (strip t).args k (strip x) ∧ Chk (50 - deep) (strip x) := by
  rw [chk_up hd] at h
  exact h.2 k _ (strip_at hx)
theorem nodes_upto {t x : LTy} {k m M : Nat} (hM : M = m + 1 + nodesL ((strip t).args.take k)) (hx : t.xs[k]? = some x) (h : m + nodes (strip t) ≤ 10000) : M + nodes (strip x) ≤ 10000 := by
  have h1 := nodesL_take _ _ _ (strip_at hx)
  have h2 := nodesL_take_le (strip t).args (k + 1)
  rw [nodes_args] at h
  omega
end Go.Proofs.YtohllalninoomaaDoor
