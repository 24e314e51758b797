/-
  Tokens, plain: where they stand; what is quoted is read again.
-/
import Derived.Test.YtmjkelmlbihkpaaDoorLexTP
import Derived.Test.YtmjkelmlbihkpaaDoorLexW
import Derived.Test.YtmjkelmlbihkpaaDoorQuoteP
set_option linter.unusedVariables false
set_option linter.unusedSimpArgs false
namespace Go.Proofs.YtmjkelmlbihkpaaDoor

theorem tokenL_err {l : List UInt8} {er : Nat} (h : tokenL l = .inl er) : er = 50 ∨ er = 51 ∨ er = 52 := by
  match l with
  | [] => simp [tokenL] at h; omega
  | c :: r =>
    rw [tokenL] at h
    split at h
    · simp only at h
      split at h
      · simp at h
      · split at h
        · simp at h; omega
        · simp at h
    · split at h
      · split at h
        · simp at h; omega
        · simp at h
      · split at h
        · simp at h; omega
        · simp at h
theorem scanF_err : ∀ (f : Nat) (l : List UInt8) (p : Nat) (acc : List Tok) (q er : Nat), scanF f l p acc = .inl (q, er) → (er = 50 ∨ er = 51 ∨ er = 52) ∧ p ≤ q ∧ q < p + l.length
  | 0, l, p, acc, q, er, h => by simp [scanF] at h
  | f + 1, l, p, acc, q, er, h => by
    rw [scanF] at h
    by_cases hl : l = []
    · rw [if_pos hl] at h; simp at h
    · rw [if_neg hl] at h
      have h0 : 0 < l.length := List.length_pos_iff.2 hl
      match ht : tokenL l with
      | .inl e =>
        rw [ht] at h
        simp only [Sum.inl.injEq, Prod.mk.injEq] at h
        obtain ⟨rfl, rfl⟩ := h
        exact ⟨tokenL_err ht, Nat.le_refl _, by omega⟩
      | .inr (k, x, v, n) =>
        rw [ht] at h
        have h1 := tokenL_len ht
        have h2 := blankL_le (l.drop n) false
        have h3 := scanF_err f _ _ _ q er h
        rw [List.length_drop] at h2 h3
        exact ⟨h3.1, by omega, by omega⟩
theorem scanL_err {L : List UInt8} {q er : Nat} (h : scanL L = .inl (q, er)) : (er = 50 ∨ er = 51 ∨ er = 52) ∧ q < L.length := by
  unfold scanL scanAt at h
  have h1 := scanF_err _ _ _ _ q er h
  have h2 := blankL_le L false
  rw [List.length_drop] at h1
  exact ⟨h1.1, by omega⟩
theorem tokenL_text {s : ByteArray} {p : Nat} {k : Int} {x : ByteArray} {v : Int} {n : Nat} (h : tokenL (s.data.toList.drop p) = .inr (k, x, v, n)) (h4 : k ≠ 4) : x = s.extract p (p + n) := by
  rw [ext_take]
  generalize s.data.toList.drop p = l at h ⊢
  match l with
  | [] => simp [tokenL] at h
  | c :: r =>
    rw [tokenL] at h
    split at h
    · simp only at h
      split at h
      · simp only [Sum.inr.injEq, Prod.mk.injEq] at h
        obtain ⟨_, rfl, _, rfl⟩ := h
        rfl
      · split at h
        · simp at h
        · simp only [Sum.inr.injEq, Prod.mk.injEq] at h
          obtain ⟨_, rfl, _, rfl⟩ := h
          rfl
    · split at h
      · split at h
        · simp at h
        · simp only [Sum.inr.injEq, Prod.mk.injEq] at h
          exact (h4 h.1.symm).elim
      · split at h
        · simp at h
        · simp only [Sum.inr.injEq, Prod.mk.injEq] at h
          obtain ⟨_, rfl, _, rfl⟩ := h
          rfl
/-- Where the token ahead of place k ends. -/
def lastZ (l : List Tok) (k : Nat) : Nat := ((l.take k).getLast?.map Tok.z).getD 0
theorem lastZ_zero (l : List Tok) : lastZ l 0 = 0 := by simp [lastZ]
theorem lastZ_succ {l : List Tok} {k : Nat} {t : Tok} (h : l[k]? = some t) : lastZ l (k + 1) = t.z := by
  unfold lastZ
  rw [List.take_add_one, h]
  simp
theorem lastZ_app {l : List Tok} {k : Nat} (h : k ≤ l.length) (r : List Tok) : lastZ (l ++ r) k = lastZ l k := by
  unfold lastZ
  rw [List.take_append_of_le_length h]
def SpanAt (s : ByteArray) (l : List Tok) (k : Nat) (t : Tok) : Prop := lastZ l k ≤ t.a ∧ t.a ≤ t.z ∧ t.z ≤ s.size ∧ (t.kind ≠ 4 → t.text = s.extract t.a t.z)
def Spans (s : ByteArray) (l : List Tok) : Prop := ∀ (k : Nat) (t : Tok), l[k]? = some t → SpanAt s l k t
theorem spans_snoc {s : ByteArray} {l : List Tok} {t : Tok} (h : Spans s l) (ht : SpanAt s l l.length t) : Spans s (l ++ [t]) := fun k u hu => by
  rcases Nat.lt_or_ge k l.length with hk | hk
  · rw [List.getElem?_append_left hk] at hu
    have h1 := h k u hu
    unfold SpanAt at h1 ⊢
    rw [lastZ_app (by omega)]
    exact h1
  · rw [List.getElem?_append_right hk] at hu
    have hk2 : k = l.length := by
      have := (List.getElem?_eq_some_iff.1 hu).1
      simp at this
      omega
    subst hk2
    simp at hu
    subst hu
    unfold SpanAt at ht ⊢
    rw [lastZ_app (by omega)]
    exact ht
theorem spans_nil (s : ByteArray) : Spans s [] := fun k t h => by simp at h
theorem lastZ_all {l : List Tok} {t : Tok} : lastZ (l ++ [t]) (l ++ [t]).length = t.z := by
  unfold lastZ
  rw [List.take_length]
  simp
theorem scanF_spans (s : ByteArray) : ∀ (f p : Nat) (acc toks : List Tok), s.size < f + p → p ≤ s.size → scanF f (s.data.toList.drop p) p acc = .inr toks → Spans s acc → lastZ acc acc.length ≤ p →
    Spans s toks ∧ ∃ l, toks = l ++ [⟨0, ⟨#[]⟩, s.size, s.size, 0⟩]
  | 0, p, acc, toks, hf, hp, _, _, _ => by omega
  | f + 1, p, acc, toks, hf, hp, h, ha, hz => by
    have hlen : s.data.toList.length = s.size := by simp
    rw [scanF] at h
    by_cases hl : s.data.toList.drop p = []
    · rw [if_pos hl] at h
      have hps : p = s.size := by
        have := congrArg List.length hl
        rw [List.length_drop, hlen, List.length_nil] at this
        omega
      injection h with h
      subst h
      rw [hps] at hz ⊢
      refine ⟨spans_snoc ha ⟨hz, Nat.le_refl _, Nat.le_refl _, fun _ => ?_⟩, acc, rfl⟩
      have := ext_take s s.size 0
      rw [Nat.add_zero, List.take_zero] at this
      exact this.symm
    · rw [if_neg hl] at h
      match ht : tokenL (s.data.toList.drop p) with
      | .inl e => rw [ht] at h; simp at h
      | .inr (k, x, v, n) =>
        rw [ht] at h
        have h1 := tokenL_len ht
        have h2 := blankL_le ((s.data.toList.drop p).drop n) false
        rw [List.length_drop, hlen] at h1
        rw [List.length_drop, List.length_drop, hlen] at h2
        simp only at h
        rw [List.drop_drop] at h
        obtain ⟨b, hb⟩ : ∃ b, b = blankL false ((s.data.toList.drop p).drop n) := ⟨_, rfl⟩
        rw [List.drop_drop] at hb h2
        rw [List.drop_drop, ← hb] at h
        rw [← hb] at h2
        refine scanF_spans s f (p + (n + b)) _ toks (by omega) (by omega) h (spans_snoc ha ⟨hz, by show p ≤ p + n; omega, by show p + n ≤ s.size; omega, fun h4 => tokenL_text ht h4⟩) ?_
        rw [lastZ_all]
        show p + n ≤ _
        omega
theorem scanL_spans {s : ByteArray} {toks : List Tok} (h : scanL s.data.toList = .inr toks) : Spans s toks ∧ ∃ l, toks = l ++ [⟨0, ⟨#[]⟩, s.size, s.size, 0⟩] := by
  have hlen : s.data.toList.length = s.size := by simp
  have h2 := blankL_le s.data.toList false
  unfold scanL scanAt at h
  refine scanF_spans s _ _ [] toks ?_ (by omega) h (spans_nil s) (by rw [List.length_nil, lastZ_zero]; omega)
  rw [List.length_drop, hlen]
  omega
/-- What is quoted is read again. -/
theorem hexD_back : ∀ q : Fin 16, hexV (hexD q.1).toNat = q.1 ∧ ¬ (hexD q.1) = 92 := by decide +kernel
theorem step_quoted (c : UInt8) (r : List UInt8) : stepT (qbyte c ++ r) = some (some (c, (qbyte c).length)) := by
  unfold qbyte
  by_cases h10 : c = 10
  · subst h10
    rw [if_pos rfl]
    show stepT (92 :: 110 :: r) = _
    rw [step_esc]
    rfl
  rw [if_neg h10]
  by_cases h34 : c = 34 ∨ c = 92
  · rw [if_pos h34]
    show stepT (92 :: c :: r) = _
    rw [step_esc]
    simp only
    rw [if_neg (by rcases h34 with rfl | rfl <;> decide), if_pos h34.symm]
    rfl
  rw [if_neg h34]
  by_cases h32 : c.toNat < 32 ∨ 126 < c.toNat
  · rw [if_pos h32]
    show stepT (92 :: 120 :: hexD (c.toNat / 16) :: hexD (c.toNat % 16) :: r) = _
    rw [step_esc]
    simp only
    have hc := c.toNat_lt
    have h1 := (hexD_back ⟨c.toNat / 16, by omega⟩).1
    have h2 := (hexD_back ⟨c.toNat % 16, by omega⟩).1
    simp only at h1 h2
    rw [if_neg (by decide), if_neg (by decide), if_neg (by decide), h1, h2, if_pos ⟨by omega, by omega⟩, show 16 * (c.toNat / 16) + c.toNat % 16 = c.toNat by omega]
    simp
  · rw [if_neg h32]
    exact step_byte h32 (fun h => h34 (.inl h)) (fun h => h34 (.inr h))
theorem text_quoted : ∀ (l : List UInt8), textL (l.flatMap qbyte ++ [34]) = some (l, (l.flatMap qbyte ++ [34]).length)
  | [] => by
    rw [List.flatMap_nil, List.nil_append, textL_end step_end]
    rfl
  | c :: l => by
    rw [List.flatMap_cons, List.append_assoc, textL_on (step_quoted c _), List.drop_left, text_quoted l]
    simp
theorem scan_quoted (l : List UInt8) : scanL (quoteB l) = .inr [⟨4, ⟨l.toArray⟩, 0, (quoteB l).length, 0⟩, ⟨0, ⟨#[]⟩, (quoteB l).length, (quoteB l).length, 0⟩] := by
  have e : quoteB l = 34 :: (l.flatMap qbyte ++ [34]) := rfl
  have ht : tokenL ((quoteB l).drop 0) = .inr (4, ⟨l.toArray⟩, 0, (quoteB l).length) := by
    rw [List.drop_zero, tok_text e, text_quoted l, e]
    simp
  unfold scanL
  rw [show blankL false (quoteB l) = 0 by rw [e]; exact blank_no (by decide) (fun h => absurd h.1 (by decide)), scanAt_on (by rw [e]; simp) ht]
  rw [Nat.zero_add, List.drop_length, blank_nil, Nat.add_zero, scanAt_end (Nat.le_refl _)]
  rfl
end Go.Proofs.YtmjkelmlbihkpaaDoor
