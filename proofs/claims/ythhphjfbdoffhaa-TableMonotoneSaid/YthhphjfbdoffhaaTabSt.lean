/-
  Chapter 04: stamps with more, plainly.
-/
import Derived.Test.YthhphjfbdoffhaaTabMem
set_option linter.unusedVariables false
set_option linter.unusedSimpArgs false
namespace Go.Proofs.Ythhphjfbdoffhaa
open Go.ChangeShapes Go.WideShapes Go.ChangeAt Go.RowKit Go.Maps

abbrev Dist (S : List St) : Prop := S.Pairwise fun a b => a.1.toList ≠ b.1.toList
theorem dist_uniq {S : List St} (hd : Dist S) {i j : Nat} {a b : St} (hi : S[i]? = some a) (hj : S[j]? = some b) (he : a.1.toList = b.1.toList) : i = j := by
  unfold Dist at hd
  rw [List.pairwise_iff_getElem] at hd
  obtain ⟨l1, e1⟩ := List.getElem?_eq_some_iff.1 hi
  obtain ⟨l2, e2⟩ := List.getElem?_eq_some_iff.1 hj
  rcases Nat.lt_trichotomy i j with h | h | h
  · have := hd i j l1 l2 h
    rw [e1, e2] at this
    exact absurd he this
  · exact h
  · have := hd j i l2 l1 h
    rw [e1, e2] at this
    exact absurd he.symm this
theorem withS_has {S : List St} (hd : Dist S) {s : St} {i : Nat} {a : St} (hi : S[i]? = some a) (he : a.1.toList = s.1.toList) : withS S s = S.set i (a.1, bits .and .i64 a.2 s.2) := by
  unfold withS
  rw [if_pos (List.any_eq_true.2 ⟨a, List.mem_of_getElem? hi, by simpa using he⟩)]
  apply List.ext_getElem?
  intro j
  rw [List.getElem?_map, List.getElem?_set]
  split
  · rename_i e
    subst e
    rw [hi, if_pos (List.getElem?_eq_some_iff.1 hi).1]
    simp [he]
  · rename_i e
    cases hj : S[j]? with
    | none => rfl
    | some b =>
      have : ¬ b.1.toList = s.1.toList := fun h => e (dist_uniq hd hi hj (he.trans h.symm))
      simp [this]
theorem withS_no {S : List St} {s : St} (h : ∀ a ∈ S, a.1.toList ≠ s.1.toList) : withS S s = S ++ [s] := by
  unfold withS
  rw [if_neg]
  simp only [List.any_eq_true, not_exists, not_and]
  intro x hx
  simpa using h x hx
theorem withS_names (S : List St) (s : St) : (withS S s).map Prod.fst = S.map Prod.fst ∨ ((∀ a ∈ S, a.1.toList ≠ s.1.toList) ∧ (withS S s).map Prod.fst = S.map Prod.fst ++ [s.1]) := by
  by_cases h : ∀ a ∈ S, a.1.toList ≠ s.1.toList
  · exact .inr ⟨h, by rw [withS_no h]; simp⟩
  · left
    unfold withS
    rw [if_pos]
    · rw [List.map_map]
      apply List.map_congr_left
      intro x _
      simp only [Function.comp]
      split <;> rfl
    · simp only [Classical.not_forall] at h
      obtain ⟨a, ha, he⟩ := h
      exact List.any_eq_true.2 ⟨a, ha, by simpa using he⟩
theorem dist_map (S : List St) : Dist S ↔ (S.map Prod.fst).Pairwise fun a b => a.toList ≠ b.toList := by
  unfold Dist
  rw [List.pairwise_map]
theorem withS_dist {S : List St} (hd : Dist S) (s : St) : Dist (withS S s) := by
  rw [dist_map] at *
  rcases withS_names S s with h | ⟨h, e⟩
  · rw [h]
    exact hd
  · rw [e, List.pairwise_append]
    refine ⟨hd, List.pairwise_singleton _ _, fun a ha b hb => ?_⟩
    rw [List.mem_singleton.1 hb]
    obtain ⟨x, hx, rfl⟩ := List.mem_map.1 ha
    exact h x hx
theorem withS_len (S : List St) (s : St) : S.length ≤ (withS S s).length ∧ (withS S s).length ≤ S.length + 1 := by
  rcases withS_names S s with h | ⟨_, h⟩
  · have := congrArg List.length h
    simp at this
    omega
  · have := congrArg List.length h
    simp at this
    omega
theorem nam_app {D : DataW Unit} {S : List St} (h : NamIs D S) (hD : Maps.IsMap D) {s : St} (hk : ∀ a ∈ S, a.1.toList ≠ s.1.toList) : NamIs (D.put (.string s.1.data.toList) (.lit (.int .i64 S.length))) (S ++ [s]) := by
  have hne : ∀ a ∈ S, Lit.string a.1.data.toList ≠ Lit.string s.1.data.toList := fun a ha e => hk a ha (by
    rw [ByteArray.toList_eq, ByteArray.toList_eq]
    simpa using e)
  refine ⟨fun j g hj => ?_, fun k' hk' => ?_⟩
  · rcases Nat.lt_or_ge j S.length with hlt | hge
    · rw [List.getElem?_append_left hlt] at hj
      have hne := hne g (List.mem_of_getElem? hj)
      rw [Maps.has_put_other hne, Maps.atKey_put_other hne]
      exact h.at_ j g hj
    · rw [List.getElem?_append_right hge] at hj
      obtain rfl : j = S.length := by
        have := (List.getElem?_eq_some_iff.1 hj).1
        simp at this
        omega
      simp at hj
      subst hj
      have hl : WideAt.IsKeyLit (.string s.1.data.toList) := trivial
      exact ⟨Maps.has_put_same hD hl _, Maps.atKey_put_same hD hl _ _⟩
  · have hne : k' ≠ Lit.string s.1.data.toList := fun e => hk' s (by simp) e.symm
    rw [Maps.has_put_other hne]
    exact h.no_ k' fun f hf => hk' f (by simp [hf])
theorem nam_set {D : DataW Unit} {S : List St} (h : NamIs D S) {i : Nat} {a : St} (hi : S[i]? = some a) (v : Int) : NamIs D (S.set i (a.1, v)) := by
  refine ⟨fun j g hj => ?_, fun k hk => h.no_ k fun g hg => ?_⟩
  · rw [List.getElem?_set] at hj
    split at hj
    · rename_i e
      subst e
      split at hj
      · cases hj
        exact h.at_ i a hi
      · cases hj
    · exact h.at_ j g hj
  · obtain ⟨j, hj⟩ := List.getElem?_of_mem hg
    by_cases e : i = j
    · subst e
      rw [hi] at hj
      cases hj
      exact hk (a.1, v) (List.mem_of_getElem? (i := i) (by rw [List.getElem?_set_self (List.getElem?_eq_some_iff.1 hi).1]))
    · exact hk g (List.mem_of_getElem? (i := j) (by rw [List.getElem?_set_ne e]; exact hj))
theorem flat_set1 {v : Int} : ∀ {S : List St} {i : Nat} {a : St}, S[i]? = some a → (S.flatMap stEnc).set (i * 2 + 1) (.int .i64 v) = (S.set i (a.1, v)).flatMap stEnc
  | [], i, f, h => by simp at h
  | x :: S, 0, f, h => by
    simp at h
    subst h
    simp [stEnc]
  | x :: S, i + 1, f, h => by
    have ih := flat_set1 (v := v) (S := S) (i := i) (a := f) (by simpa using h)
    rw [List.set_cons_succ, List.flatMap_cons, List.flatMap_cons, ← ih, List.set_append_right _ _ (by rw [stEnc_len]; omega), stEnc_len]
    congr 2
    omega
theorem stamped_snoc {S L : List St} {k : Nat} {s : St} (h : L[k]? = some s) : stamped S (L.take (k + 1)) = withS (stamped S (L.take k)) s := by
  unfold stamped
  rw [List.take_add_one, h]
  simp [List.foldl_append]
theorem stamped_dist {S : List St} (hd : Dist S) (L : List St) : Dist (stamped S L) := by
  unfold stamped
  induction L generalizing S with
  | nil => exact hd
  | cons s L ih => exact ih (withS_dist hd s)
theorem stamped_len (S L : List St) : S.length ≤ (stamped S L).length ∧ (stamped S L).length ≤ S.length + L.length := by
  unfold stamped
  induction L generalizing S with
  | nil => simp
  | cons s L ih =>
    have h1 := withS_len S s
    have h2 := ih (withS S s)
    simp only [List.foldl_cons, List.length_cons]
    omega
/-- What a look-up by name says of stamps of which no two bear one name. -/
theorem allows_has {S : List St} (hd : Dist S) {i : Nat} {a : St} (hi : S[i]? = some a) (kd : Int) : allowsB S a.1 kd = fitsB a.2 kd := by
  rw [Bool.eq_iff_iff]
  unfold allowsB
  rw [List.all_eq_true]
  constructor
  · intro h
    simpa using h a (List.mem_of_getElem? hi)
  · intro h x hx
    by_cases e : x.1.toList = a.1.toList
    · obtain ⟨j, hj⟩ := List.getElem?_of_mem hx
      obtain rfl := dist_uniq hd hi hj e.symm
      rw [hi] at hj
      cases hj
      simp [h]
    · simp [e]
/-- A name that was stamped is one of the stamps'. -/
theorem withS_mem (S : List St) (s : St) : (∃ a ∈ withS S s, a.1 = s.1) ∧ ∀ b ∈ S, ∃ a ∈ withS S s, a.1 = b.1 := by
  have h0 : ∀ n : ByteArray, n ∈ (withS S s).map Prod.fst → ∃ a ∈ withS S s, a.1 = n := fun n hn => by
    obtain ⟨a, h1, h2⟩ := List.mem_map.1 hn
    exact ⟨a, h1, h2⟩
  rcases withS_names S s with h | ⟨_, h⟩
  · refine ⟨?_, fun b hb => h0 b.1 (by rw [h]; exact List.mem_map_of_mem hb)⟩
    by_cases hx : ∀ a ∈ S, a.1.toList ≠ s.1.toList
    · exact ⟨s, by rw [withS_no hx]; simp, rfl⟩
    · simp only [Classical.not_forall] at hx
      obtain ⟨a, ha, he⟩ := hx
      have he' : a.1.toList = s.1.toList := Classical.not_not.1 he
      obtain ⟨c, hc, hc2⟩ := h0 a.1 (by rw [h]; exact List.mem_map_of_mem ha)
      exact ⟨c, hc, hc2.trans (bytes_eq he')⟩
  · refine ⟨h0 s.1 (by rw [h]; simp), fun b hb => h0 b.1 (by rw [h]; exact List.mem_append_left _ (List.mem_map_of_mem hb))⟩
theorem stamped_mem {S L : List St} : (∀ s ∈ L, ∃ a ∈ stamped S L, a.1 = s.1) ∧ ∀ b ∈ S, ∃ a ∈ stamped S L, a.1 = b.1 := by
  unfold stamped
  induction L generalizing S with
  | nil => exact ⟨fun s hs => (by simp at hs), fun b hb => ⟨b, hb, rfl⟩⟩
  | cons s L ih =>
    obtain ⟨h1, h2⟩ := withS_mem S s
    obtain ⟨i1, i2⟩ := ih (S := withS S s)
    refine ⟨fun x hx => ?_, fun b hb => ?_⟩
    · rcases List.mem_cons.1 hx with rfl | hx
      · obtain ⟨a, ha, he⟩ := h1
        obtain ⟨c, hc, hc2⟩ := i2 a ha
        exact ⟨c, hc, hc2.trans he⟩
      · exact i1 x hx
    · obtain ⟨a, ha, he⟩ := h2 b hb
      obtain ⟨c, hc, hc2⟩ := i2 a ha
      exact ⟨c, hc, hc2.trans he⟩
/-- A stamp that no call named is as it was. -/
theorem withS_old {S : List St} {s a : St} (ha : a ∈ withS S s) (hn : a.1.toList ≠ s.1.toList) : a ∈ S := by
  by_cases hx : ∀ b ∈ S, b.1.toList ≠ s.1.toList
  · rw [withS_no hx] at ha
    rcases List.mem_append.1 ha with h | h
    · exact h
    · rw [List.mem_singleton.1 h] at hn
      exact absurd rfl hn
  · unfold withS at ha
    rw [if_pos] at ha
    · obtain ⟨b, hb, rfl⟩ := List.mem_map.1 ha
      by_cases e : b.1.toList = s.1.toList
      · rw [if_pos e] at hn
        exact absurd e hn
      · rw [if_neg e]
        exact hb
    · simp only [Classical.not_forall] at hx
      obtain ⟨b, hb, he⟩ := hx
      exact List.any_eq_true.2 ⟨b, hb, by simpa using he⟩
theorem stamped_old {S L : List St} {a : St} (ha : a ∈ stamped S L) (hn : ∀ s ∈ L, a.1.toList ≠ s.1.toList) : a ∈ S := by
  unfold stamped at ha
  induction L generalizing S with
  | nil => exact ha
  | cons s L ih => exact withS_old (ih (S := withS S s) ha fun x hx => hn x (by simp [hx])) (hn s (by simp))
/-- What holds of all stamps' names and kinds still does. -/
theorem wrap_i64_rng (n : Int) : I64 (IntKind.i64.wrap n) := by
  rw [IntKind.wrap_i64]
  unfold I64
  omega
theorem bits_rng (a b : Int) : I64 (bits .and .i64 a b) := by
  show I64 (IntKind.i64.wrap ((BitVec.ofInt 64 a &&& BitVec.ofInt 64 b).toNat : Nat))
  exact wrap_i64_rng _
theorem withS_ok {S : List St} {s : St} (h : ∀ a ∈ S, a.1.size ≤ maxLen ∧ I64 a.2) (hs : s.1.size ≤ maxLen ∧ I64 s.2) : ∀ a ∈ withS S s, a.1.size ≤ maxLen ∧ I64 a.2 := by
  intro a ha
  by_cases hx : ∀ b ∈ S, b.1.toList ≠ s.1.toList
  · rw [withS_no hx] at ha
    rcases List.mem_append.1 ha with h' | h'
    · exact h a h'
    · rw [List.mem_singleton.1 h']
      exact hs
  · unfold withS at ha
    rw [if_pos] at ha
    · obtain ⟨b, hb, rfl⟩ := List.mem_map.1 ha
      split
      · have h1 := (h b hb).1
        have h2 := bits_rng b.2 s.2
        generalize bits .and .i64 b.2 s.2 = z at h2 ⊢
        exact ⟨h1, h2⟩
      · exact h b hb
    · simp only [Classical.not_forall] at hx
      obtain ⟨b, hb, he⟩ := hx
      exact List.any_eq_true.2 ⟨b, hb, by simpa using he⟩
theorem stamped_ok {S L : List St} (h : ∀ a ∈ S, a.1.size ≤ maxLen ∧ I64 a.2) (hL : ∀ s ∈ L, s.1.size ≤ maxLen ∧ I64 s.2) : ∀ a ∈ stamped S L, a.1.size ≤ maxLen ∧ I64 a.2 := by
  unfold stamped
  induction L generalizing S with
  | nil => exact h
  | cons s L ih => exact ih (withS_ok h (hL s (by simp))) fun x hx => hL x (by simp [hx])
theorem doStamp_ok {T : TabS} (ok : TabOk T) {L : List St} (hL : ∀ s ∈ L, s.1.size ≤ maxLen ∧ I64 s.2) : TabOk (doStamp T L).2 := by
  unfold doStamp
  split
  · rename_i hst
    refine ⟨ok.l, ok.key, ok.bare, ok.kOk, ok.vOk, stamped_ok ok.sOk hL, ok.dF, stamped_dist ok.dS L, fun a ha => ?_⟩
    by_cases hn : ∀ s ∈ L, a.1.toList ≠ s.1.toList
    · exact ok.st a (stamped_old ha hn)
    · simp only [Classical.not_forall] at hn
      obtain ⟨s, hs, he⟩ := hn
      have he' : a.1 = s.1 := bytes_eq (Classical.not_not.1 he)
      unfold stampOk at hst
      rw [List.all_eq_true] at hst
      have h1 := hst s hs
      split at h1
      · rename_i i hi
        obtain ⟨hk, f, hf, hsame⟩ := findF_some hi
        rw [hf] at h1
        simp only at h1
        obtain ⟨j, hj⟩ := List.getElem?_of_mem ha
        have h2 := allows_has (stamped_dist ok.dS L) hj f.2.kind
        rw [he', h1] at h2
        have h3 := (sameV_iff _ _).1 hsame
        exact ⟨f, List.mem_of_getElem? hf, h3.1, h3.2.2.trans he'.symm, h2.symm⟩
      · cases h1
  · exact ok
theorem doStamp_len (T : TabS) (L : List St) : (doStamp T L).2.F = T.F ∧ (doStamp T L).2.S.length ≤ T.S.length + L.length ∧ (doStamp T L).2.l = T.l := by
  unfold doStamp
  split
  · exact ⟨rfl, (stamped_len T.S L).2, rfl⟩
  · exact ⟨rfl, by simp, rfl⟩
end Go.Proofs.Ythhphjfbdoffhaa
