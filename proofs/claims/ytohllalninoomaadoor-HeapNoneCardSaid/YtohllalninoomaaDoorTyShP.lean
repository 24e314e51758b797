/-
  Types us texts, plain: what is shown is one type's alone.
-/
import Derived.Test.YtohllalninoomaaDoorTyP
set_option linter.unusedVariables false
set_option linter.unusedSimpArgs false
namespace Go.Proofs.YtohllalninoomaaDoor

def nameL (k : Int) : List UInt8 := if k = 0 then [97, 110, 121] else if k = 1 then [110, 105, 108] else if k = 2 then [98, 111, 111, 108] else if k = 3 then [105, 110, 116] else if k = 4 then [115, 116, 114, 105, 110, 103] else if k = 5 then [116, 97, 98, 108, 101] else if k = 6 then [116, 104, 114, 101, 97, 100] else []
def joinTx (sep : List UInt8) : List (List UInt8) → List UInt8
  | [] => []
  | a :: l => a ++ l.flatMap (fun b => sep ++ b)
def fieldL (n : ByteArray) (s : List UInt8) : List UInt8 := n.data.toList ++ (58 :: 32 :: s)
def partsL (k : Int) (ns : List ByteArray) (ss : List (List UInt8)) : List (List UInt8) := if k = 8 then List.zipWith fieldL ns ss else ss
def wrapL (k : Int) (l : List (List UInt8)) : List UInt8 :=
  if k = 7 then joinTx [32, 124, 32] l else if k = 8 then 123 :: (joinTx [44, 32] l ++ [125]) else if k = 9 then 40 :: (joinTx [44, 32] l.dropLast ++ (41 :: 32 :: 45 :: 62 :: 32 :: l.getLast?.getD [])) else nameL k
mutual
/-- A type's text. -/
def showT : Ty → List UInt8
  | .mk k ns xs => wrapL k (partsL k ns (showTL xs))
def showTL : List Ty → List (List UInt8)
  | [] => []
  | a :: xs => showT a :: showTL xs
end
theorem showTL_map : ∀ xs : List Ty, showTL xs = xs.map showT
  | [] => by rw [showTL]; rfl
  | x :: xs => by rw [showTL, showTL_map xs]; rfl
theorem showT_eq (t : Ty) : showT t = wrapL t.kind (partsL t.kind t.names (t.args.map showT)) := by cases t; rw [showT, showTL_map]; rfl

theorem cut_eq (p : UInt8 → Bool) : ∀ {a b r s : List UInt8}, (∀ c ∈ a, p c = true) → (∀ c ∈ b, p c = true) → (∀ c l, r = c :: l → p c = false) → (∀ c l, s = c :: l → p c = false) → a ++ r = b ++ s → a = b ∧ r = s
  | [], [], _, _, _, _, _, _, h => ⟨rfl, h⟩
  | [], y :: b, r, s, _, hb, hr, _, h => by
    have h1 := hr y (b ++ s) (by simpa using h)
    have h2 := hb y (by simp)
    rw [h1] at h2
    cases h2
  | x :: a, [], r, s, ha, _, _, hs, h => by
    have h1 := hs x (a ++ r) (by simpa using h.symm)
    have h2 := ha x (by simp)
    rw [h1] at h2
    cases h2
  | x :: a, y :: b, r, s, ha, hb, hr, hs, h => by
    simp only [List.cons_append, List.cons.injEq] at h
    obtain ⟨rfl, h⟩ := h
    obtain ⟨rfl, h2⟩ := cut_eq p (fun c hc => ha c (by simp [hc])) (fun c hc => hb c (by simp [hc])) hr hs h
    exact ⟨rfl, h2⟩

theorem range7 {k : Int} (h0 : 0 ≤ k) (h6 : k ≤ 6) : k = 0 ∨ k = 1 ∨ k = 2 ∨ k = 3 ∨ k = 4 ∨ k = 5 ∨ k = 6 := by omega
theorem name_inj {k j : Int} (h0 : 0 ≤ k) (h6 : k ≤ 6) (j0 : 0 ≤ j) (j6 : j ≤ 6) (h : nameL k = nameL j) : k = j := by
  rcases range7 h0 h6 with rfl | rfl | rfl | rfl | rfl | rfl | rfl <;> rcases range7 j0 j6 with rfl | rfl | rfl | rfl | rfl | rfl | rfl <;> first | rfl | (exfalso; revert h; decide)
theorem name_low {k : Int} (h0 : 0 ≤ k) (h6 : k ≤ 6) : ∃ c l, nameL k = c :: l ∧ ∀ d ∈ c :: l, 97 ≤ d.toNat ∧ d.toNat ≤ 122 := by
  rcases range7 h0 h6 with rfl | rfl | rfl | rfl | rfl | rfl | rfl <;> exact ⟨_, _, rfl, by decide⟩
theorem name_all {k : Int} (h0 : 0 ≤ k) (h6 : k ≤ 6) : ∀ d ∈ nameL k, 97 ≤ d.toNat ∧ d.toNat ≤ 122 := by
  obtain ⟨c, l, h, h2⟩ := name_low h0 h6
  rw [h]
  exact h2

/-- The kinds that a flat type names. -/
def kindsOf (t : Ty) : List Int := if t.kind = 7 then t.args.map Ty.kind else [t.kind]
theorem leaf_of {n : Nat} {a : Ty} (h : Chk n a) (h0 : 0 < a.kind) (h7 : a.kind < 7) : a = .mk a.kind [] [] := by
  cases n with
  | zero => exact h.elim
  | succ n =>
    rcases h.1 with ⟨_, _, h1, h2⟩ | ⟨h1, _⟩ | ⟨h1, _⟩ | ⟨h1, _⟩
    · exact Ty.ext rfl (List.eq_nil_of_length_eq_zero h1) (List.eq_nil_of_length_eq_zero h2)
    all_goals omega
theorem flat_leaf {n : Nat} {t : Ty} (h : Chk n t) (hf : Flat t.kind) (h7 : t.kind ≠ 7) : t.names = [] ∧ t.args = [] := by
  cases n with
  | zero => exact h.elim
  | succ n =>
    unfold Flat at hf
    rcases h.1 with ⟨_, _, h1, h2⟩ | ⟨h1, _⟩ | ⟨h1, _⟩ | ⟨h1, _⟩
    · exact ⟨List.eq_nil_of_length_eq_zero h1, List.eq_nil_of_length_eq_zero h2⟩
    all_goals omega
theorem union_parts {n : Nat} {t : Ty} (h : Chk n t) (h7 : t.kind = 7) : t.names = [] ∧ 1 < t.args.length ∧ ∀ a ∈ t.args, 0 < a.kind ∧ a.kind < 7 ∧ a = .mk a.kind [] [] := by
  cases n with
  | zero => exact h.elim
  | succ n =>
    rcases h.1 with ⟨_, h1, _⟩ | ⟨_, h1, h2⟩ | ⟨h1, _⟩ | ⟨h1, _⟩
    · omega
    · refine ⟨List.eq_nil_of_length_eq_zero h1, h2, fun a ha => ?_⟩
      obtain ⟨i, hi⟩ := List.getElem?_of_mem ha
      have := (h.2 i a hi).1.1 h7
      exact ⟨this.1, this.2.1, leaf_of (h.2 i a hi).2 this.1 this.2.1⟩
    all_goals omega
theorem map_self {f : Ty → Ty} : ∀ {l : List Ty}, (∀ a ∈ l, a = f a) → l = l.map f
  | [], _ => rfl
  | a :: l, h => by
    rw [List.map_cons, ← h a (by simp), ← map_self (l := l) fun b hb => h b (by simp [hb])]
theorem union_of {n : Nat} {t : Ty} (h : Chk n t) (h7 : t.kind = 7) : t.args = (t.args.map Ty.kind).map (fun k => Ty.mk k [] []) := by
  rw [List.map_map]
  exact map_self fun a ha => ((union_parts h h7).2.2 a ha).2.2
theorem flat_inj {n m : Nat} {t u : Ty} (h : Chk n t) (k : Chk m u) (hf : Flat t.kind) (kf : Flat u.kind) (e : kindsOf t = kindsOf u) : t = u := by
  unfold kindsOf at e
  by_cases t7 : t.kind = 7 <;> by_cases u7 : u.kind = 7
  · rw [if_pos t7, if_pos u7] at e
    refine Ty.ext (t7.trans u7.symm) ((union_parts h t7).1.trans (union_parts k u7).1.symm) ?_
    rw [union_of h t7, union_of k u7, e]
  · rw [if_pos t7, if_neg u7] at e
    have := congrArg List.length e
    have := (union_parts h t7).2.1
    simp at *
    omega
  · rw [if_neg t7, if_pos u7] at e
    have := congrArg List.length e
    have := (union_parts k u7).2.1
    simp at *
    omega
  · rw [if_neg t7, if_neg u7] at e
    obtain ⟨h1, h2⟩ := flat_leaf h hf t7
    obtain ⟨k1, k2⟩ := flat_leaf k kf u7
    exact Ty.ext (by simpa using e) (h1.trans k1.symm) (h2.trans k2.symm)
theorem kinds_ok {n : Nat} {t : Ty} (h : Chk n t) (hf : Flat t.kind) : kindsOf t ≠ [] ∧ ∀ k ∈ kindsOf t, 0 ≤ k ∧ k ≤ 6 := by
  unfold kindsOf
  by_cases t7 : t.kind = 7
  · rw [if_pos t7]
    obtain ⟨_, h1, h2⟩ := union_parts h t7
    refine ⟨fun e => by have := congrArg List.length e; simp at this; rw [this] at h1; simp at h1, fun k hk => ?_⟩
    obtain ⟨a, ha, rfl⟩ := List.mem_map.1 hk
    have := h2 a ha
    omega
  · rw [if_neg t7]
    unfold Flat at hf
    exact ⟨by simp, fun k hk => by simp at hk; subst hk; omega⟩
theorem show_leaf {k : Int} (h0 : 0 ≤ k) (h6 : k ≤ 6) : showT (.mk k [] []) = nameL k := by
  rw [showT_eq]
  show wrapL k _ = _
  unfold wrapL
  rw [if_neg (by omega), if_neg (by omega), if_neg (by omega)]
theorem flat_text {n : Nat} {t : Ty} (h : Chk n t) (hf : Flat t.kind) : showT t = joinTx [32, 124, 32] ((kindsOf t).map nameL) := by
  rw [showT_eq]
  unfold kindsOf wrapL partsL
  by_cases t7 : t.kind = 7
  · rw [if_pos t7, if_pos t7, if_neg (by omega)]
    congr 1
    obtain ⟨_, _, h2⟩ := union_parts h t7
    rw [List.map_map]
    refine List.map_congr_left fun a ha => ?_
    have := h2 a ha
    rw [this.2.2]
    exact show_leaf (by omega) (by omega)
  · unfold Flat at hf
    rw [if_neg t7, if_neg (by omega), if_neg (by omega), if_neg t7]
    simp [joinTx]
theorem words_tail (us : List Int) : ∀ c l, (us.map nameL).flatMap (fun b => [32, 124, 32] ++ b) = c :: l → c = 32 := by
  intro c l h
  cases us with
  | nil => simp at h
  | cons a us => simp at h; exact h.1.symm
theorem words_split : ∀ {us bs : List Int} {a b : Int}, (∀ k ∈ a :: us, 0 ≤ k ∧ k ≤ 6) → (∀ k ∈ b :: bs, 0 ≤ k ∧ k ≤ 6) → nameL a ++ (us.map nameL).flatMap (fun b => [32, 124, 32] ++ b) = nameL b ++ (bs.map nameL).flatMap (fun b => [32, 124, 32] ++ b) → a :: us = b :: bs
  | us, bs, a, b, ha, hb, h => by
    obtain ⟨h1, h2⟩ := cut_eq (fun c => c != 32) (fun c hc => by have := name_all (ha a (by simp)).1 (ha a (by simp)).2 c hc; simp; rintro rfl; simp at this) (fun c hc => by have := name_all (hb b (by simp)).1 (hb b (by simp)).2 c hc; simp; rintro rfl; simp at this)
      (fun c l e => by rw [words_tail us c l e]; rfl) (fun c l e => by rw [words_tail bs c l e]; rfl) h
    obtain rfl := name_inj (ha a (by simp)).1 (ha a (by simp)).2 (hb b (by simp)).1 (hb b (by simp)).2 h1
    cases us with
    | nil =>
      cases bs with
      | nil => rfl
      | cons b' bs => simp at h2
    | cons a' us =>
      cases bs with
      | nil => simp at h2
      | cons b' bs =>
        simp only [List.map_cons, List.flatMap_cons, List.append_assoc, List.append_cancel_left_eq] at h2
        rw [words_split (fun k hk => ha k (by simp only [List.mem_cons] at hk ⊢; exact .inr hk)) (fun k hk => hb k (by simp only [List.mem_cons] at hk ⊢; exact .inr hk)) h2]
theorem words_inj {us bs : List Int} (ha0 : us ≠ []) (hb0 : bs ≠ []) (ha : ∀ k ∈ us, 0 ≤ k ∧ k ≤ 6) (hb : ∀ k ∈ bs, 0 ≤ k ∧ k ≤ 6) (h : joinTx [32, 124, 32] (us.map nameL) = joinTx [32, 124, 32] (bs.map nameL)) : us = bs := by
  cases us with
  | nil => exact (ha0 rfl).elim
  | cons a us =>
    cases bs with
    | nil => exact (hb0 rfl).elim
    | cons b bs => exact words_split ha hb h
/-- No stop in it. -/
def midB (c : UInt8) : Bool := c != 44 && c != 41 && c != 125
theorem words_mid {us : List Int} (ha : ∀ k ∈ us, 0 ≤ k ∧ k ≤ 6) : ∀ c ∈ joinTx [32, 124, 32] (us.map nameL), midB c = true := by
  have key : ∀ k, 0 ≤ k ∧ k ≤ 6 → ∀ c ∈ nameL k, midB c = true := fun k hk c hc => by
    have := name_all hk.1 hk.2 c hc
    unfold midB
    simp only [Bool.and_eq_true, bne_iff_ne, ne_eq]
    exact ⟨⟨by rintro rfl; simp at this, by rintro rfl; simp at this⟩, by rintro rfl; simp at this⟩
  cases us with
  | nil => intro c hc; simp [joinTx] at hc
  | cons a us =>
    intro c hc
    rcases List.mem_append.1 hc with hc | hc
    · exact key a (ha a (by simp)) c hc
    · obtain ⟨b, hb, hc⟩ := List.mem_flatMap.1 hc
      obtain ⟨k, hk, rfl⟩ := List.mem_map.1 hb
      rcases List.mem_append.1 hc with hc | hc
      · simp at hc
        rcases hc with rfl | rfl | rfl <;> rfl
      · exact key k (ha k (by simp [hk])) c hc
theorem words_head {us : List Int} (h0 : us ≠ []) (ha : ∀ k ∈ us, 0 ≤ k ∧ k ≤ 6) : ∃ c l, joinTx [32, 124, 32] (us.map nameL) = c :: l ∧ 97 ≤ c.toNat ∧ c.toNat ≤ 122 := by
  cases us with
  | nil => exact (h0 rfl).elim
  | cons a us =>
    obtain ⟨c, l, h, h2⟩ := name_low (ha a (by simp)).1 (ha a (by simp)).2
    exact ⟨c, l ++ (us.map nameL).flatMap (fun b => [32, 124, 32] ++ b), by show nameL a ++ _ = _; rw [h]; rfl, h2 c (by simp)⟩

/-- What may stand behind a type. -/
def Stop (r : List UInt8) : Prop := ∀ c l, r = c :: l → midB c = false
theorem stop_at {c : UInt8} (h : midB c = false) (l : List UInt8) : Stop (c :: l) := fun c' l' e => by
  injection e with e1 e2
  rw [← e1]
  exact h
def Inj (t : Ty) : Prop := ∀ (n m : Nat) (u : Ty) (r s : List UInt8), Chk n t → Chk m u → Stop r → Stop s → showT t ++ r = showT u ++ s → t = u ∧ r = s
theorem show_shape {t : Ty} (h : t.kind = 8) : showT t = 123 :: (joinTx [44, 32] (List.zipWith fieldL t.names (t.args.map showT)) ++ [125]) := by
  rw [showT_eq]
  unfold wrapL partsL
  rw [if_neg (by omega), if_pos h, if_pos h]
theorem show_func {t : Ty} (h : t.kind = 9) : showT t = 40 :: (joinTx [44, 32] (t.args.map showT).dropLast ++ (41 :: 32 :: 45 :: 62 :: 32 :: (t.args.map showT).getLast?.getD [])) := by
  rw [showT_eq]
  unfold wrapL partsL
  rw [if_neg (by omega), if_neg (by omega), if_pos h, if_neg (by omega)]
theorem show_head {n : Nat} {t : Ty} (h : Chk n t) : ∃ c l, showT t = c :: l ∧ ((Flat t.kind ∧ 97 ≤ c.toNat ∧ c.toNat ≤ 122) ∨ (t.kind = 8 ∧ c = 123) ∨ (t.kind = 9 ∧ c = 40)) := by
  rcases h.cases with hf | h8 | h9
  · obtain ⟨h1, h2⟩ := kinds_ok h hf
    obtain ⟨c, l, e, h3⟩ := words_head h1 h2
    exact ⟨c, l, by rw [flat_text h hf, e], .inl ⟨hf, h3⟩⟩
  · exact ⟨_, _, show_shape h8, .inr (.inl ⟨h8, rfl⟩)⟩
  · exact ⟨_, _, show_func h9, .inr (.inr ⟨h9, rfl⟩)⟩
/-- Fields, behind the first. -/
def fieldsR (ns : List ByteArray) (xs : List Ty) (r : List UInt8) : List UInt8 := (List.zipWith fieldL ns (xs.map showT)).flatMap (fun b => [44, 32] ++ b) ++ 125 :: r
theorem fields_stop (ns : List ByteArray) (xs : List Ty) (r : List UInt8) : Stop (fieldsR ns xs r) := by
  unfold fieldsR
  rcases ns with _ | ⟨n, ns⟩
  · exact stop_at rfl _
  rcases xs with _ | ⟨x, xs⟩
  · exact stop_at rfl _
  · exact stop_at rfl _
def NameC (s : ByteArray) : Prop := (∀ c ∈ s.data.toList, (c != 58) = true) ∧ ∃ c l, s.data.toList = c :: l ∧ c ≠ 125
theorem one_field {n m : ByteArray} {x y : Ty} {r s : List UInt8} {i j : Nat} (hn : NameC n) (hm : NameC m) (hx : Inj x) (cx : Chk i x) (cy : Chk j y) (hr : Stop r) (hs : Stop s) (h : fieldL n (showT x) ++ r = fieldL m (showT y) ++ s) : n = m ∧ x = y ∧ r = s := by
  unfold fieldL at h
  rw [List.append_assoc, List.append_assoc] at h
  obtain ⟨h1, h2⟩ := cut_eq (fun c => c != 58) hn.1 hm.1 (fun c l e => by injection e with e _; rw [← e]; rfl) (fun c l e => by injection e with e _; rw [← e]; rfl) h
  simp only [List.cons_append, List.cons.injEq, true_and] at h2
  obtain ⟨h3, h4⟩ := hx i j y r s cx cy hr hs h2
  exact ⟨ByteArray.ext (Array.toList_inj.1 h1), h3, h4⟩
theorem fields_tail : ∀ {ns ms : List ByteArray} {xs ys : List Ty} {r s : List UInt8}, ns.length = xs.length → ms.length = ys.length → (∀ n ∈ ns, NameC n) → (∀ n ∈ ms, NameC n) → (∀ x ∈ xs, Inj x ∧ ∃ i, Chk i x) → (∀ y ∈ ys, ∃ i, Chk i y) →
    fieldsR ns xs r = fieldsR ms ys s → ns = ms ∧ xs = ys ∧ r = s
  | [], [], [], [], r, s, _, _, _, _, _, _, h => by
    unfold fieldsR at h
    simpa using h
  | [], m :: ms, [], y :: ys, r, s, _, _, _, _, _, _, h => by
    unfold fieldsR at h
    simp at h
  | n :: ns, [], x :: xs, [], r, s, _, _, _, _, _, _, h => by
    unfold fieldsR at h
    simp at h
  | n :: ns, m :: ms, x :: xs, y :: ys, r, s, l1, l2, hn, hm, hx, hy, h => by
    have h' : fieldL n (showT x) ++ fieldsR ns xs r = fieldL m (showT y) ++ fieldsR ms ys s := by
      unfold fieldsR at h ⊢
      simpa using h
    obtain ⟨i, cx⟩ := (hx x (by simp)).2
    obtain ⟨j, cy⟩ := hy y (by simp)
    obtain ⟨rfl, rfl, h2⟩ := one_field (hn n (by simp)) (hm m (by simp)) (hx x (by simp)).1 cx cy (fields_stop _ _ _) (fields_stop _ _ _) h'
    obtain ⟨rfl, rfl, rfl⟩ := fields_tail (by simpa using l1) (by simpa using l2) (fun a ha => hn a (by simp [ha])) (fun a ha => hm a (by simp [ha])) (fun a ha => hx a (by simp [ha])) (fun a ha => hy a (by simp [ha])) h2
    exact ⟨rfl, rfl, rfl⟩
theorem fields_all {ns ms : List ByteArray} {xs ys : List Ty} {r s : List UInt8} (l1 : ns.length = xs.length) (l2 : ms.length = ys.length) (hn : ∀ n ∈ ns, NameC n) (hm : ∀ n ∈ ms, NameC n) (hx : ∀ x ∈ xs, Inj x ∧ ∃ i, Chk i x) (hy : ∀ y ∈ ys, ∃ i, Chk i y)
    (h : joinTx [44, 32] (List.zipWith fieldL ns (xs.map showT)) ++ 125 :: r = joinTx [44, 32] (List.zipWith fieldL ms (ys.map showT)) ++ 125 :: s) : ns = ms ∧ xs = ys ∧ r = s := by
  rcases ns with _ | ⟨n, ns⟩
  · obtain rfl : xs = [] := List.eq_nil_of_length_eq_zero (by simpa using l1.symm)
    rcases ms with _ | ⟨m, ms⟩
    · obtain rfl : ys = [] := List.eq_nil_of_length_eq_zero (by simpa using l2.symm)
      simpa [joinTx] using h
    · rcases ys with _ | ⟨y, ys⟩
      · simp at l2
      exfalso
      obtain ⟨c, l, e, hc⟩ := (hm m (by simp)).2
      simp [joinTx, fieldL, e] at h
      exact hc h.1.symm
  · rcases xs with _ | ⟨x, xs⟩
    · simp at l1
    rcases ms with _ | ⟨m, ms⟩
    · obtain rfl : ys = [] := List.eq_nil_of_length_eq_zero (by simpa using l2.symm)
      exfalso
      obtain ⟨c, l, e, hc⟩ := (hn n (by simp)).2
      simp [joinTx, fieldL, e] at h
      exact hc h.1
    rcases ys with _ | ⟨y, ys⟩
    · simp at l2
    have h' : fieldL n (showT x) ++ fieldsR ns xs r = fieldL m (showT y) ++ fieldsR ms ys s := by
      unfold fieldsR
      simpa [joinTx] using h
    obtain ⟨i, cx⟩ := (hx x (by simp)).2
    obtain ⟨j, cy⟩ := hy y (by simp)
    obtain ⟨rfl, rfl, h2⟩ := one_field (hn n (by simp)) (hm m (by simp)) (hx x (by simp)).1 cx cy (fields_stop _ _ _) (fields_stop _ _ _) h'
    obtain ⟨rfl, rfl, rfl⟩ := fields_tail (by simpa using l1) (by simpa using l2) (fun a ha => hn a (by simp [ha])) (fun a ha => hm a (by simp [ha])) (fun a ha => hx a (by simp [ha])) (fun a ha => hy a (by simp [ha])) h2
    exact ⟨rfl, rfl, rfl⟩
/-- Parameters, behind the first. -/
def argsR (xs : List Ty) (r : List UInt8) : List UInt8 := (xs.map showT).flatMap (fun b => [44, 32] ++ b) ++ 41 :: r
theorem args_stop (xs : List Ty) (r : List UInt8) : Stop (argsR xs r) := by
  unfold argsR
  rcases xs with _ | ⟨x, xs⟩ <;> exact stop_at rfl _
theorem args_tail : ∀ {xs ys : List Ty} {r s : List UInt8}, (∀ x ∈ xs, Inj x ∧ ∃ i, Chk i x) → (∀ y ∈ ys, ∃ i, Chk i y) → argsR xs r = argsR ys s → xs = ys ∧ r = s
  | [], [], r, s, _, _, h => by
    unfold argsR at h
    simpa using h
  | [], y :: ys, r, s, _, _, h => by
    unfold argsR at h
    simp at h
  | x :: xs, [], r, s, _, _, h => by
    unfold argsR at h
    simp at h
  | x :: xs, y :: ys, r, s, hx, hy, h => by
    have h' : showT x ++ argsR xs r = showT y ++ argsR ys s := by
      unfold argsR at h ⊢
      simpa using h
    obtain ⟨i, cx⟩ := (hx x (by simp)).2
    obtain ⟨j, cy⟩ := hy y (by simp)
    obtain ⟨rfl, h2⟩ := (hx x (by simp)).1 i j y _ _ cx cy (args_stop _ _) (args_stop _ _) h'
    obtain ⟨rfl, rfl⟩ := args_tail (fun a ha => hx a (by simp [ha])) (fun a ha => hy a (by simp [ha])) h2
    exact ⟨rfl, rfl⟩
theorem not41 {n : Nat} {t : Ty} (h : Chk n t) {c : UInt8} {l : List UInt8} (e : showT t = c :: l) : c ≠ 41 := by
  obtain ⟨c', l', e', h'⟩ := show_head h
  rw [e] at e'
  injection e' with e1 e2
  subst e1
  rintro rfl
  rcases h' with ⟨_, h', _⟩ | ⟨_, h'⟩ | ⟨_, h'⟩
  · simp at h'
  · simp at h'
  · simp at h'
theorem args_all {xs ys : List Ty} {r s : List UInt8} (hx : ∀ x ∈ xs, Inj x ∧ ∃ i, Chk i x) (hy : ∀ y ∈ ys, ∃ i, Chk i y)
    (h : joinTx [44, 32] (xs.map showT) ++ 41 :: r = joinTx [44, 32] (ys.map showT) ++ 41 :: s) : xs = ys ∧ r = s := by
  rcases xs with _ | ⟨x, xs⟩ <;> rcases ys with _ | ⟨y, ys⟩
  · simpa [joinTx] using h
  · exfalso
    obtain ⟨j, cy⟩ := hy y (by simp)
    obtain ⟨c, l, e, _⟩ := show_head cy
    simp [joinTx, e] at h
    exact not41 cy e h.1.symm
  · exfalso
    obtain ⟨j, cx⟩ := (hx x (by simp)).2
    obtain ⟨c, l, e, _⟩ := show_head cx
    simp [joinTx, e] at h
    exact not41 cx e h.1
  · have h' : showT x ++ argsR xs r = showT y ++ argsR ys s := by
      unfold argsR
      simpa [joinTx] using h
    obtain ⟨i, cx⟩ := (hx x (by simp)).2
    obtain ⟨j, cy⟩ := hy y (by simp)
    obtain ⟨rfl, h2⟩ := (hx x (by simp)).1 i j y _ _ cx cy (args_stop _ _) (args_stop _ _) h'
    obtain ⟨rfl, rfl⟩ := args_tail (fun a ha => hx a (by simp [ha])) (fun a ha => hy a (by simp [ha])) h2
    exact ⟨rfl, rfl⟩
theorem nameOk_C {s : ByteArray} (h : NameOk s) : NameC s := by
  obtain ⟨_, h1, c, h2, h3⟩ := h
  refine ⟨fun c hc => ?_, ?_⟩
  · have := h1 c hc
    simp only [bne_iff_ne, ne_eq]
    rintro rfl
    revert this
    decide
  · cases e : s.data.toList with
    | nil => rw [e] at h2; simp at h2
    | cons a l =>
      rw [e] at h2
      simp at h2
      subst h2
      refine ⟨a, l, rfl, ?_⟩
      rintro rfl
      revert h3
      decide
theorem func_split {t : Ty} {n : Nat} (h : Chk n t) (h9 : t.kind = 9) : t.names = [] ∧ ∃ us z, t.args = us ++ [z] := by
  cases n with
  | zero => exact h.elim
  | succ n =>
    rcases h.1 with ⟨_, h1, _⟩ | ⟨h1, _⟩ | ⟨h1, _⟩ | ⟨_, h1, h2⟩
    · omega
    · omega
    · omega
    · refine ⟨List.eq_nil_of_length_eq_zero h1, ?_⟩
      rcases t.args.eq_nil_or_concat with e | ⟨L, b, e⟩
      · rw [e] at h2; simp at h2
      · exact ⟨L, b, by rw [e, List.concat_eq_append]⟩
theorem chk_all {n : Nat} {t : Ty} (h : Chk n t) : ∀ a ∈ t.args, ∃ i, Chk i a := fun a ha => by
  obtain ⟨i, hi⟩ := List.getElem?_of_mem ha
  exact ⟨n, h.part' hi⟩
theorem shape_names {n : Nat} {t : Ty} (h : Chk n t) (h8 : t.kind = 8) : t.names.length = t.args.length ∧ ∀ s ∈ t.names, NameOk s := by
  cases n with
  | zero => exact h.elim
  | succ n =>
    have hl : t.names.length = t.args.length := by
      rcases h.1 with ⟨_, h1, _⟩ | ⟨h1, _⟩ | ⟨_, h1⟩ | ⟨h1, _⟩
      · omega
      · omega
      · exact h1
      · omega
    refine ⟨hl, fun s hs => ?_⟩
    obtain ⟨i, hi⟩ := List.getElem?_of_mem hs
    obtain ⟨a, ha⟩ : ∃ a, t.args[i]? = some a := ⟨_, List.getElem?_eq_getElem (by rw [← hl]; exact (List.getElem?_eq_some_iff.1 hi).1)⟩
    exact (((h.2 i a ha).1.2 h8).2 s hi).1
theorem show_inj_at : ∀ t : Ty, Inj t := fun t => Ty.ind (P := Inj) (fun k ns xs ih => by
  intro n m u r s hc ku hr hs h
  obtain ⟨c, l, e1, h1⟩ := show_head hc
  obtain ⟨d, l', e2, h2⟩ := show_head ku
  have hcd : c = d := by
    rw [e1, e2] at h
    simp at h
    exact h.1
  subst hcd
  have ih' : ∀ x ∈ (Ty.mk k ns xs).args, Inj x ∧ ∃ i, Chk i x := fun x hx => ⟨ih x hx, chk_all hc x hx⟩
  rcases h1 with ⟨f1, a1, b1⟩ | ⟨k1, a1⟩ | ⟨k1, a1⟩
  · have f2 : Flat u.kind := by
      rcases h2 with ⟨f2, _⟩ | ⟨_, a2⟩ | ⟨_, a2⟩
      · exact f2
      · rw [a2] at b1; simp at b1
      · rw [a2] at a1; simp at a1
    obtain ⟨o1, o2⟩ := kinds_ok hc f1
    obtain ⟨p1, p2⟩ := kinds_ok ku f2
    rw [flat_text hc f1, flat_text ku f2] at h
    obtain ⟨h3, h4⟩ := cut_eq midB (words_mid o2) (words_mid p2) hr hs h
    exact ⟨flat_inj hc ku f1 f2 (words_inj o1 p1 o2 p2 h3), h4⟩
  · have k2 : u.kind = 8 := by
      rcases h2 with ⟨f2, a2, b2⟩ | ⟨k2, _⟩ | ⟨_, a2⟩
      · rw [a1] at b2; simp at b2
      · exact k2
      · rw [a1] at a2; simp at a2
    rw [show_shape k1, show_shape k2] at h
    simp only [List.cons_append, List.append_assoc, List.nil_append, List.cons.injEq, true_and] at h
    obtain ⟨h3, h4, h5⟩ := fields_all (shape_names hc k1).1 (shape_names ku k2).1 (fun s hs => nameOk_C ((shape_names hc k1).2 s hs)) (fun s hs => nameOk_C ((shape_names ku k2).2 s hs)) ih' (chk_all ku) h
    exact ⟨Ty.ext (k1.trans k2.symm) h3 h4, h5⟩
  · have k2 : u.kind = 9 := by
      rcases h2 with ⟨f2, a2, b2⟩ | ⟨_, a2⟩ | ⟨k2, _⟩
      · rw [a1] at a2; simp at a2
      · rw [a1] at a2; simp at a2
      · exact k2
    obtain ⟨n1, us, z, e3⟩ := func_split hc k1
    obtain ⟨n2, bs, y, e4⟩ := func_split ku k2
    rw [show_func k1, show_func k2, e3, e4] at h
    simp only [List.map_append, List.map_cons, List.map_nil, List.dropLast_concat, List.getLast?_concat, Option.getD_some, List.cons_append, List.append_assoc, List.cons.injEq, true_and] at h
    obtain ⟨rfl, h5⟩ := args_all (fun x hx => ih' x (by rw [e3]; simp [hx])) (fun x hx => chk_all ku x (by rw [e4]; simp [hx])) h
    simp only [List.cons.injEq, true_and] at h5
    obtain ⟨i, cz⟩ := (ih' z (by rw [e3]; simp)).2
    obtain ⟨j, cy⟩ := chk_all ku y (by rw [e4]; simp)
    obtain ⟨rfl, h6⟩ := (ih' z (by rw [e3]; simp)).1 i j y r s cz cy hr hs h5
    exact ⟨Ty.ext (k1.trans k2.symm) (n1.trans n2.symm) (e3.trans e4.symm), h6⟩) t
theorem show_inj {n m : Nat} {t u : Ty} (h : Chk n t) (k : Chk m u) (e : showT t = showT u) : t = u :=
  (show_inj_at t n m u [] [] h k (fun c l e => by cases e) (fun c l e => by cases e) (by rw [e])).1

/-- How much a type weighs, us it is counted. -/
def wName : List ByteArray → Nat
  | [] => 0
  | s :: l => 1 + s.size / 100 + wName l
mutual
def wt : Ty → Nat
  | .mk _ ns xs => 1 + wName ns + wtL xs
def wtL : List Ty → Nat
  | [] => 0
  | a :: xs => wt a + wtL xs
end
theorem wt_eq (t : Ty) : wt t = 1 + wName t.names + wtL t.args := by cases t; rw [wt]; rfl
theorem wt_nodes : ∀ t : Ty, nodes t ≤ wt t := fun t => Ty.ind (P := fun t => nodes t ≤ wt t) (fun k ns xs ih => by
  rw [nodes_args, wt_eq]
  have : ∀ l : List Ty, (∀ a ∈ l, nodes a ≤ wt a) → nodesL l ≤ wtL l := fun l => by
    induction l with
    | nil => intro _; rw [nodesL]; omega
    | cons a l ihl =>
      intro h
      have h1 := h a (by simp)
      have h2 := ihl fun b hb => h b (by simp [hb])
      rw [nodesL, wtL]
      omega
  have := this xs ih
  show nodesL xs + 1 ≤ 1 + wName ns + wtL xs
  omega) t
end Go.Proofs.YtohllalninoomaaDoor
