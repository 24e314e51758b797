/-
  Labels as texts, in plain Lean: what is shown is read, and nothing else is.
-/
import Derived.Lib.Join
import Derived.Lib.ItoaNum
import Derived.Lib.Split
import Derived.Lib.AtoiAll
import Derived.Lib.TrailingZeros
set_option linter.unusedVariables false
set_option linter.unusedSimpArgs false
namespace Go.Proofs.YtmlknpoippfkeaaDoor

/-- The principals of a label, rising. -/
def prin (l : Nat) : List Nat := (List.range 64).filter l.testBit
/-- The label of principals. -/
def lab (ps : List Nat) : Nat := ps.foldl (fun a p => a ||| 2 ^ p) 0
def digs (p : Nat) : List UInt8 := if p < 10 then [UInt8.ofNat (48 + p)] else [UInt8.ofNat (48 + p / 10), UInt8.ofNat (48 + p % 10)]

theorem lab_go_bit (ps : List Nat) (a i : Nat) : (ps.foldl (fun a p => a ||| 2 ^ p) a).testBit i = (a.testBit i || decide (i ∈ ps)) := by
  induction ps generalizing a with
  | nil => simp
  | cons p ps ih =>
    rw [List.foldl_cons, ih, Nat.testBit_or, Nat.testBit_two_pow]
    by_cases h : p = i
    · subst h; simp
    · have h' : ¬ i = p := fun e => h e.symm
      simp [h, h']
theorem lab_bit (ps : List Nat) (i : Nat) : (lab ps).testBit i = decide (i ∈ ps) := by
  unfold lab
  rw [lab_go_bit]
  simp
theorem mem_prin (l i : Nat) : i ∈ prin l ↔ i < 64 ∧ l.testBit i = true := by
  unfold prin
  rw [List.mem_filter, List.mem_range]
theorem prin_sorted (l : Nat) : (prin l).Pairwise (· < ·) := List.Pairwise.filter _ List.pairwise_lt_range
theorem sorted_ext : ∀ {xs ys : List Nat}, xs.Pairwise (· < ·) → ys.Pairwise (· < ·) → (∀ i, i ∈ xs ↔ i ∈ ys) → xs = ys
  | [], [], _, _, _ => rfl
  | [], y :: ys, _, _, h => by have := (h y).2 (by simp); simp at this
  | x :: xs, [], _, _, h => by have := (h x).1 (by simp); simp at this
  | x :: xs, y :: ys, hx, hy, h => by
    rw [List.pairwise_cons] at hx hy
    have e : x = y := by
      have h1 := (h x).1 (by simp)
      have h2 := (h y).2 (by simp)
      rcases List.mem_cons.1 h1 with h1 | h1
      · exact h1
      · rcases List.mem_cons.1 h2 with h2 | h2
        · exact h2.symm
        · have := hy.1 x h1; have := hx.1 y h2; omega
    subst e
    rw [sorted_ext hx.2 hy.2 fun i => ?_]
    have := h i
    constructor
    · intro hi
      rcases List.mem_cons.1 (this.1 (List.mem_cons_of_mem _ hi)) with e | e
      · subst e; have := hx.1 i hi; omega
      · exact e
    · intro hi
      rcases List.mem_cons.1 (this.2 (List.mem_cons_of_mem _ hi)) with e | e
      · subst e; have := hy.1 i hi; omega
      · exact e
theorem prin_lab {ps : List Nat} (hs : ps.Pairwise (· < ·)) (hp : ∀ p ∈ ps, p < 64) : prin (lab ps) = ps :=
  sorted_ext (prin_sorted _) hs fun i => by
    rw [mem_prin, lab_bit]
    simp only [decide_eq_true_eq]
    exact ⟨fun h => h.2, fun h => ⟨hp i h, h⟩⟩
theorem lab_prin {l : Nat} (hl : l < 2 ^ 64) : lab (prin l) = l := by
  apply Nat.eq_of_testBit_eq
  intro i
  rw [lab_bit]
  by_cases h : i < 64
  · cases hb : l.testBit i
    · simp [mem_prin, hb]
    · simp [mem_prin, hb, h]
  · rw [Nat.testBit_lt_two_pow (Nat.lt_of_lt_of_le hl (Nat.pow_le_pow_right (by omega) (by omega)))]
    simp [mem_prin, h]
theorem lab_lt {ps : List Nat} (hp : ∀ p ∈ ps, p < 64) : lab ps < 2 ^ 64 := by
  unfold lab
  have key : ∀ (ps : List Nat) (a : Nat), a < 2 ^ 64 → (∀ p ∈ ps, p < 64) → ps.foldl (fun a p => a ||| 2 ^ p) a < 2 ^ 64 := by
    intro ps
    induction ps with
    | nil => intro a ha _; exact ha
    | cons p ps ih =>
      intro a ha h
      exact ih _ (Nat.or_lt_two_pow ha (Nat.pow_lt_pow_right (by omega) (h p (by simp)))) fun q hq => h q (by simp [hq])
  exact key ps 0 (by decide) hp
theorem prin_lt {l : Nat} : ∀ p ∈ prin l, p < 64 := fun p h => ((mem_prin l p).1 h).1

/-- The lowest principal, and the label without it. -/
theorem prin_zero : prin 0 = [] := by unfold prin; simp
theorem low_bit {l : Nat} (h0 : 0 < l) (hl : l < 2 ^ 64) : Lib.ctz 64 l < 64 ∧ l.testBit (Lib.ctz 64 l) = true ∧ (∀ i, i < Lib.ctz 64 l → l.testBit i = false) ∧ ∀ i, (l &&& (l - 1)).testBit i = (l.testBit i && decide (i ≠ Lib.ctz 64 l)) := by
  obtain ⟨m, hm, hk⟩ := Lib.ctzFrom_spec 64 l h0 hl
  have e : Lib.ctz 64 l = Lib.ctzFrom 64 l := by unfold Lib.ctz; rw [if_neg (by omega)]
  rw [e]
  generalize Lib.ctzFrom 64 l = k at hm hk
  have hb : ∀ i, l.testBit i = (decide (k ≤ i) && (2 * m + 1).testBit (i - k)) := by
    intro i
    rw [hm, Nat.mul_comm, Nat.testBit_mul_two_pow]
  have e1 : l - 1 = 2 ^ k * (2 * m) + (2 ^ k - 1) := by
    have : 0 < 2 ^ k := Nat.two_pow_pos k
    rw [hm, Nat.mul_add, Nat.mul_one]
    omega
  have hb1 : ∀ i, (l - 1).testBit i = if i < k then true else (2 * m).testBit (i - k) := by
    intro i
    rw [e1, Nat.testBit_two_pow_mul_add _ (by have : 0 < 2 ^ k := Nat.two_pow_pos k; omega)]
    by_cases hi : i < k
    · rw [if_pos hi, if_pos hi, Nat.testBit_two_pow_sub_one]; simp [hi]
    · rw [if_neg hi, if_neg hi]
  have hodd : ∀ j, (2 * m + 1).testBit (j + 1) = (2 * m).testBit (j + 1) := by
    intro j
    rw [Nat.testBit_succ, Nat.testBit_succ]
    congr 1
    omega
  refine ⟨hk, ?_, fun i hi => ?_, fun i => ?_⟩
  · rw [hb]; simp [Nat.testBit_zero]
  · rw [hb]; simp; omega
  · rw [Nat.testBit_and, hb1, hb]
    by_cases hi : i < k
    · rw [if_pos hi]
      have : ¬ k ≤ i := by omega
      simp [this]
    · rw [if_neg hi]
      by_cases he : i = k
      · subst he; simp [Nat.testBit_zero]
      · obtain ⟨j, rfl⟩ : ∃ j, i = k + (j + 1) := ⟨i - k - 1, by omega⟩
        have e3 : k + (j + 1) - k = j + 1 := by omega
        rw [e3, hodd]
        simp
theorem prin_step {l : Nat} (h0 : 0 < l) (hl : l < 2 ^ 64) : prin l = Lib.ctz 64 l :: prin (l &&& (l - 1)) := by
  obtain ⟨h1, h2, h3, h4⟩ := low_bit h0 hl
  refine sorted_ext (prin_sorted _) (List.pairwise_cons.2 ⟨fun i hi => ?_, prin_sorted _⟩) fun i => ?_
  · obtain ⟨hi1, hi2⟩ := (mem_prin _ _).1 hi
    rw [h4] at hi2
    simp at hi2
    rcases Nat.lt_trichotomy (Lib.ctz 64 l) i with h | h | h
    · exact h
    · exact absurd h.symm hi2.2
    · rw [h3 i h] at hi2; exact absurd hi2.1 (by simp)
  · rw [List.mem_cons, mem_prin, mem_prin, h4]
    by_cases he : i = Lib.ctz 64 l
    · subst he; simp [h1, h2]
    · simp [he]

/-- A label as a text. -/
def showB (l : Nat) : List UInt8 := 123 :: (Lib.join ((prin l).map digs) [44] ++ [125])
def tailB (ps : List Nat) : List UInt8 := (ps.map fun p => 44 :: digs p).flatten ++ [125]
theorem join_tail (p : Nat) (ps : List Nat) : Lib.join ((p :: ps).map digs) [44] ++ [125] = digs p ++ tailB ps := by
  rw [List.map_cons, Lib.join_cons]
  unfold tailB Lib.joinTail
  rw [List.append_assoc, List.map_map]
  rfl
theorem join_snoc (xs : List (List UInt8)) (y sep : List UInt8) : Lib.join (xs ++ [y]) sep = if xs = [] then y else Lib.join xs sep ++ sep ++ y := by
  cases xs with
  | nil => simp [Lib.join_one]
  | cons x r =>
    rw [List.cons_append, Lib.join_cons, Lib.join_cons, if_neg (by simp)]
    unfold Lib.joinTail
    simp [List.append_assoc]

/-- The reference's reading of a number: at most two digits; the number, how many bytes. -/
def isDig (c : UInt8) : Bool := 48 ≤ c.toNat && c.toNat ≤ 57
def numR : List UInt8 → Option (Nat × List UInt8)
  | [] => none
  | c :: r =>
    if isDig c = false then none
    else match r with
      | [] => some (c.toNat - 48, [])
      | d :: r' =>
        if isDig d = false then some (c.toNat - 48, d :: r')
        else if 10 * (c.toNat - 48) + (d.toNat - 48) < 64 ∧ c ≠ 48 then some (10 * (c.toNat - 48) + (d.toNat - 48), r') else none
/-- The reference's loop. -/
def rgo : Nat → UInt8 → List UInt8 → Nat → Int → Option Nat
  | 0, _, _, _, _ => none
  | f + 1, want, s, out, last =>
    match s with
    | [] => none
    | c :: r =>
      if c ≠ want then none
      else match numR r with
        | none => none
        | some (n, rest) => if (n : Int) ≤ last then none else if rest = [125] then some (out ||| 2 ^ n) else rgo f 44 rest (out ||| 2 ^ n) n
def rparse (s : List UInt8) : Option Nat := if s = [123, 125] then some 0 else rgo (s.length + 1) 123 s 0 (-1)

theorem dig_of {n : Nat} (h : n < 10) : (UInt8.ofNat (48 + n)).toNat = 48 + n := by
  rw [UInt8.toNat_ofNat']
  exact Nat.mod_eq_of_lt (by omega)
theorem isDig_of {n : Nat} (h : n < 10) : isDig (UInt8.ofNat (48 + n)) = true := by
  unfold isDig
  rw [dig_of h]
  simp
  omega
theorem ofDig {c : UInt8} (h : isDig c = true) : ∃ n, n < 10 ∧ c = UInt8.ofNat (48 + n) := by
  unfold isDig at h
  simp at h
  refine ⟨c.toNat - 48, by omega, ?_⟩
  apply UInt8.toNat_inj.1
  rw [dig_of (by omega)]
  omega
/-- What is written is read. -/
theorem numR_digs {p : Nat} (hp : p < 64) (c : UInt8) (r : List UInt8) (hc : isDig c = false) : numR (digs p ++ c :: r) = some (p, c :: r) := by
  unfold digs
  by_cases h : p < 10
  · rw [if_pos h]
    show numR (UInt8.ofNat (48 + p) :: c :: r) = _
    rw [numR, isDig_of h, if_neg (by decide)]
    simp only [hc, if_true, dig_of h]
    congr 2
    omega
  · rw [if_neg h]
    show numR (UInt8.ofNat (48 + p / 10) :: UInt8.ofNat (48 + p % 10) :: c :: r) = _
    have h1 : p / 10 < 10 := by omega
    have h2 : p % 10 < 10 := by omega
    unfold numR
    simp only [isDig_of h1, isDig_of h2, dig_of h1, dig_of h2, Bool.true_eq_false, if_false]
    have hne : UInt8.ofNat (48 + p / 10) ≠ 48 := by
      intro e
      have := congrArg UInt8.toNat e
      rw [dig_of h1] at this
      have h3 : (48 : UInt8).toNat = 48 := rfl
      omega
    have e10 : 10 * (48 + p / 10 - 48) + (48 + p % 10 - 48) = p := by omega
    rw [e10, if_pos ⟨hp, hne⟩]
/-- Only what is written is read. -/
theorem numR_some {s : List UInt8} {n : Nat} {rest : List UInt8} (h : numR s = some (n, rest)) : n < 64 ∧ s = digs n ++ rest := by
  cases s with
  | nil => simp [numR] at h
  | cons c r =>
    unfold numR at h
    cases hc : isDig c
    · simp [hc] at h
    · simp only [hc, Bool.true_eq_false, if_false] at h
      obtain ⟨a, ha, rfl⟩ := ofDig hc
      cases r with
      | nil =>
        simp only [dig_of ha] at h
        injection h with h
        injection h with h1 h2
        subst h2
        obtain rfl : n = a := by omega
        refine ⟨by omega, ?_⟩
        unfold digs
        rw [if_pos ha]
        rfl
      | cons d r' =>
        simp only at h
        cases hd : isDig d
        · rw [hd, if_pos rfl] at h
          injection h with h
          injection h with h1 h2
          subst h2
          rw [dig_of ha] at h1
          obtain rfl : n = a := by omega
          refine ⟨by omega, ?_⟩
          unfold digs
          rw [if_pos ha]
          rfl
        · simp only [hd, Bool.true_eq_false, if_false] at h
          obtain ⟨b, hb, rfl⟩ := ofDig hd
          rw [dig_of ha, dig_of hb] at h
          split at h
          · rename_i hh
            injection h with h
            injection h with h1 h2
            subst h2
            have hz : ¬ a = 0 := by
              rintro rfl
              exact hh.2 rfl
            have e : n = 10 * a + b := by omega
            refine ⟨by omega, ?_⟩
            unfold digs
            rw [if_neg (by omega), show n / 10 = a by omega, show n % 10 = b by omega]
            rfl
          · simp at h

theorem tailB_cons (p : Nat) (ps : List Nat) : tailB (p :: ps) = 44 :: (digs p ++ tailB ps) := by
  simp [tailB, List.append_assoc]
theorem tailB_head (ps : List Nat) : ∃ c r, tailB ps = c :: r ∧ isDig c = false := by
  cases ps with
  | nil => exact ⟨125, [], rfl, by decide⟩
  | cons p ps => exact ⟨44, _, tailB_cons p ps, by decide⟩
theorem tailB_end {ps : List Nat} : tailB ps = [125] ↔ ps = [] := by
  cases ps with
  | nil => simp [tailB]
  | cons p ps => rw [tailB_cons]; simp
theorem rgo_tail : ∀ (ps : List Nat) (f : Nat) (want : UInt8) (p out : Nat) (last : Int), ps.length < f → p < 64 → last < p → (p :: ps).Pairwise (· < ·) → (∀ q ∈ ps, q < 64) →
    rgo f want (want :: (digs p ++ tailB ps)) out last = some ((p :: ps).foldl (fun a q => a ||| 2 ^ q) out)
  | ps, 0, _, _, _, _, hf, _, _, _, _ => by omega
  | [], f + 1, want, p, out, last, hf, hp, hl, hs, hq => by
    obtain ⟨c, r, hc, hd⟩ := tailB_head []
    rw [rgo]
    simp only [ne_eq, not_true_eq_false, if_false]
    rw [hc, numR_digs hp c r hd]
    simp only
    rw [if_neg (by omega), ← hc, if_pos (tailB_end.2 rfl)]
    rfl
  | q :: ps, f + 1, want, p, out, last, hf, hp, hl, hs, hq => by
    obtain ⟨c, r, hc, hd⟩ := tailB_head (q :: ps)
    rw [rgo]
    simp only [ne_eq, not_true_eq_false, if_false]
    rw [hc, numR_digs hp c r hd]
    simp only
    rw [if_neg (by omega), ← hc, if_neg (by rw [tailB_end]; simp), tailB_cons]
    rw [List.pairwise_cons] at hs
    have h1 := hs.1 q (by simp)
    rw [rgo_tail ps f 44 q (out ||| 2 ^ p) p (by simp at hf; omega) (hq q (by simp)) (by omega) hs.2 fun x hx => hq x (by simp [hx])]
    rfl
theorem showB_zero : showB 0 = [123, 125] := by unfold showB; rw [prin_zero]; rfl
theorem digs_ne (p : Nat) : digs p ≠ [] := by unfold digs; split <;> simp
theorem digs_len (p : Nat) : 1 ≤ (digs p).length ∧ (digs p).length ≤ 2 := by unfold digs; split <;> simp
theorem tailB_len (ps : List Nat) : ps.length < (tailB ps).length ∧ (tailB ps).length ≤ 3 * ps.length + 1 := by
  induction ps with
  | nil => simp [tailB]
  | cons p ps ih =>
    have := digs_len p
    rw [tailB_cons]
    simp only [List.length_cons, List.length_append]
    omega
theorem rparse_show {l : Nat} (hl : l < 2 ^ 64) : rparse (showB l) = some l := by
  unfold rparse
  have hlp := lab_prin hl
  cases hp : prin l with
  | nil =>
    rw [hp] at hlp
    have e : l = 0 := by rw [← hlp]; rfl
    subst e
    rw [if_pos showB_zero]
  | cons p ps =>
    have hs := prin_sorted l
    have hlt := prin_lt (l := l)
    rw [hp] at hs hlt hlp
    have e : showB l = 123 :: (digs p ++ tailB ps) := by
      unfold showB
      rw [hp, join_tail]
    have hn : ¬ showB l = [123, 125] := by
      rw [e]
      have h1 := digs_len p
      have h2 := tailB_len ps
      intro h
      have := congrArg List.length h
      simp at this
      omega
    rw [if_neg hn, e]
    have h2 := tailB_len ps
    rw [rgo_tail ps _ 123 p 0 (-1) (by simp; omega) (hlt p (by simp)) (by omega) hs fun q hq => hlt q (by simp [hq])]
    exact congrArg some hlp
theorem rgo_some : ∀ (f : Nat) (want : UInt8) (s : List UInt8) (out : Nat) (last : Int) (l : Nat), rgo f want s out last = some l →
    ∃ p ps, s = want :: (digs p ++ tailB ps) ∧ last < p ∧ (p :: ps).Pairwise (· < ·) ∧ (∀ q ∈ p :: ps, q < 64) ∧ l = (p :: ps).foldl (fun a q => a ||| 2 ^ q) out
  | 0, _, _, _, _, _, h => by simp [rgo] at h
  | f + 1, want, [], out, last, l, h => by simp [rgo] at h
  | f + 1, want, c :: r, out, last, l, h => by
    rw [rgo] at h
    split at h
    · simp at h
    · rename_i hw
      have hw' : c = want := by simpa using hw
      subst hw'
      cases hn : numR r with
      | none => rw [hn] at h; simp at h
      | some x =>
        obtain ⟨n, rest⟩ := x
        rw [hn] at h
        simp only at h
        obtain ⟨h64, hr⟩ := numR_some hn
        split at h
        · simp at h
        · rename_i hlast
          split at h
          · rename_i hrest
            injection h with h
            refine ⟨n, [], ?_, by omega, by simp, by simpa using h64, h.symm⟩
            rw [hr, hrest]
            rfl
          · obtain ⟨p, ps, h1, h2, h3, h4, h5⟩ := rgo_some f 44 rest _ _ l h
            refine ⟨n, p :: ps, ?_, by omega, List.pairwise_cons.2 ⟨fun q hq => ?_, h3⟩, fun q hq => ?_, h5⟩
            · rw [hr, tailB_cons, h1]
            · rcases List.mem_cons.1 hq with e | e
              · subst e; omega
              · have := (List.pairwise_cons.1 h3).1 q e
                omega
            · rcases List.mem_cons.1 hq with e | e
              · subst e; exact h64
              · exact h4 q e
theorem rparse_some {s : List UInt8} {l : Nat} (h : rparse s = some l) : l < 2 ^ 64 ∧ s = showB l := by
  unfold rparse at h
  split at h
  · rename_i hs
    injection h with h
    subst h
    exact ⟨by decide, hs.trans showB_zero.symm⟩
  · obtain ⟨p, ps, h1, h2, h3, h4, h5⟩ := rgo_some _ _ _ _ _ _ h
    have e : l = lab (p :: ps) := h5
    subst e
    refine ⟨lab_lt h4, ?_⟩
    unfold showB
    rw [prin_lab h3 h4, join_tail, h1]
theorem showB_len (l : Nat) : 2 ≤ (showB l).length ∧ (showB l).length ≤ 300 := by
  have hle : (prin l).length ≤ 64 := by
    unfold prin
    exact Nat.le_trans (List.length_filter_le _ _) (by simp)
  unfold showB
  cases hp : prin l with
  | nil => simp [Lib.join]
  | cons p ps =>
    rw [join_tail]
    have h1 := digs_len p
    have h2 := tailB_len ps
    rw [hp] at hle
    simp at hle ⊢
    omega
/-- The program's reading: the parts between commas that are principals. -/
def stepP (o : Nat) (part : List UInt8) : Nat := match Lib.atoiAll part with
  | .ok v => if 0 ≤ v ∧ v < 64 then o ||| 2 ^ v.toNat else o
  | _ => o
def outP (parts : List (List UInt8)) : Nat := parts.foldl stepP 0
theorem stepP_lt {o : Nat} (h : o < 2 ^ 64) (part : List UInt8) : stepP o part < 2 ^ 64 := by
  unfold stepP
  split
  · split
    · rename_i v _ hv
      exact Nat.or_lt_two_pow h (Nat.pow_lt_pow_right (by omega) (by omega))
    · exact h
  · exact h
theorem outP_lt (parts : List (List UInt8)) : outP parts < 2 ^ 64 := by
  have key : ∀ (l : List (List UInt8)) (o : Nat), o < 2 ^ 64 → l.foldl stepP o < 2 ^ 64 := by
    intro l
    induction l with
    | nil => intro o h; exact h
    | cons x l ih => intro o h; exact ih _ (stepP_lt h x)
  exact key parts 0 (by decide)
theorem outP_snoc (l : List (List UInt8)) (x : List UInt8) : outP (l ++ [x]) = stepP (outP l) x := by
  unfold outP
  rw [List.foldl_append]
  rfl
theorem index_in {c : UInt8} {x : List UInt8} (h : c ∉ x) (r : List UInt8) : Lib.index (x ++ c :: r) [c] = x.length := by
  refine Lib.index_first (by simp) ?_ fun j hj => ?_
  · unfold Lib.occAt
    rw [List.drop_left]
    simp
  · unfold Lib.occAt
    have : ¬ c = x[j] := fun e => h (e ▸ List.getElem_mem hj)
    rw [List.drop_append_of_le_length (by omega), List.drop_eq_getElem_cons hj, List.cons_append, List.isPrefixOf_cons_cons, beq_eq_false_iff_ne.2 this]
    rfl
theorem index_out {c : UInt8} {x : List UInt8} (h : c ∉ x) : Lib.index x [c] = -1 := by
  refine Lib.index_none fun j hj => ?_
  unfold Lib.occAt
  rcases Nat.lt_or_ge j x.length with hj' | hj'
  · have : ¬ c = x[j] := fun e => h (e ▸ List.getElem_mem hj')
    rw [List.drop_eq_getElem_cons hj', List.isPrefixOf_cons_cons, beq_eq_false_iff_ne.2 this]
    rfl
  · rw [List.drop_eq_nil_of_le hj']
    rfl
theorem split_join (c : UInt8) : ∀ (r : List (List UInt8)) (x : List UInt8), (∀ y ∈ x :: r, c ∉ y) → Lib.split (Lib.join (x :: r) [c]) [c] = x :: r
  | [], x, h => by
    unfold Lib.split
    rw [Lib.join_one, Lib.count_miss (index_out (h x (by simp)))]
    rfl
  | y :: r, x, h => by
    have hj : Lib.join (x :: y :: r) [c] = x ++ c :: Lib.join (y :: r) [c] := by
      rw [Lib.join_cons, Lib.join_cons]
      unfold Lib.joinTail
      simp
    have hi := index_in (h x (by simp)) (Lib.join (y :: r) [c])
    have ih := split_join c r y fun z hz => h z (by simp [hz])
    unfold Lib.split at ih ⊢
    rw [hj, Lib.count_hit (by simp) hi, Nat.add_comm 1, Lib.splitK, hi]
    have hd : (x ++ c :: Lib.join (y :: r) [c]).drop (x.length + [c].length) = Lib.join (y :: r) [c] := by
      rw [List.drop_append]
      simp
    rw [if_neg (by simp)]
    rw [hd]
    have e : ((x.length : Int)).toNat = x.length := by simp
    rw [e, hd, ih, Nat.add_zero, List.take_left]
theorem digs_nocomma {p : Nat} (hp : p < 64) : (44 : UInt8) ∉ digs p := by
  have : ∀ p, p < 64 → (44 : UInt8) ∉ digs p := by decide +kernel
  exact this p hp
theorem digs_atoi {p : Nat} (hp : p < 64) : Lib.atoiAll (digs p) = .ok (p : Int) := by
  have : ∀ p, p < 64 → Lib.atoiAll (digs p) = .ok (p : Int) := by decide +kernel
  exact this p hp
theorem digs_itoa {p : Nat} (hp : p < 64) : Lib.itoa (p : Int) = digs p := by
  unfold Lib.itoa digs
  rw [if_neg (by omega), Int.toNat_natCast, Lib.decDigits]
  by_cases h : p < 10
  · rw [dif_pos h, if_pos h]
  · rw [dif_neg h, if_neg h, Lib.decDigits, dif_pos (by omega)]
    rfl
theorem outP_digs : ∀ (ps : List Nat) (o : Nat), (∀ p ∈ ps, p < 64) → (ps.map digs).foldl stepP o = ps.foldl (fun a p => a ||| 2 ^ p) o
  | [], _, _ => rfl
  | p :: ps, o, h => by
    have hp := h p (by simp)
    rw [List.map_cons, List.foldl_cons, List.foldl_cons, ← outP_digs ps _ fun q hq => h q (by simp [hq])]
    congr 1
    unfold stepP
    rw [digs_atoi hp]
    simp only
    rw [if_pos (by omega), Int.toNat_natCast]
/-- The program's answer. -/
def inner (s : List UInt8) : List UInt8 := (s.take (s.length - 1)).drop 1
def parseP (s : List UInt8) : Option Nat := if s.length < 2 ∨ 300 < s.length then none else if showB (outP (Lib.split (inner s) [44])) = s then some (outP (Lib.split (inner s) [44])) else none
theorem inner_show (l : Nat) : inner (showB l) = Lib.join ((prin l).map digs) [44] := by
  unfold inner showB
  simp
theorem outP_show {l : Nat} (hl : l < 2 ^ 64) : outP (Lib.split (inner (showB l)) [44]) = l := by
  rw [inner_show]
  cases hp : prin l with
  | nil =>
    have hlp := lab_prin hl
    rw [hp] at hlp
    rw [← hlp]
    decide +kernel
  | cons p ps =>
    have hlp := lab_prin hl
    have hlt := prin_lt (l := l)
    rw [hp] at hlp hlt
    rw [List.map_cons, split_join]
    · have := outP_digs (p :: ps) 0 hlt
      rw [List.map_cons] at this
      exact this.trans hlp
    · intro y hy
      rw [← List.map_cons] at hy
      obtain ⟨q, hq, rfl⟩ := List.mem_map.1 hy
      exact digs_nocomma (hlt q hq)
theorem parseP_show {l : Nat} (hl : l < 2 ^ 64) : parseP (showB l) = some l := by
  unfold parseP
  have := showB_len l
  rw [if_neg (by omega), outP_show hl, if_pos rfl]
theorem parseP_some {s : List UInt8} {l : Nat} (h : parseP s = some l) : l < 2 ^ 64 ∧ s = showB l := by
  unfold parseP at h
  split at h
  · cases h
  · split at h
    · rename_i h1
      injection h with h
      subst h
      exact ⟨outP_lt _, h1.symm⟩
    · cases h
/-- Both read alike. -/
theorem parse_alike (s : List UInt8) : rparse s = parseP s := by
  cases h : rparse s with
  | some l =>
    obtain ⟨hl, rfl⟩ := rparse_some h
    exact (parseP_show hl).symm
  | none =>
    cases h2 : parseP s with
    | none => rfl
    | some l =>
      obtain ⟨hl, rfl⟩ := parseP_some h2
      rw [rparse_show hl] at h
      cases h
end Go.Proofs.YtmlknpoippfkeaaDoor
