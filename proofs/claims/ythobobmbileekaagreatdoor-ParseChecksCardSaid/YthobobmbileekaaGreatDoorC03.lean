/-
 ParseChecks: part 3 of what the claim rests on.
-/
import Derived.Test.YthobobmbileekaaGreatDoorC01
import Derived.Test.YthobobmbileekaaGreatDoorC02
set_option linter.unusedVariables false
set_option linter.unusedSimpArgs false
set_option maxHeartbeats 64000000
set_option maxRecDepth 100000
namespace Go.Proofs.YthobobmbileekaaGreatDoor

abbrev exprK (k : Int) : Prop := 13 ≤ k ∧ k ≤ 22 ∨ k = 24 ∨ 27 ≤ k ∧ k ≤ 30
abbrev typeK (k : Int) : Prop := k = 31 ∨ k = 32 ∨ k = 34 ∨ k = 35
abbrev statK (k : Int) : Prop := 4 ≤ k ∧ k ≤ 11
inductive Let where
 | b | B | e | E | T | t | d | f | p | c | s | P | n | h | u | F
abbrev isK (k : Int) : Let → Prop
 | .b => k = 3
 | .B => k = 3 ∨ k = 12
 | .e => exprK k
 | .E => exprK k ∨ k = 12
 | .T => typeK k
 | .t => typeK k ∨ k = 12
 | .d => typeK k ∨ k = 12 ∨ k = 36
 | .f => k = 22
 | .p => k = 17 ∨ k = 18 ∨ k = 19
 | .c => k = 20 ∨ k = 21
 | .s => statK k
 | .P => k = 23
 | .n => k = 25 ∨ k = 26
 | .h => k = 2
 | .u => k = 31 ∨ k = 32
 | .F => k = 33
def formK (k : Int) : List Let × Option Let × List Let :=
 if k = 1 then ([], some .h, [.b]) else if k = 3 then ([], some .s, []) else if k = 4 then ([.d, .E], none, []) else if k = 5 then ([.f], none, []) else if k = 6 then ([.p, .e], none, [])
 else if k = 7 then ([.c], none, []) else if k = 8 then ([.e, .b, .B], none, []) else if k = 9 then ([.e, .b], none, []) else if k = 10 then ([.E], none, [])
 else if k = 18 ∨ k = 25 ∨ k = 26 ∨ k = 28 then ([.e], none, []) else if k = 19 ∨ k = 27 ∨ k = 29 ∨ k = 30 then ([.e, .e], none, []) else if k = 20 then ([.e], some .e, [])
 else if k = 21 then ([], some .e, []) else if k = 22 then ([], some .P, [.t, .b]) else if k = 23 then ([.d], none, []) else if k = 24 then ([], some .n, []) else if k = 32 then ([], some .F, [])
 else if k = 33 ∨ k = 36 then ([.T], none, []) else if k = 34 then ([], some .T, [.T]) else if k = 35 then ([.u, .u], some .u, []) else ([], none, [])
def rowK : List Let → List Int → Prop
 | [], l => l = []
 | x :: r, l => match l with
  | [] => False
  | k :: m => isK k x ∧ rowK r m
def KidsK (k : Int) (l : List Int) : Prop := ∃ A M B : List Int, l = A ++ M ++ B ∧ rowK (formK k).1 A ∧ rowK (formK k).2.2 B ∧ ∀ x ∈ M, ∃ y, (formK k).2.1 = some y ∧ isK x y
def baseN : List ByteArray := [(⟨#[97, 110, 121]⟩ : ByteArray), (⟨#[110, 105, 108]⟩ : ByteArray), (⟨#[98, 111, 111, 108]⟩ : ByteArray), (⟨#[105, 110, 116]⟩ : ByteArray), (⟨#[115, 116, 114, 105, 110, 103]⟩ : ByteArray), (⟨#[116, 97, 98, 108, 101]⟩ : ByteArray), (⟨#[116, 104, 114, 101, 97, 100]⟩ : ByteArray)]
def unN : List ByteArray := [(⟨#[45]⟩ : ByteArray), (⟨#[110, 111, 116]⟩ : ByteArray), (⟨#[35]⟩ : ByteArray)]
def binN : List ByteArray := [(⟨#[43]⟩ : ByteArray), (⟨#[45]⟩ : ByteArray), (⟨#[42]⟩ : ByteArray), (⟨#[47, 47]⟩ : ByteArray), (⟨#[37]⟩ : ByteArray), (⟨#[46, 46]⟩ : ByteArray), (⟨#[61, 61]⟩ : ByteArray), (⟨#[126, 61]⟩ : ByteArray), (⟨#[60]⟩ : ByteArray), (⟨#[60, 61]⟩ : ByteArray), (⟨#[62]⟩ : ByteArray), (⟨#[62, 61]⟩ : ByteArray)]
def chanX (x : ByteArray) : Prop := ∃ n : Int, 0 ≤ n ∧ n ≤ 7 ∧ ∃ m, MaskT m ∧ x = numText n ++ ⟨#[32]⟩ ++ m
def TextK (k : Int) (x : ByteArray) (n : Nat) : Prop :=
 if k = 4 ∨ k = 5 ∨ k = 17 ∨ k = 23 then NameOk x ∧ builtinL x = none
 else if k = 18 ∨ k = 25 ∨ k = 33 then NameOk x
 else if k = 2 then chanX x
 else if k = 36 then MaskT x
 else if k = 14 then x = ⟨#[116, 114, 117, 101]⟩ ∨ x = ⟨#[102, 97, 108, 115, 101]⟩
 else if k = 15 then ∃ n : Int, 0 ≤ n ∧ n ≤ 9223372036854775807 ∧ x = numText n
 else if k = 16 then True
 else if k = 21 then builtinL x = some n
 else if k = 31 then x ∈ baseN
 else if k = 28 then x ∈ unN
 else if k = 27 then x ∈ binN
 else x = ⟨#[]⟩
def rootT : PT → Int
 | .mk k _ _ [] => k
 | .mk k _ _ (t :: _) => if k = 18 ∨ k = 19 ∨ k = 20 then rootT t else k
def isRoot (t : PT) : Prop := rootT t = 17 ∨ rootT t = 21
def MoreK (k : Int) (x : ByteArray) (l : List PT) : Prop :=
 (k = 3 → ∀ t ∈ l.dropLast, t.kind ≠ 10 ∧ t.kind ≠ 11) ∧ (k = 6 ∨ k = 7 → ∃ t r, l = t :: r ∧ isRoot t) ∧ (k = 21 → x = ⟨#[114, 101, 97, 100]⟩ ∨ x = ⟨#[119, 114, 105, 116, 101]⟩ → ∃ t r, l = t :: r ∧ chanT t = true) ∧
 (k = 32 → (l.map PT.text).Nodup) ∧ (k = 1 → ∃ ns : List Int, ns.Nodup ∧ l.dropLast.length = ns.length ∧ ∀ (j : Nat) (t : PT) (n : Int), l.dropLast[j]? = some t → ns[j]? = some n → 0 ≤ n ∧ n ≤ 7 ∧ ∃ m, t.text = numText n ++ m)
def LocK (k : Int) (x : ByteArray) (l : List PT) : Prop := 1 ≤ k ∧ k ≤ 36 ∧ KidsK k (l.map PT.kind) ∧ TextK k x l.length ∧ MoreK k x l
mutual
def okT (M : Nat) : PT → Prop
 | .mk k x a l => okTs M l ∧ LocK k x l ∧ a ≤ M
def okTs (M : Nat) : List PT → Prop
 | [] => True
 | t :: r => okT M t ∧ okTs M r
end
theorem okTs_iff (M : Nat) : ∀ l : List PT, okTs M l ↔ ∀ t ∈ l, okT M t
 | [] => by simp [okTs]
 | t :: r => by rw [okTs, okTs_iff M r]; simp
theorem okT_mk {M : Nat} {k : Int} {x : ByteArray} {a : Nat} {l : List PT} (h1 : ∀ t ∈ l, okT M t) (h2 : LocK k x l) (h3 : a ≤ M) : okT M (.mk k x a l) := by rw [okT]; exact ⟨(okTs_iff M l).2 h1, h2, h3⟩
theorem okT_a {M : Nat} {t : PT} (h : okT M t) : t.a ≤ M := by cases t; rw [okT] at h; exact h.2.2
theorem kids_fix {k : Int} {l : List Int} (h : (formK k).2 = (none, [])) (h1 : rowK (formK k).1 l) : KidsK k l := ⟨l, [], [], by simp, h1, by rw [h]; rfl, fun x hx => by simp at hx⟩
theorem kids_row {k : Int} {l B : List Int} {y : Let} (h0 : (formK k).1 = []) (hy : (formK k).2.1 = some y) (h : ∀ x ∈ l, isK x y) (hB : rowK (formK k).2.2 B) : KidsK k (l ++ B) := ⟨[], l, B, by simp, by rw [h0]; rfl, hB, fun x hx => ⟨y, hy, h x hx⟩⟩
def Pre1 (T : List Tok) (M i : Nat) : N1 → Prop
 | .whileB p | .cond p | .body p | .table p | .kindF p | .shape p => p ≤ M
 | .simple p => p ≤ M ∧ (tk T i).kind = 1
 | .chain r => 1 ≤ r ∧ r ≤ 7
 | .chainL r x => 1 ≤ r ∧ r ≤ 6 ∧ okT M x ∧ exprK x.kind
 | .suffixedL x => okT M x ∧ exprK x.kind
 | .name t => NameOk t.text ∧ t.a ≤ M
 | _ => True
def itemK : Item → Int → Prop
 | .exp, k => exprK k
 | .kind, k => typeK k
 | .param, k => k = 23
 | .field, k => k = 33
def ItemOk (M : Nat) (it : Item) (l : List PT) : Prop := (∀ t ∈ l, okT M t ∧ itemK it t.kind) ∧ (it = .field → (l.map PT.text).Nodup)
def StatsOk (M : Nat) (last : Bool) (l : List PT) : Prop := (∀ t ∈ l, okT M t ∧ statK t.kind) ∧ (∀ t ∈ l.dropLast, t.kind ≠ 10 ∧ t.kind ≠ 11) ∧ (last = false → ∀ t ∈ l, t.kind ≠ 10 ∧ t.kind ≠ 11)
def PreL (T : List Tok) (M i : Nat) : NL → Prop
 | .stats last acc => StatsOk M last acc
 | .until e it acc => ItemOk M it acc
 | .args p => p ≤ M
 | .entries acc => ∀ t ∈ acc, okT M t ∧ (t.kind = 25 ∨ t.kind = 26)
 | .ones acc => ∀ t ∈ acc, okT M t ∧ (t.kind = 31 ∨ t.kind = 32)
def kindN (T : List Tok) (i : Nat) : N1 → PT → Prop
 | .block, t => t.kind = 3
 | .ended, t => t.kind = 3
 | .maybe is, t => exprK t.kind ∨ (is = false ∧ t.kind = 12)
 | .stat, t => statK t.kind ∧ (t.kind = 10 ∨ t.kind = 11 → isAny (tk T i) [⟨#[114, 101, 116, 117, 114, 110]⟩, ⟨#[98, 114, 101, 97, 107]⟩] = true)
 | .whileB _, t => t.kind = 9
 | .cond _, t => t.kind = 8
 | .simple _, t => t.kind = 6 ∨ t.kind = 7
 | .colon bound, t => typeK t.kind ∨ t.kind = 12 ∨ (bound = true ∧ t.kind = 36)
 | .body _, t => t.kind = 22
 | .param, t => t.kind = 23
 | .suffixed, t => exprK t.kind ∧ ((tk T i).kind = 1 → isRoot t)
 | .suffixedL x, t => exprK t.kind ∧ (isRoot x → isRoot t)
 | .prim, t => exprK t.kind ∧ ((tk T i).kind = 1 → isRoot t)
 | .name _, t => exprK t.kind ∧ isRoot t
 | .table _, t => t.kind = 24
 | .kind, t => typeK t.kind
 | .kindF _, t => typeK t.kind
 | .one, t => t.kind = 31 ∨ t.kind = 32
 | .shape _, t => t.kind = 32
 | .field seen, t => t.kind = 33 ∧ t.text ∉ seen
 | _, t => exprK t.kind
def lazyN : N1 → Bool
 | .block | .maybe _ | .colon _ | .chainL _ _ | .suffixedL _ | .name _ => true
 | _ => false
def Good1 (T : List Tok) (M i : Nat) (nt : N1) (t : PT) (j : Nat) : Prop := okT M t ∧ kindN T i nt t ∧ j < T.length ∧ (if lazyN nt then i ≤ j else i < j)
def GoodL (T : List Tok) (M i : Nat) : NL → List PT → Nat → Prop
 | .stats _ _, l, j => StatsOk M true l ∧ j < T.length ∧ i ≤ j
 | .until _ it _, l, j => ItemOk M it l ∧ j < T.length ∧ i < j
 | .args _, l, j => (∀ t ∈ l, okT M t ∧ exprK t.kind) ∧ j < T.length ∧ i < j
 | .entries _, l, j => (∀ t ∈ l, okT M t ∧ (t.kind = 25 ∨ t.kind = 26)) ∧ j < T.length ∧ i ≤ j
 | .ones acc, l, j => (∀ t ∈ l, okT M t ∧ (t.kind = 31 ∨ t.kind = 32)) ∧ acc.length ≤ l.length ∧ j < T.length ∧ i ≤ j
def lev1 : N1 → Nat
 | .block => 15
 | .ended => 16
 | .maybe _ => 12
 | .stat => 13
 | .whileB _ => 12
 | .cond _ => 12
 | .simple _ => 4
 | .chain r => 4 + (7 - r)
 | .exp => 11
 | .unary => 3
 | .suffixed => 2
 | .index => 12
 | .paren => 12
 | .table _ => 13
 | .kind => 2
 | .kindF _ => 19
 | .shape _ => 19
 | _ => 1
def levL : NL → Nat
 | .stats _ _ => 14
 | .until _ _ _ => 18
 | .args _ => 19
 | .entries _ => 12
 | .ones _ => 1
def reach1 (T : List Tok) (i : Nat) (nt : N1) : Nat := 20 * (T.length - i) + lev1 nt
def reachL (T : List Tok) (i : Nat) (nt : NL) : Nat := 20 * (T.length - i) + levL nt
structure AllGood (T : List Tok) (M f : Nat) : Prop where
 one : ∀ nt o i, i < T.length → Pre1 T M i nt → Sat (f < reach1 T i nt) (ErrP M) (Good1 T M i nt) ((parF T f).one nt o i)
 many : ∀ nt o i, i < T.length → PreL T M i nt → Sat (f < reachL T i nt) (ErrP M) (GoodL T M i nt) ((parF T f).many nt o i)
theorem loc_plain {k : Int} {x : ByteArray} {l : List PT} (h1 : 1 ≤ k ∧ k ≤ 36) (hk : KidsK k (l.map PT.kind)) (ht : TextK k x l.length) (hm : k ≠ 1 ∧ k ≠ 3 ∧ k ≠ 6 ∧ k ≠ 7 ∧ k ≠ 21 ∧ k ≠ 32) : LocK k x l :=
 ⟨h1.1, h1.2, hk, ht, fun h => absurd h hm.2.1, fun h => h.elim (fun h => absurd h hm.2.2.1) (fun h => absurd h hm.2.2.2.1), fun h => absurd h hm.2.2.2.2.1, fun h => absurd h hm.2.2.2.2.2, fun h => absurd h hm.1⟩
theorem okT_leaf {M : Nat} {k : Int} {x : ByteArray} {a : Nat} (h1 : 1 ≤ k ∧ k ≤ 36) (hf : formK k = ([], none, [])) (ht : TextK k x 0) (hm : k ≠ 1 ∧ k ≠ 3 ∧ k ≠ 6 ∧ k ≠ 7 ∧ k ≠ 21 ∧ k ≠ 32) (ha : a ≤ M) : okT M (.mk k x a []) :=
 okT_mk (by simp) (loc_plain h1 (kids_fix (by rw [hf]) (by rw [hf]; rfl)) ht hm) ha
theorem xk {k : Int} {x : ByteArray} {a : Nat} {l : List PT} (h : exprK k) : exprK (PT.mk k x a l).kind := h
theorem sk {k : Int} {x : ByteArray} {a : Nat} {l : List PT} (h : statK k) : statK (PT.mk k x a l).kind := h
theorem noneT_ok (M : Nat) : okT M noneT := okT_leaf (by decide) rfl (by simp [TextK]) (by decide) (Nat.zero_le _)
section
variable {T : List Tok} {M f : Nat}
theorem good_block (h : TokOk T M) (IH : AllGood T M f) (o i : Nat) (hi : i < T.length) : Sat (f + 1 < reach1 T i (.block)) (ErrP M) (Good1 T M i (.block)) (stepBlock T (parF T f) o i) := by
 unfold stepBlock
 refine Sat.then (IH.many (.stats false []) o i hi ⟨by simp, by simp, by simp⟩) (fun hf => by simp only [reach1, reachL, lev1, levL] at hf ⊢; omega) fun l j hl => Sat.ok ?_
 obtain ⟨⟨h1, h2, _⟩, h3, h4⟩ := hl
 refine ⟨okT_mk (fun t ht => (h1 t ht).1) ⟨by decide, by decide, ?_, by simp [TextK], fun _ => h2, by simp, by simp, by simp, by simp⟩ (h.place i), rfl, h3, h4⟩
 have := kids_row (k := 3) (l := l.map PT.kind) (B := []) (y := .s) rfl rfl (fun x hx => by obtain ⟨t, ht, rfl⟩ := List.mem_map.1 hx; exact (h1 t ht).2) rfl
 simpa using this
theorem good_stats (h : TokOk T M) (IH : AllGood T M f) (last : Bool) (acc : List PT) (o i : Nat) (hi : i < T.length) (hp : PreL T M i (.stats last acc)) : Sat (f + 1 < reachL T i (.stats last acc)) (ErrP M) (GoodL T M i (.stats last acc)) (stepStats T (parF T f) last acc o i) := by
 unfold stepStats
 refine Sat.ite (fun _ => Sat.ok ⟨⟨hp.1, hp.2.1, by simp⟩, hi, znr⟩) fun hc => ?_
 have hlast : last = false := by cases last <;> simp_all
 refine Sat.then (IH.one .stat o i hi trivial) (fun hf => by simp only [reach1, reachL, lev1, levL] at hf ⊢; omega) fun t j ht => ?_
 obtain ⟨h1, ⟨h2, h2'⟩, h3, h4⟩ := ht
 simp only [lazyN, Bool.false_eq_true, if_false] at h4
 refine (IH.many (.stats _ (acc ++ [t])) o j h3 ⟨fun x hx => ?_, ?_, fun hb x hx => ?_⟩).mono (fun hf => by simp only [reach1, reachL, lev1, levL] at hf ⊢; omega) fun l k hl => ⟨hl.1, hl.2.1, by have := hl.2.2; omega⟩
 ·rcases List.mem_append.1 hx with hx | hx
  ·exact hp.1 x hx
  ·rw [List.mem_singleton.1 hx]; exact ⟨h1, h2⟩
 ·rw [List.dropLast_concat]; exact hp.2.2 hlast
 ·rcases List.mem_append.1 hx with hx | hx
  ·exact hp.2.2 hlast x hx
  ·rw [List.mem_singleton.1 hx]
   refine ⟨fun e => ?_, fun e => ?_⟩
   ·rw [h2' (.inl e)] at hb; exact absurd hb (by decide)
   ·rw [h2' (.inr e)] at hb; exact absurd hb (by decide)
theorem good_ended (h : TokOk T M) (IH : AllGood T M f) (o i : Nat) (hi : i < T.length) : Sat (f + 1 < reach1 T i (.ended)) (ErrP M) (Good1 T M i (.ended)) (stepEnded T (parF T f) o i) := by
 unfold stepEnded
 refine Sat.then (IH.one .block o i hi trivial) (fun hf => by simp only [reach1, reachL, lev1, levL] at hf ⊢; omega) fun t j ht => ?_
 obtain ⟨h1, h2, h3, h4⟩ := ht
 simp only [lazyN, if_true] at h4
 exact Sat.need h h3 fun _ h5 => Sat.ok ⟨h1, h2, h5, by simp only [lazyN, Bool.false_eq_true, if_false]; omega⟩
theorem good_maybe (h : TokOk T M) (IH : AllGood T M f) (is : Bool) (o i : Nat) (hi : i < T.length) : Sat (f + 1 < reach1 T i (.maybe is)) (ErrP M) (Good1 T M i (.maybe is)) (stepMaybe (parF T f) is o i) := by
 unfold stepMaybe
 refine Sat.ite (fun hb => ?_) fun hb => Sat.ok ⟨noneT_ok M, .inr ⟨by simpa using hb, rfl⟩, hi, znr⟩
 refine (IH.one .exp o i hi trivial).mono (fun hf => by simp only [reach1, reachL, lev1, levL] at hf ⊢; omega) fun t j ht => ?_
 obtain ⟨h1, h2, h3, h4⟩ := ht
 simp only [lazyN, Bool.false_eq_true, if_false] at h4
 exact ⟨h1, .inl h2, h3, Nat.le_of_lt h4⟩
theorem good_while (h : TokOk T M) (IH : AllGood T M f) (p : Nat) (o i : Nat) (hi : i < T.length) (hp : Pre1 T M i (.whileB p)) : Sat (f + 1 < reach1 T i (.whileB p)) (ErrP M) (Good1 T M i (.whileB p)) (stepWhile T (parF T f) p o i) := by
 unfold stepWhile
 refine Sat.then (IH.one .exp o i hi trivial) (fun hf => by simp only [reach1, reachL, lev1, levL] at hf ⊢; omega) fun t j hta => ?_
 obtain ⟨h1a, h2a, h3a, h4a⟩ := hta
 simp only [lazyN, zf] at h4a
 refine Sat.need h h3a fun _ h5 => ?_
 refine Sat.then (IH.one .ended o (j + 1) h5 trivial) (fun hf => by simp only [reach1, reachL, lev1, levL] at hf ⊢; omega) fun t2 j2 htb => Sat.ok ?_
 obtain ⟨h1b, h2b, h3b, h4b⟩ := htb
 simp only [lazyN, zf] at h4b
 refine ⟨okT_mk (by simp [h1a, h1b]) (loc_plain (by decide) (kids_fix rfl ⟨h2a, h2b, rfl⟩) (by simp [TextK]) (by decide)) hp, rfl, h3b, ?_⟩
 simp only [lazyN, Bool.false_eq_true, if_false]; omega
theorem good_index (h : TokOk T M) (IH : AllGood T M f) (o i : Nat) (hi : i < T.length) : Sat (f + 1 < reach1 T i (.index)) (ErrP M) (Good1 T M i (.index)) (stepIndex T (parF T f) o i) := by
 unfold stepIndex
 refine Sat.then (IH.one .exp o i hi trivial) (fun hf => by simp only [reach1, reachL, lev1, levL] at hf ⊢; omega) fun t j hta => ?_
 obtain ⟨h1a, h2a, h3a, h4a⟩ := hta
 simp only [lazyN, zf] at h4a
 refine Sat.need h h3a fun _ h5 => Sat.ok ⟨h1a, h2a, h5, by simp only [lazyN, Bool.false_eq_true, if_false]; omega⟩
theorem good_paren (h : TokOk T M) (IH : AllGood T M f) (o i : Nat) (hi : i < T.length) : Sat (f + 1 < reach1 T i (.paren)) (ErrP M) (Good1 T M i (.paren)) (stepParen T (parF T f) o i) := by
 unfold stepParen
 refine Sat.then (IH.one .exp o i hi trivial) (fun hf => by simp only [reach1, reachL, lev1, levL] at hf ⊢; omega) fun t j hta => ?_
 obtain ⟨h1a, h2a, h3a, h4a⟩ := hta
 simp only [lazyN, zf] at h4a
 refine Sat.need h h3a fun _ h5 => Sat.ok ⟨h1a, h2a, h5, by simp only [lazyN, Bool.false_eq_true, if_false]; omega⟩
theorem good_stat (h : TokOk T M) (IH : AllGood T M f) (o i : Nat) (hi : i < T.length) : Sat (f + 1 < reach1 T i (.stat)) (ErrP M) (Good1 T M i (.stat)) (stepStat T (parF T f) o i) := by
 unfold stepStat
 have hpl := h.place i
 simp only
 refine Sat.ite (fun hb => ?_) fun _ => Sat.ite (fun hb => ?_) fun _ => Sat.ite (fun hb => ?_) fun _ => Sat.ite (fun hb => ?_) fun _ => Sat.ite (fun hb => ?_) fun _ => Sat.ite (fun hb => ?_) fun _ => Sat.ite (fun hb => Sat.bad1 h) fun hb => ?_
 ·refine Sat.ok ⟨okT_leaf (by decide) rfl (by simp [TextK]) (by decide) hpl, ⟨sk (by decide), fun _ => ?_⟩, any_lt h hi hb, by simp only [lazyN, Bool.false_eq_true, if_false]; omega⟩
  unfold isAny at hb ⊢; simp only [List.any_cons, List.any_nil, Bool.or_false, Bool.and_eq_true] at hb ⊢; exact ⟨hb.1, by rw [hb.2, Bool.or_true]⟩
 ·have hr : isAny (tk T i) [⟨#[114, 101, 116, 117, 114, 110]⟩, ⟨#[98, 114, 101, 97, 107]⟩] = true := by unfold isAny at hb ⊢; simp only [List.any_cons, List.any_nil, Bool.or_false, Bool.and_eq_true] at hb ⊢; exact ⟨hb.1, by rw [hb.2, Bool.true_or]⟩
  refine Sat.then (IH.one (.maybe _) o (i + 1) (any_lt h hi hb) trivial) (fun hf => by simp only [reach1, reachL, lev1, levL] at hf ⊢; omega) fun t j hta => Sat.ok ?_; obtain ⟨h1a, h2a, h3a, h4a⟩ := hta; simp only [lazyN, if_true] at h4a
  refine ⟨okT_mk (by simp [h1a]) (loc_plain (by decide) (kids_fix rfl ⟨?_, rfl⟩) (by simp [TextK]) (by decide)) hpl, ⟨sk (by decide), fun _ => hr⟩, h3a, by simp only [lazyN, Bool.false_eq_true, if_false]; omega⟩; exact h2a.imp id And.right
 ·refine Sat.variable h (any_lt h hi hb) fun hk hbu h5 => ?_
  refine Sat.then (IH.one (.colon true) o (i + 1 + 1) h5 trivial) (fun hf => by simp only [reach1, reachL, lev1, levL] at hf ⊢; omega) fun t j hta => ?_; obtain ⟨h1a, h2a, h3a, h4a⟩ := hta; simp only [lazyN, if_true] at h4a
  have hfin : ∀ (b : Bool) (j0 : Nat) (e : PT) (j2 : Nat), j ≤ j0 → Good1 T M j0 (.maybe b) e j2 → Good1 T M i .stat (.mk 4 (tk T (i + 1)).text (tk T i).a [t, e]) j2 := fun b j0 e j2 hj he => by
   obtain ⟨h1b, h2b, h3b, h4b⟩ := he; simp only [lazyN, if_true] at h4b
   refine ⟨okT_mk (by simp [h1a, h1b]) (loc_plain (by decide) (kids_fix rfl ⟨?_, ?_, rfl⟩) ?_ (by decide)) hpl, ⟨sk (by decide), fun e => by simp [PT.kind] at e⟩, h3b, by simp only [lazyN, Bool.false_eq_true, if_false]; omega⟩
   ·exact h2a.imp id (Or.imp id And.right)
   ·exact h2b.imp id And.right
   ·simp only [TextK, true_or, if_true]; exact ⟨h.name _ hk, hbu⟩
  refine Sat.ite (fun he => ?_) fun he => ?_
  ·exact Sat.then (IH.one (.maybe true) o (j + 1) (any_lt h h3a he) trivial) (fun hf => by simp only [reach1, reachL, lev1, levL] at hf ⊢; omega) fun e j2 hte => Sat.ok (hfin true _ e j2 (Nat.le_succ _) hte)
  ·exact Sat.then (IH.one (.maybe false) o j h3a trivial) (fun hf => by simp only [reach1, reachL, lev1, levL] at hf ⊢; omega) fun e j2 hte => Sat.ok (hfin false _ e j2 znr hte)
 ·refine Sat.variable h (any_lt h hi hb) fun hk hbu h5 => Sat.deeper hpl fun _ => ?_
  refine Sat.then (IH.one (.body _) (o + 1) (i + 1 + 1) h5 hpl) (fun hf => by simp only [reach1, reachL, lev1, levL] at hf ⊢; omega) fun t j hta => Sat.ok ?_; obtain ⟨h1a, h2a, h3a, h4a⟩ := hta; simp only [lazyN, Bool.false_eq_true, if_false] at h4a
  refine ⟨okT_mk (by simp [h1a]) (loc_plain (by decide) (kids_fix rfl ⟨h2a, rfl⟩) ?_ (by decide)) hpl, ⟨sk (by decide), fun e => by simp [PT.kind] at e⟩, h3a, by simp only [lazyN, Bool.false_eq_true, if_false]; omega⟩; simp only [TextK, true_or, or_true, if_true]; exact ⟨h.name _ hk, hbu⟩
 ·refine Sat.deeper hpl fun _ => (IH.one (.cond _) (o + 1) (i + 1) (any_lt h hi hb) hpl).mono (fun hf => by simp only [reach1, reachL, lev1, levL] at hf ⊢; omega) fun t j hta => ?_
  obtain ⟨h1a, h2a, h3a, h4a⟩ := hta; simp only [lazyN, Bool.false_eq_true, if_false] at h4a
  exact ⟨h1a, ⟨by have h2a : t.kind = 8 := h2a; rw [h2a]; decide, fun e => by have h2a : t.kind = 8 := h2a; rw [h2a] at e; simp at e⟩, h3a, by simp only [lazyN, Bool.false_eq_true, if_false]; omega⟩
 ·refine Sat.deeper hpl fun _ => (IH.one (.whileB _) (o + 1) (i + 1) (any_lt h hi hb) hpl).mono (fun hf => by simp only [reach1, reachL, lev1, levL] at hf ⊢; omega) fun t j hta => ?_
  obtain ⟨h1a, h2a, h3a, h4a⟩ := hta; simp only [lazyN, Bool.false_eq_true, if_false] at h4a
  exact ⟨h1a, ⟨by have h2a : t.kind = 9 := h2a; rw [h2a]; decide, fun e => by have h2a : t.kind = 9 := h2a; rw [h2a] at e; simp at e⟩, h3a, by simp only [lazyN, Bool.false_eq_true, if_false]; omega⟩
 ·have hk : (tk T i).kind = 1 := by simpa using hb
  refine (IH.one (.simple _) o i hi ⟨hpl, hk⟩).mono (fun hf => by simp only [reach1, reachL, lev1, levL] at hf ⊢; omega) fun t j hta => ?_; obtain ⟨h1a, h2a, h3a, h4a⟩ := hta; simp only [lazyN, Bool.false_eq_true, if_false] at h4a
  have h2a : t.kind = 6 ∨ t.kind = 7 := h2a; exact ⟨h1a, ⟨by show 4 ≤ t.kind ∧ t.kind ≤ 11; omega, fun e => by omega⟩, h3a, by simp only [lazyN, Bool.false_eq_true, if_false]; omega⟩
theorem good_cond (h : TokOk T M) (IH : AllGood T M f) (p : Nat) (o i : Nat) (hi : i < T.length) (hp : Pre1 T M i (.cond p)) : Sat (f + 1 < reach1 T i (.cond p)) (ErrP M) (Good1 T M i (.cond p)) (stepCond T (parF T f) p o i) := by
 unfold stepCond
 refine Sat.then (IH.one .exp o i hi trivial) (fun hf => by simp only [reach1, reachL, lev1, levL] at hf ⊢; omega) fun e j hta => ?_
 obtain ⟨h1a, h2a, h3a, h4a⟩ := hta
 simp only [lazyN, zf] at h4a
 refine Sat.need h h3a fun _ h5 => ?_
 refine Sat.then (IH.one .block o (j + 1) h5 trivial) (fun hf => by simp only [reach1, reachL, lev1, levL] at hf ⊢; omega) fun b j2 htb => ?_
 obtain ⟨h1b, h2b, h3b, h4b⟩ := htb
 simp only [lazyN, zf] at h4b
 have hpl := h.place j2
 have hfin : ∀ (x : PT) (j3 : Nat), okT M x → (x.kind = 3 ∨ x.kind = 12) → j3 < T.length → i < j3 → Good1 T M i (.cond p) (.mk 8 ⟨#[]⟩ p [e, b, x]) j3 := fun x j3 hx hk h3 h4 => by
  refine ⟨okT_mk (by simp [h1a, h1b, hx]) (loc_plain (by decide) (kids_fix rfl ⟨h2a, h2b, hk, rfl⟩) (by simp [TextK]) (by decide)) hp, rfl, h3, by simp only [lazyN, Bool.false_eq_true, if_false]; omega⟩
 simp only
 refine Sat.ite (fun hb => ?_) fun _ => Sat.ite (fun hb => ?_) fun _ => ?_
 ·refine Sat.deeper hpl fun _ => Sat.then (IH.one (.cond _) (o + 1) (j2 + 1) (any_lt h h3b hb) hpl) (fun hf => by simp only [reach1, reachL, lev1, levL] at hf ⊢; omega) fun n j3 htc => Sat.ok ?_
  obtain ⟨h1c, h2c, h3c, h4c⟩ := htc; simp only [lazyN, Bool.false_eq_true, if_false] at h4c
  refine hfin _ j3 (okT_mk (by simp [h1c]) ⟨by decide, by decide, ?_, by simp [TextK], by simp, by simp, by simp, by simp, by simp⟩ hpl) (.inl rfl) h3c (by omega); refine ⟨[], [n.kind], [], rfl, rfl, rfl, fun x hx => ⟨.s, rfl, ?_⟩⟩; have h2c : n.kind = 8 := h2c; rw [List.mem_singleton.1 hx, h2c]; decide
 ·refine Sat.then (IH.one .ended o (j2 + 1) (any_lt h h3b hb) trivial) (fun hf => by simp only [reach1, reachL, lev1, levL] at hf ⊢; omega) fun x j3 htc => Sat.ok ?_
  obtain ⟨h1c, h2c, h3c, h4c⟩ := htc; simp only [lazyN, Bool.false_eq_true, if_false] at h4c
  exact hfin x j3 h1c (.inl h2c) h3c (by omega)
 ·exact Sat.need h h3b fun _ h6 => Sat.ok (hfin _ _ (noneT_ok M) (.inr rfl) h6 (by omega))
theorem good_simple (h : TokOk T M) (IH : AllGood T M f) (p : Nat) (o i : Nat) (hi : i < T.length) (hp : Pre1 T M i (.simple p)) : Sat (f + 1 < reach1 T i (.simple p)) (ErrP M) (Good1 T M i (.simple p)) (stepSimple T (parF T f) p o i) := by
 unfold stepSimple
 refine Sat.then (IH.one .suffixed o i hi trivial) (fun hf => by simp only [reach1, reachL, lev1, levL] at hf ⊢; omega) fun x j hta => ?_
 obtain ⟨h1a, h2a, h3a, h4a⟩ := hta
 simp only [lazyN, zf] at h4a
 obtain ⟨h2a, h2r⟩ := h2a
 have hroot := h2r hp.2
 refine Sat.ite (fun hb => Sat.ite (fun _ => Sat.bad1 h) fun hc => ?_) fun _ => Sat.ite (fun _ => ⟨hp.1, .inl rfl⟩) fun hc => Sat.ok ?_
 ·refine Sat.then (IH.one .exp o (j + 1) (any_lt h h3a hb) trivial) (fun hf => by simp only [reach1, reachL, lev1, levL] at hf ⊢; omega) fun e j2 htb => Sat.ok ?_
  obtain ⟨h1b, h2b, h3b, h4b⟩ := htb; simp only [lazyN, Bool.false_eq_true, if_false] at h4b
  refine ⟨okT_mk (by simp [h1a, h1b]) ⟨by decide, by decide, kids_fix rfl ⟨by show x.kind = 17 ∨ x.kind = 18 ∨ x.kind = 19; omega, h2b, rfl⟩, by simp [TextK], by simp, fun _ => ⟨x, [e], rfl, hroot⟩, by simp, by simp, by simp⟩ (h.place j), .inl rfl, h3b, by simp only [lazyN, Bool.false_eq_true, if_false]; omega⟩
 ·refine ⟨okT_mk (by simp [h1a]) ⟨by decide, by decide, kids_fix rfl ⟨by show x.kind = 20 ∨ x.kind = 21; omega, rfl⟩, by simp [TextK], by simp, fun _ => ⟨x, [], rfl, hroot⟩, by simp, by simp, by simp⟩ (okT_a h1a), .inr rfl, h3a, by simp only [lazyN, Bool.false_eq_true, if_false]; omega⟩
theorem good_colon (h : TokOk T M) (IH : AllGood T M f) (bound : Bool) (o i : Nat) (hi : i < T.length) : Sat (f + 1 < reach1 T i (.colon bound)) (ErrP M) (Good1 T M i (.colon bound)) (stepColon T (parF T f) bound o i) := by
 unfold stepColon
 refine Sat.ite (fun hb => ?_) fun hb => Sat.ok ⟨noneT_ok M, .inr (.inl rfl), hi, znr⟩
 refine Sat.then (IH.one .kind o (i + 1) (any_lt h hi hb) trivial) (fun hf => by simp only [reach1, reachL, lev1, levL] at hf ⊢; omega) fun t j hta => ?_
 obtain ⟨h1a, h2a, h3a, h4a⟩ := hta
 simp only [lazyN, zf] at h4a
 refine Sat.ite (fun hc => ?_) fun hc => Sat.ok ⟨h1a, .inl h2a, h3a, by simp only [lazyN, if_true]; omega⟩
 rw [Bool.and_eq_true] at hc
 refine Sat.mask h (any_lt h h3a hc.2) fun m j2 hm h5 h6 => Sat.ok ?_
 refine ⟨okT_mk (by simp [h1a]) (loc_plain (by decide) (kids_fix rfl ⟨h2a, rfl⟩) (by simpa [TextK] using hm) (by decide)) (h.place j), .inr (.inr ⟨hc.1, rfl⟩), h6, by simp only [lazyN, if_true]; omega⟩
theorem good_body (h : TokOk T M) (IH : AllGood T M f) (p : Nat) (o i : Nat) (hi : i < T.length) (hp : Pre1 T M i (.body p)) : Sat (f + 1 < reach1 T i (.body p)) (ErrP M) (Good1 T M i (.body p)) (stepBody T (parF T f) p o i) := by
 unfold stepBody
 refine Sat.need h hi fun _ h5 => ?_
 refine Sat.then (IH.many (.until _ .param []) o (i + 1) h5 ⟨by simp, by simp⟩) (fun hf => by simp only [reach1, reachL, lev1, levL] at hf ⊢; omega) fun l j hl => ?_
 obtain ⟨⟨hl1, _⟩, hl2, hl3⟩ := hl
 refine Sat.then (IH.one (.colon false) o j hl2 trivial) (fun hf => by simp only [reach1, reachL, lev1, levL] at hf ⊢; omega) fun k j2 hta => ?_
 obtain ⟨h1a, h2a, h3a, h4a⟩ := hta
 simp only [lazyN, if_true] at h4a
 refine Sat.then (IH.one .ended o j2 h3a trivial) (fun hf => by simp only [reach1, reachL, lev1, levL] at hf ⊢; omega) fun b j3 htb => Sat.ok ?_
 obtain ⟨h1b, h2b, h3b, h4b⟩ := htb
 simp only [lazyN, zf] at h4b
 refine ⟨okT_mk (fun t ht => ?_) (loc_plain (by decide) ?_ (by simp [TextK]) (by decide)) hp, rfl, h3b, by simp only [lazyN, Bool.false_eq_true, if_false]; omega⟩
 ·rcases List.mem_append.1 ht with ht | ht
  ·exact (hl1 t ht).1
  ·simp at ht; rcases ht with rfl | rfl <;> assumption
 ·rw [List.map_append]
  refine kids_row (k := 22) (y := .P) rfl rfl (fun x hx => by obtain ⟨t, ht, rfl⟩ := List.mem_map.1 hx; exact (hl1 t ht).2) ⟨?_, h2b, rfl⟩
  rcases h2a with h | h | ⟨h, _⟩
  ·exact .inl h
  ·exact .inr h
  ·exact absurd h (by decide)
theorem good_param (h : TokOk T M) (IH : AllGood T M f) (o i : Nat) (hi : i < T.length) : Sat (f + 1 < reach1 T i (.param)) (ErrP M) (Good1 T M i (.param)) (stepParam T (parF T f) o i) := by
 unfold stepParam
 refine Sat.variable h hi fun hk hbu h5 => ?_
 refine Sat.then (IH.one (.colon true) o (i + 1) h5 trivial) (fun hf => by simp only [reach1, reachL, lev1, levL] at hf ⊢; omega) fun k j hta => Sat.ok ?_
 obtain ⟨h1a, h2a, h3a, h4a⟩ := hta
 simp only [lazyN, if_true] at h4a
 refine ⟨okT_mk (by simp [h1a]) (loc_plain (by decide) (kids_fix rfl ⟨h2a.imp id (Or.imp id And.right), rfl⟩) ?_ (by decide)) (h.place i), rfl, h3a, by simp only [lazyN, Bool.false_eq_true, if_false]; omega⟩
 simp only [TextK, or_true, if_true]; exact ⟨h.name _ hk, hbu⟩
theorem good_until (h : TokOk T M) (IH : AllGood T M f) (e : ByteArray) (it : Item) (acc : List PT) (o i : Nat) (hi : i < T.length) (hp : PreL T M i (.until e it acc)) : Sat (f + 1 < reachL T i (.until e it acc)) (ErrP M) (GoodL T M i (.until e it acc)) (stepUntil T (parF T f) e it acc o i) := by
 unfold stepUntil
 refine Sat.ite (fun hb => Sat.ok ⟨hp, any_lt h hi hb, Nat.lt_succ_self i⟩) fun _ => ?_
 have hrest : ∀ i0, i ≤ i0 → i0 < T.length → Sat (f + 1 < reachL T i (.until e it acc)) (ErrP M) (GoodL T M i (.until e it acc)) (Res.then ((parF T f).one (it.nt acc) o i0) fun t j => (parF T f).many (.until e it (acc ++ [t])) o j) := fun i0 hle h0 => by
  refine Sat.then (IH.one (it.nt acc) o i0 h0 (by cases it <;> trivial)) (fun hf => by cases it <;> (simp only [reach1, reachL, lev1, levL, Item.nt] at hf ⊢; omega)) fun t j hta => ?_; obtain ⟨h1a, h2a, h3a, h4a⟩ := hta; have h4 : i0 < j := by cases it <;> simpa [lazyN, Item.nt] using h4a
  have hk : itemK it t.kind := by
   cases it with
   | field => exact h2a.1
   | exp => exact h2a
   | kind => exact h2a
   | param => exact h2a
  refine (IH.many (.until e it (acc ++ [t])) o j h3a ⟨fun x hx => ?_, fun hf => ?_⟩).mono (fun hf => by simp only [reach1, reachL, lev1, levL] at hf ⊢; omega) fun l k hl => ⟨hl.1, hl.2.1, by have := hl.2.2; omega⟩
  ·rcases List.mem_append.1 hx with hx | hx
   ·exact hp.1 x hx
   ·rw [List.mem_singleton.1 hx]; exact ⟨h1a, hk⟩
  ·subst hf
   rw [List.map_append]; refine List.nodup_append.2 ⟨hp.2 rfl, by simp, fun a ha b hb => ?_⟩; have hb2 : b = t.text := by simpa using hb
   rw [hb2]; exact fun e => h2a.2 (e ▸ ha)
 exact Sat.ite (fun _ => hrest i znr hi) fun _ => Sat.need h hi fun _ h5 => hrest (i + 1) (Nat.le_succ _) h5
theorem good_chain (h : TokOk T M) (IH : AllGood T M f) (r : Nat) (o i : Nat) (hi : i < T.length) (hp : Pre1 T M i (.chain r)) : Sat (f + 1 < reach1 T i (.chain r)) (ErrP M) (Good1 T M i (.chain r)) (stepChain (parF T f) r o i) := by
 unfold stepChain
 obtain ⟨hr1, hr2⟩ : 1 ≤ r ∧ r ≤ 7 := hp
 refine Sat.ite (fun hb => (IH.one .unary o i hi trivial).mono (fun hf => by simp only [reach1, lev1] at hf ⊢; omega) fun t j ht => ht) fun hb => ?_
 refine Sat.then (IH.one (.chain (r + 1)) o i hi ⟨by omega, by omega⟩) (fun hf => by simp only [reach1, lev1] at hf ⊢; omega) fun x j hta => ?_
 obtain ⟨h1a, h2a, h3a, h4a⟩ := hta
 simp only [lazyN, zf] at h4a
 refine (IH.one (.chainL r x) o j h3a ⟨hr1, by omega, h1a, h2a⟩).mono (fun hf => by simp only [reach1, reachL, lev1, levL] at hf ⊢; omega) fun t k htb => ?_
 obtain ⟨h1b, h2b, h3b, h4b⟩ := htb
 simp only [lazyN, zf] at h4b
 exact ⟨h1b, h2b, h3b, by simp only [lazyN, Bool.false_eq_true, if_false]; omega⟩
theorem rank_texts {s : ByteArray} {r : Nat} (h : rankL s = r) (h1 : 1 ≤ r) : s = ⟨#[97, 110, 100]⟩ ∨ s = ⟨#[111, 114]⟩ ∨ s ∈ binN := by
 unfold rankL at h
 repeat' split at h
 all_goals first | omega | skip
 all_goals
  rename_i hc
  simp only [inB_iff, List.mem_cons, List.mem_singleton, List.not_mem_nil, or_false] at hc
  simp only [binN, List.mem_cons, List.not_mem_nil, or_false]
  first | (subst hc; simp) | (rcases hc with rfl | rfl <;> simp) | (rcases hc with rfl | rfl | rfl <;> simp) | (rcases hc with rfl | rfl | rfl | rfl | rfl | rfl <;> simp)
theorem opT_ok {t : Tok} {x y : PT} (ha : t.a ≤ M) (hx : okT M x ∧ exprK x.kind) (hy : okT M y ∧ exprK y.kind) {r : Nat} (hr : rankL t.text = r) (h1 : 1 ≤ r) : okT M (opT t x y) ∧ exprK (opT t x y).kind := by
 unfold opT
 by_cases h2 : t.text = ⟨#[97, 110, 100]⟩
 ·rw [if_pos h2]
  exact ⟨okT_mk (by simp [hx.1, hy.1]) (loc_plain (by decide) (kids_fix rfl ⟨hx.2, hy.2, rfl⟩) (by simp [TextK]) (by decide)) ha, xk (by decide)⟩
 rw [if_neg h2]
 by_cases h3 : t.text = ⟨#[111, 114]⟩
 ·rw [if_pos h3]
  exact ⟨okT_mk (by simp [hx.1, hy.1]) (loc_plain (by decide) (kids_fix rfl ⟨hx.2, hy.2, rfl⟩) (by simp [TextK]) (by decide)) ha, xk (by decide)⟩
 rw [if_neg h3]
 refine ⟨okT_mk (by simp [hx.1, hy.1]) (loc_plain (by decide) (kids_fix rfl ⟨hx.2, hy.2, rfl⟩) ?_ (by decide)) ha, xk (by decide)⟩
 simp only [TextK]
 exact ((rank_texts hr h1).resolve_left h2).resolve_left h3
theorem good_chainL (h : TokOk T M) (IH : AllGood T M f) (r : Nat) (x : PT) (o i : Nat) (hi : i < T.length) (hp : Pre1 T M i (.chainL r x)) : Sat (f + 1 < reach1 T i (.chainL r x)) (ErrP M) (Good1 T M i (.chainL r x)) (stepChainL T (parF T f) r x o i) := by
 unfold stepChainL
 obtain ⟨hr1, hr2, hx1, hx2⟩ : 1 ≤ r ∧ r ≤ 6 ∧ okT M x ∧ exprK x.kind := hp
 simp only
 refine Sat.ite (fun hb => ?_) fun hb => Sat.ok ⟨hx1, hx2, hi, znr⟩
 have hlt := tk_lt h hi (by rcases hb.1 with e | e <;> rw [e] <;> decide)
 refine Sat.then (IH.one (.chain (r + 1)) o (i + 1) hlt ⟨by omega, by omega⟩) (fun hf => by simp only [reach1, lev1] at hf ⊢; omega) fun y j hta => ?_
 obtain ⟨h1a, h2a, h3a, h4a⟩ := hta
 simp only [lazyN, zf] at h4a
 have hop := opT_ok (h.place i) ⟨hx1, hx2⟩ ⟨h1a, h2a⟩ hb.2 hr1
 refine (IH.one (.chainL r _) o j h3a ⟨hr1, hr2, hop.1, hop.2⟩).mono (fun hf => by simp only [reach1, reachL, lev1, levL] at hf ⊢; omega) fun t k htb => ?_
 obtain ⟨h1b, h2b, h3b, h4b⟩ := htb
 simp only [lazyN, zf] at h4b
 exact ⟨h1b, h2b, h3b, by simp only [lazyN, if_true]; omega⟩
theorem good_unary (h : TokOk T M) (IH : AllGood T M f) (o i : Nat) (hi : i < T.length) : Sat (f + 1 < reach1 T i (.unary)) (ErrP M) (Good1 T M i (.unary)) (stepUnary T (parF T f) o i) := by
 unfold stepUnary
 simp only
 refine Sat.ite (fun hb => ?_) fun hb => (IH.one .suffixed o i hi trivial).mono (fun hf => by simp only [reach1, reachL, lev1, levL] at hf ⊢; omega) fun t j ht => ⟨ht.1, ht.2.1.1, ht.2.2.1, ht.2.2.2⟩
 refine Sat.deeper (h.place i) fun _ => Sat.then (IH.one .unary (o + 1) (i + 1) (any_lt h hi hb) trivial) (fun hf => by simp only [reach1, reachL, lev1, levL] at hf ⊢; omega) fun x j hta => Sat.ok ?_
 obtain ⟨h1a, h2a, h3a, h4a⟩ := hta
 simp only [lazyN, zf] at h4a
 refine ⟨okT_mk (by simp [h1a]) (loc_plain (by decide) (kids_fix rfl ⟨h2a, rfl⟩) ?_ (by decide)) (h.place i), xk (by decide), h3a, by simp only [lazyN, Bool.false_eq_true, if_false]; omega⟩
 have := isAny_text hb
 simp only [TextK, unN, List.mem_cons, List.not_mem_nil, or_false] at this ⊢
 rcases this with e | e | e <;> rw [e] <;> simp
theorem good_suffixed (h : TokOk T M) (IH : AllGood T M f) (o i : Nat) (hi : i < T.length) : Sat (f + 1 < reach1 T i (.suffixed)) (ErrP M) (Good1 T M i (.suffixed)) (stepSuffixed (parF T f) o i) := by
 unfold stepSuffixed
 refine Sat.then (IH.one .prim o i hi trivial) (fun hf => by simp only [reach1, reachL, lev1, levL] at hf ⊢; omega) fun x j hta => ?_
 obtain ⟨h1a, h2a, h3a, h4a⟩ := hta
 simp only [lazyN, zf] at h4a
 refine (IH.one (.suffixedL x) o j h3a ⟨h1a, h2a.1⟩).mono (fun hf => by simp only [reach1, reachL, lev1, levL] at hf ⊢; omega) fun t k htb => ?_
 obtain ⟨h1b, h2b, h3b, h4b⟩ := htb
 simp only [lazyN, zf] at h4b
 exact ⟨h1b, ⟨h2b.1, fun hk => h2b.2 (h2a.2 hk)⟩, h3b, by simp only [lazyN, Bool.false_eq_true, if_false]; omega⟩
theorem root_on {k : Int} {s : ByteArray} {a : Nat} {x : PT} {l : List PT} (hk : k = 18 ∨ k = 19 ∨ k = 20) (h : isRoot x) : isRoot (.mk k s a (x :: l)) := by
 unfold isRoot at h ⊢
 rw [rootT, if_pos hk]
 exact h
theorem good_suffixedL (h : TokOk T M) (IH : AllGood T M f) (x : PT) (o i : Nat) (hi : i < T.length) (hp : Pre1 T M i (.suffixedL x)) : Sat (f + 1 < reach1 T i (.suffixedL x)) (ErrP M) (Good1 T M i (.suffixedL x)) (stepSuffixedL T (parF T f) x o i) := by
 unfold stepSuffixedL
 obtain ⟨hx1, hx2⟩ : okT M x ∧ exprK x.kind := hp
 have hpl := h.place i
 have hfin : ∀ (y : PT) (i0 j : Nat), okT M y → exprK y.kind → (isRoot x → isRoot y) → i < j → j < T.length → Sat (f + 1 < reach1 T i (.suffixedL x)) (ErrP M) (Good1 T M i (.suffixedL x)) ((parF T f).one (.suffixedL y) o j) := fun y i0 j h1 h2 h3 h4 h5 => by
  refine (IH.one (.suffixedL y) o j h5 ⟨h1, h2⟩).mono (fun hf => by simp only [reach1, reachL, lev1, levL] at hf ⊢; omega) fun t k htb => ?_; obtain ⟨h1b, h2b, h3b, h4b⟩ := htb; simp only [lazyN, if_true] at h4b
  exact ⟨h1b, ⟨h2b.1, fun hk => h2b.2 (h3 hk)⟩, h3b, by simp only [lazyN, if_true]; omega⟩
 simp only
 refine Sat.ite (fun hb => ?_) fun _ => Sat.ite (fun hb => ?_) fun _ => Sat.ite (fun hb => ?_) fun _ => Sat.ok ⟨hx1, ⟨hx2, id⟩, hi, znr⟩
 ·refine Sat.token h (any_lt h hi hb) (by decide) fun hk h6 => hfin _ i _ (okT_mk (by simp [hx1]) (loc_plain (by decide) (kids_fix rfl ⟨hx2, rfl⟩) ?_ (by decide)) hpl) (xk (by decide)) (root_on (by decide)) (by omega) h6
  simp only [TextK, true_or, if_true]; exact h.name _ hk
 ·refine Sat.deeper hpl fun _ => Sat.then (IH.one .index (o + 1) (i + 1) (any_lt h hi hb) trivial) (fun hf => by simp only [reach1, reachL, lev1, levL] at hf ⊢; omega) fun k j hta => ?_
  obtain ⟨h1a, h2a, h3a, h4a⟩ := hta; simp only [lazyN, Bool.false_eq_true, if_false] at h4a
  exact hfin _ i _ (okT_mk (by simp [hx1, h1a]) (loc_plain (by decide) (kids_fix rfl ⟨hx2, h2a, rfl⟩) (by simp [TextK]) (by decide)) hpl) (xk (by decide)) (root_on (by decide)) (by omega) h3a
 ·refine Sat.then (IH.many (.args _) o (i + 1) (any_lt h hi hb) hpl) (fun hf => by simp only [reach1, reachL, lev1, levL] at hf ⊢; omega) fun l j hl => ?_
  obtain ⟨hl1, hl2, hl3⟩ := hl; refine hfin _ i _ (okT_mk (fun t ht => ?_) (loc_plain (by decide) ?_ (by simp [TextK]) (by decide)) hpl) (xk (by decide)) (root_on (by decide)) (by omega) hl2
  ·rcases List.mem_cons.1 ht with rfl | ht
   ·exact hx1
   ·exact (hl1 t ht).1
  ·refine ⟨[x.kind], l.map PT.kind, [], by simp, ⟨hx2, rfl⟩, rfl, fun y hy => ⟨.e, rfl, ?_⟩⟩
   obtain ⟨t, ht, rfl⟩ := List.mem_map.1 hy; exact (hl1 t ht).2
theorem good_args (h : TokOk T M) (IH : AllGood T M f) (p : Nat) (o i : Nat) (hi : i < T.length) (hp : PreL T M i (.args p)) : Sat (f + 1 < reachL T i (.args p)) (ErrP M) (GoodL T M i (.args p)) (stepArgs T (parF T f) p o i) := by
 unfold stepArgs
 refine Sat.deeper hp fun _ => (IH.many (.until _ .exp []) (o + 1) i hi ⟨by simp, by simp⟩).mono (fun hf => by simp only [reach1, reachL, lev1, levL] at hf ⊢; omega) fun l j hl => ⟨fun t ht => hl.1.1 t ht, hl.2.1, hl.2.2⟩
theorem good_prim (h : TokOk T M) (IH : AllGood T M f) (o i : Nat) (hi : i < T.length) : Sat (f + 1 < reach1 T i (.prim)) (ErrP M) (Good1 T M i (.prim)) (stepPrim T (parF T f) o i) := by
 unfold stepPrim
 have hpl := h.place i
 have hk1 : ∀ {l : List ByteArray}, isAny (tk T i) l = true → (tk T i).kind = 1 → False := fun h1 h2 => (isAny_kind h1).2 h2
 simp only
 refine Sat.ite (fun hb => ?_) fun _ => Sat.ite (fun hb => ?_) fun _ => Sat.ite (fun hb => ?_) fun hn1 => Sat.ite (fun hb => ?_) fun _ => Sat.ite (fun hb => ?_) fun _ => Sat.ite (fun hb => ?_) fun _ => Sat.ite (fun hb => ?_) fun _ => Sat.ite (fun hb => ?_) fun _ => ⟨hpl, .inl rfl⟩
 ·refine Sat.ok ⟨okT_leaf (by decide) rfl ?_ (by decide) hpl, ⟨xk (by decide), fun e => by rw [hb.1] at e; exact absurd e (by decide)⟩, tk_lt h hi (by rw [hb.1]; decide), by simp only [lazyN, Bool.false_eq_true, if_false]; omega⟩
  simp only [TextK]; exact ⟨_, hb.2, (h.num i).2, rfl⟩
 ·exact Sat.ok ⟨okT_leaf (by decide) rfl (by simp [TextK]) (by decide) hpl, ⟨xk (by decide), fun e => by rw [hb] at e; exact absurd e (by decide)⟩, tk_lt h hi (by rw [hb]; decide), by simp only [lazyN, Bool.false_eq_true, if_false]; omega⟩
 ·refine (IH.one (.name _) o (i + 1) (tk_lt h hi (by rw [hb]; decide)) ⟨h.name i hb, hpl⟩).mono (fun hf => by simp only [reach1, reachL, lev1, levL] at hf ⊢; omega) fun t j hta => ?_
  obtain ⟨h1a, h2a, h3a, h4a⟩ := hta; simp only [lazyN, if_true] at h4a
  exact ⟨h1a, ⟨h2a.1, fun _ => h2a.2⟩, h3a, by simp only [lazyN, Bool.false_eq_true, if_false]; omega⟩
 ·exact Sat.ok ⟨okT_leaf (by decide) rfl (by simp [TextK]) (by decide) hpl, ⟨xk (by decide), fun e => (hk1 hb e).elim⟩, any_lt h hi hb, by simp only [lazyN, Bool.false_eq_true, if_false]; omega⟩
 ·refine Sat.ok ⟨okT_leaf (by decide) rfl ?_ (by decide) hpl, ⟨xk (by decide), fun e => (hk1 hb e).elim⟩, any_lt h hi hb, by simp only [lazyN, Bool.false_eq_true, if_false]; omega⟩
  have := isAny_text hb; simp only [List.mem_cons, List.not_mem_nil, or_false] at this
  simpa [TextK] using this
 ·refine Sat.deeper hpl fun _ => (IH.one (.body _) (o + 1) (i + 1) (any_lt h hi hb) hpl).mono (fun hf => by simp only [reach1, reachL, lev1, levL] at hf ⊢; omega) fun t j hta => ?_
  obtain ⟨h1a, h2a, h3a, h4a⟩ := hta; simp only [lazyN, Bool.false_eq_true, if_false] at h4a
  exact ⟨h1a, ⟨by have h2a : t.kind = 22 := h2a; rw [h2a]; decide, fun e => (hk1 hb e).elim⟩, h3a, by simp only [lazyN, Bool.false_eq_true, if_false]; omega⟩
 ·refine Sat.deeper hpl fun _ => (IH.one .paren (o + 1) (i + 1) (any_lt h hi hb) trivial).mono (fun hf => by simp only [reach1, reachL, lev1, levL] at hf ⊢; omega) fun t j hta => ?_
  obtain ⟨h1a, h2a, h3a, h4a⟩ := hta; simp only [lazyN, Bool.false_eq_true, if_false] at h4a
  exact ⟨h1a, ⟨h2a, fun e => (hk1 hb e).elim⟩, h3a, by simp only [lazyN, Bool.false_eq_true, if_false]; omega⟩
 ·refine Sat.deeper hpl fun _ => (IH.one (.table _) (o + 1) (i + 1) (any_lt h hi hb) hpl).mono (fun hf => by simp only [reach1, reachL, lev1, levL] at hf ⊢; omega) fun t j hta => ?_
  obtain ⟨h1a, h2a, h3a, h4a⟩ := hta; simp only [lazyN, Bool.false_eq_true, if_false] at h4a
  exact ⟨h1a, ⟨by have h2a : t.kind = 24 := h2a; rw [h2a]; decide, fun e => (hk1 hb e).elim⟩, h3a, by simp only [lazyN, Bool.false_eq_true, if_false]; omega⟩
theorem good_name (h : TokOk T M) (IH : AllGood T M f) (t : Tok) (o i : Nat) (hi : i < T.length) (hp : Pre1 T M i (.name t)) : Sat (f + 1 < reach1 T i (.name t)) (ErrP M) (Good1 T M i (.name t)) (stepName T (parF T f) t o i) := by
 unfold stepName
 obtain ⟨hn, hpl⟩ : NameOk t.text ∧ t.a ≤ M := hp
 match hbu : builtinL t.text with
 | none =>
  refine Sat.ok ⟨okT_leaf (by decide) rfl ?_ (by decide) hpl, ⟨xk (by decide), .inl (by rw [rootT])⟩, hi, znr⟩; simp only [TextK, true_or, or_true, if_true]; exact ⟨hn, hbu⟩
 | some n =>
  refine Sat.ite (fun hb => ?_) fun _ => ⟨hpl, .inl rfl⟩; refine Sat.then (IH.many (.args _) o (i + 1) (any_lt h hi hb) (h.place i)) (fun hf => by simp only [reach1, reachL, lev1, levL] at hf ⊢; omega) fun l j hl => ?_; obtain ⟨hl1, hl2, hl3⟩ := hl; refine Sat.ite (fun _ => ⟨hpl, .inl rfl⟩) fun hlen => Sat.ite (fun _ => ⟨hpl, .inl rfl⟩) fun hc => Sat.ok ?_; have hlen : l.length = n := by simpa using hlen
  refine ⟨okT_mk (fun t ht => (hl1 t ht).1) ⟨by decide, by decide, ⟨[], l.map PT.kind, [], by simp, rfl, rfl, fun y hy => ⟨.e, rfl, ?_⟩⟩, ?_, by simp, by simp, fun _ hrw => ?_, by simp, by simp⟩ hpl, ⟨xk (by decide), .inr ?_⟩, hl2, by simp only [lazyN, if_true]; omega⟩
  ·obtain ⟨t, ht, rfl⟩ := List.mem_map.1 hy
   exact (hl1 t ht).2
  ·simp only [TextK]; rw [hlen]; exact hbu
  ·have hc2 : ¬ ¬ headC l = true := fun e => hc ⟨hrw, e⟩
   cases l with
   | nil => simp [headC] at hc2
   | cons x r => exact ⟨x, r, rfl, by simpa [headC] using hc2⟩
  ·cases l with
   | nil => rw [rootT]
   | cons x r => rw [rootT, if_neg (by decide)]
theorem good_entries (h : TokOk T M) (IH : AllGood T M f) (acc : List PT) (o i : Nat) (hi : i < T.length) (hp : PreL T M i (.entries acc)) : Sat (f + 1 < reachL T i (.entries acc)) (ErrP M) (GoodL T M i (.entries acc)) (stepEntries T (parF T f) acc o i) := by
 unfold stepEntries
 have hpl := h.place i
 have hmore : ∀ (x : PT) (j : Nat), okT M x → (x.kind = 25 ∨ x.kind = 26) → i < j → j < T.length → Sat (f + 1 < reachL T i (.entries acc)) (ErrP M) (GoodL T M i (.entries acc)) (if isAny (tk T j) [⟨#[44]⟩] || isAny (tk T j) [⟨#[59]⟩] then (parF T f).many (.entries (acc ++ [x])) o (j + 1) else one1 (acc ++ [x]) j) := fun x j h1 h2 h3 h4 => by
  have hall : ∀ t ∈ acc ++ [x], okT M t ∧ (t.kind = 25 ∨ t.kind = 26) := fun t ht => by
   rcases List.mem_append.1 ht with ht | ht
   ·exact hp t ht
   ·rw [List.mem_singleton.1 ht]; exact ⟨h1, h2⟩
  refine Sat.ite (fun hb => ?_) fun _ => Sat.ok ⟨hall, h4, Nat.le_of_lt h3⟩; have hlt : j + 1 < T.length := by
   rw [Bool.or_eq_true] at hb
   rcases hb with hb | hb <;> exact any_lt h h4 hb
  exact (IH.many (.entries _) o (j + 1) hlt hall).mono (fun hf => by simp only [reach1, reachL, lev1, levL] at hf ⊢; omega) fun l k hl => ⟨hl.1, hl.2.1, by have := hl.2.2; omega⟩
 simp only
 refine Sat.ite (fun hb => Sat.ok ⟨hp, hi, znr⟩) fun _ => Sat.ite (fun hb => ?_) fun _ => ?_
 ·have h5 := tk_lt h hi (by rw [hb.1]; decide)
  have h6 := tk_lt h h5 (by rw [hb.2.1]; decide); refine Sat.then (IH.one .exp o (i + 2) h6 trivial) (fun hf => by simp only [reach1, reachL, lev1, levL] at hf ⊢; omega) fun e j hta => ?_; obtain ⟨h1a, h2a, h3a, h4a⟩ := hta; simp only [lazyN, Bool.false_eq_true, if_false] at h4a
  refine hmore _ j (okT_mk (by simp [h1a]) (loc_plain (by decide) (kids_fix rfl ⟨h2a, rfl⟩) ?_ (by decide)) hpl) (.inl rfl) (by omega) h3a; simp only [TextK, true_or, or_true, if_true]; exact h.name i hb.1
 ·refine Sat.then (IH.one .exp o i hi trivial) (fun hf => by simp only [reach1, reachL, lev1, levL] at hf ⊢; omega) fun e j hta => ?_
  obtain ⟨h1a, h2a, h3a, h4a⟩ := hta; simp only [lazyN, Bool.false_eq_true, if_false] at h4a
  exact hmore _ j (okT_mk (by simp [h1a]) (loc_plain (by decide) (kids_fix rfl ⟨h2a, rfl⟩) (by simp [TextK]) (by decide)) hpl) (.inr rfl) (by omega) h3a
theorem good_table (h : TokOk T M) (IH : AllGood T M f) (p : Nat) (o i : Nat) (hi : i < T.length) (hp : Pre1 T M i (.table p)) : Sat (f + 1 < reach1 T i (.table p)) (ErrP M) (Good1 T M i (.table p)) (stepTable T (parF T f) p o i) := by
 unfold stepTable
 refine Sat.then (IH.many (.entries []) o i hi (by intro t ht; simp at ht)) (fun hf => by simp only [reach1, reachL, lev1, levL] at hf ⊢; omega) fun l j hl => ?_
 obtain ⟨hl1, hl2, hl3⟩ := hl
 refine Sat.need h hl2 fun _ h5 => Sat.ok ⟨okT_mk (fun t ht => (hl1 t ht).1) (loc_plain (by decide) ⟨[], l.map PT.kind, [], by simp, rfl, rfl, fun y hy => ⟨.n, rfl, ?_⟩⟩ (by simp [TextK]) (by decide)) hp, rfl, h5, by simp only [lazyN, Bool.false_eq_true, if_false]; omega⟩
 obtain ⟨t, ht, rfl⟩ := List.mem_map.1 hy
 exact (hl1 t ht).2
theorem good_kind (h : TokOk T M) (IH : AllGood T M f) (o i : Nat) (hi : i < T.length) : Sat (f + 1 < reach1 T i (.kind)) (ErrP M) (Good1 T M i (.kind)) (stepKind T (parF T f) o i) := by
 unfold stepKind
 have hpl := h.place i
 simp only
 refine Sat.ite (fun hb => Sat.deeper hpl fun _ => (IH.one (.kindF _) (o + 1) (i + 1) (any_lt h hi hb) hpl).mono (fun hf => by simp only [reach1, reachL, lev1, levL] at hf ⊢; omega) fun t j hta => ?_) fun _ => ?_
 ·obtain ⟨h1a, h2a, h3a, h4a⟩ := hta
  simp only [lazyN, Bool.false_eq_true, if_false] at h4a
  exact ⟨h1a, h2a, h3a, by simp only [lazyN, Bool.false_eq_true, if_false]; omega⟩
 refine Sat.then (IH.one .one o i hi trivial) (fun hf => by simp only [reach1, reachL, lev1, levL] at hf ⊢; omega) fun x j hta => ?_
 obtain ⟨h1a, h2a, h3a, h4a⟩ := hta
 simp only [lazyN, zf] at h4a
 refine Sat.then (IH.many (.ones [x]) o j h3a (by intro t ht; rw [List.mem_singleton.1 ht]; exact ⟨h1a, h2a⟩)) (fun hf => by simp only [reach1, reachL, lev1, levL] at hf ⊢; omega) fun l j2 hl => ?_
 obtain ⟨hl1, hl0, hl2, hl3⟩ := hl
 match l, hl0, hl1 with
 | [], hl0, _ => simp at hl0
 | [y], _, hl1 =>
  have hy := hl1 y (by simp); exact Sat.ok ⟨hy.1, by rcases hy.2 with e | e <;> (show typeK _; rw [e]; decide), hl2, by simp only [lazyN, Bool.false_eq_true, if_false]; omega⟩
 | y :: z :: r, _, hl1 =>
  have hy := hl1 y (by simp); have hz := hl1 z (by simp); refine Sat.ok ⟨okT_mk (fun t ht => (hl1 t ht).1) (loc_plain (by decide) ⟨[y.kind, z.kind], r.map PT.kind, [], by simp, ⟨hy.2, hz.2, rfl⟩, rfl, fun u hu => ⟨.u, rfl, ?_⟩⟩ (by simp [TextK]) (by decide)) hpl, by show typeK 35; decide, hl2, by simp only [lazyN, Bool.false_eq_true, if_false]; omega⟩; obtain ⟨t, ht, rfl⟩ := List.mem_map.1 hu; exact (hl1 t (by simp [ht])).2
theorem good_ones (h : TokOk T M) (IH : AllGood T M f) (acc : List PT) (o i : Nat) (hi : i < T.length) (hp : PreL T M i (.ones acc)) : Sat (f + 1 < reachL T i (.ones acc)) (ErrP M) (GoodL T M i (.ones acc)) (stepOnes T (parF T f) acc o i) := by
 unfold stepOnes
 refine Sat.ite (fun hb => ?_) fun _ => Sat.ok ⟨hp, znr, hi, znr⟩
 refine Sat.then (IH.one .one o (i + 1) (any_lt h hi hb) trivial) (fun hf => by simp only [reach1, reachL, lev1, levL] at hf ⊢; omega) fun x j hta => ?_
 obtain ⟨h1a, h2a, h3a, h4a⟩ := hta
 simp only [lazyN, zf] at h4a
 refine (IH.many (.ones (acc ++ [x])) o j h3a (fun t ht => ?_)).mono (fun hf => by simp only [reach1, reachL, lev1, levL] at hf ⊢; omega) fun l k hl => ⟨hl.1, by have := hl.2.1; rw [List.length_append] at this; omega, hl.2.2.1, by have := hl.2.2.2; omega⟩
 rcases List.mem_append.1 ht with ht | ht
 ·exact hp t ht
 ·rw [List.mem_singleton.1 ht]; exact ⟨h1a, h2a⟩
theorem good_kindF (h : TokOk T M) (IH : AllGood T M f) (p : Nat) (o i : Nat) (hi : i < T.length) (hp : Pre1 T M i (.kindF p)) : Sat (f + 1 < reach1 T i (.kindF p)) (ErrP M) (Good1 T M i (.kindF p)) (stepKindF T (parF T f) p o i) := by
 unfold stepKindF
 refine Sat.then (IH.many (.until _ .kind []) o i hi ⟨by simp, by simp⟩) (fun hf => by simp only [reach1, reachL, lev1, levL] at hf ⊢; omega) fun l j hl => ?_
 obtain ⟨⟨hl1, _⟩, hl2, hl3⟩ := hl
 refine Sat.need h hl2 fun _ h5 => Sat.then (IH.one .kind o (j + 1) h5 trivial) (fun hf => by simp only [reach1, reachL, lev1, levL] at hf ⊢; omega) fun k j2 hta => Sat.ok ?_
 obtain ⟨h1a, h2a, h3a, h4a⟩ := hta
 simp only [lazyN, zf] at h4a
 refine ⟨okT_mk (fun t ht => ?_) (loc_plain (by decide) ?_ (by simp [TextK]) (by decide)) hp, by show typeK 34; decide, h3a, by simp only [lazyN, Bool.false_eq_true, if_false]; omega⟩
 ·rcases List.mem_append.1 ht with ht | ht
  ·exact (hl1 t ht).1
  ·rw [List.mem_singleton.1 ht]; exact h1a
 ·rw [List.map_append]
  exact kids_row (k := 34) (y := .T) rfl rfl (fun x hx => by obtain ⟨t, ht, rfl⟩ := List.mem_map.1 hx; exact (hl1 t ht).2) ⟨h2a, rfl⟩
theorem pre_word : ∀ (s l : List UInt8), (s ++ [32]).isPrefixOf l = true → 32 ∉ s → s = l.takeWhile (· != 32)
 | [], l, h, _ => by
  cases l with
  | nil => rfl
  | cons c r =>
   simp [List.isPrefixOf] at h
   rw [← h]; simp
 | c :: s, l, h, hn => by
  cases l with
  | nil => simp [List.isPrefixOf] at h
  | cons d r =>
   simp only [List.cons_append, List.isPrefixOf, Bool.and_eq_true, beq_iff_eq] at h
   obtain ⟨rfl, h⟩ := h; have hc : (c != 32) = true := bne_iff_ne.2 fun e => hn (by rw [e]; simp); rw [List.takeWhile_cons_of_pos (p := fun x => x != 32) hc, ← pre_word s r h (fun e => hn (List.mem_cons_of_mem _ e))]
theorem base_name {s : ByteArray} (h : baseL s = true) (hn : NameOk s) : s ∈ baseN := by
 have h32 : (32 : UInt8) ∉ s.data.toList := fun e => by have := hn.2.1 32 e; revert this; decide
 have hs : ∀ l : List UInt8, s.data.toList = l → s = ⟨l.toArray⟩ := fun l e => ByteArray.ext (Array.toList_inj.1 (by rw [e]))
 have hb : ((⟨#[32]⟩ ++ s ++ ⟨#[32]⟩ : ByteArray)).data.toList = 32 :: (s.data.toList ++ [32]) := by simp [ByteArray.data_append]
 unfold baseL at h
 rw [hb, (contains_any _ _).1] at h
 have hp : ∀ l, s.data.toList ++ [32] <+: l → s = ⟨(l.takeWhile (· != 32)).toArray⟩ := fun l e => hs _ (pre_word s.data.toList l (List.isPrefixOf_iff_prefix.2 e) h32)
 simp [anyPre, List.isPrefixOf] at h
 simp only [baseN, List.mem_cons, List.not_mem_nil, or_false]
 rcases h with h | h | h | h | h | h
 all_goals (have := hp _ h; simp at this; rw [this]; simp)
theorem good_one (h : TokOk T M) (IH : AllGood T M f) (o i : Nat) (hi : i < T.length) : Sat (f + 1 < reach1 T i (.one)) (ErrP M) (Good1 T M i (.one)) (stepOne T (parF T f) o i) := by
 unfold stepOne
 have hpl := h.place i
 simp only
 refine Sat.ite (fun hb => ?_) fun _ => Sat.ite (fun hb => ?_) fun _ => Sat.ite (fun hb => ?_) fun _ => ⟨hpl, .inl rfl⟩
 ·refine Sat.ok ⟨okT_leaf (by decide) rfl ?_ (by decide) hpl, .inl rfl, any_lt h hi hb, by simp only [lazyN, Bool.false_eq_true, if_false]; omega⟩
  have := isAny_text hb; simp only [List.mem_singleton] at this
  simp [TextK, this, baseN]
 ·refine Sat.deeper hpl fun _ => (IH.one (.shape _) (o + 1) (i + 1) (any_lt h hi hb) hpl).mono (fun hf => by simp only [reach1, reachL, lev1, levL] at hf ⊢; omega) fun t j hta => ?_
  obtain ⟨h1a, h2a, h3a, h4a⟩ := hta; simp only [lazyN, Bool.false_eq_true, if_false] at h4a
  exact ⟨h1a, .inr h2a, h3a, by simp only [lazyN, Bool.false_eq_true, if_false]; omega⟩
 ·refine Sat.ok ⟨okT_leaf (by decide) rfl ?_ (by decide) hpl, .inl rfl, tk_lt h hi (by rw [hb.1]; decide), by simp only [lazyN, Bool.false_eq_true, if_false]; omega⟩
  have := base_name hb.2 (h.name i hb.1)
  simpa [TextK] using this
theorem good_shape (h : TokOk T M) (IH : AllGood T M f) (p : Nat) (o i : Nat) (hi : i < T.length) (hp : Pre1 T M i (.shape p)) : Sat (f + 1 < reach1 T i (.shape p)) (ErrP M) (Good1 T M i (.shape p)) (stepShape T (parF T f) p o i) := by
 unfold stepShape
 refine Sat.then (IH.many (.until _ .field []) o i hi ⟨by simp, by simp⟩) (fun hf => by simp only [reach1, reachL, lev1, levL] at hf ⊢; omega) fun l j hl => Sat.ok ?_
 obtain ⟨⟨hl1, hnd⟩, hl2, hl3⟩ := hl
 refine ⟨okT_mk (fun t ht => (hl1 t ht).1) ⟨by decide, by decide, ⟨[], l.map PT.kind, [], by simp, rfl, rfl, fun y hy => ⟨.F, rfl, ?_⟩⟩, by simp [TextK], by simp, by simp, by simp, fun _ => hnd rfl, by simp⟩ hp, rfl, hl2, by simp only [lazyN, Bool.false_eq_true, if_false]; omega⟩
 obtain ⟨t, ht, rfl⟩ := List.mem_map.1 hy
 exact (hl1 t ht).2
theorem good_field (h : TokOk T M) (IH : AllGood T M f) (seen : List ByteArray) (o i : Nat) (hi : i < T.length) : Sat (f + 1 < reach1 T i (.field seen)) (ErrP M) (Good1 T M i (.field seen)) (stepField T (parF T f) seen o i) := by
 unfold stepField
 refine Sat.token h hi (by decide) fun hk h5 => Sat.ite (fun _ => ⟨h.place i, .inl rfl⟩) fun hns => Sat.need h h5 fun _ h6 => ?_
 refine Sat.then (IH.one .kind o (i + 1 + 1) h6 trivial) (fun hf => by simp only [reach1, reachL, lev1, levL] at hf ⊢; omega) fun k j hta => Sat.ok ?_
 obtain ⟨h1a, h2a, h3a, h4a⟩ := hta
 simp only [lazyN, zf] at h4a
 refine ⟨okT_mk (by simp [h1a]) (loc_plain (by decide) (kids_fix rfl ⟨h2a, rfl⟩) ?_ (by decide)) (h.place i), ⟨rfl, fun e => hns (inB_iff.2 e)⟩, h3a, by simp only [lazyN, Bool.false_eq_true, if_false]; omega⟩
 simp only [TextK, or_true, if_true]; exact h.name i hk
theorem good_all (h : TokOk T M) : ∀ f, AllGood T M f
 | 0 => ⟨fun nt o i hi _ => by show 0 < reach1 T i nt; simp only [reach1]; omega, fun nt o i hi _ => by show 0 < reachL T i nt; simp only [reachL]; omega⟩
 | f + 1 => by
  have IH := good_all h f; refine ⟨fun nt o i hi hp => ?_, fun nt o i hi hp => ?_⟩
  ·cases nt with
   | block => exact good_block h IH o i hi
   | ended => exact good_ended h IH o i hi
   | maybe b => exact good_maybe h IH b o i hi
   | stat => exact good_stat h IH o i hi
   | whileB p => exact good_while h IH p o i hi hp
   | cond p => exact good_cond h IH p o i hi hp
   | simple p => exact good_simple h IH p o i hi hp
   | colon b => exact good_colon h IH b o i hi
   | body p => exact good_body h IH p o i hi hp
   | param => exact good_param h IH o i hi
   | chain r => exact good_chain h IH r o i hi hp
   | chainL r x => exact good_chainL h IH r x o i hi hp
   | exp => exact (IH.one (.chain 1) o i hi ⟨by decide, by decide⟩).mono (fun hf => by simp only [reach1, lev1] at hf ⊢; omega) fun t j ht => ht
   | unary => exact good_unary h IH o i hi
   | suffixed => exact good_suffixed h IH o i hi
   | suffixedL x => exact good_suffixedL h IH x o i hi hp
   | index => exact good_index h IH o i hi
   | paren => exact good_paren h IH o i hi
   | prim => exact good_prim h IH o i hi
   | name t => exact good_name h IH t o i hi hp
   | table p => exact good_table h IH p o i hi hp
   | kind => exact good_kind h IH o i hi
   | kindF p => exact good_kindF h IH p o i hi hp
   | one => exact good_one h IH o i hi
   | shape p => exact good_shape h IH p o i hi hp
   | field l => exact good_field h IH l o i hi
  ·cases nt with
   | stats b acc => exact good_stats h IH b acc o i hi hp
   | «until» e it acc => exact good_until h IH e it acc o i hi hp
   | args p => exact good_args h IH p o i hi hp
   | entries acc => exact good_entries h IH acc o i hi hp
   | ones acc => exact good_ones h IH acc o i hi hp
end
end Go.Proofs.YthobobmbileekaaGreatDoor
namespace Go.Proofs.YthobobmbileekaaGreatDoor

abbrev FSat {α : Type} (Q : α → Nat → Prop) (r : Option (Res α)) : Prop := Sat True (fun _ _ => True) Q r
section
variable {T : List Tok} {M : Nat} {α : Type} {Q : α → Nat → Prop} {i : Nat}
theorem FSat.bad {a e : Nat} : FSat Q (some (.bad a e) : Option (Res α)) := trivial
theorem FSat.need (h : TokOk T M) (hi : i < T.length) {s : ByteArray} {k : Nat → Option (Res α)} (hk : i + 1 < T.length → FSat Q (k (i + 1))) : FSat Q (need T s i k) := by
 unfold Go.Proofs.YthobobmbileekaaGreatDoor.need
 exact Sat.ite (fun h1 => hk (any_lt h hi h1)) (fun _ => trivial)
theorem FSat.token (h : TokOk T M) (hi : i < T.length) {kd : Int} (hkd : kd ≠ 0) {k : Tok → Nat → Option (Res α)} (hk : i + 1 < T.length → FSat Q (k (tk T i) (i + 1))) : FSat Q (token T kd i k) := by
 unfold Go.Proofs.YthobobmbileekaaGreatDoor.token
 exact Sat.ite (fun h1 => hk (tk_lt h hi (by rw [h1]; exact hkd))) (fun _ => trivial)
theorem FSat.variable (h : TokOk T M) (hi : i < T.length) {k : Tok → Nat → Option (Res α)} (hk : i + 1 < T.length → FSat Q (k (tk T i) (i + 1))) : FSat Q (variableL T i k) := by
 unfold variableL
 exact FSat.token h hi (by decide) fun h2 => Sat.ite (fun _ => trivial) fun h3 => hk h2
theorem FSat.deeper {p o : Nat} {k : Nat → Option (Res α)} (hk : FSat Q (k (o + 1))) : FSat Q (deeper p o k) := by
 unfold Go.Proofs.YthobobmbileekaaGreatDoor.deeper
 exact Sat.ite (fun _ => trivial) fun h => hk
theorem FSat.mask (h : TokOk T M) (hi : i < T.length) {k : ByteArray → Nat → Option (Res α)} (hk : ∀ x j, i < j → j < T.length → FSat Q (k x j)) : FSat Q (maskL T i k) := by
 unfold maskL
 refine Sat.ite (fun h1 => ?_) fun _ => ?_
 ·have h2 := any_lt h hi h1
  exact FSat.token h h2 (by decide) fun h4 => Sat.ite (fun _ => trivial) fun h5 => hk _ _ (by omega) h4
 ·exact FSat.token h hi (by decide) fun h4 => hk _ _ (by omega) h4
end
def ex1 : N1 → Nat
 | .block | .maybe _ | .colon _ | .name _ => 1
 | .chainL _ x | .suffixedL x => ptS x
 | _ => 0
def sl1 : N1 → Nat
 | .exp | .chain _ | .unary | .suffixed | .index | .paren | .prim | .param | .field _ | .kind | .one => 1
 | _ => 0
def lazy1 : N1 → Bool
 | .block | .maybe _ | .colon _ | .chainL _ _ | .suffixedL _ | .name _ => true
 | _ => false
def Fit1 (T : List Tok) (i : Nat) (nt : N1) (t : PT) (j : Nat) : Prop := j < T.length ∧ (if lazy1 nt then i ≤ j else i < j) ∧ ptS t + sl1 nt ≤ 4 * (j - i) + ex1 nt
def FitL (T : List Tok) (i : Nat) : NL → List PT → Nat → Prop
 | .stats _ acc, l, j => j < T.length ∧ i ≤ j ∧ ptsS l ≤ ptsS acc + 4 * (j - i)
 | .until _ _ acc, l, j => j < T.length ∧ i < j ∧ ptsS l + 4 ≤ ptsS acc + 4 * (j - i)
 | .args _, l, j => j < T.length ∧ i < j ∧ ptsS l + 4 ≤ 4 * (j - i)
 | .entries acc, l, j => j < T.length ∧ i ≤ j ∧ ptsS l ≤ ptsS acc + 4 * (j - i)
 | .ones acc, l, j => j < T.length ∧ i ≤ j ∧ acc.length ≤ l.length ∧ ptsS l + 4 * (l.length - acc.length) ≤ ptsS acc + 4 * (j - i)
structure AllFit (T : List Tok) (f : Nat) : Prop where
 one : ∀ nt o i, i < T.length → FSat (Fit1 T i nt) ((parF T f).one nt o i)
 many : ∀ nt o i, i < T.length → FSat (FitL T i nt) ((parF T f).many nt o i)
section
variable {T : List Tok} {M f : Nat}
theorem fit_block (h : TokOk T M) (IH : AllFit T f) (o i : Nat) (hi : i < T.length) : FSat (Fit1 T i (.block)) (stepBlock T (parF T f) o i) := by
 unfold stepBlock
 refine Sat.then (IH.many (.stats false []) o i hi) (fun h => h) fun l j hl => Sat.ok ?_
 obtain ⟨h1, h2, h3⟩ := hl
 rw [ptsS] at h3
 exact ⟨by omega, by simp only [lazy1, zf]; omega, by simp only [sl1, ex1, ptS, ptsS, noneT, ptsS_append, Nat.add_zero]; omega⟩
theorem fit_stats (h : TokOk T M) (IH : AllFit T f) (last : Bool) (acc : List PT) (o i : Nat) (hi : i < T.length) : FSat (FitL T i (.stats last acc)) (stepStats T (parF T f) last acc o i) := by
 unfold stepStats
 refine Sat.ite (fun _ => Sat.ok ⟨hi, znr, by omega⟩) fun _ => ?_
 refine Sat.then (IH.one .stat o i hi) (fun h => h) fun ta ja hta => ?_
 obtain ⟨h1a, h2a, h3a⟩ := hta
 simp only [lazy1, sl1, ex1, zf] at h2a h3a
 refine (IH.many (.stats _ (acc ++ [ta])) o ja h1a).mono (fun h => h) fun l k hl => ?_
 obtain ⟨h1, h2, h3⟩ := hl
 rw [ptsS_append, ptsS_one] at h3
 exact ⟨h1, by omega, by omega⟩
theorem fit_ended (h : TokOk T M) (IH : AllFit T f) (o i : Nat) (hi : i < T.length) : FSat (Fit1 T i (.ended)) (stepEnded T (parF T f) o i) := by
 unfold stepEnded
 refine Sat.then (IH.one .block o i hi) (fun h => h) fun ta ja hta => ?_
 obtain ⟨h1a, h2a, h3a⟩ := hta
 simp only [lazy1, sl1, ex1, zf] at h2a h3a
 exact FSat.need h h1a fun h5 => Sat.ok ⟨by omega, by simp only [lazy1, zf]; omega, by simp only [sl1, ex1, ptS, ptsS, noneT, ptsS_append, Nat.add_zero]; omega⟩
theorem fit_maybe (h : TokOk T M) (IH : AllFit T f) (is : Bool) (o i : Nat) (hi : i < T.length) : FSat (Fit1 T i (.maybe is)) (stepMaybe (parF T f) is o i) := by
 unfold stepMaybe
 refine Sat.ite (fun hb => ?_) fun hb => Sat.ok ⟨by omega, by simp only [lazy1, zf]; omega, by simp only [sl1, ex1, ptS, ptsS, noneT, ptsS_append, Nat.add_zero]; omega⟩
 refine (IH.one .exp o i hi).mono (fun h => h) fun ta ja hta => ?_
 obtain ⟨h1a, h2a, h3a⟩ := hta
 simp only [lazy1, sl1, ex1, zf] at h2a h3a
 exact ⟨by omega, by simp only [lazy1, zf]; omega, by simp only [sl1, ex1, ptS, ptsS, noneT, ptsS_append, Nat.add_zero]; omega⟩
theorem fit_while (h : TokOk T M) (IH : AllFit T f) (p : Nat) (o i : Nat) (hi : i < T.length) : FSat (Fit1 T i (.whileB p)) (stepWhile T (parF T f) p o i) := by
 unfold stepWhile
 refine Sat.then (IH.one .exp o i hi) (fun h => h) fun ta ja hta => ?_
 obtain ⟨h1a, h2a, h3a⟩ := hta
 simp only [lazy1, sl1, ex1, zf] at h2a h3a
 refine FSat.need h h1a fun h5 => ?_
 refine Sat.then (IH.one .ended o _ h5) (fun h => h) fun tb jb htb => ?_
 obtain ⟨h1b, h2b, h3b⟩ := htb
 simp only [lazy1, sl1, ex1, zf] at h2b h3b
 exact Sat.ok ⟨by omega, by simp only [lazy1, zf]; omega, by simp only [sl1, ex1, ptS, ptsS, noneT, ptsS_append, Nat.add_zero]; omega⟩
theorem fit_index (h : TokOk T M) (IH : AllFit T f) (o i : Nat) (hi : i < T.length) : FSat (Fit1 T i (.index)) (stepIndex T (parF T f) o i) := by
 unfold stepIndex
 refine Sat.then (IH.one .exp o i hi) (fun h => h) fun ta ja hta => ?_
 obtain ⟨h1a, h2a, h3a⟩ := hta
 simp only [lazy1, sl1, ex1, zf] at h2a h3a
 exact FSat.need h h1a fun h5 => Sat.ok ⟨by omega, by simp only [lazy1, zf]; omega, by simp only [sl1, ex1, ptS, ptsS, noneT, ptsS_append, Nat.add_zero]; omega⟩
theorem fit_paren (h : TokOk T M) (IH : AllFit T f) (o i : Nat) (hi : i < T.length) : FSat (Fit1 T i (.paren)) (stepParen T (parF T f) o i) := by
 unfold stepParen
 refine Sat.then (IH.one .exp o i hi) (fun h => h) fun ta ja hta => ?_
 obtain ⟨h1a, h2a, h3a⟩ := hta
 simp only [lazy1, sl1, ex1, zf] at h2a h3a
 exact FSat.need h h1a fun h5 => Sat.ok ⟨by omega, by simp only [lazy1, zf]; omega, by simp only [sl1, ex1, ptS, ptsS, noneT, ptsS_append, Nat.add_zero]; omega⟩
theorem fit_stat (h : TokOk T M) (IH : AllFit T f) (o i : Nat) (hi : i < T.length) : FSat (Fit1 T i (.stat)) (stepStat T (parF T f) o i) := by
 unfold stepStat
 simp only
 refine Sat.ite (fun hb => ?_) fun _ => Sat.ite (fun hb => ?_) fun _ => Sat.ite (fun hb => ?_) fun _ => Sat.ite (fun hb => ?_) fun _ => Sat.ite (fun hb => ?_) fun _ => Sat.ite (fun hb => ?_) fun _ => Sat.ite (fun hb => trivial) fun hb => ?_
 ·have := any_lt h hi hb
  exact Sat.ok ⟨by omega, by simp only [lazy1, zf]; omega, by simp only [sl1, ex1, ptS, ptsS, noneT, ptsS_append, Nat.add_zero]; omega⟩
 ·refine Sat.then (IH.one (.maybe _) o (i + 1) (any_lt h hi hb)) (fun h => h) fun ta ja hta => Sat.ok ?_
  obtain ⟨h1a, h2a, h3a⟩ := hta; simp only [lazy1, sl1, ex1, zf] at h2a h3a
  exact ⟨by omega, by simp only [lazy1, zf]; omega, by simp only [sl1, ex1, ptS, ptsS, noneT, ptsS_append, Nat.add_zero]; omega⟩
 ·refine FSat.variable h (any_lt h hi hb) fun h5 => ?_
  refine Sat.then (IH.one (.colon true) o (i + 1 + 1) h5) (fun h => h) fun ta ja hta => ?_; obtain ⟨h1a, h2a, h3a⟩ := hta; simp only [lazy1, sl1, ex1, zf] at h2a h3a
  refine Sat.ite (fun he => ?_) fun he => ?_
  ·refine Sat.then (IH.one (.maybe true) o (ja + 1) (any_lt h h1a he)) (fun h => h) fun tb jb htb => Sat.ok ?_
   obtain ⟨h1b, h2b, h3b⟩ := htb; simp only [lazy1, sl1, ex1, zf] at h2b h3b
   exact ⟨by omega, by simp only [lazy1, zf]; omega, by simp only [sl1, ex1, ptS, ptsS, noneT, ptsS_append, Nat.add_zero]; omega⟩
  ·refine Sat.then (IH.one (.maybe false) o ja h1a) (fun h => h) fun tb jb htb => Sat.ok ?_
   obtain ⟨h1b, h2b, h3b⟩ := htb; simp only [lazy1, sl1, ex1, zf] at h2b h3b
   exact ⟨by omega, by simp only [lazy1, zf]; omega, by simp only [sl1, ex1, ptS, ptsS, noneT, ptsS_append, Nat.add_zero]; omega⟩
 ·refine FSat.variable h (any_lt h hi hb) fun h5 => FSat.deeper ?_
  refine Sat.then (IH.one (.body _) (o + 1) (i + 1 + 1) h5) (fun h => h) fun ta ja hta => Sat.ok ?_; obtain ⟨h1a, h2a, h3a⟩ := hta; simp only [lazy1, sl1, ex1, zf] at h2a h3a
  exact ⟨by omega, by simp only [lazy1, zf]; omega, by simp only [sl1, ex1, ptS, ptsS, noneT, ptsS_append, Nat.add_zero]; omega⟩
 ·refine FSat.deeper ((IH.one (.cond _) (o + 1) (i + 1) (any_lt h hi hb)).mono (fun h => h) fun ta ja hta => ?_)
  obtain ⟨h1a, h2a, h3a⟩ := hta; simp only [lazy1, sl1, ex1, zf] at h2a h3a
  exact ⟨by omega, by simp only [lazy1, zf]; omega, by simp only [sl1, ex1, ptS, ptsS, noneT, ptsS_append, Nat.add_zero]; omega⟩
 ·refine FSat.deeper ((IH.one (.whileB _) (o + 1) (i + 1) (any_lt h hi hb)).mono (fun h => h) fun ta ja hta => ?_)
  obtain ⟨h1a, h2a, h3a⟩ := hta; simp only [lazy1, sl1, ex1, zf] at h2a h3a
  exact ⟨by omega, by simp only [lazy1, zf]; omega, by simp only [sl1, ex1, ptS, ptsS, noneT, ptsS_append, Nat.add_zero]; omega⟩
 ·refine (IH.one (.simple _) o i hi).mono (fun h => h) fun ta ja hta => ?_
  obtain ⟨h1a, h2a, h3a⟩ := hta; simp only [lazy1, sl1, ex1, zf] at h2a h3a
  exact ⟨by omega, by simp only [lazy1, zf]; omega, by simp only [sl1, ex1, ptS, ptsS, noneT, ptsS_append, Nat.add_zero]; omega⟩
theorem fit_cond (h : TokOk T M) (IH : AllFit T f) (p : Nat) (o i : Nat) (hi : i < T.length) : FSat (Fit1 T i (.cond p)) (stepCond T (parF T f) p o i) := by
 unfold stepCond
 refine Sat.then (IH.one .exp o i hi) (fun h => h) fun ta ja hta => ?_
 obtain ⟨h1a, h2a, h3a⟩ := hta
 simp only [lazy1, sl1, ex1, zf] at h2a h3a
 refine FSat.need h h1a fun h5 => ?_
 refine Sat.then (IH.one .block o _ h5) (fun h => h) fun tb jb htb => ?_
 obtain ⟨h1b, h2b, h3b⟩ := htb
 simp only [lazy1, sl1, ex1, zf] at h2b h3b
 simp only
 refine Sat.ite (fun hb => ?_) fun _ => Sat.ite (fun hb => ?_) fun _ => ?_
 ·refine FSat.deeper (Sat.then (IH.one (.cond _) (o + 1) (jb + 1) (any_lt h h1b hb)) (fun h => h) fun tc jc htc => Sat.ok ?_)
  obtain ⟨h1c, h2c, h3c⟩ := htc; simp only [lazy1, sl1, ex1, zf] at h2c h3c
  exact ⟨by omega, by simp only [lazy1, zf]; omega, by simp only [sl1, ex1, ptS, ptsS, noneT, ptsS_append, Nat.add_zero]; omega⟩
 ·refine Sat.then (IH.one .ended o (jb + 1) (any_lt h h1b hb)) (fun h => h) fun tc jc htc => Sat.ok ?_
  obtain ⟨h1c, h2c, h3c⟩ := htc; simp only [lazy1, sl1, ex1, zf] at h2c h3c
  exact ⟨by omega, by simp only [lazy1, zf]; omega, by simp only [sl1, ex1, ptS, ptsS, noneT, ptsS_append, Nat.add_zero]; omega⟩
 ·exact FSat.need h h1b fun h6 => Sat.ok ⟨by omega, by simp only [lazy1, zf]; omega, by simp only [sl1, ex1, ptS, ptsS, noneT, ptsS_append, Nat.add_zero]; omega⟩
theorem fit_simple (h : TokOk T M) (IH : AllFit T f) (p : Nat) (o i : Nat) (hi : i < T.length) : FSat (Fit1 T i (.simple p)) (stepSimple T (parF T f) p o i) := by
 unfold stepSimple
 refine Sat.then (IH.one .suffixed o i hi) (fun h => h) fun ta ja hta => ?_
 obtain ⟨h1a, h2a, h3a⟩ := hta
 simp only [lazy1, sl1, ex1, zf] at h2a h3a
 refine Sat.ite (fun hb => Sat.ite (fun _ => trivial) fun hc => ?_) fun _ => Sat.ite (fun _ => trivial) fun hc => Sat.ok ⟨by omega, by simp only [lazy1, zf]; omega, by simp only [sl1, ex1, ptS, ptsS, noneT, ptsS_append, Nat.add_zero]; omega⟩
 refine Sat.then (IH.one .exp o (ja + 1) (any_lt h h1a hb)) (fun h => h) fun tb jb htb => Sat.ok ?_
 obtain ⟨h1b, h2b, h3b⟩ := htb
 simp only [lazy1, sl1, ex1, zf] at h2b h3b
 exact ⟨by omega, by simp only [lazy1, zf]; omega, by simp only [sl1, ex1, ptS, ptsS, noneT, ptsS_append, Nat.add_zero]; omega⟩
theorem fit_colon (h : TokOk T M) (IH : AllFit T f) (bound : Bool) (o i : Nat) (hi : i < T.length) : FSat (Fit1 T i (.colon bound)) (stepColon T (parF T f) bound o i) := by
 unfold stepColon
 refine Sat.ite (fun hb => ?_) fun hb => Sat.ok ⟨by omega, by simp only [lazy1, zf]; omega, by simp only [sl1, ex1, ptS, ptsS, noneT, ptsS_append, Nat.add_zero]; omega⟩
 refine Sat.then (IH.one .kind o (i + 1) (any_lt h hi hb)) (fun h => h) fun ta ja hta => ?_
 obtain ⟨h1a, h2a, h3a⟩ := hta
 simp only [lazy1, sl1, ex1, zf] at h2a h3a
 refine Sat.ite (fun hc => ?_) fun hc => Sat.ok ⟨by omega, by simp only [lazy1, zf]; omega, by simp only [sl1, ex1, ptS, ptsS, noneT, ptsS_append, Nat.add_zero]; omega⟩
 rw [Bool.and_eq_true] at hc
 exact FSat.mask h (any_lt h h1a hc.2) fun m j2 h5 h6 => Sat.ok ⟨by omega, by simp only [lazy1, zf]; omega, by simp only [sl1, ex1, ptS, ptsS, noneT, ptsS_append, Nat.add_zero]; omega⟩
theorem fit_body (h : TokOk T M) (IH : AllFit T f) (p : Nat) (o i : Nat) (hi : i < T.length) : FSat (Fit1 T i (.body p)) (stepBody T (parF T f) p o i) := by
 unfold stepBody
 refine FSat.need h hi fun h5 => ?_
 refine Sat.then (IH.many (.until _ .param []) o (i + 1) h5) (fun h => h) fun l j hl => ?_
 obtain ⟨hl1, hl2, hl3⟩ := hl
 rw [ptsS] at hl3
 refine Sat.then (IH.one (.colon false) o j hl1) (fun h => h) fun ta ja hta => ?_
 obtain ⟨h1a, h2a, h3a⟩ := hta
 simp only [lazy1, sl1, ex1, zf] at h2a h3a
 refine Sat.then (IH.one .ended o ja h1a) (fun h => h) fun tb jb htb => Sat.ok ?_
 obtain ⟨h1b, h2b, h3b⟩ := htb
 simp only [lazy1, sl1, ex1, zf] at h2b h3b
 exact ⟨by omega, by simp only [lazy1, zf]; omega, by simp only [sl1, ex1, ptS, ptsS, noneT, ptsS_append, Nat.add_zero]; omega⟩
theorem fit_param (h : TokOk T M) (IH : AllFit T f) (o i : Nat) (hi : i < T.length) : FSat (Fit1 T i (.param)) (stepParam T (parF T f) o i) := by
 unfold stepParam
 refine FSat.variable h hi fun h5 => ?_
 refine Sat.then (IH.one (.colon true) o (i + 1) h5) (fun h => h) fun ta ja hta => Sat.ok ?_
 obtain ⟨h1a, h2a, h3a⟩ := hta
 simp only [lazy1, sl1, ex1, zf] at h2a h3a
 exact ⟨by omega, by simp only [lazy1, zf]; omega, by simp only [sl1, ex1, ptS, ptsS, noneT, ptsS_append, Nat.add_zero]; omega⟩
theorem fit_until (h : TokOk T M) (IH : AllFit T f) (e : ByteArray) (it : Item) (acc : List PT) (o i : Nat) (hi : i < T.length) : FSat (FitL T i (.until e it acc)) (stepUntil T (parF T f) e it acc o i) := by
 unfold stepUntil
 refine Sat.ite (fun hb => Sat.ok ⟨any_lt h hi hb, Nat.lt_succ_self i, by omega⟩) fun _ => ?_
 have hrest : ∀ i0, i ≤ i0 → i0 < T.length → FSat (FitL T i (.until e it acc)) (Res.then ((parF T f).one (it.nt acc) o i0) fun t j => (parF T f).many (.until e it (acc ++ [t])) o j) := fun i0 hle h0 => by
  refine Sat.then (IH.one (it.nt acc) o i0 h0) (fun h => h) fun ta ja hta => ?_; obtain ⟨h1a, h2a, h3a⟩ := hta; have h2 : i0 < ja := by cases it <;> simpa [lazy1, Item.nt] using h2a
  have h3 : ptS ta ≤ 4 * (ja - i0) := by cases it <;> (simp only [Item.nt, sl1, ex1] at h3a; omega)
  refine (IH.many (.until e it (acc ++ [ta])) o ja h1a).mono (fun h => h) fun l k hl => ?_; obtain ⟨hl1, hl2, hl3⟩ := hl; rw [ptsS_append, ptsS_one] at hl3; exact ⟨hl1, by omega, by omega⟩
 exact Sat.ite (fun _ => hrest i znr hi) fun _ => FSat.need h hi fun h5 => hrest (i + 1) (Nat.le_succ _) h5
theorem fit_chain (h : TokOk T M) (IH : AllFit T f) (r : Nat) (o i : Nat) (hi : i < T.length) : FSat (Fit1 T i (.chain r)) (stepChain (parF T f) r o i) := by
 unfold stepChain
 refine Sat.ite (fun hb => (IH.one .unary o i hi).mono (fun h => h) fun t j ht => ht) fun hb => ?_
 refine Sat.then (IH.one (.chain (r + 1)) o i hi) (fun h => h) fun ta ja hta => ?_
 obtain ⟨h1a, h2a, h3a⟩ := hta
 simp only [lazy1, sl1, ex1, zf] at h2a h3a
 refine (IH.one (.chainL r ta) o ja h1a).mono (fun h => h) fun tb jb htb => ?_
 obtain ⟨h1b, h2b, h3b⟩ := htb
 simp only [lazy1, sl1, ex1, zf] at h2b h3b
 exact ⟨by omega, by simp only [lazy1, zf]; omega, by simp only [sl1, ex1, ptS, ptsS, noneT, ptsS_append, Nat.add_zero]; omega⟩
theorem opT_size (t : Tok) (x y : PT) : ptS (opT t x y) = ptS x + ptS y + 1 := by
 unfold opT
 split
 ·simp only [ptS, ptsS, Nat.add_zero]
 ·split <;> simp only [ptS, ptsS, Nat.add_zero]
theorem fit_chainL (h : TokOk T M) (IH : AllFit T f) (r : Nat) (x : PT) (o i : Nat) (hi : i < T.length) : FSat (Fit1 T i (.chainL r x)) (stepChainL T (parF T f) r x o i) := by
 unfold stepChainL
 simp only
 refine Sat.ite (fun hb => ?_) fun hb => Sat.ok ⟨by omega, by simp only [lazy1, zf]; omega, by simp only [sl1, ex1, ptS, ptsS, noneT, ptsS_append, Nat.add_zero]; omega⟩
 have hlt := tk_lt h hi (by rcases hb.1 with e | e <;> rw [e] <;> decide)
 refine Sat.then (IH.one (.chain (r + 1)) o (i + 1) hlt) (fun h => h) fun ta ja hta => ?_
 obtain ⟨h1a, h2a, h3a⟩ := hta
 simp only [lazy1, sl1, ex1, zf] at h2a h3a
 refine (IH.one (.chainL r _) o ja h1a).mono (fun h => h) fun tb jb htb => ?_
 obtain ⟨h1b, h2b, h3b⟩ := htb
 simp only [lazy1, sl1, ex1, zf] at h2b h3b
 rw [opT_size] at h3b
 exact ⟨by omega, by simp only [lazy1, zf]; omega, by simp only [sl1, ex1, ptS, ptsS, noneT, ptsS_append, Nat.add_zero]; omega⟩
theorem fit_unary (h : TokOk T M) (IH : AllFit T f) (o i : Nat) (hi : i < T.length) : FSat (Fit1 T i (.unary)) (stepUnary T (parF T f) o i) := by
 unfold stepUnary
 simp only
 refine Sat.ite (fun hb => ?_) fun hb => (IH.one .suffixed o i hi).mono (fun h => h) fun t j ht => ht
 refine FSat.deeper (Sat.then (IH.one .unary (o + 1) (i + 1) (any_lt h hi hb)) (fun h => h) fun ta ja hta => Sat.ok ?_)
 obtain ⟨h1a, h2a, h3a⟩ := hta
 simp only [lazy1, sl1, ex1, zf] at h2a h3a
 exact ⟨by omega, by simp only [lazy1, zf]; omega, by simp only [sl1, ex1, ptS, ptsS, noneT, ptsS_append, Nat.add_zero]; omega⟩
theorem fit_suffixed (h : TokOk T M) (IH : AllFit T f) (o i : Nat) (hi : i < T.length) : FSat (Fit1 T i (.suffixed)) (stepSuffixed (parF T f) o i) := by
 unfold stepSuffixed
 refine Sat.then (IH.one .prim o i hi) (fun h => h) fun ta ja hta => ?_
 obtain ⟨h1a, h2a, h3a⟩ := hta
 simp only [lazy1, sl1, ex1, zf] at h2a h3a
 refine (IH.one (.suffixedL ta) o ja h1a).mono (fun h => h) fun tb jb htb => ?_
 obtain ⟨h1b, h2b, h3b⟩ := htb
 simp only [lazy1, sl1, ex1, zf] at h2b h3b
 exact ⟨by omega, by simp only [lazy1, zf]; omega, by simp only [sl1, ex1, ptS, ptsS, noneT, ptsS_append, Nat.add_zero]; omega⟩
theorem fit_suffixedL (h : TokOk T M) (IH : AllFit T f) (x : PT) (o i : Nat) (hi : i < T.length) : FSat (Fit1 T i (.suffixedL x)) (stepSuffixedL T (parF T f) x o i) := by
 unfold stepSuffixedL
 have hfin : ∀ (y : PT) (j : Nat), ptS y ≤ ptS x + 4 * (j - i) → i < j → j < T.length → FSat (Fit1 T i (.suffixedL x)) ((parF T f).one (.suffixedL y) o j) := fun y j h1 h2 h3 => by
  refine (IH.one (.suffixedL y) o j h3).mono (fun h => h) fun tb jb htb => ?_; obtain ⟨h1b, h2b, h3b⟩ := htb; simp only [lazy1, sl1, ex1, zf] at h2b h3b
  exact ⟨by omega, by simp only [lazy1, zf]; omega, by simp only [sl1, ex1, ptS, ptsS, noneT, ptsS_append, Nat.add_zero]; omega⟩
 simp only
 refine Sat.ite (fun hb => ?_) fun _ => Sat.ite (fun hb => ?_) fun _ => Sat.ite (fun hb => ?_) fun _ => Sat.ok ⟨by omega, by simp only [lazy1, zf]; omega, by simp only [sl1, ex1, ptS, ptsS, noneT, ptsS_append, Nat.add_zero]; omega⟩
 ·refine FSat.token h (any_lt h hi hb) (by decide) fun h6 => hfin _ _ ?_ (by omega) h6
  simp only [ptS, ptsS, Nat.add_zero]; omega
 ·refine FSat.deeper (Sat.then (IH.one .index (o + 1) (i + 1) (any_lt h hi hb)) (fun h => h) fun ta ja hta => ?_)
  obtain ⟨h1a, h2a, h3a⟩ := hta; simp only [lazy1, sl1, ex1, zf] at h2a h3a
  refine hfin _ _ ?_ (by omega) h1a; simp only [ptS, ptsS, Nat.add_zero]; omega
 ·refine Sat.then (IH.many (.args _) o (i + 1) (any_lt h hi hb)) (fun h => h) fun l j hl => ?_
  obtain ⟨hl1, hl2, hl3⟩ := hl; refine hfin _ _ ?_ (by omega) hl1; simp only [ptS, ptsS, Nat.add_zero]; omega
theorem fit_args (h : TokOk T M) (IH : AllFit T f) (p : Nat) (o i : Nat) (hi : i < T.length) : FSat (FitL T i (.args p)) (stepArgs T (parF T f) p o i) := by
 unfold stepArgs
 refine FSat.deeper ((IH.many (.until _ .exp []) (o + 1) i hi).mono (fun h => h) fun l j hl => ?_)
 obtain ⟨hl1, hl2, hl3⟩ := hl
 rw [ptsS] at hl3
 exact ⟨hl1, hl2, by omega⟩
theorem fit_prim (h : TokOk T M) (IH : AllFit T f) (o i : Nat) (hi : i < T.length) : FSat (Fit1 T i (.prim)) (stepPrim T (parF T f) o i) := by
 unfold stepPrim
 simp only
 refine Sat.ite (fun hb => ?_) fun _ => Sat.ite (fun hb => ?_) fun _ => Sat.ite (fun hb => ?_) fun hn1 => Sat.ite (fun hb => ?_) fun _ => Sat.ite (fun hb => ?_) fun _ => Sat.ite (fun hb => ?_) fun _ => Sat.ite (fun hb => ?_) fun _ => Sat.ite (fun hb => ?_) fun _ => trivial
 ·have := tk_lt h hi (by rw [hb.1]; decide)
  exact Sat.ok ⟨by omega, by simp only [lazy1, zf]; omega, by simp only [sl1, ex1, ptS, ptsS, noneT, ptsS_append, Nat.add_zero]; omega⟩
 ·have := tk_lt h hi (by rw [hb]; decide)
  exact Sat.ok ⟨by omega, by simp only [lazy1, zf]; omega, by simp only [sl1, ex1, ptS, ptsS, noneT, ptsS_append, Nat.add_zero]; omega⟩
 ·refine (IH.one (.name _) o (i + 1) (tk_lt h hi (by rw [hb]; decide))).mono (fun h => h) fun ta ja hta => ?_
  obtain ⟨h1a, h2a, h3a⟩ := hta; simp only [lazy1, sl1, ex1, zf] at h2a h3a
  exact ⟨by omega, by simp only [lazy1, zf]; omega, by simp only [sl1, ex1, ptS, ptsS, noneT, ptsS_append, Nat.add_zero]; omega⟩
 ·have := any_lt h hi hb
  exact Sat.ok ⟨by omega, by simp only [lazy1, zf]; omega, by simp only [sl1, ex1, ptS, ptsS, noneT, ptsS_append, Nat.add_zero]; omega⟩
 ·have := any_lt h hi hb
  exact Sat.ok ⟨by omega, by simp only [lazy1, zf]; omega, by simp only [sl1, ex1, ptS, ptsS, noneT, ptsS_append, Nat.add_zero]; omega⟩
 ·refine FSat.deeper ((IH.one (.body _) (o + 1) (i + 1) (any_lt h hi hb)).mono (fun h => h) fun ta ja hta => ?_)
  obtain ⟨h1a, h2a, h3a⟩ := hta; simp only [lazy1, sl1, ex1, zf] at h2a h3a
  exact ⟨by omega, by simp only [lazy1, zf]; omega, by simp only [sl1, ex1, ptS, ptsS, noneT, ptsS_append, Nat.add_zero]; omega⟩
 ·refine FSat.deeper ((IH.one .paren (o + 1) (i + 1) (any_lt h hi hb)).mono (fun h => h) fun ta ja hta => ?_)
  obtain ⟨h1a, h2a, h3a⟩ := hta; simp only [lazy1, sl1, ex1, zf] at h2a h3a
  exact ⟨by omega, by simp only [lazy1, zf]; omega, by simp only [sl1, ex1, ptS, ptsS, noneT, ptsS_append, Nat.add_zero]; omega⟩
 ·refine FSat.deeper ((IH.one (.table _) (o + 1) (i + 1) (any_lt h hi hb)).mono (fun h => h) fun ta ja hta => ?_)
  obtain ⟨h1a, h2a, h3a⟩ := hta; simp only [lazy1, sl1, ex1, zf] at h2a h3a
  exact ⟨by omega, by simp only [lazy1, zf]; omega, by simp only [sl1, ex1, ptS, ptsS, noneT, ptsS_append, Nat.add_zero]; omega⟩
theorem fit_name (h : TokOk T M) (IH : AllFit T f) (t : Tok) (o i : Nat) (hi : i < T.length) : FSat (Fit1 T i (.name t)) (stepName T (parF T f) t o i) := by
 unfold stepName
 match hbu : builtinL t.text with
 | none => exact Sat.ok ⟨by omega, by simp only [lazy1, zf]; omega, by simp only [sl1, ex1, ptS, ptsS, noneT, ptsS_append, Nat.add_zero]; omega⟩
 | some n =>
  refine Sat.ite (fun hb => ?_) fun _ => trivial; refine Sat.then (IH.many (.args _) o (i + 1) (any_lt h hi hb)) (fun h => h) fun l j hl => ?_; obtain ⟨hl1, hl2, hl3⟩ := hl; exact Sat.ite (fun _ => trivial) fun hlen => Sat.ite (fun _ => trivial) fun hc => Sat.ok ⟨by omega, by simp only [lazy1, zf]; omega, by simp only [sl1, ex1, ptS, ptsS, noneT, ptsS_append, Nat.add_zero]; omega⟩
theorem fit_entries (h : TokOk T M) (IH : AllFit T f) (acc : List PT) (o i : Nat) (hi : i < T.length) : FSat (FitL T i (.entries acc)) (stepEntries T (parF T f) acc o i) := by
 unfold stepEntries
 have hmore : ∀ (x : PT) (j : Nat), ptS x ≤ 4 * (j - i) → i < j → j < T.length → FSat (FitL T i (.entries acc)) (if isAny (tk T j) [⟨#[44]⟩] || isAny (tk T j) [⟨#[59]⟩] then (parF T f).many (.entries (acc ++ [x])) o (j + 1) else one1 (acc ++ [x]) j) := fun x j h2 h3 h4 => by
  refine Sat.ite (fun hb => ?_) fun _ => Sat.ok ⟨h4, Nat.le_of_lt h3, by rw [ptsS_append, ptsS_one]; omega⟩; have hlt : j + 1 < T.length := by
   rw [Bool.or_eq_true] at hb
   rcases hb with hb | hb <;> exact any_lt h h4 hb
  refine (IH.many (.entries _) o (j + 1) hlt).mono (fun h => h) fun l k hl => ?_; obtain ⟨hl1, hl2, hl3⟩ := hl; rw [ptsS_append, ptsS_one] at hl3; exact ⟨hl1, by omega, by omega⟩
 simp only
 refine Sat.ite (fun hb => Sat.ok ⟨hi, znr, by omega⟩) fun _ => Sat.ite (fun hb => ?_) fun _ => ?_
 ·have h5 := tk_lt h hi (by rw [hb.1]; decide)
  have h6 := tk_lt h h5 (by rw [hb.2.1]; decide); refine Sat.then (IH.one .exp o (i + 2) h6) (fun h => h) fun ta ja hta => ?_; obtain ⟨h1a, h2a, h3a⟩ := hta; simp only [lazy1, sl1, ex1, zf] at h2a h3a
  refine hmore _ ja ?_ (by omega) h1a; simp only [ptS, ptsS, Nat.add_zero]; omega
 ·refine Sat.then (IH.one .exp o i hi) (fun h => h) fun ta ja hta => ?_
  obtain ⟨h1a, h2a, h3a⟩ := hta; simp only [lazy1, sl1, ex1, zf] at h2a h3a
  refine hmore _ ja ?_ (by omega) h1a; simp only [ptS, ptsS, Nat.add_zero]; omega
theorem fit_table (h : TokOk T M) (IH : AllFit T f) (p : Nat) (o i : Nat) (hi : i < T.length) : FSat (Fit1 T i (.table p)) (stepTable T (parF T f) p o i) := by
 unfold stepTable
 refine Sat.then (IH.many (.entries []) o i hi) (fun h => h) fun l j hl => ?_
 obtain ⟨hl1, hl2, hl3⟩ := hl
 rw [ptsS] at hl3
 exact FSat.need h hl1 fun h5 => Sat.ok ⟨by omega, by simp only [lazy1, zf]; omega, by simp only [sl1, ex1, ptS, ptsS, noneT, ptsS_append, Nat.add_zero]; omega⟩
theorem fit_kind (h : TokOk T M) (IH : AllFit T f) (o i : Nat) (hi : i < T.length) : FSat (Fit1 T i (.kind)) (stepKind T (parF T f) o i) := by
 unfold stepKind
 simp only
 refine Sat.ite (fun hb => FSat.deeper ((IH.one (.kindF _) (o + 1) (i + 1) (any_lt h hi hb)).mono (fun h => h) fun ta ja hta => ?_)) fun _ => ?_
 ·obtain ⟨h1a, h2a, h3a⟩ := hta
  simp only [lazy1, sl1, ex1, zf] at h2a h3a
  exact ⟨by omega, by simp only [lazy1, zf]; omega, by simp only [sl1, ex1, ptS, ptsS, noneT, ptsS_append, Nat.add_zero]; omega⟩
 refine Sat.then (IH.one .one o i hi) (fun h => h) fun ta ja hta => ?_
 obtain ⟨h1a, h2a, h3a⟩ := hta
 simp only [lazy1, sl1, ex1, zf] at h2a h3a
 refine Sat.then (IH.many (.ones [ta]) o ja h1a) (fun h => h) fun l j2 hl => ?_
 obtain ⟨hl1, hl2, hl0, hl3⟩ := hl
 rw [ptsS_one] at hl3
 match l, hl0, hl3 with
 | [], hl0, _ => simp at hl0
 | [y], _, hl3 =>
  rw [ptsS_one] at hl3; simp only [List.length_cons, List.length_nil] at hl3
  exact Sat.ok ⟨by omega, by simp only [lazy1, zf]; omega, by simp only [sl1, ex1, ptS, ptsS, noneT, ptsS_append, Nat.add_zero]; omega⟩
 | y :: z :: r, _, hl3 =>
  simp only [List.length_cons, List.length_nil] at hl3
  refine Sat.ok ⟨by omega, by simp only [lazy1, zf]; omega, ?_⟩; simp only [sl1, ex1, ptS]; omega
theorem fit_ones (h : TokOk T M) (IH : AllFit T f) (acc : List PT) (o i : Nat) (hi : i < T.length) : FSat (FitL T i (.ones acc)) (stepOnes T (parF T f) acc o i) := by
 unfold stepOnes
 refine Sat.ite (fun hb => ?_) fun _ => Sat.ok ⟨hi, znr, znr, by omega⟩
 refine Sat.then (IH.one .one o (i + 1) (any_lt h hi hb)) (fun h => h) fun ta ja hta => ?_
 obtain ⟨h1a, h2a, h3a⟩ := hta
 simp only [lazy1, sl1, ex1, zf] at h2a h3a
 refine (IH.many (.ones (acc ++ [ta])) o ja h1a).mono (fun h => h) fun l k hl => ?_
 obtain ⟨hl1, hl2, hl0, hl3⟩ := hl
 rw [ptsS_append, ptsS_one] at hl3
 rw [List.length_append, List.length_singleton] at hl0 hl3
 exact ⟨hl1, by omega, by omega, by omega⟩
theorem fit_kindF (h : TokOk T M) (IH : AllFit T f) (p : Nat) (o i : Nat) (hi : i < T.length) : FSat (Fit1 T i (.kindF p)) (stepKindF T (parF T f) p o i) := by
 unfold stepKindF
 refine Sat.then (IH.many (.until _ .kind []) o i hi) (fun h => h) fun l j hl => ?_
 obtain ⟨hl1, hl2, hl3⟩ := hl
 rw [ptsS] at hl3
 refine FSat.need h hl1 fun h5 => Sat.then (IH.one .kind o (j + 1) h5) (fun h => h) fun ta ja hta => Sat.ok ?_
 obtain ⟨h1a, h2a, h3a⟩ := hta
 simp only [lazy1, sl1, ex1, zf] at h2a h3a
 exact ⟨by omega, by simp only [lazy1, zf]; omega, by simp only [sl1, ex1, ptS, ptsS, noneT, ptsS_append, Nat.add_zero]; omega⟩
theorem fit_one (h : TokOk T M) (IH : AllFit T f) (o i : Nat) (hi : i < T.length) : FSat (Fit1 T i (.one)) (stepOne T (parF T f) o i) := by
 unfold stepOne
 simp only
 refine Sat.ite (fun hb => ?_) fun _ => Sat.ite (fun hb => ?_) fun _ => Sat.ite (fun hb => ?_) fun _ => trivial
 ·have := any_lt h hi hb
  exact Sat.ok ⟨by omega, by simp only [lazy1, zf]; omega, by simp only [sl1, ex1, ptS, ptsS, noneT, ptsS_append, Nat.add_zero]; omega⟩
 ·refine FSat.deeper ((IH.one (.shape _) (o + 1) (i + 1) (any_lt h hi hb)).mono (fun h => h) fun ta ja hta => ?_)
  obtain ⟨h1a, h2a, h3a⟩ := hta; simp only [lazy1, sl1, ex1, zf] at h2a h3a
  exact ⟨by omega, by simp only [lazy1, zf]; omega, by simp only [sl1, ex1, ptS, ptsS, noneT, ptsS_append, Nat.add_zero]; omega⟩
 ·have := tk_lt h hi (by rw [hb.1]; decide)
  exact Sat.ok ⟨by omega, by simp only [lazy1, zf]; omega, by simp only [sl1, ex1, ptS, ptsS, noneT, ptsS_append, Nat.add_zero]; omega⟩
theorem fit_shape (h : TokOk T M) (IH : AllFit T f) (p : Nat) (o i : Nat) (hi : i < T.length) : FSat (Fit1 T i (.shape p)) (stepShape T (parF T f) p o i) := by
 unfold stepShape
 refine Sat.then (IH.many (.until _ .field []) o i hi) (fun h => h) fun l j hl => Sat.ok ?_
 obtain ⟨hl1, hl2, hl3⟩ := hl
 rw [ptsS] at hl3
 exact ⟨by omega, by simp only [lazy1, zf]; omega, by simp only [sl1, ex1, ptS, ptsS, noneT, ptsS_append, Nat.add_zero]; omega⟩
theorem fit_field (h : TokOk T M) (IH : AllFit T f) (seen : List ByteArray) (o i : Nat) (hi : i < T.length) : FSat (Fit1 T i (.field seen)) (stepField T (parF T f) seen o i) := by
 unfold stepField
 refine FSat.token h hi (by decide) fun h5 => Sat.ite (fun _ => trivial) fun hns => FSat.need h h5 fun h6 => ?_
 refine Sat.then (IH.one .kind o (i + 1 + 1) h6) (fun h => h) fun ta ja hta => Sat.ok ?_
 obtain ⟨h1a, h2a, h3a⟩ := hta
 simp only [lazy1, sl1, ex1, zf] at h2a h3a
 exact ⟨by omega, by simp only [lazy1, zf]; omega, by simp only [sl1, ex1, ptS, ptsS, noneT, ptsS_append, Nat.add_zero]; omega⟩
theorem fit_all (h : TokOk T M) : ∀ f, AllFit T f
 | 0 => ⟨fun nt o i hi => trivial, fun nt o i hi => trivial⟩
 | f + 1 => by
  have IH := fit_all h f; refine ⟨fun nt o i hi => ?_, fun nt o i hi => ?_⟩
  ·cases nt with
   | block => exact fit_block h IH o i hi
   | ended => exact fit_ended h IH o i hi
   | maybe b => exact fit_maybe h IH b o i hi
   | stat => exact fit_stat h IH o i hi
   | whileB p => exact fit_while h IH p o i hi
   | cond p => exact fit_cond h IH p o i hi
   | simple p => exact fit_simple h IH p o i hi
   | colon b => exact fit_colon h IH b o i hi
   | body p => exact fit_body h IH p o i hi
   | param => exact fit_param h IH o i hi
   | chain r => exact fit_chain h IH r o i hi
   | chainL r x => exact fit_chainL h IH r x o i hi
   | exp => exact (IH.one (.chain 1) o i hi).mono (fun h => h) fun t j ht => ht
   | unary => exact fit_unary h IH o i hi
   | suffixed => exact fit_suffixed h IH o i hi
   | suffixedL x => exact fit_suffixedL h IH x o i hi
   | index => exact fit_index h IH o i hi
   | paren => exact fit_paren h IH o i hi
   | prim => exact fit_prim h IH o i hi
   | name t => exact fit_name h IH t o i hi
   | table p => exact fit_table h IH p o i hi
   | kind => exact fit_kind h IH o i hi
   | kindF p => exact fit_kindF h IH p o i hi
   | one => exact fit_one h IH o i hi
   | shape p => exact fit_shape h IH p o i hi
   | field l => exact fit_field h IH l o i hi
  ·cases nt with
   | stats b acc => exact fit_stats h IH b acc o i hi
   | «until» e it acc => exact fit_until h IH e it acc o i hi
   | args p => exact fit_args h IH p o i hi
   | entries acc => exact fit_entries h IH acc o i hi
   | ones acc => exact fit_ones h IH acc o i hi
end
end Go.Proofs.YthobobmbileekaaGreatDoor
namespace Go.Proofs.YthobobmbileekaaGreatDoor

mutual
def zp : PT → PT
 | .mk k x _ l => .mk k x 0 (zps l)
def zps : List PT → List PT
 | [] => []
 | t :: r => zp t :: zps r
end
def zt (t : Tok) : Tok := ⟨t.kind, t.text, 0, 0, t.n⟩
def N1.z : N1 → N1
 | .whileB _ => .whileB 0
 | .cond _ => .cond 0
 | .simple _ => .simple 0
 | .body _ => .body 0
 | .chainL r x => .chainL r (zp x)
 | .suffixedL x => .suffixedL (zp x)
 | .name t => .name (zt t)
 | .table _ => .table 0
 | .kindF _ => .kindF 0
 | .shape _ => .shape 0
 | x => x
def NL.z : NL → NL
 | .stats b acc => .stats b (zps acc)
 | .until e it acc => .until e it (zps acc)
 | .args _ => .args 0
 | .entries acc => .entries (zps acc)
 | .ones acc => .ones (zps acc)
section
variable {α β : Type} {f : α → α} {g : β → β} {T : List Tok}
end
section
variable {T : List Tok} {R0 R : Rec}
end
end Go.Proofs.YthobobmbileekaaGreatDoor
namespace Go.Proofs.YthobobmbileekaaGreatDoor

theorem numS_range {s : ByteArray} {k : Int} (h : numS s = some k) : -9223372036854775808 ≤ k ∧ k ≤ 9223372036854775807 := by
 unfold numS at h
 split at h
 ·split at h
  ·rw [Option.map_eq_some_iff] at h
   obtain ⟨n, _, rfl⟩ := h; exact wrap_range _
  ·simp at h
 ·split at h
  ·simp at h
  ·rw [Option.map_eq_some_iff] at h
   obtain ⟨n, _, rfl⟩ := h; exact wrap_range _
def TokGood (t : Tok) : Prop := t.kind ≠ 0 ∧ (t.kind = 1 → NameOk t.text) ∧ (-9223372036854775808 ≤ t.n ∧ t.n ≤ 9223372036854775807)
theorem mem_while : ∀ (l : List UInt8) {c : UInt8}, c ∈ l.takeWhile partB → partN c.toNat = true
 | [], c, h => by simp at h
 | d :: r, c, h => by
  by_cases hp : partB d = true
  ·rw [List.takeWhile_cons_of_pos hp] at h
   rcases List.mem_cons.1 h with rfl | h
   ·exact hp
   ·exact mem_while r h
  ·rw [List.takeWhile_cons_of_neg hp] at h; simp at h
theorem run_all : ∀ (l : List UInt8) (c : UInt8), c ∈ l.take (runL l) → partN c.toNat = true := by
 intro l c hc
 unfold runL at hc
 rw [← take_while] at hc
 exact mem_while l hc
theorem tokenL_good {l : List UInt8} {k : Int} {x : ByteArray} {v : Int} {n : Nat} (h : tokenL l = .inr (k, x, v, n)) : k ≠ 0 ∧ (k = 1 → NameOk x) ∧ (-9223372036854775808 ≤ v ∧ v ≤ 9223372036854775807) ∧ x.size ≤ n := by
 match l with
 | [] => simp [tokenL] at h
 | c :: r =>
  rw [tokenL] at h; by_cases hp : partN c.toNat = true
  ·rw [if_pos hp] at h
   have hsz : (⟨((c :: r).take (runL (c :: r))).toArray⟩ : ByteArray).size ≤ runL (c :: r) := by
    show ((c :: r).take (runL (c :: r))).toArray.size ≤ _
    rw [List.size_toArray, List.length_take]
    omega
   simp only at h
   by_cases hl : letterN c.toNat = true
   ·rw [if_pos hl] at h
    by_cases hw : isWord ⟨((c :: r).take (runL (c :: r))).toArray⟩ = true
    ·rw [if_pos hw] at h
     simp only [Sum.inr.injEq, Prod.mk.injEq] at h
     obtain ⟨rfl, rfl, rfl, rfl⟩ := h; exact ⟨by decide, fun e => absurd e (by decide), by decide, hsz⟩
    ·rw [if_neg hw] at h
     simp only [Sum.inr.injEq, Prod.mk.injEq] at h
     obtain ⟨rfl, rfl, rfl, rfl⟩ := h; refine ⟨by decide, fun _ => ⟨fun e => hw ((isWord_iff _).2 e), fun d hd => run_all (c :: r) d (by simpa using hd), c, ?_, hl⟩, by decide, hsz⟩; rw [runL_yes hp]; simp [Nat.add_comm 1]
   ·rw [if_neg hl] at h
    cases hn : numS ⟨((c :: r).take (runL (c :: r))).toArray⟩ with
    | none => rw [hn] at h; simp at h
    | some q =>
     rw [hn] at h; simp only [Sum.inr.injEq, Prod.mk.injEq] at h
     obtain ⟨rfl, rfl, rfl, rfl⟩ := h; exact ⟨by decide, fun e => absurd e (by decide), numS_range hn, hsz⟩
  ·rw [if_neg hp] at h
   by_cases h34 : c = 34
   ·rw [if_pos h34] at h
    cases ht : textL r with
    | none => rw [ht] at h; simp at h
    | some q =>
     obtain ⟨y, m⟩ := q; rw [ht] at h; simp only [Sum.inr.injEq, Prod.mk.injEq] at h
     obtain ⟨rfl, rfl, rfl, rfl⟩ := h; refine ⟨by decide, fun e => absurd e (by decide), by decide, ?_⟩; have := textL_len ht
     show y.toArray.size ≤ m + 1
     rw [List.size_toArray]
     omega
   ·rw [if_neg h34] at h
    by_cases hs : signL (c :: r) = 0
    ·rw [if_pos hs] at h; simp at h
    ·rw [if_neg hs] at h
     simp only [Sum.inr.injEq, Prod.mk.injEq] at h
     obtain ⟨rfl, rfl, rfl, rfl⟩ := h; refine ⟨by decide, fun e => absurd e (by decide), by decide, ?_⟩
     show ((c :: r).take (signL (c :: r))).toArray.size ≤ _
     rw [List.size_toArray, List.length_take]
     omega
theorem blank_le_drop (l : List UInt8) (n : Nat) : blankL false (l.drop n) ≤ l.length - n := by
 have := blankL_le (l.drop n) false
 rwa [List.length_drop] at this
theorem scanF_ok : ∀ (f : Nat) (l : List UInt8) (p M B : Nat) (acc T : List Tok), l.length < f → p + l.length = M → l.length ≤ B → scanF f l p acc = .inr T →
  ∃ T', T = acc ++ T' ++ [⟨0, ⟨#[]⟩, M, M, 0⟩] ∧ (∀ t ∈ T', TokGood t ∧ t.a ≤ M ∧ t.text.size ≤ B) ∧ T'.length ≤ l.length
 | 0, l, p, M, B, acc, T, h, _, _, _ => by omega
 | f + 1, l, p, M, B, acc, T, hf, hM, hB, h => by
  rw [scanF] at h; by_cases hl : l = []
  ·rw [if_pos hl] at h
   subst hl; refine ⟨[], ?_, fun t ht => by simp at ht, by simp⟩; rw [← Sum.inr.inj h, List.append_nil, ← hM]
   rfl
  ·rw [if_neg hl] at h
   match ht : tokenL l with
   | .inl e => rw [ht] at h; simp at h
   | .inr (k, x, v, n) =>
    rw [ht] at h; simp only at h
    have h1 := tokenL_len ht; have h2 := tokenL_good ht; have hbl := blank_le_drop l n; have h3 : (l.drop (n + blankL false (l.drop n))).length = l.length - (n + blankL false (l.drop n)) := List.length_drop; obtain ⟨T', e1, e2, e3⟩ := scanF_ok f _ _ M B _ T (by rw [h3]; omega) (by rw [h3]; omega) (by rw [h3]; omega) h; refine ⟨⟨k, x, p, p + n, v⟩ :: T', ?_, fun t hm => ?_, ?_⟩
    ·rw [e1]; simp
    ·rcases List.mem_cons.1 hm with rfl | hm
     ·exact ⟨⟨h2.1, h2.2.1, h2.2.2.1⟩, by show p ≤ M; omega, by show x.size ≤ B; omega⟩
     ·exact e2 t hm
    ·rw [List.length_cons, h3] at *
     omega
theorem scan_tok {L : List UInt8} {T : List Tok} (h : scanL L = .inr T) : TokOk T L.length ∧ T.length ≤ L.length + 1 ∧ (∀ i, (tk T i).text.size ≤ L.length) ∧ ∃ T', T = T' ++ [⟨0, ⟨#[]⟩, L.length, L.length, 0⟩] := by
 have hb := blankL_le L false
 unfold scanL scanAt at h
 obtain ⟨T', e1, e2, e3⟩ := scanF_ok _ _ _ L.length L.length _ _ (Nat.lt_succ_self _) (by rw [List.length_drop]; omega) (by rw [List.length_drop]; omega) h
 rw [List.nil_append] at e1
 rw [List.length_drop] at e3
 have htk : ∀ i, (i < T'.length ∧ tk T i ∈ T') ∨ (tk T i = ⟨0, ⟨#[]⟩, L.length, L.length, 0⟩) ∨ (tk T i = ⟨0, ⟨#[]⟩, 0, 0, 0⟩) := fun i => by
  unfold tk; rw [e1]
  rcases Nat.lt_or_ge i T'.length with hi | hi
  ·left
   rw [List.getElem?_append_left hi, List.getElem?_eq_getElem hi]; exact ⟨hi, List.getElem_mem hi⟩
  ·right
   rw [List.getElem?_append_right hi]
   cases hq : i - T'.length with
   | zero => left; rfl
   | succ m => right; simp
 refine ⟨⟨?_, ?_, fun i => ?_, fun i hk => ?_, fun i => ?_⟩, ?_, fun i => ?_, T', e1⟩
 ·rw [e1]; simp
 ·unfold tk
  rw [e1, List.length_append, List.length_singleton, Nat.add_sub_cancel, List.getElem?_append_right znr, Nat.sub_self]
  rfl
 ·rcases htk i with ⟨_, h1⟩ | h1 | h1
  ·exact (e2 _ h1).2.1
  ·rw [h1]; exact znr
  ·rw [h1]; exact Nat.zero_le _
 ·rcases htk i with ⟨_, h1⟩ | h1 | h1
  ·exact (e2 _ h1).1.2.1 hk
  ·rw [h1] at hk; exact absurd (show (0 : Int) = 1 from hk) (by decide)
  ·rw [h1] at hk; exact absurd (show (0 : Int) = 1 from hk) (by decide)
 ·rcases htk i with ⟨_, h1⟩ | h1 | h1
  ·exact (e2 _ h1).1.2.2
  ·rw [h1]; exact (by decide : (-9223372036854775808 : Int) ≤ 0 ∧ (0 : Int) ≤ 9223372036854775807)
  ·rw [h1]; exact (by decide : (-9223372036854775808 : Int) ≤ 0 ∧ (0 : Int) ≤ 9223372036854775807)
 ·rw [e1, List.length_append, List.length_singleton]; omega
 ·rcases htk i with ⟨_, h1⟩ | h1 | h1
  ·exact (e2 _ h1).2.2
  ·rw [h1]; exact Nat.zero_le _
  ·rw [h1]; exact Nat.zero_le _
section
variable {X : List UInt8}
end
end Go.Proofs.YthobobmbileekaaGreatDoor
