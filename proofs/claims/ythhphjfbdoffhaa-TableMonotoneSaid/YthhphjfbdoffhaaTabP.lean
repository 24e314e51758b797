/-
  Chapter 04: a table's calls as plain functions, and what stays true of a table.
-/
import Derived.Test.YthhphjfbdoffhaaTabGet
import Derived.Test.YthhphjfbdoffhaaTabFit
import Derived.Test.YthhphjfbdoffhaaTabEach
set_option linter.unusedVariables false
set_option linter.unusedSimpArgs false
namespace Go.Proofs.Ythhphjfbdoffhaa
open Go.ChangeShapes Go.WideShapes Go.ChangeAt Go.RowKit Go.Maps

def I64 (n : Int) : Prop := -9223372036854775808 ≤ n ∧ n ≤ 9223372036854775807
structure VOk (v : VV) : Prop where
  kind : I64 v.kind
  n : I64 v.n
  s : v.s.size ≤ maxLen
  label : v.label < 18446744073709551616
structure TabOk (T : TabS) : Prop where
  l : T.l < 18446744073709551616
  key : ∀ f ∈ T.F, isKey f.1 = true
  bare : ∀ f ∈ T.F, f.1.label = 0
  kOk : ∀ f ∈ T.F, VOk f.1
  vOk : ∀ f ∈ T.F, VOk f.2
  sOk : ∀ s ∈ T.S, s.1.size ≤ maxLen ∧ I64 s.2
  dF : T.F.Pairwise fun a b => sameV a.1 b.1 = false
  dS : T.S.Pairwise fun a b => a.1.toList ≠ b.1.toList
  st : ∀ s ∈ T.S, ∃ f ∈ T.F, f.1.kind = 3 ∧ f.1.s = s.1 ∧ fitsB s.2 f.2.kind = true
def findF (F : List Fd) (k : VV) : Option Nat := if isKey k = true then F.findIdx? (fun f => sameV f.1 k) else none
def findI (F : List Fd) (k : VV) : Int := match findF F k with | some i => (i : Int) | none => -1
theorem bytes_eq {a b : ByteArray} (h : a.toList = b.toList) : a = b := by
  rw [ByteArray.toList_eq, ByteArray.toList_eq] at h
  cases a; cases b
  simp at h
  simp [Array.ext', h]
theorem sameV_iff (a b : VV) : sameV a b = true ↔ a.kind = b.kind ∧ a.n = b.n ∧ a.s = b.s := by
  unfold sameV
  simp only [Bool.and_eq_true, beq_iff_eq]
  exact ⟨fun h => ⟨h.1.1, h.1.2, bytes_eq h.2⟩, fun h => ⟨⟨h.1, h.2.1⟩, by rw [h.2.2]⟩⟩
theorem isKey_kind {v : VV} (h : isKey v = true) : v.kind = 2 ∨ v.kind = 3 := by
  unfold isKey at h
  simp at h
  exact h.1
theorem keyLV_iff {a b : VV} (ha : isKey a = true) (hb : isKey b = true) (ka : VOk a) (kb : VOk b) : keyLV a = keyLV b ↔ sameV a b = true := by
  rw [sameV_iff]
  constructor
  · intro h
    obtain ⟨h1, h2, h3⟩ := keyL_inj ka.n ka.s kb.n kb.s h
    refine ⟨?_, h1, h2⟩
    rcases isKey_kind ha with e | e <;> rcases isKey_kind hb with e' | e' <;> simp [e, e'] at h3 ⊢
  · rintro ⟨h1, h2, h3⟩
    unfold keyLV
    rw [h1, h2, h3]
theorem sameV_self (a : VV) : sameV a a = true := (sameV_iff a a).2 ⟨rfl, rfl, rfl⟩
theorem sameV_trans {a b c : VV} (h : sameV a b = true) (k : sameV b c = true) : sameV a c = true := by
  rw [sameV_iff] at *
  exact ⟨h.1.trans k.1, h.2.1.trans k.2.1, h.2.2.trans k.2.2⟩
theorem sameV_symm {a b : VV} (h : sameV a b = true) : sameV b a = true := by
  rw [sameV_iff] at *
  exact ⟨h.1.symm, h.2.1.symm, h.2.2.symm⟩
theorem find_unique {F : List Fd} (hd : F.Pairwise fun a b => sameV a.1 b.1 = false) {k : VV} {i : Nat} {f : Fd} (hi : F[i]? = some f) (hs : sameV f.1 k = true) : F.findIdx? (fun f => sameV f.1 k) = some i := by
  rw [List.findIdx?_eq_some_iff_getElem]
  obtain ⟨hl, he⟩ := List.getElem?_eq_some_iff.1 hi
  refine ⟨hl, by rw [he]; exact hs, fun j hj => ?_⟩
  rw [List.pairwise_iff_getElem] at hd
  have := hd j i (by omega) hl hj
  rw [he] at this
  intro h
  have h2 := sameV_trans h (sameV_symm hs)
  rw [this] at h2
  cases h2
theorem findF_some {F : List Fd} {k : VV} {i : Nat} (h : findF F k = some i) : isKey k = true ∧ ∃ f, F[i]? = some f ∧ sameV f.1 k = true := by
  unfold findF at h
  split at h
  · rename_i hk
    rw [List.findIdx?_eq_some_iff_getElem] at h
    obtain ⟨hl, hs, _⟩ := h
    exact ⟨hk, _, List.getElem?_eq_getElem hl, hs⟩
  · cases h
theorem findF_none {F : List Fd} {k : VV} (h : findF F k = none) (hk : isKey k = true) : ∀ f ∈ F, sameV f.1 k = false := by
  unfold findF at h
  rw [if_pos hk, List.findIdx?_eq_none_iff] at h
  exact h
theorem find_is {w : World} {B tb : Nat} {T : TabS} {fp : List Nat} (h : TabIn w B tb T fp) (ok : TabOk T) {k : VV} (kk : VOk k) :
    Calls Try.prog 59 #[.pointer (some ⟨tb, 0, none⟩), .agg (vvCells k)] w (RetB (.int .i64 (findI T.F k)) w) := by
  obtain ⟨p, hp, hc⟩ := find_any h k kk.n kk.s
  have e : p = findI T.F k := by
    rcases hp with ⟨hk, i, f, hi, he, rfl⟩ | ⟨hno, rfl⟩
    · have hs := (keyLV_iff (ok.key f (List.mem_of_getElem? hi)) hk (ok.kOk f (List.mem_of_getElem? hi)) kk).1 he
      unfold findI findF
      rw [if_pos hk, find_unique ok.dF hi hs]
    · unfold findI
      cases hf : findF T.F k with
      | none => rfl
      | some i =>
        obtain ⟨hk, f, hi, hs⟩ := findF_some hf
        rcases hno with h1 | h1
        · rw [hk] at h1
          cases h1
        · exact absurd ((keyLV_iff (ok.key f (List.mem_of_getElem? hi)) hk (ok.kOk f (List.mem_of_getElem? hi)) kk).2 hs) (h1 f (List.mem_of_getElem? hi))
  rw [← e]
  exact hc
/-- What stands at a key, the document's way. -/
def getV (F : List Fd) (k : VV) : VV := match findF F k with | some i => (match F[i]? with | some f => f.2 | none => noneV) | none => noneV
theorem atKey_is {T : TabS} (ok : TabOk T) {k out : VV} (kk : VOk k) (h : AtKey T.F k out) : out = getV T.F k := by
  unfold getV
  rcases h with ⟨hk, i, f, hi, he, rfl⟩ | ⟨hno, rfl⟩
  · have hs := (keyLV_iff (ok.key f (List.mem_of_getElem? hi)) hk (ok.kOk f (List.mem_of_getElem? hi)) kk).1 he
    unfold findF
    rw [if_pos hk, find_unique ok.dF hi hs]
    simp only [hi]
  · cases hf : findF T.F k with
    | none => rfl
    | some i =>
      obtain ⟨hk, f, hi, hs⟩ := findF_some hf
      rcases hno with h1 | h1
      · rw [hk] at h1
        cases h1
      · exact absurd ((keyLV_iff (ok.key f (List.mem_of_getElem? hi)) hk (ok.kOk f (List.mem_of_getElem? hi)) kk).2 hs) (h1 f (List.mem_of_getElem? hi))
theorem tget_is {w : World} {B tb : Nat} {T : TabS} {fp : List Nat} (h : TabIn w B tb T fp) (ok : TabOk T) {k : VV} (kk : VOk k) :
    Calls Try.prog 35 #[.pointer (some ⟨tb, 0, none⟩), .agg (vvCells k)] w (RetB (.agg (vvCells (withV (getV T.F k) (joinL [k.label, T.l])))) w) := by
  obtain ⟨out, ho, hc⟩ := tget_any h k kk.n kk.s kk.label ok.l fun f hf => (ok.vOk f hf).label
  rw [← atKey_is ok kk ho]
  exact hc
/-- Put, plainly: the number that it answers, and the table behind it. -/
def doPut (T : TabS) (ctx : Nat) (k v : VV) : Int × TabS :=
  if isKey k = false then (41, T) else
  if (decide (k.kind = 3) && !allowsB T.S k.s v.kind) = true then (42, T) else
  match findF T.F k with
  | some i => (match T.F[i]? with
    | some f => if flowsB (ctx ||| k.label) f.2.label = true then (0, { T with F := T.F.set i (f.1, withV v (ctx ||| k.label)) }) else (40, T)
    | none => (40, T))
  | none => if flowsB (ctx ||| k.label) T.l = true then (0, { T with F := T.F ++ [(bareV k, withV v (ctx ||| k.label))] }) else (40, T)
/-- Stamps with one more. -/
def withS (S : List St) (s : St) : List St := if S.any (fun x => x.1.toList == s.1.toList) = true then S.map (fun x => if x.1.toList = s.1.toList then (x.1, bits .and .i64 x.2 s.2) else x) else S ++ [s]
def stamped (S l : List St) : List St := l.foldl withS S
def stampOk (F : List Fd) (N l : List St) : Bool := l.all fun s => match findF F ⟨3, 0, s.1, 0⟩ with | some i => (match F[i]? with | some f => allowsB N s.1 f.2.kind | none => false) | none => false
def doStamp (T : TabS) (l : List St) : Bool × TabS := if stampOk T.F (stamped T.S l) l = true then (true, { T with S := stamped T.S l }) else (false, T)
theorem flat_set4 {v' : VV} : ∀ {F : List Fd} {i : Nat} {f : Fd}, F[i]? = some f → ((((F.flatMap fdEnc).set (i * 8 + 4) (.int .i64 v'.kind)).set (i * 8 + 5) (.int .i64 v'.n)).set (i * 8 + 6) (.string v'.s)).set (i * 8 + 7) (.int .u64 (v'.label : Int)) = (F.set i (f.1, v')).flatMap fdEnc
  | [], i, f, h => by simp at h
  | x :: F, 0, f, h => by
    simp at h
    subst h
    simp [fdEnc, vvCells]
  | x :: F, i + 1, f, h => by
    have ih := flat_set4 (v' := v') (F := F) (i := i) (f := f) (by simpa using h)
    rw [List.set_cons_succ, List.flatMap_cons, List.flatMap_cons, ← ih]
    have e : ∀ (r : Nat) (l : List Value) (u : Value), (fdEnc x ++ l).set ((i + 1) * 8 + r) u = fdEnc x ++ l.set (i * 8 + r) u := by
      intro r l u
      rw [List.set_append_right _ _ (by rw [fdEnc_len]; omega), fdEnc_len]
      congr 2
      omega
    rw [e, e, e, e]
end Go.Proofs.Ythhphjfbdoffhaa
