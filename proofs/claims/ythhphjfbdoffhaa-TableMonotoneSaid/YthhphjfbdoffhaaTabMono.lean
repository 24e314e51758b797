/-
  Chapter 04: what a call never takes away from a table, plainly.
-/
import Derived.Test.YthhphjfbdoffhaaTabLaw
set_option linter.unusedVariables false
set_option linter.unusedSimpArgs false
namespace Go.Proofs.Ythhphjfbdoffhaa
open Go.ChangeShapes Go.WideShapes Go.ChangeAt Go.RowKit Go.Maps

/-- All bits of the one are bits of the other. -/
def SubB (x y : Int) : Prop := ∀ i, (BitVec.ofInt 64 x).getLsbD i = true → (BitVec.ofInt 64 y).getLsbD i = true
theorem ofInt_wrap (r : BitVec 64) : BitVec.ofInt 64 (IntKind.i64.wrap (r.toNat : Int)) = r := by
  apply BitVec.eq_of_toNat_eq
  rw [BitVec.toNat_ofInt, IntKind.wrap_i64]
  have := r.isLt
  omega
theorem subB_and {x y : Int} (s : Int) (h : SubB x y) : SubB (bits .and .i64 x s) y := by
  intro i hi
  have e : BitVec.ofInt 64 (bits .and .i64 x s) = BitVec.ofInt 64 x &&& BitVec.ofInt 64 s := ofInt_wrap (BitVec.ofInt 64 x &&& BitVec.ofInt 64 s)
  rw [e, BitVec.getLsbD_and] at hi
  exact h i (by simp at hi; exact hi.1)
theorem subB_zero {x y : Int} (h : SubB x y) : bits .andNot .i64 x y = 0 := by
  have e : BitVec.ofInt 64 x &&& ~~~(BitVec.ofInt 64 y) = 0#64 := by
    apply BitVec.eq_of_getLsbD_eq
    intro i hi
    rw [BitVec.getLsbD_and, BitVec.getLsbD_not]
    cases hx : (BitVec.ofInt 64 x).getLsbD i
    · simp
    · simp [h i hx]
  show IntKind.i64.wrap ((BitVec.ofInt 64 x &&& ~~~(BitVec.ofInt 64 y)).toNat : Nat) = 0
  rw [e]
  rfl
def MonoS (S S' : List St) : Prop := ∀ (i : Nat) (s : St), S[i]? = some s → ∃ s', S'[i]? = some s' ∧ s'.1 = s.1 ∧ SubB s'.2 s.2
theorem MonoS.refl (S : List St) : MonoS S S := fun i s h => ⟨s, h, rfl, fun _ h => h⟩
theorem MonoS.trans {S S' S'' : List St} (h : MonoS S S') (k : MonoS S' S'') : MonoS S S'' := fun i s hs => by
  obtain ⟨a, h1, h2, h3⟩ := h i s hs
  obtain ⟨b, k1, k2, k3⟩ := k i a h1
  exact ⟨b, k1, k2.trans h2, fun j hj => h3 j (k3 j hj)⟩
theorem withS_mono (S : List St) (t : St) : MonoS S (withS S t) := by
  intro i s hs
  unfold withS
  split
  · refine ⟨if s.1.toList = t.1.toList then (s.1, bits .and .i64 s.2 t.2) else s, by rw [List.getElem?_map, hs]; rfl, ?_⟩
    split
    · exact ⟨rfl, subB_and _ fun _ h => h⟩
    · exact ⟨rfl, fun _ h => h⟩
  · exact ⟨s, by rw [List.getElem?_append_left (List.getElem?_eq_some_iff.1 hs).1]; exact hs, rfl, fun _ h => h⟩
theorem stamped_mono (S L : List St) : MonoS S (stamped S L) := by
  unfold stamped
  induction L generalizing S with
  | nil => exact MonoS.refl S
  | cons t L ih => exact (withS_mono S t).trans (ih (withS S t))
def MonoF (F F' : List Fd) : Prop := ∀ (i : Nat) (f : Fd), F[i]? = some f → ∃ g, F'[i]? = some g ∧ g.1 = f.1
theorem MonoF.refl (F : List Fd) : MonoF F F := fun i f h => ⟨f, h, rfl⟩
theorem doPut_mono (T : TabS) (c : Nat) (k v : VV) : MonoF T.F (doPut T c k v).2.F := by
  unfold doPut
  split
  · exact MonoF.refl _
  · split
    · exact MonoF.refl _
    · split
      · rename_i i _
        split
        · rename_i f hf
          split
          · intro j g hj
            show ∃ g', (T.F.set i (f.1, withV v (c ||| k.label)))[j]? = some g' ∧ g'.1 = g.1
            rw [List.getElem?_set]
            split
            · rename_i e
              subst e
              rw [hf] at hj
              cases hj
              rw [if_pos (List.getElem?_eq_some_iff.1 hf).1]
              exact ⟨_, rfl, rfl⟩
            · exact ⟨g, hj, rfl⟩
          · exact MonoF.refl _
        · exact MonoF.refl _
      · split
        · intro j g hj
          exact ⟨g, by show (T.F ++ _)[j]? = some g; rw [List.getElem?_append_left (List.getElem?_eq_some_iff.1 hj).1]; exact hj, rfl⟩
        · exact MonoF.refl _
theorem stepT_mono (T : TabS) (a : TAct) : MonoF T.F (stepT T a).F ∧ MonoS T.S (stepT T a).S := by
  unfold stepT
  split
  · refine ⟨doPut_mono _ _ _ _, ?_⟩
    rw [(doPut_len T a.ctx a.key a.val).2.1]
    exact MonoS.refl _
  · split
    · exact ⟨MonoF.refl _, MonoS.refl _⟩
    · split
      · exact ⟨MonoF.refl _, MonoS.refl _⟩
      · rw [(doStamp_len T a.s.xs).1]
        refine ⟨MonoF.refl _, ?_⟩
        unfold doStamp
        split
        · exact stamped_mono _ _
        · exact MonoS.refl _
theorem monoF_len {F F' : List Fd} (h : MonoF F F') : F.length ≤ F'.length := by
  rcases Nat.lt_or_ge F'.length F.length with hlt | hge
  · obtain ⟨g, h1, _⟩ := h F'.length _ (List.getElem?_eq_getElem hlt)
    have := (List.getElem?_eq_some_iff.1 h1).1
    omega
  · exact hge
theorem monoS_len {S S' : List St} (h : MonoS S S') : S.length ≤ S'.length := by
  rcases Nat.lt_or_ge S'.length S.length with hlt | hge
  · obtain ⟨g, h1, _⟩ := h S'.length _ (List.getElem?_eq_getElem hlt)
    have := (List.getElem?_eq_some_iff.1 h1).1
    omega
  · exact hge
theorem str_key (nm : ByteArray) : isKey ⟨3, 0, nm, 0⟩ = true := by
  unfold isKey checkV
  simp
theorem key_str {v : VV} (h : isKey v = true) (hk : v.kind = 3) : v.n = 0 := by
  unfold isKey checkV at h
  simp [hk] at h
  exact h
/-- A stamped field has a kind that may be. -/
theorem stamp_kind {T : TabS} (ok : TabOk T) {s : St} (hs : s ∈ T.S) (l : Nat) : ∃ n : Nat, n ≤ 62 ∧ (withV (getV T.F ⟨3, 0, s.1, 0⟩) l).kind = (n : Int) ∧ bits .and .i64 (s.2 / 2 ^ n) 1 = 1 := by
  obtain ⟨f, hf, h1, h2, h3⟩ := ok.st s hs
  obtain ⟨i, hi⟩ := List.getElem?_of_mem hf
  have hsm : sameV f.1 ⟨3, 0, s.1, 0⟩ = true := (sameV_iff _ _).2 ⟨h1, key_str (ok.key f hf) h1, h2⟩
  have hg : getV T.F ⟨3, 0, s.1, 0⟩ = f.2 := by
    unfold getV findF
    rw [if_pos (str_key s.1), find_unique ok.dF hi hsm]
    simp only [hi]
  rw [hg]
  unfold fitsB at h3
  simp only [Bool.and_eq_true, decide_eq_true_eq, beq_iff_eq] at h3
  refine ⟨f.2.kind.toNat, by omega, by show f.2.kind = _; omega, ?_⟩
  rw [i64_and1]
  exact h3.2
end Go.Proofs.Ythhphjfbdoffhaa
