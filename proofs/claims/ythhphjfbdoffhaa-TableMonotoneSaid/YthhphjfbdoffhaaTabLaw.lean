/-
  Chapter 04: what the laws share: both tables in one state; what a put leaves.
-/
import Derived.Test.YthhphjfbdoffhaaTabAct
set_option linter.unusedVariables false
set_option linter.unusedSimpArgs false
namespace Go.Proofs.Ythhphjfbdoffhaa
open Go.ChangeShapes Go.WideShapes Go.ChangeAt Go.RowKit Go.Maps

theorem TaFit.up {w : World} {N N' : Nat} {a : TAct} (h : TaFit w N a) (hN : N ≤ N') : TaFit w N' a :=
  ⟨h.act, h.ctx, h.key, h.val, h.n, h.reads.mono' hN, h.sts, h.len⟩
theorem RTabIn.down {w : World} {B B' rb : Nat} {T : TabS} {fp : List Nat} (h : RTabIn w B rb T fp) (hB : B' ≤ B) : RTabIn w B' rb T fp := by
  obtain ⟨⟨fv, sv, h1, h2, h3, h4⟩, hb⟩ := h
  exact ⟨⟨fv, sv, h1, h2, own_mono h3 hB, own_mono h4 hB⟩, fun b hm => ⟨Nat.le_trans hB (hb b hm).1, (hb b hm).2⟩⟩
/-- Both tables in one state, apart from one another, all behind N; ahead of N nothing has turned since w0. -/
def Two (N : Nat) (w0 w : World) (tb rb : Nat) (T : TabS) : Prop := ∃ fp fr, TabIn w N tb T fp ∧ RTabIn w N rb T fr ∧ (∀ b ∈ fp, b ∉ fr) ∧ Below N w0 w
theorem Two.below {N : Nat} {w0 w w' : World} {tb rb : Nat} {T : TabS} (h : Two N w0 w tb rb T) (hN : N ≤ w.heap.size) (hb : Below w.heap.size w w') : Two N w0 w' tb rb T := by
  obtain ⟨fp, fr, h1, h2, h3, h4⟩ := h
  exact ⟨fp, fr, h1.kept (Fr.of_below hb []) (by simp), h2.kept (Fr.of_below hb []) (by simp), h3, h4.trans (hb.mono hN)⟩
theorem Two.size {N : Nat} {w0 w : World} {tb rb : Nat} {T : TabS} (h : Two N w0 w tb rb T) : w0.heap.size ≤ w.heap.size := by
  obtain ⟨fp, fr, h1, h2, h3, h4⟩ := h
  exact h4.size
theorem Two.before {N : Nat} {w0 w : World} {tb rb : Nat} {T : TabS} (h : Two N w0 w tb rb T) : Below N w0 w := by
  obtain ⟨fp, fr, h1, h2, h3, h4⟩ := h
  exact h4
theorem Two.start {w3 w4 : World} {tb : Nat} {fp : List Nat} {l : Nat} (h : TabIn w4 w3.heap.size tb ⟨l, [], []⟩ fp) (hb : Below w3.heap.size w3 w4) :
    Two w3.heap.size w3 (w4.alloc (.cells #[.int .u64 (l : Int), .slice none 0 0, .slice none 0 0] 50)) tb w4.heap.size ⟨l, [], []⟩ := by
  have ha := (Below.refl w4.heap.size w4).alloc (Nat.le_refl _) (.cells #[.int .u64 (l : Int), .slice none 0 0, .slice none 0 0] 50)
  refine ⟨fp, _, h.kept (Fr.of_below ha []) (by simp), (rtab_new w4 l).down hb.size, fun b hm hr => ?_, hb.trans (ha.mono hb.size)⟩
  have := (h.base b hm).2
  rw [List.mem_singleton.1 hr] at this
  omega
theorem act_two {N : Nat} {w0 w : World} {tb rb : Nat} {T : TabS} (h : Two N w0 w tb rb T) (hN : N ≤ w0.heap.size) (ok : TabOk T) (a : TAct) (ha : TaFit w0 N a) (hF : T.F.length ≤ 5000) (hS : T.S.length ≤ 5000) (hL : a.s.xs.length ≤ 5000) :
    Calls Try.prog 33 #[.pointer (some ⟨tb, 0, none⟩), .pointer (some ⟨rb, 0, none⟩), .agg (taEnc a).toArray] w fun e w' => (∃ b, e = .returned (.bool b)) ∧ Two N w0 w' tb rb (stepT T a) := by
  obtain ⟨fp, fr, h1, h2, h3, h4⟩ := h
  refine (act_any ⟨h1, h2, h3⟩ ok a (ha.below h4) hF hS hL).mono ?_
  rintro e w' ⟨hb, _, _, f, fp', fr', k1, k2, k3, k4, k5⟩
  refine ⟨hb, fp', fr', k1, k2, k5, h4.trans (f.to_below (Nat.le_trans hN h4.size) fun b hm => ?_)⟩
  rcases List.mem_append.1 hm with h | h
  · exact (h1.base b h).1
  · exact (h2.base b h).1
theorem totT_take_le (l : List TAct) (k : Nat) : totT (l.take k) ≤ totT l := by
  have : totT l = totT (l.take k) + totT (l.drop k) := by
    unfold totT
    rw [← List.sum_append, ← List.map_append, List.take_append_drop]
  omega
theorem totT_mem {l : List TAct} {a : TAct} (h : a ∈ l) : a.s.xs.length ≤ totT l := by
  induction l with
  | nil => simp at h
  | cons x l ih =>
    simp only [totT, List.map_cons, List.sum_cons] at ih ⊢
    rcases List.mem_cons.1 h with rfl | h
    · omega
    · have := ih h
      omega
/-- What is true of the state behind some calls. -/
structure Good (own n : Nat) (T : TabS) : Prop where
  ok : TabOk T
  l : T.l = own
  F : T.F.length ≤ n
  S : T.S.length ≤ n
theorem Good.step {own n : Nat} {T : TabS} (h : Good own n T) {w : World} {N : Nat} {a : TAct} (ha : TaFit w N a) : Good own (n + (10 + a.s.xs.length)) (stepT T a) := by
  obtain ⟨h1, h2, h3⟩ := stepT_len T a
  exact ⟨stepT_ok h.ok ha, h3.trans h.l, by have := h.F; omega, by have := h.S; omega⟩
theorem doPut_no {T : TabS} {c : Nat} {k v : VV} (h : (doPut T c k v).1 ≠ 0) : (doPut T c k v).2 = T := by
  unfold doPut at *
  split
  · rfl
  · rename_i h1
    rw [if_neg h1] at h
    split
    · rfl
    · rename_i h2
      rw [if_neg h2] at h
      cases hf : findF T.F k with
      | some i =>
        rw [hf] at h
        simp only at h ⊢
        cases hi : T.F[i]? with
        | none => rfl
        | some f =>
          rw [hi] at h
          simp only at h ⊢
          split
          · rename_i h3
            rw [if_pos h3] at h
            exact absurd rfl h
          · rfl
      | none =>
        rw [hf] at h
        simp only at h ⊢
        split
        · rename_i h3
          rw [if_pos h3] at h
          exact absurd rfl h
        · rfl
theorem doStamp_no {T : TabS} {L : List St} (h : (doStamp T L).1 = false) : (doStamp T L).2 = T := by
  unfold doStamp at *
  split
  · rename_i h1
    rw [if_pos h1] at h
    cases h
  · rfl
theorem get_put {T : TabS} (ok : TabOk T) {c : Nat} {k v : VV} (h : (doPut T c k v).1 = 0) : getV (doPut T c k v).2.F k = withV v (c ||| k.label) := by
  unfold doPut at *
  split
  · rename_i h1
    rw [if_pos h1] at h
    cases h
  · rename_i h1
    rw [if_neg h1] at h
    have hik : isKey k = true := by simpa using h1
    split
    · rename_i h2
      rw [if_pos h2] at h
      cases h
    · rename_i h2
      rw [if_neg h2] at h
      cases hf : findF T.F k with
      | some i =>
        rw [hf] at h
        simp only at h ⊢
        obtain ⟨_, f, hi, hs⟩ := findF_some hf
        rw [hi] at h
        simp only [hi] at h ⊢
        split
        · have hlt := (List.getElem?_eq_some_iff.1 hi).1
          have e : findF (T.F.set i (f.1, withV v (c ||| k.label))) k = some i := by
            unfold findF at hf ⊢
            rw [if_pos hik] at hf ⊢
            rw [List.findIdx?_eq_some_iff_getElem] at hf ⊢
            obtain ⟨l1, l2, l3⟩ := hf
            refine ⟨by simpa using l1, ?_, fun j hj => ?_⟩
            · rw [List.getElem_set_self]
              exact hs
            · rw [List.getElem_set_ne (by omega)]
              exact l3 j hj
          unfold getV
          rw [e]
          simp only [List.getElem?_set_self hlt]
        · rename_i h3
          rw [if_neg h3] at h
          cases h
      | none =>
        rw [hf] at h
        simp only at h ⊢
        split
        · have hno := findF_none hf hik
          have e : findF (T.F ++ [(bareV k, withV v (c ||| k.label))]) k = some T.F.length := by
            unfold findF
            rw [if_pos hik]
            refine findIdx_of (x := (bareV k, withV v (c ||| k.label))) (by simp) (sameV_self k) ?_
            intro f hfm
            rw [List.take_left'] at hfm
            · exact hno f hfm
            · rfl
          unfold getV
          rw [e]
          simp
        · rename_i h3
          rw [if_neg h3] at h
          cases h
theorem joinL2 (a b : Nat) : joinL [a, b] = a ||| b := by simp [joinL]
end Go.Proofs.Ythhphjfbdoffhaa
