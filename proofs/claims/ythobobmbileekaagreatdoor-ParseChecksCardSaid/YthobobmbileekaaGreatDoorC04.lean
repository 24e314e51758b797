/-
 ParseChecks: part 4 of what the claim rests on.
-/
import Derived.Test.YthobobmbileekaaGreatDoorC01
import Derived.Test.YthobobmbileekaaGreatDoorC03
set_option linter.unusedVariables false
set_option linter.unusedSimpArgs false
set_option maxHeartbeats 64000000
set_option maxRecDepth 100000
namespace Go.Proofs.YthobobmbileekaaGreatDoor

mutual
def deepT : PT → Nat
 | .mk _ _ _ l => deepTs l + 1
def deepTs : List PT → Nat
 | [] => 0
 | t :: r => max (deepT t) (deepTs r)
end
mutual
def dps : PT → List Nat
 | .mk _ _ _ l => dpss l ++ [deepTs l + 1]
def dpss : List PT → List Nat
 | [] => []
 | t :: r => dps t ++ dpss r
end
mutual
theorem dps_len : ∀ t : PT, (dps t).length = ptS t
 | .mk k x a l => by rw [dps, List.length_append, dpss_len l, ptS]; rfl
theorem dpss_len : ∀ l : List PT, (dpss l).length = ptsS l
 | [] => by simp [dpss, ptsS]
 | t :: r => by rw [dpss, List.length_append, dps_len t, dpss_len r, ptsS]
end
structure SubAt (b : Nat) (FL : List Nd) (DL : List Nat) (G : Nat → Prop) (i : Nat) (nd : Nd) (t : PT) (b' : Nat) : Prop where
 nd : nd = ⟨t.kind, t.text, roots b' t.kids, t.a⟩
 at_ : b' + ptsS t.kids = b + i
 lo : b ≤ b'
 fl : ∀ j, j < ptsS t.kids → FL[b' - b + j]? = (flats b' t.kids)[j]?
 dp : ∀ j, j < ptsS t.kids → DL[b' - b + j]? = (dpss t.kids)[j]?
 dl : DL[i]? = some (deepT t)
 ok : ∀ M, G M → okT M t
theorem deepT_kids (t : PT) : deepT t = deepTs t.kids + 1 := by cases t; rw [deepT]; rfl
mutual
theorem sub_t : ∀ (b : Nat) (t : PT) (i : Nat) (nd : Nd), (flat b t)[i]? = some nd → ∃ t' b', SubAt b (flat b t) (dps t) (fun M => okT M t) i nd t' b'
 | b, .mk k x a l, i, nd, h => by
  rw [flat] at h ⊢; rw [dps]
  rcases Nat.lt_or_ge i (flats b l).length with hi | hi
  ·rw [List.getElem?_append_left hi] at h
   obtain ⟨t', b', s⟩ := sub_ts b l i nd h; have hi2 : i < (dpss l).length := by rw [dpss_len]; rw [flats_len] at hi; exact hi
   have := s.at_; have := s.lo; refine ⟨t', b', s.nd, s.at_, s.lo, fun j hj => ?_, fun j hj => ?_, ?_, fun M hM => s.ok M ?_⟩
   ·rw [List.getElem?_append_left (by omega)]; exact s.fl j hj
   ·rw [List.getElem?_append_left (by omega)]; exact s.dp j hj
   ·rw [List.getElem?_append_left hi2]; exact s.dl
   ·rw [okT] at hM; exact hM.1
  ·have hi' : i = (flats b l).length := by
    have := (List.getElem?_eq_some_iff.1 h).1; rw [List.length_append, List.length_singleton] at this
    omega
   subst hi'; rw [List.getElem?_append_right znr, Nat.sub_self] at h; refine ⟨.mk k x a l, b, (Option.some.inj h).symm, by rw [flats_len]; rfl, znr, fun j hj => ?_, fun j hj => ?_, ?_, fun M hM => hM⟩
   ·rw [Nat.sub_self, Nat.zero_add, List.getElem?_append_left (by rw [flats_len]; exact hj)]; rfl
   ·rw [Nat.sub_self, Nat.zero_add, List.getElem?_append_left (by rw [dpss_len]; exact hj)]; rfl
   ·rw [List.getElem?_append_right (by rw [dpss_len, flats_len]; exact znr), dpss_len, flats_len, Nat.sub_self, deepT]; rfl
theorem sub_ts : ∀ (b : Nat) (l : List PT) (i : Nat) (nd : Nd), (flats b l)[i]? = some nd → ∃ t' b', SubAt b (flats b l) (dpss l) (fun M => okTs M l) i nd t' b'
 | b, [], i, nd, h => by simp [flats] at h
 | b, t :: r, i, nd, h => by
  rw [flats] at h ⊢; rw [dpss]
  rcases Nat.lt_or_ge i (flat b t).length with hi | hi
  ·rw [List.getElem?_append_left hi] at h
   obtain ⟨t', b', s⟩ := sub_t b t i nd h; have hi2 : i < (dps t).length := by rw [dps_len]; rw [flat_len] at hi; exact hi
   have := s.at_; have := s.lo; refine ⟨t', b', s.nd, s.at_, s.lo, fun j hj => ?_, fun j hj => ?_, ?_, fun M hM => s.ok M ?_⟩
   ·rw [List.getElem?_append_left (by omega)]; exact s.fl j hj
   ·rw [List.getElem?_append_left (by omega)]; exact s.dp j hj
   ·rw [List.getElem?_append_left hi2]; exact s.dl
   ·rw [okTs] at hM; exact hM.1
  ·rw [List.getElem?_append_right hi] at h
   obtain ⟨t', b', s⟩ := sub_ts (b + ptS t) r _ nd h; have h1 := s.at_; have h2 := s.lo; rw [flat_len] at hi h1; refine ⟨t', b', s.nd, by omega, by omega, fun j hj => ?_, fun j hj => ?_, ?_, fun M hM => s.ok M ?_⟩
   ·rw [List.getElem?_append_right (by rw [flat_len]; omega), flat_len, show b' - b + j - ptS t = b' - (b + ptS t) + j by omega]; exact s.fl j hj
   ·rw [List.getElem?_append_right (by rw [dps_len]; omega), dps_len, show b' - b + j - ptS t = b' - (b + ptS t) + j by omega]; exact s.dp j hj
   ·rw [List.getElem?_append_right (by rw [dps_len]; omega), dps_len]; have := s.dl; rw [flat_len] at this; exact this
   ·rw [okTs] at hM; exact hM.2
end
theorem root_get : ∀ (b : Nat) (l : List PT) (j : Nat) (t : PT), l[j]? = some t → ∃ k, (roots b l)[j]? = some k ∧ b ≤ k ∧ k < b + ptsS l ∧ (∃ ks a, (flats b l)[k - b]? = some ⟨t.kind, t.text, ks, a⟩ ∧ ∃ b', b ≤ b' ∧ ks = roots b' t.kids ∧ b' + ptsS t.kids = k) ∧ (dpss l)[k - b]? = some (deepT t)
 | _, [], j, t, h => by simp at h
 | b, u :: r, 0, t, h => by
  obtain rfl : u = t := by simpa using h
  have hp := ptS_pos u; refine ⟨b + ptS u - 1, by simp [roots], by omega, by rw [ptsS]; omega, ?_, ?_⟩
  ·cases u with
   | mk k x a l =>
    refine ⟨roots b l, a, ?_, b, znr, rfl, ?_⟩
    ·rw [flats, List.getElem?_append_left (by rw [flat_len]; omega), flat, ptS, show b + (ptsS l + 1) - 1 - b = ptsS l by omega, List.getElem?_append_right (by rw [flats_len]; exact znr), flats_len, Nat.sub_self]
     rfl
    ·rw [ptS]; show b + ptsS l = _; omega
  ·cases u with
   | mk k x a l =>
    rw [dpss, List.getElem?_append_left (by rw [dps_len]; omega), dps, ptS, show b + (ptsS l + 1) - 1 - b = ptsS l by omega, List.getElem?_append_right (by rw [dpss_len]; exact znr), dpss_len, Nat.sub_self, deepT]
    rfl
 | b, u :: r, j + 1, t, h => by
  obtain ⟨k, h1, h2, h3, ⟨ks, a, h4, b', h6, h7, h8⟩, h5⟩ := root_get (b + ptS u) r j t (by simpa using h); refine ⟨k, by rw [roots]; simpa using h1, by omega, by rw [ptsS]; omega, ⟨ks, a, ?_, b', by omega, h7, h8⟩, ?_⟩
  ·rw [flats, List.getElem?_append_right (by rw [flat_len]; omega), flat_len, show k - b - ptS u = k - (b + ptS u) by omega]; exact h4
  ·rw [dpss, List.getElem?_append_right (by rw [dps_len]; omega), dps_len, show k - b - ptS u = k - (b + ptS u) by omega]; exact h5
def maxL (l : List Nat) : Nat := l.foldl max 0
theorem foldl_max (l : List Nat) : ∀ a, l.foldl max a = max a (l.foldl max 0) := by
 induction l with
 | nil => intro a; simp
 | cons x r ih =>
  intro a; rw [List.foldl_cons, List.foldl_cons, ih (max a x), ih (max 0 x)]
  omega
theorem deepTs_max : ∀ l : List PT, deepTs l = maxL (l.map deepT)
 | [] => by rw [deepTs]; rfl
 | t :: r => by
  rw [deepTs, deepTs_max r]; unfold maxL; rw [List.map_cons, List.foldl_cons, foldl_max _ (max 0 (deepT t))]
  omega
mutual
theorem kids_t : ∀ (b : Nat) (t : PT), ((flat b t).flatMap Nd.kids ++ [b + ptS t - 1]).Perm (List.range' b (ptS t))
 | b, .mk k x a l => by
  rw [flat, ptS, List.flatMap_append, show b + (ptsS l + 1) - 1 = b + ptsS l by omega, List.range'_concat, Nat.one_mul]; refine List.Perm.append ?_ (List.Perm.refl _); have := kids_ts b l
  simpa using this
theorem kids_ts : ∀ (b : Nat) (l : List PT), ((flats b l).flatMap Nd.kids ++ roots b l).Perm (List.range' b (ptsS l))
 | b, [] => by simp [flats, roots, ptsS]
 | b, t :: r => by
  rw [flats, roots, ptsS, List.flatMap_append, ← List.range'_append, Nat.one_mul]; have h1 := kids_t b t; have h2 := kids_ts (b + ptS t) r; have h3 := List.Perm.append h1 h2; refine List.Perm.trans ?_ h3; rw [List.append_assoc, List.append_assoc]; refine List.Perm.append (List.Perm.refl _) ?_; rw [List.singleton_append]; exact List.perm_middle
end
theorem kids_all (t : PT) : ((flat 0 t).flatMap Nd.kids ++ [ptS t - 1]).Perm (List.range (ptS t)) := by
 have := kids_t 0 t
 rw [Nat.zero_add, ← List.range_eq_range'] at this
 exact this
theorem kids_nodup (t : PT) : ((flat 0 t).flatMap Nd.kids).Nodup := (List.nodup_append.1 ((kids_all t).nodup_iff.2 List.nodup_range)).1
theorem kids_mem (t : PT) {n : Nat} (hn : n < ptS t) : n ∈ (flat 0 t).flatMap Nd.kids ↔ n ≠ ptS t - 1 := by
 have h1 := kids_all t
 have h2 : n ∈ (flat 0 t).flatMap Nd.kids ++ [ptS t - 1] := h1.mem_iff.2 (List.mem_range.2 hn)
 have h3 := (List.nodup_append.1 (h1.nodup_iff.2 List.nodup_range)).2.2
 rw [List.mem_append] at h2
 constructor
 ·intro h e
  exact h3 n h n (by rw [e]; simp) rfl
 ·intro h
  rcases h2 with h2 | h2
  ·exact h2
  ·exact absurd (List.mem_singleton.1 h2) h
def Nd.k3 (x : Nd) : Int × ByteArray × List Nat := (x.kind, x.text, x.kids)
def ChanOk (M : Nat) (seen : List Int) (l : List PT) : Prop := seen.Nodup ∧ l.length = seen.length ∧ ∀ (j : Nat) (t : PT) (n : Int), l[j]? = some t → seen[j]? = some n → 0 ≤ n ∧ n ≤ 7 ∧ okT M t ∧ t.kind = 2 ∧ ∃ m, t.text = numText n ++ m
section
variable {T : List Tok} {M : Nat}
theorem good_chans (h : TokOk T M) : ∀ (f : Nat) (seen : List Int) (acc : List PT) (i : Nat), i < T.length → ChanOk M seen acc → Sat (f < T.length - i + 1) (ErrP M) (fun l j => (∃ seen', ChanOk M seen' l) ∧ i ≤ j ∧ j < T.length ∧ ptsS l ≤ ptsS acc + (j - i)) (chansF T f seen acc i)
 | 0, seen, acc, i, hi, hc => by show 0 < T.length - i + 1; omega
 | f + 1, seen, acc, i, hi, hc => by
  rw [chansF]; refine Sat.ite (fun h1 => ?_) fun _ => Sat.ok ⟨⟨seen, hc⟩, znr, hi, by omega⟩; have h2 := any_lt h hi h1; refine Sat.token h h2 (by decide) fun h3 h4 => Sat.ite (fun _ => ⟨h.place _, .inl rfl⟩) fun h5 => Sat.need h h4 fun h6 h7 => Sat.mask h h7 fun m j hm hj1 hj2 => ?_; have hn0 : 0 ≤ (tk T (i + 1)).n := by omega
  have hn7 : (tk T (i + 1)).n ≤ 7 := by omega
  have hns : (tk T (i + 1)).n ∉ seen := fun e => h5 (.inr (.inr e)); refine (good_chans h f _ _ j hj2 ?_).mono (fun hf => by omega) fun l j2 hl => ⟨hl.1, by omega, hl.2.2.1, ?_⟩
  ·refine ⟨?_, by rw [List.length_append, List.length_append, hc.2.1]; rfl, fun k t n hk hn => ?_⟩
   ·rw [List.nodup_append]
    exact ⟨hc.1, by simp, fun a ha b hb e => hns (by rw [← List.mem_singleton.1 hb, ← e]; exact ha)⟩
   ·rcases Nat.lt_or_ge k acc.length with hkl | hkl
    ·rw [List.getElem?_append_left hkl] at hk
     rw [List.getElem?_append_left (by rw [← hc.2.1]; exact hkl)] at hn; exact hc.2.2 k t n hk hn
    ·rw [List.getElem?_append_right hkl] at hk
     rw [List.getElem?_append_right (by rw [← hc.2.1]; exact hkl), ← hc.2.1] at hn; have hk0 : k - acc.length = 0 := by
      have := (List.getElem?_eq_some_iff.1 hk).1; rw [List.length_singleton] at this
      omega
     rw [hk0] at hk hn; obtain rfl := Option.some.inj hk; obtain rfl := Option.some.inj hn; refine ⟨hn0, hn7, okT_leaf (by decide) rfl ?_ (by decide) (h.place i), rfl, ⟨#[32]⟩ ++ m, by rw [← ByteArray.append_assoc]; rfl⟩; unfold TextK; rw [if_neg (by decide), if_neg (by decide), if_pos rfl]; exact ⟨_, hn0, hn7, m, hm, rfl⟩
  ·have := hl.2.2.2
   rw [ptsS_append, ptsS_one, ptS, ptsS] at this
   omega
def roundsF (T : List Tok) : Nat := 20 * T.length + 40
theorem good_prog (h : TokOk T M) : Sat False (ErrP M) (fun t _ => okT M t ∧ t.kind = 1 ∧ ptS t ≤ 4 * T.length + 1) (progF T (roundsF T)) := by
 unfold progF
 have h0 : 0 < T.length := h.len
 refine Sat.then (good_chans h _ [] [] 0 h0 ⟨List.nodup_nil, rfl, fun j t n hj => by simp at hj⟩) (fun hf => by unfold roundsF at hf; omega) fun l i hl => ?_
 obtain ⟨⟨seen, hc⟩, _, hi, hsz⟩ := hl
 have hfit := (fit_all h (roundsF T)).one .block 0 i hi
 match hX : (parF T (roundsF T)).one .block 0 i with
 | none =>
  have := (good_all h (roundsF T)).one .block 0 i hi trivial; rw [hX] at this; have h2 : roundsF T < reach1 T i .block := this; simp only [reach1, lev1, roundsF] at h2
  omega
 | some (.bad a e) =>
  have := (good_all h (roundsF T)).one .block 0 i hi trivial; rw [hX] at this; exact this
 | some (.ok b j) =>
  have := (good_all h (roundsF T)).one .block 0 i hi trivial; rw [hX] at this hfit; obtain ⟨hb1, hb2, hb3, hb4⟩ := this; obtain ⟨_, hf2, hf3⟩ := hfit; simp only [lazy1, sl1, ex1, if_true] at hf2 hf3
  dsimp only [Res.then]
  unfold token; refine Sat.ite (fun _ => Sat.ok ?_) fun _ => ⟨h.place j, .inl rfl⟩; refine ⟨okT_mk (fun t ht => ?_) ⟨by decide, by decide, ?_, ?_, ?_⟩ (Nat.zero_le _), rfl, ?_⟩
  ·rcases List.mem_append.1 ht with ht | ht
   ·obtain ⟨k, hk, hk2⟩ := List.getElem_of_mem ht
    have hks : k < seen.length := by rw [← hc.2.1]; exact hk
    exact (hc.2.2 k t seen[k] (by rw [← hk2]; exact List.getElem?_eq_getElem hk) (List.getElem?_eq_getElem hks)).2.2.1
   ·rw [List.mem_singleton.1 ht]; exact hb1
  ·have hkk := kids_row (k := 1) (l := l.map PT.kind) (B := [3]) (y := .h) rfl rfl (fun x hx => by
    obtain ⟨t, ht, rfl⟩ := List.mem_map.1 hx; obtain ⟨k, hk, hk2⟩ := List.getElem_of_mem ht; have hks : k < seen.length := by rw [← hc.2.1]; exact hk
    exact (hc.2.2 k t seen[k] (by rw [← hk2]; exact List.getElem?_eq_getElem hk) (List.getElem?_eq_getElem hks)).2.2.2.1) ⟨rfl, rfl⟩
   rw [List.map_append, List.map_singleton, show b.kind = 3 from hb2]; exact hkk
  ·simp [TextK]
  ·refine ⟨fun e => absurd e (by decide), fun e => absurd e (by decide), fun e => absurd e (by decide), fun e => absurd e (by decide), fun _ => ⟨seen, hc.1, by rw [List.dropLast_concat]; exact hc.2.1, fun j t n hj hn => ?_⟩⟩
   rw [List.dropLast_concat] at hj; have := hc.2.2 j t n hj hn; exact ⟨this.1, this.2.1, this.2.2.2.2⟩
  ·rw [ptS, ptsS_append, ptsS_one]
   have : ptsS ([] : List PT) = 0 := by rw [ptsS]
   omega
end
def parseL (s : List UInt8) : (Nat × Nat) ⊕ PT :=
 match scanL s with
 | .inl (p, e) => .inl (p, e)
 | .inr T => match progF T (roundsF T) with
  | none => .inl (0, 0)
  | some (.bad a e) => .inl (a, e)
  | some (.ok t _) => if 50000 < ptS t then .inl (0, 2) else if 200 < deepT t then .inl (0, 61) else .inr t
end Go.Proofs.YthobobmbileekaaGreatDoor
