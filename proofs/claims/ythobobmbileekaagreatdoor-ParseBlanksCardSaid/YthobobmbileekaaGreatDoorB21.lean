/-
 ParseBlanks: part 21 of what the claim rests on.
-/
import Derived.Test.YthobobmbileekaaGreatDoorB02
import Derived.Test.YthobobmbileekaaGreatDoorB05
import Derived.Test.YthobobmbileekaaGreatDoorB06
import Derived.Test.YthobobmbileekaaGreatDoorB08
import Derived.Test.YthobobmbileekaaGreatDoorB09
import Derived.Test.YthobobmbileekaaGreatDoorB20
import Derived.Lib.ItoaLen
import Derived.BigQuiet
import Derived.Laws.OwnMore
import Derived.OwnWalk
set_option linter.unusedVariables false
set_option linter.unusedSimpArgs false
set_option maxHeartbeats 64000000
namespace Go.Proofs.YthobobmbileekaaGreatDoor

mutual
def deepT : PT → Nat
 | .mk _ _ _ l => deepTs l + 1
def deepTs : List PT → Nat
 | [] => 0
 | t :: r => max (deepT t) (deepTs r)
end
mutual
def dps : PT → List Nat
 | .mk _ _ _ l => dpss l ++ [deepTs l + 1]
def dpss : List PT → List Nat
 | [] => []
 | t :: r => dps t ++ dpss r
end
mutual
theorem dps_len : ∀ t : PT, (dps t).length = ptS t
 | .mk k x a l => by rw [dps, List.length_append, dpss_len l, ptS]; rfl
theorem dpss_len : ∀ l : List PT, (dpss l).length = ptsS l
 | [] => by simp [dpss, ptsS]
 | t :: r => by rw [dpss, List.length_append, dps_len t, dpss_len r, ptsS]
end
structure SubAt (b : Nat) (FL : List Nd) (DL : List Nat) (G : Nat → Prop) (i : Nat) (nd : Nd) (t : PT) (b' : Nat) : Prop where
 nd : nd = ⟨t.kind, t.text, roots b' t.kids, t.a⟩
 at_ : b' + ptsS t.kids = b + i
 lo : b ≤ b'
 fl : ∀ j, j < ptsS t.kids → FL[b' - b + j]? = (flats b' t.kids)[j]?
 dp : ∀ j, j < ptsS t.kids → DL[b' - b + j]? = (dpss t.kids)[j]?
 dl : DL[i]? = some (deepT t)
 ok : ∀ M, G M → okT M t
theorem deepT_kids (t : PT) : deepT t = deepTs t.kids + 1 := by cases t; rw [deepT]; rfl
mutual
theorem sub_t : ∀ (b : Nat) (t : PT) (i : Nat) (nd : Nd), (flat b t)[i]? = some nd → ∃ t' b', SubAt b (flat b t) (dps t) (fun M => okT M t) i nd t' b'
 | b, .mk k x a l, i, nd, h => by
  rw [flat] at h ⊢
  rw [dps]
  rcases Nat.lt_or_ge i (flats b l).length with hi | hi
  ·rw [List.getElem?_append_left hi] at h
   obtain ⟨t', b', s⟩ := sub_ts b l i nd h
   have hi2 : i < (dpss l).length := by rw [dpss_len]; rw [flats_len] at hi; exact hi
   have := s.at_
   have := s.lo
   refine ⟨t', b', s.nd, s.at_, s.lo, fun j hj => ?_, fun j hj => ?_, ?_, fun M hM => s.ok M ?_⟩
   ·rw [List.getElem?_append_left (by omega)]; exact s.fl j hj
   ·rw [List.getElem?_append_left (by omega)]; exact s.dp j hj
   ·rw [List.getElem?_append_left hi2]; exact s.dl
   ·rw [okT] at hM; exact hM.1
  ·have hi' : i = (flats b l).length := by
    have := (List.getElem?_eq_some_iff.1 h).1
    rw [List.length_append, List.length_singleton] at this
    omega
   subst hi'
   rw [List.getElem?_append_right (Nat.le_refl _), Nat.sub_self] at h
   refine ⟨.mk k x a l, b, (Option.some.inj h).symm, by rw [flats_len]; rfl, Nat.le_refl _, fun j hj => ?_, fun j hj => ?_, ?_, fun M hM => hM⟩
   ·rw [Nat.sub_self, Nat.zero_add, List.getElem?_append_left (by rw [flats_len]; exact hj)]; rfl
   ·rw [Nat.sub_self, Nat.zero_add, List.getElem?_append_left (by rw [dpss_len]; exact hj)]; rfl
   ·rw [List.getElem?_append_right (by rw [dpss_len, flats_len]; exact Nat.le_refl _), dpss_len, flats_len, Nat.sub_self, deepT]; rfl
theorem sub_ts : ∀ (b : Nat) (l : List PT) (i : Nat) (nd : Nd), (flats b l)[i]? = some nd → ∃ t' b', SubAt b (flats b l) (dpss l) (fun M => okTs M l) i nd t' b'
 | b, [], i, nd, h => by simp [flats] at h
 | b, t :: r, i, nd, h => by
  rw [flats] at h ⊢
  rw [dpss]
  rcases Nat.lt_or_ge i (flat b t).length with hi | hi
  ·rw [List.getElem?_append_left hi] at h
   obtain ⟨t', b', s⟩ := sub_t b t i nd h
   have hi2 : i < (dps t).length := by rw [dps_len]; rw [flat_len] at hi; exact hi
   have := s.at_
   have := s.lo
   refine ⟨t', b', s.nd, s.at_, s.lo, fun j hj => ?_, fun j hj => ?_, ?_, fun M hM => s.ok M ?_⟩
   ·rw [List.getElem?_append_left (by omega)]; exact s.fl j hj
   ·rw [List.getElem?_append_left (by omega)]; exact s.dp j hj
   ·rw [List.getElem?_append_left hi2]; exact s.dl
   ·rw [okTs] at hM; exact hM.1
  ·rw [List.getElem?_append_right hi] at h
   obtain ⟨t', b', s⟩ := sub_ts (b + ptS t) r _ nd h
   have h1 := s.at_
   have h2 := s.lo
   rw [flat_len] at hi h1
   refine ⟨t', b', s.nd, by omega, by omega, fun j hj => ?_, fun j hj => ?_, ?_, fun M hM => s.ok M ?_⟩
   ·rw [List.getElem?_append_right (by rw [flat_len]; omega), flat_len, show b' - b + j - ptS t = b' - (b + ptS t) + j by omega]; exact s.fl j hj
   ·rw [List.getElem?_append_right (by rw [dps_len]; omega), dps_len, show b' - b + j - ptS t = b' - (b + ptS t) + j by omega]; exact s.dp j hj
   ·rw [List.getElem?_append_right (by rw [dps_len]; omega), dps_len]; have := s.dl; rw [flat_len] at this; exact this
   ·rw [okTs] at hM; exact hM.2
end
theorem root_get : ∀ (b : Nat) (l : List PT) (j : Nat) (t : PT), l[j]? = some t → ∃ k, (roots b l)[j]? = some k ∧ b ≤ k ∧ k < b + ptsS l ∧ (∃ ks a, (flats b l)[k - b]? = some ⟨t.kind, t.text, ks, a⟩ ∧ ∃ b', b ≤ b' ∧ ks = roots b' t.kids ∧ b' + ptsS t.kids = k) ∧ (dpss l)[k - b]? = some (deepT t)
 | _, [], j, t, h => by simp at h
 | b, u :: r, 0, t, h => by
  obtain rfl : u = t := by simpa using h
  have hp := ptS_pos u
  refine ⟨b + ptS u - 1, by simp [roots], by omega, by rw [ptsS]; omega, ?_, ?_⟩
  ·cases u with
   | mk k x a l =>
    refine ⟨roots b l, a, ?_, b, Nat.le_refl _, rfl, ?_⟩
    ·rw [flats, List.getElem?_append_left (by rw [flat_len]; omega), flat, ptS, show b + (ptsS l + 1) - 1 - b = ptsS l by omega, List.getElem?_append_right (by rw [flats_len]; exact Nat.le_refl _), flats_len, Nat.sub_self]
     rfl
    ·rw [ptS]; show b + ptsS l = _; omega
  ·cases u with
   | mk k x a l =>
    rw [dpss, List.getElem?_append_left (by rw [dps_len]; omega), dps, ptS, show b + (ptsS l + 1) - 1 - b = ptsS l by omega, List.getElem?_append_right (by rw [dpss_len]; exact Nat.le_refl _), dpss_len, Nat.sub_self, deepT]
    rfl
 | b, u :: r, j + 1, t, h => by
  obtain ⟨k, h1, h2, h3, ⟨ks, a, h4, b', h6, h7, h8⟩, h5⟩ := root_get (b + ptS u) r j t (by simpa using h)
  refine ⟨k, by rw [roots]; simpa using h1, by omega, by rw [ptsS]; omega, ⟨ks, a, ?_, b', by omega, h7, h8⟩, ?_⟩
  ·rw [flats, List.getElem?_append_right (by rw [flat_len]; omega), flat_len, show k - b - ptS u = k - (b + ptS u) by omega]; exact h4
  ·rw [dpss, List.getElem?_append_right (by rw [dps_len]; omega), dps_len, show k - b - ptS u = k - (b + ptS u) by omega]; exact h5
def maxL (l : List Nat) : Nat := l.foldl max 0
theorem foldl_max (l : List Nat) : ∀ a, l.foldl max a = max a (l.foldl max 0) := by
 induction l with
 | nil => intro a; simp
 | cons x r ih =>
  intro a
  rw [List.foldl_cons, List.foldl_cons, ih (max a x), ih (max 0 x)]
  omega
theorem deepTs_max : ∀ l : List PT, deepTs l = maxL (l.map deepT)
 | [] => by rw [deepTs]; rfl
 | t :: r => by
  rw [deepTs, deepTs_max r]
  unfold maxL
  rw [List.map_cons, List.foldl_cons, foldl_max _ (max 0 (deepT t))]
  omega
mutual
theorem kids_t : ∀ (b : Nat) (t : PT), ((flat b t).flatMap Nd.kids ++ [b + ptS t - 1]).Perm (List.range' b (ptS t))
 | b, .mk k x a l => by
  rw [flat, ptS, List.flatMap_append, show b + (ptsS l + 1) - 1 = b + ptsS l by omega, List.range'_concat, Nat.one_mul]
  refine List.Perm.append ?_ (List.Perm.refl _)
  have := kids_ts b l
  simpa using this
theorem kids_ts : ∀ (b : Nat) (l : List PT), ((flats b l).flatMap Nd.kids ++ roots b l).Perm (List.range' b (ptsS l))
 | b, [] => by simp [flats, roots, ptsS]
 | b, t :: r => by
  rw [flats, roots, ptsS, List.flatMap_append, ← List.range'_append, Nat.one_mul]
  have h1 := kids_t b t
  have h2 := kids_ts (b + ptS t) r
  have h3 := List.Perm.append h1 h2
  refine List.Perm.trans ?_ h3
  rw [List.append_assoc, List.append_assoc]
  refine List.Perm.append (List.Perm.refl _) ?_
  rw [List.singleton_append]
  exact List.perm_middle
end
theorem kids_all (t : PT) : ((flat 0 t).flatMap Nd.kids ++ [ptS t - 1]).Perm (List.range (ptS t)) := by
 have := kids_t 0 t
 rw [Nat.zero_add, ← List.range_eq_range'] at this
 exact this
def Nd.k3 (x : Nd) : Int × ByteArray × List Nat := (x.kind, x.text, x.kids)
mutual
theorem zp_size : ∀ t : PT, ptS (zp t) = ptS t
 | .mk k x a l => by rw [zp, ptS, ptS, zps_size l]
theorem zps_size : ∀ l : List PT, ptsS (zps l) = ptsS l
 | [] => by rw [zps]
 | t :: r => by rw [zps, ptsS, ptsS, zp_size t, zps_size r]
end
theorem zps_roots : ∀ (b : Nat) (l : List PT), roots b (zps l) = roots b l
 | _, [] => by rw [zps]
 | b, t :: r => by rw [zps, roots, roots, zp_size, zps_roots]
mutual
theorem zp_flat : ∀ (b : Nat) (t : PT), (flat b (zp t)).map Nd.k3 = (flat b t).map Nd.k3
 | b, .mk k x a l => by rw [zp, flat, flat, List.map_append, List.map_append, zps_flat b l, zps_roots]; rfl
theorem zps_flat : ∀ (b : Nat) (l : List PT), (flats b (zps l)).map Nd.k3 = (flats b l).map Nd.k3
 | _, [] => by rw [zps]
 | b, t :: r => by rw [zps, flats, flats, List.map_append, List.map_append, zp_flat b t, zp_size, zps_flat _ r]
end
mutual
theorem zp_deep : ∀ t : PT, deepT (zp t) = deepT t
 | .mk k x a l => by rw [zp, deepT, deepT, zps_deep l]
theorem zps_deep : ∀ l : List PT, deepTs (zps l) = deepTs l
 | [] => by rw [zps]
 | t :: r => by rw [zps, deepTs, deepTs, zp_deep t, zps_deep r]
end
def ChanOk (M : Nat) (seen : List Int) (l : List PT) : Prop := seen.Nodup ∧ l.length = seen.length ∧ ∀ (j : Nat) (t : PT) (n : Int), l[j]? = some t → seen[j]? = some n → 0 ≤ n ∧ n ≤ 7 ∧ okT M t ∧ t.kind = 2 ∧ ∃ m, t.text = numText n ++ m
section
variable {T : List Tok} {M : Nat}
theorem good_chans (h : TokOk T M) : ∀ (f : Nat) (seen : List Int) (acc : List PT) (i : Nat), i < T.length → ChanOk M seen acc → Sat (f < T.length - i + 1) (ErrP M) (fun l j => (∃ seen', ChanOk M seen' l) ∧ i ≤ j ∧ j < T.length ∧ ptsS l ≤ ptsS acc + (j - i)) (chansF T f seen acc i)
 | 0, seen, acc, i, hi, hc => by show 0 < T.length - i + 1; omega
 | f + 1, seen, acc, i, hi, hc => by
  rw [chansF]
  refine Sat.ite (fun h1 => ?_) fun _ => Sat.ok ⟨⟨seen, hc⟩, Nat.le_refl _, hi, by omega⟩
  have h2 := any_lt h hi h1
  refine Sat.token h h2 (by decide) fun h3 h4 => Sat.ite (fun _ => ⟨h.place _, .inl rfl⟩) fun h5 => Sat.need h h4 fun h6 h7 => Sat.mask h h7 fun m j hm hj1 hj2 => ?_
  have hn0 : 0 ≤ (tk T (i + 1)).n := by omega
  have hn7 : (tk T (i + 1)).n ≤ 7 := by omega
  have hns : (tk T (i + 1)).n ∉ seen := fun e => h5 (.inr (.inr e))
  refine (good_chans h f _ _ j hj2 ?_).mono (fun hf => by omega) fun l j2 hl => ⟨hl.1, by omega, hl.2.2.1, ?_⟩
  ·refine ⟨?_, by rw [List.length_append, List.length_append, hc.2.1]; rfl, fun k t n hk hn => ?_⟩
   ·rw [List.nodup_append]
    exact ⟨hc.1, by simp, fun a ha b hb e => hns (by rw [← List.mem_singleton.1 hb, ← e]; exact ha)⟩
   ·rcases Nat.lt_or_ge k acc.length with hkl | hkl
    ·rw [List.getElem?_append_left hkl] at hk
     rw [List.getElem?_append_left (by rw [← hc.2.1]; exact hkl)] at hn
     exact hc.2.2 k t n hk hn
    ·rw [List.getElem?_append_right hkl] at hk
     rw [List.getElem?_append_right (by rw [← hc.2.1]; exact hkl), ← hc.2.1] at hn
     have hk0 : k - acc.length = 0 := by
      have := (List.getElem?_eq_some_iff.1 hk).1
      rw [List.length_singleton] at this
      omega
     rw [hk0] at hk hn
     obtain rfl := Option.some.inj hk
     obtain rfl := Option.some.inj hn
     refine ⟨hn0, hn7, okT_leaf (by decide) rfl ?_ (by decide) (h.place i), rfl, ⟨#[32]⟩ ++ m, by rw [← ByteArray.append_assoc]; rfl⟩
     unfold TextK
     rw [if_neg (by decide), if_neg (by decide), if_pos rfl]
     exact ⟨_, hn0, hn7, m, hm, rfl⟩
  ·have := hl.2.2.2
   rw [ptsS_append, ptsS_one, ptS, ptsS] at this
   omega
def roundsF (T : List Tok) : Nat := 20 * T.length + 40
theorem good_prog (h : TokOk T M) : Sat False (ErrP M) (fun t _ => okT M t ∧ t.kind = 1 ∧ ptS t ≤ 4 * T.length + 1) (progF T (roundsF T)) := by
 unfold progF
 have h0 : 0 < T.length := h.len
 refine Sat.then (good_chans h _ [] [] 0 h0 ⟨List.nodup_nil, rfl, fun j t n hj => by simp at hj⟩) (fun hf => by unfold roundsF at hf; omega) fun l i hl => ?_
 obtain ⟨⟨seen, hc⟩, _, hi, hsz⟩ := hl
 have hfit := (fit_all h (roundsF T)).one .block 0 i hi
 match hX : (parF T (roundsF T)).one .block 0 i with
 | none =>
  have := (good_all h (roundsF T)).one .block 0 i hi trivial
  rw [hX] at this
  have h2 : roundsF T < reach1 T i .block := this
  simp only [reach1, lev1, roundsF] at h2
  omega
 | some (.bad a e) =>
  have := (good_all h (roundsF T)).one .block 0 i hi trivial
  rw [hX] at this
  exact this
 | some (.ok b j) =>
  have := (good_all h (roundsF T)).one .block 0 i hi trivial
  rw [hX] at this hfit
  obtain ⟨hb1, hb2, hb3, hb4⟩ := this
  obtain ⟨_, hf2, hf3⟩ := hfit
  simp only [lazy1, sl1, ex1, if_true] at hf2 hf3
  dsimp only [Res.then]
  unfold token
  refine Sat.ite (fun _ => Sat.ok ?_) fun _ => ⟨h.place j, .inl rfl⟩
  refine ⟨okT_mk (fun t ht => ?_) ⟨by decide, by decide, ?_, ?_, ?_⟩ (Nat.zero_le _), rfl, ?_⟩
  ·rcases List.mem_append.1 ht with ht | ht
   ·obtain ⟨k, hk, hk2⟩ := List.getElem_of_mem ht
    have hks : k < seen.length := by rw [← hc.2.1]; exact hk
    exact (hc.2.2 k t seen[k] (by rw [← hk2]; exact List.getElem?_eq_getElem hk) (List.getElem?_eq_getElem hks)).2.2.1
   ·rw [List.mem_singleton.1 ht]; exact hb1
  ·have hkk := kids_row (k := 1) (l := l.map PT.kind) (B := [3]) (y := .h) rfl rfl (fun x hx => by
    obtain ⟨t, ht, rfl⟩ := List.mem_map.1 hx
    obtain ⟨k, hk, hk2⟩ := List.getElem_of_mem ht
    have hks : k < seen.length := by rw [← hc.2.1]; exact hk
    exact (hc.2.2 k t seen[k] (by rw [← hk2]; exact List.getElem?_eq_getElem hk) (List.getElem?_eq_getElem hks)).2.2.2.1) ⟨rfl, rfl⟩
   rw [List.map_append, List.map_singleton, show b.kind = 3 from hb2]
   exact hkk
  ·simp [TextK]
  ·refine ⟨fun e => absurd e (by decide), fun e => absurd e (by decide), fun e => absurd e (by decide), fun e => absurd e (by decide), fun _ => ⟨seen, hc.1, by rw [List.dropLast_concat]; exact hc.2.1, fun j t n hj hn => ?_⟩⟩
   rw [List.dropLast_concat] at hj
   have := hc.2.2 j t n hj hn
   exact ⟨this.1, this.2.1, this.2.2.2.2⟩
  ·rw [ptS, ptsS_append, ptsS_one]
   have : ptsS ([] : List PT) = 0 := by rw [ptsS]
   omega
end
def parseL (s : List UInt8) : (Nat × Nat) ⊕ PT :=
 match scanL s with
 | .inl (p, e) => .inl (p, e)
 | .inr T => match progF T (roundsF T) with
  | none => .inl (0, 0)
  | some (.bad a e) => .inl (a, e)
  | some (.ok t _) => if 50000 < ptS t then .inl (0, 2) else if 200 < deepT t then .inl (0, 61) else .inr t
theorem parse_ext {X : List UInt8} (hX : BlankX X) {s : List UInt8} {t : PT} (h : parseL s = .inr t) : ∃ t2, parseL (s ++ X) = .inr t2 ∧ (flat 0 t2).map Nd.k3 = (flat 0 t).map Nd.k3 := by
 unfold parseL at h
 match hs : scanL s with
 | .inl (p, e) => rw [hs] at h; simp at h
 | .inr T =>
  rw [hs] at h
  simp only at h
  obtain ⟨T2, h2, h3⟩ := scan_ext hX hs
  have hl : T2.length = T.length := by have := congrArg List.length h3; rwa [List.length_map, List.length_map] at this
  have hr : roundsF T2 = roundsF T := by unfold roundsF; rw [hl]
  have hz := z_prog T (roundsF T)
  have hz2 := z_prog T2 (roundsF T)
  rw [h3, hz] at hz2
  unfold parseL
  rw [h2]
  simp only
  rw [hr]
  match hp : progF T (roundsF T) with
  | none => rw [hp] at h; simp at h
  | some (.bad a e) => rw [hp] at h; simp at h
  | some (.ok u i) =>
   rw [hp] at h hz2
   simp only at h
   match hp2 : progF T2 (roundsF T) with
   | none => rw [hp2] at hz2; simp [zr] at hz2
   | some (.bad a e) => rw [hp2] at hz2; simp [zr] at hz2
   | some (.ok u2 i2) =>
    rw [hp2] at hz2
    simp only [zr, Option.some.injEq, Res.ok.injEq] at hz2
    have hsz : ptS u2 = ptS u := by rw [← zp_size u2, ← zp_size u, hz2.1]
    have hdp : deepT u2 = deepT u := by rw [← zp_deep u2, ← zp_deep u, hz2.1]
    simp only
    rw [hsz, hdp]
    split at h
    ·simp at h
    ·split at h
     ·simp at h
     ·rename_i c1 c2
      rw [if_neg c1, if_neg c2]
      refine ⟨u2, rfl, ?_⟩
      rw [← Sum.inr.inj h, ← zp_flat 0 u2, ← zp_flat 0 u, hz2.1]
end Go.Proofs.YthobobmbileekaaGreatDoor
namespace Go.Proofs.YthobobmbileekaaGreatDoor
open Go.ChangeShapes Go.WideShapes Go.ChangeAt Go.RowKit Go.ChangeMaps

theorem numText_size (n : Int) (h0 : -9223372036854775808 ≤ n) (h1 : n ≤ 9223372036854775807) : (numText n).size ≤ 21 := by
 have := Lib.itoa_length_le n h0 h1
 simpa [numText, ByteArray.size] using this
end Go.Proofs.YthobobmbileekaaGreatDoor
namespace Go.Proofs.YthobobmbileekaaGreatDoor
open Go.ChangeShapes Go.WideShapes Go.ChangeAt Go.RowKit

def chan1 (T : List Tok) (seen : List Int) (i : Nat) : Option (Res PT) :=
 token T 3 (i + 1) fun t j => if t.n < 0 ∨ 7 < t.n ∨ t.n ∈ seen then some (.bad t.a 70) else need T ⟨#[61]⟩ j fun j => maskL T j fun m j => one1 (.mk 2 (numText t.n ++ ⟨#[32]⟩ ++ m) (tk T i).a []) j
theorem chans_step (T : List Tok) (f : Nat) (seen : List Int) (acc : List PT) (i : Nat) : chansF T (f + 1) seen acc i = if isAny (tk T i) [⟨#[99, 104, 97, 110, 110, 101, 108]⟩] then Res.then (chan1 T seen i) fun x j => chansF T f (seen ++ [(tk T (i + 1)).n]) (acc ++ [x]) j else one1 acc i := by
 rw [chansF]
 congr 1
 unfold chan1 token need
 by_cases h1 : (tk T (i + 1)).kind = 3
 ·rw [if_pos h1, if_pos h1]
  dsimp only
  by_cases h2 : (tk T (i + 1)).n < 0 ∨ 7 < (tk T (i + 1)).n ∨ (tk T (i + 1)).n ∈ seen
  ·rw [if_pos h2, if_pos h2]; rfl
  ·rw [if_neg h2, if_neg h2]
   by_cases h3 : isAny (tk T (i + 1 + 1)) [⟨#[61]⟩] = true
   ·rw [if_pos h3, if_pos h3, mask_then (α := List PT), mask_then (α := PT)]
    match maskL T (i + 1 + 1 + 1) one1 with
    | none => rfl
    | some (.bad a e) => rfl
    | some (.ok m j) => rfl
   ·rw [if_neg h3, if_neg h3]; rfl
 ·rw [if_neg h1, if_neg h1]; rfl
def SnOk (sn : Fin 8 → Bool) (seen : List Int) : Prop := ∀ k : Fin 8, sn k = true ↔ ((k.1 : Nat) : Int) ∈ seen
theorem pa_seen {K : PaK} {w : World} {p i o : Nat} {sn : Fin 8 → Bool} {ns : List Nd} {fp : List Nat} (h : PaAt K w p i o sn ns fp) (k : Fin 8) : w.cell? ⟨p, 5 + k.1, none⟩ = some (.bool (sn k)) ∧ w.frozen? ⟨p, 5 + k.1, none⟩ = false ∧ p < w.heap.size := by
 obtain ⟨nv, l, hm⟩ := h.mem
 refine ⟨?_, free_of_blk hm.blk, h.lt⟩
 match k with
 | ⟨0, _⟩ => exact cell_of_blk hm.blk rfl
 | ⟨1, _⟩ => exact cell_of_blk hm.blk rfl
 | ⟨2, _⟩ => exact cell_of_blk hm.blk rfl
 | ⟨3, _⟩ => exact cell_of_blk hm.blk rfl
 | ⟨4, _⟩ => exact cell_of_blk hm.blk rfl
 | ⟨5, _⟩ => exact cell_of_blk hm.blk rfl
 | ⟨6, _⟩ => exact cell_of_blk hm.blk rfl
 | ⟨7, _⟩ => exact cell_of_blk hm.blk rfl
def snPut (sn : Fin 8 → Bool) (k : Fin 8) : Fin 8 → Bool := fun j => if j = k then true else sn j
theorem PaAt.setSn {K : PaK} {w : World} {p i o : Nat} {sn : Fin 8 → Bool} {ns : List Nd} {fp : List Nat} (h : PaAt K w p i o sn ns fp) (k : Fin 8) : PaAt K (w.setCell ⟨p, 5 + k.1, none⟩ (.bool true)) p i o (snPut sn k) ns fp ∧ PaTo w fp (w.setCell ⟨p, 5 + k.1, none⟩ (.bool true)) fp := by
 refine h.set (5 + k.1) _ fun nv hb => ?_
 rw [blk_set (i := 5 + k.1) hb]
 match k with
 | ⟨0, _⟩ => rfl
 | ⟨1, _⟩ => rfl
 | ⟨2, _⟩ => rfl
 | ⟨3, _⟩ => rfl
 | ⟨4, _⟩ => rfl
 | ⟨5, _⟩ => rfl
 | ⟨6, _⟩ => rfl
 | ⟨7, _⟩ => rfl
theorem SnOk.put {sn : Fin 8 → Bool} {seen : List Int} (h : SnOk sn seen) (k : Fin 8) {n : Int} (hn : n = ((k.1 : Nat) : Int)) : SnOk (snPut sn k) (seen ++ [n]) := fun j => by
 unfold snPut
 rw [List.mem_append, List.mem_singleton, hn]
 by_cases e : j = k
 ·subst e; simp
 ·rw [if_neg e, h j]
  have : ¬ ((j.1 : Nat) : Int) = ((k.1 : Nat) : Int) := fun e2 => e (Fin.ext (by omega))
  simp [this]
theorem below_dM {w w' : World} {B : Nat} (h : Below B w w') (n : Nat) : Below B w (w'.drewN n) := ⟨h.os, h.tape, h.output, h.size, h.block⟩
def ChanOut (K : PaK) (w : World) (p o : Nat) (seen : List Int) (ns : List Nd) (fp : List Nat) : Res PT → Ending → World → Prop
 | .bad a e => OutB w p a e
 | .ok t j => fun e w' => e = .returned (natV (ns.length + ptS t - 1)) ∧ ∃ fp' sn', PaAt K w' p j o sn' (ns ++ flat ns.length t) fp' ∧ PaTo w fp w' fp' ∧ SnOk sn' seen
set_option maxRecDepth 100000 in
theorem walk_channel {K : PaK} {w : World} {p i o : Nat} {sn : Fin 8 → Bool} {ns : List Nd} {fp : List Nat} {seen : List Int} (h : PaAt K w p i o sn ns fp) (hroom : Room K i ns) (hsn : SnOk sn seen) (hch : isAny (tk K.T i) [⟨#[99, 104, 97, 110, 110, 101, 108]⟩] = true) {r : Res PT} (hr : chan1 K.T seen i = some r) : Calls Tryz.prog 20 #[.pointer (some ⟨p, 0, none⟩)] w (ChanOut K w p o (seen ++ [(tk K.T (i + 1)).n]) ns fp r) := by
 unfold chan1 at hr
 have HB := Lib.hid (Beg.of h)
 have HTK := Lib.hid h.env.tok
 have HRM := Lib.hid hroom.2
 have HI := Lib.hid hroom.1
 have HS0 := Lib.hid (St.start h)
 have HLN := Lib.hid h.env.len
 have HSN := Lib.hid hsn
 have HCH := Lib.hid hch
 clear h hroom hsn hch
 have HR := Lib.hid hr
 clear hr
 go_enter Tryz.func20, Tryz.ntmps20
 have hr := HR.out
 clear HR
 have HC3 := Lib.hid (at_any HS0.out.pa HI.out)
 have HR := Lib.hid hr
 clear hr
 go_wp2_with fail
 refine HC3.out.mono ?_
 rintro e w1 ⟨rfl, h2⟩
 have HS2 := Lib.hid (HS0.out.below h2)
 clear h2
 have hr := HR.out
 clear HR
 have HLTc := Lib.hid (any_lt HTK.out HI.out HCH.out)
 have HC6 := Lib.hid (need_yes HS2.out.pa HI.out ⟨#[99, 104, 97, 110, 110, 101, 108]⟩ HCH.out)
 have HR := Lib.hid hr
 clear hr
 go_wp2_with fail
 refine HC6.out.mono ?_
 rintro e w4 ⟨rfl, h1, h2⟩
 have HS5 := Lib.hid (HS2.out.step h1 h2)
 clear h1 h2
 have hr := HR.out
 clear HR
 unfold token at hr
 by_cases hk : (tk K.T (i + 1)).kind = 3
 ·rw [if_pos hk] at hr
  dsimp only at hr
  have HLT7 := Lib.hid (tk_lt HTK.out HLTc.out (by rw [hk]; decide))
  have HC13 := Lib.hid (token_ok HS5.out.pa HLTc.out 3 hk)
  clear hk
  have HR := Lib.hid hr
  clear hr
  go_wp2_with fail
  refine HC13.out.mono ?_
  rintro e w11 ⟨rfl, h1, h2⟩
  have HS12 := Lib.hid (HS5.out.step h1 h2)
  clear h1 h2
  have hr := HR.out
  clear HR
  unfold tokJ
  have HR := Lib.hid hr
  clear hr
  go_upto_region 4 with fail
  obtain ⟨b14, hb⟩ : ∃ b, b = w11.heap.size := ⟨_, rfl⟩
  rw [← hb]
  refine gen_wpT fun w15 hW => ?_
  have HX16 := Lib.hid (show w15.heap[b14]? = some (.cells #[.int .i64 (tk K.T (i + 1)).kind, .string (tk K.T (i + 1)).text, .int .i64 ((tk K.T (i + 1)).a : Int), .int .i64 ((tk K.T (i + 1)).z : Int), .int .i64 (tk K.T (i + 1)).n] 65 (0, 0)) by rw [← hW]; exact heap_new_at _ _ _ hb.symm)
  have HBL19 := Lib.hid (show Below w11.heap.size w11 w15 by rw [← hW]; exact (Below.refl _ _).alloc (Nat.le_refl _) _)
  have HS18 := Lib.hid (HS12.out.below HBL19.out)
  have HA17 := Lib.hid (Away.new HS12.out.pa (Nat.le_of_eq hb.symm) (blk_lt HX16.out))
  have HBE20 := Lib.hid (show w.heap.size ≤ b14 from by have := HS12.out.pt.fr.size; omega)
  clear hW hb
  have x21 := cell_of_blk (i := 0) HX16.out rfl
  have x22 := cell_of_blk (i := 1) HX16.out rfl
  have x23 := cell_of_blk (i := 2) HX16.out rfl
  have x24 := cell_of_blk (i := 3) HX16.out rfl
  have x25 := cell_of_blk (i := 4) HX16.out rfl
  have xl26 := blk_lt HX16.out
  have hr := HR.out
  clear HR
  by_cases c1 : (tk K.T (i + 1)).n < 0
  ·rw [if_pos (.inl c1)] at hr
   have d1 : decide ((tk K.T (i + 1)).n < 0) = true := decide_eq_true c1
   clear c1
   have HR := Lib.hid hr
   clear hr
   go_quiet (fail)
   refine gen_K (P := Exit.then _ _ _ _) fun w27 hW => ?_
   have HBL28 := Lib.hid (show Below w15.heap.size w15 w27 by rw [← hW]; exact below_dM (Below.refl _ _) _)
   have HS29 := Lib.hid (HS18.out.below HBL28.out)
   clear x21 x22 x23 x24 x25 xl26
   have HX30 := Lib.hid (below_blk HBL28.out HX16.out)
   have HA31 := Lib.hid (HA17.out.on HBL28.out.size)
   clear hW
   have x32 := cell_of_blk (i := 0) HX30.out rfl
   have x33 := cell_of_blk (i := 1) HX30.out rfl
   have x34 := cell_of_blk (i := 2) HX30.out rfl
   have x35 := cell_of_blk (i := 3) HX30.out rfl
   have x36 := cell_of_blk (i := 4) HX30.out rfl
   have xl37 := blk_lt HX30.out
   have hr := HR.out
   clear HR
   have HRR38 := Lib.hid (show Res.bad (tk K.T (i + 1)).a 70 = r from (by exact Option.some.inj hr))
   have HC40 := Lib.hid ((show Calls Tryz.prog 44 #[.pointer (some ⟨p, 0, none⟩), natV (tk K.T (i + 1)).a] w27 (OutB w p (tk K.T (i + 1)).a 70) from (no_any _ _ _).mono fun e w' hh => ⟨hh.1, by rw [← hh.2]; exact HS29.out.bad HB.out (Below.refl _ _)⟩))
   clear hr
   go_wp2_with fail
   refine HC40.out.mono ?_
   rintro e wb ⟨rfl, hb⟩
   have HB39 := Lib.hid hb
   clear hb
   unfold wrongP
   go_wp2
   exact ⟨rfl, by rw [← HRR38.out]; exact ⟨rfl, HB39.out⟩⟩
  ·have d1 : decide ((tk K.T (i + 1)).n < 0) = false := decide_eq_false c1
   by_cases c2 : 7 < (tk K.T (i + 1)).n
   ·rw [if_pos (.inr (.inl c2))] at hr
    have d2 : decide (7 < (tk K.T (i + 1)).n) = true := decide_eq_true c2
    clear c1 c2
    have HR := Lib.hid hr
    clear hr
    go_quiet (fail)
    refine gen_K (P := Exit.then _ _ _ _) fun w41 hW => ?_
    have HBL42 := Lib.hid (show Below w15.heap.size w15 w41 by rw [← hW]; exact below_dM (Below.refl _ _) _)
    have HS43 := Lib.hid (HS18.out.below HBL42.out)
    clear x21 x22 x23 x24 x25 xl26
    have HX44 := Lib.hid (below_blk HBL42.out HX16.out)
    have HA45 := Lib.hid (HA17.out.on HBL42.out.size)
    clear hW
    have x46 := cell_of_blk (i := 0) HX44.out rfl
    have x47 := cell_of_blk (i := 1) HX44.out rfl
    have x48 := cell_of_blk (i := 2) HX44.out rfl
    have x49 := cell_of_blk (i := 3) HX44.out rfl
    have x50 := cell_of_blk (i := 4) HX44.out rfl
    have xl51 := blk_lt HX44.out
    have hr := HR.out
    clear HR
    have HRR52 := Lib.hid (show Res.bad (tk K.T (i + 1)).a 70 = r from (by exact Option.some.inj hr))
    have HC54 := Lib.hid ((show Calls Tryz.prog 44 #[.pointer (some ⟨p, 0, none⟩), natV (tk K.T (i + 1)).a] w41 (OutB w p (tk K.T (i + 1)).a 70) from (no_any _ _ _).mono fun e w' hh => ⟨hh.1, by rw [← hh.2]; exact HS43.out.bad HB.out (Below.refl _ _)⟩))
    clear hr
    go_wp2_with fail
    refine HC54.out.mono ?_
    rintro e wb ⟨rfl, hb⟩
    have HB53 := Lib.hid hb
    clear hb
    unfold wrongP
    go_wp2
    exact ⟨rfl, by rw [← HRR52.out]; exact ⟨rfl, HB53.out⟩⟩
   ·have d2 : decide (7 < (tk K.T (i + 1)).n) = false := decide_eq_false c2
    obtain ⟨k8, hk8⟩ : ∃ k8 : Fin 8, (tk K.T (i + 1)).n = ((k8.1 : Nat) : Int) := ⟨⟨(tk K.T (i + 1)).n.toNat, by omega⟩, by simp; omega⟩
    obtain ⟨n8, hn8⟩ : ∃ n8 : Nat, n8 = k8.1 := ⟨_, rfl⟩
    have HK8 := Lib.hid (show (tk K.T (i + 1)).n = ((k8.1 : Nat) : Int) ∧ n8 = k8.1 from ⟨hk8, hn8⟩)
    obtain ⟨e1, e2, e3⟩ := pa_seen HS18.out.pa k8
    rw [← hn8] at e1 e2 hk8
    rw [hk8] at x25 d1 d2
    have h80 : (0 : Int) ≤ (n8 : Int) := by omega
    have h81 : (n8 : Int) < 8 := by have := k8.2; omega
    have hga : (⟨p, 5, none⟩ : Addr).add n8 = ⟨p, 5 + n8, none⟩ := Addr.add_mid _ _ _
    have hsk := HSN.out k8
    rw [← HK8.out.1] at hsk
    clear c1 c2 hk8 hn8
    by_cases c3 : (tk K.T (i + 1)).n ∈ seen
    ·rw [if_pos (.inr (.inr c3))] at hr
     rw [hsk.2 c3] at e1
     clear c3 hsk
     have HR := Lib.hid hr
     clear hr
     go_quiet (fail)
     refine gen_K (P := Exit.then _ _ _ _) fun w55 hW => ?_
     have HBL56 := Lib.hid (show Below w15.heap.size w15 w55 by rw [← hW]; exact below_dM (Below.refl _ _) _)
     have HS57 := Lib.hid (HS18.out.below HBL56.out)
     clear x21 x22 x23 x24 x25 xl26
     have HX58 := Lib.hid (below_blk HBL56.out HX16.out)
     have HA59 := Lib.hid (HA17.out.on HBL56.out.size)
     clear hW e1 e2 e3 hga d1 d2 h80 h81
     have x60 := cell_of_blk (i := 0) HX58.out rfl
     have x61 := cell_of_blk (i := 1) HX58.out rfl
     have x62 := cell_of_blk (i := 2) HX58.out rfl
     have x63 := cell_of_blk (i := 3) HX58.out rfl
     have x64 := cell_of_blk (i := 4) HX58.out rfl
     have xl65 := blk_lt HX58.out
     have hr := HR.out
     clear HR
     have HRR66 := Lib.hid (show Res.bad (tk K.T (i + 1)).a 70 = r from (by exact Option.some.inj hr))
     have HC68 := Lib.hid ((show Calls Tryz.prog 44 #[.pointer (some ⟨p, 0, none⟩), natV (tk K.T (i + 1)).a] w55 (OutB w p (tk K.T (i + 1)).a 70) from (no_any _ _ _).mono fun e w' hh => ⟨hh.1, by rw [← hh.2]; exact HS57.out.bad HB.out (Below.refl _ _)⟩))
     clear hr
     go_wp2_with fail
     refine HC68.out.mono ?_
     rintro e wb ⟨rfl, hb⟩
     have HB67 := Lib.hid hb
     clear hb
     unfold wrongP
     go_wp2
     exact ⟨rfl, by rw [← HRR66.out]; exact ⟨rfl, HB67.out⟩⟩
    ·rw [if_neg (show ¬ ((tk K.T (i + 1)).n < 0 ∨ 7 < (tk K.T (i + 1)).n ∨ (tk K.T (i + 1)).n ∈ seen) from fun e9 => e9.elim (fun h => by have := HK8.out.1; omega) (fun h => h.elim (fun h => by have := HK8.out.1; have := k8.2; omega) c3))] at hr
     have hsf : sn k8 = false := by cases h9 : sn k8 with
      | true => exact absurd (hsk.1 h9) c3
      | false => rfl
     rw [hsf] at e1
     clear c3 hsk hsf
     have HR := Lib.hid hr
     clear hr
     go_quiet (fail)
     refine gen_K (P := Exit.then _ _ _ _) fun w69 hW => ?_
     have HBL70 := Lib.hid (show Below w15.heap.size w15 w69 by rw [← hW]; exact below_dM (Below.refl _ _) _)
     have HS71 := Lib.hid (HS18.out.below HBL70.out)
     clear x21 x22 x23 x24 x25 xl26
     have HX72 := Lib.hid (below_blk HBL70.out HX16.out)
     have HA73 := Lib.hid (HA17.out.on HBL70.out.size)
     clear hW e1 e2 e3 hga d1 d2 h80 h81
     have x74 := cell_of_blk (i := 0) HX72.out rfl
     have x75 := cell_of_blk (i := 1) HX72.out rfl
     have x76 := cell_of_blk (i := 2) HX72.out rfl
     have x77 := cell_of_blk (i := 3) HX72.out rfl
     have x78 := cell_of_blk (i := 4) HX72.out rfl
     have xl79 := blk_lt HX72.out
     have hr := HR.out
     clear HR
     obtain ⟨e1, e2, e3⟩ := pa_seen HS71.out.pa k8
     rw [← HK8.out.2] at e1 e2
     rw [HK8.out.1, ← HK8.out.2] at x78
     have hga : (⟨p, 5, none⟩ : Addr).add n8 = ⟨p, 5 + n8, none⟩ := Addr.add_mid _ _ _
     have h80 : (0 : Int) ≤ (n8 : Int) := by omega
     have h81 : (n8 : Int) < 8 := by have := k8.2; have := HK8.out.2; omega
     have HR := Lib.hid hr
     clear hr
     go_upto_region 6 with fail
     go_region
     refine gen_K (P := Exit.then _ _ _ _) fun w80 hW => ?_
     clear x74 x75 x76 x77 x78 xl79
     have hst := HS71.out.pa.setSn k8
     rw [← HK8.out.2] at hst
     have HTO82 := Lib.hid (show PaTo w69 fp w80 fp from hst.2.trans (show PaTo _ fp w80 fp by rw [← hW]; exact PaTo.of_below hst.1 (Below.refl _ _).drew))
     obtain ⟨sn2, hsn2⟩ : ∃ s, s = snPut sn k8 := ⟨_, rfl⟩
     have HS81 := Lib.hid (show St K w p ((i + 1) + 1) o sn2 ns fp [] w80 fp from ⟨by rw [hsn2, ← hW]; exact hst.1.below (Below.refl _ _).drew, HS71.out.pt.trans HTO82.out⟩)
     have HSN2 := Lib.hid (show SnOk sn2 (seen ++ [(tk K.T (i + 1)).n]) by rw [hsn2]; exact HSN.out.put k8 HK8.out.1)
     have HX83 := Lib.hid (Away.blkTo HX72.out HA73.out HTO82.out)
     have HA84 := Lib.hid (HA73.out.to HTO82.out)
     clear hW hst hsn2 e1 e2 e3 hga h80 h81
     have x85 := cell_of_blk (i := 0) HX83.out rfl
     have x86 := cell_of_blk (i := 1) HX83.out rfl
     have x87 := cell_of_blk (i := 2) HX83.out rfl
     have x88 := cell_of_blk (i := 3) HX83.out rfl
     have x89 := cell_of_blk (i := 4) HX83.out rfl
     have xl90 := blk_lt HX83.out
     have hr := HR.out
     clear HR
     unfold need at hr
     cases hb : isAny (tk K.T ((i + 1) + 1)) [⟨#[61]⟩] with
     | false =>
      rw [if_neg (by rw [hb]; decide)] at hr
      have HRR92 := Lib.hid (show Res.bad _ _ = r from (by exact Option.some.inj hr))
      have HC94 := Lib.hid ((need_no HS81.out.pa HLT7.out ⟨#[61]⟩ hb).mono fun e w' hh => (show OutB w p _ 70 e w' from ⟨hh.1, HS81.out.bad HB.out hh.2⟩))
      clear hr
      go_wp2_with fail
      refine HC94.out.mono ?_
      rintro e wb ⟨rfl, hb⟩
      have HB93 := Lib.hid hb
      clear hb
      unfold wrongP
      go_wp2
      exact ⟨rfl, by rw [← HRR92.out]; exact ⟨rfl, HB93.out⟩⟩
     | true =>
      rw [if_pos hb] at hr
      have HLT91 := Lib.hid (any_lt HTK.out HLT7.out hb)
      have HC97 := Lib.hid (need_yes HS81.out.pa HLT7.out ⟨#[61]⟩ hb)
      clear hb
      have HR := Lib.hid hr
      clear hr
      go_wp2_with fail
      clear x85 x86 x87 x88 x89 xl90
      refine HC97.out.mono ?_
      rintro e w95 ⟨rfl, h1, h2⟩
      have HS96 := Lib.hid (HS81.out.step h1 h2)
      have HX98 := Lib.hid (Away.blkTo HX83.out HA84.out h2)
      have HA99 := Lib.hid (HA84.out.to h2)
      clear h1 h2
      have x100 := cell_of_blk (i := 0) HX98.out rfl
      have x101 := cell_of_blk (i := 1) HX98.out rfl
      have x102 := cell_of_blk (i := 2) HX98.out rfl
      have x103 := cell_of_blk (i := 3) HX98.out rfl
      have x104 := cell_of_blk (i := 4) HX98.out rfl
      have xl105 := blk_lt HX98.out
      have hr := HR.out
      clear HR
      have hmm := Sat.mask (N := True) (Q := fun (x : ByteArray) j => MaskT x ∧ (((i + 1) + 1) + 1) < j ∧ j < K.T.length) (k := one1) HTK.out HLT91.out (fun x j h0 h1 h2 => ⟨h0, h1, h2⟩)
      rw [mask_then] at hr
      obtain ⟨X, hX⟩ : ∃ X, maskL K.T (((i + 1) + 1) + 1) one1 = X := ⟨_, rfl⟩
      rw [hX] at hr hmm
      cases X with
      | none => exact absurd hr (by simp [Res.then])
      | some X =>
      cases X with
      | bad a n =>
       have HRR106 := Lib.hid (show Res.bad a n = r from by dsimp only [Res.then] at hr; exact Option.some.inj hr)
       clear hmm
       have HC111 := Lib.hid ((mask_any HS96.out.pa HLT91.out hX).mono fun e w' hh => (show OutB w p a n e w' from ⟨hh.1, HS96.out.bad HB.out hh.2⟩))
       clear hr hX
       go_wp2_with fail
       refine HC111.out.mono ?_
       rintro e wb ⟨rfl, hb⟩
       have HB110 := Lib.hid hb
       clear hb
       unfold wrongP
       go_wp2
       exact ⟨rfl, by rw [← HRR106.out]; exact ⟨rfl, HB110.out⟩⟩
      | ok m107 j108 =>
       dsimp only [Res.then] at hr
       have HMM := Lib.hid (show MaskT m107 ∧ (((i + 1) + 1) + 1) < j108 ∧ j108 < K.T.length from hmm)
       clear hmm
       have HMM2 := Lib.hid HMM.out.2
       have HC114 := Lib.hid ((show Calls Tryz.prog 45 #[.pointer (some ⟨p, 0, none⟩)] w95 (OutV K w95 p j108 o sn2 (ns ++ flats ns.length []) fp (.string m107)) from mask_any HS96.out.pa HLT91.out hX))
       clear hX
       have HR := Lib.hid hr
       clear hr
       go_wp2_with fail
       clear x100 x101 x102 x103 x104 xl105
       refine HC114.out.mono ?_
       rintro e w112 ⟨rfl, h1, h2⟩
       have HS113 := Lib.hid (HS96.out.step h1 h2)
       have HX115 := Lib.hid (Away.blkTo HX98.out HA99.out h2)
       have HA116 := Lib.hid (HA99.out.to h2)
       clear h1 h2
       have x117 := cell_of_blk (i := 0) HX115.out rfl
       have x118 := cell_of_blk (i := 1) HX115.out rfl
       have x119 := cell_of_blk (i := 2) HX115.out rfl
       have x120 := cell_of_blk (i := 3) HX115.out rfl
       have x121 := cell_of_blk (i := 4) HX115.out rfl
       have xl122 := blk_lt HX115.out
       have hr := HR.out
       clear HR
       have HSZ := Lib.hid (show m107.size ≤ 21 from by obtain ⟨n, h0, h1, h2⟩ := HMM.out.1; rw [h2]; exact numText_size n h0 h1)
       have HTN := Lib.hid (HTK.out.num (i + 1))
       have HSZ2 := Lib.hid (numText_size (tk K.T (i + 1)).n HTN.out.1 HTN.out.2)
       have hz1 : ¬ 9223372036854775807 < (numText (tk K.T (i + 1)).n).size + 1 := by have := HSZ2.out; omega
       have hz2 : ¬ 9223372036854775807 < (numText (tk K.T (i + 1)).n).size + 1 + m107.size := by have := HSZ2.out; have := HSZ.out; omega
       have HFI := Lib.hid (show Res.ok _ _ = r from Option.some.inj hr)
       clear hr
       have hr := HFI
       clear HFI
       have HC125 := Lib.hid (nshow_any (tk K.T (i + 1)).n _ HTN.out.1 HTN.out.2 HS113.out.pa.env.tab)
       have HR := Lib.hid hr
       clear hr
       go_wp2_with fail
       clear x117 x118 x119 x120 x121 xl122
       refine HC125.out.mono ?_
       rintro e w123 ⟨rfl, h2⟩
       have HS124 := Lib.hid (HS113.out.below h2)
       have HX126 := Lib.hid (below_blk h2 HX115.out)
       have HA127 := Lib.hid (HA116.out.on h2.size)
       clear h2
       have x128 := cell_of_blk (i := 0) HX126.out rfl
       have x129 := cell_of_blk (i := 1) HX126.out rfl
       have x130 := cell_of_blk (i := 2) HX126.out rfl
       have x131 := cell_of_blk (i := 3) HX126.out rfl
       have x132 := cell_of_blk (i := 4) HX126.out rfl
       have xl133 := blk_lt HX126.out
       have hr := HR.out
       clear HR
       have HFI := hr
       clear hr
       have HL134 := Lib.hid (lay_fin (L := []) HS124.out (by have := HRM.out; have := HI.out; have := HLTc.out; have := HLT7.out; have := HLT91.out; have := HMM2.out; (try simp only [ptsS, ptS, noneT, ptsS_append, List.nil_append, List.cons_append, Nat.add_zero, Nat.zero_add]); omega) (by simp) 2 (numText (tk K.T (i + 1)).n ++ ⟨#[32]⟩ ++ m107) (tk K.T i).a (KidsV.nil w123) rfl)
       go_wp2_with fail
       refine HL134.out.mono ?_
       rintro e wz ⟨rfl, fpz, h1, h2⟩
       have HZ9 := Lib.hid (And.intro h1 h2)
       clear h1 h2
       go_wp2
       go_ret
       exact (by rw [← HFI.out]; exact ⟨rfl, fpz, sn2, HZ9.out.1, HZ9.out.2, HSN2.out⟩)
 ·rw [if_neg hk] at hr
  have HRR8 := Lib.hid (show Res.bad _ _ = r from (by exact Option.some.inj hr))
  have HC10 := Lib.hid ((token_no HS5.out.pa HLTc.out 3 hk).mono fun e w' hh => (show OutB w p _ 70 e w' from ⟨hh.1, HS5.out.bad HB.out hh.2⟩))
  clear hr hk
  go_wp2_with fail
  refine HC10.out.mono ?_
  rintro e wb ⟨rfl, hb⟩
  have HB9 := Lib.hid hb
  clear hb
  unfold wrongP
  go_wp2
  exact ⟨rfl, by rw [← HRR8.out]; exact ⟨rfl, HB9.out⟩⟩

structure NodesR (w : World) (B : Nat) (A : Option Addr) (l : List NdM) : Prop where
 rd : Reads w B A (l.flatMap ndEnc)
 kd : ∀ x ∈ l, Reads w B x.A (x.nd.kids.map natV)
 lo : B ≤ w.heap.size
 kc : ∀ x ∈ l, x.nd.kids.length ≤ x.c
section
variable {w w' : World} {B : Nat} {A : Option Addr} {l : List NdM}
theorem NodesR.below (h : NodesR w B A l) (hb : Below B w w') : NodesR w' B A l := ⟨h.rd.below hb, fun x hx => (h.kd x hx).below hb, Nat.le_trans h.lo hb.size, h.kc⟩
theorem NodesR.ad (h : NodesR w B A l) {k : Nat} {x : NdM} (hx : l[k]? = some x) : ∃ ad, A = some ad ∧ ad.block < B := by
 obtain ⟨ad, h1, h2, _⟩ := h.rd.at (flatMap_ne (K := 4) ndEnc_len (by omega) hx)
 exact ⟨ad, h1, h2⟩
theorem NodesR.node (h : NodesR w B A l) {ad : Addr} (hA : A = some ad) {k : Nat} {x : NdM} (hx : l[k]? = some x) :
  w.cell? (ad.add (k * 4)) = some (.int .i64 x.nd.kind) ∧ w.cell? ⟨(ad.add (k * 4)).block, (ad.add (k * 4)).off + 1, none⟩ = some (.string x.nd.text) ∧ w.cell? ⟨(ad.add (k * 4)).block, (ad.add (k * 4)).off + 2, none⟩ = some (.slice x.A x.nd.kids.length x.c) ∧
   w.cell? ⟨(ad.add (k * 4)).block, (ad.add (k * 4)).off + 3, none⟩ = some (.int .i64 (x.nd.a : Int)) ∧ (ad.add (k * 4)).block < w.heap.size := by
 obtain ⟨ad', hA', hab, hcell⟩ := h.rd.at (flatMap_ne (K := 4) ndEnc_len (by omega) hx)
 rw [hA] at hA'
 obtain rfl := Option.some.inj hA'
 exact ⟨elem_zero (K := 4) ndEnc_len hcell hx (by omega) rfl, elem_at (K := 4) ndEnc_len hcell hx 1 (by omega) (by omega) rfl, elem_at (K := 4) ndEnc_len hcell hx 2 (by omega) (by omega) rfl, elem_at (K := 4) ndEnc_len hcell hx 3 (by omega) (by omega) rfl, by rw [block_add']; have := h.lo; omega⟩
theorem NodesR.kid (h : NodesR w B A l) {x : NdM} (hm : x ∈ l) {j q : Nat} (hj : x.nd.kids[j]? = some q) : ∃ ad, x.A = some ad ∧ w.cell? (ad.add j) = some (.int .i64 (q : Int)) ∧ (ad.add j).block < w.heap.size := by
 have hq : (x.nd.kids.map natV)[j]? = some (natV q) := by rw [List.getElem?_map, hj]; rfl
 obtain ⟨ad, h1, h2, h3⟩ := (h.kd x hm).at (fun e => by rw [e] at hq; simp at hq)
 exact ⟨ad, h1, h3 j _ hq, by rw [block_add']; have := h.lo; omega⟩
end
theorem below_dN {w w' : World} {B : Nat} (h : Below B w w') (n : Nat) : Below B w (w'.drewN n) := ⟨h.os, h.tape, h.output, h.size, h.block⟩
theorem k3_at {l1 l2 : List NdM} (h : (l1.map NdM.nd).map Nd.k3 = (l2.map NdM.nd).map Nd.k3) {k : Nat} {x : NdM} (hx : l1[k]? = some x) : ∃ y, l2[k]? = some y ∧ y.nd.kind = x.nd.kind ∧ y.nd.text = x.nd.text ∧ y.nd.kids = x.nd.kids := by
 have hl : l1.length = l2.length := by have := congrArg List.length h; simpa using this
 have hk : k < l2.length := by rw [← hl]; exact (List.getElem?_eq_some_iff.1 hx).1
 refine ⟨l2[k], List.getElem?_eq_getElem hk, ?_⟩
 have h2 := congrArg (fun l => l[k]?) h
 simp only [List.getElem?_map, hx, List.getElem?_eq_getElem hk, Option.map_some, Option.some.injEq, Nd.k3, Prod.mk.injEq] at h2
 exact ⟨h2.1.symm, h2.2.1.symm, h2.2.2.symm⟩
set_option maxRecDepth 100000 in
theorem rsame_any {w : World} {B : Nat} {A1 A2 : Option Addr} {l1 l2 : List NdM} (c1 c2 : Nat) (h1 : NodesR w B A1 l1) (h2 : NodesR w B A2 l2) (hk : (l1.map NdM.nd).map Nd.k3 = (l2.map NdM.nd).map Nd.k3) (hn : l1.length ≤ 50000) (hkn : ∀ x ∈ l1, x.nd.kids.length ≤ 50000) :
  Calls Tryz.prog 8 #[.slice A1 l1.length c1, .slice A2 l2.length c2] w (RetB (.bool true) w) := by
 have hl : l2.length = l1.length := by have := congrArg List.length hk; simpa using this.symm
 rw [hl]
 obtain ⟨N, hN⟩ : ∃ N, N = l1.length := ⟨_, rfl⟩
 rw [← hN] at hn ⊢
 have HN := Lib.hid (show N = l1.length ∧ N = l2.length from ⟨hN, by rw [hl]; exact hN⟩)
 have HK := Lib.hid hk
 have H1 := Lib.hid h1
 have H2 := Lib.hid h2
 have HKN := Lib.hid hkn
 clear hl hk h1 h2 hN hkn
 go_enter Tryz.func8, Tryz.ntmps8
 go_wp2_with fail
 go_loopw [14] (fun i wr => ∃ k : Nat, k ≤ N ∧ i = .int .i64 (k : Int) ∧ Hid (Below w.heap.size w wr)) (fun i _ => N - (intOf i).toNat)
 case atStart => exact ⟨0, Nat.zero_le _, rfl, Lib.hid (Below.refl _ _)⟩
 case round =>
  obtain ⟨k, hkN, rfl, HB⟩ := hrel
  by_cases hlt : k < N
  ·obtain ⟨x, hx⟩ : ∃ x, l1[k]? = some x := ⟨_, List.getElem?_eq_getElem (by rw [← HN.out.1]; exact hlt)⟩
   obtain ⟨y, hy, e1, e2, e3⟩ := k3_at HK.out hx
   obtain ⟨ad1, hA1, -⟩ := H1.out.ad hx
   obtain ⟨ad2, hA2, -⟩ := H2.out.ad hy
   have HR1 := Lib.hid (H1.out.below (HB.out.mono H1.out.lo))
   have HR2 := Lib.hid (H2.out.below (HB.out.mono H1.out.lo))
   obtain ⟨x0, x1, x2, -, xl⟩ := HR1.out.node hA1 hx
   obtain ⟨y0, y1, y2, -, yl⟩ := HR2.out.node hA2 hy
   rw [e1] at y0
   rw [e2] at y1
   rw [e3] at y2
   subst hA1 hA2
   obtain ⟨m, hm⟩ : ∃ m, m = x.nd.kids.length := ⟨_, rfl⟩
   rw [← hm] at x2 y2
   have HX := Lib.hid (show x ∈ l1 ∧ y ∈ l2 ∧ y.nd.kids = x.nd.kids ∧ m = x.nd.kids.length from ⟨List.mem_of_getElem? hx, List.mem_of_getElem? hy, e3, hm⟩)
   have hm2 : m ≤ 50000 := by rw [hm]; exact HKN.out x HX.out.1
   have hkI : (k : Int) < (N : Int) := by omega
   have hk0 : (0 : Int) ≤ (k : Int) := by omega
   have hte : (x.nd.text.toList == x.nd.text.toList) = true := beq_self_eq_true _
   have HM2 := Lib.hid hm2
   have hx9 := hx
   have hy9 := hy
   clear hx hy e1 e2 e3 hm
   go_upto_region 6 with fail
   go_quiet (fail)
   go_wp2_with fail
   have HBD := Lib.hid (fun n => below_dN HB.out n)
   have HXN := Lib.hid hx9
   have HYN := Lib.hid hy9
   clear x0 x1 x2 xl y0 y1 y2 yl hte hx9 hy9
   go_loopw [62] (fun i2 wr2 => ∃ j : Nat, j ≤ m ∧ i2 = .int .i64 (j : Int) ∧ Hid (Below w.heap.size w wr2)) (fun i2 _ => m - (intOf i2).toNat)
   case atStart => exact ⟨0, Nat.zero_le _, rfl, Lib.hid (HBD.out _)⟩
   case round =>
    obtain ⟨j, hjm, rfl, HB2⟩ := hrel
    have hm2 : m ≤ 50000 := HM2.out
    by_cases hjt : j < m
    ·obtain ⟨q, hq⟩ : ∃ q, x.nd.kids[j]? = some q := ⟨_, List.getElem?_eq_getElem (by rw [← HX.out.2.2.2]; exact hjt)⟩
     have HS1 := Lib.hid (H1.out.below (HB2.out.mono H1.out.lo))
     have HS2 := Lib.hid (H2.out.below (HB2.out.mono H1.out.lo))
     obtain ⟨-, -, x2, -, xl⟩ := HS1.out.node rfl HXN.out
     obtain ⟨-, -, y2, -, yl⟩ := HS2.out.node rfl HYN.out
     obtain ⟨bd1, hb1, z1, zl1⟩ := HS1.out.kid HX.out.1 hq
     obtain ⟨bd2, hb2, z2, zl2⟩ := HS2.out.kid HX.out.2.1 (by rw [HX.out.2.2.1]; exact hq)
     rw [← HX.out.2.2.2, hb1] at x2
     rw [HX.out.2.2.1, ← HX.out.2.2.2, hb2] at y2
     have hjI : (j : Int) < (m : Int) := by omega
     have hj0 : (0 : Int) ≤ (j : Int) := by omega
     clear hq hb1 hb2
     go_upto_region 11 with fail
     go_quiet (fail)
     go_wp2_with fail
     go_roundw
     case rel => exact ⟨j + 1, by omega, by go_num, Lib.hid (below_dN HB2.out _)⟩
     case measure => simp [intOf]; omega
    ·obtain rfl : j = m := by omega
     have hjq : ¬ (j : Int) < (j : Int) := by omega
     go_wp2_with fail
     go_roundw
     case rel => exact ⟨k + 1, by omega, by go_num, HB2⟩
     case measure => simp [intOf]; omega
  ·obtain rfl : k = N := by omega
   have hq : ¬ (k : Int) < (k : Int) := by omega
   go_wp2
   go_ret
   exact ⟨rfl, HB.out⟩

mutual
theorem deep_le : ∀ t : PT, deepT t ≤ ptS t
 | .mk k x a l => by rw [deepT, ptS]; have := deeps_le l; omega
theorem deeps_le : ∀ l : List PT, deepTs l ≤ ptsS l
 | [] => by simp [deepTs]
 | t :: r => by rw [deepTs, ptsS]; have := deep_le t; have := deeps_le r; omega
end
structure DeepF (ns : List Nd) (D : Nat → Nat) : Prop where
 at_ : ∀ k nd, ns[k]? = some nd → (∀ q ∈ nd.kids, q < k) ∧ D k = maxL (nd.kids.map D) + 1
 le : ∀ k, D k ≤ ns.length
theorem deepF_tree (t : PT) : DeepF (flat 0 t) (fun q => ((dps t)[q]?).getD 0) := by
 refine ⟨fun k nd hk => ?_, fun k => ?_⟩
 ·obtain ⟨t', b', s⟩ := sub_t 0 t k nd hk
  have hlo := s.at_
  have hkid : ∀ (j q : Nat), nd.kids[j]? = some q → ∃ u, t'.kids[j]? = some u ∧ q < k ∧ ((dps t)[q]?).getD 0 = deepT u := fun j q hq => by
   rw [s.nd] at hq
   have hq : (roots b' t'.kids)[j]? = some q := hq
   have hj : j < t'.kids.length := by rw [← roots_len b' t'.kids]; exact (List.getElem?_eq_some_iff.1 hq).1
   obtain ⟨k2, h1, h2, h3, _, h5⟩ := root_get b' t'.kids j _ (List.getElem?_eq_getElem hj)
   rw [hq] at h1
   obtain rfl := Option.some.inj h1
   refine ⟨_, List.getElem?_eq_getElem hj, by omega, ?_⟩
   have := s.dp (q - b') (by omega)
   rw [Nat.sub_zero, show b' + (q - b') = q by omega, h5] at this
   rw [this]; rfl
  refine ⟨fun q hq => ?_, ?_⟩
  ·obtain ⟨j, hj, hj2⟩ := List.getElem_of_mem hq
   obtain ⟨u, _, h2, _⟩ := hkid j q (by rw [← hj2]; exact List.getElem?_eq_getElem hj)
   exact h2
  ·show ((dps t)[k]?).getD 0 = _
   rw [s.dl, Option.getD_some, deepT_kids, deepTs_max]
   congr 2
   have hlen : nd.kids.length = t'.kids.length := by rw [s.nd]; exact roots_len _ _
   refine List.ext_getElem? fun j => ?_
   rw [List.getElem?_map, List.getElem?_map]
   cases hq : nd.kids[j]? with
   | none =>
    have : t'.kids.length ≤ j := by rw [← hlen]; exact List.getElem?_eq_none_iff.1 hq
    rw [List.getElem?_eq_none_iff.2 this]; rfl
   | some q =>
    obtain ⟨u, h1, _, h3⟩ := hkid j q hq
    rw [h1]
    simp only [Option.map_some]
    rw [h3]
 ·show ((dps t)[k]?).getD 0 ≤ _
  rw [flat_len]
  cases hq : (dps t)[k]? with
  | none => exact Nat.zero_le _
  | some d =>
   have hk : k < (flat 0 t).length := by rw [flat_len, ← dps_len]; exact (List.getElem?_eq_some_iff.1 hq).1
   obtain ⟨t', b', s⟩ := sub_t 0 t k _ (List.getElem?_eq_getElem hk)
   have h1 := s.dl
   rw [hq] at h1
   rw [Option.getD_some, Option.some.inj h1]
   have h2 := deep_le t'
   have h3 : ptS t' = ptsS t'.kids + 1 := by cases t'; rw [ptS]; rfl
   have h4 := s.at_
   rw [flat_len] at hk
   omega
theorem deepF_last (t : PT) : ((dps t)[ptS t - 1]?).getD 0 = deepT t := by
 cases t with
 | mk k x a l => rw [dps, ptS, Nat.add_sub_cancel, List.getElem?_append_right (by rw [dpss_len]; exact Nat.le_refl _), dpss_len, Nat.sub_self, deepT]; rfl
structure RowF (w : World) (base g M : Nat) (f : Nat → Nat) : Prop where
 own : w.ownsRow base 3 1 (.slice (some ⟨g, 0, none⟩) M M) M ((List.range M).map fun q => natV (f q))
section
variable {w w' : World} {base g M : Nat} {f f' : Nat → Nat}
theorem RowF.congr (h : RowF w base g M f) (e : ∀ q, q < M → f q = f' q) : RowF w base g M f' := ⟨by
 have : (List.range M).map (fun q => natV (f q)) = (List.range M).map fun q => natV (f' q) := List.map_congr_left fun q hq => by rw [e q (List.mem_range.1 hq)]
 rw [← this]; exact h.own⟩
theorem RowF.cell (h : RowF w base g M f) {q : Nat} (hq : q < M) : w.cell? ⟨g, q, none⟩ = some (.int .i64 (f q : Int)) ∧ w.frozen? ⟨g, q, none⟩ = false ∧ g < w.heap.size ∧ base ≤ g := by
 obtain ⟨A, c, hv, _, _, h3⟩ := own_form h.own
 obtain ⟨gb, hA, h4, h5, ⟨cur, h6⟩, h7⟩ := h3 (by omega)
 injection hv with e1 e2 e3
 rw [hA] at e1
 injection e1 with e1
 injection e1 with e1
 subst e1
 exact ⟨h7 q _ (by rw [List.getElem?_map, List.getElem?_range hq]; rfl), free_of_blk h6, h5, h4⟩
theorem RowF.set (h : RowF w base g M f) (k v : Nat) : RowF (w.setCell ⟨g, k, none⟩ (.int .i64 (v : Int))) base g M (fun q => if q = k then v else f q) := ⟨by
 have h1 := (h.own.stored k (.int .i64 (v : Int))).1
 have : ((List.range M).map fun q => natV (f q)).set k (.int .i64 (v : Int)) = (List.range M).map fun q => natV (if q = k then v else f q) := by
  refine List.ext_getElem? fun j => ?_
  rw [List.getElem?_set, List.getElem?_map, List.getElem?_map]
  rcases Nat.lt_or_ge j M with hj | hj
  ·rw [List.getElem?_range hj]
   by_cases e : k = j
   ·subst e
    rw [if_pos rfl, if_pos (by simpa using hj)]
    simp [natV]
   ·rw [if_neg e]
    simp [show ¬ j = k from fun e' => e e'.symm]
  ·rw [List.getElem?_eq_none (l := List.range M) (by simpa using hj)]
   by_cases e : k = j
   ·subst e
    rw [if_pos rfl, if_neg (by simpa using hj)]
    rfl
   ·rw [if_neg e]; rfl
 rw [← this]; exact h1⟩
theorem RowF.below (h : RowF w base g M f) (hb : Below w.heap.size w w') : RowF w' base g M f := ⟨below_own hb h.own⟩
theorem RowF.drewN (h : RowF w base g M f) (n : Nat) : RowF (w.drewN n) base g M f := h.below (below_dN (Below.refl _ _) n)
end
theorem madeInts (n : Nat) : (madeCells (Value.int .i64 0).cells (n * 1)).toList = (List.range n).map fun q => natV 0 := by
 unfold madeCells
 rw [Array.toList_map, Array.toList_range, Nat.mul_one]
 refine List.map_congr_left fun q _ => ?_
 have : q % (Value.int .i64 0).cells.size = 0 := by
  have : (Value.int .i64 0).cells.size = 1 := rfl
  rw [this]; exact Nat.mod_one q
 rw [this]
 rfl
theorem maxL_take {l : List Nat} {j q : Nat} {D : Nat → Nat} (h : l[j]? = some q) : maxL ((l.take (j + 1)).map D) = max (maxL ((l.take j).map D)) (D q) := by
 unfold maxL
 rw [List.take_add_one, h, List.map_append, List.foldl_append]
 rfl
set_option maxRecDepth 100000 in
theorem tdeep_any {w : World} {B : Nat} {A : Option Addr} {l : List NdM} (c : Nat) (h : NodesR w B A l) {D : Nat → Nat} (hD : DeepF (l.map NdM.nd) D) (hn : l.length ≤ 50000) (hn1 : 1 ≤ l.length) (hkn : ∀ x ∈ l, x.nd.kids.length ≤ 50000) :
  Calls Tryz.prog 24 #[.slice A l.length c] w (RetB (.int .i64 (D (l.length - 1) : Int)) w) := by
 obtain ⟨N, hN⟩ : ∃ N, N = l.length := ⟨_, rfl⟩
 obtain ⟨N1, hN1⟩ : ∃ N1, N1 = N + 1 := ⟨_, rfl⟩
 obtain ⟨lm, hlm⟩ : ∃ lm, lm = N - 1 := ⟨_, rfl⟩
 obtain ⟨g, hg⟩ : ∃ g, g = w.heap.size := ⟨_, rfl⟩
 obtain ⟨iI, hiI, hI0, hI1, hI2⟩ := info_parts infoIn
 rw [← hN] at hn hn1 ⊢
 rw [← hlm]
 have HN := Lib.hid (show N = l.length ∧ lm = N - 1 ∧ N1 = N + 1 from ⟨hN, hlm, hN1⟩)
 have HD := Lib.hid hD
 have H := Lib.hid h
 have HKN := Lib.hid hkn
 have HNB := Lib.hid (And.intro hn hn1)
 have hadd : (N : Int) + 1 = (N1 : Int) := by omega
 have hwr : IntKind.i64.wrap (N1 : Int) = (N1 : Int) := IntWalk.i64_in _ (by omega)
 clear hD h hN hN1 hkn hlm
 have HG := Lib.hid hg
 obtain ⟨wm, hmk, hown, hgm⟩ := run_make_full (P := Tryz.prog) w w.heap.size 29 3 iI (.int .i64 0) 1 rfl hiI hI0 hI1 .i64 .i64 N1 (by rw [hI2]; have := HNB.out; have := HN.out; omega) (by unfold maxLen; have := HN.out; have := HNB.out; omega) (Nat.le_refl _)
 rw [← hg] at hmk hown
 rw [madeInts] at hown
 clear hg
 go_enter Tryz.func24, Tryz.ntmps24
 go_wp2_with fail
 have HOW := Lib.hid hown
 have HBM := Lib.hid (show Below w.heap.size w wm from (Below.refl _ _).grown hgm (Nat.le_refl _) (fun k e => by simp at e))
 clear hmk hown hgm
 go_loopw [14] (fun i wr => ∃ k : Nat, k ≤ N ∧ i = .int .i64 (k : Int) ∧ Hid (Below w.heap.size w wr) ∧ Hid (RowF wr g g N1 (fun q => if q < k then D q else 0))) (fun i _ => N - (intOf i).toNat)
 case atStart => exact ⟨0, Nat.zero_le _, rfl, HBM, Lib.hid ((show RowF wm g g N1 (fun q => 0) from ⟨HOW.out⟩).congr fun q hq => by simp)⟩
 case round =>
  obtain ⟨k, hkN, rfl, HB, HF⟩ := hrel
  by_cases hlt : k < N
  ·obtain ⟨x, hx⟩ : ∃ x, l[k]? = some x := ⟨_, List.getElem?_eq_getElem (by rw [← HN.out.1]; exact hlt)⟩
   obtain ⟨ad, hA, -⟩ := H.out.ad hx
   have HR := Lib.hid (H.out.below (HB.out.mono H.out.lo))
   obtain ⟨x0, x1, x2, x3, xl⟩ := HR.out.node hA hx
   subst hA
   have hDk := HD.out.at_ k x.nd (by rw [List.getElem?_map, hx]; rfl)
   obtain ⟨m, hm⟩ : ∃ m, m = x.nd.kids.length := ⟨_, rfl⟩
   rw [← hm] at x2
   have HX := Lib.hid (show x ∈ l ∧ m = x.nd.kids.length from ⟨List.mem_of_getElem? hx, hm⟩)
   have HDK := Lib.hid hDk
   have hkI : (k : Int) < (N : Int) := by omega
   have hk0 : (0 : Int) ≤ (k : Int) := by omega
   clear hx hDk hm
   go_upto_region 5 with fail
   refine gen_wpT fun W hW => ?_
   have HBW := Lib.hid (show Below wr.heap.size wr W by rw [← hW]; exact (Below.refl _ _).alloc (Nat.le_refl _) _)
   have HXB := Lib.hid (show W.heap[wr.heap.size]? = some (.cells #[.int .i64 x.nd.kind, .string x.nd.text, .slice x.A m x.c, .int .i64 (x.nd.a : Int)] 31 (0, 0)) by rw [← hW]; exact heap_new_at _ _ _ rfl)
   have HB1 := Lib.hid (HB.out.trans (HBW.out.mono HB.out.size))
   have HF1 := Lib.hid ((HF.out.below HBW.out).congr (f' := fun q => if q < k then D q else if q = k then maxL ((x.nd.kids.take 0).map D) else 0) fun q hq => by
    by_cases h1 : q < k
    ·simp [h1]
    ·simp [h1, maxL])
   have y2 := cell_of_blk (i := 2) HXB.out rfl
   have yl := blk_lt HXB.out
   clear hW x0 x1 x2 x3 xl
   go_wp2_with fail
   clear y2 yl
   go_loopw [22] (fun i2 wr2 => ∃ j : Nat, j ≤ m ∧ i2 = .int .i64 (j : Int) ∧ Hid (Below w.heap.size w wr2) ∧ Hid (RowF wr2 g g N1 (fun q => if q < k then D q else if q = k then maxL ((x.nd.kids.take j).map D) else 0))) (fun i2 _ => m - (intOf i2).toNat)
   case atStart => exact ⟨0, Nat.zero_le _, rfl, HB1, HF1⟩
   case round =>
    obtain ⟨j, hjm, rfl, HB2, HF2⟩ := hrel
    have hm9 : m ≤ 50000 := by rw [HX.out.2]; exact HKN.out x HX.out.1
    by_cases hjt : j < m
    ·obtain ⟨q, hq⟩ : ∃ q, x.nd.kids[j]? = some q := ⟨_, List.getElem?_eq_getElem (by rw [← HX.out.2]; exact hjt)⟩
     have HR2 := Lib.hid (H.out.below (HB2.out.mono H.out.lo))
     obtain ⟨bd, hbd, z1, zl1⟩ := HR2.out.kid HX.out.1 hq
     have hqk : q < k := HDK.out.1 q (List.mem_of_getElem? hq)
     obtain ⟨f1, f2, f3, -⟩ := HF2.out.cell (show k < N1 by have := HN.out; omega)
     obtain ⟨f4, f5, -, -⟩ := HF2.out.cell (show q < N1 by have := HN.out; omega)
     simp only [if_pos hqk, if_neg (Nat.lt_irrefl k), if_true] at f1 f4
     obtain ⟨v, hv⟩ : ∃ v, v = maxL ((x.nd.kids.take j).map D) := ⟨_, rfl⟩
     obtain ⟨v2, hv2⟩ : ∃ v2, v2 = max v (D q) := ⟨_, rfl⟩
     rw [← hv] at f1
     have hmx : max (v : Int) (D q : Int) = (v2 : Int) := by omega
     have HF3 := Lib.hid ((HF2.out.set k v2).congr (f' := fun q => if q < k then D q else if q = k then maxL ((x.nd.kids.take (j + 1)).map D) else 0) fun p hp => by
      by_cases h1 : p = k
      ·subst h1; simp only [if_true, if_neg (Nat.lt_irrefl p)]; rw [maxL_take hq, ← hv, hv2]
      ·simp only [if_neg h1])
     rw [hbd]
     have hjI : (j : Int) < (m : Int) := by omega
     have hj0 : (0 : Int) ≤ (j : Int) := by omega
     have hqI : (q : Int) < (k : Int) := by omega
     have hq0 : (0 : Int) ≤ (q : Int) := by omega
     have hkN1 : (k : Int) < (N1 : Int) := by have := HN.out; omega
     have hqN1 : (q : Int) < (N1 : Int) := by omega
     have hk0 : (0 : Int) ≤ (k : Int) := by omega
     clear hq hbd hv hv2 hqk
     go_upto_region 9 with fail
     have hgk : (⟨g, 0, none⟩ : Addr).add k = ⟨g, k, none⟩ := by rw [Addr.add_mid, Nat.zero_add]
     have hgq : (⟨g, 0, none⟩ : Addr).add q = ⟨g, q, none⟩ := by rw [Addr.add_mid, Nat.zero_add]
     go_region
     go_wp2_with fail
     go_roundw
     case rel => exact ⟨j + 1, by omega, by go_num, Lib.hid (below_dN (HB2.out.setCell (by rw [← HG.out]; exact Nat.le_refl _) _) 1), Lib.hid (HF3.out.drewN 1)⟩
     case measure => simp [intOf]; omega
    ·obtain rfl : j = m := by omega
     have hjq : ¬ (j : Int) < (j : Int) := by omega
     obtain ⟨f1, f2, f3, -⟩ := HF2.out.cell (show k < N1 by have := HN.out; omega)
     have hv : maxL ((x.nd.kids.take j).map D) + 1 = D k := by rw [HDK.out.2, HX.out.2, List.take_length]
     have hle := HD.out.le k
     rw [List.length_map, ← HN.out.1] at hle
     obtain ⟨v, hv9⟩ : ∃ v, v = maxL ((x.nd.kids.take j).map D) := ⟨_, rfl⟩
     simp only [if_neg (Nat.lt_irrefl k), if_true] at f1
     rw [← hv9] at f1 hv
     have hva : (v : Int) + 1 = (D k : Int) := by omega
     have hvw : IntKind.i64.wrap (D k : Int) = (D k : Int) := IntWalk.i64_in _ (by have := HNB.out; omega)
     have HF3 := Lib.hid ((HF2.out.set k (D k)).congr (f' := fun q => if q < k + 1 then D q else 0) fun p hp => by
      by_cases h1 : p = k
      ·subst h1; simp
      ·simp only [if_neg h1]
       by_cases h2 : p < k
       ·rw [if_pos h2, if_pos (by omega)]
       ·rw [if_neg h2, if_neg (by omega)])
     have hkN1 : (k : Int) < (N1 : Int) := by have := HN.out; omega
     have hk0 : (0 : Int) ≤ (k : Int) := by omega
     have hgk : (⟨g, 0, none⟩ : Addr).add k = ⟨g, k, none⟩ := by rw [Addr.add_mid, Nat.zero_add]
     clear hv hv9 hle
     go_wp2_with fail
     go_roundw
     case rel => exact ⟨k + 1, by omega, by go_num, Lib.hid (HB2.out.setCell (by rw [← HG.out]; exact Nat.le_refl _) _), HF3⟩
     case measure => simp [intOf]; omega
  ·obtain rfl : k = N := by omega
   have hq : ¬ (k : Int) < (k : Int) := by omega
   obtain ⟨f1, f2, f3, -⟩ := HF.out.cell (show lm < N1 by have := HN.out; omega)
   rw [if_pos (show lm < k by have := HN.out; have := HNB.out; omega)] at f1
   have hsb : (k : Int) - 1 = (lm : Int) := by have := HN.out; have := HNB.out; omega
   have hsw : IntKind.i64.wrap (lm : Int) = (lm : Int) := IntWalk.i64_in _ (by have := HN.out; have := HNB.out; omega)
   have hmx : max (lm : Int) 0 = (lm : Int) := by omega
   have hl0 : (0 : Int) ≤ (lm : Int) := by omega
   have hl1 : (lm : Int) < (N1 : Int) := by have := HN.out; omega
   have hgk : (⟨g, 0, none⟩ : Addr).add lm = ⟨g, lm, none⟩ := by rw [Addr.add_mid, Nat.zero_add]
   go_wp2_with fail
   go_ret
   exact ⟨rfl, HB.out⟩

theorem chan1_fit {T : List Tok} {M : Nat} (h : TokOk T M) {seen : List Int} {i : Nat} (hi : i + 1 < T.length) : FSat (fun x j => j < T.length ∧ i + 4 ≤ j ∧ ptS x = 1) (chan1 T seen i) := by
 unfold chan1
 refine FSat.token h hi (by decide) fun h2 => Sat.ite (fun _ => trivial) fun _ => FSat.need h h2 fun h3 => FSat.mask h h3 fun x j h4 h5 => Sat.ok ⟨h5, by omega, by rw [ptS, ptsS]⟩
def NodesS (w : World) (p : Nat) (A : Option Addr) (l : List NdM) : Prop := ∀ W : World, w.heap.size ≤ W.heap.size → (∀ b, p < b → b < w.heap.size → W.heap[b]? = w.heap[b]?) → NodesR W W.heap.size A l
theorem NodesS.here {w : World} {p : Nat} {A : Option Addr} {l : List NdM} (h : NodesS w p A l) : NodesR w w.heap.size A l := h w (Nat.le_refl _) fun _ _ _ => rfl
theorem NodesS.below {w w' : World} {p : Nat} {A : Option Addr} {l : List NdM} (h : NodesS w p A l) (hb : Below w.heap.size w w') : NodesS w' p A l := fun W h1 h2 => h W (Nat.le_trans hb.size h1) fun b h3 h4 => (h2 b h3 (Nat.lt_of_lt_of_le h4 hb.size)).trans (hb.block b h4)
theorem own_stay {w W : World} {p n c : Nat} {e : TypeId} {sz : Nat} {A : Option Addr} {xs : List Value} (h : w.ownsRow (p + 1) e sz (.slice A n c) n xs) (hx : n = 0 → xs = []) (hs : w.heap.size ≤ W.heap.size) (hb : ∀ b, p < b → b < w.heap.size → W.heap[b]? = w.heap[b]?) : Reads W W.heap.size A xs := by
 obtain ⟨A', c', hv, _, _, h3⟩ := own_form h
 injection hv with e1 e2 e3
 subst e1
 rcases Nat.eq_zero_or_pos n with h0 | h0
 ·exact .inl (hx h0)
 ·obtain ⟨gb, hA, h4, h5, ⟨cur, h6⟩, h7⟩ := h3 h0
  refine .inr ⟨⟨gb, 0, none⟩, hA, Nat.lt_of_lt_of_le h5 hs, fun j u hu => ?_⟩
  rw [Addr.add_mid, Nat.zero_add, ← h7 j u hu]
  unfold World.cell?
  simp only
  rw [hb gb (by omega) h5]
def ProgOut (w : World) (p : Nat) : Res PT → Ending → World → Prop
 | .bad a e => OutB w p a e
 | .ok t _ => fun e w' => Below p w w' ∧ if 50000 < ptS t then e = .panicked (wrongP 0 2) else if 200 < deepT t then e = .panicked (wrongP 0 61) else ∃ A c l, e = .returned (.slice A l.length c) ∧ l.map NdM.nd = flat 0 t ∧ NodesS w' p A l
theorem pa_nodes {K : PaK} {w : World} {p i o : Nat} {sn : Fin 8 → Bool} {ns : List Nd} {fp : List Nat} (h : PaAt K w p i o sn ns fp) : ∃ A c l, l.map NdM.nd = ns ∧ l.length = ns.length ∧ w.cell? ⟨p, 2, none⟩ = some (.slice A l.length c) ∧ NodesS w p A l ∧ p < w.heap.size := by
 obtain ⟨nv, l, hm⟩ := h.mem
 have hp := pa_cell hm.blk
 obtain ⟨A, c, hv, _, _, _⟩ := own_form hm.own
 have hl : l.length = ns.length := by rw [← hm.nds, List.length_map]
 have hown := hm.own
 rw [hv] at hown
 refine ⟨A, c, l, hm.nds, hl, by rw [hp.2.2.1, hv, hl], fun W h1 h2 => ⟨own_stay hown (fun h0 => ?_) h1 h2, fun x hx => own_stay (hm.kid x hx) (fun h0 => ?_) h1 h2, Nat.le_refl _, fun x hx => (own_readsX (hm.kid x hx)).2⟩, h.lt⟩
 ·rw [← hl] at h0
  rw [List.eq_nil_of_length_eq_zero h0]; rfl
 ·rw [List.eq_nil_of_length_eq_zero h0]; rfl
theorem kids_few (t : PT) {x : Nd} (hx : x ∈ flat 0 t) : x.kids.length ≤ ptS t := by
 have h1 := kids_all t
 have h2 := h1.length_eq
 rw [List.length_append, List.length_range, List.length_singleton] at h2
 have h3 : x.kids.length ≤ ((flat 0 t).flatMap Nd.kids).length := by
  obtain ⟨a, b, hab⟩ := List.append_of_mem hx
  rw [hab, List.flatMap_append, List.length_append, List.flatMap_cons, List.length_append]
  omega
 omega
theorem Reads.up {w : World} {B B2 : Nat} {A : Option Addr} {xs : List Value} (h : Reads w B A xs) (hb : B ≤ B2) : Reads w B2 A xs := h.imp id fun ⟨ad, h1, h2, h3⟩ => ⟨ad, h1, Nat.lt_of_lt_of_le h2 hb, h3⟩
set_option maxRecDepth 100000 in
theorem walk_program {K : PaK} {w : World} {p i o F : Nat} {sn : Fin 8 → Bool} {ns : List Nd} {fp : List Nat} (h : PaAt K w p i o sn ns fp) (hroom : i < K.T.length ∧ ns.length + 4 * (K.T.length - i) ≤ 890000) (hns : ns = []) (ho : o ≤ 150) (hsn : SnOk sn []) {r : Res PT} (hr : (Res.then (chansF K.T F [] [] i) fun l j => Res.then ((parF K.T F).one .block o j) fun b j => token K.T 0 j fun _ j => one1 (.mk 1 ⟨#[]⟩ 0 (l ++ [b])) j) = some r) : Calls Tryz.prog 11 #[.pointer (some ⟨p, 0, none⟩)] w (ProgOut w p r) := by
 have HB := Lib.hid (Beg.of h)
 have HTK := Lib.hid h.env.tok
 have HRM := Lib.hid hroom.2
 have HI := Lib.hid hroom.1
 have HO := Lib.hid ho
 have HS0 := Lib.hid (St.start h)
 have HLN := Lib.hid h.env.len
 have HSN := Lib.hid hsn
 have HNS := Lib.hid hns
 have HP0 := Lib.hid h
 clear h hroom hsn hns ho
 have HR := Lib.hid hr
 clear hr
 go_enter Tryz.func11, Tryz.ntmps11
 have hr := HR.out
 clear HR
 obtain ⟨X, hX⟩ : ∃ X, chansF K.T F [] [] i = X := ⟨_, rfl⟩
 rw [hX] at hr
 cases X with
 | none => exact absurd hr (by simp [Res.then])
 | some r1 =>
 have HX := Lib.hid hX
 have HRT := Lib.hid hr
 clear hX hr
 go_wp2_with fail
 go_loopw [3] (fun lv wr => ∃ (acc : List PT) (seen : List Int) (sn : Fin 8 → Bool) (i1 : Nat) (fp1 : List Nat) (f1 : Nat), Hid (St K w p i1 o sn ns fp acc wr fp1) ∧ Hid (Ints wr p fp1 lv (roots ns.length acc)) ∧ Hid (∀ g', lv.ownBlock = some g' → w.heap.size ≤ g') ∧ Hid (f1 ≤ F ∧ chansF K.T f1 seen acc i1 = some r1) ∧ Hid (SnOk sn seen) ∧ Hid (i1 < K.T.length ∧ ns.length + ptsS acc + 4 * (K.T.length - i1) ≤ 890000)) (fun lv _ => 900001 - sliceLen lv)
 case atStart => exact ⟨[], [], sn, i, fp, F, HS0, Lib.hid (Ints.nil _ _ _), Lib.hid (fun g' hg' => by simp [Value.ownBlock] at hg'), Lib.hid ⟨Nat.le_refl _, HX.out⟩, HSN, Lib.hid ⟨HI.out, by have := HRM.out; simp only [ptsS]; omega⟩⟩
 case round =>
  obtain ⟨acc, seen, sn, i1, fp1, f1, HS, HV, HG, HR0, HSN, HRL⟩ := hrel
  obtain ⟨A1, c1, hlv, hlc1, hlc2, hfm⟩ := own_form HV.out.own
  subst hlv
  obtain ⟨rl, hrl⟩ : ∃ k, k = (roots ns.length acc).length := ⟨_, rfl⟩
  have HKR := Lib.hid (show rl = acc.length by rw [hrl, roots_len])
  have HVR := Lib.hid (show Ints _ p _ (.slice A1 rl c1) (roots ns.length acc) by rw [hrl]; exact HV.out)
  rw [← hrl]
  clear hlc1 hlc2 hfm
  have HGR := Lib.hid (show ∀ g', (Value.slice A1 rl c1).ownBlock = some g' → w.heap.size ≤ g' by rw [hrl]; exact HG.out)
  clear hrl
  obtain ⟨hle, hr⟩ := HR0.out
  clear HR0
  cases f1 with
  | zero => exact absurd hr (by simp [chansF])
  | succ f =>
  have HLE := Lib.hid hle
  clear hle
  rw [chans_step] at hr
  have HC1 := Lib.hid (fun W (hW : W = wr.alloc (.cells #[.string ⟨#[99, 104, 97, 110, 110, 101, 108]⟩] 9)) => (show Calls Tryz.prog 19 #[.pointer (some ⟨p, 0, none⟩), .slice (some ⟨wr.heap.size, 0, none⟩) 1 1] W (RetB (.bool (isAny (tk K.T i1) [⟨#[99, 104, 97, 110, 110, 101, 108]⟩])) W) from
   is_any (K := K) (i := i1) (o := o) (sn := sn) (ns := ns ++ flats ns.length acc) (fp := fp1) (c := 1) (L := [⟨#[99, 104, 97, 110, 110, 101, 108]⟩]) (hW ▸ HS.out.pa.below ((Below.refl _ _).alloc (Nat.le_refl _) _)) HRL.out.1 (by rw [hW]; exact .inr ⟨⟨wr.heap.size, 0, none⟩, rfl, by simp, fun j u hu => news_new wr #[.string ⟨#[99, 104, 97, 110, 110, 101, 108]⟩] _ _ rfl j u hu⟩) (by simp)))
  cases hb : isAny (tk K.T i1) [⟨#[99, 104, 97, 110, 110, 101, 108]⟩] with
  | true =>
   rw [if_pos hb] at hr
   have HLT4 := Lib.hid (any_lt HTK.out HRL.out.1 hb)
   have HBB := Lib.hid hb
   clear hb
   have HR := Lib.hid hr
   clear hr
   go_wp2_with fail
   refine (HC1.out _ rfl).mono ?_
   rw [HBB.out]
   rintro e w5 ⟨rfl, h2⟩
   have HK7 := Lib.hid (show Below wr.heap.size wr w5 from ((Below.refl _ _).alloc (Nat.le_refl _) _).trans (h2.mono (by simp)))
   have HS6 := Lib.hid (HS.out.below HK7.out)
   have HV8 := Lib.hid (HVR.out.to (PaTo.of_below HS.out.pa HK7.out))
   clear h2
   have hr := HR.out
   clear HR
   have HCH := HBB
   obtain ⟨X, hX⟩ : ∃ X, chan1 K.T seen i1 = X := ⟨_, rfl⟩
   rw [hX] at hr
   cases X with
   | none => exact absurd hr (by simp [Res.then])
   | some X =>
   have hft := chan1_fit (seen := seen) HTK.out HLT4.out
   rw [hX] at hft
   cases X with
   | bad a n =>
    have HRR9 := Lib.hid (show Res.bad a n = r from (by dsimp only [Res.then] at hr; have h1 := Option.some.inj hr; have h2 := HRT.out; rw [← h1] at h2; dsimp only [Res.then] at h2; exact Option.some.inj h2))
    clear hft
    have HC20 := Lib.hid ((walk_channel (o := o) HS6.out.pa ⟨HRL.out.1, by rw [len_more]; have := HRL.out; omega⟩ HSN.out HCH.out hX).mono fun e w' hh => (show OutB w p a n e w' from ⟨hh.1, HS6.out.bad HB.out hh.2⟩))
    clear hr hX
    go_wp2_with fail
    refine HC20.out.mono ?_
    rintro e wb ⟨rfl, hb⟩
    have HB19 := Lib.hid hb
    clear hb
    unfold wrongP
    go_wp2
    exact ⟨rfl, by rw [← HRR9.out]; exact ⟨rfl, HB19.out⟩⟩
   | ok t10 j11 =>
    have HF12 := Lib.hid (show j11 < K.T.length ∧ i1 + 4 ≤ j11 ∧ ptS t10 = 1 from hft)
    clear hft
    dsimp only [Res.then] at hr
    have HC13 := Lib.hid (walk_channel (o := o) HS6.out.pa ⟨HRL.out.1, by rw [len_more]; have := HRL.out; omega⟩ HSN.out HCH.out hX)
    clear hX
    have HR := Lib.hid hr
    clear hr
    go_wp2_with fail
    refine HC13.out.mono ?_
    rintro e w14 ⟨rfl, fp15, sn2, h1, h2, h3⟩
    rw [show (ns ++ flats ns.length acc).length + ptS t10 - 1 = nr ns acc t10 from by rw [len_more]; rfl]
    obtain ⟨n17, hn⟩ : ∃ n, n = nr ns acc t10 := ⟨_, rfl⟩
    rw [← hn]
    have HN18 := Lib.hid hn
    have HSN2 := Lib.hid h3
    have HS16 := Lib.hid (show St K w p j11 o sn2 ns fp (acc ++ [t10]) w14 fp15 from ⟨by rw [← flats_one_more]; exact h1, HS6.out.pt.trans h2⟩)
    have HV21 := Lib.hid (HV8.out.to h2)
    clear h1 h2 h3 hn
    have hr := HR.out
    clear HR
    have HKB31 := Lib.hid (show rl ≤ 900000 by have h9 := HKR.out; have h8 := ptsS_len acc; have h7 := (show ns.length + ptsS (acc ++ [t10]) + 4 * (K.T.length - j11) ≤ 900000 from by have := HRM.out; have := HRL.out; have := HLT4.out; have := HF12.out; (try simp only [ptsS, ptS, noneT, ptsS_append, Nat.add_zero, Nat.zero_add]); omega); (try simp only [ptsS_append, List.length_append] at h7 h8 h9); omega)
    try unfold natV
    have HR := Lib.hid hr
    clear hr
    go_wp2_with (at_builtin; (refine wpList_push (n := n17) rfl _ _ rfl HS16.out HV21.out (by rw [roots_len]; exact HKR.out) HKB31.out (B := w.heap.size) (Nat.le_refl _) HS16.out.pt.fr.size HGR.out rfl rfl rfl ?_); intro g22 cap23 w24 h1 h2 h3 h4; skip; have HS27 := Lib.hid h1; have HV25 := Lib.hid h2; have HGO26 := Lib.hid h3; clear h1 h2 h3 h4)
    obtain ⟨k29, hk2⟩ : ∃ k, k = rl + 1 := ⟨_, rfl⟩
    have HK30 := Lib.hid (show k29 = (acc ++ [t10]).length by rw [hk2, HKR.out]; simp)
    have HV32 := Lib.hid (show Ints w24 p fp15 (.slice (some ⟨g22, 0, none⟩) k29 cap23) (roots ns.length (acc ++ [t10])) by rw [roots_more, ← HN18.out, hk2]; exact HV25.out)
    rw [← hk2] at HGO26
    try rw [← hk2]
    clear hk2
    have hr := HR.out
    clear HR
    have HRF := Lib.hid hr
    clear hr
    go_wp2_with fail
    go_roundw
    case rel => exact ⟨_, _, sn2, j11, fp15, f, HS27, HV32, HGO26, Lib.hid ⟨by have := HLE.out; omega, HRF.out⟩, HSN2, Lib.hid ⟨HF12.out.1, by have := HRM.out; have := HRL.out; have := HLT4.out; have := HF12.out; (try simp only [ptsS, ptS, noneT, ptsS_append, Nat.add_zero, Nat.zero_add]); omega⟩⟩
    case measure => have h5 := HK30.out; rw [List.length_append, List.length_singleton] at h5; have := HKR.out; have h8 := ptsS_len acc; have := HRL.out; simp [sliceLen]; omega
  | false =>
   rw [if_neg (by rw [hb]; decide)] at hr
   have HBB := Lib.hid hb
   clear hb
   have HR := Lib.hid hr
   clear hr
   go_wp2_with fail
   refine (HC1.out _ rfl).mono ?_
   rw [HBB.out]
   rintro e w33 ⟨rfl, h2⟩
   have HK35 := Lib.hid (show Below wr.heap.size wr w33 from ((Below.refl _ _).alloc (Nat.le_refl _) _).trans (h2.mono (by simp)))
   have HS34 := Lib.hid (HS.out.below HK35.out)
   have HV36 := Lib.hid (HVR.out.to (PaTo.of_below HS.out.pa HK35.out))
   clear h2
   have hr := HR.out
   clear HR
   have h1 := Option.some.inj hr
   subst h1
   clear hr HX
   have hr := HRT.out
   dsimp only [Res.then] at hr
   clear HRT
   have HAP := Lib.hid (all_part F)
   obtain ⟨X, hX⟩ : ∃ X, (parF K.T F).one (.block) o i1 = X := ⟨_, rfl⟩
   rw [hX] at hr
   cases X with
   | none => exact absurd hr (by simp [Res.then])
   | some X =>
   cases X with
   | bad a n =>
    have HRR39 := Lib.hid (show Res.bad a n = r from (by dsimp only [Res.then] at hr; exact Option.some.inj hr))
    have HC42 := Lib.hid (call_bad (HAP.out.block) HS34.out HB.out ⟨HRL.out.1, by have := HRM.out; have := HRL.out; (try simp only [ptsS, ptS, noneT, ptsS_append, Nat.add_zero, Nat.zero_add]); omega⟩ HO.out hX)
    clear hr hX
    go_wp2_with fail
    refine HC42.out.mono ?_
    rintro e wb ⟨rfl, hb⟩
    have HB41 := Lib.hid hb
    clear hb
    unfold wrongP
    go_wp2
    exact ⟨rfl, by rw [← HRR39.out]; exact ⟨rfl, HB41.out⟩⟩
   | ok t37 j38 =>
    have hft := (fit_all HTK.out F).one (.block) o i1 HRL.out.1
    rw [hX] at hft
    obtain ⟨f1, f2, f3⟩ := hft
    simp only [lazy1, sl1, ex1, Bool.false_eq_true, if_false, if_true] at f2 f3
    have HF40 := Lib.hid (And.intro f1 (And.intro f2 f3))
    clear f1 f2 f3
    have HC46 := Lib.hid (call_ok (HAP.out.block) HS34.out ⟨HRL.out.1, by have := HRM.out; have := HRL.out; (try simp only [ptsS, ptS, noneT, ptsS_append, Nat.add_zero, Nat.zero_add]); omega⟩ HO.out hX)
    dsimp only [Res.then] at hr
    clear hX
    have HR := Lib.hid hr
    clear hr
    go_wp2_with fail
    refine HC46.out.mono ?_
    rintro e w43 ⟨rfl, fp44, h1, h2⟩
    obtain ⟨n47, hn⟩ : ∃ n, n = nr ns acc t37 := ⟨_, rfl⟩
    rw [← hn]
    have HN48 := Lib.hid hn
    have HS45 := Lib.hid (show St K w p j38 o sn ns fp (acc ++ [t37]) w43 fp44 from h1)
    have HV49 := Lib.hid (HV36.out.to h2)
    clear h1 h2 hn
    have hr := HR.out
    clear HR
    have HKB59 := Lib.hid (show rl ≤ 900000 by have h9 := HKR.out; have h8 := ptsS_len acc; have h7 := (show ns.length + ptsS (acc ++ [t37]) + 4 * (K.T.length - j38) ≤ 900000 from by have := HRM.out; have := HRL.out; have := HF40.out; (try simp only [ptsS, ptS, noneT, ptsS_append, Nat.add_zero, Nat.zero_add]); omega); (try simp only [ptsS_append, List.length_append] at h7 h8 h9); omega)
    try unfold natV
    have HR := Lib.hid hr
    clear hr
    go_wp2_with (at_builtin; (refine wpList_push (n := n47) rfl _ _ rfl HS45.out HV49.out (by rw [roots_len]; exact HKR.out) HKB59.out (B := w.heap.size) (Nat.le_refl _) HS45.out.pt.fr.size HGR.out rfl rfl rfl ?_); intro g50 cap51 w52 h1 h2 h3 h4; skip; have HS55 := Lib.hid h1; have HV53 := Lib.hid h2; have HGO54 := Lib.hid h3; clear h1 h2 h3 h4)
    obtain ⟨k57, hk2⟩ : ∃ k, k = rl + 1 := ⟨_, rfl⟩
    have HK58 := Lib.hid (show k57 = (acc ++ [t37]).length by rw [hk2, HKR.out]; simp)
    have HV60 := Lib.hid (show Ints w52 p fp44 (.slice (some ⟨g50, 0, none⟩) k57 cap51) (roots ns.length (acc ++ [t37])) by rw [roots_more, ← HN48.out, hk2]; exact HV53.out)
    rw [← hk2] at HGO54
    try rw [← hk2]
    clear hk2
    have hr := HR.out
    clear HR
    unfold token at hr
    by_cases hk : (tk K.T j38).kind = 0
    ·rw [if_pos hk] at hr
     dsimp only at hr
     have HC66 := Lib.hid (token_ok HS55.out.pa HF40.out.1 0 hk)
     clear hk
     have HR := Lib.hid hr
     clear hr
     go_wp2_with fail
     refine HC66.out.mono ?_
     rintro e w64 ⟨rfl, h1, h2⟩
     have HS65 := Lib.hid (HS55.out.step h1 h2)
     have HV67 := Lib.hid (HV60.out.to h2)
     clear h1 h2
     have hr := HR.out
     clear HR
     have HRR := Lib.hid (show Res.ok _ _ = r from Option.some.inj hr)
     clear hr
     have HSZ := Lib.hid (show ns.length + ptsS (acc ++ [t37]) ≤ 900000 by have h7 := (show ns.length + ptsS (acc ++ [t37]) + 4 * (K.T.length - j38) ≤ 900000 from by have := HRM.out; have := HRL.out; have := HF40.out; (try simp only [ptsS, ptS, noneT, ptsS_append, Nat.add_zero, Nat.zero_add]); omega); omega)
     have HC68 := Lib.hid (lay_row HS65.out HSZ.out 1 ⟨#[]⟩ 0 HV67.out)
     unfold natV at HC68
     go_wp2_with fail
     refine HC68.out.mono ?_
     rintro e w69 ⟨rfl, fp70, h1, h2⟩
     clear HC68
     rw [HNS.out] at h1
     obtain ⟨t, ht⟩ : ∃ t, t = PT.mk 1 ⟨#[]⟩ 0 (acc ++ [t37]) := ⟨_, rfl⟩
     rw [← ht] at h1
     have HRR := Lib.hid (show Res.ok t (j38 + 1) = r by rw [ht]; exact HRR.out)
     obtain ⟨A9, c9, l, g1, g2, g3, g4, g5⟩ := pa_nodes h1
     rw [show ([] : List Nd) ++ flat ([] : List Nd).length t = flat 0 t from rfl] at g1 g2
     rw [flat_len] at g2
     have HBW := Lib.hid (show Below p w w69 from h2.below HP0.out)
     have HGN := Lib.hid (And.intro g1 (And.intro g2 g4))
     have HMEM := Lib.hid (And.intro g3 g5)
     clear h1 h2 g1 g2 g4 ht
     obtain ⟨N, hN⟩ : ∃ N, N = l.length := ⟨_, rfl⟩
     rw [← hN] at g3
     have HNL := Lib.hid hN
     clear hN
     by_cases hbig : 50000 < N
     ·have hq : (50000 : Int) < (N : Int) := by omega
      have HBG := Lib.hid (show 50000 < ptS t by rw [← HGN.out.2.1, ← HNL.out]; exact hbig)
      clear hbig
      go_wp2
      exact ⟨rfl, by rw [← HRR.out]; exact ⟨HBW.out, by rw [if_pos HBG.out]; rfl⟩⟩
     ·have hq : ¬ (50000 : Int) < (N : Int) := by omega
      have HBG := Lib.hid (show ¬ 50000 < ptS t by rw [← HGN.out.2.1, ← HNL.out]; exact hbig)
      have hD := deepF_tree t
      rw [← HGN.out.1] at hD
      have htd := tdeep_any c9 HGN.out.2.2.here hD (by rw [← HNL.out]; omega) (by rw [HGN.out.2.1]; exact ptS_pos t) (fun x hx => by
       have h9 := kids_few t (x := x.nd) (by rw [← HGN.out.1]; exact List.mem_map.2 ⟨x, hx, rfl⟩)
       have := HBG.out
       omega)
      rw [HGN.out.2.1, deepF_last t, ← HGN.out.2.1, ← HNL.out] at htd
      have HTD := Lib.hid htd
      clear hbig hD htd
      go_wp2_with fail
      refine HTD.out.mono ?_
      rintro e wd ⟨rfl, h2⟩
      have HB9 := Lib.hid h2
      have HBP := Lib.hid (HBW.out.trans (h2.mono (Nat.le_of_lt HMEM.out.2)))
      clear h2 g3 g5
      have z2 := (HB9.out.cell (p := ⟨p, 2, none⟩) HMEM.out.2).trans HMEM.out.1
      rw [← HNL.out] at z2
      have zl : p < wd.heap.size := Nat.lt_of_lt_of_le HMEM.out.2 HB9.out.size
      by_cases hdp : 200 < deepT t
      ·have hq2 : (200 : Int) < (deepT t : Int) := by omega
       have HDP := Lib.hid hdp
       clear hdp
       go_wp2
       exact ⟨rfl, by rw [← HRR.out]; exact ⟨HBP.out, by rw [if_neg HBG.out, if_pos HDP.out]; rfl⟩⟩
      ·have hq2 : ¬ (200 : Int) < (deepT t : Int) := by omega
       have HDP := Lib.hid hdp
       clear hdp
       go_wp2
       go_ret
       exact (by rw [← HRR.out]; exact ⟨HBP.out, by rw [if_neg HBG.out, if_neg HDP.out]; exact ⟨A9, c9, l, by rw [← HNL.out]; rfl, HGN.out.1, HGN.out.2.2.below HB9.out⟩⟩)
    ·rw [if_neg hk] at hr
     have HRR61 := Lib.hid (show Res.bad _ _ = r from (by exact Option.some.inj hr))
     have HC63 := Lib.hid ((token_no HS55.out.pa HF40.out.1 0 hk).mono fun e w' hh => (show OutB w p _ 70 e w' from ⟨hh.1, HS55.out.bad HB.out hh.2⟩))
     clear hr hk
     go_wp2_with fail
     refine HC63.out.mono ?_
     rintro e wb ⟨rfl, hb⟩
     have HB62 := Lib.hid hb
     clear hb
     unfold wrongP
     go_wp2
     exact ⟨rfl, by rw [← HRR61.out]; exact ⟨rfl, HB62.out⟩⟩
end Go.Proofs.YthobobmbileekaaGreatDoor
namespace Go.Proofs.YthobobmbileekaaGreatDoor

theorem tokenL_err {l : List UInt8} {er : Nat} (h : tokenL l = .inl er) : er = 50 ∨ er = 51 ∨ er = 52 := by
 match l with
 | [] => simp [tokenL] at h; omega
 | c :: r =>
  rw [tokenL] at h
  split at h
  ·simp only at h
   split at h
   ·simp at h
   ·split at h
    ·simp at h; omega
    ·simp at h
  ·split at h
   ·split at h
    ·simp at h; omega
    ·simp at h
   ·split at h
    ·simp at h; omega
    ·simp at h
theorem scanF_err : ∀ (f : Nat) (l : List UInt8) (p : Nat) (acc : List Tok) (q er : Nat), scanF f l p acc = .inl (q, er) → (er = 50 ∨ er = 51 ∨ er = 52) ∧ p ≤ q ∧ q < p + l.length
 | 0, l, p, acc, q, er, h => by simp [scanF] at h
 | f + 1, l, p, acc, q, er, h => by
  rw [scanF] at h
  by_cases hl : l = []
  ·rw [if_pos hl] at h; simp at h
  ·rw [if_neg hl] at h
   have h0 : 0 < l.length := List.length_pos_iff.2 hl
   match ht : tokenL l with
   | .inl e =>
    rw [ht] at h
    simp only [Sum.inl.injEq, Prod.mk.injEq] at h
    obtain ⟨rfl, rfl⟩ := h
    exact ⟨tokenL_err ht, Nat.le_refl _, by omega⟩
   | .inr (k, x, v, n) =>
    rw [ht] at h
    have h1 := tokenL_len ht
    have h2 := blankL_le (l.drop n) false
    have h3 := scanF_err f _ _ _ q er h
    rw [List.length_drop] at h2 h3
    exact ⟨h3.1, by omega, by omega⟩
theorem scanL_err {L : List UInt8} {q er : Nat} (h : scanL L = .inl (q, er)) : (er = 50 ∨ er = 51 ∨ er = 52) ∧ q < L.length := by
 unfold scanL scanAt at h
 have h1 := scanF_err _ _ _ _ q er h
 have h2 := blankL_le L false
 rw [List.length_drop] at h1
 exact ⟨h1.1, by omega⟩
end Go.Proofs.YthobobmbileekaaGreatDoor
