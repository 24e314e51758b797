/-
 ParseChecks: part 15 of what the claim rests on.
-/
import Derived.Test.YthobobmbileekaaGreatDoorC01
import Derived.Test.YthobobmbileekaaGreatDoorC02
import Derived.Test.YthobobmbileekaaGreatDoorC04
import Derived.Test.YthobobmbileekaaGreatDoorC11
import Derived.Test.YthobobmbileekaaGreatDoorC13
import Derived.Test.YthobobmbileekaaGreatDoorC14
import Derived.Laws.OwnMore
import Derived.OwnWalk
import Derived.BigQuiet
import Derived.Deep.AppendLies
set_option linter.unusedVariables false
set_option linter.unusedSimpArgs false
set_option maxHeartbeats 64000000
set_option maxRecDepth 100000
namespace Go.Proofs.YthobobmbileekaaGreatDoor

mutual
def IsTree (ns : List Nd) : PT → Nat → Prop
 | .mk k x a l, q => ∃ ks, ns[q]? = some ⟨k, x, ks, a⟩ ∧ AllTrees ns l ks
def AllTrees (ns : List Nd) : List PT → List Nat → Prop
 | [], ks => ks = []
 | t :: r, ks => ∃ q ks', ks = q :: ks' ∧ IsTree ns t q ∧ AllTrees ns r ks'
end
theorem AllTrees.len {ns : List Nd} : ∀ {l : List PT} {ks : List Nat}, AllTrees ns l ks → ks.length = l.length
 | [], ks, h => by rw [AllTrees] at h; rw [h]; rfl
 | t :: r, ks, h => by
  rw [AllTrees] at h; obtain ⟨q, ks', rfl, _, h2⟩ := h; rw [List.length_cons, List.length_cons, h2.len]
theorem AllTrees.get {ns : List Nd} : ∀ {l : List PT} {ks : List Nat}, AllTrees ns l ks → ∀ (j q : Nat), ks[j]? = some q → ∃ t, l[j]? = some t ∧ IsTree ns t q
 | [], ks, h, j, q, hj => by rw [AllTrees] at h; rw [h] at hj; simp at hj
 | t :: r, ks, h, j, q, hj => by
  rw [AllTrees] at h; obtain ⟨q', ks', rfl, h1, h2⟩ := h
  cases j with
  | zero =>
   obtain rfl : q' = q := by simpa using hj
   exact ⟨t, rfl, h1⟩
  | succ j => exact h2.get j q (by simpa using hj)
mutual
theorem tree_in (ns : List Nd) : ∀ (t : PT) (pre post : List Nd), ns = pre ++ flat pre.length t ++ post → IsTree ns t (pre.length + ptS t - 1) ∧ ∀ i, i < ptS t → ∃ t', IsTree ns t' (pre.length + i) ∧ ∀ M, okT M t → okT M t'
 | .mk k x a l, pre, post, h => by
  rw [flat] at h; have h0 : ns = pre ++ flats pre.length l ++ (⟨k, x, roots pre.length l, a⟩ :: post) := by rw [h]; simp
  obtain ⟨h1, h2⟩ := trees_in ns l pre _ h0; have hs : ptS (.mk k x a l) = ptsS l + 1 := by rw [ptS]
  have hroot : IsTree ns (.mk k x a l) (pre.length + ptsS l) := by
   rw [IsTree]; refine ⟨roots pre.length l, ?_, h1⟩; rw [h0, List.append_assoc, List.getElem?_append_right (by omega), List.getElem?_append_right (by rw [flats_len]; omega), flats_len, show pre.length + ptsS l - pre.length - ptsS l = 0 by omega]
   rfl
  refine ⟨by rw [hs, show pre.length + (ptsS l + 1) - 1 = pre.length + ptsS l by omega]; exact hroot, fun i hi => ?_⟩; rw [hs] at hi
  rcases Nat.lt_or_ge i (ptsS l) with h3 | h3
  ·obtain ⟨t', h4, h5⟩ := h2 i h3
   exact ⟨t', h4, fun M hM => h5 M (by rw [okT] at hM; exact hM.1)⟩
  ·obtain rfl : i = ptsS l := by omega
   exact ⟨_, hroot, fun M hM => hM⟩
theorem trees_in (ns : List Nd) : ∀ (l : List PT) (pre post : List Nd), ns = pre ++ flats pre.length l ++ post → AllTrees ns l (roots pre.length l) ∧ ∀ i, i < ptsS l → ∃ t', IsTree ns t' (pre.length + i) ∧ ∀ M, okTs M l → okT M t'
 | [], pre, post, h => ⟨by rw [AllTrees]; rfl, fun i hi => by rw [ptsS] at hi; omega⟩
 | t :: r, pre, post, h => by
  rw [flats] at h; have h0 : ns = pre ++ flat pre.length t ++ (flats (pre.length + ptS t) r ++ post) := by rw [h]; simp
  have hl : (pre ++ flat pre.length t).length = pre.length + ptS t := by rw [List.length_append, flat_len]
  have h0' : ns = (pre ++ flat pre.length t) ++ flats (pre ++ flat pre.length t).length r ++ post := by rw [hl, h]; simp
  obtain ⟨h1, h2⟩ := tree_in ns t pre _ h0; obtain ⟨h3, h4⟩ := trees_in ns r _ post h0'; rw [hl] at h3 h4; refine ⟨by rw [AllTrees, roots]; exact ⟨_, _, rfl, h1, h3⟩, fun i hi => ?_⟩; rw [ptsS] at hi
  rcases Nat.lt_or_ge i (ptS t) with h5 | h5
  ·obtain ⟨t', h6, h7⟩ := h2 i h5
   exact ⟨t', h6, fun M hM => h7 M (by rw [okTs] at hM; exact hM.1)⟩
  ·obtain ⟨t', h6, h7⟩ := h4 (i - ptS t) (by omega)
   rw [show pre.length + ptS t + (i - ptS t) = pre.length + i by omega] at h6; exact ⟨t', h6, fun M hM => h7 M (by rw [okTs] at hM; exact hM.2)⟩
end
theorem tree_at (t : PT) {M : Nat} (h : okT M t) {i : Nat} (hi : i < ptS t) : ∃ t', IsTree (flat 0 t) t' i ∧ okT M t' := by
 obtain ⟨_, h2⟩ := tree_in (flat 0 t) t [] [] (by simp)
 obtain ⟨t', h3, h4⟩ := h2 i hi
 exact ⟨t', by simpa using h3, h4 M h⟩
theorem tree_last (t : PT) : IsTree (flat 0 t) t (ptS t - 1) := by
 have := (tree_in (flat 0 t) t [] [] (by simp)).1
 simpa using this
theorem IsTree.node {ns : List Nd} {t : PT} {q : Nat} (h : IsTree ns t q) : ∃ ks, ns[q]? = some ⟨t.kind, t.text, ks, t.a⟩ ∧ AllTrees ns t.kids ks := by
 cases t with
 | mk k x a l => rw [IsTree] at h; exact h
theorem base_kid {M : Nat} {t : PT} (h : okT M t) (hk : t.kind = 18 ∨ t.kind = 19 ∨ t.kind = 20) : ∃ u r, t.kids = u :: r ∧ okT M u ∧ rootT t = rootT u := by
 cases t with
 | mk k x a l =>
  rw [okT] at h; obtain ⟨h1, ⟨_, _, h2, _, _⟩, _⟩ := h; have hk : k = 18 ∨ k = 19 ∨ k = 20 := hk
  cases l with
  | nil =>
   obtain ⟨A, Mm, B, e1, e2, _⟩ := h2; have e3 : A = [] ∧ Mm = [] ∧ B = [] := by
    have := congrArg List.length e1; simp at this
    refine ⟨List.eq_nil_of_length_eq_zero (by omega), List.eq_nil_of_length_eq_zero (by omega), List.eq_nil_of_length_eq_zero (by omega)⟩
   rw [e3.1] at e2
   rcases hk with rfl | rfl | rfl
   ·exact absurd e2 (by simp [formK, rowK])
   ·exact absurd e2 (by simp [formK, rowK])
   ·exact absurd e2 (by simp [formK, rowK])
  | cons u r =>
   rw [okTs] at h1; refine ⟨u, r, rfl, h1.1, ?_⟩; rw [rootT, if_pos (show k = 18 ∨ k = 19 ∨ k = 20 from hk)]
theorem root_stop {t : PT} (hk : ¬ (t.kind = 18 ∨ t.kind = 19 ∨ t.kind = 20)) : rootT t = t.kind := by
 cases t with
 | mk k x a l =>
  cases l with
  | nil => rw [rootT]; rfl
  | cons u r => rw [rootT, if_neg (show ¬ (k = 18 ∨ k = 19 ∨ k = 20) from hk)]; rfl
theorem okT_loc {M : Nat} {t : PT} (h : okT M t) : LocK t.kind t.text t.kids ∧ t.a ≤ M ∧ ∀ u ∈ t.kids, okT M u := by
 cases t with
 | mk k x a l => rw [okT] at h; exact ⟨h.2.1, h.2.2, (okTs_iff M l).1 h.1⟩
def kindAt (ns : List Nd) (q : Nat) : Int := (ns[q]?.map Nd.kind).getD 0
def textAt (ns : List Nd) (q : Nat) : ByteArray := (ns[q]?.map Nd.text).getD ⟨#[]⟩
theorem IsTree.kt {ns : List Nd} {t : PT} {q : Nat} (h : IsTree ns t q) : kindAt ns q = t.kind ∧ textAt ns q = t.text := by
 obtain ⟨ks, h1, _⟩ := h.node
 unfold kindAt textAt
 rw [h1]
 exact ⟨rfl, rfl⟩
theorem AllTrees.kinds {ns : List Nd} : ∀ {l : List PT} {ks : List Nat}, AllTrees ns l ks → ks.map (kindAt ns) = l.map PT.kind ∧ ks.map (textAt ns) = l.map PT.text
 | [], ks, h => by rw [AllTrees] at h; rw [h]; exact ⟨rfl, rfl⟩
 | t :: r, ks, h => by
  rw [AllTrees] at h; obtain ⟨q, ks', rfl, h1, h2⟩ := h; obtain ⟨e1, e2⟩ := h2.kinds; obtain ⟨e3, e4⟩ := h1.kt; rw [List.map_cons, List.map_cons, List.map_cons, List.map_cons, e1, e2, e3, e4]; exact ⟨rfl, rfl⟩
theorem chan_digit {M : Nat} {t : PT} (h : okT M t) (hc : chanT t = true) : t.kind = 15 ∧ ∃ n : Int, 0 ≤ n ∧ n ≤ 7 ∧ t.text = numText n := by
 unfold chanT at hc
 rw [Bool.and_eq_true, Bool.and_eq_true, decide_eq_true_eq, decide_eq_true_eq] at hc
 obtain ⟨⟨hk, hs⟩, hb⟩ := hc
 refine ⟨hk, ?_⟩
 obtain ⟨⟨_, _, _, ht, _⟩, _, _⟩ := okT_loc h
 rw [hk] at ht
 unfold TextK at ht
 rw [if_neg (by decide), if_neg (by decide), if_neg (by decide), if_neg (by decide), if_neg (by decide), if_pos rfl] at ht
 obtain ⟨n, h0, h1, hx⟩ := ht
 rcases Int.lt_or_le n 10 with h10 | h10
 ·rcases Int.lt_or_le n 8 with h8 | h8
  ·exact ⟨n, h0, by omega, hx⟩
  ·exfalso
   rw [hx] at hb; have e7 : (⟨#[55]⟩ : ByteArray).toList = [55] := by rw [ByteArray.toList_eq]
   rcases (show n = 8 ∨ n = 9 by omega) with rfl | rfl
   ·rw [show numText 8 = ⟨#[56]⟩ from by kernel_rfl, e7, show (⟨#[56]⟩ : ByteArray).toList = [56] from by rw [ByteArray.toList_eq]] at hb
    exact absurd hb (by decide)
   ·rw [show numText 9 = ⟨#[57]⟩ from by kernel_rfl, e7, show (⟨#[57]⟩ : ByteArray).toList = [57] from by rw [ByteArray.toList_eq]] at hb
    exact absurd hb (by decide)
 ·exfalso
  rw [hx, text_size] at hs; unfold Lib.itoa at hs; rw [if_neg (by omega)] at hs; have h2 : ∀ u, 10 ≤ u → 2 ≤ (Lib.decDigits u).length := fun u hu => by
   rw [Lib.decDigits, dif_neg (by omega), List.length_append]; have := List.length_pos_iff.2 (digits_ne (u / 10)); simp
   omega
  have h3 := h2 n.toNat (by omega); have h4 := h2 n.natAbs (by omega)
  omega
theorem kid_kind {k x : Int} {l : List Int} (h : KidsK k l) (hx : x ∈ l) : x ≠ 1 := by
 obtain ⟨A, M, B, rfl, h1, h2, h3⟩ := h
 have hl : ∀ {L : Let} {n : Int}, isK n L → n ≠ 1 := fun {L n} hn => by
  cases L <;> (unfold isK at hn; omega)
 have hr : ∀ {a : List Let} {l : List Int}, rowK a l → ∀ y ∈ l, y ≠ 1 := fun {a} => by
  induction a with
  | nil => intro l h y hy; rw [show l = [] from h] at hy; simp at hy
  | cons L r ih =>
   intro l h y hy
   cases l with
   | nil => simp at hy
   | cons z m =>
    obtain ⟨e1, e2⟩ : isK z L ∧ rowK r m := h
    rcases List.mem_cons.1 hy with rfl | hy
    ·exact hl e1
    ·exact ih e2 y hy
 rcases List.mem_append.1 hx with hx | hx
 ·rcases List.mem_append.1 hx with hx | hx
  ·exact hr h1 x hx
  ·obtain ⟨y, _, hy⟩ := h3 x hx; exact hl hy
 ·exact hr h2 x hx
theorem prog_last (t : PT) {M : Nat} (h : okT M t) (hk : t.kind = 1) {i : Nat} {nd : Nd} (hi : (flat 0 t)[i]? = some nd) : nd.kind = 1 ↔ i = ptS t - 1 := by
 have hlt : i < ptS t := by rw [← flat_len 0 t]; exact (List.getElem?_eq_some_iff.1 hi).1
 constructor
 ·intro h1
  by_cases he : i = ptS t - 1
  ·exact he
  ·exfalso
   have hm := (kids_mem t hlt).2 he; obtain ⟨pd, hp, hq⟩ := List.mem_flatMap.1 hm; obtain ⟨j, hj, hj2⟩ := List.getElem_of_mem hp; have hj' : j < ptS t := by rw [← flat_len 0 t]; exact hj
   obtain ⟨u, hu, hok⟩ := tree_at t h hj'; obtain ⟨ks, h2, h3⟩ := hu.node; rw [List.getElem?_eq_getElem hj, hj2] at h2; obtain rfl := Option.some.inj h2; obtain ⟨⟨_, _, hkk, _⟩, _, _⟩ := okT_loc hok; obtain ⟨e1, _⟩ := h3.kinds; rw [← e1] at hkk; have h4 := kid_kind hkk (List.mem_map.2 ⟨i, hq, rfl⟩); unfold kindAt at h4; rw [hi] at h4; exact h4 h1
 ·intro he
  obtain ⟨ks, h2, _⟩ := (tree_last t).node; rw [← he, hi] at h2; rw [Option.some.inj h2]; exact hk
end Go.Proofs.YthobobmbileekaaGreatDoor
namespace Go.Proofs.YthobobmbileekaaGreatDoor
open Go.ChangeShapes Go.WideShapes Go.ChangeAt Go.RowKit

mutual
theorem deep_le : ∀ t : PT, deepT t ≤ ptS t
 | .mk k x a l => by rw [deepT, ptS]; have := deeps_le l; omega
theorem deeps_le : ∀ l : List PT, deepTs l ≤ ptsS l
 | [] => by simp [deepTs]
 | t :: r => by rw [deepTs, ptsS]; have := deep_le t; have := deeps_le r; omega
end
structure DeepF (ns : List Nd) (D : Nat → Nat) : Prop where
 at_ : ∀ k nd, ns[k]? = some nd → (∀ q ∈ nd.kids, q < k) ∧ D k = maxL (nd.kids.map D) + 1
 le : ∀ k, D k ≤ ns.length
theorem deepF_tree (t : PT) : DeepF (flat 0 t) (fun q => ((dps t)[q]?).getD 0) := by
 refine ⟨fun k nd hk => ?_, fun k => ?_⟩
 ·obtain ⟨t', b', s⟩ := sub_t 0 t k nd hk
  have hlo := s.at_; have hkid : ∀ (j q : Nat), nd.kids[j]? = some q → ∃ u, t'.kids[j]? = some u ∧ q < k ∧ ((dps t)[q]?).getD 0 = deepT u := fun j q hq => by
   rw [s.nd] at hq; have hq : (roots b' t'.kids)[j]? = some q := hq; have hj : j < t'.kids.length := by rw [← roots_len b' t'.kids]; exact (List.getElem?_eq_some_iff.1 hq).1
   obtain ⟨k2, h1, h2, h3, _, h5⟩ := root_get b' t'.kids j _ (List.getElem?_eq_getElem hj); rw [hq] at h1; obtain rfl := Option.some.inj h1; refine ⟨_, List.getElem?_eq_getElem hj, by omega, ?_⟩; have := s.dp (q - b') (by omega); rw [Nat.sub_zero, show b' + (q - b') = q by omega, h5] at this; rw [this]; rfl
  refine ⟨fun q hq => ?_, ?_⟩
  ·obtain ⟨j, hj, hj2⟩ := List.getElem_of_mem hq
   obtain ⟨u, _, h2, _⟩ := hkid j q (by rw [← hj2]; exact List.getElem?_eq_getElem hj); exact h2
  ·show ((dps t)[k]?).getD 0 = _
   rw [s.dl, Option.getD_some, deepT_kids, deepTs_max]
   congr 2
   have hlen : nd.kids.length = t'.kids.length := by rw [s.nd]; exact roots_len _ _
   refine List.ext_getElem? fun j => ?_; rw [List.getElem?_map, List.getElem?_map]
   cases hq : nd.kids[j]? with
   | none =>
    have : t'.kids.length ≤ j := by rw [← hlen]; exact List.getElem?_eq_none_iff.1 hq
    rw [List.getElem?_eq_none_iff.2 this]; rfl
   | some q =>
    obtain ⟨u, h1, _, h3⟩ := hkid j q hq; rw [h1]; simp only [Option.map_some]
    rw [h3]
 ·show ((dps t)[k]?).getD 0 ≤ _
  rw [flat_len]
  cases hq : (dps t)[k]? with
  | none => exact Nat.zero_le _
  | some d =>
   have hk : k < (flat 0 t).length := by rw [flat_len, ← dps_len]; exact (List.getElem?_eq_some_iff.1 hq).1
   obtain ⟨t', b', s⟩ := sub_t 0 t k _ (List.getElem?_eq_getElem hk); have h1 := s.dl; rw [hq] at h1; rw [Option.getD_some, Option.some.inj h1]; have h2 := deep_le t'; have h3 : ptS t' = ptsS t'.kids + 1 := by cases t'; rw [ptS]; rfl
   have h4 := s.at_; rw [flat_len] at hk
   omega
theorem deepF_last (t : PT) : ((dps t)[ptS t - 1]?).getD 0 = deepT t := by
 cases t with
 | mk k x a l => rw [dps, ptS, Nat.add_sub_cancel, List.getElem?_append_right (by rw [dpss_len]; exact znr), dpss_len, Nat.sub_self, deepT]; rfl
structure RowF (w : World) (base g M : Nat) (f : Nat → Nat) : Prop where
 own : w.ownsRow base 3 1 (.slice (some ⟨g, 0, none⟩) M M) M ((List.range M).map fun q => natV (f q))
section
variable {w w' : World} {base g M : Nat} {f f' : Nat → Nat}
theorem RowF.congr (h : RowF w base g M f) (e : ∀ q, q < M → f q = f' q) : RowF w base g M f' := ⟨by
 have : (List.range M).map (fun q => natV (f q)) = (List.range M).map fun q => natV (f' q) := List.map_congr_left fun q hq => by rw [e q (List.mem_range.1 hq)]
 rw [← this]; exact h.own⟩
theorem RowF.cell (h : RowF w base g M f) {q : Nat} (hq : q < M) : w.cell? ⟨g, q, none⟩ = some (.int .i64 (f q : Int)) ∧ w.frozen? ⟨g, q, none⟩ = false ∧ g < w.heap.size ∧ base ≤ g := by
 obtain ⟨A, c, hv, _, _, h3⟩ := own_form h.own
 obtain ⟨gb, hA, h4, h5, ⟨cur, h6⟩, h7⟩ := h3 (by omega)
 injection hv with e1 e2 e3
 rw [hA] at e1
 injection e1 with e1
 injection e1 with e1
 subst e1
 exact ⟨h7 q _ (by rw [List.getElem?_map, List.getElem?_range hq]; rfl), free_of_blk h6, h5, h4⟩
theorem RowF.set (h : RowF w base g M f) (k v : Nat) : RowF (w.setCell ⟨g, k, none⟩ (.int .i64 (v : Int))) base g M (fun q => if q = k then v else f q) := ⟨by
 have h1 := (h.own.stored k (.int .i64 (v : Int))).1
 have : ((List.range M).map fun q => natV (f q)).set k (.int .i64 (v : Int)) = (List.range M).map fun q => natV (if q = k then v else f q) := by
  refine List.ext_getElem? fun j => ?_; rw [List.getElem?_set, List.getElem?_map, List.getElem?_map]
  rcases Nat.lt_or_ge j M with hj | hj
  ·rw [List.getElem?_range hj]
   by_cases e : k = j
   ·subst e
    rw [if_pos rfl, if_pos (by simpa using hj)]; simp [natV]
   ·rw [if_neg e]
    simp [show ¬ j = k from fun e' => e e'.symm]
  ·rw [List.getElem?_eq_none (l := List.range M) (by simpa using hj)]
   by_cases e : k = j
   ·subst e
    rw [if_pos rfl, if_neg (by simpa using hj)]
    rfl
   ·rw [if_neg e]; rfl
 rw [← this]; exact h1⟩
theorem RowF.below (h : RowF w base g M f) (hb : Below w.heap.size w w') : RowF w' base g M f := ⟨below_own hb h.own⟩
theorem RowF.drewN (h : RowF w base g M f) (n : Nat) : RowF (w.drewN n) base g M f := h.below (below_dN zbr n)
end
theorem madeInts (n : Nat) : (madeCells (Value.int .i64 0).cells (n * 1)).toList = (List.range n).map fun q => natV 0 := by
 unfold madeCells
 rw [Array.toList_map, Array.toList_range, Nat.mul_one]
 refine List.map_congr_left fun q _ => ?_
 have : q % (Value.int .i64 0).cells.size = 0 := by
  have : (Value.int .i64 0).cells.size = 1 := rfl; rw [this]; exact Nat.mod_one q
 rw [this]
 rfl
theorem maxL_take {l : List Nat} {j q : Nat} {D : Nat → Nat} (h : l[j]? = some q) : maxL ((l.take (j + 1)).map D) = max (maxL ((l.take j).map D)) (D q) := by
 unfold maxL
 rw [List.take_add_one, h, List.map_append, List.foldl_append]
 rfl
theorem tdeep_any {w : World} {B : Nat} {A : Option Addr} {l : List NdM} (c : Nat) (h : NodesR w B A l) {D : Nat → Nat} (hD : DeepF (l.map NdM.nd) D) (hn : l.length ≤ 50000) (hn1 : 1 ≤ l.length) (hkn : ∀ x ∈ l, x.nd.kids.length ≤ 50000) :
  Calls Tryz.prog 24 #[.slice A l.length c] w (RetB (.int .i64 (D (l.length - 1) : Int)) w) := by
 obtain ⟨N, hN⟩ : ∃ N, N = l.length := ⟨_, rfl⟩
 obtain ⟨N1, hN1⟩ : ∃ N1, N1 = N + 1 := ⟨_, rfl⟩
 obtain ⟨lm, hlm⟩ : ∃ lm, lm = N - 1 := ⟨_, rfl⟩
 obtain ⟨g, hg⟩ : ∃ g, g = w.heap.size := ⟨_, rfl⟩
 obtain ⟨iI, hiI, hI0, hI1, hI2⟩ := info_parts infoIn
 rw [← hN] at hn hn1 ⊢
 rw [← hlm]
 have HN := zh (show N = l.length ∧ lm = N - 1 ∧ N1 = N + 1 from ⟨hN, hlm, hN1⟩)
 have HD := zh hD
 have H := zh h
 have HKN := zh hkn
 have HNB := zh (And.intro hn hn1)
 have hadd : (N : Int) + 1 = (N1 : Int) := by omega
 have hwr : IntKind.i64.wrap (N1 : Int) = (N1 : Int) := IntWalk.i64_in _ (by omega)
 clear hD h hN hN1 hkn hlm
 have HG := zh hg
 obtain ⟨wm, hmk, hown, hgm⟩ := run_make_full (P := Tryz.prog) w w.heap.size 29 3 iI (.int .i64 0) 1 rfl hiI hI0 hI1 .i64 .i64 N1 (by rw [hI2]; have := HNB.out; have := HN.out; omega) (by unfold maxLen; have := HN.out; have := HNB.out; omega) znr
 rw [← hg] at hmk hown
 rw [madeInts] at hown
 clear hg
 go_enter Tryz.func24, Tryz.ntmps24
 go_wp2_with fail
 have HOW := zh hown
 have HBM := zh (show Below w.heap.size w wm from zbr.grown hgm znr (fun k e => by simp at e))
 clear hmk hown hgm
 go_loopw [14] (fun i wr => ∃ k : Nat, k ≤ N ∧ i = .int .i64 (k : Int) ∧ Hid (Below w.heap.size w wr) ∧ Hid (RowF wr g g N1 (fun q => if q < k then D q else 0))) (fun i _ => N - (intOf i).toNat)
 case atStart => exact ⟨0, Nat.zero_le _, rfl, HBM, zh ((show RowF wm g g N1 (fun q => 0) from ⟨HOW.out⟩).congr fun q hq => by simp)⟩
 case round =>
  obtain ⟨k, hkN, rfl, HB, HF⟩ := hrel; by_cases hlt : k < N
  ·obtain ⟨x, hx⟩ : ∃ x, l[k]? = some x := ⟨_, List.getElem?_eq_getElem (by rw [← HN.out.1]; exact hlt)⟩
   obtain ⟨ad, hA, -⟩ := H.out.ad hx; have HR := zh (H.out.below (HB.out.mono H.out.lo)); obtain ⟨x0, x1, x2, x3, xl⟩ := HR.out.node hA hx; subst hA; have hDk := HD.out.at_ k x.nd (by rw [List.getElem?_map, hx]; rfl); obtain ⟨m, hm⟩ : ∃ m, m = x.nd.kids.length := ⟨_, rfl⟩; rw [← hm] at x2; have HX := zh (show x ∈ l ∧ m = x.nd.kids.length from ⟨List.mem_of_getElem? hx, hm⟩); have HDK := zh hDk; have hkI : (k : Int) < (N : Int) := by omega
   have hk0 : (0 : Int) ≤ (k : Int) := by omega
   clear hx hDk hm
   go_upto_region 5 with fail
   refine gen_wpT fun W hW => ?_; have HBW := zh (show Below wr.heap.size wr W by rw [← hW]; exact zbr.alloc znr _); have HXB := zh (show W.heap[wr.heap.size]? = some (.cells #[.int .i64 x.nd.kind, .string x.nd.text, .slice x.A m x.c, .int .i64 (x.nd.a : Int)] 31 (0, 0)) by rw [← hW]; exact heap_new_at _ _ _ rfl); have HB1 := zh (HB.out.trans (HBW.out.mono HB.out.size)); have HF1 := zh ((HF.out.below HBW.out).congr (f' := fun q => if q < k then D q else if q = k then maxL ((x.nd.kids.take 0).map D) else 0) fun q hq => by
    by_cases h1 : q < k
    ·simp [h1]
    ·simp [h1, maxL])
   have y2 := zc 2 HXB.out rfl; have yl := blk_lt HXB.out; clear hW x0 x1 x2 x3 xl; go_wp2_with fail
   clear y2 yl
   go_loopw [22] (fun i2 wr2 => ∃ j : Nat, j ≤ m ∧ i2 = .int .i64 (j : Int) ∧ Hid (Below w.heap.size w wr2) ∧ Hid (RowF wr2 g g N1 (fun q => if q < k then D q else if q = k then maxL ((x.nd.kids.take j).map D) else 0))) (fun i2 _ => m - (intOf i2).toNat)
   case atStart => exact ⟨0, Nat.zero_le _, rfl, HB1, HF1⟩
   case round =>
    obtain ⟨j, hjm, rfl, HB2, HF2⟩ := hrel; have hm9 : m ≤ 50000 := by rw [HX.out.2]; exact HKN.out x HX.out.1
    by_cases hjt : j < m
    ·obtain ⟨q, hq⟩ : ∃ q, x.nd.kids[j]? = some q := ⟨_, List.getElem?_eq_getElem (by rw [← HX.out.2]; exact hjt)⟩
     have HR2 := zh (H.out.below (HB2.out.mono H.out.lo)); obtain ⟨bd, hbd, z1, zl1⟩ := HR2.out.kid HX.out.1 hq; have hqk : q < k := HDK.out.1 q (List.mem_of_getElem? hq); obtain ⟨f1, f2, f3, -⟩ := HF2.out.cell (show k < N1 by have := HN.out; omega); obtain ⟨f4, f5, -, -⟩ := HF2.out.cell (show q < N1 by have := HN.out; omega); simp only [if_pos hqk, if_neg (Nat.lt_irrefl k), if_true] at f1 f4
     obtain ⟨v, hv⟩ : ∃ v, v = maxL ((x.nd.kids.take j).map D) := ⟨_, rfl⟩; obtain ⟨v2, hv2⟩ : ∃ v2, v2 = max v (D q) := ⟨_, rfl⟩; rw [← hv] at f1; have hmx : max (v : Int) (D q : Int) = (v2 : Int) := by omega
     have HF3 := zh ((HF2.out.set k v2).congr (f' := fun q => if q < k then D q else if q = k then maxL ((x.nd.kids.take (j + 1)).map D) else 0) fun p hp => by
      by_cases h1 : p = k
      ·subst h1; simp only [if_true, if_neg (Nat.lt_irrefl p)]; rw [maxL_take hq, ← hv, hv2]
      ·simp only [if_neg h1])
     rw [hbd]; have hjI : (j : Int) < (m : Int) := by omega
     have hj0 : (0 : Int) ≤ (j : Int) := by omega
     have hqI : (q : Int) < (k : Int) := by omega
     have hq0 : (0 : Int) ≤ (q : Int) := by omega
     have hkN1 : (k : Int) < (N1 : Int) := by have := HN.out; omega
     have hqN1 : (q : Int) < (N1 : Int) := by omega
     have hk0 : (0 : Int) ≤ (k : Int) := by omega
     clear hq hbd hv hv2 hqk
     go_upto_region 9 with fail
     have hgk : (⟨g, 0, none⟩ : Addr).add k = ⟨g, k, none⟩ := by rw [Addr.add_mid, Nat.zero_add]
     have hgq : (⟨g, 0, none⟩ : Addr).add q = ⟨g, q, none⟩ := by rw [Addr.add_mid, Nat.zero_add]
     go_region
     go_wp2_with fail
     go_roundw
     case rel => exact ⟨j + 1, by omega, by go_num, zh (below_dN (HB2.out.setCell (by rw [← HG.out]; exact znr) _) 1), zh (HF3.out.drewN 1)⟩
     case measure => simp [intOf]; omega
    ·obtain rfl : j = m := by omega
     have hjq : ¬ (j : Int) < (j : Int) := by omega
     obtain ⟨f1, f2, f3, -⟩ := HF2.out.cell (show k < N1 by have := HN.out; omega); have hv : maxL ((x.nd.kids.take j).map D) + 1 = D k := by rw [HDK.out.2, HX.out.2, List.take_length]
     have hle := HD.out.le k; rw [List.length_map, ← HN.out.1] at hle; obtain ⟨v, hv9⟩ : ∃ v, v = maxL ((x.nd.kids.take j).map D) := ⟨_, rfl⟩; simp only [if_neg (Nat.lt_irrefl k), if_true] at f1
     rw [← hv9] at f1 hv; have hva : (v : Int) + 1 = (D k : Int) := by omega
     have hvw : IntKind.i64.wrap (D k : Int) = (D k : Int) := IntWalk.i64_in _ (by have := HNB.out; omega); have HF3 := zh ((HF2.out.set k (D k)).congr (f' := fun q => if q < k + 1 then D q else 0) fun p hp => by
      by_cases h1 : p = k
      ·subst h1; simp
      ·simp only [if_neg h1]
       by_cases h2 : p < k
       ·rw [if_pos h2, if_pos (by omega)]
       ·rw [if_neg h2, if_neg (by omega)])
     have hkN1 : (k : Int) < (N1 : Int) := by have := HN.out; omega
     have hk0 : (0 : Int) ≤ (k : Int) := by omega
     have hgk : (⟨g, 0, none⟩ : Addr).add k = ⟨g, k, none⟩ := by rw [Addr.add_mid, Nat.zero_add]
     clear hv hv9 hle; go_wp2_with fail
     go_roundw
     case rel => exact ⟨k + 1, by omega, by go_num, zh (HB2.out.setCell (by rw [← HG.out]; exact znr) _), HF3⟩
     case measure => simp [intOf]; omega
  ·obtain rfl : k = N := by omega
   have hq : ¬ (k : Int) < (k : Int) := by omega
   obtain ⟨f1, f2, f3, -⟩ := HF.out.cell (show lm < N1 by have := HN.out; omega); rw [if_pos (show lm < k by have := HN.out; have := HNB.out; omega)] at f1; have hsb : (k : Int) - 1 = (lm : Int) := by have := HN.out; have := HNB.out; omega
   have hsw : IntKind.i64.wrap (lm : Int) = (lm : Int) := IntWalk.i64_in _ (by have := HN.out; have := HNB.out; omega); have hmx : max (lm : Int) 0 = (lm : Int) := by omega
   have hl0 : (0 : Int) ≤ (lm : Int) := by omega
   have hl1 : (lm : Int) < (N1 : Int) := by have := HN.out; omega
   have hgk : (⟨g, 0, none⟩ : Addr).add lm = ⟨g, lm, none⟩ := by rw [Addr.add_mid, Nat.zero_add]
   go_wp2_with fail
   go_ret
   exact ⟨rfl, HB.out⟩
theorem blk_other {W : World} {b g i : Nat} {ob : Obj} {v : Value} (h : W.heap[b]? = some ob) (hne : b ≠ g) : (W.setCell ⟨g, i, none⟩ v).heap[b]? = some ob := (Below.heap_setCell _ _ _ _ hne).trans h
theorem rdeep_any {w : World} {B : Nat} {A : Option Addr} {l : List NdM} (c : Nat) (h : NodesR w B A l) {D : Nat → Nat} (hD : DeepF (l.map NdM.nd) D) (hn : l.length ≤ 50000) (hn1 : 1 ≤ l.length) (hkn : ∀ x ∈ l, x.nd.kids.length ≤ 50000) :
  Calls Tryz.prog 15 #[.slice A l.length c] w (RetB (.int .i64 (D (l.length - 1) : Int)) w) := by
 obtain ⟨N, hN⟩ : ∃ N, N = l.length := ⟨_, rfl⟩
 obtain ⟨lm, hlm⟩ : ∃ lm, lm = N - 1 := ⟨_, rfl⟩
 obtain ⟨g, hg⟩ : ∃ g, g = w.heap.size := ⟨_, rfl⟩
 obtain ⟨iI, hiI, hI0, hI1, hI2⟩ := info_parts infoIn
 rw [← hN] at hn hn1 ⊢
 rw [← hlm]
 have HN := zh (show N = l.length ∧ lm = N - 1 from ⟨hN, hlm⟩)
 have HD := zh hD
 have H := zh h
 have HKN := zh hkn
 have HNB := zh (And.intro hn hn1)
 clear hD h hN hkn hlm
 have HG := zh hg
 obtain ⟨wm, hmk, hown, hgm⟩ := run_make_full (P := Tryz.prog) w w.heap.size 29 3 iI (.int .i64 0) 1 rfl hiI hI0 hI1 .i64 .i64 N (by rw [hI2]; have := HNB.out; have := HN.out; omega) (by unfold maxLen; have := HN.out; have := HNB.out; omega) znr
 rw [← hg] at hmk hown
 rw [madeInts] at hown
 clear hg
 go_enter Tryz.func15, Tryz.ntmps15
 go_wp2_with fail
 have HOW := zh hown
 have HBM := zh (show Below w.heap.size w wm from zbr.grown hgm znr (fun k e => by simp at e))
 clear hmk hown hgm
 go_loopw [13] (fun i wr => ∃ k : Nat, k ≤ N ∧ i = .int .i64 (k : Int) ∧ Hid (Below w.heap.size w wr) ∧ Hid (RowF wr g g N (fun q => if q < k then D q else 0))) (fun i _ => N - (intOf i).toNat)
 case atStart => exact ⟨0, Nat.zero_le _, rfl, HBM, zh ((show RowF wm g g N (fun q => 0) from ⟨HOW.out⟩).congr fun q hq => by simp)⟩
 case round =>
  obtain ⟨k, hkN, rfl, HB, HF⟩ := hrel; by_cases hlt : k < N
  ·obtain ⟨x, hx⟩ : ∃ x, l[k]? = some x := ⟨_, List.getElem?_eq_getElem (by rw [← HN.out.1]; exact hlt)⟩
   obtain ⟨ad, hA, -⟩ := H.out.ad hx; have HR := zh (H.out.below (HB.out.mono H.out.lo)); obtain ⟨x0, x1, x2, x3, xl⟩ := HR.out.node hA hx; subst hA; have hDk := HD.out.at_ k x.nd (by rw [List.getElem?_map, hx]; rfl); obtain ⟨m, hm⟩ : ∃ m, m = x.nd.kids.length := ⟨_, rfl⟩; rw [← hm] at x2; have HX := zh (show x ∈ l ∧ m = x.nd.kids.length from ⟨List.mem_of_getElem? hx, hm⟩); have HDK := zh hDk; have hkI : (k : Int) < (N : Int) := by omega
   have hk0 : (0 : Int) ≤ (k : Int) := by omega
   clear hx hDk hm
   go_upto_region 5 with fail
   refine gen_wpT fun W hW => ?_; have HBW := zh (show Below wr.heap.size wr W by rw [← hW]; exact zbr.alloc znr _); have HXB := zh (show W.heap[wr.heap.size]? = some (.cells #[.int .i64 x.nd.kind, .string x.nd.text, .slice x.A m x.c, .int .i64 (x.nd.a : Int)] 31 (0, 0)) by rw [← hW]; exact heap_new_at _ _ _ rfl); have HB1 := zh (HB.out.trans (HBW.out.mono HB.out.size)); have HFW := zh (HF.out.below HBW.out); obtain ⟨f1, f2, f3, -⟩ := HFW.out.cell (show k < N from hlt); have hgk : (⟨g, 0, none⟩ : Addr).add k = ⟨g, k, none⟩ := by rw [Addr.add_mid, Nat.zero_add]
   have HF1 := zh ((HFW.out.set k 1).congr (f' := fun q => if q < k then D q else if q = k then maxL ((x.nd.kids.take 0).map D) + 1 else 0) fun q hq => by
    by_cases h1 : q = k
    ·subst h1; simp [maxL]
    ·by_cases h2 : q < k
     ·simp [h1, h2]
     ·simp [h1, h2])
   have HB1 := zh (show Below w.heap.size w (W.setCell ⟨g, k, none⟩ (.int .i64 (1 : Int))) from HB1.out.setCell (by rw [← HG.out]; exact znr) _); have HXB := zh (blk_other (v := .int .i64 (1 : Int)) (i := k) HXB.out (show wr.heap.size ≠ g from fun e => by have h8 := (HF.out.cell (show k < N from hlt)).2.2.1; omega)); have y2 := zc 2 HXB.out rfl; have yl := blk_lt HXB.out; clear hW x0 x1 x2 x3 xl
   go_upto_region 6 with fail
   clear f1 f2 f3 hgk; refine gen_wpT fun W9 hW9 => ?_; rw [hW9] at y2 yl; have HF1 := zh (show RowF W9 g g N _ by rw [← hW9]; exact HF1.out); have HB1 := zh (show Below w.heap.size w W9 by rw [← hW9]; exact HB1.out); clear hW9; go_wp2_with fail
   clear y2 yl
   go_loopw [24] (fun i2 wr2 => ∃ j : Nat, j ≤ m ∧ i2 = .int .i64 (j : Int) ∧ Hid (Below w.heap.size w wr2) ∧ Hid (RowF wr2 g g N (fun q => if q < k then D q else if q = k then maxL ((x.nd.kids.take j).map D) + 1 else 0))) (fun i2 _ => m - (intOf i2).toNat)
   case atStart => exact ⟨0, Nat.zero_le _, rfl, HB1, HF1⟩
   case round =>
    obtain ⟨j, hjm, rfl, HB2, HF2⟩ := hrel; have hm9 : m ≤ 50000 := by rw [HX.out.2]; exact HKN.out x HX.out.1
    by_cases hjt : j < m
    ·obtain ⟨q, hq⟩ : ∃ q, x.nd.kids[j]? = some q := ⟨_, List.getElem?_eq_getElem (by rw [← HX.out.2]; exact hjt)⟩
     have HR2 := zh (H.out.below (HB2.out.mono H.out.lo)); obtain ⟨bd, hbd, z1, zl1⟩ := HR2.out.kid HX.out.1 hq; have hqk : q < k := HDK.out.1 q (List.mem_of_getElem? hq); obtain ⟨f1, f2, f3, -⟩ := HF2.out.cell (show k < N from hlt); obtain ⟨f4, f5, -, -⟩ := HF2.out.cell (show q < N by omega); simp only [if_pos hqk, if_neg (Nat.lt_irrefl k), if_true] at f1 f4
     obtain ⟨v, hv⟩ : ∃ v, v = maxL ((x.nd.kids.take j).map D) + 1 := ⟨_, rfl⟩; obtain ⟨d1, hd1⟩ : ∃ d1, d1 = D q + 1 := ⟨_, rfl⟩; have hqle := HD.out.le q; rw [List.length_map, ← HN.out.1] at hqle; have hda : (D q : Int) + 1 = (d1 : Int) := by omega
     have hdw : IntKind.i64.wrap (d1 : Int) = (d1 : Int) := IntWalk.i64_in _ (by have := HNB.out; omega); obtain ⟨v2, hv2⟩ : ∃ v2, v2 = max v d1 := ⟨_, rfl⟩; rw [← hv] at f1; have hmx : max (v : Int) (d1 : Int) = (v2 : Int) := by omega
     have HF3 := zh ((HF2.out.set k v2).congr (f' := fun q => if q < k then D q else if q = k then maxL ((x.nd.kids.take (j + 1)).map D) + 1 else 0) fun p hp => by
      by_cases h1 : p = k
      ·subst h1; simp only [if_true, if_neg (Nat.lt_irrefl p)]; rw [maxL_take hq, hv2, hv, hd1]; omega
      ·simp only [if_neg h1])
     rw [hbd]; have hjI : (j : Int) < (m : Int) := by omega
     have hj0 : (0 : Int) ≤ (j : Int) := by omega
     have hqI : (q : Int) < (k : Int) := by omega
     have hq0 : (0 : Int) ≤ (q : Int) := by omega
     have hqN9 : (q : Int) < (N : Int) := by omega
     have hk0 : (0 : Int) ≤ (k : Int) := by omega
     clear hq hbd hv hv2 hqk hd1 hqle
     go_upto_region 10 with fail
     have hgk : (⟨g, 0, none⟩ : Addr).add k = ⟨g, k, none⟩ := by rw [Addr.add_mid, Nat.zero_add]
     have hgq : (⟨g, 0, none⟩ : Addr).add q = ⟨g, q, none⟩ := by rw [Addr.add_mid, Nat.zero_add]
     go_region
     go_wp2_with fail
     go_roundw
     case rel => exact ⟨j + 1, by omega, by go_num, zh (below_dN (HB2.out.setCell (by rw [← HG.out]; exact znr) _) 1), zh (HF3.out.drewN 1)⟩
     case measure => simp [intOf]; omega
    ·obtain rfl : j = m := by omega
     have hjq : ¬ (j : Int) < (j : Int) := by omega
     have hv : maxL ((x.nd.kids.take j).map D) + 1 = D k := by rw [HDK.out.2, HX.out.2, List.take_length]
     have HF3 := zh (HF2.out.congr (f' := fun q => if q < k + 1 then D q else 0) fun p hp => by
      by_cases h1 : p = k
      ·subst h1; rw [if_neg (Nat.lt_irrefl _), if_pos rfl, if_pos (Nat.lt_succ_self _)]; exact hv
      ·by_cases h2 : p < k
       ·rw [if_pos h2, if_pos (by omega)]
       ·rw [if_neg h2, if_neg h1, if_neg (by omega)])
     clear hv; go_wp2_with fail
     go_roundw
     case rel => exact ⟨k + 1, by omega, by go_num, HB2, HF3⟩
     case measure => simp [intOf]; omega
  ·obtain rfl : k = N := by omega
   have hq : ¬ (k : Int) < (k : Int) := by omega
   obtain ⟨f1, f2, f3, -⟩ := HF.out.cell (show lm < k by have := HN.out; have := HNB.out; omega); rw [if_pos (show lm < k by have := HN.out; have := HNB.out; omega)] at f1; have hsb : (k : Int) - 1 = (lm : Int) := by have := HN.out; have := HNB.out; omega
   have hsw : IntKind.i64.wrap (lm : Int) = (lm : Int) := IntWalk.i64_in _ (by have := HN.out; have := HNB.out; omega); have hk9 : ((k : Int) == 0) = false := beq_eq_false_iff_ne.2 (by have := HNB.out; omega); have hl0 : (0 : Int) ≤ (lm : Int) := by omega
   have hl1 : (lm : Int) < (k : Int) := by have := HN.out; have := HNB.out; omega
   have hgk : (⟨g, 0, none⟩ : Addr).add lm = ⟨g, lm, none⟩ := by rw [Addr.add_mid, Nat.zero_add]
   go_wp2_with fail
   go_ret
   exact ⟨rfl, HB.out⟩

structure ProgN (w : World) (B : Nat) (A : Option Addr) (l : List NdM) (ns : List Nd) : Prop where
 nr : NodesR w B A l
 nd : l.map NdM.nd = ns
 len : ns.length ≤ 50000
 lt : ∀ (k : Nat) (nd : Nd), ns[k]? = some nd → ∀ q ∈ nd.kids, q < k
 kl : ∀ x ∈ l, x.nd.kids.length ≤ 50000
section
variable {w w' : World} {B q M : Nat} {A : Option Addr} {l : List NdM} {ns : List Nd} {t : PT}
theorem ProgN.below (h : ProgN w B A l ns) (hb : Below B w w') : ProgN w' B A l ns := ⟨h.nr.below hb, h.nd, h.len, h.lt, h.kl⟩
theorem ProgN.size (h : ProgN w B A l ns) : l.length = ns.length := by rw [← h.nd, List.length_map]
theorem ProgN.node (h : ProgN w B A l ns) (ht : IsTree ns t q) : ∃ y ks, l[q]? = some y ∧ y ∈ l ∧ y.nd = ⟨t.kind, t.text, ks, t.a⟩ ∧ AllTrees ns t.kids ks ∧ ks.length ≤ 50000 ∧ q < l.length ∧ ks.length ≤ y.c ∧ (∀ k ∈ ks, k < q) := by
 obtain ⟨ks, h1, h2⟩ := ht.node
 have h3 := h1
 rw [← h.nd, List.getElem?_map] at h3
 cases hy : l[q]? with
 | none => rw [hy] at h3; simp at h3
 | some y =>
  rw [hy] at h3; have h4 : y.nd = ⟨t.kind, t.text, ks, t.a⟩ := by simpa using h3
  have hm := List.mem_of_getElem? hy; have h5 := h.kl y hm; have h6 := h.nr.kc y hm; rw [h4] at h5 h6; exact ⟨y, ks, rfl, hm, h4, h2, h5, (List.getElem?_eq_some_iff.1 hy).1, h6, h.lt q _ h1⟩
theorem ProgN.cells (h : ProgN w B A l ns) (ht : IsTree ns t q) : ∃ ad Ak ck ks, A = some ad ∧ w.cell? (ad.add (q * 4)) = some (.int .i64 t.kind) ∧ w.cell? ⟨(ad.add (q * 4)).block, (ad.add (q * 4)).off + 1, none⟩ = some (.string t.text) ∧ w.cell? ⟨(ad.add (q * 4)).block, (ad.add (q * 4)).off + 2, none⟩ = some (.slice Ak ks.length ck) ∧
  w.cell? ⟨(ad.add (q * 4)).block, (ad.add (q * 4)).off + 3, none⟩ = some (.int .i64 (t.a : Int)) ∧ (ad.add (q * 4)).block < w.heap.size ∧ q < l.length ∧ AllTrees ns t.kids ks ∧ ks.length ≤ 50000 ∧ ks.length ≤ ck ∧ (∀ k ∈ ks, k < q) ∧
  ∀ W, Below B w W → ∀ (j k : Nat), ks[j]? = some k → ∃ bd, Ak = some bd ∧ W.cell? (bd.add j) = some (.int .i64 (k : Int)) ∧ (bd.add j).block < W.heap.size := by
 obtain ⟨y, ks, h1, hm, h2, h3, h4, h5, h6, h7⟩ := h.node ht
 obtain ⟨ad, hA, _⟩ := h.nr.ad h1
 obtain ⟨c0, c1, c2, c3, cl⟩ := h.nr.node hA h1
 rw [h2] at c0 c1 c2 c3
 exact ⟨ad, y.A, y.c, ks, hA, c0, c1, c2, c3, cl, h5, h3, h4, h6, h7, fun W hW j k hj => (h.nr.below hW).kid hm (by rw [h2]; exact hj)⟩
end
theorem root_any {w : World} {B q M : Nat} {A : Option Addr} {l : List NdM} {ns : List Nd} {t : PT} (c : Nat) (h : ProgN w B A l ns) (ht : IsTree ns t q) (hok : okT M t) : Calls Tryz.prog 34 #[.slice A l.length c, .int .i64 (q : Int)] w (RetB (.int .i64 (rootT t)) w) := by
 have H := zh h
 have HT := zh (And.intro ht hok)
 have HSZ := zh (show l.length ≤ 50000 by rw [h.size]; exact h.len)
 obtain ⟨R, hR⟩ : ∃ R, R = rootT t := ⟨_, rfl⟩
 rw [← hR]
 have HRR := zh hR
 obtain ⟨N, hN⟩ : ∃ N, N = l.length := ⟨_, rfl⟩
 rw [← hN]
 have HN := zh hN
 clear h ht hok hR hN
 go_enter Tryz.func34, Tryz.ntmps34
 go_wp2_with fail
 go_loopw [1] (fun iv wr => ∃ (u : PT) (p : Nat), iv = .int .i64 (p : Int) ∧ Hid (IsTree ns u p ∧ okT M u ∧ rootT u = R) ∧ w = wr) (fun iv _ => (intOf iv).toNat)
 case atStart => exact ⟨t, q, rfl, zh ⟨HT.out.1, HT.out.2, HRR.out.symm⟩, rfl⟩
 case round =>
  obtain ⟨u, p, rfl, HU, rfl⟩ := hrel; obtain ⟨ad, Ak, ck, ks, hA, x0, -, x2, -, xl, hp, hks, hk5, -, hlt, hkid⟩ := H.out.cells HU.out.1; have hp0 : (0 : Int) ≤ (p : Int) := by omega
  have hpN : (p : Int) < (N : Int) := by have := HN.out; omega
  subst hA; by_cases hb : u.kind = 18 ∨ u.kind = 19 ∨ u.kind = 20
  ·obtain ⟨v, r, hv, hok, hrt⟩ := base_kid HU.out.2.1 hb
   rw [hv, AllTrees] at hks; obtain ⟨q1, ks', rfl, hq1, hrest⟩ := hks; obtain ⟨bd, hbd, z1, zl⟩ := hkid w zbr 0 q1 rfl; have z1 : w.cell? bd = some (.int .i64 (q1 : Int)) := z1; have zl : bd.block < w.heap.size := zl; have hqp := hlt q1 (by simp); subst hbd; obtain ⟨m, hm⟩ : ∃ m, m = (q1 :: ks').length := ⟨_, rfl⟩; rw [← hm] at x2; have hm0 : (0 : Int) < (m : Int) := by rw [hm]; simp
   have HU2 := zh (show IsTree ns v q1 ∧ okT M v ∧ rootT v = R from ⟨hq1, hok, by rw [← hrt]; exact HU.out.2.2⟩); have HQP := zh hqp; clear hq1 hok hrt hrest hm hkid hlt hk5 hp hqp hv
   rcases hb with hb | hb | hb
   ·have b0 : (u.kind == 18) = true := beq_iff_eq.2 hb
    clear hb; go_wp2_with fail
    go_roundw
    case rel => exact ⟨v, q1, rfl, HU2, trivial⟩
    case measure => have := HQP.out; simp [intOf]; omega
   ·have b0 : (u.kind == 18) = false := by rw [hb]; rfl
    have b1 : (u.kind == 19) = true := beq_iff_eq.2 hb; clear hb; go_wp2_with fail
    go_roundw
    case rel => exact ⟨v, q1, rfl, HU2, trivial⟩
    case measure => have := HQP.out; simp [intOf]; omega
   ·have b0 : (u.kind == 18) = false := by rw [hb]; rfl
    have b1 : (u.kind == 19) = false := by rw [hb]; rfl
    have b2 : (u.kind == 20) = true := beq_iff_eq.2 hb; clear hb; go_wp2_with fail
    go_roundw
    case rel => exact ⟨v, q1, rfl, HU2, trivial⟩
    case measure => have := HQP.out; simp [intOf]; omega
  ·have b0 : (u.kind == 18) = false := beq_eq_false_iff_ne.2 fun e => hb (.inl e)
   have b1 : (u.kind == 19) = false := beq_eq_false_iff_ne.2 fun e => hb (.inr (.inl e)); have b2 : (u.kind == 20) = false := beq_eq_false_iff_ne.2 fun e => hb (.inr (.inr e)); have HF := zh (show u.kind = R by rw [← HU.out.2.2, root_stop hb]); clear hb hkid hlt hk5 hks hp; go_wp2_with fail
   go_ret
   exact ⟨by rw [HF.out]; rfl, zbr⟩

theorem below_dX {w w' : World} {B : Nat} (h : Below B w w') (n : Nat) : Below B w (w'.drewN n) := ⟨h.os, h.tape, h.output, h.size, h.block⟩
theorem drop_mem {l : List PT} {j : Nat} {t : PT} (h : l[j]? = some t) (hj : j + 1 < l.length) : t ∈ l.dropLast := by
 refine List.mem_of_getElem? (i := j) ?_
 rw [List.getElem?_dropLast, if_pos (by omega)]
 exact h
theorem nodup_at {l : List ByteArray} (h : l.Nodup) {i j : Nat} {x y : ByteArray} (hi : l[i]? = some x) (hj : l[j]? = some y) (hij : i < j) : x ≠ y := fun e => by
 obtain ⟨h1, h2⟩ := List.getElem?_eq_some_iff.1 hi
 obtain ⟨h3, h4⟩ := List.getElem?_eq_some_iff.1 hj
 have h5 := List.pairwise_iff_getElem.1 h i j h1 h3 hij
 rw [h2, h4] at h5
 exact h5 e
theorem ProgN.at {w W : World} {B q : Nat} {ad : Addr} {l : List NdM} {ns : List Nd} {t : PT} (h : ProgN w B (some ad) l ns) (hb : Below w.heap.size w W) (ht : IsTree ns t q) : W.cell? (ad.add (q * 4)) = some (.int .i64 t.kind) ∧ W.cell? ⟨(ad.add (q * 4)).block, (ad.add (q * 4)).off + 1, none⟩ = some (.string t.text) ∧ (ad.add (q * 4)).block < W.heap.size ∧ q < l.length := by
 obtain ⟨ad', Ak, ck, ks, hA, x0, x1, -, -, xl, hp, -⟩ := (h.below (hb.mono h.nr.lo)).cells ht
 obtain rfl := Option.some.inj hA
 exact ⟨x0, x1, xl, hp⟩
theorem pc_extra_rest {w : World} {B q M : Nat} {A : Option Addr} {l : List NdM} {ns : List Nd} {t : PT} (c : Nat) (h : ProgN w B A l ns) (ht : IsTree ns t q) (hok : okT M t) (hk : t.kind ≠ 3 ∧ t.kind ≠ 6 ∧ t.kind ≠ 7 ∧ t.kind ≠ 21 ∧ t.kind ≠ 32 ∧ t.kind ≠ 1) : Calls Tryz.prog 14 #[.slice A l.length c, .int .i64 (q : Int)] w (RetB (.bool true) w) := by
 obtain ⟨ad, Ak, ck, ks, hA, x0, x1, x2, x3, xl, hp, hks, hk5, hkc, hlt, hkid⟩ := h.cells ht
 have hmore := (okT_loc hok).1.2.2.2.2
 have hkk := (okT_loc hok).2.2
 obtain ⟨N, hN⟩ : ∃ N, N = l.length := ⟨_, rfl⟩
 obtain ⟨m, hm⟩ : ∃ m, m = ks.length := ⟨_, rfl⟩
 have hlen := hks.len
 rw [← hN]
 rw [← hm] at x2
 have b3 : (t.kind == 3) = false := beq_eq_false_iff_ne.2 hk.1
 have b6 : (t.kind == 6) = false := beq_eq_false_iff_ne.2 hk.2.1
 have b7 : (t.kind == 7) = false := beq_eq_false_iff_ne.2 hk.2.2.1
 have b21 : (t.kind == 21) = false := beq_eq_false_iff_ne.2 hk.2.2.2.1
 have b32 : (t.kind == 32) = false := beq_eq_false_iff_ne.2 hk.2.2.2.2.1
 have b1 : (t.kind == 1) = false := beq_eq_false_iff_ne.2 hk.2.2.2.2.2
 clear hk
 have HMO := zh hmore
 have HKK := zh hkk
 have HK := zh (show AllTrees ns t.kids ks ∧ m = ks.length ∧ m ≤ 50000 ∧ m ≤ ck ∧ (∀ k ∈ ks, k < q) ∧ t.kids.length = m by exact ⟨hks, hm, by omega, by omega, hlt, by omega⟩)
 have HKID := zh hkid
 have HNN := zh (show N = l.length ∧ N ≤ 50000 from ⟨hN, by rw [hN, h.size]; exact h.len⟩)
 subst hA
 have H := zh h
 have hq0 : (0 : Int) ≤ (q : Int) := by omega
 have hqN : (q : Int) < (N : Int) := by omega
 clear h ht hok hks hk5 hkc hlt hkid hmore hkk hlen hp hm hN
 go_enter Tryz.func14, Tryz.ntmps14
 go_upto_region 2 with fail
 refine gen_wpT fun W hW => ?_
 have HBW := zh (show Below w.heap.size w W by rw [← hW]; exact zbr.alloc znr _)
 have HX := zh (show W.heap[w.heap.size]? = some (.cells #[.int .i64 t.kind, .string t.text, .slice Ak m ck, .int .i64 (t.a : Int)] 31 (0, 0)) by rw [← hW]; exact heap_new_at _ _ _ rfl)
 have y0 := zc 0 HX.out rfl
 have y1 := zc 1 HX.out rfl
 have y2 := zc 2 HX.out rfl
 have yl := blk_lt HX.out
 clear hW x0 x1 x2 x3 xl
 go_wp2_with fail
 go_ret
 exact ⟨rfl, HBW.out⟩
theorem pc_extra_block {w : World} {B q M : Nat} {A : Option Addr} {l : List NdM} {ns : List Nd} {t : PT} (c : Nat) (h : ProgN w B A l ns) (ht : IsTree ns t q) (hok : okT M t) (hk : t.kind = 3) : Calls Tryz.prog 14 #[.slice A l.length c, .int .i64 (q : Int)] w (RetB (.bool true) w) := by
 obtain ⟨ad, Ak, ck, ks, hA, x0, x1, x2, x3, xl, hp, hks, hk5, hkc, hlt, hkid⟩ := h.cells ht
 have hmore := (okT_loc hok).1.2.2.2.2
 have hkk := (okT_loc hok).2.2
 obtain ⟨N, hN⟩ : ∃ N, N = l.length := ⟨_, rfl⟩
 obtain ⟨m, hm⟩ : ∃ m, m = ks.length := ⟨_, rfl⟩
 have hlen := hks.len
 rw [← hN]
 rw [← hm] at x2
 rw [hk] at x0 hmore
 clear hk
 have HMO := zh hmore
 have HKK := zh hkk
 have HK := zh (show AllTrees ns t.kids ks ∧ m = ks.length ∧ m ≤ 50000 ∧ m ≤ ck ∧ (∀ k ∈ ks, k < q) ∧ t.kids.length = m by exact ⟨hks, hm, by omega, by omega, hlt, by omega⟩)
 have HKID := zh hkid
 have HNN := zh (show N = l.length ∧ N ≤ 50000 from ⟨hN, by rw [hN, h.size]; exact h.len⟩)
 subst hA
 have H := zh h
 have hq0 : (0 : Int) ≤ (q : Int) := by omega
 have hqN : (q : Int) < (N : Int) := by omega
 clear h ht hok hks hk5 hkc hlt hkid hmore hkk hlen hp hm hN
 go_enter Tryz.func14, Tryz.ntmps14
 go_upto_region 2 with fail
 refine gen_wpT fun W hW => ?_
 have HBW := zh (show Below w.heap.size w W by rw [← hW]; exact zbr.alloc znr _)
 have HX := zh (show W.heap[w.heap.size]? = some (.cells #[.int .i64 3, .string t.text, .slice Ak m ck, .int .i64 (t.a : Int)] 31 (0, 0)) by rw [← hW]; exact heap_new_at _ _ _ rfl)
 have y0 := zc 0 HX.out rfl
 have y1 := zc 1 HX.out rfl
 have y2 := zc 2 HX.out rfl
 have yl := blk_lt HX.out
 clear hW x0 x1 x2 x3 xl
 go_wp2_with fail
 go_loopw [29] (fun jv wr => ∃ j : Nat, j ≤ m ∧ jv = .int .i64 (j : Int) ∧ W = wr) (fun jv _ => m - (intOf jv).toNat)
 case atStart => exact ⟨0, Nat.zero_le _, rfl, rfl⟩
 case round =>
  obtain ⟨j, hjm, rfl, rfl⟩ := hrel; have hm5 := HK.out.2.2.1; by_cases hlt : j < m
  ·obtain ⟨qa, hq_a⟩ : ∃ q1, ks[j]? = some q1 := ⟨_, List.getElem?_eq_getElem (by rw [← HK.out.2.1]; omega)⟩
   obtain ⟨ua, hu_a, ht_a⟩ := HK.out.1.get j qa hq_a; obtain ⟨bd, hbd, z_a, zl_a⟩ := HKID.out W (HBW.out.mono H.out.nr.lo) j qa hq_a; obtain ⟨n0_a, n1_a, nl_a, hp_a⟩ := H.out.at HBW.out ht_a; subst hbd; obtain ⟨m1, hm1⟩ : ∃ m1, m1 = m - 1 := ⟨_, rfl⟩; have e1 : (m : Int) - 1 = (m1 : Int) := by omega
   have e2 : IntKind.i64.wrap (m1 : Int) = (m1 : Int) := IntWalk.i64_in _ (by omega); have hj0 : (0 : Int) ≤ (j : Int) := by omega
   have hjI : (j : Int) < (m : Int) := by omega
   have hqa0 : (0 : Int) ≤ (qa : Int) := by omega
   have hqaN : (qa : Int) < (N : Int) := by have := HNN.out; omega
   by_cases hj1 : j < m1
   ·have hjI1 : (j : Int) < (m1 : Int) := by omega
    have hne := HMO.out.1 rfl ua (drop_mem hu_a (by rw [HK.out.2.2.2.2.2]; omega)); have b10 : (ua.kind == 10) = false := beq_eq_false_iff_ne.2 hne.1; have b11 : (ua.kind == 11) = false := beq_eq_false_iff_ne.2 hne.2; clear hne hu_a ht_a hq_a hp_a hm1 hj1; go_wp2_with fail
    go_roundw
    case rel => exact ⟨j + 1, by omega, by go_num, trivial⟩
    case measure => simp [intOf]; omega
   ·have hjI1 : ¬ (j : Int) < (m1 : Int) := by omega
    clear hu_a ht_a hq_a hp_a hm1 hj1; go_wp2_with fail
    go_roundw
    case rel => exact ⟨j + 1, by omega, by go_num, trivial⟩
    case measure => simp [intOf]; omega
  ·obtain rfl : j = m := by omega
   have hjq : ¬ (j : Int) < (j : Int) := by omega
   go_wp2_with fail
   go_ret
   exact ⟨rfl, HBW.out⟩
theorem pc_extra_root6 {w : World} {B q M : Nat} {A : Option Addr} {l : List NdM} {ns : List Nd} {t : PT} (c : Nat) (h : ProgN w B A l ns) (ht : IsTree ns t q) (hok : okT M t) (hk : t.kind = 6) : Calls Tryz.prog 14 #[.slice A l.length c, .int .i64 (q : Int)] w (RetB (.bool true) w) := by
 obtain ⟨ad, Ak, ck, ks, hA, x0, x1, x2, x3, xl, hp, hks, hk5, hkc, hlt, hkid⟩ := h.cells ht
 have hmore := (okT_loc hok).1.2.2.2.2
 have hkk := (okT_loc hok).2.2
 obtain ⟨N, hN⟩ : ∃ N, N = l.length := ⟨_, rfl⟩
 obtain ⟨m, hm⟩ : ∃ m, m = ks.length := ⟨_, rfl⟩
 have hlen := hks.len
 rw [← hN]
 rw [← hm] at x2
 rw [hk] at x0 hmore
 clear hk
 have HMO := zh hmore
 have HKK := zh hkk
 have HK := zh (show AllTrees ns t.kids ks ∧ m = ks.length ∧ m ≤ 50000 ∧ m ≤ ck ∧ (∀ k ∈ ks, k < q) ∧ t.kids.length = m by exact ⟨hks, hm, by omega, by omega, hlt, by omega⟩)
 have HKID := zh hkid
 have HNN := zh (show N = l.length ∧ N ≤ 50000 from ⟨hN, by rw [hN, h.size]; exact h.len⟩)
 subst hA
 have H := zh h
 have hq0 : (0 : Int) ≤ (q : Int) := by omega
 have hqN : (q : Int) < (N : Int) := by omega
 clear h ht hok hks hk5 hkc hlt hkid hmore hkk hlen hp hm hN
 go_enter Tryz.func14, Tryz.ntmps14
 go_upto_region 2 with fail
 refine gen_wpT fun W hW => ?_
 have HBW := zh (show Below w.heap.size w W by rw [← hW]; exact zbr.alloc znr _)
 have HX := zh (show W.heap[w.heap.size]? = some (.cells #[.int .i64 6, .string t.text, .slice Ak m ck, .int .i64 (t.a : Int)] 31 (0, 0)) by rw [← hW]; exact heap_new_at _ _ _ rfl)
 have y0 := zc 0 HX.out rfl
 have y1 := zc 1 HX.out rfl
 have y2 := zc 2 HX.out rfl
 have yl := blk_lt HX.out
 clear hW x0 x1 x2 x3 xl
 obtain ⟨u, r, hkids, hroot⟩ := HMO.out.2.1 (by decide)
 have hks := HK.out.1
 rw [hkids, AllTrees] at hks
 obtain ⟨q1, ks', rfl, hq1, hrest⟩ := hks
 obtain ⟨bd, hbd, z1, zl⟩ := HKID.out W (HBW.out.mono H.out.nr.lo) 0 q1 rfl
 have z1 : W.cell? bd = some (.int .i64 (q1 : Int)) := z1
 have zl : bd.block < W.heap.size := zl
 subst hbd
 have hm0 : (0 : Int) < (m : Int) := by rw [HK.out.2.1]; simp
 have HRT := zh (root_any (M := M) c (H.out.below (HBW.out.mono H.out.nr.lo)) hq1 (HKK.out u (by rw [hkids]; simp)))
 rw [← HNN.out.1] at HRT
 unfold isRoot at hroot
 clear hkids hrest hq1
 go_wp2_with fail
 refine HRT.out.mono ?_
 rintro e w2 ⟨rfl, hb2⟩
 have HB2 := zh (HBW.out.trans (hb2.mono HBW.out.size))
 clear hb2
 rcases hroot with hr | hr
 ·have b17 : (rootT u == 17) = true := beq_iff_eq.2 hr
  clear hr; go_wp2_with fail
  go_ret
  exact ⟨rfl, HB2.out⟩
 ·have b17 : (rootT u == 17) = false := by rw [hr]; rfl
  have b21 : (rootT u == 21) = true := beq_iff_eq.2 hr; clear hr; go_wp2_with fail
  go_ret
  exact ⟨rfl, HB2.out⟩
theorem pc_extra_root7 {w : World} {B q M : Nat} {A : Option Addr} {l : List NdM} {ns : List Nd} {t : PT} (c : Nat) (h : ProgN w B A l ns) (ht : IsTree ns t q) (hok : okT M t) (hk : t.kind = 7) : Calls Tryz.prog 14 #[.slice A l.length c, .int .i64 (q : Int)] w (RetB (.bool true) w) := by
 obtain ⟨ad, Ak, ck, ks, hA, x0, x1, x2, x3, xl, hp, hks, hk5, hkc, hlt, hkid⟩ := h.cells ht
 have hmore := (okT_loc hok).1.2.2.2.2
 have hkk := (okT_loc hok).2.2
 obtain ⟨N, hN⟩ : ∃ N, N = l.length := ⟨_, rfl⟩
 obtain ⟨m, hm⟩ : ∃ m, m = ks.length := ⟨_, rfl⟩
 have hlen := hks.len
 rw [← hN]
 rw [← hm] at x2
 rw [hk] at x0 hmore
 clear hk
 have HMO := zh hmore
 have HKK := zh hkk
 have HK := zh (show AllTrees ns t.kids ks ∧ m = ks.length ∧ m ≤ 50000 ∧ m ≤ ck ∧ (∀ k ∈ ks, k < q) ∧ t.kids.length = m by exact ⟨hks, hm, by omega, by omega, hlt, by omega⟩)
 have HKID := zh hkid
 have HNN := zh (show N = l.length ∧ N ≤ 50000 from ⟨hN, by rw [hN, h.size]; exact h.len⟩)
 subst hA
 have H := zh h
 have hq0 : (0 : Int) ≤ (q : Int) := by omega
 have hqN : (q : Int) < (N : Int) := by omega
 clear h ht hok hks hk5 hkc hlt hkid hmore hkk hlen hp hm hN
 go_enter Tryz.func14, Tryz.ntmps14
 go_upto_region 2 with fail
 refine gen_wpT fun W hW => ?_
 have HBW := zh (show Below w.heap.size w W by rw [← hW]; exact zbr.alloc znr _)
 have HX := zh (show W.heap[w.heap.size]? = some (.cells #[.int .i64 7, .string t.text, .slice Ak m ck, .int .i64 (t.a : Int)] 31 (0, 0)) by rw [← hW]; exact heap_new_at _ _ _ rfl)
 have y0 := zc 0 HX.out rfl
 have y1 := zc 1 HX.out rfl
 have y2 := zc 2 HX.out rfl
 have yl := blk_lt HX.out
 clear hW x0 x1 x2 x3 xl
 obtain ⟨u, r, hkids, hroot⟩ := HMO.out.2.1 (by decide)
 have hks := HK.out.1
 rw [hkids, AllTrees] at hks
 obtain ⟨q1, ks', rfl, hq1, hrest⟩ := hks
 obtain ⟨bd, hbd, z1, zl⟩ := HKID.out W (HBW.out.mono H.out.nr.lo) 0 q1 rfl
 have z1 : W.cell? bd = some (.int .i64 (q1 : Int)) := z1
 have zl : bd.block < W.heap.size := zl
 subst hbd
 have hm0 : (0 : Int) < (m : Int) := by rw [HK.out.2.1]; simp
 have HRT := zh (root_any (M := M) c (H.out.below (HBW.out.mono H.out.nr.lo)) hq1 (HKK.out u (by rw [hkids]; simp)))
 rw [← HNN.out.1] at HRT
 unfold isRoot at hroot
 clear hkids hrest hq1
 go_wp2_with fail
 refine HRT.out.mono ?_
 rintro e w2 ⟨rfl, hb2⟩
 have HB2 := zh (HBW.out.trans (hb2.mono HBW.out.size))
 clear hb2
 rcases hroot with hr | hr
 ·have b17 : (rootT u == 17) = true := beq_iff_eq.2 hr
  clear hr; go_wp2_with fail
  go_ret
  exact ⟨rfl, HB2.out⟩
 ·have b17 : (rootT u == 17) = false := by rw [hr]; rfl
  have b21 : (rootT u == 21) = true := beq_iff_eq.2 hr; clear hr; go_wp2_with fail
  go_ret
  exact ⟨rfl, HB2.out⟩
theorem pc_extra_builtin {w : World} {B q M : Nat} {A : Option Addr} {l : List NdM} {ns : List Nd} {t : PT} (c : Nat) (h : ProgN w B A l ns) (ht : IsTree ns t q) (hok : okT M t) (hk : t.kind = 21) : Calls Tryz.prog 14 #[.slice A l.length c, .int .i64 (q : Int)] w (RetB (.bool true) w) := by
 obtain ⟨ad, Ak, ck, ks, hA, x0, x1, x2, x3, xl, hp, hks, hk5, hkc, hlt, hkid⟩ := h.cells ht
 have hmore := (okT_loc hok).1.2.2.2.2
 have hkk := (okT_loc hok).2.2
 obtain ⟨N, hN⟩ : ∃ N, N = l.length := ⟨_, rfl⟩
 obtain ⟨m, hm⟩ : ∃ m, m = ks.length := ⟨_, rfl⟩
 have hlen := hks.len
 rw [← hN]
 rw [← hm] at x2
 rw [hk] at x0 hmore
 clear hk
 have HMO := zh hmore
 have HKK := zh hkk
 have HK := zh (show AllTrees ns t.kids ks ∧ m = ks.length ∧ m ≤ 50000 ∧ m ≤ ck ∧ (∀ k ∈ ks, k < q) ∧ t.kids.length = m by exact ⟨hks, hm, by omega, by omega, hlt, by omega⟩)
 have HKID := zh hkid
 have HNN := zh (show N = l.length ∧ N ≤ 50000 from ⟨hN, by rw [hN, h.size]; exact h.len⟩)
 subst hA
 have H := zh h
 have hq0 : (0 : Int) ≤ (q : Int) := by omega
 have hqN : (q : Int) < (N : Int) := by omega
 clear h ht hok hks hk5 hkc hlt hkid hmore hkk hlen hp hm hN
 go_enter Tryz.func14, Tryz.ntmps14
 go_upto_region 2 with fail
 refine gen_wpT fun W hW => ?_
 have HBW := zh (show Below w.heap.size w W by rw [← hW]; exact zbr.alloc znr _)
 have HX := zh (show W.heap[w.heap.size]? = some (.cells #[.int .i64 21, .string t.text, .slice Ak m ck, .int .i64 (t.a : Int)] 31 (0, 0)) by rw [← hW]; exact heap_new_at _ _ _ rfl)
 have y0 := zc 0 HX.out rfl
 have y1 := zc 1 HX.out rfl
 have y2 := zc 2 HX.out rfl
 have yl := blk_lt HX.out
 clear hW x0 x1 x2 x3 xl
 cases hrd : (t.text.toList == [114, 101, 97, 100]) with
 | true =>
  have HRW := zh (show t.text = ⟨#[114, 101, 97, 100]⟩ ∨ t.text = ⟨#[119, 114, 105, 116, 101]⟩ from .inl (eqB hrd)); obtain ⟨u, r, hkids, hch⟩ := HMO.out.2.2.1 rfl HRW.out; obtain ⟨hk15, nn, hn0, hn7, htx⟩ := chan_digit (HKK.out u (by rw [hkids]; simp)) hch; have hks := HK.out.1; rw [hkids, AllTrees] at hks; obtain ⟨q1, ks', rfl, hq1, hrest⟩ := hks; obtain ⟨bd, hbd, z1, zl⟩ := HKID.out W (HBW.out.mono H.out.nr.lo) 0 q1 rfl; have z1 : W.cell? bd = some (.int .i64 (q1 : Int)) := z1; have zl : bd.block < W.heap.size := zl; obtain ⟨ad', Au, cu, kus, hA', n0, n1, n2, n3, nl, hpu, -⟩ := (H.out.below (HBW.out.mono H.out.nr.lo)).cells hq1; obtain rfl := Option.some.inj hA'; subst hbd; have hm0 : (0 : Int) < (m : Int) := by rw [HK.out.2.1]; simp
  have hq10 : (0 : Int) ≤ (q1 : Int) := by omega
  have hq1N : (q1 : Int) < (N : Int) := by have := HNN.out; omega
  have HDG := zh (fun w => pc_digit nn ⟨hn0, hn7⟩ w); obtain ⟨tn, htn⟩ : ∃ t, t = numText nn := ⟨_, rfl⟩; rw [← htn] at HDG htx; rw [htx] at n1; rw [hk15] at n0; clear hkids hrest hq1 hch hk15 hn0 hn7 htx htn hpu
  go_upto_region 17 with fail
  refine gen_wpT fun W2 hW2 => ?_; have HBW2 := zh (show Below W.heap.size W W2 by rw [← hW2]; exact zbr.alloc znr _); have HX2 := zh (show W2.heap[W.heap.size]? = some (.cells #[.int .i64 15, .string tn, .slice Au kus.length cu, .int .i64 (u.a : Int)] 31 (0, 0)) by rw [← hW2]; exact heap_new_at _ _ _ rfl); have v0 := zc 0 HX2.out rfl; have v1 := zc 1 HX2.out rfl; have vl := blk_lt HX2.out; clear hW2 n0 n1 n2 n3 nl; go_wp2_with fail
  refine (HDG.out W2).mono ?_; rintro e w2 ⟨rfl, hb2⟩; have HB2 := zh (HBW.out.trans ((HBW2.out.trans (hb2.mono HBW2.out.size)).mono HBW.out.size)); clear hb2; go_wp2_with fail
  go_ret
  exact ⟨rfl, HB2.out⟩
 | false =>
  cases hwr : (t.text.toList == [119, 114, 105, 116, 101]) with
  | true =>
   have HRW := zh (show t.text = ⟨#[114, 101, 97, 100]⟩ ∨ t.text = ⟨#[119, 114, 105, 116, 101]⟩ from .inr (eqB hwr)); obtain ⟨u, r, hkids, hch⟩ := HMO.out.2.2.1 rfl HRW.out; obtain ⟨hk15, nn, hn0, hn7, htx⟩ := chan_digit (HKK.out u (by rw [hkids]; simp)) hch; have hks := HK.out.1; rw [hkids, AllTrees] at hks; obtain ⟨q1, ks', rfl, hq1, hrest⟩ := hks; obtain ⟨bd, hbd, z1, zl⟩ := HKID.out W (HBW.out.mono H.out.nr.lo) 0 q1 rfl; have z1 : W.cell? bd = some (.int .i64 (q1 : Int)) := z1; have zl : bd.block < W.heap.size := zl; obtain ⟨ad', Au, cu, kus, hA', n0, n1, n2, n3, nl, hpu, -⟩ := (H.out.below (HBW.out.mono H.out.nr.lo)).cells hq1; obtain rfl := Option.some.inj hA'; subst hbd; have hm0 : (0 : Int) < (m : Int) := by rw [HK.out.2.1]; simp
   have hq10 : (0 : Int) ≤ (q1 : Int) := by omega
   have hq1N : (q1 : Int) < (N : Int) := by have := HNN.out; omega
   have HDG := zh (fun w => pc_digit nn ⟨hn0, hn7⟩ w); obtain ⟨tn, htn⟩ : ∃ t, t = numText nn := ⟨_, rfl⟩; rw [← htn] at HDG htx; rw [htx] at n1; rw [hk15] at n0; clear hkids hrest hq1 hch hk15 hn0 hn7 htx htn hpu
   go_upto_region 17 with fail
   refine gen_wpT fun W2 hW2 => ?_; have HBW2 := zh (show Below W.heap.size W W2 by rw [← hW2]; exact zbr.alloc znr _); have HX2 := zh (show W2.heap[W.heap.size]? = some (.cells #[.int .i64 15, .string tn, .slice Au kus.length cu, .int .i64 (u.a : Int)] 31 (0, 0)) by rw [← hW2]; exact heap_new_at _ _ _ rfl); have v0 := zc 0 HX2.out rfl; have v1 := zc 1 HX2.out rfl; have vl := blk_lt HX2.out; clear hW2 n0 n1 n2 n3 nl; go_wp2_with fail
   refine (HDG.out W2).mono ?_; rintro e w2 ⟨rfl, hb2⟩; have HB2 := zh (HBW.out.trans ((HBW2.out.trans (hb2.mono HBW2.out.size)).mono HBW.out.size)); clear hb2; go_wp2_with fail
   go_ret
   exact ⟨rfl, HB2.out⟩
  | false =>
   go_wp2_with fail
   go_ret
   exact ⟨rfl, HBW.out⟩
theorem pc_extra_shape {w : World} {B q M : Nat} {A : Option Addr} {l : List NdM} {ns : List Nd} {t : PT} (c : Nat) (h : ProgN w B A l ns) (ht : IsTree ns t q) (hok : okT M t) (hk : t.kind = 32) : Calls Tryz.prog 14 #[.slice A l.length c, .int .i64 (q : Int)] w (RetB (.bool true) w) := by
 obtain ⟨ad, Ak, ck, ks, hA, x0, x1, x2, x3, xl, hp, hks, hk5, hkc, hlt, hkid⟩ := h.cells ht
 have hmore := (okT_loc hok).1.2.2.2.2
 have hkk := (okT_loc hok).2.2
 obtain ⟨N, hN⟩ : ∃ N, N = l.length := ⟨_, rfl⟩
 obtain ⟨m, hm⟩ : ∃ m, m = ks.length := ⟨_, rfl⟩
 have hlen := hks.len
 rw [← hN]
 rw [← hm] at x2
 rw [hk] at x0 hmore
 clear hk
 have HMO := zh hmore
 have HKK := zh hkk
 have HK := zh (show AllTrees ns t.kids ks ∧ m = ks.length ∧ m ≤ 50000 ∧ m ≤ ck ∧ (∀ k ∈ ks, k < q) ∧ t.kids.length = m by exact ⟨hks, hm, by omega, by omega, hlt, by omega⟩)
 have HKID := zh hkid
 have HNN := zh (show N = l.length ∧ N ≤ 50000 from ⟨hN, by rw [hN, h.size]; exact h.len⟩)
 subst hA
 have H := zh h
 have hq0 : (0 : Int) ≤ (q : Int) := by omega
 have hqN : (q : Int) < (N : Int) := by omega
 clear h ht hok hks hk5 hkc hlt hkid hmore hkk hlen hp hm hN
 go_enter Tryz.func14, Tryz.ntmps14
 go_upto_region 2 with fail
 refine gen_wpT fun W hW => ?_
 have HBW := zh (show Below w.heap.size w W by rw [← hW]; exact zbr.alloc znr _)
 have HX := zh (show W.heap[w.heap.size]? = some (.cells #[.int .i64 32, .string t.text, .slice Ak m ck, .int .i64 (t.a : Int)] 31 (0, 0)) by rw [← hW]; exact heap_new_at _ _ _ rfl)
 have y0 := zc 0 HX.out rfl
 have y1 := zc 1 HX.out rfl
 have y2 := zc 2 HX.out rfl
 have yl := blk_lt HX.out
 clear hW x0 x1 x2 x3 xl
 go_wp2_with fail
 go_loopw [102] (fun jv wr => ∃ j : Nat, j ≤ m ∧ jv = .int .i64 (j : Int) ∧ Hid (Below W.heap.size W wr)) (fun jv _ => m - (intOf jv).toNat)
 case atStart => exact ⟨0, Nat.zero_le _, rfl, zh zbr⟩
 case round =>
  obtain ⟨j, hjm, rfl, HB1⟩ := hrel; have hm5 := HK.out.2.2.1; have HBr := zh (HBW.out.trans (HB1.out.mono HBW.out.size)); by_cases hlt : j < m
  ·obtain ⟨qa, hq_a⟩ : ∃ q1, ks[j]? = some q1 := ⟨_, List.getElem?_eq_getElem (by rw [← HK.out.2.1]; omega)⟩
   obtain ⟨ua, hu_a, ht_a⟩ := HK.out.1.get j qa hq_a; obtain ⟨bd, hbd, z_a, zl_a⟩ := HKID.out wr (HBr.out.mono H.out.nr.lo) j qa hq_a; obtain ⟨n0_a, n1_a, nl_a, hp_a⟩ := H.out.at HBr.out ht_a; subst hbd; have y2r := (HB1.out.cell (p := ⟨w.heap.size, 2, none⟩) yl).trans y2; have ylr : w.heap.size < wr.heap.size := Nat.lt_of_lt_of_le yl HB1.out.size; have hj0 : (0 : Int) ≤ (j : Int) := by omega
   have hjI : (j : Int) < (m : Int) := by omega
   have hjc : (j : Int) ≤ (ck : Int) := by have := HK.out; omega
   have HUA := zh (And.intro hu_a (And.intro ht_a hp_a)); have HZ := zh (And.intro z_a zl_a); clear hq_a n0_a n1_a nl_a hu_a ht_a hp_a
   go_upto_region 23 with fail
   go_loopw [112] (fun iv wr2 => ∃ i : Nat, i ≤ j ∧ iv = .int .i64 (i : Int) ∧ Hid (Below W.heap.size W wr2)) (fun iv _ => j - (intOf iv).toNat)
   case atStart => exact ⟨0, Nat.zero_le _, rfl, HB1⟩
   case round =>
    obtain ⟨i, hij, rfl, HB2⟩ := hrel; have HBs := zh (HBW.out.trans (HB2.out.mono HBW.out.size)); by_cases hlt2 : i < j
    ·obtain ⟨qb, hq_b⟩ : ∃ q1, ks[i]? = some q1 := ⟨_, List.getElem?_eq_getElem (by rw [← HK.out.2.1]; omega)⟩
     obtain ⟨ub, hu_b, ht_b⟩ := HK.out.1.get i qb hq_b; obtain ⟨bd2, hbd2, z_b, zl_b⟩ := HKID.out _ (HBs.out.mono H.out.nr.lo) i qb hq_b; obtain rfl := Option.some.inj hbd2; obtain ⟨-, n1_b, nl_b, hp_b⟩ := H.out.at HBs.out ht_b; obtain ⟨-, n1_a, nl_a, hp_a⟩ := H.out.at HBs.out HUA.out.2.1; have hne : ub.text ≠ ua.text := nodup_at (HMO.out.2.2.2.1 rfl) (i := i) (j := j) (by rw [List.getElem?_map, hu_b]; rfl) (by rw [List.getElem?_map, HUA.out.1]; rfl) hlt2; have heq : (ua.text.toList == ub.text.toList) = false := beq_eq_false_iff_ne.2 fun e => hne (ByteArray.ext (Array.toList_inj.1 (by rw [ByteArray.toList_eq, ByteArray.toList_eq] at e; exact e.symm))); have hi0 : (0 : Int) ≤ (i : Int) := by omega
     have hiI : (i : Int) < (j : Int) := by omega
     have hqa0 : (0 : Int) ≤ (qa : Int) := by omega
     have hqb0 : (0 : Int) ≤ (qb : Int) := by omega
     have hqaN : (qa : Int) < (N : Int) := by have := HNN.out; omega
     have hqbN : (qb : Int) < (N : Int) := by have := HNN.out; omega
     clear hq_b hu_b ht_b hne hp_a hp_b
     go_upto_region 25 with fail
     go_quiet (fail)
     go_wp2_with fail
     go_roundw
     case rel => exact ⟨i + 1, by omega, by go_num, zh (below_dX HB2.out _)⟩
     case measure => simp [intOf]; omega
    ·obtain rfl : i = j := by omega
     have hiq : ¬ (i : Int) < (i : Int) := by omega
     go_wp2_with fail
     go_roundw
     case rel => exact ⟨i + 1, by omega, by go_num, HB2⟩
     case measure => simp [intOf]; omega
  ·obtain rfl : j = m := by omega
   have hjq : ¬ (j : Int) < (j : Int) := by omega
   go_wp2_with fail
   go_ret
   exact ⟨rfl, HBr.out⟩
theorem rowK_len {B : List Int} (h : rowK (formK 1).2.2 B) : B.length = 1 := by
 cases B with
 | nil => exact absurd h (by simp [formK, rowK])
 | cons x r =>
  cases r with
  | nil => rfl
  | cons y r => exact absurd h (by simp [formK, rowK])
theorem prog_pos {M : Nat} {t : PT} (h : okT M t) (hk : t.kind = 1) : 1 ≤ t.kids.length := by
 obtain ⟨⟨_, _, h2, _, _⟩, _, _⟩ := okT_loc h
 obtain ⟨A, Mm, B, e1, _, e3, _⟩ := h2
 rw [hk] at e3
 have e4 : B.length = 1 := (rowK_len e3)
 have := congrArg List.length e1
 rw [List.length_map, List.length_append, e4] at this
 omega
theorem one_byte {n : Int} {m x : ByteArray} (h0 : 0 ≤ n) (h7 : n ≤ 7) (hx : x = numText n ++ m) : ∃ (_ : Unit) (h : 0 < x.size), x[0] = UInt8.ofNat (48 + n.toNat) := by
 obtain ⟨b, hb, hbb⟩ : ∃ b : UInt8, numText n = ⟨#[b]⟩ ∧ b = UInt8.ofNat (48 + n.toNat) := by
  obtain rfl | rfl | rfl | rfl | rfl | rfl | rfl | rfl : n = 0 ∨ n = 1 ∨ n = 2 ∨ n = 3 ∨ n = 4 ∨ n = 5 ∨ n = 6 ∨ n = 7 := by omega
  all_goals first | exact ⟨_, txt_0, rfl⟩ | exact ⟨_, txt_1, rfl⟩ | exact ⟨_, txt_2, rfl⟩ | exact ⟨_, txt_3, rfl⟩ | exact ⟨_, txt_4, rfl⟩ | exact ⟨_, txt_5, rfl⟩ | exact ⟨_, txt_6, rfl⟩ | exact ⟨_, txt_7, rfl⟩
 have hs : 0 < x.size := by rw [hx, hb, ByteArray.size_append]; show 0 < 1 + m.size; omega
 refine ⟨(), hs, ?_⟩
 have h1 : x.data.toList[0]? = some x[0] := by
  rw [Array.getElem?_toList]; exact Array.getElem?_eq_getElem hs
 have h2 : x.data.toList = b :: m.data.toList := by
  rw [hx, hb, ByteArray.data_append, Array.toList_append]
  rfl
 rw [h2] at h1
 rw [← hbb]
 exact (Option.some.inj h1).symm
theorem chan_bytes {l : List PT} {ns : List Int} (h1 : ns.Nodup) (h2 : l.length = ns.length) (h3 : ∀ (j : Nat) (t : PT) (n : Int), l[j]? = some t → ns[j]? = some n → 0 ≤ n ∧ n ≤ 7 ∧ ∃ m, t.text = numText n ++ m) {i j : Nat} {u v : PT} (hi : l[i]? = some u) (hj : l[j]? = some v) (hij : i < j) :
  ∃ (hv : 0 < v.text.size) (hu : 0 < u.text.size), 0 < u.text.size ∧ 0 < v.text.size ∧ (v.text[0] == u.text[0]) = false := by
 obtain ⟨hil, _⟩ := List.getElem?_eq_some_iff.1 hi
 obtain ⟨hjl, _⟩ := List.getElem?_eq_some_iff.1 hj
 have ei : ns[i]? = some ns[i] := List.getElem?_eq_getElem (by omega)
 have ej : ns[j]? = some ns[j] := List.getElem?_eq_getElem (by omega)
 obtain ⟨a0, a7, ma, ha⟩ := h3 i u _ hi ei
 obtain ⟨b0, b7, mb, hb⟩ := h3 j v _ hj ej
 have hne := List.pairwise_iff_getElem.1 h1 i j (by omega) (by omega) hij
 obtain ⟨ca, hca, hza⟩ := one_byte a0 a7 ha
 obtain ⟨cb, hcb, hzb⟩ := one_byte b0 b7 hb
 refine ⟨hcb, hca, hca, hcb, ?_⟩
 rw [beq_eq_false_iff_ne, hzb, hza]
 intro e
 have := congrArg UInt8.toNat e
 rw [UInt8.toNat_ofNat', UInt8.toNat_ofNat'] at this
 omega
theorem pc_extra_program {w : World} {B q M : Nat} {A : Option Addr} {l : List NdM} {ns : List Nd} {t : PT} (c : Nat) (h : ProgN w B A l ns) (ht : IsTree ns t q) (hok : okT M t) (hk : t.kind = 1) : Calls Tryz.prog 14 #[.slice A l.length c, .int .i64 (q : Int)] w (RetB (.bool true) w) := by
 obtain ⟨ad, Ak, ck, ks, hA, x0, x1, x2, x3, xl, hp, hks, hk5, hkc, hlt, hkid⟩ := h.cells ht
 have hmore := (okT_loc hok).1.2.2.2.2
 have hkk := (okT_loc hok).2.2
 obtain ⟨N, hN⟩ : ∃ N, N = l.length := ⟨_, rfl⟩
 obtain ⟨m, hm⟩ : ∃ m, m = ks.length := ⟨_, rfl⟩
 have hlen := hks.len
 rw [← hN]
 rw [← hm] at x2
 have hpos := prog_pos hok hk
 rw [hk] at x0 hmore
 have HPOS := zh (show 1 ≤ m by omega)
 clear hk hpos
 have HMO := zh hmore
 have HKK := zh hkk
 have HK := zh (show AllTrees ns t.kids ks ∧ m = ks.length ∧ m ≤ 50000 ∧ m ≤ ck ∧ (∀ k ∈ ks, k < q) ∧ t.kids.length = m by exact ⟨hks, hm, by omega, by omega, hlt, by omega⟩)
 have HKID := zh hkid
 have HNN := zh (show N = l.length ∧ N ≤ 50000 from ⟨hN, by rw [hN, h.size]; exact h.len⟩)
 subst hA
 have H := zh h
 have hq0 : (0 : Int) ≤ (q : Int) := by omega
 have hqN : (q : Int) < (N : Int) := by omega
 clear h ht hok hks hk5 hkc hlt hkid hmore hkk hlen hp hm hN
 go_enter Tryz.func14, Tryz.ntmps14
 go_upto_region 2 with fail
 refine gen_wpT fun W hW => ?_
 have HBW := zh (show Below w.heap.size w W by rw [← hW]; exact zbr.alloc znr _)
 have HX := zh (show W.heap[w.heap.size]? = some (.cells #[.int .i64 1, .string t.text, .slice Ak m ck, .int .i64 (t.a : Int)] 31 (0, 0)) by rw [← hW]; exact heap_new_at _ _ _ rfl)
 have y0 := zc 0 HX.out rfl
 have y1 := zc 1 HX.out rfl
 have y2 := zc 2 HX.out rfl
 have yl := blk_lt HX.out
 clear hW x0 x1 x2 x3 xl
 have hnz := HMO.out.2.2.2.2 rfl
 obtain ⟨nums, hnd, hnl, hnt⟩ := hnz
 have HNU := zh (And.intro hnd (And.intro hnl hnt))
 obtain ⟨m1, hm1⟩ : ∃ m1, m1 = m - 1 := ⟨_, rfl⟩
 have hm5 := HK.out.2.2.1
 have hmp : 1 ≤ m := HPOS.out
 have e1 : (m : Int) - 1 = (m1 : Int) := by omega
 have e2 : IntKind.i64.wrap (m1 : Int) = (m1 : Int) := IntWalk.i64_in _ (by omega)
 have hmc0 : (0 : Int) ≤ (m1 : Int) := by omega
 have hmc : (m1 : Int) ≤ (ck : Int) := by have := HK.out; omega
 have HM1 := zh hm1
 clear hnd hnl hnt hm1
 go_upto_region 31 with fail
 go_loopw [139] (fun jv wr => ∃ j : Nat, j ≤ m1 ∧ jv = .int .i64 (j : Int) ∧ Hid (Below W.heap.size W wr)) (fun jv _ => m1 - (intOf jv).toNat)
 case atStart => exact ⟨0, Nat.zero_le _, rfl, zh zbr⟩
 case round =>
  obtain ⟨j, hjm, rfl, HB1⟩ := hrel; have hm5 := HK.out.2.2.1; have hm1m : m1 < m := by have := HM1.out; have := HPOS.out; omega
  have HBr := zh (HBW.out.trans (HB1.out.mono HBW.out.size)); by_cases hlt : j < m1
  ·obtain ⟨qa, hq_a⟩ : ∃ q1, ks[j]? = some q1 := ⟨_, List.getElem?_eq_getElem (by rw [← HK.out.2.1]; omega)⟩
   obtain ⟨ua, hu_a, ht_a⟩ := HK.out.1.get j qa hq_a; obtain ⟨bd, hbd, z_a, zl_a⟩ := HKID.out wr (HBr.out.mono H.out.nr.lo) j qa hq_a; obtain ⟨n0_a, n1_a, nl_a, hp_a⟩ := H.out.at HBr.out ht_a; subst hbd; have y2r := (HB1.out.cell (p := ⟨w.heap.size, 2, none⟩) yl).trans y2; have ylr : w.heap.size < wr.heap.size := Nat.lt_of_lt_of_le yl HB1.out.size; have hj0 : (0 : Int) ≤ (j : Int) := by omega
   have hjI : (j : Int) < (m1 : Int) := by omega
   have hjc : (j : Int) ≤ (ck : Int) := by have := HK.out; omega
   have hda : t.kids.dropLast[j]? = some ua := by rw [List.getElem?_dropLast, if_pos (by rw [HK.out.2.2.2.2.2]; have := HM1.out; omega)]; exact hu_a
   have HUA := zh (And.intro hda (And.intro ht_a hp_a)); clear hq_a n0_a n1_a nl_a hu_a ht_a hp_a hda
   go_upto_region 34 with fail
   go_loopw [149] (fun iv wr2 => ∃ i : Nat, i ≤ j ∧ iv = .int .i64 (i : Int) ∧ Hid (Below W.heap.size W wr2)) (fun iv _ => j - (intOf iv).toNat)
   case atStart => exact ⟨0, Nat.zero_le _, rfl, HB1⟩
   case round =>
    obtain ⟨i, hij, rfl, HB2⟩ := hrel; have HBs := zh (HBW.out.trans (HB2.out.mono HBW.out.size)); by_cases hlt2 : i < j
    ·obtain ⟨qb, hq_b⟩ : ∃ q1, ks[i]? = some q1 := ⟨_, List.getElem?_eq_getElem (by rw [← HK.out.2.1]; omega)⟩
     obtain ⟨ub, hu_b, ht_b⟩ := HK.out.1.get i qb hq_b; obtain ⟨bd2, hbd2, z_b, zl_b⟩ := HKID.out _ (HBs.out.mono H.out.nr.lo) i qb hq_b; obtain rfl := Option.some.inj hbd2; obtain ⟨-, n1_b, nl_b, hp_b⟩ := H.out.at HBs.out ht_b; obtain ⟨-, n1_a, nl_a, hp_a⟩ := H.out.at HBs.out HUA.out.2.1; have hdb : t.kids.dropLast[i]? = some ub := by rw [List.getElem?_dropLast, if_pos (by rw [HK.out.2.2.2.2.2]; have := HM1.out; omega)]; exact hu_b
     obtain ⟨sa, sb, hne⟩ := chan_bytes HNU.out.1 HNU.out.2.1 HNU.out.2.2 hdb HUA.out.1 hlt2; obtain ⟨hsb, hsa, hbb⟩ := hne; have hbb2 : ((ua.text[0].toNat : Int) == (ub.text[0].toNat : Int)) = false := by
      rw [beq_eq_false_iff_ne] at hbb ⊢; exact fun e => hbb (UInt8.toNat_inj.1 (by omega))
     clear hbb; have hi0 : (0 : Int) ≤ (i : Int) := by omega
     have hiI : (i : Int) < (j : Int) := by omega
     have hqa0 : (0 : Int) ≤ (qa : Int) := by omega
     have hqb0 : (0 : Int) ≤ (qb : Int) := by omega
     have hqaN : (qa : Int) < (N : Int) := by have := HNN.out; omega
     have hqbN : (qb : Int) < (N : Int) := by have := HNN.out; omega
     have hsaI : (0 : Int) < (ua.text.size : Int) := by omega
     have hsbI : (0 : Int) < (ub.text.size : Int) := by omega
     clear hq_b hu_b ht_b hp_a hp_b hdb
     go_upto_region 36 with fail
     go_quiet (fail)
     go_wp2_with fail
     go_roundw
     case rel => exact ⟨i + 1, by omega, by go_num, zh (below_dX HB2.out _)⟩
     case measure => simp [intOf]; omega
    ·obtain rfl : i = j := by omega
     have hiq : ¬ (i : Int) < (i : Int) := by omega
     go_wp2_with fail
     go_roundw
     case rel => exact ⟨i + 1, by omega, by go_num, HB2⟩
     case measure => simp [intOf]; omega
  ·obtain rfl : j = m1 := by omega
   have hjq : ¬ (j : Int) < (j : Int) := by omega
   go_wp2_with fail
   go_ret
   exact ⟨rfl, HBr.out⟩
theorem pc_extra {w : World} {B q M : Nat} {A : Option Addr} {l : List NdM} {ns : List Nd} {t : PT} (c : Nat) (h : ProgN w B A l ns) (ht : IsTree ns t q) (hok : okT M t) : Calls Tryz.prog 14 #[.slice A l.length c, .int .i64 (q : Int)] w (RetB (.bool true) w) := by
 by_cases h3 : t.kind = 3
 ·exact pc_extra_block c h ht hok h3
 by_cases h6 : t.kind = 6
 ·exact pc_extra_root6 c h ht hok h6
 by_cases h7 : t.kind = 7
 ·exact pc_extra_root7 c h ht hok h7
 by_cases h21 : t.kind = 21
 ·exact pc_extra_builtin c h ht hok h21
 by_cases h32 : t.kind = 32
 ·exact pc_extra_shape c h ht hok h32
 by_cases h1 : t.kind = 1
 ·exact pc_extra_program c h ht hok h1
 exact pc_extra_rest c h ht hok ⟨h3, h6, h7, h21, h32, h1⟩
end Go.Proofs.YthobobmbileekaaGreatDoor
namespace Go.Proofs.YthobobmbileekaaGreatDoor

mutual
def txT : PT → Prop
 | .mk _ x _ l => x.size ≤ 200000 ∧ txTs l
def txTs : List PT → Prop
 | [] => True
 | t :: r => txT t ∧ txTs r
end
theorem txTs_iff : ∀ l : List PT, txTs l ↔ ∀ t ∈ l, txT t
 | [] => by simp [txTs]
 | t :: r => by rw [txTs, txTs_iff r]; simp
structure TxOk (T : List Tok) : Prop where
 text : ∀ i, (tk T i).text.size ≤ 200000
 num : ∀ i, -9223372036854775808 ≤ (tk T i).n ∧ (tk T i).n ≤ 9223372036854775807
abbrev TS {α : Type} (Q : α → Prop) (r : Option (Res α)) : Prop := Sat True (fun _ _ => True) (fun x _ => Q x) r
section
variable {α β : Type} {Q : α → Prop} {Qb : β → Prop} {T : List Tok}
theorem TS.then {r : Option (Res α)} {k : α → Nat → Option (Res β)} (h : TS Q r) (hk : ∀ x i, Q x → TS Qb (k x i)) : TS Qb (Res.then r k) := Sat.then h (fun _ => trivial) fun x i hx => hk x i hx
theorem TS.ite {c : Prop} [Decidable c] {a b : Option (Res α)} (h1 : TS Q a) (h2 : TS Q b) : TS Q (if c then a else b) := Sat.ite (fun _ => h1) (fun _ => h2)
theorem TS.bad {a e : Nat} : TS Q (some (.bad a e) : Option (Res α)) := trivial
theorem TS.bad1 {i : Nat} : TS Q (bad1 T i : Option (Res α)) := trivial
theorem TS.ok {x : α} {i : Nat} (h : Q x) : TS Q (one1 x i) := h
theorem TS.need {s : ByteArray} {i : Nat} {k : Nat → Option (Res α)} (hk : ∀ j, TS Q (k j)) : TS Q (need T s i k) := by
 unfold Go.Proofs.YthobobmbileekaaGreatDoor.need
 exact TS.ite (hk _) trivial
theorem TS.token (h : TxOk T) {kd : Int} {i : Nat} {k : Tok → Nat → Option (Res α)} (hk : ∀ t j, t.text.size ≤ 200000 → (-9223372036854775808 ≤ t.n ∧ t.n ≤ 9223372036854775807) → TS Q (k t j)) : TS Q (token T kd i k) := by
 unfold Go.Proofs.YthobobmbileekaaGreatDoor.token
 exact TS.ite (hk _ _ (h.text i) (h.num i)) trivial
theorem TS.variable (h : TxOk T) {i : Nat} {k : Tok → Nat → Option (Res α)} (hk : ∀ t j, t.text.size ≤ 200000 → TS Q (k t j)) : TS Q (variableL T i k) := by
 unfold variableL
 exact TS.token h fun t j ht _ => TS.ite trivial (hk t j ht)
theorem TS.deeper {p o : Nat} {k : Nat → Option (Res α)} (hk : ∀ j, TS Q (k j)) : TS Q (deeper p o k) := by
 unfold Go.Proofs.YthobobmbileekaaGreatDoor.deeper
 exact TS.ite trivial (hk _)
theorem num_short {n : Int} (h : -9223372036854775808 ≤ n ∧ n ≤ 9223372036854775807) : (numText n).size ≤ 200000 := Nat.le_trans (numText_size n h.1 h.2) (by decide)
theorem TS.mask (h : TxOk T) {i : Nat} {k : ByteArray → Nat → Option (Res α)} (hk : ∀ m j, m.size ≤ 21 → TS Q (k m j)) : TS Q (maskL T i k) := by
 unfold maskL
 refine TS.ite (TS.token h fun t j _ hn => ?_) (TS.token h fun t j _ hn => hk _ _ (numText_size _ hn.1 hn.2))
 by_cases h0 : t.n < 0
 ·rw [if_pos h0]; trivial
 ·rw [if_neg h0]; exact hk _ _ (numText_size _ (by omega) (by omega))
end
def PreX : N1 → Prop
 | .chainL _ x | .suffixedL x => txT x
 | .name t => t.text.size ≤ 200000
 | _ => True
def PreXs : NL → Prop
 | .stats _ acc | .until _ _ acc | .entries acc | .ones acc => txTs acc
 | .args _ => True
structure AllX (R : Rec) : Prop where
 one : ∀ nt o i, PreX nt → TS txT (R.one nt o i)
 many : ∀ nt o i, PreXs nt → TS txTs (R.many nt o i)
section
variable {T : List Tok} {R : Rec}
theorem tx_mk {k : Int} {x : ByteArray} {a : Nat} {l : List PT} (hx : x.size ≤ 200000) (hl : txTs l) : txT (.mk k x a l) := by rw [txT]; exact ⟨hx, hl⟩
theorem tx_nil : txTs [] := by rw [txTs]; trivial
theorem tx_one {t : PT} (h : txT t) : txTs [t] := by rw [txTs]; exact ⟨h, tx_nil⟩
theorem tx_two {t u : PT} (h : txT t) (h2 : txT u) : txTs [t, u] := by rw [txTs]; exact ⟨h, tx_one h2⟩
theorem tx_three {t u v : PT} (h : txT t) (h2 : txT u) (h3 : txT v) : txTs [t, u, v] := by rw [txTs]; exact ⟨h, tx_two h2 h3⟩
theorem tx_app {l m : List PT} (h : txTs l) (h2 : txTs m) : txTs (l ++ m) := (txTs_iff _).2 fun t ht => (List.mem_append.1 ht).elim ((txTs_iff l).1 h t) ((txTs_iff m).1 h2 t)
theorem tx_snoc {l : List PT} {t : PT} (h : txTs l) (h2 : txT t) : txTs (l ++ [t]) := tx_app h (tx_one h2)
theorem tx_e : (⟨#[]⟩ : ByteArray).size ≤ 200000 := by decide
theorem tx_none : txT noneT := tx_mk tx_e tx_nil
theorem x_block (H : AllX R) (o i : Nat) : TS txT (stepBlock T R o i) := by
 unfold stepBlock
 exact TS.then (H.many (.stats false []) o i tx_nil) fun l j hl => TS.ok (tx_mk tx_e hl)
theorem x_stats (H : AllX R) (b : Bool) (acc : List PT) (o i : Nat) (ha : txTs acc) : TS txTs (stepStats T R b acc o i) := by
 unfold stepStats
 exact TS.ite (TS.ok ha) (TS.then (H.one .stat o i trivial) fun t j ht => H.many (.stats _ _) o j (tx_snoc ha ht))
theorem x_ended (H : AllX R) (o i : Nat) : TS txT (stepEnded T R o i) := by
 unfold stepEnded
 exact TS.then (H.one .block o i trivial) fun t j ht => TS.need fun j => TS.ok ht
theorem x_maybe (H : AllX R) (b : Bool) (o i : Nat) : TS txT (stepMaybe R b o i) := by
 unfold stepMaybe
 exact TS.ite (H.one .exp o i trivial) (TS.ok tx_none)
theorem x_stat (h : TxOk T) (H : AllX R) (o i : Nat) : TS txT (stepStat T R o i) := by
 unfold stepStat
 refine TS.ite (TS.ok (tx_mk tx_e tx_nil)) (TS.ite (TS.then (H.one (.maybe _) o _ trivial) fun e j he => TS.ok (tx_mk tx_e (tx_one he))) (TS.ite (TS.variable h fun v j hv => TS.then (H.one (.colon true) o j trivial) fun t j ht => ?_) (TS.ite (TS.variable h fun v j hv => TS.deeper fun o => TS.then (H.one (.body _) o j trivial) fun f j hf => TS.ok (tx_mk hv (tx_one hf))) (TS.ite (TS.deeper fun o => H.one (.cond _) o _ trivial) (TS.ite (TS.deeper fun o => H.one (.whileB _) o _ trivial) (TS.ite TS.bad1 (H.one (.simple _) o i trivial)))))))
 exact TS.ite (TS.then (H.one (.maybe true) o _ trivial) fun e j he => TS.ok (tx_mk hv (tx_two ht he))) (TS.then (H.one (.maybe false) o _ trivial) fun e j he => TS.ok (tx_mk hv (tx_two ht he)))
theorem x_while (H : AllX R) (p o i : Nat) : TS txT (stepWhile T R p o i) := by
 unfold stepWhile
 exact TS.then (H.one .exp o i trivial) fun e j he => TS.need fun j => TS.then (H.one .ended o j trivial) fun b j hb => TS.ok (tx_mk tx_e (tx_two he hb))
theorem x_cond (H : AllX R) (p o i : Nat) : TS txT (stepCond T R p o i) := by
 unfold stepCond
 refine TS.then (H.one .exp o i trivial) fun e j he => TS.need fun j => TS.then (H.one .block o j trivial) fun b j hb => ?_
 exact TS.ite (TS.deeper fun o => TS.then (H.one (.cond _) o _ trivial) fun n j hn => TS.ok (tx_mk tx_e (tx_three he hb (tx_mk tx_e (tx_one hn))))) (TS.ite (TS.then (H.one .ended o _ trivial) fun x j hx => TS.ok (tx_mk tx_e (tx_three he hb hx))) (TS.need fun j => TS.ok (tx_mk tx_e (tx_three he hb tx_none))))
theorem x_simple (H : AllX R) (p o i : Nat) : TS txT (stepSimple T R p o i) := by
 unfold stepSimple
 refine TS.then (H.one .suffixed o i trivial) fun x j hx => ?_
 exact TS.ite (TS.ite TS.bad1 (TS.then (H.one .exp o _ trivial) fun e j2 he => TS.ok (tx_mk tx_e (tx_two hx he)))) (TS.ite TS.bad (TS.ok (tx_mk tx_e (tx_one hx))))
theorem x_colon (h : TxOk T) (H : AllX R) (b : Bool) (o i : Nat) : TS txT (stepColon T R b o i) := by
 unfold stepColon
 exact TS.ite (TS.then (H.one .kind o _ trivial) fun t j ht => TS.ite (TS.mask h fun m j2 hm => TS.ok (tx_mk (Nat.le_trans hm (by decide)) (tx_one ht))) (TS.ok ht)) (TS.ok tx_none)
theorem x_body (H : AllX R) (p o i : Nat) : TS txT (stepBody T R p o i) := by
 unfold stepBody
 exact TS.need fun j => TS.then (H.many (.until ⟨#[41]⟩ .param []) o j tx_nil) fun l j hl => TS.then (H.one (.colon false) o j trivial) fun k j hk => TS.then (H.one .ended o j trivial) fun b j hb => TS.ok (tx_mk tx_e (tx_app hl (tx_two hk hb)))
theorem x_param (h : TxOk T) (H : AllX R) (o i : Nat) : TS txT (stepParam T R o i) := by
 unfold stepParam
 exact TS.variable h fun t j ht => TS.then (H.one (.colon true) o j trivial) fun k j hk => TS.ok (tx_mk ht (tx_one hk))
theorem x_item (H : AllX R) (it : Item) (acc : List PT) (o i : Nat) : TS txT (R.one (it.nt acc) o i) := by cases it <;> exact H.one _ o i trivial
theorem x_until (H : AllX R) (e : ByteArray) (it : Item) (acc : List PT) (o i : Nat) (ha : txTs acc) : TS txTs (stepUntil T R e it acc o i) := by
 unfold stepUntil
 exact TS.ite (TS.ok ha) (TS.ite (TS.then (x_item H it acc o i) fun t j ht => H.many (.until _ _ _) o j (tx_snoc ha ht)) (TS.need fun i => TS.then (x_item H it acc o i) fun t j ht => H.many (.until _ _ _) o j (tx_snoc ha ht)))
theorem x_chain (H : AllX R) (r o i : Nat) : TS txT (stepChain R r o i) := by
 unfold stepChain
 exact TS.ite (H.one .unary o i trivial) (TS.then (H.one (.chain _) o i trivial) fun x j hx => H.one (.chainL r x) o j hx)
theorem x_opT {t : Tok} {x y : PT} (ht : t.text.size ≤ 200000) (hx : txT x) (hy : txT y) : txT (opT t x y) := by
 unfold opT
 split
 ·exact tx_mk tx_e (tx_two hx hy)
 ·split
  ·exact tx_mk tx_e (tx_two hx hy)
  ·exact tx_mk ht (tx_two hx hy)
theorem x_chainL (h : TxOk T) (H : AllX R) (r : Nat) (x : PT) (o i : Nat) (hx : txT x) : TS txT (stepChainL T R r x o i) := by
 unfold stepChainL
 exact TS.ite (TS.then (H.one (.chain _) o _ trivial) fun y j hy => H.one (.chainL r _) o j (x_opT (h.text i) hx hy)) (TS.ok hx)
theorem x_unary (h : TxOk T) (H : AllX R) (o i : Nat) : TS txT (stepUnary T R o i) := by
 unfold stepUnary
 exact TS.ite (TS.deeper fun o => TS.then (H.one .unary o _ trivial) fun x j hx => TS.ok (tx_mk (h.text i) (tx_one hx))) (H.one .suffixed o i trivial)
theorem x_suffixed (H : AllX R) (o i : Nat) : TS txT (stepSuffixed R o i) := by
 unfold stepSuffixed
 exact TS.then (H.one .prim o i trivial) fun x j hx => H.one (.suffixedL x) o j hx
theorem x_suffixedL (h : TxOk T) (H : AllX R) (x : PT) (o i : Nat) (hx : txT x) : TS txT (stepSuffixedL T R x o i) := by
 unfold stepSuffixedL
 dsimp only
 refine TS.ite (TS.token h fun t j ht _ => H.one _ o j ?_) (TS.ite (TS.deeper fun o2 => TS.then (H.one .index o2 _ trivial) fun k j hk => H.one _ o j ?_) (TS.ite (TS.then (H.many (.args _) o _ trivial) fun l j hl => H.one _ o j ?_) (TS.ok hx)))
 ·show txT (.mk 18 t.text (tk T i).a [x])
  exact tx_mk ht (tx_one hx)
 ·show txT (.mk 19 ⟨#[]⟩ (tk T i).a [x, k])
  exact tx_mk tx_e (tx_two hx hk)
 ·show txT (.mk 20 ⟨#[]⟩ (tk T i).a (x :: l))
  exact tx_mk tx_e (by rw [txTs]; exact ⟨hx, hl⟩)
theorem x_index (H : AllX R) (o i : Nat) : TS txT (stepIndex T R o i) := by
 unfold stepIndex
 exact TS.then (H.one .exp o i trivial) fun e j he => TS.need fun j => TS.ok he
theorem x_paren (H : AllX R) (o i : Nat) : TS txT (stepParen T R o i) := by
 unfold stepParen
 exact TS.then (H.one .exp o i trivial) fun e j he => TS.need fun j => TS.ok he
theorem x_args (H : AllX R) (p o i : Nat) : TS txTs (stepArgs T R p o i) := by
 unfold stepArgs
 exact TS.deeper fun o => H.many (.until ⟨#[41]⟩ .exp []) o i tx_nil
theorem x_prim (h : TxOk T) (H : AllX R) (o i : Nat) : TS txT (stepPrim T R o i) := by
 unfold stepPrim
 exact TS.ite (TS.ok (tx_mk (num_short (h.num i)) tx_nil)) (TS.ite (TS.ok (tx_mk (h.text i) tx_nil)) (TS.ite (H.one (.name _) o _ (h.text i)) (TS.ite (TS.ok (tx_mk tx_e tx_nil)) (TS.ite (TS.ok (tx_mk (h.text i) tx_nil)) (TS.ite (TS.deeper fun o => H.one (.body _) o _ trivial) (TS.ite (TS.deeper fun o => H.one .paren o _ trivial) (TS.ite (TS.deeper fun o => H.one (.table _) o _ trivial) TS.bad)))))))
theorem x_name (H : AllX R) (t : Tok) (o i : Nat) (ht : t.text.size ≤ 200000) : TS txT (stepName T R t o i) := by
 unfold stepName
 cases builtinL t.text with
 | none => exact TS.ok (tx_mk ht tx_nil)
 | some n => exact TS.ite (TS.then (H.many (.args _) o _ trivial) fun l j hl => TS.ite TS.bad (TS.ite TS.bad (TS.ok (tx_mk ht hl)))) TS.bad
theorem x_entries (h : TxOk T) (H : AllX R) (acc : List PT) (o i : Nat) (ha : txTs acc) : TS txTs (stepEntries T R acc o i) := by
 unfold stepEntries
 exact TS.ite (TS.ok ha) (TS.ite (TS.then (H.one .exp o _ trivial) fun e j he => TS.ite (H.many (.entries _) o _ (tx_snoc ha (tx_mk (h.text i) (tx_one he)))) (TS.ok (tx_snoc ha (tx_mk (h.text i) (tx_one he))))) (TS.then (H.one .exp o _ trivial) fun e j he => TS.ite (H.many (.entries _) o _ (tx_snoc ha (tx_mk tx_e (tx_one he)))) (TS.ok (tx_snoc ha (tx_mk tx_e (tx_one he))))))
theorem x_table (H : AllX R) (p o i : Nat) : TS txT (stepTable T R p o i) := by
 unfold stepTable
 exact TS.then (H.many (.entries []) o i tx_nil) fun l j hl => TS.need fun j => TS.ok (tx_mk tx_e hl)
theorem x_kind (H : AllX R) (o i : Nat) : TS txT (stepKind T R o i) := by
 unfold stepKind
 refine TS.ite (TS.deeper fun o => H.one (.kindF _) o _ trivial) (TS.then (H.one .one o i trivial) fun t j ht => TS.then (H.many (.ones [t]) o j (tx_one ht)) fun l j hl => ?_)
 cases l with
 | nil => exact TS.ok (tx_mk tx_e hl)
 | cons x r =>
  cases r with
  | nil => exact TS.ok (by rw [txTs] at hl; exact hl.1)
  | cons y r => exact TS.ok (tx_mk tx_e hl)
theorem x_ones (H : AllX R) (acc : List PT) (o i : Nat) (ha : txTs acc) : TS txTs (stepOnes T R acc o i) := by
 unfold stepOnes
 exact TS.ite (TS.then (H.one .one o _ trivial) fun t j ht => H.many (.ones _) o j (tx_snoc ha ht)) (TS.ok ha)
theorem x_kindF (H : AllX R) (p o i : Nat) : TS txT (stepKindF T R p o i) := by
 unfold stepKindF
 exact TS.then (H.many (.until ⟨#[41]⟩ .kind []) o i tx_nil) fun l j hl => TS.need fun j => TS.then (H.one .kind o j trivial) fun k j hk => TS.ok (tx_mk tx_e (tx_snoc hl hk))
theorem x_one (h : TxOk T) (H : AllX R) (o i : Nat) : TS txT (stepOne T R o i) := by
 unfold stepOne
 exact TS.ite (TS.ok (tx_mk (h.text i) tx_nil)) (TS.ite (TS.deeper fun o => H.one (.shape _) o _ trivial) (TS.ite (TS.ok (tx_mk (h.text i) tx_nil)) TS.bad))
theorem x_shape (H : AllX R) (p o i : Nat) : TS txT (stepShape T R p o i) := by
 unfold stepShape
 exact TS.then (H.many (.until ⟨#[125]⟩ .field []) o i tx_nil) fun l j hl => TS.ok (tx_mk tx_e hl)
theorem x_field (h : TxOk T) (H : AllX R) (seen : List ByteArray) (o i : Nat) : TS txT (stepField T R seen o i) := by
 unfold stepField
 exact TS.token h fun t j ht _ => TS.ite TS.bad (TS.need fun j => TS.then (H.one .kind o j trivial) fun k j hk => TS.ok (tx_mk ht (tx_one hk)))
theorem x_all (h : TxOk T) : ∀ f, AllX (parF T f)
 | 0 => ⟨fun _ _ _ _ => trivial, fun _ _ _ _ => trivial⟩
 | f + 1 => by
  have H := x_all h f; refine ⟨fun nt o i hp => ?_, fun nt o i hp => ?_⟩
  ·cases nt with
   | block => exact x_block H o i
   | ended => exact x_ended H o i
   | maybe b => exact x_maybe H b o i
   | stat => exact x_stat h H o i
   | whileB p => exact x_while H p o i
   | cond p => exact x_cond H p o i
   | simple p => exact x_simple H p o i
   | colon b => exact x_colon h H b o i
   | body p => exact x_body H p o i
   | param => exact x_param h H o i
   | chain r => exact x_chain H r o i
   | chainL r x => exact x_chainL h H r x o i hp
   | exp => exact H.one (.chain 1) o i trivial
   | unary => exact x_unary h H o i
   | suffixed => exact x_suffixed H o i
   | suffixedL x => exact x_suffixedL h H x o i hp
   | index => exact x_index H o i
   | paren => exact x_paren H o i
   | prim => exact x_prim h H o i
   | name t => exact x_name H t o i hp
   | table p => exact x_table H p o i
   | kind => exact x_kind H o i
   | kindF p => exact x_kindF (T := T) H p o i
   | one => exact x_one h H o i
   | shape p => exact x_shape (T := T) H p o i
   | field l => exact x_field h H l o i
  ·cases nt with
   | stats b acc => exact x_stats H b acc o i hp
   | «until» e it acc => exact x_until H e it acc o i hp
   | args p => exact x_args (T := T) H p o i
   | entries acc => exact x_entries h H acc o i hp
   | ones acc => exact x_ones H acc o i hp
theorem x_chans (h : TxOk T) : ∀ (f : Nat) (seen : List Int) (acc : List PT) (i : Nat), txTs acc → TS txTs (chansF T f seen acc i)
 | 0, _, _, _, _ => trivial
 | f + 1, seen, acc, i, ha => by
  rw [chansF]; refine TS.ite (TS.token h fun t j _ hn => TS.ite TS.bad (TS.need fun j => TS.mask h fun m j hm => x_chans h f _ _ j (tx_snoc ha (tx_mk ?_ tx_nil)))) (TS.ok ha); have h1 := numText_size t.n hn.1 hn.2; rw [ByteArray.size_append, ByteArray.size_append]
  show (numText t.n).size + 1 + m.size ≤ 200000
  omega
theorem x_prog (h : TxOk T) (f : Nat) : TS txT (progF T f) := by
 unfold progF
 exact TS.then (x_chans h f [] [] 0 tx_nil) fun l i hl => TS.then ((x_all h f).one .block 0 i trivial) fun b j hb => TS.token h fun t j _ _ => TS.ok (tx_mk tx_e (tx_snoc hl hb))
end
mutual
theorem tx_flat : ∀ (b : Nat) (t : PT), txT t → ∀ x ∈ flat b t, x.text.size ≤ 200000
 | b, .mk k y a l, h, x, hx => by
  rw [txT] at h; rw [flat] at hx
  rcases List.mem_append.1 hx with hx | hx
  ·exact tx_flats b l h.2 x hx
  ·rw [List.mem_singleton.1 hx]; exact h.1
theorem tx_flats : ∀ (b : Nat) (l : List PT), txTs l → ∀ x ∈ flats b l, x.text.size ≤ 200000
 | b, [], h, x, hx => by simp [flats] at hx
 | b, t :: r, h, x, hx => by
  rw [txTs] at h; rw [flats] at hx
  rcases List.mem_append.1 hx with hx | hx
  ·exact tx_flat b t h.1 x hx
  ·exact tx_flats _ r h.2 x hx
end
end Go.Proofs.YthobobmbileekaaGreatDoor
namespace Go.Proofs.YthobobmbileekaaGreatDoor
open Go.ChangeShapes Go.WideShapes Go.ChangeAt Go.RowKit

theorem infoBl : (Tryz.prog.info? 4).map (fun i => (i.zero, i.size, i.bytes)) = some (some (.bool false), 1, 1) := by kernel_rfl
abbrev intV (n : Int) : Value := .int .i64 n
def usedL (ns : List Nd) (k : Nat) : List Nat := (ns.take k).flatMap Nd.kids
section
variable {ns : List Nd} {nd : Nd} {k j q : Nat}
theorem used_split (hk : ns[k]? = some nd) : ns.flatMap Nd.kids = usedL ns k ++ (nd.kids ++ (ns.drop (k + 1)).flatMap Nd.kids) := by
 have hlt : k < ns.length := (List.getElem?_eq_some_iff.1 hk).1
 have e : ns = ns.take k ++ nd :: ns.drop (k + 1) := by
  have h1 := (List.take_append_drop k ns).symm; rw [List.drop_eq_getElem_cons hlt] at h1; rw [List.getElem?_eq_getElem hlt] at hk; rw [Option.some.inj hk] at h1; exact h1
 have h2 := congrArg (fun l => l.flatMap Nd.kids) e
 simp only [List.flatMap_append, List.flatMap_cons] at h2
 exact h2
theorem used_fresh (hn : (ns.flatMap Nd.kids).Nodup) (hk : ns[k]? = some nd) (hj : nd.kids[j]? = some q) : q ∉ usedL ns k ++ nd.kids.take j := by
 have hlt : j < nd.kids.length := (List.getElem?_eq_some_iff.1 hj).1
 rw [used_split hk] at hn
 have e : nd.kids = nd.kids.take j ++ q :: nd.kids.drop (j + 1) := by
  have h1 := (List.take_append_drop j nd.kids).symm; rw [List.drop_eq_getElem_cons hlt] at h1; rw [List.getElem?_eq_getElem hlt] at hj; rw [Option.some.inj hj] at h1; exact h1
 have h2 : usedL ns k ++ (nd.kids ++ (ns.drop (k + 1)).flatMap Nd.kids) = (usedL ns k ++ nd.kids.take j) ++ (q :: (nd.kids.drop (j + 1) ++ (ns.drop (k + 1)).flatMap Nd.kids)) := by
  conv => lhs; rw [e]
  simp
 rw [h2] at hn
 intro h3
 exact (List.nodup_append.1 hn).2.2 q h3 q (by simp) rfl
theorem used_one (hj : nd.kids[j]? = some q) (p : Nat) : p ∈ usedL ns k ++ nd.kids.take (j + 1) ↔ p = q ∨ p ∈ usedL ns k ++ nd.kids.take j := by
 rw [List.take_add_one, hj]
 simp only [List.mem_append, Option.toList_some, List.mem_singleton]
 constructor
 ·rintro (h | h | h)
  ·exact .inr (.inl h)
  ·exact .inr (.inr h)
  ·exact .inl h
 ·rintro (h | h | h)
  ·exact .inr (.inr h)
  ·exact .inl h
  ·exact .inr (.inl h)
theorem used_next (hk : ns[k]? = some nd) : usedL ns (k + 1) = usedL ns k ++ nd.kids := by
 unfold usedL
 rw [List.take_add_one, hk, List.flatMap_append]
 simp
end
theorem own_keep {w w' : World} {base : Nat} {e : TypeId} {sz n : Nat} {v : Value} {xs : List Value} (ho : w.ownsRow base e sz v n xs) (h : ∀ g, base ≤ g → g < w.heap.size → w'.heap[g]? = w.heap[g]?) : w'.ownsRow base e sz v n xs := by
 refine ⟨ho.1, ?_⟩
 rcases ho.2 with h1 | ⟨g, cap, cur, hv, hb, hg, rest⟩
 ·exact .inl h1
 ·exact .inr ⟨g, cap, cur, hv, hb, by rw [h g hb (Array.getElem?_eq_some_iff.1 hg).1]; exact hg, rest⟩
theorem own_reads {w : World} {base : Nat} {e : TypeId} {n c : Nat} {A : Option Addr} {xs : List Value} (ho : w.ownsRow base e 1 (.slice A n c) n xs) : Reads w w.heap.size A xs := by
 obtain ⟨A', c', hv, _, _, h3⟩ := own_form ho
 injection hv with e1 e2 e3
 have hl := ho.1
 rcases Nat.eq_zero_or_pos n with h0 | h0
 ·exact .inl (List.eq_nil_of_length_eq_zero (by rw [hl, h0]))
 ·obtain ⟨gb, hA, h4, h5, _, h7⟩ := h3 h0
  exact .inr ⟨⟨gb, 0, none⟩, by rw [e1, hA], h5, fun j u hu => by rw [Addr.add_mid, Nat.zero_add]; exact h7 j u hu⟩
structure RowB (w : World) (g M : Nat) (u : Nat → Bool) : Prop where
 own : w.ownsRow g 4 1 (.slice (some ⟨g, 0, none⟩) M M) M ((List.range M).map fun q => .bool (u q))
section
variable {w w' : World} {g M : Nat} {u u' : Nat → Bool}
theorem RowB.congr (h : RowB w g M u) (e : ∀ q, q < M → u q = u' q) : RowB w g M u' := ⟨by
 have : (List.range M).map (fun q => Value.bool (u q)) = (List.range M).map fun q => Value.bool (u' q) := List.map_congr_left fun q hq => by rw [e q (List.mem_range.1 hq)]
 rw [← this]; exact h.own⟩
theorem RowB.cell (h : RowB w g M u) {q : Nat} (hq : q < M) : w.cell? ⟨g, q, none⟩ = some (.bool (u q)) ∧ w.frozen? ⟨g, q, none⟩ = false ∧ g < w.heap.size := by
 obtain ⟨A, c, hv, _, _, h3⟩ := own_form h.own
 obtain ⟨gb, hA, h4, h5, ⟨cur, h6⟩, h7⟩ := h3 (by omega)
 injection hv with e1 e2 e3
 rw [hA] at e1
 injection e1 with e1
 injection e1 with e1
 subst e1
 exact ⟨h7 q _ (by rw [List.getElem?_map, List.getElem?_range hq]; rfl), free_of_blk h6, h5⟩
theorem RowB.set (h : RowB w g M u) (k : Nat) (v : Bool) : RowB (w.setCell ⟨g, k, none⟩ (.bool v)) g M (fun q => if q = k then v else u q) := ⟨by
 have h1 := (h.own.stored k (.bool v)).1
 have : ((List.range M).map fun q => Value.bool (u q)).set k (.bool v) = (List.range M).map fun q => Value.bool (if q = k then v else u q) := by
  refine List.ext_getElem? fun j => ?_; rw [List.getElem?_set, List.getElem?_map, List.getElem?_map]
  rcases Nat.lt_or_ge j M with hj | hj
  ·rw [List.getElem?_range hj]
   by_cases e : k = j
   ·subst e
    rw [if_pos rfl, if_pos (by simpa using hj)]; simp
   ·rw [if_neg e]
    simp [show ¬ j = k from fun e' => e e'.symm]
  ·rw [List.getElem?_eq_none (l := List.range M) (by simpa using hj)]
   by_cases e : k = j
   ·subst e
    rw [if_pos rfl, if_neg (by simpa using hj)]
    rfl
   ·rw [if_neg e]; rfl
 rw [← this]; exact h1⟩
theorem RowB.below (h : RowB w g M u) {B : Nat} (hb : Below B w w') (hB : g < B) : RowB w' g M u := ⟨by
 refine ⟨h.own.1, ?_⟩
 rcases h.own.2 with h1 | ⟨g', cap, cur, hv, hb', hg, rest⟩
 ·exact .inl h1
 ·have e : g = g' := by injection hv with e1 _ _; injection e1 with e1; injection e1
  subst e; exact .inr ⟨g, cap, cur, hv, hb', by rw [hb.block g hB]; exact hg, rest⟩⟩
theorem RowB.drewN (h : RowB w g M u) (n : Nat) : RowB (w.drewN n) g M u := h.below (below_dN (Below.refl (g + 1) _) n) (Nat.lt_succ_self _)
end
theorem madeBools (n : Nat) : (madeCells (Value.bool false).cells (n * 1)).toList = (List.range n).map fun q => Value.bool false := by
 unfold madeCells
 rw [Array.toList_map, Array.toList_range, Nat.mul_one]
 refine List.map_congr_left fun q _ => ?_
 have : q % (Value.bool false).cells.size = 0 := by
  have : (Value.bool false).cells.size = 1 := rfl; rw [this]; exact Nat.mod_one q
 rw [this]
 rfl
theorem wpList_pushK {ops : Array Oper} {rest : List Oper} {op : Oper} {a : Act} {Q : Exit → Act → World → Prop} (hgd : op.guard = none) (s x : Operand)
  (ho : op.op = .call { callee := .builtin .append, args := #[s, x], argTypes := #[29, 29] })
  {w W : World} {B c rl : Nat} {A : Option Addr} {n : Int} {l0 : List Int} (hV : w.ownsRow B 3 1 (.slice A rl c) rl (l0.map intV)) (hlen : rl ≤ 50000) (hB : B ≤ w.heap.size)
  (hW : W = w.alloc (.cells #[.int .i64 n] 3)) (hs : a.eval s = .slice A rl c) (hx : a.eval x = .slice (some ⟨w.heap.size, 0, none⟩) 1 1)
  (hk : ∀ A' cap w', w'.ownsRow B 3 1 (.slice A' (rl + 1) cap) (rl + 1) ((l0 ++ [n]).map intV) → Below B w w' → wpList Tryz.prog ops Q rest (a.put op.dst (.slice A' (rl + 1) cap)) w') :
  wpList Tryz.prog ops Q (op :: rest) a W := by
 obtain ⟨iI, hiI, hI0, hI1, hI2⟩ := info_parts infoIn
 have hbl : Below w.heap.size w W := by rw [hW]; exact zbr.alloc znr _
 have hsz : W.heap.size = w.heap.size + 1 := by rw [hW]; simp
 refine wpList_append_lies W hgd s x 29 ho B 3 iI (.int .i64 0) 1 8 Tryz.underlying29 hiI hI0 hI1 hI2 rfl (by omega) _ rl (l0.map intV) hs (below_own hbl hV) ⟨w.heap.size, 0, none⟩ 1 1 [.int .i64 n] hx rfl (by rw [hW]; exact news_new w #[.int .i64 n] _ _ rfl) (by simp [Value.oneCell']) (by omega) (by unfold maxLen; omega) (by omega) (by omega) (w.heap.size + 1) hsz fun g cap w' ho' hg' hat hlt => ?_
 refine hk _ cap w' (by rw [List.map_append]; exact ho') ((hbl.mono hB).trans (zbr.grown hg' (by rw [hsz]; omega) fun g' e => ?_))
 rcases hV.2 with ⟨h1, _⟩ | ⟨g2, c2, cur, h1, h2, _⟩
 ·rw [h1] at e; simp [Value.ownBlock] at e
 ·rw [h1] at e
  have : g2 = g' := by simpa [Value.ownBlock] using e
  omega
end Go.Proofs.YthobobmbileekaaGreatDoor
