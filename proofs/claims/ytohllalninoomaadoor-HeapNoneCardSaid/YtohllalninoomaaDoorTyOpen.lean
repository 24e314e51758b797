/-
  How a type that a law is given lies in memory: opened by its datum.
-/
import Derived.Test.YtohllalninoomaaDoorTyM
import Derived.Test.YtohllalninoomaaDoorOpen2
set_option linter.unusedVariables false
set_option linter.unusedSimpArgs false
namespace Go.Proofs.YtohllalninoomaaDoor
open Go.ChangeShapes Go.WideShapes Go.ChangeAt Go.RowKit

section
variable {H : Type} {enc : TypeId × Value → H} {P : Program} {w : World}
theorem sized_field {t tj : TypeId} {fs : Array Field} {ds : List (DataW H)} {d : DataW H} {j : Nat} (ht : P.underlying t = some (.struct fs)) (h : Sized P t (.agg ds)) (hj : (fs.toList.map (·.type))[j]? = some tj) (hd : ds[j]? = some d) : Sized P tj d := fun m hm => by
  refine h m ?_
  rw [DataW.weights, ht]
  exact DataW.weights_mem_each hj hd m hm
theorem sized_elem {t e : TypeId} {d d' : DataW H} {i : Nat} (ht : P.underlying t = some (.slice e)) (h : Sized P t d) (hf : d = .nil ∨ d = .slice (elemsOf d) (spareOf d)) (hd : (elemsOf d)[i]? = some d') : Sized P e d' := fun m hm => by
  rcases hf with hf | hf
  · rw [hf] at hd
    simp [elemsOf] at hd
  · refine h m ?_
    rw [hf, DataW.weights, ht]
    refine List.mem_cons_of_mem _ (List.mem_append_left _ ?_)
    exact weightsAll_mem hd m hm
/-- A slice, whose parts' data are smaller than its own. -/
theorem decSliceS {t e : TypeId} {α : Type} {f : α → List Value} {G : α → DataW H → Prop} {K : Nat} (ht : P.underlying t = some (.slice e)) (hC : P.cellsOf e = K) (hK0 : 0 < K) (hK : ∀ a, (f a).length = K) {fuel : Nat} {cs : List Value} {x : DataW H × List MemPlace}
    (h : DataW.trod enc P w 0 (fun _ => true) true fuel t cs = some x)
    (hD : ∀ (fuel : Nat) (cs : List Value) (y : DataW H × List MemPlace), SizeOf.sizeOf y.1 < SizeOf.sizeOf x.1 → DataW.trod enc P w 0 (fun _ => true) true fuel e cs = some y → ∃ a, cs = f a ∧ G a y.1) :
    ∃ s : Sl α, cs = [s.val] ∧ SlIn2 w f G s x.1 := by
  rcases Deep.open_slice ht h with ⟨rfl, rfl⟩ | ⟨a, len, cap, m, n, D, Pl, rfl, _, hl, hm, hmm, rfl, hi⟩
  · exact ⟨⟨none, 0, []⟩, rfl, ⟨.inl rfl, Nat.le_refl _, Nat.zero_le _, rfl, .inl rfl, fun i x hx => by simp at hx⟩, fun _ => ⟨rfl, rfl⟩⟩
  · have hlm : len ≤ m := by rw [hmm]; split <;> omega
    have hex : ∀ i, i < len → ∃ y : α, w.cells? 0 (a.add (i * K)) K = some (f y) ∧ G y (D i) := by
      intro i hil
      obtain ⟨cs', h1, h2⟩ := hi i (by omega)
      rw [hC] at h1
      have hlt : SizeOf.sizeOf (D i) < SizeOf.sizeOf (DataW.slice ((List.range len).map D) ((List.range (m - len)).map fun j => D (len + j))) := by
        have h3 : D i ∈ (List.range len).map D := List.mem_map_of_mem (by simpa using hil)
        have h4 := List.sizeOf_lt_of_mem h3
        simp only [DataW.slice.sizeOf_spec]
        omega
      obtain ⟨y, rfl, h3⟩ := hD _ _ _ hlt h2
      exact ⟨y, h1, h3⟩
    have hlist : ∀ k, k ≤ len → ∃ xs : List α, xs.length = k ∧ ∀ i y, xs[i]? = some y → w.cells? 0 (a.add (i * K)) K = some (f y) ∧ G y (D i) := by
      intro k
      induction k with
      | zero => intro _; exact ⟨[], rfl, fun i y h => by simp at h⟩
      | succ k ih =>
        intro hk
        obtain ⟨xs, hxl, hxs⟩ := ih (by omega)
        obtain ⟨y, h1, h2⟩ := hex k (by omega)
        refine ⟨xs ++ [y], by simp [hxl], fun i z hz => ?_⟩
        rcases Nat.lt_or_ge i k with hik | hik
        · rw [List.getElem?_append_left (by omega)] at hz
          exact hxs i z hz
        · rw [List.getElem?_append_right (by omega), hxl] at hz
          have : i = k := by
            rcases Nat.lt_or_ge 0 (i - k) with h0 | h0
            · rw [List.getElem?_eq_none (by simp; omega)] at hz; cases hz
            · omega
          subst this
          simp at hz
          subst hz
          exact ⟨h1, h2⟩
    obtain ⟨xs, hxl, hxs⟩ := hlist len (Nat.le_refl _)
    have hcell : ∀ j u, (xs.flatMap f)[j]? = some u → w.cell? (a.add j) = some u := by
      intro j u hu
      obtain ⟨i, y, r, rfl, hr, hy, hfu⟩ := flatMap_at hK xs j u hu
      have := (World.cells?_some (hxs i y hy).1).2.2 r hr
      rw [add_add'] at this
      rw [this, hfu]
    refine ⟨⟨some a, cap, xs⟩, by simp [Sl.val, hxl], ⟨?_, by simpa [hxl] using hl, hm, by simp [elemsOf, hxl], .inr rfl, ?_⟩, fun e => by cases e⟩
    · rcases xs with _ | ⟨y, xs⟩
      · exact .inl rfl
      · right
        refine ⟨a, rfl, ?_, hcell⟩
        have h0 := hcell 0 ((f y)[0]'(by rw [hK]; exact hK0)) (by rw [List.flatMap_cons, List.getElem?_append_left (by rw [hK]; exact hK0)]; simp [hK, hK0])
        have := cell_lt h0
        rwa [block_add'] at this
    · intro i y hy
      have hil : i < len := by have := (List.getElem?_eq_some_iff.1 hy).1; simp at this; omega
      refine ⟨D i, ?_, (hxs i y hy).2⟩
      simp [elemsOf, hil]
end
/-- A type lies in memory, if its datum is not beyond all bounds. -/
def TyG {H : Type} (w : World) (t : LTy) (d : DataW H) : Prop := Sized Tryd.prog 30 d → LIn w w.heap.size t
theorem decTyN {H : Type} {enc : TypeId × Value → H} {w : World} : ∀ (N fuel : Nat) (cs : List Value) (x : DataW H × List MemPlace), SizeOf.sizeOf x.1 < N → DataW.trod enc Tryd.prog w 0 (fun _ => true) true fuel 30 cs = some x → ∃ t : LTy, cs = t.enc ∧ TyG w t x.1
  | 0, _, _, _, h, _ => by omega
  | N + 1, fuel, cs, x, hN, h => by
    obtain ⟨ys, n, rfl, rfl, hlen, hl, hf⟩ := DataW.trod_struct Tryd.underlying30 h
    have hC : Tryd.prog.cellsOf 30 = 3 := by kernel_rfl
    rw [hC] at hlen
    have c0 : Tryd.prog.cellsOf 3 = 1 := by kernel_rfl
    have y0 : ys[0]? = some (ys[0]'(by rw [hl]; decide)) := List.getElem?_eq_getElem _
    obtain ⟨a0, h0, g0⟩ := decInt Tryd.underlying3 _ _ _ ((hf 0 _ rfl).trans y0)
    have p0 := drop_part (cs := cs) (o := 0) (K := Tryd.prog.cellsOf 3) (o' := 1) h0 (by rw [c0])
    have c1 : Tryd.prog.cellsOf 27 = 1 := by kernel_rfl
    have y1 : ys[1]? = some (ys[1]'(by rw [hl]; decide)) := List.getElem?_eq_getElem _
    obtain ⟨a1, h1, g1⟩ := decSlice2 Tryd.underlying27 (K := 1) (by kernel_rfl) (by omega) (fun _ => rfl) (decStr Tryd.underlying9) _ _ _ ((hf 1 _ rfl).trans y1)
    have p1 := drop_part (cs := cs) (o := 1) (K := Tryd.prog.cellsOf 27) (o' := 2) h1 (by rw [c1])
    have c2 : Tryd.prog.cellsOf 28 = 1 := by kernel_rfl
    have y2 : ys[2]? = some (ys[2]'(by rw [hl]; decide)) := List.getElem?_eq_getElem _
    have hlt : SizeOf.sizeOf (ys[2]'(by rw [hl]; decide)).1 < SizeOf.sizeOf (DataW.agg (ys.map (·.1))) := by
      have h3 : (ys[2]'(by rw [hl]; decide)).1 ∈ ys.map (·.1) := List.mem_map_of_mem (List.getElem_mem _)
      have h4 := List.sizeOf_lt_of_mem h3
      simp only [DataW.agg.sizeOf_spec]
      omega
    have hN' : SizeOf.sizeOf (DataW.agg (ys.map (·.1))) < N + 1 := hN
    obtain ⟨a2, h2, g2⟩ := decSliceS (f := LTy.enc) (G := TyG w) Tryd.underlying28 (K := 3) (by kernel_rfl) (by omega) enc_len ((hf 2 _ rfl).trans y2) (fun fuel cs y hy h => decTyN N fuel cs y (by omega) h)
    have p2 := drop_part (cs := cs) (o := 2) (K := Tryd.prog.cellsOf 28) (o' := 3) h2 (by rw [c2])
    have pn : cs.drop 3 = [] := List.drop_eq_nil_of_le (by omega)
    have hcs : cs = _ := p0
    rw [p1, p2, pn] at hcs
    refine ⟨.mk a0 a1.A a1.cap a1.xs a2.A a2.cap a2.xs, hcs, fun hs => ?_⟩
    have s1 := sized_field Tryd.underlying30 hs (j := 1) rfl (by rw [List.getElem?_map, y1]; rfl)
    have s2 := sized_field Tryd.underlying30 hs (j := 2) rfl (by rw [List.getElem?_map, y2]; rfl)
    have b1 := sized_sl Tryd.underlying27 g1.sl s1
    have b2 := sized_sl Tryd.underlying28 g2.sl s2
    rw [show Tryd.prog.bytesOf 9 = 16 by kernel_rfl] at b1
    rw [show Tryd.prog.bytesOf 30 = 56 by kernel_rfl] at b2
    unfold reachBytes at b1 b2
    refine .mk ?_ g2.sl.reads g1.sl.le ?_ g2.sl.le ?_ ?_ (fun e => (g1.nil_ e).2) ?_
    · have := g1.sl.reads
      rw [← List.map_eq_flatMap] at this
      exact this
    · show a1.xs.length ≤ _
      omega
    · show a2.xs.length ≤ _
      omega
    · intro s hsm
      obtain ⟨i, hi⟩ := List.getElem?_of_mem hsm
      obtain ⟨d', h3, h4⟩ := g1.sl.all i s hi
      have h5 := sized_elem Tryd.underlying27 s1 g1.sl.form h3
      have h6 := h5 s.data.toList.length (by rw [h4.2]; simp [DataW.weights])
      unfold reachBytes at h6
      have h7 : s.size ≤ 140737488351232 := by simpa using h6
      omega
    · intro x hx
      obtain ⟨i, hi⟩ := List.getElem?_of_mem hx
      obtain ⟨d', h3, h4⟩ := g2.sl.all i x hi
      exact h4 (sized_elem Tryd.underlying28 s2 g2.sl.form h3)
theorem decTy {H : Type} {enc : TypeId × Value → H} {w : World} : Dec enc Tryd.prog w 30 LTy.enc (TyG w) := fun fuel cs x h => decTyN _ fuel cs x (Nat.lt_succ_self _) h
end Go.Proofs.YtohllalninoomaaDoor
