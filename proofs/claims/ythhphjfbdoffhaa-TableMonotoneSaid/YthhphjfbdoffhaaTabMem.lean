/-
  Chapter 04: what a table is behind a store into one of its fields, or one field more.
-/
import Derived.Test.YthhphjfbdoffhaaTabP
set_option linter.unusedVariables false
set_option linter.unusedSimpArgs false
namespace Go.Proofs.Ythhphjfbdoffhaa
open Go.ChangeShapes Go.WideShapes Go.ChangeAt Go.RowKit Go.Maps

/-- The table turned into T', within its own blocks and new ones. -/
def TabTo (w : World) (B tb : Nat) (T' : TabS) (fp : List Nat) (w' : World) : Prop := ∃ fp', TabIn w' B tb T' fp' ∧ Fr fp w w' ∧ ∀ b ∈ fp', b ∈ fp ∨ w.heap.size ≤ b
theorem TabTo.same {w w' : World} {B tb : Nat} {T : TabS} {fp : List Nat} (h : TabIn w B tb T fp) (hb : Below w.heap.size w w') : TabTo w B tb T fp w' :=
  ⟨fp, h.kept (Fr.of_below hb []) (by simp), Fr.of_below hb _, fun b hb => .inl hb⟩
theorem TabTo.drew {w w' : World} {B tb : Nat} {T : TabS} {fp : List Nat} (h : TabTo w B tb T fp w') : TabTo w B tb T fp w'.drew := by
  obtain ⟨fp', h1, h2, h3⟩ := h
  exact ⟨fp', h1.kept ((Fr.refl [] _).drew) (by simp), h2.drew, h3⟩
def set4 (w : World) (a : Addr) (R : VV) (o : Nat) : World := (((w.setCell ⟨a.block, a.off + o, none⟩ (.int .i64 R.kind)).setCell ⟨a.block, a.off + (o + 1), none⟩ (.int .i64 R.n)).setCell ⟨a.block, a.off + (o + 2), none⟩ (.string R.s)).setCell ⟨a.block, a.off + (o + 3), none⟩ (.int .u64 (R.label : Int))
theorem map_ne {w : World} {k : TypeId} {mb n b : Nat} {D : DataW Unit} {R : Value → Option (DataW Unit × List MemPlace)} {cs : Array Value} {t : TypeId} {fr : Nat × Nat} (h : w.ownsMap Try.prog k R mb n D) (hb : w.heap[b]? = some (.cells cs t fr)) : mb ≠ b := by
  rintro rfl
  obtain ⟨es, clock, h1, _⟩ := h
  rw [h1] at hb
  cases hb
theorem idx_set {D : DataW Unit} {F : List Fd} (h : IdxIs D F) {i : Nat} {f : Fd} (hi : F[i]? = some f) (v : VV) : IdxIs D (F.set i (f.1, v)) := by
  refine ⟨fun j g hj => ?_, fun k hk => h.no_ k fun g hg => ?_⟩
  · rw [List.getElem?_set] at hj
    split at hj
    · rename_i e
      subst e
      split at hj
      · cases hj
        exact h.at_ i f hi
      · cases hj
    · exact h.at_ j g hj
  · obtain ⟨j, hj⟩ := List.getElem?_of_mem hg
    by_cases e : i = j
    · subst e
      rw [hi] at hj
      cases hj
      exact hk (f.1, v) (List.mem_of_getElem? (i := i) (by rw [List.getElem?_set_self (List.getElem?_eq_some_iff.1 hi).1]))
    · exact hk g (List.mem_of_getElem? (i := j) (by rw [List.getElem?_set_ne e]; exact hj))
theorem ad_add (g n : Nat) : (⟨g, 0, none⟩ : Addr).add n = ⟨g, n, none⟩ := by
  unfold Addr.add
  split
  · rename_i h0
    rw [h0]
  · simp
theorem below_frozen {n : Nat} {w w' : World} (h : Below n w w') {a : Addr} (ha : a.block < n) : w'.frozen? a = w.frozen? a := by simp [World.frozen?, h.block a.block ha]
theorem tab_elem {w : World} {B tb : Nat} {T : TabS} {fp : List Nat} (h : TabIn w B tb T fp) {i : Nat} {f : Fd} (hi : T.F[i]? = some f) :
    ∃ ad c, w.cell? ⟨tb, 1, none⟩ = some (.slice (some ad) T.F.length c) ∧ ad.block < w.heap.size ∧ FdAt w (ad.add (i * 8)) f ∧ (∀ o, w.frozen? ⟨(ad.add (i * 8)).block, (ad.add (i * 8)).off + o, none⟩ = false) ∧
      ∀ w7 R, Below w.heap.size w w7 → TabTo w B tb { T with F := T.F.set i (f.1, R) } fp (set4 w7 (ad.add (i * 8)) R 4) := by
  obtain ⟨⟨fv, sv, mb, nb, n, m, D, E, hfp, h1, h2, h3, h4, h5, hne, hnl, hml, hI, hN⟩, hbase⟩ := h
  obtain ⟨A, c, rfl, hn1, hn2, hff⟩ := own_form h2
  obtain ⟨gb, rfl, hbg, hgl, ⟨cur, hcur⟩, hcell⟩ := hff (by have := (List.getElem?_eq_some_iff.1 hi).1; omega)
  refine ⟨⟨gb, 0, none⟩, c, cell_of_blk h1 rfl, hgl, fd_at (fun j u hu => by rw [ad_add]; exact hcell j u hu) hi, fun o => by rw [ad_add]; exact World.ownsRow.frozenAt h2 _, fun w7 R hb => ?_⟩
  rw [ad_add]
  have hgf : gb ∈ fp := by rw [hfp]; simp [Value.ownBlock]
  have hF : Fr [gb] w (set4 w7 ⟨gb, i * 8, none⟩ R 4) := ((((Fr.of_below hb _).set _ (.inl (by simp))).set _ (.inl (by simp))).set _ (.inl (by simp))).set _ (.inl (by simp))
  have h2' := (Fr.of_below hb []).own h2 (by simp)
  refine ⟨fp, ⟨⟨_, sv, mb, nb, n, m, D, E, hfp, hF.blk h1 (by simpa using blk_ne h1 hcur (by decide)), ?_, hF.own h3 ?_, hF.map h4 (by simpa using map_ne h4 hcur), hF.map h5 (by simpa using map_ne h5 hcur), hne, by simpa using hnl, hml, idx_set hI hi R, hN⟩, fun b hb' => ?_⟩, hF.more (by simpa using .inl hgf), fun b hb => .inl hb⟩
  · have s1 := (World.ownsRow.stored h2' (i * 8 + 4) (.int .i64 R.kind)).1
    have s2 := (World.ownsRow.stored s1 (i * 8 + 5) (.int .i64 R.n)).1
    have s3 := (World.ownsRow.stored s2 (i * 8 + 6) (.string R.s)).1
    have s4 := (World.ownsRow.stored s3 (i * 8 + 7) (.int .u64 (R.label : Int))).1
    rw [flat_set4 hi] at s4
    simpa [set4] using s4
  · intro g hg
    have := own_blk_ne h3 hcur (by decide)
    rw [hg] at this
    simpa using Ne.symm (fun e => this (by rw [e]))
  · have := hbase b hb'
    have := hF.size
    omega
theorem own_own_ne {w : World} {base base' : Nat} {e e' : TypeId} {K K' n n' : Nat} {v v' : Value} {xs xs' : List Value} (h : w.ownsRow base e K v n xs) (h' : w.ownsRow base' e' K' v' n' xs') (hne : e ≠ e') {g : Nat} (hg : v.ownBlock = some g) (hg' : v'.ownBlock = some g) : False := by
  rcases h'.2 with ⟨rfl, _⟩ | ⟨g', cap, cur, rfl, _, hh, _⟩
  · simp [Value.ownBlock] at hg'
  · obtain rfl : g' = g := by simpa [Value.ownBlock] using hg'
    exact own_blk_ne h hh hne hg.symm
theorem own_map_ne {w : World} {base : Nat} {e : TypeId} {K n : Nat} {v : Value} {xs : List Value} (h : w.ownsRow base e K v n xs) {k : TypeId} {mb m : Nat} {D : DataW Unit} {R : Value → Option (DataW Unit × List MemPlace)} (hm : w.ownsMap Try.prog k R mb m D) : v.ownBlock ≠ some mb := by
  rcases h.2 with ⟨rfl, _⟩ | ⟨g', cap, cur, rfl, _, hh, _⟩
  · simp [Value.ownBlock]
  · intro e
    obtain rfl : g' = mb := by simpa [Value.ownBlock] using e
    exact map_ne hm hh rfl
theorem idx_app {D : DataW Unit} {F : List Fd} (h : IdxIs D F) (hD : Maps.IsMap D) {k R : VV} (hl : WideAt.IsKeyLit (keyLV k)) (hk : ∀ f ∈ F, keyLV f.1 ≠ keyLV k) : IdxIs (D.put (keyLV k) (.lit (.int .i64 F.length))) (F ++ [(bareV k, R)]) := by
  refine ⟨fun j g hj => ?_, fun k' hk' => ?_⟩
  · rcases Nat.lt_or_ge j F.length with hlt | hge
    · rw [List.getElem?_append_left hlt] at hj
      have hne := hk g (List.mem_of_getElem? hj)
      rw [Maps.has_put_other hne, Maps.atKey_put_other hne]
      exact h.at_ j g hj
    · rw [List.getElem?_append_right hge] at hj
      obtain rfl : j = F.length := by
        have := (List.getElem?_eq_some_iff.1 hj).1
        simp at this
        omega
      simp at hj
      subst hj
      exact ⟨Maps.has_put_same hD hl _, Maps.atKey_put_same hD hl _ _⟩
  · have hne : k' ≠ keyLV k := fun e => hk' (bareV k, R) (by simp) e.symm
    rw [Maps.has_put_other hne]
    exact h.no_ k' fun f hf => hk' f (by simp [hf])
theorem tab_app {w w12 : World} {B tb : Nat} {T : TabS} {fp : List Nat} {fv sv v' : Value} {mb nb n m gb cap : Nat} {D E : DataW Unit} {k R : VV}
    (hfp : fp = tb :: mb :: nb :: (fv.ownBlock.toList ++ sv.ownBlock.toList)) (h1 : w.heap[tb]? = some (.cells #[.int .u64 (T.l : Int), fv, .map (some mb), sv, .map (some nb)] 84 (0, 0)))
    (h2 : w.ownsRow B 59 8 fv T.F.length (T.F.flatMap fdEnc)) (h3 : w.ownsRow B 61 2 sv T.S.length (T.S.flatMap stEnc))
    (h4 : w.ownsMap Try.prog 87 (plainElem Try.prog 3) mb n D) (h5 : w.ownsMap Try.prog 9 (plainElem Try.prog 3) nb m E) (hne : mb ≠ nb) (hnl : n ≤ T.F.length) (hml : m ≤ T.S.length) (hI : IdxIs D T.F) (hN : NamIs E T.S)
    (hbase : ∀ b ∈ fp, B ≤ b ∧ b < w.heap.size) (hFr : Fr (mb :: fv.ownBlock.toList) w w12) (hmap : w12.ownsMap Try.prog 87 (plainElem Try.prog 3) mb (n + 1) (D.put (keyLV k) (.lit (.int .i64 T.F.length))))
    (hown : w12.ownsRow B 59 8 v' (T.F.length + 1) (T.F.flatMap fdEnc ++ fdEnc (bareV k, R))) (hv' : v' = .slice (some ⟨gb, 0, none⟩) (T.F.length + 1) cap) (hat : fv.ownBlock = some gb ∨ w.heap.size ≤ gb)
    (hl : WideAt.IsKeyLit (keyLV k)) (hk : ∀ f ∈ T.F, keyLV f.1 ≠ keyLV k) : TabTo w B tb { T with F := T.F ++ [(bareV k, R)] } fp (w12.setCell ⟨tb, 1, none⟩ v') := by
  have htn : tb ∉ mb :: fv.ownBlock.toList := by
    intro hm
    rcases List.mem_cons.1 hm with e | e
    · exact map_ne h4 h1 e.symm
    · exact own_blk_ne h2 h1 (by decide) (by simpa using (by simpa using e : fv.ownBlock = some tb).symm)
  have hT := hFr.blk h1 htn
  have hF' : Fr fp w (w12.setCell ⟨tb, 1, none⟩ v') := (hFr.more (S' := fp) (fun b hb => .inl (by
    rw [hfp]
    rcases List.mem_cons.1 hb with rfl | e
    · simp
    · simp at e
      simp [e]))).set _ (.inl (by rw [hfp]; simp))
  have hown2 := hown
  obtain ⟨_, _, hv2, _, _, hgg⟩ := own_form hown2
  rw [hv'] at hv2
  obtain ⟨gb2, e2, hBg, hgl, _⟩ := hgg (by omega)
  cases hv2
  obtain rfl : gb = gb2 := by simpa using e2
  have hsv : ∀ g, sv.ownBlock = some g → g ∉ mb :: fv.ownBlock.toList := by
    intro g hg hm
    rcases List.mem_cons.1 hm with rfl | e
    · exact own_map_ne h3 h4 hg
    · exact own_own_ne h3 h2 (by decide) hg (by simpa using e)
  have h3' := hFr.own h3 hsv
  have h5' := hFr.map h5 (by
    intro hm
    rcases List.mem_cons.1 hm with e | e
    · exact hne e.symm
    · exact own_map_ne h2 h5 (by simpa using e))
  refine ⟨tb :: mb :: nb :: ([gb] ++ sv.ownBlock.toList), ⟨⟨v', sv, mb, nb, n + 1, m, _, E, by rw [hv']; simp [Value.ownBlock], blk_set (i := 1) hT v', ?_, own_set_far h3' hT (by decide) _, hmap.setCell (map_ne hmap hT) _, h5'.setCell (map_ne h5' hT) _, hne, by simp; omega, hml, idx_app hI h4.isMap hl hk, hN⟩, ?_⟩, hF', ?_⟩
  · have := own_set_far hown hT (by decide) (a := ⟨tb, 1, none⟩) v'
    simpa using this
  · have hsz := hFr.size
    intro b hb
    have hb' : b = gb ∨ b ∈ fp := by
      rw [hfp]
      simp at hb ⊢
      rcases hb with h | h | h | h | h
      · simp [h]
      · simp [h]
      · simp [h]
      · simp [h]
      · simp [h]
    rcases hb' with rfl | hb'
    · exact ⟨hBg, by simpa [World.setCell] using hgl⟩
    · have := hbase b hb'
      simp [World.setCell]
      omega
  · intro b hb
    simp at hb
    rcases hb with rfl | rfl | rfl | rfl | h
    · exact .inl (by rw [hfp]; simp)
    · exact .inl (by rw [hfp]; simp)
    · exact .inl (by rw [hfp]; simp)
    · rcases hat with h | h
      · exact .inl (by rw [hfp]; simp [h])
      · exact .inr h
    · exact .inl (by rw [hfp]; simp [h])
end Go.Proofs.Ythhphjfbdoffhaa
