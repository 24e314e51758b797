/-
  A label as a text: the program's Show, the reference's.
-/
import Derived.Test.YtmlknpoippfkeaaDoorLabSmall
set_option linter.unusedVariables false
set_option linter.unusedSimpArgs false
namespace Go.Proofs.YtmlknpoippfkeaaDoor
open Go.ChangeShapes Go.WideShapes Go.ChangeAt Go.RowKit Go.Shelf

def digS (p : Nat) : ByteArray := ⟨(digs p).toArray⟩
def showS (l : Nat) : ByteArray := ⟨(showB l).toArray⟩
theorem digits_digs {p : Nat} (hp : p < 64) : Lib.decDigits p = digs p := by
  have := digs_itoa hp
  unfold Lib.itoa at this
  rw [if_neg (by omega), Int.toNat_natCast] at this
  exact this
theorem itoa_any (p : Nat) (hp : p < 64) (w : World) : Calls Tryd.prog 28 #[.int .i64 (p : Int)] w (Ret (.string (digS p)) w) := by
  refine (Tryd.strconv_Itoa_small p (by omega) w).mono fun e w' h => ⟨?_, h.2.symm⟩
  rw [h.1, digits_digs hp]
  rfl
theorem infoStr : (Tryd.prog.info? 9).map (fun i => (i.zero, i.size, i.bytes)) = some (some (.string ByteArray.empty), 1, 16) := by kernel_rfl
theorem digS_data (ps : List Nat) : (ps.map digS).map (·.data.toList) = ps.map digs := by simp [List.map_map, Function.comp_def, digS]
theorem join_len {ps : List Nat} (h : ps.length ≤ 64) : (Lib.join ((ps.map digS).map (·.data.toList)) [44]).length ≤ 1000 := by
  rw [digS_data]
  cases ps with
  | nil => simp [Lib.join]
  | cons p ps =>
    have e := join_tail p ps
    have h1 := congrArg List.length e
    have h2 := digs_len p
    have h3 := tailB_len ps
    simp at h1 h
    rw [List.map_cons]
    omega
theorem prin_len (L : Nat) : (prin L).length ≤ 64 := by
  unfold prin
  exact Nat.le_trans (List.length_filter_le _ _) (by simp)
/-- What Join says of the parts. -/
theorem join_parts (ps : List Nat) (hps : ps.length ≤ 64) (v : Value) (w : World) (base : Nat) (h : w.ownsRow base 9 1 v ps.length (ps.map fun p => Value.string (digS p))) :
    Calls Tryd.prog 29 #[v, .string ⟨#[44]⟩] w (RetB (.string ⟨(Lib.join (ps.map digs) [44]).toArray⟩) w) := by
  obtain ⟨A, c, rfl, hc, hm, hf⟩ := own_form h
  by_cases h0 : ps = []
  · subst h0
    exact (Tryd.strings_Join_none A c ⟨#[44]⟩ w).mono fun e w' h => ⟨h.1, by rw [h.2]; exact Below.refl _ _⟩
  · have hpos : 0 < ps.length := List.length_pos_iff.2 h0
    obtain ⟨g, rfl, _, hg, _, hcell⟩ := hf hpos
    have := Tryd.strings_Join g 0 c (ps.map digS) ⟨#[44]⟩ w (fun j x hx => by
      rw [Nat.zero_add]
      refine hcell j _ ?_
      rw [List.getElem?_map] at hx ⊢
      cases hj : ps[j]? with
      | none => rw [hj] at hx; cases hx
      | some p => rw [hj] at hx; simp at hx; rw [← hx]; rfl) hg (by simp; omega) (by simpa using hc) (by have := join_len hps; simp only [] at this ⊢; omega)
    rw [List.length_map] at this
    refine this.mono fun e w' h => ⟨?_, h.2⟩
    rw [h.1, digS_data]
theorem show_cat (L : Nat) : ((⟨#[123]⟩ : ByteArray) ++ ⟨(Lib.join ((prin L).map digs) [44]).toArray⟩) ++ ⟨#[125]⟩ = showS L := by
  apply ByteArray.ext
  unfold showS showB
  apply Array.toList_inj.1
  simp [ByteArray.data_append]
/-- append onto a slice of the call's own, as a step of a region that draws its order, inside a fence. -/
theorem stepIn_append_own {F : Fence} {n : Nat} {P : Program} {ops : Array Oper} {o : Oper} {a : Act} {w : World} {K : Act → World → Prop} {Q : Exit → Act → World → Prop} {E : Prop}
    (hg : o.guard = none) (s x : Operand) (t : TypeId) (hop : o.op = Op.call { callee := Callee.builtin Builtin.append, args := #[s, x], argTypes := #[t, t] })
    (base : Nat) (e : TypeId) (i : TypeInfo) (z : Value) (size bytes : Nat) (h1 : P.underlying t = some (.slice e)) (h2 : P.info? e = some i) (h3 : i.zero = some z) (h4 : i.size = size) (h5 : i.bytes = bytes) (h6 : z.cells.size = size) (h7 : 0 < size)
    (v : Value) (k : Nat) (xs : List Value) (hs : a.eval s = v) (hown : w.ownsRow base e size v k xs) (ad : Addr) (m c : Nat) (news : List Value) (hx : a.eval x = .slice (some ad) m c) (hn : news.length = m * size)
    (hc : ∀ j u, news[j]? = some u → w.cell? (ad.add j) = some u) (h1c : ∀ u ∈ news, u.oneCell' = true) (b1 : k + m ≤ maxLen) (b2 : (k + m) * bytes ≤ 140737488355328) (b3 : base ≤ w.heap.size)
    (hK : ∀ v' w', w'.ownsRow base e size v' (k + m) (xs ++ news) → w.grownBy w' v.ownBlock → K (a.put o.dst v') w') :
    if Region.wanted o (yielded ops a.tmps) = true then Oper.wpIn F n P o a w K Q else E := by
  have hw : Region.wanted o (yielded ops a.tmps) = true := by simp [Region.wanted, hg]
  rw [if_pos hw]
  obtain ⟨v', w', hrun, r1, r2, r3⟩ := run_append_own (P := P) w base t o.type e i z size bytes h1 h2 h3 h4 h5 h6 h7 v k xs hown ad m c news hn hc h1c b1 b2 b3
  refine ⟨by simp [Oper.about, hop, resolve, Target.leads, Sem.run_pure], ?_⟩
  rw [Oper.semAt_plain F _ _ (by rw [hop]; intro c hc'; cases hc')]
  simp [execOp, hop, resolve, invoke, builtin, hs, hx, hrun, Result.andThen]
  exact hK v' w' r1 r2
attribute [local go_sem] Oper.semAt_some
set_option maxRecDepth 100000 in
set_option maxHeartbeats 2000000 in
theorem show_any (L : Nat) (hL : L < 18446744073709551616) (w : World) (hT : Tab64 w) :
    Calls Tryd.prog 13 #[.int .u64 (L : Int)] w (RetB (.string (showS L)) w) := by
  obtain ⟨i0, hi, hz0, hz1, hz2⟩ := info_parts infoStr
  have HT := Lib.hid hT
  clear hT
  have hmix : Tryd.prog.follows .mixedOrders = true := by kernel_rfl
  refine (callsIn_wide (n := 9)).1 ?_
  refine callsIn_of_wp_marks Tryd.func13 rfl trivial ?_ rfl
  simp only [Tryd.ntmps13, List.size_toArray, List.length_cons, List.length_nil, Nat.reduceAdd, Nat.reduceSub, Array.replicate_succ, Array.replicate_zero, List.push_toArray, List.append_toArray, List.nil_append, List.cons_append]
  gi_wp2_with (refine ⟨trivial, ?_⟩; gi_at_call 27; refine (callsIn_wide.2 (each_any L _)).mono ?_; rintro e w' ⟨rfl, rfl⟩)
  have bO := Boxed.new w 45 (.slice none 0 0)
  have bN := Boxed.new (w.alloc (.cells #[.slice none 0 0] 45)) 23 (.int .u64 (L : Int))
  rw [World.size_alloc] at bN
  have hB0 : Below w.heap.size w ((w.alloc (.cells #[.slice none 0 0] 45)).alloc (.cells #[.int .u64 (L : Int)] 23)) := ((Below.refl _ w).alloc (Nat.le_refl _) _).alloc (by simp) _
  refine range_cap (n := 9) (by omega) (gf := 34) (lb := #[.pointer (some ⟨w.heap.size + 1, 0, none⟩)]) rfl (enters_of Tryd.func34 (by kernel_rfl) rfl) (fun _ => rfl) (b := w.heap.size + 1) (by simp) bN
    (each1_hands 8 (w.heap.size + 1) L (by omega) hL)
    (fun pre W => (∃ v, Boxed W w.heap.size 45 v ∧ W.ownsRow w.heap.size 9 1 v pre.length (pre.map fun p : Nat => Value.string (digS p)) ∧ True) ∧ (∃ u, Boxed W (w.heap.size + 1) 23 u) ∧ Below w.heap.size w W)
    (OwnFrom.and (Own.from (holdsRow_own w.heap.size w.heap.size 45 9 1 (fun pre : List Nat => pre.length) (fun pre => pre.map fun p : Nat => Value.string (digS p)) (fun _ _ => True)) _) (OwnFrom.and (Own.from (boxed_some_own _ _) _) (ownFrom_below (Nat.le_refl _) (by simp; omega))))
    ?abides (fun pre W h => HT.out.below h.2.2)
    ⟨⟨_, bO.alloc _, World.ownsRow_nil _ _ _ _, trivial⟩, ⟨_, bN⟩, hB0⟩
    (fun x => { tmps := #[.int .u64 (L : Int), undef, .string ⟨#[]⟩, .pointer (some ⟨w.heap.size, 0, none⟩), .int .i64 (x : Int), .int .u64 (L : Int), .func (.func 34) #[] #[.pointer (some ⟨w.heap.size + 1, 0, none⟩)], .int .i64 (x : Int), undef, undef, undef, undef, undef, undef, undef, undef, undef], defers := [] }) ?assign ?body ?done
  case abides =>
    rintro pre W u ⟨⟨v, hv, hrow, _⟩, ⟨u0, hu⟩, hB⟩
    exact ⟨⟨v, blk_far hv (by simp) _, own_set_far (a := ⟨w.heap.size + 1, 0, none⟩) hrow (show W.heap[w.heap.size + 1]? = some (.cells #[u0] 23 (0, 0)) from hu) (by decide) _, trivial⟩, ⟨_, hu.set u⟩, hB.setCell (by simp) _⟩
  case assign =>
    intro l x W K hK
    gi_wp2
    exact hK
  case body =>
    rintro l pre x W ⟨⟨v, hv, hrow, _⟩, ⟨u0, hu⟩, hB⟩ hok
    have hc := hv.cell
    have hlt := hv.lt
    obtain ⟨hpl, hx⟩ := pre_le hok
    have hit := fun w => itoa_any x hx w
    generalize hD : digS x = D at hit
    gi_wp2
    refine wpIn_region_any hmix ?_
    try (change wpAnyIn _ _ _ _ _ _ _ _ _ (World.drew _))
    refine wpAnyIn_ready (rs := [0, 1]) (by kernel_rfl) (by simp) ?_
    refine AllReadyIn.cons (o := _) rfl (fun K hK => ?_) ?_
    · skip
      go_simp
      refine hK _ _ ?_
      clear hK K
      try simp only [Act.put, List.setIfInBounds_toArray, List.set_cons_zero, List.set_cons_succ]
      refine wpAnyIn_ready (rs := [1]) (by kernel_rfl) (by simp) ?_
      refine AllReadyIn.cons (o := _) rfl (fun K hK => ?_) AllReadyIn.nil
      go_simp
      refine hK _ _ ?_
      clear hK K
      try simp only [Act.put, List.setIfInBounds_toArray, List.set_cons_zero, List.set_cons_succ]
      refine wpAnyIn_ready (rs := [2]) (by kernel_rfl) (by simp) ?_
      refine AllReadyIn.cons (o := _) rfl (fun K hK => ?_) AllReadyIn.nil
      go_simp
      refine ⟨trivial, ?_⟩
      refine (CallsIn.inRound l (callsIn_wide.2 (hit _))).mono ?_
      rintro e w' ⟨rfl, rfl⟩
      refine hK _ _ ?_
      clear hK K
      try simp only [Act.put, List.setIfInBounds_toArray, List.set_cons_zero, List.set_cons_succ]
      refine wpAnyIn_ready (rs := [3]) (by kernel_rfl) (by simp) ?_
      refine AllReadyIn.cons (o := _) rfl (fun K hK => ?_) AllReadyIn.nil
      go_simp
      refine hK _ _ ?_
      clear hK K
      try simp only [Act.put, List.setIfInBounds_toArray, List.set_cons_zero, List.set_cons_succ]
      refine wpAnyIn_ready (rs := [4]) (by kernel_rfl) (by simp) ?_
      refine AllReadyIn.cons (o := _) rfl (fun K hK => ?_) AllReadyIn.nil
      refine stepIn_append_own rfl (.tmp 8) (.tmp 11) 45 rfl w.heap.size 9 i0 (.string ByteArray.empty) 1 16 Tryd.underlying45 hi hz0 hz1 hz2 rfl (by decide) v pre.length (pre.map fun p : Nat => Value.string (digS p)) rfl ((show W.drew.ownsRow w.heap.size 9 1 v pre.length (pre.map fun p : Nat => Value.string (digS p)) from hrow).alloc _) ⟨W.heap.size, 0, none⟩ 1 1 [.string D] rfl rfl (cell_one_new W.drew _ _) (by simp [Value.oneCell']) (by unfold maxLen; omega) (by omega) (by have := hB.size; simp; omega) ?_
      intro v' w1 hown' hgrow
      obtain ⟨g', cap', rfl⟩ := ownsRow_succ hown'
      obtain ⟨hv1, hv2, hr2, hk2, hb2⟩ := Boxed.appended (W := W.drew) hv (by decide) hrow hB.size (Nat.le_refl _) hown' hgrow
      have hkc := keep_cap (W := W.drew) (v' := .slice (some ⟨g', 0, none⟩) (pre.length + 1) cap') hu hv hrow (by decide) (by omega) hgrow
      have hc1 := hv1.cell
      have hf1 := hv1.frozen
      refine hK _ _ ?_
      clear hK K
      try simp only [Act.put, List.setIfInBounds_toArray, List.set_cons_zero, List.set_cons_succ]
      refine wpAnyIn_ready (rs := [5]) (by kernel_rfl) (by simp) ?_
      refine AllReadyIn.cons (o := _) rfl (fun K hK => ?_) AllReadyIn.nil
      go_simp
      refine hK _ _ ?_
      clear hK K
      try simp only [Act.put, List.setIfInBounds_toArray, List.set_cons_zero, List.set_cons_succ]
      refine wpAnyIn_done (by kernel_rfl) ?_ _
      exact ⟨((KeepsOthers.drew W).trans hk2).from _, hkc, ⟨_, hv2, by simpa [hD] using hr2, trivial⟩, ⟨u0, hkc.trans hu⟩, hB.trans ((Below.refl _ _).drew.trans hb2)⟩
    refine AllReadyIn.cons (o := _) rfl (fun K hK => ?_) AllReadyIn.nil
    go_simp
    refine hK _ _ ?_
    clear hK K
    try simp only [Act.put, List.setIfInBounds_toArray, List.set_cons_zero, List.set_cons_succ]
    refine wpAnyIn_ready (rs := [0, 2]) (by kernel_rfl) (by simp) ?_
    refine AllReadyIn.cons (o := _) rfl (fun K hK => ?_) ?_
    · skip
      go_simp
      refine hK _ _ ?_
      clear hK K
      try simp only [Act.put, List.setIfInBounds_toArray, List.set_cons_zero, List.set_cons_succ]
      refine wpAnyIn_ready (rs := [2]) (by kernel_rfl) (by simp) ?_
      refine AllReadyIn.cons (o := _) rfl (fun K hK => ?_) AllReadyIn.nil
      go_simp
      refine ⟨trivial, ?_⟩
      refine (CallsIn.inRound l (callsIn_wide.2 (hit _))).mono ?_
      rintro e w' ⟨rfl, rfl⟩
      refine hK _ _ ?_
      clear hK K
      try simp only [Act.put, List.setIfInBounds_toArray, List.set_cons_zero, List.set_cons_succ]
      refine wpAnyIn_ready (rs := [3]) (by kernel_rfl) (by simp) ?_
      refine AllReadyIn.cons (o := _) rfl (fun K hK => ?_) AllReadyIn.nil
      go_simp
      refine hK _ _ ?_
      clear hK K
      try simp only [Act.put, List.setIfInBounds_toArray, List.set_cons_zero, List.set_cons_succ]
      refine wpAnyIn_ready (rs := [4]) (by kernel_rfl) (by simp) ?_
      refine AllReadyIn.cons (o := _) rfl (fun K hK => ?_) AllReadyIn.nil
      refine stepIn_append_own rfl (.tmp 8) (.tmp 11) 45 rfl w.heap.size 9 i0 (.string ByteArray.empty) 1 16 Tryd.underlying45 hi hz0 hz1 hz2 rfl (by decide) v pre.length (pre.map fun p : Nat => Value.string (digS p)) rfl ((show W.drew.ownsRow w.heap.size 9 1 v pre.length (pre.map fun p : Nat => Value.string (digS p)) from hrow).alloc _) ⟨W.heap.size, 0, none⟩ 1 1 [.string D] rfl rfl (cell_one_new W.drew _ _) (by simp [Value.oneCell']) (by unfold maxLen; omega) (by omega) (by have := hB.size; simp; omega) ?_
      intro v' w1 hown' hgrow
      obtain ⟨g', cap', rfl⟩ := ownsRow_succ hown'
      obtain ⟨hv1, hv2, hr2, hk2, hb2⟩ := Boxed.appended (W := W.drew) hv (by decide) hrow hB.size (Nat.le_refl _) hown' hgrow
      have hkc := keep_cap (W := W.drew) (v' := .slice (some ⟨g', 0, none⟩) (pre.length + 1) cap') hu hv hrow (by decide) (by omega) hgrow
      have hc1 := hv1.cell
      have hf1 := hv1.frozen
      refine hK _ _ ?_
      clear hK K
      try simp only [Act.put, List.setIfInBounds_toArray, List.set_cons_zero, List.set_cons_succ]
      refine wpAnyIn_ready (rs := [5]) (by kernel_rfl) (by simp) ?_
      refine AllReadyIn.cons (o := _) rfl (fun K hK => ?_) AllReadyIn.nil
      go_simp
      refine hK _ _ ?_
      clear hK K
      try simp only [Act.put, List.setIfInBounds_toArray, List.set_cons_zero, List.set_cons_succ]
      refine wpAnyIn_done (by kernel_rfl) ?_ _
      exact ⟨((KeepsOthers.drew W).trans hk2).from _, hkc, ⟨_, hv2, by simpa [hD] using hr2, trivial⟩, ⟨u0, hkc.trans hu⟩, hB.trans ((Below.refl _ _).drew.trans hb2)⟩
    refine AllReadyIn.cons (o := _) rfl (fun K hK => ?_) AllReadyIn.nil
    go_simp
    refine ⟨trivial, ?_⟩
    refine (CallsIn.inRound l (callsIn_wide.2 (hit _))).mono ?_
    rintro e w' ⟨rfl, rfl⟩
    refine hK _ _ ?_
    clear hK K
    try simp only [Act.put, List.setIfInBounds_toArray, List.set_cons_zero, List.set_cons_succ]
    refine wpAnyIn_ready (rs := [0, 3]) (by kernel_rfl) (by simp) ?_
    refine AllReadyIn.cons (o := _) rfl (fun K hK => ?_) ?_
    · skip
      go_simp
      refine hK _ _ ?_
      clear hK K
      try simp only [Act.put, List.setIfInBounds_toArray, List.set_cons_zero, List.set_cons_succ]
      refine wpAnyIn_ready (rs := [3]) (by kernel_rfl) (by simp) ?_
      refine AllReadyIn.cons (o := _) rfl (fun K hK => ?_) AllReadyIn.nil
      go_simp
      refine hK _ _ ?_
      clear hK K
      try simp only [Act.put, List.setIfInBounds_toArray, List.set_cons_zero, List.set_cons_succ]
      refine wpAnyIn_ready (rs := [4]) (by kernel_rfl) (by simp) ?_
      refine AllReadyIn.cons (o := _) rfl (fun K hK => ?_) AllReadyIn.nil
      refine stepIn_append_own rfl (.tmp 8) (.tmp 11) 45 rfl w.heap.size 9 i0 (.string ByteArray.empty) 1 16 Tryd.underlying45 hi hz0 hz1 hz2 rfl (by decide) v pre.length (pre.map fun p : Nat => Value.string (digS p)) rfl ((show W.drew.ownsRow w.heap.size 9 1 v pre.length (pre.map fun p : Nat => Value.string (digS p)) from hrow).alloc _) ⟨W.heap.size, 0, none⟩ 1 1 [.string D] rfl rfl (cell_one_new W.drew _ _) (by simp [Value.oneCell']) (by unfold maxLen; omega) (by omega) (by have := hB.size; simp; omega) ?_
      intro v' w1 hown' hgrow
      obtain ⟨g', cap', rfl⟩ := ownsRow_succ hown'
      obtain ⟨hv1, hv2, hr2, hk2, hb2⟩ := Boxed.appended (W := W.drew) hv (by decide) hrow hB.size (Nat.le_refl _) hown' hgrow
      have hkc := keep_cap (W := W.drew) (v' := .slice (some ⟨g', 0, none⟩) (pre.length + 1) cap') hu hv hrow (by decide) (by omega) hgrow
      have hc1 := hv1.cell
      have hf1 := hv1.frozen
      refine hK _ _ ?_
      clear hK K
      try simp only [Act.put, List.setIfInBounds_toArray, List.set_cons_zero, List.set_cons_succ]
      refine wpAnyIn_ready (rs := [5]) (by kernel_rfl) (by simp) ?_
      refine AllReadyIn.cons (o := _) rfl (fun K hK => ?_) AllReadyIn.nil
      go_simp
      refine hK _ _ ?_
      clear hK K
      try simp only [Act.put, List.setIfInBounds_toArray, List.set_cons_zero, List.set_cons_succ]
      refine wpAnyIn_done (by kernel_rfl) ?_ _
      exact ⟨((KeepsOthers.drew W).trans hk2).from _, hkc, ⟨_, hv2, by simpa [hD] using hr2, trivial⟩, ⟨u0, hkc.trans hu⟩, hB.trans ((Below.refl _ _).drew.trans hb2)⟩
    refine AllReadyIn.cons (o := _) rfl (fun K hK => ?_) AllReadyIn.nil
    go_simp
    refine hK _ _ ?_
    clear hK K
    try simp only [Act.put, List.setIfInBounds_toArray, List.set_cons_zero, List.set_cons_succ]
    refine wpAnyIn_ready (rs := [0]) (by kernel_rfl) (by simp) ?_
    refine AllReadyIn.cons (o := _) rfl (fun K hK => ?_) AllReadyIn.nil
    go_simp
    refine hK _ _ ?_
    clear hK K
    try simp only [Act.put, List.setIfInBounds_toArray, List.set_cons_zero, List.set_cons_succ]
    refine wpAnyIn_ready (rs := [4]) (by kernel_rfl) (by simp) ?_
    refine AllReadyIn.cons (o := _) rfl (fun K hK => ?_) AllReadyIn.nil
    refine stepIn_append_own rfl (.tmp 8) (.tmp 11) 45 rfl w.heap.size 9 i0 (.string ByteArray.empty) 1 16 Tryd.underlying45 hi hz0 hz1 hz2 rfl (by decide) v pre.length (pre.map fun p : Nat => Value.string (digS p)) rfl ((show W.drew.ownsRow w.heap.size 9 1 v pre.length (pre.map fun p : Nat => Value.string (digS p)) from hrow).alloc _) ⟨W.heap.size, 0, none⟩ 1 1 [.string D] rfl rfl (cell_one_new W.drew _ _) (by simp [Value.oneCell']) (by unfold maxLen; omega) (by omega) (by have := hB.size; simp; omega) ?_
    intro v' w1 hown' hgrow
    obtain ⟨g', cap', rfl⟩ := ownsRow_succ hown'
    obtain ⟨hv1, hv2, hr2, hk2, hb2⟩ := Boxed.appended (W := W.drew) hv (by decide) hrow hB.size (Nat.le_refl _) hown' hgrow
    have hkc := keep_cap (W := W.drew) (v' := .slice (some ⟨g', 0, none⟩) (pre.length + 1) cap') hu hv hrow (by decide) (by omega) hgrow
    have hc1 := hv1.cell
    have hf1 := hv1.frozen
    refine hK _ _ ?_
    clear hK K
    try simp only [Act.put, List.setIfInBounds_toArray, List.set_cons_zero, List.set_cons_succ]
    refine wpAnyIn_ready (rs := [5]) (by kernel_rfl) (by simp) ?_
    refine AllReadyIn.cons (o := _) rfl (fun K hK => ?_) AllReadyIn.nil
    go_simp
    refine hK _ _ ?_
    clear hK K
    try simp only [Act.put, List.setIfInBounds_toArray, List.set_cons_zero, List.set_cons_succ]
    refine wpAnyIn_done (by kernel_rfl) ?_ _
    exact ⟨((KeepsOthers.drew W).trans hk2).from _, hkc, ⟨_, hv2, by simpa [hD] using hr2, trivial⟩, ⟨u0, hkc.trans hu⟩, hB.trans ((Below.refl _ _).drew.trans hb2)⟩
  case done =>
    rintro D W hD ⟨⟨v, hv, hrow, _⟩, _, hB⟩ hK
    have hc := hv.cell
    have hj := join_parts _ (prin_len L) v W _ hrow
    have he := show_cat L
    have hjl := join_len (prin_len L)
    rw [digS_data] at hjl
    gi_wp2_with (refine ⟨trivial, ?_⟩; gi_at_call 29; refine (callsIn_wide.2 hj).mono ?_; rintro e w2 ⟨rfl, hb2⟩)
    refine ⟨by simp, .inl ⟨_, _, rfl, run_takeDeferred (below_blk hb2 hK), ?_⟩⟩
    exact ⟨_, results_tmp rfl _ _ _, rfl, (hB.trans (hb2.mono hB.size)).trans (belowK_b (w := w) (Nat.le_refl _) w2 D _ _ (by simp at hD; omega) (below_blk hb2 hK) rfl rfl)⟩
end Go.Proofs.YtmlknpoippfkeaaDoor
