/-
  A text as a label: the program's Parse.
-/
import Derived.Test.YtmlknpoippfkeaaDoorLabRParse
import Derived.Lib.SplitLaws
import Derived.Lib.AtoiErrMem
set_option linter.unusedVariables false
set_option linter.unusedSimpArgs false
namespace Go.Proofs.YtmlknpoippfkeaaDoor
open Go.ChangeShapes Go.WideShapes Go.ChangeAt Go.RowKit Go.Shelf

/-- What the labels' functions want of the library's variables. -/
structure LabW (w : World) : Prop where
  tab : Tab64 w
  max : ∃ m, w.cell? ⟨4, 0, none⟩ = some (.int .i64 m)
  syn : ∃ ev, w.cell? ⟨1, 0, none⟩ = some ev ∧ (ev = .nilIface ∨ ∃ te pe, ev = .iface te pe)
  ran : ∃ ev, w.cell? ⟨2, 0, none⟩ = some ev ∧ (ev = .nilIface ∨ ∃ te pe, ev = .iface te pe)
theorem LabW.below {w w' : World} (h : LabW w) (hb : Below w.heap.size w w') : LabW w' := by
  obtain ⟨h1, ⟨m, h2⟩, ⟨e1, h3, h4⟩, ⟨e2, h5, h6⟩⟩ := h
  exact ⟨h1.below hb, ⟨m, (hb.cell (cell_lt h2)).trans h2⟩, ⟨e1, (hb.cell (cell_lt h3)).trans h3, h4⟩, ⟨e2, (hb.cell (cell_lt h5)).trans h5, h6⟩⟩
def AtoiPost (s : ByteArray) (w : World) (e : Ending) (w' : World) : Prop := Below w.heap.size w w' ∧
  ((∃ u, Lib.atoiAll s.data.toList = .ok u ∧ e = .returned (.tuple #[.int .i64 u, .nilIface])) ∨ ((∀ u, Lib.atoiAll s.data.toList ≠ .ok u) ∧ ∃ v t p, e = .returned (.tuple #[.int .i64 v, .iface t p])))
theorem atoi_any (s : ByteArray) (hs : s.size ≤ 300) (w : World) (hw : LabW w) : Calls Tryd.prog 31 #[.string s] w (AtoiPost s w) := by
  cases h : Lib.atoiAll s.data.toList with
  | ok v =>
    refine (Tryd.strconv_Atoi_ok s (by omega) v h w).mono fun e w' hh => ⟨?_, .inl ⟨v, h, hh.1⟩⟩
    rcases hh.2 with rfl | ⟨t, rfl⟩
    · exact Below.refl _ _
    · exact Lib.bytesWorld_below _ _ _
  | «syntax» =>
    obtain ⟨ev, h1, h2⟩ := hw.syn
    refine (Tryd.strconv_Atoi_syntax s (by omega) h ev w h1 h2).mono fun e w' hh => ?_
    obtain ⟨N, he, _, _, hb⟩ := hh
    exact ⟨hb, .inr ⟨(fun u hu => by rw [h] at hu; cases hu), _, _, _, he⟩⟩
  | range =>
    obtain ⟨ev, h1, h2⟩ := hw.ran
    refine (Tryd.strconv_Atoi_range s (by omega) h ev w h1 h2).mono fun e w' hh => ?_
    obtain ⟨N, he, _, _, hb⟩ := hh
    exact ⟨hb, .inr ⟨(fun u hu => by rw [h] at hu; cases hu), _, _, _, he⟩⟩
theorem splitB_size (sep : ByteArray) : ∀ (k : Nat) (s : ByteArray), ∀ x ∈ Lib.splitB sep 0 k s, x.size ≤ s.size
  | 0, s, x, h => by
    rw [Lib.splitB_zero] at h
    obtain rfl := List.mem_singleton.1 h
    exact Nat.le_refl _
  | k + 1, s, x, h => by
    unfold Lib.splitB at h
    split at h
    · obtain rfl := List.mem_singleton.1 h
      exact Nat.le_refl _
    · rcases List.mem_cons.1 h with h | h
      · subst h; simp; omega
      · have := splitB_size sep k _ x h
        simp at this
        omega
theorem inner_data (s : ByteArray) : (s.extract 1 (s.size - 1)).data.toList = inner s.data.toList := by
  rw [Lib.extract_data]
  unfold inner
  have : s.size = s.data.toList.length := by simp
  rw [← this, List.drop_take]
def partsOf (s : ByteArray) : List ByteArray := Lib.splitB ⟨#[44]⟩ 0 (Lib.countB (s.extract 1 (s.size - 1)) ⟨#[44]⟩) (s.extract 1 (s.size - 1))
theorem parts_data (s : ByteArray) : (partsOf s).map (·.data.toList) = Lib.split (inner s.data.toList) [44] := by
  unfold partsOf
  rw [Lib.splitB_data, inner_data]
  unfold Lib.split Lib.countB
  rw [inner_data]
theorem parts_len (s : ByteArray) : (partsOf s).length = Lib.countB (s.extract 1 (s.size - 1)) ⟨#[44]⟩ + 1 := Lib.splitB_all _ (by decide) 0 _ _ rfl
theorem parts_size (s : ByteArray) : ∀ x ∈ partsOf s, x.size ≤ s.size := fun x h => by
  have := splitB_size _ _ _ x h
  simp at this
  omega
def outTo (ps : List ByteArray) (k : Nat) : Nat := outP ((ps.take k).map (·.data.toList))
theorem outTo_zero (ps : List ByteArray) : outTo ps 0 = 0 := rfl
theorem outTo_succ {ps : List ByteArray} {k : Nat} (h : k < ps.length) : outTo ps (k + 1) = stepP (outTo ps k) ps[k].data.toList := by
  unfold outTo
  rw [List.take_succ_eq_append_getElem h, List.map_append, List.map_cons, List.map_nil, outP_snoc]
theorem outTo_lt (ps : List ByteArray) (k : Nat) : outTo ps k < 18446744073709551616 := outP_lt _
set_option maxRecDepth 100000 in
set_option maxHeartbeats 4000000 in
theorem parse_any (s : ByteArray) (w : World) (hs : s.size ≤ maxLen) (hw : LabW w) : Calls Tryd.prog 14 #[.string s] w (RetB (parseV (parseP s.data.toList)) w) := by
  have hlen : s.data.toList.length = s.size := by simp
  unfold maxLen at hs
  by_cases h2 : s.size < 2
  · have e : parseP s.data.toList = none := by unfold parseP; rw [if_pos (by omega)]
    rw [e]
    show Calls _ _ _ _ (RetB (.tuple #[.int .u64 0, .bool false]) w)
    clear e hlen
    go_enter Tryd.func14, Tryd.ntmps14
    go_wp2
    go_ret2
    exact ⟨rfl, Below.refl _ _⟩
  by_cases h3 : 300 < s.size
  · have e : parseP s.data.toList = none := by unfold parseP; rw [if_pos (by omega)]
    rw [e]
    show Calls _ _ _ _ (RetB (.tuple #[.int .u64 0, .bool false]) w)
    clear e hlen
    go_enter Tryd.func14, Tryd.ntmps14
    go_wp2
    go_ret2
    exact ⟨rfl, Below.refl _ _⟩
  have hR : parseP s.data.toList = if showB (outTo (partsOf s) (partsOf s).length) = s.data.toList then some (outTo (partsOf s) (partsOf s).length) else none := by
    unfold parseP outTo
    rw [if_neg (by omega), List.take_length, parts_data]
  generalize parseP s.data.toList = R at hR
  obtain ⟨m, hm⟩ := hw.max
  have hsp := fun w (h : w.cell? ⟨4, 0, none⟩ = some (.int .i64 m)) => Tryd.strings_Split (s.extract 1 (s.size - 1)) ⟨#[44]⟩ m w (by simp; omega) h (by decide)
  rw [← parts_len] at hsp
  change ∀ w, _ → Calls Tryd.prog _ _ w fun e w' => e = .returned (.slice (some ⟨w.heap.size, 0, none⟩) (partsOf s).length (partsOf s).length) ∧ w' = w.alloc (.cells ((partsOf s).map Value.string).toArray _) at hsp
  have hps := parts_size s
  have hpl := parts_len s
  have hcl : (partsOf s).length ≤ 10000 := by
    have := Lib.count_le (s.extract 1 (s.size - 1)).data.toList [44]
    rw [hpl]
    have e : Lib.countB (s.extract 1 (s.size - 1)) ⟨#[44]⟩ = Lib.count (s.extract 1 (s.size - 1)).data.toList [44] := rfl
    have e2 : (s.extract 1 (s.size - 1)).data.toList.length ≤ s.size := by simp; omega
    omega
  generalize partsOf s = ps at hR hsp hps hcl
  have HR := Lib.hid hR
  have HSP := Lib.hid hsp
  have HPS := Lib.hid hps
  have HW := Lib.hid hw
  clear hR hsp hps hlen hpl hw
  go_enter Tryd.func14, Tryd.ntmps14
  go_wp2_with fail
  refine (HSP.out _ hm).mono ?_
  rintro e w1 ⟨rfl, rfl⟩
  have hcell : ∀ w', Below (w.heap.size + 1) (w.alloc (.cells (ps.map Value.string).toArray 9)) w' → ∀ k x, ps[k]? = some x → w'.cell? ⟨w.heap.size, k, none⟩ = some (.string x) := fun w' hb k x hx => by
    have hA : w'.heap[w.heap.size]? = some (.cells (ps.map Value.string).toArray 9 (0, 0)) := (hb.block _ (Nat.lt_succ_self _)).trans (heap_alloc_new w _)
    exact cell_of_blk hA (by rw [List.getElem?_toArray, List.getElem?_map, hx]; rfl)
  have HC := Lib.hid hcell
  clear hcell
  go_wp2
  go_loopw [4, 6, 7, 8, 24] (fun o _ _ _ i wr => ∃ k : Nat, k ≤ ps.length ∧ i = .int .i64 k ∧ o = .int .u64 (outTo ps k : Int) ∧ Below (w.heap.size + 1) (w.alloc (.cells (ps.map Value.string).toArray 9)) wr) (fun _ _ _ _ i _ => ps.length - (intOf i).toNat)
  case atStart => exact ⟨0, by omega, rfl, rfl, Below.refl _ _⟩
  case round =>
    obtain ⟨k, hk, rfl, rfl, hB⟩ := hrel
    have hB0 : Below w.heap.size w wr := ((Below.refl _ _).alloc (Nat.le_refl _) _).trans (hB.mono (by omega))
    have hWr := HW.out.below hB0
    have HWr := Lib.hid hWr
    have ho := outTo_lt ps k
    clear hWr
    by_cases hlt : k < ps.length
    · have hx : ps[k]? = some ps[k] := List.getElem?_eq_getElem hlt
      have hc' := HC.out wr hB k _ hx
      have hat := atoi_any ps[k] (by have := HPS.out _ (List.getElem_mem hlt); omega) wr HWr.out
      have hstep := outTo_succ hlt
      generalize ps[k] = x at hc' hat hstep
      have HS := Lib.hid hstep
      have HB := Lib.hid hB
      have hBs := hB.size
      simp at hBs
      clear hx hstep hB
      generalize outTo ps k = out at ho HS ⊢
      go_wp2_with fail
      refine hat.mono ?_
      rintro e w2 ⟨hb2, ⟨u, hu, rfl⟩ | ⟨hu, v, t, p, rfl⟩⟩
      · have hst : outTo ps (k + 1) = if 0 ≤ u ∧ u < 64 then out ||| 2 ^ u.toNat else out := by
          rw [HS.out]
          unfold stepP
          rw [hu]
        have hbn := HB.out.trans (hb2.mono (by omega))
        have HBn := Lib.hid hbn
        have HST := Lib.hid hst
        clear hu hst hbn HS HB hb2
        by_cases h0 : u < 0
        · go_wp2
          go_roundw
          case rel => exact ⟨k + 1, by omega, by go_num, by rw [HST.out, if_neg (by omega)], HBn.out⟩
          case measure => simp [intOf]; omega
        by_cases h1 : 64 ≤ u
        · go_wp2
          go_roundw
          case rel => exact ⟨k + 1, by omega, by go_num, by rw [HST.out, if_neg (by omega)], HBn.out⟩
          case measure => simp [intOf]; omega
        obtain ⟨n, rfl⟩ := Int.eq_ofNat_of_zero_le (by omega : 0 ≤ u)
        have hn : n < 64 := by omega
        have hor := or_pow ho hn
        have hst : outTo ps (k + 1) = out ||| 2 ^ n := by rw [HST.out, if_pos (by omega), Int.toNat_natCast]
        have HS2 := Lib.hid hst
        clear HST hst
        generalize out ||| 2 ^ n = o2 at hor HS2
        go_wp2
        go_roundw
        case rel => exact ⟨k + 1, by omega, by go_num, by rw [HS2.out], HBn.out⟩
        case measure => simp [intOf]; omega
      · have hst : outTo ps (k + 1) = out := by
          rw [HS.out]
          unfold stepP
          split
          · rename_i v' hv'
            exact absurd hv' (hu v')
          · rfl
        have hbn := HB.out.trans (hb2.mono (by omega))
        have HBn := Lib.hid hbn
        have HST := Lib.hid hst
        clear hu hst hbn HS HB hb2
        go_wp2
        go_roundw
        case rel => exact ⟨k + 1, by omega, by go_num, by rw [HST.out], HBn.out⟩
        case measure => simp [intOf]; omega
    · obtain rfl : k = ps.length := by omega
      have hsh := show_any _ ho wr HWr.out.tab
      have HB0 := Lib.hid hB0
      clear hB hB0
      generalize hO : outTo ps ps.length = O at ho hsh HR ⊢
      clear hO
      by_cases he : showB O = s.data.toList
      · have hRn := HR.out
        rw [if_pos he] at hRn
        have h1 : (showS O).toList = s.toList := by rw [ByteArray.toList_eq, ByteArray.toList_eq]; exact he
        have h1' : ((showS O).toList != s.toList) = false := by rw [h1]; simp
        clear he HR
        generalize showS O = T at hsh h1 h1'
        subst hRn
        go_wp2_with fail
        refine hsh.mono ?_
        rintro e w2 ⟨rfl, hb2⟩
        go_wp2
        go_ret2
        exact ⟨rfl, HB0.out.trans (hb2.mono HB0.out.size)⟩
      · have hRn := HR.out
        rw [if_neg he] at hRn
        have h1 : ¬ (showS O).toList = s.toList := by rw [ByteArray.toList_eq, ByteArray.toList_eq]; exact he
        have h1' : ((showS O).toList != s.toList) = true := by simpa using h1
        have h1'' : ((showS O).toList == s.toList) = false := by simpa using h1
        clear he HR
        generalize showS O = T at hsh h1 h1' h1''
        subst hRn
        go_wp2_with fail
        refine hsh.mono ?_
        rintro e w2 ⟨rfl, hb2⟩
        go_wp2_with fail
        go_wp2
        go_ret2
        exact ⟨rfl, HB0.out.trans (hb2.mono HB0.out.size)⟩
end Go.Proofs.YtmlknpoippfkeaaDoor
