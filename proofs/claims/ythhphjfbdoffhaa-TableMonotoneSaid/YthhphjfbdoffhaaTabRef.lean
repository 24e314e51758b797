/-
  Chapter 04: how a table of the document lies in memory; where a key stands; Get, Key.
-/
import Derived.Test.YthhphjfbdoffhaaTabStamp
import Derived.Test.YthhphjfbdoffhaaValRefH
set_option linter.unusedVariables false
set_option linter.unusedSimpArgs false
namespace Go.Proofs.Ythhphjfbdoffhaa
open Go.ChangeShapes Go.WideShapes Go.ChangeAt Go.RowKit Go.Maps

theorem room80 {a b : Nat} (h : (a + b + 1) * 80 ≤ 140737488355328) : a ≤ 9223372036854775807 ∧ b ≤ 9223372036854775807 ∧ a + 1 ≤ maxLen ∧ (a + 1) * 80 ≤ 140737488355328 := by
  have h0 : ∀ n, n ≤ a + b + 1 → n * 80 ≤ 140737488355328 := fun n hn => Nat.le_trans (Nat.mul_le_mul_right 80 hn) h
  have h1 : ∀ n, n ≤ a + b + 1 → n ≤ 9223372036854775807 := fun n hn => Nat.le_trans (Nat.le_mul_of_pos_right _ (by decide)) (Nat.le_trans (h0 n hn) (by decide))
  exact ⟨h1 a (by omega), h1 b (by omega), h1 (a + 1) (by omega), h0 (a + 1) (by omega)⟩
theorem Reads.mono' {w : World} {B B' : Nat} {A : Option Addr} {xs : List Value} (h : Reads w B A xs) (hB : B ≤ B') : Reads w B' A xs := h.imp id fun ⟨ad, e, h1, h2⟩ => ⟨ad, e, Nat.lt_of_lt_of_le h1 hB, h2⟩
structure RTabIn (w : World) (B rb : Nat) (T : TabS) (fp : List Nat) : Prop where
  ex : ∃ (fv sv : Value), fp = rb :: (fv.ownBlock.toList ++ sv.ownBlock.toList) ∧ w.heap[rb]? = some (.cells #[.int .u64 (T.l : Int), fv, sv] 50 (0, 0)) ∧
    w.ownsRow B 59 8 fv T.F.length (T.F.flatMap fdEnc) ∧ w.ownsRow B 61 2 sv T.S.length (T.S.flatMap stEnc)
  base : ∀ b ∈ fp, B ≤ b ∧ b < w.heap.size
theorem RTabIn.kept {w w' : World} {B rb : Nat} {T : TabS} {fp S : List Nat} (h : RTabIn w B rb T fp) (hf : Fr S w w') (hd : ∀ b ∈ fp, b ∉ S) : RTabIn w' B rb T fp := by
  obtain ⟨⟨fv, sv, rfl, h1, h2, h3⟩, hb⟩ := h
  refine ⟨⟨fv, sv, rfl, hf.blk h1 (hd _ (by simp)), hf.own h2 fun g hg => hd g (by simp [hg]), hf.own h3 fun g hg => hd g (by simp [hg])⟩, fun b hm => ?_⟩
  have := hb b hm
  have := hf.size
  omega
def RTabTo (w : World) (B rb : Nat) (T' : TabS) (fp : List Nat) (w' : World) : Prop := ∃ fp', RTabIn w' B rb T' fp' ∧ Fr fp w w' ∧ ∀ b ∈ fp', b ∈ fp ∨ w.heap.size ≤ b
theorem RTabTo.same {w w' : World} {B rb : Nat} {T : TabS} {fp : List Nat} (h : RTabIn w B rb T fp) (hb : Below w.heap.size w w') : RTabTo w B rb T fp w' :=
  ⟨fp, h.kept (Fr.of_below hb []) (by simp), Fr.of_below hb _, fun b hb => .inl hb⟩
theorem RTabTo.drew {w w' : World} {B rb : Nat} {T : TabS} {fp : List Nat} (h : RTabTo w B rb T fp w') : RTabTo w B rb T fp w'.drew := by
  obtain ⟨fp', h1, h2, h3⟩ := h
  exact ⟨fp', h1.kept ((Fr.refl [] _).drew) (by simp), h2.drew, h3⟩
theorem rtab_elem {w : World} {B rb : Nat} {T : TabS} {fp : List Nat} (h : RTabIn w B rb T fp) {i : Nat} {f : Fd} (hi : T.F[i]? = some f) :
    ∃ ad c, w.cell? ⟨rb, 1, none⟩ = some (.slice (some ad) T.F.length c) ∧ ad.block < w.heap.size ∧ FdAt w (ad.add (i * 8)) f ∧ (∀ o, w.frozen? ⟨(ad.add (i * 8)).block, (ad.add (i * 8)).off + o, none⟩ = false) ∧
      ∀ w7 R, Below w.heap.size w w7 → RTabTo w B rb { T with F := T.F.set i (f.1, R) } fp (set4 w7 (ad.add (i * 8)) R 4) := by
  obtain ⟨⟨fv, sv, hfp, h1, h2, h3⟩, hbase⟩ := h
  obtain ⟨A, c, rfl, hn1, hn2, hff⟩ := own_form h2
  obtain ⟨gb, rfl, hbg, hgl, ⟨cur, hcur⟩, hcell⟩ := hff (by have := (List.getElem?_eq_some_iff.1 hi).1; omega)
  refine ⟨⟨gb, 0, none⟩, c, cell_of_blk h1 rfl, hgl, fd_at (fun j u hu => by rw [ad_add]; exact hcell j u hu) hi, fun o => by rw [ad_add]; exact World.ownsRow.frozenAt h2 _, fun w7 R hb => ?_⟩
  rw [ad_add]
  have hgf : gb ∈ fp := by rw [hfp]; simp [Value.ownBlock]
  have hF : Fr [gb] w (set4 w7 ⟨gb, i * 8, none⟩ R 4) := ((((Fr.of_below hb _).set _ (.inl (by simp))).set _ (.inl (by simp))).set _ (.inl (by simp))).set _ (.inl (by simp))
  have h2' := (Fr.of_below hb []).own h2 (by simp)
  refine ⟨fp, ⟨⟨_, sv, hfp, hF.blk h1 (by simpa using blk_ne h1 hcur (by decide)), ?_, hF.own h3 ?_⟩, fun b hb' => ?_⟩, hF.more (by simpa using .inl hgf), fun b hb => .inl hb⟩
  · have s1 := (World.ownsRow.stored h2' (i * 8 + 4) (.int .i64 R.kind)).1
    have s2 := (World.ownsRow.stored s1 (i * 8 + 5) (.int .i64 R.n)).1
    have s3 := (World.ownsRow.stored s2 (i * 8 + 6) (.string R.s)).1
    have s4 := (World.ownsRow.stored s3 (i * 8 + 7) (.int .u64 (R.label : Int))).1
    rw [flat_set4 hi] at s4
    simpa [set4] using s4
  · intro g hg
    have := own_blk_ne h3 hcur (by decide)
    rw [hg] at this
    simpa using Ne.symm (fun e => this (by rw [e]))
  · have := hbase b hb'
    have := hF.size
    omega
theorem rtab_app {w w12 : World} {B rb : Nat} {T : TabS} {fp : List Nat} {fv sv v' : Value} {gb cap : Nat} {k R : VV}
    (hfp : fp = rb :: (fv.ownBlock.toList ++ sv.ownBlock.toList)) (h1 : w.heap[rb]? = some (.cells #[.int .u64 (T.l : Int), fv, sv] 50 (0, 0)))
    (h2 : w.ownsRow B 59 8 fv T.F.length (T.F.flatMap fdEnc)) (h3 : w.ownsRow B 61 2 sv T.S.length (T.S.flatMap stEnc))
    (hbase : ∀ b ∈ fp, B ≤ b ∧ b < w.heap.size) (hFr : Fr fv.ownBlock.toList w w12)
    (hown : w12.ownsRow B 59 8 v' (T.F.length + 1) (T.F.flatMap fdEnc ++ fdEnc (bareV k, R))) (hv' : v' = .slice (some ⟨gb, 0, none⟩) (T.F.length + 1) cap) (hat : fv.ownBlock = some gb ∨ w.heap.size ≤ gb) :
    RTabTo w B rb { T with F := T.F ++ [(bareV k, R)] } fp (w12.setCell ⟨rb, 1, none⟩ v') := by
  have htn : rb ∉ fv.ownBlock.toList := by
    intro e
    exact own_blk_ne h2 h1 (by decide) (by simpa using (by simpa using e : fv.ownBlock = some rb).symm)
  have hT := hFr.blk h1 htn
  have hF' : Fr fp w (w12.setCell ⟨rb, 1, none⟩ v') := (hFr.more (S' := fp) (fun b hb => .inl (by
    rw [hfp]
    simp at hb
    simp [hb]))).set _ (.inl (by rw [hfp]; simp))
  have hown2 := hown
  obtain ⟨_, _, hv2, _, _, hgg⟩ := own_form hown2
  rw [hv'] at hv2
  obtain ⟨gb2, e2, hBg, hgl, _⟩ := hgg (by omega)
  cases hv2
  obtain rfl : gb = gb2 := by simpa using e2
  have hsv : ∀ g, sv.ownBlock = some g → g ∉ fv.ownBlock.toList := by
    intro g hg e
    exact own_own_ne h3 h2 (by decide) hg (by simpa using e)
  have h3' := hFr.own h3 hsv
  refine ⟨rb :: ([gb] ++ sv.ownBlock.toList), ⟨⟨v', sv, by rw [hv']; simp [Value.ownBlock], blk_set (i := 1) hT v', ?_, own_set_far h3' hT (by decide) _⟩, ?_⟩, hF', ?_⟩
  · have := own_set_far hown hT (by decide) (a := ⟨rb, 1, none⟩) v'
    simpa using this
  · have hsz := hFr.size
    intro b hb
    have hb' : b = gb ∨ b ∈ fp := by
      rw [hfp]
      simp at hb ⊢
      rcases hb with h | h | h
      · simp [h]
      · simp [h]
      · simp [h]
    rcases hb' with rfl | hb'
    · exact ⟨hBg, by simpa [World.setCell] using hgl⟩
    · have := hbase b hb'
      simp [World.setCell]
      omega
  · intro b hb
    simp at hb
    rcases hb with rfl | rfl | h
    · exact .inl (by rw [hfp]; simp)
    · rcases hat with h | h
      · exact .inl (by rw [hfp]; simp [h])
      · exact .inr h
    · exact .inl (by rw [hfp]; simp [h])
set_option maxRecDepth 100000 in
set_option maxHeartbeats 2000000 in
theorem rkey_any (v : VV) (w : World) : Calls Try.prog 69 #[.agg (vvCells v)] w (RetB (.bool (isKey v)) w) := by
  have hc := fun W => rcheck_any v W
  have HB := Lib.hid ((Below.refl w.heap.size w).alloc (Nat.le_refl _) (.cells (vvCells v) 25))
  obtain ⟨k, n, s, l⟩ := v
  unfold isKey
  unfold vvCells at hc HB ⊢
  generalize checkV ⟨k, n, s, l⟩ = β at hc ⊢
  have hC := Lib.hid hc
  clear hc
  dsimp only at hC HB ⊢
  by_cases k2 : k = 2
  · subst k2
    have e : ((decide ((2 : Int) = 2) || decide ((2 : Int) = 3)) && β) = β := by simp
    rw [e]
    go_enter Try.func69, Try.ntmps69
    go_wp2_with fail
    refine (hC.out _).mono ?_
    rintro e w1 ⟨rfl, hb1⟩
    have HB1 := Lib.hid (HB.out.trans (hb1.mono (by simp)))
    clear hb1
    go_wp2
    go_ret
    exact ⟨rfl, HB1.out⟩
  by_cases k3 : k = 3
  · subst k3
    have e : ((decide ((3 : Int) = 2) || decide ((3 : Int) = 3)) && β) = β := by simp
    rw [e]
    go_enter Try.func69, Try.ntmps69
    go_wp2_with fail
    refine (hC.out _).mono ?_
    rintro e w1 ⟨rfl, hb1⟩
    have HB1 := Lib.hid (HB.out.trans (hb1.mono (by simp)))
    clear hb1
    go_wp2
    go_ret
    exact ⟨rfl, HB1.out⟩
  rw [show ((decide (k = 2) || decide (k = 3)) && β) = false from by simp [k2, k3]]
  go_enter Try.func69, Try.ntmps69
  go_wp2
  go_ret
  exact ⟨rfl, HB.out⟩
theorem findIdx_of {F : List Fd} {k : VV} {j : Nat} {x : Fd} (hx : F[j]? = some x) (hs : sameV x.1 k = true) (hno : ∀ f ∈ F.take j, sameV f.1 k = false) : F.findIdx? (fun f => sameV f.1 k) = some j := by
  rw [List.findIdx?_eq_some_iff_getElem]
  obtain ⟨hl, he⟩ := List.getElem?_eq_some_iff.1 hx
  refine ⟨hl, by rw [he]; exact hs, fun i hi => ?_⟩
  have := hno (F[i]'(by omega)) (List.mem_of_getElem? (i := i) (by rw [List.getElem?_take, if_pos hi, List.getElem?_eq_getElem]))
  simp [this]
set_option maxRecDepth 100000 in
set_option maxHeartbeats 2000000 in
theorem rfind_any {w : World} {B rb : Nat} {T : TabS} {fp : List Nat} (h : RTabIn w B rb T fp) (k : VV) (hn : T.F.length ≤ 9223372036854775807) :
    Calls Try.prog 71 #[.pointer (some ⟨rb, 0, none⟩), .agg (vvCells k)] w (RetB (.int .i64 (findI T.F k)) w) := by
  obtain ⟨⟨fv, sv, _, h1, h2, _⟩, _⟩ := h
  obtain ⟨A, c, rfl, _, _, hA, hr⟩ := own_reads h2
  have hkey := fun W => rkey_any k W
  have hsame := fun (f : VV) W => rsame_any f k W
  have HB0 := Lib.hid ((Below.refl w.heap.size w).alloc (Nat.le_refl _) (.cells (vvCells k) 25))
  have HR := Lib.hid hr
  have H1 := Lib.hid h1
  have htl := blk_lt h1
  cases hik : isKey k
  · have e : findI T.F k = -1 := by unfold findI findF; rw [hik]; rfl
    rw [e]
    rw [hik] at hkey
    unfold vvCells at *
    have HK := Lib.hid hkey
    clear h1 h2 hr hkey hsame
    go_enter Try.func71, Try.ntmps71
    go_wp2_with fail
    refine (HK.out _).mono ?_
    rintro e w1 ⟨rfl, hb1⟩
    have HB := Lib.hid (HB0.out.trans (hb1.mono (by simp)))
    clear hb1
    go_wp2
    go_ret
    exact ⟨rfl, HB.out⟩
  · have HFN := Lib.hid (show (∀ f ∈ T.F, sameV f.1 k = false) → findI T.F k = -1 from fun hno => by
      unfold findI findF
      rw [if_pos hik, List.findIdx?_eq_none_iff.2 (fun f hf => by simp [hno f hf])])
    have HFS := Lib.hid (show ∀ (j : Nat) (x : Fd), T.F[j]? = some x → sameV x.1 k = true → (∀ f ∈ T.F.take j, sameV f.1 k = false) → findI T.F k = (j : Int) from fun j x hx hs hno => by
      unfold findI findF
      rw [if_pos hik, findIdx_of hx hs hno])
    rw [hik] at hkey
    generalize findI T.F k = pi at HFN HFS ⊢
    unfold vvCells at *
    have HK := Lib.hid hkey
    have HS := Lib.hid hsame
    clear h1 h2 hr hkey hsame
    go_enter Try.func71, Try.ntmps71
    go_wp2_with fail
    refine (HK.out _).mono ?_
    rintro e w1 ⟨rfl, hb1⟩
    have HB := Lib.hid (HB0.out.trans (hb1.mono (by simp)))
    have U0 := Lib.hid (below_blk hb1 (heap_alloc_new w _))
    have hc1 := cell_of_blk (i := 1) (below_blk HB.out H1.out) rfl
    have l3 := blk_lt (below_blk HB.out H1.out)
    clear hb1
    go_wp2_with fail
    go_loopw [14] (fun i wr => ∃ j : Nat, j ≤ T.F.length ∧ i = .int .i64 j ∧ Below w.heap.size w wr ∧ wr.heap[w.heap.size]? = some (.cells #[.int .i64 k.kind, .int .i64 k.n, .string k.s, .int .u64 (k.label : Int)] 25 (0, 0)) ∧ Hid (∀ f ∈ T.F.take j, sameV f.1 k = false)) (fun i wr => T.F.length - (intOf i).toNat)
    case atStart => exact ⟨0, by omega, rfl, HB.out, U0.out, Lib.hid (by simp)⟩
    case round =>
      obtain ⟨j, hj, rfl, hB, hU, HA⟩ := hrel
      by_cases hlt : j < T.F.length
      · obtain ⟨x, hx⟩ : ∃ x, T.F[j]? = some x := ⟨_, List.getElem?_eq_getElem hlt⟩
        obtain ⟨ad, rfl, hadb, hcell⟩ := (HR.out.below hB).at (flatMap_ne (K := 8) (fun a => rfl) (by omega) hx)
        obtain ⟨x0, x1, x2, x3, x4, x5, x6, x7⟩ := fd_at hcell hx
        have HX := Lib.hid hx
        have hsz := hB.size
        have hj' : (j : Int) < (T.F.length : Int) := by omega
        have hj0 : (0 : Int) ≤ j := by omega
        have hll : (ad.add (j * 8)).block < wr.heap.size := by rw [block_add']; omega
        have HT := Lib.hid (show T.F.take (j + 1) = T.F.take j ++ [x] by rw [List.take_add_one, hx]; rfl)
        have k0 := cell_of_blk (i := 0) hU rfl
        have k1 := cell_of_blk (i := 1) hU rfl
        have k2 := cell_of_blk (i := 2) hU rfl
        have k3 := cell_of_blk (i := 3) hU rfl
        have lk := blk_lt hU
        have HB2 := Lib.hid hB
        have HU := Lib.hid hU
        clear hcell hB hx hU
        cases hs : sameV x.1 k
        all_goals
          have hsm := HS.out x.1
          rw [hs] at hsm
          have HSm := Lib.hid hsm
          clear hsm
          go_wp2_with fail
          refine (HSm.out _).mono ?_
          rintro e w8 ⟨rfl, hb8⟩
          have B8 := Lib.hid ((HB2.out.alloc hsz _).trans (hb8.mono (by simp; omega)))
          have U8 := Lib.hid (below_blk hb8 (blk_alloc HU.out _))
          clear hb8
          go_wp2_with fail
        · go_roundw
          case rel => exact ⟨j + 1, by omega, by go_num, B8.out, U8.out, Lib.hid (fun f hf => by
            rw [HT.out] at hf
            rcases List.mem_append.1 hf with h | h
            · exact HA.out f h
            · rw [List.mem_singleton.1 h]; exact hs)⟩
          case measure => simp [intOf]; omega
        · go_ret
          exact ⟨by rw [HFS.out j x HX.out hs HA.out]; rfl, B8.out⟩
      · obtain rfl : j = T.F.length := by omega
        have e : pi = -1 := HFN.out (by have := HA.out; rwa [List.take_length] at this)
        go_wp2_with fail
        go_ret
        exact ⟨by rw [e]; rfl, hB⟩
end Go.Proofs.Ythhphjfbdoffhaa
