/-
  Chapter 04: the document's Stamp.
-/
import Derived.Test.YthhphjfbdoffhaaTabWith
set_option linter.unusedVariables false
set_option linter.unusedSimpArgs false
namespace Go.Proofs.Ythhphjfbdoffhaa
open Go.ChangeShapes Go.WideShapes Go.ChangeAt Go.RowKit Go.Maps

theorem rtab_stamp {w w5 : World} {B rb : Nat} {T : TabS} {N : List St} {fp : List Nat} (h : RTabIn w B rb T fp) (hb : Below w.heap.size w w5) {v : Value} (hown : w5.ownsRow B 61 2 v N.length (N.flatMap stEnc))
    (hvb : ∀ g, v.ownBlock = some g → g ∈ fp ∨ w.heap.size ≤ g) : RTabTo w B rb { T with S := N } fp (w5.setCell ⟨rb, 2, none⟩ v) := by
  obtain ⟨⟨fv, sv, hfp, h1, h2, h3⟩, hbase⟩ := h
  have hF : Fr [rb] w (w5.setCell ⟨rb, 2, none⟩ v) := (Fr.of_below hb _).set _ (.inl (by simp))
  have hT := below_blk hb h1
  have htf : rb ∈ fp := by rw [hfp]; simp
  have hfv : ∀ g, fv.ownBlock = some g → g ∉ [rb] := by
    intro g hg hm
    exact own_blk_ne h2 h1 (by decide) (by rw [hg, List.mem_singleton.1 hm])
  have hlt : ∀ g, v.ownBlock = some g → B ≤ g ∧ g < w5.heap.size := by
    intro g hg
    rcases hown.2 with ⟨rfl, _⟩ | ⟨g', cap, cur, rfl, hgb, hh, _⟩
    · simp [Value.ownBlock] at hg
    · obtain rfl : g' = g := by simpa [Value.ownBlock] using hg
      exact ⟨hgb, blk_lt hh⟩
  refine ⟨rb :: (fv.ownBlock.toList ++ v.ownBlock.toList), ⟨⟨fv, v, rfl, blk_set (i := 2) hT v, hF.own h2 hfv, own_set_far hown hT (by decide) _⟩, ?_⟩, hF.more (by simpa using .inl htf), ?_⟩
  · intro b hbm
    simp [World.setCell]
    simp at hbm
    have hs := hb.size
    rcases hbm with rfl | h | h
    · have := hbase b htf; omega
    · have := hbase b (by rw [hfp]; simp [h]); omega
    · exact hlt b h
  · intro b hbm
    simp at hbm
    rcases hbm with rfl | h | h
    · exact .inl htf
    · exact .inl (by rw [hfp]; simp [h])
    · exact hvb b h
def RStampOut (w : World) (B rb : Nat) (T : TabS) (L : List St) (fp : List Nat) (e : Ending) (w' : World) : Prop := e = .returned (.bool (doStamp T L).1) ∧ RTabTo w B rb (doStamp T L).2 fp w'
theorem rstamp_no {w w' : World} {B rb : Nat} {T : TabS} {L : List St} {fp : List Nat} (h : RTabIn w B rb T fp) (hb : Below w.heap.size w w') (hno : stampOk T.F (stamped T.S L) L = false) : RStampOut w B rb T L fp (.returned (.bool false)) w' := by
  unfold RStampOut doStamp
  rw [hno]
  exact ⟨rfl, RTabTo.same h hb⟩
theorem room_wi {n a k L : Nat} (h1 : n ≤ a + k) (h2 : k < L) (h3 : (a + L + 1) * 24 ≤ 140737488351232) : n + 1 ≤ maxLen ∧ (n + 1) * 24 ≤ 140737488355328 ∧ n ≤ maxLen ∧ n * 24 ≤ 140737488355328 := by
  obtain ⟨r1, r2, r3, _⟩ := room_ar h1 h2 h3
  exact ⟨r1, r2, Nat.le_of_lt r3, Nat.le_trans (Nat.mul_le_mul_right 24 (Nat.le_succ n)) r2⟩
theorem room_64 {n a L : Nat} (h1 : n ≤ a + L) (h3 : (a + L + 1) * 24 ≤ 140737488351232) : n ≤ 9223372036854775807 ∧ L ≤ 9223372036854775807 := by
  have h4 : ∀ m, m ≤ a + L + 1 → m ≤ 9223372036854775807 := fun m hm => Nat.le_trans (Nat.le_mul_of_pos_right _ (by decide)) (Nat.le_trans (Nat.mul_le_mul_right 24 hm) (Nat.le_trans h3 (by decide)))
  exact ⟨h4 n (by omega), h4 L (by omega)⟩
set_option maxRecDepth 100000 in
set_option maxHeartbeats 8000000 in
theorem rstamp_any {w : World} {B rb : Nat} {T : TabS} {fp : List Nat} (h : RTabIn w B rb T fp) (ok : TabOk T) (L : List St) (A : Option Addr) (c : Nat) (hr : Reads w w.heap.size A (L.flatMap stEnc)) (hL : ∀ s ∈ L, s.1.size ≤ maxLen ∧ I64 s.2) (hn : (T.S.length + L.length + 1) * 24 ≤ 140737488351232) (hnF : T.F.length ≤ 9223372036854775807) :
    Calls Try.prog 56 #[.pointer (some ⟨rb, 0, none⟩), .slice A L.length c] w (RStampOut w B rb T L fp) := by
  obtain ⟨hNl, hLl⟩ := room_64 (stamped_len T.S L).2 hn
  have H0 := Lib.hid h
  obtain ⟨⟨fv, sv, hfp, h1, h2, h3⟩, hbase⟩ := h
  have HSF := Lib.hid (show ∀ g, sv.ownBlock = some g → g ∈ fp from fun g hg => by rw [hfp]; simp [hg])
  have hBw : B ≤ w.heap.size := by have := hbase rb (by rw [hfp]; simp); omega
  have t2 : w.cell? ⟨rb, 2, none⟩ = some sv := cell_of_blk h1 rfl
  obtain ⟨AS, cs, hsv, hcs1, hcs2, hAS, hRS⟩ := own_reads h3
  rw [hsv] at t2
  have H1 := Lib.hid h1
  have H2 := Lib.hid h2
  have H3 := Lib.hid h3
  have HSV := Lib.hid hsv
  have HOK := Lib.hid ok
  have HR := Lib.hid hr
  have HL := Lib.hid hL
  have HNN := Lib.hid hn
  have htlt := blk_lt h1
  have HF := Lib.hid (fun (W : World) (hW : Below w.heap.size w W) (k : VV) => rfind_any (H0.out.kept (Fr.of_below hW []) (by simp)) k hnF)
  clear h1 h2 h3 hRS hbase hfp ok hr hL hn hsv
  go_enter Try.func56, Try.ntmps56
  go_wp2_with fail
  go_loopw [5, 17] (fun v i wr => ∃ (k : Nat) (A2 : Option Addr) (c2 : Nat), k ≤ L.length ∧ i = .int .i64 k ∧ v = .slice A2 (stamped T.S (L.take k)).length c2 ∧ Below w.heap.size w wr ∧ wr.ownsRow B 61 2 (.slice A2 (stamped T.S (L.take k)).length c2) (stamped T.S (L.take k)).length ((stamped T.S (L.take k)).flatMap stEnc) ∧ (∀ g, (Value.slice A2 (stamped T.S (L.take k)).length c2).ownBlock = some g → g ∈ fp ∨ w.heap.size ≤ g)) (fun _ i wr => L.length - (intOf i).toNat)
  case atStart => exact ⟨0, AS, cs, by omega, rfl, rfl, Below.refl _ _, by have := H3.out; rw [HSV.out] at this; exact this, fun g hg => .inl (HSF.out g (by rw [HSV.out]; exact hg))⟩
  case round =>
    obtain ⟨k, A2, c2, hk, rfl, rfl, hB, hO, hV⟩ := hrel
    by_cases hlt : k < L.length
    · obtain ⟨x, hx⟩ : ∃ x, L[k]? = some x := ⟨_, List.getElem?_eq_getElem hlt⟩
      obtain ⟨ad, rfl, hadb, hcell⟩ := (HR.out.below hB).at (flatMap_ne (K := 2) (fun a => rfl) (by omega) hx)
      obtain ⟨x0, x1⟩ := st_at hcell hx
      have hd := stamped_dist HOK.out.dS (L.take k)
      have hlen := (stamped_len T.S (L.take k)).2
      have hlk : (L.take k).length = k := by rw [List.length_take]; omega
      rw [hlk] at hlen
      have hnx := stamped_snoc (S := T.S) hx
      have hsz := hB.size
      have hk' : (k : Int) < (L.length : Int) := by omega
      have hk0 : (0 : Int) ≤ k := by omega
      obtain ⟨nm, kd⟩ := x
      have hll : (ad.add (k * 2)).block < wr.heap.size := by rw [block_add']; omega
      dsimp only at x0 x1
      generalize stamped T.S (L.take k) = N at *
      obtain ⟨r1, r2, r3, r4⟩ := room_wi hlen hlt HNN.out
      obtain ⟨A', c', hv, _, _, hA, hR⟩ := own_reads hO
      obtain ⟨rfl, rfl⟩ : A2 = A' ∧ c2 = c' := by simpa using hv
      have hB' := hB.alloc hsz (.cells #[.string nm, .int .i64 kd] 61)
      have hcall := rwithS_any N (nm, kd) A2 c2 (wr.alloc (.cells #[.string nm, .int .i64 kd] 61)) hd ((hR.below ((Below.refl _ _).alloc (Nat.le_refl _) _)).mono' (by simp)) hA r1 r2 r3 r4
      have HC := Lib.hid hcall
      have HBB := Lib.hid hB'
      have HNX := Lib.hid hnx
      clear hx hcell hlk hd hO hR hv hA hcall hB' hnx hB hlen r1 r2 r3 r4 hV
      go_wp2_with fail
      refine HC.out.mono ?_
      rintro e w8 ⟨v8, rfl, ho8, hb8⟩
      obtain ⟨A8, c8, rfl, _, _, _⟩ := own_form ho8
      have O8 := Lib.hid ho8
      have B8 := Lib.hid (HBB.out.trans (hb8.mono HBB.out.size))
      clear ho8 hb8
      go_wp2_with fail
      go_roundw
      case rel =>
        refine ⟨k + 1, A8, c8, by omega, by go_num, ?_, B8.out, ?_, ?_⟩
        · rw [HNX.out]
        · rw [HNX.out]; exact own_mono O8.out (Nat.le_trans hBw HBB.out.size)
        · intro g hg
          rw [HNX.out] at hg
          exact .inr (Nat.le_trans HBB.out.size (own_base O8.out hg))
      case measure => simp [intOf]; omega
    · obtain rfl : k = L.length := by omega
      have hdN := stamped_dist HOK.out.dS L
      have hmN := (stamped_mem (S := T.S) (L := L)).1
      simp only [List.take_length] at hO hV ⊢
      have HNo := Lib.hid (fun (w' : World) (hb : Below w.heap.size w w') (hno : stampOk T.F (stamped T.S L) L = false) => rstamp_no H0.out hb hno)
      have HYes := Lib.hid (fun (hyes : stampOk T.F (stamped T.S L) L = true) => show doStamp T L = (true, { T with S := stamped T.S L }) by unfold doStamp; rw [if_pos hyes])
      generalize hNN : stamped T.S L = N at *
      have HB := Lib.hid hB
      have HO := Lib.hid hO
      have HV := Lib.hid hV
      have hsz := hB.size
      clear hB hO hdN hmN hV
      go_wp2_with fail
      go_loopw [27] (fun i wr => ∃ (k : Nat), k ≤ L.length ∧ i = .int .i64 k ∧ Below w.heap.size w wr ∧ wr.ownsRow B 61 2 (.slice A2 N.length c2) N.length (N.flatMap stEnc) ∧ Hid (stampOk T.F N (L.take k) = true)) (fun i wr => L.length - (intOf i).toNat)
      case atStart => exact ⟨0, by omega, rfl, HB.out, HO.out, Lib.hid rfl⟩
      case round =>
        obtain ⟨k, hk, rfl, hB, hO, HA⟩ := hrel
        by_cases hlt : k < L.length
        · obtain ⟨x, hx⟩ : ∃ x, L[k]? = some x := ⟨_, List.getElem?_eq_getElem hlt⟩
          have hxm := List.mem_of_getElem? hx
          obtain ⟨ad, rfl, hadb, hcell⟩ := (HR.out.below hB).at (flatMap_ne (K := 2) (fun a => rfl) (by omega) hx)
          obtain ⟨x0, x1⟩ := st_at hcell hx
          have hsz := hB.size
          have hk' : (k : Int) < (L.length : Int) := by omega
          have hk0 : (0 : Int) ≤ k := by omega
          have hll : (ad.add (k * 2)).block < wr.heap.size := by rw [block_add']; omega
          have HT := Lib.hid (show L.take (k + 1) = L.take k ++ [x] by rw [List.take_add_one, hx]; rfl)
          have hno : (∀ i f, findF T.F ⟨3, 0, x.1, 0⟩ = some i → T.F[i]? = some f → allowsB N x.1 f.2.kind = false) → stampOk T.F N L = false := fun h => by
            unfold stampOk
            rw [List.all_eq_false]
            refine ⟨x, hxm, ?_⟩
            cases hf : findF T.F ⟨3, 0, x.1, 0⟩ with
            | none => simp
            | some i =>
              obtain ⟨_, f, hfi, _⟩ := findF_some hf
              simp only [hfi]
              rw [h i f hf hfi]
              simp
          have hyes : (∀ i f, findF T.F ⟨3, 0, x.1, 0⟩ = some i → T.F[i]? = some f → allowsB N x.1 f.2.kind = true) → findF T.F ⟨3, 0, x.1, 0⟩ ≠ none → stampOk T.F N (L.take (k + 1)) = true := fun h hn => by
            rw [HT.out]
            have h1 := HA.out
            unfold stampOk at h1 ⊢
            rw [List.all_append, h1]
            cases hf : findF T.F ⟨3, 0, x.1, 0⟩ with
            | none => exact absurd hf hn
            | some i =>
              obtain ⟨_, f, hfi, _⟩ := findF_some hf
              simp [hf, hfi, h i f hf hfi]
          have HNO := Lib.hid hno
          have HYE := Lib.hid hyes
          obtain ⟨nm, kd⟩ := x
          dsimp only at x0 x1 HNO HYE
          have hB' := hB.alloc hsz (.cells #[.string nm, .int .i64 kd] 61)
          have hf0 := HF.out _ hB' ⟨3, 0, nm, 0⟩
          have hO' := hO.alloc (.cells #[.string nm, .int .i64 kd] 61)
          clear hx hxm hcell hno hyes HT
          unfold vvCells at hf0
          cases hfF : findF T.F ⟨3, 0, nm, 0⟩ with
          | none =>
            have e1 : findI T.F ⟨3, 0, nm, 0⟩ = -1 := by unfold findI; rw [hfF]
            rw [e1] at hf0
            have HF0 := Lib.hid hf0
            have HBB := Lib.hid hB'
            have HNNo := Lib.hid (HNO.out fun i f h => by rw [hfF] at h; cases h)
            clear hf0 hB hO hB' hO'
            go_wp2_with fail
            refine HF0.out.mono ?_
            rintro e w8 ⟨rfl, hb8⟩
            have B8 := Lib.hid (HBB.out.trans (hb8.mono HBB.out.size))
            have bx := below_blk hb8 (heap_alloc_new wr (.cells #[.string nm, .int .i64 kd] 61))
            have y0 := cell_of_blk (i := 0) bx rfl
            have lb := blk_lt bx
            clear bx hb8
            go_wp2_with fail
            go_quiet (fail)
            go_wp2_with fail
            go_ret
            exact HNo.out _ (below_drewN B8.out _) HNNo.out
          | some i =>
            obtain ⟨_, f, hfi, _⟩ := findF_some hfF
            have e1 := findI_some hfF
            rw [e1] at hf0
            obtain ⟨adf, cf, ct1, hab, hfd, _, _⟩ := rtab_elem H0.out hfi
            have hfv : fv = .slice (some adf) T.F.length cf := by have := (cell_of_blk (i := 1) H1.out rfl).symm.trans ct1; simpa using this
            have hil : (i : Int) < (T.F.length : Int) := by have := (List.getElem?_eq_some_iff.1 hfi).1; omega
            have hi0 : (0 : Int) ≤ i := by omega
            have hin : ¬ (i : Int) < 0 := by omega
            have hab' : (adf.add (i * 8)).block < w.heap.size := by rw [block_add']; exact hab
            have hfk := (HOK.out.vOk f (List.mem_of_getElem? hfi)).kind
            have hal : ∀ W : World, W.ownsRow B 61 2 (.slice A2 N.length c2) N.length (N.flatMap stEnc) → Calls Try.prog 70 #[.slice A2 N.length c2, .string nm, .int .i64 f.2.kind] W (RetB (.bool (allowsB N nm f.2.kind)) W) := fun W hO => by
              obtain ⟨A', c', hv, _, _, _, hR⟩ := own_reads hO
              obtain ⟨rfl, rfl⟩ : A2 = A' ∧ c2 = c' := by simpa using hv
              exact allows_any N A2 c2 nm f.2.kind W hR hNl hfk
            have HF0 := Lib.hid hf0
            have HBB := Lib.hid hB'
            have HO' := Lib.hid hO'
            have HFD := Lib.hid hfd
            have HFV := Lib.hid hfv
            have HN1 := Lib.hid (fun h : allowsB N nm f.2.kind = false => HNO.out fun i' f' h1 h2 => by
              rw [hfF] at h1
              cases h1
              rw [hfi] at h2
              cases h2
              exact h)
            have HY1 := Lib.hid (fun h : allowsB N nm f.2.kind = true => HYE.out (fun i' f' h1 h2 => by
              rw [hfF] at h1
              cases h1
              rw [hfi] at h2
              cases h2
              exact h) (by rw [hfF]; exact fun e => by cases e))
            clear hf0 hB hO hB' hO' hfd ct1 hfi hfv
            cases hβ : allowsB N nm f.2.kind
            · rw [hβ] at hal
              have HAl := Lib.hid hal
              clear hal
              go_wp2_with fail
              refine HF0.out.mono ?_
              rintro e w8 ⟨rfl, hb8⟩
              have B8 := Lib.hid (HBB.out.trans (hb8.mono HBB.out.size))
              have BX := Lib.hid (below_blk hb8 (heap_alloc_new wr (.cells #[.string nm, .int .i64 kd] 61)))
              have O8 := Lib.hid (below_own hb8 HO'.out)
              have f4 := (B8.out.cell (p := ⟨(adf.add (i * 8)).block, _, none⟩) hab').trans HFD.out.c4
              have hT8 := below_blk B8.out H1.out
              rw [HFV.out] at hT8
              have T8 := Lib.hid hT8
              have l8 := Nat.lt_of_lt_of_le htlt B8.out.size
              have lf := Nat.lt_of_lt_of_le hab' B8.out.size
              have lb := blk_lt BX.out
              clear hb8 hT8
              go_wp2_with fail
              refine wp_region_noPanic ?_
              refine wp_region_held_drew (S := fun w' => w'.heap[wr.heap.size]? = some (.cells #[.string nm, .int .i64 kd] 61 (0, 0)) ∧ w'.heap[rb]? = some (.cells #[.int .u64 (T.l : Int), .slice (some adf) T.F.length cf, sv] 50 (0, 0)) ∧ w'.cell? ⟨(adf.add (i * 8)).block, (adf.add (i * 8)).off + 4, none⟩ = some (.int .i64 f.2.kind)) (by kernel_rfl) (⟨BX.out, T8.out, f4⟩) (fun hHeld => ?_)
              refine wpAnyH_take (i := 0) (oi := _) (v := .int .i64 (i : Int)) rfl (by kernel_rfl) (by kernel_rfl) (by kernel_rfl) (fun _ _ _ h => h) (Or.inl ⟨by rfl, fun w' hS => (by go_simp)⟩) hHeld ?_
              change wpAnyH _ _ _ _ _ _ _ (Act.put _ (some 36) _) _
              try simp only [Act.put, List.setIfInBounds_toArray, List.set_cons_zero, List.set_cons_succ]
              refine wpAnyH_take (i := 1) (oi := _) (v := .bool false) rfl (by kernel_rfl) (by kernel_rfl) (by kernel_rfl) (fun _ _ _ h => h) (Or.inl ⟨by rfl, fun w' hS => (by go_simp)⟩) hHeld ?_
              change wpAnyH _ _ _ _ _ _ _ (Act.put _ (some 37) _) _
              try simp only [Act.put, List.setIfInBounds_toArray, List.set_cons_zero, List.set_cons_succ]
              refine wpAnyH_take (i := 2) (oi := _) (v := .bool false) rfl (by kernel_rfl) (by kernel_rfl) (by kernel_rfl) (fun _ _ _ h => h) (Or.inl ⟨by rfl, fun w' hS => (by go_simp)⟩) hHeld ?_
              change wpAnyH _ _ _ _ _ _ _ (Act.put _ (some 38) _) _
              try simp only [Act.put, List.setIfInBounds_toArray, List.set_cons_zero, List.set_cons_succ]
              refine wpAnyH_take (i := 3) (oi := _) (v := .slice A2 N.length c2) rfl (by kernel_rfl) (by kernel_rfl) (by kernel_rfl) (fun _ _ _ h => h) (Or.inl ⟨by rfl, fun w' hS => (by go_simp)⟩) hHeld ?_
              change wpAnyH _ _ _ _ _ _ _ (Act.put _ (some 39) _) _
              try simp only [Act.put, List.setIfInBounds_toArray, List.set_cons_zero, List.set_cons_succ]
              refine wpAnyH_take (i := 4) (oi := _) (v := .pointer (some ⟨wr.heap.size, 0, none⟩)) rfl (by kernel_rfl) (by kernel_rfl) (by kernel_rfl) (fun _ _ _ h => h) (Or.inl ⟨by rfl, fun w' hS => (by go_simp)⟩) hHeld ?_
              change wpAnyH _ _ _ _ _ _ _ (Act.put _ (some 40) _) _
              try simp only [Act.put, List.setIfInBounds_toArray, List.set_cons_zero, List.set_cons_succ]
              refine wpAnyH_take (i := 5) (oi := _) (v := .string nm) rfl (by kernel_rfl) (by kernel_rfl) (by kernel_rfl) (fun _ _ _ h => h) (Or.inl ⟨by rfl, fun w' hS => (by obtain ⟨s0, s1, s2⟩ := hS; have q0 := cell_of_blk (i := 0) s0 rfl; go_simp)⟩) hHeld ?_
              change wpAnyH _ _ _ _ _ _ _ (Act.put _ (some 41) _) _
              try simp only [Act.put, List.setIfInBounds_toArray, List.set_cons_zero, List.set_cons_succ]
              refine wpAnyH_take (i := 6) (oi := _) (v := .pointer (some ⟨rb, 0, none⟩)) rfl (by kernel_rfl) (by kernel_rfl) (by kernel_rfl) (fun _ _ _ h => h) (Or.inl ⟨by rfl, fun w' hS => (by go_simp)⟩) hHeld ?_
              change wpAnyH _ _ _ _ _ _ _ (Act.put _ (some 42) _) _
              try simp only [Act.put, List.setIfInBounds_toArray, List.set_cons_zero, List.set_cons_succ]
              refine wpAnyH_take (i := 7) (oi := _) (v := .pointer (some ⟨rb, 0, none⟩)) rfl (by kernel_rfl) (by kernel_rfl) (by kernel_rfl) (fun _ _ _ h => h) (Or.inl ⟨by rfl, fun w' hS => (by go_simp)⟩) hHeld ?_
              change wpAnyH _ _ _ _ _ _ _ (Act.put _ (some 43) _) _
              try simp only [Act.put, List.setIfInBounds_toArray, List.set_cons_zero, List.set_cons_succ]
              refine wpAnyH_take (i := 8) (oi := _) (v := .pointer (some ⟨rb, 1, none⟩)) rfl (by kernel_rfl) (by kernel_rfl) (by kernel_rfl) (fun _ _ _ h => h) (Or.inl ⟨by rfl, fun w' hS => (by go_simp)⟩) hHeld ?_
              change wpAnyH _ _ _ _ _ _ _ (Act.put _ (some 44) _) _
              try simp only [Act.put, List.setIfInBounds_toArray, List.set_cons_zero, List.set_cons_succ]
              refine wpAnyH_take (i := 9) (oi := _) (v := .slice (some adf) T.F.length cf) rfl (by kernel_rfl) (by kernel_rfl) (by kernel_rfl) (fun _ _ _ h => h) (Or.inl ⟨by rfl, fun w' hS => (by obtain ⟨s0, s1, s2⟩ := hS; have q0 := cell_of_blk (i := 1) s1 rfl; go_simp)⟩) hHeld ?_
              change wpAnyH _ _ _ _ _ _ _ (Act.put _ (some 45) _) _
              try simp only [Act.put, List.setIfInBounds_toArray, List.set_cons_zero, List.set_cons_succ]
              refine wpAnyH_take (i := 10) (oi := _) (v := .int .i64 (i : Int)) rfl (by kernel_rfl) (by kernel_rfl) (by kernel_rfl) (fun _ _ _ h => h) (Or.inl ⟨by rfl, fun w' hS => (by go_simp)⟩) hHeld ?_
              change wpAnyH _ _ _ _ _ _ _ (Act.put _ (some 46) _) _
              try simp only [Act.put, List.setIfInBounds_toArray, List.set_cons_zero, List.set_cons_succ]
              refine wpAnyH_take (i := 11) (oi := _) (v := .pointer (some (adf.add (i * 8)))) rfl (by kernel_rfl) (by kernel_rfl) (by kernel_rfl) (fun _ _ _ h => h) (Or.inl ⟨by rfl, fun w' hS => (by go_simp)⟩) hHeld ?_
              change wpAnyH _ _ _ _ _ _ _ (Act.put _ (some 47) _) _
              try simp only [Act.put, List.setIfInBounds_toArray, List.set_cons_zero, List.set_cons_succ]
              refine wpAnyH_take (i := 12) (oi := _) (v := .pointer (some ⟨(adf.add (i * 8)).block, (adf.add (i * 8)).off + 4, none⟩)) rfl (by kernel_rfl) (by kernel_rfl) (by kernel_rfl) (fun _ _ _ h => h) (Or.inl ⟨by rfl, fun w' hS => (by go_simp)⟩) hHeld ?_
              change wpAnyH _ _ _ _ _ _ _ (Act.put _ (some 48) _) _
              try simp only [Act.put, List.setIfInBounds_toArray, List.set_cons_zero, List.set_cons_succ]
              refine wpAnyH_take (i := 13) (oi := _) (v := .pointer (some ⟨(adf.add (i * 8)).block, (adf.add (i * 8)).off + 4, none⟩)) rfl (by kernel_rfl) (by kernel_rfl) (by kernel_rfl) (fun _ _ _ h => h) (Or.inl ⟨by rfl, fun w' hS => (by go_simp)⟩) hHeld ?_
              change wpAnyH _ _ _ _ _ _ _ (Act.put _ (some 49) _) _
              try simp only [Act.put, List.setIfInBounds_toArray, List.set_cons_zero, List.set_cons_succ]
              refine wpAnyH_take (i := 14) (oi := _) (v := .int .i64 f.2.kind) rfl (by kernel_rfl) (by kernel_rfl) (by kernel_rfl) (fun _ _ _ h => h) (Or.inl ⟨by rfl, fun w' hS => (by obtain ⟨s0, s1, s2⟩ := hS; go_simp)⟩) hHeld ?_
              change wpAnyH _ _ _ _ _ _ _ (Act.put _ (some 50) _) _
              try simp only [Act.put, List.setIfInBounds_toArray, List.set_cons_zero, List.set_cons_succ]
              refine wpAnyH_ready (rs := [15]) (by kernel_rfl) (by simp) ?_
              refine AllReadyH.cons (o := _) rfl (fun K hK => ?_) AllReadyH.nil
              go_simp
              refine (HAl.out _ (by exact O8.out)).mono ?_
              rintro e w9 ⟨rfl, hb9⟩
              have B9 := Lib.hid (B8.out.drew.trans (hb9.mono B8.out.size))
              have O9 := Lib.hid (below_own hb9 (own_drew O8.out))
              refine hK.out _ _ ⟨below_blk hb9 (blk_drew BX.out), below_blk hb9 (blk_drew T8.out), (hb9.cell (p := ⟨(adf.add (i * 8)).block, _, none⟩) lf).trans f4⟩ (fun hHeld => ?_)
              clear hK K hb9
              try simp only [Act.put, List.setIfInBounds_toArray, List.set_cons_zero, List.set_cons_succ]
              refine wpAnyH_take (i := 16) (oi := _) (v := .bool true) rfl (by kernel_rfl) (by kernel_rfl) (by kernel_rfl) (fun _ _ _ h => h) (Or.inl ⟨by rfl, fun w' hS => (by go_simp)⟩) hHeld ?_
              change wpAnyH _ _ _ _ _ _ _ (Act.put _ (some 52) _) _
              try simp only [Act.put, List.setIfInBounds_toArray, List.set_cons_zero, List.set_cons_succ]
              refine wpAnyH_take (i := 17) (oi := _) (v := .bool true) rfl (by kernel_rfl) (by kernel_rfl) (by kernel_rfl) (fun _ _ _ h => h) (Or.inl ⟨by rfl, fun w' hS => (by go_simp)⟩) hHeld ?_
              change wpAnyH _ _ _ _ _ _ _ (Act.put _ (some 53) _) _
              try simp only [Act.put, List.setIfInBounds_toArray, List.set_cons_zero, List.set_cons_succ]
              refine wpAnyH_done (by kernel_rfl) ?_ _
              refine NoPanic.normal ?_
              go_wp2_with fail
              go_ret
              exact HNo.out _ B9.out (HN1.out hβ)
            · rw [hβ] at hal
              have HAl := Lib.hid hal
              clear hal
              go_wp2_with fail
              refine HF0.out.mono ?_
              rintro e w8 ⟨rfl, hb8⟩
              have B8 := Lib.hid (HBB.out.trans (hb8.mono HBB.out.size))
              have BX := Lib.hid (below_blk hb8 (heap_alloc_new wr (.cells #[.string nm, .int .i64 kd] 61)))
              have O8 := Lib.hid (below_own hb8 HO'.out)
              have f4 := (B8.out.cell (p := ⟨(adf.add (i * 8)).block, _, none⟩) hab').trans HFD.out.c4
              have hT8 := below_blk B8.out H1.out
              rw [HFV.out] at hT8
              have T8 := Lib.hid hT8
              have l8 := Nat.lt_of_lt_of_le htlt B8.out.size
              have lf := Nat.lt_of_lt_of_le hab' B8.out.size
              have lb := blk_lt BX.out
              clear hb8 hT8
              go_wp2_with fail
              refine wp_region_noPanic ?_
              refine wp_region_held_drew (S := fun w' => w'.heap[wr.heap.size]? = some (.cells #[.string nm, .int .i64 kd] 61 (0, 0)) ∧ w'.heap[rb]? = some (.cells #[.int .u64 (T.l : Int), .slice (some adf) T.F.length cf, sv] 50 (0, 0)) ∧ w'.cell? ⟨(adf.add (i * 8)).block, (adf.add (i * 8)).off + 4, none⟩ = some (.int .i64 f.2.kind)) (by kernel_rfl) (⟨BX.out, T8.out, f4⟩) (fun hHeld => ?_)
              refine wpAnyH_take (i := 0) (oi := _) (v := .int .i64 (i : Int)) rfl (by kernel_rfl) (by kernel_rfl) (by kernel_rfl) (fun _ _ _ h => h) (Or.inl ⟨by rfl, fun w' hS => (by go_simp)⟩) hHeld ?_
              change wpAnyH _ _ _ _ _ _ _ (Act.put _ (some 36) _) _
              try simp only [Act.put, List.setIfInBounds_toArray, List.set_cons_zero, List.set_cons_succ]
              refine wpAnyH_take (i := 1) (oi := _) (v := .bool false) rfl (by kernel_rfl) (by kernel_rfl) (by kernel_rfl) (fun _ _ _ h => h) (Or.inl ⟨by rfl, fun w' hS => (by go_simp)⟩) hHeld ?_
              change wpAnyH _ _ _ _ _ _ _ (Act.put _ (some 37) _) _
              try simp only [Act.put, List.setIfInBounds_toArray, List.set_cons_zero, List.set_cons_succ]
              refine wpAnyH_take (i := 2) (oi := _) (v := .bool false) rfl (by kernel_rfl) (by kernel_rfl) (by kernel_rfl) (fun _ _ _ h => h) (Or.inl ⟨by rfl, fun w' hS => (by go_simp)⟩) hHeld ?_
              change wpAnyH _ _ _ _ _ _ _ (Act.put _ (some 38) _) _
              try simp only [Act.put, List.setIfInBounds_toArray, List.set_cons_zero, List.set_cons_succ]
              refine wpAnyH_take (i := 3) (oi := _) (v := .slice A2 N.length c2) rfl (by kernel_rfl) (by kernel_rfl) (by kernel_rfl) (fun _ _ _ h => h) (Or.inl ⟨by rfl, fun w' hS => (by go_simp)⟩) hHeld ?_
              change wpAnyH _ _ _ _ _ _ _ (Act.put _ (some 39) _) _
              try simp only [Act.put, List.setIfInBounds_toArray, List.set_cons_zero, List.set_cons_succ]
              refine wpAnyH_take (i := 4) (oi := _) (v := .pointer (some ⟨wr.heap.size, 0, none⟩)) rfl (by kernel_rfl) (by kernel_rfl) (by kernel_rfl) (fun _ _ _ h => h) (Or.inl ⟨by rfl, fun w' hS => (by go_simp)⟩) hHeld ?_
              change wpAnyH _ _ _ _ _ _ _ (Act.put _ (some 40) _) _
              try simp only [Act.put, List.setIfInBounds_toArray, List.set_cons_zero, List.set_cons_succ]
              refine wpAnyH_take (i := 5) (oi := _) (v := .string nm) rfl (by kernel_rfl) (by kernel_rfl) (by kernel_rfl) (fun _ _ _ h => h) (Or.inl ⟨by rfl, fun w' hS => (by obtain ⟨s0, s1, s2⟩ := hS; have q0 := cell_of_blk (i := 0) s0 rfl; go_simp)⟩) hHeld ?_
              change wpAnyH _ _ _ _ _ _ _ (Act.put _ (some 41) _) _
              try simp only [Act.put, List.setIfInBounds_toArray, List.set_cons_zero, List.set_cons_succ]
              refine wpAnyH_take (i := 6) (oi := _) (v := .pointer (some ⟨rb, 0, none⟩)) rfl (by kernel_rfl) (by kernel_rfl) (by kernel_rfl) (fun _ _ _ h => h) (Or.inl ⟨by rfl, fun w' hS => (by go_simp)⟩) hHeld ?_
              change wpAnyH _ _ _ _ _ _ _ (Act.put _ (some 42) _) _
              try simp only [Act.put, List.setIfInBounds_toArray, List.set_cons_zero, List.set_cons_succ]
              refine wpAnyH_take (i := 7) (oi := _) (v := .pointer (some ⟨rb, 0, none⟩)) rfl (by kernel_rfl) (by kernel_rfl) (by kernel_rfl) (fun _ _ _ h => h) (Or.inl ⟨by rfl, fun w' hS => (by go_simp)⟩) hHeld ?_
              change wpAnyH _ _ _ _ _ _ _ (Act.put _ (some 43) _) _
              try simp only [Act.put, List.setIfInBounds_toArray, List.set_cons_zero, List.set_cons_succ]
              refine wpAnyH_take (i := 8) (oi := _) (v := .pointer (some ⟨rb, 1, none⟩)) rfl (by kernel_rfl) (by kernel_rfl) (by kernel_rfl) (fun _ _ _ h => h) (Or.inl ⟨by rfl, fun w' hS => (by go_simp)⟩) hHeld ?_
              change wpAnyH _ _ _ _ _ _ _ (Act.put _ (some 44) _) _
              try simp only [Act.put, List.setIfInBounds_toArray, List.set_cons_zero, List.set_cons_succ]
              refine wpAnyH_take (i := 9) (oi := _) (v := .slice (some adf) T.F.length cf) rfl (by kernel_rfl) (by kernel_rfl) (by kernel_rfl) (fun _ _ _ h => h) (Or.inl ⟨by rfl, fun w' hS => (by obtain ⟨s0, s1, s2⟩ := hS; have q0 := cell_of_blk (i := 1) s1 rfl; go_simp)⟩) hHeld ?_
              change wpAnyH _ _ _ _ _ _ _ (Act.put _ (some 45) _) _
              try simp only [Act.put, List.setIfInBounds_toArray, List.set_cons_zero, List.set_cons_succ]
              refine wpAnyH_take (i := 10) (oi := _) (v := .int .i64 (i : Int)) rfl (by kernel_rfl) (by kernel_rfl) (by kernel_rfl) (fun _ _ _ h => h) (Or.inl ⟨by rfl, fun w' hS => (by go_simp)⟩) hHeld ?_
              change wpAnyH _ _ _ _ _ _ _ (Act.put _ (some 46) _) _
              try simp only [Act.put, List.setIfInBounds_toArray, List.set_cons_zero, List.set_cons_succ]
              refine wpAnyH_take (i := 11) (oi := _) (v := .pointer (some (adf.add (i * 8)))) rfl (by kernel_rfl) (by kernel_rfl) (by kernel_rfl) (fun _ _ _ h => h) (Or.inl ⟨by rfl, fun w' hS => (by go_simp)⟩) hHeld ?_
              change wpAnyH _ _ _ _ _ _ _ (Act.put _ (some 47) _) _
              try simp only [Act.put, List.setIfInBounds_toArray, List.set_cons_zero, List.set_cons_succ]
              refine wpAnyH_take (i := 12) (oi := _) (v := .pointer (some ⟨(adf.add (i * 8)).block, (adf.add (i * 8)).off + 4, none⟩)) rfl (by kernel_rfl) (by kernel_rfl) (by kernel_rfl) (fun _ _ _ h => h) (Or.inl ⟨by rfl, fun w' hS => (by go_simp)⟩) hHeld ?_
              change wpAnyH _ _ _ _ _ _ _ (Act.put _ (some 48) _) _
              try simp only [Act.put, List.setIfInBounds_toArray, List.set_cons_zero, List.set_cons_succ]
              refine wpAnyH_take (i := 13) (oi := _) (v := .pointer (some ⟨(adf.add (i * 8)).block, (adf.add (i * 8)).off + 4, none⟩)) rfl (by kernel_rfl) (by kernel_rfl) (by kernel_rfl) (fun _ _ _ h => h) (Or.inl ⟨by rfl, fun w' hS => (by go_simp)⟩) hHeld ?_
              change wpAnyH _ _ _ _ _ _ _ (Act.put _ (some 49) _) _
              try simp only [Act.put, List.setIfInBounds_toArray, List.set_cons_zero, List.set_cons_succ]
              refine wpAnyH_take (i := 14) (oi := _) (v := .int .i64 f.2.kind) rfl (by kernel_rfl) (by kernel_rfl) (by kernel_rfl) (fun _ _ _ h => h) (Or.inl ⟨by rfl, fun w' hS => (by obtain ⟨s0, s1, s2⟩ := hS; go_simp)⟩) hHeld ?_
              change wpAnyH _ _ _ _ _ _ _ (Act.put _ (some 50) _) _
              try simp only [Act.put, List.setIfInBounds_toArray, List.set_cons_zero, List.set_cons_succ]
              refine wpAnyH_ready (rs := [15]) (by kernel_rfl) (by simp) ?_
              refine AllReadyH.cons (o := _) rfl (fun K hK => ?_) AllReadyH.nil
              go_simp
              refine (HAl.out _ (by exact O8.out)).mono ?_
              rintro e w9 ⟨rfl, hb9⟩
              have B9 := Lib.hid (B8.out.drew.trans (hb9.mono B8.out.size))
              have O9 := Lib.hid (below_own hb9 (own_drew O8.out))
              refine hK.out _ _ ⟨below_blk hb9 (blk_drew BX.out), below_blk hb9 (blk_drew T8.out), (hb9.cell (p := ⟨(adf.add (i * 8)).block, _, none⟩) lf).trans f4⟩ (fun hHeld => ?_)
              clear hK K hb9
              try simp only [Act.put, List.setIfInBounds_toArray, List.set_cons_zero, List.set_cons_succ]
              refine wpAnyH_take (i := 16) (oi := _) (v := .bool false) rfl (by kernel_rfl) (by kernel_rfl) (by kernel_rfl) (fun _ _ _ h => h) (Or.inl ⟨by rfl, fun w' hS => (by go_simp)⟩) hHeld ?_
              change wpAnyH _ _ _ _ _ _ _ (Act.put _ (some 52) _) _
              try simp only [Act.put, List.setIfInBounds_toArray, List.set_cons_zero, List.set_cons_succ]
              refine wpAnyH_take (i := 17) (oi := _) (v := .bool false) rfl (by kernel_rfl) (by kernel_rfl) (by kernel_rfl) (fun _ _ _ h => h) (Or.inl ⟨by rfl, fun w' hS => (by go_simp)⟩) hHeld ?_
              change wpAnyH _ _ _ _ _ _ _ (Act.put _ (some 53) _) _
              try simp only [Act.put, List.setIfInBounds_toArray, List.set_cons_zero, List.set_cons_succ]
              refine wpAnyH_done (by kernel_rfl) ?_ _
              refine NoPanic.normal ?_
              go_wp2_with fail
              go_roundw
              case rel => exact ⟨k + 1, by omega, by go_num, B9.out, O9.out, Lib.hid (HY1.out hβ)⟩
              case measure => simp [intOf]; omega
        · obtain rfl : k = L.length := by omega
          have hA := HA.out
          rw [List.take_length] at hA
          have HB8 := Lib.hid hB
          have HO8 := Lib.hid hO
          have ht := below_blk hB H1.out
          have t3 := cell_of_blk (i := 2) ht rfl
          have z3 := free_of_blk (i := 2) ht
          have lt := blk_lt ht
          have HD := Lib.hid (HYes.out hA)
          clear hB hO ht hA
          go_wp2_with fail
          go_ret
          unfold RStampOut
          rw [HD.out]
          exact ⟨rfl, rtab_stamp H0.out HB8.out HO8.out HV.out⟩
end Go.Proofs.Ythhphjfbdoffhaa
