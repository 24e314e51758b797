/-
 HeapApart: part 14 of what the claim rests on.
-/
import Derived.Test.YtilcofpceadpbaaGreatDoorA10
import Derived.Test.YtilcofpceadpbaaGreatDoorA12
import Derived.Test.YtilcofpceadpbaaGreatDoorA13
import Derived.Maps.AppendAt
import Derived.Deep.CutBlock
import Derived.Deep.DeepCutAuto
set_option linter.unusedVariables false
set_option linter.unusedSimpArgs false
set_option maxHeartbeats 64000000
namespace Go.Proofs.YtilcofpceadpbaaGreatDoor
open Go.ChangeShapes Go.WideShapes Go.ChangeAt Go.RowKit Go.Maps

theorem put_nokey {w : World} {B tb : Nat} {T : TabS} {fp : List Nat} (h : TabIn w B tb T fp) {ctx : Nat} {k v : VV} (hik : isKey k = false) :
  Calls Tryz.prog 47 #[.pointer (some ⟨tb, 0, none⟩), .int .u64 (ctx : Int), .agg (vvCells k), .agg (vvCells v)] w fun e w' => e = .returned (.int .i64 41) ∧ TabTo w B tb T fp w' := by
 obtain ⟨a, b, c, hk⟩ := keyof_form k
 rw [hik] at hk
 have H := Lib.hid h
 have HB0 := Lib.hid ((((Below.refl w.heap.size w).alloc (Nat.le_refl _) (.cells (vvCells k) 26)).alloc (by simp) (.cells (vvCells v) 26)))
 unfold vvCells at hk HB0 ⊢
 have HK := Lib.hid hk
 clear hk h
 go_enter Tryz.func47, Tryz.ntmps47
 go_wp2_with fail
 refine (HK.out _).mono ?_
 rintro e w1 ⟨rfl, hb1⟩
 have HB := Lib.hid (HB0.out.trans (hb1.mono (by simp; omega)))
 clear hb1
 go_wp2
 go_ret
 exact ⟨rfl, TabTo.same H.out (HB.out.alloc HB.out.size _)⟩
theorem withV_ok {v : VV} (h : VOk v) {l : Nat} (hl : l < 18446744073709551616) : VOk (withV v l) := ⟨h.kind, h.n, h.s, Nat.or_lt_two_pow (n := 64) h.label hl⟩
theorem findI_some {F : List Fd} {k : VV} {i : Nat} (h : findF F k = some i) : findI F k = (i : Int) := by
 unfold findI
 rw [h]
theorem findI_none {F : List Fd} {k : VV} (h : findF F k = none) : findI F k = -1 := by
 unfold findI
 rw [h]
theorem tput_any {w : World} {B tb : Nat} {T : TabS} {fp : List Nat} (h : TabIn w B tb T fp) (ok : TabOk T) {ctx : Nat} {k v : VV} (hc : ctx < 18446744073709551616) (kk : VOk k) (kv : VOk v) (hb : (T.F.length + 1) * 80 ≤ 140737488355328) :
  Calls Tryz.prog 47 #[.pointer (some ⟨tb, 0, none⟩), .int .u64 (ctx : Int), .agg (vvCells k), .agg (vvCells v)] w fun e w' => e = .returned (.int .i64 (doPut T ctx k v).1) ∧ TabTo w B tb (doPut T ctx k v).2 fp w' := by
 unfold doPut
 cases hik : isKey k
 ·simpa using put_nokey h hik
 ·cases hst : (decide (k.kind = 3) && !allowsB T.S k.s v.kind)
  ·simp only [Bool.true_eq_false, Bool.false_eq_true, if_false]
   cases hf : findF T.F k with
   | some i =>
    obtain ⟨_, f, hfi, _⟩ := findF_some hf
    simp only [hfi]
    cases hfl : flowsB (ctx ||| k.label) f.2.label
    ·simpa using put_no h ok hc kk kv hik hfi (findI_some hf) hfl hst
    ·simpa using put_set h ok hc kk kv hik hfi (findI_some hf) hfl hst
   | none =>
    simp only
    cases hfl : flowsB (ctx ||| k.label) T.l
    ·simpa using put_appno h ok hc kk kv hik (findI_none hf) hfl hb hst
    ·simpa using put_app h ok hc kk kv hik (findI_none hf) hfl hb hst
  ·simpa using put_bad h ok hc kk kv hik hst
theorem fit_of_allows {S : List St} {nm : ByteArray} {k : Int} (h : allowsB S nm k = true) {s : St} (hs : s ∈ S) (he : s.1 = nm) : fitsB s.2 k = true := by
 unfold allowsB at h
 rw [List.all_eq_true] at h
 simpa [he] using h s hs
theorem doPut_ok {T : TabS} (ok : TabOk T) {ctx : Nat} {k v : VV} (hc : ctx < 18446744073709551616) (kk : VOk k) (kv : VOk v) : TabOk (doPut T ctx k v).2 := by
 have hj : ctx ||| k.label < 18446744073709551616 := Nat.or_lt_two_pow (n := 64) hc kk.label
 unfold doPut
 cases hik : isKey k
 ·simpa using ok
 ·cases hst : (decide (k.kind = 3) && !allowsB T.S k.s v.kind)
  ·simp only [Bool.true_eq_false, Bool.false_eq_true, if_false]
   cases hf : findF T.F k with
   | some i =>
    obtain ⟨_, f, hfi, hsame⟩ := findF_some hf
    simp only [hfi]
    have hfm := List.mem_of_getElem? hfi
    cases hfl : flowsB (ctx ||| k.label) f.2.label
    ·simpa using ok
    ·simp only [if_true]
     have hmem : ∀ g ∈ T.F.set i (f.1, withV v (ctx ||| k.label)), g ∈ T.F ∨ g = (f.1, withV v (ctx ||| k.label)) := fun g hg => List.mem_or_eq_of_mem_set hg
     refine ⟨ok.l, fun g hg => ?_, fun g hg => ?_, fun g hg => ?_, fun g hg => ?_, ok.sOk, ?_, ok.dS, fun s hs => ?_⟩
     ·rcases hmem g hg with h | rfl
      ·exact ok.key g h
      ·exact ok.key f hfm
     ·rcases hmem g hg with h | rfl
      ·exact ok.bare g h
      ·exact ok.bare f hfm
     ·rcases hmem g hg with h | rfl
      ·exact ok.kOk g h
      ·exact ok.kOk f hfm
     ·rcases hmem g hg with h | rfl
      ·exact ok.vOk g h
      ·exact withV_ok kv hj
     ·have hd := ok.dF
      rw [List.pairwise_iff_getElem] at hd ⊢
      have hil := (List.getElem?_eq_some_iff.1 hfi)
      obtain ⟨hil, hie⟩ := hil
      have key : ∀ (j : Nat) (hj : j < (T.F.set i (f.1, withV v (ctx ||| k.label))).length) (hj' : j < T.F.length), ((T.F.set i (f.1, withV v (ctx ||| k.label)))[j]).1 = (T.F[j]).1 := by
       intro j hj hj'
       rw [List.getElem_set]
       split
       ·rename_i e
        subst e
        rw [hie]
       ·rfl
      intro a b ha hb' hab
      rw [key a ha (by simpa using ha), key b hb' (by simpa using hb')]
      exact hd a b (by simpa using ha) (by simpa using hb') hab
     ·obtain ⟨g, hg, h1, h2, h3⟩ := ok.st s hs
      obtain ⟨j, hj⟩ := List.getElem?_of_mem hg
      by_cases e : i = j
      ·subst e
       rw [hfi] at hj
       cases hj
       have hks := (sameV_iff _ _).1 hsame
       refine ⟨(f.1, withV v (ctx ||| k.label)), List.mem_of_getElem? (i := i) (by rw [List.getElem?_set_self (List.getElem?_eq_some_iff.1 hfi).1]), h1, h2, ?_⟩
       have hk3 : k.kind = 3 := hks.1.symm.trans h1
       have hal : allowsB T.S k.s v.kind = true := by simpa [hk3] using hst
       exact fit_of_allows hal hs (h2.symm.trans hks.2.2)
      ·exact ⟨g, List.mem_of_getElem? (i := j) (by rw [List.getElem?_set_ne e]; exact hj), h1, h2, h3⟩
   | none =>
    simp only
    cases hfl : flowsB (ctx ||| k.label) T.l
    ·simpa using ok
    ·simp only [if_true]
     have hno := findF_none hf hik
     have hmem : ∀ g ∈ T.F ++ [(bareV k, withV v (ctx ||| k.label))], g ∈ T.F ∨ g = (bareV k, withV v (ctx ||| k.label)) := fun g hg => by simpa using hg
     refine ⟨ok.l, fun g hg => ?_, fun g hg => ?_, fun g hg => ?_, fun g hg => ?_, ok.sOk, ?_, ok.dS, fun s hs => ?_⟩
     ·rcases hmem g hg with h | rfl
      ·exact ok.key g h
      ·exact hik
     ·rcases hmem g hg with h | rfl
      ·exact ok.bare g h
      ·rfl
     ·rcases hmem g hg with h | rfl
      ·exact ok.kOk g h
      ·exact ⟨kk.kind, kk.n, kk.s, by show (0 : Nat) < _; decide⟩
     ·rcases hmem g hg with h | rfl
      ·exact ok.vOk g h
      ·exact withV_ok kv hj
     ·rw [List.pairwise_append]
      refine ⟨ok.dF, List.pairwise_singleton _ _, fun a ha b hb => ?_⟩
      rw [List.mem_singleton.1 hb]
      exact hno a ha
     ·obtain ⟨g, hg, h1⟩ := ok.st s hs
      exact ⟨g, List.mem_append_left _ hg, h1⟩
  ·simpa using ok
theorem doPut_len (T : TabS) (ctx : Nat) (k v : VV) : (doPut T ctx k v).2.F.length ≤ T.F.length + 1 ∧ (doPut T ctx k v).2.S = T.S ∧ (doPut T ctx k v).2.l = T.l := by
 unfold doPut
 split
 ·simp
 ·split
  ·simp
  ·split
   ·split
    ·split <;> simp
    ·simp
   ·split <;> simp

theorem own_mono {w : World} {base base' : Nat} {e : TypeId} {K n : Nat} {v : Value} {xs : List Value} (ho : w.ownsRow base e K v n xs) (h : base' ≤ base) : w.ownsRow base' e K v n xs :=
 ⟨ho.1, ho.2.imp id fun ⟨g, cap, cur, hv, hg, r⟩ => ⟨g, cap, cur, hv, Nat.le_trans h hg, r⟩⟩
theorem tab_stamp {w w5 : World} {B tb : Nat} {T : TabS} {N : List St} {fp : List Nat} (h : TabIn w B tb T fp) (hb : Below w.heap.size w w5) {v : Value} {nb2 m2 : Nat} {E2 : DataW Unit}
  (hown : w5.ownsRow w.heap.size 135 2 v N.length (N.flatMap stEnc)) (hmap : w5.ownsMap Tryz.prog 9 (plainElem Tryz.prog 3) nb2 m2 E2) (hnb : w.heap.size ≤ nb2) (hm2 : m2 ≤ N.length) (hN : NamIs E2 N) :
  TabTo w B tb { T with S := N } fp ((w5.setCell ⟨tb, 3, none⟩ v).setCell ⟨tb, 4, none⟩ (.map (some nb2))) := by
 obtain ⟨⟨fv, sv, mb, nb, n, m, D, E, hfp, h1, h2, h3, h4, h5, hne, hnl, hml, hI, _⟩, hbase⟩ := h
 have hF : Fr [tb] w ((w5.setCell ⟨tb, 3, none⟩ v).setCell ⟨tb, 4, none⟩ (.map (some nb2))) := ((Fr.of_below hb _).set _ (.inl (by simp))).set _ (.inl (by simp))
 have htb := blk_lt h1
 have hT := below_blk hb h1
 have hmb := h4.lt
 have htf : tb ∈ fp := by rw [hfp]; simp
 have hfv : ∀ g, fv.ownBlock = some g → g ∉ [tb] := by
  intro g hg hm
  exact own_blk_ne h2 h1 (by decide) (by rw [hg, List.mem_singleton.1 hm])
 have hvb : ∀ g, v.ownBlock = some g → w.heap.size ≤ g ∧ g < w5.heap.size := by
  intro g hg
  rcases hown.2 with ⟨rfl, _⟩ | ⟨g', cap, cur, rfl, hgb, hh, _⟩
  ·simp [Value.ownBlock] at hg
  ·obtain rfl : g' = g := by simpa [Value.ownBlock] using hg
   exact ⟨hgb, blk_lt hh⟩
 have hBw : B ≤ w.heap.size := by have := hbase tb htf; omega
 have hown' : w5.ownsRow B 135 2 v N.length (N.flatMap stEnc) := own_mono hown hBw
 have hnbl := hmap.lt
 refine ⟨tb :: mb :: nb2 :: (fv.ownBlock.toList ++ v.ownBlock.toList), ⟨⟨fv, v, mb, nb2, n, m2, D, E2, rfl, blk_set (i := 4) (blk_set (i := 3) hT v) _, hF.own h2 hfv, ?_, hF.map h4 (by simpa using map_ne h4 h1), (hmap.setCell (map_ne hmap hT) _).setCell (by have := map_ne hmap hT; exact this) _, by omega, hnl, hm2, hI, hN⟩, ?_⟩, hF.more (by simpa using .inl htf), ?_⟩
 ·exact own_set_far (own_set_far hown' hT (by decide) _) (blk_set (i := 3) hT v) (by decide) _
 ·intro b hbm
  simp [World.setCell]
  simp at hbm
  have hs := hb.size
  rcases hbm with rfl | rfl | rfl | h | h
  ·have := hbase b htf; omega
  ·have := hbase b (by rw [hfp]; simp); omega
  ·omega
  ·have := hbase b (by rw [hfp]; simp [h]); omega
  ·have := hvb b h; omega
 ·intro b hbm
  simp at hbm
  rcases hbm with rfl | rfl | rfl | h | h
  ·exact .inl htf
  ·exact .inl (by rw [hfp]; simp)
  ·exact .inr hnb
  ·exact .inl (by rw [hfp]; simp [h])
  ·exact .inr (hvb b h).1
theorem own_base {w : World} {base g : Nat} {e : TypeId} {K n : Nat} {v : Value} {xs : List Value} (h : w.ownsRow base e K v n xs) (hg : v.ownBlock = some g) : base ≤ g := by
 rcases h.2 with ⟨rfl, _⟩ | ⟨g', cap, cur, rfl, hb, _⟩
 ·simp [Value.ownBlock] at hg
 ·obtain rfl : g' = g := by simpa [Value.ownBlock] using hg
  exact hb
theorem unhid {p : Prop} (h : Hid p) : p := h.out
theorem st_elem {w : World} {base : Nat} {N : List St} {v : Value} (ho : w.ownsRow base 135 2 v N.length (N.flatMap stEnc)) {i : Nat} {a : St} (hi : N[i]? = some a) :
  ∃ ad c, v = .slice (some ad) N.length c ∧ base ≤ ad.block ∧ ad.block < w.heap.size ∧ StAt w (ad.add (i * 2)) a ∧ (∃ cur, w.heap[ad.block]? = some (.cells cur 135 (0, 0))) ∧ (∀ W : World, W.ownsRow base 135 2 v N.length (N.flatMap stEnc) → W.frozen? ⟨(ad.add (i * 2)).block, (ad.add (i * 2)).off + 1, none⟩ = false ∧ ∀ kd, (W.setCell ⟨(ad.add (i * 2)).block, (ad.add (i * 2)).off + 1, none⟩ (.int .i64 kd)).ownsRow base 135 2 v (N.set i (a.1, kd)).length ((N.set i (a.1, kd)).flatMap stEnc)) := by
 obtain ⟨A, c, rfl, _, _, hff⟩ := own_form ho
 obtain ⟨gb, rfl, hbg, hgl, hcur, hcell⟩ := hff (by have := (List.getElem?_eq_some_iff.1 hi).1; omega)
 refine ⟨⟨gb, 0, none⟩, c, rfl, hbg, hgl, st_at (fun j u hu => by rw [ad_add]; exact hcell j u hu) hi, hcur, fun W hW => ?_⟩
 rw [ad_add]
 refine ⟨World.ownsRow.frozenAt hW _, fun kd => ?_⟩
 have := (World.ownsRow.stored hW (i * 2 + 1) (.int .i64 kd)).1
 rw [flat_set1 hi] at this
 simpa using this
theorem i64_3 : I64 3 := by unfold I64; omega
theorem i64_0 : I64 0 := by unfold I64; omega
theorem room_ar {n a k L : Nat} (h1 : n ≤ a + k) (h2 : k < L) (h3 : (a + L + 1) * 24 ≤ 140737488351232) : n + 1 ≤ maxLen ∧ (n + 1) * 24 ≤ 140737488355328 ∧ n < maxLen ∧ (Lit.int .i64 (n : Int)).wf = true := by
 have h4 : n + 1 ≤ a + L + 1 := by omega
 have h5 : (n + 1) * 24 ≤ 140737488351232 := Nat.le_trans (Nat.mul_le_mul_right 24 h4) h3
 have h6 : n + 1 ≤ 9223372036854775807 := Nat.le_trans (Nat.le_mul_of_pos_right _ (by decide)) (Nat.le_trans h5 (by decide))
 exact ⟨h6, Nat.le_trans h5 (by decide), h6, WalkArith.wf_i64 (by omega)⟩
theorem tab_name_key {nm : ByteArray} (hs : nm.size ≤ maxLen) : keyOf Tryz.prog 9 (.string nm) = some (.string nm.data.toList) := by
 rw [keyOf_string Tryz.underlying9]
 simp [mapKey, Tryz.underlying9, hs]
theorem look_name2 {w : World} {nb m : Nat} {E : DataW Unit} {S : List St} (h : w.ownsMap Tryz.prog 9 (plainElem Tryz.prog 3) nb m E) (hN : NamIs E S) (nm : ByteArray) (hs : nm.size ≤ maxLen) :
  (∃ c : Int, (∀ a ∈ S, a.1.toList ≠ nm.toList) ∧ ∀ W : World, W.heap[nb]? = w.heap[nb]? → (Instr.lookup 115 (.map (some nb)) (.string nm) true).run Tryz.prog W = .ok (.tuple #[.int .i64 c, .bool false]) W) ∨
  (∃ (i : Nat) (a : St), S[i]? = some a ∧ a.1 = nm ∧ ∀ W : World, W.heap[nb]? = w.heap[nb]? → (Instr.lookup 115 (.map (some nb)) (.string nm) true).run Tryz.prog W = .ok (.tuple #[.int .i64 (i : Int), .bool true]) W) := by
 obtain ⟨c, hc, hl⟩ := look_int h lawTS Tryz.underlying115 (tab_name_key hs)
 by_cases hex : ∃ a ∈ S, a.1 = nm
 ·obtain ⟨a, ha, rfl⟩ := hex
  obtain ⟨i, hi⟩ := List.getElem?_of_mem ha
  obtain ⟨h1, h2⟩ := hN.at_ i a hi
  have e : c = (i : Int) := by simpa using hc.symm.trans h2
  refine .inr ⟨i, a, hi, rfl, fun W hW => ?_⟩
  rw [hl W hW, h1, e]
 ·have hno := hN.no_ (.string nm.data.toList) fun s hsm he => hex ⟨s, hsm, by
   have : s.1.data.toList = nm.data.toList := by simpa using he
   exact bytes_eq (by rw [ByteArray.toList_eq, ByteArray.toList_eq, this])⟩
  refine .inl ⟨c, fun a ha e => hex ⟨a, ha, bytes_eq e⟩, fun W hW => ?_⟩
  rw [hl W hW, hno]
theorem look_name1 {w : World} {nb m : Nat} {E : DataW Unit} {S : List St} (h : w.ownsMap Tryz.prog 9 (plainElem Tryz.prog 3) nb m E) (hN : NamIs E S) {i : Nat} {a : St} (hi : S[i]? = some a) (hs : a.1.size ≤ maxLen) :
  ∀ W : World, W.heap[nb]? = w.heap[nb]? → (Instr.lookup 115 (.map (some nb)) (.string a.1) false).run Tryz.prog W = .ok (.int .i64 (i : Int)) W := fun W hW => by
 have h' : W.ownsMap Tryz.prog 9 (plainElem Tryz.prog 3) nb m E := by
  obtain ⟨es, clock, hb, r⟩ := h
  exact ⟨es, clock, hW.trans hb, r⟩
 obtain ⟨c, hrun, hat, _⟩ := h'.lookup_int lawTS Tryz.underlying115 Tryz.underlying3 (Tryz.zeroValue3 W) (tab_name_key hs)
 have := hat.symm.trans (hN.at_ i a hi).2
 rw [hrun]
 simp at this
 rw [this]
theorem dist_take {S : List St} (hd : Dist S) {k : Nat} {x : St} (hx : S[k]? = some x) : ∀ a ∈ S.take k, a.1.toList ≠ x.1.toList := by
 intro a ha e
 obtain ⟨j, hj⟩ := List.getElem?_of_mem ha
 rw [List.getElem?_take] at hj
 split at hj
 ·have := dist_uniq hd hj hx e
  omega
 ·cases hj
def StampOut (w : World) (B tb : Nat) (T : TabS) (L : List St) (fp : List Nat) (e : Ending) (w' : World) : Prop := e = .returned (.bool (doStamp T L).1) ∧ TabTo w B tb (doStamp T L).2 fp w'
theorem stamp_no {w w' : World} {B tb : Nat} {T : TabS} {L : List St} {fp : List Nat} (h : TabIn w B tb T fp) (hb : Below w.heap.size w w') (hno : stampOk T.F (stamped T.S L) L = false) : StampOut w B tb T L fp (.returned (.bool false)) w' := by
 unfold StampOut doStamp
 rw [hno]
 exact ⟨rfl, TabTo.same h hb⟩
set_option maxRecDepth 100000 in
theorem tstamp_any {w : World} {B tb : Nat} {T : TabS} {fp : List Nat} (h : TabIn w B tb T fp) (ok : TabOk T) (L : List St) (A : Option Addr) (c : Nat) (hr : Reads w w.heap.size A (L.flatMap stEnc)) (hL : ∀ s ∈ L, s.1.size ≤ maxLen ∧ I64 s.2) (hn : (T.S.length + L.length + 1) * 24 ≤ 140737488351232) :
  Calls Tryz.prog 49 #[.pointer (some ⟨tb, 0, none⟩), .slice A L.length c] w (StampOut w B tb T L fp) := by
 have hmm := @run_makeMap Tryz.prog
 obtain ⟨i0, hi, hz0, hz1, hz2⟩ := info_parts infoSt
 have H0 := Lib.hid h
 obtain ⟨⟨fv, sv, mb, nb, n, m, D, E, hfp, h1, h2, h3, h4, h5, hne, hnl, hml, hI, hN⟩, hbase⟩ := h
 obtain ⟨AS, cs, rfl, hcs1, hcs2, hAS, hRS⟩ := own_reads h3
 have t2 := cell_of_blk (i := 2) h1 rfl
 have t3 := cell_of_blk (i := 3) h1 rfl
 have hclone := clone_stamps AS T.S.length cs (T.S.flatMap stEnc) w hRS (stEnc_lenAll _) (stEnc_one _) hAS (by omega)
 have heqm := fun W : World => run_eql_map_nil (P := Tryz.prog) W 114 _ _ (some mb) Tryz.underlying114
 have HC := Lib.hid hclone
 have H1 := Lib.hid h1
 have H2 := Lib.hid h2
 have HOK := Lib.hid ok
 have HR := Lib.hid hr
 have HL := Lib.hid hL
 have htlt := blk_lt h1
 have HF := Lib.hid (fun (W : World) (hW : Below w.heap.size w W) (k : VV) (kk : VOk k) => find_is (H0.out.kept (Fr.of_below hW []) (by simp)) ok kk)
 clear h1 h2 h3 h4 h5 hRS hI hN hclone hbase hfp ok hr hL
 go_enter Tryz.func49, Tryz.ntmps49
 go_wp2_with fail
 refine HC.out.mono ?_
 rintro e w1 ⟨v1, rfl, ho1, hb1⟩
 obtain ⟨A1, c1, rfl, hc11, hc12, hA1, hR1⟩ := own_reads ho1
 have O1 := Lib.hid ho1
 have B1 := Lib.hid hb1
 have hs1 := hb1.size
 clear ho1 hR1 hb1 t2 t3
 go_wp2_with fail
 have hnb : w.heap.size ≤ w1.heap.size := hs1
 go_loopw [33] (fun i wr => ∃ (k : Nat) (D1 : DataW Unit), k ≤ T.S.length ∧ i = .int .i64 k ∧ Below w.heap.size w wr ∧ wr.ownsRow w.heap.size 135 2 (.slice A1 T.S.length c1) T.S.length (T.S.flatMap stEnc) ∧ wr.ownsMap Tryz.prog 9 (plainElem Tryz.prog 3) w1.heap.size k D1 ∧ Hid (NamIs D1 (T.S.take k))) (fun i wr => T.S.length - (intOf i).toNat)
 case atStart => exact ⟨0, .map [], by omega, rfl, B1.out.alloc hs1 _, O1.out.alloc _, World.ownsMap_made w1 _ _ _, Lib.hid nam_nil⟩
 case round =>
  obtain ⟨k, D1, hk, rfl, hB, hO, hM, HN⟩ := hrel
  by_cases hlt : k < T.S.length
  ·obtain ⟨x, hx⟩ : ∃ x, T.S[k]? = some x := ⟨_, List.getElem?_eq_getElem hlt⟩
   have hxm := List.mem_of_getElem? hx
   have hxs := (HOK.out.sOk x hxm).1
   obtain ⟨ad, c', hv, _, hadl, hcell⟩ := own_elem hO stEnc_len (by omega) hx
   obtain ⟨rfl, rfl⟩ : A1 = some ad ∧ c1 = c' := by simpa using hv
   obtain ⟨x0, x1⟩ := st_at hcell hx
   have HN2 := Lib.hid (show NamIs (D1.put (.string x.1.data.toList) (.lit (.int .i64 k))) (T.S.take (k + 1)) by
    have h1 := nam_app HN.out hM.isMap (s := x) (dist_take HOK.out.dS hx)
    have h2 : (T.S.take k).length = k := by rw [List.length_take]; omega
    rw [h2] at h1
    rw [List.take_add_one, hx]
    exact h1)
   obtain ⟨nm, kd⟩ := x
   have hsz := hB.size
   have HB := Lib.hid hB
   have HO := Lib.hid hO
   have hM' := hM.alloc (.cells #[.string nm, .int .i64 kd] 135)
   have hk' : (k : Int) < (T.S.length : Int) := by omega
   have hk0 : (0 : Int) ≤ k := by omega
   clear hx hxm hcell hB hO hM hv
   dsimp only at x0 x1 hxs HN2
   go_wp2_with (at_mapUpdate; refine wpList_mapUpdate_own _ rfl _ _ _ 115 rfl 9 3 lawTS Tryz.underlying115 _ w1.heap.size k D1 rfl hM' (by unfold maxLen; omega) _ _ _ rfl rfl (tab_name_key hxs) _ [] (plainElem_int Tryz.underlying3 (WalkArith.wf_i64 (by omega))) ?_; intro w3 hm3 hg3)
   go_roundw
   case rel => exact ⟨k + 1, _, by omega, by go_num, (HB.out.alloc hsz _).grown hg3 (Nat.le_trans hsz (by simp)) (fun g hg => by rw [← Option.some.inj hg]; exact hs1), (HO.out.alloc _).kept hg3 (.inr (own_map_ne (HO.out.alloc _) hM')), hm3, HN2⟩
   case measure => simp [intOf]; omega
  ·obtain rfl : k = T.S.length := by omega
   have HN3 := Lib.hid (show NamIs D1 T.S by have := HN.out; rwa [List.take_length] at this)
   have HB := Lib.hid hB
   have HO := Lib.hid hO
   have HM := Lib.hid hM
   have hsz := hB.size
   clear hB hO hM HN
   go_wp2_with fail
   go_loopw [5, 45] (fun v i wr => ∃ (k : Nat) (A2 : Option Addr) (c2 m2 : Nat) (D2 : DataW Unit), k ≤ L.length ∧ i = .int .i64 k ∧ v = .slice A2 (stamped T.S (L.take k)).length c2 ∧ Below w.heap.size w wr ∧ wr.ownsRow w.heap.size 135 2 (.slice A2 (stamped T.S (L.take k)).length c2) (stamped T.S (L.take k)).length ((stamped T.S (L.take k)).flatMap stEnc) ∧ wr.ownsMap Tryz.prog 9 (plainElem Tryz.prog 3) w1.heap.size m2 D2 ∧ m2 ≤ (stamped T.S (L.take k)).length ∧ Hid (NamIs D2 (stamped T.S (L.take k)))) (fun _ i wr => L.length - (intOf i).toNat)
   case atStart => exact ⟨0, A1, c1, _, D1, by omega, rfl, rfl, HB.out, HO.out, HM.out, Nat.le_refl _, HN3⟩
   case round =>
    obtain ⟨k, A2, c2, m2, D2, hk, rfl, rfl, hB, hO, hM, hm2, HN⟩ := hrel
    by_cases hlt : k < L.length
    ·obtain ⟨x, hx⟩ : ∃ x, L[k]? = some x := ⟨_, List.getElem?_eq_getElem hlt⟩
     have hxm := List.mem_of_getElem? hx
     have hxs := HL.out x hxm
     obtain ⟨ad, rfl, hadb, hcell⟩ := (HR.out.below hB).at (flatMap_ne (K := 2) (fun a => rfl) (by omega) hx)
     obtain ⟨x0, x1⟩ := st_at hcell hx
     have hd := stamped_dist HOK.out.dS (L.take k)
     have hlen := (stamped_len T.S (L.take k)).2
     have hlk : (L.take k).length = k := by rw [List.length_take]; omega
     rw [hlk] at hlen
     have hnx := stamped_snoc (S := T.S) hx
     have hsz := hB.size
     have hk' : (k : Int) < (L.length : Int) := by omega
     have hk0 : (0 : Int) ≤ k := by omega
     obtain ⟨nm, kd⟩ := x
     clear hx hxm hcell hlk
     dsimp only at x0 x1 hxs
     have hll : (ad.add (k * 2)).block < wr.heap.size := by rw [block_add']; omega
     generalize stamped T.S (L.take k) = N at *
     have hmlt := hM.lt
     rcases look_name2 hM HN.out nm hxs.1 with ⟨cc, hno, hlk⟩ | ⟨i', a, hia, hnm, hlk⟩
     ·have hlook := hlk (wr.alloc (.cells #[.string nm, .int .i64 kd] 135)) (Below.heap_alloc _ _ _ hmlt)
      have hM' := hM.alloc (.cells #[.string nm, .int .i64 kd] 135)
      have HN4 := Lib.hid (nam_app HN.out hM.isMap (s := (nm, kd)) hno)
      rw [withS_no hno] at hnx
      have HNX := Lib.hid hnx
      have HB := Lib.hid hB
      have HO := Lib.hid hO
      have HBX := Lib.hid (heap_alloc_new wr (.cells #[.string nm, .int .i64 kd] 135))
      obtain ⟨ar1, ar2, ar3, ar4⟩ := room_ar hlen hlt hn
      have AR1 := Lib.hid ar1
      have AR2 := Lib.hid ar2
      have AR3 := Lib.hid (Nat.lt_of_le_of_lt hm2 ar3)
      have AR4 := Lib.hid ar4
      clear ar1 ar2 ar3 ar4
      clear hlk hno hB hO hM HN hnx hd
      go_wp2_with ((at_mapUpdate; refine wpList_mapUpdate_own _ rfl _ _ _ 115 rfl 9 3 lawTS Tryz.underlying115 _ w1.heap.size m2 D2 rfl hM' AR3.out _ _ _ rfl rfl (tab_name_key hxs.1) _ [] (plainElem_int Tryz.underlying3 AR4.out) ?_; intro w3 hm3 hg3; have hbx := blk_grown HBX.out hg3 (fun e => map_ne hM' HBX.out (Option.some.inj e)); have y0 := cell_of_blk (i := 0) hbx rfl; have y1 := cell_of_blk (i := 1) hbx rfl; have ly := blk_lt hbx; have o3 := Lib.hid ((HO.out.alloc _).kept hg3 (.inr (own_map_ne (HO.out.alloc _) hM'))); have b3 := Lib.hid ((HB.out.alloc hsz _).grown hg3 (Nat.le_trans hsz (by simp)) (fun g hg => by rw [← Option.some.inj hg]; exact hs1)); have s3 := b3.out.size; refine unhid ?_))
      refine Lib.hid ?_
      go_wp2_with (at_builtin; refine wpList_append_own _ rfl _ _ 73 rfl w.heap.size 135 i0 _ 2 24 Tryz.underlying73 hi hz0 hz1 hz2 rfl (by decide) _ _ _ rfl (o3.out.alloc _) ⟨w3.heap.size, 0, none⟩ 1 1 [.string nm, .int .i64 kd] rfl rfl (World.news_of_block (heap_alloc_new _ _)) (by simp [Value.oneCell']) AR1.out AR2.out (Nat.le_trans s3 (by simp)) ?_; intro v' w4 hown4 hg4 _; obtain ⟨A4, c4, rfl, _, _, _⟩ := own_form hown4)
      go_roundw
      case rel =>
       refine ⟨k + 1, A4, c4, m2 + 1, _, by omega, by go_num, ?_, (b3.out.alloc s3 _).grown hg4 (Nat.le_trans s3 (by simp)) (fun g hg => own_base o3.out hg), ?_, map_grown (hm3.alloc _) hg4 (own_map_ne o3.out hm3), ?_, ?_⟩
       ·rw [HNX.out]; simp
       ·rw [HNX.out]; simpa [stEnc] using hown4
       ·rw [HNX.out]; simp; omega
       ·rw [HNX.out]; exact HN4
      case measure => simp [intOf]; omega
     ·have hlook := hlk (wr.alloc (.cells #[.string nm, .int .i64 kd] 135)) (Below.heap_alloc _ _ _ hmlt)
      obtain ⟨ad2, c', hv, hbase2, hal2, hst, ⟨cur, hcur⟩, hset⟩ := st_elem hO hia
      obtain ⟨rfl, rfl⟩ : A2 = some ad2 ∧ c2 = c' := by simpa using hv
      obtain ⟨hfz, hsto⟩ := hset _ hO
      have r1 := hst.c1
      have hll2 : (ad2.add (i' * 2)).block < wr.heap.size := by rw [block_add']; exact hal2
      have hfz' : wr.frozen? ⟨(ad2.add (i' * 2)).block, (ad2.add (i' * 2)).off + 1, none⟩ = false := (hset _ hO).1
      have hil : (i' : Int) < (N.length : Int) := by have := (List.getElem?_eq_some_iff.1 hia).1; omega
      have hi0 : (0 : Int) ≤ i' := by omega
      rw [withS_has hd hia (by rw [hnm])] at hnx
      have HNX := Lib.hid hnx
      have HSTO := Lib.hid ((hsto (bits .and .i64 a.2 kd)).alloc (.cells #[.string nm, .int .i64 kd] 135))
      have HN4 := Lib.hid (nam_set HN.out hia (bits .and .i64 a.2 kd))
      have HB := Lib.hid hB
      have HM := Lib.hid hM
      have HNE := Lib.hid (map_ne hM hcur)
      have HBA := Lib.hid (show w.heap.size ≤ (ad2.add (i' * 2)).block by rw [block_add']; exact hbase2)
      have HM2 := Lib.hid (show m2 ≤ (N.set i' (a.1, bits .and .i64 a.2 kd)).length by rw [List.length_set]; exact hm2)
      have HLE := Lib.hid (show (N.set i' (a.1, bits .and .i64 a.2 kd)).length = N.length by rw [List.length_set])
      have HBB := Lib.hid (block_add' ad2 (i' * 2))
      clear hlk hB hO hM HN hnx hd hv hset hsto hst hcur hia hnm hm2
      go_wp2_with fail
      go_region
      go_wp2_with fail
      go_roundw
      case rel => 
       refine ⟨k + 1, some ad2, c2, m2, D2, by omega, by go_num, ?_, ?_, ?_, ?_, ?_, ?_⟩
       ·rw [HNX.out, HLE.out]
       ·exact ((HB.out.setCell (by show w.heap.size ≤ (ad2.add (i' * 2)).block; exact HBA.out) _).alloc (by simpa [World.setCell] using hsz) _).drew
       ·rw [HNX.out]
        have := HSTO.out
        rw [HLE.out] at this ⊢
        exact this
       ·exact (World.ownsMap.setCell HM.out (by show w1.heap.size ≠ (ad2.add (i' * 2)).block; rw [HBB.out]; exact HNE.out) _).alloc _
       ·rw [HNX.out]; exact HM2.out
       ·rw [HNX.out]; exact HN4
      case measure => simp [intOf]; omega
    ·obtain rfl : k = L.length := by omega
     have hlen := (stamped_len T.S L).2
     have hdN := stamped_dist HOK.out.dS L
     have hsN := stamped_ok HOK.out.sOk HL.out
     have hmN := (stamped_mem (S := T.S) (L := L)).1
     simp only [List.take_length] at hO hM hm2 HN ⊢
     have HNo := Lib.hid (fun (w' : World) (hb : Below w.heap.size w w') (hno : stampOk T.F (stamped T.S L) L = false) => stamp_no H0.out hb hno)
     have HYes := Lib.hid (fun (hyes : stampOk T.F (stamped T.S L) L = true) => show doStamp T L = (true, { T with S := stamped T.S L }) by unfold doStamp; rw [if_pos hyes])
     generalize hNN : stamped T.S L = N at *
     have HB := Lib.hid hB
     have HO := Lib.hid hO
     have HM := Lib.hid hM
     have hsz := hB.size
     have HDN := Lib.hid hdN
     have HSN := Lib.hid hsN
     have HMN := Lib.hid hmN
     have hNl : N.length ≤ 9223372036854775807 := by omega
     clear hB hO hM hdN hsN hmN
     go_wp2_with fail
     go_loopw [79] (fun i wr => ∃ (k : Nat), k ≤ L.length ∧ i = .int .i64 k ∧ Below w.heap.size w wr ∧ wr.ownsRow w.heap.size 135 2 (.slice A2 N.length c2) N.length (N.flatMap stEnc) ∧ wr.ownsMap Tryz.prog 9 (plainElem Tryz.prog 3) w1.heap.size m2 D2 ∧ Hid (stampOk T.F N (L.take k) = true)) (fun i wr => L.length - (intOf i).toNat)
     case atStart => exact ⟨0, by omega, rfl, HB.out, HO.out, HM.out, Lib.hid rfl⟩
     case round =>
      obtain ⟨k, hk, rfl, hB, hO, hM, HA⟩ := hrel
      by_cases hlt : k < L.length
      ·obtain ⟨x, hx⟩ : ∃ x, L[k]? = some x := ⟨_, List.getElem?_eq_getElem hlt⟩
       have hxm := List.mem_of_getElem? hx
       have hxs := HL.out x hxm
       obtain ⟨ad, rfl, hadb, hcell⟩ := (HR.out.below hB).at (flatMap_ne (K := 2) (fun a => rfl) (by omega) hx)
       obtain ⟨x0, x1⟩ := st_at hcell hx
       obtain ⟨a, ham, han⟩ := HMN.out x hxm
       obtain ⟨i', hia⟩ := List.getElem?_of_mem ham
       have hsz := hB.size
       have hk' : (k : Int) < (L.length : Int) := by omega
       have hk0 : (0 : Int) ≤ k := by omega
       have hll : (ad.add (k * 2)).block < wr.heap.size := by rw [block_add']; omega
       have HT := Lib.hid (show L.take (k + 1) = L.take k ++ [x] by rw [List.take_add_one, hx]; rfl)
       have hal := allows_has HDN.out hia
       rw [han] at hal
       have hno : (∀ i f, findF T.F ⟨3, 0, x.1, 0⟩ = some i → T.F[i]? = some f → fitsB a.2 f.2.kind = false) → stampOk T.F N L = false := fun h => by
        unfold stampOk
        rw [List.all_eq_false]
        refine ⟨x, hxm, ?_⟩
        cases hf : findF T.F ⟨3, 0, x.1, 0⟩ with
        | none => simp
        | some i =>
         obtain ⟨_, f, hfi, _⟩ := findF_some hf
         simp only [hfi]
         rw [hal, h i f hf hfi]
         simp
       have hyes : (∀ i f, findF T.F ⟨3, 0, x.1, 0⟩ = some i → T.F[i]? = some f → fitsB a.2 f.2.kind = true) → findF T.F ⟨3, 0, x.1, 0⟩ ≠ none → stampOk T.F N (L.take (k + 1)) = true := fun h hn => by
        rw [HT.out]
        have h1 := HA.out
        unfold stampOk at h1 ⊢
        rw [List.all_append, h1]
        cases hf : findF T.F ⟨3, 0, x.1, 0⟩ with
        | none => exact absurd hf hn
        | some i =>
         obtain ⟨_, f, hfi, _⟩ := findF_some hf
         simp [hf, hfi, hal, h i f hf hfi]
       have HNO := Lib.hid hno
       have HYE := Lib.hid hyes
       obtain ⟨nm, kd⟩ := x
       dsimp only at x0 x1 hxs han HNO HYE
       have hB' := hB.alloc hsz (.cells #[.string nm, .int .i64 kd] 135)
       have hf0 := HF.out _ hB' ⟨3, 0, nm, 0⟩ ⟨i64_3, i64_0, hxs.1, by show (0 : Nat) < _; decide⟩
       have hB9 := Lib.hid hB
       have hO' := hO.alloc (.cells #[.string nm, .int .i64 kd] 135)
       have hM' := hM.alloc (.cells #[.string nm, .int .i64 kd] 135)
       clear hx hxm hcell hno hyes HT hal ham
       unfold vvCells at hf0
       cases hfF : findF T.F ⟨3, 0, nm, 0⟩ with
       | none =>
        have e1 : findI T.F ⟨3, 0, nm, 0⟩ = -1 := by unfold findI; rw [hfF]
        rw [e1] at hf0
        have HF0 := Lib.hid hf0
        have HBB := Lib.hid hB'
        have HNN := Lib.hid (HNO.out fun i f h => by rw [hfF] at h; cases h)
        clear hf0 hB hO hM hB' hO' hM'
        go_wp2_with fail
        refine HF0.out.mono ?_
        rintro e w8 ⟨rfl, hb8⟩
        have B8 := Lib.hid (HBB.out.trans (hb8.mono HBB.out.size))
        have bx := below_blk hb8 (heap_alloc_new wr (.cells #[.string nm, .int .i64 kd] 135))
        have y0 := cell_of_blk (i := 0) bx rfl
        have lb := blk_lt bx
        clear bx hb8
        go_wp2_with fail
        go_quiet (fail)
        go_wp2_with fail
        go_ret
        exact HNo.out _ (below_drewN B8.out _) HNN.out
       | some i =>
        obtain ⟨_, f, hfi, _⟩ := findF_some hfF
        have e1 := findI_some hfF
        rw [e1] at hf0
        obtain ⟨adf, cf, ct1, hab, hfd, _, _⟩ := tab_elem H0.out hfi
        have hil : (i : Int) < (T.F.length : Int) := by have := (List.getElem?_eq_some_iff.1 hfi).1; omega
        have hi0 : (0 : Int) ≤ i := by omega
        have hin : ¬ (i : Int) < 0 := by omega
        have hab' : (adf.add (i * 8)).block < w.heap.size := by rw [block_add']; exact hab
        obtain ⟨ads, cs', hv, hbs, hals, hst, _, _⟩ := st_elem hO' hia
        obtain ⟨rfl, rfl⟩ : A2 = some ads ∧ c2 = cs' := by simpa using hv
        have hals' : (ads.add (i' * 2)).block < (wr.alloc (.cells #[.string nm, .int .i64 kd] 135)).heap.size := by rw [block_add']; exact hals
        have hilS : (i' : Int) < (N.length : Int) := by have := (List.getElem?_eq_some_iff.1 hia).1; omega
        have hiS0 : (0 : Int) ≤ i' := by omega
        have hlk := look_name1 hM' HN.out hia (HSN.out a (List.mem_of_getElem? hia)).1
        rw [han] at hlk
        have hfits := fun W => fits_any a.2 f.2.kind W
        have hmlt := hM'.lt
        have HF0 := Lib.hid hf0
        have HBB := Lib.hid hB'
        have HO' := Lib.hid hO'
        have HM' := Lib.hid hM'
        have HLK := Lib.hid hlk
        have HFD := Lib.hid hfd
        have HCT := Lib.hid ct1
        have HST := Lib.hid hst
        have HN1 := Lib.hid (fun h : fitsB a.2 f.2.kind = false => HNO.out fun i' f' h1 h2 => by
         rw [hfF] at h1
         cases h1
         rw [hfi] at h2
         cases h2
         exact h)
        have HY1 := Lib.hid (fun h : fitsB a.2 f.2.kind = true => HYE.out (fun i' f' h1 h2 => by
         rw [hfF] at h1
         cases h1
         rw [hfi] at h2
         cases h2
         exact h) (by rw [hfF]; exact fun e => by cases e))
        clear hf0 hB hO hM hB' hO' hM' hlk hfd ct1 hst hv hfi hia
        cases hβ : fitsB a.2 f.2.kind
        all_goals
         rw [hβ] at hfits
         have HFit := Lib.hid hfits
         clear hfits
         go_wp2_with fail
         refine HF0.out.mono ?_
         rintro e w8 ⟨rfl, hb8⟩
         have B8 := Lib.hid (HBB.out.trans (hb8.mono HBB.out.size))
         have bx := below_blk hb8 (heap_alloc_new wr (.cells #[.string nm, .int .i64 kd] 135))
         have y0 := cell_of_blk (i := 0) bx rfl
         have lb := blk_lt bx
         have M8 := Lib.hid ((Fr.of_below hb8 []).map HM'.out (by simp))
         have O8 := Lib.hid (below_own hb8 HO'.out)
         have t1 := (B8.out.cell (p := ⟨tb, 1, none⟩) htlt).trans HCT.out
         have f4 := (B8.out.cell (p := ⟨(adf.add (i * 8)).block, _, none⟩) hab').trans HFD.out.c4
         have s1 := (hb8.cell (p := ⟨(ads.add (i' * 2)).block, _, none⟩) hals').trans HST.out.c1
         have l8 := Nat.lt_of_lt_of_le htlt B8.out.size
         have lf := Nat.lt_of_lt_of_le hab' B8.out.size
         have ls := Nat.lt_of_lt_of_le hals' hb8.size
         have hlook : ∀ q, (Instr.lookup 115 (.map (some w1.heap.size)) (.string nm) false).run Tryz.prog (w8.drewN q) = .ok (.int .i64 (i' : Int)) (w8.drewN q) := fun q => HLK.out (w8.drewN q) (hb8.block _ hmlt)
         have BX := Lib.hid bx
         clear bx hb8
         go_wp2_with fail
         go_quiet ((go_at_call 88; first | exact quiet_ret (HFit.out _) | exact quiet_ret_add (HFit.out _)))
        ·go_wp2_with fail
         go_ret
         exact HNo.out _ (below_drewN B8.out _) (HN1.out hβ)
        ·go_wp2_with fail
         go_roundw
         case rel => exact ⟨k + 1, by omega, by go_num, below_drewN B8.out _, O8.out, M8.out, Lib.hid (HY1.out hβ)⟩
         case measure => simp [intOf]; omega
      ·obtain rfl : k = L.length := by omega
       have hA := HA.out
       rw [List.take_length] at hA
       have HB8 := Lib.hid hB
       have HO8 := Lib.hid hO
       have HM8 := Lib.hid hM
       have ht := below_blk hB H1.out
       have t3 := cell_of_blk (i := 3) ht rfl
       have t4 := cell_of_blk (i := 4) ht rfl
       have z3 := free_of_blk (i := 3) ht
       have z4 := free_of_blk (i := 4) ht
       have lt := blk_lt ht
       have HD := Lib.hid (HYes.out hA)
       clear hB hO hM ht hA
       go_wp2_with fail
       go_ret
       unfold StampOut
       rw [HD.out]
       exact ⟨rfl, by rw [← hNN] at *; exact tab_stamp H0.out HB8.out HO8.out HM8.out hnb hm2 HN.out⟩
end Go.Proofs.YtilcofpceadpbaaGreatDoor
namespace Go.Proofs.YtilcofpceadpbaaGreatDoor
open Go.ChangeShapes Go.WideShapes Go.ChangeAt Go.RowKit

theorem rsame_any (a b : VV) (w : World) : Calls Tryz.prog 68 #[.agg (vvCells a), .agg (vvCells b)] w (RetB (.bool (sameV a b)) w) := by
 unfold vvCells
 have hb0 : Below w.heap.size w ((w.alloc (.cells #[.int .i64 a.kind, .int .i64 a.n, .string a.s, .int .u64 (a.label : Int)] 26)).alloc (.cells #[.int .i64 b.kind, .int .i64 b.n, .string b.s, .int .u64 (b.label : Int)] 26)) := ((Below.refl _ _).alloc (Nat.le_refl _) _).alloc (by simp) _
 unfold sameV
 cases h1 : (a.kind == b.kind) <;> cases h2 : (a.n == b.n) <;> cases h3 : (a.s.toList == b.s.toList)
 all_goals
  go_enter Tryz.func68, Tryz.ntmps68
  go_wp2
  go_ret
  exact ⟨rfl, hb0⟩
end Go.Proofs.YtilcofpceadpbaaGreatDoor
namespace Go.Proofs.YtilcofpceadpbaaGreatDoor
open Go.ChangeShapes Go.WideShapes Go.ChangeAt Go.RowKit Go.Maps

theorem room80 {a b : Nat} (h : (a + b + 1) * 80 ≤ 140737488355328) : a ≤ 9223372036854775807 ∧ b ≤ 9223372036854775807 ∧ a + 1 ≤ maxLen ∧ (a + 1) * 80 ≤ 140737488355328 := by
 have h0 : ∀ n, n ≤ a + b + 1 → n * 80 ≤ 140737488355328 := fun n hn => Nat.le_trans (Nat.mul_le_mul_right 80 hn) h
 have h1 : ∀ n, n ≤ a + b + 1 → n ≤ 9223372036854775807 := fun n hn => Nat.le_trans (Nat.le_mul_of_pos_right _ (by decide)) (Nat.le_trans (h0 n hn) (by decide))
 exact ⟨h1 a (by omega), h1 b (by omega), h1 (a + 1) (by omega), h0 (a + 1) (by omega)⟩
theorem Reads.mono' {w : World} {B B' : Nat} {A : Option Addr} {xs : List Value} (h : Reads w B A xs) (hB : B ≤ B') : Reads w B' A xs := h.imp id fun ⟨ad, e, h1, h2⟩ => ⟨ad, e, Nat.lt_of_lt_of_le h1 hB, h2⟩
structure RTabIn (w : World) (B rb : Nat) (T : TabS) (fp : List Nat) : Prop where
 ex : ∃ (fv sv : Value), fp = rb :: (fv.ownBlock.toList ++ sv.ownBlock.toList) ∧ w.heap[rb]? = some (.cells #[.int .u64 (T.l : Int), fv, sv] 75 (0, 0)) ∧
  w.ownsRow B 92 8 fv T.F.length (T.F.flatMap fdEnc) ∧ w.ownsRow B 135 2 sv T.S.length (T.S.flatMap stEnc)
 base : ∀ b ∈ fp, B ≤ b ∧ b < w.heap.size
theorem RTabIn.kept {w w' : World} {B rb : Nat} {T : TabS} {fp S : List Nat} (h : RTabIn w B rb T fp) (hf : Fr S w w') (hd : ∀ b ∈ fp, b ∉ S) : RTabIn w' B rb T fp := by
 obtain ⟨⟨fv, sv, rfl, h1, h2, h3⟩, hb⟩ := h
 refine ⟨⟨fv, sv, rfl, hf.blk h1 (hd _ (by simp)), hf.own h2 fun g hg => hd g (by simp [hg]), hf.own h3 fun g hg => hd g (by simp [hg])⟩, fun b hm => ?_⟩
 have := hb b hm
 have := hf.size
 omega
def RTabTo (w : World) (B rb : Nat) (T' : TabS) (fp : List Nat) (w' : World) : Prop := ∃ fp', RTabIn w' B rb T' fp' ∧ Fr fp w w' ∧ ∀ b ∈ fp', b ∈ fp ∨ w.heap.size ≤ b
theorem RTabTo.same {w w' : World} {B rb : Nat} {T : TabS} {fp : List Nat} (h : RTabIn w B rb T fp) (hb : Below w.heap.size w w') : RTabTo w B rb T fp w' :=
 ⟨fp, h.kept (Fr.of_below hb []) (by simp), Fr.of_below hb _, fun b hb => .inl hb⟩
theorem RTabTo.drew {w w' : World} {B rb : Nat} {T : TabS} {fp : List Nat} (h : RTabTo w B rb T fp w') : RTabTo w B rb T fp w'.drew := by
 obtain ⟨fp', h1, h2, h3⟩ := h
 exact ⟨fp', h1.kept ((Fr.refl [] _).drew) (by simp), h2.drew, h3⟩
theorem rtab_elem {w : World} {B rb : Nat} {T : TabS} {fp : List Nat} (h : RTabIn w B rb T fp) {i : Nat} {f : Fd} (hi : T.F[i]? = some f) :
  ∃ ad c, w.cell? ⟨rb, 1, none⟩ = some (.slice (some ad) T.F.length c) ∧ ad.block < w.heap.size ∧ FdAt w (ad.add (i * 8)) f ∧ (∀ o, w.frozen? ⟨(ad.add (i * 8)).block, (ad.add (i * 8)).off + o, none⟩ = false) ∧
   ∀ w7 R, Below w.heap.size w w7 → RTabTo w B rb { T with F := T.F.set i (f.1, R) } fp (set4 w7 (ad.add (i * 8)) R 4) := by
 obtain ⟨⟨fv, sv, hfp, h1, h2, h3⟩, hbase⟩ := h
 obtain ⟨A, c, rfl, hn1, hn2, hff⟩ := own_form h2
 obtain ⟨gb, rfl, hbg, hgl, ⟨cur, hcur⟩, hcell⟩ := hff (by have := (List.getElem?_eq_some_iff.1 hi).1; omega)
 refine ⟨⟨gb, 0, none⟩, c, cell_of_blk h1 rfl, hgl, fd_at (fun j u hu => by rw [ad_add]; exact hcell j u hu) hi, fun o => by rw [ad_add]; exact World.ownsRow.frozenAt h2 _, fun w7 R hb => ?_⟩
 rw [ad_add]
 have hgf : gb ∈ fp := by rw [hfp]; simp [Value.ownBlock]
 have hF : Fr [gb] w (set4 w7 ⟨gb, i * 8, none⟩ R 4) := ((((Fr.of_below hb _).set _ (.inl (by simp))).set _ (.inl (by simp))).set _ (.inl (by simp))).set _ (.inl (by simp))
 have h2' := (Fr.of_below hb []).own h2 (by simp)
 refine ⟨fp, ⟨⟨_, sv, hfp, hF.blk h1 (by simpa using blk_ne h1 hcur (by decide)), ?_, hF.own h3 ?_⟩, fun b hb' => ?_⟩, hF.more (by simpa using .inl hgf), fun b hb => .inl hb⟩
 ·have s1 := (World.ownsRow.stored h2' (i * 8 + 4) (.int .i64 R.kind)).1
  have s2 := (World.ownsRow.stored s1 (i * 8 + 5) (.int .i64 R.n)).1
  have s3 := (World.ownsRow.stored s2 (i * 8 + 6) (.string R.s)).1
  have s4 := (World.ownsRow.stored s3 (i * 8 + 7) (.int .u64 (R.label : Int))).1
  rw [flat_set4 hi] at s4
  simpa [set4] using s4
 ·intro g hg
  have := own_blk_ne h3 hcur (by decide)
  rw [hg] at this
  simpa using Ne.symm (fun e => this (by rw [e]))
 ·have := hbase b hb'
  have := hF.size
  omega
theorem rtab_app {w w12 : World} {B rb : Nat} {T : TabS} {fp : List Nat} {fv sv v' : Value} {gb cap : Nat} {k R : VV}
  (hfp : fp = rb :: (fv.ownBlock.toList ++ sv.ownBlock.toList)) (h1 : w.heap[rb]? = some (.cells #[.int .u64 (T.l : Int), fv, sv] 75 (0, 0)))
  (h2 : w.ownsRow B 92 8 fv T.F.length (T.F.flatMap fdEnc)) (h3 : w.ownsRow B 135 2 sv T.S.length (T.S.flatMap stEnc))
  (hbase : ∀ b ∈ fp, B ≤ b ∧ b < w.heap.size) (hFr : Fr fv.ownBlock.toList w w12)
  (hown : w12.ownsRow B 92 8 v' (T.F.length + 1) (T.F.flatMap fdEnc ++ fdEnc (bareV k, R))) (hv' : v' = .slice (some ⟨gb, 0, none⟩) (T.F.length + 1) cap) (hat : fv.ownBlock = some gb ∨ w.heap.size ≤ gb) :
  RTabTo w B rb { T with F := T.F ++ [(bareV k, R)] } fp (w12.setCell ⟨rb, 1, none⟩ v') := by
 have htn : rb ∉ fv.ownBlock.toList := by
  intro e
  exact own_blk_ne h2 h1 (by decide) (by simpa using (by simpa using e : fv.ownBlock = some rb).symm)
 have hT := hFr.blk h1 htn
 have hF' : Fr fp w (w12.setCell ⟨rb, 1, none⟩ v') := (hFr.more (S' := fp) (fun b hb => .inl (by
  rw [hfp]
  simp at hb
  simp [hb]))).set _ (.inl (by rw [hfp]; simp))
 have hown2 := hown
 obtain ⟨_, _, hv2, _, _, hgg⟩ := own_form hown2
 rw [hv'] at hv2
 obtain ⟨gb2, e2, hBg, hgl, _⟩ := hgg (by omega)
 cases hv2
 obtain rfl : gb = gb2 := by simpa using e2
 have hsv : ∀ g, sv.ownBlock = some g → g ∉ fv.ownBlock.toList := by
  intro g hg e
  exact own_own_ne h3 h2 (by decide) hg (by simpa using e)
 have h3' := hFr.own h3 hsv
 refine ⟨rb :: ([gb] ++ sv.ownBlock.toList), ⟨⟨v', sv, by rw [hv']; simp [Value.ownBlock], blk_set (i := 1) hT v', ?_, own_set_far h3' hT (by decide) _⟩, ?_⟩, hF', ?_⟩
 ·have := own_set_far hown hT (by decide) (a := ⟨rb, 1, none⟩) v'
  simpa using this
 ·have hsz := hFr.size
  intro b hb
  have hb' : b = gb ∨ b ∈ fp := by
   rw [hfp]
   simp at hb ⊢
   rcases hb with h | h | h
   ·simp [h]
   ·simp [h]
   ·simp [h]
  rcases hb' with rfl | hb'
  ·exact ⟨hBg, by simpa [World.setCell] using hgl⟩
  ·have := hbase b hb'
   simp [World.setCell]
   omega
 ·intro b hb
  simp at hb
  rcases hb with rfl | rfl | h
  ·exact .inl (by rw [hfp]; simp)
  ·rcases hat with h | h
   ·exact .inl (by rw [hfp]; simp [h])
   ·exact .inr h
  ·exact .inl (by rw [hfp]; simp [h])
set_option maxRecDepth 100000 in
theorem rkey_any (v : VV) (w : World) : Calls Tryz.prog 96 #[.agg (vvCells v)] w (RetB (.bool (isKey v)) w) := by
 have hc := fun W => rcheck_any v W
 have HB := Lib.hid ((Below.refl w.heap.size w).alloc (Nat.le_refl _) (.cells (vvCells v) 26))
 obtain ⟨k, n, s, l⟩ := v
 unfold isKey
 unfold vvCells at hc HB ⊢
 generalize checkV ⟨k, n, s, l⟩ = β at hc ⊢
 have hC := Lib.hid hc
 clear hc
 dsimp only at hC HB ⊢
 by_cases k2 : k = 2
 ·subst k2
  have e : ((decide ((2 : Int) = 2) || decide ((2 : Int) = 3)) && β) = β := by simp
  rw [e]
  go_enter Tryz.func96, Tryz.ntmps96
  go_wp2_with fail
  refine (hC.out _).mono ?_
  rintro e w1 ⟨rfl, hb1⟩
  have HB1 := Lib.hid (HB.out.trans (hb1.mono (by simp)))
  clear hb1
  go_wp2
  go_ret
  exact ⟨rfl, HB1.out⟩
 by_cases k3 : k = 3
 ·subst k3
  have e : ((decide ((3 : Int) = 2) || decide ((3 : Int) = 3)) && β) = β := by simp
  rw [e]
  go_enter Tryz.func96, Tryz.ntmps96
  go_wp2_with fail
  refine (hC.out _).mono ?_
  rintro e w1 ⟨rfl, hb1⟩
  have HB1 := Lib.hid (HB.out.trans (hb1.mono (by simp)))
  clear hb1
  go_wp2
  go_ret
  exact ⟨rfl, HB1.out⟩
 rw [show ((decide (k = 2) || decide (k = 3)) && β) = false from by simp [k2, k3]]
 go_enter Tryz.func96, Tryz.ntmps96
 go_wp2
 go_ret
 exact ⟨rfl, HB.out⟩
theorem findIdx_of {F : List Fd} {k : VV} {j : Nat} {x : Fd} (hx : F[j]? = some x) (hs : sameV x.1 k = true) (hno : ∀ f ∈ F.take j, sameV f.1 k = false) : F.findIdx? (fun f => sameV f.1 k) = some j := by
 rw [List.findIdx?_eq_some_iff_getElem]
 obtain ⟨hl, he⟩ := List.getElem?_eq_some_iff.1 hx
 refine ⟨hl, by rw [he]; exact hs, fun i hi => ?_⟩
 have := hno (F[i]'(by omega)) (List.mem_of_getElem? (i := i) (by rw [List.getElem?_take, if_pos hi, List.getElem?_eq_getElem]))
 simp [this]
set_option maxRecDepth 100000 in
theorem rfind_any {w : World} {B rb : Nat} {T : TabS} {fp : List Nat} (h : RTabIn w B rb T fp) (k : VV) (hn : T.F.length ≤ 9223372036854775807) :
  Calls Tryz.prog 99 #[.pointer (some ⟨rb, 0, none⟩), .agg (vvCells k)] w (RetB (.int .i64 (findI T.F k)) w) := by
 obtain ⟨⟨fv, sv, _, h1, h2, _⟩, _⟩ := h
 obtain ⟨A, c, rfl, _, _, hA, hr⟩ := own_reads h2
 have hkey := fun W => rkey_any k W
 have hsame := fun (f : VV) W => rsame_any f k W
 have HB0 := Lib.hid ((Below.refl w.heap.size w).alloc (Nat.le_refl _) (.cells (vvCells k) 26))
 have HR := Lib.hid hr
 have H1 := Lib.hid h1
 have htl := blk_lt h1
 cases hik : isKey k
 ·have e : findI T.F k = -1 := by unfold findI findF; rw [hik]; rfl
  rw [e]
  rw [hik] at hkey
  unfold vvCells at *
  have HK := Lib.hid hkey
  clear h1 h2 hr hkey hsame
  go_enter Tryz.func99, Tryz.ntmps99
  go_wp2_with fail
  refine (HK.out _).mono ?_
  rintro e w1 ⟨rfl, hb1⟩
  have HB := Lib.hid (HB0.out.trans (hb1.mono (by simp)))
  clear hb1
  go_wp2
  go_ret
  exact ⟨rfl, HB.out⟩
 ·have HFN := Lib.hid (show (∀ f ∈ T.F, sameV f.1 k = false) → findI T.F k = -1 from fun hno => by
   unfold findI findF
   rw [if_pos hik, List.findIdx?_eq_none_iff.2 (fun f hf => by simp [hno f hf])])
  have HFS := Lib.hid (show ∀ (j : Nat) (x : Fd), T.F[j]? = some x → sameV x.1 k = true → (∀ f ∈ T.F.take j, sameV f.1 k = false) → findI T.F k = (j : Int) from fun j x hx hs hno => by
   unfold findI findF
   rw [if_pos hik, findIdx_of hx hs hno])
  rw [hik] at hkey
  generalize findI T.F k = pi at HFN HFS ⊢
  unfold vvCells at *
  have HK := Lib.hid hkey
  have HS := Lib.hid hsame
  clear h1 h2 hr hkey hsame
  go_enter Tryz.func99, Tryz.ntmps99
  go_wp2_with fail
  refine (HK.out _).mono ?_
  rintro e w1 ⟨rfl, hb1⟩
  have HB := Lib.hid (HB0.out.trans (hb1.mono (by simp)))
  have U0 := Lib.hid (below_blk hb1 (heap_alloc_new w _))
  have hc1 := cell_of_blk (i := 1) (below_blk HB.out H1.out) rfl
  have l3 := blk_lt (below_blk HB.out H1.out)
  clear hb1
  go_wp2_with fail
  go_loopw [14] (fun i wr => ∃ j : Nat, j ≤ T.F.length ∧ i = .int .i64 j ∧ Below w.heap.size w wr ∧ wr.heap[w.heap.size]? = some (.cells #[.int .i64 k.kind, .int .i64 k.n, .string k.s, .int .u64 (k.label : Int)] 26 (0, 0)) ∧ Hid (∀ f ∈ T.F.take j, sameV f.1 k = false)) (fun i wr => T.F.length - (intOf i).toNat)
  case atStart => exact ⟨0, by omega, rfl, HB.out, U0.out, Lib.hid (by simp)⟩
  case round =>
   obtain ⟨j, hj, rfl, hB, hU, HA⟩ := hrel
   by_cases hlt : j < T.F.length
   ·obtain ⟨x, hx⟩ : ∃ x, T.F[j]? = some x := ⟨_, List.getElem?_eq_getElem hlt⟩
    obtain ⟨ad, rfl, hadb, hcell⟩ := (HR.out.below hB).at (flatMap_ne (K := 8) (fun a => rfl) (by omega) hx)
    obtain ⟨x0, x1, x2, x3, x4, x5, x6, x7⟩ := fd_at hcell hx
    have HX := Lib.hid hx
    have hsz := hB.size
    have hj' : (j : Int) < (T.F.length : Int) := by omega
    have hj0 : (0 : Int) ≤ j := by omega
    have hll : (ad.add (j * 8)).block < wr.heap.size := by rw [block_add']; omega
    have HT := Lib.hid (show T.F.take (j + 1) = T.F.take j ++ [x] by rw [List.take_add_one, hx]; rfl)
    have k0 := cell_of_blk (i := 0) hU rfl
    have k1 := cell_of_blk (i := 1) hU rfl
    have k2 := cell_of_blk (i := 2) hU rfl
    have k3 := cell_of_blk (i := 3) hU rfl
    have lk := blk_lt hU
    have HB2 := Lib.hid hB
    have HU := Lib.hid hU
    clear hcell hB hx hU
    cases hs : sameV x.1 k
    all_goals
     have hsm := HS.out x.1
     rw [hs] at hsm
     have HSm := Lib.hid hsm
     clear hsm
     go_wp2_with fail
     refine (HSm.out _).mono ?_
     rintro e w8 ⟨rfl, hb8⟩
     have B8 := Lib.hid ((HB2.out.alloc hsz _).trans (hb8.mono (by simp; omega)))
     have U8 := Lib.hid (below_blk hb8 (blk_alloc HU.out _))
     clear hb8
     go_wp2_with fail
    ·go_roundw
     case rel => exact ⟨j + 1, by omega, by go_num, B8.out, U8.out, Lib.hid (fun f hf => by
      rw [HT.out] at hf
      rcases List.mem_append.1 hf with h | h
      ·exact HA.out f h
      ·rw [List.mem_singleton.1 h]; exact hs)⟩
     case measure => simp [intOf]; omega
    ·go_ret
     exact ⟨by rw [HFS.out j x HX.out hs HA.out]; rfl, B8.out⟩
   ·obtain rfl : j = T.F.length := by omega
    have e : pi = -1 := HFN.out (by have := HA.out; rwa [List.take_length] at this)
    go_wp2_with fail
    go_ret
    exact ⟨by rw [e]; rfl, hB⟩
end Go.Proofs.YtilcofpceadpbaaGreatDoor
