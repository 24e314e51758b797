/-
 ParseChecks: part 16 of what the claim rests on.
-/
import Derived.Test.YthobobmbileekaaGreatDoorC01
import Derived.Test.YthobobmbileekaaGreatDoorC14
import Derived.Test.YthobobmbileekaaGreatDoorC15
set_option linter.unusedVariables false
set_option linter.unusedSimpArgs false
set_option maxHeartbeats 64000000
set_option maxRecDepth 100000
namespace Go.Proofs.YthobobmbileekaaGreatDoor
open Go.ChangeShapes Go.WideShapes Go.ChangeAt Go.RowKit

theorem check_any {w : World} {B M : Nat} {A : Option Addr} {l : List NdM} {t : PT} (c : Nat) (h : ProgN w B A l (flat 0 t)) (hok : okT M t) (hk : t.kind = 1) (hdp : deepT t ≤ 200) (htx : txT t) (htab : Tab w) :
  Calls Tryz.prog 7 #[.slice A l.length c] w (RetB (.tuple #[.int .i64 0, .int .i64 0]) w) := by
 obtain ⟨N, hN⟩ : ∃ N, N = l.length := ⟨_, rfl⟩
 obtain ⟨lm, hlm⟩ : ∃ lm, lm = N - 1 := ⟨_, rfl⟩
 obtain ⟨g, hg⟩ : ∃ g, g = w.heap.size := ⟨_, rfl⟩
 obtain ⟨iB, hiB, hB0, hB1, hB2⟩ := info_parts infoBl
 have hNp : N = ptS t := by rw [hN, h.size, flat_len]
 have hn : N ≤ 50000 := by rw [hN, h.size]; exact h.len
 have hn1 : 1 ≤ N := by rw [hNp]; cases t with | mk k x a l => rw [ptS]; omega
 rw [← hN]
 have HN := zh (show N = l.length ∧ lm = N - 1 ∧ N = ptS t from ⟨hN, hlm, hNp⟩)
 have H := zh h
 have HOK := zh (show okT M t ∧ t.kind = 1 ∧ deepT t ≤ 200 ∧ txT t from ⟨hok, hk, hdp, htx⟩)
 have HT := zh htab
 have HNB := zh (And.intro hn hn1)
 have HG := zh hg
 have hnI : ¬ (N : Int) > 50000 := by omega
 have hnJ : ¬ (50000 : Int) < (N : Int) := by omega
 obtain ⟨wm, hmk, hown, hgm⟩ := run_make_full (P := Tryz.prog) w w.heap.size 49 4 iB (.bool false) 1 rfl hiB hB0 hB1 .i64 .i64 N (by rw [hB2]; have := HNB.out; omega) (by unfold maxLen; have := HNB.out; omega) znr
 rw [← hg] at hmk hown
 rw [madeBools] at hown
 clear hg h hok hk hdp htx htab hN hlm hNp hn hn1
 go_enter Tryz.func7, Tryz.ntmps7
 go_wp2_with fail
 have HOW := zh (show RowB wm g N (fun _ => false) from ⟨hown⟩)
 have HBM := zh (show Below w.heap.size w wm from zbr.grown hgm znr (fun k e => by simp at e))
 clear hmk hown hgm hnI hnJ
 go_loopw [20] (fun i wr => ∃ k : Nat, k ≤ N ∧ i = .int .i64 (k : Int) ∧ Hid (Below w.heap.size w wr) ∧ Hid (RowB wr g N (fun q => decide (q ∈ usedL (flat 0 t) k)))) (fun i _ => N - (intOf i).toNat)
 case atStart => exact ⟨0, Nat.zero_le _, rfl, HBM, zh (HOW.out.congr fun q hq => by simp [usedL])⟩
 case round =>
  obtain ⟨k, hkN, rfl, HB, HF⟩ := hrel; by_cases hlt : k < N
  ·obtain ⟨t', hT, hTok⟩ := tree_at t HOK.out.1 (show k < ptS t by rw [← HN.out.2.2]; exact hlt)
   obtain ⟨x, ks, hx, hxm, hxn, hks, hks5, hkl, hkc, hklt⟩ := H.out.node hT; obtain ⟨ad, hA, -⟩ := H.out.nr.ad hx; have HR := zh (H.out.nr.below (HB.out.mono H.out.nr.lo)); obtain ⟨x0, x1, x2, x3, xl⟩ := HR.out.node hA hx; rw [hxn] at x0 x1 x2 x3; dsimp only at x0 x1 x2 x3
   have hxt : (flat 0 t)[k]? = some ⟨t'.kind, t'.text, ks, t'.a⟩ := by rw [← H.out.nd, List.getElem?_map, hx, ← hxn]; rfl
   have hxs : t'.text.size ≤ 200000 := tx_flat 0 t HOK.out.2.2.2 _ (List.mem_of_getElem? hxt); subst hA; obtain ⟨m, hm⟩ : ∃ m, m = ks.length := ⟨_, rfl⟩; rw [← hm] at x2; have HX := zh (show x ∈ l ∧ x.nd.kids = ks ∧ (flat 0 t)[k]? = some ⟨t'.kind, t'.text, ks, t'.a⟩ ∧ m = ks.length ∧ m ≤ 50000 ∧ (∀ q ∈ ks, q < k) from ⟨hxm, by rw [hxn], hxt, hm, by rw [hm]; exact hks5, hklt⟩); have HTT := zh (show IsTree (flat 0 t) t' k ∧ okT M t' ∧ AllTrees (flat 0 t) t'.kids ks ∧ t'.text.size ≤ 200000 from ⟨hT, hTok, hks, hxs⟩); have hkI : (k : Int) < (N : Int) := by omega
   have hk0 : (0 : Int) ≤ (k : Int) := by omega
   clear hx hxm hxn hks hks5 hkl hkc hklt hxt hxs hm hT hTok
   go_upto_region 7 with fail
   refine gen_wpT fun W hW => ?_; have HBW := zh (show Below wr.heap.size wr W by rw [← hW]; exact zbr.alloc znr _); have HXB := zh (show W.heap[wr.heap.size]? = some (.cells #[.int .i64 t'.kind, .string t'.text, .slice x.A m x.c, .int .i64 (t'.a : Int)] 31 (0, 0)) by rw [← hW]; exact heap_new_at _ _ _ rfl); have hgs : g < wr.heap.size := (HF.out.cell (show k < N from hlt)).2.2; have HB1 := zh (HB.out.trans (HBW.out.mono HB.out.size)); have HF1 := zh (HF.out.below HBW.out hgs); have HGS := zh hgs; obtain ⟨bx, hbx⟩ : ∃ b, b = wr.heap.size := ⟨_, rfl⟩; obtain ⟨cs, hcs⟩ : ∃ cs : Array Value, cs = #[.int .i64 t'.kind, .string t'.text, .slice x.A m x.c, .int .i64 (t'.a : Int)] := ⟨_, rfl⟩; rw [← hbx] at HXB HGS; have y2 := zc 2 HXB.out rfl; have yl := blk_lt HXB.out; rw [← hcs] at HXB; have HCS := zh hcs; rw [← hbx]; clear hcs hW x0 x1 x2 x3 xl hgs hbx; go_wp2_with fail
   clear y2 yl
   go_loopw [28, 7] (fun i2 kv wr2 => ∃ (j : Nat) (Ar : Option Addr) (cr : Nat), j ≤ m ∧ i2 = .int .i64 (j : Int) ∧ kv = .slice Ar j cr ∧ Hid (Below w.heap.size w wr2) ∧ Hid (RowB wr2 g N (fun q => decide (q ∈ usedL (flat 0 t) k ++ ks.take j))) ∧ Hid (wr2.heap[bx]? = some (.cells cs 31 (0, 0))) ∧ Hid (wr2.ownsRow (bx + 1) 3 1 (.slice Ar j cr) j (((ks.take j).map (kindAt (flat 0 t))).map intV))) (fun i2 _ _ => m - (intOf i2).toNat)
   case atStart => exact ⟨0, none, 0, Nat.zero_le _, rfl, rfl, HB1, zh (HF1.out.congr fun q _ => by simp), HXB, zh ⟨rfl, .inl ⟨rfl, rfl⟩⟩⟩
   case round =>
    obtain ⟨j, Ar, cr, hjm, rfl, rfl, HB2, HF2, HXB2, HKS⟩ := hrel; by_cases hjt : j < m
    ·obtain ⟨q, hq⟩ : ∃ q, ks[j]? = some q := ⟨_, List.getElem?_eq_getElem (by rw [← HX.out.2.2.2.1]; exact hjt)⟩
     have HR2 := zh (H.out.nr.below (HB2.out.mono H.out.nr.lo)); obtain ⟨bd, hbd, z1, zl1⟩ := HR2.out.kid HX.out.1 (by rw [HX.out.2.1]; exact hq); have hqk : q < k := HX.out.2.2.2.2.2 q (List.mem_of_getElem? hq); have hfr := used_fresh (kids_nodup t) HX.out.2.2.1 hq; obtain ⟨f1, f2, f3⟩ := HF2.out.cell (show q < N by omega); rw [decide_eq_false hfr] at f1; obtain ⟨y, hy⟩ : ∃ y, l[q]? = some y := ⟨_, List.getElem?_eq_getElem (by rw [← HN.out.1]; omega)⟩; have hkd : kindAt (flat 0 t) q = y.nd.kind := by unfold kindAt; rw [← H.out.nd, List.getElem?_map, hy]; rfl
     obtain ⟨kd, hkde⟩ : ∃ kd, kd = y.nd.kind := ⟨_, rfl⟩; rw [← hkde] at hkd; have HY := zh (show l[q]? = some y ∧ kd = y.nd.kind from ⟨hy, hkde⟩); have HTK := zh (show (ks.take (j + 1)).map (kindAt (flat 0 t)) = (ks.take j).map (kindAt (flat 0 t)) ++ [kd] by rw [List.take_add_one, hq, List.map_append, ← hkd]; rfl); have HF3 := zh ((HF2.out.set q true).congr (u' := fun p => decide (p ∈ usedL (flat 0 t) k ++ ks.take (j + 1))) fun p hp => by
      have h8 := used_one (ns := flat 0 t) (k := k) (nd := ⟨t'.kind, t'.text, ks, t'.a⟩) hq p; by_cases h9 : p = q
      ·rw [if_pos h9]; exact (decide_eq_true (h8.2 (.inl h9))).symm
      ·rw [if_neg h9]; exact Bool.eq_iff_iff.2 (by rw [decide_eq_true_iff, decide_eq_true_iff]; exact ⟨fun h => h8.2 (.inr h), fun h => (h8.1 h).resolve_left h9⟩))
     rw [hbd]; have hjI : (j : Int) < (m : Int) := by omega
     have hj0 : (0 : Int) ≤ (j : Int) := by omega
     have hq0 : (0 : Int) ≤ (q : Int) := by omega
     have hqn : ¬ (q : Int) < 0 := by omega
     have hqk1 : ¬ (q : Int) ≥ (k : Int) := by omega
     have hqk2 : ¬ (k : Int) ≤ (q : Int) := by omega
     have hqN9 : (q : Int) < (N : Int) := by omega
     have hgq : (⟨g, 0, none⟩ : Addr).add q = ⟨g, q, none⟩ := by rw [Addr.add_mid, Nat.zero_add]
     clear hq hbd hqk hfr hy hkd hkde
     go_upto_region 14 with fail
     refine gen_wpT fun W9 hW9 => ?_; have hbg : bx ≠ g := fun e => by have := HGS.out; omega
     have HB3 := zh (show Below w.heap.size w W9 by rw [← hW9]; exact HB2.out.setCell (by rw [← HG.out]; exact znr) _); have HF4 := zh (show RowB W9 g N _ by rw [← hW9]; exact HF3.out); have HXB3 := zh (show W9.heap[bx]? = some (.cells cs 31 (0, 0)) by rw [← hW9]; exact blk_other HXB2.out hbg); have HKS3 := zh (show W9.ownsRow (bx + 1) 3 1 (.slice Ar j cr) j (((ks.take j).map (kindAt (flat 0 t))).map intV) by
      rw [← hW9]; exact own_keep HKS.out fun g9 h1 h2 => Below.heap_setCell _ _ _ _ (fun e => by have h7 : g9 = g := e; have := HGS.out; omega))
     have HR3 := zh (H.out.nr.below (HB3.out.mono H.out.nr.lo)); obtain ⟨x0, -, -, -, xl⟩ := HR3.out.node rfl HY.out.1; rw [← HY.out.2] at x0; clear hW9 z1 zl1 f1 f2 f3 hgq hbg hqn hqk1 hqk2; have hj5 : j ≤ 50000 := by have := HX.out.2.2.2.2.1; omega
     have hbs : bx + 1 ≤ W9.heap.size := blk_lt HXB3.out; go_wp2_with (at_builtin; (refine wpList_pushK (n := kd) rfl _ _ rfl HKS3.out hj5 hbs rfl rfl rfl ?_); intro A2 cap2 w2 h1 h2; have HKS4 := zh h1; have HB4 := zh h2; clear h1 h2)
     have hjw : IntKind.i64.wrap ((j : Int) + 1) = ((j + 1 : Nat) : Int) := IntWalk.i64_in _ (by omega); go_roundw
     case rel => exact ⟨j + 1, A2, cap2, by omega, by go_num, rfl, zh (HB3.out.trans (HB4.out.mono (by have := HB3.out.size; have := HGS.out; have := HG.out; omega))), zh (HF4.out.below HB4.out (by have := HGS.out; omega)), zh ((HB4.out.block bx (Nat.lt_succ_self _)).trans HXB3.out), zh (by rw [HTK.out]; exact HKS4.out)⟩
     case measure => simp [intOf]; omega
    ·obtain rfl : j = m := by omega
     have hjq : ¬ (j : Int) < (j : Int) := by omega
     have hat : ¬ (t'.a : Int) < 0 := by omega
     have hloc := (okT_loc HTT.out.2.1).1; have hXB2 := HXB2.out; rw [HCS.out] at hXB2; have HXB3 := zh hXB2; have y0 := zc 0 hXB2 rfl; have y3 := zc 3 hXB2 rfl; have yl := blk_lt hXB2; have htl : ks.take j = ks := by rw [HX.out.2.2.2.1]; exact List.take_length
     have hkd : ks.map (kindAt (flat 0 t)) = t'.kids.map PT.kind := HTT.out.2.2.1.kinds.1; have hlen : (t'.kids.map PT.kind).length = j := by rw [← hkd, List.length_map, HX.out.2.2.2.1]
     have hrd := own_reads HKS.out; rw [htl, hkd] at hrd; have HKC := kids_any (c := cr) ⟨hloc.1, hloc.2.1⟩ hloc.2.2.1 (by rw [hlen]; exact HX.out.2.2.2.2.1) hrd; rw [hlen] at HKC; have HKC := zh HKC; have HF3 := zh (HF2.out.congr (u' := fun p => decide (p ∈ usedL (flat 0 t) (k + 1))) fun p _ => by rw [used_next HX.out.2.2.1, htl]); have hlk : t'.kids.length = j := by rw [← hlen, List.length_map]
     have HLO := zh (show (1 ≤ t'.kind ∧ t'.kind ≤ 36) ∧ TextK t'.kind t'.text j from ⟨⟨hloc.1, hloc.2.1⟩, by rw [← hlk]; exact hloc.2.2.2.1⟩); clear hXB2 hloc htl hkd hlen hrd hlk; go_wp2_with fail
     refine HKC.out.mono ?_; rintro e w1 ⟨rfl, hb1⟩; have HB3 := zh (HB2.out.trans (hb1.mono HB2.out.size)); have HXB4 := zh ((hb1.block bx yl).trans HXB3.out); have HF4 := zh (HF3.out.below hb1 (Nat.lt_trans HGS.out yl)); clear y0 y3 yl hb1; have y0 := zc 0 HXB4.out rfl; have y1 := zc 1 HXB4.out rfl; have y2 := zc 2 HXB4.out rfl; have y3 := zc 3 HXB4.out rfl; have yl := blk_lt HXB4.out; go_wp2_with fail
     refine (pc_text HLO.out.1 HLO.out.2 HTT.out.2.2.2 (HT.out.below HB3.out)).mono ?_; rintro e w2 ⟨rfl, hb2⟩; have HB4 := zh (HB3.out.trans (hb2.mono HB3.out.size)); have HF5 := zh (HF4.out.below hb2 (Nat.lt_trans HGS.out yl)); clear y0 y1 y2 y3 yl hb2; go_wp2_with fail
     refine (show Calls Tryz.prog 14 #[.slice (some ad) N c, .int .i64 (k : Int)] w2 _ by rw [HN.out.1]; exact pc_extra c (H.out.below (HB4.out.mono H.out.nr.lo)) HTT.out.1 HTT.out.2.1).mono ?_; rintro e w3 ⟨rfl, hb3⟩; have HB5 := zh (HB4.out.trans (hb3.mono HB4.out.size)); have HF6 := zh (HF5.out.below hb3 (HF5.out.cell (show k < N from hlt)).2.2); clear hb3; have hk9 : k ≤ 50000 := by have := HNB.out; omega
     go_wp2_with fail
     go_roundw
     case rel => exact ⟨k + 1, by omega, by go_num, HB5, HF6⟩
     case measure => simp [intOf]; omega
  ·obtain rfl : k = N := by omega
   have hq : ¬ (k : Int) < (k : Int) := by omega
   have hsb : (k : Int) - 1 = (lm : Int) := by have := HN.out; have := HNB.out; omega
   have hsw : IntKind.i64.wrap (lm : Int) = (lm : Int) := IntWalk.i64_in _ (by have := HN.out; have := HNB.out; omega); have hl0 : ¬ (lm : Int) < 0 := by omega
   have HF2 := zh (HF.out.congr (u' := fun q => decide (q ≠ lm)) fun q hq => by
    have h1 : usedL (flat 0 t) k = (flat 0 t).flatMap Nd.kids := by unfold usedL; rw [List.take_of_length_le (by rw [flat_len, ← HN.out.2.2]; exact znr)]
    rw [h1]; have h2 := kids_mem t (n := q) (by rw [← HN.out.2.2]; exact hq); rw [← HN.out.2.2, ← HN.out.2.1] at h2; exact Bool.eq_iff_iff.2 (by rw [decide_eq_true_iff, decide_eq_true_iff]; exact h2))
   go_wp2_with fail
   clear hq hsb hsw hl0
   go_loopw [88] (fun i2 wr2 => ∃ i : Nat, i ≤ k ∧ i2 = .int .i64 (i : Int) ∧ Hid (Below w.heap.size w wr2) ∧ Hid (RowB wr2 g k (fun q => decide (q ≠ lm)))) (fun i2 _ => k - (intOf i2).toNat)
   case atStart => exact ⟨0, Nat.zero_le _, rfl, HB, HF2⟩
   case round =>
    obtain ⟨i, hik, rfl, HB3, HF3⟩ := hrel; by_cases hit : i < k
    ·obtain ⟨y, hy⟩ : ∃ y, l[i]? = some y := ⟨_, List.getElem?_eq_getElem (by rw [← HN.out.1]; exact hit)⟩
     have hyt : (flat 0 t)[i]? = some y.nd := by rw [← H.out.nd, List.getElem?_map, hy]; rfl
     have hpl := prog_last t HOK.out.1 HOK.out.2.1 hyt; rw [← HN.out.2.2, ← HN.out.2.1] at hpl; obtain ⟨ad, hA, -⟩ := H.out.nr.ad hy; have HR := zh (H.out.nr.below (HB3.out.mono H.out.nr.lo)); obtain ⟨x0, -, -, -, xl⟩ := HR.out.node hA hy; obtain ⟨f1, f2, f3⟩ := HF3.out.cell hit; have hiI : (i : Int) < (k : Int) := by omega
     have hi0 : (0 : Int) ≤ (i : Int) := by omega
     have hgi : (⟨g, 0, none⟩ : Addr).add i = ⟨g, i, none⟩ := by rw [Addr.add_mid, Nat.zero_add]
     subst hA; by_cases hil : i = lm
     ·subst hil
      rw [hpl.2 rfl] at x0; rw [decide_eq_false (fun h => h rfl)] at f1; clear hy hyt hpl; have hk9 : i ≤ 50000 := by have := HNB.out; omega
      go_wp2_with fail
      go_roundw
      case rel => exact ⟨i + 1, by omega, by go_num, HB3, HF3⟩
      case measure => simp [intOf]; omega
     ·have hk1 : (y.nd.kind == 1) = false := beq_eq_false_iff_ne.2 fun e => hil (hpl.1 e)
      have hil2 : ((i : Int) == (lm : Int)) = false := beq_eq_false_iff_ne.2 (by omega); rw [decide_eq_true hil] at f1; clear hy hyt hpl hil; have hk9 : i ≤ 50000 := by have := HNB.out; omega
      go_wp2_with fail
      go_roundw
      case rel => exact ⟨i + 1, by omega, by go_num, HB3, HF3⟩
      case measure => simp [intOf]; omega
    ·obtain rfl : i = k := by omega
     have hq : ¬ (i : Int) < (i : Int) := by omega
     obtain ⟨d, hd⟩ : ∃ d, d = deepT t := ⟨_, rfl⟩; have hdl : ¬ (d : Int) > 200 := by have := HOK.out.2.2.1; omega
     have hdl2 : ¬ (200 : Int) < (d : Int) := by omega
     have HD := rdeep_any c (H.out.nr.below (HB3.out.mono H.out.nr.lo)) (D := fun q => ((dps t)[q]?).getD 0) (by rw [H.out.nd]; exact deepF_tree t) (by rw [← HN.out.1]; exact HNB.out.1) (by rw [← HN.out.1]; exact HNB.out.2) H.out.kl; rw [← HN.out.1, HN.out.2.2, deepF_last, ← hd, ← HN.out.2.2] at HD; have HD := zh HD; clear hd; go_wp2_with fail
     refine HD.out.mono ?_; rintro e w3 ⟨rfl, hb3⟩; have HB4 := zh (HB3.out.trans (hb3.mono HB3.out.size)); clear hb3; go_wp2_with fail
     refine bodyPost_ret (v := .tuple #[.int .i64 0, .int .i64 0]) (by simp [results, Tryz.results7, go_sem]) rfl ?_; exact ⟨rfl, HB4.out⟩

def CalleeL (f : Nat) (nt : NL) (fn : FuncId) (args : Nat → Array Value) : Prop :=
 ∀ (K : PaK) (w : World) (p i o : Nat) (sn : Fin 8 → Bool) (ns : List Nd) (fp : List Nat), PaAt K w p i o sn ns fp → Room K i ns → o ≤ 150 → ∀ r, (parF K.T f).many nt o i = some r → Calls Tryz.prog fn (args p) w (OutL K w p o sn ns fp r)
def ClosP (f : Nat) (nt : N1) (fn : FuncId) : Prop :=
 ∀ (K : PaK) (w : World) (p i o : Nat) (sn : Fin 8 → Bool) (ns : List Nd) (fp : List Nat) (b : Nat), PaAt K w p i o sn ns fp → Room K i ns → o ≤ 150 → w.heap[b]? = some (.cells #[.pointer (some ⟨p, 0, none⟩)] 44 (0, 0)) → Away w p fp b → ∀ r, (parF K.T f).one nt o i = some r → Calls Tryz.prog fn #[.pointer (some ⟨b, 0, none⟩)] w (OutP K w p o sn ns fp r)
def ClosA (f : Nat) (a : Nat) (nt : N1) (fn : FuncId) : Prop :=
 ∀ (K : PaK) (w : World) (p i o : Nat) (sn : Fin 8 → Bool) (ns : List Nd) (fp : List Nat) (b b2 : Nat), PaAt K w p i o sn ns fp → Room K i ns → o ≤ 150 → w.heap[b]? = some (.cells #[.pointer (some ⟨p, 0, none⟩)] 44 (0, 0)) → Away w p fp b → w.heap[b2]? = some (.cells #[natV a] 3 (0, 0)) → Away w p fp b2 → ∀ r, (parF K.T f).one nt o i = some r → Calls Tryz.prog fn #[.pointer (some ⟨b, 0, none⟩), .pointer (some ⟨b2, 0, none⟩)] w (OutP K w p o sn ns fp r)
def ClosT (f : Nat) (t : Tok) (nt : N1) (fn : FuncId) : Prop :=
 ∀ (K : PaK) (w : World) (p i o : Nat) (sn : Fin 8 → Bool) (ns : List Nd) (fp : List Nat) (b b2 : Nat), PaAt K w p i o sn ns fp → Room K i ns → o ≤ 150 → w.heap[b]? = some (.cells #[.pointer (some ⟨p, 0, none⟩)] 44 (0, 0)) → Away w p fp b → w.heap[b2]? = some (.cells (tokA0 t) 65 (0, 0)) → Away w p fp b2 → ∀ r, (parF K.T f).one nt o i = some r → Calls Tryz.prog fn #[.pointer (some ⟨b, 0, none⟩), .pointer (some ⟨b2, 0, none⟩)] w (OutP K w p o sn ns fp r)
structure AllPart (f : Nat) : Prop where
 block : Callee f .block 21 (fun p => #[.pointer (some ⟨p, 0, none⟩)])
 ended : Callee f .ended 81 (fun p => #[.pointer (some ⟨p, 0, none⟩)])
 maybe : ∀ b, Callee f (.maybe b) 71 (fun p => #[.pointer (some ⟨p, 0, none⟩), .bool b])
 stat : Callee f .stat 48 (fun p => #[.pointer (some ⟨p, 0, none⟩)])
 cond : ∀ a, Callee f (.cond a) 78 (fun p => #[.pointer (some ⟨p, 0, none⟩), natV a])
 simple : ∀ a, Callee f (.simple a) 82 (fun p => #[.pointer (some ⟨p, 0, none⟩), natV a])
 colon : ∀ b, Callee f (.colon b) 73 (fun p => #[.pointer (some ⟨p, 0, none⟩), .bool b])
 body : ∀ a, Callee f (.body a) 76 (fun p => #[.pointer (some ⟨p, 0, none⟩), natV a])
 chain : ∀ r, r ≤ 7 → Callee f (.chain r) 99 (fun p => #[.pointer (some ⟨p, 0, none⟩), natV r])
 exp : Callee f .exp 80 (fun p => #[.pointer (some ⟨p, 0, none⟩)])
 unary : Callee f .unary 113 (fun p => #[.pointer (some ⟨p, 0, none⟩)])
 suffixed : Callee f .suffixed 100 (fun p => #[.pointer (some ⟨p, 0, none⟩)])
 prim : Callee f .prim 114 (fun p => #[.pointer (some ⟨p, 0, none⟩)])
 name : ∀ t, Callee f (.name t) 130 (fun p => #[.pointer (some ⟨p, 0, none⟩), tokJ t])
 table : ∀ a, Callee f (.table a) 134 (fun p => #[.pointer (some ⟨p, 0, none⟩), natV a])
 kind : Callee f .kind 95 (fun p => #[.pointer (some ⟨p, 0, none⟩)])
 one : Callee f .one 112 (fun p => #[.pointer (some ⟨p, 0, none⟩)])
 shape : ∀ a, Callee f (.shape a) 129 (fun p => #[.pointer (some ⟨p, 0, none⟩), natV a])
 whileC : ∀ a, ClosA f a (.whileB a) 79
 indexC : ClosP f .index 115
 parenC : ClosP f .paren 132
 paramC : ClosP f .param 97
 kindC : ∀ a, ClosA f a (.kindF a) 111
 args : ∀ a, CalleeL f (.args a) 116 (fun p => #[.pointer (some ⟨p, 0, none⟩), natV a])
theorem walk_exp {f : Nat} (AP : ∀ g, g ≤ f → AllPart g)  : Callee (f + 1) .exp 80 (fun p => #[.pointer (some ⟨p, 0, none⟩)]) := by
 intro K w p i o sn ns fp h hroom ho r hr
 change (parF K.T f).one (.chain 1) o i = some r at hr
 have HB := zh (Beg.of h)
 have HTK := zh h.env.tok
 have HRM := zh hroom.2
 have HI := zh hroom.1
 have HO := zh ho
 have HS0 := zh (St.start h)
 have HLN := zh h.env.len
 have HAP := zh AP
 clear h hroom ho AP
 have HR := zh hr
 clear hr
 go_enter Tryz.func80, Tryz.ntmps80
 have hr := HR.out
 clear HR
 obtain ⟨X, hX⟩ : ∃ X, (parF K.T f).one (.chain 1) o i = X := ⟨_, rfl⟩
 rw [hX] at hr
 cases X with
 | none => exact absurd hr (by simp [Res.then])
 | some X =>
 cases X with
 | bad a n =>
  have HRR3 := zh (show Res.bad a n = r from (by exact Option.some.inj hr)); have HC6 := zh (call_bad ((HAP.out f (Nat.le_refl f)).chain 1 (by decide)) HS0.out HB.out ⟨HI.out, by have := HRM.out; have := HI.out; (try simp only [zS]); omega⟩ HO.out hX); clear hr hX; go_wp2_with fail
  refine HC6.out.mono ?_; rintro e wb ⟨rfl, hb⟩; have HB5 := zh hb; clear hb; unfold wrongP; go_wp2
  exact ⟨rfl, by rw [← HRR3.out]; exact ⟨rfl, HB5.out⟩⟩
 | ok t1 j2 =>
  have hft := (fit_all HTK.out f).one (.chain 1) o i HI.out; rw [hX] at hft; obtain ⟨f1, f2, f3⟩ := hft; simp only [lazy1, sl1, ex1, zf] at f2 f3
  have HF4 := zh (And.intro f1 (And.intro f2 f3)); clear f1 f2 f3; have HC10 := zh (call_ok ((HAP.out f (Nat.le_refl f)).chain 1 (by decide)) HS0.out ⟨HI.out, by have := HRM.out; have := HI.out; (try simp only [zS]); omega⟩ HO.out hX); clear hX; have HR := zh hr; clear hr; go_wp2_with fail
  refine HC10.out.mono ?_; rintro e w7 ⟨rfl, fp8, h1, h2⟩; obtain ⟨n11, hn⟩ : ∃ n, n = nr ns [] t1 := ⟨_, rfl⟩; rw [← hn]; have HN12 := zh hn; have HS9 := zh (show St K w p j2 o sn ns fp [t1] w7 fp8 from h1); clear h1 h2 hn; have hr := HR.out; clear HR; have HRR13 := zh (show Res.ok _ _ = r from Option.some.inj hr); clear hr; go_wp2
  go_ret
  exact (by rw [← HRR13.out, HN12.out]; exact HS9.out.out)
theorem walk_maybe {f : Nat} (AP : ∀ g, g ≤ f → AllPart g) (b : Bool) : Callee (f + 1) (.maybe b) 71 (fun p => #[.pointer (some ⟨p, 0, none⟩), .bool b]) := by
 intro K w p i o sn ns fp h hroom ho r hr
 change stepMaybe (parF K.T f) b o i = some r at hr
 unfold stepMaybe at hr
 have HB := zh (Beg.of h)
 have HTK := zh h.env.tok
 have HRM := zh hroom.2
 have HI := zh hroom.1
 have HO := zh ho
 have HS0 := zh (St.start h)
 have HLN := zh h.env.len
 have HAP := zh AP
 clear h hroom ho AP
 have HR := zh hr
 clear hr
 go_enter Tryz.func71, Tryz.ntmps71
 have hr := HR.out
 clear HR
 cases b with
 | true =>
  rw [if_pos rfl] at hr; obtain ⟨X, hX⟩ : ∃ X, (parF K.T f).one (.exp) o i = X := ⟨_, rfl⟩; rw [hX] at hr
  cases X with
  | none => exact absurd hr (by simp [Res.then])
  | some X =>
  cases X with
  | bad a n =>
   have HRR3 := zh (show Res.bad a n = r from (by exact Option.some.inj hr)); have HC6 := zh (call_bad ((HAP.out f (Nat.le_refl f)).exp) HS0.out HB.out ⟨HI.out, by have := HRM.out; have := HI.out; (try simp only [zS]); omega⟩ HO.out hX); clear hr hX; go_wp2_with fail
   refine HC6.out.mono ?_; rintro e wb ⟨rfl, hb⟩; have HB5 := zh hb; clear hb; unfold wrongP; go_wp2
   exact ⟨rfl, by rw [← HRR3.out]; exact ⟨rfl, HB5.out⟩⟩
  | ok t1 j2 =>
   have hft := (fit_all HTK.out f).one (.exp) o i HI.out; rw [hX] at hft; obtain ⟨f1, f2, f3⟩ := hft; simp only [lazy1, sl1, ex1, zf] at f2 f3
   have HF4 := zh (And.intro f1 (And.intro f2 f3)); clear f1 f2 f3; have HC10 := zh (call_ok ((HAP.out f (Nat.le_refl f)).exp) HS0.out ⟨HI.out, by have := HRM.out; have := HI.out; (try simp only [zS]); omega⟩ HO.out hX); clear hX; have HR := zh hr; clear hr; go_wp2_with fail
   refine HC10.out.mono ?_; rintro e w7 ⟨rfl, fp8, h1, h2⟩; obtain ⟨n11, hn⟩ : ∃ n, n = nr ns [] t1 := ⟨_, rfl⟩; rw [← hn]; have HN12 := zh hn; have HS9 := zh (show St K w p j2 o sn ns fp [t1] w7 fp8 from h1); clear h1 h2 hn; have hr := HR.out; clear HR; have HRR13 := zh (show Res.ok _ _ = r from Option.some.inj hr); clear hr; go_wp2
   go_ret
   exact (by rw [← HRR13.out, HN12.out]; exact HS9.out.out)
 | false =>
  rw [if_neg (by decide)] at hr; have HRN := zh (show Res.ok noneT i = r from Option.some.inj hr); have HNN := zh (none_any HS0.out.pa (by rw [len_more]; exact (by have := HRM.out; have := HI.out; (try simp only [ptsS, ptS, noneT, ptsS_append, List.nil_append, List.cons_append, Nat.add_zero, Nat.zero_add]); omega))); clear hr; go_wp2_with fail
  refine HNN.out.mono ?_; rintro e wz ⟨rfl, fpz, h1, h2⟩; have HZ := zh (show OutP K w p o sn ns fp (.ok noneT i) (.returned _) wz from ⟨rfl, fpz, by simpa [flats] using h1, h2⟩); clear h1 h2; go_wp2
  go_ret
  exact (by rw [← HRN.out]; simpa [flats, ptsS] using HZ.out)
theorem walk_ended {f : Nat} (AP : ∀ g, g ≤ f → AllPart g)  : Callee (f + 1) .ended 81 (fun p => #[.pointer (some ⟨p, 0, none⟩)]) := by
 intro K w p i o sn ns fp h hroom ho r hr
 change stepEnded K.T (parF K.T f) o i = some r at hr
 unfold stepEnded at hr
 have HB := zh (Beg.of h)
 have HTK := zh h.env.tok
 have HRM := zh hroom.2
 have HI := zh hroom.1
 have HO := zh ho
 have HS0 := zh (St.start h)
 have HLN := zh h.env.len
 have HAP := zh AP
 clear h hroom ho AP
 have HR := zh hr
 clear hr
 go_enter Tryz.func81, Tryz.ntmps81
 have hr := HR.out
 clear HR
 obtain ⟨X, hX⟩ : ∃ X, (parF K.T f).one (.block) o i = X := ⟨_, rfl⟩
 rw [hX] at hr
 cases X with
 | none => exact absurd hr (by simp [Res.then])
 | some X =>
 cases X with
 | bad a n =>
  have HRR3 := zh (show Res.bad a n = r from (by dsimp only [Res.then] at hr; exact Option.some.inj hr)); have HC6 := zh (call_bad ((HAP.out f (Nat.le_refl f)).block) HS0.out HB.out ⟨HI.out, by have := HRM.out; have := HI.out; (try simp only [zS]); omega⟩ HO.out hX); clear hr hX; go_wp2_with fail
  refine HC6.out.mono ?_; rintro e wb ⟨rfl, hb⟩; have HB5 := zh hb; clear hb; unfold wrongP; go_wp2
  exact ⟨rfl, by rw [← HRR3.out]; exact ⟨rfl, HB5.out⟩⟩
 | ok t1 j2 =>
  have hft := (fit_all HTK.out f).one (.block) o i HI.out; rw [hX] at hft; obtain ⟨f1, f2, f3⟩ := hft; simp only [lazy1, sl1, ex1, zf] at f2 f3
  have HF4 := zh (And.intro f1 (And.intro f2 f3)); clear f1 f2 f3; have HC10 := zh (call_ok ((HAP.out f (Nat.le_refl f)).block) HS0.out ⟨HI.out, by have := HRM.out; have := HI.out; (try simp only [zS]); omega⟩ HO.out hX); dsimp only [Res.then] at hr
  clear hX; have HR := zh hr; clear hr; go_wp2_with fail
  refine HC10.out.mono ?_; rintro e w7 ⟨rfl, fp8, h1, h2⟩; obtain ⟨n11, hn⟩ : ∃ n, n = nr ns [] t1 := ⟨_, rfl⟩; rw [← hn]; have HN12 := zh hn; have HS9 := zh (show St K w p j2 o sn ns fp [t1] w7 fp8 from h1); clear h1 h2 hn; have hr := HR.out; clear HR; unfold need at hr
  cases hb : isAny (tk K.T j2) [⟨#[101, 110, 100]⟩] with
  | false =>
   rw [if_neg (by rw [hb]; decide)] at hr; have HRR14 := zh (show Res.bad _ _ = r from (by exact Option.some.inj hr)); have HC16 := zh ((need_no HS9.out.pa HF4.out.1 ⟨#[101, 110, 100]⟩ hb).mono fun e w' hh => (show OutB w p _ 70 e w' from ⟨hh.1, HS9.out.bad HB.out hh.2⟩)); clear hr; go_wp2_with fail
   refine HC16.out.mono ?_; rintro e wb ⟨rfl, hb⟩; have HB15 := zh hb; clear hb; unfold wrongP; go_wp2
   exact ⟨rfl, by rw [← HRR14.out]; exact ⟨rfl, HB15.out⟩⟩
  | true =>
   rw [if_pos hb] at hr; have HLT13 := zh (any_lt HTK.out HF4.out.1 hb); have HC19 := zh (need_yes HS9.out.pa HF4.out.1 ⟨#[101, 110, 100]⟩ hb); clear hb; have HR := zh hr; clear hr; go_wp2_with fail
   refine HC19.out.mono ?_; rintro e w17 ⟨rfl, h1, h2⟩; have HS18 := zh (HS9.out.step h1 h2); clear h1 h2; have hr := HR.out; clear HR; have HRR20 := zh (show Res.ok _ _ = r from Option.some.inj hr); clear hr; go_wp2
   go_ret
   exact (by rw [← HRR20.out, HN12.out]; exact HS18.out.out)

theorem walk_unary {f : Nat} (AP : ∀ g, g ≤ f → AllPart g)  : Callee (f + 1) .unary 113 (fun p => #[.pointer (some ⟨p, 0, none⟩)]) := by
 intro K w p i o sn ns fp h hroom ho r hr
 change stepUnary K.T (parF K.T f) o i = some r at hr
 unfold stepUnary at hr
 have HB := zh (Beg.of h)
 have HTK := zh h.env.tok
 have HRM := zh hroom.2
 have HI := zh hroom.1
 have HO := zh ho
 have HS0 := zh (St.start h)
 have HLN := zh h.env.len
 have HAP := zh AP
 clear h hroom ho AP
 have HR := zh hr
 clear hr
 go_enter Tryz.func113, Tryz.ntmps113
 have hr := HR.out
 clear HR
 dsimp only at hr
 have HC3 := zh (now_any HS0.out.pa HI.out)
 have HR := zh hr
 clear hr
 go_wp2_with fail
 refine HC3.out.mono ?_
 rintro e w1 ⟨rfl, h2⟩
 have HS2 := zh (HS0.out.below h2)
 clear h2
 have hr := HR.out
 clear HR
 unfold tkEnc
 have HR := zh hr
 clear hr
 go_upto_region 2 with fail
 obtain ⟨b4, hb⟩ : ∃ b, b = w1.heap.size := ⟨_, rfl⟩
 rw [← hb]
 refine gen_wpT fun w5 hW => ?_
 have HX6 := zh (show w5.heap[b4]? = some (.cells #[.int .i64 (tk K.T i).kind, .string (tk K.T i).text, .int .i64 ((tk K.T i).a : Int), .int .i64 ((tk K.T i).z : Int), .int .i64 (tk K.T i).n] 65 (0, 0)) by rw [← hW]; exact heap_new_at _ _ _ hb.symm)
 have HBL9 := zh (show Below w1.heap.size w1 w5 by rw [← hW]; exact zbr.alloc znr _)
 have HS8 := zh (HS2.out.below HBL9.out)
 have HA7 := zh (Away.new HS2.out.pa (Nat.le_of_eq hb.symm) (blk_lt HX6.out))
 have HBE10 := zh (show w.heap.size ≤ b4 from by have := HS2.out.pt.fr.size; omega)
 clear hW hb
 have x11 := zc 0 HX6.out rfl
 have x12 := zc 1 HX6.out rfl
 have x13 := zc 2 HX6.out rfl
 have x14 := zc 3 HX6.out rfl
 have x15 := zc 4 HX6.out rfl
 have xl16 := blk_lt HX6.out
 have hr := HR.out
 clear HR
 have HC17 := zh (fun W (hW : W = w5.alloc (.cells #[.string ⟨#[110, 111, 116]⟩, .string ⟨#[45]⟩, .string ⟨#[35]⟩] 9)) => (show Calls Tryz.prog 19 #[.pointer (some ⟨p, 0, none⟩), .slice (some ⟨w5.heap.size, 0, none⟩) 3 3] W (RetB (.bool (isAny (tk K.T i) [⟨#[110, 111, 116]⟩, ⟨#[45]⟩, ⟨#[35]⟩])) W) from
  is_any (K := K) (i := i) (o := o) (sn := sn) (ns := ns ++ flats ns.length []) (fp := fp) (c := 3) (L := [⟨#[110, 111, 116]⟩, ⟨#[45]⟩, ⟨#[35]⟩]) (hW ▸ HS8.out.pa.below (zbr.alloc znr _)) HI.out (by rw [hW]; exact .inr ⟨⟨w5.heap.size, 0, none⟩, rfl, by simp, fun j u hu => news_new w5 #[.string ⟨#[110, 111, 116]⟩, .string ⟨#[45]⟩, .string ⟨#[35]⟩] _ _ rfl j u hu⟩) (by simp)))
 cases hb : isAny (tk K.T i) [⟨#[110, 111, 116]⟩, ⟨#[45]⟩, ⟨#[35]⟩] with
 | true =>
  rw [if_pos hb] at hr; have HLT20 := zh (any_lt HTK.out HI.out hb); have HBB := zh hb; clear hb; have HR := zh hr; clear hr; go_wp2_with fail
  clear x11 x12 x13 x14 x15 xl16; refine (HC17.out _ rfl).mono ?_; rw [HBB.out]; rintro e w21 ⟨rfl, h2⟩; have HK23 := zh (show Below w5.heap.size w5 w21 from (zbr.alloc znr _).trans (h2.mono (by simp))); have HS22 := zh (HS8.out.below HK23.out); have HX24 := zh (below_blk HK23.out HX6.out); have HA25 := zh (HA7.out.on HK23.out.size); clear h2; have x26 := zc 0 HX24.out rfl; have x27 := zc 1 HX24.out rfl; have x28 := zc 2 HX24.out rfl; have x29 := zc 3 HX24.out rfl; have x30 := zc 4 HX24.out rfl; have xl31 := blk_lt HX24.out; have hr := HR.out; clear HR; obtain ⟨nv, l, hm⟩ := HS22.out.pa.mem; obtain ⟨-, y36, -, -, -, cf⟩ := pa_cell hm.blk; have y37 := cf 1; have y38 := blk_lt hm.blk; clear hm cf; obtain ⟨i33, hi1⟩ : ∃ ix, ix = i + 1 := ⟨_, rfl⟩; have y39 : (i : Int) + 1 = (i33 : Int) := by omega
  have y40 : i33 ≤ 200002 := by have := HLT20.out; have := HLN.out; omega
  have y41 : IntKind.i64.wrap (i33 : Int) = (i33 : Int) := IntWalk.i64_in _ (by omega)
  try rw [← hi1] at hr
  have HIE34 := zh hi1; have HLT35 := zh (show i33 < K.T.length by rw [hi1]; exact HLT20.out); clear hi1 nv l; have hst := HS22.out.pa.setI i33; have hto : PaTo w21 fp (w21.setCell ⟨p, 1, none⟩ (.int .i64 (i33 : Int))) fp := hst.2; have HS32 := zh (show St K w p i33 o sn ns fp [] (w21.setCell ⟨p, 1, none⟩ (.int .i64 (i33 : Int))) fp from HS22.out.step hst.1 hto); have HX42 := zh (Away.blkTo HX24.out HA25.out hto); have HA43 := zh (HA25.out.to hto); clear hst hto; have x44 := zc 0 HX42.out rfl; have x45 := zc 1 HX42.out rfl; have x46 := zc 2 HX42.out rfl; have x47 := zc 3 HX42.out rfl; have x48 := zc 4 HX42.out rfl; have xl49 := blk_lt HX42.out; unfold deeper at hr; by_cases hdp : 150 < o + 1
  ·rw [if_pos hdp] at hr
   have HRR54 := zh (show Res.bad _ _ = r from (by exact Option.some.inj hr)); have HC56 := zh ((within_deep HS32.out.pa hdp HO.out ((tk K.T i).a) (.func (.func 113) #[.pointer (some ⟨p, 0, none⟩)] #[])).mono fun e w' hh => (show OutB w p _ 61 e w' from ⟨hh.1, HS32.out.bad HB.out hh.2⟩)); clear hr hdp; go_wp2_with fail
   refine HC56.out.mono ?_; rintro e wb ⟨rfl, hb⟩; have HB55 := zh hb; clear hb; unfold wrongP; go_wp2
   exact ⟨rfl, by rw [← HRR54.out]; exact ⟨rfl, HB55.out⟩⟩
  ·rw [if_neg hdp] at hr
   obtain ⟨X, hX⟩ : ∃ X, (parF K.T f).one (.unary) (o + 1) i33 = X := ⟨_, rfl⟩; dsimp only at hr
   rw [hX] at hr; have HDP := zh hdp; clear hdp
   cases X with
   | none => exact absurd hr (by simp [Res.then])
   | some X =>
   cases X with
   | bad a n =>
    have HRR52 := zh (show Res.bad a n = r from (by dsimp only [Res.then] at hr; exact Option.some.inj hr)); have HC58 := zh (within_no (fn := 113) (fst := #[.pointer (some ⟨p, 0, none⟩)]) (cap := #[]) (args := #[.pointer (some ⟨p, 0, none⟩)]) HS32.out HB.out HDP.out ((tk K.T i).a) (fun W => rfl) rfl hX (fun w1 h1 h2 r hr => ((HAP.out f (Nat.le_refl f)).unary) K w1 p i33 (o + 1) sn _ fp h1 ⟨HLT35.out, by rw [len_more]; exact by have := HRM.out; have := HI.out; have := HLT20.out; have := HIE34.out; have := HLT35.out; (try simp only [zS]); omega⟩ (by have := HDP.out; omega) r hr)); clear hr hX; go_wp2_with fail
    refine HC58.out.mono ?_; rintro e wb ⟨rfl, hb⟩; have HB57 := zh hb; clear hb; unfold wrongP; go_wp2
    exact ⟨rfl, by rw [← HRR52.out]; exact ⟨rfl, HB57.out⟩⟩
   | ok t50 j51 =>
    have hft := (fit_all HTK.out f).one (.unary) (o + 1) i33 HLT35.out; rw [hX] at hft; obtain ⟨f1, f2, f3⟩ := hft; simp only [lazy1, sl1, ex1, zf] at f2 f3
    have HF53 := zh (And.intro f1 (And.intro f2 f3)); clear f1 f2 f3; have HC62 := zh (within_ok (fn := 113) (fst := #[.pointer (some ⟨p, 0, none⟩)]) (cap := #[]) (args := #[.pointer (some ⟨p, 0, none⟩)]) HS32.out HDP.out ((tk K.T i).a) (fun W => rfl) rfl hX (fun w1 h1 h2 r hr => ((HAP.out f (Nat.le_refl f)).unary) K w1 p i33 (o + 1) sn _ fp h1 ⟨HLT35.out, by rw [len_more]; exact by have := HRM.out; have := HI.out; have := HLT20.out; have := HIE34.out; have := HLT35.out; (try simp only [zS]); omega⟩ (by have := HDP.out; omega) r hr)); dsimp only [Res.then] at hr
    clear hX; have HR := zh hr; clear hr; go_wp2_with fail
    clear x44 x45 x46 x47 x48 xl49 y36 y37 y38 y39 y40 y41 x26 x27 x28 x29 x30 xl31; refine HC62.out.mono ?_; rintro e w59 ⟨rfl, fp60, h1, h2⟩; obtain ⟨n63, hn⟩ : ∃ n, n = nr ns [] t50 := ⟨_, rfl⟩; rw [← hn]; have HN64 := zh hn; have HS61 := zh (show St K w p j51 o sn ns fp [t50] w59 fp60 from h1); have HX65 := zh (Away.blkTo HX42.out HA43.out h2); have HA66 := zh (HA43.out.to h2); clear h1 h2 hn; have x67 := zc 0 HX65.out rfl; have x68 := zc 1 HX65.out rfl; have x69 := zc 2 HX65.out rfl; have x70 := zc 3 HX65.out rfl; have x71 := zc 4 HX65.out rfl; have xl72 := blk_lt HX65.out; have hr := HR.out; clear HR; have HRR74 := zh (show Res.ok _ _ = r from Option.some.inj hr); clear hr; have HL73 := zh (show ∀ W, W = w59.alloc (.cells #[natV n63] 3) → Calls Tryz.prog 23 #[.pointer (some ⟨p, 0, none⟩), .int .i64 28, .string (tk K.T i).text, natV (tk K.T i).a, .slice (some ⟨w59.heap.size, 0, none⟩) 1 1] W (OutP K w p o sn ns fp (.ok (.mk 28 (tk K.T i).text (tk K.T i).a [t50]) j51)) from fun W hW => by
     subst hW; exact lay_fin (HS61.out.below (zbr.alloc znr _)) (by have := HRM.out; have := HI.out; have := HLT20.out; have := HIE34.out; have := HLT35.out; have := HF53.out; (try simp only [ptsS, ptS, noneT, ptsS_append, List.nil_append, List.cons_append, Nat.add_zero, Nat.zero_add]); omega) (by simp) 28 (tk K.T i).text (tk K.T i).a (KidsV.new w59 n63 [] _ rfl) (by simp only [HN64.out, nr, roots, ptsS, Nat.add_zero, Nat.add_assoc]))
    try unfold natV
    go_wp2_with fail
    refine (HL73.out _ rfl).mono ?_; rintro e wz ⟨rfl, fpz, h1, h2⟩; have HZ75 := zh (show OutP K w p o sn ns fp (.ok (.mk 28 (tk K.T i).text (tk K.T i).a [t50]) j51) (.returned _) wz from ⟨rfl, fpz, h1, h2⟩); clear h1 h2; go_wp2
    go_ret
    exact (by rw [← HRR74.out]; exact HZ75.out)
 | false =>
  rw [if_neg (by rw [hb]; decide)] at hr; have HBB := zh hb; clear hb; have HR := zh hr; clear hr; go_wp2_with fail
  clear x11 x12 x13 x14 x15 xl16; refine (HC17.out _ rfl).mono ?_; rw [HBB.out]; rintro e w76 ⟨rfl, h2⟩; have HK78 := zh (show Below w5.heap.size w5 w76 from (zbr.alloc znr _).trans (h2.mono (by simp))); have HS77 := zh (HS8.out.below HK78.out); have HX79 := zh (below_blk HK78.out HX6.out); have HA80 := zh (HA7.out.on HK78.out.size); clear h2; have x81 := zc 0 HX79.out rfl; have x82 := zc 1 HX79.out rfl; have x83 := zc 2 HX79.out rfl; have x84 := zc 3 HX79.out rfl; have x85 := zc 4 HX79.out rfl; have xl86 := blk_lt HX79.out; have hr := HR.out; clear HR; obtain ⟨X, hX⟩ : ∃ X, (parF K.T f).one (.suffixed) o i = X := ⟨_, rfl⟩; rw [hX] at hr
  cases X with
  | none => exact absurd hr (by simp [Res.then])
  | some X =>
  cases X with
  | bad a n =>
   have HRR89 := zh (show Res.bad a n = r from (by exact Option.some.inj hr)); have HC92 := zh (call_bad ((HAP.out f (Nat.le_refl f)).suffixed) HS77.out HB.out ⟨HI.out, by have := HRM.out; have := HI.out; (try simp only [zS]); omega⟩ HO.out hX); clear hr hX; go_wp2_with fail
   refine HC92.out.mono ?_; rintro e wb ⟨rfl, hb⟩; have HB91 := zh hb; clear hb; unfold wrongP; go_wp2
   exact ⟨rfl, by rw [← HRR89.out]; exact ⟨rfl, HB91.out⟩⟩
  | ok t87 j88 =>
   have hft := (fit_all HTK.out f).one (.suffixed) o i HI.out; rw [hX] at hft; obtain ⟨f1, f2, f3⟩ := hft; simp only [lazy1, sl1, ex1, zf] at f2 f3
   have HF90 := zh (And.intro f1 (And.intro f2 f3)); clear f1 f2 f3; have HC96 := zh (call_ok ((HAP.out f (Nat.le_refl f)).suffixed) HS77.out ⟨HI.out, by have := HRM.out; have := HI.out; (try simp only [zS]); omega⟩ HO.out hX); clear hX; have HR := zh hr; clear hr; go_wp2_with fail
   clear x81 x82 x83 x84 x85 xl86; refine HC96.out.mono ?_; rintro e w93 ⟨rfl, fp94, h1, h2⟩; obtain ⟨n97, hn⟩ : ∃ n, n = nr ns [] t87 := ⟨_, rfl⟩; rw [← hn]; have HN98 := zh hn; have HS95 := zh (show St K w p j88 o sn ns fp [t87] w93 fp94 from h1); have HX99 := zh (Away.blkTo HX79.out HA80.out h2); have HA100 := zh (HA80.out.to h2); clear h1 h2 hn; have x101 := zc 0 HX99.out rfl; have x102 := zc 1 HX99.out rfl; have x103 := zc 2 HX99.out rfl; have x104 := zc 3 HX99.out rfl; have x105 := zc 4 HX99.out rfl; have xl106 := blk_lt HX99.out; have hr := HR.out; clear HR; have HRR107 := zh (show Res.ok _ _ = r from Option.some.inj hr); clear hr; go_wp2
   go_ret
   exact (by rw [← HRR107.out, HN98.out]; exact HS95.out.out)

theorem wrap_stat1 {f : Nat} (a : Nat) (hC : Callee f (.body a) 76 (fun p => #[.pointer (some ⟨p, 0, none⟩), natV a])) : ClosA f a (.body a) 75 := by
 intro K w p i o sn ns fp b b2 h hroom ho hb1 ha1 hb2 ha2 r hr
 have HC := zh (hC K w p i o sn ns fp h hroom ho r hr)
 have x1 := zc 0 hb1 rfl
 have xl1 := blk_lt hb1
 have x2 := zc 0 hb2 rfl
 have xl2 := blk_lt hb2
 unfold natV at x2
 clear h hroom ho hb1 ha1 hb2 ha2 hr hC
 go_enter Tryz.func75, Tryz.ntmps75
 go_wp2_with fail
 refine HC.out.mono ?_
 cases r with
 | bad a' n =>
  rintro e w1 ⟨rfl, hb⟩; have HB := zh hb; clear hb; unfold wrongP; go_wp2
  exact ⟨rfl, rfl, HB.out⟩
 | ok t' j =>
  rintro e w1 ⟨rfl, fp1, h1, h2⟩; have HZ := zh (And.intro h1 h2); clear h1 h2; go_wp2
  go_ret
  exact ⟨rfl, fp1, HZ.out⟩
theorem wrap_stat2 {f : Nat} (a : Nat) (hC : Callee f (.cond a) 78 (fun p => #[.pointer (some ⟨p, 0, none⟩), natV a])) : ClosA f a (.cond a) 77 := by
 intro K w p i o sn ns fp b b2 h hroom ho hb1 ha1 hb2 ha2 r hr
 have HC := zh (hC K w p i o sn ns fp h hroom ho r hr)
 have x1 := zc 0 hb1 rfl
 have xl1 := blk_lt hb1
 have x2 := zc 0 hb2 rfl
 have xl2 := blk_lt hb2
 unfold natV at x2
 clear h hroom ho hb1 ha1 hb2 ha2 hr hC
 go_enter Tryz.func77, Tryz.ntmps77
 go_wp2_with fail
 refine HC.out.mono ?_
 cases r with
 | bad a' n =>
  rintro e w1 ⟨rfl, hb⟩; have HB := zh hb; clear hb; unfold wrongP; go_wp2
  exact ⟨rfl, rfl, HB.out⟩
 | ok t' j =>
  rintro e w1 ⟨rfl, fp1, h1, h2⟩; have HZ := zh (And.intro h1 h2); clear h1 h2; go_wp2
  go_ret
  exact ⟨rfl, fp1, HZ.out⟩
theorem wrap_cond1 {f : Nat} (a : Nat) (hC : Callee f (.cond a) 78 (fun p => #[.pointer (some ⟨p, 0, none⟩), natV a])) : ClosA f a (.cond a) 98 := by
 intro K w p i o sn ns fp b b2 h hroom ho hb1 ha1 hb2 ha2 r hr
 have HC := zh (hC K w p i o sn ns fp h hroom ho r hr)
 have x1 := zc 0 hb1 rfl
 have xl1 := blk_lt hb1
 have x2 := zc 0 hb2 rfl
 have xl2 := blk_lt hb2
 unfold natV at x2
 clear h hroom ho hb1 ha1 hb2 ha2 hr hC
 go_enter Tryz.func98, Tryz.ntmps98
 go_wp2_with fail
 refine HC.out.mono ?_
 cases r with
 | bad a' n =>
  rintro e w1 ⟨rfl, hb⟩; have HB := zh hb; clear hb; unfold wrongP; go_wp2
  exact ⟨rfl, rfl, HB.out⟩
 | ok t' j =>
  rintro e w1 ⟨rfl, fp1, h1, h2⟩; have HZ := zh (And.intro h1 h2); clear h1 h2; go_wp2
  go_ret
  exact ⟨rfl, fp1, HZ.out⟩
theorem wrap_prim1 {f : Nat} (t : Tok) (hC : Callee f (.body t.a) 76 (fun p => #[.pointer (some ⟨p, 0, none⟩), natV t.a])) : ClosT f t (.body t.a) 131 := by
 intro K w p i o sn ns fp b b2 h hroom ho hb1 ha1 hb2 ha2 r hr
 have HC := zh (hC K w p i o sn ns fp h hroom ho r hr)
 have x1 := zc 0 hb1 rfl
 have xl1 := blk_lt hb1
 obtain ⟨y0, y1, x2, y3, y4, xl2⟩ := blk5 hb2
 clear h hroom ho hb1 ha1 hb2 ha2 hr hC
 go_enter Tryz.func131, Tryz.ntmps131
 go_wp2_with fail
 refine HC.out.mono ?_
 cases r with
 | bad a' n =>
  rintro e w1 ⟨rfl, hb⟩; have HB := zh hb; clear hb; unfold wrongP; go_wp2
  exact ⟨rfl, rfl, HB.out⟩
 | ok t' j =>
  rintro e w1 ⟨rfl, fp1, h1, h2⟩; have HZ := zh (And.intro h1 h2); clear h1 h2; go_wp2
  go_ret
  exact ⟨rfl, fp1, HZ.out⟩
theorem wrap_prim3 {f : Nat} (t : Tok) (hC : Callee f (.table t.a) 134 (fun p => #[.pointer (some ⟨p, 0, none⟩), natV t.a])) : ClosT f t (.table t.a) 133 := by
 intro K w p i o sn ns fp b b2 h hroom ho hb1 ha1 hb2 ha2 r hr
 have HC := zh (hC K w p i o sn ns fp h hroom ho r hr)
 have x1 := zc 0 hb1 rfl
 have xl1 := blk_lt hb1
 obtain ⟨y0, y1, x2, y3, y4, xl2⟩ := blk5 hb2
 clear h hroom ho hb1 ha1 hb2 ha2 hr hC
 go_enter Tryz.func133, Tryz.ntmps133
 go_wp2_with fail
 refine HC.out.mono ?_
 cases r with
 | bad a' n =>
  rintro e w1 ⟨rfl, hb⟩; have HB := zh hb; clear hb; unfold wrongP; go_wp2
  exact ⟨rfl, rfl, HB.out⟩
 | ok t' j =>
  rintro e w1 ⟨rfl, fp1, h1, h2⟩; have HZ := zh (And.intro h1 h2); clear h1 h2; go_wp2
  go_ret
  exact ⟨rfl, fp1, HZ.out⟩
theorem wrap_one1 {f : Nat} (t : Tok) (hC : Callee f (.shape t.a) 129 (fun p => #[.pointer (some ⟨p, 0, none⟩), natV t.a])) : ClosT f t (.shape t.a) 128 := by
 intro K w p i o sn ns fp b b2 h hroom ho hb1 ha1 hb2 ha2 r hr
 have HC := zh (hC K w p i o sn ns fp h hroom ho r hr)
 have x1 := zc 0 hb1 rfl
 have xl1 := blk_lt hb1
 obtain ⟨y0, y1, x2, y3, y4, xl2⟩ := blk5 hb2
 clear h hroom ho hb1 ha1 hb2 ha2 hr hC
 go_enter Tryz.func128, Tryz.ntmps128
 go_wp2_with fail
 refine HC.out.mono ?_
 cases r with
 | bad a' n =>
  rintro e w1 ⟨rfl, hb⟩; have HB := zh hb; clear hb; unfold wrongP; go_wp2
  exact ⟨rfl, rfl, HB.out⟩
 | ok t' j =>
  rintro e w1 ⟨rfl, fp1, h1, h2⟩; have HZ := zh (And.intro h1 h2); clear h1 h2; go_wp2
  go_ret
  exact ⟨rfl, fp1, HZ.out⟩
theorem clos_while {f : Nat} (AP : ∀ g, g ≤ f → AllPart g) (a : Nat) : ClosA (f + 1) a (.whileB a) 79 := by
 intro K w p i o sn ns fp b b2 h hroom ho hb1 ha1 hb2 ha2 r hr
 change stepWhile K.T (parF K.T f) a o i = some r at hr
 unfold stepWhile at hr
 have HB := zh (Beg.of h)
 have HTK := zh h.env.tok
 have HRM := zh hroom.2
 have HI := zh hroom.1
 have HO := zh ho
 have HS0 := zh (St.start h)
 have HLN := zh h.env.len
 have HAP := zh AP
 have HX0 := zh hb1
 have HA0 := zh ha1
 have HX00 := zh hb2
 have HA00 := zh ha2
 clear h hroom ho AP hb1 ha1 hb2 ha2
 have HR := zh hr
 clear hr
 go_enter Tryz.func79, Tryz.ntmps79
 have x1 := zc 0 HX0.out rfl
 have xl2 := blk_lt HX0.out
 have x3 := zc 0 HX00.out rfl
 have xl4 := blk_lt HX00.out
 have hr := HR.out
 clear HR
 obtain ⟨X, hX⟩ : ∃ X, (parF K.T f).one (.exp) o i = X := ⟨_, rfl⟩
 rw [hX] at hr
 cases X with
 | none => exact absurd hr (by simp [Res.then])
 | some X =>
 cases X with
 | bad a n =>
  have HRR7 := zh (show Res.bad a n = r from (by dsimp only [Res.then] at hr; exact Option.some.inj hr)); have HC10 := zh (call_bad ((HAP.out f (Nat.le_refl f)).exp) HS0.out HB.out ⟨HI.out, by have := HRM.out; have := HI.out; (try simp only [zS]); omega⟩ HO.out hX); clear hr hX; go_wp2_with fail
  refine HC10.out.mono ?_; rintro e wb ⟨rfl, hb⟩; have HB9 := zh hb; clear hb; unfold wrongP; go_wp2
  exact ⟨rfl, by rw [← HRR7.out]; exact ⟨rfl, HB9.out⟩⟩
 | ok t5 j6 =>
  have hft := (fit_all HTK.out f).one (.exp) o i HI.out; rw [hX] at hft; obtain ⟨f1, f2, f3⟩ := hft; simp only [lazy1, sl1, ex1, zf] at f2 f3
  have HF8 := zh (And.intro f1 (And.intro f2 f3)); clear f1 f2 f3; have HC14 := zh (call_ok ((HAP.out f (Nat.le_refl f)).exp) HS0.out ⟨HI.out, by have := HRM.out; have := HI.out; (try simp only [zS]); omega⟩ HO.out hX); dsimp only [Res.then] at hr
  clear hX; have HR := zh hr; clear hr; go_wp2_with fail
  clear x1 xl2 x3 xl4; refine HC14.out.mono ?_; rintro e w11 ⟨rfl, fp12, h1, h2⟩; obtain ⟨n15, hn⟩ : ∃ n, n = nr ns [] t5 := ⟨_, rfl⟩; rw [← hn]; have HN16 := zh hn; have HS13 := zh (show St K w p j6 o sn ns fp [t5] w11 fp12 from h1); have HX17 := zh (Away.blkTo HX0.out HA0.out h2); have HA18 := zh (HA0.out.to h2); have HX19 := zh (Away.blkTo HX00.out HA00.out h2); have HA20 := zh (HA00.out.to h2); clear h1 h2 hn; have x21 := zc 0 HX17.out rfl; have xl22 := blk_lt HX17.out; have x23 := zc 0 HX19.out rfl; have xl24 := blk_lt HX19.out; have hr := HR.out; clear HR; unfold need at hr
  cases hb : isAny (tk K.T j6) [⟨#[100, 111]⟩] with
  | false =>
   rw [if_neg (by rw [hb]; decide)] at hr; have HRR26 := zh (show Res.bad _ _ = r from (by exact Option.some.inj hr)); have HC28 := zh ((need_no HS13.out.pa HF8.out.1 ⟨#[100, 111]⟩ hb).mono fun e w' hh => (show OutB w p _ 70 e w' from ⟨hh.1, HS13.out.bad HB.out hh.2⟩)); clear hr; go_wp2_with fail
   refine HC28.out.mono ?_; rintro e wb ⟨rfl, hb⟩; have HB27 := zh hb; clear hb; unfold wrongP; go_wp2
   exact ⟨rfl, by rw [← HRR26.out]; exact ⟨rfl, HB27.out⟩⟩
  | true =>
   rw [if_pos hb] at hr; have HLT25 := zh (any_lt HTK.out HF8.out.1 hb); have HC31 := zh (need_yes HS13.out.pa HF8.out.1 ⟨#[100, 111]⟩ hb); clear hb; have HR := zh hr; clear hr; go_wp2_with fail
   clear x21 xl22 x23 xl24; refine HC31.out.mono ?_; rintro e w29 ⟨rfl, h1, h2⟩; have HS30 := zh (HS13.out.step h1 h2); have HX32 := zh (Away.blkTo HX17.out HA18.out h2); have HA33 := zh (HA18.out.to h2); have HX34 := zh (Away.blkTo HX19.out HA20.out h2); have HA35 := zh (HA20.out.to h2); clear h1 h2; have x36 := zc 0 HX32.out rfl; have xl37 := blk_lt HX32.out; have x38 := zc 0 HX34.out rfl; have xl39 := blk_lt HX34.out; have hr := HR.out; clear HR; obtain ⟨X, hX⟩ : ∃ X, (parF K.T f).one (.ended) o (j6 + 1) = X := ⟨_, rfl⟩; rw [hX] at hr
   cases X with
   | none => exact absurd hr (by simp [Res.then])
   | some X =>
   cases X with
   | bad a n =>
    have HRR42 := zh (show Res.bad a n = r from (by dsimp only [Res.then] at hr; exact Option.some.inj hr)); have HC45 := zh (call_bad ((HAP.out f (Nat.le_refl f)).ended) HS30.out HB.out ⟨HLT25.out, by have := HRM.out; have := HI.out; have := HF8.out; have := HLT25.out; (try simp only [zS]); omega⟩ HO.out hX); clear hr hX; go_wp2_with fail
    refine HC45.out.mono ?_; rintro e wb ⟨rfl, hb⟩; have HB44 := zh hb; clear hb; unfold wrongP; go_wp2
    exact ⟨rfl, by rw [← HRR42.out]; exact ⟨rfl, HB44.out⟩⟩
   | ok t40 j41 =>
    have hft := (fit_all HTK.out f).one (.ended) o (j6 + 1) HLT25.out; rw [hX] at hft; obtain ⟨f1, f2, f3⟩ := hft; simp only [lazy1, sl1, ex1, zf] at f2 f3
    have HF43 := zh (And.intro f1 (And.intro f2 f3)); clear f1 f2 f3; have HC49 := zh (call_ok ((HAP.out f (Nat.le_refl f)).ended) HS30.out ⟨HLT25.out, by have := HRM.out; have := HI.out; have := HF8.out; have := HLT25.out; (try simp only [zS]); omega⟩ HO.out hX); dsimp only [Res.then] at hr
    clear hX; have HR := zh hr; clear hr; go_wp2_with fail
    clear x36 xl37 x38 xl39; refine HC49.out.mono ?_; rintro e w46 ⟨rfl, fp47, h1, h2⟩; obtain ⟨n50, hn⟩ : ∃ n, n = nr ns [t5] t40 := ⟨_, rfl⟩; rw [← hn]; have HN51 := zh hn; have HS48 := zh (show St K w p j41 o sn ns fp [t5, t40] w46 fp47 from h1); have HX52 := zh (Away.blkTo HX32.out HA33.out h2); have HA53 := zh (HA33.out.to h2); have HX54 := zh (Away.blkTo HX34.out HA35.out h2); have HA55 := zh (HA35.out.to h2); clear h1 h2 hn; have x56 := zc 0 HX52.out rfl; have xl57 := blk_lt HX52.out; have x58 := zc 0 HX54.out rfl; have xl59 := blk_lt HX54.out; have hr := HR.out; clear HR; have HRR61 := zh (show Res.ok _ _ = r from Option.some.inj hr); clear hr; have HL60 := zh (show ∀ W, W = w46.alloc (.cells #[natV n15, natV n50] 3) → Calls Tryz.prog 23 #[.pointer (some ⟨p, 0, none⟩), .int .i64 9, .string ⟨#[]⟩, natV a, .slice (some ⟨w46.heap.size, 0, none⟩) 2 2] W (OutP K w p o sn ns fp (.ok (.mk 9 ⟨#[]⟩ a [t5, t40]) j41)) from fun W hW => by
     subst hW; exact lay_fin (HS48.out.below (zbr.alloc znr _)) (by have := HRM.out; have := HI.out; have := HF8.out; have := HLT25.out; have := HF43.out; (try simp only [ptsS, ptS, noneT, ptsS_append, List.nil_append, List.cons_append, Nat.add_zero, Nat.zero_add]); omega) (by simp) 9 ⟨#[]⟩ a (KidsV.new w46 n15 [n50] _ rfl) (by simp only [HN16.out, HN51.out, nr, roots, ptsS, Nat.add_zero, Nat.add_assoc]))
    try unfold natV
    go_wp2_with fail
    refine (HL60.out _ rfl).mono ?_; rintro e wz ⟨rfl, fpz, h1, h2⟩; have HZ62 := zh (show OutP K w p o sn ns fp (.ok (.mk 9 ⟨#[]⟩ a [t5, t40]) j41) (.returned _) wz from ⟨rfl, fpz, h1, h2⟩); clear h1 h2; go_wp2
    go_ret
    exact (by rw [← HRR61.out]; exact HZ62.out)
theorem clos_index {f : Nat} (AP : ∀ g, g ≤ f → AllPart g)  : ClosP (f + 1)  .index 115 := by
 intro K w p i o sn ns fp b h hroom ho hb1 ha1 r hr
 change stepIndex K.T (parF K.T f) o i = some r at hr
 unfold stepIndex at hr
 have HB := zh (Beg.of h)
 have HTK := zh h.env.tok
 have HRM := zh hroom.2
 have HI := zh hroom.1
 have HO := zh ho
 have HS0 := zh (St.start h)
 have HLN := zh h.env.len
 have HAP := zh AP
 have HX0 := zh hb1
 have HA0 := zh ha1
 clear h hroom ho AP hb1 ha1
 have HR := zh hr
 clear hr
 go_enter Tryz.func115, Tryz.ntmps115
 have x1 := zc 0 HX0.out rfl
 have xl2 := blk_lt HX0.out
 have hr := HR.out
 clear HR
 obtain ⟨X, hX⟩ : ∃ X, (parF K.T f).one (.exp) o i = X := ⟨_, rfl⟩
 rw [hX] at hr
 cases X with
 | none => exact absurd hr (by simp [Res.then])
 | some X =>
 cases X with
 | bad a n =>
  have HRR5 := zh (show Res.bad a n = r from (by dsimp only [Res.then] at hr; exact Option.some.inj hr)); have HC8 := zh (call_bad ((HAP.out f (Nat.le_refl f)).exp) HS0.out HB.out ⟨HI.out, by have := HRM.out; have := HI.out; (try simp only [zS]); omega⟩ HO.out hX); clear hr hX; go_wp2_with fail
  refine HC8.out.mono ?_; rintro e wb ⟨rfl, hb⟩; have HB7 := zh hb; clear hb; unfold wrongP; go_wp2
  exact ⟨rfl, by rw [← HRR5.out]; exact ⟨rfl, HB7.out⟩⟩
 | ok t3 j4 =>
  have hft := (fit_all HTK.out f).one (.exp) o i HI.out; rw [hX] at hft; obtain ⟨f1, f2, f3⟩ := hft; simp only [lazy1, sl1, ex1, zf] at f2 f3
  have HF6 := zh (And.intro f1 (And.intro f2 f3)); clear f1 f2 f3; have HC12 := zh (call_ok ((HAP.out f (Nat.le_refl f)).exp) HS0.out ⟨HI.out, by have := HRM.out; have := HI.out; (try simp only [zS]); omega⟩ HO.out hX); dsimp only [Res.then] at hr
  clear hX; have HR := zh hr; clear hr; go_wp2_with fail
  clear x1 xl2; refine HC12.out.mono ?_; rintro e w9 ⟨rfl, fp10, h1, h2⟩; obtain ⟨n13, hn⟩ : ∃ n, n = nr ns [] t3 := ⟨_, rfl⟩; rw [← hn]; have HN14 := zh hn; have HS11 := zh (show St K w p j4 o sn ns fp [t3] w9 fp10 from h1); have HX15 := zh (Away.blkTo HX0.out HA0.out h2); have HA16 := zh (HA0.out.to h2); clear h1 h2 hn; have x17 := zc 0 HX15.out rfl; have xl18 := blk_lt HX15.out; have hr := HR.out; clear HR; unfold need at hr
  cases hb : isAny (tk K.T j4) [⟨#[93]⟩] with
  | false =>
   rw [if_neg (by rw [hb]; decide)] at hr; have HRR20 := zh (show Res.bad _ _ = r from (by exact Option.some.inj hr)); have HC22 := zh ((need_no HS11.out.pa HF6.out.1 ⟨#[93]⟩ hb).mono fun e w' hh => (show OutB w p _ 70 e w' from ⟨hh.1, HS11.out.bad HB.out hh.2⟩)); clear hr; go_wp2_with fail
   refine HC22.out.mono ?_; rintro e wb ⟨rfl, hb⟩; have HB21 := zh hb; clear hb; unfold wrongP; go_wp2
   exact ⟨rfl, by rw [← HRR20.out]; exact ⟨rfl, HB21.out⟩⟩
  | true =>
   rw [if_pos hb] at hr; have HLT19 := zh (any_lt HTK.out HF6.out.1 hb); have HC25 := zh (need_yes HS11.out.pa HF6.out.1 ⟨#[93]⟩ hb); clear hb; have HR := zh hr; clear hr; go_wp2_with fail
   clear x17 xl18; refine HC25.out.mono ?_; rintro e w23 ⟨rfl, h1, h2⟩; have HS24 := zh (HS11.out.step h1 h2); have HX26 := zh (Away.blkTo HX15.out HA16.out h2); have HA27 := zh (HA16.out.to h2); clear h1 h2; have x28 := zc 0 HX26.out rfl; have xl29 := blk_lt HX26.out; have hr := HR.out; clear HR; have HRR30 := zh (show Res.ok _ _ = r from Option.some.inj hr); clear hr; go_wp2
   go_ret
   exact (by rw [← HRR30.out, HN14.out]; exact HS24.out.out)
theorem clos_paren {f : Nat} (AP : ∀ g, g ≤ f → AllPart g)  : ClosP (f + 1)  .paren 132 := by
 intro K w p i o sn ns fp b h hroom ho hb1 ha1 r hr
 change stepParen K.T (parF K.T f) o i = some r at hr
 unfold stepParen at hr
 have HB := zh (Beg.of h)
 have HTK := zh h.env.tok
 have HRM := zh hroom.2
 have HI := zh hroom.1
 have HO := zh ho
 have HS0 := zh (St.start h)
 have HLN := zh h.env.len
 have HAP := zh AP
 have HX0 := zh hb1
 have HA0 := zh ha1
 clear h hroom ho AP hb1 ha1
 have HR := zh hr
 clear hr
 go_enter Tryz.func132, Tryz.ntmps132
 have x1 := zc 0 HX0.out rfl
 have xl2 := blk_lt HX0.out
 have hr := HR.out
 clear HR
 obtain ⟨X, hX⟩ : ∃ X, (parF K.T f).one (.exp) o i = X := ⟨_, rfl⟩
 rw [hX] at hr
 cases X with
 | none => exact absurd hr (by simp [Res.then])
 | some X =>
 cases X with
 | bad a n =>
  have HRR5 := zh (show Res.bad a n = r from (by dsimp only [Res.then] at hr; exact Option.some.inj hr)); have HC8 := zh (call_bad ((HAP.out f (Nat.le_refl f)).exp) HS0.out HB.out ⟨HI.out, by have := HRM.out; have := HI.out; (try simp only [zS]); omega⟩ HO.out hX); clear hr hX; go_wp2_with fail
  refine HC8.out.mono ?_; rintro e wb ⟨rfl, hb⟩; have HB7 := zh hb; clear hb; unfold wrongP; go_wp2
  exact ⟨rfl, by rw [← HRR5.out]; exact ⟨rfl, HB7.out⟩⟩
 | ok t3 j4 =>
  have hft := (fit_all HTK.out f).one (.exp) o i HI.out; rw [hX] at hft; obtain ⟨f1, f2, f3⟩ := hft; simp only [lazy1, sl1, ex1, zf] at f2 f3
  have HF6 := zh (And.intro f1 (And.intro f2 f3)); clear f1 f2 f3; have HC12 := zh (call_ok ((HAP.out f (Nat.le_refl f)).exp) HS0.out ⟨HI.out, by have := HRM.out; have := HI.out; (try simp only [zS]); omega⟩ HO.out hX); dsimp only [Res.then] at hr
  clear hX; have HR := zh hr; clear hr; go_wp2_with fail
  clear x1 xl2; refine HC12.out.mono ?_; rintro e w9 ⟨rfl, fp10, h1, h2⟩; obtain ⟨n13, hn⟩ : ∃ n, n = nr ns [] t3 := ⟨_, rfl⟩; rw [← hn]; have HN14 := zh hn; have HS11 := zh (show St K w p j4 o sn ns fp [t3] w9 fp10 from h1); have HX15 := zh (Away.blkTo HX0.out HA0.out h2); have HA16 := zh (HA0.out.to h2); clear h1 h2 hn; have x17 := zc 0 HX15.out rfl; have xl18 := blk_lt HX15.out; have hr := HR.out; clear HR; unfold need at hr
  cases hb : isAny (tk K.T j4) [⟨#[41]⟩] with
  | false =>
   rw [if_neg (by rw [hb]; decide)] at hr; have HRR20 := zh (show Res.bad _ _ = r from (by exact Option.some.inj hr)); have HC22 := zh ((need_no HS11.out.pa HF6.out.1 ⟨#[41]⟩ hb).mono fun e w' hh => (show OutB w p _ 70 e w' from ⟨hh.1, HS11.out.bad HB.out hh.2⟩)); clear hr; go_wp2_with fail
   refine HC22.out.mono ?_; rintro e wb ⟨rfl, hb⟩; have HB21 := zh hb; clear hb; unfold wrongP; go_wp2
   exact ⟨rfl, by rw [← HRR20.out]; exact ⟨rfl, HB21.out⟩⟩
  | true =>
   rw [if_pos hb] at hr; have HLT19 := zh (any_lt HTK.out HF6.out.1 hb); have HC25 := zh (need_yes HS11.out.pa HF6.out.1 ⟨#[41]⟩ hb); clear hb; have HR := zh hr; clear hr; go_wp2_with fail
   clear x17 xl18; refine HC25.out.mono ?_; rintro e w23 ⟨rfl, h1, h2⟩; have HS24 := zh (HS11.out.step h1 h2); have HX26 := zh (Away.blkTo HX15.out HA16.out h2); have HA27 := zh (HA16.out.to h2); clear h1 h2; have x28 := zc 0 HX26.out rfl; have xl29 := blk_lt HX26.out; have hr := HR.out; clear HR; have HRR30 := zh (show Res.ok _ _ = r from Option.some.inj hr); clear hr; go_wp2
   go_ret
   exact (by rw [← HRR30.out, HN14.out]; exact HS24.out.out)

theorem walk_colon {f : Nat} (AP : ∀ g, g ≤ f → AllPart g) (bd : Bool) : Callee (f + 1) (.colon bd) 73 (fun p => #[.pointer (some ⟨p, 0, none⟩), .bool bd]) := by
 intro K w p i o sn ns fp h hroom ho r hr
 change stepColon K.T (parF K.T f) bd o i = some r at hr
 unfold stepColon at hr
 have HB := zh (Beg.of h)
 have HTK := zh h.env.tok
 have HRM := zh hroom.2
 have HI := zh hroom.1
 have HO := zh ho
 have HS0 := zh (St.start h)
 have HLN := zh h.env.len
 have HAP := zh AP
 clear h hroom ho AP
 have HR := zh hr
 clear hr
 go_enter Tryz.func73, Tryz.ntmps73
 have hr := HR.out
 clear HR
 cases hb : isAny (tk K.T i) [⟨#[58]⟩] with
 | true =>
  rw [if_pos hb] at hr; have HLT1 := zh (any_lt HTK.out HI.out hb); have HC4 := zh (got_yes HS0.out.pa HI.out ⟨#[58]⟩ hb); clear hb; have HR := zh hr; clear hr; go_wp2_with fail
  refine HC4.out.mono ?_; rintro e w2 ⟨rfl, h1, h2⟩; have HS3 := zh (HS0.out.step h1 h2); clear h1 h2; have hr := HR.out; clear HR; obtain ⟨X, hX⟩ : ∃ X, (parF K.T f).one (.kind) o (i + 1) = X := ⟨_, rfl⟩; rw [hX] at hr
  cases X with
  | none => exact absurd hr (by simp [Res.then])
  | some X =>
  cases X with
  | bad a n =>
   have HRR7 := zh (show Res.bad a n = r from (by dsimp only [Res.then] at hr; exact Option.some.inj hr)); have HC10 := zh (call_bad ((HAP.out f (Nat.le_refl f)).kind) HS3.out HB.out ⟨HLT1.out, by have := HRM.out; have := HI.out; have := HLT1.out; (try simp only [zS]); omega⟩ HO.out hX); clear hr hX; go_wp2_with fail
   refine HC10.out.mono ?_; rintro e wb ⟨rfl, hb⟩; have HB9 := zh hb; clear hb; unfold wrongP; go_wp2
   exact ⟨rfl, by rw [← HRR7.out]; exact ⟨rfl, HB9.out⟩⟩
  | ok t5 j6 =>
   have hft := (fit_all HTK.out f).one (.kind) o (i + 1) HLT1.out; rw [hX] at hft; obtain ⟨f1, f2, f3⟩ := hft; simp only [lazy1, sl1, ex1, zf] at f2 f3
   have HF8 := zh (And.intro f1 (And.intro f2 f3)); clear f1 f2 f3; have HC14 := zh (call_ok ((HAP.out f (Nat.le_refl f)).kind) HS3.out ⟨HLT1.out, by have := HRM.out; have := HI.out; have := HLT1.out; (try simp only [zS]); omega⟩ HO.out hX); dsimp only [Res.then] at hr
   clear hX; have HR := zh hr; clear hr; go_wp2_with fail
   refine HC14.out.mono ?_; rintro e w11 ⟨rfl, fp12, h1, h2⟩; obtain ⟨n15, hn⟩ : ∃ n, n = nr ns [] t5 := ⟨_, rfl⟩; rw [← hn]; have HN16 := zh hn; have HS13 := zh (show St K w p j6 o sn ns fp [t5] w11 fp12 from h1); clear h1 h2 hn; have hr := HR.out; clear HR; have HC19 := zh (at_any HS13.out.pa HF8.out.1); have HR := zh hr; clear hr; go_wp2_with fail
   refine HC19.out.mono ?_; rintro e w17 ⟨rfl, h2⟩; have HS18 := zh (HS13.out.below h2); clear h2; have hr := HR.out; clear HR
   cases bd with
   | true =>
    rw [Bool.true_and] at hr
    cases hb : isAny (tk K.T j6) [⟨#[64]⟩] with
    | true =>
     rw [if_pos hb] at hr; have HLT20 := zh (any_lt HTK.out HF8.out.1 hb); have HC23 := zh (got_yes HS18.out.pa HF8.out.1 ⟨#[64]⟩ hb); clear hb; have HR := zh hr; clear hr; go_wp2_with fail
     refine HC23.out.mono ?_; rintro e w21 ⟨rfl, h1, h2⟩; have HS22 := zh (HS18.out.step h1 h2); clear h1 h2; have hr := HR.out; clear HR; rw [mask_then] at hr; obtain ⟨X, hX⟩ : ∃ X, maskL K.T (j6 + 1) one1 = X := ⟨_, rfl⟩; rw [hX] at hr
     cases X with
     | none => exact absurd hr (by simp [Res.then])
     | some X =>
     cases X with
     | bad a n =>
      have HRR24 := zh (show Res.bad a n = r from by dsimp only [Res.then] at hr; exact Option.some.inj hr); have HC29 := zh ((mask_any HS22.out.pa HLT20.out hX).mono fun e w' hh => (show OutB w p a n e w' from ⟨hh.1, HS22.out.bad HB.out hh.2⟩)); clear hr hX; go_wp2_with fail
      refine HC29.out.mono ?_; rintro e wb ⟨rfl, hb⟩; have HB28 := zh hb; clear hb; unfold wrongP; go_wp2
      exact ⟨rfl, by rw [← HRR24.out]; exact ⟨rfl, HB28.out⟩⟩
     | ok m25 j26 =>
      dsimp only [Res.then] at hr
      have hft := FSat.mask (Q := fun (x : ByteArray) j => (j6 + 1) < j ∧ j < K.T.length) (k := one1) HTK.out HLT20.out (fun x j h1 h2 => ⟨h1, h2⟩); rw [hX] at hft; have HF27 := zh (show (j6 + 1) < j26 ∧ j26 < K.T.length from hft); clear hft; have HC32 := zh ((show Calls Tryz.prog 45 #[.pointer (some ⟨p, 0, none⟩)] w21 (OutV K w21 p j26 o sn (ns ++ flats ns.length [t5]) fp12 (.string m25)) from mask_any HS22.out.pa HLT20.out hX)); clear hX; have HR := zh hr; clear hr; go_wp2_with fail
      refine HC32.out.mono ?_; rintro e w30 ⟨rfl, h1, h2⟩; have HS31 := zh (HS22.out.step h1 h2); clear h1 h2; have hr := HR.out; clear HR; have HRR34 := zh (show Res.ok _ _ = r from Option.some.inj hr); clear hr; have HL33 := zh (show ∀ W, W = w30.alloc (.cells #[natV n15] 3) → Calls Tryz.prog 23 #[.pointer (some ⟨p, 0, none⟩), .int .i64 36, .string m25, natV (tk K.T j6).a, .slice (some ⟨w30.heap.size, 0, none⟩) 1 1] W (OutP K w p o sn ns fp (.ok (.mk 36 m25 (tk K.T j6).a [t5]) j26)) from fun W hW => by
       subst hW; exact lay_fin (HS31.out.below (zbr.alloc znr _)) (by have := HRM.out; have := HI.out; have := HLT1.out; have := HF8.out; have := HLT20.out; have := HF27.out; (try simp only [ptsS, ptS, noneT, ptsS_append, List.nil_append, List.cons_append, Nat.add_zero, Nat.zero_add]); omega) (by simp) 36 m25 (tk K.T j6).a (KidsV.new w30 n15 [] _ rfl) (by simp only [HN16.out, nr, roots, ptsS, Nat.add_zero, Nat.add_assoc]))
      try unfold natV
      go_wp2_with fail
      refine (HL33.out _ rfl).mono ?_; rintro e wz ⟨rfl, fpz, h1, h2⟩; have HZ35 := zh (show OutP K w p o sn ns fp (.ok (.mk 36 m25 (tk K.T j6).a [t5]) j26) (.returned _) wz from ⟨rfl, fpz, h1, h2⟩); clear h1 h2; go_wp2
      go_ret
      exact (by rw [← HRR34.out]; exact HZ35.out)
    | false =>
     rw [if_neg (by rw [hb]; decide)] at hr; have HC38 := zh (got_no HS18.out.pa HF8.out.1 ⟨#[64]⟩ hb); clear hb; have HR := zh hr; clear hr; go_wp2_with fail
     refine HC38.out.mono ?_; rintro e w36 ⟨rfl, h1, h2⟩; have HS37 := zh (HS18.out.below h2); clear h2 h1; have hr := HR.out; clear HR; have HRR39 := zh (show Res.ok _ _ = r from Option.some.inj hr); clear hr; go_wp2
     go_ret
     exact (by rw [← HRR39.out, HN16.out]; exact HS37.out.out)
   | false =>
    rw [Bool.false_and, if_neg (by decide)] at hr; have HRR40 := zh (show Res.ok _ _ = r from Option.some.inj hr); clear hr; go_wp2
    go_ret
    exact (by rw [← HRR40.out, HN16.out]; exact HS18.out.out)
 | false =>
  rw [if_neg (by rw [hb]; decide)] at hr; have HC43 := zh (got_no HS0.out.pa HI.out ⟨#[58]⟩ hb); clear hb; have HR := zh hr; clear hr; go_wp2_with fail
  refine HC43.out.mono ?_; rintro e w41 ⟨rfl, h1, h2⟩; have HS42 := zh (HS0.out.below h2); clear h2 h1; have hr := HR.out; clear HR; have HC47 := zh (none_ok HS42.out (by have := HRM.out; have := HI.out; (try simp only [ptsS, ptS, noneT, ptsS_append, List.nil_append, List.cons_append, Nat.add_zero, Nat.zero_add]); omega)); have HR := zh hr; clear hr; go_wp2_with fail
  refine HC47.out.mono ?_; rintro e w44 ⟨rfl, fp45, h1, h2⟩; obtain ⟨n48, hn⟩ : ∃ n, n = nr ns [] noneT := ⟨_, rfl⟩; rw [← hn]; have HN49 := zh hn; have HS46 := zh (show St K w p i o sn ns fp [noneT] w44 fp45 from h1); clear h1 h2 hn; have hr := HR.out; clear HR; have HRR50 := zh (show Res.ok _ _ = r from Option.some.inj hr); clear hr; go_wp2
  go_ret
  exact (by rw [← HRR50.out, HN49.out]; exact HS46.out.out)
theorem walk_cond {f : Nat} (AP : ∀ g, g ≤ f → AllPart g) (a : Nat) : Callee (f + 1) (.cond a) 78 (fun p => #[.pointer (some ⟨p, 0, none⟩), natV a]) := by
 intro K w p i o sn ns fp h hroom ho r hr
 change stepCond K.T (parF K.T f) a o i = some r at hr
 unfold stepCond at hr
 have HB := zh (Beg.of h)
 have HTK := zh h.env.tok
 have HRM := zh hroom.2
 have HI := zh hroom.1
 have HO := zh ho
 have HS0 := zh (St.start h)
 have HLN := zh h.env.len
 have HAP := zh AP
 clear h hroom ho AP
 have HR := zh hr
 clear hr
 go_enter Tryz.func78, Tryz.ntmps78
 have hr := HR.out
 clear HR
 have HR := zh hr
 clear hr
 go_upto_region 1 with fail
 obtain ⟨b1, hb⟩ : ∃ b, b = w.heap.size := ⟨_, rfl⟩
 rw [← hb]
 refine gen_wpT fun w2 hW => ?_
 have HX3 := zh (show w2.heap[b1]? = some (.cells #[.pointer (some ⟨p, 0, none⟩)] 44 (0, 0)) by rw [← hW]; exact heap_new_at _ _ _ hb.symm)
 have HBL6 := zh (show Below w.heap.size w w2 by rw [← hW]; exact zbr.alloc znr _)
 have HS5 := zh (HS0.out.below HBL6.out)
 have HA4 := zh (Away.new HS0.out.pa (Nat.le_of_eq hb.symm) (blk_lt HX3.out))
 have HBE7 := zh (show w.heap.size ≤ b1 from by have := HS0.out.pt.fr.size; omega)
 clear hW hb
 have x8 := zc 0 HX3.out rfl
 have xl9 := blk_lt HX3.out
 have hr := HR.out
 clear HR
 obtain ⟨X, hX⟩ : ∃ X, (parF K.T f).one (.exp) o i = X := ⟨_, rfl⟩
 rw [hX] at hr
 cases X with
 | none => exact absurd hr (by simp [Res.then])
 | some X =>
 cases X with
 | bad a n =>
  have HRR12 := zh (show Res.bad a n = r from (by dsimp only [Res.then] at hr; exact Option.some.inj hr)); have HC15 := zh (call_bad ((HAP.out f (Nat.le_refl f)).exp) HS5.out HB.out ⟨HI.out, by have := HRM.out; have := HI.out; (try simp only [zS]); omega⟩ HO.out hX); clear hr hX; go_wp2_with fail
  refine HC15.out.mono ?_; rintro e wb ⟨rfl, hb⟩; have HB14 := zh hb; clear hb; unfold wrongP; go_wp2
  exact ⟨rfl, by rw [← HRR12.out]; exact ⟨rfl, HB14.out⟩⟩
 | ok t10 j11 =>
  have hft := (fit_all HTK.out f).one (.exp) o i HI.out; rw [hX] at hft; obtain ⟨f1, f2, f3⟩ := hft; simp only [lazy1, sl1, ex1, zf] at f2 f3
  have HF13 := zh (And.intro f1 (And.intro f2 f3)); clear f1 f2 f3; have HC19 := zh (call_ok ((HAP.out f (Nat.le_refl f)).exp) HS5.out ⟨HI.out, by have := HRM.out; have := HI.out; (try simp only [zS]); omega⟩ HO.out hX); dsimp only [Res.then] at hr
  clear hX; have HR := zh hr; clear hr; go_wp2_with fail
  clear x8 xl9; refine HC19.out.mono ?_; rintro e w16 ⟨rfl, fp17, h1, h2⟩; obtain ⟨n20, hn⟩ : ∃ n, n = nr ns [] t10 := ⟨_, rfl⟩; rw [← hn]; have HN21 := zh hn; have HS18 := zh (show St K w p j11 o sn ns fp [t10] w16 fp17 from h1); have HX22 := zh (Away.blkTo HX3.out HA4.out h2); have HA23 := zh (HA4.out.to h2); clear h1 h2 hn; have x24 := zc 0 HX22.out rfl; have xl25 := blk_lt HX22.out; have hr := HR.out; clear HR; unfold need at hr
  cases hb : isAny (tk K.T j11) [⟨#[116, 104, 101, 110]⟩] with
  | false =>
   rw [if_neg (by rw [hb]; decide)] at hr; have HRR27 := zh (show Res.bad _ _ = r from (by exact Option.some.inj hr)); have HC29 := zh ((need_no HS18.out.pa HF13.out.1 ⟨#[116, 104, 101, 110]⟩ hb).mono fun e w' hh => (show OutB w p _ 70 e w' from ⟨hh.1, HS18.out.bad HB.out hh.2⟩)); clear hr; go_wp2_with fail
   refine HC29.out.mono ?_; rintro e wb ⟨rfl, hb⟩; have HB28 := zh hb; clear hb; unfold wrongP; go_wp2
   exact ⟨rfl, by rw [← HRR27.out]; exact ⟨rfl, HB28.out⟩⟩
  | true =>
   rw [if_pos hb] at hr; have HLT26 := zh (any_lt HTK.out HF13.out.1 hb); have HC32 := zh (need_yes HS18.out.pa HF13.out.1 ⟨#[116, 104, 101, 110]⟩ hb); clear hb; have HR := zh hr; clear hr; go_wp2_with fail
   clear x24 xl25; refine HC32.out.mono ?_; rintro e w30 ⟨rfl, h1, h2⟩; have HS31 := zh (HS18.out.step h1 h2); have HX33 := zh (Away.blkTo HX22.out HA23.out h2); have HA34 := zh (HA23.out.to h2); clear h1 h2; have x35 := zc 0 HX33.out rfl; have xl36 := blk_lt HX33.out; have hr := HR.out; clear HR; obtain ⟨X, hX⟩ : ∃ X, (parF K.T f).one (.block) o (j11 + 1) = X := ⟨_, rfl⟩; rw [hX] at hr
   cases X with
   | none => exact absurd hr (by simp [Res.then])
   | some X =>
   cases X with
   | bad a n =>
    have HRR39 := zh (show Res.bad a n = r from (by dsimp only [Res.then] at hr; exact Option.some.inj hr)); have HC42 := zh (call_bad ((HAP.out f (Nat.le_refl f)).block) HS31.out HB.out ⟨HLT26.out, by have := HRM.out; have := HI.out; have := HF13.out; have := HLT26.out; (try simp only [zS]); omega⟩ HO.out hX); clear hr hX; go_wp2_with fail
    refine HC42.out.mono ?_; rintro e wb ⟨rfl, hb⟩; have HB41 := zh hb; clear hb; unfold wrongP; go_wp2
    exact ⟨rfl, by rw [← HRR39.out]; exact ⟨rfl, HB41.out⟩⟩
   | ok t37 j38 =>
    have hft := (fit_all HTK.out f).one (.block) o (j11 + 1) HLT26.out; rw [hX] at hft; obtain ⟨f1, f2, f3⟩ := hft; simp only [lazy1, sl1, ex1, zf] at f2 f3
    have HF40 := zh (And.intro f1 (And.intro f2 f3)); clear f1 f2 f3; have HC46 := zh (call_ok ((HAP.out f (Nat.le_refl f)).block) HS31.out ⟨HLT26.out, by have := HRM.out; have := HI.out; have := HF13.out; have := HLT26.out; (try simp only [zS]); omega⟩ HO.out hX); dsimp only [Res.then] at hr
    clear hX; have HR := zh hr; clear hr; go_wp2_with fail
    clear x35 xl36; refine HC46.out.mono ?_; rintro e w43 ⟨rfl, fp44, h1, h2⟩; obtain ⟨n47, hn⟩ : ∃ n, n = nr ns [t10] t37 := ⟨_, rfl⟩; rw [← hn]; have HN48 := zh hn; have HS45 := zh (show St K w p j38 o sn ns fp [t10, t37] w43 fp44 from h1); have HX49 := zh (Away.blkTo HX33.out HA34.out h2); have HA50 := zh (HA34.out.to h2); clear h1 h2 hn; have x51 := zc 0 HX49.out rfl; have xl52 := blk_lt HX49.out; have hr := HR.out; clear HR; have HC55 := zh (at_any HS45.out.pa HF40.out.1); have HR := zh hr; clear hr; go_wp2_with fail
    clear x51 xl52; refine HC55.out.mono ?_; rintro e w53 ⟨rfl, h2⟩; have HS54 := zh (HS45.out.below h2); have HX56 := zh (below_blk h2 HX49.out); have HA57 := zh (HA50.out.on h2.size); clear h2; have x58 := zc 0 HX56.out rfl; have xl59 := blk_lt HX56.out; have hr := HR.out; clear HR; unfold natV; have HR := zh hr; clear hr
    go_upto_region 5 with fail
    clear x58 xl59; obtain ⟨b60, hb⟩ : ∃ b, b = w53.heap.size := ⟨_, rfl⟩; rw [← hb]; refine gen_wpT fun w61 hW => ?_; have HX62 := zh (show w61.heap[b60]? = some (.cells #[natV (tk K.T j38).a] 3 (0, 0)) by rw [← hW]; exact heap_new_at _ _ _ hb.symm); have HBL65 := zh (show Below w53.heap.size w53 w61 by rw [← hW]; exact zbr.alloc znr _); have HS64 := zh (HS54.out.below HBL65.out); have HA63 := zh (Away.new HS54.out.pa (Nat.le_of_eq hb.symm) (blk_lt HX62.out)); have HBE66 := zh (show w.heap.size ≤ b60 from by have := HS54.out.pt.fr.size; omega); have HX67 := zh (below_blk HBL65.out HX56.out); have HA68 := zh (HA57.out.on HBL65.out.size); clear hW hb; have x69 := zc 0 HX67.out rfl; have xl70 := blk_lt HX67.out; have x71 := zc 0 HX62.out rfl; have xl72 := blk_lt HX62.out; have hr := HR.out; clear HR
    try dsimp only at hr
    cases hb : isAny (tk K.T j38) [⟨#[101, 108, 115, 101, 105, 102]⟩] with
    | true =>
     rw [if_pos hb] at hr; have HLT73 := zh (any_lt HTK.out HF40.out.1 hb); have HC76 := zh (got_yes HS64.out.pa HF40.out.1 ⟨#[101, 108, 115, 101, 105, 102]⟩ hb); clear hb; have HR := zh hr; clear hr; go_wp2_with fail
     clear x69 xl70 x71 xl72; refine HC76.out.mono ?_; rintro e w74 ⟨rfl, h1, h2⟩; have HS75 := zh (HS64.out.step h1 h2); have HX77 := zh (Away.blkTo HX67.out HA68.out h2); have HA78 := zh (HA68.out.to h2); have HX79 := zh (Away.blkTo HX62.out HA63.out h2); have HA80 := zh (HA63.out.to h2); clear h1 h2; have x81 := zc 0 HX77.out rfl; have xl82 := blk_lt HX77.out; have x83 := zc 0 HX79.out rfl; have xl84 := blk_lt HX79.out; have hr := HR.out; clear HR; unfold deeper at hr; by_cases hdp : 150 < o + 1
     ·rw [if_pos hdp] at hr
      have HRR89 := zh (show Res.bad _ _ = r from (by exact Option.some.inj hr)); have HC91 := zh ((within_deep HS75.out.pa hdp HO.out ((tk K.T j38).a) (.func (.func 98) #[] #[.pointer (some ⟨b1, 0, none⟩), .pointer (some ⟨b60, 0, none⟩)])).mono fun e w' hh => (show OutB w p _ 61 e w' from ⟨hh.1, HS75.out.bad HB.out hh.2⟩)); clear hr hdp; go_wp2_with fail
      refine HC91.out.mono ?_; rintro e wb ⟨rfl, hb⟩; have HB90 := zh hb; clear hb; unfold wrongP; go_wp2
      exact ⟨rfl, by rw [← HRR89.out]; exact ⟨rfl, HB90.out⟩⟩
     ·rw [if_neg hdp] at hr
      obtain ⟨X, hX⟩ : ∃ X, (parF K.T f).one (.cond ((tk K.T j38).a)) (o + 1) (j38 + 1) = X := ⟨_, rfl⟩; dsimp only at hr
      rw [hX] at hr; have HDP := zh hdp; clear hdp
      cases X with
      | none => exact absurd hr (by simp [Res.then])
      | some X =>
      cases X with
      | bad a n =>
       have HRR87 := zh (show Res.bad a n = r from (by dsimp only [Res.then] at hr; exact Option.some.inj hr)); have HC93 := zh (within_no (fn := 98) (fst := #[]) (cap := #[.pointer (some ⟨b1, 0, none⟩), .pointer (some ⟨b60, 0, none⟩)]) (args := #[.pointer (some ⟨b1, 0, none⟩), .pointer (some ⟨b60, 0, none⟩)]) HS75.out HB.out HDP.out ((tk K.T j38).a) (fun W => rfl) rfl hX (fun w1 h1 h2 r hr => (wrap_cond1 ((tk K.T j38).a) ((HAP.out f (Nat.le_refl f)).cond ((tk K.T j38).a))) K w1 p (j38 + 1) (o + 1) sn _ fp44 b1 b60 h1 ⟨HLT73.out, by rw [len_more]; exact by have := HRM.out; have := HI.out; have := HF13.out; have := HLT26.out; have := HF40.out; have := HLT73.out; (try simp only [zS]); omega⟩ (by have := HDP.out; omega) (Away.blkTo HX77.out HA78.out h2) (HA78.out.to h2) (Away.blkTo HX79.out HA80.out h2) (HA80.out.to h2) r hr)); clear hr hX; go_wp2_with fail
       refine HC93.out.mono ?_; rintro e wb ⟨rfl, hb⟩; have HB92 := zh hb; clear hb; unfold wrongP; go_wp2
       exact ⟨rfl, by rw [← HRR87.out]; exact ⟨rfl, HB92.out⟩⟩
      | ok t85 j86 =>
       have hft := (fit_all HTK.out f).one (.cond ((tk K.T j38).a)) (o + 1) (j38 + 1) HLT73.out; rw [hX] at hft; obtain ⟨f1, f2, f3⟩ := hft; simp only [lazy1, sl1, ex1, zf] at f2 f3
       have HF88 := zh (And.intro f1 (And.intro f2 f3)); clear f1 f2 f3; have HC97 := zh (within_ok (fn := 98) (fst := #[]) (cap := #[.pointer (some ⟨b1, 0, none⟩), .pointer (some ⟨b60, 0, none⟩)]) (args := #[.pointer (some ⟨b1, 0, none⟩), .pointer (some ⟨b60, 0, none⟩)]) HS75.out HDP.out ((tk K.T j38).a) (fun W => rfl) rfl hX (fun w1 h1 h2 r hr => (wrap_cond1 ((tk K.T j38).a) ((HAP.out f (Nat.le_refl f)).cond ((tk K.T j38).a))) K w1 p (j38 + 1) (o + 1) sn _ fp44 b1 b60 h1 ⟨HLT73.out, by rw [len_more]; exact by have := HRM.out; have := HI.out; have := HF13.out; have := HLT26.out; have := HF40.out; have := HLT73.out; (try simp only [zS]); omega⟩ (by have := HDP.out; omega) (Away.blkTo HX77.out HA78.out h2) (HA78.out.to h2) (Away.blkTo HX79.out HA80.out h2) (HA80.out.to h2) r hr)); dsimp only [Res.then] at hr
       clear hX; have HR := zh hr; clear hr; go_wp2_with fail
       clear x81 xl82 x83 xl84; refine HC97.out.mono ?_; rintro e w94 ⟨rfl, fp95, h1, h2⟩; obtain ⟨n98, hn⟩ : ∃ n, n = nr ns [t10, t37] t85 := ⟨_, rfl⟩; rw [← hn]; have HN99 := zh hn; have HS96 := zh (show St K w p j86 o sn ns fp [t10, t37, t85] w94 fp95 from h1); have HX100 := zh (Away.blkTo HX77.out HA78.out h2); have HA101 := zh (HA78.out.to h2); have HX102 := zh (Away.blkTo HX79.out HA80.out h2); have HA103 := zh (HA80.out.to h2); clear h1 h2 hn; have x104 := zc 0 HX100.out rfl; have xl105 := blk_lt HX100.out; have x106 := zc 0 HX102.out rfl; have xl107 := blk_lt HX102.out; have hr := HR.out; clear HR; have HC111 := zh (show ∀ W, W = w94.alloc (.cells #[natV n98] 3) → Calls Tryz.prog 23 #[.pointer (some ⟨p, 0, none⟩), .int .i64 3, .string ⟨#[]⟩, natV (tk K.T j38).a, .slice (some ⟨w94.heap.size, 0, none⟩) 1 1] W (OneOk K w p o sn ns fp [t10, t37] W fp95 (.mk 3 ⟨#[]⟩ (tk K.T j38).a [t85]) j86) from fun W hW => by
        subst hW; exact lay_mid (L1 := [t10, t37]) (L2 := [t85]) (HS96.out.below (zbr.alloc znr _)) (by have := HRM.out; have := HI.out; have := HF13.out; have := HLT26.out; have := HF40.out; have := HLT73.out; have := HF88.out; simp only [ptsS, ptS, noneT, List.nil_append, List.cons_append, Nat.add_zero, Nat.zero_add]; omega) (by simp) 3 ⟨#[]⟩ (tk K.T j38).a (KidsV.new w94 n98 [] _ rfl) (by simp only [HN99.out, nr, roots, ptsS, Nat.add_zero, Nat.add_assoc]))
       have HR := zh hr; clear hr
       try unfold natV
       go_wp2_with fail
       clear x104 xl105 x106 xl107; refine (HC111.out _ rfl).mono ?_; rintro e w108 ⟨rfl, fp109, h1, h2⟩; obtain ⟨n112, hn⟩ : ∃ n, n = nr ns [t10, t37] (.mk 3 ⟨#[]⟩ (tk K.T j38).a [t85]) := ⟨_, rfl⟩; rw [← hn]; have HN113 := zh hn; have HS110 := zh (show St K w p j86 o sn ns fp [t10, t37, (.mk 3 ⟨#[]⟩ (tk K.T j38).a [t85])] w108 fp109 from h1); have hbl : PaTo w94 fp95 w108 fp109 := (PaTo.of_below HS96.out.pa (zbr.alloc znr _)).trans h2; have HX114 := zh (Away.blkTo HX100.out HA101.out hbl); have HA115 := zh (HA101.out.to hbl); have HX116 := zh (Away.blkTo HX102.out HA103.out hbl); have HA117 := zh (HA103.out.to hbl); clear h1 h2 hn hbl; have x118 := zc 0 HX114.out rfl; have xl119 := blk_lt HX114.out; have x120 := zc 0 HX116.out rfl; have xl121 := blk_lt HX116.out; have hr := HR.out; clear HR; have HRR123 := zh (show Res.ok _ _ = r from Option.some.inj hr); clear hr; have HL122 := zh (show ∀ W, W = w108.alloc (.cells #[natV n20, natV n47, natV n112] 3) → Calls Tryz.prog 23 #[.pointer (some ⟨p, 0, none⟩), .int .i64 8, .string ⟨#[]⟩, natV a, .slice (some ⟨w108.heap.size, 0, none⟩) 3 3] W (OutP K w p o sn ns fp (.ok (.mk 8 ⟨#[]⟩ a [t10, t37, (.mk 3 ⟨#[]⟩ (tk K.T j38).a [t85])]) j86)) from fun W hW => by
        subst hW; exact lay_fin (HS110.out.below (zbr.alloc znr _)) (by have := HRM.out; have := HI.out; have := HF13.out; have := HLT26.out; have := HF40.out; have := HLT73.out; have := HF88.out; (try simp only [ptsS, ptS, noneT, ptsS_append, List.nil_append, List.cons_append, Nat.add_zero, Nat.zero_add]); omega) (by simp) 8 ⟨#[]⟩ a (KidsV.new w108 n20 [n47, n112] _ rfl) (by simp only [HN21.out, HN48.out, HN113.out, nr, roots, ptsS, Nat.add_zero, Nat.add_assoc]))
       try unfold natV
       go_wp2_with fail
       refine (HL122.out _ rfl).mono ?_; rintro e wz ⟨rfl, fpz, h1, h2⟩; have HZ124 := zh (show OutP K w p o sn ns fp (.ok (.mk 8 ⟨#[]⟩ a [t10, t37, (.mk 3 ⟨#[]⟩ (tk K.T j38).a [t85])]) j86) (.returned _) wz from ⟨rfl, fpz, h1, h2⟩); clear h1 h2; go_wp2
       go_ret
       exact (by rw [← HRR123.out]; exact HZ124.out)
    | false =>
     rw [if_neg (by rw [hb]; decide)] at hr; have HC127 := zh (got_no HS64.out.pa HF40.out.1 ⟨#[101, 108, 115, 101, 105, 102]⟩ hb); clear hb; have HR := zh hr; clear hr; go_wp2_with fail
     clear x69 xl70 x71 xl72; refine HC127.out.mono ?_; rintro e w125 ⟨rfl, h1, h2⟩; have HS126 := zh (HS64.out.below h2); have HX128 := zh (below_blk h2 HX67.out); have HA129 := zh (HA68.out.on h2.size); have HX130 := zh (below_blk h2 HX62.out); have HA131 := zh (HA63.out.on h2.size); clear h2 h1; have x132 := zc 0 HX128.out rfl; have xl133 := blk_lt HX128.out; have x134 := zc 0 HX130.out rfl; have xl135 := blk_lt HX130.out; have hr := HR.out; clear HR
     cases hb : isAny (tk K.T j38) [⟨#[101, 108, 115, 101]⟩] with
     | true =>
      rw [if_pos hb] at hr; have HLT136 := zh (any_lt HTK.out HF40.out.1 hb); have HC139 := zh (got_yes HS126.out.pa HF40.out.1 ⟨#[101, 108, 115, 101]⟩ hb); clear hb; have HR := zh hr; clear hr; go_wp2_with fail
      clear x132 xl133 x134 xl135; refine HC139.out.mono ?_; rintro e w137 ⟨rfl, h1, h2⟩; have HS138 := zh (HS126.out.step h1 h2); have HX140 := zh (Away.blkTo HX128.out HA129.out h2); have HA141 := zh (HA129.out.to h2); have HX142 := zh (Away.blkTo HX130.out HA131.out h2); have HA143 := zh (HA131.out.to h2); clear h1 h2; have x144 := zc 0 HX140.out rfl; have xl145 := blk_lt HX140.out; have x146 := zc 0 HX142.out rfl; have xl147 := blk_lt HX142.out; have hr := HR.out; clear HR; obtain ⟨X, hX⟩ : ∃ X, (parF K.T f).one (.ended) o (j38 + 1) = X := ⟨_, rfl⟩; rw [hX] at hr
      cases X with
      | none => exact absurd hr (by simp [Res.then])
      | some X =>
      cases X with
      | bad a n =>
       have HRR150 := zh (show Res.bad a n = r from (by dsimp only [Res.then] at hr; exact Option.some.inj hr)); have HC153 := zh (call_bad ((HAP.out f (Nat.le_refl f)).ended) HS138.out HB.out ⟨HLT136.out, by have := HRM.out; have := HI.out; have := HF13.out; have := HLT26.out; have := HF40.out; have := HLT136.out; (try simp only [zS]); omega⟩ HO.out hX); clear hr hX; go_wp2_with fail
       refine HC153.out.mono ?_; rintro e wb ⟨rfl, hb⟩; have HB152 := zh hb; clear hb; unfold wrongP; go_wp2
       exact ⟨rfl, by rw [← HRR150.out]; exact ⟨rfl, HB152.out⟩⟩
      | ok t148 j149 =>
       have hft := (fit_all HTK.out f).one (.ended) o (j38 + 1) HLT136.out; rw [hX] at hft; obtain ⟨f1, f2, f3⟩ := hft; simp only [lazy1, sl1, ex1, zf] at f2 f3
       have HF151 := zh (And.intro f1 (And.intro f2 f3)); clear f1 f2 f3; have HC157 := zh (call_ok ((HAP.out f (Nat.le_refl f)).ended) HS138.out ⟨HLT136.out, by have := HRM.out; have := HI.out; have := HF13.out; have := HLT26.out; have := HF40.out; have := HLT136.out; (try simp only [zS]); omega⟩ HO.out hX); dsimp only [Res.then] at hr
       clear hX; have HR := zh hr; clear hr; go_wp2_with fail
       clear x144 xl145 x146 xl147; refine HC157.out.mono ?_; rintro e w154 ⟨rfl, fp155, h1, h2⟩; obtain ⟨n158, hn⟩ : ∃ n, n = nr ns [t10, t37] t148 := ⟨_, rfl⟩; rw [← hn]; have HN159 := zh hn; have HS156 := zh (show St K w p j149 o sn ns fp [t10, t37, t148] w154 fp155 from h1); have HX160 := zh (Away.blkTo HX140.out HA141.out h2); have HA161 := zh (HA141.out.to h2); have HX162 := zh (Away.blkTo HX142.out HA143.out h2); have HA163 := zh (HA143.out.to h2); clear h1 h2 hn; have x164 := zc 0 HX160.out rfl; have xl165 := blk_lt HX160.out; have x166 := zc 0 HX162.out rfl; have xl167 := blk_lt HX162.out; have hr := HR.out; clear HR; have HRR169 := zh (show Res.ok _ _ = r from Option.some.inj hr); clear hr; have HL168 := zh (show ∀ W, W = w154.alloc (.cells #[natV n20, natV n47, natV n158] 3) → Calls Tryz.prog 23 #[.pointer (some ⟨p, 0, none⟩), .int .i64 8, .string ⟨#[]⟩, natV a, .slice (some ⟨w154.heap.size, 0, none⟩) 3 3] W (OutP K w p o sn ns fp (.ok (.mk 8 ⟨#[]⟩ a [t10, t37, t148]) j149)) from fun W hW => by
        subst hW; exact lay_fin (HS156.out.below (zbr.alloc znr _)) (by have := HRM.out; have := HI.out; have := HF13.out; have := HLT26.out; have := HF40.out; have := HLT136.out; have := HF151.out; (try simp only [ptsS, ptS, noneT, ptsS_append, List.nil_append, List.cons_append, Nat.add_zero, Nat.zero_add]); omega) (by simp) 8 ⟨#[]⟩ a (KidsV.new w154 n20 [n47, n158] _ rfl) (by simp only [HN21.out, HN48.out, HN159.out, nr, roots, ptsS, Nat.add_zero, Nat.add_assoc]))
       try unfold natV
       go_wp2_with fail
       refine (HL168.out _ rfl).mono ?_; rintro e wz ⟨rfl, fpz, h1, h2⟩; have HZ170 := zh (show OutP K w p o sn ns fp (.ok (.mk 8 ⟨#[]⟩ a [t10, t37, t148]) j149) (.returned _) wz from ⟨rfl, fpz, h1, h2⟩); clear h1 h2; go_wp2
       go_ret
       exact (by rw [← HRR169.out]; exact HZ170.out)
     | false =>
      rw [if_neg (by rw [hb]; decide)] at hr; have HC173 := zh (got_no HS126.out.pa HF40.out.1 ⟨#[101, 108, 115, 101]⟩ hb); clear hb; have HR := zh hr; clear hr; go_wp2_with fail
      clear x132 xl133 x134 xl135; refine HC173.out.mono ?_; rintro e w171 ⟨rfl, h1, h2⟩; have HS172 := zh (HS126.out.below h2); have HX174 := zh (below_blk h2 HX128.out); have HA175 := zh (HA129.out.on h2.size); have HX176 := zh (below_blk h2 HX130.out); have HA177 := zh (HA131.out.on h2.size); clear h2 h1; have x178 := zc 0 HX174.out rfl; have xl179 := blk_lt HX174.out; have x180 := zc 0 HX176.out rfl; have xl181 := blk_lt HX176.out; have hr := HR.out; clear HR; have HC185 := zh (none_ok HS172.out (by have := HRM.out; have := HI.out; have := HF13.out; have := HLT26.out; have := HF40.out; (try simp only [ptsS, ptS, noneT, ptsS_append, List.nil_append, List.cons_append, Nat.add_zero, Nat.zero_add]); omega)); have HR := zh hr; clear hr; go_wp2_with fail
      clear x178 xl179 x180 xl181; refine HC185.out.mono ?_; rintro e w182 ⟨rfl, fp183, h1, h2⟩; obtain ⟨n186, hn⟩ : ∃ n, n = nr ns [t10, t37] noneT := ⟨_, rfl⟩; rw [← hn]; have HN187 := zh hn; have HS184 := zh (show St K w p j38 o sn ns fp [t10, t37, noneT] w182 fp183 from h1); have HX188 := zh (Away.blkTo HX174.out HA175.out h2); have HA189 := zh (HA175.out.to h2); have HX190 := zh (Away.blkTo HX176.out HA177.out h2); have HA191 := zh (HA177.out.to h2); clear h1 h2 hn; have x192 := zc 0 HX188.out rfl; have xl193 := blk_lt HX188.out; have x194 := zc 0 HX190.out rfl; have xl195 := blk_lt HX190.out; have hr := HR.out; clear HR; unfold need at hr
      cases hb : isAny (tk K.T j38) [⟨#[101, 110, 100]⟩] with
      | false =>
       rw [if_neg (by rw [hb]; decide)] at hr; have HRR197 := zh (show Res.bad _ _ = r from (by exact Option.some.inj hr)); have HC199 := zh ((need_no HS184.out.pa HF40.out.1 ⟨#[101, 110, 100]⟩ hb).mono fun e w' hh => (show OutB w p _ 70 e w' from ⟨hh.1, HS184.out.bad HB.out hh.2⟩)); clear hr; go_wp2_with fail
       refine HC199.out.mono ?_; rintro e wb ⟨rfl, hb⟩; have HB198 := zh hb; clear hb; unfold wrongP; go_wp2
       exact ⟨rfl, by rw [← HRR197.out]; exact ⟨rfl, HB198.out⟩⟩
      | true =>
       rw [if_pos hb] at hr; have HLT196 := zh (any_lt HTK.out HF40.out.1 hb); have HC202 := zh (need_yes HS184.out.pa HF40.out.1 ⟨#[101, 110, 100]⟩ hb); clear hb; have HR := zh hr; clear hr; go_wp2_with fail
       clear x192 xl193 x194 xl195; refine HC202.out.mono ?_; rintro e w200 ⟨rfl, h1, h2⟩; have HS201 := zh (HS184.out.step h1 h2); have HX203 := zh (Away.blkTo HX188.out HA189.out h2); have HA204 := zh (HA189.out.to h2); have HX205 := zh (Away.blkTo HX190.out HA191.out h2); have HA206 := zh (HA191.out.to h2); clear h1 h2; have x207 := zc 0 HX203.out rfl; have xl208 := blk_lt HX203.out; have x209 := zc 0 HX205.out rfl; have xl210 := blk_lt HX205.out; have hr := HR.out; clear HR; have HRR212 := zh (show Res.ok _ _ = r from Option.some.inj hr); clear hr; have HL211 := zh (show ∀ W, W = w200.alloc (.cells #[natV n20, natV n47, natV n186] 3) → Calls Tryz.prog 23 #[.pointer (some ⟨p, 0, none⟩), .int .i64 8, .string ⟨#[]⟩, natV a, .slice (some ⟨w200.heap.size, 0, none⟩) 3 3] W (OutP K w p o sn ns fp (.ok (.mk 8 ⟨#[]⟩ a [t10, t37, noneT]) (j38 + 1))) from fun W hW => by
        subst hW; exact lay_fin (HS201.out.below (zbr.alloc znr _)) (by have := HRM.out; have := HI.out; have := HF13.out; have := HLT26.out; have := HF40.out; have := HLT196.out; (try simp only [ptsS, ptS, noneT, ptsS_append, List.nil_append, List.cons_append, Nat.add_zero, Nat.zero_add]); omega) (by simp) 8 ⟨#[]⟩ a (KidsV.new w200 n20 [n47, n186] _ rfl) (by simp only [HN21.out, HN48.out, HN187.out, nr, roots, ptsS, Nat.add_zero, Nat.add_assoc]))
       try unfold natV
       go_wp2_with fail
       refine (HL211.out _ rfl).mono ?_; rintro e wz ⟨rfl, fpz, h1, h2⟩; have HZ213 := zh (show OutP K w p o sn ns fp (.ok (.mk 8 ⟨#[]⟩ a [t10, t37, noneT]) (j38 + 1)) (.returned _) wz from ⟨rfl, fpz, h1, h2⟩); clear h1 h2; go_wp2
       go_ret
       exact (by rw [← HRR212.out]; exact HZ213.out)
end Go.Proofs.YthobobmbileekaaGreatDoor
