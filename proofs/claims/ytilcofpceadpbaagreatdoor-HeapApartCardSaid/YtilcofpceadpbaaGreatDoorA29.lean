/-
 HeapApart: part 29 of what the claim rests on.
-/
import Derived.Test.YtilcofpceadpbaaGreatDoorA07
import Derived.Test.YtilcofpceadpbaaGreatDoorA10
import Derived.Test.YtilcofpceadpbaaGreatDoorA21
import Derived.Test.YtilcofpceadpbaaGreatDoorA22
import Derived.Test.YtilcofpceadpbaaGreatDoorA25
import Derived.Test.YtilcofpceadpbaaGreatDoorA27
import Derived.Test.YtilcofpceadpbaaGreatDoorA28
set_option linter.unusedVariables false
set_option linter.unusedSimpArgs false
set_option maxHeartbeats 64000000
namespace Go.Proofs.YtilcofpceadpbaaGreatDoor
open Go.ChangeShapes Go.WideShapes Go.ChangeAt Go.RowKit

theorem wName_take : ∀ {l : List ByteArray} {k : Nat} {s : ByteArray}, l[k]? = some s → wName (l.take (k + 1)) = wName (l.take k) + 1 + s.size / 100
 | [], k, s, h => by simp at h
 | a :: l, 0, s, h => by simp at h; subst h; simp [wName]
 | a :: l, k + 1, s, h => by
  simp at h
  have := wName_take h
  simp only [List.take_succ_cons, wName] at this ⊢
  omega
theorem wName_le : ∀ (l : List ByteArray) (k : Nat), wName (l.take k) ≤ wName l
 | [], k => by simp
 | a :: l, 0 => by simp [wName]
 | a :: l, k + 1 => by
  have := wName_le l k
  simp only [List.take_succ_cons, wName]
  omega
theorem wName_len : ∀ (l : List ByteArray), l.length ≤ wName l
 | [] => Nat.le_refl _
 | a :: l => by
  have := wName_len l
  simp only [List.length_cons, wName]
  omega
theorem wtL_take : ∀ {l : List Ty} {k : Nat} {a : Ty}, l[k]? = some a → wtL (l.take (k + 1)) = wtL (l.take k) + wt a
 | [], k, s, h => by simp at h
 | a :: l, 0, s, h => by simp at h; subst h; simp [wtL]
 | a :: l, k + 1, s, h => by
  simp at h
  have := wtL_take h
  simp only [List.take_succ_cons, wtL] at this ⊢
  omega
theorem wtL_le : ∀ (l : List Ty) (k : Nat), wtL (l.take k) ≤ wtL l
 | [], k => by simp
 | a :: l, 0 => by simp [wtL]
 | a :: l, k + 1 => by
  have := wtL_le l k
  simp only [List.take_succ_cons, wtL]
  omega
def CountOut (t : LTy) (n : Int) (w : World) (e : Ending) (w' : World) : Prop := Below w.heap.size w w' ∧ ∃ r : Int, e = .returned (.int .i64 r) ∧ (wt (strip t) ≤ 1000000000000000000 → 0 ≤ n → n ≤ 500 → r ≤ 500 → n + wt (strip t) ≤ r)
set_option maxRecDepth 100000 in
theorem count_any (t : LTy) : ∀ (n : Int) (deep : Nat) (w : World), LIn w w.heap.size t → deep ≤ 61 → Calls Tryz.prog 58 #[t.val, .int .i64 n, .int .i64 (deep : Int)] w (CountOut t n w) := by
 induction t using lty_ind with
 | h t ih =>
 intro n deep w hin hdeep
 unfold LTy.val
 obtain ⟨g, hg⟩ : ∃ g, g = w.heap.size := ⟨_, rfl⟩
 have HT := Lib.hid hin
 have HIH := Lib.hid ih
 clear hin ih
 obtain ⟨n1, hn1⟩ : ∃ n, n = t.ns.length := ⟨_, rfl⟩
 obtain ⟨n2, hn2⟩ : ∃ n, n = t.xs.length := ⟨_, rfl⟩
 have HN := Lib.hid (show t.ns.length = n1 ∧ t.xs.length = n2 from ⟨hn1.symm, hn2.symm⟩)
 have hl1 := HT.out.n1.2
 have hl2 := HT.out.n2.2
 rw [← hn1] at hl1
 rw [← hn2] at hl2
 clear hn1 hn2
 go_enter Tryz.func58, Tryz.ntmps58
 go_upto_region 1 with fail
 rw [← hg]
 refine gen_wpT fun W hW => ?_
 obtain ⟨kt, kb⟩ : TBox W g t ∧ Below w.heap.size w W := by rw [← hW, hg]; exact one_box w t
 have KB := Lib.hid kb
 have KT := Lib.hid kt
 have ktc0 := kt.c0
 have ktc1 := kt.c1
 have ktc2 := kt.c2
 have ktlt := kt.lt
 rw [HN.out.1] at ktc1
 rw [HN.out.2] at ktc2
 have HWT := Lib.hid (show wt (strip t) = 1 + wName t.ns + wtL (strip t).args by rw [wt_eq, strip_names])
 have HLN := Lib.hid (show n1 ≤ wName t.ns by rw [← HN.out.1]; exact wName_len _)
 clear hW kb kt hg
 go_wp2_with fail
 go_loop [1, 20] (fun s i => ∃ (k : Nat) (v : Int), k ≤ n1 ∧ i = .int .i64 k ∧ s = .int .i64 v ∧ Hid (wt (strip t) ≤ 1000000000000000000 → 0 ≤ n → n ≤ 500 → v + k = n + 1 + n1 + wName (t.ns.take k))) (fun _ i => n1 - (intOf i).toNat)
 case atStart =>
  refine ⟨0, _, by omega, rfl, rfl, Lib.hid (fun h1 h2 h3 => ?_)⟩
  have h4 := HWT.out
  have h5 := HLN.out
  rw [List.take_zero]
  first | (rw [IntWalk.wrap64_in _ (by omega)]; simp only [wName]; omega) | (simp only [wName]; omega) | (unfold RowKit.wrap64; simp only [wName]; omega)
 case round =>
  obtain ⟨k, v, hk, rfl, rfl, HV⟩ := hrel
  by_cases hlt : k < n1
  ·obtain ⟨s, hs⟩ : ∃ s, t.ns[k]? = some s := ⟨_, List.getElem?_eq_getElem (by rw [HN.out.1]; exact hlt)⟩
   have htr := HT.out.on KB.out
   obtain ⟨a1, hA1, hl, s0⟩ := htr.name hs
   have sl : (a1.add k).block < W.heap.size := by rw [block_add']; exact hl
   have hk' : (k : Int) < (n1 : Int) := by omega
   have hk0 : (0 : Int) ≤ k := by omega
   have hsz := HT.out.room s (List.mem_of_getElem? hs)
   have HTK := Lib.hid (wName_take hs)
   have HLE := Lib.hid (wName_le t.ns (k + 1))
   have hs0 : (0 : Int) ≤ (s.size : Int) := by omega
   have hs1 : (s.size : Int) ≤ 140737488355328 := by omega
   rw [hA1]
   clear htr hs hl hA1 hsz
   go_wp2_with fail
   go_round
   case rel =>
    refine ⟨k + 1, _, by omega, by go_num, rfl, Lib.hid (fun h1 h2 h3 => ?_)⟩
    have h4 := HV.out h1 h2 h3
    have h5 := HWT.out
    have h6 := HTK.out
    have h7 := HLE.out
    have h8 := HLN.out
    first | (rw [IntWalk.wrap64_in _ (by omega)]; omega) | omega
   case measure => simp [intOf]; omega
  ·obtain rfl : k = n1 := by omega
   have hkk : ¬ (k : Int) < (k : Int) := by omega
   have HV2 := Lib.hid (show wt (strip t) ≤ 1000000000000000000 → 0 ≤ n → n ≤ 500 → v = n + 1 + wName t.ns from fun h1 h2 h3 => by
    have := HV.out h1 h2 h3
    rw [List.take_of_length_le (by rw [HN.out.1]; exact Nat.le_refl _)] at this
    omega)
   clear HV
   by_cases hd : 60 < deep
   ·have hd' : decide (60 < (deep : Int)) = true := decide_eq_true (by omega)
    have HF := Lib.hid (show CountOut t n w (.returned (.int .i64 1000)) W from ⟨KB.out, 1000, rfl, fun _ _ _ h => by omega⟩)
    clear hd
    go_wp2
    go_ret
    exact HF.out
   have hd' : decide (60 < (deep : Int)) = false := decide_eq_false (by omega)
   have hdd : (deep : Int) ≤ 60 := by omega
   have hdl : deep ≤ 60 := by omega
   clear hd ktc1
   go_wp2_with fail
   go_loopw [1, 35] (fun s i wr => ∃ (j : Nat) (v : Int), j ≤ n2 ∧ i = .int .i64 j ∧ s = .int .i64 v ∧ Hid (wt (strip t) ≤ 1000000000000000000 → 0 ≤ n → n ≤ 500 → v ≤ 500 → n + 1 + wName t.ns + wtL ((strip t).args.take j) ≤ v) ∧ Hid (Below W.heap.size W wr)) (fun _ i _ => n2 - (intOf i).toNat)
   case atStart => exact ⟨0, v, by omega, rfl, rfl, Lib.hid (fun h1 h2 h3 h4 => by rw [HV2.out h1 h2 h3, List.take_zero]; simp only [wtL]; omega), Lib.hid (Below.refl _ _)⟩
   case round =>
    clear hlt hkk hk ktc0 ktc2 HV2
    obtain ⟨j, v, hj, rfl, rfl, HV, HW⟩ := hrel
    have KBr := Lib.hid (KB.out.trans (HW.out.mono KB.out.size))
    by_cases hlt : j < n2
    ·obtain ⟨x, hx⟩ : ∃ x, t.xs[j]? = some x := ⟨_, List.getElem?_eq_getElem (by rw [HN.out.2]; exact hlt)⟩
     have htr := HT.out.on KBr.out
     obtain ⟨a1, hA1, hx3⟩ := htr.at3 hx
     have x0 := hx3.2.1
     have x1 := hx3.2.2.1
     have x2 := hx3.2.2.2
     have xl := hx3.1
     have hj' : (j : Int) < (n2 : Int) := by omega
     have hj0 : (0 : Int) ≤ j := by omega
     have hbx := (one_box wr x).2
     have hcall := HIH.out x (List.mem_of_getElem? hx) v (deep + 1) _ ((htr.part hx).on hbx) (by omega)
     have e1 : ((deep + 1 : Nat) : Int) = (deep : Int) + 1 := by omega
     rw [e1] at hcall
     unfold LTy.val at hcall
     have HC := Lib.hid hcall
     have HBX := Lib.hid (HW.out.trans (hbx.mono HW.out.size))
     have HKX := Lib.hid (KBr.out.trans (hbx.mono KBr.out.size))
     have HTK := Lib.hid (wtL_take (strip_at hx))
     have HLE := Lib.hid (wtL_le (strip t).args (j + 1))
     rw [hA1]
     clear htr hx hA1 hx3 hbx hcall e1
     by_cases hv : 500 < v
     ·have hv' : decide (500 < v) = true := decide_eq_true hv
      have HF := Lib.hid (show ∀ w', Below w.heap.size w w' → CountOut t n w (.returned (.int .i64 v)) w' from fun w' h => ⟨h, v, rfl, fun _ _ _ h => by omega⟩)
      clear hv
      go_wp2
      go_ret
      exact HF.out _ HKX.out
     ·have hv' : decide (500 < v) = false := decide_eq_false hv
      have HVL := Lib.hid (show v ≤ 500 by omega)
      clear hv
      go_wp2_with fail
      with_reducible refine HC.out.mono ?_
      rintro e w5 ⟨hb5, r, rfl, hr⟩
      have HR := Lib.hid hr
      have HB5 := Lib.hid (HBX.out.trans (hb5.mono HBX.out.size))
      clear hb5 hr
      go_wp2_with fail
      go_roundw
      case rel =>
       refine ⟨j + 1, r, by omega, by go_num, rfl, Lib.hid (fun h1 h2 h3 h4 => ?_), HB5⟩
       have h5 := HV.out h1 h2 h3 HVL.out
       have h6 := HWT.out
       have h7 := HTK.out
       have h8 := HLE.out
       have h9 := HR.out (by omega) (by omega) HVL.out h4
       omega
      case measure => simp [intOf]; omega
    ·obtain rfl : j = n2 := by omega
     have hjj : ¬ (j : Int) < (j : Int) := by omega
     have HF := Lib.hid (show CountOut t n w (.returned (.int .i64 v)) wr from ⟨KBr.out, v, rfl, fun h1 h2 h3 h4 => by
      have := HV.out h1 h2 h3 h4
      rw [List.take_of_length_le (by rw [strip_len, HN.out.2]; exact Nat.le_refl _)] at this
      have := HWT.out
      omega⟩)
     go_wp2
     go_ret
     exact HF.out
def FewOut (t : LTy) (w : World) (e : Ending) (w' : World) : Prop := Below w.heap.size w w' ∧ ∃ b : Bool, e = .returned (.bool b) ∧ (b = true → wt (strip t) ≤ 1000000000000000000 → wt (strip t) ≤ 500)
set_option maxRecDepth 100000 in
theorem Few_any (t : LTy) (w : World) (hin : LIn w w.heap.size t) : Calls Tryz.prog 15 #[t.val] w (FewOut t w) := by
 unfold LTy.val
 obtain ⟨g, hg⟩ : ∃ g, g = w.heap.size := ⟨_, rfl⟩
 have HT := Lib.hid hin
 clear hin
 go_enter Tryz.func15, Tryz.ntmps15
 go_upto_region 1 with fail
 rw [← hg]
 refine gen_wpT fun W hW => ?_
 obtain ⟨kt, kb⟩ : TBox W g t ∧ Below w.heap.size w W := by rw [← hW, hg]; exact one_box w t
 have KB := Lib.hid kb
 have ktc0 := kt.c0
 have ktc1 := kt.c1
 have ktc2 := kt.c2
 have ktlt := kt.lt
 have hc := count_any t 0 0 W (HT.out.on kb) (by omega)
 rw [show ((0 : Nat) : Int) = 0 from rfl] at hc
 unfold LTy.val at hc
 have HC := Lib.hid hc
 clear hW kb kt hg hc
 go_wp2_with fail
 with_reducible refine HC.out.mono ?_
 rintro e w1 ⟨hb1, r, rfl, hr⟩
 have HF := Lib.hid (show FewOut t w (.returned (.bool (decide (r ≤ 500)))) w1 from ⟨KB.out.trans (hb1.mono KB.out.size), _, rfl, fun e h => by
  have h1 := of_decide_eq_true e
  have := hr h (by omega) (by omega) h1
  omega⟩)
 clear hb1 hr
 go_wp2
 go_ret
 exact HF.out

def fewN (xs : List HAct) : Nat := (xs.map fun a => 10 + a.cells.xs.length).sum
def HFewP (xs : List HAct) : Prop := fewN xs ≤ 2000 ∧ ∀ x ∈ xs, x.a.s.size + x.b.s.size + x.c.s.size ≤ 300 ∧ (wt (strip x.to) ≤ 1000000000000000000 → wt (strip x.to) ≤ 500)
def HFewOut (xs : List HAct) (w : World) (e : Ending) (w' : World) : Prop := Below w.heap.size w w' ∧ ∃ b : Bool, e = .returned (.bool b) ∧ (b = true → HFewP xs)
theorem ha_len (a : HAct) : (haEnc a).length = 19 := rfl
theorem fewN_take {xs : List HAct} {k : Nat} {x : HAct} (h : xs[k]? = some x) : fewN (xs.take (k + 1)) = fewN (xs.take k) + (10 + x.cells.xs.length) := by
 unfold fewN
 rw [List.take_add_one, h]
 simp
set_option maxRecDepth 100000 in
theorem few21_any (xs : List HAct) (A : Option Addr) (c : Nat) (w : World) (hr : Reads w w.heap.size A (xs.flatMap haEnc)) (hfit : ∀ x ∈ xs, HaFit w w.heap.size x) (hl : xs.length ≤ 1000000000000) : Calls Tryz.prog 5 #[.slice A xs.length c] w (HFewOut xs w) := by
 obtain ⟨n1, hn1⟩ : ∃ n, n = xs.length := ⟨_, rfl⟩
 rw [← hn1] at hl
 rw [← hn1]
 have HN := Lib.hid hn1
 have HR := Lib.hid hr
 have HI := Lib.hid hfit
 clear hn1 hr hfit
 go_enter Tryz.func5, Tryz.ntmps5
 go_wp2_with fail
 go_loopw [3, 8] (fun s i wr => ∃ k : Nat, k ≤ n1 ∧ i = .int .i64 k ∧ (∃ m : Nat, s = .int .i64 m ∧ m ≤ 2000 ∧ Hid (m = fewN (xs.take k))) ∧ Hid (∀ (j : Nat) (x : HAct), j < k → xs[j]? = some x → x.a.s.size + x.b.s.size + x.c.s.size ≤ 300 ∧ (wt (strip x.to) ≤ 1000000000000000000 → wt (strip x.to) ≤ 500)) ∧ Hid (Below w.heap.size w wr)) (fun _ i _ => n1 - (intOf i).toNat)
 case atStart => exact ⟨0, by omega, rfl, ⟨0, rfl, by omega, Lib.hid (by simp [fewN])⟩, Lib.hid (fun j x hj => by omega), Lib.hid (Below.refl _ _)⟩
 case round =>
  obtain ⟨k, hk, rfl, ⟨m, rfl, hm, HM⟩, HK, HW⟩ := hrel
  by_cases hlt : k < n1
  ·obtain ⟨x, hx⟩ : ∃ x, xs[k]? = some x := ⟨_, List.getElem?_eq_getElem (by rw [← HN.out]; exact hlt)⟩
   obtain ⟨ad, hA, hab, hcell⟩ := (HR.out.below HW.out).at (flatMap_ne (K := 19) ha_len (by omega) hx)
   have hcs := elem_cells (K := 19) ha_len hcell hx
   have xl : (ad.add (k * 19)).block < wr.heap.size := by rw [block_add']; exact Nat.lt_of_lt_of_le hab HW.out.size
   have hk' : (k : Int) < (n1 : Int) := by omega
   have hk0 : (0 : Int) ≤ k := by omega
   have hfit := HI.out x (List.mem_of_getElem? hx)
   obtain ⟨cl, hcl⟩ : ∃ cl, cl = x.cells.xs.length := ⟨_, rfl⟩
   obtain ⟨sa, hsa⟩ : ∃ s, s = x.a.s := ⟨_, rfl⟩
   obtain ⟨sb, hsb⟩ : ∃ s, s = x.b.s := ⟨_, rfl⟩
   obtain ⟨sc, hsc⟩ : ∃ s, s = x.c.s := ⟨_, rfl⟩
   have f1 : cl * 8 ≤ 140737488351232 := by rw [hcl]; exact hfit.len
   have f2 : sa.size ≤ 140737488351232 := by rw [hsa]; exact hfit.va.s
   have f3 : sb.size ≤ 140737488351232 := by rw [hsb]; exact hfit.vb.s
   have f4 : sc.size ≤ 140737488351232 := by rw [hsc]; exact hfit.vc.s
   have HS := Lib.hid (And.intro hcl (And.intro hsa (And.intro hsb hsc)))
   clear hcl hsa hsb hsc
   obtain ⟨c10, hc10⟩ : ∃ z : Int, z = 10 + (cl : Int) := ⟨_, rfl⟩
   obtain ⟨s2, hs2⟩ : ∃ z : Int, z = (m : Int) + c10 := ⟨_, rfl⟩
   obtain ⟨t1, ht1⟩ : ∃ z : Int, z = (sa.size : Int) + (sb.size : Int) := ⟨_, rfl⟩
   obtain ⟨t2, ht2⟩ : ∃ z : Int, z = t1 + (sc.size : Int) := ⟨_, rfl⟩
   have E1 := Lib.hid (show IntKind.wrap .i64 (10 + (cl : Int)) = c10 by rw [IntKind.wrap_i64]; omega)
   have E2 := Lib.hid (show IntKind.wrap .i64 ((m : Int) + c10) = s2 by rw [IntKind.wrap_i64]; omega)
   have E3 := Lib.hid (show IntKind.wrap .i64 ((sa.size : Int) + (sb.size : Int)) = t1 by rw [IntKind.wrap_i64]; omega)
   have E4 := Lib.hid (show IntKind.wrap .i64 (t1 + (sc.size : Int)) = t2 by rw [IntKind.wrap_i64]; omega)
   have HZ := Lib.hid (And.intro hc10 (And.intro hs2 (And.intro ht1 ht2)))
   have HF := Lib.hid (And.intro f1 (And.intro f2 (And.intro f3 f4)))
   have HM0 := Lib.hid hm
   clear hc10 hs2 ht1 ht2 f1 f2 f3 f4 hm
   obtain ⟨U, hU⟩ : ∃ U, U = wr.alloc (.cells (haEnc x).toArray 33) := ⟨_, rfl⟩
   have hbx : Below wr.heap.size wr U := by rw [hU]; exact (Below.refl _ _).alloc (Nat.le_refl _) _
   have hcall := Few_any x.to _ ((hfit.to.on HW.out).on hbx)
   unfold LTy.val at hcall
   have HC := Lib.hid hcall
   have HBX := Lib.hid (HW.out.trans (hbx.mono HW.out.size))
   have HX := Lib.hid hx
   have HU := Lib.hid hU
   rw [hA]
   have HCS := Lib.hid hcs
   have hk9 := hk'
   clear hcell hx hab hA hbx hcall hfit hU hcs
   go_upto_region 5 with (first | ((with_reducible (show wpList _ _ _ (_ :: _) _ _)); refine wpList_load_addr rfl 33 _ rfl _ rfl (haEnc x) _ HCS.out Tryz.underlying33 rfl info_act ?_) | ((with_reducible (show wpList _ _ _ (_ :: _) _ _)); refine wpList_store_new rfl 33 _ _ rfl _ (haEnc x).toArray rfl rfl info_act rfl (ha_one x) ?_))

   rw [← HU.out]
   obtain ⟨b, hb⟩ : ∃ b, b = wr.heap.size := ⟨_, rfl⟩
   rw [← hb]
   have HBU := Lib.hid (show U.heap[b]? = some (.cells (haEnc x).toArray 33 (0, 0)) by rw [HU.out, hb]; exact heap_new_at _ _ _ (by first | rfl | simp))
   clear hb xl
   have y4 : U.cell? ⟨b, 4, none⟩ = some (.string sa) := by rw [HS.out.2.1]; exact cell_of_blk HBU.out rfl
   have y8 : U.cell? ⟨b, 8, none⟩ = some (.string sb) := by rw [HS.out.2.2.1]; exact cell_of_blk HBU.out rfl
   have y12 : U.cell? ⟨b, 12, none⟩ = some (.string sc) := by rw [HS.out.2.2.2]; exact cell_of_blk HBU.out rfl
   have y15 : U.cell? ⟨b, 15, none⟩ = some (.slice x.cells.A cl x.cells.cap) := by rw [HS.out.1]; exact cell_of_blk HBU.out rfl
   have y16 : U.cell? ⟨b, 16, none⟩ = some (.int .i64 x.to.kind) := cell_of_blk HBU.out rfl
   have y17 : U.cell? ⟨b, 17, none⟩ = some (.slice x.to.A x.to.ns.length x.to.c) := cell_of_blk HBU.out rfl
   have y18 : U.cell? ⟨b, 18, none⟩ = some (.slice x.to.A2 x.to.xs.length x.to.c2) := cell_of_blk HBU.out rfl
   have yl := blk_lt HBU.out
   have e1 := E1.out
   have e2 := E2.out
   have e3 := E3.out
   have e4 := E4.out
   by_cases hbig : 2000 < s2
   ·have HF := Lib.hid (show HFewOut xs w (.returned (.bool false)) U from ⟨HBX.out, false, rfl, fun e => by cases e⟩)
    go_wp2
    go_ret
    exact HF.out
   by_cases hstr : 300 < t2
   ·have HF := Lib.hid (show HFewOut xs w (.returned (.bool false)) U from ⟨HBX.out, false, rfl, fun e => by cases e⟩)
    go_wp2
    go_ret
    exact HF.out
   go_wp2_with fail
   with_reducible refine HC.out.mono ?_
   rintro e w5 ⟨hb5, b, rfl, hb⟩
   have HB5 := Lib.hid (HBX.out.trans (hb5.mono HBX.out.size))
   cases b with
   | false =>
    have HF := Lib.hid (show HFewOut xs w (.returned (.bool false)) w5 from ⟨HB5.out, false, rfl, fun e => by cases e⟩)
    clear hb5 hb
    go_wp2
    go_ret
    exact HF.out
   | true =>
    have HM2 := Lib.hid (show m + (10 + cl) = fewN (xs.take (k + 1)) by rw [fewN_take HX.out, ← HM.out, HS.out.1])
    have HK2 := Lib.hid (show ∀ (j : Nat) (x : HAct), j < k + 1 → xs[j]? = some x → x.a.s.size + x.b.s.size + x.c.s.size ≤ 300 ∧ (wt (strip x.to) ≤ 1000000000000000000 → wt (strip x.to) ≤ 500) from fun j y hj hy => by
     rcases Nat.lt_or_ge j k with h1 | h1
     ·exact HK.out j y h1 hy
     ·obtain rfl : j = k := by omega
      rw [HX.out] at hy
      obtain rfl := Option.some.inj hy
      refine ⟨?_, hb rfl⟩
      rw [← HS.out.2.1, ← HS.out.2.2.1, ← HS.out.2.2.2]
      have h9 := HZ.out.2.2
      omega)
    have HS2 := Lib.hid (show s2 = ((m + (10 + cl) : Nat) : Int) ∧ m + (10 + cl) ≤ 2000 by have h9 := HZ.out; omega)
    clear hb5 hb
    go_wp2_with fail
    go_roundw
    case rel => exact ⟨k + 1, by omega, by go_num, ⟨m + (10 + cl), by rw [HS2.out.1], HS2.out.2, HM2⟩, HK2, HB5⟩
    case measure => simp [intOf]; omega
  ·obtain rfl : k = n1 := by omega
   have hkk : ¬ (k : Int) < (k : Int) := by omega
   have HF := Lib.hid (show HFewOut xs w (.returned (.bool true)) wr from ⟨HW.out, true, rfl, fun _ => ⟨by have h1 := HM.out; rw [HN.out, List.take_length] at h1; omega, fun x hx => by
    obtain ⟨j, hj⟩ := List.getElem?_of_mem hx
    exact HK.out j x (by have := (List.getElem?_eq_some_iff.1 hj).1; rw [← HN.out] at this; exact this) hj⟩⟩)
   go_wp2
   go_ret
   exact HF.out
end Go.Proofs.YtilcofpceadpbaaGreatDoor
namespace Go.Proofs.YtilcofpceadpbaaGreatDoor
open Go.ChangeShapes Go.WideShapes Go.ChangeAt Go.RowKit Go.Maps

def Pair (w : World) (B N h r : Nat) (s u : HpS) : Prop := ∃ d e, HpAt w B N h s d ∧ RpAt w B N r u e ∧ ∀ b ∈ d.fp h s.F, b ∉ e.fp r u.F
section
variable {W W1 X W2 w' : World} {B N h r : Nat} {s s' u u' : HpS} {d e : HpD}
theorem Pair.below {w : World} (p : Pair w B N h r s u) (hb : Below w.heap.size w w') : Pair w' B N h r s u := by
 obtain ⟨d, e, h1, h2, h3⟩ := p
 exact ⟨d, e, h1.below hb, h2.below hb, h3⟩
theorem fr_N {S : List Nat} (HD : ∀ b ∈ S, B ≤ b) (hN : N ≤ B) (hw : B ≤ W.heap.size) (f : Fr S W W1) : Below N W W1 := f.to_below (Nat.le_trans hN hw) fun b hb => Nat.le_trans hN (HD b hb)
theorem pair_mid (HD : HpAt W B N h s d) (HE : RpAt W B N r u e) (hdj : ∀ b ∈ d.fp h s.F, b ∉ e.fp r u.F) (h1 : HpTo W B N h s d s' W1) (hx : Below W1.heap.size W1 X) : RpAt X B N r u e := by
 obtain ⟨d', a1, f1, n1⟩ := h1
 exact (HE.kept f1 (fun b hb hm => hdj b hm hb) fun b hb => Nat.le_trans HD.nB (HD.fpB b hb)).below hx
theorem pair_fin (HD : HpAt W B N h s d) (HE : RpAt W B N r u e) (hdj : ∀ b ∈ d.fp h s.F, b ∉ e.fp r u.F) (h1 : HpTo W B N h s d s' W1) (hx : Below W1.heap.size W1 X) (h2 : RpTo X B N r u e u' W2) (hy : Below W2.heap.size W2 w') : Pair w' B N h r s' u' ∧ Below N W w' := by
 obtain ⟨d', a1, f1, n1⟩ := h1
 obtain ⟨e', a2, f2, n2⟩ := h2
 have hE : ∀ b ∈ d'.fp h s'.F, b ∉ e.fp r u.F := fun b hb hm => (n1 b hb).elim (fun e0 => hdj b e0 hm) fun e0 => by
  have := (HE.kinds hm).2
  omega
 refine ⟨⟨d', e', ((a1.below hx).kept f2 hE fun b hb => Nat.le_trans HE.nB (HE.fpB b hb)).below hy, a2.below hy, fun b hb hm => (n2 b hm).elim (fun e0 => hE b hb e0) fun e0 => ?_⟩, ?_⟩
 ·have := (a1.kinds hb).2
  have := hx.size
  omega
 ·have b1 := fr_N HD.fpB HD.nB HD.wB f1
  have hN1 : N ≤ W1.heap.size := Nat.le_trans (Nat.le_trans HD.nB HD.wB) f1.size
  have b2 : Below N W X := b1.trans (hx.mono hN1)
  have b3 := fr_N HE.fpB HE.nB (Nat.le_trans (Nat.le_trans HE.wB f1.size) hx.size) f2
  have hN2 : N ≤ W2.heap.size := Nat.le_trans (Nat.le_trans hN1 hx.size) f2.size
  exact (b2.trans b3).trans (hy.mono hN2)
end
def ActTo (w : World) (B N h r m : Nat) (s u : HpS) (e : Ending) (w' : World) : Prop := ∃ (b : Bool) (s' u' : HpS), e = .returned (.bool b) ∧ HpLe m s s' ∧ HpLe m u u' ∧ Pair w' B N h r s' u' ∧ Below N w w'
theorem veq (x y : VV) : ∃ q : Bool, ∀ w, (Op.equalIn 10000 26 (.agg #[.int .i64 x.kind, .int .i64 x.n, .string x.s, .int .u64 (x.label : Int)]) (.agg #[.int .i64 y.kind, .int .i64 y.n, .string y.s, .int .u64 (y.label : Int)])).run Tryz.prog w = .ok q w := ⟨eqV x y, fun w => val_eq x y w⟩

set_option maxRecDepth 100000 in
theorem act_table {w : World} {B N h r m : Nat} {s u : HpS} (hp : Pair w B N h r s u) (oks : HpOk m s) (oku : HpOk m u) (hm : m ≤ 500) (a : HAct) (hfit : HaFit w N a) (hst : (stampsL (strip a.to)).length ≤ 1000) (hsp : SpB N w)  (e0 : (a.act == 0) = true) :
  Calls Tryz.prog 8 #[.pointer (some ⟨h, 0, none⟩), .pointer (some ⟨r, 0, none⟩), .agg #[.int .i64 a.act, .int .u64 (a.ctx : Int), .int .i64 a.a.kind, .int .i64 a.a.n, .string a.a.s, .int .u64 (a.a.label : Int), .int .i64 a.b.kind, .int .i64 a.b.n, .string a.b.s, .int .u64 (a.b.label : Int), .int .i64 a.c.kind, .int .i64 a.c.n, .string a.c.s, .int .u64 (a.c.label : Int), .int .i64 a.n, .slice a.cells.A a.cells.xs.length a.cells.cap, .int .i64 a.to.kind, .slice a.to.A a.to.ns.length a.to.c, .slice a.to.A2 a.to.xs.length a.to.c2]] w (ActTo w B N h r m s u) := by
 obtain ⟨d, e, hd, he, hdj⟩ := hp
 have HD := Lib.hid hd
 have HE := Lib.hid he
 have HDJ := Lib.hid hdj
 have HLD := Lib.hid (fun b (hb : b ∈ d.fp h s.F) => (hd.kinds hb).2)
 have HLE := Lib.hid (fun b (hb : b ∈ e.fp r u.F) => (he.kinds hb).2)
 have HOS := Lib.hid (And.intro oks (And.intro oku hm))
 have HFT := Lib.hid (And.intro hfit (And.intro hst hsp))
 have HNW := Lib.hid (Nat.le_trans hd.nB hd.wB)
 have HQ0 := Lib.hid e0
 clear hd he hdj oks oku hm hfit hst hsp e0
 obtain ⟨b0, hb0⟩ : ∃ b, b = w.heap.size := ⟨_, rfl⟩
 have HE_b0 := Lib.hid hb0
 clear hb0
 go_enter Tryz.func8, Tryz.ntmps8
 go_upto_region 1 with fail
 rw [← HE_b0.out]
 refine gen_wp fun W hW => ?_
 have HB_b0 := Lib.hid (show W.heap[b0]? = some (.cells (haEnc a).toArray 33 (0, 0)) by rw [← hW, HE_b0.out]; exact heap_new_at _ _ _ (by first | rfl | simp))
 have HW := Lib.hid (show Below w.heap.size w W by rw [← hW]; exact (Below.refl _ _).alloc (by simp <;> omega) _)
 clear hW
 have HDW := Lib.hid (HD.out.below HW.out)
 have HEW := Lib.hid (HE.out.below HW.out)
 have HNB := Lib.hid (show b0 ∉ d.fp h s.F ∧ b0 ∉ e.fp r u.F from ⟨fun hm => by have := HLD.out b0 hm; have := HE_b0.out; omega, fun hm => by have := HLE.out b0 hm; have := HE_b0.out; omega⟩)
 have q0 := HQ0.out
 have p1 : W.cell? ⟨b0, 1, none⟩ = some (.int .u64 (a.ctx : Int)) := cell_of_blk HB_b0.out rfl
 have pf1 := free_of_blk (i := 1) HB_b0.out
 have p0 : W.cell? ⟨b0, 0, none⟩ = some (.int .i64 a.act) := cell_of_blk HB_b0.out rfl
 have pf0 := free_of_blk (i := 0) HB_b0.out
 have pl := blk_lt HB_b0.out
 have HC1 := Lib.hid (table_at HDW.out a.ctx HFT.out.1.ctx m (by have := HOS.out.1.tl; have := HOS.out.2.2; omega))
 go_wp2_with fail
 clear p1 pf1 p0 pf0 pl
 refine HC1.out.mono ?_
 rintro e w1 ⟨x, b1, s', rfl, hle1, hto1⟩
 have HL1 := Lib.hid hle1
 have HT1 := Lib.hid hto1
 have D0 := Lib.hid (show w1.heap[b0]? = some (.cells (haEnc a).toArray 33 (0, 0)) by obtain ⟨_, _, f1, _⟩ := hto1; exact f1.blk HB_b0.out HNB.out.1)
 clear hle1 hto1
 go_upto_region 4 with fail
 refine gen_wp fun X hX => ?_
 obtain ⟨b7, hb7⟩ : ∃ b, b = w1.heap.size := ⟨_, rfl⟩
 rw [← hb7]
 have E7 := Lib.hid (show X.heap[b7]? = some (.cells #[.int .i64 x.kind, .int .i64 x.n, .string x.s, .int .u64 (x.label : Int)] 26 (0, 0)) by rw [← hX, hb7]; exact heap_new_at _ _ _ (by first | rfl | simp))
 have HN7 := Lib.hid (show b7 ∉ e.fp r u.F from fun hm => by have := HLE.out b7 hm; have := HE_b0.out; have := blk_lt D0.out; omega)
 have E0 := Lib.hid (show X.heap[b0]? = some (.cells (haEnc a).toArray 33 (0, 0)) by rw [← hX]; exact blk_alloc D0.out _)
 have EX := Lib.hid (show Below w1.heap.size w1 X by rw [← hX]; exact (Below.refl _ _).alloc (Nat.le_refl _) _)
 clear hX hb7
 have HEX := Lib.hid (pair_mid HDW.out HEW.out HDJ.out HT1.out EX.out)
 have HSX := Lib.hid (show Below N w X by obtain ⟨_, _, f1, _⟩ := HT1.out; exact ((HW.out.mono HNW.out).trans (fr_N HD.out.fpB HD.out.nB (Nat.le_trans HD.out.wB HW.out.size) f1)).trans (EX.out.mono (Nat.le_trans HNW.out (Nat.le_trans HW.out.size f1.size))))
 have HC2 := Lib.hid (rtable_at HEX.out a.ctx HFT.out.1.ctx m (by have := HOS.out.2.1.tl; have := HOS.out.2.2; omega))
 have p1 : X.cell? ⟨b0, 1, none⟩ = some (.int .u64 (a.ctx : Int)) := cell_of_blk E0.out rfl
 have pf1 := free_of_blk (i := 1) E0.out
 have pl := blk_lt E0.out
 go_wp2_with fail
 clear p1 pf1 pl
 refine HC2.out.mono ?_
 rintro e w2 ⟨y, b2, u', rfl, hle2, hto2⟩
 have HL2 := Lib.hid hle2
 have HT2 := Lib.hid hto2
 have F7 := Lib.hid (show w2.heap[b7]? = some (.cells #[.int .i64 x.kind, .int .i64 x.n, .string x.s, .int .u64 (x.label : Int)] 26 (0, 0)) by obtain ⟨_, _, f2, _⟩ := hto2; exact f2.blk E7.out HN7.out)
 clear hle2 hto2
 go_upto_region 5 with fail
 refine gen_wp fun Y hY => ?_
 obtain ⟨b8, hb8⟩ : ∃ b, b = w2.heap.size := ⟨_, rfl⟩
 rw [← hb8]
 have G8 := Lib.hid (show Y.heap[b8]? = some (.cells #[.int .i64 y.kind, .int .i64 y.n, .string y.s, .int .u64 (y.label : Int)] 26 (0, 0)) by rw [← hY, hb8]; exact heap_new_at _ _ _ (by first | rfl | simp))
 have G7 := Lib.hid (show Y.heap[b7]? = some (.cells #[.int .i64 x.kind, .int .i64 x.n, .string x.s, .int .u64 (x.label : Int)] 26 (0, 0)) by rw [← hY]; exact blk_alloc F7.out _)
 have EY := Lib.hid (show Below w2.heap.size w2 Y by rw [← hY]; exact (Below.refl _ _).alloc (Nat.le_refl _) _)
 clear hY hb8
 obtain ⟨y0, y1, y2, y3, yf0, yf1, yf2, yf3, yl⟩ := blk_4 G7.out
 obtain ⟨z0, z1, z2, z3, zf0, zf1, zf2, zf3, zl⟩ := blk_4 G8.out
 obtain ⟨q, hq⟩ := veq x y
 cases q with
 | false =>
  go_wp2
  go_returns
  obtain ⟨hpr, hbl⟩ := pair_fin HDW.out HEW.out HDJ.out HT1.out EX.out HT2.out EY.out
  exact ⟨false, s', u', rfl, HL1.out, HL2.out, hpr, (HW.out.mono HNW.out).trans hbl⟩
 | true =>
  go_wp2
  go_returns
  obtain ⟨hpr, hbl⟩ := pair_fin HDW.out HEW.out HDJ.out HT1.out EX.out HT2.out EY.out
  exact ⟨(b1 == b2), s', u', rfl, HL1.out, HL2.out, hpr, (HW.out.mono HNW.out).trans hbl⟩

set_option maxRecDepth 100000 in
theorem act_put {w : World} {B N h r m : Nat} {s u : HpS} (hp : Pair w B N h r s u) (oks : HpOk m s) (oku : HpOk m u) (hm : m ≤ 500) (a : HAct) (hfit : HaFit w N a) (hst : (stampsL (strip a.to)).length ≤ 1000) (hsp : SpB N w) (e0 : (a.act == 0) = false) (e1 : (a.act == 1) = true) :
  Calls Tryz.prog 8 #[.pointer (some ⟨h, 0, none⟩), .pointer (some ⟨r, 0, none⟩), .agg #[.int .i64 a.act, .int .u64 (a.ctx : Int), .int .i64 a.a.kind, .int .i64 a.a.n, .string a.a.s, .int .u64 (a.a.label : Int), .int .i64 a.b.kind, .int .i64 a.b.n, .string a.b.s, .int .u64 (a.b.label : Int), .int .i64 a.c.kind, .int .i64 a.c.n, .string a.c.s, .int .u64 (a.c.label : Int), .int .i64 a.n, .slice a.cells.A a.cells.xs.length a.cells.cap, .int .i64 a.to.kind, .slice a.to.A a.to.ns.length a.to.c, .slice a.to.A2 a.to.xs.length a.to.c2]] w (ActTo w B N h r m s u) := by
 obtain ⟨d, e, hd, he, hdj⟩ := hp
 have HD := Lib.hid hd
 have HE := Lib.hid he
 have HDJ := Lib.hid hdj
 have HLD := Lib.hid (fun b (hb : b ∈ d.fp h s.F) => (hd.kinds hb).2)
 have HLE := Lib.hid (fun b (hb : b ∈ e.fp r u.F) => (he.kinds hb).2)
 have HOS := Lib.hid (And.intro oks (And.intro oku hm))
 have HFT := Lib.hid (And.intro hfit (And.intro hst hsp))
 have HNW := Lib.hid (Nat.le_trans hd.nB hd.wB)
 have HQ0 := Lib.hid e0
 have HQ1 := Lib.hid e1
 clear hd he hdj oks oku hm hfit hst hsp e0 e1
 obtain ⟨b0, hb0⟩ : ∃ b, b = w.heap.size := ⟨_, rfl⟩
 have HE_b0 := Lib.hid hb0
 clear hb0
 go_enter Tryz.func8, Tryz.ntmps8
 go_upto_region 1 with fail
 rw [← HE_b0.out]
 refine gen_wp fun W hW => ?_
 have HB_b0 := Lib.hid (show W.heap[b0]? = some (.cells (haEnc a).toArray 33 (0, 0)) by rw [← hW, HE_b0.out]; exact heap_new_at _ _ _ (by first | rfl | simp))
 have HW := Lib.hid (show Below w.heap.size w W by rw [← hW]; exact (Below.refl _ _).alloc (by simp <;> omega) _)
 clear hW
 have HDW := Lib.hid (HD.out.below HW.out)
 have HEW := Lib.hid (HE.out.below HW.out)
 have HNB := Lib.hid (show b0 ∉ d.fp h s.F ∧ b0 ∉ e.fp r u.F from ⟨fun hm => by have := HLD.out b0 hm; have := HE_b0.out; omega, fun hm => by have := HLE.out b0 hm; have := HE_b0.out; omega⟩)
 have q0 := HQ0.out
 have q1 := HQ1.out
 have p1 : W.cell? ⟨b0, 1, none⟩ = some (.int .u64 (a.ctx : Int)) := cell_of_blk HB_b0.out rfl
 have pf1 := free_of_blk (i := 1) HB_b0.out
 have p2 : W.cell? ⟨b0, 2, none⟩ = some (.int .i64 a.a.kind) := cell_of_blk HB_b0.out rfl
 have pf2 := free_of_blk (i := 2) HB_b0.out
 have p3 : W.cell? ⟨b0, 3, none⟩ = some (.int .i64 a.a.n) := cell_of_blk HB_b0.out rfl
 have pf3 := free_of_blk (i := 3) HB_b0.out
 have p4 : W.cell? ⟨b0, 4, none⟩ = some (.string a.a.s) := cell_of_blk HB_b0.out rfl
 have pf4 := free_of_blk (i := 4) HB_b0.out
 have p5 : W.cell? ⟨b0, 5, none⟩ = some (.int .u64 (a.a.label : Int)) := cell_of_blk HB_b0.out rfl
 have pf5 := free_of_blk (i := 5) HB_b0.out
 have p6 : W.cell? ⟨b0, 6, none⟩ = some (.int .i64 a.b.kind) := cell_of_blk HB_b0.out rfl
 have pf6 := free_of_blk (i := 6) HB_b0.out
 have p7 : W.cell? ⟨b0, 7, none⟩ = some (.int .i64 a.b.n) := cell_of_blk HB_b0.out rfl
 have pf7 := free_of_blk (i := 7) HB_b0.out
 have p8 : W.cell? ⟨b0, 8, none⟩ = some (.string a.b.s) := cell_of_blk HB_b0.out rfl
 have pf8 := free_of_blk (i := 8) HB_b0.out
 have p9 : W.cell? ⟨b0, 9, none⟩ = some (.int .u64 (a.b.label : Int)) := cell_of_blk HB_b0.out rfl
 have pf9 := free_of_blk (i := 9) HB_b0.out
 have p10 : W.cell? ⟨b0, 10, none⟩ = some (.int .i64 a.c.kind) := cell_of_blk HB_b0.out rfl
 have pf10 := free_of_blk (i := 10) HB_b0.out
 have p11 : W.cell? ⟨b0, 11, none⟩ = some (.int .i64 a.c.n) := cell_of_blk HB_b0.out rfl
 have pf11 := free_of_blk (i := 11) HB_b0.out
 have p12 : W.cell? ⟨b0, 12, none⟩ = some (.string a.c.s) := cell_of_blk HB_b0.out rfl
 have pf12 := free_of_blk (i := 12) HB_b0.out
 have p13 : W.cell? ⟨b0, 13, none⟩ = some (.int .u64 (a.c.label : Int)) := cell_of_blk HB_b0.out rfl
 have pf13 := free_of_blk (i := 13) HB_b0.out
 have p0 : W.cell? ⟨b0, 0, none⟩ = some (.int .i64 a.act) := cell_of_blk HB_b0.out rfl
 have pf0 := free_of_blk (i := 0) HB_b0.out
 have pl := blk_lt HB_b0.out
 have HC1 := Lib.hid ((put_at HDW.out HOS.out.1 (by have := HOS.out.2.2; omega) a.ctx a.a a.b a.c HFT.out.1.ctx HFT.out.1.vb.vok HFT.out.1.vc.vok HFT.out.1.vb.s HFT.out.1.vc.s).mono fun e w' ⟨k, b, s1, g1, g2, g3, _⟩ => (show GoI W B N h s d m e w' from ⟨k, b, s1, g1, g2, g3⟩))
 go_wp2_with fail
 clear p1 pf1 p2 pf2 p3 pf3 p4 pf4 p5 pf5 p6 pf6 p7 pf7 p8 pf8 p9 pf9 p10 pf10 p11 pf11 p12 pf12 p13 pf13 p0 pf0 pl
 refine HC1.out.mono ?_
 rintro e w1 ⟨x, b1, s', rfl, hle1, hto1⟩
 have HL1 := Lib.hid hle1
 have HT1 := Lib.hid hto1
 have D0 := Lib.hid (show w1.heap[b0]? = some (.cells (haEnc a).toArray 33 (0, 0)) by obtain ⟨_, _, f1, _⟩ := hto1; exact f1.blk HB_b0.out HNB.out.1)
 clear hle1 hto1
 go_upto_region 8 with fail
 refine gen_wp fun X hX => ?_
 have E0 := Lib.hid (show X.heap[b0]? = some (.cells (haEnc a).toArray 33 (0, 0)) by rw [← hX]; exact D0.out)
 have EX := Lib.hid (show Below w1.heap.size w1 X by rw [← hX]; exact Below.refl _ _)
 clear hX
 have HEX := Lib.hid (pair_mid HDW.out HEW.out HDJ.out HT1.out EX.out)
 have HSX := Lib.hid (show Below N w X by obtain ⟨_, _, f1, _⟩ := HT1.out; exact ((HW.out.mono HNW.out).trans (fr_N HD.out.fpB HD.out.nB (Nat.le_trans HD.out.wB HW.out.size) f1)).trans (EX.out.mono (Nat.le_trans HNW.out (Nat.le_trans HW.out.size f1.size))))
 have HC2 := Lib.hid (rput_at HEX.out HOS.out.2.1 (by have := HOS.out.2.2; omega) a.ctx a.a a.b a.c HFT.out.1.ctx HFT.out.1.vb.vok HFT.out.1.vc.vok HFT.out.1.vb.s HFT.out.1.vc.s)
 have p1 : X.cell? ⟨b0, 1, none⟩ = some (.int .u64 (a.ctx : Int)) := cell_of_blk E0.out rfl
 have pf1 := free_of_blk (i := 1) E0.out
 have p2 : X.cell? ⟨b0, 2, none⟩ = some (.int .i64 a.a.kind) := cell_of_blk E0.out rfl
 have pf2 := free_of_blk (i := 2) E0.out
 have p3 : X.cell? ⟨b0, 3, none⟩ = some (.int .i64 a.a.n) := cell_of_blk E0.out rfl
 have pf3 := free_of_blk (i := 3) E0.out
 have p4 : X.cell? ⟨b0, 4, none⟩ = some (.string a.a.s) := cell_of_blk E0.out rfl
 have pf4 := free_of_blk (i := 4) E0.out
 have p5 : X.cell? ⟨b0, 5, none⟩ = some (.int .u64 (a.a.label : Int)) := cell_of_blk E0.out rfl
 have pf5 := free_of_blk (i := 5) E0.out
 have p6 : X.cell? ⟨b0, 6, none⟩ = some (.int .i64 a.b.kind) := cell_of_blk E0.out rfl
 have pf6 := free_of_blk (i := 6) E0.out
 have p7 : X.cell? ⟨b0, 7, none⟩ = some (.int .i64 a.b.n) := cell_of_blk E0.out rfl
 have pf7 := free_of_blk (i := 7) E0.out
 have p8 : X.cell? ⟨b0, 8, none⟩ = some (.string a.b.s) := cell_of_blk E0.out rfl
 have pf8 := free_of_blk (i := 8) E0.out
 have p9 : X.cell? ⟨b0, 9, none⟩ = some (.int .u64 (a.b.label : Int)) := cell_of_blk E0.out rfl
 have pf9 := free_of_blk (i := 9) E0.out
 have p10 : X.cell? ⟨b0, 10, none⟩ = some (.int .i64 a.c.kind) := cell_of_blk E0.out rfl
 have pf10 := free_of_blk (i := 10) E0.out
 have p11 : X.cell? ⟨b0, 11, none⟩ = some (.int .i64 a.c.n) := cell_of_blk E0.out rfl
 have pf11 := free_of_blk (i := 11) E0.out
 have p12 : X.cell? ⟨b0, 12, none⟩ = some (.string a.c.s) := cell_of_blk E0.out rfl
 have pf12 := free_of_blk (i := 12) E0.out
 have p13 : X.cell? ⟨b0, 13, none⟩ = some (.int .u64 (a.c.label : Int)) := cell_of_blk E0.out rfl
 have pf13 := free_of_blk (i := 13) E0.out
 have pl := blk_lt E0.out
 go_wp2_with fail
 clear p1 pf1 p2 pf2 p3 pf3 p4 pf4 p5 pf5 p6 pf6 p7 pf7 p8 pf8 p9 pf9 p10 pf10 p11 pf11 p12 pf12 p13 pf13 pl
 refine HC2.out.mono ?_
 rintro e w2 ⟨y, b2, u', rfl, hle2, hto2⟩
 have HL2 := Lib.hid hle2
 have HT2 := Lib.hid hto2
 clear hle2 hto2
 go_upto_region 9 with fail
 refine gen_wp fun Y hY => ?_
 have EY := Lib.hid (show Below w2.heap.size w2 Y by rw [← hY]; exact Below.refl _ _)
 clear hY
 by_cases hk : x = y
 ·have hq : (x == y) = true := beq_iff_eq.2 hk
  go_wp2
  go_returns
  obtain ⟨hpr, hbl⟩ := pair_fin HDW.out HEW.out HDJ.out HT1.out EX.out HT2.out EY.out
  exact ⟨(b1 == b2), s', u', rfl, HL1.out, HL2.out, hpr, (HW.out.mono HNW.out).trans hbl⟩
 ·have hq : (x == y) = false := beq_eq_false_iff_ne.2 hk
  go_wp2
  go_returns
  obtain ⟨hpr, hbl⟩ := pair_fin HDW.out HEW.out HDJ.out HT1.out EX.out HT2.out EY.out
  exact ⟨false, s', u', rfl, HL1.out, HL2.out, hpr, (HW.out.mono HNW.out).trans hbl⟩
end Go.Proofs.YtilcofpceadpbaaGreatDoor
