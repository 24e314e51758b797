/-
  Chapter 21: whether calls are few enough.
-/
import Derived.Test.YtohllalninoomaaDoorHeapBox
import Derived.Test.YtohllalninoomaaDoorTyCount
set_option linter.unusedVariables false
set_option linter.unusedSimpArgs false
namespace Go.Proofs.YtohllalninoomaaDoor
open Go.ChangeShapes Go.WideShapes Go.ChangeAt Go.RowKit

def fewN (xs : List HAct) : Nat := (xs.map fun a => 10 + a.cells.xs.length).sum
def HFewP (xs : List HAct) : Prop := fewN xs ≤ 2000 ∧ ∀ x ∈ xs, x.a.s.size + x.b.s.size + x.c.s.size ≤ 300 ∧ (wt (strip x.to) ≤ 1000000000000000000 → wt (strip x.to) ≤ 500)
def HFewOut (xs : List HAct) (w : World) (e : Ending) (w' : World) : Prop := Below w.heap.size w w' ∧ ∃ b : Bool, e = .returned (.bool b) ∧ (b = true → HFewP xs)
theorem ha_len (a : HAct) : (haEnc a).length = 19 := rfl
theorem fewN_take {xs : List HAct} {k : Nat} {x : HAct} (h : xs[k]? = some x) : fewN (xs.take (k + 1)) = fewN (xs.take k) + (10 + x.cells.xs.length) := by
  unfold fewN
  rw [List.take_add_one, h]
  simp
set_option maxRecDepth 100000 in
set_option maxHeartbeats 8000000 in
theorem few21_any (xs : List HAct) (A : Option Addr) (c : Nat) (w : World) (hr : Reads w w.heap.size A (xs.flatMap haEnc)) (hfit : ∀ x ∈ xs, HaFit w w.heap.size x) (hl : xs.length ≤ 1000000000000) : Calls Tryd.prog 5 #[.slice A xs.length c] w (HFewOut xs w) := by
  obtain ⟨n1, hn1⟩ : ∃ n, n = xs.length := ⟨_, rfl⟩
  rw [← hn1] at hl
  rw [← hn1]
  have HN := Lib.hid hn1
  have HR := Lib.hid hr
  have HI := Lib.hid hfit
  clear hn1 hr hfit
  go_enter Tryd.func5, Tryd.ntmps5
  go_wp2_with fail
  go_loopw [3, 8] (fun s i wr => ∃ k : Nat, k ≤ n1 ∧ i = .int .i64 k ∧ (∃ m : Nat, s = .int .i64 m ∧ m ≤ 2000 ∧ Hid (m = fewN (xs.take k))) ∧ Hid (∀ (j : Nat) (x : HAct), j < k → xs[j]? = some x → x.a.s.size + x.b.s.size + x.c.s.size ≤ 300 ∧ (wt (strip x.to) ≤ 1000000000000000000 → wt (strip x.to) ≤ 500)) ∧ Hid (Below w.heap.size w wr)) (fun _ i _ => n1 - (intOf i).toNat)
  case atStart => exact ⟨0, by omega, rfl, ⟨0, rfl, by omega, Lib.hid (by simp [fewN])⟩, Lib.hid (fun j x hj => by omega), Lib.hid (Below.refl _ _)⟩
  case round =>
    obtain ⟨k, hk, rfl, ⟨m, rfl, hm, HM⟩, HK, HW⟩ := hrel
    by_cases hlt : k < n1
    · obtain ⟨x, hx⟩ : ∃ x, xs[k]? = some x := ⟨_, List.getElem?_eq_getElem (by rw [← HN.out]; exact hlt)⟩
      obtain ⟨ad, hA, hab, hcell⟩ := (HR.out.below HW.out).at (flatMap_ne (K := 19) ha_len (by omega) hx)
      have hcs := elem_cells (K := 19) ha_len hcell hx
      have xl : (ad.add (k * 19)).block < wr.heap.size := by rw [block_add']; exact Nat.lt_of_lt_of_le hab HW.out.size
      have hk' : (k : Int) < (n1 : Int) := by omega
      have hk0 : (0 : Int) ≤ k := by omega
      have hfit := HI.out x (List.mem_of_getElem? hx)
      obtain ⟨cl, hcl⟩ : ∃ cl, cl = x.cells.xs.length := ⟨_, rfl⟩
      obtain ⟨sa, hsa⟩ : ∃ s, s = x.a.s := ⟨_, rfl⟩
      obtain ⟨sb, hsb⟩ : ∃ s, s = x.b.s := ⟨_, rfl⟩
      obtain ⟨sc, hsc⟩ : ∃ s, s = x.c.s := ⟨_, rfl⟩
      have f1 : cl * 8 ≤ 140737488351232 := by rw [hcl]; exact hfit.len
      have f2 : sa.size ≤ 140737488351232 := by rw [hsa]; exact hfit.va.s
      have f3 : sb.size ≤ 140737488351232 := by rw [hsb]; exact hfit.vb.s
      have f4 : sc.size ≤ 140737488351232 := by rw [hsc]; exact hfit.vc.s
      have HS := Lib.hid (And.intro hcl (And.intro hsa (And.intro hsb hsc)))
      clear hcl hsa hsb hsc
      obtain ⟨c10, hc10⟩ : ∃ z : Int, z = 10 + (cl : Int) := ⟨_, rfl⟩
      obtain ⟨s2, hs2⟩ : ∃ z : Int, z = (m : Int) + c10 := ⟨_, rfl⟩
      obtain ⟨t1, ht1⟩ : ∃ z : Int, z = (sa.size : Int) + (sb.size : Int) := ⟨_, rfl⟩
      obtain ⟨t2, ht2⟩ : ∃ z : Int, z = t1 + (sc.size : Int) := ⟨_, rfl⟩
      have E1 := Lib.hid (show IntKind.wrap .i64 (10 + (cl : Int)) = c10 by rw [IntKind.wrap_i64]; omega)
      have E2 := Lib.hid (show IntKind.wrap .i64 ((m : Int) + c10) = s2 by rw [IntKind.wrap_i64]; omega)
      have E3 := Lib.hid (show IntKind.wrap .i64 ((sa.size : Int) + (sb.size : Int)) = t1 by rw [IntKind.wrap_i64]; omega)
      have E4 := Lib.hid (show IntKind.wrap .i64 (t1 + (sc.size : Int)) = t2 by rw [IntKind.wrap_i64]; omega)
      have HZ := Lib.hid (And.intro hc10 (And.intro hs2 (And.intro ht1 ht2)))
      have HF := Lib.hid (And.intro f1 (And.intro f2 (And.intro f3 f4)))
      have HM0 := Lib.hid hm
      clear hc10 hs2 ht1 ht2 f1 f2 f3 f4 hm
      obtain ⟨U, hU⟩ : ∃ U, U = wr.alloc (.cells (haEnc x).toArray 32) := ⟨_, rfl⟩
      have hbx : Below wr.heap.size wr U := by rw [hU]; exact (Below.refl _ _).alloc (Nat.le_refl _) _
      have hcall := Few_any x.to _ ((hfit.to.on HW.out).on hbx)
      unfold LTy.val at hcall
      have HC := Lib.hid hcall
      have HBX := Lib.hid (HW.out.trans (hbx.mono HW.out.size))
      have HX := Lib.hid hx
      have HU := Lib.hid hU
      rw [hA]
      have HCS := Lib.hid hcs
      have hk9 := hk'
      clear hcell hx hab hA hbx hcall hfit hU hcs
      go_upto_region 5 with (first | ((with_reducible (show wpList _ _ _ (_ :: _) _ _)); refine wpList_load_addr rfl 32 _ rfl _ rfl (haEnc x) _ HCS.out Tryd.underlying32 rfl info_act ?_) | ((with_reducible (show wpList _ _ _ (_ :: _) _ _)); refine wpList_store_new rfl 32 _ _ rfl _ (haEnc x).toArray rfl rfl info_act rfl (ha_one x) ?_))

      rw [← HU.out]
      obtain ⟨b, hb⟩ : ∃ b, b = wr.heap.size := ⟨_, rfl⟩
      rw [← hb]
      have HBU := Lib.hid (show U.heap[b]? = some (.cells (haEnc x).toArray 32 (0, 0)) by rw [HU.out, hb]; exact heap_new_at _ _ _ (by first | rfl | simp))
      clear hb xl
      have y4 : U.cell? ⟨b, 4, none⟩ = some (.string sa) := by rw [HS.out.2.1]; exact cell_of_blk HBU.out rfl
      have y8 : U.cell? ⟨b, 8, none⟩ = some (.string sb) := by rw [HS.out.2.2.1]; exact cell_of_blk HBU.out rfl
      have y12 : U.cell? ⟨b, 12, none⟩ = some (.string sc) := by rw [HS.out.2.2.2]; exact cell_of_blk HBU.out rfl
      have y15 : U.cell? ⟨b, 15, none⟩ = some (.slice x.cells.A cl x.cells.cap) := by rw [HS.out.1]; exact cell_of_blk HBU.out rfl
      have y16 : U.cell? ⟨b, 16, none⟩ = some (.int .i64 x.to.kind) := cell_of_blk HBU.out rfl
      have y17 : U.cell? ⟨b, 17, none⟩ = some (.slice x.to.A x.to.ns.length x.to.c) := cell_of_blk HBU.out rfl
      have y18 : U.cell? ⟨b, 18, none⟩ = some (.slice x.to.A2 x.to.xs.length x.to.c2) := cell_of_blk HBU.out rfl
      have yl := blk_lt HBU.out
      have e1 := E1.out
      have e2 := E2.out
      have e3 := E3.out
      have e4 := E4.out
      by_cases hbig : 2000 < s2
      · have HF := Lib.hid (show HFewOut xs w (.returned (.bool false)) U from ⟨HBX.out, false, rfl, fun e => by cases e⟩)
        go_wp2
        go_ret
        exact HF.out
      by_cases hstr : 300 < t2
      · have HF := Lib.hid (show HFewOut xs w (.returned (.bool false)) U from ⟨HBX.out, false, rfl, fun e => by cases e⟩)
        go_wp2
        go_ret
        exact HF.out
      go_wp2_with fail
      with_reducible refine HC.out.mono ?_
      rintro e w5 ⟨hb5, b, rfl, hb⟩
      have HB5 := Lib.hid (HBX.out.trans (hb5.mono HBX.out.size))
      cases b with
      | false =>
        have HF := Lib.hid (show HFewOut xs w (.returned (.bool false)) w5 from ⟨HB5.out, false, rfl, fun e => by cases e⟩)
        clear hb5 hb
        go_wp2
        go_ret
        exact HF.out
      | true =>
        have HM2 := Lib.hid (show m + (10 + cl) = fewN (xs.take (k + 1)) by rw [fewN_take HX.out, ← HM.out, HS.out.1])
        have HK2 := Lib.hid (show ∀ (j : Nat) (x : HAct), j < k + 1 → xs[j]? = some x → x.a.s.size + x.b.s.size + x.c.s.size ≤ 300 ∧ (wt (strip x.to) ≤ 1000000000000000000 → wt (strip x.to) ≤ 500) from fun j y hj hy => by
          rcases Nat.lt_or_ge j k with h1 | h1
          · exact HK.out j y h1 hy
          · obtain rfl : j = k := by omega
            rw [HX.out] at hy
            obtain rfl := Option.some.inj hy
            refine ⟨?_, hb rfl⟩
            rw [← HS.out.2.1, ← HS.out.2.2.1, ← HS.out.2.2.2]
            have h9 := HZ.out.2.2
            omega)
        have HS2 := Lib.hid (show s2 = ((m + (10 + cl) : Nat) : Int) ∧ m + (10 + cl) ≤ 2000 by have h9 := HZ.out; omega)
        clear hb5 hb
        go_wp2_with fail
        go_roundw
        case rel => exact ⟨k + 1, by omega, by go_num, ⟨m + (10 + cl), by rw [HS2.out.1], HS2.out.2, HM2⟩, HK2, HB5⟩
        case measure => simp [intOf]; omega
    · obtain rfl : k = n1 := by omega
      have hkk : ¬ (k : Int) < (k : Int) := by omega
      have HF := Lib.hid (show HFewOut xs w (.returned (.bool true)) wr from ⟨HW.out, true, rfl, fun _ => ⟨by have h1 := HM.out; rw [HN.out, List.take_length] at h1; omega, fun x hx => by
        obtain ⟨j, hj⟩ := List.getElem?_of_mem hx
        exact HK.out j x (by have := (List.getElem?_eq_some_iff.1 hj).1; rw [← HN.out] at this; exact this) hj⟩⟩)
      go_wp2
      go_ret
      exact HF.out
end Go.Proofs.YtohllalninoomaaDoor
