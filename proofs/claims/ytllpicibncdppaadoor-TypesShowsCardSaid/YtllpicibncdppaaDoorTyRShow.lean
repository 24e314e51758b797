/-
  A type as a text: the reference's show.
-/
import Derived.Test.YtllpicibncdppaaDoorTyShow
set_option linter.unusedVariables false
set_option linter.unusedSimpArgs false
namespace Go.Proofs.YtllpicibncdppaaDoor
open Go.ChangeShapes Go.WideShapes Go.ChangeAt Go.RowKit

def strB (l : List UInt8) : ByteArray := ⟨l.toArray⟩
theorem strB_add (a b : List UInt8) : strB a ++ strB b = strB (a ++ b) := by
  unfold strB
  exact ByteArray.ext (by simp [ByteArray.data_append])
theorem strB_of (s : ByteArray) : s = strB s.data.toList := by
  unfold strB
  exact ByteArray.ext (by simp)
theorem strB_size (l : List UInt8) : (strB l).size = l.length := by show l.toArray.size = _; simp
/-- The text of the first parts. -/
def toK (sep : List UInt8) (l : List (List UInt8)) (k : Nat) : List UInt8 := joinL sep (l.take k)
theorem toK_zero (sep : List UInt8) (l : List (List UInt8)) : toK sep l 0 = [] := by unfold toK; rw [List.take_zero]; rfl
theorem toK_one {sep : List UInt8} {l : List (List UInt8)} {x : List UInt8} (h : l[0]? = some x) : toK sep l (0 + 1) = toK sep l 0 ++ x := by
  rw [toK_zero]
  unfold toK
  rw [take_snoc h, List.take_zero]
  simp [joinL]
theorem joinL_snoc {sep : List UInt8} {l : List (List UInt8)} (h : l ≠ []) (x : List UInt8) : joinL sep (l ++ [x]) = joinL sep l ++ sep ++ x := by
  cases l with
  | nil => exact (h rfl).elim
  | cons a l => simp [joinL, List.flatMap_append]
theorem toK_succ {sep : List UInt8} {l : List (List UInt8)} {x : List UInt8} {k : Nat} (h0 : ¬ k = 0) (h : l[k]? = some x) : toK sep l (k + 1) = toK sep l k ++ sep ++ x := by
  unfold toK
  rw [take_snoc h]
  refine joinL_snoc (fun e => ?_) x
  have h1 := congrArg List.length e
  rw [List.length_take, List.length_nil] at h1
  have := (List.getElem?_eq_some_iff.1 h).1
  omega
theorem joinL_app (sep : List UInt8) (a b : List (List UInt8)) : (joinL sep a).length ≤ (joinL sep (a ++ b)).length := by
  cases a with
  | nil => exact Nat.zero_le _
  | cons x a => simp [joinL, List.flatMap_append]
theorem toK_len (sep : List UInt8) (l : List (List UInt8)) (k : Nat) : (toK sep l k).length ≤ (joinL sep l).length := by
  have h := joinL_app sep (l.take k) (l.drop k)
  rw [List.take_append_drop] at h
  exact h
theorem toK_all {sep : List UInt8} {l : List (List UInt8)} {k : Nat} (h : l.length ≤ k) : toK sep l k = joinL sep l := by unfold toK; rw [List.take_of_length_le h]
set_option maxRecDepth 100000 in
set_option maxHeartbeats 16000000 in
theorem rshow_succ (n : Nat) (ih : ShowAll 58 n) : ShowAll 58 (n + 1) := by
  intro t w ht ct hwt
  unfold LTy.val
  obtain ⟨g, hg⟩ : ∃ g, g = w.heap.size := ⟨_, rfl⟩
  have HIH := Lib.hid ih
  have HT := Lib.hid ht
  have HCT := Lib.hid ct
  have HWT := Lib.hid hwt
  have HLN := Lib.hid (show (showT (strip t)).length ≤ 100000000 by have := showT_len (strip t); omega)
  have HPL := Lib.hid (partV_len ct)
  have HN8 := Lib.hid (show t.kind = 8 → t.ns.length = t.xs.length from fun e => by have := (shape_names ct (by rw [strip_kind]; exact e)).1; rwa [strip_names, strip_len] at this)
  have HN1 := Lib.hid (show t.kind = 9 → 0 < t.xs.length from fun e => by
    have h3 := ct.1
    rw [strip_kind, strip_len] at h3
    unfold HeadOk at h3
    omega)
  have HK := Lib.hid (show ¬ t.kind = 7 → ¬ t.kind = 8 → ¬ t.kind = 9 → 0 ≤ t.kind ∧ t.kind ≤ 6 from fun h7 h8 h9 => by
    have h3 := ct.1
    rw [strip_kind] at h3
    unfold HeadOk at h3
    omega)
  obtain ⟨n2, hn2⟩ : ∃ n, n = t.xs.length := ⟨_, rfl⟩
  have HN := Lib.hid hn2.symm
  have hl2 : n2 ≤ 1000000 := by have := wt_len (strip t); rw [strip_len] at this; omega
  have HSP := Lib.hid (show_parts t)
  obtain ⟨ans, hans⟩ : ∃ ans, ans = showT (strip t) := ⟨_, rfl⟩
  rw [← hans]
  have HA := Lib.hid hans
  clear hans ih ht ct hwt hn2
  go_enter Tryd.func58, Tryd.ntmps58
  go_upto_region 1 with fail
  rw [← hg]
  refine gen_wpT fun W hW => ?_
  obtain ⟨kt, kb⟩ : TBox W g t ∧ Below w.heap.size w W := by rw [← hW, hg]; exact one_box w t
  have KB := Lib.hid kb
  have KT := Lib.hid kt
  have ktc0 := kt.c0
  have ktc1 := kt.c1
  have ktc2 := kt.c2
  have ktlt := kt.lt
  rw [HN.out] at ktc2
  clear hW kb kt hg
  by_cases h7 : t.kind = 7
  · have e7 : (t.kind == 7) = true := beq_iff_eq.2 h7
    have H7 := Lib.hid h7
    have HJL := Lib.hid (show (joinL [32, 124, 32] (partV t)).length ≤ 100000000 by have h := HLN.out; rw [HSP.out] at h; unfold wrapL at h; rw [if_pos h7] at h; exact h)
    clear h7
    go_wp2_with fail
    go_loopw [3, 17] (fun s i wr => ∃ (k : Nat) (sb : ByteArray), k ≤ n2 ∧ i = .int .i64 k ∧ s = .string sb ∧ Hid (sb = strB (toK [32, 124, 32] (partV t) k)) ∧ Hid (Below W.heap.size W wr)) (fun _ i _ => n2 - (intOf i).toNat)
    case atStart => exact ⟨0, ⟨#[]⟩, by omega, rfl, rfl, Lib.hid (by rw [toK_zero]; rfl), Lib.hid (Below.refl _ _)⟩
    case round =>
      obtain ⟨k, sb, hk, rfl, rfl, HS, HW⟩ := hrel
      have KBr := Lib.hid (KB.out.trans (HW.out.mono KB.out.size))
      by_cases hlt : k < n2
      case pos =>
        obtain ⟨x, hx⟩ : ∃ x, t.xs[k]? = some x := ⟨_, List.getElem?_eq_getElem (by rw [HN.out]; omega)⟩
        have htr := HT.out.on KBr.out
        obtain ⟨a1, hA1, hx3⟩ := htr.at3 hx
        have x0 := hx3.2.1
        have x1 := hx3.2.2.1
        have x2 := hx3.2.2.2
        have xl := hx3.1
        have hk' : (k : Int) < (n2 : Int) := by omega
        have hk0 : (0 : Int) ≤ k := by omega
        have hbx := (one_box wr x).2
        obtain ⟨sx, hsx⟩ : ∃ sx : ByteArray, sx = strB (showT (strip x)) := ⟨_, rfl⟩
        have HSX := Lib.hid hsx
        have hsz : sx.size ≤ 100000000 := by rw [hsx, strB_size]; have h5 := showT_len (strip x); have h6 := wt_part (strip_at hx); have h7 := HWT.out; omega
        have hsb : sb.size ≤ 100000000 := by rw [HS.out, strB_size]; exact Nat.le_trans (toK_len _ _ _) HJL.out
        have HC := Lib.hid (show Calls Tryd.prog 58 #[.agg #[.int .i64 x.kind, .slice x.A x.ns.length x.c, .slice x.A2 x.xs.length x.c2]] (wr.alloc (.cells #[.int .i64 x.kind, .slice x.A x.ns.length x.c, .slice x.A2 x.xs.length x.c2] 26)) (RetB (.string sx) (wr.alloc (.cells #[.int .i64 x.kind, .slice x.A x.ns.length x.c, .slice x.A2 x.xs.length x.c2] 26))) by rw [hsx]; exact HIH.out x _ ((htr.part hx).on hbx) (HCT.out.part (strip_at hx)) (Nat.le_trans (wt_part (strip_at hx)) HWT.out))
        have HP := Lib.hid (partV_not (fun e8 => absurd (H7.out.symm.trans e8) (by decide)) hx)
        have HBX := Lib.hid (HW.out.trans (hbx.mono HW.out.size))
        rw [hA1]
        clear htr hx hA1 hx3 hbx hsx
        by_cases h0 : k = 0
        · have hkp : ¬ (0 : Int) < (k : Int) := by omega
          have hs1 : ¬ 9223372036854775807 < sb.size + sx.size := by omega
          have HNV := Lib.hid (show sb ++ sx = strB (toK [32, 124, 32] (partV t) (k + 1)) by subst h0; rw [toK_one HP.out, ← strB_add, ← HS.out, ← HSX.out])
          clear hsz hsb h0
          go_wp2_with fail
          with_reducible refine HC.out.mono ?_
          rintro e w5 ⟨rfl, hb5⟩
          have HB5 := Lib.hid (HBX.out.trans (hb5.mono HBX.out.size))
          clear hb5
          go_wp2
          go_roundw
          case rel => exact ⟨k + 1, sb ++ sx, by omega, by go_num, rfl, HNV, HB5⟩
          case measure => simp [intOf]; omega
        · have hkp : (0 : Int) < (k : Int) := by omega
          have hs0 : ¬ 9223372036854775807 < sb.size + 3 := by omega
          have hs1 : ¬ 9223372036854775807 < sb.size + 3 + sx.size := by omega
          have HNV := Lib.hid (show (sb ++ ⟨#[32, 124, 32]⟩) ++ sx = strB (toK [32, 124, 32] (partV t) (k + 1)) by rw [toK_succ h0 HP.out, ← strB_add, ← strB_add, ← HS.out, ← HSX.out]; rfl)
          clear hsz hsb h0
          go_wp2_with fail
          with_reducible refine HC.out.mono ?_
          rintro e w5 ⟨rfl, hb5⟩
          have HB5 := Lib.hid (HBX.out.trans (hb5.mono HBX.out.size))
          clear hb5
          go_wp2
          go_roundw
          case rel => exact ⟨k + 1, (sb ++ ⟨#[32, 124, 32]⟩) ++ sx, by omega, by go_num, rfl, HNV, HB5⟩
          case measure => simp [intOf]; omega
      case neg =>
        obtain rfl : k = n2 := by omega
        have hkk : ¬ (k : Int) < (k : Int) := by omega
        have HSB := Lib.hid (show sb = strB ans by rw [HS.out, toK_all (by rw [HPL.out, HN.out]; exact Nat.le_refl _), HA.out, HSP.out]; unfold wrapL; rw [if_pos H7.out])
        go_wp2
        go_ret
        exact ⟨congrArg (fun b => Ending.returned (Value.string b)) HSB.out, KBr.out⟩
  have e7 : (t.kind == 7) = false := beq_eq_false_iff_ne.2 h7
  by_cases h8 : t.kind = 8
  · have e8 : (t.kind == 8) = true := beq_iff_eq.2 h8
    have H8 := Lib.hid h8
    have H7 := Lib.hid h7
    have HJL := Lib.hid (show (joinL [44, 32] (partV t)).length ≤ 100000000 by have h := HLN.out; rw [HSP.out] at h; unfold wrapL at h; rw [if_neg h7, if_pos h8] at h; simp at h; omega)
    clear h7 h8
    go_wp2_with fail
    go_loopw [3, 37] (fun s i wr => ∃ (k : Nat) (sb : ByteArray), k ≤ n2 ∧ i = .int .i64 k ∧ s = .string sb ∧ Hid (sb = strB (toK [44, 32] (partV t) k)) ∧ Hid (Below W.heap.size W wr)) (fun _ i _ => n2 - (intOf i).toNat)
    case atStart => exact ⟨0, ⟨#[]⟩, by omega, rfl, rfl, Lib.hid (by rw [toK_zero]; rfl), Lib.hid (Below.refl _ _)⟩
    case round =>
      obtain ⟨k, sb, hk, rfl, rfl, HS, HW⟩ := hrel
      have KBr := Lib.hid (KB.out.trans (HW.out.mono KB.out.size))
      by_cases hlt : k < n2
      case pos =>
        obtain ⟨x, hx⟩ : ∃ x, t.xs[k]? = some x := ⟨_, List.getElem?_eq_getElem (by rw [HN.out]; omega)⟩
        have htr := HT.out.on KBr.out
        obtain ⟨a1, hA1, hx3⟩ := htr.at3 hx
        have x0 := hx3.2.1
        have x1 := hx3.2.2.1
        have x2 := hx3.2.2.2
        have xl := hx3.1
        have hk' : (k : Int) < (n2 : Int) := by omega
        have hk0 : (0 : Int) ≤ k := by omega
        have hbx := (one_box wr x).2
        obtain ⟨sx, hsx⟩ : ∃ sx : ByteArray, sx = strB (showT (strip x)) := ⟨_, rfl⟩
        have HSX := Lib.hid hsx
        have hsz : sx.size ≤ 100000000 := by rw [hsx, strB_size]; have h5 := showT_len (strip x); have h6 := wt_part (strip_at hx); have h7 := HWT.out; omega
        have hsb : sb.size ≤ 100000000 := by rw [HS.out, strB_size]; exact Nat.le_trans (toK_len _ _ _) HJL.out
        obtain ⟨s, hs⟩ : ∃ s, t.ns[k]? = some s := ⟨_, List.getElem?_eq_getElem (by have := HN8.out H8.out; have := HN.out; omega)⟩
        obtain ⟨a2, hA2, hl2', s0⟩ := htr.name hs
        have HA2 := Lib.hid hA2
        have hkn : (k : Int) < (t.ns.length : Int) := by have := (List.getElem?_eq_some_iff.1 hs).1; omega
        have hsn := HT.out.room s (List.mem_of_getElem? hs)
        have HP := Lib.hid (partV_shape H8.out hx hs)
        have HXC := Lib.hid (show ∀ w', Below wr.heap.size wr w' → Calls Tryd.prog 58 #[.agg #[.int .i64 x.kind, .slice x.A x.ns.length x.c, .slice x.A2 x.xs.length x.c2]] w' (RetB (.string sx) w') from fun w' hb => by rw [hsx]; exact HIH.out x _ ((htr.part hx).on hb) (HCT.out.part (strip_at hx)) (Nat.le_trans (wt_part (strip_at hx)) HWT.out))
        have HS0 := Lib.hid (show wr.cell? (a2.add k) = some (.string s) ∧ (a2.add k).block < wr.heap.size from ⟨s0, by rw [block_add']; exact hl2'⟩)
        have h1 : ¬ 9223372036854775807 < s.size + 2 := by omega
        have h2 : ¬ 9223372036854775807 < s.size + 2 + sx.size := by omega
        clear hA2 hl2' s0 hs
        have HBX := Lib.hid (HW.out.trans (hbx.mono HW.out.size))
        rw [hA1]
        clear htr hx hA1 hx3 hbx hsx
        by_cases h0 : k = 0
        · have hkp : ¬ (0 : Int) < (k : Int) := by omega
          have h3 : ¬ 9223372036854775807 < sb.size + (s.size + 2 + sx.size) := by omega
          have HNV := Lib.hid (show sb ++ ((s ++ ⟨#[58, 32]⟩) ++ sx) = strB (toK [44, 32] (partV t) (k + 1)) by subst h0; rw [toK_one HP.out]; unfold fieldL; rw [← strB_add, ← HS.out, HSX.out, strB_of s, ← strB_of s, show (58 : UInt8) :: 32 :: showT (strip x) = [58, 32] ++ showT (strip x) from rfl, ← List.append_assoc, ← strB_add, ← strB_add, ← strB_of s]; rfl)
          clear hsz hsb h0 hsn
          go_upto_region 18 with fail
          obtain ⟨gb, hgb⟩ : ∃ b, b = wr.heap.size := ⟨_, rfl⟩
          rw [← hgb]
          refine gen_wpT fun W2 hW2 => ?_
          have hbw : Below wr.heap.size wr W2 := by rw [← hW2]; exact (one_box wr x).2
          have HST := Lib.hid (show TBox W2 g t ∧ TBox W2 gb x ∧ W2.cell? (a2.add k) = some (.string s) from ⟨(KT.out.below HW.out).below hbw, by rw [← hW2, hgb]; exact (one_box wr x).1, (hbw.cell HS0.out.2).trans HS0.out.1⟩)
          have HLA := Lib.hid (show (a2.add k).block < W2.heap.size from Nat.lt_of_lt_of_le HS0.out.2 hbw.size)
          have HZ := Lib.hid (HW.out.trans (hbw.mono HW.out.size))
          have HC := Lib.hid (show ∀ w', Below W2.heap.size W2 w' → Calls Tryd.prog 58 #[.agg #[.int .i64 x.kind, .slice x.A x.ns.length x.c, .slice x.A2 x.xs.length x.c2]] w' (RetB (.string sx) w') from fun w' hb => HXC.out w' (hbw.trans (hb.mono hbw.size)))
          clear hW2 hgb hbw x0 x1 x2 xl
          refine wp_region_held_drew (S := fun w' => TBox w' g t ∧ TBox w' gb x ∧ w'.cell? (a2.add k) = some (.string s)) (by kernel_rfl) (HST.out) (fun hHeld => ?_)
          refine wpAnyH_take (i := 0) (oi := _) (v := .string sb) rfl (by kernel_rfl) (by kernel_rfl) (by kernel_rfl) (fun _ _ _ h => h) (Or.inl ⟨by rfl, fun w' hS => (by go_simp)⟩) hHeld ?_
          change wpAnyH _ _ _ _ _ _ _ (Act.put _ (some 46) _) _
          try simp only [Act.put, List.setIfInBounds_toArray, List.set_cons_zero, List.set_cons_succ]
          refine wpAnyH_take (i := 1) (oi := _) (v := .pointer (some ⟨g, 1, none⟩)) rfl (by kernel_rfl) (by kernel_rfl) (by kernel_rfl) (fun _ _ _ h => h) (Or.inl ⟨by rfl, fun w' hS => (by go_simp)⟩) hHeld ?_
          change wpAnyH _ _ _ _ _ _ _ (Act.put _ (some 47) _) _
          try simp only [Act.put, List.setIfInBounds_toArray, List.set_cons_zero, List.set_cons_succ]
          refine wpAnyH_take (i := 2) (oi := _) (v := .slice (some a2) t.ns.length t.c) rfl (by kernel_rfl) (by kernel_rfl) (by kernel_rfl) (fun _ _ _ h => h) (Or.inl ⟨by rfl, fun w' hS => (by have q : w'.cell? ⟨g, 1, none⟩ = some (.slice (some a2) t.ns.length t.c) := (by rw [← HA2.out]; exact TBox.c1 hS.1); go_simp)⟩) hHeld ?_
          change wpAnyH _ _ _ _ _ _ _ (Act.put _ (some 48) _) _
          try simp only [Act.put, List.setIfInBounds_toArray, List.set_cons_zero, List.set_cons_succ]
          refine wpAnyH_take (i := 3) (oi := _) (v := .int .i64 (k : Int)) rfl (by kernel_rfl) (by kernel_rfl) (by kernel_rfl) (fun _ _ _ h => h) (Or.inl ⟨by rfl, fun w' hS => (by go_simp)⟩) hHeld ?_
          change wpAnyH _ _ _ _ _ _ _ (Act.put _ (some 49) _) _
          try simp only [Act.put, List.setIfInBounds_toArray, List.set_cons_zero, List.set_cons_succ]
          refine wpAnyH_take (i := 4) (oi := _) (v := .pointer (some (a2.add k))) rfl (by kernel_rfl) (by kernel_rfl) (by kernel_rfl) (fun _ _ _ h => h) (Or.inl ⟨by rfl, fun w' hS => (by go_simp)⟩) hHeld ?_
          change wpAnyH _ _ _ _ _ _ _ (Act.put _ (some 50) _) _
          try simp only [Act.put, List.setIfInBounds_toArray, List.set_cons_zero, List.set_cons_succ]
          refine wpAnyH_take (i := 5) (oi := _) (v := .string s) rfl (by kernel_rfl) (by kernel_rfl) (by kernel_rfl) (fun _ _ _ h => h) (Or.inl ⟨by rfl, fun w' hS => (by have q := hS.2.2; go_simp)⟩) hHeld ?_
          change wpAnyH _ _ _ _ _ _ _ (Act.put _ (some 51) _) _
          try simp only [Act.put, List.setIfInBounds_toArray, List.set_cons_zero, List.set_cons_succ]
          refine wpAnyH_take (i := 6) (oi := _) (v := .string (s ++ ⟨#[58, 32]⟩)) rfl (by kernel_rfl) (by kernel_rfl) (by kernel_rfl) (fun _ _ _ h => h) (Or.inl ⟨by rfl, fun w' hS => (by go_simp)⟩) hHeld ?_
          change wpAnyH _ _ _ _ _ _ _ (Act.put _ (some 52) _) _
          try simp only [Act.put, List.setIfInBounds_toArray, List.set_cons_zero, List.set_cons_succ]
          refine wpAnyH_take (i := 7) (oi := _) (v := .agg #[.int .i64 x.kind, .slice x.A x.ns.length x.c, .slice x.A2 x.xs.length x.c2]) rfl (by kernel_rfl) (by kernel_rfl) (by kernel_rfl) (fun _ _ _ h => h) (Or.inl ⟨by rfl, fun w' hS => (by have q0 := TBox.c0 hS.2.1; have q1 := TBox.c1 hS.2.1; have q2 := TBox.c2 hS.2.1; go_simp)⟩) hHeld ?_
          change wpAnyH _ _ _ _ _ _ _ (Act.put _ (some 53) _) _
          try simp only [Act.put, List.setIfInBounds_toArray, List.set_cons_zero, List.set_cons_succ]
          refine wpAnyH_ready (rs := [8]) (by kernel_rfl) (by simp) ?_
          refine AllReadyH.cons (o := _) rfl (fun K hK => ?_) AllReadyH.nil
          go_simp
          with_reducible refine (HC.out _ (show Below W2.heap.size W2 W2.drew from (Below.refl _ _).drew)).mono ?_
          rintro e w5 ⟨rfl, hb5⟩
          have HB5 := Lib.hid (show Below W2.heap.size W2 w5 from (Below.refl _ _).drew.trans hb5)
          clear hb5
          refine hK.out _ _ (⟨HST.out.1.below HB5.out, HST.out.2.1.below HB5.out, (HB5.out.cell HLA.out).trans HST.out.2.2⟩) (fun hHeld => ?_)
          clear hK K
          try simp only [Act.put, List.setIfInBounds_toArray, List.set_cons_zero, List.set_cons_succ]
          refine wpAnyH_take (i := 9) (oi := _) (v := .string ((s ++ ⟨#[58, 32]⟩) ++ sx)) rfl (by kernel_rfl) (by kernel_rfl) (by kernel_rfl) (fun _ _ _ h => h) (Or.inl ⟨by rfl, fun w' hS => (by go_simp)⟩) hHeld ?_
          change wpAnyH _ _ _ _ _ _ _ (Act.put _ (some 55) _) _
          try simp only [Act.put, List.setIfInBounds_toArray, List.set_cons_zero, List.set_cons_succ]
          refine wpAnyH_take (i := 10) (oi := _) (v := .string (sb ++ ((s ++ ⟨#[58, 32]⟩) ++ sx))) rfl (by kernel_rfl) (by kernel_rfl) (by kernel_rfl) (fun _ _ _ h => h) (Or.inl ⟨by rfl, fun w' hS => (by go_simp)⟩) hHeld ?_
          change wpAnyH _ _ _ _ _ _ _ (Act.put _ (some 56) _) _
          try simp only [Act.put, List.setIfInBounds_toArray, List.set_cons_zero, List.set_cons_succ]
          refine wpAnyH_take (i := 11) (oi := _) (v := .string (sb ++ ((s ++ ⟨#[58, 32]⟩) ++ sx))) rfl (by kernel_rfl) (by kernel_rfl) (by kernel_rfl) (fun _ _ _ h => h) (Or.inl ⟨by rfl, fun w' hS => (by go_simp)⟩) hHeld ?_
          change wpAnyH _ _ _ _ _ _ _ (Act.put _ (some 3) _) _
          try simp only [Act.put, List.setIfInBounds_toArray, List.set_cons_zero, List.set_cons_succ]
          refine wpAnyH_done (by kernel_rfl) ?_ _
          go_wp2
          go_roundw
          case rel => exact ⟨k + 1, sb ++ ((s ++ ⟨#[58, 32]⟩) ++ sx), by omega, by go_num, rfl, HNV, Lib.hid (HZ.out.trans (HB5.out.mono HZ.out.size))⟩
          case measure => simp [intOf]; omega
        · have hkp : (0 : Int) < (k : Int) := by omega
          have h3 : ¬ 9223372036854775807 < sb.size + 2 := by omega
          have h4 : ¬ 9223372036854775807 < sb.size + 2 + (s.size + 2 + sx.size) := by omega
          have HNV := Lib.hid (show (sb ++ ⟨#[44, 32]⟩) ++ ((s ++ ⟨#[58, 32]⟩) ++ sx) = strB (toK [44, 32] (partV t) (k + 1)) by rw [toK_succ h0 HP.out]; unfold fieldL; rw [← strB_add, ← strB_add, ← HS.out, HSX.out, show (58 : UInt8) :: 32 :: showT (strip x) = [58, 32] ++ showT (strip x) from rfl, ← List.append_assoc, ← strB_add, ← strB_add, ← strB_of s]; rfl)
          clear hsz hsb h0 hsn
          go_upto_region 18 with fail
          obtain ⟨gb, hgb⟩ : ∃ b, b = wr.heap.size := ⟨_, rfl⟩
          rw [← hgb]
          refine gen_wpT fun W2 hW2 => ?_
          have hbw : Below wr.heap.size wr W2 := by rw [← hW2]; exact (one_box wr x).2
          have HST := Lib.hid (show TBox W2 g t ∧ TBox W2 gb x ∧ W2.cell? (a2.add k) = some (.string s) from ⟨(KT.out.below HW.out).below hbw, by rw [← hW2, hgb]; exact (one_box wr x).1, (hbw.cell HS0.out.2).trans HS0.out.1⟩)
          have HLA := Lib.hid (show (a2.add k).block < W2.heap.size from Nat.lt_of_lt_of_le HS0.out.2 hbw.size)
          have HZ := Lib.hid (HW.out.trans (hbw.mono HW.out.size))
          have HC := Lib.hid (show ∀ w', Below W2.heap.size W2 w' → Calls Tryd.prog 58 #[.agg #[.int .i64 x.kind, .slice x.A x.ns.length x.c, .slice x.A2 x.xs.length x.c2]] w' (RetB (.string sx) w') from fun w' hb => HXC.out w' (hbw.trans (hb.mono hbw.size)))
          clear hW2 hgb hbw x0 x1 x2 xl
          refine wp_region_held_drew (S := fun w' => TBox w' g t ∧ TBox w' gb x ∧ w'.cell? (a2.add k) = some (.string s)) (by kernel_rfl) (HST.out) (fun hHeld => ?_)
          refine wpAnyH_take (i := 0) (oi := _) (v := .string (sb ++ ⟨#[44, 32]⟩)) rfl (by kernel_rfl) (by kernel_rfl) (by kernel_rfl) (fun _ _ _ h => h) (Or.inl ⟨by rfl, fun w' hS => (by go_simp)⟩) hHeld ?_
          change wpAnyH _ _ _ _ _ _ _ (Act.put _ (some 46) _) _
          try simp only [Act.put, List.setIfInBounds_toArray, List.set_cons_zero, List.set_cons_succ]
          refine wpAnyH_take (i := 1) (oi := _) (v := .pointer (some ⟨g, 1, none⟩)) rfl (by kernel_rfl) (by kernel_rfl) (by kernel_rfl) (fun _ _ _ h => h) (Or.inl ⟨by rfl, fun w' hS => (by go_simp)⟩) hHeld ?_
          change wpAnyH _ _ _ _ _ _ _ (Act.put _ (some 47) _) _
          try simp only [Act.put, List.setIfInBounds_toArray, List.set_cons_zero, List.set_cons_succ]
          refine wpAnyH_take (i := 2) (oi := _) (v := .slice (some a2) t.ns.length t.c) rfl (by kernel_rfl) (by kernel_rfl) (by kernel_rfl) (fun _ _ _ h => h) (Or.inl ⟨by rfl, fun w' hS => (by have q : w'.cell? ⟨g, 1, none⟩ = some (.slice (some a2) t.ns.length t.c) := (by rw [← HA2.out]; exact TBox.c1 hS.1); go_simp)⟩) hHeld ?_
          change wpAnyH _ _ _ _ _ _ _ (Act.put _ (some 48) _) _
          try simp only [Act.put, List.setIfInBounds_toArray, List.set_cons_zero, List.set_cons_succ]
          refine wpAnyH_take (i := 3) (oi := _) (v := .int .i64 (k : Int)) rfl (by kernel_rfl) (by kernel_rfl) (by kernel_rfl) (fun _ _ _ h => h) (Or.inl ⟨by rfl, fun w' hS => (by go_simp)⟩) hHeld ?_
          change wpAnyH _ _ _ _ _ _ _ (Act.put _ (some 49) _) _
          try simp only [Act.put, List.setIfInBounds_toArray, List.set_cons_zero, List.set_cons_succ]
          refine wpAnyH_take (i := 4) (oi := _) (v := .pointer (some (a2.add k))) rfl (by kernel_rfl) (by kernel_rfl) (by kernel_rfl) (fun _ _ _ h => h) (Or.inl ⟨by rfl, fun w' hS => (by go_simp)⟩) hHeld ?_
          change wpAnyH _ _ _ _ _ _ _ (Act.put _ (some 50) _) _
          try simp only [Act.put, List.setIfInBounds_toArray, List.set_cons_zero, List.set_cons_succ]
          refine wpAnyH_take (i := 5) (oi := _) (v := .string s) rfl (by kernel_rfl) (by kernel_rfl) (by kernel_rfl) (fun _ _ _ h => h) (Or.inl ⟨by rfl, fun w' hS => (by have q := hS.2.2; go_simp)⟩) hHeld ?_
          change wpAnyH _ _ _ _ _ _ _ (Act.put _ (some 51) _) _
          try simp only [Act.put, List.setIfInBounds_toArray, List.set_cons_zero, List.set_cons_succ]
          refine wpAnyH_take (i := 6) (oi := _) (v := .string (s ++ ⟨#[58, 32]⟩)) rfl (by kernel_rfl) (by kernel_rfl) (by kernel_rfl) (fun _ _ _ h => h) (Or.inl ⟨by rfl, fun w' hS => (by go_simp)⟩) hHeld ?_
          change wpAnyH _ _ _ _ _ _ _ (Act.put _ (some 52) _) _
          try simp only [Act.put, List.setIfInBounds_toArray, List.set_cons_zero, List.set_cons_succ]
          refine wpAnyH_take (i := 7) (oi := _) (v := .agg #[.int .i64 x.kind, .slice x.A x.ns.length x.c, .slice x.A2 x.xs.length x.c2]) rfl (by kernel_rfl) (by kernel_rfl) (by kernel_rfl) (fun _ _ _ h => h) (Or.inl ⟨by rfl, fun w' hS => (by have q0 := TBox.c0 hS.2.1; have q1 := TBox.c1 hS.2.1; have q2 := TBox.c2 hS.2.1; go_simp)⟩) hHeld ?_
          change wpAnyH _ _ _ _ _ _ _ (Act.put _ (some 53) _) _
          try simp only [Act.put, List.setIfInBounds_toArray, List.set_cons_zero, List.set_cons_succ]
          refine wpAnyH_ready (rs := [8]) (by kernel_rfl) (by simp) ?_
          refine AllReadyH.cons (o := _) rfl (fun K hK => ?_) AllReadyH.nil
          go_simp
          with_reducible refine (HC.out _ (show Below W2.heap.size W2 W2.drew from (Below.refl _ _).drew)).mono ?_
          rintro e w5 ⟨rfl, hb5⟩
          have HB5 := Lib.hid (show Below W2.heap.size W2 w5 from (Below.refl _ _).drew.trans hb5)
          clear hb5
          refine hK.out _ _ (⟨HST.out.1.below HB5.out, HST.out.2.1.below HB5.out, (HB5.out.cell HLA.out).trans HST.out.2.2⟩) (fun hHeld => ?_)
          clear hK K
          try simp only [Act.put, List.setIfInBounds_toArray, List.set_cons_zero, List.set_cons_succ]
          refine wpAnyH_take (i := 9) (oi := _) (v := .string ((s ++ ⟨#[58, 32]⟩) ++ sx)) rfl (by kernel_rfl) (by kernel_rfl) (by kernel_rfl) (fun _ _ _ h => h) (Or.inl ⟨by rfl, fun w' hS => (by go_simp)⟩) hHeld ?_
          change wpAnyH _ _ _ _ _ _ _ (Act.put _ (some 55) _) _
          try simp only [Act.put, List.setIfInBounds_toArray, List.set_cons_zero, List.set_cons_succ]
          refine wpAnyH_take (i := 10) (oi := _) (v := .string ((sb ++ ⟨#[44, 32]⟩) ++ ((s ++ ⟨#[58, 32]⟩) ++ sx))) rfl (by kernel_rfl) (by kernel_rfl) (by kernel_rfl) (fun _ _ _ h => h) (Or.inl ⟨by rfl, fun w' hS => (by go_simp)⟩) hHeld ?_
          change wpAnyH _ _ _ _ _ _ _ (Act.put _ (some 56) _) _
          try simp only [Act.put, List.setIfInBounds_toArray, List.set_cons_zero, List.set_cons_succ]
          refine wpAnyH_take (i := 11) (oi := _) (v := .string ((sb ++ ⟨#[44, 32]⟩) ++ ((s ++ ⟨#[58, 32]⟩) ++ sx))) rfl (by kernel_rfl) (by kernel_rfl) (by kernel_rfl) (fun _ _ _ h => h) (Or.inl ⟨by rfl, fun w' hS => (by go_simp)⟩) hHeld ?_
          change wpAnyH _ _ _ _ _ _ _ (Act.put _ (some 3) _) _
          try simp only [Act.put, List.setIfInBounds_toArray, List.set_cons_zero, List.set_cons_succ]
          refine wpAnyH_done (by kernel_rfl) ?_ _
          go_wp2
          go_roundw
          case rel => exact ⟨k + 1, (sb ++ ⟨#[44, 32]⟩) ++ ((s ++ ⟨#[58, 32]⟩) ++ sx), by omega, by go_num, rfl, HNV, Lib.hid (HZ.out.trans (HB5.out.mono HZ.out.size))⟩
          case measure => simp [intOf]; omega
      case neg =>
        obtain rfl : k = n2 := by omega
        have hkk : ¬ (k : Int) < (k : Int) := by omega
        have hsb : sb.size ≤ 100000000 := by rw [HS.out, strB_size]; exact Nat.le_trans (toK_len _ _ _) HJL.out
        have h1 : ¬ 9223372036854775807 < 1 + sb.size := by omega
        have h2 : ¬ 9223372036854775807 < 1 + sb.size + 1 := by omega
        have HSB := Lib.hid (show ((⟨#[123]⟩ : ByteArray) ++ sb) ++ ⟨#[125]⟩ = strB ans by
          rw [HS.out, toK_all (by rw [HPL.out, HN.out]; exact Nat.le_refl _), HA.out, HSP.out]
          unfold wrapL
          rw [if_neg H7.out, if_pos H8.out, show ((123 : UInt8) :: (joinL [44, 32] (partV t) ++ [125])) = ([123] ++ joinL [44, 32] (partV t)) ++ [125] from rfl, ← strB_add, ← strB_add]
          rfl)
        clear hsb
        go_wp2
        go_ret
        exact ⟨congrArg (fun b => Ending.returned (Value.string b)) HSB.out, KBr.out⟩
  have e8 : (t.kind == 8) = false := beq_eq_false_iff_ne.2 h8
  by_cases h9 : t.kind = 9
  · have e9 : (t.kind == 9) = true := beq_iff_eq.2 h9
    obtain ⟨m, hm⟩ : ∃ m, n2 = m + 1 := ⟨n2 - 1, by have := HN1.out h9; have := HN.out; omega⟩
    subst hm
    have hkm : ((m + 1 : Nat) : Int) - 1 = (m : Int) := by omega
    have hwm : IntKind.i64.wrap (((m + 1 : Nat) : Int) - 1) = (m : Int) := by rw [hkm]; exact IntWalk.i64_in _ (by omega)
    have hL : (partV t).length = m + 1 := by rw [HPL.out, HN.out]
    obtain ⟨lst, hlst⟩ : ∃ lst, t.xs[m]? = some lst := ⟨_, List.getElem?_eq_getElem (by rw [HN.out]; omega)⟩
    have hpl := partV_not h8 hlst
    have HE := Lib.hid (show showT (strip t) = ([40] ++ joinL [44, 32] (partV t).dropLast) ++ [41, 32, 45, 62, 32] ++ showT (strip lst) by
      rw [HSP.out]
      unfold wrapL
      rw [if_neg h7, if_neg h8, if_pos h9, List.getLast?_eq_getElem?, hL, show m + 1 - 1 = m from rfl, hpl]
      simp)
    have HJL := Lib.hid (show (joinL [44, 32] (partV t).dropLast).length ≤ 100000000 by have h := HLN.out; rw [HE.out] at h; simp at h; omega)
    have hcm := (HT.out.n2).1
    rw [HN.out] at hcm
    have hmc : (m : Int) ≤ (t.c2 : Int) := by omega
    have hm0 : (0 : Int) ≤ m := by omega
    have HL := Lib.hid hL
    have HLST := Lib.hid hlst
    have H8 := Lib.hid h8
    obtain ⟨a1, hA1, hx3⟩ := (HT.out.on KB.out).at3 hlst
    have HA1 := Lib.hid hA1
    rw [hA1] at ktc2
    clear h7 h8 h9 hL hpl hlst hcm hx3 hA1
    go_wp2_with fail
    go_loopw [3, 71] (fun s i wr => ∃ (k : Nat) (sb : ByteArray), k ≤ m ∧ i = .int .i64 k ∧ s = .string sb ∧ Hid (sb = strB (toK [44, 32] (partV t).dropLast k)) ∧ Hid (Below W.heap.size W wr)) (fun _ i _ => m - (intOf i).toNat)
    case atStart => exact ⟨0, ⟨#[]⟩, by omega, rfl, rfl, Lib.hid (by rw [toK_zero]; rfl), Lib.hid (Below.refl _ _)⟩
    case round =>
      obtain ⟨k, sb, hk, rfl, rfl, HS, HW⟩ := hrel
      have KBr := Lib.hid (KB.out.trans (HW.out.mono KB.out.size))
      by_cases hlt : k < m
      case pos =>
        obtain ⟨x, hx⟩ : ∃ x, t.xs[k]? = some x := ⟨_, List.getElem?_eq_getElem (by rw [HN.out]; omega)⟩
        have htr := HT.out.on KBr.out
        obtain ⟨a3, hA1, hx3⟩ := htr.at3 hx
        obtain rfl : a1 = a3 := Option.some.inj (HA1.out.symm.trans hA1)
        have x0 := hx3.2.1
        have x1 := hx3.2.2.1
        have x2 := hx3.2.2.2
        have xl := hx3.1
        have hk' : (k : Int) < (m : Int) := by omega
        have hk0 : (0 : Int) ≤ k := by omega
        have hbx := (one_box wr x).2
        obtain ⟨sx, hsx⟩ : ∃ sx : ByteArray, sx = strB (showT (strip x)) := ⟨_, rfl⟩
        have HSX := Lib.hid hsx
        have hsz : sx.size ≤ 100000000 := by rw [hsx, strB_size]; have h5 := showT_len (strip x); have h6 := wt_part (strip_at hx); have h7 := HWT.out; omega
        have hsb : sb.size ≤ 100000000 := by rw [HS.out, strB_size]; exact Nat.le_trans (toK_len _ _ _) HJL.out
        have HC := Lib.hid (show Calls Tryd.prog 58 #[.agg #[.int .i64 x.kind, .slice x.A x.ns.length x.c, .slice x.A2 x.xs.length x.c2]] (wr.alloc (.cells #[.int .i64 x.kind, .slice x.A x.ns.length x.c, .slice x.A2 x.xs.length x.c2] 26)) (RetB (.string sx) (wr.alloc (.cells #[.int .i64 x.kind, .slice x.A x.ns.length x.c, .slice x.A2 x.xs.length x.c2] 26))) by rw [hsx]; exact HIH.out x _ ((htr.part hx).on hbx) (HCT.out.part (strip_at hx)) (Nat.le_trans (wt_part (strip_at hx)) HWT.out))
        have HP := Lib.hid (show (partV t).dropLast[k]? = some (showT (strip x)) by rw [List.getElem?_dropLast, if_pos (by rw [HL.out]; omega)]; exact partV_not H8.out hx)
        have HBX := Lib.hid (HW.out.trans (hbx.mono HW.out.size))
        clear htr hx hA1 hx3 hbx hsx
        by_cases h0 : k = 0
        · have hkp : ¬ (0 : Int) < (k : Int) := by omega
          have hs1 : ¬ 9223372036854775807 < sb.size + sx.size := by omega
          have HNV := Lib.hid (show sb ++ sx = strB (toK [44, 32] (partV t).dropLast (k + 1)) by subst h0; rw [toK_one HP.out, ← strB_add, ← HS.out, ← HSX.out])
          clear hsz hsb h0
          go_wp2_with fail
          with_reducible refine HC.out.mono ?_
          rintro e w5 ⟨rfl, hb5⟩
          have HB5 := Lib.hid (HBX.out.trans (hb5.mono HBX.out.size))
          clear hb5
          go_wp2
          go_roundw
          case rel => exact ⟨k + 1, sb ++ sx, by omega, by go_num, rfl, HNV, HB5⟩
          case measure => simp [intOf]; omega
        · have hkp : (0 : Int) < (k : Int) := by omega
          have hs0 : ¬ 9223372036854775807 < sb.size + 2 := by omega
          have hs1 : ¬ 9223372036854775807 < sb.size + 2 + sx.size := by omega
          have HNV := Lib.hid (show (sb ++ ⟨#[44, 32]⟩) ++ sx = strB (toK [44, 32] (partV t).dropLast (k + 1)) by rw [toK_succ h0 HP.out, ← strB_add, ← strB_add, ← HS.out, ← HSX.out]; rfl)
          clear hsz hsb h0
          go_wp2_with fail
          with_reducible refine HC.out.mono ?_
          rintro e w5 ⟨rfl, hb5⟩
          have HB5 := Lib.hid (HBX.out.trans (hb5.mono HBX.out.size))
          clear hb5
          go_wp2
          go_roundw
          case rel => exact ⟨k + 1, (sb ++ ⟨#[44, 32]⟩) ++ sx, by omega, by go_num, rfl, HNV, HB5⟩
          case measure => simp [intOf]; omega
      case neg =>
        obtain rfl : k = m := by omega
        have hkk : ¬ (k : Int) < (k : Int) := by omega
        have htr := HT.out.on KBr.out
        obtain ⟨a3, hA3, hx3⟩ := htr.at3 HLST.out
        obtain rfl : a1 = a3 := Option.some.inj (HA1.out.symm.trans hA3)
        have x0 := hx3.2.1
        have x1 := hx3.2.2.1
        have x2 := hx3.2.2.2
        have xl := hx3.1
        have KTr := KT.out.below HW.out
        have rc2 := KTr.c2
        have rl := KTr.lt
        rw [HN.out, HA1.out] at rc2
        clear KTr
        have hsb : sb.size ≤ 100000000 := by rw [HS.out, strB_size]; exact Nat.le_trans (toK_len _ _ _) HJL.out
        obtain ⟨sx, hsx⟩ : ∃ sx : ByteArray, sx = strB (showT (strip lst)) := ⟨_, rfl⟩
        have HSX := Lib.hid hsx
        have hsz : sx.size ≤ 100000000 := by rw [hsx, strB_size]; have h5 := showT_len (strip lst); have h6 := wt_part (strip_at HLST.out); have h7 := HWT.out; omega
        have HC := Lib.hid (show Calls Tryd.prog 58 #[.agg #[.int .i64 lst.kind, .slice lst.A lst.ns.length lst.c, .slice lst.A2 lst.xs.length lst.c2]] wr (RetB (.string sx) wr) by rw [hsx]; exact HIH.out lst _ (htr.part HLST.out) (HCT.out.part (strip_at HLST.out)) (Nat.le_trans (wt_part (strip_at HLST.out)) HWT.out))
        have h1 : ¬ 9223372036854775807 < 1 + sb.size := by omega
        have h2 : ¬ 9223372036854775807 < 1 + sb.size + 5 := by omega
        have h3 : ¬ 9223372036854775807 < 1 + sb.size + 5 + sx.size := by omega
        have hmk : (k : Int) < ((k + 1 : Nat) : Int) := by omega
        have HSB := Lib.hid (show (((⟨#[40]⟩ : ByteArray) ++ sb) ++ ⟨#[41, 32, 45, 62, 32]⟩) ++ sx = strB ans by
          rw [HS.out, toK_all (by rw [List.length_dropLast, HL.out]; exact Nat.le_refl _), HA.out, HE.out, HSX.out, ← strB_add, ← strB_add, ← strB_add]
          rfl)
        clear hsb hsz hsx hx3 htr hA3
        go_wp2_with fail
        with_reducible refine HC.out.mono ?_
        rintro e w5 ⟨rfl, hb5⟩
        have HB5 := Lib.hid (KBr.out.trans (hb5.mono KBr.out.size))
        clear hb5
        go_wp2
        go_ret
        exact ⟨congrArg (fun b => Ending.returned (Value.string b)) HSB.out, HB5.out⟩
  have e9 : (t.kind == 9) = false := beq_eq_false_iff_ne.2 h9
  have h06 := HK.out h7 h8 h9
  have HAN := Lib.hid (show ans = nameL t.kind by rw [HA.out, HSP.out]; unfold wrapL; rw [if_neg h7, if_neg h8, if_neg h9])
  clear h7 h8 h9
  rcases range7 h06.1 h06.2 with hk | hk | hk | hk | hk | hk | hk
  all_goals
    rw [hk] at ktc0 e7 e8 e9 HAN
    have HR := Lib.hid (HAN.out)
    clear h06 hk HAN
    go_wp2
    go_ret
    exact ⟨congrArg (fun b => Ending.returned (strV b)) HR.out.symm, by first | exact KB.out.trans ((Below.refl _ _).alloc (Nat.le_refl _) _) | exact KB.out.trans (((Below.refl _ _).alloc (Nat.le_refl _) _).mono KB.out.size)⟩
theorem rshow_all : ∀ n, ShowAll 58 n
  | 0 => fun _ _ _ h _ => h.elim
  | n + 1 => rshow_succ n (rshow_all n)
end Go.Proofs.YtllpicibncdppaaDoor
