/-
  What a shape stamps: the program and the reference.
-/
import Derived.Test.YtllpicibncdppaaDoorTyRShowW
set_option linter.unusedVariables false
set_option linter.unusedSimpArgs false
namespace Go.Proofs.YtllpicibncdppaaDoor
open Go.ChangeShapes Go.WideShapes Go.ChangeAt Go.RowKit

theorem infoSt : (Tryd.prog.info? 38).map (fun i => (i.zero, i.size, i.bytes)) = some (some (.agg #[.string ByteArray.empty, .int .i64 0]), 2, 24) := by kernel_rfl
def spEnc (p : ByteArray × Nat) : List Value := [.string p.1, .int .i64 (p.2 : Nat)]
theorem spEnc_len (p : ByteArray × Nat) : (spEnc p).length = 2 := rfl
open Classical in
/-- What a type stamps. -/
noncomputable def stampsL (t : Ty) : List (ByteArray × Nat) := if t.kind = 8 ∧ May t then List.zipWith (fun s a => (s, kindsV a)) t.names t.args else []
theorem stampsL_no {t : Ty} (h : ¬ (t.kind = 8 ∧ May t)) : stampsL t = [] := by unfold stampsL; rw [if_neg h]
theorem stampsL_at {t x : LTy} {s : ByteArray} {k : Nat} (h8 : t.kind = 8) (hm : May (strip t)) (hs : t.ns[k]? = some s) (hx : t.xs[k]? = some x) : (stampsL (strip t))[k]? = some (s, kindsV (strip x)) := by
  unfold stampsL
  rw [if_pos ⟨by rw [strip_kind]; exact h8, hm⟩, List.getElem?_zipWith, strip_names, hs, strip_at hx]
theorem shape_len {t : LTy} (h8 : t.kind = 8) (hm : May (strip t)) : t.ns.length = t.xs.length ∧ t.xs.length ≤ 10000 := by
  have h1 := (shape_names hm.1 (by rw [strip_kind]; exact h8)).1
  rw [strip_names, strip_len] at h1
  refine ⟨h1, ?_⟩
  have h2 := hm.2
  have h3 := nodesL_len (strip t).args
  rw [nodes_args] at h2
  rw [strip_len] at h3
  omega
theorem stampsL_len {t : LTy} (h8 : t.kind = 8) (hm : May (strip t)) : (stampsL (strip t)).length = t.ns.length := by
  unfold stampsL
  rw [if_pos ⟨by rw [strip_kind]; exact h8, hm⟩, List.length_zipWith, strip_names, strip_len]
  have := (shape_len h8 hm).1
  omega
def StampsOut (t : Ty) (w : World) (e : Ending) (w' : World) : Prop := ∃ (A : Option Addr) (c : Nat), e = .returned (.slice A (stampsL t).length c) ∧ Reads w' w'.heap.size A ((stampsL t).flatMap spEnc) ∧ (stampsL t).length ≤ c ∧ Below w.heap.size w w'
theorem stampsOut_nil {t : Ty} {w w' : World} (h : stampsL t = []) (hb : Below w.heap.size w w') : StampsOut t w (.returned (.slice none 0 0)) w' := ⟨none, 0, by rw [h]; rfl, by rw [h]; exact .inl rfl, by rw [h]; exact Nat.le_refl _, hb⟩
set_option maxRecDepth 100000 in
set_option maxHeartbeats 16000000 in
theorem tstamps_shape (t : LTy) (w : World) (ht : LIn w w.heap.size t) (hsp : SpW w) : Calls Tryd.prog 35 #[t.val] w (StampsOut (strip t) w) := by
  obtain ⟨iS, hiS, hS0, hS1, hS2⟩ := info_parts infoSt
  unfold LTy.val
  obtain ⟨g, hg⟩ : ∃ g, g = w.heap.size := ⟨_, rfl⟩
  have HT := Lib.hid ht
  have HSP := Lib.hid hsp
  clear hsp
  clear ht
  go_enter Tryd.func35, Tryd.ntmps35
  go_upto_region 1 with fail
  rw [← hg]
  refine gen_wpT fun W hW => ?_
  obtain ⟨kt, kb⟩ : TBox W g t ∧ Below w.heap.size w W := by rw [← hW, hg]; exact one_box w t
  have KB := Lib.hid kb
  have KT := Lib.hid kt
  have k0 := kt.c0
  have k1 := kt.c1
  have k2 := kt.c2
  have kl := kt.lt
  clear hW kb kt hg
  by_cases h8 : t.kind = 8
  case neg =>
    have e8 : (t.kind == 8) = false := beq_eq_false_iff_ne.2 h8
    have HN := Lib.hid (stampsL_no (t := strip t) (fun e => h8 (by rw [← strip_kind]; exact e.1)))
    clear h8
    go_wp2
    go_ret
    exact stampsOut_nil HN.out KB.out
  have e8 : (t.kind == 8) = true := beq_iff_eq.2 h8
  have hc := tcheck_any t W (HT.out.on KB.out) (HSP.out.below KB.out)
  by_cases hm : May (strip t)
  case neg =>
    rw [tb_false hm] at hc
    unfold LTy.val at hc
    have HC := Lib.hid hc
    have HN := Lib.hid (stampsL_no (t := strip t) (fun e => hm e.2))
    clear h8 hc hm
    go_wp2_with fail
    with_reducible refine HC.out.mono ?_
    rintro e w1 ⟨rfl, hb1⟩
    go_wp2
    go_ret
    exact stampsOut_nil HN.out (KB.out.trans (hb1.mono KB.out.size))
  rw [tb_true hm] at hc
  unfold LTy.val at hc
  have HC := Lib.hid hc
  have HM := Lib.hid hm
  have H8 := Lib.hid h8
  have HLN := Lib.hid (shape_len h8 hm)
  have HSL := Lib.hid (stampsL_len h8 hm)
  obtain ⟨L, hL⟩ : ∃ L, L = stampsL (strip t) := ⟨_, rfl⟩
  have HL := Lib.hid hL
  obtain ⟨n2, hn2⟩ : ∃ n, n = t.ns.length := ⟨_, rfl⟩
  have HN := Lib.hid hn2.symm
  have hl2 : n2 ≤ 10000 := by have := HLN.out; omega
  clear h8 hc hm hL hn2
  go_wp2_with fail
  with_reducible refine HC.out.mono ?_
  rintro e w1 ⟨rfl, hb1⟩
  have KB1 := Lib.hid (KB.out.trans (hb1.mono KB.out.size))
  have KT1 := Lib.hid (KT.out.below hb1)
  have q0 := KT1.out.c0
  have q1 := KT1.out.c1
  have q2 := KT1.out.c2
  have ql := KT1.out.lt
  rw [HN.out] at q1
  clear hb1 k0 k1 k2 kl
  go_wp2_with fail
  go_loopw [3, 16] (fun l i wr => ∃ (k : Nat) (A : Option Addr) (c : Nat), k ≤ n2 ∧ i = .int .i64 k ∧ l = .slice A k c ∧ Hid (wr.ownsRow w1.heap.size 38 2 (.slice A k c) k ((L.take k).flatMap spEnc)) ∧ Hid (Below w1.heap.size w1 wr)) (fun _ i _ => n2 - (intOf i).toNat)
  case atStart => exact ⟨0, none, 0, by omega, rfl, rfl, Lib.hid (World.ownsRow_nil _ _ _ _), Lib.hid (Below.refl _ _)⟩
  case round =>
    obtain ⟨k, A, c, hk, rfl, rfl, HO, HW⟩ := hrel
    have KBr := Lib.hid (KB1.out.trans (HW.out.mono KB1.out.size))
    by_cases hlt : k < n2
    case pos =>
      obtain ⟨x, hx⟩ : ∃ x, t.xs[k]? = some x := ⟨_, List.getElem?_eq_getElem (by have := HLN.out.1; have := HN.out; omega)⟩
      obtain ⟨s, hs⟩ : ∃ s, t.ns[k]? = some s := ⟨_, List.getElem?_eq_getElem (by have := HN.out; omega)⟩
      have htr := HT.out.on KBr.out
      obtain ⟨a1, hA1, hx3⟩ := htr.at3 hx
      have x0 := hx3.2.1
      have x1 := hx3.2.2.1
      have x2 := hx3.2.2.2
      have xl := hx3.1
      obtain ⟨a2, hA2, hl2', s0⟩ := htr.name hs
      have sl : (a2.add k).block < wr.heap.size := by rw [block_add']; exact hl2'
      have hk' : (k : Int) < (n2 : Int) := by omega
      have hkx : (k : Int) < (t.xs.length : Int) := by have := (List.getElem?_eq_some_iff.1 hx).1; omega
      have hk0 : (0 : Int) ≤ k := by omega
      obtain ⟨kv, hkv⟩ : ∃ kv, kv = kindsV (strip x) := ⟨_, rfl⟩
      have HP := Lib.hid (show L[k]? = some (s, kv) by rw [HL.out, hkv]; exact stampsL_at H8.out HM.out hs hx)
      have hc := tkinds_any x wr (htr.part hx) (HSP.out.below KBr.out)
      rw [← hkv] at hc
      unfold LTy.val at hc
      have HCX := Lib.hid hc
      have KTr := KT1.out.below HW.out
      have r0 := KTr.c0
      have r1 := KTr.c1
      have r2 := KTr.c2
      have rl := KTr.lt
      rw [HN.out, hA2] at r1
      rw [hA1] at r2
      rw [hA2]
      clear htr hx hs hA1 hA2 hx3 hl2' hc hkv KTr
      go_wp2_with fail
      with_reducible refine HCX.out.mono ?_
      rintro e w5 ⟨rfl, hb5⟩
      have HB5 := Lib.hid (HW.out.trans (hb5.mono HW.out.size))
      have HO5 := Lib.hid (below_own hb5 HO.out)
      clear hb5
      go_wp2_with (at_builtin; refine wpList_append_own _ rfl _ _ 35 rfl w1.heap.size 38 iS _ 2 24 Tryd.underlying35 hiS hS0 hS1 hS2 rfl (by decide) _ _ _ rfl (HO5.out.alloc _) ⟨w5.heap.size, 0, none⟩ 1 1 [_, _] rfl rfl (World.news_of_block (heap_alloc_new _ _)) (by simp [Value.oneCell']) (by unfold maxLen; omega) (by omega) (by have := HB5.out.size; simp; omega) ?_; intro v' w6 hown6 hg6 _; obtain ⟨A6, c6, rfl, _, _, _⟩ := own_form hown6; have HO6 := Lib.hid hown6; have HB6 := Lib.hid ((HB5.out.alloc HB5.out.size _).grown hg6 (by have := HB5.out.size; simp; omega) (fun gg hgg => row_ge HO5.out _ hgg)); clear hown6 hg6)
      go_roundw
      case rel => exact ⟨k + 1, A6, c6, by omega, by go_num, rfl, Lib.hid (by rw [take_snoc HP.out, List.flatMap_append]; exact HO6.out), HB6⟩
      case measure => simp [intOf]; omega
    case neg =>
      obtain rfl : k = n2 := by omega
      have hkk : ¬ (k : Int) < (k : Int) := by omega
      have HF := Lib.hid (show stampsL (strip t) = L from HL.out.symm)
      have HLL := Lib.hid (show L.length = k by rw [HL.out, HSL.out, HN.out])
      have HO2 := Lib.hid (show wr.ownsRow w1.heap.size 38 2 (.slice A k c) k (L.flatMap spEnc) by have h := HO.out; rw [List.take_of_length_le (by rw [HLL.out]; exact Nat.le_refl _)] at h; exact h)
      go_wp2
      go_ret
      have h2 := own_reads HO2.out
      exact ⟨A, c, by rw [HF.out, HLL.out]; rfl, by rw [HF.out]; exact h2.1, by rw [HF.out, HLL.out]; exact h2.2, KBr.out⟩
set_option maxRecDepth 100000 in
set_option maxHeartbeats 16000000 in
theorem rstamps_shape (t : LTy) (w : World) (ht : LIn w w.heap.size t) : Calls Tryd.prog 36 #[t.val] w (StampsOut (strip t) w) := by
  obtain ⟨iS, hiS, hS0, hS1, hS2⟩ := info_parts infoSt
  unfold LTy.val
  obtain ⟨g, hg⟩ : ∃ g, g = w.heap.size := ⟨_, rfl⟩
  have HT := Lib.hid ht
  clear ht
  go_enter Tryd.func36, Tryd.ntmps36
  go_upto_region 1 with fail
  rw [← hg]
  refine gen_wpT fun W hW => ?_
  obtain ⟨kt, kb⟩ : TBox W g t ∧ Below w.heap.size w W := by rw [← hW, hg]; exact one_box w t
  have KB := Lib.hid kb
  have KT := Lib.hid kt
  have k0 := kt.c0
  have k1 := kt.c1
  have k2 := kt.c2
  have kl := kt.lt
  clear hW kb kt hg
  by_cases h8 : t.kind = 8
  case neg =>
    have e8 : (t.kind == 8) = false := beq_eq_false_iff_ne.2 h8
    have HN := Lib.hid (stampsL_no (t := strip t) (fun e => h8 (by rw [← strip_kind]; exact e.1)))
    clear h8
    go_wp2
    go_ret
    exact stampsOut_nil HN.out KB.out
  have e8 : (t.kind == 8) = true := beq_iff_eq.2 h8
  have hc := rcheck_any t W (HT.out.on KB.out)
  by_cases hm : May (strip t)
  case neg =>
    rw [tb_false hm] at hc
    unfold LTy.val at hc
    have HC := Lib.hid hc
    have HN := Lib.hid (stampsL_no (t := strip t) (fun e => hm e.2))
    clear h8 hc hm
    go_wp2_with fail
    with_reducible refine HC.out.mono ?_
    rintro e w1 ⟨rfl, hb1⟩
    go_wp2
    go_ret
    exact stampsOut_nil HN.out (KB.out.trans (hb1.mono KB.out.size))
  rw [tb_true hm] at hc
  unfold LTy.val at hc
  have HC := Lib.hid hc
  have HM := Lib.hid hm
  have H8 := Lib.hid h8
  have HLN := Lib.hid (shape_len h8 hm)
  have HSL := Lib.hid (stampsL_len h8 hm)
  obtain ⟨L, hL⟩ : ∃ L, L = stampsL (strip t) := ⟨_, rfl⟩
  have HL := Lib.hid hL
  obtain ⟨n2, hn2⟩ : ∃ n, n = t.ns.length := ⟨_, rfl⟩
  have HN := Lib.hid hn2.symm
  have hl2 : n2 ≤ 10000 := by have := HLN.out; omega
  clear h8 hc hm hL hn2
  go_wp2_with fail
  with_reducible refine HC.out.mono ?_
  rintro e w1 ⟨rfl, hb1⟩
  have KB1 := Lib.hid (KB.out.trans (hb1.mono KB.out.size))
  have KT1 := Lib.hid (KT.out.below hb1)
  have q0 := KT1.out.c0
  have q1 := KT1.out.c1
  have q2 := KT1.out.c2
  have ql := KT1.out.lt
  rw [HN.out] at q1
  clear hb1 k0 k1 k2 kl
  go_wp2_with fail
  go_loopw [3, 16] (fun l i wr => ∃ (k : Nat) (A : Option Addr) (c : Nat), k ≤ n2 ∧ i = .int .i64 k ∧ l = .slice A k c ∧ Hid (wr.ownsRow w1.heap.size 38 2 (.slice A k c) k ((L.take k).flatMap spEnc)) ∧ Hid (Below w1.heap.size w1 wr)) (fun _ i _ => n2 - (intOf i).toNat)
  case atStart => exact ⟨0, none, 0, by omega, rfl, rfl, Lib.hid (World.ownsRow_nil _ _ _ _), Lib.hid (Below.refl _ _)⟩
  case round =>
    obtain ⟨k, A, c, hk, rfl, rfl, HO, HW⟩ := hrel
    have KBr := Lib.hid (KB1.out.trans (HW.out.mono KB1.out.size))
    by_cases hlt : k < n2
    case pos =>
      obtain ⟨x, hx⟩ : ∃ x, t.xs[k]? = some x := ⟨_, List.getElem?_eq_getElem (by have := HLN.out.1; have := HN.out; omega)⟩
      obtain ⟨s, hs⟩ : ∃ s, t.ns[k]? = some s := ⟨_, List.getElem?_eq_getElem (by have := HN.out; omega)⟩
      have htr := HT.out.on KBr.out
      obtain ⟨a1, hA1, hx3⟩ := htr.at3 hx
      have x0 := hx3.2.1
      have x1 := hx3.2.2.1
      have x2 := hx3.2.2.2
      have xl := hx3.1
      obtain ⟨a2, hA2, hl2', s0⟩ := htr.name hs
      have sl : (a2.add k).block < wr.heap.size := by rw [block_add']; exact hl2'
      have hk' : (k : Int) < (n2 : Int) := by omega
      have hkx : (k : Int) < (t.xs.length : Int) := by have := (List.getElem?_eq_some_iff.1 hx).1; omega
      have hk0 : (0 : Int) ≤ k := by omega
      obtain ⟨kv, hkv⟩ : ∃ kv, kv = kindsV (strip x) := ⟨_, rfl⟩
      have HP := Lib.hid (show L[k]? = some (s, kv) by rw [HL.out, hkv]; exact stampsL_at H8.out HM.out hs hx)
      have hc := rkinds_any x wr (htr.part hx)
      rw [← hkv] at hc
      unfold LTy.val at hc
      have HCX := Lib.hid hc
      have KTr := KT1.out.below HW.out
      have r0 := KTr.c0
      have r1 := KTr.c1
      have r2 := KTr.c2
      have rl := KTr.lt
      rw [HN.out, hA2] at r1
      rw [hA1] at r2
      rw [hA2]
      clear htr hx hs hA1 hA2 hx3 hl2' hc hkv KTr
      go_wp2_with fail
      with_reducible refine HCX.out.mono ?_
      rintro e w5 ⟨rfl, hb5⟩
      have HB5 := Lib.hid (HW.out.trans (hb5.mono HW.out.size))
      have HO5 := Lib.hid (below_own hb5 HO.out)
      clear hb5
      go_wp2_with (at_builtin; refine wpList_append_own _ rfl _ _ 35 rfl w1.heap.size 38 iS _ 2 24 Tryd.underlying35 hiS hS0 hS1 hS2 rfl (by decide) _ _ _ rfl (HO5.out.alloc _) ⟨w5.heap.size, 0, none⟩ 1 1 [_, _] rfl rfl (World.news_of_block (heap_alloc_new _ _)) (by simp [Value.oneCell']) (by unfold maxLen; omega) (by omega) (by have := HB5.out.size; simp; omega) ?_; intro v' w6 hown6 hg6 _; obtain ⟨A6, c6, rfl, _, _, _⟩ := own_form hown6; have HO6 := Lib.hid hown6; have HB6 := Lib.hid ((HB5.out.alloc HB5.out.size _).grown hg6 (by have := HB5.out.size; simp; omega) (fun gg hgg => row_ge HO5.out _ hgg)); clear hown6 hg6)
      go_roundw
      case rel => exact ⟨k + 1, A6, c6, by omega, by go_num, rfl, Lib.hid (by rw [take_snoc HP.out, List.flatMap_append]; exact HO6.out), HB6⟩
      case measure => simp [intOf]; omega
    case neg =>
      obtain rfl : k = n2 := by omega
      have hkk : ¬ (k : Int) < (k : Int) := by omega
      have HF := Lib.hid (show stampsL (strip t) = L from HL.out.symm)
      have HLL := Lib.hid (show L.length = k by rw [HL.out, HSL.out, HN.out])
      have HO2 := Lib.hid (show wr.ownsRow w1.heap.size 38 2 (.slice A k c) k (L.flatMap spEnc) by have h := HO.out; rw [List.take_of_length_le (by rw [HLL.out]; exact Nat.le_refl _)] at h; exact h)
      go_wp2
      go_ret
      have h2 := own_reads HO2.out
      exact ⟨A, c, by rw [HF.out, HLL.out]; rfl, by rw [HF.out]; exact h2.1, by rw [HF.out, HLL.out]; exact h2.2, KBr.out⟩
end Go.Proofs.YtllpicibncdppaaDoor
