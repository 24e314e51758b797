/-
  A type as a text: the program's names and show.
-/
import Derived.Test.YtllpicibncdppaaDoorTyShW
set_option linter.unusedVariables false
set_option linter.unusedSimpArgs false
namespace Go.Proofs.YtllpicibncdppaaDoor
open Go.ChangeShapes Go.WideShapes Go.ChangeAt Go.RowKit

theorem infoStrS : (Tryd.prog.info? 9).map (fun i => (i.zero, i.size, i.bytes)) = some (some (.string ByteArray.empty), 1, 16) := by kernel_rfl
theorem strV_wrap (b : List UInt8) (sj : ByteArray) (h : sj = ⟨b.toArray⟩) : Value.string (((⟨#[123]⟩ : ByteArray) ++ sj) ++ ⟨#[125]⟩) = strV (123 :: (b ++ [125])) := by
  subst h
  unfold strV
  first | exact congrArg Value.string (ByteArray.ext (by simp [ByteArray.data_append])) | rfl
set_option maxRecDepth 100000 in
set_option maxHeartbeats 1000000 in
theorem tnames_any (w : World) : Calls Tryd.prog 78 #[] w (RetB (.agg #[.string ⟨#[97, 110, 121]⟩, .string ⟨#[110, 105, 108]⟩, .string ⟨#[98, 111, 111, 108]⟩, .string ⟨#[105, 110, 116]⟩, .string ⟨#[115, 116, 114, 105, 110, 103]⟩, .string ⟨#[116, 97, 98, 108, 101]⟩, .string ⟨#[116, 104, 114, 101, 97, 100]⟩]) w) := by
  go_enter Tryd.func78, Tryd.ntmps78
  go_wp2
  refine bodyPost_ret (v := .agg #[.string ⟨#[97, 110, 121]⟩, .string ⟨#[110, 105, 108]⟩, .string ⟨#[98, 111, 111, 108]⟩, .string ⟨#[105, 110, 116]⟩, .string ⟨#[115, 116, 114, 105, 110, 103]⟩, .string ⟨#[116, 97, 98, 108, 101]⟩, .string ⟨#[116, 104, 114, 101, 97, 100]⟩]) (by simp [results, Tryd.results78, go_sem]) rfl ?_
  refine ⟨rfl, ?_⟩
  first | exact (Below.refl _ _).alloc (Nat.le_refl _) _ | exact ((((((((Below.refl _ _).alloc (Nat.le_refl _) _).setCell (by simp) _).setCell (by simp) _).setCell (by simp) _).setCell (by simp) _).setCell (by simp) _).setCell (by simp) _).setCell (by simp) _
theorem idx_names {k : Int} (h0 : 0 ≤ k) (h6 : k ≤ 6) (w : World) : (Instr.index 59 (.agg #[.string ⟨#[97, 110, 121]⟩, .string ⟨#[110, 105, 108]⟩, .string ⟨#[98, 111, 111, 108]⟩, .string ⟨#[105, 110, 116]⟩, .string ⟨#[115, 116, 114, 105, 110, 103]⟩, .string ⟨#[116, 97, 98, 108, 101]⟩, .string ⟨#[116, 104, 114, 101, 97, 100]⟩]) (.int .i64 k)).run Tryd.prog w = .ok (strV (nameL k)) w := by
  rcases range7 h0 h6 with rfl | rfl | rfl | rfl | rfl | rfl | rfl <;> kernel_rfl
def ShowAll (f n : Nat) : Prop := ∀ (t : LTy) (w : World), LIn w w.heap.size t → Chk n (strip t) → wt (strip t) ≤ 1000000 → Calls Tryd.prog f #[t.val] w (RetB (strV (showT (strip t))) w)
theorem wt_mem {a : Ty} : ∀ {l : List Ty}, a ∈ l → wt a ≤ wtL l
  | b :: l, h => by
    rw [wtL]
    rcases List.mem_cons.1 h with rfl | h
    · omega
    · have := wt_mem h
      omega
theorem wt_part {t a : Ty} {i : Nat} (h : t.args[i]? = some a) : wt a ≤ wt t := by
  have := wt_mem (List.mem_of_getElem? h)
  rw [wt_eq t]
  omega
theorem wt_len (t : Ty) : t.args.length ≤ wt t := by
  have h1 := wt_nodes t
  have h2 := nodesL_len t.args
  rw [nodes_args] at h1
  omega
set_option maxRecDepth 100000 in
set_option maxHeartbeats 16000000 in
theorem tshow_succ (n : Nat) (ih : ShowAll 57 n) : ShowAll 57 (n + 1) := by
  intro t w ht ct hwt
  obtain ⟨iS, hiS, hS0, hS1, hS2⟩ := info_parts infoStrS
  unfold LTy.val
  obtain ⟨g, hg⟩ : ∃ g, g = w.heap.size := ⟨_, rfl⟩
  have HIH := Lib.hid ih
  have HT := Lib.hid ht
  have HCT := Lib.hid ct
  have HWT := Lib.hid hwt
  have HLN := Lib.hid (show (showT (strip t)).length ≤ 100000000 by have := showT_len (strip t); omega)
  have HPL := Lib.hid (partV_len ct)
  have HN8 := Lib.hid (show t.kind = 8 → t.ns.length = t.xs.length from fun e => by have := (shape_names ct (by rw [strip_kind]; exact e)).1; rwa [strip_names, strip_len] at this)
  obtain ⟨n2, hn2⟩ : ∃ n, n = t.xs.length := ⟨_, rfl⟩
  have HN := Lib.hid hn2.symm
  have hl2 : n2 ≤ 1000000 := by have := wt_len (strip t); rw [strip_len] at this; omega
  have HSP := Lib.hid (show_parts t)
  obtain ⟨ans, hans⟩ : ∃ ans, ans = showT (strip t) := ⟨_, rfl⟩
  rw [← hans]
  have HA := Lib.hid hans
  clear hans ih ht ct hwt hn2
  go_enter Tryd.func57, Tryd.ntmps57
  go_upto_region 1 with fail
  rw [← hg]
  refine gen_wpT fun W hW => ?_
  obtain ⟨kt, kb⟩ : TBox W g t ∧ Below w.heap.size w W := by rw [← hW, hg]; exact one_box w t
  have KB := Lib.hid kb
  have KT := Lib.hid kt
  have ktc0 := kt.c0
  have ktc1 := kt.c1
  have ktc2 := kt.c2
  have ktlt := kt.lt
  rw [HN.out] at ktc2
  clear hW kb kt hg
  go_wp2_with fail
  go_loopw [3, 11] (fun l i wr => ∃ (k : Nat) (A : Option Addr) (c : Nat), k ≤ n2 ∧ i = .int .i64 k ∧ l = .slice A k c ∧ Hid (wr.ownsRow W.heap.size 9 1 (.slice A k c) k (((partV t).take k).map strV)) ∧ Hid (Below W.heap.size W wr)) (fun _ i _ => n2 - (intOf i).toNat)
  case atStart => exact ⟨0, none, 0, by omega, rfl, rfl, Lib.hid (World.ownsRow_nil _ _ _ _), Lib.hid (Below.refl _ _)⟩
  case round =>
    obtain ⟨k, A, c, hk, rfl, rfl, HO, HW⟩ := hrel
    have KBr := Lib.hid (KB.out.trans (HW.out.mono KB.out.size))
    by_cases hlt : k < n2
    case pos =>
      obtain ⟨x, hx⟩ : ∃ x, t.xs[k]? = some x := ⟨_, List.getElem?_eq_getElem (by rw [HN.out]; exact hlt)⟩
      have htr := HT.out.on KBr.out
      obtain ⟨a1, hA1, hx3⟩ := htr.at3 hx
      have x0 := hx3.2.1
      have x1 := hx3.2.2.1
      have x2 := hx3.2.2.2
      have xl := hx3.1
      have hk' : (k : Int) < (n2 : Int) := by omega
      have hk0 : (0 : Int) ≤ k := by omega
      have hbx := (one_box wr x).2
      obtain ⟨sx, hsx⟩ : ∃ sx : ByteArray, sx = ⟨(showT (strip x)).toArray⟩ := ⟨_, rfl⟩
      have HE := Lib.hid (show Value.string sx = strV (showT (strip x)) by rw [hsx]; rfl)
      have HSX := Lib.hid hsx
      have HSZ := Lib.hid (show sx.size ≤ 100000000 by rw [hsx]; have h5 := showT_len (strip x); have h6 := wt_part (strip_at hx); have h7 := HWT.out; show (showT (strip x)).toArray.size ≤ _; simp; omega)
      have HC := Lib.hid (show Calls Tryd.prog 57 #[.agg #[.int .i64 x.kind, .slice x.A x.ns.length x.c, .slice x.A2 x.xs.length x.c2]] (wr.alloc (.cells #[.int .i64 x.kind, .slice x.A x.ns.length x.c, .slice x.A2 x.xs.length x.c2] 26)) (RetB (.string sx) (wr.alloc (.cells #[.int .i64 x.kind, .slice x.A x.ns.length x.c, .slice x.A2 x.xs.length x.c2] 26))) by rw [HE.out]; exact HIH.out x _ ((htr.part hx).on hbx) (HCT.out.part (strip_at hx)) (Nat.le_trans (wt_part (strip_at hx)) HWT.out))
      have HBX := Lib.hid (HW.out.trans (hbx.mono HW.out.size))
      have HX := Lib.hid hx
      rw [hA1]
      clear htr hx hA1 hx3 hbx hsx
      go_wp2_with fail
      with_reducible refine HC.out.mono ?_
      rintro e w5 ⟨rfl, hb5⟩
      have HB5 := Lib.hid (HBX.out.trans (hb5.mono HBX.out.size))
      have HO5 := Lib.hid (below_own hb5 (HO.out.alloc _))
      have KT5 := KT.out.below HB5.out
      have k5c0 := KT5.c0
      have k5c1 := KT5.c1
      have k5l := KT5.lt
      clear KT5 hb5 x0 x1 x2 xl
      by_cases h8 : t.kind = 8
      · have e8 : (t.kind == 8) = true := beq_iff_eq.2 h8
        obtain ⟨s, hs⟩ : ∃ s, t.ns[k]? = some s := ⟨_, List.getElem?_eq_getElem (by have := HN8.out h8; have := HN.out; omega)⟩
        obtain ⟨a2, hA2, hl2, s0⟩ := (HT.out.on (KB.out.trans (HB5.out.mono KB.out.size))).name hs
        have sl : (a2.add k).block < w5.heap.size := by rw [block_add']; exact hl2
        have HP := Lib.hid (partV_shape h8 HX.out hs)
        have hkn : (k : Int) < (t.ns.length : Int) := by have := (List.getElem?_eq_some_iff.1 hs).1; omega
        have hsz := HT.out.room s (List.mem_of_getElem? hs)
        have hsz2 := HSZ.out
        have hs1 : ¬ 9223372036854775807 < s.size + 2 := by omega
        have hs2 : ¬ 9223372036854775807 < s.size + 2 + sx.size := by omega
        rw [hA2] at k5c1
        have HNV := Lib.hid (show Value.string ((s ++ ⟨#[58, 32]⟩) ++ sx) = strV (fieldL s (showT (strip x))) by rw [HSX.out]; exact strV_cat3 s [58, 32] (showT (strip x)))
        clear hs hl2 hA2 hsz hsz2 h8
        go_wp2_with (at_builtin; refine wpList_append_own _ rfl _ _ 23 rfl W.heap.size 9 iS _ 1 16 Tryd.underlying23 hiS hS0 hS1 hS2 rfl (by decide) _ _ _ rfl (HO5.out.alloc _) ⟨w5.heap.size, 0, none⟩ 1 1 [_] rfl rfl (World.news_of_block (heap_alloc_new _ _)) (by simp [Value.oneCell', strV]) (by unfold maxLen; omega) (by omega) (by have := HB5.out.size; simp; omega) ?_; intro v' w6 hown6 hg6 _; obtain ⟨A6, c6, rfl, _, _, _⟩ := own_form hown6; have HO6 := Lib.hid hown6; have HB6 := Lib.hid ((HB5.out.alloc HB5.out.size _).grown hg6 (by have := HB5.out.size; simp; omega) (fun gg hgg => row_ge HO5.out _ hgg)); clear hown6 hg6)
        go_roundw
        case rel => exact ⟨k + 1, A6, c6, by omega, by go_num, rfl, Lib.hid (by rw [take_snoc HP.out, List.map_append]; show World.ownsRow _ _ _ _ _ _ (_ ++ [strV (fieldL s (showT (strip x)))]); rw [← HNV.out]; exact HO6.out), HB6⟩
        case measure => simp [intOf]; omega
      · have e8 : (t.kind == 8) = false := beq_eq_false_iff_ne.2 h8
        have HP := Lib.hid (partV_not h8 HX.out)
        go_wp2_with (at_builtin; refine wpList_append_own _ rfl _ _ 23 rfl W.heap.size 9 iS _ 1 16 Tryd.underlying23 hiS hS0 hS1 hS2 rfl (by decide) _ _ _ rfl (HO5.out.alloc _) ⟨w5.heap.size, 0, none⟩ 1 1 [_] rfl rfl (World.news_of_block (heap_alloc_new _ _)) (by simp [Value.oneCell', strV]) (by unfold maxLen; omega) (by omega) (by have := HB5.out.size; simp; omega) ?_; intro v' w6 hown6 hg6 _; obtain ⟨A6, c6, rfl, _, _, _⟩ := own_form hown6; have HO6 := Lib.hid hown6; have HB6 := Lib.hid ((HB5.out.alloc HB5.out.size _).grown hg6 (by have := HB5.out.size; simp; omega) (fun gg hgg => row_ge HO5.out _ hgg)); clear hown6 hg6)
        go_roundw
        case rel => exact ⟨k + 1, A6, c6, by omega, by go_num, rfl, Lib.hid (by rw [take_snoc HP.out, List.map_append]; show World.ownsRow _ _ _ _ _ _ (_ ++ [strV (showT (strip x))]); rw [← HE.out]; exact HO6.out), HB6⟩
        case measure => simp [intOf]; omega
    case neg =>
      obtain rfl : k = n2 := by omega
      have hkk : ¬ (k : Int) < (k : Int) := by omega
      have HO2 := Lib.hid (show wr.ownsRow W.heap.size 9 1 (.slice A k c) k ((partV t).map strV) by have h := HO.out; rw [List.take_of_length_le (by rw [HPL.out, HN.out]; exact Nat.le_refl _)] at h; exact h)
      have KTr := KT.out.below HW.out
      have rc0 := KTr.c0
      have rc1 := KTr.c1
      have rc2 := KTr.c2
      have rl := KTr.lt
      clear KTr
      by_cases h7 : t.kind = 7
      · have e7 : (t.kind == 7) = true := beq_iff_eq.2 h7
        have e : ans = joinL [32, 124, 32] (partV t) := by rw [HA.out, HSP.out]; unfold wrapL; rw [if_pos h7]
        have HJ := Lib.hid (show Calls Tryd.prog 77 #[.slice A k c, .string ⟨#[32, 124, 32]⟩] wr (RetB (strV ans) wr) by rw [e]; exact join_row HO2.out ⟨#[32, 124, 32]⟩ (by have h := HLN.out; rw [← HA.out, e] at h; exact Nat.le_trans h (by omega)) (by omega))
        clear h7 e
        go_wp2_with fail
        with_reducible refine HJ.out.mono ?_
        rintro e w5 ⟨rfl, hb5⟩
        go_wp2
        go_ret
        exact ⟨rfl, KBr.out.trans (hb5.mono KBr.out.size)⟩
      have e7 : (t.kind == 7) = false := beq_eq_false_iff_ne.2 h7
      by_cases h8 : t.kind = 8
      · have e8 : (t.kind == 8) = true := beq_iff_eq.2 h8
        have e : ans = 123 :: (joinL [44, 32] (partV t) ++ [125]) := by rw [HA.out, HSP.out]; unfold wrapL; rw [if_neg h7, if_pos h8]
        have hjl : (joinL [44, 32] (partV t)).length ≤ 100000000 := by have h := HLN.out; rw [← HA.out, e] at h; simp at h; omega
        obtain ⟨sj, hsj⟩ : ∃ sj : ByteArray, sj = ⟨(joinL [44, 32] (partV t)).toArray⟩ := ⟨_, rfl⟩
        have HJ := Lib.hid (show Calls Tryd.prog 77 #[.slice A k c, .string ⟨#[44, 32]⟩] wr (RetB (.string sj) wr) by rw [hsj]; exact join_row HO2.out ⟨#[44, 32]⟩ (by exact Nat.le_trans hjl (by omega)) (by omega))
        have HV := Lib.hid (show Value.string (((⟨#[123]⟩ : ByteArray) ++ sj) ++ ⟨#[125]⟩) = strV ans by rw [e]; exact strV_wrap _ sj hsj)
        have hsz : sj.size ≤ 100000000 := by rw [hsj]; show (joinL [44, 32] (partV t)).toArray.size ≤ _; simp; exact hjl
        have hs1 : ¬ 9223372036854775807 < 1 + sj.size := by omega
        have hs2 : ¬ 9223372036854775807 < 1 + sj.size + 1 := by omega
        clear h7 h8 e hjl hsj hsz
        go_wp2_with fail
        with_reducible refine HJ.out.mono ?_
        rintro e w5 ⟨rfl, hb5⟩
        have HB5 := Lib.hid (KBr.out.trans (hb5.mono KBr.out.size))
        clear hb5
        go_wp2
        go_ret
        exact ⟨congrArg Ending.returned HV.out, HB5.out⟩
      have e8 : (t.kind == 8) = false := beq_eq_false_iff_ne.2 h8
      by_cases h9 : t.kind = 9
      · have e9 : (t.kind == 9) = true := beq_iff_eq.2 h9
        have hk0 : 0 < k := by
          have h3 := HCT.out.1
          rw [strip_kind, strip_len, HN.out] at h3
          unfold HeadOk at h3
          omega
        obtain ⟨m, hm⟩ : ∃ m, k = m + 1 := ⟨k - 1, by omega⟩
        have hkm : (k : Int) - 1 = (m : Int) := by omega
        have hwm : IntKind.i64.wrap ((k : Int) - 1) = (m : Int) := by rw [hkm]; exact IntWalk.i64_in _ (by omega)
        have hL : (partV t).length = m + 1 := by rw [HPL.out, HN.out, hm]
        obtain ⟨A', c', hv, hkc, hcm, h3⟩ := own_form HO2.out
        injection hv with v1 v2 v3
        subst v1 v3
        obtain ⟨rb, h4, h5, h6, _, h7'⟩ := h3 hk0
        obtain ⟨lst, hlst⟩ : ∃ lst, (partV t)[m]? = some lst := ⟨_, List.getElem?_eq_getElem (by omega)⟩
        obtain ⟨ad, had⟩ : ∃ ad : Addr, ad = ⟨rb, 0, none⟩ := ⟨_, rfl⟩
        rw [← had] at h4
        obtain ⟨sl, hsl⟩ : ∃ sl : ByteArray, sl = ⟨lst.toArray⟩ := ⟨_, rfl⟩
        obtain ⟨sj, hsj⟩ : ∃ sj : ByteArray, sj = ⟨(joinL [44, 32] (partV t).dropLast).toArray⟩ := ⟨_, rfl⟩
        have hcell : wr.cell? (ad.add m) = some (.string sl) := by
          have h := h7' m (.string sl) (by rw [List.getElem?_map, hlst, hsl]; rfl)
          rw [had]
          unfold Addr.add
          split
          · rename_i h8; subst h8; exact h
          · simpa using h
        have hblk : (ad.add m).block < wr.heap.size := by rw [block_add', had]; exact h6
        have e : ans = 40 :: (joinL [44, 32] (partV t).dropLast ++ (41 :: 32 :: 45 :: 62 :: 32 :: lst)) := by
          rw [HA.out, HSP.out]
          unfold wrapL
          rw [if_neg h7, if_neg h8, if_pos h9, List.getLast?_eq_getElem?, hL, show m + 1 - 1 = m from rfl, hlst]
          rfl
        have hlen : (joinL [44, 32] (partV t).dropLast).length + lst.length ≤ 100000000 := by have h := HLN.out; rw [← HA.out, e] at h; simp at h; omega
        have hsz1 : sj.size ≤ 100000000 := by rw [hsj]; show (joinL [44, 32] (partV t).dropLast).toArray.size ≤ _; simp; omega
        have hsz2 : sl.size ≤ 100000000 := by rw [hsl]; show lst.toArray.size ≤ _; simp; omega
        have HV := Lib.hid (show Value.string ((((⟨#[40]⟩ : ByteArray) ++ sj) ++ ⟨#[41, 32, 45, 62, 32]⟩) ++ sl) = strV ans by
          rw [e, hsj, hsl]
          unfold strV
          exact congrArg Value.string (ByteArray.ext (by simp [ByteArray.data_append])))
        have HJ := Lib.hid (show ∀ w', Below wr.heap.size wr w' → Calls Tryd.prog 77 #[.slice A m c, .string ⟨#[44, 32]⟩] w' (RetB (.string sj) w') from fun w' hb => by
          have h := own_pop (own_same HO2.out (fun b _ hlt => hb.block b hlt)) (n' := m) (by omega)
          rw [Nat.mul_one, ← List.map_take, show (partV t).take m = (partV t).dropLast by rw [List.dropLast_eq_take, hL]; rfl] at h
          rw [hsj]
          exact join_row h ⟨#[44, 32]⟩ (by exact Nat.le_trans (Nat.le_trans (Nat.le_add_right _ _) hlen) (by omega)) (by omega))
        subst h4
        have HCE := Lib.hid (show wr.cell? (ad.add m) = some (.string sl) ∧ (ad.add m).block < wr.heap.size from ⟨hcell, hblk⟩)
        have hs1 : ¬ 9223372036854775807 < 1 + sj.size := by omega
        have hs2 : ¬ 9223372036854775807 < 1 + sj.size + 5 := by omega
        have hs3 : ¬ 9223372036854775807 < 1 + sj.size + 5 + sl.size := by omega
        have hmk : (m : Int) < (k : Int) := by omega
        have hmc : (m : Int) ≤ (c : Int) := by omega
        have hm0 : (0 : Int) ≤ m := by omega
        clear h7 h8 h9 hlt hkk hm h3 h7' had hsl hsj hlst hcell hblk e hlen h5 h6
        go_wp2_with fail
        refine wp_region_held_drew (S := fun w' => w'.cell? (ad.add m) = some (.string sl)) (by kernel_rfl) (HCE.out.1) (fun hHeld => ?_)
        refine wpAnyH_take (i := 0) (oi := _) (v := .slice (some ad) k c) rfl (by kernel_rfl) (by kernel_rfl) (by kernel_rfl) (fun _ _ _ h => h) (Or.inl ⟨by rfl, fun w' hS => (by go_simp)⟩) hHeld ?_
        change wpAnyH _ _ _ _ _ _ _ (Act.put _ (some 51) _) _
        try simp only [Act.put, List.setIfInBounds_toArray, List.set_cons_zero, List.set_cons_succ]
        refine wpAnyH_take (i := 1) (oi := _) (v := .int .i64 (m : Int)) rfl (by kernel_rfl) (by kernel_rfl) (by kernel_rfl) (fun _ _ _ h => h) (Or.inl ⟨by rfl, fun w' hS => (by go_simp)⟩) hHeld ?_
        change wpAnyH _ _ _ _ _ _ _ (Act.put _ (some 52) _) _
        try simp only [Act.put, List.setIfInBounds_toArray, List.set_cons_zero, List.set_cons_succ]
        refine wpAnyH_take (i := 2) (oi := _) (v := .slice (some ad) m c) rfl (by kernel_rfl) (by kernel_rfl) (by kernel_rfl) (fun _ _ _ h => h) (Or.inl ⟨by rfl, fun w' hS => (by go_simp)⟩) hHeld ?_
        change wpAnyH _ _ _ _ _ _ _ (Act.put _ (some 53) _) _
        try simp only [Act.put, List.setIfInBounds_toArray, List.set_cons_zero, List.set_cons_succ]
        refine wpAnyH_take (i := 6) (oi := _) (v := .slice (some ad) k c) rfl (by kernel_rfl) (by kernel_rfl) (by kernel_rfl) (fun _ _ _ h => h) (Or.inl ⟨by rfl, fun w' hS => (by go_simp)⟩) hHeld ?_
        change wpAnyH _ _ _ _ _ _ _ (Act.put _ (some 57) _) _
        try simp only [Act.put, List.setIfInBounds_toArray, List.set_cons_zero, List.set_cons_succ]
        refine wpAnyH_take (i := 7) (oi := _) (v := .int .i64 (m : Int)) rfl (by kernel_rfl) (by kernel_rfl) (by kernel_rfl) (fun _ _ _ h => h) (Or.inl ⟨by rfl, fun w' hS => (by go_simp)⟩) hHeld ?_
        change wpAnyH _ _ _ _ _ _ _ (Act.put _ (some 58) _) _
        try simp only [Act.put, List.setIfInBounds_toArray, List.set_cons_zero, List.set_cons_succ]
        refine wpAnyH_take (i := 8) (oi := _) (v := .pointer (some (ad.add m))) rfl (by kernel_rfl) (by kernel_rfl) (by kernel_rfl) (fun _ _ _ h => h) (Or.inl ⟨by rfl, fun w' hS => (by go_simp)⟩) hHeld ?_
        change wpAnyH _ _ _ _ _ _ _ (Act.put _ (some 59) _) _
        try simp only [Act.put, List.setIfInBounds_toArray, List.set_cons_zero, List.set_cons_succ]
        refine wpAnyH_take (i := 9) (oi := _) (v := .string sl) rfl (by kernel_rfl) (by kernel_rfl) (by kernel_rfl) (fun _ _ _ h => h) (Or.inl ⟨by rfl, fun w' hS => (by go_simp)⟩) hHeld ?_
        change wpAnyH _ _ _ _ _ _ _ (Act.put _ (some 60) _) _
        try simp only [Act.put, List.setIfInBounds_toArray, List.set_cons_zero, List.set_cons_succ]
        refine wpAnyH_ready (rs := [3]) (by kernel_rfl) (by simp) ?_
        refine AllReadyH.cons (o := _) rfl (fun K hK => ?_) AllReadyH.nil
        go_simp
        with_reducible refine (HJ.out _ (Below.refl _ _).drew).mono ?_
        rintro e w5 ⟨rfl, hb5⟩
        have HB5 := Lib.hid (show Below wr.heap.size wr w5 from (Below.refl _ _).drew.trans hb5)
        clear hb5
        refine hK.out _ _ ((HB5.out.cell HCE.out.2).trans HCE.out.1) (fun hHeld => ?_)
        clear hK K
        try simp only [Act.put, List.setIfInBounds_toArray, List.set_cons_zero, List.set_cons_succ]
        refine wpAnyH_take (i := 4) (oi := _) (v := .string (⟨#[40]⟩ ++ sj)) rfl (by kernel_rfl) (by kernel_rfl) (by kernel_rfl) (fun _ _ _ h => h) (Or.inl ⟨by rfl, fun w' hS => (by go_simp)⟩) hHeld ?_
        change wpAnyH _ _ _ _ _ _ _ (Act.put _ (some 55) _) _
        try simp only [Act.put, List.setIfInBounds_toArray, List.set_cons_zero, List.set_cons_succ]
        refine wpAnyH_take (i := 5) (oi := _) (v := .string ((⟨#[40]⟩ ++ sj) ++ ⟨#[41, 32, 45, 62, 32]⟩)) rfl (by kernel_rfl) (by kernel_rfl) (by kernel_rfl) (fun _ _ _ h => h) (Or.inl ⟨by rfl, fun w' hS => (by go_simp)⟩) hHeld ?_
        change wpAnyH _ _ _ _ _ _ _ (Act.put _ (some 56) _) _
        try simp only [Act.put, List.setIfInBounds_toArray, List.set_cons_zero, List.set_cons_succ]
        refine wpAnyH_take (i := 10) (oi := _) (v := .string (((⟨#[40]⟩ ++ sj) ++ ⟨#[41, 32, 45, 62, 32]⟩) ++ sl)) rfl (by kernel_rfl) (by kernel_rfl) (by kernel_rfl) (fun _ _ _ h => h) (Or.inl ⟨by rfl, fun w' hS => (by go_simp)⟩) hHeld ?_
        change wpAnyH _ _ _ _ _ _ _ (Act.put _ (some 61) _) _
        try simp only [Act.put, List.setIfInBounds_toArray, List.set_cons_zero, List.set_cons_succ]
        refine wpAnyH_take (i := 11) (oi := _) (v := .string (((⟨#[40]⟩ ++ sj) ++ ⟨#[41, 32, 45, 62, 32]⟩) ++ sl)) rfl (by kernel_rfl) (by kernel_rfl) (by kernel_rfl) (fun _ _ _ h => h) (Or.inl ⟨by rfl, fun w' hS => (by go_simp)⟩) hHeld ?_
        change wpAnyH _ _ _ _ _ _ _ (Act.put _ (some 2) _) _
        try simp only [Act.put, List.setIfInBounds_toArray, List.set_cons_zero, List.set_cons_succ]
        refine wpAnyH_done (by kernel_rfl) ?_ _
        go_wp2
        go_ret
        exact ⟨congrArg Ending.returned HV.out, KBr.out.trans (HB5.out.mono KBr.out.size)⟩
      have e9 : (t.kind == 9) = false := beq_eq_false_iff_ne.2 h9
      have h06 : 0 ≤ t.kind ∧ t.kind ≤ 6 := by
        have h3 := HCT.out.1
        rw [strip_kind] at h3
        unfold HeadOk at h3
        omega
      have HAN := Lib.hid (show ans = nameL t.kind by rw [HA.out, HSP.out]; unfold wrapL; rw [if_neg h7, if_neg h8, if_neg h9])
      have HIX := fun w => idx_names h06.1 h06.2 w
      have KTW := Lib.hid (KT.out.below HW.out)
      clear h7 h8 h9 h06
      go_wp2_with fail
      refine wp_region_held_drew (S := fun w' => TBox w' g t) (by kernel_rfl) (KTW.out) (fun hHeld => ?_)
      refine wpAnyH_take (i := 1) (oi := _) (v := .pointer (some ⟨g, 0, none⟩)) rfl (by kernel_rfl) (by kernel_rfl) (by kernel_rfl) (fun _ _ _ h => h) (Or.inl ⟨by rfl, fun w' hS => (by go_simp)⟩) hHeld ?_
      change wpAnyH _ _ _ _ _ _ _ (Act.put _ (some 63) _) _
      try simp only [Act.put, List.setIfInBounds_toArray, List.set_cons_zero, List.set_cons_succ]
      refine wpAnyH_take (i := 2) (oi := _) (v := .int .i64 t.kind) rfl (by kernel_rfl) (by kernel_rfl) (by kernel_rfl) (fun _ _ _ h => h) (Or.inl ⟨by rfl, fun w' hS => (by have q := TBox.c0 hS; go_simp)⟩) hHeld ?_
      change wpAnyH _ _ _ _ _ _ _ (Act.put _ (some 64) _) _
      try simp only [Act.put, List.setIfInBounds_toArray, List.set_cons_zero, List.set_cons_succ]
      refine wpAnyH_ready (rs := [0]) (by kernel_rfl) (by simp) ?_
      refine AllReadyH.cons (o := _) rfl (fun K hK => ?_) AllReadyH.nil
      go_simp
      with_reducible refine (tnames_any _).mono ?_
      rintro e w5 ⟨rfl, hb5⟩
      have HB5 := Lib.hid (show Below wr.heap.size wr w5 from (Below.refl _ _).drew.trans hb5)
      clear hb5
      refine hK.out _ _ (KTW.out.below HB5.out) (fun hHeld => ?_)
      clear hK K
      try simp only [Act.put, List.setIfInBounds_toArray, List.set_cons_zero, List.set_cons_succ]
      refine wpAnyH_take (i := 3) (oi := _) (v := strV (nameL t.kind)) rfl (by kernel_rfl) (by kernel_rfl) (by kernel_rfl) (fun _ _ _ h => h) (Or.inl ⟨by rfl, fun w' hS => (by have q := HIX w'; go_simp)⟩) hHeld ?_
      change wpAnyH _ _ _ _ _ _ _ (Act.put _ (some 65) _) _
      try simp only [Act.put, List.setIfInBounds_toArray, List.set_cons_zero, List.set_cons_succ]
      refine wpAnyH_take (i := 4) (oi := _) (v := strV (nameL t.kind)) rfl (by kernel_rfl) (by kernel_rfl) (by kernel_rfl) (fun _ _ _ h => h) (Or.inl ⟨by rfl, fun w' hS => (by go_simp)⟩) hHeld ?_
      change wpAnyH _ _ _ _ _ _ _ (Act.put _ (some 2) _) _
      try simp only [Act.put, List.setIfInBounds_toArray, List.set_cons_zero, List.set_cons_succ]
      refine wpAnyH_done (by kernel_rfl) ?_ _
      go_wp2
      go_ret
      exact ⟨congrArg (fun b => Ending.returned (strV b)) HAN.out.symm, KBr.out.trans (HB5.out.mono KBr.out.size)⟩
theorem tshow_all : ∀ n, ShowAll 57 n
  | 0 => fun _ _ _ h _ => h.elim
  | n + 1 => tshow_succ n (tshow_all n)
end Go.Proofs.YtllpicibncdppaaDoor
