/-
  Whether types are alike: the reference's.
-/
import Derived.Test.YtllpicibncdppaaDoorTyLike
import Derived.Deep.Cut
import Derived.Deep.CutBlock
set_option linter.unusedVariables false
set_option linter.unusedSimpArgs false
namespace Go.Proofs.YtllpicibncdppaaDoor
open Go.ChangeShapes Go.WideShapes Go.ChangeAt Go.RowKit

set_option maxRecDepth 100000 in
set_option maxHeartbeats 8000000 in
theorem rlike_any (t : LTy) : LikeAll 47 t := by
  induction t using lty_ind with
  | h t ih =>
  intro u w ht hu
  have hb0 : Below w.heap.size w ((w.alloc (.cells #[.int .i64 t.kind, .slice t.A t.ns.length t.c, .slice t.A2 t.xs.length t.c2] 26)).alloc (.cells #[.int .i64 u.kind, .slice u.A u.ns.length u.c, .slice u.A2 u.xs.length u.c2] 26)) := ((Below.refl _ _).alloc (Nat.le_refl _) _).alloc (by simp) _
  have hbt : ((w.alloc (.cells #[.int .i64 t.kind, .slice t.A t.ns.length t.c, .slice t.A2 t.xs.length t.c2] 26)).alloc (.cells #[.int .i64 u.kind, .slice u.A u.ns.length u.c, .slice u.A2 u.xs.length u.c2] 26)).heap[w.heap.size]? = some (.cells #[.int .i64 t.kind, .slice t.A t.ns.length t.c, .slice t.A2 t.xs.length t.c2] 26 (0, 0)) := blk_alloc (heap_new_at _ _ _ rfl) _
  have hbu : ((w.alloc (.cells #[.int .i64 t.kind, .slice t.A t.ns.length t.c, .slice t.A2 t.xs.length t.c2] 26)).alloc (.cells #[.int .i64 u.kind, .slice u.A u.ns.length u.c, .slice u.A2 u.xs.length u.c2] 26)).heap[w.heap.size + 1]? = some (.cells #[.int .i64 u.kind, .slice u.A u.ns.length u.c, .slice u.A2 u.xs.length u.c2] 26 (0, 0)) := heap_new_at _ _ _ (by simp)
  obtain ⟨ans, hans⟩ : ∃ ans, ans = tb (strip t = strip u) := ⟨_, rfl⟩
  rw [← hans]
  have HA := Lib.hid hans
  have HB := Lib.hid hb0
  have HBT := Lib.hid hbt
  have HBU := Lib.hid hbu
  have HT := Lib.hid ht
  have HU := Lib.hid hu
  have HI := Lib.hid ih
  have hl1 := ht.n1.2
  have hl2 := ht.n2.2
  have hl3 := hu.n1.2
  have hl4 := hu.n2.2
  clear hb0 hbt hbu ht hu ih hans
  unfold LTy.val
  by_cases h1 : t.kind = u.kind
  case neg =>
    have e : ans = false := by rw [HA.out]; exact tb_false (fun e => h1 ((strip_eq t u).1 e).1)
    subst e
    have hb : (t.kind == u.kind) = false := beq_eq_false_iff_ne.2 h1
    have hb' : (t.kind != u.kind) = true := by rw [bne, hb]; rfl
    clear h1 HA
    go_enter Tryd.func47, Tryd.ntmps47
    go_wp2
    go_ret
    exact ⟨rfl, HB.out⟩
  have hb : (t.kind == u.kind) = true := beq_iff_eq.2 h1
  have hb' : (t.kind != u.kind) = false := by rw [bne, hb]; rfl
  have HK := Lib.hid h1
  clear h1 hb
  by_cases h2 : t.ns.length = u.ns.length
  case neg =>
    have e : ans = false := by rw [HA.out]; exact tb_false (fun e => h2 (by rw [((strip_eq t u).1 e).2.1]))
    subst e
    have hb : ((t.ns.length : Int) == (u.ns.length : Int)) = false := beq_eq_false_iff_ne.2 (by omega)
    have hb2 : ((t.ns.length : Int) != (u.ns.length : Int)) = true := by rw [bne, hb]; rfl
    clear h2 HA
    go_enter Tryd.func47, Tryd.ntmps47
    go_wp2
    go_ret
    exact ⟨rfl, HB.out⟩
  have hb2 : ((t.ns.length : Int) != (u.ns.length : Int)) = false := by rw [h2]; simp
  by_cases h3 : t.xs.length = u.xs.length
  case neg =>
    have e : ans = false := by rw [HA.out]; exact tb_false (fun e => h3 (by have := congrArg List.length ((strip_eq t u).1 e).2.2; simpa using this))
    subst e
    have hb : ((t.xs.length : Int) == (u.xs.length : Int)) = false := beq_eq_false_iff_ne.2 (by omega)
    have hb3 : ((t.xs.length : Int) != (u.xs.length : Int)) = true := by rw [bne, hb]; rfl
    clear h2 h3 HA
    go_enter Tryd.func47, Tryd.ntmps47
    go_wp2
    go_ret
    exact ⟨rfl, HB.out⟩
  have hb3 : ((t.xs.length : Int) != (u.xs.length : Int)) = false := by rw [h3]; simp
  have H2 := Lib.hid h2
  have H3 := Lib.hid h3
  clear h2 h3
  obtain ⟨g, hg⟩ : ∃ g, g = w.heap.size := ⟨_, rfl⟩
  go_enter Tryd.func47, Tryd.ntmps47
  go_upto_region 3 with fail
  refine gen_wpT fun W hW => ?_
  rw [← hg]
  have KT := Lib.hid (show W.heap[g]? = some (.cells #[.int .i64 t.kind, .slice t.A t.ns.length t.c, .slice t.A2 t.xs.length t.c2] 26 (0, 0)) by rw [← hW, hg]; first | exact HBT.out | exact blk_drew HBT.out)
  have KU := Lib.hid (show W.heap[g + 1]? = some (.cells #[.int .i64 u.kind, .slice u.A u.ns.length u.c, .slice u.A2 u.xs.length u.c2] 26 (0, 0)) by rw [← hW, hg]; first | exact HBU.out | exact blk_drew HBU.out)
  have KB := Lib.hid (show Below w.heap.size w W by rw [← hW]; first | exact HB.out | exact HB.out.drew)
  clear hW HB HBT HBU
  have HG := Lib.hid hg
  clear hg hb' hb2 hb3
  obtain ⟨n1, hn1⟩ : ∃ n, n = t.ns.length := ⟨_, rfl⟩
  obtain ⟨n2, hn2⟩ : ∃ n, n = t.xs.length := ⟨_, rfl⟩
  have HN := Lib.hid (show t.xs.length = n2 ∧ u.xs.length = n2 ∧ t.ns.length = n1 ∧ u.ns.length = n1 from ⟨hn2.symm, by rw [hn2]; exact H3.out.symm, hn1.symm, by rw [hn1]; exact H2.out.symm⟩)
  have hl1' : n1 ≤ 8796093022208 := by omega
  have hl2' : n2 ≤ 8796093022208 := by omega
  have t1 := cell_of_blk (i := 1) KT.out rfl
  have lt1 := blk_lt KT.out
  have lu1 := blk_lt KU.out
  rw [HN.out.2.2.1] at t1
  clear hn1 hn2 hl1 hl2 hl3 hl4
  go_wp2_with fail
  clear t1
  go_loopw [33] (fun i wr => ∃ k q : Nat, k ≤ n1 ∧ i = .int .i64 k ∧ Hid (∀ j, j < k → t.ns[j]? = u.ns[j]?) ∧ wr = W.drewN q) (fun i _ => n1 - (intOf i).toNat)
  case atStart => exact ⟨0, 0, by omega, rfl, Lib.hid (fun j hj => by omega), rfl⟩
  case round =>
    obtain ⟨k, q, hk, rfl, HJ, rfl⟩ := hrel
    by_cases hlt : k < n1
    · obtain ⟨x, hx⟩ : ∃ x, t.ns[k]? = some x := ⟨_, List.getElem?_eq_getElem (by rw [HN.out.2.2.1]; exact hlt)⟩
      obtain ⟨y, hy⟩ : ∃ y, u.ns[k]? = some y := ⟨_, List.getElem?_eq_getElem (by rw [HN.out.2.2.2]; exact hlt)⟩
      obtain ⟨a1, hA1, _, x0⟩ := (HT.out.on KB.out).name hx
      obtain ⟨a2, hA2, _, y0⟩ := (HU.out.on KB.out).name hy
      have t1 : ∀ m, (W.drewN m).cell? ⟨g, 1, none⟩ = some (.slice (some a1) n1 t.c) := fun m => by have := cell_of_blk (i := 1) KT.out rfl; rw [HN.out.2.2.1, hA1] at this; exact this
      have u1 : ∀ m, (W.drewN m).cell? ⟨g + 1, 1, none⟩ = some (.slice (some a2) n1 u.c) := fun m => by have := cell_of_blk (i := 1) KU.out rfl; rw [HN.out.2.2.2, hA2] at this; exact this
      have x0' : ∀ m, (W.drewN m).cell? (a1.add k) = some (.string x) := fun m => x0
      have y0' : ∀ m, (W.drewN m).cell? (a2.add k) = some (.string y) := fun m => y0
      have hk' : (k : Int) < (n1 : Int) := by omega
      have hk0 : (0 : Int) ≤ k := by omega
      have hwk : IntKind.i64.wrap (k : Int) = (k : Int) := IntWalk.i64_in _ (by omega)
      clear hA1 hA2
      by_cases hxy : x = y
      · have hb := str_beq hxy
        have hb' : (x.toList != y.toList) = false := by rw [bne, hb]; rfl
        have HJ2 := Lib.hid (show ∀ j, j < k + 1 → t.ns[j]? = u.ns[j]? from fun j hj => by
          rcases Nat.lt_or_ge j k with h1 | h1
          · exact HJ.out j h1
          · obtain rfl : j = k := by omega
            rw [hx, hy, hxy])
        clear hx hy hxy
        go_wp2_with fail
        go_quiet (fail)
        go_wp2_with fail
        go_roundw
        case rel => exact ⟨k + 1, q + nq, by omega, by go_num, HJ2, by first | rfl | exact drew_add W q nq⟩
        case measure => simp [intOf]; omega
      · have hb := str_bne hxy
        have hb' : (x.toList != y.toList) = true := by rw [bne, hb]; rfl
        have e : ans = false := by rw [HA.out]; exact tb_false (fun e => list_ne_at hx hy hxy ((strip_eq t u).1 e).2.1)
        subst e
        clear hx hy hxy HA
        go_wp2_with fail
        go_quiet (fail)
        go_wp2
        go_ret
        exact ⟨rfl, below_drewT (below_drewT KB.out q) nq⟩
    have hns := Lib.hid (show t.ns = u.ns from list_eq_at (HN.out.2.2.1.trans HN.out.2.2.2.symm) (fun j hj => HJ.out j (by rw [HN.out.2.2.1] at hj; omega)))
    have t2 : (W.drewN q).cell? ⟨g, 2, none⟩ = some (.slice t.A2 n2 t.c2) := by have := cell_of_blk (i := 2) KT.out rfl; rw [HN.out.1] at this; exact this
    have hkk : (n1 : Int) ≤ k := by omega
    go_wp2_with fail
    clear t2
    go_loopw [51] (fun i wr => ∃ k : Nat, k ≤ n2 ∧ i = .int .i64 k ∧ Hid (∀ j, j < k → (t.xs.map strip)[j]? = (u.xs.map strip)[j]?) ∧ Hid (Below W.heap.size W wr)) (fun i _ => n2 - (intOf i).toNat)
    case atStart => exact ⟨0, by omega, rfl, Lib.hid (fun j hj => by omega), Lib.hid (below_drewT (Below.refl _ _) q)⟩
    case round =>
      clear hlt hkk hk HJ
      obtain ⟨k, hk, rfl, HJ, HW⟩ := hrel
      have KBr := Lib.hid (KB.out.trans (HW.out.mono KB.out.size))
      by_cases hlt : k < n2
      case neg =>
        obtain rfl : k = n2 := by omega
        have e : ans = true := by
          rw [HA.out]
          refine tb_true ((strip_eq t u).2 ⟨HK.out, hns.out, list_eq_at (by rw [List.length_map, List.length_map, HN.out.1, HN.out.2.1]) (fun j hj => HJ.out j (by rw [List.length_map, HN.out.1] at hj; exact hj))⟩)
        subst e
        go_wp2
        go_ret
        exact ⟨rfl, KBr.out⟩
      obtain ⟨x, hx⟩ : ∃ x, t.xs[k]? = some x := ⟨_, List.getElem?_eq_getElem (by rw [HN.out.1]; exact hlt)⟩
      obtain ⟨y, hy⟩ : ∃ y, u.xs[k]? = some y := ⟨_, List.getElem?_eq_getElem (by rw [HN.out.2.1]; exact hlt)⟩
      have htr := HT.out.on KBr.out
      have hur := HU.out.on KBr.out
      obtain ⟨a1, hA1, l1, x0, x1, x2⟩ := htr.cells hx
      obtain ⟨a2, hA2, l2, y0, y1, y2⟩ := hur.cells hy
      have m1 : (a1.add (k * 3)).block < wr.heap.size := by rw [block_add']; exact l1
      have m2 : (a2.add (k * 3)).block < wr.heap.size := by rw [block_add']; exact l2
      have BT := Lib.hid (below_blk HW.out KT.out)
      have BU := Lib.hid (below_blk HW.out KU.out)
      have HA1 := Lib.hid hA1
      have HA2 := Lib.hid hA2
      have hk' : (k : Int) < (n2 : Int) := by omega
      have hk0 : (0 : Int) ≤ k := by omega
      have hwk : IntKind.i64.wrap (k : Int) = (k : Int) := IntWalk.i64_in _ (by omega)
      have hd : Below wr.heap.size wr wr.drew := (Below.refl _ _).drew
      have hcall := HI.out x (List.mem_of_getElem? hx) y wr.drew ((htr.part hx).on hd) ((hur.part hy).on hd)
      unfold LTy.val at hcall
      have HC := Lib.hid hcall
      have HX := Lib.hid (show (t.xs.map strip)[k]? = some (strip x) ∧ (u.xs.map strip)[k]? = some (strip y) by rw [List.getElem?_map, List.getElem?_map, hx, hy]; exact ⟨rfl, rfl⟩)
      have lg1 := blk_lt BT.out
      have lg2 := blk_lt BU.out
      clear hcall htr hur hx hy l1 l2 hA1 hA2 hd
      by_cases hxy : strip x = strip y
      · rw [tb_true hxy] at HC
        have HJ2 := Lib.hid (show ∀ j, j < k + 1 → (t.xs.map strip)[j]? = (u.xs.map strip)[j]? from fun j hj => by
          rcases Nat.lt_or_ge j k with h1 | h1
          · exact HJ.out j h1
          · obtain rfl : j = k := by omega
            rw [HX.out.1, HX.out.2, hxy])
        clear hxy
        go_wp2_with fail
        refine wp_region_held_drew (S := fun w' => w'.heap[g]? = some (.cells #[.int .i64 t.kind, .slice t.A t.ns.length t.c, .slice t.A2 t.xs.length t.c2] 26 (0, 0)) ∧ w'.heap[g + 1]? = some (.cells #[.int .i64 u.kind, .slice u.A u.ns.length u.c, .slice u.A2 u.xs.length u.c2] 26 (0, 0)) ∧ (w'.cell? (a1.add (k * 3)) = some (.int .i64 x.kind) ∧ w'.cell? ⟨(a1.add (k * 3)).block, (a1.add (k * 3)).off + 1, none⟩ = some (.slice x.A x.ns.length x.c) ∧ w'.cell? ⟨(a1.add (k * 3)).block, (a1.add (k * 3)).off + 2, none⟩ = some (.slice x.A2 x.xs.length x.c2)) ∧ (w'.cell? (a2.add (k * 3)) = some (.int .i64 y.kind) ∧ w'.cell? ⟨(a2.add (k * 3)).block, (a2.add (k * 3)).off + 1, none⟩ = some (.slice y.A y.ns.length y.c) ∧ w'.cell? ⟨(a2.add (k * 3)).block, (a2.add (k * 3)).off + 2, none⟩ = some (.slice y.A2 y.xs.length y.c2))) (by kernel_rfl) (⟨BT.out, BU.out, ⟨x0, x1, x2⟩, ⟨y0, y1, y2⟩⟩) (fun hHeld => ?_)
        refine wpAnyH_take (i := 0) (oi := _) (v := .pointer (some ⟨g, 2, none⟩)) rfl (by kernel_rfl) (by kernel_rfl) (by kernel_rfl) (fun _ _ _ h => h) (Or.inl ⟨by rfl, fun w' hS => (by go_simp)⟩) hHeld ?_
        change wpAnyH _ _ _ _ _ _ _ (Act.put _ (some 54) _) _
        try simp only [Act.put, List.setIfInBounds_toArray, List.set_cons_zero, List.set_cons_succ]
        refine wpAnyH_take (i := 1) (oi := _) (v := .slice (some a1) n2 t.c2) rfl (by kernel_rfl) (by kernel_rfl) (by kernel_rfl) (fun _ _ _ h => h) (Or.inl ⟨by rfl, fun w' hS => (by have q := cell_of_blk (i := 2) hS.1 rfl; rw [HN.out.1, HA1.out] at q; go_simp)⟩) hHeld ?_
        change wpAnyH _ _ _ _ _ _ _ (Act.put _ (some 55) _) _
        try simp only [Act.put, List.setIfInBounds_toArray, List.set_cons_zero, List.set_cons_succ]
        refine wpAnyH_take (i := 2) (oi := _) (v := .int .i64 (k : Int)) rfl (by kernel_rfl) (by kernel_rfl) (by kernel_rfl) (fun _ _ _ h => h) (Or.inl ⟨by rfl, fun w' hS => (by go_simp)⟩) hHeld ?_
        change wpAnyH _ _ _ _ _ _ _ (Act.put _ (some 56) _) _
        try simp only [Act.put, List.setIfInBounds_toArray, List.set_cons_zero, List.set_cons_succ]
        refine wpAnyH_take (i := 3) (oi := _) (v := .pointer (some (a1.add (k * 3)))) rfl (by kernel_rfl) (by kernel_rfl) (by kernel_rfl) (fun _ _ _ h => h) (Or.inl ⟨by rfl, fun w' hS => (by go_simp)⟩) hHeld ?_
        change wpAnyH _ _ _ _ _ _ _ (Act.put _ (some 57) _) _
        try simp only [Act.put, List.setIfInBounds_toArray, List.set_cons_zero, List.set_cons_succ]
        refine wpAnyH_take (i := 4) (oi := _) (v := .agg #[.int .i64 x.kind, .slice x.A x.ns.length x.c, .slice x.A2 x.xs.length x.c2]) rfl (by kernel_rfl) (by kernel_rfl) (by kernel_rfl) (fun _ _ _ h => h) (Or.inl ⟨by rfl, fun w' hS => (by obtain ⟨q0, q1, q2⟩ := hS.2.2.1; go_simp)⟩) hHeld ?_
        change wpAnyH _ _ _ _ _ _ _ (Act.put _ (some 58) _) _
        try simp only [Act.put, List.setIfInBounds_toArray, List.set_cons_zero, List.set_cons_succ]
        refine wpAnyH_take (i := 5) (oi := _) (v := .pointer (some ⟨g + 1, 2, none⟩)) rfl (by kernel_rfl) (by kernel_rfl) (by kernel_rfl) (fun _ _ _ h => h) (Or.inl ⟨by rfl, fun w' hS => (by go_simp)⟩) hHeld ?_
        change wpAnyH _ _ _ _ _ _ _ (Act.put _ (some 59) _) _
        try simp only [Act.put, List.setIfInBounds_toArray, List.set_cons_zero, List.set_cons_succ]
        refine wpAnyH_take (i := 6) (oi := _) (v := .slice (some a2) n2 u.c2) rfl (by kernel_rfl) (by kernel_rfl) (by kernel_rfl) (fun _ _ _ h => h) (Or.inl ⟨by rfl, fun w' hS => (by have q := cell_of_blk (i := 2) hS.2.1 rfl; rw [HN.out.2.1, HA2.out] at q; go_simp)⟩) hHeld ?_
        change wpAnyH _ _ _ _ _ _ _ (Act.put _ (some 60) _) _
        try simp only [Act.put, List.setIfInBounds_toArray, List.set_cons_zero, List.set_cons_succ]
        refine wpAnyH_take (i := 7) (oi := _) (v := .int .i64 (k : Int)) rfl (by kernel_rfl) (by kernel_rfl) (by kernel_rfl) (fun _ _ _ h => h) (Or.inl ⟨by rfl, fun w' hS => (by go_simp)⟩) hHeld ?_
        change wpAnyH _ _ _ _ _ _ _ (Act.put _ (some 61) _) _
        try simp only [Act.put, List.setIfInBounds_toArray, List.set_cons_zero, List.set_cons_succ]
        refine wpAnyH_take (i := 8) (oi := _) (v := .pointer (some (a2.add (k * 3)))) rfl (by kernel_rfl) (by kernel_rfl) (by kernel_rfl) (fun _ _ _ h => h) (Or.inl ⟨by rfl, fun w' hS => (by go_simp)⟩) hHeld ?_
        change wpAnyH _ _ _ _ _ _ _ (Act.put _ (some 62) _) _
        try simp only [Act.put, List.setIfInBounds_toArray, List.set_cons_zero, List.set_cons_succ]
        refine wpAnyH_take (i := 9) (oi := _) (v := .agg #[.int .i64 y.kind, .slice y.A y.ns.length y.c, .slice y.A2 y.xs.length y.c2]) rfl (by kernel_rfl) (by kernel_rfl) (by kernel_rfl) (fun _ _ _ h => h) (Or.inl ⟨by rfl, fun w' hS => (by obtain ⟨q0, q1, q2⟩ := hS.2.2.2; go_simp)⟩) hHeld ?_
        change wpAnyH _ _ _ _ _ _ _ (Act.put _ (some 63) _) _
        try simp only [Act.put, List.setIfInBounds_toArray, List.set_cons_zero, List.set_cons_succ]
        refine wpAnyH_ready (rs := [10]) (by kernel_rfl) (by simp) ?_
        refine AllReadyH.cons (o := _) rfl (fun K hK => ?_) AllReadyH.nil
        go_simp
        with_reducible refine HC.out.mono ?_
        rintro e w5 ⟨rfl, hb5⟩
        have HB5 := Lib.hid (show Below wr.heap.size wr w5 from (Below.refl wr.heap.size wr).drew.trans hb5)
        clear hb5
        refine hK.out _ _ ⟨below_blk HB5.out BT.out, below_blk HB5.out BU.out, ⟨(HB5.out.cell m1).trans x0, (HB5.out.cell (p := ⟨(a1.add (k * 3)).block, (a1.add (k * 3)).off + 1, none⟩) m1).trans x1, (HB5.out.cell (p := ⟨(a1.add (k * 3)).block, (a1.add (k * 3)).off + 2, none⟩) m1).trans x2⟩, ⟨(HB5.out.cell m2).trans y0, (HB5.out.cell (p := ⟨(a2.add (k * 3)).block, (a2.add (k * 3)).off + 1, none⟩) m2).trans y1, (HB5.out.cell (p := ⟨(a2.add (k * 3)).block, (a2.add (k * 3)).off + 2, none⟩) m2).trans y2⟩⟩ (fun hHeld => ?_)
        clear hK K
        try simp only [Act.put, List.setIfInBounds_toArray, List.set_cons_zero, List.set_cons_succ]
        refine wpAnyH_take (i := 11) (oi := _) (v := .bool false) rfl (by kernel_rfl) (by kernel_rfl) (by kernel_rfl) (fun _ _ _ h => h) (Or.inl ⟨by rfl, fun w' hS => (by go_simp)⟩) hHeld ?_
        change wpAnyH _ _ _ _ _ _ _ (Act.put _ (some 65) _) _
        try simp only [Act.put, List.setIfInBounds_toArray, List.set_cons_zero, List.set_cons_succ]
        refine wpAnyH_done (by kernel_rfl) ?_ _
        go_wp2_with fail
        go_roundw
        case rel => exact ⟨k + 1, by omega, by go_num, HJ2, Lib.hid (HW.out.trans (HB5.out.mono HW.out.size))⟩
        case measure => simp [intOf]; omega
      · rw [tb_false hxy] at HC
        have e : ans = false := by rw [HA.out]; exact tb_false (fun e => list_ne_at HX.out.1 HX.out.2 hxy ((strip_eq t u).1 e).2.2)
        subst e
        clear hxy HA
        go_wp2_with fail
        refine wp_region_held_drew (S := fun w' => w'.heap[g]? = some (.cells #[.int .i64 t.kind, .slice t.A t.ns.length t.c, .slice t.A2 t.xs.length t.c2] 26 (0, 0)) ∧ w'.heap[g + 1]? = some (.cells #[.int .i64 u.kind, .slice u.A u.ns.length u.c, .slice u.A2 u.xs.length u.c2] 26 (0, 0)) ∧ (w'.cell? (a1.add (k * 3)) = some (.int .i64 x.kind) ∧ w'.cell? ⟨(a1.add (k * 3)).block, (a1.add (k * 3)).off + 1, none⟩ = some (.slice x.A x.ns.length x.c) ∧ w'.cell? ⟨(a1.add (k * 3)).block, (a1.add (k * 3)).off + 2, none⟩ = some (.slice x.A2 x.xs.length x.c2)) ∧ (w'.cell? (a2.add (k * 3)) = some (.int .i64 y.kind) ∧ w'.cell? ⟨(a2.add (k * 3)).block, (a2.add (k * 3)).off + 1, none⟩ = some (.slice y.A y.ns.length y.c) ∧ w'.cell? ⟨(a2.add (k * 3)).block, (a2.add (k * 3)).off + 2, none⟩ = some (.slice y.A2 y.xs.length y.c2))) (by kernel_rfl) (⟨BT.out, BU.out, ⟨x0, x1, x2⟩, ⟨y0, y1, y2⟩⟩) (fun hHeld => ?_)
        refine wpAnyH_take (i := 0) (oi := _) (v := .pointer (some ⟨g, 2, none⟩)) rfl (by kernel_rfl) (by kernel_rfl) (by kernel_rfl) (fun _ _ _ h => h) (Or.inl ⟨by rfl, fun w' hS => (by go_simp)⟩) hHeld ?_
        change wpAnyH _ _ _ _ _ _ _ (Act.put _ (some 54) _) _
        try simp only [Act.put, List.setIfInBounds_toArray, List.set_cons_zero, List.set_cons_succ]
        refine wpAnyH_take (i := 1) (oi := _) (v := .slice (some a1) n2 t.c2) rfl (by kernel_rfl) (by kernel_rfl) (by kernel_rfl) (fun _ _ _ h => h) (Or.inl ⟨by rfl, fun w' hS => (by have q := cell_of_blk (i := 2) hS.1 rfl; rw [HN.out.1, HA1.out] at q; go_simp)⟩) hHeld ?_
        change wpAnyH _ _ _ _ _ _ _ (Act.put _ (some 55) _) _
        try simp only [Act.put, List.setIfInBounds_toArray, List.set_cons_zero, List.set_cons_succ]
        refine wpAnyH_take (i := 2) (oi := _) (v := .int .i64 (k : Int)) rfl (by kernel_rfl) (by kernel_rfl) (by kernel_rfl) (fun _ _ _ h => h) (Or.inl ⟨by rfl, fun w' hS => (by go_simp)⟩) hHeld ?_
        change wpAnyH _ _ _ _ _ _ _ (Act.put _ (some 56) _) _
        try simp only [Act.put, List.setIfInBounds_toArray, List.set_cons_zero, List.set_cons_succ]
        refine wpAnyH_take (i := 3) (oi := _) (v := .pointer (some (a1.add (k * 3)))) rfl (by kernel_rfl) (by kernel_rfl) (by kernel_rfl) (fun _ _ _ h => h) (Or.inl ⟨by rfl, fun w' hS => (by go_simp)⟩) hHeld ?_
        change wpAnyH _ _ _ _ _ _ _ (Act.put _ (some 57) _) _
        try simp only [Act.put, List.setIfInBounds_toArray, List.set_cons_zero, List.set_cons_succ]
        refine wpAnyH_take (i := 4) (oi := _) (v := .agg #[.int .i64 x.kind, .slice x.A x.ns.length x.c, .slice x.A2 x.xs.length x.c2]) rfl (by kernel_rfl) (by kernel_rfl) (by kernel_rfl) (fun _ _ _ h => h) (Or.inl ⟨by rfl, fun w' hS => (by obtain ⟨q0, q1, q2⟩ := hS.2.2.1; go_simp)⟩) hHeld ?_
        change wpAnyH _ _ _ _ _ _ _ (Act.put _ (some 58) _) _
        try simp only [Act.put, List.setIfInBounds_toArray, List.set_cons_zero, List.set_cons_succ]
        refine wpAnyH_take (i := 5) (oi := _) (v := .pointer (some ⟨g + 1, 2, none⟩)) rfl (by kernel_rfl) (by kernel_rfl) (by kernel_rfl) (fun _ _ _ h => h) (Or.inl ⟨by rfl, fun w' hS => (by go_simp)⟩) hHeld ?_
        change wpAnyH _ _ _ _ _ _ _ (Act.put _ (some 59) _) _
        try simp only [Act.put, List.setIfInBounds_toArray, List.set_cons_zero, List.set_cons_succ]
        refine wpAnyH_take (i := 6) (oi := _) (v := .slice (some a2) n2 u.c2) rfl (by kernel_rfl) (by kernel_rfl) (by kernel_rfl) (fun _ _ _ h => h) (Or.inl ⟨by rfl, fun w' hS => (by have q := cell_of_blk (i := 2) hS.2.1 rfl; rw [HN.out.2.1, HA2.out] at q; go_simp)⟩) hHeld ?_
        change wpAnyH _ _ _ _ _ _ _ (Act.put _ (some 60) _) _
        try simp only [Act.put, List.setIfInBounds_toArray, List.set_cons_zero, List.set_cons_succ]
        refine wpAnyH_take (i := 7) (oi := _) (v := .int .i64 (k : Int)) rfl (by kernel_rfl) (by kernel_rfl) (by kernel_rfl) (fun _ _ _ h => h) (Or.inl ⟨by rfl, fun w' hS => (by go_simp)⟩) hHeld ?_
        change wpAnyH _ _ _ _ _ _ _ (Act.put _ (some 61) _) _
        try simp only [Act.put, List.setIfInBounds_toArray, List.set_cons_zero, List.set_cons_succ]
        refine wpAnyH_take (i := 8) (oi := _) (v := .pointer (some (a2.add (k * 3)))) rfl (by kernel_rfl) (by kernel_rfl) (by kernel_rfl) (fun _ _ _ h => h) (Or.inl ⟨by rfl, fun w' hS => (by go_simp)⟩) hHeld ?_
        change wpAnyH _ _ _ _ _ _ _ (Act.put _ (some 62) _) _
        try simp only [Act.put, List.setIfInBounds_toArray, List.set_cons_zero, List.set_cons_succ]
        refine wpAnyH_take (i := 9) (oi := _) (v := .agg #[.int .i64 y.kind, .slice y.A y.ns.length y.c, .slice y.A2 y.xs.length y.c2]) rfl (by kernel_rfl) (by kernel_rfl) (by kernel_rfl) (fun _ _ _ h => h) (Or.inl ⟨by rfl, fun w' hS => (by obtain ⟨q0, q1, q2⟩ := hS.2.2.2; go_simp)⟩) hHeld ?_
        change wpAnyH _ _ _ _ _ _ _ (Act.put _ (some 63) _) _
        try simp only [Act.put, List.setIfInBounds_toArray, List.set_cons_zero, List.set_cons_succ]
        refine wpAnyH_ready (rs := [10]) (by kernel_rfl) (by simp) ?_
        refine AllReadyH.cons (o := _) rfl (fun K hK => ?_) AllReadyH.nil
        go_simp
        with_reducible refine HC.out.mono ?_
        rintro e w5 ⟨rfl, hb5⟩
        have HB5 := Lib.hid (show Below wr.heap.size wr w5 from (Below.refl wr.heap.size wr).drew.trans hb5)
        clear hb5
        refine hK.out _ _ ⟨below_blk HB5.out BT.out, below_blk HB5.out BU.out, ⟨(HB5.out.cell m1).trans x0, (HB5.out.cell (p := ⟨(a1.add (k * 3)).block, (a1.add (k * 3)).off + 1, none⟩) m1).trans x1, (HB5.out.cell (p := ⟨(a1.add (k * 3)).block, (a1.add (k * 3)).off + 2, none⟩) m1).trans x2⟩, ⟨(HB5.out.cell m2).trans y0, (HB5.out.cell (p := ⟨(a2.add (k * 3)).block, (a2.add (k * 3)).off + 1, none⟩) m2).trans y1, (HB5.out.cell (p := ⟨(a2.add (k * 3)).block, (a2.add (k * 3)).off + 2, none⟩) m2).trans y2⟩⟩ (fun hHeld => ?_)
        clear hK K
        try simp only [Act.put, List.setIfInBounds_toArray, List.set_cons_zero, List.set_cons_succ]
        refine wpAnyH_take (i := 11) (oi := _) (v := .bool true) rfl (by kernel_rfl) (by kernel_rfl) (by kernel_rfl) (fun _ _ _ h => h) (Or.inl ⟨by rfl, fun w' hS => (by go_simp)⟩) hHeld ?_
        change wpAnyH _ _ _ _ _ _ _ (Act.put _ (some 65) _) _
        try simp only [Act.put, List.setIfInBounds_toArray, List.set_cons_zero, List.set_cons_succ]
        refine wpAnyH_done (by kernel_rfl) ?_ _
        go_wp2
        go_ret
        exact ⟨rfl, KBr.out.trans (HB5.out.mono KBr.out.size)⟩
end Go.Proofs.YtllpicibncdppaaDoor
