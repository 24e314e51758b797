/-
  Whether a type leaves something open: the inner walks of types.Vague and of the reference's.
-/
import Derived.Test.YtllpicibncdppaaDoorTyLike
import Derived.Deep.Cut
import Derived.Deep.CutBlock
set_option linter.unusedVariables false
set_option linter.unusedSimpArgs false
namespace Go.Proofs.YtllpicibncdppaaDoor
open Go.ChangeShapes Go.WideShapes Go.ChangeAt Go.RowKit

theorem loose_iff (t : LTy) : Loose (strip t) ↔ t.kind = 0 ∨ t.kind = 5 ∨ ∃ x ∈ t.xs, Loose (strip x) := by
  constructor
  · intro h
    cases h with
    | any h => exact .inl (by rwa [strip_kind] at h)
    | table h => exact .inr (.inl (by rwa [strip_kind] at h))
    | part h1 h2 =>
      rw [strip_args] at h1
      obtain ⟨x, hx, rfl⟩ := List.mem_map.1 h1
      exact .inr (.inr ⟨x, hx, h2⟩)
  · rintro (h | h | ⟨x, hx, h⟩)
    · exact .any (by rwa [strip_kind])
    · exact .table (by rwa [strip_kind])
    · exact .part (by rw [strip_args]; exact List.mem_map_of_mem hx) h
/-- The box of Vague's closure. -/
def VBox (w : World) (bk : Nat) : Prop := w.heap[bk]? = some (.cells #[.func (.func 61) #[] #[.pointer (some ⟨bk, 0, none⟩)]] 33 (0, 0))
def VagAll (bk : Nat) (t : LTy) : Prop := ∀ w, LIn w w.heap.size t → VBox w bk → Calls Tryd.prog 61 #[t.val, .pointer (some ⟨bk, 0, none⟩)] w (RetB (.bool (tb (Loose (strip t)))) w)
def FoundAt (p : Prop) (w : World) (e : Ending) (w' : World) : Prop := Below w.heap.size w w' ∧ ((p ∧ ∃ i : Nat, i ≤ 8796093022208 ∧ e = .returned (.int .i64 i)) ∨ (¬ p ∧ e = .returned (.int .i64 (-1))))
set_option maxRecDepth 100000 in
set_option maxHeartbeats 4000000 in
theorem indexfunc_any (t : LTy) (bk : Nat) (w : World) (ht : LIn w w.heap.size t) (hb : VBox w bk) (ih : ∀ x ∈ t.xs, VagAll bk x) :
    Calls Tryd.prog 83 #[.slice t.A2 t.xs.length t.c2, .func (.func 61) #[] #[.pointer (some ⟨bk, 0, none⟩)]] w (FoundAt (∃ x ∈ t.xs, Loose (strip x)) w) := by
  have hcf : ∀ args W, (callFunc 61 args).run Tryd.prog W = .ok (.enter 61 args) W := fun _ _ => rfl
  have hl1 := ht.n2.2
  obtain ⟨n1, hn1⟩ : ∃ n, n = t.xs.length := ⟨_, rfl⟩
  rw [← hn1] at hl1
  rw [← hn1]
  have HT := Lib.hid ht
  have HI := Lib.hid ih
  have HN := Lib.hid hn1
  have HBX := Lib.hid hb
  clear ht ih hn1 hb
  go_enter Tryd.func83, Tryd.ntmps83
  go_wp2_with fail
  go_loopw [8] (fun i wr => ∃ k : Nat, k ≤ n1 ∧ i = .int .i64 k ∧ Hid (∀ (j : Nat) (x : LTy), j < k → t.xs[j]? = some x → ¬ Loose (strip x)) ∧ Hid (Below w.heap.size w wr)) (fun i _ => n1 - (intOf i).toNat)
  case atStart => exact ⟨0, by omega, rfl, Lib.hid (fun j x hj => by omega), Lib.hid (Below.refl _ _)⟩
  case round =>
    obtain ⟨k, hk, rfl, HK, HB⟩ := hrel
    by_cases hlt : k < n1
    · obtain ⟨x, hx⟩ : ∃ x, t.xs[k]? = some x := ⟨_, List.getElem?_eq_getElem (by rw [← HN.out]; exact hlt)⟩
      have htr := HT.out.on HB.out
      obtain ⟨a1, hA1, l1, x0, x1, x2⟩ := htr.cells hx
      have m1 : (a1.add (k * 3)).block < wr.heap.size := by rw [block_add']; exact l1
      have hk' : (k : Int) < (n1 : Int) := by omega
      have hk0 : (0 : Int) ≤ k := by omega
      have hcall := HI.out x (List.mem_of_getElem? hx) wr (htr.part hx) (below_blk HB.out HBX.out)
      unfold LTy.val at hcall
      have HC := Lib.hid hcall
      have HX := Lib.hid hx
      rw [hA1]
      clear hcall htr hx l1
      by_cases hxy : Loose (strip x)
      · rw [tb_true hxy] at HC
        have HP := Lib.hid (show ∃ x ∈ t.xs, Loose (strip x) from ⟨x, List.mem_of_getElem? HX.out, hxy⟩)
        clear hxy
        go_wp2_with fail
        refine HC.out.mono ?_
        rintro e w5 ⟨rfl, hb5⟩
        have HF := Lib.hid (show FoundAt (∃ x ∈ t.xs, Loose (strip x)) w (.returned (.int .i64 (k : Int))) w5 from ⟨HB.out.trans (hb5.mono HB.out.size), .inl ⟨HP.out, k, by omega, rfl⟩⟩)
        clear hb5
        go_wp2
        go_ret
        exact HF.out
      · rw [tb_false hxy] at HC
        have HK2 := Lib.hid (show ∀ (j : Nat) (x : LTy), j < k + 1 → t.xs[j]? = some x → ¬ Loose (strip x) from fun j y hj hy => by
          rcases Nat.lt_or_ge j k with h1 | h1
          · exact HK.out j y h1 hy
          · obtain rfl : j = k := by omega
            rw [HX.out] at hy
            obtain rfl := Option.some.inj hy
            exact hxy)
        clear hxy
        go_wp2_with fail
        refine HC.out.mono ?_
        rintro e w5 ⟨rfl, hb5⟩
        have HB5 := Lib.hid (HB.out.trans (hb5.mono HB.out.size))
        clear hb5
        go_wp2_with fail
        go_roundw
        case rel => exact ⟨k + 1, by omega, by go_num, HK2, HB5⟩
        case measure => simp [intOf]; omega
    · obtain rfl : k = n1 := by omega
      have HF := Lib.hid (show FoundAt (∃ x ∈ t.xs, Loose (strip x)) w (.returned (.int .i64 (-1))) wr from ⟨HB.out, .inr ⟨fun ⟨x, hx, h⟩ => by
        obtain ⟨j, hj⟩ := List.getElem?_of_mem hx
        exact HK.out j x (by have := (List.getElem?_eq_some_iff.1 hj).1; rw [← HN.out] at this; exact this) hj h, rfl⟩⟩)
      go_wp2
      go_ret
      exact HF.out
set_option maxRecDepth 100000 in
set_option maxHeartbeats 4000000 in
theorem contfunc_any (t : LTy) (bk : Nat) (w : World) (ht : LIn w w.heap.size t) (hb : VBox w bk) (ih : ∀ x ∈ t.xs, VagAll bk x) :
    Calls Tryd.prog 62 #[.slice t.A2 t.xs.length t.c2, .func (.func 61) #[] #[.pointer (some ⟨bk, 0, none⟩)]] w (RetB (.bool (tb (∃ x ∈ t.xs, Loose (strip x)))) w) := by
  have HI := Lib.hid (indexfunc_any t bk w ht hb ih)
  clear ht hb ih
  go_enter Tryd.func62, Tryd.ntmps62
  go_wp2_with fail
  refine HI.out.mono ?_
  rintro e w1 ⟨hb1, ⟨hp, i, hi, rfl⟩ | ⟨hp, rfl⟩⟩
  · have HF := Lib.hid (show RetB (.bool (tb (∃ x ∈ t.xs, Loose (strip x)))) w (.returned (.bool true)) w1 from ⟨by rw [tb_true hp], hb1⟩)
    clear hp hb1
    go_wp2
    go_ret
    exact HF.out
  · have HF := Lib.hid (show RetB (.bool (tb (∃ x ∈ t.xs, Loose (strip x)))) w (.returned (.bool false)) w1 from ⟨by rw [tb_false hp], hb1⟩)
    clear hp hb1
    go_wp2
    go_ret
    exact HF.out
set_option maxRecDepth 100000 in
set_option maxHeartbeats 4000000 in
theorem vag_any (bk : Nat) (t : LTy) : VagAll bk t := by
  induction t using lty_ind with
  | h t ih =>
  intro w ht hb
  have hb0 : Below w.heap.size w (w.alloc (.cells #[.int .i64 t.kind, .slice t.A t.ns.length t.c, .slice t.A2 t.xs.length t.c2] 26)) := (Below.refl _ _).alloc (Nat.le_refl _) _
  have hc := contfunc_any t bk _ (ht.on hb0) (below_blk hb0 hb) ih
  have v0 := cell_of_blk (i := 0) (below_blk hb0 hb) rfl
  have lv := blk_lt hb
  have HB := Lib.hid hb0
  have HC := Lib.hid hc
  unfold LTy.val
  rw [tb_congr (loose_iff t)]
  generalize (∃ x ∈ t.xs, Loose (strip x)) = S at *
  clear hb0 hc ht hb ih
  by_cases h0 : t.kind = 0
  · have e0 : (t.kind == 0) = true := beq_iff_eq.2 h0
    rw [tb_true (.inl h0)]
    clear h0 v0
    go_enter Tryd.func61, Tryd.ntmps61
    go_wp2
    go_ret
    exact ⟨rfl, HB.out⟩
  have e0 : (t.kind == 0) = false := beq_eq_false_iff_ne.2 h0
  by_cases h5 : t.kind = 5
  · have e5 : (t.kind == 5) = true := beq_iff_eq.2 h5
    rw [tb_true (.inr (.inl h5))]
    clear h0 h5 v0
    go_enter Tryd.func61, Tryd.ntmps61
    go_wp2
    go_ret
    exact ⟨rfl, HB.out⟩
  have e5 : (t.kind == 5) = false := beq_eq_false_iff_ne.2 h5
  rw [tb_congr (show (t.kind = 0 ∨ t.kind = 5 ∨ S) ↔ S from ⟨fun h => by rcases h with h | h | h; exact (h0 h).elim; exact (h5 h).elim; exact h, fun h => .inr (.inr h)⟩)]
  clear h0 h5
  generalize tb S = b at *
  go_enter Tryd.func61, Tryd.ntmps61
  go_wp2_with fail
  refine HC.out.mono ?_
  rintro e w1 ⟨rfl, hb1⟩
  have HB1 := Lib.hid (HB.out.trans (hb1.mono HB.out.size))
  clear hb1
  go_wp2
  go_ret
  exact ⟨by first | rfl | (cases b <;> rfl), HB1.out⟩
/-- The reference's. -/
def RVagAll (t : LTy) : Prop := ∀ w, LIn w w.heap.size t → Calls Tryd.prog 55 #[t.val] w (RetB (.bool (tb (Loose (strip t)))) w)
set_option maxRecDepth 100000 in
set_option maxHeartbeats 4000000 in
theorem rvag_any (t : LTy) : RVagAll t := by
  induction t using lty_ind with
  | h t ih =>
  intro w ht
  have hb0 : Below w.heap.size w (w.alloc (.cells #[.int .i64 t.kind, .slice t.A t.ns.length t.c, .slice t.A2 t.xs.length t.c2] 26)) := (Below.refl _ _).alloc (Nat.le_refl _) _
  have hl1 := ht.n2.2
  unfold LTy.val
  have HB := Lib.hid hb0
  have HT := Lib.hid ht
  have HI := Lib.hid ih
  clear hb0 ht ih
  by_cases h0 : t.kind = 0
  · have e0 : (t.kind == 0) = true := beq_iff_eq.2 h0
    rw [tb_true ((loose_iff t).2 (.inl h0))]
    clear h0
    go_enter Tryd.func55, Tryd.ntmps55
    go_wp2
    go_ret
    exact ⟨rfl, HB.out⟩
  have e0 : (t.kind == 0) = false := beq_eq_false_iff_ne.2 h0
  by_cases h5 : t.kind = 5
  · have e5 : (t.kind == 5) = true := beq_iff_eq.2 h5
    rw [tb_true ((loose_iff t).2 (.inr (.inl h5)))]
    clear h0 h5
    go_enter Tryd.func55, Tryd.ntmps55
    go_wp2
    go_ret
    exact ⟨rfl, HB.out⟩
  have e5 : (t.kind == 5) = false := beq_eq_false_iff_ne.2 h5
  rw [tb_congr (show Loose (strip t) ↔ ∃ x ∈ t.xs, Loose (strip x) from ⟨fun h => by rcases (loose_iff t).1 h with h | h | h; exact (h0 h).elim; exact (h5 h).elim; exact h, fun h => (loose_iff t).2 (.inr (.inr h))⟩)]
  clear h0 h5
  obtain ⟨n1, hn1⟩ : ∃ n, n = t.xs.length := ⟨_, rfl⟩
  rw [← hn1] at hl1
  rw [← hn1]
  have HN := Lib.hid hn1
  rw [← hn1] at HB
  clear hn1
  go_enter Tryd.func55, Tryd.ntmps55
  go_wp2_with fail
  go_loopw [16] (fun i wr => ∃ k : Nat, k ≤ n1 ∧ i = .int .i64 k ∧ Hid (∀ (j : Nat) (x : LTy), j < k → t.xs[j]? = some x → ¬ Loose (strip x)) ∧ Hid (Below w.heap.size w wr)) (fun i _ => n1 - (intOf i).toNat)
  case atStart => exact ⟨0, by omega, rfl, Lib.hid (fun j x hj => by omega), HB⟩
  case round =>
    obtain ⟨k, hk, rfl, HK, HW⟩ := hrel
    by_cases hlt : k < n1
    · obtain ⟨x, hx⟩ : ∃ x, t.xs[k]? = some x := ⟨_, List.getElem?_eq_getElem (by rw [← HN.out]; exact hlt)⟩
      have htr := HT.out.on HW.out
      obtain ⟨a1, hA1, l1, x0, x1, x2⟩ := htr.cells hx
      have m1 : (a1.add (k * 3)).block < wr.heap.size := by rw [block_add']; exact l1
      have hk' : (k : Int) < (n1 : Int) := by omega
      have hk0 : (0 : Int) ≤ k := by omega
      have hbx : Below wr.heap.size wr (wr.alloc (.cells #[.int .i64 x.kind, .slice x.A x.ns.length x.c, .slice x.A2 x.xs.length x.c2] 26)) := (Below.refl _ _).alloc (Nat.le_refl _) _
      have hcall := HI.out x (List.mem_of_getElem? hx) _ ((htr.part hx).on hbx)
      unfold LTy.val at hcall
      have HC := Lib.hid hcall
      have HX := Lib.hid hx
      have HBX := Lib.hid (HW.out.trans (hbx.mono HW.out.size))
      rw [hA1]
      clear hcall htr hx l1 hbx
      by_cases hxy : Loose (strip x)
      · rw [tb_true hxy] at HC
        have HP := Lib.hid (show ∃ x ∈ t.xs, Loose (strip x) from ⟨x, List.mem_of_getElem? HX.out, hxy⟩)
        clear hxy
        go_wp2_with fail
        refine HC.out.mono ?_
        rintro e w5 ⟨rfl, hb5⟩
        have HF := Lib.hid (show RetB (.bool (tb (∃ x ∈ t.xs, Loose (strip x)))) w (.returned (.bool true)) w5 from ⟨by rw [tb_true HP.out], HBX.out.trans (hb5.mono HBX.out.size)⟩)
        clear hb5
        go_wp2
        go_ret
        exact HF.out
      · rw [tb_false hxy] at HC
        have HK2 := Lib.hid (show ∀ (j : Nat) (x : LTy), j < k + 1 → t.xs[j]? = some x → ¬ Loose (strip x) from fun j y hj hy => by
          rcases Nat.lt_or_ge j k with h1 | h1
          · exact HK.out j y h1 hy
          · obtain rfl : j = k := by omega
            rw [HX.out] at hy
            obtain rfl := Option.some.inj hy
            exact hxy)
        clear hxy
        go_wp2_with fail
        refine HC.out.mono ?_
        rintro e w5 ⟨rfl, hb5⟩
        have HB5 := Lib.hid (HBX.out.trans (hb5.mono HBX.out.size))
        clear hb5
        go_wp2_with fail
        go_roundw
        case rel => exact ⟨k + 1, by omega, by go_num, HK2, HB5⟩
        case measure => simp [intOf]; omega
    · obtain rfl : k = n1 := by omega
      have HF := Lib.hid (show RetB (.bool (tb (∃ x ∈ t.xs, Loose (strip x)))) w (.returned (.bool false)) wr from ⟨by
        rw [tb_false fun ⟨x, hx, h⟩ => by
          obtain ⟨j, hj⟩ := List.getElem?_of_mem hx
          exact HK.out j x (by have := (List.getElem?_eq_some_iff.1 hj).1; rw [← HN.out] at this; exact this) hj h], HW.out⟩)
      go_wp2
      go_ret
      exact HF.out
end Go.Proofs.YtllpicibncdppaaDoor
