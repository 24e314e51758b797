/-
  relate.fields, the reference's field: a shape's fields, as they are asked.
-/
import Derived.Test.YtllpicibncdppaaDoorTyTwo
set_option linter.unusedVariables false
set_option linter.unusedSimpArgs false
namespace Go.Proofs.YtllpicibncdppaaDoor
open Go.ChangeShapes Go.WideShapes Go.ChangeAt Go.RowKit

theorem chk_rise {n : Nat} {t : Ty} (h : Chk n t) (h8 : t.kind = 8) : Rise t.names := rise_of fun i a b ha hb => by
  cases n with
  | zero => exact h.elim
  | succ n =>
    have hl := (shape_names h h8).1
    obtain ⟨x, hx⟩ : ∃ x, t.args[i + 1]? = some x := ⟨_, List.getElem?_eq_getElem (by rw [← hl]; exact (List.getElem?_eq_some_iff.1 hb).1)⟩
    exact (((h.2 (i + 1) x hx).1.2 h8).2 b hb).2 a (by omega) ha
theorem rise_uniq {ns : List ByteArray} (h : Rise ns) {i j : Nat} {s : ByteArray} (hi : ns[i]? = some s) (hj : ns[j]? = some s) : i = j := by
  rcases Nat.lt_trichotomy i j with h1 | h1 | h1
  · have := h i j s s h1 hi hj
    rw [bytesLess_irr] at this
    cases this
  · exact h1
  · have := h j i s s h1 hj hi
    rw [bytesLess_irr] at this
    cases this
/-- One field is as it is asked. -/
def FieldAt (h : Bool) (a : Ty) (s : ByteArray) (y : Ty) : Prop := ∃ (j : Nat) (x : Ty), a.names[j]? = some s ∧ a.args[j]? = some x ∧ (x = y ∨ (h = true ∧ (x.kind = 0 ∨ y.kind = 0)))
theorem field_is {h : Bool} {a : Ty} (hr : Rise a.names) {s : ByteArray} {y x : Ty} {j : Nat} (hs : a.names[j]? = some s) (hx : a.args[j]? = some x) : FieldAt h a s y ↔ (x = y ∨ (h = true ∧ (x.kind = 0 ∨ y.kind = 0))) := by
  constructor
  · rintro ⟨j', x', h1, h2, h3⟩
    obtain rfl := rise_uniq hr hs h1
    rw [hx] at h2
    obtain rfl := Option.some.inj h2
    exact h3
  · exact fun e => ⟨j, x, hs, hx, e⟩
def FieldOut (t : LTy) (s : ByteArray) (w : World) (e : Ending) (w' : World) : Prop :=
  Below w.heap.size w w' ∧ ((∃ (j : Nat) (x : LTy), t.ns[j]? = some s ∧ t.xs[j]? = some x ∧ e = .returned (.tuple #[x.val, .bool true])) ∨ (s ∉ t.ns ∧ e = .returned (.tuple #[.agg #[.int .i64 0, .slice none 0 0, .slice none 0 0], .bool false])))
set_option maxRecDepth 100000 in
set_option maxHeartbeats 4000000 in
theorem rfield_any (t : LTy) (s : ByteArray) (w : World) (ht : LIn w w.heap.size t) (hlen : t.ns.length = t.xs.length) : Calls Tryd.prog 76 #[t.val, .string s] w (FieldOut t s w) := by
  unfold LTy.val
  obtain ⟨g, hg⟩ : ∃ g, g = w.heap.size := ⟨_, rfl⟩
  have HT := Lib.hid ht
  clear ht
  obtain ⟨n1, hn1⟩ : ∃ n, n = t.ns.length := ⟨_, rfl⟩
  have hl1 := HT.out.n1.2
  have HN := Lib.hid (show t.ns.length = n1 ∧ t.xs.length = n1 from ⟨hn1.symm, by rw [hn1]; exact hlen.symm⟩)
  rw [← hn1] at hl1
  clear hlen hn1
  go_enter Tryd.func76, Tryd.ntmps76
  go_upto_region 1 with fail
  rw [← hg]
  refine gen_wpT fun W hW => ?_
  have kt : TBox W g t := by rw [← hW, hg]; exact blk_alloc (one_box w t).1 _
  have KR := Lib.hid (show W.heap[g + 1]? = some (.cells #[.int .i64 0, .slice none 0 0, .slice none 0 0] 26 (0, 0)) by rw [← hW, hg]; exact heap_new_at _ _ _ (by simp))
  have kb : Below w.heap.size w W := by rw [← hW]; exact (one_box w t).2.alloc (by simp) _
  have KT := Lib.hid kt
  have KB := Lib.hid kb
  have KL := Lib.hid (HT.out.on kb)
  have ktc0 := kt.c0
  have ktc1 := kt.c1
  have ktc2 := kt.c2
  have ktlt := kt.lt
  rw [HN.out.1] at ktc1
  rw [HN.out.2] at ktc2
  have hgw : w.heap.size ≤ g + 1 := by omega
  have HGW := Lib.hid hgw
  have r0 := cell_of_blk (i := 0) KR.out rfl
  have r1 := cell_of_blk (i := 1) KR.out rfl
  have r2 := cell_of_blk (i := 2) KR.out rfl
  have fr0 := free_of_blk (i := 0) KR.out
  have fr1 := free_of_blk (i := 1) KR.out
  have fr2 := free_of_blk (i := 2) KR.out
  have lr := blk_lt KR.out
  clear hW kt kb hg hgw
  go_wp2_with fail
  go_loop [11] (fun i => ∃ k : Nat, k ≤ n1 ∧ i = .int .i64 k ∧ Hid (∀ (j : Nat), j < k → t.ns[j]? ≠ some s)) (fun i => n1 - (intOf i).toNat)
  case atStart => exact ⟨0, by omega, rfl, Lib.hid (fun j hj => by omega)⟩
  case round =>
    obtain ⟨k, hk, rfl, HK⟩ := hrel
    by_cases hlt : k < n1
    · obtain ⟨nm, hnm⟩ : ∃ s, t.ns[k]? = some s := ⟨_, List.getElem?_eq_getElem (by rw [HN.out.1]; exact hlt)⟩
      obtain ⟨x, hx⟩ : ∃ x, t.xs[k]? = some x := ⟨_, List.getElem?_eq_getElem (by rw [HN.out.2]; exact hlt)⟩
      obtain ⟨a1, hA1, hl, s0⟩ := KL.out.name hnm
      obtain ⟨a2, hA2, hx3⟩ := KL.out.at3 hx
      have x0 := hx3.2.1
      have x1 := hx3.2.2.1
      have x2 := hx3.2.2.2
      have xl := hx3.1
      have sl : (a1.add k).block < W.heap.size := by rw [block_add']; exact hl
      have hk' : (k : Int) < (n1 : Int) := by omega
      have hk0 : (0 : Int) ≤ k := by omega
      rw [hA1] at ktc1
      rw [hA2] at ktc2
      rw [hA1]
      clear hx3 hl hA1 hA2
      by_cases he : nm = s
      · have hb := str_beq he
        have HF := Lib.hid (show ∀ w', Below w.heap.size w w' → FieldOut t s w (.returned (.tuple #[.agg #[.int .i64 x.kind, .slice x.A x.ns.length x.c, .slice x.A2 x.xs.length x.c2], .bool true])) w' from fun w' h => ⟨h, .inl ⟨k, x, by rw [hnm, he], hx, rfl⟩⟩)
        clear hnm hx he
        go_wp2
        refine bodyPost_ret (v := .tuple #[.agg #[.int .i64 x.kind, .slice x.A x.ns.length x.c, .slice x.A2 x.xs.length x.c2], .bool true]) (by simp [results, Tryd.results76, go_sem, r0, r1, r2]) rfl ?_
        exact HF.out _ (((KB.out.setCell (by have := HGW.out; simp; omega) _).setCell (by have := HGW.out; simp; omega) _).setCell (by have := HGW.out; simp; omega) _)
      · have hb := str_bne he
        have HK2 := Lib.hid (show ∀ (j : Nat), j < k + 1 → t.ns[j]? ≠ some s from fun j hj => by
          rcases Nat.lt_or_ge j k with h1 | h1
          · exact HK.out j h1
          · obtain rfl : j = k := by omega
            rw [hnm]
            exact fun e => he (Option.some.inj e))
        clear hnm hx he
        go_wp2_with fail
        go_round
        case rel => exact ⟨k + 1, by omega, by go_num, HK2⟩
        case measure => simp [intOf]; omega
    · obtain rfl : k = n1 := by omega
      have hkk : ¬ (k : Int) < (k : Int) := by omega
      have HF := Lib.hid (show ∀ w', Below w.heap.size w w' → FieldOut t s w (.returned (.tuple #[.agg #[.int .i64 0, .slice none 0 0, .slice none 0 0], .bool false])) w' from fun w' h => ⟨h, .inr ⟨fun hm => by
        obtain ⟨j, hj⟩ := List.getElem?_of_mem hm
        exact HK.out j (by have := (List.getElem?_eq_some_iff.1 hj).1; rw [HN.out.1] at this; exact this) hj, rfl⟩⟩)
      go_wp2
      refine bodyPost_ret (v := .tuple #[.agg #[.int .i64 0, .slice none 0 0, .slice none 0 0], .bool false]) (by simp [results, Tryd.results76, go_sem, r0, r1, r2]) rfl ?_
      first | exact HF.out _ (((KB.out.setCell (by have := HGW.out; simp; omega) _).setCell (by have := HGW.out; simp; omega) _).setCell (by have := HGW.out; simp; omega) _) | exact HF.out _ KB.out
end Go.Proofs.YtllpicibncdppaaDoor
