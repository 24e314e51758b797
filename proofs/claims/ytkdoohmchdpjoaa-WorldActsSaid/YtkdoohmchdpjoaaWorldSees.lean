/-
  WorldSees: an event is put out only where the value and the place in the program may be seen.
-/
import Derived.Test.YtkdoohmchdpjoaaWorldPlaces
import Derived.Test.YtkdoohmchdpjoaaOpen2
set_option linter.unusedVariables false
set_option linter.unusedSimpArgs false
namespace Go.Proofs.Ytkdoohmchdpjoaa
open Go.ChangeShapes Go.WideShapes Go.ChangeAt Go.RowKit

theorem InsOk.below {w w' : World} {s : Nat → Sl Int} (h : InsOk w s) (hb : Below w.heap.size w w') : InsOk w' s :=
  ⟨fun k hk => ((h.reads k hk).below hb).mono hb.size, h.none_, h.room⟩
theorem flowsB_left {a b c : Nat} (h : flowsB (a ||| b) c = true) : flowsB a c = true := by
  rw [flowsB_iff] at h ⊢
  intro i hi
  exact h i (by rw [Nat.testBit_or, hi, Bool.true_or])
theorem flowsB_right {a b c : Nat} (h : flowsB (a ||| b) c = true) : flowsB b c = true := by
  rw [flowsB_iff] at h ⊢
  intro i hi
  exact h i (by rw [Nat.testBit_or, hi, Bool.or_true])
theorem laid_at (m : Nat → Nat) (s : Nat → Sl Int) (v : Nat → Value) (k : Nat) (hk : k < 8) : (laidTo m s v 8)[k]? = some ⟨m k, v k, (s k).xs, 0⟩ := by
  unfold laidTo
  rw [eight_at _ k hk, if_pos hk]
theorem laid_ms (m : Nat → Nat) (s : Nat → Sl Int) (v : Nat → Value) (hm : ∀ k, k < 8 → m k < 18446744073709551616) : Ms (laidTo m s v 8) := by
  intro c hc
  obtain ⟨k, hk⟩ := List.getElem?_of_mem hc
  have hk8 : k < 8 := (List.getElem?_eq_some_iff.1 hk).1
  rw [laid_at m s v k hk8] at hk
  obtain rfl := Option.some.inj hk
  exact hm k hk8
theorem laid_rd (m : Nat → Nat) (s : Nat → Sl Int) (v : Nat → Value) : ((List.range 8).all fun i => rdAt (laidTo m s v 8) i == (fun _ => (0 : Int)) i) = true := by
  rw [List.all_eq_true]
  intro i hi
  have hi8 := List.mem_range.1 hi
  unfold rdAt chAt
  rw [laid_at m s v i hi8]
  rfl
/-- What a write does: nothing is put out, or one event, and then all may be seen. -/
theorem writeS_cases (P : List CV) (ev : List Ev) (pc : Nat) (k : Int) (v : VV) : (writeS P ev pc k v).1 = ev ∨ ∃ (n : Nat) (c : CV), k = (n : Int) ∧ n < 8 ∧ P[n]? = some c ∧ flowsB pc c.mask = true ∧ flowsB v.label c.mask = true ∧ (writeS P ev pc k v).1 = ev ++ [bareEv k v] := by
  unfold writeS
  cases hc : chOf P k with
  | none => exact .inl rfl
  | some c =>
    cases hf : flowsB (pc ||| v.label) c.mask with
    | false => left; simp [hf]
    | true =>
      obtain ⟨n, rfl, h1, h2⟩ := chOf_some hc
      exact .inr ⟨n, c, rfl, h1, h2, flowsB_left hf, flowsB_right hf, by simp [hf]⟩

set_option maxRecDepth 100000 in
set_option maxHeartbeats 2000000 in
theorem wsees_walk (m : Nat → Nat) (s : Nat → Sl Int) (A : Option Addr) (c : Nat) (xs : List WAct) (w : World) (hm : ∀ k, k < 8 → m k < 18446744073709551616) (hs : InsOk w s) (hr : Reads w w.heap.size A (xs.flatMap waEnc))
    (hL : ∀ x ∈ xs, x.pc < 18446744073709551616 ∧ x.v.label < 18446744073709551616) (hn : (xs.length + 1) * 40 ≤ 140737488351232) :
    Calls Try.prog 8 #[agg8 (mv m), agg8 (sv s), .slice A xs.length c] w (RetB (.bool true) w) := by
  have hfew := fun w' h => few23 s A c xs w' h (by omega)
  have hnew := wnew_walk m s
  unfold agg8 at hfew hnew ⊢
  have HF := Lib.hid hfew
  have HW := Lib.hid hnew
  clear hfew hnew
  go_enter Try.func8, Try.ntmps8
  go_wp2_with fail
  refine (awake23 _).mono ?_
  rintro e w1 ⟨rfl, hb1⟩
  have hx0 := blk_alloc (heap_new_at w (.cells #[mv m 0, mv m 1, mv m 2, mv m 3, mv m 4, mv m 5, mv m 6, mv m 7] 47) _ rfl) (.cells #[sv s 0, sv s 1, sv s 2, sv s 3, sv s 4, sv s 5, sv s 6, sv s 7] 50)
  have hx1 := heap_new_at (w.alloc (.cells #[mv m 0, mv m 1, mv m 2, mv m 3, mv m 4, mv m 5, mv m 6, mv m 7] 47)) (.cells #[sv s 0, sv s 1, sv s 2, sv s 3, sv s 4, sv s 5, sv s 6, sv s 7] 50) (w.heap.size + 1) (by simp)
  have hy0 := below_blk hb1 hx0
  have hy1 := below_blk hb1 hx1
  have hbw : Below w.heap.size w w1 := (((Below.refl _ _).alloc (Nat.le_refl _) _).alloc (by simp) _).trans (hb1.mono (by simp; omega))
  clear hb1 hx0 hx1
  go_wp2_with (refine wpList_load_row rfl 50 _ rfl (w.heap.size + 1) rfl 50 _ (0, 0) _ hy1 Try.underlying50 rfl (by rfl) ?_)
  refine (HF.out w1 ((hr.below hbw).mono hbw.size)).mono ?_
  rintro e w2 ⟨⟨b, rfl⟩, hb2⟩
  have hz0 := below_blk hb2 hy0
  have hz1 := below_blk hb2 hy1
  have hbw2 := hbw.trans (hb2.mono hbw.size)
  clear hy0 hy1 hb2 hbw
  cases b with
  | false =>
    go_wp2
    go_ret
    exact ⟨rfl, hbw2⟩
  | true =>
    go_wp2_with (first | (refine wpList_load_row rfl 50 _ rfl (w.heap.size + 1) rfl 50 _ (0, 0) _ hz1 Try.underlying50 rfl (by rfl) ?_) | (refine wpList_load_row rfl 47 _ rfl w.heap.size rfl 47 _ (0, 0) _ hz0 Try.underlying47 rfl (by rfl) ?_))
    obtain ⟨N, hN⟩ : ∃ N, w2.heap.size = N := ⟨_, rfl⟩
    refine (HW.out w2 N hN (hs.below hbw2)).mono ?_
    rintro e w3 ⟨v, rfl, hw3, hb3⟩
    have hNle : w.heap.size ≤ N := by have := hbw2.size; omega
    have hbw3 := hbw2.trans (hb3.mono hNle)
    have hv0 : w3.heap[w.heap.size]? = _ := (hb3.block _ (by have := blk_lt hz0; omega)).trans hz0
    have hsz3 : N ≤ w3.heap.size := by have := hb3.size; omega
    have hM := laid_ms m s v hm
    clear hz0 hz1 hb3 hbw2 hN
    go_wp2
    go_loopw [9, 10, 11, 25] (fun _ _ _ i wr => ∃ (k : Nat) (ev : List Ev), k ≤ xs.length ∧ i = .int .i64 k ∧ WorldIn wr N (N + 1 + 1) (laidTo m s v 8) ev ∧ ev.length ≤ k ∧ wr.heap[w.heap.size]? = some (.cells #[mv m 0, mv m 1, mv m 2, mv m 3, mv m 4, mv m 5, mv m 6, mv m 7] 47 (0, 0)) ∧ N ≤ wr.heap.size ∧ Below w.heap.size w wr) (fun _ _ _ i _ => xs.length - (intOf i).toNat)
    case atStart => exact ⟨0, [], by omega, rfl, hw3, by simp, hv0, hsz3, hbw3⟩
    case round =>
      clear hw3 hv0 hsz3 hbw3
      obtain ⟨k, ev, hk, rfl, hg, hev, hv0, hsz, hB⟩ := hrel
      by_cases hlt : k < xs.length
      · have hsr := hr.below hB
        obtain ⟨x, hx⟩ : ∃ x, xs[k]? = some x := ⟨_, List.getElem?_eq_getElem hlt⟩
        obtain ⟨hxpc, hxlb⟩ := hL x (List.mem_of_getElem? hx)
        obtain ⟨ad, rfl, hadb, hcell⟩ := hsr.at (flatMap_ne (K := 7) (fun a => rfl) (by omega) hx)
        have hc0 := elem_zero (K := 7) (fun a => rfl) hcell hx (by omega) (v := .int .i64 x.act) rfl
        have hc1 := elem_at (K := 7) (fun a => rfl) hcell hx 1 (by omega) (by omega) (v := .int .u64 (x.pc : Int)) rfl
        have hc2 := elem_at (K := 7) (fun a => rfl) hcell hx 2 (by omega) (by omega) (v := .int .i64 x.k) rfl
        have hc3 := elem_at (K := 7) (fun a => rfl) hcell hx 3 (by omega) (by omega) (v := .int .i64 x.v.kind) rfl
        have hc4 := elem_at (K := 7) (fun a => rfl) hcell hx 4 (by omega) (by omega) (v := .int .i64 x.v.n) rfl
        have hc5 := elem_at (K := 7) (fun a => rfl) hcell hx 5 (by omega) (by omega) (v := .string x.v.s) rfl
        have hc6 := elem_at (K := 7) (fun a => rfl) hcell hx 6 (by omega) (by omega) (v := .int .u64 (x.v.label : Int)) rfl
        have HX := Lib.hid hx
        clear hx hcell hsr
        have hgA := hg.below ((Below.refl _ _).alloc (Nat.le_refl _) (.cells #[.int .i64 x.act, .int .u64 (x.pc : Int), .int .i64 x.k, .int .i64 x.v.kind, .int .i64 x.v.n, .string x.v.s, .int .u64 (x.v.label : Int)] 63))
        have hbx := heap_new_at wr (.cells #[.int .i64 x.act, .int .u64 (x.pc : Int), .int .i64 x.k, .int .i64 x.v.kind, .int .i64 x.v.n, .string x.v.s, .int .u64 (x.v.label : Int)] 63) _ rfl
        have hvA := blk_alloc hv0 (.cells #[.int .i64 x.act, .int .u64 (x.pc : Int), .int .i64 x.k, .int .i64 x.v.kind, .int .i64 x.v.n, .string x.v.s, .int .u64 (x.v.label : Int)] 63)
        have hBA := hB.alloc hB.size (.cells #[.int .i64 x.act, .int .u64 (x.pc : Int), .int .i64 x.k, .int .i64 x.v.kind, .int .i64 x.v.n, .string x.v.s, .int .u64 (x.v.label : Int)] 63)
        clear hg hv0 hB
        go_wp2_with fail
        refine (wevents_any _ hgA (by omega)).mono ?_
        rintro e w4 ⟨v4, rfl, hown4, hb4⟩
        obtain ⟨A4, c4, rfl, _⟩ := own_form hown4
        have hg4 := hgA.below hb4
        have hbx4 := below_blk hb4 hbx
        have hv4 := below_blk hb4 hvA
        have hB4 := hBA.trans (hb4.mono hBA.size)
        have hsz4 : N ≤ w4.heap.size := by have := hb4.size; simp at this; omega
        have b1 := cell_of_blk (i := 1) hbx4 rfl
        have b2 := cell_of_blk (i := 2) hbx4 rfl
        have b3 := cell_of_blk (i := 3) hbx4 rfl
        have b4 := cell_of_blk (i := 4) hbx4 rfl
        have b5 := cell_of_blk (i := 5) hbx4 rfl
        have b6 := cell_of_blk (i := 6) hbx4 rfl
        clear hgA hbx hvA hBA hb4 hc0 hc1 hc2 hc3 hc4 hc5 hc6 hown4
        have hwr := wwrite_any x.pc x.k x.v w4 hg4 hM hxpc hxlb hsz4 (by omega)
        have hcs := writeS_cases (laidTo m s v 8) ev x.pc x.k x.v
        unfold vvCells at hwr
        have HR := Lib.hid hwr
        have HC := Lib.hid hcs
        clear hwr hcs
        go_wp2_with fail
        refine HR.out.mono ?_
        rintro e w5 ⟨rfl, hg5, hk5⟩
        have hbx5 := hk5.blk hbx4 (by decide)
        have hv5 := hk5.blk hv4 (by decide)
        have hB5 := hB4.trans ((hk5.below hsz4).mono hNle)
        have hsz5 : N ≤ w5.heap.size := Nat.le_trans hsz4 hk5.size
        clear hg4 hbx4 hv4 hk5 b1 b2 b3 b4 b5 b6 HR
        rcases HC.out with h | ⟨n, cv, hxk, hn8, hP, hf1, hf2, h⟩
        · rw [h] at hg5
          have hev5 := wevents_any w5 hg5 (by omega)
          have HE := Lib.hid hev5
          clear hev5 h
          go_wp2_with fail
          refine HE.out.mono ?_
          rintro e w6 ⟨v6, rfl, hown6, hb6⟩
          obtain ⟨A6, c6, rfl, _⟩ := own_form hown6
          go_wp2
          go_roundw
          case rel => exact ⟨k + 1, ev, by omega, by go_num, hg5.below hb6, by omega, below_blk hb6 hv5, Nat.le_trans hsz5 hb6.size, hB5.trans (hb6.mono hB5.size)⟩
          case measure => simp [intOf]; omega
        · rw [h] at hg5
          have hlen : (ev ++ [bareEv x.k x.v]).length = ev.length + 1 := by simp
          have hev5 := wevents_any w5 hg5 (by omega)
          rw [hlen] at hev5
          have HE := Lib.hid hev5
          clear hev5 h hlen
          rw [laid_at m s v n hn8] at hP
          obtain rfl := Option.some.inj hP
          have hmn := hm n hn8
          have hf1 : flowsB x.pc (m n) = true := hf1
          have hf2 : flowsB x.v.label (m n) = true := hf2
          rw [hxk] at hbx5
          go_wp2_with fail
          refine HE.out.mono ?_
          rintro e w6 ⟨v6, rfl, hown6, hb6⟩
          obtain ⟨A6, c6, rfl, _⟩ := own_form hown6
          have hbx6 := below_blk hb6 hbx5
          have hv6 := below_blk hb6 hv5
          have b1 := cell_of_blk (i := 1) hbx6 rfl
          have b2 := cell_of_blk (i := 2) hbx6 rfl
          have b6 := cell_of_blk (i := 6) hbx6 rfl
          have bm : w6.cell? ⟨w.heap.size, n, none⟩ = some (.int .u64 (m n : Int)) := cell_of_blk hv6 (eight_arr (mv m) n hn8)
          have hne : ¬ ((ev.length : Int) + 1 = ev.length) := by omega
          have hn0 : ¬ (n : Int) < 0 := by omega
          have hn7 : ¬ 7 < (n : Int) := by omega
          have hn8' : (n : Int) < 8 := by omega
          have hn0' : (0 : Int) ≤ n := by omega
          have hwrap : IntKind.i64.wrap ((ev.length : Int) + 1) = (ev.length : Int) + 1 := IntWalk.i64_in _ (by omega)
          go_wp2
          go_quiet ((go_at_call 14; exact quiet_ret (rflows_any _ _ _ (by assumption) (by assumption))))
          go_wp2
          go_roundw
          case rel => exact ⟨k + 1, _, by omega, by go_num, (hg5.below hb6).drewN _, by simp; omega, hv6, Nat.le_trans hsz5 hb6.size, below_drewN (hB5.trans (hb6.mono hB5.size)) _⟩
          case measure => simp [intOf]; omega
      · obtain rfl : k = xs.length := by omega
        have hpl := wplaces_any wr hg
        have heq : ∀ w, (Op.equalIn 10000 56 (.agg #[iv (rdAt (laidTo m s v 8)) 0, iv (rdAt (laidTo m s v 8)) 1, iv (rdAt (laidTo m s v 8)) 2, iv (rdAt (laidTo m s v 8)) 3, iv (rdAt (laidTo m s v 8)) 4, iv (rdAt (laidTo m s v 8)) 5, iv (rdAt (laidTo m s v 8)) 6, iv (rdAt (laidTo m s v 8)) 7]) (.agg #[.int .i64 0, .int .i64 0, .int .i64 0, .int .i64 0, .int .i64 0, .int .i64 0, .int .i64 0, .int .i64 0])).run Try.prog w = .ok true w := fun w => (places_eq (rdAt (laidTo m s v 8)) (fun _ => 0) w).trans (by rw [laid_rd])
        unfold agg8 at hpl
        have HP := Lib.hid hpl
        clear hpl
        go_wp2_with fail
        refine HP.out.mono ?_
        rintro e w4 ⟨rfl, hb4⟩
        go_wp2
        go_ret
        exact ⟨rfl, hB.trans (hb4.mono hB.size)⟩
end Go.Proofs.Ytkdoohmchdpjoaa
