/-
  Chapter 23: Places of a world that somebody made.
-/
import Derived.Test.YtkdoohmchdpjoaaWorldFew
import Derived.Deep.MidRow
set_option linter.unusedVariables false
set_option linter.unusedSimpArgs false
namespace Go.Proofs.Ytkdoohmchdpjoaa
open Go.ChangeShapes Go.WideShapes Go.ChangeAt Go.RowKit

theorem eight_of {α : Type} {P : List α} (d : α) (h : P.length = 8) : P = eight fun k => P[k]?.getD d := by
  match P, h with
  | [a, b, c, d, e, f, g, i], _ => rfl
def chAt (P : List CV) (k : Nat) : CV := P[k]?.getD zeroCV
def rdAt (P : List CV) (k : Nat) : Int := ((chAt P k).read : Int)
theorem isAgg_channel (w : World) : (isAgg 90).run Try.prog w = .ok true w := by kernel_rfl
theorem sizeOf_channel (w : World) : (sizeOf 90).run Try.prog w = .ok 3 w := by kernel_rfl
def chCells (f : Nat → CV) : Array Value := #[.int .u64 ((f 0).mask : Int), (f 0).v, .int .i64 ((f 0).read : Int), .int .u64 ((f 1).mask : Int), (f 1).v, .int .i64 ((f 1).read : Int), .int .u64 ((f 2).mask : Int), (f 2).v, .int .i64 ((f 2).read : Int), .int .u64 ((f 3).mask : Int), (f 3).v, .int .i64 ((f 3).read : Int), .int .u64 ((f 4).mask : Int), (f 4).v, .int .i64 ((f 4).read : Int), .int .u64 ((f 5).mask : Int), (f 5).v, .int .i64 ((f 5).read : Int), .int .u64 ((f 6).mask : Int), (f 6).v, .int .i64 ((f 6).read : Int), .int .u64 ((f 7).mask : Int), (f 7).v, .int .i64 ((f 7).read : Int)]
theorem chCells_at (f : Nat → CV) (k : Nat) (hk : k < 8) : (chCells f).extract (k * 3) (k * 3 + 3) = #[.int .u64 ((f k).mask : Int), (f k).v, .int .i64 ((f k).read : Int)] := by
  match k, hk with
  | 0, _ => rfl
  | 1, _ => rfl
  | 2, _ => rfl
  | 3, _ => rfl
  | 4, _ => rfl
  | 5, _ => rfl
  | 6, _ => rfl
  | 7, _ => rfl
/-- Eight places of which k are laid. -/
def laidP (f : Nat → CV) (k i : Nat) : Value := .int .i64 (if i < k then ((f i).read : Int) else 0)
theorem laidP_succ (f : Nat → CV) (k : Nat) (hk : k < 8) : #[laidP f k 0, laidP f k 1, laidP f k 2, laidP f k 3, laidP f k 4, laidP f k 5, laidP f k 6, laidP f k 7].setIfInBounds k (.int .i64 ((f k).read : Int)) = #[laidP f (k + 1) 0, laidP f (k + 1) 1, laidP f (k + 1) 2, laidP f (k + 1) 3, laidP f (k + 1) 4, laidP f (k + 1) 5, laidP f (k + 1) 6, laidP f (k + 1) 7] := by
  match k, hk with
  | 0, _ => rfl
  | 1, _ => rfl
  | 2, _ => rfl
  | 3, _ => rfl
  | 4, _ => rfl
  | 5, _ => rfl
  | 6, _ => rfl
  | 7, _ => rfl
set_option maxRecDepth 100000 in
set_option maxHeartbeats 2000000 in
theorem wplaces_any {B g : Nat} {P : List CV} {ev : List Ev} (w : World) (hw : WorldIn w B g P ev) :
    Calls Try.prog 30 #[.pointer (some ⟨g, 0, none⟩)] w (RetB (agg8 (iv (rdAt P))) w) := by
  obtain ⟨f, hf⟩ : ∃ f, f = chAt P := ⟨_, rfl⟩
  have hP : P = eight f := by rw [hf]; exact eight_of zeroCV hw.eight
  obtain ⟨v0, hb, _⟩ := hw.own
  have hform : ∀ k : Nat, k < 8 → ∃ A n c, (f k).v = .slice A n c := by
    intro k hk
    obtain ⟨A, c, e, _⟩ := own_form (hw.ins (f k) (List.mem_of_getElem? (i := k) (by rw [hP]; exact eight_at f k hk)))
    exact ⟨A, _, c, e⟩
  have hgl := hw.glt
  rw [hP] at hb
  have hc : ∀ (j : Nat) u, (chCells f)[j]? = some u → w.cell? ⟨g, j, none⟩ = some u := fun j u hu => cell_of_blk hb (by
    have hj : j < 24 := (Array.getElem?_eq_some_iff.1 hu).1
    rw [List.getElem?_toArray, List.getElem?_append_left (by simp [eight, chEnc]; omega)]
    have : ((eight f).flatMap chEnc) = (chCells f).toList := rfl
    rw [this, Array.getElem?_toList]
    exact hu)
  have hra : ((w.alloc (.cells #[.int .i64 0, .int .i64 0, .int .i64 0, .int .i64 0, .int .i64 0, .int .i64 0, .int .i64 0, .int .i64 0] 56)).alloc (.cells #[.int .i64 0, .int .i64 0, .int .i64 0, .int .i64 0, .int .i64 0, .int .i64 0, .int .i64 0, .int .i64 0] 56)).rangeAt g 0 (chCells f).toList := World.rangeAt_alloc (World.rangeAt_alloc (fun j v hv => by rw [Nat.zero_add]; exact hc j v (by rw [← Array.getElem?_toList]; exact hv)) _) _
  have hix : ∀ k : Nat, k < 8 → ∀ W, (Instr.index 91 (.agg (chCells f)) (.int .i64 (k : Int))).run Try.prog W = .ok (.agg #[.int .u64 ((f k).mask : Int), (f k).v, .int .i64 ((f k).read : Int)]) W := by
    intro k hk W
    rw [run_index_agg _ _ 8 3 _ k Try.underlying91 isAgg_channel sizeOf_channel hk, chCells_at f k hk]
  have HX := Lib.hid hix
  have HF := Lib.hid hform
  have HE := Lib.hid hf
  clear hform hf hc hb hP hw hix
  go_enter Try.func30, Try.ntmps30
  go_wp2_with (refine wpList_load_mid rfl 91 _ rfl g 0 rfl (chCells f).toList _ hra Try.underlying91 rfl (by rfl) ?_)
  obtain ⟨N, hN⟩ : ∃ N, N = w.heap.size := ⟨_, rfl⟩
  have hs1 : (w.alloc (.cells #[.int .i64 0, .int .i64 0, .int .i64 0, .int .i64 0, .int .i64 0, .int .i64 0, .int .i64 0, .int .i64 0] 56)).heap.size = N + 1 := by simp [hN]
  have hs2 : ((w.alloc (.cells #[.int .i64 0, .int .i64 0, .int .i64 0, .int .i64 0, .int .i64 0, .int .i64 0, .int .i64 0, .int .i64 0] 56)).alloc (.cells #[.int .i64 0, .int .i64 0, .int .i64 0, .int .i64 0, .int .i64 0, .int .i64 0, .int .i64 0, .int .i64 0] 56)).heap.size = N + 1 + 1 := by simp [hN]
  have hx0 : ((w.alloc (.cells #[.int .i64 0, .int .i64 0, .int .i64 0, .int .i64 0, .int .i64 0, .int .i64 0, .int .i64 0, .int .i64 0] 56)).alloc (.cells #[.int .i64 0, .int .i64 0, .int .i64 0, .int .i64 0, .int .i64 0, .int .i64 0, .int .i64 0, .int .i64 0] 56)).heap[N]? = some (.cells #[.int .i64 0, .int .i64 0, .int .i64 0, .int .i64 0, .int .i64 0, .int .i64 0, .int .i64 0, .int .i64 0] 56 (0, 0)) := blk_alloc (heap_new_at _ _ _ hN.symm) _
  have hx1 : ((w.alloc (.cells #[.int .i64 0, .int .i64 0, .int .i64 0, .int .i64 0, .int .i64 0, .int .i64 0, .int .i64 0, .int .i64 0] 56)).alloc (.cells #[.int .i64 0, .int .i64 0, .int .i64 0, .int .i64 0, .int .i64 0, .int .i64 0, .int .i64 0, .int .i64 0] 56)).heap[N + 1]? = some (.cells #[.int .i64 0, .int .i64 0, .int .i64 0, .int .i64 0, .int .i64 0, .int .i64 0, .int .i64 0, .int .i64 0] 56 (0, 0)) := heap_new_at _ _ _ hs1
  have hbw : Below w.heap.size w ((w.alloc (.cells #[.int .i64 0, .int .i64 0, .int .i64 0, .int .i64 0, .int .i64 0, .int .i64 0, .int .i64 0, .int .i64 0] 56)).alloc (.cells #[.int .i64 0, .int .i64 0, .int .i64 0, .int .i64 0, .int .i64 0, .int .i64 0, .int .i64 0, .int .i64 0] 56)) := ((Below.refl _ _).alloc (Nat.le_refl _) _).alloc (by simp) _
  clear hra
  rw [← hN] at hbw ⊢
  have HN := Lib.hid hN
  clear hN hs1
  go_loopw [4, 5, 12] (fun _ _ i wr => ∃ (k : Nat), k ≤ 8 ∧ i = .int .i64 k ∧ wr.heap[N]? = some (.cells #[.int .i64 0, .int .i64 0, .int .i64 0, .int .i64 0, .int .i64 0, .int .i64 0, .int .i64 0, .int .i64 0] 56 (0, 0)) ∧ wr.heap[N + 1]? = some (.cells #[laidP f k 0, laidP f k 1, laidP f k 2, laidP f k 3, laidP f k 4, laidP f k 5, laidP f k 6, laidP f k 7] 56 (0, 0)) ∧ Below N w wr) (fun _ _ i _ => 8 - (intOf i).toNat)
  case atStart => exact ⟨0, by omega, rfl, hx0, hx1, hbw⟩
  case round =>
    clear hx0 hx1 hbw hs2
    obtain ⟨k, hk, rfl, hx0, hx1, hB⟩ := hrel
    have hl0 := blk_lt hx0
    have hl1 := blk_lt hx1
    by_cases hlt : k < 8
    · have hixk := HX.out k hlt
      obtain ⟨A, n, c, hv⟩ := HF.out k hlt
      rw [hv] at hixk
      have hc1 : wr.cell? ⟨N + 1, k, none⟩ = some (laidP f k k) := cell_of_blk hx1 (eight_arr (laidP f k) k hlt)
      have hf1 : wr.frozen? ⟨N + 1, k, none⟩ = false := free_of_blk hx1
      have hki : (k : Int) < 8 := by omega
      have hk0 : (0 : Int) ≤ k := by omega
      go_wp2
      go_roundw
      have hy := blk_set (i := k) hx1 (.int .i64 ((f k).read : Int))
      rw [laidP_succ f k hlt] at hy
      case rel => exact ⟨k + 1, by omega, by go_num, blk_alloc (blk_far hx0 (by simp) _) _, blk_alloc hy _, (hB.setCell (by simp) _).alloc (by rw [set_size]; omega) _⟩
      case measure => simp [intOf]; omega
    · obtain rfl : k = 8 := by omega
      have hx1' : wr.heap[N + 1]? = some (.cells #[.int .i64 ((f 0).read : Int), .int .i64 ((f 1).read : Int), .int .i64 ((f 2).read : Int), .int .i64 ((f 3).read : Int), .int .i64 ((f 4).read : Int), .int .i64 ((f 5).read : Int), .int .i64 ((f 6).read : Int), .int .i64 ((f 7).read : Int)] 56 (0, 0)) := hx1
      clear hx1
      have c0 := cell_of_blk (i := 0) hx0 rfl
      have g0 := free_of_blk (i := 0) hx0
      have c1 := cell_of_blk (i := 1) hx0 rfl
      have g1 := free_of_blk (i := 1) hx0
      have c2 := cell_of_blk (i := 2) hx0 rfl
      have g2 := free_of_blk (i := 2) hx0
      have c3 := cell_of_blk (i := 3) hx0 rfl
      have g3 := free_of_blk (i := 3) hx0
      have c4 := cell_of_blk (i := 4) hx0 rfl
      have g4 := free_of_blk (i := 4) hx0
      have c5 := cell_of_blk (i := 5) hx0 rfl
      have g5 := free_of_blk (i := 5) hx0
      have c6 := cell_of_blk (i := 6) hx0 rfl
      have g6 := free_of_blk (i := 6) hx0
      have c7 := cell_of_blk (i := 7) hx0 rfl
      have g7 := free_of_blk (i := 7) hx0
      go_wp2_with (refine wpList_load_row rfl 56 _ rfl (N + 1) rfl 56 _ (0, 0) _ hx1' Try.underlying56 rfl (by rfl) ?_)
      refine bodyPost_ret (v := .agg #[.int .i64 ((f 0).read : Int), .int .i64 ((f 1).read : Int), .int .i64 ((f 2).read : Int), .int .i64 ((f 3).read : Int), .int .i64 ((f 4).read : Int), .int .i64 ((f 5).read : Int), .int .i64 ((f 6).read : Int), .int .i64 ((f 7).read : Int)]) (by simp [results, Try.results30, go_sem, c0, c1, c2, c3, c4, c5, c6, c7]) rfl ⟨?_, ?_⟩
      · have e := HE.out
        subst e
        rfl
      · rw [← HN.out]
        exact ((((((((hB.setCell (Nat.le_refl N) _).setCell (Nat.le_refl N) _).setCell (Nat.le_refl N) _).setCell (Nat.le_refl N) _).setCell (Nat.le_refl N) _).setCell (Nat.le_refl N) _).setCell (Nat.le_refl N) _).setCell (Nat.le_refl N) _)
end Go.Proofs.Ytkdoohmchdpjoaa
