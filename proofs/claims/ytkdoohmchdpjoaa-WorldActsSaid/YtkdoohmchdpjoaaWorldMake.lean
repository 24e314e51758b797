/-
  Chapter 23: world.New walked.
-/
import Derived.Test.YtkdoohmchdpjoaaWorldNew
set_option linter.unusedVariables false
set_option linter.unusedSimpArgs false
namespace Go.Proofs.Ytkdoohmchdpjoaa
open Go.ChangeShapes Go.WideShapes Go.ChangeAt Go.RowKit

def mv (m : Nat → Nat) (k : Nat) : Value := .int .u64 (m k : Int)
def sv (s : Nat → Sl Int) (k : Nat) : Value := .slice (s k).A (s k).xs.length (s k).cap
/-- An array of eight by value. -/
def agg8 (f : Nat → Value) : Value := .agg #[f 0, f 1, f 2, f 3, f 4, f 5, f 6, f 7]

theorem Reads.mono {w : World} {B B' : Nat} {A : Option Addr} {xs : List Value} (h : Reads w B A xs) (hb : B ≤ B') : Reads w B' A xs :=
  h.imp id fun ⟨ad, h1, h2, h3⟩ => ⟨ad, h1, Nat.lt_of_lt_of_le h2 hb, h3⟩
theorem own_base {w : World} {B B' : Nat} {e : TypeId} {size n : Nat} {v : Value} {xs : List Value} (h : w.ownsRow B e size v n xs) (hb : B' ≤ B) : w.ownsRow B' e size v n xs :=
  ⟨h.1, h.2.imp id fun ⟨g, cap, cur, hv, hg, r⟩ => ⟨g, cap, cur, hv, Nat.le_trans hb hg, r⟩⟩
set_option maxRecDepth 100000 in
set_option maxHeartbeats 2000000 in
theorem wnew_walk (m : Nat → Nat) (s : Nat → Sl Int) (w : World) (N : Nat) (hN : w.heap.size = N) (hs : InsOk w s) :
    Calls Try.prog 23 #[agg8 (mv m), agg8 (sv s)] w fun e w' => ∃ v : Nat → Value, e = .returned (.pointer (some ⟨N + 1 + 1, 0, none⟩)) ∧ WorldIn w' N (N + 1 + 1) (laidTo m s v 8) [] ∧ Below N w w' := by
  unfold agg8
  go_enter Try.func23, Try.ntmps23
  go_wp2
  have HN := Lib.hid hN
  have hs1 : (w.alloc (.cells #[mv m 0, mv m 1, mv m 2, mv m 3, mv m 4, mv m 5, mv m 6, mv m 7] 47)).heap.size = N + 1 := by simp [hN]
  have hs2 : ((w.alloc (.cells #[mv m 0, mv m 1, mv m 2, mv m 3, mv m 4, mv m 5, mv m 6, mv m 7] 47)).alloc (.cells #[sv s 0, sv s 1, sv s 2, sv s 3, sv s 4, sv s 5, sv s 6, sv s 7] 50)).heap.size = N + 1 + 1 := by simp [hN]
  have hbase : Below N w (w.alloc (.cells #[mv m 0, mv m 1, mv m 2, mv m 3, mv m 4, mv m 5, mv m 6, mv m 7] 47)) := (Below.refl N w).alloc (by omega) _
  clear hN
  go_loopw [6, 7, 11] (fun _ _ i wr => ∃ (k : Nat) (v : Nat → Value), k ≤ 8 ∧ i = .int .i64 k ∧ WorldIn wr N (N + 1 + 1) (laidTo m s v k) [] ∧ wr.heap[N + 1]? = some (.cells #[sv s 0, sv s 1, sv s 2, sv s 3, sv s 4, sv s 5, sv s 6, sv s 7] 50 (0, 0)) ∧ Below N w wr) (fun _ _ i _ => 8 - (intOf i).toNat)
  case atStart =>
    refine ⟨0, fun _ => .int .i64 0, by omega, rfl, ⟨by omega, rfl, ⟨.slice none 0 0, heap_new_at _ _ _ hs2, World.ownsRow_nil _ _ _ _⟩, ?_⟩, blk_alloc (heap_new_at _ _ _ hs1) _, (hbase.alloc (by omega) _).alloc (by omega) _⟩
    intro c hc
    simp [laidTo, eight, zeroCV] at hc
    subst hc
    exact World.ownsRow_nil _ _ _ _
  case round =>
    clear hs1 hs2 hbase
    obtain ⟨k, v, hk, rfl, hw, hb, hB⟩ := hrel
    have hszN := hB.size
    by_cases hlt : k < 8
    · have hix : ∀ W, (Instr.index 47 (.agg #[mv m 0, mv m 1, mv m 2, mv m 3, mv m 4, mv m 5, mv m 6, mv m 7]) (.int .i64 (k : Int))).run Try.prog W = .ok (.int .u64 (m k : Int)) W := run_index_one _ _ 8 _ k _ Try.underlying47 isAgg_label sizeOf_label hlt (eight_arr (mv m) k hlt)
      have hc0 : wr.cell? ⟨N + 1, k, none⟩ = some (sv s k) := cell_of_blk hb (eight_arr (sv s) k hlt)
      have hki : (k : Int) < 8 := by omega
      have hk0 : (0 : Int) ≤ k := by omega
      have hbw := blk_lt hb
      have hrk := hs.reads k hlt
      rw [HN.out] at hrk
      have hszN' : N ≤ wr.drew.heap.size := by have := HN.out; show N ≤ wr.heap.size; omega
      have hcl := clone_ints (s k).A (s k).xs.length (s k).cap (intCells (s k).xs) wr.drew ((hrk.below hB).mono hszN') (by simp [intCells]) (intCells_one _) (by have := hs.none_ k hlt; intro h; have := this h; simp [this]) (hs.room k hlt)
      unfold sv at hc0
      go_upto_region 5 with (fail)
      have hclosed := Lib.hid hcl
      clear hcl hrk
      have hP : (laidTo m s v k)[k]? = some zeroCV := by
        unfold laidTo
        rw [eight_at _ k hlt, if_neg (Nat.lt_irrefl k)]
      have HP := Lib.hid hP
      clear hP
      have hcW : wr.drew.cell? ⟨N + 1, k, none⟩ = some (.slice (s k).A (s k).xs.length (s k).cap) := hc0
      go_region_held3 (fun w' => w'.cell? ⟨N + 1, k, none⟩ = some (.slice (s k).A (s k).xs.length (s k).cap)) (first | go_keep | exact hc2)
        ((first
          | (go_at_call 36; refine hclosed.out.mono ?_; rintro e w2 ⟨v2, rfl, hown2, hB2⟩; obtain ⟨A2, c2, rfl, _⟩ := own_form hown2; obtain ⟨ca, cb, cc⟩ := (hw.drew.below hB2).cellsAt HP.out; obtain ⟨fa, fb, fc⟩ := (hw.drew.below hB2).freeAt k; have hc2 : w2.cell? ⟨N + 1, k, none⟩ = some (.slice (s k).A (s k).xs.length (s k).cap) := cell_of_blk (below_blk hB2 hb) (eight_arr (sv s) k hlt))))
      go_wp2
      have hins : w2.ownsRow N 2 1 (.slice A2 (s k).xs.length c2) (s k).xs.length (intCells (s k).xs) := own_base hown2 hszN'
      have hW2 := WorldIn.set3 (hw.drew.below hB2) HP.out ⟨m k, .slice A2 (s k).xs.length c2, (s k).xs, 0⟩ hins
      rw [← laidTo_succ m s v k hlt] at hW2
      have hb2 := below_blk hB2 (blk_drew hb)
      have hBB : Below N w w2 := (below_drewN hB 1).trans (hB2.mono hszN')
      go_roundw
      case rel => exact ⟨k + 1, _, by omega, by go_num, hW2, blk_far (blk_far (blk_far hb2 (by simp) _) (by simp) _) (by simp) _, ((hBB.setCell (by simp; omega) _).setCell (by simp; omega) _).setCell (by simp; omega) _⟩
      case measure => simp [intOf]; omega
    · obtain rfl : k = 8 := by omega
      go_wp2
      go_ret
      exact ⟨v, rfl, hw, hB⟩
end Go.Proofs.Ytkdoohmchdpjoaa
