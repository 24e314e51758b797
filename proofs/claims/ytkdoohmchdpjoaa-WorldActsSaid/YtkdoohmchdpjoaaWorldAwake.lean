/-
  Chapter 23: the example; a world that nobody made.
-/
import Derived.Test.YtkdoohmchdpjoaaWorldOut
set_option linter.unusedVariables false
set_option linter.unusedSimpArgs false
namespace Go.Proofs.Ytkdoohmchdpjoaa
open Go.ChangeShapes Go.WideShapes Go.ChangeAt Go.RowKit

def awM : Nat → Nat
  | 0 => 1
  | _ => 0
def awS (b : Nat) : Nat → Sl Int
  | 0 => ⟨some ⟨b, 0, none⟩, 1, [7]⟩
  | _ => ⟨none, 0, []⟩
def awP (b : Nat) (v : Nat → Value) (r : Nat) : List CV := [⟨1, v 0, [7], r⟩, ⟨0, v 1, [], 0⟩, ⟨0, v 2, [], 0⟩, ⟨0, v 3, [], 0⟩, ⟨0, v 4, [], 0⟩, ⟨0, v 5, [], 0⟩, ⟨0, v 6, [], 0⟩, ⟨0, v 7, [], 0⟩]
theorem awP_ms (b : Nat) (v : Nat → Value) (r : Nat) : Ms (awP b v r) := by
  intro c hc
  simp [awP] at hc
  rcases hc with rfl | rfl | rfl | rfl | rfl | rfl | rfl | rfl <;> simp
set_option maxRecDepth 100000 in
set_option maxHeartbeats 1000000 in
theorem awake23 (w : World) : Calls Try.prog 21 #[] w (RetB (.bool true) w) := by
  have hsz : (w.alloc (.cells #[.int .i64 7] 2)).heap.size = w.heap.size + 1 := by simp
  have hs : InsOk (w.alloc (.cells #[.int .i64 7] 2)) (awS w.heap.size) := by
    refine ⟨fun k hk => ?_, fun k hk => ?_, fun k hk => ?_⟩
    · cases k with
      | zero => exact .inr ⟨_, rfl, by simp, fun j u hu => news_new w #[.int .i64 7] 2 _ rfl j u hu⟩
      | succ k => exact .inl rfl
    · cases k with
      | zero => intro h; cases h
      | succ k => intro _; exact ⟨rfl, rfl⟩
    · cases k with
      | zero => show 1 * 8 ≤ _; decide
      | succ k => show 0 * 8 ≤ _; decide
  have hnew : Calls Try.prog 23 #[.agg #[.int .u64 1, .int .u64 0, .int .u64 0, .int .u64 0, .int .u64 0, .int .u64 0, .int .u64 0, .int .u64 0], .agg #[.slice (some ⟨w.heap.size, 0, none⟩) 1 1, .slice none 0 0, .slice none 0 0, .slice none 0 0, .slice none 0 0, .slice none 0 0, .slice none 0 0, .slice none 0 0]] (w.alloc (.cells #[.int .i64 7] 2)) fun e w' => ∃ v : Nat → Value, e = .returned (.pointer (some ⟨w.heap.size + 1 + 1 + 1, 0, none⟩)) ∧ WorldIn w' (w.heap.size + 1) (w.heap.size + 1 + 1 + 1) (awP w.heap.size v 0) [] ∧ Below (w.heap.size + 1) (w.alloc (.cells #[.int .i64 7] 2)) w' :=
    wnew_walk awM (awS w.heap.size) (w.alloc (.cells #[.int .i64 7] 2)) (w.heap.size + 1) hsz hs
  clear hs
  have HN := Lib.hid hnew
  clear hnew hsz
  go_enter Try.func21, Try.ntmps21
  go_wp2_with (go_at_call 23; refine HN.out.mono ?_; rintro e w1 ⟨v, rfl, hw1, hb1⟩)
  have hb1' : Below w.heap.size w w1 := ((Below.refl _ _).alloc (Nat.le_refl _) _).trans (hb1.mono (by omega))
  have hsz1 := hb1.size
  have hr : Calls Try.prog 24 #[.pointer (some ⟨w.heap.size + 1 + 1 + 1, 0, none⟩), .int .u64 0, .int .i64 0] w1 fun e w' => e = .returned (.tuple #[.agg #[.int .i64 2, .int .i64 7, .string ByteArray.empty, .int .u64 1], .int .i64 0]) ∧ WorldIn w' (w.heap.size + 1) (w.heap.size + 1 + 1 + 1) (awP w.heap.size v 1) [] ∧ Keep (w.heap.size + 1) [93] w1 w' := by
    have h := wread_any 0 0 w1 hw1 (awP_ms _ _ _) (by decide) (by simp at hsz1; omega)
    rw [show readS (awP w.heap.size v 0) 0 0 = (awP w.heap.size v 1, ⟨2, 7, ByteArray.empty, 1⟩, 0) from by simp [readS, chOf, awP, flowsB]] at h
    exact h
  have HR := Lib.hid hr
  clear hr hw1 HN
  refine HR.out.mono ?_
  rintro e w2 ⟨rfl, hw2, hk2⟩
  have hb2 : Below w.heap.size w w2 := hb1'.trans (hk2.below (by simp at hsz1; omega) |>.mono (by omega))
  have hsz2 := hb2.size
  clear hb1 hb1' HR
  have hw2a := hw2.below ((Below.refl _ _).alloc (Nat.le_refl _) (.cells #[.int .i64 2, .int .i64 7, .string ByteArray.empty, .int .u64 1] 61))
  have hszA : (w2.alloc (.cells #[.int .i64 2, .int .i64 7, .string ByteArray.empty, .int .u64 1] 61)).heap.size = w2.heap.size + 1 := by simp
  have hx : (w2.alloc (.cells #[.int .i64 2, .int .i64 7, .string ByteArray.empty, .int .u64 1] 61)).heap[w2.heap.size]? = some (.cells #[.int .i64 2, .int .i64 7, .string ByteArray.empty, .int .u64 1] 61 (0, 0)) := heap_new_at _ _ _ rfl
  have hbA : Below w.heap.size w (w2.alloc (.cells #[.int .i64 2, .int .i64 7, .string ByteArray.empty, .int .u64 1] 61)) := hb2.alloc (by omega) _
  have hB3 : w.heap.size + 1 ≤ w2.heap.size := by have := hk2.size; simp at hsz1; omega
  have hwr : Calls Try.prog 26 #[.pointer (some ⟨w.heap.size + 1 + 1 + 1, 0, none⟩), .int .u64 0, .int .i64 1, .agg #[.int .i64 2, .int .i64 7, .string ByteArray.empty, .int .u64 1]] (w2.alloc (.cells #[.int .i64 2, .int .i64 7, .string ByteArray.empty, .int .u64 1] 61)) fun e w' => e = .returned (.int .i64 40) ∧ WorldIn w' (w.heap.size + 1) (w.heap.size + 1 + 1 + 1) (awP w.heap.size v 1) [] ∧ Keep (w.heap.size + 1) wTypes (w2.alloc (.cells #[.int .i64 2, .int .i64 7, .string ByteArray.empty, .int .u64 1] 61)) w' := by
    have h := wwrite_any 0 1 ⟨2, 7, ByteArray.empty, 1⟩ _ hw2a (awP_ms _ _ _) (by decide) (by decide) (by omega) (by decide)
    rw [show writeS (awP w.heap.size v 1) [] 0 1 ⟨2, 7, ByteArray.empty, 1⟩ = ([], 40) from by simp [writeS, chOf, awP, flowsB]] at h
    exact h
  have hwr2 : ∀ w3, WorldIn w3 (w.heap.size + 1) (w.heap.size + 1 + 1 + 1) (awP w.heap.size v 1) [] → w.heap.size + 1 ≤ w3.heap.size → Calls Try.prog 26 #[.pointer (some ⟨w.heap.size + 1 + 1 + 1, 0, none⟩), .int .u64 0, .int .i64 0, .agg #[.int .i64 2, .int .i64 7, .string ByteArray.empty, .int .u64 1]] w3 fun e w' => e = .returned (.int .i64 0) ∧ WorldIn w' (w.heap.size + 1) (w.heap.size + 1 + 1 + 1) (awP w.heap.size v 1) [⟨0, 2, 7, ByteArray.empty⟩] ∧ Keep (w.heap.size + 1) wTypes w3 w' := by
    intro w3 hw3 hs3
    have h := wwrite_any 0 0 ⟨2, 7, ByteArray.empty, 1⟩ w3 hw3 (awP_ms _ _ _) (by decide) (by decide) hs3 (by decide)
    rw [show writeS (awP w.heap.size v 1) [] 0 0 ⟨2, 7, ByteArray.empty, 1⟩ = ([⟨0, 2, 7, ByteArray.empty⟩], 0) from by simp [writeS, chOf, awP, flowsB, bareEv]] at h
    exact h
  have HW := Lib.hid hwr
  have HW2 := Lib.hid hwr2
  clear hwr hwr2 hw2 hw2a
  clear hsz1 hsz2 hszA
  go_wp2_with fail
  refine HW.out.mono ?_
  rintro e w3 ⟨rfl, hw3, hk3⟩
  have hx3 := hk3.blk hx (by decide)
  have c0 := cell_of_blk (i := 0) hx3 rfl
  have c1 := cell_of_blk (i := 1) hx3 rfl
  have c2 := cell_of_blk (i := 2) hx3 rfl
  have c3 := cell_of_blk (i := 3) hx3 rfl
  have h3 := hbA.trans ((hk3.below (by simp; omega)).mono (by omega))
  have hB4 : w.heap.size + 1 ≤ w3.heap.size := by have := hk3.size; simp at this; omega
  clear hx hbA hB3 hx3 hk2 hb2
  go_wp2_with fail
  refine (HW2.out _ hw3 hB4).mono ?_
  rintro e w4 ⟨rfl, hw4, hk4⟩
  have h4 := h3.trans ((hk4.below hB4).mono (by omega))
  clear hw3 c0 c1 c2 c3 hB4 h3
  go_wp2_with fail
  refine (wevents_any _ hw4 (by simp)).mono ?_
  rintro e w5 ⟨v5, rfl, hown5, hb5⟩
  obtain ⟨A5, c5, rfl, _⟩ := own_form hown5
  go_wp2
  go_ret
  exact ⟨rfl, h4.trans (hb5.mono h4.size)⟩
end Go.Proofs.Ytkdoohmchdpjoaa
