/-
 HeapApart: part 11 of what the claim rests on.
-/
import Derived.Test.YtilcofpceadpbaaGreatDoorA01
import Derived.Test.YtilcofpceadpbaaGreatDoorA09
import Derived.Test.YtilcofpceadpbaaGreatDoorA10
import Derived.BigQuiet
import Derived.Deep.RegionHeld3
import Derived.RangeFuncNested
import Derived.RangeFuncLeaves
import Derived.RangeFuncBox
import Derived.Shelf.Abstract
import Derived.Shelf.RegionOpen
import Derived.WalkKit
import Derived.OwnWalkIn
import Derived.TacticsInMore
import Derived.LoopNIn
import Derived.LoopIn
import Derived.Maps.AppendAt
set_option linter.unusedVariables false
set_option linter.unusedSimpArgs false
set_option maxHeartbeats 64000000
namespace Go.Proofs.YtilcofpceadpbaaGreatDoor
open Go.ChangeShapes Go.WideShapes Go.ChangeAt Go.RowKit

def checkV (v : VV) : Bool := (v.s.toList.isEmpty || v.kind == 3) && (if v.kind = 2 then true else if v.kind = 1 then (v.n == 0 || v.n == 1) else if v.kind = 0 ∨ v.kind = 3 then v.n == 0 else decide (3 < v.kind ∧ v.kind ≤ 6 ∧ 0 ≤ v.n))
theorem kind_cases (k : Int) : k < 0 ∨ k = 0 ∨ k = 1 ∨ k = 2 ∨ k = 3 ∨ k = 4 ∨ k = 5 ∨ k = 6 ∨ 6 < k := by omega
theorem vbytes_none {s : ByteArray} (h : s.size = 0) : s.toList = [] ∧ s.toList.isEmpty = true := by
 have : s.toList = [] := by
  rw [ByteArray.toList_eq]
  exact List.eq_nil_of_length_eq_zero (by simpa using h)
 exact ⟨this, by rw [this]; rfl⟩
theorem vbytes_some {s : ByteArray} (h : ¬ s.size = 0) : ¬ s.toList = [] ∧ s.toList.isEmpty = false := by
 have : ¬ s.toList = [] := by
  rw [ByteArray.toList_eq]
  intro e
  exact h (by simpa using congrArg List.length e)
 refine ⟨this, ?_⟩
 cases h2 : s.toList with
 | nil => exact absurd h2 this
 | cons x l => rfl
theorem bytes_em (s : ByteArray) : (s.toList = [] ∧ s.toList.isEmpty = true) ∨ (¬ s.toList = [] ∧ s.toList.isEmpty = false) :=
 (Classical.em (s.size = 0)).imp vbytes_none vbytes_some
set_option maxRecDepth 100000 in
theorem check_any (v : VV) (w : World) : Calls Tryz.prog 81 #[.agg (vvCells v)] w (RetB (.bool (checkV v)) w) := by
 obtain ⟨k, n, s, l⟩ := v
 unfold vvCells checkV
 have hb0 : Below w.heap.size w (w.alloc (.cells #[.int .i64 k, .int .i64 n, .string s, .int .u64 (l : Int)] 26)) := (Below.refl _ _).alloc (Nat.le_refl _) _
 have HB0 := Lib.hid hb0
 clear hb0
 rcases bytes_em s with ⟨z1, z2⟩ | ⟨z1, z2⟩
 all_goals obtain h | rfl | rfl | rfl | rfl | rfl | rfl | rfl | h := kind_cases k
 all_goals
  go_enter Tryz.func81, Tryz.ntmps81
  go_wp2
  all_goals
   go_ret
   exact ⟨ret_bool (by first | rfl | (simp_all; done) | (simp_all; omega)), by first | exact HB0.out | exact (Below.refl _ _).alloc (Nat.le_refl _) _⟩
set_option maxRecDepth 100000 in
theorem rcheck_any (v : VV) (w : World) : Calls Tryz.prog 118 #[.agg (vvCells v)] w (RetB (.bool (checkV v)) w) := by
 obtain ⟨k, n, s, l⟩ := v
 unfold vvCells checkV
 have hb0 : Below w.heap.size w (w.alloc (.cells #[.int .i64 k, .int .i64 n, .string s, .int .u64 (l : Int)] 26)) := (Below.refl _ _).alloc (Nat.le_refl _) _
 have HB0 := Lib.hid hb0
 clear hb0
 rcases bytes_em s with ⟨z1, z2⟩ | ⟨z1, z2⟩
 all_goals obtain h | rfl | rfl | rfl | rfl | rfl | rfl | rfl | h := kind_cases k
 all_goals
  go_enter Tryz.func118, Tryz.ntmps118
  go_wp2
  all_goals
   go_ret
   exact ⟨ret_bool (by first | rfl | (simp_all; done) | (simp_all; omega)), by first | exact HB0.out | exact (Below.refl _ _).alloc (Nat.le_refl _) _⟩
end Go.Proofs.YtilcofpceadpbaaGreatDoor
namespace Go.Proofs.YtilcofpceadpbaaGreatDoor
open Go.ChangeShapes Go.WideShapes Go.ChangeAt Go.RowKit Go.Maps

theorem tlen_any {w : World} {B tb : Nat} {T : TabS} {fp : List Nat} (h : TabIn w B tb T fp) : Calls Tryz.prog 19 #[.pointer (some ⟨tb, 0, none⟩)] w (Ret (.int .i64 (T.F.length : Int)) w) := by
 obtain ⟨⟨fv, sv, mb, nb, n, m, D, E, _, h1, h2, _⟩, _⟩ := h
 obtain ⟨A, c, rfl, _⟩ := own_form h2
 have c1 : w.cell? ⟨tb, 1, none⟩ = some (.slice A T.F.length c) := cell_of_blk h1 rfl
 clear h1 h2
 go_enter Tryz.func19, Tryz.ntmps19
 go_wp2
 go_ret
 exact ⟨rfl, rfl⟩
theorem tlabel_any {w : World} {B tb : Nat} {T : TabS} {fp : List Nat} (h : TabIn w B tb T fp) : Calls Tryz.prog 45 #[.pointer (some ⟨tb, 0, none⟩)] w (Ret (.int .u64 (T.l : Int)) w) := by
 obtain ⟨⟨fv, sv, mb, nb, n, m, D, E, _, h1, _⟩, _⟩ := h
 have c1 : w.cell? ⟨tb, 0, none⟩ = some (.int .u64 (T.l : Int)) := cell_of_blk h1 rfl
 clear h1
 go_enter Tryz.func45, Tryz.ntmps45
 go_wp2
 go_ret
 exact ⟨rfl, rfl⟩
def isKey (v : VV) : Bool := (decide (v.kind = 2) || decide (v.kind = 3)) && checkV v
set_option maxRecDepth 100000 in
theorem keyof_any (v : VV) (w : World) : Calls Tryz.prog 87 #[.agg (vvCells v)] w fun e w' => e = .returned (.tuple #[if isKey v = true then keyV v.n v.s (decide (v.kind = 3)) else keyV 0 ⟨#[]⟩ false, .bool (isKey v)]) ∧ Below w.heap.size w w' := by
 have hc := fun W => check_any v W
 obtain ⟨k, n, s, l⟩ := v
 have HB := Lib.hid (((Below.refl w.heap.size w).alloc (Nat.le_refl _) (.cells #[.int .i64 k, .int .i64 n, .string s, .int .u64 (l : Int)] 26)).alloc (by simp) (.cells #[.int .i64 0, .string ⟨#[]⟩, .bool false] 139))
 unfold isKey keyV
 unfold vvCells at hc ⊢
 generalize checkV ⟨k, n, s, l⟩ = β at hc ⊢
 have hC := Lib.hid hc
 clear hc
 dsimp only at hC ⊢
 by_cases k2 : k = 2
 ·subst k2
  cases β
  case false =>
   go_enter Tryz.func87, Tryz.ntmps87
   go_wp2_with fail
   refine (hC.out _).mono ?_
   rintro e w1 ⟨rfl, hb1⟩
   have u0 := below_blk hb1 (blk_alloc (heap_alloc_new w _) _)
   have u1 := below_blk hb1 (heap_new_at _ _ (w.heap.size + 1) (by simp))
   have f0 := cell_of_blk (i := 0) u0 rfl
   have f1 := cell_of_blk (i := 1) u0 rfl
   have f2 := cell_of_blk (i := 2) u0 rfl
   have f3 := cell_of_blk (i := 3) u0 rfl
   have g0 := cell_of_blk (i := 0) u1 rfl
   have g1 := cell_of_blk (i := 1) u1 rfl
   have g2 := cell_of_blk (i := 2) u1 rfl
   have z0 := free_of_blk (i := 0) u1
   have z1 := free_of_blk (i := 1) u1
   have z2 := free_of_blk (i := 2) u1
   have l1 := blk_lt u1
   have HB1 := Lib.hid (HB.out.trans (hb1.mono (by simp; omega)))
   have U1 := Lib.hid u1
   clear u0 u1 hb1
   go_wp2
   exact bodyPost_ret (v := .tuple #[.agg #[.int .i64 0, .string ⟨#[]⟩, .bool false], .bool false]) (by simp [results, Tryz.results87, go_sem, Lib.cell_of_heap (blk_set (blk_set (blk_set U1.out _) _) _), f0]) rfl ⟨by first | rfl | simp, (by repeat' (first | exact HB1.out | refine Below.setCell ?_ ?_ _ | (simp; done) | (simp; omega)))⟩
  case true =>
   go_enter Tryz.func87, Tryz.ntmps87
   go_wp2_with fail
   refine (hC.out _).mono ?_
   rintro e w1 ⟨rfl, hb1⟩
   have u0 := below_blk hb1 (blk_alloc (heap_alloc_new w _) _)
   have u1 := below_blk hb1 (heap_new_at _ _ (w.heap.size + 1) (by simp))
   have f0 := cell_of_blk (i := 0) u0 rfl
   have f1 := cell_of_blk (i := 1) u0 rfl
   have f2 := cell_of_blk (i := 2) u0 rfl
   have f3 := cell_of_blk (i := 3) u0 rfl
   have g0 := cell_of_blk (i := 0) u1 rfl
   have g1 := cell_of_blk (i := 1) u1 rfl
   have g2 := cell_of_blk (i := 2) u1 rfl
   have z0 := free_of_blk (i := 0) u1
   have z1 := free_of_blk (i := 1) u1
   have z2 := free_of_blk (i := 2) u1
   have l1 := blk_lt u1
   have HB1 := Lib.hid (HB.out.trans (hb1.mono (by simp; omega)))
   have U1 := Lib.hid u1
   clear u0 u1 hb1
   go_wp2
   exact bodyPost_ret (v := .tuple #[.agg #[.int .i64 n, .string s, .bool false], .bool true]) (by simp [results, Tryz.results87, go_sem, Lib.cell_of_heap (blk_set (blk_set (blk_set U1.out _) _) _), f0]) rfl ⟨by first | rfl | simp, (by repeat' (first | exact HB1.out | refine Below.setCell ?_ ?_ _ | (simp; done) | (simp; omega)))⟩
 by_cases k3 : k = 3
 ·subst k3
  cases β
  case false =>
   go_enter Tryz.func87, Tryz.ntmps87
   go_wp2_with fail
   refine (hC.out _).mono ?_
   rintro e w1 ⟨rfl, hb1⟩
   have u0 := below_blk hb1 (blk_alloc (heap_alloc_new w _) _)
   have u1 := below_blk hb1 (heap_new_at _ _ (w.heap.size + 1) (by simp))
   have f0 := cell_of_blk (i := 0) u0 rfl
   have f1 := cell_of_blk (i := 1) u0 rfl
   have f2 := cell_of_blk (i := 2) u0 rfl
   have f3 := cell_of_blk (i := 3) u0 rfl
   have g0 := cell_of_blk (i := 0) u1 rfl
   have g1 := cell_of_blk (i := 1) u1 rfl
   have g2 := cell_of_blk (i := 2) u1 rfl
   have z0 := free_of_blk (i := 0) u1
   have z1 := free_of_blk (i := 1) u1
   have z2 := free_of_blk (i := 2) u1
   have l1 := blk_lt u1
   have HB1 := Lib.hid (HB.out.trans (hb1.mono (by simp; omega)))
   have U1 := Lib.hid u1
   clear u0 u1 hb1
   go_wp2
   exact bodyPost_ret (v := .tuple #[.agg #[.int .i64 0, .string ⟨#[]⟩, .bool false], .bool false]) (by simp [results, Tryz.results87, go_sem, Lib.cell_of_heap (blk_set (blk_set (blk_set U1.out _) _) _), f0]) rfl ⟨by first | rfl | simp, (by repeat' (first | exact HB1.out | refine Below.setCell ?_ ?_ _ | (simp; done) | (simp; omega)))⟩
  case true =>
   go_enter Tryz.func87, Tryz.ntmps87
   go_wp2_with fail
   refine (hC.out _).mono ?_
   rintro e w1 ⟨rfl, hb1⟩
   have u0 := below_blk hb1 (blk_alloc (heap_alloc_new w _) _)
   have u1 := below_blk hb1 (heap_new_at _ _ (w.heap.size + 1) (by simp))
   have f0 := cell_of_blk (i := 0) u0 rfl
   have f1 := cell_of_blk (i := 1) u0 rfl
   have f2 := cell_of_blk (i := 2) u0 rfl
   have f3 := cell_of_blk (i := 3) u0 rfl
   have g0 := cell_of_blk (i := 0) u1 rfl
   have g1 := cell_of_blk (i := 1) u1 rfl
   have g2 := cell_of_blk (i := 2) u1 rfl
   have z0 := free_of_blk (i := 0) u1
   have z1 := free_of_blk (i := 1) u1
   have z2 := free_of_blk (i := 2) u1
   have l1 := blk_lt u1
   have HB1 := Lib.hid (HB.out.trans (hb1.mono (by simp; omega)))
   have U1 := Lib.hid u1
   clear u0 u1 hb1
   go_wp2
   exact bodyPost_ret (v := .tuple #[.agg #[.int .i64 n, .string s, .bool true], .bool true]) (by simp [results, Tryz.results87, go_sem, Lib.cell_of_heap (blk_set (blk_set (blk_set U1.out _) _) _), f0]) rfl ⟨by first | rfl | simp, (by repeat' (first | exact HB1.out | refine Below.setCell ?_ ?_ _ | (simp; done) | (simp; omega)))⟩
 have n2 : (k == 2) = false := by simpa using k2
 have n3 : (k == 3) = false := by simpa using k3
 have n2' : (k != 2) = true := by simpa using k2
 have n3' : (k != 3) = true := by simpa using k3
 rw [show ((decide (k = 2) || decide (k = 3)) && β) = false from by simp [k2, k3]]
 go_enter Tryz.func87, Tryz.ntmps87
 go_wp2
 exact bodyPost_ret (v := .tuple #[.agg #[.int .i64 0, .string ⟨#[]⟩, .bool false], .bool false]) (by simp [results, Tryz.results87, go_sem]) rfl ⟨by first | rfl | simp, HB.out⟩

theorem keyof_form (v : VV) : ∃ a b c, ∀ W, Calls Tryz.prog 87 #[.agg (vvCells v)] W fun e w' => e = .returned (.tuple #[.agg #[.int .i64 a, .string b, .bool c], .bool (isKey v)]) ∧ Below W.heap.size W w' := by
 have hk := fun W => keyof_any v W
 cases hb : isKey v
 ·rw [hb] at hk
  exact ⟨_, _, _, hk⟩
 ·rw [hb] at hk
  exact ⟨_, _, _, hk⟩
theorem tstamp_nil (x : Value) (w : World) : Calls Tryz.prog 49 #[.pointer none, x] w (RetB (.bool false) w) := by
 go_enter Tryz.func49, Tryz.ntmps49
 go_wp2
 go_ret
 exact ⟨rfl, Below.refl _ _⟩

theorem look_int {w : World} {t k : TypeId} {b n : Nat} {D : DataW Unit} {key : Value} {kl : Lit} (h : w.ownsMap Tryz.prog k (plainElem Tryz.prog 3) b n D) (K : Keyed Tryz.prog k) (ht : Tryz.prog.underlying t = some (.map k 3)) (hkey : keyOf Tryz.prog k key = some kl) :
  ∃ c : Int, D.atKey kl (.lit (.int .i64 0)) = .lit (.int .i64 c) ∧ ∀ W : World, W.heap[b]? = w.heap[b]? → (Instr.lookup t (.map (some b)) key true).run Tryz.prog W = .ok (.tuple #[.int .i64 c, .bool (Maps.has D kl)]) W := by
 have key1 : ∀ W : World, W.heap[b]? = w.heap[b]? → ∃ c : Int, D.atKey kl (.lit (.int .i64 0)) = .lit (.int .i64 c) ∧ (Instr.lookup t (.map (some b)) key true).run Tryz.prog W = .ok (.tuple #[.int .i64 c, .bool (Maps.has D kl)]) W := fun W hW => by
  have h' : W.ownsMap Tryz.prog k (plainElem Tryz.prog 3) b n D := by
   obtain ⟨es, clock, hb, r⟩ := h
   exact ⟨es, clock, hW.trans hb, r⟩
  obtain ⟨v, ps, hr, hv⟩ := h'.look_ok K ht (Tryz.zeroValue3 W) (plainElem_int Tryz.underlying3 (by decide)) hkey
  obtain ⟨c, rfl, hc, _⟩ := plainElem_int_inv Tryz.underlying3 hv
  exact ⟨c, congrArg Prod.fst hc, hr⟩
 obtain ⟨c, hc, _⟩ := key1 w rfl
 refine ⟨c, hc, fun W hW => ?_⟩
 obtain ⟨c', hc', hr⟩ := key1 W hW
 rw [hc] at hc'
 have : c = c' := by simpa using hc'
 rw [this]
 exact hr
theorem blk_same {w w1 : World} (h : Below w.heap.size w w1) {b : Nat} (hb : b < w.heap.size) (o : Obj) : (w1.alloc o).heap[b]? = w.heap[b]? := (Below.heap_alloc w1 o b (Nat.lt_of_lt_of_le hb h.size)).trans (h.block b hb)
theorem below_drewN {n : Nat} {w w' : World} (h : Below n w w') (m : Nat) : Below n w (w'.drewN m) := ⟨h.os, h.tape, h.output, h.size, h.block⟩
set_option maxRecDepth 100000 in
theorem find_any {w : World} {B tb : Nat} {T : TabS} {fp : List Nat} (h : TabIn w B tb T fp) (k : VV) (hn : -9223372036854775808 ≤ k.n ∧ k.n ≤ 9223372036854775807) (hs : k.s.size ≤ maxLen) :
  ∃ p : Int, ((isKey k = true ∧ ∃ (i : Nat) (f : Fd), T.F[i]? = some f ∧ keyLV f.1 = keyLV k ∧ p = i) ∨ ((isKey k = false ∨ ∀ f ∈ T.F, keyLV f.1 ≠ keyLV k) ∧ p = -1)) ∧
   Calls Tryz.prog 89 #[.pointer (some ⟨tb, 0, none⟩), .agg (vvCells k)] w (RetB (.int .i64 p) w) := by
 obtain ⟨⟨fv, sv, mb, nb, n, m, D, E, _, h1, _, _, h4, _, _, _, _, hI, _⟩, _⟩ := h
 have hk := fun W => keyof_any k W
 have hb0 := (Below.refl w.heap.size w).alloc (Nat.le_refl _) (.cells (vvCells k) 26)
 have HB0 := Lib.hid hb0
 cases hik : isKey k
 ·refine ⟨-1, .inr ⟨.inl rfl, rfl⟩, ?_⟩
  rw [hik] at hk
  unfold vvCells keyV at *
  have HK := Lib.hid hk
  clear hk hb0 h1 h4 hI
  go_enter Tryz.func89, Tryz.ntmps89
  go_wp2_with fail
  refine (HK.out _).mono ?_
  rintro e w1 ⟨rfl, hb1⟩
  have HB := Lib.hid (HB0.out.trans (hb1.mono (by simp)))
  clear hb1
  go_wp2
  go_ret
  exact ⟨rfl, HB.out.alloc HB.out.size _⟩
 rw [hik] at hk
 obtain ⟨c, hc, hl⟩ := look_int h4 lawK Tryz.underlying114 (key_of k.n k.s (decide (k.kind = 3)) hn hs)
 have hmlt := h4.lt
 have hmb : w.heap[mb]? = w.heap[mb]? := rfl
 have H1 := Lib.hid h1
 change ∀ W : World, W.heap[mb]? = w.heap[mb]? → (Instr.lookup 114 (.map (some mb)) (keyV k.n k.s (decide (k.kind = 3))) true).run Tryz.prog W = .ok (.tuple #[.int .i64 c, .bool (Maps.has D (keyLV k))]) W at hl
 have walk : ∀ β, Maps.has D (keyLV k) = β → Calls Tryz.prog 89 #[.pointer (some ⟨tb, 0, none⟩), .agg (vvCells k)] w (RetB (.int .i64 (if β = true then c else -1)) w) := by
  intro β hβ
  rw [hβ] at hl
  clear hI hc h1 h4 hb0 hβ
  rw [if_pos rfl] at hk
  unfold vvCells keyV at *
  generalize decide (k.kind = 3) = b3 at hk hl
  have HK := Lib.hid hk
  have HL := Lib.hid hl
  clear hk hl
  cases β
  all_goals
   go_enter Tryz.func89, Tryz.ntmps89
   go_wp2_with fail
   refine (HK.out _).mono ?_
   rintro e w1 ⟨rfl, hb1⟩
   have HB := Lib.hid (HB0.out.trans (hb1.mono (by simp)))
   have u1 := below_blk HB.out H1.out
   have c2 : w1.cell? ⟨tb, 2, none⟩ = some (.map (some mb)) := cell_of_blk u1 rfl
   have htl := blk_lt u1
   have hlook : ∀ q, (Instr.lookup 114 (.map (some mb)) (.agg #[.int .i64 k.n, .string k.s, .bool b3]) true).run Tryz.prog ((w1.alloc (.cells #[.int .i64 k.n, .string k.s, .bool b3] 139)).drewN q) = .ok _ _ := fun q => HL.out _ ((blk_same HB.out hmlt _))
   clear u1 hb1
   go_wp2_with fail
   all_goals go_quiet (fail)
   go_wp2
   go_ret
   exact ⟨rfl, below_drewN (HB.out.alloc HB.out.size _) _⟩
 cases hh : Maps.has D (keyLV k)
 ·refine ⟨-1, .inr ⟨.inr fun f hf he => ?_, rfl⟩, walk _ hh⟩
  obtain ⟨i, hi⟩ := List.getElem?_of_mem hf
  have := (hI.at_ i f hi).1
  rw [he, hh] at this
  cases this
 ·refine ⟨c, .inl ⟨rfl, ?_⟩, walk _ hh⟩
  by_cases hex : ∃ f ∈ T.F, keyLV f.1 = keyLV k
  ·obtain ⟨f, hf, he⟩ := hex
   obtain ⟨i, hi⟩ := List.getElem?_of_mem hf
   have h2 := (hI.at_ i f hi).2
   rw [he] at h2
   refine ⟨i, f, hi, he, ?_⟩
   have h3 := hc.symm.trans h2
   simpa using h3
  ·have := hI.no_ (keyLV k) fun f hf he => hex ⟨f, hf, he⟩
   rw [hh] at this
   cases this
end Go.Proofs.YtilcofpceadpbaaGreatDoor
namespace Go.Proofs.YtilcofpceadpbaaGreatDoor
open Go.ChangeShapes Go.WideShapes Go.ChangeAt Go.RowKit

def withV (v : VV) (l : Nat) : VV := { v with label := v.label ||| l }
theorem rwith_any (v : VV) (l : Nat) (w : World) (hv : v.label < 18446744073709551616) (hl : l < 18446744073709551616) : Calls Tryz.prog 73 #[.agg (vvCells v), .int .u64 (l : Int)] w (RetB (.agg (vvCells (withV v l))) w) := by
 have hj := fun w => rjoin_any v.label l w hv hl
 unfold vvCells
 have HV := Lib.hid hv
 have HL := Lib.hid hl
 clear hv hl
 go_enter Tryz.func73, Tryz.ntmps73
 go_wp2_with (go_at_call 98; refine (hj _).mono ?_; rintro e w' ⟨rfl, rfl⟩)
 exact bodyPost_ret (v := .agg (vvCells (withV v l))) (by simp [results, Tryz.results73, go_sem]; rfl) rfl ⟨rfl, (by repeat' (first | exact Below.refl _ _ | refine Below.drew ?_ | refine Below.setCell ?_ ?_ _ | refine Below.alloc ?_ ?_ _ | (simp; done) | (simp; omega)))⟩
set_option maxRecDepth 100000 in
theorem with_any (v : VV) (l : List Nat) (A : Option Addr) (c : Nat) (w : World) (hv : v.label < 18446744073709551616) (hl : ∀ x ∈ l, x < 18446744073709551616) (hn : l.length ≤ 9223372036854775807)
  (hr : Reads w w.heap.size A (l.map fun x : Nat => Value.int .u64 (x : Int))) :
  Calls Tryz.prog 71 #[.agg (vvCells v), .slice A l.length c] w (RetB (.agg (vvCells (withV v (joinL l)))) w) := by
 have hjl := joinL_lt l hl
 have hj1 : ∀ w', Below w.heap.size w w' → Calls Tryz.prog 44 #[.slice A l.length c] w' (Ret (.int .u64 (joinL l : Int)) w') := fun w' hb => joinv_any l A c w.heap.size w' hl hn (hr.below hb)
 have hj2 := fun n c t w' h => join2_any v.label (joinL l) n c t w' hv hjl h
 generalize joinL l = L at hj1 hj2
 unfold vvCells
 have HJ1 := Lib.hid hj1
 have HJ2 := Lib.hid hj2
 clear hj1 hj2 hv hl hr hjl
 go_enter Tryz.func71, Tryz.ntmps71
 go_wp2
 rename_i K0 hK0
 refine gen_wp fun W hW => ?_
 have hA : W.heap[w.heap.size]? = some (.cells #[.int .i64 v.kind, .int .i64 v.n, .string v.s, .int .u64 (v.label : Int)] 26 (0, 0)) := by rw [← hW]; exact blk_alloc (heap_new_at _ _ _ rfl) _
 have hZ : W.heap[w.heap.size + 1]? = some (.cells #[.int .i64 0, .int .i64 0, .string ByteArray.empty, .int .u64 0] 26 (0, 0)) := by rw [← hW]; exact heap_new_at _ _ _ (by simp)
 have hbw : Below w.heap.size w W := by rw [← hW]; exact ((Below.refl _ _).alloc (Nat.le_refl _) _).alloc (by simp) _
 clear hW
 have a3 : W.cell? ⟨w.heap.size, 3, none⟩ = some (.int .u64 (v.label : Int)) := cell_of_blk hA rfl
 have f3 : W.frozen? ⟨w.heap.size, 3, none⟩ = false := free_of_blk hA
 have hlt : w.heap.size < W.heap.size := blk_lt hA
 have HA := Lib.hid hA
 have HZ := Lib.hid hZ
 have HW := Lib.hid hbw
 clear hA hZ hbw
 refine wp_region_noPanic ?_
 refine wp_region_held_drew (S := fun _ => True) (by kernel_rfl) trivial (fun hHeld => ?_)
 refine wpAnyH_take (i := 0) (oi := _) (v := .pointer (some ⟨w.heap.size, 3, none⟩)) rfl (by kernel_rfl) (by kernel_rfl) (by kernel_rfl) (fun _ _ _ h => h) (Or.inl ⟨by rfl, fun w' hS => (by go_simp)⟩) hHeld ?_
 simp only [Act.put, List.setIfInBounds_toArray, List.set_cons_zero, List.set_cons_succ]
 refine wpAnyH_take (i := 2) (oi := _) (v := .slice A l.length c) rfl (by kernel_rfl) (by kernel_rfl) (by kernel_rfl) (fun _ _ _ h => h) (Or.inl ⟨by rfl, fun w' hS => (by go_simp)⟩) hHeld ?_
 simp only [Act.put, List.setIfInBounds_toArray, List.set_cons_zero, List.set_cons_succ]
 refine wpAnyH_ready (rs := [1, 3]) (by kernel_rfl) (by simp) ?_
 refine AllReadyH.cons (o := _) rfl (fun K hK => ?ga) (AllReadyH.cons (o := _) rfl (fun K hK => ?gb) AllReadyH.nil)
 case' ga =>
  go_simp
  refine hK.out _ _ trivial (fun hHeld => ?_)
  clear hK K
  try simp only [Act.put, zq1, zq2, zq3]
  refine rd 3 fun K hK => ?_
  go_simp
  refine (HJ1.out _ HW.out.drew).mono ?_
  rintro e w' ⟨rfl, rfl⟩
  refine hK.out _ _ trivial (fun hHeld => ?_)
  clear hK K
 case' gb =>
  go_simp
  refine (HJ1.out _ HW.out.drew).mono ?_
  rintro e w' ⟨rfl, rfl⟩
  refine hK.out _ _ trivial (fun hHeld => ?_)
  clear hK K
  try simp only [Act.put, zq1, zq2, zq3]
  refine rd 1 fun K hK => ?_
  go_simp
  refine hK.out _ _ trivial (fun hHeld => ?_)
  clear hK K
 all_goals try simp only [Act.put, List.setIfInBounds_toArray, List.set_cons_zero, List.set_cons_succ]
 all_goals refine wpAnyH_ready (rs := [4]) (by kernel_rfl) (by simp) ?_
 all_goals refine AllReadyH.cons (o := _) rfl (fun K hK => ?_) AllReadyH.nil
 all_goals go_simp
 all_goals refine hK.out _ _ trivial (fun hHeld => ?_)
 all_goals clear hK K
 all_goals try simp only [Act.put, List.setIfInBounds_toArray, List.set_cons_zero, List.set_cons_succ]
 all_goals refine wpAnyH_ready (rs := [5]) (by kernel_rfl) (by simp) ?_
 all_goals refine AllReadyH.cons (o := _) rfl (fun K hK => ?_) AllReadyH.nil
 all_goals go_simp
 all_goals refine (HJ2.out _ _ _ _ (blk_drew (heap_alloc_new _ _))).mono ?_
 all_goals rintro e w' ⟨rfl, rfl⟩
 all_goals refine hK.out _ _ trivial (fun hHeld => ?_)
 all_goals clear hK K
 all_goals try simp only [Act.put, List.setIfInBounds_toArray, List.set_cons_zero, List.set_cons_succ]
 all_goals refine wpAnyH_take (i := 6) (oi := _) (v := .pointer (some ⟨w.heap.size, 3, none⟩)) rfl (by kernel_rfl) (by kernel_rfl) (by kernel_rfl) (fun _ _ _ h => h) (Or.inl ⟨by rfl, fun w' hS => (by go_simp)⟩) hHeld ?_
 all_goals try simp only [Act.put, List.setIfInBounds_toArray, List.set_cons_zero, List.set_cons_succ]
 all_goals refine wpAnyH_ready (rs := [7]) (by kernel_rfl) (by simp) ?_
 all_goals refine AllReadyH.cons (o := _) rfl (fun K hK => ?_) AllReadyH.nil
 all_goals go_simp
 all_goals refine hK.out _ _ trivial (fun hHeld => ?_)
 all_goals clear hK K
 all_goals try simp only [Act.put, List.setIfInBounds_toArray, List.set_cons_zero, List.set_cons_succ]
 all_goals refine wpAnyH_done (by kernel_rfl) ?_ _
 all_goals refine NoPanic.normal ?_
 all_goals refine hK0 _ _ ?_
 all_goals refine gen_wp fun W2 hW2 => ?_
 all_goals
  have hA2 : W2.heap[w.heap.size]? = some (.cells #[.int .i64 v.kind, .int .i64 v.n, .string v.s, .int .u64 ((v.label ||| L : Nat) : Int)] 26 (0, 0)) := by rw [← hW2]; exact blk_drew (blk_alloc (blk_set HA.out _) _)
  have hZ2 : W2.heap[w.heap.size + 1]? = some (.cells #[.int .i64 0, .int .i64 0, .string ByteArray.empty, .int .u64 0] 26 (0, 0)) := by rw [← hW2]; exact blk_drew (blk_alloc (blk_far HZ.out (by simp) _) _)
  have hb2 : Below w.heap.size w W2 := by rw [← hW2]; exact (((HW.out).setCell (Nat.le_refl _) _).alloc (by simpa [World.setCell] using Nat.le_of_lt hlt) _).drew
  clear hW2
  have HB2 := Lib.hid hb2
  have z0 := cell_of_blk (i := 0) hA2 rfl
  have z1 := cell_of_blk (i := 1) hA2 rfl
  have z2 := cell_of_blk (i := 2) hA2 rfl
  have z3 := cell_of_blk (i := 3) hA2 rfl
  have y0 := cell_of_blk (i := 0) hZ2 rfl
  have y1 := cell_of_blk (i := 1) hZ2 rfl
  have y2 := cell_of_blk (i := 2) hZ2 rfl
  have y3 := cell_of_blk (i := 3) hZ2 rfl
  have q0 : W2.frozen? ⟨w.heap.size + 1, 0, none⟩ = false := free_of_blk hZ2
  have q1 : W2.frozen? ⟨w.heap.size + 1, 1, none⟩ = false := free_of_blk hZ2
  have q2 : W2.frozen? ⟨w.heap.size + 1, 2, none⟩ = false := free_of_blk hZ2
  have q3 : W2.frozen? ⟨w.heap.size + 1, 3, none⟩ = false := free_of_blk hZ2
  clear a3 f3 hb2
  have hlz := blk_lt hZ2
  have HZ2 := Lib.hid hZ2
  clear hZ2 hA2
  go_wp2
  have hbe : ∀ u0 u1 u2 u3, Below w.heap.size w ((((W2.setCell ⟨w.heap.size + 1, 0, none⟩ u0).setCell ⟨w.heap.size + 1, 1, none⟩ u1).setCell ⟨w.heap.size + 1, 2, none⟩ u2).setCell ⟨w.heap.size + 1, 3, none⟩ u3) := fun u0 u1 u2 u3 => (((HB2.out.setCell (by simp) _).setCell (by simp) _).setCell (by simp) _).setCell (by simp) _
  exact bodyPost_ret (v := .agg #[.int .i64 v.kind, .int .i64 v.n, .string v.s, .int .u64 ((v.label ||| L : Nat) : Int)]) (by simp [results, Tryz.results71, go_sem, y0, y1, y2, y3]) rfl ⟨rfl, hbe _ _ _ _⟩
end Go.Proofs.YtilcofpceadpbaaGreatDoor
namespace Go.Proofs.YtilcofpceadpbaaGreatDoor
open Go.ChangeShapes Go.WideShapes Go.ChangeAt Go.RowKit Go.Maps

def noneV : VV := ⟨0, 0, ⟨#[]⟩, 0⟩
def AtKey (F : List Fd) (k out : VV) : Prop := (isKey k = true ∧ ∃ (i : Nat) (f : Fd), F[i]? = some f ∧ keyLV f.1 = keyLV k ∧ out = f.2) ∨ ((isKey k = false ∨ ∀ f ∈ F, keyLV f.1 ≠ keyLV k) ∧ out = noneV)
theorem fdEnc_len (f : Fd) : (fdEnc f).length = 8 := rfl
theorem stEnc_len (s : St) : (stEnc s).length = 2 := rfl
theorem own_elem {w : World} {base : Nat} {e : TypeId} {K : Nat} {v : Value} {α : Type} {f : α → List Value} {xs : List α} (ho : w.ownsRow base e K v xs.length (xs.flatMap f)) (hK : ∀ a, (f a).length = K) (hK0 : 0 < K) {i : Nat} {x : α} (hx : xs[i]? = some x) :
  ∃ ad c, v = .slice (some ad) xs.length c ∧ base ≤ ad.block ∧ ad.block < w.heap.size ∧ ∀ j u, (xs.flatMap f)[j]? = some u → w.cell? (ad.add j) = some u := by
 obtain ⟨A, c, rfl, _, _, h⟩ := own_form ho
 obtain ⟨gb, rfl, h1, h2, _, h3⟩ := h (by have := (List.getElem?_eq_some_iff.1 hx).1; omega)
 refine ⟨_, c, rfl, h1, h2, fun j u hu => ?_⟩
 have e : (⟨gb, 0, none⟩ : Addr).add j = ⟨gb, j, none⟩ := by
  unfold Addr.add
  split
  ·rename_i h0
   rw [h0]
  ·simp
 rw [e]
 exact h3 j u hu
theorem with2_any (v : VV) (a b n c : Nat) (t : TypeId) (w : World) (hv : v.label < 18446744073709551616) (ha : a < 18446744073709551616) (hb : b < 18446744073709551616) (h : w.heap[n]? = some (.cells #[.int .u64 (a : Int), .int .u64 (b : Int)] t (0, 0))) :
  Calls Tryz.prog 71 #[.agg (vvCells v), .slice (some ⟨n, 0, none⟩) 2 c] w (RetB (.agg (vvCells (withV v (joinL [a, b])))) w) :=
 with_any v [a, b] (some ⟨n, 0, none⟩) c w hv (by simp [ha, hb]) (by simp) (.inr ⟨_, rfl, blk_lt h, World.news_of_block h⟩)
set_option maxRecDepth 100000 in
theorem tget_any {w : World} {B tb : Nat} {T : TabS} {fp : List Nat} (h : TabIn w B tb T fp) (k : VV) (hn : -9223372036854775808 ≤ k.n ∧ k.n ≤ 9223372036854775807) (hs : k.s.size ≤ maxLen) (hkl : k.label < 18446744073709551616) (hTl : T.l < 18446744073709551616) (hF : ∀ f ∈ T.F, f.2.label < 18446744073709551616) :
  ∃ out, AtKey T.F k out ∧ Calls Tryz.prog 61 #[.pointer (some ⟨tb, 0, none⟩), .agg (vvCells k)] w (RetB (.agg (vvCells (withV out (joinL [k.label, T.l])))) w) := by
 have hb3 := (((Below.refl w.heap.size w).alloc (Nat.le_refl _) (.cells (vvCells k) 26)).alloc (by simp) (.cells (vvCells noneV) 26)).alloc (by simp; omega) (.cells (vvCells noneV) 26)
 have h' := h.kept (Fr.of_below hb3 []) (by simp)
 obtain ⟨p, hp, hf⟩ := find_any h' k hn hs
 have HB3 := Lib.hid hb3
 have hT : T.l < 18446744073709551616 := hTl
 obtain ⟨⟨fv, sv, mb, nb, n, m, D, E, _, h1, h2, _⟩, _⟩ := h
 have H1 := Lib.hid h1
 have H2 := Lib.hid h2
 rcases hp with ⟨hik, i, f, hfi, hke, rfl⟩ | ⟨hno, rfl⟩
 ·refine ⟨f.2, .inl ⟨hik, i, f, hfi, hke, rfl⟩, ?_⟩
  have hil : i < T.F.length := (List.getElem?_eq_some_iff.1 hfi).1
  have hil' : (i : Int) < (T.F.length : Int) := by omega
  have hi0 : (0 : Int) ≤ i := by omega
  obtain ⟨ad, c, rfl, _, hal, hcell⟩ := own_elem h2 fdEnc_len (by omega) hfi
  have e0 := elem_at fdEnc_len hcell hfi 4 (by omega) (by omega) (v := .int .i64 f.2.kind) rfl
  have e1 := elem_at fdEnc_len hcell hfi 5 (by omega) (by omega) (v := .int .i64 f.2.n) rfl
  have e2 := elem_at fdEnc_len hcell hfi 6 (by omega) (by omega) (v := .string f.2.s) rfl
  have e3 := elem_at fdEnc_len hcell hfi 7 (by omega) (by omega) (v := .int .u64 (f.2.label : Int)) rfl
  have hll : (ad.add (i * 8)).block < w.heap.size := by rw [block_add']; exact hal
  have hw := fun n c t W h => with2_any f.2 k.label T.l n c t W (hF f (List.mem_of_getElem? hfi)) hkl hT h
  generalize withV f.2 (joinL [k.label, T.l]) = R at hw ⊢
  have HF := Lib.hid hf
  have HW := Lib.hid hw
  have E := Lib.hid (And.intro e0 (And.intro e1 (And.intro e2 e3)))
  clear hf hw h1 h2 h' hb3 hF hTl hcell e0 e1 e2 e3 hfi
  unfold vvCells noneV at *
  go_enter Tryz.func61, Tryz.ntmps61
  go_wp2_with fail
  refine HF.out.mono ?_
  rintro e w1 ⟨rfl, hb1⟩
  have HB0 := Lib.hid (HB3.out.trans (hb1.mono (by simp; omega)))
  have u0 := below_blk hb1 (blk_alloc (blk_alloc (heap_alloc_new w _) _) _)
  have u1 := below_blk hb1 (blk_alloc (heap_new_at _ _ (w.heap.size + 1) (by simp)) _)
  have u2 := below_blk hb1 (heap_new_at _ _ (w.heap.size + 1 + 1) (by simp))
  have u3 := below_blk HB0.out H1.out
  have t1 := cell_of_blk (i := 1) u3 rfl
  have z0 := free_of_blk (i := 0) u2
  have z1 := free_of_blk (i := 1) u2
  have z2 := free_of_blk (i := 2) u2
  have z3 := free_of_blk (i := 3) u2
  have y0 := cell_of_blk (i := 0) u2 rfl
  have y1 := cell_of_blk (i := 1) u2 rfl
  have y2 := cell_of_blk (i := 2) u2 rfl
  have y3 := cell_of_blk (i := 3) u2 rfl
  have e0 := (HB0.out.cell (by show (ad.add (i * 8)).block < _; exact hll)).trans E.out.1
  have e1 := (HB0.out.cell (by show (ad.add (i * 8)).block < _; exact hll)).trans E.out.2.1
  have e2 := (HB0.out.cell (by show (ad.add (i * 8)).block < _; exact hll)).trans E.out.2.2.1
  have e3 := (HB0.out.cell (by show (ad.add (i * 8)).block < _; exact hll)).trans E.out.2.2.2
  have l3 := blk_lt u3
  have l2 := blk_lt u2
  have P0 := Lib.hid u0
  have P1 := Lib.hid u1
  have P2 := Lib.hid u2
  have P3 := Lib.hid u3
  have htw : tb < w.heap.size := blk_lt H1.out
  clear u0 u1 u2 u3 hb1
  go_wp2_with fail
  refine gen_wp fun W hW => ?_
  have ne0 : w.heap.size ≠ w.heap.size + 1 + 1 := by omega
  have ne2 : w.heap.size + 1 ≠ w.heap.size + 1 + 1 := by omega
  have ne3 : tb ≠ w.heap.size + 1 + 1 := by omega
  have U0 := Lib.hid (show W.heap[w.heap.size]? = some (.cells #[.int .i64 k.kind, .int .i64 k.n, .string k.s, .int .u64 (k.label : Int)] 26 (0, 0)) by rw [← hW]; exact blk_far (blk_far (blk_far (blk_far P0.out ne0 _) ne0 _) ne0 _) ne0 _)
  have U1 := Lib.hid (show W.heap[w.heap.size + 1]? = some (.cells #[.int .i64 0, .int .i64 0, .string ⟨#[]⟩, .int .u64 0] 26 (0, 0)) by rw [← hW]; exact blk_far (blk_far (blk_far (blk_far P1.out ne2 _) ne2 _) ne2 _) ne2 _)
  have U2 := Lib.hid (show W.heap[w.heap.size + 1 + 1]? = some (.cells #[.int .i64 f.2.kind, .int .i64 f.2.n, .string f.2.s, .int .u64 (f.2.label : Int)] 26 (0, 0)) by rw [← hW]; exact blk_set (i := 3) (blk_set (i := 2) (blk_set (i := 1) (blk_set (i := 0) P2.out _) _) _) _)
  have U3 := Lib.hid (show W.heap[tb]? = some (.cells #[.int .u64 (T.l : Int), .slice (some ad) T.F.length c, .map (some mb), sv, .map (some nb)] 117 (0, 0)) by rw [← hW]; exact blk_far (blk_far (blk_far (blk_far P3.out ne3 _) ne3 _) ne3 _) ne3 _)
  have HB := Lib.hid (show Below w.heap.size w W by rw [← hW]; (repeat' (first | exact HB0.out | refine Below.setCell ?_ ?_ _ | (simp; done) | (simp; omega))))
  have l3 := blk_lt U3.out
  have l2 := blk_lt U2.out
  clear hW z0 z1 z2 z3 y0 y1 y2 y3 e0 e1 e2 e3 t1 P0 P1 P2 P3 HB0 E ne0 ne2 ne3
  refine wp_region_noPanic ?_
  refine wp_region_held_drew (S := fun w' => w'.heap[w.heap.size]? = some (.cells #[.int .i64 k.kind, .int .i64 k.n, .string k.s, .int .u64 (k.label : Int)] 26 (0, 0)) ∧ w'.heap[w.heap.size + 1 + 1]? = some (.cells #[.int .i64 f.2.kind, .int .i64 f.2.n, .string f.2.s, .int .u64 (f.2.label : Int)] 26 (0, 0)) ∧ w'.heap[tb]? = some (.cells #[.int .u64 (T.l : Int), .slice (some ad) T.F.length c, .map (some mb), sv, .map (some nb)] 117 (0, 0))) (by kernel_rfl) (⟨U0.out, U2.out, U3.out⟩) (fun hHeld => ?_)
  refine tk 0 26 (.agg #[.int .i64 f.2.kind, .int .i64 f.2.n, .string f.2.s, .int .u64 (f.2.label : Int)]) hHeld ?_ (hy := Or.inl ⟨by rfl, fun w' hS => (by obtain ⟨s0, s2, s3⟩ := hS; have q0 := cell_of_blk (i := 0) s2 rfl; have q1 := cell_of_blk (i := 1) s2 rfl; have q2 := cell_of_blk (i := 2) s2 rfl; have q3 := cell_of_blk (i := 3) s2 rfl; go_simp)⟩); simp only [Act.put, zq1, zq2, zq3]
  refine tk 1 27 (.pointer (some ⟨w.heap.size, 3, none⟩)) hHeld ?_; simp only [Act.put, zq1, zq2, zq3]
  refine tk 2 28 (.int .u64 (k.label : Int)) hHeld ?_ (hy := Or.inl ⟨by rfl, fun w' hS => (by obtain ⟨s0, s2, s3⟩ := hS; have q := cell_of_blk (i := 3) s0 rfl; go_simp)⟩); simp only [Act.put, zq1, zq2, zq3]
  refine tk 3 29 (.pointer (some ⟨tb, 0, none⟩)) hHeld ?_; simp only [Act.put, zq1, zq2, zq3]
  refine tk 4 30 (.pointer (some ⟨tb, 0, none⟩)) hHeld ?_; simp only [Act.put, zq1, zq2, zq3]
  refine tk 5 31 (.pointer (some ⟨tb, 0, none⟩)) hHeld ?_; simp only [Act.put, zq1, zq2, zq3]
  refine tk 6 32 (.int .u64 (T.l : Int)) hHeld ?_ (hy := Or.inl ⟨by rfl, fun w' hS => (by obtain ⟨s0, s2, s3⟩ := hS; have q := cell_of_blk (i := 0) s3 rfl; go_simp)⟩); simp only [Act.put, zq1, zq2, zq3]
  refine rd 7 fun K hK => ?_
  go_simp
  refine hK.out _ _ (⟨(blk_drew (blk_alloc U0.out _)), (blk_drew (blk_alloc U2.out _)), (blk_drew (blk_alloc U3.out _))⟩) (fun hHeld => ?_)
  clear hK K
  try simp only [Act.put, zq1, zq2, zq3]
  refine rd 8 fun K hK => ?_
  go_simp
  refine (HW.out _ _ _ _ (blk_drew (heap_alloc_new _ _))).mono ?_
  rintro e w2 ⟨rfl, hb2⟩
  have V0 := Lib.hid (below_blk hb2 (blk_drew (blk_alloc U0.out _)))
  have V1 := Lib.hid (below_blk hb2 (blk_drew (blk_alloc U1.out _)))
  have V2 := Lib.hid (below_blk hb2 (blk_drew (blk_alloc U2.out _)))
  have V3 := Lib.hid (below_blk hb2 (blk_drew (blk_alloc U3.out _)))
  have HB2 := Lib.hid (HB.out.trans ((((Below.refl _ _).alloc (Nat.le_refl _) _).drew.trans (hb2.mono (by simp))).mono HB.out.size))
  clear hb2
  refine hK.out _ _ (⟨V0.out, V2.out, V3.out⟩) (fun hHeld => ?_)
  clear hK K
  try simp only [Act.put, zq1, zq2, zq3]
  have v1 := V1.out
  have y0 := cell_of_blk (i := 0) v1 rfl
  have z0 := free_of_blk (i := 0) v1
  have y1 := cell_of_blk (i := 1) v1 rfl
  have z1 := free_of_blk (i := 1) v1
  have y2 := cell_of_blk (i := 2) v1 rfl
  have z2 := free_of_blk (i := 2) v1
  have y3 := cell_of_blk (i := 3) v1 rfl
  have z3 := free_of_blk (i := 3) v1
  clear v1
  have ne0 : w.heap.size ≠ w.heap.size + 1 := by omega
  have ne2 : w.heap.size + 1 + 1 ≠ w.heap.size + 1 := by omega
  have ne3 : tb ≠ w.heap.size + 1 := by omega
  refine rd 9 fun K hK => ?_
  go_simp
  refine hK.out _ _ (⟨blk_far (blk_far (blk_far (blk_far V0.out ne0 _) ne0 _) ne0 _) ne0 _, blk_far (blk_far (blk_far (blk_far V2.out ne2 _) ne2 _) ne2 _) ne2 _, blk_far (blk_far (blk_far (blk_far V3.out ne3 _) ne3 _) ne3 _) ne3 _⟩) (fun hHeld => ?_)
  clear hK K
  try simp only [Act.put, zq1, zq2, zq3]
  refine wpAnyH_done (by kernel_rfl) ?_ _
  refine NoPanic.normal ?_
  go_wp2
  exact bodyPost_ret (v := .agg #[.int .i64 R.kind, .int .i64 R.n, .string R.s, .int .u64 (R.label : Int)]) (by simp [results, Tryz.results61, go_sem, Lib.cell_of_heap (blk_set (blk_set (blk_set (blk_set V1.out _) _) _) _)]) rfl ⟨by first | rfl | simp, (by repeat' (first | exact HB2.out | refine Below.setCell ?_ ?_ _ | (simp; done) | (simp; omega)))⟩
 ·refine ⟨noneV, .inr ⟨hno, rfl⟩, ?_⟩
  have hw := fun n c t W h => with2_any noneV k.label T.l n c t W (by decide) hkl hT h
  generalize withV noneV (joinL [k.label, T.l]) = R at hw ⊢
  have HF := Lib.hid hf
  have HW := Lib.hid hw
  clear hf hw hno h1 h2 h' hb3 hF hTl
  unfold vvCells noneV at *
  go_enter Tryz.func61, Tryz.ntmps61
  go_wp2_with fail
  refine HF.out.mono ?_
  rintro e w1 ⟨rfl, hb1⟩
  have HB := Lib.hid (HB3.out.trans (hb1.mono (by simp; omega)))
  have u0 := below_blk hb1 (blk_alloc (blk_alloc (heap_alloc_new w _) _) _)
  have u1 := below_blk hb1 (blk_alloc (heap_new_at _ _ (w.heap.size + 1) (by simp)) _)
  have u2 := below_blk hb1 (heap_new_at _ _ (w.heap.size + 1 + 1) (by simp))
  have u3 := below_blk HB.out H1.out
  have f3 := cell_of_blk (i := 3) u0 rfl
  have g0 := cell_of_blk (i := 0) u2 rfl
  have g1 := cell_of_blk (i := 1) u2 rfl
  have g2 := cell_of_blk (i := 2) u2 rfl
  have g3 := cell_of_blk (i := 3) u2 rfl
  have t0 := cell_of_blk (i := 0) u3 rfl
  have l3 := blk_lt u3
  have l2 := blk_lt u2
  have U0 := Lib.hid u0
  have U1 := Lib.hid u1
  have U2 := Lib.hid u2
  have U3 := Lib.hid u3
  have htw : tb < w.heap.size := blk_lt H1.out
  clear u0 u1 u2 u3 hb1 f3 g0 g1 g2 g3 t0
  go_wp2_with fail
  refine wp_region_noPanic ?_
  refine wp_region_held_drew (S := fun w' => w'.heap[w.heap.size]? = some (.cells #[.int .i64 k.kind, .int .i64 k.n, .string k.s, .int .u64 (k.label : Int)] 26 (0, 0)) ∧ w'.heap[w.heap.size + 1 + 1]? = some (.cells #[.int .i64 0, .int .i64 0, .string ⟨#[]⟩, .int .u64 0] 26 (0, 0)) ∧ w'.heap[tb]? = some (.cells #[.int .u64 (T.l : Int), fv, .map (some mb), sv, .map (some nb)] 117 (0, 0))) (by kernel_rfl) (⟨U0.out, U2.out, U3.out⟩) (fun hHeld => ?_)
  refine tk 0 26 (.agg #[.int .i64 0, .int .i64 0, .string ⟨#[]⟩, .int .u64 0]) hHeld ?_ (hy := Or.inl ⟨by rfl, fun w' hS => (by obtain ⟨s0, s2, s3⟩ := hS; have q0 := cell_of_blk (i := 0) s2 rfl; have q1 := cell_of_blk (i := 1) s2 rfl; have q2 := cell_of_blk (i := 2) s2 rfl; have q3 := cell_of_blk (i := 3) s2 rfl; go_simp)⟩); simp only [Act.put, zq1, zq2, zq3]
  refine tk 1 27 (.pointer (some ⟨w.heap.size, 3, none⟩)) hHeld ?_; simp only [Act.put, zq1, zq2, zq3]
  refine tk 2 28 (.int .u64 (k.label : Int)) hHeld ?_ (hy := Or.inl ⟨by rfl, fun w' hS => (by obtain ⟨s0, s2, s3⟩ := hS; have q := cell_of_blk (i := 3) s0 rfl; go_simp)⟩); simp only [Act.put, zq1, zq2, zq3]
  refine tk 3 29 (.pointer (some ⟨tb, 0, none⟩)) hHeld ?_; simp only [Act.put, zq1, zq2, zq3]
  refine tk 4 30 (.pointer (some ⟨tb, 0, none⟩)) hHeld ?_; simp only [Act.put, zq1, zq2, zq3]
  refine tk 5 31 (.pointer (some ⟨tb, 0, none⟩)) hHeld ?_; simp only [Act.put, zq1, zq2, zq3]
  refine tk 6 32 (.int .u64 (T.l : Int)) hHeld ?_ (hy := Or.inl ⟨by rfl, fun w' hS => (by obtain ⟨s0, s2, s3⟩ := hS; have q := cell_of_blk (i := 0) s3 rfl; go_simp)⟩); simp only [Act.put, zq1, zq2, zq3]
  refine rd 7 fun K hK => ?_
  go_simp
  refine hK.out _ _ (⟨(blk_drew (blk_alloc U0.out _)), (blk_drew (blk_alloc U2.out _)), (blk_drew (blk_alloc U3.out _))⟩) (fun hHeld => ?_)
  clear hK K
  try simp only [Act.put, zq1, zq2, zq3]
  refine rd 8 fun K hK => ?_
  go_simp
  refine (HW.out _ _ _ _ (blk_drew (heap_alloc_new _ _))).mono ?_
  rintro e w2 ⟨rfl, hb2⟩
  have V0 := Lib.hid (below_blk hb2 (blk_drew (blk_alloc U0.out _)))
  have V1 := Lib.hid (below_blk hb2 (blk_drew (blk_alloc U1.out _)))
  have V2 := Lib.hid (below_blk hb2 (blk_drew (blk_alloc U2.out _)))
  have V3 := Lib.hid (below_blk hb2 (blk_drew (blk_alloc U3.out _)))
  have HB2 := Lib.hid (HB.out.trans ((((Below.refl _ _).alloc (Nat.le_refl _) _).drew.trans (hb2.mono (by simp))).mono HB.out.size))
  clear hb2
  refine hK.out _ _ (⟨V0.out, V2.out, V3.out⟩) (fun hHeld => ?_)
  clear hK K
  try simp only [Act.put, zq1, zq2, zq3]
  have v1 := V1.out
  have y0 := cell_of_blk (i := 0) v1 rfl
  have z0 := free_of_blk (i := 0) v1
  have y1 := cell_of_blk (i := 1) v1 rfl
  have z1 := free_of_blk (i := 1) v1
  have y2 := cell_of_blk (i := 2) v1 rfl
  have z2 := free_of_blk (i := 2) v1
  have y3 := cell_of_blk (i := 3) v1 rfl
  have z3 := free_of_blk (i := 3) v1
  clear v1
  have ne0 : w.heap.size ≠ w.heap.size + 1 := by omega
  have ne2 : w.heap.size + 1 + 1 ≠ w.heap.size + 1 := by omega
  have ne3 : tb ≠ w.heap.size + 1 := by omega
  refine rd 9 fun K hK => ?_
  go_simp
  refine hK.out _ _ (⟨blk_far (blk_far (blk_far (blk_far V0.out ne0 _) ne0 _) ne0 _) ne0 _, blk_far (blk_far (blk_far (blk_far V2.out ne2 _) ne2 _) ne2 _) ne2 _, blk_far (blk_far (blk_far (blk_far V3.out ne3 _) ne3 _) ne3 _) ne3 _⟩) (fun hHeld => ?_)
  clear hK K
  try simp only [Act.put, zq1, zq2, zq3]
  refine wpAnyH_done (by kernel_rfl) ?_ _
  refine NoPanic.normal ?_
  go_wp2
  exact bodyPost_ret (v := .agg #[.int .i64 R.kind, .int .i64 R.n, .string R.s, .int .u64 (R.label : Int)]) (by simp [results, Tryz.results61, go_sem, Lib.cell_of_heap (blk_set (blk_set (blk_set (blk_set V1.out _) _) _) _)]) rfl ⟨by first | rfl | simp, (by repeat' (first | exact HB2.out | refine Below.setCell ?_ ?_ _ | (simp; done) | (simp; omega)))⟩
end Go.Proofs.YtilcofpceadpbaaGreatDoor
namespace Go.Proofs.YtilcofpceadpbaaGreatDoor
open Go.ChangeShapes Go.WideShapes Go.ChangeAt Go.RowKit Go.Shelf

structure FdAt (w : World) (a : Addr) (x : Fd) : Prop where
 c0 : w.cell? a = some (.int .i64 x.1.kind)
 c1 : w.cell? ⟨a.block, a.off + 1, none⟩ = some (.int .i64 x.1.n)
 c2 : w.cell? ⟨a.block, a.off + 2, none⟩ = some (.string x.1.s)
 c3 : w.cell? ⟨a.block, a.off + 3, none⟩ = some (.int .u64 (x.1.label : Int))
 c4 : w.cell? ⟨a.block, a.off + 4, none⟩ = some (.int .i64 x.2.kind)
 c5 : w.cell? ⟨a.block, a.off + 5, none⟩ = some (.int .i64 x.2.n)
 c6 : w.cell? ⟨a.block, a.off + 6, none⟩ = some (.string x.2.s)
 c7 : w.cell? ⟨a.block, a.off + 7, none⟩ = some (.int .u64 (x.2.label : Int))
theorem fd_at {w : World} {ad : Addr} {xs : List Fd} (hc : ∀ j u, (xs.flatMap fdEnc)[j]? = some u → w.cell? (ad.add j) = some u) {k : Nat} {x : Fd} (hx : xs[k]? = some x) : FdAt w (ad.add (k * 8)) x :=
 ⟨elem_zero (K := 8) (fun a => rfl) hc hx (by omega) rfl, elem_at (K := 8) (fun a => rfl) hc hx 1 (by omega) (by omega) rfl, elem_at (K := 8) (fun a => rfl) hc hx 2 (by omega) (by omega) rfl, elem_at (K := 8) (fun a => rfl) hc hx 3 (by omega) (by omega) rfl, elem_at (K := 8) (fun a => rfl) hc hx 4 (by omega) (by omega) rfl, elem_at (K := 8) (fun a => rfl) hc hx 5 (by omega) (by omega) rfl, elem_at (K := 8) (fun a => rfl) hc hx 6 (by omega) (by omega) rfl, elem_at (K := 8) (fun a => rfl) hc hx 7 (by omega) (by omega) rfl⟩
theorem fdEnc_one (l : List Fd) : ∀ u ∈ l.flatMap fdEnc, u.oneCell' = true := by
 intro u hu
 obtain ⟨e, _, h⟩ := List.mem_flatMap.1 hu
 simp [fdEnc, vvCells] at h
 rcases h with rfl | rfl | rfl | rfl | rfl | rfl | rfl | rfl <;> rfl
theorem fdEnc_lenAll (l : List Fd) : (l.flatMap fdEnc).length = l.length * 8 := by
 induction l with
 | nil => rfl
 | cons e l ih => simp only [List.flatMap_cons, List.length_append, ih, List.length_cons]; simp [fdEnc, vvCells]; omega
theorem stEnc_one (l : List St) : ∀ u ∈ l.flatMap stEnc, u.oneCell' = true := by
 intro u hu
 obtain ⟨e, _, h⟩ := List.mem_flatMap.1 hu
 simp [stEnc] at h
 rcases h with rfl | rfl <;> rfl
theorem stEnc_lenAll (l : List St) : (l.flatMap stEnc).length = l.length * 2 := by
 induction l with
 | nil => rfl
 | cons e l ih => simp only [List.flatMap_cons, List.length_append, ih, List.length_cons]; simp [stEnc]; omega
theorem infoFd : (Tryz.prog.info? 92).map (fun i => (i.zero, i.size, i.bytes)) = some (some (.agg #[.int .i64 0, .int .i64 0, .string ByteArray.empty, .int .u64 0, .int .i64 0, .int .i64 0, .string ByteArray.empty, .int .u64 0]), 8, 80) := by kernel_rfl
theorem infoSt : (Tryz.prog.info? 135).map (fun i => (i.zero, i.size, i.bytes)) = some (some (.agg #[.string ByteArray.empty, .int .i64 0]), 2, 24) := by kernel_rfl
set_option maxRecDepth 100000 in
theorem clone_stamps (A : Option Addr) (n c : Nat) (xs : List Value) (w : World) (hr : Reads w w.heap.size A xs) (hlen : xs.length = n * 2) (h1 : ∀ u ∈ xs, u.oneCell' = true) (hA : A = none → n = 0 ∧ c = 0) (hn : n * 24 ≤ 140737488351232) :
  Calls Tryz.prog 92 #[.slice A n c] w fun e w' => ∃ v, e = .returned v ∧ w'.ownsRow w.heap.size 135 2 v n xs ∧ Below w.heap.size w w' := by
 obtain ⟨i0, hi, hz0, hz1, hz2⟩ := info_parts infoSt
 have heq := fun W : World => Lib.run_eql_slice_nil (P := Tryz.prog) W 73 135 A n c 0 0 Tryz.underlying73
 rcases A with _ | ad
 ·obtain ⟨rfl, rfl⟩ := hA rfl
  obtain rfl : xs = [] := List.eq_nil_of_length_eq_zero (by omega)
  go_enter Tryz.func92, Tryz.ntmps92
  go_wp2
  go_ret
  exact ⟨_, rfl, World.ownsRow_nil _ _ _ _, Below.refl _ _⟩
 ·go_enter Tryz.func92, Tryz.ntmps92
  have hr' : Reads (w.alloc (.cells #[] 135)) w.heap.size (some ad) xs := hr.below ((Below.refl _ _).alloc (Nat.le_refl _) _)
  have hown : (w.alloc (.cells #[] 135)).ownsRow w.heap.size 135 2 (.slice (some ⟨w.heap.size, 0, none⟩) 0 0) 0 [] := World.ownsRow_made w #[] 0 (Nat.le_refl _) (by unfold maxLen; omega) rfl
  have hnews : ∀ j u, xs[j]? = some u → (w.alloc (.cells #[] 135)).cell? (ad.add j) = some u := by
   intro j u hu
   rcases hr' with rfl | ⟨ad', e, _, h⟩
   ·simp at hu
   ·injection e with e; subst e; exact h j u hu
  go_wp2_with ((at_builtin; (refine wpList_append_own_at _ rfl _ _ _ rfl w.heap.size 135 i0 (.agg #[.string ByteArray.empty, .int .i64 0]) 2 24 Tryz.underlying73 hi hz0 hz1 hz2 rfl (by omega) _ 0 [] rfl hown ad n c xs rfl (by omega) hnews h1 (by unfold maxLen; omega) (by omega) (by simp) ?_); intro v w2 hown2 hgrow hat hat2))
  have hgrow' : World.grownBy _ w2 (some w.heap.size) := hgrow
  go_ret
  exact ⟨v, rfl, by simpa using hown2, ((Below.refl _ _).alloc (Nat.le_refl _) _).grown hgrow' (by simp) (fun k hk => Nat.le_of_eq (Option.some.inj hk))⟩
theorem own_reads {w : World} {base : Nat} {e : TypeId} {K n : Nat} {v : Value} {xs : List Value} (ho : w.ownsRow base e K v n xs) : ∃ A c, v = .slice A n c ∧ n ≤ c ∧ c ≤ maxLen ∧ (A = none → n = 0 ∧ c = 0) ∧ Reads w w.heap.size A xs := by
 have hl := ho.1
 rcases ho.2 with ⟨rfl, rfl⟩ | ⟨g, cap, cur, rfl, hg, hh, h1, h2, h3, h4⟩
 ·exact ⟨none, 0, rfl, Nat.le_refl _, by unfold maxLen; omega, fun _ => ⟨rfl, rfl⟩, .inl (List.eq_nil_of_length_eq_zero (by rw [hl]; omega))⟩
 ·refine ⟨_, _, rfl, h1, h2, (fun h => by cases h), .inr ⟨_, rfl, (Array.getElem?_eq_some_iff.1 hh).1, fun j u hu => ?_⟩⟩
  have hj : j < n * K := by have := (List.getElem?_eq_some_iff.1 hu).1; omega
  have e : (⟨g, 0, none⟩ : Addr).add j = ⟨g, j, none⟩ := by
   unfold Addr.add
   split
   ·rename_i h0
    rw [h0]
   ·simp
  rw [e, World.ownsRow.cellAt ho j hj, hu]
theorem tstamps_any {w : World} {B tb : Nat} {T : TabS} {fp : List Nat} (h : TabIn w B tb T fp) (hn : T.S.length * 24 ≤ 140737488351232) : Calls Tryz.prog 85 #[.pointer (some ⟨tb, 0, none⟩)] w fun e w' => ∃ v, e = .returned v ∧ w'.ownsRow w.heap.size 135 2 v T.S.length (T.S.flatMap stEnc) ∧ Below w.heap.size w w' := by
 obtain ⟨⟨fv, sv, mb, nb, n, m, D, E, _, h1, _, h3, _⟩, _⟩ := h
 obtain ⟨A, c, rfl, _, _, hA, hr⟩ := own_reads h3
 have c1 : w.cell? ⟨tb, 3, none⟩ = some (.slice A T.S.length c) := cell_of_blk h1 rfl
 have hc := clone_stamps A T.S.length c (T.S.flatMap stEnc) w hr (stEnc_lenAll _) (stEnc_one _) hA hn
 have HC := Lib.hid hc
 clear h1 h3 hc hr
 go_enter Tryz.func85, Tryz.ntmps85
 go_wp2_with fail
 refine HC.out.mono ?_
 rintro e w1 ⟨v, rfl, ho, hb⟩
 have HO := Lib.hid ho
 have HB := Lib.hid hb
 clear ho hb
 go_wp2
 go_ret
 exact ⟨_, rfl, HO.out, HB.out⟩
end Go.Proofs.YtilcofpceadpbaaGreatDoor
