/-
 HeapApart: part 23 of what the claim rests on.
-/
import Derived.Test.YtilcofpceadpbaaGreatDoorA14
import Derived.Test.YtilcofpceadpbaaGreatDoorA21
set_option linter.unusedVariables false
set_option linter.unusedSimpArgs false
set_option maxHeartbeats 64000000
namespace Go.Proofs.YtilcofpceadpbaaGreatDoor
open Go.ChangeShapes Go.WideShapes Go.ChangeAt Go.RowKit Go.Maps

def FoundN (p : Prop) (w : World) (e : Ending) (w' : World) : Prop := Below w.heap.size w w' ∧ ((p ∧ ∃ i : Nat, e = .returned (.int .i64 i)) ∨ (¬ p ∧ e = .returned (.int .i64 (-1))))
theorem fd_len (f : Fd) : (fdEnc f).length = 8 := rfl
theorem st_len (s : St) : (stEnc s).length = 2 := rfl
set_option maxRecDepth 100000 in
theorem indexf_fd (xs : List Fd) (A : Option Addr) (c : Nat) (w : World) (b1 : Nat) (P : Fd → Bool) (hr : Reads w w.heap.size A (xs.flatMap fdEnc)) (hn : xs.length ≤ 1000000000) (HC : ∀ (W : World) (x : Fd), Below w.heap.size w W → Calls Tryz.prog 83 #[.agg #[.int .i64 x.1.kind, .int .i64 x.1.n, .string x.1.s, .int .u64 (x.1.label : Int), .int .i64 x.2.kind, .int .i64 x.2.n, .string x.2.s, .int .u64 (x.2.label : Int)], .pointer (some ⟨b1, 0, none⟩)] W (RetB (.bool (P x)) W)) :
  Calls Tryz.prog 108 #[.slice A xs.length c, .func (.func 83) #[] #[.pointer (some ⟨b1, 0, none⟩)]] w (FoundN (∃ x ∈ xs, P x = true) w) := by
 have hcf : ∀ args W, (callFunc 83 args).run Tryz.prog W = .ok (.enter 83 args) W := fun _ _ => rfl
 obtain ⟨n1, hn1⟩ : ∃ n, n = xs.length := ⟨_, rfl⟩
 rw [← hn1] at hn
 rw [← hn1]
 have HR := Lib.hid hr
 have HI := Lib.hid HC
 have HN := Lib.hid hn1
 clear hr HC hn1
 go_enter Tryz.func108, Tryz.ntmps108
 go_wp2_with fail
 go_loopw [8] (fun i wr => ∃ k : Nat, k ≤ n1 ∧ i = .int .i64 k ∧ Hid (∀ (j : Nat) (x : Fd), j < k → xs[j]? = some x → P x = false) ∧ Hid (Below w.heap.size w wr)) (fun i _ => n1 - (intOf i).toNat)
 case atStart => exact ⟨0, by omega, rfl, Lib.hid (fun j x hj => by omega), Lib.hid (Below.refl _ _)⟩
 case round =>
  obtain ⟨k, hk, rfl, HK, HB⟩ := hrel
  by_cases hlt : k < n1
  ·obtain ⟨x, hx⟩ : ∃ x, xs[k]? = some x := ⟨_, List.getElem?_eq_getElem (by rw [← HN.out]; exact hlt)⟩
   obtain ⟨ad, hA, hab, hcell⟩ := (HR.out.below HB.out).at (flatMap_ne (K := 8) fd_len (by omega) hx)
   have x0 := elem_zero (K := 8) fd_len hcell hx (by omega) (show (fdEnc x)[0]? = some (.int .i64 x.1.kind) from rfl)
   have x1 := elem_at (K := 8) fd_len hcell hx 1 (by omega) (by omega) (show (fdEnc x)[1]? = some (.int .i64 x.1.n) from rfl)
   have x2 := elem_at (K := 8) fd_len hcell hx 2 (by omega) (by omega) (show (fdEnc x)[2]? = some (.string x.1.s) from rfl)
   have x3 := elem_at (K := 8) fd_len hcell hx 3 (by omega) (by omega) (show (fdEnc x)[3]? = some (.int .u64 (x.1.label : Int)) from rfl)
   have x4 := elem_at (K := 8) fd_len hcell hx 4 (by omega) (by omega) (show (fdEnc x)[4]? = some (.int .i64 x.2.kind) from rfl)
   have x5 := elem_at (K := 8) fd_len hcell hx 5 (by omega) (by omega) (show (fdEnc x)[5]? = some (.int .i64 x.2.n) from rfl)
   have x6 := elem_at (K := 8) fd_len hcell hx 6 (by omega) (by omega) (show (fdEnc x)[6]? = some (.string x.2.s) from rfl)
   have x7 := elem_at (K := 8) fd_len hcell hx 7 (by omega) (by omega) (show (fdEnc x)[7]? = some (.int .u64 (x.2.label : Int)) from rfl)
   have m1 : (ad.add (k * 8)).block < wr.heap.size := by rw [block_add']; exact Nat.lt_of_lt_of_le hab HB.out.size
   have hk' : (k : Int) < (n1 : Int) := by omega
   have hk0 : (0 : Int) ≤ k := by omega
   have hcall := HI.out wr x HB.out
   have HC := Lib.hid hcall
   have HX := Lib.hid hx
   rw [hA]
   clear hcall hx hab hA hcell
   cases hxy : P x with
   | true =>
    rw [hxy] at HC
    have HP := Lib.hid (show ∃ x ∈ xs, P x = true from ⟨x, List.mem_of_getElem? HX.out, hxy⟩)
    clear hxy
    go_wp2_with fail
    refine HC.out.mono ?_
    rintro e w5 ⟨rfl, hb5⟩
    have HF := Lib.hid (show FoundN (∃ x ∈ xs, P x = true) w (.returned (.int .i64 (k : Int))) w5 from ⟨HB.out.trans (hb5.mono HB.out.size), .inl ⟨HP.out, k, rfl⟩⟩)
    clear hb5
    go_wp2
    go_ret
    exact HF.out
   | false =>
    rw [hxy] at HC
    have HK2 := Lib.hid (show ∀ (j : Nat) (x : Fd), j < k + 1 → xs[j]? = some x → P x = false from fun j y hj hy => by
     rcases Nat.lt_or_ge j k with h1 | h1
     ·exact HK.out j y h1 hy
     ·obtain rfl : j = k := by omega
      rw [HX.out] at hy
      obtain rfl := Option.some.inj hy
      exact hxy)
    clear hxy
    go_wp2_with fail
    refine HC.out.mono ?_
    rintro e w5 ⟨rfl, hb5⟩
    have HB5 := Lib.hid (HB.out.trans (hb5.mono HB.out.size))
    clear hb5
    go_wp2_with fail
    go_roundw
    case rel => exact ⟨k + 1, by omega, by go_num, HK2, HB5⟩
    case measure => simp [intOf]; omega
  ·obtain rfl : k = n1 := by omega
   have HF := Lib.hid (show FoundN (∃ x ∈ xs, P x = true) w (.returned (.int .i64 (-1))) wr from ⟨HB.out, .inr ⟨(fun ⟨x, hx, h⟩ => by
    obtain ⟨j, hj⟩ := List.getElem?_of_mem hx
    have := HK.out j x (by have := (List.getElem?_eq_some_iff.1 hj).1; rw [← HN.out] at this; exact this) hj
    rw [h] at this
    cases this), rfl⟩⟩)
   go_wp2
   go_ret
   exact HF.out
set_option maxRecDepth 100000 in
theorem contf_fd (xs : List Fd) (A : Option Addr) (c : Nat) (w : World) (b1 : Nat) (P : Fd → Bool) (hr : Reads w w.heap.size A (xs.flatMap fdEnc)) (hn : xs.length ≤ 1000000000) (HC : ∀ (W : World) (x : Fd), Below w.heap.size w W → Calls Tryz.prog 83 #[.agg #[.int .i64 x.1.kind, .int .i64 x.1.n, .string x.1.s, .int .u64 (x.1.label : Int), .int .i64 x.2.kind, .int .i64 x.2.n, .string x.2.s, .int .u64 (x.2.label : Int)], .pointer (some ⟨b1, 0, none⟩)] W (RetB (.bool (P x)) W)) :
  Calls Tryz.prog 82 #[.slice A xs.length c, .func (.func 83) #[] #[.pointer (some ⟨b1, 0, none⟩)]] w (RetB (.bool (xs.any P)) w) := by
 have HI := Lib.hid (indexf_fd xs A c w b1 P hr hn HC)
 have HT := Lib.hid (show ((∃ x ∈ xs, P x = true) → xs.any P = true) ∧ (¬ (∃ x ∈ xs, P x = true) → xs.any P = false) from ⟨fun h => by simpa using h, fun h => by
  cases he : xs.any P
  ·rfl
  ·exact absurd (by simpa using he) h⟩)
 clear hr HC
 go_enter Tryz.func82, Tryz.ntmps82
 go_wp2_with fail
 refine HI.out.mono ?_
 rintro e w1 ⟨hb1, ⟨hp, i, rfl⟩ | ⟨hp, rfl⟩⟩
 ·have HF := Lib.hid (show RetB (.bool (xs.any P)) w (.returned (.bool true)) w1 from ⟨by rw [HT.out.1 hp], hb1⟩)
  clear hp hb1
  go_wp2
  go_ret
  exact HF.out
 ·have HF := Lib.hid (show RetB (.bool (xs.any P)) w (.returned (.bool false)) w1 from ⟨by rw [HT.out.2 hp], hb1⟩)
  clear hp hb1
  go_wp2
  go_ret
  exact HF.out
set_option maxRecDepth 100000 in
theorem indexf_st (xs : List St) (A : Option Addr) (c : Nat) (w : World) (b1 b2 : Nat) (P : St → Bool) (hr : Reads w w.heap.size A (xs.flatMap stEnc)) (hn : xs.length ≤ 1000000000) (HC : ∀ (W : World) (x : St), Below w.heap.size w W → Calls Tryz.prog 86 #[.agg #[.string x.1, .int .i64 x.2], .pointer (some ⟨b1, 0, none⟩), .pointer (some ⟨b2, 0, none⟩)] W (RetB (.bool (P x)) W)) :
  Calls Tryz.prog 109 #[.slice A xs.length c, .func (.func 86) #[] #[.pointer (some ⟨b1, 0, none⟩), .pointer (some ⟨b2, 0, none⟩)]] w (FoundN (∃ x ∈ xs, P x = true) w) := by
 have hcf : ∀ args W, (callFunc 86 args).run Tryz.prog W = .ok (.enter 86 args) W := fun _ _ => rfl
 obtain ⟨n1, hn1⟩ : ∃ n, n = xs.length := ⟨_, rfl⟩
 rw [← hn1] at hn
 rw [← hn1]
 have HR := Lib.hid hr
 have HI := Lib.hid HC
 have HN := Lib.hid hn1
 clear hr HC hn1
 go_enter Tryz.func109, Tryz.ntmps109
 go_wp2_with fail
 go_loopw [8] (fun i wr => ∃ k : Nat, k ≤ n1 ∧ i = .int .i64 k ∧ Hid (∀ (j : Nat) (x : St), j < k → xs[j]? = some x → P x = false) ∧ Hid (Below w.heap.size w wr)) (fun i _ => n1 - (intOf i).toNat)
 case atStart => exact ⟨0, by omega, rfl, Lib.hid (fun j x hj => by omega), Lib.hid (Below.refl _ _)⟩
 case round =>
  obtain ⟨k, hk, rfl, HK, HB⟩ := hrel
  by_cases hlt : k < n1
  ·obtain ⟨x, hx⟩ : ∃ x, xs[k]? = some x := ⟨_, List.getElem?_eq_getElem (by rw [← HN.out]; exact hlt)⟩
   obtain ⟨ad, hA, hab, hcell⟩ := (HR.out.below HB.out).at (flatMap_ne (K := 2) st_len (by omega) hx)
   have x0 := elem_zero (K := 2) st_len hcell hx (by omega) (show (stEnc x)[0]? = some (.string x.1) from rfl)
   have x1 := elem_at (K := 2) st_len hcell hx 1 (by omega) (by omega) (show (stEnc x)[1]? = some (.int .i64 x.2) from rfl)
   have m1 : (ad.add (k * 2)).block < wr.heap.size := by rw [block_add']; exact Nat.lt_of_lt_of_le hab HB.out.size
   have hk' : (k : Int) < (n1 : Int) := by omega
   have hk0 : (0 : Int) ≤ k := by omega
   have hcall := HI.out wr x HB.out
   have HC := Lib.hid hcall
   have HX := Lib.hid hx
   rw [hA]
   clear hcall hx hab hA hcell
   cases hxy : P x with
   | true =>
    rw [hxy] at HC
    have HP := Lib.hid (show ∃ x ∈ xs, P x = true from ⟨x, List.mem_of_getElem? HX.out, hxy⟩)
    clear hxy
    go_wp2_with fail
    refine HC.out.mono ?_
    rintro e w5 ⟨rfl, hb5⟩
    have HF := Lib.hid (show FoundN (∃ x ∈ xs, P x = true) w (.returned (.int .i64 (k : Int))) w5 from ⟨HB.out.trans (hb5.mono HB.out.size), .inl ⟨HP.out, k, rfl⟩⟩)
    clear hb5
    go_wp2
    go_ret
    exact HF.out
   | false =>
    rw [hxy] at HC
    have HK2 := Lib.hid (show ∀ (j : Nat) (x : St), j < k + 1 → xs[j]? = some x → P x = false from fun j y hj hy => by
     rcases Nat.lt_or_ge j k with h1 | h1
     ·exact HK.out j y h1 hy
     ·obtain rfl : j = k := by omega
      rw [HX.out] at hy
      obtain rfl := Option.some.inj hy
      exact hxy)
    clear hxy
    go_wp2_with fail
    refine HC.out.mono ?_
    rintro e w5 ⟨rfl, hb5⟩
    have HB5 := Lib.hid (HB.out.trans (hb5.mono HB.out.size))
    clear hb5
    go_wp2_with fail
    go_roundw
    case rel => exact ⟨k + 1, by omega, by go_num, HK2, HB5⟩
    case measure => simp [intOf]; omega
  ·obtain rfl : k = n1 := by omega
   have HF := Lib.hid (show FoundN (∃ x ∈ xs, P x = true) w (.returned (.int .i64 (-1))) wr from ⟨HB.out, .inr ⟨(fun ⟨x, hx, h⟩ => by
    obtain ⟨j, hj⟩ := List.getElem?_of_mem hx
    have := HK.out j x (by have := (List.getElem?_eq_some_iff.1 hj).1; rw [← HN.out] at this; exact this) hj
    rw [h] at this
    cases this), rfl⟩⟩)
   go_wp2
   go_ret
   exact HF.out
set_option maxRecDepth 100000 in
theorem contf_st (xs : List St) (A : Option Addr) (c : Nat) (w : World) (b1 b2 : Nat) (P : St → Bool) (hr : Reads w w.heap.size A (xs.flatMap stEnc)) (hn : xs.length ≤ 1000000000) (HC : ∀ (W : World) (x : St), Below w.heap.size w W → Calls Tryz.prog 86 #[.agg #[.string x.1, .int .i64 x.2], .pointer (some ⟨b1, 0, none⟩), .pointer (some ⟨b2, 0, none⟩)] W (RetB (.bool (P x)) W)) :
  Calls Tryz.prog 84 #[.slice A xs.length c, .func (.func 86) #[] #[.pointer (some ⟨b1, 0, none⟩), .pointer (some ⟨b2, 0, none⟩)]] w (RetB (.bool (xs.any P)) w) := by
 have HI := Lib.hid (indexf_st xs A c w b1 b2 P hr hn HC)
 have HT := Lib.hid (show ((∃ x ∈ xs, P x = true) → xs.any P = true) ∧ (¬ (∃ x ∈ xs, P x = true) → xs.any P = false) from ⟨fun h => by simpa using h, fun h => by
  cases he : xs.any P
  ·rfl
  ·exact absurd (by simpa using he) h⟩)
 clear hr HC
 go_enter Tryz.func84, Tryz.ntmps84
 go_wp2_with fail
 refine HI.out.mono ?_
 rintro e w1 ⟨hb1, ⟨hp, i, rfl⟩ | ⟨hp, rfl⟩⟩
 ·have HF := Lib.hid (show RetB (.bool (xs.any P)) w (.returned (.bool true)) w1 from ⟨by rw [HT.out.1 hp], hb1⟩)
  clear hp hb1
  go_wp2
  go_ret
  exact HF.out
 ·have HF := Lib.hid (show RetB (.bool (xs.any P)) w (.returned (.bool false)) w1 from ⟨by rw [HT.out.2 hp], hb1⟩)
  clear hp hb1
  go_wp2
  go_ret
  exact HF.out
set_option maxRecDepth 100000 in
theorem fresh1_any (x : Fd) (key : VV) (b1 : Nat) (w : World) (hb : w.heap[b1]? = some (.cells #[.int .i64 key.kind, .int .i64 key.n, .string key.s, .int .u64 (key.label : Int)] 26 (0, 0))) : Calls Tryz.prog 83 #[.agg #[.int .i64 x.1.kind, .int .i64 x.1.n, .string x.1.s, .int .u64 (x.1.label : Int), .int .i64 x.2.kind, .int .i64 x.2.n, .string x.2.s, .int .u64 (x.2.label : Int)], .pointer (some ⟨b1, 0, none⟩)] w (RetB (.bool (sameV x.1 key)) w) := by
 obtain ⟨b0, hb0⟩ : ∃ b, b = w.heap.size := ⟨_, rfl⟩
 have HE0 := Lib.hid hb0
 have HB := Lib.hid hb
 clear hb0 hb
 go_enter Tryz.func83, Tryz.ntmps83
 go_upto_region 1 with fail
 rw [← HE0.out]
 refine gen_wp fun W hW => ?_
 have HB0 := Lib.hid (show W.heap[b0]? = some (.cells #[.int .i64 x.1.kind, .int .i64 x.1.n, .string x.1.s, .int .u64 (x.1.label : Int), .int .i64 x.2.kind, .int .i64 x.2.n, .string x.2.s, .int .u64 (x.2.label : Int)] 92 (0, 0)) by rw [← hW, HE0.out]; exact heap_new_at _ _ _ (by first | rfl | simp))
 have HB1 := Lib.hid (show W.heap[b1]? = some (.cells #[.int .i64 key.kind, .int .i64 key.n, .string key.s, .int .u64 (key.label : Int)] 26 (0, 0)) by rw [← hW]; exact blk_alloc HB.out _)
 have HW := Lib.hid (show Below w.heap.size w W by rw [← hW]; exact (Below.refl _ _).alloc (Nat.le_refl _) _)
 clear hW
 obtain ⟨p0, p1, p2, p3, p4, p5, p6, p7, pf0, pf1, pf2, pf3, pf4, pf5, pf6, pf7, pl⟩ := blk_8 HB0.out
 obtain ⟨q0, q1, q2, q3, qf0, qf1, qf2, qf3, ql⟩ := blk_4 HB1.out
 have HS := Lib.hid (show Calls Tryz.prog 67 #[.agg #[.int .i64 x.1.kind, .int .i64 x.1.n, .string x.1.s, .int .u64 (x.1.label : Int)], .agg #[.int .i64 key.kind, .int .i64 key.n, .string key.s, .int .u64 (key.label : Int)]] W (RetB (.bool (sameV x.1 key)) W) from same_any x.1 key W)
 go_wp2_with fail
 refine HS.out.mono ?_
 rintro e w1 ⟨rfl, hb1⟩
 have HW1 := Lib.hid (HW.out.trans (hb1.mono HW.out.size))
 go_wp2
 go_ret
 exact ⟨rfl, HW1.out⟩
def barsB (key v : VV) (s : St) : Bool := decide (key.kind = 3) && (s.1.toList == key.s.toList) && !fitsB s.2 v.kind
set_option maxRecDepth 100000 in
theorem allowed1_any (x : St) (key v : VV) (b1 b2 : Nat) (w : World) (hb : w.heap[b1]? = some (.cells #[.int .i64 key.kind, .int .i64 key.n, .string key.s, .int .u64 (key.label : Int)] 26 (0, 0))) (hb2 : w.heap[b2]? = some (.cells #[.int .i64 v.kind, .int .i64 v.n, .string v.s, .int .u64 (v.label : Int)] 26 (0, 0))) : Calls Tryz.prog 86 #[.agg #[.string x.1, .int .i64 x.2], .pointer (some ⟨b1, 0, none⟩), .pointer (some ⟨b2, 0, none⟩)] w (RetB (.bool (barsB key v x)) w) := by
 obtain ⟨b0, hb0⟩ : ∃ b, b = w.heap.size := ⟨_, rfl⟩
 have HE0 := Lib.hid hb0
 have HB := Lib.hid (And.intro hb hb2)
 clear hb0 hb hb2
 go_enter Tryz.func86, Tryz.ntmps86
 go_upto_region 1 with fail
 rw [← HE0.out]
 refine gen_wp fun W hW => ?_
 have HB0 := Lib.hid (show W.heap[b0]? = some (.cells #[.string x.1, .int .i64 x.2] 135 (0, 0)) by rw [← hW, HE0.out]; exact heap_new_at _ _ _ (by first | rfl | simp))
 have HB1 := Lib.hid (show W.heap[b1]? = some (.cells #[.int .i64 key.kind, .int .i64 key.n, .string key.s, .int .u64 (key.label : Int)] 26 (0, 0)) by rw [← hW]; exact blk_alloc HB.out.1 _)
 have HB2 := Lib.hid (show W.heap[b2]? = some (.cells #[.int .i64 v.kind, .int .i64 v.n, .string v.s, .int .u64 (v.label : Int)] 26 (0, 0)) by rw [← hW]; exact blk_alloc HB.out.2 _)
 have HW := Lib.hid (show Below w.heap.size w W by rw [← hW]; exact (Below.refl _ _).alloc (Nat.le_refl _) _)
 clear hW
 have p0 : W.cell? ⟨b0, 0, none⟩ = some (.string x.1) := cell_of_blk HB0.out rfl
 have p1 : W.cell? ⟨b0, 1, none⟩ = some (.int .i64 x.2) := cell_of_blk HB0.out rfl
 have pf0 := free_of_blk (i := 0) HB0.out
 have pf1 := free_of_blk (i := 1) HB0.out
 have pl := blk_lt HB0.out
 obtain ⟨q0, q1, q2, q3, qf0, qf1, qf2, qf3, ql⟩ := blk_4 HB1.out
 obtain ⟨s0, s1, s2, s3, sf0, sf1, sf2, sf3, sl⟩ := blk_4 HB2.out
 by_cases hk : key.kind = 3
 ·cases hs : (x.1.toList == key.s.toList) with
  | false =>
   have HF := Lib.hid (show barsB key v x = false by unfold barsB; rw [hs]; simp)
   go_wp2
   go_ret
   exact ⟨by rw [HF.out]; rfl, HW.out⟩
  | true =>
   by_cases h0 : v.kind < 0
   ·have HF := Lib.hid (show barsB key v x = true by unfold barsB; rw [hs, decide_eq_true hk]; simp [fitsB]; omega)
    go_wp2
    go_ret
    exact ⟨by rw [HF.out]; rfl, HW.out⟩
   by_cases h1 : 62 < v.kind
   ·have HF := Lib.hid (show barsB key v x = true by unfold barsB; rw [hs, decide_eq_true hk]; simp [fitsB]; omega)
    go_wp2
    go_ret
    exact ⟨by rw [HF.out]; rfl, HW.out⟩
   ·obtain ⟨n, hn⟩ : ∃ n : Nat, v.kind = (n : Int) := ⟨v.kind.toNat, by omega⟩
    have HF := Lib.hid (show barsB key v x = ((bits .and .i64 (x.2 / 2 ^ n) 1) == 0) by
     unfold barsB
     rw [hs, decide_eq_true hk, hn, i64_and1]
     have h2 : (n : Int) ≤ 62 := by omega
     have h3 : (x.2 / 2 ^ n) % 2 = 0 ∨ (x.2 / 2 ^ n) % 2 = 1 := by omega
     rcases h3 with h3 | h3 <;> simp [fitsB, h2, h3])
    have h0' : (0 : Int) ≤ n := by omega
    have h1' : (n : Int) ≤ 62 := by omega
    rw [hn] at s0
    clear h0 h1
    go_wp2
    go_ret
    exact ⟨by rw [HF.out]; simp; intro hq; omega, HW.out⟩
 ·have HF := Lib.hid (show barsB key v x = false by unfold barsB; rw [decide_eq_false hk]; simp)
  go_wp2
  go_ret
  exact ⟨by rw [HF.out]; rfl, HW.out⟩
def freshB (T : TabS) (key : VV) : Bool := isKey key && !(T.F.any fun f => sameV f.1 key)
def mayB (T : TabS) (key v : VV) : Bool := !(T.S.any (barsB key v))
set_option maxRecDepth 100000 in
theorem fresh_any {w : World} {B tb : Nat} {T : TabS} {fp : List Nat} (h : TabIn w B tb T fp) (key : VV) (hn : T.F.length ≤ 1000000) :
  Calls Tryz.prog 42 #[.pointer (some ⟨tb, 0, none⟩), .agg #[.int .i64 key.kind, .int .i64 key.n, .string key.s, .int .u64 (key.label : Int)]] w (RetB (.bool (freshB T key)) w) := by
 have hmf := hmf_
 obtain ⟨b1, hb1⟩ : ∃ b, b = w.heap.size := ⟨_, rfl⟩
 have HE1 := Lib.hid hb1
 have HT := Lib.hid (And.intro h hn)
 clear hb1 h hn
 go_enter Tryz.func42, Tryz.ntmps42
 go_upto_region 1 with fail
 rw [← HE1.out]
 refine gen_wp fun W hW => ?_
 have HB1 := Lib.hid (show W.heap[b1]? = some (.cells #[.int .i64 key.kind, .int .i64 key.n, .string key.s, .int .u64 (key.label : Int)] 26 (0, 0)) by rw [← hW, HE1.out]; exact heap_new_at _ _ _ (by first | rfl | simp))
 have HW := Lib.hid (show Below w.heap.size w W by rw [← hW]; exact (Below.refl _ _).alloc (Nat.le_refl _) _)
 clear hW
 obtain ⟨p0, p1, p2, p3, pf0, pf1, pf2, pf3, pl⟩ := blk_4 HB1.out
 have HCK := Lib.hid (show Calls Tryz.prog 81 #[.agg #[.int .i64 key.kind, .int .i64 key.n, .string key.s, .int .u64 (key.label : Int)]] W (RetB (.bool (checkV key)) W) from check_any key W)
 by_cases hk : key.kind = 2 ∨ key.kind = 3
 ·have HKK := Lib.hid (show isKey key = checkV key by unfold isKey; rcases hk with hk | hk <;> simp [hk])
  have hk2 : ((key.kind != 2) && (key.kind != 3)) = false := by rcases hk with hk | hk <;> simp [hk]
  obtain ⟨ck, hck⟩ : ∃ ck, ck = checkV key := ⟨_, rfl⟩
  have HCKE := Lib.hid hck
  rw [← hck] at HCK
  clear hck
  have hrest : ∀ W1, Below w.heap.size w W1 → W1.heap[b1]? = some (.cells #[.int .i64 key.kind, .int .i64 key.n, .string key.s, .int .u64 (key.label : Int)] 26 (0, 0)) → True := fun _ _ _ => trivial
  clear hrest
  by_cases hk3 : key.kind = 2
  all_goals
   try have hk4 : key.kind = 3 := hk.resolve_left hk3
   have HK5 := Lib.hid (And.intro hk hk2)
   have HC2 := HCK.out
   try rw [hk4] at HC2
   try rw [hk3] at HC2
   have HC3 := Lib.hid HC2
   clear hk hk2 HC2
   go_wp2_with fail
   refine HC3.out.mono ?_
   rintro e w1 ⟨rfl, hb⟩
   have D1 := Lib.hid (below_blk hb HB1.out)
   have DW := Lib.hid (HW.out.trans (hb.mono HW.out.size))
   clear hb
   cases ck with
   | false =>
    have HF := Lib.hid (show freshB T key = false by unfold freshB; rw [HKK.out, ← HCKE.out]; rfl)
    go_wp2
    go_ret
    exact ⟨by rw [HF.out]; rfl, DW.out⟩
   | true =>
    have HFI := Lib.hid (tfields_any (HT.out.1.kept (Fr.of_below DW.out []) (by simp)) (by have := HT.out.2; omega))
    go_wp2_with fail
    refine HFI.out.mono ?_
    rintro e w2 ⟨v2, rfl, hown, hb2⟩
    obtain ⟨A2, c2, rfl, _, _, _, hrd⟩ := own_reads hown
    have E1 := Lib.hid (below_blk hb2 D1.out)
    have EW := Lib.hid (DW.out.trans (hb2.mono DW.out.size))
    have HCF := Lib.hid (contf_fd T.F A2 c2 w2 b1 (fun f => sameV f.1 key) hrd (by have := HT.out.2; omega) (fun W' x hb' => fresh1_any x key b1 W' (below_blk hb' E1.out)))
    clear hown hb2 hrd
    go_wp2_with fail
    refine HCF.out.mono ?_
    rintro e w3 ⟨rfl, hb3⟩
    have FW := Lib.hid (EW.out.trans (hb3.mono EW.out.size))
    have HF := Lib.hid (show freshB T key = !(T.F.any fun f => sameV f.1 key) by unfold freshB; rw [HKK.out, ← HCKE.out]; rfl)
    clear hb3
    go_wp2
    go_ret
    exact ⟨by rw [HF.out]; rfl, FW.out⟩
 ·have hk3 : ¬ key.kind = 2 := fun e => hk (.inl e)
  have hk4 : ¬ key.kind = 3 := fun e => hk (.inr e)
  have HF := Lib.hid (show freshB T key = false by unfold freshB isKey; simp [hk3, hk4])
  go_wp2
  go_ret
  exact ⟨by rw [HF.out]; rfl, HW.out⟩
set_option maxRecDepth 100000 in
theorem allowed_any {w : World} {B tb : Nat} {T : TabS} {fp : List Nat} (h : TabIn w B tb T fp) (key v : VV) (hn : T.S.length ≤ 1000000) :
  Calls Tryz.prog 46 #[.pointer (some ⟨tb, 0, none⟩), .agg #[.int .i64 key.kind, .int .i64 key.n, .string key.s, .int .u64 (key.label : Int)], .agg #[.int .i64 v.kind, .int .i64 v.n, .string v.s, .int .u64 (v.label : Int)]] w (RetB (.bool (mayB T key v)) w) := by
 have hmf := hmf_
 obtain ⟨b1, hb1⟩ : ∃ b, b = w.heap.size := ⟨_, rfl⟩
 obtain ⟨b2, hb2⟩ : ∃ b, b = w.heap.size + 1 := ⟨_, rfl⟩
 have HE1 := Lib.hid (And.intro hb1 hb2)
 have HT := Lib.hid (And.intro h hn)
 clear hb1 hb2 h hn
 go_enter Tryz.func46, Tryz.ntmps46
 go_upto_region 1 with fail
 rw [← HE1.out.2, ← HE1.out.1]
 refine gen_wp fun W hW => ?_
 have HB1 := Lib.hid (show W.heap[b1]? = some (.cells #[.int .i64 key.kind, .int .i64 key.n, .string key.s, .int .u64 (key.label : Int)] 26 (0, 0)) by rw [← hW, HE1.out.1]; exact blk_alloc (heap_new_at _ _ _ (by first | rfl | simp)) _)
 have HB2 := Lib.hid (show W.heap[b2]? = some (.cells #[.int .i64 v.kind, .int .i64 v.n, .string v.s, .int .u64 (v.label : Int)] 26 (0, 0)) by rw [← hW, HE1.out.2]; exact heap_new_at _ _ _ (by first | rfl | simp))
 have HW := Lib.hid (show Below w.heap.size w W by rw [← hW]; exact ((Below.refl _ _).alloc (Nat.le_refl _) _).alloc (by simp) _)
 clear hW
 have HST := Lib.hid (tstamps_any (HT.out.1.kept (Fr.of_below HW.out []) (by simp)) (by have := HT.out.2; omega))
 go_wp2_with fail
 refine HST.out.mono ?_
 rintro e w2 ⟨v2, rfl, hown, hb2⟩
 obtain ⟨A2, c2, rfl, _, _, _, hrd⟩ := own_reads hown
 have E1 := Lib.hid (below_blk hb2 HB1.out)
 have E2 := Lib.hid (below_blk hb2 HB2.out)
 have EW := Lib.hid (HW.out.trans (hb2.mono HW.out.size))
 have HCF := Lib.hid (contf_st T.S A2 c2 w2 b1 b2 (barsB key v) hrd (by have := HT.out.2; omega) (fun W' x hb' => allowed1_any x key v b1 b2 W' (below_blk hb' E1.out) (below_blk hb' E2.out)))
 clear hown hb2 hrd
 go_wp2_with fail
 refine HCF.out.mono ?_
 rintro e w3 ⟨rfl, hb3⟩
 have FW := Lib.hid (EW.out.trans (hb3.mono EW.out.size))
 clear hb3
 go_wp2
 go_ret
 exact ⟨rfl, FW.out⟩
end Go.Proofs.YtilcofpceadpbaaGreatDoor
