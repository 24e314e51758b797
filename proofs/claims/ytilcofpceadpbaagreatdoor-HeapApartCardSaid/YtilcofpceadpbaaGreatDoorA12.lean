/-
 HeapApart: part 12 of what the claim rests on.
-/
import Derived.Test.YtilcofpceadpbaaGreatDoorA11
import Derived.Laws.Bits128
import Derived.Deep.RegionHeld3
set_option linter.unusedVariables false
set_option linter.unusedSimpArgs false
set_option maxHeartbeats 64000000
namespace Go.Proofs.YtilcofpceadpbaaGreatDoor
open Go.ChangeShapes Go.WideShapes Go.ChangeAt Go.RowKit

def fitsB (kinds kind : Int) : Bool := decide (0 ≤ kind ∧ kind ≤ 62) && (kinds / 2 ^ kind.toNat) % 2 == 1
theorem i64_and1 (n : Int) : bits .and .i64 n 1 = n % 2 := by
 have h1 : (BitVec.ofInt 64 1).toNat = 2 ^ 1 - 1 := by decide
 have key : (BitVec.ofInt 64 n &&& BitVec.ofInt 64 1).toNat = (n % ((2 ^ 64 : Nat) : Int)).toNat % 2 ^ 1 := by
  rw [BitVec.toNat_and, BitVec.toNat_ofInt, h1, Nat.and_two_pow_sub_one_eq_mod]
 show IntKind.i64.wrap ((BitVec.ofInt 64 n &&& BitVec.ofInt 64 1).toNat : Nat) = n % 2
 rw [key, IntKind.wrap_i64]
 omega
theorem fits_any (a k : Int) (w : World) : Calls Tryz.prog 88 #[.int .i64 a, .int .i64 k] w (Ret (.bool (fitsB a k)) w) := by
 by_cases h0 : k < 0
 ·have h0' : ¬ 0 ≤ k := by omega
  have e : fitsB a k = false := by simp [fitsB, h0']
  rw [e]
  go_enter Tryz.func88, Tryz.ntmps88
  go_wp2
  go_ret
  exact ⟨rfl, rfl⟩
 by_cases h1 : 62 < k
 ·have h0' : 0 ≤ k := by omega
  have h1' : ¬ k ≤ 62 := by omega
  have e : fitsB a k = false := by simp [fitsB, h1']
  rw [e]
  go_enter Tryz.func88, Tryz.ntmps88
  go_wp2
  go_ret
  exact ⟨rfl, rfl⟩
 ·obtain ⟨n, rfl⟩ : ∃ n : Nat, k = (n : Int) := ⟨k.toNat, by omega⟩
  have h0' : (0 : Int) ≤ n := by omega
  have h1' : (n : Int) ≤ 62 := by omega
  have e : fitsB a n = ((bits .and .i64 (a / 2 ^ n) 1) == 1) := by rw [i64_and1]; simp [fitsB, h1']
  rw [e]
  go_enter Tryz.func88, Tryz.ntmps88
  go_wp2
  go_ret
  exact ⟨by simp, rfl⟩
def allowsB (S : List St) (name : ByteArray) (k : Int) : Bool := S.all fun s => !(s.1.toList == name.toList) || fitsB s.2 k
structure StAt (w : World) (a : Addr) (x : St) : Prop where
 c0 : w.cell? a = some (.string x.1)
 c1 : w.cell? ⟨a.block, a.off + 1, none⟩ = some (.int .i64 x.2)
theorem st_at {w : World} {ad : Addr} {xs : List St} (hc : ∀ j u, (xs.flatMap stEnc)[j]? = some u → w.cell? (ad.add j) = some u) {k : Nat} {x : St} (hx : xs[k]? = some x) : StAt w (ad.add (k * 2)) x :=
 ⟨elem_zero (K := 2) (fun a => rfl) hc hx (by omega) rfl, elem_at (K := 2) (fun a => rfl) hc hx 1 (by omega) (by omega) rfl⟩
set_option maxRecDepth 100000 in
theorem allows_any (S : List St) (A : Option Addr) (c : Nat) (name : ByteArray) (k : Int) (w : World) (hr : Reads w w.heap.size A (S.flatMap stEnc)) (hn : S.length ≤ 9223372036854775807) (hk : -9223372036854775808 ≤ k ∧ k ≤ 9223372036854775807) :
  Calls Tryz.prog 97 #[.slice A S.length c, .string name, .int .i64 k] w (RetB (.bool (allowsB S name k)) w) := by
 have HR := Lib.hid hr
 clear hr
 go_enter Tryz.func97, Tryz.ntmps97
 go_wp2
 go_loopw [11] (fun i wr => ∃ j : Nat, j ≤ S.length ∧ i = .int .i64 j ∧ Below w.heap.size w wr ∧ Hid ((S.take j).all (fun s => !(s.1.toList == name.toList) || fitsB s.2 k) = true)) (fun i wr => S.length - (intOf i).toNat)
 case atStart => exact ⟨0, by omega, rfl, Below.refl _ _, Lib.hid rfl⟩
 case round =>
  obtain ⟨j, hj, rfl, hB, HA⟩ := hrel
  by_cases hlt : j < S.length
  ·obtain ⟨x, hx⟩ : ∃ x, S[j]? = some x := ⟨_, List.getElem?_eq_getElem hlt⟩
   obtain ⟨ad, rfl, hadb, hcell⟩ := (HR.out.below hB).at (flatMap_ne (K := 2) (fun a => rfl) (by omega) hx)
   obtain ⟨c0, c1⟩ := st_at hcell hx
   have hxm := List.mem_of_getElem? hx
   have HT := Lib.hid (show S.take (j + 1) = S.take j ++ [x] by rw [List.take_add_one, hx]; rfl)
   have hsz := hB.size
   have HB := Lib.hid hB
   obtain ⟨nm, kd⟩ := x
   clear hcell hB hx
   dsimp only at c0 c1
   have no : (!(nm.toList == name.toList) || fitsB kd k) = false → allowsB S name k = false := fun h => by
    unfold allowsB
    rw [List.all_eq_false]
    exact ⟨_, hxm, by simpa using h⟩
   have NO := Lib.hid no
   clear no hxm
   by_cases hnm : nm.toList = name.toList
   ·by_cases h0 : k < 0
    ·have e : allowsB S name k = false := NO.out (by simp [hnm, fitsB]; omega)
     rw [e]
     go_wp2
     go_ret
     exact ⟨rfl, HB.out.alloc hsz _⟩
    by_cases h1 : 62 < k
    ·have e : allowsB S name k = false := NO.out (by simp [hnm, fitsB]; omega)
     rw [e]
     go_wp2
     go_ret
     exact ⟨rfl, HB.out.alloc hsz _⟩
    ·obtain ⟨n, rfl⟩ : ∃ n : Nat, k = (n : Int) := ⟨k.toNat, by omega⟩
     have hf : fitsB kd n = !((bits .and .i64 (kd / 2 ^ n) 1) == 0) := by
      rw [i64_and1, Bool.eq_iff_iff]
      simp [fitsB]
      omega
     have h3 : (n : Int) ≤ 62 := by omega
     by_cases hz : (bits .and .i64 (kd / 2 ^ n) 1) = 0
     ·have e : allowsB S name n = false := NO.out (by simp [hnm, hf, hz])
      rw [e]
      go_wp2
      go_ret
      exact ⟨rfl, HB.out.alloc hsz _⟩
     ·go_wp2
      go_roundw
      case rel => exact ⟨j + 1, by omega, by go_num, HB.out.alloc hsz _, by rw [HT.out, List.all_append, HA.out]; exact Lib.hid (by simp [hf, hz])⟩
      case measure => simp [intOf]; omega
   ·go_wp2
    go_roundw
    case rel => exact ⟨j + 1, by omega, by go_num, HB.out.alloc hsz _, by rw [HT.out, List.all_append, HA.out]; exact Lib.hid (by simp [hnm])⟩
    case measure => simp [intOf]; omega
  ·obtain rfl : j = S.length := by omega
   have e : allowsB S name k = true := by
    have := HA.out
    rw [List.take_length] at this
    exact this
   go_wp2
   go_ret
   exact ⟨by rw [e]; rfl, hB⟩
end Go.Proofs.YtilcofpceadpbaaGreatDoor
namespace Go.Proofs.YtilcofpceadpbaaGreatDoor
open Go.ChangeShapes Go.WideShapes Go.ChangeAt Go.RowKit Go.Shelf

theorem FdAt.below {n : Nat} {w w' : World} {a : Addr} {x : Fd} (h : FdAt w a x) (hb : Below n w w') (ha : a.block < n) : FdAt w' a x :=
 ⟨(hb.cell ha).trans h.c0, (hb.cell (p := ⟨a.block, _, none⟩) ha).trans h.c1, (hb.cell (p := ⟨a.block, _, none⟩) ha).trans h.c2, (hb.cell (p := ⟨a.block, _, none⟩) ha).trans h.c3, (hb.cell (p := ⟨a.block, _, none⟩) ha).trans h.c4, (hb.cell (p := ⟨a.block, _, none⟩) ha).trans h.c5, (hb.cell (p := ⟨a.block, _, none⟩) ha).trans h.c6, (hb.cell (p := ⟨a.block, _, none⟩) ha).trans h.c7⟩
theorem cells_own {β : Type} (B : Nat) (cs : Array Value) (t : TypeId) : Own (fun (_ : β) W => W.heap[B]? = some (.cells cs t (0, 0))) := fun s X Y row hs hg hr =>
 blk_grown hs hg fun e => by
  obtain ⟨o, ho, hc⟩ := hr B e
  rw [show X.heap[B]? = _ from hs] at ho
  cases ho
  cases hc
theorem keep_blk {W w1 : World} {n₀ B b : Nat} {e tc : TypeId} {size k : Nat} {cs : Array Value} {v v' : Value} {xs : List Value} {tmp : Obj} (hb : W.heap[b]? = some (.cells cs tc (0, 0))) (hrow : W.ownsRow n₀ e size v k xs) (hte : e ≠ tc) (hne : b ≠ B) (hgrow : (W.alloc tmp).grownBy w1 v.ownBlock) : (w1.setCell ⟨B, 0, none⟩ v').heap[b]? = some (.cells cs tc (0, 0)) :=
 blk_far (blk_grown (blk_alloc hb tmp) hgrow fun e' => own_blk_ne hrow hb hte e'.symm) hne v'
def KpTab (n₀ B0 : Nat) (W W' : World) : Prop := Below n₀ W W' ∧ W'.heap[B0]? = W.heap[B0]?
theorem each_fn (p : Value) (w : World) (hp : p = .pointer none ∨ ∃ a, p = .pointer (some a)) : Calls Tryz.prog 78 #[p] w fun e w' =>
  e = .returned (.func (.func 105) #[] #[.pointer (some ⟨w.heap.size, 0, none⟩)]) ∧ w' = w.alloc (.cells #[p] 56) := by
 rcases hp with rfl | ⟨a, rfl⟩
 all_goals
  go_enter Tryz.func78, Tryz.ntmps78
  go_wp2
  go_ret
  exact ⟨rfl, rfl⟩
attribute [local go_sem] Oper.semAt_some
set_option maxRecDepth 100000 in
theorem each1_stops (n : Nat) (hn : 1 ≤ n) (p : Value) (F : List Fd) (n₀ B0 : Nat) (w : World) (hn₀ : n₀ ≤ w.heap.size) (hnx : F.length ≤ 9223372036854775807)
  (b0 : w.heap[B0]? = some (.cells #[p] 56 (0, 0))) (hL : ∀ W, Below n₀ w W → Calls Tryz.prog 19 #[p] W (Ret (.int .i64 (F.length : Int)) W))
  (hT : ∀ (i : Nat) (x : Fd), F[i]? = some x → ∃ tb ad c, p = .pointer (some ⟨tb, 0, none⟩) ∧ tb < n₀ ∧ w.cell? ⟨tb, 1, none⟩ = some (.slice (some ad) F.length c) ∧ ad.block < n₀ ∧ FdAt w (ad.add (i * 8)) x) :
  SeqStopsK Fence.wide n Tryz.prog 105 #[.pointer (some ⟨B0, 0, none⟩)] (fun f : Fd => #[.agg #[.int .i64 f.1.kind, .int .i64 f.1.n, .string f.1.s, .int .u64 (f.1.label : Int), .int .i64 f.2.kind, .int .i64 f.2.n, .string f.2.s, .int .u64 (f.2.label : Int)]])
   (KpTab n₀ B0) (fun ys => ys = F) (fun _ => True) F.length w := by
 intro l J Jx W hW hJ hJx hY h0
 have c0 : W.cell? ⟨B0, 0, none⟩ = some p := cell_of_blk (below_blk hW b0) rfl
 have hl := hL W (hW.mono hn₀)
 have hn0 : n₀ ≤ W.heap.size := Nat.le_trans hn₀ hW.size
 have HJ := Lib.hid hJ
 have HJx := Lib.hid hJx
 have HY := Lib.hid hY
 have HLn := Lib.hid hl
 have HWn := Lib.hid (hW.mono hn₀)
 have D0 := Lib.hid (below_blk hW b0)
 have HT := Lib.hid hT
 clear hJ hJx hY b0 hW hl hL hT hn₀
 refine callsIn_of_wp Tryz.func105 rfl trivial ?_ rfl
 simp only [Tryz.ntmps105, List.size_toArray, List.length_cons, List.length_nil, Nat.reduceAdd, Nat.reduceSub, Array.replicate_succ, Array.replicate_zero, List.push_toArray, List.append_toArray, List.nil_append, List.cons_append]
 gi_wp2_with (refine ⟨trivial, ?_⟩; gi_at_call 19; refine (callsIn_wide.2 HLn.out).mono ?_; rintro e w' ⟨rfl, rfl⟩)
 gi_loopw [6] (fun i wr => ∃ (k : Nat), k ≤ F.length ∧ i = .int .i64 k ∧ Hid (J (F.take k) wr) ∧ Below n₀ W wr ∧ wr.heap[B0]? = some (.cells #[p] 56 (0, 0)))
  (fun i wr => F.length - (intOf i).toNat)
 case atStart => exact ⟨0, by omega, rfl, Lib.hid h0, Below.refl _ _, D0.out⟩
 case round =>
  obtain ⟨k, hk, rfl, HJk, hB, d0⟩ := hrel
  by_cases hlt : k < F.length
  ·obtain ⟨x, hx⟩ : ∃ x, F[k]? = some x := ⟨_, List.getElem?_eq_getElem hlt⟩
   obtain ⟨tb, ad, c, rfl, htb, hc, hab, hf⟩ := HT.out k x hx
   have hBw := HWn.out.trans hB
   have hlt' : (k : Int) < (F.length : Int) := by omega
   have hk0 : (0 : Int) ≤ k := by omega
   have hab' : (ad.add (k * 8)).block < n₀ := by rw [block_add']; exact hab
   have c1 := (hBw.cell (p := ⟨tb, 1, none⟩) htb).trans hc
   obtain ⟨x0, x1, x2, x3, x4, x5, x6, x7⟩ := hf.below hBw hab'
   have q0 : wr.cell? ⟨B0, 0, none⟩ = some (.pointer (some ⟨tb, 0, none⟩)) := cell_of_blk d0 rfl
   have hsz := hB.size
   have HB := Lib.hid hB
   have E0 := Lib.hid d0
   have hll : (F.take k).length = k := by rw [List.length_take]; omega
   have HN := Lib.hid (show F.take (k + 1) = F.take k ++ [x] by rw [List.take_add_one, hx]; rfl)
   obtain ⟨fn, tmps, assign, body, hy, hR⟩ := HY.out _ x _ HJk.out (by omega)
   have HR := Lib.hid hR
   clear hx hB d0 c0 h0 hc hf hBw hR
   gi_wp2
   refine HR.out.mono ?_
   rintro e W3 (⟨rfl, hJ3, hk3⟩ | ⟨rfl, hJx3⟩)
   ·obtain ⟨k1, k2⟩ := hk3
    have K1 := Lib.hid k1
    have K2 := Lib.hid (k2.trans E0.out)
    have HJ3 := Lib.hid hJ3
    clear k1 k2 hJ3
    gi_wp2
    go_roundw
    case rel => exact ⟨k + 1, by omega, by go_num, by rw [HN.out]; exact HJ3, HB.out.trans K1.out, K2.out⟩
    case measure => simp [intOf]; omega
   ·gi_wp2
    refine bodyPost_ret (results_none rfl _ _ _) rfl ?_
    exact ⟨⟨_, rfl⟩, .inr ⟨_, trivial, hJx3⟩⟩
  ·obtain rfl : k = F.length := by omega
   have HJk' := HJk.out
   rw [List.take_length] at HJk'
   gi_wp2
   go_end0
   exact ⟨⟨_, rfl⟩, .inl ⟨_, rfl, HJk'⟩⟩
set_option maxRecDepth 100000 in
theorem fields_any (p : Value) (F : List Fd) (w : World) (hp : p = .pointer none ∨ ∃ a, p = .pointer (some a)) (hn : (F.length + 1) * 80 ≤ 140737488355328)
  (hL : ∀ W, Below w.heap.size w W → Calls Tryz.prog 19 #[p] W (Ret (.int .i64 (F.length : Int)) W))
  (hT : ∀ (i : Nat) (x : Fd), F[i]? = some x → ∃ tb ad c, p = .pointer (some ⟨tb, 0, none⟩) ∧ tb < w.heap.size ∧ w.cell? ⟨tb, 1, none⟩ = some (.slice (some ad) F.length c) ∧ ad.block < w.heap.size ∧ FdAt w (ad.add (i * 8)) x) :
  Calls Tryz.prog 40 #[p] w fun e w' => ∃ v, e = .returned v ∧ w'.ownsRow w.heap.size 92 8 v F.length (F.flatMap fdEnc) ∧ Below w.heap.size w w' := by
 obtain ⟨i0, hi, hz0, hz1, hz2⟩ := info_parts infoFd
 refine (callsIn_wide (n := 9)).1 ?_
 refine callsIn_of_wp_marks Tryz.func40 rfl trivial ?_ rfl
 simp only [Tryz.ntmps40, List.size_toArray, List.length_cons, List.length_nil, Nat.reduceAdd, Nat.reduceSub, Array.replicate_succ, Array.replicate_zero, List.push_toArray, List.append_toArray, List.nil_append, List.cons_append]
 gi_wp2_with (refine ⟨trivial, ?_⟩; gi_at_call 78; refine (callsIn_wide.2 (each_fn p _ hp)).mono ?_; rintro e w' ⟨rfl, rfl⟩)
 obtain ⟨W5, hW5⟩ : ∃ W5, W5 = ((w.alloc (.cells #[.slice none 0 0] 72)).alloc (.cells #[p] 56)) := ⟨_, rfl⟩
 rw [← hW5]
 have z5 : W5.heap.size = w.heap.size + 2 := by rw [hW5]; simp
 have hB5 : Below w.heap.size w W5 := by
  rw [hW5]
  exact ((Below.refl _ w).alloc (Nat.le_refl _) _).alloc (by simp) _
 have bO : Boxed W5 w.heap.size 72 (.slice none 0 0) := by
  rw [hW5]
  exact blk_alloc (heap_new_at _ _ _ rfl) _
 have d0 : W5.heap[w.heap.size + 1]? = some (.cells #[p] 56 (0, 0)) := by
  rw [hW5]
  exact heap_new_at _ _ _ (by simp)
 have hT5 : ∀ (i : Nat) (x : Fd), F[i]? = some x → ∃ tb ad c, p = .pointer (some ⟨tb, 0, none⟩) ∧ tb < w.heap.size ∧ W5.cell? ⟨tb, 1, none⟩ = some (.slice (some ad) F.length c) ∧ ad.block < w.heap.size ∧ FdAt W5 (ad.add (i * 8)) x := by
  intro i x hx
  obtain ⟨tb, ad, c, h1, h2, h3, h4, h5⟩ := hT i x hx
  have h4' : (ad.add (i * 8)).block < w.heap.size := by rw [block_add']; exact h4
  exact ⟨tb, ad, c, h1, h2, (hB5.cell h2).trans h3, h4, h5.below hB5 h4'⟩
 have hL5 : ∀ W, Below w.heap.size W5 W → Calls Tryz.prog 19 #[p] W (Ret (.int .i64 (F.length : Int)) W) := fun W h => hL W (hB5.trans h)
 clear hW5 hT hL
 refine wpIn_rangeFunc_ownH rfl (by omega) (gf := 105) (lb := #[.pointer (some ⟨w.heap.size + 1, 0, none⟩)]) rfl trivial (enters_of Tryz.func105 (by kernel_rfl) rfl)
  (each1_stops 8 (by omega) p F w.heap.size _ W5 (by omega) (by omega) d0 hL5 hT5)
  (fun h k => ⟨h.1.trans k.1, k.2.trans h.2⟩)
  (fun W l o o' hl h hc hw => ⟨belowK_b (w := W5) (by omega) W l o o' hl h hc hw, World.putObj_heap_other (by omega)⟩)
  (Below.refl _ _) (fun _ => rfl)
  (fun pre W => (∃ v, Boxed W w.heap.size 72 v ∧ W.ownsRow w.heap.size 92 8 v pre.length (pre.flatMap fdEnc) ∧ True) ∧ W.heap[w.heap.size + 1]? = some (.cells #[p] 56 (0, 0)) ∧ Below w.heap.size w W)
  (fun _ _ _ => False)
  (OwnFrom.and (Own.from (holdsRow_own w.heap.size w.heap.size 72 92 8 (fun pre : List Fd => pre.length) (fun pre => pre.flatMap fdEnc) (fun _ _ => True)) _) (OwnFrom.and (Own.from (cells_own _ _ _) _) (ownFrom_below (Nat.le_refl _) (by omega))))
  (fun _ _ _ _ _ hs _ _ => hs)
  ⟨⟨_, bO, World.ownsRow_nil _ _ _ _, trivial⟩, d0, hB5⟩
  (fun x a' W => ∃ Bx, W.heap[Bx]? = some (.cells #[.int .i64 x.1.kind, .int .i64 x.1.n, .string x.1.s, .int .u64 (x.1.label : Int), .int .i64 x.2.kind, .int .i64 x.2.n, .string x.2.s, .int .u64 (x.2.label : Int)] 92 (0, 0)) ∧ a' = { tmps := #[p, undef, .slice none 0 0, .pointer (some ⟨w.heap.size, 0, none⟩), .pointer (some ⟨Bx, 0, none⟩), p, .func (.func 105) #[] #[.pointer (some ⟨w.heap.size + 1, 0, none⟩)], .agg #[.int .i64 x.1.kind, .int .i64 x.1.n, .string x.1.s, .int .u64 (x.1.label : Int), .int .i64 x.2.kind, .int .i64 x.2.n, .string x.2.s, .int .u64 (x.2.label : Int)], undef, undef, undef, undef, undef], defers := [] })
  (fun x a' _ X Y row hs hg hr => by obtain ⟨Bx, h1, h2⟩ := hs; exact ⟨Bx, cells_own (β := Unit) Bx _ _ () X Y row h1 hg (fun r e => (hr r e).2), h2⟩)
  ?assign ?body ?done ?stop
 case assign =>
  rintro l pre x W K ⟨⟨v, hv, hrow, _⟩, m1, hB⟩ hK
  have hsz := hB.size
  gi_wp2
  exact hK _ _ ((KeepsOthers.alloc _ _).from _) ⟨(Below.refl _ W).alloc hsz _, Below.heap_alloc _ _ _ (blk_lt m1)⟩ ⟨⟨v, hv.alloc _, hrow.alloc _, trivial⟩, blk_alloc m1 _, hB.alloc hsz _⟩ ⟨W.heap.size, heap_alloc_new W _, rfl⟩
 case body =>
  rintro l pre x a' W hl _ ⟨⟨v, hv, hrow, _⟩, m1, hB⟩ ⟨Bx, bX, rfl⟩ hlt
  have hc := hv.cell
  have e0 := cell_of_blk (i := 0) bX rfl
  have e1 := cell_of_blk (i := 1) bX rfl
  have e2 := cell_of_blk (i := 2) bX rfl
  have e3 := cell_of_blk (i := 3) bX rfl
  have e4 := cell_of_blk (i := 4) bX rfl
  have e5 := cell_of_blk (i := 5) bX rfl
  have e6 := cell_of_blk (i := 6) bX rfl
  have e7 := cell_of_blk (i := 7) bX rfl
  have M1 := Lib.hid m1
  have hsz := hB.size
  have HB := Lib.hid hB
  clear m1 bX hB hB5 bO d0 hL5 hT5
  gi_wp2_with (gi_at_builtin; refine wpListIn_append_own _ rfl _ _ 72 rfl w.heap.size 92 i0 _ 8 80 Tryz.underlying72 hi hz0 hz1 hz2 rfl (by decide) _ _ _ rfl (hrow.alloc _) ⟨W.heap.size, 0, none⟩ 1 1 [.int .i64 x.1.kind, .int .i64 x.1.n, .string x.1.s, .int .u64 (x.1.label : Int), .int .i64 x.2.kind, .int .i64 x.2.n, .string x.2.s, .int .u64 (x.2.label : Int)] rfl rfl (World.news_of_block (heap_new_at _ _ _ rfl)) (by simp [Value.oneCell']) (by unfold maxLen; omega) (by omega) (by simp; omega) ?_; intro v' w1 hown' hgrow _; obtain ⟨g', cap', rfl⟩ := ownsRow_succ hown'; obtain ⟨hv1, hv2, hr2, hk2, hb2⟩ := hv.appended (by decide) hrow hsz (by omega) hown' hgrow; have hkA := Lib.hid (keep_blk (B := w.heap.size) (v' := .slice (some ⟨g', 0, none⟩) (pre.length + 1) cap') M1.out hrow (by decide) (by omega) hgrow); have hc1 := hv1.cell; have hf1 := hv1.frozen)
  exact ⟨hk2.from _, ⟨hb2, hkA.out.trans M1.out.symm⟩, ⟨_, hv2, by simpa [fdEnc, vvCells] using hr2, trivial⟩, hkA.out, HB.out.trans hb2⟩
 case done =>
  rintro D ys W hD rfl ⟨⟨v, hv, hrow, _⟩, _, hB⟩ hK
  have hc := hv.cell
  gi_wp2
  refine ⟨by simp, .inl ⟨_, _, rfl, run_takeDeferred hK, ?_⟩⟩
  exact ⟨_, results_tmp rfl _ _ _, v, rfl, ownsRow_putObj hrow _ hK rfl, hB.trans (belowK_b (w := w) (Nat.le_refl _) W D _ _ (by omega) hK rfl rfl)⟩
 case stop =>
  rintro D c pre W _ _ h _
  exact h.elim
theorem tfields_any {w : World} {B tb : Nat} {T : TabS} {fp : List Nat} (h : TabIn w B tb T fp) (hn : (T.F.length + 1) * 80 ≤ 140737488355328) :
  Calls Tryz.prog 40 #[.pointer (some ⟨tb, 0, none⟩)] w fun e w' => ∃ v, e = .returned v ∧ w'.ownsRow w.heap.size 92 8 v T.F.length (T.F.flatMap fdEnc) ∧ Below w.heap.size w w' := by
 refine fields_any _ T.F w (.inr ⟨_, rfl⟩) hn (fun W hW => tlen_any (h.kept (Fr.of_below hW []) (by simp))) fun i x hx => ?_
 obtain ⟨⟨fv, sv, mb, nb, n, m, D, E, _, h1, h2, _⟩, _⟩ := h
 obtain ⟨A, c, rfl, _, _, hA, hr⟩ := own_reads h2
 obtain ⟨ad, rfl, hadb, hcell⟩ := hr.at (flatMap_ne (K := 8) (fun a => rfl) (by omega) hx)
 exact ⟨tb, ad, c, rfl, blk_lt h1, cell_of_blk h1 rfl, hadb, fd_at hcell hx⟩
end Go.Proofs.YtilcofpceadpbaaGreatDoor
namespace Go.Proofs.YtilcofpceadpbaaGreatDoor
open Go.ChangeShapes Go.WideShapes Go.ChangeAt Go.RowKit Go.Maps

def I64 (n : Int) : Prop := -9223372036854775808 ≤ n ∧ n ≤ 9223372036854775807
structure VOk (v : VV) : Prop where
 kind : I64 v.kind
 n : I64 v.n
 s : v.s.size ≤ maxLen
 label : v.label < 18446744073709551616
structure TabOk (T : TabS) : Prop where
 l : T.l < 18446744073709551616
 key : ∀ f ∈ T.F, isKey f.1 = true
 bare : ∀ f ∈ T.F, f.1.label = 0
 kOk : ∀ f ∈ T.F, VOk f.1
 vOk : ∀ f ∈ T.F, VOk f.2
 sOk : ∀ s ∈ T.S, s.1.size ≤ maxLen ∧ I64 s.2
 dF : T.F.Pairwise fun a b => sameV a.1 b.1 = false
 dS : T.S.Pairwise fun a b => a.1.toList ≠ b.1.toList
 st : ∀ s ∈ T.S, ∃ f ∈ T.F, f.1.kind = 3 ∧ f.1.s = s.1 ∧ fitsB s.2 f.2.kind = true
def findF (F : List Fd) (k : VV) : Option Nat := if isKey k = true then F.findIdx? (fun f => sameV f.1 k) else none
def findI (F : List Fd) (k : VV) : Int := match findF F k with | some i => (i : Int) | none => -1
theorem bytes_eq {a b : ByteArray} (h : a.toList = b.toList) : a = b := by
 rw [ByteArray.toList_eq, ByteArray.toList_eq] at h
 cases a; cases b
 simp at h
 simp [Array.ext', h]
theorem sameV_iff (a b : VV) : sameV a b = true ↔ a.kind = b.kind ∧ a.n = b.n ∧ a.s = b.s := by
 unfold sameV
 simp only [Bool.and_eq_true, beq_iff_eq]
 exact ⟨fun h => ⟨h.1.1, h.1.2, bytes_eq h.2⟩, fun h => ⟨⟨h.1, h.2.1⟩, by rw [h.2.2]⟩⟩
theorem isKey_kind {v : VV} (h : isKey v = true) : v.kind = 2 ∨ v.kind = 3 := by
 unfold isKey at h
 simp at h
 exact h.1
theorem keyLV_iff {a b : VV} (ha : isKey a = true) (hb : isKey b = true) (ka : VOk a) (kb : VOk b) : keyLV a = keyLV b ↔ sameV a b = true := by
 rw [sameV_iff]
 constructor
 ·intro h
  obtain ⟨h1, h2, h3⟩ := keyL_inj ka.n ka.s kb.n kb.s h
  refine ⟨?_, h1, h2⟩
  rcases isKey_kind ha with e | e <;> rcases isKey_kind hb with e' | e' <;> simp [e, e'] at h3 ⊢
 ·rintro ⟨h1, h2, h3⟩
  unfold keyLV
  rw [h1, h2, h3]
theorem sameV_trans {a b c : VV} (h : sameV a b = true) (k : sameV b c = true) : sameV a c = true := by
 rw [sameV_iff] at *
 exact ⟨h.1.trans k.1, h.2.1.trans k.2.1, h.2.2.trans k.2.2⟩
theorem sameV_symm {a b : VV} (h : sameV a b = true) : sameV b a = true := by
 rw [sameV_iff] at *
 exact ⟨h.1.symm, h.2.1.symm, h.2.2.symm⟩
theorem find_unique {F : List Fd} (hd : F.Pairwise fun a b => sameV a.1 b.1 = false) {k : VV} {i : Nat} {f : Fd} (hi : F[i]? = some f) (hs : sameV f.1 k = true) : F.findIdx? (fun f => sameV f.1 k) = some i := by
 rw [List.findIdx?_eq_some_iff_getElem]
 obtain ⟨hl, he⟩ := List.getElem?_eq_some_iff.1 hi
 refine ⟨hl, by rw [he]; exact hs, fun j hj => ?_⟩
 rw [List.pairwise_iff_getElem] at hd
 have := hd j i (by omega) hl hj
 rw [he] at this
 intro h
 have h2 := sameV_trans h (sameV_symm hs)
 rw [this] at h2
 cases h2
theorem findF_some {F : List Fd} {k : VV} {i : Nat} (h : findF F k = some i) : isKey k = true ∧ ∃ f, F[i]? = some f ∧ sameV f.1 k = true := by
 unfold findF at h
 split at h
 ·rename_i hk
  rw [List.findIdx?_eq_some_iff_getElem] at h
  obtain ⟨hl, hs, _⟩ := h
  exact ⟨hk, _, List.getElem?_eq_getElem hl, hs⟩
 ·cases h
theorem findF_none {F : List Fd} {k : VV} (h : findF F k = none) (hk : isKey k = true) : ∀ f ∈ F, sameV f.1 k = false := by
 unfold findF at h
 rw [if_pos hk, List.findIdx?_eq_none_iff] at h
 exact h
theorem find_is {w : World} {B tb : Nat} {T : TabS} {fp : List Nat} (h : TabIn w B tb T fp) (ok : TabOk T) {k : VV} (kk : VOk k) :
  Calls Tryz.prog 89 #[.pointer (some ⟨tb, 0, none⟩), .agg (vvCells k)] w (RetB (.int .i64 (findI T.F k)) w) := by
 obtain ⟨p, hp, hc⟩ := find_any h k kk.n kk.s
 have e : p = findI T.F k := by
  rcases hp with ⟨hk, i, f, hi, he, rfl⟩ | ⟨hno, rfl⟩
  ·have hs := (keyLV_iff (ok.key f (List.mem_of_getElem? hi)) hk (ok.kOk f (List.mem_of_getElem? hi)) kk).1 he
   unfold findI findF
   rw [if_pos hk, find_unique ok.dF hi hs]
  ·unfold findI
   cases hf : findF T.F k with
   | none => rfl
   | some i =>
    obtain ⟨hk, f, hi, hs⟩ := findF_some hf
    rcases hno with h1 | h1
    ·rw [hk] at h1
     cases h1
    ·exact absurd ((keyLV_iff (ok.key f (List.mem_of_getElem? hi)) hk (ok.kOk f (List.mem_of_getElem? hi)) kk).2 hs) (h1 f (List.mem_of_getElem? hi))
 rw [← e]
 exact hc
def getV (F : List Fd) (k : VV) : VV := match findF F k with | some i => (match F[i]? with | some f => f.2 | none => noneV) | none => noneV
theorem atKey_is {T : TabS} (ok : TabOk T) {k out : VV} (kk : VOk k) (h : AtKey T.F k out) : out = getV T.F k := by
 unfold getV
 rcases h with ⟨hk, i, f, hi, he, rfl⟩ | ⟨hno, rfl⟩
 ·have hs := (keyLV_iff (ok.key f (List.mem_of_getElem? hi)) hk (ok.kOk f (List.mem_of_getElem? hi)) kk).1 he
  unfold findF
  rw [if_pos hk, find_unique ok.dF hi hs]
  simp only [hi]
 ·cases hf : findF T.F k with
  | none => rfl
  | some i =>
   obtain ⟨hk, f, hi, hs⟩ := findF_some hf
   rcases hno with h1 | h1
   ·rw [hk] at h1
    cases h1
   ·exact absurd ((keyLV_iff (ok.key f (List.mem_of_getElem? hi)) hk (ok.kOk f (List.mem_of_getElem? hi)) kk).2 hs) (h1 f (List.mem_of_getElem? hi))
theorem tget_is {w : World} {B tb : Nat} {T : TabS} {fp : List Nat} (h : TabIn w B tb T fp) (ok : TabOk T) {k : VV} (kk : VOk k) :
  Calls Tryz.prog 61 #[.pointer (some ⟨tb, 0, none⟩), .agg (vvCells k)] w (RetB (.agg (vvCells (withV (getV T.F k) (joinL [k.label, T.l])))) w) := by
 obtain ⟨out, ho, hc⟩ := tget_any h k kk.n kk.s kk.label ok.l fun f hf => (ok.vOk f hf).label
 rw [← atKey_is ok kk ho]
 exact hc
def doPut (T : TabS) (ctx : Nat) (k v : VV) : Int × TabS :=
 if isKey k = false then (41, T) else
 if (decide (k.kind = 3) && !allowsB T.S k.s v.kind) = true then (42, T) else
 match findF T.F k with
 | some i => (match T.F[i]? with
  | some f => if flowsB (ctx ||| k.label) f.2.label = true then (0, { T with F := T.F.set i (f.1, withV v (ctx ||| k.label)) }) else (40, T)
  | none => (40, T))
 | none => if flowsB (ctx ||| k.label) T.l = true then (0, { T with F := T.F ++ [(bareV k, withV v (ctx ||| k.label))] }) else (40, T)
def withS (S : List St) (s : St) : List St := if S.any (fun x => x.1.toList == s.1.toList) = true then S.map (fun x => if x.1.toList = s.1.toList then (x.1, bits .and .i64 x.2 s.2) else x) else S ++ [s]
def stamped (S l : List St) : List St := l.foldl withS S
def stampOk (F : List Fd) (N l : List St) : Bool := l.all fun s => match findF F ⟨3, 0, s.1, 0⟩ with | some i => (match F[i]? with | some f => allowsB N s.1 f.2.kind | none => false) | none => false
def doStamp (T : TabS) (l : List St) : Bool × TabS := if stampOk T.F (stamped T.S l) l = true then (true, { T with S := stamped T.S l }) else (false, T)
theorem flat_set4 {v' : VV} : ∀ {F : List Fd} {i : Nat} {f : Fd}, F[i]? = some f → ((((F.flatMap fdEnc).set (i * 8 + 4) (.int .i64 v'.kind)).set (i * 8 + 5) (.int .i64 v'.n)).set (i * 8 + 6) (.string v'.s)).set (i * 8 + 7) (.int .u64 (v'.label : Int)) = (F.set i (f.1, v')).flatMap fdEnc
 | [], i, f, h => by simp at h
 | x :: F, 0, f, h => by
  simp at h
  subst h
  simp [fdEnc, vvCells]
 | x :: F, i + 1, f, h => by
  have ih := flat_set4 (v' := v') (F := F) (i := i) (f := f) (by simpa using h)
  rw [List.set_cons_succ, List.flatMap_cons, List.flatMap_cons, ← ih]
  have e : ∀ (r : Nat) (l : List Value) (u : Value), (fdEnc x ++ l).set ((i + 1) * 8 + r) u = fdEnc x ++ l.set (i * 8 + r) u := by
   intro r l u
   rw [List.set_append_right _ _ (by rw [fdEnc_len]; omega), fdEnc_len]
   congr 2
   omega
  rw [e, e, e, e]

def TabTo (w : World) (B tb : Nat) (T' : TabS) (fp : List Nat) (w' : World) : Prop := ∃ fp', TabIn w' B tb T' fp' ∧ Fr fp w w' ∧ ∀ b ∈ fp', b ∈ fp ∨ w.heap.size ≤ b
theorem TabTo.same {w w' : World} {B tb : Nat} {T : TabS} {fp : List Nat} (h : TabIn w B tb T fp) (hb : Below w.heap.size w w') : TabTo w B tb T fp w' :=
 ⟨fp, h.kept (Fr.of_below hb []) (by simp), Fr.of_below hb _, fun b hb => .inl hb⟩
theorem TabTo.drew {w w' : World} {B tb : Nat} {T : TabS} {fp : List Nat} (h : TabTo w B tb T fp w') : TabTo w B tb T fp w'.drew := by
 obtain ⟨fp', h1, h2, h3⟩ := h
 exact ⟨fp', h1.kept ((Fr.refl [] _).drew) (by simp), h2.drew, h3⟩
def set4 (w : World) (a : Addr) (R : VV) (o : Nat) : World := (((w.setCell ⟨a.block, a.off + o, none⟩ (.int .i64 R.kind)).setCell ⟨a.block, a.off + (o + 1), none⟩ (.int .i64 R.n)).setCell ⟨a.block, a.off + (o + 2), none⟩ (.string R.s)).setCell ⟨a.block, a.off + (o + 3), none⟩ (.int .u64 (R.label : Int))
theorem map_ne {w : World} {k : TypeId} {mb n b : Nat} {D : DataW Unit} {R : Value → Option (DataW Unit × List MemPlace)} {cs : Array Value} {t : TypeId} {fr : Nat × Nat} (h : w.ownsMap Tryz.prog k R mb n D) (hb : w.heap[b]? = some (.cells cs t fr)) : mb ≠ b := by
 rintro rfl
 obtain ⟨es, clock, h1, _⟩ := h
 rw [h1] at hb
 cases hb
theorem idx_set {D : DataW Unit} {F : List Fd} (h : IdxIs D F) {i : Nat} {f : Fd} (hi : F[i]? = some f) (v : VV) : IdxIs D (F.set i (f.1, v)) := by
 refine ⟨fun j g hj => ?_, fun k hk => h.no_ k fun g hg => ?_⟩
 ·rw [List.getElem?_set] at hj
  split at hj
  ·rename_i e
   subst e
   split at hj
   ·cases hj
    exact h.at_ i f hi
   ·cases hj
  ·exact h.at_ j g hj
 ·obtain ⟨j, hj⟩ := List.getElem?_of_mem hg
  by_cases e : i = j
  ·subst e
   rw [hi] at hj
   cases hj
   exact hk (f.1, v) (List.mem_of_getElem? (i := i) (by rw [List.getElem?_set_self (List.getElem?_eq_some_iff.1 hi).1]))
  ·exact hk g (List.mem_of_getElem? (i := j) (by rw [List.getElem?_set_ne e]; exact hj))
theorem ad_add (g n : Nat) : (⟨g, 0, none⟩ : Addr).add n = ⟨g, n, none⟩ := by
 unfold Addr.add
 split
 ·rename_i h0
  rw [h0]
 ·simp
theorem below_frozen {n : Nat} {w w' : World} (h : Below n w w') {a : Addr} (ha : a.block < n) : w'.frozen? a = w.frozen? a := by simp [World.frozen?, h.block a.block ha]
theorem tab_elem {w : World} {B tb : Nat} {T : TabS} {fp : List Nat} (h : TabIn w B tb T fp) {i : Nat} {f : Fd} (hi : T.F[i]? = some f) :
  ∃ ad c, w.cell? ⟨tb, 1, none⟩ = some (.slice (some ad) T.F.length c) ∧ ad.block < w.heap.size ∧ FdAt w (ad.add (i * 8)) f ∧ (∀ o, w.frozen? ⟨(ad.add (i * 8)).block, (ad.add (i * 8)).off + o, none⟩ = false) ∧
   ∀ w7 R, Below w.heap.size w w7 → TabTo w B tb { T with F := T.F.set i (f.1, R) } fp (set4 w7 (ad.add (i * 8)) R 4) := by
 obtain ⟨⟨fv, sv, mb, nb, n, m, D, E, hfp, h1, h2, h3, h4, h5, hne, hnl, hml, hI, hN⟩, hbase⟩ := h
 obtain ⟨A, c, rfl, hn1, hn2, hff⟩ := own_form h2
 obtain ⟨gb, rfl, hbg, hgl, ⟨cur, hcur⟩, hcell⟩ := hff (by have := (List.getElem?_eq_some_iff.1 hi).1; omega)
 refine ⟨⟨gb, 0, none⟩, c, cell_of_blk h1 rfl, hgl, fd_at (fun j u hu => by rw [ad_add]; exact hcell j u hu) hi, fun o => by rw [ad_add]; exact World.ownsRow.frozenAt h2 _, fun w7 R hb => ?_⟩
 rw [ad_add]
 have hgf : gb ∈ fp := by rw [hfp]; simp [Value.ownBlock]
 have hF : Fr [gb] w (set4 w7 ⟨gb, i * 8, none⟩ R 4) := ((((Fr.of_below hb _).set _ (.inl (by simp))).set _ (.inl (by simp))).set _ (.inl (by simp))).set _ (.inl (by simp))
 have h2' := (Fr.of_below hb []).own h2 (by simp)
 refine ⟨fp, ⟨⟨_, sv, mb, nb, n, m, D, E, hfp, hF.blk h1 (by simpa using blk_ne h1 hcur (by decide)), ?_, hF.own h3 ?_, hF.map h4 (by simpa using map_ne h4 hcur), hF.map h5 (by simpa using map_ne h5 hcur), hne, by simpa using hnl, hml, idx_set hI hi R, hN⟩, fun b hb' => ?_⟩, hF.more (by simpa using .inl hgf), fun b hb => .inl hb⟩
 ·have s1 := (World.ownsRow.stored h2' (i * 8 + 4) (.int .i64 R.kind)).1
  have s2 := (World.ownsRow.stored s1 (i * 8 + 5) (.int .i64 R.n)).1
  have s3 := (World.ownsRow.stored s2 (i * 8 + 6) (.string R.s)).1
  have s4 := (World.ownsRow.stored s3 (i * 8 + 7) (.int .u64 (R.label : Int))).1
  rw [flat_set4 hi] at s4
  simpa [set4] using s4
 ·intro g hg
  have := own_blk_ne h3 hcur (by decide)
  rw [hg] at this
  simpa using Ne.symm (fun e => this (by rw [e]))
 ·have := hbase b hb'
  have := hF.size
  omega
theorem own_own_ne {w : World} {base base' : Nat} {e e' : TypeId} {K K' n n' : Nat} {v v' : Value} {xs xs' : List Value} (h : w.ownsRow base e K v n xs) (h' : w.ownsRow base' e' K' v' n' xs') (hne : e ≠ e') {g : Nat} (hg : v.ownBlock = some g) (hg' : v'.ownBlock = some g) : False := by
 rcases h'.2 with ⟨rfl, _⟩ | ⟨g', cap, cur, rfl, _, hh, _⟩
 ·simp [Value.ownBlock] at hg'
 ·obtain rfl : g' = g := by simpa [Value.ownBlock] using hg'
  exact own_blk_ne h hh hne hg.symm
theorem own_map_ne {w : World} {base : Nat} {e : TypeId} {K n : Nat} {v : Value} {xs : List Value} (h : w.ownsRow base e K v n xs) {k : TypeId} {mb m : Nat} {D : DataW Unit} {R : Value → Option (DataW Unit × List MemPlace)} (hm : w.ownsMap Tryz.prog k R mb m D) : v.ownBlock ≠ some mb := by
 rcases h.2 with ⟨rfl, _⟩ | ⟨g', cap, cur, rfl, _, hh, _⟩
 ·simp [Value.ownBlock]
 ·intro e
  obtain rfl : g' = mb := by simpa [Value.ownBlock] using e
  exact map_ne hm hh rfl
theorem idx_app {D : DataW Unit} {F : List Fd} (h : IdxIs D F) (hD : Maps.IsMap D) {k R : VV} (hl : WideAt.IsKeyLit (keyLV k)) (hk : ∀ f ∈ F, keyLV f.1 ≠ keyLV k) : IdxIs (D.put (keyLV k) (.lit (.int .i64 F.length))) (F ++ [(bareV k, R)]) := by
 refine ⟨fun j g hj => ?_, fun k' hk' => ?_⟩
 ·rcases Nat.lt_or_ge j F.length with hlt | hge
  ·rw [List.getElem?_append_left hlt] at hj
   have hne := hk g (List.mem_of_getElem? hj)
   rw [Maps.has_put_other hne, Maps.atKey_put_other hne]
   exact h.at_ j g hj
  ·rw [List.getElem?_append_right hge] at hj
   obtain rfl : j = F.length := by
    have := (List.getElem?_eq_some_iff.1 hj).1
    simp at this
    omega
   simp at hj
   subst hj
   exact ⟨Maps.has_put_same hD hl _, Maps.atKey_put_same hD hl _ _⟩
 ·have hne : k' ≠ keyLV k := fun e => hk' (bareV k, R) (by simp) e.symm
  rw [Maps.has_put_other hne]
  exact h.no_ k' fun f hf => hk' f (by simp [hf])
theorem tab_app {w w12 : World} {B tb : Nat} {T : TabS} {fp : List Nat} {fv sv v' : Value} {mb nb n m gb cap : Nat} {D E : DataW Unit} {k R : VV}
  (hfp : fp = tb :: mb :: nb :: (fv.ownBlock.toList ++ sv.ownBlock.toList)) (h1 : w.heap[tb]? = some (.cells #[.int .u64 (T.l : Int), fv, .map (some mb), sv, .map (some nb)] 117 (0, 0)))
  (h2 : w.ownsRow B 92 8 fv T.F.length (T.F.flatMap fdEnc)) (h3 : w.ownsRow B 135 2 sv T.S.length (T.S.flatMap stEnc))
  (h4 : w.ownsMap Tryz.prog 139 (plainElem Tryz.prog 3) mb n D) (h5 : w.ownsMap Tryz.prog 9 (plainElem Tryz.prog 3) nb m E) (hne : mb ≠ nb) (hnl : n ≤ T.F.length) (hml : m ≤ T.S.length) (hI : IdxIs D T.F) (hN : NamIs E T.S)
  (hbase : ∀ b ∈ fp, B ≤ b ∧ b < w.heap.size) (hFr : Fr (mb :: fv.ownBlock.toList) w w12) (hmap : w12.ownsMap Tryz.prog 139 (plainElem Tryz.prog 3) mb (n + 1) (D.put (keyLV k) (.lit (.int .i64 T.F.length))))
  (hown : w12.ownsRow B 92 8 v' (T.F.length + 1) (T.F.flatMap fdEnc ++ fdEnc (bareV k, R))) (hv' : v' = .slice (some ⟨gb, 0, none⟩) (T.F.length + 1) cap) (hat : fv.ownBlock = some gb ∨ w.heap.size ≤ gb)
  (hl : WideAt.IsKeyLit (keyLV k)) (hk : ∀ f ∈ T.F, keyLV f.1 ≠ keyLV k) : TabTo w B tb { T with F := T.F ++ [(bareV k, R)] } fp (w12.setCell ⟨tb, 1, none⟩ v') := by
 have htn : tb ∉ mb :: fv.ownBlock.toList := by
  intro hm
  rcases List.mem_cons.1 hm with e | e
  ·exact map_ne h4 h1 e.symm
  ·exact own_blk_ne h2 h1 (by decide) (by simpa using (by simpa using e : fv.ownBlock = some tb).symm)
 have hT := hFr.blk h1 htn
 have hF' : Fr fp w (w12.setCell ⟨tb, 1, none⟩ v') := (hFr.more (S' := fp) (fun b hb => .inl (by
  rw [hfp]
  rcases List.mem_cons.1 hb with rfl | e
  ·simp
  ·simp at e
   simp [e]))).set _ (.inl (by rw [hfp]; simp))
 have hown2 := hown
 obtain ⟨_, _, hv2, _, _, hgg⟩ := own_form hown2
 rw [hv'] at hv2
 obtain ⟨gb2, e2, hBg, hgl, _⟩ := hgg (by omega)
 cases hv2
 obtain rfl : gb = gb2 := by simpa using e2
 have hsv : ∀ g, sv.ownBlock = some g → g ∉ mb :: fv.ownBlock.toList := by
  intro g hg hm
  rcases List.mem_cons.1 hm with rfl | e
  ·exact own_map_ne h3 h4 hg
  ·exact own_own_ne h3 h2 (by decide) hg (by simpa using e)
 have h3' := hFr.own h3 hsv
 have h5' := hFr.map h5 (by
  intro hm
  rcases List.mem_cons.1 hm with e | e
  ·exact hne e.symm
  ·exact own_map_ne h2 h5 (by simpa using e))
 refine ⟨tb :: mb :: nb :: ([gb] ++ sv.ownBlock.toList), ⟨⟨v', sv, mb, nb, n + 1, m, _, E, by rw [hv']; simp [Value.ownBlock], blk_set (i := 1) hT v', ?_, own_set_far h3' hT (by decide) _, hmap.setCell (map_ne hmap hT) _, h5'.setCell (map_ne h5' hT) _, hne, by simp; omega, hml, idx_app hI h4.isMap hl hk, hN⟩, ?_⟩, hF', ?_⟩
 ·have := own_set_far hown hT (by decide) (a := ⟨tb, 1, none⟩) v'
  simpa using this
 ·have hsz := hFr.size
  intro b hb
  have hb' : b = gb ∨ b ∈ fp := by
   rw [hfp]
   simp at hb ⊢
   rcases hb with h | h | h | h | h
   ·simp [h]
   ·simp [h]
   ·simp [h]
   ·simp [h]
   ·simp [h]
  rcases hb' with rfl | hb'
  ·exact ⟨hBg, by simpa [World.setCell] using hgl⟩
  ·have := hbase b hb'
   simp [World.setCell]
   omega
 ·intro b hb
  simp at hb
  rcases hb with rfl | rfl | rfl | rfl | h
  ·exact .inl (by rw [hfp]; simp)
  ·exact .inl (by rw [hfp]; simp)
  ·exact .inl (by rw [hfp]; simp)
  ·rcases hat with h | h
   ·exact .inl (by rw [hfp]; simp [h])
   ·exact .inr h
  ·exact .inl (by rw [hfp]; simp [h])

abbrev Dist (S : List St) : Prop := S.Pairwise fun a b => a.1.toList ≠ b.1.toList
theorem dist_uniq {S : List St} (hd : Dist S) {i j : Nat} {a b : St} (hi : S[i]? = some a) (hj : S[j]? = some b) (he : a.1.toList = b.1.toList) : i = j := by
 unfold Dist at hd
 rw [List.pairwise_iff_getElem] at hd
 obtain ⟨l1, e1⟩ := List.getElem?_eq_some_iff.1 hi
 obtain ⟨l2, e2⟩ := List.getElem?_eq_some_iff.1 hj
 rcases Nat.lt_trichotomy i j with h | h | h
 ·have := hd i j l1 l2 h
  rw [e1, e2] at this
  exact absurd he this
 ·exact h
 ·have := hd j i l2 l1 h
  rw [e1, e2] at this
  exact absurd he.symm this
theorem withS_has {S : List St} (hd : Dist S) {s : St} {i : Nat} {a : St} (hi : S[i]? = some a) (he : a.1.toList = s.1.toList) : withS S s = S.set i (a.1, bits .and .i64 a.2 s.2) := by
 unfold withS
 rw [if_pos (List.any_eq_true.2 ⟨a, List.mem_of_getElem? hi, by simpa using he⟩)]
 apply List.ext_getElem?
 intro j
 rw [List.getElem?_map, List.getElem?_set]
 split
 ·rename_i e
  subst e
  rw [hi, if_pos (List.getElem?_eq_some_iff.1 hi).1]
  simp [he]
 ·rename_i e
  cases hj : S[j]? with
  | none => rfl
  | some b =>
   have : ¬ b.1.toList = s.1.toList := fun h => e (dist_uniq hd hi hj (he.trans h.symm))
   simp [this]
theorem withS_no {S : List St} {s : St} (h : ∀ a ∈ S, a.1.toList ≠ s.1.toList) : withS S s = S ++ [s] := by
 unfold withS
 rw [if_neg]
 simp only [List.any_eq_true, not_exists, not_and]
 intro x hx
 simpa using h x hx
theorem withS_names (S : List St) (s : St) : (withS S s).map Prod.fst = S.map Prod.fst ∨ ((∀ a ∈ S, a.1.toList ≠ s.1.toList) ∧ (withS S s).map Prod.fst = S.map Prod.fst ++ [s.1]) := by
 by_cases h : ∀ a ∈ S, a.1.toList ≠ s.1.toList
 ·exact .inr ⟨h, by rw [withS_no h]; simp⟩
 ·left
  unfold withS
  rw [if_pos]
  ·rw [List.map_map]
   apply List.map_congr_left
   intro x _
   simp only [Function.comp]
   split <;> rfl
  ·simp only [Classical.not_forall] at h
   obtain ⟨a, ha, he⟩ := h
   exact List.any_eq_true.2 ⟨a, ha, by simpa using he⟩
theorem dist_map (S : List St) : Dist S ↔ (S.map Prod.fst).Pairwise fun a b => a.toList ≠ b.toList := by
 unfold Dist
 rw [List.pairwise_map]
theorem withS_dist {S : List St} (hd : Dist S) (s : St) : Dist (withS S s) := by
 rw [dist_map] at *
 rcases withS_names S s with h | ⟨h, e⟩
 ·rw [h]
  exact hd
 ·rw [e, List.pairwise_append]
  refine ⟨hd, List.pairwise_singleton _ _, fun a ha b hb => ?_⟩
  rw [List.mem_singleton.1 hb]
  obtain ⟨x, hx, rfl⟩ := List.mem_map.1 ha
  exact h x hx
theorem withS_len (S : List St) (s : St) : S.length ≤ (withS S s).length ∧ (withS S s).length ≤ S.length + 1 := by
 rcases withS_names S s with h | ⟨_, h⟩
 ·have := congrArg List.length h
  simp at this
  omega
 ·have := congrArg List.length h
  simp at this
  omega
theorem nam_app {D : DataW Unit} {S : List St} (h : NamIs D S) (hD : Maps.IsMap D) {s : St} (hk : ∀ a ∈ S, a.1.toList ≠ s.1.toList) : NamIs (D.put (.string s.1.data.toList) (.lit (.int .i64 S.length))) (S ++ [s]) := by
 have hne : ∀ a ∈ S, Lit.string a.1.data.toList ≠ Lit.string s.1.data.toList := fun a ha e => hk a ha (by
  rw [ByteArray.toList_eq, ByteArray.toList_eq]
  simpa using e)
 refine ⟨fun j g hj => ?_, fun k' hk' => ?_⟩
 ·rcases Nat.lt_or_ge j S.length with hlt | hge
  ·rw [List.getElem?_append_left hlt] at hj
   have hne := hne g (List.mem_of_getElem? hj)
   rw [Maps.has_put_other hne, Maps.atKey_put_other hne]
   exact h.at_ j g hj
  ·rw [List.getElem?_append_right hge] at hj
   obtain rfl : j = S.length := by
    have := (List.getElem?_eq_some_iff.1 hj).1
    simp at this
    omega
   simp at hj
   subst hj
   have hl : WideAt.IsKeyLit (.string s.1.data.toList) := trivial
   exact ⟨Maps.has_put_same hD hl _, Maps.atKey_put_same hD hl _ _⟩
 ·have hne : k' ≠ Lit.string s.1.data.toList := fun e => hk' s (by simp) e.symm
  rw [Maps.has_put_other hne]
  exact h.no_ k' fun f hf => hk' f (by simp [hf])
theorem nam_set {D : DataW Unit} {S : List St} (h : NamIs D S) {i : Nat} {a : St} (hi : S[i]? = some a) (v : Int) : NamIs D (S.set i (a.1, v)) := by
 refine ⟨fun j g hj => ?_, fun k hk => h.no_ k fun g hg => ?_⟩
 ·rw [List.getElem?_set] at hj
  split at hj
  ·rename_i e
   subst e
   split at hj
   ·cases hj
    exact h.at_ i a hi
   ·cases hj
  ·exact h.at_ j g hj
 ·obtain ⟨j, hj⟩ := List.getElem?_of_mem hg
  by_cases e : i = j
  ·subst e
   rw [hi] at hj
   cases hj
   exact hk (a.1, v) (List.mem_of_getElem? (i := i) (by rw [List.getElem?_set_self (List.getElem?_eq_some_iff.1 hi).1]))
  ·exact hk g (List.mem_of_getElem? (i := j) (by rw [List.getElem?_set_ne e]; exact hj))
theorem flat_set1 {v : Int} : ∀ {S : List St} {i : Nat} {a : St}, S[i]? = some a → (S.flatMap stEnc).set (i * 2 + 1) (.int .i64 v) = (S.set i (a.1, v)).flatMap stEnc
 | [], i, f, h => by simp at h
 | x :: S, 0, f, h => by
  simp at h
  subst h
  simp [stEnc]
 | x :: S, i + 1, f, h => by
  have ih := flat_set1 (v := v) (S := S) (i := i) (a := f) (by simpa using h)
  rw [List.set_cons_succ, List.flatMap_cons, List.flatMap_cons, ← ih, List.set_append_right _ _ (by rw [stEnc_len]; omega), stEnc_len]
  congr 2
  omega
theorem stamped_snoc {S L : List St} {k : Nat} {s : St} (h : L[k]? = some s) : stamped S (L.take (k + 1)) = withS (stamped S (L.take k)) s := by
 unfold stamped
 rw [List.take_add_one, h]
 simp [List.foldl_append]
theorem stamped_dist {S : List St} (hd : Dist S) (L : List St) : Dist (stamped S L) := by
 unfold stamped
 induction L generalizing S with
 | nil => exact hd
 | cons s L ih => exact ih (withS_dist hd s)
theorem stamped_len (S L : List St) : S.length ≤ (stamped S L).length ∧ (stamped S L).length ≤ S.length + L.length := by
 unfold stamped
 induction L generalizing S with
 | nil => simp
 | cons s L ih =>
  have h1 := withS_len S s
  have h2 := ih (withS S s)
  simp only [List.foldl_cons, List.length_cons]
  omega
theorem allows_has {S : List St} (hd : Dist S) {i : Nat} {a : St} (hi : S[i]? = some a) (kd : Int) : allowsB S a.1 kd = fitsB a.2 kd := by
 rw [Bool.eq_iff_iff]
 unfold allowsB
 rw [List.all_eq_true]
 constructor
 ·intro h
  simpa using h a (List.mem_of_getElem? hi)
 ·intro h x hx
  by_cases e : x.1.toList = a.1.toList
  ·obtain ⟨j, hj⟩ := List.getElem?_of_mem hx
   obtain rfl := dist_uniq hd hi hj e.symm
   rw [hi] at hj
   cases hj
   simp [h]
  ·simp [e]
theorem withS_mem (S : List St) (s : St) : (∃ a ∈ withS S s, a.1 = s.1) ∧ ∀ b ∈ S, ∃ a ∈ withS S s, a.1 = b.1 := by
 have h0 : ∀ n : ByteArray, n ∈ (withS S s).map Prod.fst → ∃ a ∈ withS S s, a.1 = n := fun n hn => by
  obtain ⟨a, h1, h2⟩ := List.mem_map.1 hn
  exact ⟨a, h1, h2⟩
 rcases withS_names S s with h | ⟨_, h⟩
 ·refine ⟨?_, fun b hb => h0 b.1 (by rw [h]; exact List.mem_map_of_mem hb)⟩
  by_cases hx : ∀ a ∈ S, a.1.toList ≠ s.1.toList
  ·exact ⟨s, by rw [withS_no hx]; simp, rfl⟩
  ·simp only [Classical.not_forall] at hx
   obtain ⟨a, ha, he⟩ := hx
   have he' : a.1.toList = s.1.toList := Classical.not_not.1 he
   obtain ⟨c, hc, hc2⟩ := h0 a.1 (by rw [h]; exact List.mem_map_of_mem ha)
   exact ⟨c, hc, hc2.trans (bytes_eq he')⟩
 ·refine ⟨h0 s.1 (by rw [h]; simp), fun b hb => h0 b.1 (by rw [h]; exact List.mem_append_left _ (List.mem_map_of_mem hb))⟩
theorem stamped_mem {S L : List St} : (∀ s ∈ L, ∃ a ∈ stamped S L, a.1 = s.1) ∧ ∀ b ∈ S, ∃ a ∈ stamped S L, a.1 = b.1 := by
 unfold stamped
 induction L generalizing S with
 | nil => exact ⟨fun s hs => (by simp at hs), fun b hb => ⟨b, hb, rfl⟩⟩
 | cons s L ih =>
  obtain ⟨h1, h2⟩ := withS_mem S s
  obtain ⟨i1, i2⟩ := ih (S := withS S s)
  refine ⟨fun x hx => ?_, fun b hb => ?_⟩
  ·rcases List.mem_cons.1 hx with rfl | hx
   ·obtain ⟨a, ha, he⟩ := h1
    obtain ⟨c, hc, hc2⟩ := i2 a ha
    exact ⟨c, hc, hc2.trans he⟩
   ·exact i1 x hx
  ·obtain ⟨a, ha, he⟩ := h2 b hb
   obtain ⟨c, hc, hc2⟩ := i2 a ha
   exact ⟨c, hc, hc2.trans he⟩
theorem withS_old {S : List St} {s a : St} (ha : a ∈ withS S s) (hn : a.1.toList ≠ s.1.toList) : a ∈ S := by
 by_cases hx : ∀ b ∈ S, b.1.toList ≠ s.1.toList
 ·rw [withS_no hx] at ha
  rcases List.mem_append.1 ha with h | h
  ·exact h
  ·rw [List.mem_singleton.1 h] at hn
   exact absurd rfl hn
 ·unfold withS at ha
  rw [if_pos] at ha
  ·obtain ⟨b, hb, rfl⟩ := List.mem_map.1 ha
   by_cases e : b.1.toList = s.1.toList
   ·rw [if_pos e] at hn
    exact absurd e hn
   ·rw [if_neg e]
    exact hb
  ·simp only [Classical.not_forall] at hx
   obtain ⟨b, hb, he⟩ := hx
   exact List.any_eq_true.2 ⟨b, hb, by simpa using he⟩
theorem stamped_old {S L : List St} {a : St} (ha : a ∈ stamped S L) (hn : ∀ s ∈ L, a.1.toList ≠ s.1.toList) : a ∈ S := by
 unfold stamped at ha
 induction L generalizing S with
 | nil => exact ha
 | cons s L ih => exact withS_old (ih (S := withS S s) ha fun x hx => hn x (by simp [hx])) (hn s (by simp))
theorem wrap_i64_rng (n : Int) : I64 (IntKind.i64.wrap n) := by
 rw [IntKind.wrap_i64]
 unfold I64
 omega
theorem bits_rng (a b : Int) : I64 (bits .and .i64 a b) := by
 show I64 (IntKind.i64.wrap ((BitVec.ofInt 64 a &&& BitVec.ofInt 64 b).toNat : Nat))
 exact wrap_i64_rng _
theorem withS_ok {S : List St} {s : St} (h : ∀ a ∈ S, a.1.size ≤ maxLen ∧ I64 a.2) (hs : s.1.size ≤ maxLen ∧ I64 s.2) : ∀ a ∈ withS S s, a.1.size ≤ maxLen ∧ I64 a.2 := by
 intro a ha
 by_cases hx : ∀ b ∈ S, b.1.toList ≠ s.1.toList
 ·rw [withS_no hx] at ha
  rcases List.mem_append.1 ha with h' | h'
  ·exact h a h'
  ·rw [List.mem_singleton.1 h']
   exact hs
 ·unfold withS at ha
  rw [if_pos] at ha
  ·obtain ⟨b, hb, rfl⟩ := List.mem_map.1 ha
   split
   ·have h1 := (h b hb).1
    have h2 := bits_rng b.2 s.2
    generalize bits .and .i64 b.2 s.2 = z at h2 ⊢
    exact ⟨h1, h2⟩
   ·exact h b hb
  ·simp only [Classical.not_forall] at hx
   obtain ⟨b, hb, he⟩ := hx
   exact List.any_eq_true.2 ⟨b, hb, by simpa using he⟩
theorem stamped_ok {S L : List St} (h : ∀ a ∈ S, a.1.size ≤ maxLen ∧ I64 a.2) (hL : ∀ s ∈ L, s.1.size ≤ maxLen ∧ I64 s.2) : ∀ a ∈ stamped S L, a.1.size ≤ maxLen ∧ I64 a.2 := by
 unfold stamped
 induction L generalizing S with
 | nil => exact h
 | cons s L ih => exact ih (withS_ok h (hL s (by simp))) fun x hx => hL x (by simp [hx])
theorem doStamp_ok {T : TabS} (ok : TabOk T) {L : List St} (hL : ∀ s ∈ L, s.1.size ≤ maxLen ∧ I64 s.2) : TabOk (doStamp T L).2 := by
 unfold doStamp
 split
 ·rename_i hst
  refine ⟨ok.l, ok.key, ok.bare, ok.kOk, ok.vOk, stamped_ok ok.sOk hL, ok.dF, stamped_dist ok.dS L, fun a ha => ?_⟩
  by_cases hn : ∀ s ∈ L, a.1.toList ≠ s.1.toList
  ·exact ok.st a (stamped_old ha hn)
  ·simp only [Classical.not_forall] at hn
   obtain ⟨s, hs, he⟩ := hn
   have he' : a.1 = s.1 := bytes_eq (Classical.not_not.1 he)
   unfold stampOk at hst
   rw [List.all_eq_true] at hst
   have h1 := hst s hs
   split at h1
   ·rename_i i hi
    obtain ⟨hk, f, hf, hsame⟩ := findF_some hi
    rw [hf] at h1
    simp only at h1
    obtain ⟨j, hj⟩ := List.getElem?_of_mem ha
    have h2 := allows_has (stamped_dist ok.dS L) hj f.2.kind
    rw [he', h1] at h2
    have h3 := (sameV_iff _ _).1 hsame
    exact ⟨f, List.mem_of_getElem? hf, h3.1, h3.2.2.trans he'.symm, h2.symm⟩
   ·cases h1
 ·exact ok
theorem doStamp_len (T : TabS) (L : List St) : (doStamp T L).2.F = T.F ∧ (doStamp T L).2.S.length ≤ T.S.length + L.length ∧ (doStamp T L).2.l = T.l := by
 unfold doStamp
 split
 ·exact ⟨rfl, (stamped_len T.S L).2, rfl⟩
 ·exact ⟨rfl, by simp, rfl⟩

theorem gen_then {K : Act → World → Prop} {Q : Exit → Act → World → Prop} {e : Exit} {a : Act} {w : World} (h : ∀ W, w = W → Exit.then K Q e a W) : Exit.then K Q e a w := h w rfl
theorem with1_any (v : VV) (a n c : Nat) (t : TypeId) (w : World) (hv : v.label < 18446744073709551616) (ha : a < 18446744073709551616) (h : w.heap[n]? = some (.cells #[.int .u64 (a : Int)] t (0, 0))) :
  Calls Tryz.prog 71 #[.agg (vvCells v), .slice (some ⟨n, 0, none⟩) 1 c] w (RetB (.agg (vvCells (withV v a))) w) := by
 have e : joinL [a] = a := by simp [joinL]
 have := with_any v [a] (some ⟨n, 0, none⟩) c w hv (by simp [ha]) (by simp) (.inr ⟨_, rfl, blk_lt h, World.news_of_block h⟩)
 rw [e] at this
 exact this
theorem look_name {w : World} {nb m : Nat} {E : DataW Unit} {S : List St} (h : w.ownsMap Tryz.prog 9 (plainElem Tryz.prog 3) nb m E) (hN : NamIs E S) (hd : S.Pairwise fun a b => a.1.toList ≠ b.1.toList) (nm : ByteArray) (hs : nm.size ≤ maxLen) :
  ∃ (c : Int) (β : Bool), (∀ W : World, W.heap[nb]? = w.heap[nb]? → (Instr.lookup 115 (.map (some nb)) (.string nm) true).run Tryz.prog W = .ok (.tuple #[.int .i64 c, .bool β]) W) ∧
   ((β = false ∧ ∀ kd, allowsB S nm kd = true) ∨ (β = true ∧ ∃ (i : Nat) (s : St), c = i ∧ S[i]? = some s ∧ s.1 = nm ∧ ∀ kd, allowsB S nm kd = fitsB s.2 kd)) := by
 have hk : keyOf Tryz.prog 9 (.string nm) = some (.string nm.data.toList) := by
  rw [keyOf_string Tryz.underlying9]
  simp [mapKey, Tryz.underlying9, hs]
 obtain ⟨c, hc, hl⟩ := look_int h lawTS Tryz.underlying115 hk
 refine ⟨c, _, hl, ?_⟩
 by_cases hex : ∃ s ∈ S, s.1 = nm
 ·obtain ⟨s, hsm, rfl⟩ := hex
  obtain ⟨i, hi⟩ := List.getElem?_of_mem hsm
  obtain ⟨h1, h2⟩ := hN.at_ i s hi
  refine .inr ⟨h1, i, s, by simpa using hc.symm.trans h2, hi, rfl, fun kd => ?_⟩
  rw [Bool.eq_iff_iff]
  unfold allowsB
  rw [List.all_eq_true]
  constructor
  ·intro h
   simpa using h s hsm
  ·intro h x hx
   by_cases e : x.1.toList = s.1.toList
   ·obtain ⟨j, hj⟩ := List.getElem?_of_mem hx
    have hji : j = i := by
     rcases Nat.lt_trichotomy j i with hlt | hlt | hlt
     ·exact absurd e (by
       rw [List.pairwise_iff_getElem] at hd
       obtain ⟨l1, e1⟩ := List.getElem?_eq_some_iff.1 hj
       obtain ⟨l2, e2⟩ := List.getElem?_eq_some_iff.1 hi
       have := hd j i l1 l2 hlt
       rw [e1, e2] at this
       exact this)
     ·exact hlt
     ·exact absurd e.symm (by
       rw [List.pairwise_iff_getElem] at hd
       obtain ⟨l1, e1⟩ := List.getElem?_eq_some_iff.1 hj
       obtain ⟨l2, e2⟩ := List.getElem?_eq_some_iff.1 hi
       have := hd i j l2 l1 hlt
       rw [e1, e2] at this
       exact this)
    subst hji
    rw [hj] at hi
    cases hi
    simp [h]
   ·simp [e]
 ·have hno := hN.no_ (.string nm.data.toList) fun s hsm he => hex ⟨s, hsm, by
   have : s.1.data.toList = nm.data.toList := by simpa using he
   exact bytes_eq (by rw [ByteArray.toList_eq, ByteArray.toList_eq, this])⟩
  refine .inl ⟨hno, fun kd => ?_⟩
  unfold allowsB
  rw [List.all_eq_true]
  intro x hx
  have : ¬ x.1.toList = nm.toList := fun e => hex ⟨x, hx, bytes_eq e⟩
  simp [this]
set_option maxRecDepth 100000 in
theorem put_bad {w : World} {B tb : Nat} {T : TabS} {fp : List Nat} (h : TabIn w B tb T fp) (ok : TabOk T) {ctx : Nat} {k v : VV} (hc : ctx < 18446744073709551616) (kk : VOk k) (kv : VOk v) (hik : isKey k = true)  (hst : (decide (k.kind = 3) && !allowsB T.S k.s v.kind) = true) :
  Calls Tryz.prog 47 #[.pointer (some ⟨tb, 0, none⟩), .int .u64 (ctx : Int), .agg (vvCells k), .agg (vvCells v)] w fun e w' => e = .returned (.int .i64 42) ∧ TabTo w B tb T fp w' := by
 obtain ⟨⟨fv, sv, mb, nb, n, m, D, E, hfp, h1, h2, h3, h4, h5, hne, hnl, hml, hI, hN⟩, hbase⟩ := h
 have h0 : TabIn w B tb T fp := ⟨⟨fv, sv, mb, nb, n, m, D, E, hfp, h1, h2, h3, h4, h5, hne, hnl, hml, hI, hN⟩, hbase⟩
 obtain ⟨AS, cs, rfl, hcs1, hcs2, hAS, hRS⟩ := own_reads h3
 obtain ⟨cn, β, hlk, hβ⟩ := look_name h5 hN ok.dS k.s kk.s
 have hnlt := h5.lt
 have hkeys := fun W => keyof_any k W
 rw [hik, if_pos rfl] at hkeys
 unfold keyV at hkeys
 have hb3 : decide (k.kind = 3) = decide (k.kind = 3) := rfl
 generalize hb3' : decide (k.kind = 3) = b3 at hkeys hb3
 have HK := Lib.hid hkeys
 have HL := Lib.hid hlk
 have H0 := Lib.hid h0
 have H1 := Lib.hid h1
 have H2 := Lib.hid h2
 have H3 := Lib.hid h3
 have H4 := Lib.hid h4
 have HN := Lib.hid hN
 have H5 := Lib.hid h5
 have HRS := Lib.hid hRS
 have HI := Lib.hid hI
 have HOK := Lib.hid ok
 have hjl : ctx ||| k.label < 18446744073709551616 := Nat.or_lt_two_pow (n := 64) hc kk.label
 have hw := fun n c t W h => with1_any v (ctx ||| k.label) n c t W kv.label hjl h
 have hj := fun n c t W h => join2_any ctx k.label n c t W hc kk.label h
 have hf := (fun (W : World) (hW : Below w.heap.size w W) => find_is (h0.kept (Fr.of_below hW []) (by simp)) ok kk)
 generalize hpi : findI T.F k = pi at hf
 have HF := Lib.hid hf
 have HB0 := Lib.hid ((((Below.refl w.heap.size w).alloc (Nat.le_refl _) (.cells (vvCells k) 26)).alloc (by simp) (.cells (vvCells v) 26)))
 generalize hR : withV v (ctx ||| k.label) = R at hw ⊢
 generalize hcj : ctx ||| k.label = cj at hj hw hjl
 have HW := Lib.hid hw
 have HJ := Lib.hid hj
 have HP := Lib.hid hfp
 have HBase := Lib.hid hbase
 have htlt := blk_lt h1
 clear hkeys hlk h0 h1 h2 h3 h4 h5 hRS hI hN ok hw hj hfp hbase hb3 hf
 have heqm := fun W : World => run_eql_map_nil (P := Tryz.prog) W 114 _ _ (some mb) Tryz.underlying114
 unfold vvCells at *
 go_enter Tryz.func47, Tryz.ntmps47
 go_wp2_with fail
 refine (HK.out _).mono ?_
 rintro e w1 ⟨rfl, hb1⟩
 have HB1 := Lib.hid (HB0.out.trans (hb1.mono (by simp; omega)))
 have U0 := Lib.hid (below_blk hb1 (blk_alloc (heap_alloc_new w _) _))
 have U1 := Lib.hid (below_blk hb1 (heap_new_at _ _ (w.heap.size + 1) (by simp)))
 have U3 := Lib.hid (below_blk HB1.out H1.out)
 clear hb1 HB0
 rcases hβ with ⟨rfl, hal⟩ | ⟨rfl, i', s', rfl, hi', hnm, hal⟩
 ·rw [hal] at hst
  simp at hst
 ·cases b3
  ·rw [hb3'] at hst
   simp at hst
  ·obtain ⟨ads, rfl, hadsb, hcells⟩ := HRS.out.at (flatMap_ne (K := 2) (fun a => rfl) (by omega) hi')
   have hil' : (i' : Int) < (T.S.length : Int) := by have := (List.getElem?_eq_some_iff.1 hi').1; omega
   have hi0' : (0 : Int) ≤ i' := by omega
   have hadsb' : (ads.add (i' * 2)).block < w.heap.size := by rw [block_add']; exact hadsb
   have s1 := (HB1.out.cell (p := ⟨(ads.add (i' * 2)).block, _, none⟩) hadsb').trans (st_at hcells hi').c1
   have ls1 : (ads.add (i' * 2)).block < w1.heap.size := Nat.lt_of_lt_of_le hadsb' HB1.out.size
   have hfit := fun W => fits_any s'.2 v.kind W
   rw [show fitsB s'.2 v.kind = false from by rw [← hal]; simpa [hb3'] using hst] at hfit
   have HFit := Lib.hid hfit
   clear hfit hcells hi' hnm hal
   have t2 := cell_of_blk (i := 2) U3.out rfl
   have t4 := cell_of_blk (i := 4) U3.out rfl
   have t3 := cell_of_blk (i := 3) U3.out rfl
   have k2 := cell_of_blk (i := 2) U0.out rfl
   have v0 := cell_of_blk (i := 0) U1.out rfl
   have l3 := blk_lt U3.out
   have l1 := blk_lt U1.out
   have l0 := blk_lt U0.out
   have hlook : ∀ q, (Instr.lookup 115 (.map (some nb)) (.string k.s) true).run Tryz.prog ((w1.alloc (.cells #[.int .i64 k.n, .string k.s, .bool true] 139)).drewN q) = .ok _ _ := fun q => HL.out _ (blk_same HB1.out hnlt _)
   go_wp2_with fail
   go_quiet (fail)
   go_wp2_with fail
   go_quiet ((go_at_call 88; first | exact quiet_ret (HFit.out _) | exact quiet_ret_add (HFit.out _)))
   refine gen_then fun W5 hW5 => ?_
   have B5 := Lib.hid (show Below w.heap.size w W5 by rw [← hW5]; exact below_drewN (below_drewN (HB1.out.alloc HB1.out.size _) _) _)
   go_wp2_with fail
   go_ret
   exact ⟨rfl, TabTo.same H0.out B5.out⟩
set_option maxRecDepth 100000 in
theorem put_set {w : World} {B tb : Nat} {T : TabS} {fp : List Nat} (h : TabIn w B tb T fp) (ok : TabOk T) {ctx : Nat} {k v : VV} (hc : ctx < 18446744073709551616) (kk : VOk k) (kv : VOk v) (hik : isKey k = true) {i : Nat} {f : Fd} (hfi : T.F[i]? = some f) (hpi' : findI T.F k = (i : Int)) (hfl : flowsB (ctx ||| k.label) f.2.label = true) (hst : (decide (k.kind = 3) && !allowsB T.S k.s v.kind) = false) :
  Calls Tryz.prog 47 #[.pointer (some ⟨tb, 0, none⟩), .int .u64 (ctx : Int), .agg (vvCells k), .agg (vvCells v)] w fun e w' => e = .returned (.int .i64 0) ∧ TabTo w B tb { T with F := T.F.set i (f.1, withV v (ctx ||| k.label)) } fp w' := by
 obtain ⟨⟨fv, sv, mb, nb, n, m, D, E, hfp, h1, h2, h3, h4, h5, hne, hnl, hml, hI, hN⟩, hbase⟩ := h
 have h0 : TabIn w B tb T fp := ⟨⟨fv, sv, mb, nb, n, m, D, E, hfp, h1, h2, h3, h4, h5, hne, hnl, hml, hI, hN⟩, hbase⟩
 obtain ⟨ad, cf, ct1, hab, hfd, hfz, hto⟩ := tab_elem h0 hfi
 obtain rfl : fv = .slice (some ad) T.F.length cf := by have := (cell_of_blk (i := 1) h1 rfl).symm.trans ct1; simpa using this
 have hil : (i : Int) < (T.F.length : Int) := by have := (List.getElem?_eq_some_iff.1 hfi).1; omega
 have hi0 : (0 : Int) ≤ i := by omega
 have hab' : (ad.add (i * 8)).block < w.heap.size := by rw [block_add']; exact hab
 have hfw := fun W => flows_any (ctx ||| k.label) f.2.label W (Nat.or_lt_two_pow (n := 64) hc kk.label) (ok.vOk f (List.mem_of_getElem? hfi)).label
 rw [hfl] at hfw
 have HFl := Lib.hid hfw
 have HFd := Lib.hid hfd
 have HTo := Lib.hid hto
 have HFz := Lib.hid hfz
 clear hfw hfd hto ct1 hfz
 obtain ⟨AS, cs, rfl, hcs1, hcs2, hAS, hRS⟩ := own_reads h3
 obtain ⟨cn, β, hlk, hβ⟩ := look_name h5 hN ok.dS k.s kk.s
 have hnlt := h5.lt
 have hkeys := fun W => keyof_any k W
 rw [hik, if_pos rfl] at hkeys
 unfold keyV at hkeys
 have hb3 : decide (k.kind = 3) = decide (k.kind = 3) := rfl
 generalize hb3' : decide (k.kind = 3) = b3 at hkeys hb3
 have HK := Lib.hid hkeys
 have HL := Lib.hid hlk
 have H0 := Lib.hid h0
 have H1 := Lib.hid h1
 have H2 := Lib.hid h2
 have H3 := Lib.hid h3
 have H4 := Lib.hid h4
 have HN := Lib.hid hN
 have H5 := Lib.hid h5
 have HRS := Lib.hid hRS
 have HI := Lib.hid hI
 have HOK := Lib.hid ok
 have hjl : ctx ||| k.label < 18446744073709551616 := Nat.or_lt_two_pow (n := 64) hc kk.label
 have hw := fun n c t W h => with1_any v (ctx ||| k.label) n c t W kv.label hjl h
 have hj := fun n c t W h => join2_any ctx k.label n c t W hc kk.label h
 have hf := (fun (W : World) (hW : Below w.heap.size w W) => find_is (h0.kept (Fr.of_below hW []) (by simp)) ok kk)
 generalize hpi : findI T.F k = pi at hf
 have HF := Lib.hid hf
 have HB0 := Lib.hid ((((Below.refl w.heap.size w).alloc (Nat.le_refl _) (.cells (vvCells k) 26)).alloc (by simp) (.cells (vvCells v) 26)))
 generalize hR : withV v (ctx ||| k.label) = R at hw ⊢
 generalize hcj : ctx ||| k.label = cj at hj hw hjl
 have HW := Lib.hid hw
 have HJ := Lib.hid hj
 have HP := Lib.hid hfp
 have HBase := Lib.hid hbase
 have htlt := blk_lt h1
 clear hkeys hlk h0 h1 h2 h3 h4 h5 hRS hI hN ok hw hj hfp hbase hb3 hf
 have heqm := fun W : World => run_eql_map_nil (P := Tryz.prog) W 114 _ _ (some mb) Tryz.underlying114
 unfold vvCells at *
 go_enter Tryz.func47, Tryz.ntmps47
 go_wp2_with fail
 refine (HK.out _).mono ?_
 rintro e w1 ⟨rfl, hb1⟩
 have HB1 := Lib.hid (HB0.out.trans (hb1.mono (by simp; omega)))
 have U0 := Lib.hid (below_blk hb1 (blk_alloc (heap_alloc_new w _) _))
 have U1 := Lib.hid (below_blk hb1 (heap_new_at _ _ (w.heap.size + 1) (by simp)))
 have U3 := Lib.hid (below_blk HB1.out H1.out)
 clear hb1 HB0
 rcases hβ with ⟨rfl, hal⟩ | ⟨rfl, i', s', rfl, hi', hnm, hal⟩
 ·have t2 := cell_of_blk (i := 2) U3.out rfl
  have t4 := cell_of_blk (i := 4) U3.out rfl
  have t3 := cell_of_blk (i := 3) U3.out rfl
  have k2 := cell_of_blk (i := 2) U0.out rfl
  have v0 := cell_of_blk (i := 0) U1.out rfl
  have l3 := blk_lt U3.out
  have l1 := blk_lt U1.out
  have l0 := blk_lt U0.out
  have hlook : ∀ q, (Instr.lookup 115 (.map (some nb)) (.string k.s) true).run Tryz.prog ((w1.alloc (.cells #[.int .i64 k.n, .string k.s, .bool b3] 139)).drewN q) = .ok _ _ := fun q => HL.out _ (blk_same HB1.out hnlt _)
  go_wp2_with fail
  go_quiet (fail)
  go_wp2_with fail
  go_quiet (fail)
  refine gen_then fun W5 hW5 => ?_
  have B5 := Lib.hid (show Below w.heap.size w W5 by rw [← hW5]; exact below_drewN (below_drewN (HB1.out.alloc HB1.out.size _) _) _)
  have A0 := Lib.hid (show W5.heap[w.heap.size]? = some (.cells #[.int .i64 k.kind, .int .i64 k.n, .string k.s, .int .u64 (k.label : Int)] 26 (0, 0)) by rw [← hW5]; exact blk_alloc U0.out _)
  have A1 := Lib.hid (show W5.heap[w.heap.size + 1]? = some (.cells #[.int .i64 v.kind, .int .i64 v.n, .string v.s, .int .u64 (v.label : Int)] 26 (0, 0)) by rw [← hW5]; exact blk_alloc U1.out _)
  have A2 := Lib.hid (show W5.heap[w1.heap.size]? = some (.cells #[.int .i64 k.n, .string k.s, .bool b3] 139 (0, 0)) by rw [← hW5]; exact heap_alloc_new _ _)
  have A3 := Lib.hid (below_blk B5.out H1.out)
  have hw1 : w.heap.size + 1 < w1.heap.size := blk_lt U1.out
  clear hW5 hlook t2 t3 t4 k2 v0 l3 l1 l0 U0 U1 U3 HB1
  have k0 := cell_of_blk (i := 0) A0.out rfl
  have k1 := cell_of_blk (i := 1) A0.out rfl
  have k2 := cell_of_blk (i := 2) A0.out rfl
  have k3 := cell_of_blk (i := 3) A0.out rfl
  have v0 := cell_of_blk (i := 0) A1.out rfl
  have v1 := cell_of_blk (i := 1) A1.out rfl
  have v2 := cell_of_blk (i := 2) A1.out rfl
  have v3 := cell_of_blk (i := 3) A1.out rfl
  have l0 := blk_lt A0.out
  have l1 := blk_lt A1.out
  go_wp2_with fail
  refine (HJ.out _ _ _ _ (heap_alloc_new _ _)).mono ?_
  rintro e w6 ⟨rfl, rfl⟩
  go_wp2_with fail
  refine (HW.out _ _ _ _ (heap_new_at _ _ _ (by simp))).mono ?_
  rintro e w6 ⟨rfl, hb6⟩
  have B6 := Lib.hid (B5.out.trans ((((Below.refl _ _).alloc (Nat.le_refl _) _).alloc (by simp) _).trans (hb6.mono (by simp; omega)) |>.mono B5.out.size))
  have C0 := Lib.hid (below_blk hb6 (blk_alloc (blk_alloc A0.out _) _))
  have C1 := Lib.hid (below_blk hb6 (blk_alloc (blk_alloc A1.out _) _))
  have C2 := Lib.hid (below_blk hb6 (blk_alloc (blk_alloc A2.out _) _))
  have C3 := Lib.hid (below_blk hb6 (blk_alloc (blk_alloc A3.out _) _))
  clear hb6 k0 k1 k2 k3 v0 v1 v2 v3 A0 A1 A2 A3 l0 l1
  have k0 := cell_of_blk (i := 0) C0.out rfl
  have k1 := cell_of_blk (i := 1) C0.out rfl
  have k2 := cell_of_blk (i := 2) C0.out rfl
  have k3 := cell_of_blk (i := 3) C0.out rfl
  have v0 := cell_of_blk (i := 0) C1.out rfl
  have v1 := cell_of_blk (i := 1) C1.out rfl
  have v2 := cell_of_blk (i := 2) C1.out rfl
  have v3 := cell_of_blk (i := 3) C1.out rfl
  have z0 := free_of_blk (i := 0) C1.out
  have z1 := free_of_blk (i := 1) C1.out
  have z2 := free_of_blk (i := 2) C1.out
  have z3 := free_of_blk (i := 3) C1.out
  have l0 := blk_lt C0.out
  have l1 := blk_lt C1.out
  have hb7 : Below w.heap.size w ((((w6.setCell ⟨w.heap.size + 1, 0, none⟩ (.int .i64 R.kind)).setCell ⟨w.heap.size + 1, 1, none⟩ (.int .i64 R.n)).setCell ⟨w.heap.size + 1, 2, none⟩ (.string R.s)).setCell ⟨w.heap.size + 1, 3, none⟩ (.int .u64 (R.label : Int))) := (((B6.out.setCell (by simp) _).setCell (by simp) _).setCell (by simp) _).setCell (by simp) _
  have F7 := Lib.hid (HF.out _ hb7)
  have B7 := Lib.hid hb7
  clear hb7
  go_wp2_with fail
  refine F7.out.mono ?_
  rintro e w7 ⟨rfl, hb8⟩
  have B8 := Lib.hid (B7.out.trans (hb8.mono B7.out.size))
  have ne0 : w.heap.size ≠ w.heap.size + 1 := by omega
  have ne2 : w1.heap.size ≠ w.heap.size + 1 := by omega
  have G0 := Lib.hid (below_blk hb8 (blk_far (blk_far (blk_far (blk_far C0.out ne0 _) ne0 _) ne0 _) ne0 _))
  have G1 := Lib.hid (show w7.heap[w.heap.size + 1]? = some (.cells #[.int .i64 R.kind, .int .i64 R.n, .string R.s, .int .u64 (R.label : Int)] 26 (0, 0)) from below_blk hb8 (blk_set (i := 3) (blk_set (i := 2) (blk_set (i := 1) (blk_set (i := 0) C1.out _) _) _) _))
  have G2 := Lib.hid (below_blk hb8 (blk_far (blk_far (blk_far (blk_far C2.out ne2 _) ne2 _) ne2 _) ne2 _))
  have G3 := Lib.hid (below_blk B8.out H1.out)
  clear hb8 k0 k1 k2 k3 v0 v1 v2 v3 z0 z1 z2 z3 l0 l1 C0 C1 C2 C3 F7 B7 B6 B5 ne0 ne2
  obtain rfl : pi = (i : Int) := hpi.symm.trans hpi'
  obtain ⟨_, _, _, _, _, _, _, x7⟩ := HFd.out.below B8.out hab'
  have t1 := cell_of_blk (i := 1) G3.out rfl
  have l3 := blk_lt G3.out
  go_wp2_with fail
  have F9 := HFl.out w7
  rw [hcj] at F9
  refine F9.mono ?_
  rintro e w9 ⟨rfl, rfl⟩
  have v0 := cell_of_blk (i := 0) G1.out rfl
  have v1 := cell_of_blk (i := 1) G1.out rfl
  have v2 := cell_of_blk (i := 2) G1.out rfl
  have v3 := cell_of_blk (i := 3) G1.out rfl
  have z0 : w7.frozen? ⟨(ad.add (i * 8)).block, (ad.add (i * 8)).off + 4, none⟩ = false := (below_frozen B8.out (a := ⟨(ad.add (i * 8)).block, _, none⟩) hab').trans (HFz.out _)
  have z1 : w7.frozen? ⟨(ad.add (i * 8)).block, (ad.add (i * 8)).off + 5, none⟩ = false := (below_frozen B8.out (a := ⟨(ad.add (i * 8)).block, _, none⟩) hab').trans (HFz.out _)
  have z2 : w7.frozen? ⟨(ad.add (i * 8)).block, (ad.add (i * 8)).off + 6, none⟩ = false := (below_frozen B8.out (a := ⟨(ad.add (i * 8)).block, _, none⟩) hab').trans (HFz.out _)
  have z3 : w7.frozen? ⟨(ad.add (i * 8)).block, (ad.add (i * 8)).off + 7, none⟩ = false := (below_frozen B8.out (a := ⟨(ad.add (i * 8)).block, _, none⟩) hab').trans (HFz.out _)
  have l1 := blk_lt G1.out
  have l9 := Nat.lt_of_lt_of_le hab' B8.out.size
  go_wp2_with fail
  go_region
  go_wp2_with fail
  go_ret
  exact ⟨rfl, (HTo.out w7 R B8.out).drew⟩
 ·cases b3
  ·have t2 := cell_of_blk (i := 2) U3.out rfl
   have t4 := cell_of_blk (i := 4) U3.out rfl
   have t3 := cell_of_blk (i := 3) U3.out rfl
   have k2 := cell_of_blk (i := 2) U0.out rfl
   have v0 := cell_of_blk (i := 0) U1.out rfl
   have l3 := blk_lt U3.out
   have l1 := blk_lt U1.out
   have l0 := blk_lt U0.out
   have hlook : ∀ q, (Instr.lookup 115 (.map (some nb)) (.string k.s) true).run Tryz.prog ((w1.alloc (.cells #[.int .i64 k.n, .string k.s, .bool false] 139)).drewN q) = .ok _ _ := fun q => HL.out _ (blk_same HB1.out hnlt _)
   go_wp2_with fail
   go_quiet (fail)
   go_wp2_with fail
   go_quiet (fail)
   refine gen_then fun W5 hW5 => ?_
   have B5 := Lib.hid (show Below w.heap.size w W5 by rw [← hW5]; exact below_drewN (below_drewN (HB1.out.alloc HB1.out.size _) _) _)
   have A0 := Lib.hid (show W5.heap[w.heap.size]? = some (.cells #[.int .i64 k.kind, .int .i64 k.n, .string k.s, .int .u64 (k.label : Int)] 26 (0, 0)) by rw [← hW5]; exact blk_alloc U0.out _)
   have A1 := Lib.hid (show W5.heap[w.heap.size + 1]? = some (.cells #[.int .i64 v.kind, .int .i64 v.n, .string v.s, .int .u64 (v.label : Int)] 26 (0, 0)) by rw [← hW5]; exact blk_alloc U1.out _)
   have A2 := Lib.hid (show W5.heap[w1.heap.size]? = some (.cells #[.int .i64 k.n, .string k.s, .bool false] 139 (0, 0)) by rw [← hW5]; exact heap_alloc_new _ _)
   have A3 := Lib.hid (below_blk B5.out H1.out)
   have hw1 : w.heap.size + 1 < w1.heap.size := blk_lt U1.out
   clear hW5 hlook t2 t3 t4 k2 v0 l3 l1 l0 U0 U1 U3 HB1
   have k0 := cell_of_blk (i := 0) A0.out rfl
   have k1 := cell_of_blk (i := 1) A0.out rfl
   have k2 := cell_of_blk (i := 2) A0.out rfl
   have k3 := cell_of_blk (i := 3) A0.out rfl
   have v0 := cell_of_blk (i := 0) A1.out rfl
   have v1 := cell_of_blk (i := 1) A1.out rfl
   have v2 := cell_of_blk (i := 2) A1.out rfl
   have v3 := cell_of_blk (i := 3) A1.out rfl
   have l0 := blk_lt A0.out
   have l1 := blk_lt A1.out
   go_wp2_with fail
   refine (HJ.out _ _ _ _ (heap_alloc_new _ _)).mono ?_
   rintro e w6 ⟨rfl, rfl⟩
   go_wp2_with fail
   refine (HW.out _ _ _ _ (heap_new_at _ _ _ (by simp))).mono ?_
   rintro e w6 ⟨rfl, hb6⟩
   have B6 := Lib.hid (B5.out.trans ((((Below.refl _ _).alloc (Nat.le_refl _) _).alloc (by simp) _).trans (hb6.mono (by simp; omega)) |>.mono B5.out.size))
   have C0 := Lib.hid (below_blk hb6 (blk_alloc (blk_alloc A0.out _) _))
   have C1 := Lib.hid (below_blk hb6 (blk_alloc (blk_alloc A1.out _) _))
   have C2 := Lib.hid (below_blk hb6 (blk_alloc (blk_alloc A2.out _) _))
   have C3 := Lib.hid (below_blk hb6 (blk_alloc (blk_alloc A3.out _) _))
   clear hb6 k0 k1 k2 k3 v0 v1 v2 v3 A0 A1 A2 A3 l0 l1
   have k0 := cell_of_blk (i := 0) C0.out rfl
   have k1 := cell_of_blk (i := 1) C0.out rfl
   have k2 := cell_of_blk (i := 2) C0.out rfl
   have k3 := cell_of_blk (i := 3) C0.out rfl
   have v0 := cell_of_blk (i := 0) C1.out rfl
   have v1 := cell_of_blk (i := 1) C1.out rfl
   have v2 := cell_of_blk (i := 2) C1.out rfl
   have v3 := cell_of_blk (i := 3) C1.out rfl
   have z0 := free_of_blk (i := 0) C1.out
   have z1 := free_of_blk (i := 1) C1.out
   have z2 := free_of_blk (i := 2) C1.out
   have z3 := free_of_blk (i := 3) C1.out
   have l0 := blk_lt C0.out
   have l1 := blk_lt C1.out
   have hb7 : Below w.heap.size w ((((w6.setCell ⟨w.heap.size + 1, 0, none⟩ (.int .i64 R.kind)).setCell ⟨w.heap.size + 1, 1, none⟩ (.int .i64 R.n)).setCell ⟨w.heap.size + 1, 2, none⟩ (.string R.s)).setCell ⟨w.heap.size + 1, 3, none⟩ (.int .u64 (R.label : Int))) := (((B6.out.setCell (by simp) _).setCell (by simp) _).setCell (by simp) _).setCell (by simp) _
   have F7 := Lib.hid (HF.out _ hb7)
   have B7 := Lib.hid hb7
   clear hb7
   go_wp2_with fail
   refine F7.out.mono ?_
   rintro e w7 ⟨rfl, hb8⟩
   have B8 := Lib.hid (B7.out.trans (hb8.mono B7.out.size))
   have ne0 : w.heap.size ≠ w.heap.size + 1 := by omega
   have ne2 : w1.heap.size ≠ w.heap.size + 1 := by omega
   have G0 := Lib.hid (below_blk hb8 (blk_far (blk_far (blk_far (blk_far C0.out ne0 _) ne0 _) ne0 _) ne0 _))
   have G1 := Lib.hid (show w7.heap[w.heap.size + 1]? = some (.cells #[.int .i64 R.kind, .int .i64 R.n, .string R.s, .int .u64 (R.label : Int)] 26 (0, 0)) from below_blk hb8 (blk_set (i := 3) (blk_set (i := 2) (blk_set (i := 1) (blk_set (i := 0) C1.out _) _) _) _))
   have G2 := Lib.hid (below_blk hb8 (blk_far (blk_far (blk_far (blk_far C2.out ne2 _) ne2 _) ne2 _) ne2 _))
   have G3 := Lib.hid (below_blk B8.out H1.out)
   clear hb8 k0 k1 k2 k3 v0 v1 v2 v3 z0 z1 z2 z3 l0 l1 C0 C1 C2 C3 F7 B7 B6 B5 ne0 ne2
   obtain rfl : pi = (i : Int) := hpi.symm.trans hpi'
   obtain ⟨_, _, _, _, _, _, _, x7⟩ := HFd.out.below B8.out hab'
   have t1 := cell_of_blk (i := 1) G3.out rfl
   have l3 := blk_lt G3.out
   go_wp2_with fail
   have F9 := HFl.out w7
   rw [hcj] at F9
   refine F9.mono ?_
   rintro e w9 ⟨rfl, rfl⟩
   have v0 := cell_of_blk (i := 0) G1.out rfl
   have v1 := cell_of_blk (i := 1) G1.out rfl
   have v2 := cell_of_blk (i := 2) G1.out rfl
   have v3 := cell_of_blk (i := 3) G1.out rfl
   have z0 : w7.frozen? ⟨(ad.add (i * 8)).block, (ad.add (i * 8)).off + 4, none⟩ = false := (below_frozen B8.out (a := ⟨(ad.add (i * 8)).block, _, none⟩) hab').trans (HFz.out _)
   have z1 : w7.frozen? ⟨(ad.add (i * 8)).block, (ad.add (i * 8)).off + 5, none⟩ = false := (below_frozen B8.out (a := ⟨(ad.add (i * 8)).block, _, none⟩) hab').trans (HFz.out _)
   have z2 : w7.frozen? ⟨(ad.add (i * 8)).block, (ad.add (i * 8)).off + 6, none⟩ = false := (below_frozen B8.out (a := ⟨(ad.add (i * 8)).block, _, none⟩) hab').trans (HFz.out _)
   have z3 : w7.frozen? ⟨(ad.add (i * 8)).block, (ad.add (i * 8)).off + 7, none⟩ = false := (below_frozen B8.out (a := ⟨(ad.add (i * 8)).block, _, none⟩) hab').trans (HFz.out _)
   have l1 := blk_lt G1.out
   have l9 := Nat.lt_of_lt_of_le hab' B8.out.size
   go_wp2_with fail
   go_region
   go_wp2_with fail
   go_ret
   exact ⟨rfl, (HTo.out w7 R B8.out).drew⟩
  ·obtain ⟨ads, rfl, hadsb, hcells⟩ := HRS.out.at (flatMap_ne (K := 2) (fun a => rfl) (by omega) hi')
   have hil' : (i' : Int) < (T.S.length : Int) := by have := (List.getElem?_eq_some_iff.1 hi').1; omega
   have hi0' : (0 : Int) ≤ i' := by omega
   have hadsb' : (ads.add (i' * 2)).block < w.heap.size := by rw [block_add']; exact hadsb
   have s1 := (HB1.out.cell (p := ⟨(ads.add (i' * 2)).block, _, none⟩) hadsb').trans (st_at hcells hi').c1
   have ls1 : (ads.add (i' * 2)).block < w1.heap.size := Nat.lt_of_lt_of_le hadsb' HB1.out.size
   have hfit := fun W => fits_any s'.2 v.kind W
   rw [show fitsB s'.2 v.kind = true from by rw [← hal]; simpa [hb3'] using hst] at hfit
   have HFit := Lib.hid hfit
   clear hfit hcells hi' hnm hal
   have t2 := cell_of_blk (i := 2) U3.out rfl
   have t4 := cell_of_blk (i := 4) U3.out rfl
   have t3 := cell_of_blk (i := 3) U3.out rfl
   have k2 := cell_of_blk (i := 2) U0.out rfl
   have v0 := cell_of_blk (i := 0) U1.out rfl
   have l3 := blk_lt U3.out
   have l1 := blk_lt U1.out
   have l0 := blk_lt U0.out
   have hlook : ∀ q, (Instr.lookup 115 (.map (some nb)) (.string k.s) true).run Tryz.prog ((w1.alloc (.cells #[.int .i64 k.n, .string k.s, .bool true] 139)).drewN q) = .ok _ _ := fun q => HL.out _ (blk_same HB1.out hnlt _)
   go_wp2_with fail
   go_quiet (fail)
   go_wp2_with fail
   go_quiet ((go_at_call 88; first | exact quiet_ret (HFit.out _) | exact quiet_ret_add (HFit.out _)))
   refine gen_then fun W5 hW5 => ?_
   have B5 := Lib.hid (show Below w.heap.size w W5 by rw [← hW5]; exact below_drewN (below_drewN (HB1.out.alloc HB1.out.size _) _) _)
   have A0 := Lib.hid (show W5.heap[w.heap.size]? = some (.cells #[.int .i64 k.kind, .int .i64 k.n, .string k.s, .int .u64 (k.label : Int)] 26 (0, 0)) by rw [← hW5]; exact blk_alloc U0.out _)
   have A1 := Lib.hid (show W5.heap[w.heap.size + 1]? = some (.cells #[.int .i64 v.kind, .int .i64 v.n, .string v.s, .int .u64 (v.label : Int)] 26 (0, 0)) by rw [← hW5]; exact blk_alloc U1.out _)
   have A2 := Lib.hid (show W5.heap[w1.heap.size]? = some (.cells #[.int .i64 k.n, .string k.s, .bool true] 139 (0, 0)) by rw [← hW5]; exact heap_alloc_new _ _)
   have A3 := Lib.hid (below_blk B5.out H1.out)
   have hw1 : w.heap.size + 1 < w1.heap.size := blk_lt U1.out
   clear hW5 hlook t2 t3 t4 k2 v0 l3 l1 l0 U0 U1 U3 HB1
   have k0 := cell_of_blk (i := 0) A0.out rfl
   have k1 := cell_of_blk (i := 1) A0.out rfl
   have k2 := cell_of_blk (i := 2) A0.out rfl
   have k3 := cell_of_blk (i := 3) A0.out rfl
   have v0 := cell_of_blk (i := 0) A1.out rfl
   have v1 := cell_of_blk (i := 1) A1.out rfl
   have v2 := cell_of_blk (i := 2) A1.out rfl
   have v3 := cell_of_blk (i := 3) A1.out rfl
   have l0 := blk_lt A0.out
   have l1 := blk_lt A1.out
   go_wp2_with fail
   refine (HJ.out _ _ _ _ (heap_alloc_new _ _)).mono ?_
   rintro e w6 ⟨rfl, rfl⟩
   go_wp2_with fail
   refine (HW.out _ _ _ _ (heap_new_at _ _ _ (by simp))).mono ?_
   rintro e w6 ⟨rfl, hb6⟩
   have B6 := Lib.hid (B5.out.trans ((((Below.refl _ _).alloc (Nat.le_refl _) _).alloc (by simp) _).trans (hb6.mono (by simp; omega)) |>.mono B5.out.size))
   have C0 := Lib.hid (below_blk hb6 (blk_alloc (blk_alloc A0.out _) _))
   have C1 := Lib.hid (below_blk hb6 (blk_alloc (blk_alloc A1.out _) _))
   have C2 := Lib.hid (below_blk hb6 (blk_alloc (blk_alloc A2.out _) _))
   have C3 := Lib.hid (below_blk hb6 (blk_alloc (blk_alloc A3.out _) _))
   clear hb6 k0 k1 k2 k3 v0 v1 v2 v3 A0 A1 A2 A3 l0 l1
   have k0 := cell_of_blk (i := 0) C0.out rfl
   have k1 := cell_of_blk (i := 1) C0.out rfl
   have k2 := cell_of_blk (i := 2) C0.out rfl
   have k3 := cell_of_blk (i := 3) C0.out rfl
   have v0 := cell_of_blk (i := 0) C1.out rfl
   have v1 := cell_of_blk (i := 1) C1.out rfl
   have v2 := cell_of_blk (i := 2) C1.out rfl
   have v3 := cell_of_blk (i := 3) C1.out rfl
   have z0 := free_of_blk (i := 0) C1.out
   have z1 := free_of_blk (i := 1) C1.out
   have z2 := free_of_blk (i := 2) C1.out
   have z3 := free_of_blk (i := 3) C1.out
   have l0 := blk_lt C0.out
   have l1 := blk_lt C1.out
   have hb7 : Below w.heap.size w ((((w6.setCell ⟨w.heap.size + 1, 0, none⟩ (.int .i64 R.kind)).setCell ⟨w.heap.size + 1, 1, none⟩ (.int .i64 R.n)).setCell ⟨w.heap.size + 1, 2, none⟩ (.string R.s)).setCell ⟨w.heap.size + 1, 3, none⟩ (.int .u64 (R.label : Int))) := (((B6.out.setCell (by simp) _).setCell (by simp) _).setCell (by simp) _).setCell (by simp) _
   have F7 := Lib.hid (HF.out _ hb7)
   have B7 := Lib.hid hb7
   clear hb7
   go_wp2_with fail
   refine F7.out.mono ?_
   rintro e w7 ⟨rfl, hb8⟩
   have B8 := Lib.hid (B7.out.trans (hb8.mono B7.out.size))
   have ne0 : w.heap.size ≠ w.heap.size + 1 := by omega
   have ne2 : w1.heap.size ≠ w.heap.size + 1 := by omega
   have G0 := Lib.hid (below_blk hb8 (blk_far (blk_far (blk_far (blk_far C0.out ne0 _) ne0 _) ne0 _) ne0 _))
   have G1 := Lib.hid (show w7.heap[w.heap.size + 1]? = some (.cells #[.int .i64 R.kind, .int .i64 R.n, .string R.s, .int .u64 (R.label : Int)] 26 (0, 0)) from below_blk hb8 (blk_set (i := 3) (blk_set (i := 2) (blk_set (i := 1) (blk_set (i := 0) C1.out _) _) _) _))
   have G2 := Lib.hid (below_blk hb8 (blk_far (blk_far (blk_far (blk_far C2.out ne2 _) ne2 _) ne2 _) ne2 _))
   have G3 := Lib.hid (below_blk B8.out H1.out)
   clear hb8 k0 k1 k2 k3 v0 v1 v2 v3 z0 z1 z2 z3 l0 l1 C0 C1 C2 C3 F7 B7 B6 B5 ne0 ne2
   obtain rfl : pi = (i : Int) := hpi.symm.trans hpi'
   obtain ⟨_, _, _, _, _, _, _, x7⟩ := HFd.out.below B8.out hab'
   have t1 := cell_of_blk (i := 1) G3.out rfl
   have l3 := blk_lt G3.out
   go_wp2_with fail
   have F9 := HFl.out w7
   rw [hcj] at F9
   refine F9.mono ?_
   rintro e w9 ⟨rfl, rfl⟩
   have v0 := cell_of_blk (i := 0) G1.out rfl
   have v1 := cell_of_blk (i := 1) G1.out rfl
   have v2 := cell_of_blk (i := 2) G1.out rfl
   have v3 := cell_of_blk (i := 3) G1.out rfl
   have z0 : w7.frozen? ⟨(ad.add (i * 8)).block, (ad.add (i * 8)).off + 4, none⟩ = false := (below_frozen B8.out (a := ⟨(ad.add (i * 8)).block, _, none⟩) hab').trans (HFz.out _)
   have z1 : w7.frozen? ⟨(ad.add (i * 8)).block, (ad.add (i * 8)).off + 5, none⟩ = false := (below_frozen B8.out (a := ⟨(ad.add (i * 8)).block, _, none⟩) hab').trans (HFz.out _)
   have z2 : w7.frozen? ⟨(ad.add (i * 8)).block, (ad.add (i * 8)).off + 6, none⟩ = false := (below_frozen B8.out (a := ⟨(ad.add (i * 8)).block, _, none⟩) hab').trans (HFz.out _)
   have z3 : w7.frozen? ⟨(ad.add (i * 8)).block, (ad.add (i * 8)).off + 7, none⟩ = false := (below_frozen B8.out (a := ⟨(ad.add (i * 8)).block, _, none⟩) hab').trans (HFz.out _)
   have l1 := blk_lt G1.out
   have l9 := Nat.lt_of_lt_of_le hab' B8.out.size
   go_wp2_with fail
   go_region
   go_wp2_with fail
   go_ret
   exact ⟨rfl, (HTo.out w7 R B8.out).drew⟩
end Go.Proofs.YtilcofpceadpbaaGreatDoor
