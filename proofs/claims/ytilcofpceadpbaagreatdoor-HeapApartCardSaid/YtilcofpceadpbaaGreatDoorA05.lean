/-
 HeapApart: part 5 of what the claim rests on.
-/
import Derived.Test.YtilcofpceadpbaaGreatDoorA03
import Derived.Test.YtilcofpceadpbaaGreatDoorA04
import Derived.Laws.EntriesVeiled
import Derived.BigQuiet
import Derived.Deep.RegionHeld3
set_option linter.unusedVariables false
set_option linter.unusedSimpArgs false
set_option maxHeartbeats 64000000
namespace Go.Proofs.YtilcofpceadpbaaGreatDoor
open Go.ChangeShapes Go.WideShapes Go.ChangeAt Go.RowKit

theorem may_iff (t : LTy) : (Chk (51 - 1) (strip t) ∧ 0 + nodes (strip t) ≤ 10000) ↔ May (strip t) := by unfold May; rw [Nat.zero_add]
def LookOut (t : LTy) (bm : Nat) (w : World) (e : Ending) (w' : World) : Prop := Fr [bm] w w' ∧ ((May (strip t) ∧ e = .returned (.tuple #[])) ∨ (¬ May (strip t) ∧ e = .panicked (wrongV 0 90)))
set_option maxRecDepth 100000 in
theorem tlook_any (t : LTy) (w : World) (N bm bk bx : Nat) (hin : LIn w N t) (hsp : SpB N w) (hbx : Boxes w N bm bk 0) (hb : w.heap[bx]? = some (.cells #[.int .i64 t.kind, .slice t.A t.ns.length t.c, .slice t.A2 t.xs.length t.c2] 31 (0, 0))) :
  Calls Tryz.prog 115 #[.pointer (some ⟨bk, 0, none⟩), .pointer (some ⟨bx, 0, none⟩)] w (LookOut t bm w) := by
 have h := look_any t 1 0 w N bm bk hin hsp hbx (by omega) (by omega)
 unfold LTy.val at h
 have c0 := cell_of_blk (i := 0) hb rfl
 have c1 := cell_of_blk (i := 1) hb rfl
 have c2 := cell_of_blk (i := 2) hb rfl
 have q0 := cell_of_blk (i := 0) hbx.look rfl
 have lb := blk_lt hb
 have lq := blk_lt hbx.look
 have hcf : ∀ args W, (callFunc 110 args).run Tryz.prog W = .ok (.enter 110 args) W := fun _ _ => rfl
 have HC := Lib.hid h
 clear h hin hsp hbx hb
 go_enter Tryz.func115, Tryz.ntmps115
 go_wp2_with fail
 refine HC.out.mono ?_
 rintro e w1 ⟨hf, ⟨h1, h2, rfl, _⟩ | ⟨h1, rfl⟩⟩
 ·have HF := Lib.hid (show LookOut t bm w (.returned (.tuple #[])) w1 from ⟨hf, .inl ⟨(may_iff t).1 ⟨h1, h2⟩, rfl⟩⟩)
  clear hf h1 h2
  go_wp2
  go_end0
  exact HF.out
 ·have HF := Lib.hid (show LookOut t bm w (.panicked (wrongV 0 90)) w1 from ⟨hf, .inr ⟨fun e => h1 ((may_iff t).2 e), rfl⟩⟩)
  clear hf h1
  go_wp2
  exact ⟨rfl, HF.out⟩
set_option maxRecDepth 100000 in
theorem tcheck_any (t : LTy) (w : World) (hin : LIn w w.heap.size t) (hsp : SpW w) : Calls Tryz.prog 90 #[t.val] w (RetB (.bool (tb (May (strip t)))) w) := by
 unfold LTy.val
 have hmf : ∀ (fn : Fn) (first cap : Array Value) (w : World), (Instr.makeFunc fn first cap).run Tryz.prog w = .ok (.func fn first cap) w := fun _ _ _ _ => rfl
 have hcf : ∀ args W, (callFunc 115 args).run Tryz.prog W = .ok (.enter 115 args) W := fun _ _ => rfl
 obtain ⟨N, hN⟩ : ∃ N, N = w.heap.size := ⟨_, rfl⟩
 obtain ⟨bm, hbm⟩ : ∃ b, b = w.heap.size + 1 := ⟨_, rfl⟩
 obtain ⟨bk, hbk⟩ : ∃ b, b = w.heap.size + 1 + 1 := ⟨_, rfl⟩
 have HIN := Lib.hid hin
 have HSP := Lib.hid hsp
 clear hin hsp
 go_enter Tryz.func90, Tryz.ntmps90
 go_upto_region 3 with fail
 rw [← hbk, ← hbm, ← hN]
 refine gen_wpT fun W hW => ?_
 have kb := Lib.hid (show W.heap[N]? = some (.cells #[.int .i64 t.kind, .slice t.A t.ns.length t.c, .slice t.A2 t.xs.length t.c2] 31 (0, 0)) by rw [← hW, hN]; exact blk_alloc (blk_alloc (heap_new_at _ _ _ rfl) _) _)
 have km := Lib.hid (show W.heap[bm]? = some (.cells #[.int .i64 0] 3 (0, 0)) by rw [← hW, hbm]; exact blk_alloc (heap_new_at _ _ _ (by simp)) _)
 have kk := Lib.hid (show W.heap[bk]? = some (.cells #[.nilFunc] 159 (0, 0)) by rw [← hW, hbk]; exact heap_new_at _ _ _ (by simp))
 have kB := Lib.hid (show Below w.heap.size w W by rw [← hW]; exact (((Below.refl _ _).alloc (Nat.le_refl _) _).alloc (by simp) _).alloc (by simp; omega) _)
 have q0 := cell_of_blk (i := 0) kk.out rfl
 have f0 := free_of_blk (i := 0) kk.out
 have lk := blk_lt kk.out
 have HNN := Lib.hid (show N = w.heap.size ∧ N < bm ∧ bm < bk from ⟨hN, by omega, by omega⟩)
 clear hW hN hbm hbk
 go_upto_region 4 with fail
 refine gen_wpT fun V hV => ?_
 have jb := Lib.hid (show V.heap[N]? = some (.cells #[.int .i64 t.kind, .slice t.A t.ns.length t.c, .slice t.A2 t.xs.length t.c2] 31 (0, 0)) by rw [← hV]; exact blk_far kb.out (by have := HNN.out; simp; omega) _)
 have jm := Lib.hid (show V.heap[bm]? = some (.cells #[.int .i64 0] 3 (0, 0)) by rw [← hV]; exact blk_far km.out (by have := HNN.out; simp; omega) _)
 have jk := Lib.hid (show V.heap[bk]? = some (.cells #[.func (.func 110) #[] #[.pointer (some ⟨bm, 0, none⟩), .pointer (some ⟨bk, 0, none⟩)]] 159 (0, 0)) by rw [← hV]; exact blk_set (i := 0) kk.out _)
 have jB := Lib.hid (show Below w.heap.size w V by rw [← hV]; exact kB.out.setCell (by have := HNN.out; simp; omega) _)
 clear hV q0 f0 lk
 have hbxs : ∀ w1, w1 = (V.alloc (.cells #[.int .i64 0] 3)).alloc (.cells #[.int .i64 0] 47) → Calls Tryz.prog 115 #[.pointer (some ⟨bk, 0, none⟩), .pointer (some ⟨N, 0, none⟩)] w1 (LookOut t bm w1) := by
  intro w1 h1
  have hb1 : Below w.heap.size w w1 := by rw [h1]; exact (jB.out.alloc jB.out.size _).alloc (by have := jB.out.size; simp; omega) _
  have e : N = w.heap.size := HNN.out.1
  refine tlook_any t w1 N bm bk N ?_ ?_ ⟨?_, ?_, by have := HNN.out; omega, by have := HNN.out; omega⟩ ?_
  ·rw [e]; exact HIN.out.stay hb1
  ·rw [e]; exact HSP.out.at_.on hb1
  ·rw [h1]; exact blk_alloc (blk_alloc jm.out _) _
  ·rw [h1]; exact blk_alloc (blk_alloc jk.out _) _
  ·rw [h1]; exact blk_alloc (blk_alloc jb.out _) _
 have hfin : ∀ w2 w' : World, Fr [bm] ((V.alloc (.cells #[.int .i64 0] 3)).alloc (.cells #[.int .i64 0] 47)) w2 → Fr [V.heap.size, V.heap.size + 1] w2 w' → Below w.heap.size w w' := fun w2 w' h2 h3 => by
  have hb1 : Below w.heap.size w ((V.alloc (.cells #[.int .i64 0] 3)).alloc (.cells #[.int .i64 0] 47)) := (jB.out.alloc jB.out.size _).alloc (by have := jB.out.size; simp; omega) _
  have e := HNN.out
  have hs := jB.out.size
  have hs2 := h2.size
  exact (hb1.trans (h2.to_below (by simp; omega) (by simp; omega))).trans (h3.to_below (by simp at hs2; omega) (by simp; omega))
 have HFIN := Lib.hid hfin
 have hSb : ∀ b ∈ [bm], b < V.heap.size := by intro b hb; rw [List.mem_singleton.1 hb]; exact blk_lt jm.out
 by_cases hmay : May (strip t)
 ·have hg := guarded_ok 115 #[.pointer (some ⟨bk, 0, none⟩), .pointer (some ⟨N, 0, none⟩)] V (fun w2 => Fr [bm] ((V.alloc (.cells #[.int .i64 0] 3)).alloc (.cells #[.int .i64 0] 47)) w2) [bm] hSb
   (fun w1 h1 => (hbxs w1 h1).mono fun e w2 ⟨hf, h⟩ => by
    rcases h with ⟨_, he⟩ | ⟨hn, _⟩
    ·exact ⟨he, hf, h1 ▸ hf⟩
    ·exact (hn hmay).elim) (fun W => rfl)
  have HG := Lib.hid hg
  clear hg hbxs hfin
  go_wp2_with fail
  refine HG.out.mono ?_
  rintro e w5 ⟨rfl, w2, h2, h3⟩
  have HE := Lib.hid (HFIN.out w2 w5 h2 h3)
  clear h2 h3
  go_wp2
  go_ret
  exact ⟨congrArg (fun b => Ending.returned (.bool b)) (tb_true hmay).symm, HE.out⟩
 ·have hg := guarded_no 0 90 115 #[.pointer (some ⟨bk, 0, none⟩), .pointer (some ⟨N, 0, none⟩)] V (fun w2 => Fr [bm] ((V.alloc (.cells #[.int .i64 0] 3)).alloc (.cells #[.int .i64 0] 47)) w2) [bm] hSb
   (fun w1 h1 => (hbxs w1 h1).mono fun e w2 ⟨hf, h⟩ => by
    rcases h with ⟨hm, _⟩ | ⟨_, he⟩
    ·exact (hmay hm).elim
    ·exact ⟨he, hf, h1 ▸ hf⟩) (fun W => rfl)
  have HG := Lib.hid hg
  clear hg hbxs hfin
  go_wp2_with fail
  refine HG.out.mono ?_
  rintro e w5 ⟨rfl, w2, h2, h3⟩
  have HE := Lib.hid (HFIN.out w2 w5 h2 h3)
  clear h2 h3
  go_wp2
  go_ret
  exact ⟨congrArg (fun b => Ending.returned (.bool b)) (tb_false hmay).symm, HE.out⟩

theorem below_drewT {n : Nat} {w w' : World} (h : Below n w w') (m : Nat) : Below n w (w'.drewN m) := ⟨h.os, h.tape, h.output, h.size, h.block⟩
theorem reads_name {w : World} {B : Nat} {A : Option Addr} {ns : List ByteArray} (h : Reads w B A (ns.map Value.string)) {k : Nat} {s : ByteArray} (hs : ns[k]? = some s) : ∃ ad, A = some ad ∧ ad.block < B ∧ w.cell? (ad.add k) = some (.string s) := by
 obtain ⟨ad, h1, h2, h3⟩ := h.at (fun e => by
  have := (List.getElem?_eq_some_iff.1 hs).1
  rw [List.map_eq_nil_iff] at e
  rw [e] at this
  simp at this)
 exact ⟨ad, h1, h2, h3 k _ (by rw [List.getElem?_map, hs]; rfl)⟩
theorem list_ne_at {α : Type} {xs ys : List α} {k : Nat} {x y : α} (hx : xs[k]? = some x) (hy : ys[k]? = some y) (h : ¬ x = y) : ¬ xs = ys := fun e => by
 rw [e, hy] at hx
 exact h (Option.some.inj hx).symm
theorem list_eq_at {α : Type} {xs ys : List α} (hl : xs.length = ys.length) (h : ∀ j, j < xs.length → xs[j]? = ys[j]?) : xs = ys := by
 refine List.ext_getElem? fun i => ?_
 rcases Nat.lt_or_ge i xs.length with h1 | h1
 ·exact h i h1
 ·rw [List.getElem?_eq_none h1, List.getElem?_eq_none (by omega)]
theorem str_beq {a b : ByteArray} (h : a = b) : (a.toList == b.toList) = true := by rw [h]; simp
theorem str_bne {a b : ByteArray} (h : ¬ a = b) : (a.toList == b.toList) = false := by
 rw [beq_eq_false_iff_ne]
 intro e
 rw [ByteArray.toList_eq, ByteArray.toList_eq] at e
 exact h (ByteArray.ext (Array.toList_inj.1 e))
theorem drew_add (w : World) (q n : Nat) : (w.drewN q).drewN n = w.drewN (q + n) := by simp [World.drewN, Nat.add_assoc]
set_option maxRecDepth 100000 in
theorem seq_any (xs ys : List ByteArray) (A1 A2 : Option Addr) (c1 c2 B : Nat) (w : World) (hx : Reads w B A1 (xs.map Value.string)) (hy : Reads w B A2 (ys.map Value.string)) (hl1 : xs.length ≤ 8796093022208) (hl2 : ys.length ≤ 8796093022208) :
  Calls Tryz.prog 116 #[.slice A1 xs.length c1, .slice A2 ys.length c2] w fun e w' => e = .returned (.bool (tb (xs = ys))) ∧ ∃ q, w' = w.drewN q := by
 obtain ⟨n1, hn1⟩ : ∃ n, n = xs.length := ⟨_, rfl⟩
 obtain ⟨n2, hn2⟩ : ∃ n, n = ys.length := ⟨_, rfl⟩
 rw [← hn1] at hl1
 rw [← hn2] at hl2
 rw [← hn1, ← hn2]
 have HX := Lib.hid hx
 have HY := Lib.hid hy
 have HN := Lib.hid (show xs.length = n1 ∧ ys.length = n2 from ⟨hn1.symm, hn2.symm⟩)
 clear hx hy hn1 hn2
 obtain ⟨ans, hans⟩ : ∃ ans, ans = tb (xs = ys) := ⟨_, rfl⟩
 rw [← hans]
 have HA := Lib.hid hans
 clear hans
 by_cases hne : n1 = n2
 case neg =>
  have e : ans = false := by rw [HA.out]; exact tb_false (fun e => hne (by rw [← HN.out.1, ← HN.out.2, e]))
  subst e
  have hb : ((n1 : Int) == (n2 : Int)) = false := beq_eq_false_iff_ne.2 (by omega)
  have hb' : ((n1 : Int) != (n2 : Int)) = true := by rw [bne, hb]; rfl
  clear HA hne
  go_enter Tryz.func116, Tryz.ntmps116
  go_wp2
  go_ret
  exact ⟨rfl, 0, rfl⟩
 obtain rfl := hne
 go_enter Tryz.func116, Tryz.ntmps116
 go_wp2_with fail
 go_loopw [13] (fun i wr => ∃ k : Nat, k ≤ n1 ∧ i = .int .i64 k ∧ Hid (∀ j, j < k → xs[j]? = ys[j]?) ∧ ∃ q, wr = w.drewN q) (fun i _ => n1 - (intOf i).toNat)
 case atStart => exact ⟨0, by omega, rfl, Lib.hid (fun j hj => by omega), 0, rfl⟩
 case round =>
  obtain ⟨k, hk, rfl, HK, q, rfl⟩ := hrel
  by_cases hlt : k < n1
  ·obtain ⟨x, hx⟩ : ∃ x, xs[k]? = some x := ⟨_, List.getElem?_eq_getElem (by rw [HN.out.1]; exact hlt)⟩
   obtain ⟨y, hy⟩ : ∃ y, ys[k]? = some y := ⟨_, List.getElem?_eq_getElem (by rw [HN.out.2]; exact hlt)⟩
   obtain ⟨a1, hA1, _, x0⟩ := reads_name HX.out hx
   obtain ⟨a2, hA2, _, y0⟩ := reads_name HY.out hy
   have hk' : (k : Int) < (n1 : Int) := by omega
   have hk0 : (0 : Int) ≤ k := by omega
   have hwk : IntKind.i64.wrap (k : Int) = (k : Int) := IntWalk.i64_in _ (by omega)
   have x0' : ∀ m, (w.drewN m).cell? (a1.add k) = some (.string x) := fun m => x0
   have y0' : ∀ m, (w.drewN m).cell? (a2.add k) = some (.string y) := fun m => y0
   subst hA1 hA2
   by_cases hxy : x = y
   ·have hb := str_beq hxy
    have HK2 := Lib.hid (show ∀ j, j < k + 1 → xs[j]? = ys[j]? from fun j hj => by
     rcases Nat.lt_or_ge j k with h1 | h1
     ·exact HK.out j h1
     ·obtain rfl : j = k := by omega
      rw [hx, hy, hxy])
    have hb' : (x.toList != y.toList) = false := by rw [bne, hb]; rfl
    clear hx hy hxy
    go_wp2_with fail
    go_quiet (fail)
    go_wp2_with fail
    go_roundw
    case rel => exact ⟨k + 1, by omega, by go_num, HK2, q + nq, by first | rfl | exact drew_add w q nq⟩
    case measure => simp [intOf]; omega
   ·have hb := str_bne hxy
    have hb' : (x.toList != y.toList) = true := by rw [bne, hb]; rfl
    have e : ans = false := by rw [HA.out]; exact tb_false (list_ne_at hx hy hxy)
    subst e
    clear hx hy hxy HA
    go_wp2_with fail
    go_quiet (fail)
    go_wp2
    go_ret
    exact ⟨rfl, q + nq, by first | rfl | exact drew_add w q nq⟩
  ·obtain rfl : k = n1 := by omega
   have e : ans = true := by
    rw [HA.out]
    exact tb_true (list_eq_at (HN.out.1.trans HN.out.2.symm) (fun j hj => HK.out j (by rw [HN.out.1] at hj; exact hj)))
   subst e
   go_wp2
   go_ret
   exact ⟨rfl, q, rfl⟩
def LikeAll (f : Nat) (t : LTy) : Prop := ∀ (u : LTy) (w : World), LIn w w.heap.size t → LIn w w.heap.size u → Calls Tryz.prog f #[t.val, u.val] w (RetB (.bool (tb (strip t = strip u))) w)
theorem strip_eq (t u : LTy) : strip t = strip u ↔ t.kind = u.kind ∧ t.ns = u.ns ∧ t.xs.map strip = u.xs.map strip := by
 rw [strip_mk, strip_mk]
 constructor
 ·intro e
  injection e with e1 e2 e3
  exact ⟨e1, e2, e3⟩
 ·rintro ⟨e1, e2, e3⟩
  rw [e1, e2, e3]
set_option maxRecDepth 100000 in
theorem eqfunc_any (t u : LTy) (w : World) (ht : LIn w w.heap.size t) (hu : LIn w w.heap.size u) (ih : ∀ x ∈ t.xs, LikeAll 93 x) :
  Calls Tryz.prog 117 #[.slice t.A2 t.xs.length t.c2, .slice u.A2 u.xs.length u.c2, .func (.func 93) #[] #[]] w (RetB (.bool (tb (t.xs.map strip = u.xs.map strip))) w) := by
 have hcf : ∀ args W, (callFunc 93 args).run Tryz.prog W = .ok (.enter 93 args) W := fun _ _ => rfl
 have hl1 := ht.n2.2
 have hl2 := hu.n2.2
 obtain ⟨n1, hn1⟩ : ∃ n, n = t.xs.length := ⟨_, rfl⟩
 obtain ⟨n2, hn2⟩ : ∃ n, n = u.xs.length := ⟨_, rfl⟩
 rw [← hn1] at hl1
 rw [← hn2] at hl2
 rw [← hn1, ← hn2]
 have HT := Lib.hid ht
 have HU := Lib.hid hu
 have HI := Lib.hid ih
 have HN := Lib.hid (show t.xs.length = n1 ∧ u.xs.length = n2 from ⟨hn1.symm, hn2.symm⟩)
 clear ht hu ih hn1 hn2
 obtain ⟨ans, hans⟩ : ∃ ans, ans = tb (t.xs.map strip = u.xs.map strip) := ⟨_, rfl⟩
 rw [← hans]
 have HA := Lib.hid hans
 clear hans
 by_cases hne : n1 = n2
 case neg =>
  have e : ans = false := by rw [HA.out]; exact tb_false (fun e => hne (by have := congrArg List.length e; simp only [List.length_map] at this; rw [← HN.out.1, ← HN.out.2, this]))
  subst e
  have hb : ((n1 : Int) == (n2 : Int)) = false := beq_eq_false_iff_ne.2 (by omega)
  have hb' : ((n1 : Int) != (n2 : Int)) = true := by rw [bne, hb]; rfl
  clear HA hne
  go_enter Tryz.func117, Tryz.ntmps117
  go_wp2
  go_ret
  exact ⟨rfl, Below.refl _ _⟩
 obtain rfl := hne
 go_enter Tryz.func117, Tryz.ntmps117
 go_wp2_with fail
 go_loopw [17] (fun i wr => ∃ k : Nat, k ≤ n1 ∧ i = .int .i64 k ∧ Hid (∀ j, j < k → (t.xs.map strip)[j]? = (u.xs.map strip)[j]?) ∧ Hid (Below w.heap.size w wr)) (fun i _ => n1 - (intOf i).toNat)
 case atStart => exact ⟨0, by omega, rfl, Lib.hid (fun j hj => by omega), Lib.hid (Below.refl _ _)⟩
 case round =>
  obtain ⟨k, hk, rfl, HK, HB⟩ := hrel
  by_cases hlt : k < n1
  ·obtain ⟨x, hx⟩ : ∃ x, t.xs[k]? = some x := ⟨_, List.getElem?_eq_getElem (by rw [HN.out.1]; exact hlt)⟩
   obtain ⟨y, hy⟩ : ∃ y, u.xs[k]? = some y := ⟨_, List.getElem?_eq_getElem (by rw [HN.out.2]; exact hlt)⟩
   have htr := HT.out.on HB.out
   have hur := HU.out.on HB.out
   obtain ⟨a1, hA1, l1, x0, x1, x2⟩ := htr.cells hx
   obtain ⟨a2, hA2, l2, y0, y1, y2⟩ := hur.cells hy
   have m1 : (a1.add (k * 3)).block < wr.heap.size := by rw [block_add']; exact l1
   have m2 : (a2.add (k * 3)).block < wr.heap.size := by rw [block_add']; exact l2
   have hk' : (k : Int) < (n1 : Int) := by omega
   have hk0 : (0 : Int) ≤ k := by omega
   have hb2 : Below wr.heap.size wr ((wr.alloc (.cells #[.int .i64 x.kind, .slice x.A x.ns.length x.c, .slice x.A2 x.xs.length x.c2] 31)).alloc (.cells #[.int .i64 y.kind, .slice y.A y.ns.length y.c, .slice y.A2 y.xs.length y.c2] 31)) := ((Below.refl _ _).alloc (Nat.le_refl _) _).alloc (by simp) _
   have hcall := HI.out x (List.mem_of_getElem? hx) y _ ((htr.part hx).on hb2) ((hur.part hy).on hb2)
   unfold LTy.val at hcall
   have HC := Lib.hid hcall
   have HB2 := Lib.hid (HB.out.trans (hb2.mono HB.out.size))
   have HX := Lib.hid (show (t.xs.map strip)[k]? = some (strip x) ∧ (u.xs.map strip)[k]? = some (strip y) by rw [List.getElem?_map, List.getElem?_map, hx, hy]; exact ⟨rfl, rfl⟩)
   rw [hA1, hA2]
   clear hcall hb2 htr hur hx hy l1 l2
   by_cases hxy : strip x = strip y
   ·rw [tb_true hxy] at HC
    have HK2 := Lib.hid (show ∀ j, j < k + 1 → (t.xs.map strip)[j]? = (u.xs.map strip)[j]? from fun j hj => by
     rcases Nat.lt_or_ge j k with h1 | h1
     ·exact HK.out j h1
     ·obtain rfl : j = k := by omega
      rw [HX.out.1, HX.out.2, hxy])
    clear hxy
    go_wp2_with fail
    refine HC.out.mono ?_
    rintro e w5 ⟨rfl, hb5⟩
    have HB5 := Lib.hid (HB2.out.trans (hb5.mono HB2.out.size))
    clear hb5
    go_wp2_with fail
    go_roundw
    case rel => exact ⟨k + 1, by omega, by go_num, HK2, HB5⟩
    case measure => simp [intOf]; omega
   ·rw [tb_false hxy] at HC
    have e : ans = false := by rw [HA.out]; exact tb_false (list_ne_at HX.out.1 HX.out.2 hxy)
    subst e
    clear hxy HA
    go_wp2_with fail
    refine HC.out.mono ?_
    rintro e w5 ⟨rfl, hb5⟩
    have HB5 := Lib.hid (HB2.out.trans (hb5.mono HB2.out.size))
    clear hb5
    go_wp2
    go_ret
    exact ⟨rfl, HB5.out⟩
  ·obtain rfl : k = n1 := by omega
   have e : ans = true := by
    rw [HA.out]
    exact tb_true (list_eq_at (by rw [List.length_map, List.length_map, HN.out.1, HN.out.2]) (fun j hj => HK.out j (by rw [List.length_map, HN.out.1] at hj; exact hj)))
   subst e
   go_wp2
   go_ret
   exact ⟨rfl, HB.out⟩
set_option maxRecDepth 100000 in
theorem tlike_any (t : LTy) : LikeAll 93 t := by
 induction t using lty_ind with
 | h t ih =>
 intro u w ht hu
 have hb0 : Below w.heap.size w ((w.alloc (.cells #[.int .i64 t.kind, .slice t.A t.ns.length t.c, .slice t.A2 t.xs.length t.c2] 31)).alloc (.cells #[.int .i64 u.kind, .slice u.A u.ns.length u.c, .slice u.A2 u.xs.length u.c2] 31)) := ((Below.refl _ _).alloc (Nat.le_refl _) _).alloc (by simp) _
 have hseq := fun (W : World) (hW : Below w.heap.size w W) => seq_any t.ns u.ns t.A u.A t.c u.c _ W (ht.names.below hW) (hu.names.below hW) ht.n1.2 hu.n1.2
 have heqf := fun (W : World) (hW : Below w.heap.size w W) => eqfunc_any t u W (ht.on hW) (hu.on hW) ih
 have HB := Lib.hid hb0
 have HS := Lib.hid hseq
 have HE := Lib.hid heqf
 clear hb0 hseq heqf ht hu ih
 unfold LTy.val
 by_cases h1 : t.kind = u.kind
 case neg =>
  rw [tb_false (fun e => h1 ((strip_eq t u).1 e).1)]
  have hb : (t.kind == u.kind) = false := beq_eq_false_iff_ne.2 h1
  clear h1
  go_enter Tryz.func93, Tryz.ntmps93
  go_wp2
  go_ret
  exact ⟨rfl, HB.out⟩
 have hb : (t.kind == u.kind) = true := beq_iff_eq.2 h1
 have HK := Lib.hid h1
 clear h1
 by_cases h2 : t.ns = u.ns
 case neg =>
  rw [tb_false (fun e => h2 ((strip_eq t u).1 e).2.1)]
  have HS2 := Lib.hid (fun W hW => by have := HS.out W hW; rw [tb_false h2] at this; exact this)
  clear h2 HS
  go_enter Tryz.func93, Tryz.ntmps93
  go_wp2_with fail
  refine (HS2.out _ HB.out).mono ?_
  rintro e w1 ⟨rfl, q, rfl⟩
  go_wp2
  go_ret
  exact ⟨rfl, below_drewT HB.out q⟩
 have HS2 := Lib.hid (fun W hW => by have := HS.out W hW; rw [tb_true h2] at this; exact this)
 have HN := Lib.hid h2
 clear h2 HS
 rw [tb_congr (show strip t = strip u ↔ t.xs.map strip = u.xs.map strip from ⟨fun e => ((strip_eq t u).1 e).2.2, fun e => (strip_eq t u).2 ⟨HK.out, HN.out, e⟩⟩)]
 obtain ⟨ans, hans⟩ : ∃ ans, ans = tb (t.xs.map strip = u.xs.map strip) := ⟨_, rfl⟩
 rw [← hans] at HE ⊢
 clear hans HK HN
 go_enter Tryz.func93, Tryz.ntmps93
 go_wp2_with fail
 refine (HS2.out _ HB.out).mono ?_
 rintro e w1 ⟨rfl, q, rfl⟩
 go_wp2_with fail
 refine (HE.out _ (below_drewT HB.out q)).mono ?_
 rintro e w2 ⟨rfl, hb2⟩
 have HB2 := Lib.hid ((below_drewT HB.out q).trans (hb2.mono (below_drewT HB.out q).size))
 clear hb2
 go_wp2
 go_ret
 exact ⟨by first | rfl | (cases ans <;> rfl), HB2.out⟩
end Go.Proofs.YtilcofpceadpbaaGreatDoor
