/-
  HeapNone: the walk.
-/
import Derived.Test.YtohllalninoomaaDoorHeapFew
import Derived.Test.YtohllalninoomaaDoorHeapCast
import Derived.Test.YtohllalninoomaaDoorHeapF
set_option linter.unusedVariables false
set_option linter.unusedSimpArgs false
namespace Go.Proofs.YtohllalninoomaaDoor
open Go.ChangeShapes Go.WideShapes Go.ChangeAt Go.RowKit

theorem foldl_sets : ∀ (l p q : List Value), q.length = l.length → List.foldl (fun (cs : Array Value) (x : Value × Nat) => cs.setIfInBounds x.snd x.fst) (p ++ q).toArray (l.zipIdx p.length) = (p ++ l).toArray
  | [], p, q, h => by
    obtain rfl : q = [] := List.eq_nil_of_length_eq_zero h
    rfl
  | v :: l, p, q, h => by
    obtain ⟨u, q', rfl⟩ : ∃ u q', q = u :: q' := by
      cases q with
      | nil => simp at h
      | cons u q' => exact ⟨u, q', rfl⟩
    have ih := foldl_sets l (p ++ [v]) q' (by simpa using h)
    rw [List.zipIdx_cons, List.foldl_cons]
    have e : ((p ++ u :: q').toArray.setIfInBounds p.length v) = ((p ++ [v]) ++ q').toArray := by simp [List.set_append]
    show List.foldl _ ((p ++ u :: q').toArray.setIfInBounds p.length v) _ = _
    rw [e]
    have e2 : p.length + 1 = (p ++ [v]).length := by simp
    rw [e2, ih]
    simp
theorem act_fold (a : HAct) : List.foldl (fun (cs : Array Value) (x : Value × Nat) => cs.setIfInBounds x.snd x.fst) #[.int .i64 0, .int .u64 0, .int .i64 0, .int .i64 0, .string ⟨#[]⟩, .int .u64 0, .int .i64 0, .int .i64 0, .string ⟨#[]⟩, .int .u64 0, .int .i64 0, .int .i64 0, .string ⟨#[]⟩, .int .u64 0, .int .i64 0, .slice none 0 0, .int .i64 0, .slice none 0 0, .slice none 0 0] (haEnc a).zipIdx = (haEnc a).toArray :=
  foldl_sets (haEnc a) [] [.int .i64 0, .int .u64 0, .int .i64 0, .int .i64 0, .string ⟨#[]⟩, .int .u64 0, .int .i64 0, .int .i64 0, .string ⟨#[]⟩, .int .u64 0, .int .i64 0, .int .i64 0, .string ⟨#[]⟩, .int .u64 0, .int .i64 0, .slice none 0 0, .int .i64 0, .slice none 0 0, .slice none 0 0] rfl
theorem HaFit.on {w w' : World} {x : HAct} (h : HaFit w w.heap.size x) (hb : Below w.heap.size w w') : HaFit w' w'.heap.size x :=
  ⟨h.act, h.ctx, h.va, h.vb, h.vc, h.n, readsOn h.reads hb, h.ints, h.len, h.le, h.nil_, h.to.on hb⟩
set_option maxRecDepth 100000 in
set_option maxHeartbeats 16000000 in
theorem heapNone_walk (a : HAct) (w : World) (hfit : HaFit w w.heap.size a) (hsp : SpW w) : Calls Tryd.prog 3 #[.agg (haEnc a).toArray] w (RetB (.bool true) w) := by
  obtain ⟨sv, hsv⟩ : ∃ sv, sv = sameV a.a a.b := ⟨_, rfl⟩
  have HSV := Lib.hid hsv
  obtain ⟨b, hb⟩ : ∃ b, b = w.heap.size := ⟨_, rfl⟩
  have HBE := Lib.hid hb
  have HFit := Lib.hid hfit
  have HSP := Lib.hid hsp
  have HEQ := Lib.hid (show ∀ w, (Op.equalIn 10000 25 (.agg #[.int .i64 a.a.kind, .int .i64 a.a.n, .string a.a.s, .int .u64 (a.a.label : Int)]) (.agg #[.int .i64 a.a.kind, .int .i64 a.a.n, .string a.a.s, .int .u64 (a.a.label : Int)])).run Tryd.prog w = .ok true w from fun w => by
    have := val_eq a.a a.a w
    simpa [vvCells, eqV] using this)
  have HEZ := Lib.hid (show ∀ w, (Op.equalIn 10000 25 (.agg #[.int .i64 0, .int .i64 0, .string ⟨#[]⟩, .int .u64 0]) (.agg #[.int .i64 0, .int .i64 0, .string ⟨#[]⟩, .int .u64 0])).run Tryd.prog w = .ok true w from fun w => by
    have := val_eq ⟨0, 0, ⟨#[]⟩, 0⟩ ⟨0, 0, ⟨#[]⟩, 0⟩ w
    simpa [vvCells, eqV] using this)
  clear hsv hb hfit hsp
  go_enter Tryd.func3, Tryd.ntmps3
  go_upto_region 1 with fail
  rw [← HBE.out]
  refine gen_wp fun W hW => ?_
  have HB0 := Lib.hid (show W.heap[b]? = some (.cells (haEnc a).toArray 32 (0, 0)) by rw [← hW, HBE.out]; exact heap_new_at _ _ _ (by first | rfl | simp))
  have HW0 := Lib.hid (show Below w.heap.size w W by rw [← hW]; exact (Below.refl _ _).alloc (Nat.le_refl _) _)
  clear hW
  have c0 : W.cell? ⟨b, 0, none⟩ = some (.int .i64 a.act) := cell_of_blk HB0.out rfl
  have c1 : W.cell? ⟨b, 1, none⟩ = some (.int .u64 (a.ctx : Int)) := cell_of_blk HB0.out rfl
  have c2 : W.cell? ⟨b, 2, none⟩ = some (.int .i64 a.a.kind) := cell_of_blk HB0.out rfl
  have c3 : W.cell? ⟨b, 3, none⟩ = some (.int .i64 a.a.n) := cell_of_blk HB0.out rfl
  have c4 : W.cell? ⟨b, 4, none⟩ = some (.string a.a.s) := cell_of_blk HB0.out rfl
  have c5 : W.cell? ⟨b, 5, none⟩ = some (.int .u64 (a.a.label : Int)) := cell_of_blk HB0.out rfl
  have c6 : W.cell? ⟨b, 6, none⟩ = some (.int .i64 a.b.kind) := cell_of_blk HB0.out rfl
  have c7 : W.cell? ⟨b, 7, none⟩ = some (.int .i64 a.b.n) := cell_of_blk HB0.out rfl
  have c8 : W.cell? ⟨b, 8, none⟩ = some (.string a.b.s) := cell_of_blk HB0.out rfl
  have c9 : W.cell? ⟨b, 9, none⟩ = some (.int .u64 (a.b.label : Int)) := cell_of_blk HB0.out rfl
  have c10 : W.cell? ⟨b, 10, none⟩ = some (.int .i64 a.c.kind) := cell_of_blk HB0.out rfl
  have c11 : W.cell? ⟨b, 11, none⟩ = some (.int .i64 a.c.n) := cell_of_blk HB0.out rfl
  have c12 : W.cell? ⟨b, 12, none⟩ = some (.string a.c.s) := cell_of_blk HB0.out rfl
  have c13 : W.cell? ⟨b, 13, none⟩ = some (.int .u64 (a.c.label : Int)) := cell_of_blk HB0.out rfl
  have c14 : W.cell? ⟨b, 14, none⟩ = some (.int .i64 a.n) := cell_of_blk HB0.out rfl
  have c15 : W.cell? ⟨b, 15, none⟩ = some (.slice a.cells.A a.cells.xs.length a.cells.cap) := cell_of_blk HB0.out rfl
  have c16 : W.cell? ⟨b, 16, none⟩ = some (.int .i64 a.to.kind) := cell_of_blk HB0.out rfl
  have c17 : W.cell? ⟨b, 17, none⟩ = some (.slice a.to.A a.to.ns.length a.to.c) := cell_of_blk HB0.out rfl
  have c18 : W.cell? ⟨b, 18, none⟩ = some (.slice a.to.A2 a.to.xs.length a.to.c2) := cell_of_blk HB0.out rfl
  have cl := blk_lt HB0.out
  go_wp2_with fail
  refine (awake21_any _).mono ?_
  rintro e w1 ⟨rfl, hb⟩
  have HB1 := Lib.hid (below_blk hb HB0.out)
  have HW1 := Lib.hid (HW0.out.trans (hb.mono HW0.out.size))
  clear hb
  clear c0 c1 c2 c3 c4 c5 c6 c7 c8 c9 c10 c11 c12 c13 c14 c15 c16 c17 c18 cl
  have c0 : w1.cell? ⟨b, 0, none⟩ = some (.int .i64 a.act) := cell_of_blk HB1.out rfl
  have c1 : w1.cell? ⟨b, 1, none⟩ = some (.int .u64 (a.ctx : Int)) := cell_of_blk HB1.out rfl
  have c2 : w1.cell? ⟨b, 2, none⟩ = some (.int .i64 a.a.kind) := cell_of_blk HB1.out rfl
  have c3 : w1.cell? ⟨b, 3, none⟩ = some (.int .i64 a.a.n) := cell_of_blk HB1.out rfl
  have c4 : w1.cell? ⟨b, 4, none⟩ = some (.string a.a.s) := cell_of_blk HB1.out rfl
  have c5 : w1.cell? ⟨b, 5, none⟩ = some (.int .u64 (a.a.label : Int)) := cell_of_blk HB1.out rfl
  have c6 : w1.cell? ⟨b, 6, none⟩ = some (.int .i64 a.b.kind) := cell_of_blk HB1.out rfl
  have c7 : w1.cell? ⟨b, 7, none⟩ = some (.int .i64 a.b.n) := cell_of_blk HB1.out rfl
  have c8 : w1.cell? ⟨b, 8, none⟩ = some (.string a.b.s) := cell_of_blk HB1.out rfl
  have c9 : w1.cell? ⟨b, 9, none⟩ = some (.int .u64 (a.b.label : Int)) := cell_of_blk HB1.out rfl
  have c10 : w1.cell? ⟨b, 10, none⟩ = some (.int .i64 a.c.kind) := cell_of_blk HB1.out rfl
  have c11 : w1.cell? ⟨b, 11, none⟩ = some (.int .i64 a.c.n) := cell_of_blk HB1.out rfl
  have c12 : w1.cell? ⟨b, 12, none⟩ = some (.string a.c.s) := cell_of_blk HB1.out rfl
  have c13 : w1.cell? ⟨b, 13, none⟩ = some (.int .u64 (a.c.label : Int)) := cell_of_blk HB1.out rfl
  have c14 : w1.cell? ⟨b, 14, none⟩ = some (.int .i64 a.n) := cell_of_blk HB1.out rfl
  have c15 : w1.cell? ⟨b, 15, none⟩ = some (.slice a.cells.A a.cells.xs.length a.cells.cap) := cell_of_blk HB1.out rfl
  have c16 : w1.cell? ⟨b, 16, none⟩ = some (.int .i64 a.to.kind) := cell_of_blk HB1.out rfl
  have c17 : w1.cell? ⟨b, 17, none⟩ = some (.slice a.to.A a.to.ns.length a.to.c) := cell_of_blk HB1.out rfl
  have c18 : w1.cell? ⟨b, 18, none⟩ = some (.slice a.to.A2 a.to.xs.length a.to.c2) := cell_of_blk HB1.out rfl
  have cl := blk_lt HB1.out
  have HC := Lib.hid (show ∀ W', W' = w1.alloc (.cells (haEnc a).toArray 32) → Calls Tryd.prog 5 #[.slice (some ⟨w1.heap.size, 0, none⟩) 1 1] W' (HFewOut [a] W') from fun W' e => by
    have hbl : Below w.heap.size w W' := by rw [e]; exact HW1.out.alloc HW1.out.size _
    have hn : W'.heap[w1.heap.size]? = some (.cells (haEnc a).toArray 32 (0, 0)) := by rw [e]; exact heap_new_at _ _ _ rfl
    refine few21_any [a] (some ⟨w1.heap.size, 0, none⟩) 1 W' (.inr ⟨⟨w1.heap.size, 0, none⟩, rfl, blk_lt hn, fun j x hx => ?_⟩) (fun x hx => ?_) (by simp)
    · have hx' : (haEnc a).toArray[j]? = some x := by simpa using hx
      rw [Addr.add_mid]
      have := cell_of_blk hn hx'
      simpa using this
    · have e2 : x = a := by simpa using hx
      rw [e2]
      exact HFit.out.on hbl)
  have HCS := Lib.hid (show ∀ j v, (haEnc a)[j]? = some v → w1.cell? ((⟨b, 0, none⟩ : Addr).add j) = some v from fun j v hv => by
    rw [Addr.add_mid]
    have := cell_of_blk (i := j) (v := v) HB1.out (by simpa using hv)
    simpa using this)
  have hlen : (haEnc a).length = 19 := rfl
  have hlen2 : ¬ 19 < (haEnc a).length := by rw [hlen]; omega
  go_upto_region 3 with fail
  go_wp2_with ((with_reducible (show wpList _ _ _ (_ :: _) _ _)); refine wpList_load_addr rfl 32 _ rfl _ rfl (haEnc a) _ HCS.out Tryd.underlying32 rfl info_act ?_)
  rw [act_fold]
  refine (HC.out _ rfl).mono ?_
  clear hlen hlen2
  rintro e w2 ⟨hb, bb, rfl, hfew⟩
  have HB2 := Lib.hid (below_blk hb (blk_alloc HB1.out _))
  have HW2 := Lib.hid ((HW1.out.alloc HW1.out.size _).trans (hb.mono (HW1.out.alloc HW1.out.size _).size))
  clear hb hfew
  clear c0 c1 c2 c3 c4 c5 c6 c7 c8 c9 c10 c11 c12 c13 c14 c15 c16 c17 c18 cl
  cases bb with
  | false =>
    go_wp2
    go_ret
    exact ⟨rfl, HW2.out⟩
  | true =>
  have HTA := Lib.hid (fun w' (hb : Below w.heap.size w w') => HFit.out.on hb)
  have c0 : w2.cell? ⟨b, 0, none⟩ = some (.int .i64 a.act) := cell_of_blk HB2.out rfl
  have c1 : w2.cell? ⟨b, 1, none⟩ = some (.int .u64 (a.ctx : Int)) := cell_of_blk HB2.out rfl
  have c2 : w2.cell? ⟨b, 2, none⟩ = some (.int .i64 a.a.kind) := cell_of_blk HB2.out rfl
  have c3 : w2.cell? ⟨b, 3, none⟩ = some (.int .i64 a.a.n) := cell_of_blk HB2.out rfl
  have c4 : w2.cell? ⟨b, 4, none⟩ = some (.string a.a.s) := cell_of_blk HB2.out rfl
  have c5 : w2.cell? ⟨b, 5, none⟩ = some (.int .u64 (a.a.label : Int)) := cell_of_blk HB2.out rfl
  have c6 : w2.cell? ⟨b, 6, none⟩ = some (.int .i64 a.b.kind) := cell_of_blk HB2.out rfl
  have c7 : w2.cell? ⟨b, 7, none⟩ = some (.int .i64 a.b.n) := cell_of_blk HB2.out rfl
  have c8 : w2.cell? ⟨b, 8, none⟩ = some (.string a.b.s) := cell_of_blk HB2.out rfl
  have c9 : w2.cell? ⟨b, 9, none⟩ = some (.int .u64 (a.b.label : Int)) := cell_of_blk HB2.out rfl
  have c10 : w2.cell? ⟨b, 10, none⟩ = some (.int .i64 a.c.kind) := cell_of_blk HB2.out rfl
  have c11 : w2.cell? ⟨b, 11, none⟩ = some (.int .i64 a.c.n) := cell_of_blk HB2.out rfl
  have c12 : w2.cell? ⟨b, 12, none⟩ = some (.string a.c.s) := cell_of_blk HB2.out rfl
  have c13 : w2.cell? ⟨b, 13, none⟩ = some (.int .u64 (a.c.label : Int)) := cell_of_blk HB2.out rfl
  have c14 : w2.cell? ⟨b, 14, none⟩ = some (.int .i64 a.n) := cell_of_blk HB2.out rfl
  have c15 : w2.cell? ⟨b, 15, none⟩ = some (.slice a.cells.A a.cells.xs.length a.cells.cap) := cell_of_blk HB2.out rfl
  have c16 : w2.cell? ⟨b, 16, none⟩ = some (.int .i64 a.to.kind) := cell_of_blk HB2.out rfl
  have c17 : w2.cell? ⟨b, 17, none⟩ = some (.slice a.to.A a.to.ns.length a.to.c) := cell_of_blk HB2.out rfl
  have c18 : w2.cell? ⟨b, 18, none⟩ = some (.slice a.to.A2 a.to.xs.length a.to.c2) := cell_of_blk HB2.out rfl
  have cl := blk_lt HB2.out
  go_wp2_with fail
  refine (htable_nil a.ctx _).mono ?_
  rintro e w3 ⟨rfl, hb⟩
  have HB3 := Lib.hid (below_blk hb HB2.out)
  have HW3 := Lib.hid (HW2.out.trans (hb.mono HW2.out.size))
  clear hb
  clear c0 c1 c2 c3 c4 c5 c6 c7 c8 c9 c10 c11 c12 c13 c14 c15 c16 c17 c18 cl
  have c0 : w3.cell? ⟨b, 0, none⟩ = some (.int .i64 a.act) := cell_of_blk HB3.out rfl
  have c1 : w3.cell? ⟨b, 1, none⟩ = some (.int .u64 (a.ctx : Int)) := cell_of_blk HB3.out rfl
  have c2 : w3.cell? ⟨b, 2, none⟩ = some (.int .i64 a.a.kind) := cell_of_blk HB3.out rfl
  have c3 : w3.cell? ⟨b, 3, none⟩ = some (.int .i64 a.a.n) := cell_of_blk HB3.out rfl
  have c4 : w3.cell? ⟨b, 4, none⟩ = some (.string a.a.s) := cell_of_blk HB3.out rfl
  have c5 : w3.cell? ⟨b, 5, none⟩ = some (.int .u64 (a.a.label : Int)) := cell_of_blk HB3.out rfl
  have c6 : w3.cell? ⟨b, 6, none⟩ = some (.int .i64 a.b.kind) := cell_of_blk HB3.out rfl
  have c7 : w3.cell? ⟨b, 7, none⟩ = some (.int .i64 a.b.n) := cell_of_blk HB3.out rfl
  have c8 : w3.cell? ⟨b, 8, none⟩ = some (.string a.b.s) := cell_of_blk HB3.out rfl
  have c9 : w3.cell? ⟨b, 9, none⟩ = some (.int .u64 (a.b.label : Int)) := cell_of_blk HB3.out rfl
  have c10 : w3.cell? ⟨b, 10, none⟩ = some (.int .i64 a.c.kind) := cell_of_blk HB3.out rfl
  have c11 : w3.cell? ⟨b, 11, none⟩ = some (.int .i64 a.c.n) := cell_of_blk HB3.out rfl
  have c12 : w3.cell? ⟨b, 12, none⟩ = some (.string a.c.s) := cell_of_blk HB3.out rfl
  have c13 : w3.cell? ⟨b, 13, none⟩ = some (.int .u64 (a.c.label : Int)) := cell_of_blk HB3.out rfl
  have c14 : w3.cell? ⟨b, 14, none⟩ = some (.int .i64 a.n) := cell_of_blk HB3.out rfl
  have c15 : w3.cell? ⟨b, 15, none⟩ = some (.slice a.cells.A a.cells.xs.length a.cells.cap) := cell_of_blk HB3.out rfl
  have c16 : w3.cell? ⟨b, 16, none⟩ = some (.int .i64 a.to.kind) := cell_of_blk HB3.out rfl
  have c17 : w3.cell? ⟨b, 17, none⟩ = some (.slice a.to.A a.to.ns.length a.to.c) := cell_of_blk HB3.out rfl
  have c18 : w3.cell? ⟨b, 18, none⟩ = some (.slice a.to.A2 a.to.xs.length a.to.c2) := cell_of_blk HB3.out rfl
  have cl := blk_lt HB3.out
  go_upto_region 7 with fail
  refine gen_wp fun U4 hU => ?_
  have HB4 := Lib.hid (show U4.heap[b]? = some (.cells (haEnc a).toArray 32 (0, 0)) by rw [← hU]; exact blk_alloc (HB3.out) _)
  have HW4 := Lib.hid (show Below w.heap.size w U4 by rw [← hU]; exact (HW3.out).alloc (HW3.out).size _)
  clear hU
  clear c0 c1 c2 c3 c4 c5 c6 c7 c8 c9 c10 c11 c12 c13 c14 c15 c16 c17 c18 cl
  have c0 : U4.cell? ⟨b, 0, none⟩ = some (.int .i64 a.act) := cell_of_blk HB4.out rfl
  have c1 : U4.cell? ⟨b, 1, none⟩ = some (.int .u64 (a.ctx : Int)) := cell_of_blk HB4.out rfl
  have c2 : U4.cell? ⟨b, 2, none⟩ = some (.int .i64 a.a.kind) := cell_of_blk HB4.out rfl
  have c3 : U4.cell? ⟨b, 3, none⟩ = some (.int .i64 a.a.n) := cell_of_blk HB4.out rfl
  have c4 : U4.cell? ⟨b, 4, none⟩ = some (.string a.a.s) := cell_of_blk HB4.out rfl
  have c5 : U4.cell? ⟨b, 5, none⟩ = some (.int .u64 (a.a.label : Int)) := cell_of_blk HB4.out rfl
  have c6 : U4.cell? ⟨b, 6, none⟩ = some (.int .i64 a.b.kind) := cell_of_blk HB4.out rfl
  have c7 : U4.cell? ⟨b, 7, none⟩ = some (.int .i64 a.b.n) := cell_of_blk HB4.out rfl
  have c8 : U4.cell? ⟨b, 8, none⟩ = some (.string a.b.s) := cell_of_blk HB4.out rfl
  have c9 : U4.cell? ⟨b, 9, none⟩ = some (.int .u64 (a.b.label : Int)) := cell_of_blk HB4.out rfl
  have c10 : U4.cell? ⟨b, 10, none⟩ = some (.int .i64 a.c.kind) := cell_of_blk HB4.out rfl
  have c11 : U4.cell? ⟨b, 11, none⟩ = some (.int .i64 a.c.n) := cell_of_blk HB4.out rfl
  have c12 : U4.cell? ⟨b, 12, none⟩ = some (.string a.c.s) := cell_of_blk HB4.out rfl
  have c13 : U4.cell? ⟨b, 13, none⟩ = some (.int .u64 (a.c.label : Int)) := cell_of_blk HB4.out rfl
  have c14 : U4.cell? ⟨b, 14, none⟩ = some (.int .i64 a.n) := cell_of_blk HB4.out rfl
  have c15 : U4.cell? ⟨b, 15, none⟩ = some (.slice a.cells.A a.cells.xs.length a.cells.cap) := cell_of_blk HB4.out rfl
  have c16 : U4.cell? ⟨b, 16, none⟩ = some (.int .i64 a.to.kind) := cell_of_blk HB4.out rfl
  have c17 : U4.cell? ⟨b, 17, none⟩ = some (.slice a.to.A a.to.ns.length a.to.c) := cell_of_blk HB4.out rfl
  have c18 : U4.cell? ⟨b, 18, none⟩ = some (.slice a.to.A2 a.to.xs.length a.to.c2) := cell_of_blk HB4.out rfl
  have cl := blk_lt HB4.out
  go_wp2_with fail
  refine (hput_nil a.ctx a.a a.b a.c _).mono ?_
  rintro e w5 ⟨rfl, hb⟩
  have HB5 := Lib.hid (below_blk hb HB4.out)
  have HW5 := Lib.hid (HW4.out.trans (hb.mono HW4.out.size))
  clear hb
  clear c0 c1 c2 c3 c4 c5 c6 c7 c8 c9 c10 c11 c12 c13 c14 c15 c16 c17 c18 cl
  have c0 : w5.cell? ⟨b, 0, none⟩ = some (.int .i64 a.act) := cell_of_blk HB5.out rfl
  have c1 : w5.cell? ⟨b, 1, none⟩ = some (.int .u64 (a.ctx : Int)) := cell_of_blk HB5.out rfl
  have c2 : w5.cell? ⟨b, 2, none⟩ = some (.int .i64 a.a.kind) := cell_of_blk HB5.out rfl
  have c3 : w5.cell? ⟨b, 3, none⟩ = some (.int .i64 a.a.n) := cell_of_blk HB5.out rfl
  have c4 : w5.cell? ⟨b, 4, none⟩ = some (.string a.a.s) := cell_of_blk HB5.out rfl
  have c5 : w5.cell? ⟨b, 5, none⟩ = some (.int .u64 (a.a.label : Int)) := cell_of_blk HB5.out rfl
  have c6 : w5.cell? ⟨b, 6, none⟩ = some (.int .i64 a.b.kind) := cell_of_blk HB5.out rfl
  have c7 : w5.cell? ⟨b, 7, none⟩ = some (.int .i64 a.b.n) := cell_of_blk HB5.out rfl
  have c8 : w5.cell? ⟨b, 8, none⟩ = some (.string a.b.s) := cell_of_blk HB5.out rfl
  have c9 : w5.cell? ⟨b, 9, none⟩ = some (.int .u64 (a.b.label : Int)) := cell_of_blk HB5.out rfl
  have c10 : w5.cell? ⟨b, 10, none⟩ = some (.int .i64 a.c.kind) := cell_of_blk HB5.out rfl
  have c11 : w5.cell? ⟨b, 11, none⟩ = some (.int .i64 a.c.n) := cell_of_blk HB5.out rfl
  have c12 : w5.cell? ⟨b, 12, none⟩ = some (.string a.c.s) := cell_of_blk HB5.out rfl
  have c13 : w5.cell? ⟨b, 13, none⟩ = some (.int .u64 (a.c.label : Int)) := cell_of_blk HB5.out rfl
  have c14 : w5.cell? ⟨b, 14, none⟩ = some (.int .i64 a.n) := cell_of_blk HB5.out rfl
  have c15 : w5.cell? ⟨b, 15, none⟩ = some (.slice a.cells.A a.cells.xs.length a.cells.cap) := cell_of_blk HB5.out rfl
  have c16 : w5.cell? ⟨b, 16, none⟩ = some (.int .i64 a.to.kind) := cell_of_blk HB5.out rfl
  have c17 : w5.cell? ⟨b, 17, none⟩ = some (.slice a.to.A a.to.ns.length a.to.c) := cell_of_blk HB5.out rfl
  have c18 : w5.cell? ⟨b, 18, none⟩ = some (.slice a.to.A2 a.to.xs.length a.to.c2) := cell_of_blk HB5.out rfl
  have cl := blk_lt HB5.out
  go_wp2_with fail
  refine (hclosure_nil a.n a.cells.A a.cells.xs.length a.cells.cap (a.cells.xs.map (.int .i64 ·)) HFit.out.len (by simp) (by intro u hu; simp at hu; obtain ⟨_, _, rfl⟩ := hu; rfl) HFit.out.nil_ _ (HTA.out _ HW5.out).reads).mono ?_
  rintro e w6 ⟨rfl, hb⟩
  have HB6 := Lib.hid (below_blk hb HB5.out)
  have HW6 := Lib.hid (HW5.out.trans (hb.mono HW5.out.size))
  clear hb
  clear c0 c1 c2 c3 c4 c5 c6 c7 c8 c9 c10 c11 c12 c13 c14 c15 c16 c17 c18 cl
  have c0 : w6.cell? ⟨b, 0, none⟩ = some (.int .i64 a.act) := cell_of_blk HB6.out rfl
  have c1 : w6.cell? ⟨b, 1, none⟩ = some (.int .u64 (a.ctx : Int)) := cell_of_blk HB6.out rfl
  have c2 : w6.cell? ⟨b, 2, none⟩ = some (.int .i64 a.a.kind) := cell_of_blk HB6.out rfl
  have c3 : w6.cell? ⟨b, 3, none⟩ = some (.int .i64 a.a.n) := cell_of_blk HB6.out rfl
  have c4 : w6.cell? ⟨b, 4, none⟩ = some (.string a.a.s) := cell_of_blk HB6.out rfl
  have c5 : w6.cell? ⟨b, 5, none⟩ = some (.int .u64 (a.a.label : Int)) := cell_of_blk HB6.out rfl
  have c6 : w6.cell? ⟨b, 6, none⟩ = some (.int .i64 a.b.kind) := cell_of_blk HB6.out rfl
  have c7 : w6.cell? ⟨b, 7, none⟩ = some (.int .i64 a.b.n) := cell_of_blk HB6.out rfl
  have c8 : w6.cell? ⟨b, 8, none⟩ = some (.string a.b.s) := cell_of_blk HB6.out rfl
  have c9 : w6.cell? ⟨b, 9, none⟩ = some (.int .u64 (a.b.label : Int)) := cell_of_blk HB6.out rfl
  have c10 : w6.cell? ⟨b, 10, none⟩ = some (.int .i64 a.c.kind) := cell_of_blk HB6.out rfl
  have c11 : w6.cell? ⟨b, 11, none⟩ = some (.int .i64 a.c.n) := cell_of_blk HB6.out rfl
  have c12 : w6.cell? ⟨b, 12, none⟩ = some (.string a.c.s) := cell_of_blk HB6.out rfl
  have c13 : w6.cell? ⟨b, 13, none⟩ = some (.int .u64 (a.c.label : Int)) := cell_of_blk HB6.out rfl
  have c14 : w6.cell? ⟨b, 14, none⟩ = some (.int .i64 a.n) := cell_of_blk HB6.out rfl
  have c15 : w6.cell? ⟨b, 15, none⟩ = some (.slice a.cells.A a.cells.xs.length a.cells.cap) := cell_of_blk HB6.out rfl
  have c16 : w6.cell? ⟨b, 16, none⟩ = some (.int .i64 a.to.kind) := cell_of_blk HB6.out rfl
  have c17 : w6.cell? ⟨b, 17, none⟩ = some (.slice a.to.A a.to.ns.length a.to.c) := cell_of_blk HB6.out rfl
  have c18 : w6.cell? ⟨b, 18, none⟩ = some (.slice a.to.A2 a.to.xs.length a.to.c2) := cell_of_blk HB6.out rfl
  have cl := blk_lt HB6.out
  go_upto_region 9 with fail
  refine gen_wp fun U7 hU => ?_
  have HB7 := Lib.hid (show U7.heap[b]? = some (.cells (haEnc a).toArray 32 (0, 0)) by rw [← hU]; exact blk_alloc (HB6.out) _)
  have HW7 := Lib.hid (show Below w.heap.size w U7 by rw [← hU]; exact (HW6.out).alloc (HW6.out).size _)
  clear hU
  clear c0 c1 c2 c3 c4 c5 c6 c7 c8 c9 c10 c11 c12 c13 c14 c15 c16 c17 c18 cl
  have c0 : U7.cell? ⟨b, 0, none⟩ = some (.int .i64 a.act) := cell_of_blk HB7.out rfl
  have c1 : U7.cell? ⟨b, 1, none⟩ = some (.int .u64 (a.ctx : Int)) := cell_of_blk HB7.out rfl
  have c2 : U7.cell? ⟨b, 2, none⟩ = some (.int .i64 a.a.kind) := cell_of_blk HB7.out rfl
  have c3 : U7.cell? ⟨b, 3, none⟩ = some (.int .i64 a.a.n) := cell_of_blk HB7.out rfl
  have c4 : U7.cell? ⟨b, 4, none⟩ = some (.string a.a.s) := cell_of_blk HB7.out rfl
  have c5 : U7.cell? ⟨b, 5, none⟩ = some (.int .u64 (a.a.label : Int)) := cell_of_blk HB7.out rfl
  have c6 : U7.cell? ⟨b, 6, none⟩ = some (.int .i64 a.b.kind) := cell_of_blk HB7.out rfl
  have c7 : U7.cell? ⟨b, 7, none⟩ = some (.int .i64 a.b.n) := cell_of_blk HB7.out rfl
  have c8 : U7.cell? ⟨b, 8, none⟩ = some (.string a.b.s) := cell_of_blk HB7.out rfl
  have c9 : U7.cell? ⟨b, 9, none⟩ = some (.int .u64 (a.b.label : Int)) := cell_of_blk HB7.out rfl
  have c10 : U7.cell? ⟨b, 10, none⟩ = some (.int .i64 a.c.kind) := cell_of_blk HB7.out rfl
  have c11 : U7.cell? ⟨b, 11, none⟩ = some (.int .i64 a.c.n) := cell_of_blk HB7.out rfl
  have c12 : U7.cell? ⟨b, 12, none⟩ = some (.string a.c.s) := cell_of_blk HB7.out rfl
  have c13 : U7.cell? ⟨b, 13, none⟩ = some (.int .u64 (a.c.label : Int)) := cell_of_blk HB7.out rfl
  have c14 : U7.cell? ⟨b, 14, none⟩ = some (.int .i64 a.n) := cell_of_blk HB7.out rfl
  have c15 : U7.cell? ⟨b, 15, none⟩ = some (.slice a.cells.A a.cells.xs.length a.cells.cap) := cell_of_blk HB7.out rfl
  have c16 : U7.cell? ⟨b, 16, none⟩ = some (.int .i64 a.to.kind) := cell_of_blk HB7.out rfl
  have c17 : U7.cell? ⟨b, 17, none⟩ = some (.slice a.to.A a.to.ns.length a.to.c) := cell_of_blk HB7.out rfl
  have c18 : U7.cell? ⟨b, 18, none⟩ = some (.slice a.to.A2 a.to.xs.length a.to.c2) := cell_of_blk HB7.out rfl
  have cl := blk_lt HB7.out
  go_wp2_with fail
  refine (hfn_nil a.a _).mono ?_
  rintro e w8 ⟨rfl, hb⟩
  have HB8 := Lib.hid (below_blk hb HB7.out)
  have HW8 := Lib.hid (HW7.out.trans (hb.mono HW7.out.size))
  clear hb
  clear c0 c1 c2 c3 c4 c5 c6 c7 c8 c9 c10 c11 c12 c13 c14 c15 c16 c17 c18 cl
  have c0 : w8.cell? ⟨b, 0, none⟩ = some (.int .i64 a.act) := cell_of_blk HB8.out rfl
  have c1 : w8.cell? ⟨b, 1, none⟩ = some (.int .u64 (a.ctx : Int)) := cell_of_blk HB8.out rfl
  have c2 : w8.cell? ⟨b, 2, none⟩ = some (.int .i64 a.a.kind) := cell_of_blk HB8.out rfl
  have c3 : w8.cell? ⟨b, 3, none⟩ = some (.int .i64 a.a.n) := cell_of_blk HB8.out rfl
  have c4 : w8.cell? ⟨b, 4, none⟩ = some (.string a.a.s) := cell_of_blk HB8.out rfl
  have c5 : w8.cell? ⟨b, 5, none⟩ = some (.int .u64 (a.a.label : Int)) := cell_of_blk HB8.out rfl
  have c6 : w8.cell? ⟨b, 6, none⟩ = some (.int .i64 a.b.kind) := cell_of_blk HB8.out rfl
  have c7 : w8.cell? ⟨b, 7, none⟩ = some (.int .i64 a.b.n) := cell_of_blk HB8.out rfl
  have c8 : w8.cell? ⟨b, 8, none⟩ = some (.string a.b.s) := cell_of_blk HB8.out rfl
  have c9 : w8.cell? ⟨b, 9, none⟩ = some (.int .u64 (a.b.label : Int)) := cell_of_blk HB8.out rfl
  have c10 : w8.cell? ⟨b, 10, none⟩ = some (.int .i64 a.c.kind) := cell_of_blk HB8.out rfl
  have c11 : w8.cell? ⟨b, 11, none⟩ = some (.int .i64 a.c.n) := cell_of_blk HB8.out rfl
  have c12 : w8.cell? ⟨b, 12, none⟩ = some (.string a.c.s) := cell_of_blk HB8.out rfl
  have c13 : w8.cell? ⟨b, 13, none⟩ = some (.int .u64 (a.c.label : Int)) := cell_of_blk HB8.out rfl
  have c14 : w8.cell? ⟨b, 14, none⟩ = some (.int .i64 a.n) := cell_of_blk HB8.out rfl
  have c15 : w8.cell? ⟨b, 15, none⟩ = some (.slice a.cells.A a.cells.xs.length a.cells.cap) := cell_of_blk HB8.out rfl
  have c16 : w8.cell? ⟨b, 16, none⟩ = some (.int .i64 a.to.kind) := cell_of_blk HB8.out rfl
  have c17 : w8.cell? ⟨b, 17, none⟩ = some (.slice a.to.A a.to.ns.length a.to.c) := cell_of_blk HB8.out rfl
  have c18 : w8.cell? ⟨b, 18, none⟩ = some (.slice a.to.A2 a.to.xs.length a.to.c2) := cell_of_blk HB8.out rfl
  have cl := blk_lt HB8.out
  go_upto_region 10 with fail
  refine gen_wp fun U9 hU => ?_
  have HB9 := Lib.hid (show U9.heap[b]? = some (.cells (haEnc a).toArray 32 (0, 0)) by rw [← hU]; exact blk_alloc (HB8.out) _)
  have HW9 := Lib.hid (show Below w.heap.size w U9 by rw [← hU]; exact (HW8.out).alloc (HW8.out).size _)
  clear hU
  clear c0 c1 c2 c3 c4 c5 c6 c7 c8 c9 c10 c11 c12 c13 c14 c15 c16 c17 c18 cl
  have c0 : U9.cell? ⟨b, 0, none⟩ = some (.int .i64 a.act) := cell_of_blk HB9.out rfl
  have c1 : U9.cell? ⟨b, 1, none⟩ = some (.int .u64 (a.ctx : Int)) := cell_of_blk HB9.out rfl
  have c2 : U9.cell? ⟨b, 2, none⟩ = some (.int .i64 a.a.kind) := cell_of_blk HB9.out rfl
  have c3 : U9.cell? ⟨b, 3, none⟩ = some (.int .i64 a.a.n) := cell_of_blk HB9.out rfl
  have c4 : U9.cell? ⟨b, 4, none⟩ = some (.string a.a.s) := cell_of_blk HB9.out rfl
  have c5 : U9.cell? ⟨b, 5, none⟩ = some (.int .u64 (a.a.label : Int)) := cell_of_blk HB9.out rfl
  have c6 : U9.cell? ⟨b, 6, none⟩ = some (.int .i64 a.b.kind) := cell_of_blk HB9.out rfl
  have c7 : U9.cell? ⟨b, 7, none⟩ = some (.int .i64 a.b.n) := cell_of_blk HB9.out rfl
  have c8 : U9.cell? ⟨b, 8, none⟩ = some (.string a.b.s) := cell_of_blk HB9.out rfl
  have c9 : U9.cell? ⟨b, 9, none⟩ = some (.int .u64 (a.b.label : Int)) := cell_of_blk HB9.out rfl
  have c10 : U9.cell? ⟨b, 10, none⟩ = some (.int .i64 a.c.kind) := cell_of_blk HB9.out rfl
  have c11 : U9.cell? ⟨b, 11, none⟩ = some (.int .i64 a.c.n) := cell_of_blk HB9.out rfl
  have c12 : U9.cell? ⟨b, 12, none⟩ = some (.string a.c.s) := cell_of_blk HB9.out rfl
  have c13 : U9.cell? ⟨b, 13, none⟩ = some (.int .u64 (a.c.label : Int)) := cell_of_blk HB9.out rfl
  have c14 : U9.cell? ⟨b, 14, none⟩ = some (.int .i64 a.n) := cell_of_blk HB9.out rfl
  have c15 : U9.cell? ⟨b, 15, none⟩ = some (.slice a.cells.A a.cells.xs.length a.cells.cap) := cell_of_blk HB9.out rfl
  have c16 : U9.cell? ⟨b, 16, none⟩ = some (.int .i64 a.to.kind) := cell_of_blk HB9.out rfl
  have c17 : U9.cell? ⟨b, 17, none⟩ = some (.slice a.to.A a.to.ns.length a.to.c) := cell_of_blk HB9.out rfl
  have c18 : U9.cell? ⟨b, 18, none⟩ = some (.slice a.to.A2 a.to.xs.length a.to.c2) := cell_of_blk HB9.out rfl
  have cl := blk_lt HB9.out
  go_wp2_with fail
  refine (hcell_nil a.a _).mono ?_
  rintro e w10 ⟨rfl, hb⟩
  have HB10 := Lib.hid (below_blk hb HB9.out)
  have HW10 := Lib.hid (HW9.out.trans (hb.mono HW9.out.size))
  clear hb
  clear c0 c1 c2 c3 c4 c5 c6 c7 c8 c9 c10 c11 c12 c13 c14 c15 c16 c17 c18 cl
  have c0 : w10.cell? ⟨b, 0, none⟩ = some (.int .i64 a.act) := cell_of_blk HB10.out rfl
  have c1 : w10.cell? ⟨b, 1, none⟩ = some (.int .u64 (a.ctx : Int)) := cell_of_blk HB10.out rfl
  have c2 : w10.cell? ⟨b, 2, none⟩ = some (.int .i64 a.a.kind) := cell_of_blk HB10.out rfl
  have c3 : w10.cell? ⟨b, 3, none⟩ = some (.int .i64 a.a.n) := cell_of_blk HB10.out rfl
  have c4 : w10.cell? ⟨b, 4, none⟩ = some (.string a.a.s) := cell_of_blk HB10.out rfl
  have c5 : w10.cell? ⟨b, 5, none⟩ = some (.int .u64 (a.a.label : Int)) := cell_of_blk HB10.out rfl
  have c6 : w10.cell? ⟨b, 6, none⟩ = some (.int .i64 a.b.kind) := cell_of_blk HB10.out rfl
  have c7 : w10.cell? ⟨b, 7, none⟩ = some (.int .i64 a.b.n) := cell_of_blk HB10.out rfl
  have c8 : w10.cell? ⟨b, 8, none⟩ = some (.string a.b.s) := cell_of_blk HB10.out rfl
  have c9 : w10.cell? ⟨b, 9, none⟩ = some (.int .u64 (a.b.label : Int)) := cell_of_blk HB10.out rfl
  have c10 : w10.cell? ⟨b, 10, none⟩ = some (.int .i64 a.c.kind) := cell_of_blk HB10.out rfl
  have c11 : w10.cell? ⟨b, 11, none⟩ = some (.int .i64 a.c.n) := cell_of_blk HB10.out rfl
  have c12 : w10.cell? ⟨b, 12, none⟩ = some (.string a.c.s) := cell_of_blk HB10.out rfl
  have c13 : w10.cell? ⟨b, 13, none⟩ = some (.int .u64 (a.c.label : Int)) := cell_of_blk HB10.out rfl
  have c14 : w10.cell? ⟨b, 14, none⟩ = some (.int .i64 a.n) := cell_of_blk HB10.out rfl
  have c15 : w10.cell? ⟨b, 15, none⟩ = some (.slice a.cells.A a.cells.xs.length a.cells.cap) := cell_of_blk HB10.out rfl
  have c16 : w10.cell? ⟨b, 16, none⟩ = some (.int .i64 a.to.kind) := cell_of_blk HB10.out rfl
  have c17 : w10.cell? ⟨b, 17, none⟩ = some (.slice a.to.A a.to.ns.length a.to.c) := cell_of_blk HB10.out rfl
  have c18 : w10.cell? ⟨b, 18, none⟩ = some (.slice a.to.A2 a.to.xs.length a.to.c2) := cell_of_blk HB10.out rfl
  have cl := blk_lt HB10.out
  have HCA := Lib.hid (hcast_nil a.a a.to a.n w10 (HTA.out _ HW10.out).to (HSP.out.below HW10.out))
  go_wp2_with fail
  refine (HCA.out).mono ?_
  rintro e w11 ⟨rfl, hb⟩
  have HB11 := Lib.hid (below_blk hb HB10.out)
  have HW11 := Lib.hid (HW10.out.trans (hb.mono HW10.out.size))
  clear hb
  clear c0 c1 c2 c3 c4 c5 c6 c7 c8 c9 c10 c11 c12 c13 c14 c15 c16 c17 c18 cl
  have c0 : w11.cell? ⟨b, 0, none⟩ = some (.int .i64 a.act) := cell_of_blk HB11.out rfl
  have c1 : w11.cell? ⟨b, 1, none⟩ = some (.int .u64 (a.ctx : Int)) := cell_of_blk HB11.out rfl
  have c2 : w11.cell? ⟨b, 2, none⟩ = some (.int .i64 a.a.kind) := cell_of_blk HB11.out rfl
  have c3 : w11.cell? ⟨b, 3, none⟩ = some (.int .i64 a.a.n) := cell_of_blk HB11.out rfl
  have c4 : w11.cell? ⟨b, 4, none⟩ = some (.string a.a.s) := cell_of_blk HB11.out rfl
  have c5 : w11.cell? ⟨b, 5, none⟩ = some (.int .u64 (a.a.label : Int)) := cell_of_blk HB11.out rfl
  have c6 : w11.cell? ⟨b, 6, none⟩ = some (.int .i64 a.b.kind) := cell_of_blk HB11.out rfl
  have c7 : w11.cell? ⟨b, 7, none⟩ = some (.int .i64 a.b.n) := cell_of_blk HB11.out rfl
  have c8 : w11.cell? ⟨b, 8, none⟩ = some (.string a.b.s) := cell_of_blk HB11.out rfl
  have c9 : w11.cell? ⟨b, 9, none⟩ = some (.int .u64 (a.b.label : Int)) := cell_of_blk HB11.out rfl
  have c10 : w11.cell? ⟨b, 10, none⟩ = some (.int .i64 a.c.kind) := cell_of_blk HB11.out rfl
  have c11 : w11.cell? ⟨b, 11, none⟩ = some (.int .i64 a.c.n) := cell_of_blk HB11.out rfl
  have c12 : w11.cell? ⟨b, 12, none⟩ = some (.string a.c.s) := cell_of_blk HB11.out rfl
  have c13 : w11.cell? ⟨b, 13, none⟩ = some (.int .u64 (a.c.label : Int)) := cell_of_blk HB11.out rfl
  have c14 : w11.cell? ⟨b, 14, none⟩ = some (.int .i64 a.n) := cell_of_blk HB11.out rfl
  have c15 : w11.cell? ⟨b, 15, none⟩ = some (.slice a.cells.A a.cells.xs.length a.cells.cap) := cell_of_blk HB11.out rfl
  have c16 : w11.cell? ⟨b, 16, none⟩ = some (.int .i64 a.to.kind) := cell_of_blk HB11.out rfl
  have c17 : w11.cell? ⟨b, 17, none⟩ = some (.slice a.to.A a.to.ns.length a.to.c) := cell_of_blk HB11.out rfl
  have c18 : w11.cell? ⟨b, 18, none⟩ = some (.slice a.to.A2 a.to.xs.length a.to.c2) := cell_of_blk HB11.out rfl
  have cl := blk_lt HB11.out
  go_upto_region 12 with fail
  refine gen_wp fun U12 hU => ?_
  have HB12 := Lib.hid (show U12.heap[b]? = some (.cells (haEnc a).toArray 32 (0, 0)) by rw [← hU]; exact blk_alloc (HB11.out) _)
  have HW12 := Lib.hid (show Below w.heap.size w U12 by rw [← hU]; exact (HW11.out).alloc (HW11.out).size _)
  clear hU
  clear c0 c1 c2 c3 c4 c5 c6 c7 c8 c9 c10 c11 c12 c13 c14 c15 c16 c17 c18 cl
  have c0 : U12.cell? ⟨b, 0, none⟩ = some (.int .i64 a.act) := cell_of_blk HB12.out rfl
  have c1 : U12.cell? ⟨b, 1, none⟩ = some (.int .u64 (a.ctx : Int)) := cell_of_blk HB12.out rfl
  have c2 : U12.cell? ⟨b, 2, none⟩ = some (.int .i64 a.a.kind) := cell_of_blk HB12.out rfl
  have c3 : U12.cell? ⟨b, 3, none⟩ = some (.int .i64 a.a.n) := cell_of_blk HB12.out rfl
  have c4 : U12.cell? ⟨b, 4, none⟩ = some (.string a.a.s) := cell_of_blk HB12.out rfl
  have c5 : U12.cell? ⟨b, 5, none⟩ = some (.int .u64 (a.a.label : Int)) := cell_of_blk HB12.out rfl
  have c6 : U12.cell? ⟨b, 6, none⟩ = some (.int .i64 a.b.kind) := cell_of_blk HB12.out rfl
  have c7 : U12.cell? ⟨b, 7, none⟩ = some (.int .i64 a.b.n) := cell_of_blk HB12.out rfl
  have c8 : U12.cell? ⟨b, 8, none⟩ = some (.string a.b.s) := cell_of_blk HB12.out rfl
  have c9 : U12.cell? ⟨b, 9, none⟩ = some (.int .u64 (a.b.label : Int)) := cell_of_blk HB12.out rfl
  have c10 : U12.cell? ⟨b, 10, none⟩ = some (.int .i64 a.c.kind) := cell_of_blk HB12.out rfl
  have c11 : U12.cell? ⟨b, 11, none⟩ = some (.int .i64 a.c.n) := cell_of_blk HB12.out rfl
  have c12 : U12.cell? ⟨b, 12, none⟩ = some (.string a.c.s) := cell_of_blk HB12.out rfl
  have c13 : U12.cell? ⟨b, 13, none⟩ = some (.int .u64 (a.c.label : Int)) := cell_of_blk HB12.out rfl
  have c14 : U12.cell? ⟨b, 14, none⟩ = some (.int .i64 a.n) := cell_of_blk HB12.out rfl
  have c15 : U12.cell? ⟨b, 15, none⟩ = some (.slice a.cells.A a.cells.xs.length a.cells.cap) := cell_of_blk HB12.out rfl
  have c16 : U12.cell? ⟨b, 16, none⟩ = some (.int .i64 a.to.kind) := cell_of_blk HB12.out rfl
  have c17 : U12.cell? ⟨b, 17, none⟩ = some (.slice a.to.A a.to.ns.length a.to.c) := cell_of_blk HB12.out rfl
  have c18 : U12.cell? ⟨b, 18, none⟩ = some (.slice a.to.A2 a.to.xs.length a.to.c2) := cell_of_blk HB12.out rfl
  have cl := blk_lt HB12.out
  go_wp2_with fail
  refine (hcharge_nil 1 _).mono ?_
  rintro e w13 ⟨rfl, hb⟩
  have HB13 := Lib.hid (below_blk hb HB12.out)
  have HW13 := Lib.hid (HW12.out.trans (hb.mono HW12.out.size))
  clear hb
  clear c0 c1 c2 c3 c4 c5 c6 c7 c8 c9 c10 c11 c12 c13 c14 c15 c16 c17 c18 cl
  have c0 : w13.cell? ⟨b, 0, none⟩ = some (.int .i64 a.act) := cell_of_blk HB13.out rfl
  have c1 : w13.cell? ⟨b, 1, none⟩ = some (.int .u64 (a.ctx : Int)) := cell_of_blk HB13.out rfl
  have c2 : w13.cell? ⟨b, 2, none⟩ = some (.int .i64 a.a.kind) := cell_of_blk HB13.out rfl
  have c3 : w13.cell? ⟨b, 3, none⟩ = some (.int .i64 a.a.n) := cell_of_blk HB13.out rfl
  have c4 : w13.cell? ⟨b, 4, none⟩ = some (.string a.a.s) := cell_of_blk HB13.out rfl
  have c5 : w13.cell? ⟨b, 5, none⟩ = some (.int .u64 (a.a.label : Int)) := cell_of_blk HB13.out rfl
  have c6 : w13.cell? ⟨b, 6, none⟩ = some (.int .i64 a.b.kind) := cell_of_blk HB13.out rfl
  have c7 : w13.cell? ⟨b, 7, none⟩ = some (.int .i64 a.b.n) := cell_of_blk HB13.out rfl
  have c8 : w13.cell? ⟨b, 8, none⟩ = some (.string a.b.s) := cell_of_blk HB13.out rfl
  have c9 : w13.cell? ⟨b, 9, none⟩ = some (.int .u64 (a.b.label : Int)) := cell_of_blk HB13.out rfl
  have c10 : w13.cell? ⟨b, 10, none⟩ = some (.int .i64 a.c.kind) := cell_of_blk HB13.out rfl
  have c11 : w13.cell? ⟨b, 11, none⟩ = some (.int .i64 a.c.n) := cell_of_blk HB13.out rfl
  have c12 : w13.cell? ⟨b, 12, none⟩ = some (.string a.c.s) := cell_of_blk HB13.out rfl
  have c13 : w13.cell? ⟨b, 13, none⟩ = some (.int .u64 (a.c.label : Int)) := cell_of_blk HB13.out rfl
  have c14 : w13.cell? ⟨b, 14, none⟩ = some (.int .i64 a.n) := cell_of_blk HB13.out rfl
  have c15 : w13.cell? ⟨b, 15, none⟩ = some (.slice a.cells.A a.cells.xs.length a.cells.cap) := cell_of_blk HB13.out rfl
  have c16 : w13.cell? ⟨b, 16, none⟩ = some (.int .i64 a.to.kind) := cell_of_blk HB13.out rfl
  have c17 : w13.cell? ⟨b, 17, none⟩ = some (.slice a.to.A a.to.ns.length a.to.c) := cell_of_blk HB13.out rfl
  have c18 : w13.cell? ⟨b, 18, none⟩ = some (.slice a.to.A2 a.to.xs.length a.to.c2) := cell_of_blk HB13.out rfl
  have cl := blk_lt HB13.out
  go_wp2_with fail
  refine (hused_nil _).mono ?_
  rintro e w14 ⟨rfl, hb⟩
  have HB14 := Lib.hid (below_blk hb HB13.out)
  have HW14 := Lib.hid (HW13.out.trans (hb.mono HW13.out.size))
  clear hb
  clear c0 c1 c2 c3 c4 c5 c6 c7 c8 c9 c10 c11 c12 c13 c14 c15 c16 c17 c18 cl
  have c0 : w14.cell? ⟨b, 0, none⟩ = some (.int .i64 a.act) := cell_of_blk HB14.out rfl
  have c1 : w14.cell? ⟨b, 1, none⟩ = some (.int .u64 (a.ctx : Int)) := cell_of_blk HB14.out rfl
  have c2 : w14.cell? ⟨b, 2, none⟩ = some (.int .i64 a.a.kind) := cell_of_blk HB14.out rfl
  have c3 : w14.cell? ⟨b, 3, none⟩ = some (.int .i64 a.a.n) := cell_of_blk HB14.out rfl
  have c4 : w14.cell? ⟨b, 4, none⟩ = some (.string a.a.s) := cell_of_blk HB14.out rfl
  have c5 : w14.cell? ⟨b, 5, none⟩ = some (.int .u64 (a.a.label : Int)) := cell_of_blk HB14.out rfl
  have c6 : w14.cell? ⟨b, 6, none⟩ = some (.int .i64 a.b.kind) := cell_of_blk HB14.out rfl
  have c7 : w14.cell? ⟨b, 7, none⟩ = some (.int .i64 a.b.n) := cell_of_blk HB14.out rfl
  have c8 : w14.cell? ⟨b, 8, none⟩ = some (.string a.b.s) := cell_of_blk HB14.out rfl
  have c9 : w14.cell? ⟨b, 9, none⟩ = some (.int .u64 (a.b.label : Int)) := cell_of_blk HB14.out rfl
  have c10 : w14.cell? ⟨b, 10, none⟩ = some (.int .i64 a.c.kind) := cell_of_blk HB14.out rfl
  have c11 : w14.cell? ⟨b, 11, none⟩ = some (.int .i64 a.c.n) := cell_of_blk HB14.out rfl
  have c12 : w14.cell? ⟨b, 12, none⟩ = some (.string a.c.s) := cell_of_blk HB14.out rfl
  have c13 : w14.cell? ⟨b, 13, none⟩ = some (.int .u64 (a.c.label : Int)) := cell_of_blk HB14.out rfl
  have c14 : w14.cell? ⟨b, 14, none⟩ = some (.int .i64 a.n) := cell_of_blk HB14.out rfl
  have c15 : w14.cell? ⟨b, 15, none⟩ = some (.slice a.cells.A a.cells.xs.length a.cells.cap) := cell_of_blk HB14.out rfl
  have c16 : w14.cell? ⟨b, 16, none⟩ = some (.int .i64 a.to.kind) := cell_of_blk HB14.out rfl
  have c17 : w14.cell? ⟨b, 17, none⟩ = some (.slice a.to.A a.to.ns.length a.to.c) := cell_of_blk HB14.out rfl
  have c18 : w14.cell? ⟨b, 18, none⟩ = some (.slice a.to.A2 a.to.xs.length a.to.c2) := cell_of_blk HB14.out rfl
  have cl := blk_lt HB14.out
  go_wp2_with fail
  refine (hof_nil a.a _).mono ?_
  rintro e w15 ⟨rfl, hb⟩
  have HB15 := Lib.hid (below_blk hb HB14.out)
  have HW15 := Lib.hid (HW14.out.trans (hb.mono HW14.out.size))
  clear hb
  clear c0 c1 c2 c3 c4 c5 c6 c7 c8 c9 c10 c11 c12 c13 c14 c15 c16 c17 c18 cl
  have c0 : w15.cell? ⟨b, 0, none⟩ = some (.int .i64 a.act) := cell_of_blk HB15.out rfl
  have c1 : w15.cell? ⟨b, 1, none⟩ = some (.int .u64 (a.ctx : Int)) := cell_of_blk HB15.out rfl
  have c2 : w15.cell? ⟨b, 2, none⟩ = some (.int .i64 a.a.kind) := cell_of_blk HB15.out rfl
  have c3 : w15.cell? ⟨b, 3, none⟩ = some (.int .i64 a.a.n) := cell_of_blk HB15.out rfl
  have c4 : w15.cell? ⟨b, 4, none⟩ = some (.string a.a.s) := cell_of_blk HB15.out rfl
  have c5 : w15.cell? ⟨b, 5, none⟩ = some (.int .u64 (a.a.label : Int)) := cell_of_blk HB15.out rfl
  have c6 : w15.cell? ⟨b, 6, none⟩ = some (.int .i64 a.b.kind) := cell_of_blk HB15.out rfl
  have c7 : w15.cell? ⟨b, 7, none⟩ = some (.int .i64 a.b.n) := cell_of_blk HB15.out rfl
  have c8 : w15.cell? ⟨b, 8, none⟩ = some (.string a.b.s) := cell_of_blk HB15.out rfl
  have c9 : w15.cell? ⟨b, 9, none⟩ = some (.int .u64 (a.b.label : Int)) := cell_of_blk HB15.out rfl
  have c10 : w15.cell? ⟨b, 10, none⟩ = some (.int .i64 a.c.kind) := cell_of_blk HB15.out rfl
  have c11 : w15.cell? ⟨b, 11, none⟩ = some (.int .i64 a.c.n) := cell_of_blk HB15.out rfl
  have c12 : w15.cell? ⟨b, 12, none⟩ = some (.string a.c.s) := cell_of_blk HB15.out rfl
  have c13 : w15.cell? ⟨b, 13, none⟩ = some (.int .u64 (a.c.label : Int)) := cell_of_blk HB15.out rfl
  have c14 : w15.cell? ⟨b, 14, none⟩ = some (.int .i64 a.n) := cell_of_blk HB15.out rfl
  have c15 : w15.cell? ⟨b, 15, none⟩ = some (.slice a.cells.A a.cells.xs.length a.cells.cap) := cell_of_blk HB15.out rfl
  have c16 : w15.cell? ⟨b, 16, none⟩ = some (.int .i64 a.to.kind) := cell_of_blk HB15.out rfl
  have c17 : w15.cell? ⟨b, 17, none⟩ = some (.slice a.to.A a.to.ns.length a.to.c) := cell_of_blk HB15.out rfl
  have c18 : w15.cell? ⟨b, 18, none⟩ = some (.slice a.to.A2 a.to.xs.length a.to.c2) := cell_of_blk HB15.out rfl
  have cl := blk_lt HB15.out
  clear c0 c1 c2 c3 c4 c5 c6 c7 c8 c9 c10 c11 c12 c13 c14 c15 c16 c17 c18 cl
  have HSM := Lib.hid (show ∀ w, Calls Tryd.prog 20 #[.agg #[.int .i64 a.a.kind, .int .i64 a.a.n, .string a.a.s, .int .u64 (a.a.label : Int)], .agg #[.int .i64 a.b.kind, .int .i64 a.b.n, .string a.b.s, .int .u64 (a.b.label : Int)]] w (RetB (.bool sv) w) from fun w => by rw [HSV.out]; exact sameR_any a.a a.b w)
  have HEL := Lib.hid (show ∀ w, Calls Tryd.prog 19 #[.pointer none, .agg #[.int .i64 a.a.kind, .int .i64 a.a.n, .string a.a.s, .int .u64 (a.a.label : Int)], .agg #[.int .i64 a.b.kind, .int .i64 a.b.n, .string a.b.s, .int .u64 (a.b.label : Int)]] w (RetB (.bool sv) w) from fun w => by rw [HSV.out]; exact hequal_nil a.a a.b w)
  go_wp2_with fail
  refine wp_region_held_drew (S := fun w' => w'.heap[b]? = some (.cells (haEnc a).toArray 32 (0, 0))) (by kernel_rfl) (HB15.out) (fun hHeld => ?_)
  refine wpAnyH_take (i := 0) (oi := _) (v := .pointer none) rfl (by kernel_rfl) (by kernel_rfl) (by kernel_rfl) (fun _ _ _ h => h) (Or.inl ⟨by rfl, fun w' hS => (by go_simp)⟩) hHeld ?_
  change wpAnyH _ _ _ _ _ _ _ (Act.put _ (some 115) _) _
  try simp only [Act.put, List.setIfInBounds_toArray, List.set_cons_zero, List.set_cons_succ]
  refine wpAnyH_take (i := 1) (oi := _) (v := .pointer (some ⟨b, 1, none⟩)) rfl (by kernel_rfl) (by kernel_rfl) (by kernel_rfl) (fun _ _ _ h => h) (Or.inl ⟨by rfl, fun w' hS => (by go_simp)⟩) hHeld ?_
  change wpAnyH _ _ _ _ _ _ _ (Act.put _ (some 116) _) _
  try simp only [Act.put, List.setIfInBounds_toArray, List.set_cons_zero, List.set_cons_succ]
  refine wpAnyH_take (i := 2) (oi := _) (v := .int .u64 (a.ctx : Int)) rfl (by kernel_rfl) (by kernel_rfl) (by kernel_rfl) (fun _ _ _ h => h) (Or.inl ⟨by rfl, fun w' hS => (by have q1 := cell_of_blk (i := 1) (v := .int .u64 (a.ctx : Int)) hS rfl; go_simp)⟩) hHeld ?_
  change wpAnyH _ _ _ _ _ _ _ (Act.put _ (some 117) _) _
  try simp only [Act.put, List.setIfInBounds_toArray, List.set_cons_zero, List.set_cons_succ]
  refine wpAnyH_take (i := 3) (oi := _) (v := .pointer (some ⟨b, 14, none⟩)) rfl (by kernel_rfl) (by kernel_rfl) (by kernel_rfl) (fun _ _ _ h => h) (Or.inl ⟨by rfl, fun w' hS => (by go_simp)⟩) hHeld ?_
  change wpAnyH _ _ _ _ _ _ _ (Act.put _ (some 118) _) _
  try simp only [Act.put, List.setIfInBounds_toArray, List.set_cons_zero, List.set_cons_succ]
  refine wpAnyH_take (i := 4) (oi := _) (v := .int .i64 a.n) rfl (by kernel_rfl) (by kernel_rfl) (by kernel_rfl) (fun _ _ _ h => h) (Or.inl ⟨by rfl, fun w' hS => (by have q14 := cell_of_blk (i := 14) (v := .int .i64 a.n) hS rfl; go_simp)⟩) hHeld ?_
  change wpAnyH _ _ _ _ _ _ _ (Act.put _ (some 119) _) _
  try simp only [Act.put, List.setIfInBounds_toArray, List.set_cons_zero, List.set_cons_succ]
  refine wpAnyH_take (i := 5) (oi := _) (v := .pointer (some ⟨b, 2, none⟩)) rfl (by kernel_rfl) (by kernel_rfl) (by kernel_rfl) (fun _ _ _ h => h) (Or.inl ⟨by rfl, fun w' hS => (by go_simp)⟩) hHeld ?_
  change wpAnyH _ _ _ _ _ _ _ (Act.put _ (some 120) _) _
  try simp only [Act.put, List.setIfInBounds_toArray, List.set_cons_zero, List.set_cons_succ]
  refine wpAnyH_take (i := 6) (oi := _) (v := .agg #[.int .i64 a.a.kind, .int .i64 a.a.n, .string a.a.s, .int .u64 (a.a.label : Int)]) rfl (by kernel_rfl) (by kernel_rfl) (by kernel_rfl) (fun _ _ _ h => h) (Or.inl ⟨by rfl, fun w' hS => (by have q2 := cell_of_blk (i := 2) (v := .int .i64 a.a.kind) hS rfl; have q3 := cell_of_blk (i := 3) (v := .int .i64 a.a.n) hS rfl; have q4 := cell_of_blk (i := 4) (v := .string a.a.s) hS rfl; have q5 := cell_of_blk (i := 5) (v := .int .u64 (a.a.label : Int)) hS rfl; go_simp)⟩) hHeld ?_
  change wpAnyH _ _ _ _ _ _ _ (Act.put _ (some 121) _) _
  try simp only [Act.put, List.setIfInBounds_toArray, List.set_cons_zero, List.set_cons_succ]
  refine wpAnyH_ready (rs := [7]) (by kernel_rfl) (by simp) ?_
  refine AllReadyH.cons (o := _) rfl (fun K hK => ?_) AllReadyH.nil
  go_simp
  refine (hstore_nil a.ctx a.n a.a _).mono ?_
  rintro e x1 ⟨rfl, hb⟩
  have D1 := Lib.hid (below_blk ((Below.refl _ _).drew.trans hb) HB15.out)
  have F1 := Lib.hid (HW15.out.trans (((Below.refl _ _).drew.trans hb).mono HW15.out.size))
  clear hb
  refine hK.out _ _ (D1.out) (fun hHeld => ?_)
  clear hK K
  try simp only [Act.put, List.setIfInBounds_toArray, List.set_cons_zero, List.set_cons_succ]
  refine wpAnyH_take (i := 8) (oi := _) (v := .bool true) rfl (by kernel_rfl) (by kernel_rfl) (by kernel_rfl) (fun _ _ _ h => h) (Or.inl ⟨by rfl, fun w' hS => (by go_simp)⟩) hHeld ?_
  change wpAnyH _ _ _ _ _ _ _ (Act.put _ (some 123) _) _
  try simp only [Act.put, List.setIfInBounds_toArray, List.set_cons_zero, List.set_cons_succ]
  refine wpAnyH_take (i := 9) (oi := _) (v := .bool true) rfl (by kernel_rfl) (by kernel_rfl) (by kernel_rfl) (fun _ _ _ h => h) (Or.inl ⟨by rfl, fun w' hS => (by go_simp)⟩) hHeld ?_
  change wpAnyH _ _ _ _ _ _ _ (Act.put _ (some 124) _) _
  try simp only [Act.put, List.setIfInBounds_toArray, List.set_cons_zero, List.set_cons_succ]
  refine wpAnyH_take (i := 10) (oi := _) (v := .pointer none) rfl (by kernel_rfl) (by kernel_rfl) (by kernel_rfl) (fun _ _ _ h => h) (Or.inl ⟨by rfl, fun w' hS => (by go_simp)⟩) hHeld ?_
  change wpAnyH _ _ _ _ _ _ _ (Act.put _ (some 125) _) _
  try simp only [Act.put, List.setIfInBounds_toArray, List.set_cons_zero, List.set_cons_succ]
  refine wpAnyH_take (i := 11) (oi := _) (v := .pointer (some ⟨b, 14, none⟩)) rfl (by kernel_rfl) (by kernel_rfl) (by kernel_rfl) (fun _ _ _ h => h) (Or.inl ⟨by rfl, fun w' hS => (by go_simp)⟩) hHeld ?_
  change wpAnyH _ _ _ _ _ _ _ (Act.put _ (some 126) _) _
  try simp only [Act.put, List.setIfInBounds_toArray, List.set_cons_zero, List.set_cons_succ]
  refine wpAnyH_take (i := 12) (oi := _) (v := .int .i64 a.n) rfl (by kernel_rfl) (by kernel_rfl) (by kernel_rfl) (fun _ _ _ h => h) (Or.inl ⟨by rfl, fun w' hS => (by have q14 := cell_of_blk (i := 14) (v := .int .i64 a.n) hS rfl; go_simp)⟩) hHeld ?_
  change wpAnyH _ _ _ _ _ _ _ (Act.put _ (some 127) _) _
  try simp only [Act.put, List.setIfInBounds_toArray, List.set_cons_zero, List.set_cons_succ]
  refine wpAnyH_take (i := 14) (oi := _) (v := .agg #[.int .i64 0, .int .i64 0, .string ⟨#[]⟩, .int .u64 0]) rfl (by kernel_rfl) (by kernel_rfl) (by kernel_rfl) (fun _ _ _ h => h) (Or.inl ⟨by rfl, fun w' hS => (by go_simp)⟩) hHeld ?_
  change wpAnyH _ _ _ _ _ _ _ (Act.put _ (some 129) _) _
  try simp only [Act.put, List.setIfInBounds_toArray, List.set_cons_zero, List.set_cons_succ]
  refine wpAnyH_ready (rs := [13]) (by kernel_rfl) (by simp) ?_
  refine AllReadyH.cons (o := _) rfl (fun K hK => ?_) AllReadyH.nil
  go_simp
  refine (hload_nil a.n _).mono ?_
  rintro e x2 ⟨rfl, hb⟩
  have D2 := Lib.hid (below_blk hb D1.out)
  have F2 := Lib.hid (F1.out.trans (hb.mono F1.out.size))
  clear hb
  refine hK.out _ _ (D2.out) (fun hHeld => ?_)
  clear hK K
  try simp only [Act.put, List.setIfInBounds_toArray, List.set_cons_zero, List.set_cons_succ]
  refine wpAnyH_take (i := 15) (oi := _) (v := .bool true) rfl (by kernel_rfl) (by kernel_rfl) (by kernel_rfl) (fun _ _ _ h => h) (Or.inl ⟨by rfl, fun w' hS => (by have hz := HEZ.out w'; go_simp)⟩) hHeld ?_
  change wpAnyH _ _ _ _ _ _ _ (Act.put _ (some 130) _) _
  try simp only [Act.put, List.setIfInBounds_toArray, List.set_cons_zero, List.set_cons_succ]
  refine wpAnyH_take (i := 16) (oi := _) (v := .bool true) rfl (by kernel_rfl) (by kernel_rfl) (by kernel_rfl) (fun _ _ _ h => h) (Or.inl ⟨by rfl, fun w' hS => (by go_simp)⟩) hHeld ?_
  change wpAnyH _ _ _ _ _ _ _ (Act.put _ (some 131) _) _
  try simp only [Act.put, List.setIfInBounds_toArray, List.set_cons_zero, List.set_cons_succ]
  refine wpAnyH_take (i := 17) (oi := _) (v := .bool true) rfl (by kernel_rfl) (by kernel_rfl) (by kernel_rfl) (fun _ _ _ h => h) (Or.inl ⟨by rfl, fun w' hS => (by go_simp)⟩) hHeld ?_
  change wpAnyH _ _ _ _ _ _ _ (Act.put _ (some 132) _) _
  try simp only [Act.put, List.setIfInBounds_toArray, List.set_cons_zero, List.set_cons_succ]
  refine wpAnyH_take (i := 18) (oi := _) (v := .pointer none) rfl (by kernel_rfl) (by kernel_rfl) (by kernel_rfl) (fun _ _ _ h => h) (Or.inl ⟨by rfl, fun w' hS => (by go_simp)⟩) hHeld ?_
  change wpAnyH _ _ _ _ _ _ _ (Act.put _ (some 133) _) _
  try simp only [Act.put, List.setIfInBounds_toArray, List.set_cons_zero, List.set_cons_succ]
  refine wpAnyH_take (i := 19) (oi := _) (v := .pointer (some ⟨b, 2, none⟩)) rfl (by kernel_rfl) (by kernel_rfl) (by kernel_rfl) (fun _ _ _ h => h) (Or.inl ⟨by rfl, fun w' hS => (by go_simp)⟩) hHeld ?_
  change wpAnyH _ _ _ _ _ _ _ (Act.put _ (some 134) _) _
  try simp only [Act.put, List.setIfInBounds_toArray, List.set_cons_zero, List.set_cons_succ]
  refine wpAnyH_take (i := 20) (oi := _) (v := .agg #[.int .i64 a.a.kind, .int .i64 a.a.n, .string a.a.s, .int .u64 (a.a.label : Int)]) rfl (by kernel_rfl) (by kernel_rfl) (by kernel_rfl) (fun _ _ _ h => h) (Or.inl ⟨by rfl, fun w' hS => (by have q2 := cell_of_blk (i := 2) (v := .int .i64 a.a.kind) hS rfl; have q3 := cell_of_blk (i := 3) (v := .int .i64 a.a.n) hS rfl; have q4 := cell_of_blk (i := 4) (v := .string a.a.s) hS rfl; have q5 := cell_of_blk (i := 5) (v := .int .u64 (a.a.label : Int)) hS rfl; go_simp)⟩) hHeld ?_
  change wpAnyH _ _ _ _ _ _ _ (Act.put _ (some 135) _) _
  try simp only [Act.put, List.setIfInBounds_toArray, List.set_cons_zero, List.set_cons_succ]
  refine wpAnyH_take (i := 21) (oi := _) (v := .pointer (some ⟨b, 6, none⟩)) rfl (by kernel_rfl) (by kernel_rfl) (by kernel_rfl) (fun _ _ _ h => h) (Or.inl ⟨by rfl, fun w' hS => (by go_simp)⟩) hHeld ?_
  change wpAnyH _ _ _ _ _ _ _ (Act.put _ (some 136) _) _
  try simp only [Act.put, List.setIfInBounds_toArray, List.set_cons_zero, List.set_cons_succ]
  refine wpAnyH_take (i := 22) (oi := _) (v := .agg #[.int .i64 a.b.kind, .int .i64 a.b.n, .string a.b.s, .int .u64 (a.b.label : Int)]) rfl (by kernel_rfl) (by kernel_rfl) (by kernel_rfl) (fun _ _ _ h => h) (Or.inl ⟨by rfl, fun w' hS => (by have q6 := cell_of_blk (i := 6) (v := .int .i64 a.b.kind) hS rfl; have q7 := cell_of_blk (i := 7) (v := .int .i64 a.b.n) hS rfl; have q8 := cell_of_blk (i := 8) (v := .string a.b.s) hS rfl; have q9 := cell_of_blk (i := 9) (v := .int .u64 (a.b.label : Int)) hS rfl; go_simp)⟩) hHeld ?_
  change wpAnyH _ _ _ _ _ _ _ (Act.put _ (some 137) _) _
  try simp only [Act.put, List.setIfInBounds_toArray, List.set_cons_zero, List.set_cons_succ]
  refine wpAnyH_take (i := 24) (oi := _) (v := .agg #[.int .i64 0, .int .i64 0, .string ⟨#[]⟩, .int .u64 0]) rfl (by kernel_rfl) (by kernel_rfl) (by kernel_rfl) (fun _ _ _ h => h) (Or.inl ⟨by rfl, fun w' hS => (by go_simp)⟩) hHeld ?_
  change wpAnyH _ _ _ _ _ _ _ (Act.put _ (some 139) _) _
  try simp only [Act.put, List.setIfInBounds_toArray, List.set_cons_zero, List.set_cons_succ]
  refine wpAnyH_ready (rs := [23]) (by kernel_rfl) (by simp) ?_
  refine AllReadyH.cons (o := _) rfl (fun K hK => ?_) AllReadyH.nil
  go_simp
  refine (hget_nil a.a a.b _).mono ?_
  rintro e x3 ⟨rfl, hb⟩
  have D3 := Lib.hid (below_blk hb D2.out)
  have F3 := Lib.hid (F2.out.trans (hb.mono F2.out.size))
  clear hb
  refine hK.out _ _ (D3.out) (fun hHeld => ?_)
  clear hK K
  try simp only [Act.put, List.setIfInBounds_toArray, List.set_cons_zero, List.set_cons_succ]
  refine wpAnyH_take (i := 25) (oi := _) (v := .bool true) rfl (by kernel_rfl) (by kernel_rfl) (by kernel_rfl) (fun _ _ _ h => h) (Or.inl ⟨by rfl, fun w' hS => (by have hz := HEZ.out w'; go_simp)⟩) hHeld ?_
  change wpAnyH _ _ _ _ _ _ _ (Act.put _ (some 140) _) _
  try simp only [Act.put, List.setIfInBounds_toArray, List.set_cons_zero, List.set_cons_succ]
  refine wpAnyH_take (i := 26) (oi := _) (v := .bool true) rfl (by kernel_rfl) (by kernel_rfl) (by kernel_rfl) (fun _ _ _ h => h) (Or.inl ⟨by rfl, fun w' hS => (by go_simp)⟩) hHeld ?_
  change wpAnyH _ _ _ _ _ _ _ (Act.put _ (some 141) _) _
  try simp only [Act.put, List.setIfInBounds_toArray, List.set_cons_zero, List.set_cons_succ]
  refine wpAnyH_take (i := 27) (oi := _) (v := .bool true) rfl (by kernel_rfl) (by kernel_rfl) (by kernel_rfl) (fun _ _ _ h => h) (Or.inl ⟨by rfl, fun w' hS => (by go_simp)⟩) hHeld ?_
  change wpAnyH _ _ _ _ _ _ _ (Act.put _ (some 142) _) _
  try simp only [Act.put, List.setIfInBounds_toArray, List.set_cons_zero, List.set_cons_succ]
  refine wpAnyH_take (i := 28) (oi := _) (v := .pointer none) rfl (by kernel_rfl) (by kernel_rfl) (by kernel_rfl) (fun _ _ _ h => h) (Or.inl ⟨by rfl, fun w' hS => (by go_simp)⟩) hHeld ?_
  change wpAnyH _ _ _ _ _ _ _ (Act.put _ (some 143) _) _
  try simp only [Act.put, List.setIfInBounds_toArray, List.set_cons_zero, List.set_cons_succ]
  refine wpAnyH_take (i := 29) (oi := _) (v := .pointer (some ⟨b, 2, none⟩)) rfl (by kernel_rfl) (by kernel_rfl) (by kernel_rfl) (fun _ _ _ h => h) (Or.inl ⟨by rfl, fun w' hS => (by go_simp)⟩) hHeld ?_
  change wpAnyH _ _ _ _ _ _ _ (Act.put _ (some 144) _) _
  try simp only [Act.put, List.setIfInBounds_toArray, List.set_cons_zero, List.set_cons_succ]
  refine wpAnyH_take (i := 30) (oi := _) (v := .agg #[.int .i64 a.a.kind, .int .i64 a.a.n, .string a.a.s, .int .u64 (a.a.label : Int)]) rfl (by kernel_rfl) (by kernel_rfl) (by kernel_rfl) (fun _ _ _ h => h) (Or.inl ⟨by rfl, fun w' hS => (by have q2 := cell_of_blk (i := 2) (v := .int .i64 a.a.kind) hS rfl; have q3 := cell_of_blk (i := 3) (v := .int .i64 a.a.n) hS rfl; have q4 := cell_of_blk (i := 4) (v := .string a.a.s) hS rfl; have q5 := cell_of_blk (i := 5) (v := .int .u64 (a.a.label : Int)) hS rfl; go_simp)⟩) hHeld ?_
  change wpAnyH _ _ _ _ _ _ _ (Act.put _ (some 145) _) _
  try simp only [Act.put, List.setIfInBounds_toArray, List.set_cons_zero, List.set_cons_succ]
  refine wpAnyH_take (i := 32) (oi := _) (v := .pointer (some ⟨b, 2, none⟩)) rfl (by kernel_rfl) (by kernel_rfl) (by kernel_rfl) (fun _ _ _ h => h) (Or.inl ⟨by rfl, fun w' hS => (by go_simp)⟩) hHeld ?_
  change wpAnyH _ _ _ _ _ _ _ (Act.put _ (some 147) _) _
  try simp only [Act.put, List.setIfInBounds_toArray, List.set_cons_zero, List.set_cons_succ]
  refine wpAnyH_take (i := 33) (oi := _) (v := .agg #[.int .i64 a.a.kind, .int .i64 a.a.n, .string a.a.s, .int .u64 (a.a.label : Int)]) rfl (by kernel_rfl) (by kernel_rfl) (by kernel_rfl) (fun _ _ _ h => h) (Or.inl ⟨by rfl, fun w' hS => (by have q2 := cell_of_blk (i := 2) (v := .int .i64 a.a.kind) hS rfl; have q3 := cell_of_blk (i := 3) (v := .int .i64 a.a.n) hS rfl; have q4 := cell_of_blk (i := 4) (v := .string a.a.s) hS rfl; have q5 := cell_of_blk (i := 5) (v := .int .u64 (a.a.label : Int)) hS rfl; go_simp)⟩) hHeld ?_
  change wpAnyH _ _ _ _ _ _ _ (Act.put _ (some 148) _) _
  try simp only [Act.put, List.setIfInBounds_toArray, List.set_cons_zero, List.set_cons_succ]
  refine wpAnyH_ready (rs := [31]) (by kernel_rfl) (by simp) ?_
  refine AllReadyH.cons (o := _) rfl (fun K hK => ?_) AllReadyH.nil
  go_simp
  refine (hbase_nil a.a _).mono ?_
  rintro e x4 ⟨rfl, hb⟩
  have D4 := Lib.hid (below_blk hb D3.out)
  have F4 := Lib.hid (F3.out.trans (hb.mono F3.out.size))
  clear hb
  refine hK.out _ _ (D4.out) (fun hHeld => ?_)
  clear hK K
  try simp only [Act.put, List.setIfInBounds_toArray, List.set_cons_zero, List.set_cons_succ]
  refine wpAnyH_take (i := 34) (oi := _) (v := .bool true) rfl (by kernel_rfl) (by kernel_rfl) (by kernel_rfl) (fun _ _ _ h => h) (Or.inl ⟨by rfl, fun w' hS => (by have hz := HEQ.out w'; go_simp)⟩) hHeld ?_
  change wpAnyH _ _ _ _ _ _ _ (Act.put _ (some 149) _) _
  try simp only [Act.put, List.setIfInBounds_toArray, List.set_cons_zero, List.set_cons_succ]
  refine wpAnyH_take (i := 35) (oi := _) (v := .bool true) rfl (by kernel_rfl) (by kernel_rfl) (by kernel_rfl) (fun _ _ _ h => h) (Or.inl ⟨by rfl, fun w' hS => (by go_simp)⟩) hHeld ?_
  change wpAnyH _ _ _ _ _ _ _ (Act.put _ (some 150) _) _
  try simp only [Act.put, List.setIfInBounds_toArray, List.set_cons_zero, List.set_cons_succ]
  refine wpAnyH_take (i := 36) (oi := _) (v := .bool true) rfl (by kernel_rfl) (by kernel_rfl) (by kernel_rfl) (fun _ _ _ h => h) (Or.inl ⟨by rfl, fun w' hS => (by go_simp)⟩) hHeld ?_
  change wpAnyH _ _ _ _ _ _ _ (Act.put _ (some 151) _) _
  try simp only [Act.put, List.setIfInBounds_toArray, List.set_cons_zero, List.set_cons_succ]
  refine wpAnyH_take (i := 37) (oi := _) (v := .pointer none) rfl (by kernel_rfl) (by kernel_rfl) (by kernel_rfl) (fun _ _ _ h => h) (Or.inl ⟨by rfl, fun w' hS => (by go_simp)⟩) hHeld ?_
  change wpAnyH _ _ _ _ _ _ _ (Act.put _ (some 152) _) _
  try simp only [Act.put, List.setIfInBounds_toArray, List.set_cons_zero, List.set_cons_succ]
  refine wpAnyH_take (i := 38) (oi := _) (v := .pointer (some ⟨b, 2, none⟩)) rfl (by kernel_rfl) (by kernel_rfl) (by kernel_rfl) (fun _ _ _ h => h) (Or.inl ⟨by rfl, fun w' hS => (by go_simp)⟩) hHeld ?_
  change wpAnyH _ _ _ _ _ _ _ (Act.put _ (some 153) _) _
  try simp only [Act.put, List.setIfInBounds_toArray, List.set_cons_zero, List.set_cons_succ]
  refine wpAnyH_take (i := 39) (oi := _) (v := .agg #[.int .i64 a.a.kind, .int .i64 a.a.n, .string a.a.s, .int .u64 (a.a.label : Int)]) rfl (by kernel_rfl) (by kernel_rfl) (by kernel_rfl) (fun _ _ _ h => h) (Or.inl ⟨by rfl, fun w' hS => (by have q2 := cell_of_blk (i := 2) (v := .int .i64 a.a.kind) hS rfl; have q3 := cell_of_blk (i := 3) (v := .int .i64 a.a.n) hS rfl; have q4 := cell_of_blk (i := 4) (v := .string a.a.s) hS rfl; have q5 := cell_of_blk (i := 5) (v := .int .u64 (a.a.label : Int)) hS rfl; go_simp)⟩) hHeld ?_
  change wpAnyH _ _ _ _ _ _ _ (Act.put _ (some 154) _) _
  try simp only [Act.put, List.setIfInBounds_toArray, List.set_cons_zero, List.set_cons_succ]
  refine wpAnyH_take (i := 40) (oi := _) (v := .pointer (some ⟨b, 6, none⟩)) rfl (by kernel_rfl) (by kernel_rfl) (by kernel_rfl) (fun _ _ _ h => h) (Or.inl ⟨by rfl, fun w' hS => (by go_simp)⟩) hHeld ?_
  change wpAnyH _ _ _ _ _ _ _ (Act.put _ (some 155) _) _
  try simp only [Act.put, List.setIfInBounds_toArray, List.set_cons_zero, List.set_cons_succ]
  refine wpAnyH_take (i := 41) (oi := _) (v := .agg #[.int .i64 a.b.kind, .int .i64 a.b.n, .string a.b.s, .int .u64 (a.b.label : Int)]) rfl (by kernel_rfl) (by kernel_rfl) (by kernel_rfl) (fun _ _ _ h => h) (Or.inl ⟨by rfl, fun w' hS => (by have q6 := cell_of_blk (i := 6) (v := .int .i64 a.b.kind) hS rfl; have q7 := cell_of_blk (i := 7) (v := .int .i64 a.b.n) hS rfl; have q8 := cell_of_blk (i := 8) (v := .string a.b.s) hS rfl; have q9 := cell_of_blk (i := 9) (v := .int .u64 (a.b.label : Int)) hS rfl; go_simp)⟩) hHeld ?_
  change wpAnyH _ _ _ _ _ _ _ (Act.put _ (some 156) _) _
  try simp only [Act.put, List.setIfInBounds_toArray, List.set_cons_zero, List.set_cons_succ]
  refine wpAnyH_take (i := 43) (oi := _) (v := .pointer (some ⟨b, 2, none⟩)) rfl (by kernel_rfl) (by kernel_rfl) (by kernel_rfl) (fun _ _ _ h => h) (Or.inl ⟨by rfl, fun w' hS => (by go_simp)⟩) hHeld ?_
  change wpAnyH _ _ _ _ _ _ _ (Act.put _ (some 158) _) _
  try simp only [Act.put, List.setIfInBounds_toArray, List.set_cons_zero, List.set_cons_succ]
  refine wpAnyH_take (i := 44) (oi := _) (v := .agg #[.int .i64 a.a.kind, .int .i64 a.a.n, .string a.a.s, .int .u64 (a.a.label : Int)]) rfl (by kernel_rfl) (by kernel_rfl) (by kernel_rfl) (fun _ _ _ h => h) (Or.inl ⟨by rfl, fun w' hS => (by have q2 := cell_of_blk (i := 2) (v := .int .i64 a.a.kind) hS rfl; have q3 := cell_of_blk (i := 3) (v := .int .i64 a.a.n) hS rfl; have q4 := cell_of_blk (i := 4) (v := .string a.a.s) hS rfl; have q5 := cell_of_blk (i := 5) (v := .int .u64 (a.a.label : Int)) hS rfl; go_simp)⟩) hHeld ?_
  change wpAnyH _ _ _ _ _ _ _ (Act.put _ (some 159) _) _
  try simp only [Act.put, List.setIfInBounds_toArray, List.set_cons_zero, List.set_cons_succ]
  refine wpAnyH_take (i := 45) (oi := _) (v := .pointer (some ⟨b, 6, none⟩)) rfl (by kernel_rfl) (by kernel_rfl) (by kernel_rfl) (fun _ _ _ h => h) (Or.inl ⟨by rfl, fun w' hS => (by go_simp)⟩) hHeld ?_
  change wpAnyH _ _ _ _ _ _ _ (Act.put _ (some 160) _) _
  try simp only [Act.put, List.setIfInBounds_toArray, List.set_cons_zero, List.set_cons_succ]
  refine wpAnyH_take (i := 46) (oi := _) (v := .agg #[.int .i64 a.b.kind, .int .i64 a.b.n, .string a.b.s, .int .u64 (a.b.label : Int)]) rfl (by kernel_rfl) (by kernel_rfl) (by kernel_rfl) (fun _ _ _ h => h) (Or.inl ⟨by rfl, fun w' hS => (by have q6 := cell_of_blk (i := 6) (v := .int .i64 a.b.kind) hS rfl; have q7 := cell_of_blk (i := 7) (v := .int .i64 a.b.n) hS rfl; have q8 := cell_of_blk (i := 8) (v := .string a.b.s) hS rfl; have q9 := cell_of_blk (i := 9) (v := .int .u64 (a.b.label : Int)) hS rfl; go_simp)⟩) hHeld ?_
  change wpAnyH _ _ _ _ _ _ _ (Act.put _ (some 161) _) _
  try simp only [Act.put, List.setIfInBounds_toArray, List.set_cons_zero, List.set_cons_succ]
  refine wpAnyH_ready (rs := [42]) (by kernel_rfl) (by simp) ?_
  refine AllReadyH.cons (o := _) rfl (fun K hK => ?_) AllReadyH.nil
  go_simp
  refine (HEL.out _).mono ?_
  rintro e x5 ⟨rfl, hb⟩
  have D5 := Lib.hid (below_blk hb D4.out)
  have F5 := Lib.hid (F4.out.trans (hb.mono F4.out.size))
  clear hb
  refine hK.out _ _ (D5.out) (fun hHeld => ?_)
  clear hK K
  try simp only [Act.put, List.setIfInBounds_toArray, List.set_cons_zero, List.set_cons_succ]
  refine wpAnyH_ready (rs := [47]) (by kernel_rfl) (by simp) ?_
  refine AllReadyH.cons (o := _) rfl (fun K hK => ?_) AllReadyH.nil
  go_simp
  refine (HSM.out _).mono ?_
  rintro e x6 ⟨rfl, hb⟩
  have D6 := Lib.hid (below_blk hb D5.out)
  have F6 := Lib.hid (F5.out.trans (hb.mono F5.out.size))
  clear hb
  refine hK.out _ _ (D6.out) (fun hHeld => ?_)
  clear hK K
  try simp only [Act.put, List.setIfInBounds_toArray, List.set_cons_zero, List.set_cons_succ]
  refine wpAnyH_take (i := 48) (oi := _) (v := .bool true) rfl (by kernel_rfl) (by kernel_rfl) (by kernel_rfl) (fun _ _ _ h => h) (Or.inl ⟨by rfl, fun w' hS => (by go_simp)⟩) hHeld ?_
  change wpAnyH _ _ _ _ _ _ _ (Act.put _ (some 163) _) _
  try simp only [Act.put, List.setIfInBounds_toArray, List.set_cons_zero, List.set_cons_succ]
  refine wpAnyH_take (i := 49) (oi := _) (v := .bool true) rfl (by kernel_rfl) (by kernel_rfl) (by kernel_rfl) (fun _ _ _ h => h) (Or.inl ⟨by rfl, fun w' hS => (by go_simp)⟩) hHeld ?_
  change wpAnyH _ _ _ _ _ _ _ (Act.put _ (some 164) _) _
  try simp only [Act.put, List.setIfInBounds_toArray, List.set_cons_zero, List.set_cons_succ]
  refine wpAnyH_take (i := 50) (oi := _) (v := .bool true) rfl (by kernel_rfl) (by kernel_rfl) (by kernel_rfl) (fun _ _ _ h => h) (Or.inl ⟨by rfl, fun w' hS => (by go_simp)⟩) hHeld ?_
  change wpAnyH _ _ _ _ _ _ _ (Act.put _ (some 2) _) _
  try simp only [Act.put, List.setIfInBounds_toArray, List.set_cons_zero, List.set_cons_succ]
  refine wpAnyH_done (by kernel_rfl) ?_ _
  go_wp2
  go_ret
  exact ⟨rfl, F6.out⟩
end Go.Proofs.YtohllalninoomaaDoor
