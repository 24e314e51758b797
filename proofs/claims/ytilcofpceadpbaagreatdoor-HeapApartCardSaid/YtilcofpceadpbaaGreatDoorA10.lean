/-
 HeapApart: part 10 of what the claim rests on.
-/
import Derived.Test.YtilcofpceadpbaaGreatDoorA02
import Derived.Test.YtilcofpceadpbaaGreatDoorA09
import Derived.Deep.MidRow
import Derived.Deep.WholeRow
import Derived.Deep.RegionLaw
import Derived.Deep.DrawnRows
import Derived.Deep.Cut
import Derived.Defers
import Derived.Recover
set_option linter.unusedVariables false
set_option linter.unusedSimpArgs false
set_option maxHeartbeats 64000000
namespace Go.Proofs.YtilcofpceadpbaaGreatDoor
open Go.ChangeShapes Go.WideShapes Go.ChangeAt Go.RowKit

theorem run_loadVar_addr {P : Program} (w : World) (a : Addr) (ty : TypeId) (cs : List Value) (d : TypeDesc) (hc : ∀ j v, cs[j]? = some v → w.cell? (a.add j) = some v)
  (hu : P.underlying ty = some d) (hd : d.isRow = true) (hi : (P.info? ty).map (·.size) = some cs.length) :
  (loadVar ty a).run P w = .ok (.agg cs.toArray) w := by
 have hl : (loadCells a cs.length).run P w = .ok cs.toArray w := run_loadCells_list (P := P) w a cs hc
 cases hq : P.info? ty with
 | none => simp [hq] at hi
 | some i =>
  have hs : i.size = cs.length := by simpa [hq] using hi
  have hagg : (isAgg ty).run P w = .ok true w := by
   unfold isAgg
   rw [Sem.run_bind, run_underlying hu w]
   cases d <;> simp_all
  simp [loadVar, Sem.run_bind, hagg, sizeOf, typeInfo, hq, hs, hl]
theorem wpList_load_addr {P : Program} {ops : Array Oper} {rest : List Oper} {op : Oper} {a : Act} {w : World} {Q : Exit → Act → World → Prop} (hgd : op.guard = none) (ty : TypeId) (x : Operand) (ho : op.op = .load ty x)
  (p : Addr) (hx : a.eval x = .pointer (some p)) (cs : List Value) (d : TypeDesc) (hc : ∀ j v, cs[j]? = some v → w.cell? (p.add j) = some v)
  (hu : P.underlying ty = some d) (hd : d.isRow = true) (hi : (P.info? ty).map (·.size) = some cs.length)
  (h : wpList P ops Q rest (a.put op.dst (.agg cs.toArray)) w) : wpList P ops Q (op :: rest) a w :=
 wpList_plain hgd fun K hK => by
  unfold Oper.wp execOp
  simp only [ho, hx, Instr.loadAt, Instr.sureAddr, Sem.run_bind, Sem.run_pure, Result.andThen_ok, run_loadVar_addr w p ty cs d hc hu hd hi]
  exact hK _ _ h
theorem wpList_store_new {P : Program} {ops : Array Oper} {rest : List Oper} {op : Oper} {a : Act} {w : World} {Q : Exit → Act → World → Prop} (hgd : op.guard = none) (ty : TypeId) (x y : Operand) (ho : op.op = .store ty x y)
  (c c' : Array Value) (hx : a.eval x = .pointer (some ⟨w.heap.size, 0, none⟩)) (hy : a.eval y = .agg c') (hi : (P.info? ty).map (·.size) = some c'.size) (hs : c.size = c'.size) (h1 : c'.all (·.oneCell') = true)
  (h : wpList P ops Q rest (a.put op.dst undef) (w.alloc (.cells c' ty))) : wpList P ops Q (op :: rest) a (w.alloc (.cells c ty)) :=
 wpList_plain hgd fun K hK => by
  unfold Oper.wp execOp
  simp only [ho, hx, hy, Instr.storeAt, Instr.sureAddr, Sem.run_bind, Sem.run_pure, Result.andThen_ok, run_storeVar_new w ty c c' hi hs h1]
  exact hK _ _ h
theorem info_act : (Tryz.prog.info? 33).map (·.size) = some 19 := by kernel_rfl
theorem ha_one (a : HAct) : (haEnc a).toArray.all (·.oneCell') = true := by
 refine all_oneCell_toArray fun v hv => ?_
 unfold haEnc Sl.val at hv
 simp only [List.mem_cons, List.not_mem_nil, or_false] at hv
 rcases hv with rfl | rfl | rfl | rfl | rfl | rfl | rfl | rfl | rfl | rfl | rfl | rfl | rfl | rfl | rfl | rfl | rfl | rfl | rfl <;> rfl
theorem elem_cells {w : World} {ad : Addr} {α : Type} {f : α → List Value} {K : Nat} {xs : List α} (hK : ∀ a, (f a).length = K) (hcell : ∀ j u, (xs.flatMap f)[j]? = some u → w.cell? (ad.add j) = some u) {k : Nat} {x : α} (hx : xs[k]? = some x) :
  ∀ j v, (f x)[j]? = some v → w.cell? ((ad.add (k * K)).add j) = some v := fun j v hv => by
 have hj : j < K := by rw [← hK x]; exact (List.getElem?_eq_some_iff.1 hv).1
 rw [add_add']
 exact hcell _ v (by rw [← hv, ← flatMap_get hK xs k x j hx hj])

structure FnS where
 pr : Int
 A : Option Addr
 n : Nat
 c : Nat
 x : VV
 ty : LTy
 ca : Int
 wr : Bool
def fnEnc (f : FnS) : List Value := [.int .i64 f.pr, .slice f.A f.n f.c, .int .i64 f.x.kind, .int .i64 f.x.n, .string f.x.s, .int .u64 (f.x.label : Int), .int .i64 f.ty.kind, .slice f.ty.A f.ty.ns.length f.ty.c, .slice f.ty.A2 f.ty.xs.length f.ty.c2, .int .i64 f.ca, .bool f.wr]
theorem info_cel : (Tryz.prog.info? 26).map (fun i => (i.zero, i.size, i.bytes)) = some (some (.agg #[.int .i64 0, .int .i64 0, .string ByteArray.empty, .int .u64 0]), 4, 40) := by kernel_rfl
set_option maxRecDepth 100000 in
theorem add_cel {w : World} {B h : Nat} {L U : Int} {tv fv : Value} {A : Option Addr} {n c : Nat} {xs : List Value} (hh : w.heap[h]? = some (.cells #[.int .i64 L, .int .i64 U, tv, fv, .slice A n c] 67 (0, 0))) (ho : w.ownsRow B 26 4 (.slice A n c) n xs) (hn : n ≤ 1000000) (hB : B ≤ w.heap.size) (x : VV) :
  Calls Tryz.prog 69 #[.pointer (some ⟨h, 4, none⟩), .agg #[.int .i64 x.kind, .int .i64 x.n, .string x.s, .int .u64 (x.label : Int)]] w fun e w' => ∃ g cap, e = .returned (.int .i64 (n : Int)) ∧ w'.heap[h]? = some (.cells #[.int .i64 L, .int .i64 U, tv, fv, .slice (some ⟨g, 0, none⟩) (n + 1) cap] 67 (0, 0)) ∧ w'.ownsRow B 26 4 (.slice (some ⟨g, 0, none⟩) (n + 1) cap) (n + 1) (xs ++ (vvE x)) ∧ Fr (h :: (Value.slice A n c).ownBlock.toList) w w' ∧ ((Value.slice A n c).ownBlock = some g ∨ w.heap.size ≤ g) := by
 obtain ⟨i0, hi, hz0, hz1, hz2⟩ := info_parts info_cel
 obtain ⟨b, hb⟩ : ∃ b, b = w.heap.size := ⟨_, rfl⟩
 have HBE := Lib.hid hb
 have H0 := Lib.hid hh
 have O0 := Lib.hid ho
 have HBB := Lib.hid hB
 clear hb hh ho hB
 have hw1 : IntKind.wrap .i64 (((n + 1 : Nat) : Int) - 1) = (n : Int) := by rw [IntKind.wrap_i64]; omega
 have HW1 := Lib.hid hw1
 clear hw1
 go_enter Tryz.func69, Tryz.ntmps69
 go_upto_region 1 with fail
 rw [← HBE.out]
 refine gen_wp fun W hW => ?_
 have hWb : Below w.heap.size w W := by rw [← hW]; exact (Below.refl _ _).alloc (Nat.le_refl _) _
 have hown : W.ownsRow B 26 4 (.slice A n c) n xs := by rw [← hW]; exact O0.out.alloc _
 have hblk : W.heap[h]? = some (.cells #[.int .i64 L, .int .i64 U, tv, fv, .slice A n c] 67 (0, 0)) := by rw [← hW]; exact blk_alloc H0.out _
 have hbox : W.heap[b]? = some (.cells #[.int .i64 x.kind, .int .i64 x.n, .string x.s, .int .u64 (x.label : Int)] 26 (0, 0)) := by rw [← hW, HBE.out]; exact heap_new_at _ _ _ (by first | rfl | simp)
 have hBW : B ≤ W.heap.size := Nat.le_trans HBB.out hWb.size
 have HWB := Lib.hid hWb
 clear hW hWb
 have hne := own_blk_ne hown hblk (by decide)
 obtain ⟨q0, q1, q2, q3, q4, qf0, qf1, qf2, qf3, qf4, ql⟩ := blk_5 hblk
 have r0 : W.cell? ⟨b, 0, none⟩ = some (.int .i64 x.kind) := cell_of_blk hbox rfl
 have r1 : W.cell? ⟨b, 1, none⟩ = some (.int .i64 x.n) := cell_of_blk hbox rfl
 have r2 : W.cell? ⟨b, 2, none⟩ = some (.string x.s) := cell_of_blk hbox rfl
 have r3 : W.cell? ⟨b, 3, none⟩ = some (.int .u64 (x.label : Int)) := cell_of_blk hbox rfl
 have rl := blk_lt hbox
 go_wp2_with fail
 go_region_law ((refine step_append_lies _ (by rfl) _ _ _ (by rfl) B 26 i0 (.agg #[.int .i64 0, .int .i64 0, .string ByteArray.empty, .int .u64 0]) 4 40 Tryz.underlying43 hi hz0 hz1 hz2 rfl (by omega) (.slice A n c) n xs (by rfl) (by exact hown.alloc _) ⟨W.heap.size, 0, none⟩ 1 1 (vvE x) (by rfl) (by rfl) (by exact news_drew _ #[.int .i64 x.kind, .int .i64 x.n, .string x.s, .int .u64 (x.label : Int)] _ _ (by simp)) (by simp [fnEnc, vvE, Value.oneCell']) (by omega) (by unfold maxLen; omega) (by omega) (by simp; omega) (W.heap.size + 1) (by simp) ?_; intro g cap w2 hown2 hgrow hat hlt2; have hbk2 : w2.heap[h]? = some (.cells #[.int .i64 L, .int .i64 U, tv, fv, .slice A n c] 67 (0, 0)) := (by exact blk_grown (blk_drew (blk_alloc hblk _)) hgrow (Ne.symm hne)); have he0 := cell_of_blk (i := 4) hbk2 rfl; have hef := free_of_blk (i := 4) hbk2; have hel := blk_lt hbk2))
 all_goals
  have hw1 := HW1.out
  have hgg : (w2.setCell ⟨h, 4, none⟩ (.slice (some ⟨g, 0, none⟩) (n + 1) cap)).heap[h]? = some (.cells #[.int .i64 L, .int .i64 U, tv, fv, .slice (some ⟨g, 0, none⟩) (n + 1) cap] 67 (0, 0)) := blk_set hbk2 _
  have hq5 := cell_of_blk (i := 4) hgg rfl
  go_wp2
  go_ret
  refine ⟨g, cap, rfl, hgg, own_set hown2 hbk2 (by decide) _, ?_, ?_⟩
  ·exact (((((Fr.of_below HWB.out (h :: (Value.slice A n c).ownBlock.toList)).alloc _).drew).grown hgrow fun k hk => .inl (by rw [hk]; simp))).set _ (.inl (by simp))
  ·exact hat.imp id fun e => by have := HWB.out.size; omega
theorem info_fns : (Tryz.prog.info? 79).map (fun i => (i.zero, i.size, i.bytes)) = some (some (.agg #[.int .i64 0, .slice none 0 0, .int .i64 0, .int .i64 0, .string ByteArray.empty, .int .u64 0, .int .i64 0, .slice none 0 0, .slice none 0 0, .int .i64 0, .bool false]), 11, 144) := by kernel_rfl
set_option maxRecDepth 100000 in
theorem add_fns {w : World} {B h : Nat} {L U : Int} {tv cv : Value} {A : Option Addr} {n c : Nat} {xs : List Value} (hh : w.heap[h]? = some (.cells #[.int .i64 L, .int .i64 U, tv, .slice A n c, cv] 67 (0, 0))) (ho : w.ownsRow B 79 11 (.slice A n c) n xs) (hn : n ≤ 1000000) (hB : B ≤ w.heap.size) (f : FnS) :
  Calls Tryz.prog 95 #[.pointer (some ⟨h, 3, none⟩), .agg #[.int .i64 f.pr, .slice f.A f.n f.c, .int .i64 f.x.kind, .int .i64 f.x.n, .string f.x.s, .int .u64 (f.x.label : Int), .int .i64 f.ty.kind, .slice f.ty.A f.ty.ns.length f.ty.c, .slice f.ty.A2 f.ty.xs.length f.ty.c2, .int .i64 f.ca, .bool f.wr]] w fun e w' => ∃ g cap, e = .returned (.int .i64 (n : Int)) ∧ w'.heap[h]? = some (.cells #[.int .i64 L, .int .i64 U, tv, .slice (some ⟨g, 0, none⟩) (n + 1) cap, cv] 67 (0, 0)) ∧ w'.ownsRow B 79 11 (.slice (some ⟨g, 0, none⟩) (n + 1) cap) (n + 1) (xs ++ (fnEnc f)) ∧ Fr (h :: (Value.slice A n c).ownBlock.toList) w w' ∧ ((Value.slice A n c).ownBlock = some g ∨ w.heap.size ≤ g) := by
 obtain ⟨i0, hi, hz0, hz1, hz2⟩ := info_parts info_fns
 obtain ⟨b, hb⟩ : ∃ b, b = w.heap.size := ⟨_, rfl⟩
 have HBE := Lib.hid hb
 have H0 := Lib.hid hh
 have O0 := Lib.hid ho
 have HBB := Lib.hid hB
 clear hb hh ho hB
 have hw1 : IntKind.wrap .i64 (((n + 1 : Nat) : Int) - 1) = (n : Int) := by rw [IntKind.wrap_i64]; omega
 have HW1 := Lib.hid hw1
 clear hw1
 go_enter Tryz.func95, Tryz.ntmps95
 go_upto_region 1 with fail
 rw [← HBE.out]
 refine gen_wp fun W hW => ?_
 have hWb : Below w.heap.size w W := by rw [← hW]; exact (Below.refl _ _).alloc (Nat.le_refl _) _
 have hown : W.ownsRow B 79 11 (.slice A n c) n xs := by rw [← hW]; exact O0.out.alloc _
 have hblk : W.heap[h]? = some (.cells #[.int .i64 L, .int .i64 U, tv, .slice A n c, cv] 67 (0, 0)) := by rw [← hW]; exact blk_alloc H0.out _
 have hbox : W.heap[b]? = some (.cells #[.int .i64 f.pr, .slice f.A f.n f.c, .int .i64 f.x.kind, .int .i64 f.x.n, .string f.x.s, .int .u64 (f.x.label : Int), .int .i64 f.ty.kind, .slice f.ty.A f.ty.ns.length f.ty.c, .slice f.ty.A2 f.ty.xs.length f.ty.c2, .int .i64 f.ca, .bool f.wr] 79 (0, 0)) := by rw [← hW, HBE.out]; exact heap_new_at _ _ _ (by first | rfl | simp)
 have hBW : B ≤ W.heap.size := Nat.le_trans HBB.out hWb.size
 have HWB := Lib.hid hWb
 clear hW hWb
 have hne := own_blk_ne hown hblk (by decide)
 obtain ⟨q0, q1, q2, q3, q4, qf0, qf1, qf2, qf3, qf4, ql⟩ := blk_5 hblk
 have r0 : W.cell? ⟨b, 0, none⟩ = some (.int .i64 f.pr) := cell_of_blk hbox rfl
 have r1 : W.cell? ⟨b, 1, none⟩ = some (.slice f.A f.n f.c) := cell_of_blk hbox rfl
 have r2 : W.cell? ⟨b, 2, none⟩ = some (.int .i64 f.x.kind) := cell_of_blk hbox rfl
 have r3 : W.cell? ⟨b, 3, none⟩ = some (.int .i64 f.x.n) := cell_of_blk hbox rfl
 have r4 : W.cell? ⟨b, 4, none⟩ = some (.string f.x.s) := cell_of_blk hbox rfl
 have r5 : W.cell? ⟨b, 5, none⟩ = some (.int .u64 (f.x.label : Int)) := cell_of_blk hbox rfl
 have r6 : W.cell? ⟨b, 6, none⟩ = some (.int .i64 f.ty.kind) := cell_of_blk hbox rfl
 have r7 : W.cell? ⟨b, 7, none⟩ = some (.slice f.ty.A f.ty.ns.length f.ty.c) := cell_of_blk hbox rfl
 have r8 : W.cell? ⟨b, 8, none⟩ = some (.slice f.ty.A2 f.ty.xs.length f.ty.c2) := cell_of_blk hbox rfl
 have r9 : W.cell? ⟨b, 9, none⟩ = some (.int .i64 f.ca) := cell_of_blk hbox rfl
 have r10 : W.cell? ⟨b, 10, none⟩ = some (.bool f.wr) := cell_of_blk hbox rfl
 have rl := blk_lt hbox
 go_wp2_with fail
 go_region_law ((refine step_append_lies _ (by rfl) _ _ _ (by rfl) B 79 i0 (.agg #[.int .i64 0, .slice none 0 0, .int .i64 0, .int .i64 0, .string ByteArray.empty, .int .u64 0, .int .i64 0, .slice none 0 0, .slice none 0 0, .int .i64 0, .bool false]) 11 144 Tryz.underlying42 hi hz0 hz1 hz2 rfl (by omega) (.slice A n c) n xs (by rfl) (by exact hown.alloc _) ⟨W.heap.size, 0, none⟩ 1 1 (fnEnc f) (by rfl) (by rfl) (by exact news_drew _ #[.int .i64 f.pr, .slice f.A f.n f.c, .int .i64 f.x.kind, .int .i64 f.x.n, .string f.x.s, .int .u64 (f.x.label : Int), .int .i64 f.ty.kind, .slice f.ty.A f.ty.ns.length f.ty.c, .slice f.ty.A2 f.ty.xs.length f.ty.c2, .int .i64 f.ca, .bool f.wr] _ _ (by simp)) (by simp [fnEnc, vvE, Value.oneCell']) (by omega) (by unfold maxLen; omega) (by omega) (by simp; omega) (W.heap.size + 1) (by simp) ?_; intro g cap w2 hown2 hgrow hat hlt2; have hbk2 : w2.heap[h]? = some (.cells #[.int .i64 L, .int .i64 U, tv, .slice A n c, cv] 67 (0, 0)) := (by exact blk_grown (blk_drew (blk_alloc hblk _)) hgrow (Ne.symm hne)); have he0 := cell_of_blk (i := 3) hbk2 rfl; have hef := free_of_blk (i := 3) hbk2; have hel := blk_lt hbk2))
 all_goals
  have hw1 := HW1.out
  have hgg : (w2.setCell ⟨h, 3, none⟩ (.slice (some ⟨g, 0, none⟩) (n + 1) cap)).heap[h]? = some (.cells #[.int .i64 L, .int .i64 U, tv, .slice (some ⟨g, 0, none⟩) (n + 1) cap, cv] 67 (0, 0)) := blk_set hbk2 _
  have hq5 := cell_of_blk (i := 3) hgg rfl
  go_wp2
  go_ret
  refine ⟨g, cap, rfl, hgg, own_set hown2 hbk2 (by decide) _, ?_, ?_⟩
  ·exact (((((Fr.of_below HWB.out (h :: (Value.slice A n c).ownBlock.toList)).alloc _).drew).grown hgrow fun k hk => .inl (by rw [hk]; simp))).set _ (.inl (by simp))
  ·exact hat.imp id fun e => by have := HWB.out.size; omega

theorem fn_len (f : FnS) : (fnEnc f).length = 11 := rfl
theorem vv_len (x : VV) : (vvE x).length = 4 := rfl
theorem fn_one (f : FnS) : (fnEnc f).toArray.all (·.oneCell') = true := by
 refine all_oneCell_toArray fun v hv => ?_
 unfold fnEnc at hv
 simp only [List.mem_cons, List.not_mem_nil, or_false] at hv
 rcases hv with rfl | rfl | rfl | rfl | rfl | rfl | rfl | rfl | rfl | rfl | rfl <;> rfl
theorem vv_one (x : VV) : (vvE x).toArray.all (·.oneCell') = true := by
 refine all_oneCell_toArray fun v hv => ?_
 unfold vvE at hv
 simp only [List.mem_cons, List.not_mem_nil, or_false] at hv
 rcases hv with rfl | rfl | rfl | rfl <;> rfl
theorem size_fn : (Tryz.prog.info? 79).map (·.size) = some 11 := by kernel_rfl
theorem size_vv : (Tryz.prog.info? 26).map (·.size) = some 4 := by kernel_rfl
set_option maxRecDepth 100000 in
theorem at_cel_none {w : World} {B h : Nat} {L U : Int} {tv fv : Value} {A : Option Addr} {n c : Nat} {xs : List VV} (hh : w.heap[h]? = some (.cells #[.int .i64 L, .int .i64 U, tv, fv, .slice A n c] 67 (0, 0))) (ho : w.ownsRow B 26 4 (.slice A n c) n (xs.flatMap vvE)) (hx : xs.length = n) (hn : n ≤ 1000000) (k : Int) (hk : k < 0 ∨ (n : Int) ≤ k) :
  Calls Tryz.prog 70 #[.pointer (some ⟨h, 4, none⟩), .int .i64 k] w (RetB (.tuple #[.agg #[.int .i64 0, .int .i64 0, .string ⟨#[]⟩, .int .u64 0], .bool false]) w) := by
 obtain ⟨q0, q1, q2, q3, q4, qf0, qf1, qf2, qf3, qf4, ql⟩ := blk_5 hh
 clear hh ho
 have hw0 : Below w.heap.size w (w.alloc (.cells #[.int .i64 0, .int .i64 0, .string ⟨#[]⟩, .int .u64 0] 26)) := (Below.refl _ _).alloc (Nat.le_refl _) _
 by_cases h0 : k < 0
 all_goals
  have hge : k < 0 ∨ k ≥ (n : Int) := hk
  try have hge2 : k ≥ (n : Int) := hk.resolve_left h0
  go_enter Tryz.func70, Tryz.ntmps70
  go_upto_region 2 with fail
  obtain ⟨b, hb⟩ : ∃ b, b = w.heap.size := ⟨_, rfl⟩
  rw [← hb]
  refine gen_wp fun W hW => ?_
  have HR := Lib.hid (show W.heap[b]? = some (.cells #[.int .i64 0, .int .i64 0, .string ⟨#[]⟩, .int .u64 0] 26 (0, 0)) by rw [← hW, hb]; exact heap_new_at _ _ _ (by first | rfl | simp))
  have HW := Lib.hid (show Below w.heap.size w W by rw [← hW]; exact (Below.refl _ _).alloc (Nat.le_refl _) _)
  have HB := Lib.hid (show w.heap.size ≤ b by omega)
  clear hW hb hw0
  go_upto_region 3 with fail
  refine gen_wp fun U hU => ?_
  have HR2 := Lib.hid (show U.heap[b]? = some (.cells #[.int .i64 0, .int .i64 0, .string ⟨#[]⟩, .int .u64 0] 26 (0, 0)) by rw [← hU]; exact blk_alloc HR.out _)
  have HRN := Lib.hid (show U.heap[W.heap.size]? = some (.cells #[.int .i64 0, .int .i64 0, .string ⟨#[]⟩, .int .u64 0] 26 (0, 0)) by rw [← hU]; exact heap_new_at _ _ _ (by first | rfl | simp))
  have HU := Lib.hid (show Below w.heap.size w U by rw [← hU]; exact HW.out.alloc HW.out.size _)
  clear hU
  obtain ⟨b2, hb2⟩ : ∃ b, b = W.heap.size := ⟨_, rfl⟩
  rw [← hb2]
  have HRM := Lib.hid (show U.heap[b2]? = some (.cells #[.int .i64 0, .int .i64 0, .string ⟨#[]⟩, .int .u64 0] 26 (0, 0)) by rw [hb2]; exact HRN.out)
  clear hb2
  obtain ⟨r0, r1, r2, r3, rf0, rf1, rf2, rf3, rl⟩ := blk_4 HR2.out
  obtain ⟨s0, s1, s2, s3, sf0, sf1, sf2, sf3, sl⟩ := blk_4 HRM.out
  go_wp2
  obtain ⟨j0, j1, j2, j3⟩ := four HR2.out rfl (.int .i64 0) (.int .i64 0) (.string ⟨#[]⟩) (.int .u64 0)
  refine bodyPost_ret (v := .tuple #[.agg #[.int .i64 0, .int .i64 0, .string ⟨#[]⟩, .int .u64 0], .bool false]) (by simp [results, Tryz.results70, go_sem, j0, j1, j2, j3]) rfl ?_
  exact ⟨rfl, (Below.setCell (p := ⟨b, 3, none⟩) (Below.setCell (p := ⟨b, 2, none⟩) (Below.setCell (p := ⟨b, 1, none⟩) (Below.setCell (p := ⟨b, 0, none⟩) HU.out HB.out (.int .i64 0)) HB.out (.int .i64 0)) HB.out (.string ⟨#[]⟩)) HB.out (.int .u64 0))⟩
set_option maxRecDepth 100000 in
theorem at_cel_some {w : World} {B h : Nat} {L U : Int} {tv fv : Value} {A : Option Addr} {n c : Nat} {xs : List VV} (hh : w.heap[h]? = some (.cells #[.int .i64 L, .int .i64 U, tv, fv, .slice A n c] 67 (0, 0))) (ho : w.ownsRow B 26 4 (.slice A n c) n (xs.flatMap vvE)) (hx : xs.length = n) (hn : n ≤ 1000000) {x : VV} {j : Nat} (hj : xs[j]? = some x) :
  Calls Tryz.prog 70 #[.pointer (some ⟨h, 4, none⟩), .int .i64 (j : Int)] w (RetB (.tuple #[.agg #[.int .i64 x.kind, .int .i64 x.n, .string x.s, .int .u64 (x.label : Int)], .bool true]) w) := by
 obtain ⟨q0, q1, q2, q3, q4, qf0, qf1, qf2, qf3, qf4, ql⟩ := blk_5 hh
 have hlt : (j : Int) < (n : Int) := by have := (List.getElem?_eq_some_iff.1 hj).1; omega
 have hlt2 : ¬ ((j : Int) ≥ (n : Int)) := by omega
 have hj0 : ¬ (j : Int) < 0 := by omega
 obtain ⟨A', c', e, _, _, hf⟩ := own_form ho
 injection e with e1 e2 e3
 subst e1
 obtain ⟨gb, rfl, _, hltb, _, hc⟩ := hf (by omega)
 have hcs := elem_cells (w := w) (ad := ⟨gb, 0, none⟩) (K := 4) vv_len (fun j u hu => by rw [Addr.add_mid, Nat.zero_add]; exact hc j u hu) hj
 have HCS := Lib.hid (show ∀ (W : World), Below w.heap.size w W → ∀ i v, (vvE x)[i]? = some v → W.cell? ((⟨gb, j * 4, none⟩ : Addr).add i) = some v from fun W hb i v hv => (hb.cell (by rw [block_add']; exact hltb)).trans (by have := hcs i v hv; rwa [Addr.add_mid, Nat.zero_add] at this))
 clear hh ho hf hc hcs
 go_enter Tryz.func70, Tryz.ntmps70
 go_wp2_with (first | ((with_reducible (show wpList _ _ _ (_ :: _) _ _)); refine wpList_load_addr rfl 26 _ rfl _ rfl (vvE x) _ (HCS.out _ ((Below.refl _ _).alloc (Nat.le_refl _) _)) Tryz.underlying26 rfl size_vv ?_) | ((with_reducible (show wpList _ _ _ (_ :: _) _ _)); refine wpList_store_new rfl 26 _ _ rfl _ (vvE x).toArray rfl rfl size_vv rfl (vv_one x) ?_))
 have hR := heap_new_at w (.cells (vvE x).toArray 26) w.heap.size rfl
 have j0 : (w.alloc (.cells (vvE x).toArray 26)).cell? ⟨w.heap.size, 0, none⟩ = some (.int .i64 x.kind) := cell_of_blk hR rfl
 have j1 : (w.alloc (.cells (vvE x).toArray 26)).cell? ⟨w.heap.size, 1, none⟩ = some (.int .i64 x.n) := cell_of_blk hR rfl
 have j2 : (w.alloc (.cells (vvE x).toArray 26)).cell? ⟨w.heap.size, 2, none⟩ = some (.string x.s) := cell_of_blk hR rfl
 have j3 : (w.alloc (.cells (vvE x).toArray 26)).cell? ⟨w.heap.size, 3, none⟩ = some (.int .u64 (x.label : Int)) := cell_of_blk hR rfl
 go_wp2
 refine bodyPost_ret (v := .tuple #[.agg #[.int .i64 x.kind, .int .i64 x.n, .string x.s, .int .u64 (x.label : Int)], .bool true]) (by simp [results, Tryz.results70, go_sem, j0, j1, j2, j3]) rfl ?_
 exact ⟨rfl, (Below.refl _ _).alloc (Nat.le_refl _) _⟩
set_option maxRecDepth 100000 in
theorem at_fns_none {w : World} {B h : Nat} {L U : Int} {tv cv : Value} {A : Option Addr} {n c : Nat} {xs : List FnS} (hh : w.heap[h]? = some (.cells #[.int .i64 L, .int .i64 U, tv, .slice A n c, cv] 67 (0, 0))) (ho : w.ownsRow B 79 11 (.slice A n c) n (xs.flatMap fnEnc)) (hx : xs.length = n) (hn : n ≤ 1000000) (k : Int) (hk : k < 0 ∨ (n : Int) ≤ k) :
  Calls Tryz.prog 65 #[.pointer (some ⟨h, 3, none⟩), .int .i64 k] w (RetB (.tuple #[.agg #[.int .i64 0, .slice none 0 0, .int .i64 0, .int .i64 0, .string ⟨#[]⟩, .int .u64 0, .int .i64 0, .slice none 0 0, .slice none 0 0, .int .i64 0, .bool false], .bool false]) w) := by
 obtain ⟨q0, q1, q2, q3, q4, qf0, qf1, qf2, qf3, qf4, ql⟩ := blk_5 hh
 clear hh ho
 have hw0 : Below w.heap.size w (w.alloc (.cells #[.int .i64 0, .slice none 0 0, .int .i64 0, .int .i64 0, .string ⟨#[]⟩, .int .u64 0, .int .i64 0, .slice none 0 0, .slice none 0 0, .int .i64 0, .bool false] 79)) := (Below.refl _ _).alloc (Nat.le_refl _) _
 by_cases h0 : k < 0
 all_goals
  have hge : k < 0 ∨ k ≥ (n : Int) := hk
  try have hge2 : k ≥ (n : Int) := hk.resolve_left h0
  go_enter Tryz.func65, Tryz.ntmps65
  go_upto_region 2 with fail
  obtain ⟨b, hb⟩ : ∃ b, b = w.heap.size := ⟨_, rfl⟩
  rw [← hb]
  refine gen_wp fun W hW => ?_
  have HR := Lib.hid (show W.heap[b]? = some (.cells #[.int .i64 0, .slice none 0 0, .int .i64 0, .int .i64 0, .string ⟨#[]⟩, .int .u64 0, .int .i64 0, .slice none 0 0, .slice none 0 0, .int .i64 0, .bool false] 79 (0, 0)) by rw [← hW, hb]; exact heap_new_at _ _ _ (by first | rfl | simp))
  have HW := Lib.hid (show Below w.heap.size w W by rw [← hW]; exact (Below.refl _ _).alloc (Nat.le_refl _) _)
  have HB := Lib.hid (show w.heap.size ≤ b by omega)
  clear hW hb hw0
  go_upto_region 3 with fail
  refine gen_wp fun U hU => ?_
  have HR2 := Lib.hid (show U.heap[b]? = some (.cells #[.int .i64 0, .slice none 0 0, .int .i64 0, .int .i64 0, .string ⟨#[]⟩, .int .u64 0, .int .i64 0, .slice none 0 0, .slice none 0 0, .int .i64 0, .bool false] 79 (0, 0)) by rw [← hU]; exact blk_alloc HR.out _)
  have HRN := Lib.hid (show U.heap[W.heap.size]? = some (.cells #[.int .i64 0, .slice none 0 0, .int .i64 0, .int .i64 0, .string ⟨#[]⟩, .int .u64 0, .int .i64 0, .slice none 0 0, .slice none 0 0, .int .i64 0, .bool false] 79 (0, 0)) by rw [← hU]; exact heap_new_at _ _ _ (by first | rfl | simp))
  have HU := Lib.hid (show Below w.heap.size w U by rw [← hU]; exact HW.out.alloc HW.out.size _)
  clear hU
  obtain ⟨b2, hb2⟩ : ∃ b, b = W.heap.size := ⟨_, rfl⟩
  rw [← hb2]
  have HRM := Lib.hid (show U.heap[b2]? = some (.cells #[.int .i64 0, .slice none 0 0, .int .i64 0, .int .i64 0, .string ⟨#[]⟩, .int .u64 0, .int .i64 0, .slice none 0 0, .slice none 0 0, .int .i64 0, .bool false] 79 (0, 0)) by rw [hb2]; exact HRN.out)
  clear hb2
  obtain ⟨r0, r1, r2, r3, r4, r5, r6, r7, r8, r9, r10, rf0, rf1, rf2, rf3, rf4, rf5, rf6, rf7, rf8, rf9, rf10, rl⟩ := blk_11 HR2.out
  obtain ⟨s0, s1, s2, s3, s4, s5, s6, s7, s8, s9, s10, sf0, sf1, sf2, sf3, sf4, sf5, sf6, sf7, sf8, sf9, sf10, sl⟩ := blk_11 HRM.out
  go_wp2
  obtain ⟨j0, j1, j2, j3, j4, j5, j6, j7, j8, j9, j10⟩ := eleven HR2.out rfl (.int .i64 0) (.slice none 0 0) (.int .i64 0) (.int .i64 0) (.string ⟨#[]⟩) (.int .u64 0) (.int .i64 0) (.slice none 0 0) (.slice none 0 0) (.int .i64 0) (.bool false)
  refine bodyPost_ret (v := .tuple #[.agg #[.int .i64 0, .slice none 0 0, .int .i64 0, .int .i64 0, .string ⟨#[]⟩, .int .u64 0, .int .i64 0, .slice none 0 0, .slice none 0 0, .int .i64 0, .bool false], .bool false]) (by simp [results, Tryz.results65, go_sem, j0, j1, j2, j3, j4, j5, j6, j7, j8, j9, j10]) rfl ?_
  exact ⟨rfl, (Below.setCell (p := ⟨b, 10, none⟩) (Below.setCell (p := ⟨b, 9, none⟩) (Below.setCell (p := ⟨b, 8, none⟩) (Below.setCell (p := ⟨b, 7, none⟩) (Below.setCell (p := ⟨b, 6, none⟩) (Below.setCell (p := ⟨b, 5, none⟩) (Below.setCell (p := ⟨b, 4, none⟩) (Below.setCell (p := ⟨b, 3, none⟩) (Below.setCell (p := ⟨b, 2, none⟩) (Below.setCell (p := ⟨b, 1, none⟩) (Below.setCell (p := ⟨b, 0, none⟩) HU.out HB.out (.int .i64 0)) HB.out (.slice none 0 0)) HB.out (.int .i64 0)) HB.out (.int .i64 0)) HB.out (.string ⟨#[]⟩)) HB.out (.int .u64 0)) HB.out (.int .i64 0)) HB.out (.slice none 0 0)) HB.out (.slice none 0 0)) HB.out (.int .i64 0)) HB.out (.bool false))⟩
set_option maxRecDepth 100000 in
theorem at_fns_some {w : World} {B h : Nat} {L U : Int} {tv cv : Value} {A : Option Addr} {n c : Nat} {xs : List FnS} (hh : w.heap[h]? = some (.cells #[.int .i64 L, .int .i64 U, tv, .slice A n c, cv] 67 (0, 0))) (ho : w.ownsRow B 79 11 (.slice A n c) n (xs.flatMap fnEnc)) (hx : xs.length = n) (hn : n ≤ 1000000) {f : FnS} {j : Nat} (hj : xs[j]? = some f) :
  Calls Tryz.prog 65 #[.pointer (some ⟨h, 3, none⟩), .int .i64 (j : Int)] w (RetB (.tuple #[.agg #[.int .i64 f.pr, .slice f.A f.n f.c, .int .i64 f.x.kind, .int .i64 f.x.n, .string f.x.s, .int .u64 (f.x.label : Int), .int .i64 f.ty.kind, .slice f.ty.A f.ty.ns.length f.ty.c, .slice f.ty.A2 f.ty.xs.length f.ty.c2, .int .i64 f.ca, .bool f.wr], .bool true]) w) := by
 obtain ⟨q0, q1, q2, q3, q4, qf0, qf1, qf2, qf3, qf4, ql⟩ := blk_5 hh
 have hlt : (j : Int) < (n : Int) := by have := (List.getElem?_eq_some_iff.1 hj).1; omega
 have hlt2 : ¬ ((j : Int) ≥ (n : Int)) := by omega
 have hj0 : ¬ (j : Int) < 0 := by omega
 obtain ⟨A', c', e, _, _, hf⟩ := own_form ho
 injection e with e1 e2 e3
 subst e1
 obtain ⟨gb, rfl, _, hltb, _, hc⟩ := hf (by omega)
 have hcs := elem_cells (w := w) (ad := ⟨gb, 0, none⟩) (K := 11) fn_len (fun j u hu => by rw [Addr.add_mid, Nat.zero_add]; exact hc j u hu) hj
 have HCS := Lib.hid (show ∀ (W : World), Below w.heap.size w W → ∀ i v, (fnEnc f)[i]? = some v → W.cell? ((⟨gb, j * 11, none⟩ : Addr).add i) = some v from fun W hb i v hv => (hb.cell (by rw [block_add']; exact hltb)).trans (by have := hcs i v hv; rwa [Addr.add_mid, Nat.zero_add] at this))
 clear hh ho hf hc hcs
 go_enter Tryz.func65, Tryz.ntmps65
 go_wp2_with (first | ((with_reducible (show wpList _ _ _ (_ :: _) _ _)); refine wpList_load_addr rfl 79 _ rfl _ rfl (fnEnc f) _ (HCS.out _ ((Below.refl _ _).alloc (Nat.le_refl _) _)) Tryz.underlying79 rfl size_fn ?_) | ((with_reducible (show wpList _ _ _ (_ :: _) _ _)); refine wpList_store_new rfl 79 _ _ rfl _ (fnEnc f).toArray rfl rfl size_fn rfl (fn_one f) ?_))
 have hR := heap_new_at w (.cells (fnEnc f).toArray 79) w.heap.size rfl
 have j0 : (w.alloc (.cells (fnEnc f).toArray 79)).cell? ⟨w.heap.size, 0, none⟩ = some (.int .i64 f.pr) := cell_of_blk hR rfl
 have j1 : (w.alloc (.cells (fnEnc f).toArray 79)).cell? ⟨w.heap.size, 1, none⟩ = some (.slice f.A f.n f.c) := cell_of_blk hR rfl
 have j2 : (w.alloc (.cells (fnEnc f).toArray 79)).cell? ⟨w.heap.size, 2, none⟩ = some (.int .i64 f.x.kind) := cell_of_blk hR rfl
 have j3 : (w.alloc (.cells (fnEnc f).toArray 79)).cell? ⟨w.heap.size, 3, none⟩ = some (.int .i64 f.x.n) := cell_of_blk hR rfl
 have j4 : (w.alloc (.cells (fnEnc f).toArray 79)).cell? ⟨w.heap.size, 4, none⟩ = some (.string f.x.s) := cell_of_blk hR rfl
 have j5 : (w.alloc (.cells (fnEnc f).toArray 79)).cell? ⟨w.heap.size, 5, none⟩ = some (.int .u64 (f.x.label : Int)) := cell_of_blk hR rfl
 have j6 : (w.alloc (.cells (fnEnc f).toArray 79)).cell? ⟨w.heap.size, 6, none⟩ = some (.int .i64 f.ty.kind) := cell_of_blk hR rfl
 have j7 : (w.alloc (.cells (fnEnc f).toArray 79)).cell? ⟨w.heap.size, 7, none⟩ = some (.slice f.ty.A f.ty.ns.length f.ty.c) := cell_of_blk hR rfl
 have j8 : (w.alloc (.cells (fnEnc f).toArray 79)).cell? ⟨w.heap.size, 8, none⟩ = some (.slice f.ty.A2 f.ty.xs.length f.ty.c2) := cell_of_blk hR rfl
 have j9 : (w.alloc (.cells (fnEnc f).toArray 79)).cell? ⟨w.heap.size, 9, none⟩ = some (.int .i64 f.ca) := cell_of_blk hR rfl
 have j10 : (w.alloc (.cells (fnEnc f).toArray 79)).cell? ⟨w.heap.size, 10, none⟩ = some (.bool f.wr) := cell_of_blk hR rfl
 go_wp2
 refine bodyPost_ret (v := .tuple #[.agg #[.int .i64 f.pr, .slice f.A f.n f.c, .int .i64 f.x.kind, .int .i64 f.x.n, .string f.x.s, .int .u64 (f.x.label : Int), .int .i64 f.ty.kind, .slice f.ty.A f.ty.ns.length f.ty.c, .slice f.ty.A2 f.ty.xs.length f.ty.c2, .int .i64 f.ca, .bool f.wr], .bool true]) (by simp [results, Tryz.results65, go_sem, j0, j1, j2, j3, j4, j5, j6, j7, j8, j9, j10]) rfl ?_
 exact ⟨rfl, (Below.refl _ _).alloc (Nat.le_refl _) _⟩

def PaidOut (h : Nat) (L U n : Int) (tv fv cv : Value) (vs : Array Value) (Q : World → World → Prop) (w : World) (e : Ending) (w' : World) : Prop :=
 (max n 0 > L - U ∧ e = .returned (.tuple #[.agg #[.int .i64 0, .int .i64 0, .string ⟨#[]⟩, .int .u64 0], .bool false]) ∧ Below w.heap.size w w') ∨
 (max n 0 ≤ L - U ∧ e = .returned (.tuple #[.agg vs, .bool true]) ∧ ∃ b w1 w2, w.heap.size ≤ b ∧ b < w1.heap.size ∧ Fr [h] w w1 ∧ w1.heap[h]? = some (.cells #[.int .i64 L, .int .i64 (U + max n 0), tv, fv, cv] 67 (0, 0)) ∧ Q w1 w2 ∧ Fr [b] w2 w')
theorem hmf_ : ∀ (fn : Fn) (first cap : Array Value) (w : World), (Instr.makeFunc fn first cap).run Tryz.prog w = .ok (.func fn first cap) w := fun _ _ _ _ => rfl
theorem fr_sets {w : World} {b : Nat} (v0 v1 v2 v3 : Value) : Fr [b] w ((((w.setCell ⟨b, 0, none⟩ (v0)).setCell ⟨b, 1, none⟩ (v1)).setCell ⟨b, 2, none⟩ (v2)).setCell ⟨b, 3, none⟩ (v3)) := ((((Fr.refl [b] w).set _ (.inl (by simp))).set _ (.inl (by simp))).set _ (.inl (by simp))).set _ (.inl (by simp))
set_option maxRecDepth 100000 in
theorem hpaid_tab {w : World} {h b0 b1 : Nat} {L U : Int} {tv fv cv : Value} (n : Int) (K N : Int) (hh : w.heap[h]? = some (.cells #[.int .i64 L, .int .i64 U, tv, fv, cv] 67 (0, 0))) (h0 : 0 ≤ U) (h1 : U ≤ L) (h2 : L ≤ 9223372036854775807) (hn : n ≤ 9223372036854775807) (Q : World → World → Prop) (S : List Nat) (hS : ∀ x ∈ S, x < w.heap.size)
  (HC : ∀ w1, w1.heap[h]? = some (.cells #[.int .i64 L, .int .i64 (U + max n 0), tv, fv, cv] 67 (0, 0)) → Fr [h] w w1 → Calls Tryz.prog 54 #[.pointer (some ⟨b0, 0, none⟩), .pointer (some ⟨b1, 0, none⟩)] w1 fun e w' => e = .returned (.agg #[.int .i64 K, .int .i64 N, .string ⟨#[]⟩, .int .u64 0]) ∧ Q w1 w' ∧ Fr S w1 w') :
  Calls Tryz.prog 53 #[.pointer (some ⟨h, 0, none⟩), .int .i64 n, .func (.func 54) #[] #[.pointer (some ⟨b0, 0, none⟩), .pointer (some ⟨b1, 0, none⟩)]] w (PaidOut h L U n tv fv cv #[.int .i64 K, .int .i64 N, .string ⟨#[]⟩, .int .u64 0] Q w) := by
 obtain ⟨b, hb⟩ : ∃ b, b = w.heap.size := ⟨_, rfl⟩
 have HBE := Lib.hid hb
 have HX := Lib.hid (And.intro h0 (And.intro h1 (And.intro h2 hn)))
 have H0 := Lib.hid hh
 have HS := Lib.hid hS
 have HCL := Lib.hid HC
 have HL := Lib.hid (blk_lt hh)
 clear hb hh h0 h1 h2 hn hS HC
 go_enter Tryz.func53, Tryz.ntmps53
 go_upto_region 1 with fail
 rw [← HBE.out]
 refine gen_wp fun W hW => ?_
 have HR := Lib.hid (show W.heap[b]? = some (.cells #[.int .i64 0, .int .i64 0, .string ⟨#[]⟩, .int .u64 0] 26 (0, 0)) by rw [← hW, HBE.out]; exact heap_new_at _ _ _ (by first | rfl | simp))
 have HH := Lib.hid (show W.heap[h]? = some (.cells #[.int .i64 L, .int .i64 U, tv, fv, cv] 67 (0, 0)) by rw [← hW]; exact blk_alloc H0.out _)
 have HW := Lib.hid (show Below w.heap.size w W by rw [← hW]; exact (Below.refl _ _).alloc (Nat.le_refl _) _)
 clear hW
 go_wp2_with fail
 refine (hcharge_any n HH.out HX.out.1 HX.out.2.1 HX.out.2.2.1 HX.out.2.2.2).mono ?_
 rintro e w1 (⟨hr, rfl, hb1⟩ | ⟨hr, rfl, hh1, hf1⟩)
 ·have HR1 := Lib.hid (below_blk hb1 HR.out)
  have HW1 := Lib.hid (HW.out.trans (hb1.mono HW.out.size))
  have HRR := Lib.hid hr
  clear hb1 hr
  obtain ⟨r0, r1, r2, r3, rf0, rf1, rf2, rf3, rl⟩ := blk_4 HR1.out
  go_wp2
  obtain ⟨j0, j1, j2, j3⟩ := four HR1.out rfl (.int .i64 0) (.int .i64 0) (.string ⟨#[]⟩) (.int .u64 0)
  refine bodyPost_ret (v := .tuple #[.agg #[.int .i64 0, .int .i64 0, .string ⟨#[]⟩, .int .u64 0], .bool false]) (by simp [results, Tryz.results53, go_sem, j0, j1, j2, j3]) rfl ?_
  exact .inl ⟨HRR.out, rfl, (Below.setCell (p := ⟨b, 3, none⟩) (Below.setCell (p := ⟨b, 2, none⟩) (Below.setCell (p := ⟨b, 1, none⟩) (Below.setCell (p := ⟨b, 0, none⟩) HW1.out (Nat.le_of_eq HBE.out.symm) (.int .i64 0)) (Nat.le_of_eq HBE.out.symm) (.int .i64 0)) (Nat.le_of_eq HBE.out.symm) (.string ⟨#[]⟩)) (Nat.le_of_eq HBE.out.symm) (.int .u64 0))⟩
 ·have hF1 : Fr [h] w w1 := (Fr.of_below HW.out [h]).trans hf1 fun x hx => .inl hx
  have hne : b ≠ h := by have := HL.out; have := HBE.out; omega
  have HR1 := Lib.hid (hf1.blk HR.out (by simpa using hne))
  have HH1 := Lib.hid hh1
  have HF1 := Lib.hid hF1
  have HRR := Lib.hid hr
  clear hF1 hf1 hr hh1 hne
  go_wp2_with fail
  refine (HCL.out w1 HH1.out HF1.out).mono ?_
  rintro e w2 ⟨rfl, hq, hf2⟩
  have HR2 := Lib.hid (hf2.blk HR1.out (fun hm => by have := HS.out _ hm; have := HBE.out; omega))
  have HQ := Lib.hid hq
  clear hf2 hq
  obtain ⟨r0, r1, r2, r3, rf0, rf1, rf2, rf3, rl⟩ := blk_4 HR2.out
  go_wp2
  obtain ⟨j0, j1, j2, j3⟩ := four HR2.out rfl (.int .i64 K) (.int .i64 N) (.string ⟨#[]⟩) (.int .u64 0)
  refine bodyPost_ret (v := .tuple #[.agg #[.int .i64 K, .int .i64 N, .string ⟨#[]⟩, .int .u64 0], .bool true]) (by simp [results, Tryz.results53, go_sem, j0, j1, j2, j3]) rfl ?_
  exact .inr ⟨HRR.out, rfl, b, w1, w2, Nat.le_of_eq HBE.out.symm, blk_lt HR1.out, HF1.out, HH1.out, HQ.out, fr_sets _ _ _ _⟩

theorem tabMade_wrap {B h : Nat} {L U : Int} {fv cv : Value} {A : Option Addr} {n c : Nat} {xs : List Value} {l : Nat} {w w1 w2 w' : World} {R : List Nat} (hm : TabMade B h L U fv cv A n c xs l w1 w2) (hF : Fr [h] w w1) (hF2 : Fr R w2 w')
  (hR : ∀ x ∈ R, w.heap.size ≤ x ∧ x < w1.heap.size) (hh : h < w.heap.size) (ho : ∀ g, (Value.slice A n c).ownBlock = some g → g < w.heap.size) : TabMade B h L U fv cv A n c xs l w w' := by
 obtain ⟨g, cap, tb, fp, h1, h2, h3, h4, h5, h6⟩ := hm
 have hg : g ∉ R := fun hm => by
  have hr := hR g hm
  rcases h5 with e | e
  ·have := ho g e; omega
  ·omega
 refine ⟨g, cap, tb, fp, hF2.blk h1 (fun hm => ?_), hF2.own h2 (fun x hx => ?_), (tabIn_low h3 hF.size).kept hF2 (fun x hx hm => ?_), ?_, ?_, h6⟩
 ·have := (hR h hm).1; omega
 ·obtain rfl : g = x := by simpa [Value.ownBlock] using hx
  exact hg
 ·have := (h3.base x hx).1
  have := (hR x hm).2
  omega
 ·exact (((hF.more (S' := h :: (Value.slice A n c).ownBlock.toList) (fun x hx => .inl (by simp at hx; simp [hx]))).trans h4 (fun x hx => .inl hx))).trans hF2 fun x hx => .inr (hR x hx).1
 ·exact h5.imp id fun e => Nat.le_trans hF.size e
def TableOut (B h : Nat) (L U : Int) (fv cv : Value) (A : Option Addr) (n c : Nat) (xs : List Value) (l : Nat) (w : World) (e : Ending) (w' : World) : Prop :=
 (1 > L - U ∧ e = .returned (.tuple #[.agg #[.int .i64 0, .int .i64 0, .string ⟨#[]⟩, .int .u64 0], .bool false]) ∧ Below w.heap.size w w') ∨ (1 ≤ L - U ∧ e = .returned (.tuple #[newTabV n, .bool true]) ∧ TabMade B h L (U + 1) fv cv A n c xs l w w')
set_option maxRecDepth 100000 in
theorem htable_any {w : World} {B h : Nat} {L U : Int} {fv cv : Value} {A : Option Addr} {n c : Nat} {xs : List Value} (l : Nat) (hh : w.heap[h]? = some (.cells #[.int .i64 L, .int .i64 U, .slice A n c, fv, cv] 67 (0, 0))) (ho : w.ownsRow B 56 1 (.slice A n c) n xs) (hx : xs.length = n) (hn : n ≤ 1000000) (hB : B ≤ w.heap.size) (h0 : 0 ≤ U) (h1 : U ≤ L) (h2 : L ≤ 9223372036854775807) :
  Calls Tryz.prog 12 #[.pointer (some ⟨h, 0, none⟩), .int .u64 (l : Int)] w (TableOut B h L U fv cv A n c xs l w) := by
 have hmf := hmf_
 obtain ⟨b0, hb0⟩ : ∃ b, b = w.heap.size := ⟨_, rfl⟩
 obtain ⟨b1, hb1⟩ : ∃ b, b = w.heap.size + 1 := ⟨_, rfl⟩
 obtain ⟨b2, hb2⟩ : ∃ b, b = w.heap.size + 1 + 1 := ⟨_, rfl⟩
 have HE0 := Lib.hid hb0
 have HE1 := Lib.hid hb1
 have HE2 := Lib.hid hb2
 have HX := Lib.hid (And.intro h0 (And.intro h1 h2))
 have HY := Lib.hid (And.intro hx (And.intro hn hB))
 have HL := Lib.hid (blk_lt hh)
 have GL := Lib.hid (fun g (hg : (Value.slice A n c).ownBlock = some g) => (hp_own_lt ho hg).2)
 have H0 := Lib.hid hh
 have O0 := Lib.hid ho
 clear hb0 hb1 hb2 hh ho hx hn hB h0 h1 h2
 go_enter Tryz.func12, Tryz.ntmps12
 go_upto_region 1 with fail
 rw [← HE2.out, ← HE1.out, ← HE0.out]
 refine gen_wp fun W hW => ?_
 have HK0 := Lib.hid (show W.heap[b0]? = some (.cells #[.pointer (some ⟨h, 0, none⟩)] 36 (0, 0)) by rw [← hW, HE0.out]; exact blk_alloc (blk_alloc (heap_new_at _ _ _ (by first | rfl | simp)) _) _)
 have HK1 := Lib.hid (show W.heap[b1]? = some (.cells #[.int .u64 (l : Int)] 24 (0, 0)) by rw [← hW, HE1.out]; exact blk_alloc (heap_new_at _ _ _ (by first | rfl | simp)) _)
 have HR := Lib.hid (show W.heap[b2]? = some (.cells #[.int .i64 0, .int .i64 0, .string ⟨#[]⟩, .int .u64 0] 26 (0, 0)) by rw [← hW, HE2.out]; exact heap_new_at _ _ _ (by first | rfl | simp))
 have HH := Lib.hid (show W.heap[h]? = some (.cells #[.int .i64 L, .int .i64 U, .slice A n c, fv, cv] 67 (0, 0)) by rw [← hW]; exact blk_alloc (blk_alloc (blk_alloc H0.out _) _) _)
 have HO := Lib.hid (show W.ownsRow B 56 1 (.slice A n c) n xs by rw [← hW]; exact ((O0.out.alloc _).alloc _).alloc _)
 have HW := Lib.hid (show Below w.heap.size w W by rw [← hW]; exact (((Below.refl _ _).alloc (Nat.le_refl _) _).alloc (by simp) _).alloc (by simp; omega) _)
 have HLW := Lib.hid (show W.heap.size = w.heap.size + 3 by rw [← hW]; simp)
 clear hW
 have s0 : W.cell? ⟨b0, 0, none⟩ = some (.pointer (some ⟨h, 0, none⟩)) := cell_of_blk HK0.out rfl
 have sf0 := free_of_blk (i := 0) HK0.out
 have sl := blk_lt HK0.out
 obtain ⟨r0, r1, r2, r3, rf0, rf1, rf2, rf3, rl⟩ := blk_4 HR.out
 have GLW := Lib.hid (show ∀ x ∈ h :: (Value.slice A n c).ownBlock.toList, x < W.heap.size from fun x hx => by
  have := HW.out.size
  rcases List.mem_cons.1 hx with rfl | hx
  ·have := HL.out; omega
  ·have := GL.out x (by simpa using hx); omega)
 have HC := Lib.hid (hpaid_tab (b0 := b0) (b1 := b1) 1 4 (n : Int) HH.out HX.out.1 HX.out.2.1 HX.out.2.2 (by omega) (fun w1 w2 => TabMade B h L (U + max 1 0) fv cv A n c xs l w1 w2) (h :: (Value.slice A n c).ownBlock.toList) GLW.out fun w1 hh1 hf1 => by
  have hne0 : b0 ∉ [h] := by have := HL.out; have := HE0.out; simp; omega
  have hne1 : b1 ∉ [h] := by have := HL.out; have := HE1.out; simp; omega
  have ho1 := hf1.own HO.out fun g hg => by simpa using (Ne.symm (fun e => own_blk_ne HO.out HH.out (by decide) (by rw [hg, e])) : g ≠ h)
  refine (tab1_any l hh1 ho1 HY.out.1 HY.out.2.1 (Nat.le_trans HY.out.2.2 (Nat.le_trans HW.out.size hf1.size)) (hf1.blk HK0.out hne0) (hf1.blk HK1.out hne1)).mono ?_
  rintro e w2 ⟨he, hm⟩
  refine ⟨he, hm, ?_⟩
  obtain ⟨_, _, _, _, _, _, _, hfr, _⟩ := hm
  exact hfr)
 go_wp2_with fail
 refine HC.out.mono ?_
 rintro e w1 (⟨hr, rfl, hb1⟩ | ⟨hr, rfl, b, v1, v2, hb1, hb2, hf1, hh1, hq, hf2⟩)
 ·have HR1 := Lib.hid (below_blk hb1 HR.out)
  have HW1 := Lib.hid (HW.out.trans (hb1.mono HW.out.size))
  have HRR := Lib.hid hr
  clear hb1 hr
  obtain ⟨r0, r1, r2, r3, rf0, rf1, rf2, rf3, rl⟩ := blk_4 HR1.out
  go_wp2
  obtain ⟨j0, j1, j2, j3⟩ := four HR1.out rfl (.int .i64 0) (.int .i64 0) (.string ⟨#[]⟩) (.int .u64 0)
  refine bodyPost_ret (v := .tuple #[.agg #[.int .i64 0, .int .i64 0, .string ⟨#[]⟩, .int .u64 0], .bool false]) (by simp [results, Tryz.results12, go_sem, j0, j1, j2, j3]) rfl ?_
  exact .inl ⟨by have := HRR.out; omega, rfl, (Below.setCell (p := ⟨b2, 3, none⟩) (Below.setCell (p := ⟨b2, 2, none⟩) (Below.setCell (p := ⟨b2, 1, none⟩) (Below.setCell (p := ⟨b2, 0, none⟩) HW1.out (show w.heap.size ≤ b2 by have := HE2.out; omega) (.int .i64 0)) (show w.heap.size ≤ b2 by have := HE2.out; omega) (.int .i64 0)) (show w.heap.size ≤ b2 by have := HE2.out; omega) (.string ⟨#[]⟩)) (show w.heap.size ≤ b2 by have := HE2.out; omega) (.int .u64 0))⟩
 ·have hbn : b2 < b := by have := HE2.out; have := HLW.out; omega
  obtain ⟨g, cap, tb, fp, _, _, _, hfr, _⟩ := id hq
  have HR1 := Lib.hid (hf2.blk (hfr.blk (hf1.blk HR.out (by have := HL.out; have := HE2.out; simp; omega)) (fun hm => by
   have h3 : b2 < w.heap.size := by
    rcases List.mem_cons.1 hm with rfl | hm
    ·exact HL.out
    ·exact GL.out b2 (by simpa using hm)
   have := HE2.out
   omega)) (by simp; omega))
  have HB := Lib.hid (And.intro hb1 hb2)
  have HQ := Lib.hid hq
  have HF1 := Lib.hid hf1
  have HF2 := Lib.hid hf2
  have HRR := Lib.hid hr
  clear hb1 hb2 hq hf1 hf2 hr hh1 hfr hbn
  obtain ⟨r0, r1, r2, r3, rf0, rf1, rf2, rf3, rl⟩ := blk_4 HR1.out
  go_wp2
  obtain ⟨j0, j1, j2, j3⟩ := four HR1.out rfl (.int .i64 4) (.int .i64 (n : Int)) (.string ⟨#[]⟩) (.int .u64 0)
  refine bodyPost_ret (v := .tuple #[newTabV n, .bool true]) (by unfold newTabV; simp [results, Tryz.results12, go_sem, j0, j1, j2, j3]) rfl ?_
  refine .inr ⟨by have := HRR.out; omega, rfl, ?_⟩
  refine tabMade_wrap (R := [b, b2]) HQ.out ((Fr.of_below HW.out [h]).trans HF1.out fun x hx => .inl hx) (((HF2.out.more (S' := [b, b2]) (fun x hx => .inl (by simp at hx; simp [hx])))).trans (fr_sets _ _ _ _) fun x hx => .inl (by simp at hx; simp [hx])) ?_ HL.out GL.out
  intro x hx
  have h4 := HF1.out.size
  have h5 := HLW.out
  have h6 := HE2.out
  have h7 := HB.out
  simp at hx
  rcases hx with rfl | rfl
  ·exact ⟨by omega, h7.2⟩
  ·exact ⟨by omega, by omega⟩
end Go.Proofs.YtilcofpceadpbaaGreatDoor
namespace Go.Proofs.YtilcofpceadpbaaGreatDoor
open Go.ChangeShapes Go.WideShapes Go.ChangeAt Go.RowKit Go.Maps

structure HpS where
 L : Int
 U : Int
 T : List TabS
 F : List FnS
 C : List VV
structure HpD where
 A1 : Option Addr
 A2 : Option Addr
 A3 : Option Addr
 c1 : Nat
 c2 : Nat
 c3 : Nat
 ps : List Nat
 fps : List (List Nat)
def aB (A : Option Addr) : List Nat := (A.map (·.block)).toList
theorem ownB (A : Option Addr) (n c : Nat) : (Value.slice A n c).ownBlock.toList = aB A := by cases A <;> rfl
theorem mem_aB {A : Option Addr} {n c g : Nat} (h : (Value.slice A n c).ownBlock = some g) : g ∈ aB A := by rw [← ownB A n c, h]; simp
theorem aB_own {A : Option Addr} {n c g : Nat} (h : g ∈ aB A) : (Value.slice A n c).ownBlock = some g := by rw [← ownB A n c] at h; simpa using h
def fpF (F : List FnS) : List Nat := F.flatMap fun f => aB f.A
def HpD.fp (d : HpD) (h : Nat) (F : List FnS) : List Nat := h :: (aB d.A1 ++ (aB d.A2 ++ (aB d.A3 ++ (d.fps.flatten ++ fpF F))))
structure FnIn (w : World) (B N : Nat) (f : FnS) : Prop where
 cells : ∃ cs : List Int, cs.length = f.n ∧ w.ownsRow B 3 1 (.slice f.A f.n f.c) f.n (cs.map (.int .i64 ·))
 ty : LIn w N f.ty
 len : f.n * 8 ≤ 140737488351232
structure HpAt (w : World) (B N h : Nat) (s : HpS) (d : HpD) : Prop where
 blk : w.heap[h]? = some (.cells #[.int .i64 s.L, .int .i64 s.U, .slice d.A1 s.T.length d.c1, .slice d.A2 s.F.length d.c2, .slice d.A3 s.C.length d.c3] 67 (0, 0))
 o1 : w.ownsRow B 56 1 (.slice d.A1 s.T.length d.c1) s.T.length (ptrs d.ps)
 o2 : w.ownsRow B 79 11 (.slice d.A2 s.F.length d.c2) s.F.length (s.F.flatMap fnEnc)
 o3 : w.ownsRow B 26 4 (.slice d.A3 s.C.length d.c3) s.C.length (s.C.flatMap vvE)
 lp : d.ps.length = s.T.length
 lf : d.fps.length = s.T.length
 tabs : ∀ (i p : Nat) (T : TabS) (f : List Nat), d.ps[i]? = some p → s.T[i]? = some T → d.fps[i]? = some f → TabIn w B p T f
 disj : ∀ (i j : Nat) (f g : List Nat), i ≠ j → d.fps[i]? = some f → d.fps[j]? = some g → ∀ x ∈ f, x ∉ g
 fns : ∀ f ∈ s.F, FnIn w B N f
 hB : B ≤ h
 wB : B ≤ w.heap.size
 nB : N ≤ B
 u0 : 0 ≤ s.U
 u1 : s.U ≤ s.L
 u2 : s.L ≤ 9223372036854775807
def HpTo (w : World) (B N h : Nat) (s : HpS) (d : HpD) (s' : HpS) (w' : World) : Prop := ∃ d', HpAt w' B N h s' d' ∧ Fr (d.fp h s.F) w w' ∧ ∀ b ∈ d'.fp h s'.F, b ∈ d.fp h s.F ∨ w.heap.size ≤ b
section
variable {w w' : World} {B N h : Nat} {s s' : HpS} {d d' : HpD}
theorem tab_fp_kind {tb : Nat} {T : TabS} {fp : List Nat} (ht : TabIn w B tb T fp) {b : Nat} (hb : b ∈ fp) :
  (∃ cs t fr, w.heap[b]? = some (.cells cs t fr) ∧ (t = 117 ∨ t = 92 ∨ t = 135)) ∨ (∃ es n, w.heap[b]? = some (.map es n)) := by
 obtain ⟨⟨fv, sv, mb, nb, n, m, D, E, rfl, h1, h2, h3, h4, h5, _⟩, _⟩ := ht
 simp only [List.mem_cons, List.mem_append, Option.mem_toList] at hb
 rcases hb with rfl | rfl | rfl | hb | hb
 ·exact .inl ⟨_, _, _, h1, .inl rfl⟩
 ·obtain ⟨es, clock, hh, _⟩ := h4
  exact .inr ⟨_, _, hh⟩
 ·obtain ⟨es, clock, hh, _⟩ := h5
  exact .inr ⟨_, _, hh⟩
 ·rcases h2.2 with ⟨rfl, _⟩ | ⟨g', cap, cur, rfl, _, hh, _⟩
  ·simp [Value.ownBlock] at hb
  ·obtain rfl : g' = b := by simpa [Value.ownBlock] using hb
   exact .inl ⟨_, _, _, hh, .inr (.inl rfl)⟩
 ·rcases h3.2 with ⟨rfl, _⟩ | ⟨g', cap, cur, rfl, _, hh, _⟩
  ·simp [Value.ownBlock] at hb
  ·obtain rfl : g' = b := by simpa [Value.ownBlock] using hb
   exact .inl ⟨_, _, _, hh, .inr (.inr rfl)⟩
theorem tab_fp_not {tb : Nat} {T : TabS} {fp : List Nat} (ht : TabIn w B tb T fp) {b : Nat} {cs : Array Value} {t : TypeId} {fr : Nat × Nat} (hb : w.heap[b]? = some (.cells cs t fr)) (hn : t ≠ 117 ∧ t ≠ 92 ∧ t ≠ 135) : b ∉ fp := fun hm => by
 rcases tab_fp_kind ht hm with ⟨cs', t', fr', h1, h2⟩ | ⟨es, n, h1⟩
 ·rw [h1] at hb
  injection hb with hb
  injection hb with _ e _
  subst e
  rcases h2 with e | e | e
  ·exact hn.1 e
  ·exact hn.2.1 e
  ·exact hn.2.2 e
 ·rw [h1] at hb
  injection hb with hb
  cases hb
theorem own_kind {base g : Nat} {e : TypeId} {K n : Nat} {v : Value} {xs : List Value} (ho : w.ownsRow base e K v n xs) (hg : v.ownBlock = some g) : ∃ cs fr, w.heap[g]? = some (.cells cs e fr) := by
 rcases ho.2 with ⟨rfl, _⟩ | ⟨g', cap, cur, rfl, _, hh, _⟩
 ·simp [Value.ownBlock] at hg
 ·obtain rfl : g' = g := by simpa [Value.ownBlock] using hg
  exact ⟨_, _, hh⟩
theorem kind_ne {b b' : Nat} {cs cs' : Array Value} {t t' : TypeId} {fr fr' : Nat × Nat} (h1 : w.heap[b]? = some (.cells cs t fr)) (h2 : w.heap[b']? = some (.cells cs' t' fr')) (hn : t ≠ t') : b ≠ b' := blk_ne h1 h2 hn
theorem HpAt.kinds (H : HpAt w B N h s d) {b : Nat} (hb : b ∈ d.fp h s.F) : B ≤ b ∧ b < w.heap.size := by
 simp only [HpD.fp, fpF, List.mem_cons, List.mem_append, List.mem_flatten, List.mem_flatMap] at hb
 rcases hb with rfl | hb | hb | hb | ⟨f, hf, hb⟩ | ⟨f, hf, hb⟩
 ·exact ⟨H.hB, blk_lt H.blk⟩
 ·exact hp_own_lt H.o1 (aB_own hb)
 ·exact hp_own_lt H.o2 (aB_own hb)
 ·exact hp_own_lt H.o3 (aB_own hb)
 ·obtain ⟨i, hi⟩ := List.getElem?_of_mem hf
  have hl : i < s.T.length := by rw [← H.lf]; exact (List.getElem?_eq_some_iff.1 hi).1
  exact (H.tabs i (d.ps[i]'(by rw [H.lp]; exact hl)) (s.T[i]) f (List.getElem?_eq_getElem _) (List.getElem?_eq_getElem _) hi).base b hb
 ·obtain ⟨cs, _, ho⟩ := (H.fns f hf).cells
  exact hp_own_lt ho (aB_own hb)
theorem HpAt.fpB (H : HpAt w B N h s d) : ∀ b ∈ d.fp h s.F, B ≤ b := fun b hb => (H.kinds hb).1
theorem HpAt.tab (H : HpAt w B N h s d) {i : Nat} {T : TabS} (hi : s.T[i]? = some T) : ∃ p f, d.ps[i]? = some p ∧ d.fps[i]? = some f ∧ TabIn w B p T f := by
 have hl : i < s.T.length := (List.getElem?_eq_some_iff.1 hi).1
 exact ⟨d.ps[i]'(by rw [H.lp]; exact hl), d.fps[i]'(by rw [H.lf]; exact hl), List.getElem?_eq_getElem _, List.getElem?_eq_getElem _, H.tabs i _ T _ (List.getElem?_eq_getElem _) hi (List.getElem?_eq_getElem _)⟩
theorem HpAt.kept (H : HpAt w B N h s d) {S : List Nat} (hf : Fr S w w') (hd : ∀ b ∈ d.fp h s.F, b ∉ S) (hN : ∀ b ∈ S, N ≤ b) : HpAt w' B N h s d := by
 have hm : ∀ b, b ∈ d.fp h s.F → b ∉ S := hd
 simp only [HpD.fp, fpF, List.mem_cons, List.mem_append, List.mem_flatten, List.mem_flatMap] at hm
 refine ⟨hf.blk H.blk (hm _ (.inl rfl)), hf.own H.o1 (fun g hg => hm _ (.inr (.inl (mem_aB hg)))), hf.own H.o2 (fun g hg => hm _ (.inr (.inr (.inl (mem_aB hg))))), hf.own H.o3 (fun g hg => hm _ (.inr (.inr (.inr (.inl (mem_aB hg)))))), H.lp, H.lf,
  fun i p T f h1 h2 h3 => (H.tabs i p T f h1 h2 h3).kept hf fun b hb => hm _ (.inr (.inr (.inr (.inr (.inl ⟨f, List.mem_of_getElem? h3, hb⟩))))), H.disj, fun f hf' => ?_, H.hB, Nat.le_trans H.wB hf.size, H.nB, H.u0, H.u1, H.u2⟩
 obtain ⟨cs, hc, ho⟩ := (H.fns f hf').cells
 exact ⟨⟨cs, hc, hf.own ho fun g hg => hm _ (.inr (.inr (.inr (.inr (.inr ⟨f, hf', mem_aB hg⟩)))))⟩, (H.fns f hf').ty.stay (hf.to_below (Nat.le_trans H.nB H.wB) hN), (H.fns f hf').len⟩
theorem HpAt.below (H : HpAt w B N h s d) (hb : Below w.heap.size w w') : HpAt w' B N h s d := H.kept (Fr.of_below hb []) (by simp) (by simp)
theorem HpTo.same (H : HpAt w B N h s d) (hb : Below w.heap.size w w') : HpTo w B N h s d s w' := ⟨d, H.below hb, Fr.of_below hb _, fun b hb => .inl hb⟩
end

section
variable {w w' : World} {B N h : Nat} {s s' : HpS} {d d' : HpD}
theorem fp_h (d : HpD) (h : Nat) (F : List FnS) : h ∈ d.fp h F := List.mem_cons_self
theorem fp_1 {d : HpD} {h : Nat} {F : List FnS} {b : Nat} (hb : b ∈ aB d.A1) : b ∈ d.fp h F := by simp [HpD.fp, hb]
theorem fp_2 {d : HpD} {h : Nat} {F : List FnS} {b : Nat} (hb : b ∈ aB d.A2) : b ∈ d.fp h F := by simp [HpD.fp, hb]
theorem fp_3 {d : HpD} {h : Nat} {F : List FnS} {b : Nat} (hb : b ∈ aB d.A3) : b ∈ d.fp h F := by simp [HpD.fp, hb]
theorem fp_t {d : HpD} {h : Nat} {F : List FnS} {b : Nat} {f : List Nat} (hf : f ∈ d.fps) (hb : b ∈ f) : b ∈ d.fp h F := by
 simp only [HpD.fp, List.mem_cons, List.mem_append, List.mem_flatten]
 exact .inr (.inr (.inr (.inr (.inl ⟨f, hf, hb⟩))))
theorem fp_f {d : HpD} {h : Nat} {F : List FnS} {b : Nat} {f : FnS} (hf : f ∈ F) (hb : b ∈ aB f.A) : b ∈ d.fp h F := by
 simp only [HpD.fp, fpF, List.mem_cons, List.mem_append, List.mem_flatMap]
 exact .inr (.inr (.inr (.inr (.inr ⟨f, hf, hb⟩))))
theorem fp_cases {d : HpD} {h : Nat} {F : List FnS} {b : Nat} (hb : b ∈ d.fp h F) : b = h ∨ b ∈ aB d.A1 ∨ b ∈ aB d.A2 ∨ b ∈ aB d.A3 ∨ (∃ f ∈ d.fps, b ∈ f) ∨ (∃ f ∈ F, b ∈ aB f.A) := by
 simpa only [HpD.fp, fpF, List.mem_cons, List.mem_append, List.mem_flatten, List.mem_flatMap] using hb
theorem HpAt.rest (H : HpAt w B N h s d) {A : Option Addr} {e : TypeId} (hA : ∀ g ∈ aB A, B ≤ g ∧ ∃ cs fr, w.heap[g]? = some (.cells cs e fr)) (hf : Fr (h :: aB A) w w') (he : e ≠ 117 ∧ e ≠ 92 ∧ e ≠ 135 ∧ e ≠ 3) :
  (∀ (i p : Nat) (T : TabS) (f : List Nat), d.ps[i]? = some p → s.T[i]? = some T → d.fps[i]? = some f → TabIn w' B p T f) ∧ (∀ f ∈ s.F, FnIn w' B N f) ∧
  (e ≠ 56 → w'.ownsRow B 56 1 (.slice d.A1 s.T.length d.c1) s.T.length (ptrs d.ps)) ∧ (e ≠ 79 → w'.ownsRow B 79 11 (.slice d.A2 s.F.length d.c2) s.F.length (s.F.flatMap fnEnc)) ∧
  (e ≠ 26 → w'.ownsRow B 26 4 (.slice d.A3 s.C.length d.c3) s.C.length (s.C.flatMap vvE)) := by
 have row : ∀ {t : TypeId} {K n : Nat} {v : Value} {xs : List Value}, w.ownsRow B t K v n xs → t ≠ 67 → e ≠ t → w'.ownsRow B t K v n xs := fun ho h1 h2 => hf.own ho fun g hg hm => by
  obtain ⟨cs, fr, hk⟩ := own_kind ho hg
  rcases List.mem_cons.1 hm with rfl | hm
  ·exact kind_ne hk H.blk h1 rfl
  ·obtain ⟨_, cs', fr', hk'⟩ := hA g hm
   exact kind_ne hk' hk h2 rfl
 refine ⟨fun i p T f h1 h2 h3 => ?_, fun f hm => ?_, row H.o1 (by decide), row H.o2 (by decide), row H.o3 (by decide)⟩
 ·have ht := H.tabs i p T f h1 h2 h3
  refine ht.kept hf fun b hb hm => ?_
  rcases List.mem_cons.1 hm with rfl | hm
  ·exact tab_fp_not ht H.blk ⟨by decide, by decide, by decide⟩ hb
  ·obtain ⟨_, cs', fr', hk'⟩ := hA b hm
   exact tab_fp_not ht hk' ⟨he.1, he.2.1, he.2.2.1⟩ hb
 ·obtain ⟨cs, hc, ho⟩ := (H.fns f hm).cells
  exact ⟨⟨cs, hc, row ho (by decide) he.2.2.2⟩, (H.fns f hm).ty.stay (hf.to_below (Nat.le_trans H.nB H.wB) fun b hb => by
   rcases List.mem_cons.1 hb with rfl | hb
   ·exact Nat.le_trans H.nB H.hB
   ·exact Nat.le_trans H.nB (hA b hb).1), (H.fns f hm).len⟩
theorem HpAt.k1 (H : HpAt w B N h s d) : ∀ g ∈ aB d.A1, B ≤ g ∧ ∃ cs fr, w.heap[g]? = some (.cells cs 56 fr) := fun g hg => ⟨(hp_own_lt H.o1 (aB_own hg)).1, own_kind H.o1 (aB_own hg)⟩
theorem HpAt.k2 (H : HpAt w B N h s d) : ∀ g ∈ aB d.A2, B ≤ g ∧ ∃ cs fr, w.heap[g]? = some (.cells cs 79 fr) := fun g hg => ⟨(hp_own_lt H.o2 (aB_own hg)).1, own_kind H.o2 (aB_own hg)⟩
theorem HpAt.k3 (H : HpAt w B N h s d) : ∀ g ∈ aB d.A3, B ≤ g ∧ ∃ cs fr, w.heap[g]? = some (.cells cs 26 fr) := fun g hg => ⟨(hp_own_lt H.o3 (aB_own hg)).1, own_kind H.o3 (aB_own hg)⟩
theorem HpAt.charged (H : HpAt w B N h s d) {U' : Int} (hf : Fr [h] w w') (hb : w'.heap[h]? = some (.cells #[.int .i64 s.L, .int .i64 U', .slice d.A1 s.T.length d.c1, .slice d.A2 s.F.length d.c2, .slice d.A3 s.C.length d.c3] 67 (0, 0))) (h0 : 0 ≤ U') (h1 : U' ≤ s.L) :
  HpAt w' B N h { s with U := U' } d := by
 obtain ⟨r1, r2, r3, r4, r5⟩ := H.rest (A := none) (e := 67) (fun g hg => by cases hg) (hf.more fun x hx => .inl hx) ⟨by decide, by decide, by decide, by decide⟩
 exact ⟨hb, r3 (by decide), r4 (by decide), r5 (by decide), H.lp, H.lf, r1, H.disj, r2, H.hB, Nat.le_trans H.wB hf.size, H.nB, h0, h1, H.u2⟩
theorem HpAt.madeT (H : HpAt w B N h s d) {U' : Int} {l : Nat} (hm : TabMade B h s.L U' (.slice d.A2 s.F.length d.c2) (.slice d.A3 s.C.length d.c3) d.A1 s.T.length d.c1 (ptrs d.ps) l w w') (h0 : 0 ≤ U') (h1 : U' ≤ s.L) :
  HpTo w B N h s d { s with U := U', T := s.T ++ [⟨l, [], []⟩] } w' := by
 obtain ⟨g, cap, tb, fp, m1, m2, m3, m4, m5, m6⟩ := hm
 rw [ownB] at m4
 have hg : g ∈ aB d.A1 ∨ w.heap.size ≤ g := m5.imp (fun e => mem_aB e) id
 obtain ⟨r1, r2, r3, r4, r5⟩ := H.rest (A := d.A1) H.k1 m4 ⟨by decide, by decide, by decide, by decide⟩
 have hfl : ∀ (i : Nat) (f : List Nat), d.fps[i]? = some f → ∀ x ∈ f, x < w.heap.size := fun i f hi x hx => by
  have hl : i < s.T.length := by rw [← H.lf]; exact (List.getElem?_eq_some_iff.1 hi).1
  exact ((H.tabs i (d.ps[i]'(by rw [H.lp]; exact hl)) (s.T[i]) f (List.getElem?_eq_getElem _) (List.getElem?_eq_getElem _) hi).base x hx).2
 refine ⟨{ d with A1 := some ⟨g, 0, none⟩, c1 := cap, ps := d.ps ++ [tb], fps := d.fps ++ [fp] }, ⟨?_, ?_, r4 (by decide), r5 (by decide), by simp [H.lp], by simp [H.lf], ?_, ?_, r2, H.hB, Nat.le_trans H.wB m4.size, H.nB, h0, h1, H.u2⟩, m4.more fun x hx => .inl ?_, ?_⟩
 ·rw [m1]; simp
 ·have : ptrs (d.ps ++ [tb]) = ptrs d.ps ++ [.pointer (some ⟨tb, 0, none⟩)] := by simp [ptrs]
  rw [this]
  simpa using m2
 ·intro i p T f e1 e2 e3
  rcases Nat.lt_or_ge i s.T.length with hi | hi
  ·rw [List.getElem?_append_left (by rw [H.lp]; exact hi)] at e1
   rw [List.getElem?_append_left hi] at e2
   rw [List.getElem?_append_left (by rw [H.lf]; exact hi)] at e3
   exact r1 i p T f e1 e2 e3
  ·have hi2 := (List.getElem?_eq_some_iff.1 e2).1
   obtain rfl : i = s.T.length := by simp at hi2; omega
   rw [List.getElem?_append_right (by rw [H.lp]; exact Nat.le_refl _), H.lp] at e1
   rw [List.getElem?_append_right (Nat.le_refl _)] at e2
   rw [List.getElem?_append_right (by rw [H.lf]; exact Nat.le_refl _), H.lf] at e3
   simp at e1 e2 e3
   subst e1 e2 e3
   exact tabIn_low m3 H.wB
 ·intro i j f f' hij e1 e2 x hx hx'
  rcases Nat.lt_or_ge i s.T.length with hi | hi
  ·rw [List.getElem?_append_left (by rw [H.lf]; exact hi)] at e1
   rcases Nat.lt_or_ge j s.T.length with hj | hj
   ·rw [List.getElem?_append_left (by rw [H.lf]; exact hj)] at e2
    exact H.disj i j f f' hij e1 e2 x hx hx'
   ·have := List.mem_of_getElem? e2
    rw [List.getElem?_append_right (by rw [H.lf]; exact hj)] at e2
    have e3 := List.mem_of_getElem? e2
    simp at e3
    subst e3
    have h2 := hfl i f e1 x hx
    have h3 := (m3.base x hx').1
    omega
  ·rw [List.getElem?_append_right (by rw [H.lf]; exact hi)] at e1
   have e3 := List.mem_of_getElem? e1
   simp at e3
   subst e3
   rcases Nat.lt_or_ge j s.T.length with hj | hj
   ·rw [List.getElem?_append_left (by rw [H.lf]; exact hj)] at e2
    have h2 := hfl j f' e2 x hx'
    have h3 := (m3.base x hx).1
    omega
   ·have h4 := (List.getElem?_eq_some_iff.1 e1).1
    rw [List.getElem?_append_right (by rw [H.lf]; exact hj)] at e2
    have h5 := (List.getElem?_eq_some_iff.1 e2).1
    simp [H.lf] at h4 h5
    omega
 ·rcases List.mem_cons.1 hx with rfl | hx
  ·exact fp_h _ _ _
  ·exact fp_1 hx
 ·intro b hb
  rcases fp_cases hb with rfl | hy | hy | hy | ⟨f, hf, hy⟩ | ⟨f, hf, hy⟩
  ·exact .inl (fp_h _ _ _)
  ·obtain rfl : b = g := by simpa [aB] using hy
   exact hg.imp fp_1 id
  ·exact .inl (fp_2 hy)
  ·exact .inl (fp_3 hy)
  ·rcases List.mem_append.1 hf with hf | hf
   ·exact .inl (fp_t hf hy)
   ·simp at hf
    subst hf
    exact .inr (m3.base b hy).1
  ·exact .inl (fp_f hf hy)
theorem HpAt.madeF (H : HpAt w B N h s d) {U' : Int} {f : FnS} {g cap : Nat} (hb : w'.heap[h]? = some (.cells #[.int .i64 s.L, .int .i64 U', .slice d.A1 s.T.length d.c1, .slice (some ⟨g, 0, none⟩) (s.F.length + 1) cap, .slice d.A3 s.C.length d.c3] 67 (0, 0)))
  (ho : w'.ownsRow B 79 11 (.slice (some ⟨g, 0, none⟩) (s.F.length + 1) cap) (s.F.length + 1) (s.F.flatMap fnEnc ++ fnEnc f)) (hf : Fr (h :: aB d.A2) w w') (hg : g ∈ aB d.A2 ∨ w.heap.size ≤ g) (hfn : FnIn w' B N f) (h0 : 0 ≤ U') (h1 : U' ≤ s.L) :
  ∃ d', HpAt w' B N h { s with U := U', F := s.F ++ [f] } d' ∧ Fr (d.fp h s.F) w w' ∧ ∀ b ∈ d'.fp h (s.F ++ [f]), b ∈ d.fp h s.F ∨ b ∈ aB f.A ∨ w.heap.size ≤ b := by
 obtain ⟨r1, r2, r3, r4, r5⟩ := H.rest (A := d.A2) H.k2 hf ⟨by decide, by decide, by decide, by decide⟩
 refine ⟨{ d with A2 := some ⟨g, 0, none⟩, c2 := cap }, ⟨?_, r3 (by decide), ?_, r5 (by decide), H.lp, H.lf, r1, H.disj, ?_, H.hB, Nat.le_trans H.wB hf.size, H.nB, h0, h1, H.u2⟩, hf.more fun x hx => .inl ?_, ?_⟩
 ·rw [hb]; simp
 ·simpa using ho
 ·intro x hx
  rcases List.mem_append.1 hx with hx | hx
  ·exact r2 x hx
  ·simp at hx
   subst hx
   exact hfn
 ·rcases List.mem_cons.1 hx with rfl | hx
  ·exact fp_h _ _ _
  ·exact fp_2 hx
 ·intro b hb
  rcases fp_cases hb with rfl | hy | hy | hy | ⟨f, hf, hy⟩ | ⟨f', hf, hy⟩
  ·exact .inl (fp_h _ _ _)
  ·exact .inl (fp_1 hy)
  ·obtain rfl : b = g := by simpa [aB] using hy
   exact hg.elim (fun e => .inl (fp_2 e)) (fun e => .inr (.inr e))
  ·exact .inl (fp_3 hy)
  ·exact .inl (fp_t hf hy)
  ·rcases List.mem_append.1 hf with hf | hf
   ·exact .inl (fp_f hf hy)
   ·simp at hf
    subst hf
    exact .inr (.inl hy)
theorem HpAt.madeC (H : HpAt w B N h s d) {U' : Int} {x : VV} {g cap : Nat} (hb : w'.heap[h]? = some (.cells #[.int .i64 s.L, .int .i64 U', .slice d.A1 s.T.length d.c1, .slice d.A2 s.F.length d.c2, .slice (some ⟨g, 0, none⟩) (s.C.length + 1) cap] 67 (0, 0)))
  (ho : w'.ownsRow B 26 4 (.slice (some ⟨g, 0, none⟩) (s.C.length + 1) cap) (s.C.length + 1) (s.C.flatMap vvE ++ vvE x)) (hf : Fr (h :: aB d.A3) w w') (hg : g ∈ aB d.A3 ∨ w.heap.size ≤ g) (h0 : 0 ≤ U') (h1 : U' ≤ s.L) :
  HpTo w B N h s d { s with U := U', C := s.C ++ [x] } w' := by
 obtain ⟨r1, r2, r3, r4, r5⟩ := H.rest (A := d.A3) H.k3 hf ⟨by decide, by decide, by decide, by decide⟩
 refine ⟨{ d with A3 := some ⟨g, 0, none⟩, c3 := cap }, ⟨?_, r3 (by decide), r4 (by decide), ?_, H.lp, H.lf, r1, H.disj, r2, H.hB, Nat.le_trans H.wB hf.size, H.nB, h0, h1, H.u2⟩, hf.more fun x hx => .inl ?_, ?_⟩
 ·rw [hb]; simp
 ·simpa using ho
 ·rcases List.mem_cons.1 hx with rfl | hx
  ·exact fp_h _ _ _
  ·exact fp_3 hx
 ·intro b hb
  rcases fp_cases hb with rfl | hy | hy | hy | ⟨f, hf, hy⟩ | ⟨f', hf, hy⟩
  ·exact .inl (fp_h _ _ _)
  ·exact .inl (fp_1 hy)
  ·exact .inl (fp_2 hy)
  ·obtain rfl : b = g := by simpa [aB] using hy
   exact hg.imp fp_3 id
  ·exact .inl (fp_t hf hy)
  ·exact .inl (fp_f hf hy)
theorem HpAt.setC (H : HpAt w B N h s d) {C' : List VV} (hl : C'.length = s.C.length) (ho : w'.ownsRow B 26 4 (.slice d.A3 s.C.length d.c3) s.C.length (C'.flatMap vvE)) (hf : Fr (aB d.A3) w w') :
  HpTo w B N h s d { s with C := C' } w' := by
 have hf' : Fr (h :: aB d.A3) w w' := hf.more fun x hx => .inl (List.mem_cons_of_mem _ hx)
 obtain ⟨r1, r2, r3, r4, r5⟩ := H.rest (A := d.A3) H.k3 hf' ⟨by decide, by decide, by decide, by decide⟩
 refine ⟨d, ⟨?_, r3 (by decide), r4 (by decide), ?_, H.lp, H.lf, r1, H.disj, r2, H.hB, Nat.le_trans H.wB hf.size, H.nB, H.u0, H.u1, H.u2⟩, hf.more fun x hx => .inl (fp_3 hx), fun b hb => .inl hb⟩
 ·have := hf.blk H.blk (fun hm => by obtain ⟨_, cs, fr, hk⟩ := H.k3 h hm; exact kind_ne hk H.blk (by decide) rfl)
  rw [this, hl]
 ·rw [hl]; exact ho
theorem HpAt.turnT (H : HpAt w B N h s d) {i p : Nat} {f f' : List Nat} {T' : TabS} (hi : i < s.T.length) (hp : d.ps[i]? = some p) (hff : d.fps[i]? = some f) (ht : TabIn w' B p T' f') (hf : Fr f w w') (hn : ∀ b ∈ f', b ∈ f ∨ w.heap.size ≤ b) :
  HpTo w B N h s d { s with T := s.T.set i T' } w' := by
 have hT := H.tabs i p (s.T[i]) f hp (List.getElem?_eq_getElem _) hff
 have hfB : ∀ b ∈ f, N ≤ b := fun b hb => Nat.le_trans H.nB (hT.base b hb).1
 have row : ∀ {t : TypeId} {K n : Nat} {v : Value} {xs : List Value}, w.ownsRow B t K v n xs → (t ≠ 117 ∧ t ≠ 92 ∧ t ≠ 135) → w'.ownsRow B t K v n xs := fun ho h1 => hf.own ho fun g hg hm => by
  obtain ⟨cs, fr, hk⟩ := own_kind ho hg
  exact tab_fp_not hT hk h1 hm
 have hfl : ∀ (j : Nat) (g : List Nat), d.fps[j]? = some g → ∀ x ∈ g, x < w.heap.size := fun j g hj x hx => (H.kinds (fp_t (F := s.F) (List.mem_of_getElem? hj) hx)).2
 refine ⟨{ d with fps := d.fps.set i f' }, ⟨?_, ?_, row H.o2 ⟨by decide, by decide, by decide⟩, row H.o3 ⟨by decide, by decide, by decide⟩, by simp [H.lp], by simp [H.lf], ?_, ?_, ?_, H.hB, Nat.le_trans H.wB hf.size, H.nB, H.u0, H.u1, H.u2⟩, hf.more fun x hx => .inl (fp_t (List.mem_of_getElem? hff) hx), ?_⟩
 ·have := hf.blk H.blk (fun hm => tab_fp_not hT H.blk ⟨by decide, by decide, by decide⟩ hm)
  simpa using this
 ·simpa using row H.o1 ⟨by decide, by decide, by decide⟩
 ·intro j q T g e1 e2 e3
  rw [List.getElem?_set] at e2 e3
  by_cases hij : i = j
  ·subst hij
   rw [if_pos rfl, if_pos hi] at e2
   rw [if_pos rfl, if_pos (by rw [H.lf]; exact hi)] at e3
   injection e2 with e2
   injection e3 with e3
   subst e2 e3
   rw [hp] at e1
   injection e1 with e1
   subst e1
   exact ht
  ·rw [if_neg hij] at e2 e3
   exact (H.tabs j q T g e1 e2 e3).kept hf fun b hb => H.disj j i g f (fun e => hij e.symm) e3 hff b hb
 ·intro j k g g' hjk e1 e2 x hx hx'
  rw [List.getElem?_set] at e1 e2
  by_cases hj : i = j
  ·rw [if_pos hj, if_pos (by rw [H.lf]; exact hi)] at e1
   rw [if_neg (fun e => hjk (hj.symm.trans e))] at e2
   injection e1 with e1
   subst e1
   rcases hn x hx with h2 | h2
   ·exact H.disj i k f g' (fun e => hjk (hj.symm.trans e)) hff e2 x h2 hx'
   ·have := hfl k g' e2 x hx'
    omega
  ·rw [if_neg hj] at e1
   by_cases hk : i = k
   ·rw [if_pos hk, if_pos (by rw [H.lf]; exact hi)] at e2
    injection e2 with e2
    subst e2
    rcases hn x hx' with h2 | h2
    ·exact H.disj j i g f (fun e => hj e.symm) e1 hff x hx h2
    ·have := hfl j g e1 x hx
     omega
   ·rw [if_neg hk] at e2
    exact H.disj j k g g' hjk e1 e2 x hx hx'
 ·intro g hg
  obtain ⟨cs, hc, ho⟩ := (H.fns g hg).cells
  exact ⟨⟨cs, hc, row ho ⟨by decide, by decide, by decide⟩⟩, (H.fns g hg).ty.stay (hf.to_below (Nat.le_trans H.nB H.wB) hfB), (H.fns g hg).len⟩
 ·intro b hb
  rcases fp_cases hb with rfl | hy | hy | hy | ⟨g, hg, hy⟩ | ⟨g, hg, hy⟩
  ·exact .inl (fp_h _ _ _)
  ·exact .inl (fp_1 hy)
  ·exact .inl (fp_2 hy)
  ·exact .inl (fp_3 hy)
  ·rcases List.mem_or_eq_of_mem_set hg with hg | rfl
   ·exact .inl (fp_t hg hy)
   ·exact (hn b hy).imp (fun e => fp_t (List.mem_of_getElem? hff) e) id
  ·exact .inl (fp_f hg hy)
end
end Go.Proofs.YtilcofpceadpbaaGreatDoor
namespace Go.Proofs.YtilcofpceadpbaaGreatDoor
open Go.ChangeShapes Go.WideShapes Go.ChangeAt Go.RowKit


theorem ne3 (n : Nat) : n ≠ n + 1 + 1 ∧ n ≠ n + 1 + 1 + 1 := by omega
end Go.Proofs.YtilcofpceadpbaaGreatDoor
