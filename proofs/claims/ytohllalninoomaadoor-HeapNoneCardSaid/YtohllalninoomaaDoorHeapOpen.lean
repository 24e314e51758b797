/-
  Chapter 21: how the calls that a law is given lie in memory.
-/
import Derived.Test.YtohllalninoomaaDoorTyOpen
import Derived.Test.YtohllalninoomaaDoorVal
set_option linter.unusedVariables false
set_option linter.unusedSimpArgs false
namespace Go.Proofs.YtohllalninoomaaDoor
open Go.ChangeShapes Go.WideShapes Go.ChangeAt Go.RowKit

def HI (n : Int) : Prop := -9223372036854775808 ≤ n ∧ n ≤ 9223372036854775807
theorem hi_wf {n : Int} (h : (Lit.int .i64 n).wf = true) : HI n := wf_i64 h
structure HAct where
  act : Int
  ctx : Nat
  a : VV
  b : VV
  c : VV
  n : Int
  cells : Sl Int
  to : LTy
def vvE (v : VV) : List Value := [.int .i64 v.kind, .int .i64 v.n, .string v.s, .int .u64 (v.label : Int)]
def intE (n : Int) : List Value := [.int .i64 n]
def haEnc (a : HAct) : List Value := [.int .i64 a.act, .int .u64 (a.ctx : Int), .int .i64 a.a.kind, .int .i64 a.a.n, .string a.a.s, .int .u64 (a.a.label : Int), .int .i64 a.b.kind, .int .i64 a.b.n, .string a.b.s, .int .u64 (a.b.label : Int), .int .i64 a.c.kind, .int .i64 a.c.n, .string a.c.s, .int .u64 (a.c.label : Int), .int .i64 a.n, a.cells.val, .int .i64 a.to.kind, .slice a.to.A a.to.ns.length a.to.c, .slice a.to.A2 a.to.xs.length a.to.c2]
structure HVOk (v : VV) : Prop where
  kind : HI v.kind
  n : HI v.n
  s : v.s.size ≤ 140737488351232
  label : v.label < 18446744073709551616
def HVOkD {H : Type} (v : VV) (d : DataW H) : Prop := HI v.kind ∧ HI v.n ∧ v.label < 18446744073709551616 ∧ (Sized Tryd.prog 25 d → v.s.size ≤ 140737488351232)
theorem HVOkD.ok {H : Type} {v : VV} {d : DataW H} (h : HVOkD v d) (hs : Sized Tryd.prog 25 d) : HVOk v := ⟨h.1, h.2.1, h.2.2.2 hs, h.2.2.1⟩
def IntD {H : Type} (n : Int) (d : DataW H) : Prop := HI n
theorem decHV {H : Type} {enc : TypeId × Value → H} {w : World} : Dec enc Tryd.prog w 25 vvE HVOkD := by
  intro fuel cs x h
  obtain ⟨ys, n, rfl, rfl, hlen, hl, hf⟩ := DataW.trod_struct Tryd.underlying25 h
  have hC : Tryd.prog.cellsOf 25 = 4 := by kernel_rfl
  rw [hC] at hlen
  have c0 : Tryd.prog.cellsOf 3 = 1 := by kernel_rfl
  have y0 : ys[0]? = some (ys[0]'(by rw [hl]; decide)) := List.getElem?_eq_getElem _
  obtain ⟨a0, h0, g0⟩ := decInt Tryd.underlying3 _ _ _ ((hf 0 _ rfl).trans y0)
  have p0 := drop_part (cs := cs) (o := 0) (K := Tryd.prog.cellsOf 3) (o' := 1) h0 (by rw [c0])
  have c1 : Tryd.prog.cellsOf 2 = 1 := by kernel_rfl
  have y1 : ys[1]? = some (ys[1]'(by rw [hl]; decide)) := List.getElem?_eq_getElem _
  obtain ⟨a1, h1, g1⟩ := decInt Tryd.underlying2 _ _ _ ((hf 1 _ rfl).trans y1)
  have p1 := drop_part (cs := cs) (o := 1) (K := Tryd.prog.cellsOf 2) (o' := 2) h1 (by rw [c1])
  have c2 : Tryd.prog.cellsOf 9 = 1 := by kernel_rfl
  have y2 : ys[2]? = some (ys[2]'(by rw [hl]; decide)) := List.getElem?_eq_getElem _
  obtain ⟨a2, h2, g2⟩ := decStr Tryd.underlying9 _ _ _ ((hf 2 _ rfl).trans y2)
  have p2 := drop_part (cs := cs) (o := 2) (K := Tryd.prog.cellsOf 9) (o' := 3) h2 (by rw [c2])
  have c3 : Tryd.prog.cellsOf 23 = 1 := by kernel_rfl
  have y3 : ys[3]? = some (ys[3]'(by rw [hl]; decide)) := List.getElem?_eq_getElem _
  obtain ⟨a3, h3, g3⟩ := decNat Tryd.underlying23 _ _ _ ((hf 3 _ rfl).trans y3)
  have p3 := drop_part (cs := cs) (o := 3) (K := Tryd.prog.cellsOf 23) (o' := 4) h3 (by rw [c3])
  have pn : cs.drop 4 = [] := List.drop_eq_nil_of_le (by omega)
  have hcs : cs = _ := p0
  rw [p1, p2, p3, pn] at hcs
  refine ⟨⟨a0, a1, a2, a3⟩, hcs, ?_⟩
  exact ⟨hi_wf g0.1, hi_wf g1.1, g3.1, fun hs => by have hd : (ys.map (·.1))[2]? = some (DataW.lit (.string a2.data.toList)) := (by rw [List.getElem?_map, y2, ← g2.2]; rfl); have h5 := sized_field Tryd.underlying25 hs (j := 2) rfl hd; have h6 := h5 a2.data.toList.length (by simp [DataW.weights]); unfold reachBytes at h6; simpa using h6⟩
theorem decI {H : Type} {enc : TypeId × Value → H} {w : World} : Dec enc Tryd.prog w 3 intE IntD := fun fuel cs x h => by
  obtain ⟨a, h1, h2⟩ := decInt Tryd.underlying3 fuel cs x h
  exact ⟨a, h1, hi_wf h2.1⟩
def HaOk {H : Type} (w : World) (a : HAct) (d : DataW H) : Prop := HI a.act ∧ a.ctx < 18446744073709551616 ∧ HI a.n ∧ ∃ ys d2 d3 d4 d6 d7, d = .agg ys ∧ ys[2]? = some d2 ∧ ys[3]? = some d3 ∧ ys[4]? = some d4 ∧ HVOkD a.a d2 ∧ HVOkD a.b d3 ∧ HVOkD a.c d4 ∧ ys[6]? = some d6 ∧ ys[7]? = some d7 ∧ SlIn2 w intE IntD a.cells d6 ∧ TyG w a.to d7
theorem decHAct {H : Type} {enc : TypeId × Value → H} {w : World} : Dec enc Tryd.prog w 32 haEnc (HaOk w) := by
  intro fuel cs x h
  obtain ⟨ys, n, rfl, rfl, hlen, hl, hf⟩ := DataW.trod_struct Tryd.underlying32 h
  have hC : Tryd.prog.cellsOf 32 = 19 := by kernel_rfl
  rw [hC] at hlen
  have c0 : Tryd.prog.cellsOf 3 = 1 := by kernel_rfl
  have y0 : ys[0]? = some (ys[0]'(by rw [hl]; decide)) := List.getElem?_eq_getElem _
  obtain ⟨a0, h0, g0⟩ := decInt Tryd.underlying3 _ _ _ ((hf 0 _ rfl).trans y0)
  have p0 := drop_part (cs := cs) (o := 0) (K := Tryd.prog.cellsOf 3) (o' := 1) h0 (by rw [c0])
  have c1 : Tryd.prog.cellsOf 23 = 1 := by kernel_rfl
  have y1 : ys[1]? = some (ys[1]'(by rw [hl]; decide)) := List.getElem?_eq_getElem _
  obtain ⟨a1, h1, g1⟩ := decNat Tryd.underlying23 _ _ _ ((hf 1 _ rfl).trans y1)
  have p1 := drop_part (cs := cs) (o := 1) (K := Tryd.prog.cellsOf 23) (o' := 2) h1 (by rw [c1])
  have c2 : Tryd.prog.cellsOf 25 = 4 := by kernel_rfl
  have y2 : ys[2]? = some (ys[2]'(by rw [hl]; decide)) := List.getElem?_eq_getElem _
  obtain ⟨a2, h2, g2⟩ := decHV _ _ _ ((hf 2 _ rfl).trans y2)
  have p2 := drop_part (cs := cs) (o := 2) (K := Tryd.prog.cellsOf 25) (o' := 6) h2 (by rw [c2])
  have c3 : Tryd.prog.cellsOf 25 = 4 := by kernel_rfl
  have y3 : ys[3]? = some (ys[3]'(by rw [hl]; decide)) := List.getElem?_eq_getElem _
  obtain ⟨a3, h3, g3⟩ := decHV _ _ _ ((hf 3 _ rfl).trans y3)
  have p3 := drop_part (cs := cs) (o := 6) (K := Tryd.prog.cellsOf 25) (o' := 10) h3 (by rw [c3])
  have c4 : Tryd.prog.cellsOf 25 = 4 := by kernel_rfl
  have y4 : ys[4]? = some (ys[4]'(by rw [hl]; decide)) := List.getElem?_eq_getElem _
  obtain ⟨a4, h4, g4⟩ := decHV _ _ _ ((hf 4 _ rfl).trans y4)
  have p4 := drop_part (cs := cs) (o := 10) (K := Tryd.prog.cellsOf 25) (o' := 14) h4 (by rw [c4])
  have c5 : Tryd.prog.cellsOf 3 = 1 := by kernel_rfl
  have y5 : ys[5]? = some (ys[5]'(by rw [hl]; decide)) := List.getElem?_eq_getElem _
  obtain ⟨a5, h5, g5⟩ := decInt Tryd.underlying3 _ _ _ ((hf 5 _ rfl).trans y5)
  have p5 := drop_part (cs := cs) (o := 14) (K := Tryd.prog.cellsOf 3) (o' := 15) h5 (by rw [c5])
  have c6 : Tryd.prog.cellsOf 26 = 1 := by kernel_rfl
  have y6 : ys[6]? = some (ys[6]'(by rw [hl]; decide)) := List.getElem?_eq_getElem _
  obtain ⟨a6, h6, g6⟩ := (decSlice2 Tryd.underlying26 (K := 1) (by kernel_rfl) (by omega) (fun _ => rfl) decI) _ _ _ ((hf 6 _ rfl).trans y6)
  have p6 := drop_part (cs := cs) (o := 15) (K := Tryd.prog.cellsOf 26) (o' := 16) h6 (by rw [c6])
  have c7 : Tryd.prog.cellsOf 30 = 3 := by kernel_rfl
  have y7 : ys[7]? = some (ys[7]'(by rw [hl]; decide)) := List.getElem?_eq_getElem _
  obtain ⟨a7, h7, g7⟩ := decTy _ _ _ ((hf 7 _ rfl).trans y7)
  have p7 := drop_part (cs := cs) (o := 16) (K := Tryd.prog.cellsOf 30) (o' := 19) h7 (by rw [c7])
  have pn : cs.drop 19 = [] := List.drop_eq_nil_of_le (by omega)
  have hcs : cs = _ := p0
  rw [p1, p2, p3, p4, p5, p6, p7, pn] at hcs
  refine ⟨⟨a0, a1, a2, a3, a4, a5, a6, a7⟩, hcs, ?_⟩
  exact ⟨hi_wf g0.1, g1.1, hi_wf g5.1, _, _, _, _, _, _, rfl, (by rw [List.getElem?_map, y2]; rfl), (by rw [List.getElem?_map, y3]; rfl), (by rw [List.getElem?_map, y4]; rfl), g2, g3, g4, (by rw [List.getElem?_map, y6]; rfl), (by rw [List.getElem?_map, y7]; rfl), g6, g7⟩
/-- What a walk wants of a call. -/
structure HaFit (w : World) (N : Nat) (x : HAct) : Prop where
  act : HI x.act
  ctx : x.ctx < 18446744073709551616
  va : HVOk x.a
  vb : HVOk x.b
  vc : HVOk x.c
  n : HI x.n
  reads : Reads w N x.cells.A (x.cells.xs.map (.int .i64 ·))
  ints : ∀ i ∈ x.cells.xs, HI i
  len : x.cells.xs.length * 8 ≤ 140737488351232
  le : x.cells.xs.length ≤ x.cells.cap
  nil_ : x.cells.A = none → x.cells.xs.length = 0 ∧ x.cells.cap = 0
  to : LIn w N x.to
theorem HaFit.below {w w' : World} {N : Nat} {a : HAct} (h : HaFit w N a) (hb : Below N w w') : HaFit w' N a :=
  ⟨h.act, h.ctx, h.va, h.vb, h.vc, h.n, h.reads.below hb, h.ints, h.len, h.le, h.nil_, h.to.stay hb⟩
theorem ha_fit {H : Type} {w : World} {a : HAct} {d : DataW H} (h : HaOk w a d) (hs : Sized Tryd.prog 32 d) : HaFit w w.heap.size a := by
  obtain ⟨h1, h2, h6, ys, d2, d3, d4, d6, d7, rfl, y2, y3, y4, g2, g3, g4, hy, hz, hsl, hty⟩ := h
  have h3 := g2.ok (sized_field Tryd.underlying32 hs (j := 2) rfl y2)
  have h4 := g3.ok (sized_field Tryd.underlying32 hs (j := 3) rfl y3)
  have h5 := g4.ok (sized_field Tryd.underlying32 hs (j := 4) rfl y4)
  have hsz := sized_field Tryd.underlying32 hs (j := 6) rfl hy
  have hst := sized_field Tryd.underlying32 hs (j := 7) rfl hz
  have hl := sized_sl Tryd.underlying26 hsl.sl hsz
  rw [show Tryd.prog.bytesOf 3 = 8 by kernel_rfl] at hl
  unfold reachBytes at hl
  refine ⟨h1, h2, h3, h4, h5, h6, ?_, fun i hi => ?_, by omega, hsl.sl.le, fun e => ⟨by rw [(hsl.nil_ e).1]; rfl, (hsl.nil_ e).2⟩, hty hst⟩
  · have := hsl.sl.reads
    unfold intE at this
    rw [← List.map_eq_flatMap] at this
    exact this
  · obtain ⟨k, hk⟩ := List.getElem?_of_mem hi
    obtain ⟨d', _, h7⟩ := hsl.sl.all k i hk
    exact h7
end Go.Proofs.YtohllalninoomaaDoor
