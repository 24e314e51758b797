/-
  How chapter 3's arguments are opened.
-/
import Derived.Test.YthhphjfbdoffhaaDoorValLaw
import Derived.Test.YthhphjfbdoffhaaDoorOpen2
import Derived.Test.YthhphjfbdoffhaaDoorFrame
set_option linter.unusedVariables false
set_option linter.unusedSimpArgs false
namespace Go.Proofs.YthhphjfbdoffhaaDoor
open Go.ChangeShapes Go.WideShapes Go.ChangeAt Go.RowKit

def VVOk {H : Type} (v : VV) (d : DataW H) : Prop := (-9223372036854775808 ≤ v.n ∧ v.n ≤ 9223372036854775807) ∧ v.label < 18446744073709551616
theorem decVV {H : Type} {enc : TypeId × Value → H} {w : World} : Dec enc Tryd.prog w 25 vvEnc VVOk := by
  intro fuel cs x h
  obtain ⟨ys, n, rfl, rfl, hlen, hl, hf⟩ := DataW.trod_struct Tryd.underlying25 h
  have hC : Tryd.prog.cellsOf 25 = 4 := by kernel_rfl
  rw [hC] at hlen
  have c0 : Tryd.prog.cellsOf 3 = 1 := by kernel_rfl
  have y0 : ys[0]? = some (ys[0]'(by rw [hl]; decide)) := List.getElem?_eq_getElem _
  obtain ⟨a0, h0, g0⟩ := decInt Tryd.underlying3 _ _ _ ((hf 0 _ rfl).trans y0)
  have p0 := drop_part (cs := cs) (o := 0) (K := Tryd.prog.cellsOf 3) (o' := 1) h0 (by rw [c0])
  have c1 : Tryd.prog.cellsOf 2 = 1 := by kernel_rfl
  have y1 : ys[1]? = some (ys[1]'(by rw [hl]; decide)) := List.getElem?_eq_getElem _
  obtain ⟨a1, h1, g1⟩ := decInt Tryd.underlying2 _ _ _ ((hf 1 _ rfl).trans y1)
  have p1 := drop_part (cs := cs) (o := 1) (K := Tryd.prog.cellsOf 2) (o' := 2) h1 (by rw [c1])
  have c2 : Tryd.prog.cellsOf 9 = 1 := by kernel_rfl
  have y2 : ys[2]? = some (ys[2]'(by rw [hl]; decide)) := List.getElem?_eq_getElem _
  obtain ⟨a2, h2, g2⟩ := decStr Tryd.underlying9 _ _ _ ((hf 2 _ rfl).trans y2)
  have p2 := drop_part (cs := cs) (o := 2) (K := Tryd.prog.cellsOf 9) (o' := 3) h2 (by rw [c2])
  have c3 : Tryd.prog.cellsOf 23 = 1 := by kernel_rfl
  have y3 : ys[3]? = some (ys[3]'(by rw [hl]; decide)) := List.getElem?_eq_getElem _
  obtain ⟨a3, h3, g3⟩ := decNat Tryd.underlying23 _ _ _ ((hf 3 _ rfl).trans y3)
  have p3 := drop_part (cs := cs) (o := 3) (K := Tryd.prog.cellsOf 23) (o' := 4) h3 (by rw [c3])
  have pn : cs.drop 4 = [] := List.drop_eq_nil_of_le (by omega)
  have hcs : cs = _ := p0
  rw [p1, p2, p3, pn] at hcs
  refine ⟨⟨a0, a1, a2, a3⟩, hcs, ?_⟩
  exact ⟨wf_i64 g1.1, g3.1⟩
theorem small1_any (v : VV) (n c : Nat) (t : TypeId) (w : World) (h : w.heap[n]? = some (.cells (vvCells v) t (0, 0))) : Calls Tryd.prog 5 #[.slice (some ⟨n, 0, none⟩) 1 c] w (RetB (.bool (smallV [v])) w) :=
  small_any [v] (some ⟨n, 0, none⟩) c w (.inr ⟨_, rfl, blk_lt h, World.news_of_block h⟩) (by simp)
theorem small2_any (a b : VV) (n c : Nat) (t : TypeId) (w : World) (h : w.heap[n]? = some (.cells #[.int .i64 a.kind, .int .i64 a.n, .string a.s, .int .u64 (a.label : Int), .int .i64 b.kind, .int .i64 b.n, .string b.s, .int .u64 (b.label : Int)] t (0, 0))) : Calls Tryd.prog 5 #[.slice (some ⟨n, 0, none⟩) 2 c] w (RetB (.bool (smallV [a, b])) w) :=
  small_any [a, b] (some ⟨n, 0, none⟩) c w (.inr ⟨_, rfl, blk_lt h, World.news_of_block h⟩) (by simp)
theorem small2_le {a b : VV} (h : smallV [a, b] = true) : a.s.size + b.s.size ≤ 1000000 := by
  simp [smallV] at h
  omega
end Go.Proofs.YthhphjfbdoffhaaDoor
