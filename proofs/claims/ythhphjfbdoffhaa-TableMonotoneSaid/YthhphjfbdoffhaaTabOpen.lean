/-
  Chapter 04: how the calls that a law is given lie in memory; few.
-/
import Derived.Test.YthhphjfbdoffhaaTabP
import Derived.Test.YthhphjfbdoffhaaOpen2
set_option linter.unusedVariables false
set_option linter.unusedSimpArgs false
namespace Go.Proofs.Ythhphjfbdoffhaa
open Go.ChangeShapes Go.WideShapes Go.ChangeAt Go.RowKit

structure TAct where
  act : Int
  ctx : Nat
  key : VV
  val : VV
  n : Int
  s : Sl St
def vE (v : VV) : List Value := [.int .i64 v.kind, .int .i64 v.n, .string v.s, .int .u64 (v.label : Int)]
def taEnc (a : TAct) : List Value := [.int .i64 a.act, .int .u64 (a.ctx : Int), .int .i64 a.key.kind, .int .i64 a.key.n, .string a.key.s, .int .u64 (a.key.label : Int), .int .i64 a.val.kind, .int .i64 a.val.n, .string a.val.s, .int .u64 (a.val.label : Int), .int .i64 a.n, a.s.val]
def VOkD {H : Type} (v : VV) (d : DataW H) : Prop := VOk v
def StOkD {H : Type} (s : St) (d : DataW H) : Prop := s.1.size ≤ maxLen ∧ I64 s.2
theorem decV4 {H : Type} {enc : TypeId × Value → H} {w : World} : Dec enc Try.prog w 25 vE VOkD := by
  intro fuel cs x h
  obtain ⟨ys, n, rfl, rfl, hlen, hl, hf⟩ := DataW.trod_struct Try.underlying25 h
  have hC : Try.prog.cellsOf 25 = 4 := by kernel_rfl
  rw [hC] at hlen
  have c0 : Try.prog.cellsOf 3 = 1 := by kernel_rfl
  have y0 : ys[0]? = some (ys[0]'(by rw [hl]; decide)) := List.getElem?_eq_getElem _
  obtain ⟨a0, h0, g0⟩ := decInt Try.underlying3 _ _ _ ((hf 0 _ rfl).trans y0)
  have p0 := drop_part (cs := cs) (o := 0) (K := Try.prog.cellsOf 3) (o' := 1) h0 (by rw [c0])
  have c1 : Try.prog.cellsOf 2 = 1 := by kernel_rfl
  have y1 : ys[1]? = some (ys[1]'(by rw [hl]; decide)) := List.getElem?_eq_getElem _
  obtain ⟨a1, h1, g1⟩ := decInt Try.underlying2 _ _ _ ((hf 1 _ rfl).trans y1)
  have p1 := drop_part (cs := cs) (o := 1) (K := Try.prog.cellsOf 2) (o' := 2) h1 (by rw [c1])
  have c2 : Try.prog.cellsOf 9 = 1 := by kernel_rfl
  have y2 : ys[2]? = some (ys[2]'(by rw [hl]; decide)) := List.getElem?_eq_getElem _
  obtain ⟨a2, h2, g2⟩ := decStr Try.underlying9 _ _ _ ((hf 2 _ rfl).trans y2)
  have p2 := drop_part (cs := cs) (o := 2) (K := Try.prog.cellsOf 9) (o' := 3) h2 (by rw [c2])
  have c3 : Try.prog.cellsOf 23 = 1 := by kernel_rfl
  have y3 : ys[3]? = some (ys[3]'(by rw [hl]; decide)) := List.getElem?_eq_getElem _
  obtain ⟨a3, h3, g3⟩ := decNat Try.underlying23 _ _ _ ((hf 3 _ rfl).trans y3)
  have p3 := drop_part (cs := cs) (o := 3) (K := Try.prog.cellsOf 23) (o' := 4) h3 (by rw [c3])
  have pn : cs.drop 4 = [] := List.drop_eq_nil_of_le (by omega)
  have hcs : cs = _ := p0
  rw [p1, p2, p3, pn] at hcs
  refine ⟨⟨a0, a1, a2, a3⟩, hcs, ?_⟩
  exact ⟨wf_i64 g0.1, wf_i64 g1.1, g2.1, g3.1⟩
theorem decSt {H : Type} {enc : TypeId × Value → H} {w : World} : Dec enc Try.prog w 61 stEnc StOkD := by
  intro fuel cs x h
  obtain ⟨ys, n, rfl, rfl, hlen, hl, hf⟩ := DataW.trod_struct Try.underlying61 h
  have hC : Try.prog.cellsOf 61 = 2 := by kernel_rfl
  rw [hC] at hlen
  have c0 : Try.prog.cellsOf 9 = 1 := by kernel_rfl
  have y0 : ys[0]? = some (ys[0]'(by rw [hl]; decide)) := List.getElem?_eq_getElem _
  obtain ⟨a0, h0, g0⟩ := decStr Try.underlying9 _ _ _ ((hf 0 _ rfl).trans y0)
  have p0 := drop_part (cs := cs) (o := 0) (K := Try.prog.cellsOf 9) (o' := 1) h0 (by rw [c0])
  have c1 : Try.prog.cellsOf 3 = 1 := by kernel_rfl
  have y1 : ys[1]? = some (ys[1]'(by rw [hl]; decide)) := List.getElem?_eq_getElem _
  obtain ⟨a1, h1, g1⟩ := decInt Try.underlying3 _ _ _ ((hf 1 _ rfl).trans y1)
  have p1 := drop_part (cs := cs) (o := 1) (K := Try.prog.cellsOf 3) (o' := 2) h1 (by rw [c1])
  have pn : cs.drop 2 = [] := List.drop_eq_nil_of_le (by omega)
  have hcs : cs = _ := p0
  rw [p1, pn] at hcs
  refine ⟨⟨a0, a1⟩, hcs, ?_⟩
  exact ⟨g0.1, wf_i64 g1.1⟩
def TaOk {H : Type} (w : World) (a : TAct) (d : DataW H) : Prop := I64 a.act ∧ a.ctx < 18446744073709551616 ∧ VOk a.key ∧ VOk a.val ∧ I64 a.n ∧ ∃ ys d5, d = .agg ys ∧ ys[5]? = some d5 ∧ SlIn w stEnc StOkD a.s d5
theorem decTAct {H : Type} {enc : TypeId × Value → H} {w : World} : Dec enc Try.prog w 43 taEnc (TaOk w) := by
  intro fuel cs x h
  obtain ⟨ys, n, rfl, rfl, hlen, hl, hf⟩ := DataW.trod_struct Try.underlying43 h
  have hC : Try.prog.cellsOf 43 = 12 := by kernel_rfl
  rw [hC] at hlen
  have c0 : Try.prog.cellsOf 3 = 1 := by kernel_rfl
  have y0 : ys[0]? = some (ys[0]'(by rw [hl]; decide)) := List.getElem?_eq_getElem _
  obtain ⟨a0, h0, g0⟩ := decInt Try.underlying3 _ _ _ ((hf 0 _ rfl).trans y0)
  have p0 := drop_part (cs := cs) (o := 0) (K := Try.prog.cellsOf 3) (o' := 1) h0 (by rw [c0])
  have c1 : Try.prog.cellsOf 23 = 1 := by kernel_rfl
  have y1 : ys[1]? = some (ys[1]'(by rw [hl]; decide)) := List.getElem?_eq_getElem _
  obtain ⟨a1, h1, g1⟩ := decNat Try.underlying23 _ _ _ ((hf 1 _ rfl).trans y1)
  have p1 := drop_part (cs := cs) (o := 1) (K := Try.prog.cellsOf 23) (o' := 2) h1 (by rw [c1])
  have c2 : Try.prog.cellsOf 25 = 4 := by kernel_rfl
  have y2 : ys[2]? = some (ys[2]'(by rw [hl]; decide)) := List.getElem?_eq_getElem _
  obtain ⟨a2, h2, g2⟩ := decV4 _ _ _ ((hf 2 _ rfl).trans y2)
  have p2 := drop_part (cs := cs) (o := 2) (K := Try.prog.cellsOf 25) (o' := 6) h2 (by rw [c2])
  have c3 : Try.prog.cellsOf 25 = 4 := by kernel_rfl
  have y3 : ys[3]? = some (ys[3]'(by rw [hl]; decide)) := List.getElem?_eq_getElem _
  obtain ⟨a3, h3, g3⟩ := decV4 _ _ _ ((hf 3 _ rfl).trans y3)
  have p3 := drop_part (cs := cs) (o := 6) (K := Try.prog.cellsOf 25) (o' := 10) h3 (by rw [c3])
  have c4 : Try.prog.cellsOf 2 = 1 := by kernel_rfl
  have y4 : ys[4]? = some (ys[4]'(by rw [hl]; decide)) := List.getElem?_eq_getElem _
  obtain ⟨a4, h4, g4⟩ := decInt Try.underlying2 _ _ _ ((hf 4 _ rfl).trans y4)
  have p4 := drop_part (cs := cs) (o := 10) (K := Try.prog.cellsOf 2) (o' := 11) h4 (by rw [c4])
  have c5 : Try.prog.cellsOf 41 = 1 := by kernel_rfl
  have y5 : ys[5]? = some (ys[5]'(by rw [hl]; decide)) := List.getElem?_eq_getElem _
  obtain ⟨a5, h5, g5⟩ := (decSlice Try.underlying41 (K := 2) (by kernel_rfl) (by omega) (fun _ => rfl) decSt) _ _ _ ((hf 5 _ rfl).trans y5)
  have p5 := drop_part (cs := cs) (o := 11) (K := Try.prog.cellsOf 41) (o' := 12) h5 (by rw [c5])
  have pn : cs.drop 12 = [] := List.drop_eq_nil_of_le (by omega)
  have hcs : cs = _ := p0
  rw [p1, p2, p3, p4, p5, pn] at hcs
  refine ⟨⟨a0, a1, a2, a3, a4, a5⟩, hcs, ?_⟩
  exact ⟨wf_i64 g0.1, g1.1, g2, g3, wf_i64 g4.1, _, _, rfl, (by rw [List.getElem?_map, y5]; rfl), g5⟩
/-- What a walk wants of a call. -/
structure TaFit (w : World) (N : Nat) (a : TAct) : Prop where
  act : I64 a.act
  ctx : a.ctx < 18446744073709551616
  key : VOk a.key
  val : VOk a.val
  n : I64 a.n
  reads : Reads w N a.s.A (a.s.xs.flatMap stEnc)
  sts : ∀ s ∈ a.s.xs, s.1.size ≤ maxLen ∧ I64 s.2
  len : a.s.xs.length * 24 ≤ 140737488351232
theorem TaFit.below {w w' : World} {N : Nat} {a : TAct} (h : TaFit w N a) (hb : Below N w w') : TaFit w' N a :=
  ⟨h.act, h.ctx, h.key, h.val, h.n, h.reads.below hb, h.sts, h.len⟩
theorem sized_struct {H : Type} {P : Program} {t te : TypeId} {fs : Array Field} {ds : List (DataW H)} (ht : P.underlying t = some (.struct fs)) (h : Sized P t (.agg ds)) {i : Nat} {d : DataW H} (hf : (fs.toList.map (·.type))[i]? = some te) (hd : ds[i]? = some d) : Sized P te d := fun m hm => by
  refine h m ?_
  rw [DataW.weights, ht]
  exact DataW.weights_mem_each hf hd m hm
theorem sized_elem {H : Type} {P : Program} {w : World} {α : Type} {f : α → List Value} {G : α → DataW H → Prop} {s : Sl α} {t e : TypeId} {d : DataW H} (ht : P.underlying t = some (.slice e)) (h : SlIn w f G s d) (hs : Sized P t d) {d' : DataW H} (hd : d' ∈ elemsOf d) : Sized P e d' := fun m hm => by
  rcases h.form with e1 | e1
  · rw [e1] at hd
    simp [elemsOf] at hd
  · obtain ⟨i, hi⟩ := List.getElem?_of_mem hd
    refine hs m ?_
    rw [e1, DataW.weights, ht]
    exact List.mem_cons_of_mem _ (List.mem_append_left _ (weightsAll_mem hi m hm))
theorem ta_fit {H : Type} {w : World} {a : TAct} {d : DataW H} (h : TaOk w a d) (hs : Sized Try.prog 43 d) : TaFit w w.heap.size a := by
  obtain ⟨h1, h2, h3, h4, h5, ys, d5, rfl, hy, hsl⟩ := h
  have hsz := sized_struct Try.underlying43 hs (i := 5) (te := 41) (by rfl) hy
  have hl := sized_sl Try.underlying41 hsl hsz
  rw [show Try.prog.bytesOf 61 = 24 from by kernel_rfl] at hl
  exact ⟨h1, h2, h3, h4, h5, hsl.reads, fun s hs => (hsl.mem hs).elim fun _ h => h.2, hl⟩
theorem tas_fit {H : Type} {w : World} {s : Sl TAct} {d : DataW H} (h : SlIn w taEnc (TaOk w) s d) (hs : Sized Try.prog 40 d) : (∀ a ∈ s.xs, TaFit w w.heap.size a) ∧ s.xs.length * 128 ≤ 140737488351232 := by
  refine ⟨fun a ha => ?_, ?_⟩
  · obtain ⟨d', h1, h2⟩ := h.mem ha
    exact ta_fit h2 (sized_elem Try.underlying40 h hs h1)
  · have hl := sized_sl Try.underlying40 h hs
    rw [show Try.prog.bytesOf 43 = 128 from by kernel_rfl] at hl
    exact hl
theorem taEnc_len (a : TAct) : (taEnc a).length = 12 := rfl
/-- How many steps the calls are. -/
def totT (l : List TAct) : Nat := (l.map fun a => 10 + a.s.xs.length).sum
theorem totT_snoc {l : List TAct} {k : Nat} {x : TAct} (h : l[k]? = some x) : totT (l.take (k + 1)) = totT (l.take k) + (10 + x.s.xs.length) := by
  unfold totT
  rw [List.take_add_one, h]
  simp
theorem totT_len (l : List TAct) : 10 * l.length ≤ totT l := by
  induction l with
  | nil => simp [totT]
  | cons x l ih => simp only [totT, List.map_cons, List.sum_cons, List.length_cons] at ih ⊢; omega
def TFewPost (l : List TAct) (w : World) (e : Ending) (w' : World) : Prop := ∃ b, e = .returned (.bool b) ∧ Below w.heap.size w w' ∧ (b = true → totT l ≤ 2000)
theorem wrap2 {T n : Nat} (h : T ≤ 2000) (h2 : n ≤ 5864062014634) : IntKind.i64.wrap ((T : Int) + (10 + (n : Int))) = (T : Int) + (10 + (n : Int)) := by
  rw [IntKind.wrap_i64]
  omega
theorem wrap1 {n : Nat} (h2 : n ≤ 5864062014634) : IntKind.i64.wrap (10 + (n : Int)) = 10 + (n : Int) := by
  rw [IntKind.wrap_i64]
  omega
theorem len24 {n : Nat} (h : n * 24 ≤ 140737488351232) : n ≤ 5864062014634 := by
  have : ¬ 5864062014635 ≤ n := fun h2 => absurd (Nat.le_trans (Nat.mul_le_mul_right 24 h2) h) (by decide)
  omega
set_option maxRecDepth 100000 in
set_option maxHeartbeats 4000000 in
theorem tfew_any (xs : List TAct) (A : Option Addr) (c : Nat) (w : World) (hr : Reads w w.heap.size A (xs.flatMap taEnc)) (hn : xs.length ≤ 9223372036854775807) (hz : ∀ x ∈ xs, x.s.xs.length * 24 ≤ 140737488351232) (hs : ∀ x ∈ xs, x.key.s.size ≤ maxLen ∧ x.val.s.size ≤ maxLen) :
    Calls Try.prog 31 #[.slice A xs.length c] w (TFewPost xs w) := by
  have HZ := Lib.hid hz
  have HS := Lib.hid hs
  have HR := Lib.hid hr
  clear hz hr hs
  go_enter Try.func31, Try.ntmps31
  go_wp2
  go_loopw [3, 8] (fun v i wr => ∃ k : Nat, k ≤ xs.length ∧ i = .int .i64 k ∧ v = .int .i64 (totT (xs.take k) : Int) ∧ totT (xs.take k) ≤ 2000 ∧ Below w.heap.size w wr) (fun _ i wr => xs.length - (intOf i).toNat)
  case atStart => exact ⟨0, by omega, rfl, by simp [totT], by simp [totT], Below.refl _ _⟩
  case round =>
    obtain ⟨k, hk, rfl, rfl, hT, hB⟩ := hrel
    by_cases hlt : k < xs.length
    · obtain ⟨x, hx⟩ : ∃ x, xs[k]? = some x := ⟨_, List.getElem?_eq_getElem hlt⟩
      obtain ⟨ad, rfl, hadb, hcell⟩ := (HR.out.below hB).at (flatMap_ne (K := 12) taEnc_len (by omega) hx)
      have x0 := elem_zero taEnc_len hcell hx (by omega) (v := .int .i64 x.act) rfl
      have x1 := elem_at taEnc_len hcell hx 1 (by omega) (by omega) (v := .int .u64 (x.ctx : Int)) rfl
      have x2 := elem_at taEnc_len hcell hx 2 (by omega) (by omega) (v := .int .i64 x.key.kind) rfl
      have x3 := elem_at taEnc_len hcell hx 3 (by omega) (by omega) (v := .int .i64 x.key.n) rfl
      have x4 := elem_at taEnc_len hcell hx 4 (by omega) (by omega) (v := .string x.key.s) rfl
      have x5 := elem_at taEnc_len hcell hx 5 (by omega) (by omega) (v := .int .u64 (x.key.label : Int)) rfl
      have x6 := elem_at taEnc_len hcell hx 6 (by omega) (by omega) (v := .int .i64 x.val.kind) rfl
      have x7 := elem_at taEnc_len hcell hx 7 (by omega) (by omega) (v := .int .i64 x.val.n) rfl
      have x8 := elem_at taEnc_len hcell hx 8 (by omega) (by omega) (v := .string x.val.s) rfl
      have x9 := elem_at taEnc_len hcell hx 9 (by omega) (by omega) (v := .int .u64 (x.val.label : Int)) rfl
      have x10 := elem_at taEnc_len hcell hx 10 (by omega) (by omega) (v := .int .i64 x.n) rfl
      have x11 := elem_at taEnc_len hcell hx 11 (by omega) (by omega) (v := .slice x.s.A x.s.xs.length x.s.cap) rfl
      have hl24 := len24 (HZ.out x (List.mem_of_getElem? hx))
      have hsn := totT_snoc hx
      have hsz := hB.size
      have hk' : (k : Int) < (xs.length : Int) := by omega
      have hk0 : (0 : Int) ≤ k := by omega
      have hll : (ad.add (k * 12)).block < wr.heap.size := by rw [block_add']; omega
      have HB := Lib.hid hB
      have HSN := Lib.hid hsn
      clear hx hcell hB hsn
      generalize totT (xs.take k) = T at *
      have HCA := Lib.hid (show (T : Int) + (10 + (x.s.xs.length : Int)) = ((T + (10 + x.s.xs.length) : Nat) : Int) by omega)
      by_cases hk1 : 200 < x.key.s.size
      · have hk1' : (200 : Int) < (x.key.s.size : Int) := by omega
        go_wp2
        go_ret
        exact ⟨_, rfl, HB.out.alloc hsz _, fun h => by cases h⟩
      have hk1' : ¬ (200 : Int) < (x.key.s.size : Int) := by omega
      by_cases hk2 : 200 < x.val.s.size
      · have hk2' : (200 : Int) < (x.val.s.size : Int) := by omega
        go_wp2
        go_ret
        exact ⟨_, rfl, HB.out.alloc hsz _, fun h => by cases h⟩
      have hk2' : ¬ (200 : Int) < (x.val.s.size : Int) := by omega
      by_cases hk3 : 2000 < T + (10 + x.s.xs.length)
      · have hk3' : (2000 : Int) < (T : Int) + (10 + (x.s.xs.length : Int)) := by omega
        go_wp2
        go_ret
        exact ⟨_, rfl, HB.out.alloc hsz _, fun h => by cases h⟩
      have hk3' : ¬ (2000 : Int) < (T : Int) + (10 + (x.s.xs.length : Int)) := by omega
      go_wp2
      go_roundw
      case rel => exact ⟨k + 1, by omega, by go_num, by rw [HSN.out, ← HCA.out], by rw [HSN.out]; omega, HB.out.alloc hsz _⟩
      case measure => simp [intOf]; omega
    · obtain rfl : k = xs.length := by omega
      rw [List.take_length] at hT
      go_wp2
      go_ret
      exact ⟨true, rfl, hB, fun _ => hT⟩
theorem tfew1_any (x : TAct) (n c : Nat) (t : TypeId) (w : World) (h : w.heap[n]? = some (.cells (taEnc x).toArray t (0, 0))) (hz : x.s.xs.length * 24 ≤ 140737488351232) (hs : x.key.s.size ≤ maxLen ∧ x.val.s.size ≤ maxLen) :
    Calls Try.prog 31 #[.slice (some ⟨n, 0, none⟩) 1 c] w (TFewPost [x] w) :=
  tfew_any [x] (some ⟨n, 0, none⟩) c w (.inr ⟨_, rfl, blk_lt h, by simpa using World.news_of_block h⟩) (by simp) (by simpa using hz) (by simpa using hs)
end Go.Proofs.Ythhphjfbdoffhaa
