/-
  WorldNone: a world that nobody made has no channels.
-/
import Derived.Test.YtkdoohmchdpjoaaWorldAwake
import Derived.Test.YtkdoohmchdpjoaaWorldEq
set_option linter.unusedVariables false
set_option linter.unusedSimpArgs false
namespace Go.Proofs.Ytkdoohmchdpjoaa
open Go.ChangeShapes Go.WideShapes Go.ChangeAt Go.RowKit

def vvEnc (v : VV) : List Value := [.int .i64 v.kind, .int .i64 v.n, .string v.s, .int .u64 (v.label : Int)]
def VVOk {H : Type} (v : VV) (d : DataW H) : Prop := v.label < 18446744073709551616 ∧ v.s.size ≤ maxLen
/-- A call of chapter 23's law. -/
structure WAct where
  act : Int
  pc : Nat
  k : Int
  v : VV
def waEnc (a : WAct) : List Value := [.int .i64 a.act, .int .u64 (a.pc : Int), .int .i64 a.k, .int .i64 a.v.kind, .int .i64 a.v.n, .string a.v.s, .int .u64 (a.v.label : Int)]
def WaOk {H : Type} (a : WAct) (d : DataW H) : Prop := a.pc < 18446744073709551616 ∧ a.v.label < 18446744073709551616 ∧ a.v.s.size ≤ maxLen

theorem decVV {H : Type} {enc : TypeId × Value → H} {w : World} : Dec enc Try.prog w 61 vvEnc VVOk := by
  intro fuel cs x h
  obtain ⟨ys, n, rfl, rfl, hlen, hl, hf⟩ := DataW.trod_struct Try.underlying61 h
  have hC : Try.prog.cellsOf 61 = 4 := by kernel_rfl
  rw [hC] at hlen
  have c0 : Try.prog.cellsOf 3 = 1 := by kernel_rfl
  have y0 : ys[0]? = some (ys[0]'(by rw [hl]; decide)) := List.getElem?_eq_getElem _
  obtain ⟨a0, h0, g0⟩ := decInt Try.underlying3 _ _ _ ((hf 0 _ rfl).trans y0)
  have p0 := drop_part (cs := cs) (o := 0) (K := Try.prog.cellsOf 3) (o' := 1) h0 (by rw [c0])
  have c1 : Try.prog.cellsOf 2 = 1 := by kernel_rfl
  have y1 : ys[1]? = some (ys[1]'(by rw [hl]; decide)) := List.getElem?_eq_getElem _
  obtain ⟨a1, h1, g1⟩ := decInt Try.underlying2 _ _ _ ((hf 1 _ rfl).trans y1)
  have p1 := drop_part (cs := cs) (o := 1) (K := Try.prog.cellsOf 2) (o' := 2) h1 (by rw [c1])
  have c2 : Try.prog.cellsOf 9 = 1 := by kernel_rfl
  have y2 : ys[2]? = some (ys[2]'(by rw [hl]; decide)) := List.getElem?_eq_getElem _
  obtain ⟨a2, h2, g2⟩ := decStr Try.underlying9 _ _ _ ((hf 2 _ rfl).trans y2)
  have p2 := drop_part (cs := cs) (o := 2) (K := Try.prog.cellsOf 9) (o' := 3) h2 (by rw [c2])
  have c3 : Try.prog.cellsOf 23 = 1 := by kernel_rfl
  have y3 : ys[3]? = some (ys[3]'(by rw [hl]; decide)) := List.getElem?_eq_getElem _
  obtain ⟨a3, h3, g3⟩ := decNat Try.underlying23 _ _ _ ((hf 3 _ rfl).trans y3)
  have p3 := drop_part (cs := cs) (o := 3) (K := Try.prog.cellsOf 23) (o' := 4) h3 (by rw [c3])
  have pn : cs.drop 4 = [] := List.drop_eq_nil_of_le (by omega)
  have hcs : cs = _ := p0
  rw [p1, p2, p3, pn] at hcs
  refine ⟨⟨a0, a1, a2, a3⟩, hcs, ?_⟩
  exact ⟨g3.1, g2.1⟩
theorem decWAct {H : Type} {enc : TypeId × Value → H} {w : World} : Dec enc Try.prog w 63 waEnc WaOk := by
  intro fuel cs x h
  obtain ⟨ys, n, rfl, rfl, hlen, hl, hf⟩ := DataW.trod_struct Try.underlying63 h
  have hC : Try.prog.cellsOf 63 = 7 := by kernel_rfl
  rw [hC] at hlen
  have c0 : Try.prog.cellsOf 3 = 1 := by kernel_rfl
  have y0 : ys[0]? = some (ys[0]'(by rw [hl]; decide)) := List.getElem?_eq_getElem _
  obtain ⟨a0, h0, g0⟩ := decInt Try.underlying3 _ _ _ ((hf 0 _ rfl).trans y0)
  have p0 := drop_part (cs := cs) (o := 0) (K := Try.prog.cellsOf 3) (o' := 1) h0 (by rw [c0])
  have c1 : Try.prog.cellsOf 23 = 1 := by kernel_rfl
  have y1 : ys[1]? = some (ys[1]'(by rw [hl]; decide)) := List.getElem?_eq_getElem _
  obtain ⟨a1, h1, g1⟩ := decNat Try.underlying23 _ _ _ ((hf 1 _ rfl).trans y1)
  have p1 := drop_part (cs := cs) (o := 1) (K := Try.prog.cellsOf 23) (o' := 2) h1 (by rw [c1])
  have c2 : Try.prog.cellsOf 3 = 1 := by kernel_rfl
  have y2 : ys[2]? = some (ys[2]'(by rw [hl]; decide)) := List.getElem?_eq_getElem _
  obtain ⟨a2, h2, g2⟩ := decInt Try.underlying3 _ _ _ ((hf 2 _ rfl).trans y2)
  have p2 := drop_part (cs := cs) (o := 2) (K := Try.prog.cellsOf 3) (o' := 3) h2 (by rw [c2])
  have c3 : Try.prog.cellsOf 61 = 4 := by kernel_rfl
  have y3 : ys[3]? = some (ys[3]'(by rw [hl]; decide)) := List.getElem?_eq_getElem _
  obtain ⟨a3, h3, g3⟩ := decVV _ _ _ ((hf 3 _ rfl).trans y3)
  have p3 := drop_part (cs := cs) (o := 3) (K := Try.prog.cellsOf 61) (o' := 7) h3 (by rw [c3])
  have pn : cs.drop 7 = [] := List.drop_eq_nil_of_le (by omega)
  have hcs : cs = _ := p0
  rw [p1, p2, p3, pn] at hcs
  refine ⟨⟨a0, a1, a2, a3⟩, hcs, ?_⟩
  exact ⟨g1.1, g3.1, g3.2⟩

set_option maxRecDepth 100000 in
theorem wnone_walk (a : WAct) (w : World) (hpc : a.pc < 18446744073709551616) (hlb : a.v.label < 18446744073709551616) :
    Calls Try.prog 9 #[.agg #[.int .i64 a.act, .int .u64 (a.pc : Int), .int .i64 a.k, .int .i64 a.v.kind, .int .i64 a.v.n, .string a.v.s, .int .u64 (a.v.label : Int)]] w (RetB (.bool true) w) := by
  go_enter Try.func9, Try.ntmps9
  go_wp2_with fail
  refine (awake23 _).mono ?_
  rintro e w1 ⟨rfl, hb1⟩
  have hbx := heap_alloc_new w (.cells #[.int .i64 a.act, .int .u64 (a.pc : Int), .int .i64 a.k, .int .i64 a.v.kind, .int .i64 a.v.n, .string a.v.s, .int .u64 (a.v.label : Int)] 63)
  have hbx1 := below_blk hb1 hbx
  have hbw : Below w.heap.size w w1 := ((Below.refl _ _).alloc (Nat.le_refl _) _).trans (hb1.mono (by simp))
  have hwr := fun w => wwrite_nil a.pc a.k a.v w hpc hlb
  unfold vvCells at hwr
  have hrd : ∀ w, Calls Try.prog 24 #[.pointer none, .int .u64 (a.pc : Int), .int .i64 a.k] w (RetB (.tuple #[.agg #[.int .i64 0, .int .i64 0, .string ByteArray.empty, .int .u64 0], .int .i64 1]) w) := fun w => wread_nil a.pc a.k w
  have HW := Lib.hid hwr
  have HR := Lib.hid hrd
  clear hbx hb1 hwr hrd
  have ha1 := cell_of_blk (i := 1) hbx1 rfl
  have ha2 := cell_of_blk (i := 2) hbx1 rfl
  go_wp2_with fail
  refine (HR.out w1).mono ?_
  rintro e w2 ⟨rfl, hb2⟩
  have hbw2 := hbw.trans (hb2.mono hbw.size)
  have hbx2 := below_blk hb2 hbx1
  have hbw2' : Below w.heap.size w (w2.alloc (.cells #[.int .i64 0, .int .i64 0, .string ByteArray.empty, .int .u64 0] 61)) := hbw2.alloc hbw2.size _
  clear hbx1 hbw hb2 hbw2 ha1 ha2
  have b1 := cell_of_blk (i := 1) hbx2 rfl
  have b2 := cell_of_blk (i := 2) hbx2 rfl
  have b3 := cell_of_blk (i := 3) hbx2 rfl
  have b4 := cell_of_blk (i := 4) hbx2 rfl
  have b5 := cell_of_blk (i := 5) hbx2 rfl
  have b6 := cell_of_blk (i := 6) hbx2 rfl
  have hlt2 := blk_lt hbx2
  clear hbx2
  have hpl : ∀ w, Calls Try.prog 30 #[.pointer none] w (RetB (.agg #[.int .i64 0, .int .i64 0, .int .i64 0, .int .i64 0, .int .i64 0, .int .i64 0, .int .i64 0, .int .i64 0]) w) := wplaces_nil
  have HP := Lib.hid hpl
  clear hpl
  go_wp2_with fail
  refine (HW.out _).mono ?_
  rintro e w3 ⟨rfl, hb3⟩
  go_wp2_with fail
  refine (wevents_nil w3).mono ?_
  rintro e w' ⟨rfl, rfl⟩
  go_wp2_with fail
  refine (HP.out w3).mono ?_
  rintro e w4 ⟨rfl, hb4⟩
  have heq : ∀ w, (Op.equalIn 10000 56 (.agg #[.int .i64 0, .int .i64 0, .int .i64 0, .int .i64 0, .int .i64 0, .int .i64 0, .int .i64 0, .int .i64 0]) (.agg #[.int .i64 0, .int .i64 0, .int .i64 0, .int .i64 0, .int .i64 0, .int .i64 0, .int .i64 0, .int .i64 0])).run Try.prog w = .ok true w := places_eq (fun _ => 0) (fun _ => 0)
  go_wp2
  go_ret
  exact ⟨rfl, (hbw2'.trans (hb3.mono hbw2'.size)).trans (hb4.mono (hbw2'.trans (hb3.mono hbw2'.size)).size)⟩

set_option maxRecDepth 100000 in
theorem wnone_lifted (os : Os) (started : os.Started) (H : Type) (enc : TypeId × Value → H) :
    ReturnsInHanded {} Try.checked os 9 .any (Rows.worldNoneSpec.pre6 enc Try.prog Try.f9 Rows.worldNoneRow.domain false) (Rows.worldNoneSpec.post enc Try.prog Try.f9 false true false false) := by
  refine returnsInHanded_of_change_sized (C := Try.checked) own started (by kernel_rfl) Try.func9
    (ChangeSpec.witness6 (enc := enc) (C := Try.checked) false ⟨#[], #[.agg #[.int .i64 0, .int .u64 0, .int .i64 0, .int .i64 0, .int .i64 0, .string ByteArray.empty, .int .u64 0]], []⟩ 8 (by kernel_rfl) (by kernel_rfl) (by kernel_rfl) (by kernel_rfl)) ?_
  intro W base args ds gs before hval0 hW hcnd hsz0 _
  have hval : ∀ (j : Nat) t v, Try.f9.params[j]? = some t → args[j]? = some v → Value.okWide Try.prog W .any base t v := hval0
  have hsz : (DataW.weightsEach Try.prog (Try.f9.params.toList ++ Rows.worldNoneSpec.plain.varTypes Try.prog) (ds ++ gs)).all (· ≤ reachBytes) = true := hsz0
  have hW' := hW
  obtain ⟨p, q, hA0, hV, rfl, hfz, hnd⟩ := hW
  have hA : DataW.TrodAll enc Try.prog W 0 (fun _ => true) true Try.f9.params.toList args.toList ds p := hA0
  rw [Try.params9] at hA hval hsz
  obtain ⟨v0, vs0, d0, ds0, p0, q0, hargs0, rfl, rfl, h0, r0⟩ := trodAll_cons hA
  obtain ⟨rfl, rfl, rfl⟩ := trodAll_nil r0
  obtain rfl : args = #[v0] := by cases args; simp_all
  obtain ⟨rfl, rfl⟩ := trodVars_none hV
  obtain ⟨a, rfl, w0⟩ := open_agg (.inl ⟨_, Try.underlying63⟩) (hval 0 63 v0 rfl rfl) h0 decWAct
  refine (wnone_walk a W w0.1 w0.2.1).mono fun e W' ⟨he, hb⟩ => ⟨_, he, ?_⟩
  exact law_post laidOut hW' rfl rfl Try.underlying4 (by kernel_rfl) rfl rfl rfl hb

theorem wnone_holds : Rows.WorldNoneSaid :=
  OpenClaim.holds_of_wide 9 Try.f9 rfl rfl rfl rfl rfl rfl rfl ⟨rfl, rfl, rfl, rfl, rfl⟩ rfl rfl rfl rfl rfl (by kernel_rfl) Try.func9 (by kernel_rfl)
    (of_decide_eq_true (by kernel_rfl)) (by unfold Func.isWrapper; first | (rw [if_pos (by decide +kernel)]; kernel_rfl) | (rw [if_neg (by decide +kernel)]; exact ⟨rfl, rfl⟩))
    (fun os started H enc _ => wnone_lifted os started H enc)
#print axioms wnone_holds
end Go.Proofs.Ytkdoohmchdpjoaa
