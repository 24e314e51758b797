/-
  Chapter 10's examples.
-/
import Derived.Test.YtllpicibncdppaaDoorReWrap
import Derived.RegionTactic
import Derived.ChangeAlike
set_option linter.unusedVariables false
set_option linter.unusedSimpArgs false
namespace Go.Proofs.YtllpicibncdppaaDoor
open Go.ChangeShapes Go.WideShapes Go.ChangeAt Go.RowKit

/-- A type without names or parts. -/
def leaf10 (k : Int) : LTy := .mk k none 0 [] none 0 []
theorem strip_leaf10 (k : Int) : strip (leaf10 k) = .mk k [] [] := by rw [strip_mk]; rfl
theorem leaf10_in (k : Int) (w : World) (B : Nat) : LIn w B (leaf10 k) := .mk (.inl rfl) (.inl rfl) (Nat.le_refl _) (Nat.zero_le _) (Nat.le_refl _) (Nat.zero_le _) (fun s hs => by simp [leaf10, LTy.ns] at hs) (fun _ => rfl) (fun x hx => by simp [leaf10, LTy.xs] at hx)
/-- A function of one parameter. -/
def fun10 (b : Nat) (k : Int) : LTy := .mk 9 none 0 [] (some ⟨b, 0, none⟩) 2 [leaf10 k, leaf10 k]
def tyF (k : Int) : Ty := .mk 9 [] [.mk k [] [], .mk k [] []]
theorem strip_fun10 (b : Nat) (k : Int) : strip (fun10 b k) = tyF k := by
  rw [strip_mk]
  show Ty.mk 9 [] [strip (leaf10 k), strip (leaf10 k)] = _
  rw [strip_leaf10]; rfl
def row10 (k : Int) : Obj := .cells #[.int .i64 k, .slice none 0 0, .slice none 0 0, .int .i64 k, .slice none 0 0, .slice none 0 0] 26
theorem fun10_in {w : World} {b : Nat} {k : Int} (h : w.heap[b]? = some (row10 k)) : LIn w w.heap.size (fun10 b k) := by
  have hb : b < w.heap.size := blk_lt h
  have hc : ∀ i v, (#[.int .i64 k, .slice none 0 0, .slice none 0 0, .int .i64 k, .slice none 0 0, .slice none 0 0] : Array Value)[i]? = some v → w.cell? ⟨b, i, none⟩ = some v := fun i v e => cell_of_blk h e
  refine .mk (.inl rfl) (.inr ⟨⟨b, 0, none⟩, rfl, hb, fun j u hu => ?_⟩) (Nat.le_refl _) (Nat.zero_le _) (Nat.le_refl _) (by show 2 ≤ 8796093022208; omega) (fun s hs => by simp [fun10, LTy.ns] at hs) (fun _ => rfl) (fun x hx => ?_)
  · have hu' : (#[.int .i64 k, .slice none 0 0, .slice none 0 0, .int .i64 k, .slice none 0 0, .slice none 0 0] : Array Value)[j]? = some u := by
      rw [← Array.getElem?_toList]
      exact hu
    have := hc j u hu'
    unfold Addr.add
    split
    · rename_i e; subst e; exact this
    · simpa using this
  · have : x = leaf10 k := by simpa [fun10, LTy.xs] using hx
    rw [this]
    exact leaf10_in _ _ _
theorem may_leaf {k : Int} (h0 : 0 ≤ k) (h6 : k ≤ 6) : May (.mk k [] []) := ⟨leaf_chk h0 h6, by rw [nodes_args]; show 0 + 1 ≤ 10000; omega⟩
theorem may_fun {k : Int} (h0 : 0 ≤ k) (h6 : k ≤ 6) : May (tyF k) := by
  refine ⟨⟨.inr (.inr (.inr ⟨rfl, rfl, by show 0 < 2; omega⟩)), fun i a ha => ?_⟩, by simp [nodes, nodesL, tyF]⟩
  have hm := List.mem_of_getElem? ha
  have : a = .mk k [] [] := by simpa [tyF, Ty.args] using hm
  subst this
  exact ⟨⟨fun e => by simp [tyF, Ty.kind] at e, fun e => by simp [tyF, Ty.kind] at e⟩, leaf_chk h0 h6⟩
theorem goes_leaf_any (h : Bool) (n : Nat) (k : Int) : Goes h (n + 1) (.mk k [] []) (.mk 0 [] []) := goes_any rfl
theorem sub1 : Sub (.mk 3 [] []) (.mk 0 [] []) := ⟨may_leaf (by omega) (by omega), may_leaf (by omega) (by omega), goes_any rfl⟩
theorem sub2 : ¬ Sub (.mk 0 [] []) (.mk 3 [] []) := fun e => by
  have := (goes_from (h := false) (n := 49) (a := .mk 0 [] []) (b := .mk 3 [] []) (by show ¬ (3 : Int) = 0; omega) rfl).1 e.2.2
  cases this
theorem ease1 : Ease (.mk 0 [] []) (.mk 3 [] []) := ⟨may_leaf (by omega) (by omega), may_leaf (by omega) (by omega), (goes_from (by show ¬ (3 : Int) = 0; omega) rfl).2 rfl⟩
theorem side1 : sideV (.mk 0 [] []) (.mk 3 [] []) = 1 := side_one ⟨may_leaf (by omega) (by omega), may_leaf (by omega) (by omega)⟩ (.any rfl)
theorem at2 {α : Type} {a : α} {i : Nat} {x : α} (h : [a, a][i]? = some x) : x = a := by
  have := List.mem_of_getElem? h
  simpa using this
theorem ease2 : Ease (tyF 3) (tyF 0) := by
  refine ⟨may_fun (by omega) (by omega), may_fun (by omega) (by omega), (goes_func rfl (by show ¬ (9 : Int) = 0; omega)).2 ⟨rfl, rfl, rfl, fun i x y _ hx hy => ?_, fun x y hx hy => ?_⟩⟩
  · rw [at2 hx, at2 hy]
    exact (goes_from (by show ¬ (3 : Int) = 0; omega) rfl).2 rfl
  · rw [at2 hx, at2 hy]
    exact goes_any rfl
theorem sub3 : ¬ Sub (tyF 3) (tyF 0) := fun e => by
  have h1 := ((goes_func (h := false) (n := 49) (a := tyF 3) (b := tyF 0) rfl (by show ¬ (9 : Int) = 0; omega)).1 e.2.2).2.2.2.1 0 (.mk 3 [] []) (.mk 0 [] []) (by show 0 + 1 < 2; omega) rfl rfl
  have := (goes_from (h := false) (n := 48) (a := .mk 0 [] []) (b := .mk 3 [] []) (by show ¬ (3 : Int) = 0; omega) rfl).1 h1
  cases this
theorem loose_leaf {k : Int} (h0 : ¬ k = 0) (h5 : ¬ k = 5) : ¬ Loose (.mk k [] []) := fun e => by
  cases e with
  | any h => exact h0 h
  | table h => exact h5 h
  | part h _ => simp [Ty.args] at h
theorem side2 : sideV (tyF 3) (tyF 0) = 2 := by
  refine side_two ⟨may_fun (by omega) (by omega), may_fun (by omega) (by omega)⟩ (fun e => ?_) (.part (a := .mk 0 [] []) (by simp [tyF, Ty.args]) (.any rfl))
  cases e with
  | any h => simp [tyF, Ty.kind] at h
  | table h => simp [tyF, Ty.kind] at h
  | @part _ a h1 h2 =>
    have : a = Ty.mk 3 [] [] := by simpa [tyF, Ty.args] using h1
    rw [this] at h2
    exact loose_leaf (by omega) (by omega) h2
def Awake10 (w : World) (e : Ending) (w' : World) : Prop := e = .returned (.bool true) ∧ Below w.heap.size w w'
set_option maxRecDepth 100000 in
set_option maxHeartbeats 16000000 in
theorem awake10_any (w : World) (hsp : SpW w) : Calls Tryd.prog 21 #[] w (Awake10 w) := by
  have HSP := Lib.hid hsp
  clear hsp
  obtain ⟨g, hg⟩ : ∃ g, g = w.heap.size := ⟨_, rfl⟩
  go_enter Tryd.func21, Tryd.ntmps21
  go_upto_region 2 with fail
  rw [← hg]
  refine gen_wpT fun W hW => ?_
  have kt : TBox W g (leaf10 0) := by rw [← hW, hg]; exact (two_boxes w (leaf10 0) (leaf10 3)).1
  have ku : TBox W (g + 1) (leaf10 3) := by rw [← hW, hg]; exact (two_boxes w (leaf10 0) (leaf10 3)).2.1
  have kb : Below w.heap.size w W := by rw [← hW]; exact (two_boxes w (leaf10 0) (leaf10 3)).2.2
  have c0 : W.cell? ⟨g, 0, none⟩ = some (.int .i64 0) := kt.c0
  have c1 : W.cell? ⟨g, 1, none⟩ = some (.slice none 0 0) := kt.c1
  have c2 : W.cell? ⟨g, 2, none⟩ = some (.slice none 0 0) := kt.c2
  have d0 : W.cell? ⟨g + 1, 0, none⟩ = some (.int .i64 3) := ku.c0
  have d1 : W.cell? ⟨g + 1, 1, none⟩ = some (.slice none 0 0) := ku.c1
  have d2 : W.cell? ⟨g + 1, 2, none⟩ = some (.slice none 0 0) := ku.c2
  have lg := kt.lt
  have lg1 := ku.lt
  have c0_3 : ∀ X Y Z : Obj, (((W.alloc X).alloc Y).alloc Z).cell? ⟨g, 0, none⟩ = some (.int .i64 0) := fun X Y Z => (Below.cell (p := ⟨g, 0, none⟩) ((((Below.refl _ _).alloc (Nat.le_refl _) _).alloc (by simp <;> omega) _).alloc (by simp <;> omega) _) lg).trans c0
  have c1_3 : ∀ X Y Z : Obj, (((W.alloc X).alloc Y).alloc Z).cell? ⟨g, 1, none⟩ = some (.slice none 0 0) := fun X Y Z => (Below.cell (p := ⟨g, 1, none⟩) ((((Below.refl _ _).alloc (Nat.le_refl _) _).alloc (by simp <;> omega) _).alloc (by simp <;> omega) _) lg).trans c1
  have c2_3 : ∀ X Y Z : Obj, (((W.alloc X).alloc Y).alloc Z).cell? ⟨g, 2, none⟩ = some (.slice none 0 0) := fun X Y Z => (Below.cell (p := ⟨g, 2, none⟩) ((((Below.refl _ _).alloc (Nat.le_refl _) _).alloc (by simp <;> omega) _).alloc (by simp <;> omega) _) lg).trans c2
  have d0_3 : ∀ X Y Z : Obj, (((W.alloc X).alloc Y).alloc Z).cell? ⟨g + 1, 0, none⟩ = some (.int .i64 3) := fun X Y Z => (Below.cell (p := ⟨g + 1, 0, none⟩) ((((Below.refl _ _).alloc (Nat.le_refl _) _).alloc (by simp <;> omega) _).alloc (by simp <;> omega) _) lg1).trans d0
  have d1_3 : ∀ X Y Z : Obj, (((W.alloc X).alloc Y).alloc Z).cell? ⟨g + 1, 1, none⟩ = some (.slice none 0 0) := fun X Y Z => (Below.cell (p := ⟨g + 1, 1, none⟩) ((((Below.refl _ _).alloc (Nat.le_refl _) _).alloc (by simp <;> omega) _).alloc (by simp <;> omega) _) lg1).trans d1
  have d2_3 : ∀ X Y Z : Obj, (((W.alloc X).alloc Y).alloc Z).cell? ⟨g + 1, 2, none⟩ = some (.slice none 0 0) := fun X Y Z => (Below.cell (p := ⟨g + 1, 2, none⟩) ((((Below.refl _ _).alloc (Nat.le_refl _) _).alloc (by simp <;> omega) _).alloc (by simp <;> omega) _) lg1).trans d2
  have c0_4 : ∀ X Y Z U : Obj, ((((W.alloc X).alloc Y).alloc Z).alloc U).cell? ⟨g, 0, none⟩ = some (.int .i64 0) := fun X Y Z U => (Below.cell (p := ⟨g, 0, none⟩) (((((Below.refl _ _).alloc (Nat.le_refl _) _).alloc (by simp <;> omega) _).alloc (by simp <;> omega) _).alloc (by simp <;> omega) _) lg).trans c0
  have c1_4 : ∀ X Y Z U : Obj, ((((W.alloc X).alloc Y).alloc Z).alloc U).cell? ⟨g, 1, none⟩ = some (.slice none 0 0) := fun X Y Z U => (Below.cell (p := ⟨g, 1, none⟩) (((((Below.refl _ _).alloc (Nat.le_refl _) _).alloc (by simp <;> omega) _).alloc (by simp <;> omega) _).alloc (by simp <;> omega) _) lg).trans c1
  have c2_4 : ∀ X Y Z U : Obj, ((((W.alloc X).alloc Y).alloc Z).alloc U).cell? ⟨g, 2, none⟩ = some (.slice none 0 0) := fun X Y Z U => (Below.cell (p := ⟨g, 2, none⟩) (((((Below.refl _ _).alloc (Nat.le_refl _) _).alloc (by simp <;> omega) _).alloc (by simp <;> omega) _).alloc (by simp <;> omega) _) lg).trans c2
  have d0_4 : ∀ X Y Z U : Obj, ((((W.alloc X).alloc Y).alloc Z).alloc U).cell? ⟨g + 1, 0, none⟩ = some (.int .i64 3) := fun X Y Z U => (Below.cell (p := ⟨g + 1, 0, none⟩) (((((Below.refl _ _).alloc (Nat.le_refl _) _).alloc (by simp <;> omega) _).alloc (by simp <;> omega) _).alloc (by simp <;> omega) _) lg1).trans d0
  have d1_4 : ∀ X Y Z U : Obj, ((((W.alloc X).alloc Y).alloc Z).alloc U).cell? ⟨g + 1, 1, none⟩ = some (.slice none 0 0) := fun X Y Z U => (Below.cell (p := ⟨g + 1, 1, none⟩) (((((Below.refl _ _).alloc (Nat.le_refl _) _).alloc (by simp <;> omega) _).alloc (by simp <;> omega) _).alloc (by simp <;> omega) _) lg1).trans d1
  have d2_4 : ∀ X Y Z U : Obj, ((((W.alloc X).alloc Y).alloc Z).alloc U).cell? ⟨g + 1, 2, none⟩ = some (.slice none 0 0) := fun X Y Z U => (Below.cell (p := ⟨g + 1, 2, none⟩) (((((Below.refl _ _).alloc (Nat.le_refl _) _).alloc (by simp <;> omega) _).alloc (by simp <;> omega) _).alloc (by simp <;> omega) _) lg1).trans d2
  have KT := Lib.hid kt
  have KU := Lib.hid ku
  have KB := Lib.hid kb
  clear hW kt ku kb hg
  go_cut [3, 4] from 7 to 14 (fun s3 s4 wx => ∃ p q b1 b2 : Nat, s3 = .pointer (some ⟨p, 0, none⟩) ∧ s4 = .pointer (some ⟨q, 0, none⟩) ∧ Hid (TBox wx p (fun10 b1 3) ∧ TBox wx q (fun10 b2 0) ∧ wx.heap[b1]? = some (row10 3) ∧ wx.heap[b2]? = some (row10 0) ∧ Below W.heap.size W wx))
  case first =>
    go_region
    all_goals
      go_wp2_with fail
      go_meet
      case rel => exact ⟨_, _, _, _, rfl, rfl, Lib.hid ⟨by (refine blk_drew ?_; first | (refine heap_new_at _ _ _ ?_; simp; done) | (refine blk_alloc (heap_new_at _ _ _ ?_) _; simp; done) | (refine blk_alloc (blk_alloc (heap_new_at _ _ _ ?_) _) _; simp; done) | (refine blk_alloc (blk_alloc (blk_alloc (heap_new_at _ _ _ ?_) _) _) _; simp; done)), by (refine blk_drew ?_; first | (refine heap_new_at _ _ _ ?_; simp; done) | (refine blk_alloc (heap_new_at _ _ _ ?_) _; simp; done) | (refine blk_alloc (blk_alloc (heap_new_at _ _ _ ?_) _) _; simp; done) | (refine blk_alloc (blk_alloc (blk_alloc (heap_new_at _ _ _ ?_) _) _) _; simp; done)), by (refine blk_drew ?_; first | (refine heap_new_at _ _ _ ?_; simp; done) | (refine blk_alloc (heap_new_at _ _ _ ?_) _; simp; done) | (refine blk_alloc (blk_alloc (heap_new_at _ _ _ ?_) _) _; simp; done) | (refine blk_alloc (blk_alloc (blk_alloc (heap_new_at _ _ _ ?_) _) _) _; simp; done)), by (refine blk_drew ?_; first | (refine heap_new_at _ _ _ ?_; simp; done) | (refine blk_alloc (heap_new_at _ _ _ ?_) _; simp; done) | (refine blk_alloc (blk_alloc (heap_new_at _ _ _ ?_) _) _; simp; done) | (refine blk_alloc (blk_alloc (blk_alloc (heap_new_at _ _ _ ?_) _) _) _; simp; done)), ((((((Below.refl _ _).alloc (Nat.le_refl _) _).alloc (by simp <;> omega) _).alloc (by simp <;> omega) _).alloc (by simp <;> omega) _).drew)⟩⟩
  case rest =>
    obtain ⟨p, q, b1, b2, rfl, rfl, HC⟩ := hcut
    have hbw := HC.out.2.2.2.2
    have A0 := Lib.hid (KT.out.below hbw)
    have A1 := Lib.hid (KU.out.below hbw)
    have A2 := Lib.hid HC.out.1
    have A3 := Lib.hid HC.out.2.1
    have AB := Lib.hid (KB.out.trans (hbw.mono KB.out.size))
    have F1 := Lib.hid (fun10_in HC.out.2.2.1)
    have F2 := Lib.hid (fun10_in HC.out.2.2.2.1)
    clear hbw
    have C1 := Lib.hid (show ∀ w', Below wc.heap.size wc w' → Calls Tryd.prog 23 #[.agg #[.int .i64 3, .slice none 0 0, .slice none 0 0], .agg #[.int .i64 0, .slice none 0 0, .slice none 0 0]] w' (RetB (.bool true) w') from fun w' hb => by
      have := tSub_any (leaf10 3) (leaf10 0) w' (leaf10_in _ _ _) (leaf10_in _ _ _) (HSP.out.below (AB.out.trans (hb.mono AB.out.size)))
      rw [strip_leaf10, strip_leaf10, tb_true sub1] at this
      exact this)
    have C2 := Lib.hid (show ∀ w', Below wc.heap.size wc w' → Calls Tryd.prog 23 #[.agg #[.int .i64 0, .slice none 0 0, .slice none 0 0], .agg #[.int .i64 3, .slice none 0 0, .slice none 0 0]] w' (RetB (.bool false) w') from fun w' hb => by
      have := tSub_any (leaf10 0) (leaf10 3) w' (leaf10_in _ _ _) (leaf10_in _ _ _) (HSP.out.below (AB.out.trans (hb.mono AB.out.size)))
      rw [strip_leaf10, strip_leaf10, tb_false sub2] at this
      exact this)
    have C3 := Lib.hid (show ∀ w', Below wc.heap.size wc w' → Calls Tryd.prog 25 #[.agg #[.int .i64 0, .slice none 0 0, .slice none 0 0], .agg #[.int .i64 3, .slice none 0 0, .slice none 0 0]] w' (RetB (.bool true) w') from fun w' hb => by
      have := tEase_any (leaf10 0) (leaf10 3) w' (leaf10_in _ _ _) (leaf10_in _ _ _) (HSP.out.below (AB.out.trans (hb.mono AB.out.size)))
      rw [strip_leaf10, strip_leaf10, tb_true ease1] at this
      exact this)
    have C4 := Lib.hid (show ∀ w', Below wc.heap.size wc w' → Calls Tryd.prog 27 #[.agg #[.int .i64 0, .slice none 0 0, .slice none 0 0], .agg #[.int .i64 3, .slice none 0 0, .slice none 0 0]] w' (RetB (.int .i64 1) w') from fun w' hb => by
      have := tSide_any (leaf10 0) (leaf10 3) w' (leaf10_in _ _ _) (leaf10_in _ _ _) (HSP.out.below (AB.out.trans (hb.mono AB.out.size)))
      rw [strip_leaf10, strip_leaf10, side1] at this
      exact this)
    have C5 := Lib.hid (show ∀ w', Below wc.heap.size wc w' → Calls Tryd.prog 25 #[.agg #[.int .i64 9, .slice none 0 0, .slice (some ⟨b1, 0, none⟩) 2 2], .agg #[.int .i64 9, .slice none 0 0, .slice (some ⟨b2, 0, none⟩) 2 2]] w' (RetB (.bool true) w') from fun w' hb => by
      have := tEase_any (fun10 b1 3) (fun10 b2 0) w' (F1.out.on hb) (F2.out.on hb) (HSP.out.below (AB.out.trans (hb.mono AB.out.size)))
      rw [strip_fun10, strip_fun10, tb_true ease2] at this
      exact this)
    have C6 := Lib.hid (show ∀ w', Below wc.heap.size wc w' → Calls Tryd.prog 23 #[.agg #[.int .i64 9, .slice none 0 0, .slice (some ⟨b1, 0, none⟩) 2 2], .agg #[.int .i64 9, .slice none 0 0, .slice (some ⟨b2, 0, none⟩) 2 2]] w' (RetB (.bool false) w') from fun w' hb => by
      have := tSub_any (fun10 b1 3) (fun10 b2 0) w' (F1.out.on hb) (F2.out.on hb) (HSP.out.below (AB.out.trans (hb.mono AB.out.size)))
      rw [strip_fun10, strip_fun10, tb_false sub3] at this
      exact this)
    have C7 := Lib.hid (show ∀ w', Below wc.heap.size wc w' → Calls Tryd.prog 27 #[.agg #[.int .i64 9, .slice none 0 0, .slice (some ⟨b1, 0, none⟩) 2 2], .agg #[.int .i64 9, .slice none 0 0, .slice (some ⟨b2, 0, none⟩) 2 2]] w' (RetB (.int .i64 2) w') from fun w' hb => by
      have := tSide_any (fun10 b1 3) (fun10 b2 0) w' (F1.out.on hb) (F2.out.on hb) (HSP.out.below (AB.out.trans (hb.mono AB.out.size)))
      rw [strip_fun10, strip_fun10, side2] at this
      exact this)
    have kA00 : wc.cell? ⟨g, 0, none⟩ = some (.int .i64 0) := A0.out.c0
    have kA01 : wc.cell? ⟨g, 1, none⟩ = some (.slice none 0 0) := A0.out.c1
    have kA02 : wc.cell? ⟨g, 2, none⟩ = some (.slice none 0 0) := A0.out.c2
    have lA0 := A0.out.lt
    have kA10 : wc.cell? ⟨g + 1, 0, none⟩ = some (.int .i64 3) := A1.out.c0
    have kA11 : wc.cell? ⟨g + 1, 1, none⟩ = some (.slice none 0 0) := A1.out.c1
    have kA12 : wc.cell? ⟨g + 1, 2, none⟩ = some (.slice none 0 0) := A1.out.c2
    have lA1 := A1.out.lt
    have kA20 : wc.cell? ⟨p, 0, none⟩ = some (.int .i64 9) := A2.out.c0
    have kA21 : wc.cell? ⟨p, 1, none⟩ = some (.slice none 0 0) := A2.out.c1
    have kA22 : wc.cell? ⟨p, 2, none⟩ = some (.slice (some ⟨b1, 0, none⟩) 2 2) := A2.out.c2
    have lA2 := A2.out.lt
    have kA30 : wc.cell? ⟨q, 0, none⟩ = some (.int .i64 9) := A3.out.c0
    have kA31 : wc.cell? ⟨q, 1, none⟩ = some (.slice none 0 0) := A3.out.c1
    have kA32 : wc.cell? ⟨q, 2, none⟩ = some (.slice (some ⟨b2, 0, none⟩) 2 2) := A3.out.c2
    have lA3 := A3.out.lt
    have Z0 := Lib.hid (Below.refl wc.heap.size wc)
    clear HC
    go_wp2_with fail
    with_reducible refine (C1.out _ Z0.out).mono ?_
    rintro e v1 ⟨rfl, hb1⟩
    have A0_1 := Lib.hid (A0.out.below hb1)
    have A1_1 := Lib.hid (A1.out.below hb1)
    have A2_1 := Lib.hid (A2.out.below hb1)
    have A3_1 := Lib.hid (A3.out.below hb1)
    have Z1 := Lib.hid (Z0.out.trans (hb1.mono Z0.out.size))
    clear hb1
    clear kA00 kA01 kA02 kA10 kA11 kA12 kA20 kA21 kA22 kA30 kA31 kA32
    have kA0_10 : v1.cell? ⟨g, 0, none⟩ = some (.int .i64 0) := A0_1.out.c0
    have kA0_11 : v1.cell? ⟨g, 1, none⟩ = some (.slice none 0 0) := A0_1.out.c1
    have kA0_12 : v1.cell? ⟨g, 2, none⟩ = some (.slice none 0 0) := A0_1.out.c2
    have lA0_1 := A0_1.out.lt
    have kA1_10 : v1.cell? ⟨g + 1, 0, none⟩ = some (.int .i64 3) := A1_1.out.c0
    have kA1_11 : v1.cell? ⟨g + 1, 1, none⟩ = some (.slice none 0 0) := A1_1.out.c1
    have kA1_12 : v1.cell? ⟨g + 1, 2, none⟩ = some (.slice none 0 0) := A1_1.out.c2
    have lA1_1 := A1_1.out.lt
    have kA2_10 : v1.cell? ⟨p, 0, none⟩ = some (.int .i64 9) := A2_1.out.c0
    have kA2_11 : v1.cell? ⟨p, 1, none⟩ = some (.slice none 0 0) := A2_1.out.c1
    have kA2_12 : v1.cell? ⟨p, 2, none⟩ = some (.slice (some ⟨b1, 0, none⟩) 2 2) := A2_1.out.c2
    have lA2_1 := A2_1.out.lt
    have kA3_10 : v1.cell? ⟨q, 0, none⟩ = some (.int .i64 9) := A3_1.out.c0
    have kA3_11 : v1.cell? ⟨q, 1, none⟩ = some (.slice none 0 0) := A3_1.out.c1
    have kA3_12 : v1.cell? ⟨q, 2, none⟩ = some (.slice (some ⟨b2, 0, none⟩) 2 2) := A3_1.out.c2
    have lA3_1 := A3_1.out.lt
    go_wp2_with fail
    with_reducible refine (C2.out _ Z1.out).mono ?_
    rintro e v2 ⟨rfl, hb2⟩
    have A0_2 := Lib.hid (A0_1.out.below hb2)
    have A1_2 := Lib.hid (A1_1.out.below hb2)
    have A2_2 := Lib.hid (A2_1.out.below hb2)
    have A3_2 := Lib.hid (A3_1.out.below hb2)
    have Z2 := Lib.hid (Z1.out.trans (hb2.mono Z1.out.size))
    clear hb2
    clear kA0_10 kA0_11 kA0_12 kA1_10 kA1_11 kA1_12 kA2_10 kA2_11 kA2_12 kA3_10 kA3_11 kA3_12
    have kA0_20 : v2.cell? ⟨g, 0, none⟩ = some (.int .i64 0) := A0_2.out.c0
    have kA0_21 : v2.cell? ⟨g, 1, none⟩ = some (.slice none 0 0) := A0_2.out.c1
    have kA0_22 : v2.cell? ⟨g, 2, none⟩ = some (.slice none 0 0) := A0_2.out.c2
    have lA0_2 := A0_2.out.lt
    have kA1_20 : v2.cell? ⟨g + 1, 0, none⟩ = some (.int .i64 3) := A1_2.out.c0
    have kA1_21 : v2.cell? ⟨g + 1, 1, none⟩ = some (.slice none 0 0) := A1_2.out.c1
    have kA1_22 : v2.cell? ⟨g + 1, 2, none⟩ = some (.slice none 0 0) := A1_2.out.c2
    have lA1_2 := A1_2.out.lt
    have kA2_20 : v2.cell? ⟨p, 0, none⟩ = some (.int .i64 9) := A2_2.out.c0
    have kA2_21 : v2.cell? ⟨p, 1, none⟩ = some (.slice none 0 0) := A2_2.out.c1
    have kA2_22 : v2.cell? ⟨p, 2, none⟩ = some (.slice (some ⟨b1, 0, none⟩) 2 2) := A2_2.out.c2
    have lA2_2 := A2_2.out.lt
    have kA3_20 : v2.cell? ⟨q, 0, none⟩ = some (.int .i64 9) := A3_2.out.c0
    have kA3_21 : v2.cell? ⟨q, 1, none⟩ = some (.slice none 0 0) := A3_2.out.c1
    have kA3_22 : v2.cell? ⟨q, 2, none⟩ = some (.slice (some ⟨b2, 0, none⟩) 2 2) := A3_2.out.c2
    have lA3_2 := A3_2.out.lt
    go_wp2_with fail
    with_reducible refine (C3.out _ Z2.out).mono ?_
    rintro e v3 ⟨rfl, hb3⟩
    have A0_3 := Lib.hid (A0_2.out.below hb3)
    have A1_3 := Lib.hid (A1_2.out.below hb3)
    have A2_3 := Lib.hid (A2_2.out.below hb3)
    have A3_3 := Lib.hid (A3_2.out.below hb3)
    have Z3 := Lib.hid (Z2.out.trans (hb3.mono Z2.out.size))
    clear hb3
    clear kA0_20 kA0_21 kA0_22 kA1_20 kA1_21 kA1_22 kA2_20 kA2_21 kA2_22 kA3_20 kA3_21 kA3_22
    have kA0_30 : v3.cell? ⟨g, 0, none⟩ = some (.int .i64 0) := A0_3.out.c0
    have kA0_31 : v3.cell? ⟨g, 1, none⟩ = some (.slice none 0 0) := A0_3.out.c1
    have kA0_32 : v3.cell? ⟨g, 2, none⟩ = some (.slice none 0 0) := A0_3.out.c2
    have lA0_3 := A0_3.out.lt
    have kA1_30 : v3.cell? ⟨g + 1, 0, none⟩ = some (.int .i64 3) := A1_3.out.c0
    have kA1_31 : v3.cell? ⟨g + 1, 1, none⟩ = some (.slice none 0 0) := A1_3.out.c1
    have kA1_32 : v3.cell? ⟨g + 1, 2, none⟩ = some (.slice none 0 0) := A1_3.out.c2
    have lA1_3 := A1_3.out.lt
    have kA2_30 : v3.cell? ⟨p, 0, none⟩ = some (.int .i64 9) := A2_3.out.c0
    have kA2_31 : v3.cell? ⟨p, 1, none⟩ = some (.slice none 0 0) := A2_3.out.c1
    have kA2_32 : v3.cell? ⟨p, 2, none⟩ = some (.slice (some ⟨b1, 0, none⟩) 2 2) := A2_3.out.c2
    have lA2_3 := A2_3.out.lt
    have kA3_30 : v3.cell? ⟨q, 0, none⟩ = some (.int .i64 9) := A3_3.out.c0
    have kA3_31 : v3.cell? ⟨q, 1, none⟩ = some (.slice none 0 0) := A3_3.out.c1
    have kA3_32 : v3.cell? ⟨q, 2, none⟩ = some (.slice (some ⟨b2, 0, none⟩) 2 2) := A3_3.out.c2
    have lA3_3 := A3_3.out.lt
    go_wp2_with fail
    with_reducible refine (C4.out _ Z3.out).mono ?_
    rintro e v4 ⟨rfl, hb4⟩
    have A0_4 := Lib.hid (A0_3.out.below hb4)
    have A1_4 := Lib.hid (A1_3.out.below hb4)
    have A2_4 := Lib.hid (A2_3.out.below hb4)
    have A3_4 := Lib.hid (A3_3.out.below hb4)
    have Z4 := Lib.hid (Z3.out.trans (hb4.mono Z3.out.size))
    clear hb4
    clear kA0_30 kA0_31 kA0_32 kA1_30 kA1_31 kA1_32 kA2_30 kA2_31 kA2_32 kA3_30 kA3_31 kA3_32
    have kA0_40 : v4.cell? ⟨g, 0, none⟩ = some (.int .i64 0) := A0_4.out.c0
    have kA0_41 : v4.cell? ⟨g, 1, none⟩ = some (.slice none 0 0) := A0_4.out.c1
    have kA0_42 : v4.cell? ⟨g, 2, none⟩ = some (.slice none 0 0) := A0_4.out.c2
    have lA0_4 := A0_4.out.lt
    have kA1_40 : v4.cell? ⟨g + 1, 0, none⟩ = some (.int .i64 3) := A1_4.out.c0
    have kA1_41 : v4.cell? ⟨g + 1, 1, none⟩ = some (.slice none 0 0) := A1_4.out.c1
    have kA1_42 : v4.cell? ⟨g + 1, 2, none⟩ = some (.slice none 0 0) := A1_4.out.c2
    have lA1_4 := A1_4.out.lt
    have kA2_40 : v4.cell? ⟨p, 0, none⟩ = some (.int .i64 9) := A2_4.out.c0
    have kA2_41 : v4.cell? ⟨p, 1, none⟩ = some (.slice none 0 0) := A2_4.out.c1
    have kA2_42 : v4.cell? ⟨p, 2, none⟩ = some (.slice (some ⟨b1, 0, none⟩) 2 2) := A2_4.out.c2
    have lA2_4 := A2_4.out.lt
    have kA3_40 : v4.cell? ⟨q, 0, none⟩ = some (.int .i64 9) := A3_4.out.c0
    have kA3_41 : v4.cell? ⟨q, 1, none⟩ = some (.slice none 0 0) := A3_4.out.c1
    have kA3_42 : v4.cell? ⟨q, 2, none⟩ = some (.slice (some ⟨b2, 0, none⟩) 2 2) := A3_4.out.c2
    have lA3_4 := A3_4.out.lt
    go_wp2_with fail
    with_reducible refine (C5.out _ Z4.out).mono ?_
    rintro e v5 ⟨rfl, hb5⟩
    have A0_5 := Lib.hid (A0_4.out.below hb5)
    have A1_5 := Lib.hid (A1_4.out.below hb5)
    have A2_5 := Lib.hid (A2_4.out.below hb5)
    have A3_5 := Lib.hid (A3_4.out.below hb5)
    have Z5 := Lib.hid (Z4.out.trans (hb5.mono Z4.out.size))
    clear hb5
    clear kA0_40 kA0_41 kA0_42 kA1_40 kA1_41 kA1_42 kA2_40 kA2_41 kA2_42 kA3_40 kA3_41 kA3_42
    have kA0_50 : v5.cell? ⟨g, 0, none⟩ = some (.int .i64 0) := A0_5.out.c0
    have kA0_51 : v5.cell? ⟨g, 1, none⟩ = some (.slice none 0 0) := A0_5.out.c1
    have kA0_52 : v5.cell? ⟨g, 2, none⟩ = some (.slice none 0 0) := A0_5.out.c2
    have lA0_5 := A0_5.out.lt
    have kA1_50 : v5.cell? ⟨g + 1, 0, none⟩ = some (.int .i64 3) := A1_5.out.c0
    have kA1_51 : v5.cell? ⟨g + 1, 1, none⟩ = some (.slice none 0 0) := A1_5.out.c1
    have kA1_52 : v5.cell? ⟨g + 1, 2, none⟩ = some (.slice none 0 0) := A1_5.out.c2
    have lA1_5 := A1_5.out.lt
    have kA2_50 : v5.cell? ⟨p, 0, none⟩ = some (.int .i64 9) := A2_5.out.c0
    have kA2_51 : v5.cell? ⟨p, 1, none⟩ = some (.slice none 0 0) := A2_5.out.c1
    have kA2_52 : v5.cell? ⟨p, 2, none⟩ = some (.slice (some ⟨b1, 0, none⟩) 2 2) := A2_5.out.c2
    have lA2_5 := A2_5.out.lt
    have kA3_50 : v5.cell? ⟨q, 0, none⟩ = some (.int .i64 9) := A3_5.out.c0
    have kA3_51 : v5.cell? ⟨q, 1, none⟩ = some (.slice none 0 0) := A3_5.out.c1
    have kA3_52 : v5.cell? ⟨q, 2, none⟩ = some (.slice (some ⟨b2, 0, none⟩) 2 2) := A3_5.out.c2
    have lA3_5 := A3_5.out.lt
    go_wp2_with fail
    with_reducible refine (C6.out _ Z5.out).mono ?_
    rintro e v6 ⟨rfl, hb6⟩
    have A0_6 := Lib.hid (A0_5.out.below hb6)
    have A1_6 := Lib.hid (A1_5.out.below hb6)
    have A2_6 := Lib.hid (A2_5.out.below hb6)
    have A3_6 := Lib.hid (A3_5.out.below hb6)
    have Z6 := Lib.hid (Z5.out.trans (hb6.mono Z5.out.size))
    clear hb6
    clear kA0_50 kA0_51 kA0_52 kA1_50 kA1_51 kA1_52 kA2_50 kA2_51 kA2_52 kA3_50 kA3_51 kA3_52
    have kA0_60 : v6.cell? ⟨g, 0, none⟩ = some (.int .i64 0) := A0_6.out.c0
    have kA0_61 : v6.cell? ⟨g, 1, none⟩ = some (.slice none 0 0) := A0_6.out.c1
    have kA0_62 : v6.cell? ⟨g, 2, none⟩ = some (.slice none 0 0) := A0_6.out.c2
    have lA0_6 := A0_6.out.lt
    have kA1_60 : v6.cell? ⟨g + 1, 0, none⟩ = some (.int .i64 3) := A1_6.out.c0
    have kA1_61 : v6.cell? ⟨g + 1, 1, none⟩ = some (.slice none 0 0) := A1_6.out.c1
    have kA1_62 : v6.cell? ⟨g + 1, 2, none⟩ = some (.slice none 0 0) := A1_6.out.c2
    have lA1_6 := A1_6.out.lt
    have kA2_60 : v6.cell? ⟨p, 0, none⟩ = some (.int .i64 9) := A2_6.out.c0
    have kA2_61 : v6.cell? ⟨p, 1, none⟩ = some (.slice none 0 0) := A2_6.out.c1
    have kA2_62 : v6.cell? ⟨p, 2, none⟩ = some (.slice (some ⟨b1, 0, none⟩) 2 2) := A2_6.out.c2
    have lA2_6 := A2_6.out.lt
    have kA3_60 : v6.cell? ⟨q, 0, none⟩ = some (.int .i64 9) := A3_6.out.c0
    have kA3_61 : v6.cell? ⟨q, 1, none⟩ = some (.slice none 0 0) := A3_6.out.c1
    have kA3_62 : v6.cell? ⟨q, 2, none⟩ = some (.slice (some ⟨b2, 0, none⟩) 2 2) := A3_6.out.c2
    have lA3_6 := A3_6.out.lt
    go_wp2_with fail
    with_reducible refine (C7.out _ Z6.out).mono ?_
    rintro e v7 ⟨rfl, hb7⟩
    have A0_7 := Lib.hid (A0_6.out.below hb7)
    have A1_7 := Lib.hid (A1_6.out.below hb7)
    have A2_7 := Lib.hid (A2_6.out.below hb7)
    have A3_7 := Lib.hid (A3_6.out.below hb7)
    have Z7 := Lib.hid (Z6.out.trans (hb7.mono Z6.out.size))
    clear hb7
    clear kA0_60 kA0_61 kA0_62 kA1_60 kA1_61 kA1_62 kA2_60 kA2_61 kA2_62 kA3_60 kA3_61 kA3_62
    have kA0_70 : v7.cell? ⟨g, 0, none⟩ = some (.int .i64 0) := A0_7.out.c0
    have kA0_71 : v7.cell? ⟨g, 1, none⟩ = some (.slice none 0 0) := A0_7.out.c1
    have kA0_72 : v7.cell? ⟨g, 2, none⟩ = some (.slice none 0 0) := A0_7.out.c2
    have lA0_7 := A0_7.out.lt
    have kA1_70 : v7.cell? ⟨g + 1, 0, none⟩ = some (.int .i64 3) := A1_7.out.c0
    have kA1_71 : v7.cell? ⟨g + 1, 1, none⟩ = some (.slice none 0 0) := A1_7.out.c1
    have kA1_72 : v7.cell? ⟨g + 1, 2, none⟩ = some (.slice none 0 0) := A1_7.out.c2
    have lA1_7 := A1_7.out.lt
    have kA2_70 : v7.cell? ⟨p, 0, none⟩ = some (.int .i64 9) := A2_7.out.c0
    have kA2_71 : v7.cell? ⟨p, 1, none⟩ = some (.slice none 0 0) := A2_7.out.c1
    have kA2_72 : v7.cell? ⟨p, 2, none⟩ = some (.slice (some ⟨b1, 0, none⟩) 2 2) := A2_7.out.c2
    have lA2_7 := A2_7.out.lt
    have kA3_70 : v7.cell? ⟨q, 0, none⟩ = some (.int .i64 9) := A3_7.out.c0
    have kA3_71 : v7.cell? ⟨q, 1, none⟩ = some (.slice none 0 0) := A3_7.out.c1
    have kA3_72 : v7.cell? ⟨q, 2, none⟩ = some (.slice (some ⟨b2, 0, none⟩) 2 2) := A3_7.out.c2
    have lA3_7 := A3_7.out.lt
    go_wp2
    go_ret
    exact ⟨rfl, AB.out.trans (Z7.out.mono AB.out.size)⟩
end Go.Proofs.YtllpicibncdppaaDoor
