/-
  The contract of the guard's At (chapter 22): regions that end at a place are closed one by one.
-/
import Derived.Test.YtkdoohmchdpjoaaGuard
import Derived.Deep.LoopGhost
import Derived.BigRegion
set_option linter.unusedVariables false
set_option linter.unusedSimpArgs false
namespace Go.Proofs.Ytkdoohmchdpjoaa
open Go.ChangeShapes Go.WideShapes Go.ChangeAt Go.RowKit

/-- The regions, innermost first, that end at p are closed: what is left, the label, the tags. -/
def popS (p : Int) : List Reg → Nat → List Reg × Nat × List Int
  | [], pc => ([], pc, [])
  | r :: S, pc => if r.join = p then ((popS p S r.was).1, (popS p S r.was).2.1, r.tag :: (popS p S r.was).2.2) else (r :: S, pc, [])
def prep (ts : List Int) (x : List Reg × Nat × List Int) : List Reg × Nat × List Int := (x.1, x.2.1, ts ++ x.2.2)
theorem popS_hit {p : Int} {r : Reg} {S : List Reg} {pc : Nat} (ts : List Int) (h : r.join = p) : prep ts (popS p (r :: S) pc) = prep (ts ++ [r.tag]) (popS p S r.was) := by
  simp [prep, popS, h]
theorem popS_miss {p : Int} {r : Reg} {S : List Reg} {pc : Nat} (ts : List Int) (h : ¬ r.join = p) : prep ts (popS p (r :: S) pc) = (r :: S, pc, ts) := by
  simp [prep, popS, h]
theorem popS_nil {p : Int} {pc : Nat} (ts : List Int) : prep ts (popS p [] pc) = ([], pc, ts) := by simp [prep, popS]

theorem infoInt : (Try.prog.info? 3).map (fun i => (i.zero, i.size, i.bytes)) = some (some (.int .i64 0), 1, 8) := by kernel_rfl

/-- What At leaves: the tags in a list of its own, the guard as it is behind it. -/
def AtPost (w : World) (B g : Nat) (x : List Reg × Nat × List Int) (e : Ending) (w' : World) : Prop :=
  ∃ v, e = .returned v ∧ w'.ownsRow w.heap.size 3 1 v x.2.2.length (x.2.2.map (Value.int .i64)) ∧ GuardIn w' B g x.1.reverse x.2.1 ∧ Keep B gTypes w w'

theorem gat_neg {B g pc : Nat} {S : List Reg} (p : Int) (w : World) (hg : GuardIn w B g S.reverse pc) (hp : p < 0) :
    Calls Try.prog 13 #[.pointer (some ⟨g, 0, none⟩), .int .i64 p] w (AtPost w B g (S, pc, [])) := by
  go_enter Try.func13, Try.ntmps13
  go_wp2
  go_ret
  exact ⟨_, rfl, World.ownsRow_nil _ _ _ _, hg, Keep.refl _ _ _⟩

set_option maxRecDepth 100000 in
set_option maxHeartbeats 1000000 in
theorem gat_any {B g pc : Nat} {S : List Reg} (p : Int) (w : World) (hg : GuardIn w B g S.reverse pc) (hp : 0 ≤ p) (hS : S.length ≤ 1000000) (hBw : B ≤ w.heap.size) :
    Calls Try.prog 13 #[.pointer (some ⟨g, 0, none⟩), .int .i64 p] w (AtPost w B g (popS p S pc)) := by
  obtain ⟨i0, hi, hz0, hz1, hz2⟩ := info_parts infoInt
  have hp0 : decide (p < 0) = false := by simp; omega
  go_enter Try.func13, Try.ntmps13
  go_wp2
  go_loopg [5] S.length (fun k v wr => ∃ (S1 : List Reg) (pc1 : Nat) (ts : List Int), k = S1.length ∧ GuardIn wr B g S1.reverse pc1 ∧ wr.ownsRow w.heap.size 3 1 v ts.length (ts.map (Value.int .i64)) ∧ Keep B gTypes w wr ∧
    popS p S pc = prep ts (popS p S1 pc1) ∧ ts.length + S1.length = S.length)
  case atStart => exact ⟨S, pc, [], rfl, hg, World.ownsRow_nil _ _ _ _, Keep.refl _ _ _, by simp [prep], by simp⟩
  case round =>
    obtain ⟨S1, pc1, ts, rfl, hg1, hown1, hk1, hpop, hlen⟩ := hrel
    have HP := Lib.hid hpop
    have HL := Lib.hid hlen
    have hlen' : ts.length ≤ 1000000 := by omega
    have hlen2 : S1.length ≤ 1000000 := by omega
    clear hpop hlen
    have hg1' := hg1
    obtain ⟨hB, v1, hblk, hrow⟩ := hg1
    obtain ⟨A1, c1, rfl, _, _, _⟩ := own_form hrow
    have hc0 := cell_of_blk (i := 0) hblk rfl
    have hlt := blk_lt hblk
    cases S1 with
    | nil =>
      go_wp2_with (go_at_call 31; refine (top_none _ _ _).mono ?_; rintro e w1 ⟨rfl, hb1⟩)
      go_ret
      rw [HP.out, popS_nil]
      exact ⟨_, rfl, (below_own hb1 hown1).alloc _, (hg1'.below hb1).below ((Below.refl _ _).alloc (Nat.le_refl _) _), (hk1.trans (Keep.of_below hb1 _ _)).alloc _⟩
    | cons r S2 =>
      obtain ⟨R2, hR2⟩ : ∃ R2, R2 = S2.reverse := ⟨_, rfl⟩
      have hrev : (r :: S2).reverse = R2 ++ [r] := by rw [hR2, List.reverse_cons]
      have hl : (R2 ++ [r]).length = R2.length + 1 := by simp
      have hlR : R2.length ≤ 1000000 := by rw [hR2]; simp at hlen2 ⊢; omega
      rw [hrev] at hg1' hblk hrow hc0
      rw [hl] at hblk hrow hc0
      have HR := Lib.hid hR2
      have HV := Lib.hid hrev
      clear hrev hl hR2
      by_cases hj : r.join = p
      · have hjb : (r.join != p) = false := by simp [hj]
        have HJ := Lib.hid hj
        clear hj
        obtain ⟨_, _, e, hcc, hcm, hf⟩ := own_form hrow
        injection e with e1 _ e3
        subst e1; subst e3
        obtain ⟨gb, rfl, _, _, _, _⟩ := hf (by omega)
        clear hf
        go_wp2_with (first | (go_at_call 31; refine (top_snoc _ hlR hrow).mono ?_; rintro e w1 ⟨rfl, hb1⟩; have hbk1 := below_blk hb1 hblk; have hrow1 := below_own hb1 hrow; have hownA := below_own hb1 hown1; have hlt1 := blk_lt hbk1; have hszw : w.heap.size ≤ w1.heap.size := Nat.le_trans hk1.size hb1.size; have hneg := own_blk_ne hownA hbk1 (by decide); have hxb := heap_alloc_new w1 (.cells #[.int .i64 r.join, .int .i64 r.tag, .int .u64 (r.was : Int)] 81); have hnex := own_blk_ne (hownA.alloc _) hxb (by decide)) | (at_builtin; (refine wpList_append_lies _ rfl _ _ _ rfl w.heap.size 3 i0 (.int .i64 0) 1 8 Try.underlying31 hi hz0 hz1 hz2 rfl (by omega) _ ts.length (ts.map (Value.int .i64)) rfl ((hownA.alloc _).alloc _) ⟨w1.heap.size + 1, 0, none⟩ 1 1 [.int .i64 r.tag] rfl rfl (news_new _ #[.int .i64 r.tag] _ _ (by simp)) (by simp [Value.oneCell']) (by omega) (by unfold maxLen; omega) (by omega) (by simp; omega) (w1.heap.size + 2) (by simp) ?_); intro gt cap w2 hown2 hgrow hat hlt2; have hbk2 := blk_grown (blk_alloc (blk_alloc hbk1 _) _) hgrow (Ne.symm hneg); have hx2 := blk_grown (blk_alloc hxb _) hgrow (Ne.symm hnex); have hx2c := cell_of_blk (i := 2) hx2 rfl; have he0 := cell_of_blk (i := 0) hbk2 rfl; have he1 := cell_of_blk (i := 1) hbk2 rfl; have hf0 := free_of_blk (i := 0) hbk2; have hf1 := free_of_blk (i := 1) hbk2; have hlt2' := blk_lt hbk2))
        have hkA : Keep w.heap.size [3] _ w2 := (Keep.refl w.heap.size [3] _).grown hgrow (own_cond (own_keep_alloc (own_keep_alloc hownA _) _) (by decide))
        have hg2 : GuardIn w2 B g (R2 ++ [r]) pc1 := (((hg1'.below hb1).below ((Below.refl _ _).alloc (Nat.le_refl _) _)).below ((Below.refl _ _).alloc (Nat.le_refl _) _)).keep hkA (by decide) (by decide)
        have hg3 := hg2.setPc r.was
        have hk3 := (((((hk1.trans (Keep.of_below hb1 _ _)).alloc _).alloc _).grown hgrow (fun k hk => .inl (hownA.lt k hk).1))).set (a := ⟨g, 1, none⟩) (.int .u64 (r.was : Int)) hbk2 (show 79 ∈ gTypes by decide) hB
        have hown3 := own_set_far hown2 (a := ⟨g, 1, none⟩) hbk2 (by decide) (.int .u64 (r.was : Int))
        clear hkA hg2 hx2c he0 he1 hf0 hf1 hlt2' hx2 hbk2 hat hgrow hnex hneg hxb hbk1 hrow1 hownA hlt1 hc0 hlt hlt2
        generalize w2.setCell ⟨g, 1, none⟩ (.int .u64 (r.was : Int)) = w3 at hg3 hk3 hown3 ⊢
        obtain ⟨_, v3, hblk3, hrow3⟩ := hg3
        have hl : (R2 ++ [r]).length = R2.length + 1 := by simp
        rw [hl] at hrow3
        obtain ⟨A3, c3, rfl, hcc3, hcm3, hf3⟩ := own_form hrow3
        obtain ⟨gb3, rfl, _, _, _, _⟩ := hf3 (by omega)
        have hd0 := cell_of_blk (i := 0) hblk3 rfl
        have hd1 := free_of_blk (i := 0) hblk3
        have hlt3 := blk_lt hblk3
        clear hf3 hl
        go_region
        go_wp2
        go_roundg S2.length
        case measure => simp
        case rel =>
          refine ⟨S2, r.was, ts ++ [r.tag], rfl, ?_, ?_, ?_, ?_, ?_⟩
          · rw [← HR.out]
            have hp := own_pop (n' := R2.length) hrow3 (by omega)
            rw [flatR_pop] at hp
            exact (GuardIn.setR hB hblk3 hp).drew
          · rw [List.length_append, List.map_append]
            exact own_drew (own_set_far hown3 (a := ⟨g, 0, none⟩) hblk3 (by decide) _)
          · exact (hk3.set (a := ⟨g, 0, none⟩) _ hblk3 (show 79 ∈ gTypes by decide) hB).drew
          · rw [HP.out, popS_hit ts HJ.out]
          · have := HL.out; simp at this ⊢; omega
      · have hjb : (r.join != p) = true := by simp [hj]
        have HJ := Lib.hid hj
        clear hj
        go_wp2_with (go_at_call 31; refine (top_snoc _ hlR hrow).mono ?_; rintro e w1 ⟨rfl, hb1⟩)
        go_ret
        rw [HP.out, popS_miss ts HJ.out]
        exact ⟨_, rfl, (below_own hb1 hown1).alloc _, by rw [HV.out]; exact (hg1'.below hb1).below ((Below.refl _ _).alloc (Nat.le_refl _) _), (hk1.trans (Keep.of_below hb1 _ _)).alloc _⟩
end Go.Proofs.Ytkdoohmchdpjoaa
