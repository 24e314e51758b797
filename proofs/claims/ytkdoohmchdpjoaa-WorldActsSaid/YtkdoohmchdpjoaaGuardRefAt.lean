/-
  The contract of the reference's At (chapter 22).
-/
import Derived.Test.YtkdoohmchdpjoaaGuardRef
set_option linter.unusedVariables false
set_option linter.unusedSimpArgs false
namespace Go.Proofs.Ytkdoohmchdpjoaa
open Go.ChangeShapes Go.WideShapes Go.ChangeAt Go.RowKit

def RAtPost (w : World) (B g : Nat) (x : List Reg × Nat × List Int) (e : Ending) (w' : World) : Prop :=
  ∃ v, e = .returned v ∧ w'.ownsRow w.heap.size 3 1 v x.2.2.length (x.2.2.map (Value.int .i64)) ∧ RefIn w' B g x.1.reverse x.2.1 ∧ Keep B rTypes w w'

theorem rat_neg {B g pc : Nat} {S : List Reg} (p : Int) (w : World) (hg : RefIn w B g S.reverse pc) (hp : p < 0) :
    Calls Try.prog 19 #[.pointer (some ⟨g, 0, none⟩), .int .i64 p] w (RAtPost w B g (S, pc, [])) := by
  go_enter Try.func19, Try.ntmps19
  go_wp2
  refine wp_loop_rounds 1 ?_
  rw [rounds_succ]
  go_wp2
  have hd : decide ((0 : Int) ≤ p) = false := by simp; omega
  go_quiet (fail)
  go_wp2
  go_ret
  exact ⟨_, rfl, World.ownsRow_nil _ _ _ _, hg.drewN _, (Keep.refl _ _ _).drewN _⟩

set_option maxRecDepth 100000 in
set_option maxHeartbeats 1000000 in
theorem rat_any {B g pc : Nat} {S : List Reg} (p : Int) (w : World) (hg : RefIn w B g S.reverse pc) (hp : 0 ≤ p) (hS : S.length ≤ 1000000) :
    Calls Try.prog 19 #[.pointer (some ⟨g, 0, none⟩), .int .i64 p] w (RAtPost w B g (popS p S pc)) := by
  obtain ⟨i0, hi, hz0, hz1, hz2⟩ := info_parts infoInt
  go_enter Try.func19, Try.ntmps19
  go_wp2
  go_loopg [5] S.length (fun k v wr => ∃ (S1 : List Reg) (pc1 : Nat) (ts : List Int), k = S1.length ∧ RefIn wr B g S1.reverse pc1 ∧ wr.ownsRow w.heap.size 3 1 v ts.length (ts.map (Value.int .i64)) ∧ Keep B rTypes w wr ∧
    popS p S pc = prep ts (popS p S1 pc1) ∧ ts.length + S1.length = S.length)
  case atStart => exact ⟨S, pc, [], rfl, hg, World.ownsRow_nil _ _ _ _, Keep.refl _ _ _, by simp [prep], by simp⟩
  case round =>
    obtain ⟨S1, pc1, ts, rfl, hg1, hown1, hk1, hpop, hlen⟩ := hrel
    have HP := Lib.hid hpop
    have HL := Lib.hid hlen
    have hlen' : ts.length ≤ 1000000 := by omega
    have hlen2 : S1.length ≤ 1000000 := by omega
    clear hpop hlen
    have hg1' := hg1
    obtain ⟨hB, v1, hblk, hrow⟩ := hg1
    obtain ⟨A1, c1, rfl, _, _, _⟩ := own_form hrow
    have hc0 := cell_of_blk (i := 1) hblk rfl
    have hlt := blk_lt hblk
    cases S1 with
    | nil =>
      go_wp2
      go_quiet (fail)
      go_wp2
      go_ret
      rw [HP.out, popS_nil]
      exact ⟨_, rfl, hown1, hg1'.drewN _, hk1.drewN _⟩
    | cons r S2 =>
      obtain ⟨R2, hR2⟩ : ∃ R2, R2 = S2.reverse := ⟨_, rfl⟩
      have hrev : (r :: S2).reverse = R2 ++ [r] := by rw [hR2, List.reverse_cons]
      have hl : (R2 ++ [r]).length = R2.length + 1 := by simp
      have hlR : R2.length ≤ 1000000 := by rw [hR2]; simp at hlen2 ⊢; omega
      rw [hrev] at hg1' hblk hrow hc0
      rw [hl] at hblk hrow hc0
      have HR := Lib.hid hR2
      have HV := Lib.hid hrev
      clear hrev hl hR2
      obtain ⟨_, _, e, hcc, hcm, hf⟩ := own_form hrow
      injection e with e1 _ e3
      subst e1; subst e3
      obtain ⟨gb, rfl, _, hltb, _, hcb⟩ := hf (by omega)
      clear hf
      obtain ⟨hr0, hr1, hr2⟩ := flatR_at R2 r
      have hd0 := hcb _ _ hr0
      have hd1 := hcb _ _ hr1
      have hd2 := hcb _ _ hr2
      clear hcb hr0 hr1 hr2
      have hs1 : IntKind.i64.wrap (R2.length : Int) = (R2.length : Int) := IntWalk.i64_in _ (by omega)
      have hs2 : decide ((0 : Int) < (R2.length : Int) + 1) = true := by first | (simp; done) | (simp; omega)
      by_cases hj : r.join = p
      · have hjb : (r.join == p) = true := by simp [hj]
        have HJ := Lib.hid hj
        clear hj
        go_wp2
        go_quiet (fail)
        have hx1 : (R2.length : Int) < (R2.length : Int) + 1 := by omega
        have hgQ := hg1'.drewN nq
        have hownQ : (wr.drewN nq).ownsRow w.heap.size 3 1 _ ts.length (ts.map (Value.int .i64)) := hown1
        have hkQ := hk1.drewN nq
        have hblkQ : (wr.drewN nq).heap[g]? = _ := hblk
        have hrowQ : (wr.drewN nq).ownsRow B 88 3 _ _ _ := hrow
        have hc0Q : (wr.drewN nq).cell? ⟨g, 1, none⟩ = _ := hc0
        have hltQ : g < (wr.drewN nq).heap.size := hlt
        have hltbQ : gb < (wr.drewN nq).heap.size := hltb
        have hd0Q : (wr.drewN nq).cell? ⟨gb, R2.length * 3, none⟩ = _ := hd0
        have hd1Q : (wr.drewN nq).cell? ⟨gb, R2.length * 3 + 1, none⟩ = _ := hd1
        have hd2Q : (wr.drewN nq).cell? ⟨gb, R2.length * 3 + 2, none⟩ = _ := hd2
        clear hg1' hown1 hk1 hblk hrow hc0 hlt hltb hd0 hd1 hd2
        go_wp2
        generalize wr.drewN nq = w1 at *
        go_region
        go_wp2
        have hx := heap_alloc_new w1 (.cells #[.int .i64 r.join, .int .i64 r.tag, .int .u64 (r.was : Int)] 88)
        have hx2 := blk_drew hx
        have hg2 := (hgQ.below ((Below.refl _ _).alloc (Nat.le_refl _) (.cells #[.int .i64 r.join, .int .i64 r.tag, .int .u64 (r.was : Int)] 88))).drew
        have hown2 := own_drew (own_keep_alloc hownQ (.cells #[.int .i64 r.join, .int .i64 r.tag, .int .u64 (r.was : Int)] 88))
        have hk2 := (hkQ.alloc (.cells #[.int .i64 r.join, .int .i64 r.tag, .int .u64 (r.was : Int)] 88)).drew
        clear hx hgQ hownQ hkQ hblkQ hrowQ hc0Q hltQ hltbQ hd0Q hd1Q hd2Q
        generalize w1.heap.size = nx at *
        generalize (w1.alloc (.cells #[.int .i64 r.join, .int .i64 r.tag, .int .u64 (r.was : Int)] 88)).drew = w2 at *
        obtain ⟨_, v3, hblk3, hrow3⟩ := hg2
        have hl : (R2 ++ [r]).length = R2.length + 1 := by simp
        rw [hl] at hrow3
        obtain ⟨A3, c3, rfl, hcc3, hcm3, hf3⟩ := own_form hrow3
        obtain ⟨gb3, rfl, _, _, _, _⟩ := hf3 (by omega)
        have he0 := cell_of_blk (i := 1) hblk3 rfl
        have he1 := free_of_blk (i := 1) hblk3
        have hlt3 := blk_lt hblk3
        clear hf3 hl
        have hp := own_pop (n' := R2.length) hrow3 (by omega)
        rw [flatR_pop] at hp
        have hg3 := (RefIn.setR hB hblk3 hp).drew
        have hk3 := (hk2.set (a := ⟨g, 1, none⟩) (.slice (some ⟨gb3, 0, none⟩) R2.length c3) hblk3 (show 43 ∈ rTypes by decide) hB).drew
        have hown3 := own_drew (own_set_far hown2 (a := ⟨g, 1, none⟩) hblk3 (by decide) (.slice (some ⟨gb3, 0, none⟩) R2.length c3))
        have hx3 := blk_drew (blk_far hx2 (a := ⟨g, 1, none⟩) (blk_ne hx2 hblk3 (by decide)) (.slice (some ⟨gb3, 0, none⟩) R2.length c3))
        go_region
        clear hp hown2 hk2 hx2 hblk3 hrow3 he0 he1 hlt3
        generalize (w2.setCell ⟨g, 1, none⟩ (.slice (some ⟨gb3, 0, none⟩) R2.length c3)).drew = w3 at *
        have hg3' := hg3
        obtain ⟨_, v4, hblk4, hrow4⟩ := hg3
        have hne := blk_ne hx3 hblk4 (by decide)
        have hx3c := cell_of_blk (i := 2) hx3 rfl
        have hx3d := cell_of_blk (i := 1) hx3 rfl
        have he0 := cell_of_blk (i := 0) hblk4 rfl
        have he1 := free_of_blk (i := 0) hblk4
        have hlt4 := blk_lt hblk4
        have hown4 := own_set_far hown3 (a := ⟨g, 0, none⟩) hblk4 (by decide) (.int .u64 (r.was : Int))
        have hsz := hk3.size
        go_wp2_with ((at_builtin; (refine wpList_append_lies _ rfl _ _ _ rfl w.heap.size 3 i0 (.int .i64 0) 1 8 Try.underlying31 hi hz0 hz1 hz2 rfl (by omega) _ ts.length (ts.map (Value.int .i64)) rfl (hown4.alloc _) ⟨w3.heap.size, 0, none⟩ 1 1 [.int .i64 r.tag] rfl rfl (news_new _ #[.int .i64 r.tag] _ _ (by simp)) (by simp [Value.oneCell']) (by omega) (by unfold maxLen; omega) (by omega) (by simp; omega) (w3.heap.size + 1) (by simp) ?_); intro gt cap w5 hown5 hgrow hat hlt5))
        have hg4 := ((hg3'.setPc r.was).below ((Below.refl _ _).alloc (Nat.le_refl _) (.cells #[.int .i64 r.tag] 3)))
        have hkA : Keep w.heap.size [3] _ w5 := (Keep.refl w.heap.size [3] _).grown hgrow (own_cond (own_keep_alloc hown4 _) (by decide))
        have hk5 := (((hk3.set (a := ⟨g, 0, none⟩) (.int .u64 (r.was : Int)) hblk4 (show 43 ∈ rTypes by decide) hB).alloc (.cells #[.int .i64 r.tag] 3)).grown hgrow (fun k hk => .inl (hown4.lt k hk).1))
        go_roundg S2.length
        case measure => simp
        case rel =>
          refine ⟨S2, r.was, ts ++ [r.tag], rfl, by rw [← HR.out]; exact hg4.keep hkA (by decide) (by decide), ?_, hk5, ?_, ?_⟩
          · rw [List.length_append, List.map_append]
            exact hown5
          · rw [HP.out, popS_hit ts HJ.out]
          · have := HL.out; simp at this ⊢; omega
      · have hjb : (r.join == p) = false := by simp [hj]
        have HJ := Lib.hid hj
        clear hj
        go_wp2
        go_quiet (fail)
        go_wp2
        go_ret
        rw [HP.out, popS_miss ts HJ.out]
        exact ⟨_, rfl, hown1, by rw [HV.out]; exact hg1'.drewN _, hk1.drewN _⟩
end Go.Proofs.Ytkdoohmchdpjoaa
