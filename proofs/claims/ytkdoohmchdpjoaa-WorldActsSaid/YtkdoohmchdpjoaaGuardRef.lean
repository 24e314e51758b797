/-
  The contracts of the reference's guard (chapter 22): the same regions and label in another struct.
-/
import Derived.Test.YtkdoohmchdpjoaaGuardAt
set_option linter.unusedVariables false
set_option linter.unusedSimpArgs false
namespace Go.Proofs.Ytkdoohmchdpjoaa
open Go.ChangeShapes Go.WideShapes Go.ChangeAt Go.RowKit

theorem infoRReg : (Try.prog.info? 88).map (fun i => (i.zero, i.size, i.bytes)) = some (some (.agg #[.int .i64 0, .int .i64 0, .int .u64 0]), 3, 24) := by kernel_rfl

/-- The reference's guard lies at block g. -/
structure RefIn (w : World) (B g : Nat) (R : List Reg) (pc : Nat) : Prop where
  base : B ≤ g
  own : ∃ v, w.heap[g]? = some (.cells #[.int .u64 (pc : Int), v] 43 (0, 0)) ∧ w.ownsRow B 88 3 v R.length (flatR R)

def rTypes : List TypeId := [43, 88]

theorem RefIn.below {w w' : World} {B g pc : Nat} {R : List Reg} (h : RefIn w B g R pc) (hb : Below w.heap.size w w') : RefIn w' B g R pc :=
  ⟨h.base, h.own.imp fun _ ⟨h1, h2⟩ => ⟨below_blk hb h1, below_own hb h2⟩⟩
theorem RefIn.keep {w w' : World} {B B' g pc : Nat} {R : List Reg} {T : List TypeId} (h : RefIn w B g R pc) (hk : Keep B' T w w') (h1 : 43 ∉ T) (h2 : 88 ∉ T) : RefIn w' B g R pc :=
  ⟨h.base, h.own.imp fun _ ⟨h3, h4⟩ => ⟨hk.blk h3 h1, hk.own h4 h2⟩⟩
theorem RefIn.drew {w : World} {B g pc : Nat} {R : List Reg} (h : RefIn w B g R pc) : RefIn w.drew B g R pc := ⟨h.base, h.own⟩
theorem RefIn.drewN {w : World} {B g pc : Nat} {R : List Reg} (h : RefIn w B g R pc) (n : Nat) : RefIn (w.drewN n) B g R pc := ⟨h.base, h.own⟩
theorem RefIn.setPc {w : World} {B g pc : Nat} {R : List Reg} (h : RefIn w B g R pc) (pc' : Nat) : RefIn (w.setCell ⟨g, 0, none⟩ (.int .u64 (pc' : Int))) B g R pc' := by
  obtain ⟨hB, v, h1, h2⟩ := h
  exact ⟨hB, v, by simpa using blk_set (i := 0) h1 (.int .u64 (pc' : Int)), own_set_far h2 h1 (by decide) _⟩
theorem RefIn.setR {w : World} {B g pc : Nat} {R : List Reg} {u : Value} (hB : B ≤ g) (hb : w.heap[g]? = some (.cells #[.int .u64 (pc : Int), u] 43 (0, 0))) {v : Value} (ho : w.ownsRow B 88 3 v R.length (flatR R)) :
    RefIn (w.setCell ⟨g, 1, none⟩ v) B g R pc :=
  ⟨hB, v, by simpa using blk_set (i := 1) hb v, own_set_far ho hb (by decide) _⟩
theorem RefIn.pushed {w : World} {B g gb cap pc : Nat} {R : List Reg} {r : Reg} {u : Value} (hB : B ≤ g) (hb : w.heap[g]? = some (.cells #[.int .u64 (pc : Int), u] 43 (0, 0)))
    (ho : w.ownsRow B 88 3 (.slice (some ⟨gb, 0, none⟩) (R.length + 1) cap) (R.length + 1) (flatR R ++ [.int .i64 r.join, .int .i64 r.tag, .int .u64 (r.was : Int)])) :
    RefIn (w.setCell ⟨g, 1, none⟩ (.slice (some ⟨gb, 0, none⟩) (R.length + 1) cap)) B g (R ++ [r]) pc := by
  refine RefIn.setR hB hb ?_
  rw [flatR_snoc, List.length_append]
  exact ho

set_option maxRecDepth 100000 in
set_option maxHeartbeats 1000000 in
theorem rbranch_any {B g pc : Nat} {R : List Reg} (l : Nat) (j tag : Int) (w : World) (hg : RefIn w B g R pc) (hl : l < 18446744073709551616) (hpc : pc < 18446744073709551616) (hR : R.length ≤ 1000000) (hBw : B ≤ w.heap.size) :
    Calls Try.prog 18 #[.pointer (some ⟨g, 0, none⟩), .int .u64 (l : Int), .int .i64 j, .int .i64 tag] w
      fun e w' => e = .returned (.tuple #[]) ∧ RefIn w' B g (pushR R (max j (-1)) tag pc) (pc ||| l) ∧ Keep B rTypes w w' := by
  have hg' := hg
  obtain ⟨hB, v, hblk, hown⟩ := hg
  obtain ⟨A, c, rfl, _, _, hform⟩ := own_form hown
  have HF := Lib.hid hform
  clear hform
  have hc0 := cell_of_blk (i := 1) hblk rfl
  have hlt := blk_lt hblk
  obtain ⟨i0, hi, hz0, hz1, hz2⟩ := info_parts infoRReg
  go_enter Try.func18, Try.ntmps18
  go_upto_region 0 with (fail)
  go_cut [2] (fun s2 w' => s2 = .int .i64 (max j (-1)) ∧ w = w')
  case first =>
    by_cases hj : j < -1
    all_goals
      go_wp2
      go_meet
      case rel => exact ⟨by congr 1; omega, rfl⟩
  case rest =>
    obtain ⟨rfl, rfl⟩ := hcut
    generalize hJ : max j (-1) = J
    have HJ := Lib.hid hJ
    clear hJ
    go_upto_region 1 with (fail)
    go_cut [32] (fun s32 w' => s32 = .bool (opens R J) ∧ RefIn w' B g R pc ∧ Keep B rTypes w w')
    case first =>
      rcases nil_or_snoc R with rfl | ⟨R0, r, rfl⟩
      · go_quiet (fail)
        go_wp2
        go_meet
        case rel => exact ⟨rfl, hg'.drewN _, (Keep.refl _ _ _).drewN _⟩
      · obtain ⟨gb, rfl, _, hltb, _, hcb⟩ := HF.out (by simp)
        obtain ⟨hr0, _, _⟩ := flatR_at R0 r
        have hcr := hcb _ _ hr0
        clear hcb hr0
        have hl : (R0 ++ [r]).length = R0.length + 1 := by simp
        rw [hl] at hc0 hR
        have hop : opens (R0 ++ [r]) J = (r.join != J) := by simp [opens, topOf]
        have HO := Lib.hid hop
        clear hop hl
        have hs1 : IntKind.i64.wrap (R0.length : Int) = (R0.length : Int) := IntWalk.i64_in _ (by omega)
        have hs2 : ((R0.length : Int) + 1 == 0) = false := by simp; omega
        go_quiet (fail)
        go_wp2
        go_meet
        case rel => exact ⟨by rw [HO.out], hg'.drewN _, (Keep.refl _ _ _).drewN _⟩
    case rest =>
      obtain ⟨rfl, hg1, hk1⟩ := hcut
      go_upto_if 32 with (fail)
      go_cut [] (fun w' => RefIn w' B g (pushR R J tag pc) pc ∧ Keep B rTypes w w')
      case first =>
        cases ho : opens R J
        · have hp : pushR R J tag pc = R := by simp [pushR, ho]
          have HP := Lib.hid hp
          clear hp
          go_wp2
          go_meet
          case rel => exact ⟨by rw [HP.out]; exact hg1, hk1⟩
        · have hp : pushR R J tag pc = R ++ [⟨J, tag, pc⟩] := by simp [pushR, ho]
          have HP := Lib.hid hp
          clear hp
          obtain ⟨_, v1, hbk1, hown1⟩ := hg1
          obtain ⟨A1, c1, rfl, _, _, _⟩ := own_form hown1
          have hne := own_blk_ne hown1 hbk1 (by decide)
          have hd0 := cell_of_blk (i := 1) hbk1 rfl
          have hd1 := cell_of_blk (i := 0) hbk1 rfl
          have hlt1 := blk_lt hbk1
          have hBc : B ≤ wc.heap.size := Nat.le_trans hBw hk1.size
          go_wp2
          go_region_law ((refine step_append_lies _ (by rfl) _ _ _ (by rfl) B 88 i0 (.agg #[.int .i64 0, .int .i64 0, .int .u64 0]) 3 24 Try.underlying41 hi hz0 hz1 hz2 rfl (by omega) (.slice A1 R.length c1) R.length (flatR R) (by rfl) (by exact hown1.alloc _) ⟨wc.heap.size, 0, none⟩ 1 1 [.int .i64 J, .int .i64 tag, .int .u64 (pc : Int)] (by rfl) (by rfl) (by exact news_drew _ #[.int .i64 J, .int .i64 tag, .int .u64 (pc : Int)] _ _ (by simp)) (by simp [Value.oneCell']) (by omega) (by unfold maxLen; omega) (by omega) (by simp; omega) (wc.heap.size + 1) (by simp) ?_; intro gb cap w2 hown2 hgrow hat hlt2; have hbk2 : w2.heap[g]? = some (.cells #[.int .u64 (pc : Int), .slice A1 R.length c1] 43 (0, 0)) := (by exact blk_grown (blk_drew (blk_alloc hbk1 _)) hgrow (Ne.symm hne)); have he0 := cell_of_blk (i := 1) hbk2 rfl; have hef := free_of_blk (i := 1) hbk2))
          all_goals
            go_wp2
            go_meet
            case rel =>
              exact ⟨by rw [HP.out]; exact RefIn.pushed hB hbk2 hown2, (((hk1.alloc _).drew).grown hgrow (own_cond (own_drew (own_keep_alloc hown1 _)) (by decide))).set _ hbk2 (by decide) hB⟩
      case rest =>
        obtain ⟨hg2, hk2⟩ := hcut
        have hg2' := hg2
        obtain ⟨_, v2, hbk2, hown2⟩ := hg2
        have hd1 := cell_of_blk (i := 0) hbk2 rfl
        have hf1 := free_of_blk (i := 0) hbk2
        have hlt2 := blk_lt hbk2
        go_wp2_with (go_at_call 16; refine (rjoin_any pc l _ hpc hl).mono ?_; rintro e w' ⟨rfl, rfl⟩)
        go_end0
        exact ⟨rfl, by rw [HJ.out]; exact hg2'.setPc _, hk2.set (a := ⟨g, 0, none⟩) _ hbk2 (show 43 ∈ rTypes by decide) hB⟩
end Go.Proofs.Ytkdoohmchdpjoaa
