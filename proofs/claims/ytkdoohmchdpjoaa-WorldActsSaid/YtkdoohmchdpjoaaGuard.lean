/-
  The contracts of the guard's functions (chapter 22), the program's: what a guard in memory holds, and what each call does to it.
-/
import Derived.Test.YtkdoohmchdpjoaaLabel
import Derived.Deep.RegionLaw
import Derived.Deep.DrawnRows
import Derived.Deep.DeepCutAuto
import Derived.BigQuiet
import Derived.Deep.QuietTactic
set_option linter.unusedVariables false
set_option linter.unusedSimpArgs false
namespace Go.Proofs.Ytkdoohmchdpjoaa
open Go.ChangeShapes Go.WideShapes Go.ChangeAt Go.RowKit

structure Reg where
  join : Int
  tag : Int
  was : Nat
def flatR (R : List Reg) : List Value := R.flatMap fun r => [.int .i64 r.join, .int .i64 r.tag, .int .u64 (r.was : Int)]
theorem flatR_length (R : List Reg) : (flatR R).length = R.length * 3 := by
  induction R with
  | nil => rfl
  | cons r R ih => simp only [flatR, List.flatMap_cons, List.length_append, List.length_cons, List.length_nil] at ih ⊢; omega
theorem flatR_snoc (R : List Reg) (r : Reg) : flatR (R ++ [r]) = flatR R ++ [.int .i64 r.join, .int .i64 r.tag, .int .u64 (r.was : Int)] := by
  simp [flatR]
theorem flatR_at (R : List Reg) (r : Reg) : (flatR (R ++ [r]))[R.length * 3]? = some (.int .i64 r.join) ∧ (flatR (R ++ [r]))[R.length * 3 + 1]? = some (.int .i64 r.tag) ∧ (flatR (R ++ [r]))[R.length * 3 + 2]? = some (.int .u64 (r.was : Int)) := by
  have h := flatR_length R
  rw [flatR_snoc]
  refine ⟨?_, ?_, ?_⟩ <;> rw [List.getElem?_append_right (by omega), h] <;> simp
theorem flatR_pop (R : List Reg) (r : Reg) : (flatR (R ++ [r])).take (R.length * 3) = flatR R := by
  rw [flatR_snoc, ← flatR_length, List.take_left']
  rfl

theorem top_none (A : Option Addr) (c : Nat) (w : World) :
    Calls Try.prog 31 #[.slice A 0 c] w (RetB (.tuple #[.agg #[.int .i64 0, .int .i64 0, .int .u64 0], .bool false]) w) := by
  go_enter Try.func31, Try.ntmps31
  go_wp2
  exact bodyPost_ret (v := .tuple #[.agg #[.int .i64 0, .int .i64 0, .int .u64 0], .bool false]) (by simp [results, Try.results31, go_sem]) rfl ⟨rfl, (Below.refl _ _).alloc (Nat.le_refl _) _⟩

theorem top_some (b n c : Nat) (r : Reg) (w : World) (hn : n < 9223372036854775807) (hb : b < w.heap.size)
    (h0 : w.cell? ⟨b, n * 3, none⟩ = some (.int .i64 r.join)) (h1 : w.cell? ⟨b, n * 3 + 1, none⟩ = some (.int .i64 r.tag)) (h2 : w.cell? ⟨b, n * 3 + 2, none⟩ = some (.int .u64 (r.was : Int))) :
    Calls Try.prog 31 #[.slice (some ⟨b, 0, none⟩) (n + 1) c] w (RetB (.tuple #[.agg #[.int .i64 r.join, .int .i64 r.tag, .int .u64 (r.was : Int)], .bool true]) w) := by
  go_enter Try.func31, Try.ntmps31
  go_wp2
  exact bodyPost_ret (v := .tuple #[.agg #[.int .i64 r.join, .int .i64 r.tag, .int .u64 (r.was : Int)], .bool true]) (by simp [results, Try.results31, go_sem]) rfl ⟨rfl, (Below.refl _ _).alloc (Nat.le_refl _) _⟩

theorem top_snoc {B : Nat} {A : Option Addr} {R0 : List Reg} {r : Reg} {c : Nat} (w : World) (hR : R0.length ≤ 1000000) (hown : w.ownsRow B 81 3 (.slice A (R0.length + 1) c) (R0.length + 1) (flatR (R0 ++ [r]))) :
    Calls Try.prog 31 #[.slice A (R0.length + 1) c] w (RetB (.tuple #[.agg #[.int .i64 r.join, .int .i64 r.tag, .int .u64 (r.was : Int)], .bool true]) w) := by
  obtain ⟨A', c', e, _, _, hf⟩ := own_form hown
  injection e with e1 e2 e3
  subst e1
  obtain ⟨gb, rfl, _, hlt, _, hc⟩ := hf (by simp)
  obtain ⟨h0, h1, h2⟩ := flatR_at R0 r
  exact top_some gb R0.length c r w (by omega) hlt (hc _ _ h0) (hc _ _ h1) (hc _ _ h2)

/-- The innermost region; an empty one, if there is none. -/
def topOf (R : List Reg) : Reg := R.getLast?.getD ⟨0, 0, 0⟩
theorem top_any {B : Nat} {A : Option Addr} {R : List Reg} {c : Nat} (w : World) (hR : R.length ≤ 1000000) (hown : w.ownsRow B 81 3 (.slice A R.length c) R.length (flatR R)) :
    Calls Try.prog 31 #[.slice A R.length c] w (RetB (.tuple #[.agg #[.int .i64 (topOf R).join, .int .i64 (topOf R).tag, .int .u64 ((topOf R).was : Int)], .bool (!R.isEmpty)]) w) := by
  rcases nil_or_snoc R with rfl | ⟨R0, r, rfl⟩
  · exact top_none A c w
  · have hl : (R0 ++ [r]).length = R0.length + 1 := by simp
    have ht : topOf (R0 ++ [r]) = r := by simp [topOf]
    have hb : (!(R0 ++ [r]).isEmpty) = true := by simp
    rw [hl] at hown ⊢
    rw [ht, hb]
    exact top_snoc w (by rw [hl] at hR; omega) hown

theorem infoReg : (Try.prog.info? 81).map (fun i => (i.zero, i.size, i.bytes)) = some (some (.agg #[.int .i64 0, .int .i64 0, .int .u64 0]), 3, 24) := by kernel_rfl

/-- A guard lies at block g: its regions, outermost first, and its label. -/
structure GuardIn (w : World) (B g : Nat) (R : List Reg) (pc : Nat) : Prop where
  base : B ≤ g
  own : ∃ v, w.heap[g]? = some (.cells #[v, .int .u64 (pc : Int)] 79 (0, 0)) ∧ w.ownsRow B 81 3 v R.length (flatR R)

def gTypes : List TypeId := [79, 81]

theorem GuardIn.below {w w' : World} {B g pc : Nat} {R : List Reg} (h : GuardIn w B g R pc) (hb : Below w.heap.size w w') : GuardIn w' B g R pc :=
  ⟨h.base, h.own.imp fun _ ⟨h1, h2⟩ => ⟨below_blk hb h1, below_own hb h2⟩⟩
theorem GuardIn.keep {w w' : World} {B B' g pc : Nat} {R : List Reg} {T : List TypeId} (h : GuardIn w B g R pc) (hk : Keep B' T w w') (h1 : 79 ∉ T) (h2 : 81 ∉ T) : GuardIn w' B g R pc :=
  ⟨h.base, h.own.imp fun _ ⟨h3, h4⟩ => ⟨hk.blk h3 h1, hk.own h4 h2⟩⟩
theorem GuardIn.drew {w : World} {B g pc : Nat} {R : List Reg} (h : GuardIn w B g R pc) : GuardIn w.drew B g R pc := ⟨h.base, h.own⟩
theorem GuardIn.drewN {w : World} {B g pc : Nat} {R : List Reg} (h : GuardIn w B g R pc) (n : Nat) : GuardIn (w.drewN n) B g R pc := ⟨h.base, h.own⟩
/-- The guard's label is written. -/
theorem GuardIn.setPc {w : World} {B g pc : Nat} {R : List Reg} (h : GuardIn w B g R pc) (pc' : Nat) : GuardIn (w.setCell ⟨g, 1, none⟩ (.int .u64 (pc' : Int))) B g R pc' := by
  obtain ⟨hB, v, h1, h2⟩ := h
  exact ⟨hB, v, by simpa using blk_set (i := 1) h1 (.int .u64 (pc' : Int)), own_set_far h2 h1 (by decide) _⟩
/-- The guard's regions are written. -/
theorem GuardIn.setR {w : World} {B g pc : Nat} {R : List Reg} {u : Value} (hB : B ≤ g) (hb : w.heap[g]? = some (.cells #[u, .int .u64 (pc : Int)] 79 (0, 0))) {v : Value} (ho : w.ownsRow B 81 3 v R.length (flatR R)) :
    GuardIn (w.setCell ⟨g, 0, none⟩ v) B g R pc :=
  ⟨hB, v, by simpa using blk_set (i := 0) hb v, own_set_far ho hb (by decide) _⟩

theorem GuardIn.pushed {w : World} {B g gb cap pc : Nat} {R : List Reg} {r : Reg} {u : Value} (hB : B ≤ g) (hb : w.heap[g]? = some (.cells #[u, .int .u64 (pc : Int)] 79 (0, 0)))
    (ho : w.ownsRow B 81 3 (.slice (some ⟨gb, 0, none⟩) (R.length + 1) cap) (R.length + 1) (flatR R ++ [.int .i64 r.join, .int .i64 r.tag, .int .u64 (r.was : Int)])) :
    GuardIn (w.setCell ⟨g, 0, none⟩ (.slice (some ⟨gb, 0, none⟩) (R.length + 1) cap)) B g (R ++ [r]) pc := by
  refine GuardIn.setR hB hb ?_
  rw [flatR_snoc, List.length_append]
  exact ho

/-- Whether a branch opens a region. -/
def opens (R : List Reg) (j : Int) : Bool := R.isEmpty || (topOf R).join != j
/-- What a branch does to the regions. -/
def pushR (R : List Reg) (j tag : Int) (pc : Nat) : List Reg := if opens R j then R ++ [⟨j, tag, pc⟩] else R

theorem gnew_any (l : Nat) (w : World) : Calls Try.prog 11 #[.int .u64 (l : Int)] w fun e w' => e = .returned (.pointer (some ⟨w.heap.size, 0, none⟩)) ∧ GuardIn w' w.heap.size w.heap.size [] l ∧ Below w.heap.size w w' := by
  go_enter Try.func11, Try.ntmps11
  go_wp2
  go_ret
  have hb := heap_new_at w (.cells #[.slice none 0 0, .int .u64 (l : Int)] 79) _ rfl
  exact ⟨rfl, ⟨Nat.le_refl _, _, hb, World.ownsRow_nil _ _ _ _⟩, (Below.refl _ _).alloc (Nat.le_refl _) _⟩

theorem gpc_any {B g pc : Nat} {R : List Reg} (w : World) (hg : GuardIn w B g R pc) : Calls Try.prog 15 #[.pointer (some ⟨g, 0, none⟩)] w (Ret (.int .u64 (pc : Int)) w) := by
  obtain ⟨hB, v, h1, h2⟩ := hg
  have hc1 : w.cell? ⟨g, 1, none⟩ = some (.int .u64 (pc : Int)) := cell_of_blk h1 rfl
  go_enter Try.func15, Try.ntmps15
  go_wp2
  go_ret
  exact ⟨rfl, rfl⟩

theorem gdeep_any {B g pc : Nat} {R : List Reg} (w : World) (hg : GuardIn w B g R pc) : Calls Try.prog 17 #[.pointer (some ⟨g, 0, none⟩)] w (Ret (.int .i64 (R.length : Int)) w) := by
  obtain ⟨hB, v, h1, h2⟩ := hg
  obtain ⟨A, c, rfl, _, _, _⟩ := own_form h2
  have hc1 : w.cell? ⟨g, 0, none⟩ = some (.slice A R.length c) := cell_of_blk h1 rfl
  go_enter Try.func17, Try.ntmps17
  go_wp2
  go_ret
  exact ⟨rfl, rfl⟩

theorem gmay_any {B g pc : Nat} {R : List Reg} (l : Nat) (w : World) (hg : GuardIn w B g R pc) (hpc : pc < 18446744073709551616) (hl : l < 18446744073709551616) :
    Calls Try.prog 20 #[.pointer (some ⟨g, 0, none⟩), .int .u64 (l : Int)] w (Ret (.bool (flowsB pc l)) w) := by
  go_enter Try.func20, Try.ntmps20
  go_wp2_with (first | (go_at_call 15; refine (gpc_any _ hg).mono ?_; rintro e w' ⟨rfl, rfl⟩) | (go_at_call 35; refine (flows_any _ _ _ hpc hl).mono ?_; rintro e w' ⟨rfl, rfl⟩))
  go_ret
  exact ⟨rfl, rfl⟩

set_option maxRecDepth 100000 in
set_option maxHeartbeats 1000000 in
theorem gbranch_any {B g pc : Nat} {R : List Reg} (l : Nat) (j tag : Int) (w : World) (hg : GuardIn w B g R pc) (hl : l < 18446744073709551616) (hpc : pc < 18446744073709551616) (hR : R.length ≤ 1000000) (hBw : B ≤ w.heap.size) :
    Calls Try.prog 12 #[.pointer (some ⟨g, 0, none⟩), .int .u64 (l : Int), .int .i64 j, .int .i64 tag] w
      fun e w' => e = .returned (.tuple #[]) ∧ GuardIn w' B g (pushR R (max j (-1)) tag pc) (pc ||| l) ∧ Keep B gTypes w w' := by
  have hg' := hg
  obtain ⟨hB, v, hblk, hown⟩ := hg
  obtain ⟨A, c, rfl, _, _, hform⟩ := own_form hown
  have HF := Lib.hid hform
  clear hform
  have hc0 : w.cell? ⟨g, 0, none⟩ = some (.slice A R.length c) := cell_of_blk hblk rfl
  have hlt := blk_lt hblk
  obtain ⟨i0, hi, hz0, hz1, hz2⟩ := info_parts infoReg
  go_enter Try.func12, Try.ntmps12
  go_upto_region 1 with (fail)
  go_cut [2] (fun s2 w' => s2 = .int .i64 (max j (-1)) ∧ w = w')
  case first =>
    by_cases hj : j < -1
    all_goals
      go_wp2
      go_meet
      case rel => exact ⟨by congr 1; omega, rfl⟩
  case rest =>
    obtain ⟨rfl, rfl⟩ := hcut
    generalize hJ : max j (-1) = J
    have HJ := Lib.hid hJ
    clear hJ
    go_upto_region 3 with (go_at_call 31; refine (top_any _ hR hown).mono ?_; rintro e w1 ⟨rfl, hb1⟩)
    go_cut [9, 29] (fun _ s29 w' => s29 = .bool (opens R J) ∧ GuardIn w' B g R pc ∧ Keep B gTypes w w')
    case first =>
      have hg1 : GuardIn (w1.alloc (.cells #[.int .i64 (topOf R).join, .int .i64 (topOf R).tag, .int .u64 ((topOf R).was : Int)] 81)) B g R pc := (hg'.below hb1).below ((Below.refl _ _).alloc (Nat.le_refl _) _)
      have hk1 : Keep B gTypes w (w1.alloc (.cells #[.int .i64 (topOf R).join, .int .i64 (topOf R).tag, .int .u64 ((topOf R).was : Int)] 81)) := (Keep.of_below hb1 _ _).alloc _
      cases he : R.isEmpty <;> cases hj : ((topOf R).join != J)
      all_goals
        go_wp2
        go_meet
        case rel => exact ⟨by rw [opens, he, hj]; rfl, hg1, hk1⟩
    case rest =>
      obtain ⟨rfl, hg1, hk1⟩ := hcut
      go_upto_if 29 with (fail)
      go_cut [] (fun w' => GuardIn w' B g (pushR R J tag pc) pc ∧ Keep B gTypes w w')
      case first =>
        cases ho : opens R J
        · have hp : pushR R J tag pc = R := by simp [pushR, ho]
          have HP := Lib.hid hp
          clear hp
          go_wp2
          go_meet
          case rel => exact ⟨by rw [HP.out]; exact hg1, hk1⟩
        · have hp : pushR R J tag pc = R ++ [⟨J, tag, pc⟩] := by simp [pushR, ho]
          have HP := Lib.hid hp
          clear hp
          obtain ⟨_, v1, hbk1, hown1⟩ := hg1
          obtain ⟨A1, c1, rfl, _, _, _⟩ := own_form hown1
          have hne := own_blk_ne hown1 hbk1 (by decide)
          have hd0 := cell_of_blk (i := 0) hbk1 rfl
          have hd1 := cell_of_blk (i := 1) hbk1 rfl
          have hlt1 := blk_lt hbk1
          have hBc : B ≤ wc.heap.size := Nat.le_trans hBw hk1.size
          go_wp2
          go_region_law ((refine step_append_lies _ (by rfl) _ _ _ (by rfl) B 81 i0 (.agg #[.int .i64 0, .int .i64 0, .int .u64 0]) 3 24 Try.underlying77 hi hz0 hz1 hz2 rfl (by omega) (.slice A1 R.length c1) R.length (flatR R) (by rfl) (by exact hown1.alloc _) ⟨wc.heap.size, 0, none⟩ 1 1 [.int .i64 J, .int .i64 tag, .int .u64 (pc : Int)] (by rfl) (by rfl) (by exact news_drew _ #[.int .i64 J, .int .i64 tag, .int .u64 (pc : Int)] _ _ (by simp)) (by simp [Value.oneCell']) (by omega) (by unfold maxLen; omega) (by omega) (by simp; omega) (wc.heap.size + 1) (by simp) ?_; intro gb cap w2 hown2 hgrow hat hlt2; have hbk2 : w2.heap[g]? = some (.cells #[.slice A1 R.length c1, .int .u64 (pc : Int)] 79 (0, 0)) := (by exact blk_grown (blk_drew (blk_alloc hbk1 _)) hgrow (Ne.symm hne)); have he0 := cell_of_blk (i := 0) hbk2 rfl; have hef := free_of_blk (i := 0) hbk2))
          all_goals
            go_wp2
            go_meet
            case rel =>
              exact ⟨by rw [HP.out]; exact GuardIn.pushed hB hbk2 hown2, (((hk1.alloc _).drew).grown hgrow (own_cond (own_drew (own_keep_alloc hown1 _)) (by decide))).set _ hbk2 (by decide) hB⟩
      case rest =>
        obtain ⟨hg2, hk2⟩ := hcut
        have hg2' := hg2
        obtain ⟨_, v2, hbk2, hown2⟩ := hg2
        have hd1 := cell_of_blk (i := 1) hbk2 rfl
        have hf1 := free_of_blk (i := 1) hbk2
        have hlt2 := blk_lt hbk2
        have hnb := heap_new_at wc (.cells #[.int .u64 (pc : Int), .int .u64 (l : Int)] 23) _ rfl
        go_wp2_with (go_at_call 32; refine (join2_any pc l _ _ _ _ hpc hl hnb).mono ?_; rintro e w' ⟨rfl, rfl⟩)
        go_end0
        exact ⟨rfl, by rw [HJ.out]; exact (hg2'.setPc _).below ((Below.refl _ _).alloc (Nat.le_refl _) _), (hk2.set (a := ⟨g, 1, none⟩) _ hbk2 (show 79 ∈ gTypes by decide) hB).alloc _⟩
end Go.Proofs.Ytkdoohmchdpjoaa
