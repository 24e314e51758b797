/-
  GuardLow: the label never goes below the first one; a branch that is taken counts until its region ends.
-/
import Derived.Test.YtkdoohmchdpjoaaGuardAct
set_option linter.unusedVariables false
set_option linter.unusedSimpArgs false
namespace Go.Proofs.Ytkdoohmchdpjoaa
open Go.ChangeShapes Go.WideShapes Go.ChangeAt Go.RowKit

/-- What holds of every label that the guard keeps: it is a label, and the first one flows to it. -/
def LowQ (own l : Nat) : Prop := l < 18446744073709551616 ∧ flowsB own l = true

set_option maxRecDepth 100000 in
set_option maxHeartbeats 2000000 in
theorem glow_walk (own : Nat) (A : Option Addr) (c : Nat) (xs : List GAct) (a : GAct) (w : World) (hown : own < 18446744073709551616) (hr : Reads w w.heap.size A (xs.flatMap gaEnc)) (hL : ∀ x ∈ xs, x.L < 18446744073709551616) (ha : a.L < 18446744073709551616)
    (hmax : xs.length ≤ 9223372036854775807) :
    Calls Try.prog 3 #[.int .u64 (own : Int), .slice A xs.length c, .agg #[.int .i64 a.act, .int .u64 (a.L : Int), .int .i64 a.place, .int .i64 a.tag]] w (RetB (.bool true) w) := by
  go_enter Try.func3, Try.ntmps3
  go_wp2_with fail
  refine (awake22 _).mono ?_
  rintro e w1 ⟨rfl, hb1⟩
  have hbx := heap_alloc_new w (.cells #[.int .i64 a.act, .int .u64 (a.L : Int), .int .i64 a.place, .int .i64 a.tag] 26)
  have hbx1 := below_blk hb1 hbx
  have hbw : Below w.heap.size w w1 := ((Below.refl _ _).alloc (Nat.le_refl _) _).trans (hb1.mono (by simp))
  clear hbx hb1
  by_cases hlen : xs.length ≤ 200
  · have hle : ¬ (200 : Int) < (xs.length : Int) := by omega
    go_wp2_with fail
    refine (gnew_any own w1).mono ?_
    rintro e w2 ⟨rfl, hg2, hb2⟩
    go_wp2_with fail
    have hBN : w.heap.size + 1 ≤ w1.heap.size := by have := blk_lt hbx1; omega
    obtain ⟨N, hN⟩ : ∃ N, N = w1.heap.size := ⟨_, rfl⟩
    rw [← hN] at hg2 hb2 hBN ⊢
    have hNle : N ≤ w1.heap.size := by omega
    have HN := Lib.hid hN
    clear hN
    go_loopw [22] (fun i wr => ∃ (k : Nat) (R : List Reg) (pc : Nat), k ≤ xs.length ∧ i = .int .i64 k ∧ GuardIn wr N N R pc ∧ AllG (LowQ own) R pc ∧ R.length ≤ k ∧ Below N w1 wr) (fun i _ => xs.length - (intOf i).toNat)
    case atStart => exact ⟨0, [], own, by omega, rfl, hg2, ⟨⟨hown, flowsB_self own⟩, by simp⟩, by simp, hb2⟩
    case round =>
      obtain ⟨k, R, pc, hk, rfl, hg, hall, hRk, hB⟩ := hrel
      have hall' := hall
      obtain ⟨⟨hpc, hfl⟩, _⟩ := hall'
      by_cases hlt : k < xs.length
      · have hsr := (hr.below hbw).below (hB.mono (by omega))
        obtain ⟨x, hx⟩ : ∃ x, xs[k]? = some x := ⟨_, List.getElem?_eq_getElem hlt⟩
        obtain ⟨ad, rfl, hadb, hcell⟩ := hsr.at (flatMap_ne (K := 4) (fun a => rfl) (by omega) hx)
        have hxL := hL x (List.mem_of_getElem? hx)
        have hc0 := elem_zero (K := 4) (fun a => rfl) hcell hx (by omega) (v := .int .i64 x.act) rfl
        have hc1 := elem_at (K := 4) (fun a => rfl) hcell hx 1 (by omega) (by omega) (v := .int .u64 (x.L : Int)) rfl
        have hc2 := elem_at (K := 4) (fun a => rfl) hcell hx 2 (by omega) (by omega) (v := .int .i64 x.place) rfl
        have hc3 := elem_at (K := 4) (fun a => rfl) hcell hx 3 (by omega) (by omega) (v := .int .i64 x.tag) rfl
        have HX := Lib.hid hx
        clear hx hcell hsr
        cases hdo : (x.act == 0)
        · go_wp2_with fail
          refine (gat_all x.place _ (hg.below ((Below.refl _ _).alloc (Nat.le_refl _) _)) (by omega) (by have := hB.size; simp; omega)).mono ?_
          rintro e w3 ⟨v, rfl, hown3, hg3, hk3⟩
          obtain ⟨hall3, hl3⟩ := hall.at x.place
          obtain ⟨R3, pc3, hg3', hall3', hl3'⟩ : ∃ R3 pc3, GuardIn w3 N N R3 pc3 ∧ AllG (LowQ own) R3 pc3 ∧ R3.length ≤ R.length := ⟨_, _, hg3, hall3, hl3⟩
          have hp3 := hall3'.1.1
          have hf3 := hall3'.1.2
          have hB3 : Below N w1 w3 := (hB.alloc (by have := hB.size; omega) _).trans (hk3.below (by have := hB.size; simp; omega))
          clear hg3 hall3 hl3 hown3 hk3
          go_wp2_with (first | (go_at_call 15; refine (gpc_any _ hg3').mono ?_; rintro e w' ⟨rfl, rfl⟩) | (go_at_call 14; refine (rflows_any _ _ _ hown hp3).mono ?_; rintro e w' ⟨rfl, rfl⟩))
          go_roundw
          case rel => exact ⟨k + 1, R3, pc3, by omega, by go_num, hg3', hall3', by omega, hB3⟩
          case measure => simp [intOf]; omega
        · go_wp2_with fail
          refine (gbranch_any x.L x.place x.tag _ (hg.below ((Below.refl _ _).alloc (Nat.le_refl _) _)) hxL hpc (by omega) (by have := hB.size; simp; omega)).mono ?_
          rintro e w3 ⟨rfl, hg3, hk3⟩
          have hpl := push_length R (max x.place (-1)) x.tag pc
          obtain ⟨R3, pc3, hg3', hall3', hl3'⟩ : ∃ R3 pc3, GuardIn w3 N N R3 pc3 ∧ AllG (LowQ own) R3 pc3 ∧ R3.length ≤ R.length + 1 := ⟨_, _, hg3, hall.push _ _ _ ⟨Nat.or_lt_two_pow (n := 64) hpc hxL, flowsB_or _ hfl⟩, hpl⟩
          have hp3 := hall3'.1.1
          have hf3 := hall3'.1.2
          have hB3 : Below N w1 w3 := (hB.alloc (by have := hB.size; omega) _).trans (hk3.below (by have := hB.size; simp; omega))
          clear hg3 hk3 hpl
          go_wp2_with (first | (go_at_call 15; refine (gpc_any _ hg3').mono ?_; rintro e w' ⟨rfl, rfl⟩) | (go_at_call 14; refine (rflows_any _ _ _ hown hp3).mono ?_; rintro e w' ⟨rfl, rfl⟩))
          go_roundw
          case rel => exact ⟨k + 1, R3, pc3, by omega, by go_num, hg3', hall3', by omega, hB3⟩
          case measure => simp [intOf]; omega
      · have hbxr := (hB.block w.heap.size (by omega)).trans hbx1
        have ha0 := cell_of_blk (i := 1) hbxr rfl
        have ha1 := cell_of_blk (i := 2) hbxr rfl
        have ha2 := cell_of_blk (i := 3) hbxr rfl
        go_wp2_with (go_at_call 15; refine (gpc_any _ hg).mono ?_; rintro e w' ⟨rfl, rfl⟩)
        refine (gbranch_any a.L a.place a.tag _ hg ha hpc (by omega) (by have := hB.size; omega)).mono ?_
        rintro e w4 ⟨rfl, hg4, hk4⟩
        have hB4 : Below N w1 w4 := hB.trans (hk4.below (by have := hB.size; omega))
        have hbx4 := (hB4.block w.heap.size (by omega)).trans hbx1
        have hb0 := cell_of_blk (i := 1) hbx4 rfl
        have hpos := push_pos R (max a.place (-1)) a.tag pc
        obtain ⟨R4, hg4', hpos'⟩ : ∃ R4, GuardIn w4 N N R4 (pc ||| a.L) ∧ 0 < R4.length := ⟨_, hg4, hpos⟩
        have hd : decide ((0 : Int) < (R4.length : Int)) = true := by simp; omega
        clear hg4 hpos hk4
        go_wp2_with fail
        go_quiet ((first | (go_at_call 15; exact quiet_ret (gpc_any _ (hg4'.drewN _))) | (go_at_call 16; exact quiet_ret (rjoin_any pc a.L _ hpc ha)) | (go_at_call 17; exact quiet_ret (gdeep_any _ (hg4'.drewN _)))))
        go_wp2
        go_ret
        exact ⟨rfl, below_drewN (hbw.trans (hB4.mono (by omega))) _⟩
  · have hle : (200 : Int) < (xs.length : Int) := by omega
    go_wp2
    go_ret
    exact ⟨rfl, hbw⟩

set_option maxRecDepth 100000 in
theorem glow_lifted (os : Os) (started : os.Started) (H : Type) (enc : TypeId × Value → H) :
    ReturnsInHanded {} Try.checked os 3 .any (Rows.guardLowSpec.pre6 enc Try.prog Try.f3 Rows.guardLowRow.domain false) (Rows.guardLowSpec.post enc Try.prog Try.f3 false true false false) := by
  refine returnsInHanded_of_change_sized (C := Try.checked) own started (by kernel_rfl) Try.func3
    (ChangeSpec.witness6 (enc := enc) (C := Try.checked) false ⟨#[], #[.int .u64 0, .slice none 0 0, .agg #[.int .i64 0, .int .u64 0, .int .i64 0, .int .i64 0]], []⟩ 8 (by kernel_rfl) (by kernel_rfl) (by kernel_rfl) (by kernel_rfl)) ?_
  intro W base args ds gs before hval0 hW hcnd hsz0 _
  have hval : ∀ (j : Nat) t v, Try.f3.params[j]? = some t → args[j]? = some v → Value.okWide Try.prog W .any base t v := hval0
  have hW' := hW
  obtain ⟨p, q, hA0, hV, rfl, hfz, hnd⟩ := hW
  have hA : DataW.TrodAll enc Try.prog W 0 (fun _ => true) true Try.f3.params.toList args.toList ds p := hA0
  rw [Try.params3] at hA hval
  obtain ⟨v0, v1, v2, d0, d1, d2, p0, p1, p2, rfl, rfl, rfl, h0, h1, h2⟩ := trodAll_three hA
  obtain ⟨rfl, rfl⟩ := trodVars_none hV
  obtain ⟨own, rfl, wown⟩ := open_nat Try.underlying23 (hval 0 23 v0 rfl rfl) h0
  obtain ⟨s, rfl, hs⟩ := open_sl Try.underlying24 (hval 1 24 v1 rfl rfl) h1 (decSlice Try.underlying24 (K := 4) (by kernel_rfl) (by omega) (fun _ => rfl) decGAct)
  obtain ⟨a, rfl, ha⟩ := open_agg (.inl ⟨_, Try.underlying26⟩) (hval 2 26 v2 rfl rfl) h2 decGAct
  refine (glow_walk own s.A s.cap s.xs a W wown hs.reads (fun x hx => (hs.mem hx).elim fun _ h => h.2) ha (by have := hs.le; have := hs.cap; unfold maxLen at this; omega)).mono fun e W' ⟨he, hb⟩ => ⟨_, he, ?_⟩
  exact law_post laidOut hW' rfl rfl Try.underlying4 (by kernel_rfl) rfl rfl rfl hb

theorem glow_holds : Rows.GuardLowSaid :=
  OpenClaim.holds_of_wide 3 Try.f3 rfl rfl rfl rfl rfl rfl rfl ⟨rfl, rfl, rfl, rfl, rfl⟩ rfl rfl rfl rfl rfl (by kernel_rfl) Try.func3 (by kernel_rfl)
    (of_decide_eq_true (by kernel_rfl)) (by unfold Func.isWrapper; first | (rw [if_pos (by decide +kernel)]; kernel_rfl) | (rw [if_neg (by decide +kernel)]; exact ⟨rfl, rfl⟩))
    (fun os started H enc _ => glow_lifted os started H enc)
#print axioms glow_holds
end Go.Proofs.Ytkdoohmchdpjoaa
