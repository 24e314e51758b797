/-
  GuardActs: whatever branches are taken and places come to, in any order, the program's guard and the reference's answer alike.
-/
import Derived.Test.YtkdoohmchdpjoaaGuardAct
import Derived.Deep.RegionHeld3
set_option linter.unusedVariables false
set_option linter.unusedSimpArgs false
namespace Go.Proofs.Ytkdoohmchdpjoaa
open Go.ChangeShapes Go.WideShapes Go.ChangeAt Go.RowKit

set_option maxRecDepth 100000 in
set_option maxHeartbeats 2000000 in
theorem gacts_walk (own may : Nat) (A : Option Addr) (c : Nat) (xs : List GAct) (w : World) (hown : own < 18446744073709551616) (hmay : may < 18446744073709551616) (hr : Reads w w.heap.size A (xs.flatMap gaEnc)) (hL : ∀ x ∈ xs, x.L < 18446744073709551616)
    (hmax : xs.length ≤ 9223372036854775807) :
    Calls Try.prog 5 #[.int .u64 (own : Int), .slice A xs.length c, .int .u64 (may : Int)] w (RetB (.bool true) w) := by
  go_enter Try.func5, Try.ntmps5
  go_wp2_with fail
  refine (awake22 _).mono ?_
  rintro e w1 ⟨rfl, hbw⟩
  by_cases hlen : xs.length ≤ 200
  · have hle : ¬ (200 : Int) < (xs.length : Int) := by omega
    go_wp2_with fail
    refine (gnew_any own w1).mono ?_
    rintro e w2 ⟨rfl, hg2, hb2⟩
    go_wp2_with fail
    have hr2 : RefIn (w2.alloc (.cells #[.int .u64 (own : Int), .slice none 0 0] 43)) w1.heap.size w2.heap.size [] own := ⟨hb2.size, _, heap_alloc_new _ _, World.ownsRow_nil _ _ _ _⟩
    have hg2' := hg2.below ((Below.refl _ _).alloc (Nat.le_refl _) (.cells #[.int .u64 (own : Int), .slice none 0 0] 43))
    have hb2' := hb2.alloc hb2.size (.cells #[.int .u64 (own : Int), .slice none 0 0] 43)
    obtain ⟨N, hN⟩ : ∃ N, N = w1.heap.size := ⟨_, rfl⟩
    rw [← hN] at hr2 hg2' hb2' ⊢
    have hNle : N ≤ w1.heap.size := by omega
    have hwN : w.heap.size ≤ N := by have := hbw.size; omega
    have HN := Lib.hid hN
    clear hN hg2 hb2
    go_loopw [28] (fun i wr => ∃ (k : Nat) (R : List Reg) (pc : Nat), k ≤ xs.length ∧ i = .int .i64 k ∧ GuardIn wr N N R pc ∧ RefIn wr N w2.heap.size R pc ∧ AllG (· < 18446744073709551616) R pc ∧ R.length ≤ k ∧ Below N w1 wr) (fun i _ => xs.length - (intOf i).toNat)
    case atStart => exact ⟨0, [], own, by omega, rfl, hg2', hr2, ⟨hown, by simp⟩, by simp, hb2'⟩
    case round =>
      obtain ⟨k, R, pc, hk, rfl, hg, hrf, hall, hRk, hB⟩ := hrel
      have hpc := hall.1
      by_cases hlt : k < xs.length
      · have hsr := (hr.below hbw).below (hB.mono hwN)
        obtain ⟨x, hx⟩ : ∃ x, xs[k]? = some x := ⟨_, List.getElem?_eq_getElem hlt⟩
        obtain ⟨ad, rfl, hadb, hcell⟩ := hsr.at (flatMap_ne (K := 4) (fun a => rfl) (by omega) hx)
        have hxL := hL x (List.mem_of_getElem? hx)
        have hc0 := elem_zero (K := 4) (fun a => rfl) hcell hx (by omega) (v := .int .i64 x.act) rfl
        have hc1 := elem_at (K := 4) (fun a => rfl) hcell hx 1 (by omega) (by omega) (v := .int .u64 (x.L : Int)) rfl
        have hc2 := elem_at (K := 4) (fun a => rfl) hcell hx 2 (by omega) (by omega) (v := .int .i64 x.place) rfl
        have hc3 := elem_at (K := 4) (fun a => rfl) hcell hx 3 (by omega) (by omega) (v := .int .i64 x.tag) rfl
        have HX := Lib.hid hx
        clear hx hcell hsr
        have hbox := heap_alloc_new wr (.cells #[.int .i64 x.act, .int .u64 (x.L : Int), .int .i64 x.place, .int .i64 x.tag] 26)
        have hgX := hg.below ((Below.refl _ _).alloc (Nat.le_refl _) (.cells #[.int .i64 x.act, .int .u64 (x.L : Int), .int .i64 x.place, .int .i64 x.tag] 26))
        have hrX := hrf.below ((Below.refl _ _).alloc (Nat.le_refl _) (.cells #[.int .i64 x.act, .int .u64 (x.L : Int), .int .i64 x.place, .int .i64 x.tag] 26))
        have hszN := hB.size
        go_upto_if 34 with (fail)
        go_cut [] (fun w' => ∃ R3 pc3, GuardIn w' N N R3 pc3 ∧ RefIn w' N w2.heap.size R3 pc3 ∧ AllG (· < 18446744073709551616) R3 pc3 ∧ R3.length ≤ R.length + 1 ∧ Below N w1 w')
        case first =>
          cases hdo : (x.act == 0)
          · obtain ⟨hall3, hl3⟩ := hall.at x.place
            go_wp2_with fail
            go_region_held3 (fun w' => w'.cell? ⟨wr.heap.size, 2, none⟩ = some (.int .i64 x.place)) (first | go_keep | exact hb3c | exact hb4c)
              ((first
                | (go_at_call 13; refine (gat_all x.place _ hgX.drew (by omega) (by simp; omega)).mono ?_; rintro e w3 ⟨v, rfl, hown3, hg3, hk3⟩; have hbox3 := hk3.blk (blk_drew hbox) (by decide); have hb3c := cell_of_blk (i := 2) hbox3 rfl; have hr3 := (RefIn.drew hrX).keep hk3 (by decide) (by decide))
                | (go_at_call 19; refine (rat_all x.place _ hr3 (by omega)).mono ?_; rintro e w4 ⟨v', rfl, hown4, hr4, hk4⟩; have hbox4 := hk4.blk hbox3 (by decide); have hb4c := cell_of_blk (i := 2) hbox4 rfl)))
            have hown34 := hk4.own hown3 (by decide)
            obtain ⟨R3, pc3, ts, hg3', hr4', hall3', hl3', ho1, ho2⟩ : ∃ R3 pc3, ∃ ts : List Int, GuardIn w3 N N R3 pc3 ∧ RefIn w4 N w2.heap.size R3 pc3 ∧ AllG (· < 18446744073709551616) R3 pc3 ∧ R3.length ≤ R.length ∧
                w4.ownsRow (wr.heap.size + 1) 3 1 v ts.length (ts.map (Value.int .i64)) ∧ w4.ownsRow w3.heap.size 3 1 v' ts.length (ts.map (Value.int .i64)) := ⟨_, _, _, hg3, hr4, hall3, hl3, by simpa using hown34, hown4⟩
            have hg4 := hg3'.keep hk4 (by decide) (by decide)
            have hB3 : Below N w1 w3 := ((hB.alloc (by omega) _).drew).trans (hk3.below (by simp; omega))
            have hB4 : Below N w1 w4 := hB3.trans (hk4.below (by have := hB3.size; omega))
            clear hown3 hg3 hk3 hbox3 hb3c hr3 hown4 hr4 hk4 hbox4 hb4c hown34 hall3 hl3
            obtain ⟨A1, c1, rfl, hm1, hm2, hf1⟩ := own_form ho1
            have hml : ts.length ≤ 9223372036854775807 := by unfold maxLen at hm2; omega
            obtain ⟨A2, c2, rfl, _, _, hf2⟩ := own_form ho2
            have HF1 := Lib.hid hf1
            have HF2 := Lib.hid hf2
            clear hf1 hf2 hc0 hc1 hc2 hc3
            go_wp2
            go_loopw [66] (fun i w' => ∃ (k' n : Nat), k' ≤ ts.length ∧ i = .int .i64 k' ∧ w' = w4.drewN n) (fun i _ => ts.length - (intOf i).toNat)
            case atStart => exact ⟨0, 0, by omega, rfl, rfl⟩
            case round =>
              obtain ⟨k', n, hk', rfl, rfl⟩ := hrel
              by_cases hlt' : k' < ts.length
              · obtain ⟨g1, rfl, _, _, _, hc1⟩ := HF1.out (by omega)
                obtain ⟨g2, rfl, _, _, _, hc2⟩ := HF2.out (by omega)
                have hd1 := hc1 k' (.int .i64 ts[k']) (by simp [hlt'])
                have hd2 := hc2 k' (.int .i64 ts[k']) (by simp [hlt'])
                clear hc1 hc2
                have hi1 : (k' : Int) < (ts.length : Int) := by omega
                go_wp2
                go_quiet (fail)
                go_wp2
                go_roundw
                case rel => exact ⟨k' + 1, _, by omega, by go_num, rfl⟩
                case measure => simp [intOf]; omega
              · go_wp2
                go_meet
                case rel => exact ⟨R3, pc3, hg4.drewN _, hr4'.drewN _, hall3', by omega, below_drewN hB4 _⟩
          · go_wp2_with fail
            have hpl := push_length R (max x.place (-1)) x.tag pc
            refine (gbranch_any x.L x.place x.tag _ hgX hxL hpc (by omega) (by simp; omega)).mono ?_
            rintro e w3 ⟨rfl, hg3, hk3⟩
            have hr3 := hrX.keep hk3 (by decide) (by decide)
            have hbox3 := hk3.blk hbox (by decide)
            have hd0 := cell_of_blk (i := 1) hbox3 rfl
            have hd1 := cell_of_blk (i := 2) hbox3 rfl
            have hd2 := cell_of_blk (i := 3) hbox3 rfl
            have hB3 : Below N w1 w3 := (hB.alloc (by omega) _).trans (hk3.below (by simp; omega))
            have hsz3 := hB3.size
            go_wp2_with fail
            refine (rbranch_any x.L x.place x.tag _ hr3 hxL hpc (by omega) (by omega)).mono ?_
            rintro e w4 ⟨rfl, hr4, hk4⟩
            have hg4 := hg3.keep hk4 (by decide) (by decide)
            go_wp2
            go_meet
            case rel => exact ⟨_, _, hg4, hr4, hall.push _ _ _ (Nat.or_lt_two_pow (n := 64) hpc hxL), hpl, hB3.trans (hk4.below (by omega))⟩
        case rest =>
          obtain ⟨R3, pc3, hg3, hr3, hall3, hl3, hB3⟩ := hcut
          have hp3 := hall3.1
          have hr3' := hr3
          obtain ⟨_, v3, hblk3, hrow3⟩ := hr3
          obtain ⟨A3, c3, rfl, _, _, _⟩ := own_form hrow3
          have he0 := cell_of_blk (i := 0) hblk3 rfl
          have he1 := cell_of_blk (i := 1) hblk3 rfl
          go_wp2_with fail
          go_quiet ((first | (go_at_call 15; exact quiet_ret (gpc_any _ (hg3.drewN _))) | (go_at_call 17; exact quiet_ret (gdeep_any _ (hg3.drewN _))) | (go_at_call 20; exact quiet_ret (gmay_any _ _ (hg3.drewN _) hp3 hmay)) | (go_at_call 14; exact quiet_ret (rflows_any _ _ _ hp3 hmay))))
          go_wp2
          go_roundw
          case rel => exact ⟨k + 1, R3, pc3, by omega, by go_num, hg3.drewN _, hr3'.drewN _, hall3, by omega, below_drewN hB3 _⟩
          case measure => simp [intOf]; omega
      · go_wp2
        go_ret
        exact ⟨rfl, hbw.trans (hB.mono hwN)⟩
  · have hle : (200 : Int) < (xs.length : Int) := by omega
    go_wp2
    go_ret
    exact ⟨rfl, hbw⟩
set_option maxRecDepth 100000 in
theorem gacts_lifted (os : Os) (started : os.Started) (H : Type) (enc : TypeId × Value → H) :
    ReturnsInHanded {} Try.checked os 5 .any (Rows.guardActsSpec.pre6 enc Try.prog Try.f5 Rows.guardActsRow.domain false) (Rows.guardActsSpec.post enc Try.prog Try.f5 false true false false) := by
  refine returnsInHanded_of_change_sized (C := Try.checked) own started (by kernel_rfl) Try.func5
    (ChangeSpec.witness6 (enc := enc) (C := Try.checked) false ⟨#[], #[.int .u64 0, .slice none 0 0, .int .u64 0], []⟩ 8 (by kernel_rfl) (by kernel_rfl) (by kernel_rfl) (by kernel_rfl)) ?_
  intro W base args ds gs before hval0 hW hcnd hsz0 _
  have hval : ∀ (j : Nat) t v, Try.f5.params[j]? = some t → args[j]? = some v → Value.okWide Try.prog W .any base t v := hval0
  have hsz : (DataW.weightsEach Try.prog (Try.f5.params.toList ++ Rows.guardActsSpec.plain.varTypes Try.prog) (ds ++ gs)).all (· ≤ reachBytes) = true := hsz0
  have hW' := hW
  obtain ⟨p, q, hA0, hV, rfl, hfz, hnd⟩ := hW
  have hA : DataW.TrodAll enc Try.prog W 0 (fun _ => true) true Try.f5.params.toList args.toList ds p := hA0
  rw [Try.params5] at hA hval hsz
  obtain ⟨v0, vs0, d0, ds0, p0, q0, hargs0, rfl, rfl, h0, r0⟩ := trodAll_cons hA
  obtain ⟨v1, vs1, d1, ds1, p1, q1, rfl, rfl, rfl, h1, r1⟩ := trodAll_cons r0
  obtain ⟨v2, vs2, d2, ds2, p2, q2, rfl, rfl, rfl, h2, r2⟩ := trodAll_cons r1
  obtain ⟨rfl, rfl, rfl⟩ := trodAll_nil r2
  obtain rfl : args = #[v0, v1, v2] := by cases args; simp_all
  obtain ⟨rfl, rfl⟩ := trodVars_none hV
  obtain ⟨own, rfl, w0⟩ := open_nat Try.underlying23 (hval 0 23 v0 rfl rfl) h0
  obtain ⟨s, rfl, w1⟩ := open_sl Try.underlying24 (hval 1 24 v1 rfl rfl) h1 (decSlice Try.underlying24 (K := 4) (by kernel_rfl) (by omega) (fun _ => rfl) decGAct)
  obtain ⟨may, rfl, w2⟩ := open_nat Try.underlying23 (hval 2 23 v2 rfl rfl) h2
  refine (gacts_walk own may s.A s.cap s.xs W w0 w2 w1.reads (fun x hx => (w1.mem hx).elim fun _ h => h.2) (by have := w1.le; have := w1.cap; unfold maxLen at this; omega)).mono fun e W' ⟨he, hb⟩ => ⟨_, he, ?_⟩
  exact law_post laidOut hW' rfl rfl Try.underlying4 (by kernel_rfl) rfl rfl rfl hb

theorem gacts_holds : Rows.GuardActsSaid :=
  OpenClaim.holds_of_wide 5 Try.f5 rfl rfl rfl rfl rfl rfl rfl ⟨rfl, rfl, rfl, rfl, rfl⟩ rfl rfl rfl rfl rfl (by kernel_rfl) Try.func5 (by kernel_rfl)
    (of_decide_eq_true (by kernel_rfl)) (by unfold Func.isWrapper; first | (rw [if_pos (by decide +kernel)]; kernel_rfl) | (rw [if_neg (by decide +kernel)]; exact ⟨rfl, rfl⟩))
    (fun os started H enc _ => gacts_lifted os started H enc)
#print axioms gacts_holds
end Go.Proofs.Ytkdoohmchdpjoaa
