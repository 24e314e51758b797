/-
  GuardEnds: regions that are opened within one another, and end one by one, leave the label as it was ahead of each.
-/
import Derived.Test.YtkdoohmchdpjoaaGuardAct
set_option linter.unusedVariables false
set_option linter.unusedSimpArgs false
namespace Go.Proofs.Ytkdoohmchdpjoaa
open Go.ChangeShapes Go.WideShapes Go.ChangeAt Go.RowKit

/-- The label behind k branches. -/
def pcs (own : Nat) (l : List Nat) (k : Nat) : Nat := (l.take k).foldl (· ||| ·) own
theorem pcs_zero (own : Nat) (l : List Nat) : pcs own l 0 = own := rfl
theorem pcs_succ (own : Nat) (l : List Nat) (k : Nat) (h : k < l.length) : pcs own l (k + 1) = pcs own l k ||| l[k] := by
  unfold pcs
  rw [List.take_succ_eq_append_getElem h, List.foldl_append]
  rfl
theorem pcs_lt (own : Nat) (l : List Nat) (k : Nat) (h : own < 18446744073709551616) (hl : ∀ x ∈ l, x < 18446744073709551616) : pcs own l k < 18446744073709551616 := by
  have key : ∀ (l : List Nat) (a : Nat), a < 18446744073709551616 → (∀ x ∈ l, x < 18446744073709551616) → l.foldl (· ||| ·) a < 18446744073709551616 := by
    intro l
    induction l with
    | nil => intro a ha _; exact ha
    | cons x l ih => intro a ha hl; exact ih _ (Nat.or_lt_two_pow (n := 64) ha (hl x (by simp))) (fun y hy => hl y (by simp [hy]))
  exact key _ own h fun x hx => hl x (List.mem_of_mem_take hx)
/-- The regions behind k branches. -/
def regsOf (own : Nat) (l : List Nat) (k : Nat) : List Reg := (List.range k).map fun i : Nat => ⟨1000 - (i : Int), (i : Int), pcs own l i⟩
theorem regsOf_succ (own : Nat) (l : List Nat) (k : Nat) : regsOf own l (k + 1) = regsOf own l k ++ [⟨1000 - (k : Int), (k : Int), pcs own l k⟩] := by
  simp [regsOf, List.range_succ]
theorem regsOf_length (own : Nat) (l : List Nat) (k : Nat) : (regsOf own l k).length = k := by simp [regsOf]
theorem push_regs (own : Nat) (l : List Nat) (k : Nat) (h : k ≤ 200) : pushR (regsOf own l k) (max (1000 - (k : Int)) (-1)) (k : Int) (pcs own l k) = regsOf own l (k + 1) := by
  have e : max (1000 - (k : Int)) (-1) = 1000 - (k : Int) := by omega
  rw [e, regsOf_succ, pushR, if_pos]
  cases k with
  | zero => rfl
  | succ k =>
    rw [regsOf_succ]
    simp [opens, topOf]
    omega
theorem popS_stay (own : Nat) (l : List Nat) (i : Nat) (pc : Nat) : popS (1000 - (i : Int)) (regsOf own l i).reverse pc = ((regsOf own l i).reverse, pc, []) := by
  cases i with
  | zero => rfl
  | succ i =>
    rw [regsOf_succ, List.reverse_append]
    simp only [List.reverse_cons, List.reverse_nil, List.nil_append, List.cons_append]
    rw [popS, if_neg]
    simp
    omega
theorem at_regs (own : Nat) (l : List Nat) (i : Nat) (pc : Nat) (h : i < 200) : atS (1000 - (i : Int)) (regsOf own l (i + 1)).reverse pc = ((regsOf own l i).reverse, pcs own l i, [(i : Int)]) := by
  rw [atS, if_neg (by omega), regsOf_succ, List.reverse_append]
  simp only [List.reverse_cons, List.reverse_nil, List.nil_append, List.cons_append]
  rw [popS, if_pos rfl, popS_stay]

theorem infoLabel : (Try.prog.info? 23).map (fun i => (i.zero, i.size, i.bytes)) = some (some (.int .u64 0), 1, 8) := by kernel_rfl
def wasRow (own : Nat) (l : List Nat) (k : Nat) : List Value := (List.range k).map fun i => .int .u64 (pcs own l i : Int)
theorem wasRow_succ (own : Nat) (l : List Nat) (k : Nat) : wasRow own l (k + 1) = wasRow own l k ++ [.int .u64 (pcs own l k : Int)] := by simp [wasRow, List.range_succ]

set_option maxRecDepth 100000 in
set_option maxHeartbeats 2000000 in
theorem gends_walk (own : Nat) (A : Option Addr) (c : Nat) (xs : List Nat) (w : World) (hown : own < 18446744073709551616) (hr : Reads w w.heap.size A (xs.flatMap fun n : Nat => [Value.int .u64 (n : Int)])) (hL : ∀ x ∈ xs, x < 18446744073709551616)
    (hmax : xs.length ≤ 9223372036854775807) :
    Calls Try.prog 4 #[.int .u64 (own : Int), .slice A xs.length c] w (RetB (.bool true) w) := by
  obtain ⟨i0, hi, hz0, hz1, hz2⟩ := info_parts infoLabel
  go_enter Try.func4, Try.ntmps4
  go_wp2_with fail
  refine (awake22 _).mono ?_
  rintro e w1 ⟨rfl, hbw⟩
  by_cases hlen : xs.length ≤ 200
  · have hle : ¬ (200 : Int) < (xs.length : Int) := by omega
    go_wp2_with fail
    refine (gnew_any own w1).mono ?_
    rintro e w2 ⟨rfl, hg2, hb2⟩
    go_wp2_with fail
    obtain ⟨N, hN⟩ : ∃ N, N = w1.heap.size := ⟨_, rfl⟩
    rw [← hN] at hg2 hb2 ⊢
    have hNle : N ≤ w1.heap.size := by omega
    have hwN : w.heap.size ≤ N := by have := hbw.size; omega
    have HN := Lib.hid hN
    clear hN
    go_loopw [6, 22] (fun v i wr => ∃ (k : Nat), k ≤ xs.length ∧ i = .int .i64 k ∧ GuardIn wr N N (regsOf own xs k) (pcs own xs k) ∧ wr.ownsRow N 23 1 v k (wasRow own xs k) ∧ Below N w1 wr) (fun _ i _ => xs.length - (intOf i).toNat)
    case atStart => exact ⟨0, by omega, rfl, hg2, World.ownsRow_nil _ _ _ _, hb2⟩
    case round =>
      obtain ⟨k, hk, rfl, hg, hrow, hB⟩ := hrel
      have hpc := pcs_lt own xs k hown hL
      have hszN := hB.size
      by_cases hlt : k < xs.length
      · have hsr := (hr.below hbw).below (hB.mono hwN)
        obtain ⟨x, hx⟩ : ∃ x, xs[k]? = some x := ⟨_, List.getElem?_eq_getElem hlt⟩
        obtain ⟨ad, rfl, hadb, hcell⟩ := hsr.at (flatMap_ne (K := 1) (fun a => rfl) (by omega) hx)
        have hxL := hL x (List.mem_of_getElem? hx)
        have hc0 : wr.cell? (ad.add k) = some (.int .u64 (x : Int)) := by simpa using elem_zero (K := 1) (fun a => rfl) hcell hx (by omega) (v := .int .u64 (x : Int)) rfl
        have hps : pcs own xs (k + 1) = pcs own xs k ||| x := by rw [pcs_succ own xs k hlt]; congr 1; rw [List.getElem?_eq_getElem hlt] at hx; exact Option.some.inj hx
        have HX := Lib.hid hx
        have HP := Lib.hid hps
        clear hx hps hcell hsr
        go_wp2_with (first | (go_at_call 15; refine (gpc_any _ hg).mono ?_; rintro e w' ⟨rfl, rfl⟩) | (at_builtin; (refine wpList_append_lies _ rfl _ _ _ rfl N 23 i0 (.int .u64 0) 1 8 Try.underlying38 hi hz0 hz1 hz2 rfl (by omega) _ k (wasRow own xs k) rfl (hrow.alloc _) ⟨wr.heap.size, 0, none⟩ 1 1 [.int .u64 (pcs own xs k : Int)] rfl rfl (news_new _ #[.int .u64 (pcs own xs k : Int)] _ _ rfl) (by simp [Value.oneCell']) (by omega) (by unfold maxLen; omega) (by omega) (by simp; omega) (wr.heap.size + 1) (by simp) ?_); intro gt cap w3 hrow3 hgrow hat hlt3))
        have hkA : Keep N [23] _ w3 := (Keep.refl N [23] _).grown hgrow (own_cond (own_keep_alloc hrow _) (by decide))
        have hg3 := (hg.below ((Below.refl _ _).alloc (Nat.le_refl _) (.cells #[.int .u64 (pcs own xs k : Int)] 23))).keep hkA (by decide) (by decide)
        have hB3 : Below N w1 w3 := (hB.alloc (by omega) _).trans (hkA.below (by simp; omega))
        have hsz3 := hB3.size
        refine (gbranch_any x (1000 - (k : Int)) (k : Int) _ hg3 hxL hpc (by rw [regsOf_length]; omega) (by omega)).mono ?_
        rw [push_regs own xs k (by omega), ← HP.out]
        rintro e w4 ⟨rfl, hg4, hk4⟩
        have hrow4 := hk4.own hrow3 (by decide)
        go_wp2
        go_roundw
        case rel => exact ⟨k + 1, by omega, by go_num, hg4, by rw [wasRow_succ]; exact hrow4, hB3.trans (hk4.below (by omega))⟩
        case measure => simp [intOf]; omega
      · obtain rfl : k = xs.length := by omega
        obtain ⟨AW, cW, rfl, _, _, hfW⟩ := own_form hrow
        go_wp2_with (go_at_call 17; refine (gdeep_any _ hg).mono ?_; rw [regsOf_length]; rintro e w' ⟨rfl, rfl⟩)
        have HW := Lib.hid hfW
        clear hfW
        obtain ⟨wo, rfl⟩ : ∃ wo : World, wo = wr := ⟨_, rfl⟩
        go_loopw [9] (fun i wr => ∃ (k : Nat), k ≤ xs.length ∧ i = .int .i64 ((k : Int) - 1) ∧ GuardIn wr N N (regsOf own xs k) (pcs own xs k) ∧ wr.ownsRow N 23 1 (.slice AW xs.length cW) xs.length (wasRow own xs xs.length) ∧ Below N w1 wr) (fun i _ => (intOf i + 1).toNat)
        case atStart => exact ⟨xs.length, by omega, rfl, hg, hrow, hB⟩
        case round =>
          clear hg hrow hB hszN hpc
          obtain ⟨k, hk, rfl, hg, hrow, hB⟩ := hrel
          have hszN := hB.size
          cases k with
          | zero =>
            have hg' : GuardIn wr N N [] own := hg
            go_wp2_with (first | (go_at_call 17; refine (gdeep_any _ hg').mono ?_; rintro e w' ⟨rfl, rfl⟩) | (go_at_call 15; refine (gpc_any _ hg').mono ?_; rintro e w' ⟨rfl, rfl⟩))
            go_ret
            exact ⟨rfl, hbw.trans (hB.mono hwN)⟩
          | succ m =>
            have hm : ((m + 1 : Nat) : Int) - 1 = (m : Int) := by omega
            rw [hm]
            clear hm
            have hmi : (m : Int) < (xs.length : Int) := by omega
            go_wp2_with fail
            refine (gat_all (1000 - (m : Int)) _ hg (by rw [regsOf_length]; omega) (by omega)).mono ?_
            rw [at_regs own xs m _ (by omega)]
            rintro e w3 ⟨v, rfl, hown3, hg3, hk3⟩
            have hg3' : GuardIn w3 N N (regsOf own xs m) (pcs own xs m) := by simpa using hg3
            have hrow3 := hk3.own hrow (by decide)
            have hown3' : w3.ownsRow wr.heap.size 3 1 v 1 [.int .i64 (m : Int)] := hown3
            obtain ⟨A3, c3, rfl, _, _, hf3⟩ := own_form hown3'
            obtain ⟨g3, rfl, _, _, _, hc3⟩ := hf3 (by omega)
            have hd0 := hc3 0 _ rfl
            obtain ⟨AW', cW', e, _, _, hfW⟩ := own_form hrow3
            injection e with e1 _ e3
            subst e1; subst e3
            obtain ⟨gW, rfl, _, _, _, hcW⟩ := hfW (by omega)
            have hd1 := hcW m (.int .u64 (pcs own xs m : Int)) (by unfold wasRow; rw [List.getElem?_map, List.getElem?_range (by omega)]; rfl)
            have hB3 : Below N w1 w3 := hB.trans (hk3.below (by omega))
            clear hf3 hc3 hfW hcW hown3 hown3' hg3
            go_wp2_with fail
            go_quiet ((go_at_call 15; exact quiet_ret (gpc_any _ (hg3'.drewN _))))
            go_wp2
            go_roundw
            case rel => exact ⟨m, by omega, by go_num, hg3'.drewN _, hrow3, below_drewN hB3 _⟩
            case measure => simp [intOf]
  · have hle : (200 : Int) < (xs.length : Int) := by omega
    go_wp2
    go_ret
    exact ⟨rfl, hbw⟩
set_option maxRecDepth 100000 in
theorem gends_lifted (os : Os) (started : os.Started) (H : Type) (enc : TypeId × Value → H) :
    ReturnsInHanded {} Try.checked os 4 .any (Rows.guardEndsSpec.pre6 enc Try.prog Try.f4 Rows.guardEndsRow.domain false) (Rows.guardEndsSpec.post enc Try.prog Try.f4 false true false false) := by
  refine returnsInHanded_of_change_sized (C := Try.checked) own started (by kernel_rfl) Try.func4
    (ChangeSpec.witness6 (enc := enc) (C := Try.checked) false ⟨#[], #[.int .u64 0, .slice none 0 0], []⟩ 8 (by kernel_rfl) (by kernel_rfl) (by kernel_rfl) (by kernel_rfl)) ?_
  intro W base args ds gs before hval0 hW hcnd hsz0 _
  have hval : ∀ (j : Nat) t v, Try.f4.params[j]? = some t → args[j]? = some v → Value.okWide Try.prog W .any base t v := hval0
  have hsz : (DataW.weightsEach Try.prog (Try.f4.params.toList ++ Rows.guardEndsSpec.plain.varTypes Try.prog) (ds ++ gs)).all (· ≤ reachBytes) = true := hsz0
  have hW' := hW
  obtain ⟨p, q, hA0, hV, rfl, hfz, hnd⟩ := hW
  have hA : DataW.TrodAll enc Try.prog W 0 (fun _ => true) true Try.f4.params.toList args.toList ds p := hA0
  rw [Try.params4] at hA hval hsz
  obtain ⟨v0, vs0, d0, ds0, p0, q0, hargs0, rfl, rfl, h0, r0⟩ := trodAll_cons hA
  obtain ⟨v1, vs1, d1, ds1, p1, q1, rfl, rfl, rfl, h1, r1⟩ := trodAll_cons r0
  obtain ⟨rfl, rfl, rfl⟩ := trodAll_nil r1
  obtain rfl : args = #[v0, v1] := by cases args; simp_all
  obtain ⟨rfl, rfl⟩ := trodVars_none hV
  obtain ⟨own, rfl, w0⟩ := open_nat Try.underlying23 (hval 0 23 v0 rfl rfl) h0
  obtain ⟨s, rfl, w1⟩ := open_sl Try.underlying38 (hval 1 38 v1 rfl rfl) h1 (decSlice Try.underlying38 (K := 1) (by kernel_rfl) (by omega) (fun _ => rfl) (decNat Try.underlying23))
  refine (gends_walk own s.A s.cap s.xs W w0 w1.reads (fun x hx => (w1.mem hx).elim fun _ h => h.2.1) (by have := w1.le; have := w1.cap; unfold maxLen at this; omega)).mono fun e W' ⟨he, hb⟩ => ⟨_, he, ?_⟩
  exact law_post laidOut hW' rfl rfl Try.underlying4 (by kernel_rfl) rfl rfl rfl hb

theorem gends_holds : Rows.GuardEndsSaid :=
  OpenClaim.holds_of_wide 4 Try.f4 rfl rfl rfl rfl rfl rfl rfl ⟨rfl, rfl, rfl, rfl, rfl⟩ rfl rfl rfl rfl rfl (by kernel_rfl) Try.func4 (by kernel_rfl)
    (of_decide_eq_true (by kernel_rfl)) (by unfold Func.isWrapper; first | (rw [if_pos (by decide +kernel)]; kernel_rfl) | (rw [if_neg (by decide +kernel)]; exact ⟨rfl, rfl⟩))
    (fun os started H enc _ => gends_lifted os started H enc)
#print axioms gends_holds
end Go.Proofs.Ytkdoohmchdpjoaa
