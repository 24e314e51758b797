/-
  Whether types are small: count, Few, few.
-/
import Derived.Test.YtohllalninoomaaDoorTyTwo
set_option linter.unusedVariables false
set_option linter.unusedSimpArgs false
namespace Go.Proofs.YtohllalninoomaaDoor
open Go.ChangeShapes Go.WideShapes Go.ChangeAt Go.RowKit

theorem wName_take : ∀ {l : List ByteArray} {k : Nat} {s : ByteArray}, l[k]? = some s → wName (l.take (k + 1)) = wName (l.take k) + 1 + s.size / 100
  | [], k, s, h => by simp at h
  | a :: l, 0, s, h => by simp at h; subst h; simp [wName]
  | a :: l, k + 1, s, h => by
    simp at h
    have := wName_take h
    simp only [List.take_succ_cons, wName] at this ⊢
    omega
theorem wName_le : ∀ (l : List ByteArray) (k : Nat), wName (l.take k) ≤ wName l
  | [], k => by simp
  | a :: l, 0 => by simp [wName]
  | a :: l, k + 1 => by
    have := wName_le l k
    simp only [List.take_succ_cons, wName]
    omega
theorem wName_len : ∀ (l : List ByteArray), l.length ≤ wName l
  | [] => Nat.le_refl _
  | a :: l => by
    have := wName_len l
    simp only [List.length_cons, wName]
    omega
theorem wtL_take : ∀ {l : List Ty} {k : Nat} {a : Ty}, l[k]? = some a → wtL (l.take (k + 1)) = wtL (l.take k) + wt a
  | [], k, s, h => by simp at h
  | a :: l, 0, s, h => by simp at h; subst h; simp [wtL]
  | a :: l, k + 1, s, h => by
    simp at h
    have := wtL_take h
    simp only [List.take_succ_cons, wtL] at this ⊢
    omega
theorem wtL_le : ∀ (l : List Ty) (k : Nat), wtL (l.take k) ≤ wtL l
  | [], k => by simp
  | a :: l, 0 => by simp [wtL]
  | a :: l, k + 1 => by
    have := wtL_le l k
    simp only [List.take_succ_cons, wtL]
    omega
/-- What count answers: where nothing is beyond all bounds, no less than there is, or much. -/
def CountOut (t : LTy) (n : Int) (w : World) (e : Ending) (w' : World) : Prop := Below w.heap.size w w' ∧ ∃ r : Int, e = .returned (.int .i64 r) ∧ (wt (strip t) ≤ 1000000000000000000 → 0 ≤ n → n ≤ 500 → r ≤ 500 → n + wt (strip t) ≤ r)
set_option maxRecDepth 100000 in
set_option maxHeartbeats 4000000 in
theorem count_any (t : LTy) : ∀ (n : Int) (deep : Nat) (w : World), LIn w w.heap.size t → deep ≤ 61 → Calls Tryd.prog 47 #[t.val, .int .i64 n, .int .i64 (deep : Int)] w (CountOut t n w) := by
  induction t using lty_ind with
  | h t ih =>
  intro n deep w hin hdeep
  unfold LTy.val
  obtain ⟨g, hg⟩ : ∃ g, g = w.heap.size := ⟨_, rfl⟩
  have HT := Lib.hid hin
  have HIH := Lib.hid ih
  clear hin ih
  obtain ⟨n1, hn1⟩ : ∃ n, n = t.ns.length := ⟨_, rfl⟩
  obtain ⟨n2, hn2⟩ : ∃ n, n = t.xs.length := ⟨_, rfl⟩
  have HN := Lib.hid (show t.ns.length = n1 ∧ t.xs.length = n2 from ⟨hn1.symm, hn2.symm⟩)
  have hl1 := HT.out.n1.2
  have hl2 := HT.out.n2.2
  rw [← hn1] at hl1
  rw [← hn2] at hl2
  clear hn1 hn2
  go_enter Tryd.func47, Tryd.ntmps47
  go_upto_region 1 with fail
  rw [← hg]
  refine gen_wpT fun W hW => ?_
  obtain ⟨kt, kb⟩ : TBox W g t ∧ Below w.heap.size w W := by rw [← hW, hg]; exact one_box w t
  have KB := Lib.hid kb
  have KT := Lib.hid kt
  have ktc0 := kt.c0
  have ktc1 := kt.c1
  have ktc2 := kt.c2
  have ktlt := kt.lt
  rw [HN.out.1] at ktc1
  rw [HN.out.2] at ktc2
  have HWT := Lib.hid (show wt (strip t) = 1 + wName t.ns + wtL (strip t).args by rw [wt_eq, strip_names])
  have HLN := Lib.hid (show n1 ≤ wName t.ns by rw [← HN.out.1]; exact wName_len _)
  clear hW kb kt hg
  go_wp2_with fail
  go_loop [1, 20] (fun s i => ∃ (k : Nat) (v : Int), k ≤ n1 ∧ i = .int .i64 k ∧ s = .int .i64 v ∧ Hid (wt (strip t) ≤ 1000000000000000000 → 0 ≤ n → n ≤ 500 → v + k = n + 1 + n1 + wName (t.ns.take k))) (fun _ i => n1 - (intOf i).toNat)
  case atStart =>
    refine ⟨0, _, by omega, rfl, rfl, Lib.hid (fun h1 h2 h3 => ?_)⟩
    have h4 := HWT.out
    have h5 := HLN.out
    rw [List.take_zero]
    first | (rw [IntWalk.wrap64_in _ (by omega)]; simp only [wName]; omega) | (simp only [wName]; omega) | (unfold RowKit.wrap64; simp only [wName]; omega)
  case round =>
    obtain ⟨k, v, hk, rfl, rfl, HV⟩ := hrel
    by_cases hlt : k < n1
    · obtain ⟨s, hs⟩ : ∃ s, t.ns[k]? = some s := ⟨_, List.getElem?_eq_getElem (by rw [HN.out.1]; exact hlt)⟩
      have htr := HT.out.on KB.out
      obtain ⟨a1, hA1, hl, s0⟩ := htr.name hs
      have sl : (a1.add k).block < W.heap.size := by rw [block_add']; exact hl
      have hk' : (k : Int) < (n1 : Int) := by omega
      have hk0 : (0 : Int) ≤ k := by omega
      have hsz := HT.out.room s (List.mem_of_getElem? hs)
      have HTK := Lib.hid (wName_take hs)
      have HLE := Lib.hid (wName_le t.ns (k + 1))
      have hs0 : (0 : Int) ≤ (s.size : Int) := by omega
      have hs1 : (s.size : Int) ≤ 140737488355328 := by omega
      rw [hA1]
      clear htr hs hl hA1 hsz
      go_wp2_with fail
      go_round
      case rel =>
        refine ⟨k + 1, _, by omega, by go_num, rfl, Lib.hid (fun h1 h2 h3 => ?_)⟩
        have h4 := HV.out h1 h2 h3
        have h5 := HWT.out
        have h6 := HTK.out
        have h7 := HLE.out
        have h8 := HLN.out
        first | (rw [IntWalk.wrap64_in _ (by omega)]; omega) | omega
      case measure => simp [intOf]; omega
    · obtain rfl : k = n1 := by omega
      have hkk : ¬ (k : Int) < (k : Int) := by omega
      have HV2 := Lib.hid (show wt (strip t) ≤ 1000000000000000000 → 0 ≤ n → n ≤ 500 → v = n + 1 + wName t.ns from fun h1 h2 h3 => by
        have := HV.out h1 h2 h3
        rw [List.take_of_length_le (by rw [HN.out.1]; exact Nat.le_refl _)] at this
        omega)
      clear HV
      by_cases hd : 60 < deep
      · have hd' : decide (60 < (deep : Int)) = true := decide_eq_true (by omega)
        have HF := Lib.hid (show CountOut t n w (.returned (.int .i64 1000)) W from ⟨KB.out, 1000, rfl, fun _ _ _ h => by omega⟩)
        clear hd
        go_wp2
        go_ret
        exact HF.out
      have hd' : decide (60 < (deep : Int)) = false := decide_eq_false (by omega)
      have hdd : (deep : Int) ≤ 60 := by omega
      have hdl : deep ≤ 60 := by omega
      clear hd ktc1
      go_wp2_with fail
      go_loopw [1, 35] (fun s i wr => ∃ (j : Nat) (v : Int), j ≤ n2 ∧ i = .int .i64 j ∧ s = .int .i64 v ∧ Hid (wt (strip t) ≤ 1000000000000000000 → 0 ≤ n → n ≤ 500 → v ≤ 500 → n + 1 + wName t.ns + wtL ((strip t).args.take j) ≤ v) ∧ Hid (Below W.heap.size W wr)) (fun _ i _ => n2 - (intOf i).toNat)
      case atStart => exact ⟨0, v, by omega, rfl, rfl, Lib.hid (fun h1 h2 h3 h4 => by rw [HV2.out h1 h2 h3, List.take_zero]; simp only [wtL]; omega), Lib.hid (Below.refl _ _)⟩
      case round =>
        clear hlt hkk hk ktc0 ktc2 HV2
        obtain ⟨j, v, hj, rfl, rfl, HV, HW⟩ := hrel
        have KBr := Lib.hid (KB.out.trans (HW.out.mono KB.out.size))
        by_cases hlt : j < n2
        · obtain ⟨x, hx⟩ : ∃ x, t.xs[j]? = some x := ⟨_, List.getElem?_eq_getElem (by rw [HN.out.2]; exact hlt)⟩
          have htr := HT.out.on KBr.out
          obtain ⟨a1, hA1, hx3⟩ := htr.at3 hx
          have x0 := hx3.2.1
          have x1 := hx3.2.2.1
          have x2 := hx3.2.2.2
          have xl := hx3.1
          have hj' : (j : Int) < (n2 : Int) := by omega
          have hj0 : (0 : Int) ≤ j := by omega
          have hbx := (one_box wr x).2
          have hcall := HIH.out x (List.mem_of_getElem? hx) v (deep + 1) _ ((htr.part hx).on hbx) (by omega)
          have e1 : ((deep + 1 : Nat) : Int) = (deep : Int) + 1 := by omega
          rw [e1] at hcall
          unfold LTy.val at hcall
          have HC := Lib.hid hcall
          have HBX := Lib.hid (HW.out.trans (hbx.mono HW.out.size))
          have HKX := Lib.hid (KBr.out.trans (hbx.mono KBr.out.size))
          have HTK := Lib.hid (wtL_take (strip_at hx))
          have HLE := Lib.hid (wtL_le (strip t).args (j + 1))
          rw [hA1]
          clear htr hx hA1 hx3 hbx hcall e1
          by_cases hv : 500 < v
          · have hv' : decide (500 < v) = true := decide_eq_true hv
            have HF := Lib.hid (show ∀ w', Below w.heap.size w w' → CountOut t n w (.returned (.int .i64 v)) w' from fun w' h => ⟨h, v, rfl, fun _ _ _ h => by omega⟩)
            clear hv
            go_wp2
            go_ret
            exact HF.out _ HKX.out
          · have hv' : decide (500 < v) = false := decide_eq_false hv
            have HVL := Lib.hid (show v ≤ 500 by omega)
            clear hv
            go_wp2_with fail
            with_reducible refine HC.out.mono ?_
            rintro e w5 ⟨hb5, r, rfl, hr⟩
            have HR := Lib.hid hr
            have HB5 := Lib.hid (HBX.out.trans (hb5.mono HBX.out.size))
            clear hb5 hr
            go_wp2_with fail
            go_roundw
            case rel =>
              refine ⟨j + 1, r, by omega, by go_num, rfl, Lib.hid (fun h1 h2 h3 h4 => ?_), HB5⟩
              have h5 := HV.out h1 h2 h3 HVL.out
              have h6 := HWT.out
              have h7 := HTK.out
              have h8 := HLE.out
              have h9 := HR.out (by omega) (by omega) HVL.out h4
              omega
            case measure => simp [intOf]; omega
        · obtain rfl : j = n2 := by omega
          have hjj : ¬ (j : Int) < (j : Int) := by omega
          have HF := Lib.hid (show CountOut t n w (.returned (.int .i64 v)) wr from ⟨KBr.out, v, rfl, fun h1 h2 h3 h4 => by
            have := HV.out h1 h2 h3 h4
            rw [List.take_of_length_le (by rw [strip_len, HN.out.2]; exact Nat.le_refl _)] at this
            have := HWT.out
            omega⟩)
          go_wp2
          go_ret
          exact HF.out
/-- What is small. -/
def FewOut (t : LTy) (w : World) (e : Ending) (w' : World) : Prop := Below w.heap.size w w' ∧ ∃ b : Bool, e = .returned (.bool b) ∧ (b = true → wt (strip t) ≤ 1000000000000000000 → wt (strip t) ≤ 500)
set_option maxRecDepth 100000 in
set_option maxHeartbeats 2000000 in
theorem Few_any (t : LTy) (w : World) (hin : LIn w w.heap.size t) : Calls Tryd.prog 22 #[t.val] w (FewOut t w) := by
  unfold LTy.val
  obtain ⟨g, hg⟩ : ∃ g, g = w.heap.size := ⟨_, rfl⟩
  have HT := Lib.hid hin
  clear hin
  go_enter Tryd.func22, Tryd.ntmps22
  go_upto_region 1 with fail
  rw [← hg]
  refine gen_wpT fun W hW => ?_
  obtain ⟨kt, kb⟩ : TBox W g t ∧ Below w.heap.size w W := by rw [← hW, hg]; exact one_box w t
  have KB := Lib.hid kb
  have ktc0 := kt.c0
  have ktc1 := kt.c1
  have ktc2 := kt.c2
  have ktlt := kt.lt
  have hc := count_any t 0 0 W (HT.out.on kb) (by omega)
  rw [show ((0 : Nat) : Int) = 0 from rfl] at hc
  unfold LTy.val at hc
  have HC := Lib.hid hc
  clear hW kb kt hg hc
  go_wp2_with fail
  with_reducible refine HC.out.mono ?_
  rintro e w1 ⟨hb1, r, rfl, hr⟩
  have HF := Lib.hid (show FewOut t w (.returned (.bool (decide (r ≤ 500)))) w1 from ⟨KB.out.trans (hb1.mono KB.out.size), _, rfl, fun e h => by
    have h1 := of_decide_eq_true e
    have := hr h (by omega) (by omega) h1
    omega⟩)
  clear hb1 hr
  go_wp2
  go_ret
  exact HF.out
/-- Many types in a row. -/
def FewsOut (ts : List LTy) (w : World) (e : Ending) (w' : World) : Prop := Below w.heap.size w w' ∧ ∃ b : Bool, e = .returned (.bool b) ∧ (b = true → ∀ t ∈ ts, wt (strip t) ≤ 1000000000000000000 → wt (strip t) ≤ 500)
end Go.Proofs.YtohllalninoomaaDoor
