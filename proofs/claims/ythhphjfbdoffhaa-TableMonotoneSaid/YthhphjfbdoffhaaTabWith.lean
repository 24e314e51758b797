/-
  Chapter 04: the document's stamps with one more; its Stamp.
-/
import Derived.Test.YthhphjfbdoffhaaTabRef
set_option linter.unusedVariables false
set_option linter.unusedSimpArgs false
namespace Go.Proofs.Ythhphjfbdoffhaa
open Go.ChangeShapes Go.WideShapes Go.ChangeAt Go.RowKit Go.Maps

/-- 'append([]E(nil), l...)' of stamps: a row of its own. -/
theorem append_sts {ops : Array Oper} {rest : List Oper} {o : Oper} {a : Act} {w : World} {Q : Exit → Act → World → Prop} (hw : Region.wanted o (yielded ops a.tmps) = true) (s x : Operand)
    (ho : o.op = .call { callee := .builtin .append, args := #[s, x], argTypes := #[41, 41] })
    (base : Nat) (v : Value) (l : List St) (hs : a.eval s = v) (hown : w.ownsRow base 61 2 v l.length (l.flatMap stEnc))
    (A : Option Addr) (c : Nat) (r : List St) (hA : A = none → r.length = 0 ∧ c = 0) (hx : a.eval x = .slice A r.length c) (hr : Reads w w.heap.size A (r.flatMap stEnc))
    (hb : (l.length + r.length) * 24 ≤ 140737488355328) (hm : l.length + r.length ≤ maxLen) (hbase : base ≤ w.heap.size)
    (h : ∀ v' w', w'.ownsRow base 61 2 v' (l ++ r).length ((l ++ r).flatMap stEnc) → Below base w w' → wpList Try.prog ops Q rest (a.put o.dst v') w') : wpList Try.prog ops Q (o :: rest) a w := by
  obtain ⟨i0, hi, hz0, hz1, hz2⟩ := info_parts infoSt
  refine BigFrame.wpList_want hw fun K hK => ?_
  cases A with
  | none =>
    obtain ⟨hr0, rfl⟩ := hA rfl
    obtain rfl : r = [] := List.eq_nil_of_length_eq_zero hr0
    have hrun := run_append_owned_none (P := Try.prog) (w := w) base 41 o.type 61 i0 2 Try.underlying41 hi v l.length (l.flatMap stEnc) hown
    have hx' : a.eval x = .slice none 0 0 := hx
    unfold Oper.wp
    simp [execOp, ho, resolve, invoke, builtin, hs, hx', hrun, Result.andThen]
    exact hK _ _ (h v w (by simpa using hown) (Below.refl _ _))
  | some ad =>
    refine wp_append_own w s x 41 ho base 61 i0 _ 2 24 Try.underlying41 hi hz0 hz1 hz2 rfl (by decide) v l.length (l.flatMap stEnc) hs hown ad r.length c (r.flatMap stEnc) hx (stEnc_lenAll r) ?_ (stEnc_one r) hm hb hbase ?_
    · rcases hr with hr | ⟨ad', e, _, h3⟩
      · intro j u hu
        rw [hr] at hu
        simp at hu
      · obtain rfl : ad = ad' := Option.some.inj e
        exact h3
    · intro v' w' h2 h3 _
      refine hK _ _ (h v' w' ?_ ((Below.refl base w).grown h3 hbase fun g hg => own_base hown hg))
      rw [List.length_append, List.flatMap_append]
      exact h2
set_option maxRecDepth 100000 in
set_option maxHeartbeats 4000000 in
theorem rwithS_any (S : List St) (s : St) (A : Option Addr) (c : Nat) (w : World) (hd : Dist S) (hr : Reads w w.heap.size A (S.flatMap stEnc)) (hA : A = none → S.length = 0 ∧ c = 0) (h1 : S.length + 1 ≤ maxLen) (h2 : (S.length + 1) * 24 ≤ 140737488355328) (h3 : S.length ≤ maxLen) (h4 : S.length * 24 ≤ 140737488355328) :
    Calls Try.prog 72 #[.slice A S.length c, .agg #[.string s.1, .int .i64 s.2]] w fun e w' => ∃ v, e = .returned v ∧ w'.ownsRow w.heap.size 61 2 v (withS S s).length ((withS S s).flatMap stEnc) ∧ Below w.heap.size w w' := by
  obtain ⟨i0, hi, hz0, hz1, hz2⟩ := info_parts infoSt
  have HH := Lib.hid (And.intro h1 (And.intro h2 (And.intro h3 h4)))
  have hr1 := hr.below ((Below.refl _ _).alloc (Nat.le_refl _) (.cells #[.string s.1, .int .i64 s.2] 61))
  have HD := Lib.hid hd
  have hb0 := (Below.refl w.heap.size w).alloc (Nat.le_refl _) (.cells #[.string s.1, .int .i64 s.2] 61)
  have hu := heap_alloc_new w (.cells #[.string s.1, .int .i64 s.2] 61)
  have HB0 := Lib.hid hb0
  have HU := Lib.hid hu
  have hmx : S.length ≤ 9223372036854775807 := h3
  clear hr hd h1 h2 h3 h4 hb0 hu
  go_enter Try.func72, Try.ntmps72
  go_wp2_with (at_builtin; refine append_sts rfl _ _ rfl (w.heap.size + 1) (.slice none 0 0) [] rfl (World.ownsRow_nil _ _ _ _) A c S hA rfl (hr1.mono' (by simp)) (by simpa using HH.out.2.2.2) (by simpa using HH.out.2.2.1) (by simp) ?_; intro v1 w1 hown1 hb1; refine unhid ?_)
  refine Lib.hid ?_
  rw [List.nil_append] at hown1
  have hu1 := (hb1.block _ (Nat.lt_succ_self _)).trans HU.out
  have HB1 := Lib.hid (HB0.out.trans ((hb1.mono (Nat.le_succ _)).mono (Nat.le_refl _)))
  obtain ⟨A1, c1, rfl, _, _, _⟩ := own_form hown1
  have HO := Lib.hid hown1
  have HU1 := Lib.hid hu1
  have y0 := cell_of_blk (i := 0) hu1 rfl
  have y1 := cell_of_blk (i := 1) hu1 rfl
  have lu := blk_lt hu1
  clear hown1 hb1 hu1 hr1
  go_wp2_with fail
  go_loopw [11] (fun i wr => ∃ k : Nat, k ≤ S.length ∧ i = .int .i64 k ∧ (∃ n, wr = w1.drewN n) ∧ Hid (∀ a ∈ S.take k, a.1.toList ≠ s.1.toList)) (fun i wr => S.length - (intOf i).toNat)
  case atStart => exact ⟨0, by omega, rfl, ⟨0, rfl⟩, Lib.hid (by simp)⟩
  case round =>
    obtain ⟨k, hk, rfl, ⟨n, rfl⟩, HN⟩ := hrel
    by_cases hlt : k < S.length
    · obtain ⟨x, hx⟩ : ∃ x, S[k]? = some x := ⟨_, List.getElem?_eq_getElem hlt⟩
      obtain ⟨ad, c', hv, hba, hal, hst, _, hset⟩ := st_elem HO.out hx
      obtain ⟨rfl, rfl⟩ : A1 = some ad ∧ c1 = c' := by simpa using hv
      obtain ⟨r0, r1⟩ := hst
      have hk' : (k : Int) < (S.length : Int) := by omega
      have hk0 : (0 : Int) ≤ k := by omega
      have hll : (ad.add (k * 2)).block < w1.heap.size := by rw [block_add']; exact hal
      have HX := Lib.hid hx
      by_cases hs : x.1.toList = s.1.toList
      · obtain ⟨hfz, hsto⟩ := hset w1 HO.out
        have HS := Lib.hid (hsto (bits .and .i64 x.2 s.2))
        have HW := Lib.hid (withS_has HD.out hx hs)
        have HBA := Lib.hid (show w.heap.size ≤ (ad.add (k * 2)).block by rw [block_add']; omega)
        have hsb : (x.1.toList == s.1.toList) = true := by simpa using hs
        clear hset hsto hx hv
        go_wp2_with fail
        go_quiet (fail)
        try simp only [hsb]
        go_wp2_with fail
        go_region
        go_wp2_with fail
        go_ret
        refine ⟨_, rfl, ?_, ?_⟩
        · rw [HW.out]
          exact own_mono HS.out (Nat.le_succ _)
        · repeat' (first | exact HB1.out | exact HBA.out | refine Below.drew ?_ | refine below_drewN ?_ _ | refine Below.setCell ?_ ?_ _)
      · have HT := Lib.hid (show S.take (k + 1) = S.take k ++ [x] by rw [List.take_add_one, hx]; rfl)
        have hsb : (x.1.toList == s.1.toList) = false := by simpa using hs
        clear hset hx hv
        go_wp2_with fail
        go_quiet (fail)
        try simp only [hsb]
        go_wp2_with fail
        go_roundw
        case rel => exact ⟨k + 1, by omega, by go_num, ⟨_, rfl⟩, Lib.hid (fun a ha => by
          rw [HT.out] at ha
          rcases List.mem_append.1 ha with h | h
          · exact HN.out a h
          · rw [List.mem_singleton.1 h]; exact hs)⟩
        case measure => simp [intOf]; omega
    · obtain rfl : k = S.length := by omega
      have HW := Lib.hid (withS_no (S := S) (s := s) (by have := HN.out; rwa [List.take_length] at this))
      have HO2 := Lib.hid (show (w1.drewN n).ownsRow (w.heap.size + 1) 61 2 (.slice A1 S.length c1) S.length (S.flatMap stEnc) from HO.out)
      have HB2 := Lib.hid (below_drewN HB1.out n)
      go_wp2_with (at_builtin; refine wpList_append_own _ rfl _ _ 41 rfl (w.heap.size + 1) 61 i0 _ 2 24 Try.underlying41 hi hz0 hz1 hz2 rfl (by decide) _ _ _ rfl (HO2.out.alloc _) ⟨w1.heap.size, 0, none⟩ 1 1 [.string s.1, .int .i64 s.2] rfl rfl (World.news_of_block (heap_alloc_new _ _)) (by simp [Value.oneCell']) HH.out.1 HH.out.2.1 (Nat.le_trans (Nat.succ_le_of_lt lu) (by simp)) ?_; intro v' w4 hown4 hg4 _; obtain ⟨A4, c4, rfl, _, _, _⟩ := own_form hown4)
      go_ret
      refine ⟨_, rfl, ?_, ?_⟩
      · rw [HW.out]
        exact own_mono (by simpa [stEnc] using hown4) (Nat.le_succ _)
      · exact (HB2.out.alloc HB2.out.size _).grown hg4 (Nat.le_trans HB2.out.size (by simp)) (fun g hg => Nat.le_trans (Nat.le_succ _) (own_base HO2.out hg))
end Go.Proofs.Ythhphjfbdoffhaa
