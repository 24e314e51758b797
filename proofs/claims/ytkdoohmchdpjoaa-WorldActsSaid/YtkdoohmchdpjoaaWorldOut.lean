/-
  Chapter 23: Write, Events, Places of a world.
-/
import Derived.Test.YtkdoohmchdpjoaaWorldOps
import Derived.Deep.CutBlock
set_option linter.unusedVariables false
set_option linter.unusedSimpArgs false
namespace Go.Proofs.Ytkdoohmchdpjoaa
open Go.ChangeShapes Go.WideShapes Go.ChangeAt Go.RowKit

/-- What of a value is put out. -/
def bareEv (k : Int) (v : VV) : Ev := ⟨k, v.kind, if v.kind = 1 ∨ v.kind = 2 then v.n else 0, if v.kind = 3 then v.s else ByteArray.empty⟩
def writeS (P : List CV) (ev : List Ev) (pc : Nat) (k : Int) (v : VV) : List Ev × Int := match chOf P k with
  | none => (ev, 1)
  | some c => if flowsB (pc ||| v.label) c.mask then (ev ++ [bareEv k v], 0) else (ev, 40)
theorem own_reads {w : World} {base : Nat} {e : TypeId} {sz n : Nat} {v : Value} {xs : List Value} (ho : w.ownsRow base e sz v n xs) : ∃ A c, v = .slice A n c ∧ Reads w w.heap.size A xs ∧ (A = none → n = 0 ∧ c = 0) ∧ n ≤ c ∧ c ≤ maxLen := by
  obtain ⟨A, c, rfl, h1, h2, hf⟩ := own_form ho
  refine ⟨A, c, rfl, ?_, ?_, h1, h2⟩
  · rcases Nat.eq_zero_or_pos n with h | h
    · refine .inl (List.eq_nil_of_length_eq_zero ?_)
      have := ho.1
      subst h
      omega
    · obtain ⟨gb, rfl, _, h4, _, h5⟩ := hf h
      refine .inr ⟨_, rfl, h4, fun j u hu => ?_⟩
      rw [show (⟨gb, 0, none⟩ : Addr).add j = ⟨gb, j, none⟩ from by unfold Addr.add; split <;> simp_all]
      exact h5 j u hu
  · rintro rfl
    rcases ho.2 with ⟨e, _⟩ | ⟨g, cap, cur, hv, _⟩
    · injection e with _ e2 e3
      exact ⟨e2, e3⟩
    · injection hv with e1
      cases e1
theorem wevents_nil (w : World) : Calls Try.prog 29 #[.pointer none] w (Ret (.slice none 0 0) w) := by
  go_enter Try.func29, Try.ntmps29
  go_wp2
  go_ret
  exact ⟨rfl, rfl⟩
theorem wwrite_nil (l : Nat) (k : Int) (v : VV) (w : World) (hl : l < 18446744073709551616) (hv : v.label < 18446744073709551616) : Calls Try.prog 26 #[.pointer none, .int .u64 (l : Int), .int .i64 k, .agg (vvCells v)] w (RetB (.int .i64 1) w) := by
  unfold vvCells
  have hj := heap_new_at (w.alloc (.cells #[.int .i64 v.kind, .int .i64 v.n, .string v.s, .int .u64 (v.label : Int)] 61)) (.cells #[.int .u64 (l : Int), .int .u64 (v.label : Int)] 23) (w.heap.size + 1) (by simp)
  have hjoin := join2_any l v.label (w.heap.size + 1) 2 23 _ hl hv hj
  go_enter Try.func26, Try.ntmps26
  go_wp2_with (first | (go_at_call 32; refine hjoin.mono ?_; rintro e w' ⟨rfl, rfl⟩) | (go_at_call 37; refine (wmay_nil _ _ _).mono ?_; rintro e w' ⟨rfl, rfl⟩))
  go_ret
  exact ⟨rfl, ((Below.refl _ _).alloc (Nat.le_refl _) _).alloc (by simp) _⟩
theorem wplaces_nil (w : World) : Calls Try.prog 30 #[.pointer none] w (RetB (agg8 fun _ => .int .i64 0) w) := by
  go_enter Try.func30, Try.ntmps30
  go_wp2
  exact bodyPost_ret (v := agg8 fun _ => .int .i64 0) (by simp [results, Try.results30, go_sem]; rfl) rfl ⟨rfl, ((Below.refl _ _).alloc (Nat.le_refl _) _).alloc (by simp) _⟩
theorem wevents_any {B g : Nat} {P : List CV} {ev : List Ev} (w : World) (hw : WorldIn w B g P ev) (hn : ev.length * 40 ≤ 140737488351232) :
    Calls Try.prog 29 #[.pointer (some ⟨g, 0, none⟩)] w fun e w' => ∃ v, e = .returned v ∧ w'.ownsRow w.heap.size 98 4 v ev.length (ev.flatMap evEnc) ∧ Below w.heap.size w w' := by
  obtain ⟨v, hb, ho⟩ := hw.own
  obtain ⟨A, cap, rfl, hr, hA, _, _⟩ := own_reads ho
  have hl8 : (P.flatMap chEnc).length = 24 := by rw [flatMap_len (K := 3) (fun _ => rfl), hw.eight]
  have hc24 : w.cell? ⟨g, 24, none⟩ = some (.slice A ev.length cap) := cell_of_blk hb (by rw [List.getElem?_toArray, List.getElem?_append_right (by omega), hl8]; rfl)
  have hcl := clone_events A ev.length cap (ev.flatMap evEnc) w hr (evEnc_len ev) (evEnc_one ev) hA hn
  have HC := Lib.hid hcl
  clear hcl hr hb ho hA
  go_enter Try.func29, Try.ntmps29
  go_wp2_with (go_at_call 39; refine HC.out.mono ?_; rintro e w' ⟨v', rfl, hown, hB⟩)
  go_ret
  exact ⟨v', rfl, hown, hB⟩
theorem WorldIn.pushed {w2 : World} {B g : Nat} {P : List CV} {ev : List Ev} {v0 v2 : Value} (e : Ev) (hB : B ≤ g) (h8 : P.length = 8) (hbk2 : w2.heap[g]? = some (.cells (P.flatMap chEnc ++ [v0]).toArray 93 (0, 0)))
    (hown2 : w2.ownsRow B 98 4 v2 (ev.length + 1) (ev.flatMap evEnc ++ evEnc e)) (hins : ∀ c ∈ P, w2.ownsRow B 2 1 c.v c.ins.length (intCells c.ins)) : WorldIn (w2.setCell ⟨g, 24, none⟩ v2) B g P (ev ++ [e]) := by
  have l0 := flatMap_len (f := chEnc) (K := 3) (fun _ => rfl) P
  have b := blk_set (i := 24) hbk2 v2
  rw [List.setIfInBounds_toArray, List.set_append_right _ _ (by omega), show 24 - (P.flatMap chEnc).length = 0 from by omega] at b
  refine ⟨hB, h8, ⟨v2, b, ?_⟩, fun c hc => own_set_far (hins c hc) (a := ⟨g, 24, none⟩) hbk2 (by decide) _⟩
  have := own_set_far hown2 (a := ⟨g, 24, none⟩) hbk2 (by decide) v2
  simpa using this

set_option maxRecDepth 100000 in
set_option maxHeartbeats 2000000 in
theorem wwrite_any {B g : Nat} {P : List CV} {ev : List Ev} (l : Nat) (k : Int) (v : VV) (w : World) (hw : WorldIn w B g P ev) (hM : Ms P) (hl : l < 18446744073709551616) (hv : v.label < 18446744073709551616) (hBw : B ≤ w.heap.size) (hn : (ev.length + 1) * 40 ≤ 140737488355328) :
    Calls Try.prog 26 #[.pointer (some ⟨g, 0, none⟩), .int .u64 (l : Int), .int .i64 k, .agg (vvCells v)] w fun e w' => e = .returned (.int .i64 (writeS P ev l k v).2) ∧ WorldIn w' B g P (writeS P ev l k v).1 ∧ Keep B wTypes w w' := by
  unfold vvCells
  have hbA : Below w.heap.size w ((w.alloc (.cells #[.int .i64 v.kind, .int .i64 v.n, .string v.s, .int .u64 (v.label : Int)] 61)).alloc (.cells #[.int .u64 (l : Int), .int .u64 (v.label : Int)] 23)) := ((Below.refl _ _).alloc (Nat.le_refl _) _).alloc (by simp) _
  have hwA := hw.below hbA
  have hj := heap_new_at (w.alloc (.cells #[.int .i64 v.kind, .int .i64 v.n, .string v.s, .int .u64 (v.label : Int)] 61)) (.cells #[.int .u64 (l : Int), .int .u64 (v.label : Int)] 23) (w.heap.size + 1) (by simp)
  have hjoin := join2_any l v.label (w.heap.size + 1) 2 23 _ hl hv hj
  have hor : l ||| v.label < 18446744073709551616 := Nat.or_lt_two_pow (n := 64) hl hv
  have hmay := wmay_any (l ||| v.label) k _ hwA hM hor
  unfold writeS
  unfold mayS at hmay
  clear hj
  cases hc : chOf P k with
  | none =>
    simp only [hc] at hmay
    go_enter Try.func26, Try.ntmps26
    go_wp2_with (first | (go_at_call 32; refine hjoin.mono ?_; rintro e w' ⟨rfl, rfl⟩) | (go_at_call 37; refine hmay.mono ?_; rintro e w' ⟨rfl, rfl⟩))
    go_ret
    exact ⟨rfl, hwA, Keep.of_below hbA _ _⟩
  | some c =>
    simp only [hc] at hmay
    obtain ⟨n, rfl, hn8, hP⟩ := chOf_some hc
    cases hf : flowsB (l ||| v.label) c.mask with
    | false =>
      simp only [hf, if_true, if_false, Bool.false_eq_true] at hmay
      go_enter Try.func26, Try.ntmps26
      go_wp2_with (first | (go_at_call 32; refine hjoin.mono ?_; rintro e w' ⟨rfl, rfl⟩) | (go_at_call 37; refine hmay.mono ?_; rintro e w' ⟨rfl, rfl⟩))
      all_goals
        go_ret
        exact ⟨rfl, hwA, Keep.of_below hbA _ _⟩
    | true =>
      simp only [hf, if_true, if_false, Bool.false_eq_true] at hmay
      simp only [if_true]
      go_enter Try.func26, Try.ntmps26
      go_upto_block 0 with (first | (go_at_call 32; refine hjoin.mono ?_; rintro e w' ⟨rfl, rfl⟩) | (go_at_call 37; refine hmay.mono ?_; rintro e w' ⟨rfl, rfl⟩))
      go_cut [] (fun w' => w'.heap[w.heap.size + 1 + 1]? = some (.cells #[.int .i64 (bareEv n v).channel, .int .i64 (bareEv n v).kind, .int .i64 (bareEv n v).n, .string (bareEv n v).s] 98 (0, 0)) ∧ Below w.heap.size w w')
      case first =>
        by_cases k1 : v.kind = 1
        · go_wp2
          go_meet
          case rel =>
            refine ⟨(heap_new_at _ _ _ ?_).trans ?_, ?_⟩
            · simp
            · simp [bareEv, k1] <;> rfl
            · (repeat' (first | exact Below.refl _ _ | refine Below.drew ?_ | refine Below.setCell ?_ ?_ _ | refine Below.alloc ?_ ?_ _ | (simp; done) | (simp; omega)))
        · by_cases k2 : v.kind = 2
          · go_wp2
            go_meet
            case rel =>
              refine ⟨(heap_new_at _ _ _ ?_).trans ?_, ?_⟩
              · simp
              · simp [bareEv, k2] <;> rfl
              · (repeat' (first | exact Below.refl _ _ | refine Below.drew ?_ | refine Below.setCell ?_ ?_ _ | refine Below.alloc ?_ ?_ _ | (simp; done) | (simp; omega)))
          · by_cases k3 : v.kind = 3
            · go_wp2
              go_meet
              case rel =>
                refine ⟨(heap_new_at _ _ _ ?_).trans ?_, ?_⟩
                · simp
                · simp [bareEv, k3] <;> rfl
                · (repeat' (first | exact Below.refl _ _ | refine Below.drew ?_ | refine Below.setCell ?_ ?_ _ | refine Below.alloc ?_ ?_ _ | (simp; done) | (simp; omega)))
            · go_wp2
              go_meet
              case rel =>
                refine ⟨(heap_new_at _ _ _ ?_).trans ?_, ?_⟩
                · simp
                · simp [bareEv, k1, k2, k3] <;> rfl
                · (repeat' (first | exact Below.refl _ _ | refine Below.drew ?_ | refine Below.setCell ?_ ?_ _ | refine Below.alloc ?_ ?_ _ | (simp; done) | (simp; omega)))
      case rest =>
        obtain ⟨hblE, hbE⟩ := hcut
        have hwE := hw.below hbE
        obtain ⟨hB, h8, ⟨v0, hbk1, hown1⟩, hins⟩ := hwE
        obtain ⟨A1, c1, rfl, _, _, _⟩ := own_form hown1
        have hne := own_blk_ne hown1 hbk1 (by decide)
        have hl24 : (P.flatMap chEnc).length = 24 := by rw [flatMap_len (K := 3) (fun _ => rfl), h8]
        have hd24 : ∀ (W : World) (u : Value), W.heap[g]? = some (.cells (P.flatMap chEnc ++ [u]).toArray 93 (0, 0)) → W.cell? ⟨g, 24, none⟩ = some u := fun W u h => cell_of_blk h (by rw [List.getElem?_toArray, List.getElem?_append_right (by omega), hl24]; rfl)
        have hd0 := hd24 _ _ hbk1
        have e0 := cell_of_blk (i := 0) hblE rfl
        have e1 := cell_of_blk (i := 1) hblE rfl
        have e2 := cell_of_blk (i := 2) hblE rfl
        have e3 := cell_of_blk (i := 3) hblE rfl
        have hltg := blk_lt hbk1
        have hltE := blk_lt hblE
        have hBc : B ≤ wc.heap.size := Nat.le_trans hBw hbE.size
        obtain ⟨i0, hi, hz0, hz1, hz2⟩ := info_parts infoEvent
        have hkE := Keep.of_below hbE B wTypes
        generalize hbe : bareEv n v = be at *
        have HBE := Lib.hid hbe
        clear hbe
        have HW := Lib.hid hw
        have HE := Lib.hid hbE
        clear hw hbE hbA hwA hjoin hmay hP hblE
        go_wp2
        go_region_law ((refine step_append_lies _ (by rfl) _ _ _ (by rfl) B 98 i0 (.agg #[.int .i64 0, .int .i64 0, .int .i64 0, .string ByteArray.empty]) 4 40 Try.underlying57 hi hz0 hz1 hz2 rfl (by omega) (.slice A1 ev.length c1) ev.length (ev.flatMap evEnc) (by rfl) (by exact hown1.alloc _) ⟨wc.heap.size, 0, none⟩ 1 1 (evEnc be) (by rfl) (by rfl) (by exact news_drew _ #[.int .i64 be.channel, .int .i64 be.kind, .int .i64 be.n, .string be.s] _ _ (by simp)) (by simp [evEnc, Value.oneCell']) (by omega) (by unfold maxLen; omega) (by omega) (by simp; omega) (wc.heap.size + 1) (by simp) ?_; intro gb cap w2 hown2 hgrow hat hlt2; have hbk2 : w2.heap[g]? = some (.cells (P.flatMap chEnc ++ [Value.slice A1 ev.length c1]).toArray 93 (0, 0)) := (by exact blk_grown (blk_drew (blk_alloc hbk1 _)) hgrow (Ne.symm hne)); have he0 := hd24 _ _ hbk2; have hef := free_of_blk (i := 24) hbk2))
        all_goals
          go_wp2
          go_ret
          rw [HBE.out]
          refine ⟨rfl, WorldIn.pushed be hB h8 hbk2 hown2 (fun c hc => ((Keep.refl B [98] _).grown hgrow (own_cond (own_drew (own_keep_alloc hown1 _)) (by decide))).own (own_drew (own_keep_alloc (hins c hc) _)) (by decide)), (((hkE.alloc _).drew).grown hgrow (own_cond (own_drew (own_keep_alloc hown1 _)) (by decide))).set _ hbk2 (by decide) hB⟩
end Go.Proofs.Ytkdoohmchdpjoaa
