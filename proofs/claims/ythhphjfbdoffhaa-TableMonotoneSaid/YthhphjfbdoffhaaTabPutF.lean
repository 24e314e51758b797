/-
  Chapter 04: Put, whole; what stays true of a table behind it.
-/
import Derived.Test.YthhphjfbdoffhaaTabPut2
import Derived.Test.YthhphjfbdoffhaaTabPut3
set_option linter.unusedVariables false
set_option linter.unusedSimpArgs false
namespace Go.Proofs.Ythhphjfbdoffhaa
open Go.ChangeShapes Go.WideShapes Go.ChangeAt Go.RowKit Go.Maps

theorem put_nokey {w : World} {B tb : Nat} {T : TabS} {fp : List Nat} (h : TabIn w B tb T fp) {ctx : Nat} {k v : VV} (hik : isKey k = false) :
    Calls Try.prog 34 #[.pointer (some ⟨tb, 0, none⟩), .int .u64 (ctx : Int), .agg (vvCells k), .agg (vvCells v)] w fun e w' => e = .returned (.int .i64 41) ∧ TabTo w B tb T fp w' := by
  obtain ⟨a, b, c, hk⟩ := keyof_form k
  rw [hik] at hk
  have H := Lib.hid h
  have HB0 := Lib.hid ((((Below.refl w.heap.size w).alloc (Nat.le_refl _) (.cells (vvCells k) 25)).alloc (by simp) (.cells (vvCells v) 25)))
  unfold vvCells at hk HB0 ⊢
  have HK := Lib.hid hk
  clear hk h
  go_enter Try.func34, Try.ntmps34
  go_wp2_with fail
  refine (HK.out _).mono ?_
  rintro e w1 ⟨rfl, hb1⟩
  have HB := Lib.hid (HB0.out.trans (hb1.mono (by simp; omega)))
  clear hb1
  go_wp2
  go_ret
  exact ⟨rfl, TabTo.same H.out (HB.out.alloc HB.out.size _)⟩
/-- What Put leaves true. -/
theorem withV_ok {v : VV} (h : VOk v) {l : Nat} (hl : l < 18446744073709551616) : VOk (withV v l) := ⟨h.kind, h.n, h.s, Nat.or_lt_two_pow (n := 64) h.label hl⟩
theorem isKey_bare (k : VV) : isKey (bareV k) = isKey k := rfl
theorem findI_some {F : List Fd} {k : VV} {i : Nat} (h : findF F k = some i) : findI F k = (i : Int) := by
  unfold findI
  rw [h]
theorem findI_none {F : List Fd} {k : VV} (h : findF F k = none) : findI F k = -1 := by
  unfold findI
  rw [h]
theorem tput_any {w : World} {B tb : Nat} {T : TabS} {fp : List Nat} (h : TabIn w B tb T fp) (ok : TabOk T) {ctx : Nat} {k v : VV} (hc : ctx < 18446744073709551616) (kk : VOk k) (kv : VOk v) (hb : (T.F.length + 1) * 80 ≤ 140737488355328) :
    Calls Try.prog 34 #[.pointer (some ⟨tb, 0, none⟩), .int .u64 (ctx : Int), .agg (vvCells k), .agg (vvCells v)] w fun e w' => e = .returned (.int .i64 (doPut T ctx k v).1) ∧ TabTo w B tb (doPut T ctx k v).2 fp w' := by
  unfold doPut
  cases hik : isKey k
  · simpa using put_nokey h hik
  · cases hst : (decide (k.kind = 3) && !allowsB T.S k.s v.kind)
    · simp only [Bool.true_eq_false, Bool.false_eq_true, if_false]
      cases hf : findF T.F k with
      | some i =>
        obtain ⟨_, f, hfi, _⟩ := findF_some hf
        simp only [hfi]
        cases hfl : flowsB (ctx ||| k.label) f.2.label
        · simpa using put_no h ok hc kk kv hik hfi (findI_some hf) hfl hst
        · simpa using put_set h ok hc kk kv hik hfi (findI_some hf) hfl hst
      | none =>
        simp only
        cases hfl : flowsB (ctx ||| k.label) T.l
        · simpa using put_appno h ok hc kk kv hik (findI_none hf) hfl hb hst
        · simpa using put_app h ok hc kk kv hik (findI_none hf) hfl hb hst
    · simpa using put_bad h ok hc kk kv hik hst
theorem fit_of_allows {S : List St} {nm : ByteArray} {k : Int} (h : allowsB S nm k = true) {s : St} (hs : s ∈ S) (he : s.1 = nm) : fitsB s.2 k = true := by
  unfold allowsB at h
  rw [List.all_eq_true] at h
  simpa [he] using h s hs
theorem doPut_ok {T : TabS} (ok : TabOk T) {ctx : Nat} {k v : VV} (hc : ctx < 18446744073709551616) (kk : VOk k) (kv : VOk v) : TabOk (doPut T ctx k v).2 := by
  have hj : ctx ||| k.label < 18446744073709551616 := Nat.or_lt_two_pow (n := 64) hc kk.label
  unfold doPut
  cases hik : isKey k
  · simpa using ok
  · cases hst : (decide (k.kind = 3) && !allowsB T.S k.s v.kind)
    · simp only [Bool.true_eq_false, Bool.false_eq_true, if_false]
      cases hf : findF T.F k with
      | some i =>
        obtain ⟨_, f, hfi, hsame⟩ := findF_some hf
        simp only [hfi]
        have hfm := List.mem_of_getElem? hfi
        cases hfl : flowsB (ctx ||| k.label) f.2.label
        · simpa using ok
        · simp only [if_true]
          have hmem : ∀ g ∈ T.F.set i (f.1, withV v (ctx ||| k.label)), g ∈ T.F ∨ g = (f.1, withV v (ctx ||| k.label)) := fun g hg => List.mem_or_eq_of_mem_set hg
          refine ⟨ok.l, fun g hg => ?_, fun g hg => ?_, fun g hg => ?_, fun g hg => ?_, ok.sOk, ?_, ok.dS, fun s hs => ?_⟩
          · rcases hmem g hg with h | rfl
            · exact ok.key g h
            · exact ok.key f hfm
          · rcases hmem g hg with h | rfl
            · exact ok.bare g h
            · exact ok.bare f hfm
          · rcases hmem g hg with h | rfl
            · exact ok.kOk g h
            · exact ok.kOk f hfm
          · rcases hmem g hg with h | rfl
            · exact ok.vOk g h
            · exact withV_ok kv hj
          · have hd := ok.dF
            rw [List.pairwise_iff_getElem] at hd ⊢
            have hil := (List.getElem?_eq_some_iff.1 hfi)
            obtain ⟨hil, hie⟩ := hil
            have key : ∀ (j : Nat) (hj : j < (T.F.set i (f.1, withV v (ctx ||| k.label))).length) (hj' : j < T.F.length), ((T.F.set i (f.1, withV v (ctx ||| k.label)))[j]).1 = (T.F[j]).1 := by
              intro j hj hj'
              rw [List.getElem_set]
              split
              · rename_i e
                subst e
                rw [hie]
              · rfl
            intro a b ha hb' hab
            rw [key a ha (by simpa using ha), key b hb' (by simpa using hb')]
            exact hd a b (by simpa using ha) (by simpa using hb') hab
          · obtain ⟨g, hg, h1, h2, h3⟩ := ok.st s hs
            obtain ⟨j, hj⟩ := List.getElem?_of_mem hg
            by_cases e : i = j
            · subst e
              rw [hfi] at hj
              cases hj
              have hks := (sameV_iff _ _).1 hsame
              refine ⟨(f.1, withV v (ctx ||| k.label)), List.mem_of_getElem? (i := i) (by rw [List.getElem?_set_self (List.getElem?_eq_some_iff.1 hfi).1]), h1, h2, ?_⟩
              have hk3 : k.kind = 3 := hks.1.symm.trans h1
              have hal : allowsB T.S k.s v.kind = true := by simpa [hk3] using hst
              exact fit_of_allows hal hs (h2.symm.trans hks.2.2)
            · exact ⟨g, List.mem_of_getElem? (i := j) (by rw [List.getElem?_set_ne e]; exact hj), h1, h2, h3⟩
      | none =>
        simp only
        cases hfl : flowsB (ctx ||| k.label) T.l
        · simpa using ok
        · simp only [if_true]
          have hno := findF_none hf hik
          have hmem : ∀ g ∈ T.F ++ [(bareV k, withV v (ctx ||| k.label))], g ∈ T.F ∨ g = (bareV k, withV v (ctx ||| k.label)) := fun g hg => by simpa using hg
          refine ⟨ok.l, fun g hg => ?_, fun g hg => ?_, fun g hg => ?_, fun g hg => ?_, ok.sOk, ?_, ok.dS, fun s hs => ?_⟩
          · rcases hmem g hg with h | rfl
            · exact ok.key g h
            · exact hik
          · rcases hmem g hg with h | rfl
            · exact ok.bare g h
            · rfl
          · rcases hmem g hg with h | rfl
            · exact ok.kOk g h
            · exact ⟨kk.kind, kk.n, kk.s, by show (0 : Nat) < _; decide⟩
          · rcases hmem g hg with h | rfl
            · exact ok.vOk g h
            · exact withV_ok kv hj
          · rw [List.pairwise_append]
            refine ⟨ok.dF, List.pairwise_singleton _ _, fun a ha b hb => ?_⟩
            rw [List.mem_singleton.1 hb]
            exact hno a ha
          · obtain ⟨g, hg, h1⟩ := ok.st s hs
            exact ⟨g, List.mem_append_left _ hg, h1⟩
    · simpa using ok
theorem doPut_len (T : TabS) (ctx : Nat) (k v : VV) : (doPut T ctx k v).2.F.length ≤ T.F.length + 1 ∧ (doPut T ctx k v).2.S = T.S ∧ (doPut T ctx k v).2.l = T.l := by
  unfold doPut
  split
  · simp
  · split
    · simp
    · split
      · split
        · split <;> simp
        · simp
      · split <;> simp
end Go.Proofs.Ythhphjfbdoffhaa
