/-
  Closure on a heap that nobody made; slices.Clone of ints; the reference's Same.
-/
import Derived.Test.YtohllalninoomaaDoorHeapNil3
import Derived.Test.YtohllalninoomaaDoorTyM
set_option linter.unusedVariables false
set_option linter.unusedSimpArgs false
namespace Go.Proofs.YtohllalninoomaaDoor
open Go.ChangeShapes Go.WideShapes Go.ChangeAt Go.RowKit

theorem readsOn {w w' : World} {A : Option Addr} {xs : List Value} (h : Reads w w.heap.size A xs) (hb : Below w.heap.size w w') : Reads w' w'.heap.size A xs := Reads.more (Reads.below h hb) hb.size
theorem infoI : (Tryd.prog.info? 3).map (fun i => (i.zero, i.size, i.bytes)) = some (some (.int .i64 0), 1, 8) := by kernel_rfl
set_option maxRecDepth 100000 in
theorem clone_is (A : Option Addr) (n c : Nat) (xs : List Value) (w : World) (hr : Reads w w.heap.size A xs) (hlen : xs.length = n) (h1 : ∀ u ∈ xs, u.oneCell' = true) (hA : A = none → n = 0 ∧ c = 0) (hn : n * 8 ≤ 140737488351232) :
    Calls Tryd.prog 35 #[.slice A n c] w fun e w' => ∃ v, e = .returned v ∧ w'.ownsRow w.heap.size 3 1 v n xs ∧ Below w.heap.size w w' := by
  obtain ⟨i0, hi, hz0, hz1, hz2⟩ := info_parts infoI
  have heq := fun W : World => Lib.run_eql_slice_nil (P := Tryd.prog) W 26 3 A n c 0 0 Tryd.underlying26
  rcases A with _ | ad
  · obtain ⟨rfl, rfl⟩ := hA rfl
    obtain rfl : xs = [] := List.eq_nil_of_length_eq_zero hlen
    go_enter Tryd.func35, Tryd.ntmps35
    go_wp2
    go_ret
    exact ⟨_, rfl, World.ownsRow_nil _ _ _ _, Below.refl _ _⟩
  · go_enter Tryd.func35, Tryd.ntmps35
    have hr' : Reads (w.alloc (.cells #[] 3)) w.heap.size (some ad) xs := hr.below ((Below.refl _ _).alloc (Nat.le_refl _) _)
    have hown : (w.alloc (.cells #[] 3)).ownsRow w.heap.size 3 1 (.slice (some ⟨w.heap.size, 0, none⟩) 0 0) 0 [] := World.ownsRow_made w #[] 0 (Nat.le_refl _) (by unfold maxLen; omega) rfl
    have hnews : ∀ j u, xs[j]? = some u → (w.alloc (.cells #[] 3)).cell? (ad.add j) = some u := by
      intro j u hu
      rcases hr' with rfl | ⟨ad', e, _, h⟩
      · simp at hu
      · injection e with e; subst e; exact h j u hu
    go_wp2_with ((at_builtin; (refine wpList_append_own_at _ rfl _ _ _ rfl w.heap.size 3 i0 (.int .i64 0) 1 8 Tryd.underlying26 hi hz0 hz1 hz2 rfl (by omega) _ 0 [] rfl hown ad n c xs rfl (by omega) hnews h1 (by unfold maxLen; omega) (by omega) (by simp) ?_); intro v w2 hown2 hgrow hat hat2))
    have hgrow' : World.grownBy _ w2 (some w.heap.size) := hgrow
    go_ret
    exact ⟨v, rfl, by simpa using hown2, ((Below.refl _ _).alloc (Nat.le_refl _) _).grown hgrow' (by simp) (fun k hk => Nat.le_of_eq (Option.some.inj hk))⟩
theorem sameR_any (a b : VV) (w : World) : Calls Tryd.prog 20 #[.agg (vvCells a), .agg (vvCells b)] w (RetB (.bool (sameV a b)) w) := by
  unfold vvCells
  have hb0 : Below w.heap.size w ((w.alloc (.cells #[.int .i64 a.kind, .int .i64 a.n, .string a.s, .int .u64 (a.label : Int)] 25)).alloc (.cells #[.int .i64 b.kind, .int .i64 b.n, .string b.s, .int .u64 (b.label : Int)] 25)) := ((Below.refl _ _).alloc (Nat.le_refl _) _).alloc (by simp) _
  unfold sameV
  cases h1 : (a.kind == b.kind) <;> cases h2 : (a.n == b.n) <;> cases h3 : (a.s.toList == b.s.toList)
  all_goals
    go_enter Tryd.func20, Tryd.ntmps20
    go_wp2
    go_ret
    exact ⟨rfl, hb0⟩
set_option maxRecDepth 100000 in
set_option maxHeartbeats 2000000 in
theorem hclosure_nil (pr : Int) (A : Option Addr) (n c : Nat) (xs : List Value) (hn : n * 8 ≤ 140737488351232) (hlen : xs.length = n) (h1 : ∀ u ∈ xs, u.oneCell' = true) (hA : A = none → n = 0 ∧ c = 0) (w : World) (hr : Reads w w.heap.size A xs) : Calls Tryd.prog 8 #[.pointer none, .int .i64 pr, .slice A n c] w (RetB (.tuple #[.agg #[.int .i64 0, .int .i64 0, .string ⟨#[]⟩, .int .u64 0], .bool false]) w) := by
  have HR := Lib.hid hr
  have HX := Lib.hid (And.intro hlen (And.intro h1 hA))
  clear hr hlen h1 hA
  obtain ⟨b0, hb0⟩ : ∃ b, b = w.heap.size := ⟨_, rfl⟩
  have HBE0 := Lib.hid hb0
  have HB := Lib.hid (show w.heap.size ≤ b0 by omega)
  clear hb0
  go_enter Tryd.func8, Tryd.ntmps8
  go_upto_region 1 with fail
  rw [← HBE0.out]
  refine gen_wp fun W hW => ?_
  have H0_0 := Lib.hid (show W.heap[b0]? = some (.cells #[.int .i64 0, .int .i64 0, .string ⟨#[]⟩, .int .u64 0] 25 (0, 0)) by rw [← hW, HBE0.out]; exact heap_new_at _ _ _ (by first | rfl | simp))
  have HW_0 := Lib.hid (show Below w.heap.size w W by rw [← hW]; exact (Below.refl _ _).alloc (Nat.le_refl _) _)
  clear hW
  have c0_0_0 : W.cell? ⟨b0, 0, none⟩ = some (.int .i64 0) := cell_of_blk H0_0.out rfl
  have c0_0_1 : W.cell? ⟨b0, 1, none⟩ = some (.int .i64 0) := cell_of_blk H0_0.out rfl
  have c0_0_2 : W.cell? ⟨b0, 2, none⟩ = some (.string ⟨#[]⟩) := cell_of_blk H0_0.out rfl
  have c0_0_3 : W.cell? ⟨b0, 3, none⟩ = some (.int .u64 0) := cell_of_blk H0_0.out rfl
  have c0_0_f0 := free_of_blk (i := 0) H0_0.out
  have c0_0_f1 := free_of_blk (i := 1) H0_0.out
  have c0_0_f2 := free_of_blk (i := 2) H0_0.out
  have c0_0_f3 := free_of_blk (i := 3) H0_0.out
  have c0_0_l := blk_lt H0_0.out
  go_wp2_with fail
  refine (clone_is A n c xs _ (readsOn HR.out HW_0.out) HX.out.1 HX.out.2.1 HX.out.2.2 hn).mono ?_
  rintro e w1 ⟨v, rfl, hown, hb⟩
  obtain ⟨A', c', rfl, _, _, _⟩ := own_form hown
  clear hown
  have H0_1 := Lib.hid (below_blk hb H0_0.out)
  have HW_1 := Lib.hid (HW_0.out.trans (hb.mono HW_0.out.size))
  clear hb c0_0_0 c0_0_f0 c0_0_1 c0_0_f1 c0_0_2 c0_0_f2 c0_0_3 c0_0_f3 c0_0_l
  have c1_0_0 : w1.cell? ⟨b0, 0, none⟩ = some (.int .i64 0) := cell_of_blk H0_1.out rfl
  have c1_0_1 : w1.cell? ⟨b0, 1, none⟩ = some (.int .i64 0) := cell_of_blk H0_1.out rfl
  have c1_0_2 : w1.cell? ⟨b0, 2, none⟩ = some (.string ⟨#[]⟩) := cell_of_blk H0_1.out rfl
  have c1_0_3 : w1.cell? ⟨b0, 3, none⟩ = some (.int .u64 0) := cell_of_blk H0_1.out rfl
  have c1_0_f0 := free_of_blk (i := 0) H0_1.out
  have c1_0_f1 := free_of_blk (i := 1) H0_1.out
  have c1_0_f2 := free_of_blk (i := 2) H0_1.out
  have c1_0_f3 := free_of_blk (i := 3) H0_1.out
  have c1_0_l := blk_lt H0_1.out
  go_wp2_with fail
  refine (hfnn_nil pr A' n c' _ _).mono ?_
  rintro e w2 ⟨rfl, hb⟩
  have H0_2 := Lib.hid (below_blk hb H0_1.out)
  have HW_2 := Lib.hid (HW_1.out.trans (hb.mono HW_1.out.size))
  clear hb c1_0_0 c1_0_f0 c1_0_1 c1_0_f1 c1_0_2 c1_0_f2 c1_0_3 c1_0_f3 c1_0_l
  have c2_0_0 : w2.cell? ⟨b0, 0, none⟩ = some (.int .i64 0) := cell_of_blk H0_2.out rfl
  have c2_0_1 : w2.cell? ⟨b0, 1, none⟩ = some (.int .i64 0) := cell_of_blk H0_2.out rfl
  have c2_0_2 : w2.cell? ⟨b0, 2, none⟩ = some (.string ⟨#[]⟩) := cell_of_blk H0_2.out rfl
  have c2_0_3 : w2.cell? ⟨b0, 3, none⟩ = some (.int .u64 0) := cell_of_blk H0_2.out rfl
  have c2_0_f0 := free_of_blk (i := 0) H0_2.out
  have c2_0_f1 := free_of_blk (i := 1) H0_2.out
  have c2_0_f2 := free_of_blk (i := 2) H0_2.out
  have c2_0_f3 := free_of_blk (i := 3) H0_2.out
  have c2_0_l := blk_lt H0_2.out
  go_wp2
  obtain ⟨j0, j1, j2, j3⟩ := four H0_2.out rfl (.int .i64 0) (.int .i64 0) (.string ⟨#[]⟩) (.int .u64 0)
  refine bodyPost_ret (v := .tuple #[.agg #[.int .i64 0, .int .i64 0, .string ⟨#[]⟩, .int .u64 0], .bool false]) (by simp [results, Tryd.results8, go_sem, j0, j1, j2, j3]) rfl ?_
  exact ⟨rfl, (Below.setCell (p := ⟨b0, 3, none⟩) (Below.setCell (p := ⟨b0, 2, none⟩) (Below.setCell (p := ⟨b0, 1, none⟩) (Below.setCell (p := ⟨b0, 0, none⟩) HW_2.out HB.out (.int .i64 0)) HB.out (.int .i64 0)) HB.out (.string ⟨#[]⟩)) HB.out (.int .u64 0))⟩
end Go.Proofs.YtohllalninoomaaDoor
