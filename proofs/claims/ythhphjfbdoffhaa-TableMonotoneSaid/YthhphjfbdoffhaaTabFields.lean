/-
  Chapter 04: a table's fields, one by one; its stamps.
-/
import Derived.Test.YthhphjfbdoffhaaTabNil
import Derived.BigQuiet
import Derived.Deep.RegionHeld3
import Derived.RangeFuncNested
import Derived.RangeFuncLeaves
import Derived.RangeFuncBox
import Derived.Shelf.Abstract
import Derived.Shelf.RegionOpen
import Derived.WalkKit
import Derived.OwnWalkIn
import Derived.TacticsInMore
import Derived.LoopNIn
import Derived.LoopIn
import Derived.Maps.AppendAt
set_option linter.unusedVariables false
set_option linter.unusedSimpArgs false
namespace Go.Proofs.Ythhphjfbdoffhaa
open Go.ChangeShapes Go.WideShapes Go.ChangeAt Go.RowKit Go.Shelf

/-- The cells of a field of a slice. -/
structure FdAt (w : World) (a : Addr) (x : Fd) : Prop where
  c0 : w.cell? a = some (.int .i64 x.1.kind)
  c1 : w.cell? ⟨a.block, a.off + 1, none⟩ = some (.int .i64 x.1.n)
  c2 : w.cell? ⟨a.block, a.off + 2, none⟩ = some (.string x.1.s)
  c3 : w.cell? ⟨a.block, a.off + 3, none⟩ = some (.int .u64 (x.1.label : Int))
  c4 : w.cell? ⟨a.block, a.off + 4, none⟩ = some (.int .i64 x.2.kind)
  c5 : w.cell? ⟨a.block, a.off + 5, none⟩ = some (.int .i64 x.2.n)
  c6 : w.cell? ⟨a.block, a.off + 6, none⟩ = some (.string x.2.s)
  c7 : w.cell? ⟨a.block, a.off + 7, none⟩ = some (.int .u64 (x.2.label : Int))
theorem fd_at {w : World} {ad : Addr} {xs : List Fd} (hc : ∀ j u, (xs.flatMap fdEnc)[j]? = some u → w.cell? (ad.add j) = some u) {k : Nat} {x : Fd} (hx : xs[k]? = some x) : FdAt w (ad.add (k * 8)) x :=
  ⟨elem_zero (K := 8) (fun a => rfl) hc hx (by omega) rfl, elem_at (K := 8) (fun a => rfl) hc hx 1 (by omega) (by omega) rfl, elem_at (K := 8) (fun a => rfl) hc hx 2 (by omega) (by omega) rfl, elem_at (K := 8) (fun a => rfl) hc hx 3 (by omega) (by omega) rfl, elem_at (K := 8) (fun a => rfl) hc hx 4 (by omega) (by omega) rfl, elem_at (K := 8) (fun a => rfl) hc hx 5 (by omega) (by omega) rfl, elem_at (K := 8) (fun a => rfl) hc hx 6 (by omega) (by omega) rfl, elem_at (K := 8) (fun a => rfl) hc hx 7 (by omega) (by omega) rfl⟩
theorem fdEnc_one (l : List Fd) : ∀ u ∈ l.flatMap fdEnc, u.oneCell' = true := by
  intro u hu
  obtain ⟨e, _, h⟩ := List.mem_flatMap.1 hu
  simp [fdEnc, vvCells] at h
  rcases h with rfl | rfl | rfl | rfl | rfl | rfl | rfl | rfl <;> rfl
theorem fdEnc_lenAll (l : List Fd) : (l.flatMap fdEnc).length = l.length * 8 := by
  induction l with
  | nil => rfl
  | cons e l ih => simp only [List.flatMap_cons, List.length_append, ih, List.length_cons]; simp [fdEnc, vvCells]; omega
theorem stEnc_one (l : List St) : ∀ u ∈ l.flatMap stEnc, u.oneCell' = true := by
  intro u hu
  obtain ⟨e, _, h⟩ := List.mem_flatMap.1 hu
  simp [stEnc] at h
  rcases h with rfl | rfl <;> rfl
theorem stEnc_lenAll (l : List St) : (l.flatMap stEnc).length = l.length * 2 := by
  induction l with
  | nil => rfl
  | cons e l ih => simp only [List.flatMap_cons, List.length_append, ih, List.length_cons]; simp [stEnc]; omega
theorem infoFd : (Try.prog.info? 59).map (fun i => (i.zero, i.size, i.bytes)) = some (some (.agg #[.int .i64 0, .int .i64 0, .string ByteArray.empty, .int .u64 0, .int .i64 0, .int .i64 0, .string ByteArray.empty, .int .u64 0]), 8, 80) := by kernel_rfl
theorem infoSt : (Try.prog.info? 61).map (fun i => (i.zero, i.size, i.bytes)) = some (some (.agg #[.string ByteArray.empty, .int .i64 0]), 2, 24) := by kernel_rfl
set_option maxRecDepth 100000 in
theorem clone_stamps (A : Option Addr) (n c : Nat) (xs : List Value) (w : World) (hr : Reads w w.heap.size A xs) (hlen : xs.length = n * 2) (h1 : ∀ u ∈ xs, u.oneCell' = true) (hA : A = none → n = 0 ∧ c = 0) (hn : n * 24 ≤ 140737488351232) :
    Calls Try.prog 63 #[.slice A n c] w fun e w' => ∃ v, e = .returned v ∧ w'.ownsRow w.heap.size 61 2 v n xs ∧ Below w.heap.size w w' := by
  obtain ⟨i0, hi, hz0, hz1, hz2⟩ := info_parts infoSt
  have heq := fun W : World => Lib.run_eql_slice_nil (P := Try.prog) W 41 61 A n c 0 0 Try.underlying41
  rcases A with _ | ad
  · obtain ⟨rfl, rfl⟩ := hA rfl
    obtain rfl : xs = [] := List.eq_nil_of_length_eq_zero (by omega)
    go_enter Try.func63, Try.ntmps63
    go_wp2
    go_ret
    exact ⟨_, rfl, World.ownsRow_nil _ _ _ _, Below.refl _ _⟩
  · go_enter Try.func63, Try.ntmps63
    have hr' : Reads (w.alloc (.cells #[] 61)) w.heap.size (some ad) xs := hr.below ((Below.refl _ _).alloc (Nat.le_refl _) _)
    have hown : (w.alloc (.cells #[] 61)).ownsRow w.heap.size 61 2 (.slice (some ⟨w.heap.size, 0, none⟩) 0 0) 0 [] := World.ownsRow_made w #[] 0 (Nat.le_refl _) (by unfold maxLen; omega) rfl
    have hnews : ∀ j u, xs[j]? = some u → (w.alloc (.cells #[] 61)).cell? (ad.add j) = some u := by
      intro j u hu
      rcases hr' with rfl | ⟨ad', e, _, h⟩
      · simp at hu
      · injection e with e; subst e; exact h j u hu
    go_wp2_with ((at_builtin; (refine wpList_append_own_at _ rfl _ _ _ rfl w.heap.size 61 i0 (.agg #[.string ByteArray.empty, .int .i64 0]) 2 24 Try.underlying41 hi hz0 hz1 hz2 rfl (by omega) _ 0 [] rfl hown ad n c xs rfl (by omega) hnews h1 (by unfold maxLen; omega) (by omega) (by simp) ?_); intro v w2 hown2 hgrow hat hat2))
    have hgrow' : World.grownBy _ w2 (some w.heap.size) := hgrow
    go_ret
    exact ⟨v, rfl, by simpa using hown2, ((Below.refl _ _).alloc (Nat.le_refl _) _).grown hgrow' (by simp) (fun k hk => Nat.le_of_eq (Option.some.inj hk))⟩
/-- What an owned row reads as, and that a slice of none is nil. -/
theorem own_reads {w : World} {base : Nat} {e : TypeId} {K n : Nat} {v : Value} {xs : List Value} (ho : w.ownsRow base e K v n xs) : ∃ A c, v = .slice A n c ∧ n ≤ c ∧ c ≤ maxLen ∧ (A = none → n = 0 ∧ c = 0) ∧ Reads w w.heap.size A xs := by
  have hl := ho.1
  rcases ho.2 with ⟨rfl, rfl⟩ | ⟨g, cap, cur, rfl, hg, hh, h1, h2, h3, h4⟩
  · exact ⟨none, 0, rfl, Nat.le_refl _, by unfold maxLen; omega, fun _ => ⟨rfl, rfl⟩, .inl (List.eq_nil_of_length_eq_zero (by rw [hl]; omega))⟩
  · refine ⟨_, _, rfl, h1, h2, (fun h => by cases h), .inr ⟨_, rfl, (Array.getElem?_eq_some_iff.1 hh).1, fun j u hu => ?_⟩⟩
    have hj : j < n * K := by have := (List.getElem?_eq_some_iff.1 hu).1; omega
    have e : (⟨g, 0, none⟩ : Addr).add j = ⟨g, j, none⟩ := by
      unfold Addr.add
      split
      · rename_i h0
        rw [h0]
      · simp
    rw [e, World.ownsRow.cellAt ho j hj, hu]
theorem tstamps_any {w : World} {B tb : Nat} {T : TabS} {fp : List Nat} (h : TabIn w B tb T fp) (hn : T.S.length * 24 ≤ 140737488351232) : Calls Try.prog 38 #[.pointer (some ⟨tb, 0, none⟩)] w fun e w' => ∃ v, e = .returned v ∧ w'.ownsRow w.heap.size 61 2 v T.S.length (T.S.flatMap stEnc) ∧ Below w.heap.size w w' := by
  obtain ⟨⟨fv, sv, mb, nb, n, m, D, E, _, h1, _, h3, _⟩, _⟩ := h
  obtain ⟨A, c, rfl, _, _, hA, hr⟩ := own_reads h3
  have c1 : w.cell? ⟨tb, 3, none⟩ = some (.slice A T.S.length c) := cell_of_blk h1 rfl
  have hc := clone_stamps A T.S.length c (T.S.flatMap stEnc) w hr (stEnc_lenAll _) (stEnc_one _) hA hn
  have HC := Lib.hid hc
  clear h1 h3 hc hr
  go_enter Try.func38, Try.ntmps38
  go_wp2_with fail
  refine HC.out.mono ?_
  rintro e w1 ⟨v, rfl, ho, hb⟩
  have HO := Lib.hid ho
  have HB := Lib.hid hb
  clear ho hb
  go_wp2
  go_ret
  exact ⟨_, rfl, HO.out, HB.out⟩
set_option maxRecDepth 100000 in
set_option maxHeartbeats 1000000 in
theorem tkey_any {w : World} {B tb : Nat} {T : TabS} {fp : List Nat} (h : TabIn w B tb T fp) (n : Int) (hn : -9223372036854775808 ≤ n ∧ n ≤ 9223372036854775807) : Calls Try.prog 39 #[.pointer (some ⟨tb, 0, none⟩), .int .i64 n] w fun e w' => (∃ k b, e = .returned (.tuple #[.agg (vvCells k), .bool b])) ∧ Below w.heap.size w w' := by
  have h' := h.kept (Fr.of_below ((Below.refl w.heap.size w).alloc (Nat.le_refl _) (.cells #[.int .i64 0, .int .i64 0, .string ⟨#[]⟩, .int .u64 0] 25)) []) (by simp)
  have hl := tlen_any h'
  have HLen := Lib.hid hl
  clear hl h'
  by_cases h1 : n < 1
  · go_enter Try.func39, Try.ntmps39
    go_wp2
    exact bodyPost_ret (v := .tuple #[.agg (vvCells ⟨0, 0, ⟨#[]⟩, 0⟩), .bool false]) (by simp [results, Try.results39, go_sem, vvCells]) rfl ⟨⟨_, _, rfl⟩, (Below.refl _ _).alloc (Nat.le_refl _) _⟩
  by_cases h2 : (T.F.length : Int) < n
  · go_enter Try.func39, Try.ntmps39
    go_wp2_with fail
    refine HLen.out.mono ?_
    rintro e w1 ⟨rfl, rfl⟩
    go_wp2
    exact bodyPost_ret (v := .tuple #[.agg (vvCells ⟨0, 0, ⟨#[]⟩, 0⟩), .bool false]) (by simp [results, Try.results39, go_sem, vvCells]) rfl ⟨⟨_, _, rfl⟩, (Below.refl _ _).alloc (Nat.le_refl _) _⟩
  · obtain ⟨k, rfl⟩ : ∃ k : Nat, n = (k : Int) + 1 := ⟨(n - 1).toNat, by omega⟩
    have hk : k < T.F.length := by omega
    obtain ⟨x, hx⟩ : ∃ x, T.F[k]? = some x := ⟨_, List.getElem?_eq_getElem hk⟩
    obtain ⟨⟨fv, sv, mb, nb, n', m, D, E, _, t1, t2, _⟩, _⟩ := h
    obtain ⟨A, c, rfl, _, _, hA, hr⟩ := own_reads t2
    obtain ⟨ad, rfl, hadb, hcell⟩ := hr.at (flatMap_ne (K := 8) (fun a => rfl) (by omega) hx)
    obtain ⟨e0, e1, e2, e3, _, _, _, _⟩ := fd_at hcell hx
    have c1 : w.cell? ⟨tb, 1, none⟩ = some (.slice (some ad) T.F.length c) := cell_of_blk t1 rfl
    have hadb' : (ad.add (k * 8)).block < w.heap.size := by rw [block_add']; exact hadb
    have e5 : (k : Int) + 1 - 1 = k := by omega
    have hk' : (k : Int) < (T.F.length : Int) := by omega
    have h2' : ¬ (T.F.length : Int) < (k : Int) + 1 := by omega
    clear t1 t2 hcell hr
    go_enter Try.func39, Try.ntmps39
    go_wp2_with fail
    refine HLen.out.mono ?_
    rintro e w1 ⟨rfl, rfl⟩
    go_wp2
    exact bodyPost_ret (v := .tuple #[.agg (vvCells x.1), .bool true]) (by simp [results, Try.results39, go_sem, vvCells]) rfl ⟨⟨_, _, rfl⟩, (by repeat' (first | exact Below.refl _ _ | refine Below.setCell ?_ ?_ _ | refine Below.alloc ?_ ?_ _ | (simp; done) | (simp; omega)))⟩
end Go.Proofs.Ythhphjfbdoffhaa
