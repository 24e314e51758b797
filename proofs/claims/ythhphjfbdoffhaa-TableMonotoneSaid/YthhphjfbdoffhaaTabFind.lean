/-
  Chapter 04: where a key stands.
-/
import Derived.Test.YthhphjfbdoffhaaTabNil
import Derived.BigQuiet
set_option linter.unusedVariables false
set_option linter.unusedSimpArgs false
namespace Go.Proofs.Ythhphjfbdoffhaa
open Go.ChangeShapes Go.WideShapes Go.ChangeAt Go.RowKit Go.Maps

theorem look_int {w : World} {t k : TypeId} {b n : Nat} {D : DataW Unit} {key : Value} {kl : Lit} (h : w.ownsMap Try.prog k (plainElem Try.prog 3) b n D) (K : Keyed Try.prog k) (ht : Try.prog.underlying t = some (.map k 3)) (hkey : keyOf Try.prog k key = some kl) :
    ∃ c : Int, D.atKey kl (.lit (.int .i64 0)) = .lit (.int .i64 c) ∧ ∀ W : World, W.heap[b]? = w.heap[b]? → (Instr.lookup t (.map (some b)) key true).run Try.prog W = .ok (.tuple #[.int .i64 c, .bool (Maps.has D kl)]) W := by
  have key1 : ∀ W : World, W.heap[b]? = w.heap[b]? → ∃ c : Int, D.atKey kl (.lit (.int .i64 0)) = .lit (.int .i64 c) ∧ (Instr.lookup t (.map (some b)) key true).run Try.prog W = .ok (.tuple #[.int .i64 c, .bool (Maps.has D kl)]) W := fun W hW => by
    have h' : W.ownsMap Try.prog k (plainElem Try.prog 3) b n D := by
      obtain ⟨es, clock, hb, r⟩ := h
      exact ⟨es, clock, hW.trans hb, r⟩
    obtain ⟨v, ps, hr, hv⟩ := h'.look_ok K ht (Try.zeroValue3 W) (plainElem_int Try.underlying3 (by decide)) hkey
    obtain ⟨c, rfl, hc, _⟩ := plainElem_int_inv Try.underlying3 hv
    exact ⟨c, congrArg Prod.fst hc, hr⟩
  obtain ⟨c, hc, _⟩ := key1 w rfl
  refine ⟨c, hc, fun W hW => ?_⟩
  obtain ⟨c', hc', hr⟩ := key1 W hW
  rw [hc] at hc'
  have : c = c' := by simpa using hc'
  rw [this]
  exact hr
theorem blk_same {w w1 : World} (h : Below w.heap.size w w1) {b : Nat} (hb : b < w.heap.size) (o : Obj) : (w1.alloc o).heap[b]? = w.heap[b]? := (Below.heap_alloc w1 o b (Nat.lt_of_lt_of_le hb h.size)).trans (h.block b hb)
theorem below_drewN {n : Nat} {w w' : World} (h : Below n w w') (m : Nat) : Below n w (w'.drewN m) := ⟨h.os, h.tape, h.output, h.size, h.block⟩
set_option maxRecDepth 100000 in
set_option maxHeartbeats 1000000 in
theorem find_any {w : World} {B tb : Nat} {T : TabS} {fp : List Nat} (h : TabIn w B tb T fp) (k : VV) (hn : -9223372036854775808 ≤ k.n ∧ k.n ≤ 9223372036854775807) (hs : k.s.size ≤ maxLen) :
    ∃ p : Int, ((isKey k = true ∧ ∃ (i : Nat) (f : Fd), T.F[i]? = some f ∧ keyLV f.1 = keyLV k ∧ p = i) ∨ ((isKey k = false ∨ ∀ f ∈ T.F, keyLV f.1 ≠ keyLV k) ∧ p = -1)) ∧
      Calls Try.prog 59 #[.pointer (some ⟨tb, 0, none⟩), .agg (vvCells k)] w (RetB (.int .i64 p) w) := by
  obtain ⟨⟨fv, sv, mb, nb, n, m, D, E, _, h1, _, _, h4, _, _, _, _, hI, _⟩, _⟩ := h
  have hk := fun W => keyof_any k W
  have hb0 := (Below.refl w.heap.size w).alloc (Nat.le_refl _) (.cells (vvCells k) 25)
  have HB0 := Lib.hid hb0
  cases hik : isKey k
  · refine ⟨-1, .inr ⟨.inl rfl, rfl⟩, ?_⟩
    rw [hik] at hk
    unfold vvCells keyV at *
    have HK := Lib.hid hk
    clear hk hb0 h1 h4 hI
    go_enter Try.func59, Try.ntmps59
    go_wp2_with fail
    refine (HK.out _).mono ?_
    rintro e w1 ⟨rfl, hb1⟩
    have HB := Lib.hid (HB0.out.trans (hb1.mono (by simp)))
    clear hb1
    go_wp2
    go_ret
    exact ⟨rfl, HB.out.alloc HB.out.size _⟩
  rw [hik] at hk
  obtain ⟨c, hc, hl⟩ := look_int h4 lawK Try.underlying81 (key_of k.n k.s (decide (k.kind = 3)) hn hs)
  have hmlt := h4.lt
  have hmb : w.heap[mb]? = w.heap[mb]? := rfl
  have H1 := Lib.hid h1
  change ∀ W : World, W.heap[mb]? = w.heap[mb]? → (Instr.lookup 81 (.map (some mb)) (keyV k.n k.s (decide (k.kind = 3))) true).run Try.prog W = .ok (.tuple #[.int .i64 c, .bool (Maps.has D (keyLV k))]) W at hl
  have walk : ∀ β, Maps.has D (keyLV k) = β → Calls Try.prog 59 #[.pointer (some ⟨tb, 0, none⟩), .agg (vvCells k)] w (RetB (.int .i64 (if β = true then c else -1)) w) := by
    intro β hβ
    rw [hβ] at hl
    clear hI hc h1 h4 hb0 hβ
    rw [if_pos rfl] at hk
    unfold vvCells keyV at *
    generalize decide (k.kind = 3) = b3 at hk hl
    have HK := Lib.hid hk
    have HL := Lib.hid hl
    clear hk hl
    cases β
    all_goals
      go_enter Try.func59, Try.ntmps59
      go_wp2_with fail
      refine (HK.out _).mono ?_
      rintro e w1 ⟨rfl, hb1⟩
      have HB := Lib.hid (HB0.out.trans (hb1.mono (by simp)))
      have u1 := below_blk HB.out H1.out
      have c2 : w1.cell? ⟨tb, 2, none⟩ = some (.map (some mb)) := cell_of_blk u1 rfl
      have htl := blk_lt u1
      have hlook : ∀ q, (Instr.lookup 81 (.map (some mb)) (.agg #[.int .i64 k.n, .string k.s, .bool b3]) true).run Try.prog ((w1.alloc (.cells #[.int .i64 k.n, .string k.s, .bool b3] 87)).drewN q) = .ok _ _ := fun q => HL.out _ ((blk_same HB.out hmlt _))
      clear u1 hb1
      go_wp2_with fail
      all_goals go_quiet (fail)
      go_wp2
      go_ret
      exact ⟨rfl, below_drewN (HB.out.alloc HB.out.size _) _⟩
  cases hh : Maps.has D (keyLV k)
  · refine ⟨-1, .inr ⟨.inr fun f hf he => ?_, rfl⟩, walk _ hh⟩
    obtain ⟨i, hi⟩ := List.getElem?_of_mem hf
    have := (hI.at_ i f hi).1
    rw [he, hh] at this
    cases this
  · refine ⟨c, .inl ⟨rfl, ?_⟩, walk _ hh⟩
    by_cases hex : ∃ f ∈ T.F, keyLV f.1 = keyLV k
    · obtain ⟨f, hf, he⟩ := hex
      obtain ⟨i, hi⟩ := List.getElem?_of_mem hf
      have h2 := (hI.at_ i f hi).2
      rw [he] at h2
      refine ⟨i, f, hi, he, ?_⟩
      have h3 := hc.symm.trans h2
      simpa using h3
    · have := hI.no_ (keyLV k) fun f hf he => hex ⟨f, hf, he⟩
      rw [hh] at this
      cases this
end Go.Proofs.Ythhphjfbdoffhaa
