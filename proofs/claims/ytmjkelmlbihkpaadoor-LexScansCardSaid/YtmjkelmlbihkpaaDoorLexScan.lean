/-
  lex.Scan: all tokens of a text, or what is wrong with it.
-/
import Derived.Test.YtmjkelmlbihkpaaDoorLexAll
set_option linter.unusedVariables false
set_option linter.unusedSimpArgs false
namespace Go.Proofs.YtmjkelmlbihkpaaDoor
open Go.ChangeShapes Go.WideShapes Go.ChangeAt Go.RowKit

set_option maxRecDepth 100000 in
set_option maxHeartbeats 2000000 in
theorem srec_idle (x y z : Nat) (w : World) :
    CallsD Tryd.prog 19 #[.pointer (some ⟨x, 0, none⟩), .pointer (some ⟨y, 0, none⟩), .pointer (some ⟨z, 0, none⟩)] .returning w fun e u' w' =>
      e = .returned (.tuple #[]) ∧ u' = .returning ∧ w = w' := by
  refine callsD_of_wpS Tryd.func19 rfl fun c₀ cs hu => ?_
  apply wpS_seq
  apply wpS_region
  simp [wpOpsS, go_sem, recoverD, hu, Tryd.ntmps19, Exit.thenS, Array.replicate, List.replicate]
  refine wpS_of_wp ?_
  go_wp2
  simp [bodyPostS, results, Tryd.results19]
  cases c₀; cases hu; rfl
set_option maxRecDepth 100000 in
set_option maxHeartbeats 2000000 in
theorem srec_panic (g : Nat) (v : Value) (x y a n : Int) (w : World) (h0 : w.heap[g]? = some (.cells #[v] 23 (0, 0))) (h1 : w.heap[g + 1]? = some (.cells #[.int .i64 x] 3 (0, 0))) (h2 : w.heap[g + 2]? = some (.cells #[.int .i64 y] 24 (0, 0))) :
    CallsD Tryd.prog 19 #[.pointer (some ⟨g, 0, none⟩), .pointer (some ⟨g + 1, 0, none⟩), .pointer (some ⟨g + 2, 0, none⟩)] (.panicking ({ v := .iface 38 (.agg #[.int .i64 a, .int .i64 n]), recovered := false } :: [])) w fun e u' w' =>
      e = .returned (.tuple #[]) ∧ u' = .panicking ({ v := .iface 38 (.agg #[.int .i64 a, .int .i64 n]), recovered := true } :: []) ∧ w'.heap[g]? = some (.cells #[.slice none 0 0] 23 (0, 0)) ∧ w'.heap[g + 1]? = some (.cells #[.int .i64 a] 3 (0, 0)) ∧ w'.heap[g + 2]? = some (.cells #[.int .i64 n] 24 (0, 0)) ∧ Fr [g, g + 1, g + 2] w w' := by
  have hta : ∀ w, (Instr.typeAssert (.iface 38 (.agg #[.int .i64 a, .int .i64 n])) 20 38 true).run Tryd.prog w = .ok (.tuple #[.agg #[.int .i64 a, .int .i64 n], .bool true]) w := fun w => by kernel_rfl
  have H0 := Lib.hid h0
  have H1 := Lib.hid h1
  have H2 := Lib.hid h2
  clear h0 h1 h2
  refine callsD_of_wpS Tryd.func19 rfl fun c₀ cs hu => ?_
  apply wpS_seq
  apply wpS_region
  simp [wpOpsS, go_sem, recoverD, hu, Tryd.ntmps19, Exit.thenS, Array.replicate, List.replicate]
  refine wpS_of_wp ?_
  go_wp2
  refine gen_wpT fun W hW => ?_
  have k0 : W.heap[g]? = some (.cells #[v] 23 (0, 0)) := by rw [← hW]; exact blk_alloc H0.out _
  have k1 : W.heap[g + 1]? = some (.cells #[.int .i64 x] 3 (0, 0)) := by rw [← hW]; exact blk_alloc H1.out _
  have k2 : W.heap[g + 2]? = some (.cells #[.int .i64 y] 24 (0, 0)) := by rw [← hW]; exact blk_alloc H2.out _
  have kT : W.heap[w.heap.size]? = some (.cells #[.int .i64 a, .int .i64 n] 38 (0, 0)) := by rw [← hW]; exact heap_new_at _ _ _ rfl
  have kW : Fr [g, g + 1, g + 2] w W := by rw [← hW]; exact (Fr.refl _ _).alloc _
  clear hW
  have t0 : W.cell? ⟨w.heap.size, 0, none⟩ = some (.int .i64 a) := cell_of_blk kT rfl
  have t1 : W.cell? ⟨w.heap.size, 1, none⟩ = some (.int .i64 n) := cell_of_blk kT rfl
  have v0 : W.cell? ⟨g, 0, none⟩ = some v := cell_of_blk k0 rfl
  have v1 : W.cell? ⟨g + 1, 0, none⟩ = some (.int .i64 x) := cell_of_blk k1 rfl
  have v2 : W.cell? ⟨g + 2, 0, none⟩ = some (.int .i64 y) := cell_of_blk k2 rfl
  have f0 : W.frozen? ⟨g, 0, none⟩ = false := free_of_blk k0
  have f1 : W.frozen? ⟨g + 1, 0, none⟩ = false := free_of_blk k1
  have f2 : W.frozen? ⟨g + 2, 0, none⟩ = false := free_of_blk k2
  have l0 := blk_lt H0.out
  have l1 := blk_lt H1.out
  have l2 := blk_lt H2.out
  have lT := blk_lt kT
  have hn0 : w.heap.size ≠ g := by omega
  have hn1 : w.heap.size ≠ g + 1 := by omega
  have hn2 : w.heap.size ≠ g + 2 := by omega
  have K0 := Lib.hid k0
  have K1 := Lib.hid k1
  have K2 := Lib.hid k2
  have KW := Lib.hid kW
  clear k0 k1 k2 kT kW
  go_region
  have hR : ((((W.setCell ⟨g, 0, none⟩ (.slice none 0 0)).setCell ⟨g + 1, 0, none⟩ (.int .i64 a)).setCell ⟨g + 2, 0, none⟩ (.int .i64 n)).drew).heap[g]? = some (.cells #[.slice none 0 0] 23 (0, 0)) ∧ ((((W.setCell ⟨g, 0, none⟩ (.slice none 0 0)).setCell ⟨g + 1, 0, none⟩ (.int .i64 a)).setCell ⟨g + 2, 0, none⟩ (.int .i64 n)).drew).heap[g + 1]? = some (.cells #[.int .i64 a] 3 (0, 0)) ∧ ((((W.setCell ⟨g, 0, none⟩ (.slice none 0 0)).setCell ⟨g + 1, 0, none⟩ (.int .i64 a)).setCell ⟨g + 2, 0, none⟩ (.int .i64 n)).drew).heap[g + 2]? = some (.cells #[.int .i64 n] 24 (0, 0)) ∧ Fr [g, g + 1, g + 2] w ((((W.setCell ⟨g, 0, none⟩ (.slice none 0 0)).setCell ⟨g + 1, 0, none⟩ (.int .i64 a)).setCell ⟨g + 2, 0, none⟩ (.int .i64 n)).drew) :=
    ⟨blk_drew (blk_far (blk_far (blk_set (i := 0) K0.out _) (by simp) _) (by simp) _), blk_drew (blk_far (blk_set (i := 0) (blk_far K1.out (by simp) _) _) (by simp) _), blk_drew (blk_set (i := 0) (blk_far (blk_far K2.out (by simp) _) (by simp) _) _), (((KW.out.set _ (.inl (by simp))).set _ (.inl (by simp))).set _ (.inl (by simp))).drew⟩
  have HR := Lib.hid hR
  clear hR
  change bodyPostS Tryd.prog Tryd.f19 _ _ _ _ _ _ _
  simp [bodyPostS, results, Tryd.results19]
  first | exact HR.out | exact ⟨_, by cases c₀; cases hu; rfl, rfl, HR.out⟩
/-- What Scan leaves. -/
def ScanOut (s : ByteArray) (w : World) (e : Ending) (w' : World) : Prop := Below w.heap.size w w' ∧
  ((100000 < s.size ∧ e = .returned (.tuple #[.slice none 0 0, .int .i64 0, .int .i64 2])) ∨
   (s.size ≤ 100000 ∧ ∃ p er : Nat, scanL s.data.toList = .inl (p, er) ∧ e = .returned (.tuple #[.slice none 0 0, .int .i64 (p : Int), .int .i64 (er : Int)])) ∨
   (s.size ≤ 100000 ∧ ∃ (toks : List Tok) (A : Option Addr) (c : Nat), scanL s.data.toList = .inr toks ∧ e = .returned (.tuple #[.slice A toks.length c, .int .i64 0, .int .i64 0]) ∧ Reads w' w'.heap.size A (toks.flatMap tkEnc) ∧ toks.length ≤ c ∧ toks.length ≤ s.size + 1))
theorem MaxC.below {w w' : World} {m : Int} (h : MaxC w m) (hb : Below w.heap.size w w') : MaxC w' m := ⟨(hb.cell (p := ⟨1, 0, none⟩) h.2).trans h.1, Nat.lt_of_lt_of_le h.2 hb.size⟩
set_option maxRecDepth 100000 in
set_option maxHeartbeats 16000000 in
theorem scan_any (s : ByteArray) (m : Int) (w : World) (hsp : SpW w) (hm : MaxC w m) : Calls Tryd.prog 10 #[.string s] w (ScanOut s w) := by
  have HSP := Lib.hid hsp
  have HM := Lib.hid hm
  clear hsp hm
  have hmf : ∀ (fn : Fn) (first cap : Array Value) (w : World), (Instr.makeFunc fn first cap).run Tryd.prog w = .ok (.func fn first cap) w := fun _ _ _ _ => rfl
  by_cases hbig : 100000 < s.size
  · have hb' : (100000 : Int) < (s.size : Int) := by omega
    have HBG := Lib.hid hbig
    clear hbig
    go_enter_defers Tryd.func10, Tryd.ntmps10
    go_wp2_with fail
    have z0 : (((w.alloc (.cells #[.slice none 0 0] 23)).alloc (.cells #[.int .i64 0] 3)).alloc (.cells #[.int .i64 2] 24)).cell? ⟨w.heap.size, 0, none⟩ = some (.slice none 0 0) := cell_of_blk (blk_alloc (blk_alloc (heap_new_at _ _ _ rfl) _) _) rfl
    have z1 : (((w.alloc (.cells #[.slice none 0 0] 23)).alloc (.cells #[.int .i64 0] 3)).alloc (.cells #[.int .i64 2] 24)).cell? ⟨w.heap.size + 1, 0, none⟩ = some (.int .i64 0) := cell_of_blk (blk_alloc (heap_new_at _ _ _ (by simp)) _) rfl
    have z2 : (((w.alloc (.cells #[.slice none 0 0] 23)).alloc (.cells #[.int .i64 0] 3)).alloc (.cells #[.int .i64 2] 24)).cell? ⟨w.heap.size + 1 + 1, 0, none⟩ = some (.int .i64 2) := cell_of_blk (heap_new_at _ _ _ (by simp)) rfl
    have HFIN := Lib.hid (show ScanOut s w (.returned (.tuple #[.slice none 0 0, .int .i64 0, .int .i64 2])) (((w.alloc (.cells #[.slice none 0 0] 23)).alloc (.cells #[.int .i64 0] 3)).alloc (.cells #[.int .i64 2] 24)) from ⟨(((Below.refl _ _).alloc (Nat.le_refl _) _).alloc (by simp) _).alloc (by simp; omega) _, .inl ⟨HBG.out, rfl⟩⟩)
    simp [bodyPostD, Leaves, settle, results, Tryd.results10, go_sem, z0, z1, z2]
    exact HFIN.out
  have hb' : ¬ (100000 : Int) < (s.size : Int) := by omega
  have hs : s.size ≤ 100000 := by omega
  clear hbig
  obtain ⟨b0, hb0⟩ : ∃ b, b = w.heap.size := ⟨_, rfl⟩
  obtain ⟨W, hW⟩ : ∃ W, W = ((w.alloc (.cells #[.slice none 0 0] 23)).alloc (.cells #[.int .i64 0] 3)).alloc (.cells #[.int .i64 0] 24) := ⟨_, rfl⟩
  have K0 := Lib.hid (show W.heap[b0]? = some (.cells #[.slice none 0 0] 23 (0, 0)) by rw [hW, hb0]; exact blk_alloc (blk_alloc (heap_new_at _ _ _ rfl) _) _)
  have K1 := Lib.hid (show W.heap[b0 + 1]? = some (.cells #[.int .i64 0] 3 (0, 0)) by rw [hW, hb0]; exact blk_alloc (heap_new_at _ _ _ (by simp)) _)
  have K2 := Lib.hid (show W.heap[b0 + 2]? = some (.cells #[.int .i64 0] 24 (0, 0)) by rw [hW, hb0]; exact heap_new_at _ _ _ (by simp))
  have KB := Lib.hid (show Below w.heap.size w W by rw [hW]; exact (((Below.refl _ _).alloc (Nat.le_refl _) _).alloc (by simp) _).alloc (by simp; omega) _)
  have HB0 := Lib.hid hb0
  have HWW := Lib.hid hW
  clear hW
  go_enter_defers Tryd.func10, Tryd.ntmps10
  go_wp2_with fail
  rw [← hb0, ← HWW.out]
  refine (words_any W (HSP.out.below KB.out)).mono ?_
  rintro e w1 ⟨mb, nb, D, rfl, hmb, hM, hD, hB1⟩
  obtain ⟨g, hg⟩ : ∃ g, g = w1.heap.size := ⟨_, rfl⟩
  have H1 := Lib.hid hB1
  have hbs : b0 + 2 < W.heap.size := blk_lt K2.out
  have hs1 := hB1.size
  have hg1 : g ≠ 1 := by have := HM.out.2; have := KB.out.size; omega
  have hbm : mb < w1.heap.size := by obtain ⟨es, clock, hb, r⟩ := hM; exact blk_lt hb
  have HA := Lib.hid (xall_any (g := g) (mb := mb) (nb := nb) (D := D) (s := s) (m := m) (by omega) (w1.alloc (.cells #[.string s, .int .i64 0, .map (some mb)] 44)) (heap_new_at _ _ _ hg.symm) (((Fr.refl [] w1).alloc _).map hM (by simp)) hD (by omega) ((HM.out.below KB.out).below hB1 |>.below ((Below.refl _ _).alloc (Nat.le_refl _) _)) hg1)
  have K0a := Lib.hid (blk_alloc (below_blk hB1 K0.out) (.cells #[.string s, .int .i64 0, .map (some mb)] 44))
  have K1a := Lib.hid (blk_alloc (below_blk hB1 K1.out) (.cells #[.string s, .int .i64 0, .map (some mb)] 44))
  have K2a := Lib.hid (blk_alloc (below_blk hB1 K2.out) (.cells #[.string s, .int .i64 0, .map (some mb)] 44))
  have KBa := Lib.hid (KB.out.trans ((hB1.trans (((Below.refl w1.heap.size w1).alloc (Nat.le_refl _) (.cells #[.string s, .int .i64 0, .map (some mb)] 44)).mono hB1.size)).mono KB.out.size))
  clear hmb hM hD hB1
  go_wp2_with fail
  rw [← hg]
  refine HA.out.mono ?_
  rintro e w2 ⟨hf, hao⟩
  have hbg : b0 + 2 < g := by omega
  have K0b := Lib.hid (hf.blk K0a.out (by simp; omega))
  have K1b := Lib.hid (hf.blk K1a.out (by simp; omega))
  have K2b := Lib.hid (hf.blk K2a.out (by simp; omega))
  have KBb := Lib.hid (show Below w.heap.size w w2 from KBa.out.trans (hf.to_below (by have := KBa.out.size; omega) (by intro b hb; rw [List.mem_singleton.1 hb]; have := KB.out.size; omega)))
  have hgs : g < (w1.alloc (.cells #[.string s, .int .i64 0, .map (some mb)] 44)).heap.size := by simp; omega
  have HGS := Lib.hid hgs
  clear hf hgs
  rcases hao with ⟨p, er, h1, rfl⟩ | ⟨toks, A, c, h1, rfl, hO, hlen⟩
  · have HS := Lib.hid h1
    clear h1
    unfold wrongX
    go_wp2
    rw [← hb0]
    refine leaves_cons (f := 19) (args := #[.pointer (some ⟨b0, 0, none⟩), .pointer (some ⟨b0 + 1, 0, none⟩), .pointer (some ⟨b0 + 2, 0, none⟩)]) (by simp) (by simp [go_sem]) ?_
    refine (srec_panic b0 (.slice none 0 0) 0 0 p er _ K0b.out K1b.out K2b.out).mono ?_
    rintro e u' w3 ⟨rfl, rfl, k0, k1, k2, hF⟩
    have j0 := cell_of_blk (i := 0) k0 rfl
    have j1 := cell_of_blk (i := 0) k1 rfl
    have j2 := cell_of_blk (i := 0) k2 rfl
    have HFIN := Lib.hid (show ScanOut s w (.returned (.tuple #[.slice none 0 0, .int .i64 (p : Int), .int .i64 (er : Int)])) w3 from ⟨KBb.out.trans (hF.to_below KBb.out.size (by intro b hb; have := HB0.out; simp at hb; omega)), .inr (.inl ⟨hs, p, er, HS.out, rfl⟩)⟩)
    simp [Leaves, settle, results, Tryd.results10, go_sem, j0, j1, j2]
    exact HFIN.out
  · have HS := Lib.hid h1
    have HO := Lib.hid hO
    have HLN := Lib.hid hlen
    clear h1 hO hlen
    subst hb0
    have v0 : w2.cell? ⟨w.heap.size, 0, none⟩ = some (.slice none 0 0) := cell_of_blk (i := 0) K0b.out rfl
    have v1 : w2.cell? ⟨w.heap.size + 1, 0, none⟩ = some (.int .i64 0) := cell_of_blk (i := 0) K1b.out rfl
    have v2 : w2.cell? ⟨w.heap.size + 1 + 1, 0, none⟩ = some (.int .i64 0) := cell_of_blk (i := 0) K2b.out rfl
    have f0 : w2.frozen? ⟨w.heap.size, 0, none⟩ = false := free_of_blk (i := 0) K0b.out
    have f1 : w2.frozen? ⟨w.heap.size + 1, 0, none⟩ = false := free_of_blk (i := 0) K1b.out
    have f2 : w2.frozen? ⟨w.heap.size + 1 + 1, 0, none⟩ = false := free_of_blk (i := 0) K2b.out
    have l0 := blk_lt K0b.out
    have l1 := blk_lt K1b.out
    have l2 : w.heap.size + 1 + 1 < w2.heap.size := blk_lt K2b.out
    have j0 : (((w2.setCell ⟨w.heap.size, 0, none⟩ (.slice A toks.length c)).setCell ⟨w.heap.size + 1, 0, none⟩ (.int .i64 0)).setCell ⟨w.heap.size + 1 + 1, 0, none⟩ (.int .i64 0)).cell? ⟨w.heap.size, 0, none⟩ = some (.slice A toks.length c) := cell_of_blk (i := 0) (blk_far (a := ⟨w.heap.size + 1 + 1, 0, none⟩) (blk_far (a := ⟨w.heap.size + 1, 0, none⟩) (blk_set (i := 0) K0b.out _) (by simp) _) (by simp; omega) _) rfl
    have j1 : (((w2.setCell ⟨w.heap.size, 0, none⟩ (.slice A toks.length c)).setCell ⟨w.heap.size + 1, 0, none⟩ (.int .i64 0)).setCell ⟨w.heap.size + 1 + 1, 0, none⟩ (.int .i64 0)).cell? ⟨w.heap.size + 1, 0, none⟩ = some (.int .i64 0) := cell_of_blk (i := 0) (blk_far (a := ⟨w.heap.size + 1 + 1, 0, none⟩) (blk_set (i := 0) (blk_far (a := ⟨w.heap.size, 0, none⟩) K1b.out (by simp) _) _) (by simp) _) rfl
    have j2 : (((w2.setCell ⟨w.heap.size, 0, none⟩ (.slice A toks.length c)).setCell ⟨w.heap.size + 1, 0, none⟩ (.int .i64 0)).setCell ⟨w.heap.size + 1 + 1, 0, none⟩ (.int .i64 0)).cell? ⟨w.heap.size + 1 + 1, 0, none⟩ = some (.int .i64 0) := cell_of_blk (i := 0) (blk_set (i := 0) (blk_far (a := ⟨w.heap.size + 1, 0, none⟩) (blk_far (a := ⟨w.heap.size, 0, none⟩) K2b.out (by simp) _) (by simp) _) _) rfl
    have hFr : Fr [w.heap.size, w.heap.size + 1, w.heap.size + 1 + 1] w2 (((w2.setCell ⟨w.heap.size, 0, none⟩ (.slice A toks.length c)).setCell ⟨w.heap.size + 1, 0, none⟩ (.int .i64 0)).setCell ⟨w.heap.size + 1 + 1, 0, none⟩ (.int .i64 0)) := (((Fr.refl _ _).set _ (.inl (by simp))).set _ (.inl (by simp))).set _ (.inl (by simp))
    have hown := own_readsX (hFr.own HO.out (fun g' hg' => by have h1 := own_base HO.out g' hg'; have h2 := HGS.out; simp; omega))
    have HFIN := Lib.hid (show ScanOut s w (.returned (.tuple #[.slice A toks.length c, .int .i64 0, .int .i64 0])) (((w2.setCell ⟨w.heap.size, 0, none⟩ (.slice A toks.length c)).setCell ⟨w.heap.size + 1, 0, none⟩ (.int .i64 0)).setCell ⟨w.heap.size + 1 + 1, 0, none⟩ (.int .i64 0)) from ⟨KBb.out.trans (hFr.to_below KBb.out.size (by intro b hb; simp at hb; omega)), .inr (.inr ⟨hs, toks, A, c, HS.out, rfl, hown.1, hown.2, by have := HLN.out; simpa using this⟩)⟩)
    have J0 := Lib.hid j0
    have J1 := Lib.hid j1
    have J2 := Lib.hid j2
    clear j0 j1 j2 hFr hown
    go_wp2
    refine leaves_cons (f := 19) (args := #[.pointer (some ⟨w.heap.size, 0, none⟩), .pointer (some ⟨w.heap.size + 1, 0, none⟩), .pointer (some ⟨w.heap.size + 1 + 1, 0, none⟩)]) (by simp) (by simp [go_sem]) ?_
    refine (srec_idle w.heap.size (w.heap.size + 1) (w.heap.size + 1 + 1) _).mono ?_
    rintro e u' w3 ⟨rfl, rfl, rfl⟩
    simp [Leaves, settle, results, Tryd.results10, go_sem, J0.out, J1.out, J2.out]
    exact HFIN.out
end Go.Proofs.YtmjkelmlbihkpaaDoor
