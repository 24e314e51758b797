/-
 ParseBlanks: part 22 of what the claim rests on.
-/
import Derived.Test.YthobobmbileekaaGreatDoorCards
import Derived.Test.YthobobmbileekaaGreatDoorTie
import Derived.Test.YthobobmbileekaaGreatDoorB03
import Derived.Test.YthobobmbileekaaGreatDoorB08
import Derived.Test.YthobobmbileekaaGreatDoorB20
import Derived.Test.YthobobmbileekaaGreatDoorB21
import Derived.OpenShut
import Derived.LaidMore
import Derived.Lay
import Derived.Stop.Joined
import Derived.Stop.LaidErr
import Derived.Deep.DeepHandedRow
import Derived.HandedShaped
import Derived.SevenTiedAt
import Derived.Lib.LaidTab
set_option linter.unusedVariables false
set_option linter.unusedSimpArgs false
set_option maxHeartbeats 64000000
namespace Go.Proofs.YthobobmbileekaaGreatDoor
open Go.ChangeShapes Go.WideShapes Go.ChangeAt Go.RowKit Go.Maps

set_option maxRecDepth 100000 in
theorem prec_idle (x y z : Nat) (w : World) :
  CallsD Tryz.prog 10 #[.pointer (some ⟨x, 0, none⟩), .pointer (some ⟨y, 0, none⟩), .pointer (some ⟨z, 0, none⟩)] .returning w fun e u' w' =>
   e = .returned (.tuple #[]) ∧ u' = .returning ∧ w = w' := by
 refine callsD_of_wpS Tryz.func10 rfl fun c₀ cs hu => ?_
 apply wpS_seq
 apply wpS_region
 simp [wpOpsS, go_sem, recoverD, hu, Tryz.ntmps10, Exit.thenS, Array.replicate, List.replicate]
 refine wpS_of_wp ?_
 go_wp2
 simp [bodyPostS, results, Tryz.results10]
 cases c₀; cases hu; rfl
set_option maxRecDepth 100000 in
theorem prec_panic (g : Nat) (v : Value) (x y a n : Int) (w : World) (h0 : w.heap[g]? = some (.cells #[v] 23 (0, 0))) (h1 : w.heap[g + 1]? = some (.cells #[.int .i64 x] 3 (0, 0))) (h2 : w.heap[g + 2]? = some (.cells #[.int .i64 y] 24 (0, 0))) :
  CallsD Tryz.prog 10 #[.pointer (some ⟨g, 0, none⟩), .pointer (some ⟨g + 1, 0, none⟩), .pointer (some ⟨g + 2, 0, none⟩)] (.panicking ({ v := .iface 40 (.agg #[.int .i64 a, .int .i64 n]), recovered := false } :: [])) w fun e u' w' =>
   e = .returned (.tuple #[]) ∧ u' = .panicking ({ v := .iface 40 (.agg #[.int .i64 a, .int .i64 n]), recovered := true } :: []) ∧ w'.heap[g]? = some (.cells #[.slice none 0 0] 23 (0, 0)) ∧ w'.heap[g + 1]? = some (.cells #[.int .i64 a] 3 (0, 0)) ∧ w'.heap[g + 2]? = some (.cells #[.int .i64 n] 24 (0, 0)) ∧ Fr [g, g + 1, g + 2] w w' := by
 have hta : ∀ w, (Instr.typeAssert (.iface 40 (.agg #[.int .i64 a, .int .i64 n])) 20 40 true).run Tryz.prog w = .ok (.tuple #[.agg #[.int .i64 a, .int .i64 n], .bool true]) w := fun w => by kernel_rfl
 have H0 := Lib.hid h0
 have H1 := Lib.hid h1
 have H2 := Lib.hid h2
 clear h0 h1 h2
 refine callsD_of_wpS Tryz.func10 rfl fun c₀ cs hu => ?_
 apply wpS_seq
 apply wpS_region
 simp [wpOpsS, go_sem, recoverD, hu, Tryz.ntmps10, Exit.thenS, Array.replicate, List.replicate]
 refine wpS_of_wp ?_
 go_wp2
 refine gen_wpT fun W hW => ?_
 have k0 : W.heap[g]? = some (.cells #[v] 23 (0, 0)) := by rw [← hW]; exact blk_alloc H0.out _
 have k1 : W.heap[g + 1]? = some (.cells #[.int .i64 x] 3 (0, 0)) := by rw [← hW]; exact blk_alloc H1.out _
 have k2 : W.heap[g + 2]? = some (.cells #[.int .i64 y] 24 (0, 0)) := by rw [← hW]; exact blk_alloc H2.out _
 have kT : W.heap[w.heap.size]? = some (.cells #[.int .i64 a, .int .i64 n] 40 (0, 0)) := by rw [← hW]; exact heap_new_at _ _ _ rfl
 have kW : Fr [g, g + 1, g + 2] w W := by rw [← hW]; exact (Fr.refl _ _).alloc _
 clear hW
 have t0 : W.cell? ⟨w.heap.size, 0, none⟩ = some (.int .i64 a) := cell_of_blk kT rfl
 have t1 : W.cell? ⟨w.heap.size, 1, none⟩ = some (.int .i64 n) := cell_of_blk kT rfl
 have v0 : W.cell? ⟨g, 0, none⟩ = some v := cell_of_blk k0 rfl
 have v1 : W.cell? ⟨g + 1, 0, none⟩ = some (.int .i64 x) := cell_of_blk k1 rfl
 have v2 : W.cell? ⟨g + 2, 0, none⟩ = some (.int .i64 y) := cell_of_blk k2 rfl
 have f0 : W.frozen? ⟨g, 0, none⟩ = false := free_of_blk k0
 have f1 : W.frozen? ⟨g + 1, 0, none⟩ = false := free_of_blk k1
 have f2 : W.frozen? ⟨g + 2, 0, none⟩ = false := free_of_blk k2
 have l0 := blk_lt H0.out
 have l1 := blk_lt H1.out
 have l2 := blk_lt H2.out
 have lT := blk_lt kT
 have hn0 : w.heap.size ≠ g := by omega
 have hn1 : w.heap.size ≠ g + 1 := by omega
 have hn2 : w.heap.size ≠ g + 2 := by omega
 have K0 := Lib.hid k0
 have K1 := Lib.hid k1
 have K2 := Lib.hid k2
 have KW := Lib.hid kW
 clear k0 k1 k2 kT kW
 go_region
 have hR : ((((W.setCell ⟨g, 0, none⟩ (.slice none 0 0)).setCell ⟨g + 1, 0, none⟩ (.int .i64 a)).setCell ⟨g + 2, 0, none⟩ (.int .i64 n)).drew).heap[g]? = some (.cells #[.slice none 0 0] 23 (0, 0)) ∧ ((((W.setCell ⟨g, 0, none⟩ (.slice none 0 0)).setCell ⟨g + 1, 0, none⟩ (.int .i64 a)).setCell ⟨g + 2, 0, none⟩ (.int .i64 n)).drew).heap[g + 1]? = some (.cells #[.int .i64 a] 3 (0, 0)) ∧ ((((W.setCell ⟨g, 0, none⟩ (.slice none 0 0)).setCell ⟨g + 1, 0, none⟩ (.int .i64 a)).setCell ⟨g + 2, 0, none⟩ (.int .i64 n)).drew).heap[g + 2]? = some (.cells #[.int .i64 n] 24 (0, 0)) ∧ Fr [g, g + 1, g + 2] w ((((W.setCell ⟨g, 0, none⟩ (.slice none 0 0)).setCell ⟨g + 1, 0, none⟩ (.int .i64 a)).setCell ⟨g + 2, 0, none⟩ (.int .i64 n)).drew) :=
  ⟨blk_drew (blk_far (blk_far (blk_set (i := 0) K0.out _) (by simp) _) (by simp) _), blk_drew (blk_far (blk_set (i := 0) (blk_far K1.out (by simp) _) _) (by simp) _), blk_drew (blk_set (i := 0) (blk_far (blk_far K2.out (by simp) _) (by simp) _) _), (((KW.out.set _ (.inl (by simp))).set _ (.inl (by simp))).set _ (.inl (by simp))).drew⟩
 have HR := Lib.hid hR
 clear hR
 change bodyPostS Tryz.prog Tryz.f10 _ _ _ _ _ _ _
 simp [bodyPostS, results, Tryz.results10]
 first | exact HR.out | exact ⟨_, by cases c₀; cases hu; rfl, rfl, HR.out⟩
def RMap (D : DataW Unit) (f : ByteArray → Int) : Prop := ∀ s : ByteArray, D.atKey (.string s.data.toList) (.lit (.int .i64 0)) = .lit (.int .i64 (f s))
theorem rmap_nil : RMap (.map []) (fun _ => 0) := fun s => rfl
theorem rmap_put {D : DataW Unit} {f : ByteArray → Int} (h : RMap D f) (hD : Maps.IsMap D) (x : ByteArray) (v : Int) : RMap (D.put (.string x.data.toList) (.lit (.int .i64 v))) (fun s => if s = x then v else f s) := by
 intro s
 by_cases e : s = x
 ·subst e
  rw [Maps.atKey_put_same hD (show WideAt.IsKeyLit (.string s.data.toList) from trivial)]
  dsimp only
  rw [if_pos rfl]
 ·have hne : Lit.string s.data.toList ≠ Lit.string x.data.toList := fun k => e (ByteArray.ext (Array.toList_inj.1 (by injection k)))
  rw [Maps.atKey_put_other hne, h s]
  dsimp only
  rw [if_neg e]
theorem map_put {w : World} {mb n : Nat} {D : DataW Unit} {f : ByteArray → Int} (h : w.ownsMap Tryz.prog 9 (plainElem Tryz.prog 3) mb n D) (hf : RMap D f) (hn : n < maxLen) (s : ByteArray) (hs : s.size ≤ maxLen) (v : Int) (hv : (Lit.int .i64 v).wf = true) :
  ∃ w' D', (Instr.mapUpdate 42 (.map (some mb)) (.string s) (.int .i64 v)).run Tryz.prog w = .ok () w' ∧ w'.ownsMap Tryz.prog 9 (plainElem Tryz.prog 3) mb (n + 1) D' ∧ RMap D' (fun x => if x = s then v else f x) ∧ w.grownBy w' (some mb) := by
 obtain ⟨w', h1, h2, h3⟩ := h.update lawS Tryz.underlying42 hn (name_key hs) (plainElem_int (H := Unit) Tryz.underlying3 hv)
 exact ⟨w', _, h1, h2, rmap_put hf h.isMap s v, h3⟩
def rk0 : ByteArray → Int := fun _ => 0
def rk1 : ByteArray → Int := fun s => if s = ⟨#[111, 114]⟩ then 1 else rk0 s
def rk2 : ByteArray → Int := fun s => if s = ⟨#[97, 110, 100]⟩ then 2 else rk1 s
def rk3 : ByteArray → Int := fun s => if s = ⟨#[46, 46]⟩ then 4 else rk2 s
def rk4 : ByteArray → Int := fun s => if s = ⟨#[43]⟩ then 5 else rk3 s
def rk5 : ByteArray → Int := fun s => if s = ⟨#[45]⟩ then 5 else rk4 s
def rk6 : ByteArray → Int := fun s => if s = ⟨#[42]⟩ then 6 else rk5 s
def rk7 : ByteArray → Int := fun s => if s = ⟨#[47, 47]⟩ then 6 else rk6 s
def rk8 : ByteArray → Int := fun s => if s = ⟨#[37]⟩ then 6 else rk7 s
def cmps : List ByteArray := [⟨#[61, 61]⟩, ⟨#[126, 61]⟩, ⟨#[60]⟩, ⟨#[60, 61]⟩, ⟨#[62]⟩, ⟨#[62, 61]⟩]
def rkL : Nat → ByteArray → Int
 | 0 => rk8
 | k + 1 => fun s => if s = (cmps[k]?).getD ⟨#[]⟩ then 3 else rkL k s
theorem rk_all (s : ByteArray) : rkL 6 s = (rankL s : Int) := by
 unfold rankL inB
 simp only [rkL, cmps, rk8, rk7, rk6, rk5, rk4, rk3, rk2, rk1, rk0, List.getElem?_cons_succ, List.getElem?_cons_zero, Option.getD_some, List.any_cons, List.any_nil, Bool.or_false, Bool.or_eq_true, decide_eq_true_eq]
 by_cases h0 : s = ⟨#[111, 114]⟩
 ·subst h0; decide
 by_cases h1 : s = ⟨#[97, 110, 100]⟩
 ·subst h1; decide
 by_cases h2 : s = ⟨#[46, 46]⟩
 ·subst h2; decide
 by_cases h3 : s = ⟨#[43]⟩
 ·subst h3; decide
 by_cases h4 : s = ⟨#[45]⟩
 ·subst h4; decide
 by_cases h5 : s = ⟨#[42]⟩
 ·subst h5; decide
 by_cases h6 : s = ⟨#[47, 47]⟩
 ·subst h6; decide
 by_cases h7 : s = ⟨#[37]⟩
 ·subst h7; decide
 by_cases h8 : s = ⟨#[61, 61]⟩
 ·subst h8; decide
 by_cases h9 : s = ⟨#[126, 61]⟩
 ·subst h9; decide
 by_cases h10 : s = ⟨#[60]⟩
 ·subst h10; decide
 by_cases h11 : s = ⟨#[60, 61]⟩
 ·subst h11; decide
 by_cases h12 : s = ⟨#[62]⟩
 ·subst h12; decide
 by_cases h13 : s = ⟨#[62, 61]⟩
 ·subst h13; decide
 simp only [h0, h1, h2, h3, h4, h5, h6, h7, h8, h9, h10, h11, h12, h13, false_or, or_false, if_false]
 rfl
theorem Reads.set1 {w : World} {B b : Nat} {A : Option Addr} {xs : List Value} {v u : Value} {T : TypeId} {fr : Nat × Nat} (h : Reads w B A xs) (hx : 2 ≤ xs.length) (hb : w.heap[b]? = some (.cells #[v] T fr)) : Reads (w.setCell ⟨b, 0, none⟩ u) B A xs := by
 rcases h with h | ⟨ad, h1, h2, h3⟩
 ·rw [h] at hx; simp at hx
 have hne : ad.block ≠ b := fun e => by
  have h4 := h3 1 xs[1] (List.getElem?_eq_getElem hx)
  have e1 : ad.add 1 = ⟨ad.block, ad.off + 1, none⟩ := rfl
  rw [e1, e] at h4
  simp [World.cell?, hb] at h4
 refine .inr ⟨ad, h1, h2, fun j u' hu => ?_⟩
 rw [← h3 j u' hu]
 unfold World.cell?
 rw [block_add', Below.heap_setCell _ _ _ _ hne]
def ParseOut (s : ByteArray) (w : World) (e : Ending) (w' : World) : Prop := Below w.heap.size w w' ∧
 match parseL s.data.toList with
 | .inl (p, er) => p ≤ s.size ∧ er ≠ 0 ∧ e = .returned (.tuple #[.slice none 0 0, .int .i64 (p : Int), .int .i64 (er : Int)])
 | .inr t => ∃ A c l, e = .returned (.tuple #[.slice A l.length c, .int .i64 0, .int .i64 0]) ∧ l.map NdM.nd = flat 0 t ∧ NodesR w' w'.heap.size A l
def parseR : Res PT → (Nat × Nat) ⊕ PT
 | .bad a e => .inl (a, e)
 | .ok t _ => if 50000 < ptS t then .inl (0, 2) else if 200 < deepT t then .inl (0, 61) else .inr t
theorem parseL_of {L : List UInt8} {T : List Tok} {r : Res PT} (h : scanL L = .inr T) (hX : progF T (roundsF T) = some r) : parseL L = parseR r := by
 unfold parseL
 rw [h]
 simp only
 rw [hX]
 cases r <;> rfl
def ParseW (w : World) : Prop := SpW w ∧ (∃ m, MaxC w m) ∧ Tab w
theorem ParseW.below {w w' : World} (h : ParseW w) (hb : Below w.heap.size w w') : ParseW w' := ⟨h.1.below hb, h.2.1.imp fun m hm => hm.below hb, h.2.2.below hb⟩
theorem below_blk' {B : Nat} {w w' : World} {b : Nat} {ob : Obj} (hb : Below B w w') (h : w.heap[b]? = some ob) (hl : b < B) : w'.heap[b]? = some ob := (hb.block b hl).trans h
theorem tab_glt {w : World} (h : Tab w) : 2 < w.heap.size := by
 unfold Tab Lib.TabIs World.var? at h
 rw [g_pow10] at h
 simp only [Option.bind_some] at h
 cases hb : w.heap[2]? with
 | none => rw [hb] at h; simp at h
 | some ob => exact blk_lt hb
set_option maxRecDepth 100000 in
theorem parse_any (s : ByteArray) (hs : s.size ≤ 5000) (w : World) (hw : ParseW w) : Calls Tryz.prog 6 #[.string s] w (ParseOut s w) := by
 obtain ⟨hsp, ⟨m, hm⟩, htab⟩ := hw
 have HSP := Lib.hid hsp
 have HM := Lib.hid hm
 have HT := Lib.hid htab
 clear hsp hm htab
 have hmf : ∀ (fn : Fn) (first cap : Array Value) (w : World), (Instr.makeFunc fn first cap).run Tryz.prog w = .ok (.func fn first cap) w := fun _ _ _ _ => rfl
 obtain ⟨b0, hb0⟩ : ∃ b, b = w.heap.size := ⟨_, rfl⟩
 obtain ⟨W, hW⟩ : ∃ W, W = ((w.alloc (.cells #[.slice none 0 0] 23)).alloc (.cells #[.int .i64 0] 3)).alloc (.cells #[.int .i64 0] 24) := ⟨_, rfl⟩
 have K0 := Lib.hid (show W.heap[b0]? = some (.cells #[.slice none 0 0] 23 (0, 0)) by rw [hW, hb0]; exact blk_alloc (blk_alloc (heap_new_at _ _ _ rfl) _) _)
 have K1 := Lib.hid (show W.heap[b0 + 1]? = some (.cells #[.int .i64 0] 3 (0, 0)) by rw [hW, hb0]; exact blk_alloc (heap_new_at _ _ _ (by simp)) _)
 have K2 := Lib.hid (show W.heap[b0 + 2]? = some (.cells #[.int .i64 0] 24 (0, 0)) by rw [hW, hb0]; exact heap_new_at _ _ _ (by simp))
 have KB := Lib.hid (show Below w.heap.size w W by rw [hW]; exact (((Below.refl _ _).alloc (Nat.le_refl _) _).alloc (by simp) _).alloc (by simp; omega) _)
 have HB0 := Lib.hid hb0
 have HWW := Lib.hid hW
 clear hW
 go_enter_defers Tryz.func6, Tryz.ntmps6
 go_wp2_with fail
 rw [← hb0, ← HWW.out]
 refine (scan_any s m W (HSP.out.below KB.out) (HM.out.below KB.out)).mono ?_
 rintro e w1 ⟨hB1, h1⟩
 have H1 := Lib.hid hB1
 have K0a := Lib.hid (below_blk hB1 K0.out)
 have K1a := Lib.hid (below_blk hB1 K1.out)
 have K2a := Lib.hid (below_blk hB1 K2.out)
 have KBa := Lib.hid (KB.out.trans (hB1.mono KB.out.size))
 clear hB1 hb0
 rcases h1 with ⟨h1, -⟩ | ⟨-, p, er, h1, rfl⟩ | ⟨-, toks, A, c, h1, rfl, h2, h3, h4⟩
 ·omega
 ·have v0 := cell_of_blk (i := 0) K0a.out rfl
  have v1 := cell_of_blk (i := 0) K1a.out rfl
  have v2 := cell_of_blk (i := 0) K2a.out rfl
  have f1 : w1.frozen? ⟨b0 + 1, 0, none⟩ = false := free_of_blk K1a.out
  have f2 : w1.frozen? ⟨b0 + 1 + 1, 0, none⟩ = false := free_of_blk K2a.out
  have l0 := blk_lt K0a.out
  have l1 := blk_lt K1a.out
  have l2 : b0 + 1 + 1 < w1.heap.size := blk_lt K2a.out
  have hsc := scanL_err h1
  have hsl : s.data.toList.length = s.size := by simp
  have HPL := Lib.hid (show parseL s.data.toList = .inl (p, er) by unfold parseL; rw [h1])
  have HPE := Lib.hid (show p ≤ s.size ∧ er ≠ 0 by have := hsc.1; have := hsc.2; omega)
  have hne : ((er : Int) != 0) = true := bne_iff_ne.2 (by have := HPE.out.2; omega)
  clear h1 hsc hsl
  go_upto_region 2 with fail
  refine gen_wpT fun W2 hW2 => ?_
  have J0 := Lib.hid (show W2.heap[b0]? = some (.cells #[.slice none 0 0] 23 (0, 0)) by rw [← hW2]; exact blk_far (blk_far K0a.out (by simp) _) (by simp <;> omega) _)
  have J1 := Lib.hid (show W2.heap[b0 + 1]? = some (.cells #[.int .i64 (p : Int)] 3 (0, 0)) by rw [← hW2]; exact blk_far (blk_set (i := 0) K1a.out _) (by simp) _)
  have J2 := Lib.hid (show W2.heap[b0 + 1 + 1]? = some (.cells #[.int .i64 (er : Int)] 24 (0, 0)) by rw [← hW2]; exact blk_set (i := 0) (blk_far K2a.out (by simp) _) _)
  have JB := Lib.hid (show Below w.heap.size w W2 by rw [← hW2]; exact (KBa.out.setCell (by rw [← HB0.out]; simp) _).setCell (by rw [← HB0.out]; simp; omega) _)
  clear hW2 v0 v1 v2 f1 f2 l0 l1 l2
  have v0 := cell_of_blk (i := 0) J0.out rfl
  have v1 := cell_of_blk (i := 0) J1.out rfl
  have v2 := cell_of_blk (i := 0) J2.out rfl
  have f0 : W2.frozen? ⟨b0, 0, none⟩ = false := free_of_blk J0.out
  have f1 : W2.frozen? ⟨b0 + 1, 0, none⟩ = false := free_of_blk J1.out
  have f2 : W2.frozen? ⟨b0 + 1 + 1, 0, none⟩ = false := free_of_blk J2.out
  have l0 := blk_lt J0.out
  have l1 := blk_lt J1.out
  have l2 : b0 + 1 + 1 < W2.heap.size := blk_lt J2.out
  go_upto_region 3 with fail
  go_region
  refine gen_K (P := Exit.then _ _ _ _) fun W3 hW3 => ?_
  have I0 := Lib.hid (show W3.heap[b0]? = some (.cells #[.slice none 0 0] 23 (0, 0)) by rw [← hW3]; exact blk_drew (blk_far (blk_far (blk_set (i := 0) J0.out _) (by simp) _) (by simp <;> omega) _))
  have I1 := Lib.hid (show W3.heap[b0 + 1]? = some (.cells #[.int .i64 (p : Int)] 3 (0, 0)) by rw [← hW3]; exact blk_drew (blk_far (blk_set (i := 0) (blk_far J1.out (by simp) _) _) (by simp) _))
  have I2 := Lib.hid (show W3.heap[b0 + 1 + 1]? = some (.cells #[.int .i64 (er : Int)] 24 (0, 0)) by rw [← hW3]; exact blk_drew (blk_set (i := 0) (blk_far (blk_far J2.out (by simp <;> omega) _) (by simp) _) _))
  have HFIN := Lib.hid (show ParseOut s w (.returned (.tuple #[.slice none 0 0, .int .i64 (p : Int), .int .i64 (er : Int)])) W3 from ⟨by rw [← hW3]; exact (((JB.out.setCell (by rw [← HB0.out]; exact Nat.le_refl _) _).setCell (by rw [← HB0.out]; simp) _).setCell (by rw [← HB0.out]; simp; omega) _).drew, by rw [HPL.out]; exact ⟨HPE.out.1, HPE.out.2, rfl⟩⟩)
  clear hW3 v0 v1 v2 f0 f1 f2 l0 l1 l2
  have j0 := cell_of_blk (i := 0) I0.out rfl
  have j1 := cell_of_blk (i := 0) I1.out rfl
  have j2 := cell_of_blk (i := 0) I2.out rfl
  go_wp2
  simp [bodyPostD, Leaves, settle, results, Tryz.results6, go_sem, j0, j1, j2]
  exact HFIN.out
 ·have v0 := cell_of_blk (i := 0) K0a.out rfl
  have v1 := cell_of_blk (i := 0) K1a.out rfl
  have v2 := cell_of_blk (i := 0) K2a.out rfl
  have f1 : w1.frozen? ⟨b0 + 1, 0, none⟩ = false := free_of_blk K1a.out
  have f2 : w1.frozen? ⟨b0 + 1 + 1, 0, none⟩ = false := free_of_blk K2a.out
  have l0 := blk_lt K0a.out
  have l1 := blk_lt K1a.out
  have l2 : b0 + 1 + 1 < w1.heap.size := blk_lt K2a.out
  have HTK := Lib.hid (scan_tok h1)
  have HSC := Lib.hid h1
  have hne := HTK.out.1.len
  have hxs : 2 ≤ (toks.flatMap tkEnc).length := by
   cases toks with
   | nil => exact absurd hne (by simp)
   | cons t0 r0 => rw [List.flatMap_cons, List.length_append, tkEnc_len]; omega
  have HRD := Lib.hid (show Reads ((w1.setCell ⟨b0 + 1, 0, none⟩ (.int .i64 0)).setCell ⟨b0 + 1 + 1, 0, none⟩ (.int .i64 0)) w1.heap.size A (toks.flatMap tkEnc) from (h2.set1 hxs K1a.out).set1 hxs (blk_far K2a.out (by simp) _))
  clear hne hxs
  have HLN := Lib.hid h4
  clear h1 h2 h3 h4
  go_upto_region 2 with fail
  refine gen_wpT fun W2 hW2 => ?_
  have J0 := Lib.hid (show W2.heap[b0]? = some (.cells #[.slice none 0 0] 23 (0, 0)) by rw [← hW2]; exact blk_far (blk_far K0a.out (by simp) _) (by simp <;> omega) _)
  have J1 := Lib.hid (show W2.heap[b0 + 1]? = some (.cells #[.int .i64 0] 3 (0, 0)) by rw [← hW2]; exact blk_far (blk_set (i := 0) K1a.out _) (by simp) _)
  have J2 := Lib.hid (show W2.heap[b0 + 1 + 1]? = some (.cells #[.int .i64 0] 24 (0, 0)) by rw [← hW2]; exact blk_set (i := 0) (blk_far K2a.out (by simp) _) _)
  have JB := Lib.hid (show Below w.heap.size w W2 by rw [← hW2]; exact (KBa.out.setCell (by rw [← HB0.out]; simp) _).setCell (by rw [← HB0.out]; simp; omega) _)
  have HRW := Lib.hid (show Reads W2 W2.heap.size A (toks.flatMap tkEnc) by rw [← hW2]; exact HRD.out.up (by simp))
  clear hW2 v0 v1 v2 f1 f2 l0 l1 l2
  have v2 := cell_of_blk (i := 0) J2.out rfl
  have l2 : b0 + 1 + 1 < W2.heap.size := blk_lt J2.out
  go_upto_region 5 with fail
  have hmm := @run_makeMap Tryz.prog
  obtain ⟨mb, hmb⟩ : ∃ b, b = W2.heap.size := ⟨_, rfl⟩
  have m0 := World.ownsMap_made (H := Unit) W2 Tryz.prog 9 (plainElem Tryz.prog 3)
  have q0 := rmap_nil
  have HMB := Lib.hid hmb
  clear hmb
  obtain ⟨x1, D1, r1, m1, q1, g1⟩ := map_put m0 q0 (by unfold maxLen; omega) ⟨#[111, 114]⟩ (by unfold maxLen; decide) 1 (by decide)
  obtain ⟨x2, D2, r2, m2, q2, g2⟩ := map_put m1 q1 (by unfold maxLen; omega) ⟨#[97, 110, 100]⟩ (by unfold maxLen; decide) 2 (by decide)
  obtain ⟨x3, D3, r3, m3, q3, g3⟩ := map_put m2 q2 (by unfold maxLen; omega) ⟨#[46, 46]⟩ (by unfold maxLen; decide) 4 (by decide)
  obtain ⟨x4, D4, r4, m4, q4, g4⟩ := map_put m3 q3 (by unfold maxLen; omega) ⟨#[43]⟩ (by unfold maxLen; decide) 5 (by decide)
  obtain ⟨x5, D5, r5, m5, q5, g5⟩ := map_put m4 q4 (by unfold maxLen; omega) ⟨#[45]⟩ (by unfold maxLen; decide) 5 (by decide)
  obtain ⟨x6, D6, r6, m6, q6, g6⟩ := map_put m5 q5 (by unfold maxLen; omega) ⟨#[42]⟩ (by unfold maxLen; decide) 6 (by decide)
  obtain ⟨x7, D7, r7, m7, q7, g7⟩ := map_put m6 q6 (by unfold maxLen; omega) ⟨#[47, 47]⟩ (by unfold maxLen; decide) 6 (by decide)
  obtain ⟨x8, D8, r8, m8, q8, g8⟩ := map_put m7 q7 (by unfold maxLen; omega) ⟨#[37]⟩ (by unfold maxLen; decide) 6 (by decide)
  go_upto_region 6 with fail
  have mbw : w.heap.size ≤ W2.heap.size := JB.out.size
  have hFR : Fr [mb] W2 x8 := by
   have e0 : ∀ g, some W2.heap.size = some g → g ∈ [mb] ∨ W2.heap.size ≤ g := fun g e => .inr (Nat.le_of_eq (Option.some.inj e))
   exact (((((((((Fr.refl [mb] W2).alloc _).grown g1 e0).grown g2 e0).grown g3 e0).grown g4 e0).grown g5 e0).grown g6 e0).grown g7 e0).grown g8 e0
  rw [← HMB.out] at m8 mbw ⊢
  have HM8 := Lib.hid m8
  have HQ8 := Lib.hid (show RMap D8 (rkL 0) from q8)
  have HMW := Lib.hid (show w.heap.size ≤ mb from mbw)
  have hbm : ∀ b ob, W2.heap[b]? = some ob → b ∉ [mb] := fun b ob hb e => by have := blk_lt hb; rw [List.mem_singleton.1 e, HMB.out] at this; exact Nat.lt_irrefl _ this
  have I0 := Lib.hid (hFR.blk J0.out (hbm _ _ J0.out))
  have I1 := Lib.hid (hFR.blk J1.out (hbm _ _ J1.out))
  have I2 := Lib.hid (hFR.blk J2.out (hbm _ _ J2.out))
  have HB8 := Lib.hid (show Below w.heap.size w x8 from JB.out.trans (hFR.to_below JB.out.size (fun b hb => by rw [List.mem_singleton.1 hb]; exact mbw)))
  have HF8 := Lib.hid (show Fr [mb] W2 x8 from hFR)
  clear hmm r1 r2 r3 r4 r5 r6 r7 r8 m0 m1 m2 m3 m4 m5 m6 m7 m8 q0 q1 q2 q3 q4 q5 q6 q7 q8 g1 g2 g3 g4 g5 g6 g7 g8 hFR hbm mbw v2 l2
  go_wp2_with fail
  go_loopw [26] (fun i wr => ∃ (k : Nat) (D9 : DataW Unit), k ≤ 6 ∧ i = .int .i64 (k : Int) ∧ Hid (Fr [mb] x8 wr) ∧ Hid (wr.heap[x8.heap.size]? = some (.cells (cmps.map Value.string).toArray 9 (0, 0))) ∧ wr.ownsMap Tryz.prog 9 (plainElem Tryz.prog 3) mb (8 + k) D9 ∧ Hid (RMap D9 (rkL k))) (fun i wr => 6 - (intOf i).toNat)
  case atStart => exact ⟨0, D8, by omega, rfl, Lib.hid ((Fr.refl _ _).alloc _), Lib.hid (heap_new_at _ _ _ rfl), HM8.out.alloc _, HQ8⟩
  case round =>
   obtain ⟨k, D9, hk, rfl, HFR, HC, hM, HN⟩ := hrel
   by_cases hlt : k < 6
   ·obtain ⟨x, hx⟩ : ∃ x, cmps[k]? = some x := ⟨_, List.getElem?_eq_getElem (by exact hlt)⟩
    have hxs : x.size ≤ maxLen := by
     have := List.mem_of_getElem? hx
     simp [cmps] at this
     rcases this with rfl | rfl | rfl | rfl | rfl | rfl <;> (unfold maxLen; simp [ByteArray.size])
    have y0 : wr.cell? ⟨x8.heap.size, k, none⟩ = some (.string x) := cell_of_blk HC.out (by rw [List.getElem?_toArray, List.getElem?_map, hx]; rfl)
    have HN2 := Lib.hid (show RMap (D9.put (.string x.data.toList) (.lit (.int .i64 3))) (rkL (k + 1)) by
     have h9 := rmap_put HN.out hM.isMap x 3
     rw [show rkL (k + 1) = fun s => if s = x then 3 else rkL k s by rw [rkL, hx]; rfl]
     exact h9)
    have hk' : (k : Int) < 6 := by omega
    have hk0 : (0 : Int) ≤ (k : Int) := by omega
    have hlw := blk_lt HC.out
    have HNE := Lib.hid (show x8.heap.size ∉ [mb] from fun e => by
     have h9 : mb < x8.heap.size := by obtain ⟨es, clock, hb, r⟩ := HM8.out; exact blk_lt hb
     rw [List.mem_singleton] at e
     omega)
    clear hx
    go_wp2_with (at_mapUpdate; refine wpList_mapUpdate_own _ rfl _ _ _ 42 rfl 9 3 lawS Tryz.underlying42 _ mb (8 + k) D9 rfl hM (by unfold maxLen; omega) _ _ _ rfl rfl (name_key hxs) _ [] (plainElem_int Tryz.underlying3 (by decide)) ?_; intro w3 hm3 hg3)
    go_roundw
    case rel =>
     have hf3 : Fr [mb] wr w3 := (Fr.refl [mb] wr).grown hg3 (fun g e => .inl (by rw [Option.some.inj e]; simp))
     exact ⟨k + 1, _, by omega, by go_num, Lib.hid (HFR.out.grown hg3 (fun g e => .inl (by rw [Option.some.inj e]; simp))), Lib.hid (hf3.blk HC.out HNE.out), hm3, HN2⟩
    case measure => simp [intOf]; omega
   ·obtain rfl : k = 6 := by omega
    have HRK := Lib.hid (show RankOk D9 from fun x => by rw [HN.out x, rk_all])
    have HMR := Lib.hid hM
    have HBR := Lib.hid (show Below w.heap.size w wr from HB8.out.trans (HFR.out.to_below HB8.out.size (fun b hb => by rw [List.mem_singleton.1 hb]; exact HMW.out)))
    clear hM
    have HBW2 := Lib.hid (show Below W2.heap.size W2 wr from (HF8.out.trans HFR.out (fun b hb => .inl hb)).to_below (Nat.le_refl _) (fun b hb => by rw [List.mem_singleton.1 hb, HMB.out]; exact Nat.le_refl _))
    have hbr : ∀ b ob, x8.heap[b]? = some ob → b ≠ mb → wr.heap[b]? = some ob := fun b ob hb hne => HFR.out.blk hb (fun e => hne (List.mem_singleton.1 e))
    have nm : ∀ b ob, W2.heap[b]? = some ob → b ≠ mb := fun b ob hb e => by have := blk_lt hb; rw [e, HMB.out] at this; exact Nat.lt_irrefl _ this
    have R0 := Lib.hid (hbr _ _ I0.out (nm _ _ J0.out))
    have R1 := Lib.hid (hbr _ _ I1.out (nm _ _ J1.out))
    have R2 := Lib.hid (hbr _ _ I2.out (nm _ _ J2.out))
    clear hbr nm
    go_upto_region 12 with fail
    obtain ⟨p, hp⟩ : ∃ p, p = wr.heap.size := ⟨_, rfl⟩
    rw [← hp]
    refine gen_wpT fun Wp hWp => ?_
    obtain ⟨K, hK⟩ : ∃ K : PaK, K = ⟨toks, A, c, s.data.toList.length, mb, 8 + 6, D9⟩ := ⟨_, rfl⟩
    have hsl : s.data.toList.length = s.size := by simp
    have HBP := Lib.hid (show Below wr.heap.size wr Wp by rw [← hWp]; exact (Below.refl _ _).alloc (Nat.le_refl _) _)
    have HBK := Lib.hid (show Wp.heap[p]? = some (PaBlk K 0 0 (.slice none 0 0) (fun _ => false)) by rw [← hWp, hK]; exact heap_new_at _ _ _ hp.symm)
    have HWB := Lib.hid (show Below w.heap.size w Wp from HBR.out.trans (HBP.out.mono HBR.out.size))
    have HPW := Lib.hid (show w.heap.size ≤ p by rw [hp]; exact HBR.out.size)
    have HPA := Lib.hid (show PaAt K Wp p 0 0 (fun _ => false) [] [p] from ⟨⟨by rw [hK]; exact HTK.out.1, by rw [hK]; have := HTK.out.2.1; show toks.length ≤ 200000; omega, fun i => by rw [hK]; have := HTK.out.2.2.1 i; show (tk toks i).text.size ≤ 200000; omega,
     by rw [hK]; exact ((HRW.out.below HBW2.out).below (HBP.out.mono HBW2.out.size)).up (by rw [hp]; exact HBW2.out.size), by rw [hK]; show mb < p; rw [hp]; obtain ⟨es, clock, hb, r⟩ := HMR.out; exact blk_lt hb,
     by rw [hK, ← hWp]; exact HMR.out.alloc _, by rw [hK]; exact HRK.out, blk_lt HBK.out, HT.out.below HWB.out, Nat.lt_of_lt_of_le (tab_glt HT.out) HPW.out, ⟨m, HM.out.below HWB.out⟩, Nat.lt_of_lt_of_le HM.out.2 HPW.out⟩,
     _, [], HBK.out, World.ownsRow_nil _ _ _ _, rfl, fun x hx => by simp at hx, by simp, fun g hg => by simp [Value.ownBlock] at hg, fun x hx => by simp at hx, fun b hb => by rw [List.mem_singleton.1 hb]; exact ⟨Nat.le_refl _, blk_lt HBK.out⟩⟩)
    have hgp := good_prog HTK.out.1
    have g0 := below_blk HBP.out R0.out
    have g1 := below_blk HBP.out R1.out
    have g2 := below_blk HBP.out R2.out
    have HG0 := Lib.hid g0
    have HG1 := Lib.hid g1
    have HG2 := Lib.hid g2
    have HBL := Lib.hid (show b0 < p ∧ b0 + 1 < p ∧ b0 + 1 + 1 < p by rw [hp]; exact ⟨blk_lt R0.out, blk_lt R1.out, blk_lt R2.out⟩)
    clear g0 g1 g2 hWp hp
    obtain ⟨X, hX⟩ : ∃ X, progF toks (roundsF toks) = X := ⟨_, rfl⟩
    rw [hX] at hgp
    cases X with
    | none => exact absurd hgp (by simp [Sat])
    | some r =>
    have HPR := Lib.hid (walk_program (F := roundsF toks) HPA.out ⟨by rw [hK]; exact HTK.out.1.len, by rw [hK]; have := HTK.out.2.1; simp; omega⟩ rfl (by decide) (fun k => by simp) (r := r) (by rw [hK]; exact hX))
    have HPL0 := Lib.hid (show parseL s.data.toList = parseR r from parseL_of HSC.out hX)
    have HGP := Lib.hid hgp
    clear hX hgp hK
    go_wp2_with fail
    refine HPR.out.mono ?_
    cases r with
    | bad a n =>
     rintro e wf ⟨rfl, hb⟩
     have HGB := Lib.hid (show Below w.heap.size w wf from HWB.out.trans (hb.mono HPW.out))
     have G0 := Lib.hid (below_blk' hb HG0.out HBL.out.1)
     have G1 := Lib.hid (below_blk' hb HG1.out HBL.out.2.1)
     have G2 := Lib.hid (below_blk' hb HG2.out HBL.out.2.2)
     have HPL := Lib.hid (show parseL s.data.toList = .inl (a, n) from HPL0.out)
     have HPE := Lib.hid (show a ≤ s.size ∧ n ≠ 0 by have h9 : ErrP s.data.toList.length a n := HGP.out; rw [hsl] at h9; exact ⟨h9.1, by have := h9.2; omega⟩)
     clear hb
     unfold wrongP
     go_wp2
     refine leaves_cons (f := 10) (args := #[.pointer (some ⟨b0, 0, none⟩), .pointer (some ⟨b0 + 1, 0, none⟩), .pointer (some ⟨b0 + 2, 0, none⟩)]) (by simp) (by simp [go_sem]) ?_
     refine (prec_panic b0 (.slice none 0 0) 0 0 a n _ G0.out G1.out G2.out).mono ?_
     rintro e u' w3 ⟨rfl, rfl, k0, k1, k2, hF⟩
     have j0 := cell_of_blk (i := 0) k0 rfl
     have j1 := cell_of_blk (i := 0) k1 rfl
     have j2 := cell_of_blk (i := 0) k2 rfl
     have HFIN := Lib.hid (show ParseOut s w (.returned (.tuple #[.slice none 0 0, .int .i64 (a : Int), .int .i64 (n : Int)])) w3 from ⟨HGB.out.trans (hF.to_below HGB.out.size (by intro b hb; have := HB0.out; simp at hb; omega)), by rw [HPL.out]; exact ⟨HPE.out.1, HPE.out.2, rfl⟩⟩)
     clear k0 k1 k2 hF
     simp [Leaves, settle, results, Tryz.results6, go_sem, j0, j1, j2]
     exact HFIN.out
    | ok t j =>
     rintro e wf ⟨hb, he⟩
     have HGB := Lib.hid (show Below w.heap.size w wf from HWB.out.trans (hb.mono HPW.out))
     have G0 := Lib.hid (below_blk' hb HG0.out HBL.out.1)
     have G1 := Lib.hid (below_blk' hb HG1.out HBL.out.2.1)
     have G2 := Lib.hid (below_blk' hb HG2.out HBL.out.2.2)
     clear hb
     by_cases hbig : 50000 < ptS t
     ·rw [if_pos hbig] at he
      have HPL := Lib.hid (show parseL s.data.toList = .inl (0, 2) by rw [HPL0.out]; exact if_pos hbig)
      have HPE := Lib.hid (show 0 ≤ s.size ∧ 2 ≠ 0 from ⟨Nat.zero_le _, by decide⟩)
      subst he
      unfold wrongP
      go_wp2
      refine leaves_cons (f := 10) (args := #[.pointer (some ⟨b0, 0, none⟩), .pointer (some ⟨b0 + 1, 0, none⟩), .pointer (some ⟨b0 + 2, 0, none⟩)]) (by simp) (by simp [go_sem]) ?_
      refine (prec_panic b0 (.slice none 0 0) 0 0 (0 : Nat) (2 : Nat) _ G0.out G1.out G2.out).mono ?_
      rintro e u' w3 ⟨rfl, rfl, k0, k1, k2, hF⟩
      have j0 := cell_of_blk (i := 0) k0 rfl
      have j1 := cell_of_blk (i := 0) k1 rfl
      have j2 := cell_of_blk (i := 0) k2 rfl
      have HFIN := Lib.hid (show ParseOut s w (.returned (.tuple #[.slice none 0 0, .int .i64 ((0 : Nat) : Int), .int .i64 ((2 : Nat) : Int)])) w3 from ⟨HGB.out.trans (hF.to_below HGB.out.size (by intro b hb; have := HB0.out; simp at hb; omega)), by rw [HPL.out]; exact ⟨HPE.out.1, HPE.out.2, rfl⟩⟩)
      clear k0 k1 k2 hF
      simp [Leaves, settle, results, Tryz.results6, go_sem, j0, j1, j2]
      exact HFIN.out
     ·rw [if_neg hbig] at he
      by_cases hdp : 200 < deepT t
      ·rw [if_pos hdp] at he
       have HPL := Lib.hid (show parseL s.data.toList = .inl (0, 61) by rw [HPL0.out]; exact (if_neg hbig).trans (if_pos hdp))
       have HPE := Lib.hid (show 0 ≤ s.size ∧ 61 ≠ 0 from ⟨Nat.zero_le _, by decide⟩)
       subst he
       unfold wrongP
       go_wp2
       refine leaves_cons (f := 10) (args := #[.pointer (some ⟨b0, 0, none⟩), .pointer (some ⟨b0 + 1, 0, none⟩), .pointer (some ⟨b0 + 2, 0, none⟩)]) (by simp) (by simp [go_sem]) ?_
       refine (prec_panic b0 (.slice none 0 0) 0 0 (0 : Nat) (61 : Nat) _ G0.out G1.out G2.out).mono ?_
       rintro e u' w3 ⟨rfl, rfl, k0, k1, k2, hF⟩
       have j0 := cell_of_blk (i := 0) k0 rfl
       have j1 := cell_of_blk (i := 0) k1 rfl
       have j2 := cell_of_blk (i := 0) k2 rfl
       have HFIN := Lib.hid (show ParseOut s w (.returned (.tuple #[.slice none 0 0, .int .i64 ((0 : Nat) : Int), .int .i64 ((61 : Nat) : Int)])) w3 from ⟨HGB.out.trans (hF.to_below HGB.out.size (by intro b hb; have := HB0.out; simp at hb; omega)), by rw [HPL.out]; exact ⟨HPE.out.1, HPE.out.2, rfl⟩⟩)
       clear k0 k1 k2 hF
       simp [Leaves, settle, results, Tryz.results6, go_sem, j0, j1, j2]
       exact HFIN.out
      ·rw [if_neg hdp] at he
       obtain ⟨A9, c9, l9, rfl, e1, e2⟩ := he
       have HPL := Lib.hid (show parseL s.data.toList = .inr t by rw [HPL0.out]; exact (if_neg hbig).trans (if_neg hdp))
       have HEE := Lib.hid (And.intro e1 e2)
       clear e1 e2
       have v0 := cell_of_blk (i := 0) G0.out rfl
       have v1 := cell_of_blk (i := 0) G1.out rfl
       have v2 := cell_of_blk (i := 0) G2.out rfl
       have f0 : wf.frozen? ⟨b0, 0, none⟩ = false := free_of_blk G0.out
       have f1 : wf.frozen? ⟨b0 + 1, 0, none⟩ = false := free_of_blk G1.out
       have f2 : wf.frozen? ⟨b0 + 1 + 1, 0, none⟩ = false := free_of_blk G2.out
       have l0 := blk_lt G0.out
       have l1 := blk_lt G1.out
       have l2 : b0 + 1 + 1 < wf.heap.size := blk_lt G2.out
       obtain ⟨We, hWe⟩ : ∃ We, We = (((wf.setCell ⟨b0, 0, none⟩ (.slice A9 l9.length c9)).setCell ⟨b0 + 1, 0, none⟩ (.int .i64 0)).setCell ⟨b0 + 1 + 1, 0, none⟩ (.int .i64 0)) := ⟨_, rfl⟩
       have E0 := Lib.hid (show We.heap[b0]? = some (.cells #[.slice A9 l9.length c9] 23 (0, 0)) by rw [hWe]; exact blk_far (blk_far (blk_set (i := 0) G0.out _) (by simp) _) (by simp <;> omega) _)
       have E1 := Lib.hid (show We.heap[b0 + 1]? = some (.cells #[.int .i64 0] 3 (0, 0)) by rw [hWe]; exact blk_far (blk_set (i := 0) (blk_far G1.out (by simp) _) _) (by simp) _)
       have E2 := Lib.hid (show We.heap[b0 + 1 + 1]? = some (.cells #[.int .i64 0] 24 (0, 0)) by rw [hWe]; exact blk_set (i := 0) (blk_far (blk_far G2.out (by simp <;> omega) _) (by simp) _) _)
       have HFIN := Lib.hid (show ParseOut s w (.returned (.tuple #[.slice A9 l9.length c9, .int .i64 0, .int .i64 0])) We from ⟨by rw [hWe]; exact ((HGB.out.setCell (by rw [← HB0.out]; exact Nat.le_refl _) _).setCell (by rw [← HB0.out]; simp) _).setCell (by rw [← HB0.out]; simp; omega) _, by rw [HPL.out]; exact ⟨A9, c9, l9, rfl, HEE.out.1, HEE.out.2 We (by rw [hWe]; simp) (fun b h1 h2 => by rw [hWe]; have h3 := HBL.out; rw [Below.heap_setCell _ _ _ _ (by simp; omega), Below.heap_setCell _ _ _ _ (by simp; omega), Below.heap_setCell _ _ _ _ (by simp; omega)])⟩⟩)
       have HWE := Lib.hid hWe
       clear hWe
       have j0 := cell_of_blk (i := 0) E0.out rfl
       have j1 := cell_of_blk (i := 0) E1.out rfl
       have j2 := cell_of_blk (i := 0) E2.out rfl
       have J0 := Lib.hid j0
       have J1 := Lib.hid j1
       have J2 := Lib.hid j2
       clear j0 j1 j2
       go_wp2
       refine leaves_cons (f := 10) (args := #[.pointer (some ⟨b0, 0, none⟩), .pointer (some ⟨b0 + 1, 0, none⟩), .pointer (some ⟨b0 + 1 + 1, 0, none⟩)]) (by simp) (by simp [go_sem]) ?_
       refine (prec_idle b0 (b0 + 1) (b0 + 1 + 1) _).mono ?_
       rintro e u' w3 ⟨rfl, rfl, rfl⟩
       rw [← HWE.out]
       simp [Leaves, settle, results, Tryz.results6, go_sem, J0.out, J1.out, J2.out]
       exact HFIN.out
end Go.Proofs.YthobobmbileekaaGreatDoor
namespace Go.Proofs.YthobobmbileekaaGreatDoor
open Go.ChangeShapes Go.WideShapes Go.ChangeAt Go.RowKit

def aw07a : ByteArray := ⟨#[119, 114, 105, 116, 101, 40, 48, 44, 32, 49, 32, 43, 32, 50, 32, 42, 32, 51, 41]⟩
def aw07b : ByteArray := ⟨#[120, 32, 61, 32, 61, 32, 49]⟩
def awF (r : (Nat × Nat) ⊕ PT) : Option (List (Int × ByteArray)) := match r with
 | .inl _ => none
 | .inr t => some ((flat 0 t).map fun x => (x.kind, x.text))
theorem aw07_1 : awF (parseL aw07a.data.toList) = some [(15, ⟨#[48]⟩), (15, ⟨#[49]⟩), (15, ⟨#[50]⟩), (15, ⟨#[51]⟩), (27, ⟨#[42]⟩), (27, ⟨#[43]⟩), (21, ⟨#[119, 114, 105, 116, 101]⟩), (7, ⟨#[]⟩), (3, ⟨#[]⟩), (1, ⟨#[]⟩)] := by kernel_rfl
theorem aw07_2 : parseL aw07b.data.toList = .inl (4, 70) := by kernel_rfl
theorem NodesR.up {w : World} {B : Nat} {A : Option Addr} {l : List NdM} (h : NodesR w B A l) : NodesR w w.heap.size A l := ⟨h.rd.up h.lo, fun x hx => (h.kd x hx).up h.lo, Nat.le_refl _, h.kc⟩
theorem parseL_few {s : List UInt8} {t : PT} (h : parseL s = .inr t) : ptS t ≤ 50000 ∧ deepT t ≤ 200 := by
 unfold parseL at h
 split at h
 ·simp at h
 ·split at h
  ·simp at h
  ·simp at h
  ·split at h
   ·simp at h
   ·split at h
    ·simp at h
    ·rename_i h1 h2
     obtain rfl := Sum.inr.inj h
     omega
theorem nodes_at {l : List NdM} {t : PT} (h : l.map NdM.nd = flat 0 t) {k : Nat} {c : Int} {x : ByteArray} (hk : ((flat 0 t).map fun x => (x.kind, x.text))[k]? = some (c, x)) : ∃ y, l[k]? = some y ∧ y.nd.kind = c ∧ y.nd.text = x := by
 rw [← h, List.map_map, List.getElem?_map] at hk
 cases hy : l[k]? with
 | none => rw [hy] at hk; simp at hk
 | some y =>
  rw [hy] at hk
  simp only [Option.map_some, Function.comp, Option.some.injEq, Prod.mk.injEq] at hk
  exact ⟨y, rfl, hk.1, hk.2⟩
set_option maxRecDepth 100000 in
theorem awake07_any (w : World) (hw : ParseW w) : Calls Tryz.prog 5 #[] w (RetB (.bool true) w) := by
 have H1 := Lib.hid (parse_any aw07a (by decide) w hw)
 have H2 := Lib.hid (fun w (h : ParseW w) => parse_any aw07b (by decide) w h)
 have HW := Lib.hid hw
 clear hw
 unfold aw07a at H1
 unfold aw07b at H2
 go_enter Tryz.func5, Tryz.ntmps5
 go_wp2_with fail
 refine H1.out.mono ?_
 rintro e w1 ⟨hb1, h1⟩
 have ha := aw07_1
 unfold aw07a at ha
 cases hp : parseL (⟨#[119, 114, 105, 116, 101, 40, 48, 44, 32, 49, 32, 43, 32, 50, 32, 42, 32, 51, 41]⟩ : ByteArray).data.toList with
 | inl q => rw [hp] at ha; exact absurd ha (by simp [awF])
 | inr t =>
 rw [hp] at ha h1
 obtain ⟨A, c, l, rfl, h2, h3⟩ := h1
 have hl := Option.some.inj ha
 have hlen : l.length = 10 := by
  have h9 := congrArg List.length hl
  rw [List.length_map, ← h2, List.length_map] at h9
  exact h9
 obtain ⟨y4, e4, k4, x4⟩ := nodes_at h2 (k := 4) (c := 27) (x := ⟨#[42]⟩) (by rw [hl]; rfl)
 obtain ⟨y9, e9, k9, x9⟩ := nodes_at h2 (k := 9) (c := 1) (x := ⟨#[]⟩) (by rw [hl]; rfl)
 rw [hlen]
 have HN := Lib.hid h3
 have HB1 := Lib.hid hb1
 have HE := Lib.hid (And.intro (And.intro e4 x4) (And.intro e9 k9))
 clear h2 h3 hb1 ha hl hlen hp e4 k4 x4 e9 k9 x9
 go_wp2_with fail
 refine (H2.out w1 (HW.out.below HB1.out)).mono ?_
 rintro e w2 ⟨hb2, h4⟩
 have ha2 := aw07_2
 unfold aw07b at ha2
 rw [ha2] at h4
 obtain ⟨-, -, rfl⟩ := h4
 have HN2 := Lib.hid (HN.out.below hb2)
 have HB2 := Lib.hid (HB1.out.trans (hb2.mono HB1.out.size))
 clear hb2 ha2
 obtain ⟨ad, hA, -⟩ := HN2.out.ad HE.out.1.1
 obtain ⟨-, z1, -, -, zl1⟩ := HN2.out.node hA HE.out.1.1
 obtain ⟨z2, -, -, -, zl2⟩ := HN2.out.node hA HE.out.2.1
 rw [HE.out.1.2] at z1
 rw [HE.out.2.2] at z2
 subst hA
 rw [show ad.add (4 * 4) = (⟨ad.block, ad.off + 16, none⟩ : Addr) from rfl] at z1 zl1
 rw [show ad.add (9 * 4) = (⟨ad.block, ad.off + 36, none⟩ : Addr) from rfl] at z2 zl2
 dsimp only at z1 zl1 zl2
 have ht : (⟨#[42]⟩ : ByteArray).toList = [42] := by rw [ByteArray.toList_eq]
 go_wp2_with fail
 go_ret
 exact ⟨rfl, HB2.out⟩
def BlankT (s tx : ByteArray) (k : Nat) : Prop := ∃ ys : List UInt8, tx.data.toList = s.data.toList ++ 10 :: ys ∧ ys.length = k ∧ ∀ c ∈ ys, blB c = true
theorem BlankT.size {s tx : ByteArray} {k : Nat} (h : BlankT s tx k) : tx.size = s.size + 1 + k := by
 obtain ⟨ys, h1, h2, _⟩ := h
 have := congrArg List.length h1
 rw [List.length_append, List.length_cons, h2] at this
 have e1 : tx.data.toList.length = tx.size := by simp
 have e2 : s.data.toList.length = s.size := by simp
 omega
theorem BlankT.put {s tx : ByteArray} {k : Nat} (h : BlankT s tx k) {c : UInt8} (hc : blB c = true) : BlankT s (tx ++ ⟨#[c]⟩) (k + 1) := by
 obtain ⟨ys, h1, h2, h3⟩ := h
 refine ⟨ys ++ [c], ?_, by rw [List.length_append, h2]; rfl, fun d hd => ?_⟩
 ·rw [ByteArray.data_append, Array.toList_append, h1]
  simp
 ·rcases List.mem_append.1 hd with hd | hd
  ·exact h3 d hd
  ·rw [List.mem_singleton.1 hd]; exact hc
theorem BlankT.start (s : ByteArray) : BlankT s (s ++ ⟨#[10]⟩) 0 := ⟨[], by rw [ByteArray.data_append, Array.toList_append], rfl, fun c hc => by simp at hc⟩
theorem kids_few2 {t : PT} (h : ptS t ≤ 50000) {l : List NdM} (hl : l.map NdM.nd = flat 0 t) : l.length ≤ 50000 ∧ ∀ x ∈ l, x.nd.kids.length ≤ 50000 := by
 refine ⟨?_, fun x hx => ?_⟩
 ·have := congrArg List.length hl
  rw [List.length_map, flat_len] at this
  omega
 ·have := kids_few t (x := x.nd) (by rw [← hl]; exact List.mem_map.2 ⟨x, hx, rfl⟩)
  omega
set_option maxRecDepth 100000 in
theorem blanks_walk (s : ByteArray) (bs : List UInt8) (A : Option Addr) (c : Nat) (w : World) (hw : ParseW w) (hr : Reads w w.heap.size A (bs.map fun b => Value.int .u8 (b.toNat : Int))) :
  Calls Tryz.prog 4 #[.string s, .slice A bs.length c] w (RetB (.bool true) w) := by
 have HAW := Lib.hid (awake07_any w hw)
 have HW := Lib.hid hw
 have HR := Lib.hid hr
 obtain ⟨N, hN⟩ : ∃ N, N = bs.length := ⟨_, rfl⟩
 rw [← hN]
 have HN := Lib.hid hN
 clear hw hr hN
 by_cases hbig : 3000 < s.size
 ·have hq : (3000 : Int) < (s.size : Int) := by omega
  clear hbig
  go_enter Tryz.func4, Tryz.ntmps4
  go_wp2_with fail
  refine HAW.out.mono ?_
  rintro e w1 ⟨rfl, hb⟩
  have HB := Lib.hid hb
  clear hb
  go_wp2
  go_ret
  exact ⟨rfl, HB.out⟩
 by_cases hbig2 : 100 < N
 ·have hq : ¬ (3000 : Int) < (s.size : Int) := by omega
  have hq2 : (100 : Int) < (N : Int) := by omega
  clear hbig hbig2
  go_enter Tryz.func4, Tryz.ntmps4
  go_wp2_with fail
  refine HAW.out.mono ?_
  rintro e w1 ⟨rfl, hb⟩
  have HB := Lib.hid hb
  clear hb
  go_wp2
  go_ret
  exact ⟨rfl, HB.out⟩
 have hq : ¬ (3000 : Int) < (s.size : Int) := by omega
 have hq2 : ¬ (100 : Int) < (N : Int) := by omega
 have HSZ := Lib.hid (show s.size ≤ 3000 ∧ N ≤ 100 by omega)
 clear hbig hbig2
 have hz1 : ¬ 9223372036854775807 < s.size + 1 := by have := HSZ.out; omega
 go_enter Tryz.func4, Tryz.ntmps4
 go_wp2_with fail
 refine HAW.out.mono ?_
 rintro e w1 ⟨rfl, hb⟩
 have HB1 := Lib.hid hb
 clear hb
 go_wp2_with fail
 go_loopw [5, 28] (fun tv iv wr => ∃ (k : Nat) (tx : ByteArray), k ≤ N ∧ tv = .string tx ∧ iv = .int .i64 (k : Int) ∧ Hid (BlankT s tx k) ∧ w1 = wr) (fun _ iv _ => N - (intOf iv).toNat)
 case atStart => exact ⟨0, _, Nat.zero_le _, rfl, rfl, Lib.hid (BlankT.start s), rfl⟩
 case round =>
  obtain ⟨k, tx, hkN, rfl, rfl, HT, rfl⟩ := hrel
  have hNN := HSZ.out.2
  by_cases hlt : k < N
  ·obtain ⟨b, hb⟩ : ∃ b, bs[k]? = some b := ⟨_, List.getElem?_eq_getElem (by rw [← HN.out]; exact hlt)⟩
   obtain ⟨ad, hA, had, hcell⟩ := (HR.out.below HB1.out).at (by intro e; have := congrArg List.length e; rw [List.length_map] at this; simp at this; rw [this] at hb; simp at hb)
   have z0 := hcell k _ (by rw [List.getElem?_map, hb]; rfl)
   have zl : (ad.add k).block < w1.heap.size := by rw [block_add']; have := HB1.out.size; omega
   subst hA
   have hkI : (k : Int) < (N : Int) := by omega
   have hk0 : (0 : Int) ≤ (k : Int) := by omega
   have hz2 : ¬ 9223372036854775807 < tx.size + 1 := by have := HT.out.size; have := HSZ.out; omega
   clear hcell had hb
   rcases (show b.toNat % 4 = 0 ∨ b.toNat % 4 = 1 ∨ b.toNat % 4 = 2 ∨ b.toNat % 4 = 3 by omega) with h4 | h4 | h4 | h4
   ·have hm : Int.tmod (b.toNat : Int) 4 = 0 := by rw [Int.tmod_eq_emod_of_nonneg (by omega)]; omega
    have HP := Lib.hid (HT.out.put (c := 32) (by decide))
    rw [← show (⟨#[32, 9, 10, 13]⟩ : ByteArray).extract 0 1 = ⟨#[32]⟩ from by decide +kernel] at HP
    go_wp2_with fail
    go_roundw
    case rel => exact ⟨k + 1, _, by omega, rfl, by go_num, HP, trivial⟩
    case measure => simp [intOf]; omega
   ·have hm : Int.tmod (b.toNat : Int) 4 = 1 := by rw [Int.tmod_eq_emod_of_nonneg (by omega)]; omega
    have HP := Lib.hid (HT.out.put (c := 9) (by decide))
    rw [← show (⟨#[32, 9, 10, 13]⟩ : ByteArray).extract 1 2 = ⟨#[9]⟩ from by decide +kernel] at HP
    go_wp2_with fail
    go_roundw
    case rel => exact ⟨k + 1, _, by omega, rfl, by go_num, HP, trivial⟩
    case measure => simp [intOf]; omega
   ·have hm : Int.tmod (b.toNat : Int) 4 = 2 := by rw [Int.tmod_eq_emod_of_nonneg (by omega)]; omega
    have HP := Lib.hid (HT.out.put (c := 10) (by decide))
    rw [← show (⟨#[32, 9, 10, 13]⟩ : ByteArray).extract 2 3 = ⟨#[10]⟩ from by decide +kernel] at HP
    go_wp2_with fail
    go_roundw
    case rel => exact ⟨k + 1, _, by omega, rfl, by go_num, HP, trivial⟩
    case measure => simp [intOf]; omega
   ·have hm : Int.tmod (b.toNat : Int) 4 = 3 := by rw [Int.tmod_eq_emod_of_nonneg (by omega)]; omega
    have HP := Lib.hid (HT.out.put (c := 13) (by decide))
    rw [← show (⟨#[32, 9, 10, 13]⟩ : ByteArray).extract 3 4 = ⟨#[13]⟩ from by decide +kernel] at HP
    go_wp2_with fail
    go_roundw
    case rel => exact ⟨k + 1, _, by omega, rfl, by go_num, HP, trivial⟩
    case measure => simp [intOf]; omega
  ·obtain rfl : k = N := by omega
   have hqk : ¬ (k : Int) < (k : Int) := by omega
   have HP1 := Lib.hid (parse_any s (by have := HSZ.out; omega) w1 (HW.out.below HB1.out))
   have HP2 := Lib.hid (fun w h => parse_any tx (by have := HT.out.size; have := HSZ.out; omega) w h)
   obtain ⟨ys, e1, e2, e3⟩ := HT.out
   have HX := Lib.hid (show tx.data.toList = s.data.toList ++ 10 :: ys ∧ BlankX (10 :: ys) from ⟨e1, ys, rfl, e3⟩)
   clear e1 e2 e3
   go_wp2_with fail
   refine HP1.out.mono ?_
   rintro e w2 ⟨hb2, h2⟩
   have HB2 := Lib.hid (HB1.out.trans (hb2.mono HB1.out.size))
   cases hp : parseL s.data.toList with
   | inl q =>
    obtain ⟨p, er⟩ := q
    rw [hp] at h2
    obtain ⟨-, he, rfl⟩ := h2
    have hne : ((er : Int) != 0) = true := bne_iff_ne.2 (by omega)
    clear hb2 hp
    go_wp2_with fail
    refine (HP2.out w2 (HW.out.below HB2.out)).mono ?_
    rintro e w3 ⟨hb3, h3⟩
    have HB3 := Lib.hid (HB2.out.trans (hb3.mono HB2.out.size))
    clear hb3
    cases hp2 : parseL tx.data.toList with
    | inl q2 =>
     obtain ⟨p2, er2⟩ := q2
     rw [hp2] at h3
     obtain ⟨-, -, rfl⟩ := h3
     clear hp2
     go_wp2_with fail
     go_ret
     exact ⟨rfl, HB3.out⟩
    | inr t2 =>
     rw [hp2] at h3
     obtain ⟨A2, c2, l2, rfl, -, -⟩ := h3
     clear hp2
     go_wp2_with fail
     go_ret
     exact ⟨rfl, HB3.out⟩
   | inr t =>
    rw [hp] at h2
    obtain ⟨A1, c1, l1, rfl, e4, e5⟩ := h2
    have HN1 := Lib.hid (And.intro e4 e5)
    obtain ⟨t2, hp2, hk⟩ := parse_ext HX.out.2 hp
    rw [← HX.out.1] at hp2
    have HK := Lib.hid (And.intro (parseL_few hp).1 (And.intro (parseL_few hp2).1 hk))
    have HPP := Lib.hid hp2
    clear hb2 e4 e5 hp hp2 hk
    go_wp2_with fail
    refine (HP2.out w2 (HW.out.below HB2.out)).mono ?_
    rintro e w3 ⟨hb3, h3⟩
    rw [HPP.out] at h3
    obtain ⟨A2, c2, l2, rfl, e4, e5⟩ := h3
    have HB3 := Lib.hid (HB2.out.trans (hb3.mono HB2.out.size))
    have HSM := Lib.hid (rsame_any (l1 := l1) (l2 := l2) c1 c2 (HN1.out.2.below hb3).up e5 (by rw [HN1.out.1, e4]; exact HK.out.2.2.symm) (kids_few2 HK.out.1 HN1.out.1).1 (kids_few2 HK.out.1 HN1.out.1).2)
    clear hb3 e4 e5
    go_wp2_with fail
    refine HSM.out.mono ?_
    rintro e w4 ⟨rfl, hb4⟩
    have HB4 := Lib.hid (HB3.out.trans (hb4.mono HB3.out.size))
    clear hb4
    go_wp2_with fail
    go_ret
    exact ⟨rfl, HB4.out⟩

section
variable {H : Type} {enc : TypeId × Value → H} {P : Program} {w : World}

end

theorem ret_and_shaped {H : Type} {enc : TypeId × Value → H} {a : Assume} {C : Checked} {os : Os} {f : FuncId} {fn : Func} {s : ChangeSpec} {conds : List PathCond} {apart fresh handsOn again : Bool} {X : World → Array Value → Prop}
  (hX : ∀ (w w' : World) (args : Array Value), w.heap = w'.heap → X w args → X w' args)
  (own : ownKnob C.prog.godebug = none) (started : os.Started) (noInit : C.prog.inits.idxOf? f = none) (hfn : C.prog.funcs[f]? = some fn)
  (witness : ∃ (w : World) (tape : Tape) (i : Input), w.os = os ∧ (w.forCall tape i).Shaped C.prog ∧ i.vars = [] ∧ Input.okWide C.prog (w.forCall tape i) .any w.heap.size f i ∧
   ((s.pre enc C.prog fn conds apart (w.forCall tape i).memory i.args ∧ X (w.forCall tape i).memory i.args) ∧ sizedMet enc C.prog fn (OpenSpec.ofChange s) apart (w.forCall tape i).memory i.args) ∧ a.holds C.prog (lone (Frame.enter C.prog f i.args .normal) [] (w.forCall tape i)))
  (contract : ∀ (W : World) (base : Nat) (args : Array Value) (ds gs : List (DataW H)) (before : List MemPlace),
   (∀ (j : Nat) t v, fn.params[j]? = some t → args[j]? = some v → Value.okWide C.prog W .any base t v) →
   DataW.Whole enc C.prog fn.params.toList s.vars apart W args.toList ds gs before →
   (DataW.weightsEach C.prog (fn.params.toList ++ s.plain.varTypes C.prog) (ds ++ gs)).all (· ≤ reachBytes) = true → X W args → W.ShapedOpen C.prog →
   Calls C.prog f args W fun e W' => ∃ v, e = .returned v ∧ s.post enc C.prog fn apart fresh handsOn again W args v W') :
  ReturnsInHanded a C os f .any (fun w args => (s.pre enc C.prog fn conds apart w args ∧ X w args) ∧ sizedMet enc C.prog fn (OpenSpec.ofChange s) apart w args) (s.post enc C.prog fn apart fresh handsOn again) := by
 refine returnsInHanded_of_calls own started noInit witness fun w tape i _ hsh _ hok hpre _ => ?_
 obtain ⟨_, _, _, fn', hfn', _, _, _, _, hval⟩ := hok
 obtain rfl : fn' = fn := Option.some.inj (hfn'.symm.trans hfn)
 obtain ⟨⟨⟨ds, gs, before, hw, _⟩, hx⟩, hz⟩ := hpre
 refine (contract (w.forCall tape i) w.heap.size i.args ds gs before hval (DataW.Whole.of_heap (w' := w.forCall tape i) (by rfl) hw) (hz.weights hw) (hX _ _ _ (by rfl) hx) hsh).mono fun e W' hh => ?_
 obtain ⟨v, rfl, hp⟩ := hh
 exact ChangeSpec.post_blind hp
theorem decByte {H : Type} {enc : TypeId × Value → H} {P : Program} {w : World} {t : TypeId} (ht : P.underlying t = some (.int .u8)) : Dec enc P w t (fun b : UInt8 => [.int .u8 (b.toNat : Int)]) (fun b d => d = .lit (.int .u8 (b.toNat : Int))) := by
 intro fuel cs x h
 obtain ⟨n, rfl, rfl, hw⟩ := DataW.trod_int ht h
 have h1 : 0 ≤ n ∧ n ≤ 255 := by simpa [Lit.wf, IntKind.min, IntKind.max, IntKind.signed, IntKind.bits] using hw
 have h2 : ((UInt8.ofNat n.toNat).toNat : Int) = n := by
  rw [UInt8.toNat_ofNat', Nat.mod_eq_of_lt (by omega)]
  omega
 exact ⟨UInt8.ofNat n.toNat, by dsimp only; rw [h2], by dsimp only; rw [h2]⟩
theorem reads_map {w : World} {B : Nat} {A : Option Addr} {bs : List UInt8} (h : Reads w B A (bs.flatMap fun b => [Value.int .u8 (b.toNat : Int)])) : Reads w B A (bs.map fun b => Value.int .u8 (b.toNat : Int)) := by
 rw [show bs.map (fun b => Value.int .u8 (b.toNat : Int)) = bs.flatMap fun b => [Value.int .u8 (b.toNat : Int)] from List.map_eq_flatMap]
 exact h
theorem g_sp : Tryz.prog.globalNamed "strings.asciiSpace" = some 0 := by kernel_rfl
theorem sp_type : (Tryz.prog.globals[0]?).map (·.type) = some 86 := by kernel_rfl
theorem gp_type : (Tryz.prog.globals[2]?).map (·.type) = some 136 := by kernel_rfl
theorem parseW_of {W : World} {a b d e g : _} (h : laidMet Tryz.prog [a, b, ("internal/strconv.uint64pow10", Lib.tabData .u64 Lib.pow10Tab), d, e, ("strings.asciiSpace", Lib.tabData .u8 Lib.asciiSpaceTab), g] W) (hsh : W.ShapedOpen Tryz.prog) : ParseW W := by
 have h2 := laidMet.tail (laidMet.tail h)
 have h3 := laidMet.tail (laidMet.tail (laidMet.tail h2))
 obtain ⟨m, hm⟩ := Tryz.laysM219.s1_3 W hsh
 exact ⟨Lib.tabIs_of_head g_sp sp_type Tryz.underlying86 Tryz.underlying5 (by kernel_rfl) (by kernel_rfl) h3, ⟨m, hm, cell_lt hm⟩, Lib.tabIs_of_head g_pow10 gp_type Tryz.underlying136 Tryz.underlying83 (by kernel_rfl) (by kernel_rfl) h2⟩
end Go.Proofs.YthobobmbileekaaGreatDoor
