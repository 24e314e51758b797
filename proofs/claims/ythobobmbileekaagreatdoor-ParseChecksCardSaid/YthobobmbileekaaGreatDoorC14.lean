/-
 ParseChecks: part 14 of what the claim rests on.
-/
import Derived.Test.YthobobmbileekaaGreatDoorC01
import Derived.Test.YthobobmbileekaaGreatDoorC03
import Derived.Test.YthobobmbileekaaGreatDoorC06
import Derived.Test.YthobobmbileekaaGreatDoorC11
import Derived.Test.YthobobmbileekaaGreatDoorC13
import Derived.BigQuiet
import Derived.Deep.RegionHeld
set_option linter.unusedVariables false
set_option linter.unusedSimpArgs false
set_option maxHeartbeats 64000000
set_option maxRecDepth 100000
namespace Go.Proofs.YthobobmbileekaaGreatDoor
open Go.ChangeShapes Go.WideShapes Go.ChangeAt Go.RowKit

section
variable {K : PaK} {w w' : World} {p i o : Nat} {sn : Fin 8 → Bool} {ns : List Nd} {fp fp' : List Nat}
theorem OutB.of {a n : Nat} {e : Ending} {w1 : World} (h : e = .panicked (wrongP a n)) (hb : Below p w w1) : OutB w p a n e w1 := ⟨h, hb⟩
theorem token_no (h : PaAt K w p i o sn ns fp) (hi : i < K.T.length) (kd : Int) (hk : ¬ (tk K.T i).kind = kd) :
  Calls Tryz.prog 22 #[.pointer (some ⟨p, 0, none⟩), .int .i64 kd] w (OutB w p (tk K.T i).a 70) := by
 have hb0 : Below w.heap.size w (w.alloc (.cells tokZ0 65)) := zbr.alloc znr _
 have HN := zh (now_any (h.below hb0) hi)
 obtain ⟨t, ht⟩ : ∃ t, t = tk K.T i := ⟨_, rfl⟩
 rw [← ht] at HN hk ⊢
 have hq : (t.kind != kd) = true := by rw [bne_iff_ne]; exact hk
 have H := zh h
 clear h ht hk hb0
 go_enter Tryz.func22, Tryz.ntmps22
 go_wp2_with fail
 refine HN.out.mono ?_
 rintro e w1 ⟨rfl, hb1⟩
 have HB1 := zh (show Below w.heap.size w w1 from (zbr.alloc znr _).trans (hb1.mono (by simp)))
 clear hb1
 unfold tkEnc
 go_upto_region 2 with fail
 obtain ⟨b, hb⟩ : ∃ b, b = w1.heap.size := ⟨_, rfl⟩
 rw [← hb]
 refine gen_wpT fun W hW => ?_
 have HT := zh (show W.heap[b]? = some (.cells (tokA0 t) 65 (0, 0)) by rw [← hW]; exact heap_new_at _ _ _ hb.symm)
 have HWB := zh (show Below p w W by rw [← hW]; exact (HB1.out.alloc HB1.out.size _).mono (Nat.le_of_lt H.out.lt))
 clear hW hb
 obtain ⟨t0, t1, t2, t3, t4, tl⟩ := blk5 HT.out
 go_wp2_with fail
 refine (no_any _ t.a _).mono ?_
 rintro e w3 ⟨rfl, rfl⟩
 unfold wrongP
 go_wp2
 exact ⟨rfl, rfl, HWB.out⟩
theorem none_any (h : PaAt K w p i o sn ns fp) (hns : ns.length ≤ 900000) :
  Calls Tryz.prog 93 #[.pointer (some ⟨p, 0, none⟩)] w (OutP K w p o sn ns fp (.ok noneT i)) := by
 have HL := zh (lay_any h hns 12 ByteArray.empty 0 (KidsV.nil w) (by simp))
 clear h
 unfold natV at HL
 go_enter Tryz.func93, Tryz.ntmps93
 go_wp2_with fail
 refine HL.out.mono ?_
 rintro e w1 ⟨rfl, fp', h1, h2⟩
 have H1 := zh h1
 have H2 := zh h2
 clear h1 h2
 go_wp2
 go_ret
 exact ⟨rfl, fp', H1.out, H2.out⟩
theorem over_any (h : PaAt K w p i o sn ns fp) (hi : i < K.T.length) :
  Calls Tryz.prog 47 #[.pointer (some ⟨p, 0, none⟩)] w (RetB (.bool (overL K.T i)) w) := by
 have HN := zh (now_any h hi)
 have H := zh h
 obtain ⟨t, ht⟩ : ∃ t, t = tk K.T i := ⟨_, rfl⟩
 rw [← ht] at HN
 have HT := zh ht
 have HIN := zh hi
 clear h ht hi
 by_cases hk : t.kind = 0
 ·have hq : (t.kind == 0) = true := beq_iff_eq.2 hk
  have HR := zh (show overL K.T i = true by unfold overL; rw [← HT.out, hk]; rfl); clear hk
  go_enter Tryz.func47, Tryz.ntmps47
  go_wp2_with fail
  refine HN.out.mono ?_; rintro e w1 ⟨rfl, hb1⟩; have HB1 := zh hb1; clear hb1; unfold tkEnc; have f0 := tok_f0 (.int .i64 t.kind) (.int .i64 (t.a : Int)) (.int .i64 (t.z : Int)) (.int .i64 t.n) (.string t.text); go_wp2
  go_ret
  exact ⟨by rw [HR.out]; rfl, HB1.out⟩
 ·have hq : (t.kind == 0) = false := beq_eq_false_iff_ne.2 hk
  have HR := zh (show overL K.T i = isAny (tk K.T i) [⟨#[101, 110, 100]⟩, ⟨#[101, 108, 115, 101]⟩, ⟨#[101, 108, 115, 101, 105, 102]⟩] by unfold overL; rw [← HT.out, decide_eq_false hk, Bool.false_or]); clear hk
  go_enter Tryz.func47, Tryz.ntmps47
  go_wp2_with fail
  refine HN.out.mono ?_; rintro e w1 ⟨rfl, hb1⟩; have HB1 := zh hb1; have HI := zh (fun W (hW : W = w1.alloc (.cells #[.string ⟨#[101, 110, 100]⟩, .string ⟨#[101, 108, 115, 101]⟩, .string ⟨#[101, 108, 115, 101, 105, 102]⟩] 9)) => (show Calls Tryz.prog 19 #[.pointer (some ⟨p, 0, none⟩), .slice (some ⟨w1.heap.size, 0, none⟩) 3 3] W (RetB (.bool (isAny (tk K.T i) [⟨#[101, 110, 100]⟩, ⟨#[101, 108, 115, 101]⟩, ⟨#[101, 108, 115, 101, 105, 102]⟩])) W) from
   is_any (K := K) (i := i) (o := o) (sn := sn) (ns := ns) (fp := fp) (c := 3) (L := [⟨#[101, 110, 100]⟩, ⟨#[101, 108, 115, 101]⟩, ⟨#[101, 108, 115, 101, 105, 102]⟩]) (hW ▸ (H.out.below hb1).below (zbr.alloc znr _)) HIN.out (by rw [hW]; exact .inr ⟨⟨w1.heap.size, 0, none⟩, rfl, by simp, fun j u hu => news_new w1 #[.string ⟨#[101, 110, 100]⟩, .string ⟨#[101, 108, 115, 101]⟩, .string ⟨#[101, 108, 115, 101, 105, 102]⟩] _ _ rfl j u hu⟩) (by simp)))
  clear hb1; unfold tkEnc; have f0 := tok_f0 (.int .i64 t.kind) (.int .i64 (t.a : Int)) (.int .i64 (t.z : Int)) (.int .i64 t.n) (.string t.text); go_wp2_with fail
  refine (HI.out _ rfl).mono ?_; rintro e w2 ⟨rfl, hb2⟩; have HB2 := zh (show Below w.heap.size w w2 from (HB1.out.alloc HB1.out.size _).trans (hb2.mono (HB1.out.alloc HB1.out.size _).size)); clear hb2; go_wp2
  go_ret
  exact ⟨by rw [HR.out]; rfl, HB2.out⟩
end

structure St (K : PaK) (w0 : World) (p i o : Nat) (sn : Fin 8 → Bool) (ns : List Nd) (fp0 : List Nat) (L : List PT) (w : World) (fp : List Nat) : Prop where
 pa : PaAt K w p i o sn (ns ++ flats ns.length L) fp
 pt : PaTo w0 fp0 w fp
section
variable {K : PaK} {w0 w w' : World} {p i j o : Nat} {sn : Fin 8 → Bool} {ns : List Nd} {fp0 fp fp' : List Nat} {L : List PT}
theorem St.start (h : PaAt K w p i o sn ns fp) : St K w p i o sn ns fp [] w fp := ⟨by simpa [flats] using h, PaTo.refl _ _⟩
theorem St.below (h : St K w0 p i o sn ns fp0 L w fp) (hb : Below w.heap.size w w') : St K w0 p i o sn ns fp0 L w' fp := ⟨h.pa.below hb, h.pt.trans (PaTo.of_below h.pa hb)⟩
theorem St.own (h : St K w0 p i o sn ns fp0 L w fp) {S : List Nat} (hf : Fr S w w') (hs : ∀ b ∈ S, p ≤ b ∧ b ∉ fp ∧ w0.heap.size ≤ b) : St K w0 p i o sn ns fp0 L w' fp :=
 ⟨h.pa.fr hf fun b hb => ⟨(hs b hb).1, (hs b hb).2.1⟩, ⟨h.pt.fr.trans hf fun b hb => .inr (hs b hb).2.2, h.pt.new⟩⟩
theorem St.step (h : St K w0 p i o sn ns fp0 L w fp) {o' : Nat} (h1 : PaAt K w' p j o' sn (ns ++ flats ns.length L) fp') (h2 : PaTo w fp w' fp') : St K w0 p j o' sn ns fp0 L w' fp' := ⟨h1, h.pt.trans h2⟩
theorem flats_one_more (ns : List Nd) (L : List PT) (t : PT) : (ns ++ flats ns.length L) ++ flat (ns ++ flats ns.length L).length t = ns ++ flats ns.length (L ++ [t]) := by
 rw [flats_append, flats_one, List.length_append, flats_len, List.append_assoc]
theorem flats_more (ns : List Nd) (L l : List PT) : (ns ++ flats ns.length L) ++ flats (ns ++ flats ns.length L).length l = ns ++ flats ns.length (L ++ l) := by
 rw [flats_append, List.length_append, flats_len, List.append_assoc]
theorem len_more (ns : List Nd) (L : List PT) : (ns ++ flats ns.length L).length = ns.length + ptsS L := by rw [List.length_append, flats_len]
def nr (ns : List Nd) (L : List PT) (t : PT) : Nat := ns.length + ptsS L + ptS t - 1
theorem roots_more (ns : List Nd) (L : List PT) (t : PT) : roots ns.length (L ++ [t]) = roots ns.length L ++ [nr ns L t] := by rw [roots_append, roots_one]; rfl
def Callee (f : Nat) (nt : N1) (fn : FuncId) (args : Nat → Array Value) : Prop :=
 ∀ (K : PaK) (w : World) (p i o : Nat) (sn : Fin 8 → Bool) (ns : List Nd) (fp : List Nat), PaAt K w p i o sn ns fp → Room K i ns → o ≤ 150 → ∀ r, (parF K.T f).one nt o i = some r → Calls Tryz.prog fn (args p) w (OutP K w p o sn ns fp r)
def OneOk (K : PaK) (w0 : World) (p o : Nat) (sn : Fin 8 → Bool) (ns : List Nd) (fp0 : List Nat) (L : List PT) (w : World) (fp : List Nat) (t : PT) (j : Nat) (e : Ending) (w' : World) : Prop :=
 e = .returned (natV (nr ns L t)) ∧ ∃ fp', St K w0 p j o sn ns fp0 (L ++ [t]) w' fp' ∧ PaTo w fp w' fp'
structure Beg (w0 : World) (p : Nat) (fp0 : List Nat) : Prop where
 lt : p < w0.heap.size
 lo : ∀ b ∈ fp0, p ≤ b
theorem Beg.of (h : PaAt K w p i o sn ns fp) : Beg w p fp := ⟨h.lt, fun b hb => (h.fpb b hb).1⟩
theorem St.bad (h : St K w0 p i o sn ns fp0 L w fp) (hB : Beg w0 p fp0) (hb : Below p w w') : Below p w0 w' :=
 (h.pt.fr.to_below (Nat.le_of_lt hB.lt) hB.lo).trans hb
theorem call_ok {f : Nat} {nt : N1} {fn : FuncId} {args : Nat → Array Value} (hC : Callee f nt fn args) (h : St K w0 p i o sn ns fp0 L w fp) (hr : i < K.T.length ∧ ns.length + ptsS L + 4 * (K.T.length - i) ≤ 900000) (ho : o ≤ 150) {t : PT} (hX : (parF K.T f).one nt o i = some (.ok t j)) :
  Calls Tryz.prog fn (args p) w (OneOk K w0 p o sn ns fp0 L w fp t j) := by
 refine (hC K w p i o sn _ fp h.pa ⟨hr.1, by rw [len_more]; exact hr.2⟩ ho _ hX).mono ?_
 rintro e w1 ⟨rfl, fp1, h1, h2⟩
 refine ⟨by rw [len_more]; rfl, fp1, ?_, h2⟩
 rw [flats_one_more] at h1
 exact ⟨h1, h.pt.trans h2⟩
theorem call_bad {f : Nat} {nt : N1} {fn : FuncId} {args : Nat → Array Value} (hC : Callee f nt fn args) (h : St K w0 p i o sn ns fp0 L w fp) (hB : Beg w0 p fp0) (hr : i < K.T.length ∧ ns.length + ptsS L + 4 * (K.T.length - i) ≤ 900000) (ho : o ≤ 150) {a n : Nat} (hX : (parF K.T f).one nt o i = some (.bad a n)) :
  Calls Tryz.prog fn (args p) w (OutB w0 p a n) := by
 refine (hC K w p i o sn _ fp h.pa ⟨hr.1, by rw [len_more]; exact hr.2⟩ ho _ hX).mono ?_
 rintro e w1 ⟨rfl, h1⟩
 exact ⟨rfl, h.bad hB h1⟩
theorem lay_mid {L1 L2 : List PT} (h : St K w0 p i o sn ns fp0 (L1 ++ L2) w fp) (hr : ns.length + ptsS (L1 ++ L2) ≤ 900000) (hl : L2.length ≤ 900000) (kd : Int) (x : ByteArray) (a : Nat) {kv : Value} {ks : List Nat} (hk : KidsV w kv ks) (hks : ks = roots (ns.length + ptsS L1) L2) :
  Calls Tryz.prog 23 #[.pointer (some ⟨p, 0, none⟩), .int .i64 kd, .string x, natV a, kv] w (OneOk K w0 p o sn ns fp0 L1 w fp (.mk kd x a L2) i) := by
 refine (lay_any h.pa (by rw [len_more]; exact hr) kd x a hk (by rw [hks, roots_len]; exact hl)).mono ?_
 rintro e w1 ⟨rfl, fp1, h1, h2⟩
 refine ⟨?_, fp1, ⟨?_, h.pt.trans h2⟩, h2⟩
 ·rw [len_more, ptsS_append]
  unfold nr; rw [ptS, show ns.length + ptsS L1 + (ptsS L2 + 1) - 1 = ns.length + (ptsS L1 + ptsS L2) by omega]
 ·have e : ns ++ flats ns.length (L1 ++ L2) ++ [⟨kd, x, ks, a⟩] = ns ++ flats ns.length (L1 ++ [.mk kd x a L2]) := by
   rw [flats_append, flats_append, flats_one, flat, hks]; simp only [List.append_assoc]
  rw [e] at h1; exact h1
theorem lay_fin (h : St K w0 p i o sn ns fp0 L w fp) (hr : ns.length + ptsS L ≤ 900000) (hl : L.length ≤ 900000) (kd : Int) (x : ByteArray) (a : Nat) {kv : Value} {ks : List Nat} (hk : KidsV w kv ks) (hks : ks = roots ns.length L) :
  Calls Tryz.prog 23 #[.pointer (some ⟨p, 0, none⟩), .int .i64 kd, .string x, natV a, kv] w (OutP K w0 p o sn ns fp0 (.ok (.mk kd x a L) i)) := by
 refine (lay_mid (L1 := []) (L2 := L) h hr hl kd x a hk (by simpa [ptsS] using hks)).mono ?_
 rintro e w1 ⟨rfl, fp1, h1, h2⟩
 refine ⟨by simp [nr, ptsS], fp1, ?_, h1.pt⟩
 have := h1.pa
 simpa [flats_one] using this
theorem OneOk.out {t : PT} {e : Ending} (h : OneOk K w0 p o sn ns fp0 [] w fp t j e w') : OutP K w0 p o sn ns fp0 (.ok t j) e w' := by
 obtain ⟨rfl, fp1, h1, h2⟩ := h
 exact ⟨by simp [nr, ptsS], fp1, by have := h1.pa; simpa [flats_one] using this, h1.pt⟩
theorem Away.blkTo {b : Nat} {ob : Obj} (hb : w.heap[b]? = some ob) (h : Away w p fp b) (k : PaTo w fp w' fp') : w'.heap[b]? = some ob := k.blk hb h
theorem within_deep (h : PaAt K w p i o sn ns fp) (ho : 150 < o + 1) (ho2 : o ≤ 150) (a : Nat) (fv : Value) :
  Calls Tryz.prog 74 #[.pointer (some ⟨p, 0, none⟩), natV a, fv] w (OutB w p a 61) := by
 obtain ⟨o1, ho1⟩ : ∃ o1, o1 = o + 1 := ⟨_, rfl⟩
 have hadd : (o : Int) + 1 = (o1 : Int) := by omega
 have hw : IntKind.i64.wrap (o1 : Int) = (o1 : Int) := IntWalk.i64_in _ (by omega)
 have hgt : (150 : Int) < (o1 : Int) := by omega
 have H := zh h
 obtain ⟨nv, l, hm⟩ := h.mem
 obtain ⟨-, -, -, c3, -, cf⟩ := pa_cell hm.blk
 have c3f := cf 3
 have pl := blk_lt hm.blk
 have e3 : (w.setCell ⟨p, 3, none⟩ (.int .i64 (o1 : Int))).cell? ⟨p, 3, none⟩ = some (.int .i64 (o1 : Int)) := cell_of_blk (blk_set (i := 3) hm.blk _) rfl
 clear h hm cf ho ho1 ho2
 unfold natV
 go_enter Tryz.func74, Tryz.ntmps74
 go_wp2
 exact ⟨rfl, rfl, (H.out.setO o1).2.below H.out⟩
theorem within_bad (h : PaAt K w p i o sn ns fp) (ho : ¬ 150 < o + 1) (a : Nat) {fn : FuncId} {fst cap args : Array Value} (hcall : ∀ W, (callFunc fn args).run Tryz.prog W = .ok (.enter fn args) W) (harg : fst ++ cap = args) {a' n : Nat}
  (hC : ∀ w1, PaAt K w1 p i (o + 1) sn ns fp → PaTo w fp w1 fp → Calls Tryz.prog fn args w1 (OutB w1 p a' n)) :
  Calls Tryz.prog 74 #[.pointer (some ⟨p, 0, none⟩), natV a, .func (.func fn) fst cap] w (OutB w p a' n) := by
 obtain ⟨o1, ho1⟩ : ∃ o1, o1 = o + 1 := ⟨_, rfl⟩
 rw [← ho1] at hC
 have hadd : (o : Int) + 1 = (o1 : Int) := by omega
 have hw : IntKind.i64.wrap (o1 : Int) = (o1 : Int) := IntWalk.i64_in _ (by omega)
 have hgt : ¬ (150 : Int) < (o1 : Int) := by omega
 have H := zh h
 have HC := zh hC
 have HO := zh ho1
 obtain ⟨nv, l, hm⟩ := h.mem
 obtain ⟨-, -, -, c3, -, cf⟩ := pa_cell hm.blk
 have c3f := cf 3
 have pl := blk_lt hm.blk
 have e3 : (w.setCell ⟨p, 3, none⟩ (.int .i64 (o1 : Int))).cell? ⟨p, 3, none⟩ = some (.int .i64 (o1 : Int)) := cell_of_blk (blk_set (i := 3) hm.blk _) rfl
 clear h hm cf ho ho1 hC
 unfold natV
 go_enter Tryz.func74, Tryz.ntmps74
 go_wp2_with fail
 refine (HC.out _ (H.out.setO o1).1 (H.out.setO o1).2).mono ?_
 rintro e w1 ⟨rfl, hb⟩
 have HB := zh (show Below p w w1 from ((H.out.setO o1).2.below H.out).trans hb)
 clear hb
 unfold wrongP
 go_wp2
 exact ⟨rfl, rfl, HB.out⟩
theorem within_gen (h : PaAt K w p i o sn ns fp) (ho : ¬ 150 < o + 1) (a : Nat) {fn : FuncId} {fst cap args : Array Value} (hcall : ∀ W, (callFunc fn args).run Tryz.prog W = .ok (.enter fn args) W) (harg : fst ++ cap = args) {n j : Nat} {ns' : List Nd} (R : World → List Nat → Prop)
  (hR : ∀ w1 fp1 v, R w1 fp1 → p ∈ fp1 → p < w1.heap.size → R (w1.setCell ⟨p, 3, none⟩ v) fp1)
  (hC : ∀ w1, PaAt K w1 p i (o + 1) sn ns fp → PaTo w fp w1 fp → Calls Tryz.prog fn args w1 (fun e w2 => e = .returned (natV n) ∧ ∃ fp2, PaAt K w2 p j (o + 1) sn ns' fp2 ∧ PaTo w1 fp w2 fp2 ∧ R w2 fp2)) :
  Calls Tryz.prog 74 #[.pointer (some ⟨p, 0, none⟩), natV a, .func (.func fn) fst cap] w (fun e w2 => e = .returned (natV n) ∧ ∃ fp2, PaAt K w2 p j o sn ns' fp2 ∧ PaTo w fp w2 fp2 ∧ R w2 fp2) := by
 obtain ⟨o1, ho1⟩ : ∃ o1, o1 = o + 1 := ⟨_, rfl⟩
 rw [← ho1] at hC
 have hadd : (o : Int) + 1 = (o1 : Int) := by omega
 have hw : IntKind.i64.wrap (o1 : Int) = (o1 : Int) := IntWalk.i64_in _ (by omega)
 have hgt : ¬ (150 : Int) < (o1 : Int) := by omega
 have hsub : (o1 : Int) - 1 = (o : Int) := by omega
 have hw0 : IntKind.i64.wrap (o : Int) = (o : Int) := IntWalk.i64_in _ (by omega)
 have H := zh h
 have HC := zh hC
 have HR := zh hR
 have HO := zh ho1
 obtain ⟨nv, l, hm⟩ := h.mem
 obtain ⟨-, -, -, c3, -, cf⟩ := pa_cell hm.blk
 have c3f := cf 3
 have pl := blk_lt hm.blk
 have e3 : (w.setCell ⟨p, 3, none⟩ (.int .i64 (o1 : Int))).cell? ⟨p, 3, none⟩ = some (.int .i64 (o1 : Int)) := cell_of_blk (blk_set (i := 3) hm.blk _) rfl
 clear h hm cf ho ho1 hC hR
 unfold natV
 go_enter Tryz.func74, Tryz.ntmps74
 go_wp2_with fail
 refine (HC.out _ (H.out.setO o1).1 (H.out.setO o1).2).mono ?_
 rintro e w1 ⟨rfl, fp1, h1, h2, h3⟩
 have H1 := zh h1
 have H2 := zh h2
 have H3 := zh h3
 obtain ⟨nv2, l2, hm2⟩ := h1.mem
 obtain ⟨-, -, -, z3, -, zf⟩ := pa_cell hm2.blk
 have z3f := zf 3
 have zl := blk_lt hm2.blk
 clear h1 h2 h3 hm2 zf c3 c3f pl e3
 unfold natV
 go_wp2
 go_ret
 obtain ⟨q1, q2⟩ := H1.out.setO o
 exact ⟨rfl, fp1, q1, ((H.out.setO o1).2.trans H2.out).trans q2, HR.out _ _ _ H3.out H1.out.fpp H1.out.lt⟩
end

def sliceLen : Value → Nat
 | .slice _ n _ => n
 | _ => 0
def ItemOut (K : PaK) (w : World) (p o : Nat) (sn : Fin 8 → Bool) (ns : List Nd) (fp : List Nat) (Inv : List PT → World → List Nat → Prop) (acc : List PT) : Res PT → Ending → World → Prop
 | .bad a n => OutB w p a n
 | .ok t j => fun e w' => e = .returned (natV (ns.length + ptS t - 1)) ∧ ∃ fp', PaAt K w' p j o sn (ns ++ flat ns.length t) fp' ∧ PaTo w fp w' fp' ∧ Inv (acc ++ [t]) w' fp'
theorem item_fit {T : List Tok} {M g : Nat} (h : TokOk T M) {it : Item} {acc : List PT} {o i j : Nat} {t : PT} (hi : i < T.length) (hX : (parF T g).one (it.nt acc) o i = some (.ok t j)) : j < T.length ∧ i < j ∧ ptS t ≤ 4 * (j - i) := by
 have := (fit_all h g).one (it.nt acc) o i hi
 rw [hX] at this
 obtain ⟨h1, h2, h3⟩ := this
 cases it <;> (simp only [Item.nt, lazy1, sl1, ex1, Bool.false_eq_true, if_false] at h2 h3; exact ⟨h1, h2, by omega⟩)
section
variable {K : PaK} {w0 w w' : World} {p i j o : Nat} {sn : Fin 8 → Bool} {ns : List Nd} {fp0 fp fp' : List Nat} {L : List PT}
theorem ptsS_len : ∀ l : List PT, l.length ≤ ptsS l
 | [] => by simp
 | t :: r => by rw [ptsS, List.length_cons]; have := ptsS_len r; have := ptS_pos t; omega
theorem Ints.push {v : Value} {l : List Nat} {n g cap : Nat} {A : Option Addr} {c : Nat} (h : Ints w p fp v l) (hv : v = .slice A l.length c) (hp : p < w.heap.size) (hg : w.grownBy w' v.ownBlock) (ho : w'.ownsRow (p + 1) 3 1 (.slice (some ⟨g, 0, none⟩) (l.length + 1) cap) (l.length + 1) (l.map natV ++ [natV n]))
  (hat : v.ownBlock = some g ∨ (w.heap.size ≤ g ∧ g ∉ fp)) : Ints w' p fp (.slice (some ⟨g, 0, none⟩) (l.length + 1) cap) (l ++ [n]) := by
 refine ⟨by simpa using ho, fun g' hg' => ?_, fun e => by simp at e⟩
 have e : g = g' := by simpa [Value.ownBlock] using hg'
 subst e
 have h1 := own_blk_lt ho (g := g) rfl
 rcases hat with e | ⟨e1, e2⟩
 ·exact ⟨(h.away g e).1, h1.2, (h.away g e).2.2⟩
 ·exact ⟨by omega, h1.2, e2⟩
theorem until_any {F : Nat} (h : PaAt K w p i o sn ns fp) (hroom : Room K i ns) (ho : o ≤ 150) (e : ByteArray) (it : Item) {fn : FuncId} {fst cap args : Array Value} (hcall : ∀ W, (callFunc fn args).run Tryz.prog W = .ok (.enter fn args) W) (harg : fst ++ cap = args)
  (Inv : List PT → World → List Nat → Prop) (hI0 : Inv [] w fp) (hIS : ∀ acc w1 w2 fp1 S, Inv acc w1 fp1 → Fr S w1 w2 → (∀ b ∈ S, b ∈ fp1 ∨ w.heap.size ≤ b) → Inv acc w2 fp1)
  (hC : ∀ g acc w1 i1 ns1 fp1, g ≤ F → PaAt K w1 p i1 o sn ns1 fp1 → Room K i1 ns1 → Inv acc w1 fp1 → ∀ r, (parF K.T g).one (it.nt acc) o i1 = some r → Calls Tryz.prog fn args w1 (ItemOut K w1 p o sn ns1 fp1 Inv acc r))
  {r : Res (List PT)} (hr : (parF K.T F).many (.until e it []) o i = some r) :
  Calls Tryz.prog 96 #[.pointer (some ⟨p, 0, none⟩), .string e, .func (.func fn) fst cap] w (OutL K w p o sn ns fp r) := by
 obtain ⟨iI, hiI, hI0', hI1', hI2'⟩ := info_parts infoIn
 have HBG := zh (Beg.of h)
 have HTK := zh h.env.tok
 have HRO := zh hroom
 have HIS := zh hIS
 have HC := zh hC
 have HS0 := zh (St.start h)
 have HLEN := zh h.env.len
 have HR0 := zh hr
 have HIN := zh hI0
 have HNI := zh h
 have HO := zh ho
 clear h hroom hIS hC hr hI0 ho
 go_enter Tryz.func96, Tryz.ntmps96
 go_wp2_with fail
 go_loopw [7] (fun lv wr => ∃ (acc : List PT) (i1 : Nat) (fp1 : List Nat) (g : Nat), Hid (St K w p i1 o sn ns fp acc wr fp1) ∧ Hid (Ints wr p fp1 lv (roots ns.length acc)) ∧ Hid (∀ g', lv.ownBlock = some g' → w.heap.size ≤ g') ∧ Hid (Inv acc wr fp1) ∧ Hid (g ≤ F ∧ (parF K.T g).many (.until e it acc) o i1 = some r) ∧ Hid (i1 < K.T.length ∧ ns.length + ptsS acc + 4 * (K.T.length - i1) ≤ 900000)) (fun lv _ => 900001 - sliceLen lv)
 case atStart => exact ⟨[], i, fp, F, HS0, zh (Ints.nil _ _ _), zh (fun g' hg' => by simp [Value.ownBlock] at hg'), HIN, zh ⟨znr, HR0.out⟩, zh ⟨HRO.out.1, by have := HRO.out.2; simpa [ptsS] using this⟩⟩
 case round =>
  obtain ⟨acc, i1, fp1, g0, HS, HV, HVN, HIV, HG0, HRM⟩ := hrel; obtain ⟨hg0, hr⟩ := HG0.out
  cases g0 with
  | zero => exact absurd hr (by simp [parF])
  | succ g =>
  have HG := zh (show g + 1 ≤ F ∧ True from ⟨hg0, trivial⟩); clear hg0 HG0
  change stepUntil K.T (parF K.T g) e it acc o i1 = some r at hr
  unfold stepUntil at hr; obtain ⟨A1, c1, hlv, hlc1, hlc2, hfm⟩ := own_form HV.out.own; subst hlv; obtain ⟨rl, hrl⟩ : ∃ k, k = (roots ns.length acc).length := ⟨_, rfl⟩; have HRL := zh hrl; have HRL2 := zh (show rl ≤ 900000 by rw [hrl, roots_len]; have := ptsS_len acc; have := HRM.out.2; omega); have HRLA := zh (show rl = acc.length by rw [hrl, roots_len]); rw [← hrl]; clear hlc1 hlc2 hfm
  cases hb : isAny (tk K.T i1) [e] with
  | true =>
   rw [if_pos hb] at hr; have HRR := zh (show Res.ok acc (i1 + 1) = r from Option.some.inj hr); have HGO := zh (got_yes HS.out.pa HRM.out.1 e hb); clear hr hb hrl; go_wp2_with fail
   refine HGO.out.mono ?_; rintro e w2 ⟨rfl, h1, h2⟩; have HS2 := zh (HS.out.step h1 h2); have HV2 := zh (HV.out.to h2); clear h1 h2; go_wp2
   go_ret
   exact (by rw [← HRR.out]; exact ⟨.slice A1 rl c1, fp1, rfl, HS2.out.pa, HS2.out.pt, by have h9 := HV2.out; rw [← HRL.out] at h9; exact h9, by have h9 := HVN.out; rw [← HRL.out] at h9; exact h9⟩)
  | false =>
   rw [if_neg (by rw [hb]; decide)] at hr; have HGO := zh (got_no HS.out.pa HRM.out.1 e hb); clear hb; have HR := zh hr; clear hr hrl; go_wp2_with fail
   refine HGO.out.mono ?_; rintro e w2 ⟨rfl, h1, h2⟩; have HS2 := zh (HS.out.below h2); have HV2 := zh (HV.out.to (PaTo.of_below HS.out.pa h2)); have HI2 := zh (HIS.out _ _ _ _ [] HIV.out (Fr.of_below h2 []) (by simp)); clear h1 h2; by_cases hac : acc = []
   ·have hrl0 : rl = 0 := by rw [HRLA.out, hac]; rfl
    have hr := HR.out; rw [if_pos hac] at hr; clear HR; have hq : ¬ (0 : Int) < (rl : Int) := by omega
    have HLT := zh HRM.out.1; clear hac hrl0; obtain ⟨x, hX⟩ : ∃ x, (parF K.T g).one (it.nt acc) o i1 = x := ⟨_, rfl⟩; rw [hX] at hr
    cases x with
    | none => exact absurd hr (by simp [Res.then])
    | some x =>
    have HLN := zh (show ns.length + ptsS acc + 4 * (K.T.length - i1) ≤ 900000 by have := HRM.out; have := HLT.out; omega)
    cases x with
    | bad a n =>
     have HRR := zh (show Res.bad a n = r from by dsimp only [Res.then] at hr; exact Option.some.inj hr); have HCC := zh (HC.out g acc _ i1 _ _ (by have := HG.out.1; omega) HS2.out.pa ⟨HLT.out, by rw [len_more]; exact HLN.out⟩ HI2.out _ hX); clear hr hX; go_wp2_with fail
     refine HCC.out.mono ?_; rintro e w3 ⟨rfl, hb3⟩; have HB3 := zh (HS2.out.bad HBG.out hb3); clear hb3; unfold wrongP; go_wp2
     exact ⟨rfl, by rw [← HRR.out]; exact ⟨rfl, HB3.out⟩⟩
    | ok t j =>
     have hft := item_fit HTK.out HLT.out hX; have HFT := zh hft; have HRR := zh (show (parF K.T g).many (.until e it (acc ++ [t])) o j = some r from by dsimp only [Res.then] at hr; exact hr); have HCC := zh (HC.out g acc _ i1 _ _ (by have := HG.out.1; omega) HS2.out.pa ⟨HLT.out, by rw [len_more]; exact HLN.out⟩ HI2.out _ hX); clear hr hX hft; go_wp2_with fail
     refine HCC.out.mono ?_; rintro e w3 ⟨rfl, fp3, h3, h4, h5⟩; obtain ⟨n1, hn1⟩ : ∃ n, n = (ns ++ flats ns.length acc).length + ptS t - 1 := ⟨_, rfl⟩; rw [← hn1]; have HN1 := zh (show n1 = nr ns acc t by rw [hn1, len_more]; rfl); have HS3 := zh (show St K w p j o sn ns fp (acc ++ [t]) w3 fp3 from ⟨by rw [← flats_one_more]; exact h3, HS2.out.pt.trans h4⟩); have HV3 := zh (HV2.out.to h4); have HI3 := zh h5; clear h3 h4 h5 hn1; unfold natV; go_wp2_with (at_builtin; (refine wpList_append_lies _ rfl _ _ _ rfl (p + 1) 3 iI (.int .i64 0) 1 8 Tryz.underlying29 hiI hI0' hI1' hI2' rfl (by omega) _ rl ((roots ns.length acc).map natV) rfl ((by rw [HRL.out]; exact HV3.out.own : w3.ownsRow (p + 1) 3 1 (.slice A1 rl c1) rl ((roots ns.length acc).map natV)).alloc _) ⟨w3.heap.size, 0, none⟩ 1 1 [.int .i64 (n1 : Int)] rfl rfl (news_new _ #[.int .i64 (n1 : Int)] _ _ rfl) (by simp [Value.oneCell']) (by omega) (by have := HRL2.out; unfold maxLen; omega) (by have := HRL2.out; omega) (by have := HS3.out.pa.lt; simp; omega) (w3.heap.size + 1) (by simp) ?_); intro gb cap w4 hown4 hgrow4 hat4 hlt4; have HO4 := zh hown4; have HG4 := zh (show World.grownBy _ w4 (Value.slice A1 rl c1).ownBlock from hgrow4); have HA4 := zh (show (Value.slice A1 rl c1).ownBlock = some gb ∨ gb = w3.heap.size + 1 from hat4); clear hown4 hgrow4 hat4)
     have HFR := zh (show Fr ((Value.slice A1 rl c1).ownBlock.toList) w3 w4 from ((Fr.refl _ _).alloc _).grown HG4.out (fun g' hg' => .inl (by simp [hg']))); have HAW := zh (show ∀ b ∈ (Value.slice A1 rl c1).ownBlock.toList, p ≤ b ∧ b ∉ fp3 ∧ w.heap.size ≤ b from fun b hb => by
      have hb' : (Value.slice A1 rl c1).ownBlock = some b := by simpa using hb
      rw [HRL.out] at hb'; have h9 := HV3.out.away b hb'; exact ⟨h9.1, h9.2.2, HVN.out b hb'⟩)
     have HV4 := zh (show Ints w4 p fp3 (.slice (some ⟨gb, 0, none⟩) (rl + 1) cap) (roots ns.length (acc ++ [t])) from by
      rw [roots_more, ← HN1.out]; have h8 : (w3.alloc (.cells #[.int .i64 (n1 : Int)] 3)).heap.size = w3.heap.size + 1 := by simp
      have h9 := Ints.push (n := n1) (cap := cap) (g := gb) ((HV3.out.to (PaTo.of_below HS3.out.pa (zbr.alloc znr (.cells #[.int .i64 (n1 : Int)] 3)))) ) (by rw [← HRL.out]) (by have := HS3.out.pa.lt; omega) (by rw [← HRL.out]; exact HG4.out) (by rw [← HRL.out]; exact HO4.out) (by rw [← HRL.out]; exact HA4.out.imp id fun e9 => ⟨by omega, HS3.out.pa.notin (by omega)⟩); rw [← HRL.out] at h9; exact h9)
     have HVN4 := zh (show ∀ g', (Value.slice (some ⟨gb, 0, none⟩) (rl + 1) cap).ownBlock = some g' → w.heap.size ≤ g' from fun g' hg' => by
      have e9 : gb = g' := by simpa [Value.ownBlock] using hg'
      rw [← e9]
      rcases HA4.out with h9 | h9
      ·rw [HRL.out] at h9; exact HVN.out gb h9
      ·have := HS3.out.pt.fr.size; omega)
     go_roundw
     case rel => exact ⟨acc ++ [t], j, fp3, g, zh (HS3.out.own HFR.out HAW.out), HV4, HVN4, zh (HIS.out _ _ _ _ _ HI3.out HFR.out fun b hb => .inr (HAW.out b hb).2.2), zh ⟨by have := HG.out.1; omega, HRR.out⟩, zh ⟨HFT.out.1, by rw [ptsS_append, ptsS_one]; have := HFT.out; have := HLN.out; have := HLT.out; omega⟩⟩
     case measure => have := HRL2.out; simp [sliceLen]; omega
   ·have hrl0 : 0 < rl := by rw [HRLA.out]; exact List.length_pos_iff.2 hac
    have hr := HR.out; rw [if_neg hac] at hr; clear HR; have hq : (0 : Int) < (rl : Int) := by omega
    unfold need at hr; clear hac
    cases hb : isAny (tk K.T i1) [⟨#[44]⟩] with
    | false =>
     rw [if_neg (by rw [hb]; decide)] at hr; have HRR := zh (show Res.bad (tk K.T i1).a 70 = r from Option.some.inj hr); have HND := zh (need_no HS2.out.pa HRM.out.1 _ hb); clear hr hb hrl0; go_wp2_with fail
     refine HND.out.mono ?_; rintro e w3 ⟨rfl, hb3⟩; have HB3 := zh (HS2.out.bad HBG.out hb3); clear hb3; unfold wrongP; go_wp2
     exact ⟨rfl, by rw [← HRR.out]; exact ⟨rfl, HB3.out⟩⟩
    | true =>
     rw [if_pos hb] at hr; have HND := zh (need_yes HS2.out.pa HRM.out.1 _ hb); have HLT := zh (any_lt HTK.out HRM.out.1 hb); have HR := zh hr; clear hr hb hrl0; go_wp2_with fail
     refine HND.out.mono ?_; rintro e w2b ⟨rfl, h1, h2⟩; have HS2b := zh (HS2.out.step h1 h2); have HV2b := zh (HV2.out.to h2); have HI2b := zh (HIS.out _ _ _ _ _ HI2.out h2.fr fun b hb => .inl hb); clear h1 h2; have hr := HR.out; clear HR; obtain ⟨x, hX⟩ : ∃ x, (parF K.T g).one (it.nt acc) o (i1 + 1) = x := ⟨_, rfl⟩; rw [hX] at hr
     cases x with
     | none => exact absurd hr (by simp [Res.then])
     | some x =>
     have HLN := zh (show ns.length + ptsS acc + 4 * (K.T.length - (i1 + 1)) ≤ 900000 by have := HRM.out; have := HLT.out; omega)
     cases x with
     | bad a n =>
      have HRR := zh (show Res.bad a n = r from by dsimp only [Res.then] at hr; exact Option.some.inj hr); have HCC := zh (HC.out g acc _ (i1 + 1) _ _ (by have := HG.out.1; omega) HS2b.out.pa ⟨HLT.out, by rw [len_more]; exact HLN.out⟩ HI2b.out _ hX); clear hr hX; go_wp2_with fail
      refine HCC.out.mono ?_; rintro e w3 ⟨rfl, hb3⟩; have HB3 := zh (HS2b.out.bad HBG.out hb3); clear hb3; unfold wrongP; go_wp2
      exact ⟨rfl, by rw [← HRR.out]; exact ⟨rfl, HB3.out⟩⟩
     | ok t j =>
      have hft := item_fit HTK.out HLT.out hX; have HFT := zh hft; have HRR := zh (show (parF K.T g).many (.until e it (acc ++ [t])) o j = some r from by dsimp only [Res.then] at hr; exact hr); have HCC := zh (HC.out g acc _ (i1 + 1) _ _ (by have := HG.out.1; omega) HS2b.out.pa ⟨HLT.out, by rw [len_more]; exact HLN.out⟩ HI2b.out _ hX); clear hr hX hft; go_wp2_with fail
      refine HCC.out.mono ?_; rintro e w3 ⟨rfl, fp3, h3, h4, h5⟩; obtain ⟨n1, hn1⟩ : ∃ n, n = (ns ++ flats ns.length acc).length + ptS t - 1 := ⟨_, rfl⟩; rw [← hn1]; have HN1 := zh (show n1 = nr ns acc t by rw [hn1, len_more]; rfl); have HS3 := zh (show St K w p j o sn ns fp (acc ++ [t]) w3 fp3 from ⟨by rw [← flats_one_more]; exact h3, HS2b.out.pt.trans h4⟩); have HV3 := zh (HV2b.out.to h4); have HI3 := zh h5; clear h3 h4 h5 hn1; unfold natV; go_wp2_with (at_builtin; (refine wpList_append_lies _ rfl _ _ _ rfl (p + 1) 3 iI (.int .i64 0) 1 8 Tryz.underlying29 hiI hI0' hI1' hI2' rfl (by omega) _ rl ((roots ns.length acc).map natV) rfl ((by rw [HRL.out]; exact HV3.out.own : w3.ownsRow (p + 1) 3 1 (.slice A1 rl c1) rl ((roots ns.length acc).map natV)).alloc _) ⟨w3.heap.size, 0, none⟩ 1 1 [.int .i64 (n1 : Int)] rfl rfl (news_new _ #[.int .i64 (n1 : Int)] _ _ rfl) (by simp [Value.oneCell']) (by omega) (by have := HRL2.out; unfold maxLen; omega) (by have := HRL2.out; omega) (by have := HS3.out.pa.lt; simp; omega) (w3.heap.size + 1) (by simp) ?_); intro gb cap w4 hown4 hgrow4 hat4 hlt4; have HO4 := zh hown4; have HG4 := zh (show World.grownBy _ w4 (Value.slice A1 rl c1).ownBlock from hgrow4); have HA4 := zh (show (Value.slice A1 rl c1).ownBlock = some gb ∨ gb = w3.heap.size + 1 from hat4); clear hown4 hgrow4 hat4)
      have HFR := zh (show Fr ((Value.slice A1 rl c1).ownBlock.toList) w3 w4 from ((Fr.refl _ _).alloc _).grown HG4.out (fun g' hg' => .inl (by simp [hg']))); have HAW := zh (show ∀ b ∈ (Value.slice A1 rl c1).ownBlock.toList, p ≤ b ∧ b ∉ fp3 ∧ w.heap.size ≤ b from fun b hb => by
       have hb' : (Value.slice A1 rl c1).ownBlock = some b := by simpa using hb
       rw [HRL.out] at hb'; have h9 := HV3.out.away b hb'; exact ⟨h9.1, h9.2.2, HVN.out b hb'⟩)
      have HV4 := zh (show Ints w4 p fp3 (.slice (some ⟨gb, 0, none⟩) (rl + 1) cap) (roots ns.length (acc ++ [t])) from by
       rw [roots_more, ← HN1.out]; have h8 : (w3.alloc (.cells #[.int .i64 (n1 : Int)] 3)).heap.size = w3.heap.size + 1 := by simp
       have h9 := Ints.push (n := n1) (cap := cap) (g := gb) ((HV3.out.to (PaTo.of_below HS3.out.pa (zbr.alloc znr (.cells #[.int .i64 (n1 : Int)] 3)))) ) (by rw [← HRL.out]) (by have := HS3.out.pa.lt; omega) (by rw [← HRL.out]; exact HG4.out) (by rw [← HRL.out]; exact HO4.out) (by rw [← HRL.out]; exact HA4.out.imp id fun e9 => ⟨by omega, HS3.out.pa.notin (by omega)⟩); rw [← HRL.out] at h9; exact h9)
      have HVN4 := zh (show ∀ g', (Value.slice (some ⟨gb, 0, none⟩) (rl + 1) cap).ownBlock = some g' → w.heap.size ≤ g' from fun g' hg' => by
       have e9 : gb = g' := by simpa [Value.ownBlock] using hg'
       rw [← e9]
       rcases HA4.out with h9 | h9
       ·rw [HRL.out] at h9; exact HVN.out gb h9
       ·have := HS3.out.pt.fr.size; omega)
      go_roundw
      case rel => exact ⟨acc ++ [t], j, fp3, g, zh (HS3.out.own HFR.out HAW.out), HV4, HVN4, zh (HIS.out _ _ _ _ _ HI3.out HFR.out fun b hb => .inr (HAW.out b hb).2.2), zh ⟨by have := HG.out.1; omega, HRR.out⟩, zh ⟨HFT.out.1, by rw [ptsS_append, ptsS_one]; have := HFT.out; have := HLN.out; have := HLT.out; omega⟩⟩
      case measure => have := HRL2.out; simp [sliceLen]; omega
end

section
variable {K : PaK} {w0 w w' : World} {p i j o : Nat} {sn : Fin 8 → Bool} {ns : List Nd} {fp0 fp fp' : List Nat} {L : List PT}
theorem St.out {t : PT} (h : St K w0 p i o sn ns fp0 [t] w fp) : OutP K w0 p o sn ns fp0 (.ok t i) (.returned (natV (nr ns [] t))) w :=
 ⟨by simp [nr, ptsS], fp, by have := h.pa; simpa [flats_one] using this, h.pt⟩
theorem built_neg {s : ByteArray} (h : builtinL s = none) : builtI s = -1 := by unfold builtI; rw [h]
theorem built_pos {s : ByteArray} {n : Nat} (h : builtinL s = some n) : builtI s = (n : Int) ∧ (n = 1 ∨ n = 2) := by
 refine ⟨by unfold builtI; rw [h], ?_⟩
 unfold builtinL at h
 split at h
 ·exact .inl (Option.some.inj h).symm
 ·split at h
  ·exact .inr (Option.some.inj h).symm
  ·cases h
theorem variable_ok (h : PaAt K w p i o sn ns fp) (hi : i < K.T.length) (hk : (tk K.T i).kind = 1) (hbu : builtinL (tk K.T i).text = none) :
  Calls Tryz.prog 72 #[.pointer (some ⟨p, 0, none⟩)] w (OutV K w p (i + 1) o sn ns fp (tokJ (tk K.T i))) := by
 have hb0 : Below w.heap.size w (w.alloc (.cells tokZ0 65)) := zbr.alloc znr _
 have HN := zh (token_ok (h.below hb0) hi 1 hk)
 have HBU := zh (built_neg hbu)
 obtain ⟨t, ht⟩ : ∃ t, t = tk K.T i := ⟨_, rfl⟩
 rw [← ht] at HN HBU ⊢
 obtain ⟨g, hg⟩ : ∃ g, g = w.heap.size := ⟨_, rfl⟩
 have HG := zh hg
 have H := zh h
 have HZ := zh (show (w.alloc (.cells tokZ0 65)).heap[g]? = some (.cells tokZ0 65 (0, 0)) from heap_new_at _ _ _ hg.symm)
 have HZA := zh (show g ∉ fp from h.notin (Nat.le_of_eq hg.symm))
 clear h ht hk hb0 hg hbu
 go_enter Tryz.func72, Tryz.ntmps72
 go_wp2_with fail
 rw [← HG.out]
 refine HN.out.mono ?_
 rintro e w1 ⟨rfl, hp1, ht1⟩
 have HZ1 := zh (ht1.fr.blk HZ.out HZA.out)
 have HP1 := zh hp1
 have HT1 := zh ((PaTo.of_below H.out ((Below.refl w.heap.size w).alloc znr _)).trans ht1)
 clear hp1 ht1
 unfold tokJ
 go_upto_region 2 with fail
 obtain ⟨b, hb⟩ : ∃ b, b = w1.heap.size := ⟨_, rfl⟩
 rw [← hb]
 refine gen_wpT fun W hW => ?_
 have HT := zh (show W.heap[b]? = some (.cells (tokA0 t) 65 (0, 0)) by rw [← hW]; exact heap_new_at _ _ _ hb.symm)
 have HZ2 := zh (show W.heap[g]? = some (.cells tokZ0 65 (0, 0)) by rw [← hW]; exact blk_alloc HZ1.out _)
 have HWB := zh (show Below w1.heap.size w1 W by rw [← hW]; exact zbr.alloc znr _)
 have HNE := zh (show b ≠ g from by have h1 := blk_lt HZ1.out; omega)
 have HPW := zh (HP1.out.below HWB.out)
 have HTW := zh (HT1.out.trans (PaTo.of_below HP1.out HWB.out))
 clear hW hb
 obtain ⟨t0, t1, t2, t3, t4, tl⟩ := blk5 HT.out
 go_wp2_with fail
 refine (builtin_any _ _).mono ?_
 rintro e w2 ⟨rfl, rfl⟩
 rw [HBU.out]
 obtain ⟨z0, z1, z2, z3, z4, zl⟩ := blk5 HZ2.out
 obtain ⟨y0, y1, y2, y3, y4⟩ := frz5 HZ2.out
 have n1 := HNE.out
 go_wp2
 obtain ⟨j0, j1, j2, j3, j4⟩ := tok_five HZ2.out rfl (.int .i64 t.kind) (.string t.text) (.int .i64 (t.a : Int)) (.int .i64 (t.z : Int)) (.int .i64 t.n)
 have hfr := fr_five W g (.int .i64 t.kind) (.string t.text) (.int .i64 (t.a : Int)) (.int .i64 (t.z : Int)) (.int .i64 t.n)
 have hgf : p ≤ g ∧ g ∉ fp := ⟨by have := H.out.lt; have := HG.out; omega, HZA.out⟩
 have HFIN := zh (show OutV K w p (i + 1) o sn ns fp (tokJ t) (.returned (tokJ t)) (set5 W g (.int .i64 t.kind) (.string t.text) (.int .i64 (t.a : Int)) (.int .i64 (t.z : Int)) (.int .i64 t.n)) from
  ⟨rfl, HPW.out.fr hfr (by simpa using hgf), ⟨HTW.out.fr.trans hfr fun b hb => .inr (by rw [List.mem_singleton.1 hb, HG.out]; exact znr), fun b hb => .inl hb⟩⟩)
 clear hfr hgf
 refine bodyPost_ret (v := tokJ t) (by simp [results, Tryz.results72, go_sem, j0, j1, j2, j3, j4]) rfl ?_
 exact HFIN.out
theorem variable_no (h : PaAt K w p i o sn ns fp) (hi : i < K.T.length) (hk : ¬ (tk K.T i).kind = 1) :
  Calls Tryz.prog 72 #[.pointer (some ⟨p, 0, none⟩)] w (OutB w p (tk K.T i).a 70) := by
 have hb0 : Below w.heap.size w (w.alloc (.cells tokZ0 65)) := zbr.alloc znr _
 have HN := zh (token_no (h.below hb0) hi 1 hk)
 have H := zh h
 clear h hk hb0
 go_enter Tryz.func72, Tryz.ntmps72
 go_wp2_with fail
 refine HN.out.mono ?_
 rintro e w1 ⟨rfl, hb⟩
 have HB := zh (show Below p w w1 from (((Below.refl w.heap.size w).alloc znr _).mono (Nat.le_of_lt H.out.lt)).trans hb)
 clear hb
 unfold wrongP
 go_wp2
 exact ⟨rfl, rfl, HB.out⟩
theorem variable_builtin (h : PaAt K w p i o sn ns fp) (hi : i < K.T.length) (hk : (tk K.T i).kind = 1) {n : Nat} (hbu : builtinL (tk K.T i).text = some n) :
  Calls Tryz.prog 72 #[.pointer (some ⟨p, 0, none⟩)] w (OutB w p (tk K.T i).a 70) := by
 have hb0 : Below w.heap.size w (w.alloc (.cells tokZ0 65)) := zbr.alloc znr _
 have HN := zh (token_ok (h.below hb0) hi 1 hk)
 have HBU := zh (built_pos hbu).1
 obtain ⟨t, ht⟩ : ∃ t, t = tk K.T i := ⟨_, rfl⟩
 rw [← ht] at HN HBU ⊢
 have hn0 : (0 : Int) ≤ (n : Int) := by omega
 have H := zh h
 clear h ht hk hb0 hbu
 go_enter Tryz.func72, Tryz.ntmps72
 go_wp2_with fail
 refine HN.out.mono ?_
 rintro e w1 ⟨rfl, hp1, ht1⟩
 have HP1 := zh hp1
 have HT1 := zh (((PaTo.of_below H.out ((Below.refl w.heap.size w).alloc znr _)).trans ht1).below H.out)
 clear hp1 ht1
 unfold tokJ
 go_upto_region 2 with fail
 obtain ⟨b, hb⟩ : ∃ b, b = w1.heap.size := ⟨_, rfl⟩
 rw [← hb]
 refine gen_wpT fun W hW => ?_
 have HT := zh (show W.heap[b]? = some (.cells (tokA0 t) 65 (0, 0)) by rw [← hW]; exact heap_new_at _ _ _ hb.symm)
 have HTW := zh (show Below p w W by rw [← hW]; exact HT1.out.alloc (Nat.le_of_lt HP1.out.lt) _)
 clear hW hb
 obtain ⟨t0, t1, t2, t3, t4, tl⟩ := blk5 HT.out
 go_wp2_with fail
 refine (builtin_any _ _).mono ?_
 rintro e w2 ⟨rfl, rfl⟩
 rw [HBU.out]
 go_wp2_with fail
 refine (no_any _ t.a _).mono ?_
 rintro e w3 ⟨rfl, rfl⟩
 unfold wrongP
 go_wp2
 exact ⟨rfl, rfl, HTW.out⟩
def OutM (K : PaK) (w : World) (p o : Nat) (sn : Fin 8 → Bool) (ns : List Nd) (fp : List Nat) : Res ByteArray → Ending → World → Prop
 | .bad a n => OutB w p a n
 | .ok x j => OutV K w p j o sn ns fp (.string x)
theorem mask_then {α : Type} {T : List Tok} {i : Nat} {k : ByteArray → Nat → Option (Res α)} : maskL T i k = Res.then (maskL T i one1) k := by
 unfold maskL token
 by_cases h1 : isAny (tk T i) [⟨#[45]⟩] = true
 ·rw [if_pos h1, if_pos h1]
  by_cases h2 : (tk T (i + 1)).kind = 3
  ·rw [if_pos h2, if_pos h2]
   dsimp only
   by_cases h3 : (tk T (i + 1)).n < 0
   ·rw [if_pos h3, if_pos h3]; rfl
   ·rw [if_neg h3, if_neg h3]; rfl
  ·rw [if_neg h2, if_neg h2]; rfl
 ·rw [if_neg h1, if_neg h1]
  by_cases h2 : (tk T i).kind = 3
  ·rw [if_pos h2, if_pos h2]; rfl
  ·rw [if_neg h2, if_neg h2]; rfl
theorem mask_any (h : PaAt K w p i o sn ns fp) (hi : i < K.T.length) {r : Res ByteArray} (hr : maskL K.T i one1 = some r) :
  Calls Tryz.prog 45 #[.pointer (some ⟨p, 0, none⟩)] w (OutM K w p o sn ns fp r) := by
 unfold maskL at hr
 have H := zh h
 cases hb : isAny (tk K.T i) [⟨#[45]⟩] with
 | false =>
  rw [if_neg (by rw [hb]; decide)] at hr; have HGO := zh (got_no h hi _ hb); unfold token at hr; clear h hb; by_cases hk : (tk K.T i).kind = 3
  ·rw [if_pos hk] at hr
   have HRR := zh (show Res.ok (numText (tk K.T i).n) (i + 1) = r from Option.some.inj hr); have HTN := zh (H.out.env.tok.num i); have HTO := zh (fun w1 (h1 : PaAt K w1 p i o sn ns fp) => token_ok h1 hi 3 hk); clear hr hk; obtain ⟨t, ht⟩ : ∃ t, t = tk K.T i := ⟨_, rfl⟩; rw [← ht] at HTO HTN HRR; clear ht
   go_enter Tryz.func45, Tryz.ntmps45
   go_wp2_with fail
   refine HGO.out.mono ?_; rintro e w1 ⟨rfl, h1, h2⟩; have HT1 := zh (HTO.out w1 h1); have HB1 := zh (PaTo.of_below H.out h2); clear h1 h2; go_wp2_with fail
   refine HT1.out.mono ?_; rintro e w2 ⟨rfl, h1, h2⟩; have HP2 := zh h1; have HT2 := zh (HB1.out.trans h2); clear h1 h2; unfold tokJ
   go_upto_region 3 with fail
   obtain ⟨b, hb⟩ : ∃ b, b = w2.heap.size := ⟨_, rfl⟩; rw [← hb]; refine gen_wpT fun W hW => ?_; have HTB := zh (show W.heap[b]? = some (.cells (tokA0 t) 65 (0, 0)) by rw [← hW]; exact heap_new_at _ _ _ hb.symm); have HWB := zh (show Below w2.heap.size w2 W by rw [← hW]; exact zbr.alloc znr _); have HPW := zh (HP2.out.below HWB.out); have HTW := zh (HT2.out.trans (PaTo.of_below HP2.out HWB.out)); clear hW hb; obtain ⟨t0, t1, t2, t3, t4, tl⟩ := blk5 HTB.out; have HSH := zh (nshow_any t.n W HTN.out.1 HTN.out.2 HPW.out.env.tab); go_wp2_with fail
   refine HSH.out.mono ?_; rintro e w3 ⟨rfl, hb3⟩; have HFIN := zh (show OutV K w p (i + 1) o sn ns fp (.string (numText t.n)) (.returned (.string (numText t.n))) w3 from ⟨rfl, HPW.out.below hb3, HTW.out.trans (PaTo.of_below HPW.out hb3)⟩); clear hb3; go_wp2
   go_ret
   exact (by rw [← HRR.out]; exact HFIN.out)
  ·rw [if_neg hk] at hr
   have HRR := zh (show Res.bad (tk K.T i).a 70 = r from Option.some.inj hr); have HTO := zh (fun w1 (h1 : PaAt K w1 p i o sn ns fp) => token_no h1 hi 3 hk); clear hr hk
   go_enter Tryz.func45, Tryz.ntmps45
   go_wp2_with fail
   refine HGO.out.mono ?_; rintro e w1 ⟨rfl, h1, h2⟩; have HT1 := zh (HTO.out w1 h1); have HB1 := zh ((PaTo.of_below H.out h2).below H.out); clear h1 h2; go_wp2_with fail
   refine HT1.out.mono ?_; rintro e w2 ⟨rfl, h2⟩; have HFB := zh (HB1.out.trans h2); clear h2; unfold wrongP; go_wp2
   exact ⟨rfl, by rw [← HRR.out]; exact ⟨rfl, HFB.out⟩⟩
 | true =>
  rw [if_pos hb] at hr; have HGO := zh (got_yes h hi _ hb); have HLT := zh (any_lt h.env.tok hi hb); unfold token at hr; clear h hb; by_cases hk : (tk K.T (i + 1)).kind = 3
  ·rw [if_pos hk] at hr
   have HTN := zh (H.out.env.tok.num (i + 1)); have HTO := zh (fun w1 (h1 : PaAt K w1 p (i + 1) o sn ns fp) => token_ok h1 HLT.out 3 hk); clear hk; obtain ⟨t, ht⟩ : ∃ t, t = tk K.T (i + 1) := ⟨_, rfl⟩; rw [← ht] at HTO HTN hr; clear ht; dsimp only at hr
   by_cases hn : t.n < 0
   ·rw [if_pos hn] at hr
    have HRR := zh (show Res.bad t.a 70 = r from Option.some.inj hr); clear hr
    go_enter Tryz.func45, Tryz.ntmps45
    go_wp2_with fail
    refine HGO.out.mono ?_; rintro e w1 ⟨rfl, h1, h2⟩; have HT1 := zh (HTO.out w1 h1); have HB1 := zh h2; clear h1 h2; go_wp2_with fail
    refine HT1.out.mono ?_; rintro e w2 ⟨rfl, h1, h2⟩; have HP2 := zh h1; have HT2 := zh (HB1.out.trans h2); clear h1 h2; unfold tokJ
    go_upto_region 3 with fail
    obtain ⟨b, hb⟩ : ∃ b, b = w2.heap.size := ⟨_, rfl⟩; rw [← hb]; refine gen_wpT fun W hW => ?_; have HTB := zh (show W.heap[b]? = some (.cells (tokA0 t) 65 (0, 0)) by rw [← hW]; exact heap_new_at _ _ _ hb.symm); have HTW := zh (show Below p w W by rw [← hW]; exact ((HT2.out.below H.out)).alloc (Nat.le_of_lt HP2.out.lt) _); clear hW hb; obtain ⟨t0, t1, t2, t3, t4, tl⟩ := blk5 HTB.out; go_wp2_with fail
    refine (no_any _ t.a _).mono ?_; rintro e w3 ⟨rfl, rfl⟩; unfold wrongP; go_wp2
    exact ⟨rfl, by rw [← HRR.out]; exact ⟨rfl, HTW.out⟩⟩
   ·rw [if_neg hn] at hr
    have HRR := zh (show Res.ok (numText (-t.n)) (i + 1 + 1) = r from Option.some.inj hr); clear hr; obtain ⟨m, hm⟩ : ∃ m, m = -t.n := ⟨_, rfl⟩; have hwm : IntKind.i64.wrap (-t.n) = m := by rw [← hm]; exact IntWalk.i64_in _ (by have := HTN.out; omega)
    have HMN := zh (show -9223372036854775808 ≤ m ∧ m ≤ 9223372036854775807 by have := HTN.out; omega); rw [← hm] at HRR; clear hm
    go_enter Tryz.func45, Tryz.ntmps45
    go_wp2_with fail
    refine HGO.out.mono ?_; rintro e w1 ⟨rfl, h1, h2⟩; have HT1 := zh (HTO.out w1 h1); have HB1 := zh h2; clear h1 h2; go_wp2_with fail
    refine HT1.out.mono ?_; rintro e w2 ⟨rfl, h1, h2⟩; have HP2 := zh h1; have HT2 := zh (HB1.out.trans h2); clear h1 h2; unfold tokJ
    go_upto_region 3 with fail
    obtain ⟨b, hb⟩ : ∃ b, b = w2.heap.size := ⟨_, rfl⟩; rw [← hb]; refine gen_wpT fun W hW => ?_; have HTB := zh (show W.heap[b]? = some (.cells (tokA0 t) 65 (0, 0)) by rw [← hW]; exact heap_new_at _ _ _ hb.symm); have HWB := zh (show Below w2.heap.size w2 W by rw [← hW]; exact zbr.alloc znr _); have HPW := zh (HP2.out.below HWB.out); have HTW := zh (HT2.out.trans (PaTo.of_below HP2.out HWB.out)); have HBG := zh (show w2.heap.size ≤ b from Nat.le_of_eq hb.symm); clear hW hb; obtain ⟨t0, t1, t2, t3, t4, tl⟩ := blk5 HTB.out; have t4f := free_of_blk (i := 4) HTB.out; have hfr : Fr [b] W (W.setCell ⟨b, 4, none⟩ (.int .i64 m)) := (Fr.refl _ _).set _ (.inl (by simp)); have HS := zh (show ∀ x ∈ [b], p ≤ x ∧ x ∉ fp from fun x hx => by rw [List.mem_singleton.1 hx]; exact ⟨by have := HBG.out; have := HP2.out.lt; omega, HP2.out.notin HBG.out⟩); have HPX := zh (HPW.out.fr hfr HS.out); have HTX := zh (show PaTo w fp (W.setCell ⟨b, 4, none⟩ (.int .i64 m)) fp from ⟨HTW.out.fr.trans hfr fun x hx => .inr (by rw [List.mem_singleton.1 hx]; exact Nat.le_trans HT2.out.fr.size HBG.out), fun b hb => .inl hb⟩); have c4 : (W.setCell ⟨b, 4, none⟩ (.int .i64 m)).cell? ⟨b, 4, none⟩ = some (.int .i64 m) := cell_of_blk (blk_set (i := 4) HTB.out _) rfl; have HSH := zh (nshow_any m (W.setCell ⟨b, 4, none⟩ (.int .i64 m)) HMN.out.1 HMN.out.2 HPX.out.env.tab); clear hfr; go_wp2_with fail
    refine HSH.out.mono ?_; rintro e w3 ⟨rfl, hb3⟩; have HFIN := zh (show OutV K w p (i + 1 + 1) o sn ns fp (.string (numText m)) (.returned (.string (numText m))) w3 from ⟨rfl, HPX.out.below hb3, HTX.out.trans (PaTo.of_below HPX.out hb3)⟩); clear hb3; go_wp2
    go_ret
    exact (by rw [← HRR.out]; exact HFIN.out)
  ·rw [if_neg hk] at hr
   have HRR := zh (show Res.bad (tk K.T (i + 1)).a 70 = r from Option.some.inj hr); have HTO := zh (fun w1 (h1 : PaAt K w1 p (i + 1) o sn ns fp) => token_no h1 HLT.out 3 hk); clear hr hk
   go_enter Tryz.func45, Tryz.ntmps45
   go_wp2_with fail
   refine HGO.out.mono ?_; rintro e w1 ⟨rfl, h1, h2⟩; have HT1 := zh (HTO.out w1 h1); have HB1 := zh (h2.below H.out); clear h1 h2; go_wp2_with fail
   refine HT1.out.mono ?_; rintro e w2 ⟨rfl, h2⟩; have HFB := zh (HB1.out.trans h2); clear h2; unfold wrongP; go_wp2
   exact ⟨rfl, by rw [← HRR.out]; exact ⟨rfl, HFB.out⟩⟩
theorem within_ok {f : Nat} {nt : N1} (h : St K w0 p i o sn ns fp0 L w fp) (ho : ¬ 150 < o + 1) (a : Nat) {fn : FuncId} {fst cap args : Array Value} (hcall : ∀ W, (callFunc fn args).run Tryz.prog W = .ok (.enter fn args) W) (harg : fst ++ cap = args) {t : PT} (hX : (parF K.T f).one nt (o + 1) i = some (.ok t j))
  (hC : ∀ w1, PaAt K w1 p i (o + 1) sn (ns ++ flats ns.length L) fp → PaTo w fp w1 fp → ∀ r, (parF K.T f).one nt (o + 1) i = some r → Calls Tryz.prog fn args w1 (OutP K w1 p (o + 1) sn (ns ++ flats ns.length L) fp r)) :
  Calls Tryz.prog 74 #[.pointer (some ⟨p, 0, none⟩), natV a, .func (.func fn) fst cap] w (OneOk K w0 p o sn ns fp0 L w fp t j) := by
 refine (within_gen h.pa ho a hcall harg (n := nr ns L t) (j := j) (ns' := ns ++ flats ns.length (L ++ [t])) (fun _ _ => True) (fun _ _ _ _ _ _ => trivial) fun w1 h1 h2 => ?_).mono ?_
 ·refine (hC w1 h1 h2 _ hX).mono ?_
  rintro e w2 ⟨rfl, fp2, h3, h4⟩; rw [flats_one_more] at h3; exact ⟨by rw [len_more]; rfl, fp2, h3, h4, trivial⟩
 ·rintro e w2 ⟨rfl, fp2, h3, h4, _⟩
  exact ⟨rfl, fp2, ⟨h3, h.pt.trans h4⟩, h4⟩
theorem within_no {f : Nat} {nt : N1} (h : St K w0 p i o sn ns fp0 L w fp) (hB : Beg w0 p fp0) (ho : ¬ 150 < o + 1) (a : Nat) {fn : FuncId} {fst cap args : Array Value} (hcall : ∀ W, (callFunc fn args).run Tryz.prog W = .ok (.enter fn args) W) (harg : fst ++ cap = args) {a' n : Nat} (hX : (parF K.T f).one nt (o + 1) i = some (.bad a' n))
  (hC : ∀ w1, PaAt K w1 p i (o + 1) sn (ns ++ flats ns.length L) fp → PaTo w fp w1 fp → ∀ r, (parF K.T f).one nt (o + 1) i = some r → Calls Tryz.prog fn args w1 (OutP K w1 p (o + 1) sn (ns ++ flats ns.length L) fp r)) :
  Calls Tryz.prog 74 #[.pointer (some ⟨p, 0, none⟩), natV a, .func (.func fn) fst cap] w (OutB w0 p a' n) :=
 (within_bad h.pa ho a hcall harg fun w1 h1 h2 => (hC w1 h1 h2 _ hX).mono fun e w' h => h).mono fun e w' hh => ⟨hh.1, h.bad hB hh.2⟩
theorem none_ok (h : St K w0 p i o sn ns fp0 L w fp) (hr : ns.length + ptsS L ≤ 900000) : Calls Tryz.prog 93 #[.pointer (some ⟨p, 0, none⟩)] w (OneOk K w0 p o sn ns fp0 L w fp noneT i) := by
 refine (none_any h.pa (by rw [len_more]; exact hr)).mono ?_
 rintro e w1 ⟨rfl, fp1, h1, h2⟩
 rw [flats_one_more] at h1
 exact ⟨by rw [len_more]; rfl, fp1, ⟨h1, h.pt.trans h2⟩, h2⟩
theorem St.drew (h : St K w0 p i o sn ns fp0 L w fp) : St K w0 p i o sn ns fp0 L w.drew fp := h.own (S := []) (Fr.refl _ _).drew (by simp)
theorem Away.drew {b : Nat} (h : Away w p fp b) : Away w.drew p fp b := h
def RowOk (K : PaK) (w0 : World) (p o : Nat) (sn : Fin 8 → Bool) (ns : List Nd) (fp0 : List Nat) (w : World) (fp : List Nat) (l : List PT) (j : Nat) (e : Ending) (w' : World) : Prop :=
 ∃ A c fp', e = .returned (.slice A l.length c) ∧ St K w0 p j o sn ns fp0 l w' fp' ∧ PaTo w fp w' fp' ∧ Ints w' p fp' (.slice A l.length c) (roots ns.length l) ∧ ∀ g, (Value.slice A l.length c).ownBlock = some g → w0.heap.size ≤ g
theorem st_nil (h : St K w0 p i o sn ns fp0 [] w fp) : PaAt K w p i o sn ns fp := by have := h.pa; simpa [flats] using this
theorem until_row {F : Nat} (h : St K w0 p i o sn ns fp0 [] w fp) (hroom : i < K.T.length ∧ ns.length + ptsS [] + 4 * (K.T.length - i) ≤ 900000) (ho : o ≤ 150) (e : ByteArray) (it : Item) {fn : FuncId} {fst cap args : Array Value} (hcall : ∀ W, (callFunc fn args).run Tryz.prog W = .ok (.enter fn args) W) (harg : fst ++ cap = args)
  (Inv : List PT → World → List Nat → Prop) (hI0 : Inv [] w fp) (hIS : ∀ acc w1 w2 fp1 S, Inv acc w1 fp1 → Fr S w1 w2 → (∀ b ∈ S, b ∈ fp1 ∨ w.heap.size ≤ b) → Inv acc w2 fp1)
  (hC : ∀ g acc w1 i1 ns1 fp1, g ≤ F → PaAt K w1 p i1 o sn ns1 fp1 → Room K i1 ns1 → Inv acc w1 fp1 → ∀ r, (parF K.T g).one (it.nt acc) o i1 = some r → Calls Tryz.prog fn args w1 (ItemOut K w1 p o sn ns1 fp1 Inv acc r))
  {l : List PT} {j : Nat} (hX : (parF K.T F).many (.until e it []) o i = some (.ok l j)) :
  Calls Tryz.prog 96 #[.pointer (some ⟨p, 0, none⟩), .string e, .func (.func fn) fst cap] w (RowOk K w0 p o sn ns fp0 w fp l j) := by
 refine (until_any (st_nil h) ⟨hroom.1, by simpa [ptsS] using hroom.2⟩ ho e it hcall harg Inv hI0 hIS hC hX).mono ?_
 rintro en w1 ⟨v, fp1, rfl, h1, h2, h3, h4⟩
 obtain ⟨A, c, hv, _, _, _⟩ := own_form h3.own
 rw [roots_len] at hv
 subst hv
 exact ⟨A, c, fp1, rfl, ⟨h1, h.pt.trans h2⟩, h2, h3, fun g hg => Nat.le_trans h.pt.fr.size (h4 g hg)⟩
theorem until_rowno {F : Nat} (h : St K w0 p i o sn ns fp0 [] w fp) (hB : Beg w0 p fp0) (hroom : i < K.T.length ∧ ns.length + ptsS [] + 4 * (K.T.length - i) ≤ 900000) (ho : o ≤ 150) (e : ByteArray) (it : Item) {fn : FuncId} {fst cap args : Array Value} (hcall : ∀ W, (callFunc fn args).run Tryz.prog W = .ok (.enter fn args) W) (harg : fst ++ cap = args)
  (Inv : List PT → World → List Nat → Prop) (hI0 : Inv [] w fp) (hIS : ∀ acc w1 w2 fp1 S, Inv acc w1 fp1 → Fr S w1 w2 → (∀ b ∈ S, b ∈ fp1 ∨ w.heap.size ≤ b) → Inv acc w2 fp1)
  (hC : ∀ g acc w1 i1 ns1 fp1, g ≤ F → PaAt K w1 p i1 o sn ns1 fp1 → Room K i1 ns1 → Inv acc w1 fp1 → ∀ r, (parF K.T g).one (it.nt acc) o i1 = some r → Calls Tryz.prog fn args w1 (ItemOut K w1 p o sn ns1 fp1 Inv acc r))
  {a n : Nat} (hX : (parF K.T F).many (.until e it []) o i = some (.bad a n)) :
  Calls Tryz.prog 96 #[.pointer (some ⟨p, 0, none⟩), .string e, .func (.func fn) fst cap] w (OutB w0 p a n) :=
 (until_any (st_nil h) ⟨hroom.1, by simpa [ptsS] using hroom.2⟩ ho e it hcall harg Inv hI0 hIS hC hX).mono fun e w' hh => ⟨hh.1, h.bad hB hh.2⟩
theorem item_fn {o : Nat} {nt : N1} {g : Nat} {r : Res PT} {fn : FuncId} {args : Array Value} {acc : List PT} (hC : Calls Tryz.prog fn args w (OutP K w p o sn ns fp r)) : Calls Tryz.prog fn args w (ItemOut K w p o sn ns fp (fun _ _ _ => True) acc r) := by
 refine hC.mono ?_
 cases r with
 | bad a n => exact fun e w' h => h
 | ok t j =>
  rintro e w' ⟨rfl, fp', h1, h2⟩; exact ⟨rfl, fp', h1, h2, trivial⟩
def BoxInv (b : Nat) (ob : Obj) (p : Nat) (_ : List PT) (w : World) (fp : List Nat) : Prop := w.heap[b]? = some ob ∧ Away w p fp b
theorem item_box {b : Nat} {ob : Obj} {o : Nat} {r : Res PT} {fn : FuncId} {args : Array Value} {acc : List PT} (hI : BoxInv b ob p acc w fp) (hC : Calls Tryz.prog fn args w (OutP K w p o sn ns fp r)) : Calls Tryz.prog fn args w (ItemOut K w p o sn ns fp (BoxInv b ob p) acc r) := by
 refine hC.mono ?_
 cases r with
 | bad a n => exact fun e w' h => h
 | ok t j =>
  rintro e w' ⟨rfl, fp', h1, h2⟩; exact ⟨rfl, fp', h1, h2, Away.blkTo hI.1 hI.2 h2, hI.2.to h2⟩
theorem box_stay {b : Nat} {ob : Obj} {acc : List PT} {w1 w2 : World} {S : List Nat} (hb : b < w.heap.size) (hI : BoxInv b ob p acc w1 fp) (hf : Fr S w1 w2) (hS : ∀ b ∈ S, b ∈ fp ∨ w.heap.size ≤ b) : BoxInv b ob p acc w2 fp :=
 ⟨hf.blk hI.1 fun e => (hS b e).elim hI.2.2.2 fun h => by omega, hI.2.on hf.size⟩
end

theorem txt_0 : numText 0 = ⟨#[48]⟩ := by kernel_rfl
theorem txt_1 : numText 1 = ⟨#[49]⟩ := by kernel_rfl
theorem txt_2 : numText 2 = ⟨#[50]⟩ := by kernel_rfl
theorem txt_3 : numText 3 = ⟨#[51]⟩ := by kernel_rfl
theorem txt_4 : numText 4 = ⟨#[52]⟩ := by kernel_rfl
theorem txt_5 : numText 5 = ⟨#[53]⟩ := by kernel_rfl
theorem txt_6 : numText 6 = ⟨#[54]⟩ := by kernel_rfl
theorem txt_7 : numText 7 = ⟨#[55]⟩ := by kernel_rfl
theorem pc_digit (n : Int) (hn : 0 ≤ n ∧ n ≤ 7) (w : World) : Calls Tryz.prog 29 #[.string (numText n)] w (RetB (.bool true) w) := by
 obtain rfl | rfl | rfl | rfl | rfl | rfl | rfl | rfl : n = 0 ∨ n = 1 ∨ n = 2 ∨ n = 3 ∨ n = 4 ∨ n = 5 ∨ n = 6 ∨ n = 7 := by omega
 ·rw [txt_0]
  go_enter Tryz.func29, Tryz.ntmps29
  go_wp2
  go_ret
  exact ⟨rfl, zbr⟩
 ·rw [txt_1]
  go_enter Tryz.func29, Tryz.ntmps29
  go_wp2
  go_ret
  exact ⟨rfl, zbr⟩
 ·rw [txt_2]
  go_enter Tryz.func29, Tryz.ntmps29
  go_wp2
  go_ret
  exact ⟨rfl, zbr⟩
 ·rw [txt_3]
  go_enter Tryz.func29, Tryz.ntmps29
  go_wp2
  go_ret
  exact ⟨rfl, zbr⟩
 ·rw [txt_4]
  go_enter Tryz.func29, Tryz.ntmps29
  go_wp2
  go_ret
  exact ⟨rfl, zbr⟩
 ·rw [txt_5]
  go_enter Tryz.func29, Tryz.ntmps29
  go_wp2
  go_ret
  exact ⟨rfl, zbr⟩
 ·rw [txt_6]
  go_enter Tryz.func29, Tryz.ntmps29
  go_wp2
  go_ret
  exact ⟨rfl, zbr⟩
 ·rw [txt_7]
  go_enter Tryz.func29, Tryz.ntmps29
  go_wp2
  go_ret
  exact ⟨rfl, zbr⟩
theorem pc_base (x : ByteArray) (hx : x ∈ baseN) (w : World) : Calls Tryz.prog 33 #[.string x] w (RetB (.bool true) w) := by
 simp only [baseN, List.mem_cons, List.mem_nil_iff, or_false] at hx
 rcases hx with rfl | rfl | rfl | rfl | rfl | rfl | rfl
 ·have t0 : (⟨#[97, 110, 121]⟩ : ByteArray).toList = [97, 110, 121] := by rw [ByteArray.toList_eq]
  go_enter Tryz.func33, Tryz.ntmps33
  go_wp2
  go_ret
  exact ⟨rfl, zbr⟩
 ·have t1 : (⟨#[110, 105, 108]⟩ : ByteArray).toList = [110, 105, 108] := by rw [ByteArray.toList_eq]
  go_enter Tryz.func33, Tryz.ntmps33
  go_wp2
  go_ret
  exact ⟨rfl, zbr⟩
 ·have t2 : (⟨#[98, 111, 111, 108]⟩ : ByteArray).toList = [98, 111, 111, 108] := by rw [ByteArray.toList_eq]
  go_enter Tryz.func33, Tryz.ntmps33
  go_wp2
  go_ret
  exact ⟨rfl, zbr⟩
 ·have t3 : (⟨#[105, 110, 116]⟩ : ByteArray).toList = [105, 110, 116] := by rw [ByteArray.toList_eq]
  go_enter Tryz.func33, Tryz.ntmps33
  go_wp2
  go_ret
  exact ⟨rfl, zbr⟩
 ·have t4 : (⟨#[115, 116, 114, 105, 110, 103]⟩ : ByteArray).toList = [115, 116, 114, 105, 110, 103] := by rw [ByteArray.toList_eq]
  go_enter Tryz.func33, Tryz.ntmps33
  go_wp2
  go_ret
  exact ⟨rfl, zbr⟩
 ·have t5 : (⟨#[116, 97, 98, 108, 101]⟩ : ByteArray).toList = [116, 97, 98, 108, 101] := by rw [ByteArray.toList_eq]
  go_enter Tryz.func33, Tryz.ntmps33
  go_wp2
  go_ret
  exact ⟨rfl, zbr⟩
 ·have t6 : (⟨#[116, 104, 114, 101, 97, 100]⟩ : ByteArray).toList = [116, 104, 114, 101, 97, 100] := by rw [ByteArray.toList_eq]
  go_enter Tryz.func33, Tryz.ntmps33
  go_wp2
  go_ret
  exact ⟨rfl, zbr⟩
theorem txt_min : numText (-9223372036854775808) = ⟨#[45, 57, 50, 50, 51, 51, 55, 50, 48, 51, 54, 56, 53, 52, 55, 55, 53, 56, 48, 56]⟩ := by kernel_rfl
theorem txt_neg {n : Int} (h : n < 0) : numText n = ⟨#[45]⟩ ++ numText (-n) := by
 refine ByteArray.ext (Array.toList_inj.1 ?_)
 rw [ByteArray.data_append, Array.toList_append]
 rw [text_data, text_data]
 unfold Lib.itoa
 rw [if_pos h, if_neg (by omega)]
 rw [show (-n).toNat = (-n).natAbs by omega] <;> simp
theorem txt_ne {n : Int} (h0 : -9223372036854775808 < n) (h1 : n ≤ 9223372036854775807) : ((numText n).toList == [45, 57, 50, 50, 51, 51, 55, 50, 48, 51, 54, 56, 53, 52, 55, 55, 53, 56, 48, 56]) = false := by
 rw [beq_eq_false_iff_ne]
 intro e
 rw [ByteArray.toList_eq] at e
 rcases Int.lt_or_le n 0 with hn | hn
 ·rw [txt_neg hn, ByteArray.data_append, Array.toList_append, text_data] at e
  have e2 : Lib.itoa (-n) = [57, 50, 50, 51, 51, 55, 50, 48, 51, 54, 56, 53, 52, 55, 55, 53, 56, 48, 56] := by simpa using e
  unfold Lib.itoa at e2; rw [if_neg (by omega)] at e2; have e3 := decGo_digits ((-n).natAbs) (by omega)
  first | rw [e2] at e3 | (rw [show (-n).natAbs = (-n).toNat by omega] at e3; rw [e2] at e3)
  rw [show decGo [57, 50, 50, 51, 51, 55, 50, 48, 51, 54, 56, 53, 52, 55, 55, 53, 56, 48, 56] 0 = none from by kernel_rfl] at e3; simp at e3
 ·have e3 := text_back n (by omega) h1
  rw [if_pos hn] at e3; have e4 : numText n = ⟨#[45, 57, 50, 50, 51, 51, 55, 50, 48, 51, 54, 56, 53, 52, 55, 55, 53, 56, 48, 56]⟩ := ByteArray.ext (Array.toList_inj.1 e); rw [e4, show numS ⟨#[45, 57, 50, 50, 51, 51, 55, 50, 48, 51, 54, 56, 53, 52, 55, 55, 53, 56, 48, 56]⟩ = none from by kernel_rfl] at e3; simp at e3
theorem digits_ge (u : Nat) : ∀ c ∈ Lib.decDigits u, 48 ≤ c.toNat := by
 induction u using Nat.strongRecOn with
 | _ u ih =>
  rw [Lib.decDigits]; by_cases hu : u < 10
  ·rw [dif_pos hu]
   intro c hc; obtain rfl := List.mem_singleton.1 hc; rw [digit_byte hu]
   omega
  ·have hm : u % 10 < 10 := Nat.mod_lt _ (by omega)
   rw [dif_neg hu]; intro c hc
   rcases List.mem_append.1 hc with h | h
   ·exact ih (u / 10) (by omega) c h
   ·obtain rfl := List.mem_singleton.1 h
    rw [digit_byte hm]
    omega
theorem txt_head {n : Int} (h : 0 ≤ n) : ∃ hi : 0 < (numText n).size, ((numText n)[0].toNat : Int) ≠ 45 := by
 have h1 : 0 < (numText n).size := by
  rw [text_size]; exact Nat.pos_of_ne_zero fun e => itoa_ne n (List.eq_nil_of_length_eq_zero e)
 refine ⟨h1, fun e => ?_⟩
 have h2 : (numText n)[0] ∈ Lib.itoa n := by
  rw [← text_data]; exact Array.mem_toList_iff.2 (Array.getElem_mem h1)
 unfold Lib.itoa at h2
 rw [if_neg (by omega)] at h2
 have h3 := digits_ge _ _ h2
 omega
theorem rnumber_txt (n : Int) (h0 : 0 ≤ n) (h1 : n ≤ 9223372036854775807) (w : World) : Calls Tryz.prog 31 #[.string (numText n)] w (Ret (.tuple #[.int .i64 n, .bool true]) w) := by
 have h := rnumber_any (numText n) w (by have := numText_size n (by omega) h1; unfold maxLen; omega)
 rw [text_back n (by omega) h1, if_pos h0] at h
 exact h
theorem pc_mask (x : ByteArray) (hx : MaskT x) (w : World) (ht : Tab w) : ∃ n : Int, Calls Tryz.prog 30 #[.string x] w (RetB (.tuple #[.int .i64 n, .bool true]) w) := by
 obtain ⟨n, h0, h1, rfl⟩ := hx
 refine ⟨n, ?_⟩
 by_cases hm : n = -9223372036854775808
 ·subst hm
  rw [txt_min]
  go_enter Tryz.func30, Tryz.ntmps30
  go_wp2
  refine bodyPost_ret (v := .tuple #[.int .i64 (-9223372036854775808), .bool true]) (by simp [results, Tryz.results30, go_sem]) rfl ?_; exact ⟨rfl, zbr⟩
 have hne := txt_ne (show -9223372036854775808 < n by omega) h1
 by_cases hn : n < 0
 ·obtain ⟨u, hu⟩ : ∃ u, u = -n := ⟨_, rfl⟩
  have hs : numText n = ⟨#[45]⟩ ++ numText u := by rw [hu]; exact txt_neg hn
  obtain ⟨s, hS⟩ : ∃ s, s = numText n := ⟨_, rfl⟩; obtain ⟨tx, hT⟩ : ∃ t, t = numText u := ⟨_, rfl⟩; rw [← hS] at hne hs ⊢; rw [← hT] at hs; have hsz : s.size = 1 + tx.size := by rw [hs, ByteArray.size_append]; rfl
  have hi : 0 < s.size := by omega
  have hv : s[0] = 45 := by subst hs; rfl
  have hex : s.extract 1 s.size = tx := by
   rw [hs]; refine ByteArray.ext (Array.toList_inj.1 ?_); rw [ByteArray.data_extract, ByteArray.data_append, Array.toList_extract, Array.toList_append]
   show List.take ((⟨#[45]⟩ ++ tx).size - 1) (List.drop 1 (45 :: tx.data.toList)) = _
   rw [List.drop_succ_cons, List.drop_zero, List.take_of_length_le]; rw [ByteArray.size_append]
   show tx.data.toList.length ≤ 1 + tx.size - 1
   have : tx.data.toList.length = tx.size := by simp
   omega
  have HN := zh (fun w => rnumber_txt u (by omega) (by omega) w); have HW := zh (rshow_any u w (by omega) (by omega) ht); rw [← hT] at HN HW; have hu0 : (u == 0) = false := beq_eq_false_iff_ne.2 (by omega); have hg : IntKind.i64.wrap (-u) = n := by rw [hu, Int.neg_neg]; exact IntWalk.i64_in _ (by omega)
  have hp : (0 : Int) < (s.size : Int) := by omega
  have hp1 : (1 : Int) ≤ (s.size : Int) := by omega
  clear hs hS hT hm hn h0 h1 hu hsz
  go_enter Tryz.func30, Tryz.ntmps30
  go_wp2_with fail
  refine (HN.out w).mono ?_; rintro e w1 ⟨rfl, rfl⟩; go_wp2_with fail
  refine HW.out.mono ?_; rintro e w2 ⟨rfl, hb⟩; have HB := zh hb; clear hb; have htt : (tx.toList != tx.toList) = false := bne_self_eq_false _; go_wp2
  refine bodyPost_ret (v := .tuple #[.int .i64 n, .bool true]) (by simp [results, Tryz.results30, go_sem]) rfl ?_; exact ⟨rfl, HB.out⟩
 ·obtain ⟨hi, hv⟩ := txt_head (show 0 ≤ n by omega)
  have HN := zh (fun w => rnumber_txt n (by omega) (by omega) w); have HW := zh (rshow_any n w (by omega) (by omega) ht); generalize numText n = s at *
  have hp : (0 : Int) < (s.size : Int) := by omega
  have hv2 : ((s[0].toNat : Int) == 45) = false := beq_eq_false_iff_ne.2 hv; clear hm hn h0 h1
  go_enter Tryz.func30, Tryz.ntmps30
  go_wp2_with fail
  refine (HN.out w).mono ?_; rintro e w1 ⟨rfl, rfl⟩; go_wp2_with fail
  refine HW.out.mono ?_; rintro e w2 ⟨rfl, hb⟩; have HB := zh hb; clear hb; have htt : (s.toList != s.toList) = false := bne_self_eq_false _; go_wp2
  refine bodyPost_ret (v := .tuple #[.int .i64 n, .bool true]) (by simp [results, Tryz.results30, go_sem]) rfl ?_; exact ⟨rfl, HB.out⟩

theorem below_dT {w w' : World} {B : Nat} (h : Below B w w') (n : Nat) : Below B w (w'.drewN n) := ⟨h.os, h.tape, h.output, h.size, h.block⟩
theorem pc_text_1 {x : ByteArray} {n c a : Nat} {A : Option Addr} {w : World} {k : Int} (hk : k = 1 ∨ k = 3 ∨ k = 6 ∨ k = 7 ∨ k = 8 ∨ k = 9 ∨ k = 10 ∨ k = 11 ∨ k = 12 ∨ k = 13 ∨ k = 19 ∨ k = 20 ∨ k = 22 ∨ k = 24 ∨ k = 26 ∨ k = 29 ∨ k = 30 ∨ k = 32 ∨ k = 34 ∨ k = 35) (ht : TextK k x n) (hxs : x.size ≤ 200000) (htab : Tab w) : Calls Tryz.prog 13 #[.agg #[.int .i64 k, .string x, .slice A n c, .int .i64 (a : Int)]] w (RetB (.bool true) w) := by
 obtain rfl | rfl | rfl | rfl | rfl | rfl | rfl | rfl | rfl | rfl | rfl | rfl | rfl | rfl | rfl | rfl | rfl | rfl | rfl | rfl := hk
 all_goals
  unfold TextK at ht
  repeat rw [if_neg (by decide)] at ht
  subst ht; have te : (⟨#[]⟩ : ByteArray).toList = [] := by rw [ByteArray.toList_eq]
  go_enter Tryz.func13, Tryz.ntmps13
  go_upto_region 1 with fail
  refine gen_wpT fun W hW => ?_; have HBW := zh (show Below w.heap.size w W by rw [← hW]; exact zbr.alloc znr _); have HX := zh (show W.heap[w.heap.size]? = some (.cells #[.int .i64 _, .string ⟨#[]⟩, .slice A n c, .int .i64 (a : Int)] 31 (0, 0)) by rw [← hW]; exact heap_new_at _ _ _ rfl); have y0 := zc 0 HX.out rfl; have y1 := zc 1 HX.out rfl; have y2 := zc 2 HX.out rfl; have yl := blk_lt HX.out; clear hW; go_wp2
  go_ret
  exact ⟨rfl, HBW.out⟩
theorem pc_text_2 {x : ByteArray} {n c a : Nat} {A : Option Addr} {w : World} (ht : TextK 2 x n) (hxs : x.size ≤ 200000) (htab : Tab w) : Calls Tryz.prog 13 #[.agg #[.int .i64 2, .string x, .slice A n c, .int .i64 (a : Int)]] w (RetB (.bool true) w) := by
 unfold TextK at ht
 repeat rw [if_neg (by decide)] at ht
 rw [if_pos (by decide)] at ht
 obtain ⟨q, hq0, hq7, m, hm, hxm⟩ := ht
 obtain ⟨b, hb⟩ : ∃ b : UInt8, numText q = ⟨#[b]⟩ := by
  obtain rfl | rfl | rfl | rfl | rfl | rfl | rfl | rfl : q = 0 ∨ q = 1 ∨ q = 2 ∨ q = 3 ∨ q = 4 ∨ q = 5 ∨ q = 6 ∨ q = 7 := by omega
  ·exact ⟨_, txt_0⟩
  ·exact ⟨_, txt_1⟩
  ·exact ⟨_, txt_2⟩
  ·exact ⟨_, txt_3⟩
  ·exact ⟨_, txt_4⟩
  ·exact ⟨_, txt_5⟩
  ·exact ⟨_, txt_6⟩
  ·exact ⟨_, txt_7⟩
 have hms : 0 < m.size := by
  obtain ⟨r, h0, h1, h2⟩ := hm; rw [h2, text_size]; exact Nat.pos_of_ne_zero fun e => itoa_ne r (List.eq_nil_of_length_eq_zero e)
 have hdt : x.data.toList = b :: 32 :: m.data.toList := by
  rw [hxm, hb, ByteArray.data_append, ByteArray.data_append, Array.toList_append, Array.toList_append]
  rfl
 have hms2 : m.data.toList.length = m.size := by simp
 have hxs : x.size = m.size + 2 := by
  have h1 : x.data.toList.length = x.size := by simp
  rw [← h1, hdt, List.length_cons, List.length_cons, hms2]
 have hi1 : 1 < x.size := by omega
 have hv1 : x[1] = 32 := by
  have h1 : x.data.toList[1]? = some x[1] := by
   rw [Array.getElem?_toList]; exact Array.getElem?_eq_getElem hi1
  rw [hdt] at h1; exact (Option.some.inj h1).symm
 have hs1 : x.extract 0 1 = numText q := by
  rw [hb]; refine ByteArray.ext (Array.toList_inj.1 ?_); rw [ByteArray.data_extract, Array.toList_extract, hdt]
  rfl
 have hs2 : x.extract 2 x.size = m := by
  refine ByteArray.ext (Array.toList_inj.1 ?_); rw [ByteArray.data_extract, Array.toList_extract, hdt]
  show List.take (x.size - 2) m.data.toList = _
  rw [List.take_of_length_le (by omega)]
 have HDG := zh (fun w => pc_digit q ⟨hq0, hq7⟩ w)
 have HMK := zh (fun w h => pc_mask m hm w h)
 have HTB := zh htab
 obtain ⟨tq, htq⟩ : ∃ t, t = numText q := ⟨_, rfl⟩
 rw [← htq] at hs1 HDG
 have g3 : ¬ (x.size : Int) < 3 := by omega
 have g1 : (1 : Int) < (x.size : Int) := by omega
 have g2 : (2 : Int) ≤ (x.size : Int) := by omega
 have g1' : (1 : Int) ≤ (x.size : Int) := by omega
 clear hq0 hq7 hm hxm hb hms hdt hms2 hxs htq
 go_enter Tryz.func13, Tryz.ntmps13
 go_upto_region 1 with fail
 refine gen_wpT fun W hW => ?_
 have HBW := zh (show Below w.heap.size w W by rw [← hW]; exact zbr.alloc znr _)
 have HX := zh (show W.heap[w.heap.size]? = some (.cells #[.int .i64 2, .string x, .slice A n c, .int .i64 (a : Int)] 31 (0, 0)) by rw [← hW]; exact heap_new_at _ _ _ rfl)
 have y0 := zc 0 HX.out rfl
 have y1 := zc 1 HX.out rfl
 have y2 := zc 2 HX.out rfl
 have yl := blk_lt HX.out
 clear hW
 go_wp2_with fail
 refine (HDG.out W).mono ?_
 rintro e w1 ⟨rfl, hb1⟩
 have HB1 := zh hb1
 have HX1 := zh (below_blk hb1 HX.out)
 clear hb1 y0 y1 y2 yl
 have y1 := zc 1 HX1.out rfl
 have yl := blk_lt HX1.out
 obtain ⟨v, hv⟩ := HMK.out w1 (((HTB.out).below HBW.out).below HB1.out)
 have HMV := zh hv
 clear hv
 go_wp2_with fail
 refine HMV.out.mono ?_
 rintro e w2 ⟨rfl, hb2⟩
 have HB2 := zh (HBW.out.trans ((HB1.out.trans (hb2.mono HB1.out.size)).mono HBW.out.size))
 clear hb2
 go_wp2
 go_ret
 exact ⟨rfl, HB2.out⟩
theorem pc_text_4 {x : ByteArray} {n c a : Nat} {A : Option Addr} {w : World} {k : Int} (hk : k = 4 ∨ k = 5 ∨ k = 17 ∨ k = 23) (ht : TextK k x n) (hxs : x.size ≤ 200000) (htab : Tab w) : Calls Tryz.prog 13 #[.agg #[.int .i64 k, .string x, .slice A n c, .int .i64 (a : Int)]] w (RetB (.bool true) w) := by
 obtain rfl | rfl | rfl | rfl := hk
 all_goals
  unfold TextK at ht
  repeat rw [if_neg (by decide)] at ht
  rw [if_pos (by decide)] at ht; have HNM := zh (fun w => rname_any x (by omega) w); rw [tb_true ht.1] at HNM; have HBI := zh (fun w => rbuiltin_any x w); rw [built_neg ht.2] at HBI; clear ht
  go_enter Tryz.func13, Tryz.ntmps13
  go_upto_region 1 with fail
  refine gen_wpT fun W hW => ?_; have HBW := zh (show Below w.heap.size w W by rw [← hW]; exact zbr.alloc znr _); have HX := zh (show W.heap[w.heap.size]? = some (.cells #[.int .i64 _, .string x, .slice A n c, .int .i64 (a : Int)] 31 (0, 0)) by rw [← hW]; exact heap_new_at _ _ _ rfl); have y0 := zc 0 HX.out rfl; have y1 := zc 1 HX.out rfl; have y2 := zc 2 HX.out rfl; have yl := blk_lt HX.out; clear hW; go_wp2_with fail
  refine (HNM.out W).mono ?_; rintro e w1 ⟨rfl, rfl⟩; go_wp2_with fail
  refine (HBI.out W).mono ?_; rintro e w1 ⟨rfl, rfl⟩; go_wp2
  go_ret
  exact ⟨rfl, HBW.out⟩
theorem pc_text_14 {x : ByteArray} {n c a : Nat} {A : Option Addr} {w : World} (ht : TextK 14 x n) (hxs : x.size ≤ 200000) (htab : Tab w) : Calls Tryz.prog 13 #[.agg #[.int .i64 14, .string x, .slice A n c, .int .i64 (a : Int)]] w (RetB (.bool true) w) := by
 unfold TextK at ht
 repeat rw [if_neg (by decide)] at ht
 rw [if_pos (by decide)] at ht
 rcases ht with rfl | rfl
 ·have te : (⟨#[116, 114, 117, 101]⟩ : ByteArray).toList = [116, 114, 117, 101] := by rw [ByteArray.toList_eq]
  go_enter Tryz.func13, Tryz.ntmps13
  go_upto_region 1 with fail
  refine gen_wpT fun W hW => ?_; have HBW := zh (show Below w.heap.size w W by rw [← hW]; exact zbr.alloc znr _); have HX := zh (show W.heap[w.heap.size]? = some (.cells #[.int .i64 14, .string ⟨#[116, 114, 117, 101]⟩, .slice A n c, .int .i64 (a : Int)] 31 (0, 0)) by rw [← hW]; exact heap_new_at _ _ _ rfl); have y0 := zc 0 HX.out rfl; have y1 := zc 1 HX.out rfl; have y2 := zc 2 HX.out rfl; have yl := blk_lt HX.out; clear hW; go_wp2
  go_ret
  exact ⟨rfl, HBW.out⟩
 ·have te : (⟨#[102, 97, 108, 115, 101]⟩ : ByteArray).toList = [102, 97, 108, 115, 101] := by rw [ByteArray.toList_eq]
  go_enter Tryz.func13, Tryz.ntmps13
  go_upto_region 1 with fail
  refine gen_wpT fun W hW => ?_; have HBW := zh (show Below w.heap.size w W by rw [← hW]; exact zbr.alloc znr _); have HX := zh (show W.heap[w.heap.size]? = some (.cells #[.int .i64 14, .string ⟨#[102, 97, 108, 115, 101]⟩, .slice A n c, .int .i64 (a : Int)] 31 (0, 0)) by rw [← hW]; exact heap_new_at _ _ _ rfl); have y0 := zc 0 HX.out rfl; have y1 := zc 1 HX.out rfl; have y2 := zc 2 HX.out rfl; have yl := blk_lt HX.out; clear hW; go_wp2
  go_ret
  exact ⟨rfl, HBW.out⟩
theorem pc_text_15 {x : ByteArray} {n c a : Nat} {A : Option Addr} {w : World} (ht : TextK 15 x n) (hxs : x.size ≤ 200000) (htab : Tab w) : Calls Tryz.prog 13 #[.agg #[.int .i64 15, .string x, .slice A n c, .int .i64 (a : Int)]] w (RetB (.bool true) w) := by
 unfold TextK at ht
 repeat rw [if_neg (by decide)] at ht
 rw [if_pos (by decide)] at ht
 obtain ⟨q, hq0, hq1, rfl⟩ := ht
 have HN := zh (fun w => rnumber_txt q hq0 hq1 w)
 have HW := zh (fun w h => rshow_any q w (by omega) hq1 h)
 have HTB := zh htab
 have HQ0 := zh hq0
 have hqd : decide (0 ≤ q) = true := decide_eq_true hq0
 generalize numText q = x at *
 clear hq1
 go_enter Tryz.func13, Tryz.ntmps13
 go_upto_region 1 with fail
 refine gen_wpT fun W hW => ?_
 have HBW := zh (show Below w.heap.size w W by rw [← hW]; exact zbr.alloc znr _)
 have HX := zh (show W.heap[w.heap.size]? = some (.cells #[.int .i64 15, .string x, .slice A n c, .int .i64 (a : Int)] 31 (0, 0)) by rw [← hW]; exact heap_new_at _ _ _ rfl)
 have y0 := zc 0 HX.out rfl
 have y1 := zc 1 HX.out rfl
 have y2 := zc 2 HX.out rfl
 have yl := blk_lt HX.out
 clear hW
 go_wp2_with fail
 refine (HN.out W).mono ?_
 rintro e w1 ⟨rfl, rfl⟩
 go_upto_region 23 with fail
 have HXD := zh (show W.drew.heap[w.heap.size]? = some (.cells #[.int .i64 15, .string x, .slice A n c, .int .i64 (a : Int)] 31 (0, 0)) from HX.out)
 have HBD := zh (show Below W.heap.size W W.drew from zbr.drew)
 have HTD := zh (show Tab W.drew from (HTB.out.below HBW.out).below HBD.out)
 have htt : (x.toList == x.toList) = true := beq_self_eq_true _
 clear y0 y1 y2 yl
 refine wp_region_held_drew (S := fun w' => w'.heap[w.heap.size]? = some (.cells #[.int .i64 15, .string x, .slice A n c, .int .i64 (a : Int)] 31 (0, 0))) (by kernel_rfl) (HXD.out) (fun hHeld => ?_)
 refine ztk 0 86 (.bool true) hHeld ?_; simp only [zq]
 refine ztk 1 87 (.bool true) hHeld ?_; simp only [zq]
 refine ztk 2 88 (.int .i64 q) hHeld ?_; simp only [zq]
 refine ztk 3 89 (.bool true) hHeld ?_; simp only [zq]
 refine ztk 4 90 (.bool true) hHeld ?_; simp only [zq]
 refine ztk 5 91 (.bool true) hHeld ?_; simp only [zq]
 refine ztk 6 92 (.int .i64 q) hHeld ?_; simp only [zq]
 refine ztk 8 94 (.pointer (some ⟨w.heap.size, 1, none⟩)) hHeld ?_; simp only [zq]
 refine ztk 9 95 (.string x) hHeld ?_ (hy := Or.inl ⟨by rfl, fun w' hS => (by have q0 := zc 1 hS rfl; have ql := blk_lt hS; go_simp)⟩); simp only [zq]
 refine zrd 7 fun KQ hK => ?_
 go_simp
 refine (HW.out _ HTD.out).mono ?_
 rintro e w2 ⟨rfl, h2⟩
 have HB2 := zh (HBW.out.trans (((HBD.out.trans (h2.mono HBD.out.size))).mono HBW.out.size))
 have HX2 := zh (below_blk h2 HXD.out)
 clear h2
 refine hK.out _ _ (HX2.out) (fun hHeld => ?_)
 clear hK KQ
 try simp only [zq]
 refine ztk 10 96 (.bool true) hHeld ?_; simp only [zq]
 refine ztk 11 97 (.bool true) hHeld ?_; simp only [zq]
 refine ztk 12 2 (.bool true) hHeld ?_; simp only [zq]
 refine wpAnyH_done (by kernel_rfl) ?_ _
 go_wp2
 go_ret
 exact ⟨rfl, HB2.out⟩
theorem pc_text_16 {x : ByteArray} {n c a : Nat} {A : Option Addr} {w : World} (ht : TextK 16 x n) (hxs : x.size ≤ 200000) (htab : Tab w) : Calls Tryz.prog 13 #[.agg #[.int .i64 16, .string x, .slice A n c, .int .i64 (a : Int)]] w (RetB (.bool true) w) := by
 unfold TextK at ht
 repeat rw [if_neg (by decide)] at ht
 rw [if_pos (by decide)] at ht
 clear ht
 go_enter Tryz.func13, Tryz.ntmps13
 go_upto_region 1 with fail
 refine gen_wpT fun W hW => ?_
 have HBW := zh (show Below w.heap.size w W by rw [← hW]; exact zbr.alloc znr _)
 have HX := zh (show W.heap[w.heap.size]? = some (.cells #[.int .i64 16, .string x, .slice A n c, .int .i64 (a : Int)] 31 (0, 0)) by rw [← hW]; exact heap_new_at _ _ _ rfl)
 have y0 := zc 0 HX.out rfl
 have y1 := zc 1 HX.out rfl
 have y2 := zc 2 HX.out rfl
 have yl := blk_lt HX.out
 clear hW
 go_wp2
 go_ret
 exact ⟨rfl, HBW.out⟩
theorem pc_text_18 {x : ByteArray} {n c a : Nat} {A : Option Addr} {w : World} {k : Int} (hk : k = 18 ∨ k = 25 ∨ k = 33) (ht : TextK k x n) (hxs : x.size ≤ 200000) (htab : Tab w) : Calls Tryz.prog 13 #[.agg #[.int .i64 k, .string x, .slice A n c, .int .i64 (a : Int)]] w (RetB (.bool true) w) := by
 obtain rfl | rfl | rfl := hk
 all_goals
  unfold TextK at ht
  repeat rw [if_neg (by decide)] at ht
  rw [if_pos (by decide)] at ht; have HNM := zh (fun w => rname_any x (by omega) w); rw [tb_true ht] at HNM; clear ht
  go_enter Tryz.func13, Tryz.ntmps13
  go_upto_region 1 with fail
  refine gen_wpT fun W hW => ?_; have HBW := zh (show Below w.heap.size w W by rw [← hW]; exact zbr.alloc znr _); have HX := zh (show W.heap[w.heap.size]? = some (.cells #[.int .i64 _, .string x, .slice A n c, .int .i64 (a : Int)] 31 (0, 0)) by rw [← hW]; exact heap_new_at _ _ _ rfl); have y0 := zc 0 HX.out rfl; have y1 := zc 1 HX.out rfl; have y2 := zc 2 HX.out rfl; have yl := blk_lt HX.out; clear hW; go_wp2_with fail
  refine (HNM.out W).mono ?_; rintro e w1 ⟨rfl, rfl⟩; go_wp2
  go_ret
  exact ⟨rfl, HBW.out⟩
theorem pc_text_21 {x : ByteArray} {n c a : Nat} {A : Option Addr} {w : World} (ht : TextK 21 x n) (hxs : x.size ≤ 200000) (htab : Tab w) : Calls Tryz.prog 13 #[.agg #[.int .i64 21, .string x, .slice A n c, .int .i64 (a : Int)]] w (RetB (.bool true) w) := by
 unfold TextK at ht
 repeat rw [if_neg (by decide)] at ht
 rw [if_pos (by decide)] at ht
 have HBI := zh (fun w => rbuiltin_any x w)
 rw [(built_pos ht).1] at HBI
 have htt : ((n : Int) == (n : Int)) = true := beq_self_eq_true _
 clear ht
 go_enter Tryz.func13, Tryz.ntmps13
 go_upto_region 1 with fail
 refine gen_wpT fun W hW => ?_
 have HBW := zh (show Below w.heap.size w W by rw [← hW]; exact zbr.alloc znr _)
 have HX := zh (show W.heap[w.heap.size]? = some (.cells #[.int .i64 21, .string x, .slice A n c, .int .i64 (a : Int)] 31 (0, 0)) by rw [← hW]; exact heap_new_at _ _ _ rfl)
 have y0 := zc 0 HX.out rfl
 have y1 := zc 1 HX.out rfl
 have y2 := zc 2 HX.out rfl
 have yl := blk_lt HX.out
 clear hW
 go_upto_region 27 with fail
 go_quiet ((go_at_call 28; exact quiet_ret (HBI.out _)))
 go_wp2
 go_ret
 exact ⟨rfl, below_dT HBW.out _⟩
theorem pc_text_27 {x : ByteArray} {n c a : Nat} {A : Option Addr} {w : World} (ht : TextK 27 x n) (hxs : x.size ≤ 200000) (htab : Tab w) : Calls Tryz.prog 13 #[.agg #[.int .i64 27, .string x, .slice A n c, .int .i64 (a : Int)]] w (RetB (.bool true) w) := by
 unfold TextK at ht
 repeat rw [if_neg (by decide)] at ht
 rw [if_pos (by decide)] at ht
 simp only [binN, List.mem_cons, List.mem_nil_iff, or_false] at ht
 rcases ht with rfl | rfl | rfl | rfl | rfl | rfl | rfl | rfl | rfl | rfl | rfl | rfl
 ·have te : (⟨#[43]⟩ : ByteArray).toList = [43] := by rw [ByteArray.toList_eq]
  go_enter Tryz.func13, Tryz.ntmps13
  go_upto_region 1 with fail
  refine gen_wpT fun W hW => ?_; have HBW := zh (show Below w.heap.size w W by rw [← hW]; exact zbr.alloc znr _); have HX := zh (show W.heap[w.heap.size]? = some (.cells #[.int .i64 27, .string ⟨#[43]⟩, .slice A n c, .int .i64 (a : Int)] 31 (0, 0)) by rw [← hW]; exact heap_new_at _ _ _ rfl); have y0 := zc 0 HX.out rfl; have y1 := zc 1 HX.out rfl; have y2 := zc 2 HX.out rfl; have yl := blk_lt HX.out; clear hW; go_wp2
  go_ret
  exact ⟨rfl, HBW.out⟩
 ·have te : (⟨#[45]⟩ : ByteArray).toList = [45] := by rw [ByteArray.toList_eq]
  go_enter Tryz.func13, Tryz.ntmps13
  go_upto_region 1 with fail
  refine gen_wpT fun W hW => ?_; have HBW := zh (show Below w.heap.size w W by rw [← hW]; exact zbr.alloc znr _); have HX := zh (show W.heap[w.heap.size]? = some (.cells #[.int .i64 27, .string ⟨#[45]⟩, .slice A n c, .int .i64 (a : Int)] 31 (0, 0)) by rw [← hW]; exact heap_new_at _ _ _ rfl); have y0 := zc 0 HX.out rfl; have y1 := zc 1 HX.out rfl; have y2 := zc 2 HX.out rfl; have yl := blk_lt HX.out; clear hW; go_wp2
  go_ret
  exact ⟨rfl, HBW.out⟩
 ·have te : (⟨#[42]⟩ : ByteArray).toList = [42] := by rw [ByteArray.toList_eq]
  go_enter Tryz.func13, Tryz.ntmps13
  go_upto_region 1 with fail
  refine gen_wpT fun W hW => ?_; have HBW := zh (show Below w.heap.size w W by rw [← hW]; exact zbr.alloc znr _); have HX := zh (show W.heap[w.heap.size]? = some (.cells #[.int .i64 27, .string ⟨#[42]⟩, .slice A n c, .int .i64 (a : Int)] 31 (0, 0)) by rw [← hW]; exact heap_new_at _ _ _ rfl); have y0 := zc 0 HX.out rfl; have y1 := zc 1 HX.out rfl; have y2 := zc 2 HX.out rfl; have yl := blk_lt HX.out; clear hW; go_wp2
  go_ret
  exact ⟨rfl, HBW.out⟩
 ·have te : (⟨#[47, 47]⟩ : ByteArray).toList = [47, 47] := by rw [ByteArray.toList_eq]
  go_enter Tryz.func13, Tryz.ntmps13
  go_upto_region 1 with fail
  refine gen_wpT fun W hW => ?_; have HBW := zh (show Below w.heap.size w W by rw [← hW]; exact zbr.alloc znr _); have HX := zh (show W.heap[w.heap.size]? = some (.cells #[.int .i64 27, .string ⟨#[47, 47]⟩, .slice A n c, .int .i64 (a : Int)] 31 (0, 0)) by rw [← hW]; exact heap_new_at _ _ _ rfl); have y0 := zc 0 HX.out rfl; have y1 := zc 1 HX.out rfl; have y2 := zc 2 HX.out rfl; have yl := blk_lt HX.out; clear hW; go_wp2
  go_ret
  exact ⟨rfl, HBW.out⟩
 ·have te : (⟨#[37]⟩ : ByteArray).toList = [37] := by rw [ByteArray.toList_eq]
  go_enter Tryz.func13, Tryz.ntmps13
  go_upto_region 1 with fail
  refine gen_wpT fun W hW => ?_; have HBW := zh (show Below w.heap.size w W by rw [← hW]; exact zbr.alloc znr _); have HX := zh (show W.heap[w.heap.size]? = some (.cells #[.int .i64 27, .string ⟨#[37]⟩, .slice A n c, .int .i64 (a : Int)] 31 (0, 0)) by rw [← hW]; exact heap_new_at _ _ _ rfl); have y0 := zc 0 HX.out rfl; have y1 := zc 1 HX.out rfl; have y2 := zc 2 HX.out rfl; have yl := blk_lt HX.out; clear hW; go_wp2
  go_ret
  exact ⟨rfl, HBW.out⟩
 ·have te : (⟨#[46, 46]⟩ : ByteArray).toList = [46, 46] := by rw [ByteArray.toList_eq]
  go_enter Tryz.func13, Tryz.ntmps13
  go_upto_region 1 with fail
  refine gen_wpT fun W hW => ?_; have HBW := zh (show Below w.heap.size w W by rw [← hW]; exact zbr.alloc znr _); have HX := zh (show W.heap[w.heap.size]? = some (.cells #[.int .i64 27, .string ⟨#[46, 46]⟩, .slice A n c, .int .i64 (a : Int)] 31 (0, 0)) by rw [← hW]; exact heap_new_at _ _ _ rfl); have y0 := zc 0 HX.out rfl; have y1 := zc 1 HX.out rfl; have y2 := zc 2 HX.out rfl; have yl := blk_lt HX.out; clear hW; go_wp2
  go_ret
  exact ⟨rfl, HBW.out⟩
 ·have te : (⟨#[61, 61]⟩ : ByteArray).toList = [61, 61] := by rw [ByteArray.toList_eq]
  go_enter Tryz.func13, Tryz.ntmps13
  go_upto_region 1 with fail
  refine gen_wpT fun W hW => ?_; have HBW := zh (show Below w.heap.size w W by rw [← hW]; exact zbr.alloc znr _); have HX := zh (show W.heap[w.heap.size]? = some (.cells #[.int .i64 27, .string ⟨#[61, 61]⟩, .slice A n c, .int .i64 (a : Int)] 31 (0, 0)) by rw [← hW]; exact heap_new_at _ _ _ rfl); have y0 := zc 0 HX.out rfl; have y1 := zc 1 HX.out rfl; have y2 := zc 2 HX.out rfl; have yl := blk_lt HX.out; clear hW; go_wp2
  go_ret
  exact ⟨rfl, HBW.out⟩
 ·have te : (⟨#[126, 61]⟩ : ByteArray).toList = [126, 61] := by rw [ByteArray.toList_eq]
  go_enter Tryz.func13, Tryz.ntmps13
  go_upto_region 1 with fail
  refine gen_wpT fun W hW => ?_; have HBW := zh (show Below w.heap.size w W by rw [← hW]; exact zbr.alloc znr _); have HX := zh (show W.heap[w.heap.size]? = some (.cells #[.int .i64 27, .string ⟨#[126, 61]⟩, .slice A n c, .int .i64 (a : Int)] 31 (0, 0)) by rw [← hW]; exact heap_new_at _ _ _ rfl); have y0 := zc 0 HX.out rfl; have y1 := zc 1 HX.out rfl; have y2 := zc 2 HX.out rfl; have yl := blk_lt HX.out; clear hW; go_wp2
  go_ret
  exact ⟨rfl, HBW.out⟩
 ·have te : (⟨#[60]⟩ : ByteArray).toList = [60] := by rw [ByteArray.toList_eq]
  go_enter Tryz.func13, Tryz.ntmps13
  go_upto_region 1 with fail
  refine gen_wpT fun W hW => ?_; have HBW := zh (show Below w.heap.size w W by rw [← hW]; exact zbr.alloc znr _); have HX := zh (show W.heap[w.heap.size]? = some (.cells #[.int .i64 27, .string ⟨#[60]⟩, .slice A n c, .int .i64 (a : Int)] 31 (0, 0)) by rw [← hW]; exact heap_new_at _ _ _ rfl); have y0 := zc 0 HX.out rfl; have y1 := zc 1 HX.out rfl; have y2 := zc 2 HX.out rfl; have yl := blk_lt HX.out; clear hW; go_wp2
  go_ret
  exact ⟨rfl, HBW.out⟩
 ·have te : (⟨#[60, 61]⟩ : ByteArray).toList = [60, 61] := by rw [ByteArray.toList_eq]
  go_enter Tryz.func13, Tryz.ntmps13
  go_upto_region 1 with fail
  refine gen_wpT fun W hW => ?_; have HBW := zh (show Below w.heap.size w W by rw [← hW]; exact zbr.alloc znr _); have HX := zh (show W.heap[w.heap.size]? = some (.cells #[.int .i64 27, .string ⟨#[60, 61]⟩, .slice A n c, .int .i64 (a : Int)] 31 (0, 0)) by rw [← hW]; exact heap_new_at _ _ _ rfl); have y0 := zc 0 HX.out rfl; have y1 := zc 1 HX.out rfl; have y2 := zc 2 HX.out rfl; have yl := blk_lt HX.out; clear hW; go_wp2
  go_ret
  exact ⟨rfl, HBW.out⟩
 ·have te : (⟨#[62]⟩ : ByteArray).toList = [62] := by rw [ByteArray.toList_eq]
  go_enter Tryz.func13, Tryz.ntmps13
  go_upto_region 1 with fail
  refine gen_wpT fun W hW => ?_; have HBW := zh (show Below w.heap.size w W by rw [← hW]; exact zbr.alloc znr _); have HX := zh (show W.heap[w.heap.size]? = some (.cells #[.int .i64 27, .string ⟨#[62]⟩, .slice A n c, .int .i64 (a : Int)] 31 (0, 0)) by rw [← hW]; exact heap_new_at _ _ _ rfl); have y0 := zc 0 HX.out rfl; have y1 := zc 1 HX.out rfl; have y2 := zc 2 HX.out rfl; have yl := blk_lt HX.out; clear hW; go_wp2
  go_ret
  exact ⟨rfl, HBW.out⟩
 ·have te : (⟨#[62, 61]⟩ : ByteArray).toList = [62, 61] := by rw [ByteArray.toList_eq]
  go_enter Tryz.func13, Tryz.ntmps13
  go_upto_region 1 with fail
  refine gen_wpT fun W hW => ?_; have HBW := zh (show Below w.heap.size w W by rw [← hW]; exact zbr.alloc znr _); have HX := zh (show W.heap[w.heap.size]? = some (.cells #[.int .i64 27, .string ⟨#[62, 61]⟩, .slice A n c, .int .i64 (a : Int)] 31 (0, 0)) by rw [← hW]; exact heap_new_at _ _ _ rfl); have y0 := zc 0 HX.out rfl; have y1 := zc 1 HX.out rfl; have y2 := zc 2 HX.out rfl; have yl := blk_lt HX.out; clear hW; go_wp2
  go_ret
  exact ⟨rfl, HBW.out⟩
theorem pc_text_28 {x : ByteArray} {n c a : Nat} {A : Option Addr} {w : World} (ht : TextK 28 x n) (hxs : x.size ≤ 200000) (htab : Tab w) : Calls Tryz.prog 13 #[.agg #[.int .i64 28, .string x, .slice A n c, .int .i64 (a : Int)]] w (RetB (.bool true) w) := by
 unfold TextK at ht
 repeat rw [if_neg (by decide)] at ht
 rw [if_pos (by decide)] at ht
 simp only [unN, List.mem_cons, List.mem_nil_iff, or_false] at ht
 rcases ht with rfl | rfl | rfl
 ·have te : (⟨#[45]⟩ : ByteArray).toList = [45] := by rw [ByteArray.toList_eq]
  go_enter Tryz.func13, Tryz.ntmps13
  go_upto_region 1 with fail
  refine gen_wpT fun W hW => ?_; have HBW := zh (show Below w.heap.size w W by rw [← hW]; exact zbr.alloc znr _); have HX := zh (show W.heap[w.heap.size]? = some (.cells #[.int .i64 28, .string ⟨#[45]⟩, .slice A n c, .int .i64 (a : Int)] 31 (0, 0)) by rw [← hW]; exact heap_new_at _ _ _ rfl); have y0 := zc 0 HX.out rfl; have y1 := zc 1 HX.out rfl; have y2 := zc 2 HX.out rfl; have yl := blk_lt HX.out; clear hW; go_wp2
  go_ret
  exact ⟨rfl, HBW.out⟩
 ·have te : (⟨#[110, 111, 116]⟩ : ByteArray).toList = [110, 111, 116] := by rw [ByteArray.toList_eq]
  go_enter Tryz.func13, Tryz.ntmps13
  go_upto_region 1 with fail
  refine gen_wpT fun W hW => ?_; have HBW := zh (show Below w.heap.size w W by rw [← hW]; exact zbr.alloc znr _); have HX := zh (show W.heap[w.heap.size]? = some (.cells #[.int .i64 28, .string ⟨#[110, 111, 116]⟩, .slice A n c, .int .i64 (a : Int)] 31 (0, 0)) by rw [← hW]; exact heap_new_at _ _ _ rfl); have y0 := zc 0 HX.out rfl; have y1 := zc 1 HX.out rfl; have y2 := zc 2 HX.out rfl; have yl := blk_lt HX.out; clear hW; go_wp2
  go_ret
  exact ⟨rfl, HBW.out⟩
 ·have te : (⟨#[35]⟩ : ByteArray).toList = [35] := by rw [ByteArray.toList_eq]
  go_enter Tryz.func13, Tryz.ntmps13
  go_upto_region 1 with fail
  refine gen_wpT fun W hW => ?_; have HBW := zh (show Below w.heap.size w W by rw [← hW]; exact zbr.alloc znr _); have HX := zh (show W.heap[w.heap.size]? = some (.cells #[.int .i64 28, .string ⟨#[35]⟩, .slice A n c, .int .i64 (a : Int)] 31 (0, 0)) by rw [← hW]; exact heap_new_at _ _ _ rfl); have y0 := zc 0 HX.out rfl; have y1 := zc 1 HX.out rfl; have y2 := zc 2 HX.out rfl; have yl := blk_lt HX.out; clear hW; go_wp2
  go_ret
  exact ⟨rfl, HBW.out⟩
theorem pc_text_31 {x : ByteArray} {n c a : Nat} {A : Option Addr} {w : World} (ht : TextK 31 x n) (hxs : x.size ≤ 200000) (htab : Tab w) : Calls Tryz.prog 13 #[.agg #[.int .i64 31, .string x, .slice A n c, .int .i64 (a : Int)]] w (RetB (.bool true) w) := by
 unfold TextK at ht
 repeat rw [if_neg (by decide)] at ht
 rw [if_pos (by decide)] at ht
 have HBS := zh (fun w => pc_base x ht w)
 clear ht
 go_enter Tryz.func13, Tryz.ntmps13
 go_upto_region 1 with fail
 refine gen_wpT fun W hW => ?_
 have HBW := zh (show Below w.heap.size w W by rw [← hW]; exact zbr.alloc znr _)
 have HX := zh (show W.heap[w.heap.size]? = some (.cells #[.int .i64 31, .string x, .slice A n c, .int .i64 (a : Int)] 31 (0, 0)) by rw [← hW]; exact heap_new_at _ _ _ rfl)
 have y0 := zc 0 HX.out rfl
 have y1 := zc 1 HX.out rfl
 have y2 := zc 2 HX.out rfl
 have yl := blk_lt HX.out
 clear hW
 go_wp2_with fail
 refine (HBS.out W).mono ?_
 rintro e w2 ⟨rfl, hb2⟩
 have HB2 := zh (HBW.out.trans (hb2.mono HBW.out.size))
 clear hb2
 go_wp2
 go_ret
 exact ⟨rfl, HB2.out⟩
theorem pc_text_36 {x : ByteArray} {n c a : Nat} {A : Option Addr} {w : World} (ht : TextK 36 x n) (hxs : x.size ≤ 200000) (htab : Tab w) : Calls Tryz.prog 13 #[.agg #[.int .i64 36, .string x, .slice A n c, .int .i64 (a : Int)]] w (RetB (.bool true) w) := by
 unfold TextK at ht
 repeat rw [if_neg (by decide)] at ht
 rw [if_pos (by decide)] at ht
 have HTB := zh htab
 have HMK := zh (fun w h => pc_mask x ht w h)
 clear ht
 go_enter Tryz.func13, Tryz.ntmps13
 go_upto_region 1 with fail
 refine gen_wpT fun W hW => ?_
 have HBW := zh (show Below w.heap.size w W by rw [← hW]; exact zbr.alloc znr _)
 have HX := zh (show W.heap[w.heap.size]? = some (.cells #[.int .i64 36, .string x, .slice A n c, .int .i64 (a : Int)] 31 (0, 0)) by rw [← hW]; exact heap_new_at _ _ _ rfl)
 have y0 := zc 0 HX.out rfl
 have y1 := zc 1 HX.out rfl
 have y2 := zc 2 HX.out rfl
 have yl := blk_lt HX.out
 clear hW
 obtain ⟨v, hv⟩ := HMK.out W ((HTB.out).below HBW.out)
 have HMV := zh hv
 clear hv
 go_wp2_with fail
 refine HMV.out.mono ?_
 rintro e w2 ⟨rfl, hb2⟩
 have HB2 := zh (HBW.out.trans (hb2.mono HBW.out.size))
 clear hb2
 go_wp2
 go_ret
 exact ⟨rfl, HB2.out⟩
theorem pc_text {k : Int} {x : ByteArray} {n c a : Nat} {A : Option Addr} {w : World} (hk : 1 ≤ k ∧ k ≤ 36) (ht : TextK k x n) (hxs : x.size ≤ 200000) (htab : Tab w) : Calls Tryz.prog 13 #[.agg #[.int .i64 k, .string x, .slice A n c, .int .i64 (a : Int)]] w (RetB (.bool true) w) := by
 obtain rfl | rfl | rfl | rfl | rfl | rfl | rfl | rfl | rfl | rfl | rfl | rfl | rfl | rfl | rfl | rfl | rfl | rfl | rfl | rfl | rfl | rfl | rfl | rfl | rfl | rfl | rfl | rfl | rfl | rfl | rfl | rfl | rfl | rfl | rfl | rfl : k = 1 ∨ k = 2 ∨ k = 3 ∨ k = 4 ∨ k = 5 ∨ k = 6 ∨ k = 7 ∨ k = 8 ∨ k = 9 ∨ k = 10 ∨ k = 11 ∨ k = 12 ∨ k = 13 ∨ k = 14 ∨ k = 15 ∨ k = 16 ∨ k = 17 ∨ k = 18 ∨ k = 19 ∨ k = 20 ∨ k = 21 ∨ k = 22 ∨ k = 23 ∨ k = 24 ∨ k = 25 ∨ k = 26 ∨ k = 27 ∨ k = 28 ∨ k = 29 ∨ k = 30 ∨ k = 31 ∨ k = 32 ∨ k = 33 ∨ k = 34 ∨ k = 35 ∨ k = 36 := by omega
 ·exact pc_text_1 (by decide) ht hxs htab
 ·exact pc_text_2 ht hxs htab
 ·exact pc_text_1 (by decide) ht hxs htab
 ·exact pc_text_4 (by decide) ht hxs htab
 ·exact pc_text_4 (by decide) ht hxs htab
 ·exact pc_text_1 (by decide) ht hxs htab
 ·exact pc_text_1 (by decide) ht hxs htab
 ·exact pc_text_1 (by decide) ht hxs htab
 ·exact pc_text_1 (by decide) ht hxs htab
 ·exact pc_text_1 (by decide) ht hxs htab
 ·exact pc_text_1 (by decide) ht hxs htab
 ·exact pc_text_1 (by decide) ht hxs htab
 ·exact pc_text_1 (by decide) ht hxs htab
 ·exact pc_text_14 ht hxs htab
 ·exact pc_text_15 ht hxs htab
 ·exact pc_text_16 ht hxs htab
 ·exact pc_text_4 (by decide) ht hxs htab
 ·exact pc_text_18 (by decide) ht hxs htab
 ·exact pc_text_1 (by decide) ht hxs htab
 ·exact pc_text_1 (by decide) ht hxs htab
 ·exact pc_text_21 ht hxs htab
 ·exact pc_text_1 (by decide) ht hxs htab
 ·exact pc_text_4 (by decide) ht hxs htab
 ·exact pc_text_1 (by decide) ht hxs htab
 ·exact pc_text_18 (by decide) ht hxs htab
 ·exact pc_text_1 (by decide) ht hxs htab
 ·exact pc_text_27 ht hxs htab
 ·exact pc_text_28 ht hxs htab
 ·exact pc_text_1 (by decide) ht hxs htab
 ·exact pc_text_1 (by decide) ht hxs htab
 ·exact pc_text_31 ht hxs htab
 ·exact pc_text_1 (by decide) ht hxs htab
 ·exact pc_text_18 (by decide) ht hxs htab
 ·exact pc_text_1 (by decide) ht hxs htab
 ·exact pc_text_1 (by decide) ht hxs htab
 ·exact pc_text_36 ht hxs htab
end Go.Proofs.YthobobmbileekaaGreatDoor
