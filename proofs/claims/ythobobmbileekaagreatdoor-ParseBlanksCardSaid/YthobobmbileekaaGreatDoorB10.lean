/-
 ParseBlanks: part 10 of what the claim rests on.
-/
import Derived.Test.YthobobmbileekaaGreatDoorB09
set_option linter.unusedVariables false
set_option linter.unusedSimpArgs false
set_option maxHeartbeats 64000000
namespace Go.Proofs.YthobobmbileekaaGreatDoor
open Go.ChangeShapes Go.WideShapes Go.ChangeAt Go.RowKit

section
variable {K : PaK} {w w' : World} {p i o : Nat} {sn : Fin 8 → Bool} {ns : List Nd} {fp fp' : List Nat}
theorem OutB.of {a n : Nat} {e : Ending} {w1 : World} (h : e = .panicked (wrongP a n)) (hb : Below p w w1) : OutB w p a n e w1 := ⟨h, hb⟩
set_option maxRecDepth 100000 in
theorem token_no (h : PaAt K w p i o sn ns fp) (hi : i < K.T.length) (kd : Int) (hk : ¬ (tk K.T i).kind = kd) :
  Calls Tryz.prog 22 #[.pointer (some ⟨p, 0, none⟩), .int .i64 kd] w (OutB w p (tk K.T i).a 70) := by
 have hb0 : Below w.heap.size w (w.alloc (.cells tokZ0 65)) := (Below.refl _ _).alloc (Nat.le_refl _) _
 have HN := Lib.hid (now_any (h.below hb0) hi)
 obtain ⟨t, ht⟩ : ∃ t, t = tk K.T i := ⟨_, rfl⟩
 rw [← ht] at HN hk ⊢
 have hq : (t.kind != kd) = true := by rw [bne_iff_ne]; exact hk
 have H := Lib.hid h
 clear h ht hk hb0
 go_enter Tryz.func22, Tryz.ntmps22
 go_wp2_with fail
 refine HN.out.mono ?_
 rintro e w1 ⟨rfl, hb1⟩
 have HB1 := Lib.hid (show Below w.heap.size w w1 from ((Below.refl _ _).alloc (Nat.le_refl _) _).trans (hb1.mono (by simp)))
 clear hb1
 unfold tkEnc
 go_upto_region 2 with fail
 obtain ⟨b, hb⟩ : ∃ b, b = w1.heap.size := ⟨_, rfl⟩
 rw [← hb]
 refine gen_wpT fun W hW => ?_
 have HT := Lib.hid (show W.heap[b]? = some (.cells (tokA0 t) 65 (0, 0)) by rw [← hW]; exact heap_new_at _ _ _ hb.symm)
 have HWB := Lib.hid (show Below p w W by rw [← hW]; exact (HB1.out.alloc HB1.out.size _).mono (Nat.le_of_lt H.out.lt))
 clear hW hb
 obtain ⟨t0, t1, t2, t3, t4, tl⟩ := blk5 HT.out
 go_wp2_with fail
 refine (no_any _ t.a _).mono ?_
 rintro e w3 ⟨rfl, rfl⟩
 unfold wrongP
 go_wp2
 exact ⟨rfl, rfl, HWB.out⟩
set_option maxRecDepth 100000 in
theorem none_any (h : PaAt K w p i o sn ns fp) (hns : ns.length ≤ 900000) :
  Calls Tryz.prog 93 #[.pointer (some ⟨p, 0, none⟩)] w (OutP K w p o sn ns fp (.ok noneT i)) := by
 have HL := Lib.hid (lay_any h hns 12 ByteArray.empty 0 (KidsV.nil w) (by simp))
 clear h
 unfold natV at HL
 go_enter Tryz.func93, Tryz.ntmps93
 go_wp2_with fail
 refine HL.out.mono ?_
 rintro e w1 ⟨rfl, fp', h1, h2⟩
 have H1 := Lib.hid h1
 have H2 := Lib.hid h2
 clear h1 h2
 go_wp2
 go_ret
 exact ⟨rfl, fp', H1.out, H2.out⟩
set_option maxRecDepth 100000 in
theorem over_any (h : PaAt K w p i o sn ns fp) (hi : i < K.T.length) :
  Calls Tryz.prog 47 #[.pointer (some ⟨p, 0, none⟩)] w (RetB (.bool (overL K.T i)) w) := by
 have HN := Lib.hid (now_any h hi)
 have H := Lib.hid h
 obtain ⟨t, ht⟩ : ∃ t, t = tk K.T i := ⟨_, rfl⟩
 rw [← ht] at HN
 have HT := Lib.hid ht
 have HIN := Lib.hid hi
 clear h ht hi
 by_cases hk : t.kind = 0
 ·have hq : (t.kind == 0) = true := beq_iff_eq.2 hk
  have HR := Lib.hid (show overL K.T i = true by unfold overL; rw [← HT.out, hk]; rfl)
  clear hk
  go_enter Tryz.func47, Tryz.ntmps47
  go_wp2_with fail
  refine HN.out.mono ?_
  rintro e w1 ⟨rfl, hb1⟩
  have HB1 := Lib.hid hb1
  clear hb1
  unfold tkEnc
  have f0 := tok_f0 (.int .i64 t.kind) (.int .i64 (t.a : Int)) (.int .i64 (t.z : Int)) (.int .i64 t.n) (.string t.text)
  go_wp2
  go_ret
  exact ⟨by rw [HR.out]; rfl, HB1.out⟩
 ·have hq : (t.kind == 0) = false := beq_eq_false_iff_ne.2 hk
  have HR := Lib.hid (show overL K.T i = isAny (tk K.T i) [⟨#[101, 110, 100]⟩, ⟨#[101, 108, 115, 101]⟩, ⟨#[101, 108, 115, 101, 105, 102]⟩] by unfold overL; rw [← HT.out, decide_eq_false hk, Bool.false_or])
  clear hk
  go_enter Tryz.func47, Tryz.ntmps47
  go_wp2_with fail
  refine HN.out.mono ?_
  rintro e w1 ⟨rfl, hb1⟩
  have HB1 := Lib.hid hb1
  have HI := Lib.hid (fun W (hW : W = w1.alloc (.cells #[.string ⟨#[101, 110, 100]⟩, .string ⟨#[101, 108, 115, 101]⟩, .string ⟨#[101, 108, 115, 101, 105, 102]⟩] 9)) => (show Calls Tryz.prog 19 #[.pointer (some ⟨p, 0, none⟩), .slice (some ⟨w1.heap.size, 0, none⟩) 3 3] W (RetB (.bool (isAny (tk K.T i) [⟨#[101, 110, 100]⟩, ⟨#[101, 108, 115, 101]⟩, ⟨#[101, 108, 115, 101, 105, 102]⟩])) W) from
   is_any (K := K) (i := i) (o := o) (sn := sn) (ns := ns) (fp := fp) (c := 3) (L := [⟨#[101, 110, 100]⟩, ⟨#[101, 108, 115, 101]⟩, ⟨#[101, 108, 115, 101, 105, 102]⟩]) (hW ▸ (H.out.below hb1).below ((Below.refl _ _).alloc (Nat.le_refl _) _)) HIN.out (by rw [hW]; exact .inr ⟨⟨w1.heap.size, 0, none⟩, rfl, by simp, fun j u hu => news_new w1 #[.string ⟨#[101, 110, 100]⟩, .string ⟨#[101, 108, 115, 101]⟩, .string ⟨#[101, 108, 115, 101, 105, 102]⟩] _ _ rfl j u hu⟩) (by simp)))
  clear hb1
  unfold tkEnc
  have f0 := tok_f0 (.int .i64 t.kind) (.int .i64 (t.a : Int)) (.int .i64 (t.z : Int)) (.int .i64 t.n) (.string t.text)
  go_wp2_with fail
  refine (HI.out _ rfl).mono ?_
  rintro e w2 ⟨rfl, hb2⟩
  have HB2 := Lib.hid (show Below w.heap.size w w2 from (HB1.out.alloc HB1.out.size _).trans (hb2.mono (HB1.out.alloc HB1.out.size _).size))
  clear hb2
  go_wp2
  go_ret
  exact ⟨by rw [HR.out]; rfl, HB2.out⟩
end

structure St (K : PaK) (w0 : World) (p i o : Nat) (sn : Fin 8 → Bool) (ns : List Nd) (fp0 : List Nat) (L : List PT) (w : World) (fp : List Nat) : Prop where
 pa : PaAt K w p i o sn (ns ++ flats ns.length L) fp
 pt : PaTo w0 fp0 w fp
section
variable {K : PaK} {w0 w w' : World} {p i j o : Nat} {sn : Fin 8 → Bool} {ns : List Nd} {fp0 fp fp' : List Nat} {L : List PT}
theorem St.start (h : PaAt K w p i o sn ns fp) : St K w p i o sn ns fp [] w fp := ⟨by simpa [flats] using h, PaTo.refl _ _⟩
theorem St.below (h : St K w0 p i o sn ns fp0 L w fp) (hb : Below w.heap.size w w') : St K w0 p i o sn ns fp0 L w' fp := ⟨h.pa.below hb, h.pt.trans (PaTo.of_below h.pa hb)⟩
theorem St.own (h : St K w0 p i o sn ns fp0 L w fp) {S : List Nat} (hf : Fr S w w') (hs : ∀ b ∈ S, p ≤ b ∧ b ∉ fp ∧ w0.heap.size ≤ b) : St K w0 p i o sn ns fp0 L w' fp :=
 ⟨h.pa.fr hf fun b hb => ⟨(hs b hb).1, (hs b hb).2.1⟩, ⟨h.pt.fr.trans hf fun b hb => .inr (hs b hb).2.2, h.pt.new⟩⟩
theorem St.step (h : St K w0 p i o sn ns fp0 L w fp) {o' : Nat} (h1 : PaAt K w' p j o' sn (ns ++ flats ns.length L) fp') (h2 : PaTo w fp w' fp') : St K w0 p j o' sn ns fp0 L w' fp' := ⟨h1, h.pt.trans h2⟩
theorem flats_one_more (ns : List Nd) (L : List PT) (t : PT) : (ns ++ flats ns.length L) ++ flat (ns ++ flats ns.length L).length t = ns ++ flats ns.length (L ++ [t]) := by
 rw [flats_append, flats_one, List.length_append, flats_len, List.append_assoc]
theorem flats_more (ns : List Nd) (L l : List PT) : (ns ++ flats ns.length L) ++ flats (ns ++ flats ns.length L).length l = ns ++ flats ns.length (L ++ l) := by
 rw [flats_append, List.length_append, flats_len, List.append_assoc]
theorem len_more (ns : List Nd) (L : List PT) : (ns ++ flats ns.length L).length = ns.length + ptsS L := by rw [List.length_append, flats_len]
def nr (ns : List Nd) (L : List PT) (t : PT) : Nat := ns.length + ptsS L + ptS t - 1
theorem roots_more (ns : List Nd) (L : List PT) (t : PT) : roots ns.length (L ++ [t]) = roots ns.length L ++ [nr ns L t] := by rw [roots_append, roots_one]; rfl
def Callee (f : Nat) (nt : N1) (fn : FuncId) (args : Nat → Array Value) : Prop :=
 ∀ (K : PaK) (w : World) (p i o : Nat) (sn : Fin 8 → Bool) (ns : List Nd) (fp : List Nat), PaAt K w p i o sn ns fp → Room K i ns → o ≤ 150 → ∀ r, (parF K.T f).one nt o i = some r → Calls Tryz.prog fn (args p) w (OutP K w p o sn ns fp r)
def OneOk (K : PaK) (w0 : World) (p o : Nat) (sn : Fin 8 → Bool) (ns : List Nd) (fp0 : List Nat) (L : List PT) (w : World) (fp : List Nat) (t : PT) (j : Nat) (e : Ending) (w' : World) : Prop :=
 e = .returned (natV (nr ns L t)) ∧ ∃ fp', St K w0 p j o sn ns fp0 (L ++ [t]) w' fp' ∧ PaTo w fp w' fp'
structure Beg (w0 : World) (p : Nat) (fp0 : List Nat) : Prop where
 lt : p < w0.heap.size
 lo : ∀ b ∈ fp0, p ≤ b
theorem Beg.of (h : PaAt K w p i o sn ns fp) : Beg w p fp := ⟨h.lt, fun b hb => (h.fpb b hb).1⟩
theorem St.bad (h : St K w0 p i o sn ns fp0 L w fp) (hB : Beg w0 p fp0) (hb : Below p w w') : Below p w0 w' :=
 (h.pt.fr.to_below (Nat.le_of_lt hB.lt) hB.lo).trans hb
theorem call_ok {f : Nat} {nt : N1} {fn : FuncId} {args : Nat → Array Value} (hC : Callee f nt fn args) (h : St K w0 p i o sn ns fp0 L w fp) (hr : i < K.T.length ∧ ns.length + ptsS L + 4 * (K.T.length - i) ≤ 900000) (ho : o ≤ 150) {t : PT} (hX : (parF K.T f).one nt o i = some (.ok t j)) :
  Calls Tryz.prog fn (args p) w (OneOk K w0 p o sn ns fp0 L w fp t j) := by
 refine (hC K w p i o sn _ fp h.pa ⟨hr.1, by rw [len_more]; exact hr.2⟩ ho _ hX).mono ?_
 rintro e w1 ⟨rfl, fp1, h1, h2⟩
 refine ⟨by rw [len_more]; rfl, fp1, ?_, h2⟩
 rw [flats_one_more] at h1
 exact ⟨h1, h.pt.trans h2⟩
theorem call_bad {f : Nat} {nt : N1} {fn : FuncId} {args : Nat → Array Value} (hC : Callee f nt fn args) (h : St K w0 p i o sn ns fp0 L w fp) (hB : Beg w0 p fp0) (hr : i < K.T.length ∧ ns.length + ptsS L + 4 * (K.T.length - i) ≤ 900000) (ho : o ≤ 150) {a n : Nat} (hX : (parF K.T f).one nt o i = some (.bad a n)) :
  Calls Tryz.prog fn (args p) w (OutB w0 p a n) := by
 refine (hC K w p i o sn _ fp h.pa ⟨hr.1, by rw [len_more]; exact hr.2⟩ ho _ hX).mono ?_
 rintro e w1 ⟨rfl, h1⟩
 exact ⟨rfl, h.bad hB h1⟩
theorem lay_mid {L1 L2 : List PT} (h : St K w0 p i o sn ns fp0 (L1 ++ L2) w fp) (hr : ns.length + ptsS (L1 ++ L2) ≤ 900000) (hl : L2.length ≤ 900000) (kd : Int) (x : ByteArray) (a : Nat) {kv : Value} {ks : List Nat} (hk : KidsV w kv ks) (hks : ks = roots (ns.length + ptsS L1) L2) :
  Calls Tryz.prog 23 #[.pointer (some ⟨p, 0, none⟩), .int .i64 kd, .string x, natV a, kv] w (OneOk K w0 p o sn ns fp0 L1 w fp (.mk kd x a L2) i) := by
 refine (lay_any h.pa (by rw [len_more]; exact hr) kd x a hk (by rw [hks, roots_len]; exact hl)).mono ?_
 rintro e w1 ⟨rfl, fp1, h1, h2⟩
 refine ⟨?_, fp1, ⟨?_, h.pt.trans h2⟩, h2⟩
 ·rw [len_more, ptsS_append]
  unfold nr
  rw [ptS, show ns.length + ptsS L1 + (ptsS L2 + 1) - 1 = ns.length + (ptsS L1 + ptsS L2) by omega]
 ·have e : ns ++ flats ns.length (L1 ++ L2) ++ [⟨kd, x, ks, a⟩] = ns ++ flats ns.length (L1 ++ [.mk kd x a L2]) := by
   rw [flats_append, flats_append, flats_one, flat, hks]
   simp only [List.append_assoc]
  rw [e] at h1
  exact h1
theorem lay_fin (h : St K w0 p i o sn ns fp0 L w fp) (hr : ns.length + ptsS L ≤ 900000) (hl : L.length ≤ 900000) (kd : Int) (x : ByteArray) (a : Nat) {kv : Value} {ks : List Nat} (hk : KidsV w kv ks) (hks : ks = roots ns.length L) :
  Calls Tryz.prog 23 #[.pointer (some ⟨p, 0, none⟩), .int .i64 kd, .string x, natV a, kv] w (OutP K w0 p o sn ns fp0 (.ok (.mk kd x a L) i)) := by
 refine (lay_mid (L1 := []) (L2 := L) h hr hl kd x a hk (by simpa [ptsS] using hks)).mono ?_
 rintro e w1 ⟨rfl, fp1, h1, h2⟩
 refine ⟨by simp [nr, ptsS], fp1, ?_, h1.pt⟩
 have := h1.pa
 simpa [flats_one] using this
theorem OneOk.out {t : PT} {e : Ending} (h : OneOk K w0 p o sn ns fp0 [] w fp t j e w') : OutP K w0 p o sn ns fp0 (.ok t j) e w' := by
 obtain ⟨rfl, fp1, h1, h2⟩ := h
 exact ⟨by simp [nr, ptsS], fp1, by have := h1.pa; simpa [flats_one] using this, h1.pt⟩
theorem Away.blkTo {b : Nat} {ob : Obj} (hb : w.heap[b]? = some ob) (h : Away w p fp b) (k : PaTo w fp w' fp') : w'.heap[b]? = some ob := k.blk hb h
set_option maxRecDepth 100000 in
theorem within_deep (h : PaAt K w p i o sn ns fp) (ho : 150 < o + 1) (ho2 : o ≤ 150) (a : Nat) (fv : Value) :
  Calls Tryz.prog 74 #[.pointer (some ⟨p, 0, none⟩), natV a, fv] w (OutB w p a 61) := by
 obtain ⟨o1, ho1⟩ : ∃ o1, o1 = o + 1 := ⟨_, rfl⟩
 have hadd : (o : Int) + 1 = (o1 : Int) := by omega
 have hw : IntKind.i64.wrap (o1 : Int) = (o1 : Int) := IntWalk.i64_in _ (by omega)
 have hgt : (150 : Int) < (o1 : Int) := by omega
 have H := Lib.hid h
 obtain ⟨nv, l, hm⟩ := h.mem
 obtain ⟨-, -, -, c3, -, cf⟩ := pa_cell hm.blk
 have c3f := cf 3
 have pl := blk_lt hm.blk
 have e3 : (w.setCell ⟨p, 3, none⟩ (.int .i64 (o1 : Int))).cell? ⟨p, 3, none⟩ = some (.int .i64 (o1 : Int)) := cell_of_blk (blk_set (i := 3) hm.blk _) rfl
 clear h hm cf ho ho1 ho2
 unfold natV
 go_enter Tryz.func74, Tryz.ntmps74
 go_wp2
 exact ⟨rfl, rfl, (H.out.setO o1).2.below H.out⟩
set_option maxRecDepth 100000 in
theorem within_bad (h : PaAt K w p i o sn ns fp) (ho : ¬ 150 < o + 1) (a : Nat) {fn : FuncId} {fst cap args : Array Value} (hcall : ∀ W, (callFunc fn args).run Tryz.prog W = .ok (.enter fn args) W) (harg : fst ++ cap = args) {a' n : Nat}
  (hC : ∀ w1, PaAt K w1 p i (o + 1) sn ns fp → PaTo w fp w1 fp → Calls Tryz.prog fn args w1 (OutB w1 p a' n)) :
  Calls Tryz.prog 74 #[.pointer (some ⟨p, 0, none⟩), natV a, .func (.func fn) fst cap] w (OutB w p a' n) := by
 obtain ⟨o1, ho1⟩ : ∃ o1, o1 = o + 1 := ⟨_, rfl⟩
 rw [← ho1] at hC
 have hadd : (o : Int) + 1 = (o1 : Int) := by omega
 have hw : IntKind.i64.wrap (o1 : Int) = (o1 : Int) := IntWalk.i64_in _ (by omega)
 have hgt : ¬ (150 : Int) < (o1 : Int) := by omega
 have H := Lib.hid h
 have HC := Lib.hid hC
 have HO := Lib.hid ho1
 obtain ⟨nv, l, hm⟩ := h.mem
 obtain ⟨-, -, -, c3, -, cf⟩ := pa_cell hm.blk
 have c3f := cf 3
 have pl := blk_lt hm.blk
 have e3 : (w.setCell ⟨p, 3, none⟩ (.int .i64 (o1 : Int))).cell? ⟨p, 3, none⟩ = some (.int .i64 (o1 : Int)) := cell_of_blk (blk_set (i := 3) hm.blk _) rfl
 clear h hm cf ho ho1 hC
 unfold natV
 go_enter Tryz.func74, Tryz.ntmps74
 go_wp2_with fail
 refine (HC.out _ (H.out.setO o1).1 (H.out.setO o1).2).mono ?_
 rintro e w1 ⟨rfl, hb⟩
 have HB := Lib.hid (show Below p w w1 from ((H.out.setO o1).2.below H.out).trans hb)
 clear hb
 unfold wrongP
 go_wp2
 exact ⟨rfl, rfl, HB.out⟩
set_option maxRecDepth 100000 in
theorem within_gen (h : PaAt K w p i o sn ns fp) (ho : ¬ 150 < o + 1) (a : Nat) {fn : FuncId} {fst cap args : Array Value} (hcall : ∀ W, (callFunc fn args).run Tryz.prog W = .ok (.enter fn args) W) (harg : fst ++ cap = args) {n j : Nat} {ns' : List Nd} (R : World → List Nat → Prop)
  (hR : ∀ w1 fp1 v, R w1 fp1 → p ∈ fp1 → p < w1.heap.size → R (w1.setCell ⟨p, 3, none⟩ v) fp1)
  (hC : ∀ w1, PaAt K w1 p i (o + 1) sn ns fp → PaTo w fp w1 fp → Calls Tryz.prog fn args w1 (fun e w2 => e = .returned (natV n) ∧ ∃ fp2, PaAt K w2 p j (o + 1) sn ns' fp2 ∧ PaTo w1 fp w2 fp2 ∧ R w2 fp2)) :
  Calls Tryz.prog 74 #[.pointer (some ⟨p, 0, none⟩), natV a, .func (.func fn) fst cap] w (fun e w2 => e = .returned (natV n) ∧ ∃ fp2, PaAt K w2 p j o sn ns' fp2 ∧ PaTo w fp w2 fp2 ∧ R w2 fp2) := by
 obtain ⟨o1, ho1⟩ : ∃ o1, o1 = o + 1 := ⟨_, rfl⟩
 rw [← ho1] at hC
 have hadd : (o : Int) + 1 = (o1 : Int) := by omega
 have hw : IntKind.i64.wrap (o1 : Int) = (o1 : Int) := IntWalk.i64_in _ (by omega)
 have hgt : ¬ (150 : Int) < (o1 : Int) := by omega
 have hsub : (o1 : Int) - 1 = (o : Int) := by omega
 have hw0 : IntKind.i64.wrap (o : Int) = (o : Int) := IntWalk.i64_in _ (by omega)
 have H := Lib.hid h
 have HC := Lib.hid hC
 have HR := Lib.hid hR
 have HO := Lib.hid ho1
 obtain ⟨nv, l, hm⟩ := h.mem
 obtain ⟨-, -, -, c3, -, cf⟩ := pa_cell hm.blk
 have c3f := cf 3
 have pl := blk_lt hm.blk
 have e3 : (w.setCell ⟨p, 3, none⟩ (.int .i64 (o1 : Int))).cell? ⟨p, 3, none⟩ = some (.int .i64 (o1 : Int)) := cell_of_blk (blk_set (i := 3) hm.blk _) rfl
 clear h hm cf ho ho1 hC hR
 unfold natV
 go_enter Tryz.func74, Tryz.ntmps74
 go_wp2_with fail
 refine (HC.out _ (H.out.setO o1).1 (H.out.setO o1).2).mono ?_
 rintro e w1 ⟨rfl, fp1, h1, h2, h3⟩
 have H1 := Lib.hid h1
 have H2 := Lib.hid h2
 have H3 := Lib.hid h3
 obtain ⟨nv2, l2, hm2⟩ := h1.mem
 obtain ⟨-, -, -, z3, -, zf⟩ := pa_cell hm2.blk
 have z3f := zf 3
 have zl := blk_lt hm2.blk
 clear h1 h2 h3 hm2 zf c3 c3f pl e3
 unfold natV
 go_wp2
 go_ret
 obtain ⟨q1, q2⟩ := H1.out.setO o
 exact ⟨rfl, fp1, q1, ((H.out.setO o1).2.trans H2.out).trans q2, HR.out _ _ _ H3.out H1.out.fpp H1.out.lt⟩
end

def sliceLen : Value → Nat
 | .slice _ n _ => n
 | _ => 0
def ItemOut (K : PaK) (w : World) (p o : Nat) (sn : Fin 8 → Bool) (ns : List Nd) (fp : List Nat) (Inv : List PT → World → List Nat → Prop) (acc : List PT) : Res PT → Ending → World → Prop
 | .bad a n => OutB w p a n
 | .ok t j => fun e w' => e = .returned (natV (ns.length + ptS t - 1)) ∧ ∃ fp', PaAt K w' p j o sn (ns ++ flat ns.length t) fp' ∧ PaTo w fp w' fp' ∧ Inv (acc ++ [t]) w' fp'
theorem item_fit {T : List Tok} {M g : Nat} (h : TokOk T M) {it : Item} {acc : List PT} {o i j : Nat} {t : PT} (hi : i < T.length) (hX : (parF T g).one (it.nt acc) o i = some (.ok t j)) : j < T.length ∧ i < j ∧ ptS t ≤ 4 * (j - i) := by
 have := (fit_all h g).one (it.nt acc) o i hi
 rw [hX] at this
 obtain ⟨h1, h2, h3⟩ := this
 cases it <;> (simp only [Item.nt, lazy1, sl1, ex1, Bool.false_eq_true, if_false] at h2 h3; exact ⟨h1, h2, by omega⟩)
section
variable {K : PaK} {w0 w w' : World} {p i j o : Nat} {sn : Fin 8 → Bool} {ns : List Nd} {fp0 fp fp' : List Nat} {L : List PT}
theorem ptsS_len : ∀ l : List PT, l.length ≤ ptsS l
 | [] => by simp
 | t :: r => by rw [ptsS, List.length_cons]; have := ptsS_len r; have := ptS_pos t; omega
theorem Ints.push {v : Value} {l : List Nat} {n g cap : Nat} {A : Option Addr} {c : Nat} (h : Ints w p fp v l) (hv : v = .slice A l.length c) (hp : p < w.heap.size) (hg : w.grownBy w' v.ownBlock) (ho : w'.ownsRow (p + 1) 3 1 (.slice (some ⟨g, 0, none⟩) (l.length + 1) cap) (l.length + 1) (l.map natV ++ [natV n]))
  (hat : v.ownBlock = some g ∨ (w.heap.size ≤ g ∧ g ∉ fp)) : Ints w' p fp (.slice (some ⟨g, 0, none⟩) (l.length + 1) cap) (l ++ [n]) := by
 refine ⟨by simpa using ho, fun g' hg' => ?_, fun e => by simp at e⟩
 have e : g = g' := by simpa [Value.ownBlock] using hg'
 subst e
 have h1 := own_blk_lt ho (g := g) rfl
 rcases hat with e | ⟨e1, e2⟩
 ·exact ⟨(h.away g e).1, h1.2, (h.away g e).2.2⟩
 ·exact ⟨by omega, h1.2, e2⟩
set_option maxRecDepth 100000 in
theorem until_any {F : Nat} (h : PaAt K w p i o sn ns fp) (hroom : Room K i ns) (ho : o ≤ 150) (e : ByteArray) (it : Item) {fn : FuncId} {fst cap args : Array Value} (hcall : ∀ W, (callFunc fn args).run Tryz.prog W = .ok (.enter fn args) W) (harg : fst ++ cap = args)
  (Inv : List PT → World → List Nat → Prop) (hI0 : Inv [] w fp) (hIS : ∀ acc w1 w2 fp1 S, Inv acc w1 fp1 → Fr S w1 w2 → (∀ b ∈ S, b ∈ fp1 ∨ w.heap.size ≤ b) → Inv acc w2 fp1)
  (hC : ∀ g acc w1 i1 ns1 fp1, g ≤ F → PaAt K w1 p i1 o sn ns1 fp1 → Room K i1 ns1 → Inv acc w1 fp1 → ∀ r, (parF K.T g).one (it.nt acc) o i1 = some r → Calls Tryz.prog fn args w1 (ItemOut K w1 p o sn ns1 fp1 Inv acc r))
  {r : Res (List PT)} (hr : (parF K.T F).many (.until e it []) o i = some r) :
  Calls Tryz.prog 96 #[.pointer (some ⟨p, 0, none⟩), .string e, .func (.func fn) fst cap] w (OutL K w p o sn ns fp r) := by
 obtain ⟨iI, hiI, hI0', hI1', hI2'⟩ := info_parts infoIn
 have HBG := Lib.hid (Beg.of h)
 have HTK := Lib.hid h.env.tok
 have HRO := Lib.hid hroom
 have HIS := Lib.hid hIS
 have HC := Lib.hid hC
 have HS0 := Lib.hid (St.start h)
 have HLEN := Lib.hid h.env.len
 have HR0 := Lib.hid hr
 have HIN := Lib.hid hI0
 have HNI := Lib.hid h
 have HO := Lib.hid ho
 clear h hroom hIS hC hr hI0 ho
 go_enter Tryz.func96, Tryz.ntmps96
 go_wp2_with fail
 go_loopw [7] (fun lv wr => ∃ (acc : List PT) (i1 : Nat) (fp1 : List Nat) (g : Nat), Hid (St K w p i1 o sn ns fp acc wr fp1) ∧ Hid (Ints wr p fp1 lv (roots ns.length acc)) ∧ Hid (∀ g', lv.ownBlock = some g' → w.heap.size ≤ g') ∧ Hid (Inv acc wr fp1) ∧ Hid (g ≤ F ∧ (parF K.T g).many (.until e it acc) o i1 = some r) ∧ Hid (i1 < K.T.length ∧ ns.length + ptsS acc + 4 * (K.T.length - i1) ≤ 900000)) (fun lv _ => 900001 - sliceLen lv)
 case atStart => exact ⟨[], i, fp, F, HS0, Lib.hid (Ints.nil _ _ _), Lib.hid (fun g' hg' => by simp [Value.ownBlock] at hg'), HIN, Lib.hid ⟨Nat.le_refl _, HR0.out⟩, Lib.hid ⟨HRO.out.1, by have := HRO.out.2; simpa [ptsS] using this⟩⟩
 case round =>
  obtain ⟨acc, i1, fp1, g0, HS, HV, HVN, HIV, HG0, HRM⟩ := hrel
  obtain ⟨hg0, hr⟩ := HG0.out
  cases g0 with
  | zero => exact absurd hr (by simp [parF])
  | succ g =>
  have HG := Lib.hid (show g + 1 ≤ F ∧ True from ⟨hg0, trivial⟩)
  clear hg0 HG0
  change stepUntil K.T (parF K.T g) e it acc o i1 = some r at hr
  unfold stepUntil at hr
  obtain ⟨A1, c1, hlv, hlc1, hlc2, hfm⟩ := own_form HV.out.own
  subst hlv
  obtain ⟨rl, hrl⟩ : ∃ k, k = (roots ns.length acc).length := ⟨_, rfl⟩
  have HRL := Lib.hid hrl
  have HRL2 := Lib.hid (show rl ≤ 900000 by rw [hrl, roots_len]; have := ptsS_len acc; have := HRM.out.2; omega)
  have HRLA := Lib.hid (show rl = acc.length by rw [hrl, roots_len])
  rw [← hrl]
  clear hlc1 hlc2 hfm
  cases hb : isAny (tk K.T i1) [e] with
  | true =>
   rw [if_pos hb] at hr
   have HRR := Lib.hid (show Res.ok acc (i1 + 1) = r from Option.some.inj hr)
   have HGO := Lib.hid (got_yes HS.out.pa HRM.out.1 e hb)
   clear hr hb hrl
   go_wp2_with fail
   refine HGO.out.mono ?_
   rintro e w2 ⟨rfl, h1, h2⟩
   have HS2 := Lib.hid (HS.out.step h1 h2)
   have HV2 := Lib.hid (HV.out.to h2)
   clear h1 h2
   go_wp2
   go_ret
   exact (by rw [← HRR.out]; exact ⟨.slice A1 rl c1, fp1, rfl, HS2.out.pa, HS2.out.pt, by have h9 := HV2.out; rw [← HRL.out] at h9; exact h9, by have h9 := HVN.out; rw [← HRL.out] at h9; exact h9⟩)
  | false =>
   rw [if_neg (by rw [hb]; decide)] at hr
   have HGO := Lib.hid (got_no HS.out.pa HRM.out.1 e hb)
   clear hb
   have HR := Lib.hid hr
   clear hr hrl
   go_wp2_with fail
   refine HGO.out.mono ?_
   rintro e w2 ⟨rfl, h1, h2⟩
   have HS2 := Lib.hid (HS.out.below h2)
   have HV2 := Lib.hid (HV.out.to (PaTo.of_below HS.out.pa h2))
   have HI2 := Lib.hid (HIS.out _ _ _ _ [] HIV.out (Fr.of_below h2 []) (by simp))
   clear h1 h2
   by_cases hac : acc = []
   ·have hrl0 : rl = 0 := by rw [HRLA.out, hac]; rfl
    have hr := HR.out
    rw [if_pos hac] at hr
    clear HR
    have hq : ¬ (0 : Int) < (rl : Int) := by omega
    have HLT := Lib.hid HRM.out.1
    clear hac hrl0
    obtain ⟨x, hX⟩ : ∃ x, (parF K.T g).one (it.nt acc) o i1 = x := ⟨_, rfl⟩
    rw [hX] at hr
    cases x with
    | none => exact absurd hr (by simp [Res.then])
    | some x =>
    have HLN := Lib.hid (show ns.length + ptsS acc + 4 * (K.T.length - i1) ≤ 900000 by have := HRM.out; have := HLT.out; omega)
    cases x with
    | bad a n =>
     have HRR := Lib.hid (show Res.bad a n = r from by dsimp only [Res.then] at hr; exact Option.some.inj hr)
     have HCC := Lib.hid (HC.out g acc _ i1 _ _ (by have := HG.out.1; omega) HS2.out.pa ⟨HLT.out, by rw [len_more]; exact HLN.out⟩ HI2.out _ hX)
     clear hr hX
     go_wp2_with fail
     refine HCC.out.mono ?_
     rintro e w3 ⟨rfl, hb3⟩
     have HB3 := Lib.hid (HS2.out.bad HBG.out hb3)
     clear hb3
     unfold wrongP
     go_wp2
     exact ⟨rfl, by rw [← HRR.out]; exact ⟨rfl, HB3.out⟩⟩
    | ok t j =>
     have hft := item_fit HTK.out HLT.out hX
     have HFT := Lib.hid hft
     have HRR := Lib.hid (show (parF K.T g).many (.until e it (acc ++ [t])) o j = some r from by dsimp only [Res.then] at hr; exact hr)
     have HCC := Lib.hid (HC.out g acc _ i1 _ _ (by have := HG.out.1; omega) HS2.out.pa ⟨HLT.out, by rw [len_more]; exact HLN.out⟩ HI2.out _ hX)
     clear hr hX hft
     go_wp2_with fail
     refine HCC.out.mono ?_
     rintro e w3 ⟨rfl, fp3, h3, h4, h5⟩
     obtain ⟨n1, hn1⟩ : ∃ n, n = (ns ++ flats ns.length acc).length + ptS t - 1 := ⟨_, rfl⟩
     rw [← hn1]
     have HN1 := Lib.hid (show n1 = nr ns acc t by rw [hn1, len_more]; rfl)
     have HS3 := Lib.hid (show St K w p j o sn ns fp (acc ++ [t]) w3 fp3 from ⟨by rw [← flats_one_more]; exact h3, HS2.out.pt.trans h4⟩)
     have HV3 := Lib.hid (HV2.out.to h4)
     have HI3 := Lib.hid h5
     clear h3 h4 h5 hn1
     unfold natV
     go_wp2_with (at_builtin; (refine wpList_append_lies _ rfl _ _ _ rfl (p + 1) 3 iI (.int .i64 0) 1 8 Tryz.underlying29 hiI hI0' hI1' hI2' rfl (by omega) _ rl ((roots ns.length acc).map natV) rfl ((by rw [HRL.out]; exact HV3.out.own : w3.ownsRow (p + 1) 3 1 (.slice A1 rl c1) rl ((roots ns.length acc).map natV)).alloc _) ⟨w3.heap.size, 0, none⟩ 1 1 [.int .i64 (n1 : Int)] rfl rfl (news_new _ #[.int .i64 (n1 : Int)] _ _ rfl) (by simp [Value.oneCell']) (by omega) (by have := HRL2.out; unfold maxLen; omega) (by have := HRL2.out; omega) (by have := HS3.out.pa.lt; simp; omega) (w3.heap.size + 1) (by simp) ?_); intro gb cap w4 hown4 hgrow4 hat4 hlt4; have HO4 := Lib.hid hown4; have HG4 := Lib.hid (show World.grownBy _ w4 (Value.slice A1 rl c1).ownBlock from hgrow4); have HA4 := Lib.hid (show (Value.slice A1 rl c1).ownBlock = some gb ∨ gb = w3.heap.size + 1 from hat4); clear hown4 hgrow4 hat4)
     have HFR := Lib.hid (show Fr ((Value.slice A1 rl c1).ownBlock.toList) w3 w4 from ((Fr.refl _ _).alloc _).grown HG4.out (fun g' hg' => .inl (by simp [hg'])))
     have HAW := Lib.hid (show ∀ b ∈ (Value.slice A1 rl c1).ownBlock.toList, p ≤ b ∧ b ∉ fp3 ∧ w.heap.size ≤ b from fun b hb => by
      have hb' : (Value.slice A1 rl c1).ownBlock = some b := by simpa using hb
      rw [HRL.out] at hb'
      have h9 := HV3.out.away b hb'
      exact ⟨h9.1, h9.2.2, HVN.out b hb'⟩)
     have HV4 := Lib.hid (show Ints w4 p fp3 (.slice (some ⟨gb, 0, none⟩) (rl + 1) cap) (roots ns.length (acc ++ [t])) from by
      rw [roots_more, ← HN1.out]
      have h8 : (w3.alloc (.cells #[.int .i64 (n1 : Int)] 3)).heap.size = w3.heap.size + 1 := by simp
      have h9 := Ints.push (n := n1) (cap := cap) (g := gb) ((HV3.out.to (PaTo.of_below HS3.out.pa ((Below.refl _ _).alloc (Nat.le_refl _) (.cells #[.int .i64 (n1 : Int)] 3)))) ) (by rw [← HRL.out]) (by have := HS3.out.pa.lt; omega) (by rw [← HRL.out]; exact HG4.out) (by rw [← HRL.out]; exact HO4.out) (by rw [← HRL.out]; exact HA4.out.imp id fun e9 => ⟨by omega, HS3.out.pa.notin (by omega)⟩)
      rw [← HRL.out] at h9
      exact h9)
     have HVN4 := Lib.hid (show ∀ g', (Value.slice (some ⟨gb, 0, none⟩) (rl + 1) cap).ownBlock = some g' → w.heap.size ≤ g' from fun g' hg' => by
      have e9 : gb = g' := by simpa [Value.ownBlock] using hg'
      rw [← e9]
      rcases HA4.out with h9 | h9
      ·rw [HRL.out] at h9; exact HVN.out gb h9
      ·have := HS3.out.pt.fr.size; omega)
     go_roundw
     case rel => exact ⟨acc ++ [t], j, fp3, g, Lib.hid (HS3.out.own HFR.out HAW.out), HV4, HVN4, Lib.hid (HIS.out _ _ _ _ _ HI3.out HFR.out fun b hb => .inr (HAW.out b hb).2.2), Lib.hid ⟨by have := HG.out.1; omega, HRR.out⟩, Lib.hid ⟨HFT.out.1, by rw [ptsS_append, ptsS_one]; have := HFT.out; have := HLN.out; have := HLT.out; omega⟩⟩
     case measure => have := HRL2.out; simp [sliceLen]; omega
   ·have hrl0 : 0 < rl := by rw [HRLA.out]; exact List.length_pos_iff.2 hac
    have hr := HR.out
    rw [if_neg hac] at hr
    clear HR
    have hq : (0 : Int) < (rl : Int) := by omega
    unfold need at hr
    clear hac
    cases hb : isAny (tk K.T i1) [⟨#[44]⟩] with
    | false =>
     rw [if_neg (by rw [hb]; decide)] at hr
     have HRR := Lib.hid (show Res.bad (tk K.T i1).a 70 = r from Option.some.inj hr)
     have HND := Lib.hid (need_no HS2.out.pa HRM.out.1 _ hb)
     clear hr hb hrl0
     go_wp2_with fail
     refine HND.out.mono ?_
     rintro e w3 ⟨rfl, hb3⟩
     have HB3 := Lib.hid (HS2.out.bad HBG.out hb3)
     clear hb3
     unfold wrongP
     go_wp2
     exact ⟨rfl, by rw [← HRR.out]; exact ⟨rfl, HB3.out⟩⟩
    | true =>
     rw [if_pos hb] at hr
     have HND := Lib.hid (need_yes HS2.out.pa HRM.out.1 _ hb)
     have HLT := Lib.hid (any_lt HTK.out HRM.out.1 hb)
     have HR := Lib.hid hr
     clear hr hb hrl0
     go_wp2_with fail
     refine HND.out.mono ?_
     rintro e w2b ⟨rfl, h1, h2⟩
     have HS2b := Lib.hid (HS2.out.step h1 h2)
     have HV2b := Lib.hid (HV2.out.to h2)
     have HI2b := Lib.hid (HIS.out _ _ _ _ _ HI2.out h2.fr fun b hb => .inl hb)
     clear h1 h2
     have hr := HR.out
     clear HR
     obtain ⟨x, hX⟩ : ∃ x, (parF K.T g).one (it.nt acc) o (i1 + 1) = x := ⟨_, rfl⟩
     rw [hX] at hr
     cases x with
     | none => exact absurd hr (by simp [Res.then])
     | some x =>
     have HLN := Lib.hid (show ns.length + ptsS acc + 4 * (K.T.length - (i1 + 1)) ≤ 900000 by have := HRM.out; have := HLT.out; omega)
     cases x with
     | bad a n =>
      have HRR := Lib.hid (show Res.bad a n = r from by dsimp only [Res.then] at hr; exact Option.some.inj hr)
      have HCC := Lib.hid (HC.out g acc _ (i1 + 1) _ _ (by have := HG.out.1; omega) HS2b.out.pa ⟨HLT.out, by rw [len_more]; exact HLN.out⟩ HI2b.out _ hX)
      clear hr hX
      go_wp2_with fail
      refine HCC.out.mono ?_
      rintro e w3 ⟨rfl, hb3⟩
      have HB3 := Lib.hid (HS2b.out.bad HBG.out hb3)
      clear hb3
      unfold wrongP
      go_wp2
      exact ⟨rfl, by rw [← HRR.out]; exact ⟨rfl, HB3.out⟩⟩
     | ok t j =>
      have hft := item_fit HTK.out HLT.out hX
      have HFT := Lib.hid hft
      have HRR := Lib.hid (show (parF K.T g).many (.until e it (acc ++ [t])) o j = some r from by dsimp only [Res.then] at hr; exact hr)
      have HCC := Lib.hid (HC.out g acc _ (i1 + 1) _ _ (by have := HG.out.1; omega) HS2b.out.pa ⟨HLT.out, by rw [len_more]; exact HLN.out⟩ HI2b.out _ hX)
      clear hr hX hft
      go_wp2_with fail
      refine HCC.out.mono ?_
      rintro e w3 ⟨rfl, fp3, h3, h4, h5⟩
      obtain ⟨n1, hn1⟩ : ∃ n, n = (ns ++ flats ns.length acc).length + ptS t - 1 := ⟨_, rfl⟩
      rw [← hn1]
      have HN1 := Lib.hid (show n1 = nr ns acc t by rw [hn1, len_more]; rfl)
      have HS3 := Lib.hid (show St K w p j o sn ns fp (acc ++ [t]) w3 fp3 from ⟨by rw [← flats_one_more]; exact h3, HS2b.out.pt.trans h4⟩)
      have HV3 := Lib.hid (HV2b.out.to h4)
      have HI3 := Lib.hid h5
      clear h3 h4 h5 hn1
      unfold natV
      go_wp2_with (at_builtin; (refine wpList_append_lies _ rfl _ _ _ rfl (p + 1) 3 iI (.int .i64 0) 1 8 Tryz.underlying29 hiI hI0' hI1' hI2' rfl (by omega) _ rl ((roots ns.length acc).map natV) rfl ((by rw [HRL.out]; exact HV3.out.own : w3.ownsRow (p + 1) 3 1 (.slice A1 rl c1) rl ((roots ns.length acc).map natV)).alloc _) ⟨w3.heap.size, 0, none⟩ 1 1 [.int .i64 (n1 : Int)] rfl rfl (news_new _ #[.int .i64 (n1 : Int)] _ _ rfl) (by simp [Value.oneCell']) (by omega) (by have := HRL2.out; unfold maxLen; omega) (by have := HRL2.out; omega) (by have := HS3.out.pa.lt; simp; omega) (w3.heap.size + 1) (by simp) ?_); intro gb cap w4 hown4 hgrow4 hat4 hlt4; have HO4 := Lib.hid hown4; have HG4 := Lib.hid (show World.grownBy _ w4 (Value.slice A1 rl c1).ownBlock from hgrow4); have HA4 := Lib.hid (show (Value.slice A1 rl c1).ownBlock = some gb ∨ gb = w3.heap.size + 1 from hat4); clear hown4 hgrow4 hat4)
      have HFR := Lib.hid (show Fr ((Value.slice A1 rl c1).ownBlock.toList) w3 w4 from ((Fr.refl _ _).alloc _).grown HG4.out (fun g' hg' => .inl (by simp [hg'])))
      have HAW := Lib.hid (show ∀ b ∈ (Value.slice A1 rl c1).ownBlock.toList, p ≤ b ∧ b ∉ fp3 ∧ w.heap.size ≤ b from fun b hb => by
       have hb' : (Value.slice A1 rl c1).ownBlock = some b := by simpa using hb
       rw [HRL.out] at hb'
       have h9 := HV3.out.away b hb'
       exact ⟨h9.1, h9.2.2, HVN.out b hb'⟩)
      have HV4 := Lib.hid (show Ints w4 p fp3 (.slice (some ⟨gb, 0, none⟩) (rl + 1) cap) (roots ns.length (acc ++ [t])) from by
       rw [roots_more, ← HN1.out]
       have h8 : (w3.alloc (.cells #[.int .i64 (n1 : Int)] 3)).heap.size = w3.heap.size + 1 := by simp
       have h9 := Ints.push (n := n1) (cap := cap) (g := gb) ((HV3.out.to (PaTo.of_below HS3.out.pa ((Below.refl _ _).alloc (Nat.le_refl _) (.cells #[.int .i64 (n1 : Int)] 3)))) ) (by rw [← HRL.out]) (by have := HS3.out.pa.lt; omega) (by rw [← HRL.out]; exact HG4.out) (by rw [← HRL.out]; exact HO4.out) (by rw [← HRL.out]; exact HA4.out.imp id fun e9 => ⟨by omega, HS3.out.pa.notin (by omega)⟩)
       rw [← HRL.out] at h9
       exact h9)
      have HVN4 := Lib.hid (show ∀ g', (Value.slice (some ⟨gb, 0, none⟩) (rl + 1) cap).ownBlock = some g' → w.heap.size ≤ g' from fun g' hg' => by
       have e9 : gb = g' := by simpa [Value.ownBlock] using hg'
       rw [← e9]
       rcases HA4.out with h9 | h9
       ·rw [HRL.out] at h9; exact HVN.out gb h9
       ·have := HS3.out.pt.fr.size; omega)
      go_roundw
      case rel => exact ⟨acc ++ [t], j, fp3, g, Lib.hid (HS3.out.own HFR.out HAW.out), HV4, HVN4, Lib.hid (HIS.out _ _ _ _ _ HI3.out HFR.out fun b hb => .inr (HAW.out b hb).2.2), Lib.hid ⟨by have := HG.out.1; omega, HRR.out⟩, Lib.hid ⟨HFT.out.1, by rw [ptsS_append, ptsS_one]; have := HFT.out; have := HLN.out; have := HLT.out; omega⟩⟩
      case measure => have := HRL2.out; simp [sliceLen]; omega
end

section
variable {K : PaK} {w0 w w' : World} {p i j o : Nat} {sn : Fin 8 → Bool} {ns : List Nd} {fp0 fp fp' : List Nat} {L : List PT}
theorem St.out {t : PT} (h : St K w0 p i o sn ns fp0 [t] w fp) : OutP K w0 p o sn ns fp0 (.ok t i) (.returned (natV (nr ns [] t))) w :=
 ⟨by simp [nr, ptsS], fp, by have := h.pa; simpa [flats_one] using this, h.pt⟩
theorem built_neg {s : ByteArray} (h : builtinL s = none) : builtI s = -1 := by unfold builtI; rw [h]
theorem built_pos {s : ByteArray} {n : Nat} (h : builtinL s = some n) : builtI s = (n : Int) ∧ (n = 1 ∨ n = 2) := by
 refine ⟨by unfold builtI; rw [h], ?_⟩
 unfold builtinL at h
 split at h
 ·exact .inl (Option.some.inj h).symm
 ·split at h
  ·exact .inr (Option.some.inj h).symm
  ·cases h
set_option maxRecDepth 100000 in
theorem variable_ok (h : PaAt K w p i o sn ns fp) (hi : i < K.T.length) (hk : (tk K.T i).kind = 1) (hbu : builtinL (tk K.T i).text = none) :
  Calls Tryz.prog 72 #[.pointer (some ⟨p, 0, none⟩)] w (OutV K w p (i + 1) o sn ns fp (tokJ (tk K.T i))) := by
 have hb0 : Below w.heap.size w (w.alloc (.cells tokZ0 65)) := (Below.refl _ _).alloc (Nat.le_refl _) _
 have HN := Lib.hid (token_ok (h.below hb0) hi 1 hk)
 have HBU := Lib.hid (built_neg hbu)
 obtain ⟨t, ht⟩ : ∃ t, t = tk K.T i := ⟨_, rfl⟩
 rw [← ht] at HN HBU ⊢
 obtain ⟨g, hg⟩ : ∃ g, g = w.heap.size := ⟨_, rfl⟩
 have HG := Lib.hid hg
 have H := Lib.hid h
 have HZ := Lib.hid (show (w.alloc (.cells tokZ0 65)).heap[g]? = some (.cells tokZ0 65 (0, 0)) from heap_new_at _ _ _ hg.symm)
 have HZA := Lib.hid (show g ∉ fp from h.notin (Nat.le_of_eq hg.symm))
 clear h ht hk hb0 hg hbu
 go_enter Tryz.func72, Tryz.ntmps72
 go_wp2_with fail
 rw [← HG.out]
 refine HN.out.mono ?_
 rintro e w1 ⟨rfl, hp1, ht1⟩
 have HZ1 := Lib.hid (ht1.fr.blk HZ.out HZA.out)
 have HP1 := Lib.hid hp1
 have HT1 := Lib.hid ((PaTo.of_below H.out ((Below.refl w.heap.size w).alloc (Nat.le_refl _) _)).trans ht1)
 clear hp1 ht1
 unfold tokJ
 go_upto_region 2 with fail
 obtain ⟨b, hb⟩ : ∃ b, b = w1.heap.size := ⟨_, rfl⟩
 rw [← hb]
 refine gen_wpT fun W hW => ?_
 have HT := Lib.hid (show W.heap[b]? = some (.cells (tokA0 t) 65 (0, 0)) by rw [← hW]; exact heap_new_at _ _ _ hb.symm)
 have HZ2 := Lib.hid (show W.heap[g]? = some (.cells tokZ0 65 (0, 0)) by rw [← hW]; exact blk_alloc HZ1.out _)
 have HWB := Lib.hid (show Below w1.heap.size w1 W by rw [← hW]; exact (Below.refl _ _).alloc (Nat.le_refl _) _)
 have HNE := Lib.hid (show b ≠ g from by have h1 := blk_lt HZ1.out; omega)
 have HPW := Lib.hid (HP1.out.below HWB.out)
 have HTW := Lib.hid (HT1.out.trans (PaTo.of_below HP1.out HWB.out))
 clear hW hb
 obtain ⟨t0, t1, t2, t3, t4, tl⟩ := blk5 HT.out
 go_wp2_with fail
 refine (builtin_any _ _).mono ?_
 rintro e w2 ⟨rfl, rfl⟩
 rw [HBU.out]
 obtain ⟨z0, z1, z2, z3, z4, zl⟩ := blk5 HZ2.out
 obtain ⟨y0, y1, y2, y3, y4⟩ := frz5 HZ2.out
 have n1 := HNE.out
 go_wp2
 obtain ⟨j0, j1, j2, j3, j4⟩ := tok_five HZ2.out rfl (.int .i64 t.kind) (.string t.text) (.int .i64 (t.a : Int)) (.int .i64 (t.z : Int)) (.int .i64 t.n)
 have hfr := fr_five W g (.int .i64 t.kind) (.string t.text) (.int .i64 (t.a : Int)) (.int .i64 (t.z : Int)) (.int .i64 t.n)
 have hgf : p ≤ g ∧ g ∉ fp := ⟨by have := H.out.lt; have := HG.out; omega, HZA.out⟩
 have HFIN := Lib.hid (show OutV K w p (i + 1) o sn ns fp (tokJ t) (.returned (tokJ t)) (set5 W g (.int .i64 t.kind) (.string t.text) (.int .i64 (t.a : Int)) (.int .i64 (t.z : Int)) (.int .i64 t.n)) from
  ⟨rfl, HPW.out.fr hfr (by simpa using hgf), ⟨HTW.out.fr.trans hfr fun b hb => .inr (by rw [List.mem_singleton.1 hb, HG.out]; exact Nat.le_refl _), fun b hb => .inl hb⟩⟩)
 clear hfr hgf
 refine bodyPost_ret (v := tokJ t) (by simp [results, Tryz.results72, go_sem, j0, j1, j2, j3, j4]) rfl ?_
 exact HFIN.out
set_option maxRecDepth 100000 in
theorem variable_no (h : PaAt K w p i o sn ns fp) (hi : i < K.T.length) (hk : ¬ (tk K.T i).kind = 1) :
  Calls Tryz.prog 72 #[.pointer (some ⟨p, 0, none⟩)] w (OutB w p (tk K.T i).a 70) := by
 have hb0 : Below w.heap.size w (w.alloc (.cells tokZ0 65)) := (Below.refl _ _).alloc (Nat.le_refl _) _
 have HN := Lib.hid (token_no (h.below hb0) hi 1 hk)
 have H := Lib.hid h
 clear h hk hb0
 go_enter Tryz.func72, Tryz.ntmps72
 go_wp2_with fail
 refine HN.out.mono ?_
 rintro e w1 ⟨rfl, hb⟩
 have HB := Lib.hid (show Below p w w1 from (((Below.refl w.heap.size w).alloc (Nat.le_refl _) _).mono (Nat.le_of_lt H.out.lt)).trans hb)
 clear hb
 unfold wrongP
 go_wp2
 exact ⟨rfl, rfl, HB.out⟩
set_option maxRecDepth 100000 in
theorem variable_builtin (h : PaAt K w p i o sn ns fp) (hi : i < K.T.length) (hk : (tk K.T i).kind = 1) {n : Nat} (hbu : builtinL (tk K.T i).text = some n) :
  Calls Tryz.prog 72 #[.pointer (some ⟨p, 0, none⟩)] w (OutB w p (tk K.T i).a 70) := by
 have hb0 : Below w.heap.size w (w.alloc (.cells tokZ0 65)) := (Below.refl _ _).alloc (Nat.le_refl _) _
 have HN := Lib.hid (token_ok (h.below hb0) hi 1 hk)
 have HBU := Lib.hid (built_pos hbu).1
 obtain ⟨t, ht⟩ : ∃ t, t = tk K.T i := ⟨_, rfl⟩
 rw [← ht] at HN HBU ⊢
 have hn0 : (0 : Int) ≤ (n : Int) := by omega
 have H := Lib.hid h
 clear h ht hk hb0 hbu
 go_enter Tryz.func72, Tryz.ntmps72
 go_wp2_with fail
 refine HN.out.mono ?_
 rintro e w1 ⟨rfl, hp1, ht1⟩
 have HP1 := Lib.hid hp1
 have HT1 := Lib.hid (((PaTo.of_below H.out ((Below.refl w.heap.size w).alloc (Nat.le_refl _) _)).trans ht1).below H.out)
 clear hp1 ht1
 unfold tokJ
 go_upto_region 2 with fail
 obtain ⟨b, hb⟩ : ∃ b, b = w1.heap.size := ⟨_, rfl⟩
 rw [← hb]
 refine gen_wpT fun W hW => ?_
 have HT := Lib.hid (show W.heap[b]? = some (.cells (tokA0 t) 65 (0, 0)) by rw [← hW]; exact heap_new_at _ _ _ hb.symm)
 have HTW := Lib.hid (show Below p w W by rw [← hW]; exact HT1.out.alloc (Nat.le_of_lt HP1.out.lt) _)
 clear hW hb
 obtain ⟨t0, t1, t2, t3, t4, tl⟩ := blk5 HT.out
 go_wp2_with fail
 refine (builtin_any _ _).mono ?_
 rintro e w2 ⟨rfl, rfl⟩
 rw [HBU.out]
 go_wp2_with fail
 refine (no_any _ t.a _).mono ?_
 rintro e w3 ⟨rfl, rfl⟩
 unfold wrongP
 go_wp2
 exact ⟨rfl, rfl, HTW.out⟩
def OutM (K : PaK) (w : World) (p o : Nat) (sn : Fin 8 → Bool) (ns : List Nd) (fp : List Nat) : Res ByteArray → Ending → World → Prop
 | .bad a n => OutB w p a n
 | .ok x j => OutV K w p j o sn ns fp (.string x)
theorem mask_then {α : Type} {T : List Tok} {i : Nat} {k : ByteArray → Nat → Option (Res α)} : maskL T i k = Res.then (maskL T i one1) k := by
 unfold maskL token
 by_cases h1 : isAny (tk T i) [⟨#[45]⟩] = true
 ·rw [if_pos h1, if_pos h1]
  by_cases h2 : (tk T (i + 1)).kind = 3
  ·rw [if_pos h2, if_pos h2]
   dsimp only
   by_cases h3 : (tk T (i + 1)).n < 0
   ·rw [if_pos h3, if_pos h3]; rfl
   ·rw [if_neg h3, if_neg h3]; rfl
  ·rw [if_neg h2, if_neg h2]; rfl
 ·rw [if_neg h1, if_neg h1]
  by_cases h2 : (tk T i).kind = 3
  ·rw [if_pos h2, if_pos h2]; rfl
  ·rw [if_neg h2, if_neg h2]; rfl
set_option maxRecDepth 100000 in
theorem mask_any (h : PaAt K w p i o sn ns fp) (hi : i < K.T.length) {r : Res ByteArray} (hr : maskL K.T i one1 = some r) :
  Calls Tryz.prog 45 #[.pointer (some ⟨p, 0, none⟩)] w (OutM K w p o sn ns fp r) := by
 unfold maskL at hr
 have H := Lib.hid h
 cases hb : isAny (tk K.T i) [⟨#[45]⟩] with
 | false =>
  rw [if_neg (by rw [hb]; decide)] at hr
  have HGO := Lib.hid (got_no h hi _ hb)
  unfold token at hr
  clear h hb
  by_cases hk : (tk K.T i).kind = 3
  ·rw [if_pos hk] at hr
   have HRR := Lib.hid (show Res.ok (numText (tk K.T i).n) (i + 1) = r from Option.some.inj hr)
   have HTN := Lib.hid (H.out.env.tok.num i)
   have HTO := Lib.hid (fun w1 (h1 : PaAt K w1 p i o sn ns fp) => token_ok h1 hi 3 hk)
   clear hr hk
   obtain ⟨t, ht⟩ : ∃ t, t = tk K.T i := ⟨_, rfl⟩
   rw [← ht] at HTO HTN HRR
   clear ht
   go_enter Tryz.func45, Tryz.ntmps45
   go_wp2_with fail
   refine HGO.out.mono ?_
   rintro e w1 ⟨rfl, h1, h2⟩
   have HT1 := Lib.hid (HTO.out w1 h1)
   have HB1 := Lib.hid (PaTo.of_below H.out h2)
   clear h1 h2
   go_wp2_with fail
   refine HT1.out.mono ?_
   rintro e w2 ⟨rfl, h1, h2⟩
   have HP2 := Lib.hid h1
   have HT2 := Lib.hid (HB1.out.trans h2)
   clear h1 h2
   unfold tokJ
   go_upto_region 3 with fail
   obtain ⟨b, hb⟩ : ∃ b, b = w2.heap.size := ⟨_, rfl⟩
   rw [← hb]
   refine gen_wpT fun W hW => ?_
   have HTB := Lib.hid (show W.heap[b]? = some (.cells (tokA0 t) 65 (0, 0)) by rw [← hW]; exact heap_new_at _ _ _ hb.symm)
   have HWB := Lib.hid (show Below w2.heap.size w2 W by rw [← hW]; exact (Below.refl _ _).alloc (Nat.le_refl _) _)
   have HPW := Lib.hid (HP2.out.below HWB.out)
   have HTW := Lib.hid (HT2.out.trans (PaTo.of_below HP2.out HWB.out))
   clear hW hb
   obtain ⟨t0, t1, t2, t3, t4, tl⟩ := blk5 HTB.out
   have HSH := Lib.hid (nshow_any t.n W HTN.out.1 HTN.out.2 HPW.out.env.tab)
   go_wp2_with fail
   refine HSH.out.mono ?_
   rintro e w3 ⟨rfl, hb3⟩
   have HFIN := Lib.hid (show OutV K w p (i + 1) o sn ns fp (.string (numText t.n)) (.returned (.string (numText t.n))) w3 from ⟨rfl, HPW.out.below hb3, HTW.out.trans (PaTo.of_below HPW.out hb3)⟩)
   clear hb3
   go_wp2
   go_ret
   exact (by rw [← HRR.out]; exact HFIN.out)
  ·rw [if_neg hk] at hr
   have HRR := Lib.hid (show Res.bad (tk K.T i).a 70 = r from Option.some.inj hr)
   have HTO := Lib.hid (fun w1 (h1 : PaAt K w1 p i o sn ns fp) => token_no h1 hi 3 hk)
   clear hr hk
   go_enter Tryz.func45, Tryz.ntmps45
   go_wp2_with fail
   refine HGO.out.mono ?_
   rintro e w1 ⟨rfl, h1, h2⟩
   have HT1 := Lib.hid (HTO.out w1 h1)
   have HB1 := Lib.hid ((PaTo.of_below H.out h2).below H.out)
   clear h1 h2
   go_wp2_with fail
   refine HT1.out.mono ?_
   rintro e w2 ⟨rfl, h2⟩
   have HFB := Lib.hid (HB1.out.trans h2)
   clear h2
   unfold wrongP
   go_wp2
   exact ⟨rfl, by rw [← HRR.out]; exact ⟨rfl, HFB.out⟩⟩
 | true =>
  rw [if_pos hb] at hr
  have HGO := Lib.hid (got_yes h hi _ hb)
  have HLT := Lib.hid (any_lt h.env.tok hi hb)
  unfold token at hr
  clear h hb
  by_cases hk : (tk K.T (i + 1)).kind = 3
  ·rw [if_pos hk] at hr
   have HTN := Lib.hid (H.out.env.tok.num (i + 1))
   have HTO := Lib.hid (fun w1 (h1 : PaAt K w1 p (i + 1) o sn ns fp) => token_ok h1 HLT.out 3 hk)
   clear hk
   obtain ⟨t, ht⟩ : ∃ t, t = tk K.T (i + 1) := ⟨_, rfl⟩
   rw [← ht] at HTO HTN hr
   clear ht
   dsimp only at hr
   by_cases hn : t.n < 0
   ·rw [if_pos hn] at hr
    have HRR := Lib.hid (show Res.bad t.a 70 = r from Option.some.inj hr)
    clear hr
    go_enter Tryz.func45, Tryz.ntmps45
    go_wp2_with fail
    refine HGO.out.mono ?_
    rintro e w1 ⟨rfl, h1, h2⟩
    have HT1 := Lib.hid (HTO.out w1 h1)
    have HB1 := Lib.hid h2
    clear h1 h2
    go_wp2_with fail
    refine HT1.out.mono ?_
    rintro e w2 ⟨rfl, h1, h2⟩
    have HP2 := Lib.hid h1
    have HT2 := Lib.hid (HB1.out.trans h2)
    clear h1 h2
    unfold tokJ
    go_upto_region 3 with fail
    obtain ⟨b, hb⟩ : ∃ b, b = w2.heap.size := ⟨_, rfl⟩
    rw [← hb]
    refine gen_wpT fun W hW => ?_
    have HTB := Lib.hid (show W.heap[b]? = some (.cells (tokA0 t) 65 (0, 0)) by rw [← hW]; exact heap_new_at _ _ _ hb.symm)
    have HTW := Lib.hid (show Below p w W by rw [← hW]; exact ((HT2.out.below H.out)).alloc (Nat.le_of_lt HP2.out.lt) _)
    clear hW hb
    obtain ⟨t0, t1, t2, t3, t4, tl⟩ := blk5 HTB.out
    go_wp2_with fail
    refine (no_any _ t.a _).mono ?_
    rintro e w3 ⟨rfl, rfl⟩
    unfold wrongP
    go_wp2
    exact ⟨rfl, by rw [← HRR.out]; exact ⟨rfl, HTW.out⟩⟩
   ·rw [if_neg hn] at hr
    have HRR := Lib.hid (show Res.ok (numText (-t.n)) (i + 1 + 1) = r from Option.some.inj hr)
    clear hr
    obtain ⟨m, hm⟩ : ∃ m, m = -t.n := ⟨_, rfl⟩
    have hwm : IntKind.i64.wrap (-t.n) = m := by rw [← hm]; exact IntWalk.i64_in _ (by have := HTN.out; omega)
    have HMN := Lib.hid (show -9223372036854775808 ≤ m ∧ m ≤ 9223372036854775807 by have := HTN.out; omega)
    rw [← hm] at HRR
    clear hm
    go_enter Tryz.func45, Tryz.ntmps45
    go_wp2_with fail
    refine HGO.out.mono ?_
    rintro e w1 ⟨rfl, h1, h2⟩
    have HT1 := Lib.hid (HTO.out w1 h1)
    have HB1 := Lib.hid h2
    clear h1 h2
    go_wp2_with fail
    refine HT1.out.mono ?_
    rintro e w2 ⟨rfl, h1, h2⟩
    have HP2 := Lib.hid h1
    have HT2 := Lib.hid (HB1.out.trans h2)
    clear h1 h2
    unfold tokJ
    go_upto_region 3 with fail
    obtain ⟨b, hb⟩ : ∃ b, b = w2.heap.size := ⟨_, rfl⟩
    rw [← hb]
    refine gen_wpT fun W hW => ?_
    have HTB := Lib.hid (show W.heap[b]? = some (.cells (tokA0 t) 65 (0, 0)) by rw [← hW]; exact heap_new_at _ _ _ hb.symm)
    have HWB := Lib.hid (show Below w2.heap.size w2 W by rw [← hW]; exact (Below.refl _ _).alloc (Nat.le_refl _) _)
    have HPW := Lib.hid (HP2.out.below HWB.out)
    have HTW := Lib.hid (HT2.out.trans (PaTo.of_below HP2.out HWB.out))
    have HBG := Lib.hid (show w2.heap.size ≤ b from Nat.le_of_eq hb.symm)
    clear hW hb
    obtain ⟨t0, t1, t2, t3, t4, tl⟩ := blk5 HTB.out
    have t4f := free_of_blk (i := 4) HTB.out
    have hfr : Fr [b] W (W.setCell ⟨b, 4, none⟩ (.int .i64 m)) := (Fr.refl _ _).set _ (.inl (by simp))
    have HS := Lib.hid (show ∀ x ∈ [b], p ≤ x ∧ x ∉ fp from fun x hx => by rw [List.mem_singleton.1 hx]; exact ⟨by have := HBG.out; have := HP2.out.lt; omega, HP2.out.notin HBG.out⟩)
    have HPX := Lib.hid (HPW.out.fr hfr HS.out)
    have HTX := Lib.hid (show PaTo w fp (W.setCell ⟨b, 4, none⟩ (.int .i64 m)) fp from ⟨HTW.out.fr.trans hfr fun x hx => .inr (by rw [List.mem_singleton.1 hx]; exact Nat.le_trans HT2.out.fr.size HBG.out), fun b hb => .inl hb⟩)
    have c4 : (W.setCell ⟨b, 4, none⟩ (.int .i64 m)).cell? ⟨b, 4, none⟩ = some (.int .i64 m) := cell_of_blk (blk_set (i := 4) HTB.out _) rfl
    have HSH := Lib.hid (nshow_any m (W.setCell ⟨b, 4, none⟩ (.int .i64 m)) HMN.out.1 HMN.out.2 HPX.out.env.tab)
    clear hfr
    go_wp2_with fail
    refine HSH.out.mono ?_
    rintro e w3 ⟨rfl, hb3⟩
    have HFIN := Lib.hid (show OutV K w p (i + 1 + 1) o sn ns fp (.string (numText m)) (.returned (.string (numText m))) w3 from ⟨rfl, HPX.out.below hb3, HTX.out.trans (PaTo.of_below HPX.out hb3)⟩)
    clear hb3
    go_wp2
    go_ret
    exact (by rw [← HRR.out]; exact HFIN.out)
  ·rw [if_neg hk] at hr
   have HRR := Lib.hid (show Res.bad (tk K.T (i + 1)).a 70 = r from Option.some.inj hr)
   have HTO := Lib.hid (fun w1 (h1 : PaAt K w1 p (i + 1) o sn ns fp) => token_no h1 HLT.out 3 hk)
   clear hr hk
   go_enter Tryz.func45, Tryz.ntmps45
   go_wp2_with fail
   refine HGO.out.mono ?_
   rintro e w1 ⟨rfl, h1, h2⟩
   have HT1 := Lib.hid (HTO.out w1 h1)
   have HB1 := Lib.hid (h2.below H.out)
   clear h1 h2
   go_wp2_with fail
   refine HT1.out.mono ?_
   rintro e w2 ⟨rfl, h2⟩
   have HFB := Lib.hid (HB1.out.trans h2)
   clear h2
   unfold wrongP
   go_wp2
   exact ⟨rfl, by rw [← HRR.out]; exact ⟨rfl, HFB.out⟩⟩
theorem within_ok {f : Nat} {nt : N1} (h : St K w0 p i o sn ns fp0 L w fp) (ho : ¬ 150 < o + 1) (a : Nat) {fn : FuncId} {fst cap args : Array Value} (hcall : ∀ W, (callFunc fn args).run Tryz.prog W = .ok (.enter fn args) W) (harg : fst ++ cap = args) {t : PT} (hX : (parF K.T f).one nt (o + 1) i = some (.ok t j))
  (hC : ∀ w1, PaAt K w1 p i (o + 1) sn (ns ++ flats ns.length L) fp → PaTo w fp w1 fp → ∀ r, (parF K.T f).one nt (o + 1) i = some r → Calls Tryz.prog fn args w1 (OutP K w1 p (o + 1) sn (ns ++ flats ns.length L) fp r)) :
  Calls Tryz.prog 74 #[.pointer (some ⟨p, 0, none⟩), natV a, .func (.func fn) fst cap] w (OneOk K w0 p o sn ns fp0 L w fp t j) := by
 refine (within_gen h.pa ho a hcall harg (n := nr ns L t) (j := j) (ns' := ns ++ flats ns.length (L ++ [t])) (fun _ _ => True) (fun _ _ _ _ _ _ => trivial) fun w1 h1 h2 => ?_).mono ?_
 ·refine (hC w1 h1 h2 _ hX).mono ?_
  rintro e w2 ⟨rfl, fp2, h3, h4⟩
  rw [flats_one_more] at h3
  exact ⟨by rw [len_more]; rfl, fp2, h3, h4, trivial⟩
 ·rintro e w2 ⟨rfl, fp2, h3, h4, _⟩
  exact ⟨rfl, fp2, ⟨h3, h.pt.trans h4⟩, h4⟩
theorem within_no {f : Nat} {nt : N1} (h : St K w0 p i o sn ns fp0 L w fp) (hB : Beg w0 p fp0) (ho : ¬ 150 < o + 1) (a : Nat) {fn : FuncId} {fst cap args : Array Value} (hcall : ∀ W, (callFunc fn args).run Tryz.prog W = .ok (.enter fn args) W) (harg : fst ++ cap = args) {a' n : Nat} (hX : (parF K.T f).one nt (o + 1) i = some (.bad a' n))
  (hC : ∀ w1, PaAt K w1 p i (o + 1) sn (ns ++ flats ns.length L) fp → PaTo w fp w1 fp → ∀ r, (parF K.T f).one nt (o + 1) i = some r → Calls Tryz.prog fn args w1 (OutP K w1 p (o + 1) sn (ns ++ flats ns.length L) fp r)) :
  Calls Tryz.prog 74 #[.pointer (some ⟨p, 0, none⟩), natV a, .func (.func fn) fst cap] w (OutB w0 p a' n) :=
 (within_bad h.pa ho a hcall harg fun w1 h1 h2 => (hC w1 h1 h2 _ hX).mono fun e w' h => h).mono fun e w' hh => ⟨hh.1, h.bad hB hh.2⟩
theorem none_ok (h : St K w0 p i o sn ns fp0 L w fp) (hr : ns.length + ptsS L ≤ 900000) : Calls Tryz.prog 93 #[.pointer (some ⟨p, 0, none⟩)] w (OneOk K w0 p o sn ns fp0 L w fp noneT i) := by
 refine (none_any h.pa (by rw [len_more]; exact hr)).mono ?_
 rintro e w1 ⟨rfl, fp1, h1, h2⟩
 rw [flats_one_more] at h1
 exact ⟨by rw [len_more]; rfl, fp1, ⟨h1, h.pt.trans h2⟩, h2⟩
theorem St.drew (h : St K w0 p i o sn ns fp0 L w fp) : St K w0 p i o sn ns fp0 L w.drew fp := h.own (S := []) (Fr.refl _ _).drew (by simp)
theorem Away.drew {b : Nat} (h : Away w p fp b) : Away w.drew p fp b := h
def RowOk (K : PaK) (w0 : World) (p o : Nat) (sn : Fin 8 → Bool) (ns : List Nd) (fp0 : List Nat) (w : World) (fp : List Nat) (l : List PT) (j : Nat) (e : Ending) (w' : World) : Prop :=
 ∃ A c fp', e = .returned (.slice A l.length c) ∧ St K w0 p j o sn ns fp0 l w' fp' ∧ PaTo w fp w' fp' ∧ Ints w' p fp' (.slice A l.length c) (roots ns.length l) ∧ ∀ g, (Value.slice A l.length c).ownBlock = some g → w0.heap.size ≤ g
theorem st_nil (h : St K w0 p i o sn ns fp0 [] w fp) : PaAt K w p i o sn ns fp := by have := h.pa; simpa [flats] using this
theorem until_row {F : Nat} (h : St K w0 p i o sn ns fp0 [] w fp) (hroom : i < K.T.length ∧ ns.length + ptsS [] + 4 * (K.T.length - i) ≤ 900000) (ho : o ≤ 150) (e : ByteArray) (it : Item) {fn : FuncId} {fst cap args : Array Value} (hcall : ∀ W, (callFunc fn args).run Tryz.prog W = .ok (.enter fn args) W) (harg : fst ++ cap = args)
  (Inv : List PT → World → List Nat → Prop) (hI0 : Inv [] w fp) (hIS : ∀ acc w1 w2 fp1 S, Inv acc w1 fp1 → Fr S w1 w2 → (∀ b ∈ S, b ∈ fp1 ∨ w.heap.size ≤ b) → Inv acc w2 fp1)
  (hC : ∀ g acc w1 i1 ns1 fp1, g ≤ F → PaAt K w1 p i1 o sn ns1 fp1 → Room K i1 ns1 → Inv acc w1 fp1 → ∀ r, (parF K.T g).one (it.nt acc) o i1 = some r → Calls Tryz.prog fn args w1 (ItemOut K w1 p o sn ns1 fp1 Inv acc r))
  {l : List PT} {j : Nat} (hX : (parF K.T F).many (.until e it []) o i = some (.ok l j)) :
  Calls Tryz.prog 96 #[.pointer (some ⟨p, 0, none⟩), .string e, .func (.func fn) fst cap] w (RowOk K w0 p o sn ns fp0 w fp l j) := by
 refine (until_any (st_nil h) ⟨hroom.1, by simpa [ptsS] using hroom.2⟩ ho e it hcall harg Inv hI0 hIS hC hX).mono ?_
 rintro en w1 ⟨v, fp1, rfl, h1, h2, h3, h4⟩
 obtain ⟨A, c, hv, _, _, _⟩ := own_form h3.own
 rw [roots_len] at hv
 subst hv
 exact ⟨A, c, fp1, rfl, ⟨h1, h.pt.trans h2⟩, h2, h3, fun g hg => Nat.le_trans h.pt.fr.size (h4 g hg)⟩
theorem until_rowno {F : Nat} (h : St K w0 p i o sn ns fp0 [] w fp) (hB : Beg w0 p fp0) (hroom : i < K.T.length ∧ ns.length + ptsS [] + 4 * (K.T.length - i) ≤ 900000) (ho : o ≤ 150) (e : ByteArray) (it : Item) {fn : FuncId} {fst cap args : Array Value} (hcall : ∀ W, (callFunc fn args).run Tryz.prog W = .ok (.enter fn args) W) (harg : fst ++ cap = args)
  (Inv : List PT → World → List Nat → Prop) (hI0 : Inv [] w fp) (hIS : ∀ acc w1 w2 fp1 S, Inv acc w1 fp1 → Fr S w1 w2 → (∀ b ∈ S, b ∈ fp1 ∨ w.heap.size ≤ b) → Inv acc w2 fp1)
  (hC : ∀ g acc w1 i1 ns1 fp1, g ≤ F → PaAt K w1 p i1 o sn ns1 fp1 → Room K i1 ns1 → Inv acc w1 fp1 → ∀ r, (parF K.T g).one (it.nt acc) o i1 = some r → Calls Tryz.prog fn args w1 (ItemOut K w1 p o sn ns1 fp1 Inv acc r))
  {a n : Nat} (hX : (parF K.T F).many (.until e it []) o i = some (.bad a n)) :
  Calls Tryz.prog 96 #[.pointer (some ⟨p, 0, none⟩), .string e, .func (.func fn) fst cap] w (OutB w0 p a n) :=
 (until_any (st_nil h) ⟨hroom.1, by simpa [ptsS] using hroom.2⟩ ho e it hcall harg Inv hI0 hIS hC hX).mono fun e w' hh => ⟨hh.1, h.bad hB hh.2⟩
theorem item_fn {o : Nat} {nt : N1} {g : Nat} {r : Res PT} {fn : FuncId} {args : Array Value} {acc : List PT} (hC : Calls Tryz.prog fn args w (OutP K w p o sn ns fp r)) : Calls Tryz.prog fn args w (ItemOut K w p o sn ns fp (fun _ _ _ => True) acc r) := by
 refine hC.mono ?_
 cases r with
 | bad a n => exact fun e w' h => h
 | ok t j =>
  rintro e w' ⟨rfl, fp', h1, h2⟩
  exact ⟨rfl, fp', h1, h2, trivial⟩
def BoxInv (b : Nat) (ob : Obj) (p : Nat) (_ : List PT) (w : World) (fp : List Nat) : Prop := w.heap[b]? = some ob ∧ Away w p fp b
theorem item_box {b : Nat} {ob : Obj} {o : Nat} {r : Res PT} {fn : FuncId} {args : Array Value} {acc : List PT} (hI : BoxInv b ob p acc w fp) (hC : Calls Tryz.prog fn args w (OutP K w p o sn ns fp r)) : Calls Tryz.prog fn args w (ItemOut K w p o sn ns fp (BoxInv b ob p) acc r) := by
 refine hC.mono ?_
 cases r with
 | bad a n => exact fun e w' h => h
 | ok t j =>
  rintro e w' ⟨rfl, fp', h1, h2⟩
  exact ⟨rfl, fp', h1, h2, Away.blkTo hI.1 hI.2 h2, hI.2.to h2⟩
theorem box_stay {b : Nat} {ob : Obj} {acc : List PT} {w1 w2 : World} {S : List Nat} (hb : b < w.heap.size) (hI : BoxInv b ob p acc w1 fp) (hf : Fr S w1 w2) (hS : ∀ b ∈ S, b ∈ fp ∨ w.heap.size ≤ b) : BoxInv b ob p acc w2 fp :=
 ⟨hf.blk hI.1 fun e => (hS b e).elim hI.2.2.2 fun h => by omega, hI.2.on hf.size⟩
end

def CalleeL (f : Nat) (nt : NL) (fn : FuncId) (args : Nat → Array Value) : Prop :=
 ∀ (K : PaK) (w : World) (p i o : Nat) (sn : Fin 8 → Bool) (ns : List Nd) (fp : List Nat), PaAt K w p i o sn ns fp → Room K i ns → o ≤ 150 → ∀ r, (parF K.T f).many nt o i = some r → Calls Tryz.prog fn (args p) w (OutL K w p o sn ns fp r)
def ClosP (f : Nat) (nt : N1) (fn : FuncId) : Prop :=
 ∀ (K : PaK) (w : World) (p i o : Nat) (sn : Fin 8 → Bool) (ns : List Nd) (fp : List Nat) (b : Nat), PaAt K w p i o sn ns fp → Room K i ns → o ≤ 150 → w.heap[b]? = some (.cells #[.pointer (some ⟨p, 0, none⟩)] 44 (0, 0)) → Away w p fp b → ∀ r, (parF K.T f).one nt o i = some r → Calls Tryz.prog fn #[.pointer (some ⟨b, 0, none⟩)] w (OutP K w p o sn ns fp r)
def ClosA (f : Nat) (a : Nat) (nt : N1) (fn : FuncId) : Prop :=
 ∀ (K : PaK) (w : World) (p i o : Nat) (sn : Fin 8 → Bool) (ns : List Nd) (fp : List Nat) (b b2 : Nat), PaAt K w p i o sn ns fp → Room K i ns → o ≤ 150 → w.heap[b]? = some (.cells #[.pointer (some ⟨p, 0, none⟩)] 44 (0, 0)) → Away w p fp b → w.heap[b2]? = some (.cells #[natV a] 3 (0, 0)) → Away w p fp b2 → ∀ r, (parF K.T f).one nt o i = some r → Calls Tryz.prog fn #[.pointer (some ⟨b, 0, none⟩), .pointer (some ⟨b2, 0, none⟩)] w (OutP K w p o sn ns fp r)
def ClosT (f : Nat) (t : Tok) (nt : N1) (fn : FuncId) : Prop :=
 ∀ (K : PaK) (w : World) (p i o : Nat) (sn : Fin 8 → Bool) (ns : List Nd) (fp : List Nat) (b b2 : Nat), PaAt K w p i o sn ns fp → Room K i ns → o ≤ 150 → w.heap[b]? = some (.cells #[.pointer (some ⟨p, 0, none⟩)] 44 (0, 0)) → Away w p fp b → w.heap[b2]? = some (.cells (tokA0 t) 65 (0, 0)) → Away w p fp b2 → ∀ r, (parF K.T f).one nt o i = some r → Calls Tryz.prog fn #[.pointer (some ⟨b, 0, none⟩), .pointer (some ⟨b2, 0, none⟩)] w (OutP K w p o sn ns fp r)
structure AllPart (f : Nat) : Prop where
 block : Callee f .block 21 (fun p => #[.pointer (some ⟨p, 0, none⟩)])
 ended : Callee f .ended 81 (fun p => #[.pointer (some ⟨p, 0, none⟩)])
 maybe : ∀ b, Callee f (.maybe b) 71 (fun p => #[.pointer (some ⟨p, 0, none⟩), .bool b])
 stat : Callee f .stat 48 (fun p => #[.pointer (some ⟨p, 0, none⟩)])
 cond : ∀ a, Callee f (.cond a) 78 (fun p => #[.pointer (some ⟨p, 0, none⟩), natV a])
 simple : ∀ a, Callee f (.simple a) 82 (fun p => #[.pointer (some ⟨p, 0, none⟩), natV a])
 colon : ∀ b, Callee f (.colon b) 73 (fun p => #[.pointer (some ⟨p, 0, none⟩), .bool b])
 body : ∀ a, Callee f (.body a) 76 (fun p => #[.pointer (some ⟨p, 0, none⟩), natV a])
 chain : ∀ r, r ≤ 7 → Callee f (.chain r) 99 (fun p => #[.pointer (some ⟨p, 0, none⟩), natV r])
 exp : Callee f .exp 80 (fun p => #[.pointer (some ⟨p, 0, none⟩)])
 unary : Callee f .unary 113 (fun p => #[.pointer (some ⟨p, 0, none⟩)])
 suffixed : Callee f .suffixed 100 (fun p => #[.pointer (some ⟨p, 0, none⟩)])
 prim : Callee f .prim 114 (fun p => #[.pointer (some ⟨p, 0, none⟩)])
 name : ∀ t, Callee f (.name t) 130 (fun p => #[.pointer (some ⟨p, 0, none⟩), tokJ t])
 table : ∀ a, Callee f (.table a) 134 (fun p => #[.pointer (some ⟨p, 0, none⟩), natV a])
 kind : Callee f .kind 95 (fun p => #[.pointer (some ⟨p, 0, none⟩)])
 one : Callee f .one 112 (fun p => #[.pointer (some ⟨p, 0, none⟩)])
 shape : ∀ a, Callee f (.shape a) 129 (fun p => #[.pointer (some ⟨p, 0, none⟩), natV a])
 whileC : ∀ a, ClosA f a (.whileB a) 79
 indexC : ClosP f .index 115
 parenC : ClosP f .paren 132
 paramC : ClosP f .param 97
 kindC : ∀ a, ClosA f a (.kindF a) 111
 args : ∀ a, CalleeL f (.args a) 116 (fun p => #[.pointer (some ⟨p, 0, none⟩), natV a])
set_option maxRecDepth 100000 in
theorem walk_exp {f : Nat} (AP : ∀ g, g ≤ f → AllPart g)  : Callee (f + 1) .exp 80 (fun p => #[.pointer (some ⟨p, 0, none⟩)]) := by
 intro K w p i o sn ns fp h hroom ho r hr
 change (parF K.T f).one (.chain 1) o i = some r at hr
 have HB := Lib.hid (Beg.of h)
 have HTK := Lib.hid h.env.tok
 have HRM := Lib.hid hroom.2
 have HI := Lib.hid hroom.1
 have HO := Lib.hid ho
 have HS0 := Lib.hid (St.start h)
 have HLN := Lib.hid h.env.len
 have HAP := Lib.hid AP
 clear h hroom ho AP
 have HR := Lib.hid hr
 clear hr
 go_enter Tryz.func80, Tryz.ntmps80
 have hr := HR.out
 clear HR
 obtain ⟨X, hX⟩ : ∃ X, (parF K.T f).one (.chain 1) o i = X := ⟨_, rfl⟩
 rw [hX] at hr
 cases X with
 | none => exact absurd hr (by simp [Res.then])
 | some X =>
 cases X with
 | bad a n =>
  have HRR3 := Lib.hid (show Res.bad a n = r from (by exact Option.some.inj hr))
  have HC6 := Lib.hid (call_bad ((HAP.out f (Nat.le_refl f)).chain 1 (by decide)) HS0.out HB.out ⟨HI.out, by have := HRM.out; have := HI.out; (try simp only [ptsS, ptS, noneT, ptsS_append, Nat.add_zero, Nat.zero_add]); omega⟩ HO.out hX)
  clear hr hX
  go_wp2_with fail
  refine HC6.out.mono ?_
  rintro e wb ⟨rfl, hb⟩
  have HB5 := Lib.hid hb
  clear hb
  unfold wrongP
  go_wp2
  exact ⟨rfl, by rw [← HRR3.out]; exact ⟨rfl, HB5.out⟩⟩
 | ok t1 j2 =>
  have hft := (fit_all HTK.out f).one (.chain 1) o i HI.out
  rw [hX] at hft
  obtain ⟨f1, f2, f3⟩ := hft
  simp only [lazy1, sl1, ex1, Bool.false_eq_true, if_false, if_true] at f2 f3
  have HF4 := Lib.hid (And.intro f1 (And.intro f2 f3))
  clear f1 f2 f3
  have HC10 := Lib.hid (call_ok ((HAP.out f (Nat.le_refl f)).chain 1 (by decide)) HS0.out ⟨HI.out, by have := HRM.out; have := HI.out; (try simp only [ptsS, ptS, noneT, ptsS_append, Nat.add_zero, Nat.zero_add]); omega⟩ HO.out hX)
  clear hX
  have HR := Lib.hid hr
  clear hr
  go_wp2_with fail
  refine HC10.out.mono ?_
  rintro e w7 ⟨rfl, fp8, h1, h2⟩
  obtain ⟨n11, hn⟩ : ∃ n, n = nr ns [] t1 := ⟨_, rfl⟩
  rw [← hn]
  have HN12 := Lib.hid hn
  have HS9 := Lib.hid (show St K w p j2 o sn ns fp [t1] w7 fp8 from h1)
  clear h1 h2 hn
  have hr := HR.out
  clear HR
  have HRR13 := Lib.hid (show Res.ok _ _ = r from Option.some.inj hr)
  clear hr
  go_wp2
  go_ret
  exact (by rw [← HRR13.out, HN12.out]; exact HS9.out.out)
set_option maxRecDepth 100000 in
theorem walk_maybe {f : Nat} (AP : ∀ g, g ≤ f → AllPart g) (b : Bool) : Callee (f + 1) (.maybe b) 71 (fun p => #[.pointer (some ⟨p, 0, none⟩), .bool b]) := by
 intro K w p i o sn ns fp h hroom ho r hr
 change stepMaybe (parF K.T f) b o i = some r at hr
 unfold stepMaybe at hr
 have HB := Lib.hid (Beg.of h)
 have HTK := Lib.hid h.env.tok
 have HRM := Lib.hid hroom.2
 have HI := Lib.hid hroom.1
 have HO := Lib.hid ho
 have HS0 := Lib.hid (St.start h)
 have HLN := Lib.hid h.env.len
 have HAP := Lib.hid AP
 clear h hroom ho AP
 have HR := Lib.hid hr
 clear hr
 go_enter Tryz.func71, Tryz.ntmps71
 have hr := HR.out
 clear HR
 cases b with
 | true =>
  rw [if_pos rfl] at hr
  obtain ⟨X, hX⟩ : ∃ X, (parF K.T f).one (.exp) o i = X := ⟨_, rfl⟩
  rw [hX] at hr
  cases X with
  | none => exact absurd hr (by simp [Res.then])
  | some X =>
  cases X with
  | bad a n =>
   have HRR3 := Lib.hid (show Res.bad a n = r from (by exact Option.some.inj hr))
   have HC6 := Lib.hid (call_bad ((HAP.out f (Nat.le_refl f)).exp) HS0.out HB.out ⟨HI.out, by have := HRM.out; have := HI.out; (try simp only [ptsS, ptS, noneT, ptsS_append, Nat.add_zero, Nat.zero_add]); omega⟩ HO.out hX)
   clear hr hX
   go_wp2_with fail
   refine HC6.out.mono ?_
   rintro e wb ⟨rfl, hb⟩
   have HB5 := Lib.hid hb
   clear hb
   unfold wrongP
   go_wp2
   exact ⟨rfl, by rw [← HRR3.out]; exact ⟨rfl, HB5.out⟩⟩
  | ok t1 j2 =>
   have hft := (fit_all HTK.out f).one (.exp) o i HI.out
   rw [hX] at hft
   obtain ⟨f1, f2, f3⟩ := hft
   simp only [lazy1, sl1, ex1, Bool.false_eq_true, if_false, if_true] at f2 f3
   have HF4 := Lib.hid (And.intro f1 (And.intro f2 f3))
   clear f1 f2 f3
   have HC10 := Lib.hid (call_ok ((HAP.out f (Nat.le_refl f)).exp) HS0.out ⟨HI.out, by have := HRM.out; have := HI.out; (try simp only [ptsS, ptS, noneT, ptsS_append, Nat.add_zero, Nat.zero_add]); omega⟩ HO.out hX)
   clear hX
   have HR := Lib.hid hr
   clear hr
   go_wp2_with fail
   refine HC10.out.mono ?_
   rintro e w7 ⟨rfl, fp8, h1, h2⟩
   obtain ⟨n11, hn⟩ : ∃ n, n = nr ns [] t1 := ⟨_, rfl⟩
   rw [← hn]
   have HN12 := Lib.hid hn
   have HS9 := Lib.hid (show St K w p j2 o sn ns fp [t1] w7 fp8 from h1)
   clear h1 h2 hn
   have hr := HR.out
   clear HR
   have HRR13 := Lib.hid (show Res.ok _ _ = r from Option.some.inj hr)
   clear hr
   go_wp2
   go_ret
   exact (by rw [← HRR13.out, HN12.out]; exact HS9.out.out)
 | false =>
  rw [if_neg (by decide)] at hr
  have HRN := Lib.hid (show Res.ok noneT i = r from Option.some.inj hr)
  have HNN := Lib.hid (none_any HS0.out.pa (by rw [len_more]; exact (by have := HRM.out; have := HI.out; (try simp only [ptsS, ptS, noneT, ptsS_append, List.nil_append, List.cons_append, Nat.add_zero, Nat.zero_add]); omega)))
  clear hr
  go_wp2_with fail
  refine HNN.out.mono ?_
  rintro e wz ⟨rfl, fpz, h1, h2⟩
  have HZ := Lib.hid (show OutP K w p o sn ns fp (.ok noneT i) (.returned _) wz from ⟨rfl, fpz, by simpa [flats] using h1, h2⟩)
  clear h1 h2
  go_wp2
  go_ret
  exact (by rw [← HRN.out]; simpa [flats, ptsS] using HZ.out)
set_option maxRecDepth 100000 in
theorem walk_ended {f : Nat} (AP : ∀ g, g ≤ f → AllPart g)  : Callee (f + 1) .ended 81 (fun p => #[.pointer (some ⟨p, 0, none⟩)]) := by
 intro K w p i o sn ns fp h hroom ho r hr
 change stepEnded K.T (parF K.T f) o i = some r at hr
 unfold stepEnded at hr
 have HB := Lib.hid (Beg.of h)
 have HTK := Lib.hid h.env.tok
 have HRM := Lib.hid hroom.2
 have HI := Lib.hid hroom.1
 have HO := Lib.hid ho
 have HS0 := Lib.hid (St.start h)
 have HLN := Lib.hid h.env.len
 have HAP := Lib.hid AP
 clear h hroom ho AP
 have HR := Lib.hid hr
 clear hr
 go_enter Tryz.func81, Tryz.ntmps81
 have hr := HR.out
 clear HR
 obtain ⟨X, hX⟩ : ∃ X, (parF K.T f).one (.block) o i = X := ⟨_, rfl⟩
 rw [hX] at hr
 cases X with
 | none => exact absurd hr (by simp [Res.then])
 | some X =>
 cases X with
 | bad a n =>
  have HRR3 := Lib.hid (show Res.bad a n = r from (by dsimp only [Res.then] at hr; exact Option.some.inj hr))
  have HC6 := Lib.hid (call_bad ((HAP.out f (Nat.le_refl f)).block) HS0.out HB.out ⟨HI.out, by have := HRM.out; have := HI.out; (try simp only [ptsS, ptS, noneT, ptsS_append, Nat.add_zero, Nat.zero_add]); omega⟩ HO.out hX)
  clear hr hX
  go_wp2_with fail
  refine HC6.out.mono ?_
  rintro e wb ⟨rfl, hb⟩
  have HB5 := Lib.hid hb
  clear hb
  unfold wrongP
  go_wp2
  exact ⟨rfl, by rw [← HRR3.out]; exact ⟨rfl, HB5.out⟩⟩
 | ok t1 j2 =>
  have hft := (fit_all HTK.out f).one (.block) o i HI.out
  rw [hX] at hft
  obtain ⟨f1, f2, f3⟩ := hft
  simp only [lazy1, sl1, ex1, Bool.false_eq_true, if_false, if_true] at f2 f3
  have HF4 := Lib.hid (And.intro f1 (And.intro f2 f3))
  clear f1 f2 f3
  have HC10 := Lib.hid (call_ok ((HAP.out f (Nat.le_refl f)).block) HS0.out ⟨HI.out, by have := HRM.out; have := HI.out; (try simp only [ptsS, ptS, noneT, ptsS_append, Nat.add_zero, Nat.zero_add]); omega⟩ HO.out hX)
  dsimp only [Res.then] at hr
  clear hX
  have HR := Lib.hid hr
  clear hr
  go_wp2_with fail
  refine HC10.out.mono ?_
  rintro e w7 ⟨rfl, fp8, h1, h2⟩
  obtain ⟨n11, hn⟩ : ∃ n, n = nr ns [] t1 := ⟨_, rfl⟩
  rw [← hn]
  have HN12 := Lib.hid hn
  have HS9 := Lib.hid (show St K w p j2 o sn ns fp [t1] w7 fp8 from h1)
  clear h1 h2 hn
  have hr := HR.out
  clear HR
  unfold need at hr
  cases hb : isAny (tk K.T j2) [⟨#[101, 110, 100]⟩] with
  | false =>
   rw [if_neg (by rw [hb]; decide)] at hr
   have HRR14 := Lib.hid (show Res.bad _ _ = r from (by exact Option.some.inj hr))
   have HC16 := Lib.hid ((need_no HS9.out.pa HF4.out.1 ⟨#[101, 110, 100]⟩ hb).mono fun e w' hh => (show OutB w p _ 70 e w' from ⟨hh.1, HS9.out.bad HB.out hh.2⟩))
   clear hr
   go_wp2_with fail
   refine HC16.out.mono ?_
   rintro e wb ⟨rfl, hb⟩
   have HB15 := Lib.hid hb
   clear hb
   unfold wrongP
   go_wp2
   exact ⟨rfl, by rw [← HRR14.out]; exact ⟨rfl, HB15.out⟩⟩
  | true =>
   rw [if_pos hb] at hr
   have HLT13 := Lib.hid (any_lt HTK.out HF4.out.1 hb)
   have HC19 := Lib.hid (need_yes HS9.out.pa HF4.out.1 ⟨#[101, 110, 100]⟩ hb)
   clear hb
   have HR := Lib.hid hr
   clear hr
   go_wp2_with fail
   refine HC19.out.mono ?_
   rintro e w17 ⟨rfl, h1, h2⟩
   have HS18 := Lib.hid (HS9.out.step h1 h2)
   clear h1 h2
   have hr := HR.out
   clear HR
   have HRR20 := Lib.hid (show Res.ok _ _ = r from Option.some.inj hr)
   clear hr
   go_wp2
   go_ret
   exact (by rw [← HRR20.out, HN12.out]; exact HS18.out.out)

set_option maxRecDepth 100000 in
theorem walk_unary {f : Nat} (AP : ∀ g, g ≤ f → AllPart g)  : Callee (f + 1) .unary 113 (fun p => #[.pointer (some ⟨p, 0, none⟩)]) := by
 intro K w p i o sn ns fp h hroom ho r hr
 change stepUnary K.T (parF K.T f) o i = some r at hr
 unfold stepUnary at hr
 have HB := Lib.hid (Beg.of h)
 have HTK := Lib.hid h.env.tok
 have HRM := Lib.hid hroom.2
 have HI := Lib.hid hroom.1
 have HO := Lib.hid ho
 have HS0 := Lib.hid (St.start h)
 have HLN := Lib.hid h.env.len
 have HAP := Lib.hid AP
 clear h hroom ho AP
 have HR := Lib.hid hr
 clear hr
 go_enter Tryz.func113, Tryz.ntmps113
 have hr := HR.out
 clear HR
 dsimp only at hr
 have HC3 := Lib.hid (now_any HS0.out.pa HI.out)
 have HR := Lib.hid hr
 clear hr
 go_wp2_with fail
 refine HC3.out.mono ?_
 rintro e w1 ⟨rfl, h2⟩
 have HS2 := Lib.hid (HS0.out.below h2)
 clear h2
 have hr := HR.out
 clear HR
 unfold tkEnc
 have HR := Lib.hid hr
 clear hr
 go_upto_region 2 with fail
 obtain ⟨b4, hb⟩ : ∃ b, b = w1.heap.size := ⟨_, rfl⟩
 rw [← hb]
 refine gen_wpT fun w5 hW => ?_
 have HX6 := Lib.hid (show w5.heap[b4]? = some (.cells #[.int .i64 (tk K.T i).kind, .string (tk K.T i).text, .int .i64 ((tk K.T i).a : Int), .int .i64 ((tk K.T i).z : Int), .int .i64 (tk K.T i).n] 65 (0, 0)) by rw [← hW]; exact heap_new_at _ _ _ hb.symm)
 have HBL9 := Lib.hid (show Below w1.heap.size w1 w5 by rw [← hW]; exact (Below.refl _ _).alloc (Nat.le_refl _) _)
 have HS8 := Lib.hid (HS2.out.below HBL9.out)
 have HA7 := Lib.hid (Away.new HS2.out.pa (Nat.le_of_eq hb.symm) (blk_lt HX6.out))
 have HBE10 := Lib.hid (show w.heap.size ≤ b4 from by have := HS2.out.pt.fr.size; omega)
 clear hW hb
 have x11 := cell_of_blk (i := 0) HX6.out rfl
 have x12 := cell_of_blk (i := 1) HX6.out rfl
 have x13 := cell_of_blk (i := 2) HX6.out rfl
 have x14 := cell_of_blk (i := 3) HX6.out rfl
 have x15 := cell_of_blk (i := 4) HX6.out rfl
 have xl16 := blk_lt HX6.out
 have hr := HR.out
 clear HR
 have HC17 := Lib.hid (fun W (hW : W = w5.alloc (.cells #[.string ⟨#[110, 111, 116]⟩, .string ⟨#[45]⟩, .string ⟨#[35]⟩] 9)) => (show Calls Tryz.prog 19 #[.pointer (some ⟨p, 0, none⟩), .slice (some ⟨w5.heap.size, 0, none⟩) 3 3] W (RetB (.bool (isAny (tk K.T i) [⟨#[110, 111, 116]⟩, ⟨#[45]⟩, ⟨#[35]⟩])) W) from
  is_any (K := K) (i := i) (o := o) (sn := sn) (ns := ns ++ flats ns.length []) (fp := fp) (c := 3) (L := [⟨#[110, 111, 116]⟩, ⟨#[45]⟩, ⟨#[35]⟩]) (hW ▸ HS8.out.pa.below ((Below.refl _ _).alloc (Nat.le_refl _) _)) HI.out (by rw [hW]; exact .inr ⟨⟨w5.heap.size, 0, none⟩, rfl, by simp, fun j u hu => news_new w5 #[.string ⟨#[110, 111, 116]⟩, .string ⟨#[45]⟩, .string ⟨#[35]⟩] _ _ rfl j u hu⟩) (by simp)))
 cases hb : isAny (tk K.T i) [⟨#[110, 111, 116]⟩, ⟨#[45]⟩, ⟨#[35]⟩] with
 | true =>
  rw [if_pos hb] at hr
  have HLT20 := Lib.hid (any_lt HTK.out HI.out hb)
  have HBB := Lib.hid hb
  clear hb
  have HR := Lib.hid hr
  clear hr
  go_wp2_with fail
  clear x11 x12 x13 x14 x15 xl16
  refine (HC17.out _ rfl).mono ?_
  rw [HBB.out]
  rintro e w21 ⟨rfl, h2⟩
  have HK23 := Lib.hid (show Below w5.heap.size w5 w21 from ((Below.refl _ _).alloc (Nat.le_refl _) _).trans (h2.mono (by simp)))
  have HS22 := Lib.hid (HS8.out.below HK23.out)
  have HX24 := Lib.hid (below_blk HK23.out HX6.out)
  have HA25 := Lib.hid (HA7.out.on HK23.out.size)
  clear h2
  have x26 := cell_of_blk (i := 0) HX24.out rfl
  have x27 := cell_of_blk (i := 1) HX24.out rfl
  have x28 := cell_of_blk (i := 2) HX24.out rfl
  have x29 := cell_of_blk (i := 3) HX24.out rfl
  have x30 := cell_of_blk (i := 4) HX24.out rfl
  have xl31 := blk_lt HX24.out
  have hr := HR.out
  clear HR
  obtain ⟨nv, l, hm⟩ := HS22.out.pa.mem
  obtain ⟨-, y36, -, -, -, cf⟩ := pa_cell hm.blk
  have y37 := cf 1
  have y38 := blk_lt hm.blk
  clear hm cf
  obtain ⟨i33, hi1⟩ : ∃ ix, ix = i + 1 := ⟨_, rfl⟩
  have y39 : (i : Int) + 1 = (i33 : Int) := by omega
  have y40 : i33 ≤ 200002 := by have := HLT20.out; have := HLN.out; omega
  have y41 : IntKind.i64.wrap (i33 : Int) = (i33 : Int) := IntWalk.i64_in _ (by omega)
  try rw [← hi1] at hr
  have HIE34 := Lib.hid hi1
  have HLT35 := Lib.hid (show i33 < K.T.length by rw [hi1]; exact HLT20.out)
  clear hi1 nv l
  have hst := HS22.out.pa.setI i33
  have hto : PaTo w21 fp (w21.setCell ⟨p, 1, none⟩ (.int .i64 (i33 : Int))) fp := hst.2
  have HS32 := Lib.hid (show St K w p i33 o sn ns fp [] (w21.setCell ⟨p, 1, none⟩ (.int .i64 (i33 : Int))) fp from HS22.out.step hst.1 hto)
  have HX42 := Lib.hid (Away.blkTo HX24.out HA25.out hto)
  have HA43 := Lib.hid (HA25.out.to hto)
  clear hst hto
  have x44 := cell_of_blk (i := 0) HX42.out rfl
  have x45 := cell_of_blk (i := 1) HX42.out rfl
  have x46 := cell_of_blk (i := 2) HX42.out rfl
  have x47 := cell_of_blk (i := 3) HX42.out rfl
  have x48 := cell_of_blk (i := 4) HX42.out rfl
  have xl49 := blk_lt HX42.out
  unfold deeper at hr
  by_cases hdp : 150 < o + 1
  ·rw [if_pos hdp] at hr
   have HRR54 := Lib.hid (show Res.bad _ _ = r from (by exact Option.some.inj hr))
   have HC56 := Lib.hid ((within_deep HS32.out.pa hdp HO.out ((tk K.T i).a) (.func (.func 113) #[.pointer (some ⟨p, 0, none⟩)] #[])).mono fun e w' hh => (show OutB w p _ 61 e w' from ⟨hh.1, HS32.out.bad HB.out hh.2⟩))
   clear hr hdp
   go_wp2_with fail
   refine HC56.out.mono ?_
   rintro e wb ⟨rfl, hb⟩
   have HB55 := Lib.hid hb
   clear hb
   unfold wrongP
   go_wp2
   exact ⟨rfl, by rw [← HRR54.out]; exact ⟨rfl, HB55.out⟩⟩
  ·rw [if_neg hdp] at hr
   obtain ⟨X, hX⟩ : ∃ X, (parF K.T f).one (.unary) (o + 1) i33 = X := ⟨_, rfl⟩
   dsimp only at hr
   rw [hX] at hr
   have HDP := Lib.hid hdp
   clear hdp
   cases X with
   | none => exact absurd hr (by simp [Res.then])
   | some X =>
   cases X with
   | bad a n =>
    have HRR52 := Lib.hid (show Res.bad a n = r from (by dsimp only [Res.then] at hr; exact Option.some.inj hr))
    have HC58 := Lib.hid (within_no (fn := 113) (fst := #[.pointer (some ⟨p, 0, none⟩)]) (cap := #[]) (args := #[.pointer (some ⟨p, 0, none⟩)]) HS32.out HB.out HDP.out ((tk K.T i).a) (fun W => rfl) rfl hX (fun w1 h1 h2 r hr => ((HAP.out f (Nat.le_refl f)).unary) K w1 p i33 (o + 1) sn _ fp h1 ⟨HLT35.out, by rw [len_more]; exact by have := HRM.out; have := HI.out; have := HLT20.out; have := HIE34.out; have := HLT35.out; (try simp only [ptsS, ptS, noneT, ptsS_append, Nat.add_zero, Nat.zero_add]); omega⟩ (by have := HDP.out; omega) r hr))
    clear hr hX
    go_wp2_with fail
    refine HC58.out.mono ?_
    rintro e wb ⟨rfl, hb⟩
    have HB57 := Lib.hid hb
    clear hb
    unfold wrongP
    go_wp2
    exact ⟨rfl, by rw [← HRR52.out]; exact ⟨rfl, HB57.out⟩⟩
   | ok t50 j51 =>
    have hft := (fit_all HTK.out f).one (.unary) (o + 1) i33 HLT35.out
    rw [hX] at hft
    obtain ⟨f1, f2, f3⟩ := hft
    simp only [lazy1, sl1, ex1, Bool.false_eq_true, if_false, if_true] at f2 f3
    have HF53 := Lib.hid (And.intro f1 (And.intro f2 f3))
    clear f1 f2 f3
    have HC62 := Lib.hid (within_ok (fn := 113) (fst := #[.pointer (some ⟨p, 0, none⟩)]) (cap := #[]) (args := #[.pointer (some ⟨p, 0, none⟩)]) HS32.out HDP.out ((tk K.T i).a) (fun W => rfl) rfl hX (fun w1 h1 h2 r hr => ((HAP.out f (Nat.le_refl f)).unary) K w1 p i33 (o + 1) sn _ fp h1 ⟨HLT35.out, by rw [len_more]; exact by have := HRM.out; have := HI.out; have := HLT20.out; have := HIE34.out; have := HLT35.out; (try simp only [ptsS, ptS, noneT, ptsS_append, Nat.add_zero, Nat.zero_add]); omega⟩ (by have := HDP.out; omega) r hr))
    dsimp only [Res.then] at hr
    clear hX
    have HR := Lib.hid hr
    clear hr
    go_wp2_with fail
    clear x44 x45 x46 x47 x48 xl49 y36 y37 y38 y39 y40 y41 x26 x27 x28 x29 x30 xl31
    refine HC62.out.mono ?_
    rintro e w59 ⟨rfl, fp60, h1, h2⟩
    obtain ⟨n63, hn⟩ : ∃ n, n = nr ns [] t50 := ⟨_, rfl⟩
    rw [← hn]
    have HN64 := Lib.hid hn
    have HS61 := Lib.hid (show St K w p j51 o sn ns fp [t50] w59 fp60 from h1)
    have HX65 := Lib.hid (Away.blkTo HX42.out HA43.out h2)
    have HA66 := Lib.hid (HA43.out.to h2)
    clear h1 h2 hn
    have x67 := cell_of_blk (i := 0) HX65.out rfl
    have x68 := cell_of_blk (i := 1) HX65.out rfl
    have x69 := cell_of_blk (i := 2) HX65.out rfl
    have x70 := cell_of_blk (i := 3) HX65.out rfl
    have x71 := cell_of_blk (i := 4) HX65.out rfl
    have xl72 := blk_lt HX65.out
    have hr := HR.out
    clear HR
    have HRR74 := Lib.hid (show Res.ok _ _ = r from Option.some.inj hr)
    clear hr
    have HL73 := Lib.hid (show ∀ W, W = w59.alloc (.cells #[natV n63] 3) → Calls Tryz.prog 23 #[.pointer (some ⟨p, 0, none⟩), .int .i64 28, .string (tk K.T i).text, natV (tk K.T i).a, .slice (some ⟨w59.heap.size, 0, none⟩) 1 1] W (OutP K w p o sn ns fp (.ok (.mk 28 (tk K.T i).text (tk K.T i).a [t50]) j51)) from fun W hW => by
     subst hW
     exact lay_fin (HS61.out.below ((Below.refl _ _).alloc (Nat.le_refl _) _)) (by have := HRM.out; have := HI.out; have := HLT20.out; have := HIE34.out; have := HLT35.out; have := HF53.out; (try simp only [ptsS, ptS, noneT, ptsS_append, List.nil_append, List.cons_append, Nat.add_zero, Nat.zero_add]); omega) (by simp) 28 (tk K.T i).text (tk K.T i).a (KidsV.new w59 n63 [] _ rfl) (by simp only [HN64.out, nr, roots, ptsS, Nat.add_zero, Nat.add_assoc]))
    try unfold natV
    go_wp2_with fail
    refine (HL73.out _ rfl).mono ?_
    rintro e wz ⟨rfl, fpz, h1, h2⟩
    have HZ75 := Lib.hid (show OutP K w p o sn ns fp (.ok (.mk 28 (tk K.T i).text (tk K.T i).a [t50]) j51) (.returned _) wz from ⟨rfl, fpz, h1, h2⟩)
    clear h1 h2
    go_wp2
    go_ret
    exact (by rw [← HRR74.out]; exact HZ75.out)
 | false =>
  rw [if_neg (by rw [hb]; decide)] at hr
  have HBB := Lib.hid hb
  clear hb
  have HR := Lib.hid hr
  clear hr
  go_wp2_with fail
  clear x11 x12 x13 x14 x15 xl16
  refine (HC17.out _ rfl).mono ?_
  rw [HBB.out]
  rintro e w76 ⟨rfl, h2⟩
  have HK78 := Lib.hid (show Below w5.heap.size w5 w76 from ((Below.refl _ _).alloc (Nat.le_refl _) _).trans (h2.mono (by simp)))
  have HS77 := Lib.hid (HS8.out.below HK78.out)
  have HX79 := Lib.hid (below_blk HK78.out HX6.out)
  have HA80 := Lib.hid (HA7.out.on HK78.out.size)
  clear h2
  have x81 := cell_of_blk (i := 0) HX79.out rfl
  have x82 := cell_of_blk (i := 1) HX79.out rfl
  have x83 := cell_of_blk (i := 2) HX79.out rfl
  have x84 := cell_of_blk (i := 3) HX79.out rfl
  have x85 := cell_of_blk (i := 4) HX79.out rfl
  have xl86 := blk_lt HX79.out
  have hr := HR.out
  clear HR
  obtain ⟨X, hX⟩ : ∃ X, (parF K.T f).one (.suffixed) o i = X := ⟨_, rfl⟩
  rw [hX] at hr
  cases X with
  | none => exact absurd hr (by simp [Res.then])
  | some X =>
  cases X with
  | bad a n =>
   have HRR89 := Lib.hid (show Res.bad a n = r from (by exact Option.some.inj hr))
   have HC92 := Lib.hid (call_bad ((HAP.out f (Nat.le_refl f)).suffixed) HS77.out HB.out ⟨HI.out, by have := HRM.out; have := HI.out; (try simp only [ptsS, ptS, noneT, ptsS_append, Nat.add_zero, Nat.zero_add]); omega⟩ HO.out hX)
   clear hr hX
   go_wp2_with fail
   refine HC92.out.mono ?_
   rintro e wb ⟨rfl, hb⟩
   have HB91 := Lib.hid hb
   clear hb
   unfold wrongP
   go_wp2
   exact ⟨rfl, by rw [← HRR89.out]; exact ⟨rfl, HB91.out⟩⟩
  | ok t87 j88 =>
   have hft := (fit_all HTK.out f).one (.suffixed) o i HI.out
   rw [hX] at hft
   obtain ⟨f1, f2, f3⟩ := hft
   simp only [lazy1, sl1, ex1, Bool.false_eq_true, if_false, if_true] at f2 f3
   have HF90 := Lib.hid (And.intro f1 (And.intro f2 f3))
   clear f1 f2 f3
   have HC96 := Lib.hid (call_ok ((HAP.out f (Nat.le_refl f)).suffixed) HS77.out ⟨HI.out, by have := HRM.out; have := HI.out; (try simp only [ptsS, ptS, noneT, ptsS_append, Nat.add_zero, Nat.zero_add]); omega⟩ HO.out hX)
   clear hX
   have HR := Lib.hid hr
   clear hr
   go_wp2_with fail
   clear x81 x82 x83 x84 x85 xl86
   refine HC96.out.mono ?_
   rintro e w93 ⟨rfl, fp94, h1, h2⟩
   obtain ⟨n97, hn⟩ : ∃ n, n = nr ns [] t87 := ⟨_, rfl⟩
   rw [← hn]
   have HN98 := Lib.hid hn
   have HS95 := Lib.hid (show St K w p j88 o sn ns fp [t87] w93 fp94 from h1)
   have HX99 := Lib.hid (Away.blkTo HX79.out HA80.out h2)
   have HA100 := Lib.hid (HA80.out.to h2)
   clear h1 h2 hn
   have x101 := cell_of_blk (i := 0) HX99.out rfl
   have x102 := cell_of_blk (i := 1) HX99.out rfl
   have x103 := cell_of_blk (i := 2) HX99.out rfl
   have x104 := cell_of_blk (i := 3) HX99.out rfl
   have x105 := cell_of_blk (i := 4) HX99.out rfl
   have xl106 := blk_lt HX99.out
   have hr := HR.out
   clear HR
   have HRR107 := Lib.hid (show Res.ok _ _ = r from Option.some.inj hr)
   clear hr
   go_wp2
   go_ret
   exact (by rw [← HRR107.out, HN98.out]; exact HS95.out.out)

set_option maxRecDepth 100000 in
theorem wrap_stat1 {f : Nat} (a : Nat) (hC : Callee f (.body a) 76 (fun p => #[.pointer (some ⟨p, 0, none⟩), natV a])) : ClosA f a (.body a) 75 := by
 intro K w p i o sn ns fp b b2 h hroom ho hb1 ha1 hb2 ha2 r hr
 have HC := Lib.hid (hC K w p i o sn ns fp h hroom ho r hr)
 have x1 := cell_of_blk (i := 0) hb1 rfl
 have xl1 := blk_lt hb1
 have x2 := cell_of_blk (i := 0) hb2 rfl
 have xl2 := blk_lt hb2
 unfold natV at x2
 clear h hroom ho hb1 ha1 hb2 ha2 hr hC
 go_enter Tryz.func75, Tryz.ntmps75
 go_wp2_with fail
 refine HC.out.mono ?_
 cases r with
 | bad a' n =>
  rintro e w1 ⟨rfl, hb⟩
  have HB := Lib.hid hb
  clear hb
  unfold wrongP
  go_wp2
  exact ⟨rfl, rfl, HB.out⟩
 | ok t' j =>
  rintro e w1 ⟨rfl, fp1, h1, h2⟩
  have HZ := Lib.hid (And.intro h1 h2)
  clear h1 h2
  go_wp2
  go_ret
  exact ⟨rfl, fp1, HZ.out⟩
set_option maxRecDepth 100000 in
theorem wrap_stat2 {f : Nat} (a : Nat) (hC : Callee f (.cond a) 78 (fun p => #[.pointer (some ⟨p, 0, none⟩), natV a])) : ClosA f a (.cond a) 77 := by
 intro K w p i o sn ns fp b b2 h hroom ho hb1 ha1 hb2 ha2 r hr
 have HC := Lib.hid (hC K w p i o sn ns fp h hroom ho r hr)
 have x1 := cell_of_blk (i := 0) hb1 rfl
 have xl1 := blk_lt hb1
 have x2 := cell_of_blk (i := 0) hb2 rfl
 have xl2 := blk_lt hb2
 unfold natV at x2
 clear h hroom ho hb1 ha1 hb2 ha2 hr hC
 go_enter Tryz.func77, Tryz.ntmps77
 go_wp2_with fail
 refine HC.out.mono ?_
 cases r with
 | bad a' n =>
  rintro e w1 ⟨rfl, hb⟩
  have HB := Lib.hid hb
  clear hb
  unfold wrongP
  go_wp2
  exact ⟨rfl, rfl, HB.out⟩
 | ok t' j =>
  rintro e w1 ⟨rfl, fp1, h1, h2⟩
  have HZ := Lib.hid (And.intro h1 h2)
  clear h1 h2
  go_wp2
  go_ret
  exact ⟨rfl, fp1, HZ.out⟩
set_option maxRecDepth 100000 in
theorem wrap_cond1 {f : Nat} (a : Nat) (hC : Callee f (.cond a) 78 (fun p => #[.pointer (some ⟨p, 0, none⟩), natV a])) : ClosA f a (.cond a) 98 := by
 intro K w p i o sn ns fp b b2 h hroom ho hb1 ha1 hb2 ha2 r hr
 have HC := Lib.hid (hC K w p i o sn ns fp h hroom ho r hr)
 have x1 := cell_of_blk (i := 0) hb1 rfl
 have xl1 := blk_lt hb1
 have x2 := cell_of_blk (i := 0) hb2 rfl
 have xl2 := blk_lt hb2
 unfold natV at x2
 clear h hroom ho hb1 ha1 hb2 ha2 hr hC
 go_enter Tryz.func98, Tryz.ntmps98
 go_wp2_with fail
 refine HC.out.mono ?_
 cases r with
 | bad a' n =>
  rintro e w1 ⟨rfl, hb⟩
  have HB := Lib.hid hb
  clear hb
  unfold wrongP
  go_wp2
  exact ⟨rfl, rfl, HB.out⟩
 | ok t' j =>
  rintro e w1 ⟨rfl, fp1, h1, h2⟩
  have HZ := Lib.hid (And.intro h1 h2)
  clear h1 h2
  go_wp2
  go_ret
  exact ⟨rfl, fp1, HZ.out⟩
set_option maxRecDepth 100000 in
theorem wrap_prim1 {f : Nat} (t : Tok) (hC : Callee f (.body t.a) 76 (fun p => #[.pointer (some ⟨p, 0, none⟩), natV t.a])) : ClosT f t (.body t.a) 131 := by
 intro K w p i o sn ns fp b b2 h hroom ho hb1 ha1 hb2 ha2 r hr
 have HC := Lib.hid (hC K w p i o sn ns fp h hroom ho r hr)
 have x1 := cell_of_blk (i := 0) hb1 rfl
 have xl1 := blk_lt hb1
 obtain ⟨y0, y1, x2, y3, y4, xl2⟩ := blk5 hb2
 clear h hroom ho hb1 ha1 hb2 ha2 hr hC
 go_enter Tryz.func131, Tryz.ntmps131
 go_wp2_with fail
 refine HC.out.mono ?_
 cases r with
 | bad a' n =>
  rintro e w1 ⟨rfl, hb⟩
  have HB := Lib.hid hb
  clear hb
  unfold wrongP
  go_wp2
  exact ⟨rfl, rfl, HB.out⟩
 | ok t' j =>
  rintro e w1 ⟨rfl, fp1, h1, h2⟩
  have HZ := Lib.hid (And.intro h1 h2)
  clear h1 h2
  go_wp2
  go_ret
  exact ⟨rfl, fp1, HZ.out⟩
set_option maxRecDepth 100000 in
theorem wrap_prim3 {f : Nat} (t : Tok) (hC : Callee f (.table t.a) 134 (fun p => #[.pointer (some ⟨p, 0, none⟩), natV t.a])) : ClosT f t (.table t.a) 133 := by
 intro K w p i o sn ns fp b b2 h hroom ho hb1 ha1 hb2 ha2 r hr
 have HC := Lib.hid (hC K w p i o sn ns fp h hroom ho r hr)
 have x1 := cell_of_blk (i := 0) hb1 rfl
 have xl1 := blk_lt hb1
 obtain ⟨y0, y1, x2, y3, y4, xl2⟩ := blk5 hb2
 clear h hroom ho hb1 ha1 hb2 ha2 hr hC
 go_enter Tryz.func133, Tryz.ntmps133
 go_wp2_with fail
 refine HC.out.mono ?_
 cases r with
 | bad a' n =>
  rintro e w1 ⟨rfl, hb⟩
  have HB := Lib.hid hb
  clear hb
  unfold wrongP
  go_wp2
  exact ⟨rfl, rfl, HB.out⟩
 | ok t' j =>
  rintro e w1 ⟨rfl, fp1, h1, h2⟩
  have HZ := Lib.hid (And.intro h1 h2)
  clear h1 h2
  go_wp2
  go_ret
  exact ⟨rfl, fp1, HZ.out⟩
set_option maxRecDepth 100000 in
theorem wrap_one1 {f : Nat} (t : Tok) (hC : Callee f (.shape t.a) 129 (fun p => #[.pointer (some ⟨p, 0, none⟩), natV t.a])) : ClosT f t (.shape t.a) 128 := by
 intro K w p i o sn ns fp b b2 h hroom ho hb1 ha1 hb2 ha2 r hr
 have HC := Lib.hid (hC K w p i o sn ns fp h hroom ho r hr)
 have x1 := cell_of_blk (i := 0) hb1 rfl
 have xl1 := blk_lt hb1
 obtain ⟨y0, y1, x2, y3, y4, xl2⟩ := blk5 hb2
 clear h hroom ho hb1 ha1 hb2 ha2 hr hC
 go_enter Tryz.func128, Tryz.ntmps128
 go_wp2_with fail
 refine HC.out.mono ?_
 cases r with
 | bad a' n =>
  rintro e w1 ⟨rfl, hb⟩
  have HB := Lib.hid hb
  clear hb
  unfold wrongP
  go_wp2
  exact ⟨rfl, rfl, HB.out⟩
 | ok t' j =>
  rintro e w1 ⟨rfl, fp1, h1, h2⟩
  have HZ := Lib.hid (And.intro h1 h2)
  clear h1 h2
  go_wp2
  go_ret
  exact ⟨rfl, fp1, HZ.out⟩
set_option maxRecDepth 100000 in
theorem clos_while {f : Nat} (AP : ∀ g, g ≤ f → AllPart g) (a : Nat) : ClosA (f + 1) a (.whileB a) 79 := by
 intro K w p i o sn ns fp b b2 h hroom ho hb1 ha1 hb2 ha2 r hr
 change stepWhile K.T (parF K.T f) a o i = some r at hr
 unfold stepWhile at hr
 have HB := Lib.hid (Beg.of h)
 have HTK := Lib.hid h.env.tok
 have HRM := Lib.hid hroom.2
 have HI := Lib.hid hroom.1
 have HO := Lib.hid ho
 have HS0 := Lib.hid (St.start h)
 have HLN := Lib.hid h.env.len
 have HAP := Lib.hid AP
 have HX0 := Lib.hid hb1
 have HA0 := Lib.hid ha1
 have HX00 := Lib.hid hb2
 have HA00 := Lib.hid ha2
 clear h hroom ho AP hb1 ha1 hb2 ha2
 have HR := Lib.hid hr
 clear hr
 go_enter Tryz.func79, Tryz.ntmps79
 have x1 := cell_of_blk (i := 0) HX0.out rfl
 have xl2 := blk_lt HX0.out
 have x3 := cell_of_blk (i := 0) HX00.out rfl
 have xl4 := blk_lt HX00.out
 have hr := HR.out
 clear HR
 obtain ⟨X, hX⟩ : ∃ X, (parF K.T f).one (.exp) o i = X := ⟨_, rfl⟩
 rw [hX] at hr
 cases X with
 | none => exact absurd hr (by simp [Res.then])
 | some X =>
 cases X with
 | bad a n =>
  have HRR7 := Lib.hid (show Res.bad a n = r from (by dsimp only [Res.then] at hr; exact Option.some.inj hr))
  have HC10 := Lib.hid (call_bad ((HAP.out f (Nat.le_refl f)).exp) HS0.out HB.out ⟨HI.out, by have := HRM.out; have := HI.out; (try simp only [ptsS, ptS, noneT, ptsS_append, Nat.add_zero, Nat.zero_add]); omega⟩ HO.out hX)
  clear hr hX
  go_wp2_with fail
  refine HC10.out.mono ?_
  rintro e wb ⟨rfl, hb⟩
  have HB9 := Lib.hid hb
  clear hb
  unfold wrongP
  go_wp2
  exact ⟨rfl, by rw [← HRR7.out]; exact ⟨rfl, HB9.out⟩⟩
 | ok t5 j6 =>
  have hft := (fit_all HTK.out f).one (.exp) o i HI.out
  rw [hX] at hft
  obtain ⟨f1, f2, f3⟩ := hft
  simp only [lazy1, sl1, ex1, Bool.false_eq_true, if_false, if_true] at f2 f3
  have HF8 := Lib.hid (And.intro f1 (And.intro f2 f3))
  clear f1 f2 f3
  have HC14 := Lib.hid (call_ok ((HAP.out f (Nat.le_refl f)).exp) HS0.out ⟨HI.out, by have := HRM.out; have := HI.out; (try simp only [ptsS, ptS, noneT, ptsS_append, Nat.add_zero, Nat.zero_add]); omega⟩ HO.out hX)
  dsimp only [Res.then] at hr
  clear hX
  have HR := Lib.hid hr
  clear hr
  go_wp2_with fail
  clear x1 xl2 x3 xl4
  refine HC14.out.mono ?_
  rintro e w11 ⟨rfl, fp12, h1, h2⟩
  obtain ⟨n15, hn⟩ : ∃ n, n = nr ns [] t5 := ⟨_, rfl⟩
  rw [← hn]
  have HN16 := Lib.hid hn
  have HS13 := Lib.hid (show St K w p j6 o sn ns fp [t5] w11 fp12 from h1)
  have HX17 := Lib.hid (Away.blkTo HX0.out HA0.out h2)
  have HA18 := Lib.hid (HA0.out.to h2)
  have HX19 := Lib.hid (Away.blkTo HX00.out HA00.out h2)
  have HA20 := Lib.hid (HA00.out.to h2)
  clear h1 h2 hn
  have x21 := cell_of_blk (i := 0) HX17.out rfl
  have xl22 := blk_lt HX17.out
  have x23 := cell_of_blk (i := 0) HX19.out rfl
  have xl24 := blk_lt HX19.out
  have hr := HR.out
  clear HR
  unfold need at hr
  cases hb : isAny (tk K.T j6) [⟨#[100, 111]⟩] with
  | false =>
   rw [if_neg (by rw [hb]; decide)] at hr
   have HRR26 := Lib.hid (show Res.bad _ _ = r from (by exact Option.some.inj hr))
   have HC28 := Lib.hid ((need_no HS13.out.pa HF8.out.1 ⟨#[100, 111]⟩ hb).mono fun e w' hh => (show OutB w p _ 70 e w' from ⟨hh.1, HS13.out.bad HB.out hh.2⟩))
   clear hr
   go_wp2_with fail
   refine HC28.out.mono ?_
   rintro e wb ⟨rfl, hb⟩
   have HB27 := Lib.hid hb
   clear hb
   unfold wrongP
   go_wp2
   exact ⟨rfl, by rw [← HRR26.out]; exact ⟨rfl, HB27.out⟩⟩
  | true =>
   rw [if_pos hb] at hr
   have HLT25 := Lib.hid (any_lt HTK.out HF8.out.1 hb)
   have HC31 := Lib.hid (need_yes HS13.out.pa HF8.out.1 ⟨#[100, 111]⟩ hb)
   clear hb
   have HR := Lib.hid hr
   clear hr
   go_wp2_with fail
   clear x21 xl22 x23 xl24
   refine HC31.out.mono ?_
   rintro e w29 ⟨rfl, h1, h2⟩
   have HS30 := Lib.hid (HS13.out.step h1 h2)
   have HX32 := Lib.hid (Away.blkTo HX17.out HA18.out h2)
   have HA33 := Lib.hid (HA18.out.to h2)
   have HX34 := Lib.hid (Away.blkTo HX19.out HA20.out h2)
   have HA35 := Lib.hid (HA20.out.to h2)
   clear h1 h2
   have x36 := cell_of_blk (i := 0) HX32.out rfl
   have xl37 := blk_lt HX32.out
   have x38 := cell_of_blk (i := 0) HX34.out rfl
   have xl39 := blk_lt HX34.out
   have hr := HR.out
   clear HR
   obtain ⟨X, hX⟩ : ∃ X, (parF K.T f).one (.ended) o (j6 + 1) = X := ⟨_, rfl⟩
   rw [hX] at hr
   cases X with
   | none => exact absurd hr (by simp [Res.then])
   | some X =>
   cases X with
   | bad a n =>
    have HRR42 := Lib.hid (show Res.bad a n = r from (by dsimp only [Res.then] at hr; exact Option.some.inj hr))
    have HC45 := Lib.hid (call_bad ((HAP.out f (Nat.le_refl f)).ended) HS30.out HB.out ⟨HLT25.out, by have := HRM.out; have := HI.out; have := HF8.out; have := HLT25.out; (try simp only [ptsS, ptS, noneT, ptsS_append, Nat.add_zero, Nat.zero_add]); omega⟩ HO.out hX)
    clear hr hX
    go_wp2_with fail
    refine HC45.out.mono ?_
    rintro e wb ⟨rfl, hb⟩
    have HB44 := Lib.hid hb
    clear hb
    unfold wrongP
    go_wp2
    exact ⟨rfl, by rw [← HRR42.out]; exact ⟨rfl, HB44.out⟩⟩
   | ok t40 j41 =>
    have hft := (fit_all HTK.out f).one (.ended) o (j6 + 1) HLT25.out
    rw [hX] at hft
    obtain ⟨f1, f2, f3⟩ := hft
    simp only [lazy1, sl1, ex1, Bool.false_eq_true, if_false, if_true] at f2 f3
    have HF43 := Lib.hid (And.intro f1 (And.intro f2 f3))
    clear f1 f2 f3
    have HC49 := Lib.hid (call_ok ((HAP.out f (Nat.le_refl f)).ended) HS30.out ⟨HLT25.out, by have := HRM.out; have := HI.out; have := HF8.out; have := HLT25.out; (try simp only [ptsS, ptS, noneT, ptsS_append, Nat.add_zero, Nat.zero_add]); omega⟩ HO.out hX)
    dsimp only [Res.then] at hr
    clear hX
    have HR := Lib.hid hr
    clear hr
    go_wp2_with fail
    clear x36 xl37 x38 xl39
    refine HC49.out.mono ?_
    rintro e w46 ⟨rfl, fp47, h1, h2⟩
    obtain ⟨n50, hn⟩ : ∃ n, n = nr ns [t5] t40 := ⟨_, rfl⟩
    rw [← hn]
    have HN51 := Lib.hid hn
    have HS48 := Lib.hid (show St K w p j41 o sn ns fp [t5, t40] w46 fp47 from h1)
    have HX52 := Lib.hid (Away.blkTo HX32.out HA33.out h2)
    have HA53 := Lib.hid (HA33.out.to h2)
    have HX54 := Lib.hid (Away.blkTo HX34.out HA35.out h2)
    have HA55 := Lib.hid (HA35.out.to h2)
    clear h1 h2 hn
    have x56 := cell_of_blk (i := 0) HX52.out rfl
    have xl57 := blk_lt HX52.out
    have x58 := cell_of_blk (i := 0) HX54.out rfl
    have xl59 := blk_lt HX54.out
    have hr := HR.out
    clear HR
    have HRR61 := Lib.hid (show Res.ok _ _ = r from Option.some.inj hr)
    clear hr
    have HL60 := Lib.hid (show ∀ W, W = w46.alloc (.cells #[natV n15, natV n50] 3) → Calls Tryz.prog 23 #[.pointer (some ⟨p, 0, none⟩), .int .i64 9, .string ⟨#[]⟩, natV a, .slice (some ⟨w46.heap.size, 0, none⟩) 2 2] W (OutP K w p o sn ns fp (.ok (.mk 9 ⟨#[]⟩ a [t5, t40]) j41)) from fun W hW => by
     subst hW
     exact lay_fin (HS48.out.below ((Below.refl _ _).alloc (Nat.le_refl _) _)) (by have := HRM.out; have := HI.out; have := HF8.out; have := HLT25.out; have := HF43.out; (try simp only [ptsS, ptS, noneT, ptsS_append, List.nil_append, List.cons_append, Nat.add_zero, Nat.zero_add]); omega) (by simp) 9 ⟨#[]⟩ a (KidsV.new w46 n15 [n50] _ rfl) (by simp only [HN16.out, HN51.out, nr, roots, ptsS, Nat.add_zero, Nat.add_assoc]))
    try unfold natV
    go_wp2_with fail
    refine (HL60.out _ rfl).mono ?_
    rintro e wz ⟨rfl, fpz, h1, h2⟩
    have HZ62 := Lib.hid (show OutP K w p o sn ns fp (.ok (.mk 9 ⟨#[]⟩ a [t5, t40]) j41) (.returned _) wz from ⟨rfl, fpz, h1, h2⟩)
    clear h1 h2
    go_wp2
    go_ret
    exact (by rw [← HRR61.out]; exact HZ62.out)
set_option maxRecDepth 100000 in
theorem clos_index {f : Nat} (AP : ∀ g, g ≤ f → AllPart g)  : ClosP (f + 1)  .index 115 := by
 intro K w p i o sn ns fp b h hroom ho hb1 ha1 r hr
 change stepIndex K.T (parF K.T f) o i = some r at hr
 unfold stepIndex at hr
 have HB := Lib.hid (Beg.of h)
 have HTK := Lib.hid h.env.tok
 have HRM := Lib.hid hroom.2
 have HI := Lib.hid hroom.1
 have HO := Lib.hid ho
 have HS0 := Lib.hid (St.start h)
 have HLN := Lib.hid h.env.len
 have HAP := Lib.hid AP
 have HX0 := Lib.hid hb1
 have HA0 := Lib.hid ha1
 clear h hroom ho AP hb1 ha1
 have HR := Lib.hid hr
 clear hr
 go_enter Tryz.func115, Tryz.ntmps115
 have x1 := cell_of_blk (i := 0) HX0.out rfl
 have xl2 := blk_lt HX0.out
 have hr := HR.out
 clear HR
 obtain ⟨X, hX⟩ : ∃ X, (parF K.T f).one (.exp) o i = X := ⟨_, rfl⟩
 rw [hX] at hr
 cases X with
 | none => exact absurd hr (by simp [Res.then])
 | some X =>
 cases X with
 | bad a n =>
  have HRR5 := Lib.hid (show Res.bad a n = r from (by dsimp only [Res.then] at hr; exact Option.some.inj hr))
  have HC8 := Lib.hid (call_bad ((HAP.out f (Nat.le_refl f)).exp) HS0.out HB.out ⟨HI.out, by have := HRM.out; have := HI.out; (try simp only [ptsS, ptS, noneT, ptsS_append, Nat.add_zero, Nat.zero_add]); omega⟩ HO.out hX)
  clear hr hX
  go_wp2_with fail
  refine HC8.out.mono ?_
  rintro e wb ⟨rfl, hb⟩
  have HB7 := Lib.hid hb
  clear hb
  unfold wrongP
  go_wp2
  exact ⟨rfl, by rw [← HRR5.out]; exact ⟨rfl, HB7.out⟩⟩
 | ok t3 j4 =>
  have hft := (fit_all HTK.out f).one (.exp) o i HI.out
  rw [hX] at hft
  obtain ⟨f1, f2, f3⟩ := hft
  simp only [lazy1, sl1, ex1, Bool.false_eq_true, if_false, if_true] at f2 f3
  have HF6 := Lib.hid (And.intro f1 (And.intro f2 f3))
  clear f1 f2 f3
  have HC12 := Lib.hid (call_ok ((HAP.out f (Nat.le_refl f)).exp) HS0.out ⟨HI.out, by have := HRM.out; have := HI.out; (try simp only [ptsS, ptS, noneT, ptsS_append, Nat.add_zero, Nat.zero_add]); omega⟩ HO.out hX)
  dsimp only [Res.then] at hr
  clear hX
  have HR := Lib.hid hr
  clear hr
  go_wp2_with fail
  clear x1 xl2
  refine HC12.out.mono ?_
  rintro e w9 ⟨rfl, fp10, h1, h2⟩
  obtain ⟨n13, hn⟩ : ∃ n, n = nr ns [] t3 := ⟨_, rfl⟩
  rw [← hn]
  have HN14 := Lib.hid hn
  have HS11 := Lib.hid (show St K w p j4 o sn ns fp [t3] w9 fp10 from h1)
  have HX15 := Lib.hid (Away.blkTo HX0.out HA0.out h2)
  have HA16 := Lib.hid (HA0.out.to h2)
  clear h1 h2 hn
  have x17 := cell_of_blk (i := 0) HX15.out rfl
  have xl18 := blk_lt HX15.out
  have hr := HR.out
  clear HR
  unfold need at hr
  cases hb : isAny (tk K.T j4) [⟨#[93]⟩] with
  | false =>
   rw [if_neg (by rw [hb]; decide)] at hr
   have HRR20 := Lib.hid (show Res.bad _ _ = r from (by exact Option.some.inj hr))
   have HC22 := Lib.hid ((need_no HS11.out.pa HF6.out.1 ⟨#[93]⟩ hb).mono fun e w' hh => (show OutB w p _ 70 e w' from ⟨hh.1, HS11.out.bad HB.out hh.2⟩))
   clear hr
   go_wp2_with fail
   refine HC22.out.mono ?_
   rintro e wb ⟨rfl, hb⟩
   have HB21 := Lib.hid hb
   clear hb
   unfold wrongP
   go_wp2
   exact ⟨rfl, by rw [← HRR20.out]; exact ⟨rfl, HB21.out⟩⟩
  | true =>
   rw [if_pos hb] at hr
   have HLT19 := Lib.hid (any_lt HTK.out HF6.out.1 hb)
   have HC25 := Lib.hid (need_yes HS11.out.pa HF6.out.1 ⟨#[93]⟩ hb)
   clear hb
   have HR := Lib.hid hr
   clear hr
   go_wp2_with fail
   clear x17 xl18
   refine HC25.out.mono ?_
   rintro e w23 ⟨rfl, h1, h2⟩
   have HS24 := Lib.hid (HS11.out.step h1 h2)
   have HX26 := Lib.hid (Away.blkTo HX15.out HA16.out h2)
   have HA27 := Lib.hid (HA16.out.to h2)
   clear h1 h2
   have x28 := cell_of_blk (i := 0) HX26.out rfl
   have xl29 := blk_lt HX26.out
   have hr := HR.out
   clear HR
   have HRR30 := Lib.hid (show Res.ok _ _ = r from Option.some.inj hr)
   clear hr
   go_wp2
   go_ret
   exact (by rw [← HRR30.out, HN14.out]; exact HS24.out.out)
set_option maxRecDepth 100000 in
theorem clos_paren {f : Nat} (AP : ∀ g, g ≤ f → AllPart g)  : ClosP (f + 1)  .paren 132 := by
 intro K w p i o sn ns fp b h hroom ho hb1 ha1 r hr
 change stepParen K.T (parF K.T f) o i = some r at hr
 unfold stepParen at hr
 have HB := Lib.hid (Beg.of h)
 have HTK := Lib.hid h.env.tok
 have HRM := Lib.hid hroom.2
 have HI := Lib.hid hroom.1
 have HO := Lib.hid ho
 have HS0 := Lib.hid (St.start h)
 have HLN := Lib.hid h.env.len
 have HAP := Lib.hid AP
 have HX0 := Lib.hid hb1
 have HA0 := Lib.hid ha1
 clear h hroom ho AP hb1 ha1
 have HR := Lib.hid hr
 clear hr
 go_enter Tryz.func132, Tryz.ntmps132
 have x1 := cell_of_blk (i := 0) HX0.out rfl
 have xl2 := blk_lt HX0.out
 have hr := HR.out
 clear HR
 obtain ⟨X, hX⟩ : ∃ X, (parF K.T f).one (.exp) o i = X := ⟨_, rfl⟩
 rw [hX] at hr
 cases X with
 | none => exact absurd hr (by simp [Res.then])
 | some X =>
 cases X with
 | bad a n =>
  have HRR5 := Lib.hid (show Res.bad a n = r from (by dsimp only [Res.then] at hr; exact Option.some.inj hr))
  have HC8 := Lib.hid (call_bad ((HAP.out f (Nat.le_refl f)).exp) HS0.out HB.out ⟨HI.out, by have := HRM.out; have := HI.out; (try simp only [ptsS, ptS, noneT, ptsS_append, Nat.add_zero, Nat.zero_add]); omega⟩ HO.out hX)
  clear hr hX
  go_wp2_with fail
  refine HC8.out.mono ?_
  rintro e wb ⟨rfl, hb⟩
  have HB7 := Lib.hid hb
  clear hb
  unfold wrongP
  go_wp2
  exact ⟨rfl, by rw [← HRR5.out]; exact ⟨rfl, HB7.out⟩⟩
 | ok t3 j4 =>
  have hft := (fit_all HTK.out f).one (.exp) o i HI.out
  rw [hX] at hft
  obtain ⟨f1, f2, f3⟩ := hft
  simp only [lazy1, sl1, ex1, Bool.false_eq_true, if_false, if_true] at f2 f3
  have HF6 := Lib.hid (And.intro f1 (And.intro f2 f3))
  clear f1 f2 f3
  have HC12 := Lib.hid (call_ok ((HAP.out f (Nat.le_refl f)).exp) HS0.out ⟨HI.out, by have := HRM.out; have := HI.out; (try simp only [ptsS, ptS, noneT, ptsS_append, Nat.add_zero, Nat.zero_add]); omega⟩ HO.out hX)
  dsimp only [Res.then] at hr
  clear hX
  have HR := Lib.hid hr
  clear hr
  go_wp2_with fail
  clear x1 xl2
  refine HC12.out.mono ?_
  rintro e w9 ⟨rfl, fp10, h1, h2⟩
  obtain ⟨n13, hn⟩ : ∃ n, n = nr ns [] t3 := ⟨_, rfl⟩
  rw [← hn]
  have HN14 := Lib.hid hn
  have HS11 := Lib.hid (show St K w p j4 o sn ns fp [t3] w9 fp10 from h1)
  have HX15 := Lib.hid (Away.blkTo HX0.out HA0.out h2)
  have HA16 := Lib.hid (HA0.out.to h2)
  clear h1 h2 hn
  have x17 := cell_of_blk (i := 0) HX15.out rfl
  have xl18 := blk_lt HX15.out
  have hr := HR.out
  clear HR
  unfold need at hr
  cases hb : isAny (tk K.T j4) [⟨#[41]⟩] with
  | false =>
   rw [if_neg (by rw [hb]; decide)] at hr
   have HRR20 := Lib.hid (show Res.bad _ _ = r from (by exact Option.some.inj hr))
   have HC22 := Lib.hid ((need_no HS11.out.pa HF6.out.1 ⟨#[41]⟩ hb).mono fun e w' hh => (show OutB w p _ 70 e w' from ⟨hh.1, HS11.out.bad HB.out hh.2⟩))
   clear hr
   go_wp2_with fail
   refine HC22.out.mono ?_
   rintro e wb ⟨rfl, hb⟩
   have HB21 := Lib.hid hb
   clear hb
   unfold wrongP
   go_wp2
   exact ⟨rfl, by rw [← HRR20.out]; exact ⟨rfl, HB21.out⟩⟩
  | true =>
   rw [if_pos hb] at hr
   have HLT19 := Lib.hid (any_lt HTK.out HF6.out.1 hb)
   have HC25 := Lib.hid (need_yes HS11.out.pa HF6.out.1 ⟨#[41]⟩ hb)
   clear hb
   have HR := Lib.hid hr
   clear hr
   go_wp2_with fail
   clear x17 xl18
   refine HC25.out.mono ?_
   rintro e w23 ⟨rfl, h1, h2⟩
   have HS24 := Lib.hid (HS11.out.step h1 h2)
   have HX26 := Lib.hid (Away.blkTo HX15.out HA16.out h2)
   have HA27 := Lib.hid (HA16.out.to h2)
   clear h1 h2
   have x28 := cell_of_blk (i := 0) HX26.out rfl
   have xl29 := blk_lt HX26.out
   have hr := HR.out
   clear HR
   have HRR30 := Lib.hid (show Res.ok _ _ = r from Option.some.inj hr)
   clear hr
   go_wp2
   go_ret
   exact (by rw [← HRR30.out, HN14.out]; exact HS24.out.out)
end Go.Proofs.YthobobmbileekaaGreatDoor
