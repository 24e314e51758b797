/-
 HeapApart: part 4 of what the claim rests on.
-/
import Derived.Test.YtilcofpceadpbaaGreatDoorA03
import Derived.Deep.Cut
import Derived.Deep.CutBlock
import Derived.StillTailTactics
import Derived.Deep.RegionHeld3
set_option linter.unusedVariables false
set_option linter.unusedSimpArgs false
set_option maxHeartbeats 64000000
namespace Go.Proofs.YtilcofpceadpbaaGreatDoor
open Go.ChangeShapes Go.WideShapes Go.ChangeAt Go.RowKit

def Tri (l m : List UInt8) : Prop := (Op.bytesLess l m = true ∧ Op.bytesLess m l = false ∧ (l == m) = false) ∨ (Op.bytesLess l m = false ∧ Op.bytesLess m l = true ∧ (l == m) = false) ∨ (Op.bytesLess l m = false ∧ Op.bytesLess m l = false ∧ (l == m) = true)
theorem bytes_tri : ∀ (l m : List UInt8), Tri l m
 | [], [] => .inr (.inr ⟨rfl, rfl, rfl⟩)
 | [], _ :: _ => .inl ⟨rfl, rfl, rfl⟩
 | _ :: _, [] => .inr (.inl ⟨rfl, rfl, rfl⟩)
 | x :: l, y :: m => by
  have ih := bytes_tri l m
  unfold Tri at *
  simp only [Op.bytesLess, List.cons_beq_cons]
  have e1 : (x < y) ↔ x.toNat < y.toNat := UInt8.lt_iff_toNat_lt
  have e2 : (y < x) ↔ y.toNat < x.toNat := UInt8.lt_iff_toNat_lt
  rcases Nat.lt_trichotomy x.toNat y.toNat with h | h | h
  ·left
   have h1 : x < y := e1.2 h
   have h2 : ¬ y < x := fun h' => by have := e2.1 h'; omega
   have h3 : (x == y) = false := by simp; rintro rfl; omega
   have h4 : (y == x) = false := by simp; rintro rfl; omega
   simp [h1, h2, h3, h4]
  ·have hxy : x = y := UInt8.toNat_inj.1 h
   subst hxy
   have h1 : ¬ x < x := fun h' => by have := e1.1 h'; omega
   simpa [h1] using ih
  ·right; left
   have h1 : y < x := e2.2 h
   have h2 : ¬ x < y := fun h' => by have := e1.1 h'; omega
   have h3 : (x == y) = false := by simp; rintro rfl; omega
   have h4 : (y == x) = false := by simp; rintro rfl; omega
   simp [h1, h2, h3, h4]
theorem tri_lt {l m : List UInt8} (h : Op.bytesLess l m = true) : Op.bytesLess m l = false ∧ ¬ m = l := by
 rcases bytes_tri l m with ⟨h1, h2, h3⟩ | ⟨h1, _⟩ | ⟨h1, _⟩
 ·exact ⟨h2, fun e => by rw [e] at h3; simp at h3⟩
 ·rw [h] at h1; cases h1
 ·rw [h] at h1; cases h1
theorem tri_no {l m : List UInt8} (h : Op.bytesLess l m = false) : Op.bytesLess m l = false → m = l := fun k => by
 rcases bytes_tri l m with ⟨h1, _⟩ | ⟨_, h2, _⟩ | ⟨_, _, h3⟩
 ·rw [h] at h1; cases h1
 ·rw [k] at h2; cases h2
 ·exact (beq_iff_eq.1 h3).symm
def SpB (B : Nat) (w : World) : Prop := ∀ w', Below B w w' → SpW w'
theorem SpB.on {B : Nat} {w w' : World} (h : SpB B w) (hb : Below B w w') : SpB B w' := fun w2 h2 => h w2 (hb.trans h2)
theorem SpB.here {B : Nat} {w : World} (h : SpB B w) : SpW w := h w (Below.refl _ _)
theorem SpW.at_ {w : World} (h : SpW w) : SpB w.heap.size w := Lib.tabBelow_of_tabIs h
structure Boxes (w : World) (B bm bk m : Nat) : Prop where
 many : w.heap[bm]? = some (.cells #[.int .i64 (m : Int)] 3 (0, 0))
 look : w.heap[bk]? = some (.cells #[.func (.func 110) #[] #[.pointer (some ⟨bm, 0, none⟩), .pointer (some ⟨bk, 0, none⟩)]] 159 (0, 0))
 bm_ : B ≤ bm
 bk_ : B ≤ bk
theorem Boxes.ne {w : World} {B bm bk m : Nat} (h : Boxes w B bm bk m) : bm ≠ bk := blk_ne h.many h.look (by decide)
theorem Boxes.fr {w w' : World} {B bm bk m m' : Nat} (h : Boxes w B bm bk m) (hf : Fr [bm] w w') (hm : w'.heap[bm]? = some (.cells #[.int .i64 (m' : Int)] 3 (0, 0))) : Boxes w' B bm bk m' :=
 ⟨hm, hf.blk h.look (by have := h.ne; simp; omega), h.bm_, h.bk_⟩
def LookPost (t : LTy) (deep m bm : Nat) (w : World) (e : Ending) (w' : World) : Prop :=
 Fr [bm] w w' ∧ ((Chk (51 - deep) (strip t) ∧ m + nodes (strip t) ≤ 10000 ∧ e = .returned (.tuple #[]) ∧ w'.heap[bm]? = some (.cells #[.int .i64 ((m + nodes (strip t) : Nat) : Int)] 3 (0, 0))) ∨
  (¬ (Chk (51 - deep) (strip t) ∧ m + nodes (strip t) ≤ 10000) ∧ e = .panicked (wrongV 0 90)))
theorem wrap_nat {k : Nat} (h : k < 9223372036854775808) : IntKind.i64.wrap (k : Int) = (k : Int) := by
 exact IntWalk.i64_in _ (by omega)
set_option maxRecDepth 100000 in
theorem tflat_any (x : LTy) (w : World) : Calls Tryz.prog 112 #[x.val] w (RetB (.bool (tb (Flat x.kind))) w) := by
 have HB := Lib.hid (show Below w.heap.size w (w.alloc (.cells #[.int .i64 x.kind, .slice x.A x.ns.length x.c, .slice x.A2 x.xs.length x.c2] 31)) from (Below.refl _ _).alloc (Nat.le_refl _) _)
 unfold LTy.val
 generalize x.kind = k at *
 by_cases h1 : 0 ≤ k
 ·by_cases h2 : k ≤ 7
  ·rw [tb_true ⟨h1, h2⟩]
   go_enter Tryz.func112, Tryz.ntmps112
   go_wp2
   go_ret
   exact ⟨rfl, HB.out⟩
  ·rw [tb_false (fun e => h2 e.2)]
   have h2' : 7 < k := by omega
   go_enter Tryz.func112, Tryz.ntmps112
   go_wp2
   go_ret
   exact ⟨rfl, HB.out⟩
 ·rw [tb_false (fun e => h1 e.1)]
  have h1' : k < 0 := by omega
  go_enter Tryz.func112, Tryz.ntmps112
  go_wp2
  go_ret
  exact ⟨rfl, HB.out⟩
theorem look_no {t : LTy} {deep m bm : Nat} {w w' : World} (hf : Fr [bm] w w') (h : ¬ (Chk (51 - deep) (strip t) ∧ m + nodes (strip t) ≤ 10000)) : LookPost t deep m bm w (.panicked (wrongV 0 90)) w' := ⟨hf, .inr ⟨h, rfl⟩⟩
theorem chk_deep {n : Nat} {t : Ty} (h : Chk n t) : 0 < n := by
 cases n with
 | zero => exact h.elim
 | succ n => omega
theorem chk_head {n : Nat} {t : LTy} (h : Chk n (strip t)) : HeadOk t.kind t.ns.length t.xs.length := by
 cases n with
 | zero => exact h.elim
 | succ n =>
  have := h.1
  rwa [strip_kind, strip_names, strip_len] at this
theorem head_cases (k : Int) : k = 0 ∨ k = 1 ∨ k = 2 ∨ k = 3 ∨ k = 4 ∨ k = 5 ∨ k = 6 ∨ k = 7 ∨ k = 8 ∨ k = 9 ∨ (k < 0 ∨ 9 < k) := by omega
set_option maxRecDepth 100000 in
theorem look_any (t : LTy) : ∀ (deep m : Nat) (w : World) (B bm bk : Nat), LIn w B t → SpB B w → Boxes w B bm bk m → deep ≤ 51 → m ≤ 10000 →
  Calls Tryz.prog 110 #[t.val, .int .i64 (deep : Int), .pointer (some ⟨bm, 0, none⟩), .pointer (some ⟨bk, 0, none⟩)] w (LookPost t deep m bm w) := by
 induction t using lty_ind with
 | h t ih =>
 intro deep m w B bm bk hin hsp hbx hdeep hm
 have c0 := cell_of_blk (i := 0) hbx.many rfl
 have f0 := free_of_blk (i := 0) hbx.many
 have lm := blk_lt hbx.many
 have lk := blk_lt hbx.look
 have hBm := hbx.bm_
 unfold LTy.val
 have hl1 := hin.n1.2
 have hl2 := hin.n2.2
 have HIN := Lib.hid hin
 have HSP := Lib.hid hsp
 have HBX := Lib.hid hbx
 have HIH := Lib.hid ih
 clear hin hsp hbx ih
 have hneb : ¬ w.heap.size = bm := by omega
 have hneb' : ¬ bm = w.heap.size := by omega
 have hfr0 : Fr [bm] w ((w.setCell ⟨bm, 0, none⟩ (.int .i64 ((m : Int) + 1))).alloc (.cells #[.int .i64 t.kind, .slice t.A t.ns.length t.c, .slice t.A2 t.xs.length t.c2] 31)) := ((Fr.refl _ _).set _ (.inl (by simp))).alloc _
 have HF0 := Lib.hid hfr0
 clear hfr0
 by_cases hd : deep ≤ 50
 case neg =>
  have HN := Lib.hid (show ¬ (Chk (51 - deep) (strip t) ∧ m + nodes (strip t) ≤ 10000) from fun e => by have := chk_deep e.1; omega)
  have hd' : ¬ (deep : Int) ≤ 50 := by omega
  have hd2 : 50 < (deep : Int) := by omega
  clear hd
  go_enter Tryz.func110, Tryz.ntmps110
  go_wp2_with fail
  with_reducible refine (tmust_no _ _).mono ?_
  rintro e w1 ⟨rfl, rfl⟩
  go_wp2
  exact ⟨rfl, look_no HF0.out HN.out⟩
 by_cases hm2 : m + 1 ≤ 10000
 case neg =>
  have HN := Lib.hid (show ¬ (Chk (51 - deep) (strip t) ∧ m + nodes (strip t) ≤ 10000) from fun e => by have := nodes_pos (strip t); omega)
  have hd' : (deep : Int) ≤ 50 := by omega
  have hm' : ¬ (m : Int) + 1 ≤ 10000 := by omega
  have hm'' : 10000 < (m : Int) + 1 := by omega
  clear hd hm2
  go_enter Tryz.func110, Tryz.ntmps110
  go_wp2_with fail
  with_reducible refine (tmust_no _ _).mono ?_
  rintro e w1 ⟨rfl, rfl⟩
  go_wp2
  exact ⟨rfl, look_no HF0.out HN.out⟩
 have hd' : (deep : Int) ≤ 50 := by omega
 have hm' : (m : Int) + 1 ≤ 10000 := by omega
 obtain ⟨g, hg⟩ : ∃ g, g = w.heap.size := ⟨_, rfl⟩
 go_enter Tryz.func110, Tryz.ntmps110
 go_wp2_with fail
 with_reducible refine (tmust_ok _ _).mono ?_
 rintro e w1 ⟨rfl, rfl⟩
 go_upto_block 0 with fail
 rw [← hg]
 refine gen_wpT fun W hW => ?_
 have kF : Fr [bm] w W := by rw [← hW]; exact HF0.out
 have kb : W.heap[g]? = some (.cells #[.int .i64 t.kind, .slice t.A t.ns.length t.c, .slice t.A2 t.xs.length t.c2] 31 (0, 0)) := by rw [← hW]; exact heap_new_at _ _ _ (by simp [World.setCell, hg])
 have kX : Boxes W B bm bk (m + 1) := HBX.out.fr kF (by rw [← hW]; exact blk_alloc (blk_set (i := 0) HBX.out.many _) _)
 have kB : Below B w W := kF.to_below (by omega) (by simpa using hBm)
 have KL := Lib.hid (HIN.out.stay kB)
 have KS := Lib.hid (HSP.out.on kB)
 have hgB : B ≤ g := by omega
 have KX := Lib.hid kX
 have KF := Lib.hid kF
 have KB := Lib.hid kb
 have b0 := cell_of_blk (i := 0) kb rfl
 have b1 := cell_of_blk (i := 1) kb rfl
 have b2 := cell_of_blk (i := 2) kb rfl
 have lg := blk_lt kb
 clear hW c0 f0 kF kb kX kB HF0 HBX HSP hneb hneb' hg hm' hd'
 obtain ⟨n1, hn1⟩ : ∃ n, n = t.ns.length := ⟨_, rfl⟩
 obtain ⟨n2, hn2⟩ : ∃ n, n = t.xs.length := ⟨_, rfl⟩
 obtain ⟨K, hK⟩ : ∃ k, k = t.kind := ⟨_, rfl⟩
 rw [← hK] at b0
 rw [← hn1] at b1 hl1
 rw [← hn2] at b2 hl2
 rw [← hn1, ← hn2, ← hK]
 have HE := Lib.hid (show t.ns.length = n1 ∧ t.xs.length = n2 ∧ t.kind = K from ⟨hn1.symm, hn2.symm, hK.symm⟩)
 clear hn1 hn2 hK
 go_cut [18] from 19 to 72 (fun s18 wx => s18 = .int .i64 K ∧ Hid (HeadOk K n1 n2) ∧ wx = W)
 case rest =>
  obtain ⟨rfl, HH, rfl⟩ := hcut
  go_wp2_with fail
  go_loopw [76] (fun i wr => ∃ k M : Nat, k ≤ n2 ∧ i = .int .i64 k ∧ Hid (Boxes wr B bm bk M) ∧ Hid (M = m + 1 + nodesL ((strip t).args.take k)) ∧ Hid (M ≤ 10000) ∧ Hid (∀ (j : Nat) (a : Ty), j < k → (strip t).args[j]? = some a → PartOk (strip t).kind (strip t).names (strip t).args j a ∧ Chk (50 - deep) a) ∧ Hid (Fr [bm] wc wr)) (fun i _ => n2 - (intOf i).toNat)
  case atStart => exact ⟨0, m + 1, by omega, rfl, KX, Lib.hid (by simp [nodesL]), Lib.hid hm2, Lib.hid (fun j a hj => by omega), Lib.hid (Fr.refl _ _)⟩
  case round =>
   obtain ⟨k, M, hk, rfl, HX, HM, HM1, HP, HFr⟩ := hrel
   have htn := HE.out
   by_cases hlt : k < n2
   case neg =>
    obtain rfl : k = n2 := by omega
    have HFIN := Lib.hid (show LookPost t deep m bm w (.returned (.tuple #[])) wr from by
     have hM := HM.out
     have hM1 := HM1.out
     rw [List.take_of_length_le (by rw [strip_len, htn.2.1]; exact Nat.le_refl _)] at hM
     have hn : m + nodes (strip t) = M := by rw [nodes_args, hM]; omega
     refine ⟨KF.out.trans HFr.out (by simp), .inl ⟨?_, by omega, rfl, by rw [hn]; exact HX.out.many⟩⟩
     have e51 : 51 - deep = (50 - deep) + 1 := by omega
     rw [e51]
     refine ⟨?_, fun i a ha => HP.out i a (by have := (List.getElem?_eq_some_iff.1 ha).1; rw [strip_len, htn.2.1] at this; exact this) ha⟩
     rw [strip_kind, strip_names, strip_len, htn.1, htn.2.1, htn.2.2]
     exact HH.out)
    go_wp2
    go_end0
    exact HFIN.out
   obtain ⟨x, hx⟩ : ∃ x, t.xs[k]? = some x := ⟨_, List.getElem?_eq_getElem (by rw [htn.2.1]; exact hlt)⟩
   have hBr : Below B wc wr := HFr.out.to_below (by omega) (by simpa using hBm)
   have hinr := KL.out.stay hBr
   obtain ⟨ad, hA2, hadB, x0, x1, x2⟩ := hinr.cells hx
   have lgr : g < wr.heap.size := Nat.lt_of_lt_of_le lg HFr.out.size
   have hadr : ad.block < wr.heap.size := by omega
   have hbr := HFr.out.blk KB.out (by have := KX.out.bm_; have := blk_lt KX.out.many; have := blk_ne KX.out.many KB.out (by decide); simp; omega)
   have r0 := cell_of_blk (i := 0) hbr rfl
   have r1 := cell_of_blk (i := 1) hbr rfl
   have r2 := cell_of_blk (i := 2) hbr rfl
   rw [htn.2.2] at r0
   rw [htn.1] at r1
   rw [htn.2.1] at r2
   have HBR := Lib.hid hbr
   have HIR := Lib.hid hinr
   have HBel := Lib.hid hBr
   rw [hA2] at r2
   have hk' : (k : Int) < (n2 : Int) := by omega
   have hk0 : (0 : Int) ≤ k := by omega
   have HXX := Lib.hid hx
   clear hbr hinr hBr hx
   rw [hA2]
   clear b0 b1 b2
   have hll : (ad.add (k * 3)).block < wr.heap.size := by rw [block_add']; omega
   go_upto_block 3 with fail
   refine gen_wpT fun W2 hW2 => ?_
   obtain ⟨g2, hg2⟩ : ∃ g2, g2 = wr.heap.size := ⟨_, rfl⟩
   have jX : W2.heap[g2]? = some (.cells #[.int .i64 x.kind, .slice x.A x.ns.length x.c, .slice x.A2 x.xs.length x.c2] 31 (0, 0)) := by rw [← hW2]; exact heap_new_at _ _ _ hg2.symm
   have jB : Below wr.heap.size wr W2 := by rw [← hW2]; exact (Below.refl _ _).alloc (Nat.le_refl _) _
   have JX := Lib.hid jX
   have JB := Lib.hid jB
   have HM1b := Lib.hid (show (strip t).args[k]? = some (strip x) from strip_at HXX.out)
   have HBAD := Lib.hid (show ∀ w', Fr [bm] wr w' → ¬ (PartOk (strip t).kind (strip t).names (strip t).args k (strip x) ∧ Chk (50 - deep) (strip x) ∧ M + nodes (strip x) ≤ 10000) → LookPost t deep m bm w (.panicked (wrongV 0 90)) w' from fun w' hf hh => look_no ((KF.out.trans HFr.out (by simp)).trans hf (by simp)) (fun e => hh (by
    have e51 : 51 - deep = (50 - deep) + 1 := by omega
    rw [e51] at e
    have hp := e.1.2 k _ HM1b.out
    refine ⟨hp.1, hp.2, ?_⟩
    have h1 := nodesL_take _ _ _ HM1b.out
    have h2 := nodesL_take_le (strip t).args (k + 1)
    have h3 := e.2
    rw [nodes_args] at h3
    have := HM.out
    omega)))
   rw [← hg2]
   have HG2 := Lib.hid hg2
   clear x0 x1 x2 r0 r1 r2 hW2 jX jB hg2
   go_cut [] from 83 to 146 (fun wx => Hid (PartOk (strip t).kind (strip t).names (strip t).args k (strip x)) ∧ Hid (Below W2.heap.size W2 wx))
   case first =>
    have v0 := cell_of_blk (i := 0) JX.out rfl
    have v1 := cell_of_blk (i := 1) JX.out rfl
    have v2 := cell_of_blk (i := 2) JX.out rfl
    have lv := blk_lt JX.out
    have HBR2 := Lib.hid (below_blk JB.out HBR.out)
    have u0 := cell_of_blk (i := 0) HBR2.out rfl
    have u1 := cell_of_blk (i := 1) HBR2.out rfl
    have u2 := cell_of_blk (i := 2) HBR2.out rfl
    have lu := blk_lt HBR2.out
    rw [htn.1] at u1
    rw [htn.2.1, hA2] at u2
    rcases (show K = 7 ∨ K = 8 ∨ (K ≠ 7 ∧ K ≠ 8) by omega) with hK | hK | hK
    ·have e7 : (K == 7) = true := beq_iff_eq.2 hK
     have HK := Lib.hid hK
     clear hK
     by_cases c1 : 0 < x.kind
     case neg =>
      have c1' : decide (0 < x.kind) = false := decide_eq_false c1
      have HPA := Lib.hid (HBAD.out W2.drew ((Fr.of_below JB.out _).drew) (fun e => (by have h1 := (e.1.1 (by rw [strip_kind, htn.2.2]; exact HK.out)); rw [strip_kind] at h1; exact c1 h1.1)))
      clear c1
      go_wp2_with fail
      refine wp_region_held_drew (S := fun w' => w'.heap[g2]? = some (.cells #[.int .i64 x.kind, .slice x.A x.ns.length x.c, .slice x.A2 x.xs.length x.c2] 31 (0, 0))) (by kernel_rfl) (JX.out) (fun hHeld => ?_)
      refine tk 0 85 (.pointer (some ⟨g2, 0, none⟩)) hHeld ?_; simp only [Act.put, zq1, zq2, zq3]
      refine tk 1 86 (.int .i64 x.kind) hHeld ?_ (hy := Or.inl ⟨by rfl, fun w' hS => (by have q := cell_of_blk (i := 0) hS rfl; go_simp)⟩); simp only [Act.put, zq1, zq2, zq3]
      refine tk 2 87 (.bool false) hHeld ?_; simp only [Act.put, zq1, zq2, zq3]
      refine tk 3 88 (.bool false) hHeld ?_; simp only [Act.put, zq1, zq2, zq3]
      refine tu 4 89 hHeld ?_; simp only [Act.put, zq1, zq2, zq3]
      refine tu 5 90 hHeld ?_; simp only [Act.put, zq1, zq2, zq3]
      refine tu 6 91 hHeld ?_; simp only [Act.put, zq1, zq2, zq3]
      refine tk 7 92 (.bool false) hHeld ?_; simp only [Act.put, zq1, zq2, zq3]
      refine tk 8 93 (.bool false) hHeld ?_; simp only [Act.put, zq1, zq2, zq3]
      refine tu 9 94 hHeld ?_; simp only [Act.put, zq1, zq2, zq3]
      refine tu 10 95 hHeld ?_; simp only [Act.put, zq1, zq2, zq3]
      refine tu 11 96 hHeld ?_; simp only [Act.put, zq1, zq2, zq3]
      refine tu 12 97 hHeld ?_; simp only [Act.put, zq1, zq2, zq3]
      refine tu 13 98 hHeld ?_; simp only [Act.put, zq1, zq2, zq3]
      refine tu 14 99 hHeld ?_; simp only [Act.put, zq1, zq2, zq3]
      refine tu 15 100 hHeld ?_; simp only [Act.put, zq1, zq2, zq3]
      refine tu 16 101 hHeld ?_; simp only [Act.put, zq1, zq2, zq3]
      refine tu 17 102 hHeld ?_; simp only [Act.put, zq1, zq2, zq3]
      refine tu 18 103 hHeld ?_; simp only [Act.put, zq1, zq2, zq3]
      refine tu 19 104 hHeld ?_; simp only [Act.put, zq1, zq2, zq3]
      refine tu 20 105 hHeld ?_; simp only [Act.put, zq1, zq2, zq3]
      refine tu 21 106 hHeld ?_; simp only [Act.put, zq1, zq2, zq3]
      refine tu 22 107 hHeld ?_; simp only [Act.put, zq1, zq2, zq3]
      refine tk 23 108 (.bool false) hHeld ?_; simp only [Act.put, zq1, zq2, zq3]
      refine rd 24 fun K hK => ?_
      go_simp
      with_reducible refine (tmust_no _ _).mono ?_
      rintro e w5 ⟨rfl, rfl⟩
      exact ⟨rfl, HPA.out⟩
     have c1' : decide (0 < x.kind) = true := decide_eq_true c1
     by_cases c2 : x.kind < 7
     case neg =>
      have c2' : decide (x.kind < 7) = false := decide_eq_false c2
      have HPA := Lib.hid (HBAD.out W2.drew ((Fr.of_below JB.out _).drew) (fun e => (by have h1 := (e.1.1 (by rw [strip_kind, htn.2.2]; exact HK.out)); rw [strip_kind] at h1; exact c2 h1.2.1)))
      clear c1 c2
      go_wp2_with fail
      refine wp_region_held_drew (S := fun w' => w'.heap[g2]? = some (.cells #[.int .i64 x.kind, .slice x.A x.ns.length x.c, .slice x.A2 x.xs.length x.c2] 31 (0, 0))) (by kernel_rfl) (JX.out) (fun hHeld => ?_)
      refine tk 0 85 (.pointer (some ⟨g2, 0, none⟩)) hHeld ?_; simp only [Act.put, zq1, zq2, zq3]
      refine tk 1 86 (.int .i64 x.kind) hHeld ?_ (hy := Or.inl ⟨by rfl, fun w' hS => (by have q := cell_of_blk (i := 0) hS rfl; go_simp)⟩); simp only [Act.put, zq1, zq2, zq3]
      refine tk 2 87 (.bool true) hHeld ?_; simp only [Act.put, zq1, zq2, zq3]
      refine tk 3 88 (.bool true) hHeld ?_; simp only [Act.put, zq1, zq2, zq3]
      refine tk 4 89 (.pointer (some ⟨g2, 0, none⟩)) hHeld ?_; simp only [Act.put, zq1, zq2, zq3]
      refine tk 5 90 (.int .i64 x.kind) hHeld ?_ (hy := Or.inl ⟨by rfl, fun w' hS => (by have q := cell_of_blk (i := 0) hS rfl; go_simp)⟩); simp only [Act.put, zq1, zq2, zq3]
      refine tk 6 91 (.bool false) hHeld ?_; simp only [Act.put, zq1, zq2, zq3]
      refine tk 7 92 (.bool false) hHeld ?_; simp only [Act.put, zq1, zq2, zq3]
      refine tk 8 93 (.bool false) hHeld ?_; simp only [Act.put, zq1, zq2, zq3]
      refine tu 9 94 hHeld ?_; simp only [Act.put, zq1, zq2, zq3]
      refine tu 10 95 hHeld ?_; simp only [Act.put, zq1, zq2, zq3]
      refine tu 11 96 hHeld ?_; simp only [Act.put, zq1, zq2, zq3]
      refine tu 12 97 hHeld ?_; simp only [Act.put, zq1, zq2, zq3]
      refine tu 13 98 hHeld ?_; simp only [Act.put, zq1, zq2, zq3]
      refine tu 14 99 hHeld ?_; simp only [Act.put, zq1, zq2, zq3]
      refine tu 15 100 hHeld ?_; simp only [Act.put, zq1, zq2, zq3]
      refine tu 16 101 hHeld ?_; simp only [Act.put, zq1, zq2, zq3]
      refine tu 17 102 hHeld ?_; simp only [Act.put, zq1, zq2, zq3]
      refine tu 18 103 hHeld ?_; simp only [Act.put, zq1, zq2, zq3]
      refine tu 19 104 hHeld ?_; simp only [Act.put, zq1, zq2, zq3]
      refine tu 20 105 hHeld ?_; simp only [Act.put, zq1, zq2, zq3]
      refine tu 21 106 hHeld ?_; simp only [Act.put, zq1, zq2, zq3]
      refine tu 22 107 hHeld ?_; simp only [Act.put, zq1, zq2, zq3]
      refine tk 23 108 (.bool false) hHeld ?_; simp only [Act.put, zq1, zq2, zq3]
      refine rd 24 fun K hK => ?_
      go_simp
      with_reducible refine (tmust_no _ _).mono ?_
      rintro e w5 ⟨rfl, rfl⟩
      exact ⟨rfl, HPA.out⟩
     have c2' : decide (x.kind < 7) = true := decide_eq_true c2
     by_cases c3 : k = 0
     ·have c3' : ((k : Int) == 0) = true := beq_iff_eq.2 (by omega)
      have HPO := Lib.hid (show PartOk (strip t).kind (strip t).names (strip t).args k (strip x) from by
       have hK := HK.out
       refine ⟨fun _ => ?_, fun e => by rw [strip_kind, htn.2.2] at e; omega⟩
       rw [strip_kind]
       exact ⟨c1, c2, fun b h0 => by omega⟩)
      clear c3 c1 c2
      go_wp2_with fail
      refine wp_region_held_drew (S := fun w' => w'.heap[g2]? = some (.cells #[.int .i64 x.kind, .slice x.A x.ns.length x.c, .slice x.A2 x.xs.length x.c2] 31 (0, 0))) (by kernel_rfl) (JX.out) (fun hHeld => ?_)
      refine tk 0 85 (.pointer (some ⟨g2, 0, none⟩)) hHeld ?_; simp only [Act.put, zq1, zq2, zq3]
      refine tk 1 86 (.int .i64 x.kind) hHeld ?_ (hy := Or.inl ⟨by rfl, fun w' hS => (by have q := cell_of_blk (i := 0) hS rfl; go_simp)⟩); simp only [Act.put, zq1, zq2, zq3]
      refine tk 2 87 (.bool true) hHeld ?_; simp only [Act.put, zq1, zq2, zq3]
      refine tk 3 88 (.bool true) hHeld ?_; simp only [Act.put, zq1, zq2, zq3]
      refine tk 4 89 (.pointer (some ⟨g2, 0, none⟩)) hHeld ?_; simp only [Act.put, zq1, zq2, zq3]
      refine tk 5 90 (.int .i64 x.kind) hHeld ?_ (hy := Or.inl ⟨by rfl, fun w' hS => (by have q := cell_of_blk (i := 0) hS rfl; go_simp)⟩); simp only [Act.put, zq1, zq2, zq3]
      refine tk 6 91 (.bool true) hHeld ?_; simp only [Act.put, zq1, zq2, zq3]
      refine tk 7 92 (.bool true) hHeld ?_; simp only [Act.put, zq1, zq2, zq3]
      refine tk 8 93 (.bool true) hHeld ?_; simp only [Act.put, zq1, zq2, zq3]
      refine tk 9 94 (.int .i64 (k : Int)) hHeld ?_; simp only [Act.put, zq1, zq2, zq3]
      refine tk 10 95 (.bool true) hHeld ?_; simp only [Act.put, zq1, zq2, zq3]
      refine tk 11 96 (.bool true) hHeld ?_; simp only [Act.put, zq1, zq2, zq3]
      refine tu 12 97 hHeld ?_; simp only [Act.put, zq1, zq2, zq3]
      refine tu 13 98 hHeld ?_; simp only [Act.put, zq1, zq2, zq3]
      refine tu 14 99 hHeld ?_; simp only [Act.put, zq1, zq2, zq3]
      refine tu 15 100 hHeld ?_; simp only [Act.put, zq1, zq2, zq3]
      refine tu 16 101 hHeld ?_; simp only [Act.put, zq1, zq2, zq3]
      refine tu 17 102 hHeld ?_; simp only [Act.put, zq1, zq2, zq3]
      refine tu 18 103 hHeld ?_; simp only [Act.put, zq1, zq2, zq3]
      refine tu 19 104 hHeld ?_; simp only [Act.put, zq1, zq2, zq3]
      refine tu 20 105 hHeld ?_; simp only [Act.put, zq1, zq2, zq3]
      refine tu 21 106 hHeld ?_; simp only [Act.put, zq1, zq2, zq3]
      refine tk 22 107 (.bool true) hHeld ?_; simp only [Act.put, zq1, zq2, zq3]
      refine tk 23 108 (.bool true) hHeld ?_; simp only [Act.put, zq1, zq2, zq3]
      refine rd 24 fun K hK => ?_
      go_simp
      with_reducible refine (tmust_ok _ _).mono ?_
      rintro e w5 ⟨rfl, rfl⟩
      refine hK.out _ _ (by assumption) (fun hHeld => ?_)
      clear hK K
      try simp only [Act.put, zq1, zq2, zq3]
      refine wpAnyH_done (by kernel_rfl) ?_ _
      go_wp2_with fail
      go_meet
      case rel => exact ⟨HPO, Lib.hid (Below.refl _ _).drew⟩
     obtain ⟨k', rfl⟩ : ∃ k', k = k' + 1 := ⟨k - 1, by omega⟩
     obtain ⟨y, hy⟩ : ∃ y, t.xs[k']? = some y := ⟨_, List.getElem?_eq_getElem (by rw [htn.2.1]; omega)⟩
     obtain ⟨ad', hA2', _, y0, _, _⟩ := (HIR.out.stay (JB.out.mono (by have := HX.out.bm_; have := blk_lt HX.out.many; omega))).cells hy
     rw [hA2] at hA2'
     obtain rfl := Option.some.inj hA2'
     have c3' : (((k' + 1 : Nat) : Int) == 0) = false := beq_eq_false_iff_ne.2 (by omega)
     have ly : (ad.add (k' * 3)).block < W2.heap.size := by rw [block_add']; have := JB.out.size; omega
     have hk'' : (k' : Int) < n2 := by omega
     have c3'' : ¬ ((k' : Int) + 1 = 0) := by omega
     have hwk : IntKind.i64.wrap (k' : Int) = (k' : Int) := wrap_nat (by omega)
     by_cases c4 : y.kind < x.kind
     ·have c4' : decide (y.kind < x.kind) = true := decide_eq_true c4
      have HPO := Lib.hid (show PartOk (strip t).kind (strip t).names (strip t).args (k' + 1) (strip x) from by
       have hK := HK.out
       refine ⟨fun _ => ?_, fun e => by rw [strip_kind, htn.2.2] at e; omega⟩
       rw [strip_kind]
       refine ⟨c1, c2, fun b h0 hb => ?_⟩
       have hb2 := strip_at hy
       rw [show k' + 1 - 1 = k' from rfl, hb2] at hb
       rw [← Option.some.inj hb, strip_kind]
       exact c4)
      clear c3 hy c1 c2 c4
      go_wp2_with fail
      refine wp_region_held_drew (S := fun w' => w'.heap[g2]? = some (.cells #[.int .i64 x.kind, .slice x.A x.ns.length x.c, .slice x.A2 x.xs.length x.c2] 31 (0, 0)) ∧ w'.heap[g]? = some (.cells #[.int .i64 t.kind, .slice t.A t.ns.length t.c, .slice t.A2 t.xs.length t.c2] 31 (0, 0)) ∧ w'.cell? (ad.add (k' * 3)) = some (.int .i64 y.kind)) (by kernel_rfl) (⟨JX.out, HBR2.out, y0⟩) (fun hHeld => ?_)
      refine tk 0 85 (.pointer (some ⟨g2, 0, none⟩)) hHeld ?_; simp only [Act.put, zq1, zq2, zq3]
      refine tk 1 86 (.int .i64 x.kind) hHeld ?_ (hy := Or.inl ⟨by rfl, fun w' hS => (by have q := cell_of_blk (i := 0) hS.1 rfl; go_simp)⟩); simp only [Act.put, zq1, zq2, zq3]
      refine tk 2 87 (.bool true) hHeld ?_; simp only [Act.put, zq1, zq2, zq3]
      refine tk 3 88 (.bool true) hHeld ?_; simp only [Act.put, zq1, zq2, zq3]
      refine tk 4 89 (.pointer (some ⟨g2, 0, none⟩)) hHeld ?_; simp only [Act.put, zq1, zq2, zq3]
      refine tk 5 90 (.int .i64 x.kind) hHeld ?_ (hy := Or.inl ⟨by rfl, fun w' hS => (by have q := cell_of_blk (i := 0) hS.1 rfl; go_simp)⟩); simp only [Act.put, zq1, zq2, zq3]
      refine tk 6 91 (.bool true) hHeld ?_; simp only [Act.put, zq1, zq2, zq3]
      refine tk 7 92 (.bool true) hHeld ?_; simp only [Act.put, zq1, zq2, zq3]
      refine tk 8 93 (.bool true) hHeld ?_; simp only [Act.put, zq1, zq2, zq3]
      refine tk 9 94 (.int .i64 ((k' + 1 : Nat) : Int)) hHeld ?_; simp only [Act.put, zq1, zq2, zq3]
      refine tk 10 95 (.bool false) hHeld ?_; simp only [Act.put, zq1, zq2, zq3]
      refine tk 11 96 (.bool false) hHeld ?_; simp only [Act.put, zq1, zq2, zq3]
      refine tk 12 97 (.pointer (some ⟨g2, 0, none⟩)) hHeld ?_; simp only [Act.put, zq1, zq2, zq3]
      refine tk 13 98 (.int .i64 x.kind) hHeld ?_ (hy := Or.inl ⟨by rfl, fun w' hS => (by have q := cell_of_blk (i := 0) hS.1 rfl; go_simp)⟩); simp only [Act.put, zq1, zq2, zq3]
      refine tk 14 99 (.pointer (some ⟨g, 2, none⟩)) hHeld ?_; simp only [Act.put, zq1, zq2, zq3]
      refine tk 15 100 (.slice (some ad) n2 t.c2) hHeld ?_ (hy := Or.inl ⟨by rfl, fun w' hS => (by have q := cell_of_blk (i := 2) hS.2.1 rfl; rw [htn.2.1, hA2] at q; go_simp)⟩); simp only [Act.put, zq1, zq2, zq3]
      refine tk 16 101 (.int .i64 ((k' + 1 : Nat) : Int)) hHeld ?_; simp only [Act.put, zq1, zq2, zq3]
      refine tk 17 102 (.int .i64 (k' : Int)) hHeld ?_; simp only [Act.put, zq1, zq2, zq3]
      refine tk 18 103 (.pointer (some (ad.add (k' * 3)))) hHeld ?_; simp only [Act.put, zq1, zq2, zq3]
      refine tk 19 104 (.pointer (some (ad.add (k' * 3)))) hHeld ?_; simp only [Act.put, zq1, zq2, zq3]
      refine tk 20 105 (.int .i64 y.kind) hHeld ?_ (hy := Or.inl ⟨by rfl, fun w' hS => (by have q := hS.2.2; go_simp)⟩); simp only [Act.put, zq1, zq2, zq3]
      refine tk 21 106 (.bool true) hHeld ?_; simp only [Act.put, zq1, zq2, zq3]
      refine tk 22 107 (.bool true) hHeld ?_; simp only [Act.put, zq1, zq2, zq3]
      refine tk 23 108 (.bool true) hHeld ?_; simp only [Act.put, zq1, zq2, zq3]
      refine rd 24 fun K hK => ?_
      go_simp
      with_reducible refine (tmust_ok _ _).mono ?_
      rintro e w5 ⟨rfl, rfl⟩
      refine hK.out _ _ (by assumption) (fun hHeld => ?_)
      clear hK K
      try simp only [Act.put, zq1, zq2, zq3]
      refine wpAnyH_done (by kernel_rfl) ?_ _
      go_wp2_with fail
      go_meet
      case rel => exact ⟨HPO, Lib.hid (Below.refl _ _).drew⟩
     ·have c4' : decide (y.kind < x.kind) = false := decide_eq_false c4
      have HPA := Lib.hid (HBAD.out W2.drew ((Fr.of_below JB.out _).drew) (fun e => (by
       have h1 := (e.1.1 (by rw [strip_kind, htn.2.2]; exact HK.out))
       rw [strip_kind] at h1
       have h2 := h1.2.2 (strip y) (by omega) (strip_at hy)
       rw [strip_kind] at h2
       exact c4 h2)))
      clear c3 hy c1 c2 c4
      go_wp2_with fail
      refine wp_region_held_drew (S := fun w' => w'.heap[g2]? = some (.cells #[.int .i64 x.kind, .slice x.A x.ns.length x.c, .slice x.A2 x.xs.length x.c2] 31 (0, 0)) ∧ w'.heap[g]? = some (.cells #[.int .i64 t.kind, .slice t.A t.ns.length t.c, .slice t.A2 t.xs.length t.c2] 31 (0, 0)) ∧ w'.cell? (ad.add (k' * 3)) = some (.int .i64 y.kind)) (by kernel_rfl) (⟨JX.out, HBR2.out, y0⟩) (fun hHeld => ?_)
      refine tk 0 85 (.pointer (some ⟨g2, 0, none⟩)) hHeld ?_; simp only [Act.put, zq1, zq2, zq3]
      refine tk 1 86 (.int .i64 x.kind) hHeld ?_ (hy := Or.inl ⟨by rfl, fun w' hS => (by have q := cell_of_blk (i := 0) hS.1 rfl; go_simp)⟩); simp only [Act.put, zq1, zq2, zq3]
      refine tk 2 87 (.bool true) hHeld ?_; simp only [Act.put, zq1, zq2, zq3]
      refine tk 3 88 (.bool true) hHeld ?_; simp only [Act.put, zq1, zq2, zq3]
      refine tk 4 89 (.pointer (some ⟨g2, 0, none⟩)) hHeld ?_; simp only [Act.put, zq1, zq2, zq3]
      refine tk 5 90 (.int .i64 x.kind) hHeld ?_ (hy := Or.inl ⟨by rfl, fun w' hS => (by have q := cell_of_blk (i := 0) hS.1 rfl; go_simp)⟩); simp only [Act.put, zq1, zq2, zq3]
      refine tk 6 91 (.bool true) hHeld ?_; simp only [Act.put, zq1, zq2, zq3]
      refine tk 7 92 (.bool true) hHeld ?_; simp only [Act.put, zq1, zq2, zq3]
      refine tk 8 93 (.bool true) hHeld ?_; simp only [Act.put, zq1, zq2, zq3]
      refine tk 9 94 (.int .i64 ((k' + 1 : Nat) : Int)) hHeld ?_; simp only [Act.put, zq1, zq2, zq3]
      refine tk 10 95 (.bool false) hHeld ?_; simp only [Act.put, zq1, zq2, zq3]
      refine tk 11 96 (.bool false) hHeld ?_; simp only [Act.put, zq1, zq2, zq3]
      refine tk 12 97 (.pointer (some ⟨g2, 0, none⟩)) hHeld ?_; simp only [Act.put, zq1, zq2, zq3]
      refine tk 13 98 (.int .i64 x.kind) hHeld ?_ (hy := Or.inl ⟨by rfl, fun w' hS => (by have q := cell_of_blk (i := 0) hS.1 rfl; go_simp)⟩); simp only [Act.put, zq1, zq2, zq3]
      refine tk 14 99 (.pointer (some ⟨g, 2, none⟩)) hHeld ?_; simp only [Act.put, zq1, zq2, zq3]
      refine tk 15 100 (.slice (some ad) n2 t.c2) hHeld ?_ (hy := Or.inl ⟨by rfl, fun w' hS => (by have q := cell_of_blk (i := 2) hS.2.1 rfl; rw [htn.2.1, hA2] at q; go_simp)⟩); simp only [Act.put, zq1, zq2, zq3]
      refine tk 16 101 (.int .i64 ((k' + 1 : Nat) : Int)) hHeld ?_; simp only [Act.put, zq1, zq2, zq3]
      refine tk 17 102 (.int .i64 (k' : Int)) hHeld ?_; simp only [Act.put, zq1, zq2, zq3]
      refine tk 18 103 (.pointer (some (ad.add (k' * 3)))) hHeld ?_; simp only [Act.put, zq1, zq2, zq3]
      refine tk 19 104 (.pointer (some (ad.add (k' * 3)))) hHeld ?_; simp only [Act.put, zq1, zq2, zq3]
      refine tk 20 105 (.int .i64 y.kind) hHeld ?_ (hy := Or.inl ⟨by rfl, fun w' hS => (by have q := hS.2.2; go_simp)⟩); simp only [Act.put, zq1, zq2, zq3]
      refine tk 21 106 (.bool false) hHeld ?_; simp only [Act.put, zq1, zq2, zq3]
      refine tk 22 107 (.bool false) hHeld ?_; simp only [Act.put, zq1, zq2, zq3]
      refine tk 23 108 (.bool false) hHeld ?_; simp only [Act.put, zq1, zq2, zq3]
      refine rd 24 fun K hK => ?_
      go_simp
      with_reducible refine (tmust_no _ _).mono ?_
      rintro e w5 ⟨rfl, rfl⟩
      exact ⟨rfl, HPA.out⟩
    ·have e7 : (K == 7) = false := beq_eq_false_iff_ne.2 (by omega)
     have e8 : (K == 8) = true := beq_iff_eq.2 hK
     have hn12 : n1 = n2 := by
      rcases HH.out with h | h | h | h <;> omega
     have HK := Lib.hid hK
     clear hK
     obtain ⟨s, hs⟩ : ∃ s, t.ns[k]? = some s := ⟨_, List.getElem?_eq_getElem (by rw [htn.1]; omega)⟩
     have hJ : Below B wr W2 := JB.out.mono (by have := HX.out.bm_; have := blk_lt HX.out.many; omega)
     have hinW := HIR.out.stay hJ
     obtain ⟨ad1, hA1, had1, s0⟩ := hinW.name hs
     have HN12 := Lib.hid hn12
     have hkn : (k : Int) < (n1 : Int) := by omega
     have HA1 := Lib.hid hA1
     clear hn12 hA1
     have hsz := HIN.out.room s (List.mem_of_getElem? hs)
     have HFL := Lib.hid (fun W => tflat_any x W)
     have HNM := Lib.hid (fun W hW => name_any s hsz W hW)
     have HSW := Lib.hid (show ∀ W, Below W2.heap.size W2 W → SpW W from fun W hW => ((KS.out.on HBel.out).on hJ) W (hW.mono (by have := JB.out.size; have := HX.out.bm_; have := blk_lt HX.out.many; omega)))
     have hls : (ad1.add k).block < W2.heap.size := by rw [block_add']; have := JB.out.size; have := HX.out.bm_; have := blk_lt HX.out.many; omega
     have hbad8 : ∀ (w' : World), Fr [bm] wr w' → ¬ PartOk (strip t).kind (strip t).names (strip t).args k (strip x) → LookPost t deep m bm w (.panicked (wrongV 0 90)) w' := fun w' hf hh => HBAD.out w' hf (fun e => hh e.1)
     have HPP := Lib.hid (show PartOk (strip t).kind (strip t).names (strip t).args k (strip x) ↔ (Flat x.kind ∧ NameOk s ∧ ∀ r, 0 < k → t.ns[k - 1]? = some r → Op.bytesLess r.toList s.toList = true) from by
      have hK := HK.out
      refine ⟨fun e => ?_, fun e => ⟨fun e7 => by rw [strip_kind, htn.2.2] at e7; omega, fun _ => ⟨by rw [strip_kind]; exact e.1, fun s' hs' => ?_⟩⟩⟩
      ·have h1 := e.2 (by rw [strip_kind, htn.2.2]; exact hK)
       rw [strip_kind, strip_names] at h1
       exact ⟨h1.1, (h1.2 s hs).1, (h1.2 s hs).2⟩
      ·rw [strip_names] at hs' ⊢
       rw [hs] at hs'
       obtain rfl := Option.some.inj hs'
       exact ⟨e.2.1, e.2.2⟩)
     have HB8 := Lib.hid hbad8
     clear hbad8 hinW hJ
     unfold LTy.val at HFL
     by_cases c1 : Flat x.kind
     case neg =>
      rw [tb_false c1] at HFL
      have HPA := Lib.hid (fun w' hf => HB8.out w' hf (fun e => c1 (HPP.out.1 e).1))
      clear c1
      go_wp2_with fail
      refine wp_region_held_drew (S := fun w' => w'.heap[g2]? = some (.cells #[.int .i64 x.kind, .slice x.A x.ns.length x.c, .slice x.A2 x.xs.length x.c2] 31 (0, 0)) ∧ w'.heap[g]? = some (.cells #[.int .i64 t.kind, .slice t.A t.ns.length t.c, .slice t.A2 t.xs.length t.c2] 31 (0, 0)) ∧ w'.cell? (ad1.add k) = some (.string s)) (by kernel_rfl) (⟨JX.out, HBR2.out, s0⟩) (fun hHeld => ?_)
      refine tk 0 112 (.agg #[.int .i64 x.kind, .slice x.A x.ns.length x.c, .slice x.A2 x.xs.length x.c2]) hHeld ?_ (hy := Or.inl ⟨by rfl, fun w' hS => (by have q0 := cell_of_blk (i := 0) hS.1 rfl; have q1 := cell_of_blk (i := 1) hS.1 rfl; have q2 := cell_of_blk (i := 2) hS.1 rfl; go_simp)⟩); simp only [Act.put, zq1, zq2, zq3]
      refine rd 1 fun K hK => ?_
      go_simp
      with_reducible refine (HFL.out _).mono ?_
      rintro e w5 ⟨rfl, hb5⟩
      have HB5 := Lib.hid (show Below W2.heap.size W2 w5 from (Below.refl W2.heap.size W2).drew.trans hb5)
      clear hb5
      refine hK.out _ _ (⟨below_blk HB5.out JX.out, below_blk HB5.out HBR2.out, (HB5.out.cell (p := (ad1.add k)) hls).trans s0⟩) (fun hHeld => ?_)
      clear hK K
      try simp only [Act.put, zq1, zq2, zq3]
      refine tk 2 114 (.bool false) hHeld ?_; simp only [Act.put, zq1, zq2, zq3]
      refine tu 3 115 hHeld ?_; simp only [Act.put, zq1, zq2, zq3]
      refine tu 4 116 hHeld ?_; simp only [Act.put, zq1, zq2, zq3]
      refine tu 5 117 hHeld ?_; simp only [Act.put, zq1, zq2, zq3]
      refine tu 6 118 hHeld ?_; simp only [Act.put, zq1, zq2, zq3]
      refine tu 7 119 hHeld ?_; simp only [Act.put, zq1, zq2, zq3]
      refine tu 8 120 hHeld ?_; simp only [Act.put, zq1, zq2, zq3]
      refine tk 9 121 (.bool false) hHeld ?_; simp only [Act.put, zq1, zq2, zq3]
      refine tk 10 122 (.bool false) hHeld ?_; simp only [Act.put, zq1, zq2, zq3]
      refine tu 11 123 hHeld ?_; simp only [Act.put, zq1, zq2, zq3]
      refine tu 12 124 hHeld ?_; simp only [Act.put, zq1, zq2, zq3]
      refine tu 13 125 hHeld ?_; simp only [Act.put, zq1, zq2, zq3]
      refine tu 14 126 hHeld ?_; simp only [Act.put, zq1, zq2, zq3]
      refine tu 15 127 hHeld ?_; simp only [Act.put, zq1, zq2, zq3]
      refine tu 16 128 hHeld ?_; simp only [Act.put, zq1, zq2, zq3]
      refine tu 17 129 hHeld ?_; simp only [Act.put, zq1, zq2, zq3]
      refine tu 18 130 hHeld ?_; simp only [Act.put, zq1, zq2, zq3]
      refine tu 19 131 hHeld ?_; simp only [Act.put, zq1, zq2, zq3]
      refine tu 20 132 hHeld ?_; simp only [Act.put, zq1, zq2, zq3]
      refine tu 21 133 hHeld ?_; simp only [Act.put, zq1, zq2, zq3]
      refine tu 22 134 hHeld ?_; simp only [Act.put, zq1, zq2, zq3]
      refine tu 23 135 hHeld ?_; simp only [Act.put, zq1, zq2, zq3]
      refine tu 24 136 hHeld ?_; simp only [Act.put, zq1, zq2, zq3]
      refine tu 25 137 hHeld ?_; simp only [Act.put, zq1, zq2, zq3]
      refine tu 26 138 hHeld ?_; simp only [Act.put, zq1, zq2, zq3]
      refine tk 27 139 (.bool false) hHeld ?_; simp only [Act.put, zq1, zq2, zq3]
      refine rd 28 fun K hK => ?_
      go_simp
      with_reducible refine (tmust_no _ _).mono ?_
      rintro e w7 ⟨rfl, rfl⟩
      exact ⟨rfl, HPA.out _ ((Fr.of_below JB.out [bm]).trans (Fr.of_below HB5.out [bm]) (by simp))⟩
     rw [tb_true c1] at HFL
     by_cases c2 : NameOk s
     case neg =>
      rw [tb_false c2] at HNM
      have HPA := Lib.hid (fun w' hf => HB8.out w' hf (fun e => c2 (HPP.out.1 e).2.1))
      clear c1 c2
      go_wp2_with fail
      refine wp_region_held_drew (S := fun w' => w'.heap[g2]? = some (.cells #[.int .i64 x.kind, .slice x.A x.ns.length x.c, .slice x.A2 x.xs.length x.c2] 31 (0, 0)) ∧ w'.heap[g]? = some (.cells #[.int .i64 t.kind, .slice t.A t.ns.length t.c, .slice t.A2 t.xs.length t.c2] 31 (0, 0)) ∧ w'.cell? (ad1.add k) = some (.string s)) (by kernel_rfl) (⟨JX.out, HBR2.out, s0⟩) (fun hHeld => ?_)
      refine tk 0 112 (.agg #[.int .i64 x.kind, .slice x.A x.ns.length x.c, .slice x.A2 x.xs.length x.c2]) hHeld ?_ (hy := Or.inl ⟨by rfl, fun w' hS => (by have q0 := cell_of_blk (i := 0) hS.1 rfl; have q1 := cell_of_blk (i := 1) hS.1 rfl; have q2 := cell_of_blk (i := 2) hS.1 rfl; go_simp)⟩); simp only [Act.put, zq1, zq2, zq3]
      refine rd 1 fun K hK => ?_
      go_simp
      with_reducible refine (HFL.out _).mono ?_
      rintro e w5 ⟨rfl, hb5⟩
      have HB5 := Lib.hid (show Below W2.heap.size W2 w5 from (Below.refl W2.heap.size W2).drew.trans hb5)
      clear hb5
      refine hK.out _ _ (⟨below_blk HB5.out JX.out, below_blk HB5.out HBR2.out, (HB5.out.cell (p := (ad1.add k)) hls).trans s0⟩) (fun hHeld => ?_)
      clear hK K
      try simp only [Act.put, zq1, zq2, zq3]
      refine tk 2 114 (.bool true) hHeld ?_; simp only [Act.put, zq1, zq2, zq3]
      refine tk 3 115 (.pointer (some ⟨g, 1, none⟩)) hHeld ?_; simp only [Act.put, zq1, zq2, zq3]
      refine tk 4 116 (.slice (some ad1) n1 t.c) hHeld ?_ (hy := Or.inl ⟨by rfl, fun w' hS => (by have q := cell_of_blk (i := 1) hS.2.1 rfl; rw [htn.1, HA1.out] at q; go_simp)⟩); simp only [Act.put, zq1, zq2, zq3]
      refine tk 5 117 (.int .i64 (k : Int)) hHeld ?_; simp only [Act.put, zq1, zq2, zq3]
      refine tk 6 118 (.pointer (some (ad1.add k))) hHeld ?_; simp only [Act.put, zq1, zq2, zq3]
      refine tk 7 119 (.string s) hHeld ?_ (hy := Or.inl ⟨by rfl, fun w' hS => (by have q := hS.2.2; go_simp)⟩); simp only [Act.put, zq1, zq2, zq3]
      refine rd 8 fun K hK => ?_
      go_simp
      with_reducible refine (HNM.out _ (HSW.out _ HB5.out)).mono ?_
      rintro e w6 ⟨rfl, hb6⟩
      have HB6 := Lib.hid (show Below W2.heap.size W2 w6 from HB5.out.trans (hb6.mono HB5.out.size))
      clear hb6
      refine hK.out _ _ (⟨below_blk HB6.out JX.out, below_blk HB6.out HBR2.out, (HB6.out.cell (p := (ad1.add k)) hls).trans s0⟩) (fun hHeld => ?_)
      clear hK K
      try simp only [Act.put, zq1, zq2, zq3]
      refine tk 9 121 (.bool false) hHeld ?_; simp only [Act.put, zq1, zq2, zq3]
      refine tk 10 122 (.bool false) hHeld ?_; simp only [Act.put, zq1, zq2, zq3]
      refine tu 11 123 hHeld ?_; simp only [Act.put, zq1, zq2, zq3]
      refine tu 12 124 hHeld ?_; simp only [Act.put, zq1, zq2, zq3]
      refine tu 13 125 hHeld ?_; simp only [Act.put, zq1, zq2, zq3]
      refine tu 14 126 hHeld ?_; simp only [Act.put, zq1, zq2, zq3]
      refine tu 15 127 hHeld ?_; simp only [Act.put, zq1, zq2, zq3]
      refine tu 16 128 hHeld ?_; simp only [Act.put, zq1, zq2, zq3]
      refine tu 17 129 hHeld ?_; simp only [Act.put, zq1, zq2, zq3]
      refine tu 18 130 hHeld ?_; simp only [Act.put, zq1, zq2, zq3]
      refine tu 19 131 hHeld ?_; simp only [Act.put, zq1, zq2, zq3]
      refine tu 20 132 hHeld ?_; simp only [Act.put, zq1, zq2, zq3]
      refine tu 21 133 hHeld ?_; simp only [Act.put, zq1, zq2, zq3]
      refine tu 22 134 hHeld ?_; simp only [Act.put, zq1, zq2, zq3]
      refine tu 23 135 hHeld ?_; simp only [Act.put, zq1, zq2, zq3]
      refine tu 24 136 hHeld ?_; simp only [Act.put, zq1, zq2, zq3]
      refine tu 25 137 hHeld ?_; simp only [Act.put, zq1, zq2, zq3]
      refine tu 26 138 hHeld ?_; simp only [Act.put, zq1, zq2, zq3]
      refine tk 27 139 (.bool false) hHeld ?_; simp only [Act.put, zq1, zq2, zq3]
      refine rd 28 fun K hK => ?_
      go_simp
      with_reducible refine (tmust_no _ _).mono ?_
      rintro e w7 ⟨rfl, rfl⟩
      exact ⟨rfl, HPA.out _ ((Fr.of_below JB.out [bm]).trans (Fr.of_below HB6.out [bm]) (by simp))⟩
     rw [tb_true c2] at HNM
     by_cases c3 : k = 0
     ·have c3' : ((k : Int) == 0) = true := beq_iff_eq.2 (by omega)
      have HPO := Lib.hid (HPP.out.2 ⟨c1, c2, fun r h0 => by omega⟩)
      clear c3 c1 c2
      go_wp2_with fail
      refine wp_region_held_drew (S := fun w' => w'.heap[g2]? = some (.cells #[.int .i64 x.kind, .slice x.A x.ns.length x.c, .slice x.A2 x.xs.length x.c2] 31 (0, 0)) ∧ w'.heap[g]? = some (.cells #[.int .i64 t.kind, .slice t.A t.ns.length t.c, .slice t.A2 t.xs.length t.c2] 31 (0, 0)) ∧ w'.cell? (ad1.add k) = some (.string s)) (by kernel_rfl) (⟨JX.out, HBR2.out, s0⟩) (fun hHeld => ?_)
      refine tk 0 112 (.agg #[.int .i64 x.kind, .slice x.A x.ns.length x.c, .slice x.A2 x.xs.length x.c2]) hHeld ?_ (hy := Or.inl ⟨by rfl, fun w' hS => (by have q0 := cell_of_blk (i := 0) hS.1 rfl; have q1 := cell_of_blk (i := 1) hS.1 rfl; have q2 := cell_of_blk (i := 2) hS.1 rfl; go_simp)⟩); simp only [Act.put, zq1, zq2, zq3]
      refine rd 1 fun K hK => ?_
      go_simp
      with_reducible refine (HFL.out _).mono ?_
      rintro e w5 ⟨rfl, hb5⟩
      have HB5 := Lib.hid (show Below W2.heap.size W2 w5 from (Below.refl W2.heap.size W2).drew.trans hb5)
      clear hb5
      refine hK.out _ _ (⟨below_blk HB5.out JX.out, below_blk HB5.out HBR2.out, (HB5.out.cell (p := (ad1.add k)) hls).trans s0⟩) (fun hHeld => ?_)
      clear hK K
      try simp only [Act.put, zq1, zq2, zq3]
      refine tk 2 114 (.bool true) hHeld ?_; simp only [Act.put, zq1, zq2, zq3]
      refine tk 3 115 (.pointer (some ⟨g, 1, none⟩)) hHeld ?_; simp only [Act.put, zq1, zq2, zq3]
      refine tk 4 116 (.slice (some ad1) n1 t.c) hHeld ?_ (hy := Or.inl ⟨by rfl, fun w' hS => (by have q := cell_of_blk (i := 1) hS.2.1 rfl; rw [htn.1, HA1.out] at q; go_simp)⟩); simp only [Act.put, zq1, zq2, zq3]
      refine tk 5 117 (.int .i64 (k : Int)) hHeld ?_; simp only [Act.put, zq1, zq2, zq3]
      refine tk 6 118 (.pointer (some (ad1.add k))) hHeld ?_; simp only [Act.put, zq1, zq2, zq3]
      refine tk 7 119 (.string s) hHeld ?_ (hy := Or.inl ⟨by rfl, fun w' hS => (by have q := hS.2.2; go_simp)⟩); simp only [Act.put, zq1, zq2, zq3]
      refine rd 8 fun K hK => ?_
      go_simp
      with_reducible refine (HNM.out _ (HSW.out _ HB5.out)).mono ?_
      rintro e w6 ⟨rfl, hb6⟩
      have HB6 := Lib.hid (show Below W2.heap.size W2 w6 from HB5.out.trans (hb6.mono HB5.out.size))
      clear hb6
      refine hK.out _ _ (⟨below_blk HB6.out JX.out, below_blk HB6.out HBR2.out, (HB6.out.cell (p := (ad1.add k)) hls).trans s0⟩) (fun hHeld => ?_)
      clear hK K
      try simp only [Act.put, zq1, zq2, zq3]
      refine tk 9 121 (.bool true) hHeld ?_; simp only [Act.put, zq1, zq2, zq3]
      refine tk 10 122 (.bool true) hHeld ?_; simp only [Act.put, zq1, zq2, zq3]
      refine tk 11 123 (.int .i64 (k : Int)) hHeld ?_; simp only [Act.put, zq1, zq2, zq3]
      refine tk 12 124 (.bool true) hHeld ?_; simp only [Act.put, zq1, zq2, zq3]
      refine tk 13 125 (.bool true) hHeld ?_; simp only [Act.put, zq1, zq2, zq3]
      refine tu 14 126 hHeld ?_; simp only [Act.put, zq1, zq2, zq3]
      refine tu 15 127 hHeld ?_; simp only [Act.put, zq1, zq2, zq3]
      refine tu 16 128 hHeld ?_; simp only [Act.put, zq1, zq2, zq3]
      refine tu 17 129 hHeld ?_; simp only [Act.put, zq1, zq2, zq3]
      refine tu 18 130 hHeld ?_; simp only [Act.put, zq1, zq2, zq3]
      refine tu 19 131 hHeld ?_; simp only [Act.put, zq1, zq2, zq3]
      refine tu 20 132 hHeld ?_; simp only [Act.put, zq1, zq2, zq3]
      refine tu 21 133 hHeld ?_; simp only [Act.put, zq1, zq2, zq3]
      refine tu 22 134 hHeld ?_; simp only [Act.put, zq1, zq2, zq3]
      refine tu 23 135 hHeld ?_; simp only [Act.put, zq1, zq2, zq3]
      refine tu 24 136 hHeld ?_; simp only [Act.put, zq1, zq2, zq3]
      refine tu 25 137 hHeld ?_; simp only [Act.put, zq1, zq2, zq3]
      refine tk 26 138 (.bool true) hHeld ?_; simp only [Act.put, zq1, zq2, zq3]
      refine tk 27 139 (.bool true) hHeld ?_; simp only [Act.put, zq1, zq2, zq3]
      refine rd 28 fun K hK => ?_
      go_simp
      with_reducible refine (tmust_ok _ _).mono ?_
      rintro e w7 ⟨rfl, rfl⟩
      refine hK.out _ _ (⟨below_blk HB6.out JX.out, below_blk HB6.out HBR2.out, (HB6.out.cell (p := (ad1.add k)) hls).trans s0⟩) (fun hHeld => ?_)
      clear hK K
      try simp only [Act.put, zq1, zq2, zq3]
      refine wpAnyH_done (by kernel_rfl) ?_ _
      go_wp2_with fail
      go_meet
      case rel => exact ⟨HPO, Lib.hid HB6.out⟩
     obtain ⟨k', rfl⟩ : ∃ k', k = k' + 1 := ⟨k - 1, by omega⟩
     obtain ⟨p, hp⟩ : ∃ p, t.ns[k']? = some p := ⟨_, List.getElem?_eq_getElem (by rw [htn.1]; omega)⟩
     obtain ⟨ad1', hA1', _, p0⟩ := (HIR.out.stay (JB.out.mono (by have := HX.out.bm_; have := blk_lt HX.out.many; omega))).name hp
     rw [HA1.out] at hA1'
     obtain rfl := Option.some.inj hA1'
     have s1 : W2.cell? ⟨ad1.block, ad1.off + (k' + 1), none⟩ = some (.string s) := by have := s0; unfold Addr.add at this; rwa [if_neg (by omega)] at this
     have hls1 : ad1.block < W2.heap.size := by rw [block_add'] at hls; exact hls
     have hb1 : (k' : Int) + 1 < (n1 : Int) := by omega
     have hb0 : 0 ≤ (k' : Int) + 1 := by omega
     have hlp : (ad1.add k').block < W2.heap.size := by rw [block_add']; have := JB.out.size; have := HX.out.bm_; have := blk_lt HX.out.many; omega
     have c3' : (((k' + 1 : Nat) : Int) == 0) = false := beq_eq_false_iff_ne.2 (by omega)
     have hk'' : (k' : Int) < n1 := by omega
     have c3'' : ¬ ((k' : Int) + 1 = 0) := by omega
     have hwk : IntKind.i64.wrap (k' : Int) = (k' : Int) := wrap_nat (by omega)
     cases c4 : Op.bytesLess p.toList s.toList
     ·have HPA := Lib.hid (fun w' hf => HB8.out w' hf (fun e => by
       have := (HPP.out.1 e).2.2 p (by omega) hp
       rw [c4] at this
       cases this))
      have ht := tri_no c4
      clear c3 c1 c2 hp hs
      go_wp2_with fail
      refine wp_region_held_drew (S := fun w' => w'.heap[g2]? = some (.cells #[.int .i64 x.kind, .slice x.A x.ns.length x.c, .slice x.A2 x.xs.length x.c2] 31 (0, 0)) ∧ w'.heap[g]? = some (.cells #[.int .i64 t.kind, .slice t.A t.ns.length t.c, .slice t.A2 t.xs.length t.c2] 31 (0, 0)) ∧ w'.cell? ⟨ad1.block, ad1.off + (k' + 1), none⟩ = some (.string s) ∧ w'.cell? (ad1.add k') = some (.string p)) (by kernel_rfl) (⟨JX.out, HBR2.out, s1, p0⟩) (fun hHeld => ?_)
      refine tk 0 112 (.agg #[.int .i64 x.kind, .slice x.A x.ns.length x.c, .slice x.A2 x.xs.length x.c2]) hHeld ?_ (hy := Or.inl ⟨by rfl, fun w' hS => (by have q0 := cell_of_blk (i := 0) hS.1 rfl; have q1 := cell_of_blk (i := 1) hS.1 rfl; have q2 := cell_of_blk (i := 2) hS.1 rfl; go_simp)⟩); simp only [Act.put, zq1, zq2, zq3]
      refine rd 1 fun K hK => ?_
      go_simp
      with_reducible refine (HFL.out _).mono ?_
      rintro e w5 ⟨rfl, hb5⟩
      have HB5 := Lib.hid (show Below W2.heap.size W2 w5 from (Below.refl W2.heap.size W2).drew.trans hb5)
      clear hb5
      refine hK.out _ _ (⟨below_blk HB5.out JX.out, below_blk HB5.out HBR2.out, (HB5.out.cell (p := ⟨ad1.block, ad1.off + (k' + 1), none⟩) hls1).trans s1, (HB5.out.cell hlp).trans p0⟩) (fun hHeld => ?_)
      clear hK K
      try simp only [Act.put, zq1, zq2, zq3]
      refine tk 2 114 (.bool true) hHeld ?_; simp only [Act.put, zq1, zq2, zq3]
      refine tk 3 115 (.pointer (some ⟨g, 1, none⟩)) hHeld ?_; simp only [Act.put, zq1, zq2, zq3]
      refine tk 4 116 (.slice (some ad1) n1 t.c) hHeld ?_ (hy := Or.inl ⟨by rfl, fun w' hS => (by have q := cell_of_blk (i := 1) hS.2.1 rfl; rw [htn.1, HA1.out] at q; go_simp)⟩); simp only [Act.put, zq1, zq2, zq3]
      refine tk 5 117 (.int .i64 ((k' + 1 : Nat) : Int)) hHeld ?_; simp only [Act.put, zq1, zq2, zq3]
      refine tk 6 118 (.pointer (some ⟨ad1.block, ad1.off + (k' + 1), none⟩)) hHeld ?_; simp only [Act.put, zq1, zq2, zq3]
      refine tk 7 119 (.string s) hHeld ?_ (hy := Or.inl ⟨by rfl, fun w' hS => (by have q := hS.2.2.1; go_simp)⟩); simp only [Act.put, zq1, zq2, zq3]
      refine rd 8 fun K hK => ?_
      go_simp
      with_reducible refine (HNM.out _ (HSW.out _ HB5.out)).mono ?_
      rintro e w6 ⟨rfl, hb6⟩
      have HB6 := Lib.hid (show Below W2.heap.size W2 w6 from HB5.out.trans (hb6.mono HB5.out.size))
      clear hb6
      refine hK.out _ _ (⟨below_blk HB6.out JX.out, below_blk HB6.out HBR2.out, (HB6.out.cell (p := ⟨ad1.block, ad1.off + (k' + 1), none⟩) hls1).trans s1, (HB6.out.cell hlp).trans p0⟩) (fun hHeld => ?_)
      clear hK K
      try simp only [Act.put, zq1, zq2, zq3]
      refine tk 9 121 (.bool true) hHeld ?_; simp only [Act.put, zq1, zq2, zq3]
      refine tk 10 122 (.bool true) hHeld ?_; simp only [Act.put, zq1, zq2, zq3]
      refine tk 11 123 (.int .i64 ((k' + 1 : Nat) : Int)) hHeld ?_; simp only [Act.put, zq1, zq2, zq3]
      refine tk 12 124 (.bool false) hHeld ?_; simp only [Act.put, zq1, zq2, zq3]
      refine tk 13 125 (.bool false) hHeld ?_; simp only [Act.put, zq1, zq2, zq3]
      refine tk 14 126 (.pointer (some ⟨g, 1, none⟩)) hHeld ?_; simp only [Act.put, zq1, zq2, zq3]
      refine tk 15 127 (.slice (some ad1) n1 t.c) hHeld ?_ (hy := Or.inl ⟨by rfl, fun w' hS => (by have q := cell_of_blk (i := 1) hS.2.1 rfl; rw [htn.1, HA1.out] at q; go_simp)⟩); simp only [Act.put, zq1, zq2, zq3]
      refine tk 16 128 (.int .i64 ((k' + 1 : Nat) : Int)) hHeld ?_; simp only [Act.put, zq1, zq2, zq3]
      refine tk 17 129 (.pointer (some ⟨ad1.block, ad1.off + (k' + 1), none⟩)) hHeld ?_; simp only [Act.put, zq1, zq2, zq3]
      refine tk 18 130 (.string s) hHeld ?_ (hy := Or.inl ⟨by rfl, fun w' hS => (by have q := hS.2.2.1; go_simp)⟩); simp only [Act.put, zq1, zq2, zq3]
      refine tk 19 131 (.pointer (some ⟨g, 1, none⟩)) hHeld ?_; simp only [Act.put, zq1, zq2, zq3]
      refine tk 20 132 (.slice (some ad1) n1 t.c) hHeld ?_ (hy := Or.inl ⟨by rfl, fun w' hS => (by have q := cell_of_blk (i := 1) hS.2.1 rfl; rw [htn.1, HA1.out] at q; go_simp)⟩); simp only [Act.put, zq1, zq2, zq3]
      refine tk 21 133 (.int .i64 ((k' + 1 : Nat) : Int)) hHeld ?_; simp only [Act.put, zq1, zq2, zq3]
      refine tk 22 134 (.int .i64 (k' : Int)) hHeld ?_; simp only [Act.put, zq1, zq2, zq3]
      refine tk 23 135 (.pointer (some (ad1.add k'))) hHeld ?_; simp only [Act.put, zq1, zq2, zq3]
      refine tk 24 136 (.string p) hHeld ?_ (hy := Or.inl ⟨by rfl, fun w' hS => (by have q := hS.2.2.2; go_simp)⟩); simp only [Act.put, zq1, zq2, zq3]
      refine tk 25 137 (.bool false) hHeld ?_ (hy := Or.inl ⟨by rfl, fun w' hS => (by go_simp; exact ht)⟩); simp only [Act.put, zq1, zq2, zq3]
      refine tk 26 138 (.bool false) hHeld ?_; simp only [Act.put, zq1, zq2, zq3]
      refine tk 27 139 (.bool false) hHeld ?_; simp only [Act.put, zq1, zq2, zq3]
      refine rd 28 fun K hK => ?_
      go_simp
      with_reducible refine (tmust_no _ _).mono ?_
      rintro e w7 ⟨rfl, rfl⟩
      exact ⟨rfl, HPA.out _ ((Fr.of_below JB.out [bm]).trans (Fr.of_below HB6.out [bm]) (by simp))⟩
     ·have HPO := Lib.hid (HPP.out.2 ⟨c1, c2, fun r h0 hr => by
       rw [show k' + 1 - 1 = k' from rfl, hp] at hr
       obtain rfl := Option.some.inj hr
       exact c4⟩)
      obtain ⟨ht1, ht2⟩ := tri_lt c4
      clear c3 c1 c2 hp hs
      go_wp2_with fail
      refine wp_region_held_drew (S := fun w' => w'.heap[g2]? = some (.cells #[.int .i64 x.kind, .slice x.A x.ns.length x.c, .slice x.A2 x.xs.length x.c2] 31 (0, 0)) ∧ w'.heap[g]? = some (.cells #[.int .i64 t.kind, .slice t.A t.ns.length t.c, .slice t.A2 t.xs.length t.c2] 31 (0, 0)) ∧ w'.cell? ⟨ad1.block, ad1.off + (k' + 1), none⟩ = some (.string s) ∧ w'.cell? (ad1.add k') = some (.string p)) (by kernel_rfl) (⟨JX.out, HBR2.out, s1, p0⟩) (fun hHeld => ?_)
      refine tk 0 112 (.agg #[.int .i64 x.kind, .slice x.A x.ns.length x.c, .slice x.A2 x.xs.length x.c2]) hHeld ?_ (hy := Or.inl ⟨by rfl, fun w' hS => (by have q0 := cell_of_blk (i := 0) hS.1 rfl; have q1 := cell_of_blk (i := 1) hS.1 rfl; have q2 := cell_of_blk (i := 2) hS.1 rfl; go_simp)⟩); simp only [Act.put, zq1, zq2, zq3]
      refine rd 1 fun K hK => ?_
      go_simp
      with_reducible refine (HFL.out _).mono ?_
      rintro e w5 ⟨rfl, hb5⟩
      have HB5 := Lib.hid (show Below W2.heap.size W2 w5 from (Below.refl W2.heap.size W2).drew.trans hb5)
      clear hb5
      refine hK.out _ _ (⟨below_blk HB5.out JX.out, below_blk HB5.out HBR2.out, (HB5.out.cell (p := ⟨ad1.block, ad1.off + (k' + 1), none⟩) hls1).trans s1, (HB5.out.cell hlp).trans p0⟩) (fun hHeld => ?_)
      clear hK K
      try simp only [Act.put, zq1, zq2, zq3]
      refine tk 2 114 (.bool true) hHeld ?_; simp only [Act.put, zq1, zq2, zq3]
      refine tk 3 115 (.pointer (some ⟨g, 1, none⟩)) hHeld ?_; simp only [Act.put, zq1, zq2, zq3]
      refine tk 4 116 (.slice (some ad1) n1 t.c) hHeld ?_ (hy := Or.inl ⟨by rfl, fun w' hS => (by have q := cell_of_blk (i := 1) hS.2.1 rfl; rw [htn.1, HA1.out] at q; go_simp)⟩); simp only [Act.put, zq1, zq2, zq3]
      refine tk 5 117 (.int .i64 ((k' + 1 : Nat) : Int)) hHeld ?_; simp only [Act.put, zq1, zq2, zq3]
      refine tk 6 118 (.pointer (some ⟨ad1.block, ad1.off + (k' + 1), none⟩)) hHeld ?_; simp only [Act.put, zq1, zq2, zq3]
      refine tk 7 119 (.string s) hHeld ?_ (hy := Or.inl ⟨by rfl, fun w' hS => (by have q := hS.2.2.1; go_simp)⟩); simp only [Act.put, zq1, zq2, zq3]
      refine rd 8 fun K hK => ?_
      go_simp
      with_reducible refine (HNM.out _ (HSW.out _ HB5.out)).mono ?_
      rintro e w6 ⟨rfl, hb6⟩
      have HB6 := Lib.hid (show Below W2.heap.size W2 w6 from HB5.out.trans (hb6.mono HB5.out.size))
      clear hb6
      refine hK.out _ _ (⟨below_blk HB6.out JX.out, below_blk HB6.out HBR2.out, (HB6.out.cell (p := ⟨ad1.block, ad1.off + (k' + 1), none⟩) hls1).trans s1, (HB6.out.cell hlp).trans p0⟩) (fun hHeld => ?_)
      clear hK K
      try simp only [Act.put, zq1, zq2, zq3]
      refine tk 9 121 (.bool true) hHeld ?_; simp only [Act.put, zq1, zq2, zq3]
      refine tk 10 122 (.bool true) hHeld ?_; simp only [Act.put, zq1, zq2, zq3]
      refine tk 11 123 (.int .i64 ((k' + 1 : Nat) : Int)) hHeld ?_; simp only [Act.put, zq1, zq2, zq3]
      refine tk 12 124 (.bool false) hHeld ?_; simp only [Act.put, zq1, zq2, zq3]
      refine tk 13 125 (.bool false) hHeld ?_; simp only [Act.put, zq1, zq2, zq3]
      refine tk 14 126 (.pointer (some ⟨g, 1, none⟩)) hHeld ?_; simp only [Act.put, zq1, zq2, zq3]
      refine tk 15 127 (.slice (some ad1) n1 t.c) hHeld ?_ (hy := Or.inl ⟨by rfl, fun w' hS => (by have q := cell_of_blk (i := 1) hS.2.1 rfl; rw [htn.1, HA1.out] at q; go_simp)⟩); simp only [Act.put, zq1, zq2, zq3]
      refine tk 16 128 (.int .i64 ((k' + 1 : Nat) : Int)) hHeld ?_; simp only [Act.put, zq1, zq2, zq3]
      refine tk 17 129 (.pointer (some ⟨ad1.block, ad1.off + (k' + 1), none⟩)) hHeld ?_; simp only [Act.put, zq1, zq2, zq3]
      refine tk 18 130 (.string s) hHeld ?_ (hy := Or.inl ⟨by rfl, fun w' hS => (by have q := hS.2.2.1; go_simp)⟩); simp only [Act.put, zq1, zq2, zq3]
      refine tk 19 131 (.pointer (some ⟨g, 1, none⟩)) hHeld ?_; simp only [Act.put, zq1, zq2, zq3]
      refine tk 20 132 (.slice (some ad1) n1 t.c) hHeld ?_ (hy := Or.inl ⟨by rfl, fun w' hS => (by have q := cell_of_blk (i := 1) hS.2.1 rfl; rw [htn.1, HA1.out] at q; go_simp)⟩); simp only [Act.put, zq1, zq2, zq3]
      refine tk 21 133 (.int .i64 ((k' + 1 : Nat) : Int)) hHeld ?_; simp only [Act.put, zq1, zq2, zq3]
      refine tk 22 134 (.int .i64 (k' : Int)) hHeld ?_; simp only [Act.put, zq1, zq2, zq3]
      refine tk 23 135 (.pointer (some (ad1.add k'))) hHeld ?_; simp only [Act.put, zq1, zq2, zq3]
      refine tk 24 136 (.string p) hHeld ?_ (hy := Or.inl ⟨by rfl, fun w' hS => (by have q := hS.2.2.2; go_simp)⟩); simp only [Act.put, zq1, zq2, zq3]
      refine tk 25 137 (.bool true) hHeld ?_; simp only [Act.put, zq1, zq2, zq3]
      refine tk 26 138 (.bool true) hHeld ?_; simp only [Act.put, zq1, zq2, zq3]
      refine tk 27 139 (.bool true) hHeld ?_; simp only [Act.put, zq1, zq2, zq3]
      refine rd 28 fun K hK => ?_
      go_simp
      with_reducible refine (tmust_ok _ _).mono ?_
      rintro e w7 ⟨rfl, rfl⟩
      refine hK.out _ _ (⟨below_blk HB6.out JX.out, below_blk HB6.out HBR2.out, (HB6.out.cell (p := ⟨ad1.block, ad1.off + (k' + 1), none⟩) hls1).trans s1, (HB6.out.cell hlp).trans p0⟩) (fun hHeld => ?_)
      clear hK K
      try simp only [Act.put, zq1, zq2, zq3]
      refine wpAnyH_done (by kernel_rfl) ?_ _
      go_wp2_with fail
      go_meet
      case rel => exact ⟨HPO, Lib.hid HB6.out⟩
    ·have e7 : (K == 7) = false := beq_eq_false_iff_ne.2 hK.1
     have e8 : (K == 8) = false := beq_eq_false_iff_ne.2 hK.2
     have HPO := Lib.hid (show PartOk (strip t).kind (strip t).names (strip t).args k (strip x) from by
      rw [strip_kind, htn.2.2]
      exact ⟨fun e => (hK.1 e).elim, fun e => (hK.2 e).elim⟩)
     clear hK
     go_wp2_with fail
     go_meet
     case rel => exact ⟨HPO, Lib.hid (Below.refl _ _)⟩
   case rest =>
    obtain ⟨HPO, HBW⟩ := hcut
    have zX := below_blk HBW.out JX.out
    have z0 := cell_of_blk (i := 0) zX rfl
    have z1 := cell_of_blk (i := 1) zX rfl
    have z2 := cell_of_blk (i := 2) zX rfl
    have lz := blk_lt zX
    have hbw : Below wr.heap.size wr wc := JB.out.trans (HBW.out.mono JB.out.size)
    have hxw : Boxes wc B bm bk M := ⟨below_blk hbw HX.out.many, below_blk hbw HX.out.look, HX.out.bm_, HX.out.bk_⟩
    have q0 := cell_of_blk (i := 0) hxw.look rfl
    have lq := blk_lt hxw.look
    have hBc : Below B wr wc := hbw.mono (by have := HX.out.bm_; have := blk_lt HX.out.many; omega)
    have hcall := HIH.out x (List.mem_of_getElem? HXX.out) (deep + 1) M wc B bm bk ((HIR.out.part HXX.out).stay hBc) ((KS.out.on HBel.out).on hBc) hxw (by omega) HM1.out
    unfold LTy.val at hcall
    have e1 : ((deep + 1 : Nat) : Int) = (deep : Int) + 1 := by omega
    rw [e1] at hcall
    have hcf : ∀ args W, (callFunc 110 args).run Tryz.prog W = .ok (.enter 110 args) W := fun _ _ => rfl
    have HCALL := Lib.hid hcall
    have HBWR := Lib.hid hbw
    clear hcall zX hbw hxw hBc e1 JX lgr hadr hll
    go_wp2_with fail
    refine HCALL.out.mono ?_
    rintro e w5 ⟨hF5, ⟨hc5, hn5, rfl, hm5⟩ | ⟨hno, rfl⟩⟩
    ·have HF5 := Lib.hid (show Fr [bm] wr w5 from (Fr.of_below HBWR.out [bm]).trans hF5 (by simp))
     have hmle : M + nodes (strip x) ≤ 10000 := hn5
     go_wp2_with fail
     go_roundw
     case rel =>
      refine ⟨k + 1, M + nodes (strip x), by omega, by go_num, Lib.hid (HX.out.fr HF5.out hm5), Lib.hid ?_, Lib.hid hn5, Lib.hid fun j a hj ha => ?_, Lib.hid (HFr.out.trans HF5.out (by simp))⟩
      ·rw [nodesL_take _ _ _ HM1b.out, HM.out]; omega
      ·rcases Nat.lt_or_ge j k with h1 | h1
       ·exact HP.out j a h1 ha
       ·obtain rfl : j = k := by omega
        rw [HM1b.out] at ha
        obtain rfl := Option.some.inj ha
        rw [show 51 - (deep + 1) = 50 - deep by omega] at hc5
        exact ⟨HPO.out, hc5⟩
     case measure => simp [intOf]; omega
    ·have HPA := Lib.hid (HBAD.out w5 (((Fr.of_below HBWR.out [bm]).trans hF5 (by simp))) (fun e => hno ⟨by rw [show 51 - (deep + 1) = 50 - deep by omega]; exact e.2.1, e.2.2⟩))
     go_wp2
     exact ⟨rfl, HPA.out⟩
 case first =>
  have hbad : ∀ w', Fr [bm] w w' → ¬ HeadOk K n1 n2 → LookPost t deep m bm w (.panicked (wrongV 0 90)) w' := fun w' hf hh => look_no hf (fun e => hh (by obtain ⟨e1, e2, e3⟩ := HE.out; have := chk_head e.1; rwa [e1, e2, e3] at this))
  have HBAD := Lib.hid hbad
  clear hbad
  rcases head_cases K with hk | hk | hk | hk | hk | hk | hk | hk | hk | hk | hk
  ·have HK := Lib.hid hk
   have e0 : (K == 0) = true := beq_iff_eq.2 (by omega)
   clear hk
   by_cases hz : n1 = 0 ∧ n2 = 0
   ·have hs : ((n1 : Int) + (n2 : Int) == 0) = true := beq_iff_eq.2 (by omega)
    have HH := Lib.hid (show HeadOk K n1 n2 from .inl ⟨by have := HK.out; omega, by have := HK.out; omega, hz.1, hz.2⟩)
    clear hz
    go_wp2_with fail
    with_reducible refine (tmust_ok _ _).mono ?_
    rintro e w1 ⟨rfl, rfl⟩
    go_wp2_with fail
    go_meet
    case rel => exact ⟨rfl, HH, rfl⟩
   ·have hs : ((n1 : Int) + (n2 : Int) == 0) = false := beq_eq_false_iff_ne.2 (by omega)
    have HH := Lib.hid (show ¬ HeadOk K n1 n2 from fun e => by have := HK.out; rcases e with e | e | e | e <;> omega)
    clear hz
    go_wp2_with fail
    with_reducible refine (tmust_no _ _).mono ?_
    rintro e w1 ⟨rfl, rfl⟩
    go_wp2
    exact ⟨rfl, HBAD.out _ (by first | exact KF.out | exact KF.out.drew) HH.out⟩
  ·have HK := Lib.hid hk
   have e0 : (K == 0) = false := beq_eq_false_iff_ne.2 (by omega)
   have e1 : (K == 1) = true := beq_iff_eq.2 (by omega)
   clear hk
   by_cases hz : n1 = 0 ∧ n2 = 0
   ·have hs : ((n1 : Int) + (n2 : Int) == 0) = true := beq_iff_eq.2 (by omega)
    have HH := Lib.hid (show HeadOk K n1 n2 from .inl ⟨by have := HK.out; omega, by have := HK.out; omega, hz.1, hz.2⟩)
    clear hz
    go_wp2_with fail
    with_reducible refine (tmust_ok _ _).mono ?_
    rintro e w1 ⟨rfl, rfl⟩
    go_wp2_with fail
    go_meet
    case rel => exact ⟨rfl, HH, rfl⟩
   ·have hs : ((n1 : Int) + (n2 : Int) == 0) = false := beq_eq_false_iff_ne.2 (by omega)
    have HH := Lib.hid (show ¬ HeadOk K n1 n2 from fun e => by have := HK.out; rcases e with e | e | e | e <;> omega)
    clear hz
    go_wp2_with fail
    with_reducible refine (tmust_no _ _).mono ?_
    rintro e w1 ⟨rfl, rfl⟩
    go_wp2
    exact ⟨rfl, HBAD.out _ (by first | exact KF.out | exact KF.out.drew) HH.out⟩
  ·have HK := Lib.hid hk
   have e0 : (K == 0) = false := beq_eq_false_iff_ne.2 (by omega)
   have e1 : (K == 1) = false := beq_eq_false_iff_ne.2 (by omega)
   have e2 : (K == 2) = true := beq_iff_eq.2 (by omega)
   clear hk
   by_cases hz : n1 = 0 ∧ n2 = 0
   ·have hs : ((n1 : Int) + (n2 : Int) == 0) = true := beq_iff_eq.2 (by omega)
    have HH := Lib.hid (show HeadOk K n1 n2 from .inl ⟨by have := HK.out; omega, by have := HK.out; omega, hz.1, hz.2⟩)
    clear hz
    go_wp2_with fail
    with_reducible refine (tmust_ok _ _).mono ?_
    rintro e w1 ⟨rfl, rfl⟩
    go_wp2_with fail
    go_meet
    case rel => exact ⟨rfl, HH, rfl⟩
   ·have hs : ((n1 : Int) + (n2 : Int) == 0) = false := beq_eq_false_iff_ne.2 (by omega)
    have HH := Lib.hid (show ¬ HeadOk K n1 n2 from fun e => by have := HK.out; rcases e with e | e | e | e <;> omega)
    clear hz
    go_wp2_with fail
    with_reducible refine (tmust_no _ _).mono ?_
    rintro e w1 ⟨rfl, rfl⟩
    go_wp2
    exact ⟨rfl, HBAD.out _ (by first | exact KF.out | exact KF.out.drew) HH.out⟩
  ·have HK := Lib.hid hk
   have e0 : (K == 0) = false := beq_eq_false_iff_ne.2 (by omega)
   have e1 : (K == 1) = false := beq_eq_false_iff_ne.2 (by omega)
   have e2 : (K == 2) = false := beq_eq_false_iff_ne.2 (by omega)
   have e3 : (K == 3) = true := beq_iff_eq.2 (by omega)
   clear hk
   by_cases hz : n1 = 0 ∧ n2 = 0
   ·have hs : ((n1 : Int) + (n2 : Int) == 0) = true := beq_iff_eq.2 (by omega)
    have HH := Lib.hid (show HeadOk K n1 n2 from .inl ⟨by have := HK.out; omega, by have := HK.out; omega, hz.1, hz.2⟩)
    clear hz
    go_wp2_with fail
    with_reducible refine (tmust_ok _ _).mono ?_
    rintro e w1 ⟨rfl, rfl⟩
    go_wp2_with fail
    go_meet
    case rel => exact ⟨rfl, HH, rfl⟩
   ·have hs : ((n1 : Int) + (n2 : Int) == 0) = false := beq_eq_false_iff_ne.2 (by omega)
    have HH := Lib.hid (show ¬ HeadOk K n1 n2 from fun e => by have := HK.out; rcases e with e | e | e | e <;> omega)
    clear hz
    go_wp2_with fail
    with_reducible refine (tmust_no _ _).mono ?_
    rintro e w1 ⟨rfl, rfl⟩
    go_wp2
    exact ⟨rfl, HBAD.out _ (by first | exact KF.out | exact KF.out.drew) HH.out⟩
  ·have HK := Lib.hid hk
   have e0 : (K == 0) = false := beq_eq_false_iff_ne.2 (by omega)
   have e1 : (K == 1) = false := beq_eq_false_iff_ne.2 (by omega)
   have e2 : (K == 2) = false := beq_eq_false_iff_ne.2 (by omega)
   have e3 : (K == 3) = false := beq_eq_false_iff_ne.2 (by omega)
   have e4 : (K == 4) = true := beq_iff_eq.2 (by omega)
   clear hk
   by_cases hz : n1 = 0 ∧ n2 = 0
   ·have hs : ((n1 : Int) + (n2 : Int) == 0) = true := beq_iff_eq.2 (by omega)
    have HH := Lib.hid (show HeadOk K n1 n2 from .inl ⟨by have := HK.out; omega, by have := HK.out; omega, hz.1, hz.2⟩)
    clear hz
    go_wp2_with fail
    with_reducible refine (tmust_ok _ _).mono ?_
    rintro e w1 ⟨rfl, rfl⟩
    go_wp2_with fail
    go_meet
    case rel => exact ⟨rfl, HH, rfl⟩
   ·have hs : ((n1 : Int) + (n2 : Int) == 0) = false := beq_eq_false_iff_ne.2 (by omega)
    have HH := Lib.hid (show ¬ HeadOk K n1 n2 from fun e => by have := HK.out; rcases e with e | e | e | e <;> omega)
    clear hz
    go_wp2_with fail
    with_reducible refine (tmust_no _ _).mono ?_
    rintro e w1 ⟨rfl, rfl⟩
    go_wp2
    exact ⟨rfl, HBAD.out _ (by first | exact KF.out | exact KF.out.drew) HH.out⟩
  ·have HK := Lib.hid hk
   have e0 : (K == 0) = false := beq_eq_false_iff_ne.2 (by omega)
   have e1 : (K == 1) = false := beq_eq_false_iff_ne.2 (by omega)
   have e2 : (K == 2) = false := beq_eq_false_iff_ne.2 (by omega)
   have e3 : (K == 3) = false := beq_eq_false_iff_ne.2 (by omega)
   have e4 : (K == 4) = false := beq_eq_false_iff_ne.2 (by omega)
   have e5 : (K == 5) = true := beq_iff_eq.2 (by omega)
   clear hk
   by_cases hz : n1 = 0 ∧ n2 = 0
   ·have hs : ((n1 : Int) + (n2 : Int) == 0) = true := beq_iff_eq.2 (by omega)
    have HH := Lib.hid (show HeadOk K n1 n2 from .inl ⟨by have := HK.out; omega, by have := HK.out; omega, hz.1, hz.2⟩)
    clear hz
    go_wp2_with fail
    with_reducible refine (tmust_ok _ _).mono ?_
    rintro e w1 ⟨rfl, rfl⟩
    go_wp2_with fail
    go_meet
    case rel => exact ⟨rfl, HH, rfl⟩
   ·have hs : ((n1 : Int) + (n2 : Int) == 0) = false := beq_eq_false_iff_ne.2 (by omega)
    have HH := Lib.hid (show ¬ HeadOk K n1 n2 from fun e => by have := HK.out; rcases e with e | e | e | e <;> omega)
    clear hz
    go_wp2_with fail
    with_reducible refine (tmust_no _ _).mono ?_
    rintro e w1 ⟨rfl, rfl⟩
    go_wp2
    exact ⟨rfl, HBAD.out _ (by first | exact KF.out | exact KF.out.drew) HH.out⟩
  ·have HK := Lib.hid hk
   have e0 : (K == 0) = false := beq_eq_false_iff_ne.2 (by omega)
   have e1 : (K == 1) = false := beq_eq_false_iff_ne.2 (by omega)
   have e2 : (K == 2) = false := beq_eq_false_iff_ne.2 (by omega)
   have e3 : (K == 3) = false := beq_eq_false_iff_ne.2 (by omega)
   have e4 : (K == 4) = false := beq_eq_false_iff_ne.2 (by omega)
   have e5 : (K == 5) = false := beq_eq_false_iff_ne.2 (by omega)
   have e6 : (K == 6) = true := beq_iff_eq.2 (by omega)
   clear hk
   by_cases hz : n1 = 0 ∧ n2 = 0
   ·have hs : ((n1 : Int) + (n2 : Int) == 0) = true := beq_iff_eq.2 (by omega)
    have HH := Lib.hid (show HeadOk K n1 n2 from .inl ⟨by have := HK.out; omega, by have := HK.out; omega, hz.1, hz.2⟩)
    clear hz
    go_wp2_with fail
    with_reducible refine (tmust_ok _ _).mono ?_
    rintro e w1 ⟨rfl, rfl⟩
    go_wp2_with fail
    go_meet
    case rel => exact ⟨rfl, HH, rfl⟩
   ·have hs : ((n1 : Int) + (n2 : Int) == 0) = false := beq_eq_false_iff_ne.2 (by omega)
    have HH := Lib.hid (show ¬ HeadOk K n1 n2 from fun e => by have := HK.out; rcases e with e | e | e | e <;> omega)
    clear hz
    go_wp2_with fail
    with_reducible refine (tmust_no _ _).mono ?_
    rintro e w1 ⟨rfl, rfl⟩
    go_wp2
    exact ⟨rfl, HBAD.out _ (by first | exact KF.out | exact KF.out.drew) HH.out⟩
  ·have HK := Lib.hid hk
   have e0 : (K == 0) = false := beq_eq_false_iff_ne.2 (by omega)
   have e1 : (K == 1) = false := beq_eq_false_iff_ne.2 (by omega)
   have e2 : (K == 2) = false := beq_eq_false_iff_ne.2 (by omega)
   have e3 : (K == 3) = false := beq_eq_false_iff_ne.2 (by omega)
   have e4 : (K == 4) = false := beq_eq_false_iff_ne.2 (by omega)
   have e5 : (K == 5) = false := beq_eq_false_iff_ne.2 (by omega)
   have e6 : (K == 6) = false := beq_eq_false_iff_ne.2 (by omega)
   have e7 : (K == 7) = true := beq_iff_eq.2 (by omega)
   clear hk
   by_cases hz0 : n1 = 0
   case neg =>
    have hs0 : ((n1 : Int) == 0) = false := beq_eq_false_iff_ne.2 (by omega)
    have HH := Lib.hid (show ¬ HeadOk K n1 n2 from fun e => by have := HK.out; rcases e with e | e | e | e <;> omega)
    clear hz0
    go_wp2_with fail
    with_reducible refine (tmust_no _ _).mono ?_
    rintro e w1 ⟨rfl, rfl⟩
    go_wp2
    exact ⟨rfl, HBAD.out _ (by first | exact KF.out | exact KF.out.drew) HH.out⟩
   have hs0 : ((n1 : Int) == 0) = true := beq_iff_eq.2 (by omega)
   by_cases hz1 : 1 < n2
   case neg =>
    have hs1 : decide (1 < (n2 : Int)) = false := decide_eq_false (by omega)
    have HH := Lib.hid (show ¬ HeadOk K n1 n2 from fun e => by have := HK.out; rcases e with e | e | e | e <;> omega)
    clear hz1 hz0
    go_wp2_with fail
    with_reducible refine (tmust_no _ _).mono ?_
    rintro e w1 ⟨rfl, rfl⟩
    go_wp2
    exact ⟨rfl, HBAD.out _ (by first | exact KF.out | exact KF.out.drew) HH.out⟩
   have hs1 : decide (1 < (n2 : Int)) = true := decide_eq_true (by omega)
   have HH := Lib.hid (show HeadOk K n1 n2 from .inr (.inl ⟨HK.out, hz0, hz1⟩))
   clear hz0 hz1
   go_wp2_with fail
   with_reducible refine (tmust_ok _ _).mono ?_
   rintro e w1 ⟨rfl, rfl⟩
   go_wp2_with fail
   go_meet
   case rel => exact ⟨rfl, HH, rfl⟩
  ·have HK := Lib.hid hk
   have e0 : (K == 0) = false := beq_eq_false_iff_ne.2 (by omega)
   have e1 : (K == 1) = false := beq_eq_false_iff_ne.2 (by omega)
   have e2 : (K == 2) = false := beq_eq_false_iff_ne.2 (by omega)
   have e3 : (K == 3) = false := beq_eq_false_iff_ne.2 (by omega)
   have e4 : (K == 4) = false := beq_eq_false_iff_ne.2 (by omega)
   have e5 : (K == 5) = false := beq_eq_false_iff_ne.2 (by omega)
   have e6 : (K == 6) = false := beq_eq_false_iff_ne.2 (by omega)
   have e7 : (K == 7) = false := beq_eq_false_iff_ne.2 (by omega)
   have e8 : (K == 8) = true := beq_iff_eq.2 (by omega)
   clear hk
   by_cases hz0 : n1 = n2
   case neg =>
    have hs0 : ((n1 : Int) == (n2 : Int)) = false := beq_eq_false_iff_ne.2 (by omega)
    have HH := Lib.hid (show ¬ HeadOk K n1 n2 from fun e => by have := HK.out; rcases e with e | e | e | e <;> omega)
    clear hz0
    go_wp2_with fail
    with_reducible refine (tmust_no _ _).mono ?_
    rintro e w1 ⟨rfl, rfl⟩
    go_wp2
    exact ⟨rfl, HBAD.out _ (by first | exact KF.out | exact KF.out.drew) HH.out⟩
   have hs0 : ((n1 : Int) == (n2 : Int)) = true := beq_iff_eq.2 (by omega)
   have HH := Lib.hid (show HeadOk K n1 n2 from .inr (.inr (.inl ⟨HK.out, hz0⟩)))
   clear hz0
   go_wp2_with fail
   with_reducible refine (tmust_ok _ _).mono ?_
   rintro e w1 ⟨rfl, rfl⟩
   go_wp2_with fail
   go_meet
   case rel => exact ⟨rfl, HH, rfl⟩
  ·have HK := Lib.hid hk
   have e0 : (K == 0) = false := beq_eq_false_iff_ne.2 (by omega)
   have e1 : (K == 1) = false := beq_eq_false_iff_ne.2 (by omega)
   have e2 : (K == 2) = false := beq_eq_false_iff_ne.2 (by omega)
   have e3 : (K == 3) = false := beq_eq_false_iff_ne.2 (by omega)
   have e4 : (K == 4) = false := beq_eq_false_iff_ne.2 (by omega)
   have e5 : (K == 5) = false := beq_eq_false_iff_ne.2 (by omega)
   have e6 : (K == 6) = false := beq_eq_false_iff_ne.2 (by omega)
   have e7 : (K == 7) = false := beq_eq_false_iff_ne.2 (by omega)
   have e8 : (K == 8) = false := beq_eq_false_iff_ne.2 (by omega)
   have e9 : (K == 9) = true := beq_iff_eq.2 (by omega)
   clear hk
   by_cases hz0 : n1 = 0
   case neg =>
    have hs0 : ((n1 : Int) == 0) = false := beq_eq_false_iff_ne.2 (by omega)
    have HH := Lib.hid (show ¬ HeadOk K n1 n2 from fun e => by have := HK.out; rcases e with e | e | e | e <;> omega)
    clear hz0
    go_wp2_with fail
    with_reducible refine (tmust_no _ _).mono ?_
    rintro e w1 ⟨rfl, rfl⟩
    go_wp2
    exact ⟨rfl, HBAD.out _ (by first | exact KF.out | exact KF.out.drew) HH.out⟩
   have hs0 : ((n1 : Int) == 0) = true := beq_iff_eq.2 (by omega)
   by_cases hz1 : 0 < n2
   case neg =>
    have hs1 : decide (0 < (n2 : Int)) = false := decide_eq_false (by omega)
    have hs2 : decide (0 < n2) = false := decide_eq_false (by omega)
    have HH := Lib.hid (show ¬ HeadOk K n1 n2 from fun e => by have := HK.out; rcases e with e | e | e | e <;> omega)
    clear hz1 hz0
    go_wp2_with fail
    with_reducible refine (tmust_no _ _).mono ?_
    rintro e w1 ⟨rfl, rfl⟩
    go_wp2
    exact ⟨rfl, HBAD.out _ (by first | exact KF.out | exact KF.out.drew) HH.out⟩
   have hs1 : decide (0 < (n2 : Int)) = true := decide_eq_true (by omega)
   have hs2 : decide (0 < n2) = true := decide_eq_true (by omega)
   have HH := Lib.hid (show HeadOk K n1 n2 from .inr (.inr (.inr ⟨HK.out, hz0, hz1⟩)))
   clear hz0 hz1
   go_wp2_with fail
   with_reducible refine (tmust_ok _ _).mono ?_
   rintro e w1 ⟨rfl, rfl⟩
   go_wp2_with fail
   go_meet
   case rel => exact ⟨rfl, HH, rfl⟩
  ·have HK := Lib.hid hk
   have e0 : (K == 0) = false := beq_eq_false_iff_ne.2 (by omega)
   have e1 : (K == 1) = false := beq_eq_false_iff_ne.2 (by omega)
   have e2 : (K == 2) = false := beq_eq_false_iff_ne.2 (by omega)
   have e3 : (K == 3) = false := beq_eq_false_iff_ne.2 (by omega)
   have e4 : (K == 4) = false := beq_eq_false_iff_ne.2 (by omega)
   have e5 : (K == 5) = false := beq_eq_false_iff_ne.2 (by omega)
   have e6 : (K == 6) = false := beq_eq_false_iff_ne.2 (by omega)
   have e7 : (K == 7) = false := beq_eq_false_iff_ne.2 (by omega)
   have e8 : (K == 8) = false := beq_eq_false_iff_ne.2 (by omega)
   have e9 : (K == 9) = false := beq_eq_false_iff_ne.2 (by omega)
   clear hk
   have HH := Lib.hid (show ¬ HeadOk K n1 n2 from fun e => by have := HK.out; rcases e with e | e | e | e <;> omega)
   go_wp2_with fail
   with_reducible refine (tmust_no _ _).mono ?_
   rintro e w1 ⟨rfl, rfl⟩
   go_wp2
   exact ⟨rfl, HBAD.out _ (by first | exact KF.out | exact KF.out.drew) HH.out⟩
end Go.Proofs.YtilcofpceadpbaaGreatDoor
