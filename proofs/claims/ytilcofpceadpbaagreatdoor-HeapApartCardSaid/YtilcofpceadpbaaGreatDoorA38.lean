/-
 HeapApart: what is put into one table, and cast, changes no other one.
-/
import Derived.Test.YtilcofpceadpbaaGreatDoorCards
import Derived.Test.YtilcofpceadpbaaGreatDoorTie
import Derived.Test.YtilcofpceadpbaaGreatDoorA01
import Derived.Test.YtilcofpceadpbaaGreatDoorA02
import Derived.Test.YtilcofpceadpbaaGreatDoorA03
import Derived.Test.YtilcofpceadpbaaGreatDoorA18
import Derived.Test.YtilcofpceadpbaaGreatDoorA29
import Derived.Test.YtilcofpceadpbaaGreatDoorA37
import Derived.Laws.RangeString
import Derived.Laws.RangeAny
import Derived.Lib.Strings
import Derived.Lib.SmallJoins
import Derived.Lib.LaidTab
import Derived.Lib.ItoaLen
import Derived.LaidMore
import Derived.Lay
import Derived.OpenShut
import Derived.Stop.Joined
import Derived.Stop.LaidErr
import Derived.Deep.DeepHandedRow
import Derived.HandedShaped
import Derived.SevenTiedAt
set_option linter.unusedVariables false
set_option linter.unusedSimpArgs false
set_option maxHeartbeats 64000000
namespace Go.Proofs.YtilcofpceadpbaaGreatDoor
open Go.ChangeShapes Go.WideShapes Go.ChangeAt Go.RowKit





theorem below_grow {B : Nat} {w w1 : World} (h : Below B w w1) (hB : B ≤ w1.heap.size) (os : Array Obj) : Below B w (Sort.grow w1 os) := by
 refine ⟨h.os, h.tape, h.output, ?_, fun b hb => ?_⟩
 ·have := h.size
  show w.heap.size ≤ (w1.heap ++ os).size
  simp
  omega
 ·show (w1.heap ++ os)[b]? = _
  rw [Array.getElem?_append_left (by omega)]
  exact h.block b hb
theorem g_pow10 : Tryz.prog.globalNamed "internal/strconv.uint64pow10" = some 0 := by kernel_rfl
def Tab (w : World) : Prop := Lib.TabIs Tryz.prog w "internal/strconv.uint64pow10" .u64 Lib.pow10Tab
theorem Tab.below {w w' : World} (h : Tab w) (hb : Below w.heap.size w w') : Tab w' := Joins.tab_stays g_pow10 h hb (Nat.le_refl _)
def numText (n : Int) : ByteArray := ⟨(Lib.itoa n).toArray⟩
theorem rshow_any (n : Int) (w : World) (h0 : -9223372036854775808 ≤ n) (h1 : n ≤ 9223372036854775807) (ht : Tab w) : Calls Tryz.prog 79 #[.int .i64 n] w (RetB (.string (numText n)) w) := by
 go_enter Tryz.func79, Tryz.ntmps79
 go_wp2_with (go_at_call 106; refine (Tryz.strconv_FormatInt_10 n h0 h1 _ ht).mono ?_; rintro e w' ⟨rfl, k, os, rfl⟩)
 go_ret
 exact ⟨rfl, below_grow (show Below _ w (w.drewN k) from ⟨rfl, rfl, rfl, Nat.le_refl _, fun _ _ => rfl⟩) (Nat.le_refl _) _⟩
end Go.Proofs.YtilcofpceadpbaaGreatDoor
namespace Go.Proofs.YtilcofpceadpbaaGreatDoor
open Go.ChangeShapes Go.WideShapes Go.ChangeAt Go.RowKit Go.Maps

theorem rtype_any (v : VV) (w : World) : Calls Tryz.prog 80 #[.agg (vvCells v)] w (RetB (.string (kindS v.kind)) w) := by
 obtain ⟨k, n, s, l⟩ := v
 unfold vvCells
 show Calls _ _ _ _ (RetB (.string (kindS k)) w)
 have hk := fun w => rkind_any k w
 generalize kindS k = K at hk
 go_enter Tryz.func80, Tryz.ntmps80
 go_wp2_with fail
 refine (hk _).mono ?_
 rintro e w1 ⟨rfl, rfl⟩
 go_wp2
 go_ret
 exact ⟨rfl, (Below.refl _ _).alloc (Nat.le_refl _) _⟩
def showV (v : VV) : ByteArray := if v.kind = 2 then numText v.n else if v.kind = 3 then v.s else if v.kind = 1 then (if v.n = 0 then ⟨#[102, 97, 108, 115, 101]⟩ else ⟨#[116, 114, 117, 101]⟩) else kindS v.kind
set_option maxRecDepth 100000 in
theorem rvshow_any (v : VV) (w : World) (h0 : -9223372036854775808 ≤ v.n) (h1 : v.n ≤ 9223372036854775807) (ht : Tab w) : Calls Tryz.prog 41 #[.agg (vvCells v)] w (RetB (.string (showV v)) w) := by
 obtain ⟨k, n, s, l⟩ := v
 have hn := fun w (h : Tab w) => rshow_any n w h0 h1 h
 have hk := fun w => rtype_any ⟨k, n, s, l⟩ w
 clear h0 h1
 unfold vvCells at hk ⊢
 have HB0 : Hid (Below w.heap.size w (w.alloc (.cells #[.int .i64 k, .int .i64 n, .string s, .int .u64 (l : Int)] 26))) := Lib.hid ((Below.refl _ _).alloc (Nat.le_refl _) _)
 have HT := Lib.hid (ht.below HB0.out)
 clear ht
 by_cases k2 : k = 2
 ·subst k2
  show Calls _ _ _ _ (RetB (.string (numText n)) w)
  generalize numText n = T at hn
  go_enter Tryz.func41, Tryz.ntmps41
  go_wp2_with fail
  refine (hn _ HT.out).mono ?_
  rintro e w1 ⟨rfl, hb1⟩
  go_wp2
  go_ret
  exact ⟨rfl, HB0.out.trans (hb1.mono (by simp))⟩
 by_cases k3 : k = 3
 ·subst k3
  show Calls _ _ _ _ (RetB (.string s) w)
  go_enter Tryz.func41, Tryz.ntmps41
  go_wp2
  go_ret
  exact ⟨rfl, HB0.out⟩
 by_cases k1 : k = 1
 ·subst k1
  by_cases n0 : n = 0
  ·subst n0
   show Calls _ _ _ _ (RetB (.string ⟨#[102, 97, 108, 115, 101]⟩) w)
   go_enter Tryz.func41, Tryz.ntmps41
   go_wp2
   go_ret
   exact ⟨rfl, HB0.out⟩
  ·have e : showV ⟨1, n, s, l⟩ = ⟨#[116, 114, 117, 101]⟩ := by unfold showV; simp [n0]
   rw [e]
   clear e
   go_enter Tryz.func41, Tryz.ntmps41
   go_wp2
   go_ret
   exact ⟨rfl, HB0.out⟩
 ·have e : showV ⟨k, n, s, l⟩ = kindS k := by unfold showV; simp [k1, k2, k3]
  rw [e]
  clear e
  generalize kindS k = K at hk
  go_enter Tryz.func41, Tryz.ntmps41
  go_wp2_with fail
  refine (hk _).mono ?_
  rintro e w1 ⟨rfl, hb1⟩
  go_wp2
  go_ret
  exact ⟨rfl, HB0.out.trans (hb1.mono (by simp))⟩
theorem numText_size (n : Int) (h0 : -9223372036854775808 ≤ n) (h1 : n ≤ 9223372036854775807) : (numText n).size ≤ 21 := by
 have := Lib.itoa_length_le n h0 h1
 simpa [numText, ByteArray.size] using this
theorem showV_size {v : VV} (hv : VOk v) (hs : v.s.size ≤ 140737488351232) : (showV v).size ≤ 140737488351232 := by
 unfold showV
 split
 ·have := numText_size v.n hv.n.1 hv.n.2
  omega
 ·split
  ·exact hs
  ·split
   ·split <;> simp [ByteArray.size]
   ·unfold kindS
    repeat' split
    all_goals simp [ByteArray.size]
def shF (f : Fd) : ByteArray := showV f.1 ++ ⟨#[61]⟩ ++ showV f.2 ++ ⟨#[59]⟩
def shT (F : List Fd) : ByteArray := F.foldl (fun s f => s ++ shF f) ⟨#[]⟩
theorem shT_take {F : List Fd} {k : Nat} {f : Fd} (h : F[k]? = some f) : shT (F.take (k + 1)) = shT (F.take k) ++ shF f := by
 unfold shT
 rw [List.take_add_one, h]
 simp
theorem shF_size {f : Fd} (h1 : (showV f.1).size ≤ 140737488351232) (h2 : (showV f.2).size ≤ 140737488351232) : (shF f).size ≤ 300000000000000 := by
 unfold shF
 simp only [ByteArray.size_append]
 have e1 : (⟨#[61]⟩ : ByteArray).size = 1 := rfl
 have e2 : (⟨#[59]⟩ : ByteArray).size = 1 := rfl
 omega
theorem shT_size {F : List Fd} {M : Nat} (h : ∀ f ∈ F, (shF f).size ≤ M) : ∀ k, (shT (F.take k)).size ≤ k * M
 | 0 => by simp [shT, ByteArray.size]
 | k + 1 => by
  have ih := shT_size h k
  rw [Nat.succ_mul]
  rcases Nat.lt_or_ge k F.length with hk | hk
  ·rw [shT_take (List.getElem?_eq_getElem hk), ByteArray.size_append]
   exact Nat.add_le_add ih (h _ (List.getElem_mem hk))
  ·rw [List.take_of_length_le (Nat.le_succ_of_le hk)]
   rw [List.take_of_length_le hk] at ih
   exact Nat.le_trans ih (Nat.le_add_right _ _)
def shV (s : HpS) (n : Int) : ByteArray := match ofI s ⟨4, n, ⟨#[]⟩, 0⟩ with | some i => (match s.T[i]? with | some T => shT T.F | none => ⟨#[]⟩) | none => ⟨#[]⟩
set_option maxRecDepth 100000 in
theorem shown_at {w : World} {B N h : Nat} {s : HpS} {d : HpD} (H : HpAt w B N h s d) {m : Nat} (ok : HpOk m s) (hm : m ≤ 1000) (n : Int) (ht : Tab w) :
  Calls Tryz.prog 9 #[.pointer (some ⟨h, 0, none⟩), .int .i64 n] w (RetB (.string (shV s n)) w) := by
 obtain ⟨u, hu⟩ : ∃ u, u = shV s n := ⟨_, rfl⟩
 rw [← hu]
 have HU := Lib.hid hu
 have HH := Lib.hid H
 have HOK := Lib.hid (And.intro ok hm)
 have HTB := Lib.hid ht
 have hof0 := of_at H ⟨4, n, ⟨#[]⟩, 0⟩ (by have := ok.tl; omega)
 clear hu H ok hm ht
 rcases hof : ofI s ⟨4, n, ⟨#[]⟩, 0⟩ with _ | i
 ·rw [ofV_none HH.out hof] at hof0
  have HOF := Lib.hid (show Calls Tryz.prog 14 #[.pointer (some ⟨h, 0, none⟩), .agg #[.int .i64 4, .int .i64 n, .string ⟨#[]⟩, .int .u64 0]] w (RetB (.pointer none) w) from hof0)
  clear hof0
  have hu : u = ⟨#[]⟩ := by rw [HU.out]; unfold shV; rw [hof]
  have HUU := Lib.hid hu
  clear hof hu
  go_enter Tryz.func9, Tryz.ntmps9
  go_wp2_with fail
  refine HOF.out.mono ?_
  rintro e w1 ⟨rfl, hb⟩
  have W1 := Lib.hid hb
  clear hb
  go_wp2
  go_returns
  exact ⟨by rw [HUU.out]; rfl, W1.out⟩
 ·obtain ⟨p, f, T, i1, i2, i3, i4, i5, i6, i7⟩ := ofV_some HH.out hof
  rw [i5] at hof0
  have HOF := Lib.hid (show Calls Tryz.prog 14 #[.pointer (some ⟨h, 0, none⟩), .agg #[.int .i64 4, .int .i64 n, .string ⟨#[]⟩, .int .u64 0]] w (RetB (.pointer (some ⟨p, 0, none⟩)) w) from hof0)
  clear hof0
  have hu : u = shT T.F := by rw [HU.out]; unfold shV; rw [hof]; simp only [i1]
  have HUU := Lib.hid hu
  have HT := Lib.hid (HOK.out.1.tab T (List.mem_of_getElem? i1))
  have HST := Lib.hid (HOK.out.1.str T (List.mem_of_getElem? i1))
  have HTI := Lib.hid (fun W' (hb : Below w.heap.size w W') => (show TabIn W' B p T f from (HH.out.below hb).tabs i p T f i2 i1 i3))
  obtain ⟨n1, hn1⟩ : ∃ n1, n1 = T.F.length := ⟨_, rfl⟩
  have HN := Lib.hid hn1
  have HNN := Lib.hid (show n1 ≤ 1000 by have := HT.out.2.1; have := HOK.out.2; omega)
  clear hof hu i1 i2 i3 i4 i5 i6 i7 hn1
  go_enter Tryz.func9, Tryz.ntmps9
  go_wp2_with fail
  refine HOF.out.mono ?_
  rintro e w1 ⟨rfl, hb⟩
  have W1 := Lib.hid hb
  clear hb
  have HFI := Lib.hid (tfields_any (HTI.out w1 W1.out) (by have := HNN.out; have := HN.out; omega))
  go_wp2_with fail
  refine HFI.out.mono ?_
  rintro e w2 ⟨v2, rfl, hown, hb2⟩
  obtain ⟨A2, c2, rfl, _, _, _, hrd⟩ := own_reads hown
  rw [← HN.out]
  have W2 := Lib.hid (W1.out.trans (hb2.mono W1.out.size))
  have HR := Lib.hid hrd
  clear hown hb2 hrd
  have hnn : n1 ≤ 1000 := HNN.out
  go_wp2_with fail
  go_loopw [5, 19] (fun sv i wr => ∃ k : Nat, k ≤ n1 ∧ i = .int .i64 k ∧ (∃ S0, sv = .string S0 ∧ Hid (S0 = shT (T.F.take k))) ∧ Hid (Below w2.heap.size w2 wr)) (fun _ i _ => n1 - (intOf i).toNat)
  case atStart => exact ⟨0, by omega, rfl, ⟨_, rfl, Lib.hid rfl⟩, Lib.hid (Below.refl _ _)⟩
  case round =>
   obtain ⟨k, hk, rfl, ⟨S0, rfl, HS0⟩, HB⟩ := hrel
   by_cases hlt : k < n1
   ·obtain ⟨x, hx⟩ : ∃ x, T.F[k]? = some x := ⟨_, List.getElem?_eq_getElem (by rw [← HN.out]; exact hlt)⟩
    obtain ⟨ad, hA, hab, hcell⟩ := (HR.out.below HB.out).at (flatMap_ne (K := 8) (fun _ => rfl) (by omega) hx)
    have x0 := elem_zero (K := 8) (fun _ => rfl) hcell hx (by omega) (show (fdEnc x)[0]? = some (.int .i64 x.1.kind) from rfl)
    have x1 := elem_at (K := 8) (fun _ => rfl) hcell hx 1 (by omega) (by omega) (show (fdEnc x)[1]? = some (.int .i64 x.1.n) from rfl)
    have x2 := elem_at (K := 8) (fun _ => rfl) hcell hx 2 (by omega) (by omega) (show (fdEnc x)[2]? = some (.string x.1.s) from rfl)
    have x3 := elem_at (K := 8) (fun _ => rfl) hcell hx 3 (by omega) (by omega) (show (fdEnc x)[3]? = some (.int .u64 (x.1.label : Int)) from rfl)
    have x4 := elem_at (K := 8) (fun _ => rfl) hcell hx 4 (by omega) (by omega) (show (fdEnc x)[4]? = some (.int .i64 x.2.kind) from rfl)
    have x5 := elem_at (K := 8) (fun _ => rfl) hcell hx 5 (by omega) (by omega) (show (fdEnc x)[5]? = some (.int .i64 x.2.n) from rfl)
    have x6 := elem_at (K := 8) (fun _ => rfl) hcell hx 6 (by omega) (by omega) (show (fdEnc x)[6]? = some (.string x.2.s) from rfl)
    have x7 := elem_at (K := 8) (fun _ => rfl) hcell hx 7 (by omega) (by omega) (show (fdEnc x)[7]? = some (.int .u64 (x.2.label : Int)) from rfl)
    have m1 : (ad.add (k * 8)).block < wr.heap.size := by rw [block_add']; exact Nat.lt_of_lt_of_le hab HB.out.size
    have hk' : (k : Int) < (n1 : Int) := by omega
    have hk0 : (0 : Int) ≤ k := by omega
    have hxm := List.mem_of_getElem? hx
    have HKO := Lib.hid (And.intro (HT.out.1.kOk x hxm) (HT.out.1.vOk x hxm))
    have hz1 := showV_size HKO.out.1 (HST.out x hxm).1
    have hz2 := showV_size HKO.out.2 (HST.out x hxm).2
    have hz0 : S0.size ≤ k * 300000000000000 := by rw [HS0.out]; exact shT_size (fun g hg => shF_size (showV_size (HT.out.1.kOk g hg) (HST.out g hg).1) (showV_size (HT.out.1.vOk g hg) (HST.out g hg).2)) k
    obtain ⟨K1, hK1⟩ : ∃ K1, K1 = showV x.1 := ⟨_, rfl⟩
    obtain ⟨K2, hK2⟩ : ∃ K2, K2 = showV x.2 := ⟨_, rfl⟩
    rw [← hK1] at hz1
    rw [← hK2] at hz2
    have HZ := Lib.hid (show ¬ 9223372036854775807 < K1.size + 1 ∧ ¬ 9223372036854775807 < K1.size + 1 + K2.size ∧ ¬ 9223372036854775807 < K1.size + 1 + K2.size + 1 ∧ ¬ 9223372036854775807 < S0.size + (K1.size + 1 + K2.size + 1) by
     have h9 : k * 300000000000000 ≤ 1000 * 300000000000000 := Nat.mul_le_mul_right _ (by omega)
     omega)
    have HKK := Lib.hid (And.intro hK1 hK2)
    have HX := Lib.hid hx
    have HWR := Lib.hid (show Below w.heap.size w wr from W2.out.trans (HB.out.mono W2.out.size))
    have HSH := Lib.hid (show ∀ W', Tab W' → Calls Tryz.prog 41 #[.agg #[.int .i64 x.1.kind, .int .i64 x.1.n, .string x.1.s, .int .u64 (x.1.label : Int)]] W' (RetB (.string K1) W') ∧ Calls Tryz.prog 41 #[.agg #[.int .i64 x.2.kind, .int .i64 x.2.n, .string x.2.s, .int .u64 (x.2.label : Int)]] W' (RetB (.string K2) W') from fun W' ht => by
     rw [hK1, hK2]
     exact ⟨rvshow_any x.1 W' HKO.out.1.n.1 HKO.out.1.n.2 ht, rvshow_any x.2 W' HKO.out.2.n.1 HKO.out.2.n.2 ht⟩)
    rw [hA]
    clear hx hxm hab hA hcell hz0 hz1 hz2 hK1 hK2
    go_upto_region 8 with fail
    refine gen_wp fun Y hY => ?_
    obtain ⟨b8, hb8⟩ : ∃ b, b = wr.heap.size := ⟨_, rfl⟩
    rw [← hb8]
    have E8 := Lib.hid (show Y.heap[b8]? = some (.cells #[.int .i64 x.1.kind, .int .i64 x.1.n, .string x.1.s, .int .u64 (x.1.label : Int), .int .i64 x.2.kind, .int .i64 x.2.n, .string x.2.s, .int .u64 (x.2.label : Int)] 92 (0, 0)) by rw [← hY, hb8]; exact heap_new_at _ _ _ (by first | rfl | simp))
    have YB := Lib.hid (show Below w2.heap.size w2 Y by rw [← hY]; exact HB.out.alloc HB.out.size _)
    have YW := Lib.hid (show Below w.heap.size w Y by rw [← hY]; exact HWR.out.alloc HWR.out.size _)
    clear hY hb8 x0 x1 x2 x3 x4 x5 x6 x7 m1
    go_wp2_with fail
    refine wp_region_held_drew (S := fun w' => w'.heap[b8]? = some (.cells #[.int .i64 x.1.kind, .int .i64 x.1.n, .string x.1.s, .int .u64 (x.1.label : Int), .int .i64 x.2.kind, .int .i64 x.2.n, .string x.2.s, .int .u64 (x.2.label : Int)] 92 (0, 0))) (by kernel_rfl) (E8.out) (fun hHeld => ?_)
    refine tk 0 23 (.string S0) hHeld ?_; simp only [Act.put, zq1, zq2, zq3]
    refine tk 1 24 (.pointer (some ⟨b8, 0, none⟩)) hHeld ?_; simp only [Act.put, zq1, zq2, zq3]
    refine tk 2 25 (.agg #[.int .i64 x.1.kind, .int .i64 x.1.n, .string x.1.s, .int .u64 (x.1.label : Int)]) hHeld ?_ (hy := Or.inl ⟨by rfl, fun w' hS => (by have q0 := cell_of_blk (i := 0) hS rfl; have q1 := cell_of_blk (i := 1) hS rfl; have q2 := cell_of_blk (i := 2) hS rfl; have q3 := cell_of_blk (i := 3) hS rfl; go_simp)⟩); simp only [Act.put, zq1, zq2, zq3]
    refine tk 5 28 (.pointer (some ⟨b8, 4, none⟩)) hHeld ?_; simp only [Act.put, zq1, zq2, zq3]
    refine tk 6 29 (.agg #[.int .i64 x.2.kind, .int .i64 x.2.n, .string x.2.s, .int .u64 (x.2.label : Int)]) hHeld ?_ (hy := Or.inl ⟨by rfl, fun w' hS => (by have q4 := cell_of_blk (i := 4) hS rfl; have q5 := cell_of_blk (i := 5) hS rfl; have q6 := cell_of_blk (i := 6) hS rfl; have q7 := cell_of_blk (i := 7) hS rfl; go_simp)⟩); simp only [Act.put, zq1, zq2, zq3]
    refine rd 3 fun K hK => ?_
    go_simp
    refine ((HSH.out _ (HTB.out.below YW.out.drew)).1).mono ?_
    rintro e w5 ⟨rfl, hb5⟩
    have V5 := Lib.hid (show Below w2.heap.size w2 w5 from (YB.out.drew).trans (hb5.mono YB.out.drew.size))
    have V5w := Lib.hid (show Below w.heap.size w w5 from (YW.out.drew).trans (hb5.mono YW.out.drew.size))
    have D5 := Lib.hid (below_blk (hb5 : Below Y.heap.size _ _) E8.out)
    clear hb5
    refine hK.out _ _ (D5.out) (fun hHeld => ?_)
    clear hK K
    try simp only [Act.put, zq1, zq2, zq3]
    refine tk 4 27 (.string (K1 ++ ⟨#[61]⟩)) hHeld ?_ (hy := Or.inl ⟨by rfl, fun w' hS => (by have z1 := HZ.out.1; have z2 := HZ.out.2.1; have z3 := HZ.out.2.2.1; have z4 := HZ.out.2.2.2; go_simp)⟩); simp only [Act.put, zq1, zq2, zq3]
    refine rd 7 fun K hK => ?_
    go_simp
    refine ((HSH.out _ (HTB.out.below V5w.out)).2).mono ?_
    rintro e w6 ⟨rfl, hb6⟩
    have V6 := Lib.hid (show Below w2.heap.size w2 w6 from V5.out.trans (hb6.mono V5.out.size))
    have D6 := Lib.hid (below_blk hb6 D5.out)
    clear hb6
    refine hK.out _ _ (D6.out) (fun hHeld => ?_)
    clear hK K
    try simp only [Act.put, zq1, zq2, zq3]
    refine tk 8 31 (.string (K1 ++ ⟨#[61]⟩ ++ K2)) hHeld ?_ (hy := Or.inl ⟨by rfl, fun w' hS => (by have z1 := HZ.out.1; have z2 := HZ.out.2.1; have z3 := HZ.out.2.2.1; have z4 := HZ.out.2.2.2; go_simp)⟩); simp only [Act.put, zq1, zq2, zq3]
    refine tk 9 32 (.string (K1 ++ ⟨#[61]⟩ ++ K2 ++ ⟨#[59]⟩)) hHeld ?_ (hy := Or.inl ⟨by rfl, fun w' hS => (by have z1 := HZ.out.1; have z2 := HZ.out.2.1; have z3 := HZ.out.2.2.1; have z4 := HZ.out.2.2.2; go_simp)⟩); simp only [Act.put, zq1, zq2, zq3]
    refine tk 10 33 (.string (S0 ++ (K1 ++ ⟨#[61]⟩ ++ K2 ++ ⟨#[59]⟩))) hHeld ?_ (hy := Or.inl ⟨by rfl, fun w' hS => (by have z1 := HZ.out.1; have z2 := HZ.out.2.1; have z3 := HZ.out.2.2.1; have z4 := HZ.out.2.2.2; go_simp)⟩); simp only [Act.put, zq1, zq2, zq3]
    refine tk 11 5 (.string (S0 ++ (K1 ++ ⟨#[61]⟩ ++ K2 ++ ⟨#[59]⟩))) hHeld ?_; simp only [Act.put, zq1, zq2, zq3]
    refine wpAnyH_done (by kernel_rfl) ?_ _
    go_wp2_with fail
    go_roundw
    case rel => exact ⟨k + 1, by omega, by go_num, ⟨_, rfl, Lib.hid (by rw [shT_take HX.out, ← HS0.out]; unfold shF; rw [← HKK.out.1, ← HKK.out.2])⟩, V6⟩
    case measure => simp [intOf]; omega
   ·obtain rfl : k = n1 := by omega
    have HF := Lib.hid (show S0 = shT T.F by rw [HS0.out, HN.out, List.take_length])
    go_wp2
    go_returns
    exact ⟨by rw [HUU.out, ← HF.out]; rfl, W2.out.trans (HB.out.mono W2.out.size)⟩

theorem foldl_sets : ∀ (l p q : List Value), q.length = l.length → List.foldl (fun (cs : Array Value) (x : Value × Nat) => cs.setIfInBounds x.snd x.fst) (p ++ q).toArray (l.zipIdx p.length) = (p ++ l).toArray
 | [], p, q, h => by
  obtain rfl : q = [] := List.eq_nil_of_length_eq_zero h
  rfl
 | v :: l, p, q, h => by
  obtain ⟨u, q', rfl⟩ : ∃ u q', q = u :: q' := by
   cases q with
   | nil => simp at h
   | cons u q' => exact ⟨u, q', rfl⟩
  have ih := foldl_sets l (p ++ [v]) q' (by simpa using h)
  rw [List.zipIdx_cons, List.foldl_cons]
  have e : ((p ++ u :: q').toArray.setIfInBounds p.length v) = ((p ++ [v]) ++ q').toArray := by simp [List.set_append]
  show List.foldl _ ((p ++ u :: q').toArray.setIfInBounds p.length v) _ = _
  rw [e]
  have e2 : p.length + 1 = (p ++ [v]).length := by simp
  rw [e2, ih]
  simp
theorem act_fold (a : HAct) : List.foldl (fun (cs : Array Value) (x : Value × Nat) => cs.setIfInBounds x.snd x.fst) #[.int .i64 0, .int .u64 0, .int .i64 0, .int .i64 0, .string ⟨#[]⟩, .int .u64 0, .int .i64 0, .int .i64 0, .string ⟨#[]⟩, .int .u64 0, .int .i64 0, .int .i64 0, .string ⟨#[]⟩, .int .u64 0, .int .i64 0, .slice none 0 0, .int .i64 0, .slice none 0 0, .slice none 0 0] (haEnc a).zipIdx = (haEnc a).toArray :=
 foldl_sets (haEnc a) [] [.int .i64 0, .int .u64 0, .int .i64 0, .int .i64 0, .string ⟨#[]⟩, .int .u64 0, .int .i64 0, .int .i64 0, .string ⟨#[]⟩, .int .u64 0, .int .i64 0, .int .i64 0, .string ⟨#[]⟩, .int .u64 0, .int .i64 0, .slice none 0 0, .int .i64 0, .slice none 0 0, .slice none 0 0] rfl
theorem wpList_load_want {P : Program} {ops : Array Oper} {rest : List Oper} {op : Oper} {a : Act} {w : World} {Q : Exit → Act → World → Prop} (hw : Region.wanted op (yielded ops a.tmps) = true) (ty : TypeId) (x : Operand) (ho : op.op = .load ty x)
  (p : Addr) (hx : a.eval x = .pointer (some p)) (cs : List Value) (d : TypeDesc) (hc : ∀ j v, cs[j]? = some v → w.cell? (p.add j) = some v)
  (hu : P.underlying ty = some d) (hd : d.isRow = true) (hi : (P.info? ty).map (·.size) = some cs.length)
  (h : wpList P ops Q rest (a.put op.dst (.agg cs.toArray)) w) : wpList P ops Q (op :: rest) a w :=
 BigFrame.wpList_want hw fun K hK => by
  unfold Oper.wp execOp
  simp only [ho, hx, Instr.loadAt, Instr.sureAddr, Sem.run_bind, Sem.run_pure, Result.andThen_ok, run_loadVar_addr w p ty cs d hc hu hd hi]
  exact hK _ _ h
theorem shV_same {s s' : HpS} {n : Int} (hl : s'.T.length = s.T.length) (h : ∀ i : Nat, n = (i : Int) → (s'.T[i]?).map (·.F) = (s.T[i]?).map (·.F)) : shV s' n = shV s n := by
 unfold shV ofI
 rw [hl]
 by_cases hc : (4 : Int) = 4 ∧ 0 ≤ n ∧ n < s.T.length
 ·rw [if_pos hc]
  have e := h n.toNat (by omega)
  have h1 : n.toNat < s.T.length := by omega
  have h2 : n.toNat < s'.T.length := by omega
  simp only [List.getElem?_eq_getElem h1, List.getElem?_eq_getElem h2, Option.map_some, Option.some.injEq] at e ⊢
  rw [e]
 ·rw [if_neg hc]
theorem sameF_at {s s' : HpS} (h : SameF s s') (i : Nat) : (s'.T[i]?).map (·.F) = (s.T[i]?).map (·.F) := by
 have := congrArg (fun l => l[i]?) h
 simpa using this
def SX23 (b gb k : Nat) (kd n : Int) (S : ByteArray) (w : World) : Prop := w.cell? ⟨b, 2, none⟩ = some (.int .i64 kd) ∧ w.cell? ⟨b, 3, none⟩ = some (.int .i64 n) ∧ w.cell? ⟨gb, k, none⟩ = some (.string S)
theorem sx_on {b gb k : Nat} {kd n : Int} {S : ByteArray} {w w' : World} (h : SX23 b gb k kd n S w) (hb : Below w.heap.size w w') : SX23 b gb k kd n S w' :=
 ⟨(hb.cell (by exact cell_lt h.1)).trans h.1, (hb.cell (by exact cell_lt h.2.1)).trans h.2.1, (hb.cell (by exact cell_lt h.2.2)).trans h.2.2⟩
theorem info_strE : (Tryz.prog.info? 9).map (fun i => (i.zero, i.size, i.bytes)) = some (some (.string ByteArray.empty), 1, 16) := by kernel_rfl
def strsV (s : HpS) (k : Nat) : List Value := (List.range k).map fun i : Nat => Value.string (shV s (i : Int))
theorem strsV_succ (s : HpS) (k : Nat) : strsV s (k + 1) = strsV s k ++ [.string (shV s (k : Int))] := by simp [strsV, List.range_succ]
theorem apart_same {s s1 s2 : HpS} {t : VV} (h1 : OthersT t s s1) (hl : s1.T.length = s.T.length) (h2 : SameF s1 s2) {n : Int} (hn : ¬ (t.kind = 4 ∧ t.n = n)) : shV s2 n = shV s n := by
 have e2 : s2.T.length = s1.T.length := by have := congrArg List.length h2; simpa using this
 rw [shV_same e2 fun i _ => sameF_at h2 i]
 exact shV_same hl fun i hi => by rw [h1 i (fun h => hn ⟨h.1, by rw [h.2, hi]⟩)]
set_option maxRecDepth 100000 in
theorem heapApart_walk (lim : Int) (hlim : HI lim) (xs : List HAct) (A : Option Addr) (c : Nat) (a : HAct) (w : World) (hr : Reads w w.heap.size A (xs.flatMap haEnc)) (hfit : ∀ x ∈ xs, HaFit w w.heap.size x) (hl : xs.length ≤ 1000000000000) (hfa : HaFit w w.heap.size a) (hsp : SpW w) (htb : Tab w) :
  Calls Tryz.prog 3 #[.int .i64 lim, .slice A xs.length c, .agg (haEnc a).toArray] w (RetB (.bool true) w) := by
 obtain ⟨n1, hn1⟩ : ∃ n, n = xs.length := ⟨_, rfl⟩
 have HN := Lib.hid hn1
 have HR := Lib.hid hr
 have HI := Lib.hid hfit
 have HFA := Lib.hid hfa
 have HSP := Lib.hid hsp
 have HTB := Lib.hid htb
 have HL := Lib.hid (And.intro hlim hl)
 have HFEW := Lib.hid (fun w1 (hb : Below w.heap.size w w1) => (show Calls Tryz.prog 5 #[.slice A n1 c] w1 (HFewOut xs w1) from by rw [hn1]; exact few21_any xs A c w1 (readsOn hr hb) (fun x hx => haFit_on (hfit x hx) hb) hl))
 rw [← hn1]
 obtain ⟨b, hb⟩ : ∃ b, b = w.heap.size := ⟨_, rfl⟩
 have HBE := Lib.hid hb
 clear hn1 hr hfit hsp hlim hl hfa htb hb
 go_enter Tryz.func3, Tryz.ntmps3
 go_upto_region 1 with fail
 rw [← HBE.out]
 refine gen_wp fun W hW => ?_
 have HB0 := Lib.hid (show W.heap[b]? = some (.cells (haEnc a).toArray 33 (0, 0)) by rw [← hW, HBE.out]; exact heap_new_at _ _ _ (by first | rfl | simp))
 have HW0 := Lib.hid (show Below w.heap.size w W by rw [← hW]; exact (Below.refl _ _).alloc (Nat.le_refl _) _)
 clear hW
 go_wp2_with fail
 refine (awake21_any _).mono ?_
 rintro e w1 ⟨rfl, hb1⟩
 have W1 := Lib.hid (HW0.out.trans (hb1.mono HW0.out.size))
 have HB1 := Lib.hid (below_blk hb1 HB0.out)
 clear hb1
 go_wp2_with fail
 refine (HFEW.out _ W1.out).mono ?_
 rintro e w2 ⟨hb2, bb, rfl, hb⟩
 have W2 := Lib.hid (W1.out.trans (hb2.mono W1.out.size))
 have HB2 := Lib.hid (below_blk hb2 HB1.out)
 clear hb2
 cases bb with
 | false =>
  clear hb
  go_wp2
  go_ret
  exact ⟨rfl, W2.out⟩
 | true =>
 have HF := Lib.hid (hb rfl)
 clear hb
 have HRN := Lib.hid (show n1 ≤ 200 by have := few_len xs; have := HF.out.1; rw [HN.out]; omega)
 have HC := Lib.hid (show ∀ W', W' = w2.alloc (.cells (haEnc a).toArray 33) → Calls Tryz.prog 5 #[.slice (some ⟨w2.heap.size, 0, none⟩) 1 1] W' (HFewOut [a] W') from fun W' e => by
  have hbl : Below w.heap.size w W' := by rw [e]; exact W2.out.alloc W2.out.size _
  have hn : W'.heap[w2.heap.size]? = some (.cells (haEnc a).toArray 33 (0, 0)) := by rw [e]; exact heap_new_at _ _ _ rfl
  refine few21_any [a] (some ⟨w2.heap.size, 0, none⟩) 1 W' (.inr ⟨⟨w2.heap.size, 0, none⟩, rfl, blk_lt hn, fun j x hx => ?_⟩) (fun x hx => ?_) (by simp)
  ·have hx' : (haEnc a).toArray[j]? = some x := by simpa using hx
   rw [Addr.add_mid]
   have := cell_of_blk hn hx'
   simpa using this
  ·have e2 : x = a := by simpa using hx
   rw [e2]
   exact haFit_on HFA.out hbl)
 have HCS := Lib.hid (show ∀ j v, (haEnc a)[j]? = some v → w2.cell? ((⟨b, 0, none⟩ : Addr).add j) = some v from fun j v hv => by
  rw [Addr.add_mid]
  have := cell_of_blk (i := j) (v := v) HB2.out (by simpa using hv)
  simpa using this)
 have hlen : (haEnc a).length = 19 := rfl
 have hlen2 : ¬ 19 < (haEnc a).length := by rw [hlen]; omega
 go_wp2_with ((with_reducible (show wpList _ _ _ (_ :: _) _ _)); refine wpList_load_want (by rfl) 33 _ rfl _ rfl (haEnc a) _ HCS.out Tryz.underlying33 rfl info_act ?_)
 rw [act_fold]
 refine (HC.out _ rfl).mono ?_
 clear hlen hlen2
 rintro e w3 ⟨hb, bb, rfl, hfew⟩
 have HB3 := Lib.hid (below_blk hb (blk_alloc HB2.out _))
 have W3 := Lib.hid ((W2.out.alloc W2.out.size _).trans (hb.mono (W2.out.alloc W2.out.size _).size))
 clear hb
 cases bb with
 | false =>
  clear hfew
  go_wp2
  go_ret
  exact ⟨rfl, W3.out⟩
 | true =>
 have HFW := Lib.hid (hfew rfl)
 clear hfew
 have HNX := Lib.hid (show b < w3.heap.size from blk_lt HB3.out)
 go_wp2_with fail
 refine (hnew_any lim w3).mono ?_
 rintro e w4 ⟨rfl, hk4, hb4⟩
 obtain ⟨h, hh⟩ : ∃ h, h = w3.heap.size := ⟨_, rfl⟩
 rw [← hh] at hk4
 rw [← hh]
 have HHE := Lib.hid hh
 have W4 := Lib.hid hb4
 have HK4 := Lib.hid hk4
 clear hb4 hk4 hh
 go_wp2_with fail
 refine (rhnew_any lim w4).mono ?_
 rintro e w5 ⟨rfl, hk5, hb5⟩
 obtain ⟨r, hrr⟩ : ∃ r, r = w4.heap.size := ⟨_, rfl⟩
 rw [← hrr] at hk5
 rw [← hrr]
 have HP0 := Lib.hid (show Pair w5 h h h r ⟨max lim 0, 0, [], [], []⟩ ⟨max lim 0, 0, [], [], []⟩ from pair_start (below_blk hb5 HK4.out) hk5 (Nat.le_refl _) (by have := W4.out.size; have := HHE.out; omega) (by have := blk_lt HK4.out; omega) (by omega) (by have := HL.out.1.2; omega))
 have W5 := Lib.hid (show Below h w3 w5 by rw [HHE.out]; exact W4.out.trans (hb5.mono W4.out.size))
 have HR2 := Lib.hid (show Reads w3 h A (xs.flatMap haEnc) by rw [HHE.out]; exact readsOn HR.out W3.out)
 have HI2 := Lib.hid (show ∀ x ∈ xs, HaFit w3 h x from fun x hx => by rw [HHE.out]; exact haFit_on (HI.out x hx) W3.out)
 have HA2 := Lib.hid (show HaFit w3 h a by rw [HHE.out]; exact haFit_on HFA.out W3.out)
 have HS2 := Lib.hid (show SpB h w3 by rw [HHE.out]; exact (HSP.out.below W3.out).at_)
 have HBH := Lib.hid (show b < h by rw [HHE.out]; exact HNX.out)
 have HSZ := Lib.hid (show w.heap.size ≤ h by rw [HHE.out]; exact W3.out.size)
 clear hk5 hb5 hrr
 go_wp2_with fail
 go_loopw [33] (fun i wr => ∃ (k : Nat) (s u : HpS), k ≤ n1 ∧ i = .int .i64 k ∧ Hid (Pair wr h h h r s u) ∧ Hid (HpOk k s ∧ HpOk k u) ∧ Hid (Below h w3 wr)) (fun i _ => n1 - (intOf i).toNat)
 case atStart => exact ⟨0, _, _, by omega, rfl, HP0, Lib.hid ⟨hpOk_start _, hpOk_start _⟩, W5⟩
 case round =>
  obtain ⟨k, s, u, hk, rfl, HP, HO, HW⟩ := hrel
  clear HP0 W5
  have hnn : n1 ≤ 200 := HRN.out
  by_cases hlt : k < n1
  ·obtain ⟨x, hx⟩ : ∃ x, xs[k]? = some x := ⟨_, List.getElem?_eq_getElem (by rw [← HN.out]; exact hlt)⟩
   obtain ⟨ad, hA, hab, hcell⟩ := (HR2.out.below HW.out).at (flatMap_ne (K := 19) ha_len (by omega) hx)
   have hhw : h ≤ wr.heap.size := Nat.le_trans (Nat.le_of_eq HHE.out) HW.out.size
   have hcs := elem_cells (K := 19) ha_len hcell hx
   have xl : (ad.add (k * 19)).block < wr.heap.size := by rw [block_add']; exact Nat.lt_of_lt_of_le hab hhw
   have hk' : (k : Int) < (n1 : Int) := by omega
   have hk0 : (0 : Int) ≤ k := by omega
   obtain ⟨U, hU⟩ : ∃ U, U = wr.alloc (.cells (haEnc x).toArray 33) := ⟨_, rfl⟩
   have hbx : Below wr.heap.size wr U := by rw [hU]; exact (Below.refl _ _).alloc (Nat.le_refl _) _
   have HHW := Lib.hid hhw
   have HX := Lib.hid (List.mem_of_getElem? hx)
   have HBX := Lib.hid (show Below h w3 U from HW.out.trans (hbx.mono hhw))
   have HPU := Lib.hid (HP.out.below hbx)
   have HU := Lib.hid hU
   rw [hA]
   have HCS := Lib.hid hcs
   have HACT := Lib.hid (act_any HPU.out HO.out.1 HO.out.2 (by have := HRN.out; omega) x ((HI2.out x HX.out).below HBX.out) (stamps_few (HI2.out x HX.out).to (HF.out.2 x HX.out).2) (HS2.out.on HBX.out))
   have HRK := Lib.hid hlt
   clear hcell hx hab hA hbx hU hcs hhw
   go_upto_region 11 with (first | ((with_reducible (show wpList _ _ _ (_ :: _) _ _)); refine wpList_load_addr rfl 33 _ rfl _ rfl (haEnc x) _ HCS.out Tryz.underlying33 rfl info_act ?_) | ((with_reducible (show wpList _ _ _ (_ :: _) _ _)); refine wpList_store_new rfl 33 _ _ rfl _ (haEnc x).toArray rfl rfl info_act rfl (ha_one x) ?_))

   rw [← HU.out]
   obtain ⟨b9, hb9⟩ : ∃ b, b = wr.heap.size := ⟨_, rfl⟩
   rw [← hb9]
   have HBU := Lib.hid (show U.heap[b9]? = some (.cells (haEnc x).toArray 33 (0, 0)) by rw [HU.out, hb9]; exact heap_new_at _ _ _ (by first | rfl | simp))
   have HCB := Lib.hid (show ∀ j v, (haEnc x)[j]? = some v → U.cell? ((⟨b9, 0, none⟩ : Addr).add j) = some v from fun j v hv => by
    rw [Addr.add_mid, Nat.zero_add]
    exact cell_of_blk HBU.out (by simpa using hv))
   have yl := blk_lt HBU.out
   clear hb9 xl
   go_wp2_with (first | ((with_reducible (show wpList _ _ _ (_ :: _) _ _)); refine wpList_load_addr rfl 33 _ rfl _ rfl (haEnc x) _ HCB.out Tryz.underlying33 rfl info_act ?_))
   refine HACT.out.mono ?_
   rintro e w6 ⟨bb, s', u', rfl, hle1, hle2, hpr, hbl⟩
   have W6 := Lib.hid (show Below h w3 w6 from HBX.out.trans hbl)
   have HP6 := Lib.hid hpr
   have HO6 := Lib.hid (show HpOk (k + 1) s' ∧ HpOk (k + 1) u' from ⟨hle1.ok HO.out.1, hle2.ok HO.out.2⟩)
   clear hle1 hle2 hbl hpr yl
   go_wp2_with fail
   go_roundw
   case rel => exact ⟨k + 1, s', u', by omega, by go_num, HP6, HO6, W6⟩
   case measure => simp [intOf]; omega
  ·obtain rfl : k = n1 := by omega
   have hkk : ¬ (k : Int) < (k : Int) := by omega
   obtain ⟨w7, hw7⟩ : ∃ w7, w7 = wr := ⟨_, rfl⟩
   obtain rfl := hw7
   obtain ⟨d, e', hd, he, hdj⟩ := HP.out
   have HD := Lib.hid hd
   have HE := Lib.hid he
   have HDJ := Lib.hid hdj
   have W7 := Lib.hid (show Below w.heap.size w w7 from W3.out.trans (HW.out.mono HSZ.out))
   have HTL := Lib.hid (show s.T.length ≤ 200 ∧ u.T.length ≤ 200 from ⟨Nat.le_trans HO.out.1.tl HRN.out, Nat.le_trans HO.out.2.tl HRN.out⟩)
   obtain ⟨tl, htl⟩ : ∃ tl, tl = u.T.length := ⟨_, rfl⟩
   have HTE := Lib.hid htl
   obtain ⟨i0, hi, hz0, hz1, hz2⟩ := info_parts info_strE
   have HTL2 := Lib.hid (show tl ≤ 200 by rw [htl]; exact HTL.out.2)
   clear hd he hdj htl hkk
   go_wp2_with fail
   go_loopw [11, 12] (fun v i wx => ∃ k : Nat, k ≤ tl ∧ i = .int .i64 k ∧ Hid (wx.ownsRow w7.heap.size 9 1 v k (strsV s k)) ∧ Hid (Below w7.heap.size w7 wx)) (fun _ i _ => tl - (intOf i).toNat)
   case atStart => exact ⟨0, by omega, rfl, Lib.hid (World.ownsRow_nil _ _ _ _), Lib.hid (Below.refl _ _)⟩
   case round =>
    obtain ⟨q, hq, rfl, HOW, HB⟩ := hrel
    have htt : tl ≤ 200 := HTL2.out
    obtain ⟨A1, c1, hv1, hcc1, hcc2, hfm1⟩ := own_form HOW.out
    subst hv1
    obtain ⟨_, _, y2, _, _, yf, yl⟩ := rp_cells (HE.out.below HB.out)
    rw [← HTE.out] at y2
    have HBX := Lib.hid (show Below h w3 _ from HW.out.trans (HB.out.mono (Nat.le_trans (Nat.le_of_eq HHE.out) HW.out.size)))
    clear hcc1 hcc2 hfm1 yf
    by_cases hq1 : q < tl
    ·have hq2 : (q : Int) < (tl : Int) := by omega
     have HQ1 := Lib.hid hq1
     have HSH := Lib.hid (shown_at (HD.out.below HB.out) HO.out.1 (by have := HRN.out; omega) (q : Int) (HTB.out.below (W7.out.trans (HB.out.mono W7.out.size))))
     obtain ⟨S1, hS1⟩ : ∃ S1, S1 = shV s (q : Int) := ⟨_, rfl⟩
     rw [← hS1] at HSH
     have HS1 := Lib.hid hS1
     clear hS1
     go_wp2_with fail
     refine HSH.out.mono ?_
     rintro e w8 ⟨rfl, hb8⟩
     have W8 := Lib.hid (show Below w7.heap.size w7 w8 from HB.out.trans (hb8.mono HB.out.size))
     have HO8 := Lib.hid (below_own hb8 HOW.out)
     clear hb8 y2 yl
     have hlx : (strsV s q).length = q := by simp [strsV]
     go_wp2_with (at_builtin; (refine wpList_append_lies _ rfl _ _ _ rfl w7.heap.size 9 i0 (.string ByteArray.empty) 1 16 Tryz.underlying28 hi hz0 hz1 hz2 rfl (by omega) _ q (strsV s q) rfl (HO8.out.alloc _) ⟨w8.heap.size, 0, none⟩ 1 1 [.string S1] rfl rfl (news_new _ #[.string S1] _ _ rfl) (by simp [Value.oneCell']) (by omega) (by unfold maxLen; omega) (by omega) (by have := W8.out.size; simp; omega) (w8.heap.size + 1) (by simp) ?_); intro g cap w9 hown9 hgrow hat hlt9; have HO9 := Lib.hid hown9; have HGR := Lib.hid (show World.grownBy _ w9 (Value.slice A1 q c1).ownBlock from hgrow); clear hown9 hgrow hat)
     have W9 := Lib.hid (show Below w7.heap.size w7 w9 from Below.grown (W8.out.alloc W8.out.size _) HGR.out (Nat.le_trans W8.out.size (by simp)) (fun g hg => own_base HO8.out hg))
     go_roundw
     case rel => exact ⟨q + 1, by omega, by go_num, Lib.hid (by rw [strsV_succ, ← HS1.out]; exact HO9.out), W9⟩
     case measure => simp [intOf]; omega
    ·obtain rfl : q = tl := by omega
     have HBB := Lib.hid (show wr.heap[b]? = some (.cells (haEnc a).toArray 33 (0, 0)) by
      have e7 : w7.heap[b]? = some (.cells (haEnc a).toArray 33 (0, 0)) := by rw [HW.out.block b HBH.out]; exact HB3.out
      exact below_blk HB.out e7)
     have HDR := Lib.hid (HD.out.below HB.out)
     have HER := Lib.hid (HE.out.below HB.out)
     have HDB := Lib.hid (show b ∉ d.fp h s.F from fun hm => by have := HD.out.fpB b hm; have := HBH.out; omega)
     have HRN3 := Lib.hid (show ∀ g, (Value.slice A1 q c1).ownBlock = some g → g ∉ d.fp h s.F from fun g hg hm => by have h1 := own_base HOW.out hg; have h2 := (HD.out.kinds hm).2; omega)
     have HPUT := Lib.hid (put_at HDR.out HO.out.1 (by have := HRN.out; omega) a.ctx a.a a.b a.c HA2.out.ctx HA2.out.vb.vok HA2.out.vc.vok HA2.out.vb.s HA2.out.vc.s)
     have p1 := cell_of_blk (i := 1) (v := .int .u64 (a.ctx : Int)) HBB.out rfl
     have p2 := cell_of_blk (i := 2) (v := .int .i64 a.a.kind) HBB.out rfl
     have p3 := cell_of_blk (i := 3) (v := .int .i64 a.a.n) HBB.out rfl
     have p4 := cell_of_blk (i := 4) (v := .string a.a.s) HBB.out rfl
     have p5 := cell_of_blk (i := 5) (v := .int .u64 (a.a.label : Int)) HBB.out rfl
     have p6 := cell_of_blk (i := 6) (v := .int .i64 a.b.kind) HBB.out rfl
     have p7 := cell_of_blk (i := 7) (v := .int .i64 a.b.n) HBB.out rfl
     have p8 := cell_of_blk (i := 8) (v := .string a.b.s) HBB.out rfl
     have p9 := cell_of_blk (i := 9) (v := .int .u64 (a.b.label : Int)) HBB.out rfl
     have p10 := cell_of_blk (i := 10) (v := .int .i64 a.c.kind) HBB.out rfl
     have p11 := cell_of_blk (i := 11) (v := .int .i64 a.c.n) HBB.out rfl
     have p12 := cell_of_blk (i := 12) (v := .string a.c.s) HBB.out rfl
     have p13 := cell_of_blk (i := 13) (v := .int .u64 (a.c.label : Int)) HBB.out rfl
     have pl := blk_lt HBB.out
     have hqq : ¬ (q : Int) < (q : Int) := by omega
     clear hq1 hq htt
     go_wp2_with fail
     refine HPUT.out.mono ?_
     rintro e w10 ⟨pk, pb, s1, rfl, hle1, ⟨d1, ha1, hf1, hn1⟩, hoth, hlen1⟩
     have HD1 := Lib.hid ha1
     have HOT := Lib.hid (And.intro hoth hlen1)
     have HBB1 := Lib.hid (hf1.blk HBB.out HDB.out)
     have HOW1 := Lib.hid (hf1.own HOW.out HRN3.out)
     have HDJ1 := Lib.hid (show ∀ b ∈ d1.fp h s1.F, b ∉ e'.fp r u.F from fun b' hb' hm => (hn1 b' hb').elim (fun e0 => HDJ.out b' e0 hm) fun e0 => by have := (HER.out.kinds hm).2; omega)
     have HER1 := Lib.hid (HER.out.kept hf1 (fun b' hb' hm => HDJ.out b' hm hb') fun b' hb' => Nat.le_trans HD.out.nB (HD.out.fpB b' hb'))
     have HDB1 := Lib.hid (show b ∉ d1.fp h s1.F from fun hm => by have := ha1.fpB b hm; have := HBH.out; omega)
     have HRN4 := Lib.hid (show ∀ g, (Value.slice A1 q c1).ownBlock = some g → g ∉ d1.fp h s1.F from fun g hg hm => (hn1 g hm).elim (HRN3.out g hg) fun e0 => by
      have h3 := own_form HOW.out
      obtain ⟨A', c', hv, _, _, hx⟩ := h3
      cases A1 with
      | none => simp [Value.ownBlock] at hg
      | some ad =>
       have h4 : g < wr.heap.size := by
        obtain ⟨_, h5⟩ := HOW.out
        rcases h5 with ⟨h6, _⟩ | ⟨g', cap, cur, h6, _, h7, _⟩
        ·simp at h6
        ·rw [h6] at hg
         simp [Value.ownBlock] at hg
         rw [← hg]; exact blk_lt h7
       omega)
     have HWP := Lib.hid (show Below h w3 w10 from (HW.out.mono (Nat.le_refl _)).trans ((HB.out.mono (Nat.le_trans (Nat.le_of_eq HHE.out) HW.out.size)).trans (hf1.to_below (Nat.le_trans (Nat.le_of_eq HHE.out) (Nat.le_trans HW.out.size HB.out.size)) fun b' hb' => HD.out.fpB b' hb')))
     have HO1 := Lib.hid (hle1.ok HO.out.1)
     have HCAST := Lib.hid (cast_at HD1.out HO1.out (by have := HRN.out; omega) a.c a.to a.n (HA2.out.to.stay HWP.out) (stamps_few HA2.out.to (HFW.out.2 a (by simp)).2) (HS2.out.on HWP.out))
     clear p1 p2 p3 p4 p5 p6 p7 p8 p9 p10 p11 p12 p13 pl ha1 hf1 hn1 hoth hlen1 hle1
     have z10 := cell_of_blk (i := 10) (v := .int .i64 a.c.kind) HBB1.out rfl
     have z11 := cell_of_blk (i := 11) (v := .int .i64 a.c.n) HBB1.out rfl
     have z12 := cell_of_blk (i := 12) (v := .string a.c.s) HBB1.out rfl
     have z13 := cell_of_blk (i := 13) (v := .int .u64 (a.c.label : Int)) HBB1.out rfl
     have z14 := cell_of_blk (i := 14) (v := .int .i64 a.n) HBB1.out rfl
     have z16 := cell_of_blk (i := 16) (v := .int .i64 a.to.kind) HBB1.out rfl
     have z17 := cell_of_blk (i := 17) (v := .slice a.to.A a.to.ns.length a.to.c) HBB1.out rfl
     have z18 := cell_of_blk (i := 18) (v := .slice a.to.A2 a.to.xs.length a.to.c2) HBB1.out rfl
     have zl := blk_lt HBB1.out
     go_wp2_with fail
     refine HCAST.out.mono ?_
     rintro e w11 ⟨cv, ci, cr, s2, rfl, hle2, ⟨d2, ha2, hf2, hn2⟩, hsame⟩
     have HD2 := Lib.hid ha2
     have HSM := Lib.hid hsame
     have HBB2 := Lib.hid (hf2.blk HBB1.out HDB1.out)
     have HOW2 := Lib.hid (hf2.own HOW1.out HRN4.out)
     have HER2 := Lib.hid (HER1.out.kept hf2 (fun b' hb' hm => HDJ1.out b' hm hb') fun b' hb' => Nat.le_trans HD1.out.nB (HD1.out.fpB b' hb'))
     have HO2 := Lib.hid (hle2.ok HO1.out)
     have HWQ := Lib.hid (show Below h w3 w11 from HWP.out.trans (hf2.to_below (Nat.le_trans (Nat.le_of_eq HHE.out) HWP.out.size) fun b' hb' => HD1.out.fpB b' hb'))
     have W11 := Lib.hid (show Below w.heap.size w w11 from W3.out.trans (HWQ.out.mono HSZ.out))
     clear z10 z11 z12 z13 z14 z16 z17 z18 zl ha2 hf2 hn2 hsame hle2
     go_wp2_with fail
     go_loopw [13] (fun i wx => ∃ k : Nat, k ≤ q ∧ i = .int .i64 k ∧ Hid (Below w11.heap.size w11 wx)) (fun i _ => q - (intOf i).toNat)
     case atStart => exact ⟨0, by omega, rfl, Lib.hid (Below.refl _ _)⟩
     case round =>
      obtain ⟨k, hk, rfl, HBK⟩ := hrel
      have htt : q ≤ 200 := HTL2.out
      obtain ⟨_, _, y2, _, _, yf, yl⟩ := rp_cells (HER2.out.below HBK.out)
      rw [← HTE.out] at y2
      clear yf
      by_cases hk1 : k < q
      ·have hk2 : (k : Int) < (q : Int) := by omega
       have hk0 : (0 : Int) ≤ (k : Int) := by omega
       have HK1 := Lib.hid hk1
       obtain ⟨A9, c9, hv9, _, _, hfm9⟩ := own_form HOW2.out
       obtain ⟨gb, hgb, _, hgl, _, hgc⟩ := hfm9 (by omega)
       injection hv9 with e1 e2 e3
       subst e1 e3
       have HRC := Lib.hid (show w11.cell? ⟨gb, k, none⟩ = some (.string (shV s (k : Int))) from hgc k _ (by simp [strsV, hk1]))
       have HGL := Lib.hid hgl
       have HGB := Lib.hid hgb
       obtain ⟨S1, hS1⟩ : ∃ S1, S1 = shV s (k : Int) := ⟨_, rfl⟩
       rw [← hS1] at HRC
       have HS1 := Lib.hid hS1
       have HSHW := Lib.hid (fun wx (hb : Below w11.heap.size w11 wx) => shown_at (HD2.out.below hb) HO2.out (by have := HRN.out; omega) (k : Int) (HTB.out.below (W11.out.trans (hb.mono W11.out.size))))
       have HAS := Lib.hid (show ¬ (a.a.kind = 4 ∧ a.a.n = (k : Int)) → shV s2 (k : Int) = shV s (k : Int) from fun hn => apart_same HOT.out.1 HOT.out.2 HSM.out hn)
       have HSX := Lib.hid (sx_on (b := b) (gb := gb) (k := k) (kd := a.a.kind) (n := a.a.n) (S := S1) (w := w11) ⟨cell_of_blk (i := 2) HBB2.out rfl, cell_of_blk (i := 3) HBB2.out rfl, HRC.out⟩ HBK.out)
       have HBJ := Lib.hid HBK.out.drew
       clear hfm9 hgc hgl hS1 hk
       subst hgb
       by_cases hsame2 : shV s2 (k : Int) = S1
       ·rw [hsame2] at HSHW
        clear hsame2
        go_upto_region 23 with fail
        refine wp_region_held_drew (S := SX23 b gb k a.a.kind a.a.n S1) (by kernel_rfl) (HSX.out) (fun hHeld => ?_)
        refine tk 0 84 (.pointer (some ⟨h, 0, none⟩)) hHeld ?_; simp only [Act.put, zq1, zq2, zq3]
        refine tk 1 85 (.int .i64 (k : Int)) hHeld ?_; simp only [Act.put, zq1, zq2, zq3]
        refine tk 3 87 (.slice (some ⟨gb, 0, none⟩) q c1) hHeld ?_; simp only [Act.put, zq1, zq2, zq3]
        refine tk 4 88 (.int .i64 (k : Int)) hHeld ?_; simp only [Act.put, zq1, zq2, zq3]
        refine tk 5 89 (.pointer (some ⟨gb, k, none⟩)) hHeld ?_; simp only [Act.put, zq1, zq2, zq3]
        refine tk 6 90 (.string S1) hHeld ?_ (hy := Or.inl ⟨by rfl, fun w' hS => (by have z5 := hS.2.2; go_simp)⟩); simp only [Act.put, zq1, zq2, zq3]
        refine rd 2 fun K hK => ?_
        go_simp
        refine (HSHW.out _ HBJ.out).mono ?_
        rintro e wy ⟨rfl, hby⟩
        have HWX := Lib.hid (show Below w11.heap.size w11 wy from HBJ.out.trans (hby.mono HBJ.out.size))
        have HSY := Lib.hid (show SX23 b gb k a.a.kind a.a.n S1 wy from sx_on (show SX23 b gb k a.a.kind a.a.n S1 wr.drew from HSX.out) hby)
        clear hby
        refine hK.out _ _ (HSY.out) (fun hHeld => ?_)
        clear hK K
        try simp only [Act.put, zq1, zq2, zq3]
        refine tk 7 91 (.bool false) hHeld ?_; simp only [Act.put, zq1, zq2, zq3]
        refine tk 8 92 (.bool false) hHeld ?_; simp only [Act.put, zq1, zq2, zq3]
        refine tu 9 93 hHeld ?_; simp only [Act.put, zq1, zq2, zq3]
        refine tu 10 94 hHeld ?_; simp only [Act.put, zq1, zq2, zq3]
        refine tu 11 95 hHeld ?_; simp only [Act.put, zq1, zq2, zq3]
        refine tu 12 96 hHeld ?_; simp only [Act.put, zq1, zq2, zq3]
        refine tu 13 97 hHeld ?_; simp only [Act.put, zq1, zq2, zq3]
        refine tu 14 98 hHeld ?_; simp only [Act.put, zq1, zq2, zq3]
        refine tu 15 99 hHeld ?_; simp only [Act.put, zq1, zq2, zq3]
        refine tu 16 100 hHeld ?_; simp only [Act.put, zq1, zq2, zq3]
        refine tu 17 101 hHeld ?_; simp only [Act.put, zq1, zq2, zq3]
        refine tu 18 102 hHeld ?_; simp only [Act.put, zq1, zq2, zq3]
        refine tu 19 103 hHeld ?_; simp only [Act.put, zq1, zq2, zq3]
        refine tk 20 104 (.bool false) hHeld ?_; simp only [Act.put, zq1, zq2, zq3]
        refine wpAnyH_done (by kernel_rfl) ?_ _
        go_wp2_with fail
        go_roundw
        case rel => exact ⟨k + 1, by have := HK1.out; omega, by have := HK1.out; have := HTL2.out; go_num, HWX⟩
        case measure => have := HK1.out; have := HTL2.out; simp [intOf]; omega
       ·obtain ⟨hkind, hnum⟩ : a.a.kind = 4 ∧ a.a.n = (k : Int) := by
         by_cases hc : a.a.kind = 4 ∧ a.a.n = (k : Int)
         ·exact hc
         ·exact absurd ((HAS.out hc).trans HS1.out.symm) hsame2
        obtain ⟨S2, hS2⟩ : ∃ S2, S2 = shV s2 (k : Int) := ⟨_, rfl⟩
        rw [← hS2] at HSHW hsame2
        have qs : (S2.toList == S1.toList) = false := beq_eq_false_iff_ne.2 fun e => hsame2 (ByteArray.ext (Array.toList_inj.1 (by rw [ByteArray.toList_eq, ByteArray.toList_eq] at e; exact e)))
        have HKN := Lib.hid (And.intro hkind hnum)
        clear hkind hnum hS2 hsame2
        go_upto_region 23 with fail
        refine wp_region_held_drew (S := SX23 b gb k a.a.kind a.a.n S1) (by kernel_rfl) (HSX.out) (fun hHeld => ?_)
        refine tk 0 84 (.pointer (some ⟨h, 0, none⟩)) hHeld ?_; simp only [Act.put, zq1, zq2, zq3]
        refine tk 1 85 (.int .i64 (k : Int)) hHeld ?_; simp only [Act.put, zq1, zq2, zq3]
        refine tk 3 87 (.slice (some ⟨gb, 0, none⟩) q c1) hHeld ?_; simp only [Act.put, zq1, zq2, zq3]
        refine tk 4 88 (.int .i64 (k : Int)) hHeld ?_; simp only [Act.put, zq1, zq2, zq3]
        refine tk 5 89 (.pointer (some ⟨gb, k, none⟩)) hHeld ?_; simp only [Act.put, zq1, zq2, zq3]
        refine tk 6 90 (.string S1) hHeld ?_ (hy := Or.inl ⟨by rfl, fun w' hS => (by have z5 := hS.2.2; go_simp)⟩); simp only [Act.put, zq1, zq2, zq3]
        refine rd 2 fun K hK => ?_
        go_simp
        refine (HSHW.out _ HBJ.out).mono ?_
        rintro e wy ⟨rfl, hby⟩
        have HWX := Lib.hid (show Below w11.heap.size w11 wy from HBJ.out.trans (hby.mono HBJ.out.size))
        have HSY := Lib.hid (show SX23 b gb k a.a.kind a.a.n S1 wy from sx_on (show SX23 b gb k a.a.kind a.a.n S1 wr.drew from HSX.out) hby)
        clear hby
        refine hK.out _ _ (HSY.out) (fun hHeld => ?_)
        clear hK K
        try simp only [Act.put, zq1, zq2, zq3]
        refine tk 7 91 (.bool true) hHeld ?_; simp only [Act.put, zq1, zq2, zq3]
        refine tk 8 92 (.bool true) hHeld ?_; simp only [Act.put, zq1, zq2, zq3]
        refine tk 9 93 (.pointer (some ⟨b, 2, none⟩)) hHeld ?_; simp only [Act.put, zq1, zq2, zq3]
        refine tk 10 94 (.pointer (some ⟨b, 2, none⟩)) hHeld ?_; simp only [Act.put, zq1, zq2, zq3]
        refine tk 11 95 (.int .i64 a.a.kind) hHeld ?_ (hy := Or.inl ⟨by rfl, fun w' hS => (by have z2 := hS.1; go_simp)⟩); simp only [Act.put, zq1, zq2, zq3]
        refine tk 12 96 (.bool false) hHeld ?_ (hy := Or.inl ⟨by rfl, fun w' hS => (by have qk := HKN.out.1; go_simp)⟩); simp only [Act.put, zq1, zq2, zq3]
        refine tk 13 97 (.bool false) hHeld ?_; simp only [Act.put, zq1, zq2, zq3]
        refine tk 14 98 (.pointer (some ⟨b, 2, none⟩)) hHeld ?_; simp only [Act.put, zq1, zq2, zq3]
        refine tk 15 99 (.pointer (some ⟨b, 3, none⟩)) hHeld ?_; simp only [Act.put, zq1, zq2, zq3]
        refine tk 16 100 (.int .i64 a.a.n) hHeld ?_ (hy := Or.inl ⟨by rfl, fun w' hS => (by have z3 := hS.2.1; go_simp)⟩); simp only [Act.put, zq1, zq2, zq3]
        refine tk 17 101 (.int .i64 (k : Int)) hHeld ?_; simp only [Act.put, zq1, zq2, zq3]
        refine tk 18 102 (.bool false) hHeld ?_ (hy := Or.inl ⟨by rfl, fun w' hS => (by have qn := HKN.out.2; go_simp)⟩); simp only [Act.put, zq1, zq2, zq3]
        refine tk 19 103 (.bool false) hHeld ?_; simp only [Act.put, zq1, zq2, zq3]
        refine tk 20 104 (.bool false) hHeld ?_; simp only [Act.put, zq1, zq2, zq3]
        refine wpAnyH_done (by kernel_rfl) ?_ _
        go_wp2_with fail
        go_roundw
        case rel => exact ⟨k + 1, by have := HK1.out; omega, by have := HK1.out; have := HTL2.out; go_num, HWX⟩
        case measure => have := HK1.out; have := HTL2.out; simp [intOf]; omega
      ·obtain rfl : k = q := by omega
       have hkk3 : ¬ (k : Int) < (k : Int) := by omega
       go_wp2
       go_ret
       exact ⟨rfl, W11.out.trans (HBK.out.mono W11.out.size)⟩
end Go.Proofs.YtilcofpceadpbaaGreatDoor
namespace Go.Proofs.YtilcofpceadpbaaGreatDoor
open Go.ChangeShapes Go.WideShapes Go.ChangeAt Go.RowKit

theorem ret_and_shaped {H : Type} {enc : TypeId × Value → H} {a : Assume} {C : Checked} {os : Os} {f : FuncId} {fn : Func} {s : ChangeSpec} {conds : List PathCond} {apart fresh handsOn again : Bool} {X : World → Array Value → Prop}
  (hX : ∀ (w w' : World) (args : Array Value), w.heap = w'.heap → X w args → X w' args)
  (own : ownKnob C.prog.godebug = none) (started : os.Started) (noInit : C.prog.inits.idxOf? f = none) (hfn : C.prog.funcs[f]? = some fn)
  (witness : ∃ (w : World) (tape : Tape) (i : Input), w.os = os ∧ (w.forCall tape i).Shaped C.prog ∧ i.vars = [] ∧ Input.okWide C.prog (w.forCall tape i) .any w.heap.size f i ∧
   ((s.pre enc C.prog fn conds apart (w.forCall tape i).memory i.args ∧ X (w.forCall tape i).memory i.args) ∧ sizedMet enc C.prog fn (OpenSpec.ofChange s) apart (w.forCall tape i).memory i.args) ∧ a.holds C.prog (lone (Frame.enter C.prog f i.args .normal) [] (w.forCall tape i)))
  (contract : ∀ (W : World) (base : Nat) (args : Array Value) (ds gs : List (DataW H)) (before : List MemPlace),
   (∀ (j : Nat) t v, fn.params[j]? = some t → args[j]? = some v → Value.okWide C.prog W .any base t v) →
   DataW.Whole enc C.prog fn.params.toList s.vars apart W args.toList ds gs before →
   (DataW.weightsEach C.prog (fn.params.toList ++ s.plain.varTypes C.prog) (ds ++ gs)).all (· ≤ reachBytes) = true → X W args → W.ShapedOpen C.prog →
   Calls C.prog f args W fun e W' => ∃ v, e = .returned v ∧ s.post enc C.prog fn apart fresh handsOn again W args v W') :
  ReturnsInHanded a C os f .any (fun w args => (s.pre enc C.prog fn conds apart w args ∧ X w args) ∧ sizedMet enc C.prog fn (OpenSpec.ofChange s) apart w args) (s.post enc C.prog fn apart fresh handsOn again) := by
 refine returnsInHanded_of_calls own started noInit witness fun w tape i _ hsh _ hok hpre _ => ?_
 obtain ⟨_, _, _, fn', hfn', _, _, _, _, hval⟩ := hok
 obtain rfl : fn' = fn := Option.some.inj (hfn'.symm.trans hfn)
 obtain ⟨⟨⟨ds, gs, before, hw, _⟩, hx⟩, hz⟩ := hpre
 refine (contract (w.forCall tape i) w.heap.size i.args ds gs before hval (DataW.Whole.of_heap (w' := w.forCall tape i) (by rfl) hw) (hz.weights hw) (hX _ _ _ (by rfl) hx) hsh).mono fun e W' hh => ?_
 obtain ⟨v, rfl, hp⟩ := hh
 exact ChangeSpec.post_blind hp
end Go.Proofs.YtilcofpceadpbaaGreatDoor
namespace Go.Proofs.YtilcofpceadpbaaGreatDoor
open Go.ChangeShapes Go.WideShapes Go.ChangeAt Go.RowKit Go.ChangeMaps

theorem g_sp : Tryz.prog.globalNamed "strings.asciiSpace" = some 1 := by kernel_rfl
theorem sp_type : (Tryz.prog.globals[1]?).map (·.type) = some 185 := by kernel_rfl
theorem gp_type : (Tryz.prog.globals[0]?).map (·.type) = some 181 := by kernel_rfl
set_option maxRecDepth 100000 in
theorem spW {W : World} (h : laidMetH Tryz.prog Rows.heapApartRow.laid W) : SpW W := by
 rw [MakeChecks.laidMetH_plain _ _ _ (by kernel_rfl)] at h
 have h2 : laidMet Tryz.prog (("strings.asciiSpace", Lib.tabData .u8 Lib.asciiSpaceTab) :: []) W := laidMet.tail (laidMet.tail (laidMet.tail (laidMet.tail h)))
 exact Lib.tabIs_of_head g_sp sp_type Tryz.underlying185 Tryz.underlying5 (by kernel_rfl) (by kernel_rfl) h2
set_option maxRecDepth 100000 in
theorem tabW {W : World} (h : laidMetH Tryz.prog Rows.heapApartRow.laid W) : Tab W := by
 rw [MakeChecks.laidMetH_plain _ _ _ (by kernel_rfl)] at h
 have h2 : laidMet Tryz.prog (("internal/strconv.uint64pow10", Lib.tabData .u64 Lib.pow10Tab) :: [("unicode.White_Space", Rows.laid_unicode_White_Space), ("strings.asciiSpace", Rows.laid_strings_asciiSpace)]) W := laidMet.tail (laidMet.tail h)
 exact Lib.tabIs_of_head g_pow10 gp_type Tryz.underlying181 Tryz.underlying23 (by kernel_rfl) (by kernel_rfl) h2
set_option maxRecDepth 100000 in
theorem hapart_lifted (os : Os) (started : os.Started) (H : Type) (enc : TypeId × Value → H) :
  ReturnsInHanded {} Tryz.checked os 3 .any (fun w args => (Rows.heapApartSpec.pre enc Tryz.prog Tryz.f3 [] false w args ∧ laidMetH Tryz.prog Rows.heapApartRow.laid w) ∧ sizedMet enc Tryz.prog Tryz.f3 (OpenSpec.ofChange Rows.heapApartSpec) false w args)
   (Rows.heapApartSpec.post enc Tryz.prog Tryz.f3 false true false false) := by
 refine ret_and_shaped (C := Tryz.checked) (X := fun w _ => laidMetH Tryz.prog Rows.heapApartRow.laid w) (fun _ _ _ hh h => h.of_heap hh) own started (by kernel_rfl) Tryz.func3
  (ChangeSpec.witness_shaped (enc := enc) (C := Tryz.checked) (os := os) (X := fun w _ => laidMetH Tryz.prog Rows.heapApartRow.laid w) false (World.laidAll Tryz.prog os Rows.heapApartRow.laid) #[.int .i64 0, .slice none 0 0, .agg #[.int .i64 0, .int .u64 0, .int .i64 0, .int .i64 0, .string ByteArray.empty, .int .u64 0, .int .i64 0, .int .i64 0, .string ByteArray.empty, .int .u64 0, .int .i64 0, .int .i64 0, .string ByteArray.empty, .int .u64 0, .int .i64 0, .slice none 0 0, .int .i64 0, .slice none 0 0, .slice none 0 0]] 8 (World.laidAll_os _ _ _)
   (World.shaped_of_ZipB (by kernel_rfl) (by kernel_rfl)) (by kernel_rfl) (by kernel_rfl) (by kernel_rfl)
   (by rw [MakeChecks.laidMetH_plain _ _ _ (by kernel_rfl)]; exact laidMet_laidAll _ (by kernel_rfl) (by kernel_rfl))) ?_
 intro W base args ds gs before hval0 hW hsz0 hL hsh
 have hval : ∀ (j : Nat) t v, Tryz.f3.params[j]? = some t → args[j]? = some v → Value.okWide Tryz.prog W .any base t v := hval0
 have hsz : (DataW.weightsEach Tryz.prog (Tryz.f3.params.toList ++ Rows.heapApartSpec.plain.varTypes Tryz.prog) (ds ++ gs)).all (· ≤ reachBytes) = true := hsz0
 have hW' := hW
 obtain ⟨p, q, hA0, hV, rfl, hfz, hnd⟩ := hW
 have hA : DataW.TrodAll enc Tryz.prog W 0 (fun _ => true) true Tryz.f3.params.toList args.toList ds p := hA0
 rw [Tryz.params3] at hA hval hsz
 obtain ⟨v0, vs0, d0, ds0, p0, q0, hargs0, rfl, rfl, h0, r0⟩ := trodAll_cons hA
 obtain ⟨v1, vs1, d1, ds1, p1, q1, rfl, rfl, rfl, h1, r1⟩ := trodAll_cons r0
 obtain ⟨v2, vs2, d2, ds2, p2, q2, rfl, rfl, rfl, h2, r2⟩ := trodAll_cons r1
 obtain ⟨rfl, rfl, rfl⟩ := trodAll_nil r2
 obtain rfl : args = #[v0, v1, v2] := by cases args; simp_all
 obtain ⟨rfl, rfl⟩ := trodVars_none hV
 obtain ⟨lim, rfl, rfl, rfl, w0⟩ := open_int Tryz.underlying3 (hval 0 3 v0 rfl rfl) h0
 obtain ⟨sl, rfl, w1⟩ := open_sl Tryz.underlying22 (hval 1 22 v1 rfl rfl) h1 (decSlice Tryz.underlying22 (K := 19) (by kernel_rfl) (by omega) (fun _ => rfl) decHAct)
 obtain ⟨a, rfl, w2⟩ := open_agg (.inl ⟨_, Tryz.underlying33⟩) (hval 2 33 v2 rfl rfl) h2 decHAct
 refine (heapApart_walk lim (hi_wf w0) sl.xs sl.A sl.cap a W w1.reads (has_fit w1 (sized_arg hsz (j := 1) rfl rfl)).1 (has_fit w1 (sized_arg hsz (j := 1) rfl rfl)).2 (ha_fit w2 (sized_arg hsz (j := 2) rfl rfl)) (spW hL) (tabW hL)).mono fun e W' ⟨he, hb⟩ => ⟨_, he, ?_⟩
 exact law_post laidOut hW' rfl rfl Tryz.underlying4 (by kernel_rfl) rfl rfl rfl hb
theorem hapart_holds : Rows.HeapApartSaid :=
 OpenClaim.holds_of_wide 3 Tryz.f3 rfl rfl rfl rfl rfl rfl rfl ⟨rfl, rfl, rfl, rfl, rfl⟩ rfl rfl rfl rfl rfl (by kernel_rfl) Tryz.func3 (by kernel_rfl)
  (of_decide_eq_true (by kernel_rfl)) (by unfold Func.isWrapper; first | (rw [if_pos (by decide +kernel)]; kernel_rfl) | (rw [if_neg (by decide +kernel)]; exact ⟨rfl, rfl⟩))
  (fun os started H enc _ => hapart_lifted os started H enc)
theorem hapart_plain (f : FuncId) (fn : Func) (hf : Tryz.pinned.checked.prog.funcNamed Rows.heapApartRow.func = some f) (hfn : Tryz.pinned.checked.prog.funcs[f]? = some fn) :
  true = Tryz.pinned.checked.prog.looks [] ∧ ∀ (j : Nat) t, fn.params[j]? = some t → Tryz.pinned.checked.prog.wantsStandIn t = false := by
 obtain rfl : f = 3 := Option.some.inj ((show Tryz.prog.funcNamed Rows.heapApartRow.func = some 3 by kernel_rfl).symm.trans hf) |>.symm
 obtain rfl : fn = Tryz.f3 := (Option.some.inj (Tryz.func3.symm.trans hfn)).symm
 refine ⟨by kernel_rfl, fun j t ht => ?_⟩
 rw [Tryz.params3] at ht
 have hm : t ∈ [22, 3, 33] := by have := Array.mem_of_getElem? ht; simp at this ⊢; first | omega | (rcases this with h | h | h <;> simp [h]) | (rcases this with h | h <;> simp [h])
 have hall : ([22, 3, 33].all fun u => !Tryz.prog.wantsStandIn u) = true := by kernel_rfl
 exact (show Tryz.prog.wantsStandIn t = false by simpa using List.all_eq_true.1 hall t hm)
theorem hapart_card : Rows.HeapApartCardSaid :=
 Claim7.holds_tied_plain_at .later [] _ _ _ _ hapart_holds (fun _ h => by cases h) (by kernel_rfl) (fun _ h => by cases h) heapApart_row_tie rfl ⟨rfl, rfl⟩ (by kernel_rfl) rfl hapart_plain (by kernel_rfl)
#print axioms hapart_card
end Go.Proofs.YtilcofpceadpbaaGreatDoor
