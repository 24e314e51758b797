/-
 HeapApart: part 6 of what the claim rests on.
-/
import Derived.Test.YtilcofpceadpbaaGreatDoorA03
import Derived.Test.YtilcofpceadpbaaGreatDoorA04
import Derived.Test.YtilcofpceadpbaaGreatDoorA05
set_option linter.unusedVariables false
set_option linter.unusedSimpArgs false
set_option maxHeartbeats 64000000
namespace Go.Proofs.YtilcofpceadpbaaGreatDoor
open Go.ChangeShapes Go.WideShapes Go.ChangeAt Go.RowKit

theorem rflat_any (k : Int) (w : World) : Calls Tryz.prog 121 #[.int .i64 k] w (Ret (.bool (tb (Flat k))) w) := by
 by_cases h1 : 0 ≤ k
 ·by_cases h2 : k ≤ 7
  ·rw [tb_true ⟨h1, h2⟩]
   go_enter Tryz.func121, Tryz.ntmps121
   go_wp2
   go_ret
   exact ⟨rfl, rfl⟩
  ·rw [tb_false (fun e => h2 e.2)]
   have h2' : 7 < k := by omega
   go_enter Tryz.func121, Tryz.ntmps121
   go_wp2
   go_ret
   exact ⟨rfl, rfl⟩
 ·rw [tb_false (fun e => h1 e.1)]
  have h1' : k < 0 := by omega
  go_enter Tryz.func121, Tryz.ntmps121
  go_wp2
  go_ret
  exact ⟨rfl, rfl⟩
def RChkPost (t : LTy) (deep m : Nat) (w : World) (e : Ending) (w' : World) : Prop :=
 ∃ (m' : Nat) (ok : Bool), e = .returned (.tuple #[.int .i64 (m' : Int), .bool ok]) ∧ Below w.heap.size w w' ∧ (ok = true → m' = m + nodes (strip t) ∧ Chk (51 - deep) (strip t) ∧ m' ≤ 8796093032209) ∧ (Chk (51 - deep) (strip t) → m + nodes (strip t) ≤ 10000 → ok = true)
theorem rchk_no {t : LTy} {deep m m' : Nat} {w w' : World} (hb : Below w.heap.size w w') (h : ¬ (Chk (51 - deep) (strip t) ∧ m + nodes (strip t) ≤ 10000)) : RChkPost t deep m w (.returned (.tuple #[.int .i64 (m' : Int), .bool false])) w' :=
 ⟨m', false, rfl, hb, (fun e => by cases e), fun h1 h2 => (h ⟨h1, h2⟩).elim⟩
theorem rchk_yes {t : LTy} {deep m m' : Nat} {w w' : World} (hb : Below w.heap.size w w') (h1 : m' = m + nodes (strip t)) (h2 : Chk (51 - deep) (strip t)) (h3 : m' ≤ 8796093032209) : RChkPost t deep m w (.returned (.tuple #[.int .i64 (m' : Int), .bool true])) w' :=
 ⟨m', true, rfl, hb, (fun _ => ⟨h1, h2, h3⟩), fun _ _ => rfl⟩
theorem chk_up {deep : Nat} (hd : deep ≤ 50) : 51 - deep = (50 - deep) + 1 := by omega
theorem union_part {t x : LTy} {k deep : Nat} {last : Int} (hK : t.kind = 7) (hx : t.xs[k]? = some x) (hl : (k = 0 ∧ last = 0) ∨ (0 < k ∧ ∃ y, t.xs[k - 1]? = some y ∧ last = y.kind)) (h0 : 0 ≤ last) (hd : deep ≤ 50) :
  (PartOk (strip t).kind (strip t).names (strip t).args k (strip x) ∧ Chk (50 - deep) (strip x)) ↔ (deep < 50 ∧ last < x.kind ∧ x.kind ≤ 6 ∧ x.ns.length = 0 ∧ x.xs.length = 0) := by
 rw [strip_kind, hK]
 constructor
 ·rintro ⟨hp, hc⟩
  have h1 := hp.1 rfl
  rw [strip_kind] at h1
  have h2 := chk_deep hc
  have h3 := chk_head hc
  have h4 : x.ns.length = 0 ∧ x.xs.length = 0 := by rcases h3 with ⟨_, _, h, h'⟩ | ⟨h, _⟩ | ⟨h, _⟩ | ⟨h, _⟩ <;> first | omega | exact ⟨h, h'⟩
  refine ⟨by omega, ?_, by omega, h4.1, h4.2⟩
  rcases hl with ⟨_, rfl⟩ | ⟨hk, y, hy, rfl⟩
  ·exact h1.1
  ·have := h1.2.2 (strip y) hk (strip_at hy)
   rwa [strip_kind] at this
 ·rintro ⟨h1, h2, h3, h4, h5⟩
  refine ⟨⟨fun _ => ?_, (fun e => by cases e)⟩, ?_⟩
  ·rw [strip_kind]
   refine ⟨by omega, by omega, fun b hk hb => ?_⟩
   rcases hl with ⟨h, _⟩ | ⟨_, y, hy, rfl⟩
   ·omega
   ·have := strip_at hy
    rw [this] at hb
    rw [← Option.some.inj hb, strip_kind]
    exact h2
  ·obtain ⟨n, hn⟩ : ∃ n, 50 - deep = n + 1 := ⟨49 - deep, by omega⟩
   rw [hn]
   refine ⟨.inl ⟨by rw [strip_kind]; omega, by rw [strip_kind]; omega, by rw [strip_names]; exact h4, by rw [strip_len]; exact h5⟩, fun i a ha => ?_⟩
   rw [strip_args, List.eq_nil_of_length_eq_zero h5] at ha
   simp at ha
theorem shape_part {t x : LTy} {k : Nat} {s : ByteArray} (hK : t.kind = 8) (hs : t.ns[k]? = some s) :
  PartOk (strip t).kind (strip t).names (strip t).args k (strip x) ↔ (Flat x.kind ∧ NameOk s ∧ ∀ r, 0 < k → t.ns[k - 1]? = some r → Op.bytesLess r.toList s.toList = true) := by
 rw [strip_kind, hK, strip_names]
 constructor
 ·intro e
  have h1 := e.2 rfl
  rw [strip_kind] at h1
  exact ⟨h1.1, (h1.2 s hs).1, (h1.2 s hs).2⟩
 ·intro e
  refine ⟨(fun h => by cases h), fun _ => ⟨by rw [strip_kind]; exact e.1, fun s' hs' => ?_⟩⟩
  rw [hs] at hs'
  obtain rfl := Option.some.inj hs'
  exact ⟨e.2.1, e.2.2⟩
theorem other_part {t x : LTy} {k : Nat} (h7 : t.kind ≠ 7) (h8 : t.kind ≠ 8) : PartOk (strip t).kind (strip t).names (strip t).args k (strip x) := by
 rw [strip_kind]
 exact ⟨fun e => (h7 e).elim, fun e => (h8 e).elim⟩
def PartsTo (t : LTy) (deep k : Nat) : Prop := ∀ (j : Nat) (a : Ty), j < k → (strip t).args[j]? = some a → PartOk (strip t).kind (strip t).names (strip t).args j a ∧ Chk (50 - deep) a
theorem parts_step {t x : LTy} {deep k : Nat} (h : PartsTo t deep k) (hx : t.xs[k]? = some x) (h1 : PartOk (strip t).kind (strip t).names (strip t).args k (strip x)) (h2 : Chk (50 - deep) (strip x)) : PartsTo t deep (k + 1) := fun j a hj ha => by
 rcases Nat.lt_or_ge j k with h3 | h3
 ·exact h j a h3 ha
 ·obtain rfl : j = k := by omega
  rw [strip_at hx] at ha
  obtain rfl := Option.some.inj ha
  exact ⟨h1, h2⟩
theorem parts_chk {t : LTy} {deep : Nat} (hd : deep ≤ 50) (hh : HeadOk t.kind t.ns.length t.xs.length) (h : PartsTo t deep t.xs.length) : Chk (51 - deep) (strip t) := by
 rw [chk_up hd]
 refine ⟨by rw [strip_kind, strip_names, strip_len]; exact hh, fun i a ha => h i a ?_ ha⟩
 have := (List.getElem?_eq_some_iff.1 ha).1
 rwa [strip_len] at this
theorem chk_parts {t x : LTy} {deep k : Nat} (hd : deep ≤ 50) (h : Chk (51 - deep) (strip t)) (hx : t.xs[k]? = some x) : PartOk (strip t).kind (strip t).names (strip t).args k (strip x) ∧ Chk (50 - deep) (strip x) := by
 rw [chk_up hd] at h
 exact h.2 k _ (strip_at hx)
theorem nodes_upto {t x : LTy} {k m M : Nat} (hM : M = m + 1 + nodesL ((strip t).args.take k)) (hx : t.xs[k]? = some x) (h : m + nodes (strip t) ≤ 10000) : M + nodes (strip x) ≤ 10000 := by
 have h1 := nodesL_take _ _ _ (strip_at hx)
 have h2 := nodesL_take_le (strip t).args (k + 1)
 rw [nodes_args] at h
 omega
set_option maxRecDepth 100000 in
theorem rchk_any (t : LTy) : ∀ (deep m : Nat) (w : World), LIn w w.heap.size t → 1 ≤ deep → deep ≤ 51 → m ≤ 8796093032209 →
  Calls Tryz.prog 103 #[t.val, .int .i64 (deep : Int), .int .i64 (m : Int)] w (RChkPost t deep m w) := by
 induction t using lty_ind with
 | h t ih =>
 intro deep m w hin hdeep1 hdeep hm
 have hb0 : Below w.heap.size w (w.alloc (.cells #[.int .i64 t.kind, .slice t.A t.ns.length t.c, .slice t.A2 t.xs.length t.c2] 31)) := (Below.refl _ _).alloc (Nat.le_refl _) _
 have hl1 := hin.n1.2
 have hl2 := hin.n2.2
 have HB := Lib.hid hb0
 have HIN := Lib.hid hin
 have HIH := Lib.hid ih
 clear hin ih hb0
 unfold LTy.val
 have hm64 : (m : Int) + 1 ≤ 9223372036854775807 := by omega
 by_cases hd : deep ≤ 50
 case neg =>
  have HN := Lib.hid (show ¬ (Chk (51 - deep) (strip t) ∧ m + nodes (strip t) ≤ 10000) from fun e => by have := chk_deep e.1; omega)
  have hd2 : decide (50 < (deep : Int)) = true := decide_eq_true (by omega)
  clear hd
  go_enter Tryz.func103, Tryz.ntmps103
  go_wp2
  refine bodyPost_ret (v := .tuple #[.int .i64 ((m + 1 : Nat) : Int), .bool false]) (by simp [results, Tryz.results103, go_sem]) rfl ?_
  exact rchk_no (by first | exact HB.out | exact HB.out.drew) HN.out
 have hd2 : decide (50 < (deep : Int)) = false := decide_eq_false (by omega)
 by_cases hm2 : m + 1 ≤ 10000
 case neg =>
  have HN := Lib.hid (show ¬ (Chk (51 - deep) (strip t) ∧ m + nodes (strip t) ≤ 10000) from fun e => by have := nodes_pos (strip t); omega)
  have hm' : decide (10000 < (m : Int) + 1) = true := decide_eq_true (by omega)
  clear hd hm2
  go_enter Tryz.func103, Tryz.ntmps103
  go_wp2
  refine bodyPost_ret (v := .tuple #[.int .i64 ((m + 1 : Nat) : Int), .bool false]) (by simp [results, Tryz.results103, go_sem]) rfl ?_
  exact rchk_no (by first | exact HB.out | exact HB.out.drew) HN.out
 have hm' : decide (10000 < (m : Int) + 1) = false := decide_eq_false (by omega)
 obtain ⟨g, hg⟩ : ∃ g, g = w.heap.size := ⟨_, rfl⟩
 go_enter Tryz.func103, Tryz.ntmps103
 go_upto_block 0 with fail
 rw [← hg]
 refine gen_wpT fun W hW => ?_
 have KT := Lib.hid (show W.heap[g]? = some (.cells #[.int .i64 t.kind, .slice t.A t.ns.length t.c, .slice t.A2 t.xs.length t.c2] 31 (0, 0)) by rw [← hW]; exact heap_new_at _ _ _ hg.symm)
 have KB := Lib.hid (show Below w.heap.size w W by rw [← hW]; exact HB.out)
 have KL := Lib.hid (HIN.out.on KB.out)
 clear hW HB hg
 obtain ⟨n1, hn1⟩ : ∃ n, n = t.ns.length := ⟨_, rfl⟩
 obtain ⟨n2, hn2⟩ : ∃ n, n = t.xs.length := ⟨_, rfl⟩
 obtain ⟨K, hK⟩ : ∃ k, k = t.kind := ⟨_, rfl⟩
 rw [← hn1] at hl1
 rw [← hn2] at hl2
 rw [← hn1, ← hn2, ← hK]
 have HTN := Lib.hid (show t.ns.length = n1 ∧ t.xs.length = n2 ∧ t.kind = K from ⟨hn1.symm, hn2.symm, hK.symm⟩)
 clear hn1 hn2 hK hd2 hm'
 have hbad : ∀ (w' : World) (M : Nat), Below w.heap.size w w' → ¬ (Chk (51 - deep) (strip t) ∧ m + nodes (strip t) ≤ 10000) → RChkPost t deep m w (.returned (.tuple #[.int .i64 (M : Int), .bool false])) w' := fun w' M hb hh => rchk_no hb hh
 have HBAD := Lib.hid hbad
 clear hbad
 have lg := blk_lt KT.out
 have hwm : IntKind.i64.wrap ((m : Int) + 1) = (m : Int) + 1 := IntWalk.i64_in _ (by omega)
 go_cut [2] from 29 to 158 (fun s2 wx => s2 = .int .i64 ((m : Int) + 1) ∧ wx = W ∧ Hid (HeadOk K n1 n2 ∧ ∀ (i : Nat) (x : LTy), t.xs[i]? = some x → PartOk (strip t).kind (strip t).names (strip t).args i (strip x)))
 case rest =>
  obtain ⟨rfl, rfl, HH⟩ := hcut
  have r2 := cell_of_blk (i := 2) KT.out rfl
  rw [HTN.out.2.1] at r2
  go_wp2_with fail
  clear r2
  go_loopw [2, 162] (fun s i wr => ∃ k M : Nat, k ≤ n2 ∧ i = .int .i64 k ∧ s = .int .i64 (M : Int) ∧ Hid (M = m + 1 + nodesL ((strip t).args.take k)) ∧ M ≤ 8796093032209 ∧ Hid (PartsTo t deep k) ∧ Hid (Below wc.heap.size wc wr)) (fun _ i _ => n2 - (intOf i).toNat)
  case atStart => exact ⟨0, m + 1, by omega, rfl, rfl, Lib.hid (by simp [nodesL]), by omega, Lib.hid (fun j a hj => by omega), Lib.hid (Below.refl _ _)⟩
  case round =>
   obtain ⟨k, M, hk, rfl, rfl, HM, hM1, HP, HW⟩ := hrel
   have KBr := Lib.hid (KB.out.trans (HW.out.mono KB.out.size))
   by_cases hlt : k < n2
   case neg =>
    obtain rfl : k = n2 := by omega
    have HFIN := Lib.hid (show RChkPost t deep m w (.returned (.tuple #[.int .i64 (M : Int), .bool true])) wr from by
     have hM := HM.out
     have htn := HTN.out
     rw [List.take_of_length_le (by rw [strip_len, htn.2.1]; exact Nat.le_refl _)] at hM
     refine rchk_yes KBr.out (by rw [nodes_args, hM]; omega) (parts_chk hd ?_ ?_) hM1
     ·rw [htn.1, htn.2.1, htn.2.2]; exact HH.out.1
     ·rw [htn.2.1]; exact HP.out)
    go_wp2
    refine bodyPost_ret (v := .tuple #[.int .i64 (M : Int), .bool true]) (by simp [results, Tryz.results103, go_sem]) rfl ?_
    exact HFIN.out
   obtain ⟨x, hx⟩ : ∃ x, t.xs[k]? = some x := ⟨_, List.getElem?_eq_getElem (by rw [HTN.out.2.1]; exact hlt)⟩
   have hinr := HIN.out.on KBr.out
   obtain ⟨ad, hA2, hadl, x0, x1, x2⟩ := hinr.cells hx
   have hll : (ad.add (k * 3)).block < wr.heap.size := by rw [block_add']; exact hadl
   have hk' : (k : Int) < (n2 : Int) := by omega
   have hk0 : (0 : Int) ≤ k := by omega
   have hbx : Below wr.heap.size wr (wr.alloc (.cells #[.int .i64 x.kind, .slice x.A x.ns.length x.c, .slice x.A2 x.xs.length x.c2] 31)) := (Below.refl _ _).alloc (Nat.le_refl _) _
   have hcall := HIH.out x (List.mem_of_getElem? hx) (deep + 1) M _ ((hinr.part hx).on hbx) (by omega) (by omega) hM1
   unfold LTy.val at hcall
   have e1 : ((deep + 1 : Nat) : Int) = (deep : Int) + 1 := by omega
   rw [e1] at hcall
   have HC := Lib.hid hcall
   have HBX := Lib.hid (KBr.out.trans (hbx.mono KBr.out.size))
   have HX := Lib.hid hx
   have HWX := Lib.hid (HW.out.trans (hbx.mono HW.out.size))
   clear hcall e1 hbx hinr hx hadl
   rw [hA2]
   go_wp2_with fail
   refine HC.out.mono ?_
   rintro e w5 ⟨m', ok, rfl, hb5, h1, h2⟩
   have HB5 := Lib.hid (HBX.out.trans (hb5.mono HBX.out.size))
   have HW5 := Lib.hid (HWX.out.trans (hb5.mono HWX.out.size))
   clear hb5
   cases ok with
   | false =>
    have HFIN := Lib.hid (HBAD.out w5 m' HB5.out (fun e => by
     have h3 := (chk_parts hd e.1 HX.out).2
     have h4 := h2 (by rw [show 51 - (deep + 1) = 50 - deep by omega]; exact h3) (nodes_upto HM.out HX.out e.2)
     cases h4))
    clear h1 h2
    go_wp2
    refine bodyPost_ret (v := .tuple #[.int .i64 (m' : Int), .bool false]) (by simp [results, Tryz.results103, go_sem]) rfl ?_
    exact HFIN.out
   | true =>
    obtain ⟨rfl, hc, hle⟩ := h1 rfl
    rw [show 51 - (deep + 1) = 50 - deep by omega] at hc
    have HP2 := Lib.hid (parts_step HP.out HX.out (HH.out.2 k x HX.out) hc)
    have HM2 := Lib.hid (show M + nodes (strip x) = m + 1 + nodesL ((strip t).args.take (k + 1)) by rw [nodesL_take _ _ _ (strip_at HX.out), HM.out]; omega)
    clear h2 hc
    go_wp2_with fail
    go_roundw
    case rel => exact ⟨k + 1, M + nodes (strip x), by omega, by go_num, by first | rfl | go_num, HM2, hle, HP2, HW5⟩
    case measure => simp [intOf]; omega
 case first =>
  have htn := HTN.out
  have HHD := Lib.hid (fun e => show HeadOk K n1 n2 by have := chk_head (t := t) (n := 51 - deep) e; rwa [htn.1, htn.2.1, htn.2.2] at this)
  have e0 := cell_of_blk (i := 0) KT.out rfl
  refine wp_block (wp_seq_k (fun K0 hK0 => ?_))
  obtain ⟨b0, hb0⟩ : ∃ b, b = decide (0 ≤ K ∧ K ≤ 6) := ⟨_, rfl⟩
  have HB0 := Lib.hid hb0
  clear hb0 e0
  go_cut [27, 29] from 29 to 36 (fun s27 s29 wx => s27 = .int .i64 K ∧ s29 = .bool b0 ∧ wx = W)
  case first =>
   rcases head_cases K with hk | hk | hk | hk | hk | hk | hk | hk | hk | hk | hk
   ·skip
    have HK := Lib.hid hk
    have f0 : (K == 0) = true := beq_iff_eq.2 (by omega)
    have hv : b0 = true := by rw [HB0.out]; exact decide_eq_true (by have := HK.out; omega)
    clear hk
    go_wp2_with fail
    go_meet
    case rel => exact ⟨rfl, by rw [hv], rfl⟩
   ·skip
    have HK := Lib.hid hk
    have f0 : (K == 0) = false := beq_eq_false_iff_ne.2 (by omega)
    have f1 : (K == 1) = true := beq_iff_eq.2 (by omega)
    have hv : b0 = true := by rw [HB0.out]; exact decide_eq_true (by have := HK.out; omega)
    clear hk
    go_wp2_with fail
    go_meet
    case rel => exact ⟨rfl, by rw [hv], rfl⟩
   ·skip
    have HK := Lib.hid hk
    have f0 : (K == 0) = false := beq_eq_false_iff_ne.2 (by omega)
    have f1 : (K == 1) = false := beq_eq_false_iff_ne.2 (by omega)
    have f2 : (K == 2) = true := beq_iff_eq.2 (by omega)
    have hv : b0 = true := by rw [HB0.out]; exact decide_eq_true (by have := HK.out; omega)
    clear hk
    go_wp2_with fail
    go_meet
    case rel => exact ⟨rfl, by rw [hv], rfl⟩
   ·skip
    have HK := Lib.hid hk
    have f0 : (K == 0) = false := beq_eq_false_iff_ne.2 (by omega)
    have f1 : (K == 1) = false := beq_eq_false_iff_ne.2 (by omega)
    have f2 : (K == 2) = false := beq_eq_false_iff_ne.2 (by omega)
    have f3 : (K == 3) = true := beq_iff_eq.2 (by omega)
    have hv : b0 = true := by rw [HB0.out]; exact decide_eq_true (by have := HK.out; omega)
    clear hk
    go_wp2_with fail
    go_meet
    case rel => exact ⟨rfl, by rw [hv], rfl⟩
   ·skip
    have HK := Lib.hid hk
    have f0 : (K == 0) = false := beq_eq_false_iff_ne.2 (by omega)
    have f1 : (K == 1) = false := beq_eq_false_iff_ne.2 (by omega)
    have f2 : (K == 2) = false := beq_eq_false_iff_ne.2 (by omega)
    have f3 : (K == 3) = false := beq_eq_false_iff_ne.2 (by omega)
    have f4 : (K == 4) = true := beq_iff_eq.2 (by omega)
    have hv : b0 = true := by rw [HB0.out]; exact decide_eq_true (by have := HK.out; omega)
    clear hk
    go_wp2_with fail
    go_meet
    case rel => exact ⟨rfl, by rw [hv], rfl⟩
   ·skip
    have HK := Lib.hid hk
    have f0 : (K == 0) = false := beq_eq_false_iff_ne.2 (by omega)
    have f1 : (K == 1) = false := beq_eq_false_iff_ne.2 (by omega)
    have f2 : (K == 2) = false := beq_eq_false_iff_ne.2 (by omega)
    have f3 : (K == 3) = false := beq_eq_false_iff_ne.2 (by omega)
    have f4 : (K == 4) = false := beq_eq_false_iff_ne.2 (by omega)
    have f5 : (K == 5) = true := beq_iff_eq.2 (by omega)
    have hv : b0 = true := by rw [HB0.out]; exact decide_eq_true (by have := HK.out; omega)
    clear hk
    go_wp2_with fail
    go_meet
    case rel => exact ⟨rfl, by rw [hv], rfl⟩
   ·skip
    have HK := Lib.hid hk
    have f0 : (K == 0) = false := beq_eq_false_iff_ne.2 (by omega)
    have f1 : (K == 1) = false := beq_eq_false_iff_ne.2 (by omega)
    have f2 : (K == 2) = false := beq_eq_false_iff_ne.2 (by omega)
    have f3 : (K == 3) = false := beq_eq_false_iff_ne.2 (by omega)
    have f4 : (K == 4) = false := beq_eq_false_iff_ne.2 (by omega)
    have f5 : (K == 5) = false := beq_eq_false_iff_ne.2 (by omega)
    have f6 : (K == 6) = true := beq_iff_eq.2 (by omega)
    have hv : b0 = true := by rw [HB0.out]; exact decide_eq_true (by have := HK.out; omega)
    clear hk
    go_wp2_with fail
    go_meet
    case rel => exact ⟨rfl, by rw [hv], rfl⟩
   all_goals
    have HK := Lib.hid hk
    have f0 : (K == 0) = false := beq_eq_false_iff_ne.2 (by omega)
    have f1 : (K == 1) = false := beq_eq_false_iff_ne.2 (by omega)
    have f2 : (K == 2) = false := beq_eq_false_iff_ne.2 (by omega)
    have f3 : (K == 3) = false := beq_eq_false_iff_ne.2 (by omega)
    have f4 : (K == 4) = false := beq_eq_false_iff_ne.2 (by omega)
    have f5 : (K == 5) = false := beq_eq_false_iff_ne.2 (by omega)
    have f6 : (K == 6) = false := beq_eq_false_iff_ne.2 (by omega)
    have hv : b0 = false := by rw [HB0.out]; exact decide_eq_false (by have := HK.out; omega)
    clear hk
    go_wp2_with fail
    go_meet
    case rel => exact ⟨rfl, by rw [hv], rfl⟩
  case rest =>
   obtain ⟨rfl, rfl, rfl⟩ := hcut
   refine hK0 _ _ ?_
   clear hK0 K0
   cases b0 with
   | true =>
    have hKr := HB0.out.symm
    rw [decide_eq_true_eq] at hKr
    have HKR := Lib.hid hKr
    clear hKr
    by_cases hz1 : n1 = 0
    case neg =>
     have HN := Lib.hid (show ¬ (Chk (51 - deep) (strip t) ∧ m + nodes (strip t) ≤ 10000) from fun e => by have := HHD.out e.1; have := HKR.out; rcases ‹HeadOk K n1 n2› with e | e | e | e <;> omega)
     have hs1 : ((n1 : Int) == 0) = false := beq_eq_false_iff_ne.2 (by omega)
     clear hz1
     go_wp2_with fail
     refine wp_region_noPanic ?_
     refine wp_region_held_drew (S := fun w' => w'.heap[g]? = some (.cells #[.int .i64 t.kind, .slice t.A t.ns.length t.c, .slice t.A2 t.xs.length t.c2] 31 (0, 0))) (by kernel_rfl) (KT.out) (fun hHeld => ?_)
     refine tk 0 37 (.int .i64 ((m : Int) + 1)) hHeld ?_; simp only [Act.put, zq1, zq2, zq3]
     refine tk 1 38 (.pointer (some ⟨g, 1, none⟩)) hHeld ?_; simp only [Act.put, zq1, zq2, zq3]
     refine tk 2 39 (.slice t.A n1 t.c) hHeld ?_ (hy := Or.inl ⟨by rfl, fun w' hS => (by have q := cell_of_blk (i := 1) hS rfl; rw [htn.1] at q; go_simp)⟩); simp only [Act.put, zq1, zq2, zq3]
     refine tk 3 40 (.int .i64 (n1 : Int)) hHeld ?_; simp only [Act.put, zq1, zq2, zq3]
     refine tk 4 41 (.bool false) hHeld ?_; simp only [Act.put, zq1, zq2, zq3]
     refine tk 5 42 (.bool false) hHeld ?_; simp only [Act.put, zq1, zq2, zq3]
     refine tu 6 43 hHeld ?_; simp only [Act.put, zq1, zq2, zq3]
     refine tu 7 44 hHeld ?_; simp only [Act.put, zq1, zq2, zq3]
     refine tu 8 45 hHeld ?_; simp only [Act.put, zq1, zq2, zq3]
     refine tu 9 46 hHeld ?_; simp only [Act.put, zq1, zq2, zq3]
     refine tk 10 47 (.bool false) hHeld ?_; simp only [Act.put, zq1, zq2, zq3]
     refine tk 11 6 (.int .i64 ((m : Int) + 1)) hHeld ?_; simp only [Act.put, zq1, zq2, zq3]
     refine tk 12 7 (.bool false) hHeld ?_; simp only [Act.put, zq1, zq2, zq3]
     refine wpAnyH_done (by kernel_rfl) ?_ _
     refine NoPanic.normal ?_
     go_wp2
     refine bodyPost_ret (v := .tuple #[.int .i64 ((m + 1 : Nat) : Int), .bool false]) (by simp [results, Tryz.results103, go_sem]) rfl ?_
     exact HBAD.out _ _ (by first | exact KB.out | exact KB.out.drew) HN.out
    have hs1 : ((n1 : Int) == 0) = true := beq_iff_eq.2 (by omega)
    by_cases hz2 : n2 = 0
    case neg =>
     have HN := Lib.hid (show ¬ (Chk (51 - deep) (strip t) ∧ m + nodes (strip t) ≤ 10000) from fun e => by have := HHD.out e.1; have := HKR.out; rcases ‹HeadOk K n1 n2› with e | e | e | e <;> omega)
     have hs2 : ((n2 : Int) == 0) = false := beq_eq_false_iff_ne.2 (by omega)
     clear hz2 hz1
     go_wp2_with fail
     refine wp_region_noPanic ?_
     refine wp_region_held_drew (S := fun w' => w'.heap[g]? = some (.cells #[.int .i64 t.kind, .slice t.A t.ns.length t.c, .slice t.A2 t.xs.length t.c2] 31 (0, 0))) (by kernel_rfl) (KT.out) (fun hHeld => ?_)
     refine tk 0 37 (.int .i64 ((m : Int) + 1)) hHeld ?_; simp only [Act.put, zq1, zq2, zq3]
     refine tk 1 38 (.pointer (some ⟨g, 1, none⟩)) hHeld ?_; simp only [Act.put, zq1, zq2, zq3]
     refine tk 2 39 (.slice t.A n1 t.c) hHeld ?_ (hy := Or.inl ⟨by rfl, fun w' hS => (by have q := cell_of_blk (i := 1) hS rfl; rw [htn.1] at q; go_simp)⟩); simp only [Act.put, zq1, zq2, zq3]
     refine tk 3 40 (.int .i64 (n1 : Int)) hHeld ?_; simp only [Act.put, zq1, zq2, zq3]
     refine tk 4 41 (.bool true) hHeld ?_; simp only [Act.put, zq1, zq2, zq3]
     refine tk 5 42 (.bool true) hHeld ?_; simp only [Act.put, zq1, zq2, zq3]
     refine tk 6 43 (.pointer (some ⟨g, 2, none⟩)) hHeld ?_; simp only [Act.put, zq1, zq2, zq3]
     refine tk 7 44 (.slice t.A2 n2 t.c2) hHeld ?_ (hy := Or.inl ⟨by rfl, fun w' hS => (by have q := cell_of_blk (i := 2) hS rfl; rw [htn.2.1] at q; go_simp)⟩); simp only [Act.put, zq1, zq2, zq3]
     refine tk 8 45 (.int .i64 (n2 : Int)) hHeld ?_; simp only [Act.put, zq1, zq2, zq3]
     refine tk 9 46 (.bool false) hHeld ?_; simp only [Act.put, zq1, zq2, zq3]
     refine tk 10 47 (.bool false) hHeld ?_; simp only [Act.put, zq1, zq2, zq3]
     refine tk 11 6 (.int .i64 ((m : Int) + 1)) hHeld ?_; simp only [Act.put, zq1, zq2, zq3]
     refine tk 12 7 (.bool false) hHeld ?_; simp only [Act.put, zq1, zq2, zq3]
     refine wpAnyH_done (by kernel_rfl) ?_ _
     refine NoPanic.normal ?_
     go_wp2
     refine bodyPost_ret (v := .tuple #[.int .i64 ((m + 1 : Nat) : Int), .bool false]) (by simp [results, Tryz.results103, go_sem]) rfl ?_
     exact HBAD.out _ _ (by first | exact KB.out | exact KB.out.drew) HN.out
    have hs2 : ((n2 : Int) == 0) = true := beq_iff_eq.2 (by omega)
    have HY := Lib.hid (show ∀ w', Below w.heap.size w w' → RChkPost t deep m w (.returned (.tuple #[.int .i64 ((m + 1 : Nat) : Int), .bool true])) w' from fun w' hb => by
     have hx : t.xs = [] := List.eq_nil_of_length_eq_zero (by rw [htn.2.1]; exact hz2)
     refine rchk_yes hb (by rw [nodes_args, strip_args, hx]; simp [nodesL]) (parts_chk hd (.inl ⟨by rw [htn.2.2]; exact HKR.out.1, by rw [htn.2.2]; exact HKR.out.2, by rw [htn.1]; exact hz1, by rw [htn.2.1]; exact hz2⟩) ?_) (by omega)
     intro j a hj
     rw [hx] at hj
     simp at hj)
    clear hz1 hz2
    go_wp2_with fail
    refine wp_region_noPanic ?_
    refine wp_region_held_drew (S := fun w' => w'.heap[g]? = some (.cells #[.int .i64 t.kind, .slice t.A t.ns.length t.c, .slice t.A2 t.xs.length t.c2] 31 (0, 0))) (by kernel_rfl) (KT.out) (fun hHeld => ?_)
    refine tk 0 37 (.int .i64 ((m : Int) + 1)) hHeld ?_; simp only [Act.put, zq1, zq2, zq3]
    refine tk 1 38 (.pointer (some ⟨g, 1, none⟩)) hHeld ?_; simp only [Act.put, zq1, zq2, zq3]
    refine tk 2 39 (.slice t.A n1 t.c) hHeld ?_ (hy := Or.inl ⟨by rfl, fun w' hS => (by have q := cell_of_blk (i := 1) hS rfl; rw [htn.1] at q; go_simp)⟩); simp only [Act.put, zq1, zq2, zq3]
    refine tk 3 40 (.int .i64 (n1 : Int)) hHeld ?_; simp only [Act.put, zq1, zq2, zq3]
    refine tk 4 41 (.bool true) hHeld ?_; simp only [Act.put, zq1, zq2, zq3]
    refine tk 5 42 (.bool true) hHeld ?_; simp only [Act.put, zq1, zq2, zq3]
    refine tk 6 43 (.pointer (some ⟨g, 2, none⟩)) hHeld ?_; simp only [Act.put, zq1, zq2, zq3]
    refine tk 7 44 (.slice t.A2 n2 t.c2) hHeld ?_ (hy := Or.inl ⟨by rfl, fun w' hS => (by have q := cell_of_blk (i := 2) hS rfl; rw [htn.2.1] at q; go_simp)⟩); simp only [Act.put, zq1, zq2, zq3]
    refine tk 8 45 (.int .i64 (n2 : Int)) hHeld ?_; simp only [Act.put, zq1, zq2, zq3]
    refine tk 9 46 (.bool true) hHeld ?_; simp only [Act.put, zq1, zq2, zq3]
    refine tk 10 47 (.bool true) hHeld ?_; simp only [Act.put, zq1, zq2, zq3]
    refine tk 11 6 (.int .i64 ((m : Int) + 1)) hHeld ?_; simp only [Act.put, zq1, zq2, zq3]
    refine tk 12 7 (.bool true) hHeld ?_; simp only [Act.put, zq1, zq2, zq3]
    refine wpAnyH_done (by kernel_rfl) ?_ _
    refine NoPanic.normal ?_
    go_wp2
    refine bodyPost_ret (v := .tuple #[.int .i64 ((m + 1 : Nat) : Int), .bool true]) (by simp [results, Tryz.results103, go_sem]) rfl ?_
    exact HY.out _ (by first | exact KB.out | exact KB.out.drew)
   | false =>
    have hKr := HB0.out.symm
    rw [decide_eq_false_iff_not] at hKr
    have hcases : K = 7 ∨ K = 8 ∨ K = 9 ∨ ¬ (0 ≤ K ∧ K ≤ 9) := by omega
    clear hKr
    rcases hcases with hK | hK | hK | hK
    ·have HK := Lib.hid hK
     have f7 : (K == 7) = true := beq_iff_eq.2 (by omega)
     clear hK
     have r2 := cell_of_blk (i := 2) KT.out rfl
     rw [htn.2.1] at r2
     go_wp2_with fail
     clear r2
     go_loopw [2, 8, 53] (fun s l i wr => ∃ (k M : Nat) (last : Int), k ≤ n2 ∧ i = .int .i64 k ∧ s = .int .i64 (M : Int) ∧ l = .int .i64 last ∧ Hid (M = m + 1 + k) ∧ Hid (nodesL ((strip t).args.take k) = k) ∧ Hid (0 ≤ last) ∧ Hid ((k = 0 ∧ last = 0) ∨ (0 < k ∧ ∃ y, t.xs[k - 1]? = some y ∧ last = y.kind)) ∧ Hid (PartsTo t deep k) ∧ Hid (Below wc.heap.size wc wr)) (fun _ _ i _ => n2 - (intOf i).toNat)
     case atStart => exact ⟨0, m + 1, 0, by omega, rfl, rfl, rfl, Lib.hid rfl, Lib.hid rfl, Lib.hid (by omega), Lib.hid (.inl ⟨rfl, rfl⟩), Lib.hid (fun j a hj => by omega), Lib.hid (Below.refl _ _)⟩
     case round =>
      obtain ⟨k, M, last, hk, rfl, rfl, rfl, HM, HNL, HL0, HLL, HP, HW⟩ := hrel
      have KBr := Lib.hid (KB.out.trans (HW.out.mono KB.out.size))
      have hM' : (M : Int) ≤ 8796093040000 := by have := HM.out; omega
      by_cases hlt : k < n2
      case neg =>
       obtain rfl : k = n2 := by omega
       have KTw := Lib.hid (below_blk HW.out KT.out)
       have lgw := blk_lt KTw.out
       have hnk : (k : Int) ≤ k := Int.le_refl _
       have HPF := Lib.hid (show HeadOk K n1 k → RChkPost t deep m w (.returned (.tuple #[.int .i64 (M : Int), .bool true])) wr.drew from fun hh => by
        have h1 := HNL.out
        rw [List.take_of_length_le (by rw [strip_len, htn.2.1]; exact Nat.le_refl _)] at h1
        refine rchk_yes KBr.out.drew (by rw [nodes_args, h1, HM.out]; omega) (parts_chk hd ?_ ?_) (by have := HM.out; omega)
        ·rw [htn.1, htn.2.1, htn.2.2]; exact hh
        ·rw [htn.2.1]; exact HP.out)
       have HPN := Lib.hid (show ¬ HeadOk K n1 k → RChkPost t deep m w (.returned (.tuple #[.int .i64 (M : Int), .bool false])) wr.drew from fun hh => HBAD.out _ _ KBr.out.drew (fun e => hh (HHD.out e.1)))
       by_cases hz1 : n1 = 0
       case neg =>
        have hs1 : ((n1 : Int) == 0) = false := beq_eq_false_iff_ne.2 (by omega)
        have HF := Lib.hid (HPN.out (fun e => by have := HK.out; rcases e with e | e | e | e <;> omega))
        clear hz1
        go_wp2_with fail
        refine wp_region_noPanic ?_
        refine wp_region_held_drew (S := fun w' => w'.heap[g]? = some (.cells #[.int .i64 t.kind, .slice t.A t.ns.length t.c, .slice t.A2 t.xs.length t.c2] 31 (0, 0))) (by kernel_rfl) (KTw.out) (fun hHeld => ?_)
        refine tk 0 88 (.int .i64 (M : Int)) hHeld ?_; simp only [Act.put, zq1, zq2, zq3]
        refine tk 1 89 (.pointer (some ⟨g, 1, none⟩)) hHeld ?_; simp only [Act.put, zq1, zq2, zq3]
        refine tk 2 90 (.slice t.A n1 t.c) hHeld ?_ (hy := Or.inl ⟨by rfl, fun w' hS => (by have q := cell_of_blk (i := 1) hS rfl; rw [htn.1] at q; go_simp)⟩); simp only [Act.put, zq1, zq2, zq3]
        refine tk 3 91 (.int .i64 (n1 : Int)) hHeld ?_; simp only [Act.put, zq1, zq2, zq3]
        refine tk 4 92 (.bool false) hHeld ?_; simp only [Act.put, zq1, zq2, zq3]
        refine tk 5 93 (.bool false) hHeld ?_; simp only [Act.put, zq1, zq2, zq3]
        refine tu 6 94 hHeld ?_; simp only [Act.put, zq1, zq2, zq3]
        refine tu 7 95 hHeld ?_; simp only [Act.put, zq1, zq2, zq3]
        refine tu 8 96 hHeld ?_; simp only [Act.put, zq1, zq2, zq3]
        refine tu 9 97 hHeld ?_; simp only [Act.put, zq1, zq2, zq3]
        refine tk 10 98 (.bool false) hHeld ?_; simp only [Act.put, zq1, zq2, zq3]
        refine tk 11 6 (.int .i64 (M : Int)) hHeld ?_; simp only [Act.put, zq1, zq2, zq3]
        refine tk 12 7 (.bool false) hHeld ?_; simp only [Act.put, zq1, zq2, zq3]
        refine wpAnyH_done (by kernel_rfl) ?_ _
        refine NoPanic.normal ?_
        go_wp2
        refine bodyPost_ret (v := .tuple #[.int .i64 (M : Int), .bool false]) (by simp [results, Tryz.results103, go_sem]) rfl ?_
        exact HF.out
       have hs1 : ((n1 : Int) == 0) = true := beq_iff_eq.2 (by omega)
       by_cases hz2 : 2 ≤ k
       case neg =>
        have hs2 : decide (2 ≤ (k : Int)) = false := decide_eq_false (by omega)
        have HF := Lib.hid (HPN.out (fun e => by have := HK.out; rcases e with e | e | e | e <;> omega))
        clear hz1 hz2
        go_wp2_with fail
        refine wp_region_noPanic ?_
        refine wp_region_held_drew (S := fun w' => w'.heap[g]? = some (.cells #[.int .i64 t.kind, .slice t.A t.ns.length t.c, .slice t.A2 t.xs.length t.c2] 31 (0, 0))) (by kernel_rfl) (KTw.out) (fun hHeld => ?_)
        refine tk 0 88 (.int .i64 (M : Int)) hHeld ?_; simp only [Act.put, zq1, zq2, zq3]
        refine tk 1 89 (.pointer (some ⟨g, 1, none⟩)) hHeld ?_; simp only [Act.put, zq1, zq2, zq3]
        refine tk 2 90 (.slice t.A n1 t.c) hHeld ?_ (hy := Or.inl ⟨by rfl, fun w' hS => (by have q := cell_of_blk (i := 1) hS rfl; rw [htn.1] at q; go_simp)⟩); simp only [Act.put, zq1, zq2, zq3]
        refine tk 3 91 (.int .i64 (n1 : Int)) hHeld ?_; simp only [Act.put, zq1, zq2, zq3]
        refine tk 4 92 (.bool true) hHeld ?_; simp only [Act.put, zq1, zq2, zq3]
        refine tk 5 93 (.bool true) hHeld ?_; simp only [Act.put, zq1, zq2, zq3]
        refine tk 6 94 (.pointer (some ⟨g, 2, none⟩)) hHeld ?_; simp only [Act.put, zq1, zq2, zq3]
        refine tk 7 95 (.slice t.A2 k t.c2) hHeld ?_ (hy := Or.inl ⟨by rfl, fun w' hS => (by have q := cell_of_blk (i := 2) hS rfl; rw [htn.2.1] at q; go_simp)⟩); simp only [Act.put, zq1, zq2, zq3]
        refine tk 8 96 (.int .i64 (k : Int)) hHeld ?_; simp only [Act.put, zq1, zq2, zq3]
        refine tk 9 97 (.bool false) hHeld ?_; simp only [Act.put, zq1, zq2, zq3]
        refine tk 10 98 (.bool false) hHeld ?_; simp only [Act.put, zq1, zq2, zq3]
        refine tk 11 6 (.int .i64 (M : Int)) hHeld ?_; simp only [Act.put, zq1, zq2, zq3]
        refine tk 12 7 (.bool false) hHeld ?_; simp only [Act.put, zq1, zq2, zq3]
        refine wpAnyH_done (by kernel_rfl) ?_ _
        refine NoPanic.normal ?_
        go_wp2
        refine bodyPost_ret (v := .tuple #[.int .i64 (M : Int), .bool false]) (by simp [results, Tryz.results103, go_sem]) rfl ?_
        exact HF.out
       have hs2 : decide (2 ≤ (k : Int)) = true := decide_eq_true (by omega)
       have HF := Lib.hid (HPF.out (.inr (.inl ⟨HK.out, hz1, by omega⟩)))
       clear hz1 hz2
       go_wp2_with fail
       refine wp_region_noPanic ?_
       refine wp_region_held_drew (S := fun w' => w'.heap[g]? = some (.cells #[.int .i64 t.kind, .slice t.A t.ns.length t.c, .slice t.A2 t.xs.length t.c2] 31 (0, 0))) (by kernel_rfl) (KTw.out) (fun hHeld => ?_)
       refine tk 0 88 (.int .i64 (M : Int)) hHeld ?_; simp only [Act.put, zq1, zq2, zq3]
       refine tk 1 89 (.pointer (some ⟨g, 1, none⟩)) hHeld ?_; simp only [Act.put, zq1, zq2, zq3]
       refine tk 2 90 (.slice t.A n1 t.c) hHeld ?_ (hy := Or.inl ⟨by rfl, fun w' hS => (by have q := cell_of_blk (i := 1) hS rfl; rw [htn.1] at q; go_simp)⟩); simp only [Act.put, zq1, zq2, zq3]
       refine tk 3 91 (.int .i64 (n1 : Int)) hHeld ?_; simp only [Act.put, zq1, zq2, zq3]
       refine tk 4 92 (.bool true) hHeld ?_; simp only [Act.put, zq1, zq2, zq3]
       refine tk 5 93 (.bool true) hHeld ?_; simp only [Act.put, zq1, zq2, zq3]
       refine tk 6 94 (.pointer (some ⟨g, 2, none⟩)) hHeld ?_; simp only [Act.put, zq1, zq2, zq3]
       refine tk 7 95 (.slice t.A2 k t.c2) hHeld ?_ (hy := Or.inl ⟨by rfl, fun w' hS => (by have q := cell_of_blk (i := 2) hS rfl; rw [htn.2.1] at q; go_simp)⟩); simp only [Act.put, zq1, zq2, zq3]
       refine tk 8 96 (.int .i64 (k : Int)) hHeld ?_; simp only [Act.put, zq1, zq2, zq3]
       refine tk 9 97 (.bool true) hHeld ?_; simp only [Act.put, zq1, zq2, zq3]
       refine tk 10 98 (.bool true) hHeld ?_; simp only [Act.put, zq1, zq2, zq3]
       refine tk 11 6 (.int .i64 (M : Int)) hHeld ?_; simp only [Act.put, zq1, zq2, zq3]
       refine tk 12 7 (.bool true) hHeld ?_; simp only [Act.put, zq1, zq2, zq3]
       refine wpAnyH_done (by kernel_rfl) ?_ _
       refine NoPanic.normal ?_
       go_wp2
       refine bodyPost_ret (v := .tuple #[.int .i64 (M : Int), .bool true]) (by simp [results, Tryz.results103, go_sem]) rfl ?_
       exact HF.out
      obtain ⟨x, hx⟩ : ∃ x, t.xs[k]? = some x := ⟨_, List.getElem?_eq_getElem (by rw [htn.2.1]; exact hlt)⟩
      have hinr := HIN.out.on KBr.out
      obtain ⟨ad, hA2, hadl, x0, x1, x2⟩ := hinr.cells hx
      have hll : (ad.add (k * 3)).block < wr.heap.size := by rw [block_add']; exact hadl
      have hk' : (k : Int) < (n2 : Int) := by omega
      have hk0 : (0 : Int) ≤ k := by omega
      have hwM : IntKind.i64.wrap ((M : Int) + 1) = (M : Int) + 1 := IntWalk.i64_in _ (by omega)
      have hpart := union_part (by rw [htn.2.2]; exact HK.out) hx HLL.out HL0.out hd
      have HPT := Lib.hid hpart
      have HX := Lib.hid hx
      have hbx : Below wr.heap.size wr (wr.alloc (.cells #[.int .i64 x.kind, .slice x.A x.ns.length x.c, .slice x.A2 x.xs.length x.c2] 31)) := (Below.refl _ _).alloc (Nat.le_refl _) _
      have HBX := Lib.hid (KBr.out.trans (hbx.mono KBr.out.size))
      have HWX := Lib.hid (HW.out.trans (hbx.mono HW.out.size))
      have hxl1 := (hinr.part hx).n1.2
      have hxl2 := (hinr.part hx).n2.2
      have HNO := Lib.hid (show ¬ (deep < 50 ∧ last < x.kind ∧ x.kind ≤ 6 ∧ x.ns.length = 0 ∧ x.xs.length = 0) → RChkPost t deep m w (.returned (.tuple #[.int .i64 (M : Int), .bool false])) (wr.alloc (.cells #[.int .i64 x.kind, .slice x.A x.ns.length x.c, .slice x.A2 x.xs.length x.c2] 31)) from fun hh => HBAD.out _ _ HBX.out (fun e => hh (HPT.out.1 (chk_parts hd e.1 HX.out))))
      obtain ⟨l1, hl1'⟩ : ∃ n, n = x.ns.length := ⟨_, rfl⟩
      obtain ⟨l2, hl2'⟩ : ∃ n, n = x.xs.length := ⟨_, rfl⟩
      rw [← hl1'] at x1 hxl1
      rw [← hl2'] at x2 hxl2
      rw [← hl1', ← hl2'] at HNO HPT HBX HWX
      have HLL2 := Lib.hid hl2'
      clear hbx hinr hx hadl hpart hl1' hl2'
      rw [hA2]
      by_cases c0 : deep < 50
      case neg =>
       have d1 : decide (50 ≤ (deep : Int)) = true := decide_eq_true (by omega)
       have HF := Lib.hid (HNO.out (fun e => c0 e.1))
       clear c0
       go_wp2
       refine bodyPost_ret (v := .tuple #[.int .i64 (M : Int), .bool false]) (by simp [results, Tryz.results103, go_sem]) rfl ?_
       exact HF.out
      have d1 : decide (50 ≤ (deep : Int)) = false := decide_eq_false (by omega)
      by_cases c1 : last < x.kind
      case neg =>
       have d2 : decide (x.kind ≤ last) = true := decide_eq_true (by omega)
       have HF := Lib.hid (HNO.out (fun e => c1 e.2.1))
       clear c0 c1
       go_wp2
       refine bodyPost_ret (v := .tuple #[.int .i64 (M : Int), .bool false]) (by simp [results, Tryz.results103, go_sem]) rfl ?_
       exact HF.out
      have d2 : decide (x.kind ≤ last) = false := decide_eq_false (by omega)
      by_cases c2 : x.kind ≤ 6
      case neg =>
       have d3 : decide (6 < x.kind) = true := decide_eq_true (by omega)
       have HF := Lib.hid (HNO.out (fun e => c2 e.2.2.1))
       clear c0 c1 c2
       go_wp2
       refine bodyPost_ret (v := .tuple #[.int .i64 (M : Int), .bool false]) (by simp [results, Tryz.results103, go_sem]) rfl ?_
       exact HF.out
      have d3 : decide (6 < x.kind) = false := decide_eq_false (by omega)
      by_cases c3 : l1 = 0
      case neg =>
       have d4 : decide (0 < (l1 : Int)) = true := decide_eq_true (by omega)
       have d4' : decide (0 < l1) = true := decide_eq_true (by omega)
       have HF := Lib.hid (HNO.out (fun e => c3 e.2.2.2.1))
       clear c0 c1 c2 c3
       go_wp2
       refine bodyPost_ret (v := .tuple #[.int .i64 (M : Int), .bool false]) (by simp [results, Tryz.results103, go_sem]) rfl ?_
       exact HF.out
      have d4 : decide (0 < (l1 : Int)) = false := decide_eq_false (by omega)
      have d4' : decide (0 < l1) = false := decide_eq_false (by omega)
      by_cases c4 : l2 = 0
      case neg =>
       have d5 : decide (0 < (l2 : Int)) = true := decide_eq_true (by omega)
       have d5' : decide (0 < l2) = true := decide_eq_true (by omega)
       have HF := Lib.hid (HNO.out (fun e => c4 e.2.2.2.2))
       clear c0 c1 c2 c3 c4
       go_wp2
       refine bodyPost_ret (v := .tuple #[.int .i64 (M : Int), .bool false]) (by simp [results, Tryz.results103, go_sem]) rfl ?_
       exact HF.out
      have d5 : decide (0 < (l2 : Int)) = false := decide_eq_false (by omega)
      have d5' : decide (0 < l2) = false := decide_eq_false (by omega)
      have hpp := HPT.out.2 ⟨c0, c1, c2, c3, c4⟩
      have HP2 := Lib.hid (parts_step HP.out HX.out hpp.1 hpp.2)
      have HL2 := Lib.hid (show (k + 1 = 0 ∧ x.kind = 0) ∨ (0 < k + 1 ∧ ∃ y, t.xs[k + 1 - 1]? = some y ∧ x.kind = y.kind) from .inr ⟨by omega, x, HX.out, rfl⟩)
      have HK0 := Lib.hid (show 0 ≤ x.kind by have := HL0.out; omega)
      have HNL2 := Lib.hid (show nodesL ((strip t).args.take (k + 1)) = k + 1 by
       have hx1 := HX.out
       have h5 : x.xs = [] := List.eq_nil_of_length_eq_zero (by rw [← HLL2.out]; exact c4)
       rw [nodesL_take _ _ _ (strip_at hx1), HNL.out, nodes_args, strip_args, h5]
       rfl)
      clear c0 c1 c2 c3 c4 hpp
      go_wp2_with fail
      go_roundw
      case rel => exact ⟨k + 1, M + 1, x.kind, by omega, by go_num, by first | rfl | go_num, rfl, Lib.hid (by have := HM.out; omega), HNL2, HK0, HL2, HP2, HWX⟩
      case measure => simp [intOf]; omega
    ·have HK := Lib.hid hK
     have f7 : (K == 7) = false := beq_eq_false_iff_ne.2 (by omega)
     have f8 : (K == 8) = true := beq_iff_eq.2 (by omega)
     clear hK
     have r1 := cell_of_blk (i := 1) KT.out rfl
     have r2 := cell_of_blk (i := 2) KT.out rfl
     rw [htn.1] at r1
     rw [htn.2.1] at r2
     by_cases hnn : n1 = n2
     case neg =>
      have hs1 : ((n1 : Int) == (n2 : Int)) = false := beq_eq_false_iff_ne.2 (by omega)
      have hs2 : ((n1 : Int) != (n2 : Int)) = true := by rw [bne, hs1]; rfl
      have HF := Lib.hid (HBAD.out wc (m + 1) KB.out (fun e => by have := HHD.out e.1; have := HK.out; rcases ‹HeadOk K n1 n2› with e | e | e | e <;> omega))
      clear hnn
      go_wp2
      refine bodyPost_ret (v := .tuple #[.int .i64 ((m + 1 : Nat) : Int), .bool false]) (by simp [results, Tryz.results103, go_sem]) rfl ?_
      exact HF.out
     have hs1 : ((n1 : Int) == (n2 : Int)) = true := beq_iff_eq.2 (by omega)
     have hs2 : ((n1 : Int) != (n2 : Int)) = false := by rw [bne, hs1]; rfl
     have HNN := Lib.hid hnn
     clear hnn
     go_wp2_with fail
     clear r1 r2 hs1 hs2
     go_loop [112] (fun i => ∃ k : Nat, k ≤ n1 ∧ i = .int .i64 k ∧ Hid (∀ (j : Nat) (x : LTy), j < k → t.xs[j]? = some x → PartOk (strip t).kind (strip t).names (strip t).args j (strip x))) (fun i => n1 - (intOf i).toNat)
     case atStart => exact ⟨0, by omega, rfl, Lib.hid (fun j x hj => by omega)⟩
     case round =>
      obtain ⟨k, hk, rfl, HP⟩ := hrel
      by_cases hlt : k < n1
      case neg =>
       obtain rfl : k = n1 := by omega
       go_wp2_with fail
       go_meet
       case rel =>
        refine ⟨rfl, rfl, Lib.hid ⟨.inr (.inr (.inl ⟨HK.out, HNN.out⟩)), fun i x hx => HP.out i x ?_ hx⟩⟩
        have := (List.getElem?_eq_some_iff.1 hx).1
        rw [htn.2.1, ← HNN.out] at this
        exact this
      obtain ⟨x, hx⟩ : ∃ x, t.xs[k]? = some x := ⟨_, List.getElem?_eq_getElem (by rw [htn.2.1, ← HNN.out]; exact hlt)⟩
      obtain ⟨s, hs⟩ : ∃ s, t.ns[k]? = some s := ⟨_, List.getElem?_eq_getElem (by rw [htn.1]; exact hlt)⟩
      obtain ⟨ad, hA2, hadl, x0, x1, x2⟩ := KL.out.cells hx
      obtain ⟨ad1, hA1, hadl1, s0⟩ := KL.out.name hs
      have hll : (ad.add (k * 3)).block < wc.heap.size := by rw [block_add']; exact hadl
      have hls : (ad1.add k).block < wc.heap.size := by rw [block_add']; exact hadl1
      have hk' : (k : Int) < (n1 : Int) := by omega
      have hk2 : (k : Int) < (n2 : Int) := by have := HNN.out; omega
      have hk0 : (0 : Int) ≤ k := by omega
      have hsz := HIN.out.room s (List.mem_of_getElem? hs)
      have HNM := Lib.hid (fun W => rname_any s hsz W)
      have HFL := Lib.hid (fun W => rflat_any x.kind W)
      have HPP := Lib.hid (shape_part (x := x) (by rw [htn.2.2]; exact HK.out) hs)
      have HX := Lib.hid hx
      have HS := Lib.hid hs
      have HA1 := Lib.hid hA1
      have HA2 := Lib.hid hA2
      have hbad8 : ¬ (Flat x.kind ∧ NameOk s ∧ ∀ r, 0 < k → t.ns[k - 1]? = some r → Op.bytesLess r.toList s.toList = true) → RChkPost t deep m w (.returned (.tuple #[.int .i64 ((m + 1 : Nat) : Int), .bool false])) wc := fun hh => HBAD.out wc (m + 1) KB.out (fun e => hh (HPP.out.1 (chk_parts hd e.1 HX.out).1))
      have HB8 := Lib.hid hbad8
      clear hbad8 x1 x2 hx hs hadl hadl1 hsz
      have t1 := cell_of_blk (i := 1) KT.out rfl
      have t2 := cell_of_blk (i := 2) KT.out rfl
      rw [htn.1, hA1] at t1
      rw [htn.2.1, hA2] at t2
      rw [hA1]
      clear hA1 hA2
      by_cases c2 : NameOk s
      case neg =>
       rw [tb_false c2] at HNM
       have HF := Lib.hid (HB8.out (fun e => c2 e.2.1))
       clear c2
       go_wp2_with fail
       with_reducible refine (HNM.out _).mono ?_
       rintro e w' ⟨rfl, rfl⟩
       go_wp2
       refine bodyPost_ret (v := .tuple #[.int .i64 ((m + 1 : Nat) : Int), .bool false]) (by simp [results, Tryz.results103, go_sem]) rfl ?_
       exact HF.out
      rw [tb_true c2] at HNM
      by_cases c3 : k = 0
      ·have c3' : ¬ 0 < (k : Int) := by omega
       have c3'' : decide (0 < (k : Int)) = false := decide_eq_false c3'
       have c3n : decide (0 < k) = false := decide_eq_false (by omega)
       by_cases c1 : Flat x.kind
       case neg =>
        rw [tb_false c1] at HFL
        have HF := Lib.hid (HB8.out (fun e => c1 e.1))
        clear c1 c2 c3
        go_wp2_with fail
        with_reducible refine (HNM.out _).mono ?_
        rintro e w' ⟨rfl, rfl⟩
        go_wp2_with fail
        with_reducible refine (HFL.out _).mono ?_
        rintro e w' ⟨rfl, rfl⟩
        go_wp2
        refine bodyPost_ret (v := .tuple #[.int .i64 ((m + 1 : Nat) : Int), .bool false]) (by simp [results, Tryz.results103, go_sem]) rfl ?_
        exact HF.out
       rw [tb_true c1] at HFL
       have HP2 := Lib.hid (HPP.out.2 ⟨c1, c2, fun r h0 => by omega⟩)
       clear c1 c2 c3
       go_wp2_with fail
       with_reducible refine (HNM.out _).mono ?_
       rintro e w' ⟨rfl, rfl⟩
       go_wp2_with fail
       with_reducible refine (HFL.out _).mono ?_
       rintro e w' ⟨rfl, rfl⟩
       go_wp2_with fail
       go_round
       case rel => exact ⟨k + 1, by omega, by go_num, Lib.hid (fun j y hj hy => by
        rcases Nat.lt_or_ge j k with h1 | h1
        ·exact HP.out j y h1 hy
        ·obtain rfl : j = k := by omega
         rw [HX.out] at hy
         obtain rfl := Option.some.inj hy
         exact HP2.out)⟩
       case measure => simp [intOf]; omega
      obtain ⟨k', rfl⟩ : ∃ k', k = k' + 1 := ⟨k - 1, by omega⟩
      obtain ⟨p, hp⟩ : ∃ p, t.ns[k']? = some p := ⟨_, List.getElem?_eq_getElem (by rw [htn.1]; omega)⟩
      obtain ⟨ad1', hA1', hadl1, p0⟩ := KL.out.name hp
      rw [HA1.out] at hA1'
      obtain rfl := Option.some.inj hA1'
      have s1 : wc.cell? ⟨ad1.block, ad1.off + (k' + 1), none⟩ = some (.string s) := by have := s0; unfold Addr.add at this; rwa [if_neg (by omega)] at this
      have x1 : wc.cell? ⟨ad.block, ad.off + (k' + 1) * 3, none⟩ = some (.int .i64 x.kind) := by have := x0; unfold Addr.add at this; rwa [if_neg (by omega)] at this
      have hls1 : ad1.block < wc.heap.size := hadl1
      have hll1 : ad.block < wc.heap.size := by rw [block_add'] at hll; exact hll
      have hb1 : (k' : Int) + 1 < (n1 : Int) := by omega
      have hb2 : (k' : Int) + 1 < (n2 : Int) := by omega
      have hb0 : 0 ≤ (k' : Int) + 1 := by omega
      have hlp : (ad1.add k').block < wc.heap.size := by rw [block_add']; exact hadl1
      have c3' : 0 < (k' : Int) + 1 := by omega
      have c3'' : decide (0 < (k' : Int) + 1) = true := decide_eq_true c3'
      have hk'' : (k' : Int) < n1 := by omega
      have hwk : IntKind.i64.wrap (k' : Int) = (k' : Int) := wrap_nat (by omega)
      rcases bytes_tri s.toList p.toList with ⟨ta1, c4, ta3⟩ | ⟨ta1, c4, ta3⟩ | ⟨ta1, c4, ta3⟩
      ·have HF := Lib.hid (HB8.out (fun e => by
        have := e.2.2 p (by omega) hp
        rw [c4] at this
        cases this))
       clear c3 c2 hp c4 hm64 hdeep1 hdeep hm hl1 hl2
       go_wp2_with fail
       with_reducible refine (HNM.out _).mono ?_
       rintro e w' ⟨rfl, rfl⟩
       go_wp2
       refine bodyPost_ret (v := .tuple #[.int .i64 ((m + 1 : Nat) : Int), .bool false]) (by simp [results, Tryz.results103, go_sem]) rfl ?_
       exact HF.out
      ·by_cases c1 : Flat x.kind
       case neg =>
        rw [tb_false c1] at HFL
        have HF := Lib.hid (HB8.out (fun e => c1 e.1))
        clear c1 c2 c3 hp c4 hm64 hdeep1 hdeep hm hl1 hl2
        go_wp2_with fail
        with_reducible refine (HNM.out _).mono ?_
        rintro e w' ⟨rfl, rfl⟩
        go_wp2_with fail
        with_reducible refine (HFL.out _).mono ?_
        rintro e w' ⟨rfl, rfl⟩
        go_wp2
        refine bodyPost_ret (v := .tuple #[.int .i64 ((m + 1 : Nat) : Int), .bool false]) (by simp [results, Tryz.results103, go_sem]) rfl ?_
        exact HF.out
       rw [tb_true c1] at HFL
       have HP2 := Lib.hid (HPP.out.2 ⟨c1, c2, fun r h0 hr => by
        rw [show k' + 1 - 1 = k' from rfl, hp] at hr
        obtain rfl := Option.some.inj hr
        exact c4⟩)
       clear c1 c2 c3 hp c4 hm64 hdeep1 hdeep hm
       go_wp2_with fail
       with_reducible refine (HNM.out _).mono ?_
       rintro e w' ⟨rfl, rfl⟩
       go_wp2_with fail
       with_reducible refine (HFL.out _).mono ?_
       rintro e w' ⟨rfl, rfl⟩
       go_wp2_with fail
       go_round
       case rel => exact ⟨k' + 1 + 1, by omega, by go_num, Lib.hid (fun j y hj hy => by
        rcases Nat.lt_or_ge j (k' + 1) with h1 | h1
        ·exact HP.out j y h1 hy
        ·obtain rfl : j = k' + 1 := by omega
         rw [HX.out] at hy
         obtain rfl := Option.some.inj hy
         exact HP2.out)⟩
       case measure => simp [intOf]; omega
      ·have HF := Lib.hid (HB8.out (fun e => by
        have := e.2.2 p (by omega) hp
        rw [c4] at this
        cases this))
       clear c3 c2 hp c4 hm64 hdeep1 hdeep hm hl1 hl2
       go_wp2_with fail
       with_reducible refine (HNM.out _).mono ?_
       rintro e w' ⟨rfl, rfl⟩
       go_wp2
       refine bodyPost_ret (v := .tuple #[.int .i64 ((m + 1 : Nat) : Int), .bool false]) (by simp [results, Tryz.results103, go_sem]) rfl ?_
       exact HF.out
    ·have HK := Lib.hid hK
     have f7 : (K == 7) = false := beq_eq_false_iff_ne.2 (by omega)
     have f8 : (K == 8) = false := beq_eq_false_iff_ne.2 (by omega)
     have f9 : (K == 9) = true := beq_iff_eq.2 (by omega)
     clear hK
     have r1 := cell_of_blk (i := 1) KT.out rfl
     have r2 := cell_of_blk (i := 2) KT.out rfl
     rw [htn.1] at r1
     rw [htn.2.1] at r2
     by_cases hz1 : 0 < n1
     ·have hs1 : decide (0 < (n1 : Int)) = true := decide_eq_true (by omega)
      have hs1' : decide (0 < n1) = true := decide_eq_true (by omega)
      have HF := Lib.hid (HBAD.out wc (m + 1) KB.out (fun e => by have := HHD.out e.1; have := HK.out; rcases ‹HeadOk K n1 n2› with e | e | e | e <;> omega))
      clear hz1
      go_wp2
      refine bodyPost_ret (v := .tuple #[.int .i64 ((m + 1 : Nat) : Int), .bool false]) (by simp [results, Tryz.results103, go_sem]) rfl ?_
      exact HF.out
     have hs1 : decide (0 < (n1 : Int)) = false := decide_eq_false (by omega)
     have hs1' : decide (0 < n1) = false := decide_eq_false (by omega)
     by_cases hz2 : n2 = 0
     ·have hs2 : ((n2 : Int) == 0) = true := beq_iff_eq.2 (by omega)
      have HF := Lib.hid (HBAD.out wc (m + 1) KB.out (fun e => by have := HHD.out e.1; have := HK.out; rcases ‹HeadOk K n1 n2› with e | e | e | e <;> omega))
      clear hz1 hz2
      go_wp2
      refine bodyPost_ret (v := .tuple #[.int .i64 ((m + 1 : Nat) : Int), .bool false]) (by simp [results, Tryz.results103, go_sem]) rfl ?_
      exact HF.out
     have hs2 : ((n2 : Int) == 0) = false := beq_eq_false_iff_ne.2 (by omega)
     have HZ := Lib.hid (show n1 = 0 ∧ 0 < n2 by omega)
     clear hz1 hz2
     go_wp2_with fail
     go_meet
     case rel => exact ⟨rfl, rfl, Lib.hid ⟨.inr (.inr (.inr ⟨HK.out, HZ.out.1, HZ.out.2⟩)), fun i x _ => other_part (by have := HK.out; rw [htn.2.2]; omega) (by have := HK.out; rw [htn.2.2]; omega)⟩⟩
    ·have HF := Lib.hid (HBAD.out wc (m + 1) KB.out (fun e => by have := HHD.out e.1; rcases ‹HeadOk K n1 n2› with e | e | e | e <;> omega))
     have f7 : (K == 7) = false := beq_eq_false_iff_ne.2 (by omega)
     have f8 : (K == 8) = false := beq_eq_false_iff_ne.2 (by omega)
     have f9 : (K == 9) = false := beq_eq_false_iff_ne.2 (by omega)
     clear hK
     go_wp2
     refine bodyPost_ret (v := .tuple #[.int .i64 ((m + 1 : Nat) : Int), .bool false]) (by simp [results, Tryz.results103, go_sem]) rfl ?_
     exact HF.out
end Go.Proofs.YtilcofpceadpbaaGreatDoor
