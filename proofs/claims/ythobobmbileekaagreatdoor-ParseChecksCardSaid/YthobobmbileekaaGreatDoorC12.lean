/-
  ParseChecks: part 12 of what the claim rests on.
-/
import Derived.Test.YthobobmbileekaaGreatDoorC01
import Derived.Test.YthobobmbileekaaGreatDoorC11
import Derived.Deep.CondSized
set_option linter.unusedVariables false
set_option linter.unusedSimpArgs false
set_option maxHeartbeats 64000000
set_option maxRecDepth 100000
namespace Go.Proofs.YthobobmbileekaaGreatDoor
open Go.ChangeShapes Go.WideShapes Go.ChangeAt Go.RowKit

section
variable {K : PaK} {w w' : World} {p i o : Nat} {sn : Fin 8 → Bool} {ns : List Nd} {fp fp' : List Nat} {nv : Value} {l : List NdM}
theorem pa_cell {nv : Value} (h : w.heap[p]? = some (PaBlk K i o nv sn)) : w.cell? ⟨p, 0, none⟩ = some (.slice K.A K.T.length K.c) ∧ w.cell? ⟨p, 1, none⟩ = some (.int .i64 (i : Int)) ∧ w.cell? ⟨p, 2, none⟩ = some nv ∧ w.cell? ⟨p, 3, none⟩ = some (.int .i64 (o : Int)) ∧ w.cell? ⟨p, 4, none⟩ = some (.map (some K.rb)) ∧ (∀ a, w.frozen? ⟨p, a, none⟩ = false) :=
  ⟨cell_of_blk h rfl, cell_of_blk h rfl, cell_of_blk h rfl, cell_of_blk h rfl, cell_of_blk h rfl, fun a => free_of_blk h⟩
theorem tk_some {T : List Tok} {i : Nat} (h : i < T.length) : T[i]? = some (tk T i) := by
  unfold tk; rw [List.getElem?_eq_getElem h]; rfl
theorem now_any (h : PaAt K w p i o sn ns fp) (hi : i < K.T.length) : Calls Tryz.prog 41 #[.pointer (some ⟨p, 0, none⟩)] w (RetB (.agg (tkEnc (tk K.T i)).toArray) w) := by
  obtain ⟨nv, l, hm⟩ := h.mem; have hx := tk_some hi; obtain ⟨t, ht⟩ : ∃ t, t = tk K.T i := ⟨_, rfl⟩; rw [← ht] at hx ⊢; obtain ⟨g, hg⟩ : ∃ g, g = w.heap.size := ⟨_, rfl⟩; have H := zh h; have HB := zh hm.blk; have HX := zh hx; have HL := zh h.env.len; clear h hm hx ht
  go_enter Tryz.func41, Tryz.ntmps41
  go_upto_region 1 with fail
  rw [← hg]; refine gen_wpT fun W hW => ?_; have hWB := zh (show Below w.heap.size w W by rw [← hW]; exact zbr.alloc znr _); have HR := zh (show W.heap[g]? = some (.cells #[.int .i64 0, .string ByteArray.empty, .int .i64 0, .int .i64 0, .int .i64 0] 65 (0, 0)) by rw [← hW]; exact heap_new_at _ _ _ hg.symm); have HG := zh hg; clear hW hg; obtain ⟨c0, c1, -, -, -, cf⟩ := pa_cell (below_blk hWB.out HB.out); obtain ⟨ad, hA, hab, hcell⟩ := (H.out.env.toks.below (hWB.out.mono (Nat.le_of_lt H.out.lt))).at (flatMap_ne (K := 5) tkEnc_len (by omega) HX.out); have x0 := elem_zero (K := 5) tkEnc_len hcell HX.out (by omega) rfl; have x1 := elem_at (K := 5) tkEnc_len hcell HX.out 1 (by omega) (by omega) rfl; have x2 := elem_at (K := 5) tkEnc_len hcell HX.out 2 (by omega) (by omega) rfl; have x3 := elem_at (K := 5) tkEnc_len hcell HX.out 3 (by omega) (by omega) rfl; have x4 := elem_at (K := 5) tkEnc_len hcell HX.out 4 (by omega) (by omega) rfl; have pl := blk_lt (below_blk hWB.out HB.out); have hl1 : (ad.add (i * 5)).block < W.heap.size := by rw [block_add']; have := H.out.lt; have := hWB.out.size; omega
  have bl := blk_lt HR.out; have b0 := zc 0 HR.out rfl; have b1 := zc 1 HR.out rfl; have b2 := zc 2 HR.out rfl; have b3 := zc 3 HR.out rfl; have b4 := zc 4 HR.out rfl; have f0 := free_of_blk (i := 0) HR.out; have f1 := free_of_blk (i := 1) HR.out; have f2 := free_of_blk (i := 2) HR.out; have f3 := free_of_blk (i := 3) HR.out; have f4 := free_of_blk (i := 4) HR.out; have hi0 : (0 : Int) ≤ i := by omega
  have hi1 : (i : Int) < (K.T.length : Int) := by omega
  rw [hA] at c0; clear hcell hab hA hi cf
  go_region
  have hx0 : W.heap[g]? = some (.cells #[.int .i64 0, .string ByteArray.empty, .int .i64 0, .int .i64 0, .int .i64 0] 65 (0, 0)) := HR.out; obtain ⟨j0, j1, j2, j3, j4⟩ := tok_five hx0 rfl (.int .i64 t.kind) (.string t.text) (.int .i64 (t.a : Int)) (.int .i64 (t.z : Int)) (.int .i64 t.n); clear hx0; have hgw : w.heap.size ≤ g := Nat.le_of_eq HG.out.symm; have HFB := zh (fun v0 v1 v2 v3 v4 => (((((((Fr.of_below hWB.out [])).set (a := ⟨g, 0, none⟩) v0 (.inr hgw)).set (a := ⟨g, 1, none⟩) v1 (.inr hgw)).set (a := ⟨g, 2, none⟩) v2 (.inr hgw)).set (a := ⟨g, 3, none⟩) v3 (.inr hgw)).set (a := ⟨g, 4, none⟩) v4 (.inr hgw)).drew.to_below znr (by simp)); go_wp2
  refine bodyPost_ret (v := .agg (tkEnc t).toArray) (by simp [results, Tryz.results41, go_sem, j0, j1, j2, j3, j4, tkEnc]) rfl ?_; exact ⟨rfl, HFB.out _ _ _ _ _⟩
theorem tok_f0 (a c d e : Value) (b : Value) (w : World) : (Instr.field 65 (.agg #[a, b, c, d, e]) 0).run Tryz.prog w = .ok a w := by kernel_rfl
theorem tok_f1 (a c d e : Value) (b : Value) (w : World) : (Instr.field 65 (.agg #[a, b, c, d, e]) 1).run Tryz.prog w = .ok b w := by kernel_rfl
theorem tok_f2 (a c d e : Value) (b : Value) (w : World) : (Instr.field 65 (.agg #[a, b, c, d, e]) 2).run Tryz.prog w = .ok c w := by kernel_rfl
theorem at_any (h : PaAt K w p i o sn ns fp) (hi : i < K.T.length) : Calls Tryz.prog 42 #[.pointer (some ⟨p, 0, none⟩)] w (RetB (natV (tk K.T i).a) w) := by
  have HN := zh (now_any h hi); clear h
  go_enter Tryz.func42, Tryz.ntmps42
  go_wp2_with fail
  refine HN.out.mono ?_; rintro e w1 ⟨rfl, hb⟩; have HB := zh hb; clear hb; unfold tkEnc; have f2 := tok_f2 (.int .i64 (tk K.T i).kind) (.int .i64 ((tk K.T i).a : Int)) (.int .i64 ((tk K.T i).z : Int)) (.int .i64 (tk K.T i).n) (.string (tk K.T i).text); go_wp2
  go_ret
  exact ⟨rfl, HB.out⟩
theorem no_any (x : Value) (a : Nat) (w : World) : Calls Tryz.prog 44 #[x, natV a] w fun e w' => e = .panicked (wrongP a 70) ∧ w = w' := by
  unfold natV
  go_enter Tryz.func44, Tryz.ntmps44
  go_wp2
  exact ⟨rfl, rfl, rfl⟩
theorem isAny_take {t : Tok} {l : List ByteArray} {k : Nat} {s : ByteArray} (hs : l[k]? = some s) (h : isAny t (l.take k) = false) : (isAny t [s] = true → isAny t l = true) ∧ (isAny t [s] = false → isAny t (l.take (k + 1)) = false) := by
  have h1 : l.take (k + 1) = l.take k ++ [s] := by rw [List.take_add_one, hs]; rfl
  have hm := List.mem_of_getElem? hs; unfold isAny at h ⊢; refine ⟨fun h2 => ?_, fun h2 => ?_⟩
  · rw [Bool.and_eq_true] at h2 ⊢
    refine ⟨h2.1, List.any_eq_true.2 ⟨s, hm, by simpa using h2.2⟩⟩
  · rw [h1, List.any_append, Bool.and_or_distrib_left, h, Bool.false_or, h2]
theorem isAny_one (t : Tok) (s : ByteArray) : isAny t [s] = (decide (t.kind = 5 ∨ t.kind = 2) && (t.text.toList == s.toList)) := by
  unfold isAny
  congr 1
  rw [List.any_cons, List.any_nil, Bool.or_false, Bool.eq_iff_iff, decide_eq_true_eq, beq_iff_eq]; exact ⟨fun e => by rw [e], fun e => ByteArray.ext (Array.toList_inj.1 (by rw [ByteArray.toList_eq, ByteArray.toList_eq] at e; exact e))⟩
theorem is_any (h : PaAt K w p i o sn ns fp) (hi : i < K.T.length) {A : Option Addr} {c : Nat} {L : List ByteArray} (hr : Reads w w.heap.size A (L.map Value.string)) (hl : L.length ≤ 100) :
    Calls Tryz.prog 19 #[.pointer (some ⟨p, 0, none⟩), .slice A L.length c] w (RetB (.bool (isAny (tk K.T i) L)) w) := by
  have HN := zh (now_any h hi); obtain ⟨t, ht⟩ : ∃ t, t = tk K.T i := ⟨_, rfl⟩; rw [← ht] at HN ⊢; have HR := zh hr; obtain ⟨nl, hnl⟩ : ∃ n, n = L.length := ⟨_, rfl⟩; have HNL := zh hnl; rw [← hnl] at hl ⊢; clear h hr ht hnl
  go_enter Tryz.func19, Tryz.ntmps19
  go_wp2_with fail
  refine HN.out.mono ?_; rintro e w1 ⟨rfl, hb⟩; obtain ⟨g, hg⟩ : ∃ g, g = w1.heap.size := ⟨_, rfl⟩; have HB := zh hb; clear hb; unfold tkEnc
  go_upto_region 2 with fail
  rw [← hg]; refine gen_wpT fun W hW => ?_; have hWB := zh (show Below w.heap.size w W by rw [← hW]; exact HB.out.alloc HB.out.size _); have HT := zh (show W.heap[g]? = some (.cells #[.int .i64 t.kind, .string t.text, .int .i64 (t.a : Int), .int .i64 (t.z : Int), .int .i64 t.n] 65 (0, 0)) by rw [← hW]; exact heap_new_at _ _ _ hg.symm); clear hW hg; go_wp2_with fail
  go_loopw [7, 12] (fun s7 iv wr => ∃ k : Nat, k ≤ nl ∧ iv = .int .i64 k ∧ Hid (isAny t (L.take k) = false) ∧ Hid (Below W.heap.size W wr)) (fun _ iv _ => nl - (intOf iv).toNat)
  case atStart => exact ⟨0, by omega, rfl, zh (by unfold isAny; simp), zh zbr⟩
  case round =>
    obtain ⟨k, hk, rfl, HA, HW⟩ := hrel; by_cases hlt : k < nl
    case neg =>
      obtain rfl : k = nl := by omega
      have hkk : ¬ (k : Int) < (k : Int) := by omega
      have HE := zh (show isAny t L = false by have := HA.out; rw [HNL.out, List.take_length] at this; exact this); go_wp2
      go_ret
      exact ⟨by rw [HE.out]; rfl, hWB.out.trans (HW.out.mono hWB.out.size)⟩
    obtain ⟨s, hs⟩ : ∃ s, L[k]? = some s := ⟨_, List.getElem?_eq_getElem (by rw [← HNL.out]; exact hlt)⟩; have hs2 : (L.map Value.string)[k]? = some (.string s) := by rw [List.getElem?_map, hs]; rfl
    obtain ⟨ad, rfl, hab, hcell⟩ := ((HR.out.below hWB.out).below (HW.out.mono hWB.out.size)).at (by intro e; rw [e] at hs2; simp at hs2); have x0 := hcell k _ hs2; have hl1 : (ad.add k).block < wr.heap.size := by rw [block_add']; have := HW.out.size; have := hWB.out.size; omega
    have hk' : (k : Int) < (nl : Int) := by omega
    have hk0 : (0 : Int) ≤ k := by omega
    have hT := below_blk HW.out HT.out; have t0 := zc 0 hT rfl; have t1 := zc 1 hT rfl; have tl := blk_lt hT; have HTK := zh (isAny_take hs HA.out); rw [isAny_one] at HTK; clear hcell hab hT hs hs2; by_cases h5 : t.kind = 5
    · have q5 : (t.kind == 5) = true := beq_iff_eq.2 h5
      cases he : (t.text.toList == s.toList) with
      | true =>
        have HE := zh (show isAny t L = true from HTK.out.1 (by rw [he, h5]; rfl)); clear h5; go_wp2
        go_ret
        exact ⟨by rw [HE.out]; rfl, hWB.out.trans (HW.out.mono hWB.out.size)⟩
      | false =>
        have HE := zh (HTK.out.2 (by rw [he, Bool.and_false])); clear h5; go_wp2_with fail
        go_roundw
        case rel => exact ⟨k + 1, by omega, by go_num, HE, HW⟩
        case measure => simp [intOf]; omega
    · have q5 : (t.kind == 5) = false := beq_eq_false_iff_ne.2 h5
      by_cases h2 : t.kind = 2
      · have q2 : (t.kind == 2) = true := beq_iff_eq.2 h2
        cases he : (t.text.toList == s.toList) with
        | true =>
          have HE := zh (show isAny t L = true from HTK.out.1 (by rw [he, h2]; rfl)); clear h5 h2; go_wp2
          go_ret
          exact ⟨by rw [HE.out]; rfl, hWB.out.trans (HW.out.mono hWB.out.size)⟩
        | false =>
          have HE := zh (HTK.out.2 (by rw [he, Bool.and_false])); clear h5 h2; go_wp2_with fail
          go_roundw
          case rel => exact ⟨k + 1, by omega, by go_num, HE, HW⟩
          case measure => simp [intOf]; omega
      · have q2 : (t.kind == 2) = false := beq_eq_false_iff_ne.2 h2
        have HE := zh (HTK.out.2 (by rw [decide_eq_false (by simp [h5, h2]), Bool.false_and])); clear h5 h2; go_wp2_with fail
        go_roundw
        case rel => exact ⟨k + 1, by omega, by go_num, HE, HW⟩
        case measure => simp [intOf]; omega
theorem PaMem.parser_ne (h : PaMem K w p i o sn ns fp nv l) : some p ≠ nv.ownBlock ∧ ∀ x ∈ l, some p ≠ (Value.slice x.A x.nd.kids.length x.c).ownBlock :=
  ⟨own_blk_ne h.own h.blk (by decide), fun x hx => own_blk_ne (h.kid x hx) h.blk (by decide)⟩
theorem PaAt.set (h : PaAt K w p i o sn ns fp) {i' o' : Nat} {sn' : Fin 8 → Bool} (k : Nat) (v : Value) (hb : ∀ nv, w.heap[p]? = some (PaBlk K i o nv sn) → (w.setCell ⟨p, k, none⟩ v).heap[p]? = some (PaBlk K i' o' nv sn')) :
    PaAt K (w.setCell ⟨p, k, none⟩ v) p i' o' sn' ns fp ∧ PaTo w fp (w.setCell ⟨p, k, none⟩ v) fp := by
  obtain ⟨nv, l, hm⟩ := h.mem; have hf : Fr [p] w (w.setCell ⟨p, k, none⟩ v) := (Fr.refl _ _).set _ (.inl (by simp)); refine ⟨⟨h.env.below (hf.to_below (Nat.le_of_lt h.lt) (by simp)), nv, l, hb nv hm.blk, hf.own hm.own fun g hg e => ?_, hm.nds, fun x hx => hf.own (hm.kid x hx) fun g hg e => ?_, hm.fpp, hm.fpo, hm.fpk, fun b hb => ⟨(hm.fpb b hb).1, Nat.lt_of_lt_of_le (hm.fpb b hb).2 hf.size⟩⟩, hf.more fun b hb => ?_, fun b hb => .inl hb⟩
  · rw [List.mem_singleton.1 e] at hg; exact hm.parser_ne.1 hg.symm
  · rw [List.mem_singleton.1 e] at hg; exact hm.parser_ne.2 x hx hg.symm
  · rw [List.mem_singleton.1 hb]; exact .inl hm.fpp
theorem PaAt.setI (h : PaAt K w p i o sn ns fp) (i' : Nat) : PaAt K (w.setCell ⟨p, 1, none⟩ (.int .i64 (i' : Int))) p i' o sn ns fp ∧ PaTo w fp (w.setCell ⟨p, 1, none⟩ (.int .i64 (i' : Int))) fp := h.set 1 _ fun nv hb => blk_set (i := 1) hb _
theorem PaAt.setO (h : PaAt K w p i o sn ns fp) (o' : Nat) : PaAt K (w.setCell ⟨p, 3, none⟩ (.int .i64 (o' : Int))) p i o' sn ns fp ∧ PaTo w fp (w.setCell ⟨p, 3, none⟩ (.int .i64 (o' : Int))) fp := h.set 3 _ fun nv hb => blk_set (i := 3) hb _
theorem PaTo.of_below (h : PaAt K w p i o sn ns fp) (hb : Below w.heap.size w w') : PaTo w fp w' fp := ⟨Fr.of_below hb _, fun b h => .inl h⟩
theorem reads_one (w : World) (s : ByteArray) (n : Nat) (hn : w.heap.size = n) : Reads (w.alloc (.cells #[.string s] 9)) (w.alloc (.cells #[.string s] 9)).heap.size (some ⟨n, 0, none⟩) ([s].map Value.string) :=
  .inr ⟨⟨n, 0, none⟩, rfl, by rw [← hn]; simp, fun j u hu => news_new w #[.string s] _ n hn j u hu⟩
theorem got_no (h : PaAt K w p i o sn ns fp) (hi : i < K.T.length) (s : ByteArray) (hb : isAny (tk K.T i) [s] = false) :
    Calls Tryz.prog 70 #[.pointer (some ⟨p, 0, none⟩), .string s] w fun e w' => e = .returned (.bool false) ∧ PaAt K w' p i o sn ns fp ∧ Below w.heap.size w w' := by
  have hbl : Below w.heap.size w (w.alloc (.cells #[.string s] 9)) := zbr.alloc znr _; have HI := zh (is_any (c := 1) (h.below hbl) hi (reads_one w s _ rfl) (by simp)); have H := zh h; rw [hb] at HI; clear h hb hbl
  go_enter Tryz.func70, Tryz.ntmps70
  go_wp2_with fail
  refine HI.out.mono ?_; rintro e w1 ⟨rfl, hb1⟩; have HB := zh (show Below w.heap.size w w1 from (zbr.alloc znr _).trans (hb1.mono (by simp))); clear hb1; go_wp2
  go_ret
  exact ⟨rfl, H.out.below HB.out, HB.out⟩
theorem got_yes (h : PaAt K w p i o sn ns fp) (hi : i < K.T.length) (s : ByteArray) (hb : isAny (tk K.T i) [s] = true) :
    Calls Tryz.prog 70 #[.pointer (some ⟨p, 0, none⟩), .string s] w fun e w' => e = .returned (.bool true) ∧ PaAt K w' p (i + 1) o sn ns fp ∧ PaTo w fp w' fp := by
  have hbl : Below w.heap.size w (w.alloc (.cells #[.string s] 9)) := zbr.alloc znr _; have HI := zh (is_any (c := 1) (h.below hbl) hi (reads_one w s _ rfl) (by simp)); have H := zh h; have hl := h.env.len; rw [hb] at HI; clear h hb hbl
  go_enter Tryz.func70, Tryz.ntmps70
  go_wp2_with fail
  refine HI.out.mono ?_; rintro e w1 ⟨rfl, hb1⟩; have HB := zh (show Below w.heap.size w w1 from (zbr.alloc znr _).trans (hb1.mono (by simp))); have HP := zh (H.out.below HB.out); obtain ⟨nv, l, hm⟩ := HP.out.mem; obtain ⟨-, c1, -, -, -, cf⟩ := pa_cell hm.blk; have c1f := cf 1; have pl := blk_lt hm.blk; have hw : IntKind.i64.wrap ((i : Int) + 1) = ((i + 1 : Nat) : Int) := by rw [show ((i : Int) + 1) = ((i + 1 : Nat) : Int) by omega]; exact IntWalk.i64_in _ (by omega)
  clear hb1 hm cf; go_wp2
  go_ret
  obtain ⟨h1, h2⟩ := HP.out.setI (i + 1); refine ⟨rfl, ?_, ?_⟩
  · first | exact h1 | (rw [hw]; exact h1)
  · first | exact (PaTo.of_below H.out HB.out).trans h2 | (rw [hw]; exact (PaTo.of_below H.out HB.out).trans h2)
theorem need_yes (h : PaAt K w p i o sn ns fp) (hi : i < K.T.length) (s : ByteArray) (hb : isAny (tk K.T i) [s] = true) :
    Calls Tryz.prog 43 #[.pointer (some ⟨p, 0, none⟩), .string s] w fun e w' => e = .returned (.tuple #[]) ∧ PaAt K w' p (i + 1) o sn ns fp ∧ PaTo w fp w' fp := by
  have HI := zh (got_yes h hi s hb); clear h hb
  go_enter Tryz.func43, Tryz.ntmps43
  go_wp2_with fail
  refine HI.out.mono ?_; rintro e w1 ⟨rfl, h1, h2⟩; have H1 := zh h1; have H2 := zh h2; clear h1 h2; go_wp2
  go_end0
  exact ⟨rfl, H1.out, H2.out⟩
theorem need_no (h : PaAt K w p i o sn ns fp) (hi : i < K.T.length) (s : ByteArray) (hb : isAny (tk K.T i) [s] = false) :
    Calls Tryz.prog 43 #[.pointer (some ⟨p, 0, none⟩), .string s] w fun e w' => e = .panicked (wrongP (tk K.T i).a 70) ∧ Below p w w' := by
  have HI := zh (got_no h hi s hb); have H := zh h; clear h hb
  go_enter Tryz.func43, Tryz.ntmps43
  go_wp2_with fail
  refine HI.out.mono ?_; rintro e w1 ⟨rfl, h1, h2⟩; have HA := zh (at_any h1 hi); have HB := zh h2; clear h1 h2; go_wp2_with fail
  refine HA.out.mono ?_; rintro e w2 ⟨rfl, hb2⟩; have HB2 := zh (show Below p w w2 from (HB.out.trans (hb2.mono HB.out.size)).mono (Nat.le_of_lt H.out.lt)); clear hb2; go_wp2_with fail
  refine (no_any _ _ _).mono ?_; rintro e w3 ⟨rfl, rfl⟩; unfold wrongP; go_wp2
  exact ⟨rfl, rfl, HB2.out⟩
end

theorem srec_idle (x y z : Nat) (w : World) :
    CallsD Tryz.prog 16 #[.pointer (some ⟨x, 0, none⟩), .pointer (some ⟨y, 0, none⟩), .pointer (some ⟨z, 0, none⟩)] .returning w fun e u' w' =>
      e = .returned (.tuple #[]) ∧ u' = .returning ∧ w = w' := by
  refine callsD_of_wpS Tryz.func16 rfl fun c₀ cs hu => ?_
  apply wpS_seq
  apply wpS_region
  simp [wpOpsS, go_sem, recoverD, hu, Tryz.ntmps16, Exit.thenS, Array.replicate, List.replicate]
  refine wpS_of_wp ?_; go_wp2
  simp [bodyPostS, results, Tryz.results16]
  cases c₀; cases hu; rfl
theorem srec_panic (g : Nat) (v : Value) (x y a n : Int) (w : World) (h0 : w.heap[g]? = some (.cells #[v] 36 (0, 0))) (h1 : w.heap[g + 1]? = some (.cells #[.int .i64 x] 3 (0, 0))) (h2 : w.heap[g + 2]? = some (.cells #[.int .i64 y] 24 (0, 0))) :
    CallsD Tryz.prog 16 #[.pointer (some ⟨g, 0, none⟩), .pointer (some ⟨g + 1, 0, none⟩), .pointer (some ⟨g + 2, 0, none⟩)] (.panicking ({ v := .iface 55 (.agg #[.int .i64 a, .int .i64 n]), recovered := false } :: [])) w fun e u' w' =>
      e = .returned (.tuple #[]) ∧ u' = .panicking ({ v := .iface 55 (.agg #[.int .i64 a, .int .i64 n]), recovered := true } :: []) ∧ w'.heap[g]? = some (.cells #[.slice none 0 0] 36 (0, 0)) ∧ w'.heap[g + 1]? = some (.cells #[.int .i64 a] 3 (0, 0)) ∧ w'.heap[g + 2]? = some (.cells #[.int .i64 n] 24 (0, 0)) ∧ Fr [g, g + 1, g + 2] w w' := by
  have hta : ∀ w, (Instr.typeAssert (.iface 55 (.agg #[.int .i64 a, .int .i64 n])) 20 55 true).run Tryz.prog w = .ok (.tuple #[.agg #[.int .i64 a, .int .i64 n], .bool true]) w := fun w => by kernel_rfl
  have H0 := zh h0; have H1 := zh h1; have H2 := zh h2; clear h0 h1 h2; refine callsD_of_wpS Tryz.func16 rfl fun c₀ cs hu => ?_
  apply wpS_seq
  apply wpS_region
  simp [wpOpsS, go_sem, recoverD, hu, Tryz.ntmps16, Exit.thenS, Array.replicate, List.replicate]
  refine wpS_of_wp ?_; go_wp2
  refine gen_wpT fun W hW => ?_; have k0 : W.heap[g]? = some (.cells #[v] 36 (0, 0)) := by rw [← hW]; exact blk_alloc H0.out _
  have k1 : W.heap[g + 1]? = some (.cells #[.int .i64 x] 3 (0, 0)) := by rw [← hW]; exact blk_alloc H1.out _
  have k2 : W.heap[g + 2]? = some (.cells #[.int .i64 y] 24 (0, 0)) := by rw [← hW]; exact blk_alloc H2.out _
  have kT : W.heap[w.heap.size]? = some (.cells #[.int .i64 a, .int .i64 n] 55 (0, 0)) := by rw [← hW]; exact heap_new_at _ _ _ rfl
  have kW : Fr [g, g + 1, g + 2] w W := by rw [← hW]; exact (Fr.refl _ _).alloc _
  clear hW; have t0 : W.cell? ⟨w.heap.size, 0, none⟩ = some (.int .i64 a) := cell_of_blk kT rfl; have t1 : W.cell? ⟨w.heap.size, 1, none⟩ = some (.int .i64 n) := cell_of_blk kT rfl; have v0 : W.cell? ⟨g, 0, none⟩ = some v := cell_of_blk k0 rfl; have v1 : W.cell? ⟨g + 1, 0, none⟩ = some (.int .i64 x) := cell_of_blk k1 rfl; have v2 : W.cell? ⟨g + 2, 0, none⟩ = some (.int .i64 y) := cell_of_blk k2 rfl; have f0 : W.frozen? ⟨g, 0, none⟩ = false := free_of_blk k0; have f1 : W.frozen? ⟨g + 1, 0, none⟩ = false := free_of_blk k1; have f2 : W.frozen? ⟨g + 2, 0, none⟩ = false := free_of_blk k2; have l0 := blk_lt H0.out; have l1 := blk_lt H1.out; have l2 := blk_lt H2.out; have lT := blk_lt kT; have hn0 : w.heap.size ≠ g := by omega
  have hn1 : w.heap.size ≠ g + 1 := by omega
  have hn2 : w.heap.size ≠ g + 2 := by omega
  have K0 := zh k0; have K1 := zh k1; have K2 := zh k2; have KW := zh kW; clear k0 k1 k2 kT kW
  go_region
  have hR : ((((W.setCell ⟨g, 0, none⟩ (.slice none 0 0)).setCell ⟨g + 1, 0, none⟩ (.int .i64 a)).setCell ⟨g + 2, 0, none⟩ (.int .i64 n)).drew).heap[g]? = some (.cells #[.slice none 0 0] 36 (0, 0)) ∧ ((((W.setCell ⟨g, 0, none⟩ (.slice none 0 0)).setCell ⟨g + 1, 0, none⟩ (.int .i64 a)).setCell ⟨g + 2, 0, none⟩ (.int .i64 n)).drew).heap[g + 1]? = some (.cells #[.int .i64 a] 3 (0, 0)) ∧ ((((W.setCell ⟨g, 0, none⟩ (.slice none 0 0)).setCell ⟨g + 1, 0, none⟩ (.int .i64 a)).setCell ⟨g + 2, 0, none⟩ (.int .i64 n)).drew).heap[g + 2]? = some (.cells #[.int .i64 n] 24 (0, 0)) ∧ Fr [g, g + 1, g + 2] w ((((W.setCell ⟨g, 0, none⟩ (.slice none 0 0)).setCell ⟨g + 1, 0, none⟩ (.int .i64 a)).setCell ⟨g + 2, 0, none⟩ (.int .i64 n)).drew) :=
    ⟨blk_drew (blk_far (blk_far (blk_set (i := 0) K0.out _) (by simp) _) (by simp) _), blk_drew (blk_far (blk_set (i := 0) (blk_far K1.out (by simp) _) _) (by simp) _), blk_drew (blk_set (i := 0) (blk_far (blk_far K2.out (by simp) _) (by simp) _) _), (((KW.out.set _ (.inl (by simp))).set _ (.inl (by simp))).set _ (.inl (by simp))).drew⟩
  have HR := zh hR; clear hR
  change bodyPostS Tryz.prog Tryz.f16 _ _ _ _ _ _ _
  simp [bodyPostS, results, Tryz.results16]
  first | exact HR.out | exact ⟨_, by cases c₀; cases hu; rfl, rfl, HR.out⟩
def ScanOut (s : ByteArray) (w : World) (e : Ending) (w' : World) : Prop := Below w.heap.size w w' ∧
  ((100000 < s.size ∧ e = .returned (.tuple #[.slice none 0 0, .int .i64 0, .int .i64 2])) ∨
   (s.size ≤ 100000 ∧ ∃ p er : Nat, scanL s.data.toList = .inl (p, er) ∧ e = .returned (.tuple #[.slice none 0 0, .int .i64 (p : Int), .int .i64 (er : Int)])) ∨
   (s.size ≤ 100000 ∧ ∃ (toks : List Tok) (A : Option Addr) (c : Nat), scanL s.data.toList = .inr toks ∧ e = .returned (.tuple #[.slice A toks.length c, .int .i64 0, .int .i64 0]) ∧ Reads w' w'.heap.size A (toks.flatMap tkEnc) ∧ toks.length ≤ c ∧ toks.length ≤ s.size + 1))
theorem MaxC.below {w w' : World} {m : Int} (h : MaxC w m) (hb : Below w.heap.size w w') : MaxC w' m := ⟨(hb.cell (p := ⟨3, 0, none⟩) h.2).trans h.1, Nat.lt_of_lt_of_le h.2 hb.size⟩
theorem scan_any (s : ByteArray) (m : Int) (w : World) (hsp : SpW w) (hm : MaxC w m) : Calls Tryz.prog 9 #[.string s] w (ScanOut s w) := by
  have HSP := zh hsp; have HM := zh hm; clear hsp hm; have hmf : ∀ (fn : Fn) (first cap : Array Value) (w : World), (Instr.makeFunc fn first cap).run Tryz.prog w = .ok (.func fn first cap) w := fun _ _ _ _ => rfl; by_cases hbig : 100000 < s.size
  · have hb' : (100000 : Int) < (s.size : Int) := by omega
    have HBG := zh hbig; clear hbig
    go_enter_defers Tryz.func9, Tryz.ntmps9
    go_wp2_with fail
    have z0 : (((w.alloc (.cells #[.slice none 0 0] 36)).alloc (.cells #[.int .i64 0] 3)).alloc (.cells #[.int .i64 2] 24)).cell? ⟨w.heap.size, 0, none⟩ = some (.slice none 0 0) := cell_of_blk (blk_alloc (blk_alloc (heap_new_at _ _ _ rfl) _) _) rfl; have z1 : (((w.alloc (.cells #[.slice none 0 0] 36)).alloc (.cells #[.int .i64 0] 3)).alloc (.cells #[.int .i64 2] 24)).cell? ⟨w.heap.size + 1, 0, none⟩ = some (.int .i64 0) := cell_of_blk (blk_alloc (heap_new_at _ _ _ (by simp)) _) rfl; have z2 : (((w.alloc (.cells #[.slice none 0 0] 36)).alloc (.cells #[.int .i64 0] 3)).alloc (.cells #[.int .i64 2] 24)).cell? ⟨w.heap.size + 1 + 1, 0, none⟩ = some (.int .i64 2) := cell_of_blk (heap_new_at _ _ _ (by simp)) rfl; have HFIN := zh (show ScanOut s w (.returned (.tuple #[.slice none 0 0, .int .i64 0, .int .i64 2])) (((w.alloc (.cells #[.slice none 0 0] 36)).alloc (.cells #[.int .i64 0] 3)).alloc (.cells #[.int .i64 2] 24)) from ⟨((zbr.alloc znr _).alloc (by simp) _).alloc (by simp; omega) _, .inl ⟨HBG.out, rfl⟩⟩); simp [bodyPostD, Leaves, settle, results, Tryz.results9, go_sem, z0, z1, z2]
    exact HFIN.out
  have hb' : ¬ (100000 : Int) < (s.size : Int) := by omega
  have hs : s.size ≤ 100000 := by omega
  clear hbig; obtain ⟨b0, hb0⟩ : ∃ b, b = w.heap.size := ⟨_, rfl⟩; obtain ⟨W, hW⟩ : ∃ W, W = ((w.alloc (.cells #[.slice none 0 0] 36)).alloc (.cells #[.int .i64 0] 3)).alloc (.cells #[.int .i64 0] 24) := ⟨_, rfl⟩; have K0 := zh (show W.heap[b0]? = some (.cells #[.slice none 0 0] 36 (0, 0)) by rw [hW, hb0]; exact blk_alloc (blk_alloc (heap_new_at _ _ _ rfl) _) _); have K1 := zh (show W.heap[b0 + 1]? = some (.cells #[.int .i64 0] 3 (0, 0)) by rw [hW, hb0]; exact blk_alloc (heap_new_at _ _ _ (by simp)) _); have K2 := zh (show W.heap[b0 + 2]? = some (.cells #[.int .i64 0] 24 (0, 0)) by rw [hW, hb0]; exact heap_new_at _ _ _ (by simp)); have KB := zh (show Below w.heap.size w W by rw [hW]; exact ((zbr.alloc znr _).alloc (by simp) _).alloc (by simp; omega) _); have HB0 := zh hb0; have HWW := zh hW; clear hW
  go_enter_defers Tryz.func9, Tryz.ntmps9
  go_wp2_with fail
  rw [← hb0, ← HWW.out]; refine (words_any W (HSP.out.below KB.out)).mono ?_; rintro e w1 ⟨mb, nb, D, rfl, hmb, hM, hD, hB1⟩; obtain ⟨g, hg⟩ : ∃ g, g = w1.heap.size := ⟨_, rfl⟩; have H1 := zh hB1; have hbs : b0 + 2 < W.heap.size := blk_lt K2.out; have hs1 := hB1.size; have hg1 : g ≠ 3 := by have := HM.out.2; have := KB.out.size; omega
  have hbm : mb < w1.heap.size := by obtain ⟨es, clock, hb, r⟩ := hM; exact blk_lt hb
  have HA := zh (xall_any (g := g) (mb := mb) (nb := nb) (D := D) (s := s) (m := m) (by omega) (w1.alloc (.cells #[.string s, .int .i64 0, .map (some mb)] 60)) (heap_new_at _ _ _ hg.symm) (((Fr.refl [] w1).alloc _).map hM (by simp)) hD (by omega) ((HM.out.below KB.out).below hB1 |>.below (zbr.alloc znr _)) hg1); have K0a := zh (blk_alloc (below_blk hB1 K0.out) (.cells #[.string s, .int .i64 0, .map (some mb)] 60)); have K1a := zh (blk_alloc (below_blk hB1 K1.out) (.cells #[.string s, .int .i64 0, .map (some mb)] 60)); have K2a := zh (blk_alloc (below_blk hB1 K2.out) (.cells #[.string s, .int .i64 0, .map (some mb)] 60)); have KBa := zh (KB.out.trans ((hB1.trans (((Below.refl w1.heap.size w1).alloc znr (.cells #[.string s, .int .i64 0, .map (some mb)] 60)).mono hB1.size)).mono KB.out.size)); clear hmb hM hD hB1; go_wp2_with fail
  rw [← hg]; refine HA.out.mono ?_; rintro e w2 ⟨hf, hao⟩; have hbg : b0 + 2 < g := by omega
  have K0b := zh (hf.blk K0a.out (by simp; omega)); have K1b := zh (hf.blk K1a.out (by simp; omega)); have K2b := zh (hf.blk K2a.out (by simp; omega)); have KBb := zh (show Below w.heap.size w w2 from KBa.out.trans (hf.to_below (by have := KBa.out.size; omega) (by intro b hb; rw [List.mem_singleton.1 hb]; have := KB.out.size; omega))); have hgs : g < (w1.alloc (.cells #[.string s, .int .i64 0, .map (some mb)] 60)).heap.size := by simp; omega
  have HGS := zh hgs; clear hf hgs
  rcases hao with ⟨p, er, h1, rfl⟩ | ⟨toks, A, c, h1, rfl, hO, hlen⟩
  · have HS := zh h1
    clear h1; unfold wrongX; go_wp2
    rw [← hb0]; refine leaves_cons (f := 16) (args := #[.pointer (some ⟨b0, 0, none⟩), .pointer (some ⟨b0 + 1, 0, none⟩), .pointer (some ⟨b0 + 2, 0, none⟩)]) (by simp) (by simp [go_sem]) ?_; refine (srec_panic b0 (.slice none 0 0) 0 0 p er _ K0b.out K1b.out K2b.out).mono ?_; rintro e u' w3 ⟨rfl, rfl, k0, k1, k2, hF⟩; have j0 := zc 0 k0 rfl; have j1 := zc 0 k1 rfl; have j2 := zc 0 k2 rfl; have HFIN := zh (show ScanOut s w (.returned (.tuple #[.slice none 0 0, .int .i64 (p : Int), .int .i64 (er : Int)])) w3 from ⟨KBb.out.trans (hF.to_below KBb.out.size (by intro b hb; have := HB0.out; simp at hb; omega)), .inr (.inl ⟨hs, p, er, HS.out, rfl⟩)⟩); simp [Leaves, settle, results, Tryz.results9, go_sem, j0, j1, j2]
    exact HFIN.out
  · have HS := zh h1
    have HO := zh hO; have HLN := zh hlen; clear h1 hO hlen; subst hb0; have v0 : w2.cell? ⟨w.heap.size, 0, none⟩ = some (.slice none 0 0) := zc 0 K0b.out rfl; have v1 : w2.cell? ⟨w.heap.size + 1, 0, none⟩ = some (.int .i64 0) := zc 0 K1b.out rfl; have v2 : w2.cell? ⟨w.heap.size + 1 + 1, 0, none⟩ = some (.int .i64 0) := zc 0 K2b.out rfl; have f0 : w2.frozen? ⟨w.heap.size, 0, none⟩ = false := free_of_blk (i := 0) K0b.out; have f1 : w2.frozen? ⟨w.heap.size + 1, 0, none⟩ = false := free_of_blk (i := 0) K1b.out; have f2 : w2.frozen? ⟨w.heap.size + 1 + 1, 0, none⟩ = false := free_of_blk (i := 0) K2b.out; have l0 := blk_lt K0b.out; have l1 := blk_lt K1b.out; have l2 : w.heap.size + 1 + 1 < w2.heap.size := blk_lt K2b.out; have j0 : (((w2.setCell ⟨w.heap.size, 0, none⟩ (.slice A toks.length c)).setCell ⟨w.heap.size + 1, 0, none⟩ (.int .i64 0)).setCell ⟨w.heap.size + 1 + 1, 0, none⟩ (.int .i64 0)).cell? ⟨w.heap.size, 0, none⟩ = some (.slice A toks.length c) := zc 0 (blk_far (a := ⟨w.heap.size + 1 + 1, 0, none⟩) (blk_far (a := ⟨w.heap.size + 1, 0, none⟩) (blk_set (i := 0) K0b.out _) (by simp) _) (by simp; omega) _) rfl; have j1 : (((w2.setCell ⟨w.heap.size, 0, none⟩ (.slice A toks.length c)).setCell ⟨w.heap.size + 1, 0, none⟩ (.int .i64 0)).setCell ⟨w.heap.size + 1 + 1, 0, none⟩ (.int .i64 0)).cell? ⟨w.heap.size + 1, 0, none⟩ = some (.int .i64 0) := zc 0 (blk_far (a := ⟨w.heap.size + 1 + 1, 0, none⟩) (blk_set (i := 0) (blk_far (a := ⟨w.heap.size, 0, none⟩) K1b.out (by simp) _) _) (by simp) _) rfl; have j2 : (((w2.setCell ⟨w.heap.size, 0, none⟩ (.slice A toks.length c)).setCell ⟨w.heap.size + 1, 0, none⟩ (.int .i64 0)).setCell ⟨w.heap.size + 1 + 1, 0, none⟩ (.int .i64 0)).cell? ⟨w.heap.size + 1 + 1, 0, none⟩ = some (.int .i64 0) := zc 0 (blk_set (i := 0) (blk_far (a := ⟨w.heap.size + 1, 0, none⟩) (blk_far (a := ⟨w.heap.size, 0, none⟩) K2b.out (by simp) _) (by simp) _) _) rfl; have hFr : Fr [w.heap.size, w.heap.size + 1, w.heap.size + 1 + 1] w2 (((w2.setCell ⟨w.heap.size, 0, none⟩ (.slice A toks.length c)).setCell ⟨w.heap.size + 1, 0, none⟩ (.int .i64 0)).setCell ⟨w.heap.size + 1 + 1, 0, none⟩ (.int .i64 0)) := (((Fr.refl _ _).set _ (.inl (by simp))).set _ (.inl (by simp))).set _ (.inl (by simp)); have hown := own_readsX (hFr.own HO.out (fun g' hg' => by have h1 := own_base HO.out g' hg'; have h2 := HGS.out; simp; omega)); have HFIN := zh (show ScanOut s w (.returned (.tuple #[.slice A toks.length c, .int .i64 0, .int .i64 0])) (((w2.setCell ⟨w.heap.size, 0, none⟩ (.slice A toks.length c)).setCell ⟨w.heap.size + 1, 0, none⟩ (.int .i64 0)).setCell ⟨w.heap.size + 1 + 1, 0, none⟩ (.int .i64 0)) from ⟨KBb.out.trans (hFr.to_below KBb.out.size (by intro b hb; simp at hb; omega)), .inr (.inr ⟨hs, toks, A, c, HS.out, rfl, hown.1, hown.2, by have := HLN.out; simpa using this⟩)⟩); have J0 := zh j0; have J1 := zh j1; have J2 := zh j2; clear j0 j1 j2 hFr hown; go_wp2
    refine leaves_cons (f := 16) (args := #[.pointer (some ⟨w.heap.size, 0, none⟩), .pointer (some ⟨w.heap.size + 1, 0, none⟩), .pointer (some ⟨w.heap.size + 1 + 1, 0, none⟩)]) (by simp) (by simp [go_sem]) ?_; refine (srec_idle w.heap.size (w.heap.size + 1) (w.heap.size + 1 + 1) _).mono ?_; rintro e u' w3 ⟨rfl, rfl, rfl⟩; simp [Leaves, settle, results, Tryz.results9, go_sem, J0.out, J1.out, J2.out]
    exact HFIN.out

abbrev tokJ (t : Tok) : Value := .agg #[.int .i64 t.kind, .string t.text, .int .i64 (t.a : Int), .int .i64 (t.z : Int), .int .i64 t.n]
abbrev tokZ0 : Array Value := #[.int .i64 0, .string ByteArray.empty, .int .i64 0, .int .i64 0, .int .i64 0]
abbrev tokA0 (t : Tok) : Array Value := #[.int .i64 t.kind, .string t.text, .int .i64 (t.a : Int), .int .i64 (t.z : Int), .int .i64 t.n]
theorem blk5 {w : World} {b : Nat} {T : TypeId} {v0 v1 v2 v3 v4 : Value} (h : w.heap[b]? = some (.cells #[v0, v1, v2, v3, v4] T (0, 0))) : w.cell? ⟨b, 0, none⟩ = some v0 ∧ w.cell? ⟨b, 1, none⟩ = some v1 ∧ w.cell? ⟨b, 2, none⟩ = some v2 ∧ w.cell? ⟨b, 3, none⟩ = some v3 ∧ w.cell? ⟨b, 4, none⟩ = some v4 ∧ b < w.heap.size :=
  ⟨cell_of_blk h rfl, cell_of_blk h rfl, cell_of_blk h rfl, cell_of_blk h rfl, cell_of_blk h rfl, blk_lt h⟩
theorem frz5 {w : World} {b : Nat} {cs : Array Value} {T : TypeId} (h : w.heap[b]? = some (.cells cs T (0, 0))) : w.frozen? ⟨b, 0, none⟩ = false ∧ w.frozen? ⟨b, 1, none⟩ = false ∧ w.frozen? ⟨b, 2, none⟩ = false ∧ w.frozen? ⟨b, 3, none⟩ = false ∧ w.frozen? ⟨b, 4, none⟩ = false :=
  ⟨free_of_blk h, free_of_blk h, free_of_blk h, free_of_blk h, free_of_blk h⟩
abbrev set5 (w : World) (b : Nat) (v0 v1 v2 v3 v4 : Value) : World := ((((w.setCell ⟨b, 0, none⟩ v0).setCell ⟨b, 1, none⟩ v1).setCell ⟨b, 2, none⟩ v2).setCell ⟨b, 3, none⟩ v3).setCell ⟨b, 4, none⟩ v4
theorem fr_five (w : World) (b : Nat) (v0 v1 v2 v3 v4 : Value) : Fr [b] w (set5 w b v0 v1 v2 v3 v4) :=
  (((((Fr.refl [b] w).set (a := ⟨b, 0, none⟩) v0 (.inl (by simp))).set (a := ⟨b, 1, none⟩) v1 (.inl (by simp))).set (a := ⟨b, 2, none⟩) v2 (.inl (by simp))).set (a := ⟨b, 3, none⟩) v3 (.inl (by simp))).set (a := ⟨b, 4, none⟩) v4 (.inl (by simp))
section
variable {K : PaK} {w w' : World} {p i o : Nat} {sn : Fin 8 → Bool} {ns : List Nd} {fp fp' : List Nat}
def OutV (K : PaK) (w : World) (p i o : Nat) (sn : Fin 8 → Bool) (ns : List Nd) (fp : List Nat) (v : Value) (e : Ending) (w' : World) : Prop := e = .returned v ∧ PaAt K w' p i o sn ns fp ∧ PaTo w fp w' fp
def OutB (w : World) (p a n : Nat) (e : Ending) (w' : World) : Prop := e = .panicked (wrongP a n) ∧ Below p w w'
theorem token_ok (h : PaAt K w p i o sn ns fp) (hi : i < K.T.length) (kd : Int) (hk : (tk K.T i).kind = kd) :
    Calls Tryz.prog 22 #[.pointer (some ⟨p, 0, none⟩), .int .i64 kd] w (OutV K w p (i + 1) o sn ns fp (tokJ (tk K.T i))) := by
  have hb0 : Below w.heap.size w (w.alloc (.cells tokZ0 65)) := zbr.alloc znr _; have HN := zh (now_any (h.below hb0) hi); obtain ⟨t, ht⟩ : ∃ t, t = tk K.T i := ⟨_, rfl⟩; rw [← ht] at HN hk ⊢; obtain ⟨g, hg⟩ : ∃ g, g = w.heap.size := ⟨_, rfl⟩; have HG := zh hg; have hq : (t.kind != kd) = false := by rw [hk]; simp
  have H := zh h; have hl := h.env.len; obtain ⟨i1, hi1⟩ : ∃ i1, i1 = i + 1 := ⟨_, rfl⟩; rw [← hi1]; have hadd : (i : Int) + 1 = (i1 : Int) := by omega
  have hw : IntKind.i64.wrap (i1 : Int) = (i1 : Int) := IntWalk.i64_in _ (by omega); have HZ := zh (show (w.alloc (.cells tokZ0 65)).heap[g]? = some (.cells tokZ0 65 (0, 0)) from heap_new_at _ _ _ hg.symm); clear h ht hk hb0 hg hi1
  go_enter Tryz.func22, Tryz.ntmps22
  go_wp2_with fail
  rw [← HG.out]; refine HN.out.mono ?_; rintro e w1 ⟨rfl, hb1⟩; have HZ1 := zh (below_blk hb1 HZ.out); have HB1 := zh (show Below w.heap.size w w1 from (zbr.alloc znr _).trans (hb1.mono (by simp))); clear hb1; unfold tkEnc
  go_upto_region 2 with fail
  obtain ⟨b, hb⟩ : ∃ b, b = w1.heap.size := ⟨_, rfl⟩; rw [← hb]; refine gen_wpT fun W hW => ?_; have HT := zh (show W.heap[b]? = some (.cells (tokA0 t) 65 (0, 0)) by rw [← hW]; exact heap_new_at _ _ _ hb.symm); have HZ2 := zh (show W.heap[g]? = some (.cells tokZ0 65 (0, 0)) by rw [← hW]; exact blk_alloc HZ1.out _); have HWB := zh (show Below w.heap.size w W by rw [← hW]; exact HB1.out.alloc HB1.out.size _); have HNE := zh (show b ≠ g ∧ p ≠ b ∧ p ≠ g from by have h1 := blk_lt HZ1.out; have h2 := H.out.lt; have h3 := HG.out; have h4 := HB1.out.size; exact ⟨by omega, by omega, by omega⟩); clear hW hb; have HP := zh (H.out.below HWB.out); obtain ⟨nv, l, hm⟩ := HP.out.mem; obtain ⟨-, c1, -, -, -, cf⟩ := pa_cell hm.blk; have c1f := cf 1; have pl := blk_lt hm.blk; obtain ⟨t0, t1, t2, t3, t4, tl⟩ := blk5 HT.out; obtain ⟨z0, z1, z2, z3, z4, zl⟩ := blk5 HZ2.out; obtain ⟨y0, y1, y2, y3, y4⟩ := frz5 HZ2.out; have n1 := HNE.out.1; have n2 := HNE.out.2.1; have n3 := HNE.out.2.2; clear hm cf; go_wp2
  obtain ⟨h1, h2⟩ := HP.out.setI i1; have hzx : (W.setCell ⟨p, 1, none⟩ (.int .i64 (i1 : Int))).heap[g]? = some (.cells tokZ0 65 (0, 0)) := blk_far HZ2.out (by simp; exact Ne.symm n3) _; obtain ⟨j0, j1, j2, j3, j4⟩ := tok_five hzx rfl (.int .i64 t.kind) (.string t.text) (.int .i64 (t.a : Int)) (.int .i64 (t.z : Int)) (.int .i64 t.n); have hfr := fr_five (W.setCell ⟨p, 1, none⟩ (.int .i64 (i1 : Int))) g (.int .i64 t.kind) (.string t.text) (.int .i64 (t.a : Int)) (.int .i64 (t.z : Int)) (.int .i64 t.n); have hgf : p ≤ g ∧ g ∉ fp := ⟨by have := H.out.lt; have := HG.out; omega, H.out.notin (Nat.le_of_eq HG.out.symm)⟩; have HFIN := zh (show OutV K w p i1 o sn ns fp (tokJ t) (.returned (tokJ t)) (set5 (W.setCell ⟨p, 1, none⟩ (.int .i64 (i1 : Int))) g (.int .i64 t.kind) (.string t.text) (.int .i64 (t.a : Int)) (.int .i64 (t.z : Int)) (.int .i64 t.n)) from
    ⟨rfl, h1.fr hfr (by simpa using hgf), ⟨((PaTo.of_below H.out HWB.out).trans h2).fr.trans hfr fun b hb => .inr (by rw [List.mem_singleton.1 hb, HG.out]; exact znr), fun b hb => .inl hb⟩⟩)
  clear h1 h2 hzx hfr; refine bodyPost_ret (v := tokJ t) (by simp [results, Tryz.results22, go_sem, j0, j1, j2, j3, j4]) rfl ?_; exact HFIN.out
end

theorem eqB {s : ByteArray} {l : List UInt8} (h : (s.toList == l) = true) : s = ⟨l.toArray⟩ := ByteArray.ext (Array.toList_inj.1 (by rw [beq_iff_eq, ByteArray.toList_eq] at h; exact h))
theorem neB {s : ByteArray} {l : List UInt8} (h : (s.toList == l) = false) : ¬ s = ⟨l.toArray⟩ := fun e => by
  rw [beq_eq_false_iff_ne] at h; exact h (by rw [e, ByteArray.toList_eq])
def builtI (s : ByteArray) : Int := match builtinL s with | some n => (n : Int) | none => -1
theorem built_no {s : ByteArray} (h0 : ¬ s = ⟨#[114, 101, 97, 100]⟩) (h1 : ¬ s = ⟨#[112, 99, 97, 108, 108]⟩) (h2 : ¬ s = ⟨#[101, 114, 114, 111, 114]⟩) (h3 : ¬ s = ⟨#[116, 121, 112, 101]⟩) (h4 : ¬ s = ⟨#[99, 114, 101, 97, 116, 101]⟩) (h5 : ¬ s = ⟨#[121, 105, 101, 108, 100]⟩) (h6 : ¬ s = ⟨#[115, 116, 97, 116, 117, 115]⟩) (h7 : ¬ s = ⟨#[119, 114, 105, 116, 101]⟩) (h8 : ¬ s = ⟨#[107, 101, 121]⟩) (h9 : ¬ s = ⟨#[114, 101, 115, 117, 109, 101]⟩) : builtI s = -1 := by
  unfold builtI builtinL inB; simp [h0, h1, h2, h3, h4, h5, h6, h7, h8, h9]
theorem builtin_any (s : ByteArray) (w : World) : Calls Tryz.prog 94 #[.string s] w (Ret (.int .i64 (builtI s)) w) := by
  cases e0 : (s.toList == [119, 114, 105, 116, 101]) with
  | true =>
    have HR := zh (show builtI s = 2 by rw [eqB e0]; decide)
    go_enter Tryz.func94, Tryz.ntmps94
    go_wp2
    go_ret
    exact ⟨by rw [HR.out]; rfl, rfl⟩
  | false =>
  cases e1 : (s.toList == [107, 101, 121]) with
  | true =>
    have HR := zh (show builtI s = 2 by rw [eqB e1]; decide)
    go_enter Tryz.func94, Tryz.ntmps94
    go_wp2
    go_ret
    exact ⟨by rw [HR.out]; rfl, rfl⟩
  | false =>
  cases e2 : (s.toList == [114, 101, 115, 117, 109, 101]) with
  | true =>
    have HR := zh (show builtI s = 2 by rw [eqB e2]; decide)
    go_enter Tryz.func94, Tryz.ntmps94
    go_wp2
    go_ret
    exact ⟨by rw [HR.out]; rfl, rfl⟩
  | false =>
  cases e3 : (s.toList == [114, 101, 97, 100]) with
  | true =>
    have HR := zh (show builtI s = 1 by rw [eqB e3]; decide)
    go_enter Tryz.func94, Tryz.ntmps94
    go_wp2
    go_ret
    exact ⟨by rw [HR.out]; rfl, rfl⟩
  | false =>
  cases e4 : (s.toList == [112, 99, 97, 108, 108]) with
  | true =>
    have HR := zh (show builtI s = 1 by rw [eqB e4]; decide)
    go_enter Tryz.func94, Tryz.ntmps94
    go_wp2
    go_ret
    exact ⟨by rw [HR.out]; rfl, rfl⟩
  | false =>
  cases e5 : (s.toList == [101, 114, 114, 111, 114]) with
  | true =>
    have HR := zh (show builtI s = 1 by rw [eqB e5]; decide)
    go_enter Tryz.func94, Tryz.ntmps94
    go_wp2
    go_ret
    exact ⟨by rw [HR.out]; rfl, rfl⟩
  | false =>
  cases e6 : (s.toList == [116, 121, 112, 101]) with
  | true =>
    have HR := zh (show builtI s = 1 by rw [eqB e6]; decide)
    go_enter Tryz.func94, Tryz.ntmps94
    go_wp2
    go_ret
    exact ⟨by rw [HR.out]; rfl, rfl⟩
  | false =>
  cases e7 : (s.toList == [99, 114, 101, 97, 116, 101]) with
  | true =>
    have HR := zh (show builtI s = 1 by rw [eqB e7]; decide)
    go_enter Tryz.func94, Tryz.ntmps94
    go_wp2
    go_ret
    exact ⟨by rw [HR.out]; rfl, rfl⟩
  | false =>
  cases e8 : (s.toList == [121, 105, 101, 108, 100]) with
  | true =>
    have HR := zh (show builtI s = 1 by rw [eqB e8]; decide)
    go_enter Tryz.func94, Tryz.ntmps94
    go_wp2
    go_ret
    exact ⟨by rw [HR.out]; rfl, rfl⟩
  | false =>
  cases e9 : (s.toList == [115, 116, 97, 116, 117, 115]) with
  | true =>
    have HR := zh (show builtI s = 1 by rw [eqB e9]; decide)
    go_enter Tryz.func94, Tryz.ntmps94
    go_wp2
    go_ret
    exact ⟨by rw [HR.out]; rfl, rfl⟩
  | false =>
  have HR := zh (built_no (s := s) (neB e3) (neB e4) (neB e5) (neB e6) (neB e7) (neB e8) (neB e9) (neB e0) (neB e1) (neB e2))
  go_enter Tryz.func94, Tryz.ntmps94
  go_wp2
  go_ret
  exact ⟨by rw [HR.out]; rfl, rfl⟩
theorem rbuiltin_any (s : ByteArray) (w : World) : Calls Tryz.prog 28 #[.string s] w (Ret (.int .i64 (builtI s)) w) := by
  cases e0 : (s.toList == [114, 101, 97, 100]) with
  | true =>
    have HR := zh (show builtI s = 1 by rw [eqB e0]; decide)
    go_enter Tryz.func28, Tryz.ntmps28
    go_wp2
    go_ret
    exact ⟨by rw [HR.out]; rfl, rfl⟩
  | false =>
  cases e1 : (s.toList == [112, 99, 97, 108, 108]) with
  | true =>
    have HR := zh (show builtI s = 1 by rw [eqB e1]; decide)
    go_enter Tryz.func28, Tryz.ntmps28
    go_wp2
    go_ret
    exact ⟨by rw [HR.out]; rfl, rfl⟩
  | false =>
  cases e2 : (s.toList == [101, 114, 114, 111, 114]) with
  | true =>
    have HR := zh (show builtI s = 1 by rw [eqB e2]; decide)
    go_enter Tryz.func28, Tryz.ntmps28
    go_wp2
    go_ret
    exact ⟨by rw [HR.out]; rfl, rfl⟩
  | false =>
  cases e3 : (s.toList == [116, 121, 112, 101]) with
  | true =>
    have HR := zh (show builtI s = 1 by rw [eqB e3]; decide)
    go_enter Tryz.func28, Tryz.ntmps28
    go_wp2
    go_ret
    exact ⟨by rw [HR.out]; rfl, rfl⟩
  | false =>
  cases e4 : (s.toList == [99, 114, 101, 97, 116, 101]) with
  | true =>
    have HR := zh (show builtI s = 1 by rw [eqB e4]; decide)
    go_enter Tryz.func28, Tryz.ntmps28
    go_wp2
    go_ret
    exact ⟨by rw [HR.out]; rfl, rfl⟩
  | false =>
  cases e5 : (s.toList == [121, 105, 101, 108, 100]) with
  | true =>
    have HR := zh (show builtI s = 1 by rw [eqB e5]; decide)
    go_enter Tryz.func28, Tryz.ntmps28
    go_wp2
    go_ret
    exact ⟨by rw [HR.out]; rfl, rfl⟩
  | false =>
  cases e6 : (s.toList == [115, 116, 97, 116, 117, 115]) with
  | true =>
    have HR := zh (show builtI s = 1 by rw [eqB e6]; decide)
    go_enter Tryz.func28, Tryz.ntmps28
    go_wp2
    go_ret
    exact ⟨by rw [HR.out]; rfl, rfl⟩
  | false =>
  cases e7 : (s.toList == [119, 114, 105, 116, 101]) with
  | true =>
    have HR := zh (show builtI s = 2 by rw [eqB e7]; decide)
    go_enter Tryz.func28, Tryz.ntmps28
    go_wp2
    go_ret
    exact ⟨by rw [HR.out]; rfl, rfl⟩
  | false =>
  cases e8 : (s.toList == [107, 101, 121]) with
  | true =>
    have HR := zh (show builtI s = 2 by rw [eqB e8]; decide)
    go_enter Tryz.func28, Tryz.ntmps28
    go_wp2
    go_ret
    exact ⟨by rw [HR.out]; rfl, rfl⟩
  | false =>
  cases e9 : (s.toList == [114, 101, 115, 117, 109, 101]) with
  | true =>
    have HR := zh (show builtI s = 2 by rw [eqB e9]; decide)
    go_enter Tryz.func28, Tryz.ntmps28
    go_wp2
    go_ret
    exact ⟨by rw [HR.out]; rfl, rfl⟩
  | false =>
  have HR := zh (built_no (s := s) (neB e0) (neB e1) (neB e2) (neB e3) (neB e4) (neB e5) (neB e6) (neB e7) (neB e8) (neB e9))
  go_enter Tryz.func28, Tryz.ntmps28
  go_wp2
  go_ret
  exact ⟨by rw [HR.out]; rfl, rfl⟩
end Go.Proofs.YthobobmbileekaaGreatDoor
