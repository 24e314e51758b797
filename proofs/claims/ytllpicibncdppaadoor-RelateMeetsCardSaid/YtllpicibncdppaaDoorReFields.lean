/-
  relate.fields: whether a shape has another one's fields, as they are asked.
-/
import Derived.Test.YtllpicibncdppaaDoorReField
import Derived.RegionTactic
import Derived.ChangeAlike
set_option linter.unusedVariables false
set_option linter.unusedSimpArgs false
namespace Go.Proofs.YtllpicibncdppaaDoor
open Go.ChangeShapes Go.WideShapes Go.ChangeAt Go.RowKit

theorem tb_bool (b : Bool) : tb (b = true) = b := by cases b; exact tb_false (by simp); exact tb_true rfl
set_option maxRecDepth 100000 in
set_option maxHeartbeats 4000000 in
theorem fields_any (h : Bool) (hv : Int) (hh : (hv == 1) = h) (t u : LTy) (w : World) (ht : LIn w w.heap.size t) (hu : LIn w w.heap.size u) (hsp : SpW w) (mt : May (strip t)) (mu : May (strip u)) (t8 : t.kind = 8) (u8 : u.kind = 8) :
    Calls Tryd.prog 75 #[t.val, u.val, .int .i64 hv] w (RetB (.bool (tb (FieldsT h (strip t) (strip u)))) w) := by
  have hr := chk_rise mt.1 (by rw [strip_kind]; exact t8)
  have hlt := (shape_names mt.1 (by rw [strip_kind]; exact t8)).1
  have hlu := (shape_names mu.1 (by rw [strip_kind]; exact u8)).1
  rw [strip_names] at hr
  rw [strip_names, strip_len] at hlt hlu
  obtain ⟨n1, hn1⟩ : ∃ n, n = t.ns.length := ⟨_, rfl⟩
  obtain ⟨n2, hn2⟩ : ∃ n, n = u.ns.length := ⟨_, rfl⟩
  have HN := Lib.hid (show t.ns.length = n1 ∧ t.xs.length = n1 ∧ u.ns.length = n2 ∧ u.xs.length = n2 from ⟨hn1.symm, by rw [hn1]; exact hlt.symm, hn2.symm, by rw [hn2]; exact hlu.symm⟩)
  have HR := Lib.hid hr
  have HMT := Lib.hid mt
  have hl1 := ht.n1.2
  have hl2 := hu.n1.2
  rw [← hn1] at hl1
  rw [← hn2] at hl2
  clear hr hlt hlu hn1 hn2 mt mu t8 u8
  obtain ⟨ans, hans⟩ : ∃ ans, ans = tb (FieldsT h (strip t) (strip u)) := ⟨_, rfl⟩
  rw [← hans]
  have HA := Lib.hid hans
  clear hans
  unfold LTy.val
  obtain ⟨g, hg⟩ : ∃ g, g = w.heap.size := ⟨_, rfl⟩
  have HT := Lib.hid ht
  have HU := Lib.hid hu
  have HSP := Lib.hid hsp
  clear hsp
  clear ht hu
  go_enter Tryd.func75, Tryd.ntmps75
  go_upto_region 1 with fail
  rw [← hg]
  refine gen_wpT fun W hW => ?_
  obtain ⟨kt, ku, kb⟩ : TBox W g t ∧ TBox W (g + 1) u ∧ Below w.heap.size w W := by rw [← hW, hg]; exact two_boxes w t u
  have KB := Lib.hid kb
  have ktc0 := kt.c0
  have ktc1 := kt.c1
  have ktc2 := kt.c2
  have ktlt := kt.lt
  have kuc0 := ku.c0
  have kuc1 := ku.c1
  have kuc2 := ku.c2
  have kult := ku.lt
  clear hW hg
  rw [HN.out.1] at ktc1
  rw [HN.out.2.1] at ktc2
  rw [HN.out.2.2.1] at kuc1
  rw [HN.out.2.2.2] at kuc2
  have KT := Lib.hid kt
  have KU := Lib.hid ku
  clear kt ku kb
  go_wp2_with fail
  clear ktc0 ktc1 ktc2 kuc0 kuc1 kuc2
  go_loopw [17] (fun i wr => ∃ k : Nat, k ≤ n2 ∧ i = .int .i64 k ∧ Hid (∀ (j : Nat) (s : ByteArray) (y : LTy), j < k → u.ns[j]? = some s → u.xs[j]? = some y → FieldAt h (strip t) s (strip y)) ∧ Hid (Below W.heap.size W wr)) (fun i _ => n2 - (intOf i).toNat)
  case atStart => exact ⟨0, by omega, rfl, Lib.hid (fun j s y hj => by omega), Lib.hid (Below.refl _ _)⟩
  case round =>
    obtain ⟨k, hk, rfl, HK, HW⟩ := hrel
    have KBr := Lib.hid (KB.out.trans (HW.out.mono KB.out.size))
    by_cases hlt : k < n2
    case neg =>
      obtain rfl : k = n2 := by omega
      have hkk : ¬ (k : Int) < (k : Int) := by omega
      have e : ans = true := by
        rw [HA.out]
        exact tb_true fun i s y hs hy => by
          rw [strip_names] at hs
          obtain ⟨y', hy', rfl⟩ := strip_of hy
          exact HK.out i s y' (by have := (List.getElem?_eq_some_iff.1 hs).1; rw [HN.out.2.2.1] at this; exact this) hs hy'
      subst e
      go_wp2
      go_ret
      exact ⟨rfl, KBr.out⟩
    obtain ⟨s, hs⟩ : ∃ s, u.ns[k]? = some s := ⟨_, List.getElem?_eq_getElem (by rw [HN.out.2.2.1]; exact hlt)⟩
    obtain ⟨y, hy⟩ : ∃ y, u.xs[k]? = some y := ⟨_, List.getElem?_eq_getElem (by rw [HN.out.2.2.2]; exact hlt)⟩
    have htr := HT.out.on KBr.out
    have hur := HU.out.on KBr.out
    obtain ⟨a1, hA1, hl, s0⟩ := hur.name hs
    obtain ⟨a2, hA2, hy3⟩ := hur.at3 hy
    have sl : (a1.add k).block < wr.heap.size := by rw [block_add']; exact hl
    have hk' : (k : Int) < (n2 : Int) := by omega
    have hk0 : (0 : Int) ≤ k := by omega
    have BT := Lib.hid (KT.out.below HW.out)
    have BU := Lib.hid (KU.out.below HW.out)
    have bt := BT.out
    have bu := BU.out
    have btc0 := bt.c0
    have btc1 := bt.c1
    have btc2 := bt.c2
    have btlt := bt.lt
    have buc0 := bu.c0
    have buc1 := bu.c1
    have buc2 := bu.c2
    have bult := bu.lt
    rw [HN.out.1] at btc1
    rw [HN.out.2.1] at btc2
    rw [HN.out.2.2.1, hA1] at buc1
    rw [HN.out.2.2.2, hA2] at buc2
    rw [hA1]
    have hbs := bsearch_any t.ns t.A t.c _ s wr htr.names (by rw [HN.out.1]; exact hl1) HR.out
    rw [HN.out.1] at hbs
    have HBS := Lib.hid hbs
    have HS := Lib.hid hs
    have HY := Lib.hid hy
    have HY3 := Lib.hid hy3
    have HTR := Lib.hid htr
    have HUR := Lib.hid hur
    have HNO := Lib.hid (show ¬ FieldAt h (strip t) s (strip y) → ans = false from fun hn => by
      rw [HA.out]
      exact tb_false fun e => hn (e k s (strip y) (by rw [strip_names]; exact HS.out) (strip_at HY.out)))
    clear bt bu hbs hs hy hl hA1 hA2 hy3 htr hur
    go_wp2_with fail
    refine HBS.out.mono ?_
    rintro e w' ⟨rfl, ⟨j, hj, rfl⟩ | ⟨hno, j, rfl⟩⟩
    case inr =>
      have e : ans = false := HNO.out (fun ⟨j, x, h1, _⟩ => hno (by rw [strip_names] at h1; exact List.mem_of_getElem? h1))
      subst e
      clear hno
      go_wp2
      go_ret
      exact ⟨rfl, KBr.out⟩
    obtain ⟨x, hx⟩ : ∃ x, t.xs[j]? = some x := ⟨_, List.getElem?_eq_getElem (by have := (List.getElem?_eq_some_iff.1 hj).1; rw [HN.out.1] at this; rw [HN.out.2.1]; exact this)⟩
    obtain ⟨a3, hA3, hx3⟩ := HTR.out.at3 hx
    have hj' : (j : Int) < (n1 : Int) := by have := (List.getElem?_eq_some_iff.1 hj).1; rw [HN.out.1] at this; omega
    have hj0 : (0 : Int) ≤ j := by omega
    rw [hA3] at btc2
    have HIS := Lib.hid (field_is (h := h) (y := strip y) (by rw [strip_names]; exact HR.out) (by rw [strip_names]; exact hj) (strip_at hx))
    have HX := Lib.hid hx
    have HX3 := Lib.hid hx3
    have HJ := Lib.hid hj
    have HA3 := Lib.hid hA3
    clear hx hx3 hj hA3
    go_upto_region 7 with fail
    go_cut [11, 12] from 31 to 40 (fun s11 s12 wx => ∃ p q : Nat, s11 = .pointer (some ⟨p, 0, none⟩) ∧ s12 = .pointer (some ⟨q, 0, none⟩) ∧ Hid (TBox wx p x ∧ TBox wx q y ∧ Below wr.heap.size wr wx))
    case first =>
      have x0 := HX3.out.2.1
      have x1 := HX3.out.2.2.1
      have x2 := HX3.out.2.2.2
      have xl := HX3.out.1
      have y0 := HY3.out.2.1
      have y1 := HY3.out.2.2.1
      have y2 := HY3.out.2.2.2
      have yl := HY3.out.1
      go_region
      · go_wp2_with fail
        go_meet
        case rel => exact ⟨_, _, rfl, rfl, Lib.hid ⟨(two_boxes wr x y).1, (two_boxes wr x y).2.1, (two_boxes wr x y).2.2.drew⟩⟩
      · go_wp2_with fail
        go_meet
        case rel => exact ⟨_, _, rfl, rfl, Lib.hid ⟨(two_boxes wr y x).2.1, (two_boxes wr y x).1, (two_boxes wr y x).2.2.drew⟩⟩
    case rest =>
      obtain ⟨p, q, rfl, rfl, HPQ⟩ := hcut
      have kx := HPQ.out.1
      have ky := HPQ.out.2.1
      have kxc0 := kx.c0
      have kxc1 := kx.c1
      have kxc2 := kx.c2
      have kxlt := kx.lt
      have kyc0 := ky.c0
      have kyc1 := ky.c1
      have kyc2 := ky.c2
      have kylt := ky.lt
      have KX := Lib.hid kx
      have KY := Lib.hid ky
      have hbw := HPQ.out.2.2
      have mx : May (strip x) := HMT.out.part (strip_at HX.out)
      have hsame := tsame_any x y wc ((HTR.out.part HX.out).on hbw) ((HUR.out.part HY.out).on hbw) ((HSP.out.below KBr.out).below hbw)
      unfold LTy.val at hsame
      rw [show tb (strip x = strip y ∧ May (strip x)) = tb (strip x = strip y) by rw [tb_and, tb_true mx]; cases tb (strip x = strip y) <;> rfl] at hsame
      have HSM := Lib.hid hsame
      have HBW := Lib.hid (HW.out.trans (hbw.mono HW.out.size))
      have HXK := Lib.hid (show (strip x).kind = x.kind ∧ (strip y).kind = y.kind from ⟨strip_kind x, strip_kind y⟩)
      clear hsame hbw kx ky mx
      have HOPEN := Lib.hid (show h = true → (x.kind = 0 ∨ y.kind = 0) → FieldAt h (strip t) s (strip y) from fun e1 e2 => HIS.out.2 (.inr ⟨e1, by rw [HXK.out.1, HXK.out.2]; exact e2⟩))
      have HYES := Lib.hid (show FieldAt h (strip t) s (strip y) → ∀ (j : Nat) (s : ByteArray) (y : LTy), j < k + 1 → u.ns[j]? = some s → u.xs[j]? = some y → FieldAt h (strip t) s (strip y) from fun hf j' s' y' hj hs' hy' => by
        rcases Nat.lt_or_ge j' k with h1 | h1
        · exact HK.out j' s' y' h1 hs' hy'
        · obtain rfl : j' = k := by omega
          rw [HS.out] at hs'
          rw [HY.out] at hy'
          obtain rfl := Option.some.inj hs'
          obtain rfl := Option.some.inj hy'
          exact hf)
      by_cases hop : h = true ∧ (x.kind = 0 ∨ y.kind = 0)
      · have HK2 := Lib.hid (HYES.out (HOPEN.out hop.1 hop.2))
        obtain ⟨rfl, hop⟩ := hop
        rcases (show x.kind = 0 ∨ (x.kind ≠ 0 ∧ y.kind = 0) by omega) with e | ⟨e, e'⟩
        · have ex : (x.kind == 0) = true := beq_iff_eq.2 e
          clear hop e
          go_wp2_with fail
          go_roundw
          case rel => exact ⟨k + 1, by omega, by go_num, HK2, HBW⟩
          case measure => simp [intOf]; omega
        · have ex : (x.kind == 0) = false := beq_eq_false_iff_ne.2 e
          have ey : (y.kind == 0) = true := beq_iff_eq.2 e'
          clear hop e e'
          go_wp2_with fail
          go_roundw
          case rel => exact ⟨k + 1, by omega, by go_num, HK2, HBW⟩
          case measure => simp [intOf]; omega
      · have hcl : h = false ∨ (h = true ∧ (x.kind == 0) = false ∧ (y.kind == 0) = false) := by
          cases h with
          | false => exact .inl rfl
          | true => exact .inr ⟨rfl, beq_eq_false_iff_ne.2 (fun e => hop ⟨rfl, .inl e⟩), beq_eq_false_iff_ne.2 (fun e => hop ⟨rfl, .inr e⟩)⟩
        by_cases hxy : strip x = strip y
        · have HK2 := Lib.hid (HYES.out (HIS.out.2 (.inl hxy)))
          rw [tb_true hxy] at HSM
          clear hop hxy
          rcases hcl with rfl | ⟨rfl, ex, ey⟩
          all_goals
            go_wp2_with fail
            refine HSM.out.mono ?_
            rintro e w5 ⟨rfl, hb5⟩
            have HB5 := Lib.hid (HBW.out.trans (hb5.mono HBW.out.size))
            clear hb5
            go_wp2_with fail
            go_roundw
            case rel => exact ⟨k + 1, by omega, by go_num, HK2, HB5⟩
            case measure => simp [intOf]; omega
        · have e : ans = false := HNO.out (fun e => by
            rcases HIS.out.1 e with e | ⟨e1, e2⟩
            · exact hxy e
            · exact hop ⟨e1, by rw [HXK.out.1, HXK.out.2] at e2; exact e2⟩)
          rw [tb_false hxy] at HSM
          subst e
          clear hop hxy
          rcases hcl with rfl | ⟨rfl, ex, ey⟩
          all_goals
            go_wp2_with fail
            refine HSM.out.mono ?_
            rintro e w5 ⟨rfl, hb5⟩
            have HB5 := Lib.hid (KB.out.trans ((HBW.out.trans (hb5.mono HBW.out.size)).mono KB.out.size))
            clear hb5
            go_wp2
            go_ret
            exact ⟨rfl, HB5.out⟩
end Go.Proofs.YtllpicibncdppaaDoor
