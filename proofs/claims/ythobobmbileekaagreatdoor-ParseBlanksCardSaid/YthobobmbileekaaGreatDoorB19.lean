/-
 ParseBlanks: part 19 of what the claim rests on.
-/
import Derived.Test.YthobobmbileekaaGreatDoorB13
import Derived.Test.YthobobmbileekaaGreatDoorB16
set_option linter.unusedVariables false
set_option linter.unusedSimpArgs false
set_option maxHeartbeats 64000000
namespace Go.Proofs.YthobobmbileekaaGreatDoor
open Go.ChangeShapes Go.WideShapes Go.ChangeAt Go.RowKit

theorem gen_K {P : World → Prop} {w : World} (h : ∀ W, w = W → P W) : P w := h w rfl
theorem five_set {W : World} {b : Nat} {cs : Array Value} {T : TypeId} (h : W.heap[b]? = some (.cells cs T (0, 0))) (hz : cs.size = 5) (v0 v1 v2 v3 v4 : Value) :
  (((((W.setCell ⟨b, 0, none⟩ v0).setCell ⟨b, 1, none⟩ v1).setCell ⟨b, 2, none⟩ v2).setCell ⟨b, 3, none⟩ v3).setCell ⟨b, 4, none⟩ v4).heap[b]? = some (.cells #[v0, v1, v2, v3, v4] T (0, 0)) ∧
  (∀ b', b' ≠ b → (((((W.setCell ⟨b, 0, none⟩ v0).setCell ⟨b, 1, none⟩ v1).setCell ⟨b, 2, none⟩ v2).setCell ⟨b, 3, none⟩ v3).setCell ⟨b, 4, none⟩ v4).heap[b']? = W.heap[b']?) ∧
  (∀ B w0, Below B w0 W → B ≤ b → Below B w0 (((((W.setCell ⟨b, 0, none⟩ v0).setCell ⟨b, 1, none⟩ v1).setCell ⟨b, 2, none⟩ v2).setCell ⟨b, 3, none⟩ v3).setCell ⟨b, 4, none⟩ v4)) := by
 generalize hW1 : W.setCell ⟨b, 0, none⟩ v0 = W1
 have h1 : W1.heap[b]? = some (.cells (cs.setIfInBounds 0 v0) T (0, 0)) := by rw [← hW1]; exact blk_set h v0
 have o1 : ∀ b', b' ≠ b → W1.heap[b']? = W.heap[b']? := fun b' hb' => by rw [← hW1]; exact Below.heap_setCell _ _ _ _ hb'
 have d1 : ∀ B w0, Below B w0 W → B ≤ b → Below B w0 W1 := fun B w0 hb hB => by rw [← hW1]; exact hb.setCell hB v0
 clear hW1 h
 generalize hW2 : W1.setCell ⟨b, 1, none⟩ v1 = W2
 have h2 : W2.heap[b]? = some (.cells ((cs.setIfInBounds 0 v0).setIfInBounds 1 v1) T (0, 0)) := by rw [← hW2]; exact blk_set h1 v1
 have o2 : ∀ b', b' ≠ b → W2.heap[b']? = W.heap[b']? := fun b' hb' => by rw [← hW2]; exact (Below.heap_setCell _ _ _ _ hb').trans (o1 b' hb')
 have d2 : ∀ B w0, Below B w0 W → B ≤ b → Below B w0 W2 := fun B w0 hb hB => by rw [← hW2]; exact (d1 B w0 hb hB).setCell hB v1
 clear hW2 h1 o1 d1
 generalize hW3 : W2.setCell ⟨b, 2, none⟩ v2 = W3
 have h3 : W3.heap[b]? = some (.cells (((cs.setIfInBounds 0 v0).setIfInBounds 1 v1).setIfInBounds 2 v2) T (0, 0)) := by rw [← hW3]; exact blk_set h2 v2
 have o3 : ∀ b', b' ≠ b → W3.heap[b']? = W.heap[b']? := fun b' hb' => by rw [← hW3]; exact (Below.heap_setCell _ _ _ _ hb').trans (o2 b' hb')
 have d3 : ∀ B w0, Below B w0 W → B ≤ b → Below B w0 W3 := fun B w0 hb hB => by rw [← hW3]; exact (d2 B w0 hb hB).setCell hB v2
 clear hW3 h2 o2 d2
 generalize hW4 : W3.setCell ⟨b, 3, none⟩ v3 = W4
 have h4 : W4.heap[b]? = some (.cells ((((cs.setIfInBounds 0 v0).setIfInBounds 1 v1).setIfInBounds 2 v2).setIfInBounds 3 v3) T (0, 0)) := by rw [← hW4]; exact blk_set h3 v3
 have o4 : ∀ b', b' ≠ b → W4.heap[b']? = W.heap[b']? := fun b' hb' => by rw [← hW4]; exact (Below.heap_setCell _ _ _ _ hb').trans (o3 b' hb')
 have d4 : ∀ B w0, Below B w0 W → B ≤ b → Below B w0 W4 := fun B w0 hb hB => by rw [← hW4]; exact (d3 B w0 hb hB).setCell hB v3
 clear hW4 h3 o3 d3
 refine ⟨?_, fun b' hb' => (Below.heap_setCell _ _ _ _ hb').trans (o4 b' hb'), fun B w0 hb hB => (d4 B w0 hb hB).setCell hB v4⟩
 rw [blk_set h4 v4]
 obtain ⟨a0, a1, a2, a3, a4, rfl⟩ : ∃ a0 a1 a2 a3 a4, cs = #[a0, a1, a2, a3, a4] := by
  obtain ⟨l⟩ := cs
  match l, hz with
  | [a0, a1, a2, a3, a4], _ => exact ⟨a0, a1, a2, a3, a4, rfl⟩
 rfl
theorem tok_cells {K : PaK} {w : World} {p i o q : Nat} {sn : Fin 8 → Bool} {ns : List Nd} {fp : List Nat} {ad : Addr} (h : PaAt K w p i o sn ns fp) (hA : K.A = some ad) (hq : q < K.T.length) :
  w.cell? (ad.add (q * 5)) = some (.int .i64 (tk K.T q).kind) ∧ w.cell? ⟨(ad.add (q * 5)).block, (ad.add (q * 5)).off + 1, none⟩ = some (.string (tk K.T q).text) ∧ w.cell? ⟨(ad.add (q * 5)).block, (ad.add (q * 5)).off + 2, none⟩ = some (.int .i64 ((tk K.T q).a : Int)) ∧ w.cell? ⟨(ad.add (q * 5)).block, (ad.add (q * 5)).off + 3, none⟩ = some (.int .i64 ((tk K.T q).z : Int)) ∧ w.cell? ⟨(ad.add (q * 5)).block, (ad.add (q * 5)).off + 4, none⟩ = some (.int .i64 (tk K.T q).n) ∧ (ad.add (q * 5)).block < w.heap.size := by
 have hx := tk_some hq
 obtain ⟨ad', hA', hab, hcell⟩ := h.env.toks.at (flatMap_ne (K := 5) tkEnc_len (by omega) hx)
 rw [hA] at hA'
 obtain rfl := Option.some.inj hA'
 exact ⟨elem_zero (K := 5) tkEnc_len hcell hx (by omega) rfl, elem_at (K := 5) tkEnc_len hcell hx 1 (by omega) (by omega) rfl, elem_at (K := 5) tkEnc_len hcell hx 2 (by omega) (by omega) rfl, elem_at (K := 5) tkEnc_len hcell hx 3 (by omega) (by omega) rfl, elem_at (K := 5) tkEnc_len hcell hx 4 (by omega) (by omega) rfl, by rw [block_add']; have := h.lt; omega⟩
theorem tok_ad {K : PaK} {w : World} {p i o : Nat} {sn : Fin 8 → Bool} {ns : List Nd} {fp : List Nat} (h : PaAt K w p i o sn ns fp) (hq : i < K.T.length) : ∃ ad, K.A = some ad := by
 obtain ⟨ad', hA', hab, hcell⟩ := h.env.toks.at (flatMap_ne (K := 5) tkEnc_len (by omega) (tk_some hq))
 exact ⟨ad', hA'⟩
theorem pa_two {K : PaK} {w : World} {p i o : Nat} {sn : Fin 8 → Bool} {ns : List Nd} {fp : List Nat} (h : PaAt K w p i o sn ns fp) : w.cell? ⟨p, 0, none⟩ = some (.slice K.A K.T.length K.c) ∧ w.cell? ⟨p, 1, none⟩ = some (.int .i64 (i : Int)) ∧ p < w.heap.size := by
 obtain ⟨nv, l, hm⟩ := h.mem
 obtain ⟨c0, c1, _⟩ := pa_cell hm.blk
 exact ⟨c0, c1, h.lt⟩
set_option maxRecDepth 100000 in
theorem walk_table {f : Nat} (AP : ∀ g, g ≤ f → AllPart g) (a : Nat) : Callee (f + 1) (.table a) 134 (fun p => #[.pointer (some ⟨p, 0, none⟩), natV a]) := by
 intro K w p i o sn ns fp h hroom ho r hr
 change stepTable K.T (parF K.T f) a o i = some r at hr
 unfold stepTable at hr
 have HB := Lib.hid (Beg.of h)
 have HTK := Lib.hid h.env.tok
 have HRM := Lib.hid hroom.2
 have HI := Lib.hid hroom.1
 have HO := Lib.hid ho
 have HS0 := Lib.hid (St.start h)
 have HLN := Lib.hid h.env.len
 have HAP := Lib.hid AP
 clear h hroom ho AP
 have HR := Lib.hid hr
 clear hr
 go_enter Tryz.func134, Tryz.ntmps134
 have hr := HR.out
 clear HR
 obtain ⟨X, hX⟩ : ∃ X, (parF K.T f).many (.entries []) o i = X := ⟨_, rfl⟩
 rw [hX] at hr
 cases X with
 | none => exact absurd hr (by simp [Res.then])
 | some r1 =>
 have HX := Lib.hid hX
 have HRT := Lib.hid hr
 clear hX hr
 unfold natV
 go_wp2_with fail
 go_loopw [5, 6] (fun lv mv wr => ∃ (acc : List PT) (more : Bool) (i1 : Nat) (fp1 : List Nat) (f1 : Nat), mv = .bool more ∧ Hid (St K w p i1 o sn ns fp acc wr fp1) ∧ Hid (Ints wr p fp1 lv (roots ns.length acc)) ∧ Hid (∀ g', lv.ownBlock = some g' → w.heap.size ≤ g') ∧ Hid (more = true → f1 ≤ f ∧ (parF K.T f1).many (.entries acc) o i1 = some r1) ∧ Hid (more = false → r1 = .ok acc i1) ∧ Hid (i1 < K.T.length ∧ ns.length + ptsS acc + 4 * (K.T.length - i1) ≤ 900000)) (fun lv _ _ => 900001 - sliceLen lv)
 case atStart => exact ⟨[], true, i, fp, f, rfl, HS0, Lib.hid (Ints.nil _ _ _), Lib.hid (fun g' hg' => by simp [Value.ownBlock] at hg'), Lib.hid (fun _ => ⟨Nat.le_refl _, HX.out⟩), Lib.hid (fun e9 => Bool.noConfusion e9), Lib.hid ⟨HI.out, by have := HRM.out; simp only [ptsS]; omega⟩⟩
 case round =>
  obtain ⟨acc, more, i1, fp1, f1, rfl, HS, HV, HG, HR1, HRE, HRL⟩ := hrel
  obtain ⟨A1, c1, hlv, hlc1, hlc2, hfm⟩ := own_form HV.out.own
  subst hlv
  obtain ⟨rl, hrl⟩ : ∃ k, k = (roots ns.length acc).length := ⟨_, rfl⟩
  have HKR := Lib.hid (show rl = acc.length by rw [hrl, roots_len])
  have HVR := Lib.hid (show Ints _ p _ (.slice A1 rl c1) (roots ns.length acc) by rw [hrl]; exact HV.out)
  rw [← hrl]
  clear hlc1 hlc2 hfm
  have HGR := Lib.hid (show ∀ g', (Value.slice A1 rl c1).ownBlock = some g' → w.heap.size ≤ g' by rw [hrl]; exact HG.out)
  clear hrl
  cases more with
  | false =>
   have h1 := HRE.out rfl
   subst h1
   have hr := HRT.out
   dsimp only [Res.then] at hr
   clear HRT HR1 HRE HX
   unfold need at hr
   cases hb : isAny (tk K.T i1) [⟨#[125]⟩] with
   | false =>
    rw [if_neg (by rw [hb]; decide)] at hr
    have HRR2 := Lib.hid (show Res.bad _ _ = r from (by exact Option.some.inj hr))
    have HC4 := Lib.hid ((need_no HS.out.pa HRL.out.1 ⟨#[125]⟩ hb).mono fun e w' hh => (show OutB w p _ 70 e w' from ⟨hh.1, HS.out.bad HB.out hh.2⟩))
    clear hr
    go_wp2_with fail
    refine HC4.out.mono ?_
    rintro e wb ⟨rfl, hb⟩
    have HB3 := Lib.hid hb
    clear hb
    unfold wrongP
    go_wp2
    exact ⟨rfl, by rw [← HRR2.out]; exact ⟨rfl, HB3.out⟩⟩
   | true =>
    rw [if_pos hb] at hr
    have HLT1 := Lib.hid (any_lt HTK.out HRL.out.1 hb)
    have HC7 := Lib.hid (need_yes HS.out.pa HRL.out.1 ⟨#[125]⟩ hb)
    clear hb
    have HR := Lib.hid hr
    clear hr
    go_wp2_with fail
    refine HC7.out.mono ?_
    rintro e w5 ⟨rfl, h1, h2⟩
    have HS6 := Lib.hid (HS.out.step h1 h2)
    have HV8 := Lib.hid (HVR.out.to h2)
    clear h1 h2
    have hr := HR.out
    clear HR
    have HRR10 := Lib.hid (show Res.ok _ _ = r from Option.some.inj hr)
    clear hr
    have HL9 := Lib.hid (lay_row HS6.out (by have h7 := (show ns.length + ptsS acc + 4 * (K.T.length - (i1 + 1)) ≤ 900000 from by have := HRM.out; have := HRL.out; have := HLT1.out; (try simp only [ptsS, ptS, noneT, ptsS_append, Nat.add_zero, Nat.zero_add]); omega); omega) 24 ⟨#[]⟩ a HV8.out)
    go_wp2_with fail
    refine HL9.out.mono ?_
    rintro e wz ⟨rfl, fpz, h1, h2⟩
    have HZ11 := Lib.hid (show OutP K w p o sn ns fp (.ok (.mk 24 ⟨#[]⟩ a acc) (i1 + 1)) (.returned _) wz from ⟨rfl, fpz, h1, h2⟩)
    clear h1 h2
    go_wp2
    go_ret
    exact (by rw [← HRR10.out]; first | exact HZ11.out | (have h9 := HZ11.out; rw [List.append_assoc] at h9; exact h9))
  | true =>
   have HR0 := Lib.hid (HR1.out rfl)
   clear HR1 HRE
   obtain ⟨hle, hr⟩ := HR0.out
   clear HR0
   cases f1 with
   | zero => exact absurd hr (by simp [parF])
   | succ f =>
   have HAP := Lib.hid (fun g (hg : g ≤ f) => HAP.out g (by omega))
   have HLE := Lib.hid hle
   clear hle
   change stepEntries K.T (parF K.T f) acc o i1 = some r1 at hr
   unfold stepEntries at hr
   dsimp only at hr
   have HC12 := Lib.hid (fun W (hW : W = wr.alloc (.cells #[.string ⟨#[125]⟩] 9)) => (show Calls Tryz.prog 19 #[.pointer (some ⟨p, 0, none⟩), .slice (some ⟨wr.heap.size, 0, none⟩) 1 1] W (RetB (.bool (isAny (tk K.T i1) [⟨#[125]⟩])) W) from
    is_any (K := K) (i := i1) (o := o) (sn := sn) (ns := ns ++ flats ns.length acc) (fp := fp1) (c := 1) (L := [⟨#[125]⟩]) (hW ▸ HS.out.pa.below ((Below.refl _ _).alloc (Nat.le_refl _) _)) HRL.out.1 (by rw [hW]; exact .inr ⟨⟨wr.heap.size, 0, none⟩, rfl, by simp, fun j u hu => news_new wr #[.string ⟨#[125]⟩] _ _ rfl j u hu⟩) (by simp)))
   cases hb : isAny (tk K.T i1) [⟨#[125]⟩] with
   | true =>
    rw [if_pos hb] at hr
    have HLT15 := Lib.hid (any_lt HTK.out HRL.out.1 hb)
    have HBB := Lib.hid hb
    clear hb
    have HR := Lib.hid hr
    clear hr
    go_wp2_with fail
    refine (HC12.out _ rfl).mono ?_
    rw [HBB.out]
    rintro e w16 ⟨rfl, h2⟩
    have HK18 := Lib.hid (show Below wr.heap.size wr w16 from ((Below.refl _ _).alloc (Nat.le_refl _) _).trans (h2.mono (by simp)))
    have HS17 := Lib.hid (HS.out.below HK18.out)
    have HV19 := Lib.hid (HVR.out.to (PaTo.of_below HS.out.pa HK18.out))
    clear h2
    have hr := HR.out
    clear HR
    have h1 := Option.some.inj hr
    subst h1
    clear hr HX
    have hr := HRT.out
    dsimp only [Res.then] at hr
    clear HRT
    unfold need at hr
    cases hb : isAny (tk K.T i1) [⟨#[125]⟩] with
    | false =>
     rw [if_neg (by rw [hb]; decide)] at hr
     have HRR21 := Lib.hid (show Res.bad _ _ = r from (by exact Option.some.inj hr))
     have HC23 := Lib.hid ((need_no HS17.out.pa HRL.out.1 ⟨#[125]⟩ hb).mono fun e w' hh => (show OutB w p _ 70 e w' from ⟨hh.1, HS17.out.bad HB.out hh.2⟩))
     clear hr
     go_wp2_with fail
     refine HC23.out.mono ?_
     rintro e wb ⟨rfl, hb⟩
     have HB22 := Lib.hid hb
     clear hb
     unfold wrongP
     go_wp2
     exact ⟨rfl, by rw [← HRR21.out]; exact ⟨rfl, HB22.out⟩⟩
    | true =>
     rw [if_pos hb] at hr
     have HLT20 := Lib.hid (any_lt HTK.out HRL.out.1 hb)
     have HC26 := Lib.hid (need_yes HS17.out.pa HRL.out.1 ⟨#[125]⟩ hb)
     clear hb
     have HR := Lib.hid hr
     clear hr
     go_wp2_with fail
     refine HC26.out.mono ?_
     rintro e w24 ⟨rfl, h1, h2⟩
     have HS25 := Lib.hid (HS17.out.step h1 h2)
     have HV27 := Lib.hid (HV19.out.to h2)
     clear h1 h2
     have hr := HR.out
     clear HR
     have HRR29 := Lib.hid (show Res.ok _ _ = r from Option.some.inj hr)
     clear hr
     have HL28 := Lib.hid (lay_row HS25.out (by have h7 := (show ns.length + ptsS acc + 4 * (K.T.length - (i1 + 1)) ≤ 900000 from by have := HRM.out; have := HRL.out; have := HLT15.out; have := HLT20.out; (try simp only [ptsS, ptS, noneT, ptsS_append, Nat.add_zero, Nat.zero_add]); omega); omega) 24 ⟨#[]⟩ a HV27.out)
     go_wp2_with fail
     refine HL28.out.mono ?_
     rintro e wz ⟨rfl, fpz, h1, h2⟩
     have HZ30 := Lib.hid (show OutP K w p o sn ns fp (.ok (.mk 24 ⟨#[]⟩ a acc) (i1 + 1)) (.returned _) wz from ⟨rfl, fpz, h1, h2⟩)
     clear h1 h2
     go_wp2
     go_ret
     exact (by rw [← HRR29.out]; first | exact HZ30.out | (have h9 := HZ30.out; rw [List.append_assoc] at h9; exact h9))
   | false =>
    rw [if_neg (by rw [hb]; decide)] at hr
    have HBB := Lib.hid hb
    clear hb
    have HR := Lib.hid hr
    clear hr
    go_wp2_with fail
    refine (HC12.out _ rfl).mono ?_
    rw [HBB.out]
    rintro e w31 ⟨rfl, h2⟩
    have HK33 := Lib.hid (show Below wr.heap.size wr w31 from ((Below.refl _ _).alloc (Nat.le_refl _) _).trans (h2.mono (by simp)))
    have HS32 := Lib.hid (HS.out.below HK33.out)
    have HV34 := Lib.hid (HVR.out.to (PaTo.of_below HS.out.pa HK33.out))
    clear h2
    have hr := HR.out
    clear HR
    obtain ⟨ad, hA⟩ := tok_ad HS32.out.pa HRL.out.1
    have HA := Lib.hid hA
    obtain ⟨i2, hi2⟩ : ∃ i2, i2 = i1 + 1 := ⟨_, rfl⟩
    obtain ⟨lm, hlm⟩ : ∃ lm, lm = K.T.length - 1 := ⟨_, rfl⟩
    obtain ⟨q, hq⟩ : ∃ q, q = min i2 lm := ⟨_, rfl⟩
    have HQ := Lib.hid (show q < K.T.length ∧ (i1 + 1 < K.T.length → q = i1 + 1) by have := HRL.out.1; omega)
    go_upto_region 5 with fail
    go_cut [7, 8] from 11 to 87 (fun s7 s8 wx => ∃ p7 p8 : Nat, s7 = .pointer (some ⟨p7, 0, none⟩) ∧ s8 = .pointer (some ⟨p8, 0, none⟩) ∧ Hid (wx.heap[p7]? = some (.cells #[.int .i64 (tk K.T i1).kind, .string (tk K.T i1).text, .int .i64 ((tk K.T i1).a : Int), .int .i64 ((tk K.T i1).z : Int), .int .i64 (tk K.T i1).n] 65 (0, 0)) ∧ wx.heap[p8]? = some (.cells #[.int .i64 (tk K.T q).kind, .string (tk K.T q).text, .int .i64 ((tk K.T q).a : Int), .int .i64 ((tk K.T q).z : Int), .int .i64 (tk K.T q).n] 65 (0, 0)) ∧ Below w31.heap.size w31 wx ∧ w31.heap.size ≤ p7 ∧ w31.heap.size ≤ p8))
    case first =>
     have hia : (i1 : Int) + 1 = (i2 : Int) := by omega
     have hib : IntKind.i64.wrap (i2 : Int) = (i2 : Int) := IntWalk.i64_in _ (by have := HLN.out; have := HRL.out.1; omega)
     have hla : (K.T.length : Int) - 1 = (lm : Int) := by have := HRL.out.1; omega
     have hlb : IntKind.i64.wrap (lm : Int) = (lm : Int) := IntWalk.i64_in _ (by have := HLN.out; omega)
     have hmn : min (i2 : Int) (lm : Int) = (q : Int) := by omega
     have hq0 : (0 : Int) ≤ (q : Int) := by omega
     have hq1 : (q : Int) < (K.T.length : Int) := by have := HQ.out.1; omega
     clear hi2 hlm hq
     have HSD := Lib.hid (show PaAt K w31.drew p i1 o sn (ns ++ flats ns.length acc) fp1 from (HS32.out.below (Below.refl _ _).drew).pa)
     have HB0 := Lib.hid (show Below w31.heap.size w31 w31.drew from (Below.refl _ _).drew)
     refine wp_region_held_drew (S := fun w' => PaAt K w' p i1 o sn (ns ++ flats ns.length acc) fp1) (by kernel_rfl) (HSD.out) (fun hHeld => ?_)
     refine ztk 0 24 (.pointer (some ⟨p, 0, none⟩)) hHeld ?_; simp only [Act.put, zq1, zq2, zq3]
     refine ztk 2 26 (.pointer (some ⟨p, 0, none⟩)) hHeld ?_; simp only [Act.put, zq1, zq2, zq3]
     refine ztk 3 27 (.pointer (some ⟨p, 0, none⟩)) hHeld ?_; simp only [Act.put, zq1, zq2, zq3]
     refine ztk 4 28 (.pointer (some ⟨p, 0, none⟩)) hHeld ?_; simp only [Act.put, zq1, zq2, zq3]
     refine ztk 5 29 (.slice (some ad) K.T.length K.c) hHeld ?_ (hy := Or.inl ⟨by rfl, fun w' hS => (by have q0 := (pa_two hS).1; have ql := (pa_two hS).2.2; rw [HA.out] at q0; go_simp)⟩); simp only [Act.put, zq1, zq2, zq3]
     refine ztk 6 30 (.pointer (some ⟨p, 0, none⟩)) hHeld ?_; simp only [Act.put, zq1, zq2, zq3]
     refine ztk 7 31 (.pointer (some ⟨p, 0, none⟩)) hHeld ?_; simp only [Act.put, zq1, zq2, zq3]
     refine ztk 8 32 (.pointer (some ⟨p, 1, none⟩)) hHeld ?_; simp only [Act.put, zq1, zq2, zq3]
     refine ztk 9 33 (.int .i64 (i1 : Int)) hHeld ?_ (hy := Or.inl ⟨by rfl, fun w' hS => (by have q0 := (pa_two hS).2.1; have ql := (pa_two hS).2.2; go_simp)⟩); simp only [Act.put, zq1, zq2, zq3]
     refine ztk 10 34 (.int .i64 (i2 : Int)) hHeld ?_; simp only [Act.put, zq1, zq2, zq3]
     refine ztk 11 35 (.pointer (some ⟨p, 0, none⟩)) hHeld ?_; simp only [Act.put, zq1, zq2, zq3]
     refine ztk 12 36 (.pointer (some ⟨p, 0, none⟩)) hHeld ?_; simp only [Act.put, zq1, zq2, zq3]
     refine ztk 13 37 (.pointer (some ⟨p, 0, none⟩)) hHeld ?_; simp only [Act.put, zq1, zq2, zq3]
     refine ztk 14 38 (.slice (some ad) K.T.length K.c) hHeld ?_ (hy := Or.inl ⟨by rfl, fun w' hS => (by have q0 := (pa_two hS).1; have ql := (pa_two hS).2.2; rw [HA.out] at q0; go_simp)⟩); simp only [Act.put, zq1, zq2, zq3]
     refine ztk 15 39 (.int .i64 (K.T.length : Int)) hHeld ?_; simp only [Act.put, zq1, zq2, zq3]
     refine ztk 16 40 (.int .i64 (lm : Int)) hHeld ?_; simp only [Act.put, zq1, zq2, zq3]
     refine ztk 17 41 (.int .i64 (q : Int)) hHeld ?_; simp only [Act.put, zq1, zq2, zq3]
     refine ztk 18 42 (.pointer (some (ad.add (q * 5)))) hHeld ?_; simp only [Act.put, zq1, zq2, zq3]
     refine ztk 19 43 (.agg #[.int .i64 (tk K.T q).kind, .string (tk K.T q).text, .int .i64 ((tk K.T q).a : Int), .int .i64 ((tk K.T q).z : Int), .int .i64 (tk K.T q).n]) hHeld ?_ (hy := Or.inl ⟨by rfl, fun w' hS => (by obtain ⟨q0, q1, q2, q3, q4, ql⟩ := tok_cells hS HA.out HQ.out.1; go_simp)⟩); simp only [Act.put, zq1, zq2, zq3]
     refine wpAnyH_ready (rs := [1, 20, 21]) (by kernel_rfl) (by simp) ?_
     refine AllReadyH.cons (o := _) rfl (fun KQ hK => ?_) (AllReadyH.cons (o := _) rfl (fun KQ hK => ?_) (AllReadyH.cons (o := _) rfl (fun KQ hK => ?_) (AllReadyH.nil)))
     ·go_simp
      refine (show Calls Tryz.prog 41 #[.pointer (some ⟨p, 0, none⟩)] _ (RetB (.agg #[.int .i64 (tk K.T i1).kind, .string (tk K.T i1).text, .int .i64 ((tk K.T i1).a : Int), .int .i64 ((tk K.T i1).z : Int), .int .i64 (tk K.T i1).n]) _) from now_any HSD.out HRL.out.1).mono ?_
      rintro e w35 ⟨rfl, h2⟩
      have HS36 := Lib.hid (HSD.out.below h2)
      have HB37 := Lib.hid (HB0.out.trans (h2.mono HB0.out.size))
      have HB38 := Lib.hid h2
      clear h2
      refine hK.out _ _ (HS36.out) (fun hHeld => ?_)
      clear hK KQ
      try simp only [Act.put, zq1, zq2, zq3]
      refine wpAnyH_ready (rs := [20, 21]) (by kernel_rfl) (by simp) ?_
      refine AllReadyH.cons (o := _) rfl (fun KQ hK => ?_) (AllReadyH.cons (o := _) rfl (fun KQ hK => ?_) (AllReadyH.nil))
      ·go_simp
       refine gen_K (P := fun W => KQ _ W) fun W39 hW => ?_
       have HB40 := Lib.hid (show Below w35.heap.size w35 W39 by rw [← hW]; exact (Below.refl _ _).alloc (Nat.le_refl _) _)
       have HX41 := Lib.hid (show W39.heap[w35.heap.size]? = some (.cells #[.int .i64 0, .string ByteArray.empty, .int .i64 0, .int .i64 0, .int .i64 0] 65 (0, 0)) by rw [← hW]; exact heap_new_at w35 _ _ rfl)
       have HS42 := Lib.hid (HS36.out.below HB40.out)
       have HB43 := Lib.hid (HB37.out.trans (HB40.out.mono HB37.out.size))
       clear hW
       refine hK.out _ _ (HS42.out) (fun hHeld => ?_)
       clear hK KQ
       try simp only [Act.put, zq1, zq2, zq3]
       refine zrd 21 fun KQ hK => ?_
       go_simp
       refine gen_K (P := fun W => KQ _ W) fun W44 hW => ?_
       have HB45 := Lib.hid (show Below W39.heap.size W39 W44 by rw [← hW]; exact (Below.refl _ _).alloc (Nat.le_refl _) _)
       have HX46 := Lib.hid (show W44.heap[W39.heap.size]? = some (.cells #[.int .i64 0, .string ByteArray.empty, .int .i64 0, .int .i64 0, .int .i64 0] 65 (0, 0)) by rw [← hW]; exact heap_new_at W39 _ _ rfl)
       have HS47 := Lib.hid (HS42.out.below HB45.out)
       have HB48 := Lib.hid (HB43.out.trans (HB45.out.mono HB43.out.size))
       have HX49 := Lib.hid (below_blk HB45.out HX41.out)
       clear hW
       have HNE50 := Lib.hid (show w35.heap.size ≠ W39.heap.size from by have h9 := blk_lt HX41.out; omega)
       refine hK.out _ _ (HS47.out) (fun hHeld => ?_)
       clear hK KQ
       try simp only [Act.put, zq1, zq2, zq3]
       have z0 := cell_of_blk (i := 0) HX49.out rfl
       have y0 := free_of_blk (i := 0) HX49.out
       have z1 := cell_of_blk (i := 1) HX49.out rfl
       have y1 := free_of_blk (i := 1) HX49.out
       have z2 := cell_of_blk (i := 2) HX49.out rfl
       have y2 := free_of_blk (i := 2) HX49.out
       have z3 := cell_of_blk (i := 3) HX49.out rfl
       have y3 := free_of_blk (i := 3) HX49.out
       have z4 := cell_of_blk (i := 4) HX49.out rfl
       have y4 := free_of_blk (i := 4) HX49.out
       have zl := blk_lt HX49.out
       refine zrd 22 fun KQ hK => ?_
       go_simp
       refine gen_K (P := fun W => KQ _ W) fun W51 hW => ?_
       clear z0 z1 z2 z3 z4 y0 y1 y2 y3 y4 zl
       have hfs := five_set HX49.out rfl (.int .i64 (tk K.T i1).kind) (.string (tk K.T i1).text) (.int .i64 ((tk K.T i1).a : Int)) (.int .i64 ((tk K.T i1).z : Int)) (.int .i64 (tk K.T i1).n)
       rw [hW] at hfs
       have HX52 := Lib.hid hfs.1
       have HB54 := Lib.hid (hfs.2.2 _ _ HB48.out (show w31.heap.size ≤ w35.heap.size from HB37.out.size))
       have hbl9 := hfs.2.2 _ _ (Below.refl w31.heap.size W44) (show w31.heap.size ≤ w35.heap.size from HB37.out.size)
       have HS53 := Lib.hid (show PaAt K W51 p i1 o sn (ns ++ flats ns.length acc) fp1 from (HS32.out.below HB54.out).pa)
       have HX55 := Lib.hid ((hfs.2.1 W39.heap.size (fun e9 => HNE50.out e9.symm)).trans HX46.out)
       clear hfs hW hbl9
       refine hK.out _ _ (HS53.out) (fun hHeld => ?_)
       clear hK KQ
       try simp only [Act.put, zq1, zq2, zq3]
       have z0 := cell_of_blk (i := 0) HX55.out rfl
       have y0 := free_of_blk (i := 0) HX55.out
       have z1 := cell_of_blk (i := 1) HX55.out rfl
       have y1 := free_of_blk (i := 1) HX55.out
       have z2 := cell_of_blk (i := 2) HX55.out rfl
       have y2 := free_of_blk (i := 2) HX55.out
       have z3 := cell_of_blk (i := 3) HX55.out rfl
       have y3 := free_of_blk (i := 3) HX55.out
       have z4 := cell_of_blk (i := 4) HX55.out rfl
       have y4 := free_of_blk (i := 4) HX55.out
       have zl := blk_lt HX55.out
       refine zrd 23 fun KQ hK => ?_
       go_simp
       refine gen_K (P := fun W => KQ _ W) fun W56 hW => ?_
       clear z0 z1 z2 z3 z4 y0 y1 y2 y3 y4 zl
       have hfs := five_set HX55.out rfl (.int .i64 (tk K.T q).kind) (.string (tk K.T q).text) (.int .i64 ((tk K.T q).a : Int)) (.int .i64 ((tk K.T q).z : Int)) (.int .i64 (tk K.T q).n)
       rw [hW] at hfs
       have HX57 := Lib.hid hfs.1
       have HB59 := Lib.hid (hfs.2.2 _ _ HB54.out (show w31.heap.size ≤ W39.heap.size from HB43.out.size))
       have hbl9 := hfs.2.2 _ _ (Below.refl w31.heap.size W51) (show w31.heap.size ≤ W39.heap.size from HB43.out.size)
       have HS58 := Lib.hid (show PaAt K W56 p i1 o sn (ns ++ flats ns.length acc) fp1 from (HS32.out.below HB59.out).pa)
       have HX60 := Lib.hid ((hfs.2.1 w35.heap.size (HNE50.out)).trans HX52.out)
       clear hfs hW hbl9
       refine hK.out _ _ (HS58.out) (fun hHeld => ?_)
       clear hK KQ
       try simp only [Act.put, zq1, zq2, zq3]
       refine wpAnyH_done (by kernel_rfl) ?_ _
       go_wp2_with fail
       go_meet
       case rel => exact ⟨_, _, rfl, rfl, Lib.hid ⟨HX60.out, HX57.out, HB59.out, HB37.out.size, HB43.out.size⟩⟩
      ·go_simp
       refine gen_K (P := fun W => KQ _ W) fun W61 hW => ?_
       have HB62 := Lib.hid (show Below w35.heap.size w35 W61 by rw [← hW]; exact (Below.refl _ _).alloc (Nat.le_refl _) _)
       have HX63 := Lib.hid (show W61.heap[w35.heap.size]? = some (.cells #[.int .i64 0, .string ByteArray.empty, .int .i64 0, .int .i64 0, .int .i64 0] 65 (0, 0)) by rw [← hW]; exact heap_new_at w35 _ _ rfl)
       have HS64 := Lib.hid (HS36.out.below HB62.out)
       have HB65 := Lib.hid (HB37.out.trans (HB62.out.mono HB37.out.size))
       clear hW
       refine hK.out _ _ (HS64.out) (fun hHeld => ?_)
       clear hK KQ
       try simp only [Act.put, zq1, zq2, zq3]
       refine zrd 20 fun KQ hK => ?_
       go_simp
       refine gen_K (P := fun W => KQ _ W) fun W66 hW => ?_
       have HB67 := Lib.hid (show Below W61.heap.size W61 W66 by rw [← hW]; exact (Below.refl _ _).alloc (Nat.le_refl _) _)
       have HX68 := Lib.hid (show W66.heap[W61.heap.size]? = some (.cells #[.int .i64 0, .string ByteArray.empty, .int .i64 0, .int .i64 0, .int .i64 0] 65 (0, 0)) by rw [← hW]; exact heap_new_at W61 _ _ rfl)
       have HS69 := Lib.hid (HS64.out.below HB67.out)
       have HB70 := Lib.hid (HB65.out.trans (HB67.out.mono HB65.out.size))
       have HX71 := Lib.hid (below_blk HB67.out HX63.out)
       clear hW
       have HNE72 := Lib.hid (show w35.heap.size ≠ W61.heap.size from by have h9 := blk_lt HX63.out; omega)
       refine hK.out _ _ (HS69.out) (fun hHeld => ?_)
       clear hK KQ
       try simp only [Act.put, zq1, zq2, zq3]
       have z0 := cell_of_blk (i := 0) HX68.out rfl
       have y0 := free_of_blk (i := 0) HX68.out
       have z1 := cell_of_blk (i := 1) HX68.out rfl
       have y1 := free_of_blk (i := 1) HX68.out
       have z2 := cell_of_blk (i := 2) HX68.out rfl
       have y2 := free_of_blk (i := 2) HX68.out
       have z3 := cell_of_blk (i := 3) HX68.out rfl
       have y3 := free_of_blk (i := 3) HX68.out
       have z4 := cell_of_blk (i := 4) HX68.out rfl
       have y4 := free_of_blk (i := 4) HX68.out
       have zl := blk_lt HX68.out
       refine zrd 22 fun KQ hK => ?_
       go_simp
       refine gen_K (P := fun W => KQ _ W) fun W73 hW => ?_
       clear z0 z1 z2 z3 z4 y0 y1 y2 y3 y4 zl
       have hfs := five_set HX68.out rfl (.int .i64 (tk K.T i1).kind) (.string (tk K.T i1).text) (.int .i64 ((tk K.T i1).a : Int)) (.int .i64 ((tk K.T i1).z : Int)) (.int .i64 (tk K.T i1).n)
       rw [hW] at hfs
       have HX74 := Lib.hid hfs.1
       have HB76 := Lib.hid (hfs.2.2 _ _ HB70.out (show w31.heap.size ≤ W61.heap.size from HB65.out.size))
       have hbl9 := hfs.2.2 _ _ (Below.refl w31.heap.size W66) (show w31.heap.size ≤ W61.heap.size from HB65.out.size)
       have HS75 := Lib.hid (show PaAt K W73 p i1 o sn (ns ++ flats ns.length acc) fp1 from (HS32.out.below HB76.out).pa)
       have HX77 := Lib.hid ((hfs.2.1 w35.heap.size (HNE72.out)).trans HX71.out)
       clear hfs hW hbl9
       refine hK.out _ _ (HS75.out) (fun hHeld => ?_)
       clear hK KQ
       try simp only [Act.put, zq1, zq2, zq3]
       have z0 := cell_of_blk (i := 0) HX77.out rfl
       have y0 := free_of_blk (i := 0) HX77.out
       have z1 := cell_of_blk (i := 1) HX77.out rfl
       have y1 := free_of_blk (i := 1) HX77.out
       have z2 := cell_of_blk (i := 2) HX77.out rfl
       have y2 := free_of_blk (i := 2) HX77.out
       have z3 := cell_of_blk (i := 3) HX77.out rfl
       have y3 := free_of_blk (i := 3) HX77.out
       have z4 := cell_of_blk (i := 4) HX77.out rfl
       have y4 := free_of_blk (i := 4) HX77.out
       have zl := blk_lt HX77.out
       refine zrd 23 fun KQ hK => ?_
       go_simp
       refine gen_K (P := fun W => KQ _ W) fun W78 hW => ?_
       clear z0 z1 z2 z3 z4 y0 y1 y2 y3 y4 zl
       have hfs := five_set HX77.out rfl (.int .i64 (tk K.T q).kind) (.string (tk K.T q).text) (.int .i64 ((tk K.T q).a : Int)) (.int .i64 ((tk K.T q).z : Int)) (.int .i64 (tk K.T q).n)
       rw [hW] at hfs
       have HX79 := Lib.hid hfs.1
       have HB81 := Lib.hid (hfs.2.2 _ _ HB76.out (show w31.heap.size ≤ w35.heap.size from HB37.out.size))
       have hbl9 := hfs.2.2 _ _ (Below.refl w31.heap.size W73) (show w31.heap.size ≤ w35.heap.size from HB37.out.size)
       have HS80 := Lib.hid (show PaAt K W78 p i1 o sn (ns ++ flats ns.length acc) fp1 from (HS32.out.below HB81.out).pa)
       have HX82 := Lib.hid ((hfs.2.1 W61.heap.size (fun e9 => HNE72.out e9.symm)).trans HX74.out)
       clear hfs hW hbl9
       refine hK.out _ _ (HS80.out) (fun hHeld => ?_)
       clear hK KQ
       try simp only [Act.put, zq1, zq2, zq3]
       refine wpAnyH_done (by kernel_rfl) ?_ _
       go_wp2_with fail
       go_meet
       case rel => exact ⟨_, _, rfl, rfl, Lib.hid ⟨HX82.out, HX79.out, HB81.out, HB65.out.size, HB37.out.size⟩⟩
     ·go_simp
      refine gen_K (P := fun W => KQ _ W) fun W83 hW => ?_
      have HB84 := Lib.hid (show Below w31.heap.size w31 W83 by rw [← hW]; exact ((Below.refl _ _).alloc (Nat.le_refl _) _).drew)
      have HX85 := Lib.hid (show W83.heap[w31.heap.size]? = some (.cells #[.int .i64 0, .string ByteArray.empty, .int .i64 0, .int .i64 0, .int .i64 0] 65 (0, 0)) by rw [← hW]; exact heap_new_at w31 _ _ rfl)
      have HS86 := Lib.hid (show PaAt K W83 p i1 o sn (ns ++ flats ns.length acc) fp1 from (HS32.out.below HB84.out).pa)
      have HB87 := Lib.hid HB84.out
      clear hW
      refine hK.out _ _ (HS86.out) (fun hHeld => ?_)
      clear hK KQ
      try simp only [Act.put, zq1, zq2, zq3]
      refine wpAnyH_ready (rs := [1, 21]) (by kernel_rfl) (by simp) ?_
      refine AllReadyH.cons (o := _) rfl (fun KQ hK => ?_) (AllReadyH.cons (o := _) rfl (fun KQ hK => ?_) (AllReadyH.nil))
      ·go_simp
       refine (show Calls Tryz.prog 41 #[.pointer (some ⟨p, 0, none⟩)] _ (RetB (.agg #[.int .i64 (tk K.T i1).kind, .string (tk K.T i1).text, .int .i64 ((tk K.T i1).a : Int), .int .i64 ((tk K.T i1).z : Int), .int .i64 (tk K.T i1).n]) _) from now_any HS86.out HRL.out.1).mono ?_
       rintro e w88 ⟨rfl, h2⟩
       have HS89 := Lib.hid (HS86.out.below h2)
       have HB90 := Lib.hid (HB87.out.trans (h2.mono HB87.out.size))
       have HB91 := Lib.hid h2
       have HX92 := Lib.hid (below_blk HB91.out HX85.out)
       clear h2
       refine hK.out _ _ (HS89.out) (fun hHeld => ?_)
       clear hK KQ
       try simp only [Act.put, zq1, zq2, zq3]
       refine zrd 21 fun KQ hK => ?_
       go_simp
       refine gen_K (P := fun W => KQ _ W) fun W93 hW => ?_
       have HB94 := Lib.hid (show Below w88.heap.size w88 W93 by rw [← hW]; exact (Below.refl _ _).alloc (Nat.le_refl _) _)
       have HX95 := Lib.hid (show W93.heap[w88.heap.size]? = some (.cells #[.int .i64 0, .string ByteArray.empty, .int .i64 0, .int .i64 0, .int .i64 0] 65 (0, 0)) by rw [← hW]; exact heap_new_at w88 _ _ rfl)
       have HS96 := Lib.hid (HS89.out.below HB94.out)
       have HB97 := Lib.hid (HB90.out.trans (HB94.out.mono HB90.out.size))
       have HX98 := Lib.hid (below_blk HB94.out HX92.out)
       clear hW
       have HNE99 := Lib.hid (show w31.heap.size ≠ w88.heap.size from by have h9 := blk_lt HX92.out; omega)
       refine hK.out _ _ (HS96.out) (fun hHeld => ?_)
       clear hK KQ
       try simp only [Act.put, zq1, zq2, zq3]
       have z0 := cell_of_blk (i := 0) HX98.out rfl
       have y0 := free_of_blk (i := 0) HX98.out
       have z1 := cell_of_blk (i := 1) HX98.out rfl
       have y1 := free_of_blk (i := 1) HX98.out
       have z2 := cell_of_blk (i := 2) HX98.out rfl
       have y2 := free_of_blk (i := 2) HX98.out
       have z3 := cell_of_blk (i := 3) HX98.out rfl
       have y3 := free_of_blk (i := 3) HX98.out
       have z4 := cell_of_blk (i := 4) HX98.out rfl
       have y4 := free_of_blk (i := 4) HX98.out
       have zl := blk_lt HX98.out
       refine zrd 22 fun KQ hK => ?_
       go_simp
       refine gen_K (P := fun W => KQ _ W) fun W100 hW => ?_
       clear z0 z1 z2 z3 z4 y0 y1 y2 y3 y4 zl
       have hfs := five_set HX98.out rfl (.int .i64 (tk K.T i1).kind) (.string (tk K.T i1).text) (.int .i64 ((tk K.T i1).a : Int)) (.int .i64 ((tk K.T i1).z : Int)) (.int .i64 (tk K.T i1).n)
       rw [hW] at hfs
       have HX101 := Lib.hid hfs.1
       have HB103 := Lib.hid (hfs.2.2 _ _ HB97.out (show w31.heap.size ≤ w31.heap.size from Nat.le_refl _))
       have hbl9 := hfs.2.2 _ _ (Below.refl w31.heap.size W93) (show w31.heap.size ≤ w31.heap.size from Nat.le_refl _)
       have HS102 := Lib.hid (show PaAt K W100 p i1 o sn (ns ++ flats ns.length acc) fp1 from (HS32.out.below HB103.out).pa)
       have HX104 := Lib.hid ((hfs.2.1 w88.heap.size (fun e9 => HNE99.out e9.symm)).trans HX95.out)
       clear hfs hW hbl9
       refine hK.out _ _ (HS102.out) (fun hHeld => ?_)
       clear hK KQ
       try simp only [Act.put, zq1, zq2, zq3]
       have z0 := cell_of_blk (i := 0) HX104.out rfl
       have y0 := free_of_blk (i := 0) HX104.out
       have z1 := cell_of_blk (i := 1) HX104.out rfl
       have y1 := free_of_blk (i := 1) HX104.out
       have z2 := cell_of_blk (i := 2) HX104.out rfl
       have y2 := free_of_blk (i := 2) HX104.out
       have z3 := cell_of_blk (i := 3) HX104.out rfl
       have y3 := free_of_blk (i := 3) HX104.out
       have z4 := cell_of_blk (i := 4) HX104.out rfl
       have y4 := free_of_blk (i := 4) HX104.out
       have zl := blk_lt HX104.out
       refine zrd 23 fun KQ hK => ?_
       go_simp
       refine gen_K (P := fun W => KQ _ W) fun W105 hW => ?_
       clear z0 z1 z2 z3 z4 y0 y1 y2 y3 y4 zl
       have hfs := five_set HX104.out rfl (.int .i64 (tk K.T q).kind) (.string (tk K.T q).text) (.int .i64 ((tk K.T q).a : Int)) (.int .i64 ((tk K.T q).z : Int)) (.int .i64 (tk K.T q).n)
       rw [hW] at hfs
       have HX106 := Lib.hid hfs.1
       have HB108 := Lib.hid (hfs.2.2 _ _ HB103.out (show w31.heap.size ≤ w88.heap.size from HB90.out.size))
       have hbl9 := hfs.2.2 _ _ (Below.refl w31.heap.size W100) (show w31.heap.size ≤ w88.heap.size from HB90.out.size)
       have HS107 := Lib.hid (show PaAt K W105 p i1 o sn (ns ++ flats ns.length acc) fp1 from (HS32.out.below HB108.out).pa)
       have HX109 := Lib.hid ((hfs.2.1 w31.heap.size (HNE99.out)).trans HX101.out)
       clear hfs hW hbl9
       refine hK.out _ _ (HS107.out) (fun hHeld => ?_)
       clear hK KQ
       try simp only [Act.put, zq1, zq2, zq3]
       refine wpAnyH_done (by kernel_rfl) ?_ _
       go_wp2_with fail
       go_meet
       case rel => exact ⟨_, _, rfl, rfl, Lib.hid ⟨HX109.out, HX106.out, HB108.out, Nat.le_refl _, HB90.out.size⟩⟩
      ·go_simp
       refine gen_K (P := fun W => KQ _ W) fun W110 hW => ?_
       have HB111 := Lib.hid (show Below W83.heap.size W83 W110 by rw [← hW]; exact (Below.refl _ _).alloc (Nat.le_refl _) _)
       have HX112 := Lib.hid (show W110.heap[W83.heap.size]? = some (.cells #[.int .i64 0, .string ByteArray.empty, .int .i64 0, .int .i64 0, .int .i64 0] 65 (0, 0)) by rw [← hW]; exact heap_new_at W83 _ _ rfl)
       have HS113 := Lib.hid (HS86.out.below HB111.out)
       have HB114 := Lib.hid (HB87.out.trans (HB111.out.mono HB87.out.size))
       have HX115 := Lib.hid (below_blk HB111.out HX85.out)
       clear hW
       have HNE116 := Lib.hid (show w31.heap.size ≠ W83.heap.size from by have h9 := blk_lt HX85.out; omega)
       refine hK.out _ _ (HS113.out) (fun hHeld => ?_)
       clear hK KQ
       try simp only [Act.put, zq1, zq2, zq3]
       refine zrd 1 fun KQ hK => ?_
       go_simp
       refine (show Calls Tryz.prog 41 #[.pointer (some ⟨p, 0, none⟩)] _ (RetB (.agg #[.int .i64 (tk K.T i1).kind, .string (tk K.T i1).text, .int .i64 ((tk K.T i1).a : Int), .int .i64 ((tk K.T i1).z : Int), .int .i64 (tk K.T i1).n]) _) from now_any HS113.out HRL.out.1).mono ?_
       rintro e w117 ⟨rfl, h2⟩
       have HS118 := Lib.hid (HS113.out.below h2)
       have HB119 := Lib.hid (HB114.out.trans (h2.mono HB114.out.size))
       have HB120 := Lib.hid h2
       have HX121 := Lib.hid (below_blk HB120.out HX115.out)
       have HX122 := Lib.hid (below_blk HB120.out HX112.out)
       clear h2
       refine hK.out _ _ (HS118.out) (fun hHeld => ?_)
       clear hK KQ
       try simp only [Act.put, zq1, zq2, zq3]
       have z0 := cell_of_blk (i := 0) HX121.out rfl
       have y0 := free_of_blk (i := 0) HX121.out
       have z1 := cell_of_blk (i := 1) HX121.out rfl
       have y1 := free_of_blk (i := 1) HX121.out
       have z2 := cell_of_blk (i := 2) HX121.out rfl
       have y2 := free_of_blk (i := 2) HX121.out
       have z3 := cell_of_blk (i := 3) HX121.out rfl
       have y3 := free_of_blk (i := 3) HX121.out
       have z4 := cell_of_blk (i := 4) HX121.out rfl
       have y4 := free_of_blk (i := 4) HX121.out
       have zl := blk_lt HX121.out
       refine zrd 22 fun KQ hK => ?_
       go_simp
       refine gen_K (P := fun W => KQ _ W) fun W123 hW => ?_
       clear z0 z1 z2 z3 z4 y0 y1 y2 y3 y4 zl
       have hfs := five_set HX121.out rfl (.int .i64 (tk K.T i1).kind) (.string (tk K.T i1).text) (.int .i64 ((tk K.T i1).a : Int)) (.int .i64 ((tk K.T i1).z : Int)) (.int .i64 (tk K.T i1).n)
       rw [hW] at hfs
       have HX124 := Lib.hid hfs.1
       have HB126 := Lib.hid (hfs.2.2 _ _ HB119.out (show w31.heap.size ≤ w31.heap.size from Nat.le_refl _))
       have hbl9 := hfs.2.2 _ _ (Below.refl w31.heap.size w117) (show w31.heap.size ≤ w31.heap.size from Nat.le_refl _)
       have HS125 := Lib.hid (show PaAt K W123 p i1 o sn (ns ++ flats ns.length acc) fp1 from (HS32.out.below HB126.out).pa)
       have HX127 := Lib.hid ((hfs.2.1 W83.heap.size (fun e9 => HNE116.out e9.symm)).trans HX122.out)
       clear hfs hW hbl9
       refine hK.out _ _ (HS125.out) (fun hHeld => ?_)
       clear hK KQ
       try simp only [Act.put, zq1, zq2, zq3]
       have z0 := cell_of_blk (i := 0) HX127.out rfl
       have y0 := free_of_blk (i := 0) HX127.out
       have z1 := cell_of_blk (i := 1) HX127.out rfl
       have y1 := free_of_blk (i := 1) HX127.out
       have z2 := cell_of_blk (i := 2) HX127.out rfl
       have y2 := free_of_blk (i := 2) HX127.out
       have z3 := cell_of_blk (i := 3) HX127.out rfl
       have y3 := free_of_blk (i := 3) HX127.out
       have z4 := cell_of_blk (i := 4) HX127.out rfl
       have y4 := free_of_blk (i := 4) HX127.out
       have zl := blk_lt HX127.out
       refine zrd 23 fun KQ hK => ?_
       go_simp
       refine gen_K (P := fun W => KQ _ W) fun W128 hW => ?_
       clear z0 z1 z2 z3 z4 y0 y1 y2 y3 y4 zl
       have hfs := five_set HX127.out rfl (.int .i64 (tk K.T q).kind) (.string (tk K.T q).text) (.int .i64 ((tk K.T q).a : Int)) (.int .i64 ((tk K.T q).z : Int)) (.int .i64 (tk K.T q).n)
       rw [hW] at hfs
       have HX129 := Lib.hid hfs.1
       have HB131 := Lib.hid (hfs.2.2 _ _ HB126.out (show w31.heap.size ≤ W83.heap.size from HB87.out.size))
       have hbl9 := hfs.2.2 _ _ (Below.refl w31.heap.size W123) (show w31.heap.size ≤ W83.heap.size from HB87.out.size)
       have HS130 := Lib.hid (show PaAt K W128 p i1 o sn (ns ++ flats ns.length acc) fp1 from (HS32.out.below HB131.out).pa)
       have HX132 := Lib.hid ((hfs.2.1 w31.heap.size (HNE116.out)).trans HX124.out)
       clear hfs hW hbl9
       refine hK.out _ _ (HS130.out) (fun hHeld => ?_)
       clear hK KQ
       try simp only [Act.put, zq1, zq2, zq3]
       refine wpAnyH_done (by kernel_rfl) ?_ _
       go_wp2_with fail
       go_meet
       case rel => exact ⟨_, _, rfl, rfl, Lib.hid ⟨HX132.out, HX129.out, HB131.out, Nat.le_refl _, HB87.out.size⟩⟩
     ·go_simp
      refine gen_K (P := fun W => KQ _ W) fun W133 hW => ?_
      have HB134 := Lib.hid (show Below w31.heap.size w31 W133 by rw [← hW]; exact ((Below.refl _ _).alloc (Nat.le_refl _) _).drew)
      have HX135 := Lib.hid (show W133.heap[w31.heap.size]? = some (.cells #[.int .i64 0, .string ByteArray.empty, .int .i64 0, .int .i64 0, .int .i64 0] 65 (0, 0)) by rw [← hW]; exact heap_new_at w31 _ _ rfl)
      have HS136 := Lib.hid (show PaAt K W133 p i1 o sn (ns ++ flats ns.length acc) fp1 from (HS32.out.below HB134.out).pa)
      have HB137 := Lib.hid HB134.out
      clear hW
      refine hK.out _ _ (HS136.out) (fun hHeld => ?_)
      clear hK KQ
      try simp only [Act.put, zq1, zq2, zq3]
      refine wpAnyH_ready (rs := [1, 20]) (by kernel_rfl) (by simp) ?_
      refine AllReadyH.cons (o := _) rfl (fun KQ hK => ?_) (AllReadyH.cons (o := _) rfl (fun KQ hK => ?_) (AllReadyH.nil))
      ·go_simp
       refine (show Calls Tryz.prog 41 #[.pointer (some ⟨p, 0, none⟩)] _ (RetB (.agg #[.int .i64 (tk K.T i1).kind, .string (tk K.T i1).text, .int .i64 ((tk K.T i1).a : Int), .int .i64 ((tk K.T i1).z : Int), .int .i64 (tk K.T i1).n]) _) from now_any HS136.out HRL.out.1).mono ?_
       rintro e w138 ⟨rfl, h2⟩
       have HS139 := Lib.hid (HS136.out.below h2)
       have HB140 := Lib.hid (HB137.out.trans (h2.mono HB137.out.size))
       have HB141 := Lib.hid h2
       have HX142 := Lib.hid (below_blk HB141.out HX135.out)
       clear h2
       refine hK.out _ _ (HS139.out) (fun hHeld => ?_)
       clear hK KQ
       try simp only [Act.put, zq1, zq2, zq3]
       refine zrd 20 fun KQ hK => ?_
       go_simp
       refine gen_K (P := fun W => KQ _ W) fun W143 hW => ?_
       have HB144 := Lib.hid (show Below w138.heap.size w138 W143 by rw [← hW]; exact (Below.refl _ _).alloc (Nat.le_refl _) _)
       have HX145 := Lib.hid (show W143.heap[w138.heap.size]? = some (.cells #[.int .i64 0, .string ByteArray.empty, .int .i64 0, .int .i64 0, .int .i64 0] 65 (0, 0)) by rw [← hW]; exact heap_new_at w138 _ _ rfl)
       have HS146 := Lib.hid (HS139.out.below HB144.out)
       have HB147 := Lib.hid (HB140.out.trans (HB144.out.mono HB140.out.size))
       have HX148 := Lib.hid (below_blk HB144.out HX142.out)
       clear hW
       have HNE149 := Lib.hid (show w31.heap.size ≠ w138.heap.size from by have h9 := blk_lt HX142.out; omega)
       refine hK.out _ _ (HS146.out) (fun hHeld => ?_)
       clear hK KQ
       try simp only [Act.put, zq1, zq2, zq3]
       have z0 := cell_of_blk (i := 0) HX145.out rfl
       have y0 := free_of_blk (i := 0) HX145.out
       have z1 := cell_of_blk (i := 1) HX145.out rfl
       have y1 := free_of_blk (i := 1) HX145.out
       have z2 := cell_of_blk (i := 2) HX145.out rfl
       have y2 := free_of_blk (i := 2) HX145.out
       have z3 := cell_of_blk (i := 3) HX145.out rfl
       have y3 := free_of_blk (i := 3) HX145.out
       have z4 := cell_of_blk (i := 4) HX145.out rfl
       have y4 := free_of_blk (i := 4) HX145.out
       have zl := blk_lt HX145.out
       refine zrd 22 fun KQ hK => ?_
       go_simp
       refine gen_K (P := fun W => KQ _ W) fun W150 hW => ?_
       clear z0 z1 z2 z3 z4 y0 y1 y2 y3 y4 zl
       have hfs := five_set HX145.out rfl (.int .i64 (tk K.T i1).kind) (.string (tk K.T i1).text) (.int .i64 ((tk K.T i1).a : Int)) (.int .i64 ((tk K.T i1).z : Int)) (.int .i64 (tk K.T i1).n)
       rw [hW] at hfs
       have HX151 := Lib.hid hfs.1
       have HB153 := Lib.hid (hfs.2.2 _ _ HB147.out (show w31.heap.size ≤ w138.heap.size from HB140.out.size))
       have hbl9 := hfs.2.2 _ _ (Below.refl w31.heap.size W143) (show w31.heap.size ≤ w138.heap.size from HB140.out.size)
       have HS152 := Lib.hid (show PaAt K W150 p i1 o sn (ns ++ flats ns.length acc) fp1 from (HS32.out.below HB153.out).pa)
       have HX154 := Lib.hid ((hfs.2.1 w31.heap.size (HNE149.out)).trans HX148.out)
       clear hfs hW hbl9
       refine hK.out _ _ (HS152.out) (fun hHeld => ?_)
       clear hK KQ
       try simp only [Act.put, zq1, zq2, zq3]
       have z0 := cell_of_blk (i := 0) HX154.out rfl
       have y0 := free_of_blk (i := 0) HX154.out
       have z1 := cell_of_blk (i := 1) HX154.out rfl
       have y1 := free_of_blk (i := 1) HX154.out
       have z2 := cell_of_blk (i := 2) HX154.out rfl
       have y2 := free_of_blk (i := 2) HX154.out
       have z3 := cell_of_blk (i := 3) HX154.out rfl
       have y3 := free_of_blk (i := 3) HX154.out
       have z4 := cell_of_blk (i := 4) HX154.out rfl
       have y4 := free_of_blk (i := 4) HX154.out
       have zl := blk_lt HX154.out
       refine zrd 23 fun KQ hK => ?_
       go_simp
       refine gen_K (P := fun W => KQ _ W) fun W155 hW => ?_
       clear z0 z1 z2 z3 z4 y0 y1 y2 y3 y4 zl
       have hfs := five_set HX154.out rfl (.int .i64 (tk K.T q).kind) (.string (tk K.T q).text) (.int .i64 ((tk K.T q).a : Int)) (.int .i64 ((tk K.T q).z : Int)) (.int .i64 (tk K.T q).n)
       rw [hW] at hfs
       have HX156 := Lib.hid hfs.1
       have HB158 := Lib.hid (hfs.2.2 _ _ HB153.out (show w31.heap.size ≤ w31.heap.size from Nat.le_refl _))
       have hbl9 := hfs.2.2 _ _ (Below.refl w31.heap.size W150) (show w31.heap.size ≤ w31.heap.size from Nat.le_refl _)
       have HS157 := Lib.hid (show PaAt K W155 p i1 o sn (ns ++ flats ns.length acc) fp1 from (HS32.out.below HB158.out).pa)
       have HX159 := Lib.hid ((hfs.2.1 w138.heap.size (fun e9 => HNE149.out e9.symm)).trans HX151.out)
       clear hfs hW hbl9
       refine hK.out _ _ (HS157.out) (fun hHeld => ?_)
       clear hK KQ
       try simp only [Act.put, zq1, zq2, zq3]
       refine wpAnyH_done (by kernel_rfl) ?_ _
       go_wp2_with fail
       go_meet
       case rel => exact ⟨_, _, rfl, rfl, Lib.hid ⟨HX159.out, HX156.out, HB158.out, HB140.out.size, Nat.le_refl _⟩⟩
      ·go_simp
       refine gen_K (P := fun W => KQ _ W) fun W160 hW => ?_
       have HB161 := Lib.hid (show Below W133.heap.size W133 W160 by rw [← hW]; exact (Below.refl _ _).alloc (Nat.le_refl _) _)
       have HX162 := Lib.hid (show W160.heap[W133.heap.size]? = some (.cells #[.int .i64 0, .string ByteArray.empty, .int .i64 0, .int .i64 0, .int .i64 0] 65 (0, 0)) by rw [← hW]; exact heap_new_at W133 _ _ rfl)
       have HS163 := Lib.hid (HS136.out.below HB161.out)
       have HB164 := Lib.hid (HB137.out.trans (HB161.out.mono HB137.out.size))
       have HX165 := Lib.hid (below_blk HB161.out HX135.out)
       clear hW
       have HNE166 := Lib.hid (show w31.heap.size ≠ W133.heap.size from by have h9 := blk_lt HX135.out; omega)
       refine hK.out _ _ (HS163.out) (fun hHeld => ?_)
       clear hK KQ
       try simp only [Act.put, zq1, zq2, zq3]
       refine zrd 1 fun KQ hK => ?_
       go_simp
       refine (show Calls Tryz.prog 41 #[.pointer (some ⟨p, 0, none⟩)] _ (RetB (.agg #[.int .i64 (tk K.T i1).kind, .string (tk K.T i1).text, .int .i64 ((tk K.T i1).a : Int), .int .i64 ((tk K.T i1).z : Int), .int .i64 (tk K.T i1).n]) _) from now_any HS163.out HRL.out.1).mono ?_
       rintro e w167 ⟨rfl, h2⟩
       have HS168 := Lib.hid (HS163.out.below h2)
       have HB169 := Lib.hid (HB164.out.trans (h2.mono HB164.out.size))
       have HB170 := Lib.hid h2
       have HX171 := Lib.hid (below_blk HB170.out HX165.out)
       have HX172 := Lib.hid (below_blk HB170.out HX162.out)
       clear h2
       refine hK.out _ _ (HS168.out) (fun hHeld => ?_)
       clear hK KQ
       try simp only [Act.put, zq1, zq2, zq3]
       have z0 := cell_of_blk (i := 0) HX172.out rfl
       have y0 := free_of_blk (i := 0) HX172.out
       have z1 := cell_of_blk (i := 1) HX172.out rfl
       have y1 := free_of_blk (i := 1) HX172.out
       have z2 := cell_of_blk (i := 2) HX172.out rfl
       have y2 := free_of_blk (i := 2) HX172.out
       have z3 := cell_of_blk (i := 3) HX172.out rfl
       have y3 := free_of_blk (i := 3) HX172.out
       have z4 := cell_of_blk (i := 4) HX172.out rfl
       have y4 := free_of_blk (i := 4) HX172.out
       have zl := blk_lt HX172.out
       refine zrd 22 fun KQ hK => ?_
       go_simp
       refine gen_K (P := fun W => KQ _ W) fun W173 hW => ?_
       clear z0 z1 z2 z3 z4 y0 y1 y2 y3 y4 zl
       have hfs := five_set HX172.out rfl (.int .i64 (tk K.T i1).kind) (.string (tk K.T i1).text) (.int .i64 ((tk K.T i1).a : Int)) (.int .i64 ((tk K.T i1).z : Int)) (.int .i64 (tk K.T i1).n)
       rw [hW] at hfs
       have HX174 := Lib.hid hfs.1
       have HB176 := Lib.hid (hfs.2.2 _ _ HB169.out (show w31.heap.size ≤ W133.heap.size from HB137.out.size))
       have hbl9 := hfs.2.2 _ _ (Below.refl w31.heap.size w167) (show w31.heap.size ≤ W133.heap.size from HB137.out.size)
       have HS175 := Lib.hid (show PaAt K W173 p i1 o sn (ns ++ flats ns.length acc) fp1 from (HS32.out.below HB176.out).pa)
       have HX177 := Lib.hid ((hfs.2.1 w31.heap.size (HNE166.out)).trans HX171.out)
       clear hfs hW hbl9
       refine hK.out _ _ (HS175.out) (fun hHeld => ?_)
       clear hK KQ
       try simp only [Act.put, zq1, zq2, zq3]
       have z0 := cell_of_blk (i := 0) HX177.out rfl
       have y0 := free_of_blk (i := 0) HX177.out
       have z1 := cell_of_blk (i := 1) HX177.out rfl
       have y1 := free_of_blk (i := 1) HX177.out
       have z2 := cell_of_blk (i := 2) HX177.out rfl
       have y2 := free_of_blk (i := 2) HX177.out
       have z3 := cell_of_blk (i := 3) HX177.out rfl
       have y3 := free_of_blk (i := 3) HX177.out
       have z4 := cell_of_blk (i := 4) HX177.out rfl
       have y4 := free_of_blk (i := 4) HX177.out
       have zl := blk_lt HX177.out
       refine zrd 23 fun KQ hK => ?_
       go_simp
       refine gen_K (P := fun W => KQ _ W) fun W178 hW => ?_
       clear z0 z1 z2 z3 z4 y0 y1 y2 y3 y4 zl
       have hfs := five_set HX177.out rfl (.int .i64 (tk K.T q).kind) (.string (tk K.T q).text) (.int .i64 ((tk K.T q).a : Int)) (.int .i64 ((tk K.T q).z : Int)) (.int .i64 (tk K.T q).n)
       rw [hW] at hfs
       have HX179 := Lib.hid hfs.1
       have HB181 := Lib.hid (hfs.2.2 _ _ HB176.out (show w31.heap.size ≤ w31.heap.size from Nat.le_refl _))
       have hbl9 := hfs.2.2 _ _ (Below.refl w31.heap.size W173) (show w31.heap.size ≤ w31.heap.size from Nat.le_refl _)
       have HS180 := Lib.hid (show PaAt K W178 p i1 o sn (ns ++ flats ns.length acc) fp1 from (HS32.out.below HB181.out).pa)
       have HX182 := Lib.hid ((hfs.2.1 W133.heap.size (fun e9 => HNE166.out e9.symm)).trans HX174.out)
       clear hfs hW hbl9
       refine hK.out _ _ (HS180.out) (fun hHeld => ?_)
       clear hK KQ
       try simp only [Act.put, zq1, zq2, zq3]
       refine wpAnyH_done (by kernel_rfl) ?_ _
       go_wp2_with fail
       go_meet
       case rel => exact ⟨_, _, rfl, rfl, Lib.hid ⟨HX182.out, HX179.out, HB181.out, HB137.out.size, Nat.le_refl _⟩⟩
    case rest =>
     obtain ⟨tb, tb2, rfl, rfl, HPQ⟩ := hcut
     clear hi2 hlm hq hA
     have HBW := Lib.hid HPQ.out.2.2.1
     have HS183 := Lib.hid (HS32.out.below HBW.out)
     have HX184 := Lib.hid HPQ.out.1
     have HX186 := Lib.hid HPQ.out.2.1
     have HA185 := Lib.hid (Away.new HS32.out.pa HPQ.out.2.2.2.1 (blk_lt HX184.out))
     have HA187 := Lib.hid (Away.new HS32.out.pa HPQ.out.2.2.2.2 (blk_lt HX186.out))
     have HV188 := Lib.hid (HV34.out.to (PaTo.of_below HS32.out.pa HBW.out))
     clear HPQ
     have x189 := cell_of_blk (i := 0) HX184.out rfl
     have x190 := cell_of_blk (i := 1) HX184.out rfl
     have x191 := cell_of_blk (i := 2) HX184.out rfl
     have x192 := cell_of_blk (i := 3) HX184.out rfl
     have x193 := cell_of_blk (i := 4) HX184.out rfl
     have xl194 := blk_lt HX184.out
     have x195 := cell_of_blk (i := 0) HX186.out rfl
     have x196 := cell_of_blk (i := 1) HX186.out rfl
     have x197 := cell_of_blk (i := 2) HX186.out rfl
     have x198 := cell_of_blk (i := 3) HX186.out rfl
     have x199 := cell_of_blk (i := 4) HX186.out rfl
     have xl200 := blk_lt HX186.out
     cases b1 : ((tk K.T i1).kind == 1) with
     | false =>
      rw [if_neg (fun e9 => absurd e9.1 (beq_eq_false_iff_ne.1 b1))] at hr
      obtain ⟨X, hX⟩ : ∃ X, (parF K.T f).one (.exp) o i1 = X := ⟨_, rfl⟩
      rw [hX] at hr
      cases X with
      | none => exact absurd hr (by simp [Res.then])
      | some X =>
      cases X with
      | bad a n =>
       have HRR203 := Lib.hid (show Res.bad a n = r from (by dsimp only [Res.then] at hr; have h1 := Option.some.inj hr; have h2 := HRT.out; rw [← h1] at h2; dsimp only [Res.then] at h2; exact Option.some.inj h2))
       have HC206 := Lib.hid (call_bad ((HAP.out f (Nat.le_refl f)).exp) HS183.out HB.out ⟨HRL.out.1, by have := HRM.out; have := HRL.out; (try simp only [ptsS, ptS, noneT, ptsS_append, Nat.add_zero, Nat.zero_add]); omega⟩ HO.out hX)
       clear hr hX
       go_wp2_with fail
       refine HC206.out.mono ?_
       rintro e wb ⟨rfl, hb⟩
       have HB205 := Lib.hid hb
       clear hb
       unfold wrongP
       go_wp2
       exact ⟨rfl, by rw [← HRR203.out]; exact ⟨rfl, HB205.out⟩⟩
      | ok t201 j202 =>
       have hft := (fit_all HTK.out f).one (.exp) o i1 HRL.out.1
       rw [hX] at hft
       obtain ⟨f1, f2, f3⟩ := hft
       simp only [lazy1, sl1, ex1, Bool.false_eq_true, if_false, if_true] at f2 f3
       have HF204 := Lib.hid (And.intro f1 (And.intro f2 f3))
       clear f1 f2 f3
       have HC210 := Lib.hid (call_ok ((HAP.out f (Nat.le_refl f)).exp) HS183.out ⟨HRL.out.1, by have := HRM.out; have := HRL.out; (try simp only [ptsS, ptS, noneT, ptsS_append, Nat.add_zero, Nat.zero_add]); omega⟩ HO.out hX)
       dsimp only [Res.then] at hr
       clear hX
       have HR := Lib.hid hr
       clear hr
       go_wp2_with fail
       clear x189 x190 x191 x192 x193 xl194 x195 x196 x197 x198 x199 xl200
       refine HC210.out.mono ?_
       rintro e w207 ⟨rfl, fp208, h1, h2⟩
       obtain ⟨n211, hn⟩ : ∃ n, n = nr ns acc t201 := ⟨_, rfl⟩
       rw [← hn]
       have HN212 := Lib.hid hn
       have HS209 := Lib.hid (show St K w p j202 o sn ns fp (acc ++ [t201]) w207 fp208 from h1)
       have HX213 := Lib.hid (Away.blkTo HX184.out HA185.out h2)
       have HA214 := Lib.hid (HA185.out.to h2)
       have HX215 := Lib.hid (Away.blkTo HX186.out HA187.out h2)
       have HA216 := Lib.hid (HA187.out.to h2)
       have HV217 := Lib.hid (HV188.out.to h2)
       clear h1 h2 hn
       have x218 := cell_of_blk (i := 0) HX213.out rfl
       have x219 := cell_of_blk (i := 1) HX213.out rfl
       have x220 := cell_of_blk (i := 2) HX213.out rfl
       have x221 := cell_of_blk (i := 3) HX213.out rfl
       have x222 := cell_of_blk (i := 4) HX213.out rfl
       have xl223 := blk_lt HX213.out
       have x224 := cell_of_blk (i := 0) HX215.out rfl
       have x225 := cell_of_blk (i := 1) HX215.out rfl
       have x226 := cell_of_blk (i := 2) HX215.out rfl
       have x227 := cell_of_blk (i := 3) HX215.out rfl
       have x228 := cell_of_blk (i := 4) HX215.out rfl
       have xl229 := blk_lt HX215.out
       have hr := HR.out
       clear HR
       have HC230 := Lib.hid (show ∀ W, W = w207.alloc (.cells #[natV n211] 3) → Calls Tryz.prog 23 #[.pointer (some ⟨p, 0, none⟩), .int .i64 26, .string ⟨#[]⟩, natV (tk K.T i1).a, .slice (some ⟨w207.heap.size, 0, none⟩) 1 1] W (OneOk K w p o sn ns fp acc W fp208 (PT.mk 26 ⟨#[]⟩ (tk K.T i1).a [t201]) j202) from fun W hW => by
        subst hW
        exact lay_mid (L1 := acc) (L2 := [t201]) (HS209.out.below ((Below.refl _ _).alloc (Nat.le_refl _) _)) (by have h7 := (show ns.length + ptsS (acc ++ [t201]) + 4 * (K.T.length - j202) ≤ 900000 from by have := HRM.out; have := HRL.out; have := HF204.out; (try simp only [ptsS, ptS, noneT, ptsS_append, Nat.add_zero, Nat.zero_add]); omega); omega) (by simp) 26 ⟨#[]⟩ (tk K.T i1).a (KidsV.new w207 (n211) [] _ rfl) (by simp only [HN212.out, nr, roots, ptsS, Nat.add_zero, Nat.add_assoc]))
       have HR := Lib.hid hr
       clear hr
       try unfold natV
       go_wp2_with fail
       clear x218 x219 x220 x221 x222 xl223 x224 x225 x226 x227 x228 xl229
       refine (HC230.out _ rfl).mono ?_
       rintro e w231 ⟨rfl, fp232, h1, h2⟩
       obtain ⟨n234, hn⟩ : ∃ n, n = nr ns acc (PT.mk 26 ⟨#[]⟩ (tk K.T i1).a [t201]) := ⟨_, rfl⟩
       rw [← hn]
       have HN235 := Lib.hid hn
       have HS233 := Lib.hid (show St K w p j202 o sn ns fp (acc ++ [(PT.mk 26 ⟨#[]⟩ (tk K.T i1).a [t201])]) w231 fp232 from h1)
       have HBL236 : PaTo w207 fp208 w231 fp232 := (PaTo.of_below HS209.out.pa ((Below.refl _ _).alloc (Nat.le_refl _) _)).trans h2
       have HX237 := Lib.hid (Away.blkTo HX213.out HA214.out HBL236)
       have HA238 := Lib.hid (HA214.out.to HBL236)
       have HX239 := Lib.hid (Away.blkTo HX215.out HA216.out HBL236)
       have HA240 := Lib.hid (HA216.out.to HBL236)
       have HV241 := Lib.hid (HV217.out.to HBL236)
       clear h1 h2 hn HBL236
       have x242 := cell_of_blk (i := 0) HX237.out rfl
       have x243 := cell_of_blk (i := 1) HX237.out rfl
       have x244 := cell_of_blk (i := 2) HX237.out rfl
       have x245 := cell_of_blk (i := 3) HX237.out rfl
       have x246 := cell_of_blk (i := 4) HX237.out rfl
       have xl247 := blk_lt HX237.out
       have x248 := cell_of_blk (i := 0) HX239.out rfl
       have x249 := cell_of_blk (i := 1) HX239.out rfl
       have x250 := cell_of_blk (i := 2) HX239.out rfl
       have x251 := cell_of_blk (i := 3) HX239.out rfl
       have x252 := cell_of_blk (i := 4) HX239.out rfl
       have xl253 := blk_lt HX239.out
       have hr := HR.out
       clear HR
       have HKB263 := Lib.hid (show rl ≤ 900000 by have h9 := HKR.out; have h8 := ptsS_len acc; have h7 := (show ns.length + ptsS (acc ++ [(PT.mk 26 ⟨#[]⟩ (tk K.T i1).a [t201])]) + 4 * (K.T.length - j202) ≤ 900000 from by have := HRM.out; have := HRL.out; have := HF204.out; (try simp only [ptsS, ptS, noneT, ptsS_append, Nat.add_zero, Nat.zero_add]); omega); (try simp only [ptsS_append, List.length_append] at h7 h8 h9); omega)
       try unfold natV
       have HR := Lib.hid hr
       clear hr
       go_wp2_with (at_builtin; (refine wpList_push (n := n234) rfl _ _ rfl HS233.out HV241.out (by rw [roots_len]; exact HKR.out) HKB263.out (B := w.heap.size) (Nat.le_refl _) HS233.out.pt.fr.size HGR.out rfl rfl rfl ?_); intro g254 cap255 w256 h1 h2 h3 h4; clear x242 x243 x244 x245 x246 xl247 x248 x249 x250 x251 x252 xl253; have HS259 := Lib.hid h1; have HV257 := Lib.hid h2; have HGO258 := Lib.hid h3; have HX264 := Lib.hid (h4.blk HX237.out (.inl (by decide))); have HA265 := Lib.hid (HA238.out.on h4.size); have HX266 := Lib.hid (h4.blk HX239.out (.inl (by decide))); have HA267 := Lib.hid (HA240.out.on h4.size); have x268 := cell_of_blk (i := 0) HX264.out rfl; have x269 := cell_of_blk (i := 1) HX264.out rfl; have x270 := cell_of_blk (i := 2) HX264.out rfl; have x271 := cell_of_blk (i := 3) HX264.out rfl; have x272 := cell_of_blk (i := 4) HX264.out rfl; have xl273 := blk_lt HX264.out; have x274 := cell_of_blk (i := 0) HX266.out rfl; have x275 := cell_of_blk (i := 1) HX266.out rfl; have x276 := cell_of_blk (i := 2) HX266.out rfl; have x277 := cell_of_blk (i := 3) HX266.out rfl; have x278 := cell_of_blk (i := 4) HX266.out rfl; have xl279 := blk_lt HX266.out; clear h1 h2 h3 h4)
       obtain ⟨k261, hk2⟩ : ∃ k, k = rl + 1 := ⟨_, rfl⟩
       have HK262 := Lib.hid (show k261 = (acc ++ [(PT.mk 26 ⟨#[]⟩ (tk K.T i1).a [t201])]).length by rw [hk2, HKR.out]; simp)
       have HV280 := Lib.hid (show Ints w256 p fp232 (.slice (some ⟨g254, 0, none⟩) k261 cap255) (roots ns.length (acc ++ [(PT.mk 26 ⟨#[]⟩ (tk K.T i1).a [t201])])) by rw [roots_more, ← HN235.out, hk2]; exact HV257.out)
       rw [← hk2] at HGO258
       try rw [← hk2]
       clear hk2
       have hr := HR.out
       clear HR
       cases hcm : isAny (tk K.T j202) [⟨#[44]⟩] with
       | true =>
        rw [hcm, Bool.true_or, if_pos rfl] at hr
        have HLT281 := Lib.hid (any_lt HTK.out HF204.out.1 hcm)
        have HC284 := Lib.hid (got_yes HS259.out.pa HF204.out.1 ⟨#[44]⟩ hcm)
        clear hcm
        have HR := Lib.hid hr
        clear hr
        go_wp2_with fail
        clear x268 x269 x270 x271 x272 xl273 x274 x275 x276 x277 x278 xl279
        refine HC284.out.mono ?_
        rintro e w282 ⟨rfl, h1, h2⟩
        have HS283 := Lib.hid (HS259.out.step h1 h2)
        have HX285 := Lib.hid (Away.blkTo HX264.out HA265.out h2)
        have HA286 := Lib.hid (HA265.out.to h2)
        have HX287 := Lib.hid (Away.blkTo HX266.out HA267.out h2)
        have HA288 := Lib.hid (HA267.out.to h2)
        have HV289 := Lib.hid (HV280.out.to h2)
        clear h1 h2
        have x290 := cell_of_blk (i := 0) HX285.out rfl
        have x291 := cell_of_blk (i := 1) HX285.out rfl
        have x292 := cell_of_blk (i := 2) HX285.out rfl
        have x293 := cell_of_blk (i := 3) HX285.out rfl
        have x294 := cell_of_blk (i := 4) HX285.out rfl
        have xl295 := blk_lt HX285.out
        have x296 := cell_of_blk (i := 0) HX287.out rfl
        have x297 := cell_of_blk (i := 1) HX287.out rfl
        have x298 := cell_of_blk (i := 2) HX287.out rfl
        have x299 := cell_of_blk (i := 3) HX287.out rfl
        have x300 := cell_of_blk (i := 4) HX287.out rfl
        have xl301 := blk_lt HX287.out
        have hr := HR.out
        clear HR
        have HRF := Lib.hid hr
        clear hr
        go_wp2_with fail
        clear x290 x291 x292 x293 x294 xl295 x296 x297 x298 x299 x300 xl301
        go_roundw
        case rel => exact ⟨_, true, (j202 + 1), fp232, f, rfl, HS283, HV289, HGO258, Lib.hid (fun _ => ⟨by have := HLE.out; omega, HRF.out⟩), Lib.hid (fun e9 => Bool.noConfusion e9), Lib.hid ⟨HLT281.out, by have := HRM.out; have := HRL.out; have := HF204.out; have := HLT281.out; (try simp only [ptsS, ptS, noneT, ptsS_append, Nat.add_zero, Nat.zero_add]); omega⟩⟩
        case measure => have h5 := HK262.out; rw [List.length_append, List.length_singleton] at h5; have := HKR.out; have h8 := ptsS_len acc; have := HRL.out; simp [sliceLen]; omega
       | false =>
        rw [hcm, Bool.false_or] at hr
        have HC304 := Lib.hid (got_no HS259.out.pa HF204.out.1 ⟨#[44]⟩ hcm)
        clear hcm
        have HR := Lib.hid hr
        clear hr
        go_wp2_with fail
        clear x268 x269 x270 x271 x272 xl273 x274 x275 x276 x277 x278 xl279
        refine HC304.out.mono ?_
        rintro e w302 ⟨rfl, h1, h2⟩
        have HS303 := Lib.hid (HS259.out.below h2)
        have HX305 := Lib.hid (below_blk h2 HX264.out)
        have HA306 := Lib.hid (HA265.out.on h2.size)
        have HX307 := Lib.hid (below_blk h2 HX266.out)
        have HA308 := Lib.hid (HA267.out.on h2.size)
        have HV309 := Lib.hid (HV280.out.to (PaTo.of_below HS259.out.pa h2))
        clear h2 h1
        have x310 := cell_of_blk (i := 0) HX305.out rfl
        have x311 := cell_of_blk (i := 1) HX305.out rfl
        have x312 := cell_of_blk (i := 2) HX305.out rfl
        have x313 := cell_of_blk (i := 3) HX305.out rfl
        have x314 := cell_of_blk (i := 4) HX305.out rfl
        have xl315 := blk_lt HX305.out
        have x316 := cell_of_blk (i := 0) HX307.out rfl
        have x317 := cell_of_blk (i := 1) HX307.out rfl
        have x318 := cell_of_blk (i := 2) HX307.out rfl
        have x319 := cell_of_blk (i := 3) HX307.out rfl
        have x320 := cell_of_blk (i := 4) HX307.out rfl
        have xl321 := blk_lt HX307.out
        have hr := HR.out
        clear HR
        cases hb : isAny (tk K.T j202) [⟨#[59]⟩] with
        | true =>
         rw [if_pos hb] at hr
         have HLT322 := Lib.hid (any_lt HTK.out HF204.out.1 hb)
         have HC325 := Lib.hid (got_yes HS303.out.pa HF204.out.1 ⟨#[59]⟩ hb)
         clear hb
         have HR := Lib.hid hr
         clear hr
         go_wp2_with fail
         clear x310 x311 x312 x313 x314 xl315 x316 x317 x318 x319 x320 xl321
         refine HC325.out.mono ?_
         rintro e w323 ⟨rfl, h1, h2⟩
         have HS324 := Lib.hid (HS303.out.step h1 h2)
         have HX326 := Lib.hid (Away.blkTo HX305.out HA306.out h2)
         have HA327 := Lib.hid (HA306.out.to h2)
         have HX328 := Lib.hid (Away.blkTo HX307.out HA308.out h2)
         have HA329 := Lib.hid (HA308.out.to h2)
         have HV330 := Lib.hid (HV309.out.to h2)
         clear h1 h2
         have x331 := cell_of_blk (i := 0) HX326.out rfl
         have x332 := cell_of_blk (i := 1) HX326.out rfl
         have x333 := cell_of_blk (i := 2) HX326.out rfl
         have x334 := cell_of_blk (i := 3) HX326.out rfl
         have x335 := cell_of_blk (i := 4) HX326.out rfl
         have xl336 := blk_lt HX326.out
         have x337 := cell_of_blk (i := 0) HX328.out rfl
         have x338 := cell_of_blk (i := 1) HX328.out rfl
         have x339 := cell_of_blk (i := 2) HX328.out rfl
         have x340 := cell_of_blk (i := 3) HX328.out rfl
         have x341 := cell_of_blk (i := 4) HX328.out rfl
         have xl342 := blk_lt HX328.out
         have hr := HR.out
         clear HR
         have HRF := Lib.hid hr
         clear hr
         go_wp2_with fail
         clear x331 x332 x333 x334 x335 xl336 x337 x338 x339 x340 x341 xl342
         go_roundw
         case rel => exact ⟨_, true, (j202 + 1), fp232, f, rfl, HS324, HV330, HGO258, Lib.hid (fun _ => ⟨by have := HLE.out; omega, HRF.out⟩), Lib.hid (fun e9 => Bool.noConfusion e9), Lib.hid ⟨HLT322.out, by have := HRM.out; have := HRL.out; have := HF204.out; have := HLT322.out; (try simp only [ptsS, ptS, noneT, ptsS_append, Nat.add_zero, Nat.zero_add]); omega⟩⟩
         case measure => have h5 := HK262.out; rw [List.length_append, List.length_singleton] at h5; have := HKR.out; have h8 := ptsS_len acc; have := HRL.out; simp [sliceLen]; omega
        | false =>
         rw [if_neg (by rw [hb]; decide)] at hr
         have HC345 := Lib.hid (got_no HS303.out.pa HF204.out.1 ⟨#[59]⟩ hb)
         clear hb
         have HR := Lib.hid hr
         clear hr
         go_wp2_with fail
         clear x310 x311 x312 x313 x314 xl315 x316 x317 x318 x319 x320 xl321
         refine HC345.out.mono ?_
         rintro e w343 ⟨rfl, h1, h2⟩
         have HS344 := Lib.hid (HS303.out.below h2)
         have HX346 := Lib.hid (below_blk h2 HX305.out)
         have HA347 := Lib.hid (HA306.out.on h2.size)
         have HX348 := Lib.hid (below_blk h2 HX307.out)
         have HA349 := Lib.hid (HA308.out.on h2.size)
         have HV350 := Lib.hid (HV309.out.to (PaTo.of_below HS303.out.pa h2))
         clear h2 h1
         have x351 := cell_of_blk (i := 0) HX346.out rfl
         have x352 := cell_of_blk (i := 1) HX346.out rfl
         have x353 := cell_of_blk (i := 2) HX346.out rfl
         have x354 := cell_of_blk (i := 3) HX346.out rfl
         have x355 := cell_of_blk (i := 4) HX346.out rfl
         have xl356 := blk_lt HX346.out
         have x357 := cell_of_blk (i := 0) HX348.out rfl
         have x358 := cell_of_blk (i := 1) HX348.out rfl
         have x359 := cell_of_blk (i := 2) HX348.out rfl
         have x360 := cell_of_blk (i := 3) HX348.out rfl
         have x361 := cell_of_blk (i := 4) HX348.out rfl
         have xl362 := blk_lt HX348.out
         have hr := HR.out
         clear HR
         have HRF := Lib.hid hr
         clear hr
         go_wp2_with fail
         clear x351 x352 x353 x354 x355 xl356 x357 x358 x359 x360 x361 xl362
         go_roundw
         case rel => exact ⟨_, false, j202, fp232, f, rfl, HS344, HV350, HGO258, Lib.hid (fun e9 => Bool.noConfusion e9), Lib.hid (fun _ => (Option.some.inj HRF.out).symm), Lib.hid ⟨HF204.out.1, by have := HRM.out; have := HRL.out; have := HF204.out; (try simp only [ptsS, ptS, noneT, ptsS_append, Nat.add_zero, Nat.zero_add]); omega⟩⟩
         case measure => have h5 := HK262.out; rw [List.length_append, List.length_singleton] at h5; have := HKR.out; have h8 := ptsS_len acc; have := HRL.out; simp [sliceLen]; omega
     | true =>
     have HQ2 := Lib.hid (HQ.out.2 (tk_lt HTK.out HRL.out.1 (by rw [beq_iff_eq.1 b1]; decide)))
     have HLT2 := Lib.hid (tk_lt HTK.out HRL.out.1 (by rw [beq_iff_eq.1 b1]; decide))
     cases b5 : ((tk K.T q).kind == 5) with
     | false =>
      rw [if_neg (fun e9 => absurd e9.2.1 (by rw [← HQ2.out]; exact beq_eq_false_iff_ne.1 b5))] at hr
      obtain ⟨X, hX⟩ : ∃ X, (parF K.T f).one (.exp) o i1 = X := ⟨_, rfl⟩
      rw [hX] at hr
      cases X with
      | none => exact absurd hr (by simp [Res.then])
      | some X =>
      cases X with
      | bad a n =>
       have HRR365 := Lib.hid (show Res.bad a n = r from (by dsimp only [Res.then] at hr; have h1 := Option.some.inj hr; have h2 := HRT.out; rw [← h1] at h2; dsimp only [Res.then] at h2; exact Option.some.inj h2))
       have HC368 := Lib.hid (call_bad ((HAP.out f (Nat.le_refl f)).exp) HS183.out HB.out ⟨HRL.out.1, by have := HRM.out; have := HRL.out; (try simp only [ptsS, ptS, noneT, ptsS_append, Nat.add_zero, Nat.zero_add]); omega⟩ HO.out hX)
       clear hr hX
       go_wp2_with fail
       refine HC368.out.mono ?_
       rintro e wb ⟨rfl, hb⟩
       have HB367 := Lib.hid hb
       clear hb
       unfold wrongP
       go_wp2
       exact ⟨rfl, by rw [← HRR365.out]; exact ⟨rfl, HB367.out⟩⟩
      | ok t363 j364 =>
       have hft := (fit_all HTK.out f).one (.exp) o i1 HRL.out.1
       rw [hX] at hft
       obtain ⟨f1, f2, f3⟩ := hft
       simp only [lazy1, sl1, ex1, Bool.false_eq_true, if_false, if_true] at f2 f3
       have HF366 := Lib.hid (And.intro f1 (And.intro f2 f3))
       clear f1 f2 f3
       have HC372 := Lib.hid (call_ok ((HAP.out f (Nat.le_refl f)).exp) HS183.out ⟨HRL.out.1, by have := HRM.out; have := HRL.out; (try simp only [ptsS, ptS, noneT, ptsS_append, Nat.add_zero, Nat.zero_add]); omega⟩ HO.out hX)
       dsimp only [Res.then] at hr
       clear hX
       have HR := Lib.hid hr
       clear hr
       go_wp2_with fail
       clear x189 x190 x191 x192 x193 xl194 x195 x196 x197 x198 x199 xl200
       refine HC372.out.mono ?_
       rintro e w369 ⟨rfl, fp370, h1, h2⟩
       obtain ⟨n373, hn⟩ : ∃ n, n = nr ns acc t363 := ⟨_, rfl⟩
       rw [← hn]
       have HN374 := Lib.hid hn
       have HS371 := Lib.hid (show St K w p j364 o sn ns fp (acc ++ [t363]) w369 fp370 from h1)
       have HX375 := Lib.hid (Away.blkTo HX184.out HA185.out h2)
       have HA376 := Lib.hid (HA185.out.to h2)
       have HX377 := Lib.hid (Away.blkTo HX186.out HA187.out h2)
       have HA378 := Lib.hid (HA187.out.to h2)
       have HV379 := Lib.hid (HV188.out.to h2)
       clear h1 h2 hn
       have x380 := cell_of_blk (i := 0) HX375.out rfl
       have x381 := cell_of_blk (i := 1) HX375.out rfl
       have x382 := cell_of_blk (i := 2) HX375.out rfl
       have x383 := cell_of_blk (i := 3) HX375.out rfl
       have x384 := cell_of_blk (i := 4) HX375.out rfl
       have xl385 := blk_lt HX375.out
       have x386 := cell_of_blk (i := 0) HX377.out rfl
       have x387 := cell_of_blk (i := 1) HX377.out rfl
       have x388 := cell_of_blk (i := 2) HX377.out rfl
       have x389 := cell_of_blk (i := 3) HX377.out rfl
       have x390 := cell_of_blk (i := 4) HX377.out rfl
       have xl391 := blk_lt HX377.out
       have hr := HR.out
       clear HR
       have HC392 := Lib.hid (show ∀ W, W = w369.alloc (.cells #[natV n373] 3) → Calls Tryz.prog 23 #[.pointer (some ⟨p, 0, none⟩), .int .i64 26, .string ⟨#[]⟩, natV (tk K.T i1).a, .slice (some ⟨w369.heap.size, 0, none⟩) 1 1] W (OneOk K w p o sn ns fp acc W fp370 (PT.mk 26 ⟨#[]⟩ (tk K.T i1).a [t363]) j364) from fun W hW => by
        subst hW
        exact lay_mid (L1 := acc) (L2 := [t363]) (HS371.out.below ((Below.refl _ _).alloc (Nat.le_refl _) _)) (by have h7 := (show ns.length + ptsS (acc ++ [t363]) + 4 * (K.T.length - j364) ≤ 900000 from by have := HRM.out; have := HRL.out; have := HF366.out; (try simp only [ptsS, ptS, noneT, ptsS_append, Nat.add_zero, Nat.zero_add]); omega); omega) (by simp) 26 ⟨#[]⟩ (tk K.T i1).a (KidsV.new w369 (n373) [] _ rfl) (by simp only [HN374.out, nr, roots, ptsS, Nat.add_zero, Nat.add_assoc]))
       have HR := Lib.hid hr
       clear hr
       try unfold natV
       go_wp2_with fail
       clear x380 x381 x382 x383 x384 xl385 x386 x387 x388 x389 x390 xl391
       refine (HC392.out _ rfl).mono ?_
       rintro e w393 ⟨rfl, fp394, h1, h2⟩
       obtain ⟨n396, hn⟩ : ∃ n, n = nr ns acc (PT.mk 26 ⟨#[]⟩ (tk K.T i1).a [t363]) := ⟨_, rfl⟩
       rw [← hn]
       have HN397 := Lib.hid hn
       have HS395 := Lib.hid (show St K w p j364 o sn ns fp (acc ++ [(PT.mk 26 ⟨#[]⟩ (tk K.T i1).a [t363])]) w393 fp394 from h1)
       have HBL398 : PaTo w369 fp370 w393 fp394 := (PaTo.of_below HS371.out.pa ((Below.refl _ _).alloc (Nat.le_refl _) _)).trans h2
       have HX399 := Lib.hid (Away.blkTo HX375.out HA376.out HBL398)
       have HA400 := Lib.hid (HA376.out.to HBL398)
       have HX401 := Lib.hid (Away.blkTo HX377.out HA378.out HBL398)
       have HA402 := Lib.hid (HA378.out.to HBL398)
       have HV403 := Lib.hid (HV379.out.to HBL398)
       clear h1 h2 hn HBL398
       have x404 := cell_of_blk (i := 0) HX399.out rfl
       have x405 := cell_of_blk (i := 1) HX399.out rfl
       have x406 := cell_of_blk (i := 2) HX399.out rfl
       have x407 := cell_of_blk (i := 3) HX399.out rfl
       have x408 := cell_of_blk (i := 4) HX399.out rfl
       have xl409 := blk_lt HX399.out
       have x410 := cell_of_blk (i := 0) HX401.out rfl
       have x411 := cell_of_blk (i := 1) HX401.out rfl
       have x412 := cell_of_blk (i := 2) HX401.out rfl
       have x413 := cell_of_blk (i := 3) HX401.out rfl
       have x414 := cell_of_blk (i := 4) HX401.out rfl
       have xl415 := blk_lt HX401.out
       have hr := HR.out
       clear HR
       have HKB425 := Lib.hid (show rl ≤ 900000 by have h9 := HKR.out; have h8 := ptsS_len acc; have h7 := (show ns.length + ptsS (acc ++ [(PT.mk 26 ⟨#[]⟩ (tk K.T i1).a [t363])]) + 4 * (K.T.length - j364) ≤ 900000 from by have := HRM.out; have := HRL.out; have := HF366.out; (try simp only [ptsS, ptS, noneT, ptsS_append, Nat.add_zero, Nat.zero_add]); omega); (try simp only [ptsS_append, List.length_append] at h7 h8 h9); omega)
       try unfold natV
       have HR := Lib.hid hr
       clear hr
       go_wp2_with (at_builtin; (refine wpList_push (n := n396) rfl _ _ rfl HS395.out HV403.out (by rw [roots_len]; exact HKR.out) HKB425.out (B := w.heap.size) (Nat.le_refl _) HS395.out.pt.fr.size HGR.out rfl rfl rfl ?_); intro g416 cap417 w418 h1 h2 h3 h4; clear x404 x405 x406 x407 x408 xl409 x410 x411 x412 x413 x414 xl415; have HS421 := Lib.hid h1; have HV419 := Lib.hid h2; have HGO420 := Lib.hid h3; have HX426 := Lib.hid (h4.blk HX399.out (.inl (by decide))); have HA427 := Lib.hid (HA400.out.on h4.size); have HX428 := Lib.hid (h4.blk HX401.out (.inl (by decide))); have HA429 := Lib.hid (HA402.out.on h4.size); have x430 := cell_of_blk (i := 0) HX426.out rfl; have x431 := cell_of_blk (i := 1) HX426.out rfl; have x432 := cell_of_blk (i := 2) HX426.out rfl; have x433 := cell_of_blk (i := 3) HX426.out rfl; have x434 := cell_of_blk (i := 4) HX426.out rfl; have xl435 := blk_lt HX426.out; have x436 := cell_of_blk (i := 0) HX428.out rfl; have x437 := cell_of_blk (i := 1) HX428.out rfl; have x438 := cell_of_blk (i := 2) HX428.out rfl; have x439 := cell_of_blk (i := 3) HX428.out rfl; have x440 := cell_of_blk (i := 4) HX428.out rfl; have xl441 := blk_lt HX428.out; clear h1 h2 h3 h4)
       obtain ⟨k423, hk2⟩ : ∃ k, k = rl + 1 := ⟨_, rfl⟩
       have HK424 := Lib.hid (show k423 = (acc ++ [(PT.mk 26 ⟨#[]⟩ (tk K.T i1).a [t363])]).length by rw [hk2, HKR.out]; simp)
       have HV442 := Lib.hid (show Ints w418 p fp394 (.slice (some ⟨g416, 0, none⟩) k423 cap417) (roots ns.length (acc ++ [(PT.mk 26 ⟨#[]⟩ (tk K.T i1).a [t363])])) by rw [roots_more, ← HN397.out, hk2]; exact HV419.out)
       rw [← hk2] at HGO420
       try rw [← hk2]
       clear hk2
       have hr := HR.out
       clear HR
       cases hcm : isAny (tk K.T j364) [⟨#[44]⟩] with
       | true =>
        rw [hcm, Bool.true_or, if_pos rfl] at hr
        have HLT443 := Lib.hid (any_lt HTK.out HF366.out.1 hcm)
        have HC446 := Lib.hid (got_yes HS421.out.pa HF366.out.1 ⟨#[44]⟩ hcm)
        clear hcm
        have HR := Lib.hid hr
        clear hr
        go_wp2_with fail
        clear x430 x431 x432 x433 x434 xl435 x436 x437 x438 x439 x440 xl441
        refine HC446.out.mono ?_
        rintro e w444 ⟨rfl, h1, h2⟩
        have HS445 := Lib.hid (HS421.out.step h1 h2)
        have HX447 := Lib.hid (Away.blkTo HX426.out HA427.out h2)
        have HA448 := Lib.hid (HA427.out.to h2)
        have HX449 := Lib.hid (Away.blkTo HX428.out HA429.out h2)
        have HA450 := Lib.hid (HA429.out.to h2)
        have HV451 := Lib.hid (HV442.out.to h2)
        clear h1 h2
        have x452 := cell_of_blk (i := 0) HX447.out rfl
        have x453 := cell_of_blk (i := 1) HX447.out rfl
        have x454 := cell_of_blk (i := 2) HX447.out rfl
        have x455 := cell_of_blk (i := 3) HX447.out rfl
        have x456 := cell_of_blk (i := 4) HX447.out rfl
        have xl457 := blk_lt HX447.out
        have x458 := cell_of_blk (i := 0) HX449.out rfl
        have x459 := cell_of_blk (i := 1) HX449.out rfl
        have x460 := cell_of_blk (i := 2) HX449.out rfl
        have x461 := cell_of_blk (i := 3) HX449.out rfl
        have x462 := cell_of_blk (i := 4) HX449.out rfl
        have xl463 := blk_lt HX449.out
        have hr := HR.out
        clear HR
        have HRF := Lib.hid hr
        clear hr
        go_wp2_with fail
        clear x452 x453 x454 x455 x456 xl457 x458 x459 x460 x461 x462 xl463
        go_roundw
        case rel => exact ⟨_, true, (j364 + 1), fp394, f, rfl, HS445, HV451, HGO420, Lib.hid (fun _ => ⟨by have := HLE.out; omega, HRF.out⟩), Lib.hid (fun e9 => Bool.noConfusion e9), Lib.hid ⟨HLT443.out, by have := HRM.out; have := HRL.out; have := HF366.out; have := HLT443.out; (try simp only [ptsS, ptS, noneT, ptsS_append, Nat.add_zero, Nat.zero_add]); omega⟩⟩
        case measure => have h5 := HK424.out; rw [List.length_append, List.length_singleton] at h5; have := HKR.out; have h8 := ptsS_len acc; have := HRL.out; simp [sliceLen]; omega
       | false =>
        rw [hcm, Bool.false_or] at hr
        have HC466 := Lib.hid (got_no HS421.out.pa HF366.out.1 ⟨#[44]⟩ hcm)
        clear hcm
        have HR := Lib.hid hr
        clear hr
        go_wp2_with fail
        clear x430 x431 x432 x433 x434 xl435 x436 x437 x438 x439 x440 xl441
        refine HC466.out.mono ?_
        rintro e w464 ⟨rfl, h1, h2⟩
        have HS465 := Lib.hid (HS421.out.below h2)
        have HX467 := Lib.hid (below_blk h2 HX426.out)
        have HA468 := Lib.hid (HA427.out.on h2.size)
        have HX469 := Lib.hid (below_blk h2 HX428.out)
        have HA470 := Lib.hid (HA429.out.on h2.size)
        have HV471 := Lib.hid (HV442.out.to (PaTo.of_below HS421.out.pa h2))
        clear h2 h1
        have x472 := cell_of_blk (i := 0) HX467.out rfl
        have x473 := cell_of_blk (i := 1) HX467.out rfl
        have x474 := cell_of_blk (i := 2) HX467.out rfl
        have x475 := cell_of_blk (i := 3) HX467.out rfl
        have x476 := cell_of_blk (i := 4) HX467.out rfl
        have xl477 := blk_lt HX467.out
        have x478 := cell_of_blk (i := 0) HX469.out rfl
        have x479 := cell_of_blk (i := 1) HX469.out rfl
        have x480 := cell_of_blk (i := 2) HX469.out rfl
        have x481 := cell_of_blk (i := 3) HX469.out rfl
        have x482 := cell_of_blk (i := 4) HX469.out rfl
        have xl483 := blk_lt HX469.out
        have hr := HR.out
        clear HR
        cases hb : isAny (tk K.T j364) [⟨#[59]⟩] with
        | true =>
         rw [if_pos hb] at hr
         have HLT484 := Lib.hid (any_lt HTK.out HF366.out.1 hb)
         have HC487 := Lib.hid (got_yes HS465.out.pa HF366.out.1 ⟨#[59]⟩ hb)
         clear hb
         have HR := Lib.hid hr
         clear hr
         go_wp2_with fail
         clear x472 x473 x474 x475 x476 xl477 x478 x479 x480 x481 x482 xl483
         refine HC487.out.mono ?_
         rintro e w485 ⟨rfl, h1, h2⟩
         have HS486 := Lib.hid (HS465.out.step h1 h2)
         have HX488 := Lib.hid (Away.blkTo HX467.out HA468.out h2)
         have HA489 := Lib.hid (HA468.out.to h2)
         have HX490 := Lib.hid (Away.blkTo HX469.out HA470.out h2)
         have HA491 := Lib.hid (HA470.out.to h2)
         have HV492 := Lib.hid (HV471.out.to h2)
         clear h1 h2
         have x493 := cell_of_blk (i := 0) HX488.out rfl
         have x494 := cell_of_blk (i := 1) HX488.out rfl
         have x495 := cell_of_blk (i := 2) HX488.out rfl
         have x496 := cell_of_blk (i := 3) HX488.out rfl
         have x497 := cell_of_blk (i := 4) HX488.out rfl
         have xl498 := blk_lt HX488.out
         have x499 := cell_of_blk (i := 0) HX490.out rfl
         have x500 := cell_of_blk (i := 1) HX490.out rfl
         have x501 := cell_of_blk (i := 2) HX490.out rfl
         have x502 := cell_of_blk (i := 3) HX490.out rfl
         have x503 := cell_of_blk (i := 4) HX490.out rfl
         have xl504 := blk_lt HX490.out
         have hr := HR.out
         clear HR
         have HRF := Lib.hid hr
         clear hr
         go_wp2_with fail
         clear x493 x494 x495 x496 x497 xl498 x499 x500 x501 x502 x503 xl504
         go_roundw
         case rel => exact ⟨_, true, (j364 + 1), fp394, f, rfl, HS486, HV492, HGO420, Lib.hid (fun _ => ⟨by have := HLE.out; omega, HRF.out⟩), Lib.hid (fun e9 => Bool.noConfusion e9), Lib.hid ⟨HLT484.out, by have := HRM.out; have := HRL.out; have := HF366.out; have := HLT484.out; (try simp only [ptsS, ptS, noneT, ptsS_append, Nat.add_zero, Nat.zero_add]); omega⟩⟩
         case measure => have h5 := HK424.out; rw [List.length_append, List.length_singleton] at h5; have := HKR.out; have h8 := ptsS_len acc; have := HRL.out; simp [sliceLen]; omega
        | false =>
         rw [if_neg (by rw [hb]; decide)] at hr
         have HC507 := Lib.hid (got_no HS465.out.pa HF366.out.1 ⟨#[59]⟩ hb)
         clear hb
         have HR := Lib.hid hr
         clear hr
         go_wp2_with fail
         clear x472 x473 x474 x475 x476 xl477 x478 x479 x480 x481 x482 xl483
         refine HC507.out.mono ?_
         rintro e w505 ⟨rfl, h1, h2⟩
         have HS506 := Lib.hid (HS465.out.below h2)
         have HX508 := Lib.hid (below_blk h2 HX467.out)
         have HA509 := Lib.hid (HA468.out.on h2.size)
         have HX510 := Lib.hid (below_blk h2 HX469.out)
         have HA511 := Lib.hid (HA470.out.on h2.size)
         have HV512 := Lib.hid (HV471.out.to (PaTo.of_below HS465.out.pa h2))
         clear h2 h1
         have x513 := cell_of_blk (i := 0) HX508.out rfl
         have x514 := cell_of_blk (i := 1) HX508.out rfl
         have x515 := cell_of_blk (i := 2) HX508.out rfl
         have x516 := cell_of_blk (i := 3) HX508.out rfl
         have x517 := cell_of_blk (i := 4) HX508.out rfl
         have xl518 := blk_lt HX508.out
         have x519 := cell_of_blk (i := 0) HX510.out rfl
         have x520 := cell_of_blk (i := 1) HX510.out rfl
         have x521 := cell_of_blk (i := 2) HX510.out rfl
         have x522 := cell_of_blk (i := 3) HX510.out rfl
         have x523 := cell_of_blk (i := 4) HX510.out rfl
         have xl524 := blk_lt HX510.out
         have hr := HR.out
         clear HR
         have HRF := Lib.hid hr
         clear hr
         go_wp2_with fail
         clear x513 x514 x515 x516 x517 xl518 x519 x520 x521 x522 x523 xl524
         go_roundw
         case rel => exact ⟨_, false, j364, fp394, f, rfl, HS506, HV512, HGO420, Lib.hid (fun e9 => Bool.noConfusion e9), Lib.hid (fun _ => (Option.some.inj HRF.out).symm), Lib.hid ⟨HF366.out.1, by have := HRM.out; have := HRL.out; have := HF366.out; (try simp only [ptsS, ptS, noneT, ptsS_append, Nat.add_zero, Nat.zero_add]); omega⟩⟩
         case measure => have h5 := HK424.out; rw [List.length_append, List.length_singleton] at h5; have := HKR.out; have h8 := ptsS_len acc; have := HRL.out; simp [sliceLen]; omega
     | true =>
     cases bt : ((tk K.T q).text.toList == [61]) with
     | false =>
      rw [if_neg (fun e9 => absurd e9.2.2 (by rw [← HQ2.out]; exact neB bt))] at hr
      obtain ⟨X, hX⟩ : ∃ X, (parF K.T f).one (.exp) o i1 = X := ⟨_, rfl⟩
      rw [hX] at hr
      cases X with
      | none => exact absurd hr (by simp [Res.then])
      | some X =>
      cases X with
      | bad a n =>
       have HRR527 := Lib.hid (show Res.bad a n = r from (by dsimp only [Res.then] at hr; have h1 := Option.some.inj hr; have h2 := HRT.out; rw [← h1] at h2; dsimp only [Res.then] at h2; exact Option.some.inj h2))
       have HC530 := Lib.hid (call_bad ((HAP.out f (Nat.le_refl f)).exp) HS183.out HB.out ⟨HRL.out.1, by have := HRM.out; have := HRL.out; (try simp only [ptsS, ptS, noneT, ptsS_append, Nat.add_zero, Nat.zero_add]); omega⟩ HO.out hX)
       clear hr hX
       go_wp2_with fail
       refine HC530.out.mono ?_
       rintro e wb ⟨rfl, hb⟩
       have HB529 := Lib.hid hb
       clear hb
       unfold wrongP
       go_wp2
       exact ⟨rfl, by rw [← HRR527.out]; exact ⟨rfl, HB529.out⟩⟩
      | ok t525 j526 =>
       have hft := (fit_all HTK.out f).one (.exp) o i1 HRL.out.1
       rw [hX] at hft
       obtain ⟨f1, f2, f3⟩ := hft
       simp only [lazy1, sl1, ex1, Bool.false_eq_true, if_false, if_true] at f2 f3
       have HF528 := Lib.hid (And.intro f1 (And.intro f2 f3))
       clear f1 f2 f3
       have HC534 := Lib.hid (call_ok ((HAP.out f (Nat.le_refl f)).exp) HS183.out ⟨HRL.out.1, by have := HRM.out; have := HRL.out; (try simp only [ptsS, ptS, noneT, ptsS_append, Nat.add_zero, Nat.zero_add]); omega⟩ HO.out hX)
       dsimp only [Res.then] at hr
       clear hX
       have HR := Lib.hid hr
       clear hr
       go_wp2_with fail
       clear x189 x190 x191 x192 x193 xl194 x195 x196 x197 x198 x199 xl200
       refine HC534.out.mono ?_
       rintro e w531 ⟨rfl, fp532, h1, h2⟩
       obtain ⟨n535, hn⟩ : ∃ n, n = nr ns acc t525 := ⟨_, rfl⟩
       rw [← hn]
       have HN536 := Lib.hid hn
       have HS533 := Lib.hid (show St K w p j526 o sn ns fp (acc ++ [t525]) w531 fp532 from h1)
       have HX537 := Lib.hid (Away.blkTo HX184.out HA185.out h2)
       have HA538 := Lib.hid (HA185.out.to h2)
       have HX539 := Lib.hid (Away.blkTo HX186.out HA187.out h2)
       have HA540 := Lib.hid (HA187.out.to h2)
       have HV541 := Lib.hid (HV188.out.to h2)
       clear h1 h2 hn
       have x542 := cell_of_blk (i := 0) HX537.out rfl
       have x543 := cell_of_blk (i := 1) HX537.out rfl
       have x544 := cell_of_blk (i := 2) HX537.out rfl
       have x545 := cell_of_blk (i := 3) HX537.out rfl
       have x546 := cell_of_blk (i := 4) HX537.out rfl
       have xl547 := blk_lt HX537.out
       have x548 := cell_of_blk (i := 0) HX539.out rfl
       have x549 := cell_of_blk (i := 1) HX539.out rfl
       have x550 := cell_of_blk (i := 2) HX539.out rfl
       have x551 := cell_of_blk (i := 3) HX539.out rfl
       have x552 := cell_of_blk (i := 4) HX539.out rfl
       have xl553 := blk_lt HX539.out
       have hr := HR.out
       clear HR
       have HC554 := Lib.hid (show ∀ W, W = w531.alloc (.cells #[natV n535] 3) → Calls Tryz.prog 23 #[.pointer (some ⟨p, 0, none⟩), .int .i64 26, .string ⟨#[]⟩, natV (tk K.T i1).a, .slice (some ⟨w531.heap.size, 0, none⟩) 1 1] W (OneOk K w p o sn ns fp acc W fp532 (PT.mk 26 ⟨#[]⟩ (tk K.T i1).a [t525]) j526) from fun W hW => by
        subst hW
        exact lay_mid (L1 := acc) (L2 := [t525]) (HS533.out.below ((Below.refl _ _).alloc (Nat.le_refl _) _)) (by have h7 := (show ns.length + ptsS (acc ++ [t525]) + 4 * (K.T.length - j526) ≤ 900000 from by have := HRM.out; have := HRL.out; have := HF528.out; (try simp only [ptsS, ptS, noneT, ptsS_append, Nat.add_zero, Nat.zero_add]); omega); omega) (by simp) 26 ⟨#[]⟩ (tk K.T i1).a (KidsV.new w531 (n535) [] _ rfl) (by simp only [HN536.out, nr, roots, ptsS, Nat.add_zero, Nat.add_assoc]))
       have HR := Lib.hid hr
       clear hr
       try unfold natV
       go_wp2_with fail
       clear x542 x543 x544 x545 x546 xl547 x548 x549 x550 x551 x552 xl553
       refine (HC554.out _ rfl).mono ?_
       rintro e w555 ⟨rfl, fp556, h1, h2⟩
       obtain ⟨n558, hn⟩ : ∃ n, n = nr ns acc (PT.mk 26 ⟨#[]⟩ (tk K.T i1).a [t525]) := ⟨_, rfl⟩
       rw [← hn]
       have HN559 := Lib.hid hn
       have HS557 := Lib.hid (show St K w p j526 o sn ns fp (acc ++ [(PT.mk 26 ⟨#[]⟩ (tk K.T i1).a [t525])]) w555 fp556 from h1)
       have HBL560 : PaTo w531 fp532 w555 fp556 := (PaTo.of_below HS533.out.pa ((Below.refl _ _).alloc (Nat.le_refl _) _)).trans h2
       have HX561 := Lib.hid (Away.blkTo HX537.out HA538.out HBL560)
       have HA562 := Lib.hid (HA538.out.to HBL560)
       have HX563 := Lib.hid (Away.blkTo HX539.out HA540.out HBL560)
       have HA564 := Lib.hid (HA540.out.to HBL560)
       have HV565 := Lib.hid (HV541.out.to HBL560)
       clear h1 h2 hn HBL560
       have x566 := cell_of_blk (i := 0) HX561.out rfl
       have x567 := cell_of_blk (i := 1) HX561.out rfl
       have x568 := cell_of_blk (i := 2) HX561.out rfl
       have x569 := cell_of_blk (i := 3) HX561.out rfl
       have x570 := cell_of_blk (i := 4) HX561.out rfl
       have xl571 := blk_lt HX561.out
       have x572 := cell_of_blk (i := 0) HX563.out rfl
       have x573 := cell_of_blk (i := 1) HX563.out rfl
       have x574 := cell_of_blk (i := 2) HX563.out rfl
       have x575 := cell_of_blk (i := 3) HX563.out rfl
       have x576 := cell_of_blk (i := 4) HX563.out rfl
       have xl577 := blk_lt HX563.out
       have hr := HR.out
       clear HR
       have HKB587 := Lib.hid (show rl ≤ 900000 by have h9 := HKR.out; have h8 := ptsS_len acc; have h7 := (show ns.length + ptsS (acc ++ [(PT.mk 26 ⟨#[]⟩ (tk K.T i1).a [t525])]) + 4 * (K.T.length - j526) ≤ 900000 from by have := HRM.out; have := HRL.out; have := HF528.out; (try simp only [ptsS, ptS, noneT, ptsS_append, Nat.add_zero, Nat.zero_add]); omega); (try simp only [ptsS_append, List.length_append] at h7 h8 h9); omega)
       try unfold natV
       have HR := Lib.hid hr
       clear hr
       go_wp2_with (at_builtin; (refine wpList_push (n := n558) rfl _ _ rfl HS557.out HV565.out (by rw [roots_len]; exact HKR.out) HKB587.out (B := w.heap.size) (Nat.le_refl _) HS557.out.pt.fr.size HGR.out rfl rfl rfl ?_); intro g578 cap579 w580 h1 h2 h3 h4; clear x566 x567 x568 x569 x570 xl571 x572 x573 x574 x575 x576 xl577; have HS583 := Lib.hid h1; have HV581 := Lib.hid h2; have HGO582 := Lib.hid h3; have HX588 := Lib.hid (h4.blk HX561.out (.inl (by decide))); have HA589 := Lib.hid (HA562.out.on h4.size); have HX590 := Lib.hid (h4.blk HX563.out (.inl (by decide))); have HA591 := Lib.hid (HA564.out.on h4.size); have x592 := cell_of_blk (i := 0) HX588.out rfl; have x593 := cell_of_blk (i := 1) HX588.out rfl; have x594 := cell_of_blk (i := 2) HX588.out rfl; have x595 := cell_of_blk (i := 3) HX588.out rfl; have x596 := cell_of_blk (i := 4) HX588.out rfl; have xl597 := blk_lt HX588.out; have x598 := cell_of_blk (i := 0) HX590.out rfl; have x599 := cell_of_blk (i := 1) HX590.out rfl; have x600 := cell_of_blk (i := 2) HX590.out rfl; have x601 := cell_of_blk (i := 3) HX590.out rfl; have x602 := cell_of_blk (i := 4) HX590.out rfl; have xl603 := blk_lt HX590.out; clear h1 h2 h3 h4)
       obtain ⟨k585, hk2⟩ : ∃ k, k = rl + 1 := ⟨_, rfl⟩
       have HK586 := Lib.hid (show k585 = (acc ++ [(PT.mk 26 ⟨#[]⟩ (tk K.T i1).a [t525])]).length by rw [hk2, HKR.out]; simp)
       have HV604 := Lib.hid (show Ints w580 p fp556 (.slice (some ⟨g578, 0, none⟩) k585 cap579) (roots ns.length (acc ++ [(PT.mk 26 ⟨#[]⟩ (tk K.T i1).a [t525])])) by rw [roots_more, ← HN559.out, hk2]; exact HV581.out)
       rw [← hk2] at HGO582
       try rw [← hk2]
       clear hk2
       have hr := HR.out
       clear HR
       cases hcm : isAny (tk K.T j526) [⟨#[44]⟩] with
       | true =>
        rw [hcm, Bool.true_or, if_pos rfl] at hr
        have HLT605 := Lib.hid (any_lt HTK.out HF528.out.1 hcm)
        have HC608 := Lib.hid (got_yes HS583.out.pa HF528.out.1 ⟨#[44]⟩ hcm)
        clear hcm
        have HR := Lib.hid hr
        clear hr
        go_wp2_with fail
        clear x592 x593 x594 x595 x596 xl597 x598 x599 x600 x601 x602 xl603
        refine HC608.out.mono ?_
        rintro e w606 ⟨rfl, h1, h2⟩
        have HS607 := Lib.hid (HS583.out.step h1 h2)
        have HX609 := Lib.hid (Away.blkTo HX588.out HA589.out h2)
        have HA610 := Lib.hid (HA589.out.to h2)
        have HX611 := Lib.hid (Away.blkTo HX590.out HA591.out h2)
        have HA612 := Lib.hid (HA591.out.to h2)
        have HV613 := Lib.hid (HV604.out.to h2)
        clear h1 h2
        have x614 := cell_of_blk (i := 0) HX609.out rfl
        have x615 := cell_of_blk (i := 1) HX609.out rfl
        have x616 := cell_of_blk (i := 2) HX609.out rfl
        have x617 := cell_of_blk (i := 3) HX609.out rfl
        have x618 := cell_of_blk (i := 4) HX609.out rfl
        have xl619 := blk_lt HX609.out
        have x620 := cell_of_blk (i := 0) HX611.out rfl
        have x621 := cell_of_blk (i := 1) HX611.out rfl
        have x622 := cell_of_blk (i := 2) HX611.out rfl
        have x623 := cell_of_blk (i := 3) HX611.out rfl
        have x624 := cell_of_blk (i := 4) HX611.out rfl
        have xl625 := blk_lt HX611.out
        have hr := HR.out
        clear HR
        have HRF := Lib.hid hr
        clear hr
        go_wp2_with fail
        clear x614 x615 x616 x617 x618 xl619 x620 x621 x622 x623 x624 xl625
        go_roundw
        case rel => exact ⟨_, true, (j526 + 1), fp556, f, rfl, HS607, HV613, HGO582, Lib.hid (fun _ => ⟨by have := HLE.out; omega, HRF.out⟩), Lib.hid (fun e9 => Bool.noConfusion e9), Lib.hid ⟨HLT605.out, by have := HRM.out; have := HRL.out; have := HF528.out; have := HLT605.out; (try simp only [ptsS, ptS, noneT, ptsS_append, Nat.add_zero, Nat.zero_add]); omega⟩⟩
        case measure => have h5 := HK586.out; rw [List.length_append, List.length_singleton] at h5; have := HKR.out; have h8 := ptsS_len acc; have := HRL.out; simp [sliceLen]; omega
       | false =>
        rw [hcm, Bool.false_or] at hr
        have HC628 := Lib.hid (got_no HS583.out.pa HF528.out.1 ⟨#[44]⟩ hcm)
        clear hcm
        have HR := Lib.hid hr
        clear hr
        go_wp2_with fail
        clear x592 x593 x594 x595 x596 xl597 x598 x599 x600 x601 x602 xl603
        refine HC628.out.mono ?_
        rintro e w626 ⟨rfl, h1, h2⟩
        have HS627 := Lib.hid (HS583.out.below h2)
        have HX629 := Lib.hid (below_blk h2 HX588.out)
        have HA630 := Lib.hid (HA589.out.on h2.size)
        have HX631 := Lib.hid (below_blk h2 HX590.out)
        have HA632 := Lib.hid (HA591.out.on h2.size)
        have HV633 := Lib.hid (HV604.out.to (PaTo.of_below HS583.out.pa h2))
        clear h2 h1
        have x634 := cell_of_blk (i := 0) HX629.out rfl
        have x635 := cell_of_blk (i := 1) HX629.out rfl
        have x636 := cell_of_blk (i := 2) HX629.out rfl
        have x637 := cell_of_blk (i := 3) HX629.out rfl
        have x638 := cell_of_blk (i := 4) HX629.out rfl
        have xl639 := blk_lt HX629.out
        have x640 := cell_of_blk (i := 0) HX631.out rfl
        have x641 := cell_of_blk (i := 1) HX631.out rfl
        have x642 := cell_of_blk (i := 2) HX631.out rfl
        have x643 := cell_of_blk (i := 3) HX631.out rfl
        have x644 := cell_of_blk (i := 4) HX631.out rfl
        have xl645 := blk_lt HX631.out
        have hr := HR.out
        clear HR
        cases hb : isAny (tk K.T j526) [⟨#[59]⟩] with
        | true =>
         rw [if_pos hb] at hr
         have HLT646 := Lib.hid (any_lt HTK.out HF528.out.1 hb)
         have HC649 := Lib.hid (got_yes HS627.out.pa HF528.out.1 ⟨#[59]⟩ hb)
         clear hb
         have HR := Lib.hid hr
         clear hr
         go_wp2_with fail
         clear x634 x635 x636 x637 x638 xl639 x640 x641 x642 x643 x644 xl645
         refine HC649.out.mono ?_
         rintro e w647 ⟨rfl, h1, h2⟩
         have HS648 := Lib.hid (HS627.out.step h1 h2)
         have HX650 := Lib.hid (Away.blkTo HX629.out HA630.out h2)
         have HA651 := Lib.hid (HA630.out.to h2)
         have HX652 := Lib.hid (Away.blkTo HX631.out HA632.out h2)
         have HA653 := Lib.hid (HA632.out.to h2)
         have HV654 := Lib.hid (HV633.out.to h2)
         clear h1 h2
         have x655 := cell_of_blk (i := 0) HX650.out rfl
         have x656 := cell_of_blk (i := 1) HX650.out rfl
         have x657 := cell_of_blk (i := 2) HX650.out rfl
         have x658 := cell_of_blk (i := 3) HX650.out rfl
         have x659 := cell_of_blk (i := 4) HX650.out rfl
         have xl660 := blk_lt HX650.out
         have x661 := cell_of_blk (i := 0) HX652.out rfl
         have x662 := cell_of_blk (i := 1) HX652.out rfl
         have x663 := cell_of_blk (i := 2) HX652.out rfl
         have x664 := cell_of_blk (i := 3) HX652.out rfl
         have x665 := cell_of_blk (i := 4) HX652.out rfl
         have xl666 := blk_lt HX652.out
         have hr := HR.out
         clear HR
         have HRF := Lib.hid hr
         clear hr
         go_wp2_with fail
         clear x655 x656 x657 x658 x659 xl660 x661 x662 x663 x664 x665 xl666
         go_roundw
         case rel => exact ⟨_, true, (j526 + 1), fp556, f, rfl, HS648, HV654, HGO582, Lib.hid (fun _ => ⟨by have := HLE.out; omega, HRF.out⟩), Lib.hid (fun e9 => Bool.noConfusion e9), Lib.hid ⟨HLT646.out, by have := HRM.out; have := HRL.out; have := HF528.out; have := HLT646.out; (try simp only [ptsS, ptS, noneT, ptsS_append, Nat.add_zero, Nat.zero_add]); omega⟩⟩
         case measure => have h5 := HK586.out; rw [List.length_append, List.length_singleton] at h5; have := HKR.out; have h8 := ptsS_len acc; have := HRL.out; simp [sliceLen]; omega
        | false =>
         rw [if_neg (by rw [hb]; decide)] at hr
         have HC669 := Lib.hid (got_no HS627.out.pa HF528.out.1 ⟨#[59]⟩ hb)
         clear hb
         have HR := Lib.hid hr
         clear hr
         go_wp2_with fail
         clear x634 x635 x636 x637 x638 xl639 x640 x641 x642 x643 x644 xl645
         refine HC669.out.mono ?_
         rintro e w667 ⟨rfl, h1, h2⟩
         have HS668 := Lib.hid (HS627.out.below h2)
         have HX670 := Lib.hid (below_blk h2 HX629.out)
         have HA671 := Lib.hid (HA630.out.on h2.size)
         have HX672 := Lib.hid (below_blk h2 HX631.out)
         have HA673 := Lib.hid (HA632.out.on h2.size)
         have HV674 := Lib.hid (HV633.out.to (PaTo.of_below HS627.out.pa h2))
         clear h2 h1
         have x675 := cell_of_blk (i := 0) HX670.out rfl
         have x676 := cell_of_blk (i := 1) HX670.out rfl
         have x677 := cell_of_blk (i := 2) HX670.out rfl
         have x678 := cell_of_blk (i := 3) HX670.out rfl
         have x679 := cell_of_blk (i := 4) HX670.out rfl
         have xl680 := blk_lt HX670.out
         have x681 := cell_of_blk (i := 0) HX672.out rfl
         have x682 := cell_of_blk (i := 1) HX672.out rfl
         have x683 := cell_of_blk (i := 2) HX672.out rfl
         have x684 := cell_of_blk (i := 3) HX672.out rfl
         have x685 := cell_of_blk (i := 4) HX672.out rfl
         have xl686 := blk_lt HX672.out
         have hr := HR.out
         clear HR
         have HRF := Lib.hid hr
         clear hr
         go_wp2_with fail
         clear x675 x676 x677 x678 x679 xl680 x681 x682 x683 x684 x685 xl686
         go_roundw
         case rel => exact ⟨_, false, j526, fp556, f, rfl, HS668, HV674, HGO582, Lib.hid (fun e9 => Bool.noConfusion e9), Lib.hid (fun _ => (Option.some.inj HRF.out).symm), Lib.hid ⟨HF528.out.1, by have := HRM.out; have := HRL.out; have := HF528.out; (try simp only [ptsS, ptS, noneT, ptsS_append, Nat.add_zero, Nat.zero_add]); omega⟩⟩
         case measure => have h5 := HK586.out; rw [List.length_append, List.length_singleton] at h5; have := HKR.out; have h8 := ptsS_len acc; have := HRL.out; simp [sliceLen]; omega
     | true =>
      rw [if_pos ⟨beq_iff_eq.1 b1, by rw [← HQ2.out]; exact beq_iff_eq.1 b5, by rw [← HQ2.out]; exact eqB bt⟩] at hr
      have HLT3 := Lib.hid (show i1 + 2 < K.T.length from tk_lt HTK.out HLT2.out (by rw [← HQ2.out, beq_iff_eq.1 b5]; decide))
      obtain ⟨nv, l, hm⟩ := HS183.out.pa.mem
      obtain ⟨-, y691, -, -, -, cf⟩ := pa_cell hm.blk
      have y692 := cf 1
      have y693 := blk_lt hm.blk
      clear hm cf
      obtain ⟨i688, hi1⟩ : ∃ ix, ix = i1 + 2 := ⟨_, rfl⟩
      have y694 : (i1 : Int) + 2 = (i688 : Int) := by omega
      have y695 : i688 ≤ 200002 := by have := HLT3.out; have := HLN.out; omega
      have y696 : IntKind.i64.wrap (i688 : Int) = (i688 : Int) := IntWalk.i64_in _ (by omega)
      try rw [← hi1] at hr
      have HIE689 := Lib.hid hi1
      have HLT690 := Lib.hid (show i688 < K.T.length by rw [hi1]; exact HLT3.out)
      clear hi1 nv l
      have hst := HS183.out.pa.setI i688
      have hto : PaTo wc fp1 (wc.setCell ⟨p, 1, none⟩ (.int .i64 (i688 : Int))) fp1 := hst.2
      have HS687 := Lib.hid (show St K w p i688 o sn ns fp acc (wc.setCell ⟨p, 1, none⟩ (.int .i64 (i688 : Int))) fp1 from HS183.out.step hst.1 hto)
      have HX697 := Lib.hid (Away.blkTo HX184.out HA185.out hto)
      have HA698 := Lib.hid (HA185.out.to hto)
      have HX699 := Lib.hid (Away.blkTo HX186.out HA187.out hto)
      have HA700 := Lib.hid (HA187.out.to hto)
      have HV701 := Lib.hid (HV188.out.to hto)
      clear hst hto
      have x702 := cell_of_blk (i := 0) HX697.out rfl
      have x703 := cell_of_blk (i := 1) HX697.out rfl
      have x704 := cell_of_blk (i := 2) HX697.out rfl
      have x705 := cell_of_blk (i := 3) HX697.out rfl
      have x706 := cell_of_blk (i := 4) HX697.out rfl
      have xl707 := blk_lt HX697.out
      have x708 := cell_of_blk (i := 0) HX699.out rfl
      have x709 := cell_of_blk (i := 1) HX699.out rfl
      have x710 := cell_of_blk (i := 2) HX699.out rfl
      have x711 := cell_of_blk (i := 3) HX699.out rfl
      have x712 := cell_of_blk (i := 4) HX699.out rfl
      have xl713 := blk_lt HX699.out
      obtain ⟨X, hX⟩ : ∃ X, (parF K.T f).one (.exp) o i688 = X := ⟨_, rfl⟩
      rw [hX] at hr
      cases X with
      | none => exact absurd hr (by simp [Res.then])
      | some X =>
      cases X with
      | bad a n =>
       have HRR716 := Lib.hid (show Res.bad a n = r from (by dsimp only [Res.then] at hr; have h1 := Option.some.inj hr; have h2 := HRT.out; rw [← h1] at h2; dsimp only [Res.then] at h2; exact Option.some.inj h2))
       have HC719 := Lib.hid (call_bad ((HAP.out f (Nat.le_refl f)).exp) HS687.out HB.out ⟨HLT690.out, by have := HRM.out; have := HRL.out; have := HLT3.out; have := HIE689.out; have := HLT690.out; (try simp only [ptsS, ptS, noneT, ptsS_append, Nat.add_zero, Nat.zero_add]); omega⟩ HO.out hX)
       clear hr hX
       go_wp2_with fail
       refine HC719.out.mono ?_
       rintro e wb ⟨rfl, hb⟩
       have HB718 := Lib.hid hb
       clear hb
       unfold wrongP
       go_wp2
       exact ⟨rfl, by rw [← HRR716.out]; exact ⟨rfl, HB718.out⟩⟩
      | ok t714 j715 =>
       have hft := (fit_all HTK.out f).one (.exp) o i688 HLT690.out
       rw [hX] at hft
       obtain ⟨f1, f2, f3⟩ := hft
       simp only [lazy1, sl1, ex1, Bool.false_eq_true, if_false, if_true] at f2 f3
       have HF717 := Lib.hid (And.intro f1 (And.intro f2 f3))
       clear f1 f2 f3
       have HC723 := Lib.hid (call_ok ((HAP.out f (Nat.le_refl f)).exp) HS687.out ⟨HLT690.out, by have := HRM.out; have := HRL.out; have := HLT3.out; have := HIE689.out; have := HLT690.out; (try simp only [ptsS, ptS, noneT, ptsS_append, Nat.add_zero, Nat.zero_add]); omega⟩ HO.out hX)
       dsimp only [Res.then] at hr
       clear hX
       have HR := Lib.hid hr
       clear hr
       go_wp2_with fail
       clear x702 x703 x704 x705 x706 xl707 x708 x709 x710 x711 x712 xl713 y691 y692 y693 y694 y695 y696 x189 x190 x191 x192 x193 xl194 x195 x196 x197 x198 x199 xl200
       refine HC723.out.mono ?_
       rintro e w720 ⟨rfl, fp721, h1, h2⟩
       obtain ⟨n724, hn⟩ : ∃ n, n = nr ns acc t714 := ⟨_, rfl⟩
       rw [← hn]
       have HN725 := Lib.hid hn
       have HS722 := Lib.hid (show St K w p j715 o sn ns fp (acc ++ [t714]) w720 fp721 from h1)
       have HX726 := Lib.hid (Away.blkTo HX697.out HA698.out h2)
       have HA727 := Lib.hid (HA698.out.to h2)
       have HX728 := Lib.hid (Away.blkTo HX699.out HA700.out h2)
       have HA729 := Lib.hid (HA700.out.to h2)
       have HV730 := Lib.hid (HV701.out.to h2)
       clear h1 h2 hn
       have x731 := cell_of_blk (i := 0) HX726.out rfl
       have x732 := cell_of_blk (i := 1) HX726.out rfl
       have x733 := cell_of_blk (i := 2) HX726.out rfl
       have x734 := cell_of_blk (i := 3) HX726.out rfl
       have x735 := cell_of_blk (i := 4) HX726.out rfl
       have xl736 := blk_lt HX726.out
       have x737 := cell_of_blk (i := 0) HX728.out rfl
       have x738 := cell_of_blk (i := 1) HX728.out rfl
       have x739 := cell_of_blk (i := 2) HX728.out rfl
       have x740 := cell_of_blk (i := 3) HX728.out rfl
       have x741 := cell_of_blk (i := 4) HX728.out rfl
       have xl742 := blk_lt HX728.out
       have hr := HR.out
       clear HR
       have HC743 := Lib.hid (show ∀ W, W = w720.alloc (.cells #[natV n724] 3) → Calls Tryz.prog 23 #[.pointer (some ⟨p, 0, none⟩), .int .i64 25, .string (tk K.T i1).text, natV (tk K.T i1).a, .slice (some ⟨w720.heap.size, 0, none⟩) 1 1] W (OneOk K w p o sn ns fp acc W fp721 (PT.mk 25 (tk K.T i1).text (tk K.T i1).a [t714]) j715) from fun W hW => by
        subst hW
        exact lay_mid (L1 := acc) (L2 := [t714]) (HS722.out.below ((Below.refl _ _).alloc (Nat.le_refl _) _)) (by have h7 := (show ns.length + ptsS (acc ++ [t714]) + 4 * (K.T.length - j715) ≤ 900000 from by have := HRM.out; have := HRL.out; have := HLT3.out; have := HIE689.out; have := HLT690.out; have := HF717.out; (try simp only [ptsS, ptS, noneT, ptsS_append, Nat.add_zero, Nat.zero_add]); omega); omega) (by simp) 25 (tk K.T i1).text (tk K.T i1).a (KidsV.new w720 (n724) [] _ rfl) (by simp only [HN725.out, nr, roots, ptsS, Nat.add_zero, Nat.add_assoc]))
       have HR := Lib.hid hr
       clear hr
       try unfold natV
       go_wp2_with fail
       clear x731 x732 x733 x734 x735 xl736 x737 x738 x739 x740 x741 xl742
       refine (HC743.out _ rfl).mono ?_
       rintro e w744 ⟨rfl, fp745, h1, h2⟩
       obtain ⟨n747, hn⟩ : ∃ n, n = nr ns acc (PT.mk 25 (tk K.T i1).text (tk K.T i1).a [t714]) := ⟨_, rfl⟩
       rw [← hn]
       have HN748 := Lib.hid hn
       have HS746 := Lib.hid (show St K w p j715 o sn ns fp (acc ++ [(PT.mk 25 (tk K.T i1).text (tk K.T i1).a [t714])]) w744 fp745 from h1)
       have HBL749 : PaTo w720 fp721 w744 fp745 := (PaTo.of_below HS722.out.pa ((Below.refl _ _).alloc (Nat.le_refl _) _)).trans h2
       have HX750 := Lib.hid (Away.blkTo HX726.out HA727.out HBL749)
       have HA751 := Lib.hid (HA727.out.to HBL749)
       have HX752 := Lib.hid (Away.blkTo HX728.out HA729.out HBL749)
       have HA753 := Lib.hid (HA729.out.to HBL749)
       have HV754 := Lib.hid (HV730.out.to HBL749)
       clear h1 h2 hn HBL749
       have x755 := cell_of_blk (i := 0) HX750.out rfl
       have x756 := cell_of_blk (i := 1) HX750.out rfl
       have x757 := cell_of_blk (i := 2) HX750.out rfl
       have x758 := cell_of_blk (i := 3) HX750.out rfl
       have x759 := cell_of_blk (i := 4) HX750.out rfl
       have xl760 := blk_lt HX750.out
       have x761 := cell_of_blk (i := 0) HX752.out rfl
       have x762 := cell_of_blk (i := 1) HX752.out rfl
       have x763 := cell_of_blk (i := 2) HX752.out rfl
       have x764 := cell_of_blk (i := 3) HX752.out rfl
       have x765 := cell_of_blk (i := 4) HX752.out rfl
       have xl766 := blk_lt HX752.out
       have hr := HR.out
       clear HR
       have HKB776 := Lib.hid (show rl ≤ 900000 by have h9 := HKR.out; have h8 := ptsS_len acc; have h7 := (show ns.length + ptsS (acc ++ [(PT.mk 25 (tk K.T i1).text (tk K.T i1).a [t714])]) + 4 * (K.T.length - j715) ≤ 900000 from by have := HRM.out; have := HRL.out; have := HLT3.out; have := HIE689.out; have := HLT690.out; have := HF717.out; (try simp only [ptsS, ptS, noneT, ptsS_append, Nat.add_zero, Nat.zero_add]); omega); (try simp only [ptsS_append, List.length_append] at h7 h8 h9); omega)
       try unfold natV
       have HR := Lib.hid hr
       clear hr
       go_wp2_with (at_builtin; (refine wpList_push (n := n747) rfl _ _ rfl HS746.out HV754.out (by rw [roots_len]; exact HKR.out) HKB776.out (B := w.heap.size) (Nat.le_refl _) HS746.out.pt.fr.size HGR.out rfl rfl rfl ?_); intro g767 cap768 w769 h1 h2 h3 h4; clear x755 x756 x757 x758 x759 xl760 x761 x762 x763 x764 x765 xl766; have HS772 := Lib.hid h1; have HV770 := Lib.hid h2; have HGO771 := Lib.hid h3; have HX777 := Lib.hid (h4.blk HX750.out (.inl (by decide))); have HA778 := Lib.hid (HA751.out.on h4.size); have HX779 := Lib.hid (h4.blk HX752.out (.inl (by decide))); have HA780 := Lib.hid (HA753.out.on h4.size); have x781 := cell_of_blk (i := 0) HX777.out rfl; have x782 := cell_of_blk (i := 1) HX777.out rfl; have x783 := cell_of_blk (i := 2) HX777.out rfl; have x784 := cell_of_blk (i := 3) HX777.out rfl; have x785 := cell_of_blk (i := 4) HX777.out rfl; have xl786 := blk_lt HX777.out; have x787 := cell_of_blk (i := 0) HX779.out rfl; have x788 := cell_of_blk (i := 1) HX779.out rfl; have x789 := cell_of_blk (i := 2) HX779.out rfl; have x790 := cell_of_blk (i := 3) HX779.out rfl; have x791 := cell_of_blk (i := 4) HX779.out rfl; have xl792 := blk_lt HX779.out; clear h1 h2 h3 h4)
       obtain ⟨k774, hk2⟩ : ∃ k, k = rl + 1 := ⟨_, rfl⟩
       have HK775 := Lib.hid (show k774 = (acc ++ [(PT.mk 25 (tk K.T i1).text (tk K.T i1).a [t714])]).length by rw [hk2, HKR.out]; simp)
       have HV793 := Lib.hid (show Ints w769 p fp745 (.slice (some ⟨g767, 0, none⟩) k774 cap768) (roots ns.length (acc ++ [(PT.mk 25 (tk K.T i1).text (tk K.T i1).a [t714])])) by rw [roots_more, ← HN748.out, hk2]; exact HV770.out)
       rw [← hk2] at HGO771
       try rw [← hk2]
       clear hk2
       have hr := HR.out
       clear HR
       cases hcm : isAny (tk K.T j715) [⟨#[44]⟩] with
       | true =>
        rw [hcm, Bool.true_or, if_pos rfl] at hr
        have HLT794 := Lib.hid (any_lt HTK.out HF717.out.1 hcm)
        have HC797 := Lib.hid (got_yes HS772.out.pa HF717.out.1 ⟨#[44]⟩ hcm)
        clear hcm
        have HR := Lib.hid hr
        clear hr
        go_wp2_with fail
        clear x781 x782 x783 x784 x785 xl786 x787 x788 x789 x790 x791 xl792
        refine HC797.out.mono ?_
        rintro e w795 ⟨rfl, h1, h2⟩
        have HS796 := Lib.hid (HS772.out.step h1 h2)
        have HX798 := Lib.hid (Away.blkTo HX777.out HA778.out h2)
        have HA799 := Lib.hid (HA778.out.to h2)
        have HX800 := Lib.hid (Away.blkTo HX779.out HA780.out h2)
        have HA801 := Lib.hid (HA780.out.to h2)
        have HV802 := Lib.hid (HV793.out.to h2)
        clear h1 h2
        have x803 := cell_of_blk (i := 0) HX798.out rfl
        have x804 := cell_of_blk (i := 1) HX798.out rfl
        have x805 := cell_of_blk (i := 2) HX798.out rfl
        have x806 := cell_of_blk (i := 3) HX798.out rfl
        have x807 := cell_of_blk (i := 4) HX798.out rfl
        have xl808 := blk_lt HX798.out
        have x809 := cell_of_blk (i := 0) HX800.out rfl
        have x810 := cell_of_blk (i := 1) HX800.out rfl
        have x811 := cell_of_blk (i := 2) HX800.out rfl
        have x812 := cell_of_blk (i := 3) HX800.out rfl
        have x813 := cell_of_blk (i := 4) HX800.out rfl
        have xl814 := blk_lt HX800.out
        have hr := HR.out
        clear HR
        have HRF := Lib.hid hr
        clear hr
        go_wp2_with fail
        clear x803 x804 x805 x806 x807 xl808 x809 x810 x811 x812 x813 xl814
        go_roundw
        case rel => exact ⟨_, true, (j715 + 1), fp745, f, rfl, HS796, HV802, HGO771, Lib.hid (fun _ => ⟨by have := HLE.out; omega, HRF.out⟩), Lib.hid (fun e9 => Bool.noConfusion e9), Lib.hid ⟨HLT794.out, by have := HRM.out; have := HRL.out; have := HLT3.out; have := HIE689.out; have := HLT690.out; have := HF717.out; have := HLT794.out; (try simp only [ptsS, ptS, noneT, ptsS_append, Nat.add_zero, Nat.zero_add]); omega⟩⟩
        case measure => have h5 := HK775.out; rw [List.length_append, List.length_singleton] at h5; have := HKR.out; have h8 := ptsS_len acc; have := HRL.out; simp [sliceLen]; omega
       | false =>
        rw [hcm, Bool.false_or] at hr
        have HC817 := Lib.hid (got_no HS772.out.pa HF717.out.1 ⟨#[44]⟩ hcm)
        clear hcm
        have HR := Lib.hid hr
        clear hr
        go_wp2_with fail
        clear x781 x782 x783 x784 x785 xl786 x787 x788 x789 x790 x791 xl792
        refine HC817.out.mono ?_
        rintro e w815 ⟨rfl, h1, h2⟩
        have HS816 := Lib.hid (HS772.out.below h2)
        have HX818 := Lib.hid (below_blk h2 HX777.out)
        have HA819 := Lib.hid (HA778.out.on h2.size)
        have HX820 := Lib.hid (below_blk h2 HX779.out)
        have HA821 := Lib.hid (HA780.out.on h2.size)
        have HV822 := Lib.hid (HV793.out.to (PaTo.of_below HS772.out.pa h2))
        clear h2 h1
        have x823 := cell_of_blk (i := 0) HX818.out rfl
        have x824 := cell_of_blk (i := 1) HX818.out rfl
        have x825 := cell_of_blk (i := 2) HX818.out rfl
        have x826 := cell_of_blk (i := 3) HX818.out rfl
        have x827 := cell_of_blk (i := 4) HX818.out rfl
        have xl828 := blk_lt HX818.out
        have x829 := cell_of_blk (i := 0) HX820.out rfl
        have x830 := cell_of_blk (i := 1) HX820.out rfl
        have x831 := cell_of_blk (i := 2) HX820.out rfl
        have x832 := cell_of_blk (i := 3) HX820.out rfl
        have x833 := cell_of_blk (i := 4) HX820.out rfl
        have xl834 := blk_lt HX820.out
        have hr := HR.out
        clear HR
        cases hb : isAny (tk K.T j715) [⟨#[59]⟩] with
        | true =>
         rw [if_pos hb] at hr
         have HLT835 := Lib.hid (any_lt HTK.out HF717.out.1 hb)
         have HC838 := Lib.hid (got_yes HS816.out.pa HF717.out.1 ⟨#[59]⟩ hb)
         clear hb
         have HR := Lib.hid hr
         clear hr
         go_wp2_with fail
         clear x823 x824 x825 x826 x827 xl828 x829 x830 x831 x832 x833 xl834
         refine HC838.out.mono ?_
         rintro e w836 ⟨rfl, h1, h2⟩
         have HS837 := Lib.hid (HS816.out.step h1 h2)
         have HX839 := Lib.hid (Away.blkTo HX818.out HA819.out h2)
         have HA840 := Lib.hid (HA819.out.to h2)
         have HX841 := Lib.hid (Away.blkTo HX820.out HA821.out h2)
         have HA842 := Lib.hid (HA821.out.to h2)
         have HV843 := Lib.hid (HV822.out.to h2)
         clear h1 h2
         have x844 := cell_of_blk (i := 0) HX839.out rfl
         have x845 := cell_of_blk (i := 1) HX839.out rfl
         have x846 := cell_of_blk (i := 2) HX839.out rfl
         have x847 := cell_of_blk (i := 3) HX839.out rfl
         have x848 := cell_of_blk (i := 4) HX839.out rfl
         have xl849 := blk_lt HX839.out
         have x850 := cell_of_blk (i := 0) HX841.out rfl
         have x851 := cell_of_blk (i := 1) HX841.out rfl
         have x852 := cell_of_blk (i := 2) HX841.out rfl
         have x853 := cell_of_blk (i := 3) HX841.out rfl
         have x854 := cell_of_blk (i := 4) HX841.out rfl
         have xl855 := blk_lt HX841.out
         have hr := HR.out
         clear HR
         have HRF := Lib.hid hr
         clear hr
         go_wp2_with fail
         clear x844 x845 x846 x847 x848 xl849 x850 x851 x852 x853 x854 xl855
         go_roundw
         case rel => exact ⟨_, true, (j715 + 1), fp745, f, rfl, HS837, HV843, HGO771, Lib.hid (fun _ => ⟨by have := HLE.out; omega, HRF.out⟩), Lib.hid (fun e9 => Bool.noConfusion e9), Lib.hid ⟨HLT835.out, by have := HRM.out; have := HRL.out; have := HLT3.out; have := HIE689.out; have := HLT690.out; have := HF717.out; have := HLT835.out; (try simp only [ptsS, ptS, noneT, ptsS_append, Nat.add_zero, Nat.zero_add]); omega⟩⟩
         case measure => have h5 := HK775.out; rw [List.length_append, List.length_singleton] at h5; have := HKR.out; have h8 := ptsS_len acc; have := HRL.out; simp [sliceLen]; omega
        | false =>
         rw [if_neg (by rw [hb]; decide)] at hr
         have HC858 := Lib.hid (got_no HS816.out.pa HF717.out.1 ⟨#[59]⟩ hb)
         clear hb
         have HR := Lib.hid hr
         clear hr
         go_wp2_with fail
         clear x823 x824 x825 x826 x827 xl828 x829 x830 x831 x832 x833 xl834
         refine HC858.out.mono ?_
         rintro e w856 ⟨rfl, h1, h2⟩
         have HS857 := Lib.hid (HS816.out.below h2)
         have HX859 := Lib.hid (below_blk h2 HX818.out)
         have HA860 := Lib.hid (HA819.out.on h2.size)
         have HX861 := Lib.hid (below_blk h2 HX820.out)
         have HA862 := Lib.hid (HA821.out.on h2.size)
         have HV863 := Lib.hid (HV822.out.to (PaTo.of_below HS816.out.pa h2))
         clear h2 h1
         have x864 := cell_of_blk (i := 0) HX859.out rfl
         have x865 := cell_of_blk (i := 1) HX859.out rfl
         have x866 := cell_of_blk (i := 2) HX859.out rfl
         have x867 := cell_of_blk (i := 3) HX859.out rfl
         have x868 := cell_of_blk (i := 4) HX859.out rfl
         have xl869 := blk_lt HX859.out
         have x870 := cell_of_blk (i := 0) HX861.out rfl
         have x871 := cell_of_blk (i := 1) HX861.out rfl
         have x872 := cell_of_blk (i := 2) HX861.out rfl
         have x873 := cell_of_blk (i := 3) HX861.out rfl
         have x874 := cell_of_blk (i := 4) HX861.out rfl
         have xl875 := blk_lt HX861.out
         have hr := HR.out
         clear HR
         have HRF := Lib.hid hr
         clear hr
         go_wp2_with fail
         clear x864 x865 x866 x867 x868 xl869 x870 x871 x872 x873 x874 xl875
         go_roundw
         case rel => exact ⟨_, false, j715, fp745, f, rfl, HS857, HV863, HGO771, Lib.hid (fun e9 => Bool.noConfusion e9), Lib.hid (fun _ => (Option.some.inj HRF.out).symm), Lib.hid ⟨HF717.out.1, by have := HRM.out; have := HRL.out; have := HLT3.out; have := HIE689.out; have := HLT690.out; have := HF717.out; (try simp only [ptsS, ptS, noneT, ptsS_append, Nat.add_zero, Nat.zero_add]); omega⟩⟩
         case measure => have h5 := HK775.out; rw [List.length_append, List.length_singleton] at h5; have := HKR.out; have h8 := ptsS_len acc; have := HRL.out; simp [sliceLen]; omega
end Go.Proofs.YthobobmbileekaaGreatDoor
