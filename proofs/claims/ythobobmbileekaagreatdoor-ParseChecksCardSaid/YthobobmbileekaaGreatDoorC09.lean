/-
 ParseChecks: part 9 of what the claim rests on.
-/
import Derived.Test.YthobobmbileekaaGreatDoorC01
import Derived.Test.YthobobmbileekaaGreatDoorC08
import Derived.Lib.Strings
import Derived.Lib.AppendStr
import Derived.Laws.IdiomStrings
import Derived.Deep.RegionLaw
import Derived.Laws.BitsAllLaws
import Derived.Lib.BufferRead
set_option linter.unusedVariables false
set_option linter.unusedSimpArgs false
set_option maxHeartbeats 64000000
set_option maxRecDepth 100000
namespace Go.Proofs.YthobobmbileekaaGreatDoor
open Go.ChangeShapes Go.WideShapes Go.ChangeAt Go.RowKit

def sgn (n : Nat) (l : List UInt8) : Nat := match n, l with
 | 0, _ => 0
 | 1, a :: _ => if signs1.contains a then 1 else 0
 | _, l => signL l
theorem sgn_start (l : List UInt8) : signL l = sgn (min 2 l.length) l := by
 match l with
 | [] => rfl
 | [a] => rfl
 | a :: b :: r => rw [show min 2 (a :: b :: r).length = 2 by simp]; rfl
theorem tok_sign {l : List UInt8} {c : UInt8} {r : List UInt8} (hl : l = c :: r) (hp : partN c.toNat = false) (hq : ¬ c = 34) :
  tokenL l = if signL l = 0 then .inl 50 else .inr (5, ⟨(l.take (signL l)).toArray⟩, 0, signL l) := by
 subst hl
 rw [tokenL, if_neg (by rw [hp]; decide), if_neg hq]
theorem ext_list (r : ByteArray) (n : Nat) (l : List UInt8) (h : r.data.toList.take n = l) : r.extract 0 n = ⟨l.toArray⟩ := by
 have := ext_take r 0 n
 rw [Nat.zero_add, List.drop_zero, h] at this
 exact this
theorem xsign_any {g i mb : Nat} {s : ByteArray} {m : Int} (hs : s.size ≤ 1000000) (w : World) (h : ScB w g s i mb) (hi : i < s.size) (hp : partN s[i].toNat = false) (hq : ¬ s[i] = 34) (hm : MaxC w m) (hg : g ≠ 3) :
  Calls Tryz.prog 38 #[.pointer (some ⟨g, 0, none⟩)] w (ReadOut g s i mb w) := by
 have hlen : s.data.toList.length = s.size := by simp
 have hcons := drop_at hi
 obtain ⟨a, ha⟩ : ∃ a, a = s[i] := ⟨_, rfl⟩
 rw [← ha] at hp hq hcons
 have htok := tok_sign hcons hp hq
 obtain ⟨r, hr⟩ : ∃ r, r = tailB s i := ⟨_, rfl⟩
 have hrl : r.data.toList = s.data.toList.drop i := by rw [hr]; exact tailB_list _ _
 have hrs : r.size = s.size - i := by rw [hr]; exact tailB_size _ _
 obtain ⟨l, hl⟩ : ∃ l, l = s.data.toList.drop i := ⟨_, rfl⟩
 rw [← hl] at hrl htok hcons
 have hll : l.length = r.size := by rw [hrs, hl, List.length_drop, hlen]
 have HRC := zh (show ∀ w', ScB w' g s i mb → Calls Tryz.prog 65 #[.pointer (some ⟨g, 0, none⟩)] w' (fun e w'' => e = .returned (.string r) ∧ ∃ q, w'' = w'.drewN q) from fun w' h' => by rw [hr]; exact xrest_any w' h' (by omega))
 have H := zh h
 have HM := zh hm
 have HTOK := zh htok
 have HL := zh hl
 have HRL := zh hrl
 have HCO := zh hcons
 have hr1 : 1 ≤ r.size := by omega
 have hrb : r.size ≤ 1000000 := by omega
 have HLL := zh hll
 clear h hm htok hl hrl hcons hr hp hq ha hlen hll hrs
 obtain ⟨b2, hb2⟩ : ∃ b, b = w.heap.size := ⟨_, rfl⟩
 obtain ⟨n0, hn0⟩ : ∃ n0 : Nat, n0 = min 2 r.size := ⟨_, rfl⟩
 have hmin : min (2 : Int) (r.size : Int) = (n0 : Int) := by omega
 have HN0 := zh hn0
 have hn02 : n0 ≤ 2 ∧ n0 ≤ r.size := by omega
 clear hn0
 go_enter Tryz.func38, Tryz.ntmps38
 go_upto_region 1 with fail
 rw [← hb2]
 refine gen_wpT fun W hW => ?_
 have HR := zh (show W.heap[b2]? = some (.cells #[.int .i64 0, .string ByteArray.empty, .int .i64 0, .int .i64 0, .int .i64 0] 65 (0, 0)) by rw [← hW, hb2]; exact heap_new_at _ _ _ rfl)
 have HB := zh (show ScB W g s i mb by rw [← hW]; exact blk_alloc H.out _)
 have HF := zh (show Fr [g] w W by rw [← hW]; exact (Fr.refl _ _).alloc _)
 have HBG := zh (show b2 ≠ g ∧ w.heap.size ≤ b2 by have := H.out.lt; exact ⟨by omega, by omega⟩)
 clear hW hb2
 go_wp2_with fail
 refine (HRC.out _ (by exact HB.out)).mono ?_
 rintro e w1 ⟨rfl, q1, rfl⟩
 go_wp2_with fail
 go_loopw [3] (fun v wr => ∃ n : Nat, n ≤ 2 ∧ n ≤ r.size ∧ v = .int .i64 n ∧ Hid (signL l = sgn n l) ∧ Hid (ScB wr g s i mb) ∧ Hid (wr.heap[b2]? = some (.cells #[.int .i64 0, .string ByteArray.empty, .int .i64 0, .int .i64 0, .int .i64 0] 65 (0, 0))) ∧ Hid (Fr [g] w wr)) (fun v _ => (intOf v).toNat)
 case atStart => exact ⟨n0, hn02.1, hn02.2, by first | rfl | (rw [hmin]), zh (by rw [HN0.out, ← HLL.out]; exact sgn_start l), HB, HR, zh (HF.out.drewN _)⟩
 case round =>
  obtain ⟨n, hn2, hnr, rfl, HS, HBj, HRj, HFj⟩ := hrel; have c1 := HBj.out.c1; have cf := HBj.out.fr; have cl := HBj.out.lt; have HMj := zh (HM.out.fr HFj.out hg); obtain ⟨r', hr'⟩ : ∃ r', l = a :: r' := ⟨_, HCO.out⟩; have hcase : n = 0 ∨ n = 1 ∨ n = 2 := by omega
  rcases hcase with rfl | rfl | rfl
  ·have HTK := zh (show tokenL (s.data.toList.drop i) = .inl 50 by rw [← HL.out, HTOK.out, HS.out]; rfl)
   clear hr'; go_wp2_with fail
   refine (xmust_no _ _ _ _).mono ?_; rintro e w7 ⟨rfl, rfl⟩; go_wp2
   exact ⟨rfl, HFj.out, .inl ⟨50, HTK.out, rfl⟩⟩
  ·have hx1 : r.extract 0 1 = ⟨#[a]⟩ := ext_list r 1 [a] (by rw [HRL.out, hr']; rfl)
   obtain ⟨sb, hsb⟩ : ∃ sb, sb = signs1.contains a := ⟨_, rfl⟩; have hs1 : sgn 1 l = if sb = true then 1 else 0 := by rw [hr', hsb]; rfl
   have HCT := zh (show ∀ w', MaxC w' m → Calls Tryz.prog 66 #[.string ⟨#[43, 45, 42, 37, 60, 62, 61, 40, 41, 123, 125, 91, 93, 44, 58, 59, 46, 35, 124, 64]⟩, .string ⟨#[a]⟩] w' (fun e w'' => e = .returned (.bool sb) ∧ w'' = w') from fun w' h' => by
    have := Tryz.strings_Contains ⟨#[43, 45, 42, 37, 60, 62, 61, 40, 41, 123, 125, 91, 93, 44, 58, 59, 46, 35, 124, 64]⟩ ⟨#[a]⟩ m w' (by decide) h'.1; rw [show Lib.contains (⟨#[43, 45, 42, 37, 60, 62, 61, 40, 41, 123, 125, 91, 93, 44, 58, 59, 46, 35, 124, 64]⟩ : ByteArray).data.toList (⟨#[a]⟩ : ByteArray).data.toList = sb from (sign1_in a).trans hsb.symm] at this; exact this)
   have hr1' : (1 : Int) ≤ (r.size : Int) := by omega
   cases sb with
   | true =>
    have HTK := zh (show tokenL (s.data.toList.drop i) = .inr (5, ⟨#[a]⟩, 0, 1) by
     rw [← HL.out, HTOK.out, HS.out, hs1, if_pos rfl, if_neg (by decide), hr']
     rfl)
    clear hsb hs1 hr'; obtain ⟨j2, hj2⟩ : ∃ j, j = i + 1 := ⟨_, rfl⟩; have HJ2 := zh hj2; have hadd : (i : Int) + 1 = (j2 : Int) := by omega
    have haddw : IntKind.i64.wrap (j2 : Int) = (j2 : Int) := IntWalk.i64_in _ (by omega); clear hj2; go_wp2_with fail
    refine (HRC.out _ (by exact HBj.out)).mono ?_; rintro e w2 ⟨rfl, q2, rfl⟩; go_wp2_with fail
    refine (HCT.out _ (by exact HMj.out)).mono ?_; rintro e w3 ⟨rfl, rfl⟩
    go_upto_region 7 with fail
    refine gen_wpT fun U hU => ?_; have HBX := zh (show ScB U g s j2 mb by rw [← hU]; exact ScB.set (by exact HBj.out) j2); have HFX := zh (show Fr [g] w U by rw [← hU]; exact (HFj.out.drewN _).setN _); have HRX := zh (show U.heap[b2]? = some (.cells #[.int .i64 0, .string ByteArray.empty, .int .i64 0, .int .i64 0, .int .i64 0] 65 (0, 0)) by rw [← hU]; exact blk_far (a := ⟨g, 1, none⟩) (by exact HRj.out) HBG.out.1 _); clear hU c1 cf cl; obtain ⟨r0, r1, r2, r3, r4, rf0, rf1, rf2, rf3, rf4, rl⟩ := blk_5 HRX.out; go_wp2
    obtain ⟨j0, j1, j2, j3, j4⟩ := tok_five HRX.out rfl (.int .i64 5) (.string ⟨#[a]⟩) (.int .i64 0) (.int .i64 0) (.int .i64 0); refine bodyPost_ret (v := .agg #[.int .i64 5, .string ⟨#[a]⟩, .int .i64 0, .int .i64 0, .int .i64 0]) (by simp [results, Tryz.results38, go_sem, j0, j1, j2, j3, j4]) rfl ?_; exact ⟨(Fr.set (a := ⟨b2, 4, none⟩) (Fr.set (a := ⟨b2, 3, none⟩) (Fr.set (a := ⟨b2, 2, none⟩) (Fr.set (a := ⟨b2, 1, none⟩) (Fr.set (a := ⟨b2, 0, none⟩) HFX.out (.int .i64 5) (.inr HBG.out.2)) (.string ⟨#[a]⟩) (.inr HBG.out.2)) (.int .i64 0) (.inr HBG.out.2)) (.int .i64 0) (.inr HBG.out.2)) (.int .i64 0) (.inr HBG.out.2)), .inr ⟨_, _, _, 1, HTK.out, rfl, (by rw [← HJ2.out]; exact (blk_far (a := ⟨b2, 4, none⟩) (blk_far (a := ⟨b2, 3, none⟩) (blk_far (a := ⟨b2, 2, none⟩) (blk_far (a := ⟨b2, 1, none⟩) (blk_far (a := ⟨b2, 0, none⟩) HBX.out HBG.out.1.symm (.int .i64 5)) HBG.out.1.symm (.string ⟨#[a]⟩)) HBG.out.1.symm (.int .i64 0)) HBG.out.1.symm (.int .i64 0)) HBG.out.1.symm (.int .i64 0)))⟩⟩
   | false =>
    have HS1 := zh (show signL l = sgn 0 l by rw [HS.out, hs1]; rfl); clear hsb hs1 hr'; go_wp2_with fail
    refine (HRC.out _ (by exact HBj.out)).mono ?_; rintro e w2 ⟨rfl, q2, rfl⟩; go_wp2_with fail
    refine (HCT.out _ (by exact HMj.out)).mono ?_; rintro e w3 ⟨rfl, rfl⟩; go_wp2_with fail
    go_roundw
    case rel => exact ⟨0, by omega, by omega, by go_num, HS1, HBj, HRj, zh (HFj.out.drewN _)⟩
    case measure => simp [intOf]
  ·obtain ⟨b, r2, hr2⟩ : ∃ b r2, r' = b :: r2 := by
    have h1 := HLL.out; rw [hr', List.length_cons] at h1
    cases r' with
    | nil => simp at h1; omega
    | cons b r2 => exact ⟨b, r2, rfl⟩
   subst hr2; obtain ⟨sx, hsx⟩ : ∃ sx, sx = r.extract 0 2 := ⟨_, rfl⟩; have hx2 : r.extract 0 2 = sx := hsx.symm; have hsx2 : sx = ⟨#[a, b]⟩ := by rw [hsx]; exact ext_list r 2 [a, b] (by rw [HRL.out, hr']; rfl)
   have hsxs : sx.size = 2 := by rw [hsx2]; rfl
   have hz1 : ¬ 9223372036854775807 < 1 + sx.size := by omega
   have hz2 : ¬ 9223372036854775807 < 1 + sx.size + 1 := by omega
   obtain ⟨sb, hsb⟩ : ∃ sb, sb = sign2 a b := ⟨_, rfl⟩; have HCT := zh (show ∀ w', MaxC w' m → Calls Tryz.prog 66 #[.string ⟨#[32, 61, 61, 32, 126, 61, 32, 60, 61, 32, 62, 61, 32, 47, 47, 32, 46, 46, 32, 45, 62, 32]⟩, .string ((⟨#[32]⟩ ++ sx) ++ ⟨#[32]⟩)] w' (fun e w'' => e = .returned (.bool sb) ∧ w'' = w') from fun w' h' => by
    have := Tryz.strings_Contains ⟨#[32, 61, 61, 32, 126, 61, 32, 60, 61, 32, 62, 61, 32, 47, 47, 32, 46, 46, 32, 45, 62, 32]⟩ ⟨#[32, a, b, 32]⟩ m w' (by decide) h'.1; rw [show Lib.contains (⟨#[32, 61, 61, 32, 126, 61, 32, 60, 61, 32, 62, 61, 32, 47, 47, 32, 46, 46, 32, 45, 62, 32]⟩ : ByteArray).data.toList (⟨#[32, a, b, 32]⟩ : ByteArray).data.toList = sb from (sign2_in a b).trans hsb.symm] at this; rw [hsx2]; exact this)
   have hr1' : (2 : Int) ≤ (r.size : Int) := by omega
   cases sb with
   | true =>
    have HTK := zh (show tokenL (s.data.toList.drop i) = .inr (5, sx, 0, 2) by
     have e : signL l = 2 := by rw [hr']; simp only [signL]; rw [if_pos hsb.symm]
     rw [← HL.out, HTOK.out, e, if_neg (by decide), hr', hsx2]
     rfl)
    clear hsb hr' hsx hsx2; obtain ⟨j2, hj2⟩ : ∃ j, j = i + 2 := ⟨_, rfl⟩; have HJ2 := zh hj2; have hadd : (i : Int) + 2 = (j2 : Int) := by omega
    have haddw : IntKind.i64.wrap (j2 : Int) = (j2 : Int) := IntWalk.i64_in _ (by omega); clear hj2; go_wp2_with fail
    refine (HRC.out _ (by exact HBj.out)).mono ?_; rintro e w2 ⟨rfl, q2, rfl⟩; go_wp2_with fail
    refine (HCT.out _ (by exact HMj.out)).mono ?_; rintro e w3 ⟨rfl, rfl⟩
    go_upto_region 7 with fail
    refine gen_wpT fun U hU => ?_; have HBX := zh (show ScB U g s j2 mb by rw [← hU]; exact ScB.set (by exact HBj.out) j2); have HFX := zh (show Fr [g] w U by rw [← hU]; exact (HFj.out.drewN _).setN _); have HRX := zh (show U.heap[b2]? = some (.cells #[.int .i64 0, .string ByteArray.empty, .int .i64 0, .int .i64 0, .int .i64 0] 65 (0, 0)) by rw [← hU]; exact blk_far (a := ⟨g, 1, none⟩) (by exact HRj.out) HBG.out.1 _); clear hU c1 cf cl; obtain ⟨r0, r1, r2, r3, r4, rf0, rf1, rf2, rf3, rf4, rl⟩ := blk_5 HRX.out; go_wp2
    obtain ⟨j0, j1, j2, j3, j4⟩ := tok_five HRX.out rfl (.int .i64 5) (.string sx) (.int .i64 0) (.int .i64 0) (.int .i64 0); refine bodyPost_ret (v := .agg #[.int .i64 5, .string sx, .int .i64 0, .int .i64 0, .int .i64 0]) (by simp [results, Tryz.results38, go_sem, j0, j1, j2, j3, j4]) rfl ?_; exact ⟨(Fr.set (a := ⟨b2, 4, none⟩) (Fr.set (a := ⟨b2, 3, none⟩) (Fr.set (a := ⟨b2, 2, none⟩) (Fr.set (a := ⟨b2, 1, none⟩) (Fr.set (a := ⟨b2, 0, none⟩) HFX.out (.int .i64 5) (.inr HBG.out.2)) (.string sx) (.inr HBG.out.2)) (.int .i64 0) (.inr HBG.out.2)) (.int .i64 0) (.inr HBG.out.2)) (.int .i64 0) (.inr HBG.out.2)), .inr ⟨_, _, _, 2, HTK.out, rfl, (by rw [← HJ2.out]; exact (blk_far (a := ⟨b2, 4, none⟩) (blk_far (a := ⟨b2, 3, none⟩) (blk_far (a := ⟨b2, 2, none⟩) (blk_far (a := ⟨b2, 1, none⟩) (blk_far (a := ⟨b2, 0, none⟩) HBX.out HBG.out.1.symm (.int .i64 5)) HBG.out.1.symm (.string sx)) HBG.out.1.symm (.int .i64 0)) HBG.out.1.symm (.int .i64 0)) HBG.out.1.symm (.int .i64 0)))⟩⟩
   | false =>
    have HS1 := zh (show signL l = sgn 1 l by rw [hr']; simp only [signL, sgn]; rw [if_neg (by rw [← hsb]; decide)]); clear hsb hr' hsx hsx2; go_wp2_with fail
    refine (HRC.out _ (by exact HBj.out)).mono ?_; rintro e w2 ⟨rfl, q2, rfl⟩; go_wp2_with fail
    refine (HCT.out _ (by exact HMj.out)).mono ?_; rintro e w3 ⟨rfl, rfl⟩; go_wp2_with fail
    go_roundw
    case rel => exact ⟨1, by omega, by omega, by go_num, HS1, HBj, HRj, zh (HFj.out.drewN _)⟩
    case measure => simp [intOf]
end Go.Proofs.YthobobmbileekaaGreatDoor
namespace Go.Proofs.YthobobmbileekaaGreatDoor
open Go.RowKit

def bC (l : List UInt8) : List Value := l.map fun b => Value.int .u8 (b.toNat : Int)
theorem bC_app (a b : List UInt8) : bC (a ++ b) = bC a ++ bC b := by simp [bC]
theorem bC_one (l : List UInt8) : ∀ u ∈ bC l, u.oneCell' = true := by
 intro u hu
 obtain ⟨b, _, rfl⟩ := List.mem_map.1 hu
 rfl
end Go.Proofs.YthobobmbileekaaGreatDoor
namespace Go.Proofs.YthobobmbileekaaGreatDoor
open Go.ChangeShapes Go.WideShapes Go.ChangeAt Go.RowKit

theorem infoU8 : (Tryz.prog.info? 5).map (fun i => (i.zero, i.size, i.bytes)) = some (some (.int .u8 0), 1, 1) := by kernel_rfl
theorem own_base {w : World} {base : Nat} {e : TypeId} {sz n : Nat} {v : Value} {xs : List Value} (h : w.ownsRow base e sz v n xs) (g : Nat) (hg : v.ownBlock = some g) : base ≤ g := by
 rcases h.2 with ⟨rfl, _⟩ | ⟨g', cap, cur, rfl, hb, _⟩
 ·simp [Value.ownBlock] at hg
 ·have : g' = g := by simpa [Value.ownBlock] using hg
  omega
theorem add_lit0 (g j : Nat) : ((⟨g, 0, none⟩ : Addr).add j) = ⟨g, j, none⟩ := by
 unfold Addr.add
 by_cases h : j = 0
 ·subst h; rfl
 ·rw [if_neg h]; simp
theorem bC_get {l : List UInt8} {j : Nat} (h : j < l.length) : (bC l)[j]? = some (.int .u8 (l[j].toNat : Int)) := by
 unfold bC
 rw [List.getElem?_map, List.getElem?_eq_getElem h]
 rfl
theorem u8_lit {c : UInt8} {n : Nat} (hn : n < 256) (h : c ≠ UInt8.ofNat n) : ((c.toNat : Int) == (n : Int)) = false := by
 rw [beq_eq_false_iff_ne]
 intro e
 apply h
 apply UInt8.toNat_inj.1
 rw [UInt8.toNat_ofNat', Nat.mod_eq_of_lt hn]
 omega

theorem conv_row {w : World} {base c : Nat} {A : Option Addr} {xs : List UInt8} (h : w.ownsRow base 5 1 (.slice A xs.length c) xs.length (bC xs)) :
  (convert 33 9 (.slice A xs.length c)).run Tryz.prog w = .ok (.string ⟨xs.toArray⟩) w := by
 obtain ⟨A', c', hv, h1, _, h3⟩ := own_form h
 injection hv with e1 e2 e3
 subst e1 e3
 cases A with
 | none =>
  have h0 : xs.length = 0 := by
   rcases Nat.eq_zero_or_pos xs.length with h | h
   ·exact h
   ·obtain ⟨gb, h4, _⟩ := h3 h
    cases h4
  obtain rfl : xs = [] := List.eq_nil_of_length_eq_zero h0; exact Lib.run_convert_nil_bytes w 33 9 5 c Tryz.underlying33 Tryz.underlying5 Tryz.underlying9
 | some a =>
  refine run_convert_bytes_back (P := Tryz.prog) w 33 9 5 a c xs Tryz.underlying33 Tryz.underlying5 Tryz.underlying9 (fun j hj => ?_); obtain ⟨gb, h4, _, _, _, h7⟩ := h3 (by omega)
  injection h4 with h4
  subst h4; rw [add_lit0]; exact h7 j _ (bC_get hj)
theorem tok_text {l r : List UInt8} (hl : l = 34 :: r) : tokenL l = match textL r with
  | none => .inl 52
  | some (x, n) => .inr (4, ⟨x.toArray⟩, 0, n + 1) := by
 subst hl
 rw [tokenL, if_neg (by decide), if_pos rfl]
 rcases textL r with _ | ⟨x, n⟩ <;> rfl
theorem hexO_at {s : ByteArray} {p : Nat} (h : p < s.size) : hexO s p = if hexV s[p].toNat < 16 then some (hexV s[p].toNat) else none := by unfold hexO; rw [byte_at h]
theorem hexO_out {s : ByteArray} {p : Nat} (h : ¬ p < s.size) : hexO s p = none := by unfold hexO; rw [List.getElem?_eq_none (by simp; omega)]
theorem or16 : ∀ (a b : Fin 16), bits .or .u8 ((16 * a.1 : Nat) : Int) (b.1 : Int) = ((16 * a.1 + b.1 : Nat) : Int) := by decide +kernel
theorem step_end {r : List UInt8} : stepT (34 :: r) = some none := by unfold stepT; simp
theorem step_bad {c : UInt8} {r : List UInt8} (h : c.toNat < 32 ∨ 126 < c.toNat) : stepT (c :: r) = none := by
 unfold stepT
 simp only
 rw [if_neg (by rintro rfl; revert h; decide), if_pos h]
theorem step_byte {c : UInt8} {r : List UInt8} (h1 : ¬ (c.toNat < 32 ∨ 126 < c.toNat)) (h2 : ¬ c = 34) (h3 : ¬ c = 92) : stepT (c :: r) = some (some (c, 1)) := by
 unfold stepT
 simp only
 rw [if_neg h2, if_neg h1, if_pos h3]
theorem step_esc {r : List UInt8} : stepT (92 :: r) = match r with
  | [] => none
  | d :: r2 => if d = 110 then some (some (10, 2)) else if d = 92 ∨ d = 34 then some (some (d, 2)) else if ¬ d = 120 then none else
   match r2 with
   | e :: f :: _ => if hexV e.toNat < 16 ∧ hexV f.toNat < 16 then some (some (UInt8.ofNat (16 * hexV e.toNat + hexV f.toNat), 4)) else none
   | _ => none := by
 rw [stepT.eq_def]
 simp only
 rw [if_neg (by decide), if_neg (by decide), if_neg (by decide)]
 cases r <;> rfl
theorem step_hex {s : ByteArray} {p : Nat} {r : List UInt8} (h : s.data.toList.drop p = 92 :: 120 :: r) : stepT (s.data.toList.drop p) = match hexO s (p + 2), hexO s (p + 3) with
  | some a, some b => some (some (UInt8.ofNat (16 * a + b), 4))
  | _, _ => none := by
 have hlen : s.data.toList.length = s.size := by simp
 have hr : s.data.toList.drop (p + 2) = r := by rw [← List.drop_drop, h]; rfl
 rw [h, step_esc]
 simp only
 rw [if_neg (by decide), if_neg (by decide), if_neg (by decide)]
 by_cases h2 : p + 2 < s.size
 ·rw [drop_at h2] at hr
  rw [hexO_at h2]; by_cases h3 : p + 3 < s.size
  ·rw [show p + 2 + 1 = p + 3 from rfl, drop_at h3] at hr
   rw [hexO_at h3, ← hr]; simp only
   by_cases k1 : hexV s[p + 2].toNat < 16
   ·by_cases k2 : hexV s[p + 3].toNat < 16
    ·rw [if_pos ⟨k1, k2⟩, if_pos k1, if_pos k2]
    ·rw [if_neg (fun h => k2 h.2), if_pos k1, if_neg k2]
   ·rw [if_neg (fun h => k1 h.1), if_neg k1]
  ·rw [show p + 2 + 1 = p + 3 from rfl, List.drop_eq_nil_of_le (by omega)] at hr
   rw [hexO_out h3, ← hr]; simp only
   cases (if hexV s[p + 2].toNat < 16 then some (hexV s[p + 2].toNat) else none) <;> rfl
 ·rw [List.drop_eq_nil_of_le (by omega)] at hr
  rw [hexO_out h2, ← hr]
theorem text_next {L : List UInt8} {i1 p n pn : Nat} {xs : List UInt8} {bb : UInt8} (h : textL (L.drop i1) = (textL (L.drop p)).map fun q => (xs ++ q.1, (p - i1) + q.2)) (hs : stepT (L.drop p) = some (some (bb, n))) (hi : i1 ≤ p) (hn : pn = p + n) :
  textL (L.drop i1) = (textL (L.drop pn)).map fun q => ((xs ++ [bb]) ++ q.1, (pn - i1) + q.2) := by
 rw [h, textL_on hs, List.drop_drop, Option.map_map, hn]
 congr 1
 funext q
 simp only [Function.comp, List.append_assoc, List.singleton_append]
 rw [show p - i1 + (n + q.2) = p + n - i1 + q.2 by omega]
theorem step_fit {s : ByteArray} {p n : Nat} {bb : UInt8} (h : stepT (s.data.toList.drop p) = some (some (bb, n))) (hp : p ≤ s.size) : 1 ≤ n ∧ p + n ≤ s.size := by
 have h1 := stepT_len h
 rw [List.length_drop] at h1
 have h2 : s.data.toList.length = s.size := by simp
 omega
end Go.Proofs.YthobobmbileekaaGreatDoor
