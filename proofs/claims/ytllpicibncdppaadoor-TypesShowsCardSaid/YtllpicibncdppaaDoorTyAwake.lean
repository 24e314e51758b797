/-
  Chapter 9's example.
-/
import Derived.Test.YtllpicibncdppaaDoorTyShowW
import Derived.RegionTactic
import Derived.ChangeAlike
set_option linter.unusedVariables false
set_option linter.unusedSimpArgs false
namespace Go.Proofs.YtllpicibncdppaaDoor
open Go.ChangeShapes Go.WideShapes Go.ChangeAt Go.RowKit

/-- The example's type. -/
def tyEx : Ty := .mk 8 [⟨#[97]⟩, ⟨#[98]⟩] [.mk 7 [] [.mk 1 [] [], .mk 4 [] []], .mk 3 [] []]
theorem at2E {a b : Ty} {i : Nat} {x : Ty} {k : Int} {ns : List ByteArray} (h : (Ty.mk k ns [a, b]).args[i]? = some x) : (i = 0 ∧ x = a) ∨ (i = 1 ∧ x = b) := by
  change [a, b][i]? = some x at h
  match i, h with
  | 0, h => exact .inl ⟨rfl, by simpa using h.symm⟩
  | 1, h => exact .inr ⟨rfl, by simpa using h.symm⟩
  | n + 2, h => simp at h
theorem name_one (c : UInt8) (h : letterN c.toNat = true) (hs : (⟨#[c]⟩ : ByteArray) ∉ wordsL) : NameOk ⟨#[c]⟩ := ⟨hs, fun d hd => by
  have : d = c := by simpa using hd
  subst this
  unfold partN
  rw [h]; rfl, c, rfl, h⟩
theorem notw (c : UInt8) : (⟨#[c]⟩ : ByteArray) ∉ wordsL := fun h => by
  have h2 : (⟨#[c]⟩ : ByteArray).size ∈ wordsL.map ByteArray.size := List.mem_map_of_mem h
  have h3 : wordsL.map ByteArray.size = [3, 5, 7, 2, 4, 6, 3, 5, 8, 2, 5, 3, 3, 2, 6, 4, 4, 5] := by decide +kernel
  rw [h3] at h2
  have h4 : (⟨#[c]⟩ : ByteArray).size = 1 := rfl
  rw [h4] at h2
  simp at h2
theorem chkU (n : Nat) : Chk (n + 2) (.mk 7 [] [.mk 1 [] [], .mk 4 [] []]) := by
  refine ⟨.inr (.inl ⟨rfl, rfl, by decide⟩), fun i a ha => ?_⟩
  rcases at2E ha with ⟨rfl, rfl⟩ | ⟨rfl, rfl⟩
  · exact ⟨⟨fun _ => ⟨by decide, by decide, fun b h => by omega⟩, fun e => by cases e⟩, leaf_chk (by omega) (by omega)⟩
  · refine ⟨⟨fun _ => ⟨by decide, by decide, fun b _ hb => ?_⟩, fun e => by cases e⟩, leaf_chk (by omega) (by omega)⟩
    have : b = .mk 1 [] [] := by simpa [Ty.args] using hb.symm
    subst this
    decide
theorem may_ex : May tyEx := by
  refine ⟨⟨.inr (.inr (.inl ⟨rfl, rfl⟩)), fun i a ha => ?_⟩, by decide +kernel⟩
  rcases at2E ha with ⟨rfl, rfl⟩ | ⟨rfl, rfl⟩
  · refine ⟨⟨fun e => (by cases e), fun _ => ⟨⟨by decide, by decide⟩, fun s hs => ?_⟩⟩, chkU 47⟩
    have : s = ⟨#[97]⟩ := by simpa [tyEx, Ty.names] using hs.symm
    subst this
    exact ⟨name_one _ (by decide) (notw _), fun r h => by omega⟩
  · refine ⟨⟨fun e => (by cases e), fun _ => ⟨⟨by decide, by decide⟩, fun s hs => ?_⟩⟩, leaf_chk (by omega) (by omega)⟩
    have : s = ⟨#[98]⟩ := by simpa [tyEx, Ty.names] using hs.symm
    subst this
    refine ⟨name_one _ (by decide) (notw _), fun r _ hr => ?_⟩
    have : r = ⟨#[97]⟩ := by simpa [tyEx, Ty.names] using hr.symm
    subst this
    decide +kernel
theorem union9 : unionT (kindsN 9) = .mk 7 [] [.mk 1 [] [], .mk 4 [] []] := by rfl
theorem show_ex : showT tyEx = [123, 97, 58, 32, 110, 105, 108, 32, 124, 32, 115, 116, 114, 105, 110, 103, 44, 32, 98, 58, 32, 105, 110, 116, 125] := by rfl
theorem wt_ex : wt tyEx ≤ 1000000 := by decide +kernel
def ty9 (a b : Nat) (r : LTy) : LTy := .mk 8 (some ⟨a, 0, none⟩) 2 [⟨#[97]⟩, ⟨#[98]⟩] (some ⟨b, 0, none⟩) 2 [r, leaf 3]
theorem strip_ty9 (a b : Nat) (r : LTy) (h : strip r = .mk 7 [] [.mk 1 [] [], .mk 4 [] []]) : strip (ty9 a b r) = tyEx := by
  rw [strip_mk]
  show Ty.mk 8 [⟨#[97]⟩, ⟨#[98]⟩] [strip r, strip (leaf 3)] = _
  rw [h, strip_leaf]; rfl
theorem ty9_in {w : World} {a b : Nat} {r : LTy} (ha : w.heap[a]? = some (.cells #[.string ⟨#[97]⟩, .string ⟨#[98]⟩] 9))
    (hb : w.heap[b]? = some (.cells #[.int .i64 r.kind, .slice r.A r.ns.length r.c, .slice r.A2 r.xs.length r.c2, .int .i64 3, .slice none 0 0, .slice none 0 0] 26)) (hr : LIn w w.heap.size r) : LIn w w.heap.size (ty9 a b r) := by
  have key : ∀ {b : Nat} {cs : Array Value} {e : TypeId}, w.heap[b]? = some (.cells cs e (0, 0)) → ∀ (j : Nat) (u : Value), cs.toList[j]? = some u → w.cell? ((⟨b, 0, none⟩ : Addr).add j) = some u := fun h j u hu => by
    have := cell_of_blk h (v := u) (i := j) (by rw [← Array.getElem?_toList]; exact hu)
    unfold Addr.add
    split
    · rename_i e; subst e; exact this
    · simpa using this
  refine .mk (.inr ⟨⟨a, 0, none⟩, rfl, blk_lt ha, fun j u hu => key ha j u hu⟩) (.inr ⟨⟨b, 0, none⟩, rfl, blk_lt hb, fun j u hu => key hb j u hu⟩) (Nat.le_refl _) (by show 2 ≤ 8796093022208; omega) (Nat.le_refl _) (by show 2 ≤ 8796093022208; omega) (fun s hs => ?_) (fun e => by cases e) (fun x hx => ?_)
  · have : s = ⟨#[97]⟩ ∨ s = ⟨#[98]⟩ := by simpa [ty9, LTy.ns] using hs
    rcases this with rfl | rfl <;> decide
  · have : x = r ∨ x = leaf 3 := by simpa [ty9, LTy.xs] using hx
    rcases this with rfl | rfl
    · exact hr
    · exact leaf_in _ _ _
set_option maxRecDepth 100000 in
set_option maxHeartbeats 16000000 in
theorem awake09_any (w : World) (hsp : SpW w) : Calls Tryd.prog 16 #[] w (RetB (.bool true) w) := by
  have HSP := Lib.hid hsp
  clear hsp
  obtain ⟨a, ha⟩ : ∃ a, a = w.heap.size := ⟨_, rfl⟩
  go_enter Tryd.func16, Tryd.ntmps16
  go_wp2_with fail
  with_reducible refine (tunion_any 9 _).mono ?_
  rintro e w2 ⟨r, rfl, hlr, hsr, hb2⟩
  unfold LTy.val
  go_upto_region 2 with fail
  obtain ⟨b, hb⟩ : ∃ b, b = w2.heap.size := ⟨_, rfl⟩
  rw [← hb, ← ha]
  refine gen_wpT fun W hW => ?_
  have hr2 := hlr _ (Stays.refl _ _ _)
  have hWb : Below w2.heap.size w2 W := by rw [← hW]; exact ((Below.refl _ _).alloc (Nat.le_refl _) _).alloc (by simp) _
  have hrow : W.heap[b]? = some (.cells #[.int .i64 r.kind, .slice r.A r.ns.length r.c, .slice r.A2 r.xs.length r.c2, .int .i64 3, .slice none 0 0, .slice none 0 0] 26) := by rw [← hW, hb]; exact blk_alloc (heap_new_at _ _ _ rfl) _
  have hbox : TBox W (b + 1) (ty9 a b r) := by rw [← hW]; exact heap_new_at _ _ _ (by simp [hb])
  have hnm : W.heap[a]? = some (.cells #[.string ⟨#[97]⟩, .string ⟨#[98]⟩] 9) := by rw [ha]; exact below_blk hWb (below_blk hb2 (heap_new_at _ _ _ rfl))
  have hK : Below w.heap.size w W := ((Below.refl _ _).alloc (Nat.le_refl _) _).trans ((hb2.mono (by simp)).trans (hWb.mono (by have := hb2.size; simp at this; omega)))
  have hin : LIn W W.heap.size (ty9 a b r) := ty9_in hnm hrow (hr2.on hWb)
  have hst : strip (ty9 a b r) = tyEx := strip_ty9 _ _ _ (hsr.trans union9)
  have HIN := Lib.hid hin
  have HST := Lib.hid hst
  have X0 := Lib.hid hbox
  have Z0 := Lib.hid hK
  have HS0 := Lib.hid (HSP.out.below hK)
  clear hW hr2 hWb hrow hbox hnm hK hin hst hb2 hsr hlr hb ha
  have C1 := Lib.hid (show ∀ w', Below W.heap.size W w' → Calls Tryd.prog 45 #[.agg #[.int .i64 8, .slice (some ⟨a, 0, none⟩) 2 2, .slice (some ⟨b, 0, none⟩) 2 2]] w' (RetB (.bool true) w') from fun w' hb => by
    have := tcheck_any (ty9 a b r) w' (HIN.out.on hb) (HS0.out.below hb)
    rw [HST.out, tb_true may_ex] at this
    exact this)
  have C2 := Lib.hid (show ∀ w', Below W.heap.size W w' → Calls Tryd.prog 31 #[.agg #[.int .i64 8, .slice (some ⟨a, 0, none⟩) 2 2, .slice (some ⟨b, 0, none⟩) 2 2]] w' (RetB (.string ⟨#[123, 97, 58, 32, 110, 105, 108, 32, 124, 32, 115, 116, 114, 105, 110, 103, 44, 32, 98, 58, 32, 105, 110, 116, 125]⟩) w') from fun w' hb => by
    have := tShow_any (ty9 a b r) w' (HIN.out.on hb) (HS0.out.below hb) (fun _ => by rw [HST.out]; exact wt_ex)
    rw [HST.out] at this
    unfold showS at this
    rw [if_pos may_ex, show_ex] at this
    exact this)
  have C3 := Lib.hid (show ∀ w', Below W.heap.size W w' → Calls Tryd.prog 20 #[.agg #[.int .i64 8, .slice (some ⟨a, 0, none⟩) 2 2, .slice (some ⟨b, 0, none⟩) 2 2]] w' (RetB (.int .i64 16) w') from fun w' hb => by
    have := tkinds_any (ty9 a b r) w' (HIN.out.on hb) (HS0.out.below hb)
    rw [HST.out, kindsV_yes may_ex] at this
    exact this)
  have k0 : W.cell? ⟨b + 1, 0, none⟩ = some (.int .i64 8) := X0.out.c0
  have k1 : W.cell? ⟨b + 1, 1, none⟩ = some (.slice (some ⟨a, 0, none⟩) 2 2) := X0.out.c1
  have k2 : W.cell? ⟨b + 1, 2, none⟩ = some (.slice (some ⟨b, 0, none⟩) 2 2) := X0.out.c2
  have kl := X0.out.lt
  go_wp2_with fail
  with_reducible refine (C1.out _ (Below.refl _ _)).mono ?_
  rintro e v1 ⟨rfl, hb1⟩
  have X1 := Lib.hid (X0.out.below hb1)
  have Z1 := Lib.hid hb1
  clear hb1 k0 k1 k2 kl
  have k0 : v1.cell? ⟨b + 1, 0, none⟩ = some (.int .i64 8) := X1.out.c0
  have k1 : v1.cell? ⟨b + 1, 1, none⟩ = some (.slice (some ⟨a, 0, none⟩) 2 2) := X1.out.c1
  have k2 : v1.cell? ⟨b + 1, 2, none⟩ = some (.slice (some ⟨b, 0, none⟩) 2 2) := X1.out.c2
  have kl := X1.out.lt
  go_wp2_with fail
  with_reducible refine (C2.out _ Z1.out).mono ?_
  rintro e v2 ⟨rfl, hb2⟩
  have X2 := Lib.hid (X1.out.below hb2)
  have Z2 := Lib.hid (Z1.out.trans (hb2.mono Z1.out.size))
  clear hb2 k0 k1 k2 kl
  have k0 : v2.cell? ⟨b + 1, 0, none⟩ = some (.int .i64 8) := X2.out.c0
  have k1 : v2.cell? ⟨b + 1, 1, none⟩ = some (.slice (some ⟨a, 0, none⟩) 2 2) := X2.out.c1
  have k2 : v2.cell? ⟨b + 1, 2, none⟩ = some (.slice (some ⟨b, 0, none⟩) 2 2) := X2.out.c2
  have kl := X2.out.lt
  go_wp2_with fail
  with_reducible refine (C3.out _ Z2.out).mono ?_
  rintro e v3 ⟨rfl, hb3⟩
  go_wp2
  go_ret
  exact ⟨rfl, Z0.out.trans ((Z2.out.trans (hb3.mono Z2.out.size)).mono Z0.out.size)⟩
end Go.Proofs.YtllpicibncdppaaDoor
