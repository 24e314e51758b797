/-
  The scanner's parts: must, rest, hex.
-/
import Derived.Test.YtmjkelmlbihkpaaDoorLexP
import Derived.Test.YtmjkelmlbihkpaaDoorTyWords
import Derived.Test.YtmjkelmlbihkpaaDoorFr
import Derived.Defers
import Derived.Recover
import Derived.BigQuiet
import Derived.Deep.RegionHeld3
set_option linter.unusedVariables false
set_option linter.unusedSimpArgs false
namespace Go.Proofs.YtmjkelmlbihkpaaDoor
open Go.ChangeShapes Go.WideShapes Go.ChangeAt Go.RowKit

theorem gen_wpT {P : Program} {Q : Exit → Act → World → Prop} {c : Code} {a : Act} {w : World} (h : ∀ W, w = W → c.wp P Q a W) : c.wp P Q a w := h w rfl
theorem below_drewT {n : Nat} {w w' : World} (h : Below n w w') (m : Nat) : Below n w (w'.drewN m) := ⟨h.os, h.tape, h.output, h.size, h.block⟩
/-- The scanner's block: its text, its place, its words. -/
def ScB (w : World) (g : Nat) (s : ByteArray) (i mb : Nat) : Prop := w.heap[g]? = some (.cells #[.string s, .int .i64 (i : Int), .map (some mb)] 44 (0, 0))
section
variable {w w' : World} {g i mb : Nat} {s : ByteArray}
theorem ScB.c0 (h : ScB w g s i mb) : w.cell? ⟨g, 0, none⟩ = some (.string s) := cell_of_blk h rfl
theorem ScB.c1 (h : ScB w g s i mb) : w.cell? ⟨g, 1, none⟩ = some (.int .i64 (i : Int)) := cell_of_blk h rfl
theorem ScB.c2 (h : ScB w g s i mb) : w.cell? ⟨g, 2, none⟩ = some (.map (some mb)) := cell_of_blk h rfl
theorem ScB.lt (h : ScB w g s i mb) : g < w.heap.size := blk_lt h
theorem ScB.fr (h : ScB w g s i mb) : w.frozen? ⟨g, 1, none⟩ = false := free_of_blk h
theorem ScB.below (h : ScB w g s i mb) (hb : Below w.heap.size w w') : ScB w' g s i mb := below_blk hb h
theorem ScB.drewN (h : ScB w g s i mb) (n : Nat) : ScB (w.drewN n) g s i mb := h
theorem ScB.set (h : ScB w g s i mb) (j : Nat) : ScB (w.setCell ⟨g, 1, none⟩ (.int .i64 (j : Int))) g s j mb := blk_set (i := 1) h _
end
/-- What is left of a text from a place on. -/
def tailB (s : ByteArray) (i : Nat) : ByteArray := s.extract i s.size
theorem tailB_list (s : ByteArray) (i : Nat) : (tailB s i).data.toList = s.data.toList.drop i := by
  unfold tailB
  rw [ByteArray.data_extract, Array.toList_extract]
  simp only [List.extract]
  exact List.take_of_length_le (by simp)
theorem tailB_size (s : ByteArray) (i : Nat) : (tailB s i).size = s.size - i := by unfold tailB; simp
def wrongX (a n : Int) : List PanicEntry := [{ v := .iface 38 (.agg #[.int .i64 a, .int .i64 n]), recovered := false }]
theorem xmust_ok (x : Value) (a n : Int) (w : World) : Calls Tryd.prog 48 #[x, .bool true, .int .i64 a, .int .i64 n] w fun e w' => e = .returned (.tuple #[]) ∧ w = w' := by
  go_enter Tryd.func48, Tryd.ntmps48
  go_wp2
  go_end0
  exact ⟨rfl, rfl⟩
theorem xmust_no (x : Value) (a n : Int) (w : World) : Calls Tryd.prog 48 #[x, .bool false, .int .i64 a, .int .i64 n] w fun e w' => e = .panicked (wrongX a n) ∧ w = w' := by
  go_enter Tryd.func48, Tryd.ntmps48
  go_wp2
  exact ⟨rfl, rfl, rfl⟩
set_option maxRecDepth 100000 in
theorem xrest_any {g i mb : Nat} {s : ByteArray} (w : World) (h : ScB w g s i mb) (hi : i ≤ s.size) : Calls Tryd.prog 50 #[.pointer (some ⟨g, 0, none⟩)] w fun e w' => e = .returned (.string (tailB s i)) ∧ ∃ q, w' = w.drewN q := by
  have c0 := h.c0
  have c1 := h.c1
  have cl := h.lt
  have h0 : (0 : Int) ≤ i := by omega
  have h1 : (i : Int) ≤ (s.size : Int) := by omega
  go_enter Tryd.func50, Tryd.ntmps50
  go_wp2_with fail
  go_quiet (fail)
  go_wp2
  go_ret
  exact ⟨rfl, _, rfl⟩
theorem num_hex_all : ∀ c : Fin 256, numS ⟨#[48, 120, UInt8.ofNat c.1]⟩ = if hexV c.1 < 16 then some (hexV c.1 : Int) else none := by decide +kernel
theorem num_hex (c : UInt8) : numS ⟨#[48, 120, c]⟩ = if hexV c.toNat < 16 then some (hexV c.toNat : Int) else none := by
  have h := num_hex_all ⟨c.toNat, UInt8.toNat_lt c⟩
  simp only [UInt8.ofNat_toNat] at h
  exact h
/-- A hex digit at a place. -/
def hexO (s : ByteArray) (p : Nat) : Option Nat := match s.data.toList[p]? with
  | none => none
  | some c => if hexV c.toNat < 16 then some (hexV c.toNat) else none
def HexOut (s : ByteArray) (p : Nat) (fr : Int) (w : World) (e : Ending) (w' : World) : Prop := Below w.heap.size w w' ∧ ((∃ v, hexO s p = some v ∧ v < 16 ∧ e = .returned (.int .u8 (v : Int))) ∨ (hexO s p = none ∧ e = .panicked (wrongX fr 52)))
set_option maxRecDepth 100000 in
set_option maxHeartbeats 4000000 in
theorem xhex_any {g i mb : Nat} {s : ByteArray} (hs : s.size ≤ 1000000) (p : Nat) (hp : p ≤ 2000000) (fr : Int) (w : World) (h : ScB w g s i mb) : Calls Tryd.prog 49 #[.pointer (some ⟨g, 0, none⟩), .int .i64 (p : Int), .int .i64 fr] w (HexOut s p fr w) := by
  have c0 := h.c0
  have cl := h.lt
  by_cases hlt : p < s.size
  case neg =>
    have hn := Lib.hid (show hexO s p = none by unfold hexO; rw [List.getElem?_eq_none (by simp; omega)])
    have hd' : ¬ (p : Int) < (s.size : Int) := by omega
    clear hlt h
    go_enter Tryd.func49, Tryd.ntmps49
    go_wp2_with fail
    with_reducible refine (xmust_no _ _ _ _).mono ?_
    rintro e w1 ⟨rfl, rfl⟩
    go_wp2
    exact ⟨rfl, Below.refl _ _, .inr ⟨hn.out, rfl⟩⟩
  have hd' : (p : Int) < (s.size : Int) := by omega
  have hx := byte_at hlt
  obtain ⟨c, hc⟩ : ∃ c, c = s[p] := ⟨_, rfl⟩
  rw [← hc] at hx
  have hext : s.extract p (p + 1) = ⟨#[c]⟩ := by
    refine ByteArray.ext (Array.toList_inj.1 ?_)
    rw [ByteArray.data_extract, Array.toList_extract]
    have hl : p < s.data.toList.length := by simpa using hlt
    simp only [List.extract, Nat.add_sub_cancel_left]
    rw [List.drop_eq_getElem_cons hl, List.take_succ_cons, List.take_zero]
    rw [List.getElem?_eq_getElem hl] at hx
    rw [Option.some.inj hx]
  have hN : ∀ w, Calls Tryd.prog 47 #[.string (⟨#[48, 120]⟩ ++ ⟨#[c]⟩)] w (RetB (.tuple #[.int .i64 ((if hexV c.toNat < 16 then some (hexV c.toNat : Int) else none).getD 0), .bool (if hexV c.toNat < 16 then some (hexV c.toNat : Int) else none).isSome]) w) := fun w => by
    have := number_any ⟨#[48, 120, c]⟩ w (by show 3 ≤ maxLen; unfold maxLen; omega)
    rw [num_hex] at this
    exact this
  have h0 : (0 : Int) ≤ p := by omega
  have h1 : (p : Int) + 1 ≤ (s.size : Int) := by omega
  have h2 : (p : Int) ≤ (p : Int) + 1 := by omega
  have hw : IntKind.i64.wrap ((p : Int) + 1) = ((p + 1 : Nat) : Int) := by rw [show ((p : Int) + 1) = ((p + 1 : Nat) : Int) by omega]; exact IntWalk.i64_in _ (by omega)
  by_cases hv : hexV c.toNat < 16
  case neg =>
    have HO := Lib.hid (show hexO s p = none by unfold hexO; rw [hx]; simp [hv])
    rw [if_neg hv] at hN
    have HN := Lib.hid hN
    clear hN hv hx hc h hlt
    go_enter Tryd.func49, Tryd.ntmps49
    go_wp2_with fail
    with_reducible refine (xmust_ok _ _ _ _).mono ?_
    rintro e w1 ⟨rfl, rfl⟩
    go_wp2_with fail
    with_reducible refine (HN.out _).mono ?_
    rintro e w2 ⟨rfl, hb2⟩
    have HB := Lib.hid hb2
    clear hb2
    go_wp2_with fail
    with_reducible refine (xmust_no _ _ _ _).mono ?_
    rintro e w3 ⟨rfl, rfl⟩
    go_wp2
    exact ⟨rfl, HB.out, .inr ⟨HO.out, rfl⟩⟩
  have HO := Lib.hid (show hexO s p = some (hexV c.toNat) by unfold hexO; rw [hx]; simp [hv])
  have HV := Lib.hid hv
  rw [if_pos hv] at hN
  have HN := Lib.hid hN
  obtain ⟨v, hvv⟩ : ∃ v, v = hexV c.toNat := ⟨_, rfl⟩
  rw [← hvv] at HN HO HV
  have hcv : IntKind.u8.wrap (v : Int) = (v : Int) := by have := HV.out; rw [IntKind.wrap_u8]; omega
  clear hN hv hx hc h hlt hvv
  go_enter Tryd.func49, Tryd.ntmps49
  go_wp2_with fail
  with_reducible refine (xmust_ok _ _ _ _).mono ?_
  rintro e w1 ⟨rfl, rfl⟩
  go_wp2_with fail
  with_reducible refine (HN.out _).mono ?_
  rintro e w2 ⟨rfl, hb2⟩
  have HB := Lib.hid hb2
  clear hb2
  go_wp2_with fail
  with_reducible refine (xmust_ok _ _ _ _).mono ?_
  rintro e w3 ⟨rfl, rfl⟩
  go_wp2
  go_ret
  exact ⟨HB.out, .inl ⟨v, HO.out, HV.out, rfl⟩⟩
end Go.Proofs.YtmjkelmlbihkpaaDoor
