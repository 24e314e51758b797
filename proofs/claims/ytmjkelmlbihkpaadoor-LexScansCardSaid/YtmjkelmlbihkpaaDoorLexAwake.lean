/-
  Chapter 5's examples.
-/
import Derived.Test.YtmjkelmlbihkpaaDoorLexScan
set_option linter.unusedVariables false
set_option linter.unusedSimpArgs false
namespace Go.Proofs.YtmjkelmlbihkpaaDoor
open Go.ChangeShapes Go.WideShapes Go.ChangeAt Go.RowKit

/-- What the laws ask of the world: the blanks' table, the library's longest needle. -/
def LexW (w : World) : Prop := SpW w ∧ ∃ m, MaxC w m
theorem LexW.below {w w' : World} (h : LexW w) (hb : Below w.heap.size w w') : LexW w' := ⟨h.1.below hb, h.2.imp fun m hm => hm.below hb⟩
theorem scan_anyW (s : ByteArray) (w : World) (h : LexW w) : Calls Tryd.prog 10 #[.string s] w (ScanOut s w) := by
  obtain ⟨h1, m, h2⟩ := h
  exact scan_any s m w h1 h2
def toksEx : List Tok := [⟨1, ⟨#[120]⟩, 0, 1, 0⟩, ⟨5, ⟨#[46, 46]⟩, 1, 3, 0⟩, ⟨3, ⟨#[49]⟩, 3, 4, 1⟩, ⟨0, ⟨#[]⟩, 4, 4, 0⟩]
theorem scan_ex1 : scanL (⟨#[120, 46, 46, 49]⟩ : ByteArray).data.toList = .inr toksEx := by kernel_rfl
theorem scan_ex2 : scanL (⟨#[97, 32, 33, 32, 98]⟩ : ByteArray).data.toList = .inl (2, 50) := by rfl
theorem quote_ex : quoteS ⟨#[97, 10]⟩ = ⟨#[34, 97, 92, 110, 34]⟩ := by rfl
set_option maxRecDepth 100000 in
set_option maxHeartbeats 8000000 in
theorem awake05_any (w : World) (hw : LexW w) : Calls Tryd.prog 9 #[] w (RetB (.bool true) w) := by
  have HW := Lib.hid hw
  clear hw
  go_enter Tryd.func9, Tryd.ntmps9
  go_wp2_with fail
  refine (scan_anyW ⟨#[120, 46, 46, 49]⟩ w HW.out).mono ?_
  rintro e w1 ⟨hb1, ⟨h, _⟩ | ⟨_, p, er, h, _⟩ | ⟨_, toks, A, c, h, rfl, hr, hc, _⟩⟩
  · exact absurd h (by decide)
  · rw [scan_ex1] at h; cases h
  rw [scan_ex1] at h
  injection h with h
  subst h
  have h4 : toksEx.length = 4 := rfl
  rw [h4] at hc ⊢
  have HB1 := Lib.hid hb1
  have HR := Lib.hid hr
  clear h4 hb1 hr
  go_wp2_with fail
  refine (scan_anyW ⟨#[97, 32, 33, 32, 98]⟩ w1 (HW.out.below HB1.out)).mono ?_
  rintro e w2 ⟨hb2, ⟨h, _⟩ | ⟨_, p, er, h, rfl⟩ | ⟨_, toks, A2, c2, h, _⟩⟩
  · exact absurd h (by decide)
  · rw [scan_ex2] at h
    injection h with h
    injection h with h1 h2
    subst h1 h2
    obtain ⟨ad, rfl, hab, hcell⟩ := (Reads.below HR.out hb2).at (by simp [toksEx, tkEnc])
    have x1 : w2.cell? ⟨ad.block, ad.off + 5 + 1, none⟩ = some (.string ⟨#[46, 46]⟩) := elem_at (K := 5) tkEnc_len hcell (show toksEx[1]? = some ⟨5, ⟨#[46, 46]⟩, 1, 3, 0⟩ from rfl) 1 (by omega) (by omega) rfl
    have x2 : w2.cell? ⟨ad.block, ad.off + 10 + 4, none⟩ = some (.int .i64 1) := elem_at (K := 5) tkEnc_len hcell (show toksEx[2]? = some ⟨3, ⟨#[49]⟩, 3, 4, 1⟩ from rfl) 4 (by omega) (by omega) rfl
    have hl1 : ad.block < w2.heap.size := by exact Nat.lt_of_lt_of_le hab hb2.size
    have HB2 := Lib.hid (HB1.out.trans (hb2.mono HB1.out.size))
    have hq := fun w => quote_any ⟨#[97, 10]⟩ (by show 2 ≤ 35000000000000; omega) w
    rw [quote_ex] at hq
    have HQ := Lib.hid hq
    have hc1 : (1 : Int) < 4 := by decide
    clear hb2 hcell hq
    go_wp2_with fail
    refine (HQ.out _).mono ?_
    rintro e w3 ⟨rfl, hb3⟩
    go_wp2
    go_ret
    exact ⟨rfl, HB2.out.trans (hb3.mono HB2.out.size)⟩
  · rw [scan_ex2] at h; cases h
end Go.Proofs.YtmjkelmlbihkpaaDoor
