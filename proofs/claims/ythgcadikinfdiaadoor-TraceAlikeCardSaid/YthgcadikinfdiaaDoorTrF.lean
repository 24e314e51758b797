/-
  Chapter 25: Show, both.
-/
import Derived.Test.YthgcadikinfdiaaDoorTrE
import Derived.Test.YthgcadikinfdiaaDoorTrS
import Derived.Deep.RegionWith
set_option linter.unusedVariables false
set_option linter.unusedSimpArgs false
namespace Go.Proofs.YthgcadikinfdiaaDoor
open Go.ChangeShapes Go.WideShapes Go.ChangeAt Go.RowKit

theorem builder_below {w w' : World} {B b : Nat} {bs : List Value} (h : Lib.IsBuilder 46 5 B b bs w) (hb : Below w.heap.size w w') : Lib.IsBuilder 46 5 B b bs w' :=
  h.imp (fun ⟨h1, v, h2, h3, h4⟩ => ⟨h1, v, below_blk hb h2, below_own hb h3, h4⟩) (fun ⟨h1, v, h2, h3, h4⟩ => ⟨h1, v, below_blk hb h2, below_own hb h3, h4⟩)
theorem evCell (w : World) (x : Ev) (t : TypeId) : (w.alloc (.cells #[.int .i64 x.channel, .int .i64 x.kind, .int .i64 x.n, .string x.s] t)).heap[w.heap.size]? = some (.cells #[.int .i64 x.channel, .int .i64 x.kind, .int .i64 x.n, .string x.s] t (0, 0)) := heap_alloc_new w _
theorem evKept {w w1 : World} {x : Ev} {t : TypeId} (hb : Below (w.heap.size + 1) (w.alloc (.cells #[.int .i64 x.channel, .int .i64 x.kind, .int .i64 x.n, .string x.s] t)) w1) :
    w1.cell? ⟨w.heap.size, 0, none⟩ = some (.int .i64 x.channel) ∧ w1.cell? ⟨w.heap.size, 1, none⟩ = some (.int .i64 x.kind) ∧ w1.cell? ⟨w.heap.size, 2, none⟩ = some (.int .i64 x.n) ∧ w1.cell? ⟨w.heap.size, 3, none⟩ = some (.string x.s) := by
  have h := (hb.block w.heap.size (by omega)).trans (evCell w x t)
  exact ⟨cell_of_blk h rfl, cell_of_blk h rfl, cell_of_blk h rfl, cell_of_blk h rfl⟩
set_option maxRecDepth 100000 in
set_option maxHeartbeats 4000000 in
theorem rshow25_any (xs : List Ev) (A : Option Addr) (c : Nat) (w : World) (hr : Reads w w.heap.size A (xs.flatMap evEnc)) (hn : xs.length ≤ 1000) (hs : ∀ x ∈ xs, Small x) (ht : Tab w) :
    Calls Tryd.prog 16 #[.slice A xs.length c] w (RetB (.string (showE xs)) w) := by
  have HR := Lib.hid hr
  have HS := Lib.hid hs
  have HT := Lib.hid ht
  clear hr hs ht
  go_enter Tryd.func16, Tryd.ntmps16
  go_wp2
  go_loopw [3, 8] (fun v i wr => ∃ (k : Nat), k ≤ xs.length ∧ i = .int .i64 k ∧ v = .string (showE (xs.take k)) ∧ Below w.heap.size w wr) (fun _ i _ => xs.length - (intOf i).toNat)
  case atStart => exact ⟨0, by omega, rfl, rfl, Below.refl _ _⟩
  case round =>
    obtain ⟨k, hk, rfl, rfl, hB⟩ := hrel
    have hsz := hB.size
    by_cases hlt : k < xs.length
    · obtain ⟨x, hx⟩ : ∃ x, xs[k]? = some x := ⟨_, List.getElem?_eq_getElem hlt⟩
      obtain ⟨ad, rfl, hadb, hcell⟩ := (HR.out.below hB).at (flatMap_ne (K := 4) (fun a => rfl) (by omega) hx)
      obtain ⟨hc0, hc1, hc2, hc3⟩ := ev_at hcell hx
      have hsn := showE_snoc hx
      have hsx := HS.out x (List.mem_of_getElem? hx)
      have hb2 := hB.alloc hsz (.cells #[.int .i64 x.channel, .int .i64 x.kind, .int .i64 x.n, .string x.s] 38)
      have hF : ∀ W, Below (wr.heap.size + 1) (wr.alloc (.cells #[.int .i64 x.channel, .int .i64 x.kind, .int .i64 x.n, .string x.s] 38)) W → Calls Tryd.prog 25 #[.int .i64 x.channel] W fun e w' => e = .returned (.string (numText x.channel)) ∧ Below (wr.heap.size + 1) (wr.alloc (.cells #[.int .i64 x.channel, .int .i64 x.kind, .int .i64 x.n, .string x.s] 38)) w' := fun W hW => by
        refine (rshow_any x.channel W hsx.1.1 hsx.1.2 (HT.out.below (hb2.trans (hW.mono (by omega))))).mono ?_
        rintro e w' ⟨rfl, hb⟩
        exact ⟨rfl, hW.trans (hb.mono (by have := hW.size; simp at this; omega))⟩
      have hG : ∀ W, Below (wr.heap.size + 1) (wr.alloc (.cells #[.int .i64 x.channel, .int .i64 x.kind, .int .i64 x.n, .string x.s] 38)) W → Calls Tryd.prog 26 #[.agg #[.int .i64 x.channel, .int .i64 x.kind, .int .i64 x.n, .string x.s]] W fun e w' => e = .returned (.string (textK x.kind x.n x.s)) ∧ Below (wr.heap.size + 1) (wr.alloc (.cells #[.int .i64 x.channel, .int .i64 x.kind, .int .i64 x.n, .string x.s] 38)) w' := fun W hW => by
        refine (rvalue_any x.channel x.kind x.n x.s W hsx.2.1 hsx.2.2 (HT.out.below (hb2.trans (hW.mono (by omega))))).mono ?_
        rintro e w' ⟨rfl, hb⟩
        exact ⟨rfl, hW.trans (hb.mono (by have := hW.size; simp at this; omega))⟩
      have hz1 := numText_size x.channel hsx.1.1 hsx.1.2
      have hz2 := text_size x.kind x.n x.s hsx.2.1.1 hsx.2.1.2
      have hz3 := showE_size xs HS.out k (by omega)
      have hz4 := hsx.2.2
      have y1 : (⟨#[32]⟩ : ByteArray).size = 1 := rfl
      have y2 : (⟨#[10]⟩ : ByteArray).size = 1 := rfl
      unfold lineS at hsn
      generalize numText x.channel = N at hz1 hF hsn
      generalize textK x.kind x.n x.s = T at hz2 hG hsn
      generalize showE (xs.take k) = S at hz3 hsn ⊢
      have HF := Lib.hid hF
      have HG := Lib.hid hG
      have HSN := Lib.hid hsn
      have HB2 := Lib.hid hb2
      clear hF hG hsn hsx hx hcell hb2 hB
      go_wp2_with fail
      go_region_with (first
        | (go_at_call 25; refine (HF.out _ (by first | exact Below.refl _ _ | exact below_drewN (Below.refl _ _) 1)).mono ?_; rintro e w1 ⟨rfl, hb1⟩; obtain ⟨f0, f1, f2, f3⟩ := evKept (x := x) (t := 38) hb1)
        | (go_at_call 26; refine (HG.out _ (by assumption)).mono ?_; rintro e w2 ⟨rfl, hb3⟩))
      all_goals go_wp2
      all_goals exact ⟨⟨k + 1, by omega, by go_num, by rw [HSN.out], HB2.out.trans (hb3.mono (by omega))⟩, by simp [intOf]; omega⟩
    · obtain rfl : k = xs.length := by omega
      rw [List.take_length]
      go_wp2
      go_ret
      exact ⟨rfl, hB⟩
end Go.Proofs.YthgcadikinfdiaaDoor
