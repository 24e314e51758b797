/-
  Chapter 25: the program's Show (a strings.Builder).
-/
import Derived.Test.YthgcadikinfdiaaDoorTrF
set_option linter.unusedVariables false
set_option linter.unusedSimpArgs false
namespace Go.Proofs.YthgcadikinfdiaaDoor
open Go.ChangeShapes Go.WideShapes Go.ChangeAt Go.RowKit

theorem strCells_add (a b : ByteArray) : Lib.strCells a ++ Lib.strCells b = Lib.strCells (a ++ b) := by
  simp [Lib.strCells, ByteArray.data_append]
theorem builder_on {wr W : World} {o : Obj} {B b : Nat} {bs : List Value} (h : Lib.IsBuilder 46 5 B b bs wr) (hW : Below (wr.heap.size + 1) (wr.alloc o) W) : Lib.IsBuilder 46 5 B b bs W :=
  builder_below h (((Below.refl wr.heap.size wr).alloc (Nat.le_refl _) o).trans (hW.mono (Nat.le_succ _)))
theorem write_line (B : Nat) (S L : ByteArray) (w : World) (h : Lib.IsBuilder 46 5 B B (Lib.strCells S) w) (hz : S.size + L.size ≤ 140737488355328) (hB : B ≤ w.heap.size) :
    Calls Tryd.prog 21 #[.pointer (some ⟨B, 0, none⟩), .string L] w fun e w' => (∃ v, e = .returned v) ∧ Lib.IsBuilder 46 5 B B (Lib.strCells (S ++ L)) w' ∧ Below B w w' := by
  refine (Tryd.writeString B B (Lib.strCells S) L w h (by rw [Lib.strCells_length]; exact hz) hB).mono ?_
  rintro e w' ⟨rfl, hbu, hb⟩
  rw [strCells_add] at hbu
  exact ⟨⟨_, rfl⟩, .inr hbu, hb⟩
theorem write_on {w wr : World} {o : Obj} {S L S' : ByteArray} (hsn : S' = S ++ L) (hz : S.size + L.size ≤ 140737488355328) (hb2 : Below w.heap.size w (wr.alloc o)) (hB : Below w.heap.size w wr) (h : Lib.IsBuilder 46 5 w.heap.size w.heap.size (Lib.strCells S) wr) :
    ∀ W, Below (wr.heap.size + 1) (wr.alloc o) W → Calls Tryd.prog 21 #[.pointer (some ⟨w.heap.size, 0, none⟩), .string L] W fun e w' => (∃ v, e = .returned v) ∧ Lib.IsBuilder 46 5 w.heap.size w.heap.size (Lib.strCells S') w' ∧ Below w.heap.size w w' := fun W hW => by
  subst hsn
  have hW0 := hb2.trans (hW.mono (Nat.le_trans hB.size (Nat.le_succ _)))
  refine (write_line w.heap.size S L W (builder_on h hW) hz hW0.size).mono ?_
  rintro e w' ⟨h1, h2, h3⟩
  exact ⟨h1, h2, hW0.trans h3⟩
set_option maxRecDepth 100000 in
set_option maxHeartbeats 1000000 in
theorem show25_any (xs : List Ev) (A : Option Addr) (c : Nat) (w : World) (hr : Reads w w.heap.size A (xs.flatMap evEnc)) (hn : xs.length ≤ 1000) (hs : ∀ x ∈ xs, Small x) (ht : Tab w) :
    Calls Tryd.prog 15 #[.slice A xs.length c] w (RetB (.string (showE xs)) w) := by
  have HR := Lib.hid hr
  have HS := Lib.hid hs
  have HT := Lib.hid ht
  clear hr hs ht
  go_enter Tryd.func15, Tryd.ntmps15
  go_wp2
  go_loopw [8] (fun i wr => ∃ (k : Nat), k ≤ xs.length ∧ i = .int .i64 k ∧ Hid (Lib.IsBuilder 46 5 w.heap.size w.heap.size (Lib.strCells (showE (xs.take k))) wr) ∧ Below w.heap.size w wr) (fun i _ => xs.length - (intOf i).toNat)
  case atStart => exact ⟨0, by omega, rfl, Lib.hid (.inl ⟨Nat.le_refl _, _, heap_alloc_new w _, World.ownsRow_nil _ _ _ _, by simp [Value.ownBlock]⟩), (Below.refl _ _).alloc (Nat.le_refl _) _⟩
  case round =>
    obtain ⟨k, hk, rfl, HBu, hB⟩ := hrel
    have hsz := hB.size
    by_cases hlt : k < xs.length
    · obtain ⟨x, hx⟩ : ∃ x, xs[k]? = some x := ⟨_, List.getElem?_eq_getElem hlt⟩
      obtain ⟨ad, rfl, hadb, hcell⟩ := (HR.out.below hB).at (flatMap_ne (K := 4) (fun a => rfl) (by omega) hx)
      obtain ⟨hc0, hc1, hc2, hc3⟩ := ev_at hcell hx
      have hsn := showE_snoc hx
      have hsx := HS.out x (List.mem_of_getElem? hx)
      have hb2 := hB.alloc hsz (.cells #[.int .i64 x.channel, .int .i64 x.kind, .int .i64 x.n, .string x.s] 38)
      have hF : ∀ W, Below (wr.heap.size + 1) (wr.alloc (.cells #[.int .i64 x.channel, .int .i64 x.kind, .int .i64 x.n, .string x.s] 38)) W → Calls Tryd.prog 22 #[.int .i64 x.channel] W fun e w' => e = .returned (.string (numText x.channel)) ∧ Below (wr.heap.size + 1) (wr.alloc (.cells #[.int .i64 x.channel, .int .i64 x.kind, .int .i64 x.n, .string x.s] 38)) w' := fun W hW => by
        refine (nshow_any x.channel W hsx.1.1 hsx.1.2 (HT.out.below (hb2.trans (hW.mono (by omega))))).mono ?_
        rintro e w' ⟨rfl, hb⟩
        exact ⟨rfl, hW.trans (hb.mono (by have := hW.size; simp at this; omega))⟩
      have hG : ∀ W, Below (wr.heap.size + 1) (wr.alloc (.cells #[.int .i64 x.channel, .int .i64 x.kind, .int .i64 x.n, .string x.s] 38)) W → Calls Tryd.prog 23 #[.agg #[.int .i64 x.channel, .int .i64 x.kind, .int .i64 x.n, .string x.s]] W fun e w' => e = .returned (.string (textK x.kind x.n x.s)) ∧ Below (wr.heap.size + 1) (wr.alloc (.cells #[.int .i64 x.channel, .int .i64 x.kind, .int .i64 x.n, .string x.s] 38)) w' := fun W hW => by
        refine (text_any x.channel x.kind x.n x.s W hsx.2.1 hsx.2.2 (HT.out.below (hb2.trans (hW.mono (by omega))))).mono ?_
        rintro e w' ⟨rfl, hb⟩
        exact ⟨rfl, hW.trans (hb.mono (by have := hW.size; simp at this; omega))⟩
      have hz1 := numText_size x.channel hsx.1.1 hsx.1.2
      have hz2 := text_size x.kind x.n x.s hsx.2.1.1 hsx.2.1.2
      have hz3 := showE_size xs HS.out k (by omega)
      have hz4 := hsx.2.2
      have y1 : (⟨#[32]⟩ : ByteArray).size = 1 := rfl
      have y2 : (⟨#[10]⟩ : ByteArray).size = 1 := rfl
      unfold lineS at hsn
      generalize numText x.channel = N at hz1 hF hsn
      generalize textK x.kind x.n x.s = T at hz2 hG hsn
      generalize showE (xs.take k) = S at hz3 hsn HBu
      have hzz : S.size + (N ++ (⟨#[32]⟩ : ByteArray) ++ T ++ (⟨#[10]⟩ : ByteArray)).size ≤ 140737488355328 := by
        rw [ByteArray.size_append, ByteArray.size_append, ByteArray.size_append, y1, y2]
        omega
      have hH := write_on hsn hzz hb2 hB HBu.out
      have HH := Lib.hid hH
      have HF := Lib.hid hF
      have HG := Lib.hid hG
      have HSN := Lib.hid hsn
      have HB2 := Lib.hid hb2
      clear hF hG hH hsn hzz hsx hx hcell hb2 hB
      go_wp2_with fail
      go_region_with (first
        | (go_at_call 22; refine (HF.out _ (by first | exact Below.refl _ _ | exact below_drewN (Below.refl _ _) 1)).mono ?_; rintro e w1 ⟨rfl, hb1⟩; obtain ⟨f0, f1, f2, f3⟩ := evKept (x := x) (t := 38) hb1)
        | (go_at_call 23; refine (HG.out _ (by assumption)).mono ?_; rintro e w2 ⟨rfl, hb3⟩)
        | (go_at_call 21; refine (HH.out _ (by assumption)).mono ?_; rintro e w4 ⟨⟨v, rfl⟩, hb5, hb6⟩))
      all_goals go_wp2
      all_goals exact ⟨⟨k + 1, by omega, by go_num, Lib.hid hb5, hb6⟩, by simp [intOf]; omega⟩
    · obtain rfl : k = xs.length := by omega
      have hbu := HBu.out
      rw [List.take_length] at hbu
      have e : (⟨(showE xs).data.toList.toArray⟩ : ByteArray) = showE xs := by simp
      have hc := Tryd.Builder_String_any w.heap.size w.heap.size (showE xs).data.toList wr hbu hsz
      rw [e] at hc
      have HC := Lib.hid hc
      have HB := Lib.hid hB
      clear hc hbu e hB
      go_wp2_with (go_at_call 24; refine (HC.out).mono ?_; rintro e w' ⟨rfl, hb⟩)
      go_ret
      exact ⟨rfl, HB.out.trans hb⟩
end Go.Proofs.YthgcadikinfdiaaDoor
