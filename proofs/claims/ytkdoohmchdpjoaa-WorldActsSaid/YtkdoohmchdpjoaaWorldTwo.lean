/-
  Chapter 23: both worlds in one memory, apart from one another; lists of events alike.
-/
import Derived.Test.YtkdoohmchdpjoaaWorldFr2
set_option linter.unusedVariables false
set_option linter.unusedSimpArgs false
namespace Go.Proofs.Ytkdoohmchdpjoaa
open Go.ChangeShapes Go.WideShapes Go.ChangeAt Go.RowKit

theorem row_blk {w : World} {base b : Nat} {e : TypeId} {K n : Nat} {v : Value} {xs : List Value} (ho : w.ownsRow base e K v n xs) (hb : v.ownBlock = some b) : ∃ cur, w.heap[b]? = some (.cells cur e (0, 0)) := by
  rcases ho.2 with ⟨rfl, _⟩ | ⟨g', cap, cur, rfl, _, hh, _⟩
  · simp [Value.ownBlock] at hb
  · obtain rfl : g' = b := by simpa [Value.ownBlock] using hb
    exact ⟨cur, hh⟩
theorem row_move {w w' : World} {base : Nat} {e : TypeId} {K n : Nat} {v : Value} {xs : List Value} (ho : w.ownsRow base e K v n xs) (h : ∀ b, v.ownBlock = some b → w'.heap[b]? = w.heap[b]?) : w'.ownsRow base e K v n xs := by
  refine ⟨ho.1, ho.2.imp id ?_⟩
  rintro ⟨g, cap, cur, rfl, hg, hh, r⟩
  exact ⟨g, cap, cur, rfl, hg, (h g rfl).trans hh, r⟩
theorem cell24 {w : World} {B g : Nat} {P : List CV} {v : Value} (h8 : P.length = 8) (hb : w.heap[g]? = some (.cells (P.flatMap chEnc ++ [v]).toArray 93 (0, 0))) : w.cell? ⟨g, 24, none⟩ = some v := by
  have hl24 : (P.flatMap chEnc).length = 24 := by rw [flatMap_len (K := 3) (fun _ => rfl), h8]
  exact cell_of_blk hb (by rw [List.getElem?_toArray, List.getElem?_append_right (by omega), hl24]; rfl)
/-- Both worlds. -/
structure St23 (N g gr : Nat) (s : Nat → Sl Int) (P Q : List CV) (ev fv : List Ev) (w : World) : Prop where
  W : WorldIn w N g P ev
  R : RefWIn w N gr s Q fv
  D : ∀ b, EvB w g b → ¬ EvB w gr b
  n : N ≤ w.heap.size
section
variable {N g gr : Nat} {s : Nat → Sl Int} {P Q P' Q' : List CV} {ev fv ev' fv' : List Ev} {w w' : World}
theorem St23.g_lt (h : St23 N g gr s P Q ev fv w) : g < w.heap.size := h.W.own.elim fun v h => blk_lt h.1
theorem St23.gr_lt (h : St23 N g gr s P Q ev fv w) : gr < w.heap.size := h.R.own.elim fun v h => blk_lt h.1
theorem St23.evW (h : St23 N g gr s P Q ev fv w) {b : Nat} (hb : EvB w g b) : ∃ cur, w.heap[b]? = some (.cells cur 98 (0, 0)) := by
  obtain ⟨v, h1, h2⟩ := h.W.own
  obtain ⟨v', h3, h4⟩ := hb
  rw [cell24 (B := N) h.W.eight h1] at h3
  obtain rfl := Option.some.inj h3
  exact row_blk h2 h4
theorem St23.evR (h : St23 N g gr s P Q ev fv w) {b : Nat} (hb : EvB w gr b) : ∃ cur, w.heap[b]? = some (.cells cur 98 (0, 0)) := by
  obtain ⟨v, h1, h2⟩ := h.R.own
  obtain ⟨v', h3, h4⟩ := hb
  rw [show w.cell? ⟨gr, 24, none⟩ = some v from cell_of_blk h1 rfl] at h3
  obtain rfl := Option.some.inj h3
  exact row_blk h2 h4
theorem St23.below (h : St23 N g gr s P Q ev fv w) (hb : Below w.heap.size w w') : St23 N g gr s P Q ev fv w' :=
  ⟨h.W.below hb, h.R.below hb h.n, fun b ⟨v, h1, h2⟩ ⟨u, h3, h4⟩ => h.D b ⟨v, (hb.cell (p := ⟨g, 24, none⟩) h.g_lt).symm.trans h1, h2⟩ ⟨u, (hb.cell (p := ⟨gr, 24, none⟩) h.gr_lt).symm.trans h3, h4⟩, Nat.le_trans h.n hb.size⟩
theorem St23.readW (h : St23 N g gr s P Q ev fv w) (hw : WorldIn w' N g P' ev) (hk : Keep N [93] w w') (hs : Still w w' g) : St23 N g gr s P' Q ev fv w' := by
  obtain ⟨v, h1, h2⟩ := h.R.own
  have hb := hk.blk h1 (by decide)
  refine ⟨hw, ⟨h.R.base, h.R.eight, ⟨v, hb, hk.own h2 (by decide)⟩, h.R.ins, fun k hk' => (h.R.reads k hk').below (hk.below h.n), h.R.room⟩, fun b ⟨u, h3, h4⟩ ⟨u', h5, h6⟩ => ?_, Nat.le_trans h.n hk.size⟩
  refine h.D b ⟨u, hs.symm.trans h3, h4⟩ ⟨u', ?_, h6⟩
  rw [show w'.cell? ⟨gr, 24, none⟩ = some v from cell_of_blk hb rfl] at h5
  rw [← h5]
  exact cell_of_blk h1 rfl
theorem St23.readR (h : St23 N g gr s P Q ev fv w) (hw : RefWIn w' N gr s Q' fv) (hk : Keep N [59] w w') (hs : Still w w' gr) : St23 N g gr s P Q' ev fv w' := by
  obtain ⟨v, h1, h2⟩ := h.W.own
  have hb := hk.blk h1 (by decide)
  refine ⟨h.W.keep hk (by decide) (by decide) (by decide), hw, fun b ⟨u, h3, h4⟩ ⟨u', h5, h6⟩ => ?_, Nat.le_trans h.n hk.size⟩
  refine h.D b ⟨u, ?_, h4⟩ ⟨u', hs.symm.trans h5, h6⟩
  rw [cell24 (B := N) h.W.eight hb] at h3
  rw [← h3]
  exact cell24 (B := N) h.W.eight h1
theorem St23.writeW (h : St23 N g gr s P Q ev fv w) (hw : WorldIn w' N g P ev') (hk : Keep N wTypes w w') (hm : EvMove w w' g) : St23 N g gr s P Q ev' fv w' := by
  obtain ⟨v, h1, h2⟩ := h.R.own
  obtain ⟨vW, hW1, _⟩ := h.W.own
  have hne : gr ≠ g := blk_ne h1 hW1 (by decide)
  have hb : w'.heap[gr]? = some (.cells (rwCells (chAt Q) s v) 59 (0, 0)) := (hm.1 gr h.gr_lt hne fun he => by
    obtain ⟨cur, hc⟩ := h.evW he
    exact blk_ne h1 hc (by decide) rfl).trans h1
  have hE : ∀ b, v.ownBlock = some b → EvB w gr b := fun b hb => ⟨v, cell_of_blk h1 rfl, hb⟩
  refine ⟨hw, ⟨h.R.base, h.R.eight, ⟨v, hb, row_move h2 fun b hvb => ?_⟩, h.R.ins, fun k hk' => (h.R.reads k hk').below (hk.below h.n), h.R.room⟩, fun b hgb hrb => ?_, Nat.le_trans h.n hk.size⟩
  · obtain ⟨cur, hc⟩ := row_blk h2 hvb
    exact hm.1 b (blk_lt hc) (blk_ne hc hW1 (by decide)) fun he => h.D b he (hE b hvb)
  · obtain ⟨u', h5, h6⟩ := hrb
    rw [show w'.cell? ⟨gr, 24, none⟩ = some v from cell_of_blk hb rfl] at h5
    obtain rfl := Option.some.inj h5
    obtain ⟨cur, hc⟩ := row_blk h2 h6
    rcases hm.2 b hgb with he | he
    · exact h.D b he (hE b h6)
    · have := blk_lt hc
      omega
theorem St23.writeR (h : St23 N g gr s P Q ev fv w) (hw : RefWIn w' N gr s Q fv') (hk : Keep N rwTypes w w') (hm : EvMove w w' gr) : St23 N g gr s P Q ev fv' w' := by
  obtain ⟨v, h1, h2⟩ := h.W.own
  obtain ⟨vR, hR1, _⟩ := h.R.own
  have hne : g ≠ gr := blk_ne h1 hR1 (by decide)
  have hb : w'.heap[g]? = some (.cells (P.flatMap chEnc ++ [v]).toArray 93 (0, 0)) := (hm.1 g h.g_lt hne fun he => by
    obtain ⟨cur, hc⟩ := h.evR he
    exact blk_ne h1 hc (by decide) rfl).trans h1
  have hE : ∀ b, v.ownBlock = some b → EvB w g b := fun b hb => ⟨v, cell24 (B := N) h.W.eight h1, hb⟩
  refine ⟨⟨h.W.base, h.W.eight, ⟨v, hb, row_move h2 fun b hvb => ?_⟩, fun c hc => row_move (h.W.ins c hc) fun b hvb => ?_⟩, hw, fun b hgb hrb => ?_, Nat.le_trans h.n hk.size⟩
  · obtain ⟨cur, hc⟩ := row_blk h2 hvb
    exact hm.1 b (blk_lt hc) (blk_ne hc hR1 (by decide)) fun he => h.D b (hE b hvb) he
  · obtain ⟨cur, hc'⟩ := row_blk (h.W.ins c hc) hvb
    refine hm.1 b (blk_lt hc') (blk_ne hc' hR1 (by decide)) fun he => ?_
    obtain ⟨cur', hc2⟩ := h.evR he
    exact blk_ne hc' hc2 (by decide) rfl
  · obtain ⟨u', h5, h6⟩ := hgb
    rw [cell24 (B := N) h.W.eight hb] at h5
    obtain rfl := Option.some.inj h5
    obtain ⟨cur, hc⟩ := row_blk h2 h6
    rcases hm.2 b hrb with he | he
    · exact h.D b (hE b h6) he
    · have := blk_lt hc
      omega
end
theorem ev_eq (a : Ev) (w : World) : (Op.equalIn 10000 98 (.agg #[.int .i64 a.channel, .int .i64 a.kind, .int .i64 a.n, .string a.s]) (.agg #[.int .i64 a.channel, .int .i64 a.kind, .int .i64 a.n, .string a.s])).run Try.prog w = .ok true w := by
  have u1 := Try.underlying3
  have u2 := Try.underlying2
  have u3 := Try.underlying9
  have a1 := Try.isAgg3
  have a2 := Try.isAgg2
  have a3 := Try.isAgg9
  have z1 := Try.sizeOf3
  have z2 := Try.sizeOf2
  have z3 := Try.sizeOf9
  have hS : Try.prog.underlying 98 = some (.struct (Try.prog.fieldsOf 98)) := by kernel_rfl
  have hp : Try.prog.stoodInHeld 98 = false := by kernel_rfl
  rw [show (10000 : Nat) = 9999 + 1 from rfl, run_equalIn_agg w 9999 98 _ _ hS hp]
  simp only [Program.fieldsOf, Try.underlying98]
  go_simp
set_option maxRecDepth 100000 in
set_option maxHeartbeats 4000000 in
theorem same23_any (xs : List Ev) (A C : Option Addr) (c d : Nat) (w : World) (hx : Reads w w.heap.size A (xs.flatMap evEnc)) (hy : Reads w w.heap.size C (xs.flatMap evEnc)) (hn : xs.length ≤ 9223372036854775807) :
    Calls Try.prog 28 #[.slice A xs.length c, .slice C xs.length d] w fun e w' => e = .returned (.bool true) ∧ ∃ n, w' = w.drewN n := by
  have HX := Lib.hid hx
  have HY := Lib.hid hy
  clear hx hy
  go_enter Try.func28, Try.ntmps28
  go_wp2
  go_loopw [13] (fun i wr => ∃ k : Nat, k ≤ xs.length ∧ i = .int .i64 k ∧ ∃ n, wr = w.drewN n) (fun i wr => xs.length - (intOf i).toNat)
  case atStart => exact ⟨0, by omega, rfl, 0, rfl⟩
  case round =>
    obtain ⟨k, hk, rfl, n, rfl⟩ := hrel
    by_cases hlt : k < xs.length
    · obtain ⟨x, hx⟩ : ∃ x, xs[k]? = some x := ⟨_, List.getElem?_eq_getElem hlt⟩
      obtain ⟨ad, rfl, hab, hcell⟩ := HX.out.at (flatMap_ne (K := 4) (fun a => rfl) (by omega) hx)
      obtain ⟨ae, rfl, hae, hcelle⟩ := HY.out.at (flatMap_ne (K := 4) (fun a => rfl) (by omega) hx)
      have x0 := elem_zero (K := 4) (fun a => rfl) hcell hx (by omega) (v := .int .i64 x.channel) rfl
      have x1 := elem_at (K := 4) (fun a => rfl) hcell hx 1 (by omega) (by omega) (v := .int .i64 x.kind) rfl
      have x2 := elem_at (K := 4) (fun a => rfl) hcell hx 2 (by omega) (by omega) (v := .int .i64 x.n) rfl
      have x3 := elem_at (K := 4) (fun a => rfl) hcell hx 3 (by omega) (by omega) (v := .string x.s) rfl
      have y0 := elem_zero (K := 4) (fun a => rfl) hcelle hx (by omega) (v := .int .i64 x.channel) rfl
      have y1 := elem_at (K := 4) (fun a => rfl) hcelle hx 1 (by omega) (by omega) (v := .int .i64 x.kind) rfl
      have y2 := elem_at (K := 4) (fun a => rfl) hcelle hx 2 (by omega) (by omega) (v := .int .i64 x.n) rfl
      have y3 := elem_at (K := 4) (fun a => rfl) hcelle hx 3 (by omega) (by omega) (v := .string x.s) rfl
      have heq := fun W => ev_eq x W
      have hk' : (k : Int) < (xs.length : Int) := by omega
      have hk0 : (0 : Int) ≤ k := by omega
      clear hx hcell hcelle
      go_wp2_with fail
      go_quiet (fail)
      go_wp2_with fail
      go_roundw
      case rel => exact ⟨k + 1, by omega, by go_num, _, rfl⟩
      case measure => simp [intOf]; omega
    · obtain rfl : k = xs.length := by omega
      go_wp2
      go_ret
      exact ⟨rfl, n, rfl⟩
end Go.Proofs.Ytkdoohmchdpjoaa
