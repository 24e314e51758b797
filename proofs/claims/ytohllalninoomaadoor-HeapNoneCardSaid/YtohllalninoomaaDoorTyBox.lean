/-
  Types in boxes: what a walk reads of them; flat; paired; a shape's field.
-/
import Derived.Test.YtohllalninoomaaDoorTyLike
import Derived.Test.YtohllalninoomaaDoorTyShP
import Derived.Deep.Cut
import Derived.Deep.CutBlock
set_option linter.unusedVariables false
set_option linter.unusedSimpArgs false
namespace Go.Proofs.YtohllalninoomaaDoor
open Go.ChangeShapes Go.WideShapes Go.ChangeAt Go.RowKit

def TBox (w : World) (g : Nat) (t : LTy) : Prop := w.heap[g]? = some (.cells #[.int .i64 t.kind, .slice t.A t.ns.length t.c, .slice t.A2 t.xs.length t.c2] 30 (0, 0))
section
variable {w w' : World} {g : Nat} {t u : LTy}
theorem TBox.below (h : TBox w g t) (hb : Below w.heap.size w w') : TBox w' g t := below_blk hb h
theorem TBox.c0 (h : TBox w g t) : w.cell? ⟨g, 0, none⟩ = some (.int .i64 t.kind) := cell_of_blk h rfl
theorem TBox.c1 (h : TBox w g t) : w.cell? ⟨g, 1, none⟩ = some (.slice t.A t.ns.length t.c) := cell_of_blk h rfl
theorem TBox.c2 (h : TBox w g t) : w.cell? ⟨g, 2, none⟩ = some (.slice t.A2 t.xs.length t.c2) := cell_of_blk h rfl
theorem TBox.lt (h : TBox w g t) : g < w.heap.size := blk_lt h
end
theorem one_box (w : World) (t : LTy) : TBox (w.alloc (.cells #[.int .i64 t.kind, .slice t.A t.ns.length t.c, .slice t.A2 t.xs.length t.c2] 30)) w.heap.size t ∧ Below w.heap.size w (w.alloc (.cells #[.int .i64 t.kind, .slice t.A t.ns.length t.c, .slice t.A2 t.xs.length t.c2] 30)) :=
  ⟨heap_new_at _ _ _ rfl, (Below.refl _ _).alloc (Nat.le_refl _) _⟩
theorem two_boxes (w : World) (t u : LTy) : TBox ((w.alloc (.cells #[.int .i64 t.kind, .slice t.A t.ns.length t.c, .slice t.A2 t.xs.length t.c2] 30)).alloc (.cells #[.int .i64 u.kind, .slice u.A u.ns.length u.c, .slice u.A2 u.xs.length u.c2] 30)) w.heap.size t ∧ TBox ((w.alloc (.cells #[.int .i64 t.kind, .slice t.A t.ns.length t.c, .slice t.A2 t.xs.length t.c2] 30)).alloc (.cells #[.int .i64 u.kind, .slice u.A u.ns.length u.c, .slice u.A2 u.xs.length u.c2] 30)) (w.heap.size + 1) u ∧
    Below w.heap.size w ((w.alloc (.cells #[.int .i64 t.kind, .slice t.A t.ns.length t.c, .slice t.A2 t.xs.length t.c2] 30)).alloc (.cells #[.int .i64 u.kind, .slice u.A u.ns.length u.c, .slice u.A2 u.xs.length u.c2] 30)) :=
  ⟨blk_alloc (heap_new_at _ _ _ rfl) _, heap_new_at _ _ _ (by simp), ((Below.refl _ _).alloc (Nat.le_refl _) _).alloc (by simp) _⟩
/-- Three cells at an address. -/
def At3 (w : World) (a : Addr) (x : LTy) : Prop := a.block < w.heap.size ∧ w.cell? a = some (.int .i64 x.kind) ∧ w.cell? ⟨a.block, a.off + 1, none⟩ = some (.slice x.A x.ns.length x.c) ∧ w.cell? ⟨a.block, a.off + 2, none⟩ = some (.slice x.A2 x.xs.length x.c2)
theorem At3.below {w w' : World} {a : Addr} {x : LTy} (h : At3 w a x) (hb : Below w.heap.size w w') : At3 w' a x :=
  ⟨Nat.lt_of_lt_of_le h.1 hb.size, (hb.cell h.1).trans h.2.1, (hb.cell (p := ⟨a.block, a.off + 1, none⟩) h.1).trans h.2.2.1, (hb.cell (p := ⟨a.block, a.off + 2, none⟩) h.1).trans h.2.2.2⟩
theorem LIn.at3 {w : World} {t x : LTy} {k : Nat} (h : LIn w w.heap.size t) (hx : t.xs[k]? = some x) : ∃ ad, t.A2 = some ad ∧ At3 w (ad.add (k * 3)) x := by
  obtain ⟨ad, h1, h2, h3, h4, h5⟩ := h.cells hx
  exact ⟨ad, h1, by rw [block_add']; exact h2, h3, h4, h5⟩
theorem tb_and {p q : Prop} : tb (p ∧ q) = (tb p && tb q) := by
  by_cases hp : p
  · by_cases hq : q
    · rw [tb_true hp, tb_true hq, tb_true ⟨hp, hq⟩]; rfl
    · rw [tb_true hp, tb_false hq, tb_false (fun e => hq e.2)]; rfl
  · rw [tb_false hp, tb_false (fun e => hp e.1)]; rfl


theorem TBox.drewN {w : World} {g : Nat} {t : LTy} (h : TBox w g t) (n : Nat) : TBox (w.drewN n) g t := h
theorem paired_iff (t u : LTy) : Paired (strip t) (strip u) ↔ ((t.kind = 8 ∧ t.ns = u.ns) ∨ t.kind = 9) ∧ t.kind = u.kind ∧ t.xs.length = u.xs.length := by
  unfold Paired
  rw [strip_kind, strip_kind, strip_names, strip_names, strip_len, strip_len]
end Go.Proofs.YtohllalninoomaaDoor
