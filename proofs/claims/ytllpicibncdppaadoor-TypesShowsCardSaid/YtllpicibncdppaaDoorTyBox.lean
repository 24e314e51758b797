/-
  Types in boxes: what a walk reads of them; flat; paired; a shape's field.
-/
import Derived.Test.YtllpicibncdppaaDoorTyLike
import Derived.Test.YtllpicibncdppaaDoorTyShP
import Derived.Deep.Cut
import Derived.Deep.CutBlock
set_option linter.unusedVariables false
set_option linter.unusedSimpArgs false
namespace Go.Proofs.YtllpicibncdppaaDoor
open Go.ChangeShapes Go.WideShapes Go.ChangeAt Go.RowKit

def TBox (w : World) (g : Nat) (t : LTy) : Prop := w.heap[g]? = some (.cells #[.int .i64 t.kind, .slice t.A t.ns.length t.c, .slice t.A2 t.xs.length t.c2] 26 (0, 0))
section
variable {w w' : World} {g : Nat} {t u : LTy}
theorem TBox.below (h : TBox w g t) (hb : Below w.heap.size w w') : TBox w' g t := below_blk hb h
theorem TBox.c0 (h : TBox w g t) : w.cell? ⟨g, 0, none⟩ = some (.int .i64 t.kind) := cell_of_blk h rfl
theorem TBox.c1 (h : TBox w g t) : w.cell? ⟨g, 1, none⟩ = some (.slice t.A t.ns.length t.c) := cell_of_blk h rfl
theorem TBox.c2 (h : TBox w g t) : w.cell? ⟨g, 2, none⟩ = some (.slice t.A2 t.xs.length t.c2) := cell_of_blk h rfl
theorem TBox.lt (h : TBox w g t) : g < w.heap.size := blk_lt h
end
theorem one_box (w : World) (t : LTy) : TBox (w.alloc (.cells #[.int .i64 t.kind, .slice t.A t.ns.length t.c, .slice t.A2 t.xs.length t.c2] 26)) w.heap.size t ∧ Below w.heap.size w (w.alloc (.cells #[.int .i64 t.kind, .slice t.A t.ns.length t.c, .slice t.A2 t.xs.length t.c2] 26)) :=
  ⟨heap_new_at _ _ _ rfl, (Below.refl _ _).alloc (Nat.le_refl _) _⟩
theorem two_boxes (w : World) (t u : LTy) : TBox ((w.alloc (.cells #[.int .i64 t.kind, .slice t.A t.ns.length t.c, .slice t.A2 t.xs.length t.c2] 26)).alloc (.cells #[.int .i64 u.kind, .slice u.A u.ns.length u.c, .slice u.A2 u.xs.length u.c2] 26)) w.heap.size t ∧ TBox ((w.alloc (.cells #[.int .i64 t.kind, .slice t.A t.ns.length t.c, .slice t.A2 t.xs.length t.c2] 26)).alloc (.cells #[.int .i64 u.kind, .slice u.A u.ns.length u.c, .slice u.A2 u.xs.length u.c2] 26)) (w.heap.size + 1) u ∧
    Below w.heap.size w ((w.alloc (.cells #[.int .i64 t.kind, .slice t.A t.ns.length t.c, .slice t.A2 t.xs.length t.c2] 26)).alloc (.cells #[.int .i64 u.kind, .slice u.A u.ns.length u.c, .slice u.A2 u.xs.length u.c2] 26)) :=
  ⟨blk_alloc (heap_new_at _ _ _ rfl) _, heap_new_at _ _ _ (by simp), ((Below.refl _ _).alloc (Nat.le_refl _) _).alloc (by simp) _⟩
/-- Three cells at an address. -/
def At3 (w : World) (a : Addr) (x : LTy) : Prop := a.block < w.heap.size ∧ w.cell? a = some (.int .i64 x.kind) ∧ w.cell? ⟨a.block, a.off + 1, none⟩ = some (.slice x.A x.ns.length x.c) ∧ w.cell? ⟨a.block, a.off + 2, none⟩ = some (.slice x.A2 x.xs.length x.c2)
theorem At3.below {w w' : World} {a : Addr} {x : LTy} (h : At3 w a x) (hb : Below w.heap.size w w') : At3 w' a x :=
  ⟨Nat.lt_of_lt_of_le h.1 hb.size, (hb.cell h.1).trans h.2.1, (hb.cell (p := ⟨a.block, a.off + 1, none⟩) h.1).trans h.2.2.1, (hb.cell (p := ⟨a.block, a.off + 2, none⟩) h.1).trans h.2.2.2⟩
theorem LIn.at3 {w : World} {t x : LTy} {k : Nat} (h : LIn w w.heap.size t) (hx : t.xs[k]? = some x) : ∃ ad, t.A2 = some ad ∧ At3 w (ad.add (k * 3)) x := by
  obtain ⟨ad, h1, h2, h3, h4, h5⟩ := h.cells hx
  exact ⟨ad, h1, by rw [block_add']; exact h2, h3, h4, h5⟩
theorem tb_and {p q : Prop} : tb (p ∧ q) = (tb p && tb q) := by
  by_cases hp : p
  · by_cases hq : q
    · rw [tb_true hp, tb_true hq, tb_true ⟨hp, hq⟩]; rfl
    · rw [tb_true hp, tb_false hq, tb_false (fun e => hq e.2)]; rfl
  · rw [tb_false hp, tb_false (fun e => hp e.1)]; rfl


theorem TBox.drewN {w : World} {g : Nat} {t : LTy} (h : TBox w g t) (n : Nat) : TBox (w.drewN n) g t := h
set_option maxRecDepth 100000 in
set_option maxHeartbeats 1000000 in
theorem bflat_any (x : LTy) (w : World) : Calls Tryd.prog 65 #[x.val] w (RetB (.bool (tb (Flat x.kind))) w) := by
  have HB := Lib.hid (show Below w.heap.size w (w.alloc (.cells #[.int .i64 x.kind, .slice x.A x.ns.length x.c, .slice x.A2 x.xs.length x.c2] 26)) from (Below.refl _ _).alloc (Nat.le_refl _) _)
  unfold LTy.val
  generalize x.kind = k at *
  by_cases h1 : 0 ≤ k
  · by_cases h2 : k ≤ 7
    · rw [tb_true ⟨h1, h2⟩]
      go_enter Tryd.func65, Tryd.ntmps65
      go_wp2
      go_ret
      exact ⟨rfl, HB.out⟩
    · rw [tb_false (fun e => h2 e.2)]
      have h2' : 7 < k := by omega
      go_enter Tryd.func65, Tryd.ntmps65
      go_wp2
      go_ret
      exact ⟨rfl, HB.out⟩
  · rw [tb_false (fun e => h1 e.1)]
    have h1' : k < 0 := by omega
    go_enter Tryd.func65, Tryd.ntmps65
    go_wp2
    go_ret
    exact ⟨rfl, HB.out⟩
theorem paired_iff (t u : LTy) : Paired (strip t) (strip u) ↔ ((t.kind = 8 ∧ t.ns = u.ns) ∨ t.kind = 9) ∧ t.kind = u.kind ∧ t.xs.length = u.xs.length := by
  unfold Paired
  rw [strip_kind, strip_kind, strip_names, strip_names, strip_len, strip_len]
set_option maxRecDepth 100000 in
set_option maxHeartbeats 2000000 in
theorem paired_any (t u : LTy) (w : World) (ht : LIn w w.heap.size t) (hu : LIn w w.heap.size u) : Calls Tryd.prog 84 #[t.val, u.val] w (RetB (.bool (tb (Paired (strip t) (strip u)))) w) := by
  rw [tb_congr (paired_iff t u)]
  obtain ⟨ans, hans⟩ : ∃ ans, ans = tb (((t.kind = 8 ∧ t.ns = u.ns) ∨ t.kind = 9) ∧ t.kind = u.kind ∧ t.xs.length = u.xs.length) := ⟨_, rfl⟩
  rw [← hans]
  have HA := Lib.hid hans
  clear hans
  unfold LTy.val
  obtain ⟨g, hg⟩ : ∃ g, g = w.heap.size := ⟨_, rfl⟩
  have HT := Lib.hid ht
  have HU := Lib.hid hu
  clear ht hu
  go_enter Tryd.func84, Tryd.ntmps84
  go_upto_region 1 with fail
  rw [← hg]
  refine gen_wpT fun W hW => ?_
  obtain ⟨kt, ku, kb⟩ : TBox W g t ∧ TBox W (g + 1) u ∧ Below w.heap.size w W := by rw [← hW, hg]; exact two_boxes w t u
  have KB := Lib.hid kb
  have ktc0 := kt.c0
  have ktc1 := kt.c1
  have ktc2 := kt.c2
  have ktlt := kt.lt
  have kuc0 := ku.c0
  have kuc1 := ku.c1
  have kuc2 := ku.c2
  have kult := ku.lt
  clear hW hg
  have hseq := seq_any t.ns u.ns t.A u.A t.c u.c _ W (HT.out.on kb).names (HU.out.on kb).names (HT.out.n1.2) (HU.out.n1.2)
  have hl1 := HT.out.n2.2
  have hl2 := HU.out.n2.2
  have KT := Lib.hid kt
  have KU := Lib.hid ku
  have HS := Lib.hid hseq
  clear kt ku kb hseq
  by_cases h8 : t.kind = 8
  · have e8 : (t.kind == 8) = true := beq_iff_eq.2 h8
    by_cases hn : t.ns = u.ns
    case neg =>
      have e : ans = false := by rw [HA.out]; exact tb_false (fun e => by rcases e.1 with e | e; exact hn e.2; omega)
      subst e
      have HS2 := Lib.hid (by have := HS.out; rw [tb_false hn] at this; exact this)
      clear hn HA h8 HS
      go_wp2_with fail
      refine HS2.out.mono ?_
      rintro e w1 ⟨rfl, q, rfl⟩
      go_wp2
      go_ret
      exact ⟨rfl, below_drewT KB.out q⟩
    have HS2 := Lib.hid (by have := HS.out; rw [tb_true hn] at this; exact this)
    by_cases hk : t.kind = u.kind
    case neg =>
      have e : ans = false := by rw [HA.out]; exact tb_false (fun e => hk e.2.1)
      subst e
      have ek : (t.kind == u.kind) = false := beq_eq_false_iff_ne.2 hk
      clear hn HA h8 HS hk
      go_wp2_with fail
      refine HS2.out.mono ?_
      rintro e w1 ⟨rfl, q, rfl⟩
      go_wp2
      go_ret
      exact ⟨rfl, below_drewT KB.out q⟩
    have ek : (t.kind == u.kind) = true := beq_iff_eq.2 hk
    by_cases hl : t.xs.length = u.xs.length
    · have e : ans = true := by rw [HA.out]; exact tb_true ⟨.inl ⟨h8, hn⟩, hk, hl⟩
      subst e
      have el : ((t.xs.length : Int) == (u.xs.length : Int)) = true := by rw [hl]; simp
      clear hn HA h8 HS hk hl
      go_wp2_with fail
      refine HS2.out.mono ?_
      rintro e w1 ⟨rfl, q, rfl⟩
      go_wp2
      go_ret
      exact ⟨rfl, below_drewT KB.out q⟩
    · have e : ans = false := by rw [HA.out]; exact tb_false (fun e => hl e.2.2)
      subst e
      have el : ((t.xs.length : Int) == (u.xs.length : Int)) = false := beq_eq_false_iff_ne.2 (by omega)
      clear hn HA h8 HS hk hl
      go_wp2_with fail
      refine HS2.out.mono ?_
      rintro e w1 ⟨rfl, q, rfl⟩
      go_wp2
      go_ret
      exact ⟨rfl, below_drewT KB.out q⟩
  have e8 : (t.kind == 8) = false := beq_eq_false_iff_ne.2 h8
  clear HS
  by_cases h9 : t.kind = 9
  · have e9 : (t.kind == 9) = true := beq_iff_eq.2 h9
    by_cases hk : t.kind = u.kind
    case neg =>
      have e : ans = false := by rw [HA.out]; exact tb_false (fun e => hk e.2.1)
      subst e
      have ek : (t.kind == u.kind) = false := beq_eq_false_iff_ne.2 hk
      clear HA h8 h9 hk
      go_wp2
      go_ret
      exact ⟨rfl, KB.out⟩
    have ek : (t.kind == u.kind) = true := beq_iff_eq.2 hk
    by_cases hl : t.xs.length = u.xs.length
    · have e : ans = true := by rw [HA.out]; exact tb_true ⟨.inr h9, hk, hl⟩
      subst e
      have el : ((t.xs.length : Int) == (u.xs.length : Int)) = true := by rw [hl]; simp
      clear HA h8 h9 hk hl
      go_wp2
      go_ret
      exact ⟨rfl, KB.out⟩
    · have e : ans = false := by rw [HA.out]; exact tb_false (fun e => hl e.2.2)
      subst e
      have el : ((t.xs.length : Int) == (u.xs.length : Int)) = false := beq_eq_false_iff_ne.2 (by omega)
      clear HA h8 h9 hk hl
      go_wp2
      go_ret
      exact ⟨rfl, KB.out⟩
  · have e : ans = false := by rw [HA.out]; exact tb_false (fun e => by rcases e.1 with e | e; exact h8 e.1; exact h9 e)
    subst e
    have e9 : (t.kind == 9) = false := beq_eq_false_iff_ne.2 h9
    clear HA h8 h9
    go_wp2
    go_ret
    exact ⟨rfl, KB.out⟩
set_option maxRecDepth 100000 in
set_option maxHeartbeats 2000000 in
theorem rpaired_any (n m : Nat) (t u : LTy) (w : World) (ht : LIn w w.heap.size t) (hu : LIn w w.heap.size u) (ct : Chk n (strip t)) (cu : Chk m (strip u)) : Calls Tryd.prog 85 #[t.val, u.val] w (RetB (.bool (tb (Paired (strip t) (strip u)))) w) := by
  rw [tb_congr (paired_iff t u)]
  have HCT := Lib.hid (show t.kind = 8 → t.ns.length = t.xs.length from fun e => by have := (shape_names ct (by rw [strip_kind]; exact e)).1; rwa [strip_names, strip_len] at this)
  have HCU := Lib.hid (show u.kind = 8 → u.ns.length = u.xs.length from fun e => by have := (shape_names cu (by rw [strip_kind]; exact e)).1; rwa [strip_names, strip_len] at this)
  have HCT9 := Lib.hid (show t.kind = 9 → t.ns = [] from fun e => by have := (func_split ct (by rw [strip_kind]; exact e)).1; rwa [strip_names] at this)
  have HCU9 := Lib.hid (show u.kind = 9 → u.ns = [] from fun e => by have := (func_split cu (by rw [strip_kind]; exact e)).1; rwa [strip_names] at this)
  clear ct cu
  obtain ⟨ans, hans⟩ : ∃ ans, ans = tb (((t.kind = 8 ∧ t.ns = u.ns) ∨ t.kind = 9) ∧ t.kind = u.kind ∧ t.xs.length = u.xs.length) := ⟨_, rfl⟩
  rw [← hans]
  have HA := Lib.hid hans
  clear hans
  unfold LTy.val
  obtain ⟨g, hg⟩ : ∃ g, g = w.heap.size := ⟨_, rfl⟩
  have HT := Lib.hid ht
  have HU := Lib.hid hu
  clear ht hu
  go_enter Tryd.func85, Tryd.ntmps85
  go_upto_region 1 with fail
  rw [← hg]
  refine gen_wpT fun W hW => ?_
  obtain ⟨kt, ku, kb⟩ : TBox W g t ∧ TBox W (g + 1) u ∧ Below w.heap.size w W := by rw [← hW, hg]; exact two_boxes w t u
  have KB := Lib.hid kb
  have ktc0 := kt.c0
  have ktc1 := kt.c1
  have ktc2 := kt.c2
  have ktlt := kt.lt
  have kuc0 := ku.c0
  have kuc1 := ku.c1
  have kuc2 := ku.c2
  have kult := ku.lt
  clear hW hg
  have hl1 := HT.out.n2.2
  have hl2 := HU.out.n2.2
  have hl3 := HT.out.n1.2
  have hl4 := HU.out.n1.2
  have KT := Lib.hid kt
  have KU := Lib.hid ku
  have KBB := Lib.hid kb
  clear kt ku kb
  by_cases hk : t.kind = u.kind
  case neg =>
    have e : ans = false := by rw [HA.out]; exact tb_false (fun e => hk e.2.1)
    subst e
    have ek : (t.kind == u.kind) = false := beq_eq_false_iff_ne.2 hk
    have ek' : (t.kind != u.kind) = true := by rw [bne, ek]; rfl
    clear HA hk
    go_wp2
    go_ret
    exact ⟨rfl, KB.out⟩
  have ek : (t.kind == u.kind) = true := beq_iff_eq.2 hk
  have ek' : (t.kind != u.kind) = false := by rw [bne, ek]; rfl
  by_cases h89 : t.kind = 8 ∨ t.kind = 9
  case neg =>
    have e : ans = false := by rw [HA.out]; exact tb_false (fun e => h89 (e.1.imp (·.1) id))
    subst e
    have e8 : (t.kind == 8) = false := beq_eq_false_iff_ne.2 (fun e => h89 (.inl e))
    have e8' : (t.kind != 8) = true := by rw [bne, e8]; rfl
    have e9 : (t.kind == 9) = false := beq_eq_false_iff_ne.2 (fun e => h89 (.inr e))
    have e9' : (t.kind != 9) = true := by rw [bne, e9]; rfl
    clear HA hk h89
    go_wp2
    go_ret
    exact ⟨rfl, KB.out⟩
  by_cases hl : t.xs.length = u.xs.length
  case neg =>
    have e : ans = false := by rw [HA.out]; exact tb_false (fun e => hl e.2.2)
    subst e
    have el : ((t.xs.length : Int) == (u.xs.length : Int)) = false := beq_eq_false_iff_ne.2 (by omega)
    have el' : ((t.xs.length : Int) != (u.xs.length : Int)) = true := by rw [bne, el]; rfl
    rcases h89 with h | h
    · have e8 : (t.kind == 8) = true := beq_iff_eq.2 h
      have e8' : (t.kind != 8) = false := by rw [bne, e8]; rfl
      clear HA hk h hl
      go_wp2
      go_ret
      exact ⟨rfl, KB.out⟩
    · have e8 : (t.kind == 8) = false := beq_eq_false_iff_ne.2 (by omega)
      have e8' : (t.kind != 8) = true := by rw [bne, e8]; rfl
      have e9 : (t.kind == 9) = true := beq_iff_eq.2 h
      have e9' : (t.kind != 9) = false := by rw [bne, e9]; rfl
      clear HA hk h hl
      go_wp2
      go_ret
      exact ⟨rfl, KB.out⟩
  have el' : ((t.xs.length : Int) != (u.xs.length : Int)) = false := by rw [hl]; simp
  have HE := Lib.hid (show ans = tb (t.ns = u.ns) by
    rw [HA.out]
    refine tb_congr ⟨fun e => ?_, fun e => ?_⟩
    · rcases e.1 with e | e
      · exact e.2
      · rw [HCT9.out e, HCU9.out (hk ▸ e)]
    · rcases h89 with h | h
      · exact ⟨.inl ⟨h, e⟩, hk, hl⟩
      · exact ⟨.inr h, hk, hl⟩)
  have HN := Lib.hid (show t.ns.length = u.ns.length by
    rcases h89 with h | h
    · rw [HCT.out h, HCU.out (hk ▸ h), hl]
    · rw [HCT9.out h, HCU9.out (hk ▸ h)])
  have h8v : ((t.kind != 8) = true ∧ (t.kind != 9) = false) ∨ (t.kind != 8) = false := by
    rcases h89 with h | h
    · exact .inr (by rw [h]; rfl)
    · exact .inl ⟨by rw [h]; rfl, by rw [h]; rfl⟩
  obtain ⟨n1, hn1⟩ : ∃ n, n = t.ns.length := ⟨_, rfl⟩
  have HN1 := Lib.hid (show t.ns.length = n1 ∧ u.ns.length = n1 from ⟨hn1.symm, by rw [hn1]; exact HN.out.symm⟩)
  rw [HN1.out.1] at ktc1 hl3
  rw [HN1.out.2] at kuc1 hl4
  clear HA hk h89 hl HCT HCU HCT9 HCU9 HN hn1
  rcases h8v with ⟨e8', e9'⟩ | e8'
  all_goals
    go_wp2_with fail
    clear ktc1 kuc1
    go_loopw [33] (fun i wr => ∃ k q : Nat, k ≤ n1 ∧ i = .int .i64 k ∧ Hid (∀ j, j < k → t.ns[j]? = u.ns[j]?) ∧ wr = W.drewN q) (fun i _ => n1 - (intOf i).toNat)
    case atStart => exact ⟨0, 0, by omega, rfl, Lib.hid (fun j hj => by omega), rfl⟩
    case round =>
      obtain ⟨k, q, hk, rfl, HJ, rfl⟩ := hrel
      by_cases hlt : k < n1
      · obtain ⟨x, hx⟩ : ∃ x, t.ns[k]? = some x := ⟨_, List.getElem?_eq_getElem (by rw [HN1.out.1]; exact hlt)⟩
        obtain ⟨y, hy⟩ : ∃ y, u.ns[k]? = some y := ⟨_, List.getElem?_eq_getElem (by rw [HN1.out.2]; exact hlt)⟩
        obtain ⟨a1, hA1, _, x0⟩ := (HT.out.on KB.out).name hx
        obtain ⟨a2, hA2, _, y0⟩ := (HU.out.on KB.out).name hy
        have t1 : ∀ m, (W.drewN m).cell? ⟨g, 1, none⟩ = some (.slice (some a1) n1 t.c) := fun m => by have := KT.out.c1; rw [HN1.out.1, hA1] at this; exact this
        have u1 : ∀ m, (W.drewN m).cell? ⟨g + 1, 1, none⟩ = some (.slice (some a2) n1 u.c) := fun m => by have := KU.out.c1; rw [HN1.out.2, hA2] at this; exact this
        have x0' : ∀ m, (W.drewN m).cell? (a1.add k) = some (.string x) := fun m => x0
        have y0' : ∀ m, (W.drewN m).cell? (a2.add k) = some (.string y) := fun m => y0
        have hk' : (k : Int) < (n1 : Int) := by omega
        have hk0 : (0 : Int) ≤ k := by omega
        have hwk : IntKind.i64.wrap (k : Int) = (k : Int) := IntWalk.i64_in _ (by omega)
        clear hA1 hA2
        by_cases hxy : x = y
        · have hb := str_beq hxy
          have hb' : (x.toList != y.toList) = false := by rw [bne, hb]; rfl
          have HJ2 := Lib.hid (show ∀ j, j < k + 1 → t.ns[j]? = u.ns[j]? from fun j hj => by
            rcases Nat.lt_or_ge j k with h1 | h1
            · exact HJ.out j h1
            · obtain rfl : j = k := by omega
              rw [hx, hy, hxy])
          clear hx hy hxy
          go_wp2_with fail
          go_quiet (fail)
          go_wp2_with fail
          go_roundw
          case rel => exact ⟨k + 1, q + nq, by omega, by go_num, HJ2, by first | rfl | exact drew_add W q nq⟩
          case measure => simp [intOf]; omega
        · have hb := str_bne hxy
          have hb' : (x.toList != y.toList) = true := by rw [bne, hb]; rfl
          have e : ans = false := by rw [HE.out]; exact tb_false (fun e => list_ne_at hx hy hxy e)
          subst e
          clear hx hy hxy HE
          go_wp2_with fail
          go_quiet (fail)
          go_wp2
          go_ret
          exact ⟨rfl, below_drewT (below_drewT KB.out q) nq⟩
      · have e : ans = true := by
          rw [HE.out]
          exact tb_true (list_eq_at (HN1.out.1.trans HN1.out.2.symm) (fun j hj => HJ.out j (by rw [HN1.out.1] at hj; omega)))
        subst e
        have hkk : ¬ (k : Int) < (n1 : Int) := by omega
        go_wp2
        go_ret
        exact ⟨rfl, below_drewT KB.out q⟩
end Go.Proofs.YtllpicibncdppaaDoor
