/-
  Chapter 23, first part: small laws on arrays by value, on slices.Clone, and what a world in memory holds.
-/
import Derived.Test.YtkdoohmchdpjoaaGuardAct
import Derived.Deep.RegionHeld3
set_option linter.unusedVariables false
set_option linter.unusedSimpArgs false
namespace Go.Proofs.Ytkdoohmchdpjoaa
open Go.ChangeShapes Go.WideShapes Go.ChangeAt Go.RowKit

theorem run_index_one {P : Program} (t e : TypeId) (n : Nat) (cs : Array Value) (k : Nat) (v : Value) (h : P.underlying t = some (.array n e)) (hag : ∀ w, (isAgg e).run P w = .ok false w) (hso : ∀ w, (sizeOf e).run P w = .ok 1 w) (hk : k < n) (hv : cs[k]? = some v) (w : World) :
    (Instr.index t (.agg cs) (.int .i64 (k : Int))).run P w = .ok v w := by
  have h0 : 0 ≤ (k : Int) ∧ (k : Int) < (n : Int) := by omega
  have h1 : ¬ n ≤ k := by omega
  simp [Instr.index, run_underlying h, asIntOf, h1, go_sem, hso, part, hag, hv]
theorem run_index_agg {P : Program} (t e : TypeId) (n K : Nat) (cs : Array Value) (k : Nat) (h : P.underlying t = some (.array n e)) (hag : ∀ w, (isAgg e).run P w = .ok true w) (hso : ∀ w, (sizeOf e).run P w = .ok K w) (hk : k < n) (w : World) :
    (Instr.index t (.agg cs) (.int .i64 (k : Int))).run P w = .ok (.agg (cs.extract (k * K) (k * K + K))) w := by
  have h0 : 0 ≤ (k : Int) ∧ (k : Int) < (n : Int) := by omega
  have h1 : ¬ n ≤ k := by omega
  simp [Instr.index, run_underlying h, asIntOf, h1, go_sem, hso, part, hag]

theorem infoI64 : (Try.prog.info? 2).map (fun i => (i.zero, i.size, i.bytes)) = some (some (.int .i64 0), 1, 8) := by kernel_rfl
theorem infoEvent : (Try.prog.info? 98).map (fun i => (i.zero, i.size, i.bytes)) = some (some (.agg #[.int .i64 0, .int .i64 0, .int .i64 0, .string ByteArray.empty]), 4, 40) := by kernel_rfl

set_option maxRecDepth 100000 in
theorem clone_ints (A : Option Addr) (n c : Nat) (xs : List Value) (w : World) (hr : Reads w w.heap.size A xs) (hlen : xs.length = n) (h1 : ∀ u ∈ xs, u.oneCell' = true) (hA : A = none → n = 0 ∧ c = 0) (hn : n * 8 ≤ 140737488351232) :
    Calls Try.prog 36 #[.slice A n c] w fun e w' => ∃ v, e = .returned v ∧ w'.ownsRow w.heap.size 2 1 v n xs ∧ Below w.heap.size w w' := by
  obtain ⟨i0, hi, hz0, hz1, hz2⟩ := info_parts infoI64
  have heq := fun W : World => Lib.run_eql_slice_nil (P := Try.prog) W 48 2 A n c 0 0 Try.underlying48
  rcases A with _ | ad
  · obtain ⟨rfl, rfl⟩ := hA rfl
    obtain rfl : xs = [] := List.eq_nil_of_length_eq_zero hlen
    go_enter Try.func36, Try.ntmps36
    go_wp2
    go_ret
    exact ⟨_, rfl, World.ownsRow_nil _ _ _ _, Below.refl _ _⟩
  · go_enter Try.func36, Try.ntmps36
    have hr' : Reads (w.alloc (.cells #[] 2)) w.heap.size (some ad) xs := hr.below ((Below.refl _ _).alloc (Nat.le_refl _) _)
    have hown : (w.alloc (.cells #[] 2)).ownsRow w.heap.size 2 1 (.slice (some ⟨w.heap.size, 0, none⟩) 0 0) 0 [] := World.ownsRow_made w #[] 0 (Nat.le_refl _) (by unfold maxLen; omega) rfl
    have hnews : ∀ j u, xs[j]? = some u → (w.alloc (.cells #[] 2)).cell? (ad.add j) = some u := by
      intro j u hu
      rcases hr' with rfl | ⟨ad', e, _, h⟩
      · simp at hu
      · injection e with e; subst e; exact h j u hu
    go_wp2_with ((at_builtin; (refine wpList_append_own_at _ rfl _ _ _ rfl w.heap.size 2 i0 (.int .i64 0) 1 8 Try.underlying48 hi hz0 hz1 hz2 rfl (by omega) _ 0 [] rfl hown ad n c xs rfl (by omega) hnews h1 (by unfold maxLen; omega) (by omega) (by simp) ?_); intro v w2 hown2 hgrow hat hat2))
    have hgrow' : World.grownBy _ w2 (some w.heap.size) := hgrow
    go_ret
    exact ⟨v, rfl, by simpa using hown2, ((Below.refl _ _).alloc (Nat.le_refl _) _).grown hgrow' (by simp) (fun k hk => Nat.le_of_eq (Option.some.inj hk))⟩
set_option maxRecDepth 100000 in
theorem clone_events (A : Option Addr) (n c : Nat) (xs : List Value) (w : World) (hr : Reads w w.heap.size A xs) (hlen : xs.length = n * 4) (h1 : ∀ u ∈ xs, u.oneCell' = true) (hA : A = none → n = 0 ∧ c = 0) (hn : n * 40 ≤ 140737488351232) :
    Calls Try.prog 39 #[.slice A n c] w fun e w' => ∃ v, e = .returned v ∧ w'.ownsRow w.heap.size 98 4 v n xs ∧ Below w.heap.size w w' := by
  obtain ⟨i0, hi, hz0, hz1, hz2⟩ := info_parts infoEvent
  have heq := fun W : World => Lib.run_eql_slice_nil (P := Try.prog) W 57 98 A n c 0 0 Try.underlying57
  rcases A with _ | ad
  · obtain ⟨rfl, rfl⟩ := hA rfl
    obtain rfl : xs = [] := List.eq_nil_of_length_eq_zero (by omega)
    go_enter Try.func39, Try.ntmps39
    go_wp2
    go_ret
    exact ⟨_, rfl, World.ownsRow_nil _ _ _ _, Below.refl _ _⟩
  · go_enter Try.func39, Try.ntmps39
    have hr' : Reads (w.alloc (.cells #[] 98)) w.heap.size (some ad) xs := hr.below ((Below.refl _ _).alloc (Nat.le_refl _) _)
    have hown : (w.alloc (.cells #[] 98)).ownsRow w.heap.size 98 4 (.slice (some ⟨w.heap.size, 0, none⟩) 0 0) 0 [] := World.ownsRow_made w #[] 0 (Nat.le_refl _) (by unfold maxLen; omega) rfl
    have hnews : ∀ j u, xs[j]? = some u → (w.alloc (.cells #[] 98)).cell? (ad.add j) = some u := by
      intro j u hu
      rcases hr' with rfl | ⟨ad', e, _, h⟩
      · simp at hu
      · injection e with e; subst e; exact h j u hu
    go_wp2_with ((at_builtin; (refine wpList_append_own_at _ rfl _ _ _ rfl w.heap.size 98 i0 (.agg #[.int .i64 0, .int .i64 0, .int .i64 0, .string ByteArray.empty]) 4 40 Try.underlying57 hi hz0 hz1 hz2 rfl (by omega) _ 0 [] rfl hown ad n c xs rfl (by omega) hnews h1 (by unfold maxLen; omega) (by omega) (by simp) ?_); intro v w2 hown2 hgrow hat hat2))
    have hgrow' : World.grownBy _ w2 (some w.heap.size) := hgrow
    go_ret
    exact ⟨v, rfl, by simpa using hown2, ((Below.refl _ _).alloc (Nat.le_refl _) _).grown hgrow' (by simp) (fun k hk => Nat.le_of_eq (Option.some.inj hk))⟩

/-- A channel: its label, its numbers (the value of the slice, what it holds), how many were read. -/
structure CV where
  mask : Nat
  v : Value
  ins : List Int
  read : Nat
def chEnc (c : CV) : List Value := [.int .u64 (c.mask : Int), c.v, .int .i64 (c.read : Int)]
structure Ev where
  channel : Int
  kind : Int
  n : Int
  s : ByteArray
def evEnc (e : Ev) : List Value := [.int .i64 e.channel, .int .i64 e.kind, .int .i64 e.n, .string e.s]
theorem evEnc_one (l : List Ev) : ∀ u ∈ l.flatMap evEnc, u.oneCell' = true := by
  intro u hu
  obtain ⟨e, _, h⟩ := List.mem_flatMap.1 hu
  simp [evEnc] at h
  rcases h with rfl | rfl | rfl | rfl <;> rfl
theorem evEnc_len (l : List Ev) : (l.flatMap evEnc).length = l.length * 4 := by
  induction l with
  | nil => rfl
  | cons e l ih => simp only [List.flatMap_cons, List.length_append, ih, List.length_cons]; simp [evEnc]; omega
def intCells (l : List Int) : List Value := l.map (Value.int .i64)

/-- A world lies at block g: eight channels, what was put out. -/
structure WorldIn (w : World) (B g : Nat) (P : List CV) (ev : List Ev) : Prop where
  base : B ≤ g
  eight : P.length = 8
  own : ∃ v, w.heap[g]? = some (.cells (P.flatMap chEnc ++ [v]).toArray 93 (0, 0)) ∧ w.ownsRow B 98 4 v ev.length (ev.flatMap evEnc)
  ins : ∀ c ∈ P, w.ownsRow B 2 1 c.v c.ins.length (intCells c.ins)

def wTypes : List TypeId := [93, 98]
theorem WorldIn.below {w w' : World} {B g : Nat} {P : List CV} {ev : List Ev} (h : WorldIn w B g P ev) (hb : Below w.heap.size w w') : WorldIn w' B g P ev :=
  ⟨h.base, h.eight, h.own.imp fun _ ⟨h1, h2⟩ => ⟨below_blk hb h1, below_own hb h2⟩, fun c hc => below_own hb (h.ins c hc)⟩
theorem WorldIn.keep {w w' : World} {B B' g : Nat} {P : List CV} {ev : List Ev} {T : List TypeId} (h : WorldIn w B g P ev) (hk : Keep B' T w w') (h1 : 93 ∉ T) (h2 : 98 ∉ T) (h3 : 2 ∉ T) : WorldIn w' B g P ev :=
  ⟨h.base, h.eight, h.own.imp fun _ ⟨h4, h5⟩ => ⟨hk.blk h4 h1, hk.own h5 h2⟩, fun c hc => hk.own (h.ins c hc) h3⟩
theorem WorldIn.drew {w : World} {B g : Nat} {P : List CV} {ev : List Ev} (h : WorldIn w B g P ev) : WorldIn w.drew B g P ev := ⟨h.base, h.eight, h.own, h.ins⟩
theorem WorldIn.drewN {w : World} {B g : Nat} {P : List CV} {ev : List Ev} (h : WorldIn w B g P ev) (n : Nat) : WorldIn (w.drewN n) B g P ev := ⟨h.base, h.eight, h.own, h.ins⟩

theorem flatMap_len {α : Type} {f : α → List Value} {K : Nat} (hK : ∀ a, (f a).length = K) (xs : List α) : (xs.flatMap f).length = xs.length * K := by
  induction xs with
  | nil => simp
  | cons x xs ih => rw [List.flatMap_cons, List.length_append, hK, ih, List.length_cons, Nat.add_mul]; omega
theorem flatMap_set {α : Type} {f : α → List Value} {K : Nat} (hK : ∀ a, (f a).length = K) : ∀ (xs : List α) (i r : Nat) (x x' : α) (u : Value), xs[i]? = some x → r < K → f x' = (f x).set r u → (xs.flatMap f).set (i * K + r) u = (xs.set i x').flatMap f
  | [], i, r, x, x', u, h, _, _ => by simp at h
  | y :: xs, 0, r, x, x', u, h, hr, he => by
    simp at h
    subst h
    simp only [List.flatMap_cons, List.set_cons_zero, Nat.zero_mul, Nat.zero_add]
    rw [he, List.set_append_left _ _ (by rw [hK]; exact hr)]
  | y :: xs, i + 1, r, x, x', u, h, hr, he => by
    simp at h
    simp only [List.flatMap_cons, List.set_cons_succ]
    rw [← flatMap_set hK xs i r x x' u h hr he, List.set_append_right _ _ (by rw [hK, Nat.add_mul]; omega), hK]
    congr 2
    rw [Nat.add_mul]
    omega
/-- The cells of channel k. -/
theorem WorldIn.cellsAt {w : World} {B g : Nat} {P : List CV} {ev : List Ev} (h : WorldIn w B g P ev) {k : Nat} {c : CV} (hc : P[k]? = some c) :
    w.cell? ⟨g, k * 3, none⟩ = some (.int .u64 (c.mask : Int)) ∧ w.cell? ⟨g, k * 3 + 1, none⟩ = some c.v ∧ w.cell? ⟨g, k * 3 + 2, none⟩ = some (.int .i64 (c.read : Int)) := by
  obtain ⟨v, hb, _⟩ := h.own
  have hk : k < P.length := (List.getElem?_eq_some_iff.1 hc).1
  have key : ∀ r u, r < 3 → (chEnc c)[r]? = some u → w.cell? ⟨g, k * 3 + r, none⟩ = some u := by
    intro r u hr hu
    refine cell_of_blk hb ?_
    rw [List.getElem?_toArray, List.getElem?_append_left (by rw [flatMap_len (K := 3) (fun _ => rfl)]; omega), flatMap_get (K := 3) (fun _ => rfl) P k c r hc hr, hu]
  exact ⟨key 0 _ (by omega) rfl, key 1 _ (by omega) rfl, key 2 _ (by omega) rfl⟩
end Go.Proofs.Ytkdoohmchdpjoaa
