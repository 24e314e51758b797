/-
  ParseChecks: part 1 of what the claim rests on.
-/
import Derived.Test.YthobobmbileekaaGreatDoorRows
import Derived.WalkKit
import Derived.ProofKit
import Derived.OpenShut
import Derived.JoinedCond
import Derived.SizedLaws
import Derived.Deep.CondSized
import Derived.Below
import Derived.ChangeSame
import Derived.WalkLawsBesides
import Derived.WalkSpells
import Derived.Lib.Hide
import Derived.Deep.AppendLies
import Derived.Maps.AppendAt
import Derived.Deep.Draws
import Derived.IntWalk
import Derived.Deep.QuietTactic
import Derived.BigQuiet
import Derived.Laws.RangeString
import Derived.Laws.RangeAny
import Derived.Lib.Strings
import Derived.Deep.RegionHeld
set_option linter.unusedVariables false
set_option linter.unusedSimpArgs false
set_option maxHeartbeats 64000000
set_option maxRecDepth 100000
namespace Go.Proofs.YthobobmbileekaaGreatDoor
open Go.ChangeShapes Go.WideShapes Go.ChangeAt Go.RowKit

theorem own : ownKnob Tryz.prog.godebug = none := by kernel_rfl
theorem laidOut : laidOutB Tryz.prog = true := by kernel_rfl

section
variable {H : Type} {enc : TypeId × Value → H} {P : Program}

theorem trodAll_below (hl : laidOutB P = true) {W W' : World} (hb : Below W.heap.size W W') : ∀ (ts : List TypeId) (vs : List Value) (ds : List (DataW H)) (ps : List MemPlace),
    ts.all (fun t => P.readableRec t && decide (t < P.types.size)) = true →
    DataW.TrodAll enc P W 0 (fun _ => true) true ts vs ds ps → (∀ x ∈ ps, x.block < W.heap.size) →
    DataW.TrodAll enc P W' 0 (fun b => decide (b < W.heap.size)) true ts vs ds ps
  | [], [], [], _, _, h, _ => h
  | [], [], _ :: _, _, _, h, _ => h
  | [], _ :: _, _, _, _, h, _ => h
  | _ :: _, [], _, _, _, h, _ => h
  | _ :: _, _ :: _, [], _, _, h, _ => h
  | t :: ts, v :: vs, d :: ds, ps, ht, h, hlt => by
    obtain ⟨p, q, h0, hr, rfl⟩ := h; simp only [List.all_cons, Bool.and_eq_true, decide_eq_true_eq] at ht
    refine ⟨p, q, Below.trod hl ht.1.1 ht.1.2 h0 hb (fun x hx => hlt x (by simp [hx])), trodAll_below hl hb ts vs ds q ?_ hr (fun x hx => hlt x (by simp [hx])), rfl⟩
    simpa only [List.all_eq_true, Bool.and_eq_true, decide_eq_true_eq] using ht.2

theorem law_post (hl : laidOutB P = true) {f : Func} {s : ChangeSpec} {W W' : World} {args : Array Value} {ds gs : List (DataW H)} {before : List MemPlace} {tb : TypeId}
    (hW : DataW.Whole enc P f.params.toList s.vars false W args.toList ds gs before) (hv : s.vars = []) (hrt : f.resultTypes = #[tb]) (htb : P.underlying tb = some .bool)
    (hread : f.params.toList.all (fun t => P.readableRec t && decide (t < P.types.size)) = true)
    (hres : (s.fn H (ds ++ gs)).results = [.lit (.bool true)]) (hargs : (s.fn H (ds ++ gs)).args = ds) (hvars : (s.fn H (ds ++ gs)).vars = [])
    (hb : Below W.heap.size W W') :
    s.post enc P f false true false false W args (.bool true) W' := by
  have hlt : ∀ x ∈ before, x.block < W.heap.size := fun x hx => hW.lt x hx; have hW' := hW; obtain ⟨p, q, hA, hV, rfl, hfz, hnd⟩ := hW; rw [hv] at hV; obtain ⟨rfl, rfl⟩ := trodVars_none hV; simp only [List.append_nil] at hW' hlt
  refine ⟨ds, [], p, [], p, [], by simpa using hW', ?_, ?_, ?_, hb.frame _, fun h => by cases h⟩
  · rw [hres, hrt]
    exact trodAll_mk1 (shut_bool htb true)
  · rw [hargs]
    exact trodAll_below hl hb _ _ _ _ hread hA hlt
  · rw [hvars, hv]
    rfl
end

def Ret (v : Value) (w : World) (e : Ending) (w' : World) : Prop := e = .returned v ∧ w = w'
theorem ret_bool {a b : Bool} (h : a = b) : Ending.returned (.bool a) = .returned (.bool b) := by rw [h]
theorem ret_int {k : IntKind} {a b : Int} (h : a = b) : Ending.returned (.int k a) = .returned (.int k b) := by rw [h]

def Reads (w : World) (B : Nat) (A : Option Addr) (xs : List Value) : Prop :=
  xs = [] ∨ ∃ ad, A = some ad ∧ ad.block < B ∧ ∀ j u, xs[j]? = some u → w.cell? (ad.add j) = some u


def RetB (v : Value) (w : World) (e : Ending) (w' : World) : Prop := e = .returned v ∧ Below w.heap.size w w'

structure Keep (B : Nat) (T : List TypeId) (w w' : World) : Prop where
  os : w'.os = w.os
  tape : w'.tape = w.tape
  output : w'.output = w.output
  size : w.heap.size ≤ w'.heap.size
  block : ∀ b, b < w.heap.size → (b < B ∨ ∀ cs t fr, w.heap[b]? = some (.cells cs t fr) → t ∉ T) → w'.heap[b]? = w.heap[b]?

section
variable {B : Nat} {T T' : List TypeId} {w w1 w2 : World}
theorem Keep.refl (B : Nat) (T : List TypeId) (w : World) : Keep B T w w := ⟨rfl, rfl, rfl, Nat.le_refl _, fun _ _ _ => rfl⟩
theorem Keep.trans (h : Keep B T w w1) (k : Keep B T w1 w2) : Keep B T w w2 :=
  ⟨k.os.trans h.os, k.tape.trans h.tape, k.output.trans h.output, Nat.le_trans h.size k.size, fun b hb hc => by
    have e := h.block b hb hc; exact (k.block b (Nat.lt_of_lt_of_le hb h.size) (hc.imp id fun hn cs t fr h1 => hn cs t fr (e ▸ h1))).trans e⟩
theorem Keep.more (h : Keep B T w w1) (hT : ∀ t ∈ T, t ∈ T') : Keep B T' w w1 :=
  ⟨h.os, h.tape, h.output, h.size, fun b hb hc => h.block b hb (hc.imp id fun hn cs t fr h1 ht => hn cs t fr h1 (hT t ht))⟩
theorem Keep.of_below (h : Below w.heap.size w w1) (B : Nat) (T : List TypeId) : Keep B T w w1 := ⟨h.os, h.tape, h.output, h.size, fun b hb _ => h.block b hb⟩
theorem Keep.below (h : Keep B T w w1) (hB : B ≤ w.heap.size) : Below B w w1 := ⟨h.os, h.tape, h.output, h.size, fun b hb => h.block b (by omega) (.inl hb)⟩
theorem Keep.drew (h : Keep B T w w1) : Keep B T w w1.drew := ⟨h.os, h.tape, h.output, h.size, h.block⟩
theorem Keep.drewN (h : Keep B T w w1) (n : Nat) : Keep B T w (w1.drewN n) := ⟨h.os, h.tape, h.output, h.size, h.block⟩
theorem Keep.alloc (h : Keep B T w w1) (o : Obj) : Keep B T w (w1.alloc o) := h.trans (.of_below ((Below.refl _ _).alloc (Nat.le_refl _) o) B T)
theorem Keep.set (h : Keep B T w w1) {a : Addr} (u : Value) {cs : Array Value} {t : TypeId} {fr : Nat × Nat} (hb : w1.heap[a.block]? = some (.cells cs t fr)) (ht : t ∈ T) (hB : B ≤ a.block) : Keep B T w (w1.setCell a u) :=
  h.trans ⟨rfl, rfl, rfl, by simp [World.setCell], fun b _ hc => by
    refine Below.heap_setCell _ _ _ _ fun e => ?_; subst e
    rcases hc with hc | hc
    · omega
    · exact hc _ _ _ hb ht⟩
theorem Keep.grown (h : Keep B T w w1) {row : Option Nat} (hg : w1.grownBy w2 row) (hr : ∀ g, row = some g → w.heap.size ≤ g ∨ (B ≤ g ∧ ∃ cs t fr, w1.heap[g]? = some (.cells cs t fr) ∧ t ∈ T)) : Keep B T w w2 :=
  ⟨hg.os.trans h.os, hg.tape.trans h.tape, hg.output.trans h.output, Nat.le_trans h.size hg.size, fun b hb hc => by
    have e := h.block b hb hc; refine (hg.block b (Nat.lt_of_lt_of_le hb h.size) fun e' => ?_).trans e
    rcases hr b e'.symm with h1 | ⟨h1, cs, t, fr, h2, h3⟩
    · omega
    · rcases hc with hc | hc
      · omega
      · exact hc _ _ _ (e ▸ h2) h3⟩
theorem Keep.blk (h : Keep B T w w1) {b : Nat} {cs : Array Value} {t : TypeId} {fr : Nat × Nat} (hb : w.heap[b]? = some (.cells cs t fr)) (ht : t ∉ T) : w1.heap[b]? = some (.cells cs t fr) :=
  (h.block b (Array.getElem?_eq_some_iff.1 hb).1 (.inr fun cs' t' fr' h1 => by rw [hb] at h1; injection h1 with h1; injection h1 with _ h1 _; subst h1; exact ht)).trans hb
theorem Keep.own (h : Keep B T w w1) {base : Nat} {e : TypeId} {sz n : Nat} {v : Value} {xs : List Value} (ho : w.ownsRow base e sz v n xs) (ht : e ∉ T) : w1.ownsRow base e sz v n xs := by
  obtain ⟨h1, h2⟩ := ho; refine ⟨h1, h2.imp id ?_⟩; rintro ⟨g, cap, cur, hv, hg, hh, r⟩; exact ⟨g, cap, cur, hv, hg, h.blk hh ht, r⟩
theorem below_own (h : Below w.heap.size w w1) {base : Nat} {e : TypeId} {sz n : Nat} {v : Value} {xs : List Value} (ho : w.ownsRow base e sz v n xs) : w1.ownsRow base e sz v n xs :=
  (Keep.of_below h 0 []).own ho (by simp)
theorem below_blk (h : Below w.heap.size w w1) {b : Nat} {o : Obj} (hb : w.heap[b]? = some o) : w1.heap[b]? = some o :=
  (h.block b (Array.getElem?_eq_some_iff.1 hb).1).trans hb
theorem own_form {base : Nat} {e : TypeId} {sz n : Nat} {v : Value} {xs : List Value} (ho : w.ownsRow base e sz v n xs) : ∃ A c, v = .slice A n c ∧ n ≤ c ∧ c ≤ maxLen ∧
    (0 < n → ∃ gb, A = some ⟨gb, 0, none⟩ ∧ base ≤ gb ∧ gb < w.heap.size ∧ (∃ cur, w.heap[gb]? = some (.cells cur e (0, 0))) ∧ ∀ j u, xs[j]? = some u → w.cell? ⟨gb, j, none⟩ = some u) := by
  rcases ho.2 with ⟨rfl, rfl⟩ | ⟨g, cap, cur, rfl, hg, hh, h1, h2, h3, h4⟩
  · exact ⟨none, 0, rfl, Nat.le_refl _, by unfold maxLen; omega, fun h => absurd h (by omega)⟩
  · refine ⟨_, _, rfl, h1, h2, fun _ => ⟨g, rfl, hg, (Array.getElem?_eq_some_iff.1 hh).1, ⟨cur, hh⟩, fun j u hu => ?_⟩⟩
    have hj : j < n * sz := by have := (List.getElem?_eq_some_iff.1 hu).1; have := ho.1; omega
    rw [World.ownsRow.cellAt ho j hj, hu]
end
theorem cell_of_blk {w : World} {b i : Nat} {cs : Array Value} {t : TypeId} {v : Value} (h : w.heap[b]? = some (.cells cs t (0, 0))) (hv : cs[i]? = some v) : w.cell? ⟨b, i, none⟩ = some v := (cell_of_row w b i cs t (0, 0) h).trans hv
theorem free_of_blk {w : World} {b i : Nat} {cs : Array Value} {t : TypeId} (h : w.heap[b]? = some (.cells cs t (0, 0))) : w.frozen? ⟨b, i, none⟩ = false := by simp [World.frozen?, h]
theorem blk_lt {w : World} {b : Nat} {o : Obj} (h : w.heap[b]? = some o) : b < w.heap.size := (Array.getElem?_eq_some_iff.1 h).1
theorem blk_set {w : World} {b i : Nat} {cs : Array Value} {t : TypeId} {fr : Nat × Nat} (h : w.heap[b]? = some (.cells cs t fr)) (u : Value) : (w.setCell ⟨b, i, none⟩ u).heap[b]? = some (.cells (cs.setIfInBounds i u) t fr) := by
  simp [World.setCell, Array.getElem?_modify, h]
theorem blk_far {w : World} {b : Nat} {a : Addr} {o : Obj} (h : w.heap[b]? = some o) (hne : b ≠ a.block) (u : Value) : (w.setCell a u).heap[b]? = some o := (Below.heap_setCell _ _ _ _ hne).trans h
theorem blk_alloc {w : World} {b : Nat} {o : Obj} (h : w.heap[b]? = some o) (o' : Obj) : (w.alloc o').heap[b]? = some o := (Below.heap_alloc w o' b (blk_lt h)).trans h
theorem blk_ne {w : World} {b b' : Nat} {cs cs' : Array Value} {t t' : TypeId} {fr fr' : Nat × Nat} (h : w.heap[b]? = some (.cells cs t fr)) (h' : w.heap[b']? = some (.cells cs' t' fr')) (hne : t ≠ t') : b ≠ b' := by
  rintro rfl; rw [h] at h'
  injection h' with h'
  injection h' with _ ht
  exact hne ht
theorem blk_grown {w w' : World} {b : Nat} {row : Option Nat} {o : Obj} (h : w.heap[b]? = some o) (hg : w.grownBy w' row) (hne : row ≠ some b) : w'.heap[b]? = some o := (hg.block b (blk_lt h) (fun e => hne e.symm)).trans h
theorem blk_drew {w : World} {b : Nat} {o : Obj} (h : w.heap[b]? = some o) : w.drew.heap[b]? = some o := h
theorem heap_new_at (w : World) (o : Obj) (n : Nat) (h : w.heap.size = n) : (w.alloc o).heap[n]? = some o := by
  subst h; exact heap_alloc_new w o
theorem news_new (w : World) (cs : Array Value) (t : TypeId) (n : Nat) (h : w.heap.size = n) : ∀ j u, cs.toList[j]? = some u → (w.alloc (.cells cs t)).cell? ((⟨n, 0, none⟩ : Addr).add j) = some u := by
  subst h; exact World.news_of_block (heap_alloc_new w _)
theorem news_drew (w : World) (cs : Array Value) (t : TypeId) (n : Nat) (h : w.heap.size = n) : ∀ j u, cs.toList[j]? = some u → (w.alloc (.cells cs t)).drew.cell? ((⟨n, 0, none⟩ : Addr).add j) = some u := news_new w cs t n h
theorem own_blk_ne {w : World} {base g : Nat} {e t : TypeId} {size n : Nat} {v : Value} {xs : List Value} {cs : Array Value} {fr : Nat × Nat} (h : w.ownsRow base e size v n xs) (hg : w.heap[g]? = some (.cells cs t fr)) (hne : e ≠ t) : some g ≠ v.ownBlock := by
  rcases h.2 with ⟨rfl, _⟩ | ⟨g', cap, cur, rfl, _, hh, _⟩
  · simp [Value.ownBlock]
  · intro he
    have : g = g' := by simpa [Value.ownBlock] using he
    exact blk_ne hh hg hne this.symm
theorem quiet_ret {P : Program} {f : FuncId} {args : Array Value} {w : World} {n : Nat} {v : Value} (h : Calls P f args (w.drewN n) (Ret v (w.drewN n))) : Calls P f args (w.drewN n) fun e w'' => e = .returned v ∧ ∃ m, w'' = w.drewN m :=
  h.mono fun _ _ hh => ⟨hh.1, n, hh.2.symm⟩
/-- One operation of a drawn region taken. -/
theorem ztk {P : Program} {md : Region.Mode} {ops : Array Oper} {Q : Exit → Act → World → Prop} {S : World → Prop} (i d : Nat) (v : Value) {oi : Oper} {fuel : Nat} {listed : Array Bool} {a : Act} {w : World} (hS : S w)
    (h : wpAnyH P md ops Q S fuel (listed.setIfInBounds i true) (a.put (some d) v) w) (hi : ops[i]? = some oi := by rfl) (hd : oi.dst = some d := by rfl) (hs : Region.noSelect ops = true := by kernel_rfl) (hf : Region.free md ops listed i = true := by kernel_rfl) (hr : (Region.ready md ops listed).contains i = true := by kernel_rfl)
    (hQ : ∀ c a w, Q (.panic c) (a.put oi.dst v) w → Q (.panic c) a w := by exact fun _ _ _ h => h) (hy : YieldsIf P ops S oi v a := by exact Or.inl ⟨by rfl, fun w' hS => (by go_simp)⟩) : wpAnyH P md ops Q S (fuel + 1) listed a w :=
  wpAnyH_take hi hs hf hr hQ hy hS (by rw [hd]; exact h)
/-- One that its guard does not want passed over. -/
theorem ztu {P : Program} {md : Region.Mode} {ops : Array Oper} {Q : Exit → Act → World → Prop} {S : World → Prop} (i d : Nat) {oi : Oper} {fuel : Nat} {listed : Array Bool} {a : Act} {w : World} (hS : S w)
    (h : wpAnyH P md ops Q S fuel (listed.setIfInBounds i true) (a.put (some d) undef) w) (hi : ops[i]? = some oi := by rfl) (hd : oi.dst = some d := by rfl) (hs : Region.noSelect ops = true := by kernel_rfl) (hf : Region.free md ops listed i = true := by kernel_rfl) (hr : (Region.ready md ops listed).contains i = true := by kernel_rfl)
    (hQ : ∀ c a w, Q (.panic c) (a.put oi.dst undef) w → Q (.panic c) a w := by exact fun _ _ _ h => h) (hy : YieldsIf P ops S oi undef a := by exact Or.inr ⟨by kernel_rfl, rfl⟩) : wpAnyH P md ops Q S (fuel + 1) listed a w :=
  wpAnyH_take hi hs hf hr hQ hy hS (by rw [hd]; exact h)
theorem zrd {P : Program} {md : Region.Mode} {ops : Array Oper} {Q : Exit → Act → World → Prop} {S : World → Prop} (i : Nat) {o : Oper} {fuel : Nat} {listed : Array Bool} {a : Act} {w : World}
    (h : ∀ K' : Act → World → Prop, Shut (∀ a w, S w → (S w → wpAnyH P md ops Q S fuel (listed.setIfInBounds i true) a w) → K' a w) → if Region.wanted o (yielded ops a.tmps) = true then Oper.wp P o a w K' Q else K' (a.put o.dst undef) w)
    (ho : ops[i]? = some o := by rfl) (hr : Region.ready md ops listed = [i] := by kernel_rfl) : wpAnyH P md ops Q S (fuel + 1) listed a w := wpAnyH_ready hr (by simp) (AllReadyH.cons ho h AllReadyH.nil)
theorem zq1 {α : Type} (l : List α) (i : Nat) (a : α) : l.toArray.setIfInBounds i a = (l.set i a).toArray := List.setIfInBounds_toArray ..
theorem zq2 {α : Type} {x : α} {xs : List α} {a : α} : (x :: xs).set 0 a = a :: xs := List.set_cons_zero
theorem zq3 {α : Type} {x : α} {xs : List α} {i : Nat} {a : α} : (x :: xs).set (i + 1) a = x :: xs.set i a := List.set_cons_succ
theorem blk_3 {w : World} {b : Nat} {T : TypeId} {v0 v1 v2 : Value} (h : w.heap[b]? = some (.cells #[v0, v1, v2] T (0, 0))) : w.cell? ⟨b, 0, none⟩ = some v0 ∧ w.cell? ⟨b, 1, none⟩ = some v1 ∧ w.cell? ⟨b, 2, none⟩ = some v2 ∧ w.frozen? ⟨b, 0, none⟩ = false ∧ w.frozen? ⟨b, 1, none⟩ = false ∧ w.frozen? ⟨b, 2, none⟩ = false ∧ b < w.heap.size :=
  ⟨cell_of_blk (i := 0) h rfl, cell_of_blk (i := 1) h rfl, cell_of_blk (i := 2) h rfl, free_of_blk (i := 0) h, free_of_blk (i := 1) h, free_of_blk (i := 2) h, blk_lt h⟩
theorem blk_4 {w : World} {b : Nat} {T : TypeId} {v0 v1 v2 v3 : Value} (h : w.heap[b]? = some (.cells #[v0, v1, v2, v3] T (0, 0))) : w.cell? ⟨b, 0, none⟩ = some v0 ∧ w.cell? ⟨b, 1, none⟩ = some v1 ∧ w.cell? ⟨b, 2, none⟩ = some v2 ∧ w.cell? ⟨b, 3, none⟩ = some v3 ∧ w.frozen? ⟨b, 0, none⟩ = false ∧ w.frozen? ⟨b, 1, none⟩ = false ∧ w.frozen? ⟨b, 2, none⟩ = false ∧ w.frozen? ⟨b, 3, none⟩ = false ∧ b < w.heap.size :=
  ⟨cell_of_blk (i := 0) h rfl, cell_of_blk (i := 1) h rfl, cell_of_blk (i := 2) h rfl, cell_of_blk (i := 3) h rfl, free_of_blk (i := 0) h, free_of_blk (i := 1) h, free_of_blk (i := 2) h, free_of_blk (i := 3) h, blk_lt h⟩
theorem blk_5 {w : World} {b : Nat} {T : TypeId} {v0 v1 v2 v3 v4 : Value} (h : w.heap[b]? = some (.cells #[v0, v1, v2, v3, v4] T (0, 0))) : w.cell? ⟨b, 0, none⟩ = some v0 ∧ w.cell? ⟨b, 1, none⟩ = some v1 ∧ w.cell? ⟨b, 2, none⟩ = some v2 ∧ w.cell? ⟨b, 3, none⟩ = some v3 ∧ w.cell? ⟨b, 4, none⟩ = some v4 ∧ w.frozen? ⟨b, 0, none⟩ = false ∧ w.frozen? ⟨b, 1, none⟩ = false ∧ w.frozen? ⟨b, 2, none⟩ = false ∧ w.frozen? ⟨b, 3, none⟩ = false ∧ w.frozen? ⟨b, 4, none⟩ = false ∧ b < w.heap.size :=
  ⟨cell_of_blk (i := 0) h rfl, cell_of_blk (i := 1) h rfl, cell_of_blk (i := 2) h rfl, cell_of_blk (i := 3) h rfl, cell_of_blk (i := 4) h rfl, free_of_blk (i := 0) h, free_of_blk (i := 1) h, free_of_blk (i := 2) h, free_of_blk (i := 3) h, free_of_blk (i := 4) h, blk_lt h⟩
theorem blk_8 {w : World} {b : Nat} {T : TypeId} {v0 v1 v2 v3 v4 v5 v6 v7 : Value} (h : w.heap[b]? = some (.cells #[v0, v1, v2, v3, v4, v5, v6, v7] T (0, 0))) : w.cell? ⟨b, 0, none⟩ = some v0 ∧ w.cell? ⟨b, 1, none⟩ = some v1 ∧ w.cell? ⟨b, 2, none⟩ = some v2 ∧ w.cell? ⟨b, 3, none⟩ = some v3 ∧ w.cell? ⟨b, 4, none⟩ = some v4 ∧ w.cell? ⟨b, 5, none⟩ = some v5 ∧ w.cell? ⟨b, 6, none⟩ = some v6 ∧ w.cell? ⟨b, 7, none⟩ = some v7 ∧ w.frozen? ⟨b, 0, none⟩ = false ∧ w.frozen? ⟨b, 1, none⟩ = false ∧ w.frozen? ⟨b, 2, none⟩ = false ∧ w.frozen? ⟨b, 3, none⟩ = false ∧ w.frozen? ⟨b, 4, none⟩ = false ∧ w.frozen? ⟨b, 5, none⟩ = false ∧ w.frozen? ⟨b, 6, none⟩ = false ∧ w.frozen? ⟨b, 7, none⟩ = false ∧ b < w.heap.size :=
  ⟨cell_of_blk (i := 0) h rfl, cell_of_blk (i := 1) h rfl, cell_of_blk (i := 2) h rfl, cell_of_blk (i := 3) h rfl, cell_of_blk (i := 4) h rfl, cell_of_blk (i := 5) h rfl, cell_of_blk (i := 6) h rfl, cell_of_blk (i := 7) h rfl, free_of_blk (i := 0) h, free_of_blk (i := 1) h, free_of_blk (i := 2) h, free_of_blk (i := 3) h, free_of_blk (i := 4) h, free_of_blk (i := 5) h, free_of_blk (i := 6) h, free_of_blk (i := 7) h, blk_lt h⟩
theorem blk_11 {w : World} {b : Nat} {T : TypeId} {v0 v1 v2 v3 v4 v5 v6 v7 v8 v9 v10 : Value} (h : w.heap[b]? = some (.cells #[v0, v1, v2, v3, v4, v5, v6, v7, v8, v9, v10] T (0, 0))) : w.cell? ⟨b, 0, none⟩ = some v0 ∧ w.cell? ⟨b, 1, none⟩ = some v1 ∧ w.cell? ⟨b, 2, none⟩ = some v2 ∧ w.cell? ⟨b, 3, none⟩ = some v3 ∧ w.cell? ⟨b, 4, none⟩ = some v4 ∧ w.cell? ⟨b, 5, none⟩ = some v5 ∧ w.cell? ⟨b, 6, none⟩ = some v6 ∧ w.cell? ⟨b, 7, none⟩ = some v7 ∧ w.cell? ⟨b, 8, none⟩ = some v8 ∧ w.cell? ⟨b, 9, none⟩ = some v9 ∧ w.cell? ⟨b, 10, none⟩ = some v10 ∧ w.frozen? ⟨b, 0, none⟩ = false ∧ w.frozen? ⟨b, 1, none⟩ = false ∧ w.frozen? ⟨b, 2, none⟩ = false ∧ w.frozen? ⟨b, 3, none⟩ = false ∧ w.frozen? ⟨b, 4, none⟩ = false ∧ w.frozen? ⟨b, 5, none⟩ = false ∧ w.frozen? ⟨b, 6, none⟩ = false ∧ w.frozen? ⟨b, 7, none⟩ = false ∧ w.frozen? ⟨b, 8, none⟩ = false ∧ w.frozen? ⟨b, 9, none⟩ = false ∧ w.frozen? ⟨b, 10, none⟩ = false ∧ b < w.heap.size :=
  ⟨cell_of_blk (i := 0) h rfl, cell_of_blk (i := 1) h rfl, cell_of_blk (i := 2) h rfl, cell_of_blk (i := 3) h rfl, cell_of_blk (i := 4) h rfl, cell_of_blk (i := 5) h rfl, cell_of_blk (i := 6) h rfl, cell_of_blk (i := 7) h rfl, cell_of_blk (i := 8) h rfl, cell_of_blk (i := 9) h rfl, cell_of_blk (i := 10) h rfl, free_of_blk (i := 0) h, free_of_blk (i := 1) h, free_of_blk (i := 2) h, free_of_blk (i := 3) h, free_of_blk (i := 4) h, free_of_blk (i := 5) h, free_of_blk (i := 6) h, free_of_blk (i := 7) h, free_of_blk (i := 8) h, free_of_blk (i := 9) h, free_of_blk (i := 10) h, blk_lt h⟩
theorem zh {p : Prop} (h : p) : RowKit.Hid p := Lib.hid h
theorem zbr {B : Nat} {w : World} : Below B w w := Below.refl B w
theorem znr {n : Nat} : n ≤ n := Nat.le_refl n
theorem zc (i : Nat) {w : World} {b : Nat} {cs : Array Value} {t : TypeId} {v : Value} (h : w.heap[b]? = some (.cells cs t (0, 0))) (hv : cs[i]? = some v) : w.cell? ⟨b, i, none⟩ = some v := cell_of_blk h hv
theorem zq : (∀ (a : Act) (d : Tmp) (v : Value), a.put (some d) v = { a with tmps := a.tmps.setIfInBounds d v }) ∧ (∀ (a : Act) (v : Value), a.put none v = a) ∧ (∀ {α : Type} (l : List α) (i : Nat) (a : α), l.toArray.setIfInBounds i a = (l.set i a).toArray) ∧ (∀ {α : Type} (x : α) (xs : List α) (a : α), (x :: xs).set 0 a = a :: xs) ∧ (∀ {α : Type} (x : α) (xs : List α) (i : Nat) (a : α), (x :: xs).set (i + 1) a = x :: xs.set i a) :=
  ⟨fun _ _ _ => rfl, fun _ _ => rfl, fun l i a => zq1 l i a, fun _ _ _ => rfl, fun _ _ _ _ => rfl⟩
theorem zf : ((false = true) = False) ∧ (∀ {α : Type} {h : Decidable False} (a b : α), @ite α False h a b = b) ∧ (∀ {α : Type} {h : Decidable True} (a b : α), @ite α True h a b = a) :=
  ⟨Bool.false_eq_true, fun _ _ => if_neg id, fun _ _ => if_pos trivial⟩

theorem wrap_range (x : Int) : -9223372036854775808 ≤ wrap64 x ∧ wrap64 x ≤ 9223372036854775807 := by
  unfold wrap64; omega
theorem wrap_in {x : Int} (h0 : -9223372036854775808 ≤ x) (h1 : x ≤ 9223372036854775807) : wrap64 x = x := by
  unfold wrap64; omega

theorem ret_ib {k : IntKind} {a c : Int} {b d : Bool} (h1 : a = c) (h2 : b = d) : Ending.returned (.tuple #[.int k a, .bool b]) = .returned (.tuple #[.int k c, .bool d]) := by rw [h1, h2]

def hexV (c : Nat) : Nat := if 48 ≤ c ∧ c ≤ 57 then c - 48 else if 97 ≤ c ∧ c ≤ 102 then c - 87 else if 65 ≤ c ∧ c ≤ 70 then c - 55 else 16
def digN (c : Nat) : Nat := if hexV c < 16 then hexV c else 99
theorem hexV_le (c : Nat) : hexV c ≤ 16 := by unfold hexV; split; omega; split; omega; split <;> omega
theorem and7 (c : Nat) (h : (97 ≤ c ∧ c ≤ 102) ∨ (65 ≤ c ∧ c ≤ 70)) : bits BinOp.and .i32 (c : Int) 7 = ((c % 8 : Nat) : Int) := by
  have : c = 97 ∨ c = 98 ∨ c = 99 ∨ c = 100 ∨ c = 101 ∨ c = 102 ∨ c = 65 ∨ c = 66 ∨ c = 67 ∨ c = 68 ∨ c = 69 ∨ c = 70 := by omega
  rcases this with rfl | rfl | rfl | rfl | rfl | rfl | rfl | rfl | rfl | rfl | rfl | rfl <;> decide
theorem digit_any (c : Nat) (w : World) (hc : c ≤ 2147483647) : Calls Tryz.prog 85 #[.int .i32 (c : Int)] w (Ret (.int .u64 (digN c : Int)) w) := by
  by_cases d1 : 48 ≤ c ∧ c ≤ 57
  · obtain ⟨h1, h2⟩ := d1
    have e : digN c = c - 48 := by
      have : hexV c = c - 48 := by unfold hexV; rw [if_pos ⟨h1, h2⟩]
      unfold digN; rw [this, if_pos (by omega)]
    rw [e]; have H := zh (show ((c : Int) - 48) = ((c - 48 : Nat) : Int) by omega)
    go_enter Tryz.func85, Tryz.ntmps85
    go_wp2
    go_ret
    exact ⟨ret_int H.out, rfl⟩
  · by_cases d2 : (97 ≤ c ∧ c ≤ 102) ∨ (65 ≤ c ∧ c ≤ 70)
    · have e : digN c = c % 8 + 9 := by
        have : c = 97 ∨ c = 98 ∨ c = 99 ∨ c = 100 ∨ c = 101 ∨ c = 102 ∨ c = 65 ∨ c = 66 ∨ c = 67 ∨ c = 68 ∨ c = 69 ∨ c = 70 := by omega
        rcases this with rfl | rfl | rfl | rfl | rfl | rfl | rfl | rfl | rfl | rfl | rfl | rfl <;> decide
      have ha := and7 c d2; rw [e]; clear d1 e; have hm : c % 8 < 8 := Nat.mod_lt _ (by omega)
      rcases d2 with ⟨h1, h2⟩ | ⟨h1, h2⟩
      all_goals
        go_enter Tryz.func85, Tryz.ntmps85
        go_wp2
        go_ret
        exact ⟨ret_int (by omega), rfl⟩
    · have e : digN c = 99 := by
        have : hexV c = 16 := by unfold hexV; rw [if_neg d1, if_neg (by omega), if_neg (by omega)]
        unfold digN; rw [this]
        rfl
      rw [e]; have : c < 48 ∨ (57 < c ∧ c < 65) ∨ (70 < c ∧ c < 97) ∨ 102 < c := by omega
      clear d1 d2 e
      rcases this with h | ⟨h1, h2⟩ | ⟨h1, h2⟩ | h
      all_goals
        go_enter Tryz.func85, Tryz.ntmps85
        go_wp2
        go_ret
        exact ⟨rfl, rfl⟩
theorem rdigit_any (c : Nat) (w : World) (hc : c < 256) : Calls Tryz.prog 57 #[.int .u8 (c : Int)] w (Ret (.int .i64 (hexV c : Int)) w) := by
  unfold hexV; by_cases d1 : 48 ≤ c ∧ c ≤ 57
  · rw [if_pos d1]
    obtain ⟨h1, h2⟩ := d1; have H := zh (show ((c : Int) - 48) = ((c - 48 : Nat) : Int) by omega)
    go_enter Tryz.func57, Tryz.ntmps57
    go_wp2
    go_ret
    exact ⟨ret_int H.out, rfl⟩
  · rw [if_neg d1]
    by_cases d2 : 97 ≤ c ∧ c ≤ 102
    · rw [if_pos d2]
      obtain ⟨h1, h2⟩ := d2; have H := zh (show ((c : Int) - 97 + 10) = ((c - 87 : Nat) : Int) by omega); clear d1
      go_enter Tryz.func57, Tryz.ntmps57
      go_wp2
      go_ret
      exact ⟨ret_int H.out, rfl⟩
    · rw [if_neg d2]
      by_cases d3 : 65 ≤ c ∧ c ≤ 70
      · rw [if_pos d3]
        obtain ⟨h1, h2⟩ := d3; have H := zh (show ((c : Int) - 65 + 10) = ((c - 55 : Nat) : Int) by omega); clear d1 d2
        go_enter Tryz.func57, Tryz.ntmps57
        go_wp2
        go_ret
        exact ⟨ret_int H.out, rfl⟩
      · rw [if_neg d3]
        have : c < 48 ∨ (57 < c ∧ c < 65) ∨ (70 < c ∧ c < 97) ∨ 102 < c := by omega
        clear d1 d2 d3
        rcases this with h | ⟨h1, h2⟩ | ⟨h1, h2⟩ | h
        all_goals
          go_enter Tryz.func57, Tryz.ntmps57
          go_wp2
          go_ret
          exact ⟨rfl, rfl⟩

def isHexB (s : ByteArray) : Bool := decide (2 < s.size) && (s.extract 0 2).toList == [48, 120]
def decGo : List UInt8 → Nat → Option Nat
  | [], n => some n
  | c :: l, n => if hexV c.toNat < 10 ∧ 10 * n + hexV c.toNat ≤ 9223372036854775807 then decGo l (10 * n + hexV c.toNat) else none
def hexGo : List UInt8 → Nat → Option Nat
  | [], n => some n
  | c :: l, n => if hexV c.toNat < 16 then hexGo l ((16 * n + hexV c.toNat) % 18446744073709551616) else none
def numS (s : ByteArray) : Option Int :=
  if isHexB s then (if s.size ≤ 18 then (hexGo (s.data.toList.drop 2) 0).map (fun n : Nat => wrap64 (n : Int)) else none)
  else if s.size = 0 then none else (decGo s.data.toList 0).map (fun n : Nat => wrap64 (n : Int))
theorem drop_at {s : ByteArray} {k : Nat} (h : k < s.size) : s.data.toList.drop k = s[k] :: s.data.toList.drop (k + 1) := by
  have : k < s.data.toList.length := by simpa using h
  rw [List.drop_eq_getElem_cons this]
  rfl
theorem digN_high (c : Nat) (h : 128 ≤ c) : digN c = 99 := by
  have : hexV c = 16 := by unfold hexV; rw [if_neg (by omega), if_neg (by omega), if_neg (by omega)]
  unfold digN; rw [this]
  rfl
theorem hexV_high (c : Nat) (h : 128 ≤ c) : hexV c = 16 := by unfold hexV; rw [if_neg (by omega), if_neg (by omega), if_neg (by omega)]
theorem decGo_bad {c : UInt8} {l : List UInt8} {n : Nat} (h : ¬ hexV c.toNat < 10) : decGo (c :: l) n = none := by
  unfold decGo; rw [if_neg (fun e => h e.1)]
theorem decGo_over {c : UInt8} {l : List UInt8} {n : Nat} (h : ¬ 10 * n + hexV c.toNat ≤ 9223372036854775807) : decGo (c :: l) n = none := by
  unfold decGo; rw [if_neg (fun e => h e.2)]
theorem decGo_step {c : UInt8} {l : List UInt8} {n : Nat} (h : hexV c.toNat < 10) (h2 : 10 * n + hexV c.toNat ≤ 9223372036854775807) : decGo (c :: l) n = decGo l (10 * n + hexV c.toNat) := by
  rw [decGo, if_pos ⟨h, h2⟩]
theorem hexGo_bad {c : UInt8} {l : List UInt8} {n : Nat} (h : ¬ hexV c.toNat < 16) : hexGo (c :: l) n = none := by
  rw [hexGo, if_neg h]
theorem hexGo_step {c : UInt8} {l : List UInt8} {n : Nat} (h : hexV c.toNat < 16) : hexGo (c :: l) n = hexGo l ((16 * n + hexV c.toNat) % 18446744073709551616) := by
  rw [hexGo, if_pos h]
theorem below_iter {B : Nat} {w w1 : World} (h : Below B w w1) (hB : B ≤ w1.heap.size) (s : ByteArray) (pos : Nat) : Below B w (w1.iter s pos) := h.alloc hB _

theorem digN_lo {c : Nat} (h : hexV c < 16) : digN c = hexV c := by unfold digN; rw [if_pos h]
theorem digN_ge {c : Nat} (h : ¬ hexV c < 10) : 10 ≤ digN c := by unfold digN; split <;> omega
theorem digN_16 {c : Nat} (h : ¬ hexV c < 16) : digN c = 99 := by unfold digN; rw [if_neg h]
theorem digN_le (c : Nat) : digN c ≤ 99 := by unfold digN; have := hexV_le c; split <;> omega
theorem bytes_none {s : ByteArray} (h : s.size = 0) : s.toList = [] ∧ s.toList.isEmpty = true := by
  have : s.toList = [] := by
    rw [Lib.toList_data]; exact List.eq_nil_of_length_eq_zero (by simpa using h)
  exact ⟨this, by rw [this]; rfl⟩
theorem bytes_some {s : ByteArray} (h : ¬ s.size = 0) : ¬ s.toList = [] ∧ s.toList.isEmpty = false := by
  have : ¬ s.toList = [] := by
    rw [Lib.toList_data]; intro e; exact h (by simpa using congrArg List.length e)
  refine ⟨this, ?_⟩
  cases h2 : s.toList with
  | nil => exact absurd h2 this
  | cons x l => rfl

theorem number_dec (s : ByteArray) (w : World) (hs : s.size ≤ maxLen) (hx : isHexB s = false) : Calls Tryz.prog 62 #[.string s] w (RetB (.tuple #[.int .i64 ((numS s).getD 0), .bool (numS s).isSome]) w) := by
  have e0 : numS s = if s.size = 0 then none else (decGo s.data.toList 0).map (fun n : Nat => wrap64 (n : Int)) := by unfold numS; rw [hx]; rfl
  unfold maxLen at hs; have hx2 : 2 < s.size → ((s.extract 0 2).toList == [48, 120]) = false := by
    intro h; unfold isHexB at hx
    simpa [h] using hx
  clear hx; generalize hR : numS s = R at e0 ⊢
  clear hR; have E0 := zh e0; clear e0; by_cases h2 : 2 < s.size
  all_goals
    first | have hx3 := hx2 h2 | skip
    clear hx2
    go_enter Tryz.func62, Tryz.ntmps62
    go_wp2
    go_loopw [5] (fun n w' => ∃ (pos N : Nat), w' = w.iter s pos ∧ pos ≤ s.size ∧ n = .int .u64 (N : Int) ∧ N ≤ 9223372036854775807 ∧ Hid (decGo (s.data.toList.drop pos) N = decGo s.data.toList 0)) (fun _ w' => s.size - w'.iterPos w.heap.size)
    case atStart => exact ⟨0, 0, rfl, by omega, rfl, by omega, zh rfl⟩
    case round =>
      obtain ⟨pos, N, rfl, hps, rfl, hN, hG⟩ := hrel; by_cases hp : pos < s.size
      · have hd := drop_at hp
        have HG := zh hG.out; clear hG; have hG := HG.out; rw [hd] at hG; clear hd HG; by_cases ha : (s[pos]'hp).toNat < 128
        · have hdec := decode_ascii s pos hp ha
          have hnx : ∀ ty, (Instr.next (.pointer (some ⟨w.heap.size, 0, none⟩)) true ty).run Tryz.prog (w.iter s pos) = _ := fun ty => run_next_ascii w s pos ty hp ha; have hcl := digit_any (s[pos]'hp).toNat (w.iter s (pos + 1)) (by omega); clear hdec; generalize (s[pos]'hp) = c at hcl hnx hG ha
          have hDl := digN_le c.toNat; have HN := zh hN; clear hN; by_cases h10 : hexV c.toNat < 10
          · rw [digN_lo (by omega)] at hcl hDl
            have HG := zh hG; clear hG; go_wp2_with (go_at_call 85; refine hcl.mono ?_; rintro e w' ⟨rfl, rfl⟩)
            · have hq : 10 ≤ (hexV c.toNat : Int) ∨ (9223372036854775807 - (hexV c.toNat : Int)) / 10 < N := by assumption
              have hG := HG.out; rw [decGo_over (by omega)] at hG; have hR : R = none := by rw [E0.out, ← hG]; simp
              subst hR
              go_ret2
              exact ⟨rfl, below_iter zbr znr _ _⟩
            · have hq : (hexV c.toNat : Int) < 10 ∧ (N : Int) ≤ (9223372036854775807 - (hexV c.toNat : Int)) / 10 := by assumption
              have hG := HG.out; rw [decGo_step h10 (by omega)] at hG; go_roundw
              case rel => exact ⟨pos + 1, 10 * N + hexV c.toNat, rfl, by omega, by go_num, by omega, zh hG⟩
              case measure => simp; omega
          · have h99 := digN_ge h10
            rw [decGo_bad h10] at hG; have hR : R = none := by rw [E0.out, ← hG]; simp
            subst hR; clear hG h10; generalize digN c.toNat = D at hcl hDl h99
            go_wp2_with (go_at_call 85; refine hcl.mono ?_; rintro e w' ⟨rfl, rfl⟩)
            go_ret2
            exact ⟨rfl, below_iter zbr znr _ _⟩
        · have hnx : ∀ ty, (Instr.next (.pointer (some ⟨w.heap.size, 0, none⟩)) true ty).run Tryz.prog (w.iter s pos) = _ := fun ty => run_next_any w s pos ty hp
          obtain ⟨hr1, hr2⟩ := decode_high s pos hp (by omega); have hr3 := decode_le s pos; rw [decGo_bad (by rw [hexV_high _ (by omega)]; omega)] at hG; have hR : R = none := by rw [E0.out, ← hG]; simp
          subst hR; clear hG; generalize Utf8.decode s pos = dd at hnx hr1 hr2 hr3
          obtain ⟨rn, wd⟩ := dd; have hcl := digit_any rn (w.iter s (pos + wd)) (by omega); rw [digN_high rn (by omega)] at hcl; go_wp2_with (go_at_call 85; refine hcl.mono ?_; rintro e w' ⟨rfl, rfl⟩)
          go_ret2
          exact ⟨rfl, below_iter zbr znr _ _⟩
      · obtain rfl : pos = s.size := by omega
        have hG' := hG.out; rw [List.drop_of_length_le (by simp)] at hG'; have hnx : ∀ ty, (Instr.next (.pointer (some ⟨w.heap.size, 0, none⟩)) true ty).run Tryz.prog (w.iter s s.size) = _ := fun ty => run_next_end w s s.size ty hp; have hR := E0.out; rw [← hG'] at hR; have HR := zh hR; clear hG hG' hp hR; by_cases hz : s.size = 0
        · obtain ⟨z1, z2⟩ := bytes_none hz
          have hR : R = none := by rw [HR.out, if_pos hz]
          subst hR; clear hz
          first
            | (exfalso; omega)
            | (go_wp2
               go_ret2
               exact ⟨rfl, below_iter zbr znr _ _⟩)
        · obtain ⟨z1, z2⟩ := bytes_some hz
          have hR : R = some (N : Int) := by rw [HR.out, if_neg hz, decGo, Option.map_some, wrap_in (by omega) (by omega)]
          subst hR; clear hz; go_wp2
          go_ret2
          exact ⟨rfl, below_iter zbr znr _ _⟩

theorem hex_wrap (N D : Nat) : IntKind.u64.wrap (IntKind.u64.wrap ((N : Int) * 16) + (D : Int)) = (((16 * N + D) % 18446744073709551616 : Nat) : Int) := by
  rw [IntKind.wrap_u64, IntKind.wrap_u64]
  omega
theorem number_hex (s : ByteArray) (w : World) (hs : s.size ≤ maxLen) (hx : isHexB s = true) : Calls Tryz.prog 62 #[.string s] w (RetB (.tuple #[.int .i64 ((numS s).getD 0), .bool (numS s).isSome]) w) := by
  have e0 : numS s = if s.size ≤ 18 then (hexGo (s.extract 2 s.size).data.toList 0).map (fun n : Nat => wrap64 (n : Int)) else none := by
    unfold numS; rw [hx, Lib.extract_data, List.take_of_length_le (by simp)]
    rfl
  unfold maxLen at hs; have h2 : 2 < s.size := by unfold isHexB at hx; simp at hx; exact hx.1
  have hx3 : ((s.extract 0 2).toList == [48, 120]) = true := by
    unfold isHexB at hx
    simpa [h2] using hx
  clear hx; generalize hR : numS s = R at e0 ⊢
  clear hR; have hsz : (s.extract 2 s.size).size = s.size - 2 := by simp
  have E0 := zh e0; have HZ := zh hsz; clear e0 hsz
  go_enter Tryz.func62, Tryz.ntmps62
  go_wp2
  go_quiet (fail)
  go_wp2
  have hbW : Below w.heap.size w (w.drewN nq) := below_drewN zbr nq; have eW : w.heap.size = (w.drewN nq).heap.size := rfl; rw [eW]; have hsW : w.heap.size ≤ (w.drewN nq).heap.size := znr; generalize w.drewN nq = W at *
  generalize s.extract 2 s.size = t at *
  clear eW
  go_loopw [5] (fun n w' => ∃ (pos N : Nat), w' = W.iter t pos ∧ pos ≤ t.size ∧ n = .int .u64 (N : Int) ∧ Hid (hexGo (t.data.toList.drop pos) N = hexGo t.data.toList 0)) (fun _ w' => t.size - w'.iterPos W.heap.size)
  case atStart => exact ⟨0, 0, rfl, by omega, rfl, zh rfl⟩
  case round =>
    obtain ⟨pos, N, rfl, hps, rfl, hG⟩ := hrel; by_cases hp : pos < t.size
    · have hd := drop_at hp
      have HG := zh hG.out; clear hG; have hG := HG.out; rw [hd] at hG; clear hd HG; by_cases ha : (t[pos]'hp).toNat < 128
      · have hdec := decode_ascii t pos hp ha
        have hnx : ∀ ty, (Instr.next (.pointer (some ⟨W.heap.size, 0, none⟩)) true ty).run Tryz.prog (W.iter t pos) = _ := fun ty => run_next_ascii W t pos ty hp ha; have hcl := digit_any (t[pos]'hp).toNat (W.iter t (pos + 1)) (by omega); clear hdec; generalize (t[pos]'hp) = c at hcl hnx hG ha
        have hDl := digN_le c.toNat; by_cases h10 : hexV c.toNat < 16
        · rw [digN_lo (by omega)] at hcl hDl
          rw [hexGo_step h10] at hG; have HG := zh hG; clear hG; generalize hexV c.toNat = D at hcl h10 HG hDl
          go_wp2_with (go_at_call 85; refine hcl.mono ?_; rintro e w' ⟨rfl, rfl⟩)
          go_roundw
          case rel => exact ⟨pos + 1, (16 * N + D) % 18446744073709551616, rfl, by omega, by rw [hex_wrap], HG⟩
          case measure => simp; omega
        · have h99 := digN_16 h10
          rw [hexGo_bad h10] at hG; have hR : R = none := by rw [E0.out, ← hG]; simp
          subst hR; clear hG h10; rw [h99] at hcl; clear h99 hDl; go_wp2_with (go_at_call 85; refine hcl.mono ?_; rintro e w' ⟨rfl, rfl⟩)
          go_ret2
          exact ⟨rfl, below_iter hbW hsW _ _⟩
      · have hnx : ∀ ty, (Instr.next (.pointer (some ⟨W.heap.size, 0, none⟩)) true ty).run Tryz.prog (W.iter t pos) = _ := fun ty => run_next_any W t pos ty hp
        obtain ⟨hr1, hr2⟩ := decode_high t pos hp (by omega); have hr3 := decode_le t pos; rw [hexGo_bad (by rw [hexV_high _ (by omega)]; omega)] at hG; have hR : R = none := by rw [E0.out, ← hG]; simp
        subst hR; clear hG; generalize Utf8.decode t pos = dd at hnx hr1 hr2 hr3
        obtain ⟨rn, wd⟩ := dd; have hcl := digit_any rn (W.iter t (pos + wd)) (by omega); rw [digN_high rn (by omega)] at hcl; go_wp2_with (go_at_call 85; refine hcl.mono ?_; rintro e w' ⟨rfl, rfl⟩)
        go_ret2
        exact ⟨rfl, below_iter hbW hsW _ _⟩
    · obtain rfl : pos = t.size := by omega
      have hG' := hG.out; rw [List.drop_of_length_le (by simp)] at hG'; have hnx : ∀ ty, (Instr.next (.pointer (some ⟨W.heap.size, 0, none⟩)) true ty).run Tryz.prog (W.iter t t.size) = _ := fun ty => run_next_end W t t.size ty hp; have hR := E0.out; rw [← hG'] at hR; have HR := zh hR; clear hG hG' hp hR; have hz := HZ.out; obtain ⟨z1, z2⟩ := bytes_some (s := t) (by omega); clear hz; by_cases h18 : s.size ≤ 18
      · obtain ⟨v, hv⟩ : ∃ v, wrap64 (N : Int) = v := ⟨_, rfl⟩
        have hR : R = some v := by rw [HR.out, if_pos h18, hexGo, Option.map_some, hv]
        have hq : ¬ 16 < (t.size : Int) := by have := HZ.out; omega
        have HV := zh hv; subst hR; clear h18 hv; go_wp2
        go_ret2
        exact ⟨ret_ib HV.out rfl, below_iter hbW hsW _ _⟩
      · have hR : R = none := by rw [HR.out, if_neg h18]
        have hq : 16 < (t.size : Int) := by have := HZ.out; omega
        subst hR; clear h18; go_wp2
        go_ret2
        exact ⟨rfl, below_iter hbW hsW _ _⟩
theorem number_any (s : ByteArray) (w : World) (hs : s.size ≤ maxLen) : Calls Tryz.prog 62 #[.string s] w (RetB (.tuple #[.int .i64 ((numS s).getD 0), .bool (numS s).isSome]) w) := by
  cases hx : isHexB s
  · exact number_dec s w hs hx
  · exact number_hex s w hs hx

theorem hex_wrap' (N D : Nat) : IntKind.u64.wrap (IntKind.u64.wrap (16 * (N : Int)) + (D : Int)) = (((16 * N + D) % 18446744073709551616 : Nat) : Int) := by
  rw [IntKind.wrap_u64, IntKind.wrap_u64]
  omega
theorem byte_lt (c : UInt8) : c.toNat < 256 := c.toNat_lt
theorem rnumber_dec (s : ByteArray) (w : World) (hs : s.size ≤ maxLen) (hx : isHexB s = false) : Calls Tryz.prog 31 #[.string s] w (Ret (.tuple #[.int .i64 ((numS s).getD 0), .bool (numS s).isSome]) w) := by
  have e0 : numS s = if s.size = 0 then none else (decGo s.data.toList 0).map (fun n : Nat => wrap64 (n : Int)) := by unfold numS; rw [hx]; rfl
  unfold maxLen at hs; have hx2 : 2 < s.size → ((s.extract 0 2).toList == [48, 120]) = false := by
    intro h; unfold isHexB at hx
    simpa [h] using hx
  clear hx; generalize hR : numS s = R at e0 ⊢
  clear hR; have E0 := zh e0; clear e0; by_cases h2 : 2 < s.size
  all_goals
    first | (have hx3 := hx2 h2; have h3 : 3 ≤ s.size := h2) | have h3 : ¬ 3 ≤ s.size := h2
    clear hx2
    go_enter Tryz.func31, Tryz.ntmps31
    go_wp2
    go_loop [7, 8] (fun n i => ∃ (pos N : Nat), i = .int .i64 (pos : Int) ∧ pos ≤ s.size ∧ n = .int .i64 (N : Int) ∧ N ≤ 9223372036854775807 ∧ Hid (decGo (s.data.toList.drop pos) N = decGo s.data.toList 0)) (fun _ i => s.size - (intOf i).toNat)
    case atStart => exact ⟨0, 0, rfl, by omega, rfl, by omega, zh rfl⟩
    case round =>
      obtain ⟨pos, N, rfl, hps, rfl, hN, hG⟩ := hrel; by_cases hp : pos < s.size
      · have hd := drop_at hp
        have HG := zh hG.out; clear hG; have hG := HG.out; rw [hd] at hG; clear hd HG; have hcl := fun w => rdigit_any (s[pos]'hp).toNat w (byte_lt _); have hDl := hexV_le (s[pos]'hp).toNat; have HN := zh hN; clear hN; by_cases h10 : hexV (s[pos]'hp).toNat < 10
        · have HG := zh hG
          clear hG; go_wp2_with (go_at_call 57; refine (hcl _).mono ?_; rintro e w' ⟨rfl, rfl⟩)
          · have hq : 9 < (hexV (s[pos]'hp).toNat : Int) ∨ (9223372036854775807 - (hexV (s[pos]'hp).toNat : Int)) / 10 < N := by assumption
            have hG := HG.out; rw [decGo_over (by omega)] at hG; have hR : R = none := by rw [E0.out, ← hG]; simp
            subst hR
            go_ret2
            exact ⟨rfl, rfl⟩
          · have hq : (hexV (s[pos]'hp).toNat : Int) ≤ 9 ∧ (N : Int) ≤ (9223372036854775807 - (hexV (s[pos]'hp).toNat : Int)) / 10 := by assumption
            have hG := HG.out; rw [decGo_step h10 (by omega)] at hG
            go_round
            case rel => exact ⟨pos + 1, 10 * N + hexV (s[pos]'hp).toNat, by go_num, by omega, by go_num, by omega, zh hG⟩
            case measure => simp [intOf]; omega
        · rw [decGo_bad h10] at hG
          have hR : R = none := by rw [E0.out, ← hG]; simp
          subst hR; clear hG; go_wp2_with (go_at_call 57; refine (hcl _).mono ?_; rintro e w' ⟨rfl, rfl⟩)
          go_ret2
          exact ⟨rfl, rfl⟩
      · obtain rfl : pos = s.size := by omega
        have hG' := hG.out; rw [List.drop_of_length_le (by simp)] at hG'; have hR := E0.out; rw [← hG'] at hR; have HR := zh hR; have HG2 := zh hG'; clear hG hG' hR; by_cases hz : s.size = 0
        · obtain ⟨z1, z2⟩ := bytes_none hz
          have hR : R = none := by rw [HR.out, if_pos hz]
          have hN0 : N = 0 := by
            have h := HG2.out; rw [List.eq_nil_of_length_eq_zero (show s.data.toList.length = 0 by simpa using hz)] at h
            simpa [decGo] using h
          subst hR hN0; clear hz
          first
            | (exfalso; omega)
            | (go_wp2
               go_ret2
               exact ⟨rfl, rfl⟩)
        · obtain ⟨z1, z2⟩ := bytes_some hz
          have hR : R = some (N : Int) := by rw [HR.out, if_neg hz, decGo, Option.map_some, wrap_in (by omega) (by omega)]
          subst hR; clear hz; go_wp2
          go_ret2
          exact ⟨rfl, rfl⟩

theorem rnumber_hex (s : ByteArray) (w : World) (hs : s.size ≤ maxLen) (hx : isHexB s = true) : Calls Tryz.prog 31 #[.string s] w (Ret (.tuple #[.int .i64 ((numS s).getD 0), .bool (numS s).isSome]) w) := by
  have e0 : numS s = if s.size ≤ 18 then (hexGo (s.data.toList.drop 2) 0).map (fun n : Nat => wrap64 (n : Int)) else none := by
    unfold numS; rw [hx]
    rfl
  unfold maxLen at hs; have h2 : 2 < s.size := by unfold isHexB at hx; simp at hx; exact hx.1
  have h3 : 3 ≤ s.size := h2; have hx3 : ((s.extract 0 2).toList == [48, 120]) = true := by
    unfold isHexB at hx
    simpa [h2] using hx
  clear hx; generalize hR : numS s = R at e0 ⊢
  clear hR; have E0 := zh e0; clear e0
  go_enter Tryz.func31, Tryz.ntmps31
  go_wp2
  go_loop [4, 5] (fun n i => ∃ (pos N : Nat), i = .int .i64 (pos : Int) ∧ pos ≤ s.size ∧ pos ≤ 18 ∧ 2 ≤ pos ∧ n = .int .u64 (N : Int) ∧ Hid (hexGo (s.data.toList.drop pos) N = hexGo (s.data.toList.drop 2) 0)) (fun _ i => s.size - (intOf i).toNat)
  case atStart => exact ⟨2, 0, rfl, by omega, by omega, by omega, rfl, zh rfl⟩
  case round =>
    obtain ⟨pos, N, rfl, hps, h18, h2p, rfl, hG⟩ := hrel; by_cases hp : pos < s.size
    · have hd := drop_at hp
      have HG := zh hG.out; clear hG; have hG := HG.out; rw [hd] at hG; clear hd HG; have hcl := fun w => rdigit_any (s[pos]'hp).toNat w (byte_lt _); have hDl := hexV_le (s[pos]'hp).toNat; by_cases h10 : hexV (s[pos]'hp).toNat < 16
      · by_cases h17 : pos ≤ 17
        · rw [hexGo_step h10] at hG
          have HG := zh hG; clear hG; go_wp2_with (go_at_call 57; refine (hcl _).mono ?_; rintro e w' ⟨rfl, rfl⟩)
          go_round
          case rel => exact ⟨pos + 1, (16 * N + hexV (s[pos]'hp).toNat) % 18446744073709551616, by go_num, by omega, by omega, by omega, by first | rw [hex_wrap] | rw [hex_wrap'], HG⟩
          case measure => simp [intOf]; omega
        · have hR : R = none := by rw [E0.out, if_neg (by omega)]
          subst hR; clear hG; have hq : (17 : Int) < pos := by omega
          go_wp2_with (go_at_call 57; refine (hcl _).mono ?_; rintro e w' ⟨rfl, rfl⟩)
          go_ret2
          exact ⟨rfl, rfl⟩
      · rw [hexGo_bad h10] at hG
        have hR : R = none := by rw [E0.out, ← hG]; simp
        subst hR; clear hG; go_wp2_with (go_at_call 57; refine (hcl _).mono ?_; rintro e w' ⟨rfl, rfl⟩)
        go_ret2
        exact ⟨rfl, rfl⟩
    · obtain rfl : pos = s.size := by omega
      have hG' := hG.out; rw [List.drop_of_length_le (by simp)] at hG'; have hR := E0.out; rw [← hG', if_pos h18, hexGo, Option.map_some] at hR; obtain ⟨v, hv⟩ : ∃ v, wrap64 (N : Int) = v := ⟨_, rfl⟩; rw [hv] at hR; have HV := zh hv; subst hR; clear hG hG' hv; go_wp2
      go_ret2
      exact ⟨ret_ib HV.out rfl, rfl⟩
theorem rnumber_any (s : ByteArray) (w : World) (hs : s.size ≤ maxLen) : Calls Tryz.prog 31 #[.string s] w (Ret (.tuple #[.int .i64 ((numS s).getD 0), .bool (numS s).isSome]) w) := by
  cases hx : isHexB s
  · exact rnumber_dec s w hs hx
  · exact rnumber_hex s w hs hx
end Go.Proofs.YthobobmbileekaaGreatDoor
