/-
 HeapApart: part 1 of what the claim rests on.
-/
import Derived.Test.YtilcofpceadpbaaGreatDoorRows
import Derived.WalkKit
import Derived.ProofKit
import Derived.OpenShut
import Derived.JoinedCond
import Derived.SizedLaws
import Derived.Deep.CondSized
import Derived.Below
import Derived.ChangeSame
import Derived.WalkLawsBesides
import Derived.WalkSpells
import Derived.Lib.Hide
import Derived.Deep.AppendLies
import Derived.Maps.AppendAt
import Derived.Deep.Draws
import Derived.Deep.Slices
import Derived.DataReads
import Derived.ChangeArms
import Derived.Maps.OwnSet
import Derived.IntWalk
import Derived.Deep.RegionHeld
set_option linter.unusedVariables false
set_option linter.unusedSimpArgs false
set_option maxHeartbeats 64000000
namespace Go.Proofs.YtilcofpceadpbaaGreatDoor
open Go.ChangeShapes Go.WideShapes Go.ChangeAt Go.RowKit

theorem own : ownKnob Tryz.prog.godebug = none := by kernel_rfl
theorem laidOut : laidOutB Tryz.prog = true := by kernel_rfl

section
variable {H : Type} {enc : TypeId × Value → H} {P : Program}

theorem trodAll_below (hl : laidOutB P = true) {W W' : World} (hb : Below W.heap.size W W') : ∀ (ts : List TypeId) (vs : List Value) (ds : List (DataW H)) (ps : List MemPlace),
  ts.all (fun t => P.readableRec t && decide (t < P.types.size)) = true →
  DataW.TrodAll enc P W 0 (fun _ => true) true ts vs ds ps → (∀ x ∈ ps, x.block < W.heap.size) →
  DataW.TrodAll enc P W' 0 (fun b => decide (b < W.heap.size)) true ts vs ds ps
 | [], [], [], _, _, h, _ => h
 | [], [], _ :: _, _, _, h, _ => h
 | [], _ :: _, _, _, _, h, _ => h
 | _ :: _, [], _, _, _, h, _ => h
 | _ :: _, _ :: _, [], _, _, h, _ => h
 | t :: ts, v :: vs, d :: ds, ps, ht, h, hlt => by
  obtain ⟨p, q, h0, hr, rfl⟩ := h
  simp only [List.all_cons, Bool.and_eq_true, decide_eq_true_eq] at ht
  refine ⟨p, q, Below.trod hl ht.1.1 ht.1.2 h0 hb (fun x hx => hlt x (by simp [hx])), trodAll_below hl hb ts vs ds q ?_ hr (fun x hx => hlt x (by simp [hx])), rfl⟩
  simpa only [List.all_eq_true, Bool.and_eq_true, decide_eq_true_eq] using ht.2

theorem law_post (hl : laidOutB P = true) {f : Func} {s : ChangeSpec} {W W' : World} {args : Array Value} {ds gs : List (DataW H)} {before : List MemPlace} {tb : TypeId}
  (hW : DataW.Whole enc P f.params.toList s.vars false W args.toList ds gs before) (hv : s.vars = []) (hrt : f.resultTypes = #[tb]) (htb : P.underlying tb = some .bool)
  (hread : f.params.toList.all (fun t => P.readableRec t && decide (t < P.types.size)) = true)
  (hres : (s.fn H (ds ++ gs)).results = [.lit (.bool true)]) (hargs : (s.fn H (ds ++ gs)).args = ds) (hvars : (s.fn H (ds ++ gs)).vars = [])
  (hb : Below W.heap.size W W') :
  s.post enc P f false true false false W args (.bool true) W' := by
 have hlt : ∀ x ∈ before, x.block < W.heap.size := fun x hx => hW.lt x hx
 have hW' := hW
 obtain ⟨p, q, hA, hV, rfl, hfz, hnd⟩ := hW
 rw [hv] at hV
 obtain ⟨rfl, rfl⟩ := trodVars_none hV
 simp only [List.append_nil] at hW' hlt
 refine ⟨ds, [], p, [], p, [], by simpa using hW', ?_, ?_, ?_, hb.frame _, fun h => by cases h⟩
 ·rw [hres, hrt]
  exact trodAll_mk1 (shut_bool htb true)
 ·rw [hargs]
  exact trodAll_below hl hb _ _ _ _ hread hA hlt
 ·rw [hvars, hv]
  rfl
end

def Ret (v : Value) (w : World) (e : Ending) (w' : World) : Prop := e = .returned v ∧ w = w'
theorem ret_bool {a b : Bool} (h : a = b) : Ending.returned (.bool a) = .returned (.bool b) := by rw [h]
theorem ret_int {k : IntKind} {a b : Int} (h : a = b) : Ending.returned (.int k a) = .returned (.int k b) := by rw [h]

def Reads (w : World) (B : Nat) (A : Option Addr) (xs : List Value) : Prop :=
 xs = [] ∨ ∃ ad, A = some ad ∧ ad.block < B ∧ ∀ j u, xs[j]? = some u → w.cell? (ad.add j) = some u


def RetB (v : Value) (w : World) (e : Ending) (w' : World) : Prop := e = .returned v ∧ Below w.heap.size w w'

structure Keep (B : Nat) (T : List TypeId) (w w' : World) : Prop where
 os : w'.os = w.os
 tape : w'.tape = w.tape
 output : w'.output = w.output
 size : w.heap.size ≤ w'.heap.size
 block : ∀ b, b < w.heap.size → (b < B ∨ ∀ cs t fr, w.heap[b]? = some (.cells cs t fr) → t ∉ T) → w'.heap[b]? = w.heap[b]?

section
variable {B : Nat} {T T' : List TypeId} {w w1 w2 : World}
theorem Keep.refl (B : Nat) (T : List TypeId) (w : World) : Keep B T w w := ⟨rfl, rfl, rfl, Nat.le_refl _, fun _ _ _ => rfl⟩
theorem Keep.trans (h : Keep B T w w1) (k : Keep B T w1 w2) : Keep B T w w2 :=
 ⟨k.os.trans h.os, k.tape.trans h.tape, k.output.trans h.output, Nat.le_trans h.size k.size, fun b hb hc => by
  have e := h.block b hb hc
  exact (k.block b (Nat.lt_of_lt_of_le hb h.size) (hc.imp id fun hn cs t fr h1 => hn cs t fr (e ▸ h1))).trans e⟩
theorem Keep.more (h : Keep B T w w1) (hT : ∀ t ∈ T, t ∈ T') : Keep B T' w w1 :=
 ⟨h.os, h.tape, h.output, h.size, fun b hb hc => h.block b hb (hc.imp id fun hn cs t fr h1 ht => hn cs t fr h1 (hT t ht))⟩
theorem Keep.of_below (h : Below w.heap.size w w1) (B : Nat) (T : List TypeId) : Keep B T w w1 := ⟨h.os, h.tape, h.output, h.size, fun b hb _ => h.block b hb⟩
theorem Keep.below (h : Keep B T w w1) (hB : B ≤ w.heap.size) : Below B w w1 := ⟨h.os, h.tape, h.output, h.size, fun b hb => h.block b (by omega) (.inl hb)⟩
theorem Keep.drew (h : Keep B T w w1) : Keep B T w w1.drew := ⟨h.os, h.tape, h.output, h.size, h.block⟩
theorem Keep.drewN (h : Keep B T w w1) (n : Nat) : Keep B T w (w1.drewN n) := ⟨h.os, h.tape, h.output, h.size, h.block⟩
theorem Keep.alloc (h : Keep B T w w1) (o : Obj) : Keep B T w (w1.alloc o) := h.trans (.of_below ((Below.refl _ _).alloc (Nat.le_refl _) o) B T)
theorem Keep.set (h : Keep B T w w1) {a : Addr} (u : Value) {cs : Array Value} {t : TypeId} {fr : Nat × Nat} (hb : w1.heap[a.block]? = some (.cells cs t fr)) (ht : t ∈ T) (hB : B ≤ a.block) : Keep B T w (w1.setCell a u) :=
 h.trans ⟨rfl, rfl, rfl, by simp [World.setCell], fun b _ hc => by
  refine Below.heap_setCell _ _ _ _ fun e => ?_
  subst e
  rcases hc with hc | hc
  ·omega
  ·exact hc _ _ _ hb ht⟩
theorem Keep.grown (h : Keep B T w w1) {row : Option Nat} (hg : w1.grownBy w2 row) (hr : ∀ g, row = some g → w.heap.size ≤ g ∨ (B ≤ g ∧ ∃ cs t fr, w1.heap[g]? = some (.cells cs t fr) ∧ t ∈ T)) : Keep B T w w2 :=
 ⟨hg.os.trans h.os, hg.tape.trans h.tape, hg.output.trans h.output, Nat.le_trans h.size hg.size, fun b hb hc => by
  have e := h.block b hb hc
  refine (hg.block b (Nat.lt_of_lt_of_le hb h.size) fun e' => ?_).trans e
  rcases hr b e'.symm with h1 | ⟨h1, cs, t, fr, h2, h3⟩
  ·omega
  ·rcases hc with hc | hc
   ·omega
   ·exact hc _ _ _ (e ▸ h2) h3⟩
theorem Keep.blk (h : Keep B T w w1) {b : Nat} {cs : Array Value} {t : TypeId} {fr : Nat × Nat} (hb : w.heap[b]? = some (.cells cs t fr)) (ht : t ∉ T) : w1.heap[b]? = some (.cells cs t fr) :=
 (h.block b (Array.getElem?_eq_some_iff.1 hb).1 (.inr fun cs' t' fr' h1 => by rw [hb] at h1; injection h1 with h1; injection h1 with _ h1 _; subst h1; exact ht)).trans hb
theorem Keep.own (h : Keep B T w w1) {base : Nat} {e : TypeId} {sz n : Nat} {v : Value} {xs : List Value} (ho : w.ownsRow base e sz v n xs) (ht : e ∉ T) : w1.ownsRow base e sz v n xs := by
 obtain ⟨h1, h2⟩ := ho
 refine ⟨h1, h2.imp id ?_⟩
 rintro ⟨g, cap, cur, hv, hg, hh, r⟩
 exact ⟨g, cap, cur, hv, hg, h.blk hh ht, r⟩
theorem below_own (h : Below w.heap.size w w1) {base : Nat} {e : TypeId} {sz n : Nat} {v : Value} {xs : List Value} (ho : w.ownsRow base e sz v n xs) : w1.ownsRow base e sz v n xs :=
 (Keep.of_below h 0 []).own ho (by simp)
theorem below_blk (h : Below w.heap.size w w1) {b : Nat} {o : Obj} (hb : w.heap[b]? = some o) : w1.heap[b]? = some o :=
 (h.block b (Array.getElem?_eq_some_iff.1 hb).1).trans hb
theorem own_form {base : Nat} {e : TypeId} {sz n : Nat} {v : Value} {xs : List Value} (ho : w.ownsRow base e sz v n xs) : ∃ A c, v = .slice A n c ∧ n ≤ c ∧ c ≤ maxLen ∧
  (0 < n → ∃ gb, A = some ⟨gb, 0, none⟩ ∧ base ≤ gb ∧ gb < w.heap.size ∧ (∃ cur, w.heap[gb]? = some (.cells cur e (0, 0))) ∧ ∀ j u, xs[j]? = some u → w.cell? ⟨gb, j, none⟩ = some u) := by
 rcases ho.2 with ⟨rfl, rfl⟩ | ⟨g, cap, cur, rfl, hg, hh, h1, h2, h3, h4⟩
 ·exact ⟨none, 0, rfl, Nat.le_refl _, by unfold maxLen; omega, fun h => absurd h (by omega)⟩
 ·refine ⟨_, _, rfl, h1, h2, fun _ => ⟨g, rfl, hg, (Array.getElem?_eq_some_iff.1 hh).1, ⟨cur, hh⟩, fun j u hu => ?_⟩⟩
  have hj : j < n * sz := by have := (List.getElem?_eq_some_iff.1 hu).1; have := ho.1; omega
  rw [World.ownsRow.cellAt ho j hj, hu]
end
theorem cell_of_blk {w : World} {b i : Nat} {cs : Array Value} {t : TypeId} {v : Value} (h : w.heap[b]? = some (.cells cs t (0, 0))) (hv : cs[i]? = some v) : w.cell? ⟨b, i, none⟩ = some v := (cell_of_row w b i cs t (0, 0) h).trans hv
theorem free_of_blk {w : World} {b i : Nat} {cs : Array Value} {t : TypeId} (h : w.heap[b]? = some (.cells cs t (0, 0))) : w.frozen? ⟨b, i, none⟩ = false := by simp [World.frozen?, h]
theorem blk_lt {w : World} {b : Nat} {o : Obj} (h : w.heap[b]? = some o) : b < w.heap.size := (Array.getElem?_eq_some_iff.1 h).1
theorem blk_set {w : World} {b i : Nat} {cs : Array Value} {t : TypeId} {fr : Nat × Nat} (h : w.heap[b]? = some (.cells cs t fr)) (u : Value) : (w.setCell ⟨b, i, none⟩ u).heap[b]? = some (.cells (cs.setIfInBounds i u) t fr) := by
 simp [World.setCell, Array.getElem?_modify, h]
theorem blk_far {w : World} {b : Nat} {a : Addr} {o : Obj} (h : w.heap[b]? = some o) (hne : b ≠ a.block) (u : Value) : (w.setCell a u).heap[b]? = some o := (Below.heap_setCell _ _ _ _ hne).trans h
theorem blk_alloc {w : World} {b : Nat} {o : Obj} (h : w.heap[b]? = some o) (o' : Obj) : (w.alloc o').heap[b]? = some o := (Below.heap_alloc w o' b (blk_lt h)).trans h
theorem blk_ne {w : World} {b b' : Nat} {cs cs' : Array Value} {t t' : TypeId} {fr fr' : Nat × Nat} (h : w.heap[b]? = some (.cells cs t fr)) (h' : w.heap[b']? = some (.cells cs' t' fr')) (hne : t ≠ t') : b ≠ b' := by
 rintro rfl
 rw [h] at h'
 injection h' with h'
 injection h' with _ ht
 exact hne ht
theorem blk_grown {w w' : World} {b : Nat} {row : Option Nat} {o : Obj} (h : w.heap[b]? = some o) (hg : w.grownBy w' row) (hne : row ≠ some b) : w'.heap[b]? = some o := (hg.block b (blk_lt h) (fun e => hne e.symm)).trans h
theorem blk_drew {w : World} {b : Nat} {o : Obj} (h : w.heap[b]? = some o) : w.drew.heap[b]? = some o := h
theorem heap_new_at (w : World) (o : Obj) (n : Nat) (h : w.heap.size = n) : (w.alloc o).heap[n]? = some o := by
 subst h
 exact heap_alloc_new w o
theorem news_new (w : World) (cs : Array Value) (t : TypeId) (n : Nat) (h : w.heap.size = n) : ∀ j u, cs.toList[j]? = some u → (w.alloc (.cells cs t)).cell? ((⟨n, 0, none⟩ : Addr).add j) = some u := by
 subst h
 exact World.news_of_block (heap_alloc_new w _)
theorem news_drew (w : World) (cs : Array Value) (t : TypeId) (n : Nat) (h : w.heap.size = n) : ∀ j u, cs.toList[j]? = some u → (w.alloc (.cells cs t)).drew.cell? ((⟨n, 0, none⟩ : Addr).add j) = some u := news_new w cs t n h
theorem own_blk_ne {w : World} {base g : Nat} {e t : TypeId} {size n : Nat} {v : Value} {xs : List Value} {cs : Array Value} {fr : Nat × Nat} (h : w.ownsRow base e size v n xs) (hg : w.heap[g]? = some (.cells cs t fr)) (hne : e ≠ t) : some g ≠ v.ownBlock := by
 rcases h.2 with ⟨rfl, _⟩ | ⟨g', cap, cur, rfl, _, hh, _⟩
 ·simp [Value.ownBlock]
 ·intro he
  have : g = g' := by simpa [Value.ownBlock] using he
  exact blk_ne hh hg hne this.symm
theorem own_set_far {w : World} {base : Nat} {e t : TypeId} {size n : Nat} {v : Value} {xs : List Value} {cs : Array Value} {fr : Nat × Nat} (h : w.ownsRow base e size v n xs) {a : Addr} (hg : w.heap[a.block]? = some (.cells cs t fr)) (hne : e ≠ t) (u : Value) :
  (w.setCell a u).ownsRow base e size v n xs := by
 obtain ⟨h1, h2⟩ := h
 refine ⟨h1, h2.imp id ?_⟩
 rintro ⟨g, cap, cur, hv, hb, hh, r⟩
 exact ⟨g, cap, cur, hv, hb, blk_far hh (blk_ne hh hg hne) u, r⟩
theorem own_drew {w : World} {base : Nat} {e : TypeId} {size n : Nat} {v : Value} {xs : List Value} (h : w.ownsRow base e size v n xs) : w.drew.ownsRow base e size v n xs := h
theorem quiet_ret {P : Program} {f : FuncId} {args : Array Value} {w : World} {n : Nat} {v : Value} (h : Calls P f args (w.drewN n) (Ret v (w.drewN n))) : Calls P f args (w.drewN n) fun e w'' => e = .returned v ∧ ∃ m, w'' = w.drewN m :=
 h.mono fun _ _ hh => ⟨hh.1, n, hh.2.symm⟩
theorem quiet_ret_add {P : Program} {f : FuncId} {args : Array Value} {w : World} {a n : Nat} {v : Value} (h : Calls P f args (w.drewN (a + n)) (Ret v (w.drewN (a + n)))) : Calls P f args (w.drewN (a + n)) fun e w'' => e = .returned v ∧ ∃ m, w'' = w.drewN (a + m) :=
 h.mono fun _ _ hh => ⟨hh.1, n, hh.2.symm⟩
/-- One operation of a drawn region taken. -/
theorem tk {P : Program} {md : Region.Mode} {ops : Array Oper} {Q : Exit → Act → World → Prop} {S : World → Prop} (i d : Nat) (v : Value) {oi : Oper} {fuel : Nat} {listed : Array Bool} {a : Act} {w : World} (hS : S w)
  (h : wpAnyH P md ops Q S fuel (listed.setIfInBounds i true) (a.put (some d) v) w) (hi : ops[i]? = some oi := by rfl) (hd : oi.dst = some d := by rfl) (hs : Region.noSelect ops = true := by kernel_rfl) (hf : Region.free md ops listed i = true := by kernel_rfl) (hr : (Region.ready md ops listed).contains i = true := by kernel_rfl)
  (hQ : ∀ c a w, Q (.panic c) (a.put oi.dst v) w → Q (.panic c) a w := by exact fun _ _ _ h => h) (hy : YieldsIf P ops S oi v a := by exact Or.inl ⟨by rfl, fun w' hS => (by go_simp)⟩) : wpAnyH P md ops Q S (fuel + 1) listed a w :=
 wpAnyH_take hi hs hf hr hQ hy hS (by rw [hd]; exact h)
/-- One that its guard does not want passed over. -/
theorem tu {P : Program} {md : Region.Mode} {ops : Array Oper} {Q : Exit → Act → World → Prop} {S : World → Prop} (i d : Nat) {oi : Oper} {fuel : Nat} {listed : Array Bool} {a : Act} {w : World} (hS : S w)
  (h : wpAnyH P md ops Q S fuel (listed.setIfInBounds i true) (a.put (some d) undef) w) (hi : ops[i]? = some oi := by rfl) (hd : oi.dst = some d := by rfl) (hs : Region.noSelect ops = true := by kernel_rfl) (hf : Region.free md ops listed i = true := by kernel_rfl) (hr : (Region.ready md ops listed).contains i = true := by kernel_rfl)
  (hQ : ∀ c a w, Q (.panic c) (a.put oi.dst undef) w → Q (.panic c) a w := by exact fun _ _ _ h => h) (hy : YieldsIf P ops S oi undef a := by exact Or.inr ⟨by kernel_rfl, rfl⟩) : wpAnyH P md ops Q S (fuel + 1) listed a w :=
 wpAnyH_take hi hs hf hr hQ hy hS (by rw [hd]; exact h)
theorem rd {P : Program} {md : Region.Mode} {ops : Array Oper} {Q : Exit → Act → World → Prop} {S : World → Prop} (i : Nat) {o : Oper} {fuel : Nat} {listed : Array Bool} {a : Act} {w : World}
  (h : ∀ K' : Act → World → Prop, Shut (∀ a w, S w → (S w → wpAnyH P md ops Q S fuel (listed.setIfInBounds i true) a w) → K' a w) → if Region.wanted o (yielded ops a.tmps) = true then Oper.wp P o a w K' Q else K' (a.put o.dst undef) w)
  (ho : ops[i]? = some o := by rfl) (hr : Region.ready md ops listed = [i] := by kernel_rfl) : wpAnyH P md ops Q S (fuel + 1) listed a w := wpAnyH_ready hr (by simp) (AllReadyH.cons ho h AllReadyH.nil)
theorem zq1 {α : Type} (l : List α) (i : Nat) (a : α) : l.toArray.setIfInBounds i a = (l.set i a).toArray := List.setIfInBounds_toArray ..
theorem zq2 {α : Type} {x : α} {xs : List α} {a : α} : (x :: xs).set 0 a = a :: xs := List.set_cons_zero
theorem zq3 {α : Type} {x : α} {xs : List α} {i : Nat} {a : α} : (x :: xs).set (i + 1) a = x :: xs.set i a := List.set_cons_succ
theorem blk_3 {w : World} {b : Nat} {T : TypeId} {v0 v1 v2 : Value} (h : w.heap[b]? = some (.cells #[v0, v1, v2] T (0, 0))) : w.cell? ⟨b, 0, none⟩ = some v0 ∧ w.cell? ⟨b, 1, none⟩ = some v1 ∧ w.cell? ⟨b, 2, none⟩ = some v2 ∧ w.frozen? ⟨b, 0, none⟩ = false ∧ w.frozen? ⟨b, 1, none⟩ = false ∧ w.frozen? ⟨b, 2, none⟩ = false ∧ b < w.heap.size :=
 ⟨cell_of_blk (i := 0) h rfl, cell_of_blk (i := 1) h rfl, cell_of_blk (i := 2) h rfl, free_of_blk (i := 0) h, free_of_blk (i := 1) h, free_of_blk (i := 2) h, blk_lt h⟩
theorem blk_4 {w : World} {b : Nat} {T : TypeId} {v0 v1 v2 v3 : Value} (h : w.heap[b]? = some (.cells #[v0, v1, v2, v3] T (0, 0))) : w.cell? ⟨b, 0, none⟩ = some v0 ∧ w.cell? ⟨b, 1, none⟩ = some v1 ∧ w.cell? ⟨b, 2, none⟩ = some v2 ∧ w.cell? ⟨b, 3, none⟩ = some v3 ∧ w.frozen? ⟨b, 0, none⟩ = false ∧ w.frozen? ⟨b, 1, none⟩ = false ∧ w.frozen? ⟨b, 2, none⟩ = false ∧ w.frozen? ⟨b, 3, none⟩ = false ∧ b < w.heap.size :=
 ⟨cell_of_blk (i := 0) h rfl, cell_of_blk (i := 1) h rfl, cell_of_blk (i := 2) h rfl, cell_of_blk (i := 3) h rfl, free_of_blk (i := 0) h, free_of_blk (i := 1) h, free_of_blk (i := 2) h, free_of_blk (i := 3) h, blk_lt h⟩
theorem blk_5 {w : World} {b : Nat} {T : TypeId} {v0 v1 v2 v3 v4 : Value} (h : w.heap[b]? = some (.cells #[v0, v1, v2, v3, v4] T (0, 0))) : w.cell? ⟨b, 0, none⟩ = some v0 ∧ w.cell? ⟨b, 1, none⟩ = some v1 ∧ w.cell? ⟨b, 2, none⟩ = some v2 ∧ w.cell? ⟨b, 3, none⟩ = some v3 ∧ w.cell? ⟨b, 4, none⟩ = some v4 ∧ w.frozen? ⟨b, 0, none⟩ = false ∧ w.frozen? ⟨b, 1, none⟩ = false ∧ w.frozen? ⟨b, 2, none⟩ = false ∧ w.frozen? ⟨b, 3, none⟩ = false ∧ w.frozen? ⟨b, 4, none⟩ = false ∧ b < w.heap.size :=
 ⟨cell_of_blk (i := 0) h rfl, cell_of_blk (i := 1) h rfl, cell_of_blk (i := 2) h rfl, cell_of_blk (i := 3) h rfl, cell_of_blk (i := 4) h rfl, free_of_blk (i := 0) h, free_of_blk (i := 1) h, free_of_blk (i := 2) h, free_of_blk (i := 3) h, free_of_blk (i := 4) h, blk_lt h⟩
theorem blk_8 {w : World} {b : Nat} {T : TypeId} {v0 v1 v2 v3 v4 v5 v6 v7 : Value} (h : w.heap[b]? = some (.cells #[v0, v1, v2, v3, v4, v5, v6, v7] T (0, 0))) : w.cell? ⟨b, 0, none⟩ = some v0 ∧ w.cell? ⟨b, 1, none⟩ = some v1 ∧ w.cell? ⟨b, 2, none⟩ = some v2 ∧ w.cell? ⟨b, 3, none⟩ = some v3 ∧ w.cell? ⟨b, 4, none⟩ = some v4 ∧ w.cell? ⟨b, 5, none⟩ = some v5 ∧ w.cell? ⟨b, 6, none⟩ = some v6 ∧ w.cell? ⟨b, 7, none⟩ = some v7 ∧ w.frozen? ⟨b, 0, none⟩ = false ∧ w.frozen? ⟨b, 1, none⟩ = false ∧ w.frozen? ⟨b, 2, none⟩ = false ∧ w.frozen? ⟨b, 3, none⟩ = false ∧ w.frozen? ⟨b, 4, none⟩ = false ∧ w.frozen? ⟨b, 5, none⟩ = false ∧ w.frozen? ⟨b, 6, none⟩ = false ∧ w.frozen? ⟨b, 7, none⟩ = false ∧ b < w.heap.size :=
 ⟨cell_of_blk (i := 0) h rfl, cell_of_blk (i := 1) h rfl, cell_of_blk (i := 2) h rfl, cell_of_blk (i := 3) h rfl, cell_of_blk (i := 4) h rfl, cell_of_blk (i := 5) h rfl, cell_of_blk (i := 6) h rfl, cell_of_blk (i := 7) h rfl, free_of_blk (i := 0) h, free_of_blk (i := 1) h, free_of_blk (i := 2) h, free_of_blk (i := 3) h, free_of_blk (i := 4) h, free_of_blk (i := 5) h, free_of_blk (i := 6) h, free_of_blk (i := 7) h, blk_lt h⟩
theorem blk_11 {w : World} {b : Nat} {T : TypeId} {v0 v1 v2 v3 v4 v5 v6 v7 v8 v9 v10 : Value} (h : w.heap[b]? = some (.cells #[v0, v1, v2, v3, v4, v5, v6, v7, v8, v9, v10] T (0, 0))) : w.cell? ⟨b, 0, none⟩ = some v0 ∧ w.cell? ⟨b, 1, none⟩ = some v1 ∧ w.cell? ⟨b, 2, none⟩ = some v2 ∧ w.cell? ⟨b, 3, none⟩ = some v3 ∧ w.cell? ⟨b, 4, none⟩ = some v4 ∧ w.cell? ⟨b, 5, none⟩ = some v5 ∧ w.cell? ⟨b, 6, none⟩ = some v6 ∧ w.cell? ⟨b, 7, none⟩ = some v7 ∧ w.cell? ⟨b, 8, none⟩ = some v8 ∧ w.cell? ⟨b, 9, none⟩ = some v9 ∧ w.cell? ⟨b, 10, none⟩ = some v10 ∧ w.frozen? ⟨b, 0, none⟩ = false ∧ w.frozen? ⟨b, 1, none⟩ = false ∧ w.frozen? ⟨b, 2, none⟩ = false ∧ w.frozen? ⟨b, 3, none⟩ = false ∧ w.frozen? ⟨b, 4, none⟩ = false ∧ w.frozen? ⟨b, 5, none⟩ = false ∧ w.frozen? ⟨b, 6, none⟩ = false ∧ w.frozen? ⟨b, 7, none⟩ = false ∧ w.frozen? ⟨b, 8, none⟩ = false ∧ w.frozen? ⟨b, 9, none⟩ = false ∧ w.frozen? ⟨b, 10, none⟩ = false ∧ b < w.heap.size :=
 ⟨cell_of_blk (i := 0) h rfl, cell_of_blk (i := 1) h rfl, cell_of_blk (i := 2) h rfl, cell_of_blk (i := 3) h rfl, cell_of_blk (i := 4) h rfl, cell_of_blk (i := 5) h rfl, cell_of_blk (i := 6) h rfl, cell_of_blk (i := 7) h rfl, cell_of_blk (i := 8) h rfl, cell_of_blk (i := 9) h rfl, cell_of_blk (i := 10) h rfl, free_of_blk (i := 0) h, free_of_blk (i := 1) h, free_of_blk (i := 2) h, free_of_blk (i := 3) h, free_of_blk (i := 4) h, free_of_blk (i := 5) h, free_of_blk (i := 6) h, free_of_blk (i := 7) h, free_of_blk (i := 8) h, free_of_blk (i := 9) h, free_of_blk (i := 10) h, blk_lt h⟩
end Go.Proofs.YtilcofpceadpbaaGreatDoor
namespace Go.Proofs.YtilcofpceadpbaaGreatDoor

inductive Ty where
 | mk (kind : Int) (names : List ByteArray) (args : List Ty)

def Ty.kind : Ty → Int | .mk k _ _ => k
def Ty.names : Ty → List ByteArray | .mk _ n _ => n
def Ty.args : Ty → List Ty | .mk _ _ a => a
theorem Ty.eta (t : Ty) : Ty.mk t.kind t.names t.args = t := by cases t; rfl
theorem Ty.ext {a b : Ty} (h1 : a.kind = b.kind) (h2 : a.names = b.names) (h3 : a.args = b.args) : a = b := by
 rw [← a.eta, ← b.eta, h1, h2, h3]
theorem Ty.ind {P : Ty → Prop} (h : ∀ k n xs, (∀ a ∈ xs, P a) → P (.mk k n xs)) : ∀ t, P t
 | .mk k n xs => h k n xs (fun a _ => Ty.ind h a)

mutual
def nodes : Ty → Nat
 | .mk _ _ xs => nodesL xs + 1
def nodesL : List Ty → Nat
 | [] => 0
 | a :: xs => nodes a + nodesL xs
end
theorem nodes_args (t : Ty) : nodes t = nodesL t.args + 1 := by cases t; rw [nodes]; rfl
theorem nodes_mem {a : Ty} : ∀ {xs : List Ty}, a ∈ xs → nodes a ≤ nodesL xs
 | b :: xs, h => by
  rw [nodesL]
  rcases List.mem_cons.1 h with rfl | h
  ·omega
  ·have := nodes_mem h
   omega
theorem nodes_pos (t : Ty) : 0 < nodes t := by rw [nodes_args]; omega
theorem nodesL_len : ∀ xs : List Ty, xs.length ≤ nodesL xs
 | [] => by simp [nodesL]
 | a :: xs => by
  have := nodesL_len xs
  have := nodes_pos a
  simp [nodesL]
  omega
theorem nodesL_take : ∀ (xs : List Ty) (k : Nat) (a : Ty), xs[k]? = some a → nodesL (xs.take (k + 1)) = nodesL (xs.take k) + nodes a
 | [], k, a, h => by simp at h
 | b :: xs, 0, a, h => by simp at h; subst h; simp [nodesL]
 | b :: xs, k + 1, a, h => by
  simp at h
  have := nodesL_take xs k a h
  simp only [List.take_succ_cons, nodesL] at this ⊢
  omega
theorem nodesL_take_le : ∀ (xs : List Ty) (k : Nat), nodesL (xs.take k) ≤ nodesL xs
 | [], k => by simp
 | b :: xs, 0 => by simp [nodesL]
 | b :: xs, k + 1 => by
  have := nodesL_take_le xs k
  simp only [List.take_succ_cons, nodesL]
  omega
open Classical in
def Flat (k : Int) : Prop := 0 ≤ k ∧ k ≤ 7

def letterN (c : Nat) : Bool := decide (c = 95) || (decide (97 ≤ c) && decide (c ≤ 122)) || (decide (65 ≤ c) && decide (c ≤ 90))
def digitN (c : Nat) : Bool := decide (48 ≤ c) && decide (c ≤ 57)
def partN (c : Nat) : Bool := letterN c || digitN c
def wordsL : List ByteArray := [⟨#[97, 110, 100]⟩, ⟨#[98, 114, 101, 97, 107]⟩, ⟨#[99, 104, 97, 110, 110, 101, 108]⟩, ⟨#[100, 111]⟩, ⟨#[101, 108, 115, 101]⟩, ⟨#[101, 108, 115, 101, 105, 102]⟩, ⟨#[101, 110, 100]⟩, ⟨#[102, 97, 108, 115, 101]⟩, ⟨#[102, 117, 110, 99, 116, 105, 111, 110]⟩, ⟨#[105, 102]⟩, ⟨#[108, 111, 99, 97, 108]⟩, ⟨#[110, 105, 108]⟩, ⟨#[110, 111, 116]⟩, ⟨#[111, 114]⟩, ⟨#[114, 101, 116, 117, 114, 110]⟩, ⟨#[116, 104, 101, 110]⟩, ⟨#[116, 114, 117, 101]⟩, ⟨#[119, 104, 105, 108, 101]⟩]
def NameOk (s : ByteArray) : Prop := s ∉ wordsL ∧ (∀ c ∈ s.data.toList, partN c.toNat = true) ∧ ∃ c, s.data.toList[0]? = some c ∧ letterN c.toNat = true
noncomputable def tb (p : Prop) : Bool := @decide p (Classical.propDecidable p)
theorem tb_true {p : Prop} (h : p) : tb p = true := by unfold tb; exact @decide_eq_true p (Classical.propDecidable p) h
theorem tb_false {p : Prop} (h : ¬ p) : tb p = false := by unfold tb; exact @decide_eq_false p (Classical.propDecidable p) h
theorem tb_iff {p : Prop} : tb p = true ↔ p := ⟨fun h => by unfold tb at h; exact @of_decide_eq_true p (Classical.propDecidable p) h, tb_true⟩
theorem tb_no {p : Prop} : tb p = false ↔ ¬ p := ⟨fun h k => (by rw [tb_true k] at h; cases h), tb_false⟩
theorem tb_congr {p q : Prop} (h : p ↔ q) : tb p = tb q := by rw [propext h]

def HeadOk (k : Int) (n m : Nat) : Prop :=
 (0 ≤ k ∧ k ≤ 6 ∧ n = 0 ∧ m = 0) ∨ (k = 7 ∧ n = 0 ∧ 1 < m) ∨ (k = 8 ∧ n = m) ∨ (k = 9 ∧ n = 0 ∧ 0 < m)
def PartOk (k : Int) (ns : List ByteArray) (xs : List Ty) (i : Nat) (a : Ty) : Prop :=
 (k = 7 → 0 < a.kind ∧ a.kind < 7 ∧ ∀ b, 0 < i → xs[i - 1]? = some b → b.kind < a.kind) ∧
 (k = 8 → Flat a.kind ∧ ∀ s, ns[i]? = some s → NameOk s ∧ ∀ r, 0 < i → ns[i - 1]? = some r → Op.bytesLess r.toList s.toList = true)
def Chk : Nat → Ty → Prop
 | 0, _ => False
 | n + 1, t => HeadOk t.kind t.names.length t.args.length ∧ ∀ (i : Nat) (a : Ty), t.args[i]? = some a → PartOk t.kind t.names t.args i a ∧ Chk n a

theorem Chk.mono : ∀ {n m : Nat} {t : Ty}, Chk n t → n ≤ m → Chk m t
 | 0, _, _, h, _ => h.elim
 | n + 1, 0, _, _, h => by omega
 | n + 1, m + 1, t, h, hm => ⟨h.1, fun i a ha => ⟨(h.2 i a ha).1, (h.2 i a ha).2.mono (by omega)⟩⟩
theorem Chk.part {n : Nat} {t : Ty} (h : Chk (n + 1) t) {i : Nat} {a : Ty} (ha : t.args[i]? = some a) : Chk n a := (h.2 i a ha).2
theorem Chk.part' {n : Nat} {t : Ty} (h : Chk n t) {i : Nat} {a : Ty} (ha : t.args[i]? = some a) : Chk n a := by
 cases n with
 | zero => exact h.elim
 | succ n => exact (h.part ha).mono (by omega)

def May (t : Ty) : Prop := Chk 50 t ∧ nodes t ≤ 10000
theorem May.part {t a : Ty} (h : May t) {i : Nat} (ha : t.args[i]? = some a) : May a :=
 ⟨h.1.part' ha, by have := nodes_mem (List.mem_of_getElem? ha); have := h.2; rw [nodes_args] at this; omega⟩

def bitsOf (k : Int) : Nat := if k = 0 then 127 else if k = 1 then 1 else if k = 2 then 2 else if k = 3 then 4 else if k = 4 then 8 else if k = 5 then 16 else if k = 6 then 64 else 0
def kindsU : List Ty → Nat
 | [] => 0
 | a :: xs => bitsOf a.kind ||| kindsU xs
def kindsT (t : Ty) : Nat := if t.kind = 7 then kindsU t.args else if t.kind = 8 then 16 else if t.kind = 9 then 32 else bitsOf t.kind

def Paired (a b : Ty) : Prop := ((a.kind = 8 ∧ a.names = b.names) ∨ a.kind = 9) ∧ a.kind = b.kind ∧ a.args.length = b.args.length
section
variable {h : Bool} {n : Nat} {a b c : Ty}
theorem Chk.cases (hc : Chk n a) : Flat a.kind ∨ a.kind = 8 ∨ a.kind = 9 := by
 cases n with
 | zero => exact hc.elim
 | succ n =>
  rcases hc.1 with ⟨h1, h2, _⟩ | ⟨h1, _⟩ | ⟨h1, _⟩ | ⟨h1, _⟩
  ·exact .inl ⟨h1, by omega⟩
  ·exact .inl ⟨by omega, by omega⟩
  ·exact .inr (.inl h1)
  ·exact .inr (.inr h1)
end
theorem Paired.kind {a b : Ty} (h : Paired a b) : (a.kind = 8 ∨ a.kind = 9) ∧ (b.kind = 8 ∨ b.kind = 9) := by
 obtain ⟨h1, h2, _⟩ := h
 rcases h1 with ⟨h1, _⟩ | h1
 ·exact ⟨.inl h1, .inl (by omega)⟩
 ·exact ⟨.inr h1, .inr (by omega)⟩
theorem Paired.trans {a b c : Ty} (h : Paired a b) (k : Paired b c) : Paired a c := by
 refine ⟨?_, h.2.1.trans k.2.1, h.2.2.trans k.2.2⟩
 rcases h.1 with ⟨h1, h2⟩ | h1
 ·refine .inl ⟨h1, h2.trans ?_⟩
  rcases k.1 with ⟨_, k2⟩ | k1
  ·exact k2
  ·have := h.2.1; omega
 ·exact .inr h1
theorem Paired.symm {a b : Ty} (h : Paired a b) : Paired b a := by
 refine ⟨?_, h.2.1.symm, h.2.2.symm⟩
 rcases h.1 with ⟨h1, h2⟩ | h1
 ·exact .inl ⟨by have := h.2.1; omega, h2.symm⟩
 ·exact .inr (by have := h.2.1; omega)
theorem bits128 (k : Int) : bitsOf k < 128 := by unfold bitsOf; (repeat' split) <;> omega
theorem kindsU128 : ∀ l : List Ty, kindsU l < 128
 | [] => by decide
 | a :: l => Nat.or_lt_two_pow (n := 7) (bits128 a.kind) (kindsU128 l)
theorem kinds128 (t : Ty) : kindsT t < 128 := by
 unfold kindsT
 split
 ·exact kindsU128 _
 split
 ·omega
 split
 ·omega
 ·exact bits128 _
end Go.Proofs.YtilcofpceadpbaaGreatDoor
namespace Go.Proofs.YtilcofpceadpbaaGreatDoor
open Go.ChangeShapes Go.WideShapes Go.ChangeAt Go.RowKit

section
variable {H : Type} {enc : TypeId × Value → H} {P : Program} {w : World}

def Dec (enc : TypeId × Value → H) (P : Program) (w : World) (t : TypeId) {α : Type} (f : α → List Value) (G : α → DataW H → Prop) : Prop :=
 ∀ (fuel : Nat) (cs : List Value) (x : DataW H × List MemPlace), DataW.trod enc P w 0 (fun _ => true) true fuel t cs = some x → ∃ a, cs = f a ∧ G a x.1

theorem decInt {t : TypeId} {k : IntKind} (ht : P.underlying t = some (.int k)) : Dec enc P w t (fun n : Int => [.int k n]) (fun n d => (Lit.int k n).wf = true ∧ d = .lit (.int k n)) := by
 intro fuel cs x h
 obtain ⟨n, rfl, rfl, hw⟩ := DataW.trod_int ht h
 exact ⟨n, rfl, hw, rfl⟩
theorem wf_u64 {n : Int} (h : (Lit.int .u64 n).wf = true) : 0 ≤ n ∧ n < 18446744073709551616 := by
 have : 0 ≤ n ∧ n ≤ 18446744073709551615 := by simpa [Lit.wf, IntKind.min, IntKind.max, IntKind.signed, IntKind.bits] using h
 omega
theorem wf_i64 {n : Int} (h : (Lit.int .i64 n).wf = true) : -9223372036854775808 ≤ n ∧ n ≤ 9223372036854775807 := by
 simpa [Lit.wf, IntKind.min, IntKind.max, IntKind.signed, IntKind.bits] using h
theorem decNat {t : TypeId} (ht : P.underlying t = some (.int .u64)) : Dec enc P w t (fun n : Nat => [.int .u64 (n : Int)]) (fun n d => n < 18446744073709551616 ∧ d = .lit (.int .u64 (n : Int))) := by
 intro fuel cs x h
 obtain ⟨n, rfl, rfl, hw⟩ := DataW.trod_int ht h
 have := wf_u64 hw
 obtain ⟨m, rfl⟩ := Int.eq_ofNat_of_zero_le this.1
 exact ⟨m, rfl, by omega, rfl⟩
theorem decStr {t : TypeId} (ht : P.underlying t = some .string) : Dec enc P w t (fun s : ByteArray => [.string s]) (fun s d => s.size ≤ maxLen ∧ d = .lit (.string s.data.toList)) := by
 intro fuel cs x h
 obtain ⟨s, rfl, rfl, hw⟩ := DataW.trod_string ht h
 exact ⟨s, rfl, hw, rfl⟩

theorem drop_part {cs p : List Value} {o K o' : Nat} (h : (cs.drop o).take K = p) (ho : o' = o + K) : cs.drop o = p ++ cs.drop o' := by
 subst ho
 rw [← h, ← List.drop_drop, List.take_append_drop]

def elemsOf : DataW H → List (DataW H)
 | .slice es _ => es
 | _ => []
def spareOf : DataW H → List (DataW H)
 | .slice _ sp => sp
 | _ => []

structure Sl (α : Type) where
 A : Option Addr
 cap : Nat
 xs : List α
def Sl.val {α : Type} (s : Sl α) : Value := .slice s.A s.xs.length s.cap

structure SlIn {α : Type} (w : World) (f : α → List Value) (G : α → DataW H → Prop) (s : Sl α) (d : DataW H) : Prop where
 reads : Reads w w.heap.size s.A (s.xs.flatMap f)
 le : s.xs.length ≤ s.cap
 cap : s.cap ≤ maxLen
 len : (elemsOf d).length = s.xs.length
 form : d = .nil ∨ d = .slice (elemsOf d) (spareOf d)
 all : ∀ (i : Nat) (x : α), s.xs[i]? = some x → ∃ d', (elemsOf d)[i]? = some d' ∧ G x d'

theorem SlIn.mem {α : Type} {f : α → List Value} {G : α → DataW H → Prop} {s : Sl α} {d : DataW H} (h : SlIn w f G s d) {x : α} (hx : x ∈ s.xs) : ∃ d', d' ∈ elemsOf d ∧ G x d' := by
 obtain ⟨i, hi⟩ := List.getElem?_of_mem hx
 obtain ⟨d', h1, h2⟩ := h.all i x hi
 exact ⟨d', List.mem_of_getElem? h1, h2⟩

theorem flatMap_at {α : Type} {f : α → List Value} {K : Nat} (hK : ∀ a, (f a).length = K) : ∀ (xs : List α) (j : Nat) (u : Value), (xs.flatMap f)[j]? = some u → ∃ i x r, j = i * K + r ∧ r < K ∧ xs[i]? = some x ∧ (f x)[r]? = some u
 | [], j, u, h => by simp at h
 | x :: xs, j, u, h => by
  rw [List.flatMap_cons] at h
  rcases Nat.lt_or_ge j K with hj | hj
  ·rw [List.getElem?_append_left (by rw [hK]; exact hj)] at h
   exact ⟨0, x, j, by simp, hj, rfl, h⟩
  ·rw [List.getElem?_append_right (by rw [hK]; exact hj), hK] at h
   obtain ⟨i, y, r, h1, h2, h3, h4⟩ := flatMap_at hK xs _ u h
   exact ⟨i + 1, y, r, by rw [Nat.add_mul]; omega, h2, by simpa using h3, h4⟩

theorem flatMap_get {α : Type} {f : α → List Value} {K : Nat} (hK : ∀ a, (f a).length = K) : ∀ (xs : List α) (i : Nat) (x : α) (r : Nat), xs[i]? = some x → r < K → (xs.flatMap f)[i * K + r]? = (f x)[r]?
 | [], i, x, r, h, _ => by simp at h
 | y :: xs, 0, x, r, h, hr => by
  simp at h
  subst h
  rw [List.flatMap_cons, List.getElem?_append_left (by rw [hK]; omega)]
  simp
 | y :: xs, i + 1, x, r, h, hr => by
  simp at h
  rw [List.flatMap_cons, List.getElem?_append_right (by rw [hK, Nat.add_mul]; omega), hK, ← flatMap_get hK xs i x r h hr]
  congr 1
  rw [Nat.add_mul]
  omega

theorem flatMap_ne {α : Type} {f : α → List Value} {K : Nat} (hK : ∀ a, (f a).length = K) (hK0 : 0 < K) {xs : List α} {i : Nat} {x : α} (h : xs[i]? = some x) : xs.flatMap f ≠ [] := by
 intro h0
 have := flatMap_get hK xs i x 0 h hK0
 rw [h0, List.getElem?_nil] at this
 have h1 : (f x)[0]? = some ((f x)[0]'(by rw [hK]; exact hK0)) := List.getElem?_eq_getElem _
 rw [h1] at this
 cases this

theorem add_add' (a : Addr) (i j : Nat) : (a.add i).add j = a.add (i + j) := by
 unfold Addr.add
 by_cases hi : i = 0 <;> by_cases hj : j = 0 <;> simp [hi, hj, Nat.add_assoc]
theorem block_add' (a : Addr) (i : Nat) : (a.add i).block = a.block := by unfold Addr.add; split <;> rfl
theorem add_off (a : Addr) (n j : Nat) (hj : 0 < j) : a.add (n + j) = ⟨(a.add n).block, (a.add n).off + j, none⟩ := by
 rw [← add_add']
 unfold Addr.add
 rw [if_neg (by omega : ¬ j = 0)]
theorem elem_zero {w : World} {ad : Addr} {α : Type} {f : α → List Value} {K : Nat} {xs : List α} (hK : ∀ a, (f a).length = K) (hcell : ∀ j u, (xs.flatMap f)[j]? = some u → w.cell? (ad.add j) = some u) {k : Nat} {x : α} (hx : xs[k]? = some x) (hK0 : 0 < K) {v : Value} (hv : (f x)[0]? = some v) :
  w.cell? (ad.add (k * K)) = some v := hcell (k * K) v (by rw [← hv, ← flatMap_get hK xs k x 0 hx hK0]; rfl)
theorem elem_at {w : World} {ad : Addr} {α : Type} {f : α → List Value} {K : Nat} {xs : List α} (hK : ∀ a, (f a).length = K) (hcell : ∀ j u, (xs.flatMap f)[j]? = some u → w.cell? (ad.add j) = some u) {k : Nat} {x : α} (hx : xs[k]? = some x) (r : Nat) (hr : r < K) (h0 : 0 < r) {v : Value} (hv : (f x)[r]? = some v) :
  w.cell? ⟨(ad.add (k * K)).block, (ad.add (k * K)).off + r, none⟩ = some v := by
 rw [← add_off _ _ _ h0]
 exact hcell _ v (by rw [← hv, ← flatMap_get hK xs k x r hx hr])
theorem cell_lt {w : World} {a : Addr} {v : Value} (h : w.cell? a = some v) : a.block < w.heap.size := by
 rcases Nat.lt_or_ge a.block w.heap.size with h1 | h1
 ·exact h1
 ·simp [World.cell?, Array.getElem?_eq_none h1] at h

theorem decSlice {t e : TypeId} {α : Type} {f : α → List Value} {G : α → DataW H → Prop} {K : Nat} (ht : P.underlying t = some (.slice e)) (hC : P.cellsOf e = K) (hK0 : 0 < K) (hK : ∀ a, (f a).length = K) (hD : Dec enc P w e f G) :
  Dec enc P w t (fun s : Sl α => [s.val]) (SlIn w f G) := by
 intro fuel cs x h
 rcases Deep.open_slice ht h with ⟨rfl, rfl⟩ | ⟨a, len, cap, m, n, D, Pl, rfl, _, hl, hm, hmm, rfl, hi⟩
 ·exact ⟨⟨none, 0, []⟩, rfl, .inl rfl, Nat.le_refl _, Nat.zero_le _, rfl, .inl rfl, fun i x hx => by simp at hx⟩
 ·have hlm : len ≤ m := by rw [hmm]; split <;> omega
  have hex : ∀ i, i < len → ∃ y : α, w.cells? 0 (a.add (i * K)) K = some (f y) ∧ G y (D i) := by
   intro i hil
   obtain ⟨cs', h1, h2⟩ := hi i (by omega)
   rw [hC] at h1
   obtain ⟨y, rfl, h3⟩ := hD _ _ _ h2
   exact ⟨y, h1, h3⟩
  have hlist : ∀ k, k ≤ len → ∃ xs : List α, xs.length = k ∧ ∀ i y, xs[i]? = some y → w.cells? 0 (a.add (i * K)) K = some (f y) ∧ G y (D i) := by
   intro k
   induction k with
   | zero => intro _; exact ⟨[], rfl, fun i y h => by simp at h⟩
   | succ k ih =>
    intro hk
    obtain ⟨xs, hxl, hxs⟩ := ih (by omega)
    obtain ⟨y, h1, h2⟩ := hex k (by omega)
    refine ⟨xs ++ [y], by simp [hxl], fun i z hz => ?_⟩
    rcases Nat.lt_or_ge i k with hik | hik
    ·rw [List.getElem?_append_left (by omega)] at hz
     exact hxs i z hz
    ·rw [List.getElem?_append_right (by omega), hxl] at hz
     have : i = k := by
      rcases Nat.lt_or_ge 0 (i - k) with h0 | h0
      ·rw [List.getElem?_eq_none (by simp; omega)] at hz; cases hz
      ·omega
     subst this
     simp at hz
     subst hz
     exact ⟨h1, h2⟩
  obtain ⟨xs, hxl, hxs⟩ := hlist len (Nat.le_refl _)
  have hcell : ∀ j u, (xs.flatMap f)[j]? = some u → w.cell? (a.add j) = some u := by
   intro j u hu
   obtain ⟨i, y, r, rfl, hr, hy, hfu⟩ := flatMap_at hK xs j u hu
   have := (World.cells?_some (hxs i y hy).1).2.2 r hr
   rw [add_add'] at this
   rw [this, hfu]
  refine ⟨⟨some a, cap, xs⟩, by simp [Sl.val, hxl], ?_, by simpa [hxl] using hl, hm, by simp [elemsOf, hxl], .inr rfl, ?_⟩
  ·rcases xs with _ | ⟨y, xs⟩
   ·exact .inl rfl
   ·right
    refine ⟨a, rfl, ?_, hcell⟩
    have h0 := hcell 0 ((f y)[0]'(by rw [hK]; exact hK0)) (by rw [List.flatMap_cons, List.getElem?_append_left (by rw [hK]; exact hK0)]; simp [hK, hK0])
    have := cell_lt h0
    rwa [block_add'] at this
  ·intro i y hy
   have hil : i < len := by have := (List.getElem?_eq_some_iff.1 hy).1; simp at this; omega
   refine ⟨D i, ?_, (hxs i y hy).2⟩
   simp [elemsOf, hil]

theorem open_agg {t : TypeId} {α : Type} {f : α → List Value} {G : α → DataW H → Prop} {r : Reach} {b0 : Nat} {v : Value} {d : DataW H} {p : List MemPlace} (ht : (∃ fs, P.underlying t = some (.struct fs)) ∨ ∃ n e, P.underlying t = some (.array n e))
  (hv : Value.okWide P w r b0 t v) (h : DataW.Trod enc P w 0 (fun _ => true) true t v d p) (hD : Dec enc P w t f G) : ∃ a, v = .agg (f a).toArray ∧ G a d := by
 obtain ⟨fuel, h⟩ := h
 obtain ⟨a, h1, h2⟩ := hD _ _ _ h
 refine ⟨a, ?_, h2⟩
 have : ∃ cs, v = .agg cs := by
  unfold Value.okWide at hv
  rcases ht with ⟨fs, ht⟩ | ⟨n, e, ht⟩ <;> rw [ht] at hv <;> obtain ⟨cs, rfl, _⟩ := hv <;> exact ⟨cs, rfl⟩
 obtain ⟨cs, rfl⟩ := this
 simp only [Value.cells] at h1
 rw [← h1]
theorem open_sl {t e : TypeId} {α : Type} {f : α → List Value} {G : α → DataW H → Prop} {r : Reach} {b0 : Nat} {v : Value} {d : DataW H} {p : List MemPlace} (ht : P.underlying t = some (.slice e))
  (hv : Value.okWide P w r b0 t v) (h : DataW.Trod enc P w 0 (fun _ => true) true t v d p) (hD : Dec enc P w t (fun s : Sl α => [s.val]) (SlIn w f G)) : ∃ s : Sl α, v = s.val ∧ SlIn w f G s d := by
 obtain ⟨a0, len, cap, rfl⟩ := okWide_slice ht hv
 obtain ⟨fuel, h⟩ := h
 obtain ⟨s, h1, h2⟩ := hD _ _ _ h
 refine ⟨s, ?_, h2⟩
 simpa [Value.cells] using h1
end

theorem Reads.below {w w' : World} {B : Nat} {A : Option Addr} {xs : List Value} (h : Reads w B A xs) (hb : Below B w w') : Reads w' B A xs := by
 rcases h with h | ⟨ad, h1, h2, h3⟩
 ·exact .inl h
 ·exact .inr ⟨ad, h1, h2, fun j u hu => (hb.cell (by rw [block_add']; exact h2)).trans (h3 j u hu)⟩
theorem Reads.at {w : World} {B : Nat} {A : Option Addr} {xs : List Value} (h : Reads w B A xs) (hn : xs ≠ []) : ∃ ad, A = some ad ∧ ad.block < B ∧ ∀ j u, xs[j]? = some u → w.cell? (ad.add j) = some u := h.resolve_left hn

structure Fr (S : List Nat) (w w' : World) : Prop where
 os : w'.os = w.os
 tape : w'.tape = w.tape
 output : w'.output = w.output
 size : w.heap.size ≤ w'.heap.size
 block : ∀ b, b < w.heap.size → b ∉ S → w'.heap[b]? = w.heap[b]?

section
variable {S S' : List Nat} {w w1 w2 : World}
theorem Fr.refl (S : List Nat) (w : World) : Fr S w w := ⟨rfl, rfl, rfl, Nat.le_refl _, fun _ _ _ => rfl⟩
theorem Fr.trans (h : Fr S w w1) (k : Fr S' w1 w2) (hs : ∀ b ∈ S', b ∈ S ∨ w.heap.size ≤ b) : Fr S w w2 :=
 ⟨k.os.trans h.os, k.tape.trans h.tape, k.output.trans h.output, Nat.le_trans h.size k.size, fun b hb hn =>
  (k.block b (Nat.lt_of_lt_of_le hb h.size) fun hm => (hs b hm).elim hn fun h' => by omega).trans (h.block b hb hn)⟩
theorem Fr.more (h : Fr S w w1) (hs : ∀ b ∈ S, b ∈ S' ∨ w.heap.size ≤ b) : Fr S' w w1 := ⟨h.os, h.tape, h.output, h.size, fun b hb hn => h.block b hb fun hm => (hs b hm).elim hn fun h' => by omega⟩
theorem Fr.of_below (h : Below w.heap.size w w1) (S : List Nat) : Fr S w w1 := ⟨h.os, h.tape, h.output, h.size, fun b hb _ => h.block b hb⟩
theorem Fr.to_below {B : Nat} (h : Fr S w w1) (hB : B ≤ w.heap.size) (hs : ∀ b ∈ S, B ≤ b) : Below B w w1 := ⟨h.os, h.tape, h.output, h.size, fun b hb => h.block b (by omega) fun hm => by have := hs b hm; omega⟩
theorem Fr.alloc (h : Fr S w w1) (o : Obj) : Fr S w (w1.alloc o) := h.trans (.of_below ((Below.refl _ _).alloc (Nat.le_refl _) o) S) fun b hb => .inl hb
theorem Fr.drew (h : Fr S w w1) : Fr S w w1.drew := ⟨h.os, h.tape, h.output, h.size, h.block⟩
theorem Fr.drewN (h : Fr S w w1) (n : Nat) : Fr S w (w1.drewN n) := ⟨h.os, h.tape, h.output, h.size, h.block⟩
theorem Fr.set (h : Fr S w w1) {a : Addr} (u : Value) (ha : a.block ∈ S ∨ w.heap.size ≤ a.block) : Fr S w (w1.setCell a u) :=
 ⟨h.os, h.tape, h.output, by simpa [World.setCell] using h.size, fun b hb hn => (Below.heap_setCell _ _ _ _ fun e => by
  subst e
  rcases ha with ha | ha
  ·exact hn ha
  ·omega).trans (h.block b hb hn)⟩
theorem Fr.grown (h : Fr S w w1) {row : Option Nat} (hg : w1.grownBy w2 row) (hr : ∀ g, row = some g → g ∈ S ∨ w.heap.size ≤ g) : Fr S w w2 :=
 ⟨hg.os.trans h.os, hg.tape.trans h.tape, hg.output.trans h.output, Nat.le_trans h.size hg.size, fun b hb hn =>
  (hg.block b (Nat.lt_of_lt_of_le hb h.size) fun e => (hr b e.symm).elim hn fun h' => by omega).trans (h.block b hb hn)⟩
theorem Fr.blk (h : Fr S w w1) {b : Nat} {o : Obj} (hb : w.heap[b]? = some o) (hn : b ∉ S) : w1.heap[b]? = some o := (h.block b (blk_lt hb) hn).trans hb
theorem Fr.own (h : Fr S w w1) {base : Nat} {e : TypeId} {sz n : Nat} {v : Value} {xs : List Value} (ho : w.ownsRow base e sz v n xs) (hn : ∀ g, v.ownBlock = some g → g ∉ S) : w1.ownsRow base e sz v n xs := by
 obtain ⟨h1, h2⟩ := ho
 refine ⟨h1, h2.imp id ?_⟩
 rintro ⟨g, cap, cur, rfl, hg, hh, r⟩
 exact ⟨g, cap, cur, rfl, hg, h.blk hh (hn g rfl), r⟩
theorem Fr.map {H : Type} {P : Program} {k : TypeId} {R : Value → Option (DataW H × List MemPlace)} {b n : Nat} {D : DataW H} (h : Fr S w w1) (ho : w.ownsMap P k R b n D) (hn : b ∉ S) : w1.ownsMap P k R b n D := by
 obtain ⟨es, clock, hb, r⟩ := ho
 exact ⟨es, clock, h.blk hb hn, r⟩
end

inductive LTy where
 | mk (kind : Int) (A : Option Addr) (c : Nat) (ns : List ByteArray) (A2 : Option Addr) (c2 : Nat) (xs : List LTy)
namespace LTy
def kind : LTy → Int | .mk k _ _ _ _ _ _ => k
def A : LTy → Option Addr | .mk _ a _ _ _ _ _ => a
def c : LTy → Nat | .mk _ _ c _ _ _ _ => c
def ns : LTy → List ByteArray | .mk _ _ _ n _ _ _ => n
def A2 : LTy → Option Addr | .mk _ _ _ _ a _ _ => a
def c2 : LTy → Nat | .mk _ _ _ _ _ c _ => c
def xs : LTy → List LTy | .mk _ _ _ _ _ _ x => x
def enc (t : LTy) : List Value := [.int .i64 t.kind, .slice t.A t.ns.length t.c, .slice t.A2 t.xs.length t.c2]
def val (t : LTy) : Value := .agg #[.int .i64 t.kind, .slice t.A t.ns.length t.c, .slice t.A2 t.xs.length t.c2]
end LTy
theorem lty_ind {P : LTy → Prop} (h : ∀ t : LTy, (∀ x ∈ t.xs, P x) → P t) : ∀ t, P t
 | .mk k A c ns A2 c2 xs => h _ (fun x hx => by
   have hx : x ∈ xs := hx
   exact lty_ind h x)
mutual
def strip : LTy → Ty
 | .mk k _ _ ns _ _ xs => .mk k ns (stripL xs)
def stripL : List LTy → List Ty
 | [] => []
 | x :: xs => strip x :: stripL xs
end
theorem stripL_map : ∀ xs : List LTy, stripL xs = xs.map strip
 | [] => by rw [stripL]; rfl
 | x :: xs => by rw [stripL, stripL_map xs]; rfl
theorem strip_mk (t : LTy) : strip t = .mk t.kind t.ns (t.xs.map strip) := by cases t; rw [strip, stripL_map]; rfl
theorem strip_kind (t : LTy) : (strip t).kind = t.kind := by rw [strip_mk]; rfl
theorem strip_names (t : LTy) : (strip t).names = t.ns := by rw [strip_mk]; rfl
theorem strip_args (t : LTy) : (strip t).args = t.xs.map strip := by rw [strip_mk]; rfl
theorem strip_len (t : LTy) : (strip t).args.length = t.xs.length := by rw [strip_args, List.length_map]
theorem strip_at {t x : LTy} {i : Nat} (h : t.xs[i]? = some x) : (strip t).args[i]? = some (strip x) := by rw [strip_args, List.getElem?_map, h]; rfl
theorem enc_len (t : LTy) : t.enc.length = 3 := rfl
inductive LIn (w : World) (B : Nat) : LTy → Prop
 | mk {t : LTy} : Reads w B t.A (t.ns.map Value.string) → Reads w B t.A2 (t.xs.flatMap LTy.enc) → t.ns.length ≤ t.c → t.ns.length ≤ 8796093022208 → t.xs.length ≤ t.c2 → t.xs.length ≤ 8796093022208 → (∀ s ∈ t.ns, s.size ≤ 140737488355328) → (t.A = none → t.c = 0) → (∀ x ∈ t.xs, LIn w B x) → LIn w B t
theorem Reads.more {w : World} {B B' : Nat} {A : Option Addr} {xs : List Value} (h : Reads w B A xs) (hB : B ≤ B') : Reads w B' A xs :=
 h.imp id fun ⟨ad, h1, h2, h3⟩ => ⟨ad, h1, by omega, h3⟩
section
variable {w w' : World} {B B' : Nat} {t x : LTy} {k : Nat}
theorem LIn.names (h : LIn w B t) : Reads w B t.A (t.ns.map Value.string) := by cases h; assumption
theorem LIn.parts (h : LIn w B t) : Reads w B t.A2 (t.xs.flatMap LTy.enc) := by cases h; assumption
theorem LIn.n1 (h : LIn w B t) : t.ns.length ≤ t.c ∧ t.ns.length ≤ 8796093022208 := by cases h; exact ⟨by assumption, by assumption⟩
theorem LIn.n2 (h : LIn w B t) : t.xs.length ≤ t.c2 ∧ t.xs.length ≤ 8796093022208 := by cases h; exact ⟨by assumption, by assumption⟩
theorem LIn.room (h : LIn w B t) : ∀ s ∈ t.ns, s.size ≤ 140737488355328 := by cases h; assumption
theorem LIn.mem (h : LIn w B t) (hx : x ∈ t.xs) : LIn w B x := by
 cases h with
 | mk _ _ _ _ _ _ _ _ h => exact h x hx
theorem LIn.part (h : LIn w B t) (hx : t.xs[k]? = some x) : LIn w B x := h.mem (List.mem_of_getElem? hx)
theorem LIn.stay (h : LIn w B t) (hb : Below B w w') : LIn w' B t := by
 induction h with
 | mk h1 h2 h3 h4 h5 h6 h7 hA h8 ih => exact .mk (h1.below hb) (h2.below hb) h3 h4 h5 h6 h7 hA ih
theorem LIn.more (h : LIn w B t) (hB : B ≤ B') : LIn w B' t := by
 induction h with
 | mk h1 h2 h3 h4 h5 h6 h7 hA h8 ih => exact .mk (h1.more hB) (h2.more hB) h3 h4 h5 h6 h7 hA ih
theorem LIn.on (h : LIn w w.heap.size t) (hb : Below w.heap.size w w') : LIn w' w'.heap.size t := (h.stay hb).more hb.size
theorem LIn.cells (h : LIn w B t) (hx : t.xs[k]? = some x) : ∃ ad, t.A2 = some ad ∧ ad.block < B ∧ w.cell? (ad.add (k * 3)) = some (.int .i64 x.kind) ∧
  w.cell? ⟨(ad.add (k * 3)).block, (ad.add (k * 3)).off + 1, none⟩ = some (.slice x.A x.ns.length x.c) ∧ w.cell? ⟨(ad.add (k * 3)).block, (ad.add (k * 3)).off + 2, none⟩ = some (.slice x.A2 x.xs.length x.c2) := by
 obtain ⟨ad, h1, h2, h3⟩ := h.parts.at (flatMap_ne (K := 3) enc_len (by omega) hx)
 exact ⟨ad, h1, h2, elem_zero (K := 3) enc_len h3 hx (by omega) rfl, elem_at (K := 3) enc_len h3 hx 1 (by omega) (by omega) rfl, elem_at (K := 3) enc_len h3 hx 2 (by omega) (by omega) rfl⟩
theorem LIn.name (h : LIn w B t) {s : ByteArray} (hs : t.ns[k]? = some s) : ∃ ad, t.A = some ad ∧ ad.block < B ∧ w.cell? (ad.add k) = some (.string s) := by
 obtain ⟨ad, h1, h2, h3⟩ := h.names.at (fun e => by
  have := (List.getElem?_eq_some_iff.1 hs).1
  rw [List.map_eq_nil_iff] at e
  rw [e] at this
  simp at this)
 exact ⟨ad, h1, h2, h3 k _ (by rw [List.getElem?_map, hs]; rfl)⟩
end

section
variable {H : Type} {enc : TypeId × Value → H} {P : Program} {w : World}

def Sized (P : Program) (t : TypeId) (d : DataW H) : Prop := ∀ n ∈ d.weights P t, n ≤ reachBytes
theorem sized_arg {ts : List TypeId} {ds : List (DataW H)} (h : (DataW.weightsEach P ts ds).all (· ≤ reachBytes) = true) {j : Nat} {t : TypeId} {d : DataW H} (ht : ts[j]? = some t) (hd : ds[j]? = some d) : Sized P t d := fun n hn => by
 have := List.all_eq_true.1 h n (DataW.weights_mem_each ht hd n hn)
 simpa using this
theorem weightsAll_mem {e : TypeId} : ∀ {ds : List (DataW H)} {i : Nat} {d : DataW H}, ds[i]? = some d → ∀ n ∈ d.weights P e, n ∈ DataW.weightsAll P e ds
 | [], i, d, h, n, _ => by simp at h
 | x :: ds, 0, d, h, n, hn => by
  simp at h
  subst h
  rw [DataW.weightsAll]
  exact List.mem_append_left _ hn
 | x :: ds, i + 1, d, h, n, hn => by
  simp at h
  rw [DataW.weightsAll]
  exact List.mem_append_right _ (weightsAll_mem h n hn)
theorem sized_sl {α : Type} {f : α → List Value} {G : α → DataW H → Prop} {s : Sl α} {t e : TypeId} {d : DataW H} (ht : P.underlying t = some (.slice e)) (h : SlIn w f G s d) (hs : Sized P t d) : s.xs.length * P.bytesOf e ≤ reachBytes := by
 rcases h.form with hd | hd
 ·have := h.len
  rw [hd] at this
  simp [elemsOf] at this
  simp [← this]
 ·have h1 : ((elemsOf d).length + (spareOf d).length) * P.bytesOf e ≤ reachBytes := by
   refine hs _ ?_
   rw [hd, DataW.weights, ht]
   simp [elemsOf, spareOf]
  rw [← h.len]
  exact Nat.le_trans (Nat.mul_le_mul_right _ (Nat.le_add_right _ _)) h1

structure SlIn2 {α : Type} (w : World) (f : α → List Value) (G : α → DataW H → Prop) (s : Sl α) (d : DataW H) : Prop where
 sl : SlIn w f G s d
 nil_ : s.A = none → s.xs = [] ∧ s.cap = 0
theorem decSlice2 {t e : TypeId} {α : Type} {f : α → List Value} {G : α → DataW H → Prop} {K : Nat} (ht : P.underlying t = some (.slice e)) (hC : P.cellsOf e = K) (hK0 : 0 < K) (hK : ∀ a, (f a).length = K) (hD : Dec enc P w e f G) :
  Dec enc P w t (fun s : Sl α => [s.val]) (SlIn2 w f G) := by
 intro fuel cs x h
 obtain ⟨s, h1, h2⟩ := decSlice ht hC hK0 hK hD fuel cs x h
 refine ⟨s, h1, h2, fun hA => ?_⟩
 rcases Deep.open_slice ht h with ⟨e1, _⟩ | ⟨a, len, cap, m, n, D, Pl, e1, _⟩
 ·have e1 : [Value.slice s.A s.xs.length s.cap] = _ := h1.symm.trans e1
  injection e1 with e1 _
  injection e1 with _ e2 e3
  exact ⟨List.eq_nil_of_length_eq_zero e2, e3⟩
 ·have e1 : [Value.slice s.A s.xs.length s.cap] = _ := h1.symm.trans e1
  injection e1 with e1 _
  injection e1 with e2 _ _
  rw [hA] at e2
  cases e2
end

section
variable {H : Type} {enc : TypeId × Value → H} {P : Program} {w : World}
theorem sized_field {t tj : TypeId} {fs : Array Field} {ds : List (DataW H)} {d : DataW H} {j : Nat} (ht : P.underlying t = some (.struct fs)) (h : Sized P t (.agg ds)) (hj : (fs.toList.map (·.type))[j]? = some tj) (hd : ds[j]? = some d) : Sized P tj d := fun m hm => by
 refine h m ?_
 rw [DataW.weights, ht]
 exact DataW.weights_mem_each hj hd m hm
theorem sized_elem {t e : TypeId} {d d' : DataW H} {i : Nat} (ht : P.underlying t = some (.slice e)) (h : Sized P t d) (hf : d = .nil ∨ d = .slice (elemsOf d) (spareOf d)) (hd : (elemsOf d)[i]? = some d') : Sized P e d' := fun m hm => by
 rcases hf with hf | hf
 ·rw [hf] at hd
  simp [elemsOf] at hd
 ·refine h m ?_
  rw [hf, DataW.weights, ht]
  refine List.mem_cons_of_mem _ (List.mem_append_left _ ?_)
  exact weightsAll_mem hd m hm
theorem decSliceS {t e : TypeId} {α : Type} {f : α → List Value} {G : α → DataW H → Prop} {K : Nat} (ht : P.underlying t = some (.slice e)) (hC : P.cellsOf e = K) (hK0 : 0 < K) (hK : ∀ a, (f a).length = K) {fuel : Nat} {cs : List Value} {x : DataW H × List MemPlace}
  (h : DataW.trod enc P w 0 (fun _ => true) true fuel t cs = some x)
  (hD : ∀ (fuel : Nat) (cs : List Value) (y : DataW H × List MemPlace), SizeOf.sizeOf y.1 < SizeOf.sizeOf x.1 → DataW.trod enc P w 0 (fun _ => true) true fuel e cs = some y → ∃ a, cs = f a ∧ G a y.1) :
  ∃ s : Sl α, cs = [s.val] ∧ SlIn2 w f G s x.1 := by
 rcases Deep.open_slice ht h with ⟨rfl, rfl⟩ | ⟨a, len, cap, m, n, D, Pl, rfl, _, hl, hm, hmm, rfl, hi⟩
 ·exact ⟨⟨none, 0, []⟩, rfl, ⟨.inl rfl, Nat.le_refl _, Nat.zero_le _, rfl, .inl rfl, fun i x hx => by simp at hx⟩, fun _ => ⟨rfl, rfl⟩⟩
 ·have hlm : len ≤ m := by rw [hmm]; split <;> omega
  have hex : ∀ i, i < len → ∃ y : α, w.cells? 0 (a.add (i * K)) K = some (f y) ∧ G y (D i) := by
   intro i hil
   obtain ⟨cs', h1, h2⟩ := hi i (by omega)
   rw [hC] at h1
   have hlt : SizeOf.sizeOf (D i) < SizeOf.sizeOf (DataW.slice ((List.range len).map D) ((List.range (m - len)).map fun j => D (len + j))) := by
    have h3 : D i ∈ (List.range len).map D := List.mem_map_of_mem (by simpa using hil)
    have h4 := List.sizeOf_lt_of_mem h3
    simp only [DataW.slice.sizeOf_spec]
    omega
   obtain ⟨y, rfl, h3⟩ := hD _ _ _ hlt h2
   exact ⟨y, h1, h3⟩
  have hlist : ∀ k, k ≤ len → ∃ xs : List α, xs.length = k ∧ ∀ i y, xs[i]? = some y → w.cells? 0 (a.add (i * K)) K = some (f y) ∧ G y (D i) := by
   intro k
   induction k with
   | zero => intro _; exact ⟨[], rfl, fun i y h => by simp at h⟩
   | succ k ih =>
    intro hk
    obtain ⟨xs, hxl, hxs⟩ := ih (by omega)
    obtain ⟨y, h1, h2⟩ := hex k (by omega)
    refine ⟨xs ++ [y], by simp [hxl], fun i z hz => ?_⟩
    rcases Nat.lt_or_ge i k with hik | hik
    ·rw [List.getElem?_append_left (by omega)] at hz
     exact hxs i z hz
    ·rw [List.getElem?_append_right (by omega), hxl] at hz
     have : i = k := by
      rcases Nat.lt_or_ge 0 (i - k) with h0 | h0
      ·rw [List.getElem?_eq_none (by simp; omega)] at hz; cases hz
      ·omega
     subst this
     simp at hz
     subst hz
     exact ⟨h1, h2⟩
  obtain ⟨xs, hxl, hxs⟩ := hlist len (Nat.le_refl _)
  have hcell : ∀ j u, (xs.flatMap f)[j]? = some u → w.cell? (a.add j) = some u := by
   intro j u hu
   obtain ⟨i, y, r, rfl, hr, hy, hfu⟩ := flatMap_at hK xs j u hu
   have := (World.cells?_some (hxs i y hy).1).2.2 r hr
   rw [add_add'] at this
   rw [this, hfu]
  refine ⟨⟨some a, cap, xs⟩, by simp [Sl.val, hxl], ⟨?_, by simpa [hxl] using hl, hm, by simp [elemsOf, hxl], .inr rfl, ?_⟩, fun e => by cases e⟩
  ·rcases xs with _ | ⟨y, xs⟩
   ·exact .inl rfl
   ·right
    refine ⟨a, rfl, ?_, hcell⟩
    have h0 := hcell 0 ((f y)[0]'(by rw [hK]; exact hK0)) (by rw [List.flatMap_cons, List.getElem?_append_left (by rw [hK]; exact hK0)]; simp [hK, hK0])
    have := cell_lt h0
    rwa [block_add'] at this
  ·intro i y hy
   have hil : i < len := by have := (List.getElem?_eq_some_iff.1 hy).1; simp at this; omega
   refine ⟨D i, ?_, (hxs i y hy).2⟩
   simp [elemsOf, hil]
end
def TyG {H : Type} (w : World) (t : LTy) (d : DataW H) : Prop := Sized Tryz.prog 31 d → LIn w w.heap.size t
theorem decTyN {H : Type} {enc : TypeId × Value → H} {w : World} : ∀ (N fuel : Nat) (cs : List Value) (x : DataW H × List MemPlace), SizeOf.sizeOf x.1 < N → DataW.trod enc Tryz.prog w 0 (fun _ => true) true fuel 31 cs = some x → ∃ t : LTy, cs = t.enc ∧ TyG w t x.1
 | 0, _, _, _, h, _ => by omega
 | N + 1, fuel, cs, x, hN, h => by
  obtain ⟨ys, n, rfl, rfl, hlen, hl, hf⟩ := DataW.trod_struct Tryz.underlying31 h
  have hC : Tryz.prog.cellsOf 31 = 3 := by kernel_rfl
  rw [hC] at hlen
  have c0 : Tryz.prog.cellsOf 3 = 1 := by kernel_rfl
  have y0 : ys[0]? = some (ys[0]'(by rw [hl]; decide)) := List.getElem?_eq_getElem _
  obtain ⟨a0, h0, g0⟩ := decInt Tryz.underlying3 _ _ _ ((hf 0 _ rfl).trans y0)
  have p0 := drop_part (cs := cs) (o := 0) (K := Tryz.prog.cellsOf 3) (o' := 1) h0 (by rw [c0])
  have c1 : Tryz.prog.cellsOf 28 = 1 := by kernel_rfl
  have y1 : ys[1]? = some (ys[1]'(by rw [hl]; decide)) := List.getElem?_eq_getElem _
  obtain ⟨a1, h1, g1⟩ := decSlice2 Tryz.underlying28 (K := 1) (by kernel_rfl) (by omega) (fun _ => rfl) (decStr Tryz.underlying9) _ _ _ ((hf 1 _ rfl).trans y1)
  have p1 := drop_part (cs := cs) (o := 1) (K := Tryz.prog.cellsOf 28) (o' := 2) h1 (by rw [c1])
  have c2 : Tryz.prog.cellsOf 29 = 1 := by kernel_rfl
  have y2 : ys[2]? = some (ys[2]'(by rw [hl]; decide)) := List.getElem?_eq_getElem _
  have hlt : SizeOf.sizeOf (ys[2]'(by rw [hl]; decide)).1 < SizeOf.sizeOf (DataW.agg (ys.map (·.1))) := by
   have h3 : (ys[2]'(by rw [hl]; decide)).1 ∈ ys.map (·.1) := List.mem_map_of_mem (List.getElem_mem _)
   have h4 := List.sizeOf_lt_of_mem h3
   simp only [DataW.agg.sizeOf_spec]
   omega
  have hN' : SizeOf.sizeOf (DataW.agg (ys.map (·.1))) < N + 1 := hN
  obtain ⟨a2, h2, g2⟩ := decSliceS (f := LTy.enc) (G := TyG w) Tryz.underlying29 (K := 3) (by kernel_rfl) (by omega) enc_len ((hf 2 _ rfl).trans y2) (fun fuel cs y hy h => decTyN N fuel cs y (by omega) h)
  have p2 := drop_part (cs := cs) (o := 2) (K := Tryz.prog.cellsOf 29) (o' := 3) h2 (by rw [c2])
  have pn : cs.drop 3 = [] := List.drop_eq_nil_of_le (by omega)
  have hcs : cs = _ := p0
  rw [p1, p2, pn] at hcs
  refine ⟨.mk a0 a1.A a1.cap a1.xs a2.A a2.cap a2.xs, hcs, fun hs => ?_⟩
  have s1 := sized_field Tryz.underlying31 hs (j := 1) rfl (by rw [List.getElem?_map, y1]; rfl)
  have s2 := sized_field Tryz.underlying31 hs (j := 2) rfl (by rw [List.getElem?_map, y2]; rfl)
  have b1 := sized_sl Tryz.underlying28 g1.sl s1
  have b2 := sized_sl Tryz.underlying29 g2.sl s2
  rw [show Tryz.prog.bytesOf 9 = 16 by kernel_rfl] at b1
  rw [show Tryz.prog.bytesOf 31 = 56 by kernel_rfl] at b2
  unfold reachBytes at b1 b2
  refine .mk ?_ g2.sl.reads g1.sl.le ?_ g2.sl.le ?_ ?_ (fun e => (g1.nil_ e).2) ?_
  ·have := g1.sl.reads
   rw [← List.map_eq_flatMap] at this
   exact this
  ·show a1.xs.length ≤ _
   omega
  ·show a2.xs.length ≤ _
   omega
  ·intro s hsm
   obtain ⟨i, hi⟩ := List.getElem?_of_mem hsm
   obtain ⟨d', h3, h4⟩ := g1.sl.all i s hi
   have h5 := sized_elem Tryz.underlying28 s1 g1.sl.form h3
   have h6 := h5 s.data.toList.length (by rw [h4.2]; simp [DataW.weights])
   unfold reachBytes at h6
   have h7 : s.size ≤ 140737488351232 := by simpa using h6
   omega
  ·intro x hx
   obtain ⟨i, hi⟩ := List.getElem?_of_mem hx
   obtain ⟨d', h3, h4⟩ := g2.sl.all i x hi
   exact h4 (sized_elem Tryz.underlying29 s2 g2.sl.form h3)
theorem decTy {H : Type} {enc : TypeId × Value → H} {w : World} : Dec enc Tryz.prog w 31 LTy.enc (TyG w) := fun fuel cs x h => decTyN _ fuel cs x (Nat.lt_succ_self _) h

end Go.Proofs.YtilcofpceadpbaaGreatDoor
