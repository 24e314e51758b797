/-
  What two types say together: what is returned, and what of it lives on; slices.Clone of names.
-/
import Derived.Test.YtllpicibncdppaaDoorReJoin
import Derived.Maps.AppendAt
import Derived.Lib.SliceRun
set_option linter.unusedVariables false
set_option linter.unusedSimpArgs false
namespace Go.Proofs.YtllpicibncdppaaDoor
open Go.ChangeShapes Go.WideShapes Go.ChangeAt Go.RowKit

/-- What is returned: the type and that it is; or that none is. -/
def RetM (B : Nat) (T : Option Ty) (w : World) (e : Ending) (w' : World) : Prop :=
  (T = none ∧ e = .returned (.tuple #[.agg #[.int .i64 0, .slice none 0 0, .slice none 0 0], .bool false]) ∧ Below w.heap.size w w') ∨
  (∃ r : LTy, T = some (strip r) ∧ e = .returned (.tuple #[r.val, .bool true]) ∧ (∀ w2, Stays B w w' w2 → LIn w2 w2.heap.size r) ∧ Below w.heap.size w w')
theorem lives_in {w wk wk' w' : World} {B : Nat} {r : LTy} (h : ∀ w2, Stays B wk wk' w2 → LIn w2 w2.heap.size r) (hw : w.heap.size ≤ wk.heap.size) (hh : ∀ b, (b < B ∨ wk.heap.size ≤ b) → b < wk'.heap.size → w'.heap[b]? = wk'.heap[b]?) (hs : wk'.heap.size ≤ w'.heap.size) :
    ∀ w2, Stays B w w' w2 → LIn w2 w2.heap.size r := fun w2 h2 => h w2 ⟨fun b hb hlt => (h2.1 b (hb.imp id fun h => Nat.le_trans hw h) (Nat.lt_of_lt_of_le hlt hs)).trans (hh b hb hlt), Nat.le_trans hs h2.2⟩
/-- Worlds after wr that keep what lies below B or from lo on, but for the box gb and the row v. -/
def But (B lo : Nat) (wr w2 : World) (gb : Nat) (v : Value) : Prop := (∀ b, (b < B ∨ lo ≤ b) → b ≠ gb → v.ownBlock ≠ some b → b < wr.heap.size → w2.heap[b]? = wr.heap[b]?) ∧ wr.heap.size ≤ w2.heap.size
theorem But.step {B lo gb : Nat} {wr w' w2 : World} {v v' : Value} (h : But B lo w' w2 gb v') (hs : wr.heap.size ≤ w'.heap.size) (hk : ∀ b, b ≠ gb → v.ownBlock ≠ some b → b < wr.heap.size → w'.heap[b]? = wr.heap[b]?) (hv : v'.ownBlock = v.ownBlock ∨ ∃ s, v'.ownBlock = some s ∧ wr.heap.size ≤ s) : But B lo wr w2 gb v := by
  refine ⟨fun b h1 h2 h3 h4 => (h.1 b h1 h2 (fun e => ?_) (Nat.lt_of_lt_of_le h4 hs)).trans (hk b h2 h3 h4), Nat.le_trans hs h.2⟩
  rcases hv with hv | ⟨s, hv, hs⟩
  · exact h3 (hv ▸ e)
  · rw [hv] at e
    have := Option.some.inj e
    omega
/-- The parts so far. -/
def Parts (n : Nat) (t u : LTy) (l : List LTy) : Prop := ∀ (j : Nat) (x y z : LTy), t.xs[j]? = some x → u.xs[j]? = some y → l[j]? = some z → meetF n (strip x) (strip y) = some (strip z)
theorem Parts.snoc {n : Nat} {t u : LTy} {l : List LTy} {x y z : LTy} (h : Parts n t u l) (hx : t.xs[l.length]? = some x) (hy : u.xs[l.length]? = some y) (hz : meetF n (strip x) (strip y) = some (strip z)) : Parts n t u (l ++ [z]) := fun j x' y' z' hx' hy' hz' => by
  rcases Nat.lt_or_ge j l.length with h1 | h1
  · rw [List.getElem?_append_left h1] at hz'
    exact h j x' y' z' hx' hy' hz'
  · rw [List.getElem?_append_right h1] at hz'
    have h2 : j - l.length = 0 := by
      have := (List.getElem?_eq_some_iff.1 hz').1
      simp at this
      omega
    obtain rfl : j = l.length := by omega
    rw [h2] at hz'
    simp at hz'
    subst hz'
    rw [hx] at hx'
    rw [hy] at hy'
    obtain rfl := Option.some.inj hx'
    obtain rfl := Option.some.inj hy'
    exact hz
theorem meet_done {n : Nat} {t u : LTy} {l : List LTy} {A A2 : Option Addr} {c c2 : Nat} (h1 : ¬ Prec (n + 1) (strip t) (strip u)) (h2 : ¬ Prec (n + 1) (strip u) (strip t)) (hp : Paired (strip t) (strip u)) (hl : l.length = t.xs.length) (h : Parts n t u l) : meetF (n + 1) (strip t) (strip u) = some (strip (.mk t.kind A c t.ns A2 c2 l)) := by
  rw [meetF_two h1 h2 hp, meetL_of (l := l.map strip) hp.2.2 (by rw [List.length_map, strip_len]; exact hl) (fun i a b z ha hb hz => by
    obtain ⟨x, hx, rfl⟩ := strip_of ha
    obtain ⟨y, hy, rfl⟩ := strip_of hb
    rw [List.getElem?_map] at hz
    cases hz2 : l[i]? with
    | none => rw [hz2] at hz; simp at hz
    | some z' =>
      rw [hz2] at hz
      simp at hz
      subst hz
      exact h i x y z' hx hy hz2)]
  rw [strip_kind, strip_names, strip_mk]
  rfl
theorem meet_none {n : Nat} {t u x y : LTy} {k : Nat} (h1 : ¬ Prec (n + 1) (strip t) (strip u)) (h2 : ¬ Prec (n + 1) (strip u) (strip t)) (hp : Paired (strip t) (strip u)) (hx : t.xs[k]? = some x) (hy : u.xs[k]? = some y) (h : meetF n (strip x) (strip y) = none) : meetF (n + 1) (strip t) (strip u) = none := by
  rw [meetF_two h1 h2 hp, meetL_none hp.2.2 (strip_at hx) (strip_at hy) h]
  rfl
theorem own_in {w : World} {base : Nat} {e : TypeId} {sz n c : Nat} {A : Option Addr} {xs : List Value} (h : w.ownsRow base e sz (.slice A n c) n xs) (hz : 0 < sz) : Reads w w.heap.size A xs ∧ n ≤ c := own_reads h
/-- The new type lies in every later world. -/
theorem meet_in {t : LTy} {l : List LTy} {A A2 : Option Addr} {c c2 base n2 : Nat} {w2 w1 : World} (hr : Reads w2 w2.heap.size A (t.ns.map Value.string)) (hc : t.ns.length ≤ c) (hA : A = none → c = 0) (ht : LIn w1 w1.heap.size t) (hl : l.length = n2) (hn : n2 = t.xs.length) (ho : w2.ownsRow base 26 3 (.slice A2 n2 c2) n2 (l.flatMap LTy.enc)) (hz : ∀ z ∈ l, LIn w2 w2.heap.size z) : LIn w2 w2.heap.size (.mk t.kind A c t.ns A2 c2 l) := by
  obtain ⟨h1, h2⟩ := own_reads ho
  refine .mk hr h1 hc ht.n1.2 ?_ ?_ ht.room hA hz
  · show l.length ≤ c2
    omega
  · show l.length ≤ _
    rw [hl, hn]
    exact ht.n2.2
theorem names_live {wc v1 W : World} {B lo gb base n c : Nat} {e : TypeId} {A : Option Addr} {ns : List ByteArray} (h : v1.ownsRow base e 1 (.slice A n c) n (ns.map Value.string)) (hb : lo ≤ base) (hk : ∀ b, base ≤ b → b < v1.heap.size → b ≠ gb ∧ W.heap[b]? = v1.heap[b]?) (hs : v1.heap.size ≤ W.heap.size) :
    ∀ w2, But B lo W w2 gb (.slice none 0 0) → Reads w2 w2.heap.size A (ns.map Value.string) := fun w2 h2 => by
  obtain ⟨A', c', hv, h1, _, h3⟩ := own_form h
  injection hv with e1 e2 e3
  subst e1 e3
  rcases Nat.eq_zero_or_pos n with h0 | h0
  · left
    have := h.1
    rw [h0] at this
    exact List.eq_nil_of_length_eq_zero (by simpa using this)
  · obtain ⟨nb, h4, h5, h6, _, h7⟩ := h3 h0
    obtain ⟨k1, k2⟩ := hk nb h5 h6
    have k3 : w2.heap[nb]? = v1.heap[nb]? := (h2.1 nb (.inr (Nat.le_trans hb h5)) k1 (by simp [Value.ownBlock]) (Nat.lt_of_lt_of_le h6 hs)).trans k2
    refine .inr ⟨⟨nb, 0, none⟩, h4, Nat.lt_of_lt_of_le h6 (Nat.le_trans hs h2.2), fun j u hu => ?_⟩
    rw [cell_same (w := v1) (by rw [block_add']; exact k3)]
    have := h7 j u hu
    unfold Addr.add
    split
    · rename_i h8; subst h8; exact this
    · simpa using this
theorem own_nil {w : World} {base : Nat} {e : TypeId} {sz n c : Nat} {A : Option Addr} {xs : List Value} (h : w.ownsRow base e sz (.slice A n c) n xs) : A = none → c = 0 := fun hA => by
  rcases h.2 with ⟨hv, _⟩ | ⟨g, cap, cur, hv, _⟩
  · injection hv
  · injection hv with e1
    rw [hA] at e1
    cases e1
theorem infoStr : (Tryd.prog.info? 9).map (fun i => (i.zero, i.size, i.bytes)) = some (some (.string ByteArray.empty), 1, 16) := by kernel_rfl
set_option maxRecDepth 100000 in
theorem clone_names (A : Option Addr) (c : Nat) (ns : List ByteArray) (w : World) (hr : Reads w w.heap.size A (ns.map Value.string)) (hA : A = none → c = 0) (hn : ns.length ≤ 8796093022208) :
    Calls Tryd.prog 86 #[.slice A ns.length c] w fun e w' => ∃ A' c', e = .returned (.slice A' ns.length c') ∧ w'.ownsRow w.heap.size 9 1 (.slice A' ns.length c') ns.length (ns.map Value.string) ∧ Below w.heap.size w w' := by
  obtain ⟨i0, hi, hz0, hz1, hz2⟩ := info_parts infoStr
  obtain ⟨n, hnl⟩ : ∃ n, n = ns.length := ⟨_, rfl⟩
  rw [← hnl] at hn ⊢
  have hlen : (ns.map Value.string).length = n * 1 := by rw [List.length_map]; omega
  have h1 : ∀ u ∈ ns.map Value.string, u.oneCell' = true := fun u hu => by
    obtain ⟨s, _, rfl⟩ := List.mem_map.1 hu
    rfl
  generalize ns.map Value.string = xs at *
  have heq := fun W : World => Lib.run_eql_slice_nil (P := Tryd.prog) W 23 9 A n c 0 0 Tryd.underlying23
  rcases A with _ | ad
  · obtain rfl := hA rfl
    obtain rfl : xs = [] := by
      rcases hr with h | ⟨_, h, _⟩
      · exact h
      · cases h
    obtain rfl : n = 0 := by simpa using hlen.symm
    clear hnl
    go_enter Tryd.func86, Tryd.ntmps86
    go_wp2
    go_ret
    exact ⟨_, _, rfl, World.ownsRow_nil _ _ _ _, Below.refl _ _⟩
  · clear hnl
    go_enter Tryd.func86, Tryd.ntmps86
    have hr' : Reads (w.alloc (.cells #[] 9)) w.heap.size (some ad) xs := hr.below ((Below.refl _ _).alloc (Nat.le_refl _) _)
    have hown : (w.alloc (.cells #[] 9)).ownsRow w.heap.size 9 1 (.slice (some ⟨w.heap.size, 0, none⟩) 0 0) 0 [] := World.ownsRow_made w #[] 0 (Nat.le_refl _) (by unfold maxLen; omega) rfl
    have hnews : ∀ j u, xs[j]? = some u → (w.alloc (.cells #[] 9)).cell? (ad.add j) = some u := by
      intro j u hu
      rcases hr' with rfl | ⟨ad', e, _, h⟩
      · simp at hu
      · injection e with e; subst e; exact h j u hu
    go_wp2_with ((at_builtin; (refine wpList_append_own_at _ rfl _ _ _ rfl w.heap.size 9 i0 (.string ByteArray.empty) 1 16 Tryd.underlying23 hi hz0 hz1 hz2 rfl (by omega) _ 0 [] rfl hown ad n c xs rfl (by omega) hnews h1 (by unfold maxLen; omega) (by omega) (by simp) ?_); intro v w2 hown2 hgrow hat hat2))
    have hgrow' : World.grownBy _ w2 (some w.heap.size) := hgrow
    have hown3 : w2.ownsRow w.heap.size 9 1 v n xs := by simpa using hown2
    obtain ⟨A', c', rfl, _, _, _⟩ := own_form hown3
    go_ret
    exact ⟨A', c', rfl, hown3, ((Below.refl _ _).alloc (Nat.le_refl _) _).grown hgrow' (by simp) (fun k hk => Nat.le_of_eq (Option.some.inj hk))⟩
end Go.Proofs.YtllpicibncdppaaDoor
