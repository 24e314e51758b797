/-
  The flat type of kinds: types.of, types.Union, the reference's made and Union.
-/
import Derived.Test.YtllpicibncdppaaDoorTyKinds
set_option linter.unusedVariables false
set_option linter.unusedSimpArgs false
namespace Go.Proofs.YtllpicibncdppaaDoor
open Go.ChangeShapes Go.WideShapes Go.ChangeAt Go.RowKit

theorem infoTy : (Tryd.prog.info? 26).map (fun i => (i.zero, i.size, i.bytes)) = some (some (.agg #[.int .i64 0, .slice none 0 0, .slice none 0 0]), 3, 56) := by kernel_rfl
theorem cell_same {w w2 : World} {p : Addr} (h : w2.heap[p.block]? = w.heap[p.block]?) : w2.cell? p = w.cell? p := by unfold World.cell?; rw [h]
theorem LIn.same {w w2 : World} {B : Nat} {t : LTy} (h : LIn w B t) (hb : ∀ b, b < B → w2.heap[b]? = w.heap[b]?) : LIn w2 B t := by
  have key : ∀ {A : Option Addr} {xs : List Value}, Reads w B A xs → Reads w2 B A xs := fun h => h.imp id fun ⟨ad, h1, h2, h3⟩ => ⟨ad, h1, h2, fun j u hu => (cell_same (by rw [block_add']; exact hb _ h2)).trans (h3 j u hu)⟩
  induction h with
  | mk h1 h2 h3 h4 h5 h6 h7 hA h8 ih => exact .mk (key h1) (key h2) h3 h4 h5 h6 h7 hA ih
/-- Memory that stays: below B, and what is new since w. -/
def Stays (B : Nat) (w w' w2 : World) : Prop := (∀ b, (b < B ∨ w.heap.size ≤ b) → b < w'.heap.size → w2.heap[b]? = w'.heap[b]?) ∧ w'.heap.size ≤ w2.heap.size
/-- What is returned: a type that reads so, in memory below B or of the call's own. -/
def RetT (B : Nat) (T : Ty) (w : World) (e : Ending) (w' : World) : Prop := ∃ r : LTy, e = .returned r.val ∧ (∀ w2, Stays B w w' w2 → LIn w2 w2.heap.size r) ∧ strip r = T ∧ Below w.heap.size w w'
theorem Stays.refl (B : Nat) (w w' : World) : Stays B w w' w' := ⟨fun _ _ _ => rfl, Nat.le_refl _⟩
theorem set3_heap (W : World) (g : Nat) (v0 v1 v2 : Value) {b : Nat} (h : b ≠ g) : (((W.setCell ⟨g, 0, none⟩ v0).setCell ⟨g, 1, none⟩ v1).setCell ⟨g, 2, none⟩ v2).heap[b]? = W.heap[b]? := by
  rw [Below.heap_setCell _ _ _ _ h, Below.heap_setCell _ _ _ _ h, Below.heap_setCell _ _ _ _ h]
theorem set3_size (W : World) (g : Nat) (v0 v1 v2 : Value) : (((W.setCell ⟨g, 0, none⟩ v0).setCell ⟨g, 1, none⟩ v1).setCell ⟨g, 2, none⟩ v2).heap.size = W.heap.size := by simp [World.setCell]
theorem own_same {w w2 : World} {base : Nat} {e : TypeId} {sz n : Nat} {v : Value} {xs : List Value} (h : w.ownsRow base e sz v n xs) (hb : ∀ b, base ≤ b → b < w.heap.size → w2.heap[b]? = w.heap[b]?) : w2.ownsRow base e sz v n xs := by
  obtain ⟨h1, h2⟩ := h
  refine ⟨h1, h2.imp id ?_⟩
  rintro ⟨g, cap, cur, hv, hbb, hh, r⟩
  exact ⟨g, cap, cur, hv, hbb, (hb g hbb (blk_lt hh)).trans hh, r⟩
/-- A type without names or parts. -/
def leaf (k : Int) : LTy := .mk k none 0 [] none 0 []
theorem strip_leaf (k : Int) : strip (leaf k) = .mk k [] [] := by rw [strip_mk]; rfl
theorem leaf_in (k : Int) (w : World) (B : Nat) : LIn w B (leaf k) := .mk (.inl rfl) (.inl rfl) (Nat.le_refl _) (Nat.zero_le _) (Nat.le_refl _) (Nat.zero_le _) (fun s hs => by simp [leaf, LTy.ns] at hs) (fun _ => rfl) (fun x hx => by simp [leaf, LTy.xs] at hx)
theorem leaf_may {k : Int} (h0 : 0 ≤ k) (h6 : k ≤ 6) : May (strip (leaf k)) := by
  rw [strip_leaf]
  exact ⟨leaf_chk h0 h6, by rw [nodes_args]; show 0 + 1 ≤ 10000; omega⟩
/-- The last seven bits of an int. -/
def kindsN (x : Int) : Nat := (x % 128).toNat
theorem kindsN_lt (x : Int) : kindsN x < 128 := by unfold kindsN; omega
theorem and_low (x : Int) (b : Nat) (hb : b < 128) : bits .and .i64 x (b : Int) = ((kindsN x &&& b : Nat) : Int) := by
  have h2 : (BitVec.ofInt 64 (b : Int)).toNat = b := by
    rw [BitVec.ofInt_natCast, BitVec.toNat_ofNat]; exact Nat.mod_eq_of_lt (by omega)
  have h1 : (BitVec.ofInt 64 x).toNat % 128 = kindsN x := by
    rw [BitVec.toNat_ofInt]
    unfold kindsN
    omega
  have h3 : (BitVec.ofInt 64 x).toNat &&& b = kindsN x &&& b := by
    rw [← h1]
    refine Nat.eq_of_testBit_eq fun i => ?_
    rw [Nat.testBit_and, Nat.testBit_and, show 128 = 2 ^ 7 from rfl, Nat.testBit_mod_two_pow]
    by_cases hi : i < 7
    · simp [hi]
    · have : b.testBit i = false := Nat.testBit_lt_two_pow (Nat.lt_of_lt_of_le hb (Nat.le_trans (by decide : 128 ≤ 2 ^ 7) (Nat.pow_le_pow_right (by omega) (by omega))))
      simp [this]
  have h4 : kindsN x &&& b < 128 := Nat.and_lt_two_pow (n := 7) _ hb
  show IntKind.i64.wrap ((BitVec.ofInt 64 x &&& BitVec.ofInt 64 (b : Int)).toNat : Int) = _
  rw [BitVec.toNat_and, h2, h3, IntKind.wrap_i64]
  omega
/-- The kinds below k that are meant. -/
def upTo (N k : Nat) : List Int := ([1, 2, 3, 4, 5, 6] : List Int).filter (fun j => decide (j < (k : Int)) && (N &&& bitsOf j != 0))
theorem upTo_all : ∀ (N : Fin 128) (k : Fin 7), upTo N.1 (k.1 + 1) = upTo N.1 k.1 ++ (if 0 < k.1 ∧ N.1 &&& bitsOf (k.1 : Int) ≠ 0 then [(k.1 : Int)] else []) ∧ (upTo N.1 k.1).length ≤ k.1 := by decide +kernel
theorem upTo_end : ∀ (N : Fin 128), upTo N.1 7 = ([1, 2, 3, 4, 5, 6] : List Int).filter (fun k => N.1 &&& bitsOf k != 0) := by decide +kernel
theorem upTo_step {N k : Nat} (hN : N < 128) (hk : k ≤ 6) : upTo N (k + 1) = upTo N k ++ (if 0 < k ∧ N &&& bitsOf (k : Int) ≠ 0 then [(k : Int)] else []) := (upTo_all ⟨N, hN⟩ ⟨k, by omega⟩).1
theorem upTo_zero (N : Nat) : upTo N 0 = [] := by
  unfold upTo
  rw [List.filter_eq_nil_iff]
  intro j hj
  simp at hj
  have : decide (j < ((0 : Nat) : Int)) = false := decide_eq_false (by omega)
  rw [this]
  simp
theorem upTo_one (N : Nat) : upTo N 1 = [] := by
  unfold upTo
  rw [List.filter_eq_nil_iff]
  intro j hj
  simp at hj
  have : decide (j < ((1 : Nat) : Int)) = false := decide_eq_false (by omega)
  rw [this]
  simp
/-- The type that is made of kinds: flat, but for those of none or all. -/
def ofT (N : Nat) : Ty := match upTo N 7 with
  | [a] => .mk a [] []
  | l => .mk 7 [] (l.map fun k => .mk k [] [])
theorem unionT_of {N : Nat} (hN : N < 128) : unionT N = if (upTo N 7).length = 0 ∨ (upTo N 7).length = 6 then anyT else ofT N := by
  have e : unionArgs N = (upTo N 7).map fun k => Ty.mk k [] [] := by rw [upTo_end ⟨N, hN⟩]; rfl
  unfold unionT ofT
  rw [e]
  generalize upTo N 7 = l
  rcases l with _ | ⟨a, _ | ⟨b, l⟩⟩
  · rw [if_pos (.inl rfl)]; rfl
  · rw [if_neg (by simp)]; rfl
  · simp only [List.map_cons, List.length_cons, List.length_map]
    by_cases h : l.length + 1 + 1 = 6
    · rw [if_pos h, if_pos (.inr h)]
    · rw [if_neg h, if_neg (by omega)]
theorem ofT_one {N : Nat} {a : Int} (h : upTo N 7 = [a]) : ofT N = .mk a [] [] := by unfold ofT; rw [h]
theorem ofT_many {N : Nat} (h : (upTo N 7).length ≠ 1) : ofT N = .mk 7 [] ((upTo N 7).map fun k => .mk k [] []) := by
  unfold ofT
  generalize upTo N 7 = l at *
  rcases l with _ | ⟨a, _ | ⟨b, l⟩⟩
  · rfl
  · simp at h
  · rfl
theorem upTo_mem {N k : Nat} {a : Int} (h : a ∈ upTo N k) : 1 ≤ a ∧ a ≤ 6 := by
  unfold upTo at h
  have := (List.mem_filter.1 h).1
  simp at this
  omega
/-- The cells of leaves. -/
def leafRow (l : List Int) : List Value := (l.map leaf).flatMap LTy.enc
theorem leafRow_snoc (l : List Int) (k : Int) : leafRow (l ++ [k]) = leafRow l ++ [.int .i64 k, .slice none 0 0, .slice none 0 0] := by
  unfold leafRow
  rw [List.map_append, List.flatMap_append]
  rfl
theorem own_set_ne {w : World} {base : Nat} {e : TypeId} {sz n : Nat} {v : Value} {xs : List Value} (h : w.ownsRow base e sz v n xs) {a : Addr} (hne : a.block < base) (u : Value) : (w.setCell a u).ownsRow base e sz v n xs := by
  obtain ⟨h1, h2⟩ := h
  refine ⟨h1, h2.imp id ?_⟩
  rintro ⟨g, cap, cur, hv, hb, hh, r⟩
  exact ⟨g, cap, cur, hv, hb, blk_far hh (by omega) u, r⟩
theorem row_ge {w : World} {base : Nat} {e : TypeId} {sz n : Nat} {v : Value} {xs : List Value} (h : w.ownsRow base e sz v n xs) (g : Nat) (hg : v.ownBlock = some g) : base ≤ g := (World.ownsRow.lt h g hg).1
theorem own_reads {w : World} {base : Nat} {e : TypeId} {sz n c : Nat} {A : Option Addr} {xs : List Value} (h : w.ownsRow base e sz (.slice A n c) n xs) : Reads w w.heap.size A xs ∧ n ≤ c := by
  obtain ⟨A', c', hv, h1, h2, h3⟩ := own_form h
  injection hv with e1 e2 e3
  subst e1 e3
  refine ⟨?_, h1⟩
  rcases Nat.eq_zero_or_pos n with h0 | h0
  · left
    have := h.1
    rw [h0] at this
    exact List.eq_nil_of_length_eq_zero (by simpa using this)
  · obtain ⟨gb, h4, h5, h6, _, h7⟩ := h3 h0
    exact .inr ⟨⟨gb, 0, none⟩, h4, h6, fun j u hu => by
      have := h7 j u hu
      unfold Addr.add
      split
      · rename_i h8; subst h8; exact this
      · simpa using this⟩
theorem many_in {w : World} {base c : Nat} {A : Option Addr} {l : List Int} (h : w.ownsRow base 26 3 (.slice A l.length c) l.length (leafRow l)) (hl : l.length ≤ 7) : LIn w w.heap.size (.mk 7 none 0 [] A c (l.map leaf)) ∧ strip (.mk 7 none 0 [] A c (l.map leaf)) = .mk 7 [] (l.map fun k => .mk k [] []) := by
  obtain ⟨h1, h2⟩ := own_reads h
  refine ⟨.mk (.inl rfl) h1 (Nat.le_refl _) (Nat.zero_le _) ?_ ?_ (fun s hs => by simp [LTy.ns] at hs) (fun _ => rfl) (fun x hx => ?_), ?_⟩
  · simpa [LTy.xs, LTy.c2] using h2
  · show (l.map leaf).length ≤ _
    rw [List.length_map]; omega
  · obtain ⟨k, _, rfl⟩ := List.mem_map.1 hx
    exact leaf_in _ _ _
  · rw [strip_mk]
    show Ty.mk 7 [] ((l.map leaf).map strip) = _
    rw [List.map_map]
    congr 1
set_option maxRecDepth 100000 in
set_option maxHeartbeats 8000000 in
theorem tof_any (x : Int) (w : World) : Calls Tryd.prog 46 #[.int .i64 x] w (RetT 0 (ofT (kindsN x)) w) := by
  obtain ⟨i0, hi, hz0, hz1, hz2⟩ := info_parts infoTy
  obtain ⟨g, hg⟩ : ∃ g, g = w.heap.size := ⟨_, rfl⟩
  obtain ⟨N, hN⟩ : ∃ N, N = kindsN x := ⟨_, rfl⟩
  have hN128 : N < 128 := by rw [hN]; exact kindsN_lt x
  rw [← hN]
  have HN := Lib.hid hN
  clear hN
  go_enter Tryd.func46, Tryd.ntmps46
  go_upto_region 2 with fail
  rw [← hg]
  refine gen_wpT fun W hW => ?_
  have KR := Lib.hid (show W.heap[g]? = some (.cells #[.int .i64 0, .slice none 0 0, .slice none 0 0] 26 (0, 0)) by rw [← hW, hg]; exact blk_alloc (heap_new_at _ _ _ rfl) _)
  have KT := Lib.hid (show W.heap[g + 1]? = some (.cells #[.int .i64 7, .slice none 0 0, .slice none 0 0] 26 (0, 0)) by rw [← hW, hg]; exact heap_new_at _ _ _ (by simp))
  have KB := Lib.hid (show Below w.heap.size w W by rw [← hW]; exact ((Below.refl _ _).alloc (Nat.le_refl _) _).alloc (by simp) _)
  have HG := Lib.hid hg
  clear hW hg
  go_wp2_with fail
  refine (tbits_any _).mono ?_
  rintro e w1 ⟨rfl, hb1⟩
  have KR1 := Lib.hid (below_blk hb1 KR.out)
  have KT1 := Lib.hid (below_blk hb1 KT.out)
  have KB1 := Lib.hid (KB.out.trans (hb1.mono KB.out.size))
  clear hb1
  have hs1 : g + 2 ≤ w1.heap.size := by have := blk_lt KT1.out; omega
  go_wp2_with fail
  go_loopw [8] (fun i wr => ∃ (k : Nat) (A : Option Addr) (c : Nat), k ≤ 7 ∧ i = .int .i64 k ∧ Hid (wr.heap[g]? = some (.cells #[.int .i64 0, .slice none 0 0, .slice none 0 0] 26 (0, 0))) ∧ Hid (wr.heap[g + 1]? = some (.cells #[.int .i64 7, .slice none 0 0, .slice A (upTo N k).length c] 26 (0, 0))) ∧ Hid (wr.ownsRow (g + 2) 26 3 (.slice A (upTo N k).length c) (upTo N k).length (leafRow (upTo N k))) ∧ Hid (Below w.heap.size w wr)) (fun i _ => 7 - (intOf i).toNat)
  case atStart => exact ⟨0, none, 0, by omega, rfl, KR1, (by rw [upTo_zero]; exact KT1), (by rw [upTo_zero]; exact Lib.hid ⟨rfl, .inl ⟨rfl, rfl⟩⟩), KB1⟩
  case round =>
    obtain ⟨k, A, c, hk, rfl, HR, HT, HO, HB⟩ := hrel
    have lt := blk_lt HT.out
    have lr := blk_lt HR.out
    have hgle : w.heap.size ≤ g := by rw [HG.out]; exact Nat.le_refl _
    by_cases hlt : k < 7
    · have hlen := (upTo_all ⟨N, hN128⟩ ⟨k, hlt⟩).2
      dsimp only at hlen
      have hst := upTo_step hN128 (show k ≤ 6 by omega)
      have hk' : (k : Int) < 7 := by omega
      have hk'' : (k : Int) ≤ 6 := by omega
      have hk0 : (0 : Int) ≤ k := by omega
      have HIX := fun w => idx_bits (k := (k : Int)) hk0 hk'' w
      by_cases hc : 0 < k ∧ N &&& bitsOf (k : Int) ≠ 0
      · have t0 : decide (0 < (k : Int)) = true := decide_eq_true (by omega)
        have t0' : decide (0 < k) = true := decide_eq_true (by omega)
        obtain ⟨M, hM⟩ : ∃ M, M = N &&& bitsOf (k : Int) := ⟨_, rfl⟩
        have han : bits .and .i64 x (bitsOf (k : Int) : Nat) = (M : Int) := by rw [hM, HN.out]; exact and_low x _ (bits128 _)
        have hb : ((M : Int) == 0) = false := beq_eq_false_iff_ne.2 (by have := hc.2; omega)
        have hb' : ((M : Int) != 0) = true := by rw [bne, hb]; rfl
        rw [if_pos hc] at hst
        have HST := Lib.hid hst
        clear hst hM hc
        generalize upTo N k = L at *
        have hlen1 : L.length + 1 ≤ 8 := by omega
        have t2 := cell_of_blk (i := 2) HT.out rfl
        go_wp2_with (at_builtin; refine wpList_append_own _ rfl _ _ 24 rfl (g + 2) 26 i0 _ 3 56 Tryd.underlying24 hi hz0 hz1 hz2 rfl (by decide) _ _ _ rfl (HO.out.alloc _) ⟨wr.heap.size, 0, none⟩ 1 1 [.int .i64 k, .slice none 0 0, .slice none 0 0] rfl rfl (World.news_of_block (heap_alloc_new _ _)) (by simp [Value.oneCell']) (by unfold maxLen; omega) (by omega) (by simp; omega) ?_; intro v' w4 hown4 hg4 _; obtain ⟨A4, c4, rfl, _, _, _⟩ := own_form hown4; have ht4 := blk_grown (blk_alloc HT.out _) hg4 (fun e => by have := row_ge HO.out _ e; omega); have hr4 := blk_grown (blk_alloc HR.out _) hg4 (fun e => by have := row_ge HO.out _ e; omega); have hb4 := (HB.out.alloc (by have := HB.out.size; omega) _).grown hg4 (by have := HB.out.size; simp; omega) (fun gg hgg => by have := row_ge HO.out _ hgg; omega); have HT4 := Lib.hid ht4; have HR4 := Lib.hid hr4; have HO4 := Lib.hid hown4; have HB4 := Lib.hid hb4; have t4 := cell_of_blk (i := 2) ht4 rfl; have f4 := free_of_blk (i := 2) ht4; have l4 := blk_lt ht4; clear ht4 hr4 hown4 hb4 hg4)
        go_roundw
        case rel =>
          refine ⟨k + 1, A4, c4, by omega, by go_num, Lib.hid (blk_far HR4.out (by simp) _), Lib.hid ?_, Lib.hid ?_, Lib.hid (HB4.out.setCell (by simp; omega) _)⟩
          · rw [HST.out, List.length_append]; exact blk_set (i := 2) HT4.out _
          · rw [HST.out, List.length_append, leafRow_snoc]
            exact own_set_ne HO4.out (by simp) _
        case measure => simp [intOf]; omega
      · rw [if_neg hc, List.append_nil] at hst
        have HST := Lib.hid hst
        have hor : k = 0 ∨ (0 < k ∧ N &&& bitsOf (k : Int) = 0) := by
          rcases Nat.eq_zero_or_pos k with h | h
          · exact .inl h
          · exact .inr ⟨h, Classical.not_not.1 fun e => hc ⟨h, e⟩⟩
        clear hst hc
        rcases hor with h | ⟨h, hz⟩
        · have t0 : decide (0 < (k : Int)) = false := decide_eq_false (by omega)
          have t0' : decide (0 < k) = false := decide_eq_false (by omega)
          clear h
          go_wp2_with fail
          go_roundw
          case rel => exact ⟨k + 1, A, c, by omega, by go_num, HR, (by rw [HST.out]; exact HT), (by rw [HST.out]; exact HO), HB⟩
          case measure => simp [intOf]; omega
        · have t0 : decide (0 < (k : Int)) = true := decide_eq_true (by omega)
          have t0' : decide (0 < k) = true := decide_eq_true (by omega)
          have han : bits .and .i64 x (bitsOf (k : Int) : Nat) = 0 := by
            have := and_low x _ (bits128 (k : Int))
            rw [← HN.out, hz] at this
            exact this
          clear hz h
          go_wp2_with fail
          go_roundw
          case rel => exact ⟨k + 1, A, c, by omega, by go_num, HR, (by rw [HST.out]; exact HT), (by rw [HST.out]; exact HO), HB⟩
          case measure => simp [intOf]; omega
    · obtain rfl : k = 7 := by omega
      have t2 := cell_of_blk (i := 2) HT.out rfl
      have r0 := cell_of_blk (i := 0) HR.out rfl
      have r1 := cell_of_blk (i := 1) HR.out rfl
      have r2 := cell_of_blk (i := 2) HR.out rfl
      have fr0 := free_of_blk (i := 0) HR.out
      have fr1 := free_of_blk (i := 1) HR.out
      have fr2 := free_of_blk (i := 2) HR.out
      by_cases h1 : (upTo N 7).length = 1
      · obtain ⟨a, ha⟩ : ∃ a, upTo N 7 = [a] := List.length_eq_one_iff.1 h1
        have HE := Lib.hid (ofT_one ha)
        rw [ha] at t2 HO
        clear ha h1
        obtain ⟨A', c', hv, _, _, h3⟩ := own_form HO.out
        obtain ⟨gb, h4, h5, h6, _, h7⟩ := h3 (by simp)
        injection hv with e1 e2 e3
        subst e1 e3
        subst h4
        have d0 := h7 0 (.int .i64 a) rfl
        have d1 := h7 1 (.slice none 0 0) rfl
        have d2 := h7 2 (.slice none 0 0) rfl
        have HF := Lib.hid (HB.out)
        clear h3 h7 hlt hk
        have hgl : w.heap.size ≤ g := hgle
        go_wp2
        refine bodyPost_ret (v := .agg #[.int .i64 a, .slice none 0 0, .slice none 0 0]) (by simp [results, Tryd.results46, go_sem, r0, r1, r2]) rfl ?_
        refine ⟨leaf a, rfl, fun _ _ => leaf_in _ _ _, by rw [strip_leaf, HE.out], ?_⟩
        exact (((HF.out.setCell (by simp; omega) _).setCell (by simp; omega) _).setCell (by simp; omega) _)
      · have HE := Lib.hid (ofT_many h1)
        have h1' : (((upTo N 7).length : Int) == 1) = false := beq_eq_false_iff_ne.2 (by omega)
        have hl7 : (upTo N 7).length ≤ 7 := by have := upTo_step hN128 (show 6 ≤ 6 by omega); have h2 := (upTo_all ⟨N, hN128⟩ ⟨6, by omega⟩).2; rw [this, List.length_append]; split <;> simp at * <;> omega
        have t0 := cell_of_blk (i := 0) HT.out rfl
        have t1 := cell_of_blk (i := 1) HT.out rfl
        have HL7 := Lib.hid hl7
        generalize upTo N 7 = L at *
        clear h1 hlt hk hl7
        go_wp2
        refine bodyPost_ret (v := .agg #[.int .i64 7, .slice none 0 0, .slice A L.length c]) (by simp [results, Tryd.results46, go_sem, r0, r1, r2]) rfl ?_
        have hown := own_set_ne (own_set_ne (own_set_ne HO.out (a := ⟨g, 0, none⟩) (by simp) (.int .i64 7)) (a := ⟨g, 1, none⟩) (by simp) (.slice none 0 0)) (a := ⟨g, 2, none⟩) (by simp) (.slice A L.length c)
        have hm := many_in hown HL7.out
        refine ⟨.mk 7 none 0 [] A c (L.map leaf), by simp [LTy.val, LTy.kind, LTy.A, LTy.ns, LTy.c, LTy.A2, LTy.xs, LTy.c2], fun w2 h2 => (many_in (own_same hown (fun b hb hlt => h2.1 b (.inr (by omega)) hlt)) HL7.out).1, by rw [hm.2, HE.out], ?_⟩
        exact (((HB.out.setCell (by simp; omega) _).setCell (by simp; omega) _).setCell (by simp; omega) _)
set_option maxRecDepth 100000 in
set_option maxHeartbeats 8000000 in
theorem rmade_any (x : Int) (w : World) : Calls Tryd.prog 48 #[.int .i64 x] w (RetT 0 (ofT (kindsN x)) w) := by
  obtain ⟨i0, hi, hz0, hz1, hz2⟩ := info_parts infoTy
  obtain ⟨g, hg⟩ : ∃ g, g = w.heap.size := ⟨_, rfl⟩
  obtain ⟨N, hN⟩ : ∃ N, N = kindsN x := ⟨_, rfl⟩
  have hN128 : N < 128 := by rw [hN]; exact kindsN_lt x
  rw [← hN]
  have HN := Lib.hid hN
  clear hN
  go_enter Tryd.func48, Tryd.ntmps48
  go_upto_region 2 with fail
  rw [← hg]
  refine gen_wpT fun W hW => ?_
  have KR := Lib.hid (show W.heap[g]? = some (.cells #[.int .i64 0, .slice none 0 0, .slice none 0 0] 26 (0, 0)) by rw [← hW, hg]; exact blk_alloc (heap_new_at _ _ _ rfl) _)
  have KT := Lib.hid (show W.heap[g + 1]? = some (.cells #[.int .i64 7, .slice none 0 0, .slice none 0 0] 26 (0, 0)) by rw [← hW, hg]; exact heap_new_at _ _ _ (by simp))
  have KB := Lib.hid (show Below w.heap.size w W by rw [← hW]; exact ((Below.refl _ _).alloc (Nat.le_refl _) _).alloc (by simp) _)
  have HG := Lib.hid hg
  clear hW hg
  have KR1 := KR
  have KT1 := KT
  have KB1 := KB
  have hs1 : g + 2 ≤ W.heap.size := by have := blk_lt KT1.out; omega
  go_wp2_with fail
  go_loopw [4] (fun i wr => ∃ (k : Nat) (A : Option Addr) (c : Nat), k ≤ 7 ∧ 1 ≤ k ∧ i = .int .i64 k ∧ Hid (wr.heap[g]? = some (.cells #[.int .i64 0, .slice none 0 0, .slice none 0 0] 26 (0, 0))) ∧ Hid (wr.heap[g + 1]? = some (.cells #[.int .i64 7, .slice none 0 0, .slice A (upTo N k).length c] 26 (0, 0))) ∧ Hid (wr.ownsRow (g + 2) 26 3 (.slice A (upTo N k).length c) (upTo N k).length (leafRow (upTo N k))) ∧ Hid (Below w.heap.size w wr)) (fun i _ => 7 - (intOf i).toNat)
  case atStart => exact ⟨1, none, 0, by omega, by omega, rfl, KR1, (by rw [upTo_one]; exact KT1), (by rw [upTo_one]; exact Lib.hid ⟨rfl, .inl ⟨rfl, rfl⟩⟩), KB1⟩
  case round =>
    obtain ⟨k, A, c, hk, hk1, rfl, HR, HT, HO, HB⟩ := hrel
    have lt := blk_lt HT.out
    have lr := blk_lt HR.out
    have hgle : w.heap.size ≤ g := by rw [HG.out]; exact Nat.le_refl _
    by_cases hlt : k < 7
    · have hlen := (upTo_all ⟨N, hN128⟩ ⟨k, hlt⟩).2
      dsimp only at hlen
      have hst := upTo_step hN128 (show k ≤ 6 by omega)
      have hk' : (k : Int) < 7 := by omega
      have hk'' : (k : Int) ≤ 6 := by omega
      have hk0 : (0 : Int) ≤ k := by omega
      have hcall := fun w => rkinds_any (leaf (k : Int)) w (leaf_in _ _ _)
      rw [kindsV_yes (leaf_may hk0 hk''), kindsT_leaf (show (leaf (k : Int)).kind ≤ 6 from hk'')] at hcall
      have HC := Lib.hid (show ∀ w, Calls Tryd.prog 37 #[.agg #[.int .i64 (k : Int), .slice none 0 0, .slice none 0 0]] w (RetB (.int .i64 (bitsOf (k : Int) : Nat)) w) from hcall)
      clear hcall
      by_cases hc : 0 < k ∧ N &&& bitsOf (k : Int) ≠ 0
      · have t0 : decide (0 < (k : Int)) = true := decide_eq_true (by omega)
        have t0' : decide (0 < k) = true := decide_eq_true (by omega)
        obtain ⟨M, hM⟩ : ∃ M, M = N &&& bitsOf (k : Int) := ⟨_, rfl⟩
        have han : bits .and .i64 x (bitsOf (k : Int) : Nat) = (M : Int) := by rw [hM, HN.out]; exact and_low x _ (bits128 _)
        have hb : ((M : Int) == 0) = false := beq_eq_false_iff_ne.2 (by have := hc.2; omega)
        have hb' : ((M : Int) != 0) = true := by rw [bne, hb]; rfl
        rw [if_pos hc] at hst
        have HST := Lib.hid hst
        clear hst hM hc
        generalize upTo N k = L at *
        have hlen1 : L.length + 1 ≤ 8 := by omega
        go_wp2_with fail
        refine (HC.out _).mono ?_
        rintro e w5 ⟨rfl, hb5⟩
        have HR5 := Lib.hid (below_blk hb5 HR.out)
        have HT5 := Lib.hid (below_blk hb5 HT.out)
        have HO5 := Lib.hid (below_own hb5 HO.out)
        have HB5 := Lib.hid (HB.out.trans (hb5.mono HB.out.size))
        have lt5 := blk_lt HT5.out
        clear hb5
        have t25 := cell_of_blk (i := 2) HT5.out rfl
        go_wp2_with (at_builtin; refine wpList_append_own _ rfl _ _ 24 rfl (g + 2) 26 i0 _ 3 56 Tryd.underlying24 hi hz0 hz1 hz2 rfl (by decide) _ _ _ rfl (HO5.out.alloc _) ⟨w5.heap.size, 0, none⟩ 1 1 [.int .i64 k, .slice none 0 0, .slice none 0 0] rfl rfl (World.news_of_block (heap_alloc_new _ _)) (by simp [Value.oneCell']) (by unfold maxLen; omega) (by omega) (by simp; omega) ?_; intro v' w4 hown4 hg4 _; obtain ⟨A4, c4, rfl, _, _, _⟩ := own_form hown4; have ht4 := blk_grown (blk_alloc HT5.out _) hg4 (fun e => by have := row_ge HO5.out _ e; omega); have hr4 := blk_grown (blk_alloc HR5.out _) hg4 (fun e => by have := row_ge HO5.out _ e; omega); have hb4 := (HB5.out.alloc (by have := HB5.out.size; omega) _).grown hg4 (by have := HB5.out.size; simp; omega) (fun gg hgg => by have := row_ge HO5.out _ hgg; omega); have HT4 := Lib.hid ht4; have HR4 := Lib.hid hr4; have HO4 := Lib.hid hown4; have HB4 := Lib.hid hb4; have t4 := cell_of_blk (i := 2) ht4 rfl; have f4 := free_of_blk (i := 2) ht4; have l4 := blk_lt ht4; clear ht4 hr4 hown4 hb4 hg4)
        go_roundw
        case rel =>
          refine ⟨k + 1, A4, c4, by omega, by omega, by go_num, Lib.hid (blk_far HR4.out (by simp) _), Lib.hid ?_, Lib.hid ?_, Lib.hid (HB4.out.setCell (by simp; omega) _)⟩
          · rw [HST.out, List.length_append]; exact blk_set (i := 2) HT4.out _
          · rw [HST.out, List.length_append, leafRow_snoc]
            exact own_set_ne HO4.out (by simp) _
        case measure => simp [intOf]; omega
      · rw [if_neg hc, List.append_nil] at hst
        have HST := Lib.hid hst
        have hor : k = 0 ∨ (0 < k ∧ N &&& bitsOf (k : Int) = 0) := by
          rcases Nat.eq_zero_or_pos k with h | h
          · exact .inl h
          · exact .inr ⟨h, Classical.not_not.1 fun e => hc ⟨h, e⟩⟩
        clear hst hc
        rcases hor with h | ⟨h, hz⟩
        · omega
        · have t0 : decide (0 < (k : Int)) = true := decide_eq_true (by omega)
          have t0' : decide (0 < k) = true := decide_eq_true (by omega)
          have han : bits .and .i64 x (bitsOf (k : Int) : Nat) = 0 := by
            have := and_low x _ (bits128 (k : Int))
            rw [← HN.out, hz] at this
            exact this
          clear hz h
          go_wp2_with fail
          refine (HC.out _).mono ?_
          rintro e w5 ⟨rfl, hb5⟩
          have HR5 := Lib.hid (below_blk hb5 HR.out)
          have HT5 := Lib.hid (below_blk hb5 HT.out)
          have HO5 := Lib.hid (below_own hb5 HO.out)
          have HB5 := Lib.hid (HB.out.trans (hb5.mono HB.out.size))
          have lt5 := blk_lt HT5.out
          clear hb5
          have t25 := cell_of_blk (i := 2) HT5.out rfl
          go_wp2_with fail
          go_roundw
          case rel => exact ⟨k + 1, A, c, by omega, by omega, by go_num, HR5, (by rw [HST.out]; exact HT5), (by rw [HST.out]; exact HO5), HB5⟩
          case measure => simp [intOf]; omega
    · obtain rfl : k = 7 := by omega
      have t2 := cell_of_blk (i := 2) HT.out rfl
      have r0 := cell_of_blk (i := 0) HR.out rfl
      have r1 := cell_of_blk (i := 1) HR.out rfl
      have r2 := cell_of_blk (i := 2) HR.out rfl
      have fr0 := free_of_blk (i := 0) HR.out
      have fr1 := free_of_blk (i := 1) HR.out
      have fr2 := free_of_blk (i := 2) HR.out
      by_cases h1 : (upTo N 7).length = 1
      · obtain ⟨a, ha⟩ : ∃ a, upTo N 7 = [a] := List.length_eq_one_iff.1 h1
        have HE := Lib.hid (ofT_one ha)
        rw [ha] at t2 HO
        clear ha h1
        obtain ⟨A', c', hv, _, _, h3⟩ := own_form HO.out
        obtain ⟨gb, h4, h5, h6, _, h7⟩ := h3 (by simp)
        injection hv with e1 e2 e3
        subst e1 e3
        subst h4
        have d0 := h7 0 (.int .i64 a) rfl
        have d1 := h7 1 (.slice none 0 0) rfl
        have d2 := h7 2 (.slice none 0 0) rfl
        have HF := Lib.hid (HB.out)
        clear h3 h7 hlt hk
        have hgl : w.heap.size ≤ g := hgle
        go_wp2
        refine bodyPost_ret (v := .agg #[.int .i64 a, .slice none 0 0, .slice none 0 0]) (by simp [results, Tryd.results48, go_sem, r0, r1, r2]) rfl ?_
        refine ⟨leaf a, rfl, fun _ _ => leaf_in _ _ _, by rw [strip_leaf, HE.out], ?_⟩
        exact (((HF.out.setCell (by simp; omega) _).setCell (by simp; omega) _).setCell (by simp; omega) _)
      · have HE := Lib.hid (ofT_many h1)
        have h1' : (((upTo N 7).length : Int) == 1) = false := beq_eq_false_iff_ne.2 (by omega)
        have hl7 : (upTo N 7).length ≤ 7 := by have := upTo_step hN128 (show 6 ≤ 6 by omega); have h2 := (upTo_all ⟨N, hN128⟩ ⟨6, by omega⟩).2; rw [this, List.length_append]; split <;> simp at * <;> omega
        have t0 := cell_of_blk (i := 0) HT.out rfl
        have t1 := cell_of_blk (i := 1) HT.out rfl
        have HL7 := Lib.hid hl7
        generalize upTo N 7 = L at *
        clear h1 hlt hk hl7
        go_wp2
        refine bodyPost_ret (v := .agg #[.int .i64 7, .slice none 0 0, .slice A L.length c]) (by simp [results, Tryd.results48, go_sem, r0, r1, r2]) rfl ?_
        have hown := own_set_ne (own_set_ne (own_set_ne HO.out (a := ⟨g, 0, none⟩) (by simp) (.int .i64 7)) (a := ⟨g, 1, none⟩) (by simp) (.slice none 0 0)) (a := ⟨g, 2, none⟩) (by simp) (.slice A L.length c)
        have hm := many_in hown HL7.out
        refine ⟨.mk 7 none 0 [] A c (L.map leaf), by simp [LTy.val, LTy.kind, LTy.A, LTy.ns, LTy.c, LTy.A2, LTy.xs, LTy.c2], fun w2 h2 => (many_in (own_same hown (fun b hb hlt => h2.1 b (.inr (by omega)) hlt)) HL7.out).1, by rw [hm.2, HE.out], ?_⟩
        exact (((HB.out.setCell (by simp; omega) _).setCell (by simp; omega) _).setCell (by simp; omega) _)
set_option maxRecDepth 100000 in
set_option maxHeartbeats 4000000 in
theorem tunion_any (x : Int) (w : World) : Calls Tryd.prog 17 #[.int .i64 x] w (RetT 0 (unionT (kindsN x)) w) := by
  rw [unionT_of (kindsN_lt x)]
  obtain ⟨g, hg⟩ : ∃ g, g = w.heap.size := ⟨_, rfl⟩
  obtain ⟨N, hN⟩ : ∃ N, N = kindsN x := ⟨_, rfl⟩
  have hc := fun w => tof_any x w
  rw [← hN] at hc ⊢
  have HC := Lib.hid hc
  clear hN hc
  obtain ⟨U, hU⟩ : ∃ U, U = (if (upTo N 7).length = 0 ∨ (upTo N 7).length = 6 then anyT else ofT N) := ⟨_, rfl⟩
  rw [← hU]
  have HU := Lib.hid hU
  clear hU
  have hz := heap_new_at w (.cells #[.int .i64 0, .slice none 0 0, .slice none 0 0] 26) g hg.symm
  have HZ := Lib.hid hz
  have HG := Lib.hid hg
  go_enter Tryd.func17, Tryd.ntmps17
  go_upto_region 1 with fail
  rw [← hg]
  clear hg hz
  go_wp2_with fail
  refine (HC.out _).mono ?_
  rintro e w1 ⟨r, rfl, hin, hst, hb1⟩
  have HR := Lib.hid (below_blk hb1 HZ.out)
  have HB := Lib.hid (((Below.refl _ w).alloc (Nat.le_refl _) (.cells #[.int .i64 0, .slice none 0 0, .slice none 0 0] 26)).trans (hb1.mono (by simp)))
  have HIN := Lib.hid hin
  have hin1 := hin w1 (Stays.refl _ _ _)
  have HST := Lib.hid hst
  have hgle : w.heap.size ≤ g := by rw [HG.out]; exact Nat.le_refl _
  have hl2 := hin1.n2.2
  unfold LTy.val
  clear hb1 hin hst hin1
  go_upto_region 2 with fail
  refine gen_wpT fun W hW => ?_
  obtain ⟨b, hbn⟩ : ∃ b, b = w1.heap.size := ⟨_, rfl⟩
  have lr1 := blk_lt HR.out
  have hgb : g < b := by omega
  rw [← hbn]
  have kt : TBox W b r := by rw [← hW]; exact heap_new_at _ _ _ hbn.symm
  have KR := Lib.hid (show W.heap[g]? = some (.cells #[.int .i64 0, .slice none 0 0, .slice none 0 0] 26 (0, 0)) by rw [← hW]; exact blk_alloc HR.out _)
  have KB := Lib.hid (show Below w.heap.size w W by rw [← hW]; exact HB.out.alloc HB.out.size _)
  have KW := Lib.hid (show (∀ b, b < w1.heap.size → W.heap[b]? = w1.heap[b]?) ∧ w1.heap.size ≤ W.heap.size by rw [← hW]; exact ⟨fun b hb => Below.heap_alloc _ _ _ hb, by simp⟩)
  have ktc0 := kt.c0
  have ktc1 := kt.c1
  have ktc2 := kt.c2
  have ktlt := kt.lt
  have r0 := cell_of_blk (i := 0) KR.out rfl
  have r1 := cell_of_blk (i := 1) KR.out rfl
  have r2 := cell_of_blk (i := 2) KR.out rfl
  have fr0 := free_of_blk (i := 0) KR.out
  have fr1 := free_of_blk (i := 1) KR.out
  have fr2 := free_of_blk (i := 2) KR.out
  have lr := blk_lt KR.out
  clear hW kt hbn
  by_cases h1 : (upTo N 7).length = 1
  · obtain ⟨a, ha⟩ : ∃ a, upTo N 7 = [a] := List.length_eq_one_iff.1 h1
    have ham := upTo_mem (show a ∈ upTo N 7 by rw [ha]; simp)
    have hrk : r.kind = a ∧ r.xs.length = 0 := by
      have := HST.out
      rw [ofT_one ha] at this
      refine ⟨by rw [← strip_kind, this]; rfl, by rw [← strip_len, this]; rfl⟩
    have e7 : (r.kind == 7) = false := beq_eq_false_iff_ne.2 (by omega)
    have e0 : ((r.xs.length : Int) == 0) = true := beq_iff_eq.2 (by omega)
    have e6 : ((r.xs.length : Int) == 6) = false := beq_eq_false_iff_ne.2 (by omega)
    have HE := Lib.hid (show strip r = U by rw [HU.out, if_neg (by omega)]; exact HST.out)
    clear h1 ha ham hrk
    go_wp2
    refine bodyPost_ret (v := .agg #[.int .i64 r.kind, .slice r.A r.ns.length r.c, .slice r.A2 r.xs.length r.c2]) (by simp [results, Tryd.results17, go_sem, r0, r1, r2]) rfl ?_
    refine ⟨r, rfl, ?_, HE.out, (((KB.out.setCell (by simp; omega) _).setCell (by simp; omega) _).setCell (by simp; omega) _)⟩
    intro w2 h2
    refine HIN.out w2 ⟨fun b hb hlt => ?_, Nat.le_trans KW.out.2 (Nat.le_trans (Nat.le_of_eq (set3_size W g _ _ _).symm) h2.2)⟩
    have hbg : g + 1 ≤ b := by rcases hb with hb | hb; omega; simp at hb; have := HG.out; omega
    exact ((h2.1 b (.inr (by omega)) (by rw [set3_size]; exact Nat.lt_of_lt_of_le hlt KW.out.2)).trans (set3_heap W g _ _ _ (by omega))).trans (KW.out.1 b hlt)
  · have hrk : r.kind = 7 ∧ r.xs.length = (upTo N 7).length := by
      have := HST.out
      rw [ofT_many h1] at this
      refine ⟨by rw [← strip_kind, this]; rfl, by rw [← strip_len, this]; simp [Ty.args]⟩
    have e7 : (r.kind == 7) = true := beq_iff_eq.2 hrk.1
    by_cases h06 : (upTo N 7).length = 0 ∨ (upTo N 7).length = 6
    · have HAY := Lib.hid (show U = .mk 0 [] [] by rw [HU.out, if_pos h06]; rfl)
      have hor : ((((r.xs.length : Int) == 0) = true) ∨ (((r.xs.length : Int) == 0) = false ∧ ((r.xs.length : Int) == 6) = true)) := by
        rcases h06 with h | h
        · exact .inl (beq_iff_eq.2 (by omega))
        · exact .inr ⟨beq_eq_false_iff_ne.2 (by omega), beq_iff_eq.2 (by omega)⟩
      clear h1 hrk h06
      rcases hor with e0 | ⟨e0, e6⟩
      · go_wp2
        refine bodyPost_ret (v := .agg #[.int .i64 0, .slice none 0 0, .slice none 0 0]) (by simp [results, Tryd.results17, go_sem, r0, r1, r2]) rfl ?_
        refine ⟨leaf 0, rfl, fun _ _ => leaf_in _ _ _, by rw [strip_leaf, HAY.out], ?_⟩
        exact (((KB.out.setCell (by simp; omega) _).setCell (by simp; omega) _).setCell (by simp; omega) _)
      · go_wp2
        refine bodyPost_ret (v := .agg #[.int .i64 0, .slice none 0 0, .slice none 0 0]) (by simp [results, Tryd.results17, go_sem, r0, r1, r2]) rfl ?_
        refine ⟨leaf 0, rfl, fun _ _ => leaf_in _ _ _, by rw [strip_leaf, HAY.out], ?_⟩
        exact (((KB.out.setCell (by simp; omega) _).setCell (by simp; omega) _).setCell (by simp; omega) _)
    · have e0 : ((r.xs.length : Int) == 0) = false := beq_eq_false_iff_ne.2 (by omega)
      have e6 : ((r.xs.length : Int) == 6) = false := beq_eq_false_iff_ne.2 (by omega)
      have HE := Lib.hid (show strip r = U by rw [HU.out, if_neg h06]; exact HST.out)
      clear h1 hrk h06
      go_wp2
      refine bodyPost_ret (v := .agg #[.int .i64 r.kind, .slice r.A r.ns.length r.c, .slice r.A2 r.xs.length r.c2]) (by simp [results, Tryd.results17, go_sem, r0, r1, r2]) rfl ?_
      refine ⟨r, rfl, ?_, HE.out, (((KB.out.setCell (by simp; omega) _).setCell (by simp; omega) _).setCell (by simp; omega) _)⟩
      intro w2 h2
      refine HIN.out w2 ⟨fun b hb hlt => ?_, Nat.le_trans KW.out.2 (Nat.le_trans (Nat.le_of_eq (set3_size W g _ _ _).symm) h2.2)⟩
      have hbg : g + 1 ≤ b := by rcases hb with hb | hb; omega; simp at hb; have := HG.out; omega
      exact ((h2.1 b (.inr (by omega)) (by rw [set3_size]; exact Nat.lt_of_lt_of_le hlt KW.out.2)).trans (set3_heap W g _ _ _ (by omega))).trans (KW.out.1 b hlt)
set_option maxRecDepth 100000 in
set_option maxHeartbeats 4000000 in
theorem runion_any (x : Int) (w : World) : Calls Tryd.prog 19 #[.int .i64 x] w (RetT 0 (unionT (kindsN x)) w) := by
  rw [unionT_of (kindsN_lt x)]
  obtain ⟨g, hg⟩ : ∃ g, g = w.heap.size := ⟨_, rfl⟩
  obtain ⟨N, hN⟩ : ∃ N, N = kindsN x := ⟨_, rfl⟩
  have hc := fun w => rmade_any x w
  rw [← hN] at hc ⊢
  have HC := Lib.hid hc
  clear hN hc
  obtain ⟨U, hU⟩ : ∃ U, U = (if (upTo N 7).length = 0 ∨ (upTo N 7).length = 6 then anyT else ofT N) := ⟨_, rfl⟩
  rw [← hU]
  have HU := Lib.hid hU
  clear hU
  have hz := heap_new_at w (.cells #[.int .i64 0, .slice none 0 0, .slice none 0 0] 26) g hg.symm
  have HZ := Lib.hid hz
  have HG := Lib.hid hg
  go_enter Tryd.func19, Tryd.ntmps19
  go_upto_region 1 with fail
  rw [← hg]
  clear hg hz
  go_wp2_with fail
  refine (HC.out _).mono ?_
  rintro e w1 ⟨r, rfl, hin, hst, hb1⟩
  have HR := Lib.hid (below_blk hb1 HZ.out)
  have HB := Lib.hid (((Below.refl _ w).alloc (Nat.le_refl _) (.cells #[.int .i64 0, .slice none 0 0, .slice none 0 0] 26)).trans (hb1.mono (by simp)))
  have HIN := Lib.hid hin
  have hin1 := hin w1 (Stays.refl _ _ _)
  have HST := Lib.hid hst
  have hgle : w.heap.size ≤ g := by rw [HG.out]; exact Nat.le_refl _
  have hl2 := hin1.n2.2
  unfold LTy.val
  clear hb1 hin hst hin1
  go_upto_region 2 with fail
  refine gen_wpT fun W hW => ?_
  obtain ⟨b, hbn⟩ : ∃ b, b = w1.heap.size := ⟨_, rfl⟩
  have lr1 := blk_lt HR.out
  have hgb : g < b := by omega
  rw [← hbn]
  have kt : TBox W b r := by rw [← hW]; exact heap_new_at _ _ _ hbn.symm
  have KR := Lib.hid (show W.heap[g]? = some (.cells #[.int .i64 0, .slice none 0 0, .slice none 0 0] 26 (0, 0)) by rw [← hW]; exact blk_alloc HR.out _)
  have KB := Lib.hid (show Below w.heap.size w W by rw [← hW]; exact HB.out.alloc HB.out.size _)
  have KW := Lib.hid (show (∀ b, b < w1.heap.size → W.heap[b]? = w1.heap[b]?) ∧ w1.heap.size ≤ W.heap.size by rw [← hW]; exact ⟨fun b hb => Below.heap_alloc _ _ _ hb, by simp⟩)
  have ktc0 := kt.c0
  have ktc1 := kt.c1
  have ktc2 := kt.c2
  have ktlt := kt.lt
  have r0 := cell_of_blk (i := 0) KR.out rfl
  have r1 := cell_of_blk (i := 1) KR.out rfl
  have r2 := cell_of_blk (i := 2) KR.out rfl
  have fr0 := free_of_blk (i := 0) KR.out
  have fr1 := free_of_blk (i := 1) KR.out
  have fr2 := free_of_blk (i := 2) KR.out
  have lr := blk_lt KR.out
  clear hW kt hbn
  by_cases h1 : (upTo N 7).length = 1
  · obtain ⟨a, ha⟩ : ∃ a, upTo N 7 = [a] := List.length_eq_one_iff.1 h1
    have ham := upTo_mem (show a ∈ upTo N 7 by rw [ha]; simp)
    have hrk : r.kind = a ∧ r.xs.length = 0 := by
      have := HST.out
      rw [ofT_one ha] at this
      refine ⟨by rw [← strip_kind, this]; rfl, by rw [← strip_len, this]; rfl⟩
    have e7 : (r.kind == 7) = false := beq_eq_false_iff_ne.2 (by omega)
    have e0 : ((r.xs.length : Int) == 0) = true := beq_iff_eq.2 (by omega)
    have e6 : ((r.xs.length : Int) == 6) = false := beq_eq_false_iff_ne.2 (by omega)
    have HE := Lib.hid (show strip r = U by rw [HU.out, if_neg (by omega)]; exact HST.out)
    clear h1 ha ham hrk
    go_wp2
    refine bodyPost_ret (v := .agg #[.int .i64 r.kind, .slice r.A r.ns.length r.c, .slice r.A2 r.xs.length r.c2]) (by simp [results, Tryd.results19, go_sem, r0, r1, r2]) rfl ?_
    refine ⟨r, rfl, ?_, HE.out, (((KB.out.setCell (by simp; omega) _).setCell (by simp; omega) _).setCell (by simp; omega) _)⟩
    intro w2 h2
    refine HIN.out w2 ⟨fun b hb hlt => ?_, Nat.le_trans KW.out.2 (Nat.le_trans (Nat.le_of_eq (set3_size W g _ _ _).symm) h2.2)⟩
    have hbg : g + 1 ≤ b := by rcases hb with hb | hb; omega; simp at hb; have := HG.out; omega
    exact ((h2.1 b (.inr (by omega)) (by rw [set3_size]; exact Nat.lt_of_lt_of_le hlt KW.out.2)).trans (set3_heap W g _ _ _ (by omega))).trans (KW.out.1 b hlt)
  · have hrk : r.kind = 7 ∧ r.xs.length = (upTo N 7).length := by
      have := HST.out
      rw [ofT_many h1] at this
      refine ⟨by rw [← strip_kind, this]; rfl, by rw [← strip_len, this]; simp [Ty.args]⟩
    have e7 : (r.kind == 7) = true := beq_iff_eq.2 hrk.1
    by_cases h06 : (upTo N 7).length = 0 ∨ (upTo N 7).length = 6
    · have HAY := Lib.hid (show U = .mk 0 [] [] by rw [HU.out, if_pos h06]; rfl)
      have hor : ((((r.xs.length : Int) == 0) = true) ∨ (((r.xs.length : Int) == 0) = false ∧ ((r.xs.length : Int) == 6) = true)) := by
        rcases h06 with h | h
        · exact .inl (beq_iff_eq.2 (by omega))
        · exact .inr ⟨beq_eq_false_iff_ne.2 (by omega), beq_iff_eq.2 (by omega)⟩
      clear h1 hrk h06
      rcases hor with e0 | ⟨e0, e6⟩
      · go_wp2
        refine bodyPost_ret (v := .agg #[.int .i64 0, .slice none 0 0, .slice none 0 0]) (by simp [results, Tryd.results19, go_sem, r0, r1, r2]) rfl ?_
        refine ⟨leaf 0, rfl, fun _ _ => leaf_in _ _ _, by rw [strip_leaf, HAY.out], ?_⟩
        exact (((KB.out.setCell (by simp; omega) _).setCell (by simp; omega) _).setCell (by simp; omega) _)
      · go_wp2
        refine bodyPost_ret (v := .agg #[.int .i64 0, .slice none 0 0, .slice none 0 0]) (by simp [results, Tryd.results19, go_sem, r0, r1, r2]) rfl ?_
        refine ⟨leaf 0, rfl, fun _ _ => leaf_in _ _ _, by rw [strip_leaf, HAY.out], ?_⟩
        exact (((KB.out.setCell (by simp; omega) _).setCell (by simp; omega) _).setCell (by simp; omega) _)
    · have e0 : ((r.xs.length : Int) == 0) = false := beq_eq_false_iff_ne.2 (by omega)
      have e6 : ((r.xs.length : Int) == 6) = false := beq_eq_false_iff_ne.2 (by omega)
      have HE := Lib.hid (show strip r = U by rw [HU.out, if_neg h06]; exact HST.out)
      clear h1 hrk h06
      go_wp2
      refine bodyPost_ret (v := .agg #[.int .i64 r.kind, .slice r.A r.ns.length r.c, .slice r.A2 r.xs.length r.c2]) (by simp [results, Tryd.results19, go_sem, r0, r1, r2]) rfl ?_
      refine ⟨r, rfl, ?_, HE.out, (((KB.out.setCell (by simp; omega) _).setCell (by simp; omega) _).setCell (by simp; omega) _)⟩
      intro w2 h2
      refine HIN.out w2 ⟨fun b hb hlt => ?_, Nat.le_trans KW.out.2 (Nat.le_trans (Nat.le_of_eq (set3_size W g _ _ _).symm) h2.2)⟩
      have hbg : g + 1 ≤ b := by rcases hb with hb | hb; omega; simp at hb; have := HG.out; omega
      exact ((h2.1 b (.inr (by omega)) (by rw [set3_size]; exact Nat.lt_of_lt_of_le hlt KW.out.2)).trans (set3_heap W g _ _ _ (by omega))).trans (KW.out.1 b hlt)
end Go.Proofs.YtllpicibncdppaaDoor
