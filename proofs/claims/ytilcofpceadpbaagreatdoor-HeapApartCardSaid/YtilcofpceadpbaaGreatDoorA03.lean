/-
 HeapApart: part 3 of what the claim rests on.
-/
import Derived.Test.YtilcofpceadpbaaGreatDoorProg
import Derived.Test.YtilcofpceadpbaaGreatDoorA01
import Derived.Defers
import Derived.Recover
import Derived.Maps.OwnSet
import Derived.Maps.Keyed
import Derived.Maps.AppendAt
import Derived.Lib.Hide
import Derived.Shelf.Strconv.Itoa0
import Derived.Shelf.Strconv.Itoa1
import Derived.Shelf.LaysM
import Derived.Shelf.Strconv.Itoa2
import Derived.Shelf.Strconv.Itoa3
import Derived.Shelf.Strconv.Itoa4
import Derived.Shelf.Strings.Fields
import Derived.Shelf.Strings.SplitShaped
import Derived.Shelf.Unicode.Latin
import Derived.Shelf.Unicode.Is16White
import Derived.Shelf.Unicode.IsSpaceAny
import Derived.Shelf.Unicode.Is16WhiteD
import Derived.Shelf.Unicode.IsSpaceAnyD
import Derived.Shelf.Strings.FieldsAny
import Derived.Shelf.Strings.FieldsFuncAny
import Derived.Shelf.Unicode.Is16Any
import Derived.Shelf.Unicode.Is32Any
import Derived.Shelf.Unicode.ExclAny
import Derived.Shelf.Strings.FieldsFuncGrows
import Derived.Shelf.Slices.Equal
import Derived.Ground.Names2Prog
import Derived.Shelf.Slices.Clone
import Derived.Shelf.Slices.Empties2
import Derived.Lib.AppendIntMem
set_option linter.unusedVariables false
set_option linter.unusedSimpArgs false
set_option maxHeartbeats 64000000
namespace Go.Proofs.YtilcofpceadpbaaGreatDoor
open Go.ChangeShapes Go.WideShapes Go.ChangeAt Go.RowKit

theorem gen_wpT {P : Program} {Q : Exit → Act → World → Prop} {c : Code} {a : Act} {w : World} (h : ∀ W, w = W → c.wp P Q a W) : c.wp P Q a w := h w rfl
def wrongV (a n : Int) : List PanicEntry := [{ v := .iface 168 (.agg #[.int .i64 a, .int .i64 n]), recovered := false }]
theorem tmust_ok (a : Int) (w : World) : Calls Tryz.prog 111 #[.bool true, .int .i64 a] w fun e w' => e = .returned (.tuple #[]) ∧ w = w' := by
 go_enter Tryz.func111, Tryz.ntmps111
 go_wp2
 go_end0
 exact ⟨rfl, rfl⟩
theorem tmust_no (a : Int) (w : World) : Calls Tryz.prog 111 #[.bool false, .int .i64 a] w fun e w' => e = .panicked (wrongV a 90) ∧ w = w' := by
 go_enter Tryz.func111, Tryz.ntmps111
 go_wp2
 exact ⟨rfl, rfl, rfl⟩
set_option maxRecDepth 100000 in
theorem grec_idle (g : Nat) (w : World) (hg : g + 1 < w.heap.size) :
  CallsD Tryz.prog 126 #[.pointer (some ⟨g, 0, none⟩), .pointer (some ⟨g + 1, 0, none⟩)] .returning w fun e u' w' =>
   e = .returned (.tuple #[]) ∧ u' = .returning ∧ w = w' := by
 refine callsD_of_wpS Tryz.func126 rfl fun c₀ cs hu => ?_
 apply wpS_seq
 apply wpS_region
 simp [wpOpsS, go_sem, recoverD, hu, Tryz.ntmps126, Exit.thenS, Array.replicate, List.replicate]
 refine wpS_of_wp ?_
 go_wp2
 simp [bodyPostS, results, Tryz.results126]
 cases c₀; cases hu; rfl
set_option maxRecDepth 100000 in
theorem grec_panic (g : Nat) (x y a n : Int) (w : World) (h0 : w.heap[g]? = some (.cells #[.int .i64 x] 3 (0, 0))) (h1 : w.heap[g + 1]? = some (.cells #[.int .i64 y] 47 (0, 0))) :
  CallsD Tryz.prog 126 #[.pointer (some ⟨g, 0, none⟩), .pointer (some ⟨g + 1, 0, none⟩)] (.panicking ({ v := .iface 168 (.agg #[.int .i64 a, .int .i64 n]), recovered := false } :: [])) w fun e u' w' =>
   e = .returned (.tuple #[]) ∧ u' = .panicking ({ v := .iface 168 (.agg #[.int .i64 a, .int .i64 n]), recovered := true } :: []) ∧ w'.heap[g]? = some (.cells #[.int .i64 a] 3 (0, 0)) ∧ w'.heap[g + 1]? = some (.cells #[.int .i64 n] 47 (0, 0)) ∧ Fr [g, g + 1] w w' := by
 have hta : ∀ w, (Instr.typeAssert (.iface 168 (.agg #[.int .i64 a, .int .i64 n])) 20 168 true).run Tryz.prog w = .ok (.tuple #[.agg #[.int .i64 a, .int .i64 n], .bool true]) w := fun w => by kernel_rfl
 have H0 := Lib.hid h0
 have H1 := Lib.hid h1
 clear h0 h1
 refine callsD_of_wpS Tryz.func126 rfl fun c₀ cs hu => ?_
 apply wpS_seq
 apply wpS_region
 simp [wpOpsS, go_sem, recoverD, hu, Tryz.ntmps126, Exit.thenS, Array.replicate, List.replicate]
 refine wpS_of_wp ?_
 go_wp2
 refine gen_wpT fun W hW => ?_
 have k0 : W.heap[g]? = some (.cells #[.int .i64 x] 3 (0, 0)) := by rw [← hW]; exact blk_alloc H0.out _
 have k1 : W.heap[g + 1]? = some (.cells #[.int .i64 y] 47 (0, 0)) := by rw [← hW]; exact blk_alloc H1.out _
 have kT : W.heap[w.heap.size]? = some (.cells #[.int .i64 a, .int .i64 n] 168 (0, 0)) := by rw [← hW]; exact heap_new_at _ _ _ rfl
 have kW : Fr [g, g + 1] w W := by rw [← hW]; exact (Fr.refl _ _).alloc _
 clear hW
 have t0 : W.cell? ⟨w.heap.size, 0, none⟩ = some (.int .i64 a) := cell_of_blk kT rfl
 have t1 : W.cell? ⟨w.heap.size, 1, none⟩ = some (.int .i64 n) := cell_of_blk kT rfl
 have v0 : W.cell? ⟨g, 0, none⟩ = some (.int .i64 x) := cell_of_blk k0 rfl
 have v1 : W.cell? ⟨g + 1, 0, none⟩ = some (.int .i64 y) := cell_of_blk k1 rfl
 have f0 : W.frozen? ⟨g, 0, none⟩ = false := free_of_blk k0
 have f1 : W.frozen? ⟨g + 1, 0, none⟩ = false := free_of_blk k1
 have l0 := blk_lt H0.out
 have l1 := blk_lt H1.out
 have hn1 : w.heap.size ≠ g := by omega
 have hn2 : w.heap.size ≠ g + 1 := by omega
 have K0 := Lib.hid k0
 have K1 := Lib.hid k1
 have KW := Lib.hid kW
 clear k0 k1 kT kW
 go_region
 have hR : (((W.setCell ⟨g, 0, none⟩ (.int .i64 a)).setCell ⟨g + 1, 0, none⟩ (.int .i64 n)).drew).heap[g]? = some (.cells #[.int .i64 a] 3 (0, 0)) ∧ (((W.setCell ⟨g, 0, none⟩ (.int .i64 a)).setCell ⟨g + 1, 0, none⟩ (.int .i64 n)).drew).heap[g + 1]? = some (.cells #[.int .i64 n] 47 (0, 0)) ∧ Fr [g, g + 1] w (((W.setCell ⟨g, 0, none⟩ (.int .i64 a)).setCell ⟨g + 1, 0, none⟩ (.int .i64 n)).drew) :=
  ⟨blk_drew (blk_far (blk_set (i := 0) K0.out _) (by simp) _), blk_drew (blk_set (i := 0) (blk_far K1.out (by simp) _) _), ((KW.out.set _ (.inl (by simp))).set _ (.inl (by simp))).drew⟩
 have HR := Lib.hid hR
 clear hR
 change bodyPostS Tryz.prog Tryz.f126 _ _ _ _ _ _ _
 simp [bodyPostS, results, Tryz.results126]
 first | exact HR.out | exact ⟨_, by cases c₀; cases hu; rfl, rfl, HR.out⟩

def GuardOk (P : World → Prop) (g : Nat) (e : Ending) (w' : World) : Prop := e = .returned (.tuple #[.int .i64 0, .int .i64 0]) ∧ ∃ w2, P w2 ∧ Fr [g, g + 1] w2 w'
set_option maxRecDepth 100000 in
theorem guarded_ok (f : Nat) (cap : Array Value) (w : World) (P : World → Prop) (S : List Nat) (hS : ∀ b ∈ S, b < w.heap.size)
  (hdo : ∀ w1, w1 = (w.alloc (.cells #[.int .i64 0] 3)).alloc (.cells #[.int .i64 0] 47) → Calls Tryz.prog f cap w1 fun e w2 => e = .returned (.tuple #[]) ∧ Fr S w1 w2 ∧ P w2)
  (hcall : ∀ W, (callFunc f cap).run Tryz.prog W = .ok (.enter f cap) W) :
  Calls Tryz.prog 114 #[.func (.func f) #[] cap] w (GuardOk P w.heap.size) := by
 have HD := Lib.hid hdo
 clear hdo
 go_enter_defers Tryz.func114, Tryz.ntmps114
 go_wp2_with fail
 refine (HD.out _ rfl).mono ?_
 rintro e w1 ⟨rfl, hf, hp⟩
 have k0 := hf.blk (blk_alloc (heap_new_at w (.cells #[.int .i64 0] 3) _ rfl) (.cells #[.int .i64 0] 47)) (fun h => by have := hS _ h; omega)
 have k1 := hf.blk (heap_new_at (w.alloc (.cells #[.int .i64 0] 3)) (.cells #[.int .i64 0] 47) (w.heap.size + 1) (by simp)) (fun h => by have := hS _ h; omega)
 have f0 := free_of_blk (i := 0) k0
 have f1 := free_of_blk (i := 0) k1
 have v0 := cell_of_blk (i := 0) k0 rfl
 have v1 := cell_of_blk (i := 0) k1 rfl
 have l1 := blk_lt k1
 have K0 := Lib.hid k0
 have K1 := Lib.hid k1
 have HP := Lib.hid hp
 clear k0 k1 hp hf
 go_wp2
 refine leaves_cons (f := 126) (args := #[.pointer (some ⟨w.heap.size, 0, none⟩), .pointer (some ⟨w.heap.size + 1, 0, none⟩)]) (by simp) (by simp [go_sem]) ?_
 refine (grec_idle w.heap.size _ (by simp [World.setCell]; omega)).mono ?_
 rintro e u' w'' ⟨rfl, rfl, rfl⟩
 have j0 := cell_of_blk (i := 0) (blk_far (blk_set (i := 0) K0.out (.int .i64 0)) (a := ⟨w.heap.size + 1, 0, none⟩) (by simp) (.int .i64 0)) rfl
 have j1 := cell_of_blk (i := 0) (blk_set (i := 0) (blk_far K1.out (a := ⟨w.heap.size, 0, none⟩) (by simp) (.int .i64 0)) (.int .i64 0)) rfl
 simp [Leaves, settle, results, Tryz.results114, go_sem, j0, j1]
 exact ⟨rfl, w1, HP.out, ((Fr.refl _ _).set _ (.inl (by simp))).set _ (.inl (by simp))⟩
def GuardNo (a n : Int) (P : World → Prop) (g : Nat) (e : Ending) (w' : World) : Prop := e = .returned (.tuple #[.int .i64 a, .int .i64 n]) ∧ ∃ w2, P w2 ∧ Fr [g, g + 1] w2 w'
set_option maxRecDepth 100000 in
theorem guarded_no (a n : Int) (f : Nat) (cap : Array Value) (w : World) (P : World → Prop) (S : List Nat) (hS : ∀ b ∈ S, b < w.heap.size)
  (hdo : ∀ w1, w1 = (w.alloc (.cells #[.int .i64 0] 3)).alloc (.cells #[.int .i64 0] 47) → Calls Tryz.prog f cap w1 fun e w2 => e = .panicked (wrongV a n) ∧ Fr S w1 w2 ∧ P w2)
  (hcall : ∀ W, (callFunc f cap).run Tryz.prog W = .ok (.enter f cap) W) :
  Calls Tryz.prog 114 #[.func (.func f) #[] cap] w (GuardNo a n P w.heap.size) := by
 have HD := Lib.hid hdo
 clear hdo
 go_enter_defers Tryz.func114, Tryz.ntmps114
 go_wp2_with fail
 refine (HD.out _ rfl).mono ?_
 rintro e w1 ⟨rfl, hf, hp⟩
 have k0 := hf.blk (blk_alloc (heap_new_at w (.cells #[.int .i64 0] 3) _ rfl) (.cells #[.int .i64 0] 47)) (fun h => by have := hS _ h; omega)
 have k1 := hf.blk (heap_new_at (w.alloc (.cells #[.int .i64 0] 3)) (.cells #[.int .i64 0] 47) (w.heap.size + 1) (by simp)) (fun h => by have := hS _ h; omega)
 have l1 := blk_lt k1
 have K0 := Lib.hid k0
 have K1 := Lib.hid k1
 have HP := Lib.hid hp
 clear k0 k1 hp hf
 unfold wrongV
 go_wp2
 refine leaves_cons (f := 126) (args := #[.pointer (some ⟨w.heap.size, 0, none⟩), .pointer (some ⟨w.heap.size + 1, 0, none⟩)]) (by simp) (by simp [go_sem]) ?_
 refine (grec_panic w.heap.size 0 0 a n _ K0.out K1.out).mono ?_
 rintro e u' w'' ⟨rfl, rfl, h0, h1, hF⟩
 have j0 := cell_of_blk (i := 0) h0 rfl
 have j1 := cell_of_blk (i := 0) h1 rfl
 simp [Leaves, settle, results, Tryz.results114, go_sem, j0, j1]
 exact ⟨rfl, w1, HP.out, hF⟩
end Go.Proofs.YtilcofpceadpbaaGreatDoor
namespace Go.Proofs.YtilcofpceadpbaaGreatDoor
open Go.ChangeShapes Go.WideShapes Go.ChangeAt Go.RowKit Go.Maps

theorem lawS : Keyed Tryz.prog 9 := string_keyed Tryz.underlying9
theorem name_key {nm : ByteArray} (hs : nm.size ≤ maxLen) : keyOf Tryz.prog 9 (.string nm) = some (.string nm.data.toList) := by
 rw [keyOf_string Tryz.underlying9]
 simp [mapKey, Tryz.underlying9, hs]
theorem or32_all : ∀ c : Fin 256, bits .or .u8 (c.1 : Int) 32 = ((c.1 ||| 32 : Nat) : Int) ∧ ((97 ≤ c.1 ||| 32 ∧ c.1 ||| 32 ≤ 122) ↔ (97 ≤ c.1 ∧ c.1 ≤ 122) ∨ (65 ≤ c.1 ∧ c.1 ≤ 90)) := by decide +kernel
theorem or32 (c : Nat) (hc : c < 256) : ∃ o : Nat, bits .or .u8 (c : Int) 32 = (o : Int) ∧ ((97 ≤ o ∧ o ≤ 122) ↔ (97 ≤ c ∧ c ≤ 122) ∨ (65 ≤ c ∧ c ≤ 90)) := ⟨_, or32_all ⟨c, hc⟩⟩
theorem digits_any (c : Nat) (w : World) (hc : c < 256) : Calls Tryz.prog 123 #[.int .u8 (c : Int)] w (Ret (.bool (digitN c)) w) := by
 go_enter Tryz.func123, Tryz.ntmps123
 go_wp2
 all_goals
  go_ret
  refine ⟨ret_bool ?_, rfl⟩
  rw [Bool.eq_iff_iff]
  simp [digitN]
  try omega
theorem part_any (c : Nat) (w : World) (hc : c < 256) : Calls Tryz.prog 125 #[.int .u8 (c : Int)] w (Ret (.bool (partN c)) w) := by
 obtain ⟨o, ho, hoo⟩ := or32 c hc
 have HO := Lib.hid hoo
 clear hoo
 go_enter Tryz.func125, Tryz.ntmps125
 go_wp2
 all_goals
  go_ret
  refine ⟨ret_bool ?_, rfl⟩
  have hoo := HO.out
  clear HO
  try simp only [ho]
  rw [Bool.eq_iff_iff]
  simp [partN, letterN, digitN]
  try omega
theorem rletter_any (c : Nat) (w : World) (hc : c < 256) : Calls Tryz.prog 127 #[.int .u8 (c : Int)] w (Ret (.bool (letterN c)) w) := by
 go_enter Tryz.func127, Tryz.ntmps127
 go_wp2
 all_goals
  go_ret
  refine ⟨ret_bool ?_, rfl⟩
  rw [Bool.eq_iff_iff]
  simp [letterN]
  try omega
theorem rpart_any (c : Nat) (w : World) (hc : c < 256) : Calls Tryz.prog 129 #[.int .u8 (c : Int)] w (Ret (.bool (partN c)) w) := by
 have h := fun w => rletter_any c w hc
 have H := Lib.hid h
 clear h
 cases hl : letterN c
 all_goals
  rw [hl] at H
  go_enter Tryz.func129, Tryz.ntmps129
  go_wp2_with (go_at_call 127; refine (H.out _).mono ?_; rintro e w1 ⟨rfl, rfl⟩)
 all_goals
  go_ret
  refine ⟨ret_bool ?_, rfl⟩
  rw [Bool.eq_iff_iff]
  simp [partN, hl, digitN]
  try omega
theorem ne_word {s c : ByteArray} {l : List UInt8} (h : ¬ s = c) (hl : c.data.toList = l) : (s.toList == l) = false := by
 rw [beq_eq_false_iff_ne]
 intro e
 rw [← hl, ByteArray.toList_eq] at e
 exact h (ByteArray.ext (Array.toList_inj.1 e))
set_option maxRecDepth 100000 in
theorem rword_any (s : ByteArray) (w : World) : Calls Tryz.prog 128 #[.string s] w (Ret (.bool (tb (s ∈ wordsL))) w) := by
 by_cases h0 : s = ⟨#[97, 110, 100]⟩
 ·subst h0
  rw [tb_true (by simp [wordsL])]
  go_enter Tryz.func128, Tryz.ntmps128
  go_wp2
  go_ret
  exact ⟨rfl, rfl⟩
 by_cases h1 : s = ⟨#[98, 114, 101, 97, 107]⟩
 ·subst h1
  rw [tb_true (by simp [wordsL])]
  go_enter Tryz.func128, Tryz.ntmps128
  go_wp2
  go_ret
  exact ⟨rfl, rfl⟩
 by_cases h2 : s = ⟨#[99, 104, 97, 110, 110, 101, 108]⟩
 ·subst h2
  rw [tb_true (by simp [wordsL])]
  go_enter Tryz.func128, Tryz.ntmps128
  go_wp2
  go_ret
  exact ⟨rfl, rfl⟩
 by_cases h3 : s = ⟨#[100, 111]⟩
 ·subst h3
  rw [tb_true (by simp [wordsL])]
  go_enter Tryz.func128, Tryz.ntmps128
  go_wp2
  go_ret
  exact ⟨rfl, rfl⟩
 by_cases h4 : s = ⟨#[101, 108, 115, 101]⟩
 ·subst h4
  rw [tb_true (by simp [wordsL])]
  go_enter Tryz.func128, Tryz.ntmps128
  go_wp2
  go_ret
  exact ⟨rfl, rfl⟩
 by_cases h5 : s = ⟨#[101, 108, 115, 101, 105, 102]⟩
 ·subst h5
  rw [tb_true (by simp [wordsL])]
  go_enter Tryz.func128, Tryz.ntmps128
  go_wp2
  go_ret
  exact ⟨rfl, rfl⟩
 by_cases h6 : s = ⟨#[101, 110, 100]⟩
 ·subst h6
  rw [tb_true (by simp [wordsL])]
  go_enter Tryz.func128, Tryz.ntmps128
  go_wp2
  go_ret
  exact ⟨rfl, rfl⟩
 by_cases h7 : s = ⟨#[102, 97, 108, 115, 101]⟩
 ·subst h7
  rw [tb_true (by simp [wordsL])]
  go_enter Tryz.func128, Tryz.ntmps128
  go_wp2
  go_ret
  exact ⟨rfl, rfl⟩
 by_cases h8 : s = ⟨#[102, 117, 110, 99, 116, 105, 111, 110]⟩
 ·subst h8
  rw [tb_true (by simp [wordsL])]
  go_enter Tryz.func128, Tryz.ntmps128
  go_wp2
  go_ret
  exact ⟨rfl, rfl⟩
 by_cases h9 : s = ⟨#[105, 102]⟩
 ·subst h9
  rw [tb_true (by simp [wordsL])]
  go_enter Tryz.func128, Tryz.ntmps128
  go_wp2
  go_ret
  exact ⟨rfl, rfl⟩
 by_cases h10 : s = ⟨#[108, 111, 99, 97, 108]⟩
 ·subst h10
  rw [tb_true (by simp [wordsL])]
  go_enter Tryz.func128, Tryz.ntmps128
  go_wp2
  go_ret
  exact ⟨rfl, rfl⟩
 by_cases h11 : s = ⟨#[110, 105, 108]⟩
 ·subst h11
  rw [tb_true (by simp [wordsL])]
  go_enter Tryz.func128, Tryz.ntmps128
  go_wp2
  go_ret
  exact ⟨rfl, rfl⟩
 by_cases h12 : s = ⟨#[110, 111, 116]⟩
 ·subst h12
  rw [tb_true (by simp [wordsL])]
  go_enter Tryz.func128, Tryz.ntmps128
  go_wp2
  go_ret
  exact ⟨rfl, rfl⟩
 by_cases h13 : s = ⟨#[111, 114]⟩
 ·subst h13
  rw [tb_true (by simp [wordsL])]
  go_enter Tryz.func128, Tryz.ntmps128
  go_wp2
  go_ret
  exact ⟨rfl, rfl⟩
 by_cases h14 : s = ⟨#[114, 101, 116, 117, 114, 110]⟩
 ·subst h14
  rw [tb_true (by simp [wordsL])]
  go_enter Tryz.func128, Tryz.ntmps128
  go_wp2
  go_ret
  exact ⟨rfl, rfl⟩
 by_cases h15 : s = ⟨#[116, 104, 101, 110]⟩
 ·subst h15
  rw [tb_true (by simp [wordsL])]
  go_enter Tryz.func128, Tryz.ntmps128
  go_wp2
  go_ret
  exact ⟨rfl, rfl⟩
 by_cases h16 : s = ⟨#[116, 114, 117, 101]⟩
 ·subst h16
  rw [tb_true (by simp [wordsL])]
  go_enter Tryz.func128, Tryz.ntmps128
  go_wp2
  go_ret
  exact ⟨rfl, rfl⟩
 by_cases h17 : s = ⟨#[119, 104, 105, 108, 101]⟩
 ·subst h17
  rw [tb_true (by simp [wordsL])]
  go_enter Tryz.func128, Tryz.ntmps128
  go_wp2
  go_ret
  exact ⟨rfl, rfl⟩
 rw [tb_false (by simp [wordsL, h0, h1, h2, h3, h4, h5, h6, h7, h8, h9, h10, h11, h12, h13, h14, h15, h16, h17])]
 have e0 : (s.toList == [97, 110, 100]) = false := ne_word h0 rfl
 have e1 : (s.toList == [98, 114, 101, 97, 107]) = false := ne_word h1 rfl
 have e2 : (s.toList == [99, 104, 97, 110, 110, 101, 108]) = false := ne_word h2 rfl
 have e3 : (s.toList == [100, 111]) = false := ne_word h3 rfl
 have e4 : (s.toList == [101, 108, 115, 101]) = false := ne_word h4 rfl
 have e5 : (s.toList == [101, 108, 115, 101, 105, 102]) = false := ne_word h5 rfl
 have e6 : (s.toList == [101, 110, 100]) = false := ne_word h6 rfl
 have e7 : (s.toList == [102, 97, 108, 115, 101]) = false := ne_word h7 rfl
 have e8 : (s.toList == [102, 117, 110, 99, 116, 105, 111, 110]) = false := ne_word h8 rfl
 have e9 : (s.toList == [105, 102]) = false := ne_word h9 rfl
 have e10 : (s.toList == [108, 111, 99, 97, 108]) = false := ne_word h10 rfl
 have e11 : (s.toList == [110, 105, 108]) = false := ne_word h11 rfl
 have e12 : (s.toList == [110, 111, 116]) = false := ne_word h12 rfl
 have e13 : (s.toList == [111, 114]) = false := ne_word h13 rfl
 have e14 : (s.toList == [114, 101, 116, 117, 114, 110]) = false := ne_word h14 rfl
 have e15 : (s.toList == [116, 104, 101, 110]) = false := ne_word h15 rfl
 have e16 : (s.toList == [116, 114, 117, 101]) = false := ne_word h16 rfl
 have e17 : (s.toList == [119, 104, 105, 108, 101]) = false := ne_word h17 rfl
 clear h0 h1 h2 h3 h4 h5 h6 h7 h8 h9 h10 h11 h12 h13 h14 h15 h16 h17
 go_enter Tryz.func128, Tryz.ntmps128
 go_wp2
 go_ret
 exact ⟨rfl, rfl⟩
theorem byte_at {s : ByteArray} {k : Nat} (h : k < s.size) : s.data.toList[k]? = some s[k] := by
 rw [List.getElem?_eq_getElem (by simpa using h)]
 rfl
theorem name_no {s : ByteArray} {k : Nat} (h : k < s.size) (hp : partN s[k].toNat = false) : ¬ NameOk s := fun e => by
 have := e.2.1 _ (List.mem_of_getElem? (byte_at h))
 rw [hp] at this
 cases this
theorem name_yes {s : ByteArray} (h0 : 0 < s.size) (hw : s ∉ wordsL) (hl : letterN s[0].toNat = true) (hp : ∀ (j : Nat) (h : j < s.size), partN s[j].toNat = true) : NameOk s :=
 ⟨hw, fun c hc => by
  obtain ⟨j, hj⟩ := List.getElem?_of_mem hc
  have hlt : j < s.size := by have := (List.getElem?_eq_some_iff.1 hj).1; simpa using this
  rw [byte_at hlt] at hj
  rw [← Option.some.inj hj]
  exact hp j hlt, _, byte_at h0, hl⟩
set_option maxRecDepth 100000 in
theorem rname_any (s : ByteArray) (hs : s.size ≤ 140737488355328) (w : World) : Calls Tryz.prog 120 #[.string s] w (Ret (.bool (tb (NameOk s))) w) := by
 by_cases h0 : s.size = 0
 ·rw [tb_false (fun e => by
   obtain ⟨c, hc, _⟩ := e.2.2
   have h1 := (List.getElem?_eq_some_iff.1 hc).1
   have h2 : s.data.toList.length = s.size := by simp
   omega)]
  have hem : s = ByteArray.empty := by
   refine ByteArray.ext (Array.eq_empty_of_size_eq_zero ?_)
   exact h0
  subst hem
  go_enter Tryz.func120, Tryz.ntmps120
  go_wp2
  go_ret
  exact ⟨rfl, rfl⟩
 have hp0 : 0 < s.size := by omega
 have hne : (s.toList == []) = false := by
  rw [beq_eq_false_iff_ne, ByteArray.toList_eq]
  intro e
  have h1 : s.data.toList.length = 0 := by rw [e]; rfl
  have h2 : s.data.toList.length = s.size := by simp
  omega
 have hlet := fun w => rletter_any s[0].toNat w (UInt8.toNat_lt _)
 have hword := fun w => rword_any s w
 have hpart := fun (k : Nat) (h : k < s.size) w => rpart_any s[k].toNat w (UInt8.toNat_lt _)
 have HP := Lib.hid hpart
 have HW := Lib.hid hword
 have HL := Lib.hid hlet
 clear hpart hword hlet h0
 cases hl : letterN s[0].toNat
 ·rw [tb_false (fun e => by
   obtain ⟨c, hc, h1⟩ := e.2.2
   rw [byte_at hp0] at hc
   rw [← Option.some.inj hc, hl] at h1
   cases h1)]
  rw [hl] at HL
  clear hl
  go_enter Tryz.func120, Tryz.ntmps120
  go_wp2_with fail
  refine (HL.out _).mono ?_
  rintro e w1 ⟨rfl, rfl⟩
  go_wp2
  go_ret
  exact ⟨rfl, rfl⟩
 rw [hl] at HL
 by_cases hw : s ∈ wordsL
 ·rw [tb_false (fun e => e.1 hw)]
  rw [tb_true hw] at HW
  clear hl hw
  go_enter Tryz.func120, Tryz.ntmps120
  go_wp2_with fail
  refine (HL.out _).mono ?_
  rintro e w1 ⟨rfl, rfl⟩
  go_wp2_with fail
  refine (HW.out _).mono ?_
  rintro e w1 ⟨rfl, rfl⟩
  go_wp2
  go_ret
  exact ⟨rfl, rfl⟩
 rw [tb_false hw] at HW
 have HNW := Lib.hid hw
 have HLL := Lib.hid hl
 obtain ⟨ans, hans⟩ : ∃ ans, ans = tb (NameOk s) := ⟨_, rfl⟩
 rw [← hans]
 have HA := Lib.hid hans
 clear hl hw hans
 go_enter Tryz.func120, Tryz.ntmps120
 go_wp2_with fail
 refine (HL.out _).mono ?_
 rintro e w1 ⟨rfl, rfl⟩
 go_wp2_with fail
 refine (HW.out _).mono ?_
 rintro e w1 ⟨rfl, rfl⟩
 go_wp2_with fail
 go_loopw [3] (fun i wr => ∃ k : Nat, k ≤ s.size ∧ i = .int .i64 k ∧ Hid (∀ (j : Nat) (h : j < s.size), j < k → partN s[j].toNat = true) ∧ wr = w) (fun i _ => s.size - (intOf i).toNat)
 case atStart => exact ⟨0, by omega, rfl, Lib.hid (fun j h hj => by omega), rfl⟩
 case round =>
  obtain ⟨k, hk, rfl, HK, rfl⟩ := hrel
  by_cases hlt : k < s.size
  ·have hpk := fun w => HP.out k hlt w
   have hk' : (k : Int) < (s.size : Int) := by omega
   have hk0 : (0 : Int) ≤ k := by omega
   have HPk := Lib.hid hpk
   clear hpk
   cases hpp : partN s[k].toNat
   ·rw [hpp] at HPk
    have e : ans = false := by rw [HA.out]; exact tb_false (name_no hlt hpp)
    subst e
    clear hpp
    go_wp2_with fail
    refine (HPk.out _).mono ?_
    rintro e w1 ⟨rfl, rfl⟩
    go_wp2
    go_ret
    exact ⟨rfl, rfl⟩
   ·rw [hpp] at HPk
    have HK2 := Lib.hid (show ∀ (j : Nat) (h : j < s.size), j < k + 1 → partN s[j].toNat = true from fun j h hj => by
     rcases Nat.lt_or_ge j k with h1 | h1
     ·exact HK.out j h h1
     ·obtain rfl : j = k := by omega
      exact hpp)
    clear hpp
    go_wp2_with fail
    refine (HPk.out _).mono ?_
    rintro e w1 ⟨rfl, rfl⟩
    go_wp2_with fail
    go_roundw
    case rel => exact ⟨k + 1, by omega, by go_num, HK2, (by first | rfl | trivial)⟩
    case measure => simp [intOf]; omega
  ·obtain rfl : k = s.size := by omega
   have e : ans = true := by rw [HA.out]; exact tb_true (name_yes hp0 HNW.out HLL.out (fun j h => HK.out j h h))
   subst e
   go_wp2
   go_ret
   exact ⟨rfl, rfl⟩
end Go.Proofs.YtilcofpceadpbaaGreatDoor
namespace Go.Proofs
open Go.Shelf
def Tryz.laysM173_ren : Go.Shelf.Ren := ⟨fun | 173 => 106 | 246 => 122 | 283 => 130 | 284 => 131 | 285 => 132 | 286 => 133 | 129 => 136 | 317 => 135 | 318 => 137 | 319 => 138 | 320 => 139 | 337 => 142 | 338 => 143 | n => n, fun | 2 => 2 | 3 => 3 | 9 => 9 | 4 => 4 | 171 => 172 | 0 => 0 | 53 => 23 | 37 => 175 | 5 => 5 | 173 => 176 | 212 => 181 | 51 => 182 | 20 => 20 | 213 => 183 | 46 => 124 | 232 => 194 | 233 => 195 | n => n, fun | 17 => 0 | 18 => 3 | 19 => 4 | n => n⟩
theorem Tryz.laysM173 : Go.Proofs.LaysM.n173 Tryz.prog Tryz.laysM173_ren := {
 mixed := by kernel_rfl
 f129 := Tryz.func136.trans (congrArg some (by kernel_rfl))
 f173 := Tryz.func106.trans (congrArg some (by kernel_rfl))
 f246 := Tryz.func122.trans (congrArg some (by kernel_rfl))
 f283 := Tryz.func130.trans (congrArg some (by kernel_rfl))
 f284 := Tryz.func131.trans (congrArg some (by kernel_rfl))
 f285 := Tryz.func132.trans (congrArg some (by kernel_rfl))
 f286 := Tryz.func133.trans (congrArg some (by kernel_rfl))
 f317 := Tryz.func135.trans (congrArg some (by kernel_rfl))
 f318 := Tryz.func137.trans (congrArg some (by kernel_rfl))
 f319 := Tryz.func138.trans (congrArg some (by kernel_rfl))
 f320 := Tryz.func139.trans (congrArg some (by kernel_rfl))
 f337 := Tryz.func142.trans (congrArg some (by kernel_rfl))
 f338 := Tryz.func143.trans (congrArg some (by kernel_rfl))
 t0 := Tryz.underlying0
 a0 := Tryz.isAgg0
 z0 := Tryz.sizeOf0
 v0 := Tryz.zeroValue0
 t2 := Tryz.underlying2
 a2 := Tryz.isAgg2
 z2 := Tryz.sizeOf2
 v2 := Tryz.zeroValue2
 t3 := Tryz.underlying3
 a3 := Tryz.isAgg3
 z3 := Tryz.sizeOf3
 v3 := Tryz.zeroValue3
 t4 := Tryz.underlying4
 a4 := Tryz.isAgg4
 z4 := Tryz.sizeOf4
 v4 := Tryz.zeroValue4
 t5 := Tryz.underlying5
 a5 := Tryz.isAgg5
 z5 := Tryz.sizeOf5
 v5 := Tryz.zeroValue5
 t9 := Tryz.underlying9
 a9 := Tryz.isAgg9
 z9 := Tryz.sizeOf9
 v9 := Tryz.zeroValue9
 t20 := Tryz.underlying20
 a20 := Tryz.isAgg20
 z20 := Tryz.sizeOf20
 v20 := Tryz.zeroValue20
 t37 := Tryz.underlying175
 a37 := Tryz.isAgg175
 z37 := Tryz.sizeOf175
 v37 := Tryz.zeroValue175
 t46 := Tryz.underlying124
 a46 := Tryz.isAgg124
 z46 := Tryz.sizeOf124
 v46 := Tryz.zeroValue124
 t51 := Tryz.underlying182
 a51 := Tryz.isAgg182
 z51 := Tryz.sizeOf182
 v51 := Tryz.zeroValue182
 t53 := Tryz.underlying23
 a53 := Tryz.isAgg23
 z53 := Tryz.sizeOf23
 v53 := Tryz.zeroValue23
 t171 := Tryz.underlying172
 a171 := Tryz.isAgg172
 z171 := Tryz.sizeOf172
 v171 := Tryz.zeroValue172
 t173 := Tryz.underlying176
 a173 := Tryz.isAgg176
 z173 := Tryz.sizeOf176
 v173 := Tryz.zeroValue176
 t212 := Tryz.underlying181
 a212 := Tryz.isAgg181
 z212 := Tryz.sizeOf181
 v212 := Tryz.zeroValue181
 t213 := Tryz.underlying183
 a213 := Tryz.isAgg183
 z213 := Tryz.sizeOf183
 t232 := Tryz.underlying194
 a232 := Tryz.isAgg194
 z232 := Tryz.sizeOf194
 v232 := Tryz.zeroValue194
 t233 := Tryz.underlying195
 a233 := Tryz.isAgg195
 z233 := Tryz.sizeOf195
 v233 := Tryz.zeroValue195
 g17 := by kernel_rfl
 g18 := by kernel_rfl
 g19 := by kernel_rfl
 i0 := by kernel_rfl
 i2 := by kernel_rfl
 i3 := by kernel_rfl
 i4 := by kernel_rfl
 i5 := by kernel_rfl
 i9 := by kernel_rfl
 i20 := by kernel_rfl
 i37 := by kernel_rfl
 i46 := by kernel_rfl
 i51 := by kernel_rfl
 i53 := by kernel_rfl
 i171 := by kernel_rfl
 i173 := by kernel_rfl
 i212 := by kernel_rfl
 i232 := by kernel_rfl
 i233 := by kernel_rfl
 m17 := by kernel_rfl
 m18 := by kernel_rfl
 m19 := by kernel_rfl }
open Go.RowKit Go.Sort Go.Lib in
theorem Tryz.strconv_FormatInt_10 (n : Int) (h0 : -9223372036854775808 ≤ n) (h1 : n ≤ 9223372036854775807) (w : World) (htab : Lib.TabIs Tryz.prog w "internal/strconv.uint64pow10" .u64 Lib.pow10Tab) :
  Calls Tryz.prog 106 #[.int .i64 n, .int .i64 10] w fun e w' => e = .returned (.string ⟨(Lib.itoa n).toArray⟩) ∧ ∃ k os, w' = grow (w.drewN k) os := Any.strconv_FormatInt_10 Tryz.laysM173 n h0 h1 w htab
def Tryz.lays157_ren : Go.Shelf.Ren := ⟨fun | 157 => 134 | 229 => 140 | 199 => 141 | 261 => 144 | 311 => 145 | 312 => 146 | n => n, fun | 9 => 9 | 31 => 28 | 3 => 3 | 5 => 5 | 4 => 4 | 119 => 185 | 0 => 0 | 40 => 187 | 152 => 189 | 21 => 21 | 154 => 191 | 51 => 182 | 141 => 193 | 196 => 199 | 193 => 196 | 198 => 202 | 49 => 200 | 194 => 197 | 201 => 205 | 226 => 207 | 46 => 124 | 227 => 208 | n => n, fun | 0 => 1 | 6 => 2 | n => n⟩
theorem Tryz.lays157 : Go.Proofs.Lays.n157 Tryz.prog Tryz.lays157_ren := {
 mixed := by kernel_rfl
 f157 := Tryz.func134.trans (congrArg some (by kernel_rfl))
 f199 := Tryz.func141.trans (congrArg some (by kernel_rfl))
 f229 := Tryz.func140.trans (congrArg some (by kernel_rfl))
 f261 := Tryz.func144.trans (congrArg some (by kernel_rfl))
 f311 := Tryz.func145.trans (congrArg some (by kernel_rfl))
 f312 := Tryz.func146.trans (congrArg some (by kernel_rfl))
 t0 := Tryz.underlying0
 a0 := Tryz.isAgg0
 z0 := Tryz.sizeOf0
 v0 := Tryz.zeroValue0
 t3 := Tryz.underlying3
 a3 := Tryz.isAgg3
 z3 := Tryz.sizeOf3
 v3 := Tryz.zeroValue3
 t4 := Tryz.underlying4
 a4 := Tryz.isAgg4
 z4 := Tryz.sizeOf4
 v4 := Tryz.zeroValue4
 t5 := Tryz.underlying5
 a5 := Tryz.isAgg5
 z5 := Tryz.sizeOf5
 v5 := Tryz.zeroValue5
 t9 := Tryz.underlying9
 a9 := Tryz.isAgg9
 z9 := Tryz.sizeOf9
 v9 := Tryz.zeroValue9
 t21 := Tryz.underlying21
 a21 := Tryz.isAgg21
 z21 := Tryz.sizeOf21
 v21 := Tryz.zeroValue21
 t31 := Tryz.underlying28
 a31 := Tryz.isAgg28
 z31 := Tryz.sizeOf28
 v31 := Tryz.zeroValue28
 t40 := Tryz.underlying187
 a40 := Tryz.isAgg187
 z40 := Tryz.sizeOf187
 v40 := Tryz.zeroValue187
 t46 := Tryz.underlying124
 a46 := Tryz.isAgg124
 z46 := Tryz.sizeOf124
 v46 := Tryz.zeroValue124
 t49 := Tryz.underlying200
 a49 := Tryz.isAgg200
 z49 := Tryz.sizeOf200
 v49 := Tryz.zeroValue200
 t51 := Tryz.underlying182
 a51 := Tryz.isAgg182
 z51 := Tryz.sizeOf182
 v51 := Tryz.zeroValue182
 t119 := Tryz.underlying185
 a119 := Tryz.isAgg185
 z119 := Tryz.sizeOf185
 t141 := Tryz.underlying193
 a141 := Tryz.isAgg193
 z141 := Tryz.sizeOf193
 v141 := Tryz.zeroValue193
 t152 := Tryz.underlying189
 a152 := Tryz.isAgg189
 z152 := Tryz.sizeOf189
 v152 := Tryz.zeroValue189
 t154 := Tryz.underlying191
 a154 := Tryz.isAgg191
 z154 := Tryz.sizeOf191
 v154 := Tryz.zeroValue191
 t193 := Tryz.underlying196
 a193 := Tryz.isAgg196
 z193 := Tryz.sizeOf196
 v193 := Tryz.zeroValue196
 t194 := Tryz.underlying197
 a194 := Tryz.isAgg197
 z194 := Tryz.sizeOf197
 v194 := Tryz.zeroValue197
 t196 := Tryz.underlying199
 a196 := Tryz.isAgg199
 z196 := Tryz.sizeOf199
 v196 := Tryz.zeroValue199
 t198 := Tryz.underlying202
 a198 := Tryz.isAgg202
 z198 := Tryz.sizeOf202
 v198 := Tryz.zeroValue202
 t201 := Tryz.underlying205
 a201 := Tryz.isAgg205
 z201 := Tryz.sizeOf205
 v201 := Tryz.zeroValue205
 t226 := Tryz.underlying207
 a226 := Tryz.isAgg207
 z226 := Tryz.sizeOf207
 v226 := Tryz.zeroValue207
 t227 := Tryz.underlying208
 a227 := Tryz.isAgg208
 z227 := Tryz.sizeOf208
 v227 := Tryz.zeroValue208
 g0 := by kernel_rfl
 g6 := by kernel_rfl }
open Go.RowKit Go.Lib in
theorem Tryz.strings_Fields (s : ByteArray) (w : World) (hs : s.size < 4294967281) (hascii : ∀ (j : Nat) b, s.data.toList[j]? = some b → b.toNat < 128) (htab : Lib.TabIs Tryz.prog w "strings.asciiSpace" .u8 Lib.asciiSpaceTab) :
  Calls Tryz.prog 134 #[.string s] w fun e w' =>
   e = .returned (.slice (some ⟨w.heap.size, 0, none⟩) (Lib.fields s.data.toList).length (Lib.fields s.data.toList).length) ∧ w' = w.alloc (.cells ((Lib.fields s.data.toList).map fun l => Value.string ⟨l.toArray⟩).toArray 9) := Any.strings_Fields Tryz.lays157 (by kernel_rfl) (by kernel_rfl) s w hs hascii htab
end Go.Proofs
namespace Go.Proofs.YtilcofpceadpbaaGreatDoor
open Go.ChangeShapes Go.WideShapes Go.ChangeAt Go.RowKit Go.Maps

def SpW (w : World) : Prop := Lib.TabIs Tryz.prog w "strings.asciiSpace" .u8 Lib.asciiSpaceTab
theorem SpW.below {w w' : World} (h : SpW w) (hb : Below w.heap.size w w') : SpW w' := Lib.tabBelow_of_tabIs h _ hb
def wordsText : ByteArray := ⟨#[97, 110, 100, 32, 98, 114, 101, 97, 107, 32, 99, 104, 97, 110, 110, 101, 108, 32, 100, 111, 32, 101, 108, 115, 101, 32, 101, 108, 115, 101, 105, 102, 32, 101, 110, 100, 32, 102, 97, 108, 115, 101, 32, 102, 117, 110, 99, 116, 105, 111, 110, 32, 105, 102, 32, 108, 111, 99, 97, 108, 32, 110, 105, 108, 32, 110, 111, 116, 32, 111, 114, 32, 114, 101, 116, 117, 114, 110, 32, 116, 104, 101, 110, 32, 116, 114, 117, 101, 32, 119, 104, 105, 108, 101]⟩
theorem words_fields : (Lib.fields wordsText.data.toList).map (fun l => Value.string ⟨l.toArray⟩) = wordsL.map Value.string := by kernel_rfl
theorem words_len : (Lib.fields wordsText.data.toList).length = 18 := by kernel_rfl
theorem words_size : ∀ x ∈ wordsL, x.size ≤ maxLen := by
 intro x hx
 simp [wordsL] at hx
 rcases hx with rfl | rfl | rfl | rfl | rfl | rfl | rfl | rfl | rfl | rfl | rfl | rfl | rfl | rfl | rfl | rfl | rfl | rfl <;> (unfold maxLen; simp [ByteArray.size])
def WMap (D : DataW Unit) (L : List ByteArray) : Prop := ∀ s : ByteArray, D.atKey (.string s.data.toList) (.lit (.int .i64 0)) = .lit (.int .i64 (if tb (s ∈ L) = true then 1 else 0))
theorem wmap_nil : WMap (.map []) [] := fun s => by rw [tb_false (by simp)]; rfl
theorem wmap_put {D : DataW Unit} {L : List ByteArray} (h : WMap D L) (hD : Maps.IsMap D) (x : ByteArray) : WMap (D.put (.string x.data.toList) (.lit (.int .i64 1))) (L ++ [x]) := by
 intro s
 by_cases e : s = x
 ·subst e
  rw [Maps.atKey_put_same hD (show WideAt.IsKeyLit (.string s.data.toList) from trivial), tb_true (by simp)]
  rfl
 ·have hne : Lit.string s.data.toList ≠ Lit.string x.data.toList := fun k => e (ByteArray.ext (Array.toList_inj.1 (by injection k)))
  rw [Maps.atKey_put_other hne, h s, tb_congr (show (s ∈ L ++ [x]) ↔ s ∈ L by simp [e])]
def WordsOut (w : World) (e : Ending) (w' : World) : Prop := ∃ (b n : Nat) (D : DataW Unit), e = .returned (.map (some b)) ∧ w.heap.size ≤ b ∧ w'.ownsMap Tryz.prog 9 (plainElem Tryz.prog 3) b n D ∧ WMap D wordsL ∧ Below w.heap.size w w'
set_option maxRecDepth 100000 in
theorem words_any (w : World) (hT : SpW w) : Calls Tryz.prog 124 #[] w (WordsOut w) := by
 have hmm := @run_makeMap Tryz.prog
 have hf := fun w h => Tryz.strings_Fields wordsText w (by decide +kernel) (by
  intro j b hb
  have : ∀ c ∈ wordsText.data.toList, c.toNat < 128 := by decide +kernel
  exact this b (List.mem_of_getElem? hb)) h
 rw [words_fields, words_len] at hf
 unfold wordsText at hf
 have HF := Lib.hid hf
 have HT := Lib.hid hT
 clear hf hT
 go_enter Tryz.func124, Tryz.ntmps124
 go_wp2_with fail
 refine (HF.out _ (HT.out.below ((Below.refl _ _).alloc (Nat.le_refl _) _))).mono ?_
 rintro e w1 ⟨rfl, rfl⟩
 go_wp2_with fail
 have hnb : w.heap.size ≤ w.heap.size := Nat.le_refl _
 go_loopw [7] (fun i wr => ∃ (k : Nat) (D1 : DataW Unit), k ≤ 18 ∧ i = .int .i64 k ∧ Hid (Below w.heap.size w wr) ∧ Hid (wr.heap[w.heap.size + 1]? = some (.cells (wordsL.map Value.string).toArray 9 (0, 0))) ∧ wr.ownsMap Tryz.prog 9 (plainElem Tryz.prog 3) w.heap.size k D1 ∧ Hid (WMap D1 (wordsL.take k))) (fun i wr => 18 - (intOf i).toNat)
 case atStart => exact ⟨0, .map [], by omega, rfl, Lib.hid (((Below.refl _ _).alloc (Nat.le_refl _) _).alloc (by simp) _), Lib.hid (heap_new_at _ _ _ (by simp)), (World.ownsMap_made w _ _ _).alloc _, Lib.hid wmap_nil⟩
 case round =>
  obtain ⟨k, D1, hk, rfl, HB, HC, hM, HN⟩ := hrel
  by_cases hlt : k < 18
  ·obtain ⟨x, hx⟩ : ∃ x, wordsL[k]? = some x := ⟨_, List.getElem?_eq_getElem (by exact hlt)⟩
   have hxs := words_size x (List.mem_of_getElem? hx)
   have x0 : wr.cell? ⟨w.heap.size + 1, k, none⟩ = some (.string x) := cell_of_blk HC.out (by rw [List.getElem?_toArray, List.getElem?_map, hx]; rfl)
   have HN2 := Lib.hid (show WMap (D1.put (.string x.data.toList) (.lit (.int .i64 1))) (wordsL.take (k + 1)) by
    rw [List.take_add_one, hx]
    exact wmap_put HN.out hM.isMap x)
   have hk' : (k : Int) < 18 := by omega
   have hk0 : (0 : Int) ≤ k := by omega
   have hlw := blk_lt HC.out
   clear hx
   go_wp2_with (at_mapUpdate; refine wpList_mapUpdate_own _ rfl _ _ _ 115 rfl 9 3 lawS Tryz.underlying115 _ w.heap.size k D1 rfl hM (by unfold maxLen; omega) _ _ _ rfl rfl (name_key hxs) _ [] (plainElem_int Tryz.underlying3 (by decide)) ?_; intro w3 hm3 hg3)
   go_roundw
   case rel => exact ⟨k + 1, _, by omega, by go_num, Lib.hid (HB.out.grown hg3 HB.out.size (fun g hg => by rw [← Option.some.inj hg]; omega)), Lib.hid (blk_grown HC.out hg3 (by simp)), hm3, HN2⟩
   case measure => simp [intOf]; omega
  ·obtain rfl : k = 18 := by omega
   go_wp2
   go_ret
   exact ⟨_, _, D1, rfl, Nat.le_refl _, hM, by have := HN.out; rwa [show wordsL.take 18 = wordsL from rfl] at this, HB.out⟩
theorem look_word {w : World} {b n : Nat} {D : DataW Unit} {L : List ByteArray} (h : w.ownsMap Tryz.prog 9 (plainElem Tryz.prog 3) b n D) (hD : WMap D L) (s : ByteArray) (hs : s.size ≤ maxLen) :
  ∀ W : World, W.heap[b]? = w.heap[b]? → (Instr.lookup 115 (.map (some b)) (.string s) false).run Tryz.prog W = .ok (.int .i64 (if tb (s ∈ L) = true then 1 else 0)) W := fun W hW => by
 have h' : W.ownsMap Tryz.prog 9 (plainElem Tryz.prog 3) b n D := by
  obtain ⟨es, clock, hb, r⟩ := h
  exact ⟨es, clock, hW.trans hb, r⟩
 obtain ⟨c, hrun, hat, _⟩ := h'.lookup_int lawS Tryz.underlying115 Tryz.underlying3 (Tryz.zeroValue3 W) (name_key hs)
 have := hat.symm.trans (hD s)
 rw [hrun]
 simp only [DataW.lit.injEq, Lit.int.injEq, true_and] at this
 rw [this]
set_option maxRecDepth 100000 in
theorem name_any (s : ByteArray) (hs : s.size ≤ 140737488355328) (w : World) (hT : SpW w) : Calls Tryz.prog 113 #[.string s] w (RetB (.bool (tb (NameOk s))) w) := by
 by_cases h0 : s.size = 0
 ·rw [tb_false (fun e => by
   obtain ⟨c, hc, _⟩ := e.2.2
   have h1 := (List.getElem?_eq_some_iff.1 hc).1
   have h2 : s.data.toList.length = s.size := by simp
   omega)]
  have hem : s = ByteArray.empty := by
   refine ByteArray.ext (Array.eq_empty_of_size_eq_zero ?_)
   exact h0
  subst hem
  go_enter Tryz.func113, Tryz.ntmps113
  go_wp2
  go_ret
  exact ⟨rfl, Below.refl _ _⟩
 have hp0 : 0 < s.size := by omega
 have hne : (s.toList == []) = false := by
  rw [beq_eq_false_iff_ne, ByteArray.toList_eq]
  intro e
  have h1 : s.data.toList.length = 0 := by rw [e]; rfl
  have h2 : s.data.toList.length = s.size := by simp
  omega
 have hdig := fun w => digits_any s[0].toNat w (UInt8.toNat_lt _)
 have hpart := fun (k : Nat) (h : k < s.size) w => part_any s[k].toNat w (UInt8.toNat_lt _)
 have hword := fun w (h : SpW w) => words_any w h
 have HP := Lib.hid hpart
 have HD := Lib.hid hdig
 have HW := Lib.hid hword
 have HT := Lib.hid hT
 clear hpart hdig hword hT h0
 cases hd : digitN s[0].toNat
 case true =>
  rw [tb_false (fun e => by
   obtain ⟨c, hc, h1⟩ := e.2.2
   rw [byte_at hp0] at hc
   rw [← Option.some.inj hc] at h1
   simp [digitN] at hd
   simp [letterN] at h1
   omega)]
  rw [hd] at HD
  clear hd
  go_enter Tryz.func113, Tryz.ntmps113
  go_wp2_with fail
  refine (HD.out _).mono ?_
  rintro e w1 ⟨rfl, rfl⟩
  go_wp2
  go_ret
  exact ⟨rfl, Below.refl _ _⟩
 rw [hd] at HD
 obtain ⟨ans, hans⟩ : ∃ ans, ans = tb (NameOk s) := ⟨_, rfl⟩
 rw [← hans]
 have HA := Lib.hid hans
 have HND := Lib.hid hd
 clear hd hans
 have hsm : s.size ≤ maxLen := by unfold maxLen; omega
 cases hw : tb (s ∈ wordsL)
 case true =>
  have e : ans = false := by rw [HA.out]; exact tb_false (fun e => e.1 (tb_iff.1 hw))
  subst e
  clear HA
  go_enter Tryz.func113, Tryz.ntmps113
  go_wp2_with fail
  refine (HD.out _).mono ?_
  rintro e w1 ⟨rfl, rfl⟩
  go_wp2_with fail
  refine (HW.out _ HT.out).mono ?_
  rintro e w1 ⟨b, n, D, rfl, hb, hM, hD, hB⟩
  have hl : (Instr.lookup 115 (.map (some b)) (.string s) false).run Tryz.prog w1 = .ok (.int .i64 1) w1 := by
   rw [look_word hM hD s hsm w1 rfl, hw]
   rfl
  have HB := Lib.hid hB
  clear hM hD hB
  go_wp2
  go_ret
  exact ⟨rfl, HB.out⟩
 go_enter Tryz.func113, Tryz.ntmps113
 go_wp2_with fail
 refine (HD.out _).mono ?_
 rintro e w1 ⟨rfl, rfl⟩
 go_wp2_with fail
 refine (HW.out _ HT.out).mono ?_
 rintro e w1 ⟨b, n, D, rfl, hb, hM, hD, hB⟩
 have hl : (Instr.lookup 115 (.map (some b)) (.string s) false).run Tryz.prog w1 = .ok (.int .i64 0) w1 := by
  rw [look_word hM hD s hsm w1 rfl, hw]
  rfl
 have HB := Lib.hid hB
 have HNW := Lib.hid (tb_no.1 hw)
 clear hM hD hB hw
 go_wp2_with fail
 go_loopw [19] (fun i wr => ∃ k : Nat, k ≤ s.size ∧ i = .int .i64 k ∧ Hid (∀ (j : Nat) (h : j < s.size), j < k → partN s[j].toNat = true) ∧ wr = w1) (fun i _ => s.size - (intOf i).toNat)
 case atStart => exact ⟨0, by omega, rfl, Lib.hid (fun j h hj => by omega), rfl⟩
 case round =>
  obtain ⟨k, hk, rfl, HK, rfl⟩ := hrel
  by_cases hlt : k < s.size
  ·have hpk := fun w => HP.out k hlt w
   have hk' : (k : Int) < (s.size : Int) := by omega
   have hk0 : (0 : Int) ≤ k := by omega
   have HPk := Lib.hid hpk
   clear hpk
   cases hpp : partN s[k].toNat
   ·rw [hpp] at HPk
    have e : ans = false := by rw [HA.out]; exact tb_false (name_no hlt hpp)
    subst e
    clear hpp
    go_wp2_with fail
    refine (HPk.out _).mono ?_
    rintro e w1 ⟨rfl, rfl⟩
    go_wp2
    go_ret
    exact ⟨rfl, HB.out⟩
   ·rw [hpp] at HPk
    have HK2 := Lib.hid (show ∀ (j : Nat) (h : j < s.size), j < k + 1 → partN s[j].toNat = true from fun j h hj => by
     rcases Nat.lt_or_ge j k with h1 | h1
     ·exact HK.out j h h1
     ·obtain rfl : j = k := by omega
      exact hpp)
    clear hpp
    go_wp2_with fail
    refine (HPk.out _).mono ?_
    rintro e w1 ⟨rfl, rfl⟩
    go_wp2_with fail
    go_roundw
    case rel => exact ⟨k + 1, by omega, by go_num, HK2, (by first | rfl | trivial)⟩
    case measure => simp [intOf]; omega
  ·obtain rfl : k = s.size := by omega
   have e : ans = true := by
    rw [HA.out]
    refine tb_true (name_yes hp0 HNW.out ?_ (fun j h => HK.out j h h))
    have h1 := HK.out 0 hp0 hp0
    have h2 := HND.out
    unfold partN at h1
    rw [h2] at h1
    simpa using h1
   subst e
   go_wp2
   go_ret
   exact ⟨rfl, HB.out⟩
end Go.Proofs.YtilcofpceadpbaaGreatDoor
