/-
  Names: the program's words, and its Name.
-/
import Derived.Test.YtohllalninoomaaDoorTyLex
import Derived.Test.YtohllalninoomaaDoorShelf
import Derived.Lib.Hide
import Derived.Lib.AppendIntMem
set_option linter.unusedVariables false
set_option linter.unusedSimpArgs false
namespace Go.Proofs.YtohllalninoomaaDoor
open Go.ChangeShapes Go.WideShapes Go.ChangeAt Go.RowKit Go.Maps

/-- The table that strings.Fields reads. -/
def SpW (w : World) : Prop := Lib.TabIs Tryd.prog w "strings.asciiSpace" .u8 Lib.asciiSpaceTab
theorem SpW.below {w w' : World} (h : SpW w) (hb : Below w.heap.size w w') : SpW w' := Lib.tabBelow_of_tabIs h _ hb
def wordsText : ByteArray := ⟨#[97, 110, 100, 32, 98, 114, 101, 97, 107, 32, 99, 104, 97, 110, 110, 101, 108, 32, 100, 111, 32, 101, 108, 115, 101, 32, 101, 108, 115, 101, 105, 102, 32, 101, 110, 100, 32, 102, 97, 108, 115, 101, 32, 102, 117, 110, 99, 116, 105, 111, 110, 32, 105, 102, 32, 108, 111, 99, 97, 108, 32, 110, 105, 108, 32, 110, 111, 116, 32, 111, 114, 32, 114, 101, 116, 117, 114, 110, 32, 116, 104, 101, 110, 32, 116, 114, 117, 101, 32, 119, 104, 105, 108, 101]⟩
theorem words_fields : (Lib.fields wordsText.data.toList).map (fun l => Value.string ⟨l.toArray⟩) = wordsL.map Value.string := by kernel_rfl
theorem words_len : (Lib.fields wordsText.data.toList).length = 18 := by kernel_rfl
theorem words_size : ∀ x ∈ wordsL, x.size ≤ maxLen := by
  intro x hx
  simp [wordsL] at hx
  rcases hx with rfl | rfl | rfl | rfl | rfl | rfl | rfl | rfl | rfl | rfl | rfl | rfl | rfl | rfl | rfl | rfl | rfl | rfl <;> (unfold maxLen; simp [ByteArray.size])
/-- A map of words: each has 1. -/
def WMap (D : DataW Unit) (L : List ByteArray) : Prop := ∀ s : ByteArray, D.atKey (.string s.data.toList) (.lit (.int .i64 0)) = .lit (.int .i64 (if tb (s ∈ L) = true then 1 else 0))
theorem wmap_nil : WMap (.map []) [] := fun s => by rw [tb_false (by simp)]; rfl
theorem wmap_put {D : DataW Unit} {L : List ByteArray} (h : WMap D L) (hD : Maps.IsMap D) (x : ByteArray) : WMap (D.put (.string x.data.toList) (.lit (.int .i64 1))) (L ++ [x]) := by
  intro s
  by_cases e : s = x
  · subst e
    rw [Maps.atKey_put_same hD (show WideAt.IsKeyLit (.string s.data.toList) from trivial), tb_true (by simp)]
    rfl
  · have hne : Lit.string s.data.toList ≠ Lit.string x.data.toList := fun k => e (ByteArray.ext (Array.toList_inj.1 (by injection k)))
    rw [Maps.atKey_put_other hne, h s, tb_congr (show (s ∈ L ++ [x]) ↔ s ∈ L by simp [e])]
def WordsOut (w : World) (e : Ending) (w' : World) : Prop := ∃ (b n : Nat) (D : DataW Unit), e = .returned (.map (some b)) ∧ w.heap.size ≤ b ∧ w'.ownsMap Tryd.prog 9 (plainElem Tryd.prog 3) b n D ∧ WMap D wordsL ∧ Below w.heap.size w w'
set_option maxRecDepth 100000 in
set_option maxHeartbeats 4000000 in
theorem words_any (w : World) (hT : SpW w) : Calls Tryd.prog 78 #[] w (WordsOut w) := by
  have hmm := @run_makeMap Tryd.prog
  have hf := fun w h => Tryd.strings_Fields wordsText w (by decide +kernel) (by
    intro j b hb
    have : ∀ c ∈ wordsText.data.toList, c.toNat < 128 := by decide +kernel
    exact this b (List.mem_of_getElem? hb)) h
  rw [words_fields, words_len] at hf
  unfold wordsText at hf
  have HF := Lib.hid hf
  have HT := Lib.hid hT
  clear hf hT
  go_enter Tryd.func78, Tryd.ntmps78
  go_wp2_with fail
  refine (HF.out _ (HT.out.below ((Below.refl _ _).alloc (Nat.le_refl _) _))).mono ?_
  rintro e w1 ⟨rfl, rfl⟩
  go_wp2_with fail
  have hnb : w.heap.size ≤ w.heap.size := Nat.le_refl _
  go_loopw [7] (fun i wr => ∃ (k : Nat) (D1 : DataW Unit), k ≤ 18 ∧ i = .int .i64 k ∧ Hid (Below w.heap.size w wr) ∧ Hid (wr.heap[w.heap.size + 1]? = some (.cells (wordsL.map Value.string).toArray 9 (0, 0))) ∧ wr.ownsMap Tryd.prog 9 (plainElem Tryd.prog 3) w.heap.size k D1 ∧ Hid (WMap D1 (wordsL.take k))) (fun i wr => 18 - (intOf i).toNat)
  case atStart => exact ⟨0, .map [], by omega, rfl, Lib.hid (((Below.refl _ _).alloc (Nat.le_refl _) _).alloc (by simp) _), Lib.hid (heap_new_at _ _ _ (by simp)), (World.ownsMap_made w _ _ _).alloc _, Lib.hid wmap_nil⟩
  case round =>
    obtain ⟨k, D1, hk, rfl, HB, HC, hM, HN⟩ := hrel
    by_cases hlt : k < 18
    · obtain ⟨x, hx⟩ : ∃ x, wordsL[k]? = some x := ⟨_, List.getElem?_eq_getElem (by exact hlt)⟩
      have hxs := words_size x (List.mem_of_getElem? hx)
      have x0 : wr.cell? ⟨w.heap.size + 1, k, none⟩ = some (.string x) := cell_of_blk HC.out (by rw [List.getElem?_toArray, List.getElem?_map, hx]; rfl)
      have HN2 := Lib.hid (show WMap (D1.put (.string x.data.toList) (.lit (.int .i64 1))) (wordsL.take (k + 1)) by
        rw [List.take_add_one, hx]
        exact wmap_put HN.out hM.isMap x)
      have hk' : (k : Int) < 18 := by omega
      have hk0 : (0 : Int) ≤ k := by omega
      have hlw := blk_lt HC.out
      clear hx
      go_wp2_with (at_mapUpdate; refine wpList_mapUpdate_own _ rfl _ _ _ 100 rfl 9 3 lawS Tryd.underlying100 _ w.heap.size k D1 rfl hM (by unfold maxLen; omega) _ _ _ rfl rfl (name_key hxs) _ [] (plainElem_int Tryd.underlying3 (by decide)) ?_; intro w3 hm3 hg3)
      go_roundw
      case rel => exact ⟨k + 1, _, by omega, by go_num, Lib.hid (HB.out.grown hg3 HB.out.size (fun g hg => by rw [← Option.some.inj hg]; omega)), Lib.hid (blk_grown HC.out hg3 (by simp)), hm3, HN2⟩
      case measure => simp [intOf]; omega
    · obtain rfl : k = 18 := by omega
      go_wp2
      go_ret
      exact ⟨_, _, D1, rfl, Nat.le_refl _, hM, by have := HN.out; rwa [show wordsL.take 18 = wordsL from rfl] at this, HB.out⟩
theorem look_word {w : World} {b n : Nat} {D : DataW Unit} {L : List ByteArray} (h : w.ownsMap Tryd.prog 9 (plainElem Tryd.prog 3) b n D) (hD : WMap D L) (s : ByteArray) (hs : s.size ≤ maxLen) :
    ∀ W : World, W.heap[b]? = w.heap[b]? → (Instr.lookup 100 (.map (some b)) (.string s) false).run Tryd.prog W = .ok (.int .i64 (if tb (s ∈ L) = true then 1 else 0)) W := fun W hW => by
  have h' : W.ownsMap Tryd.prog 9 (plainElem Tryd.prog 3) b n D := by
    obtain ⟨es, clock, hb, r⟩ := h
    exact ⟨es, clock, hW.trans hb, r⟩
  obtain ⟨c, hrun, hat, _⟩ := h'.lookup_int lawS Tryd.underlying100 Tryd.underlying3 (Tryd.zeroValue3 W) (name_key hs)
  have := hat.symm.trans (hD s)
  rw [hrun]
  simp only [DataW.lit.injEq, Lit.int.injEq, true_and] at this
  rw [this]
set_option maxRecDepth 100000 in
set_option maxHeartbeats 4000000 in
theorem name_any (s : ByteArray) (hs : s.size ≤ 140737488355328) (w : World) (hT : SpW w) : Calls Tryd.prog 71 #[.string s] w (RetB (.bool (tb (NameOk s))) w) := by
  by_cases h0 : s.size = 0
  · rw [tb_false (fun e => by
      obtain ⟨c, hc, _⟩ := e.2.2
      have h1 := (List.getElem?_eq_some_iff.1 hc).1
      have h2 : s.data.toList.length = s.size := by simp
      omega)]
    have hem : s = ByteArray.empty := by
      refine ByteArray.ext (Array.eq_empty_of_size_eq_zero ?_)
      exact h0
    subst hem
    go_enter Tryd.func71, Tryd.ntmps71
    go_wp2
    go_ret
    exact ⟨rfl, Below.refl _ _⟩
  have hp0 : 0 < s.size := by omega
  have hne : (s.toList == []) = false := by
    rw [beq_eq_false_iff_ne, ByteArray.toList_eq]
    intro e
    have h1 : s.data.toList.length = 0 := by rw [e]; rfl
    have h2 : s.data.toList.length = s.size := by simp
    omega
  have hdig := fun w => digits_any s[0].toNat w (UInt8.toNat_lt _)
  have hpart := fun (k : Nat) (h : k < s.size) w => part_any s[k].toNat w (UInt8.toNat_lt _)
  have hword := fun w (h : SpW w) => words_any w h
  have HP := Lib.hid hpart
  have HD := Lib.hid hdig
  have HW := Lib.hid hword
  have HT := Lib.hid hT
  clear hpart hdig hword hT h0
  cases hd : digitN s[0].toNat
  case true =>
    rw [tb_false (fun e => by
      obtain ⟨c, hc, h1⟩ := e.2.2
      rw [byte_at hp0] at hc
      rw [← Option.some.inj hc] at h1
      simp [digitN] at hd
      simp [letterN] at h1
      omega)]
    rw [hd] at HD
    clear hd
    go_enter Tryd.func71, Tryd.ntmps71
    go_wp2_with fail
    refine (HD.out _).mono ?_
    rintro e w1 ⟨rfl, rfl⟩
    go_wp2
    go_ret
    exact ⟨rfl, Below.refl _ _⟩
  rw [hd] at HD
  obtain ⟨ans, hans⟩ : ∃ ans, ans = tb (NameOk s) := ⟨_, rfl⟩
  rw [← hans]
  have HA := Lib.hid hans
  have HND := Lib.hid hd
  clear hd hans
  have hsm : s.size ≤ maxLen := by unfold maxLen; omega
  cases hw : tb (s ∈ wordsL)
  case true =>
    have e : ans = false := by rw [HA.out]; exact tb_false (fun e => e.1 (tb_iff.1 hw))
    subst e
    clear HA
    go_enter Tryd.func71, Tryd.ntmps71
    go_wp2_with fail
    refine (HD.out _).mono ?_
    rintro e w1 ⟨rfl, rfl⟩
    go_wp2_with fail
    refine (HW.out _ HT.out).mono ?_
    rintro e w1 ⟨b, n, D, rfl, hb, hM, hD, hB⟩
    have hl : (Instr.lookup 100 (.map (some b)) (.string s) false).run Tryd.prog w1 = .ok (.int .i64 1) w1 := by
      rw [look_word hM hD s hsm w1 rfl, hw]
      rfl
    have HB := Lib.hid hB
    clear hM hD hB
    go_wp2
    go_ret
    exact ⟨rfl, HB.out⟩
  go_enter Tryd.func71, Tryd.ntmps71
  go_wp2_with fail
  refine (HD.out _).mono ?_
  rintro e w1 ⟨rfl, rfl⟩
  go_wp2_with fail
  refine (HW.out _ HT.out).mono ?_
  rintro e w1 ⟨b, n, D, rfl, hb, hM, hD, hB⟩
  have hl : (Instr.lookup 100 (.map (some b)) (.string s) false).run Tryd.prog w1 = .ok (.int .i64 0) w1 := by
    rw [look_word hM hD s hsm w1 rfl, hw]
    rfl
  have HB := Lib.hid hB
  have HNW := Lib.hid (tb_no.1 hw)
  clear hM hD hB hw
  go_wp2_with fail
  go_loopw [19] (fun i wr => ∃ k : Nat, k ≤ s.size ∧ i = .int .i64 k ∧ Hid (∀ (j : Nat) (h : j < s.size), j < k → partN s[j].toNat = true) ∧ wr = w1) (fun i _ => s.size - (intOf i).toNat)
  case atStart => exact ⟨0, by omega, rfl, Lib.hid (fun j h hj => by omega), rfl⟩
  case round =>
    obtain ⟨k, hk, rfl, HK, rfl⟩ := hrel
    by_cases hlt : k < s.size
    · have hpk := fun w => HP.out k hlt w
      have hk' : (k : Int) < (s.size : Int) := by omega
      have hk0 : (0 : Int) ≤ k := by omega
      have HPk := Lib.hid hpk
      clear hpk
      cases hpp : partN s[k].toNat
      · rw [hpp] at HPk
        have e : ans = false := by rw [HA.out]; exact tb_false (name_no hlt hpp)
        subst e
        clear hpp
        go_wp2_with fail
        refine (HPk.out _).mono ?_
        rintro e w1 ⟨rfl, rfl⟩
        go_wp2
        go_ret
        exact ⟨rfl, HB.out⟩
      · rw [hpp] at HPk
        have HK2 := Lib.hid (show ∀ (j : Nat) (h : j < s.size), j < k + 1 → partN s[j].toNat = true from fun j h hj => by
          rcases Nat.lt_or_ge j k with h1 | h1
          · exact HK.out j h h1
          · obtain rfl : j = k := by omega
            exact hpp)
        clear hpp
        go_wp2_with fail
        refine (HPk.out _).mono ?_
        rintro e w1 ⟨rfl, rfl⟩
        go_wp2_with fail
        go_roundw
        case rel => exact ⟨k + 1, by omega, by go_num, HK2, (by first | rfl | trivial)⟩
        case measure => simp [intOf]; omega
    · obtain rfl : k = s.size := by omega
      have e : ans = true := by
        rw [HA.out]
        refine tb_true (name_yes hp0 HNW.out ?_ (fun j h => HK.out j h h))
        have h1 := HK.out 0 hp0 hp0
        have h2 := HND.out
        unfold partN at h1
        rw [h2] at h1
        simpa using h1
      subst e
      go_wp2
      go_ret
      exact ⟨rfl, HB.out⟩
end Go.Proofs.YtohllalninoomaaDoor
