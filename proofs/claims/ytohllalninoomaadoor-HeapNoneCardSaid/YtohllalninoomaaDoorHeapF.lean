/-
  Chapter 21's example.
-/
import Derived.Test.YtohllalninoomaaDoorHeapE
set_option linter.unusedVariables false
set_option linter.unusedSimpArgs false
namespace Go.Proofs.YtohllalninoomaaDoor
open Go.ChangeShapes Go.WideShapes Go.ChangeAt Go.RowKit

theorem table_first {w : World} {h : Nat} (hh : w.heap[h]? = some (.cells #[.int .i64 1, .int .i64 0, .slice none 0 0, .slice none 0 0, .slice none 0 0] 74 (0, 0))) : Calls Tryd.prog 6 #[.pointer (some ⟨h, 0, none⟩), .int .u64 0] w fun e w' => e = .returned (.tuple #[.agg #[.int .i64 4, .int .i64 0, .string ⟨#[]⟩, .int .u64 0], .bool true]) ∧ ∃ g cap tb, w'.heap[h]? = some (.cells #[.int .i64 1, .int .i64 1, .slice (some ⟨g, 0, none⟩) 1 cap, .slice none 0 0, .slice none 0 0] 74 (0, 0)) ∧ w'.ownsRow w.heap.size 53 1 (.slice (some ⟨g, 0, none⟩) 1 cap) 1 [.pointer (some ⟨tb, 0, none⟩)] ∧ Fr [h] w w' := by
  refine Calls.mono (show Calls Tryd.prog 6 #[.pointer (some ⟨h, 0, none⟩), .int .u64 0] w (TableOut w.heap.size h 1 0 (.slice none 0 0) (.slice none 0 0) none 0 0 [] 0 w) from htable_any 0 hh (World.ownsRow_nil _ _ _ _) rfl (by omega) (Nat.le_refl _) (by omega) (by omega) (by omega)) ?_
  rintro e w' (⟨hr, _⟩ | ⟨_, rfl, g, cap, tb, fp, h1, h2, h3, h4, h5, h6⟩)
  · omega
  · exact ⟨rfl, g, cap, tb, h1, h2, h4.more fun x hx => .inl (by simpa [Value.ownBlock] using hx)⟩
theorem table_second {w : World} {h g cap tb B : Nat} (hh : w.heap[h]? = some (.cells #[.int .i64 1, .int .i64 1, .slice (some ⟨g, 0, none⟩) 1 cap, .slice none 0 0, .slice none 0 0] 74 (0, 0))) (ho : w.ownsRow B 53 1 (.slice (some ⟨g, 0, none⟩) 1 cap) 1 [.pointer (some ⟨tb, 0, none⟩)]) (hB : B ≤ w.heap.size) : Calls Tryd.prog 6 #[.pointer (some ⟨h, 0, none⟩), .int .u64 0] w (RetB (.tuple #[.agg #[.int .i64 0, .int .i64 0, .string ⟨#[]⟩, .int .u64 0], .bool false]) w) := by
  refine Calls.mono (show Calls Tryd.prog 6 #[.pointer (some ⟨h, 0, none⟩), .int .u64 0] w (TableOut B h 1 1 (.slice none 0 0) (.slice none 0 0) (some ⟨g, 0, none⟩) 1 cap [.pointer (some ⟨tb, 0, none⟩)] 0 w) from htable_any 0 hh ho rfl (by omega) hB (by omega) (by omega) (by omega)) ?_
  rintro e w' (⟨_, rfl, hb⟩ | ⟨hr, _⟩)
  · exact ⟨rfl, hb⟩
  · omega
set_option maxRecDepth 100000 in
set_option maxHeartbeats 4000000 in
theorem awake21_any (w : World) : Calls Tryd.prog 4 #[] w (RetB (.bool true) w) := by
  have heq : ∀ w, (Op.equalIn 10000 25 (.agg #[.int .i64 4, .int .i64 0, .string ⟨#[]⟩, .int .u64 0]) (.agg #[.int .i64 4, .int .i64 0, .string ⟨#[]⟩, .int .u64 0])).run Tryd.prog w = .ok true w := fun w => by
    have := val_eq ⟨4, 0, ⟨#[]⟩, 0⟩ ⟨4, 0, ⟨#[]⟩, 0⟩ w
    simpa [vvCells, eqV] using this
  obtain ⟨h, hh⟩ : ∃ h, h = w.heap.size := ⟨_, rfl⟩
  have HE := Lib.hid hh
  clear hh
  go_enter Tryd.func4, Tryd.ntmps4
  go_wp2_with fail
  refine (hnew_any 1 _).mono ?_
  rintro e w1 ⟨rfl, hh1, hb1⟩
  rw [← HE.out] at hh1 ⊢
  have HH1 := Lib.hid (show w1.heap[h]? = some (.cells #[.int .i64 1, .int .i64 0, .slice none 0 0, .slice none 0 0, .slice none 0 0] 74 (0, 0)) from hh1)
  have HB1 := Lib.hid hb1
  clear hh1 hb1
  go_wp2_with fail
  refine (table_first HH1.out).mono ?_
  rintro e w2 ⟨rfl, g, cap, tb, hh2, ho2, hf2⟩
  have HF2 := Lib.hid (show Fr [h] w w2 from (Fr.of_below HB1.out [h]).trans hf2 fun x hx => .inl hx)
  have HS2 := Lib.hid hf2.size
  have HH2 := Lib.hid hh2
  have HO2 := Lib.hid ho2
  clear hh2 ho2 hf2
  go_upto_region 5 with fail
  obtain ⟨b, hb⟩ : ∃ b, b = w2.heap.size := ⟨_, rfl⟩
  have HBE := Lib.hid hb
  rw [← hb]
  refine gen_wp fun W hW => ?_
  clear hb
  have HR := Lib.hid (show W.heap[b]? = some (.cells #[.int .i64 4, .int .i64 0, .string ⟨#[]⟩, .int .u64 0] 25 (0, 0)) by rw [← hW, HBE.out]; exact heap_new_at _ _ _ (by first | rfl | simp))
  have HH := Lib.hid (show W.heap[h]? = some (.cells #[.int .i64 1, .int .i64 1, .slice (some ⟨g, 0, none⟩) 1 cap, .slice none 0 0, .slice none 0 0] 74 (0, 0)) by rw [← hW]; exact blk_alloc HH2.out _)
  have HO := Lib.hid (show W.ownsRow w1.heap.size 53 1 (.slice (some ⟨g, 0, none⟩) 1 cap) 1 [.pointer (some ⟨tb, 0, none⟩)] by rw [← hW]; exact HO2.out.alloc _)
  have HF := Lib.hid (show Fr [h] w W by rw [← hW]; exact HF2.out.alloc _)
  have HS := Lib.hid (show w1.heap.size ≤ W.heap.size by rw [← hW]; have := HS2.out; simp; omega)
  clear hW
  go_wp2_with fail
  refine (table_second HH.out HO.out HS.out).mono ?_
  rintro e w3 ⟨rfl, hb3⟩
  have HR3 := Lib.hid (below_blk hb3 HR.out)
  have HH3 := Lib.hid (below_blk hb3 HH.out)
  have HO3 := Lib.hid (below_own hb3 HO.out)
  have HF3 := Lib.hid (HF.out.trans (Fr.of_below hb3 [h]) fun x hx => .inl hx)
  have HS3 := Lib.hid (Nat.le_trans HS.out hb3.size)
  clear hb3
  go_upto_region 6 with fail
  refine gen_wp fun V hV => ?_
  have HR4 := Lib.hid (show V.heap[b]? = some (.cells #[.int .i64 4, .int .i64 0, .string ⟨#[]⟩, .int .u64 0] 25 (0, 0)) by rw [← hV]; exact blk_alloc HR3.out _)
  have HH4 := Lib.hid (show V.heap[h]? = some (.cells #[.int .i64 1, .int .i64 1, .slice (some ⟨g, 0, none⟩) 1 cap, .slice none 0 0, .slice none 0 0] 74 (0, 0)) by rw [← hV]; exact blk_alloc HH3.out _)
  have HO4 := Lib.hid (show V.ownsRow w1.heap.size 53 1 (.slice (some ⟨g, 0, none⟩) 1 cap) 1 [.pointer (some ⟨tb, 0, none⟩)] by rw [← hV]; exact HO3.out.alloc _)
  have HF4 := Lib.hid (show Fr [h] w V by rw [← hV]; exact HF3.out.alloc _)
  have HS4 := Lib.hid (show w1.heap.size ≤ V.heap.size by rw [← hV]; have := HS3.out; simp; omega)
  clear hV
  have r0 : V.cell? ⟨b, 0, none⟩ = some (.int .i64 4) := cell_of_blk HR4.out rfl
  have r1 : V.cell? ⟨b, 1, none⟩ = some (.int .i64 0) := cell_of_blk HR4.out rfl
  have r2 : V.cell? ⟨b, 2, none⟩ = some (.string ⟨#[]⟩) := cell_of_blk HR4.out rfl
  have r3 : V.cell? ⟨b, 3, none⟩ = some (.int .u64 0) := cell_of_blk HR4.out rfl
  have rf0 := free_of_blk (i := 0) HR4.out
  have rf1 := free_of_blk (i := 1) HR4.out
  have rf2 := free_of_blk (i := 2) HR4.out
  have rf3 := free_of_blk (i := 3) HR4.out
  have rl := blk_lt HR4.out
  have HU := Lib.hid (hused_any HH4.out)
  go_wp2_with fail
  refine HU.out.mono ?_
  rintro e w5 ⟨rfl, hb5⟩
  have HR5 := Lib.hid (below_blk hb5 HR4.out)
  have HF5 := Lib.hid (HF4.out.trans (Fr.of_below hb5 [h]) fun x hx => .inl hx)
  have HOF := Lib.hid (show Calls Tryd.prog 14 #[.pointer (some ⟨h, 0, none⟩), .agg #[.int .i64 4, .int .i64 0, .string ⟨#[]⟩, .int .u64 0]] w5 (RetB (.pointer (some ⟨tb, 0, none⟩)) w5) from hof_any ⟨4, 0, ⟨#[]⟩, 0⟩ (below_blk hb5 HH4.out) (below_own hb5 HO4.out) rfl (by omega) (Nat.le_trans HS4.out hb5.size))
  clear hb5 r0 rf0 r1 rf1 r2 rf2 r3 rf3 rl
  have r0 : w5.cell? ⟨b, 0, none⟩ = some (.int .i64 4) := cell_of_blk HR5.out rfl
  have r1 : w5.cell? ⟨b, 1, none⟩ = some (.int .i64 0) := cell_of_blk HR5.out rfl
  have r2 : w5.cell? ⟨b, 2, none⟩ = some (.string ⟨#[]⟩) := cell_of_blk HR5.out rfl
  have r3 : w5.cell? ⟨b, 3, none⟩ = some (.int .u64 0) := cell_of_blk HR5.out rfl
  have rf0 := free_of_blk (i := 0) HR5.out
  have rf1 := free_of_blk (i := 1) HR5.out
  have rf2 := free_of_blk (i := 2) HR5.out
  have rf3 := free_of_blk (i := 3) HR5.out
  have rl := blk_lt HR5.out
  go_wp2_with fail
  refine HOF.out.mono ?_
  rintro e w6 ⟨rfl, hb6⟩
  go_wp2
  go_ret
  exact ⟨rfl, (HF5.out.trans (Fr.of_below hb6 [h]) fun x hx => .inl hx).to_below (Nat.le_refl _) (by rw [HE.out]; simp)⟩
end Go.Proofs.YtohllalninoomaaDoor
