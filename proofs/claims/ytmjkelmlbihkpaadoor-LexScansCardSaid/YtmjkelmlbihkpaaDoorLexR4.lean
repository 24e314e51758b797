/-
  The reference's token.
-/
import Derived.Test.YtmjkelmlbihkpaaDoorLexR2
import Derived.Test.YtmjkelmlbihkpaaDoorLexR3
set_option linter.unusedVariables false
set_option linter.unusedSimpArgs false
namespace Go.Proofs.YtmjkelmlbihkpaaDoor
open Go.ChangeShapes Go.WideShapes Go.ChangeAt Go.RowKit

/-- What the reference's token answers. -/
def RTokV : Nat ⊕ (Int × ByteArray × Int × Nat) → Value
  | .inl er => .tuple #[tokV 0 ⟨#[]⟩ 0, .int .i64 0, .int .i64 (er : Int)]
  | .inr (k, x, v, n) => .tuple #[tokV k x v, .int .i64 (n : Int), .int .i64 0]
set_option maxRecDepth 100000 in
set_option maxHeartbeats 64000000 in
theorem rtoken_any (s : ByteArray) (hs : s.size ≤ 1000000) (hs0 : 0 < s.size) (w : World) : Calls Tryd.prog 23 #[.string s] w (RetB (RTokV (tokenL s.data.toList)) w) := by
  obtain ⟨T, hT⟩ : ∃ T, T = tokenL s.data.toList := ⟨_, rfl⟩
  rw [← hT]
  have hd := drop_at hs0
  rw [List.drop_zero] at hd
  obtain ⟨n, hn⟩ : ∃ n, n = runL s.data.toList := ⟨_, rfl⟩
  have hns : n ≤ s.size := by have := runL_le s.data.toList; rw [← hn] at this; simpa using this
  have HRN := Lib.hid (show ∀ w, Calls Tryd.prog 36 #[.string s] w (Ret (.int .i64 (n : Int)) w) from fun w => by rw [hn]; exact rrun_any s hs w)
  obtain ⟨b2, hb2⟩ : ∃ b, b = w.heap.size := ⟨_, rfl⟩
  obtain ⟨W, hW⟩ : ∃ W, W = w.alloc (.cells #[.int .i64 0, .string ⟨#[]⟩, .int .i64 0, .int .i64 0, .int .i64 0] 33) := ⟨_, rfl⟩
  have HR := Lib.hid (show W.heap[b2]? = some (.cells #[.int .i64 0, .string ⟨#[]⟩, .int .i64 0, .int .i64 0, .int .i64 0] 33 (0, 0)) by rw [hW, hb2]; exact heap_new_at _ _ _ rfl)
  have HW := Lib.hid (show Below w.heap.size w W by rw [hW]; exact (Below.refl _ _).alloc (Nat.le_refl _) _)
  have HB2 := Lib.hid (show w.heap.size ≤ b2 by omega)
  have HBE := Lib.hid hb2
  have HWE := Lib.hid hW
  clear hb2 hW
  by_cases hp : partN s[0].toNat = true
  case pos =>
    obtain ⟨tx, htx⟩ : ∃ tx, tx = s.extract 0 n := ⟨_, rfl⟩
    have htok := tok_part (tx := tx) hd hp (by rw [htx, hn]; have := ext_take s 0 (runL s.data.toList); rw [Nat.zero_add, List.drop_zero] at this; exact this)
    rw [← hT, ← hn] at htok
    have hn1 : 0 < n := by rw [hn, hd, runL_yes hp]; omega
    have hn1' : (0 : Int) < (n : Int) := by omega
    have hns' : (n : Int) ≤ (s.size : Int) := by omega
    have hx : s.extract 0 n = tx := htx.symm
    have htxs : tx.size ≤ 1000000 := by rw [htx]; simp; omega
    obtain ⟨bt, hbt⟩ : ∃ b, b = W.heap.size := ⟨_, rfl⟩
    obtain ⟨U, hU⟩ : ∃ U, U = W.alloc (.cells #[.int .i64 1, .string tx, .int .i64 0, .int .i64 0, .int .i64 0] 33) := ⟨_, rfl⟩
    have HTU := Lib.hid (show U.heap[bt]? = some (.cells #[.int .i64 1, .string tx, .int .i64 0, .int .i64 0, .int .i64 0] 33 (0, 0)) by rw [hU, hbt]; exact heap_new_at _ _ _ rfl)
    have HRU := Lib.hid (show U.heap[b2]? = some (.cells #[.int .i64 0, .string ⟨#[]⟩, .int .i64 0, .int .i64 0, .int .i64 0] 33 (0, 0)) by rw [hU]; exact blk_alloc HR.out _)
    have HBU := Lib.hid (show Below w.heap.size w U by rw [hU]; exact HW.out.alloc HW.out.size _)
    have HBT := Lib.hid (show b2 < bt by rw [hbt]; exact blk_lt HR.out)
    have HUE := Lib.hid hU
    have HTE := Lib.hid hbt
    have nbt : bt ≠ b2 := by have := HBT.out; omega
    have HTOK := Lib.hid htok
    have HLT := Lib.hid (fun w => rletter_any s[0].toNat w (UInt8.toNat_lt _))
    have HNU := Lib.hid (fun w => rnumber_any tx w (by unfold maxLen; omega))
    have HWD := Lib.hid (fun w => rword_any tx w)
    have r0 : U.cell? ⟨b2, 0, none⟩ = some (.int .i64 0) := cell_of_blk HRU.out rfl
    have r1 : U.cell? ⟨b2, 1, none⟩ = some (.string ⟨#[]⟩) := cell_of_blk HRU.out rfl
    have r2 : U.cell? ⟨b2, 2, none⟩ = some (.int .i64 0) := cell_of_blk HRU.out rfl
    have r3 : U.cell? ⟨b2, 3, none⟩ = some (.int .i64 0) := cell_of_blk HRU.out rfl
    have r4 : U.cell? ⟨b2, 4, none⟩ = some (.int .i64 0) := cell_of_blk HRU.out rfl
    have rf0 := free_of_blk (i := 0) HRU.out
    have rf1 := free_of_blk (i := 1) HRU.out
    have rf2 := free_of_blk (i := 2) HRU.out
    have rf3 := free_of_blk (i := 3) HRU.out
    have rf4 := free_of_blk (i := 4) HRU.out
    have rl := blk_lt HRU.out
    have t0 : U.cell? ⟨bt, 0, none⟩ = some (.int .i64 1) := cell_of_blk HTU.out rfl
    have t1 : U.cell? ⟨bt, 1, none⟩ = some (.string tx) := cell_of_blk HTU.out rfl
    have t2 : U.cell? ⟨bt, 2, none⟩ = some (.int .i64 0) := cell_of_blk HTU.out rfl
    have t3 : U.cell? ⟨bt, 3, none⟩ = some (.int .i64 0) := cell_of_blk HTU.out rfl
    have t4 : U.cell? ⟨bt, 4, none⟩ = some (.int .i64 0) := cell_of_blk HTU.out rfl
    have tf0 := free_of_blk (i := 0) HTU.out
    have tf1 := free_of_blk (i := 1) HTU.out
    have tf2 := free_of_blk (i := 2) HTU.out
    have tf3 := free_of_blk (i := 3) HTU.out
    have tf4 := free_of_blk (i := 4) HTU.out
    have tl := blk_lt HTU.out
    clear hT hd hn hp htok htx hU hbt
    go_enter Tryd.func23, Tryd.ntmps23
    go_wp2_with fail
    rw [← HWE.out, ← HBE.out]
    refine (HRN.out _).mono ?_
    rintro e w1 ⟨rfl, rfl⟩
    go_wp2_with fail
    rw [← HUE.out, ← HTE.out]
    refine (HLT.out _).mono ?_
    rintro e w1 ⟨rfl, rfl⟩
    cases hlt : letterN s[0].toNat with
    | false =>
      cases hnn : numS tx with
      | none =>
        have HTK := Lib.hid (show T = .inl 51 by rw [HTOK.out, hlt, if_neg (by decide), hnn])
        rw [hnn] at HNU
        clear hlt hnn
        go_wp2_with fail
        refine (HNU.out _).mono ?_
        rintro e w1 ⟨rfl, rfl⟩
        go_wp2
        have hx0 : U.heap[b2]? = some (.cells #[.int .i64 0, .string ⟨#[]⟩, .int .i64 0, .int .i64 0, .int .i64 0] 33 (0, 0)) := HRU.out
        obtain ⟨j0, j1, j2, j3, j4⟩ := tok_five hx0 rfl (.int .i64 0) (.string ⟨#[]⟩) (.int .i64 0) (.int .i64 0) (.int .i64 0)
        clear hx0
        refine bodyPost_ret (v := .tuple #[.agg #[.int .i64 0, .string ⟨#[]⟩, .int .i64 0, .int .i64 0, .int .i64 0], .int .i64 0, .int .i64 51]) (by simp [results, Tryd.results23, go_sem, j0, j1, j2, j3, j4]) rfl ?_
        exact ⟨by rw [HTK.out]; rfl, (Below.setCell (p := ⟨b2, 4, none⟩) (Below.setCell (p := ⟨b2, 3, none⟩) (Below.setCell (p := ⟨b2, 2, none⟩) (Below.setCell (p := ⟨b2, 1, none⟩) (Below.setCell (p := ⟨b2, 0, none⟩) HBU.out (by have := HB2.out; simp; omega) (.int .i64 0)) (by have := HB2.out; simp; omega) (.string ⟨#[]⟩)) (by have := HB2.out; simp; omega) (.int .i64 0)) (by have := HB2.out; simp; omega) (.int .i64 0)) (by have := HB2.out; simp; omega) (.int .i64 0))⟩
      | some k =>
        have HTK := Lib.hid (show T = .inr (3, tx, k, n) by rw [HTOK.out, hlt, if_neg (by decide), hnn])
        rw [hnn] at HNU
        clear hlt hnn
        go_wp2_with fail
        refine (HNU.out _).mono ?_
        rintro e w1 ⟨rfl, rfl⟩
        go_wp2
        have n4 : b2 ≠ bt := by have := HBT.out; omega
        have hx0 : ((U.setCell ⟨bt, 0, none⟩ (.int .i64 3)).setCell ⟨bt, 4, none⟩ (.int .i64 k)).heap[b2]? = some (.cells #[.int .i64 0, .string ⟨#[]⟩, .int .i64 0, .int .i64 0, .int .i64 0] 33 (0, 0)) := (blk_far (a := ⟨bt, 4, none⟩) ((blk_far (a := ⟨bt, 0, none⟩) (HRU.out) n4 (.int .i64 3))) n4 (.int .i64 k))
        obtain ⟨j0, j1, j2, j3, j4⟩ := tok_five hx0 rfl (.int .i64 3) (.string tx) (.int .i64 0) (.int .i64 0) (.int .i64 k)
        clear hx0
        refine bodyPost_ret (v := .tuple #[.agg #[.int .i64 3, .string tx, .int .i64 0, .int .i64 0, .int .i64 k], .int .i64 (n : Int), .int .i64 0]) (by simp [results, Tryd.results23, go_sem, j0, j1, j2, j3, j4]) rfl ?_
        exact ⟨by rw [HTK.out]; rfl, (Below.setCell (p := ⟨b2, 4, none⟩) (Below.setCell (p := ⟨b2, 3, none⟩) (Below.setCell (p := ⟨b2, 2, none⟩) (Below.setCell (p := ⟨b2, 1, none⟩) (Below.setCell (p := ⟨b2, 0, none⟩) (Below.setCell (p := ⟨bt, 4, none⟩) (Below.setCell (p := ⟨bt, 0, none⟩) HBU.out (by have := HBT.out; have := HB2.out; simp; omega) (.int .i64 3)) (by have := HBT.out; have := HB2.out; simp; omega) (.int .i64 k)) (by have := HB2.out; simp; omega) (.int .i64 3)) (by have := HB2.out; simp; omega) (.string tx)) (by have := HB2.out; simp; omega) (.int .i64 0)) (by have := HB2.out; simp; omega) (.int .i64 0)) (by have := HB2.out; simp; omega) (.int .i64 k))⟩
    | true =>
      cases hwd : isWord tx with
      | true =>
        have HTK := Lib.hid (show T = .inr (2, tx, 0, n) by rw [HTOK.out, hlt, if_pos rfl, hwd]; rfl)
        rw [isWord_tb, hwd] at HWD
        clear hlt hwd
        go_wp2_with fail
        refine (HWD.out _).mono ?_
        rintro e w1 ⟨rfl, rfl⟩
        go_wp2
        have n4 : b2 ≠ bt := by have := HBT.out; omega
        have hx0 : (U.setCell ⟨bt, 0, none⟩ (.int .i64 2)).heap[b2]? = some (.cells #[.int .i64 0, .string ⟨#[]⟩, .int .i64 0, .int .i64 0, .int .i64 0] 33 (0, 0)) := (blk_far (a := ⟨bt, 0, none⟩) (HRU.out) n4 (.int .i64 2))
        obtain ⟨j0, j1, j2, j3, j4⟩ := tok_five hx0 rfl (.int .i64 2) (.string tx) (.int .i64 0) (.int .i64 0) (.int .i64 0)
        clear hx0
        refine bodyPost_ret (v := .tuple #[.agg #[.int .i64 2, .string tx, .int .i64 0, .int .i64 0, .int .i64 0], .int .i64 (n : Int), .int .i64 0]) (by simp [results, Tryd.results23, go_sem, j0, j1, j2, j3, j4]) rfl ?_
        exact ⟨by rw [HTK.out]; rfl, (Below.setCell (p := ⟨b2, 4, none⟩) (Below.setCell (p := ⟨b2, 3, none⟩) (Below.setCell (p := ⟨b2, 2, none⟩) (Below.setCell (p := ⟨b2, 1, none⟩) (Below.setCell (p := ⟨b2, 0, none⟩) (Below.setCell (p := ⟨bt, 0, none⟩) HBU.out (by have := HBT.out; have := HB2.out; simp; omega) (.int .i64 2)) (by have := HB2.out; simp; omega) (.int .i64 2)) (by have := HB2.out; simp; omega) (.string tx)) (by have := HB2.out; simp; omega) (.int .i64 0)) (by have := HB2.out; simp; omega) (.int .i64 0)) (by have := HB2.out; simp; omega) (.int .i64 0))⟩
      | false =>
        have HTK := Lib.hid (show T = .inr (1, tx, 0, n) by rw [HTOK.out, hlt, if_pos rfl, hwd]; rfl)
        rw [isWord_tb, hwd] at HWD
        clear hlt hwd
        go_wp2_with fail
        refine (HWD.out _).mono ?_
        rintro e w1 ⟨rfl, rfl⟩
        go_wp2
        have hx0 : U.heap[b2]? = some (.cells #[.int .i64 0, .string ⟨#[]⟩, .int .i64 0, .int .i64 0, .int .i64 0] 33 (0, 0)) := HRU.out
        obtain ⟨j0, j1, j2, j3, j4⟩ := tok_five hx0 rfl (.int .i64 1) (.string tx) (.int .i64 0) (.int .i64 0) (.int .i64 0)
        clear hx0
        refine bodyPost_ret (v := .tuple #[.agg #[.int .i64 1, .string tx, .int .i64 0, .int .i64 0, .int .i64 0], .int .i64 (n : Int), .int .i64 0]) (by simp [results, Tryd.results23, go_sem, j0, j1, j2, j3, j4]) rfl ?_
        exact ⟨by rw [HTK.out]; rfl, (Below.setCell (p := ⟨b2, 4, none⟩) (Below.setCell (p := ⟨b2, 3, none⟩) (Below.setCell (p := ⟨b2, 2, none⟩) (Below.setCell (p := ⟨b2, 1, none⟩) (Below.setCell (p := ⟨b2, 0, none⟩) HBU.out (by have := HB2.out; simp; omega) (.int .i64 1)) (by have := HB2.out; simp; omega) (.string tx)) (by have := HB2.out; simp; omega) (.int .i64 0)) (by have := HB2.out; simp; omega) (.int .i64 0)) (by have := HB2.out; simp; omega) (.int .i64 0))⟩
  have hpf : partN s[0].toNat = false := by cases h : partN s[0].toNat with | false => rfl | true => exact (hp h).elim
  have hn0 : n = 0 := by rw [hn, hd, runL_no hpf]
  have hn0' : ¬ (0 : Int) < (n : Int) := by omega
  have hsp : (0 : Int) < (s.size : Int) := by omega
  have r0 : W.cell? ⟨b2, 0, none⟩ = some (.int .i64 0) := cell_of_blk HR.out rfl
  have r1 : W.cell? ⟨b2, 1, none⟩ = some (.string ⟨#[]⟩) := cell_of_blk HR.out rfl
  have r2 : W.cell? ⟨b2, 2, none⟩ = some (.int .i64 0) := cell_of_blk HR.out rfl
  have r3 : W.cell? ⟨b2, 3, none⟩ = some (.int .i64 0) := cell_of_blk HR.out rfl
  have r4 : W.cell? ⟨b2, 4, none⟩ = some (.int .i64 0) := cell_of_blk HR.out rfl
  have rf0 := free_of_blk (i := 0) HR.out
  have rf1 := free_of_blk (i := 1) HR.out
  have rf2 := free_of_blk (i := 2) HR.out
  have rf3 := free_of_blk (i := 3) HR.out
  have rf4 := free_of_blk (i := 4) HR.out
  have rl := blk_lt HR.out
  by_cases h34 : s[0] = 34
  case pos =>
    have htok : T = match textL (s.data.toList.drop 1) with
      | none => .inl 52
      | some (x, n) => .inr (4, ⟨x.toArray⟩, 0, n + 1) := by rw [hT]; exact tok_text (by rw [hd, h34]; rfl)
    have q34 : ((s[0].toNat : Int) == 34) = true := by rw [h34]; rfl
    have HTX := Lib.hid (fun w => rtext_any s hs hs0 w)
    cases htl : textL (s.data.toList.drop 1) with
    | none =>
      rw [htl] at htok HTX
      have HTK := Lib.hid (show T = .inl 52 from htok)
      unfold RTextV at HTX
      clear hT hd hn hp hpf htok htl h34 hn0
      go_enter Tryd.func23, Tryd.ntmps23
      go_wp2_with fail
      rw [← HWE.out, ← HBE.out]
      refine (HRN.out _).mono ?_
      rintro e w1 ⟨rfl, rfl⟩
      go_wp2_with fail
      refine (HTX.out _).mono ?_
      rintro e w2 ⟨rfl, hb2⟩
      have HR2 := Lib.hid (below_blk hb2 HR.out)
      have HW2 := Lib.hid (HW.out.trans (hb2.mono HW.out.size))
      clear hb2 r0 rf0 r1 rf1 r2 rf2 r3 rf3 r4 rf4 rl
      have r0 : w2.cell? ⟨b2, 0, none⟩ = some (.int .i64 0) := cell_of_blk HR2.out rfl
      have r1 : w2.cell? ⟨b2, 1, none⟩ = some (.string ⟨#[]⟩) := cell_of_blk HR2.out rfl
      have r2 : w2.cell? ⟨b2, 2, none⟩ = some (.int .i64 0) := cell_of_blk HR2.out rfl
      have r3 : w2.cell? ⟨b2, 3, none⟩ = some (.int .i64 0) := cell_of_blk HR2.out rfl
      have r4 : w2.cell? ⟨b2, 4, none⟩ = some (.int .i64 0) := cell_of_blk HR2.out rfl
      have rf0 := free_of_blk (i := 0) HR2.out
      have rf1 := free_of_blk (i := 1) HR2.out
      have rf2 := free_of_blk (i := 2) HR2.out
      have rf3 := free_of_blk (i := 3) HR2.out
      have rf4 := free_of_blk (i := 4) HR2.out
      have rl := blk_lt HR2.out
      go_wp2
      have hx0 : w2.heap[b2]? = some (.cells #[.int .i64 0, .string ⟨#[]⟩, .int .i64 0, .int .i64 0, .int .i64 0] 33 (0, 0)) := HR2.out
      obtain ⟨j0, j1, j2, j3, j4⟩ := tok_five hx0 rfl (.int .i64 0) (.string ⟨#[]⟩) (.int .i64 0) (.int .i64 0) (.int .i64 0)
      clear hx0
      refine bodyPost_ret (v := .tuple #[.agg #[.int .i64 0, .string ⟨#[]⟩, .int .i64 0, .int .i64 0, .int .i64 0], .int .i64 0, .int .i64 52]) (by simp [results, Tryd.results23, go_sem, j0, j1, j2, j3, j4]) rfl ?_
      exact ⟨by rw [HTK.out]; rfl, (Below.setCell (p := ⟨b2, 4, none⟩) (Below.setCell (p := ⟨b2, 3, none⟩) (Below.setCell (p := ⟨b2, 2, none⟩) (Below.setCell (p := ⟨b2, 1, none⟩) (Below.setCell (p := ⟨b2, 0, none⟩) HW2.out (by have := HB2.out; simp; omega) (.int .i64 0)) (by have := HB2.out; simp; omega) (.string ⟨#[]⟩)) (by have := HB2.out; simp; omega) (.int .i64 0)) (by have := HB2.out; simp; omega) (.int .i64 0)) (by have := HB2.out; simp; omega) (.int .i64 0))⟩
    | some q =>
      obtain ⟨x, m⟩ := q
      rw [htl] at htok HTX
      have HTK := Lib.hid (show T = .inr (4, ⟨x.toArray⟩, 0, m + 1) from htok)
      unfold RTextV at HTX
      obtain ⟨xb, hxb⟩ : ∃ xb : ByteArray, xb = ⟨x.toArray⟩ := ⟨_, rfl⟩
      obtain ⟨m1, hm1⟩ : ∃ m1, m1 = m + 1 := ⟨_, rfl⟩
      rw [← hxb, ← hm1] at HTK
      simp only [← hxb, ← hm1] at HTX
      clear hT hd hn hp hpf htok htl h34 hn0 hxb hm1
      go_enter Tryd.func23, Tryd.ntmps23
      go_wp2_with fail
      rw [← HWE.out, ← HBE.out]
      refine (HRN.out _).mono ?_
      rintro e w1 ⟨rfl, rfl⟩
      go_wp2_with fail
      refine (HTX.out _).mono ?_
      rintro e w2 ⟨rfl, hb2⟩
      have HR2 := Lib.hid (below_blk hb2 HR.out)
      have HW2 := Lib.hid (HW.out.trans (hb2.mono HW.out.size))
      clear hb2 r0 rf0 r1 rf1 r2 rf2 r3 rf3 r4 rf4 rl
      have r0 : w2.cell? ⟨b2, 0, none⟩ = some (.int .i64 0) := cell_of_blk HR2.out rfl
      have r1 : w2.cell? ⟨b2, 1, none⟩ = some (.string ⟨#[]⟩) := cell_of_blk HR2.out rfl
      have r2 : w2.cell? ⟨b2, 2, none⟩ = some (.int .i64 0) := cell_of_blk HR2.out rfl
      have r3 : w2.cell? ⟨b2, 3, none⟩ = some (.int .i64 0) := cell_of_blk HR2.out rfl
      have r4 : w2.cell? ⟨b2, 4, none⟩ = some (.int .i64 0) := cell_of_blk HR2.out rfl
      have rf0 := free_of_blk (i := 0) HR2.out
      have rf1 := free_of_blk (i := 1) HR2.out
      have rf2 := free_of_blk (i := 2) HR2.out
      have rf3 := free_of_blk (i := 3) HR2.out
      have rf4 := free_of_blk (i := 4) HR2.out
      have rl := blk_lt HR2.out
      go_wp2
      have hx0 : w2.heap[b2]? = some (.cells #[.int .i64 0, .string ⟨#[]⟩, .int .i64 0, .int .i64 0, .int .i64 0] 33 (0, 0)) := HR2.out
      obtain ⟨j0, j1, j2, j3, j4⟩ := tok_five hx0 rfl (.int .i64 4) (.string xb) (.int .i64 0) (.int .i64 0) (.int .i64 0)
      clear hx0
      refine bodyPost_ret (v := .tuple #[.agg #[.int .i64 4, .string xb, .int .i64 0, .int .i64 0, .int .i64 0], .int .i64 (m1 : Int), .int .i64 0]) (by simp [results, Tryd.results23, go_sem, j0, j1, j2, j3, j4]) rfl ?_
      exact ⟨by rw [HTK.out]; rfl, (Below.setCell (p := ⟨b2, 4, none⟩) (Below.setCell (p := ⟨b2, 3, none⟩) (Below.setCell (p := ⟨b2, 2, none⟩) (Below.setCell (p := ⟨b2, 1, none⟩) (Below.setCell (p := ⟨b2, 0, none⟩) HW2.out (by have := HB2.out; simp; omega) (.int .i64 4)) (by have := HB2.out; simp; omega) (.string xb)) (by have := HB2.out; simp; omega) (.int .i64 0)) (by have := HB2.out; simp; omega) (.int .i64 0)) (by have := HB2.out; simp; omega) (.int .i64 0))⟩
  have q34 : ((s[0].toNat : Int) == 34) = false := u8_lit (n := 34) (by decide) h34
  have htok := tok_sign hd hpf h34
  rw [← hT] at htok
  obtain ⟨m, hm⟩ : ∃ m, m = signL s.data.toList := ⟨_, rfl⟩
  rw [← hm] at htok
  have hmb := signL_le s.data.toList
  rw [← hm] at hmb
  have hms : m ≤ s.size := by have h := hmb.1; simpa using h
  have HSG := Lib.hid (show ∀ w, Calls Tryd.prog 39 #[.string s] w (Ret (.int .i64 (m : Int)) w) from fun w => by rw [hm]; exact rsign_any s hs0 w)
  obtain ⟨tx, htx⟩ : ∃ tx, tx = s.extract 0 m := ⟨_, rfl⟩
  have hx : s.extract 0 m = tx := htx.symm
  have htxe : (⟨(s.data.toList.take m).toArray⟩ : ByteArray) = tx := by rw [htx]; have := ext_take s 0 m; rw [Nat.zero_add, List.drop_zero] at this; exact this.symm
  by_cases hm0 : m = 0
  case pos =>
    have HTK := Lib.hid (show T = .inl 50 by rw [htok, if_pos hm0])
    have hm0' : ¬ (0 : Int) < (m : Int) := by omega
    clear hT hd hn hp hpf htok h34 hm hmb hn0 hx htx htxe hm0
    go_enter Tryd.func23, Tryd.ntmps23
    go_wp2_with fail
    rw [← HWE.out, ← HBE.out]
    refine (HRN.out _).mono ?_
    rintro e w1 ⟨rfl, rfl⟩
    go_wp2_with fail
    refine (HSG.out _).mono ?_
    rintro e w2 ⟨rfl, rfl⟩
    go_wp2
    have hx0 : W.heap[b2]? = some (.cells #[.int .i64 0, .string ⟨#[]⟩, .int .i64 0, .int .i64 0, .int .i64 0] 33 (0, 0)) := HR.out
    obtain ⟨j0, j1, j2, j3, j4⟩ := tok_five hx0 rfl (.int .i64 0) (.string ⟨#[]⟩) (.int .i64 0) (.int .i64 0) (.int .i64 0)
    clear hx0
    refine bodyPost_ret (v := .tuple #[.agg #[.int .i64 0, .string ⟨#[]⟩, .int .i64 0, .int .i64 0, .int .i64 0], .int .i64 0, .int .i64 50]) (by simp [results, Tryd.results23, go_sem, j0, j1, j2, j3, j4]) rfl ?_
    exact ⟨by rw [HTK.out]; rfl, (Below.setCell (p := ⟨b2, 4, none⟩) (Below.setCell (p := ⟨b2, 3, none⟩) (Below.setCell (p := ⟨b2, 2, none⟩) (Below.setCell (p := ⟨b2, 1, none⟩) (Below.setCell (p := ⟨b2, 0, none⟩) HW.out (by have := HB2.out; simp; omega) (.int .i64 0)) (by have := HB2.out; simp; omega) (.string ⟨#[]⟩)) (by have := HB2.out; simp; omega) (.int .i64 0)) (by have := HB2.out; simp; omega) (.int .i64 0)) (by have := HB2.out; simp; omega) (.int .i64 0))⟩
  have HTK := Lib.hid (show T = .inr (5, tx, 0, m) by rw [htok, if_neg hm0, htxe])
  have hm0' : (0 : Int) < (m : Int) := by omega
  have hms' : (m : Int) ≤ (s.size : Int) := by omega
  clear hT hd hn hp hpf htok h34 hm hmb hn0 htx htxe hm0
  go_enter Tryd.func23, Tryd.ntmps23
  go_wp2_with fail
  rw [← HWE.out, ← HBE.out]
  refine (HRN.out _).mono ?_
  rintro e w1 ⟨rfl, rfl⟩
  go_wp2_with fail
  refine (HSG.out _).mono ?_
  rintro e w2 ⟨rfl, rfl⟩
  go_wp2
  have hx0 : W.heap[b2]? = some (.cells #[.int .i64 0, .string ⟨#[]⟩, .int .i64 0, .int .i64 0, .int .i64 0] 33 (0, 0)) := HR.out
  obtain ⟨j0, j1, j2, j3, j4⟩ := tok_five hx0 rfl (.int .i64 5) (.string tx) (.int .i64 0) (.int .i64 0) (.int .i64 0)
  clear hx0
  refine bodyPost_ret (v := .tuple #[.agg #[.int .i64 5, .string tx, .int .i64 0, .int .i64 0, .int .i64 0], .int .i64 (m : Int), .int .i64 0]) (by simp [results, Tryd.results23, go_sem, j0, j1, j2, j3, j4]) rfl ?_
  exact ⟨by rw [HTK.out]; rfl, (Below.setCell (p := ⟨b2, 4, none⟩) (Below.setCell (p := ⟨b2, 3, none⟩) (Below.setCell (p := ⟨b2, 2, none⟩) (Below.setCell (p := ⟨b2, 1, none⟩) (Below.setCell (p := ⟨b2, 0, none⟩) HW.out (by have := HB2.out; simp; omega) (.int .i64 5)) (by have := HB2.out; simp; omega) (.string tx)) (by have := HB2.out; simp; omega) (.int .i64 0)) (by have := HB2.out; simp; omega) (.int .i64 0)) (by have := HB2.out; simp; omega) (.int .i64 0))⟩
end Go.Proofs.YtmjkelmlbihkpaaDoor
