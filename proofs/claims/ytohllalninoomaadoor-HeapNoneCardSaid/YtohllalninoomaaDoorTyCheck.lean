/-
  types.Check.
-/
import Derived.Test.YtohllalninoomaaDoorTyChk
import Derived.Laws.EntriesVeiled
set_option linter.unusedVariables false
set_option linter.unusedSimpArgs false
namespace Go.Proofs.YtohllalninoomaaDoor
open Go.ChangeShapes Go.WideShapes Go.ChangeAt Go.RowKit

theorem may_iff (t : LTy) : (Chk (51 - 1) (strip t) ∧ 0 + nodes (strip t) ≤ 10000) ↔ May (strip t) := by unfold May; rw [Nat.zero_add]
def LookOut (t : LTy) (bm : Nat) (w : World) (e : Ending) (w' : World) : Prop := Fr [bm] w w' ∧ ((May (strip t) ∧ e = .returned (.tuple #[])) ∨ (¬ May (strip t) ∧ e = .panicked (wrongV 0 90)))
set_option maxRecDepth 100000 in
set_option maxHeartbeats 2000000 in
theorem tlook_any (t : LTy) (w : World) (N bm bk bx : Nat) (hin : LIn w N t) (hsp : SpB N w) (hbx : Boxes w N bm bk 0) (hb : w.heap[bx]? = some (.cells #[.int .i64 t.kind, .slice t.A t.ns.length t.c, .slice t.A2 t.xs.length t.c2] 30 (0, 0))) :
    Calls Tryd.prog 73 #[.pointer (some ⟨bk, 0, none⟩), .pointer (some ⟨bx, 0, none⟩)] w (LookOut t bm w) := by
  have h := look_any t 1 0 w N bm bk hin hsp hbx (by omega) (by omega)
  unfold LTy.val at h
  have c0 := cell_of_blk (i := 0) hb rfl
  have c1 := cell_of_blk (i := 1) hb rfl
  have c2 := cell_of_blk (i := 2) hb rfl
  have q0 := cell_of_blk (i := 0) hbx.look rfl
  have lb := blk_lt hb
  have lq := blk_lt hbx.look
  have hcf : ∀ args W, (callFunc 68 args).run Tryd.prog W = .ok (.enter 68 args) W := fun _ _ => rfl
  have HC := Lib.hid h
  clear h hin hsp hbx hb
  go_enter Tryd.func73, Tryd.ntmps73
  go_wp2_with fail
  refine HC.out.mono ?_
  rintro e w1 ⟨hf, ⟨h1, h2, rfl, _⟩ | ⟨h1, rfl⟩⟩
  · have HF := Lib.hid (show LookOut t bm w (.returned (.tuple #[])) w1 from ⟨hf, .inl ⟨(may_iff t).1 ⟨h1, h2⟩, rfl⟩⟩)
    clear hf h1 h2
    go_wp2
    go_end0
    exact HF.out
  · have HF := Lib.hid (show LookOut t bm w (.panicked (wrongV 0 90)) w1 from ⟨hf, .inr ⟨fun e => h1 ((may_iff t).2 e), rfl⟩⟩)
    clear hf h1
    go_wp2
    exact ⟨rfl, HF.out⟩
set_option maxRecDepth 100000 in
set_option maxHeartbeats 4000000 in
theorem tcheck_any (t : LTy) (w : World) (hin : LIn w w.heap.size t) (hsp : SpW w) : Calls Tryd.prog 60 #[t.val] w (RetB (.bool (tb (May (strip t)))) w) := by
  unfold LTy.val
  have hmf : ∀ (fn : Fn) (first cap : Array Value) (w : World), (Instr.makeFunc fn first cap).run Tryd.prog w = .ok (.func fn first cap) w := fun _ _ _ _ => rfl
  have hcf : ∀ args W, (callFunc 73 args).run Tryd.prog W = .ok (.enter 73 args) W := fun _ _ => rfl
  obtain ⟨N, hN⟩ : ∃ N, N = w.heap.size := ⟨_, rfl⟩
  obtain ⟨bm, hbm⟩ : ∃ b, b = w.heap.size + 1 := ⟨_, rfl⟩
  obtain ⟨bk, hbk⟩ : ∃ b, b = w.heap.size + 1 + 1 := ⟨_, rfl⟩
  have HIN := Lib.hid hin
  have HSP := Lib.hid hsp
  clear hin hsp
  go_enter Tryd.func60, Tryd.ntmps60
  go_upto_region 3 with fail
  rw [← hbk, ← hbm, ← hN]
  refine gen_wpT fun W hW => ?_
  have kb := Lib.hid (show W.heap[N]? = some (.cells #[.int .i64 t.kind, .slice t.A t.ns.length t.c, .slice t.A2 t.xs.length t.c2] 30 (0, 0)) by rw [← hW, hN]; exact blk_alloc (blk_alloc (heap_new_at _ _ _ rfl) _) _)
  have km := Lib.hid (show W.heap[bm]? = some (.cells #[.int .i64 0] 3 (0, 0)) by rw [← hW, hbm]; exact blk_alloc (heap_new_at _ _ _ (by simp)) _)
  have kk := Lib.hid (show W.heap[bk]? = some (.cells #[.nilFunc] 132 (0, 0)) by rw [← hW, hbk]; exact heap_new_at _ _ _ (by simp))
  have kB := Lib.hid (show Below w.heap.size w W by rw [← hW]; exact (((Below.refl _ _).alloc (Nat.le_refl _) _).alloc (by simp) _).alloc (by simp; omega) _)
  have q0 := cell_of_blk (i := 0) kk.out rfl
  have f0 := free_of_blk (i := 0) kk.out
  have lk := blk_lt kk.out
  have HNN := Lib.hid (show N = w.heap.size ∧ N < bm ∧ bm < bk from ⟨hN, by omega, by omega⟩)
  clear hW hN hbm hbk
  go_upto_region 4 with fail
  refine gen_wpT fun V hV => ?_
  have jb := Lib.hid (show V.heap[N]? = some (.cells #[.int .i64 t.kind, .slice t.A t.ns.length t.c, .slice t.A2 t.xs.length t.c2] 30 (0, 0)) by rw [← hV]; exact blk_far kb.out (by have := HNN.out; simp; omega) _)
  have jm := Lib.hid (show V.heap[bm]? = some (.cells #[.int .i64 0] 3 (0, 0)) by rw [← hV]; exact blk_far km.out (by have := HNN.out; simp; omega) _)
  have jk := Lib.hid (show V.heap[bk]? = some (.cells #[.func (.func 68) #[] #[.pointer (some ⟨bm, 0, none⟩), .pointer (some ⟨bk, 0, none⟩)]] 132 (0, 0)) by rw [← hV]; exact blk_set (i := 0) kk.out _)
  have jB := Lib.hid (show Below w.heap.size w V by rw [← hV]; exact kB.out.setCell (by have := HNN.out; simp; omega) _)
  clear hV q0 f0 lk
  have hbxs : ∀ w1, w1 = (V.alloc (.cells #[.int .i64 0] 3)).alloc (.cells #[.int .i64 0] 39) → Calls Tryd.prog 73 #[.pointer (some ⟨bk, 0, none⟩), .pointer (some ⟨N, 0, none⟩)] w1 (LookOut t bm w1) := by
    intro w1 h1
    have hb1 : Below w.heap.size w w1 := by rw [h1]; exact (jB.out.alloc jB.out.size _).alloc (by have := jB.out.size; simp; omega) _
    have e : N = w.heap.size := HNN.out.1
    refine tlook_any t w1 N bm bk N ?_ ?_ ⟨?_, ?_, by have := HNN.out; omega, by have := HNN.out; omega⟩ ?_
    · rw [e]; exact HIN.out.stay hb1
    · rw [e]; exact HSP.out.at_.on hb1
    · rw [h1]; exact blk_alloc (blk_alloc jm.out _) _
    · rw [h1]; exact blk_alloc (blk_alloc jk.out _) _
    · rw [h1]; exact blk_alloc (blk_alloc jb.out _) _
  have hfin : ∀ w2 w' : World, Fr [bm] ((V.alloc (.cells #[.int .i64 0] 3)).alloc (.cells #[.int .i64 0] 39)) w2 → Fr [V.heap.size, V.heap.size + 1] w2 w' → Below w.heap.size w w' := fun w2 w' h2 h3 => by
    have hb1 : Below w.heap.size w ((V.alloc (.cells #[.int .i64 0] 3)).alloc (.cells #[.int .i64 0] 39)) := (jB.out.alloc jB.out.size _).alloc (by have := jB.out.size; simp; omega) _
    have e := HNN.out
    have hs := jB.out.size
    have hs2 := h2.size
    exact (hb1.trans (h2.to_below (by simp; omega) (by simp; omega))).trans (h3.to_below (by simp at hs2; omega) (by simp; omega))
  have HFIN := Lib.hid hfin
  have hSb : ∀ b ∈ [bm], b < V.heap.size := by intro b hb; rw [List.mem_singleton.1 hb]; exact blk_lt jm.out
  by_cases hmay : May (strip t)
  · have hg := guarded_ok 73 #[.pointer (some ⟨bk, 0, none⟩), .pointer (some ⟨N, 0, none⟩)] V (fun w2 => Fr [bm] ((V.alloc (.cells #[.int .i64 0] 3)).alloc (.cells #[.int .i64 0] 39)) w2) [bm] hSb
      (fun w1 h1 => (hbxs w1 h1).mono fun e w2 ⟨hf, h⟩ => by
        rcases h with ⟨_, he⟩ | ⟨hn, _⟩
        · exact ⟨he, hf, h1 ▸ hf⟩
        · exact (hn hmay).elim) (fun W => rfl)
    have HG := Lib.hid hg
    clear hg hbxs hfin
    go_wp2_with fail
    refine HG.out.mono ?_
    rintro e w5 ⟨rfl, w2, h2, h3⟩
    have HE := Lib.hid (HFIN.out w2 w5 h2 h3)
    clear h2 h3
    go_wp2
    go_ret
    exact ⟨congrArg (fun b => Ending.returned (.bool b)) (tb_true hmay).symm, HE.out⟩
  · have hg := guarded_no 0 90 73 #[.pointer (some ⟨bk, 0, none⟩), .pointer (some ⟨N, 0, none⟩)] V (fun w2 => Fr [bm] ((V.alloc (.cells #[.int .i64 0] 3)).alloc (.cells #[.int .i64 0] 39)) w2) [bm] hSb
      (fun w1 h1 => (hbxs w1 h1).mono fun e w2 ⟨hf, h⟩ => by
        rcases h with ⟨hm, _⟩ | ⟨_, he⟩
        · exact (hmay hm).elim
        · exact ⟨he, hf, h1 ▸ hf⟩) (fun W => rfl)
    have HG := Lib.hid hg
    clear hg hbxs hfin
    go_wp2_with fail
    refine HG.out.mono ?_
    rintro e w5 ⟨rfl, w2, h2, h3⟩
    have HE := Lib.hid (HFIN.out w2 w5 h2 h3)
    clear h2 h3
    go_wp2
    go_ret
    exact ⟨congrArg (fun b => Ending.returned (.bool b)) (tb_false hmay).symm, HE.out⟩
end Go.Proofs.YtohllalninoomaaDoor
