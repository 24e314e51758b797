/-
 ParseChecks: part 13 of what the claim rests on.
-/
import Derived.Test.YthobobmbileekaaGreatDoorC01
import Derived.Test.YthobobmbileekaaGreatDoorC12
import Derived.Laws.OwnMore
set_option linter.unusedVariables false
set_option linter.unusedSimpArgs false
set_option maxHeartbeats 64000000
set_option maxRecDepth 100000
namespace Go.Proofs.YthobobmbileekaaGreatDoor
open Go.ChangeShapes Go.WideShapes Go.ChangeAt Go.RowKit

theorem infoNd : (Tryz.prog.info? 31).map (fun i => (i.zero, i.size, i.bytes)) = some (some (.agg #[.int .i64 0, .string ByteArray.empty, .slice none 0 0, .int .i64 0]), 4, 56) := by kernel_rfl
theorem infoIn : (Tryz.prog.info? 3).map (fun i => (i.zero, i.size, i.bytes)) = some (some (.int .i64 0), 1, 8) := by kernel_rfl
theorem step_append_nil {ops : Array Oper} {o : Oper} {a : Act} {K : Act → World → Prop} {Q : Exit → Act → World → Prop} {E : Prop} {w : World} (hgd : o.guard = none) (s x : Operand)
  (ho : o.op = .call { callee := .builtin .append, args := #[s, x], argTypes := #[29, 29] })
  (hs : a.eval s = .slice none 0 0) (hx : a.eval x = .slice none 0 0) (h : K (a.put o.dst (.slice none 0 0)) w) :
  if Region.wanted o (yielded ops a.tmps) = true then Oper.wp Tryz.prog o a w K Q else E := by
 obtain ⟨i0, hi, hz0, hz1, hz2⟩ := info_parts infoIn
 have hw : Region.wanted o (yielded ops a.tmps) = true := by simp [Region.wanted, hgd]
 rw [if_pos hw]
 have hrun := run_append_owned_none (P := Tryz.prog) (w := w) 0 29 o.type 3 i0 1 Tryz.underlying29 hi (.slice none 0 0) 0 [] (World.ownsRow_nil _ _ _ _)
 unfold Oper.wp
 simp [execOp, ho, resolve, invoke, builtin, hs, hx, hrun, Result.andThen]
 exact h
theorem own_rows_ne {w : World} {b1 b2 n1 n2 s1 s2 : Nat} {e1 e2 : TypeId} {v1 v2 : Value} {x1 x2 : List Value} (h1 : w.ownsRow b1 e1 s1 v1 n1 x1) (h2 : w.ownsRow b2 e2 s2 v2 n2 x2) (hne : e1 ≠ e2) {g : Nat} (hg1 : v1.ownBlock = some g) (hg2 : v2.ownBlock = some g) : False := by
 rcases h2.2 with ⟨rfl, _⟩ | ⟨g', cap, cur, rfl, _, hh, _⟩
 ·simp [Value.ownBlock] at hg2
 ·have : g' = g := by simpa [Value.ownBlock] using hg2
  subst this; exact own_blk_ne h1 hh hne hg1.symm
theorem own_blk_lt {w : World} {b n s : Nat} {e : TypeId} {v : Value} {x : List Value} (h : w.ownsRow b e s v n x) {g : Nat} (hg : v.ownBlock = some g) : b ≤ g ∧ g < w.heap.size := by
 rcases h.2 with ⟨rfl, _⟩ | ⟨g', cap, cur, rfl, hb, hh, _⟩
 ·simp [Value.ownBlock] at hg
 ·have : g' = g := by simpa [Value.ownBlock] using hg
  subst this; exact ⟨hb, blk_lt hh⟩
theorem pa_laid {K : PaK} {w w1 w2 w3 : World} {p i o : Nat} {sn : Fin 8 → Bool} {ns : List Nd} {fp : List Nat} {A0 : Option Addr} {c0 : Nat} {l : List NdM} {kd : Int} {x : ByteArray} {a : Nat} {ks : List Nat} {A1 : Option Addr} {c1 : Nat} {g cap : Nat}
  (H : PaAt K w p i o sn ns fp) (hm : PaMem K w p i o sn ns fp (.slice A0 ns.length c0) l) (h1 : Below w.heap.size w w1)
  (hk : w1.ownsRow (p + 1) 3 1 (.slice A1 ks.length c1) ks.length (ks.map natV)) (hkn : ∀ g, (Value.slice A1 ks.length c1).ownBlock = some g → w.heap.size ≤ g)
  (h2 : Below w1.heap.size w1 w2) (hg : w2.grownBy w3 (Value.slice A0 ns.length c0).ownBlock)
  (ho : w3.ownsRow (p + 1) 31 4 (.slice (some ⟨g, 0, none⟩) (ns.length + 1) cap) (ns.length + 1) (l.flatMap ndEnc ++ ndEnc ⟨⟨kd, x, ks, a⟩, A1, c1⟩))
  (hat : (Value.slice A0 ns.length c0).ownBlock = some g ∨ w2.heap.size ≤ g) :
  ∃ fp', PaAt K (w3.setCell ⟨p, 2, none⟩ (.slice (some ⟨g, 0, none⟩) (ns.length + 1) cap)) p i o sn (ns ++ [⟨kd, x, ks, a⟩]) fp' ∧ PaTo w fp (w3.setCell ⟨p, 2, none⟩ (.slice (some ⟨g, 0, none⟩) (ns.length + 1) cap)) fp' := by
 have hpw := H.lt
 have b2 : Below w.heap.size w w2 := h1.trans (h2.mono h1.size)
 have hm2 := hm.fr (Fr.of_below b2 []) (by simp)
 have hk2 := below_own h2 hk
 have hf3 : Fr (Value.slice A0 ns.length c0).ownBlock.toList w2 w3 := (Fr.refl _ _).grown hg fun g' hg' => .inl (by simp [hg'])
 have hR : ∀ b ∈ (Value.slice A0 ns.length c0).ownBlock.toList, (Value.slice A0 ns.length c0).ownBlock = some b := fun b hb => by simpa using hb
 have hp3 : w3.heap[p]? = some (PaBlk K i o (.slice A0 ns.length c0) sn) := hf3.blk hm2.blk fun e => hm2.parser_ne.1 (hR p e).symm
 have hkid3 : ∀ y ∈ l, NdKid w3 p y := fun y hy => hf3.own (hm2.kid y hy) fun g' hg' e => own_rows_ne (hm2.kid y hy) hm2.own (by decide) hg' (hR g' e)
 have hk3 : w3.ownsRow (p + 1) 3 1 (.slice A1 ks.length c1) ks.length (ks.map natV) := hf3.own hk2 fun g' hg' e => by
  have e1 := hkn g' hg'; have e2 := (hm.fpb g' (hm.fpo g' (hR g' e))).2
  omega
 have hset : Fr [p] w3 (w3.setCell ⟨p, 2, none⟩ (.slice (some ⟨g, 0, none⟩) (ns.length + 1) cap)) := (Fr.refl _ _).set _ (.inl (by simp))
 have hne : ∀ {n s : Nat} {e : TypeId} {v : Value} {xs : List Value}, w3.ownsRow (p + 1) e s v n xs → ∀ g', v.ownBlock = some g' → g' ∉ [p] := fun h g' hg' e => by
  have := (own_blk_lt h hg').1; have := List.mem_singleton.1 e
  omega
 have hfin : Fr fp w (w3.setCell ⟨p, 2, none⟩ (.slice (some ⟨g, 0, none⟩) (ns.length + 1) cap)) := ((Fr.of_below b2 fp).trans hf3 fun b hb => .inl (hm.fpo b (hR b hb))).trans hset fun b hb => .inl (by rw [List.mem_singleton.1 hb]; exact hm.fpp)
 have hsz := hfin.size
 have hs3 := hset.size
 refine ⟨g :: ((Value.slice A1 ks.length c1).ownBlock.toList ++ fp), ⟨H.env.below (hfin.to_below (Nat.le_of_lt hpw) fun b hb => (hm.fpb b hb).1), .slice (some ⟨g, 0, none⟩) (ns.length + 1) cap, l ++ [⟨⟨kd, x, ks, a⟩, A1, c1⟩], ?_⟩, hfin, fun b hb => ?_⟩
 ·refine ⟨blk_set (i := 2) hp3 _, ?_, by simp [hm.nds], fun y hy => ?_, by simp [hm.fpp], fun g' hg' => ?_, fun y hy g' hg' => ?_, fun b hb => ?_⟩
  ·have := hset.own ho (hne ho)
   simpa [List.flatMap_append] using this
  ·rcases List.mem_append.1 hy with hy | hy
   ·exact hset.own (hkid3 y hy) (hne (hkid3 y hy))
   ·rw [List.mem_singleton.1 hy]
    exact hset.own hk3 (hne hk3)
  ·have : g = g' := by simpa [Value.ownBlock] using hg'
   rw [this]; simp
  ·rcases List.mem_append.1 hy with hy | hy
   ·have := hm.fpk y hy g' hg'
    simp [this]
   ·rw [List.mem_singleton.1 hy] at hg'
    have : g' ∈ (Value.slice A1 ks.length c1).ownBlock.toList := by rw [show (Value.slice A1 ks.length c1).ownBlock = some g' from hg']; simp
    simp [this]
  ·simp only [List.mem_cons, List.mem_append, Option.mem_toList] at hb
   rcases hb with rfl | hb | hb
   ·have := own_blk_lt ho (g := b) rfl
    exact ⟨by omega, by omega⟩
   ·have := own_blk_lt hk3 hb
    exact ⟨by omega, by omega⟩
   ·have := hm.fpb b hb
    exact ⟨this.1, by omega⟩
 ·simp only [List.mem_cons, List.mem_append, Option.mem_toList] at hb
  rcases hb with rfl | hb | hb
  ·rcases hat with e | e
   ·exact .inl (hm.fpo _ e)
   ·exact .inr (Nat.le_trans b2.size e)
  ·exact .inr (hkn b hb)
  ·exact .inl hb
theorem lay_leaf {KP : PaK} {w : World} {p i o : Nat} {sn : Fin 8 → Bool} {ns : List Nd} {fp : List Nat} (h : PaAt KP w p i o sn ns fp) (hns : ns.length ≤ 900000) (kd : Int) (x : ByteArray) (a : Nat) :
  Calls Tryz.prog 23 #[.pointer (some ⟨p, 0, none⟩), .int .i64 kd, .string x, natV a, .slice none 0 0] w (fun e w' => e = .returned (natV ns.length) ∧ ∃ fp', PaAt KP w' p i o sn (ns ++ [⟨kd, x, [], a⟩]) fp' ∧ PaTo w fp w' fp') := by
 obtain ⟨iN, hiN, hN0, hN1, hN2⟩ := info_parts infoNd
 obtain ⟨iI, hiI, hI0, hI1, hI2⟩ := info_parts infoIn
 obtain ⟨nv, l, hm⟩ := h.mem
 obtain ⟨A0, c0, hv, hc1, hc2, -⟩ := own_form hm.own
 subst hv
 have H := zh h
 have HM := zh hm
 have HC := zh (And.intro hc1 hc2)
 obtain ⟨n0, hn0⟩ : ∃ n, n = ns.length := ⟨_, rfl⟩
 have HN := zh hn0
 have HB := zh hm.blk
 have HBD := zh (show w.drew.heap[p]? = some (PaBlk KP i o (.slice A0 ns.length c0) sn) from hm.blk)
 have HPB := zh (show p + 1 ≤ w.heap.size from h.lt)
 have HOWN := zh hm.own
 rw [← hn0] at HB HBD HOWN
 rw [← hn0] at hns
 clear h hm hc1 hc2 hn0 
 unfold natV
 go_enter Tryz.func23, Tryz.ntmps23
 go_upto_region 1 with fail
 refine wp_region_held_drew (S := fun _ => True) (by kernel_rfl) (trivial) (fun hHeld => ?_)
 refine ztk 0 11 (.pointer (some ⟨p, 0, none⟩)) hHeld ?_; simp only [zq]
 refine ztk 1 12 (.pointer (some ⟨p, 0, none⟩)) hHeld ?_; simp only [zq]
 refine ztk 2 13 (.pointer (some ⟨p, 0, none⟩)) hHeld ?_; simp only [zq]
 refine ztk 3 14 (.pointer (some ⟨p, 2, none⟩)) hHeld ?_; simp only [zq]
 refine ztk 5 16 (.int .i64 kd) hHeld ?_; simp only [zq]
 refine ztk 6 17 (.string x) hHeld ?_; simp only [zq]
 refine ztk 7 18 (.int .i64 (a : Int)) hHeld ?_; simp only [zq]
 refine ztk 8 19 (.slice none 0 0) hHeld ?_; simp only [zq]
 refine wpAnyH_ready (rs := [4, 9]) (by kernel_rfl) (by simp) ?_
 refine AllReadyH.cons (o := _) rfl (fun K hK => ?_) (AllReadyH.cons (o := _) rfl (fun K hK => ?_) (AllReadyH.nil))
 ·have q4 := (pa_cell HBD.out).2.2.1
  go_simp
  clear q4; refine hK.out _ _ (trivial) (fun hHeld => ?_); clear hK K
  try simp only [zq]
  refine zrd 9 fun K hK => ?_; refine step_append_nil (by rfl) _ _ (by rfl) (by rfl) (by rfl) ?_; obtain ⟨w1, hw1⟩ : ∃ w1, w1 = w.drew := ⟨_, rfl⟩; rw [← hw1]; have H1 := zh (show Below w.heap.size w w1 by rw [hw1]; exact zbr.drew); have HK := zh (show w1.ownsRow (p + 1) 3 1 (.slice none ([] : List Nat).length 0) ([] : List Nat).length (([] : List Nat).map natV) from World.ownsRow_nil _ _ _ _); have HKN := zh (show ∀ g, (Value.slice none ([] : List Nat).length 0).ownBlock = some g → w.heap.size ≤ g from fun g hg => by simp [Value.ownBlock] at hg); have HB1 := zh (below_blk H1.out HB.out); clear hw1; refine hK.out _ _ (trivial) (fun hHeld => ?_); clear hK K
  try simp only [zq]
  refine ztk 10 21 (.agg #[.int .i64 kd, .string x, .slice none 0 0, .int .i64 (a : Int)]) hHeld ?_; simp only [zq]; refine zrd 11 fun K hK => ?_
  go_simp
  obtain ⟨w2, hw2⟩ : ∃ w2, w2 = w1.alloc (.cells #[.int .i64 kd, .string x, .slice none 0 0, .int .i64 (a : Int)] 31) := ⟨_, rfl⟩; have HW2 := zh hw2; have H2 := zh (show Below w1.heap.size w1 w2 by rw [hw2]; exact zbr.alloc znr _); have HB2 := zh (below_blk H2.out HB1.out); rw [← hw2]; clear hw2; refine hK.out _ _ (trivial) (fun hHeld => ?_); clear hK K
  try simp only [zq]
  refine zrd 12 fun K hK => ?_; refine step_append_lies _ (by rfl) _ _ _ (by rfl) (p + 1) 31 iN _ 4 56 Tryz.underlying23 hiN hN0 hN1 hN2 rfl (by omega) (.slice A0 n0 c0) n0 (l.flatMap ndEnc) (by rfl) (below_own H2.out (below_own H1.out HOWN.out)) ⟨w1.heap.size, 0, none⟩ 1 1 [.int .i64 kd, .string x, .slice none 0 0, .int .i64 (a : Int)] (by rfl) (by rfl) (by rw [HW2.out]; exact news_new w1 #[.int .i64 kd, .string x, .slice none 0 0, .int .i64 (a : Int)] _ _ rfl) (by simp [Value.oneCell']) (by omega) (by unfold maxLen; omega) (by omega) (by have := H1.out.size; have := H2.out.size; have := HPB.out; omega) (w1.heap.size + 1) (by rw [HW2.out]; simp) ?_; intro g cap w3 hown3 hgrow3 hat3 hl3; have HFIN := zh (pa_laid (kd := kd) (x := x) (a := a) (ks := []) (g := g) (cap := cap) H.out HM.out H1.out HK.out HKN.out H2.out (by rw [← HN.out]; exact hgrow3) (by rw [← HN.out]; exact hown3) (by rw [← HN.out]; exact hat3.imp id fun e => by rw [e, HW2.out]; simp)); have HB3 := zh (show w3.heap[p]? = some (PaBlk KP i o (.slice A0 n0 c0) sn) from (Fr.grown (S := (Value.slice A0 n0 c0).ownBlock.toList) (Fr.refl _ _) hgrow3 fun g' hg' => .inl (by simp [hg'])).blk HB2.out fun e => by have h9 := HM.out.parser_ne.1; rw [← HN.out] at h9; exact h9 (by simpa using e : (Value.slice A0 n0 c0).ownBlock = some p).symm); clear hown3 hgrow3 hat3 hl3; refine hK.out _ _ (trivial) (fun hHeld => ?_); clear hK K
  try simp only [zq]
  refine ztk 13 24 (.pointer (some ⟨p, 0, none⟩)) hHeld ?_; simp only [zq]; refine ztk 14 25 (.pointer (some ⟨p, 2, none⟩)) hHeld ?_; simp only [zq]; refine zrd 15 fun K hK => ?_; obtain ⟨-, -, r2, -, -, rf⟩ := pa_cell HB3.out; have rf2 := rf 2; have rl := blk_lt HB3.out; clear rf
  go_simp
  refine hK.out _ _ (trivial) (fun hHeld => ?_); clear hK K
  try simp only [zq]
  refine wpAnyH_done (by kernel_rfl) ?_ _; have e2 : (w3.setCell ⟨p, 2, none⟩ (.slice (some ⟨g, 0, none⟩) (n0 + 1) cap)).cell? ⟨p, 2, none⟩ = some (.slice (some ⟨g, 0, none⟩) (n0 + 1) cap) := cell_of_blk (blk_set (i := 2) HB3.out _) rfl; have hs1 : ((n0 + 1 : Nat) : Int) - 1 = (n0 : Int) := by omega
  have hs2 : IntKind.i64.wrap (n0 : Int) = (n0 : Int) := IntWalk.i64_in _ (by omega); have HF2 := zh (show _ from by have h9 := HFIN.out; rw [← HN.out] at h9; exact h9); clear r2 rf2 rl; go_wp2
  go_ret
  exact ⟨by rw [← HN.out]; rfl, HF2.out⟩
 ·refine step_append_nil (by rfl) _ _ (by rfl) (by rfl) (by rfl) ?_
  obtain ⟨w1, hw1⟩ : ∃ w1, w1 = w.drew := ⟨_, rfl⟩; rw [← hw1]; have H1 := zh (show Below w.heap.size w w1 by rw [hw1]; exact zbr.drew); have HK := zh (show w1.ownsRow (p + 1) 3 1 (.slice none ([] : List Nat).length 0) ([] : List Nat).length (([] : List Nat).map natV) from World.ownsRow_nil _ _ _ _); have HKN := zh (show ∀ g, (Value.slice none ([] : List Nat).length 0).ownBlock = some g → w.heap.size ≤ g from fun g hg => by simp [Value.ownBlock] at hg); have HB1 := zh (below_blk H1.out HB.out); clear hw1; refine hK.out _ _ (trivial) (fun hHeld => ?_); clear hK K
  try simp only [zq]
  refine ztk 10 21 (.agg #[.int .i64 kd, .string x, .slice none 0 0, .int .i64 (a : Int)]) hHeld ?_; simp only [zq]; refine wpAnyH_ready (rs := [4, 11]) (by kernel_rfl) (by simp) ?_; refine AllReadyH.cons (o := _) rfl (fun K hK => ?_) (AllReadyH.cons (o := _) rfl (fun K hK => ?_) (AllReadyH.nil))
  ·have q4 := (pa_cell HB1.out).2.2.1
   go_simp
   clear q4; refine hK.out _ _ (trivial) (fun hHeld => ?_); clear hK K
   try simp only [zq]
   refine zrd 11 fun K hK => ?_
   go_simp
   obtain ⟨w2, hw2⟩ : ∃ w2, w2 = w1.alloc (.cells #[.int .i64 kd, .string x, .slice none 0 0, .int .i64 (a : Int)] 31) := ⟨_, rfl⟩; have HW2 := zh hw2; have H2 := zh (show Below w1.heap.size w1 w2 by rw [hw2]; exact zbr.alloc znr _); have HB2 := zh (below_blk H2.out HB1.out); rw [← hw2]; clear hw2; refine hK.out _ _ (trivial) (fun hHeld => ?_); clear hK K
   try simp only [zq]
   refine zrd 12 fun K hK => ?_; refine step_append_lies _ (by rfl) _ _ _ (by rfl) (p + 1) 31 iN _ 4 56 Tryz.underlying23 hiN hN0 hN1 hN2 rfl (by omega) (.slice A0 n0 c0) n0 (l.flatMap ndEnc) (by rfl) (below_own H2.out (below_own H1.out HOWN.out)) ⟨w1.heap.size, 0, none⟩ 1 1 [.int .i64 kd, .string x, .slice none 0 0, .int .i64 (a : Int)] (by rfl) (by rfl) (by rw [HW2.out]; exact news_new w1 #[.int .i64 kd, .string x, .slice none 0 0, .int .i64 (a : Int)] _ _ rfl) (by simp [Value.oneCell']) (by omega) (by unfold maxLen; omega) (by omega) (by have := H1.out.size; have := H2.out.size; have := HPB.out; omega) (w1.heap.size + 1) (by rw [HW2.out]; simp) ?_; intro g cap w3 hown3 hgrow3 hat3 hl3; have HFIN := zh (pa_laid (kd := kd) (x := x) (a := a) (ks := []) (g := g) (cap := cap) H.out HM.out H1.out HK.out HKN.out H2.out (by rw [← HN.out]; exact hgrow3) (by rw [← HN.out]; exact hown3) (by rw [← HN.out]; exact hat3.imp id fun e => by rw [e, HW2.out]; simp)); have HB3 := zh (show w3.heap[p]? = some (PaBlk KP i o (.slice A0 n0 c0) sn) from (Fr.grown (S := (Value.slice A0 n0 c0).ownBlock.toList) (Fr.refl _ _) hgrow3 fun g' hg' => .inl (by simp [hg'])).blk HB2.out fun e => by have h9 := HM.out.parser_ne.1; rw [← HN.out] at h9; exact h9 (by simpa using e : (Value.slice A0 n0 c0).ownBlock = some p).symm); clear hown3 hgrow3 hat3 hl3; refine hK.out _ _ (trivial) (fun hHeld => ?_); clear hK K
   try simp only [zq]
   refine ztk 13 24 (.pointer (some ⟨p, 0, none⟩)) hHeld ?_; simp only [zq]; refine ztk 14 25 (.pointer (some ⟨p, 2, none⟩)) hHeld ?_; simp only [zq]; refine zrd 15 fun K hK => ?_; obtain ⟨-, -, r2, -, -, rf⟩ := pa_cell HB3.out; have rf2 := rf 2; have rl := blk_lt HB3.out; clear rf
   go_simp
   refine hK.out _ _ (trivial) (fun hHeld => ?_); clear hK K
   try simp only [zq]
   refine wpAnyH_done (by kernel_rfl) ?_ _; have e2 : (w3.setCell ⟨p, 2, none⟩ (.slice (some ⟨g, 0, none⟩) (n0 + 1) cap)).cell? ⟨p, 2, none⟩ = some (.slice (some ⟨g, 0, none⟩) (n0 + 1) cap) := cell_of_blk (blk_set (i := 2) HB3.out _) rfl; have hs1 : ((n0 + 1 : Nat) : Int) - 1 = (n0 : Int) := by omega
   have hs2 : IntKind.i64.wrap (n0 : Int) = (n0 : Int) := IntWalk.i64_in _ (by omega); have HF2 := zh (show _ from by have h9 := HFIN.out; rw [← HN.out] at h9; exact h9); clear r2 rf2 rl; go_wp2
   go_ret
   exact ⟨by rw [← HN.out]; rfl, HF2.out⟩
  ·go_simp
   obtain ⟨w2, hw2⟩ : ∃ w2, w2 = w1.alloc (.cells #[.int .i64 kd, .string x, .slice none 0 0, .int .i64 (a : Int)] 31) := ⟨_, rfl⟩; have HW2 := zh hw2; have H2 := zh (show Below w1.heap.size w1 w2 by rw [hw2]; exact zbr.alloc znr _); have HB2 := zh (below_blk H2.out HB1.out); rw [← hw2]; clear hw2; refine hK.out _ _ (trivial) (fun hHeld => ?_); clear hK K
   try simp only [zq]
   refine zrd 4 fun K hK => ?_; have q4 := (pa_cell HB2.out).2.2.1
   go_simp
   clear q4; refine hK.out _ _ (trivial) (fun hHeld => ?_); clear hK K
   try simp only [zq]
   refine zrd 12 fun K hK => ?_; refine step_append_lies _ (by rfl) _ _ _ (by rfl) (p + 1) 31 iN _ 4 56 Tryz.underlying23 hiN hN0 hN1 hN2 rfl (by omega) (.slice A0 n0 c0) n0 (l.flatMap ndEnc) (by rfl) (below_own H2.out (below_own H1.out HOWN.out)) ⟨w1.heap.size, 0, none⟩ 1 1 [.int .i64 kd, .string x, .slice none 0 0, .int .i64 (a : Int)] (by rfl) (by rfl) (by rw [HW2.out]; exact news_new w1 #[.int .i64 kd, .string x, .slice none 0 0, .int .i64 (a : Int)] _ _ rfl) (by simp [Value.oneCell']) (by omega) (by unfold maxLen; omega) (by omega) (by have := H1.out.size; have := H2.out.size; have := HPB.out; omega) (w1.heap.size + 1) (by rw [HW2.out]; simp) ?_; intro g cap w3 hown3 hgrow3 hat3 hl3; have HFIN := zh (pa_laid (kd := kd) (x := x) (a := a) (ks := []) (g := g) (cap := cap) H.out HM.out H1.out HK.out HKN.out H2.out (by rw [← HN.out]; exact hgrow3) (by rw [← HN.out]; exact hown3) (by rw [← HN.out]; exact hat3.imp id fun e => by rw [e, HW2.out]; simp)); have HB3 := zh (show w3.heap[p]? = some (PaBlk KP i o (.slice A0 n0 c0) sn) from (Fr.grown (S := (Value.slice A0 n0 c0).ownBlock.toList) (Fr.refl _ _) hgrow3 fun g' hg' => .inl (by simp [hg'])).blk HB2.out fun e => by have h9 := HM.out.parser_ne.1; rw [← HN.out] at h9; exact h9 (by simpa using e : (Value.slice A0 n0 c0).ownBlock = some p).symm); clear hown3 hgrow3 hat3 hl3; refine hK.out _ _ (trivial) (fun hHeld => ?_); clear hK K
   try simp only [zq]
   refine ztk 13 24 (.pointer (some ⟨p, 0, none⟩)) hHeld ?_; simp only [zq]; refine ztk 14 25 (.pointer (some ⟨p, 2, none⟩)) hHeld ?_; simp only [zq]; refine zrd 15 fun K hK => ?_; obtain ⟨-, -, r2, -, -, rf⟩ := pa_cell HB3.out; have rf2 := rf 2; have rl := blk_lt HB3.out; clear rf
   go_simp
   refine hK.out _ _ (trivial) (fun hHeld => ?_); clear hK K
   try simp only [zq]
   refine wpAnyH_done (by kernel_rfl) ?_ _; have e2 : (w3.setCell ⟨p, 2, none⟩ (.slice (some ⟨g, 0, none⟩) (n0 + 1) cap)).cell? ⟨p, 2, none⟩ = some (.slice (some ⟨g, 0, none⟩) (n0 + 1) cap) := cell_of_blk (blk_set (i := 2) HB3.out _) rfl; have hs1 : ((n0 + 1 : Nat) : Int) - 1 = (n0 : Int) := by omega
   have hs2 : IntKind.i64.wrap (n0 : Int) = (n0 : Int) := IntWalk.i64_in _ (by omega); have HF2 := zh (show _ from by have h9 := HFIN.out; rw [← HN.out] at h9; exact h9); clear r2 rf2 rl; go_wp2
   go_ret
   exact ⟨by rw [← HN.out]; rfl, HF2.out⟩
theorem lay_kids {KP : PaK} {w : World} {p i o : Nat} {sn : Fin 8 → Bool} {ns : List Nd} {fp : List Nat} (h : PaAt KP w p i o sn ns fp) (hns : ns.length ≤ 900000) (kd : Int) (x : ByteArray) (a : Nat) {ks : List Nat} {ad : Addr} {c : Nat} (hr : ∀ j u, (ks.map natV)[j]? = some u → w.cell? (ad.add j) = some u) (hk0 : 0 < ks.length) (hk1 : ks.length ≤ 900000) (hac : ad.block < w.heap.size) :
  Calls Tryz.prog 23 #[.pointer (some ⟨p, 0, none⟩), .int .i64 kd, .string x, natV a, .slice (some ad) ks.length c] w (fun e w' => e = .returned (natV ns.length) ∧ ∃ fp', PaAt KP w' p i o sn (ns ++ [⟨kd, x, ks, a⟩]) fp' ∧ PaTo w fp w' fp') := by
 obtain ⟨iN, hiN, hN0, hN1, hN2⟩ := info_parts infoNd
 obtain ⟨iI, hiI, hI0, hI1, hI2⟩ := info_parts infoIn
 obtain ⟨nv, l, hm⟩ := h.mem
 obtain ⟨A0, c0, hv, hc1, hc2, -⟩ := own_form hm.own
 subst hv
 have H := zh h
 have HM := zh hm
 have HC := zh (And.intro hc1 hc2)
 obtain ⟨n0, hn0⟩ : ∃ n, n = ns.length := ⟨_, rfl⟩
 have HN := zh hn0
 have HB := zh hm.blk
 have HBD := zh (show w.drew.heap[p]? = some (PaBlk KP i o (.slice A0 ns.length c0) sn) from hm.blk)
 have HPB := zh (show p + 1 ≤ w.heap.size from h.lt)
 obtain ⟨kl, hkl⟩ : ∃ k, k = ks.length := ⟨_, rfl⟩
 have HKL := zh hkl
 have HR := zh hr
 rw [← hkl] at hk0 hk1 ⊢
 have HOWN := zh hm.own
 rw [← hn0] at HB HBD HOWN
 rw [← hn0] at hns
 clear h hm hc1 hc2 hn0 hkl hr
 unfold natV
 go_enter Tryz.func23, Tryz.ntmps23
 go_upto_region 1 with fail
 refine wp_region_held_drew (S := fun _ => True) (by kernel_rfl) (trivial) (fun hHeld => ?_)
 refine ztk 0 11 (.pointer (some ⟨p, 0, none⟩)) hHeld ?_; simp only [zq]
 refine ztk 1 12 (.pointer (some ⟨p, 0, none⟩)) hHeld ?_; simp only [zq]
 refine ztk 2 13 (.pointer (some ⟨p, 0, none⟩)) hHeld ?_; simp only [zq]
 refine ztk 3 14 (.pointer (some ⟨p, 2, none⟩)) hHeld ?_; simp only [zq]
 refine ztk 5 16 (.int .i64 kd) hHeld ?_; simp only [zq]
 refine ztk 6 17 (.string x) hHeld ?_; simp only [zq]
 refine ztk 7 18 (.int .i64 (a : Int)) hHeld ?_; simp only [zq]
 refine ztk 8 19 (.slice (some ad) kl c) hHeld ?_; simp only [zq]
 refine wpAnyH_ready (rs := [4, 9]) (by kernel_rfl) (by simp) ?_
 refine AllReadyH.cons (o := _) rfl (fun K hK => ?_) (AllReadyH.cons (o := _) rfl (fun K hK => ?_) (AllReadyH.nil))
 ·have q4 := (pa_cell HBD.out).2.2.1
  go_simp
  clear q4; refine hK.out _ _ (trivial) (fun hHeld => ?_); clear hK K
  try simp only [zq]
  refine zrd 9 fun K hK => ?_; refine step_append_lies _ (by rfl) _ _ _ (by rfl) w.heap.size 3 iI _ 1 8 Tryz.underlying29 hiI hI0 hI1 hI2 rfl (by omega) (.slice none 0 0) 0 [] (by rfl) (World.ownsRow_nil _ _ _ _) ad kl c (ks.map natV) (by rfl) (by rw [List.length_map, HKL.out, Nat.mul_one]) (fun j u hu => HR.out j u hu) (fun u hu => by obtain ⟨k, _, rfl⟩ := List.mem_map.1 hu; rfl) hk0 (by unfold maxLen; omega) (by omega) (by simp) w.heap.size (by simp) ?_; intro g1 c1 w1 hown1 hgrow1 hat1 hl1; rw [Nat.zero_add, List.nil_append] at hown1; rw [Nat.zero_add]; have hbl1 : w.heap.size ≤ g1 := (own_blk_lt hown1 rfl).1; have H1 := zh (show Below w.heap.size w w1 from ((Below.refl w.heap.size w).drew).grown hgrow1 (by simp) (fun k hk => by simp [Value.ownBlock] at hk)); have HK := zh (show w1.ownsRow (p + 1) 3 1 (.slice (some ⟨g1, 0, none⟩) ks.length c1) ks.length (ks.map natV) by rw [← HKL.out]; exact ⟨hown1.1, hown1.2.imp id fun ⟨g', cap, cur, e1, e2, r⟩ => ⟨g', cap, cur, e1, Nat.le_trans HPB.out e2, r⟩⟩); have HKN := zh (show ∀ g, (Value.slice (some ⟨g1, 0, none⟩) ks.length c1).ownBlock = some g → w.heap.size ≤ g from fun g hg => (show g1 = g by simpa [Value.ownBlock] using hg) ▸ hbl1); have HB1 := zh (below_blk H1.out HB.out); clear hown1 hgrow1 hat1 hl1 hbl1; refine hK.out _ _ (trivial) (fun hHeld => ?_); clear hK K
  try simp only [zq]
  refine ztk 10 21 (.agg #[.int .i64 kd, .string x, .slice (some ⟨g1, 0, none⟩) kl c1, .int .i64 (a : Int)]) hHeld ?_; simp only [zq]; refine zrd 11 fun K hK => ?_
  go_simp
  obtain ⟨w2, hw2⟩ : ∃ w2, w2 = w1.alloc (.cells #[.int .i64 kd, .string x, .slice (some ⟨g1, 0, none⟩) kl c1, .int .i64 (a : Int)] 31) := ⟨_, rfl⟩; have HW2 := zh hw2; have H2 := zh (show Below w1.heap.size w1 w2 by rw [hw2]; exact zbr.alloc znr _); have HB2 := zh (below_blk H2.out HB1.out); rw [← hw2]; clear hw2; refine hK.out _ _ (trivial) (fun hHeld => ?_); clear hK K
  try simp only [zq]
  refine zrd 12 fun K hK => ?_; refine step_append_lies _ (by rfl) _ _ _ (by rfl) (p + 1) 31 iN _ 4 56 Tryz.underlying23 hiN hN0 hN1 hN2 rfl (by omega) (.slice A0 n0 c0) n0 (l.flatMap ndEnc) (by rfl) (below_own H2.out (below_own H1.out HOWN.out)) ⟨w1.heap.size, 0, none⟩ 1 1 [.int .i64 kd, .string x, .slice (some ⟨g1, 0, none⟩) kl c1, .int .i64 (a : Int)] (by rfl) (by rfl) (by rw [HW2.out]; exact news_new w1 #[.int .i64 kd, .string x, .slice (some ⟨g1, 0, none⟩) kl c1, .int .i64 (a : Int)] _ _ rfl) (by simp [Value.oneCell']) (by omega) (by unfold maxLen; omega) (by omega) (by have := H1.out.size; have := H2.out.size; have := HPB.out; omega) (w1.heap.size + 1) (by rw [HW2.out]; simp) ?_; intro g cap w3 hown3 hgrow3 hat3 hl3; have HFIN := zh (pa_laid (kd := kd) (x := x) (a := a) (ks := ks) (g := g) (cap := cap) H.out HM.out H1.out HK.out HKN.out H2.out (by rw [← HN.out]; exact hgrow3) (by rw [← HN.out]; rw [HKL.out] at hown3; exact hown3) (by rw [← HN.out]; exact hat3.imp id fun e => by rw [e, HW2.out]; simp)); have HB3 := zh (show w3.heap[p]? = some (PaBlk KP i o (.slice A0 n0 c0) sn) from (Fr.grown (S := (Value.slice A0 n0 c0).ownBlock.toList) (Fr.refl _ _) hgrow3 fun g' hg' => .inl (by simp [hg'])).blk HB2.out fun e => by have h9 := HM.out.parser_ne.1; rw [← HN.out] at h9; exact h9 (by simpa using e : (Value.slice A0 n0 c0).ownBlock = some p).symm); clear hown3 hgrow3 hat3 hl3; refine hK.out _ _ (trivial) (fun hHeld => ?_); clear hK K
  try simp only [zq]
  refine ztk 13 24 (.pointer (some ⟨p, 0, none⟩)) hHeld ?_; simp only [zq]; refine ztk 14 25 (.pointer (some ⟨p, 2, none⟩)) hHeld ?_; simp only [zq]; refine zrd 15 fun K hK => ?_; obtain ⟨-, -, r2, -, -, rf⟩ := pa_cell HB3.out; have rf2 := rf 2; have rl := blk_lt HB3.out; clear rf
  go_simp
  refine hK.out _ _ (trivial) (fun hHeld => ?_); clear hK K
  try simp only [zq]
  refine wpAnyH_done (by kernel_rfl) ?_ _; have e2 : (w3.setCell ⟨p, 2, none⟩ (.slice (some ⟨g, 0, none⟩) (n0 + 1) cap)).cell? ⟨p, 2, none⟩ = some (.slice (some ⟨g, 0, none⟩) (n0 + 1) cap) := cell_of_blk (blk_set (i := 2) HB3.out _) rfl; have hs1 : ((n0 + 1 : Nat) : Int) - 1 = (n0 : Int) := by omega
  have hs2 : IntKind.i64.wrap (n0 : Int) = (n0 : Int) := IntWalk.i64_in _ (by omega); have HF2 := zh (show _ from by have h9 := HFIN.out; rw [← HN.out] at h9; exact h9); clear r2 rf2 rl; go_wp2
  go_ret
  exact ⟨by rw [← HN.out]; rfl, HF2.out⟩
 ·refine step_append_lies _ (by rfl) _ _ _ (by rfl) w.heap.size 3 iI _ 1 8 Tryz.underlying29 hiI hI0 hI1 hI2 rfl (by omega) (.slice none 0 0) 0 [] (by rfl) (World.ownsRow_nil _ _ _ _) ad kl c (ks.map natV) (by rfl) (by rw [List.length_map, HKL.out, Nat.mul_one]) (fun j u hu => HR.out j u hu) (fun u hu => by obtain ⟨k, _, rfl⟩ := List.mem_map.1 hu; rfl) hk0 (by unfold maxLen; omega) (by omega) (by simp) w.heap.size (by simp) ?_
  intro g1 c1 w1 hown1 hgrow1 hat1 hl1; rw [Nat.zero_add, List.nil_append] at hown1; rw [Nat.zero_add]; have hbl1 : w.heap.size ≤ g1 := (own_blk_lt hown1 rfl).1; have H1 := zh (show Below w.heap.size w w1 from ((Below.refl w.heap.size w).drew).grown hgrow1 (by simp) (fun k hk => by simp [Value.ownBlock] at hk)); have HK := zh (show w1.ownsRow (p + 1) 3 1 (.slice (some ⟨g1, 0, none⟩) ks.length c1) ks.length (ks.map natV) by rw [← HKL.out]; exact ⟨hown1.1, hown1.2.imp id fun ⟨g', cap, cur, e1, e2, r⟩ => ⟨g', cap, cur, e1, Nat.le_trans HPB.out e2, r⟩⟩); have HKN := zh (show ∀ g, (Value.slice (some ⟨g1, 0, none⟩) ks.length c1).ownBlock = some g → w.heap.size ≤ g from fun g hg => (show g1 = g by simpa [Value.ownBlock] using hg) ▸ hbl1); have HB1 := zh (below_blk H1.out HB.out); clear hown1 hgrow1 hat1 hl1 hbl1; refine hK.out _ _ (trivial) (fun hHeld => ?_); clear hK K
  try simp only [zq]
  refine ztk 10 21 (.agg #[.int .i64 kd, .string x, .slice (some ⟨g1, 0, none⟩) kl c1, .int .i64 (a : Int)]) hHeld ?_; simp only [zq]; refine wpAnyH_ready (rs := [4, 11]) (by kernel_rfl) (by simp) ?_; refine AllReadyH.cons (o := _) rfl (fun K hK => ?_) (AllReadyH.cons (o := _) rfl (fun K hK => ?_) (AllReadyH.nil))
  ·have q4 := (pa_cell HB1.out).2.2.1
   go_simp
   clear q4; refine hK.out _ _ (trivial) (fun hHeld => ?_); clear hK K
   try simp only [zq]
   refine zrd 11 fun K hK => ?_
   go_simp
   obtain ⟨w2, hw2⟩ : ∃ w2, w2 = w1.alloc (.cells #[.int .i64 kd, .string x, .slice (some ⟨g1, 0, none⟩) kl c1, .int .i64 (a : Int)] 31) := ⟨_, rfl⟩; have HW2 := zh hw2; have H2 := zh (show Below w1.heap.size w1 w2 by rw [hw2]; exact zbr.alloc znr _); have HB2 := zh (below_blk H2.out HB1.out); rw [← hw2]; clear hw2; refine hK.out _ _ (trivial) (fun hHeld => ?_); clear hK K
   try simp only [zq]
   refine zrd 12 fun K hK => ?_; refine step_append_lies _ (by rfl) _ _ _ (by rfl) (p + 1) 31 iN _ 4 56 Tryz.underlying23 hiN hN0 hN1 hN2 rfl (by omega) (.slice A0 n0 c0) n0 (l.flatMap ndEnc) (by rfl) (below_own H2.out (below_own H1.out HOWN.out)) ⟨w1.heap.size, 0, none⟩ 1 1 [.int .i64 kd, .string x, .slice (some ⟨g1, 0, none⟩) kl c1, .int .i64 (a : Int)] (by rfl) (by rfl) (by rw [HW2.out]; exact news_new w1 #[.int .i64 kd, .string x, .slice (some ⟨g1, 0, none⟩) kl c1, .int .i64 (a : Int)] _ _ rfl) (by simp [Value.oneCell']) (by omega) (by unfold maxLen; omega) (by omega) (by have := H1.out.size; have := H2.out.size; have := HPB.out; omega) (w1.heap.size + 1) (by rw [HW2.out]; simp) ?_; intro g cap w3 hown3 hgrow3 hat3 hl3; have HFIN := zh (pa_laid (kd := kd) (x := x) (a := a) (ks := ks) (g := g) (cap := cap) H.out HM.out H1.out HK.out HKN.out H2.out (by rw [← HN.out]; exact hgrow3) (by rw [← HN.out]; rw [HKL.out] at hown3; exact hown3) (by rw [← HN.out]; exact hat3.imp id fun e => by rw [e, HW2.out]; simp)); have HB3 := zh (show w3.heap[p]? = some (PaBlk KP i o (.slice A0 n0 c0) sn) from (Fr.grown (S := (Value.slice A0 n0 c0).ownBlock.toList) (Fr.refl _ _) hgrow3 fun g' hg' => .inl (by simp [hg'])).blk HB2.out fun e => by have h9 := HM.out.parser_ne.1; rw [← HN.out] at h9; exact h9 (by simpa using e : (Value.slice A0 n0 c0).ownBlock = some p).symm); clear hown3 hgrow3 hat3 hl3; refine hK.out _ _ (trivial) (fun hHeld => ?_); clear hK K
   try simp only [zq]
   refine ztk 13 24 (.pointer (some ⟨p, 0, none⟩)) hHeld ?_; simp only [zq]; refine ztk 14 25 (.pointer (some ⟨p, 2, none⟩)) hHeld ?_; simp only [zq]; refine zrd 15 fun K hK => ?_; obtain ⟨-, -, r2, -, -, rf⟩ := pa_cell HB3.out; have rf2 := rf 2; have rl := blk_lt HB3.out; clear rf
   go_simp
   refine hK.out _ _ (trivial) (fun hHeld => ?_); clear hK K
   try simp only [zq]
   refine wpAnyH_done (by kernel_rfl) ?_ _; have e2 : (w3.setCell ⟨p, 2, none⟩ (.slice (some ⟨g, 0, none⟩) (n0 + 1) cap)).cell? ⟨p, 2, none⟩ = some (.slice (some ⟨g, 0, none⟩) (n0 + 1) cap) := cell_of_blk (blk_set (i := 2) HB3.out _) rfl; have hs1 : ((n0 + 1 : Nat) : Int) - 1 = (n0 : Int) := by omega
   have hs2 : IntKind.i64.wrap (n0 : Int) = (n0 : Int) := IntWalk.i64_in _ (by omega); have HF2 := zh (show _ from by have h9 := HFIN.out; rw [← HN.out] at h9; exact h9); clear r2 rf2 rl; go_wp2
   go_ret
   exact ⟨by rw [← HN.out]; rfl, HF2.out⟩
  ·go_simp
   obtain ⟨w2, hw2⟩ : ∃ w2, w2 = w1.alloc (.cells #[.int .i64 kd, .string x, .slice (some ⟨g1, 0, none⟩) kl c1, .int .i64 (a : Int)] 31) := ⟨_, rfl⟩; have HW2 := zh hw2; have H2 := zh (show Below w1.heap.size w1 w2 by rw [hw2]; exact zbr.alloc znr _); have HB2 := zh (below_blk H2.out HB1.out); rw [← hw2]; clear hw2; refine hK.out _ _ (trivial) (fun hHeld => ?_); clear hK K
   try simp only [zq]
   refine zrd 4 fun K hK => ?_; have q4 := (pa_cell HB2.out).2.2.1
   go_simp
   clear q4; refine hK.out _ _ (trivial) (fun hHeld => ?_); clear hK K
   try simp only [zq]
   refine zrd 12 fun K hK => ?_; refine step_append_lies _ (by rfl) _ _ _ (by rfl) (p + 1) 31 iN _ 4 56 Tryz.underlying23 hiN hN0 hN1 hN2 rfl (by omega) (.slice A0 n0 c0) n0 (l.flatMap ndEnc) (by rfl) (below_own H2.out (below_own H1.out HOWN.out)) ⟨w1.heap.size, 0, none⟩ 1 1 [.int .i64 kd, .string x, .slice (some ⟨g1, 0, none⟩) kl c1, .int .i64 (a : Int)] (by rfl) (by rfl) (by rw [HW2.out]; exact news_new w1 #[.int .i64 kd, .string x, .slice (some ⟨g1, 0, none⟩) kl c1, .int .i64 (a : Int)] _ _ rfl) (by simp [Value.oneCell']) (by omega) (by unfold maxLen; omega) (by omega) (by have := H1.out.size; have := H2.out.size; have := HPB.out; omega) (w1.heap.size + 1) (by rw [HW2.out]; simp) ?_; intro g cap w3 hown3 hgrow3 hat3 hl3; have HFIN := zh (pa_laid (kd := kd) (x := x) (a := a) (ks := ks) (g := g) (cap := cap) H.out HM.out H1.out HK.out HKN.out H2.out (by rw [← HN.out]; exact hgrow3) (by rw [← HN.out]; rw [HKL.out] at hown3; exact hown3) (by rw [← HN.out]; exact hat3.imp id fun e => by rw [e, HW2.out]; simp)); have HB3 := zh (show w3.heap[p]? = some (PaBlk KP i o (.slice A0 n0 c0) sn) from (Fr.grown (S := (Value.slice A0 n0 c0).ownBlock.toList) (Fr.refl _ _) hgrow3 fun g' hg' => .inl (by simp [hg'])).blk HB2.out fun e => by have h9 := HM.out.parser_ne.1; rw [← HN.out] at h9; exact h9 (by simpa using e : (Value.slice A0 n0 c0).ownBlock = some p).symm); clear hown3 hgrow3 hat3 hl3; refine hK.out _ _ (trivial) (fun hHeld => ?_); clear hK K
   try simp only [zq]
   refine ztk 13 24 (.pointer (some ⟨p, 0, none⟩)) hHeld ?_; simp only [zq]; refine ztk 14 25 (.pointer (some ⟨p, 2, none⟩)) hHeld ?_; simp only [zq]; refine zrd 15 fun K hK => ?_; obtain ⟨-, -, r2, -, -, rf⟩ := pa_cell HB3.out; have rf2 := rf 2; have rl := blk_lt HB3.out; clear rf
   go_simp
   refine hK.out _ _ (trivial) (fun hHeld => ?_); clear hK K
   try simp only [zq]
   refine wpAnyH_done (by kernel_rfl) ?_ _; have e2 : (w3.setCell ⟨p, 2, none⟩ (.slice (some ⟨g, 0, none⟩) (n0 + 1) cap)).cell? ⟨p, 2, none⟩ = some (.slice (some ⟨g, 0, none⟩) (n0 + 1) cap) := cell_of_blk (blk_set (i := 2) HB3.out _) rfl; have hs1 : ((n0 + 1 : Nat) : Int) - 1 = (n0 : Int) := by omega
   have hs2 : IntKind.i64.wrap (n0 : Int) = (n0 : Int) := IntWalk.i64_in _ (by omega); have HF2 := zh (show _ from by have h9 := HFIN.out; rw [← HN.out] at h9; exact h9); clear r2 rf2 rl; go_wp2
   go_ret
   exact ⟨by rw [← HN.out]; rfl, HF2.out⟩
def KidsV (w : World) (kv : Value) (ks : List Nat) : Prop := (kv = .slice none 0 0 ∧ ks = []) ∨ ∃ ad c, kv = .slice (some ad) ks.length c ∧ (∀ j u, (ks.map natV)[j]? = some u → w.cell? (ad.add j) = some u) ∧ 0 < ks.length ∧ ad.block < w.heap.size
theorem KidsV.nil (w : World) : KidsV w (.slice none 0 0) [] := .inl ⟨rfl, rfl⟩
theorem KidsV.new (w : World) (k : Nat) (ks : List Nat) (n : Nat) (hn : w.heap.size = n) : KidsV (w.alloc (.cells ((k :: ks).map natV).toArray 3)) (.slice (some ⟨n, 0, none⟩) (k :: ks).length (k :: ks).length) (k :: ks) :=
 .inr ⟨⟨n, 0, none⟩, _, rfl, fun j u hu => news_new w ((k :: ks).map natV).toArray _ n hn j u (by simpa using hu), by simp, by rw [← hn]; simp⟩
theorem KidsV.on {w w' : World} {kv : Value} {ks : List Nat} (h : KidsV w kv ks) (hb : Below w.heap.size w w') : KidsV w' kv ks := h.imp id fun ⟨ad, c, e, h1, h2, h3⟩ => ⟨ad, c, e, fun j u hu => (hb.cell (by rw [block_add']; exact h3)).trans (h1 j u hu), h2, Nat.lt_of_lt_of_le h3 hb.size⟩
theorem Ints.kids {w : World} {p : Nat} {fp : List Nat} {v : Value} {l : List Nat} (h : Ints w p fp v l) : KidsV w v l := by
 obtain ⟨A, c, rfl, h1, h2, h3⟩ := own_form h.own
 rcases Nat.eq_zero_or_pos l.length with h0 | h0
 ·have e := List.eq_nil_of_length_eq_zero h0
  exact .inl ⟨h.nil_ e, e⟩
 ·obtain ⟨gb, rfl, _, h4, _, h5⟩ := h3 h0
  exact .inr ⟨_, c, rfl, fun j u hu => by rw [Addr.add_mid, Nat.zero_add]; exact h5 j u hu, h0, h4⟩
theorem lay_any {KP : PaK} {w : World} {p i o : Nat} {sn : Fin 8 → Bool} {ns : List Nd} {fp : List Nat} (h : PaAt KP w p i o sn ns fp) (hns : ns.length ≤ 900000) (kd : Int) (x : ByteArray) (a : Nat) {kv : Value} {ks : List Nat} (hk : KidsV w kv ks) (hl : ks.length ≤ 900000) :
  Calls Tryz.prog 23 #[.pointer (some ⟨p, 0, none⟩), .int .i64 kd, .string x, natV a, kv] w (fun e w' => e = .returned (natV ns.length) ∧ ∃ fp', PaAt KP w' p i o sn (ns ++ [⟨kd, x, ks, a⟩]) fp' ∧ PaTo w fp w' fp') := by
 rcases hk with ⟨rfl, rfl⟩ | ⟨ad, c, rfl, h1, h2, h3⟩
 ·exact lay_leaf h hns kd x a
 ·exact lay_kids h hns kd x a h1 h2 hl h3
end Go.Proofs.YthobobmbileekaaGreatDoor
