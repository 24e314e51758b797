/-
  TypesKinds: the walk.
-/
import Derived.Test.YtllpicibncdppaaDoorTyAwake
import Derived.Test.YtllpicibncdppaaDoorTyStamps
import Derived.Test.YtllpicibncdppaaDoorTyCount
set_option linter.unusedVariables false
set_option linter.unusedSimpArgs false
namespace Go.Proofs.YtllpicibncdppaaDoor
open Go.ChangeShapes Go.WideShapes Go.ChangeAt Go.RowKit

theorem st_eq (a : ByteArray × Nat) (w : World) : (Op.equalIn 10000 38 (.agg #[.string a.1, .int .i64 (a.2 : Nat)]) (.agg #[.string a.1, .int .i64 (a.2 : Nat)])).run Tryd.prog w = .ok true w := by
  have u1 := Tryd.underlying3
  have u3 := Tryd.underlying9
  have a1 := Tryd.isAgg3
  have a3 := Tryd.isAgg9
  have z1 := Tryd.sizeOf3
  have z3 := Tryd.sizeOf9
  have hS : Tryd.prog.underlying 38 = some (.struct (Tryd.prog.fieldsOf 38)) := by kernel_rfl
  have hp : Tryd.prog.stoodInHeld 38 = false := by kernel_rfl
  rw [show (10000 : Nat) = 9999 + 1 from rfl, run_equalIn_agg w 9999 38 _ _ hS hp]
  simp only [Program.fieldsOf, Tryd.underlying38]
  go_simp
theorem reads_on {w w' : World} {A : Option Addr} {xs : List Value} (h : Reads w w.heap.size A xs) (hb : Below w.heap.size w w') : Reads w' w'.heap.size A xs := Reads.more (Reads.below h hb) hb.size
theorem stamps_le (t : LTy) : (stampsL (strip t)).length ≤ t.ns.length := by
  unfold stampsL
  split
  · rw [List.length_zipWith, strip_names]; omega
  · exact Nat.zero_le _
set_option maxRecDepth 100000 in
set_option maxHeartbeats 16000000 in
theorem typesKinds_walk (t : LTy) (w : World) (it : LIn w w.heap.size t) (hsp : SpW w) : Calls Tryd.prog 8 #[t.val] w (RetB (.bool true) w) := by
  unfold LTy.val
  obtain ⟨g, hg⟩ : ∃ g, g = w.heap.size := ⟨_, rfl⟩
  have It := Lib.hid it
  have HSP := Lib.hid hsp
  obtain ⟨L, hL⟩ : ∃ L, L = stampsL (strip t) := ⟨_, rfl⟩
  have HL := Lib.hid hL
  obtain ⟨n, hn⟩ : ∃ n, n = L.length := ⟨_, rfl⟩
  have HN := Lib.hid hn
  have hnb : n ≤ 8796093022208 := by have h1 := stamps_le t; have h2 := it.n1.2; rw [hn, hL]; omega
  obtain ⟨kv, hkv⟩ : ∃ kv, kv = kindsV (strip t) := ⟨_, rfl⟩
  have HKV := Lib.hid hkv
  obtain ⟨vg, hvg⟩ : ∃ vg, vg = tb (May (strip t) → Loose (strip t)) := ⟨_, rfl⟩
  have HVG := Lib.hid hvg
  clear it hsp hL hn hkv hvg
  go_enter Tryd.func8, Tryd.ntmps8
  go_upto_region 1 with fail
  rw [← hg]
  refine gen_wpT fun w0 hW => ?_
  obtain ⟨kt, kb⟩ : TBox w0 g t ∧ Below w.heap.size w w0 := by rw [← hW, hg]; exact one_box w t
  have X0 := Lib.hid kt
  have Z0 := Lib.hid kb
  clear hW hg kb kt
  go_wp2_with fail
  with_reducible refine (awake09_any _ (HSP.out.below Z0.out)).mono ?_
  rintro e w1 ⟨rfl, hb1⟩
  have X1 := Lib.hid (X0.out.below hb1)
  have Z1 := Lib.hid (Z0.out.trans (hb1.mono Z0.out.size))
  have c0 := X1.out.c0
  have c1 := X1.out.c1
  have c2 := X1.out.c2
  have cl := X1.out.lt
  have hc := Few_any t w1 (It.out.on Z1.out)
  unfold LTy.val at hc
  have HF := Lib.hid hc
  clear hb1 hc
  go_wp2_with fail
  with_reducible refine HF.out.mono ?_
  rintro e w2 ⟨hb2, b, rfl, _⟩
  have X2 := Lib.hid (X1.out.below hb2)
  have Z2 := Lib.hid (Z1.out.trans (hb2.mono Z1.out.size))
  clear hb2 c0 c1 c2 cl
  cases b with
  | false =>
    go_wp2
    go_ret
    exact ⟨rfl, Z2.out⟩
  | true =>
  have C1 := Lib.hid (show ∀ w', Below w.heap.size w w' → Calls Tryd.prog 35 #[.agg #[.int .i64 t.kind, .slice t.A t.ns.length t.c, .slice t.A2 t.xs.length t.c2]] w' (fun e w'' => ∃ (A : Option Addr) (c : Nat), e = .returned (.slice A n c) ∧ Reads w'' w''.heap.size A (L.flatMap spEnc) ∧ n ≤ c ∧ Below w'.heap.size w' w'') from fun w' hb => by
    have := tstamps_shape t w' (It.out.on hb) (HSP.out.below hb)
    unfold StampsOut at this
    rw [← HL.out, ← HN.out] at this
    exact this)
  have C2 := Lib.hid (show ∀ w', Below w.heap.size w w' → Calls Tryd.prog 36 #[.agg #[.int .i64 t.kind, .slice t.A t.ns.length t.c, .slice t.A2 t.xs.length t.c2]] w' (fun e w'' => ∃ (A : Option Addr) (c : Nat), e = .returned (.slice A n c) ∧ Reads w'' w''.heap.size A (L.flatMap spEnc) ∧ n ≤ c ∧ Below w'.heap.size w' w'') from fun w' hb => by
    have := rstamps_shape t w' (It.out.on hb)
    unfold StampsOut at this
    rw [← HL.out, ← HN.out] at this
    exact this)
  have C3 := Lib.hid (show ∀ w', Below w.heap.size w w' → Calls Tryd.prog 20 #[.agg #[.int .i64 t.kind, .slice t.A t.ns.length t.c, .slice t.A2 t.xs.length t.c2]] w' (RetB (.int .i64 (kv : Nat)) w') from fun w' hb => by
    have := tkinds_any t w' (It.out.on hb) (HSP.out.below hb)
    rw [← HKV.out] at this
    exact this)
  have C4 := Lib.hid (show ∀ w', Below w.heap.size w w' → Calls Tryd.prog 37 #[.agg #[.int .i64 t.kind, .slice t.A t.ns.length t.c, .slice t.A2 t.xs.length t.c2]] w' (RetB (.int .i64 (kv : Nat)) w') from fun w' hb => by
    have := rkinds_any t w' (It.out.on hb)
    rw [← HKV.out] at this
    exact this)
  have C5 := Lib.hid (show ∀ w', Below w.heap.size w w' → Calls Tryd.prog 38 #[.agg #[.int .i64 t.kind, .slice t.A t.ns.length t.c, .slice t.A2 t.xs.length t.c2]] w' (RetB (.bool vg) w') from fun w' hb => by
    have := tvague_any t w' (It.out.on hb) (HSP.out.below hb)
    rw [← HVG.out] at this
    exact this)
  have C6 := Lib.hid (show ∀ w', Below w.heap.size w w' → Calls Tryd.prog 29 #[.agg #[.int .i64 t.kind, .slice t.A t.ns.length t.c, .slice t.A2 t.xs.length t.c2]] w' (RetB (.bool vg) w') from fun w' hb => by
    have := rvague_any t w' (It.out.on hb)
    rw [← HVG.out] at this
    exact this)
  go_wp2_with fail
  refine wp_region_held_drew (S := fun w' => TBox w' g t) (by kernel_rfl) (X2.out) (fun hHeld => ?_)
  refine wpAnyH_take (i := 0) (oi := _) (v := .agg #[.int .i64 t.kind, .slice t.A t.ns.length t.c, .slice t.A2 t.xs.length t.c2]) rfl (by kernel_rfl) (by kernel_rfl) (by kernel_rfl) (fun _ _ _ h => h) (Or.inl ⟨by rfl, fun w' hS => (by have q0 := TBox.c0 hS; have q1 := TBox.c1 hS; have q2 := TBox.c2 hS; go_simp)⟩) hHeld ?_
  change wpAnyH _ _ _ _ _ _ _ (Act.put _ (some 11) _) _
  try simp only [Act.put, List.setIfInBounds_toArray, List.set_cons_zero, List.set_cons_succ]
  refine wpAnyH_take (i := 2) (oi := _) (v := .agg #[.int .i64 t.kind, .slice t.A t.ns.length t.c, .slice t.A2 t.xs.length t.c2]) rfl (by kernel_rfl) (by kernel_rfl) (by kernel_rfl) (fun _ _ _ h => h) (Or.inl ⟨by rfl, fun w' hS => (by have q0 := TBox.c0 hS; have q1 := TBox.c1 hS; have q2 := TBox.c2 hS; go_simp)⟩) hHeld ?_
  change wpAnyH _ _ _ _ _ _ _ (Act.put _ (some 13) _) _
  try simp only [Act.put, List.setIfInBounds_toArray, List.set_cons_zero, List.set_cons_succ]
  refine wpAnyH_ready (rs := [1]) (by kernel_rfl) (by simp) ?_
  refine AllReadyH.cons (o := _) rfl (fun K hK => ?_) AllReadyH.nil
  go_simp
  with_reducible refine (C1.out _ (Z2.out.drew)).mono ?_
  rintro e w3 ⟨A, c, rfl, hrA, hcA, hb3⟩
  have B3 := Lib.hid (show Below w2.heap.size w2 w3 from (Below.refl _ _).drew.trans hb3)
  have RA3 := Lib.hid hrA
  clear hb3 hrA
  refine hK.out _ _ (X2.out.below B3.out) (fun hHeld => ?_)
  clear hK K
  try simp only [Act.put, List.setIfInBounds_toArray, List.set_cons_zero, List.set_cons_succ]
  refine wpAnyH_ready (rs := [3]) (by kernel_rfl) (by simp) ?_
  refine AllReadyH.cons (o := _) rfl (fun K hK => ?_) AllReadyH.nil
  go_simp
  with_reducible refine (C2.out _ (Z2.out.trans (B3.out.mono Z2.out.size))).mono ?_
  rintro e w4 ⟨C, d, rfl, hrC, hcC, hb4⟩
  have B4 := Lib.hid (show Below w2.heap.size w2 w4 from B3.out.trans (hb4.mono B3.out.size))
  have RA4 := Lib.hid (reads_on RA3.out hb4)
  have RC4 := Lib.hid hrC
  clear hb4 hrC
  refine hK.out _ _ (X2.out.below B4.out) (fun hHeld => ?_)
  clear hK K
  try simp only [Act.put, List.setIfInBounds_toArray, List.set_cons_zero, List.set_cons_succ]
  refine wpAnyH_take (i := 4) (oi := _) (v := .slice A n c) rfl (by kernel_rfl) (by kernel_rfl) (by kernel_rfl) (fun _ _ _ h => h) (Or.inl ⟨by rfl, fun w' hS => (by go_simp)⟩) hHeld ?_
  change wpAnyH _ _ _ _ _ _ _ (Act.put _ (some 3) _) _
  try simp only [Act.put, List.setIfInBounds_toArray, List.set_cons_zero, List.set_cons_succ]
  refine wpAnyH_take (i := 5) (oi := _) (v := .slice C n d) rfl (by kernel_rfl) (by kernel_rfl) (by kernel_rfl) (fun _ _ _ h => h) (Or.inl ⟨by rfl, fun w' hS => (by go_simp)⟩) hHeld ?_
  change wpAnyH _ _ _ _ _ _ _ (Act.put _ (some 4) _) _
  try simp only [Act.put, List.setIfInBounds_toArray, List.set_cons_zero, List.set_cons_succ]
  refine wpAnyH_done (by kernel_rfl) ?_ _
  have X4 := Lib.hid (X2.out.below B4.out)
  have Z4 := Lib.hid (Z2.out.trans (B4.out.mono Z2.out.size))
  clear hHeld
  go_wp2_with fail
  refine wp_region_held_drew (S := fun w' => TBox w' g t) (by kernel_rfl) (X4.out) (fun hHeld => ?_)
  refine wpAnyH_take (i := 0) (oi := _) (v := .slice A n c) rfl (by kernel_rfl) (by kernel_rfl) (by kernel_rfl) (fun _ _ _ h => h) (Or.inl ⟨by rfl, fun w' hS => (by go_simp)⟩) hHeld ?_
  change wpAnyH _ _ _ _ _ _ _ (Act.put _ (some 15) _) _
  try simp only [Act.put, List.setIfInBounds_toArray, List.set_cons_zero, List.set_cons_succ]
  refine wpAnyH_take (i := 1) (oi := _) (v := .int .i64 n) rfl (by kernel_rfl) (by kernel_rfl) (by kernel_rfl) (fun _ _ _ h => h) (Or.inl ⟨by rfl, fun w' hS => (by go_simp)⟩) hHeld ?_
  change wpAnyH _ _ _ _ _ _ _ (Act.put _ (some 16) _) _
  try simp only [Act.put, List.setIfInBounds_toArray, List.set_cons_zero, List.set_cons_succ]
  refine wpAnyH_take (i := 2) (oi := _) (v := .slice C n d) rfl (by kernel_rfl) (by kernel_rfl) (by kernel_rfl) (fun _ _ _ h => h) (Or.inl ⟨by rfl, fun w' hS => (by go_simp)⟩) hHeld ?_
  change wpAnyH _ _ _ _ _ _ _ (Act.put _ (some 17) _) _
  try simp only [Act.put, List.setIfInBounds_toArray, List.set_cons_zero, List.set_cons_succ]
  refine wpAnyH_take (i := 3) (oi := _) (v := .int .i64 n) rfl (by kernel_rfl) (by kernel_rfl) (by kernel_rfl) (fun _ _ _ h => h) (Or.inl ⟨by rfl, fun w' hS => (by go_simp)⟩) hHeld ?_
  change wpAnyH _ _ _ _ _ _ _ (Act.put _ (some 18) _) _
  try simp only [Act.put, List.setIfInBounds_toArray, List.set_cons_zero, List.set_cons_succ]
  refine wpAnyH_take (i := 4) (oi := _) (v := .bool false) rfl (by kernel_rfl) (by kernel_rfl) (by kernel_rfl) (fun _ _ _ h => h) (Or.inl ⟨by rfl, fun w' hS => (by go_simp)⟩) hHeld ?_
  change wpAnyH _ _ _ _ _ _ _ (Act.put _ (some 19) _) _
  try simp only [Act.put, List.setIfInBounds_toArray, List.set_cons_zero, List.set_cons_succ]
  refine wpAnyH_take (i := 5) (oi := _) (v := .bool false) rfl (by kernel_rfl) (by kernel_rfl) (by kernel_rfl) (fun _ _ _ h => h) (Or.inl ⟨by rfl, fun w' hS => (by go_simp)⟩) hHeld ?_
  change wpAnyH _ _ _ _ _ _ _ (Act.put _ (some 20) _) _
  try simp only [Act.put, List.setIfInBounds_toArray, List.set_cons_zero, List.set_cons_succ]
  refine wpAnyH_take (i := 6) (oi := _) (v := .agg #[.int .i64 t.kind, .slice t.A t.ns.length t.c, .slice t.A2 t.xs.length t.c2]) rfl (by kernel_rfl) (by kernel_rfl) (by kernel_rfl) (fun _ _ _ h => h) (Or.inl ⟨by rfl, fun w' hS => (by have q0 := TBox.c0 hS; have q1 := TBox.c1 hS; have q2 := TBox.c2 hS; go_simp)⟩) hHeld ?_
  change wpAnyH _ _ _ _ _ _ _ (Act.put _ (some 21) _) _
  try simp only [Act.put, List.setIfInBounds_toArray, List.set_cons_zero, List.set_cons_succ]
  refine wpAnyH_take (i := 8) (oi := _) (v := .agg #[.int .i64 t.kind, .slice t.A t.ns.length t.c, .slice t.A2 t.xs.length t.c2]) rfl (by kernel_rfl) (by kernel_rfl) (by kernel_rfl) (fun _ _ _ h => h) (Or.inl ⟨by rfl, fun w' hS => (by have q0 := TBox.c0 hS; have q1 := TBox.c1 hS; have q2 := TBox.c2 hS; go_simp)⟩) hHeld ?_
  change wpAnyH _ _ _ _ _ _ _ (Act.put _ (some 23) _) _
  try simp only [Act.put, List.setIfInBounds_toArray, List.set_cons_zero, List.set_cons_succ]
  refine wpAnyH_ready (rs := [7]) (by kernel_rfl) (by simp) ?_
  refine AllReadyH.cons (o := _) rfl (fun K hK => ?_) AllReadyH.nil
  go_simp
  with_reducible refine (C3.out _ (Z4.out.drew)).mono ?_
  rintro e w5 ⟨rfl, hb5⟩
  have B5 := Lib.hid (show Below w4.heap.size w4 w5 from (Below.refl _ _).drew.trans hb5)
  clear hb5
  refine hK.out _ _ (X4.out.below B5.out) (fun hHeld => ?_)
  clear hK K
  try simp only [Act.put, List.setIfInBounds_toArray, List.set_cons_zero, List.set_cons_succ]
  refine wpAnyH_ready (rs := [9]) (by kernel_rfl) (by simp) ?_
  refine AllReadyH.cons (o := _) rfl (fun K hK => ?_) AllReadyH.nil
  go_simp
  with_reducible refine (C4.out _ (Z4.out.trans (B5.out.mono Z4.out.size))).mono ?_
  rintro e w6 ⟨rfl, hb6⟩
  have B6 := Lib.hid (show Below w4.heap.size w4 w6 from B5.out.trans (hb6.mono B5.out.size))
  clear hb6
  refine hK.out _ _ (X4.out.below B6.out) (fun hHeld => ?_)
  clear hK K
  try simp only [Act.put, List.setIfInBounds_toArray, List.set_cons_zero, List.set_cons_succ]
  refine wpAnyH_take (i := 10) (oi := _) (v := .bool false) rfl (by kernel_rfl) (by kernel_rfl) (by kernel_rfl) (fun _ _ _ h => h) (Or.inl ⟨by rfl, fun w' hS => (by go_simp)⟩) hHeld ?_
  change wpAnyH _ _ _ _ _ _ _ (Act.put _ (some 25) _) _
  try simp only [Act.put, List.setIfInBounds_toArray, List.set_cons_zero, List.set_cons_succ]
  refine wpAnyH_take (i := 11) (oi := _) (v := .bool false) rfl (by kernel_rfl) (by kernel_rfl) (by kernel_rfl) (fun _ _ _ h => h) (Or.inl ⟨by rfl, fun w' hS => (by go_simp)⟩) hHeld ?_
  change wpAnyH _ _ _ _ _ _ _ (Act.put _ (some 26) _) _
  try simp only [Act.put, List.setIfInBounds_toArray, List.set_cons_zero, List.set_cons_succ]
  refine wpAnyH_take (i := 12) (oi := _) (v := .bool false) rfl (by kernel_rfl) (by kernel_rfl) (by kernel_rfl) (fun _ _ _ h => h) (Or.inl ⟨by rfl, fun w' hS => (by go_simp)⟩) hHeld ?_
  change wpAnyH _ _ _ _ _ _ _ (Act.put _ (some 27) _) _
  try simp only [Act.put, List.setIfInBounds_toArray, List.set_cons_zero, List.set_cons_succ]
  refine wpAnyH_take (i := 13) (oi := _) (v := .agg #[.int .i64 t.kind, .slice t.A t.ns.length t.c, .slice t.A2 t.xs.length t.c2]) rfl (by kernel_rfl) (by kernel_rfl) (by kernel_rfl) (fun _ _ _ h => h) (Or.inl ⟨by rfl, fun w' hS => (by have q0 := TBox.c0 hS; have q1 := TBox.c1 hS; have q2 := TBox.c2 hS; go_simp)⟩) hHeld ?_
  change wpAnyH _ _ _ _ _ _ _ (Act.put _ (some 28) _) _
  try simp only [Act.put, List.setIfInBounds_toArray, List.set_cons_zero, List.set_cons_succ]
  refine wpAnyH_take (i := 15) (oi := _) (v := .agg #[.int .i64 t.kind, .slice t.A t.ns.length t.c, .slice t.A2 t.xs.length t.c2]) rfl (by kernel_rfl) (by kernel_rfl) (by kernel_rfl) (fun _ _ _ h => h) (Or.inl ⟨by rfl, fun w' hS => (by have q0 := TBox.c0 hS; have q1 := TBox.c1 hS; have q2 := TBox.c2 hS; go_simp)⟩) hHeld ?_
  change wpAnyH _ _ _ _ _ _ _ (Act.put _ (some 30) _) _
  try simp only [Act.put, List.setIfInBounds_toArray, List.set_cons_zero, List.set_cons_succ]
  refine wpAnyH_ready (rs := [14]) (by kernel_rfl) (by simp) ?_
  refine AllReadyH.cons (o := _) rfl (fun K hK => ?_) AllReadyH.nil
  go_simp
  with_reducible refine (C5.out _ (Z4.out.trans (B6.out.mono Z4.out.size))).mono ?_
  rintro e w7 ⟨rfl, hb7⟩
  have B7 := Lib.hid (show Below w4.heap.size w4 w7 from B6.out.trans (hb7.mono B6.out.size))
  clear hb7
  refine hK.out _ _ (X4.out.below B7.out) (fun hHeld => ?_)
  clear hK K
  try simp only [Act.put, List.setIfInBounds_toArray, List.set_cons_zero, List.set_cons_succ]
  refine wpAnyH_ready (rs := [16]) (by kernel_rfl) (by simp) ?_
  refine AllReadyH.cons (o := _) rfl (fun K hK => ?_) AllReadyH.nil
  go_simp
  with_reducible refine (C6.out _ (Z4.out.trans (B7.out.mono Z4.out.size))).mono ?_
  rintro e w8 ⟨rfl, hb8⟩
  have B8 := Lib.hid (show Below w4.heap.size w4 w8 from B7.out.trans (hb8.mono B7.out.size))
  clear hb8
  refine hK.out _ _ (X4.out.below B8.out) (fun hHeld => ?_)
  clear hK K
  try simp only [Act.put, List.setIfInBounds_toArray, List.set_cons_zero, List.set_cons_succ]
  refine wpAnyH_take (i := 17) (oi := _) (v := .bool false) rfl (by kernel_rfl) (by kernel_rfl) (by kernel_rfl) (fun _ _ _ h => h) (Or.inl ⟨by rfl, fun w' hS => (by cases vg <;> go_simp)⟩) hHeld ?_
  change wpAnyH _ _ _ _ _ _ _ (Act.put _ (some 32) _) _
  try simp only [Act.put, List.setIfInBounds_toArray, List.set_cons_zero, List.set_cons_succ]
  refine wpAnyH_take (i := 18) (oi := _) (v := .bool false) rfl (by kernel_rfl) (by kernel_rfl) (by kernel_rfl) (fun _ _ _ h => h) (Or.inl ⟨by rfl, fun w' hS => (by go_simp)⟩) hHeld ?_
  change wpAnyH _ _ _ _ _ _ _ (Act.put _ (some 33) _) _
  try simp only [Act.put, List.setIfInBounds_toArray, List.set_cons_zero, List.set_cons_succ]
  refine wpAnyH_done (by kernel_rfl) ?_ _
  have RA := Lib.hid (reads_on RA4.out B8.out)
  have RC := Lib.hid (reads_on RC4.out B8.out)
  have Z8 := Lib.hid (Z4.out.trans (B8.out.mono Z4.out.size))
  go_wp2_with fail
  go_loopw [36] (fun i wr => ∃ k : Nat, k ≤ n ∧ i = .int .i64 k ∧ ∃ m, wr = w8.drewN m) (fun i wr => n - (intOf i).toNat)
  case atStart => exact ⟨0, by omega, rfl, 0, rfl⟩
  case round =>
    obtain ⟨k, hk, rfl, m, rfl⟩ := hrel
    by_cases hlt : k < n
    · obtain ⟨x, hx⟩ : ∃ x, L[k]? = some x := ⟨_, List.getElem?_eq_getElem (by rw [← HN.out]; exact hlt)⟩
      obtain ⟨ad, rfl, hab, hcell⟩ := RA.out.at (flatMap_ne (K := 2) spEnc_len (by omega) hx)
      obtain ⟨ae, rfl, hae, hcelle⟩ := RC.out.at (flatMap_ne (K := 2) spEnc_len (by omega) hx)
      have x0 := elem_zero (K := 2) spEnc_len hcell hx (by omega) rfl
      have x1 := elem_at (K := 2) spEnc_len hcell hx 1 (by omega) (by omega) rfl
      have y0 := elem_zero (K := 2) spEnc_len hcelle hx (by omega) rfl
      have y1 := elem_at (K := 2) spEnc_len hcelle hx 1 (by omega) (by omega) rfl
      have heq := fun W => st_eq x W
      have hk' : (k : Int) < (n : Int) := by omega
      have hk0 : (0 : Int) ≤ k := by omega
      clear hx hcell hcelle
      go_wp2_with fail
      go_quiet (fail)
      go_wp2_with fail
      go_roundw
      case rel => exact ⟨k + 1, by omega, by go_num, _, rfl⟩
      case measure => simp [intOf]; omega
    · obtain rfl : k = n := by omega
      go_wp2
      go_ret
      exact ⟨rfl, Z8.out.trans (below_drewT (Below.refl _ _) m)⟩
end Go.Proofs.YtllpicibncdppaaDoor
