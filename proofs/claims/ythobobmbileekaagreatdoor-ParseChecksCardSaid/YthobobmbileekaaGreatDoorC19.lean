/-
 ParseChecks: part 19 of what the claim rests on.
-/
import Derived.Test.YthobobmbileekaaGreatDoorC01
import Derived.Test.YthobobmbileekaaGreatDoorC18
set_option linter.unusedVariables false
set_option linter.unusedSimpArgs false
set_option maxHeartbeats 64000000
set_option maxRecDepth 100000
namespace Go.Proofs.YthobobmbileekaaGreatDoor
open Go.ChangeShapes Go.WideShapes Go.ChangeAt Go.RowKit

theorem walk_prim {f : Nat} (AP : ∀ g, g ≤ f → AllPart g)  : Callee (f + 1) .prim 114 (fun p => #[.pointer (some ⟨p, 0, none⟩)]) := by
 intro K w p i o sn ns fp h hroom ho r hr
 change stepPrim K.T (parF K.T f) o i = some r at hr
 unfold stepPrim at hr
 have HB := zh (Beg.of h)
 have HTK := zh h.env.tok
 have HRM := zh hroom.2
 have HI := zh hroom.1
 have HO := zh ho
 have HS0 := zh (St.start h)
 have HLN := zh h.env.len
 have HAP := zh AP
 clear h hroom ho AP
 have HR := zh hr
 clear hr
 go_enter Tryz.func114, Tryz.ntmps114
 have hr := HR.out
 clear HR
 dsimp only at hr
 have HR := zh hr
 clear hr
 go_upto_region 1 with fail
 obtain ⟨b1, hb⟩ : ∃ b, b = w.heap.size := ⟨_, rfl⟩
 rw [← hb]
 refine gen_wpT fun w2 hW => ?_
 have HX3 := zh (show w2.heap[b1]? = some (.cells #[.pointer (some ⟨p, 0, none⟩)] 44 (0, 0)) by rw [← hW]; exact heap_new_at _ _ _ hb.symm)
 have HBL6 := zh (show Below w.heap.size w w2 by rw [← hW]; exact zbr.alloc znr _)
 have HS5 := zh (HS0.out.below HBL6.out)
 have HA4 := zh (Away.new HS0.out.pa (Nat.le_of_eq hb.symm) (blk_lt HX3.out))
 have HBE7 := zh (show w.heap.size ≤ b1 from by have := HS0.out.pt.fr.size; omega)
 clear hW hb
 have x8 := zc 0 HX3.out rfl
 have xl9 := blk_lt HX3.out
 have hr := HR.out
 clear HR
 have HC12 := zh (now_any HS5.out.pa HI.out)
 have HR := zh hr
 clear hr
 go_wp2_with fail
 clear x8 xl9
 refine HC12.out.mono ?_
 rintro e w10 ⟨rfl, h2⟩
 have HS11 := zh (HS5.out.below h2)
 have HX13 := zh (below_blk h2 HX3.out)
 have HA14 := zh (HA4.out.on h2.size)
 clear h2
 have x15 := zc 0 HX13.out rfl
 have xl16 := blk_lt HX13.out
 have hr := HR.out
 clear HR
 unfold tkEnc
 have HR := zh hr
 clear hr
 go_upto_region 2 with fail
 clear x15 xl16
 obtain ⟨b17, hb⟩ : ∃ b, b = w10.heap.size := ⟨_, rfl⟩
 rw [← hb]
 refine gen_wpT fun w18 hW => ?_
 have HX19 := zh (show w18.heap[b17]? = some (.cells #[.int .i64 (tk K.T i).kind, .string (tk K.T i).text, .int .i64 ((tk K.T i).a : Int), .int .i64 ((tk K.T i).z : Int), .int .i64 (tk K.T i).n] 65 (0, 0)) by rw [← hW]; exact heap_new_at _ _ _ hb.symm)
 have HBL22 := zh (show Below w10.heap.size w10 w18 by rw [← hW]; exact zbr.alloc znr _)
 have HS21 := zh (HS11.out.below HBL22.out)
 have HA20 := zh (Away.new HS11.out.pa (Nat.le_of_eq hb.symm) (blk_lt HX19.out))
 have HBE23 := zh (show w.heap.size ≤ b17 from by have := HS11.out.pt.fr.size; omega)
 have HX24 := zh (below_blk HBL22.out HX13.out)
 have HA25 := zh (HA14.out.on HBL22.out.size)
 clear hW hb
 have x26 := zc 0 HX24.out rfl
 have xl27 := blk_lt HX24.out
 have x28 := zc 0 HX19.out rfl
 have x29 := zc 1 HX19.out rfl
 have x30 := zc 2 HX19.out rfl
 have x31 := zc 3 HX19.out rfl
 have x32 := zc 4 HX19.out rfl
 have xl33 := blk_lt HX19.out
 have hr := HR.out
 clear HR
 by_cases h3 : (tk K.T i).kind = 3 ∧ 0 ≤ (tk K.T i).n
 ·rw [if_pos h3] at hr
  have q3 : ((tk K.T i).kind == 3) = true := beq_iff_eq.2 h3.1; have qn := h3.2; have HLT3 := zh (tk_lt HTK.out HI.out (by rw [h3.1]; decide)); clear h3; obtain ⟨nv, l, hm⟩ := HS21.out.pa.mem; obtain ⟨-, y38, -, -, -, cf⟩ := pa_cell hm.blk; have y39 := cf 1; have y40 := blk_lt hm.blk; clear hm cf; obtain ⟨i35, hi1⟩ : ∃ ix, ix = i + 1 := ⟨_, rfl⟩; have y41 : (i : Int) + 1 = (i35 : Int) := by omega
  have y42 : i35 ≤ 200002 := by have := HLT3.out; have := HLN.out; omega
  have y43 : IntKind.i64.wrap (i35 : Int) = (i35 : Int) := IntWalk.i64_in _ (by omega)
  try rw [← hi1] at hr
  have HIE36 := zh hi1; have HLT37 := zh (show i35 < K.T.length by rw [hi1]; exact HLT3.out); clear hi1 nv l; have hst := HS21.out.pa.setI i35; have hto : PaTo w18 fp (w18.setCell ⟨p, 1, none⟩ (.int .i64 (i35 : Int))) fp := hst.2; have HS34 := zh (show St K w p i35 o sn ns fp [] (w18.setCell ⟨p, 1, none⟩ (.int .i64 (i35 : Int))) fp from HS21.out.step hst.1 hto); have HX44 := zh (Away.blkTo HX24.out HA25.out hto); have HA45 := zh (HA25.out.to hto); have HX46 := zh (Away.blkTo HX19.out HA20.out hto); have HA47 := zh (HA20.out.to hto); clear hst hto; have x48 := zc 0 HX44.out rfl; have xl49 := blk_lt HX44.out; have x50 := zc 0 HX46.out rfl; have x51 := zc 1 HX46.out rfl; have x52 := zc 2 HX46.out rfl; have x53 := zc 3 HX46.out rfl; have x54 := zc 4 HX46.out rfl; have xl55 := blk_lt HX46.out; have HTN := zh (HTK.out.num i); have HX56 := zh (show (w18.setCell ⟨p, 1, none⟩ (.int .i64 (i35 : Int))).drew.heap[b1]? = _ from HX44.out); have HA57 := zh HA45.out.drew; have HX58 := zh (show (w18.setCell ⟨p, 1, none⟩ (.int .i64 (i35 : Int))).drew.heap[b17]? = _ from HX46.out); have HA59 := zh HA47.out.drew; have HS60 := zh HS34.out.drew; have HSH := zh (nshow_any (tk K.T i).n _ HTN.out.1 HTN.out.2 HS60.out.pa.env.tab); have HFI := zh (show Res.ok _ _ = r from Option.some.inj hr); clear hr; go_wp2_with fail
  clear x48 xl49 x50 x51 x52 x53 x54 xl55 y38 y39 y40 y41 y42 y43 x26 xl27 x28 x29 x30 x31 x32 xl33; refine wp_region_held_drew (S := fun _ => True) (by kernel_rfl) (trivial) (fun hHeld => ?_); refine ztk 1 23 (.pointer (some ⟨b17, 4, none⟩)) hHeld ?_; simp only [zq]; refine ztk 4 26 (.pointer (some ⟨b17, 2, none⟩)) hHeld ?_; simp only [zq]; refine wpAnyH_ready (rs := [0, 2, 5]) (by kernel_rfl) (by simp) ?_; refine AllReadyH.cons (o := _) rfl (fun KQ hK => ?_) (AllReadyH.cons (o := _) rfl (fun KQ hK => ?_) (AllReadyH.cons (o := _) rfl (fun KQ hK => ?_) (AllReadyH.nil)))
  ·have z0 := zc 0 HX56.out rfl
   go_simp
   clear z0; refine hK.out _ _ (trivial) (fun hHeld => ?_); clear hK KQ
   try simp only [zq]
   refine wpAnyH_ready (rs := [2, 5]) (by kernel_rfl) (by simp) ?_; refine AllReadyH.cons (o := _) rfl (fun KQ hK => ?_) (AllReadyH.cons (o := _) rfl (fun KQ hK => ?_) (AllReadyH.nil))
   ·have z0 := zc 4 HX58.out rfl
    go_simp
    clear z0; refine hK.out _ _ (trivial) (fun hHeld => ?_); clear hK KQ
    try simp only [zq]
    refine wpAnyH_ready (rs := [3, 5]) (by kernel_rfl) (by simp) ?_; refine AllReadyH.cons (o := _) rfl (fun KQ hK => ?_) (AllReadyH.cons (o := _) rfl (fun KQ hK => ?_) (AllReadyH.nil))
    ·go_simp
     refine HSH.out.mono ?_; rintro e w8 ⟨rfl, h2⟩; have HS8 := zh (HS60.out.below h2); have HX61 := zh (below_blk h2 HX56.out); have HA62 := zh (HA57.out.on h2.size); have HX63 := zh (below_blk h2 HX58.out); have HA64 := zh (HA59.out.on h2.size); clear h2; have HLY := zh (lay_fin (L := []) HS8.out (by have := HRM.out; have := HI.out; have := HLT3.out; have := HIE36.out; have := HLT37.out; (try simp only [ptsS, ptS, noneT, ptsS_append, List.nil_append, List.cons_append, Nat.add_zero, Nat.zero_add]); omega) (by simp) 15 (numText (tk K.T i).n) (tk K.T i).a (KidsV.nil w8) rfl); refine hK.out _ _ (trivial) (fun hHeld => ?_); clear hK KQ
     try simp only [zq]
     refine zrd 5 fun KQ hK => ?_; have z0 := zc 2 HX63.out rfl
     go_simp
     clear z0; refine hK.out _ _ (trivial) (fun hHeld => ?_); clear hK KQ
     try simp only [zq]
     refine zrd 6 fun KQ hK => ?_
     go_simp
     refine HLY.out.mono ?_; rintro e w9 ⟨rfl, fp9, h1, h2⟩; have HZ9 := zh (show OutP K w p o sn ns fp (.ok (.mk 15 (numText (tk K.T i).n) (tk K.T i).a []) i35) (.returned _) w9 from ⟨rfl, fp9, h1, h2⟩); have HQ9 := zh h2; clear h1 h2; refine hK.out _ _ (trivial) (fun hHeld => ?_); clear hK KQ
     try simp only [zq]
     refine ztk 7 2 (natV (ns.length + ptS (.mk 15 (numText (tk K.T i).n) (tk K.T i).a []) - 1)) hHeld ?_; simp only [zq]; refine wpAnyH_done (by kernel_rfl) ?_ _; go_wp2
     go_ret
     exact (by rw [← HFI.out]; exact HZ9.out)
    ·have z0 := zc 2 HX58.out rfl
     go_simp
     clear z0; refine hK.out _ _ (trivial) (fun hHeld => ?_); clear hK KQ
     try simp only [zq]
     refine zrd 3 fun KQ hK => ?_
     go_simp
     refine HSH.out.mono ?_; rintro e w8 ⟨rfl, h2⟩; have HS8 := zh (HS60.out.below h2); have HX61 := zh (below_blk h2 HX56.out); have HA62 := zh (HA57.out.on h2.size); have HX63 := zh (below_blk h2 HX58.out); have HA64 := zh (HA59.out.on h2.size); clear h2; have HLY := zh (lay_fin (L := []) HS8.out (by have := HRM.out; have := HI.out; have := HLT3.out; have := HIE36.out; have := HLT37.out; (try simp only [ptsS, ptS, noneT, ptsS_append, List.nil_append, List.cons_append, Nat.add_zero, Nat.zero_add]); omega) (by simp) 15 (numText (tk K.T i).n) (tk K.T i).a (KidsV.nil w8) rfl); refine hK.out _ _ (trivial) (fun hHeld => ?_); clear hK KQ
     try simp only [zq]
     refine zrd 6 fun KQ hK => ?_
     go_simp
     refine HLY.out.mono ?_; rintro e w9 ⟨rfl, fp9, h1, h2⟩; have HZ9 := zh (show OutP K w p o sn ns fp (.ok (.mk 15 (numText (tk K.T i).n) (tk K.T i).a []) i35) (.returned _) w9 from ⟨rfl, fp9, h1, h2⟩); have HQ9 := zh h2; clear h1 h2; refine hK.out _ _ (trivial) (fun hHeld => ?_); clear hK KQ
     try simp only [zq]
     refine ztk 7 2 (natV (ns.length + ptS (.mk 15 (numText (tk K.T i).n) (tk K.T i).a []) - 1)) hHeld ?_; simp only [zq]; refine wpAnyH_done (by kernel_rfl) ?_ _; go_wp2
     go_ret
     exact (by rw [← HFI.out]; exact HZ9.out)
   ·have z0 := zc 2 HX58.out rfl
    go_simp
    clear z0; refine hK.out _ _ (trivial) (fun hHeld => ?_); clear hK KQ
    try simp only [zq]
    refine zrd 2 fun KQ hK => ?_; have z0 := zc 4 HX58.out rfl
    go_simp
    clear z0; refine hK.out _ _ (trivial) (fun hHeld => ?_); clear hK KQ
    try simp only [zq]
    refine zrd 3 fun KQ hK => ?_
    go_simp
    refine HSH.out.mono ?_; rintro e w8 ⟨rfl, h2⟩; have HS8 := zh (HS60.out.below h2); have HX61 := zh (below_blk h2 HX56.out); have HA62 := zh (HA57.out.on h2.size); have HX63 := zh (below_blk h2 HX58.out); have HA64 := zh (HA59.out.on h2.size); clear h2; have HLY := zh (lay_fin (L := []) HS8.out (by have := HRM.out; have := HI.out; have := HLT3.out; have := HIE36.out; have := HLT37.out; (try simp only [ptsS, ptS, noneT, ptsS_append, List.nil_append, List.cons_append, Nat.add_zero, Nat.zero_add]); omega) (by simp) 15 (numText (tk K.T i).n) (tk K.T i).a (KidsV.nil w8) rfl); refine hK.out _ _ (trivial) (fun hHeld => ?_); clear hK KQ
    try simp only [zq]
    refine zrd 6 fun KQ hK => ?_
    go_simp
    refine HLY.out.mono ?_; rintro e w9 ⟨rfl, fp9, h1, h2⟩; have HZ9 := zh (show OutP K w p o sn ns fp (.ok (.mk 15 (numText (tk K.T i).n) (tk K.T i).a []) i35) (.returned _) w9 from ⟨rfl, fp9, h1, h2⟩); have HQ9 := zh h2; clear h1 h2; refine hK.out _ _ (trivial) (fun hHeld => ?_); clear hK KQ
    try simp only [zq]
    refine ztk 7 2 (natV (ns.length + ptS (.mk 15 (numText (tk K.T i).n) (tk K.T i).a []) - 1)) hHeld ?_; simp only [zq]; refine wpAnyH_done (by kernel_rfl) ?_ _; go_wp2
    go_ret
    exact (by rw [← HFI.out]; exact HZ9.out)
  ·have z0 := zc 4 HX58.out rfl
   go_simp
   clear z0; refine hK.out _ _ (trivial) (fun hHeld => ?_); clear hK KQ
   try simp only [zq]
   refine wpAnyH_ready (rs := [0, 3, 5]) (by kernel_rfl) (by simp) ?_; refine AllReadyH.cons (o := _) rfl (fun KQ hK => ?_) (AllReadyH.cons (o := _) rfl (fun KQ hK => ?_) (AllReadyH.cons (o := _) rfl (fun KQ hK => ?_) (AllReadyH.nil)))
   ·have z0 := zc 0 HX56.out rfl
    go_simp
    clear z0; refine hK.out _ _ (trivial) (fun hHeld => ?_); clear hK KQ
    try simp only [zq]
    refine wpAnyH_ready (rs := [3, 5]) (by kernel_rfl) (by simp) ?_; refine AllReadyH.cons (o := _) rfl (fun KQ hK => ?_) (AllReadyH.cons (o := _) rfl (fun KQ hK => ?_) (AllReadyH.nil))
    ·go_simp
     refine HSH.out.mono ?_; rintro e w8 ⟨rfl, h2⟩; have HS8 := zh (HS60.out.below h2); have HX61 := zh (below_blk h2 HX56.out); have HA62 := zh (HA57.out.on h2.size); have HX63 := zh (below_blk h2 HX58.out); have HA64 := zh (HA59.out.on h2.size); clear h2; have HLY := zh (lay_fin (L := []) HS8.out (by have := HRM.out; have := HI.out; have := HLT3.out; have := HIE36.out; have := HLT37.out; (try simp only [ptsS, ptS, noneT, ptsS_append, List.nil_append, List.cons_append, Nat.add_zero, Nat.zero_add]); omega) (by simp) 15 (numText (tk K.T i).n) (tk K.T i).a (KidsV.nil w8) rfl); refine hK.out _ _ (trivial) (fun hHeld => ?_); clear hK KQ
     try simp only [zq]
     refine zrd 5 fun KQ hK => ?_; have z0 := zc 2 HX63.out rfl
     go_simp
     clear z0; refine hK.out _ _ (trivial) (fun hHeld => ?_); clear hK KQ
     try simp only [zq]
     refine zrd 6 fun KQ hK => ?_
     go_simp
     refine HLY.out.mono ?_; rintro e w9 ⟨rfl, fp9, h1, h2⟩; have HZ9 := zh (show OutP K w p o sn ns fp (.ok (.mk 15 (numText (tk K.T i).n) (tk K.T i).a []) i35) (.returned _) w9 from ⟨rfl, fp9, h1, h2⟩); have HQ9 := zh h2; clear h1 h2; refine hK.out _ _ (trivial) (fun hHeld => ?_); clear hK KQ
     try simp only [zq]
     refine ztk 7 2 (natV (ns.length + ptS (.mk 15 (numText (tk K.T i).n) (tk K.T i).a []) - 1)) hHeld ?_; simp only [zq]; refine wpAnyH_done (by kernel_rfl) ?_ _; go_wp2
     go_ret
     exact (by rw [← HFI.out]; exact HZ9.out)
    ·have z0 := zc 2 HX58.out rfl
     go_simp
     clear z0; refine hK.out _ _ (trivial) (fun hHeld => ?_); clear hK KQ
     try simp only [zq]
     refine zrd 3 fun KQ hK => ?_
     go_simp
     refine HSH.out.mono ?_; rintro e w8 ⟨rfl, h2⟩; have HS8 := zh (HS60.out.below h2); have HX61 := zh (below_blk h2 HX56.out); have HA62 := zh (HA57.out.on h2.size); have HX63 := zh (below_blk h2 HX58.out); have HA64 := zh (HA59.out.on h2.size); clear h2; have HLY := zh (lay_fin (L := []) HS8.out (by have := HRM.out; have := HI.out; have := HLT3.out; have := HIE36.out; have := HLT37.out; (try simp only [ptsS, ptS, noneT, ptsS_append, List.nil_append, List.cons_append, Nat.add_zero, Nat.zero_add]); omega) (by simp) 15 (numText (tk K.T i).n) (tk K.T i).a (KidsV.nil w8) rfl); refine hK.out _ _ (trivial) (fun hHeld => ?_); clear hK KQ
     try simp only [zq]
     refine zrd 6 fun KQ hK => ?_
     go_simp
     refine HLY.out.mono ?_; rintro e w9 ⟨rfl, fp9, h1, h2⟩; have HZ9 := zh (show OutP K w p o sn ns fp (.ok (.mk 15 (numText (tk K.T i).n) (tk K.T i).a []) i35) (.returned _) w9 from ⟨rfl, fp9, h1, h2⟩); have HQ9 := zh h2; clear h1 h2; refine hK.out _ _ (trivial) (fun hHeld => ?_); clear hK KQ
     try simp only [zq]
     refine ztk 7 2 (natV (ns.length + ptS (.mk 15 (numText (tk K.T i).n) (tk K.T i).a []) - 1)) hHeld ?_; simp only [zq]; refine wpAnyH_done (by kernel_rfl) ?_ _; go_wp2
     go_ret
     exact (by rw [← HFI.out]; exact HZ9.out)
   ·go_simp
    refine HSH.out.mono ?_; rintro e w8 ⟨rfl, h2⟩; have HS8 := zh (HS60.out.below h2); have HX61 := zh (below_blk h2 HX56.out); have HA62 := zh (HA57.out.on h2.size); have HX63 := zh (below_blk h2 HX58.out); have HA64 := zh (HA59.out.on h2.size); clear h2; have HLY := zh (lay_fin (L := []) HS8.out (by have := HRM.out; have := HI.out; have := HLT3.out; have := HIE36.out; have := HLT37.out; (try simp only [ptsS, ptS, noneT, ptsS_append, List.nil_append, List.cons_append, Nat.add_zero, Nat.zero_add]); omega) (by simp) 15 (numText (tk K.T i).n) (tk K.T i).a (KidsV.nil w8) rfl); refine hK.out _ _ (trivial) (fun hHeld => ?_); clear hK KQ
    try simp only [zq]
    refine wpAnyH_ready (rs := [0, 5]) (by kernel_rfl) (by simp) ?_; refine AllReadyH.cons (o := _) rfl (fun KQ hK => ?_) (AllReadyH.cons (o := _) rfl (fun KQ hK => ?_) (AllReadyH.nil))
    ·have z0 := zc 0 HX61.out rfl
     go_simp
     clear z0; refine hK.out _ _ (trivial) (fun hHeld => ?_); clear hK KQ
     try simp only [zq]
     refine zrd 5 fun KQ hK => ?_; have z0 := zc 2 HX63.out rfl
     go_simp
     clear z0; refine hK.out _ _ (trivial) (fun hHeld => ?_); clear hK KQ
     try simp only [zq]
     refine zrd 6 fun KQ hK => ?_
     go_simp
     refine HLY.out.mono ?_; rintro e w9 ⟨rfl, fp9, h1, h2⟩; have HZ9 := zh (show OutP K w p o sn ns fp (.ok (.mk 15 (numText (tk K.T i).n) (tk K.T i).a []) i35) (.returned _) w9 from ⟨rfl, fp9, h1, h2⟩); have HQ9 := zh h2; clear h1 h2; refine hK.out _ _ (trivial) (fun hHeld => ?_); clear hK KQ
     try simp only [zq]
     refine ztk 7 2 (natV (ns.length + ptS (.mk 15 (numText (tk K.T i).n) (tk K.T i).a []) - 1)) hHeld ?_; simp only [zq]; refine wpAnyH_done (by kernel_rfl) ?_ _; go_wp2
     go_ret
     exact (by rw [← HFI.out]; exact HZ9.out)
    ·have z0 := zc 2 HX63.out rfl
     go_simp
     clear z0; refine hK.out _ _ (trivial) (fun hHeld => ?_); clear hK KQ
     try simp only [zq]
     refine zrd 0 fun KQ hK => ?_; have z0 := zc 0 HX61.out rfl
     go_simp
     clear z0; refine hK.out _ _ (trivial) (fun hHeld => ?_); clear hK KQ
     try simp only [zq]
     refine zrd 6 fun KQ hK => ?_
     go_simp
     refine HLY.out.mono ?_; rintro e w9 ⟨rfl, fp9, h1, h2⟩; have HZ9 := zh (show OutP K w p o sn ns fp (.ok (.mk 15 (numText (tk K.T i).n) (tk K.T i).a []) i35) (.returned _) w9 from ⟨rfl, fp9, h1, h2⟩); have HQ9 := zh h2; clear h1 h2; refine hK.out _ _ (trivial) (fun hHeld => ?_); clear hK KQ
     try simp only [zq]
     refine ztk 7 2 (natV (ns.length + ptS (.mk 15 (numText (tk K.T i).n) (tk K.T i).a []) - 1)) hHeld ?_; simp only [zq]; refine wpAnyH_done (by kernel_rfl) ?_ _; go_wp2
     go_ret
     exact (by rw [← HFI.out]; exact HZ9.out)
   ·have z0 := zc 2 HX58.out rfl
    go_simp
    clear z0; refine hK.out _ _ (trivial) (fun hHeld => ?_); clear hK KQ
    try simp only [zq]
    refine wpAnyH_ready (rs := [0, 3]) (by kernel_rfl) (by simp) ?_; refine AllReadyH.cons (o := _) rfl (fun KQ hK => ?_) (AllReadyH.cons (o := _) rfl (fun KQ hK => ?_) (AllReadyH.nil))
    ·have z0 := zc 0 HX56.out rfl
     go_simp
     clear z0; refine hK.out _ _ (trivial) (fun hHeld => ?_); clear hK KQ
     try simp only [zq]
     refine zrd 3 fun KQ hK => ?_
     go_simp
     refine HSH.out.mono ?_; rintro e w8 ⟨rfl, h2⟩; have HS8 := zh (HS60.out.below h2); have HX61 := zh (below_blk h2 HX56.out); have HA62 := zh (HA57.out.on h2.size); have HX63 := zh (below_blk h2 HX58.out); have HA64 := zh (HA59.out.on h2.size); clear h2; have HLY := zh (lay_fin (L := []) HS8.out (by have := HRM.out; have := HI.out; have := HLT3.out; have := HIE36.out; have := HLT37.out; (try simp only [ptsS, ptS, noneT, ptsS_append, List.nil_append, List.cons_append, Nat.add_zero, Nat.zero_add]); omega) (by simp) 15 (numText (tk K.T i).n) (tk K.T i).a (KidsV.nil w8) rfl); refine hK.out _ _ (trivial) (fun hHeld => ?_); clear hK KQ
     try simp only [zq]
     refine zrd 6 fun KQ hK => ?_
     go_simp
     refine HLY.out.mono ?_; rintro e w9 ⟨rfl, fp9, h1, h2⟩; have HZ9 := zh (show OutP K w p o sn ns fp (.ok (.mk 15 (numText (tk K.T i).n) (tk K.T i).a []) i35) (.returned _) w9 from ⟨rfl, fp9, h1, h2⟩); have HQ9 := zh h2; clear h1 h2; refine hK.out _ _ (trivial) (fun hHeld => ?_); clear hK KQ
     try simp only [zq]
     refine ztk 7 2 (natV (ns.length + ptS (.mk 15 (numText (tk K.T i).n) (tk K.T i).a []) - 1)) hHeld ?_; simp only [zq]; refine wpAnyH_done (by kernel_rfl) ?_ _; go_wp2
     go_ret
     exact (by rw [← HFI.out]; exact HZ9.out)
    ·go_simp
     refine HSH.out.mono ?_; rintro e w8 ⟨rfl, h2⟩; have HS8 := zh (HS60.out.below h2); have HX61 := zh (below_blk h2 HX56.out); have HA62 := zh (HA57.out.on h2.size); have HX63 := zh (below_blk h2 HX58.out); have HA64 := zh (HA59.out.on h2.size); clear h2; have HLY := zh (lay_fin (L := []) HS8.out (by have := HRM.out; have := HI.out; have := HLT3.out; have := HIE36.out; have := HLT37.out; (try simp only [ptsS, ptS, noneT, ptsS_append, List.nil_append, List.cons_append, Nat.add_zero, Nat.zero_add]); omega) (by simp) 15 (numText (tk K.T i).n) (tk K.T i).a (KidsV.nil w8) rfl); refine hK.out _ _ (trivial) (fun hHeld => ?_); clear hK KQ
     try simp only [zq]
     refine zrd 0 fun KQ hK => ?_; have z0 := zc 0 HX61.out rfl
     go_simp
     clear z0; refine hK.out _ _ (trivial) (fun hHeld => ?_); clear hK KQ
     try simp only [zq]
     refine zrd 6 fun KQ hK => ?_
     go_simp
     refine HLY.out.mono ?_; rintro e w9 ⟨rfl, fp9, h1, h2⟩; have HZ9 := zh (show OutP K w p o sn ns fp (.ok (.mk 15 (numText (tk K.T i).n) (tk K.T i).a []) i35) (.returned _) w9 from ⟨rfl, fp9, h1, h2⟩); have HQ9 := zh h2; clear h1 h2; refine hK.out _ _ (trivial) (fun hHeld => ?_); clear hK KQ
     try simp only [zq]
     refine ztk 7 2 (natV (ns.length + ptS (.mk 15 (numText (tk K.T i).n) (tk K.T i).a []) - 1)) hHeld ?_; simp only [zq]; refine wpAnyH_done (by kernel_rfl) ?_ _; go_wp2
     go_ret
     exact (by rw [← HFI.out]; exact HZ9.out)
  ·have z0 := zc 2 HX58.out rfl
   go_simp
   clear z0; refine hK.out _ _ (trivial) (fun hHeld => ?_); clear hK KQ
   try simp only [zq]
   refine wpAnyH_ready (rs := [0, 2]) (by kernel_rfl) (by simp) ?_; refine AllReadyH.cons (o := _) rfl (fun KQ hK => ?_) (AllReadyH.cons (o := _) rfl (fun KQ hK => ?_) (AllReadyH.nil))
   ·have z0 := zc 0 HX56.out rfl
    go_simp
    clear z0; refine hK.out _ _ (trivial) (fun hHeld => ?_); clear hK KQ
    try simp only [zq]
    refine zrd 2 fun KQ hK => ?_; have z0 := zc 4 HX58.out rfl
    go_simp
    clear z0; refine hK.out _ _ (trivial) (fun hHeld => ?_); clear hK KQ
    try simp only [zq]
    refine zrd 3 fun KQ hK => ?_
    go_simp
    refine HSH.out.mono ?_; rintro e w8 ⟨rfl, h2⟩; have HS8 := zh (HS60.out.below h2); have HX61 := zh (below_blk h2 HX56.out); have HA62 := zh (HA57.out.on h2.size); have HX63 := zh (below_blk h2 HX58.out); have HA64 := zh (HA59.out.on h2.size); clear h2; have HLY := zh (lay_fin (L := []) HS8.out (by have := HRM.out; have := HI.out; have := HLT3.out; have := HIE36.out; have := HLT37.out; (try simp only [ptsS, ptS, noneT, ptsS_append, List.nil_append, List.cons_append, Nat.add_zero, Nat.zero_add]); omega) (by simp) 15 (numText (tk K.T i).n) (tk K.T i).a (KidsV.nil w8) rfl); refine hK.out _ _ (trivial) (fun hHeld => ?_); clear hK KQ
    try simp only [zq]
    refine zrd 6 fun KQ hK => ?_
    go_simp
    refine HLY.out.mono ?_; rintro e w9 ⟨rfl, fp9, h1, h2⟩; have HZ9 := zh (show OutP K w p o sn ns fp (.ok (.mk 15 (numText (tk K.T i).n) (tk K.T i).a []) i35) (.returned _) w9 from ⟨rfl, fp9, h1, h2⟩); have HQ9 := zh h2; clear h1 h2; refine hK.out _ _ (trivial) (fun hHeld => ?_); clear hK KQ
    try simp only [zq]
    refine ztk 7 2 (natV (ns.length + ptS (.mk 15 (numText (tk K.T i).n) (tk K.T i).a []) - 1)) hHeld ?_; simp only [zq]; refine wpAnyH_done (by kernel_rfl) ?_ _; go_wp2
    go_ret
    exact (by rw [← HFI.out]; exact HZ9.out)
   ·have z0 := zc 4 HX58.out rfl
    go_simp
    clear z0; refine hK.out _ _ (trivial) (fun hHeld => ?_); clear hK KQ
    try simp only [zq]
    refine wpAnyH_ready (rs := [0, 3]) (by kernel_rfl) (by simp) ?_; refine AllReadyH.cons (o := _) rfl (fun KQ hK => ?_) (AllReadyH.cons (o := _) rfl (fun KQ hK => ?_) (AllReadyH.nil))
    ·have z0 := zc 0 HX56.out rfl
     go_simp
     clear z0; refine hK.out _ _ (trivial) (fun hHeld => ?_); clear hK KQ
     try simp only [zq]
     refine zrd 3 fun KQ hK => ?_
     go_simp
     refine HSH.out.mono ?_; rintro e w8 ⟨rfl, h2⟩; have HS8 := zh (HS60.out.below h2); have HX61 := zh (below_blk h2 HX56.out); have HA62 := zh (HA57.out.on h2.size); have HX63 := zh (below_blk h2 HX58.out); have HA64 := zh (HA59.out.on h2.size); clear h2; have HLY := zh (lay_fin (L := []) HS8.out (by have := HRM.out; have := HI.out; have := HLT3.out; have := HIE36.out; have := HLT37.out; (try simp only [ptsS, ptS, noneT, ptsS_append, List.nil_append, List.cons_append, Nat.add_zero, Nat.zero_add]); omega) (by simp) 15 (numText (tk K.T i).n) (tk K.T i).a (KidsV.nil w8) rfl); refine hK.out _ _ (trivial) (fun hHeld => ?_); clear hK KQ
     try simp only [zq]
     refine zrd 6 fun KQ hK => ?_
     go_simp
     refine HLY.out.mono ?_; rintro e w9 ⟨rfl, fp9, h1, h2⟩; have HZ9 := zh (show OutP K w p o sn ns fp (.ok (.mk 15 (numText (tk K.T i).n) (tk K.T i).a []) i35) (.returned _) w9 from ⟨rfl, fp9, h1, h2⟩); have HQ9 := zh h2; clear h1 h2; refine hK.out _ _ (trivial) (fun hHeld => ?_); clear hK KQ
     try simp only [zq]
     refine ztk 7 2 (natV (ns.length + ptS (.mk 15 (numText (tk K.T i).n) (tk K.T i).a []) - 1)) hHeld ?_; simp only [zq]; refine wpAnyH_done (by kernel_rfl) ?_ _; go_wp2
     go_ret
     exact (by rw [← HFI.out]; exact HZ9.out)
    ·go_simp
     refine HSH.out.mono ?_; rintro e w8 ⟨rfl, h2⟩; have HS8 := zh (HS60.out.below h2); have HX61 := zh (below_blk h2 HX56.out); have HA62 := zh (HA57.out.on h2.size); have HX63 := zh (below_blk h2 HX58.out); have HA64 := zh (HA59.out.on h2.size); clear h2; have HLY := zh (lay_fin (L := []) HS8.out (by have := HRM.out; have := HI.out; have := HLT3.out; have := HIE36.out; have := HLT37.out; (try simp only [ptsS, ptS, noneT, ptsS_append, List.nil_append, List.cons_append, Nat.add_zero, Nat.zero_add]); omega) (by simp) 15 (numText (tk K.T i).n) (tk K.T i).a (KidsV.nil w8) rfl); refine hK.out _ _ (trivial) (fun hHeld => ?_); clear hK KQ
     try simp only [zq]
     refine zrd 0 fun KQ hK => ?_; have z0 := zc 0 HX61.out rfl
     go_simp
     clear z0; refine hK.out _ _ (trivial) (fun hHeld => ?_); clear hK KQ
     try simp only [zq]
     refine zrd 6 fun KQ hK => ?_
     go_simp
     refine HLY.out.mono ?_; rintro e w9 ⟨rfl, fp9, h1, h2⟩; have HZ9 := zh (show OutP K w p o sn ns fp (.ok (.mk 15 (numText (tk K.T i).n) (tk K.T i).a []) i35) (.returned _) w9 from ⟨rfl, fp9, h1, h2⟩); have HQ9 := zh h2; clear h1 h2; refine hK.out _ _ (trivial) (fun hHeld => ?_); clear hK KQ
     try simp only [zq]
     refine ztk 7 2 (natV (ns.length + ptS (.mk 15 (numText (tk K.T i).n) (tk K.T i).a []) - 1)) hHeld ?_; simp only [zq]; refine wpAnyH_done (by kernel_rfl) ?_ _; go_wp2
     go_ret
     exact (by rw [← HFI.out]; exact HZ9.out)
 ·rw [if_neg h3] at hr
  by_cases k3 : (tk K.T i).kind = 3
  ·have q3 : ((tk K.T i).kind == 3) = true := beq_iff_eq.2 k3
   have qn : ¬ 0 ≤ (tk K.T i).n := fun e9 => h3 ⟨k3, e9⟩; clear h3 k3; by_cases h4 : (tk K.T i).kind = 4
   ·rw [if_pos h4] at hr
    have q4 : ((tk K.T i).kind == 4) = true := beq_iff_eq.2 h4; have HLT4 := zh (tk_lt HTK.out HI.out (by rw [h4]; decide)); clear h4; obtain ⟨nv, l, hm⟩ := HS21.out.pa.mem; obtain ⟨-, y69, -, -, -, cf⟩ := pa_cell hm.blk; have y70 := cf 1; have y71 := blk_lt hm.blk; clear hm cf; obtain ⟨i66, hi1⟩ : ∃ ix, ix = i + 1 := ⟨_, rfl⟩; have y72 : (i : Int) + 1 = (i66 : Int) := by omega
    have y73 : i66 ≤ 200002 := by have := HLT4.out; have := HLN.out; omega
    have y74 : IntKind.i64.wrap (i66 : Int) = (i66 : Int) := IntWalk.i64_in _ (by omega)
    try rw [← hi1] at hr
    have HIE67 := zh hi1; have HLT68 := zh (show i66 < K.T.length by rw [hi1]; exact HLT4.out); clear hi1 nv l; have hst := HS21.out.pa.setI i66; have hto : PaTo w18 fp (w18.setCell ⟨p, 1, none⟩ (.int .i64 (i66 : Int))) fp := hst.2; have HS65 := zh (show St K w p i66 o sn ns fp [] (w18.setCell ⟨p, 1, none⟩ (.int .i64 (i66 : Int))) fp from HS21.out.step hst.1 hto); have HX75 := zh (Away.blkTo HX24.out HA25.out hto); have HA76 := zh (HA25.out.to hto); have HX77 := zh (Away.blkTo HX19.out HA20.out hto); have HA78 := zh (HA20.out.to hto); clear hst hto; have x79 := zc 0 HX75.out rfl; have xl80 := blk_lt HX75.out; have x81 := zc 0 HX77.out rfl; have x82 := zc 1 HX77.out rfl; have x83 := zc 2 HX77.out rfl; have x84 := zc 3 HX77.out rfl; have x85 := zc 4 HX77.out rfl; have xl86 := blk_lt HX77.out; have HRR88 := zh (show Res.ok _ _ = r from Option.some.inj hr); clear hr; have HL87 := zh (lay_fin (L := []) HS65.out (by have := HRM.out; have := HI.out; have := HLT4.out; have := HIE67.out; have := HLT68.out; (try simp only [ptsS, ptS, noneT, ptsS_append, List.nil_append, List.cons_append, Nat.add_zero, Nat.zero_add]); omega) (by simp) 16 (tk K.T i).text (tk K.T i).a (KidsV.nil (w18.setCell ⟨p, 1, none⟩ (.int .i64 (i66 : Int)))) rfl); go_wp2_with fail
    refine HL87.out.mono ?_; rintro e wz ⟨rfl, fpz, h1, h2⟩; have HZ89 := zh (show OutP K w p o sn ns fp (.ok (.mk 16 (tk K.T i).text (tk K.T i).a []) i66) (.returned _) wz from ⟨rfl, fpz, h1, h2⟩); clear h1 h2; go_wp2
    go_ret
    exact (by rw [← HRR88.out]; exact HZ89.out)
   ·rw [if_neg h4] at hr
    have q4 : ((tk K.T i).kind == 4) = false := beq_eq_false_iff_ne.2 h4; clear h4; by_cases h1 : (tk K.T i).kind = 1
    ·rw [if_pos h1] at hr
     have q1 : ((tk K.T i).kind == 1) = true := beq_iff_eq.2 h1; have HLT1 := zh (tk_lt HTK.out HI.out (by rw [h1]; decide)); clear h1; obtain ⟨nv, l, hm⟩ := HS21.out.pa.mem; obtain ⟨-, y94, -, -, -, cf⟩ := pa_cell hm.blk; have y95 := cf 1; have y96 := blk_lt hm.blk; clear hm cf; obtain ⟨i91, hi1⟩ : ∃ ix, ix = i + 1 := ⟨_, rfl⟩; have y97 : (i : Int) + 1 = (i91 : Int) := by omega
     have y98 : i91 ≤ 200002 := by have := HLT1.out; have := HLN.out; omega
     have y99 : IntKind.i64.wrap (i91 : Int) = (i91 : Int) := IntWalk.i64_in _ (by omega)
     try rw [← hi1] at hr
     have HIE92 := zh hi1; have HLT93 := zh (show i91 < K.T.length by rw [hi1]; exact HLT1.out); clear hi1 nv l; have hst := HS21.out.pa.setI i91; have hto : PaTo w18 fp (w18.setCell ⟨p, 1, none⟩ (.int .i64 (i91 : Int))) fp := hst.2; have HS90 := zh (show St K w p i91 o sn ns fp [] (w18.setCell ⟨p, 1, none⟩ (.int .i64 (i91 : Int))) fp from HS21.out.step hst.1 hto); have HX100 := zh (Away.blkTo HX24.out HA25.out hto); have HA101 := zh (HA25.out.to hto); have HX102 := zh (Away.blkTo HX19.out HA20.out hto); have HA103 := zh (HA20.out.to hto); clear hst hto; have x104 := zc 0 HX100.out rfl; have xl105 := blk_lt HX100.out; have x106 := zc 0 HX102.out rfl; have x107 := zc 1 HX102.out rfl; have x108 := zc 2 HX102.out rfl; have x109 := zc 3 HX102.out rfl; have x110 := zc 4 HX102.out rfl; have xl111 := blk_lt HX102.out; obtain ⟨X, hX⟩ : ∃ X, (parF K.T f).one (.name (tk K.T i)) o i91 = X := ⟨_, rfl⟩; rw [hX] at hr
     cases X with
     | none => exact absurd hr (by simp [Res.then])
     | some X =>
     cases X with
     | bad a n =>
      have HRR114 := zh (show Res.bad a n = r from (by exact Option.some.inj hr)); have HC117 := zh (call_bad ((HAP.out f (Nat.le_refl f)).name (tk K.T i)) HS90.out HB.out ⟨HLT93.out, by have := HRM.out; have := HI.out; have := HLT1.out; have := HIE92.out; have := HLT93.out; (try simp only [zS]); omega⟩ HO.out hX); clear hr hX; go_wp2_with fail
      refine HC117.out.mono ?_; rintro e wb ⟨rfl, hb⟩; have HB116 := zh hb; clear hb; unfold wrongP; go_wp2
      exact ⟨rfl, by rw [← HRR114.out]; exact ⟨rfl, HB116.out⟩⟩
     | ok t112 j113 =>
      have hft := (fit_all HTK.out f).one (.name (tk K.T i)) o i91 HLT93.out; rw [hX] at hft; obtain ⟨f1, f2, f3⟩ := hft; simp only [lazy1, sl1, ex1, zf] at f2 f3
      have HF115 := zh (And.intro f1 (And.intro f2 f3)); clear f1 f2 f3; have HC121 := zh (call_ok ((HAP.out f (Nat.le_refl f)).name (tk K.T i)) HS90.out ⟨HLT93.out, by have := HRM.out; have := HI.out; have := HLT1.out; have := HIE92.out; have := HLT93.out; (try simp only [zS]); omega⟩ HO.out hX); clear hX; have HR := zh hr; clear hr; go_wp2_with fail
      clear x104 xl105 x106 x107 x108 x109 x110 xl111 y94 y95 y96 y97 y98 y99 x26 xl27 x28 x29 x30 x31 x32 xl33; refine HC121.out.mono ?_; rintro e w118 ⟨rfl, fp119, h1, h2⟩; obtain ⟨n122, hn⟩ : ∃ n, n = nr ns [] t112 := ⟨_, rfl⟩; rw [← hn]; have HN123 := zh hn; have HS120 := zh (show St K w p j113 o sn ns fp [t112] w118 fp119 from h1); have HX124 := zh (Away.blkTo HX100.out HA101.out h2); have HA125 := zh (HA101.out.to h2); have HX126 := zh (Away.blkTo HX102.out HA103.out h2); have HA127 := zh (HA103.out.to h2); clear h1 h2 hn; have x128 := zc 0 HX124.out rfl; have xl129 := blk_lt HX124.out; have x130 := zc 0 HX126.out rfl; have x131 := zc 1 HX126.out rfl; have x132 := zc 2 HX126.out rfl; have x133 := zc 3 HX126.out rfl; have x134 := zc 4 HX126.out rfl; have xl135 := blk_lt HX126.out; have hr := HR.out; clear HR; have HRR136 := zh (show Res.ok _ _ = r from Option.some.inj hr); clear hr; go_wp2
      go_ret
      exact (by rw [← HRR136.out, HN123.out]; exact HS120.out.out)
    ·rw [if_neg h1] at hr
     have q1 : ((tk K.T i).kind == 1) = false := beq_eq_false_iff_ne.2 h1; clear h1
     cases hb : isAny (tk K.T i) [⟨#[110, 105, 108]⟩] with
     | true =>
      rw [if_pos hb] at hr; have HLT137 := zh (any_lt HTK.out HI.out hb); have HC140 := zh (got_yes HS21.out.pa HI.out ⟨#[110, 105, 108]⟩ hb); clear hb; have HR := zh hr; clear hr; go_wp2_with fail
      clear x26 xl27 x28 x29 x30 x31 x32 xl33; refine HC140.out.mono ?_; rintro e w138 ⟨rfl, h1, h2⟩; have HS139 := zh (HS21.out.step h1 h2); have HX141 := zh (Away.blkTo HX24.out HA25.out h2); have HA142 := zh (HA25.out.to h2); have HX143 := zh (Away.blkTo HX19.out HA20.out h2); have HA144 := zh (HA20.out.to h2); clear h1 h2; have x145 := zc 0 HX141.out rfl; have xl146 := blk_lt HX141.out; have x147 := zc 0 HX143.out rfl; have x148 := zc 1 HX143.out rfl; have x149 := zc 2 HX143.out rfl; have x150 := zc 3 HX143.out rfl; have x151 := zc 4 HX143.out rfl; have xl152 := blk_lt HX143.out; have hr := HR.out; clear HR; have HRR154 := zh (show Res.ok _ _ = r from Option.some.inj hr); clear hr; have HL153 := zh (lay_fin (L := []) HS139.out (by have := HRM.out; have := HI.out; have := HLT137.out; (try simp only [ptsS, ptS, noneT, ptsS_append, List.nil_append, List.cons_append, Nat.add_zero, Nat.zero_add]); omega) (by simp) 13 ⟨#[]⟩ (tk K.T i).a (KidsV.nil w138) rfl); go_wp2_with fail
      refine HL153.out.mono ?_; rintro e wz ⟨rfl, fpz, h1, h2⟩; have HZ155 := zh (show OutP K w p o sn ns fp (.ok (.mk 13 ⟨#[]⟩ (tk K.T i).a []) (i + 1)) (.returned _) wz from ⟨rfl, fpz, h1, h2⟩); clear h1 h2; go_wp2
      go_ret
      exact (by rw [← HRR154.out]; exact HZ155.out)
     | false =>
      rw [if_neg (by rw [hb]; decide)] at hr; have HC158 := zh (got_no HS21.out.pa HI.out ⟨#[110, 105, 108]⟩ hb); clear hb; have HR := zh hr; clear hr; go_wp2_with fail
      clear x26 xl27 x28 x29 x30 x31 x32 xl33; refine HC158.out.mono ?_; rintro e w156 ⟨rfl, h1, h2⟩; have HS157 := zh (HS21.out.below h2); have HX159 := zh (below_blk h2 HX24.out); have HA160 := zh (HA25.out.on h2.size); have HX161 := zh (below_blk h2 HX19.out); have HA162 := zh (HA20.out.on h2.size); clear h2 h1; have x163 := zc 0 HX159.out rfl; have xl164 := blk_lt HX159.out; have x165 := zc 0 HX161.out rfl; have x166 := zc 1 HX161.out rfl; have x167 := zc 2 HX161.out rfl; have x168 := zc 3 HX161.out rfl; have x169 := zc 4 HX161.out rfl; have xl170 := blk_lt HX161.out; have hr := HR.out; clear HR; have HC171 := zh (fun W (hW : W = w156.alloc (.cells #[.string ⟨#[116, 114, 117, 101]⟩, .string ⟨#[102, 97, 108, 115, 101]⟩] 9)) => (show Calls Tryz.prog 19 #[.pointer (some ⟨p, 0, none⟩), .slice (some ⟨w156.heap.size, 0, none⟩) 2 2] W (RetB (.bool (isAny (tk K.T i) [⟨#[116, 114, 117, 101]⟩, ⟨#[102, 97, 108, 115, 101]⟩])) W) from
       is_any (K := K) (i := i) (o := o) (sn := sn) (ns := ns ++ flats ns.length []) (fp := fp) (c := 2) (L := [⟨#[116, 114, 117, 101]⟩, ⟨#[102, 97, 108, 115, 101]⟩]) (hW ▸ HS157.out.pa.below (zbr.alloc znr _)) HI.out (by rw [hW]; exact .inr ⟨⟨w156.heap.size, 0, none⟩, rfl, by simp, fun j u hu => news_new w156 #[.string ⟨#[116, 114, 117, 101]⟩, .string ⟨#[102, 97, 108, 115, 101]⟩] _ _ rfl j u hu⟩) (by simp)))
      cases hb : isAny (tk K.T i) [⟨#[116, 114, 117, 101]⟩, ⟨#[102, 97, 108, 115, 101]⟩] with
      | true =>
       rw [if_pos hb] at hr; have HLT174 := zh (any_lt HTK.out HI.out hb); have HBB := zh hb; clear hb; have HR := zh hr; clear hr; go_wp2_with fail
       clear x163 xl164 x165 x166 x167 x168 x169 xl170; refine (HC171.out _ rfl).mono ?_; rw [HBB.out]; rintro e w175 ⟨rfl, h2⟩; have HK177 := zh (show Below w156.heap.size w156 w175 from (zbr.alloc znr _).trans (h2.mono (by simp))); have HS176 := zh (HS157.out.below HK177.out); have HX178 := zh (below_blk HK177.out HX159.out); have HA179 := zh (HA160.out.on HK177.out.size); have HX180 := zh (below_blk HK177.out HX161.out); have HA181 := zh (HA162.out.on HK177.out.size); clear h2; have x182 := zc 0 HX178.out rfl; have xl183 := blk_lt HX178.out; have x184 := zc 0 HX180.out rfl; have x185 := zc 1 HX180.out rfl; have x186 := zc 2 HX180.out rfl; have x187 := zc 3 HX180.out rfl; have x188 := zc 4 HX180.out rfl; have xl189 := blk_lt HX180.out; have hr := HR.out; clear HR; obtain ⟨nv, l, hm⟩ := HS176.out.pa.mem; obtain ⟨-, y194, -, -, -, cf⟩ := pa_cell hm.blk; have y195 := cf 1; have y196 := blk_lt hm.blk; clear hm cf; obtain ⟨i191, hi1⟩ : ∃ ix, ix = i + 1 := ⟨_, rfl⟩; have y197 : (i : Int) + 1 = (i191 : Int) := by omega
       have y198 : i191 ≤ 200002 := by have := HLT174.out; have := HLN.out; omega
       have y199 : IntKind.i64.wrap (i191 : Int) = (i191 : Int) := IntWalk.i64_in _ (by omega)
       try rw [← hi1] at hr
       have HIE192 := zh hi1; have HLT193 := zh (show i191 < K.T.length by rw [hi1]; exact HLT174.out); clear hi1 nv l; have hst := HS176.out.pa.setI i191; have hto : PaTo w175 fp (w175.setCell ⟨p, 1, none⟩ (.int .i64 (i191 : Int))) fp := hst.2; have HS190 := zh (show St K w p i191 o sn ns fp [] (w175.setCell ⟨p, 1, none⟩ (.int .i64 (i191 : Int))) fp from HS176.out.step hst.1 hto); have HX200 := zh (Away.blkTo HX178.out HA179.out hto); have HA201 := zh (HA179.out.to hto); have HX202 := zh (Away.blkTo HX180.out HA181.out hto); have HA203 := zh (HA181.out.to hto); clear hst hto; have x204 := zc 0 HX200.out rfl; have xl205 := blk_lt HX200.out; have x206 := zc 0 HX202.out rfl; have x207 := zc 1 HX202.out rfl; have x208 := zc 2 HX202.out rfl; have x209 := zc 3 HX202.out rfl; have x210 := zc 4 HX202.out rfl; have xl211 := blk_lt HX202.out; have HRR213 := zh (show Res.ok _ _ = r from Option.some.inj hr); clear hr; have HL212 := zh (lay_fin (L := []) HS190.out (by have := HRM.out; have := HI.out; have := HLT174.out; have := HIE192.out; have := HLT193.out; (try simp only [ptsS, ptS, noneT, ptsS_append, List.nil_append, List.cons_append, Nat.add_zero, Nat.zero_add]); omega) (by simp) 14 (tk K.T i).text (tk K.T i).a (KidsV.nil (w175.setCell ⟨p, 1, none⟩ (.int .i64 (i191 : Int)))) rfl); go_wp2_with fail
       refine HL212.out.mono ?_; rintro e wz ⟨rfl, fpz, h1, h2⟩; have HZ214 := zh (show OutP K w p o sn ns fp (.ok (.mk 14 (tk K.T i).text (tk K.T i).a []) i191) (.returned _) wz from ⟨rfl, fpz, h1, h2⟩); clear h1 h2; go_wp2
       go_ret
       exact (by rw [← HRR213.out]; exact HZ214.out)
      | false =>
       rw [if_neg (by rw [hb]; decide)] at hr; have HBB := zh hb; clear hb; have HR := zh hr; clear hr; go_wp2_with fail
       clear x163 xl164 x165 x166 x167 x168 x169 xl170; refine (HC171.out _ rfl).mono ?_; rw [HBB.out]; rintro e w215 ⟨rfl, h2⟩; have HK217 := zh (show Below w156.heap.size w156 w215 from (zbr.alloc znr _).trans (h2.mono (by simp))); have HS216 := zh (HS157.out.below HK217.out); have HX218 := zh (below_blk HK217.out HX159.out); have HA219 := zh (HA160.out.on HK217.out.size); have HX220 := zh (below_blk HK217.out HX161.out); have HA221 := zh (HA162.out.on HK217.out.size); clear h2; have x222 := zc 0 HX218.out rfl; have xl223 := blk_lt HX218.out; have x224 := zc 0 HX220.out rfl; have x225 := zc 1 HX220.out rfl; have x226 := zc 2 HX220.out rfl; have x227 := zc 3 HX220.out rfl; have x228 := zc 4 HX220.out rfl; have xl229 := blk_lt HX220.out; have hr := HR.out; clear HR
       cases hb : isAny (tk K.T i) [⟨#[102, 117, 110, 99, 116, 105, 111, 110]⟩] with
       | true =>
        rw [if_pos hb] at hr; have HLT230 := zh (any_lt HTK.out HI.out hb); have HC233 := zh (got_yes HS216.out.pa HI.out ⟨#[102, 117, 110, 99, 116, 105, 111, 110]⟩ hb); clear hb; have HR := zh hr; clear hr; go_wp2_with fail
        clear x222 xl223 x224 x225 x226 x227 x228 xl229; refine HC233.out.mono ?_; rintro e w231 ⟨rfl, h1, h2⟩; have HS232 := zh (HS216.out.step h1 h2); have HX234 := zh (Away.blkTo HX218.out HA219.out h2); have HA235 := zh (HA219.out.to h2); have HX236 := zh (Away.blkTo HX220.out HA221.out h2); have HA237 := zh (HA221.out.to h2); clear h1 h2; have x238 := zc 0 HX234.out rfl; have xl239 := blk_lt HX234.out; have x240 := zc 0 HX236.out rfl; have x241 := zc 1 HX236.out rfl; have x242 := zc 2 HX236.out rfl; have x243 := zc 3 HX236.out rfl; have x244 := zc 4 HX236.out rfl; have xl245 := blk_lt HX236.out; have hr := HR.out; clear HR; unfold deeper at hr; by_cases hdp : 150 < o + 1
        ·rw [if_pos hdp] at hr
         have HRR250 := zh (show Res.bad _ _ = r from (by exact Option.some.inj hr)); have HC252 := zh ((within_deep HS232.out.pa hdp HO.out ((tk K.T i).a) (.func (.func 131) #[] #[.pointer (some ⟨b1, 0, none⟩), .pointer (some ⟨b17, 0, none⟩)])).mono fun e w' hh => (show OutB w p _ 61 e w' from ⟨hh.1, HS232.out.bad HB.out hh.2⟩)); clear hr hdp; go_wp2_with fail
         refine HC252.out.mono ?_; rintro e wb ⟨rfl, hb⟩; have HB251 := zh hb; clear hb; unfold wrongP; go_wp2
         exact ⟨rfl, by rw [← HRR250.out]; exact ⟨rfl, HB251.out⟩⟩
        ·rw [if_neg hdp] at hr
         obtain ⟨X, hX⟩ : ∃ X, (parF K.T f).one (.body ((tk K.T i).a)) (o + 1) (i + 1) = X := ⟨_, rfl⟩; dsimp only at hr
         rw [hX] at hr; have HDP := zh hdp; clear hdp
         cases X with
         | none => exact absurd hr (by simp [Res.then])
         | some X =>
         cases X with
         | bad a n =>
          have HRR248 := zh (show Res.bad a n = r from (by exact Option.some.inj hr)); have HC254 := zh (within_no (fn := 131) (fst := #[]) (cap := #[.pointer (some ⟨b1, 0, none⟩), .pointer (some ⟨b17, 0, none⟩)]) (args := #[.pointer (some ⟨b1, 0, none⟩), .pointer (some ⟨b17, 0, none⟩)]) HS232.out HB.out HDP.out ((tk K.T i).a) (fun W => rfl) rfl hX (fun w1 h1 h2 r hr => (wrap_prim1 (tk K.T i) ((HAP.out f (Nat.le_refl f)).body ((tk K.T i).a))) K w1 p (i + 1) (o + 1) sn _ fp b1 b17 h1 ⟨HLT230.out, by rw [len_more]; exact by have := HRM.out; have := HI.out; have := HLT230.out; (try simp only [zS]); omega⟩ (by have := HDP.out; omega) (Away.blkTo HX234.out HA235.out h2) (HA235.out.to h2) (Away.blkTo HX236.out HA237.out h2) (HA237.out.to h2) r hr)); clear hr hX; go_wp2_with fail
          refine HC254.out.mono ?_; rintro e wb ⟨rfl, hb⟩; have HB253 := zh hb; clear hb; unfold wrongP; go_wp2
          exact ⟨rfl, by rw [← HRR248.out]; exact ⟨rfl, HB253.out⟩⟩
         | ok t246 j247 =>
          have hft := (fit_all HTK.out f).one (.body ((tk K.T i).a)) (o + 1) (i + 1) HLT230.out; rw [hX] at hft; obtain ⟨f1, f2, f3⟩ := hft; simp only [lazy1, sl1, ex1, zf] at f2 f3
          have HF249 := zh (And.intro f1 (And.intro f2 f3)); clear f1 f2 f3; have HC258 := zh (within_ok (fn := 131) (fst := #[]) (cap := #[.pointer (some ⟨b1, 0, none⟩), .pointer (some ⟨b17, 0, none⟩)]) (args := #[.pointer (some ⟨b1, 0, none⟩), .pointer (some ⟨b17, 0, none⟩)]) HS232.out HDP.out ((tk K.T i).a) (fun W => rfl) rfl hX (fun w1 h1 h2 r hr => (wrap_prim1 (tk K.T i) ((HAP.out f (Nat.le_refl f)).body ((tk K.T i).a))) K w1 p (i + 1) (o + 1) sn _ fp b1 b17 h1 ⟨HLT230.out, by rw [len_more]; exact by have := HRM.out; have := HI.out; have := HLT230.out; (try simp only [zS]); omega⟩ (by have := HDP.out; omega) (Away.blkTo HX234.out HA235.out h2) (HA235.out.to h2) (Away.blkTo HX236.out HA237.out h2) (HA237.out.to h2) r hr)); clear hX; have HR := zh hr; clear hr; go_wp2_with fail
          clear x238 xl239 x240 x241 x242 x243 x244 xl245; refine HC258.out.mono ?_; rintro e w255 ⟨rfl, fp256, h1, h2⟩; obtain ⟨n259, hn⟩ : ∃ n, n = nr ns [] t246 := ⟨_, rfl⟩; rw [← hn]; have HN260 := zh hn; have HS257 := zh (show St K w p j247 o sn ns fp [t246] w255 fp256 from h1); have HX261 := zh (Away.blkTo HX234.out HA235.out h2); have HA262 := zh (HA235.out.to h2); have HX263 := zh (Away.blkTo HX236.out HA237.out h2); have HA264 := zh (HA237.out.to h2); clear h1 h2 hn; have x265 := zc 0 HX261.out rfl; have xl266 := blk_lt HX261.out; have x267 := zc 0 HX263.out rfl; have x268 := zc 1 HX263.out rfl; have x269 := zc 2 HX263.out rfl; have x270 := zc 3 HX263.out rfl; have x271 := zc 4 HX263.out rfl; have xl272 := blk_lt HX263.out; have hr := HR.out; clear HR; have HRR273 := zh (show Res.ok _ _ = r from Option.some.inj hr); clear hr; go_wp2
          go_ret
          exact (by rw [← HRR273.out, HN260.out]; exact HS257.out.out)
       | false =>
        rw [if_neg (by rw [hb]; decide)] at hr; have HC276 := zh (got_no HS216.out.pa HI.out ⟨#[102, 117, 110, 99, 116, 105, 111, 110]⟩ hb); clear hb; have HR := zh hr; clear hr; go_wp2_with fail
        clear x222 xl223 x224 x225 x226 x227 x228 xl229; refine HC276.out.mono ?_; rintro e w274 ⟨rfl, h1, h2⟩; have HS275 := zh (HS216.out.below h2); have HX277 := zh (below_blk h2 HX218.out); have HA278 := zh (HA219.out.on h2.size); have HX279 := zh (below_blk h2 HX220.out); have HA280 := zh (HA221.out.on h2.size); clear h2 h1; have x281 := zc 0 HX277.out rfl; have xl282 := blk_lt HX277.out; have x283 := zc 0 HX279.out rfl; have x284 := zc 1 HX279.out rfl; have x285 := zc 2 HX279.out rfl; have x286 := zc 3 HX279.out rfl; have x287 := zc 4 HX279.out rfl; have xl288 := blk_lt HX279.out; have hr := HR.out; clear HR
        cases hb : isAny (tk K.T i) [⟨#[40]⟩] with
        | true =>
         rw [if_pos hb] at hr; have HLT289 := zh (any_lt HTK.out HI.out hb); have HC292 := zh (got_yes HS275.out.pa HI.out ⟨#[40]⟩ hb); clear hb; have HR := zh hr; clear hr; go_wp2_with fail
         clear x281 xl282 x283 x284 x285 x286 x287 xl288; refine HC292.out.mono ?_; rintro e w290 ⟨rfl, h1, h2⟩; have HS291 := zh (HS275.out.step h1 h2); have HX293 := zh (Away.blkTo HX277.out HA278.out h2); have HA294 := zh (HA278.out.to h2); have HX295 := zh (Away.blkTo HX279.out HA280.out h2); have HA296 := zh (HA280.out.to h2); clear h1 h2; have x297 := zc 0 HX293.out rfl; have xl298 := blk_lt HX293.out; have x299 := zc 0 HX295.out rfl; have x300 := zc 1 HX295.out rfl; have x301 := zc 2 HX295.out rfl; have x302 := zc 3 HX295.out rfl; have x303 := zc 4 HX295.out rfl; have xl304 := blk_lt HX295.out; have hr := HR.out; clear HR; unfold deeper at hr; by_cases hdp : 150 < o + 1
         ·rw [if_pos hdp] at hr
          have HRR309 := zh (show Res.bad _ _ = r from (by exact Option.some.inj hr)); have HC311 := zh ((within_deep HS291.out.pa hdp HO.out ((tk K.T i).a) (.func (.func 132) #[] #[.pointer (some ⟨b1, 0, none⟩)])).mono fun e w' hh => (show OutB w p _ 61 e w' from ⟨hh.1, HS291.out.bad HB.out hh.2⟩)); clear hr hdp; go_wp2_with fail
          refine HC311.out.mono ?_; rintro e wb ⟨rfl, hb⟩; have HB310 := zh hb; clear hb; unfold wrongP; go_wp2
          exact ⟨rfl, by rw [← HRR309.out]; exact ⟨rfl, HB310.out⟩⟩
         ·rw [if_neg hdp] at hr
          obtain ⟨X, hX⟩ : ∃ X, (parF K.T f).one (.paren) (o + 1) (i + 1) = X := ⟨_, rfl⟩; dsimp only at hr
          rw [hX] at hr; have HDP := zh hdp; clear hdp
          cases X with
          | none => exact absurd hr (by simp [Res.then])
          | some X =>
          cases X with
          | bad a n =>
           have HRR307 := zh (show Res.bad a n = r from (by exact Option.some.inj hr)); have HC313 := zh (within_no (fn := 132) (fst := #[]) (cap := #[.pointer (some ⟨b1, 0, none⟩)]) (args := #[.pointer (some ⟨b1, 0, none⟩)]) HS291.out HB.out HDP.out ((tk K.T i).a) (fun W => rfl) rfl hX (fun w1 h1 h2 r hr => ((HAP.out f (Nat.le_refl f)).parenC) K w1 p (i + 1) (o + 1) sn _ fp b1 h1 ⟨HLT289.out, by rw [len_more]; exact by have := HRM.out; have := HI.out; have := HLT289.out; (try simp only [zS]); omega⟩ (by have := HDP.out; omega) (Away.blkTo HX293.out HA294.out h2) (HA294.out.to h2) r hr)); clear hr hX; go_wp2_with fail
           refine HC313.out.mono ?_; rintro e wb ⟨rfl, hb⟩; have HB312 := zh hb; clear hb; unfold wrongP; go_wp2
           exact ⟨rfl, by rw [← HRR307.out]; exact ⟨rfl, HB312.out⟩⟩
          | ok t305 j306 =>
           have hft := (fit_all HTK.out f).one (.paren) (o + 1) (i + 1) HLT289.out; rw [hX] at hft; obtain ⟨f1, f2, f3⟩ := hft; simp only [lazy1, sl1, ex1, zf] at f2 f3
           have HF308 := zh (And.intro f1 (And.intro f2 f3)); clear f1 f2 f3; have HC317 := zh (within_ok (fn := 132) (fst := #[]) (cap := #[.pointer (some ⟨b1, 0, none⟩)]) (args := #[.pointer (some ⟨b1, 0, none⟩)]) HS291.out HDP.out ((tk K.T i).a) (fun W => rfl) rfl hX (fun w1 h1 h2 r hr => ((HAP.out f (Nat.le_refl f)).parenC) K w1 p (i + 1) (o + 1) sn _ fp b1 h1 ⟨HLT289.out, by rw [len_more]; exact by have := HRM.out; have := HI.out; have := HLT289.out; (try simp only [zS]); omega⟩ (by have := HDP.out; omega) (Away.blkTo HX293.out HA294.out h2) (HA294.out.to h2) r hr)); clear hX; have HR := zh hr; clear hr; go_wp2_with fail
           clear x297 xl298 x299 x300 x301 x302 x303 xl304; refine HC317.out.mono ?_; rintro e w314 ⟨rfl, fp315, h1, h2⟩; obtain ⟨n318, hn⟩ : ∃ n, n = nr ns [] t305 := ⟨_, rfl⟩; rw [← hn]; have HN319 := zh hn; have HS316 := zh (show St K w p j306 o sn ns fp [t305] w314 fp315 from h1); have HX320 := zh (Away.blkTo HX293.out HA294.out h2); have HA321 := zh (HA294.out.to h2); have HX322 := zh (Away.blkTo HX295.out HA296.out h2); have HA323 := zh (HA296.out.to h2); clear h1 h2 hn; have x324 := zc 0 HX320.out rfl; have xl325 := blk_lt HX320.out; have x326 := zc 0 HX322.out rfl; have x327 := zc 1 HX322.out rfl; have x328 := zc 2 HX322.out rfl; have x329 := zc 3 HX322.out rfl; have x330 := zc 4 HX322.out rfl; have xl331 := blk_lt HX322.out; have hr := HR.out; clear HR; have HRR332 := zh (show Res.ok _ _ = r from Option.some.inj hr); clear hr; go_wp2
           go_ret
           exact (by rw [← HRR332.out, HN319.out]; exact HS316.out.out)
        | false =>
         rw [if_neg (by rw [hb]; decide)] at hr; have HC335 := zh (got_no HS275.out.pa HI.out ⟨#[40]⟩ hb); clear hb; have HR := zh hr; clear hr; go_wp2_with fail
         clear x281 xl282 x283 x284 x285 x286 x287 xl288; refine HC335.out.mono ?_; rintro e w333 ⟨rfl, h1, h2⟩; have HS334 := zh (HS275.out.below h2); have HX336 := zh (below_blk h2 HX277.out); have HA337 := zh (HA278.out.on h2.size); have HX338 := zh (below_blk h2 HX279.out); have HA339 := zh (HA280.out.on h2.size); clear h2 h1; have x340 := zc 0 HX336.out rfl; have xl341 := blk_lt HX336.out; have x342 := zc 0 HX338.out rfl; have x343 := zc 1 HX338.out rfl; have x344 := zc 2 HX338.out rfl; have x345 := zc 3 HX338.out rfl; have x346 := zc 4 HX338.out rfl; have xl347 := blk_lt HX338.out; have hr := HR.out; clear HR
         cases hb : isAny (tk K.T i) [⟨#[123]⟩] with
         | true =>
          rw [if_pos hb] at hr; have HLT348 := zh (any_lt HTK.out HI.out hb); have HC351 := zh (got_yes HS334.out.pa HI.out ⟨#[123]⟩ hb); clear hb; have HR := zh hr; clear hr; go_wp2_with fail
          clear x340 xl341 x342 x343 x344 x345 x346 xl347; refine HC351.out.mono ?_; rintro e w349 ⟨rfl, h1, h2⟩; have HS350 := zh (HS334.out.step h1 h2); have HX352 := zh (Away.blkTo HX336.out HA337.out h2); have HA353 := zh (HA337.out.to h2); have HX354 := zh (Away.blkTo HX338.out HA339.out h2); have HA355 := zh (HA339.out.to h2); clear h1 h2; have x356 := zc 0 HX352.out rfl; have xl357 := blk_lt HX352.out; have x358 := zc 0 HX354.out rfl; have x359 := zc 1 HX354.out rfl; have x360 := zc 2 HX354.out rfl; have x361 := zc 3 HX354.out rfl; have x362 := zc 4 HX354.out rfl; have xl363 := blk_lt HX354.out; have hr := HR.out; clear HR; unfold deeper at hr; by_cases hdp : 150 < o + 1
          ·rw [if_pos hdp] at hr
           have HRR368 := zh (show Res.bad _ _ = r from (by exact Option.some.inj hr)); have HC370 := zh ((within_deep HS350.out.pa hdp HO.out ((tk K.T i).a) (.func (.func 133) #[] #[.pointer (some ⟨b1, 0, none⟩), .pointer (some ⟨b17, 0, none⟩)])).mono fun e w' hh => (show OutB w p _ 61 e w' from ⟨hh.1, HS350.out.bad HB.out hh.2⟩)); clear hr hdp; go_wp2_with fail
           refine HC370.out.mono ?_; rintro e wb ⟨rfl, hb⟩; have HB369 := zh hb; clear hb; unfold wrongP; go_wp2
           exact ⟨rfl, by rw [← HRR368.out]; exact ⟨rfl, HB369.out⟩⟩
          ·rw [if_neg hdp] at hr
           obtain ⟨X, hX⟩ : ∃ X, (parF K.T f).one (.table ((tk K.T i).a)) (o + 1) (i + 1) = X := ⟨_, rfl⟩; dsimp only at hr
           rw [hX] at hr; have HDP := zh hdp; clear hdp
           cases X with
           | none => exact absurd hr (by simp [Res.then])
           | some X =>
           cases X with
           | bad a n =>
            have HRR366 := zh (show Res.bad a n = r from (by exact Option.some.inj hr)); have HC372 := zh (within_no (fn := 133) (fst := #[]) (cap := #[.pointer (some ⟨b1, 0, none⟩), .pointer (some ⟨b17, 0, none⟩)]) (args := #[.pointer (some ⟨b1, 0, none⟩), .pointer (some ⟨b17, 0, none⟩)]) HS350.out HB.out HDP.out ((tk K.T i).a) (fun W => rfl) rfl hX (fun w1 h1 h2 r hr => (wrap_prim3 (tk K.T i) ((HAP.out f (Nat.le_refl f)).table ((tk K.T i).a))) K w1 p (i + 1) (o + 1) sn _ fp b1 b17 h1 ⟨HLT348.out, by rw [len_more]; exact by have := HRM.out; have := HI.out; have := HLT348.out; (try simp only [zS]); omega⟩ (by have := HDP.out; omega) (Away.blkTo HX352.out HA353.out h2) (HA353.out.to h2) (Away.blkTo HX354.out HA355.out h2) (HA355.out.to h2) r hr)); clear hr hX; go_wp2_with fail
            refine HC372.out.mono ?_; rintro e wb ⟨rfl, hb⟩; have HB371 := zh hb; clear hb; unfold wrongP; go_wp2
            exact ⟨rfl, by rw [← HRR366.out]; exact ⟨rfl, HB371.out⟩⟩
           | ok t364 j365 =>
            have hft := (fit_all HTK.out f).one (.table ((tk K.T i).a)) (o + 1) (i + 1) HLT348.out; rw [hX] at hft; obtain ⟨f1, f2, f3⟩ := hft; simp only [lazy1, sl1, ex1, zf] at f2 f3
            have HF367 := zh (And.intro f1 (And.intro f2 f3)); clear f1 f2 f3; have HC376 := zh (within_ok (fn := 133) (fst := #[]) (cap := #[.pointer (some ⟨b1, 0, none⟩), .pointer (some ⟨b17, 0, none⟩)]) (args := #[.pointer (some ⟨b1, 0, none⟩), .pointer (some ⟨b17, 0, none⟩)]) HS350.out HDP.out ((tk K.T i).a) (fun W => rfl) rfl hX (fun w1 h1 h2 r hr => (wrap_prim3 (tk K.T i) ((HAP.out f (Nat.le_refl f)).table ((tk K.T i).a))) K w1 p (i + 1) (o + 1) sn _ fp b1 b17 h1 ⟨HLT348.out, by rw [len_more]; exact by have := HRM.out; have := HI.out; have := HLT348.out; (try simp only [zS]); omega⟩ (by have := HDP.out; omega) (Away.blkTo HX352.out HA353.out h2) (HA353.out.to h2) (Away.blkTo HX354.out HA355.out h2) (HA355.out.to h2) r hr)); clear hX; have HR := zh hr; clear hr; go_wp2_with fail
            clear x356 xl357 x358 x359 x360 x361 x362 xl363; refine HC376.out.mono ?_; rintro e w373 ⟨rfl, fp374, h1, h2⟩; obtain ⟨n377, hn⟩ : ∃ n, n = nr ns [] t364 := ⟨_, rfl⟩; rw [← hn]; have HN378 := zh hn; have HS375 := zh (show St K w p j365 o sn ns fp [t364] w373 fp374 from h1); have HX379 := zh (Away.blkTo HX352.out HA353.out h2); have HA380 := zh (HA353.out.to h2); have HX381 := zh (Away.blkTo HX354.out HA355.out h2); have HA382 := zh (HA355.out.to h2); clear h1 h2 hn; have x383 := zc 0 HX379.out rfl; have xl384 := blk_lt HX379.out; have x385 := zc 0 HX381.out rfl; have x386 := zc 1 HX381.out rfl; have x387 := zc 2 HX381.out rfl; have x388 := zc 3 HX381.out rfl; have x389 := zc 4 HX381.out rfl; have xl390 := blk_lt HX381.out; have hr := HR.out; clear HR; have HRR391 := zh (show Res.ok _ _ = r from Option.some.inj hr); clear hr; go_wp2
            go_ret
            exact (by rw [← HRR391.out, HN378.out]; exact HS375.out.out)
         | false =>
          rw [if_neg (by rw [hb]; decide)] at hr; have HC394 := zh (got_no HS334.out.pa HI.out ⟨#[123]⟩ hb); clear hb; have HR := zh hr; clear hr; go_wp2_with fail
          clear x340 xl341 x342 x343 x344 x345 x346 xl347; refine HC394.out.mono ?_; rintro e w392 ⟨rfl, h1, h2⟩; have HS393 := zh (HS334.out.below h2); have HX395 := zh (below_blk h2 HX336.out); have HA396 := zh (HA337.out.on h2.size); have HX397 := zh (below_blk h2 HX338.out); have HA398 := zh (HA339.out.on h2.size); clear h2 h1; have x399 := zc 0 HX395.out rfl; have xl400 := blk_lt HX395.out; have x401 := zc 0 HX397.out rfl; have x402 := zc 1 HX397.out rfl; have x403 := zc 2 HX397.out rfl; have x404 := zc 3 HX397.out rfl; have x405 := zc 4 HX397.out rfl; have xl406 := blk_lt HX397.out; have hr := HR.out; clear HR; have HRR407 := zh (show Res.bad (tk K.T i).a 70 = r from (by exact Option.some.inj hr)); have HC409 := zh ((show Calls Tryz.prog 44 #[.pointer (some ⟨p, 0, none⟩), natV (tk K.T i).a] w392 (OutB w p (tk K.T i).a 70) from (no_any _ _ _).mono fun e w' hh => ⟨hh.1, by rw [← hh.2]; exact HS393.out.bad HB.out zbr⟩)); clear hr; go_wp2_with fail
          refine HC409.out.mono ?_; rintro e wb ⟨rfl, hb⟩; have HB408 := zh hb; clear hb; unfold wrongP; go_wp2
          exact ⟨rfl, by rw [← HRR407.out]; exact ⟨rfl, HB408.out⟩⟩
  ·have q3 : ((tk K.T i).kind == 3) = false := beq_eq_false_iff_ne.2 k3
   clear h3 k3; by_cases h4 : (tk K.T i).kind = 4
   ·rw [if_pos h4] at hr
    have q4 : ((tk K.T i).kind == 4) = true := beq_iff_eq.2 h4; have HLT4 := zh (tk_lt HTK.out HI.out (by rw [h4]; decide)); clear h4; obtain ⟨nv, l, hm⟩ := HS21.out.pa.mem; obtain ⟨-, y414, -, -, -, cf⟩ := pa_cell hm.blk; have y415 := cf 1; have y416 := blk_lt hm.blk; clear hm cf; obtain ⟨i411, hi1⟩ : ∃ ix, ix = i + 1 := ⟨_, rfl⟩; have y417 : (i : Int) + 1 = (i411 : Int) := by omega
    have y418 : i411 ≤ 200002 := by have := HLT4.out; have := HLN.out; omega
    have y419 : IntKind.i64.wrap (i411 : Int) = (i411 : Int) := IntWalk.i64_in _ (by omega)
    try rw [← hi1] at hr
    have HIE412 := zh hi1; have HLT413 := zh (show i411 < K.T.length by rw [hi1]; exact HLT4.out); clear hi1 nv l; have hst := HS21.out.pa.setI i411; have hto : PaTo w18 fp (w18.setCell ⟨p, 1, none⟩ (.int .i64 (i411 : Int))) fp := hst.2; have HS410 := zh (show St K w p i411 o sn ns fp [] (w18.setCell ⟨p, 1, none⟩ (.int .i64 (i411 : Int))) fp from HS21.out.step hst.1 hto); have HX420 := zh (Away.blkTo HX24.out HA25.out hto); have HA421 := zh (HA25.out.to hto); have HX422 := zh (Away.blkTo HX19.out HA20.out hto); have HA423 := zh (HA20.out.to hto); clear hst hto; have x424 := zc 0 HX420.out rfl; have xl425 := blk_lt HX420.out; have x426 := zc 0 HX422.out rfl; have x427 := zc 1 HX422.out rfl; have x428 := zc 2 HX422.out rfl; have x429 := zc 3 HX422.out rfl; have x430 := zc 4 HX422.out rfl; have xl431 := blk_lt HX422.out; have HRR433 := zh (show Res.ok _ _ = r from Option.some.inj hr); clear hr; have HL432 := zh (lay_fin (L := []) HS410.out (by have := HRM.out; have := HI.out; have := HLT4.out; have := HIE412.out; have := HLT413.out; (try simp only [ptsS, ptS, noneT, ptsS_append, List.nil_append, List.cons_append, Nat.add_zero, Nat.zero_add]); omega) (by simp) 16 (tk K.T i).text (tk K.T i).a (KidsV.nil (w18.setCell ⟨p, 1, none⟩ (.int .i64 (i411 : Int)))) rfl); go_wp2_with fail
    refine HL432.out.mono ?_; rintro e wz ⟨rfl, fpz, h1, h2⟩; have HZ434 := zh (show OutP K w p o sn ns fp (.ok (.mk 16 (tk K.T i).text (tk K.T i).a []) i411) (.returned _) wz from ⟨rfl, fpz, h1, h2⟩); clear h1 h2; go_wp2
    go_ret
    exact (by rw [← HRR433.out]; exact HZ434.out)
   ·rw [if_neg h4] at hr
    have q4 : ((tk K.T i).kind == 4) = false := beq_eq_false_iff_ne.2 h4; clear h4; by_cases h1 : (tk K.T i).kind = 1
    ·rw [if_pos h1] at hr
     have q1 : ((tk K.T i).kind == 1) = true := beq_iff_eq.2 h1; have HLT1 := zh (tk_lt HTK.out HI.out (by rw [h1]; decide)); clear h1; obtain ⟨nv, l, hm⟩ := HS21.out.pa.mem; obtain ⟨-, y439, -, -, -, cf⟩ := pa_cell hm.blk; have y440 := cf 1; have y441 := blk_lt hm.blk; clear hm cf; obtain ⟨i436, hi1⟩ : ∃ ix, ix = i + 1 := ⟨_, rfl⟩; have y442 : (i : Int) + 1 = (i436 : Int) := by omega
     have y443 : i436 ≤ 200002 := by have := HLT1.out; have := HLN.out; omega
     have y444 : IntKind.i64.wrap (i436 : Int) = (i436 : Int) := IntWalk.i64_in _ (by omega)
     try rw [← hi1] at hr
     have HIE437 := zh hi1; have HLT438 := zh (show i436 < K.T.length by rw [hi1]; exact HLT1.out); clear hi1 nv l; have hst := HS21.out.pa.setI i436; have hto : PaTo w18 fp (w18.setCell ⟨p, 1, none⟩ (.int .i64 (i436 : Int))) fp := hst.2; have HS435 := zh (show St K w p i436 o sn ns fp [] (w18.setCell ⟨p, 1, none⟩ (.int .i64 (i436 : Int))) fp from HS21.out.step hst.1 hto); have HX445 := zh (Away.blkTo HX24.out HA25.out hto); have HA446 := zh (HA25.out.to hto); have HX447 := zh (Away.blkTo HX19.out HA20.out hto); have HA448 := zh (HA20.out.to hto); clear hst hto; have x449 := zc 0 HX445.out rfl; have xl450 := blk_lt HX445.out; have x451 := zc 0 HX447.out rfl; have x452 := zc 1 HX447.out rfl; have x453 := zc 2 HX447.out rfl; have x454 := zc 3 HX447.out rfl; have x455 := zc 4 HX447.out rfl; have xl456 := blk_lt HX447.out; obtain ⟨X, hX⟩ : ∃ X, (parF K.T f).one (.name (tk K.T i)) o i436 = X := ⟨_, rfl⟩; rw [hX] at hr
     cases X with
     | none => exact absurd hr (by simp [Res.then])
     | some X =>
     cases X with
     | bad a n =>
      have HRR459 := zh (show Res.bad a n = r from (by exact Option.some.inj hr)); have HC462 := zh (call_bad ((HAP.out f (Nat.le_refl f)).name (tk K.T i)) HS435.out HB.out ⟨HLT438.out, by have := HRM.out; have := HI.out; have := HLT1.out; have := HIE437.out; have := HLT438.out; (try simp only [zS]); omega⟩ HO.out hX); clear hr hX; go_wp2_with fail
      refine HC462.out.mono ?_; rintro e wb ⟨rfl, hb⟩; have HB461 := zh hb; clear hb; unfold wrongP; go_wp2
      exact ⟨rfl, by rw [← HRR459.out]; exact ⟨rfl, HB461.out⟩⟩
     | ok t457 j458 =>
      have hft := (fit_all HTK.out f).one (.name (tk K.T i)) o i436 HLT438.out; rw [hX] at hft; obtain ⟨f1, f2, f3⟩ := hft; simp only [lazy1, sl1, ex1, zf] at f2 f3
      have HF460 := zh (And.intro f1 (And.intro f2 f3)); clear f1 f2 f3; have HC466 := zh (call_ok ((HAP.out f (Nat.le_refl f)).name (tk K.T i)) HS435.out ⟨HLT438.out, by have := HRM.out; have := HI.out; have := HLT1.out; have := HIE437.out; have := HLT438.out; (try simp only [zS]); omega⟩ HO.out hX); clear hX; have HR := zh hr; clear hr; go_wp2_with fail
      clear x449 xl450 x451 x452 x453 x454 x455 xl456 y439 y440 y441 y442 y443 y444 x26 xl27 x28 x29 x30 x31 x32 xl33; refine HC466.out.mono ?_; rintro e w463 ⟨rfl, fp464, h1, h2⟩; obtain ⟨n467, hn⟩ : ∃ n, n = nr ns [] t457 := ⟨_, rfl⟩; rw [← hn]; have HN468 := zh hn; have HS465 := zh (show St K w p j458 o sn ns fp [t457] w463 fp464 from h1); have HX469 := zh (Away.blkTo HX445.out HA446.out h2); have HA470 := zh (HA446.out.to h2); have HX471 := zh (Away.blkTo HX447.out HA448.out h2); have HA472 := zh (HA448.out.to h2); clear h1 h2 hn; have x473 := zc 0 HX469.out rfl; have xl474 := blk_lt HX469.out; have x475 := zc 0 HX471.out rfl; have x476 := zc 1 HX471.out rfl; have x477 := zc 2 HX471.out rfl; have x478 := zc 3 HX471.out rfl; have x479 := zc 4 HX471.out rfl; have xl480 := blk_lt HX471.out; have hr := HR.out; clear HR; have HRR481 := zh (show Res.ok _ _ = r from Option.some.inj hr); clear hr; go_wp2
      go_ret
      exact (by rw [← HRR481.out, HN468.out]; exact HS465.out.out)
    ·rw [if_neg h1] at hr
     have q1 : ((tk K.T i).kind == 1) = false := beq_eq_false_iff_ne.2 h1; clear h1
     cases hb : isAny (tk K.T i) [⟨#[110, 105, 108]⟩] with
     | true =>
      rw [if_pos hb] at hr; have HLT482 := zh (any_lt HTK.out HI.out hb); have HC485 := zh (got_yes HS21.out.pa HI.out ⟨#[110, 105, 108]⟩ hb); clear hb; have HR := zh hr; clear hr; go_wp2_with fail
      clear x26 xl27 x28 x29 x30 x31 x32 xl33; refine HC485.out.mono ?_; rintro e w483 ⟨rfl, h1, h2⟩; have HS484 := zh (HS21.out.step h1 h2); have HX486 := zh (Away.blkTo HX24.out HA25.out h2); have HA487 := zh (HA25.out.to h2); have HX488 := zh (Away.blkTo HX19.out HA20.out h2); have HA489 := zh (HA20.out.to h2); clear h1 h2; have x490 := zc 0 HX486.out rfl; have xl491 := blk_lt HX486.out; have x492 := zc 0 HX488.out rfl; have x493 := zc 1 HX488.out rfl; have x494 := zc 2 HX488.out rfl; have x495 := zc 3 HX488.out rfl; have x496 := zc 4 HX488.out rfl; have xl497 := blk_lt HX488.out; have hr := HR.out; clear HR; have HRR499 := zh (show Res.ok _ _ = r from Option.some.inj hr); clear hr; have HL498 := zh (lay_fin (L := []) HS484.out (by have := HRM.out; have := HI.out; have := HLT482.out; (try simp only [ptsS, ptS, noneT, ptsS_append, List.nil_append, List.cons_append, Nat.add_zero, Nat.zero_add]); omega) (by simp) 13 ⟨#[]⟩ (tk K.T i).a (KidsV.nil w483) rfl); go_wp2_with fail
      refine HL498.out.mono ?_; rintro e wz ⟨rfl, fpz, h1, h2⟩; have HZ500 := zh (show OutP K w p o sn ns fp (.ok (.mk 13 ⟨#[]⟩ (tk K.T i).a []) (i + 1)) (.returned _) wz from ⟨rfl, fpz, h1, h2⟩); clear h1 h2; go_wp2
      go_ret
      exact (by rw [← HRR499.out]; exact HZ500.out)
     | false =>
      rw [if_neg (by rw [hb]; decide)] at hr; have HC503 := zh (got_no HS21.out.pa HI.out ⟨#[110, 105, 108]⟩ hb); clear hb; have HR := zh hr; clear hr; go_wp2_with fail
      clear x26 xl27 x28 x29 x30 x31 x32 xl33; refine HC503.out.mono ?_; rintro e w501 ⟨rfl, h1, h2⟩; have HS502 := zh (HS21.out.below h2); have HX504 := zh (below_blk h2 HX24.out); have HA505 := zh (HA25.out.on h2.size); have HX506 := zh (below_blk h2 HX19.out); have HA507 := zh (HA20.out.on h2.size); clear h2 h1; have x508 := zc 0 HX504.out rfl; have xl509 := blk_lt HX504.out; have x510 := zc 0 HX506.out rfl; have x511 := zc 1 HX506.out rfl; have x512 := zc 2 HX506.out rfl; have x513 := zc 3 HX506.out rfl; have x514 := zc 4 HX506.out rfl; have xl515 := blk_lt HX506.out; have hr := HR.out; clear HR; have HC516 := zh (fun W (hW : W = w501.alloc (.cells #[.string ⟨#[116, 114, 117, 101]⟩, .string ⟨#[102, 97, 108, 115, 101]⟩] 9)) => (show Calls Tryz.prog 19 #[.pointer (some ⟨p, 0, none⟩), .slice (some ⟨w501.heap.size, 0, none⟩) 2 2] W (RetB (.bool (isAny (tk K.T i) [⟨#[116, 114, 117, 101]⟩, ⟨#[102, 97, 108, 115, 101]⟩])) W) from
       is_any (K := K) (i := i) (o := o) (sn := sn) (ns := ns ++ flats ns.length []) (fp := fp) (c := 2) (L := [⟨#[116, 114, 117, 101]⟩, ⟨#[102, 97, 108, 115, 101]⟩]) (hW ▸ HS502.out.pa.below (zbr.alloc znr _)) HI.out (by rw [hW]; exact .inr ⟨⟨w501.heap.size, 0, none⟩, rfl, by simp, fun j u hu => news_new w501 #[.string ⟨#[116, 114, 117, 101]⟩, .string ⟨#[102, 97, 108, 115, 101]⟩] _ _ rfl j u hu⟩) (by simp)))
      cases hb : isAny (tk K.T i) [⟨#[116, 114, 117, 101]⟩, ⟨#[102, 97, 108, 115, 101]⟩] with
      | true =>
       rw [if_pos hb] at hr; have HLT519 := zh (any_lt HTK.out HI.out hb); have HBB := zh hb; clear hb; have HR := zh hr; clear hr; go_wp2_with fail
       clear x508 xl509 x510 x511 x512 x513 x514 xl515; refine (HC516.out _ rfl).mono ?_; rw [HBB.out]; rintro e w520 ⟨rfl, h2⟩; have HK522 := zh (show Below w501.heap.size w501 w520 from (zbr.alloc znr _).trans (h2.mono (by simp))); have HS521 := zh (HS502.out.below HK522.out); have HX523 := zh (below_blk HK522.out HX504.out); have HA524 := zh (HA505.out.on HK522.out.size); have HX525 := zh (below_blk HK522.out HX506.out); have HA526 := zh (HA507.out.on HK522.out.size); clear h2; have x527 := zc 0 HX523.out rfl; have xl528 := blk_lt HX523.out; have x529 := zc 0 HX525.out rfl; have x530 := zc 1 HX525.out rfl; have x531 := zc 2 HX525.out rfl; have x532 := zc 3 HX525.out rfl; have x533 := zc 4 HX525.out rfl; have xl534 := blk_lt HX525.out; have hr := HR.out; clear HR; obtain ⟨nv, l, hm⟩ := HS521.out.pa.mem; obtain ⟨-, y539, -, -, -, cf⟩ := pa_cell hm.blk; have y540 := cf 1; have y541 := blk_lt hm.blk; clear hm cf; obtain ⟨i536, hi1⟩ : ∃ ix, ix = i + 1 := ⟨_, rfl⟩; have y542 : (i : Int) + 1 = (i536 : Int) := by omega
       have y543 : i536 ≤ 200002 := by have := HLT519.out; have := HLN.out; omega
       have y544 : IntKind.i64.wrap (i536 : Int) = (i536 : Int) := IntWalk.i64_in _ (by omega)
       try rw [← hi1] at hr
       have HIE537 := zh hi1; have HLT538 := zh (show i536 < K.T.length by rw [hi1]; exact HLT519.out); clear hi1 nv l; have hst := HS521.out.pa.setI i536; have hto : PaTo w520 fp (w520.setCell ⟨p, 1, none⟩ (.int .i64 (i536 : Int))) fp := hst.2; have HS535 := zh (show St K w p i536 o sn ns fp [] (w520.setCell ⟨p, 1, none⟩ (.int .i64 (i536 : Int))) fp from HS521.out.step hst.1 hto); have HX545 := zh (Away.blkTo HX523.out HA524.out hto); have HA546 := zh (HA524.out.to hto); have HX547 := zh (Away.blkTo HX525.out HA526.out hto); have HA548 := zh (HA526.out.to hto); clear hst hto; have x549 := zc 0 HX545.out rfl; have xl550 := blk_lt HX545.out; have x551 := zc 0 HX547.out rfl; have x552 := zc 1 HX547.out rfl; have x553 := zc 2 HX547.out rfl; have x554 := zc 3 HX547.out rfl; have x555 := zc 4 HX547.out rfl; have xl556 := blk_lt HX547.out; have HRR558 := zh (show Res.ok _ _ = r from Option.some.inj hr); clear hr; have HL557 := zh (lay_fin (L := []) HS535.out (by have := HRM.out; have := HI.out; have := HLT519.out; have := HIE537.out; have := HLT538.out; (try simp only [ptsS, ptS, noneT, ptsS_append, List.nil_append, List.cons_append, Nat.add_zero, Nat.zero_add]); omega) (by simp) 14 (tk K.T i).text (tk K.T i).a (KidsV.nil (w520.setCell ⟨p, 1, none⟩ (.int .i64 (i536 : Int)))) rfl); go_wp2_with fail
       refine HL557.out.mono ?_; rintro e wz ⟨rfl, fpz, h1, h2⟩; have HZ559 := zh (show OutP K w p o sn ns fp (.ok (.mk 14 (tk K.T i).text (tk K.T i).a []) i536) (.returned _) wz from ⟨rfl, fpz, h1, h2⟩); clear h1 h2; go_wp2
       go_ret
       exact (by rw [← HRR558.out]; exact HZ559.out)
      | false =>
       rw [if_neg (by rw [hb]; decide)] at hr; have HBB := zh hb; clear hb; have HR := zh hr; clear hr; go_wp2_with fail
       clear x508 xl509 x510 x511 x512 x513 x514 xl515; refine (HC516.out _ rfl).mono ?_; rw [HBB.out]; rintro e w560 ⟨rfl, h2⟩; have HK562 := zh (show Below w501.heap.size w501 w560 from (zbr.alloc znr _).trans (h2.mono (by simp))); have HS561 := zh (HS502.out.below HK562.out); have HX563 := zh (below_blk HK562.out HX504.out); have HA564 := zh (HA505.out.on HK562.out.size); have HX565 := zh (below_blk HK562.out HX506.out); have HA566 := zh (HA507.out.on HK562.out.size); clear h2; have x567 := zc 0 HX563.out rfl; have xl568 := blk_lt HX563.out; have x569 := zc 0 HX565.out rfl; have x570 := zc 1 HX565.out rfl; have x571 := zc 2 HX565.out rfl; have x572 := zc 3 HX565.out rfl; have x573 := zc 4 HX565.out rfl; have xl574 := blk_lt HX565.out; have hr := HR.out; clear HR
       cases hb : isAny (tk K.T i) [⟨#[102, 117, 110, 99, 116, 105, 111, 110]⟩] with
       | true =>
        rw [if_pos hb] at hr; have HLT575 := zh (any_lt HTK.out HI.out hb); have HC578 := zh (got_yes HS561.out.pa HI.out ⟨#[102, 117, 110, 99, 116, 105, 111, 110]⟩ hb); clear hb; have HR := zh hr; clear hr; go_wp2_with fail
        clear x567 xl568 x569 x570 x571 x572 x573 xl574; refine HC578.out.mono ?_; rintro e w576 ⟨rfl, h1, h2⟩; have HS577 := zh (HS561.out.step h1 h2); have HX579 := zh (Away.blkTo HX563.out HA564.out h2); have HA580 := zh (HA564.out.to h2); have HX581 := zh (Away.blkTo HX565.out HA566.out h2); have HA582 := zh (HA566.out.to h2); clear h1 h2; have x583 := zc 0 HX579.out rfl; have xl584 := blk_lt HX579.out; have x585 := zc 0 HX581.out rfl; have x586 := zc 1 HX581.out rfl; have x587 := zc 2 HX581.out rfl; have x588 := zc 3 HX581.out rfl; have x589 := zc 4 HX581.out rfl; have xl590 := blk_lt HX581.out; have hr := HR.out; clear HR; unfold deeper at hr; by_cases hdp : 150 < o + 1
        ·rw [if_pos hdp] at hr
         have HRR595 := zh (show Res.bad _ _ = r from (by exact Option.some.inj hr)); have HC597 := zh ((within_deep HS577.out.pa hdp HO.out ((tk K.T i).a) (.func (.func 131) #[] #[.pointer (some ⟨b1, 0, none⟩), .pointer (some ⟨b17, 0, none⟩)])).mono fun e w' hh => (show OutB w p _ 61 e w' from ⟨hh.1, HS577.out.bad HB.out hh.2⟩)); clear hr hdp; go_wp2_with fail
         refine HC597.out.mono ?_; rintro e wb ⟨rfl, hb⟩; have HB596 := zh hb; clear hb; unfold wrongP; go_wp2
         exact ⟨rfl, by rw [← HRR595.out]; exact ⟨rfl, HB596.out⟩⟩
        ·rw [if_neg hdp] at hr
         obtain ⟨X, hX⟩ : ∃ X, (parF K.T f).one (.body ((tk K.T i).a)) (o + 1) (i + 1) = X := ⟨_, rfl⟩; dsimp only at hr
         rw [hX] at hr; have HDP := zh hdp; clear hdp
         cases X with
         | none => exact absurd hr (by simp [Res.then])
         | some X =>
         cases X with
         | bad a n =>
          have HRR593 := zh (show Res.bad a n = r from (by exact Option.some.inj hr)); have HC599 := zh (within_no (fn := 131) (fst := #[]) (cap := #[.pointer (some ⟨b1, 0, none⟩), .pointer (some ⟨b17, 0, none⟩)]) (args := #[.pointer (some ⟨b1, 0, none⟩), .pointer (some ⟨b17, 0, none⟩)]) HS577.out HB.out HDP.out ((tk K.T i).a) (fun W => rfl) rfl hX (fun w1 h1 h2 r hr => (wrap_prim1 (tk K.T i) ((HAP.out f (Nat.le_refl f)).body ((tk K.T i).a))) K w1 p (i + 1) (o + 1) sn _ fp b1 b17 h1 ⟨HLT575.out, by rw [len_more]; exact by have := HRM.out; have := HI.out; have := HLT575.out; (try simp only [zS]); omega⟩ (by have := HDP.out; omega) (Away.blkTo HX579.out HA580.out h2) (HA580.out.to h2) (Away.blkTo HX581.out HA582.out h2) (HA582.out.to h2) r hr)); clear hr hX; go_wp2_with fail
          refine HC599.out.mono ?_; rintro e wb ⟨rfl, hb⟩; have HB598 := zh hb; clear hb; unfold wrongP; go_wp2
          exact ⟨rfl, by rw [← HRR593.out]; exact ⟨rfl, HB598.out⟩⟩
         | ok t591 j592 =>
          have hft := (fit_all HTK.out f).one (.body ((tk K.T i).a)) (o + 1) (i + 1) HLT575.out; rw [hX] at hft; obtain ⟨f1, f2, f3⟩ := hft; simp only [lazy1, sl1, ex1, zf] at f2 f3
          have HF594 := zh (And.intro f1 (And.intro f2 f3)); clear f1 f2 f3; have HC603 := zh (within_ok (fn := 131) (fst := #[]) (cap := #[.pointer (some ⟨b1, 0, none⟩), .pointer (some ⟨b17, 0, none⟩)]) (args := #[.pointer (some ⟨b1, 0, none⟩), .pointer (some ⟨b17, 0, none⟩)]) HS577.out HDP.out ((tk K.T i).a) (fun W => rfl) rfl hX (fun w1 h1 h2 r hr => (wrap_prim1 (tk K.T i) ((HAP.out f (Nat.le_refl f)).body ((tk K.T i).a))) K w1 p (i + 1) (o + 1) sn _ fp b1 b17 h1 ⟨HLT575.out, by rw [len_more]; exact by have := HRM.out; have := HI.out; have := HLT575.out; (try simp only [zS]); omega⟩ (by have := HDP.out; omega) (Away.blkTo HX579.out HA580.out h2) (HA580.out.to h2) (Away.blkTo HX581.out HA582.out h2) (HA582.out.to h2) r hr)); clear hX; have HR := zh hr; clear hr; go_wp2_with fail
          clear x583 xl584 x585 x586 x587 x588 x589 xl590; refine HC603.out.mono ?_; rintro e w600 ⟨rfl, fp601, h1, h2⟩; obtain ⟨n604, hn⟩ : ∃ n, n = nr ns [] t591 := ⟨_, rfl⟩; rw [← hn]; have HN605 := zh hn; have HS602 := zh (show St K w p j592 o sn ns fp [t591] w600 fp601 from h1); have HX606 := zh (Away.blkTo HX579.out HA580.out h2); have HA607 := zh (HA580.out.to h2); have HX608 := zh (Away.blkTo HX581.out HA582.out h2); have HA609 := zh (HA582.out.to h2); clear h1 h2 hn; have x610 := zc 0 HX606.out rfl; have xl611 := blk_lt HX606.out; have x612 := zc 0 HX608.out rfl; have x613 := zc 1 HX608.out rfl; have x614 := zc 2 HX608.out rfl; have x615 := zc 3 HX608.out rfl; have x616 := zc 4 HX608.out rfl; have xl617 := blk_lt HX608.out; have hr := HR.out; clear HR; have HRR618 := zh (show Res.ok _ _ = r from Option.some.inj hr); clear hr; go_wp2
          go_ret
          exact (by rw [← HRR618.out, HN605.out]; exact HS602.out.out)
       | false =>
        rw [if_neg (by rw [hb]; decide)] at hr; have HC621 := zh (got_no HS561.out.pa HI.out ⟨#[102, 117, 110, 99, 116, 105, 111, 110]⟩ hb); clear hb; have HR := zh hr; clear hr; go_wp2_with fail
        clear x567 xl568 x569 x570 x571 x572 x573 xl574; refine HC621.out.mono ?_; rintro e w619 ⟨rfl, h1, h2⟩; have HS620 := zh (HS561.out.below h2); have HX622 := zh (below_blk h2 HX563.out); have HA623 := zh (HA564.out.on h2.size); have HX624 := zh (below_blk h2 HX565.out); have HA625 := zh (HA566.out.on h2.size); clear h2 h1; have x626 := zc 0 HX622.out rfl; have xl627 := blk_lt HX622.out; have x628 := zc 0 HX624.out rfl; have x629 := zc 1 HX624.out rfl; have x630 := zc 2 HX624.out rfl; have x631 := zc 3 HX624.out rfl; have x632 := zc 4 HX624.out rfl; have xl633 := blk_lt HX624.out; have hr := HR.out; clear HR
        cases hb : isAny (tk K.T i) [⟨#[40]⟩] with
        | true =>
         rw [if_pos hb] at hr; have HLT634 := zh (any_lt HTK.out HI.out hb); have HC637 := zh (got_yes HS620.out.pa HI.out ⟨#[40]⟩ hb); clear hb; have HR := zh hr; clear hr; go_wp2_with fail
         clear x626 xl627 x628 x629 x630 x631 x632 xl633; refine HC637.out.mono ?_; rintro e w635 ⟨rfl, h1, h2⟩; have HS636 := zh (HS620.out.step h1 h2); have HX638 := zh (Away.blkTo HX622.out HA623.out h2); have HA639 := zh (HA623.out.to h2); have HX640 := zh (Away.blkTo HX624.out HA625.out h2); have HA641 := zh (HA625.out.to h2); clear h1 h2; have x642 := zc 0 HX638.out rfl; have xl643 := blk_lt HX638.out; have x644 := zc 0 HX640.out rfl; have x645 := zc 1 HX640.out rfl; have x646 := zc 2 HX640.out rfl; have x647 := zc 3 HX640.out rfl; have x648 := zc 4 HX640.out rfl; have xl649 := blk_lt HX640.out; have hr := HR.out; clear HR; unfold deeper at hr; by_cases hdp : 150 < o + 1
         ·rw [if_pos hdp] at hr
          have HRR654 := zh (show Res.bad _ _ = r from (by exact Option.some.inj hr)); have HC656 := zh ((within_deep HS636.out.pa hdp HO.out ((tk K.T i).a) (.func (.func 132) #[] #[.pointer (some ⟨b1, 0, none⟩)])).mono fun e w' hh => (show OutB w p _ 61 e w' from ⟨hh.1, HS636.out.bad HB.out hh.2⟩)); clear hr hdp; go_wp2_with fail
          refine HC656.out.mono ?_; rintro e wb ⟨rfl, hb⟩; have HB655 := zh hb; clear hb; unfold wrongP; go_wp2
          exact ⟨rfl, by rw [← HRR654.out]; exact ⟨rfl, HB655.out⟩⟩
         ·rw [if_neg hdp] at hr
          obtain ⟨X, hX⟩ : ∃ X, (parF K.T f).one (.paren) (o + 1) (i + 1) = X := ⟨_, rfl⟩; dsimp only at hr
          rw [hX] at hr; have HDP := zh hdp; clear hdp
          cases X with
          | none => exact absurd hr (by simp [Res.then])
          | some X =>
          cases X with
          | bad a n =>
           have HRR652 := zh (show Res.bad a n = r from (by exact Option.some.inj hr)); have HC658 := zh (within_no (fn := 132) (fst := #[]) (cap := #[.pointer (some ⟨b1, 0, none⟩)]) (args := #[.pointer (some ⟨b1, 0, none⟩)]) HS636.out HB.out HDP.out ((tk K.T i).a) (fun W => rfl) rfl hX (fun w1 h1 h2 r hr => ((HAP.out f (Nat.le_refl f)).parenC) K w1 p (i + 1) (o + 1) sn _ fp b1 h1 ⟨HLT634.out, by rw [len_more]; exact by have := HRM.out; have := HI.out; have := HLT634.out; (try simp only [zS]); omega⟩ (by have := HDP.out; omega) (Away.blkTo HX638.out HA639.out h2) (HA639.out.to h2) r hr)); clear hr hX; go_wp2_with fail
           refine HC658.out.mono ?_; rintro e wb ⟨rfl, hb⟩; have HB657 := zh hb; clear hb; unfold wrongP; go_wp2
           exact ⟨rfl, by rw [← HRR652.out]; exact ⟨rfl, HB657.out⟩⟩
          | ok t650 j651 =>
           have hft := (fit_all HTK.out f).one (.paren) (o + 1) (i + 1) HLT634.out; rw [hX] at hft; obtain ⟨f1, f2, f3⟩ := hft; simp only [lazy1, sl1, ex1, zf] at f2 f3
           have HF653 := zh (And.intro f1 (And.intro f2 f3)); clear f1 f2 f3; have HC662 := zh (within_ok (fn := 132) (fst := #[]) (cap := #[.pointer (some ⟨b1, 0, none⟩)]) (args := #[.pointer (some ⟨b1, 0, none⟩)]) HS636.out HDP.out ((tk K.T i).a) (fun W => rfl) rfl hX (fun w1 h1 h2 r hr => ((HAP.out f (Nat.le_refl f)).parenC) K w1 p (i + 1) (o + 1) sn _ fp b1 h1 ⟨HLT634.out, by rw [len_more]; exact by have := HRM.out; have := HI.out; have := HLT634.out; (try simp only [zS]); omega⟩ (by have := HDP.out; omega) (Away.blkTo HX638.out HA639.out h2) (HA639.out.to h2) r hr)); clear hX; have HR := zh hr; clear hr; go_wp2_with fail
           clear x642 xl643 x644 x645 x646 x647 x648 xl649; refine HC662.out.mono ?_; rintro e w659 ⟨rfl, fp660, h1, h2⟩; obtain ⟨n663, hn⟩ : ∃ n, n = nr ns [] t650 := ⟨_, rfl⟩; rw [← hn]; have HN664 := zh hn; have HS661 := zh (show St K w p j651 o sn ns fp [t650] w659 fp660 from h1); have HX665 := zh (Away.blkTo HX638.out HA639.out h2); have HA666 := zh (HA639.out.to h2); have HX667 := zh (Away.blkTo HX640.out HA641.out h2); have HA668 := zh (HA641.out.to h2); clear h1 h2 hn; have x669 := zc 0 HX665.out rfl; have xl670 := blk_lt HX665.out; have x671 := zc 0 HX667.out rfl; have x672 := zc 1 HX667.out rfl; have x673 := zc 2 HX667.out rfl; have x674 := zc 3 HX667.out rfl; have x675 := zc 4 HX667.out rfl; have xl676 := blk_lt HX667.out; have hr := HR.out; clear HR; have HRR677 := zh (show Res.ok _ _ = r from Option.some.inj hr); clear hr; go_wp2
           go_ret
           exact (by rw [← HRR677.out, HN664.out]; exact HS661.out.out)
        | false =>
         rw [if_neg (by rw [hb]; decide)] at hr; have HC680 := zh (got_no HS620.out.pa HI.out ⟨#[40]⟩ hb); clear hb; have HR := zh hr; clear hr; go_wp2_with fail
         clear x626 xl627 x628 x629 x630 x631 x632 xl633; refine HC680.out.mono ?_; rintro e w678 ⟨rfl, h1, h2⟩; have HS679 := zh (HS620.out.below h2); have HX681 := zh (below_blk h2 HX622.out); have HA682 := zh (HA623.out.on h2.size); have HX683 := zh (below_blk h2 HX624.out); have HA684 := zh (HA625.out.on h2.size); clear h2 h1; have x685 := zc 0 HX681.out rfl; have xl686 := blk_lt HX681.out; have x687 := zc 0 HX683.out rfl; have x688 := zc 1 HX683.out rfl; have x689 := zc 2 HX683.out rfl; have x690 := zc 3 HX683.out rfl; have x691 := zc 4 HX683.out rfl; have xl692 := blk_lt HX683.out; have hr := HR.out; clear HR
         cases hb : isAny (tk K.T i) [⟨#[123]⟩] with
         | true =>
          rw [if_pos hb] at hr; have HLT693 := zh (any_lt HTK.out HI.out hb); have HC696 := zh (got_yes HS679.out.pa HI.out ⟨#[123]⟩ hb); clear hb; have HR := zh hr; clear hr; go_wp2_with fail
          clear x685 xl686 x687 x688 x689 x690 x691 xl692; refine HC696.out.mono ?_; rintro e w694 ⟨rfl, h1, h2⟩; have HS695 := zh (HS679.out.step h1 h2); have HX697 := zh (Away.blkTo HX681.out HA682.out h2); have HA698 := zh (HA682.out.to h2); have HX699 := zh (Away.blkTo HX683.out HA684.out h2); have HA700 := zh (HA684.out.to h2); clear h1 h2; have x701 := zc 0 HX697.out rfl; have xl702 := blk_lt HX697.out; have x703 := zc 0 HX699.out rfl; have x704 := zc 1 HX699.out rfl; have x705 := zc 2 HX699.out rfl; have x706 := zc 3 HX699.out rfl; have x707 := zc 4 HX699.out rfl; have xl708 := blk_lt HX699.out; have hr := HR.out; clear HR; unfold deeper at hr; by_cases hdp : 150 < o + 1
          ·rw [if_pos hdp] at hr
           have HRR713 := zh (show Res.bad _ _ = r from (by exact Option.some.inj hr)); have HC715 := zh ((within_deep HS695.out.pa hdp HO.out ((tk K.T i).a) (.func (.func 133) #[] #[.pointer (some ⟨b1, 0, none⟩), .pointer (some ⟨b17, 0, none⟩)])).mono fun e w' hh => (show OutB w p _ 61 e w' from ⟨hh.1, HS695.out.bad HB.out hh.2⟩)); clear hr hdp; go_wp2_with fail
           refine HC715.out.mono ?_; rintro e wb ⟨rfl, hb⟩; have HB714 := zh hb; clear hb; unfold wrongP; go_wp2
           exact ⟨rfl, by rw [← HRR713.out]; exact ⟨rfl, HB714.out⟩⟩
          ·rw [if_neg hdp] at hr
           obtain ⟨X, hX⟩ : ∃ X, (parF K.T f).one (.table ((tk K.T i).a)) (o + 1) (i + 1) = X := ⟨_, rfl⟩; dsimp only at hr
           rw [hX] at hr; have HDP := zh hdp; clear hdp
           cases X with
           | none => exact absurd hr (by simp [Res.then])
           | some X =>
           cases X with
           | bad a n =>
            have HRR711 := zh (show Res.bad a n = r from (by exact Option.some.inj hr)); have HC717 := zh (within_no (fn := 133) (fst := #[]) (cap := #[.pointer (some ⟨b1, 0, none⟩), .pointer (some ⟨b17, 0, none⟩)]) (args := #[.pointer (some ⟨b1, 0, none⟩), .pointer (some ⟨b17, 0, none⟩)]) HS695.out HB.out HDP.out ((tk K.T i).a) (fun W => rfl) rfl hX (fun w1 h1 h2 r hr => (wrap_prim3 (tk K.T i) ((HAP.out f (Nat.le_refl f)).table ((tk K.T i).a))) K w1 p (i + 1) (o + 1) sn _ fp b1 b17 h1 ⟨HLT693.out, by rw [len_more]; exact by have := HRM.out; have := HI.out; have := HLT693.out; (try simp only [zS]); omega⟩ (by have := HDP.out; omega) (Away.blkTo HX697.out HA698.out h2) (HA698.out.to h2) (Away.blkTo HX699.out HA700.out h2) (HA700.out.to h2) r hr)); clear hr hX; go_wp2_with fail
            refine HC717.out.mono ?_; rintro e wb ⟨rfl, hb⟩; have HB716 := zh hb; clear hb; unfold wrongP; go_wp2
            exact ⟨rfl, by rw [← HRR711.out]; exact ⟨rfl, HB716.out⟩⟩
           | ok t709 j710 =>
            have hft := (fit_all HTK.out f).one (.table ((tk K.T i).a)) (o + 1) (i + 1) HLT693.out; rw [hX] at hft; obtain ⟨f1, f2, f3⟩ := hft; simp only [lazy1, sl1, ex1, zf] at f2 f3
            have HF712 := zh (And.intro f1 (And.intro f2 f3)); clear f1 f2 f3; have HC721 := zh (within_ok (fn := 133) (fst := #[]) (cap := #[.pointer (some ⟨b1, 0, none⟩), .pointer (some ⟨b17, 0, none⟩)]) (args := #[.pointer (some ⟨b1, 0, none⟩), .pointer (some ⟨b17, 0, none⟩)]) HS695.out HDP.out ((tk K.T i).a) (fun W => rfl) rfl hX (fun w1 h1 h2 r hr => (wrap_prim3 (tk K.T i) ((HAP.out f (Nat.le_refl f)).table ((tk K.T i).a))) K w1 p (i + 1) (o + 1) sn _ fp b1 b17 h1 ⟨HLT693.out, by rw [len_more]; exact by have := HRM.out; have := HI.out; have := HLT693.out; (try simp only [zS]); omega⟩ (by have := HDP.out; omega) (Away.blkTo HX697.out HA698.out h2) (HA698.out.to h2) (Away.blkTo HX699.out HA700.out h2) (HA700.out.to h2) r hr)); clear hX; have HR := zh hr; clear hr; go_wp2_with fail
            clear x701 xl702 x703 x704 x705 x706 x707 xl708; refine HC721.out.mono ?_; rintro e w718 ⟨rfl, fp719, h1, h2⟩; obtain ⟨n722, hn⟩ : ∃ n, n = nr ns [] t709 := ⟨_, rfl⟩; rw [← hn]; have HN723 := zh hn; have HS720 := zh (show St K w p j710 o sn ns fp [t709] w718 fp719 from h1); have HX724 := zh (Away.blkTo HX697.out HA698.out h2); have HA725 := zh (HA698.out.to h2); have HX726 := zh (Away.blkTo HX699.out HA700.out h2); have HA727 := zh (HA700.out.to h2); clear h1 h2 hn; have x728 := zc 0 HX724.out rfl; have xl729 := blk_lt HX724.out; have x730 := zc 0 HX726.out rfl; have x731 := zc 1 HX726.out rfl; have x732 := zc 2 HX726.out rfl; have x733 := zc 3 HX726.out rfl; have x734 := zc 4 HX726.out rfl; have xl735 := blk_lt HX726.out; have hr := HR.out; clear HR; have HRR736 := zh (show Res.ok _ _ = r from Option.some.inj hr); clear hr; go_wp2
            go_ret
            exact (by rw [← HRR736.out, HN723.out]; exact HS720.out.out)
         | false =>
          rw [if_neg (by rw [hb]; decide)] at hr; have HC739 := zh (got_no HS679.out.pa HI.out ⟨#[123]⟩ hb); clear hb; have HR := zh hr; clear hr; go_wp2_with fail
          clear x685 xl686 x687 x688 x689 x690 x691 xl692; refine HC739.out.mono ?_; rintro e w737 ⟨rfl, h1, h2⟩; have HS738 := zh (HS679.out.below h2); have HX740 := zh (below_blk h2 HX681.out); have HA741 := zh (HA682.out.on h2.size); have HX742 := zh (below_blk h2 HX683.out); have HA743 := zh (HA684.out.on h2.size); clear h2 h1; have x744 := zc 0 HX740.out rfl; have xl745 := blk_lt HX740.out; have x746 := zc 0 HX742.out rfl; have x747 := zc 1 HX742.out rfl; have x748 := zc 2 HX742.out rfl; have x749 := zc 3 HX742.out rfl; have x750 := zc 4 HX742.out rfl; have xl751 := blk_lt HX742.out; have hr := HR.out; clear HR; have HRR752 := zh (show Res.bad (tk K.T i).a 70 = r from (by exact Option.some.inj hr)); have HC754 := zh ((show Calls Tryz.prog 44 #[.pointer (some ⟨p, 0, none⟩), natV (tk K.T i).a] w737 (OutB w p (tk K.T i).a 70) from (no_any _ _ _).mono fun e w' hh => ⟨hh.1, by rw [← hh.2]; exact HS738.out.bad HB.out zbr⟩)); clear hr; go_wp2_with fail
          refine HC754.out.mono ?_; rintro e wb ⟨rfl, hb⟩; have HB753 := zh hb; clear hb; unfold wrongP; go_wp2
          exact ⟨rfl, by rw [← HRR752.out]; exact ⟨rfl, HB753.out⟩⟩
end Go.Proofs.YthobobmbileekaaGreatDoor
