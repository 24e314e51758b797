/-
 ParseChecks: part 25 of what the claim rests on.
-/
import Derived.Test.YthobobmbileekaaGreatDoorCards
import Derived.Test.YthobobmbileekaaGreatDoorTie
import Derived.Test.YthobobmbileekaaGreatDoorC01
import Derived.Test.YthobobmbileekaaGreatDoorC03
import Derived.Test.YthobobmbileekaaGreatDoorC04
import Derived.Test.YthobobmbileekaaGreatDoorC06
import Derived.Test.YthobobmbileekaaGreatDoorC08
import Derived.Test.YthobobmbileekaaGreatDoorC09
import Derived.Test.YthobobmbileekaaGreatDoorC11
import Derived.Test.YthobobmbileekaaGreatDoorC12
import Derived.Test.YthobobmbileekaaGreatDoorC15
import Derived.Test.YthobobmbileekaaGreatDoorC16
import Derived.Test.YthobobmbileekaaGreatDoorC18
import Derived.Test.YthobobmbileekaaGreatDoorC19
import Derived.Test.YthobobmbileekaaGreatDoorC20
import Derived.Test.YthobobmbileekaaGreatDoorC21
import Derived.Test.YthobobmbileekaaGreatDoorC22
import Derived.Test.YthobobmbileekaaGreatDoorC23
import Derived.Test.YthobobmbileekaaGreatDoorC24
import Derived.BigQuiet
import Derived.OpenShut
import Derived.LaidMore
import Derived.Lay
import Derived.Stop.Joined
import Derived.Stop.LaidErr
import Derived.Deep.DeepHandedRow
import Derived.HandedShaped
import Derived.SevenTiedAt
import Derived.Lib.LaidTab
set_option linter.unusedVariables false
set_option linter.unusedSimpArgs false
set_option maxHeartbeats 64000000
set_option maxRecDepth 100000
namespace Go.Proofs.YthobobmbileekaaGreatDoor
open Go.ChangeShapes Go.WideShapes Go.ChangeAt Go.RowKit

theorem none_C (nt : N1) (fn : FuncId) (args : Nat → Array Value) : Callee 0 nt fn args := fun K w p i o sn ns fp h hr ho r e => absurd e (by simp [parF])
theorem none_P (nt : N1) (fn : FuncId) : ClosP 0 nt fn := fun K w p i o sn ns fp b h hr ho hb ha r e => absurd e (by simp [parF])
theorem none_A (a : Nat) (nt : N1) (fn : FuncId) : ClosA 0 a nt fn := fun K w p i o sn ns fp b b2 h hr ho hb ha hb2 ha2 r e => absurd e (by simp [parF])
theorem none_L (nt : NL) (fn : FuncId) (args : Nat → Array Value) : CalleeL 0 nt fn args := fun K w p i o sn ns fp h hr ho r e => absurd e (by simp [parF])
theorem all_zero : AllPart 0 where
 block := none_C _ _ _
 ended := none_C _ _ _
 maybe := fun _ => none_C _ _ _
 stat := none_C _ _ _
 cond := fun _ => none_C _ _ _
 simple := fun _ => none_C _ _ _
 colon := fun _ => none_C _ _ _
 body := fun _ => none_C _ _ _
 chain := fun _ _ => none_C _ _ _
 exp := none_C _ _ _
 unary := none_C _ _ _
 suffixed := none_C _ _ _
 prim := none_C _ _ _
 name := fun _ => none_C _ _ _
 table := fun _ => none_C _ _ _
 kind := none_C _ _ _
 one := none_C _ _ _
 shape := fun _ => none_C _ _ _
 whileC := fun _ => none_A _ _ _
 indexC := none_P _ _
 parenC := none_P _ _
 paramC := none_P _ _
 kindC := fun _ => none_A _ _ _
 args := fun _ => none_L _ _ _
theorem all_succ {f : Nat} (AP : ∀ g, g ≤ f → AllPart g) : AllPart (f + 1) where
 block := walk_block AP
 ended := walk_ended AP
 maybe := fun b => walk_maybe AP b
 stat := walk_stat AP
 cond := fun a => walk_cond AP a
 simple := fun a => walk_simple AP a
 colon := fun b => walk_colon AP b
 body := fun a => walk_body AP a
 chain := fun r h => walk_chain AP r h
 exp := walk_exp AP
 unary := walk_unary AP
 suffixed := walk_suffixed AP
 prim := walk_prim AP
 name := fun t => walk_name AP t
 table := fun a => walk_table AP a
 kind := walk_kind AP
 one := walk_one AP
 shape := fun a => walk_shape AP a
 whileC := fun a => clos_while AP a
 indexC := clos_index AP
 parenC := clos_paren AP
 paramC := clos_param AP
 kindC := fun a => clos_kind AP a
 args := fun a => walk_args AP a
theorem all_part (f : Nat) : AllPart f := by
 induction f using Nat.strongRecOn with
 | ind f IH =>
  cases f with
  | zero => exact all_zero
  | succ f => exact all_succ fun g hg => IH g (by omega)

def chan1 (T : List Tok) (seen : List Int) (i : Nat) : Option (Res PT) :=
 token T 3 (i + 1) fun t j => if t.n < 0 ∨ 7 < t.n ∨ t.n ∈ seen then some (.bad t.a 70) else need T ⟨#[61]⟩ j fun j => maskL T j fun m j => one1 (.mk 2 (numText t.n ++ ⟨#[32]⟩ ++ m) (tk T i).a []) j
theorem chans_step (T : List Tok) (f : Nat) (seen : List Int) (acc : List PT) (i : Nat) : chansF T (f + 1) seen acc i = if isAny (tk T i) [⟨#[99, 104, 97, 110, 110, 101, 108]⟩] then Res.then (chan1 T seen i) fun x j => chansF T f (seen ++ [(tk T (i + 1)).n]) (acc ++ [x]) j else one1 acc i := by
 rw [chansF]
 congr 1
 unfold chan1 token need
 by_cases h1 : (tk T (i + 1)).kind = 3
 ·rw [if_pos h1, if_pos h1]
  dsimp only
  by_cases h2 : (tk T (i + 1)).n < 0 ∨ 7 < (tk T (i + 1)).n ∨ (tk T (i + 1)).n ∈ seen
  ·rw [if_pos h2, if_pos h2]; rfl
  ·rw [if_neg h2, if_neg h2]
   by_cases h3 : isAny (tk T (i + 1 + 1)) [⟨#[61]⟩] = true
   ·rw [if_pos h3, if_pos h3, mask_then (α := List PT), mask_then (α := PT)]
    match maskL T (i + 1 + 1 + 1) one1 with
    | none => rfl
    | some (.bad a e) => rfl
    | some (.ok m j) => rfl
   ·rw [if_neg h3, if_neg h3]; rfl
 ·rw [if_neg h1, if_neg h1]; rfl
def SnOk (sn : Fin 8 → Bool) (seen : List Int) : Prop := ∀ k : Fin 8, sn k = true ↔ ((k.1 : Nat) : Int) ∈ seen
theorem pa_seen {K : PaK} {w : World} {p i o : Nat} {sn : Fin 8 → Bool} {ns : List Nd} {fp : List Nat} (h : PaAt K w p i o sn ns fp) (k : Fin 8) : w.cell? ⟨p, 5 + k.1, none⟩ = some (.bool (sn k)) ∧ w.frozen? ⟨p, 5 + k.1, none⟩ = false ∧ p < w.heap.size := by
 obtain ⟨nv, l, hm⟩ := h.mem
 refine ⟨?_, free_of_blk hm.blk, h.lt⟩
 match k with
 | ⟨0, _⟩ => exact cell_of_blk hm.blk rfl
 | ⟨1, _⟩ => exact cell_of_blk hm.blk rfl
 | ⟨2, _⟩ => exact cell_of_blk hm.blk rfl
 | ⟨3, _⟩ => exact cell_of_blk hm.blk rfl
 | ⟨4, _⟩ => exact cell_of_blk hm.blk rfl
 | ⟨5, _⟩ => exact cell_of_blk hm.blk rfl
 | ⟨6, _⟩ => exact cell_of_blk hm.blk rfl
 | ⟨7, _⟩ => exact cell_of_blk hm.blk rfl
def snPut (sn : Fin 8 → Bool) (k : Fin 8) : Fin 8 → Bool := fun j => if j = k then true else sn j
theorem PaAt.setSn {K : PaK} {w : World} {p i o : Nat} {sn : Fin 8 → Bool} {ns : List Nd} {fp : List Nat} (h : PaAt K w p i o sn ns fp) (k : Fin 8) : PaAt K (w.setCell ⟨p, 5 + k.1, none⟩ (.bool true)) p i o (snPut sn k) ns fp ∧ PaTo w fp (w.setCell ⟨p, 5 + k.1, none⟩ (.bool true)) fp := by
 refine h.set (5 + k.1) _ fun nv hb => ?_
 rw [blk_set (i := 5 + k.1) hb]
 match k with
 | ⟨0, _⟩ => rfl
 | ⟨1, _⟩ => rfl
 | ⟨2, _⟩ => rfl
 | ⟨3, _⟩ => rfl
 | ⟨4, _⟩ => rfl
 | ⟨5, _⟩ => rfl
 | ⟨6, _⟩ => rfl
 | ⟨7, _⟩ => rfl
theorem SnOk.put {sn : Fin 8 → Bool} {seen : List Int} (h : SnOk sn seen) (k : Fin 8) {n : Int} (hn : n = ((k.1 : Nat) : Int)) : SnOk (snPut sn k) (seen ++ [n]) := fun j => by
 unfold snPut
 rw [List.mem_append, List.mem_singleton, hn]
 by_cases e : j = k
 ·subst e; simp
 ·rw [if_neg e, h j]
  have : ¬ ((j.1 : Nat) : Int) = ((k.1 : Nat) : Int) := fun e2 => e (Fin.ext (by omega)); simp [this]
theorem below_dM {w w' : World} {B : Nat} (h : Below B w w') (n : Nat) : Below B w (w'.drewN n) := ⟨h.os, h.tape, h.output, h.size, h.block⟩
def ChanOut (K : PaK) (w : World) (p o : Nat) (seen : List Int) (ns : List Nd) (fp : List Nat) : Res PT → Ending → World → Prop
 | .bad a e => OutB w p a e
 | .ok t j => fun e w' => e = .returned (natV (ns.length + ptS t - 1)) ∧ ∃ fp' sn', PaAt K w' p j o sn' (ns ++ flat ns.length t) fp' ∧ PaTo w fp w' fp' ∧ SnOk sn' seen
theorem walk_channel {K : PaK} {w : World} {p i o : Nat} {sn : Fin 8 → Bool} {ns : List Nd} {fp : List Nat} {seen : List Int} (h : PaAt K w p i o sn ns fp) (hroom : Room K i ns) (hsn : SnOk sn seen) (hch : isAny (tk K.T i) [⟨#[99, 104, 97, 110, 110, 101, 108]⟩] = true) {r : Res PT} (hr : chan1 K.T seen i = some r) : Calls Tryz.prog 20 #[.pointer (some ⟨p, 0, none⟩)] w (ChanOut K w p o (seen ++ [(tk K.T (i + 1)).n]) ns fp r) := by
 unfold chan1 at hr
 have HB := zh (Beg.of h)
 have HTK := zh h.env.tok
 have HRM := zh hroom.2
 have HI := zh hroom.1
 have HS0 := zh (St.start h)
 have HLN := zh h.env.len
 have HSN := zh hsn
 have HCH := zh hch
 clear h hroom hsn hch
 have HR := zh hr
 clear hr
 go_enter Tryz.func20, Tryz.ntmps20
 have hr := HR.out
 clear HR
 have HC3 := zh (at_any HS0.out.pa HI.out)
 have HR := zh hr
 clear hr
 go_wp2_with fail
 refine HC3.out.mono ?_
 rintro e w1 ⟨rfl, h2⟩
 have HS2 := zh (HS0.out.below h2)
 clear h2
 have hr := HR.out
 clear HR
 have HLTc := zh (any_lt HTK.out HI.out HCH.out)
 have HC6 := zh (need_yes HS2.out.pa HI.out ⟨#[99, 104, 97, 110, 110, 101, 108]⟩ HCH.out)
 have HR := zh hr
 clear hr
 go_wp2_with fail
 refine HC6.out.mono ?_
 rintro e w4 ⟨rfl, h1, h2⟩
 have HS5 := zh (HS2.out.step h1 h2)
 clear h1 h2
 have hr := HR.out
 clear HR
 unfold token at hr
 by_cases hk : (tk K.T (i + 1)).kind = 3
 ·rw [if_pos hk] at hr
  dsimp only at hr
  have HLT7 := zh (tk_lt HTK.out HLTc.out (by rw [hk]; decide)); have HC13 := zh (token_ok HS5.out.pa HLTc.out 3 hk); clear hk; have HR := zh hr; clear hr; go_wp2_with fail
  refine HC13.out.mono ?_; rintro e w11 ⟨rfl, h1, h2⟩; have HS12 := zh (HS5.out.step h1 h2); clear h1 h2; have hr := HR.out; clear HR; unfold tokJ; have HR := zh hr; clear hr
  go_upto_region 4 with fail
  obtain ⟨b14, hb⟩ : ∃ b, b = w11.heap.size := ⟨_, rfl⟩; rw [← hb]; refine gen_wpT fun w15 hW => ?_; have HX16 := zh (show w15.heap[b14]? = some (.cells #[.int .i64 (tk K.T (i + 1)).kind, .string (tk K.T (i + 1)).text, .int .i64 ((tk K.T (i + 1)).a : Int), .int .i64 ((tk K.T (i + 1)).z : Int), .int .i64 (tk K.T (i + 1)).n] 65 (0, 0)) by rw [← hW]; exact heap_new_at _ _ _ hb.symm); have HBL19 := zh (show Below w11.heap.size w11 w15 by rw [← hW]; exact zbr.alloc znr _); have HS18 := zh (HS12.out.below HBL19.out); have HA17 := zh (Away.new HS12.out.pa (Nat.le_of_eq hb.symm) (blk_lt HX16.out)); have HBE20 := zh (show w.heap.size ≤ b14 from by have := HS12.out.pt.fr.size; omega); clear hW hb; have x21 := zc 0 HX16.out rfl; have x22 := zc 1 HX16.out rfl; have x23 := zc 2 HX16.out rfl; have x24 := zc 3 HX16.out rfl; have x25 := zc 4 HX16.out rfl; have xl26 := blk_lt HX16.out; have hr := HR.out; clear HR; by_cases c1 : (tk K.T (i + 1)).n < 0
  ·rw [if_pos (.inl c1)] at hr
   have d1 : decide ((tk K.T (i + 1)).n < 0) = true := decide_eq_true c1; clear c1; have HR := zh hr; clear hr
   go_quiet (fail)
   refine gen_K (P := Exit.then _ _ _ _) fun w27 hW => ?_; have HBL28 := zh (show Below w15.heap.size w15 w27 by rw [← hW]; exact below_dM zbr _); have HS29 := zh (HS18.out.below HBL28.out); clear x21 x22 x23 x24 x25 xl26; have HX30 := zh (below_blk HBL28.out HX16.out); have HA31 := zh (HA17.out.on HBL28.out.size); clear hW; have x32 := zc 0 HX30.out rfl; have x33 := zc 1 HX30.out rfl; have x34 := zc 2 HX30.out rfl; have x35 := zc 3 HX30.out rfl; have x36 := zc 4 HX30.out rfl; have xl37 := blk_lt HX30.out; have hr := HR.out; clear HR; have HRR38 := zh (show Res.bad (tk K.T (i + 1)).a 70 = r from (by exact Option.some.inj hr)); have HC40 := zh ((show Calls Tryz.prog 44 #[.pointer (some ⟨p, 0, none⟩), natV (tk K.T (i + 1)).a] w27 (OutB w p (tk K.T (i + 1)).a 70) from (no_any _ _ _).mono fun e w' hh => ⟨hh.1, by rw [← hh.2]; exact HS29.out.bad HB.out zbr⟩)); clear hr; go_wp2_with fail
   refine HC40.out.mono ?_; rintro e wb ⟨rfl, hb⟩; have HB39 := zh hb; clear hb; unfold wrongP; go_wp2
   exact ⟨rfl, by rw [← HRR38.out]; exact ⟨rfl, HB39.out⟩⟩
  ·have d1 : decide ((tk K.T (i + 1)).n < 0) = false := decide_eq_false c1
   by_cases c2 : 7 < (tk K.T (i + 1)).n
   ·rw [if_pos (.inr (.inl c2))] at hr
    have d2 : decide (7 < (tk K.T (i + 1)).n) = true := decide_eq_true c2; clear c1 c2; have HR := zh hr; clear hr
    go_quiet (fail)
    refine gen_K (P := Exit.then _ _ _ _) fun w41 hW => ?_; have HBL42 := zh (show Below w15.heap.size w15 w41 by rw [← hW]; exact below_dM zbr _); have HS43 := zh (HS18.out.below HBL42.out); clear x21 x22 x23 x24 x25 xl26; have HX44 := zh (below_blk HBL42.out HX16.out); have HA45 := zh (HA17.out.on HBL42.out.size); clear hW; have x46 := zc 0 HX44.out rfl; have x47 := zc 1 HX44.out rfl; have x48 := zc 2 HX44.out rfl; have x49 := zc 3 HX44.out rfl; have x50 := zc 4 HX44.out rfl; have xl51 := blk_lt HX44.out; have hr := HR.out; clear HR; have HRR52 := zh (show Res.bad (tk K.T (i + 1)).a 70 = r from (by exact Option.some.inj hr)); have HC54 := zh ((show Calls Tryz.prog 44 #[.pointer (some ⟨p, 0, none⟩), natV (tk K.T (i + 1)).a] w41 (OutB w p (tk K.T (i + 1)).a 70) from (no_any _ _ _).mono fun e w' hh => ⟨hh.1, by rw [← hh.2]; exact HS43.out.bad HB.out zbr⟩)); clear hr; go_wp2_with fail
    refine HC54.out.mono ?_; rintro e wb ⟨rfl, hb⟩; have HB53 := zh hb; clear hb; unfold wrongP; go_wp2
    exact ⟨rfl, by rw [← HRR52.out]; exact ⟨rfl, HB53.out⟩⟩
   ·have d2 : decide (7 < (tk K.T (i + 1)).n) = false := decide_eq_false c2
    obtain ⟨k8, hk8⟩ : ∃ k8 : Fin 8, (tk K.T (i + 1)).n = ((k8.1 : Nat) : Int) := ⟨⟨(tk K.T (i + 1)).n.toNat, by omega⟩, by simp; omega⟩; obtain ⟨n8, hn8⟩ : ∃ n8 : Nat, n8 = k8.1 := ⟨_, rfl⟩; have HK8 := zh (show (tk K.T (i + 1)).n = ((k8.1 : Nat) : Int) ∧ n8 = k8.1 from ⟨hk8, hn8⟩); obtain ⟨e1, e2, e3⟩ := pa_seen HS18.out.pa k8; rw [← hn8] at e1 e2 hk8; rw [hk8] at x25 d1 d2; have h80 : (0 : Int) ≤ (n8 : Int) := by omega
    have h81 : (n8 : Int) < 8 := by have := k8.2; omega
    have hga : (⟨p, 5, none⟩ : Addr).add n8 = ⟨p, 5 + n8, none⟩ := Addr.add_mid _ _ _; have hsk := HSN.out k8; rw [← HK8.out.1] at hsk; clear c1 c2 hk8 hn8; by_cases c3 : (tk K.T (i + 1)).n ∈ seen
    ·rw [if_pos (.inr (.inr c3))] at hr
     rw [hsk.2 c3] at e1; clear c3 hsk; have HR := zh hr; clear hr
     go_quiet (fail)
     refine gen_K (P := Exit.then _ _ _ _) fun w55 hW => ?_; have HBL56 := zh (show Below w15.heap.size w15 w55 by rw [← hW]; exact below_dM zbr _); have HS57 := zh (HS18.out.below HBL56.out); clear x21 x22 x23 x24 x25 xl26; have HX58 := zh (below_blk HBL56.out HX16.out); have HA59 := zh (HA17.out.on HBL56.out.size); clear hW e1 e2 e3 hga d1 d2 h80 h81; have x60 := zc 0 HX58.out rfl; have x61 := zc 1 HX58.out rfl; have x62 := zc 2 HX58.out rfl; have x63 := zc 3 HX58.out rfl; have x64 := zc 4 HX58.out rfl; have xl65 := blk_lt HX58.out; have hr := HR.out; clear HR; have HRR66 := zh (show Res.bad (tk K.T (i + 1)).a 70 = r from (by exact Option.some.inj hr)); have HC68 := zh ((show Calls Tryz.prog 44 #[.pointer (some ⟨p, 0, none⟩), natV (tk K.T (i + 1)).a] w55 (OutB w p (tk K.T (i + 1)).a 70) from (no_any _ _ _).mono fun e w' hh => ⟨hh.1, by rw [← hh.2]; exact HS57.out.bad HB.out zbr⟩)); clear hr; go_wp2_with fail
     refine HC68.out.mono ?_; rintro e wb ⟨rfl, hb⟩; have HB67 := zh hb; clear hb; unfold wrongP; go_wp2
     exact ⟨rfl, by rw [← HRR66.out]; exact ⟨rfl, HB67.out⟩⟩
    ·rw [if_neg (show ¬ ((tk K.T (i + 1)).n < 0 ∨ 7 < (tk K.T (i + 1)).n ∨ (tk K.T (i + 1)).n ∈ seen) from fun e9 => e9.elim (fun h => by have := HK8.out.1; omega) (fun h => h.elim (fun h => by have := HK8.out.1; have := k8.2; omega) c3))] at hr
     have hsf : sn k8 = false := by cases h9 : sn k8 with
      | true => exact absurd (hsk.1 h9) c3
      | false => rfl
     rw [hsf] at e1; clear c3 hsk hsf; have HR := zh hr; clear hr
     go_quiet (fail)
     refine gen_K (P := Exit.then _ _ _ _) fun w69 hW => ?_; have HBL70 := zh (show Below w15.heap.size w15 w69 by rw [← hW]; exact below_dM zbr _); have HS71 := zh (HS18.out.below HBL70.out); clear x21 x22 x23 x24 x25 xl26; have HX72 := zh (below_blk HBL70.out HX16.out); have HA73 := zh (HA17.out.on HBL70.out.size); clear hW e1 e2 e3 hga d1 d2 h80 h81; have x74 := zc 0 HX72.out rfl; have x75 := zc 1 HX72.out rfl; have x76 := zc 2 HX72.out rfl; have x77 := zc 3 HX72.out rfl; have x78 := zc 4 HX72.out rfl; have xl79 := blk_lt HX72.out; have hr := HR.out; clear HR; obtain ⟨e1, e2, e3⟩ := pa_seen HS71.out.pa k8; rw [← HK8.out.2] at e1 e2; rw [HK8.out.1, ← HK8.out.2] at x78; have hga : (⟨p, 5, none⟩ : Addr).add n8 = ⟨p, 5 + n8, none⟩ := Addr.add_mid _ _ _; have h80 : (0 : Int) ≤ (n8 : Int) := by omega
     have h81 : (n8 : Int) < 8 := by have := k8.2; have := HK8.out.2; omega
     have HR := zh hr; clear hr
     go_upto_region 6 with fail
     go_region
     refine gen_K (P := Exit.then _ _ _ _) fun w80 hW => ?_; clear x74 x75 x76 x77 x78 xl79; have hst := HS71.out.pa.setSn k8; rw [← HK8.out.2] at hst; have HTO82 := zh (show PaTo w69 fp w80 fp from hst.2.trans (show PaTo _ fp w80 fp by rw [← hW]; exact PaTo.of_below hst.1 zbr.drew)); obtain ⟨sn2, hsn2⟩ : ∃ s, s = snPut sn k8 := ⟨_, rfl⟩; have HS81 := zh (show St K w p ((i + 1) + 1) o sn2 ns fp [] w80 fp from ⟨by rw [hsn2, ← hW]; exact hst.1.below zbr.drew, HS71.out.pt.trans HTO82.out⟩); have HSN2 := zh (show SnOk sn2 (seen ++ [(tk K.T (i + 1)).n]) by rw [hsn2]; exact HSN.out.put k8 HK8.out.1); have HX83 := zh (Away.blkTo HX72.out HA73.out HTO82.out); have HA84 := zh (HA73.out.to HTO82.out); clear hW hst hsn2 e1 e2 e3 hga h80 h81; have x85 := zc 0 HX83.out rfl; have x86 := zc 1 HX83.out rfl; have x87 := zc 2 HX83.out rfl; have x88 := zc 3 HX83.out rfl; have x89 := zc 4 HX83.out rfl; have xl90 := blk_lt HX83.out; have hr := HR.out; clear HR; unfold need at hr
     cases hb : isAny (tk K.T ((i + 1) + 1)) [⟨#[61]⟩] with
     | false =>
      rw [if_neg (by rw [hb]; decide)] at hr; have HRR92 := zh (show Res.bad _ _ = r from (by exact Option.some.inj hr)); have HC94 := zh ((need_no HS81.out.pa HLT7.out ⟨#[61]⟩ hb).mono fun e w' hh => (show OutB w p _ 70 e w' from ⟨hh.1, HS81.out.bad HB.out hh.2⟩)); clear hr; go_wp2_with fail
      refine HC94.out.mono ?_; rintro e wb ⟨rfl, hb⟩; have HB93 := zh hb; clear hb; unfold wrongP; go_wp2
      exact ⟨rfl, by rw [← HRR92.out]; exact ⟨rfl, HB93.out⟩⟩
     | true =>
      rw [if_pos hb] at hr; have HLT91 := zh (any_lt HTK.out HLT7.out hb); have HC97 := zh (need_yes HS81.out.pa HLT7.out ⟨#[61]⟩ hb); clear hb; have HR := zh hr; clear hr; go_wp2_with fail
      clear x85 x86 x87 x88 x89 xl90; refine HC97.out.mono ?_; rintro e w95 ⟨rfl, h1, h2⟩; have HS96 := zh (HS81.out.step h1 h2); have HX98 := zh (Away.blkTo HX83.out HA84.out h2); have HA99 := zh (HA84.out.to h2); clear h1 h2; have x100 := zc 0 HX98.out rfl; have x101 := zc 1 HX98.out rfl; have x102 := zc 2 HX98.out rfl; have x103 := zc 3 HX98.out rfl; have x104 := zc 4 HX98.out rfl; have xl105 := blk_lt HX98.out; have hr := HR.out; clear HR; have hmm := Sat.mask (N := True) (Q := fun (x : ByteArray) j => MaskT x ∧ (((i + 1) + 1) + 1) < j ∧ j < K.T.length) (k := one1) HTK.out HLT91.out (fun x j h0 h1 h2 => ⟨h0, h1, h2⟩); rw [mask_then] at hr; obtain ⟨X, hX⟩ : ∃ X, maskL K.T (((i + 1) + 1) + 1) one1 = X := ⟨_, rfl⟩; rw [hX] at hr hmm
      cases X with
      | none => exact absurd hr (by simp [Res.then])
      | some X =>
      cases X with
      | bad a n =>
       have HRR106 := zh (show Res.bad a n = r from by dsimp only [Res.then] at hr; exact Option.some.inj hr); clear hmm; have HC111 := zh ((mask_any HS96.out.pa HLT91.out hX).mono fun e w' hh => (show OutB w p a n e w' from ⟨hh.1, HS96.out.bad HB.out hh.2⟩)); clear hr hX; go_wp2_with fail
       refine HC111.out.mono ?_; rintro e wb ⟨rfl, hb⟩; have HB110 := zh hb; clear hb; unfold wrongP; go_wp2
       exact ⟨rfl, by rw [← HRR106.out]; exact ⟨rfl, HB110.out⟩⟩
      | ok m107 j108 =>
       dsimp only [Res.then] at hr
       have HMM := zh (show MaskT m107 ∧ (((i + 1) + 1) + 1) < j108 ∧ j108 < K.T.length from hmm); clear hmm; have HMM2 := zh HMM.out.2; have HC114 := zh ((show Calls Tryz.prog 45 #[.pointer (some ⟨p, 0, none⟩)] w95 (OutV K w95 p j108 o sn2 (ns ++ flats ns.length []) fp (.string m107)) from mask_any HS96.out.pa HLT91.out hX)); clear hX; have HR := zh hr; clear hr; go_wp2_with fail
       clear x100 x101 x102 x103 x104 xl105; refine HC114.out.mono ?_; rintro e w112 ⟨rfl, h1, h2⟩; have HS113 := zh (HS96.out.step h1 h2); have HX115 := zh (Away.blkTo HX98.out HA99.out h2); have HA116 := zh (HA99.out.to h2); clear h1 h2; have x117 := zc 0 HX115.out rfl; have x118 := zc 1 HX115.out rfl; have x119 := zc 2 HX115.out rfl; have x120 := zc 3 HX115.out rfl; have x121 := zc 4 HX115.out rfl; have xl122 := blk_lt HX115.out; have hr := HR.out; clear HR; have HSZ := zh (show m107.size ≤ 21 from by obtain ⟨n, h0, h1, h2⟩ := HMM.out.1; rw [h2]; exact numText_size n h0 h1); have HTN := zh (HTK.out.num (i + 1)); have HSZ2 := zh (numText_size (tk K.T (i + 1)).n HTN.out.1 HTN.out.2); have hz1 : ¬ 9223372036854775807 < (numText (tk K.T (i + 1)).n).size + 1 := by have := HSZ2.out; omega
       have hz2 : ¬ 9223372036854775807 < (numText (tk K.T (i + 1)).n).size + 1 + m107.size := by have := HSZ2.out; have := HSZ.out; omega
       have HFI := zh (show Res.ok _ _ = r from Option.some.inj hr); clear hr; have hr := HFI; clear HFI; have HC125 := zh (nshow_any (tk K.T (i + 1)).n _ HTN.out.1 HTN.out.2 HS113.out.pa.env.tab); have HR := zh hr; clear hr; go_wp2_with fail
       clear x117 x118 x119 x120 x121 xl122; refine HC125.out.mono ?_; rintro e w123 ⟨rfl, h2⟩; have HS124 := zh (HS113.out.below h2); have HX126 := zh (below_blk h2 HX115.out); have HA127 := zh (HA116.out.on h2.size); clear h2; have x128 := zc 0 HX126.out rfl; have x129 := zc 1 HX126.out rfl; have x130 := zc 2 HX126.out rfl; have x131 := zc 3 HX126.out rfl; have x132 := zc 4 HX126.out rfl; have xl133 := blk_lt HX126.out; have hr := HR.out; clear HR; have HFI := hr; clear hr; have HL134 := zh (lay_fin (L := []) HS124.out (by have := HRM.out; have := HI.out; have := HLTc.out; have := HLT7.out; have := HLT91.out; have := HMM2.out; (try simp only [ptsS, ptS, noneT, ptsS_append, List.nil_append, List.cons_append, Nat.add_zero, Nat.zero_add]); omega) (by simp) 2 (numText (tk K.T (i + 1)).n ++ ⟨#[32]⟩ ++ m107) (tk K.T i).a (KidsV.nil w123) rfl); go_wp2_with fail
       refine HL134.out.mono ?_; rintro e wz ⟨rfl, fpz, h1, h2⟩; have HZ9 := zh (And.intro h1 h2); clear h1 h2; go_wp2
       go_ret
       exact (by rw [← HFI.out]; exact ⟨rfl, fpz, sn2, HZ9.out.1, HZ9.out.2, HSN2.out⟩)
 ·rw [if_neg hk] at hr
  have HRR8 := zh (show Res.bad _ _ = r from (by exact Option.some.inj hr)); have HC10 := zh ((token_no HS5.out.pa HLTc.out 3 hk).mono fun e w' hh => (show OutB w p _ 70 e w' from ⟨hh.1, HS5.out.bad HB.out hh.2⟩)); clear hr hk; go_wp2_with fail
  refine HC10.out.mono ?_; rintro e wb ⟨rfl, hb⟩; have HB9 := zh hb; clear hb; unfold wrongP; go_wp2
  exact ⟨rfl, by rw [← HRR8.out]; exact ⟨rfl, HB9.out⟩⟩

theorem chan1_fit {T : List Tok} {M : Nat} (h : TokOk T M) {seen : List Int} {i : Nat} (hi : i + 1 < T.length) : FSat (fun x j => j < T.length ∧ i + 4 ≤ j ∧ ptS x = 1) (chan1 T seen i) := by
 unfold chan1
 refine FSat.token h hi (by decide) fun h2 => Sat.ite (fun _ => trivial) fun _ => FSat.need h h2 fun h3 => FSat.mask h h3 fun x j h4 h5 => Sat.ok ⟨h5, by omega, by rw [ptS, ptsS]⟩
def NodesS (w : World) (p : Nat) (A : Option Addr) (l : List NdM) : Prop := ∀ W : World, w.heap.size ≤ W.heap.size → (∀ b, p < b → b < w.heap.size → W.heap[b]? = w.heap[b]?) → NodesR W W.heap.size A l
theorem NodesS.here {w : World} {p : Nat} {A : Option Addr} {l : List NdM} (h : NodesS w p A l) : NodesR w w.heap.size A l := h w znr fun _ _ _ => rfl
theorem NodesS.below {w w' : World} {p : Nat} {A : Option Addr} {l : List NdM} (h : NodesS w p A l) (hb : Below w.heap.size w w') : NodesS w' p A l := fun W h1 h2 => h W (Nat.le_trans hb.size h1) fun b h3 h4 => (h2 b h3 (Nat.lt_of_lt_of_le h4 hb.size)).trans (hb.block b h4)
theorem own_stay {w W : World} {p n c : Nat} {e : TypeId} {sz : Nat} {A : Option Addr} {xs : List Value} (h : w.ownsRow (p + 1) e sz (.slice A n c) n xs) (hx : n = 0 → xs = []) (hs : w.heap.size ≤ W.heap.size) (hb : ∀ b, p < b → b < w.heap.size → W.heap[b]? = w.heap[b]?) : Reads W W.heap.size A xs := by
 obtain ⟨A', c', hv, _, _, h3⟩ := own_form h
 injection hv with e1 e2 e3
 subst e1
 rcases Nat.eq_zero_or_pos n with h0 | h0
 ·exact .inl (hx h0)
 ·obtain ⟨gb, hA, h4, h5, ⟨cur, h6⟩, h7⟩ := h3 h0
  refine .inr ⟨⟨gb, 0, none⟩, hA, Nat.lt_of_lt_of_le h5 hs, fun j u hu => ?_⟩; rw [Addr.add_mid, Nat.zero_add, ← h7 j u hu]; unfold World.cell?; simp only
  rw [hb gb (by omega) h5]
def ProgOut (w : World) (p : Nat) : Res PT → Ending → World → Prop
 | .bad a e => OutB w p a e
 | .ok t _ => fun e w' => Below p w w' ∧ if 50000 < ptS t then e = .panicked (wrongP 0 2) else if 200 < deepT t then e = .panicked (wrongP 0 61) else ∃ A c l, e = .returned (.slice A l.length c) ∧ l.map NdM.nd = flat 0 t ∧ NodesS w' p A l
theorem pa_nodes {K : PaK} {w : World} {p i o : Nat} {sn : Fin 8 → Bool} {ns : List Nd} {fp : List Nat} (h : PaAt K w p i o sn ns fp) : ∃ A c l, l.map NdM.nd = ns ∧ l.length = ns.length ∧ w.cell? ⟨p, 2, none⟩ = some (.slice A l.length c) ∧ NodesS w p A l ∧ p < w.heap.size := by
 obtain ⟨nv, l, hm⟩ := h.mem
 have hp := pa_cell hm.blk
 obtain ⟨A, c, hv, _, _, _⟩ := own_form hm.own
 have hl : l.length = ns.length := by rw [← hm.nds, List.length_map]
 have hown := hm.own
 rw [hv] at hown
 refine ⟨A, c, l, hm.nds, hl, by rw [hp.2.2.1, hv, hl], fun W h1 h2 => ⟨own_stay hown (fun h0 => ?_) h1 h2, fun x hx => own_stay (hm.kid x hx) (fun h0 => ?_) h1 h2, znr, fun x hx => (own_readsX (hm.kid x hx)).2⟩, h.lt⟩
 ·rw [← hl] at h0
  rw [List.eq_nil_of_length_eq_zero h0]; rfl
 ·rw [List.eq_nil_of_length_eq_zero h0]; rfl
theorem kids_few (t : PT) {x : Nd} (hx : x ∈ flat 0 t) : x.kids.length ≤ ptS t := by
 have h1 := kids_all t
 have h2 := h1.length_eq
 rw [List.length_append, List.length_range, List.length_singleton] at h2
 have h3 : x.kids.length ≤ ((flat 0 t).flatMap Nd.kids).length := by
  obtain ⟨a, b, hab⟩ := List.append_of_mem hx; rw [hab, List.flatMap_append, List.length_append, List.flatMap_cons, List.length_append]
  omega
 omega
theorem Reads.up {w : World} {B B2 : Nat} {A : Option Addr} {xs : List Value} (h : Reads w B A xs) (hb : B ≤ B2) : Reads w B2 A xs := h.imp id fun ⟨ad, h1, h2, h3⟩ => ⟨ad, h1, Nat.lt_of_lt_of_le h2 hb, h3⟩
theorem walk_program {K : PaK} {w : World} {p i o F : Nat} {sn : Fin 8 → Bool} {ns : List Nd} {fp : List Nat} (h : PaAt K w p i o sn ns fp) (hroom : i < K.T.length ∧ ns.length + 4 * (K.T.length - i) ≤ 890000) (hns : ns = []) (ho : o ≤ 150) (hsn : SnOk sn []) {r : Res PT} (hr : (Res.then (chansF K.T F [] [] i) fun l j => Res.then ((parF K.T F).one .block o j) fun b j => token K.T 0 j fun _ j => one1 (.mk 1 ⟨#[]⟩ 0 (l ++ [b])) j) = some r) : Calls Tryz.prog 11 #[.pointer (some ⟨p, 0, none⟩)] w (ProgOut w p r) := by
 have HB := zh (Beg.of h)
 have HTK := zh h.env.tok
 have HRM := zh hroom.2
 have HI := zh hroom.1
 have HO := zh ho
 have HS0 := zh (St.start h)
 have HLN := zh h.env.len
 have HSN := zh hsn
 have HNS := zh hns
 have HP0 := zh h
 clear h hroom hsn hns ho
 have HR := zh hr
 clear hr
 go_enter Tryz.func11, Tryz.ntmps11
 have hr := HR.out
 clear HR
 obtain ⟨X, hX⟩ : ∃ X, chansF K.T F [] [] i = X := ⟨_, rfl⟩
 rw [hX] at hr
 cases X with
 | none => exact absurd hr (by simp [Res.then])
 | some r1 =>
 have HX := zh hX
 have HRT := zh hr
 clear hX hr
 go_wp2_with fail
 go_loopw [3] (fun lv wr => ∃ (acc : List PT) (seen : List Int) (sn : Fin 8 → Bool) (i1 : Nat) (fp1 : List Nat) (f1 : Nat), Hid (St K w p i1 o sn ns fp acc wr fp1) ∧ Hid (Ints wr p fp1 lv (roots ns.length acc)) ∧ Hid (∀ g', lv.ownBlock = some g' → w.heap.size ≤ g') ∧ Hid (f1 ≤ F ∧ chansF K.T f1 seen acc i1 = some r1) ∧ Hid (SnOk sn seen) ∧ Hid (i1 < K.T.length ∧ ns.length + ptsS acc + 4 * (K.T.length - i1) ≤ 890000)) (fun lv _ => 900001 - sliceLen lv)
 case atStart => exact ⟨[], [], sn, i, fp, F, HS0, zh (Ints.nil _ _ _), zh (fun g' hg' => by simp [Value.ownBlock] at hg'), zh ⟨znr, HX.out⟩, HSN, zh ⟨HI.out, by have := HRM.out; simp only [ptsS]; omega⟩⟩
 case round =>
  obtain ⟨acc, seen, sn, i1, fp1, f1, HS, HV, HG, HR0, HSN, HRL⟩ := hrel; obtain ⟨A1, c1, hlv, hlc1, hlc2, hfm⟩ := own_form HV.out.own; subst hlv; obtain ⟨rl, hrl⟩ : ∃ k, k = (roots ns.length acc).length := ⟨_, rfl⟩; have HKR := zh (show rl = acc.length by rw [hrl, roots_len]); have HVR := zh (show Ints _ p _ (.slice A1 rl c1) (roots ns.length acc) by rw [hrl]; exact HV.out); rw [← hrl]; clear hlc1 hlc2 hfm; have HGR := zh (show ∀ g', (Value.slice A1 rl c1).ownBlock = some g' → w.heap.size ≤ g' by rw [hrl]; exact HG.out); clear hrl; obtain ⟨hle, hr⟩ := HR0.out; clear HR0
  cases f1 with
  | zero => exact absurd hr (by simp [chansF])
  | succ f =>
  have HLE := zh hle; clear hle; rw [chans_step] at hr; have HC1 := zh (fun W (hW : W = wr.alloc (.cells #[.string ⟨#[99, 104, 97, 110, 110, 101, 108]⟩] 9)) => (show Calls Tryz.prog 19 #[.pointer (some ⟨p, 0, none⟩), .slice (some ⟨wr.heap.size, 0, none⟩) 1 1] W (RetB (.bool (isAny (tk K.T i1) [⟨#[99, 104, 97, 110, 110, 101, 108]⟩])) W) from
   is_any (K := K) (i := i1) (o := o) (sn := sn) (ns := ns ++ flats ns.length acc) (fp := fp1) (c := 1) (L := [⟨#[99, 104, 97, 110, 110, 101, 108]⟩]) (hW ▸ HS.out.pa.below (zbr.alloc znr _)) HRL.out.1 (by rw [hW]; exact .inr ⟨⟨wr.heap.size, 0, none⟩, rfl, by simp, fun j u hu => news_new wr #[.string ⟨#[99, 104, 97, 110, 110, 101, 108]⟩] _ _ rfl j u hu⟩) (by simp)))
  cases hb : isAny (tk K.T i1) [⟨#[99, 104, 97, 110, 110, 101, 108]⟩] with
  | true =>
   rw [if_pos hb] at hr; have HLT4 := zh (any_lt HTK.out HRL.out.1 hb); have HBB := zh hb; clear hb; have HR := zh hr; clear hr; go_wp2_with fail
   refine (HC1.out _ rfl).mono ?_; rw [HBB.out]; rintro e w5 ⟨rfl, h2⟩; have HK7 := zh (show Below wr.heap.size wr w5 from (zbr.alloc znr _).trans (h2.mono (by simp))); have HS6 := zh (HS.out.below HK7.out); have HV8 := zh (HVR.out.to (PaTo.of_below HS.out.pa HK7.out)); clear h2; have hr := HR.out; clear HR; have HCH := HBB; obtain ⟨X, hX⟩ : ∃ X, chan1 K.T seen i1 = X := ⟨_, rfl⟩; rw [hX] at hr
   cases X with
   | none => exact absurd hr (by simp [Res.then])
   | some X =>
   have hft := chan1_fit (seen := seen) HTK.out HLT4.out; rw [hX] at hft
   cases X with
   | bad a n =>
    have HRR9 := zh (show Res.bad a n = r from (by dsimp only [Res.then] at hr; have h1 := Option.some.inj hr; have h2 := HRT.out; rw [← h1] at h2; dsimp only [Res.then] at h2; exact Option.some.inj h2)); clear hft; have HC20 := zh ((walk_channel (o := o) HS6.out.pa ⟨HRL.out.1, by rw [len_more]; have := HRL.out; omega⟩ HSN.out HCH.out hX).mono fun e w' hh => (show OutB w p a n e w' from ⟨hh.1, HS6.out.bad HB.out hh.2⟩)); clear hr hX; go_wp2_with fail
    refine HC20.out.mono ?_; rintro e wb ⟨rfl, hb⟩; have HB19 := zh hb; clear hb; unfold wrongP; go_wp2
    exact ⟨rfl, by rw [← HRR9.out]; exact ⟨rfl, HB19.out⟩⟩
   | ok t10 j11 =>
    have HF12 := zh (show j11 < K.T.length ∧ i1 + 4 ≤ j11 ∧ ptS t10 = 1 from hft); clear hft; dsimp only [Res.then] at hr
    have HC13 := zh (walk_channel (o := o) HS6.out.pa ⟨HRL.out.1, by rw [len_more]; have := HRL.out; omega⟩ HSN.out HCH.out hX); clear hX; have HR := zh hr; clear hr; go_wp2_with fail
    refine HC13.out.mono ?_; rintro e w14 ⟨rfl, fp15, sn2, h1, h2, h3⟩; rw [show (ns ++ flats ns.length acc).length + ptS t10 - 1 = nr ns acc t10 from by rw [len_more]; rfl]; obtain ⟨n17, hn⟩ : ∃ n, n = nr ns acc t10 := ⟨_, rfl⟩; rw [← hn]; have HN18 := zh hn; have HSN2 := zh h3; have HS16 := zh (show St K w p j11 o sn2 ns fp (acc ++ [t10]) w14 fp15 from ⟨by rw [← flats_one_more]; exact h1, HS6.out.pt.trans h2⟩); have HV21 := zh (HV8.out.to h2); clear h1 h2 h3 hn; have hr := HR.out; clear HR; have HKB31 := zh (show rl ≤ 900000 by have h9 := HKR.out; have h8 := ptsS_len acc; have h7 := (show ns.length + ptsS (acc ++ [t10]) + 4 * (K.T.length - j11) ≤ 900000 from by have := HRM.out; have := HRL.out; have := HLT4.out; have := HF12.out; (try simp only [zS]); omega); (try simp only [ptsS_append, List.length_append] at h7 h8 h9); omega)
    try unfold natV
    have HR := zh hr; clear hr; go_wp2_with (at_builtin; (refine wpList_push (n := n17) rfl _ _ rfl HS16.out HV21.out (by rw [roots_len]; exact HKR.out) HKB31.out (B := w.heap.size) znr HS16.out.pt.fr.size HGR.out rfl rfl rfl ?_); intro g22 cap23 w24 h1 h2 h3 h4; skip; have HS27 := zh h1; have HV25 := zh h2; have HGO26 := zh h3; clear h1 h2 h3 h4)
    obtain ⟨k29, hk2⟩ : ∃ k, k = rl + 1 := ⟨_, rfl⟩; have HK30 := zh (show k29 = (acc ++ [t10]).length by rw [hk2, HKR.out]; simp); have HV32 := zh (show Ints w24 p fp15 (.slice (some ⟨g22, 0, none⟩) k29 cap23) (roots ns.length (acc ++ [t10])) by rw [roots_more, ← HN18.out, hk2]; exact HV25.out); rw [← hk2] at HGO26
    try rw [← hk2]
    clear hk2; have hr := HR.out; clear HR; have HRF := zh hr; clear hr; go_wp2_with fail
    go_roundw
    case rel => exact ⟨_, _, sn2, j11, fp15, f, HS27, HV32, HGO26, zh ⟨by have := HLE.out; omega, HRF.out⟩, HSN2, zh ⟨HF12.out.1, by have := HRM.out; have := HRL.out; have := HLT4.out; have := HF12.out; (try simp only [zS]); omega⟩⟩
    case measure => have h5 := HK30.out; rw [List.length_append, List.length_singleton] at h5; have := HKR.out; have h8 := ptsS_len acc; have := HRL.out; simp [sliceLen]; omega
  | false =>
   rw [if_neg (by rw [hb]; decide)] at hr; have HBB := zh hb; clear hb; have HR := zh hr; clear hr; go_wp2_with fail
   refine (HC1.out _ rfl).mono ?_; rw [HBB.out]; rintro e w33 ⟨rfl, h2⟩; have HK35 := zh (show Below wr.heap.size wr w33 from (zbr.alloc znr _).trans (h2.mono (by simp))); have HS34 := zh (HS.out.below HK35.out); have HV36 := zh (HVR.out.to (PaTo.of_below HS.out.pa HK35.out)); clear h2; have hr := HR.out; clear HR; have h1 := Option.some.inj hr; subst h1; clear hr HX; have hr := HRT.out; dsimp only [Res.then] at hr
   clear HRT; have HAP := zh (all_part F); obtain ⟨X, hX⟩ : ∃ X, (parF K.T F).one (.block) o i1 = X := ⟨_, rfl⟩; rw [hX] at hr
   cases X with
   | none => exact absurd hr (by simp [Res.then])
   | some X =>
   cases X with
   | bad a n =>
    have HRR39 := zh (show Res.bad a n = r from (by dsimp only [Res.then] at hr; exact Option.some.inj hr)); have HC42 := zh (call_bad (HAP.out.block) HS34.out HB.out ⟨HRL.out.1, by have := HRM.out; have := HRL.out; (try simp only [zS]); omega⟩ HO.out hX); clear hr hX; go_wp2_with fail
    refine HC42.out.mono ?_; rintro e wb ⟨rfl, hb⟩; have HB41 := zh hb; clear hb; unfold wrongP; go_wp2
    exact ⟨rfl, by rw [← HRR39.out]; exact ⟨rfl, HB41.out⟩⟩
   | ok t37 j38 =>
    have hft := (fit_all HTK.out F).one (.block) o i1 HRL.out.1; rw [hX] at hft; obtain ⟨f1, f2, f3⟩ := hft; simp only [lazy1, sl1, ex1, zf] at f2 f3
    have HF40 := zh (And.intro f1 (And.intro f2 f3)); clear f1 f2 f3; have HC46 := zh (call_ok (HAP.out.block) HS34.out ⟨HRL.out.1, by have := HRM.out; have := HRL.out; (try simp only [zS]); omega⟩ HO.out hX); dsimp only [Res.then] at hr
    clear hX; have HR := zh hr; clear hr; go_wp2_with fail
    refine HC46.out.mono ?_; rintro e w43 ⟨rfl, fp44, h1, h2⟩; obtain ⟨n47, hn⟩ : ∃ n, n = nr ns acc t37 := ⟨_, rfl⟩; rw [← hn]; have HN48 := zh hn; have HS45 := zh (show St K w p j38 o sn ns fp (acc ++ [t37]) w43 fp44 from h1); have HV49 := zh (HV36.out.to h2); clear h1 h2 hn; have hr := HR.out; clear HR; have HKB59 := zh (show rl ≤ 900000 by have h9 := HKR.out; have h8 := ptsS_len acc; have h7 := (show ns.length + ptsS (acc ++ [t37]) + 4 * (K.T.length - j38) ≤ 900000 from by have := HRM.out; have := HRL.out; have := HF40.out; (try simp only [zS]); omega); (try simp only [ptsS_append, List.length_append] at h7 h8 h9); omega)
    try unfold natV
    have HR := zh hr; clear hr; go_wp2_with (at_builtin; (refine wpList_push (n := n47) rfl _ _ rfl HS45.out HV49.out (by rw [roots_len]; exact HKR.out) HKB59.out (B := w.heap.size) znr HS45.out.pt.fr.size HGR.out rfl rfl rfl ?_); intro g50 cap51 w52 h1 h2 h3 h4; skip; have HS55 := zh h1; have HV53 := zh h2; have HGO54 := zh h3; clear h1 h2 h3 h4)
    obtain ⟨k57, hk2⟩ : ∃ k, k = rl + 1 := ⟨_, rfl⟩; have HK58 := zh (show k57 = (acc ++ [t37]).length by rw [hk2, HKR.out]; simp); have HV60 := zh (show Ints w52 p fp44 (.slice (some ⟨g50, 0, none⟩) k57 cap51) (roots ns.length (acc ++ [t37])) by rw [roots_more, ← HN48.out, hk2]; exact HV53.out); rw [← hk2] at HGO54
    try rw [← hk2]
    clear hk2; have hr := HR.out; clear HR; unfold token at hr; by_cases hk : (tk K.T j38).kind = 0
    ·rw [if_pos hk] at hr
     dsimp only at hr
     have HC66 := zh (token_ok HS55.out.pa HF40.out.1 0 hk); clear hk; have HR := zh hr; clear hr; go_wp2_with fail
     refine HC66.out.mono ?_; rintro e w64 ⟨rfl, h1, h2⟩; have HS65 := zh (HS55.out.step h1 h2); have HV67 := zh (HV60.out.to h2); clear h1 h2; have hr := HR.out; clear HR; have HRR := zh (show Res.ok _ _ = r from Option.some.inj hr); clear hr; have HSZ := zh (show ns.length + ptsS (acc ++ [t37]) ≤ 900000 by have h7 := (show ns.length + ptsS (acc ++ [t37]) + 4 * (K.T.length - j38) ≤ 900000 from by have := HRM.out; have := HRL.out; have := HF40.out; (try simp only [zS]); omega); omega); have HC68 := zh (lay_row HS65.out HSZ.out 1 ⟨#[]⟩ 0 HV67.out); unfold natV at HC68; go_wp2_with fail
     refine HC68.out.mono ?_; rintro e w69 ⟨rfl, fp70, h1, h2⟩; clear HC68; rw [HNS.out] at h1; obtain ⟨t, ht⟩ : ∃ t, t = PT.mk 1 ⟨#[]⟩ 0 (acc ++ [t37]) := ⟨_, rfl⟩; rw [← ht] at h1; have HRR := zh (show Res.ok t (j38 + 1) = r by rw [ht]; exact HRR.out); obtain ⟨A9, c9, l, g1, g2, g3, g4, g5⟩ := pa_nodes h1; rw [show ([] : List Nd) ++ flat ([] : List Nd).length t = flat 0 t from rfl] at g1 g2; rw [flat_len] at g2; have HBW := zh (show Below p w w69 from h2.below HP0.out); have HGN := zh (And.intro g1 (And.intro g2 g4)); have HMEM := zh (And.intro g3 g5); clear h1 h2 g1 g2 g4 ht; obtain ⟨N, hN⟩ : ∃ N, N = l.length := ⟨_, rfl⟩; rw [← hN] at g3; have HNL := zh hN; clear hN; by_cases hbig : 50000 < N
     ·have hq : (50000 : Int) < (N : Int) := by omega
      have HBG := zh (show 50000 < ptS t by rw [← HGN.out.2.1, ← HNL.out]; exact hbig); clear hbig; go_wp2
      exact ⟨rfl, by rw [← HRR.out]; exact ⟨HBW.out, by rw [if_pos HBG.out]; rfl⟩⟩
     ·have hq : ¬ (50000 : Int) < (N : Int) := by omega
      have HBG := zh (show ¬ 50000 < ptS t by rw [← HGN.out.2.1, ← HNL.out]; exact hbig); have hD := deepF_tree t; rw [← HGN.out.1] at hD; have htd := tdeep_any c9 HGN.out.2.2.here hD (by rw [← HNL.out]; omega) (by rw [HGN.out.2.1]; exact ptS_pos t) (fun x hx => by
       have h9 := kids_few t (x := x.nd) (by rw [← HGN.out.1]; exact List.mem_map.2 ⟨x, hx, rfl⟩); have := HBG.out
       omega)
      rw [HGN.out.2.1, deepF_last t, ← HGN.out.2.1, ← HNL.out] at htd; have HTD := zh htd; clear hbig hD htd; go_wp2_with fail
      refine HTD.out.mono ?_; rintro e wd ⟨rfl, h2⟩; have HB9 := zh h2; have HBP := zh (HBW.out.trans (h2.mono (Nat.le_of_lt HMEM.out.2))); clear h2 g3 g5; have z2 := (HB9.out.cell (p := ⟨p, 2, none⟩) HMEM.out.2).trans HMEM.out.1; rw [← HNL.out] at z2; have zl : p < wd.heap.size := Nat.lt_of_lt_of_le HMEM.out.2 HB9.out.size; by_cases hdp : 200 < deepT t
      ·have hq2 : (200 : Int) < (deepT t : Int) := by omega
       have HDP := zh hdp; clear hdp; go_wp2
       exact ⟨rfl, by rw [← HRR.out]; exact ⟨HBP.out, by rw [if_neg HBG.out, if_pos HDP.out]; rfl⟩⟩
      ·have hq2 : ¬ (200 : Int) < (deepT t : Int) := by omega
       have HDP := zh hdp; clear hdp; go_wp2
       go_ret
       exact (by rw [← HRR.out]; exact ⟨HBP.out, by rw [if_neg HBG.out, if_neg HDP.out]; exact ⟨A9, c9, l, by rw [← HNL.out]; rfl, HGN.out.1, HGN.out.2.2.below HB9.out⟩⟩)
    ·rw [if_neg hk] at hr
     have HRR61 := zh (show Res.bad _ _ = r from (by exact Option.some.inj hr)); have HC63 := zh ((token_no HS55.out.pa HF40.out.1 0 hk).mono fun e w' hh => (show OutB w p _ 70 e w' from ⟨hh.1, HS55.out.bad HB.out hh.2⟩)); clear hr hk; go_wp2_with fail
     refine HC63.out.mono ?_; rintro e wb ⟨rfl, hb⟩; have HB62 := zh hb; clear hb; unfold wrongP; go_wp2
     exact ⟨rfl, by rw [← HRR61.out]; exact ⟨rfl, HB62.out⟩⟩
end Go.Proofs.YthobobmbileekaaGreatDoor
namespace Go.Proofs.YthobobmbileekaaGreatDoor

theorem tokenL_err {l : List UInt8} {er : Nat} (h : tokenL l = .inl er) : er = 50 ∨ er = 51 ∨ er = 52 := by
 match l with
 | [] => simp [tokenL] at h; omega
 | c :: r =>
  rw [tokenL] at h
  split at h
  ·simp only at h
   split at h
   ·simp at h
   ·split at h
    ·simp at h; omega
    ·simp at h
  ·split at h
   ·split at h
    ·simp at h; omega
    ·simp at h
   ·split at h
    ·simp at h; omega
    ·simp at h
theorem scanF_err : ∀ (f : Nat) (l : List UInt8) (p : Nat) (acc : List Tok) (q er : Nat), scanF f l p acc = .inl (q, er) → (er = 50 ∨ er = 51 ∨ er = 52) ∧ p ≤ q ∧ q < p + l.length
 | 0, l, p, acc, q, er, h => by simp [scanF] at h
 | f + 1, l, p, acc, q, er, h => by
  rw [scanF] at h; by_cases hl : l = []
  ·rw [if_pos hl] at h; simp at h
  ·rw [if_neg hl] at h
   have h0 : 0 < l.length := List.length_pos_iff.2 hl
   match ht : tokenL l with
   | .inl e =>
    rw [ht] at h; simp only [Sum.inl.injEq, Prod.mk.injEq] at h
    obtain ⟨rfl, rfl⟩ := h; exact ⟨tokenL_err ht, znr, by omega⟩
   | .inr (k, x, v, n) =>
    rw [ht] at h; have h1 := tokenL_len ht; have h2 := blankL_le (l.drop n) false; have h3 := scanF_err f _ _ _ q er h; rw [List.length_drop] at h2 h3; exact ⟨h3.1, by omega, by omega⟩
theorem scanL_err {L : List UInt8} {q er : Nat} (h : scanL L = .inl (q, er)) : (er = 50 ∨ er = 51 ∨ er = 52) ∧ q < L.length := by
 unfold scanL scanAt at h
 have h1 := scanF_err _ _ _ _ q er h
 have h2 := blankL_le L false
 rw [List.length_drop] at h1
 exact ⟨h1.1, by omega⟩
end Go.Proofs.YthobobmbileekaaGreatDoor
namespace Go.Proofs.YthobobmbileekaaGreatDoor
open Go.ChangeShapes Go.WideShapes Go.ChangeAt Go.RowKit Go.Maps

theorem prec_idle (x y z : Nat) (w : World) :
  CallsD Tryz.prog 10 #[.pointer (some ⟨x, 0, none⟩), .pointer (some ⟨y, 0, none⟩), .pointer (some ⟨z, 0, none⟩)] .returning w fun e u' w' =>
   e = .returned (.tuple #[]) ∧ u' = .returning ∧ w = w' := by
 refine callsD_of_wpS Tryz.func10 rfl fun c₀ cs hu => ?_
 apply wpS_seq
 apply wpS_region
 simp [wpOpsS, go_sem, recoverD, hu, Tryz.ntmps10, Exit.thenS, Array.replicate, List.replicate]
 refine wpS_of_wp ?_
 go_wp2
 simp [bodyPostS, results, Tryz.results10]
 cases c₀; cases hu; rfl
theorem prec_panic (g : Nat) (v : Value) (x y a n : Int) (w : World) (h0 : w.heap[g]? = some (.cells #[v] 23 (0, 0))) (h1 : w.heap[g + 1]? = some (.cells #[.int .i64 x] 3 (0, 0))) (h2 : w.heap[g + 2]? = some (.cells #[.int .i64 y] 24 (0, 0))) :
  CallsD Tryz.prog 10 #[.pointer (some ⟨g, 0, none⟩), .pointer (some ⟨g + 1, 0, none⟩), .pointer (some ⟨g + 2, 0, none⟩)] (.panicking ({ v := .iface 40 (.agg #[.int .i64 a, .int .i64 n]), recovered := false } :: [])) w fun e u' w' =>
   e = .returned (.tuple #[]) ∧ u' = .panicking ({ v := .iface 40 (.agg #[.int .i64 a, .int .i64 n]), recovered := true } :: []) ∧ w'.heap[g]? = some (.cells #[.slice none 0 0] 23 (0, 0)) ∧ w'.heap[g + 1]? = some (.cells #[.int .i64 a] 3 (0, 0)) ∧ w'.heap[g + 2]? = some (.cells #[.int .i64 n] 24 (0, 0)) ∧ Fr [g, g + 1, g + 2] w w' := by
 have hta : ∀ w, (Instr.typeAssert (.iface 40 (.agg #[.int .i64 a, .int .i64 n])) 20 40 true).run Tryz.prog w = .ok (.tuple #[.agg #[.int .i64 a, .int .i64 n], .bool true]) w := fun w => by kernel_rfl
 have H0 := zh h0
 have H1 := zh h1
 have H2 := zh h2
 clear h0 h1 h2
 refine callsD_of_wpS Tryz.func10 rfl fun c₀ cs hu => ?_
 apply wpS_seq
 apply wpS_region
 simp [wpOpsS, go_sem, recoverD, hu, Tryz.ntmps10, Exit.thenS, Array.replicate, List.replicate]
 refine wpS_of_wp ?_
 go_wp2
 refine gen_wpT fun W hW => ?_
 have k0 : W.heap[g]? = some (.cells #[v] 23 (0, 0)) := by rw [← hW]; exact blk_alloc H0.out _
 have k1 : W.heap[g + 1]? = some (.cells #[.int .i64 x] 3 (0, 0)) := by rw [← hW]; exact blk_alloc H1.out _
 have k2 : W.heap[g + 2]? = some (.cells #[.int .i64 y] 24 (0, 0)) := by rw [← hW]; exact blk_alloc H2.out _
 have kT : W.heap[w.heap.size]? = some (.cells #[.int .i64 a, .int .i64 n] 40 (0, 0)) := by rw [← hW]; exact heap_new_at _ _ _ rfl
 have kW : Fr [g, g + 1, g + 2] w W := by rw [← hW]; exact (Fr.refl _ _).alloc _
 clear hW
 have t0 : W.cell? ⟨w.heap.size, 0, none⟩ = some (.int .i64 a) := cell_of_blk kT rfl
 have t1 : W.cell? ⟨w.heap.size, 1, none⟩ = some (.int .i64 n) := cell_of_blk kT rfl
 have v0 : W.cell? ⟨g, 0, none⟩ = some v := cell_of_blk k0 rfl
 have v1 : W.cell? ⟨g + 1, 0, none⟩ = some (.int .i64 x) := cell_of_blk k1 rfl
 have v2 : W.cell? ⟨g + 2, 0, none⟩ = some (.int .i64 y) := cell_of_blk k2 rfl
 have f0 : W.frozen? ⟨g, 0, none⟩ = false := free_of_blk k0
 have f1 : W.frozen? ⟨g + 1, 0, none⟩ = false := free_of_blk k1
 have f2 : W.frozen? ⟨g + 2, 0, none⟩ = false := free_of_blk k2
 have l0 := blk_lt H0.out
 have l1 := blk_lt H1.out
 have l2 := blk_lt H2.out
 have lT := blk_lt kT
 have hn0 : w.heap.size ≠ g := by omega
 have hn1 : w.heap.size ≠ g + 1 := by omega
 have hn2 : w.heap.size ≠ g + 2 := by omega
 have K0 := zh k0
 have K1 := zh k1
 have K2 := zh k2
 have KW := zh kW
 clear k0 k1 k2 kT kW
 go_region
 have hR : ((((W.setCell ⟨g, 0, none⟩ (.slice none 0 0)).setCell ⟨g + 1, 0, none⟩ (.int .i64 a)).setCell ⟨g + 2, 0, none⟩ (.int .i64 n)).drew).heap[g]? = some (.cells #[.slice none 0 0] 23 (0, 0)) ∧ ((((W.setCell ⟨g, 0, none⟩ (.slice none 0 0)).setCell ⟨g + 1, 0, none⟩ (.int .i64 a)).setCell ⟨g + 2, 0, none⟩ (.int .i64 n)).drew).heap[g + 1]? = some (.cells #[.int .i64 a] 3 (0, 0)) ∧ ((((W.setCell ⟨g, 0, none⟩ (.slice none 0 0)).setCell ⟨g + 1, 0, none⟩ (.int .i64 a)).setCell ⟨g + 2, 0, none⟩ (.int .i64 n)).drew).heap[g + 2]? = some (.cells #[.int .i64 n] 24 (0, 0)) ∧ Fr [g, g + 1, g + 2] w ((((W.setCell ⟨g, 0, none⟩ (.slice none 0 0)).setCell ⟨g + 1, 0, none⟩ (.int .i64 a)).setCell ⟨g + 2, 0, none⟩ (.int .i64 n)).drew) :=
  ⟨blk_drew (blk_far (blk_far (blk_set (i := 0) K0.out _) (by simp) _) (by simp) _), blk_drew (blk_far (blk_set (i := 0) (blk_far K1.out (by simp) _) _) (by simp) _), blk_drew (blk_set (i := 0) (blk_far (blk_far K2.out (by simp) _) (by simp) _) _), (((KW.out.set _ (.inl (by simp))).set _ (.inl (by simp))).set _ (.inl (by simp))).drew⟩
 have HR := zh hR
 clear hR
 change bodyPostS Tryz.prog Tryz.f10 _ _ _ _ _ _ _
 simp [bodyPostS, results, Tryz.results10]
 first | exact HR.out | exact ⟨_, by cases c₀; cases hu; rfl, rfl, HR.out⟩
def RMap (D : DataW Unit) (f : ByteArray → Int) : Prop := ∀ s : ByteArray, D.atKey (.string s.data.toList) (.lit (.int .i64 0)) = .lit (.int .i64 (f s))
theorem rmap_nil : RMap (.map []) (fun _ => 0) := fun s => rfl
theorem rmap_put {D : DataW Unit} {f : ByteArray → Int} (h : RMap D f) (hD : Maps.IsMap D) (x : ByteArray) (v : Int) : RMap (D.put (.string x.data.toList) (.lit (.int .i64 v))) (fun s => if s = x then v else f s) := by
 intro s
 by_cases e : s = x
 ·subst e
  rw [Maps.atKey_put_same hD (show WideAt.IsKeyLit (.string s.data.toList) from trivial)]; dsimp only
  rw [if_pos rfl]
 ·have hne : Lit.string s.data.toList ≠ Lit.string x.data.toList := fun k => e (ByteArray.ext (Array.toList_inj.1 (by injection k)))
  rw [Maps.atKey_put_other hne, h s]; dsimp only
  rw [if_neg e]
theorem map_put {w : World} {mb n : Nat} {D : DataW Unit} {f : ByteArray → Int} (h : w.ownsMap Tryz.prog 9 (plainElem Tryz.prog 3) mb n D) (hf : RMap D f) (hn : n < maxLen) (s : ByteArray) (hs : s.size ≤ maxLen) (v : Int) (hv : (Lit.int .i64 v).wf = true) :
  ∃ w' D', (Instr.mapUpdate 42 (.map (some mb)) (.string s) (.int .i64 v)).run Tryz.prog w = .ok () w' ∧ w'.ownsMap Tryz.prog 9 (plainElem Tryz.prog 3) mb (n + 1) D' ∧ RMap D' (fun x => if x = s then v else f x) ∧ w.grownBy w' (some mb) := by
 obtain ⟨w', h1, h2, h3⟩ := h.update lawS Tryz.underlying42 hn (name_key hs) (plainElem_int (H := Unit) Tryz.underlying3 hv)
 exact ⟨w', _, h1, h2, rmap_put hf h.isMap s v, h3⟩
def rk0 : ByteArray → Int := fun _ => 0
def rk1 : ByteArray → Int := fun s => if s = ⟨#[111, 114]⟩ then 1 else rk0 s
def rk2 : ByteArray → Int := fun s => if s = ⟨#[97, 110, 100]⟩ then 2 else rk1 s
def rk3 : ByteArray → Int := fun s => if s = ⟨#[46, 46]⟩ then 4 else rk2 s
def rk4 : ByteArray → Int := fun s => if s = ⟨#[43]⟩ then 5 else rk3 s
def rk5 : ByteArray → Int := fun s => if s = ⟨#[45]⟩ then 5 else rk4 s
def rk6 : ByteArray → Int := fun s => if s = ⟨#[42]⟩ then 6 else rk5 s
def rk7 : ByteArray → Int := fun s => if s = ⟨#[47, 47]⟩ then 6 else rk6 s
def rk8 : ByteArray → Int := fun s => if s = ⟨#[37]⟩ then 6 else rk7 s
def cmps : List ByteArray := [⟨#[61, 61]⟩, ⟨#[126, 61]⟩, ⟨#[60]⟩, ⟨#[60, 61]⟩, ⟨#[62]⟩, ⟨#[62, 61]⟩]
def rkL : Nat → ByteArray → Int
 | 0 => rk8
 | k + 1 => fun s => if s = (cmps[k]?).getD ⟨#[]⟩ then 3 else rkL k s
theorem rk_all (s : ByteArray) : rkL 6 s = (rankL s : Int) := by
 unfold rankL inB
 simp only [rkL, cmps, rk8, rk7, rk6, rk5, rk4, rk3, rk2, rk1, rk0, List.getElem?_cons_succ, List.getElem?_cons_zero, Option.getD_some, List.any_cons, List.any_nil, Bool.or_false, Bool.or_eq_true, decide_eq_true_eq]
 by_cases h0 : s = ⟨#[111, 114]⟩
 ·subst h0; decide
 by_cases h1 : s = ⟨#[97, 110, 100]⟩
 ·subst h1; decide
 by_cases h2 : s = ⟨#[46, 46]⟩
 ·subst h2; decide
 by_cases h3 : s = ⟨#[43]⟩
 ·subst h3; decide
 by_cases h4 : s = ⟨#[45]⟩
 ·subst h4; decide
 by_cases h5 : s = ⟨#[42]⟩
 ·subst h5; decide
 by_cases h6 : s = ⟨#[47, 47]⟩
 ·subst h6; decide
 by_cases h7 : s = ⟨#[37]⟩
 ·subst h7; decide
 by_cases h8 : s = ⟨#[61, 61]⟩
 ·subst h8; decide
 by_cases h9 : s = ⟨#[126, 61]⟩
 ·subst h9; decide
 by_cases h10 : s = ⟨#[60]⟩
 ·subst h10; decide
 by_cases h11 : s = ⟨#[60, 61]⟩
 ·subst h11; decide
 by_cases h12 : s = ⟨#[62]⟩
 ·subst h12; decide
 by_cases h13 : s = ⟨#[62, 61]⟩
 ·subst h13; decide
 simp only [h0, h1, h2, h3, h4, h5, h6, h7, h8, h9, h10, h11, h12, h13, false_or, or_false, if_false]
 rfl
theorem Reads.set1 {w : World} {B b : Nat} {A : Option Addr} {xs : List Value} {v u : Value} {T : TypeId} {fr : Nat × Nat} (h : Reads w B A xs) (hx : 2 ≤ xs.length) (hb : w.heap[b]? = some (.cells #[v] T fr)) : Reads (w.setCell ⟨b, 0, none⟩ u) B A xs := by
 rcases h with h | ⟨ad, h1, h2, h3⟩
 ·rw [h] at hx; simp at hx
 have hne : ad.block ≠ b := fun e => by
  have h4 := h3 1 xs[1] (List.getElem?_eq_getElem hx); have e1 : ad.add 1 = ⟨ad.block, ad.off + 1, none⟩ := rfl; rw [e1, e] at h4; simp [World.cell?, hb] at h4
 refine .inr ⟨ad, h1, h2, fun j u' hu => ?_⟩
 rw [← h3 j u' hu]
 unfold World.cell?
 rw [block_add', Below.heap_setCell _ _ _ _ hne]
def ParseOut (s : ByteArray) (w : World) (e : Ending) (w' : World) : Prop := Below w.heap.size w w' ∧
 match parseL s.data.toList with
 | .inl (p, er) => p ≤ s.size ∧ er ≠ 0 ∧ e = .returned (.tuple #[.slice none 0 0, .int .i64 (p : Int), .int .i64 (er : Int)])
 | .inr t => ∃ A c l, e = .returned (.tuple #[.slice A l.length c, .int .i64 0, .int .i64 0]) ∧ l.map NdM.nd = flat 0 t ∧ NodesR w' w'.heap.size A l
def parseR : Res PT → (Nat × Nat) ⊕ PT
 | .bad a e => .inl (a, e)
 | .ok t _ => if 50000 < ptS t then .inl (0, 2) else if 200 < deepT t then .inl (0, 61) else .inr t
theorem parseL_of {L : List UInt8} {T : List Tok} {r : Res PT} (h : scanL L = .inr T) (hX : progF T (roundsF T) = some r) : parseL L = parseR r := by
 unfold parseL
 rw [h]
 simp only
 rw [hX]
 cases r <;> rfl
def ParseW (w : World) : Prop := SpW w ∧ (∃ m, MaxC w m) ∧ Tab w
theorem ParseW.below {w w' : World} (h : ParseW w) (hb : Below w.heap.size w w') : ParseW w' := ⟨h.1.below hb, h.2.1.imp fun m hm => hm.below hb, h.2.2.below hb⟩
theorem below_blk' {B : Nat} {w w' : World} {b : Nat} {ob : Obj} (hb : Below B w w') (h : w.heap[b]? = some ob) (hl : b < B) : w'.heap[b]? = some ob := (hb.block b hl).trans h
theorem tab_glt {w : World} (h : Tab w) : 2 < w.heap.size := by
 unfold Tab Lib.TabIs World.var? at h
 rw [g_pow10] at h
 simp only [Option.bind_some] at h
 cases hb : w.heap[2]? with
 | none => rw [hb] at h; simp at h
 | some ob => exact blk_lt hb
theorem parse_any (s : ByteArray) (hs : s.size ≤ 5000) (w : World) (hw : ParseW w) : Calls Tryz.prog 6 #[.string s] w (ParseOut s w) := by
 obtain ⟨hsp, ⟨m, hm⟩, htab⟩ := hw
 have HSP := zh hsp
 have HM := zh hm
 have HT := zh htab
 clear hsp hm htab
 have hmf : ∀ (fn : Fn) (first cap : Array Value) (w : World), (Instr.makeFunc fn first cap).run Tryz.prog w = .ok (.func fn first cap) w := fun _ _ _ _ => rfl
 obtain ⟨b0, hb0⟩ : ∃ b, b = w.heap.size := ⟨_, rfl⟩
 obtain ⟨W, hW⟩ : ∃ W, W = ((w.alloc (.cells #[.slice none 0 0] 23)).alloc (.cells #[.int .i64 0] 3)).alloc (.cells #[.int .i64 0] 24) := ⟨_, rfl⟩
 have K0 := zh (show W.heap[b0]? = some (.cells #[.slice none 0 0] 23 (0, 0)) by rw [hW, hb0]; exact blk_alloc (blk_alloc (heap_new_at _ _ _ rfl) _) _)
 have K1 := zh (show W.heap[b0 + 1]? = some (.cells #[.int .i64 0] 3 (0, 0)) by rw [hW, hb0]; exact blk_alloc (heap_new_at _ _ _ (by simp)) _)
 have K2 := zh (show W.heap[b0 + 2]? = some (.cells #[.int .i64 0] 24 (0, 0)) by rw [hW, hb0]; exact heap_new_at _ _ _ (by simp))
 have KB := zh (show Below w.heap.size w W by rw [hW]; exact ((zbr.alloc znr _).alloc (by simp) _).alloc (by simp; omega) _)
 have HB0 := zh hb0
 have HWW := zh hW
 clear hW
 go_enter_defers Tryz.func6, Tryz.ntmps6
 go_wp2_with fail
 rw [← hb0, ← HWW.out]
 refine (scan_any s m W (HSP.out.below KB.out) (HM.out.below KB.out)).mono ?_
 rintro e w1 ⟨hB1, h1⟩
 have H1 := zh hB1
 have K0a := zh (below_blk hB1 K0.out)
 have K1a := zh (below_blk hB1 K1.out)
 have K2a := zh (below_blk hB1 K2.out)
 have KBa := zh (KB.out.trans (hB1.mono KB.out.size))
 clear hB1 hb0
 rcases h1 with ⟨h1, -⟩ | ⟨-, p, er, h1, rfl⟩ | ⟨-, toks, A, c, h1, rfl, h2, h3, h4⟩
 ·omega
 ·have v0 := zc 0 K0a.out rfl
  have v1 := zc 0 K1a.out rfl; have v2 := zc 0 K2a.out rfl; have f1 : w1.frozen? ⟨b0 + 1, 0, none⟩ = false := free_of_blk K1a.out; have f2 : w1.frozen? ⟨b0 + 1 + 1, 0, none⟩ = false := free_of_blk K2a.out; have l0 := blk_lt K0a.out; have l1 := blk_lt K1a.out; have l2 : b0 + 1 + 1 < w1.heap.size := blk_lt K2a.out; have hsc := scanL_err h1; have hsl : s.data.toList.length = s.size := by simp
  have HPL := zh (show parseL s.data.toList = .inl (p, er) by unfold parseL; rw [h1]); have HPE := zh (show p ≤ s.size ∧ er ≠ 0 by have := hsc.1; have := hsc.2; omega); have hne : ((er : Int) != 0) = true := bne_iff_ne.2 (by have := HPE.out.2; omega); clear h1 hsc hsl
  go_upto_region 2 with fail
  refine gen_wpT fun W2 hW2 => ?_; have J0 := zh (show W2.heap[b0]? = some (.cells #[.slice none 0 0] 23 (0, 0)) by rw [← hW2]; exact blk_far (blk_far K0a.out (by simp) _) (by simp <;> omega) _); have J1 := zh (show W2.heap[b0 + 1]? = some (.cells #[.int .i64 (p : Int)] 3 (0, 0)) by rw [← hW2]; exact blk_far (blk_set (i := 0) K1a.out _) (by simp) _); have J2 := zh (show W2.heap[b0 + 1 + 1]? = some (.cells #[.int .i64 (er : Int)] 24 (0, 0)) by rw [← hW2]; exact blk_set (i := 0) (blk_far K2a.out (by simp) _) _); have JB := zh (show Below w.heap.size w W2 by rw [← hW2]; exact (KBa.out.setCell (by rw [← HB0.out]; simp) _).setCell (by rw [← HB0.out]; simp; omega) _); clear hW2 v0 v1 v2 f1 f2 l0 l1 l2; have v0 := zc 0 J0.out rfl; have v1 := zc 0 J1.out rfl; have v2 := zc 0 J2.out rfl; have f0 : W2.frozen? ⟨b0, 0, none⟩ = false := free_of_blk J0.out; have f1 : W2.frozen? ⟨b0 + 1, 0, none⟩ = false := free_of_blk J1.out; have f2 : W2.frozen? ⟨b0 + 1 + 1, 0, none⟩ = false := free_of_blk J2.out; have l0 := blk_lt J0.out; have l1 := blk_lt J1.out; have l2 : b0 + 1 + 1 < W2.heap.size := blk_lt J2.out
  go_upto_region 3 with fail
  go_region
  refine gen_K (P := Exit.then _ _ _ _) fun W3 hW3 => ?_; have I0 := zh (show W3.heap[b0]? = some (.cells #[.slice none 0 0] 23 (0, 0)) by rw [← hW3]; exact blk_drew (blk_far (blk_far (blk_set (i := 0) J0.out _) (by simp) _) (by simp <;> omega) _)); have I1 := zh (show W3.heap[b0 + 1]? = some (.cells #[.int .i64 (p : Int)] 3 (0, 0)) by rw [← hW3]; exact blk_drew (blk_far (blk_set (i := 0) (blk_far J1.out (by simp) _) _) (by simp) _)); have I2 := zh (show W3.heap[b0 + 1 + 1]? = some (.cells #[.int .i64 (er : Int)] 24 (0, 0)) by rw [← hW3]; exact blk_drew (blk_set (i := 0) (blk_far (blk_far J2.out (by simp <;> omega) _) (by simp) _) _)); have HFIN := zh (show ParseOut s w (.returned (.tuple #[.slice none 0 0, .int .i64 (p : Int), .int .i64 (er : Int)])) W3 from ⟨by rw [← hW3]; exact (((JB.out.setCell (by rw [← HB0.out]; exact znr) _).setCell (by rw [← HB0.out]; simp) _).setCell (by rw [← HB0.out]; simp; omega) _).drew, by rw [HPL.out]; exact ⟨HPE.out.1, HPE.out.2, rfl⟩⟩); clear hW3 v0 v1 v2 f0 f1 f2 l0 l1 l2; have j0 := zc 0 I0.out rfl; have j1 := zc 0 I1.out rfl; have j2 := zc 0 I2.out rfl; go_wp2
  simp [bodyPostD, Leaves, settle, results, Tryz.results6, go_sem, j0, j1, j2]
  exact HFIN.out
 ·have v0 := zc 0 K0a.out rfl
  have v1 := zc 0 K1a.out rfl; have v2 := zc 0 K2a.out rfl; have f1 : w1.frozen? ⟨b0 + 1, 0, none⟩ = false := free_of_blk K1a.out; have f2 : w1.frozen? ⟨b0 + 1 + 1, 0, none⟩ = false := free_of_blk K2a.out; have l0 := blk_lt K0a.out; have l1 := blk_lt K1a.out; have l2 : b0 + 1 + 1 < w1.heap.size := blk_lt K2a.out; have HTK := zh (scan_tok h1); have HSC := zh h1; have hne := HTK.out.1.len; have hxs : 2 ≤ (toks.flatMap tkEnc).length := by
   cases toks with
   | nil => exact absurd hne (by simp)
   | cons t0 r0 => rw [List.flatMap_cons, List.length_append, tkEnc_len]; omega
  have HRD := zh (show Reads ((w1.setCell ⟨b0 + 1, 0, none⟩ (.int .i64 0)).setCell ⟨b0 + 1 + 1, 0, none⟩ (.int .i64 0)) w1.heap.size A (toks.flatMap tkEnc) from (h2.set1 hxs K1a.out).set1 hxs (blk_far K2a.out (by simp) _)); clear hne hxs; have HLN := zh h4; clear h1 h2 h3 h4
  go_upto_region 2 with fail
  refine gen_wpT fun W2 hW2 => ?_; have J0 := zh (show W2.heap[b0]? = some (.cells #[.slice none 0 0] 23 (0, 0)) by rw [← hW2]; exact blk_far (blk_far K0a.out (by simp) _) (by simp <;> omega) _); have J1 := zh (show W2.heap[b0 + 1]? = some (.cells #[.int .i64 0] 3 (0, 0)) by rw [← hW2]; exact blk_far (blk_set (i := 0) K1a.out _) (by simp) _); have J2 := zh (show W2.heap[b0 + 1 + 1]? = some (.cells #[.int .i64 0] 24 (0, 0)) by rw [← hW2]; exact blk_set (i := 0) (blk_far K2a.out (by simp) _) _); have JB := zh (show Below w.heap.size w W2 by rw [← hW2]; exact (KBa.out.setCell (by rw [← HB0.out]; simp) _).setCell (by rw [← HB0.out]; simp; omega) _); have HRW := zh (show Reads W2 W2.heap.size A (toks.flatMap tkEnc) by rw [← hW2]; exact HRD.out.up (by simp)); clear hW2 v0 v1 v2 f1 f2 l0 l1 l2; have v2 := zc 0 J2.out rfl; have l2 : b0 + 1 + 1 < W2.heap.size := blk_lt J2.out
  go_upto_region 5 with fail
  have hmm := @run_makeMap Tryz.prog; obtain ⟨mb, hmb⟩ : ∃ b, b = W2.heap.size := ⟨_, rfl⟩; have m0 := World.ownsMap_made (H := Unit) W2 Tryz.prog 9 (plainElem Tryz.prog 3); have q0 := rmap_nil; have HMB := zh hmb; clear hmb; obtain ⟨x1, D1, r1, m1, q1, g1⟩ := map_put m0 q0 (by unfold maxLen; omega) ⟨#[111, 114]⟩ (by unfold maxLen; decide) 1 (by decide); obtain ⟨x2, D2, r2, m2, q2, g2⟩ := map_put m1 q1 (by unfold maxLen; omega) ⟨#[97, 110, 100]⟩ (by unfold maxLen; decide) 2 (by decide); obtain ⟨x3, D3, r3, m3, q3, g3⟩ := map_put m2 q2 (by unfold maxLen; omega) ⟨#[46, 46]⟩ (by unfold maxLen; decide) 4 (by decide); obtain ⟨x4, D4, r4, m4, q4, g4⟩ := map_put m3 q3 (by unfold maxLen; omega) ⟨#[43]⟩ (by unfold maxLen; decide) 5 (by decide); obtain ⟨x5, D5, r5, m5, q5, g5⟩ := map_put m4 q4 (by unfold maxLen; omega) ⟨#[45]⟩ (by unfold maxLen; decide) 5 (by decide); obtain ⟨x6, D6, r6, m6, q6, g6⟩ := map_put m5 q5 (by unfold maxLen; omega) ⟨#[42]⟩ (by unfold maxLen; decide) 6 (by decide); obtain ⟨x7, D7, r7, m7, q7, g7⟩ := map_put m6 q6 (by unfold maxLen; omega) ⟨#[47, 47]⟩ (by unfold maxLen; decide) 6 (by decide); obtain ⟨x8, D8, r8, m8, q8, g8⟩ := map_put m7 q7 (by unfold maxLen; omega) ⟨#[37]⟩ (by unfold maxLen; decide) 6 (by decide)
  go_upto_region 6 with fail
  have mbw : w.heap.size ≤ W2.heap.size := JB.out.size; have hFR : Fr [mb] W2 x8 := by
   have e0 : ∀ g, some W2.heap.size = some g → g ∈ [mb] ∨ W2.heap.size ≤ g := fun g e => .inr (Nat.le_of_eq (Option.some.inj e)); exact (((((((((Fr.refl [mb] W2).alloc _).grown g1 e0).grown g2 e0).grown g3 e0).grown g4 e0).grown g5 e0).grown g6 e0).grown g7 e0).grown g8 e0
  rw [← HMB.out] at m8 mbw ⊢; have HM8 := zh m8; have HQ8 := zh (show RMap D8 (rkL 0) from q8); have HMW := zh (show w.heap.size ≤ mb from mbw); have hbm : ∀ b ob, W2.heap[b]? = some ob → b ∉ [mb] := fun b ob hb e => by have := blk_lt hb; rw [List.mem_singleton.1 e, HMB.out] at this; exact Nat.lt_irrefl _ this
  have I0 := zh (hFR.blk J0.out (hbm _ _ J0.out)); have I1 := zh (hFR.blk J1.out (hbm _ _ J1.out)); have I2 := zh (hFR.blk J2.out (hbm _ _ J2.out)); have HB8 := zh (show Below w.heap.size w x8 from JB.out.trans (hFR.to_below JB.out.size (fun b hb => by rw [List.mem_singleton.1 hb]; exact mbw))); have HF8 := zh (show Fr [mb] W2 x8 from hFR); clear hmm r1 r2 r3 r4 r5 r6 r7 r8 m0 m1 m2 m3 m4 m5 m6 m7 m8 q0 q1 q2 q3 q4 q5 q6 q7 q8 g1 g2 g3 g4 g5 g6 g7 g8 hFR hbm mbw v2 l2; go_wp2_with fail
  go_loopw [26] (fun i wr => ∃ (k : Nat) (D9 : DataW Unit), k ≤ 6 ∧ i = .int .i64 (k : Int) ∧ Hid (Fr [mb] x8 wr) ∧ Hid (wr.heap[x8.heap.size]? = some (.cells (cmps.map Value.string).toArray 9 (0, 0))) ∧ wr.ownsMap Tryz.prog 9 (plainElem Tryz.prog 3) mb (8 + k) D9 ∧ Hid (RMap D9 (rkL k))) (fun i wr => 6 - (intOf i).toNat)
  case atStart => exact ⟨0, D8, by omega, rfl, zh ((Fr.refl _ _).alloc _), zh (heap_new_at _ _ _ rfl), HM8.out.alloc _, HQ8⟩
  case round =>
   obtain ⟨k, D9, hk, rfl, HFR, HC, hM, HN⟩ := hrel; by_cases hlt : k < 6
   ·obtain ⟨x, hx⟩ : ∃ x, cmps[k]? = some x := ⟨_, List.getElem?_eq_getElem (by exact hlt)⟩
    have hxs : x.size ≤ maxLen := by
     have := List.mem_of_getElem? hx; simp [cmps] at this
     rcases this with rfl | rfl | rfl | rfl | rfl | rfl <;> (unfold maxLen; simp [ByteArray.size])
    have y0 : wr.cell? ⟨x8.heap.size, k, none⟩ = some (.string x) := cell_of_blk HC.out (by rw [List.getElem?_toArray, List.getElem?_map, hx]; rfl); have HN2 := zh (show RMap (D9.put (.string x.data.toList) (.lit (.int .i64 3))) (rkL (k + 1)) by
     have h9 := rmap_put HN.out hM.isMap x 3; rw [show rkL (k + 1) = fun s => if s = x then 3 else rkL k s by rw [rkL, hx]; rfl]; exact h9)
    have hk' : (k : Int) < 6 := by omega
    have hk0 : (0 : Int) ≤ (k : Int) := by omega
    have hlw := blk_lt HC.out; have HNE := zh (show x8.heap.size ∉ [mb] from fun e => by
     have h9 : mb < x8.heap.size := by obtain ⟨es, clock, hb, r⟩ := HM8.out; exact blk_lt hb
     rw [List.mem_singleton] at e
     omega)
    clear hx; go_wp2_with (at_mapUpdate; refine wpList_mapUpdate_own _ rfl _ _ _ 42 rfl 9 3 lawS Tryz.underlying42 _ mb (8 + k) D9 rfl hM (by unfold maxLen; omega) _ _ _ rfl rfl (name_key hxs) _ [] (plainElem_int Tryz.underlying3 (by decide)) ?_; intro w3 hm3 hg3)
    go_roundw
    case rel =>
     have hf3 : Fr [mb] wr w3 := (Fr.refl [mb] wr).grown hg3 (fun g e => .inl (by rw [Option.some.inj e]; simp)); exact ⟨k + 1, _, by omega, by go_num, zh (HFR.out.grown hg3 (fun g e => .inl (by rw [Option.some.inj e]; simp))), zh (hf3.blk HC.out HNE.out), hm3, HN2⟩
    case measure => simp [intOf]; omega
   ·obtain rfl : k = 6 := by omega
    have HRK := zh (show RankOk D9 from fun x => by rw [HN.out x, rk_all]); have HMR := zh hM; have HBR := zh (show Below w.heap.size w wr from HB8.out.trans (HFR.out.to_below HB8.out.size (fun b hb => by rw [List.mem_singleton.1 hb]; exact HMW.out))); clear hM; have HBW2 := zh (show Below W2.heap.size W2 wr from (HF8.out.trans HFR.out (fun b hb => .inl hb)).to_below znr (fun b hb => by rw [List.mem_singleton.1 hb, HMB.out]; exact znr)); have hbr : ∀ b ob, x8.heap[b]? = some ob → b ≠ mb → wr.heap[b]? = some ob := fun b ob hb hne => HFR.out.blk hb (fun e => hne (List.mem_singleton.1 e)); have nm : ∀ b ob, W2.heap[b]? = some ob → b ≠ mb := fun b ob hb e => by have := blk_lt hb; rw [e, HMB.out] at this; exact Nat.lt_irrefl _ this
    have R0 := zh (hbr _ _ I0.out (nm _ _ J0.out)); have R1 := zh (hbr _ _ I1.out (nm _ _ J1.out)); have R2 := zh (hbr _ _ I2.out (nm _ _ J2.out)); clear hbr nm
    go_upto_region 12 with fail
    obtain ⟨p, hp⟩ : ∃ p, p = wr.heap.size := ⟨_, rfl⟩; rw [← hp]; refine gen_wpT fun Wp hWp => ?_; obtain ⟨K, hK⟩ : ∃ K : PaK, K = ⟨toks, A, c, s.data.toList.length, mb, 8 + 6, D9⟩ := ⟨_, rfl⟩; have hsl : s.data.toList.length = s.size := by simp
    have HBP := zh (show Below wr.heap.size wr Wp by rw [← hWp]; exact zbr.alloc znr _); have HBK := zh (show Wp.heap[p]? = some (PaBlk K 0 0 (.slice none 0 0) (fun _ => false)) by rw [← hWp, hK]; exact heap_new_at _ _ _ hp.symm); have HWB := zh (show Below w.heap.size w Wp from HBR.out.trans (HBP.out.mono HBR.out.size)); have HPW := zh (show w.heap.size ≤ p by rw [hp]; exact HBR.out.size); have HPA := zh (show PaAt K Wp p 0 0 (fun _ => false) [] [p] from ⟨⟨by rw [hK]; exact HTK.out.1, by rw [hK]; have := HTK.out.2.1; show toks.length ≤ 200000; omega, fun i => by rw [hK]; have := HTK.out.2.2.1 i; show (tk toks i).text.size ≤ 200000; omega,
     by rw [hK]; exact ((HRW.out.below HBW2.out).below (HBP.out.mono HBW2.out.size)).up (by rw [hp]; exact HBW2.out.size), by rw [hK]; show mb < p; rw [hp]; obtain ⟨es, clock, hb, r⟩ := HMR.out; exact blk_lt hb,
     by rw [hK, ← hWp]; exact HMR.out.alloc _, by rw [hK]; exact HRK.out, blk_lt HBK.out, HT.out.below HWB.out, Nat.lt_of_lt_of_le (tab_glt HT.out) HPW.out, ⟨m, HM.out.below HWB.out⟩, Nat.lt_of_lt_of_le HM.out.2 HPW.out⟩,
     _, [], HBK.out, World.ownsRow_nil _ _ _ _, rfl, fun x hx => by simp at hx, by simp, fun g hg => by simp [Value.ownBlock] at hg, fun x hx => by simp at hx, fun b hb => by rw [List.mem_singleton.1 hb]; exact ⟨znr, blk_lt HBK.out⟩⟩)
    have hgp := good_prog HTK.out.1; have g0 := below_blk HBP.out R0.out; have g1 := below_blk HBP.out R1.out; have g2 := below_blk HBP.out R2.out; have HG0 := zh g0; have HG1 := zh g1; have HG2 := zh g2; have HBL := zh (show b0 < p ∧ b0 + 1 < p ∧ b0 + 1 + 1 < p by rw [hp]; exact ⟨blk_lt R0.out, blk_lt R1.out, blk_lt R2.out⟩); clear g0 g1 g2 hWp hp; obtain ⟨X, hX⟩ : ∃ X, progF toks (roundsF toks) = X := ⟨_, rfl⟩; rw [hX] at hgp
    cases X with
    | none => exact absurd hgp (by simp [Sat])
    | some r =>
    have HPR := zh (walk_program (F := roundsF toks) HPA.out ⟨by rw [hK]; exact HTK.out.1.len, by rw [hK]; have := HTK.out.2.1; simp; omega⟩ rfl (by decide) (fun k => by simp) (r := r) (by rw [hK]; exact hX)); have HPL0 := zh (show parseL s.data.toList = parseR r from parseL_of HSC.out hX); have HGP := zh hgp; clear hX hgp hK; go_wp2_with fail
    refine HPR.out.mono ?_
    cases r with
    | bad a n =>
     rintro e wf ⟨rfl, hb⟩; have HGB := zh (show Below w.heap.size w wf from HWB.out.trans (hb.mono HPW.out)); have G0 := zh (below_blk' hb HG0.out HBL.out.1); have G1 := zh (below_blk' hb HG1.out HBL.out.2.1); have G2 := zh (below_blk' hb HG2.out HBL.out.2.2); have HPL := zh (show parseL s.data.toList = .inl (a, n) from HPL0.out); have HPE := zh (show a ≤ s.size ∧ n ≠ 0 by have h9 : ErrP s.data.toList.length a n := HGP.out; rw [hsl] at h9; exact ⟨h9.1, by have := h9.2; omega⟩); clear hb; unfold wrongP; go_wp2
     refine leaves_cons (f := 10) (args := #[.pointer (some ⟨b0, 0, none⟩), .pointer (some ⟨b0 + 1, 0, none⟩), .pointer (some ⟨b0 + 2, 0, none⟩)]) (by simp) (by simp [go_sem]) ?_; refine (prec_panic b0 (.slice none 0 0) 0 0 a n _ G0.out G1.out G2.out).mono ?_; rintro e u' w3 ⟨rfl, rfl, k0, k1, k2, hF⟩; have j0 := zc 0 k0 rfl; have j1 := zc 0 k1 rfl; have j2 := zc 0 k2 rfl; have HFIN := zh (show ParseOut s w (.returned (.tuple #[.slice none 0 0, .int .i64 (a : Int), .int .i64 (n : Int)])) w3 from ⟨HGB.out.trans (hF.to_below HGB.out.size (by intro b hb; have := HB0.out; simp at hb; omega)), by rw [HPL.out]; exact ⟨HPE.out.1, HPE.out.2, rfl⟩⟩); clear k0 k1 k2 hF; simp [Leaves, settle, results, Tryz.results6, go_sem, j0, j1, j2]
     exact HFIN.out
    | ok t j =>
     rintro e wf ⟨hb, he⟩; have HGB := zh (show Below w.heap.size w wf from HWB.out.trans (hb.mono HPW.out)); have G0 := zh (below_blk' hb HG0.out HBL.out.1); have G1 := zh (below_blk' hb HG1.out HBL.out.2.1); have G2 := zh (below_blk' hb HG2.out HBL.out.2.2); clear hb; by_cases hbig : 50000 < ptS t
     ·rw [if_pos hbig] at he
      have HPL := zh (show parseL s.data.toList = .inl (0, 2) by rw [HPL0.out]; exact if_pos hbig); have HPE := zh (show 0 ≤ s.size ∧ 2 ≠ 0 from ⟨Nat.zero_le _, by decide⟩); subst he; unfold wrongP; go_wp2
      refine leaves_cons (f := 10) (args := #[.pointer (some ⟨b0, 0, none⟩), .pointer (some ⟨b0 + 1, 0, none⟩), .pointer (some ⟨b0 + 2, 0, none⟩)]) (by simp) (by simp [go_sem]) ?_; refine (prec_panic b0 (.slice none 0 0) 0 0 (0 : Nat) (2 : Nat) _ G0.out G1.out G2.out).mono ?_; rintro e u' w3 ⟨rfl, rfl, k0, k1, k2, hF⟩; have j0 := zc 0 k0 rfl; have j1 := zc 0 k1 rfl; have j2 := zc 0 k2 rfl; have HFIN := zh (show ParseOut s w (.returned (.tuple #[.slice none 0 0, .int .i64 ((0 : Nat) : Int), .int .i64 ((2 : Nat) : Int)])) w3 from ⟨HGB.out.trans (hF.to_below HGB.out.size (by intro b hb; have := HB0.out; simp at hb; omega)), by rw [HPL.out]; exact ⟨HPE.out.1, HPE.out.2, rfl⟩⟩); clear k0 k1 k2 hF; simp [Leaves, settle, results, Tryz.results6, go_sem, j0, j1, j2]
      exact HFIN.out
     ·rw [if_neg hbig] at he
      by_cases hdp : 200 < deepT t
      ·rw [if_pos hdp] at he
       have HPL := zh (show parseL s.data.toList = .inl (0, 61) by rw [HPL0.out]; exact (if_neg hbig).trans (if_pos hdp)); have HPE := zh (show 0 ≤ s.size ∧ 61 ≠ 0 from ⟨Nat.zero_le _, by decide⟩); subst he; unfold wrongP; go_wp2
       refine leaves_cons (f := 10) (args := #[.pointer (some ⟨b0, 0, none⟩), .pointer (some ⟨b0 + 1, 0, none⟩), .pointer (some ⟨b0 + 2, 0, none⟩)]) (by simp) (by simp [go_sem]) ?_; refine (prec_panic b0 (.slice none 0 0) 0 0 (0 : Nat) (61 : Nat) _ G0.out G1.out G2.out).mono ?_; rintro e u' w3 ⟨rfl, rfl, k0, k1, k2, hF⟩; have j0 := zc 0 k0 rfl; have j1 := zc 0 k1 rfl; have j2 := zc 0 k2 rfl; have HFIN := zh (show ParseOut s w (.returned (.tuple #[.slice none 0 0, .int .i64 ((0 : Nat) : Int), .int .i64 ((61 : Nat) : Int)])) w3 from ⟨HGB.out.trans (hF.to_below HGB.out.size (by intro b hb; have := HB0.out; simp at hb; omega)), by rw [HPL.out]; exact ⟨HPE.out.1, HPE.out.2, rfl⟩⟩); clear k0 k1 k2 hF; simp [Leaves, settle, results, Tryz.results6, go_sem, j0, j1, j2]
       exact HFIN.out
      ·rw [if_neg hdp] at he
       obtain ⟨A9, c9, l9, rfl, e1, e2⟩ := he; have HPL := zh (show parseL s.data.toList = .inr t by rw [HPL0.out]; exact (if_neg hbig).trans (if_neg hdp)); have HEE := zh (And.intro e1 e2); clear e1 e2; have v0 := zc 0 G0.out rfl; have v1 := zc 0 G1.out rfl; have v2 := zc 0 G2.out rfl; have f0 : wf.frozen? ⟨b0, 0, none⟩ = false := free_of_blk G0.out; have f1 : wf.frozen? ⟨b0 + 1, 0, none⟩ = false := free_of_blk G1.out; have f2 : wf.frozen? ⟨b0 + 1 + 1, 0, none⟩ = false := free_of_blk G2.out; have l0 := blk_lt G0.out; have l1 := blk_lt G1.out; have l2 : b0 + 1 + 1 < wf.heap.size := blk_lt G2.out; obtain ⟨We, hWe⟩ : ∃ We, We = (((wf.setCell ⟨b0, 0, none⟩ (.slice A9 l9.length c9)).setCell ⟨b0 + 1, 0, none⟩ (.int .i64 0)).setCell ⟨b0 + 1 + 1, 0, none⟩ (.int .i64 0)) := ⟨_, rfl⟩; have E0 := zh (show We.heap[b0]? = some (.cells #[.slice A9 l9.length c9] 23 (0, 0)) by rw [hWe]; exact blk_far (blk_far (blk_set (i := 0) G0.out _) (by simp) _) (by simp <;> omega) _); have E1 := zh (show We.heap[b0 + 1]? = some (.cells #[.int .i64 0] 3 (0, 0)) by rw [hWe]; exact blk_far (blk_set (i := 0) (blk_far G1.out (by simp) _) _) (by simp) _); have E2 := zh (show We.heap[b0 + 1 + 1]? = some (.cells #[.int .i64 0] 24 (0, 0)) by rw [hWe]; exact blk_set (i := 0) (blk_far (blk_far G2.out (by simp <;> omega) _) (by simp) _) _); have HFIN := zh (show ParseOut s w (.returned (.tuple #[.slice A9 l9.length c9, .int .i64 0, .int .i64 0])) We from ⟨by rw [hWe]; exact ((HGB.out.setCell (by rw [← HB0.out]; exact znr) _).setCell (by rw [← HB0.out]; simp) _).setCell (by rw [← HB0.out]; simp; omega) _, by rw [HPL.out]; exact ⟨A9, c9, l9, rfl, HEE.out.1, HEE.out.2 We (by rw [hWe]; simp) (fun b h1 h2 => by rw [hWe]; have h3 := HBL.out; rw [Below.heap_setCell _ _ _ _ (by simp; omega), Below.heap_setCell _ _ _ _ (by simp; omega), Below.heap_setCell _ _ _ _ (by simp; omega)])⟩⟩); have HWE := zh hWe; clear hWe; have j0 := zc 0 E0.out rfl; have j1 := zc 0 E1.out rfl; have j2 := zc 0 E2.out rfl; have J0 := zh j0; have J1 := zh j1; have J2 := zh j2; clear j0 j1 j2; go_wp2
       refine leaves_cons (f := 10) (args := #[.pointer (some ⟨b0, 0, none⟩), .pointer (some ⟨b0 + 1, 0, none⟩), .pointer (some ⟨b0 + 1 + 1, 0, none⟩)]) (by simp) (by simp [go_sem]) ?_; refine (prec_idle b0 (b0 + 1) (b0 + 1 + 1) _).mono ?_; rintro e u' w3 ⟨rfl, rfl, rfl⟩; rw [← HWE.out]; simp [Leaves, settle, results, Tryz.results6, go_sem, J0.out, J1.out, J2.out]
       exact HFIN.out
end Go.Proofs.YthobobmbileekaaGreatDoor
namespace Go.Proofs.YthobobmbileekaaGreatDoor
open Go.ChangeShapes Go.WideShapes Go.ChangeAt Go.RowKit

def aw07a : ByteArray := ⟨#[119, 114, 105, 116, 101, 40, 48, 44, 32, 49, 32, 43, 32, 50, 32, 42, 32, 51, 41]⟩
def aw07b : ByteArray := ⟨#[120, 32, 61, 32, 61, 32, 49]⟩
def awF (r : (Nat × Nat) ⊕ PT) : Option (List (Int × ByteArray)) := match r with
 | .inl _ => none
 | .inr t => some ((flat 0 t).map fun x => (x.kind, x.text))
theorem aw07_1 : awF (parseL aw07a.data.toList) = some [(15, ⟨#[48]⟩), (15, ⟨#[49]⟩), (15, ⟨#[50]⟩), (15, ⟨#[51]⟩), (27, ⟨#[42]⟩), (27, ⟨#[43]⟩), (21, ⟨#[119, 114, 105, 116, 101]⟩), (7, ⟨#[]⟩), (3, ⟨#[]⟩), (1, ⟨#[]⟩)] := by kernel_rfl
theorem aw07_2 : parseL aw07b.data.toList = .inl (4, 70) := by kernel_rfl
theorem NodesR.up {w : World} {B : Nat} {A : Option Addr} {l : List NdM} (h : NodesR w B A l) : NodesR w w.heap.size A l := ⟨h.rd.up h.lo, fun x hx => (h.kd x hx).up h.lo, znr, h.kc⟩
theorem parseL_few {s : List UInt8} {t : PT} (h : parseL s = .inr t) : ptS t ≤ 50000 ∧ deepT t ≤ 200 := by
 unfold parseL at h
 split at h
 ·simp at h
 ·split at h
  ·simp at h
  ·simp at h
  ·split at h
   ·simp at h
   ·split at h
    ·simp at h
    ·rename_i h1 h2
     obtain rfl := Sum.inr.inj h
     omega
theorem nodes_at {l : List NdM} {t : PT} (h : l.map NdM.nd = flat 0 t) {k : Nat} {c : Int} {x : ByteArray} (hk : ((flat 0 t).map fun x => (x.kind, x.text))[k]? = some (c, x)) : ∃ y, l[k]? = some y ∧ y.nd.kind = c ∧ y.nd.text = x := by
 rw [← h, List.map_map, List.getElem?_map] at hk
 cases hy : l[k]? with
 | none => rw [hy] at hk; simp at hk
 | some y =>
  rw [hy] at hk; simp only [Option.map_some, Function.comp, Option.some.injEq, Prod.mk.injEq] at hk
  exact ⟨y, rfl, hk.1, hk.2⟩
theorem awake07_any (w : World) (hw : ParseW w) : Calls Tryz.prog 5 #[] w (RetB (.bool true) w) := by
 have H1 := zh (parse_any aw07a (by decide) w hw)
 have H2 := zh (fun w (h : ParseW w) => parse_any aw07b (by decide) w h)
 have HW := zh hw
 clear hw
 unfold aw07a at H1
 unfold aw07b at H2
 go_enter Tryz.func5, Tryz.ntmps5
 go_wp2_with fail
 refine H1.out.mono ?_
 rintro e w1 ⟨hb1, h1⟩
 have ha := aw07_1
 unfold aw07a at ha
 cases hp : parseL (⟨#[119, 114, 105, 116, 101, 40, 48, 44, 32, 49, 32, 43, 32, 50, 32, 42, 32, 51, 41]⟩ : ByteArray).data.toList with
 | inl q => rw [hp] at ha; exact absurd ha (by simp [awF])
 | inr t =>
 rw [hp] at ha h1
 obtain ⟨A, c, l, rfl, h2, h3⟩ := h1
 have hl := Option.some.inj ha
 have hlen : l.length = 10 := by
  have h9 := congrArg List.length hl; rw [List.length_map, ← h2, List.length_map] at h9; exact h9
 obtain ⟨y4, e4, k4, x4⟩ := nodes_at h2 (k := 4) (c := 27) (x := ⟨#[42]⟩) (by rw [hl]; rfl)
 obtain ⟨y9, e9, k9, x9⟩ := nodes_at h2 (k := 9) (c := 1) (x := ⟨#[]⟩) (by rw [hl]; rfl)
 rw [hlen]
 have HN := zh h3
 have HB1 := zh hb1
 have HE := zh (And.intro (And.intro e4 x4) (And.intro e9 k9))
 clear h2 h3 hb1 ha hl hlen hp e4 k4 x4 e9 k9 x9
 go_wp2_with fail
 refine (H2.out w1 (HW.out.below HB1.out)).mono ?_
 rintro e w2 ⟨hb2, h4⟩
 have ha2 := aw07_2
 unfold aw07b at ha2
 rw [ha2] at h4
 obtain ⟨-, -, rfl⟩ := h4
 have HN2 := zh (HN.out.below hb2)
 have HB2 := zh (HB1.out.trans (hb2.mono HB1.out.size))
 clear hb2 ha2
 obtain ⟨ad, hA, -⟩ := HN2.out.ad HE.out.1.1
 obtain ⟨-, z1, -, -, zl1⟩ := HN2.out.node hA HE.out.1.1
 obtain ⟨z2, -, -, -, zl2⟩ := HN2.out.node hA HE.out.2.1
 rw [HE.out.1.2] at z1
 rw [HE.out.2.2] at z2
 subst hA
 rw [show ad.add (4 * 4) = (⟨ad.block, ad.off + 16, none⟩ : Addr) from rfl] at z1 zl1
 rw [show ad.add (9 * 4) = (⟨ad.block, ad.off + 36, none⟩ : Addr) from rfl] at z2 zl2
 dsimp only at z1 zl1 zl2
 have ht : (⟨#[42]⟩ : ByteArray).toList = [42] := by rw [ByteArray.toList_eq]
 go_wp2_with fail
 go_ret
 exact ⟨rfl, HB2.out⟩
def BlankT (s tx : ByteArray) (k : Nat) : Prop := ∃ ys : List UInt8, tx.data.toList = s.data.toList ++ 10 :: ys ∧ ys.length = k ∧ ∀ c ∈ ys, blB c = true
theorem BlankT.size {s tx : ByteArray} {k : Nat} (h : BlankT s tx k) : tx.size = s.size + 1 + k := by
 obtain ⟨ys, h1, h2, _⟩ := h
 have := congrArg List.length h1
 rw [List.length_append, List.length_cons, h2] at this
 have e1 : tx.data.toList.length = tx.size := by simp
 have e2 : s.data.toList.length = s.size := by simp
 omega
theorem BlankT.put {s tx : ByteArray} {k : Nat} (h : BlankT s tx k) {c : UInt8} (hc : blB c = true) : BlankT s (tx ++ ⟨#[c]⟩) (k + 1) := by
 obtain ⟨ys, h1, h2, h3⟩ := h
 refine ⟨ys ++ [c], ?_, by rw [List.length_append, h2]; rfl, fun d hd => ?_⟩
 ·rw [ByteArray.data_append, Array.toList_append, h1]
  simp
 ·rcases List.mem_append.1 hd with hd | hd
  ·exact h3 d hd
  ·rw [List.mem_singleton.1 hd]; exact hc
theorem BlankT.start (s : ByteArray) : BlankT s (s ++ ⟨#[10]⟩) 0 := ⟨[], by rw [ByteArray.data_append, Array.toList_append], rfl, fun c hc => by simp at hc⟩
theorem kids_few2 {t : PT} (h : ptS t ≤ 50000) {l : List NdM} (hl : l.map NdM.nd = flat 0 t) : l.length ≤ 50000 ∧ ∀ x ∈ l, x.nd.kids.length ≤ 50000 := by
 refine ⟨?_, fun x hx => ?_⟩
 ·have := congrArg List.length hl
  rw [List.length_map, flat_len] at this
  omega
 ·have := kids_few t (x := x.nd) (by rw [← hl]; exact List.mem_map.2 ⟨x, hx, rfl⟩)
  omega

theorem parseL_ok {s : List UInt8} {t : PT} (hs : s.length ≤ 200000) (h : parseL s = .inr t) : okT s.length t ∧ t.kind = 1 ∧ deepT t ≤ 200 ∧ txT t := by
 have hd := (parseL_few h).2
 unfold parseL at h
 split at h
 ·simp at h
 ·rename_i T hT
  obtain ⟨h1, _, h2, _⟩ := scan_tok hT; have hg := good_prog h1; have hx := x_prog (T := T) ⟨fun i => Nat.le_trans (h2 i) hs, h1.num⟩ (roundsF T)
  split at h
  ·simp at h
  ·simp at h
  ·rename_i t2 i hP
   rw [hP] at hg hx
   split at h
   ·simp at h
   ·split at h
    ·simp at h
    ·obtain rfl := Sum.inr.inj h
     exact ⟨hg.1, hg.2.1, hd, hx⟩
theorem prog_of {w : World} {B M : Nat} {A : Option Addr} {l : List NdM} {t : PT} (h : NodesR w B A l) (hl : l.map NdM.nd = flat 0 t) (hs : ptS t ≤ 50000) : ProgN w B A l (flat 0 t) :=
 ⟨h, hl, by rw [flat_len]; exact hs, fun k nd hk => ((deepF_tree t).at_ k nd hk).1, (kids_few2 hs hl).2⟩
theorem checks_walk (s : ByteArray) (w : World) (hw : ParseW w) :
  Calls Tryz.prog 3 #[.string s] w (RetB (.bool true) w) := by
 have HAW := zh (awake07_any w hw)
 have HW := zh hw
 clear hw
 by_cases hbig : 3000 < s.size
 ·have hq : (3000 : Int) < (s.size : Int) := by omega
  clear hbig
  go_enter Tryz.func3, Tryz.ntmps3
  go_wp2_with fail
  refine HAW.out.mono ?_; rintro e w1 ⟨rfl, hb⟩; have HB := zh hb; clear hb; go_wp2
  go_ret
  exact ⟨rfl, HB.out⟩
 have hq : ¬ (3000 : Int) < (s.size : Int) := by omega
 have HSZ := zh (show s.size ≤ 3000 by omega)
 clear hbig
 go_enter Tryz.func3, Tryz.ntmps3
 go_wp2_with fail
 refine HAW.out.mono ?_
 rintro e w1 ⟨rfl, hb⟩
 have HB1 := zh hb
 clear hb
 go_wp2_with fail
 refine (parse_any s (by have := HSZ.out; omega) w1 (HW.out.below HB1.out)).mono ?_
 rintro e w2 ⟨hb2, h2⟩
 have HB2 := zh (HB1.out.trans (hb2.mono HB1.out.size))
 clear hb2
 cases hp : parseL s.data.toList with
 | inl q =>
  obtain ⟨p, er⟩ := q; rw [hp] at h2; obtain ⟨hps, he, rfl⟩ := h2; have hne : ((er : Int) != 0) = true := bne_iff_ne.2 (by omega); have hp0 : (0 : Int) ≤ (p : Int) := by omega
  have hp1 : (p : Int) ≤ (s.size : Int) := by omega
  clear hp; go_wp2_with fail
  go_ret
  exact ⟨rfl, HB2.out⟩
 | inr t =>
  rw [hp] at h2; obtain ⟨A, c, l, rfl, e4, e5⟩ := h2; have hsl : s.data.toList.length = s.size := by simp
  have hok := parseL_ok (by rw [hsl]; have := HSZ.out; omega) hp; rw [hsl] at hok; have HOK := zh hok; have HP := zh (prog_of (M := 0) e5 e4 (parseL_few hp).1); have HCK := zh (check_any c HP.out hok.1 hok.2.1 hok.2.2.1 hok.2.2.2 (HW.out.below HB2.out).2.2); obtain ⟨N, hN⟩ : ∃ N, N = l.length := ⟨_, rfl⟩; rw [← hN] at HCK ⊢; have HN := zh (show N = l.length ∧ N = ptS t ∧ N ≤ 50000 from ⟨hN, by rw [hN, HP.out.size, flat_len], by rw [hN, HP.out.size]; exact HP.out.len⟩); clear e4 e5 hsl hok hp hN; go_wp2_with fail
  refine HCK.out.mono ?_; rintro e w3 ⟨rfl, hb3⟩; have HP3 := zh (HP.out.below hb3); have HB3 := zh (HB2.out.trans (hb3.mono HB2.out.size)); clear hb3; go_wp2_with fail
  go_loopw [45] (fun i wr => ∃ k : Nat, k ≤ N ∧ i = .int .i64 (k : Int) ∧ Hid (Below w2.heap.size w3 wr)) (fun i _ => N - (intOf i).toNat)
  case atStart => exact ⟨0, Nat.zero_le _, rfl, zh zbr⟩
  case round =>
   obtain ⟨k, hkN, rfl, HB⟩ := hrel; have hN5 : N ≤ 50000 := HN.out.2.2; by_cases hlt : k < N
   ·obtain ⟨t', hT, hTok⟩ := tree_at t HOK.out.1 (show k < ptS t by rw [← HN.out.2.1]; exact hlt)
    obtain ⟨x, ks, hx, hxm, hxn, -⟩ := HP3.out.node hT; obtain ⟨ad, hA, -⟩ := HP3.out.nr.ad hx; have HR := zh (HP3.out.nr.below HB.out); obtain ⟨x0, x1, x2, x3, xl⟩ := HR.out.node hA hx; have hxa : x.nd.a ≤ s.size := by rw [hxn]; exact (okT_loc hTok).2.1
    have HXA := zh hxa; subst hA; have hkI : (k : Int) < (N : Int) := by omega
    have hk0 : (0 : Int) ≤ (k : Int) := by omega
    clear hx hxm hxn hT hTok hxa
    go_upto_region 14 with fail
    refine gen_wpT fun W hW => ?_; have HBW := zh (show Below wr.heap.size wr W by rw [← hW]; exact zbr.alloc znr _); have HXB := zh (show W.heap[wr.heap.size]? = some (.cells #[.int .i64 x.nd.kind, .string x.nd.text, .slice x.A x.nd.kids.length x.c, .int .i64 (x.nd.a : Int)] 31 (0, 0)) by rw [← hW]; exact heap_new_at _ _ _ rfl); have y3 := zc 3 HXB.out rfl; have yl := blk_lt HXB.out; have hxa : ¬ (x.nd.a : Int) > (s.size : Int) := by have := HXA.out; omega
    have hxa2 : ¬ (s.size : Int) < (x.nd.a : Int) := by omega
    clear hW x0 x1 x2 x3 xl; go_wp2_with fail
    go_roundw
    case rel => exact ⟨k + 1, by omega, by go_num, zh (HB.out.trans (HBW.out.mono (Nat.le_trans HP3.out.nr.lo HB.out.size)))⟩
    case measure => simp [intOf]; omega
   ·obtain rfl : k = N := by omega
    have hq : ¬ (k : Int) < (k : Int) := by omega
    go_wp2_with fail
    go_ret
    exact ⟨rfl, HB3.out.trans (HB.out.mono HB2.out.size)⟩

section
variable {H : Type} {enc : TypeId × Value → H} {P : Program} {w : World}

end

theorem ret_and_shaped {H : Type} {enc : TypeId × Value → H} {a : Assume} {C : Checked} {os : Os} {f : FuncId} {fn : Func} {s : ChangeSpec} {conds : List PathCond} {apart fresh handsOn again : Bool} {X : World → Array Value → Prop}
  (hX : ∀ (w w' : World) (args : Array Value), w.heap = w'.heap → X w args → X w' args)
  (own : ownKnob C.prog.godebug = none) (started : os.Started) (noInit : C.prog.inits.idxOf? f = none) (hfn : C.prog.funcs[f]? = some fn)
  (witness : ∃ (w : World) (tape : Tape) (i : Input), w.os = os ∧ (w.forCall tape i).Shaped C.prog ∧ i.vars = [] ∧ Input.okWide C.prog (w.forCall tape i) .any w.heap.size f i ∧
   ((s.pre enc C.prog fn conds apart (w.forCall tape i).memory i.args ∧ X (w.forCall tape i).memory i.args) ∧ sizedMet enc C.prog fn (OpenSpec.ofChange s) apart (w.forCall tape i).memory i.args) ∧ a.holds C.prog (lone (Frame.enter C.prog f i.args .normal) [] (w.forCall tape i)))
  (contract : ∀ (W : World) (base : Nat) (args : Array Value) (ds gs : List (DataW H)) (before : List MemPlace),
   (∀ (j : Nat) t v, fn.params[j]? = some t → args[j]? = some v → Value.okWide C.prog W .any base t v) →
   DataW.Whole enc C.prog fn.params.toList s.vars apart W args.toList ds gs before →
   (DataW.weightsEach C.prog (fn.params.toList ++ s.plain.varTypes C.prog) (ds ++ gs)).all (· ≤ reachBytes) = true → X W args → W.ShapedOpen C.prog →
   Calls C.prog f args W fun e W' => ∃ v, e = .returned v ∧ s.post enc C.prog fn apart fresh handsOn again W args v W') :
  ReturnsInHanded a C os f .any (fun w args => (s.pre enc C.prog fn conds apart w args ∧ X w args) ∧ sizedMet enc C.prog fn (OpenSpec.ofChange s) apart w args) (s.post enc C.prog fn apart fresh handsOn again) := by
 refine returnsInHanded_of_calls own started noInit witness fun w tape i _ hsh _ hok hpre _ => ?_
 obtain ⟨_, _, _, fn', hfn', _, _, _, _, hval⟩ := hok
 obtain rfl : fn' = fn := Option.some.inj (hfn'.symm.trans hfn)
 obtain ⟨⟨⟨ds, gs, before, hw, _⟩, hx⟩, hz⟩ := hpre
 refine (contract (w.forCall tape i) w.heap.size i.args ds gs before hval (DataW.Whole.of_heap (w' := w.forCall tape i) (by rfl) hw) (hz.weights hw) (hX _ _ _ (by rfl) hx) hsh).mono fun e W' hh => ?_
 obtain ⟨v, rfl, hp⟩ := hh
 exact ChangeSpec.post_blind hp
theorem g_sp : Tryz.prog.globalNamed "strings.asciiSpace" = some 0 := by kernel_rfl
theorem sp_type : (Tryz.prog.globals[0]?).map (·.type) = some 86 := by kernel_rfl
theorem gp_type : (Tryz.prog.globals[2]?).map (·.type) = some 136 := by kernel_rfl
theorem parseW_of {W : World} {a b d e g : _} (h : laidMet Tryz.prog [a, b, ("internal/strconv.uint64pow10", Lib.tabData .u64 Lib.pow10Tab), d, e, ("strings.asciiSpace", Lib.tabData .u8 Lib.asciiSpaceTab), g] W) (hsh : W.ShapedOpen Tryz.prog) : ParseW W := by
 have h2 := laidMet.tail (laidMet.tail h)
 have h3 := laidMet.tail (laidMet.tail (laidMet.tail h2))
 obtain ⟨m, hm⟩ := Tryz.laysM219.s1_3 W hsh
 exact ⟨Lib.tabIs_of_head g_sp sp_type Tryz.underlying86 Tryz.underlying5 (by kernel_rfl) (by kernel_rfl) h3, ⟨m, hm, cell_lt hm⟩, Lib.tabIs_of_head g_pow10 gp_type Tryz.underlying136 Tryz.underlying83 (by kernel_rfl) (by kernel_rfl) h2⟩
end Go.Proofs.YthobobmbileekaaGreatDoor
