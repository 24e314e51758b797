/-
  Chapter 25: TraceShows, TraceBegins: the walks.
-/
import Derived.Test.YthgcadikinfdiaaDoorTrI
set_option linter.unusedVariables false
set_option linter.unusedSimpArgs false
namespace Go.Proofs.YthgcadikinfdiaaDoor
open Go.ChangeShapes Go.WideShapes Go.ChangeAt Go.RowKit

theorem reads_up {w : World} {B B' : Nat} {A : Option Addr} {xs : List Value} (h : Reads w B A xs) (hb : B ≤ B') : Reads w B' A xs := h.imp id fun ⟨ad, h1, h2, h3⟩ => ⟨ad, h1, by omega, h3⟩
theorem reads_on {w w' : World} {A : Option Addr} {xs : List Value} (h : Reads w w.heap.size A xs) (hb : Below w.heap.size w w') : Reads w' w'.heap.size A xs := reads_up (h.below hb) hb.size
/-- What is known of events that came in. -/
structure EvsIn (w : World) (A : Option Addr) (xs : List Ev) : Prop where
  reads : Reads w w.heap.size A (xs.flatMap evEnc)
  len : (xs.length + 1) * 40 ≤ 140737488355328
  ok : ∀ x ∈ xs, (-9223372036854775808 ≤ x.channel ∧ x.channel ≤ 9223372036854775807) ∧ (-9223372036854775808 ≤ x.n ∧ x.n ≤ 9223372036854775807) ∧ x.s.size ≤ 281474976710656
theorem tot_mem {xs : List Ev} {x : Ev} (h : x ∈ xs) : x.s.size ≤ totS xs := by
  unfold totS
  have h1 : 5 + x.s.size ∈ xs.map fun e => 5 + e.s.size := List.mem_map.2 ⟨x, h, rfl⟩
  obtain ⟨a, b, hab⟩ := List.append_of_mem h1
  rw [hab, List.sum_append, List.sum_cons]
  omega
theorem few_small {w : World} {A : Option Addr} {xs : List Ev} (h : EvsIn w A xs) (ht : totS xs ≤ 5000) : xs.length ≤ 1000 ∧ ∀ x ∈ xs, Small x := by
  have h1 := totS_len xs
  refine ⟨by omega, fun x hx => ?_⟩
  have h2 := tot_mem hx
  obtain ⟨h3, h4, _⟩ := h.ok x hx
  exact ⟨h3, h4, by omega⟩
set_option maxRecDepth 100000 in
set_option maxHeartbeats 4000000 in
theorem tshows_walk (xs : List Ev) (A : Option Addr) (c : Nat) (w : World) (h : EvsIn w A xs) (ht : Tab w) : Calls Tryd.prog 5 #[.slice A xs.length c] w (RetB (.bool true) w) := by
  have hlen := h.len
  have H := Lib.hid h
  have HT := Lib.hid ht
  have HA := Lib.hid (awake25 w ht)
  clear h ht
  go_enter Tryd.func5, Tryd.ntmps5
  go_wp2_with fail
  refine HA.out.mono ?_
  rintro e w0 ⟨rfl, hb0⟩
  have HB0 := Lib.hid hb0
  clear hb0
  go_wp2_with fail
  refine (few_any xs A c w0 (reads_on H.out.reads HB0.out) (by omega) (fun x hx => (H.out.ok x hx).2.2)).mono ?_
  rintro e w1 ⟨b, rfl, hb1, hf⟩
  have HB1 := Lib.hid (HB0.out.trans (hb1.mono HB0.out.size))
  clear hb1
  cases b
  · clear hf
    go_wp2
    go_ret
    exact ⟨rfl, HB1.out⟩
  · have HS := Lib.hid (few_small H.out (hf rfl))
    clear hf
    go_wp2_with fail
    refine (show25_any xs A c w1 (reads_on H.out.reads HB1.out) HS.out.1 HS.out.2 (HT.out.below HB1.out)).mono ?_
    rintro e w2 ⟨rfl, hb2⟩
    have HB2 := Lib.hid (HB1.out.trans (hb2.mono HB1.out.size))
    clear hb2
    go_wp2_with fail
    refine (rshow25_any xs A c w2 (reads_on H.out.reads HB2.out) HS.out.1 HS.out.2 (HT.out.below HB2.out)).mono ?_
    rintro e w3 ⟨rfl, hb3⟩
    have HB3 := Lib.hid (HB2.out.trans (hb3.mono HB2.out.size))
    clear hb3
    go_wp2
    go_ret
    exact ⟨rfl, HB3.out⟩
/-- The weight of an event's string. -/
theorem ev_sized {H : Type} {e : Ev} {d : DataW H} (h : EvOk e d) (hs : Sized Tryd.prog 38 d) : e.s.size ≤ 281474976710656 := by
  obtain ⟨_, _, x, y, z, rfl⟩ := h
  have h2 := hs e.s.data.toList.length (by
    rw [DataW.weights, Tryd.underlying38]
    exact DataW.weights_mem_each (j := 3) rfl rfl _ (by rw [DataW.weights]; simp))
  unfold reachBytes at h2
  have : e.s.data.toList.length = e.s.size := by simp
  omega
theorem evs_in {H : Type} {W : World} {s : Sl Ev} {d : DataW H} (h : SlIn W evEnc EvOk s d) (hs : Sized Tryd.prog 22 d) : EvsIn W s.A s.xs := by
  have hz := sized_sl Tryd.underlying22 h hs
  rw [show Tryd.prog.bytesOf 38 = 40 from by kernel_rfl] at hz
  unfold reachBytes at hz
  refine ⟨h.reads, by omega, fun x hx => ?_⟩
  obtain ⟨i, hi⟩ := List.getElem?_of_mem hx
  obtain ⟨d', h1, h2⟩ := h.all i x hi
  refine ⟨h2.1, h2.2.1, ev_sized h2 fun n hn => ?_⟩
  rcases h.form with hd | hd
  · rw [hd] at h1
    simp [elemsOf] at h1
  · rw [hd] at hs
    refine hs n ?_
    rw [DataW.weights, Tryd.underlying22]
    exact List.mem_cons_of_mem _ (List.mem_append_left _ (weightsAll_mem h1 n hn))
end Go.Proofs.YthgcadikinfdiaaDoor
