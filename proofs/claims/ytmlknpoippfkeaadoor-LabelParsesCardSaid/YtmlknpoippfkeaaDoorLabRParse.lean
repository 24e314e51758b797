/-
  A text as a label: the reference's Parse.
-/
import Derived.Test.YtmlknpoippfkeaaDoorLabNum
set_option linter.unusedVariables false
set_option linter.unusedSimpArgs false
namespace Go.Proofs.YtmlknpoippfkeaaDoor
open Go.ChangeShapes Go.WideShapes Go.ChangeAt Go.RowKit Go.Shelf

def RetN (v : Value) (w : World) (e : Ending) (w' : World) : Prop := e = .returned v ∧ ∃ n, w' = w.drewN n
def parseV (o : Option Nat) : Value := .tuple #[.int .u64 ((o.getD 0 : Nat) : Int), .bool o.isSome]
def sizeOfV (v : Value) : Nat := match v with
  | .string b => b.size
  | _ => 0
theorem list_one {s : ByteArray} {c : UInt8} : s.toList = [c] ↔ s.data.toList = [c] := by rw [ByteArray.toList_eq]
set_option maxRecDepth 100000 in
set_option maxHeartbeats 2000000 in
theorem rparse_any (s : ByteArray) (w : World) (hs : s.size ≤ maxLen) : Calls Tryd.prog 16 #[.string s] w (RetN (parseV (rparse s.data.toList)) w) := by
  by_cases h0 : s.toList = [123, 125]
  · have e : rparse s.data.toList = some 0 := by unfold rparse; rw [← ByteArray.toList_eq, if_pos h0]
    rw [e]
    show Calls _ _ _ _ (RetN (.tuple #[.int .u64 0, .bool true]) w)
    clear e
    go_enter Tryd.func16, Tryd.ntmps16
    go_wp2
    go_ret2
    exact ⟨rfl, 0, rfl⟩
  · have e : rparse s.data.toList = rgo (s.size + 1) 123 s.data.toList 0 (-1) := by
      unfold rparse
      rw [← ByteArray.toList_eq, if_neg h0, ByteArray.toList_eq]
      simp
    have h0' : (s.toList == [123, 125]) = false := by rw [beq_eq_false_iff_ne]; exact h0
    generalize rparse s.data.toList = R at e
    have HE := Lib.hid e
    clear e h0
    unfold maxLen at hs
    go_enter Tryd.func16, Tryd.ntmps16
    go_wp2
    go_loopw [0, 2, 3, 4, 5, 6, 7, 8, 9, 10] (fun sv _ _ o l b _ _ _ _ wr => ∃ (t : ByteArray) (out : Nat) (last : Int) (fb : Bool) (f : Nat), sv = .string t ∧ o = .int .u64 (out : Int) ∧ l = .int .i64 last ∧ b = .bool fb ∧ t.size < f ∧ t.size ≤ s.size ∧ out < 18446744073709551616 ∧ -1 ≤ last ∧ last < 64 ∧ R = rgo f (if fb then 123 else 44) t.data.toList out last ∧ ∃ n, wr = w.drewN n) (fun sv _ _ _ _ _ _ _ _ _ _ => sizeOfV sv)
    case atStart => exact ⟨s, 0, -1, true, s.size + 1, rfl, rfl, rfl, rfl, by omega, by omega, by decide, by omega, by omega, HE.out, 0, rfl⟩
    case round =>
      obtain ⟨t, out, last, fb, f, rfl, rfl, rfl, rfl, hf, hts, ho, hl1, hl2, hR, n, rfl⟩ := hrel
      obtain ⟨f, rfl⟩ : ∃ g, f = g + 1 := ⟨f - 1, by omega⟩
      unfold rgo at hR
      have HR := Lib.hid hR
      clear hR HE
      by_cases ht : 0 < t.size
      · have h1 := bytes_at 0 ht
        cases hl : t.data.toList with
        | nil => rw [hl] at h1; cases h1
        | cons c r =>
          rw [hl] at h1 HR
          have e : t[0] = c := (Option.some.inj h1).symm
          have hr : r = (t.extract 1 t.size).data.toList := by rw [Lib.extract_to_end, hl]; rfl
          have hxs : (t.extract 1 t.size).size < t.size := by simp; omega
          have hne : ¬ t.toList = [] := by rw [ByteArray.toList_eq, hl]; simp
          have hne' : t.toList.isEmpty = false := by rw [ByteArray.toList_eq, hl]; rfl
          have hnum := fun w => num_any (t.extract 1 t.size) w (by unfold maxLen; omega)
          have hts' : t.size ≤ 9223372036854775807 := by omega
          subst hr
          have HL := Lib.hid hl
          clear hl h1
          by_cases hw : c = (if fb then 123 else 44 : UInt8)
          · have hRn := HR.out
            simp only [ne_eq, hw, not_true_eq_false, if_false] at hRn
            have HR2 := Lib.hid hRn
            have hc : (fb = true ∧ ((c.toNat : Int) != 123) = false) ∨ (fb = false ∧ ((c.toNat : Int) != 44) = false) := by
              cases fb
              · right; refine ⟨rfl, ?_⟩; rw [hw]; decide
              · left; refine ⟨rfl, ?_⟩; rw [hw]; decide
            clear hRn HR hw
            have HNum := Lib.hid hnum
            clear hnum
            rcases hc with ⟨rfl, hc⟩ | ⟨rfl, hc⟩
            all_goals
              go_wp2_with fail
              refine (HNum.out _).mono ?_
              rintro e1 w1 ⟨m, rfl, ⟨k, r, hk, hnr, hrs, rfl⟩ | ⟨hnr, n', r, rfl⟩⟩
              · have hRn := HR2.out
                rw [hnr] at hRn
                simp only at hRn
                have HR3 := Lib.hid hRn
                clear hRn hnr HR2 HL e hc
                by_cases hle : (k : Int) ≤ last
                · have hRn := HR3.out
                  rw [if_pos hle] at hRn
                  subst hRn
                  go_wp2
                  go_ret2
                  exact ⟨rfl, _, rfl⟩
                · have hRn := HR3.out
                  rw [if_neg hle] at hRn
                  have hor := or_pow ho hk
                  have hol := or_pow_lt ho hk
                  by_cases hend : r.data.toList = [125]
                  · rw [if_pos hend] at hRn
                    have hend' : r.toList = [125] := by rw [ByteArray.toList_eq]; exact hend
                    have hend2 : (r.toList == [125]) = true := by rw [hend']; rfl
                    clear HR3 hend
                    subst hRn
                    obtain ⟨o2, ho2⟩ : ∃ o2, o2 = out ||| 2 ^ k := ⟨_, rfl⟩
                    rw [← ho2] at hor hol
                    have HO := Lib.hid ho2
                    clear ho2
                    go_wp2
                    go_ret2
                    exact ⟨by have h := HO.out; subst h; rfl, _, rfl⟩
                  · rw [if_neg hend] at hRn
                    have hend' : ¬ r.toList = [125] := by rw [ByteArray.toList_eq]; exact hend
                    have hend2 : (r.toList == [125]) = false := by rw [beq_eq_false_iff_ne]; exact hend'
                    have HRn := Lib.hid hRn
                    clear HR3 hend hRn
                    generalize out ||| 2 ^ k = o2 at hor hol HRn
                    go_wp2
                    go_roundw
                    case rel => exact ⟨r, o2, k, false, f, rfl, by first | rfl | rw [hor], rfl, rfl, by omega, by omega, hol, by omega, by omega, HRn.out, _, rfl⟩
                    case measure => simp [sizeOfV]; omega
              · have hRn := HR2.out
                rw [hnr] at hRn
                simp only at hRn
                clear hnr HR2 HL
                subst hRn
                go_wp2
                go_ret2
                exact ⟨rfl, _, rfl⟩
          · have hRn := HR.out
            simp only [ne_eq, hw, not_false_eq_true, if_true] at hRn
            subst hRn
            cases fb
            · have hc : ((c.toNat : Int) != 44) = true := by
                simp at hw ⊢
                intro h
                exact hw (UInt8.toNat_inj.1 (by have : (44 : UInt8).toNat = 44 := rfl; omega))
              go_wp2
              go_ret2
              exact ⟨rfl, _, rfl⟩
            · have hc : ((c.toNat : Int) != 123) = true := by
                simp at hw ⊢
                intro h
                exact hw (UInt8.toNat_inj.1 (by have : (123 : UInt8).toNat = 123 := rfl; omega))
              go_wp2
              go_ret2
              exact ⟨rfl, _, rfl⟩
      · have hlen : t.data.toList.length = 0 := by
          have : t.size = t.data.toList.length := by simp
          omega
        have htl : t.data.toList = [] := List.eq_nil_of_length_eq_zero hlen
        clear hlen
        rw [htl] at HR
        have hRn := HR.out
        simp only at hRn
        subst hRn
        have hte : t.toList = [] := by rw [ByteArray.toList_eq, htl]
        have hte' : t.toList.isEmpty = true := by rw [hte]; rfl
        show Code.wp _ _ _ _ _
        cases fb
        all_goals
          go_wp2
          go_ret2
          exact ⟨rfl, _, rfl⟩
end Go.Proofs.YtmlknpoippfkeaaDoor
