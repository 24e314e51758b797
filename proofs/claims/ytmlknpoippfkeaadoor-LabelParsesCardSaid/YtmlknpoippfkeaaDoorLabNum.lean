/-
  The reference's reading of a principal.
-/
import Derived.Test.YtmlknpoippfkeaaDoorLabRShow
set_option linter.unusedVariables false
set_option linter.unusedSimpArgs false
namespace Go.Proofs.YtmlknpoippfkeaaDoor
open Go.ChangeShapes Go.WideShapes Go.ChangeAt Go.RowKit Go.Shelf

def NumPost (s : ByteArray) (w : World) (e : Ending) (w' : World) : Prop := ∃ m : Nat, w' = w.drewN m ∧
  ((∃ (k : Nat) (r : ByteArray), k < 64 ∧ numR s.data.toList = some (k, r.data.toList) ∧ r.size < s.size ∧ e = .returned (.tuple #[.int .i64 (k : Int), .string r, .bool true])) ∨
   (numR s.data.toList = none ∧ ∃ (n : Int) (r : ByteArray), e = .returned (.tuple #[.int .i64 n, .string r, .bool false])))
theorem num_none (s : ByteArray) (w : World) (hs : s.size ≤ maxLen) (h : s.size = 0 ∨ ∃ h0 : 0 < s.size, isDig s[0] = false) : Calls Tryd.prog 32 #[.string s] w (NumPost s w) := by
  have hn : numR s.data.toList = none := by
    cases hl : s.data.toList with
    | nil => rfl
    | cons c r =>
      have hsz : s.size = (c :: r).length := by rw [← hl]; simp
      rcases h with h | ⟨h0, h⟩
      · rw [hsz] at h; simp at h
      · have e : s[0] = c := by
          have : s.data.toList[0]? = some c := by rw [hl]; rfl
          rw [Lib.data_getElem? s 0 h0] at this
          exact Option.some.inj this
        rw [e] at h
        unfold numR
        simp only [h, if_true]
  have HN := Lib.hid hn
  clear hn
  unfold maxLen at hs
  rcases h with h | ⟨h0, h⟩
  · go_enter Tryd.func32, Tryd.ntmps32
    go_wp2
    go_loop [5, 6] (fun n i => i = .int .i64 0 ∧ n = .int .i64 0) (fun _ _ => 0)
    case atStart => exact ⟨rfl, rfl⟩
    case round =>
      obtain ⟨rfl, rfl⟩ := hrel
      go_wp2
      go_quiet (fail)
      go_wp2
      go_ret3
      exact ⟨_, rfl, .inr ⟨HN.out, _, _, rfl⟩⟩
  · unfold isDig at h
    have h' : (s[0].toNat : Int) < 48 ∨ 57 < (s[0].toNat : Int) := by simp at h; omega
    clear h
    rcases h' with h' | h'
    all_goals
      go_enter Tryd.func32, Tryd.ntmps32
      go_wp2
      go_loop [5, 6] (fun n i => i = .int .i64 0 ∧ n = .int .i64 0) (fun _ _ => 0)
      case atStart => exact ⟨rfl, rfl⟩
      case round =>
        obtain ⟨rfl, rfl⟩ := hrel
        go_wp2
        go_quiet (fail)
        go_wp2
        go_ret3
        exact ⟨_, rfl, .inr ⟨HN.out, _, _, rfl⟩⟩
theorem dig_range {c : UInt8} (h : isDig c = true) : 48 ≤ (c.toNat : Int) ∧ (c.toNat : Int) ≤ 57 := by
  unfold isDig at h
  simp at h
  omega
theorem dig_not {c : UInt8} (h : isDig c = false) : (c.toNat : Int) < 48 ∨ 57 < (c.toNat : Int) := by
  unfold isDig at h
  simp at h
  omega
theorem ext_empty (s : ByteArray) (a : Nat) : s.extract a a = ByteArray.empty := by
  apply ByteArray.ext
  apply Array.toList_inj.1
  simp
theorem bytes_at {s : ByteArray} : ∀ (i : Nat) (h : i < s.size), s.data.toList[i]? = some s[i] := fun i h => Lib.data_getElem? s i h
set_option maxRecDepth 100000 in
set_option maxHeartbeats 2000000 in
theorem num_one (s : ByteArray) (w : World) (hs : s.size ≤ maxLen) (h0 : 0 < s.size) (hd : isDig s[0] = true) (h : s.size = 1 ∨ ∃ h1 : 1 < s.size, isDig s[1] = false) : Calls Tryd.prog 32 #[.string s] w (NumPost s w) := by
  have hn : numR s.data.toList = some (s[0].toNat - 48, (s.extract 1 s.size).data.toList) := by
    rw [Lib.extract_to_end]
    have h0' := bytes_at 0 h0
    have hsz : s.size = s.data.toList.length := by simp
    cases hl : s.data.toList with
    | nil => exact absurd (show s.size = 0 by rw [hsz, hl]; rfl) (by omega)
    | cons c r =>
      rw [hl] at h0' hsz
      have e : s[0] = c := (Option.some.inj h0').symm
      rw [e] at hd ⊢
      unfold numR
      simp only [hd, Bool.true_eq_false, if_false]
      cases r with
      | nil => rfl
      | cons d r' =>
        rcases h with h | ⟨h1, h⟩
        · rw [hsz] at h; simp at h
        · have h1' := bytes_at 1 h1
          rw [hl] at h1'
          have e1 : s[1] = d := (Option.some.inj h1').symm
          rw [e1] at h
          simp only [h, if_true]
          rfl
  obtain ⟨b1, b2⟩ := dig_range hd
  have HN := Lib.hid hn
  have hrs : (s.extract 1 s.size).size < s.size := by simp; omega
  have HR := Lib.hid hrs
  have hk : s[0].toNat - 48 < 64 := by omega
  clear hn hd hrs
  unfold maxLen at hs
  have hx : (s.size = 1) ∨ (∃ h1 : 1 < s.size, (s[1].toNat : Int) < 48 ∨ 57 < (s[1].toNat : Int)) := h.imp id fun ⟨h1, h⟩ => ⟨h1, dig_not h⟩
  clear h
  obtain ⟨D, hD⟩ : ∃ D : Nat, D = s[0].toNat - 48 := ⟨_, rfl⟩
  have hDn : s[0].toNat = 48 + D := by rw [hD]; exact (Nat.add_sub_cancel' (by omega)).symm
  have hDi : (s[0].toNat : Int) = 48 + D := by rw [hDn]; simp
  clear hDn
  rw [← hD] at HN hk
  have hD10 : (D : Int) ≤ 9 := by omega
  have g1 : decide ((D : Int) < 64) = true := by simp; omega
  clear hD
  rcases hx with hx | ⟨h1, hx | hx⟩
  all_goals
    go_enter Tryd.func32, Tryd.ntmps32
    go_wp2
    go_loop [5, 6] (fun n i => (i = .int .i64 0 ∧ n = .int .i64 0) ∨ (i = .int .i64 1 ∧ n = .int .i64 (D : Int))) (fun _ i => 2 - (intOf i).toNat)
    case atStart => exact .inl ⟨rfl, rfl⟩
    case round =>
      rcases hrel with ⟨rfl, rfl⟩ | ⟨rfl, rfl⟩
      · go_wp2
        go_round
        case rel => exact .inr ⟨rfl, by first | rfl | (congr 1; omega)⟩
        case measure => simp [intOf]
      · go_wp2
        go_quiet (fail)
        go_wp2
        go_ret3
        first
          | exact ⟨_, rfl, .inl ⟨D, _, hk, HN.out, HR.out, rfl⟩⟩
          | exact ⟨_, rfl, .inl ⟨D, ByteArray.empty, hk, by rw [HN.out, show s.extract 1 s.size = ByteArray.empty from by rw [hx]; exact ext_empty s 1], h0, rfl⟩⟩
set_option maxRecDepth 100000 in
set_option maxHeartbeats 2000000 in
theorem num_two (s : ByteArray) (w : World) (hs : s.size ≤ maxLen) (h1 : 1 < s.size) (hd : isDig s[0] = true) (he : isDig s[1] = true) : Calls Tryd.prog 32 #[.string s] w (NumPost s w) := by
  have hn : numR s.data.toList = if 10 * (s[0].toNat - 48) + (s[1].toNat - 48) < 64 ∧ s[0] ≠ 48 then some (10 * (s[0].toNat - 48) + (s[1].toNat - 48), (s.extract 2 s.size).data.toList) else none := by
    rw [Lib.extract_to_end]
    have h0' := bytes_at 0 (by omega : 0 < s.size)
    have h1' := bytes_at 1 h1
    have hsz : s.size = s.data.toList.length := by simp
    cases hl : s.data.toList with
    | nil => exact absurd (show s.size = 0 by rw [hsz, hl]; rfl) (by omega)
    | cons c r =>
      rw [hl] at h0' h1' hsz
      have e : s[0] = c := (Option.some.inj h0').symm
      cases r with
      | nil => exact absurd (show s.size = 1 by rw [hsz]; rfl) (by omega)
      | cons d r' =>
        have e1 : s[1] = d := (Option.some.inj h1').symm
        rw [e] at hd ⊢
        rw [e1] at he ⊢
        unfold numR
        simp only [hd, he, Bool.true_eq_false, if_false]
        rfl
  obtain ⟨b1, b2⟩ := dig_range hd
  obtain ⟨b3, b4⟩ := dig_range he
  have hrs : (s.extract 2 s.size).size < s.size := by simp; omega
  have HR := Lib.hid hrs
  clear hd he hrs
  unfold maxLen at hs
  obtain ⟨D, hD⟩ : ∃ D : Nat, D = s[0].toNat - 48 := ⟨_, rfl⟩
  obtain ⟨E, hE⟩ : ∃ E : Nat, E = s[1].toNat - 48 := ⟨_, rfl⟩
  have hDn : s[0].toNat = 48 + D := by rw [hD]; exact (Nat.add_sub_cancel' (by omega)).symm
  have hDi : (s[0].toNat : Int) = 48 + D := by rw [hDn]; simp
  have hEn : s[1].toNat = 48 + E := by rw [hE]; exact (Nat.add_sub_cancel' (by omega)).symm
  have hEi : (s[1].toNat : Int) = 48 + E := by rw [hEn]; simp
  rw [← hD, ← hE] at hn
  have hz : s[0] = 48 ↔ D = 0 := by
    constructor
    · intro h
      rw [hD, h]
      rfl
    · intro h
      apply UInt8.toNat_inj.1
      have : (48 : UInt8).toNat = 48 := rfl
      omega
  have hD10 : (D : Int) ≤ 9 := by omega
  have hE10 : (E : Int) ≤ 9 := by omega
  have HZ := Lib.hid hz
  have HN := Lib.hid hn
  clear hD hE hz hn hEn hDn
  by_cases hlt : 10 * (D : Int) + E < 64
  · have g1 : decide (10 * (D : Int) + E < 64) = true := by simp; omega
    have g2 : decide ((E : Int) < 64) = true := by simp; omega
    by_cases hd0 : D = 0
    · subst hd0
      have hn : numR s.data.toList = none := by rw [HN.out, if_neg (fun h => h.2 (HZ.out.2 rfl))]
      have HX := Lib.hid hn
      clear hn
      go_enter Tryd.func32, Tryd.ntmps32
      go_wp2
      go_loop [5, 6] (fun n i => (i = .int .i64 0 ∧ n = .int .i64 0) ∨ (i = .int .i64 1 ∧ n = .int .i64 0) ∨ (i = .int .i64 2 ∧ n = .int .i64 (E : Int))) (fun _ i => 2 - (intOf i).toNat)
      case atStart => exact .inl ⟨rfl, rfl⟩
      case round =>
        rcases hrel with ⟨rfl, rfl⟩ | ⟨rfl, rfl⟩ | ⟨rfl, rfl⟩
        · go_wp2
          go_round
          case rel => exact .inr (.inl ⟨rfl, by first | rfl | (congr 1; omega)⟩)
          case measure => simp [intOf]
        · go_wp2
          go_round
          case rel => exact .inr (.inr ⟨rfl, by first | rfl | (congr 1; omega)⟩)
          case measure => simp [intOf]
        · go_wp2
          all_goals
            go_quiet (fail)
            go_wp2
            go_ret3
            exact ⟨_, rfl, .inr ⟨HX.out, _, _, rfl⟩⟩
    · have hn : numR s.data.toList = some (10 * D + E, (s.extract 2 s.size).data.toList) := by rw [HN.out, if_pos ⟨by omega, fun h => hd0 (HZ.out.1 h)⟩]
      have HX := Lib.hid hn
      have hne : ((48 : Int) + D != 48) = true := by simp; omega
      have hdd : ¬ (48 : Int) + D = 48 := by omega
      clear hn
      go_enter Tryd.func32, Tryd.ntmps32
      go_wp2
      go_loop [5, 6] (fun n i => (i = .int .i64 0 ∧ n = .int .i64 0) ∨ (i = .int .i64 1 ∧ n = .int .i64 (D : Int)) ∨ (i = .int .i64 2 ∧ n = .int .i64 (10 * (D : Int) + E))) (fun _ i => 2 - (intOf i).toNat)
      case atStart => exact .inl ⟨rfl, rfl⟩
      case round =>
        rcases hrel with ⟨rfl, rfl⟩ | ⟨rfl, rfl⟩ | ⟨rfl, rfl⟩
        · go_wp2
          go_round
          case rel => exact .inr (.inl ⟨rfl, by first | rfl | (congr 1; omega)⟩)
          case measure => simp [intOf]
        · go_wp2
          go_round
          case rel => exact .inr (.inr ⟨rfl, by first | rfl | (congr 1; omega)⟩)
          case measure => simp [intOf]
        · go_wp2
          all_goals
            go_quiet (fail)
            go_wp2
            go_ret3
            exact ⟨_, rfl, .inl ⟨10 * D + E, _, by omega, HX.out, HR.out, rfl⟩⟩
  · have hn : numR s.data.toList = none := by rw [HN.out, if_neg (fun h => by omega)]
    have HX := Lib.hid hn
    have hge : 64 ≤ 10 * (D : Int) + E := by omega
    have g1 : decide (10 * (D : Int) + E < 64) = false := by simp; omega
    clear hn
    go_enter Tryd.func32, Tryd.ntmps32
    go_wp2
    go_loop [5, 6] (fun n i => (i = .int .i64 0 ∧ n = .int .i64 0) ∨ (i = .int .i64 1 ∧ n = .int .i64 (D : Int)) ∨ (i = .int .i64 2 ∧ n = .int .i64 (10 * (D : Int) + E))) (fun _ i => 2 - (intOf i).toNat)
    case atStart => exact .inl ⟨rfl, rfl⟩
    case round =>
      rcases hrel with ⟨rfl, rfl⟩ | ⟨rfl, rfl⟩ | ⟨rfl, rfl⟩
      · go_wp2
        go_round
        case rel => exact .inr (.inl ⟨rfl, by first | rfl | (congr 1; omega)⟩)
        case measure => simp [intOf]
      · go_wp2
        go_round
        case rel => exact .inr (.inr ⟨rfl, by first | rfl | (congr 1; omega)⟩)
        case measure => simp [intOf]
      · go_wp2
        all_goals
          go_quiet (fail)
          go_wp2
          go_ret3
          exact ⟨_, rfl, .inr ⟨HX.out, _, _, rfl⟩⟩
theorem num_any (s : ByteArray) (w : World) (hs : s.size ≤ maxLen) : Calls Tryd.prog 32 #[.string s] w (NumPost s w) := by
  by_cases h0 : 0 < s.size
  · cases hd : isDig s[0]
    · exact num_none s w hs (.inr ⟨h0, hd⟩)
    · by_cases h1 : 1 < s.size
      · cases he : isDig s[1]
        · exact num_one s w hs h0 hd (.inr ⟨h1, he⟩)
        · exact num_two s w hs h1 hd he
      · exact num_one s w hs h0 hd (.inl (by omega))
  · exact num_none s w hs (.inl (by omega))
end Go.Proofs.YtmlknpoippfkeaaDoor
