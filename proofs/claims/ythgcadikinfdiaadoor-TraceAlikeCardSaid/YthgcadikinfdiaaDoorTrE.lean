/-
  Chapter 25: an event's value as a text; a line; the bounds.
-/
import Derived.Test.YthgcadikinfdiaaDoorTrB
import Derived.Test.YthgcadikinfdiaaDoorNumShow
import Derived.Test.YthgcadikinfdiaaDoorQuote
import Derived.Test.YthgcadikinfdiaaDoorRQuote
import Derived.Lib.ItoaLen
set_option linter.unusedVariables false
set_option linter.unusedSimpArgs false
namespace Go.Proofs.YthgcadikinfdiaaDoor
open Go.ChangeShapes Go.WideShapes Go.ChangeAt Go.RowKit

def textK (k n : Int) (s : ByteArray) : ByteArray :=
  if k = 0 then ⟨#[110, 105, 108]⟩ else if k = 1 then (if n = 0 then ⟨#[102, 97, 108, 115, 101]⟩ else ⟨#[116, 114, 117, 101]⟩) else if k = 2 then numText n else if k = 3 then quoteS s
  else if k = 4 then ⟨#[116, 97, 98, 108, 101]⟩ else if k = 5 then ⟨#[102, 117, 110, 99, 116, 105, 111, 110]⟩ else if k = 6 then ⟨#[116, 104, 114, 101, 97, 100]⟩ else ⟨#[63]⟩
def lineS (e : Ev) : ByteArray := numText e.channel ++ ⟨#[32]⟩ ++ textK e.kind e.n e.s ++ ⟨#[10]⟩
def showE (l : List Ev) : ByteArray := l.foldl (fun s e => s ++ lineS e) ByteArray.empty
theorem showE_snoc {l : List Ev} {k : Nat} {x : Ev} (h : l[k]? = some x) : showE (l.take (k + 1)) = showE (l.take k) ++ lineS x := by
  unfold showE
  rw [List.take_add_one, h, List.foldl_append]
  rfl
theorem numText_size (n : Int) (h0 : -9223372036854775808 ≤ n) (h1 : n ≤ 9223372036854775807) : (numText n).size ≤ 21 := by
  have := Lib.itoa_length_le n h0 h1
  simpa [numText, ByteArray.size] using this
theorem quoteS_size (s : ByteArray) : (quoteS s).size ≤ 4 * s.size + 2 := by
  have h := qTo_len s s.size (Nat.le_refl _)
  have e := qTo_all s
  have : (quoteS s).size = (quoteB s.data.toList).length := by simp [quoteS, ByteArray.size]
  rw [this, ← e, List.length_append]
  simp
  omega
theorem text_size (k n : Int) (s : ByteArray) (h0 : -9223372036854775808 ≤ n) (h1 : n ≤ 9223372036854775807) : (textK k n s).size ≤ 4 * s.size + 21 := by
  have hn := numText_size n h0 h1
  have hq := quoteS_size s
  unfold textK
  repeat' split
  all_goals first | omega | (simp only [ByteArray.size, List.size_toArray, List.length_cons, List.length_nil]; omega)
theorem line_size (e : Ev) (h0 : -9223372036854775808 ≤ e.channel ∧ e.channel ≤ 9223372036854775807) (h1 : -9223372036854775808 ≤ e.n ∧ e.n ≤ 9223372036854775807) : (lineS e).size ≤ 4 * e.s.size + 44 := by
  have h2 := numText_size e.channel h0.1 h0.2
  have h3 := text_size e.kind e.n e.s h1.1 h1.2
  have a1 : (⟨#[32]⟩ : ByteArray).size = 1 := rfl
  have a2 : (⟨#[10]⟩ : ByteArray).size = 1 := rfl
  unfold lineS
  rw [ByteArray.size_append, ByteArray.size_append, ByteArray.size_append, a1, a2]
  omega
def Small (e : Ev) : Prop := (-9223372036854775808 ≤ e.channel ∧ e.channel ≤ 9223372036854775807) ∧ (-9223372036854775808 ≤ e.n ∧ e.n ≤ 9223372036854775807) ∧ e.s.size ≤ 5000
theorem showE_size (l : List Ev) (h : ∀ e ∈ l, Small e) : ∀ k, k ≤ l.length → (showE (l.take k)).size ≤ k * 20044 := by
  intro k
  induction k with
  | zero => intro _; simp [showE]
  | succ k ih =>
    intro hk
    have hx : l[k]? = some l[k] := List.getElem?_eq_getElem (by omega)
    have hs := h l[k] (List.getElem_mem _)
    have h2 := line_size l[k] hs.1 hs.2.1
    have h3 := ih (by omega)
    have h4 := hs.2.2
    rw [showE_snoc hx, ByteArray.size_append]
    omega
set_option maxRecDepth 100000 in
set_option maxHeartbeats 4000000 in
theorem text_any (c k n : Int) (s : ByteArray) (w : World) (h0 : -9223372036854775808 ≤ n ∧ n ≤ 9223372036854775807) (hs : s.size ≤ 5000) (ht : Tab w) : Calls Tryd.prog 23 #[.agg #[.int .i64 c, .int .i64 k, .int .i64 n, .string s]] w (RetB (.string (textK k n s)) w) := by
  have HT := Lib.hid (ht.below ((Below.refl w.heap.size w).alloc (Nat.le_refl _) (.cells #[.int .i64 c, .int .i64 k, .int .i64 n, .string s] 38)))
  have HB := Lib.hid ((Below.refl w.heap.size w).alloc (Nat.le_refl _) (.cells #[.int .i64 c, .int .i64 k, .int .i64 n, .string s] 38))
  have hN := Lib.hid h0
  clear ht h0
  by_cases k0 : k = 0
  · subst k0
    go_enter Tryd.func23, Tryd.ntmps23
    go_wp2
    go_ret
    exact ⟨rfl, HB.out⟩
  by_cases k1 : k = 1
  · subst k1
    by_cases n0 : n = 0
    · subst n0
      go_enter Tryd.func23, Tryd.ntmps23
      go_wp2
      go_ret
      exact ⟨rfl, HB.out⟩
    · have e : textK 1 n s = ⟨#[116, 114, 117, 101]⟩ := by simp [textK, n0]
      rw [e]
      have n1 : (n == 0) = false := by simpa using n0
      go_enter Tryd.func23, Tryd.ntmps23
      go_wp2
      go_ret
      exact ⟨rfl, HB.out⟩
  by_cases k2 : k = 2
  · subst k2
    have e : textK 2 n s = numText n := by simp [textK]
    rw [e]
    go_enter Tryd.func23, Tryd.ntmps23
    go_wp2_with (go_at_call 22; refine (nshow_any n _ hN.out.1 hN.out.2 HT.out).mono ?_; rintro e w' ⟨rfl, hb⟩)
    go_ret
    exact ⟨rfl, HB.out.trans (hb.mono (by simp))⟩
  by_cases k3 : k = 3
  · subst k3
    have e : textK 3 n s = quoteS s := by simp [textK]
    rw [e]
    go_enter Tryd.func23, Tryd.ntmps23
    go_wp2_with (go_at_call 33; refine (quote_any s (by omega) _).mono ?_; rintro e w' ⟨rfl, hb⟩)
    go_ret
    exact ⟨rfl, HB.out.trans (hb.mono (by simp))⟩
  by_cases k4 : k = 4
  · subst k4
    go_enter Tryd.func23, Tryd.ntmps23
    go_wp2
    go_ret
    exact ⟨rfl, HB.out⟩
  by_cases k5 : k = 5
  · subst k5
    go_enter Tryd.func23, Tryd.ntmps23
    go_wp2
    go_ret
    exact ⟨rfl, HB.out⟩
  by_cases k6 : k = 6
  · subst k6
    go_enter Tryd.func23, Tryd.ntmps23
    go_wp2
    go_ret
    exact ⟨rfl, HB.out⟩
  have e : textK k n s = ⟨#[63]⟩ := by simp [textK, k0, k1, k2, k3, k4, k5, k6]
  rw [e]
  go_enter Tryd.func23, Tryd.ntmps23
  go_wp2
  go_ret
  exact ⟨rfl, HB.out⟩
set_option maxRecDepth 100000 in
set_option maxHeartbeats 4000000 in
theorem rvalue_any (c k n : Int) (s : ByteArray) (w : World) (h0 : -9223372036854775808 ≤ n ∧ n ≤ 9223372036854775807) (hs : s.size ≤ 5000) (ht : Tab w) : Calls Tryd.prog 26 #[.agg #[.int .i64 c, .int .i64 k, .int .i64 n, .string s]] w (RetB (.string (textK k n s)) w) := by
  have HT := Lib.hid (ht.below ((Below.refl w.heap.size w).alloc (Nat.le_refl _) (.cells #[.int .i64 c, .int .i64 k, .int .i64 n, .string s] 38)))
  have HB := Lib.hid ((Below.refl w.heap.size w).alloc (Nat.le_refl _) (.cells #[.int .i64 c, .int .i64 k, .int .i64 n, .string s] 38))
  have hN := Lib.hid h0
  clear ht h0
  by_cases k0 : k = 0
  · subst k0
    go_enter Tryd.func26, Tryd.ntmps26
    go_wp2
    go_ret
    exact ⟨rfl, HB.out⟩
  by_cases k1 : k = 1
  · subst k1
    by_cases n0 : n = 0
    · subst n0
      go_enter Tryd.func26, Tryd.ntmps26
      go_wp2
      go_ret
      exact ⟨rfl, HB.out⟩
    · have e : textK 1 n s = ⟨#[116, 114, 117, 101]⟩ := by simp [textK, n0]
      rw [e]
      have n1 : (n == 0) = false := by simpa using n0
      go_enter Tryd.func26, Tryd.ntmps26
      go_wp2
      go_ret
      exact ⟨rfl, HB.out⟩
  by_cases k2 : k = 2
  · subst k2
    have e : textK 2 n s = numText n := by simp [textK]
    rw [e]
    go_enter Tryd.func26, Tryd.ntmps26
    go_wp2_with (go_at_call 25; refine (rshow_any n _ hN.out.1 hN.out.2 HT.out).mono ?_; rintro e w' ⟨rfl, hb⟩)
    go_ret
    exact ⟨rfl, HB.out.trans (hb.mono (by simp))⟩
  by_cases k3 : k = 3
  · subst k3
    have e : textK 3 n s = quoteS s := by simp [textK]
    rw [e]
    go_enter Tryd.func26, Tryd.ntmps26
    go_wp2_with (go_at_call 34; refine (rquote_any s (by omega) _).mono ?_; rintro e w' ⟨rfl, hb⟩)
    go_ret
    exact ⟨rfl, by obtain ⟨q, rfl⟩ := hb; exact below_drewN HB.out _⟩
  by_cases k4 : k = 4
  · subst k4
    go_enter Tryd.func26, Tryd.ntmps26
    go_wp2
    go_ret
    exact ⟨rfl, HB.out⟩
  by_cases k5 : k = 5
  · subst k5
    go_enter Tryd.func26, Tryd.ntmps26
    go_wp2
    go_ret
    exact ⟨rfl, HB.out⟩
  by_cases k6 : k = 6
  · subst k6
    go_enter Tryd.func26, Tryd.ntmps26
    go_wp2
    go_ret
    exact ⟨rfl, HB.out⟩
  have e : textK k n s = ⟨#[63]⟩ := by simp [textK, k0, k1, k2, k3, k4, k5, k6]
  rw [e]
  go_enter Tryd.func26, Tryd.ntmps26
  go_wp2
  go_ret
  exact ⟨rfl, HB.out⟩
end Go.Proofs.YthgcadikinfdiaaDoor
