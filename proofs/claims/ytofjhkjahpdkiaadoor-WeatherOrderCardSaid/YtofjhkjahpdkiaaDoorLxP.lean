/-
  Plain facts about the lexer's meaning, as the walks want them.
-/
import Derived.Test.YtofjhkjahpdkiaaDoorLxS
import Derived.Lib.Bytealg
import Derived.Lib.IndexLaws
import Derived.Lib.IndexBytes
namespace Go.Proofs.YtofjhkjahpdkiaaDoor.Lx
set_option linter.unusedVariables false
set_option linter.unusedSimpArgs false
theorem u8_all {p : UInt8 → Bool} (h : (List.range 256).all (fun n => p (UInt8.ofNat n)) = true) (b : UInt8) : p b = true := by
  have := List.all_eq_true.1 h b.toNat (List.mem_range.2 (UInt8.toNat_lt b))
  simpa using this
theorem u8_eq {f g : UInt8 → Bool} (h : (List.range 256).all (fun n => f (UInt8.ofNat n) == g (UInt8.ofNat n)) = true) (b : UInt8) : f b = g b := by
  have := u8_all (p := fun b => f b == g b) h b
  simpa using this
theorem cls_blank (b : UInt8) : ([1] : List Int).contains (cls b) = isBlank b := u8_eq (f := fun b => ([1] : List Int).contains (cls b)) (g := fun b => isBlank b) (by decide +kernel) b
theorem cls_digit (b : UInt8) : ([4] : List Int).contains (cls b) = isDigit b := u8_eq (f := fun b => ([4] : List Int).contains (cls b)) (g := fun b => isDigit b) (by decide +kernel) b
theorem cls_word (b : UInt8) : ([3, 4, 5] : List Int).contains (cls b) = isWord b := u8_eq (f := fun b => ([3, 4, 5] : List Int).contains (cls b)) (g := fun b => isWord b) (by decide +kernel) b
theorem cls_letter (b : UInt8) : (cls b == 3) = isLetter b := u8_eq (f := fun b => (cls b == 3)) (g := fun b => isLetter b) (by decide +kernel) b
theorem cls_digit' (b : UInt8) : (cls b == 4) = isDigit b := u8_eq (f := fun b => (cls b == 4)) (g := fun b => isDigit b) (by decide +kernel) b
theorem cls_under (b : UInt8) : (cls b == 5) = (b == 95) := u8_eq (f := fun b => (cls b == 5)) (g := fun b => (b == 95)) (by decide +kernel) b
theorem cls_hash (b : UInt8) : (cls b == 2) = (b == 35) := u8_eq (f := fun b => (cls b == 2)) (g := fun b => (b == 35)) (by decide +kernel) b
theorem cls_quote (b : UInt8) : (cls b == 6) = (b == 34) := u8_eq (f := fun b => (cls b == 6)) (g := fun b => (b == 34)) (by decide +kernel) b
theorem cls_mark (b : UInt8) : (cls b == 7) = (b == 33) := u8_eq (f := fun b => (cls b == 7)) (g := fun b => (b == 33)) (by decide +kernel) b
theorem cls_range (b : UInt8) : (decide (0 ≤ cls b) && decide (cls b ≤ 9)) = true := u8_all (p := fun b => decide (0 ≤ cls b) && decide (cls b ≤ 9)) (by decide +kernel) b

def whileEnd (s : ByteArray) (cl : List Int) (i : Nat) : Nat := i + ((s.data.toList.drop i).takeWhile (fun b => cl.contains (cls b))).length
theorem whileEnd_out {s : ByteArray} {cl : List Int} {i : Nat} (h : s.size ≤ i) : whileEnd s cl i = i := by
  unfold whileEnd
  rw [List.drop_eq_nil_of_le (by simpa using h)]
  simp
theorem drop_cons {s : ByteArray} {i : Nat} (h : i < s.size) : s.data.toList.drop i = s[i] :: s.data.toList.drop (i + 1) := List.drop_eq_getElem_cons (by simpa using h)
theorem whileEnd_yes {s : ByteArray} {cl : List Int} {i : Nat} (h : i < s.size) (hc : cl.contains (cls s[i]) = true) : whileEnd s cl i = whileEnd s cl (i + 1) := by
  unfold whileEnd
  rw [drop_cons h, List.takeWhile_cons, if_pos hc, List.length_cons]
  omega
theorem whileEnd_no {s : ByteArray} {cl : List Int} {i : Nat} (h : i < s.size) (hc : cl.contains (cls s[i]) = false) : whileEnd s cl i = i := by
  unfold whileEnd
  rw [drop_cons h, List.takeWhile_cons, if_neg (by rw [hc]; simp)]
  simp
theorem whileEnd_le {s : ByteArray} {cl : List Int} {i : Nat} (h : i ≤ s.size) : i ≤ whileEnd s cl i ∧ whileEnd s cl i ≤ s.size := by
  unfold whileEnd
  have := (List.takeWhile_prefix (l := s.data.toList.drop i) (fun b => cl.contains (cls b))).length_le
  rw [List.length_drop] at this
  have hz : s.data.toList.length = s.size := by simp
  omega
theorem drop_takeWhile {α : Type} (p : α → Bool) (l : List α) : l.drop (l.takeWhile p).length = l.dropWhile p := by
  induction l with
  | nil => rfl
  | cons b r ih =>
    rw [List.takeWhile_cons, List.dropWhile_cons]
    by_cases h : p b = true
    · rw [if_pos h, if_pos h, List.length_cons, List.drop_succ_cons, ih]
    · rw [if_neg h, if_neg h]; rfl
theorem drop_whileEnd (s : ByteArray) (cl : List Int) (i : Nat) : s.data.toList.drop (whileEnd s cl i) = (s.data.toList.drop i).dropWhile (fun b => cl.contains (cls b)) := by
  unfold whileEnd
  rw [← List.drop_drop]
  exact drop_takeWhile _ _
def gapEnd (s : ByteArray) (i : Nat) : Nat := s.size - (skp false (s.data.toList.drop i)).length
theorem skp_blanks (l : List UInt8) : skp false (l.dropWhile isBlank) = skp false l := by
  induction l with
  | nil => rfl
  | cons b r ih =>
    rw [List.dropWhile_cons]
    by_cases h : isBlank b = true
    · rw [if_pos h, ih]
      conv => rhs; rw [skp, if_pos h]
    · rw [if_neg h]
theorem gapEnd_while (s : ByteArray) (i : Nat) : gapEnd s (whileEnd s [1] i) = gapEnd s i := by
  unfold gapEnd
  rw [drop_whileEnd, show (fun b => ([1] : List Int).contains (cls b)) = isBlank from funext cls_blank, skp_blanks]
theorem gapEnd_le (s : ByteArray) (i : Nat) (hi : i ≤ s.size) : i ≤ gapEnd s i ∧ gapEnd s i ≤ s.size := by
  unfold gapEnd
  have := skp_le false (s.data.toList.drop i)
  rw [List.length_drop] at this
  have hz : s.data.toList.length = s.size := by simp
  omega
theorem gapEnd_end (s : ByteArray) : gapEnd s s.size = s.size := by
  have := gapEnd_le s s.size (Nat.le_refl _)
  omega
theorem while_head {s : ByteArray} {i k : Nat} (hk : k = whileEnd s [1] i) (h : k < s.size) : isBlank s[k] = false := by
  have e := drop_whileEnd s [1] i
  rw [← hk, drop_cons h, show (fun b => ([1] : List Int).contains (cls b)) = isBlank from funext cls_blank] at e
  have := List.head?_dropWhile_not isBlank (s.data.toList.drop i)
  rw [← e] at this
  simpa using this
theorem gapEnd_stop {s : ByteArray} {k : Nat} (h : k < s.size) (hb : isBlank s[k] = false) (hh : (cls s[k] == 2) = false) : gapEnd s k = k := by
  unfold gapEnd
  rw [cls_hash] at hh
  rw [drop_cons h, skp, if_neg (by rw [hb]; simp), if_neg (by rw [hh]; simp), ← drop_cons h, List.length_drop]
  have hz : s.data.toList.length = s.size := by simp
  omega
theorem skp_true_none {l : List UInt8} (h : Lib.indexByte l 10 = -1) : skp true l = [] := by
  induction l with
  | nil => rfl
  | cons b r ih =>
    rw [Lib.indexByte] at h
    have hge := Lib.indexByte_ge r 10
    by_cases hb : (b == 10) = true
    · simp [hb] at h
    · rw [if_neg hb] at h
      rw [skp, if_neg hb]
      refine ih ?_
      by_cases hr : (Lib.indexByte r 10 == -1) = true
      · simpa using hr
      · rw [if_neg hr] at h
        omega
theorem skp_true_some {l : List UInt8} {n : Nat} (h : Lib.indexByte l 10 = n) : n < l.length ∧ skp true l = skp false (l.drop n) := by
  induction l generalizing n with
  | nil => simp [Lib.indexByte] at h
  | cons b r ih =>
    rw [Lib.indexByte] at h
    have hge := Lib.indexByte_ge r 10
    by_cases hb : (b == 10) = true
    · rw [if_pos hb] at h
      obtain rfl : n = 0 := by omega
      refine ⟨by simp, ?_⟩
      have hb' : b = 10 := by simpa using hb
      subst hb'
      rw [List.drop_zero]
      simp [skp, isBlank]
    · rw [if_neg hb] at h
      rw [skp, if_neg hb]
      by_cases hr : (Lib.indexByte r 10 == -1) = true
      · rw [if_pos hr] at h; omega
      · rw [if_neg hr] at h
        have hr' : Lib.indexByte r 10 ≠ -1 := by simpa using hr
        obtain ⟨m, rfl⟩ : ∃ m, n = m + 1 := ⟨n - 1, by omega⟩
        obtain ⟨h1, h2⟩ := ih (n := m) (by omega)
        refine ⟨by simpa using h1, ?_⟩
        rw [h2, List.drop_succ_cons]
theorem gapEnd_hash_none {s : ByteArray} {k : Nat} (h : k < s.size) (hb : isBlank s[k] = false) (hh : (cls s[k] == 2) = true) (hn : Lib.indexByte (s.data.toList.drop k) 10 < 0) : gapEnd s k = s.size := by
  unfold gapEnd
  rw [cls_hash] at hh
  have hge := Lib.indexByte_ge (s.data.toList.drop k) 10
  have h1 : Lib.indexByte (s.data.toList.drop k) 10 = -1 := by omega
  have h2 : skp true (s.data.toList.drop k) = [] := skp_true_none h1
  rw [drop_cons h] at h2 ⊢
  have h10 : ¬ ((s[k] == 10) = true) := by
    intro he
    have := eq_of_beq hh
    rw [this] at he
    exact absurd he (by decide)
  rw [skp, if_neg h10] at h2
  rw [skp, if_neg (by rw [hb]; simp), if_pos hh, h2]
  simp
theorem gapEnd_hash_some {s : ByteArray} {k n : Nat} (h : k < s.size) (hb : isBlank s[k] = false) (hh : (cls s[k] == 2) = true) (hn : Lib.indexByte (s.data.toList.drop k) 10 = n) : 1 ≤ n ∧ k + n < s.size ∧ gapEnd s (k + n) = gapEnd s k := by
  rw [cls_hash] at hh
  obtain ⟨h1, h2⟩ := skp_true_some hn
  rw [List.length_drop] at h1
  have hz : s.data.toList.length = s.size := by simp
  have h10 : ¬ ((s[k] == 10) = true) := by
    intro he
    have := eq_of_beq hh
    rw [this] at he
    exact absurd he (by decide)
  refine ⟨?_, by omega, ?_⟩
  · rcases Nat.eq_zero_or_pos n with rfl | hp
    · have := (Lib.indexByte_some hn).1
      rw [drop_cons h] at this
      simp at this
      exact absurd (by simpa using this) h10
    · exact hp
  · unfold gapEnd
    rw [← List.drop_drop, ← h2, drop_cons h]
    conv => rhs; rw [skp, if_neg (by rw [hb]; simp), if_pos hh]
    conv => lhs; rw [skp, if_neg h10]
end Go.Proofs.YtofjhkjahpdkiaaDoor.Lx
