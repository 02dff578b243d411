/-
  The lexer's answers as the print wants them, and what a loop over the tokens keeps.
-/
import Derived.Test.YtofjhkjahpdkiaaDoorLxP
import Derived.Test.YtofjhkjahpdkiaaDoorPxx0
namespace Go.Proofs.YtofjhkjahpdkiaaDoor.Px
open Go.RowKit Go.Proofs.YtofjhkjahpdkiaaDoorW.PrintWords Go.Proofs.YtofjhkjahpdkiaaDoorW.PrintLast Go.Proofs.YtofjhkjahpdkiaaDoorW.PrintMore Go.Proofs.YtofjhkjahpdkiaaDoor.Lx
set_option linter.unusedVariables false
set_option linter.unusedSimpArgs false
abbrev STok := S50
abbrev kTok := k50
def toS (t : Tok) : STok := ⟨t.kind, ⟨t.text.toArray⟩, t.n, (t.at_ : Int)⟩
def lexR (x : List Tok × Option (Int × Nat)) : List STok × Int × Int :=
  if 5000 < x.1.length then ([], 2, ((x.1.map Tok.at_).getD 5000 0 : Nat)) else
  match x.2 with
  | none => (x.1.map toS, 0, 0)
  | some (e, p) => ([], e, (p : Int))
def lexP (s : ByteArray) : List STok × Int × Int :=
  if 20000 < s.size then ([], 2, -1) else lexR (lexA (s.size + 1) s.data.toList 0)
def lexer_Lex.f (a0 : ByteArray) : Option (List STok × Int × Int) := some (lexP a0)
theorem skp_suffix (c : Bool) (l : List UInt8) : skp c l = l.drop (l.length - (skp c l).length) := by
  induction l generalizing c with
  | nil => cases c <;> rfl
  | cons b r ih =>
    have hle := fun c => skp_le c r
    have key : ∀ c, r.drop (r.length - (skp c r).length) = (b :: r).drop ((b :: r).length - (skp c r).length) := by
      intro c
      have := hle c
      rw [List.length_cons, show r.length + 1 - (skp c r).length = (r.length - (skp c r).length) + 1 by omega, List.drop_succ_cons]
    cases c
    · by_cases h1 : isBlank b = true
      · simp only [skp, if_pos h1]; exact (ih false).trans (key false)
      · by_cases h2 : (b == 35) = true
        · simp only [skp, if_neg h1, if_pos h2]; exact (ih true).trans (key true)
        · simp only [skp, if_neg h1, if_neg h2, List.length_cons, Nat.sub_self, List.drop_zero]
    · by_cases h1 : (b == 10) = true
      · simp only [skp, if_pos h1]; exact (ih false).trans (key false)
      · simp only [skp, if_neg h1]; exact (ih true).trans (key true)
theorem drop_gap {s : ByteArray} {q : Nat} (h : q ≤ s.size) : skp false (s.data.toList.drop q) = s.data.toList.drop (gapEnd s q) := by
  have e := skp_suffix false (s.data.toList.drop q)
  have hle := skp_le false (s.data.toList.drop q)
  have hz : s.data.toList.length = s.size := by simp
  rw [e, List.drop_drop]
  unfold gapEnd
  rw [List.length_drop] at hle ⊢
  congr 1
  omega
theorem gap_off {s : ByteArray} {q : Nat} (h : q ≤ s.size) : q + ((s.data.toList.drop q).length - (skp false (s.data.toList.drop q)).length) = gapEnd s q := by
  have hle := skp_le false (s.data.toList.drop q)
  have hz : s.data.toList.length = s.size := by simp
  unfold gapEnd
  rw [List.length_drop] at hle ⊢
  omega
theorem takeWhile_le {p : UInt8 → Bool} (l : List UInt8) : (l.takeWhile p).length ≤ l.length := (List.takeWhile_prefix p).length_le
theorem tok1_w {l : List UInt8} {k : Int} {t : List UInt8} {n : Int} {w : Nat} (h : tok1 l = .tok k t n w) : 1 ≤ w ∧ w ≤ l.length := by
  cases l with
  | nil => simp [tok1] at h
  | cons b r =>
    rw [tok1] at h
    have h1 := takeWhile_le (p := isWord) r
    have h2 := takeWhile_le (p := isDigit) r
    split at h
    · split at h
      · exact absurd h (by simp)
      · injection h with _ _ _ h; subst h; simp; omega
    · split at h
      · split at h
        · exact absurd h (by simp)
        · injection h with _ _ _ h; subst h; simp; omega
      · split at h
        · split at h
          · rename_i hh
            split at h
            · exact absurd h (by simp)
            · injection h with _ _ _ h; subst h
              have a1 : (r.takeWhile notStr ++ r.dropWhile notStr).length = r.length := by rw [List.takeWhile_append_dropWhile]
              rw [List.length_append] at a1
              have a2 : 1 ≤ (r.dropWhile notStr).length := by
                cases hd : r.dropWhile notStr with
                | nil => rw [hd] at hh; simp at hh
                | cons x y => simp
              simp; omega
          · exact absurd h (by simp)
        · split at h
          · rename_i hh
            injection h with _ _ _ h; subst h
            rw [Bool.and_eq_true] at hh
            cases r with
            | nil => simp at hh
            | cons x y => simp
          · split at h
            · injection h with _ _ _ h; subst h; simp
            · exact absurd h (by simp)
theorem tok1_err {l : List UInt8} {e : Int} (h : tok1 l = .err e) : e = 2 ∨ e = 3 ∨ e = 4 ∨ e = 6 := by
  cases l with
  | nil => simp [tok1] at h; omega
  | cons b r =>
    rw [tok1] at h
    repeat' split at h
    all_goals first | (injection h with h; omega) | exact absurd h (by simp)
def Rst (s : ByteArray) (full : List Tok × Option (Int × Nat)) (i : Nat) (xs : List STok) : Prop :=
  ∃ q f pre, i = gapEnd s q ∧ q ≤ s.size ∧ s.size - q < f ∧ xs = List.map toS pre ∧ pre.length ≤ 5000 ∧
    full = (pre ++ (lexA f (s.data.toList.drop q) q).1, (lexA f (s.data.toList.drop q) q).2)
theorem Rst.start (s : ByteArray) : Rst s (lexA (s.size + 1) s.data.toList 0) (gapEnd s 0) [] :=
  ⟨0, s.size + 1, [], rfl, Nat.zero_le _, by omega, rfl, Nat.zero_le _, rfl⟩
theorem Rst.fin {s : ByteArray} {full : List Tok × Option (Int × Nat)} {xs : List STok} (h : Rst s full s.size xs) : lexR full = (xs, 0, 0) := by
  obtain ⟨q, f, pre, hi, hq, hf, rfl, hl, rfl⟩ := h
  obtain ⟨f, rfl⟩ : ∃ g, f = g + 1 := ⟨f - 1, by omega⟩
  have hz : s.data.toList.length = s.size := by simp
  have e : skp false (s.data.toList.drop q) = [] := by rw [drop_gap hq, ← hi, List.drop_eq_nil_of_le (by omega)]
  have e2 : lexA (f + 1) (s.data.toList.drop q) q = ([], none) := by rw [lexA, e]; rfl
  rw [e2, lexR]
  rw [if_neg (by simp; omega)]
  simp
theorem lexA_at {s : ByteArray} {q f : Nat} (hq : q ≤ s.size) (hi : gapEnd s q < s.size) :
    lexA (f + 1) (s.data.toList.drop q) q = match tok1 (s.data.toList.drop (gapEnd s q)) with
      | .err e => ([], some (e, gapEnd s q))
      | .tok k t n w => ((⟨k, t, n, gapEnd s q⟩ : Tok) :: (lexA f (s.data.toList.drop (gapEnd s q + w)) (gapEnd s q + w)).1, (lexA f (s.data.toList.drop (gapEnd s q + w)) (gapEnd s q + w)).2) := by
  have hz : s.data.toList.length = s.size := by simp
  have hne : (s.data.toList.drop (gapEnd s q)).isEmpty = false := by
    rw [drop_cons hi]; rfl
  rw [lexA, gap_off hq, drop_gap hq]
  simp only [hne, Bool.false_eq_true, if_false, List.drop_drop]
  cases tok1 (List.drop (gapEnd s q) s.data.toList) <;> rfl
theorem Rst.err {s : ByteArray} {full : List Tok × Option (Int × Nat)} {xs : List STok} {i : Nat} {e : Int} (h : Rst s full i xs) (hi : i < s.size) (ht : tok1 (s.data.toList.drop i) = .err e) : lexR full = ([], e, (i : Int)) := by
  obtain ⟨q, f, pre, rfl, hq, hf, rfl, hl, rfl⟩ := h
  obtain ⟨f, rfl⟩ : ∃ g, f = g + 1 := ⟨f - 1, by omega⟩
  rw [lexA_at hq hi, ht, lexR, if_neg (by simp; omega)]
theorem Rst.many {s : ByteArray} {full : List Tok × Option (Int × Nat)} {xs : List STok} {i : Nat} {k : Int} {t : List UInt8} {n : Int} {w : Nat} (h : Rst s full i xs) (hi : i < s.size) (ht : tok1 (s.data.toList.drop i) = .tok k t n w) (hx : xs.length = 5000) : lexR full = ([], 2, (i : Int)) := by
  obtain ⟨q, f, pre, rfl, hq, hf, rfl, hl, rfl⟩ := h
  obtain ⟨f, rfl⟩ : ∃ g, f = g + 1 := ⟨f - 1, by omega⟩
  have hp : pre.length = 5000 := by simpa using hx
  rw [lexA_at hq hi, ht, lexR, if_pos (by simp; omega)]
  simp only [List.map_append, List.map_cons, List.getD_eq_getElem?_getD]
  rw [List.getElem?_append_right (by simp [hp])]
  simp [hp]
theorem Rst.step {s : ByteArray} {full : List Tok × Option (Int × Nat)} {xs : List STok} {i : Nat} {k : Int} {t : List UInt8} {n : Int} {w : Nat} (h : Rst s full i xs) (hi : i < s.size) (ht : tok1 (s.data.toList.drop i) = .tok k t n w) (hx : xs.length ≠ 5000) :
    i + w ≤ s.size ∧ 1 ≤ w ∧ xs.length < 5000 ∧ Rst s full (gapEnd s (i + w)) (xs ++ [(⟨k, ⟨t.toArray⟩, n, (i : Int)⟩ : STok)]) := by
  obtain ⟨q, f, pre, rfl, hq, hf, rfl, hl, rfl⟩ := h
  obtain ⟨f, rfl⟩ : ∃ g, f = g + 1 := ⟨f - 1, by omega⟩
  have hz : s.data.toList.length = s.size := by simp
  obtain ⟨h1, h2⟩ := tok1_w ht
  rw [List.length_drop] at h2
  have hp : pre.length ≠ 5000 := by simpa using hx
  have hge := gapEnd_le s q hq
  refine ⟨by omega, h1, by simp; omega, gapEnd s q + w, f, pre ++ [⟨k, t, n, gapEnd s q⟩], rfl, by omega, by omega, by simp [toS], by simp; omega, ?_⟩
  rw [lexA_at hq hi, ht]
  simp
end Go.Proofs.YtofjhkjahpdkiaaDoor.Px
