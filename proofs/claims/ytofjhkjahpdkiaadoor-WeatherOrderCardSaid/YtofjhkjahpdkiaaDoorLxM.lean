/-
  The lexer's next comes to tok1: all ways joined.
-/
import Derived.Test.YtofjhkjahpdkiaaDoorLxN
namespace Go.Proofs.YtofjhkjahpdkiaaDoor.Lx
open Go.RowKit Go.Proofs.YtofjhkjahpdkiaaDoorW.PrintWords
set_option linter.unusedVariables false
set_option linter.unusedSimpArgs false
theorem ba_ext {a b : ByteArray} (h : a.data.toList = b.data.toList) : a = b := by
  obtain ⟨⟨l⟩⟩ := a
  obtain ⟨⟨l'⟩⟩ := b
  simp at h
  rw [h]
def nextOf (i : Nat) : R → Value
  | .err e => nextV noTok 0 e
  | .tok k t n wd => nextV (tokV k ⟨t.toArray⟩ n i) ((i : Int) + wd) 0
theorem take_takeWhile {α : Type} (p : α → Bool) (l : List α) : l.take (l.takeWhile p).length = l.takeWhile p := by
  induction l with
  | nil => rfl
  | cons b r ih =>
    rw [List.takeWhile_cons]
    by_cases h : p b = true
    · rw [if_pos h, List.length_cons, List.take_succ_cons, ih]
    · rw [if_neg h]; rfl
theorem whileEnd_eq {s : ByteArray} {cl : List Int} {p : UInt8 → Bool} (hp : ∀ b, cl.contains (cls b) = p b) (i : Nat) : whileEnd s cl i = i + ((s.data.toList.drop i).takeWhile p).length := by
  unfold whileEnd
  rw [show (fun b => cl.contains (cls b)) = p from funext hp]
theorem extract_while {s : ByteArray} {p : UInt8 → Bool} (i : Nat) : (s.extract i (i + ((s.data.toList.drop i).takeWhile p).length)).data.toList = (s.data.toList.drop i).takeWhile p := by
  rw [Lib.extract_data, Nat.add_sub_cancel_left, take_takeWhile]
theorem clsAt_drop (s : ByteArray) (j : Nat) : clsAt s j = ((s.data.toList.drop j).head?.map cls).getD 0 := by
  by_cases h : j < s.size
  · rw [clsAt_in h, drop_cons h]; rfl
  · rw [clsAt_out (by omega), List.drop_eq_nil_of_le (by rw [← Lib.size_eq]; omega)]; rfl
theorem all_takeWhile (p : UInt8 → Bool) (l : List UInt8) : (l.takeWhile p).all p = true := by
  induction l with
  | nil => rfl
  | cons b r ih =>
    rw [List.takeWhile_cons]
    by_cases h : p b = true
    · rw [if_pos h, List.all_cons, h, ih]; rfl
    · rw [if_neg h]; rfl
theorem notStr_iff (b : UInt8) : ([34, 10] : List UInt8).contains b = !notStr b := u8_eq (f := fun b => ([34, 10] : List UInt8).contains b) (g := fun b => !notStr b) (by decide +kernel) b
theorem indexAny_q (r : List UInt8) : (r.dropWhile notStr = [] ∧ Lib.indexAny r [34, 10] = -1) ∨ (∃ c t, r.dropWhile notStr = c :: t ∧ (c = 34 ∨ c = 10) ∧ Lib.indexAny r [34, 10] = ((r.takeWhile notStr).length : Nat)) := by
  induction r with
  | nil => left; exact ⟨rfl, rfl⟩
  | cons b r ih =>
    have hb := notStr_iff b
    rw [List.dropWhile_cons, List.takeWhile_cons, Lib.indexAny]
    by_cases h : notStr b = true
    · rw [if_pos h, if_pos h, hb, h]
      simp only [Bool.not_true, Bool.false_eq_true, if_false, List.length_cons]
      rcases ih with ⟨h1, h2⟩ | ⟨c, t, h1, h2, h3⟩
      · left; exact ⟨h1, by rw [h2]; rfl⟩
      · right
        refine ⟨c, t, h1, h2, ?_⟩
        rw [h3, if_neg (by rw [beq_iff_eq]; omega)]
        omega
    · rw [if_neg h, if_neg h, hb]
      right
      have hb' : notStr b = false := by simpa using h
      refine ⟨b, r, rfl, ?_, by rw [hb']; rfl⟩
      rw [hb'] at hb
      simpa using hb
theorem prefix_eq (r : List UInt8) : Lib.hasPrefix r [61] = (r.head? == some 61) := by
  cases r with
  | nil => rfl
  | cons b t =>
    by_cases h : b = 61
    · subst h; rfl
    · have h' : ((61 : UInt8) == b) = false := beq_eq_false_iff_ne.2 (Ne.symm h)
      simp [Lib.hasPrefix, List.isPrefixOf, h, h']
theorem next_any (b : Nat) (s : ByteArray) (i : Nat) (w : World) (hs : IsScan w b s) (hb : s.size < 4294967281) (hi : i < s.size) :
    Calls Tryd.prog 44 #[.pointer (some ⟨b, 0, none⟩), .int .i64 i] w fun e w' => e = .returned (nextOf i (tok1 (s.data.toList.drop i))) ∧ Below w.heap.size w w' := by
  have hl := drop_cons hi
  have hcls := clsAt_in hi
  have hlen : s.data.toList.length = s.size := by rw [Lib.size_eq]
  generalize hb0 : s[i] = c at *
  have dl : s.data.toList.drop (i + 1) = s.data.toList.drop (i + 1) := rfl
  generalize hr0 : s.data.toList.drop (i + 1) = r at *
  have q3 := cls_letter c
  have q4 := cls_digit' c
  have q6 := cls_quote c
  by_cases hL : isLetter c = true
  · rw [hL] at q3
    have hc : clsAt s i = 3 := by rw [hcls]; exact eq_of_beq q3
    have hw : isWord c = true := by unfold isWord; rw [hL]; rfl
    have e1 : (s.data.toList.drop i).takeWhile isWord = c :: r.takeWhile isWord := by rw [hl, List.takeWhile_cons, if_pos hw]
    have e2 := whileEnd_eq (s := s) cls_word i
    have e3 := extract_while (s := s) (p := isWord) i
    rw [hl, tok1, if_pos hL]
    by_cases h24 : (c :: r.takeWhile isWord).length > 24
    · rw [if_pos h24]
      exact next_name_long b s i w hs hb hi hc (by rw [e2, e1]; omega)
    · rw [if_neg h24]
      refine (next_name_ok b s i w hs hb hi hc (by rw [e2, e1]; omega)).mono ?_
      rintro e w' ⟨rfl, hbw⟩
      refine ⟨?_, hbw⟩
      have e4 : s.extract i (whileEnd s [3, 4, 5] i) = ⟨(c :: r.takeWhile isWord).toArray⟩ := ba_ext (by rw [e2, e3, e1])
      rw [e4, e2, e1]
      simp only [nextOf, Int.natCast_add]
  · have hL' : isLetter c = false := by simpa using hL
    by_cases hD : isDigit c = true
    · rw [hD] at q4
      have hc : clsAt s i = 4 := by rw [hcls]; exact eq_of_beq q4
      have e1 : (s.data.toList.drop i).takeWhile isDigit = c :: r.takeWhile isDigit := by rw [hl, List.takeWhile_cons, if_pos hD]
      have e2 := whileEnd_eq (s := s) cls_digit i
      have e3 := extract_while (s := s) (p := isDigit) i
      have e5 := drop_whileEnd s [4] i
      rw [show (fun b => ([4] : List Int).contains (cls b)) = isDigit from funext cls_digit, hl, List.dropWhile_cons, if_pos hD] at e5
      have e6 := clsAt_drop s (whileEnd s [4] i)
      rw [e5] at e6
      have hnd := List.head?_dropWhile_not isDigit r
      rw [hl, tok1, if_neg hL, if_pos hD]
      by_cases h13 : (c :: r.takeWhile isDigit).length > 13
      · rw [if_pos (by simp only [Bool.or_eq_true, decide_eq_true_eq]; exact Or.inl h13)]
        exact next_num_long b s i w hs hb hi hc (by rw [e2, e1]; omega)
      · by_cases hA : ((r.dropWhile isDigit).head?.map isWord).getD false = true
        · rw [if_pos (by simp only [Bool.or_eq_true, decide_eq_true_eq]; exact Or.inr hA)]
          cases hd : r.dropWhile isDigit with
          | nil => rw [hd] at hA; simp at hA
          | cons x t =>
            rw [hd] at hA e6 hnd
            simp only [List.head?_cons, Option.map_some, Option.getD_some] at hA e6 hnd
            have hx : isLetter x = true ∨ (x == 95) = true := by
              unfold isWord at hA
              have : isDigit x = false := by simpa using hnd
              rw [this] at hA
              simpa using hA
            rcases hx with hx | hx
            · have := cls_letter x
              rw [hx] at this
              exact next_num_3 b s i w hs hb hi hc (by rw [e2, e1]; omega) (by rw [e6]; exact eq_of_beq this)
            · have := cls_under x
              rw [hx] at this
              exact next_num_5 b s i w hs hb hi hc (by rw [e2, e1]; omega) (by rw [e6]; exact eq_of_beq this)
        · rw [if_neg (by simp only [Bool.or_eq_true, decide_eq_true_eq]; exact fun h => h.elim h13 hA)]
          have hk : ((clsAt s (whileEnd s [4] i)) == 3) = false ∧ ((clsAt s (whileEnd s [4] i)) == 5) = false := by
            rw [e6]
            cases hd : r.dropWhile isDigit with
            | nil => exact ⟨rfl, rfl⟩
            | cons x t =>
              rw [hd] at hA
              simp only [List.head?_cons, Option.map_some, Option.getD_some] at hA ⊢
              rw [cls_letter, cls_under]
              unfold isWord at hA
              simp only [Bool.or_eq_true, not_or] at hA
              exact ⟨by simpa using hA.1.1, by simpa using hA.2⟩
          refine (next_num_ok b s i w hs hb hi hc (by rw [e2, e1]; omega) (by rw [e2, e1]; simp) _ rfl hk.1 hk.2 (by rw [e2, e3]; exact all_takeWhile _ _)).mono ?_
          rintro e w' ⟨rfl, hbw⟩
          refine ⟨?_, hbw⟩
          have e4 : s.extract i (whileEnd s [4] i) = ⟨(c :: r.takeWhile isDigit).toArray⟩ := ba_ext (by rw [e2, e3, e1])
          rw [e4, e2, e1]
          simp only [nextOf, Int.natCast_add]
    · have hD' : isDigit c = false := by simpa using hD
      rw [hL'] at q3
      rw [hD'] at q4
      by_cases hQ : (c == 34) = true
      · rw [hQ] at q6
        have hc : clsAt s i = 6 := by rw [hcls]; exact eq_of_beq q6
        rw [hl, tok1, if_neg hL, if_neg hD, if_pos hQ]
        rcases indexAny_q r with ⟨h1, h2⟩ | ⟨x, t, h1, h2, h3⟩
        · rw [h1, if_neg (by simp)]
          exact next_str_none b s i w hs hb hi hc (by rw [hr0]; exact h2)
        · have hlt' : i + 1 + (r.takeWhile notStr).length < s.size := by
            have a1 : (r.takeWhile notStr ++ r.dropWhile notStr).length = r.length := by rw [List.takeWhile_append_dropWhile]
            rw [h1, List.length_append, List.length_cons] at a1
            have a2 : r.length = s.size - (i + 1) := by rw [← hr0, List.length_drop, hlen]
            omega
          have hbx : s[i + 1 + (r.takeWhile notStr).length]'hlt' = x := by
            have a1 := Lib.data_getElem? s _ hlt'
            rw [← List.getElem?_drop, hr0, ← List.head?_drop, drop_takeWhile, h1] at a1
            exact (Option.some.inj a1).symm
          rcases h2 with rfl | rfl
          · rw [h1, if_pos (by simp)]
            by_cases h4 : (r.takeWhile notStr).length > 400
            · rw [if_pos h4]
              exact next_str_long b s i w hs hb hi hc _ hlt' (by rw [hr0]; exact h3) hbx h4
            · rw [if_neg h4]
              refine (next_str_ok b s i w hs hb hi hc _ hlt' (by rw [hr0]; exact h3) hbx (by omega)).mono ?_
              rintro e w' ⟨rfl, hbw⟩
              refine ⟨?_, hbw⟩
              have e4 : (s.extract (i + 1) s.size).extract 0 (r.takeWhile notStr).length = ⟨(r.takeWhile notStr).toArray⟩ := ba_ext (by
                rw [Lib.extract_data, List.drop_zero, Nat.sub_zero, Lib.extract_to_end, hr0, take_takeWhile])
              rw [e4]
              simp only [nextOf, Int.natCast_add]
              rw [Int.add_assoc]; rfl
          · rw [h1, if_neg (by simp)]
            exact next_str_line b s i w hs hb hi hc _ hlt' (by rw [hr0]; exact h3) hbx
      · rw [hl, tok1, if_neg hL, if_neg hD, if_neg hQ]
        have hQ' : (c == 34) = false := by simpa using hQ
        rw [hQ'] at q6
        have hp := prefix_eq r
        have ex2 : r.head? = some 61 → i + 2 ≤ s.size ∧ s.extract i (i + 2) = ⟨#[c, 61]⟩ := by
          intro h
          cases hrr : r with
          | nil => rw [hrr] at h; simp at h
          | cons x t =>
            rw [hrr] at h
            obtain rfl := Option.some.inj h
            refine ⟨?_, ba_ext ?_⟩
            · have a2 : r.length = s.size - (i + 1) := by rw [← hr0, List.length_drop, hlen]
              rw [hrr, List.length_cons] at a2
              omega
            · rw [Lib.extract_data, hl, hrr, Nat.add_sub_cancel_left]; rfl
        have ex1 : s.extract i (i + 1) = ⟨#[c]⟩ := ba_ext (by rw [Lib.extract_data, hl, Nat.add_sub_cancel_left]; rfl)
        by_cases h7 : (cls c == 7) = true
        · have hc : clsAt s i = 7 := by rw [hcls]; exact eq_of_beq h7
          have h8 : (cls c == 8 || cls c == 9) = false := by rw [eq_of_beq h7]; rfl
          by_cases hh : (r.head? == some 61) = true
          · rw [if_pos (by rw [h7, hh]; rfl)]
            obtain ⟨g1, g2⟩ := ex2 (eq_of_beq hh)
            refine (next_mark_eq b s i w hs hb hi hc (by rw [hr0, hp]; exact hh) g1).mono ?_
            rintro e w' ⟨rfl, hbw⟩
            exact ⟨by rw [g2]; rfl, hbw⟩
          · rw [if_neg (by rw [Bool.and_eq_true]; exact fun h => hh h.2), if_neg (by rw [h8]; simp)]
            exact next_mark_no b s i w hs hb hi hc (by rw [hr0, hp]; simpa using hh)
        · by_cases h8 : (cls c == 8) = true
          · have hc : clsAt s i = 8 := by rw [hcls]; exact eq_of_beq h8
            by_cases hh : (r.head? == some 61) = true
            · rw [if_pos (by rw [h8, hh]; simp)]
              obtain ⟨g1, g2⟩ := ex2 (eq_of_beq hh)
              refine (next_angle_eq b s i w hs hb hi hc (by rw [hr0, hp]; exact hh) g1).mono ?_
              rintro e w' ⟨rfl, hbw⟩
              exact ⟨by rw [g2]; rfl, hbw⟩
            · rw [if_neg (by rw [Bool.and_eq_true]; exact fun h => hh h.2), if_pos (by rw [h8]; rfl)]
              refine (next_angle_no b s i w hs hb hi hc (by rw [hr0, hp]; simpa using hh)).mono ?_
              rintro e w' ⟨rfl, hbw⟩
              exact ⟨by rw [ex1]; rfl, hbw⟩
          · have h78 : (cls c == 7 || cls c == 8) = false := by simp only [Bool.or_eq_false_iff]; exact ⟨by simpa using h7, by simpa using h8⟩
            rw [if_neg (by rw [h78]; simp)]
            by_cases h9 : (cls c == 9) = true
            · have hc : clsAt s i = 9 := by rw [hcls]; exact eq_of_beq h9
              rw [if_pos (by rw [h9]; simp)]
              refine (next_sym b s i w hs hb hi hc).mono ?_
              rintro e w' ⟨rfl, hbw⟩
              exact ⟨by rw [ex1]; rfl, hbw⟩
            · rw [if_neg (by simp only [Bool.or_eq_true]; exact fun h => h.elim h8 h9)]
              exact next_bad b s i w hs hb hi (cls c) hcls q3 q4 q6 (by simpa using h7) (by simpa using h8) (by simpa using h9)
end Go.Proofs.YtofjhkjahpdkiaaDoor.Lx
