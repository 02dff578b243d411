/-
  The lexer's theory, in plain Lean: how tokens depend on the text; no program in sight.
-/
import Derived.Test.YtfklhpdnbbefbaaDoorLxK
namespace Go.Proofs.YtfklhpdnbbefbaaDoor.Lx
open Go.Proofs.YtfklhpdnbbefbaaDoor.Px (skp_suffix takeWhile_le tok1_w tok1_err)
set_option linter.unusedVariables false
set_option linter.unusedSimpArgs false
/-! ### All tokens, without rounds -/
theorem lexA_fuel : ∀ (f g : Nat) (l : List UInt8) (p : Nat), l.length < f → l.length < g → lexA f l p = lexA g l p
  | 0, _, _, _, h, _ => absurd h (Nat.not_lt_zero _)
  | _, 0, _, _, _, h => absurd h (Nat.not_lt_zero _)
  | f + 1, g + 1, l, p, hf, hg => by
    have hle := skp_le false l
    rw [lexA, lexA]
    cases he : (skp false l).isEmpty
    · simp only [Bool.false_eq_true, if_false]
      cases ht : tok1 (skp false l) with
      | err e => rfl
      | tok k t n w =>
        obtain ⟨h1, h2⟩ := tok1_w ht
        have h3 : ((skp false l).drop w).length < f := by rw [List.length_drop]; omega
        have h4 : ((skp false l).drop w).length < g := by rw [List.length_drop]; omega
        simp only [lexA_fuel f g _ _ h3 h4]
    · simp
def lx (l : List UInt8) (p : Nat) : List Tok × Option (Int × Nat) := lexA (l.length + 1) l p
theorem lx_nil {l : List UInt8} (h : skp false l = []) (p : Nat) : lx l p = ([], none) := by rw [lx, lexA, h]; rfl
theorem lx_err {l l' : List UInt8} {e : Int} (h : skp false l = l') (hn : l' ≠ []) (ht : tok1 l' = .err e) (p : Nat) : lx l p = ([], some (e, p + (l.length - l'.length))) := by
  subst h
  have he : (skp false l).isEmpty = false := by cases hs : skp false l with
    | nil => exact absurd hs hn
    | cons _ _ => rfl
  rw [lx, lexA]
  simp only [he, Bool.false_eq_true, if_false, ht]
theorem lx_tok {l l' : List UInt8} {k : Int} {t : List UInt8} {n : Int} {w : Nat} (h : skp false l = l') (ht : tok1 l' = .tok k t n w) (p : Nat) :
    lx l p = ((⟨k, t, n, p + (l.length - l'.length)⟩ : Tok) :: (lx (l'.drop w) (p + (l.length - l'.length) + w)).1, (lx (l'.drop w) (p + (l.length - l'.length) + w)).2) := by
  subst h
  have hle := skp_le false l
  obtain ⟨h1, h2⟩ := tok1_w ht
  have he : (skp false l).isEmpty = false := by cases hs : skp false l with
    | nil => rw [hs] at h2; simp at h2; omega
    | cons _ _ => rfl
  rw [lx, lexA]
  simp only [he, Bool.false_eq_true, if_false, ht]
  have h3 : ((skp false l).drop w).length < l.length := by rw [List.length_drop]; omega
  rw [lexA_fuel l.length (((skp false l).drop w).length + 1) _ _ h3 (Nat.lt_succ_self _)]
  rfl
/-- What becomes of a text at its first token. -/
theorem lx_cases (l : List UInt8) (p : Nat) :
    (skp false l = [] ∧ lx l p = ([], none)) ∨
    (∃ e, skp false l ≠ [] ∧ tok1 (skp false l) = .err e ∧ lx l p = ([], some (e, p + (l.length - (skp false l).length)))) ∨
    (∃ k t n w, tok1 (skp false l) = .tok k t n w ∧ 1 ≤ w ∧ w ≤ (skp false l).length ∧
      lx l p = ((⟨k, t, n, p + (l.length - (skp false l).length)⟩ : Tok) :: (lx ((skp false l).drop w) (p + (l.length - (skp false l).length) + w)).1, (lx ((skp false l).drop w) (p + (l.length - (skp false l).length) + w)).2)) := by
  by_cases h : skp false l = []
  · exact Or.inl ⟨h, lx_nil h p⟩
  · cases ht : tok1 (skp false l) with
    | err e => exact Or.inr (Or.inl ⟨e, h, rfl, lx_err rfl h ht p⟩)
    | tok k t n w => exact Or.inr (Or.inr ⟨k, t, n, w, rfl, (tok1_w ht).1, (tok1_w ht).2, lx_tok rfl ht p⟩)
def shT (q : Nat) (t : Tok) : Tok := ⟨t.kind, t.text, t.n, t.at_ + q⟩
def shE (q : Nat) (x : Int × Nat) : Int × Nat := (x.1, x.2 + q)
theorem lx_shift (m : Nat) : ∀ (l : List UInt8) (p q : Nat), l.length ≤ m → lx l (p + q) = ((lx l p).1.map (shT q), (lx l p).2.map (shE q)) := by
  induction m with
  | zero =>
    intro l p q h
    obtain rfl : l = [] := List.eq_nil_of_length_eq_zero (by omega)
    rw [lx_nil rfl, lx_nil rfl]; rfl
  | succ m ih =>
    intro l p q h
    have hle := skp_le false l
    rcases lx_cases l p with ⟨h1, h2⟩ | ⟨e, h1, h2, h3⟩ | ⟨k, t, n, w, h1, h2, h3, h4⟩
    · rw [h2, lx_nil h1]; rfl
    · rw [h3, lx_err rfl h1 h2]
      simp only [List.map_nil, Option.map_some, shE]
      congr 3; omega
    · rw [h4, lx_tok rfl h1]
      have := ih ((skp false l).drop w) (p + (l.length - (skp false l).length) + w) q (by rw [List.length_drop]; omega)
      rw [show p + q + (l.length - (skp false l).length) + w = p + (l.length - (skp false l).length) + w + q by omega, this]
      simp only [List.map_cons, shT]
      congr 2
      congr 1
      omega
/-! ### Gaps -/
def gapPre (c : Bool) (l : List UInt8) : List UInt8 := l.take (l.length - (skp c l).length)
theorem gapPre_app (c : Bool) (l : List UInt8) : gapPre c l ++ skp c l = l := by
  conv => lhs; rhs; rw [skp_suffix c l]
  exact List.take_append_drop _ _
theorem gapPre_cons (c c' : Bool) (b : UInt8) (r : List UInt8) (h : skp c (b :: r) = skp c' r) : gapPre c (b :: r) = b :: gapPre c' r := by
  have hle := skp_le c' r
  unfold gapPre
  rw [h, List.length_cons, show r.length + 1 - (skp c' r).length = (r.length - (skp c' r).length) + 1 by omega, List.take_succ_cons]
theorem skp_step (c : Bool) (b : UInt8) (r : List UInt8) : (∃ c', ∀ y, skp c (b :: y) = skp c' y) ∨ (c = false ∧ skp c (b :: r) = b :: r ∧ isBlank b = false ∧ (b == 35) = false) := by
  cases c
  · by_cases h1 : isBlank b = true
    · exact Or.inl ⟨false, fun y => by rw [skp, if_pos h1]⟩
    · by_cases h2 : (b == 35) = true
      · exact Or.inl ⟨true, fun y => by rw [skp, if_neg h1, if_pos h2]⟩
      · exact Or.inr ⟨rfl, by rw [skp, if_neg h1, if_neg h2], by simpa using h1, by simpa using h2⟩
  · by_cases h1 : (b == 10) = true
    · exact Or.inl ⟨false, fun y => by rw [skp, if_pos h1]⟩
    · exact Or.inl ⟨true, fun y => by rw [skp, if_neg h1]⟩
theorem skp_gapPre (c : Bool) (l : List UInt8) : skp c (gapPre c l) = [] := by
  induction l generalizing c with
  | nil => cases c <;> rfl
  | cons b r ih =>
    rcases skp_step c b r with ⟨c', h⟩ | ⟨rfl, h, _, _⟩
    · rw [gapPre_cons c c' b r (h r), h, ih]
    · unfold gapPre; rw [h, Nat.sub_self]; rfl
theorem skp_swap (c : Bool) (l : List UInt8) (hn : skp c l ≠ []) (y : List UInt8) : skp c (gapPre c l ++ y) = skp false y := by
  induction l generalizing c with
  | nil => cases c <;> exact absurd rfl hn
  | cons b r ih =>
    rcases skp_step c b r with ⟨c', h⟩ | ⟨rfl, h, _, _⟩
    · rw [gapPre_cons c c' b r (h r), List.cons_append, h]
      exact ih c' (by rw [← h r]; exact hn)
    · unfold gapPre; rw [h, Nat.sub_self]; rfl
theorem skp_nl (c : Bool) (l y : List UInt8) : skp c (l ++ 10 :: y) = if skp c l = [] then skp false y else skp c l ++ 10 :: y := by
  induction l generalizing c with
  | nil =>
    rw [if_pos (by cases c <;> rfl), List.nil_append]
    cases c
    · rw [skp, if_pos (by decide)]
    · rw [skp, if_pos (by decide)]
  | cons b r ih =>
    rcases skp_step c b r with ⟨c', h⟩ | ⟨rfl, h, h1, h2⟩
    · rw [List.cons_append, h, h, ih]
    · rw [h, if_neg (by simp), List.cons_append, skp, if_neg (by rw [h1]; simp), if_neg (by rw [h2]; simp)]
theorem skp_head {b : UInt8} (h1 : isBlank b = false) (h2 : (b == 35) = false) (r : List UInt8) : skp false (b :: r) = b :: r := by
  rw [skp, if_neg (by rw [h1]; simp), if_neg (by rw [h2]; simp)]
/-- What stands at the head behind the gaps is no gap. -/
theorem skp_fix {c : Bool} {l : List UInt8} {b : UInt8} {r : List UInt8} (h : skp c l = b :: r) : isBlank b = false ∧ (b == 35) = false := by
  induction l generalizing c with
  | nil => cases c <;> simp [skp] at h
  | cons x y ih =>
    rcases skp_step c x y with ⟨c', h'⟩ | ⟨rfl, h', h1, h2⟩
    · rw [h'] at h; exact ih h
    · rw [h'] at h; injection h with e1 e2; subst e1; exact ⟨h1, h2⟩
/-! ### One token -/
def rawOf (k : Int) (t : List UInt8) : List UInt8 := if k = 3 then 34 :: (t ++ [34]) else t
def sep (y : List UInt8) : Bool := match y with | [] => true | c :: _ => isBlank c || c == 35
theorem sep_word (c : UInt8) : (!(isBlank c || c == 35) || !isWord c) = true := u8_all (p := fun c => !(isBlank c || c == 35) || !isWord c) (by decide +kernel) c
theorem sep_eq (c : UInt8) : (!(isBlank c || c == 35) || !(c == 61)) = true := u8_all (p := fun c => !(isBlank c || c == 35) || !(c == 61)) (by decide +kernel) c
theorem digit_word (c : UInt8) : (!isDigit c || isWord c) = true := u8_all (p := fun c => !isDigit c || isWord c) (by decide +kernel) c
theorem tw_split {p : UInt8 → Bool} : ∀ {r y : List UInt8}, ((r ++ y).takeWhile p).length = r.length → r.all p = true ∧ (y.head?.map p).getD false = false
  | [], y, h => by
    refine ⟨rfl, ?_⟩
    cases y with
    | nil => rfl
    | cons c z =>
      rw [List.nil_append, List.takeWhile_cons] at h
      by_cases hc : p c = true
      · rw [if_pos hc] at h; simp at h
      · simpa using hc
  | b :: r, y, h => by
    rw [List.cons_append, List.takeWhile_cons] at h
    by_cases hb : p b = true
    · rw [if_pos hb, List.length_cons, List.length_cons] at h
      obtain ⟨h1, h2⟩ := tw_split (p := p) (r := r) (y := y) (by omega)
      exact ⟨by rw [List.all_cons, hb, h1]; rfl, h2⟩
    · rw [if_neg hb] at h; simp at h
theorem tw_join {p : UInt8 → Bool} : ∀ {r y : List UInt8}, r.all p = true → (y.head?.map p).getD false = false → (r ++ y).takeWhile p = r ∧ (r ++ y).dropWhile p = y
  | [], y, _, h => by
    cases y with
    | nil => exact ⟨rfl, rfl⟩
    | cons c z =>
      have hc : ¬ p c = true := by simpa using h
      rw [List.nil_append, List.takeWhile_cons, List.dropWhile_cons, if_neg hc, if_neg hc]
      exact ⟨rfl, rfl⟩
  | b :: r, y, h1, h2 => by
    rw [List.all_cons, Bool.and_eq_true] at h1
    obtain ⟨e1, e2⟩ := tw_join (p := p) (r := r) (y := y) h1.2 h2
    rw [List.cons_append, List.takeWhile_cons, List.dropWhile_cons, if_pos h1.1, if_pos h1.1, e1, e2]
    exact ⟨rfl, rfl⟩
theorem head_word {y y' : List UInt8} (hy : y'.head? = y.head? ∨ sep y' = true) (h : (y.head?.map isWord).getD false = false) : (y'.head?.map isWord).getD false = false := by
  rcases hy with hy | hy
  · rw [hy]; exact h
  · cases y' with
    | nil => rfl
    | cons c z =>
      have := sep_word c
      have hy' : (isBlank c || c == 35) = true := hy
      rw [hy'] at this
      simpa using this
theorem head_digit {y : List UInt8} (h : (y.head?.map isWord).getD false = false) : (y.head?.map isDigit).getD false = false := by
  cases y with
  | nil => rfl
  | cons c z =>
    have := digit_word c
    simp only [List.head?_cons, Option.map_some, Option.getD_some] at h ⊢
    rw [h] at this
    simpa using this
theorem tok1_letter {b : UInt8} {r : List UInt8} (h : isLetter b = true) : tok1 (b :: r) = if (b :: r.takeWhile isWord).length > 24 then .err 2 else .tok 1 (b :: r.takeWhile isWord) 0 (b :: r.takeWhile isWord).length := by
  rw [tok1, if_pos h]
theorem tok1_digit {b : UInt8} {r : List UInt8} (h0 : isLetter b = false) (h : isDigit b = true) : tok1 (b :: r) = if (b :: r.takeWhile isDigit).length > 13 || ((r.dropWhile isDigit).head?.map isWord).getD false then .err 4
      else .tok 2 (b :: r.takeWhile isDigit) (numOf (b :: r.takeWhile isDigit)) (b :: r.takeWhile isDigit).length := by
  rw [tok1, if_neg (by rw [h0]; simp), if_pos h]
theorem tok1_str {r : List UInt8} : tok1 (34 :: r) = if (r.dropWhile notStr).head? == some 34 then
        if (r.takeWhile notStr).length > 400 then .err 2 else .tok 3 (r.takeWhile notStr) 0 ((r.takeWhile notStr).length + 2)
      else .err 6 := by
  rw [tok1, if_neg (by decide), if_neg (by decide), if_pos (by decide)]
theorem tok1_sym {b : UInt8} {r : List UInt8} (h0 : isLetter b = false) (h1 : isDigit b = false) (h2 : (b == 34) = false) : tok1 (b :: r) =
    if (cls b == 7 || cls b == 8) && r.head? == some 61 then .tok 4 [b, 61] 0 2
    else if cls b == 8 || cls b == 9 then .tok 4 [b] 0 1
    else .err 3 := by
  rw [tok1, if_neg (by rw [h0]; simp), if_neg (by rw [h1]; simp), if_neg (by rw [h2]; simp)]
/-- A token depends on its own bytes, and on the next one. -/
theorem tok1_ext {a y y' : List UInt8} {k : Int} {t : List UInt8} {n : Int} (h : tok1 (a ++ y) = .tok k t n a.length) (hy : y'.head? = y.head? ∨ sep y' = true) :
    tok1 (a ++ y') = .tok k t n a.length ∧ a = rawOf k t := by
  cases a with
  | nil => have := (tok1_w h).1; simp at this
  | cons b r =>
    rw [List.cons_append] at h ⊢
    by_cases hL : isLetter b = true
    · rw [tok1_letter hL] at h ⊢
      by_cases h24 : (b :: (r ++ y).takeWhile isWord).length > 24
      · rw [if_pos h24] at h; exact absurd h (by simp)
      · rw [if_neg h24] at h
        injection h with e1 e2 e3 e4
        rw [List.length_cons, List.length_cons] at e4
        obtain ⟨s1, s2⟩ := tw_split (p := isWord) (r := r) (y := y) (by omega)
        obtain ⟨j1, _⟩ := tw_join s1 s2
        obtain ⟨j2, _⟩ := tw_join s1 (head_word hy s2)
        rw [j1] at e2 h24
        rw [j2, if_neg h24, ← e1, ← e2, ← e3]
        exact ⟨rfl, rfl⟩
    · have hL' : isLetter b = false := by simpa using hL
      by_cases hD : isDigit b = true
      · rw [tok1_digit hL' hD] at h ⊢
        by_cases h13 : (decide ((b :: (r ++ y).takeWhile isDigit).length > 13) || (((r ++ y).dropWhile isDigit).head?.map isWord).getD false) = true
        · rw [if_pos h13] at h; exact absurd h (by simp)
        · rw [if_neg h13] at h
          injection h with e1 e2 e3 e4
          rw [List.length_cons, List.length_cons] at e4
          obtain ⟨s1, s2⟩ := tw_split (p := isDigit) (r := r) (y := y) (by omega)
          obtain ⟨j1, j1'⟩ := tw_join s1 s2
          rw [j1, j1'] at h13
          have h13' : (decide ((b :: r).length > 13) || (y.head?.map isWord).getD false) = false := by simpa using h13
          rw [Bool.or_eq_false_iff] at h13'
          have hw := head_word hy h13'.2
          obtain ⟨j2, j2'⟩ := tw_join s1 (head_digit hw)
          rw [j1] at e2 e3
          rw [j2, j2', hw, h13'.1, Bool.or_false, if_neg (by simp), ← e1, ← e2, ← e3]
          exact ⟨rfl, rfl⟩
      · have hD' : isDigit b = false := by simpa using hD
        by_cases hQ : (b == 34) = true
        · obtain rfl : b = 34 := eq_of_beq hQ
          rw [tok1_str] at h ⊢
          by_cases hc : (((r ++ y).dropWhile notStr).head? == some 34) = true
          · rw [if_pos hc] at h
            by_cases h4 : ((r ++ y).takeWhile notStr).length > 400
            · rw [if_pos h4] at h; exact absurd h (by simp)
            · rw [if_neg h4] at h
              injection h with e1 e2 e3 e4
              rw [List.length_cons] at e4
              have hr : r = (r ++ y).takeWhile notStr ++ [34] := by
                have d1 := List.takeWhile_append_dropWhile (p := notStr) (l := r ++ y)
                cases hd : (r ++ y).dropWhile notStr with
                | nil => rw [hd] at hc; simp at hc
                | cons c z =>
                  rw [hd] at d1 hc
                  obtain rfl : c = 34 := by simpa using hc
                  have hlen : ((r ++ y).takeWhile notStr ++ [34]).length = r.length := by simp; omega
                  have d2 : (r ++ y).takeWhile notStr ++ [34] ++ z = r ++ y := by rw [List.append_assoc]; exact d1
                  exact ((List.append_inj d2 hlen).1).symm
              have ht : ((r ++ y).takeWhile notStr).all notStr = true := by
                have : ∀ (l : List UInt8), (l.takeWhile notStr).all notStr = true := by
                  intro l
                  induction l with
                  | nil => rfl
                  | cons b r ih =>
                    rw [List.takeWhile_cons]
                    by_cases h : notStr b = true
                    · rw [if_pos h, List.all_cons, h, ih]; rfl
                    · rw [if_neg h]; rfl
                exact this _
              rw [e2] at hr ht h4 e4
              have hj := tw_join (p := notStr) (r := t) (y := 34 :: y') ht (show notStr 34 = false by decide)
              have hry : r ++ y' = t ++ 34 :: y' := by rw [hr]; simp
              rw [hry, hj.1, hj.2, if_pos (by simp), if_neg h4, ← e1, ← e3, hr]
              refine ⟨by simp, ?_⟩
              simp [rawOf]
          · rw [if_neg hc] at h; exact absurd h (by simp)
        · have hQ' : (b == 34) = false := by simpa using hQ
          rw [tok1_sym hL' hD' hQ'] at h ⊢
          by_cases hc : ((cls b == 7 || cls b == 8) && (r ++ y).head? == some 61) = true
          · rw [if_pos hc] at h
            injection h with e1 e2 e3 e4
            rw [List.length_cons] at e4
            rw [Bool.and_eq_true] at hc
            cases r with
            | nil => simp at e4
            | cons x z =>
              have hz : z = [] := List.eq_nil_of_length_eq_zero (by rw [List.length_cons] at e4; omega)
              subst hz
              have hx : x = 61 := by simpa using hc.2
              subst hx
              rw [if_pos (by rw [hc.1]; rfl), ← e1, ← e2, ← e3]
              exact ⟨rfl, rfl⟩
          · rw [if_neg hc] at h
            by_cases h8 : (cls b == 8 || cls b == 9) = true
            · rw [if_pos h8] at h
              injection h with e1 e2 e3 e4
              rw [List.length_cons] at e4
              obtain rfl : r = [] := List.eq_nil_of_length_eq_zero (by omega)
              rw [List.nil_append] at hc
              have hn : ¬ ((cls b == 7 || cls b == 8) && ([] ++ y').head? == some 61) = true := by
                rw [List.nil_append]
                rcases hy with hy | hy
                · rw [hy]; exact hc
                · rw [Bool.and_eq_true]
                  intro hh
                  cases y' with
                  | nil => simp at hh
                  | cons c z =>
                    have h1 := sep_eq c
                    have hy' : (isBlank c || c == 35) = true := hy
                    rw [hy'] at h1
                    have h2 : (c == 61) = true := by simpa using hh.2
                    rw [h2] at h1
                    exact absurd h1 (by decide)
              rw [if_neg hn, if_pos h8, ← e1, ← e2, ← e3]
              exact ⟨rfl, rfl⟩
            · rw [if_neg h8] at h; exact absurd h (by simp)
theorem tok1_raw {l : List UInt8} {k : Int} {t : List UInt8} {n : Int} {w : Nat} (h : tok1 l = .tok k t n w) : l = rawOf k t ++ l.drop w ∧ (rawOf k t).length = w := by
  obtain ⟨h1, h2⟩ := tok1_w h
  have hl : (l.take w).length = w := by rw [List.length_take]; omega
  have h' : tok1 (l.take w ++ l.drop w) = .tok k t n (l.take w).length := by rw [List.take_append_drop, hl]; exact h
  have e := (tok1_ext h' (Or.inl rfl)).2
  exact ⟨by rw [← e, List.take_append_drop], by rw [← e, hl]⟩
theorem tok1_head {l : List UInt8} {k : Int} {t : List UInt8} {n : Int} {w : Nat} (h : tok1 l = .tok k t n w) : ∃ b r, l = b :: r ∧ isBlank b = false ∧ (b == 35) = false := by
  cases l with
  | nil => simp [tok1] at h
  | cons b r =>
    refine ⟨b, r, rfl, ?_⟩
    have h1 : (!(isBlank b || b == 35) || (!isLetter b && !isDigit b && !(b == 34) && !(cls b == 7) && !(cls b == 8) && !(cls b == 9))) = true := u8_all (p := fun b => !(isBlank b || b == 35) || (!isLetter b && !isDigit b && !(b == 34) && !(cls b == 7) && !(cls b == 8) && !(cls b == 9))) (by decide +kernel) b
    by_cases hb : (isBlank b || b == 35) = true
    · rw [hb] at h1
      simp only [Bool.not_true, Bool.false_or, Bool.and_eq_true, Bool.not_eq_true'] at h1
      obtain ⟨⟨⟨⟨⟨a1, a2⟩, a3⟩, a4⟩, a5⟩, a6⟩ := h1
      rw [tok1_sym a1 a2 a3, a4, a5, a6] at h
      simp at h
    · simpa using hb
theorem skp_tok {a y : List UInt8} {k : Int} {t : List UInt8} {n : Int} (h : tok1 (a ++ y) = .tok k t n a.length) : skp false (a ++ y) = a ++ y := by
  obtain ⟨b, r, e, h1, h2⟩ := tok1_head h
  rw [e, skp_head h1 h2]
end Go.Proofs.YtfklhpdnbbefbaaDoor.Lx
