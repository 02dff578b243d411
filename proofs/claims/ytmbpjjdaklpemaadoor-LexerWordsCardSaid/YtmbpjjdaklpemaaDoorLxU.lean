/-
  The lexer's laws over lists of bytes: again, parts, beginnings, gaps, longest; no program in sight.
-/
import Derived.Test.YtmbpjjdaklpemaaDoorLxT
namespace Go.Proofs.YtmbpjjdaklpemaaDoor.Lx
open Go.Proofs.YtmbpjjdaklpemaaDoor.Px (skp_suffix takeWhile_le tok1_w tok1_err)
set_option linter.unusedVariables false
set_option linter.unusedSimpArgs false
def core (t : Tok) : Int × List UInt8 × Int := (t.kind, t.text, t.n)
def raw (t : Tok) : List UInt8 := rawOf t.kind t.text
theorem core_sh (q : Nat) (ts : List Tok) : (ts.map (shT q)).map core = ts.map core := by
  rw [List.map_map]; rfl
theorem lx_at (l : List UInt8) (p q : Nat) : lx l (p + q) = ((lx l p).1.map (shT q), (lx l p).2.map (shE q)) := lx_shift l.length l p q (Nat.le_refl _)
theorem lx_none (l : List UInt8) (p q : Nat) (h : (lx l p).2 = none) : (lx l q).2 = none ∧ (lx l q).1.map core = (lx l p).1.map core := by
  have e1 := lx_at l 0 p
  have e2 := lx_at l 0 q
  rw [Nat.zero_add] at e1 e2
  rw [e1] at h
  have h0 : (lx l 0).2 = none := by
    cases hz : (lx l 0).2 with
    | none => rfl
    | some x => rw [hz] at h; simp at h
  rw [e1, e2, h0]
  simp only [Option.map_none, core_sh, true_and]
/-- Gaps ahead of a text shift it. -/
theorem lx_skip {g y : List UInt8} (h : skp false (g ++ y) = skp false y) (p : Nat) : lx (g ++ y) p = lx y (p + g.length) := by
  have hle := skp_le false y
  rcases lx_cases y (p + g.length) with ⟨h1, h2⟩ | ⟨e, h1, h2, h3⟩ | ⟨k, t, n, w, h1, h2, h3, h4⟩
  · rw [h2, lx_nil (by rw [h, h1])]
  · rw [h3, lx_err h h1 h2, List.length_append, show p + (g.length + y.length - (skp false y).length) = p + g.length + (y.length - (skp false y).length) by omega]
  · rw [h4, lx_tok h h1, List.length_append, show p + (g.length + y.length - (skp false y).length) = p + g.length + (y.length - (skp false y).length) by omega]
theorem skp_sp (y : List UInt8) : skp false ([32] ++ y) = skp false y := by
  rw [List.singleton_append, skp, if_pos (by decide)]
theorem lx_len (m : Nat) : ∀ (l : List UInt8) (p : Nat), l.length ≤ m → (lx l p).1.length ≤ l.length := by
  induction m with
  | zero =>
    intro l p h
    obtain rfl : l = [] := List.eq_nil_of_length_eq_zero (by omega)
    rw [lx_nil rfl]; exact Nat.le_refl _
  | succ m ih =>
    intro l p h
    have hle := skp_le false l
    rcases lx_cases l p with ⟨h1, h2⟩ | ⟨e, h1, h2, h3⟩ | ⟨k, t, n, w, h1, h2, h3, h4⟩
    · rw [h2]; exact Nat.zero_le _
    · rw [h3]; exact Nat.zero_le _
    · rw [h4, List.length_cons]
      have := ih ((skp false l).drop w) (p + (l.length - (skp false l).length) + w) (by rw [List.length_drop]; omega)
      rw [List.length_drop] at this
      omega
/-! ### Again -/
def allOf (ts : List Tok) : List UInt8 := ts.flatMap (fun t => raw t ++ [32])
theorem again (m : Nat) : ∀ (l : List UInt8) (p q : Nat), l.length ≤ m → (lx l p).2 = none →
    (lx (allOf (lx l p).1) q).2 = none ∧ (lx (allOf (lx l p).1) q).1.map core = (lx l p).1.map core ∧ (allOf (lx l p).1).length ≤ 2 * l.length := by
  induction m with
  | zero =>
    intro l p q h hn
    obtain rfl : l = [] := List.eq_nil_of_length_eq_zero (by omega)
    rw [lx_nil rfl]
    exact ⟨rfl, rfl, Nat.le_refl _⟩
  | succ m ih =>
    intro l p q h hn
    have hle := skp_le false l
    rcases lx_cases l p with ⟨h1, h2⟩ | ⟨e, h1, h2, h3⟩ | ⟨k, t, n, w, h1, h2, h3, h4⟩
    · rw [h2]; exact ⟨rfl, rfl, Nat.zero_le _⟩
    · rw [h3] at hn; simp at hn
    · rw [h4] at hn ⊢
      simp only at hn
      obtain ⟨r1, r2⟩ := tok1_raw h1
      have hl2 : ((skp false l).drop w).length ≤ m := by rw [List.length_drop]; omega
      generalize (skp false l).drop w = rest at *
      generalize p + (l.length - (skp false l).length) = p0 at *
      have ha : allOf ((⟨k, t, n, p0⟩ : Tok) :: (lx rest (p0 + w)).1) = rawOf k t ++ ([32] ++ allOf (lx rest (p0 + w)).1) := by
        simp [allOf, raw]
      rw [ha]
      rw [r1, ← r2] at h1
      obtain ⟨e1, _⟩ := tok1_ext (y' := [32] ++ allOf (lx rest (p0 + w)).1) h1 (Or.inr rfl)
      rw [lx_tok (skp_tok e1) e1]
      have hd : (rawOf k t ++ ([32] ++ allOf (lx rest (p0 + w)).1)).drop (rawOf k t).length = [32] ++ allOf (lx rest (p0 + w)).1 := List.drop_left' rfl
      rw [hd, lx_skip (skp_sp _)]
      obtain ⟨i1, i2, i3⟩ := ih rest (p0 + w) (q + ((rawOf k t ++ ([32] ++ allOf (lx rest (p0 + w)).1)).length - (rawOf k t ++ ([32] ++ allOf (lx rest (p0 + w)).1)).length) + (rawOf k t).length + ([32] : List UInt8).length) hl2 hn
      refine ⟨i1, ?_, ?_⟩
      · rw [List.map_cons, List.map_cons, i2]; rfl
      · have hr1 : (skp false l).length = w + rest.length := by rw [r1, List.length_append, r2]
        simp only [List.length_append, List.length_singleton]
        omega
/-! ### Parts -/
theorem tw_nl {p : UInt8 → Bool} (h10 : p 10 = false) (r y : List UInt8) : (r ++ 10 :: y).takeWhile p = r.takeWhile p ∧ (r ++ 10 :: y).dropWhile p = r.dropWhile p ++ 10 :: y := by
  induction r with
  | nil =>
    rw [List.nil_append, List.takeWhile_cons, List.dropWhile_cons, if_neg (by rw [h10]; simp), if_neg (by rw [h10]; simp)]
    exact ⟨rfl, rfl⟩
  | cons b r ih =>
    rw [List.cons_append, List.takeWhile_cons, List.dropWhile_cons, List.takeWhile_cons, List.dropWhile_cons]
    by_cases h : p b = true
    · rw [if_pos h, if_pos h, if_pos h, if_pos h, ih.1, ih.2]; exact ⟨rfl, rfl⟩
    · rw [if_neg h, if_neg h, if_neg h, if_neg h]; exact ⟨rfl, rfl⟩
theorem tok1_nl {l : List UInt8} (hn : l ≠ []) (y : List UInt8) : tok1 (l ++ 10 :: y) = tok1 l := by
  cases l with
  | nil => exact absurd rfl hn
  | cons b r =>
    rw [List.cons_append]
    by_cases hL : isLetter b = true
    · rw [tok1_letter hL, tok1_letter hL, (tw_nl (p := isWord) (by decide) r y).1]
    · have hL' : isLetter b = false := by simpa using hL
      by_cases hD : isDigit b = true
      · obtain ⟨a1, a2⟩ := tw_nl (p := isDigit) (by decide) r y
        rw [tok1_digit hL' hD, tok1_digit hL' hD, a1, a2]
        have : ((r.dropWhile isDigit ++ 10 :: y).head?.map isWord).getD false = ((r.dropWhile isDigit).head?.map isWord).getD false := by
          cases r.dropWhile isDigit with
          | nil => show isWord 10 = false; decide
          | cons c z => rfl
        rw [this]
      · have hD' : isDigit b = false := by simpa using hD
        by_cases hQ : (b == 34) = true
        · obtain rfl : b = 34 := eq_of_beq hQ
          obtain ⟨a1, a2⟩ := tw_nl (p := notStr) (by decide) r y
          rw [tok1_str, tok1_str, a1, a2]
          have : ((r.dropWhile notStr ++ 10 :: y).head? == some 34) = ((r.dropWhile notStr).head? == some 34) := by
            cases r.dropWhile notStr with
            | nil => simp
            | cons c z => rfl
          rw [this]
        · have hQ' : (b == 34) = false := by simpa using hQ
          rw [tok1_sym hL' hD' hQ', tok1_sym hL' hD' hQ']
          have : ((r ++ 10 :: y).head? == some 61) = (r.head? == some 61) := by
            cases r with
            | nil => simp
            | cons c z => rfl
          rw [this]
theorem parts (m : Nat) : ∀ (l r : List UInt8) (p : Nat), l.length ≤ m →
    lx (l ++ 10 :: r) p = if (lx l p).2 = none then ((lx l p).1 ++ (lx r (p + l.length + 1)).1, (lx r (p + l.length + 1)).2) else lx l p := by
  induction m with
  | zero =>
    intro l r p h
    obtain rfl : l = [] := List.eq_nil_of_length_eq_zero (by omega)
    have h1 := lx_skip (g := [10]) (y := r) (by rw [List.singleton_append, skp, if_pos (by decide)]) p
    rw [lx_nil (l := []) rfl, if_pos rfl, List.nil_append, List.nil_append]
    exact h1
  | succ m ih =>
    intro l r p h
    have hle := skp_le false l
    have hs := skp_nl false l r
    rcases lx_cases l p with ⟨h1, h2⟩ | ⟨e, h1, h2, h3⟩ | ⟨k, t, n, w, h1, h2, h3, h4⟩
    · rw [if_pos h1] at hs
      have hs' : skp false ((l ++ [10]) ++ r) = skp false r := by rw [List.append_assoc]; exact hs
      have := lx_skip hs' p
      rw [List.append_assoc] at this
      rw [show l ++ 10 :: r = l ++ ([10] ++ r) from rfl, this, h2, if_pos rfl, List.nil_append, List.length_append]
      rfl
    · rw [if_neg h1] at hs
      rw [lx_err hs (by simp) (by rw [tok1_nl h1]; exact h2), h3, if_neg (by simp)]
      simp only [List.length_append, List.length_cons]
      congr 4; omega
    · have hne : skp false l ≠ [] := by intro hh; rw [hh] at h3; simp at h3; omega
      rw [if_neg hne] at hs
      rw [lx_tok hs (by rw [tok1_nl hne]; exact h1), List.drop_append_of_le_length h3]
      have hl2 : ((skp false l).drop w).length ≤ m := by rw [List.length_drop]; omega
      have hoff : (l ++ 10 :: r).length - (skp false l ++ 10 :: r).length = l.length - (skp false l).length := by
        simp only [List.length_append, List.length_cons]; omega
      rw [hoff, ih _ r (p + (l.length - (skp false l).length) + w) hl2, h4]
      simp only
      have hpos : p + (l.length - (skp false l).length) + w + ((skp false l).drop w).length + 1 = p + l.length + 1 := by rw [List.length_drop]; omega
      rw [hpos]
      by_cases hn : (lx ((skp false l).drop w) (p + (l.length - (skp false l).length) + w)).2 = none
      · rw [if_pos hn, if_pos hn]; rfl
      · rw [if_neg hn, if_neg hn]
/-! ### Beginnings -/
theorem begins (m : Nat) : ∀ (l : List UInt8) (p : Nat) (e : Int) (o : Nat), l.length ≤ m → (lx l p).2 = some (e, o) →
    p ≤ o ∧ o < p + l.length ∧ (∀ q, (lx (l.take (o - p)) q).2 = none) ∧ (∀ q, lx (l.drop (o - p)) q = ([], some (e, q))) := by
  induction m with
  | zero =>
    intro l p e o h hn
    obtain rfl : l = [] := List.eq_nil_of_length_eq_zero (by omega)
    rw [lx_nil rfl] at hn; simp at hn
  | succ m ih =>
    intro l p e o h hn
    have hle := skp_le false l
    rcases lx_cases l p with ⟨h1, h2⟩ | ⟨e', h1, h2, h3⟩ | ⟨k, t, n, w, h1, h2, h3, h4⟩
    · rw [h2] at hn; simp at hn
    · rw [h3] at hn
      simp only [Option.some.injEq, Prod.mk.injEq] at hn
      obtain ⟨rfl, rfl⟩ := hn
      have hpos : 1 ≤ (skp false l).length := by
        cases hs : skp false l with
        | nil => exact absurd hs h1
        | cons _ _ => simp
      rw [Nat.add_sub_cancel_left]
      refine ⟨by omega, by omega, fun q => ?_, fun q => ?_⟩
      · have := skp_gapPre false l
        unfold gapPre at this
        rw [lx_nil this]
      · rw [← skp_suffix]
        have hf : skp false (skp false l) = skp false l := by
          cases hs : skp false l with
          | nil => exact absurd hs h1
          | cons b r => obtain ⟨a1, a2⟩ := skp_fix hs; exact skp_head a1 a2 r
        rw [lx_err hf h1 h2, Nat.sub_self]; rfl
    · rw [h4] at hn
      simp only at hn
      obtain ⟨r1, r2⟩ := tok1_raw h1
      have hl2 : ((skp false l).drop w).length ≤ m := by rw [List.length_drop]; omega
      obtain ⟨i1, i2, i3, i4⟩ := ih _ _ e o hl2 hn
      have hgl : (gapPre false l).length = l.length - (skp false l).length := by unfold gapPre; rw [List.length_take]; omega
      have hl : l = gapPre false l ++ (rawOf k t ++ (skp false l).drop w) := by rw [← r1, gapPre_app]
      have hrl : (skp false l).length = w + ((skp false l).drop w).length := by rw [List.length_drop]; omega
      have hne : skp false l ≠ [] := by intro hh; rw [hh] at h3; simp at h3; omega
      have hsw := skp_swap false l hne
      generalize hrest : (skp false l).drop w = rest at *
      generalize gapPre false l = gp at *
      have h1' := h1
      rw [r1, ← r2] at h1'
      have e1 : o - p = gp.length + ((rawOf k t).length + (o - (p + (l.length - (skp false l).length) + w))) := by omega
      refine ⟨by omega, by omega, fun q => ?_, fun q => ?_⟩
      · rw [e1]
        generalize o - (p + (l.length - (skp false l).length) + w) = j at *
        rw [hl, List.take_length_add_append, List.take_length_add_append]
        have hy : (rest.take j).head? = rest.head? ∨ sep (rest.take j) = true := by
          cases j with
          | zero => right; rfl
          | succ j => left; cases rest <;> rfl
        obtain ⟨x1, _⟩ := tok1_ext h1' hy
        have hs : skp false (gp ++ (rawOf k t ++ rest.take j)) = rawOf k t ++ rest.take j := by rw [hsw, skp_tok x1]
        rw [lx_tok hs x1, List.drop_left' rfl]
        exact i3 _
      · rw [e1]
        generalize o - (p + (l.length - (skp false l).length) + w) = j at *
        rw [hl, List.drop_length_add_append, List.drop_length_add_append]
        exact i4 q
/-! ### Gaps -/
theorem sep_gaps {g : List UInt8} (hg : skp false g = []) (y : List UInt8) : sep (g ++ 10 :: y) = true := by
  cases g with
  | nil => rfl
  | cons c z =>
    show (isBlank c || c == 35) = true
    by_cases h1 : isBlank c = true
    · rw [h1]; rfl
    · by_cases h2 : (c == 35) = true
      · rw [h2]; simp
      · rw [skp, if_neg h1, if_neg h2] at hg; simp at hg
theorem skp_line {g : List UInt8} (hg : skp false g = []) (y : List UInt8) : skp false ((g ++ [10]) ++ y) = skp false y := by
  have := skp_nl false g y
  rw [if_pos hg] at this
  rw [List.append_assoc]; exact this
theorem middles (m : Nat) {g : List UInt8} (hg : skp false g = []) : ∀ (l : List UInt8) (p : Nat), l.length ≤ m → (lx l p).2 = none → ∀ t0 ∈ (lx l p).1,
    p ≤ t0.at_ ∧ t0.at_ + (raw t0).length ≤ p + l.length ∧
    ∀ q, (lx (l.take (t0.at_ + (raw t0).length - p) ++ ((g ++ [10]) ++ l.drop (t0.at_ + (raw t0).length - p))) q).2 = none ∧
      (lx (l.take (t0.at_ + (raw t0).length - p) ++ ((g ++ [10]) ++ l.drop (t0.at_ + (raw t0).length - p))) q).1.map core = (lx l p).1.map core := by
  induction m with
  | zero =>
    intro l p h hn t0 ht0
    obtain rfl : l = [] := List.eq_nil_of_length_eq_zero (by omega)
    rw [lx_nil rfl] at ht0; simp at ht0
  | succ m ih =>
    intro l p h hn t0 ht0
    have hle := skp_le false l
    rcases lx_cases l p with ⟨h1, h2⟩ | ⟨e', h1, h2, h3⟩ | ⟨k, t, n, w, h1, h2, h3, h4⟩
    · rw [h2] at ht0; simp at ht0
    · rw [h3] at hn; simp at hn
    · rw [h4] at hn ht0 ⊢
      simp only at hn ht0
      obtain ⟨r1, r2⟩ := tok1_raw h1
      have hl2 : ((skp false l).drop w).length ≤ m := by rw [List.length_drop]; omega
      have hgl : (gapPre false l).length = l.length - (skp false l).length := by unfold gapPre; rw [List.length_take]; omega
      have hl : l = gapPre false l ++ (rawOf k t ++ (skp false l).drop w) := by rw [← r1, gapPre_app]
      have hrl : (skp false l).length = w + ((skp false l).drop w).length := by rw [List.length_drop]; omega
      have hne : skp false l ≠ [] := by intro hh; rw [hh] at h3; simp at h3; omega
      have hsw := skp_swap false l hne
      have ihr := ih _ _ hl2 hn
      generalize (skp false l).drop w = rest at *
      generalize gapPre false l = gp at *
      have h1' := h1
      rw [r1, ← r2] at h1'
      generalize hp0 : p + (l.length - (skp false l).length) = p0 at *
      have key : ∀ (y' : List UInt8) (q : Nat), (y'.head? = rest.head? ∨ sep y' = true) → (∀ q', (lx y' q').2 = none ∧ (lx y' q').1.map core = (lx rest (p0 + w)).1.map core) →
          (lx (gp ++ (rawOf k t ++ y')) q).2 = none ∧ (lx (gp ++ (rawOf k t ++ y')) q).1.map core = ((⟨k, t, n, p0⟩ : Tok) :: (lx rest (p0 + w)).1).map core := by
        intro y' q hy hrest
        obtain ⟨x1, _⟩ := tok1_ext h1' hy
        have hs : skp false (gp ++ (rawOf k t ++ y')) = rawOf k t ++ y' := by rw [hsw, skp_tok x1]
        rw [lx_tok hs x1, List.drop_left' rfl]
        obtain ⟨z1, z2⟩ := hrest (q + ((gp ++ (rawOf k t ++ y')).length - (rawOf k t ++ y').length) + (rawOf k t).length)
        exact ⟨z1, by simp only [List.map_cons, z2]; rfl⟩
      rw [List.mem_cons] at ht0
      rcases ht0 with rfl | ht0
      · have hraw : (raw ⟨k, t, n, p0⟩).length = w := r2
        have hj : (⟨k, t, n, p0⟩ : Tok).at_ + (raw ⟨k, t, n, p0⟩).length - p = gp.length + (rawOf k t).length := by rw [hraw, r2]; show p0 + w - p = _; omega
        refine ⟨by show p ≤ p0; omega, by rw [hraw]; show p0 + w ≤ _; omega, fun q => ?_⟩
        rw [hj, hl]
        have ht : (gp ++ (rawOf k t ++ rest)).take (gp.length + (rawOf k t).length) = gp ++ rawOf k t := by
          rw [← List.append_assoc, ← List.length_append]; exact List.take_left' rfl
        have hd : (gp ++ (rawOf k t ++ rest)).drop (gp.length + (rawOf k t).length) = rest := by
          rw [← List.append_assoc, ← List.length_append]; exact List.drop_left' rfl
        rw [ht, hd, List.append_assoc]
        refine key _ q (Or.inr (by rw [List.append_assoc]; exact sep_gaps hg rest)) (fun q' => ?_)
        rw [lx_skip (skp_line hg rest)]
        exact lx_none rest (p0 + w) _ hn
      · obtain ⟨i1, i2, i3⟩ := ihr t0 ht0
        have hj : t0.at_ + (raw t0).length - p = gp.length + ((rawOf k t).length + (t0.at_ + (raw t0).length - (p0 + w))) := by omega
        refine ⟨by omega, by omega, fun q => ?_⟩
        rw [hj, hl, List.take_length_add_append, List.take_length_add_append, List.drop_length_add_append, List.drop_length_add_append, List.append_assoc, List.append_assoc]
        generalize t0.at_ + (raw t0).length - (p0 + w) = j at *
        refine key _ q ?_ (fun q' => i3 q')
        cases j with
        | zero => right; rw [List.take_zero, List.nil_append, List.append_assoc]; exact sep_gaps hg _
        | succ j =>
          cases rest with
          | nil => right; rw [List.take_nil, List.nil_append, List.append_assoc]; exact sep_gaps hg _
          | cons c z => left; rfl
/-! ### Longest -/
theorem raw_pos {l : List UInt8} {k : Int} {t : List UInt8} {n : Int} {w : Nat} (h : tok1 l = .tok k t n w) : rawOf k t ≠ [] := by
  intro e
  have := (tok1_raw h).2
  rw [e] at this
  have h1 := (tok1_w h).1
  simp at this; omega
theorem longest (m : Nat) : ∀ (l : List UInt8) (p j : Nat) (t1 t2 : Tok), l.length ≤ m → (lx l p).1[j]? = some t1 → (lx l p).1[j + 1]? = some t2 → t1.at_ + (raw t1).length = t2.at_ →
    ∀ q, ¬ ((lx (raw t1 ++ raw t2) q).1.length = 1 ∧ (lx (raw t1 ++ raw t2) q).2 = none) := by
  induction m with
  | zero =>
    intro l p j t1 t2 h ht1 ht2 ha q
    obtain rfl : l = [] := List.eq_nil_of_length_eq_zero (by omega)
    rw [lx_nil rfl] at ht1; simp at ht1
  | succ m ih =>
    intro l p j t1 t2 h ht1 ht2 ha q
    have hle := skp_le false l
    rcases lx_cases l p with ⟨h1, h2⟩ | ⟨e', h1, h2, h3⟩ | ⟨k, t, n, w, h1, h2, h3, h4⟩
    · rw [h2] at ht1; simp at ht1
    · rw [h3] at ht1; simp at ht1
    · rw [h4] at ht1 ht2
      simp only at ht1 ht2
      rw [List.getElem?_cons_succ] at ht2
      have hl2 : ((skp false l).drop w).length ≤ m := by rw [List.length_drop]; omega
      cases j with
      | succ j =>
        rw [List.getElem?_cons_succ] at ht1
        exact ih _ _ j t1 t2 hl2 ht1 ht2 ha q
      | zero =>
        obtain ⟨r1, r2⟩ := tok1_raw h1
        simp only [List.getElem?_cons_zero, Option.some.injEq] at ht1
        subst ht1
        have hraw : raw ⟨k, t, n, p + (l.length - (skp false l).length)⟩ = rawOf k t := rfl
        rw [hraw] at ha ⊢
        generalize (skp false l).drop w = rest at *
        have h1' := h1
        rw [r1, ← r2] at h1'
        have hle2 := skp_le false rest
        rcases lx_cases rest (p + (l.length - (skp false l).length) + w) with ⟨g1, g2⟩ | ⟨e', g1, g2, g3⟩ | ⟨k2, t2', n2, w2, g1, g2, g3, g4⟩
        · rw [g2] at ht2; simp at ht2
        · rw [g3] at ht2; simp at ht2
        · rw [g4] at ht2
          simp only [List.getElem?_cons_zero, Option.some.injEq] at ht2
          subst ht2
          have hraw2 : ∀ a, raw ⟨k2, t2', n2, a⟩ = rawOf k2 t2' := fun _ => rfl
          rw [hraw2]
          have hsame : skp false rest = rest := by
            have e0 := gapPre_app false rest
            have hz : (gapPre false rest).length = 0 := by
              unfold gapPre; rw [List.length_take]
              have ha' : p + (l.length - (skp false l).length) + w = p + (l.length - (skp false l).length) + w + (rest.length - (skp false rest).length) := by rw [r2] at ha; exact ha
              omega
            rw [List.eq_nil_of_length_eq_zero hz, List.nil_append] at e0
            exact e0
          rw [hsame] at g1
          obtain ⟨s1, s2⟩ := tok1_raw g1
          have hne := raw_pos g1
          obtain ⟨b2, z2, hb2, n1, n2'⟩ := tok1_head g1
          have hhead : (rawOf k2 t2').head? = rest.head? := by
            rw [s1]
            cases hr : rawOf k2 t2' with
            | nil => exact absurd hr hne
            | cons c z => rfl
          obtain ⟨x1, _⟩ := tok1_ext h1' (Or.inl hhead)
          rw [lx_tok (skp_tok x1) x1, List.drop_left' rfl]
          rintro ⟨c1, c2⟩
          simp only [List.length_cons] at c1
          simp only at c2
          have hs2 : skp false (rawOf k2 t2') = rawOf k2 t2' := by
            cases hr : rawOf k2 t2' with
            | nil => exact absurd hr hne
            | cons c z =>
              rw [hr, hb2] at hhead
              have : c = b2 := by simpa using hhead
              subst this
              exact skp_head n1 n2' z
          rcases lx_cases (rawOf k2 t2') (q + ((rawOf k t ++ rawOf k2 t2').length - (rawOf k t ++ rawOf k2 t2').length) + (rawOf k t).length) with ⟨d1, d2⟩ | ⟨e', d1, d2, d3⟩ | ⟨k3, t3, n3, w3, d1, d2, d3, d4⟩
          · rw [hs2] at d1; exact hne d1
          · rw [d3] at c2; simp at c2
          · rw [d4] at c1; simp at c1
end Go.Proofs.YtmbpjjdaklpemaaDoor.Lx
