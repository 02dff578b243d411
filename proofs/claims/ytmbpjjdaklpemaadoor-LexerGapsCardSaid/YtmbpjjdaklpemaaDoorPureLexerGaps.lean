import Derived.Test.YtmbpjjdaklpemaaDoorPxx8
import Derived.Test.YtmbpjjdaklpemaaDoorLxX
import Derived.Test.YtmbpjjdaklpemaaDoorLxY
namespace Go.Proofs.YtmbpjjdaklpemaaDoor.Pure
open Go.RowKit Go.Proofs.YtmbpjjdaklpemaaDoor.Px Go.Proofs.YtmbpjjdaklpemaaDoorW.PrintWords Go.Proofs.YtmbpjjdaklpemaaDoorW.PrintLast Go.Proofs.YtmbpjjdaklpemaaDoor.Lx
/-- The text with gaps before, within and after it, as bytes. -/
theorem gaps_text (g M : List UInt8) (ts : List Tok) (hg : skp false g = []) (hM : ∀ q, (lx M q).2 = none ∧ (lx M q).1.map core = ts.map core) :
    (lx ((g ++ [10]) ++ (M ++ 10 :: g)) 0).2 = none ∧ (lx ((g ++ [10]) ++ (M ++ 10 :: g)) 0).1.map core = ts.map core := by
  rw [lx_skip (skp_line hg _)]
  obtain ⟨m1, m2⟩ := hM (0 + (g ++ [10]).length)
  rw [parts M.length M g _ (Nat.le_refl _), if_pos m1, lx_nil hg]
  simp only [List.append_nil]
  exact ⟨trivial, m2⟩
theorem gaps_j (a0 a1 : ByteArray) (ts : List Tok) (mid : Nat) (h0 : a0.size ≤ 1500) (h1 : a1.size ≤ 300) (hg : skp false a1.data.toList = []) (hm : mid ≤ a0.size) (hl : ts.length ≤ 100000)
    (hM : ∀ q, (lx (a0.data.toList.take mid ++ ((a1.data.toList ++ [10]) ++ a0.data.toList.drop mid)) q).2 = none ∧ (lx (a0.data.toList.take mid ++ ((a1.data.toList ++ [10]) ++ a0.data.toList.drop mid)) q).1.map core = ts.map core) :
    Ev (fun k => observatorylaw08_LexerGaps.j1 k a0 a1 true (ts.map toS) (mid : Int)) true := by
  have hi0 : (0 : Int) ≤ (mid : Int) := Int.natCast_nonneg _
  have hi1 : ((mid : Int)) ≤ (a0.size : Int) := Int.ofNat_le.2 hm
  obtain ⟨n1, n2⟩ := gaps_text a1.data.toList _ ts hg hM
  have z0 := size_len a0
  have z1 := size_len a1
  have e1 : (a1 ++ (⟨#[10]⟩ : ByteArray)).data.toList = a1.data.toList ++ [10] := by rw [data_app]
  have e2 : (a0.extract 0 mid).data.toList = a0.data.toList.take mid := by rw [Lib.extract_data, List.drop_zero, Nat.sub_zero]
  have e3 : (a0.extract mid a0.size).data.toList = a0.data.toList.drop mid := Lib.extract_to_end _ _
  have s1 : (a1 ++ (⟨#[10]⟩ : ByteArray)).size = a1.size + 1 := by rw [size_len, e1, List.length_append, ← z1]; rfl
  have s2 : (a0.extract 0 mid).size = mid := by rw [size_len, e2, List.length_take]; omega
  have s3 : (a0.extract mid a0.size).size = a0.size - mid := by rw [size_len, e3, List.length_drop]; omega
  have s4 : ((a1 ++ (⟨#[10]⟩ : ByteArray)) ++ a0.extract 0 mid).size = a1.size + 1 + mid := by rw [ByteArray.size_append, s1, s2]
  have s5 : (((a1 ++ (⟨#[10]⟩ : ByteArray)) ++ a0.extract 0 mid) ++ (a1 ++ (⟨#[10]⟩ : ByteArray))).size = a1.size + 1 + mid + (a1.size + 1) := by rw [ByteArray.size_append, s4, s1]
  have s6 : ((((a1 ++ (⟨#[10]⟩ : ByteArray)) ++ a0.extract 0 mid) ++ (a1 ++ (⟨#[10]⟩ : ByteArray))) ++ a0.extract mid a0.size).size = a1.size + 1 + mid + (a1.size + 1) + (a0.size - mid) := by rw [ByteArray.size_append, s5, s3]
  have s7 : (((((a1 ++ (⟨#[10]⟩ : ByteArray)) ++ a0.extract 0 mid) ++ (a1 ++ (⟨#[10]⟩ : ByteArray))) ++ a0.extract mid a0.size) ++ (⟨#[10]⟩ : ByteArray)).size = a1.size + 1 + mid + (a1.size + 1) + (a0.size - mid) + 1 := by rw [ByteArray.size_append, s6]; rfl
  have s8 : ((((((a1 ++ (⟨#[10]⟩ : ByteArray)) ++ a0.extract 0 mid) ++ (a1 ++ (⟨#[10]⟩ : ByteArray))) ++ a0.extract mid a0.size) ++ (⟨#[10]⟩ : ByteArray)) ++ a1).size = a1.size + 1 + mid + (a1.size + 1) + (a0.size - mid) + 1 + a1.size := by rw [ByteArray.size_append, s7]
  have hd : ((((((a1 ++ (⟨#[10]⟩ : ByteArray)) ++ a0.extract 0 mid) ++ (a1 ++ (⟨#[10]⟩ : ByteArray))) ++ a0.extract mid a0.size) ++ (⟨#[10]⟩ : ByteArray)) ++ a1).data.toList
      = (a1.data.toList ++ [10]) ++ ((a0.data.toList.take mid ++ ((a1.data.toList ++ [10]) ++ a0.data.toList.drop mid)) ++ 10 :: a1.data.toList) := by
    rw [data_app, data_app, data_app, data_app, data_app, e1, e2, e3]
    simp only [List.append_assoc, List.cons_append, List.nil_append]
  have big : 10000 ≤ 9223372036854775807 := by decide
  have b1 : a1.size + 1 ≤ 9223372036854775807 := Nat.le_trans (by omega) big
  have b2 : (a1 ++ (⟨#[10]⟩ : ByteArray)).size + (a0.extract 0 mid).size ≤ 9223372036854775807 := Nat.le_trans (by rw [s1, s2]; omega) big
  have b3 : ((a1 ++ (⟨#[10]⟩ : ByteArray)) ++ a0.extract 0 mid).size + (a1 ++ (⟨#[10]⟩ : ByteArray)).size ≤ 9223372036854775807 := Nat.le_trans (by rw [s4, s1]; omega) big
  have b4 : (((a1 ++ (⟨#[10]⟩ : ByteArray)) ++ a0.extract 0 mid) ++ (a1 ++ (⟨#[10]⟩ : ByteArray))).size + (a0.extract mid a0.size).size ≤ 9223372036854775807 := Nat.le_trans (by rw [s5, s3]; omega) big
  have b5 : ((((a1 ++ (⟨#[10]⟩ : ByteArray)) ++ a0.extract 0 mid) ++ (a1 ++ (⟨#[10]⟩ : ByteArray))) ++ a0.extract mid a0.size).size + 1 ≤ 9223372036854775807 := Nat.le_trans (by rw [s6]; omega) big
  have b6 : (((((a1 ++ (⟨#[10]⟩ : ByteArray)) ++ a0.extract 0 mid) ++ (a1 ++ (⟨#[10]⟩ : ByteArray))) ++ a0.extract mid a0.size) ++ (⟨#[10]⟩ : ByteArray)).size + a1.size ≤ 9223372036854775807 := Nat.le_trans (by rw [s7]; omega) big
  have hL := lex_ok (s := (((((a1 ++ (⟨#[10]⟩ : ByteArray)) ++ a0.extract 0 mid) ++ (a1 ++ (⟨#[10]⟩ : ByteArray))) ++ a0.extract mid a0.size) ++ (⟨#[10]⟩ : ByteArray)) ++ a1) (by rw [s8]; omega) (by rw [hd]; exact n1)
  rw [hd] at hL
  have hc1 : ¬ ((mid : Int)) > (a0.size : Int) := by omega
  have hc2 : ¬ ((mid : Int)) < 0 := by omega
  refine Ev.step (f := fun k => observatorylaw08_LexerGaps.j2 k a0 a1 true (ts.map toS) (mid : Int) false) (fun k => ?_) ?_
  · simp only [observatorylaw08_LexerGaps.j1]
    rw [if_neg hc1, decide_eq_false hc2]
  · refine Ev.step (f := fun k => (observatoryref08_Alike.f k (ts.map toS) ((lx ((a1.data.toList ++ [10]) ++ ((a0.data.toList.take mid ++ ((a1.data.toList ++ [10]) ++ a0.data.toList.drop mid)) ++ 10 :: a1.data.toList)) 0).1.map toS)).bind fun t236 => (some t236)) (fun k => ?_) (Ev.bind (f := fun _ t => some t) (alike_ev n2 hl) (Ev.now true))
    simp only [observatorylaw08_LexerGaps.j2]
    rw [if_neg Bool.false_ne_true, if_pos b1, if_pos hi0, if_pos hi1, Int.toNat_natCast, if_pos b2, if_pos b3, if_pos b4, if_pos b5, if_pos b6, hL]
    simp only [Option.bind_some]
    rw [if_pos trivial, if_pos trivial]
/-- A text with gaps and line ends before it, after one of its tokens and behind it has the same tokens, their places aside. -/
theorem LexerGaps : observatorylaw08_LexerGaps.Pure := by
  intro a0 a1 a2 _ _ hwf
  have h16 : 0 ≤ a2 ∧ a2 ≤ 65535 := by
    simp [Lit.wf, IntKind.min, IntKind.max, IntKind.signed, IntKind.bits] at hwf
    omega
  have z0 := size_len a0
  have z1 := size_len a1
  have hout : ∀ k, observatorylaw08_LexerGaps.j0 (k + 1) a0 a1 a2 true true = some true := fun k => by
    simp only [observatorylaw08_LexerGaps.j0]
    rw [if_pos trivial]
  refine Ev.rounds (g := fun k => observatorylaw08_LexerGaps.f k a0 a1 a2) ?_
  unfold observatorylaw08_LexerGaps.f
  simp only [head_true, Option.bind_some]
  by_cases h3 : (a0.size : Int) > 1500
  · simp only [if_pos h3]
    exact Ev.step (f := fun _ => some true) hout (Ev.now true)
  · simp only [if_neg h3]
    by_cases h4 : (a1.size : Int) > 300
    · simp only [if_pos h4]
      exact Ev.step (f := fun _ => some true) hout (Ev.now true)
    · simp only [if_neg h4]
      refine Ev.bind (f := fun k t222 => observatorylaw08_LexerGaps.j0 k a0 a1 a2 true (!t222)) (gaps_ev (s := a1) (by omega)) ?_
      by_cases hg : skp false a1.data.toList = []
      · rw [decide_eq_true hg]
        have hlen := lx_len _ a0.data.toList 0 (Nat.le_refl _)
        cases hn : (lx a0.data.toList 0).2 with
        | some x =>
          obtain ⟨e, o⟩ := x
          obtain ⟨m1, m2⟩ := lex_no (s := a0) (by omega) hn
          refine Ev.step (f := fun _ => some true) (fun k => ?_) (Ev.now true)
          simp only [observatorylaw08_LexerGaps.j0]
          rw [if_neg (by decide), m1]
          simp only [Option.bind_some]
          rw [if_neg m2]
        | none =>
          have hL := lex_ok (s := a0) (by omega) hn
          have hmid := fun x hx => middles _ hg a0.data.toList 0 (Nat.le_refl _) hn x hx
          generalize hts0 : (lx a0.data.toList 0).1 = ts at *
          by_cases h0 : ((ts.map toS).length : Int) > 0
          · have hpos : 0 < ts.length := by rw [List.length_map] at h0; omega
            obtain ⟨j, hj⟩ : ∃ j : Nat, Int.tmod a2 ((ts.map toS).length : Int) = (j : Int) := Int.eq_ofNat_of_zero_le (Int.tmod_nonneg _ h16.1)
            have hjl : (j : Int) < ((ts.map toS).length : Int) := by rw [← hj]; exact Int.tmod_lt_of_pos _ h0
            have hjl' : j < ts.length := by rw [List.length_map] at hjl; omega
            obtain ⟨x, hx⟩ : ∃ t, ts[j]? = some t := ⟨_, List.getElem?_eq_getElem hjl'⟩
            have r1 := rd_toS hx
            obtain ⟨i1, i2, i3⟩ := hmid x (List.mem_of_getElem? hx)
            have hW := width_tok x (by omega)
            have hf3 : (toS x).f3 = (x.at_ : Int) := rfl
            rw [Nat.sub_zero] at i3
            have hm : x.at_ + (raw x).length ≤ a0.size := by omega
            have hwa : wrap64 a2 = a2 := w64s (by omega) (by omega)
            have hw1 : wrap64 ((x.at_ : Int) + ((raw x).length : Int)) = ((x.at_ + (raw x).length : Nat) : Int) := by clear hwa; rw [w64s (by omega) (by omega)]; omega
            have hne : ¬ ((ts.map toS).length : Int) = 0 := by clear hwa hw1; omega
            refine Ev.step (f := fun k => observatorylaw08_LexerGaps.j1 k a0 a1 true (ts.map toS) ((x.at_ + (raw x).length : Nat) : Int)) (fun k => ?_) (gaps_j a0 a1 ts _ (by clear hwa hw1; omega) (by clear hwa hw1; omega) hg hm (by clear hwa hw1; omega) i3)
            simp only [observatorylaw08_LexerGaps.j0]
            rw [if_neg (by decide), hL]
            simp only [Option.bind_some]
            rw [if_pos trivial, if_pos h0, if_neg hne, hwa, hj, if_pos (Int.natCast_nonneg _), if_pos hjl, r1, hW]
            simp only [Option.bind_some]
            rw [hf3, hw1]
          · refine Ev.step (f := fun k => observatorylaw08_LexerGaps.j1 k a0 a1 true (ts.map toS) ((0 : Nat) : Int)) (fun k => ?_) (gaps_j a0 a1 ts 0 (by omega) (by omega) hg (Nat.zero_le _) (by omega) (fun q => ?_))
            · simp only [observatorylaw08_LexerGaps.j0]
              rw [if_neg (by decide), hL]
              simp only [Option.bind_some]
              rw [if_pos trivial, if_neg h0]
              rfl
            · rw [List.take_zero, List.nil_append, List.drop_zero, lx_skip (skp_line hg _)]
              have := lx_none a0.data.toList 0 (q + (a1.data.toList ++ [10]).length) hn
              exact ⟨this.1, by rw [this.2, hts0]⟩
      · rw [decide_eq_false hg]
        exact Ev.step (f := fun _ => some true) hout (Ev.now true)
end Go.Proofs.YtmbpjjdaklpemaaDoor.Pure
