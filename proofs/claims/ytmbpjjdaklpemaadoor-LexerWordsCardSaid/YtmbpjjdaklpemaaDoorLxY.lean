/-
  What the printed helpers of the reference come to: has, letter, digit, word, gap, Gaps.
-/
import Derived.Test.YtmbpjjdaklpemaaDoorPxx4
import Derived.Test.YtmbpjjdaklpemaaDoorLxV
namespace Go.Proofs.YtmbpjjdaklpemaaDoor.Px
open Go.RowKit Go.Proofs.YtmbpjjdaklpemaaDoorW.PrintWords Go.Proofs.YtmbpjjdaklpemaaDoorW.PrintLast Go.Proofs.YtmbpjjdaklpemaaDoorW.PrintMore Go.Proofs.YtmbpjjdaklpemaaDoor.Lx
set_option linter.unusedVariables false
set_option linter.unusedSimpArgs false
theorem bt_nat {s : ByteArray} {i : Nat} (h : i < s.size) : bt s (i : Int) = ((s[i]).toNat : Int) := by
  unfold bt; simp [h]
theorem bt_list {cs : List UInt8} {j : Nat} {c : UInt8} (h : cs[j]? = some c) : bt ⟨cs.toArray⟩ (j : Int) = (c.toNat : Int) := by
  obtain ⟨hj, rfl⟩ := List.getElem?_eq_some_iff.1 h
  rw [bt_nat (by rw [size_len]; exact hj)]
  rfl
def hasB (cs : List UInt8) (x : Int) : Bool := cs.any (fun c => ((c.toNat : Int) == x))
theorem has_loop (cs : List UInt8) (hc : cs.length ≤ 100) (x : Int) (d : Nat) : ∀ (j : Nat), cs.length ≤ j + d → j ≤ cs.length →
    Ev (fun k => observatoryref08_has.l0 k ⟨cs.toArray⟩ x (j : Int)) (hasB (cs.drop j) x) := by
  have hz : (⟨cs.toArray⟩ : ByteArray).size = cs.length := by rw [size_len]
  have hout : ∀ j : Nat, ¬ j < cs.length → Ev (fun k => observatoryref08_has.l0 k ⟨cs.toArray⟩ x (j : Int)) (hasB (cs.drop j) x) := by
    intro j hj
    rw [List.drop_eq_nil_of_le (by omega)]
    refine Ev.step (f := fun _ => some false) (fun k => ?_) (Ev.now false)
    simp only [observatoryref08_has.l0]
    rw [if_neg (by rw [hz]; omega)]
  induction d with
  | zero => intro j h1 h2; exact hout j (by omega)
  | succ d ih =>
    intro j h1 h2
    by_cases hlt : j < cs.length
    · rw [List.drop_eq_getElem_cons hlt]
      have hb := bt_list (List.getElem?_eq_getElem hlt)
      have hw : wrap64 ((j : Int) + 1) = ((j + 1 : Nat) : Int) := by rw [w64s (by omega) (by omega)]; omega
      by_cases he : ((cs[j]).toNat : Int) = x
      · have hv : hasB (cs[j] :: cs.drop (j + 1)) x = true := by unfold hasB; rw [List.any_cons, he]; simp
        rw [hv]
        refine Ev.step (f := fun _ => some true) (fun k => ?_) (Ev.now true)
        simp only [observatoryref08_has.l0]
        rw [if_pos (by rw [hz]; clear hw; omega), if_pos (Int.natCast_nonneg _), hb, if_pos he]
      · have hv : hasB (cs[j] :: cs.drop (j + 1)) x = hasB (cs.drop (j + 1)) x := by
          unfold hasB; rw [List.any_cons, beq_eq_false_iff_ne.2 he, Bool.false_or]
        rw [hv]
        refine Ev.step (f := fun k => observatoryref08_has.l0 k ⟨cs.toArray⟩ x ((j + 1 : Nat) : Int)) (fun k => ?_) (ih (j + 1) (by omega) (by omega))
        simp only [observatoryref08_has.l0]
        rw [if_pos (by rw [hz]; clear hw; omega), if_pos (Int.natCast_nonneg _), hb, if_neg he, hw]
    · exact hout j hlt
theorem has_ev {cs : List UInt8} (hc : cs.length ≤ 100) (x : Int) : Ev (fun k => observatoryref08_has.f k ⟨cs.toArray⟩ x) (hasB cs x) :=
  has_loop cs hc x cs.length 0 (by omega) (by omega)
theorem has_blank (b : UInt8) : hasB [32, 9, 10] (b.toNat : Int) = isBlank b := u8_eq (f := fun b => hasB [32, 9, 10] (b.toNat : Int)) (g := isBlank) (by decide +kernel) b
theorem letter_u (b : UInt8) : observatoryref08_letter.f (b.toNat : Int) = some (isLetter b) :=
  eq_of_beq (u8_all (p := fun b => observatoryref08_letter.f (b.toNat : Int) == some (isLetter b)) (by decide +kernel) b)
theorem digit_u (b : UInt8) : observatoryref08_digit.f (b.toNat : Int) = some (isDigit b) :=
  eq_of_beq (u8_all (p := fun b => observatoryref08_digit.f (b.toNat : Int) == some (isDigit b)) (by decide +kernel) b)
theorem word_u (b : UInt8) : observatoryref08_word.f (b.toNat : Int) = some (isWord b) :=
  eq_of_beq (u8_all (p := fun b => observatoryref08_word.f (b.toNat : Int) == some (isWord b)) (by decide +kernel) b)
theorem u8_int {b : UInt8} (n : UInt8) : (b.toNat : Int) = (n.toNat : Int) ↔ b = n := by
  rw [Int.natCast_inj, UInt8.toNat_inj]
theorem gap_loops (s : ByteArray) (hs : s.size ≤ 100000) (d : Nat) : ∀ (i : Nat), i ≤ s.size → s.size ≤ i + d →
    Ev (fun k => observatoryref08_gap.l0 k s (i : Int)) ((gapEnd s i : Nat) : Int) ∧
    Ev (fun k => observatoryref08_gap.l1 k s (i : Int)) ((s.size - (skp true (s.data.toList.drop i)).length : Nat) : Int) := by
  have hz : s.data.toList.length = s.size := by simp
  have hout : ∀ i : Nat, ¬ i < s.size → i ≤ s.size → Ev (fun k => observatoryref08_gap.l0 k s (i : Int)) ((gapEnd s i : Nat) : Int) ∧
    Ev (fun k => observatoryref08_gap.l1 k s (i : Int)) ((s.size - (skp true (s.data.toList.drop i)).length : Nat) : Int) := by
    intro i hi hle
    obtain rfl : i = s.size := by omega
    have hA : Ev (fun k => observatoryref08_gap.l0 k s (s.size : Int)) ((gapEnd s s.size : Nat) : Int) := by
      rw [gapEnd_end]
      refine Ev.step (f := fun _ => some (s.size : Int)) (fun k => ?_) (Ev.now _)
      simp only [observatoryref08_gap.l0]
      rw [if_neg (by omega)]
    refine ⟨hA, ?_⟩
    rw [List.drop_eq_nil_of_le (by omega)]
    rw [gapEnd_end] at hA
    refine Ev.step (f := fun k => observatoryref08_gap.l0 k s (s.size : Int)) (fun k => ?_) hA
    simp only [observatoryref08_gap.l1]
    rw [if_neg (by omega)]
  induction d with
  | zero => intro i h1 h2; exact hout i (by omega) h1
  | succ d ih =>
    intro i h1 h2
    by_cases hlt : i < s.size
    · obtain ⟨ihA, ihB⟩ := ih (i + 1) (by omega) (by omega)
      have hb := bt_nat hlt
      have hd := drop_cons hlt
      have hi0 : (0 : Int) ≤ (i : Int) := Int.natCast_nonneg _
      have hi1 : (i : Int) < (s.size : Int) := by omega
      have hw : wrap64 ((i : Int) + 1) = ((i + 1 : Nat) : Int) := by rw [w64s (by omega) (by omega)]; omega
      have hA : Ev (fun k => observatoryref08_gap.l0 k s (i : Int)) ((gapEnd s i : Nat) : Int) := by
        refine Ev.step (f := fun k => (observatoryref08_has.f k (⟨#[32, 9, 10]⟩ : ByteArray) (bt s (i : Int))).bind fun t102 => (if t102 = true then (observatoryref08_gap.l0 k s (wrap64 ((i : Int) + 1))) else (if (bt s (i : Int)) = 35 then (observatoryref08_gap.l1 k s (i : Int)) else (some (i : Int))))) (fun k => ?_) ?_
        · simp only [observatoryref08_gap.l0]
          rw [if_pos hi1, if_pos hi0]
        · rw [hb, hw]
          have hH := has_ev (cs := [32, 9, 10]) (by decide) ((s[i]).toNat : Int)
          rw [has_blank] at hH
          refine Ev.bind (f := fun k t102 => (if t102 = true then (observatoryref08_gap.l0 k s ((i + 1 : Nat) : Int)) else (if ((s[i]).toNat : Int) = 35 then (observatoryref08_gap.l1 k s (i : Int)) else (some (i : Int))))) hH ?_
          cases hbl : isBlank s[i] with
          | true =>
            have : gapEnd s i = gapEnd s (i + 1) := by unfold gapEnd; rw [hd, skp, if_pos hbl]
            rw [this]
            exact Ev.congr (fun k => if_pos rfl) ihA
          | false =>
            by_cases h35 : s[i] = 35
            · have h35' : ((s[i]).toNat : Int) = 35 := by rw [h35]; rfl
              have : gapEnd s i = s.size - (skp true (s.data.toList.drop (i + 1))).length := by
                unfold gapEnd; rw [hd, skp, hbl, if_neg (by decide), if_pos (by rw [h35]; rfl)]
              rw [this]
              refine Ev.congr (f := fun k => observatoryref08_gap.l1 k s (i : Int)) (fun k => by rw [if_neg (by decide), if_pos h35']) ?_
              refine Ev.step (f := fun k => observatoryref08_gap.l1 k s ((i + 1 : Nat) : Int)) (fun k => ?_) ihB
              simp only [observatoryref08_gap.l1]
              rw [if_pos hi1, if_pos hi0, hb, if_neg (by rw [h35']; decide), hw]
            · have h35' : ¬ ((s[i]).toNat : Int) = 35 := fun h => h35 ((u8_int 35).1 h)
              have : gapEnd s i = i := by
                unfold gapEnd; rw [hd, skp, hbl, if_neg (by decide), if_neg (by simpa using h35), ← hd, List.length_drop, hz]; clear hw; omega
              rw [this]
              exact Ev.congr (fun k => by rw [if_neg (by decide), if_neg h35']) (Ev.now (i : Int))
      refine ⟨hA, ?_⟩
      by_cases h10 : s[i] = 10
      · have h10' : ((s[i]).toNat : Int) = 10 := by rw [h10]; rfl
        have : s.size - (skp true (s.data.toList.drop i)).length = gapEnd s i := by
          unfold gapEnd; rw [hd, skp, if_pos (by rw [h10]; rfl), skp, if_pos (by rw [h10]; rfl)]
        rw [this]
        refine Ev.step (f := fun k => observatoryref08_gap.l0 k s (i : Int)) (fun k => ?_) hA
        simp only [observatoryref08_gap.l1]
        rw [if_pos hi1, if_pos hi0, hb, if_pos h10']
      · have h10' : ¬ ((s[i]).toNat : Int) = 10 := fun h => h10 ((u8_int 10).1 h)
        have : skp true (s.data.toList.drop i) = skp true (s.data.toList.drop (i + 1)) := by
          rw [hd, skp, if_neg (by simpa using h10)]
        rw [this]
        refine Ev.step (f := fun k => observatoryref08_gap.l1 k s ((i + 1 : Nat) : Int)) (fun k => ?_) ihB
        simp only [observatoryref08_gap.l1]
        rw [if_pos hi1, if_pos hi0, hb, if_neg h10', hw]
    · exact hout i hlt h1
theorem gap_ev {s : ByteArray} (hs : s.size ≤ 100000) {i : Nat} (hi : i ≤ s.size) : Ev (fun k => observatoryref08_gap.f k s (i : Int)) ((gapEnd s i : Nat) : Int) :=
  (gap_loops s hs s.size i hi (by omega)).1
theorem gaps_ev {s : ByteArray} (hs : s.size ≤ 100000) : Ev (fun k => observatoryref08_Gaps.f k s) (decide (skp false s.data.toList = [])) := by
  have hz : s.data.toList.length = s.size := by simp
  have hle := skp_le false s.data.toList
  refine Ev.bind (g := fun k => observatoryref08_gap.f k s 0) (f := fun _ t => some (t == (s.size : Int))) (gap_ev hs (i := 0) (Nat.zero_le _)) ?_
  have he : gapEnd s 0 = s.size - (skp false s.data.toList).length := rfl
  have : (((gapEnd s 0 : Nat) : Int) == (s.size : Int)) = decide (skp false s.data.toList = []) := by
    rw [he]
    by_cases h : skp false s.data.toList = []
    · rw [h, decide_eq_true rfl]; simp
    · rw [decide_eq_false h]
      have : 0 < (skp false s.data.toList).length := List.length_pos_iff.2 h
      exact beq_eq_false_iff_ne.2 (by omega)
  rw [this]
  exact Ev.now _
theorem lx_err_lt (m : Nat) : ∀ (l : List UInt8) (p : Nat) (e : Int) (o : Nat), l.length ≤ m → (lx l p).2 = some (e, o) → p ≤ o ∧ o < p + l.length := by
  induction m with
  | zero =>
    intro l p e o h hn
    obtain rfl : l = [] := List.eq_nil_of_length_eq_zero (by omega)
    rw [lx_nil (l := []) rfl] at hn; simp at hn
  | succ m ih =>
    intro l p e o h hn
    have hle := skp_le false l
    rcases lx_cases l p with ⟨h1, h2⟩ | ⟨e', h1, h2, h3⟩ | ⟨k, t, n, w, h1, h2, h3, h4⟩
    · rw [h2] at hn; simp at hn
    · rw [h3] at hn
      simp only [Option.some.injEq, Prod.mk.injEq] at hn
      have := List.length_pos_iff.2 h1
      omega
    · rw [h4] at hn
      have := ih _ _ e o (by rw [List.length_drop]; omega) hn
      rw [List.length_drop] at this
      omega
end Go.Proofs.YtmbpjjdaklpemaaDoor.Px
