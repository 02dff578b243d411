import Derived.Test.YtmbpjjdaklpemaaDoorPxx9
import Derived.Test.YtmbpjjdaklpemaaDoorLxV
namespace Go.Proofs.YtmbpjjdaklpemaaDoor.Pure
open Go.RowKit Go.Proofs.YtmbpjjdaklpemaaDoor.Px Go.Proofs.YtmbpjjdaklpemaaDoorW.PrintWords Go.Proofs.YtmbpjjdaklpemaaDoorW.PrintLast Go.Proofs.YtmbpjjdaklpemaaDoor.Lx

theorem longest_loop (l : List UInt8) (hl : l.length ≤ 3000) (hn : (lx l 0).2 = none) (d : Nat) : ∀ (j : Nat), (lx l 0).1.length ≤ j + d →
    Ev (fun k => observatorylaw08_LexerLongest.l0 k true ((lx l 0).1.map toS) 0 ((j : Int) + 1)) true := by
  have hlen := lx_len l.length l 0 (Nat.le_refl _)
  have hb := fun x => tok_bounds (x := x) hn
  have hlong := longest l.length l 0
  induction d with
  | zero =>
    intro j hj
    refine Ev.step (f := fun k => observatorylaw08_LexerLongest.j1 k true ((lx l 0).1.map toS) 0 ((j : Int) + 1) false) (fun k => ?_) ?_
    · simp only [observatorylaw08_LexerLongest.l0]
      rw [if_neg (by rw [List.length_map]; omega)]
    · refine Ev.step (f := fun _ => some true) (fun k => ?_) (Ev.now true)
      simp only [observatorylaw08_LexerLongest.j1]
      rw [if_neg (by decide)]
  | succ d ih =>
    intro j hj
    by_cases hlt : j + 1 < (lx l 0).1.length
    · obtain ⟨t1, h1⟩ : ∃ t, (lx l 0).1[j]? = some t := ⟨_, List.getElem?_eq_getElem (by omega)⟩
      obtain ⟨t2, h2⟩ : ∃ t, (lx l 0).1[j + 1]? = some t := ⟨_, List.getElem?_eq_getElem hlt⟩
      obtain ⟨b1, b2⟩ := hb t1 (List.mem_of_getElem? h1)
      obtain ⟨b3, b4⟩ := hb t2 (List.mem_of_getElem? h2)
      have hL := hlong j t1 t2 (Nat.le_refl _) h1 h2
      have r1 := rd_toS h1
      have r2 := rd_toS h2
      rw [Int.natCast_add] at r2
      have hw1 : wrap64 ((j : Int) + 1 - 1) = j := by rw [w64s (by omega) (by omega)]; omega
      have hw2 : wrap64 ((j : Int) + 1 + 1) = ((j + 1 : Nat) : Int) + 1 := by rw [w64s (by omega) (by omega)]; omega
      have f3 : (toS t1).f3 = t1.at_ := rfl
      have f3' : (toS t2).f3 = t2.at_ := rfl
      have hw3 : wrap64 ((t1.at_ : Int) + ((raw t1).length : Int)) = ((t1.at_ + (raw t1).length : Nat) : Int) := by rw [w64s (by omega) (by omega)]; omega
      have hw3' : wrap64 ((toS t1).f3 + ((raw t1).length : Int)) = ((t1.at_ + (raw t1).length : Nat) : Int) := hw3
      have z1 : (raw t1).length ≤ 20000 := Nat.le_trans (Nat.le_trans (Nat.le_add_left _ _) (Nat.le_trans b2 (Nat.le_of_eq (Nat.zero_add _)))) (Nat.le_trans hl (by decide))
      have z2 : (raw t2).length ≤ 20000 := Nat.le_trans (Nat.le_trans (Nat.le_add_left _ _) (Nat.le_trans b4 (Nat.le_of_eq (Nat.zero_add _)))) (Nat.le_trans hl (by decide))
      refine Ev.step (f := fun k => observatorylaw08_LexerLongest.j1 k true ((lx l 0).1.map toS) 0 ((j : Int) + 1) true) (fun k => ?_) ?_
      · simp only [observatorylaw08_LexerLongest.l0]
        rw [if_pos (by rw [List.length_map]; omega)]
        rfl
      · refine Ev.step (f := fun k => observatorylaw08_LexerLongest.l0 k true ((lx l 0).1.map toS) 0 (((j + 1 : Nat) : Int) + 1)) (fun k => ?_) (ih (j + 1) (by omega))
        simp only [observatorylaw08_LexerLongest.j1]
        have r2' : rd_T30 ((lx l 0).1.map toS) ((j : Int) + 1) = toS t2 := r2
        rw [if_pos trivial, hw1, if_pos (by clear hw1 hw2 hw3 hw3'; omega), if_pos (by rw [List.length_map]; clear hw1 hw2 hw3 hw3'; omega), r1, width_tok t1 z1]
        simp only [Option.bind_some]
        rw [if_pos (by clear hw1 hw2 hw3 hw3'; omega), if_pos (by rw [List.length_map]; clear hw1 hw2 hw3 hw3'; omega), r2', hw2, hw3']
        by_cases ha : ((t1.at_ + (raw t1).length : Nat) : Int) = (toS t2).f3
        · rw [if_pos ha, written_tok t1 z1, written_tok t2 z2]
          simp only [Option.bind_some]
          have s1 : (⟨(raw t1).toArray⟩ : ByteArray).size = (raw t1).length := by rw [size_len]
          have s2 : (⟨(raw t2).toArray⟩ : ByteArray).size = (raw t2).length := by rw [size_len]
          rw [if_pos (by rw [s1, s2]; exact Nat.le_trans (Nat.add_le_add z1 z2) (by decide))]
          have hd : ((⟨(raw t1).toArray⟩ : ByteArray) ++ ⟨(raw t2).toArray⟩).data.toList = raw t1 ++ raw t2 := by rw [data_app]
          have hs : ((⟨(raw t1).toArray⟩ : ByteArray) ++ ⟨(raw t2).toArray⟩).size ≤ 5000 := by
            rw [size_len, hd, List.length_append]
            clear hw1 hw2 hw3 hw3' r1 r2
            rw [f3'] at ha
            omega
          have hno := hL (by rw [f3'] at ha; exact Int.ofNat.inj ha) 0
          cases hr : (lx (raw t1 ++ raw t2) 0).2 with
          | none =>
            rw [lex_ok hs (by rw [hd]; exact hr), hd]
            simp only [Option.bind_some]
            rw [if_pos trivial, if_neg ?_]
            intro hc
            rw [List.length_map] at hc
            exact hno ⟨by omega, hr⟩
          | some x =>
            obtain ⟨e, o⟩ := x
            obtain ⟨m1, m2⟩ := lex_no hs (by rw [hd]; exact hr)
            rw [m1]
            simp only [Option.bind_some]
            rw [if_neg m2]
        · rw [if_neg ha]
    · refine Ev.step (f := fun k => observatorylaw08_LexerLongest.j1 k true ((lx l 0).1.map toS) 0 ((j : Int) + 1) false) (fun k => ?_) ?_
      · simp only [observatorylaw08_LexerLongest.l0]
        rw [if_neg (by rw [List.length_map]; omega)]
      · refine Ev.step (f := fun _ => some true) (fun k => ?_) (Ev.now true)
        simp only [observatorylaw08_LexerLongest.j1]
        rfl
/-- The bytes of two tokens that follow each other directly are no single token together. -/
theorem LexerLongest : observatorylaw08_LexerLongest.Pure := by
  intro a0 _
  have hz := size_len a0
  by_cases h3 : (a0.size : Int) > 3000
  · refine ⟨0, ?_⟩
    unfold observatorylaw08_LexerLongest.f
    rw [head_true]
    simp only [Option.bind_some]
    rw [if_pos h3]
  · refine Ev.rounds (g := fun k => observatorylaw08_LexerLongest.f k a0) ?_
    unfold observatorylaw08_LexerLongest.f
    simp only [head_true, Option.bind_some, if_neg h3]
    cases hn : (lx a0.data.toList 0).2 with
    | none =>
      simp only [lex_ok (s := a0) (by omega) hn, Option.bind_some]
      exact longest_loop a0.data.toList (by omega) hn _ 0 (by rw [Nat.zero_add]; exact Nat.le_refl _)
    | some x =>
      obtain ⟨e, o⟩ := x
      obtain ⟨m1, m2⟩ := lex_no (s := a0) (by omega) hn
      simp only [m1, Option.bind_some]
      refine Ev.step (f := fun k => observatorylaw08_LexerLongest.j1 k true [] e 1 false) (fun k => ?_) ?_
      · simp only [observatorylaw08_LexerLongest.l0]
        rw [if_neg (by simp)]
      · refine Ev.step (f := fun _ => some true) (fun k => ?_) (Ev.now true)
        simp only [observatorylaw08_LexerLongest.j1]
        rw [if_neg (by decide)]
end Go.Proofs.YtmbpjjdaklpemaaDoor.Pure
