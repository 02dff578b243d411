/-
  The reference of the rig answers as the rig does.
-/
import Derived.Test.YtfklhpdnbbefbaaDoorRgQ
import Derived.Test.YtfklhpdnbbefbaaDoorPxxR
import Derived.Test.YtfklhpdnbbefbaaDoorLxT
namespace Go.Proofs.YtfklhpdnbbefbaaDoor.Px
open Go.RowKit Go.Proofs.YtfklhpdnbbefbaaDoorW.PrintWords Go.Proofs.YtfklhpdnbbefbaaDoorW.PrintLast Go.Proofs.YtfklhpdnbbefbaaDoor.Rg Go.Proofs.YtfklhpdnbbefbaaDoor.Lx
set_option linter.unusedVariables false
set_option linter.unusedSimpArgs false
theorem bt_nat {s : ByteArray} {i : Nat} (h : i < s.size) : bt s (i : Int) = ((s[i]).toNat : Int) := by
  unfold bt; simp [h]
theorem letter_u (b : UInt8) : observatoryref08_letter.f (b.toNat : Int) = some (isLetter b) :=
  eq_of_beq (u8_all (p := fun b => observatoryref08_letter.f (b.toNat : Int) == some (isLetter b)) (by decide +kernel) b)
theorem word_u (b : UInt8) : observatoryref08_word.f (b.toNat : Int) = some (isWord b) :=
  eq_of_beq (u8_all (p := fun b => observatoryref08_word.f (b.toNat : Int) == some (isWord b)) (by decide +kernel) b)
def nameP (s : ByteArray) : Prop := s.data.toList.all isWord = true ∧ s.size ≤ 24 ∧ ∃ h : 0 < s.size, isLetter s[0] = true
theorem name_loop (s : ByteArray) (hs : s.size ≤ 100000) (d : Nat) : ∀ j, j ≤ s.size → s.size ≤ j + d → ∃ b, Ev (fun k => observatoryref08_Name.l0 k s (j : Int)) b ∧
    (b = true ↔ (s.data.toList.drop j).all isWord = true ∧ s.size ≤ 24 ∧ ∃ h : 0 < s.size, isLetter s[0] = true) := by
  have hz : s.data.toList.length = s.size := by simp
  have hout : ∀ j, ¬ j < s.size → j ≤ s.size → ∃ b, Ev (fun k => observatoryref08_Name.l0 k s (j : Int)) b ∧
    (b = true ↔ (s.data.toList.drop j).all isWord = true ∧ s.size ≤ 24 ∧ ∃ h : 0 < s.size, isLetter s[0] = true) := by
    intro j hj hle
    have hd : (s.data.toList.drop j).all isWord = true := by rw [List.drop_eq_nil_of_le (by omega)]; rfl
    by_cases h0 : 0 < s.size
    · have hb := bt_nat h0
      by_cases h24 : s.size ≤ 24
      · refine ⟨isLetter s[0], ?_, ⟨fun hh => ⟨hd, h24, h0, hh⟩, fun hh => hh.2.2.2⟩⟩
        refine Ev.step (f := fun _ => some _) (fun k => ?_) (Ev.now _)
        simp only [observatoryref08_Name.l0]
        rw [if_neg (by omega), if_pos (by omega), if_pos (by omega), if_pos (by omega), show ((0 : Int)) = ((0 : Nat) : Int) from rfl, hb, letter_u]
        rfl
      · refine ⟨false, ?_, ⟨fun hh => absurd hh (by decide), fun hh => absurd hh.2.1 h24⟩⟩
        refine Ev.step (f := fun _ => some _) (fun k => ?_) (Ev.now _)
        simp only [observatoryref08_Name.l0]
        rw [if_neg (by omega), if_pos (by omega), if_neg (by omega)]
    · refine ⟨false, ?_, ⟨fun hh => absurd hh (by decide), fun hh => absurd hh.2.2.1 h0⟩⟩
      refine Ev.step (f := fun _ => some _) (fun k => ?_) (Ev.now _)
      simp only [observatoryref08_Name.l0]
      rw [if_neg (by omega), if_neg (by omega)]
  induction d with
  | zero => intro j h1 h2; exact hout j (by omega) h1
  | succ d ih =>
    intro j h1 h2
    by_cases hlt : j < s.size
    · have hb := bt_nat hlt
      by_cases hw : isWord s[j] = true
      · obtain ⟨b, i1, i2⟩ := ih (j + 1) (by omega) (by omega)
        refine ⟨b, ?_, ?_⟩
        · refine Ev.step (f := fun k => observatoryref08_Name.l0 k s ((j + 1 : Nat) : Int)) (fun k => ?_) i1
          simp only [observatoryref08_Name.l0]
          rw [if_pos (by omega), if_pos (by omega), hb, word_u, hw]
          simp only [Option.bind_some]
          rw [if_pos trivial, wsm (by omega) (by omega)]
          rfl
        · rw [i2, drop_cons hlt, List.all_cons, hw, Bool.true_and]
      · refine ⟨false, ?_, ⟨fun hh => absurd hh (by decide), fun hh => ?_⟩⟩
        · refine Ev.step (f := fun _ => some _) (fun k => ?_) (Ev.now _)
          simp only [observatoryref08_Name.l0]
          rw [if_pos (by omega), if_pos (by omega), hb, word_u]
          simp only [Option.bind_some]
          rw [if_neg hw]
        · have := hh.1
          rw [drop_cons hlt, List.all_cons, Bool.and_eq_true] at this
          exact absurd this.1 hw
    · exact hout j hlt h1
theorem tw_self {p : UInt8 → Bool} : ∀ {l : List UInt8}, l.all p = true → l.takeWhile p = l
  | [], _ => rfl
  | b :: r, h => by
    rw [List.all_cons, Bool.and_eq_true] at h
    rw [List.takeWhile_cons, if_pos h.1, tw_self h.2]
theorem tw_word {p : UInt8 → Bool} : ∀ (l : List UInt8), (l.takeWhile p).all p = true
  | [] => rfl
  | b :: r => by
    rw [List.takeWhile_cons]
    by_cases hb : p b = true
    · rw [if_pos hb, List.all_cons, hb, tw_word r]; rfl
    · rw [if_neg hb]; rfl
theorem letter_gap (b : UInt8) : (!isLetter b || (!isBlank b && !(b == 35))) = true := u8_all (p := fun b => !isLetter b || (!isBlank b && !(b == 35))) (by decide +kernel) b
/-- A text is a name for the rig as it is for the reference. -/
theorem id_name (s : ByteArray) (hs : s.size ≤ 60) : idB s = true ↔ nameP s := by
  have hz : s.data.toList.length = s.size := by simp
  have hI := id_eq s
  unfold rig_identifier.f at hI
  have hL : lexer_Lex.f s = some (lexP s) := rfl
  rw [hL] at hI
  simp only [Option.bind_some] at hI
  have hlx : lexP s = lexR (lx s.data.toList 0) := by
    unfold lexP lx
    rw [if_neg (by omega), hz]
  constructor
  · intro hb
    rw [hb] at hI
    by_cases h1 : (lexP s).2.1 = 0
    · rw [if_pos h1] at hI
      by_cases h2 : ((lexP s).1.length : Int) = 1
      · rw [if_pos h2, if_pos (by omega)] at hI
        rw [hlx] at hI h1 h2
        unfold lexR at hI h1 h2
        by_cases h5 : 5000 < (lx s.data.toList 0).1.length
        · rw [if_pos h5] at h2; simp at h2
        · rw [if_neg h5] at hI h1 h2
          rcases lx_cases s.data.toList 0 with ⟨c1, c2⟩ | ⟨e', c1, c2, c3⟩ | ⟨k, t, n, w, c1, c2, c3, c4⟩
          · rw [c2] at h2; simp at h2
          · rw [c3] at h2; simp at h2
          · rw [c4] at hI h1 h2
            simp only at hI h1 h2
            cases hr : (lx ((skp false s.data.toList).drop w) (0 + (s.data.toList.length - (skp false s.data.toList).length) + w)).2 with
            | some x =>
              obtain ⟨e, o⟩ := x
              rw [hr] at h2; simp at h2
            | none =>
              rw [hr] at hI
              simp only at hI
              split at hI
              · rename_i hk
                have hk1 : k = 1 := hk
                have ht : (⟨t.toArray⟩ : ByteArray).toList = s.toList := by
                  have : ((⟨t.toArray⟩ : ByteArray).toList == s.toList) = true := Option.some.inj hI
                  exact beq_iff_eq.1 this
                rw [Lib.toList_data, Lib.toList_data] at ht
                simp only at ht
                have hts : t = s.data.toList := by simpa using ht
                subst hk1
                cases hl : skp false s.data.toList with
                | nil => rw [hl] at c1; simp [tok1] at c1
                | cons b r =>
                  rw [hl] at c1
                  by_cases hlet : isLetter b = true
                  · rw [tok1_letter hlet] at c1
                    split at c1
                    · simp at c1
                    · rename_i hlen
                      simp only [R.tok.injEq, true_and] at c1
                      obtain ⟨c1, _, _⟩ := c1
                      rw [hts] at c1
                      have hword : ∀ c, isLetter c = true → isWord c = true := fun c hc => by unfold isWord; rw [hc]; rfl
                      have hall : s.data.toList.all isWord = true := by
                        rw [← c1, List.all_cons, hword b hlet, tw_word r]; rfl
                      have hpos : 0 < s.size := by rw [← hz, ← c1]; simp
                      refine ⟨hall, by rw [← hz, ← c1]; omega, hpos, ?_⟩
                      have hd := drop_cons hpos
                      rw [List.drop_zero, ← c1] at hd
                      rw [← (List.cons.injEq _ _ _ _ ▸ hd : b = s[0] ∧ _).1]
                      exact hlet
                  · exfalso
                    rw [tok1] at c1
                    repeat' split at c1
                    all_goals first | contradiction | (simp at c1; done)
              · exact absurd hI (by simp)
      · rw [if_neg h2] at hI; exact absurd hI (by simp)
    · rw [if_neg h1] at hI; exact absurd hI (by simp)
  · rintro ⟨hall, h24, hpos, hlet⟩
    have hd := drop_cons hpos
    rw [List.drop_zero] at hd
    have hg := letter_gap s[0]
    rw [hlet] at hg
    simp only [Bool.not_true, Bool.false_or, Bool.and_eq_true, Bool.not_eq_true'] at hg
    have hr : (s.data.toList.drop (0 + 1)).all isWord = true := by
      rw [hd, List.all_cons, Bool.and_eq_true] at hall
      exact hall.2
    have t1 : tok1 s.data.toList = .tok 1 s.data.toList 0 s.data.toList.length := by
      rw [hd, tok1_letter hlet, tw_self hr, ← hd, if_neg (by omega)]
    have s1 : skp false s.data.toList = s.data.toList := by
      rw [hd]; exact skp_head hg.1 hg.2 _
    have hx : lx s.data.toList 0 = ([(⟨1, s.data.toList, 0, 0⟩ : Tok)], none) := by
      rw [lx_tok s1 t1, List.drop_length, lx_nil (l := []) rfl]
      simp
    rw [hlx, hx] at hI
    have hI2 : some ((⟨s.data.toList.toArray⟩ : ByteArray).toList == s.toList) = some (idB s) := hI
    have : ((⟨s.data.toList.toArray⟩ : ByteArray).toList == s.toList) = true := by
      first | (rw [Lib.toList_data]; simp; done) | (rw [Lib.toList_data, Lib.toList_data]; simp; done) | (simp [Lib.toList_data]; done)
    rw [this] at hI2
    exact (Option.some.inj hI2).symm
theorem name_ev (s : ByteArray) (hs : s.size ≤ 60) : Ev (fun k => observatoryref08_Name.f k s) (idB s) := by
  obtain ⟨b, h1, h2⟩ := name_loop s (by omega) s.size 0 (Nat.zero_le _) (by omega)
  have : b = idB s := by
    rw [Bool.eq_iff_iff, h2, id_name s hs, List.drop_zero]; rfl
  rw [← this]; exact h1
/-! ### the reference's functions, from some number of rounds on -/
theorem filter_eq (id : ByteArray) (a1 a2 F d0 d1 d2 d3 d4 n : Int) : observatoryref14_filter.f id a1 a2 F d0 d1 d2 d3 d4 n = some (decide (0 ≤ n ∧ n ≤ F - 1)) := by
  unfold observatoryref14_filter.f
  by_cases h : n ≥ 0
  · rw [if_pos h]
    by_cases h2 : n < F
    · rw [decide_eq_true h2, decide_eq_true ⟨h, by omega⟩]
    · rw [decide_eq_false h2, decide_eq_false (fun hh => h2 (by omega))]
  · rw [if_neg h, decide_eq_false (fun hh => h hh.1)]
theorem rtel_eq {k : Nat} {id : ByteArray} (hk : observatoryref08_Name.f k id = some (idB id)) (site speed F d0 d1 d2 d3 d4 : Int) : observatoryref14_Telescope.f k id site speed F d0 d1 d2 d3 d4 = some (decide (TelOk id site speed F)) := by
  unfold observatoryref14_Telescope.f
  rw [hk]
  simp only [Option.bind_some]
  by_cases h0 : idB id = true
  · rw [if_pos h0]
    by_cases h1 : site ≥ 0
    · rw [if_pos h1]
      by_cases h2 : site ≤ 15
      · rw [if_pos h2]
        by_cases h3 : speed ≥ 1
        · rw [if_pos h3]
          by_cases h4 : speed ≤ 20
          · rw [if_pos h4]
            by_cases h5 : F ≥ 1
            · rw [if_pos h5]
              by_cases h6 : F ≤ 8
              · rw [decide_eq_true h6, decide_eq_true (show TelOk id site speed F from ⟨h0, ⟨h1, h2⟩, ⟨h3, h4⟩, ⟨h5, h6⟩⟩)]
              · rw [decide_eq_false h6, decide_eq_false (show ¬ TelOk id site speed F from fun hh => h6 hh.2.2.2.2)]
            · rw [if_neg h5, decide_eq_false (show ¬ TelOk id site speed F from fun hh => h5 hh.2.2.2.1)]
          · rw [if_neg h4, decide_eq_false (show ¬ TelOk id site speed F from fun hh => h4 hh.2.2.1.2)]
        · rw [if_neg h3, decide_eq_false (show ¬ TelOk id site speed F from fun hh => h3 hh.2.2.1.1)]
      · rw [if_neg h2, decide_eq_false (show ¬ TelOk id site speed F from fun hh => h2 hh.2.1.2)]
    · rw [if_neg h1, decide_eq_false (show ¬ TelOk id site speed F from fun hh => h1 hh.2.1.1)]
  · rw [if_neg h0, decide_eq_false (show ¬ TelOk id site speed F from fun hh => h0 hh.1)]
theorem rturn_eq {k : Nat} {id : ByteArray} (hk : observatoryref08_Name.f (k + 1) id = some (idB id)) (site speed F d0 d1 d2 d3 d4 a b : Int) : observatoryref14_Turn.f (k + 1) id site speed F d0 d1 d2 d3 d4 a b = some (if TurnOk id site speed F a b then (turnN F a b, 0) else (0, 1)) := by
  unfold observatoryref14_Turn.f
  rw [rtel_eq hk]
  simp only [Option.bind_some, filter_eq]
  by_cases h0 : TelOk id site speed F
  · rw [if_pos (decide_eq_true h0)]
    have hF := h0.2.2.2
    by_cases h1 : 0 ≤ a ∧ a ≤ F - 1
    · rw [if_pos (decide_eq_true h1)]
      by_cases h2 : 0 ≤ b ∧ b ≤ F - 1
      · rw [decide_eq_true h2, if_pos (show TurnOk id site speed F a b from ⟨h0, h1, h2⟩)]
        simp only [observatoryref14_Turn.j0, Bool.not_true]
        rw [if_neg Bool.false_ne_true, wsm (x := a - b) (by omega) (by omega)]
        unfold turnN
        by_cases h3 : a - b < 0
        · rw [if_pos h3, wsm (x := -(a - b)) (by omega) (by omega), wsm (x := F - -(a - b)) (by omega) (by omega)]
          have e3 : mn (-(a - b)) (F - -(a - b)) = min (max (a - b) (b - a)) (F - max (a - b) (b - a)) := by unfold mn; split <;> omega
          rw [e3, wsm (by omega) (by omega)]
        · rw [if_neg h3, wsm (x := F - (a - b)) (by omega) (by omega)]
          have e3 : mn (a - b) (F - (a - b)) = min (max (a - b) (b - a)) (F - max (a - b) (b - a)) := by unfold mn; split <;> omega
          rw [e3, wsm (by omega) (by omega)]
      · rw [decide_eq_false h2, if_neg (show ¬ TurnOk id site speed F a b from fun hh => h2 hh.2.2)]
        simp [observatoryref14_Turn.j0]
    · rw [decide_eq_false h1, if_neg Bool.false_ne_true, if_neg (show ¬ TurnOk id site speed F a b from fun hh => h1 hh.2.1)]
      simp [observatoryref14_Turn.j0]
  · rw [decide_eq_false h0, if_neg Bool.false_ne_true, if_neg (show ¬ TurnOk id site speed F a b from fun hh => h0 hh.1)]
    simp [observatoryref14_Turn.j0]
theorem rvalid_eq {k : Nat} {id : ByteArray} (hk : observatoryref08_Name.f k id = some (idB id)) (site speed F d0 d1 d2 d3 d4 at_ fl : Int) (st : Bool) : observatoryref14_Valid.f k id site speed F d0 d1 d2 d3 d4 at_ fl st = some (decide (ValOk id site speed F at_ fl)) := by
  unfold observatoryref14_Valid.f
  rw [rtel_eq hk]
  simp only [Option.bind_some, filter_eq]
  by_cases h0 : TelOk id site speed F
  · rw [if_pos (decide_eq_true h0)]
    by_cases h1 : at_ ≥ -48
    · rw [if_pos h1]
      by_cases h2 : at_ ≤ 48
      · rw [if_pos h2]
        by_cases h3 : 0 ≤ fl ∧ fl ≤ F - 1
        · rw [decide_eq_true h3, decide_eq_true (show ValOk id site speed F at_ fl from ⟨h0, ⟨h1, h2⟩, h3⟩)]
        · rw [decide_eq_false h3, decide_eq_false (show ¬ ValOk id site speed F at_ fl from fun hh => h3 hh.2.2)]
      · rw [if_neg h2, decide_eq_false (show ¬ ValOk id site speed F at_ fl from fun hh => h2 hh.2.1.2)]
    · rw [if_neg h1, decide_eq_false (show ¬ ValOk id site speed F at_ fl from fun hh => h1 hh.2.1.1)]
  · rw [decide_eq_false h0, if_neg Bool.false_ne_true, decide_eq_false (show ¬ ValOk id site speed F at_ fl from fun hh => h0 hh.1)]
theorem rreach : ∀ c : Nat, c < 32 → observatoryref13_Reach.f 102 (c : Int) = some (reachL (c : Int), 0) := by decide +kernel
theorem rmove0 : ∀ c : Nat, c < 32 → ∀ s : Nat, s < 97 → observatoryref13_Move.j0 102 ((s : Int) - 48) (reachL (c : Int)) false = some (moveP ((s : Int) - 48) (c : Int)) := by decide +kernel
theorem rmove {a c : Int} (ha : -48 ≤ a ∧ a ≤ 48) (hc : 0 ≤ c ∧ c < 32) {k : Nat} (hk : 102 ≤ k) : observatoryref13_Move.f k a c = some (moveP a c) := by
  obtain ⟨s, rfl⟩ : ∃ s : Nat, a = (s : Int) - 48 := ⟨(a + 48).toNat, by omega⟩
  obtain ⟨m, rfl⟩ : ∃ m : Nat, c = (m : Int) := ⟨c.toNat, by omega⟩
  have h : observatoryref13_Move.f 102 ((s : Int) - 48) (m : Int) = some (moveP ((s : Int) - 48) (m : Int)) := by
    unfold observatoryref13_Move.f
    rw [rreach m (by omega)]
    simp only [Option.bind_some]
    rw [if_pos trivial]
    have hi : observatoryref13_Is.f ((s : Int) - 48) = some true := by unfold observatoryref13_Is.f; rw [if_pos ha.1, decide_eq_true ha.2]
    rw [hi]
    simp only [Option.bind_some, Bool.not_true]
    exact rmove0 m (by omega) s (by omega)
  exact at_rounds (fun k => observatoryref13_Move.mono _ _ k) hk h
theorem rprep_eq {k : Nat} {id : ByteArray} (hk : ∀ j, k ≤ j → observatoryref08_Name.f j id = some (idB id)) (h102 : 102 ≤ k) (site speed F d0 d1 d2 d3 d4 at_ fl : Int) (st : Bool) (c f : Int) : observatoryref14_Prepare.f (k + 3) id site speed F d0 d1 d2 d3 d4 at_ fl st c f = some (prepP id site speed F at_ fl st c f) := by
  have hbad : observatoryref14_Prepare.j0 (k + 3) c f true id site speed F d0 d1 d2 d3 d4 at_ fl st = some (0, 0, false, 0, 1) := by simp [observatoryref14_Prepare.j0]
  unfold observatoryref14_Prepare.f prepP
  rw [rvalid_eq (hk _ (by omega))]
  simp only [Option.bind_some, filter_eq]
  by_cases h0 : ValOk id site speed F at_ fl
  · rw [if_pos (decide_eq_true h0)]
    have hF := h0.1.2.2.2
    have hS := h0.1.2.2.1
    by_cases h2 : 0 ≤ c ∧ c < 32
    · rw [if_neg (by omega), if_neg (by omega)]
      by_cases h1 : 0 ≤ f ∧ f ≤ F - 1
      · rw [decide_eq_true h1, if_pos (show PrepOk id site speed F at_ fl c f from ⟨h0, h1, h2⟩)]
        obtain ⟨p, d, m1, m2, m3, m4, m5, m6, m7⟩ := mv_ok h0.2.1 h2
        have hb : 0 ≤ speed * d ∧ speed * d ≤ 20000 := by
          constructor
          · exact Int.mul_nonneg (by omega) m4
          · have := Int.mul_le_mul (show speed ≤ 20 by omega) m5 m4 (by omega)
            omega
        have hj1 : ∀ k', k ≤ k' → 102 ≤ k' → observatoryref14_Prepare.j1 (k' + 2) c f false id site speed F d0 d1 d2 d3 d4 at_ fl st = some (if max (speed * d) (turnN F fl f) > 60 then (0, 0, false, 0, 21) else (p, f, st, max (speed * d) (turnN F fl f), 0)) := by
          intro k' hk' h'
          simp only [observatoryref14_Prepare.j1]
          rw [if_neg Bool.false_ne_true, rmove h0.2.1 h2 (k := k' + 1) (by omega), m1]
          simp only [Option.bind_some]
          rw [rturn_eq (hk _ (by omega)), if_pos (show TurnOk id site speed F fl f from ⟨h0.1, h0.2.2, h1⟩)]
          simp only [Option.bind_some]
          rw [wsm (x := speed * d) (by omega) (by omega)]
          have hm : mx (speed * d) (turnN F fl f) = max (speed * d) (turnN F fl f) := by unfold mx; split <;> omega
          rw [hm]
          split <;> rfl
        rw [m1]
        simp only [observatoryref14_Prepare.j0, Bool.not_true]
        rw [if_neg Bool.false_ne_true]
        unfold prepM
        have hz : p = at_ ∧ f = fl → max (speed * d) (turnN F fl f) = 0 := by
          rintro ⟨rfl, rfl⟩
          have : d = 0 := m6.2 rfl
          rw [this, Int.mul_zero]
          unfold turnN
          omega
        cases st with
        | false =>
          rw [if_neg Bool.false_ne_true, hj1 k (Nat.le_refl _) h102]
          by_cases he : p = at_ ∧ f = fl
          · rw [if_pos he, hz he, if_neg (by decide)]
          · rw [if_neg he, if_neg (show ¬ (false = true ∧ f ≠ fl) from fun hh => Bool.false_ne_true hh.1)]
        | true =>
          rw [if_pos rfl]
          by_cases h3 : f = fl
          · rw [show (f != fl) = false by simp [h3], hj1 k (Nat.le_refl _) h102]
            by_cases he : p = at_ ∧ f = fl
            · rw [if_pos he, hz he, if_neg (by decide)]
            · rw [if_neg he, if_neg (show ¬ (true = true ∧ f ≠ fl) from fun hh => hh.2 h3)]
          · rw [show (f != fl) = true by simp [h3], if_neg (fun hh => h3 hh.2), if_pos ⟨rfl, h3⟩]
            simp only [observatoryref14_Prepare.j1]
            rw [if_pos trivial]
      · rw [decide_eq_false h1, if_neg (show ¬ PrepOk id site speed F at_ fl c f from fun hh => h1 hh.2.1)]
        exact hbad
    · rw [if_neg (show ¬ PrepOk id site speed F at_ fl c f from fun hh => h2 hh.2.2)]
      by_cases h4 : c < 0
      · rw [if_pos h4]; exact hbad
      · rw [if_neg h4, if_pos (by omega)]; exact hbad
  · rw [decide_eq_false h0, if_neg Bool.false_ne_true, if_neg (show ¬ PrepOk id site speed F at_ fl c f from fun hh => h0 hh.1)]
    exact hbad
end Go.Proofs.YtfklhpdnbbefbaaDoor.Px
