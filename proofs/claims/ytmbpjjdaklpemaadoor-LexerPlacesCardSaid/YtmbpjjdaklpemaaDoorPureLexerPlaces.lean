import Derived.Test.YtmbpjjdaklpemaaDoorPxx5
import Derived.Test.YtmbpjjdaklpemaaDoorLxY
namespace Go.Proofs.YtmbpjjdaklpemaaDoor.Pure
open Go.RowKit Go.Proofs.YtmbpjjdaklpemaaDoor.Px Go.Proofs.YtmbpjjdaklpemaaDoorW.PrintWords Go.Proofs.YtmbpjjdaklpemaaDoorW.PrintLast Go.Proofs.YtmbpjjdaklpemaaDoor.Lx
theorem places_j1 {k : Nat} {s : ByteArray} {ts : List STok} {q j p e j' W : Int} {t : STok} {b : ByteArray} (h0 : 0 ≤ j) (h1 : j < (ts.length : Int)) (hr : rd_T30 ts j = t)
    (hW : observatoryref08_Width.f t.f0 t.f1 t.f2 t.f3 = some W) (hw : wrap64 (p + W) = e) (hp : 0 ≤ p) (hpe : p ≤ e) (hes : e ≤ (s.size : Int)) (hwr : observatorylaw08_written.f t.f0 t.f1 t.f2 t.f3 = some b)
    (hx : (s.extract p.toNat e.toNat).toList = b.toList) (hne : ¬ b.toList = ([] : List UInt8)) (hq : 0 ≤ q) (hqp : q ≤ p) (hps : p ≤ (s.size : Int)) (hj : wrap64 (j + 1) = j') :
    observatorylaw08_LexerPlaces.j1 (k + 1) s true ts 0 q j p false = (observatoryref08_Gaps.f k (s.extract q.toNat p.toNat)).bind fun t155 => (if t155 = true then (observatorylaw08_LexerPlaces.l0 k s true ts 0 e j') else (some false)) := by
  simp only [observatorylaw08_LexerPlaces.j1]
  rw [if_neg Bool.false_ne_true, if_pos h0, if_pos h1, hr, hW]
  simp only [Option.bind_some]
  rw [if_pos hp, hw, if_pos hpe, if_pos hes, hwr]
  simp only [Option.bind_some]
  rw [if_pos hx, if_neg hne, if_pos hq, if_pos hqp, if_pos hps, hj]
theorem places_loop (s : ByteArray) (hs : s.size ≤ 3000) (us : List Tok) : ∀ (pre : List Tok) (q : Nat), q ≤ s.size → (pre ++ us).length ≤ 100000 → lx (s.data.toList.drop q) q = (us, none) →
    Ev (fun k => observatorylaw08_LexerPlaces.l0 k s true ((pre ++ us).map toS) 0 (q : Int) (pre.length : Int)) true := by
  have hz : s.data.toList.length = s.size := by simp
  induction us with
  | nil =>
    intro pre q hq hl hx
    have hg : skp false (s.data.toList.drop q) = [] := by
      rcases lx_cases (s.data.toList.drop q) q with ⟨h1, h2⟩ | ⟨e', h1, h2, h3⟩ | ⟨k, t, n, w, h1, h2, h3, h4⟩
      · exact h1
      · rw [h3] at hx; simp at hx
      · rw [h4] at hx; simp at hx
    have hG := gaps_ev (s := s.extract q s.size) (by rw [size_len, Lib.extract_to_end, List.length_drop]; omega)
    rw [Lib.extract_to_end, decide_eq_true hg] at hG
    refine Ev.step (f := fun k => (observatoryref08_Gaps.f k (s.extract q s.size)).bind fun t145 => (some t145)) (fun k => ?_) (Ev.bind (f := fun _ t => some t) hG (Ev.now true))
    simp only [observatorylaw08_LexerPlaces.l0]
    rw [if_neg (by rw [List.length_map, List.append_nil]; omega), if_pos trivial, if_pos trivial, if_pos (Int.natCast_nonneg _), if_pos (by omega), Int.toNat_natCast]
  | cons x us ih =>
    intro pre q hq hl hx
    have hle := skp_le false (s.data.toList.drop q)
    rcases lx_cases (s.data.toList.drop q) q with ⟨h1, h2⟩ | ⟨e', h1, h2, h3⟩ | ⟨k, t, n, w, h1, h2, h3, h4⟩
    · rw [h2] at hx; simp at hx
    · rw [h3] at hx; simp at hx
    · obtain ⟨r1, r2⟩ := tok1_raw h1
      have rp := raw_pos h1
      have hgap := gap_off hq
      have hdg := drop_gap hq
      obtain ⟨gl1, gl2⟩ := gapEnd_le s q hq
      rw [hgap] at h4
      rw [h4] at hx
      rw [hdg] at hx h1 r1 h3
      rw [List.length_drop, hz] at h3
      simp only [Prod.mk.injEq, List.cons.injEq] at hx
      obtain ⟨⟨hx1, hx2⟩, hx3⟩ := hx
      rw [List.drop_drop] at hx2 hx3 r1
      generalize hp : gapEnd s q = p at *
      have hraw : raw x = rawOf k t := by rw [← hx1]; rfl
      have hat : x.at_ = p := by rw [← hx1]
      have hrl : (raw x).length = w := by rw [hraw, r2]
      have hget : (pre ++ x :: us)[pre.length]? = some x := by simp
      have hrd := rd_toS hget
      have hlen : pre.length < (pre ++ x :: us).length := by simp
      have hWd := width_tok x (by omega)
      have hWr := written_tok x (by omega)
      have hf3 : (toS x).f3 = (p : Int) := by rw [← hat]; rfl
      rw [hrl] at hWd
      have hw1 : wrap64 ((p : Int) + (w : Int)) = ((p + w : Nat) : Int) := by rw [w64s (by omega) (by omega)]; omega
      have hw2 : wrap64 ((pre.length : Int) + 1) = (((pre ++ [x]).length : Nat) : Int) := by clear hw1; rw [w64s (by omega) (by omega), List.length_append]; simp
      have hlen' : (pre.length : Int) < (((pre ++ x :: us).map toS).length : Int) := by rw [List.length_map]; exact Int.ofNat_lt.2 hlen
      have hc0 : ¬ (p : Int) < (q : Int) := by clear hw1 hw2; omega
      have hc1 : ¬ (((p + w : Nat) : Int) > (s.size : Int)) := by clear hw1 hw2; omega
      have hc2 : ((p + w : Nat) : Int) ≤ (s.size : Int) := by clear hw1 hw2; omega
      have hc3 : (p : Int) ≤ ((p + w : Nat) : Int) := by clear hw1 hw2; omega
      have hc4 : (q : Int) ≤ (p : Int) := by clear hw1 hw2; omega
      have hc5 : (p : Int) ≤ (s.size : Int) := by clear hw1 hw2; omega
      have hext : s.extract p (p + w) = ⟨(raw x).toArray⟩ := by
        apply ba_ext
        rw [Lib.extract_data, hraw, Nat.add_sub_cancel_left, r1, ← r2, List.take_left]
      have hne : (⟨(raw x).toArray⟩ : ByteArray).toList ≠ [] := by
        rw [Lib.toList_data, hraw]
        simpa using rp
      have hG := gaps_ev (s := s.extract q p) (by rw [size_len, Lib.extract_data, List.length_take]; clear hw1 hw2; omega)
      have hpre : (s.extract q p).data.toList = gapPre false (s.data.toList.drop q) := by
        rw [Lib.extract_data]
        unfold gapPre
        rw [show (s.data.toList.drop q).length - (skp false (s.data.toList.drop q)).length = p - q by clear hw1 hw2; omega]
      rw [hpre, decide_eq_true (skp_gapPre false _)] at hG
      have hih := ih (pre ++ [x]) (p + w) (by clear hw1 hw2; omega) (by rw [List.append_assoc]; exact hl) (Prod.ext hx2 hx3)
      rw [List.append_assoc] at hih
      refine Ev.step (f := fun k => observatorylaw08_LexerPlaces.j1 k s true ((pre ++ x :: us).map toS) 0 (q : Int) (pre.length : Int) (p : Int) false) (fun k => ?_) ?_
      · simp only [observatorylaw08_LexerPlaces.l0]
        rw [if_pos hlen', if_pos (Int.natCast_nonneg _), hrd, hWd, hf3, if_neg hc0]
        simp only [Option.bind_some]
        rw [hw1, decide_eq_false hc1]
      · refine Ev.step (f := fun k => (observatoryref08_Gaps.f k (s.extract q p)).bind fun t155 => (if t155 = true then (observatorylaw08_LexerPlaces.l0 k s true ((pre ++ x :: us).map toS) 0 ((p + w : Nat) : Int) (((pre ++ [x]).length : Nat) : Int)) else (some false))) (fun k => ?_) ?_
        · have hX : (s.extract ((p : Int)).toNat (((p + w : Nat) : Int)).toNat).toList = (⟨(raw x).toArray⟩ : ByteArray).toList := by rw [Int.toNat_natCast, Int.toNat_natCast, hext]
          have hE := places_j1 (k := k) (Int.natCast_nonneg _) hlen' hrd hWd hw1 (Int.natCast_nonneg _) hc3 hc2 hWr hX hne (Int.natCast_nonneg _) hc4 hc5 hw2
          rw [Int.toNat_natCast, Int.toNat_natCast] at hE
          exact hE
        · exact Ev.bind (f := fun k t155 => (if t155 = true then (observatorylaw08_LexerPlaces.l0 k s true ((pre ++ x :: us).map toS) 0 ((p + w : Nat) : Int) (((pre ++ [x]).length : Nat) : Int)) else (some false))) hG (Ev.congr (fun k => if_pos rfl) hih)
/-- Each token stands where it says, its bytes are the text's bytes there, and between the tokens are gaps. -/
theorem LexerPlaces : observatorylaw08_LexerPlaces.Pure := by
  intro a0 _
  have hz := size_len a0
  by_cases h3 : (a0.size : Int) > 3000
  · refine ⟨0, ?_⟩
    unfold observatorylaw08_LexerPlaces.f
    rw [head_true]
    simp only [Option.bind_some]
    rw [if_pos h3]
  · refine Ev.rounds (g := fun k => observatorylaw08_LexerPlaces.f k a0) ?_
    unfold observatorylaw08_LexerPlaces.f
    simp only [head_true, Option.bind_some, if_neg h3]
    cases hn : (lx a0.data.toList 0).2 with
    | none =>
      have hlen := lx_len _ a0.data.toList 0 (Nat.le_refl _)
      simp only [lex_ok (s := a0) (by omega) hn, Option.bind_some, if_pos trivial]
      exact places_loop a0 (by omega) (lx a0.data.toList 0).1 [] 0 (Nat.zero_le _) (by rw [List.nil_append]; omega) (Prod.ext rfl hn)
    | some x =>
      obtain ⟨e, o⟩ := x
      obtain ⟨m1, m2⟩ := lex_no (s := a0) (by omega) hn
      have ho := lx_err_lt _ _ _ _ _ (Nat.le_refl _) hn
      simp only [m1, Option.bind_some, if_neg m2]
      refine Ev.congr (f := fun _ => some true) (fun k => ?_) (Ev.now true)
      rw [if_pos trivial, if_pos (by simp), if_pos (by omega), decide_eq_true (by omega)]
end Go.Proofs.YtmbpjjdaklpemaaDoor.Pure
