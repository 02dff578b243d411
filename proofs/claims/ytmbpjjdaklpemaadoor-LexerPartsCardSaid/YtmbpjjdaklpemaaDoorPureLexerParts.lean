import Derived.Test.YtmbpjjdaklpemaaDoorPxx6
import Derived.Test.YtmbpjjdaklpemaaDoorLxV
namespace Go.Proofs.YtmbpjjdaklpemaaDoor.Pure
open Go.RowKit Go.Proofs.YtmbpjjdaklpemaaDoor.Px Go.Proofs.YtmbpjjdaklpemaaDoorW.PrintWords Go.Proofs.YtmbpjjdaklpemaaDoorW.PrintLast Go.Proofs.YtmbpjjdaklpemaaDoor.Lx
theorem parts_go (a0 a1 : ByteArray) (h0 : a0.size ≤ 1500) (h1 : a1.size ≤ 1500) (k : Nat) : observatorylaw08_LexerParts.j0 (k + 1) a0 a1 true false = some true := by
  have z0 := size_len a0
  have z1 := size_len a1
  have hd : ((a0 ++ (⟨#[10]⟩ : ByteArray)) ++ a1).data.toList = a0.data.toList ++ 10 :: a1.data.toList := by
    rw [data_app, data_app]; simp
  have hz : ((a0 ++ (⟨#[10]⟩ : ByteArray)) ++ a1).size = a0.size + 1 + a1.size := by
    rw [size_len, hd, List.length_append, List.length_cons]; omega
  have hp := parts a0.data.toList.length a0.data.toList a1.data.toList 0 (Nat.le_refl _)
  have hs := lx_at a1.data.toList 0 (a0.data.toList.length + 1)
  have e0 : 0 + (a0.data.toList.length + 1) = a0.data.toList.length + 1 := Nat.zero_add _
  have e1 : 0 + a0.data.toList.length + 1 = a0.data.toList.length + 1 := by omega
  rw [e0] at hs
  rw [e1, hs] at hp
  have b1 : a0.size + 1 ≤ 9223372036854775807 := Nat.le_trans (Nat.add_le_add_right h0 1) (by decide)
  have b2 : (a0 ++ (⟨#[10]⟩ : ByteArray)).size + a1.size ≤ 9223372036854775807 := by
    have : (a0 ++ (⟨#[10]⟩ : ByteArray)).size = a0.size + 1 := by rw [ByteArray.size_append]; rfl
    rw [this]; exact Nat.le_trans (Nat.add_le_add (Nat.add_le_add_right h0 1) h1) (by decide)
  have hJ : ((a0 ++ (⟨#[10]⟩ : ByteArray)) ++ a1).size ≤ 5000 := by rw [hz]; omega
  simp only [observatorylaw08_LexerParts.j0]
  rw [if_neg (by decide)]
  cases hn : (lx a0.data.toList 0).2 with
  | some x =>
    obtain ⟨e, o⟩ := x
    obtain ⟨m1, m2⟩ := lex_no (s := a0) (by omega) hn
    have hn2 : (lx ((a0 ++ (⟨#[10]⟩ : ByteArray)) ++ a1).data.toList 0).2 = some (e, o) := by
      rw [hd, hp, hn, if_neg (by simp)]; exact hn
    obtain ⟨m3, m4⟩ := lex_no hJ hn2
    have hany : ∃ y, lexer_Lex.f a1 = some y := ⟨_, rfl⟩
    obtain ⟨y, hy⟩ := hany
    rw [m1, hy, m3]
    simp only [Option.bind_some]
    rw [if_pos b1, if_pos b2, if_neg m2]
    simp [m2]
  | none =>
    rw [hn, if_pos rfl] at hp
    have m1 := lex_ok (s := a0) (by omega) hn
    cases hr : (lx a1.data.toList 0).2 with
    | some x =>
      obtain ⟨e, o⟩ := x
      obtain ⟨m3, m4⟩ := lex_no (s := a1) (by omega) hr
      have ho := lx_err_at _ _ _ _ _ (Nat.le_refl _) hr
      have hn2 : (lx ((a0 ++ (⟨#[10]⟩ : ByteArray)) ++ a1).data.toList 0).2 = some (e, o + (a0.data.toList.length + 1)) := by
        rw [hd, hp, hr]; rfl
      obtain ⟨m5, m6⟩ := lex_no hJ hn2
      have hw : wrap64 (wrap64 ((o : Int) + (a0.size : Int)) + 1) = ((o + (a0.data.toList.length + 1) : Nat) : Int) := by
        rw [w64s (x := (o : Int) + (a0.size : Int)) (by omega) (by omega), w64s (by omega) (by omega)]; omega
      rw [m1, m3, m5]
      simp only [Option.bind_some]
      rw [if_pos b1, if_pos b2, if_pos trivial, if_neg m4, if_pos trivial, if_pos trivial, hw, beq_self_eq_true]
    | none =>
      have m3 := lex_ok (s := a1) (by omega) hr
      have hn2 : (lx ((a0 ++ (⟨#[10]⟩ : ByteArray)) ++ a1).data.toList 0).2 = none := by rw [hd, hp, hr]; rfl
      have m5 := lex_ok hJ hn2
      have ht : (lx ((a0 ++ (⟨#[10]⟩ : ByteArray)) ++ a1).data.toList 0).1 = (lx a0.data.toList 0).1 ++ (lx a1.data.toList 0).1.map (shT (a0.data.toList.length + 1)) := by
        rw [hd, hp]
      have l0 := lx_len _ a0.data.toList 0 (Nat.le_refl _)
      have l1 := lx_len _ a1.data.toList 0 (Nat.le_refl _)
      have t0 := fun x => tok_bounds (x := x) hn
      have t1 := fun x => tok_bounds (x := x) hr
      rw [ht, List.map_append] at m5
      rw [m1, m3, m5]
      simp only [Option.bind_some]
      have hlen : ((((lx a0.data.toList 0).1.map toS ++ ((lx a1.data.toList 0).1.map (shT (a0.data.toList.length + 1))).map toS).length : Nat) : Int) = wrap64 ((((lx a0.data.toList 0).1.map toS).length : Int) + (((lx a1.data.toList 0).1.map toS).length : Int)) := by
        rw [w64s (by omega) (by simp only [List.length_map]; omega), List.length_append]; simp
      have hsame0 : observatoryref08_Same.f ((lx a0.data.toList 0).1.map toS) 0 ((lx a0.data.toList 0).1.map toS) = some true := by
        have := same_toS (ts := (lx a0.data.toList 0).1) (q := 0) (by decide) (by omega) (fun x hx => by have := (t0 x hx).2; omega)
        rw [sh_zero] at this
        exact this
      have hsame1 := same_toS (ts := (lx a1.data.toList 0).1) (q := a0.data.toList.length + 1) (by omega) (by omega) (fun x hx => by have := (t1 x hx).2; omega)
      have hw : wrap64 ((a0.size : Int) + 1) = ((a0.data.toList.length + 1 : Nat) : Int) := by
        rw [w64s (by omega) (by omega)]; omega
      rw [if_pos b1, if_pos b2, if_pos trivial, if_pos trivial, if_pos trivial, if_pos trivial, if_pos hlen, if_pos (Int.natCast_nonneg _),
        if_pos (by rw [List.length_append]; exact Int.ofNat_le.2 (Nat.le_add_right _ _)), Int.toNat_natCast, List.take_left, List.drop_left, hsame0, hw, hsame1]
      rfl
/-- Two texts with a line end between them lex as their parts do. -/
theorem LexerParts : observatorylaw08_LexerParts.Pure := by
  intro a0 a1 _ _
  refine ⟨1, ?_⟩
  unfold observatorylaw08_LexerParts.f
  simp only [head_true, Option.bind_some]
  by_cases h0 : (a0.size : Int) > 1500
  · rw [if_pos h0]
    simp only [observatorylaw08_LexerParts.j0]
    rw [if_pos trivial]
  · rw [if_neg h0]
    by_cases h1 : (a1.size : Int) > 1500
    · rw [decide_eq_true h1]
      simp only [observatorylaw08_LexerParts.j0]
      rw [if_pos trivial]
    · rw [decide_eq_false h1]
      exact parts_go a0 a1 (by omega) (by omega) 0
end Go.Proofs.YtmbpjjdaklpemaaDoor.Pure
