/-
  What the printed functions come to (rounds left out), in the lexer's own words.
-/
import Derived.Test.YtmbpjjdaklpemaaDoorLxU
import Derived.Test.YtmbpjjdaklpemaaDoorLxG
import Derived.Test.YtmbpjjdaklpemaaDoorPxx2
namespace Go.Proofs.YtmbpjjdaklpemaaDoor.Px
open Go.RowKit Go.Proofs.YtmbpjjdaklpemaaDoorW.PrintWords Go.Proofs.YtmbpjjdaklpemaaDoorW.PrintLast Go.Proofs.YtmbpjjdaklpemaaDoorW.PrintMore Go.Proofs.YtmbpjjdaklpemaaDoor.Lx
set_option linter.unusedVariables false
set_option linter.unusedSimpArgs false
theorem lexP_small (s : ByteArray) (h : s.size ≤ 5000) : lexer_Lex.f s = some (match (lx s.data.toList 0).2 with
    | none => ((lx s.data.toList 0).1.map toS, 0, 0)
    | some (e, p) => ([], e, (p : Int))) := by
  have hz : s.data.toList.length = s.size := by simp
  have hl := lx_len s.data.toList.length s.data.toList 0 (Nat.le_refl _)
  have he : lexA (s.size + 1) s.data.toList 0 = lx s.data.toList 0 := by unfold lx; rw [hz]
  unfold lexer_Lex.f lexP lexR
  rw [if_neg (by omega), he, if_neg (by omega)]
  cases (lx s.data.toList 0).2 <;> rfl
theorem lx_err_ne (m : Nat) : ∀ (l : List UInt8) (p : Nat) (e : Int) (o : Nat), l.length ≤ m → (lx l p).2 = some (e, o) → e ≠ 0 := by
  induction m with
  | zero =>
    intro l p e o h hn
    obtain rfl : l = [] := List.eq_nil_of_length_eq_zero (by omega)
    rw [lx_nil (l := []) rfl] at hn; simp at hn
  | succ m ih =>
    intro l p e o h hn
    have hle := skp_le false l
    rcases lx_cases l p with ⟨h1, h2⟩ | ⟨e', h1, h2, h3⟩ | ⟨k, t, n, w, h1, h2, h3, h4⟩
    · rw [h2] at hn; simp at hn
    · rw [h3] at hn
      simp only [Option.some.injEq, Prod.mk.injEq] at hn
      have := tok1_err h2
      omega
    · rw [h4] at hn
      exact ih _ _ e o (by rw [List.length_drop]; omega) hn
theorem lex_ok {s : ByteArray} (h : s.size ≤ 5000) (hn : (lx s.data.toList 0).2 = none) : lexer_Lex.f s = some ((lx s.data.toList 0).1.map toS, 0, 0) := by
  rw [lexP_small s h, hn]
theorem lex_no {s : ByteArray} (h : s.size ≤ 5000) {e : Int} {p : Nat} (hn : (lx s.data.toList 0).2 = some (e, p)) : lexer_Lex.f s = some ([], e, (p : Int)) ∧ e ≠ 0 := by
  exact ⟨by rw [lexP_small s h, hn], lx_err_ne _ _ _ _ _ (Nat.le_refl _) hn⟩
theorem head_true : observatorylaw08_head.f = some true := rfl
/-! ### bytes of joined texts -/
theorem data_app (a b : ByteArray) : (a ++ b).data.toList = a.data.toList ++ b.data.toList := by
  rw [ByteArray.data_append]; simp
theorem size_len (a : ByteArray) : a.size = a.data.toList.length := by simp
/-! ### Beginnings -/
end Go.Proofs.YtmbpjjdaklpemaaDoor.Px
