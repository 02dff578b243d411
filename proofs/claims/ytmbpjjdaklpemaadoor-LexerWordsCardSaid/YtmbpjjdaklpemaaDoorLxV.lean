/-
  What the printed functions come to (rounds left out), in the lexer's own words.
-/
import Derived.Test.YtmbpjjdaklpemaaDoorLxU
import Derived.Test.YtmbpjjdaklpemaaDoorLxG
import Derived.Test.YtmbpjjdaklpemaaDoorPxx2
namespace Go.Proofs.YtmbpjjdaklpemaaDoor.Px
open Go.RowKit Go.Proofs.YtmbpjjdaklpemaaDoorW.PrintWords Go.Proofs.YtmbpjjdaklpemaaDoorW.PrintLast Go.Proofs.YtmbpjjdaklpemaaDoorW.PrintMore Go.Proofs.YtmbpjjdaklpemaaDoor.Lx
set_option linter.unusedVariables false
set_option linter.unusedSimpArgs false
theorem lexP_small (s : ByteArray) (h : s.size ≤ 5000) : lexer_Lex.f s = some (match (lx s.data.toList 0).2 with
    | none => ((lx s.data.toList 0).1.map toS, 0, 0)
    | some (e, p) => ([], e, (p : Int))) := by
  have hz : s.data.toList.length = s.size := by simp
  have hl := lx_len s.data.toList.length s.data.toList 0 (Nat.le_refl _)
  have he : lexA (s.size + 1) s.data.toList 0 = lx s.data.toList 0 := by unfold lx; rw [hz]
  unfold lexer_Lex.f lexP lexR
  rw [if_neg (by omega), he, if_neg (by omega)]
  cases (lx s.data.toList 0).2 <;> rfl
theorem lx_err_ne (m : Nat) : ∀ (l : List UInt8) (p : Nat) (e : Int) (o : Nat), l.length ≤ m → (lx l p).2 = some (e, o) → e ≠ 0 := by
  induction m with
  | zero =>
    intro l p e o h hn
    obtain rfl : l = [] := List.eq_nil_of_length_eq_zero (by omega)
    rw [lx_nil (l := []) rfl] at hn; simp at hn
  | succ m ih =>
    intro l p e o h hn
    have hle := skp_le false l
    rcases lx_cases l p with ⟨h1, h2⟩ | ⟨e', h1, h2, h3⟩ | ⟨k, t, n, w, h1, h2, h3, h4⟩
    · rw [h2] at hn; simp at hn
    · rw [h3] at hn
      simp only [Option.some.injEq, Prod.mk.injEq] at hn
      have := tok1_err h2
      omega
    · rw [h4] at hn
      exact ih _ _ e o (by rw [List.length_drop]; omega) hn
theorem lex_ok {s : ByteArray} (h : s.size ≤ 5000) (hn : (lx s.data.toList 0).2 = none) : lexer_Lex.f s = some ((lx s.data.toList 0).1.map toS, 0, 0) := by
  rw [lexP_small s h, hn]
theorem lex_no {s : ByteArray} (h : s.size ≤ 5000) {e : Int} {p : Nat} (hn : (lx s.data.toList 0).2 = some (e, p)) : lexer_Lex.f s = some ([], e, (p : Int)) ∧ e ≠ 0 := by
  exact ⟨by rw [lexP_small s h, hn], lx_err_ne _ _ _ _ _ (Nat.le_refl _) hn⟩
theorem head_true : observatorylaw08_head.f = some true := rfl
/-! ### bytes of joined texts -/
theorem data_app (a b : ByteArray) : (a ++ b).data.toList = a.data.toList ++ b.data.toList := by
  rw [ByteArray.data_append]; simp
theorem size_len (a : ByteArray) : a.size = a.data.toList.length := by simp
/-! ### tokens as the print has them -/
theorem rd_toS {ts : List Tok} {j : Nat} {x : Tok} (h : ts[j]? = some x) : rd_T30 (ts.map toS) (j : Int) = toS x := by
  unfold rd_T30
  rw [Int.toNat_natCast, List.getD_eq_getElem?_getD, List.getElem?_map, h]; rfl
theorem raw_len (x : Tok) : x.text.length ≤ (raw x).length := by
  unfold raw rawOf
  split
  · simp; omega
  · exact Nat.le_refl _
theorem written_tok (x : Tok) (h : (raw x).length ≤ 20000) : observatorylaw08_written.f (toS x).f0 (toS x).f1 (toS x).f2 (toS x).f3 = some ⟨(raw x).toArray⟩ := by
  have hl := raw_len x
  unfold raw rawOf
  show (if x.kind = 3 then (if (⟨x.text.toArray⟩ : ByteArray).size ≤ 20000 then some ((⟨#[34]⟩ ++ ⟨x.text.toArray⟩) ++ ⟨#[34]⟩) else none) else some ⟨x.text.toArray⟩ : Option ByteArray) = _
  by_cases h3 : x.kind = 3
  · rw [if_pos h3, if_pos h3, if_pos (by rw [size_len]; simp; omega)]
    congr 1
  · rw [if_neg h3, if_neg h3]
theorem width_tok (x : Tok) (h : (raw x).length ≤ 20000) : observatoryref08_Width.f (toS x).f0 (toS x).f1 (toS x).f2 (toS x).f3 = some ((raw x).length : Int) := by
  unfold raw rawOf at *
  show (if x.kind = 3 then some (wrap64 (((⟨x.text.toArray⟩ : ByteArray).size : Int) + 2)) else some ((⟨x.text.toArray⟩ : ByteArray).size : Int) : Option Int) = _
  by_cases h3 : x.kind = 3
  · rw [if_pos h3] at h ⊢
    rw [if_pos h3]
    have hz : ((⟨x.text.toArray⟩ : ByteArray).size : Int) = x.text.length := by rw [size_len]
    rw [hz]
    unfold wrap64
    simp at h ⊢
    omega
  · rw [if_neg h3] at h ⊢
    rw [if_neg h3, size_len]
theorem tok_bounds {l : List UInt8} {p : Nat} (hn : (lx l p).2 = none) {x : Tok} (hx : x ∈ (lx l p).1) : p ≤ x.at_ ∧ x.at_ + (raw x).length ≤ p + l.length := by
  have := middles l.length (g := []) rfl l p (Nat.le_refl _) hn x hx
  exact ⟨this.1, this.2.1⟩
theorem w64s {x : Int} (h0 : -1000000000 ≤ x) (h1 : x ≤ 1000000000) : wrap64 x = x := by unfold wrap64; omega
theorem sh_zero (ts : List Tok) : ts.map (shT 0) = ts := by
  rw [show (shT 0) = id from rfl, List.map_id]
theorem same_toS {ts : List Tok} {q : Nat} (hq : q ≤ 1000000) (hl : ts.length ≤ 1000000) (hb : ∀ x ∈ ts, x.at_ ≤ 1000000) :
    observatoryref08_Same.f (ts.map toS) (q : Int) ((ts.map (shT q)).map toS) = some true := by
  refine same_true ⟨?_, by omega, by omega, by rw [List.length_map]; exact hl, ?_⟩
  · rw [List.map_map, List.map_map]
    refine List.map_congr_left fun x _ => ?_
    show (⟨_, _, _, ((x.at_ + q : Nat) : Int)⟩ : STok) = ⟨_, _, _, (x.at_ : Int) + (q : Int)⟩
    rw [Int.natCast_add]; rfl
  · intro x hx
    obtain ⟨y, hy, rfl⟩ := List.mem_map.1 hx
    have := hb y hy
    show 0 ≤ (y.at_ : Int) ∧ (y.at_ : Int) ≤ 1000000
    omega
theorem lx_err_at (m : Nat) : ∀ (l : List UInt8) (p : Nat) (e : Int) (o : Nat), l.length ≤ m → (lx l p).2 = some (e, o) → p ≤ o ∧ o ≤ p + l.length := by
  induction m with
  | zero =>
    intro l p e o h hn
    obtain rfl : l = [] := List.eq_nil_of_length_eq_zero (by omega)
    rw [lx_nil (l := []) rfl] at hn; simp at hn
  | succ m ih =>
    intro l p e o h hn
    have hle := skp_le false l
    rcases lx_cases l p with ⟨h1, h2⟩ | ⟨e', h1, h2, h3⟩ | ⟨k, t, n, w, h1, h2, h3, h4⟩
    · rw [h2] at hn; simp at hn
    · rw [h3] at hn
      simp only [Option.some.injEq, Prod.mk.injEq] at hn
      omega
    · rw [h4] at hn
      have := ih _ _ e o (by rw [List.length_drop]; omega) hn
      rw [List.length_drop] at this
      omega
end Go.Proofs.YtmbpjjdaklpemaaDoor.Px
