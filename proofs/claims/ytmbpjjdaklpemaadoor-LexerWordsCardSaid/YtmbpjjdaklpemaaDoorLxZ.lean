/-
  The reference's next and Lex answer as the lexer's meaning says.
-/
import Derived.Test.YtmbpjjdaklpemaaDoorLxX
import Derived.Test.YtmbpjjdaklpemaaDoorLxY
import Derived.Test.YtmbpjjdaklpemaaDoorPxx4L
namespace Go.Proofs.YtmbpjjdaklpemaaDoor.Px
open Go.RowKit Go.Proofs.YtmbpjjdaklpemaaDoorW.PrintWords Go.Proofs.YtmbpjjdaklpemaaDoorW.PrintLast Go.Proofs.YtmbpjjdaklpemaaDoorW.PrintMore Go.Proofs.YtmbpjjdaklpemaaDoor.Lx
set_option linter.unusedVariables false
set_option linter.unusedSimpArgs false
theorem wi {j : Nat} (h : j ≤ 1000000) : wrap64 ((j : Int) + 1) = ((j + 1 : Nat) : Int) := by rw [w64s (by omega) (by omega)]; omega
theorem wsub {e i : Nat} (h : e ≤ 1000000) (hi : i ≤ e) : wrap64 ((e : Int) - (i : Int)) = ((e - i : Nat) : Int) := by rw [w64s (by omega) (by omega)]; omega
theorem w64b {x : Int} (h0 : 0 ≤ x) (h1 : x ≤ 1000000000000000) : wrap64 x = x := by unfold wrap64; omega
def wEnd (p : UInt8 → Bool) (s : ByteArray) (j : Nat) : Nat := j + ((s.data.toList.drop j).takeWhile p).length
theorem wEnd_out {p : UInt8 → Bool} {s : ByteArray} {j : Nat} (h : ¬ j < s.size) : wEnd p s j = j := by
  have hz : s.data.toList.length = s.size := by simp
  unfold wEnd
  rw [List.drop_eq_nil_of_le (by omega)]; rfl
theorem wEnd_yes {p : UInt8 → Bool} {s : ByteArray} {j : Nat} (h : j < s.size) (hc : p s[j] = true) : wEnd p s j = wEnd p s (j + 1) := by
  unfold wEnd
  rw [drop_cons h, List.takeWhile_cons, if_pos hc, List.length_cons]; omega
theorem wEnd_no {p : UInt8 → Bool} {s : ByteArray} {j : Nat} (h : j < s.size) (hc : ¬ p s[j] = true) : wEnd p s j = j := by
  unfold wEnd
  rw [drop_cons h, List.takeWhile_cons, if_neg hc]; rfl
theorem wEnd_le {p : UInt8 → Bool} {s : ByteArray} {j : Nat} (h : j ≤ s.size) : j ≤ wEnd p s j ∧ wEnd p s j ≤ s.size := by
  have hz : s.data.toList.length = s.size := by simp
  have := (List.takeWhile_prefix (l := s.data.toList.drop j) p).length_le
  rw [List.length_drop] at this
  unfold wEnd; omega
theorem wEnd_drop {p : UInt8 → Bool} (s : ByteArray) (j : Nat) : s.data.toList.drop (wEnd p s j) = (s.data.toList.drop j).dropWhile p := by
  unfold wEnd
  rw [← List.drop_drop, drop_takeWhile]
theorem take_tw {p : UInt8 → Bool} (l : List UInt8) : l.take (l.takeWhile p).length = l.takeWhile p := (List.prefix_iff_eq_take.1 (List.takeWhile_prefix p)).symm
/-- The slice from a byte on to the end of its run. -/
theorem ext_run {p : UInt8 → Bool} {s : ByteArray} {i : Nat} (h : i < s.size) : s.extract i (wEnd p s (i + 1)) = ⟨(s[i] :: (s.data.toList.drop (i + 1)).takeWhile p).toArray⟩ := by
  apply ba_ext
  rw [Lib.extract_data, drop_cons h]
  unfold wEnd
  rw [show i + 1 + ((s.data.toList.drop (i + 1)).takeWhile p).length - i = ((s.data.toList.drop (i + 1)).takeWhile p).length + 1 by omega, List.take_succ_cons, take_tw]
theorem ext_run0 {p : UInt8 → Bool} {s : ByteArray} {i : Nat} : s.extract i (wEnd p s i) = ⟨((s.data.toList.drop i).takeWhile p).toArray⟩ := by
  apply ba_ext
  rw [Lib.extract_data]
  unfold wEnd
  rw [show i + ((s.data.toList.drop i).takeWhile p).length - i = ((s.data.toList.drop i).takeWhile p).length by omega, take_tw]
abbrev NOut := Int × ByteArray × Int × Int × Int
theorem name_fin {s : ByteArray} (hs : s.size ≤ 100000) {i j : Nat} (hij : i ≤ j) (hj : j ≤ s.size) (n a : Int) :
    (if (wrap64 ((j : Int) - (i : Int))) > 24 then (some (0, (⟨#[]⟩ : ByteArray), 0, 0, 2)) else (if 0 ≤ (i : Int) then (if (i : Int) ≤ (j : Int) then (if (j : Int) ≤ (s.size : Int) then (some (1, s.extract ((i : Int)).toNat ((j : Int)).toNat, n, a, 0)) else (none)) else (none)) else (none)) : Option NOut)
      = some (if j - i > 24 then (0, ⟨#[]⟩, 0, 0, 2) else (1, s.extract i j, n, a, 0)) := by
  rw [wsub (by omega) hij]
  by_cases h : j - i > 24
  · rw [if_pos (by omega), if_pos h]
  · rw [if_neg (by omega), if_neg h, if_pos (by omega), if_pos (by omega), if_pos (by omega), Int.toNat_natCast, Int.toNat_natCast]
theorem name_loop (s : ByteArray) (hs : s.size ≤ 100000) (i : Nat) (k0 n a : Int) (t : ByteArray) (d : Nat) : ∀ (j : Nat), i ≤ j → j ≤ s.size → s.size ≤ j + d →
    Ev (fun k => observatoryref08_next.l0 k s (i : Int) (j : Int) k0 t n a) (if wEnd isWord s j - i > 24 then (0, ⟨#[]⟩, 0, 0, 2) else (1, s.extract i (wEnd isWord s j), n, a, 0)) := by
  have hout : ∀ j : Nat, ¬ j < s.size → i ≤ j → j ≤ s.size → Ev (fun k => observatoryref08_next.l0 k s (i : Int) (j : Int) k0 t n a) (if wEnd isWord s j - i > 24 then (0, ⟨#[]⟩, 0, 0, 2) else (1, s.extract i (wEnd isWord s j), n, a, 0)) := by
    intro j hj hij hle
    rw [wEnd_out hj]
    refine Ev.step (f := fun _ => some _) (fun k => ?_) (Ev.now _)
    simp only [observatoryref08_next.l0]
    rw [if_neg (by omega)]
    exact name_fin hs hij hle n a
  induction d with
  | zero => intro j h1 h2 h3; exact hout j (by omega) h1 h2
  | succ d ih =>
    intro j h1 h2 h3
    by_cases hlt : j < s.size
    · have hb := bt_nat hlt
      have hi0 : (0 : Int) ≤ (j : Int) := Int.natCast_nonneg _
      have hi1 : (j : Int) < (s.size : Int) := by omega
      by_cases hw : isWord s[j] = true
      · rw [wEnd_yes hlt hw]
        refine Ev.step (f := fun k => observatoryref08_next.l0 k s (i : Int) ((j + 1 : Nat) : Int) k0 t n a) (fun k => ?_) (ih (j + 1) (by omega) (by omega) (by omega))
        simp only [observatoryref08_next.l0]
        rw [if_pos hi1, if_pos hi0, hb, word_u, hw]
        simp only [Option.bind_some]
        rw [if_pos trivial, wi (by omega)]
      · rw [wEnd_no hlt hw]
        refine Ev.step (f := fun _ => some _) (fun k => ?_) (Ev.now _)
        simp only [observatoryref08_next.l0]
        rw [if_pos hi1, if_pos hi0, hb, word_u]
        simp only [Option.bind_some]
        rw [if_neg hw]
        exact name_fin hs h1 h2 n a
    · exact hout j hlt h1 h2
theorem digit_loop (s : ByteArray) (hs : s.size ≤ 100000) (i : Nat) (k0 n a : Int) (t : ByteArray) (r : NOut) (d : Nat) : ∀ (j : Nat), j ≤ s.size → s.size ≤ j + d →
    Ev (fun k => observatoryref08_next.j2 k s (i : Int) ((wEnd isDigit s j : Nat) : Int) k0 t n a) r → Ev (fun k => observatoryref08_next.l1 k s (i : Int) (j : Int) k0 t n a) r := by
  have hout : ∀ j : Nat, ¬ j < s.size → Ev (fun k => observatoryref08_next.j2 k s (i : Int) ((wEnd isDigit s j : Nat) : Int) k0 t n a) r → Ev (fun k => observatoryref08_next.l1 k s (i : Int) (j : Int) k0 t n a) r := by
    intro j hj h
    rw [wEnd_out hj] at h
    refine Ev.step (f := fun k => observatoryref08_next.j2 k s (i : Int) (j : Int) k0 t n a) (fun k => ?_) h
    simp only [observatoryref08_next.l1]
    rw [if_neg (by omega)]
  induction d with
  | zero => intro j h1 h2 h3; exact hout j (by omega) h3
  | succ d ih =>
    intro j h1 h2 h3
    by_cases hlt : j < s.size
    · have hb := bt_nat hlt
      have hi0 : (0 : Int) ≤ (j : Int) := Int.natCast_nonneg _
      have hi1 : (j : Int) < (s.size : Int) := by omega
      by_cases hw : isDigit s[j] = true
      · rw [wEnd_yes hlt hw] at h3
        refine Ev.step (f := fun k => observatoryref08_next.l1 k s (i : Int) ((j + 1 : Nat) : Int) k0 t n a) (fun k => ?_) (ih (j + 1) (by omega) (by omega) h3)
        simp only [observatoryref08_next.l1]
        rw [if_pos hi1, if_pos hi0, hb, digit_u, hw]
        simp only [Option.bind_some]
        rw [if_pos trivial, wi (by omega)]
      · rw [wEnd_no hlt hw] at h3
        refine Ev.step (f := fun k => observatoryref08_next.j2 k s (i : Int) (j : Int) k0 t n a) (fun k => ?_) h3
        simp only [observatoryref08_next.l1]
        rw [if_pos hi1, if_pos hi0, hb, digit_u]
        simp only [Option.bind_some]
        rw [if_neg hw]
    · exact hout j hlt h3
theorem str_loop (s : ByteArray) (hs : s.size ≤ 100000) (i : Nat) (r : NOut) (d : Nat) : ∀ (j : Nat), j ≤ s.size → s.size ≤ j + d →
    Ev (fun k => observatoryref08_next.j6 k s (i : Int) ((wEnd notStr s j : Nat) : Int)) r → Ev (fun k => observatoryref08_next.l3 k s (i : Int) (j : Int)) r := by
  have hout : ∀ j : Nat, ¬ j < s.size → Ev (fun k => observatoryref08_next.j6 k s (i : Int) ((wEnd notStr s j : Nat) : Int)) r → Ev (fun k => observatoryref08_next.l3 k s (i : Int) (j : Int)) r := by
    intro j hj h
    rw [wEnd_out hj] at h
    refine Ev.step (f := fun k => observatoryref08_next.j6 k s (i : Int) (j : Int)) (fun k => ?_) h
    simp only [observatoryref08_next.l3]
    rw [if_neg (by omega)]
  induction d with
  | zero => intro j h1 h2 h3; exact hout j (by omega) h3
  | succ d ih =>
    intro j h1 h2 h3
    by_cases hlt : j < s.size
    · have hb := bt_nat hlt
      have hi0 : (0 : Int) ≤ (j : Int) := Int.natCast_nonneg _
      have hi1 : (j : Int) < (s.size : Int) := by omega
      by_cases h34 : s[j] = 34
      · have h34' : ((s[j]).toNat : Int) = 34 := by rw [h34]; rfl
        rw [wEnd_no hlt (by rw [h34]; decide)] at h3
        refine Ev.step (f := fun k => observatoryref08_next.j6 k s (i : Int) (j : Int)) (fun k => ?_) h3
        simp only [observatoryref08_next.l3]
        rw [if_pos hi1, if_pos hi0, hb, if_pos h34']
      · have h34' : ¬ ((s[j]).toNat : Int) = 34 := fun h => h34 ((u8_int 34).1 h)
        by_cases h10 : s[j] = 10
        · have h10' : ((s[j]).toNat : Int) = 10 := by rw [h10]; rfl
          rw [wEnd_no hlt (by rw [h10]; decide)] at h3
          refine Ev.step (f := fun k => observatoryref08_next.j6 k s (i : Int) (j : Int)) (fun k => ?_) h3
          simp only [observatoryref08_next.l3]
          rw [if_pos hi1, if_pos hi0, hb, if_neg h34', if_pos h10']
        · have h10' : ¬ ((s[j]).toNat : Int) = 10 := fun h => h10 ((u8_int 10).1 h)
          rw [wEnd_yes hlt (by unfold notStr; simp [h34, h10])] at h3
          refine Ev.step (f := fun k => observatoryref08_next.l3 k s (i : Int) ((j + 1 : Nat) : Int)) (fun k => ?_) (ih (j + 1) (by omega) (by omega) h3)
          simp only [observatoryref08_next.l3]
          rw [if_pos hi1, if_pos hi0, hb, if_neg h34', if_neg h10', wi (by omega)]
    · exact hout j hlt h3
theorem digit_val (b : UInt8) : (!isDigit b || decide (48 ≤ b.toNat ∧ b.toNat ≤ 57)) = true := u8_all (p := fun b => !isDigit b || decide (48 ≤ b.toNat ∧ b.toNat ≤ 57)) (by decide +kernel) b
theorem num_loop (s : ByteArray) (hs : s.size ≤ 100000) (i e : Nat) (he : e ≤ s.size) (hie : i ≤ e) (h13 : e - i ≤ 13) (k0 a : Int) (t : ByteArray) (d : Nat) : ∀ (j : Nat) (n : Int), e = j + d → i ≤ j → 0 ≤ n → n < ((10 ^ (j - i) : Nat) : Int) →
    (∀ c ∈ (s.data.toList.drop j).take d, isDigit c = true) →
    Ev (fun k => observatoryref08_next.l2 k s (i : Int) (e : Int) (j : Int) k0 t n a) (k0, s.extract i e, ((s.data.toList.drop j).take d).foldl (fun n b => 10 * n + ((b.toNat : Int) - 48)) n, a, 0) := by
  induction d with
  | zero =>
    intro j n h1 h2 h3 h4 h5
    rw [List.take_zero, List.foldl_nil]
    refine Ev.step (f := fun _ => some _) (fun k => ?_) (Ev.now _)
    simp only [observatoryref08_next.l2]
    rw [if_neg (by omega), if_pos (Int.natCast_nonneg _), if_pos (by omega), if_pos (by omega), Int.toNat_natCast, Int.toNat_natCast]
  | succ d ih =>
    intro j n h1 h2 h3 h4 h5
    have hlt : j < s.size := by omega
    have hb := bt_nat hlt
    rw [drop_cons hlt, List.take_succ_cons] at h5 ⊢
    have hd : isDigit s[j] = true := h5 _ (List.mem_cons_self ..)
    have hv : 48 ≤ (s[j]).toNat ∧ (s[j]).toNat ≤ 57 := by
      have := digit_val s[j]
      rw [hd] at this
      simpa using this
    have hp : (10 ^ (j + 1 - i) : Nat) = 10 ^ (j - i) * 10 := by rw [show j + 1 - i = (j - i) + 1 by omega, Nat.pow_succ]
    have hq : (10 ^ (j + 1 - i) : Nat) ≤ 10 ^ 13 := Nat.pow_le_pow_right (by decide) (by omega)
    have hq' : (10 : Nat) ^ 13 = 10000000000000 := by decide
    rw [hq'] at hq
    clear hq'
    have hih := ih (j + 1) (10 * n + (((s[j]).toNat : Int) - 48)) (by omega) (by omega) (by omega)
    generalize (10 : Nat) ^ (j - i) = P at *
    generalize (10 : Nat) ^ (j + 1 - i) = Q at *
    have hm : (((s[j]).toNat : Int) - 48) % 256 = ((s[j]).toNat : Int) - 48 := by omega
    have hi0 : (0 : Int) ≤ (j : Int) := Int.natCast_nonneg _
    have hi1 : (j : Int) < (s.size : Int) := by omega
    have hi2 : (j : Int) < (e : Int) := by omega
    refine Ev.step (f := fun k => observatoryref08_next.l2 k s (i : Int) (e : Int) ((j + 1 : Nat) : Int) k0 t (10 * n + (((s[j]).toNat : Int) - 48)) a) (fun k => ?_) (hih ?_ (fun c hc => h5 c (List.mem_cons_of_mem _ hc)))
    · simp only [observatoryref08_next.l2]
      rw [if_pos hi2, if_pos hi0, if_pos hi1, hb, hm, wi (by omega), w64b (x := 10 * n) (by omega) (by omega), w64b (by omega) (by omega)]
    · omega
def refR (i : Nat) : R → NOut
  | .err e => (0, ⟨#[]⟩, 0, 0, e)
  | .tok k t n w => (k, ⟨t.toArray⟩, n, (i : Int), 0)
theorem has_pair (b : UInt8) : hasB [33, 60, 62, 61] (b.toNat : Int) = (cls b == 7 || cls b == 8) := u8_eq (f := fun b => hasB [33, 60, 62, 61] (b.toNat : Int)) (g := fun b => (cls b == 7 || cls b == 8)) (by decide +kernel) b
theorem has_sym (b : UInt8) : hasB [59, 44, 46, 58, 40, 41, 91, 93, 123, 125, 61, 60, 62, 43, 45, 42, 47] (b.toNat : Int) = (cls b == 8 || cls b == 9) := u8_eq (f := fun b => hasB [59, 44, 46, 58, 40, 41, 91, 93, 123, 125, 61, 60, 62, 43, 45, 42, 47] (b.toNat : Int)) (g := fun b => (cls b == 8 || cls b == 9)) (by decide +kernel) b
theorem head_drop {s : ByteArray} {i : Nat} (h : i < s.size) : (s.data.toList.drop i).head? = some s[i] := by rw [drop_cons h]; rfl
theorem head_end {s : ByteArray} {i : Nat} (h : ¬ i < s.size) : (s.data.toList.drop i).head? = none := by
  have hz : s.data.toList.length = s.size := by simp
  rw [List.drop_eq_nil_of_le (by omega)]; rfl
theorem tw_all {p : UInt8 → Bool} : ∀ (l : List UInt8), ∀ c ∈ l.takeWhile p, p c = true
  | [], c, h => by simp at h
  | b :: r, c, h => by
    rw [List.takeWhile_cons] at h
    by_cases hb : p b = true
    · rw [if_pos hb, List.mem_cons] at h
      rcases h with rfl | h
      · exact hb
      · exact tw_all r c h
    · rw [if_neg hb] at h; simp at h
theorem drop_stop {p : UInt8 → Bool} {s : ByteArray} {j : Nat} (h : wEnd p s j < s.size) : p s[wEnd p s j] = false := by
  have h1 := wEnd_drop (p := p) s j
  rw [drop_cons h] at h1
  have : (s.data.toList.drop j).dropWhile p ≠ [] := by rw [← h1]; exact List.cons_ne_nil _ _
  have h2 := List.head_dropWhile_not p this
  simp only [← h1, List.head_cons] at h2
  exact h2
theorem next_name {s : ByteArray} (hs : s.size ≤ 100000) {i : Nat} (h : i < s.size) (hL : isLetter s[i] = true) : Ev (fun k => observatoryref08_next.l0 k s (i : Int) ((i + 1 : Nat) : Int) 0 ⟨#[]⟩ 0 (i : Int)) (refR i (tok1 (s.data.toList.drop i))) := by
  have := name_loop s hs i 0 0 (i : Int) ⟨#[]⟩ s.size (i + 1) (by omega) (by omega) (by omega)
  rw [ext_run h] at this
  rw [drop_cons h, tok1_letter hL]
  have hw : wEnd isWord s (i + 1) - i = (s[i] :: (s.data.toList.drop (i + 1)).takeWhile isWord).length := by unfold wEnd; rw [List.length_cons]; omega
  rw [hw] at this
  by_cases hl : (s[i] :: (s.data.toList.drop (i + 1)).takeWhile isWord).length > 24
  · rw [if_pos hl] at this ⊢; exact this
  · rw [if_neg hl] at this ⊢; exact this
theorem next_num {s : ByteArray} (hs : s.size ≤ 100000) {i : Nat} (h : i < s.size) (hL : isLetter s[i] = false) (hD : isDigit s[i] = true) : Ev (fun k => observatoryref08_next.l1 k s (i : Int) ((i + 1 : Nat) : Int) 0 ⟨#[]⟩ 0 (i : Int)) (refR i (tok1 (s.data.toList.drop i))) := by
  refine digit_loop s hs i _ _ _ _ _ s.size (i + 1) (by omega) (by omega) ?_
  have hle := wEnd_le (p := isDigit) (s := s) (j := i + 1) (by omega)
  have hw : (s[i] :: (s.data.toList.drop (i + 1)).takeWhile isDigit).length = wEnd isDigit s (i + 1) - i := by unfold wEnd; rw [List.length_cons]; omega
  have hR : tok1 (s.data.toList.drop i) = if (wEnd isDigit s (i + 1) - i > 13) || (((s.data.toList.drop (wEnd isDigit s (i + 1))).head?.map isWord).getD false) then .err 4
      else .tok 2 (s[i] :: (s.data.toList.drop (i + 1)).takeWhile isDigit) (numOf (s[i] :: (s.data.toList.drop (i + 1)).takeWhile isDigit)) (s[i] :: (s.data.toList.drop (i + 1)).takeWhile isDigit).length := by
    rw [drop_cons h, tok1_digit hL hD, wEnd_drop, ← hw]
  have hX := ext_run (p := isDigit) h
  have hT : (s.data.toList.drop i).take (wEnd isDigit s (i + 1) - i) = s[i] :: (s.data.toList.drop (i + 1)).takeWhile isDigit := by
    rw [drop_cons h, ← hw, List.length_cons, List.take_succ_cons, take_tw]
  have hout : ∀ {b : Bool}, b = true → Ev (fun k => observatoryref08_next.j3 k s (i : Int) ((wEnd isDigit s (i + 1) : Nat) : Int) b 2 ⟨#[]⟩ 0 (i : Int)) (0, ⟨#[]⟩, 0, 0, 4) := by
    rintro b rfl
    refine Ev.step (f := fun _ => some _) (fun k => ?_) (Ev.now _)
    simp only [observatoryref08_next.j3]
    rw [if_pos trivial]
  have hin : ∀ {b : Bool}, b = false → wEnd isDigit s (i + 1) - i ≤ 13 → Ev (fun k => observatoryref08_next.j3 k s (i : Int) ((wEnd isDigit s (i + 1) : Nat) : Int) b 2 ⟨#[]⟩ 0 (i : Int))
      (2, ⟨(s[i] :: (s.data.toList.drop (i + 1)).takeWhile isDigit).toArray⟩, numOf (s[i] :: (s.data.toList.drop (i + 1)).takeWhile isDigit), (i : Int), 0) := by
    rintro b rfl h13
    have hnl := num_loop s hs i (wEnd isDigit s (i + 1)) hle.2 (by omega) h13 2 (i : Int) ⟨#[]⟩ (wEnd isDigit s (i + 1) - i) i 0 (by omega) (Nat.le_refl _) (Int.le_refl _) (by rw [Nat.sub_self, Nat.pow_zero]; decide) (by
      rw [hT]
      intro c hc
      rw [List.mem_cons] at hc
      rcases hc with rfl | hc
      · exact hD
      · exact tw_all _ c hc)
    rw [hT, hX] at hnl
    refine Ev.step (f := fun k => observatoryref08_next.l2 k s (i : Int) ((wEnd isDigit s (i + 1) : Nat) : Int) (i : Int) 2 ⟨#[]⟩ 0 (i : Int)) (fun k => ?_) hnl
    simp only [observatoryref08_next.j3]
    rw [if_neg Bool.false_ne_true]
  generalize wEnd isDigit s (i + 1) = e at *
  by_cases h13 : e - i > 13
  · rw [hR, decide_eq_true h13, Bool.true_or, if_pos rfl]
    refine Ev.step (f := fun k => observatoryref08_next.j3 k s (i : Int) (e : Int) true 2 ⟨#[]⟩ 0 (i : Int)) (fun k => ?_) (hout rfl)
    simp only [observatoryref08_next.j2]
    rw [wsub (by omega) (by omega), if_pos (by omega)]
  · rw [hR, decide_eq_false h13, Bool.false_or]
    by_cases hlt : e < s.size
    · rw [head_drop hlt]
      have hb := bt_nat hlt
      refine Ev.step (f := fun k => observatoryref08_next.j3 k s (i : Int) (e : Int) (isWord s[e]) 2 ⟨#[]⟩ 0 (i : Int)) (fun k => ?_) ?_
      · simp only [observatoryref08_next.j2]
        rw [wsub (by omega) (by omega), if_neg (by omega), if_pos (by omega), if_pos (by omega), hb, word_u]
        simp only [Option.bind_some]
      · cases hww : isWord s[e] with
        | true => simp only [Option.map_some, Option.getD_some, hww, if_pos rfl]; exact hout rfl
        | false => simp only [Option.map_some, Option.getD_some, hww, if_neg Bool.false_ne_true]; exact hin rfl (by omega)
    · rw [head_end hlt]
      simp only [Option.map_none, Option.getD_none, if_neg Bool.false_ne_true]
      refine Ev.step (f := fun k => observatoryref08_next.j3 k s (i : Int) (e : Int) false 2 ⟨#[]⟩ 0 (i : Int)) (fun k => ?_) (hin rfl (by omega))
      simp only [observatoryref08_next.j2]
      rw [wsub (by omega) (by omega), if_neg (by omega), if_neg (by omega)]
theorem next_str {s : ByteArray} (hs : s.size ≤ 100000) {i : Nat} (h : i < s.size) (h34 : s[i] = 34) : Ev (fun k => observatoryref08_next.l3 k s (i : Int) ((i + 1 : Nat) : Int)) (refR i (tok1 (s.data.toList.drop i))) := by
  refine str_loop s hs i _ s.size (i + 1) (by omega) (by omega) ?_
  have hle := wEnd_le (p := notStr) (s := s) (j := i + 1) (by omega)
  have hst := drop_stop (p := notStr) (s := s) (j := i + 1)
  have hR : tok1 (s.data.toList.drop i) = if (s.data.toList.drop (wEnd notStr s (i + 1))).head? == some 34 then
        if ((s.data.toList.drop (i + 1)).takeWhile notStr).length > 400 then .err 2 else .tok 3 ((s.data.toList.drop (i + 1)).takeWhile notStr) 0 (((s.data.toList.drop (i + 1)).takeWhile notStr).length + 2)
      else .err 6 := by
    rw [drop_cons h, h34, tok1_str, wEnd_drop]
  have hX := ext_run0 (p := notStr) (s := s) (i := i + 1)
  have hl : ((s.data.toList.drop (i + 1)).takeWhile notStr).length = wEnd notStr s (i + 1) - (i + 1) := by unfold wEnd; omega
  rw [hl] at hR
  generalize wEnd notStr s (i + 1) = e at *
  have hout : Ev (fun k => observatoryref08_next.j7 k s (i : Int) (e : Int) true) (0, ⟨#[]⟩, 0, 0, 6) := by
    refine Ev.step (f := fun _ => some _) (fun k => ?_) (Ev.now _)
    simp only [observatoryref08_next.j7]
    rw [if_pos trivial]
  by_cases hlt : e < s.size
  · have hb := bt_nat hlt
    have hs2 := hst hlt
    rw [hR, head_drop hlt]
    refine Ev.step (f := fun k => observatoryref08_next.j7 k s (i : Int) (e : Int) (((s[e]).toNat : Int) == 10)) (fun k => ?_) ?_
    · simp only [observatoryref08_next.j6]
      rw [if_neg (by omega), if_pos (Int.natCast_nonneg _), if_pos (by omega), hb]
    · by_cases h10 : s[e] = 10
      · rw [h10]; exact hout
      · have e34 : s[e] = 34 := by
          unfold notStr at hs2
          simp at hs2
          exact Classical.byContradiction fun hne => h10 (hs2 hne)
        rw [e34]
        simp only [if_pos (show ((some (34 : UInt8) == some 34) = true) from rfl)]
        have hstep : Ev (fun k => observatoryref08_next.j7 k s (i : Int) (e : Int) false) (if e - (i + 1) > 400 then (0, ⟨#[]⟩, 0, 0, 2) else (3, s.extract (i + 1) e, 0, (i : Int), 0)) := by
          refine Ev.step (f := fun _ => some _) (fun k => ?_) (Ev.now _)
          simp only [observatoryref08_next.j7]
          rw [if_neg Bool.false_ne_true, wsub (by omega) (by omega), w64s (x := ((e - i : Nat) : Int) - 1) (by omega) (by omega), wi (by omega)]
          by_cases h4 : e - (i + 1) > 400
          · rw [if_pos (by omega), if_pos h4]
          · rw [if_neg (by omega), if_neg h4, if_pos (Int.natCast_nonneg _), if_pos (by omega), if_pos (by omega), Int.toNat_natCast, Int.toNat_natCast]
        rw [hX] at hstep
        by_cases h4 : e - (i + 1) > 400
        · rw [if_pos h4] at hstep ⊢; exact hstep
        · rw [if_neg h4] at hstep ⊢; exact hstep
  · rw [hR, head_end hlt]
    refine Ev.step (f := fun k => observatoryref08_next.j7 k s (i : Int) (e : Int) true) (fun k => ?_) hout
    simp only [observatoryref08_next.j6]
    rw [if_pos (by omega)]
theorem ext_one {s : ByteArray} {i : Nat} (h : i < s.size) : s.extract i (i + 1) = ⟨[s[i]].toArray⟩ := by
  apply ba_ext
  rw [Lib.extract_data, drop_cons h, show i + 1 - i = 1 by omega]; rfl
theorem ext_two {s : ByteArray} {i : Nat} (h : i + 1 < s.size) : s.extract i (i + 1 + 1) = ⟨[s[i], s[i + 1]].toArray⟩ := by
  apply ba_ext
  rw [Lib.extract_data, drop_cons (show i < s.size by omega), drop_cons h, show i + 1 + 1 - i = 2 by omega]; rfl
theorem sym_no {s : ByteArray} (hs : s.size ≤ 100000) {i : Nat} (h : i < s.size) : Ev (fun k => observatoryref08_next.j8 k s (i : Int) ((i + 1 : Nat) : Int) ((s[i]).toNat : Int) false 4 ⟨#[]⟩ 0 (i : Int)) (if (cls s[i] == 8 || cls s[i] == 9) = true then (4, ⟨[s[i]].toArray⟩, 0, (i : Int), 0) else (0, ⟨#[]⟩, 0, 0, 3)) := by
  have hH := has_ev (cs := [59, 44, 46, 58, 40, 41, 91, 93, 123, 125, 61, 60, 62, 43, 45, 42, 47]) (by decide) ((s[i]).toNat : Int)
  rw [has_sym] at hH
  refine Ev.step (f := fun k => (observatoryref08_has.f k (⟨#[59, 44, 46, 58, 40, 41, 91, 93, 123, 125, 61, 60, 62, 43, 45, 42, 47]⟩ : ByteArray) ((s[i]).toNat : Int)).bind fun t113 => (if t113 = true then (some (4, ⟨[s[i]].toArray⟩, 0, (i : Int), 0)) else (some (0, (⟨#[]⟩ : ByteArray), 0, 0, 3)))) (fun k => ?_) ?_
  · simp only [observatoryref08_next.j8]
    rw [if_neg Bool.false_ne_true, if_pos (Int.natCast_nonneg _), if_pos (by omega), if_pos (by omega), Int.toNat_natCast, Int.toNat_natCast, ext_one h]
  · refine Ev.bind (f := fun _ t113 => (if t113 = true then (some (((4, ⟨[s[i]].toArray⟩, 0, (i : Int), 0) : NOut))) else (some (((0, (⟨#[]⟩ : ByteArray), 0, 0, 3) : NOut))))) hH ?_
    by_cases hc : (cls s[i] == 8 || cls s[i] == 9) = true
    · rw [if_pos hc, if_pos hc]; exact Ev.now _
    · rw [if_neg hc, if_neg hc]; exact Ev.now _
theorem next_ev {s : ByteArray} (hs : s.size ≤ 100000) {i : Nat} (h : i < s.size) : Ev (fun k => observatoryref08_next.f k s (i : Int)) (refR i (tok1 (s.data.toList.drop i))) := by
  have hb := bt_nat h
  have hi0 : (0 : Int) ≤ (i : Int) := Int.natCast_nonneg _
  have hi1 : (i : Int) < (s.size : Int) := by omega
  unfold observatoryref08_next.f
  simp only [if_pos hi0, if_pos hi1, hb, letter_u, digit_u, Option.bind_some]
  rw [wi (by omega)]
  cases hL : isLetter s[i] with
  | true => simp only [if_pos trivial]; exact next_name hs h hL
  | false =>
    simp only [if_neg Bool.false_ne_true]
    cases hD : isDigit s[i] with
    | true => simp only [if_pos trivial]; exact next_num hs h hL hD
    | false =>
      simp only [if_neg Bool.false_ne_true]
      by_cases h34 : s[i] = 34
      · have h34' : ((s[i]).toNat : Int) = 34 := by rw [h34]; rfl
        simp only [if_pos h34']
        exact next_str hs h h34
      · have h34' : ¬ ((s[i]).toNat : Int) = 34 := fun hh => h34 ((u8_int 34).1 hh)
        simp only [if_neg h34']
        have hq : (s[i] == 34) = false := beq_eq_false_iff_ne.2 h34
        have hH := has_ev (cs := [33, 60, 62, 61]) (by decide) ((s[i]).toNat : Int)
        rw [has_pair] at hH
        have hno := sym_no hs h
        rw [drop_cons h, tok1_sym hL hD hq]
        refine Ev.bind (f := fun k t112 => (if t112 = true then (if ((i + 1 : Nat) : Int) < (s.size : Int) then (if 0 ≤ ((i + 1 : Nat) : Int) then (observatoryref08_next.j8 k s (i : Int) ((i + 1 : Nat) : Int) ((s[i]).toNat : Int) ((bt s ((i + 1 : Nat) : Int)) == 61) 4 (⟨#[]⟩ : ByteArray) 0 (i : Int)) else (none)) else (observatoryref08_next.j8 k s (i : Int) ((i + 1 : Nat) : Int) ((s[i]).toNat : Int) false 4 (⟨#[]⟩ : ByteArray) 0 (i : Int))) else (observatoryref08_next.j8 k s (i : Int) ((i + 1 : Nat) : Int) ((s[i]).toNat : Int) false 4 (⟨#[]⟩ : ByteArray) 0 (i : Int)))) hH ?_
        have hfin : ∀ {c : Bool}, c = false → Ev (fun k => observatoryref08_next.j8 k s (i : Int) ((i + 1 : Nat) : Int) ((s[i]).toNat : Int) false 4 ⟨#[]⟩ 0 (i : Int)) (refR i (if c = true then .tok 4 [s[i], 61] 0 2 else if (cls s[i] == 8 || cls s[i] == 9) = true then .tok 4 [s[i]] 0 1 else .err 3)) := by
          rintro c rfl
          rw [if_neg Bool.false_ne_true]
          by_cases hc : (cls s[i] == 8 || cls s[i] == 9) = true
          · rw [if_pos hc] at hno ⊢; exact hno
          · rw [if_neg hc] at hno ⊢; exact hno
        cases hp : (cls s[i] == 7 || cls s[i] == 8) with
        | false =>
          simp only [if_neg Bool.false_ne_true]
          exact hfin (c := false && _) rfl
        | true =>
          simp only [if_pos trivial]
          by_cases hlt : i + 1 < s.size
          · have hb2 := bt_nat hlt
            have hlt' : ((i + 1 : Nat) : Int) < (s.size : Int) := by omega
            simp only [if_pos hlt', if_pos (Int.natCast_nonneg (i + 1)), hb2]
            rw [head_drop hlt]
            by_cases h61 : s[i + 1] = 61
            · rw [h61]
              have hx : ((((61 : UInt8)).toNat : Int) == 61) = true := rfl
              rw [hx]
              refine Ev.step (f := fun _ => some _) (fun k => ?_) (Ev.now _)
              simp only [observatoryref08_next.j8]
              rw [if_pos trivial, if_pos hi0, wi (by omega), if_pos (by omega), if_pos (by omega), Int.toNat_natCast, Int.toNat_natCast, ext_two hlt, h61]
              rfl
            · have hx : (((s[i + 1]).toNat : Int) == 61) = false := beq_eq_false_iff_ne.2 fun hh => h61 ((u8_int 61).1 hh)
              rw [hx]
              refine hfin ?_
              simp [h61]
          · have hlt' : ¬ ((i + 1 : Nat) : Int) < (s.size : Int) := by omega
            simp only [if_neg hlt']
            rw [head_end hlt]
            exact hfin rfl
end Go.Proofs.YtmbpjjdaklpemaaDoor.Px
