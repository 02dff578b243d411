import Derived.Test.YtmbpjjdaklpemaaDoorPxx10
import Derived.Test.YtmbpjjdaklpemaaDoorLxZ
namespace Go.Proofs.YtmbpjjdaklpemaaDoor.Pure
open Go.RowKit Go.Proofs.YtmbpjjdaklpemaaDoor.Px Go.Proofs.YtmbpjjdaklpemaaDoorW.PrintWords Go.Proofs.YtmbpjjdaklpemaaDoorW.PrintLast Go.Proofs.YtmbpjjdaklpemaaDoor.Lx
set_option linter.unusedSimpArgs false
/-! ### The plain law: a name, a symbol, a number, a text in quotes, one after the other -/
theorem letter_gap (b : UInt8) : (!isLetter b || (!isBlank b && !(b == 35) && !isDigit b && !(b == 34))) = true := u8_all (p := fun b => !isLetter b || (!isBlank b && !(b == 35) && !isDigit b && !(b == 34))) (by decide +kernel) b
theorem digit_gap (b : UInt8) : (!isDigit b || (!isBlank b && !(b == 35) && !isLetter b && !(b == 61))) = true := u8_all (p := fun b => !isDigit b || (!isBlank b && !(b == 35) && !isLetter b && !(b == 61))) (by decide +kernel) b
def symB (j : Nat) : UInt8 := ([61, 59, 60, 62, 40, 41, 123, 125, 91, 93, 44, 46, 58, 43, 45, 42, 47] : List UInt8).getD j 0
theorem sym_ok : ∀ j, j < 17 → (isLetter (symB j) = false ∧ isDigit (symB j) = false ∧ (symB j == 34) = false ∧ isWord (symB j) = false ∧ (cls (symB j) == 8 || cls (symB j) == 9) = true ∧ isBlank (symB j) = false ∧ (symB j == 35) = false) := by decide +kernel
theorem words_lx {c0 d0 b : UInt8} {nm ds tx : List UInt8} (hc : isLetter c0 = true) (hnm : nm.all isWord = true) (hnl : (c0 :: nm).length ≤ 24)
    (hb : isLetter b = false ∧ isDigit b = false ∧ (b == 34) = false ∧ isWord b = false ∧ (cls b == 8 || cls b == 9) = true ∧ isBlank b = false ∧ (b == 35) = false)
    (hd : isDigit d0 = true) (hds : ds.all isDigit = true) (hdl : (d0 :: ds).length ≤ 13) (ht : tx.all notStr = true) (htl : tx.length ≤ 400) :
    lx ((c0 :: nm) ++ (b :: ((d0 :: ds) ++ (34 :: (tx ++ [34]))))) 0 =
      ([(⟨1, c0 :: nm, 0, 0⟩ : Tok), ⟨4, [b], 0, (c0 :: nm).length⟩, ⟨2, d0 :: ds, numOf (d0 :: ds), (c0 :: nm).length + 1⟩, ⟨3, tx, 0, (c0 :: nm).length + 1 + (d0 :: ds).length⟩], none) := by
  obtain ⟨b1, b2, b3, b4, b5, b6, b7⟩ := hb
  have g1 := letter_gap c0
  rw [hc] at g1
  simp only [Bool.not_true, Bool.false_or, Bool.and_eq_true, Bool.not_eq_true'] at g1
  obtain ⟨⟨⟨g11, g12⟩, _⟩, _⟩ := g1
  have g2 := digit_gap d0
  rw [hd] at g2
  simp only [Bool.not_true, Bool.false_or, Bool.and_eq_true, Bool.not_eq_true'] at g2
  obtain ⟨⟨⟨g21, g22⟩, g23⟩, g24⟩ := g2
  -- the name
  have j1 := tw_join (p := isWord) (r := nm) (y := b :: ((d0 :: ds) ++ (34 :: (tx ++ [34])))) hnm b4
  have t1 : tok1 ((c0 :: nm) ++ (b :: ((d0 :: ds) ++ (34 :: (tx ++ [34]))))) = .tok 1 (c0 :: nm) 0 (c0 :: nm).length := by
    rw [List.cons_append, tok1_letter hc, j1.1, if_neg (by omega)]
  have s1 : skp false ((c0 :: nm) ++ (b :: ((d0 :: ds) ++ (34 :: (tx ++ [34]))))) = (c0 :: nm) ++ (b :: ((d0 :: ds) ++ (34 :: (tx ++ [34])))) := skp_head g11 g12 _
  -- the symbol
  have t2 : tok1 (b :: ((d0 :: ds) ++ (34 :: (tx ++ [34])))) = .tok 4 [b] 0 1 := by
    rw [tok1_sym b1 b2 b3, if_neg, if_pos b5]
    rw [List.cons_append, List.head?_cons]
    intro h
    rw [Bool.and_eq_true] at h
    have : d0 = 61 := by simpa using h.2
    rw [this] at g24; simp at g24
  have s2 : skp false (b :: ((d0 :: ds) ++ (34 :: (tx ++ [34])))) = b :: ((d0 :: ds) ++ (34 :: (tx ++ [34]))) := skp_head b6 b7 _
  -- the number
  have j3 := tw_join (p := isDigit) (r := ds) (y := 34 :: (tx ++ [34])) hds rfl
  have t3 : tok1 ((d0 :: ds) ++ (34 :: (tx ++ [34]))) = .tok 2 (d0 :: ds) (numOf (d0 :: ds)) (d0 :: ds).length := by
    rw [List.cons_append, tok1_digit g23 hd, j3.1, j3.2, if_neg]
    rw [Bool.or_eq_true]
    rintro (h | h)
    · have := of_decide_eq_true h; omega
    · rw [List.head?_cons] at h; exact absurd h (by decide)
  have s3 : skp false ((d0 :: ds) ++ (34 :: (tx ++ [34]))) = (d0 :: ds) ++ (34 :: (tx ++ [34])) := skp_head g21 g22 _
  -- the text
  have j4 := tw_join (p := notStr) (r := tx) (y := [34]) ht rfl
  have t4 : tok1 (34 :: (tx ++ [34])) = .tok 3 tx 0 (tx.length + 2) := by
    rw [tok1_str, j4.1, j4.2, if_pos (by decide), if_neg (by omega)]
  have s4 : skp false (34 :: (tx ++ [34])) = 34 :: (tx ++ [34]) := skp_head (by decide) (by decide) _
  have e4 : (34 :: (tx ++ [34]) : List UInt8).drop (tx.length + 2) = [] := List.drop_eq_nil_of_le (by simp)
  rw [lx_tok s1 t1, List.drop_left' rfl, lx_tok s2 t2, List.drop_one, List.tail_cons, lx_tok s3 t3, List.drop_left' rfl, lx_tok s4 t4, e4, lx_nil (l := []) rfl]
  simp only [Nat.sub_self, Nat.add_zero, Nat.zero_add]
/-! ### The reference's helpers -/
theorem dig_ext : ∀ j, j < 10 → (⟨#[48, 49, 50, 51, 52, 53, 54, 55, 56, 57]⟩ : ByteArray).extract j (j + 1) = ⟨[UInt8.ofNat (48 + j)].toArray⟩ := by decide +kernel
theorem dig_ok : ∀ j, j < 10 → isDigit (UInt8.ofNat (48 + j)) = true ∧ ((UInt8.ofNat (48 + j)).toNat : Int) - 48 = (j : Int) := by decide +kernel
theorem sym_ext : ∀ j, j < 17 → (⟨#[61, 59, 60, 62, 40, 41, 123, 125, 91, 93, 44, 46, 58, 43, 45, 42, 47]⟩ : ByteArray).extract j (j + 1) = ⟨[symB j].toArray⟩ := by decide +kernel
theorem num_app (l : List UInt8) (c : UInt8) : numOf (l ++ [c]) = 10 * numOf l + ((c.toNat : Int) - 48) := by
  unfold numOf; rw [List.foldl_append]; rfl
theorem dec_small {n : Nat} (h : n < 10) : ∃ ds : List UInt8, Ev (fun k => observatoryref08_Decimal.f k (n : Int)) ⟨ds.toArray⟩ ∧ ds = [UInt8.ofNat (48 + n)] := by
  refine ⟨_, ?_, rfl⟩
  refine Ev.step (f := fun _ => some _) (fun k => ?_) (Ev.now _)
  simp only [observatoryref08_Decimal.f]
  rw [if_pos (by omega), if_pos (by omega), wi (by omega), if_pos (by omega), if_pos (by omega), Int.toNat_natCast, Int.toNat_natCast, dig_ext n h]
theorem dec_ev (e : Nat) : ∀ n : Nat, e ≤ 13 → n < 10 ^ (e + 1) → ∃ ds : List UInt8, Ev (fun k => observatoryref08_Decimal.f k (n : Int)) ⟨ds.toArray⟩ ∧ ds ≠ [] ∧ ds.all isDigit = true ∧ ds.length ≤ e + 1 ∧ numOf ds = (n : Int) := by
  have hone : ∀ n : Nat, n < 10 → ∃ ds : List UInt8, Ev (fun k => observatoryref08_Decimal.f k (n : Int)) ⟨ds.toArray⟩ ∧ ds ≠ [] ∧ ds.all isDigit = true ∧ ds.length ≤ 1 ∧ numOf ds = (n : Int) := by
    intro n h
    obtain ⟨ds, h1, rfl⟩ := dec_small h
    have h2 := dig_ok n h
    exact ⟨_, h1, by simp, by rw [List.all_cons, h2.1]; rfl, by simp, by show 10 * 0 + _ = _; rw [h2.2]; omega⟩
  induction e with
  | zero => intro n _ h; exact hone n (by simpa using h)
  | succ e ih =>
    intro n he h
    by_cases h10 : n < 10
    · obtain ⟨ds, a, b, c, d, f⟩ := hone n h10
      exact ⟨ds, a, b, c, by omega, f⟩
    · have hq : n / 10 < 10 ^ (e + 1) := by rw [Nat.pow_succ] at h; omega
      have hb : n < 100000000000000 * 10 := Nat.lt_of_lt_of_le h (by
        have : (10 : Nat) ^ (e + 1 + 1) ≤ 10 ^ 15 := Nat.pow_le_pow_right (by decide) (by omega)
        exact Nat.le_trans this (by decide))
      obtain ⟨ds, i1, i2, i3, i4, i5⟩ := ih (n / 10) (by omega) hq
      obtain ⟨zs, k1, rfl⟩ := dec_small (n := n % 10) (Nat.mod_lt _ (by decide))
      have k2 := dig_ok (n % 10) (Nat.mod_lt _ (by decide))
      refine ⟨ds ++ [UInt8.ofNat (48 + n % 10)], ?_, by simp, by rw [List.all_append, i3, List.all_cons, k2.1]; rfl, by simp; omega, by rw [num_app, i5, k2.2]; omega⟩
      have ht : Int.tdiv (n : Int) 10 = ((n / 10 : Nat) : Int) := by rw [Int.tdiv_eq_ediv_of_nonneg (by omega)]; omega
      have hm : Int.tmod (n : Int) 10 = ((n % 10 : Nat) : Int) := by rw [Int.tmod_eq_emod_of_nonneg (by omega)]; omega
      have hw : wrap64 ((n / 10 : Nat) : Int) = ((n / 10 : Nat) : Int) := w64b (by omega) (by omega)
      have hz : (⟨ds.toArray⟩ : ByteArray).size + (⟨[UInt8.ofNat (48 + n % 10)].toArray⟩ : ByteArray).size ≤ 9223372036854775807 := by
        rw [size_len, size_len]; exact Nat.le_trans (by simp; omega) (show 100 ≤ 9223372036854775807 by decide)
      refine Ev.step (f := fun k => (observatoryref08_Decimal.f k ((n / 10 : Nat) : Int)).bind fun t258 => ((observatoryref08_Decimal.f k ((n % 10 : Nat) : Int)).bind fun t259 => (if t258.size + t259.size ≤ 9223372036854775807 then (some (t258 ++ t259)) else (none)))) (fun k => ?_) ?_
      · simp only [observatoryref08_Decimal.f]
        rw [if_neg (by clear hw; omega), ht, hm, hw]
      · refine Ev.bind (f := fun k t258 => ((observatoryref08_Decimal.f k ((n % 10 : Nat) : Int)).bind fun t259 => (if t258.size + t259.size ≤ 9223372036854775807 then (some (t258 ++ t259)) else (none)))) i1 ?_
        refine Ev.bind (f := fun k t259 => (if (⟨ds.toArray⟩ : ByteArray).size + t259.size ≤ 9223372036854775807 then (some ((⟨ds.toArray⟩ : ByteArray) ++ t259)) else (none))) k1 ?_
        refine Ev.congr (f := fun _ => some _) (fun k => ?_) (Ev.now _)
        rw [if_pos hz, ba_app]
/-- The reference's Name holds of names alone, and answers at all. -/
theorem name_loop2 (s : ByteArray) (hs : s.size ≤ 140737488351232) (d : Nat) : ∀ j, j ≤ s.size → s.size ≤ j + d → ∃ b, Ev (fun k => observatoryref08_Name.l0 k s (j : Int)) b ∧
    (b = true → (s.data.toList.drop j).all isWord = true ∧ s.size ≤ 24 ∧ ∃ h : 0 < s.size, isLetter s[0] = true) := by
  have hz : s.data.toList.length = s.size := by simp
  have hout : ∀ j, ¬ j < s.size → j ≤ s.size → ∃ b, Ev (fun k => observatoryref08_Name.l0 k s (j : Int)) b ∧
    (b = true → (s.data.toList.drop j).all isWord = true ∧ s.size ≤ 24 ∧ ∃ h : 0 < s.size, isLetter s[0] = true) := by
    intro j hj hle
    by_cases h0 : 0 < s.size
    · have hb := bt_nat h0
      by_cases h24 : s.size ≤ 24
      · refine ⟨isLetter s[0], ?_, fun hh => ⟨by rw [List.drop_eq_nil_of_le (by omega)]; rfl, h24, h0, hh⟩⟩
        refine Ev.step (f := fun _ => some _) (fun k => ?_) (Ev.now _)
        simp only [observatoryref08_Name.l0]
        rw [if_neg (by omega), if_pos (by omega), if_pos (by omega), if_pos (by omega), show ((0 : Int)) = ((0 : Nat) : Int) from rfl, hb, letter_u]
        rfl
      · refine ⟨false, ?_, fun hh => absurd hh (by decide)⟩
        refine Ev.step (f := fun _ => some _) (fun k => ?_) (Ev.now _)
        simp only [observatoryref08_Name.l0]
        rw [if_neg (by omega), if_pos (by omega), if_neg (by omega)]
    · refine ⟨false, ?_, fun hh => absurd hh (by decide)⟩
      refine Ev.step (f := fun _ => some _) (fun k => ?_) (Ev.now _)
      simp only [observatoryref08_Name.l0]
      rw [if_neg (by omega), if_neg (by omega)]
  induction d with
  | zero => intro j h1 h2; exact hout j (by omega) h1
  | succ d ih =>
    intro j h1 h2
    by_cases hlt : j < s.size
    · have hb := bt_nat hlt
      by_cases hw : isWord s[j] = true
      · obtain ⟨b, i1, i2⟩ := ih (j + 1) (by omega) (by omega)
        refine ⟨b, ?_, fun hh => ?_⟩
        · refine Ev.step (f := fun k => observatoryref08_Name.l0 k s ((j + 1 : Nat) : Int)) (fun k => ?_) i1
          simp only [observatoryref08_Name.l0]
          rw [if_pos (by omega), if_pos (by omega), hb, word_u, hw]
          simp only [Option.bind_some]
          rw [if_pos trivial, w64b (by omega) (by omega)]
          rfl
        · obtain ⟨m1, m2, m3⟩ := i2 hh
          exact ⟨by rw [drop_cons hlt, List.all_cons, hw, m1]; rfl, m2, m3⟩
      · refine ⟨false, ?_, fun hh => absurd hh (by decide)⟩
        refine Ev.step (f := fun _ => some _) (fun k => ?_) (Ev.now _)
        simp only [observatoryref08_Name.l0]
        rw [if_pos (by omega), if_pos (by omega), hb, word_u]
        simp only [Option.bind_some]
        rw [if_neg hw]
    · exact hout j hlt h1
/-- What the tokens are held against. -/
theorem le_toList (a : List UInt8) : (⟨a.toArray⟩ : ByteArray).toList = a := by rw [Lib.toList_data]
theorem words_go (a0 a3 : ByteArray) (n j : Nat) (a1 a2 : Int) (ds : List UInt8) (c0 d0 : UInt8) (nm dz : List UInt8) (h0 : a0.data.toList = c0 :: nm) (hds : ds = d0 :: dz)
    (hc : isLetter c0 = true) (hnm : nm.all isWord = true) (hnl : (c0 :: nm).length ≤ 24) (hd : isDigit d0 = true) (hdz : dz.all isDigit = true) (hdl : (d0 :: dz).length ≤ 13) (hv : numOf ds = (n : Int))
    (ht : a3.data.toList.all notStr = true) (htl : a3.data.toList.length ≤ 400) (hj : j < 17) (e1 : wrap64 (Int.tmod a1 10000000000000) = (n : Int)) (e2 : Int.tmod (wrap64 a2) 17 = (j : Int))
    (hE : Ev (fun k => observatoryref08_Decimal.f k (n : Int)) ⟨ds.toArray⟩) (x10 : Int) (hx : ¬ x10 < (a3.size : Int)) :
    Ev (fun k => observatorylaw08_LexerWords.l0 k a0 a1 a2 a3 true x10) true := by
  have z0 := size_len a0
  have z3 := size_len a3
  have zd : (⟨ds.toArray⟩ : ByteArray).size = ds.length := by rw [size_len]
  have hsx := sym_ext j hj
  have hs1 : (⟨[symB j].toArray⟩ : ByteArray).size = 1 := rfl
  have hj1 : wrap64 ((j : Int) + 1) = ((j + 1 : Nat) : Int) := wi (by omega)
  have big : 10000 ≤ 9223372036854775807 := by decide
  have l0 : a0.size = nm.length + 1 := by rw [z0, h0, List.length_cons]
  rw [List.length_cons] at hnl hdl
  have ld : ds.length = dz.length + 1 := by rw [hds, List.length_cons]
  have s1 : (a0 ++ (⟨[symB j].toArray⟩ : ByteArray)).size = a0.size + 1 := by rw [ByteArray.size_append, hs1]
  have s2 : ((a0 ++ (⟨[symB j].toArray⟩ : ByteArray)) ++ (⟨ds.toArray⟩ : ByteArray)).size = a0.size + 1 + ds.length := by rw [ByteArray.size_append, s1, zd]
  have s3 : (((a0 ++ (⟨[symB j].toArray⟩ : ByteArray)) ++ (⟨ds.toArray⟩ : ByteArray)) ++ (⟨#[34]⟩ : ByteArray)).size = a0.size + 1 + ds.length + 1 := by rw [ByteArray.size_append, s2]; rfl
  have s4 : ((((a0 ++ (⟨[symB j].toArray⟩ : ByteArray)) ++ (⟨ds.toArray⟩ : ByteArray)) ++ (⟨#[34]⟩ : ByteArray)) ++ a3).size = a0.size + 1 + ds.length + 1 + a3.size := by rw [ByteArray.size_append, s3]
  have s5 : (((((a0 ++ (⟨[symB j].toArray⟩ : ByteArray)) ++ (⟨ds.toArray⟩ : ByteArray)) ++ (⟨#[34]⟩ : ByteArray)) ++ a3) ++ (⟨#[34]⟩ : ByteArray)).size = a0.size + 1 + ds.length + 1 + a3.size + 1 := by rw [ByteArray.size_append, s4]; rfl
  have hdat : (((((a0 ++ (⟨[symB j].toArray⟩ : ByteArray)) ++ (⟨ds.toArray⟩ : ByteArray)) ++ (⟨#[34]⟩ : ByteArray)) ++ a3) ++ (⟨#[34]⟩ : ByteArray)).data.toList
      = (c0 :: nm) ++ (symB j :: ((d0 :: dz) ++ (34 :: (a3.data.toList ++ [34])))) := by
    rw [data_app, data_app, data_app, data_app, data_app, h0]
    simp [hds]
  have hlx := words_lx (tx := a3.data.toList) (b := symB j) hc hnm (by rw [List.length_cons]; omega) (sym_ok j hj) hd hdz (by rw [List.length_cons]; omega) ht htl
  have hL := lex_ok (s := ((((a0 ++ (⟨[symB j].toArray⟩ : ByteArray)) ++ (⟨ds.toArray⟩ : ByteArray)) ++ (⟨#[34]⟩ : ByteArray)) ++ a3) ++ (⟨#[34]⟩ : ByteArray)) (by rw [s5]; clear hj1 e1 e2; omega) (by rw [hdat, hlx])
  rw [hdat, hlx] at hL
  simp only [List.map_cons, List.map_nil] at hL
  have b1 : a0.size + (⟨[symB j].toArray⟩ : ByteArray).size ≤ 9223372036854775807 := Nat.le_trans (by rw [hs1]; clear hj1 e1 e2; omega) big
  have b2 : (a0 ++ (⟨[symB j].toArray⟩ : ByteArray)).size + (⟨ds.toArray⟩ : ByteArray).size ≤ 9223372036854775807 := Nat.le_trans (by rw [s1, zd]; clear hj1 e1 e2; omega) big
  have b3 : ((a0 ++ (⟨[symB j].toArray⟩ : ByteArray)) ++ (⟨ds.toArray⟩ : ByteArray)).size + 1 ≤ 9223372036854775807 := Nat.le_trans (by rw [s2]; clear hj1 e1 e2; omega) big
  have b4 : (((a0 ++ (⟨[symB j].toArray⟩ : ByteArray)) ++ (⟨ds.toArray⟩ : ByteArray)) ++ (⟨#[34]⟩ : ByteArray)).size + a3.size ≤ 9223372036854775807 := Nat.le_trans (by rw [s3]; clear hj1 e1 e2; omega) big
  have b5 : ((((a0 ++ (⟨[symB j].toArray⟩ : ByteArray)) ++ (⟨ds.toArray⟩ : ByteArray)) ++ (⟨#[34]⟩ : ByteArray)) ++ a3).size + 1 ≤ 9223372036854775807 := Nat.le_trans (by rw [s4]; clear hj1 e1 e2; omega) big
  have q1 : (j : Int) ≤ ((j + 1 : Nat) : Int) := by clear hj1 e1 e2; omega
  have q2 : ((j + 1 : Nat) : Int) ≤ 17 := by clear hj1 e1 e2; omega
  have p1 : wrap64 ((a0.size : Int) + 1) = ((a0.size + 1 : Nat) : Int) := wi (by clear hj1 e1 e2; omega)
  have p2 : wrap64 (((a0.size + 1 : Nat) : Int) + (ds.length : Int)) = ((a0.size + 1 + ds.length : Nat) : Int) := by clear hj1 e1 e2 p1; rw [w64s (by omega) (by omega)]; omega
  have r1 : (a0.toList) = c0 :: nm := by rw [Lib.toList_data, h0]
  have r3 : a3.toList = a3.data.toList := Lib.toList_data a3
  obtain ⟨k, hk⟩ := Ev.rounds hE
  refine Ev.of (g := fun k => observatorylaw08_LexerWords.l0 k a0 a1 a2 a3 true x10) (fun k => (observatorylaw08_LexerWords.mono_l k).2 _ _ _ _ _ _) (k := k + 1) ?_
  generalize hT0 : (⟨1, c0 :: nm, 0, 0⟩ : Tok) = T0 at hL
  generalize hT1 : (⟨4, [symB j], 0, (c0 :: nm).length⟩ : Tok) = T1 at hL
  generalize hT2 : (⟨2, d0 :: dz, numOf (d0 :: dz), (c0 :: nm).length + 1⟩ : Tok) = T2 at hL
  generalize hT3 : (⟨3, a3.data.toList, 0, (c0 :: nm).length + 1 + (d0 :: dz).length⟩ : Tok) = T3 at hL
  have g0 : rd_T30 [toS T0, toS T1, toS T2, toS T3] 0 = toS T0 := rfl
  have g1 : rd_T30 [toS T0, toS T1, toS T2, toS T3] 1 = toS T1 := rfl
  have g2 : rd_T30 [toS T0, toS T1, toS T2, toS T3] 2 = toS T2 := rfl
  have g3 : rd_T30 [toS T0, toS T1, toS T2, toS T3] 3 = toS T3 := rfl
  have gl : (([toS T0, toS T1, toS T2, toS T3].length : Nat) : Int) = 4 := rfl
  have k0 : (((toS T0).f0) == 1 && ((((toS T0).f1).toList) == a0.toList && (((toS T0).f2) == 0 && (((toS T0).f3) == 0)))) = true := by
    subst hT0; simp [toS, r1, le_toList]
  have k1 : (((toS T1).f0) == 4 && ((((toS T1).f1).toList) == ((⟨[symB j].toArray⟩ : ByteArray).toList) && (((toS T1).f2) == 0 && (((toS T1).f3) == (a0.size : Int))))) = true := by
    subst hT1; rw [l0]; simp [toS, le_toList]
  have k2 : (((toS T2).f0) == 2 && ((((toS T2).f1).toList) == (⟨ds.toArray⟩ : ByteArray).toList && (((toS T2).f2) == (n : Int) && (((toS T2).f3) == ((a0.size + 1 : Nat) : Int))))) = true := by
    subst hT2; rw [l0, ← hv, hds]; simp [toS, le_toList]
  have k3 : (((toS T3).f0) == 3 && ((((toS T3).f1).toList) == a3.toList && (((toS T3).f2) == 0 && (((toS T3).f3) == ((a0.size + 1 + ds.length : Nat) : Int))))) = true := by
    subst hT3; rw [l0, ld, r3]; simp only [toS, le_toList]; simp
  simp only [observatorylaw08_LexerWords.l0]
  rw [if_neg hx, e1, hk]
  simp only [Option.bind_some]
  rw [e2, hj1, Int.toNat_natCast, Int.toNat_natCast, hsx, if_pos (Int.natCast_nonneg j), if_pos q1, if_pos q2, if_pos b1, if_pos b2, if_pos b3, if_pos b4, if_pos b5, hL]
  simp only [Option.bind_some]
  rw [if_pos trivial, gl, if_pos (rfl : (4 : Int) = 4), if_pos (show (0 : Int) < 4 by decide), g0, if_pos k0, if_pos (show (1 : Int) < 4 by decide), if_pos trivial, g1, if_pos k1, if_pos (show (2 : Int) < 4 by decide), p1, g2, if_pos k2, if_pos (show (3 : Int) < 4 by decide), g3, zd, p2, k3]
theorem text_loop (a0 a3 : ByteArray) (a1 a2 : Int) (hs : a3.size ≤ 400) (hfin : a3.data.toList.all notStr = true → Ev (fun k => observatorylaw08_LexerWords.l0 k a0 a1 a2 a3 true (a3.size : Int)) true) (d : Nat) :
    ∀ j, j ≤ a3.size → a3.size ≤ j + d → (a3.data.toList.take j).all notStr = true → Ev (fun k => observatorylaw08_LexerWords.l0 k a0 a1 a2 a3 true (j : Int)) true := by
  have hz : a3.data.toList.length = a3.size := by simp
  have hout : ∀ j, ¬ j < a3.size → j ≤ a3.size → (a3.data.toList.take j).all notStr = true → Ev (fun k => observatorylaw08_LexerWords.l0 k a0 a1 a2 a3 true (j : Int)) true := by
    intro j hj hle ha
    obtain rfl : j = a3.size := by omega
    rw [List.take_of_length_le (by omega)] at ha
    exact hfin ha
  induction d with
  | zero => intro j h1 h2 h3; exact hout j (by omega) h1 h3
  | succ d ih =>
    intro j h1 h2 h3
    by_cases hlt : j < a3.size
    · have hb := bt_nat hlt
      have hi0 : (0 : Int) ≤ (j : Int) := Int.natCast_nonneg _
      have hi1 : (j : Int) < (a3.size : Int) := by omega
      by_cases h34 : a3[j] = 34
      · have h34' : ((a3[j]).toNat : Int) = 34 := by rw [h34]; rfl
        refine Ev.step (f := fun _ => some true) (fun k => ?_) (Ev.now true)
        simp only [observatorylaw08_LexerWords.l0]
        rw [if_pos hi1, if_pos hi0, hb, if_pos h34']
      · have h34' : ¬ ((a3[j]).toNat : Int) = 34 := fun h => h34 ((u8_int 34).1 h)
        by_cases h10 : a3[j] = 10
        · have h10' : ((a3[j]).toNat : Int) = 10 := by rw [h10]; rfl
          refine Ev.step (f := fun _ => some true) (fun k => ?_) (Ev.now true)
          simp only [observatorylaw08_LexerWords.l0]
          rw [if_pos hi1, if_pos hi0, hb, if_neg h34', if_pos h10']
        · have h10' : ¬ ((a3[j]).toNat : Int) = 10 := fun h => h10 ((u8_int 10).1 h)
          refine Ev.step (f := fun k => observatorylaw08_LexerWords.l0 k a0 a1 a2 a3 true ((j + 1 : Nat) : Int)) (fun k => ?_) (ih (j + 1) (by omega) (by omega) ?_)
          · simp only [observatorylaw08_LexerWords.l0]
            rw [if_pos hi1, if_pos hi0, hb, if_neg h34', if_neg h10', wi (by omega)]
          · have hgj : a3.data.toList[j]? = some a3[j] := by rw [← List.head?_drop, drop_cons hlt]; rfl
            rw [List.take_add_one, hgj, List.all_append, h3]
            simp [notStr, h34, h10]
    · exact hout j hlt h1 h3
/-- A name, a symbol, a number and a text in quotes, one after the other, are one token each. -/
theorem LexerWords : observatorylaw08_LexerWords.Pure := by
  intro a0 a1 a2 a3 hs0 hw1 hw2 hs3
  have hu1 : 0 ≤ a1 := by
    simp [Lit.wf, IntKind.min, IntKind.max, IntKind.signed, IntKind.bits] at hw1
    omega
  have hu2 : 0 ≤ a2 ∧ a2 ≤ 255 := by
    simp [Lit.wf, IntKind.min, IntKind.max, IntKind.signed, IntKind.bits] at hw2
    omega
  refine Ev.rounds (g := fun k => observatorylaw08_LexerWords.f k a0 a1 a2 a3) ?_
  unfold observatorylaw08_LexerWords.f
  simp only [head_true, Option.bind_some]
  have hout : Ev (fun k => observatorylaw08_LexerWords.j0 k a0 a1 a2 a3 true true) true := by
    refine Ev.step (f := fun _ => some true) (fun k => ?_) (Ev.now true)
    simp only [observatorylaw08_LexerWords.j0]
    rw [if_pos trivial]
  obtain ⟨b, n1, n2⟩ := name_loop2 a0 hs0 a0.size 0 (Nat.zero_le _) (by omega)
  refine Ev.bind (a := b) (f := fun k t261 => (if t261 = true then (observatorylaw08_LexerWords.j0 k a0 a1 a2 a3 true (decide ((a3.size : Int) > 400))) else (observatorylaw08_LexerWords.j0 k a0 a1 a2 a3 true true))) n1 ?_
  cases b with
  | false => simp only [if_neg Bool.false_ne_true]; exact hout
  | true =>
    simp only [if_pos trivial]
    by_cases h3 : (a3.size : Int) > 400
    · rw [decide_eq_true h3]; exact hout
    · rw [decide_eq_false h3]
      obtain ⟨m1, m2, h0, m3⟩ := n2 rfl
      rw [List.drop_zero] at m1
      have hd0 := drop_cons h0
      rw [List.drop_zero] at hd0
      have z3 := size_len a3
      have z0 := size_len a0
      refine Ev.step (f := fun k => observatorylaw08_LexerWords.l0 k a0 a1 a2 a3 true ((0 : Nat) : Int)) (fun k => ?_) ?_
      · simp only [observatorylaw08_LexerWords.j0]
        rw [if_neg Bool.false_ne_true]
        rfl
      · refine text_loop a0 a3 a1 a2 (by omega) (fun hall => ?_) a3.size 0 (Nat.zero_le _) (by omega) rfl
        obtain ⟨n, hn⟩ : ∃ n : Nat, Int.tmod a1 10000000000000 = (n : Int) := Int.eq_ofNat_of_zero_le (Int.tmod_nonneg _ hu1)
        have hnl : (n : Int) < 10000000000000 := by rw [← hn]; exact Int.tmod_lt_of_pos _ (by decide)
        obtain ⟨j, hj⟩ : ∃ j : Nat, Int.tmod a2 17 = (j : Int) := Int.eq_ofNat_of_zero_le (Int.tmod_nonneg _ hu2.1)
        have hjl : (j : Int) < 17 := by rw [← hj]; exact Int.tmod_lt_of_pos _ (by decide)
        obtain ⟨ds, d1, d2, d3, d4, d5⟩ := dec_ev 12 n (by decide) (by
          have : (10 : Nat) ^ (12 + 1) = 10000000000000 := by decide
          rw [this]; omega)
        have e1 : wrap64 (Int.tmod a1 10000000000000) = (n : Int) := by rw [hn]; exact w64b (by omega) (by omega)
        have e2 : Int.tmod (wrap64 a2) 17 = (j : Int) := by rw [w64s (by omega) (by omega)]; exact hj
        cases ds with
        | nil => exact absurd rfl d2
        | cons d0 dz =>
          rw [List.all_cons, Bool.and_eq_true] at d3
          rw [hd0, List.all_cons, Bool.and_eq_true] at m1
          have hlen : (a0[0] :: a0.data.toList.drop 1).length ≤ 24 := by rw [← hd0]; omega
          exact words_go a0 a3 n j a1 a2 (d0 :: dz) a0[0] d0 (a0.data.toList.drop 1) dz hd0 rfl m3 m1.2 hlen d3.1 d3.2 d4 d5 hall (by omega) (by omega) e1 e2 d1 (a3.size : Int) (by omega)
end Go.Proofs.YtmbpjjdaklpemaaDoor.Pure
