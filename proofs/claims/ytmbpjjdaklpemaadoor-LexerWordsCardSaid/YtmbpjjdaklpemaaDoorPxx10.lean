-- Written by wip/myprint.py (the kit's print, with contracts of my own for some functions).
import Derived.Test.YtmbpjjdaklpemaaDoorPxx0
import Derived.Test.YtmbpjjdaklpemaaDoorPxx1
import Derived.Test.YtmbpjjdaklpemaaDoorPxx2
import Derived.Test.YtmbpjjdaklpemaaDoorLxH
import Derived.Test.YtmbpjjdaklpemaaDoorLxL
namespace Go.Proofs.YtmbpjjdaklpemaaDoor.Px
open Go.RowKit Go.Proofs.YtmbpjjdaklpemaaDoorW.PrintWords Go.Proofs.YtmbpjjdaklpemaaDoorW.PrintLast Go.Proofs.YtmbpjjdaklpemaaDoorW.PrintMore
attribute [local go_sem] max2_int min2_int max_two min_two max_three min_three max_four min_four   -- for this text's walks alone
set_option linter.unusedVariables false
set_option linter.unusedSimpArgs false

attribute [local go_sem high] eqA30
theorem wsz1 {a q t b : Nat} (h : a + q + t + 1 + b + 1 ≤ 9223372036854775807) : wrap64 ((a : Int) + 1) = (a : Int) + 1 ∧ wrap64 ((a : Int) + 1 + (t : Int)) = (a : Int) + 1 + (t : Int) := by
  unfold wrap64
  omega
/-! ### observatoryref08_Name: function 20 -/
def observatoryref08_Name.l0 : Nat → ByteArray → Int → Option (Bool)
  | 0, _, _ => none
  | k + 1, x0, x3 => if x3 < (x0.size : Int) then (if 0 ≤ x3 then ((observatoryref08_word.f (bt x0 x3)).bind fun t256 => (if t256 = true then (observatoryref08_Name.l0 k x0 (wrap64 (x3 + 1))) else (some false))) else (none)) else (if (x0.size : Int) > 0 then (if (x0.size : Int) ≤ 24 then (if 0 < (x0.size : Int) then ((observatoryref08_letter.f (bt x0 0)).bind fun t257 => (some t257)) else (none)) else (some false)) else (some false))
def observatoryref08_Name.f (k : Nat) (a0 : ByteArray) : Option (Bool) := observatoryref08_Name.l0 k a0 0
theorem observatoryref08_Name.mono_l : ∀ k, (∀ y0 y1, LeO (observatoryref08_Name.l0 k y0 y1) (observatoryref08_Name.l0 (k + 1) y0 y1))
  | 0 => fun _ _ r h => by simp [observatoryref08_Name.l0] at h
  | k + 1 => by
    have ih0 := observatoryref08_Name.mono_l k
    · intro y0 y1
      unfold observatoryref08_Name.l0
      repeat' first
      | (with_reducible exact ih0 _ _)
      | (with_reducible exact LeO.refl _)
      | (with_reducible exact LeO.none _)
      | (with_reducible refine LeO.ite ?_ ?_)
      | (with_reducible refine LeO.bind ?_ (fun _ => ?_))
      | exact ih0 _ _
      | exact LeO.none _
      | refine LeO.ite ?_ ?_
      | refine LeO.bind ?_ (fun _ => ?_)
theorem observatoryref08_Name.mono : ∀ a0 k, LeO (observatoryref08_Name.f k a0) (observatoryref08_Name.f (k + 1) a0) := by
  intro a0 k
  have ih0 := observatoryref08_Name.mono_l k
  unfold observatoryref08_Name.f
  repeat' first
      | (with_reducible exact ih0 _ _)
      | (with_reducible exact LeO.refl _)
      | (with_reducible exact LeO.none _)
      | (with_reducible refine LeO.ite ?_ ?_)
      | (with_reducible refine LeO.bind ?_ (fun _ => ?_))
      | exact ih0 _ _
      | exact LeO.none _
      | refine LeO.ite ?_ ?_
      | refine LeO.bind ?_ (fun _ => ?_)
set_option maxHeartbeats 8000000 in
set_option maxRecDepth 100000 in
theorem observatoryref08_Name.calls (k : Nat) (a0 : ByteArray) (r : Bool) (w : World) (h : observatoryref08_Name.f k a0 = some r) :
    Calls Tryd.prog 20 #[.string a0] w fun e w' => e = .returned (.bool r) ∧ Drawn0 w w' := by
  have H : (observatoryref08_Name.l0 k a0 0) = some r := h
  clear h
  have H' := Aside0.mk H
  clear H
  go_enter Tryd.func20, Tryd.ntmps20
  go_wp2
  go_loopg [3] k (fun kq v3 w' => ∃ (x3_1 : Int), v3 = .int .i64 x3_1 ∧ Aside0 (observatoryref08_Name.l0 kq a0 x3_1 = some r) ∧ Aside0 (kq ≤ k) ∧ Drawn0 w w')
  case atStart => exact ⟨(0), (by first | rfl | (simp; done) | (simp [*]; done)), H', ⟨Nat.le_refl _⟩, by repeat (first | exact Drawn0.refl _ | apply Drawn0.step)⟩
  case round =>
    clear H'
    obtain ⟨x3_1, rfl, HA, HK1, ⟨m1, rfl⟩⟩ := hrel
    cases gk with
    | zero => exact absurd HA.out (by simp [observatoryref08_Name.l0])
    | succ k1 =>
      have H := HA.out
      clear HA
      simp only [observatoryref08_Name.l0] at H
      by_cases c2 : x3_1 < (a0.size : Int)
      · rw [if_pos c2] at H
        have c2b0 : decide (x3_1 < (a0.size : Int)) = true := decide_eq_true c2
        clear c2
        by_cases c3 : 0 ≤ x3_1
        · rw [if_pos c3] at H
          have c3b0 : decide (0 ≤ x3_1) = true := decide_eq_true c3
          clear c3
          replace H := Option.bind_eq_some_iff.mp H
          obtain ⟨t256, A50, H⟩ := H
          replace H : (if t256 = true then (observatoryref08_Name.l0 k1 a0 (wrap64 (x3_1 + 1))) else (some false)) = some r := H
          have A5 := Aside0.mk A50
          clear A50
          by_cases c6 : t256 = true
          · subst c6
            have H1 : (observatoryref08_Name.l0 k1 a0 (wrap64 (x3_1 + 1))) = some r := by rw [if_pos rfl] at H; exact H
            clear H
            have H := H1
            clear H1
            have H' := Aside0.mk H
            clear H
            have p4 : 0 ≤ (x3_1 : Int) := of_decide_eq_true (by first | (with_reducible assumption) | assumption)
            have q4 : x3_1 < (a0.size : Int) := of_decide_eq_true (by first | (with_reducible assumption) | assumption)
            have hx4 := bt_at a0 x3_1
            replace p4 := eq_true p4
            replace q4 := eq_true q4
            go_wp2_with (first | ((with_reducible refine gate_callee (f := 27) rfl ?_); refine goesL_ (some 13) rfl rfl Tryd.func27 (by kernel_rfl) rfl #[.int .u8 (bt a0 x3_1)] rfl (by (try simp only [List.map_toArray, List.map_cons, List.map_nil]); first | done | rfl | (simp only [List.length_drop, List.length_take]; rfl)) ?_; (with_reducible refine (observatoryref08_word.calls (bt a0 x3_1) true _ A5.out).mono ?_); rintro e w' ⟨rfl, ⟨nd, rfl⟩⟩; refine ⟨_, rfl, ?_⟩))
            go_roundg k1
            case measure => have := HK1.out; omega
            case rel => exact ⟨(wrap64 (x3_1 + 1)), (by first | rfl | (simp; done) | (simp [*]; done)), H', ⟨by have := HK1.out; omega⟩, by repeat (first | exact Drawn0.refl _ | apply Drawn0.step)⟩
          · replace c6 := Bool.eq_false_iff.mpr c6
            subst c6
            have H1 : (some false) = some r := by rw [if_neg (show ¬ (false = true) by decide)] at H; exact H
            clear H
            have H := H1
            clear H1
            obtain rfl := Option.some.inj H
            have p4 : 0 ≤ (x3_1 : Int) := of_decide_eq_true (by first | (with_reducible assumption) | assumption)
            have q4 : x3_1 < (a0.size : Int) := of_decide_eq_true (by first | (with_reducible assumption) | assumption)
            have hx4 := bt_at a0 x3_1
            replace p4 := eq_true p4
            replace q4 := eq_true q4
            go_wp2_with (first | ((with_reducible refine gate_callee (f := 27) rfl ?_); refine goesL_ (some 13) rfl rfl Tryd.func27 (by kernel_rfl) rfl #[.int .u8 (bt a0 x3_1)] rfl (by (try simp only [List.map_toArray, List.map_cons, List.map_nil]); first | done | rfl | (simp only [List.length_drop, List.length_take]; rfl)) ?_; (with_reducible refine (observatoryref08_word.calls (bt a0 x3_1) false _ A5.out).mono ?_); rintro e w' ⟨rfl, ⟨nd, rfl⟩⟩; refine ⟨_, rfl, ?_⟩))
            go_ret
            exact ⟨by first | rfl | (simp; done) | (simp [*]; done), by repeat (first | exact Drawn0.refl _ | apply Drawn0.step)⟩
        · rw [if_neg c3] at H
          exact absurd H (by simp)
      · rw [if_neg c2] at H
        have c2b0 : decide (x3_1 < (a0.size : Int)) = false := decide_eq_false c2
        clear c2
        by_cases c7 : (a0.size : Int) > 0
        · rw [if_pos c7] at H
          have c7b0 : decide (0 < (a0.size : Int)) = true := decide_eq_true c7
          have c7b1 : decide (0 < a0.size) = true := decide_eq_true (by omega)
          clear c7
          by_cases c8 : (a0.size : Int) ≤ 24
          · rw [if_pos c8] at H
            have c8b0 : decide ((a0.size : Int) ≤ 24) = true := decide_eq_true c8
            have c8b1 : decide (a0.size ≤ 24) = true := decide_eq_true (by omega)
            clear c8
            by_cases c9 : 0 < (a0.size : Int)
            · rw [if_pos c9] at H
              have c9b0 : decide (0 < (a0.size : Int)) = true := decide_eq_true c9
              have c9b1 : decide (0 < a0.size) = true := decide_eq_true (by omega)
              clear c9
              replace H := Option.bind_eq_some_iff.mp H
              obtain ⟨t257, A110, H⟩ := H
              replace H : (some t257) = some r := H
              have A11 := Aside0.mk A110
              clear A110
              obtain rfl := Option.some.inj H
              have p10 : 0 ≤ (0 : Int) := (by omega)
              have q10 : 0 < a0.size := (by have : (0 : Int) < (a0.size : Int) := of_decide_eq_true (by first | (with_reducible assumption) | assumption); omega)
              have hx10 : ∀ h : 0 < a0.size, ((a0[0]'h).toNat : Int) = bt a0 0 := bt_at a0 0
              clear p10
              have qi10 : (0 < (a0.size : Int)) = True := eq_true (of_decide_eq_true (by first | (with_reducible assumption) | assumption))
              replace q10 := eq_true q10
              go_wp2_with (first | (go_at_call 28; (with_reducible refine (observatoryref08_letter.calls (bt a0 0) t257 _ A11.out).mono ?_); rintro e w' ⟨rfl, ⟨nd, rfl⟩⟩))
              go_ret
              exact ⟨by first | rfl | (simp; done) | (simp [*]; done), by repeat (first | exact Drawn0.refl _ | apply Drawn0.step)⟩
            · rw [if_neg c9] at H
              exact absurd H (by simp)
          · rw [if_neg c8] at H
            have c8b0 : decide ((a0.size : Int) ≤ 24) = false := decide_eq_false c8
            have c8b1 : decide (a0.size ≤ 24) = false := decide_eq_false (by omega)
            clear c8
            obtain rfl := Option.some.inj H
            go_wp2
            go_ret
            exact ⟨by first | rfl | (simp; done) | (simp [*]; done), by repeat (first | exact Drawn0.refl _ | apply Drawn0.step)⟩
        · rw [if_neg c7] at H
          have c7b0 : decide (0 < (a0.size : Int)) = false := decide_eq_false c7
          have c7b1 : decide (0 < a0.size) = false := decide_eq_false (by omega)
          clear c7
          obtain rfl := Option.some.inj H
          go_wp2
          go_ret
          exact ⟨by first | rfl | (simp; done) | (simp [*]; done), by repeat (first | exact Drawn0.refl _ | apply Drawn0.step)⟩

/-! ### observatoryref08_Decimal: function 21 -/
def observatoryref08_Decimal.f : Nat → Int → Option (ByteArray)
  | 0, _ => none
  | k + 1, a0 => if a0 < 10 then (if 0 ≤ a0 then (if a0 ≤ (wrap64 (a0 + 1)) then (if (wrap64 (a0 + 1)) ≤ 10 then (some ((⟨#[48, 49, 50, 51, 52, 53, 54, 55, 56, 57]⟩ : ByteArray).extract (a0 : Int).toNat ((wrap64 (a0 + 1)) : Int).toNat)) else (none)) else (none)) else (none)) else ((observatoryref08_Decimal.f k (wrap64 (Int.tdiv a0 10))).bind fun t258 => ((observatoryref08_Decimal.f k (Int.tmod a0 10)).bind fun t259 => (if t258.size + t259.size ≤ 9223372036854775807 then (some (t258 ++ t259)) else (none))))
theorem observatoryref08_Decimal.mono_l : ∀ k, (∀ y0, LeO (observatoryref08_Decimal.f k y0) (observatoryref08_Decimal.f (k + 1) y0))
  | 0 => fun _ r h => by simp [observatoryref08_Decimal.f] at h
  | k + 1 => by
    have ih0 := observatoryref08_Decimal.mono_l k
    · intro y0
      unfold observatoryref08_Decimal.f
      repeat' first
      | (with_reducible exact ih0 _)
      | (with_reducible exact LeO.refl _)
      | (with_reducible exact LeO.none _)
      | (with_reducible refine LeO.ite ?_ ?_)
      | (with_reducible refine LeO.bind ?_ (fun _ => ?_))
      | exact ih0 _
      | exact LeO.none _
      | refine LeO.ite ?_ ?_
      | refine LeO.bind ?_ (fun _ => ?_)
theorem observatoryref08_Decimal.mono : ∀ a0 k, LeO (observatoryref08_Decimal.f k a0) (observatoryref08_Decimal.f (k + 1) a0) := by
  intro a0 k
  have ih0 := observatoryref08_Decimal.mono_l k
  exact ih0 a0
set_option maxHeartbeats 8000000 in
set_option maxRecDepth 100000 in
theorem observatoryref08_Decimal.calls (k : Nat) : ∀ (a0 : Int) (r : ByteArray) (w : World) (h : observatoryref08_Decimal.f k a0 = some r),
    Calls Tryd.prog 21 #[.int .i64 a0] w fun e w' => e = .returned (.string r) ∧ Drawn0 w w' := by
  induction k using Nat.strongRecOn with
  | _ k ih =>
  intro a0 r w h
  cases k with
  | zero => exact absurd h (by simp [observatoryref08_Decimal.f])
  | succ k =>
  simp only [observatoryref08_Decimal.f] at h
  have H : (if a0 < 10 then (if 0 ≤ a0 then (if a0 ≤ (wrap64 (a0 + 1)) then (if (wrap64 (a0 + 1)) ≤ 10 then (some ((⟨#[48, 49, 50, 51, 52, 53, 54, 55, 56, 57]⟩ : ByteArray).extract (a0 : Int).toNat ((wrap64 (a0 + 1)) : Int).toNat)) else (none)) else (none)) else (none)) else ((observatoryref08_Decimal.f k (wrap64 (Int.tdiv a0 10))).bind fun t258 => ((observatoryref08_Decimal.f k (Int.tmod a0 10)).bind fun t259 => (if t258.size + t259.size ≤ 9223372036854775807 then (some (t258 ++ t259)) else (none))))) = some r := h
  clear h
  by_cases c2 : a0 < 10
  · rw [if_pos c2] at H
    have c2b0 : decide (a0 < 10) = true := decide_eq_true c2
    clear c2
    by_cases c3 : 0 ≤ a0
    · rw [if_pos c3] at H
      have c3b0 := eq_true c3
      have c3b1 : decide (0 ≤ a0) = true := decide_eq_true c3
      clear c3
      by_cases c4 : a0 ≤ (wrap64 (a0 + 1))
      · rw [if_pos c4] at H
        have c4b0 := eq_true c4
        have c4b1 : decide (a0 ≤ (wrap64 (a0 + 1))) = true := decide_eq_true c4
        by_cases c5 : (wrap64 (a0 + 1)) ≤ 10
        · rw [if_pos c5] at H
          have c5b0 := eq_true c5
          have c5b1 : decide ((wrap64 (a0 + 1)) ≤ 10) = true := decide_eq_true c5
          obtain rfl := Option.some.inj H
          go_enter Tryd.func21, Tryd.ntmps21
          go_wp2
          go_ret
          exact ⟨by first | rfl | (simp; done) | (simp [*]; done), by repeat (first | exact Drawn0.refl _ | apply Drawn0.step)⟩
        · rw [if_neg c5] at H
          exact absurd H (by simp)
      · rw [if_neg c4] at H
        exact absurd H (by simp)
    · rw [if_neg c3] at H
      exact absurd H (by simp)
  · rw [if_neg c2] at H
    have c2b0 : decide (a0 < 10) = false := decide_eq_false c2
    clear c2
    replace H := Option.bind_eq_some_iff.mp H
    obtain ⟨t258, A60, H⟩ := H
    replace H : ((observatoryref08_Decimal.f k (Int.tmod a0 10)).bind fun t259 => (if t258.size + t259.size ≤ 9223372036854775807 then (some (t258 ++ t259)) else (none))) = some r := H
    have A6 := Aside0.mk A60
    clear A60
    replace H := Option.bind_eq_some_iff.mp H
    obtain ⟨t259, A70, H⟩ := H
    replace H : (if t258.size + t259.size ≤ 9223372036854775807 then (some (t258 ++ t259)) else (none)) = some r := H
    have A7 := Aside0.mk A70
    clear A70
    by_cases c8 : t258.size + t259.size ≤ 9223372036854775807
    · rw [if_pos c8] at H
      have c8b0 := eq_true c8
      have c8b1 : decide (t258.size + t259.size ≤ 9223372036854775807) = true := decide_eq_true c8
      try have c8b2 : (9223372036854775807 < t258.size + t259.size) = False := eq_false (Nat.not_lt.2 c8)
      obtain rfl := Option.some.inj H
      go_enter Tryd.func21, Tryd.ntmps21
      go_wp2_with (first | ((with_reducible refine gate_callee (f := 21) rfl ?_); refine goesL_ (some 11) rfl rfl Tryd.func21 (by kernel_rfl) rfl #[.int .i64 (wrap64 (Int.tdiv a0 10))] rfl (by (try simp only [List.map_toArray, List.map_cons, List.map_nil]); first | done | rfl | (simp only [List.length_drop, List.length_take]; rfl)) ?_; (with_reducible refine (ih k (by omega) (wrap64 (Int.tdiv a0 10)) t258 _ A6.out).mono ?_); rintro e w' ⟨rfl, ⟨nd, rfl⟩⟩; refine ⟨_, rfl, ?_⟩) | ((with_reducible refine gate_callee (f := 21) rfl ?_); refine goesL_ (some 14) rfl rfl Tryd.func21 (by kernel_rfl) rfl #[.int .i64 (Int.tmod a0 10)] rfl (by (try simp only [List.map_toArray, List.map_cons, List.map_nil]); first | done | rfl | (simp only [List.length_drop, List.length_take]; rfl)) ?_; (with_reducible refine (ih k (by omega) (Int.tmod a0 10) t259 _ A7.out).mono ?_); rintro e w' ⟨rfl, ⟨nd, rfl⟩⟩; refine ⟨_, rfl, ?_⟩))
      go_ret
      exact ⟨by first | rfl | (simp; done) | (simp [*]; done), by repeat (first | exact Drawn0.refl _ | apply Drawn0.step)⟩
    · rw [if_neg c8] at H
      exact absurd H (by simp)

/-! ### observatorylaw08_LexerWords: function 10 -/
mutual
def observatorylaw08_LexerWords.j0 : Nat → ByteArray → Int → Int → ByteArray → Bool → Bool → Option (Bool)
  | 0, _, _, _, _, _, _ => none
  | k + 1, x0, x1, x2, x3, x9, x26 => if x26 = true then (some x9) else (observatorylaw08_LexerWords.l0 k x0 x1 x2 x3 x9 0)
def observatorylaw08_LexerWords.l0 : Nat → ByteArray → Int → Int → ByteArray → Bool → Int → Option (Bool)
  | 0, _, _, _, _, _, _ => none
  | k + 1, x0, x1, x2, x3, x9, x10 => if x10 < (x3.size : Int) then (if 0 ≤ x10 then (if (bt x3 x10) = 34 then (some x9) else (if (bt x3 x10) = 10 then (some x9) else (observatorylaw08_LexerWords.l0 k x0 x1 x2 x3 x9 (wrap64 (x10 + 1))))) else (none)) else ((observatoryref08_Decimal.f k (wrap64 (Int.tmod x1 10000000000000))).bind fun t262 => (if 0 ≤ (Int.tmod (wrap64 (x2)) 17) then (if (Int.tmod (wrap64 (x2)) 17) ≤ (wrap64 ((Int.tmod (wrap64 (x2)) 17) + 1)) then (if (wrap64 ((Int.tmod (wrap64 (x2)) 17) + 1)) ≤ 17 then (if x0.size + ((⟨#[61, 59, 60, 62, 40, 41, 123, 125, 91, 93, 44, 46, 58, 43, 45, 42, 47]⟩ : ByteArray).extract ((Int.tmod (wrap64 (x2)) 17) : Int).toNat ((wrap64 ((Int.tmod (wrap64 (x2)) 17) + 1)) : Int).toNat).size ≤ 9223372036854775807 then (if (x0 ++ ((⟨#[61, 59, 60, 62, 40, 41, 123, 125, 91, 93, 44, 46, 58, 43, 45, 42, 47]⟩ : ByteArray).extract ((Int.tmod (wrap64 (x2)) 17) : Int).toNat ((wrap64 ((Int.tmod (wrap64 (x2)) 17) + 1)) : Int).toNat)).size + t262.size ≤ 9223372036854775807 then (if ((x0 ++ ((⟨#[61, 59, 60, 62, 40, 41, 123, 125, 91, 93, 44, 46, 58, 43, 45, 42, 47]⟩ : ByteArray).extract ((Int.tmod (wrap64 (x2)) 17) : Int).toNat ((wrap64 ((Int.tmod (wrap64 (x2)) 17) + 1)) : Int).toNat)) ++ t262).size + 1 ≤ 9223372036854775807 then (if (((x0 ++ ((⟨#[61, 59, 60, 62, 40, 41, 123, 125, 91, 93, 44, 46, 58, 43, 45, 42, 47]⟩ : ByteArray).extract ((Int.tmod (wrap64 (x2)) 17) : Int).toNat ((wrap64 ((Int.tmod (wrap64 (x2)) 17) + 1)) : Int).toNat)) ++ t262) ++ (⟨#[34]⟩ : ByteArray)).size + x3.size ≤ 9223372036854775807 then (if ((((x0 ++ ((⟨#[61, 59, 60, 62, 40, 41, 123, 125, 91, 93, 44, 46, 58, 43, 45, 42, 47]⟩ : ByteArray).extract ((Int.tmod (wrap64 (x2)) 17) : Int).toNat ((wrap64 ((Int.tmod (wrap64 (x2)) 17) + 1)) : Int).toNat)) ++ t262) ++ (⟨#[34]⟩ : ByteArray)) ++ x3).size + 1 ≤ 9223372036854775807 then ((lexer_Lex.f (((((x0 ++ ((⟨#[61, 59, 60, 62, 40, 41, 123, 125, 91, 93, 44, 46, 58, 43, 45, 42, 47]⟩ : ByteArray).extract ((Int.tmod (wrap64 (x2)) 17) : Int).toNat ((wrap64 ((Int.tmod (wrap64 (x2)) 17) + 1)) : Int).toNat)) ++ t262) ++ (⟨#[34]⟩ : ByteArray)) ++ x3) ++ (⟨#[34]⟩ : ByteArray))).bind fun bt263 => (if bt263.2.1 = 0 then (if (bt263.1.length : Int) = 4 then (if 0 < (bt263.1.length : Int) then (if (((rd_T30 bt263.1 0).f0) == 1 && ((((rd_T30 bt263.1 0).f1).toList) == x0.toList && (((rd_T30 bt263.1 0).f2) == 0 && (((rd_T30 bt263.1 0).f3) == 0)))) = true then (if 1 < (bt263.1.length : Int) then (if x9 = true then (if (((rd_T30 bt263.1 1).f0) == 4 && ((((rd_T30 bt263.1 1).f1).toList) == (((⟨#[61, 59, 60, 62, 40, 41, 123, 125, 91, 93, 44, 46, 58, 43, 45, 42, 47]⟩ : ByteArray).extract ((Int.tmod (wrap64 (x2)) 17) : Int).toNat ((wrap64 ((Int.tmod (wrap64 (x2)) 17) + 1)) : Int).toNat).toList) && (((rd_T30 bt263.1 1).f2) == 0 && (((rd_T30 bt263.1 1).f3) == (x0.size : Int))))) = true then (if 2 < (bt263.1.length : Int) then (if (((rd_T30 bt263.1 2).f0) == 2 && ((((rd_T30 bt263.1 2).f1).toList) == t262.toList && (((rd_T30 bt263.1 2).f2) == (wrap64 (Int.tmod x1 10000000000000)) && (((rd_T30 bt263.1 2).f3) == (wrap64 ((x0.size : Int) + 1)))))) = true then (if 3 < (bt263.1.length : Int) then (some (((rd_T30 bt263.1 3).f0) == 3 && ((((rd_T30 bt263.1 3).f1).toList) == x3.toList && (((rd_T30 bt263.1 3).f2) == 0 && (((rd_T30 bt263.1 3).f3) == (wrap64 ((wrap64 ((x0.size : Int) + 1)) + (t262.size : Int)))))))) else (none)) else (some false)) else (none)) else (some false)) else (some false)) else (none)) else (if x9 = true then (some false) else (some false))) else (none)) else (some false)) else (some false))) else (none)) else (none)) else (none)) else (none)) else (none)) else (none)) else (none)) else (none)))
end
def observatorylaw08_LexerWords.f (k : Nat) (a0 : ByteArray) (a1 : Int) (a2 : Int) (a3 : ByteArray) : Option (Bool) := (observatorylaw08_head.f).bind fun t260 => ((observatoryref08_Name.f k a0).bind fun t261 => (if t261 = true then (observatorylaw08_LexerWords.j0 k a0 a1 a2 a3 t260 (decide ((a3.size : Int) > 400))) else (observatorylaw08_LexerWords.j0 k a0 a1 a2 a3 t260 true)))
theorem observatorylaw08_LexerWords.mono_l : ∀ k, (∀ y0 y1 y2 y3 y4 y5, LeO (observatorylaw08_LexerWords.j0 k y0 y1 y2 y3 y4 y5) (observatorylaw08_LexerWords.j0 (k + 1) y0 y1 y2 y3 y4 y5)) ∧ (∀ y0 y1 y2 y3 y4 y5, LeO (observatorylaw08_LexerWords.l0 k y0 y1 y2 y3 y4 y5) (observatorylaw08_LexerWords.l0 (k + 1) y0 y1 y2 y3 y4 y5))
  | 0 => ⟨fun _ _ _ _ _ _ r h => by simp [observatorylaw08_LexerWords.j0] at h, fun _ _ _ _ _ _ r h => by simp [observatorylaw08_LexerWords.l0] at h⟩
  | k + 1 => by
    obtain ⟨ih0, ih1⟩ := observatorylaw08_LexerWords.mono_l k
    refine ⟨?_, ?_⟩
    · intro y0 y1 y2 y3 y4 y5
      unfold observatorylaw08_LexerWords.j0
      repeat' first
      | (with_reducible exact ih0 _ _ _ _ _ _)
      | (with_reducible exact ih1 _ _ _ _ _ _)
      | (with_reducible exact observatoryref08_Decimal.mono _ _)
      | (with_reducible exact observatoryref08_Name.mono _ _)
      | (with_reducible exact LeO.refl _)
      | (with_reducible exact LeO.none _)
      | (with_reducible refine LeO.ite ?_ ?_)
      | (with_reducible refine LeO.bind ?_ (fun _ => ?_))
      | exact ih0 _ _ _ _ _ _
      | exact ih1 _ _ _ _ _ _
      | exact observatoryref08_Decimal.mono _ _
      | exact observatoryref08_Name.mono _ _
      | exact LeO.none _
      | refine LeO.ite ?_ ?_
      | refine LeO.bind ?_ (fun _ => ?_)
    · intro y0 y1 y2 y3 y4 y5
      unfold observatorylaw08_LexerWords.l0
      repeat' first
      | (with_reducible exact ih0 _ _ _ _ _ _)
      | (with_reducible exact ih1 _ _ _ _ _ _)
      | (with_reducible exact observatoryref08_Decimal.mono _ _)
      | (with_reducible exact observatoryref08_Name.mono _ _)
      | (with_reducible exact LeO.refl _)
      | (with_reducible exact LeO.none _)
      | (with_reducible refine LeO.ite ?_ ?_)
      | (with_reducible refine LeO.bind ?_ (fun _ => ?_))
      | exact ih0 _ _ _ _ _ _
      | exact ih1 _ _ _ _ _ _
      | exact observatoryref08_Decimal.mono _ _
      | exact observatoryref08_Name.mono _ _
      | exact LeO.none _
      | refine LeO.ite ?_ ?_
      | refine LeO.bind ?_ (fun _ => ?_)
theorem observatorylaw08_LexerWords.mono : ∀ a0 a1 a2 a3 k, LeO (observatorylaw08_LexerWords.f k a0 a1 a2 a3) (observatorylaw08_LexerWords.f (k + 1) a0 a1 a2 a3) := by
  intro a0 a1 a2 a3 k
  obtain ⟨ih0, ih1⟩ := observatorylaw08_LexerWords.mono_l k
  unfold observatorylaw08_LexerWords.f
  repeat' first
      | (with_reducible exact ih0 _ _ _ _ _ _)
      | (with_reducible exact ih1 _ _ _ _ _ _)
      | (with_reducible exact observatoryref08_Decimal.mono _ _)
      | (with_reducible exact observatoryref08_Name.mono _ _)
      | (with_reducible exact LeO.refl _)
      | (with_reducible exact LeO.none _)
      | (with_reducible refine LeO.ite ?_ ?_)
      | (with_reducible refine LeO.bind ?_ (fun _ => ?_))
      | exact ih0 _ _ _ _ _ _
      | exact ih1 _ _ _ _ _ _
      | exact observatoryref08_Decimal.mono _ _
      | exact observatoryref08_Name.mono _ _
      | exact LeO.none _
      | refine LeO.ite ?_ ?_
      | refine LeO.bind ?_ (fun _ => ?_)
set_option maxHeartbeats 8000000 in
set_option maxRecDepth 100000 in
theorem observatorylaw08_LexerWords.calls (k : Nat) (a0 : ByteArray) (a1 : Int) (a2 : Int) (a3 : ByteArray) (r : Bool) (w : World) (h : observatorylaw08_LexerWords.f k a0 a1 a2 a3 = some r) :
    Calls Tryd.prog 10 #[.string a0, .int .u64 a1, .int .u8 a2, .string a3] w fun e w' => e = .returned (.bool r) ∧ Below w.heap.size w w' := by
  have hu30 := Tryd.underlying30
  have HB := Aside0.mk (Below.refl w.heap.size w)
  have H : ((observatorylaw08_head.f).bind fun t260 => ((observatoryref08_Name.f k a0).bind fun t261 => (if t261 = true then (observatorylaw08_LexerWords.j0 k a0 a1 a2 a3 t260 (decide ((a3.size : Int) > 400))) else (observatorylaw08_LexerWords.j0 k a0 a1 a2 a3 t260 true)))) = some r := h
  clear h
  replace H := Option.bind_eq_some_iff.mp H
  obtain ⟨t260, A50, H⟩ := H
  replace H : ((observatoryref08_Name.f k a0).bind fun t261 => (if t261 = true then (observatorylaw08_LexerWords.j0 k a0 a1 a2 a3 t260 (decide ((a3.size : Int) > 400))) else (observatorylaw08_LexerWords.j0 k a0 a1 a2 a3 t260 true))) = some r := H
  have A5 := Aside0.mk A50
  clear A50
  have HC6 := Aside0.mk H
  clear H
  go_enter Tryd.func10, Tryd.ntmps10
  go_upto_region 2 with (first | ((with_reducible refine gate_callee (f := 11) rfl ?_); refine goesL_ (some 18) rfl rfl Tryd.func11 (by kernel_rfl) rfl #[] rfl (by (try simp only [List.map_toArray, List.map_cons, List.map_nil]); first | done | rfl | (simp only [List.length_drop, List.length_take]; rfl)) ?_; (with_reducible refine (observatorylaw08_head.calls  t260 _ A5.out).mono ?_); rintro e w7 ⟨rfl, hb⟩; refine ⟨_, rfl, ?_⟩; have n0_ := Aside0.mk (below_step (by repeat (first | (with_reducible first | exact HB.out | apply below_alloc | apply pw_below_drewN | apply below_drew1) | exact HB.out)) hb); clear HB; have HB := n0_; clear n0_; (try clear hb); (try clear hb2); (try clear hk); (try clear hi)))
  (try simp only [Act.put, List.setIfInBounds_toArray, List.set_cons_zero, List.set_cons_succ])
  go_cut [26] (fun v26 wc => ∃ (kq : Nat) (x26_5 : Bool), v26 = .bool x26_5 ∧ Aside0 (observatorylaw08_LexerWords.j0 kq a0 a1 a2 a3 t260 x26_5 = some r) ∧ Aside0 (kq ≤ k) ∧ Aside0 (Below w.heap.size w wc))
  case first =>
    have H := HC6.out
    clear HC6
    replace H := Option.bind_eq_some_iff.mp H
    obtain ⟨t261, A80, H⟩ := H
    replace H : (if t261 = true then (observatorylaw08_LexerWords.j0 k a0 a1 a2 a3 t260 (decide ((a3.size : Int) > 400))) else (observatorylaw08_LexerWords.j0 k a0 a1 a2 a3 t260 true)) = some r := H
    have A8 := Aside0.mk A80
    clear A80
    by_cases c9 : t261 = true
    · subst c9
      have H1 : (observatorylaw08_LexerWords.j0 k a0 a1 a2 a3 t260 (decide ((a3.size : Int) > 400))) = some r := by rw [if_pos rfl] at H; exact H
      clear H
      have H := H1
      clear H1
      have H' := Aside0.mk H
      clear H
      go_wp2_with (first | ((with_reducible refine gate_callee (f := 20) rfl ?_); refine goesL_ (some 20) rfl rfl Tryd.func20 (by kernel_rfl) rfl #[.string a0] rfl (by (try simp only [List.map_toArray, List.map_cons, List.map_nil]); first | done | rfl | (simp only [List.length_drop, List.length_take]; rfl)) ?_; (with_reducible refine (observatoryref08_Name.calls k a0 true _ A8.out).mono ?_); rintro e w' ⟨rfl, ⟨nd, rfl⟩⟩; refine ⟨_, rfl, ?_⟩))
      go_meet
      case rel => exact ⟨_, (decide ((a3.size : Int) > 400)), (by first | rfl | (simp; done) | (simp [*]; done)), H', ⟨by first | omega | exact Nat.le_refl _⟩, ⟨by repeat (first | (with_reducible first | exact HB.out | apply below_alloc | apply pw_below_drewN | apply below_drew1) | exact HB.out)⟩⟩
    · replace c9 := Bool.eq_false_iff.mpr c9
      subst c9
      have H1 : (observatorylaw08_LexerWords.j0 k a0 a1 a2 a3 t260 true) = some r := by rw [if_neg (show ¬ (false = true) by decide)] at H; exact H
      clear H
      have H := H1
      clear H1
      have H' := Aside0.mk H
      clear H
      go_wp2_with (first | ((with_reducible refine gate_callee (f := 20) rfl ?_); refine goesL_ (some 20) rfl rfl Tryd.func20 (by kernel_rfl) rfl #[.string a0] rfl (by (try simp only [List.map_toArray, List.map_cons, List.map_nil]); first | done | rfl | (simp only [List.length_drop, List.length_take]; rfl)) ?_; (with_reducible refine (observatoryref08_Name.calls k a0 false _ A8.out).mono ?_); rintro e w' ⟨rfl, ⟨nd, rfl⟩⟩; refine ⟨_, rfl, ?_⟩))
      go_meet
      case rel => exact ⟨_, (true), (by first | rfl | (simp; done) | (simp [*]; done)), H', ⟨by first | omega | exact Nat.le_refl _⟩, ⟨by repeat (first | (with_reducible first | exact HB.out | apply below_alloc | apply pw_below_drewN | apply below_drew1) | exact HB.out)⟩⟩
  case rest =>
    clear HC6
    try clear c1
    try clear c2
    try clear p2
    try clear c9
    obtain ⟨kq, x26_5, rfl, HA, HJ5, HB⟩ := hcut
    cases kq with
    | zero => exact absurd HA.out (by simp [observatorylaw08_LexerWords.j0])
    | succ kj5 =>
      have H := HA.out
      clear HA
      simp only [observatorylaw08_LexerWords.j0] at H
      by_cases c10 : x26_5 = true
      · subst c10
        have H1 : (some t260) = some r := by rw [if_pos rfl] at H; exact H
        clear H
        have H := H1
        clear H1
        obtain rfl := Option.some.inj H
        go_wp2
        go_ret
        exact ⟨by first | rfl | (simp [errW_none, errW_some] <;> rfl) | (simp [*, errW_none, errW_some] <;> rfl), by repeat (first | (with_reducible first | exact HB.out | apply below_alloc | apply pw_below_drewN | apply below_drew1) | exact HB.out)⟩
      · replace c10 := Bool.eq_false_iff.mpr c10
        subst c10
        have H1 : (observatorylaw08_LexerWords.l0 kj5 a0 a1 a2 a3 t260 0) = some r := by rw [if_neg (show ¬ (false = true) by decide)] at H; exact H
        clear H
        have H := H1
        clear H1
        have H' := Aside0.mk H
        clear H
        go_wp2
        go_loopg [10] kj5 (fun kq v10 w' => ∃ (x10_2 : Int), v10 = .int .i64 x10_2 ∧ Aside0 (observatorylaw08_LexerWords.l0 kq a0 a1 a2 a3 t260 x10_2 = some r) ∧ Aside0 (kq ≤ kj5) ∧ Aside0 (Below w.heap.size w w'))
        case atStart => exact ⟨(0), (by first | rfl | (simp; done) | (simp [*]; done)), H', ⟨Nat.le_refl _⟩, ⟨by repeat (first | (with_reducible first | exact HB.out | apply below_alloc | apply pw_below_drewN | apply below_drew1) | exact HB.out)⟩⟩
        case round =>
          clear H'
          try clear c1
          try clear c2
          try clear p2
          try clear c9
          try clear c10
          try clear p2
          obtain ⟨x10_2, rfl, HA, HK2, HB⟩ := hrel
          cases gk with
          | zero => exact absurd HA.out (by simp [observatorylaw08_LexerWords.l0])
          | succ k2 =>
            have H := HA.out
            clear HA
            simp only [observatorylaw08_LexerWords.l0] at H
            by_cases c11 : x10_2 < (a3.size : Int)
            · rw [if_pos c11] at H
              have c11b0 : decide (x10_2 < (a3.size : Int)) = true := decide_eq_true c11
              clear c11
              by_cases c12 : 0 ≤ x10_2
              · rw [if_pos c12] at H
                have c12b0 : decide (0 ≤ x10_2) = true := decide_eq_true c12
                clear c12
                by_cases c14 : (bt a3 x10_2) = 34
                · rw [if_pos c14] at H
                  have c14b0 : ((bt a3 x10_2) == 34) = true := beq_iff_eq.mpr c14
                  have c14b1 : ((bt a3 x10_2) != 34) = false := bne_eq_false_iff_eq.mpr c14
                  clear c14
                  obtain rfl := Option.some.inj H
                  have p13 : 0 ≤ (x10_2 : Int) := of_decide_eq_true (by first | (with_reducible assumption) | assumption)
                  have q13 : x10_2 < (a3.size : Int) := of_decide_eq_true (by first | (with_reducible assumption) | assumption)
                  have hx13 := bt_at a3 x10_2
                  replace p13 := eq_true p13
                  replace q13 := eq_true q13
                  go_wp2
                  go_ret
                  exact ⟨by first | rfl | (simp [errW_none, errW_some] <;> rfl) | (simp [*, errW_none, errW_some] <;> rfl), by repeat (first | (with_reducible first | exact HB.out | apply below_alloc | apply pw_below_drewN | apply below_drew1) | exact HB.out)⟩
                · rw [if_neg c14] at H
                  have c14b0 : ((bt a3 x10_2) == 34) = false := beq_eq_false_iff_ne.mpr c14
                  have c14b1 : ((bt a3 x10_2) != 34) = true := bne_iff_ne.mpr c14
                  by_cases c16 : (bt a3 x10_2) = 10
                  · rw [if_pos c16] at H
                    have c16b0 : ((bt a3 x10_2) == 10) = true := beq_iff_eq.mpr c16
                    have c16b1 : ((bt a3 x10_2) != 10) = false := bne_eq_false_iff_eq.mpr c16
                    clear c16
                    obtain rfl := Option.some.inj H
                    have p13 : 0 ≤ (x10_2 : Int) := of_decide_eq_true (by first | (with_reducible assumption) | assumption)
                    have q13 : x10_2 < (a3.size : Int) := of_decide_eq_true (by first | (with_reducible assumption) | assumption)
                    have hx13 := bt_at a3 x10_2
                    replace p13 := eq_true p13
                    replace q13 := eq_true q13
                    have p15 : 0 ≤ (x10_2 : Int) := of_decide_eq_true (by first | (with_reducible assumption) | assumption)
                    have q15 : x10_2 < (a3.size : Int) := of_decide_eq_true (by first | (with_reducible assumption) | assumption)
                    have hx15 := bt_at a3 x10_2
                    replace p15 := eq_true p15
                    replace q15 := eq_true q15
                    go_wp2
                    go_ret
                    exact ⟨by first | rfl | (simp [errW_none, errW_some] <;> rfl) | (simp [*, errW_none, errW_some] <;> rfl), by repeat (first | (with_reducible first | exact HB.out | apply below_alloc | apply pw_below_drewN | apply below_drew1) | exact HB.out)⟩
                  · rw [if_neg c16] at H
                    have c16b0 : ((bt a3 x10_2) == 10) = false := beq_eq_false_iff_ne.mpr c16
                    have c16b1 : ((bt a3 x10_2) != 10) = true := bne_iff_ne.mpr c16
                    have H' := Aside0.mk H
                    clear H
                    have p13 : 0 ≤ (x10_2 : Int) := of_decide_eq_true (by first | (with_reducible assumption) | assumption)
                    have q13 : x10_2 < (a3.size : Int) := of_decide_eq_true (by first | (with_reducible assumption) | assumption)
                    have hx13 := bt_at a3 x10_2
                    replace p13 := eq_true p13
                    replace q13 := eq_true q13
                    have p15 : 0 ≤ (x10_2 : Int) := of_decide_eq_true (by first | (with_reducible assumption) | assumption)
                    have q15 : x10_2 < (a3.size : Int) := of_decide_eq_true (by first | (with_reducible assumption) | assumption)
                    have hx15 := bt_at a3 x10_2
                    replace p15 := eq_true p15
                    replace q15 := eq_true q15
                    go_wp2
                    go_roundg k2
                    case measure => have := HJ5.out; have := HK2.out; omega
                    case rel => exact ⟨(wrap64 (x10_2 + 1)), (by first | rfl | (simp; done) | (simp [*]; done)), H', ⟨by have := HJ5.out; have := HK2.out; omega⟩, ⟨by repeat (first | (with_reducible first | exact HB.out | apply below_alloc | apply pw_below_drewN | apply below_drew1) | exact HB.out)⟩⟩
              · rw [if_neg c12] at H
                exact absurd H (by simp)
            · rw [if_neg c11] at H
              have c11b0 : decide (x10_2 < (a3.size : Int)) = false := decide_eq_false c11
              clear c11
              replace H := Option.bind_eq_some_iff.mp H
              obtain ⟨t262, A170, H⟩ := H
              replace H : (if 0 ≤ (Int.tmod (wrap64 (a2)) 17) then (if (Int.tmod (wrap64 (a2)) 17) ≤ (wrap64 ((Int.tmod (wrap64 (a2)) 17) + 1)) then (if (wrap64 ((Int.tmod (wrap64 (a2)) 17) + 1)) ≤ 17 then (if a0.size + ((⟨#[61, 59, 60, 62, 40, 41, 123, 125, 91, 93, 44, 46, 58, 43, 45, 42, 47]⟩ : ByteArray).extract ((Int.tmod (wrap64 (a2)) 17) : Int).toNat ((wrap64 ((Int.tmod (wrap64 (a2)) 17) + 1)) : Int).toNat).size ≤ 9223372036854775807 then (if (a0 ++ ((⟨#[61, 59, 60, 62, 40, 41, 123, 125, 91, 93, 44, 46, 58, 43, 45, 42, 47]⟩ : ByteArray).extract ((Int.tmod (wrap64 (a2)) 17) : Int).toNat ((wrap64 ((Int.tmod (wrap64 (a2)) 17) + 1)) : Int).toNat)).size + t262.size ≤ 9223372036854775807 then (if ((a0 ++ ((⟨#[61, 59, 60, 62, 40, 41, 123, 125, 91, 93, 44, 46, 58, 43, 45, 42, 47]⟩ : ByteArray).extract ((Int.tmod (wrap64 (a2)) 17) : Int).toNat ((wrap64 ((Int.tmod (wrap64 (a2)) 17) + 1)) : Int).toNat)) ++ t262).size + 1 ≤ 9223372036854775807 then (if (((a0 ++ ((⟨#[61, 59, 60, 62, 40, 41, 123, 125, 91, 93, 44, 46, 58, 43, 45, 42, 47]⟩ : ByteArray).extract ((Int.tmod (wrap64 (a2)) 17) : Int).toNat ((wrap64 ((Int.tmod (wrap64 (a2)) 17) + 1)) : Int).toNat)) ++ t262) ++ (⟨#[34]⟩ : ByteArray)).size + a3.size ≤ 9223372036854775807 then (if ((((a0 ++ ((⟨#[61, 59, 60, 62, 40, 41, 123, 125, 91, 93, 44, 46, 58, 43, 45, 42, 47]⟩ : ByteArray).extract ((Int.tmod (wrap64 (a2)) 17) : Int).toNat ((wrap64 ((Int.tmod (wrap64 (a2)) 17) + 1)) : Int).toNat)) ++ t262) ++ (⟨#[34]⟩ : ByteArray)) ++ a3).size + 1 ≤ 9223372036854775807 then ((lexer_Lex.f (((((a0 ++ ((⟨#[61, 59, 60, 62, 40, 41, 123, 125, 91, 93, 44, 46, 58, 43, 45, 42, 47]⟩ : ByteArray).extract ((Int.tmod (wrap64 (a2)) 17) : Int).toNat ((wrap64 ((Int.tmod (wrap64 (a2)) 17) + 1)) : Int).toNat)) ++ t262) ++ (⟨#[34]⟩ : ByteArray)) ++ a3) ++ (⟨#[34]⟩ : ByteArray))).bind fun bt263 => (if bt263.2.1 = 0 then (if (bt263.1.length : Int) = 4 then (if 0 < (bt263.1.length : Int) then (if (((rd_T30 bt263.1 0).f0) == 1 && ((((rd_T30 bt263.1 0).f1).toList) == a0.toList && (((rd_T30 bt263.1 0).f2) == 0 && (((rd_T30 bt263.1 0).f3) == 0)))) = true then (if 1 < (bt263.1.length : Int) then (if t260 = true then (if (((rd_T30 bt263.1 1).f0) == 4 && ((((rd_T30 bt263.1 1).f1).toList) == (((⟨#[61, 59, 60, 62, 40, 41, 123, 125, 91, 93, 44, 46, 58, 43, 45, 42, 47]⟩ : ByteArray).extract ((Int.tmod (wrap64 (a2)) 17) : Int).toNat ((wrap64 ((Int.tmod (wrap64 (a2)) 17) + 1)) : Int).toNat).toList) && (((rd_T30 bt263.1 1).f2) == 0 && (((rd_T30 bt263.1 1).f3) == (a0.size : Int))))) = true then (if 2 < (bt263.1.length : Int) then (if (((rd_T30 bt263.1 2).f0) == 2 && ((((rd_T30 bt263.1 2).f1).toList) == t262.toList && (((rd_T30 bt263.1 2).f2) == (wrap64 (Int.tmod a1 10000000000000)) && (((rd_T30 bt263.1 2).f3) == (wrap64 ((a0.size : Int) + 1)))))) = true then (if 3 < (bt263.1.length : Int) then (some (((rd_T30 bt263.1 3).f0) == 3 && ((((rd_T30 bt263.1 3).f1).toList) == a3.toList && (((rd_T30 bt263.1 3).f2) == 0 && (((rd_T30 bt263.1 3).f3) == (wrap64 ((wrap64 ((a0.size : Int) + 1)) + (t262.size : Int)))))))) else (none)) else (some false)) else (none)) else (some false)) else (some false)) else (none)) else (if t260 = true then (some false) else (some false))) else (none)) else (some false)) else (some false))) else (none)) else (none)) else (none)) else (none)) else (none)) else (none)) else (none)) else (none)) = some r := H
              have A17 := Aside0.mk A170
              clear A170
              obtain ⟨ji18, hji18⟩ : ∃ j_ : Int, (Int.tmod (wrap64 (a2)) 17) = j_ := ⟨_, rfl⟩
              replace H : (if 0 ≤ (ji18) then (if (ji18) ≤ (wrap64 ((ji18) + 1)) then (if (wrap64 ((ji18) + 1)) ≤ 17 then (if a0.size + ((⟨#[61, 59, 60, 62, 40, 41, 123, 125, 91, 93, 44, 46, 58, 43, 45, 42, 47]⟩ : ByteArray).extract ((ji18) : Int).toNat ((wrap64 ((ji18) + 1)) : Int).toNat).size ≤ 9223372036854775807 then (if (a0 ++ ((⟨#[61, 59, 60, 62, 40, 41, 123, 125, 91, 93, 44, 46, 58, 43, 45, 42, 47]⟩ : ByteArray).extract ((ji18) : Int).toNat ((wrap64 ((ji18) + 1)) : Int).toNat)).size + t262.size ≤ 9223372036854775807 then (if ((a0 ++ ((⟨#[61, 59, 60, 62, 40, 41, 123, 125, 91, 93, 44, 46, 58, 43, 45, 42, 47]⟩ : ByteArray).extract ((ji18) : Int).toNat ((wrap64 ((ji18) + 1)) : Int).toNat)) ++ t262).size + 1 ≤ 9223372036854775807 then (if (((a0 ++ ((⟨#[61, 59, 60, 62, 40, 41, 123, 125, 91, 93, 44, 46, 58, 43, 45, 42, 47]⟩ : ByteArray).extract ((ji18) : Int).toNat ((wrap64 ((ji18) + 1)) : Int).toNat)) ++ t262) ++ (⟨#[34]⟩ : ByteArray)).size + a3.size ≤ 9223372036854775807 then (if ((((a0 ++ ((⟨#[61, 59, 60, 62, 40, 41, 123, 125, 91, 93, 44, 46, 58, 43, 45, 42, 47]⟩ : ByteArray).extract ((ji18) : Int).toNat ((wrap64 ((ji18) + 1)) : Int).toNat)) ++ t262) ++ (⟨#[34]⟩ : ByteArray)) ++ a3).size + 1 ≤ 9223372036854775807 then ((lexer_Lex.f (((((a0 ++ ((⟨#[61, 59, 60, 62, 40, 41, 123, 125, 91, 93, 44, 46, 58, 43, 45, 42, 47]⟩ : ByteArray).extract ((ji18) : Int).toNat ((wrap64 ((ji18) + 1)) : Int).toNat)) ++ t262) ++ (⟨#[34]⟩ : ByteArray)) ++ a3) ++ (⟨#[34]⟩ : ByteArray))).bind fun bt263 => (if bt263.2.1 = 0 then (if (bt263.1.length : Int) = 4 then (if 0 < (bt263.1.length : Int) then (if (((rd_T30 bt263.1 0).f0) == 1 && ((((rd_T30 bt263.1 0).f1).toList) == a0.toList && (((rd_T30 bt263.1 0).f2) == 0 && (((rd_T30 bt263.1 0).f3) == 0)))) = true then (if 1 < (bt263.1.length : Int) then (if t260 = true then (if (((rd_T30 bt263.1 1).f0) == 4 && ((((rd_T30 bt263.1 1).f1).toList) == (((⟨#[61, 59, 60, 62, 40, 41, 123, 125, 91, 93, 44, 46, 58, 43, 45, 42, 47]⟩ : ByteArray).extract ((ji18) : Int).toNat ((wrap64 ((ji18) + 1)) : Int).toNat).toList) && (((rd_T30 bt263.1 1).f2) == 0 && (((rd_T30 bt263.1 1).f3) == (a0.size : Int))))) = true then (if 2 < (bt263.1.length : Int) then (if (((rd_T30 bt263.1 2).f0) == 2 && ((((rd_T30 bt263.1 2).f1).toList) == t262.toList && (((rd_T30 bt263.1 2).f2) == (wrap64 (Int.tmod a1 10000000000000)) && (((rd_T30 bt263.1 2).f3) == (wrap64 ((a0.size : Int) + 1)))))) = true then (if 3 < (bt263.1.length : Int) then (some (((rd_T30 bt263.1 3).f0) == 3 && ((((rd_T30 bt263.1 3).f1).toList) == a3.toList && (((rd_T30 bt263.1 3).f2) == 0 && (((rd_T30 bt263.1 3).f3) == (wrap64 ((wrap64 ((a0.size : Int) + 1)) + (t262.size : Int)))))))) else (none)) else (some false)) else (none)) else (some false)) else (some false)) else (none)) else (if t260 = true then (some false) else (some false))) else (none)) else (some false)) else (some false))) else (none)) else (none)) else (none)) else (none)) else (none)) else (none)) else (none)) else (none)) = some r := by first | (rw [hji18] at H; exact H) | (simp only [hji18] at H ⊢; exact H)
              (try rw [hji18] at A17)
              by_cases c19 : 0 ≤ (ji18)
              · rw [if_pos c19] at H
                have c19b0 := eq_true c19
                have c19b1 : decide (0 ≤ (ji18)) = true := decide_eq_true c19
                clear c19
                by_cases c20 : (ji18) ≤ (wrap64 ((ji18) + 1))
                · rw [if_pos c20] at H
                  have c20b0 := eq_true c20
                  have c20b1 : decide ((ji18) ≤ (wrap64 ((ji18) + 1))) = true := decide_eq_true c20
                  by_cases c21 : (wrap64 ((ji18) + 1)) ≤ 17
                  · rw [if_pos c21] at H
                    have c21b0 := eq_true c21
                    have c21b1 : decide ((wrap64 ((ji18) + 1)) ≤ 17) = true := decide_eq_true c21
                    by_cases c22 : a0.size + ((⟨#[61, 59, 60, 62, 40, 41, 123, 125, 91, 93, 44, 46, 58, 43, 45, 42, 47]⟩ : ByteArray).extract ((ji18) : Int).toNat ((wrap64 ((ji18) + 1)) : Int).toNat).size ≤ 9223372036854775807
                    · rw [if_pos c22] at H
                      have c22b0 := eq_true c22
                      have c22b1 : decide (a0.size + ((⟨#[61, 59, 60, 62, 40, 41, 123, 125, 91, 93, 44, 46, 58, 43, 45, 42, 47]⟩ : ByteArray).extract ((ji18) : Int).toNat ((wrap64 ((ji18) + 1)) : Int).toNat).size ≤ 9223372036854775807) = true := decide_eq_true c22
                      try have c22b2 : (9223372036854775807 < a0.size + ((⟨#[61, 59, 60, 62, 40, 41, 123, 125, 91, 93, 44, 46, 58, 43, 45, 42, 47]⟩ : ByteArray).extract ((ji18) : Int).toNat ((wrap64 ((ji18) + 1)) : Int).toNat).size) = False := eq_false (Nat.not_lt.2 c22)
                      by_cases c23 : (a0 ++ ((⟨#[61, 59, 60, 62, 40, 41, 123, 125, 91, 93, 44, 46, 58, 43, 45, 42, 47]⟩ : ByteArray).extract ((ji18) : Int).toNat ((wrap64 ((ji18) + 1)) : Int).toNat)).size + t262.size ≤ 9223372036854775807
                      · rw [if_pos c23] at H
                        have c23b0 := eq_true c23
                        have c23b1 : decide ((a0 ++ ((⟨#[61, 59, 60, 62, 40, 41, 123, 125, 91, 93, 44, 46, 58, 43, 45, 42, 47]⟩ : ByteArray).extract ((ji18) : Int).toNat ((wrap64 ((ji18) + 1)) : Int).toNat)).size + t262.size ≤ 9223372036854775807) = true := decide_eq_true c23
                        try have c23b2 : (9223372036854775807 < (a0 ++ ((⟨#[61, 59, 60, 62, 40, 41, 123, 125, 91, 93, 44, 46, 58, 43, 45, 42, 47]⟩ : ByteArray).extract ((ji18) : Int).toNat ((wrap64 ((ji18) + 1)) : Int).toNat)).size + t262.size) = False := eq_false (Nat.not_lt.2 c23)
                        by_cases c24 : ((a0 ++ ((⟨#[61, 59, 60, 62, 40, 41, 123, 125, 91, 93, 44, 46, 58, 43, 45, 42, 47]⟩ : ByteArray).extract ((ji18) : Int).toNat ((wrap64 ((ji18) + 1)) : Int).toNat)) ++ t262).size + 1 ≤ 9223372036854775807
                        · rw [if_pos c24] at H
                          have c24b0 := eq_true c24
                          have c24b1 : decide (((a0 ++ ((⟨#[61, 59, 60, 62, 40, 41, 123, 125, 91, 93, 44, 46, 58, 43, 45, 42, 47]⟩ : ByteArray).extract ((ji18) : Int).toNat ((wrap64 ((ji18) + 1)) : Int).toNat)) ++ t262).size + 1 ≤ 9223372036854775807) = true := decide_eq_true c24
                          try have c24b2 : (9223372036854775807 < ((a0 ++ ((⟨#[61, 59, 60, 62, 40, 41, 123, 125, 91, 93, 44, 46, 58, 43, 45, 42, 47]⟩ : ByteArray).extract ((ji18) : Int).toNat ((wrap64 ((ji18) + 1)) : Int).toNat)) ++ t262).size + 1) = False := eq_false (Nat.not_lt.2 c24)
                          by_cases c25 : (((a0 ++ ((⟨#[61, 59, 60, 62, 40, 41, 123, 125, 91, 93, 44, 46, 58, 43, 45, 42, 47]⟩ : ByteArray).extract ((ji18) : Int).toNat ((wrap64 ((ji18) + 1)) : Int).toNat)) ++ t262) ++ (⟨#[34]⟩ : ByteArray)).size + a3.size ≤ 9223372036854775807
                          · rw [if_pos c25] at H
                            have c25b0 := eq_true c25
                            have c25b1 : decide ((((a0 ++ ((⟨#[61, 59, 60, 62, 40, 41, 123, 125, 91, 93, 44, 46, 58, 43, 45, 42, 47]⟩ : ByteArray).extract ((ji18) : Int).toNat ((wrap64 ((ji18) + 1)) : Int).toNat)) ++ t262) ++ (⟨#[34]⟩ : ByteArray)).size + a3.size ≤ 9223372036854775807) = true := decide_eq_true c25
                            try have c25b2 : (9223372036854775807 < (((a0 ++ ((⟨#[61, 59, 60, 62, 40, 41, 123, 125, 91, 93, 44, 46, 58, 43, 45, 42, 47]⟩ : ByteArray).extract ((ji18) : Int).toNat ((wrap64 ((ji18) + 1)) : Int).toNat)) ++ t262) ++ (⟨#[34]⟩ : ByteArray)).size + a3.size) = False := eq_false (Nat.not_lt.2 c25)
                            by_cases c26 : ((((a0 ++ ((⟨#[61, 59, 60, 62, 40, 41, 123, 125, 91, 93, 44, 46, 58, 43, 45, 42, 47]⟩ : ByteArray).extract ((ji18) : Int).toNat ((wrap64 ((ji18) + 1)) : Int).toNat)) ++ t262) ++ (⟨#[34]⟩ : ByteArray)) ++ a3).size + 1 ≤ 9223372036854775807
                            · rw [if_pos c26] at H
                              have c26b0 := eq_true c26
                              have c26b1 : decide (((((a0 ++ ((⟨#[61, 59, 60, 62, 40, 41, 123, 125, 91, 93, 44, 46, 58, 43, 45, 42, 47]⟩ : ByteArray).extract ((ji18) : Int).toNat ((wrap64 ((ji18) + 1)) : Int).toNat)) ++ t262) ++ (⟨#[34]⟩ : ByteArray)) ++ a3).size + 1 ≤ 9223372036854775807) = true := decide_eq_true c26
                              try have c26b2 : (9223372036854775807 < ((((a0 ++ ((⟨#[61, 59, 60, 62, 40, 41, 123, 125, 91, 93, 44, 46, 58, 43, 45, 42, 47]⟩ : ByteArray).extract ((ji18) : Int).toNat ((wrap64 ((ji18) + 1)) : Int).toNat)) ++ t262) ++ (⟨#[34]⟩ : ByteArray)) ++ a3).size + 1) = False := eq_false (Nat.not_lt.2 c26)
                              have hw1 : wrap64 ((a0.size : Int) + 1) = (a0.size : Int) + 1 := by
                                have z_ := c26
                                simp only [ByteArray.size_append, ByteArray.size_extract, show (ByteArray.mk #[61, 59, 60, 62, 40, 41, 123, 125, 91, 93, 44, 46, 58, 43, 45, 42, 47]).size = 17 from rfl, show (ByteArray.mk #[34]).size = 1 from rfl] at z_
                                exact (wsz1 z_).1
                              have hw2 : wrap64 ((a0.size : Int) + 1 + (t262.size : Int)) = (a0.size : Int) + 1 + (t262.size : Int) := by
                                have z_ := c26
                                simp only [ByteArray.size_append, ByteArray.size_extract, show (ByteArray.mk #[61, 59, 60, 62, 40, 41, 123, 125, 91, 93, 44, 46, 58, 43, 45, 42, 47]).size = 17 from rfl, show (ByteArray.mk #[34]).size = 1 from rfl] at z_
                                exact (wsz1 z_).2
                              replace H := Option.bind_eq_some_iff.mp H
                              obtain ⟨⟨t263, t264, t265⟩, A270, H⟩ := H
                              replace H : (if t264 = 0 then (if (t263.length : Int) = 4 then (if 0 < (t263.length : Int) then (if (((rd_T30 t263 0).f0) == 1 && ((((rd_T30 t263 0).f1).toList) == a0.toList && (((rd_T30 t263 0).f2) == 0 && (((rd_T30 t263 0).f3) == 0)))) = true then (if 1 < (t263.length : Int) then (if t260 = true then (if (((rd_T30 t263 1).f0) == 4 && ((((rd_T30 t263 1).f1).toList) == (((⟨#[61, 59, 60, 62, 40, 41, 123, 125, 91, 93, 44, 46, 58, 43, 45, 42, 47]⟩ : ByteArray).extract ((ji18) : Int).toNat ((wrap64 ((ji18) + 1)) : Int).toNat).toList) && (((rd_T30 t263 1).f2) == 0 && (((rd_T30 t263 1).f3) == (a0.size : Int))))) = true then (if 2 < (t263.length : Int) then (if (((rd_T30 t263 2).f0) == 2 && ((((rd_T30 t263 2).f1).toList) == t262.toList && (((rd_T30 t263 2).f2) == (wrap64 (Int.tmod a1 10000000000000)) && (((rd_T30 t263 2).f3) == ((a0.size : Int) + 1))))) = true then (if 3 < (t263.length : Int) then (some (((rd_T30 t263 3).f0) == 3 && ((((rd_T30 t263 3).f1).toList) == a3.toList && (((rd_T30 t263 3).f2) == 0 && (((rd_T30 t263 3).f3) == ((a0.size : Int) + 1 + (t262.size : Int))))))) else (none)) else (some false)) else (none)) else (some false)) else (some false)) else (none)) else (if t260 = true then (some false) else (some false))) else (none)) else (some false)) else (some false)) = some r := by simp only [hw1, hw2] at H; exact H
                              clear hw1 hw2
                              have A27 := Aside0.mk A270
                              clear A270
                              by_cases c28 : t264 = 0
                              · rw [if_pos c28] at H
                                have c28b0 : (t264 == 0) = true := beq_iff_eq.mpr c28
                                have c28b1 : (t264 != 0) = false := bne_eq_false_iff_eq.mpr c28
                                clear c28
                                by_cases c29 : (t263.length : Int) = 4
                                · rw [if_pos c29] at H
                                  have c29b0 : ((t263.length : Int) == 4) = true := beq_iff_eq.mpr c29
                                  have c29b1 : ((t263.length : Int) != 4) = false := bne_eq_false_iff_eq.mpr c29
                                  clear c29
                                  by_cases c30 : 0 < (t263.length : Int)
                                  · rw [if_pos c30] at H
                                    have c30b0 : decide (0 < (t263.length : Int)) = true := decide_eq_true c30
                                    have c30b1 : decide (0 < t263.length) = true := decide_eq_true (by omega)
                                    clear c30
                                    by_cases c31 : (((rd_T30 t263 0).f0) == 1 && ((((rd_T30 t263 0).f1).toList) == a0.toList && (((rd_T30 t263 0).f2) == 0 && (((rd_T30 t263 0).f3) == 0)))) = true
                                    · rw [if_pos c31] at H
                                      have c31b0 : (((rd_T30 t263 0).f0) == 1 && ((((rd_T30 t263 0).f1).toList) == a0.toList && (((rd_T30 t263 0).f2) == 0 && (((rd_T30 t263 0).f3) == 0)))) = true := c31
                                      (try (have c31b1 : decide (((rd_T30 t263 0).f0) = 1 && ((((rd_T30 t263 0).f1).toList) == a0.toList && (((rd_T30 t263 0).f2) == 0 && (((rd_T30 t263 0).f3) == 0)))) = true := by simpa using c31))
                                      (try (have c31b2 : (((rd_T30 t263 0).f0) == 1 && ((((rd_T30 t263 0).f1).toList) == a0.toList && (((rd_T30 t263 0).f2) == 0 && (((rd_T30 t263 0).f3) == 0)))) = true := by simpa using c31))
                                      clear c31
                                      by_cases c32 : 1 < (t263.length : Int)
                                      · rw [if_pos c32] at H
                                        have c32b0 : decide (1 < (t263.length : Int)) = true := decide_eq_true c32
                                        have c32b1 : decide (1 < t263.length) = true := decide_eq_true (by omega)
                                        clear c32
                                        by_cases c33 : t260 = true
                                        · subst c33
                                          have H1 : (if (((rd_T30 t263 1).f0) == 4 && ((((rd_T30 t263 1).f1).toList) == (((⟨#[61, 59, 60, 62, 40, 41, 123, 125, 91, 93, 44, 46, 58, 43, 45, 42, 47]⟩ : ByteArray).extract ((ji18) : Int).toNat ((wrap64 ((ji18) + 1)) : Int).toNat).toList) && (((rd_T30 t263 1).f2) == 0 && (((rd_T30 t263 1).f3) == (a0.size : Int))))) = true then (if 2 < (t263.length : Int) then (if (((rd_T30 t263 2).f0) == 2 && ((((rd_T30 t263 2).f1).toList) == t262.toList && (((rd_T30 t263 2).f2) == (wrap64 (Int.tmod a1 10000000000000)) && (((rd_T30 t263 2).f3) == ((a0.size : Int) + 1))))) = true then (if 3 < (t263.length : Int) then (some (((rd_T30 t263 3).f0) == 3 && ((((rd_T30 t263 3).f1).toList) == a3.toList && (((rd_T30 t263 3).f2) == 0 && (((rd_T30 t263 3).f3) == ((a0.size : Int) + 1 + (t262.size : Int))))))) else (none)) else (some false)) else (none)) else (some false)) = some r := by rw [if_pos rfl] at H; exact H
                                          clear H
                                          have H := H1
                                          clear H1
                                          by_cases c34 : (((rd_T30 t263 1).f0) == 4 && ((((rd_T30 t263 1).f1).toList) == (((⟨#[61, 59, 60, 62, 40, 41, 123, 125, 91, 93, 44, 46, 58, 43, 45, 42, 47]⟩ : ByteArray).extract ((ji18) : Int).toNat ((wrap64 ((ji18) + 1)) : Int).toNat).toList) && (((rd_T30 t263 1).f2) == 0 && (((rd_T30 t263 1).f3) == (a0.size : Int))))) = true
                                          · rw [if_pos c34] at H
                                            have c34b0 : (((rd_T30 t263 1).f0) == 4 && ((((rd_T30 t263 1).f1).toList) == (((⟨#[61, 59, 60, 62, 40, 41, 123, 125, 91, 93, 44, 46, 58, 43, 45, 42, 47]⟩ : ByteArray).extract ((ji18) : Int).toNat ((wrap64 ((ji18) + 1)) : Int).toNat).toList) && (((rd_T30 t263 1).f2) == 0 && (((rd_T30 t263 1).f3) == (a0.size : Int))))) = true := c34
                                            (try (have c34b1 : decide (((rd_T30 t263 1).f0) = 4 && ((((rd_T30 t263 1).f1).toList) == (((⟨#[61, 59, 60, 62, 40, 41, 123, 125, 91, 93, 44, 46, 58, 43, 45, 42, 47]⟩ : ByteArray).extract ((ji18) : Int).toNat ((wrap64 ((ji18) + 1)) : Int).toNat).toList) && (((rd_T30 t263 1).f2) == 0 && (((rd_T30 t263 1).f3) == (a0.size : Int))))) = true := by simpa using c34))
                                            (try (have c34b2 : (((rd_T30 t263 1).f0) == 4 && ((((rd_T30 t263 1).f1).toList) == (((⟨#[61, 59, 60, 62, 40, 41, 123, 125, 91, 93, 44, 46, 58, 43, 45, 42, 47]⟩ : ByteArray).extract ((ji18) : Int).toNat ((wrap64 ((ji18) + 1)) : Int).toNat).toList) && (((rd_T30 t263 1).f2) == 0 && (((rd_T30 t263 1).f3) == (a0.size : Int))))) = true := by simpa using c34))
                                            clear c34
                                            by_cases c35 : 2 < (t263.length : Int)
                                            · rw [if_pos c35] at H
                                              have c35b0 : decide (2 < (t263.length : Int)) = true := decide_eq_true c35
                                              have c35b1 : decide (2 < t263.length) = true := decide_eq_true (by omega)
                                              clear c35
                                              by_cases c36 : (((rd_T30 t263 2).f0) == 2 && ((((rd_T30 t263 2).f1).toList) == t262.toList && (((rd_T30 t263 2).f2) == (wrap64 (Int.tmod a1 10000000000000)) && (((rd_T30 t263 2).f3) == ((a0.size : Int) + 1))))) = true
                                              · rw [if_pos c36] at H
                                                have c36b0 : (((rd_T30 t263 2).f0) == 2 && ((((rd_T30 t263 2).f1).toList) == t262.toList && (((rd_T30 t263 2).f2) == (wrap64 (Int.tmod a1 10000000000000)) && (((rd_T30 t263 2).f3) == ((a0.size : Int) + 1))))) = true := c36
                                                (try (have c36b1 : decide (((rd_T30 t263 2).f0) = 2 && ((((rd_T30 t263 2).f1).toList) == t262.toList && (((rd_T30 t263 2).f2) == (wrap64 (Int.tmod a1 10000000000000)) && (((rd_T30 t263 2).f3) == ((a0.size : Int) + 1))))) = true := by simpa using c36))
                                                (try (have c36b2 : (((rd_T30 t263 2).f0) == 2 && ((((rd_T30 t263 2).f1).toList) == t262.toList && (((rd_T30 t263 2).f2) == (wrap64 (Int.tmod a1 10000000000000)) && (((rd_T30 t263 2).f3) == ((a0.size : Int) + 1))))) = true := by simpa using c36))
                                                clear c36
                                                by_cases c37 : 3 < (t263.length : Int)
                                                · rw [if_pos c37] at H
                                                  have c37b0 : decide (3 < (t263.length : Int)) = true := decide_eq_true c37
                                                  have c37b1 : decide (3 < t263.length) = true := decide_eq_true (by omega)
                                                  clear c37
                                                  obtain rfl := Option.some.inj H
                                                  go_wp2_with (first | ((with_reducible refine gate_callee (f := 21) rfl ?_); refine goesL_ (some 49) rfl rfl Tryd.func21 (by kernel_rfl) rfl #[.int .i64 (wrap64 (Int.tmod a1 10000000000000))] rfl (by (try simp only [List.map_toArray, List.map_cons, List.map_nil]); first | done | rfl | (simp only [List.length_drop, List.length_take]; rfl)) ?_; (with_reducible refine (observatoryref08_Decimal.calls k2 (wrap64 (Int.tmod a1 10000000000000)) t262 _ A17.out).mono ?_); rintro e w' ⟨rfl, ⟨nd, rfl⟩⟩; refine ⟨_, rfl, ?_⟩) | ((with_reducible refine gate_callee (f := 12) rfl ?_); refine goesL_ (some 68) rfl rfl Tryd.func12 (by kernel_rfl) rfl #[.string (((((a0 ++ ((⟨#[61, 59, 60, 62, 40, 41, 123, 125, 91, 93, 44, 46, 58, 43, 45, 42, 47]⟩ : ByteArray).extract ((ji18) : Int).toNat ((wrap64 ((ji18) + 1)) : Int).toNat)) ++ t262) ++ (⟨#[34]⟩ : ByteArray)) ++ a3) ++ (⟨#[34]⟩ : ByteArray))] rfl (by (try simp only [List.map_toArray, List.map_cons, List.map_nil]); first | done | (simp only [hji18]; rfl) | rfl | (simp only [List.length_drop, List.length_take]; rfl)) ?_; (with_reducible refine (lexer_Lex.calls (((((a0 ++ ((⟨#[61, 59, 60, 62, 40, 41, 123, 125, 91, 93, 44, 46, 58, 43, 45, 42, 47]⟩ : ByteArray).extract ((ji18) : Int).toNat ((wrap64 ((ji18) + 1)) : Int).toNat)) ++ t262) ++ (⟨#[34]⟩ : ByteArray)) ++ a3) ++ (⟨#[34]⟩ : ByteArray)) t263 t264 t265 _ A27.out).mono ?_); rintro e w38 ⟨v266, rfl, ho0, hb⟩; refine ⟨_, rfl, ?_⟩; have n0_ := Aside0.mk (Kd.R_lower ho0 (below_size (by repeat (first | (with_reducible first | exact HB.out | apply below_alloc | apply pw_below_drewN | apply below_drew1) | exact HB.out)))); have n1_ := Aside0.mk (below_step (by repeat (first | (with_reducible first | exact HB.out | apply below_alloc | apply pw_below_drewN | apply below_drew1) | exact HB.out)) hb); clear HB; have HO267 := n0_; have HB := n1_; clear n0_ n1_; (try clear hb); (try clear hb2); (try clear hk); (try clear hi); (try clear ho0); obtain ⟨Ao39, co39, eo39⟩ := Kd.R_slice HO267.out; subst eo39; have p268 : 0 ≤ (0 : Int) := (by omega); have q268 : 0 < (t263.length : Int) := of_decide_eq_true (by first | (with_reducible assumption) | assumption); obtain ⟨ad268, e268, hx268_0, hx268_1, hx268_2, hx268_3⟩ := at_T30 (Kd.R_reads' HO267.out).2.2 0 p268 q268; cases e268; have qi268 : (0 < t263.length) = True := eq_true (by omega); (try rw [show ((0 : Int)).toNat = 0 from rfl] at hx268_0); (try rw [show 0 * 4 = 0 from rfl] at hx268_0); (try rw [Addr.add_zero'] at hx268_0); (try rw [show ((0 : Int)).toNat = 0 from rfl] at hx268_1); (try rw [show 0 * 4 = 0 from rfl] at hx268_1); (try rw [Addr.add_zero'] at hx268_1); (try rw [show ((0 : Int)).toNat = 0 from rfl] at hx268_2); (try rw [show 0 * 4 = 0 from rfl] at hx268_2); (try rw [Addr.add_zero'] at hx268_2); (try rw [show ((0 : Int)).toNat = 0 from rfl] at hx268_3); (try rw [show 0 * 4 = 0 from rfl] at hx268_3); (try rw [Addr.add_zero'] at hx268_3); replace p268 := eq_true p268; replace q268 := eq_true q268; have p269 : 0 ≤ (1 : Int) := (by omega); have q269 : 1 < (t263.length : Int) := of_decide_eq_true (by first | (with_reducible assumption) | assumption); obtain ⟨ad269, e269, hx269_0, hx269_1, hx269_2, hx269_3⟩ := at_T30 (Kd.R_reads' HO267.out).2.2 1 p269 q269; obtain rfl : ad268 = ad269 := (by injection e269); (try simp only [show (1 : Int).toNat = 1 from rfl, Nat.reduceMul, Nat.reduceEqDiff, Go.Addr.add, ↓reduceIte] at hx269_0); (try simp only [show (1 : Int).toNat = 1 from rfl, Nat.reduceMul, Nat.reduceEqDiff, Go.Addr.add, ↓reduceIte] at hx269_1); (try simp only [show (1 : Int).toNat = 1 from rfl, Nat.reduceMul, Nat.reduceEqDiff, Go.Addr.add, ↓reduceIte] at hx269_2); (try simp only [show (1 : Int).toNat = 1 from rfl, Nat.reduceMul, Nat.reduceEqDiff, Go.Addr.add, ↓reduceIte] at hx269_3); have qi269 : (1 < t263.length) = True := eq_true (by omega); (try rw [show ((1 : Int)).toNat = 1 from rfl] at hx269_0); (try rw [show 1 * 4 = 4 from rfl] at hx269_0); (try rw [show ((1 : Int)).toNat = 1 from rfl] at hx269_1); (try rw [show 1 * 4 = 4 from rfl] at hx269_1); (try rw [show ((1 : Int)).toNat = 1 from rfl] at hx269_2); (try rw [show 1 * 4 = 4 from rfl] at hx269_2); (try rw [show ((1 : Int)).toNat = 1 from rfl] at hx269_3); (try rw [show 1 * 4 = 4 from rfl] at hx269_3); replace p269 := eq_true p269; replace q269 := eq_true q269; have p270 : 0 ≤ (2 : Int) := (by omega); have q270 : 2 < (t263.length : Int) := of_decide_eq_true (by first | (with_reducible assumption) | assumption); obtain ⟨ad270, e270, hx270_0, hx270_1, hx270_2, hx270_3⟩ := at_T30 (Kd.R_reads' HO267.out).2.2 2 p270 q270; obtain rfl : ad268 = ad270 := (by injection e270); (try simp only [show (2 : Int).toNat = 2 from rfl, Nat.reduceMul, Nat.reduceEqDiff, Go.Addr.add, ↓reduceIte] at hx270_0); (try simp only [show (2 : Int).toNat = 2 from rfl, Nat.reduceMul, Nat.reduceEqDiff, Go.Addr.add, ↓reduceIte] at hx270_1); (try simp only [show (2 : Int).toNat = 2 from rfl, Nat.reduceMul, Nat.reduceEqDiff, Go.Addr.add, ↓reduceIte] at hx270_2); (try simp only [show (2 : Int).toNat = 2 from rfl, Nat.reduceMul, Nat.reduceEqDiff, Go.Addr.add, ↓reduceIte] at hx270_3); have qi270 : (2 < t263.length) = True := eq_true (by omega); (try rw [show ((2 : Int)).toNat = 2 from rfl] at hx270_0); (try rw [show 2 * 4 = 8 from rfl] at hx270_0); (try rw [show ((2 : Int)).toNat = 2 from rfl] at hx270_1); (try rw [show 2 * 4 = 8 from rfl] at hx270_1); (try rw [show ((2 : Int)).toNat = 2 from rfl] at hx270_2); (try rw [show 2 * 4 = 8 from rfl] at hx270_2); (try rw [show ((2 : Int)).toNat = 2 from rfl] at hx270_3); (try rw [show 2 * 4 = 8 from rfl] at hx270_3); replace p270 := eq_true p270; replace q270 := eq_true q270; have p271 : 0 ≤ (3 : Int) := (by omega); have q271 : 3 < (t263.length : Int) := of_decide_eq_true (by first | (with_reducible assumption) | assumption); obtain ⟨ad271, e271, hx271_0, hx271_1, hx271_2, hx271_3⟩ := at_T30 (Kd.R_reads' HO267.out).2.2 3 p271 q271; obtain rfl : ad268 = ad271 := (by injection e271); (try simp only [show (3 : Int).toNat = 3 from rfl, Nat.reduceMul, Nat.reduceEqDiff, Go.Addr.add, ↓reduceIte] at hx271_0); (try simp only [show (3 : Int).toNat = 3 from rfl, Nat.reduceMul, Nat.reduceEqDiff, Go.Addr.add, ↓reduceIte] at hx271_1); (try simp only [show (3 : Int).toNat = 3 from rfl, Nat.reduceMul, Nat.reduceEqDiff, Go.Addr.add, ↓reduceIte] at hx271_2); (try simp only [show (3 : Int).toNat = 3 from rfl, Nat.reduceMul, Nat.reduceEqDiff, Go.Addr.add, ↓reduceIte] at hx271_3); have qi271 : (3 < t263.length) = True := eq_true (by omega); (try rw [show ((3 : Int)).toNat = 3 from rfl] at hx271_0); (try rw [show 3 * 4 = 12 from rfl] at hx271_0); (try rw [show ((3 : Int)).toNat = 3 from rfl] at hx271_1); (try rw [show 3 * 4 = 12 from rfl] at hx271_1); (try rw [show ((3 : Int)).toNat = 3 from rfl] at hx271_2); (try rw [show 3 * 4 = 12 from rfl] at hx271_2); (try rw [show ((3 : Int)).toNat = 3 from rfl] at hx271_3); (try rw [show 3 * 4 = 12 from rfl] at hx271_3); replace p271 := eq_true p271; replace q271 := eq_true q271))
                                                  repeat (first | (case isTrue h_ => exfalso; have z_ := c26; simp only [ByteArray.size_append, ByteArray.size_extract, show (ByteArray.mk #[61, 59, 60, 62, 40, 41, 123, 125, 91, 93, 44, 46, 58, 43, 45, 42, 47]).size = 17 from rfl, show (ByteArray.mk #[34]).size = 1 from rfl] at z_; rw [Nat.min_eq_left (Int.toNat_le.2 (of_eq_true c21b0))] at z_; exact Nat.not_lt.2 z_ h_) | (case isTrue h_ => exfalso; have z_ := c25; simp only [ByteArray.size_append, ByteArray.size_extract, show (ByteArray.mk #[61, 59, 60, 62, 40, 41, 123, 125, 91, 93, 44, 46, 58, 43, 45, 42, 47]).size = 17 from rfl, show (ByteArray.mk #[34]).size = 1 from rfl] at z_; rw [Nat.min_eq_left (Int.toNat_le.2 (of_eq_true c21b0))] at z_; exact Nat.not_lt.2 z_ h_) | (case isTrue h_ => exfalso; have z_ := c24; simp only [ByteArray.size_append, ByteArray.size_extract, show (ByteArray.mk #[61, 59, 60, 62, 40, 41, 123, 125, 91, 93, 44, 46, 58, 43, 45, 42, 47]).size = 17 from rfl, show (ByteArray.mk #[34]).size = 1 from rfl] at z_; rw [Nat.min_eq_left (Int.toNat_le.2 (of_eq_true c21b0))] at z_; exact Nat.not_lt.2 z_ h_) | (case isTrue h_ => exfalso; have z_ := c23; simp only [ByteArray.size_append, ByteArray.size_extract, show (ByteArray.mk #[61, 59, 60, 62, 40, 41, 123, 125, 91, 93, 44, 46, 58, 43, 45, 42, 47]).size = 17 from rfl, show (ByteArray.mk #[34]).size = 1 from rfl] at z_; rw [Nat.min_eq_left (Int.toNat_le.2 (of_eq_true c21b0))] at z_; exact Nat.not_lt.2 z_ h_) | (case isTrue h_ => exfalso; have z_ := c22; simp only [ByteArray.size_append, ByteArray.size_extract, show (ByteArray.mk #[61, 59, 60, 62, 40, 41, 123, 125, 91, 93, 44, 46, 58, 43, 45, 42, 47]).size = 17 from rfl, show (ByteArray.mk #[34]).size = 1 from rfl] at z_; rw [Nat.min_eq_left (Int.toNat_le.2 (of_eq_true c21b0))] at z_; exact Nat.not_lt.2 z_ h_))
                                                  go_ret
                                                  exact ⟨by first | rfl | (simp [errW_none, errW_some] <;> rfl) | (simp only [← hji18]; first | rfl | (simp [errW_none, errW_some] <;> rfl)) | (simp [*, errW_none, errW_some] <;> rfl), by repeat (first | (with_reducible first | exact HB.out | apply below_alloc | apply pw_below_drewN | apply below_drew1) | exact HB.out)⟩
                                                · rw [if_neg c37] at H
                                                  exact absurd H (by simp)
                                              · rw [if_neg c36] at H
                                                have c36b0 : (((rd_T30 t263 2).f0) == 2 && ((((rd_T30 t263 2).f1).toList) == t262.toList && (((rd_T30 t263 2).f2) == (wrap64 (Int.tmod a1 10000000000000)) && (((rd_T30 t263 2).f3) == ((a0.size : Int) + 1))))) = false := by simpa using c36
                                                (try (have c36b1 : decide (((rd_T30 t263 2).f0) = 2 && ((((rd_T30 t263 2).f1).toList) == t262.toList && (((rd_T30 t263 2).f2) == (wrap64 (Int.tmod a1 10000000000000)) && (((rd_T30 t263 2).f3) == ((a0.size : Int) + 1))))) = false := by simpa using c36))
                                                (try (have c36b2 : (((rd_T30 t263 2).f0) == 2 && ((((rd_T30 t263 2).f1).toList) == t262.toList && (((rd_T30 t263 2).f2) == (wrap64 (Int.tmod a1 10000000000000)) && (((rd_T30 t263 2).f3) == ((a0.size : Int) + 1))))) = false := by simpa using c36))
                                                (try (have c36b3 : ¬ (((rd_T30 t263 2).f0) = 2 && ((((rd_T30 t263 2).f1).toList) == t262.toList && (((rd_T30 t263 2).f2) == (wrap64 (Int.tmod a1 10000000000000)) && (((rd_T30 t263 2).f3) == ((a0.size : Int) + 1))))) := by simpa using c36))
                                                clear c36
                                                obtain rfl := Option.some.inj H
                                                go_wp2_with (first | ((with_reducible refine gate_callee (f := 21) rfl ?_); refine goesL_ (some 49) rfl rfl Tryd.func21 (by kernel_rfl) rfl #[.int .i64 (wrap64 (Int.tmod a1 10000000000000))] rfl (by (try simp only [List.map_toArray, List.map_cons, List.map_nil]); first | done | rfl | (simp only [List.length_drop, List.length_take]; rfl)) ?_; (with_reducible refine (observatoryref08_Decimal.calls k2 (wrap64 (Int.tmod a1 10000000000000)) t262 _ A17.out).mono ?_); rintro e w' ⟨rfl, ⟨nd, rfl⟩⟩; refine ⟨_, rfl, ?_⟩) | ((with_reducible refine gate_callee (f := 12) rfl ?_); refine goesL_ (some 68) rfl rfl Tryd.func12 (by kernel_rfl) rfl #[.string (((((a0 ++ ((⟨#[61, 59, 60, 62, 40, 41, 123, 125, 91, 93, 44, 46, 58, 43, 45, 42, 47]⟩ : ByteArray).extract ((ji18) : Int).toNat ((wrap64 ((ji18) + 1)) : Int).toNat)) ++ t262) ++ (⟨#[34]⟩ : ByteArray)) ++ a3) ++ (⟨#[34]⟩ : ByteArray))] rfl (by (try simp only [List.map_toArray, List.map_cons, List.map_nil]); first | done | (simp only [hji18]; rfl) | rfl | (simp only [List.length_drop, List.length_take]; rfl)) ?_; (with_reducible refine (lexer_Lex.calls (((((a0 ++ ((⟨#[61, 59, 60, 62, 40, 41, 123, 125, 91, 93, 44, 46, 58, 43, 45, 42, 47]⟩ : ByteArray).extract ((ji18) : Int).toNat ((wrap64 ((ji18) + 1)) : Int).toNat)) ++ t262) ++ (⟨#[34]⟩ : ByteArray)) ++ a3) ++ (⟨#[34]⟩ : ByteArray)) t263 t264 t265 _ A27.out).mono ?_); rintro e w40 ⟨v266, rfl, ho0, hb⟩; refine ⟨_, rfl, ?_⟩; have n0_ := Aside0.mk (Kd.R_lower ho0 (below_size (by repeat (first | (with_reducible first | exact HB.out | apply below_alloc | apply pw_below_drewN | apply below_drew1) | exact HB.out)))); have n1_ := Aside0.mk (below_step (by repeat (first | (with_reducible first | exact HB.out | apply below_alloc | apply pw_below_drewN | apply below_drew1) | exact HB.out)) hb); clear HB; have HO267 := n0_; have HB := n1_; clear n0_ n1_; (try clear hb); (try clear hb2); (try clear hk); (try clear hi); (try clear ho0); obtain ⟨Ao41, co41, eo41⟩ := Kd.R_slice HO267.out; subst eo41; have p268 : 0 ≤ (0 : Int) := (by omega); have q268 : 0 < (t263.length : Int) := of_decide_eq_true (by first | (with_reducible assumption) | assumption); obtain ⟨ad268, e268, hx268_0, hx268_1, hx268_2, hx268_3⟩ := at_T30 (Kd.R_reads' HO267.out).2.2 0 p268 q268; cases e268; have qi268 : (0 < t263.length) = True := eq_true (by omega); (try rw [show ((0 : Int)).toNat = 0 from rfl] at hx268_0); (try rw [show 0 * 4 = 0 from rfl] at hx268_0); (try rw [Addr.add_zero'] at hx268_0); (try rw [show ((0 : Int)).toNat = 0 from rfl] at hx268_1); (try rw [show 0 * 4 = 0 from rfl] at hx268_1); (try rw [Addr.add_zero'] at hx268_1); (try rw [show ((0 : Int)).toNat = 0 from rfl] at hx268_2); (try rw [show 0 * 4 = 0 from rfl] at hx268_2); (try rw [Addr.add_zero'] at hx268_2); (try rw [show ((0 : Int)).toNat = 0 from rfl] at hx268_3); (try rw [show 0 * 4 = 0 from rfl] at hx268_3); (try rw [Addr.add_zero'] at hx268_3); replace p268 := eq_true p268; replace q268 := eq_true q268; have p269 : 0 ≤ (1 : Int) := (by omega); have q269 : 1 < (t263.length : Int) := of_decide_eq_true (by first | (with_reducible assumption) | assumption); obtain ⟨ad269, e269, hx269_0, hx269_1, hx269_2, hx269_3⟩ := at_T30 (Kd.R_reads' HO267.out).2.2 1 p269 q269; obtain rfl : ad268 = ad269 := (by injection e269); (try simp only [show (1 : Int).toNat = 1 from rfl, Nat.reduceMul, Nat.reduceEqDiff, Go.Addr.add, ↓reduceIte] at hx269_0); (try simp only [show (1 : Int).toNat = 1 from rfl, Nat.reduceMul, Nat.reduceEqDiff, Go.Addr.add, ↓reduceIte] at hx269_1); (try simp only [show (1 : Int).toNat = 1 from rfl, Nat.reduceMul, Nat.reduceEqDiff, Go.Addr.add, ↓reduceIte] at hx269_2); (try simp only [show (1 : Int).toNat = 1 from rfl, Nat.reduceMul, Nat.reduceEqDiff, Go.Addr.add, ↓reduceIte] at hx269_3); have qi269 : (1 < t263.length) = True := eq_true (by omega); (try rw [show ((1 : Int)).toNat = 1 from rfl] at hx269_0); (try rw [show 1 * 4 = 4 from rfl] at hx269_0); (try rw [show ((1 : Int)).toNat = 1 from rfl] at hx269_1); (try rw [show 1 * 4 = 4 from rfl] at hx269_1); (try rw [show ((1 : Int)).toNat = 1 from rfl] at hx269_2); (try rw [show 1 * 4 = 4 from rfl] at hx269_2); (try rw [show ((1 : Int)).toNat = 1 from rfl] at hx269_3); (try rw [show 1 * 4 = 4 from rfl] at hx269_3); replace p269 := eq_true p269; replace q269 := eq_true q269; have p270 : 0 ≤ (2 : Int) := (by omega); have q270 : 2 < (t263.length : Int) := of_decide_eq_true (by first | (with_reducible assumption) | assumption); obtain ⟨ad270, e270, hx270_0, hx270_1, hx270_2, hx270_3⟩ := at_T30 (Kd.R_reads' HO267.out).2.2 2 p270 q270; obtain rfl : ad268 = ad270 := (by injection e270); (try simp only [show (2 : Int).toNat = 2 from rfl, Nat.reduceMul, Nat.reduceEqDiff, Go.Addr.add, ↓reduceIte] at hx270_0); (try simp only [show (2 : Int).toNat = 2 from rfl, Nat.reduceMul, Nat.reduceEqDiff, Go.Addr.add, ↓reduceIte] at hx270_1); (try simp only [show (2 : Int).toNat = 2 from rfl, Nat.reduceMul, Nat.reduceEqDiff, Go.Addr.add, ↓reduceIte] at hx270_2); (try simp only [show (2 : Int).toNat = 2 from rfl, Nat.reduceMul, Nat.reduceEqDiff, Go.Addr.add, ↓reduceIte] at hx270_3); have qi270 : (2 < t263.length) = True := eq_true (by omega); (try rw [show ((2 : Int)).toNat = 2 from rfl] at hx270_0); (try rw [show 2 * 4 = 8 from rfl] at hx270_0); (try rw [show ((2 : Int)).toNat = 2 from rfl] at hx270_1); (try rw [show 2 * 4 = 8 from rfl] at hx270_1); (try rw [show ((2 : Int)).toNat = 2 from rfl] at hx270_2); (try rw [show 2 * 4 = 8 from rfl] at hx270_2); (try rw [show ((2 : Int)).toNat = 2 from rfl] at hx270_3); (try rw [show 2 * 4 = 8 from rfl] at hx270_3); replace p270 := eq_true p270; replace q270 := eq_true q270))
                                                repeat (first | (case isTrue h_ => exfalso; have z_ := c26; simp only [ByteArray.size_append, ByteArray.size_extract, show (ByteArray.mk #[61, 59, 60, 62, 40, 41, 123, 125, 91, 93, 44, 46, 58, 43, 45, 42, 47]).size = 17 from rfl, show (ByteArray.mk #[34]).size = 1 from rfl] at z_; rw [Nat.min_eq_left (Int.toNat_le.2 (of_eq_true c21b0))] at z_; exact Nat.not_lt.2 z_ h_) | (case isTrue h_ => exfalso; have z_ := c25; simp only [ByteArray.size_append, ByteArray.size_extract, show (ByteArray.mk #[61, 59, 60, 62, 40, 41, 123, 125, 91, 93, 44, 46, 58, 43, 45, 42, 47]).size = 17 from rfl, show (ByteArray.mk #[34]).size = 1 from rfl] at z_; rw [Nat.min_eq_left (Int.toNat_le.2 (of_eq_true c21b0))] at z_; exact Nat.not_lt.2 z_ h_) | (case isTrue h_ => exfalso; have z_ := c24; simp only [ByteArray.size_append, ByteArray.size_extract, show (ByteArray.mk #[61, 59, 60, 62, 40, 41, 123, 125, 91, 93, 44, 46, 58, 43, 45, 42, 47]).size = 17 from rfl, show (ByteArray.mk #[34]).size = 1 from rfl] at z_; rw [Nat.min_eq_left (Int.toNat_le.2 (of_eq_true c21b0))] at z_; exact Nat.not_lt.2 z_ h_) | (case isTrue h_ => exfalso; have z_ := c23; simp only [ByteArray.size_append, ByteArray.size_extract, show (ByteArray.mk #[61, 59, 60, 62, 40, 41, 123, 125, 91, 93, 44, 46, 58, 43, 45, 42, 47]).size = 17 from rfl, show (ByteArray.mk #[34]).size = 1 from rfl] at z_; rw [Nat.min_eq_left (Int.toNat_le.2 (of_eq_true c21b0))] at z_; exact Nat.not_lt.2 z_ h_) | (case isTrue h_ => exfalso; have z_ := c22; simp only [ByteArray.size_append, ByteArray.size_extract, show (ByteArray.mk #[61, 59, 60, 62, 40, 41, 123, 125, 91, 93, 44, 46, 58, 43, 45, 42, 47]).size = 17 from rfl, show (ByteArray.mk #[34]).size = 1 from rfl] at z_; rw [Nat.min_eq_left (Int.toNat_le.2 (of_eq_true c21b0))] at z_; exact Nat.not_lt.2 z_ h_))
                                                go_ret
                                                exact ⟨by first | rfl | (simp [errW_none, errW_some] <;> rfl) | (simp only [← hji18]; first | rfl | (simp [errW_none, errW_some] <;> rfl)) | (simp [*, errW_none, errW_some] <;> rfl), by repeat (first | (with_reducible first | exact HB.out | apply below_alloc | apply pw_below_drewN | apply below_drew1) | exact HB.out)⟩
                                            · rw [if_neg c35] at H
                                              exact absurd H (by simp)
                                          · rw [if_neg c34] at H
                                            have c34b0 : (((rd_T30 t263 1).f0) == 4 && ((((rd_T30 t263 1).f1).toList) == (((⟨#[61, 59, 60, 62, 40, 41, 123, 125, 91, 93, 44, 46, 58, 43, 45, 42, 47]⟩ : ByteArray).extract ((ji18) : Int).toNat ((wrap64 ((ji18) + 1)) : Int).toNat).toList) && (((rd_T30 t263 1).f2) == 0 && (((rd_T30 t263 1).f3) == (a0.size : Int))))) = false := by simpa using c34
                                            (try (have c34b1 : decide (((rd_T30 t263 1).f0) = 4 && ((((rd_T30 t263 1).f1).toList) == (((⟨#[61, 59, 60, 62, 40, 41, 123, 125, 91, 93, 44, 46, 58, 43, 45, 42, 47]⟩ : ByteArray).extract ((ji18) : Int).toNat ((wrap64 ((ji18) + 1)) : Int).toNat).toList) && (((rd_T30 t263 1).f2) == 0 && (((rd_T30 t263 1).f3) == (a0.size : Int))))) = false := by simpa using c34))
                                            (try (have c34b2 : (((rd_T30 t263 1).f0) == 4 && ((((rd_T30 t263 1).f1).toList) == (((⟨#[61, 59, 60, 62, 40, 41, 123, 125, 91, 93, 44, 46, 58, 43, 45, 42, 47]⟩ : ByteArray).extract ((ji18) : Int).toNat ((wrap64 ((ji18) + 1)) : Int).toNat).toList) && (((rd_T30 t263 1).f2) == 0 && (((rd_T30 t263 1).f3) == (a0.size : Int))))) = false := by simpa using c34))
                                            (try (have c34b3 : ¬ (((rd_T30 t263 1).f0) = 4 && ((((rd_T30 t263 1).f1).toList) == (((⟨#[61, 59, 60, 62, 40, 41, 123, 125, 91, 93, 44, 46, 58, 43, 45, 42, 47]⟩ : ByteArray).extract ((ji18) : Int).toNat ((wrap64 ((ji18) + 1)) : Int).toNat).toList) && (((rd_T30 t263 1).f2) == 0 && (((rd_T30 t263 1).f3) == (a0.size : Int))))) := by simpa using c34))
                                            clear c34
                                            obtain rfl := Option.some.inj H
                                            go_wp2_with (first | ((with_reducible refine gate_callee (f := 21) rfl ?_); refine goesL_ (some 49) rfl rfl Tryd.func21 (by kernel_rfl) rfl #[.int .i64 (wrap64 (Int.tmod a1 10000000000000))] rfl (by (try simp only [List.map_toArray, List.map_cons, List.map_nil]); first | done | rfl | (simp only [List.length_drop, List.length_take]; rfl)) ?_; (with_reducible refine (observatoryref08_Decimal.calls k2 (wrap64 (Int.tmod a1 10000000000000)) t262 _ A17.out).mono ?_); rintro e w' ⟨rfl, ⟨nd, rfl⟩⟩; refine ⟨_, rfl, ?_⟩) | ((with_reducible refine gate_callee (f := 12) rfl ?_); refine goesL_ (some 68) rfl rfl Tryd.func12 (by kernel_rfl) rfl #[.string (((((a0 ++ ((⟨#[61, 59, 60, 62, 40, 41, 123, 125, 91, 93, 44, 46, 58, 43, 45, 42, 47]⟩ : ByteArray).extract ((ji18) : Int).toNat ((wrap64 ((ji18) + 1)) : Int).toNat)) ++ t262) ++ (⟨#[34]⟩ : ByteArray)) ++ a3) ++ (⟨#[34]⟩ : ByteArray))] rfl (by (try simp only [List.map_toArray, List.map_cons, List.map_nil]); first | done | (simp only [hji18]; rfl) | rfl | (simp only [List.length_drop, List.length_take]; rfl)) ?_; (with_reducible refine (lexer_Lex.calls (((((a0 ++ ((⟨#[61, 59, 60, 62, 40, 41, 123, 125, 91, 93, 44, 46, 58, 43, 45, 42, 47]⟩ : ByteArray).extract ((ji18) : Int).toNat ((wrap64 ((ji18) + 1)) : Int).toNat)) ++ t262) ++ (⟨#[34]⟩ : ByteArray)) ++ a3) ++ (⟨#[34]⟩ : ByteArray)) t263 t264 t265 _ A27.out).mono ?_); rintro e w42 ⟨v266, rfl, ho0, hb⟩; refine ⟨_, rfl, ?_⟩; have n0_ := Aside0.mk (Kd.R_lower ho0 (below_size (by repeat (first | (with_reducible first | exact HB.out | apply below_alloc | apply pw_below_drewN | apply below_drew1) | exact HB.out)))); have n1_ := Aside0.mk (below_step (by repeat (first | (with_reducible first | exact HB.out | apply below_alloc | apply pw_below_drewN | apply below_drew1) | exact HB.out)) hb); clear HB; have HO267 := n0_; have HB := n1_; clear n0_ n1_; (try clear hb); (try clear hb2); (try clear hk); (try clear hi); (try clear ho0); obtain ⟨Ao43, co43, eo43⟩ := Kd.R_slice HO267.out; subst eo43; have p268 : 0 ≤ (0 : Int) := (by omega); have q268 : 0 < (t263.length : Int) := of_decide_eq_true (by first | (with_reducible assumption) | assumption); obtain ⟨ad268, e268, hx268_0, hx268_1, hx268_2, hx268_3⟩ := at_T30 (Kd.R_reads' HO267.out).2.2 0 p268 q268; cases e268; have qi268 : (0 < t263.length) = True := eq_true (by omega); (try rw [show ((0 : Int)).toNat = 0 from rfl] at hx268_0); (try rw [show 0 * 4 = 0 from rfl] at hx268_0); (try rw [Addr.add_zero'] at hx268_0); (try rw [show ((0 : Int)).toNat = 0 from rfl] at hx268_1); (try rw [show 0 * 4 = 0 from rfl] at hx268_1); (try rw [Addr.add_zero'] at hx268_1); (try rw [show ((0 : Int)).toNat = 0 from rfl] at hx268_2); (try rw [show 0 * 4 = 0 from rfl] at hx268_2); (try rw [Addr.add_zero'] at hx268_2); (try rw [show ((0 : Int)).toNat = 0 from rfl] at hx268_3); (try rw [show 0 * 4 = 0 from rfl] at hx268_3); (try rw [Addr.add_zero'] at hx268_3); replace p268 := eq_true p268; replace q268 := eq_true q268; have p269 : 0 ≤ (1 : Int) := (by omega); have q269 : 1 < (t263.length : Int) := of_decide_eq_true (by first | (with_reducible assumption) | assumption); obtain ⟨ad269, e269, hx269_0, hx269_1, hx269_2, hx269_3⟩ := at_T30 (Kd.R_reads' HO267.out).2.2 1 p269 q269; obtain rfl : ad268 = ad269 := (by injection e269); (try simp only [show (1 : Int).toNat = 1 from rfl, Nat.reduceMul, Nat.reduceEqDiff, Go.Addr.add, ↓reduceIte] at hx269_0); (try simp only [show (1 : Int).toNat = 1 from rfl, Nat.reduceMul, Nat.reduceEqDiff, Go.Addr.add, ↓reduceIte] at hx269_1); (try simp only [show (1 : Int).toNat = 1 from rfl, Nat.reduceMul, Nat.reduceEqDiff, Go.Addr.add, ↓reduceIte] at hx269_2); (try simp only [show (1 : Int).toNat = 1 from rfl, Nat.reduceMul, Nat.reduceEqDiff, Go.Addr.add, ↓reduceIte] at hx269_3); have qi269 : (1 < t263.length) = True := eq_true (by omega); (try rw [show ((1 : Int)).toNat = 1 from rfl] at hx269_0); (try rw [show 1 * 4 = 4 from rfl] at hx269_0); (try rw [show ((1 : Int)).toNat = 1 from rfl] at hx269_1); (try rw [show 1 * 4 = 4 from rfl] at hx269_1); (try rw [show ((1 : Int)).toNat = 1 from rfl] at hx269_2); (try rw [show 1 * 4 = 4 from rfl] at hx269_2); (try rw [show ((1 : Int)).toNat = 1 from rfl] at hx269_3); (try rw [show 1 * 4 = 4 from rfl] at hx269_3); replace p269 := eq_true p269; replace q269 := eq_true q269))
                                            repeat (first | (case isTrue h_ => exfalso; have z_ := c26; simp only [ByteArray.size_append, ByteArray.size_extract, show (ByteArray.mk #[61, 59, 60, 62, 40, 41, 123, 125, 91, 93, 44, 46, 58, 43, 45, 42, 47]).size = 17 from rfl, show (ByteArray.mk #[34]).size = 1 from rfl] at z_; rw [Nat.min_eq_left (Int.toNat_le.2 (of_eq_true c21b0))] at z_; exact Nat.not_lt.2 z_ h_) | (case isTrue h_ => exfalso; have z_ := c25; simp only [ByteArray.size_append, ByteArray.size_extract, show (ByteArray.mk #[61, 59, 60, 62, 40, 41, 123, 125, 91, 93, 44, 46, 58, 43, 45, 42, 47]).size = 17 from rfl, show (ByteArray.mk #[34]).size = 1 from rfl] at z_; rw [Nat.min_eq_left (Int.toNat_le.2 (of_eq_true c21b0))] at z_; exact Nat.not_lt.2 z_ h_) | (case isTrue h_ => exfalso; have z_ := c24; simp only [ByteArray.size_append, ByteArray.size_extract, show (ByteArray.mk #[61, 59, 60, 62, 40, 41, 123, 125, 91, 93, 44, 46, 58, 43, 45, 42, 47]).size = 17 from rfl, show (ByteArray.mk #[34]).size = 1 from rfl] at z_; rw [Nat.min_eq_left (Int.toNat_le.2 (of_eq_true c21b0))] at z_; exact Nat.not_lt.2 z_ h_) | (case isTrue h_ => exfalso; have z_ := c23; simp only [ByteArray.size_append, ByteArray.size_extract, show (ByteArray.mk #[61, 59, 60, 62, 40, 41, 123, 125, 91, 93, 44, 46, 58, 43, 45, 42, 47]).size = 17 from rfl, show (ByteArray.mk #[34]).size = 1 from rfl] at z_; rw [Nat.min_eq_left (Int.toNat_le.2 (of_eq_true c21b0))] at z_; exact Nat.not_lt.2 z_ h_) | (case isTrue h_ => exfalso; have z_ := c22; simp only [ByteArray.size_append, ByteArray.size_extract, show (ByteArray.mk #[61, 59, 60, 62, 40, 41, 123, 125, 91, 93, 44, 46, 58, 43, 45, 42, 47]).size = 17 from rfl, show (ByteArray.mk #[34]).size = 1 from rfl] at z_; rw [Nat.min_eq_left (Int.toNat_le.2 (of_eq_true c21b0))] at z_; exact Nat.not_lt.2 z_ h_))
                                            go_ret
                                            exact ⟨by first | rfl | (simp [errW_none, errW_some] <;> rfl) | (simp only [← hji18]; first | rfl | (simp [errW_none, errW_some] <;> rfl)) | (simp [*, errW_none, errW_some] <;> rfl), by repeat (first | (with_reducible first | exact HB.out | apply below_alloc | apply pw_below_drewN | apply below_drew1) | exact HB.out)⟩
                                        · replace c33 := Bool.eq_false_iff.mpr c33
                                          subst c33
                                          have H1 : (some false) = some r := by rw [if_neg (show ¬ (false = true) by decide)] at H; exact H
                                          clear H
                                          have H := H1
                                          clear H1
                                          obtain rfl := Option.some.inj H
                                          go_wp2_with (first | ((with_reducible refine gate_callee (f := 21) rfl ?_); refine goesL_ (some 49) rfl rfl Tryd.func21 (by kernel_rfl) rfl #[.int .i64 (wrap64 (Int.tmod a1 10000000000000))] rfl (by (try simp only [List.map_toArray, List.map_cons, List.map_nil]); first | done | rfl | (simp only [List.length_drop, List.length_take]; rfl)) ?_; (with_reducible refine (observatoryref08_Decimal.calls k2 (wrap64 (Int.tmod a1 10000000000000)) t262 _ A17.out).mono ?_); rintro e w' ⟨rfl, ⟨nd, rfl⟩⟩; refine ⟨_, rfl, ?_⟩) | ((with_reducible refine gate_callee (f := 12) rfl ?_); refine goesL_ (some 68) rfl rfl Tryd.func12 (by kernel_rfl) rfl #[.string (((((a0 ++ ((⟨#[61, 59, 60, 62, 40, 41, 123, 125, 91, 93, 44, 46, 58, 43, 45, 42, 47]⟩ : ByteArray).extract ((ji18) : Int).toNat ((wrap64 ((ji18) + 1)) : Int).toNat)) ++ t262) ++ (⟨#[34]⟩ : ByteArray)) ++ a3) ++ (⟨#[34]⟩ : ByteArray))] rfl (by (try simp only [List.map_toArray, List.map_cons, List.map_nil]); first | done | (simp only [hji18]; rfl) | rfl | (simp only [List.length_drop, List.length_take]; rfl)) ?_; (with_reducible refine (lexer_Lex.calls (((((a0 ++ ((⟨#[61, 59, 60, 62, 40, 41, 123, 125, 91, 93, 44, 46, 58, 43, 45, 42, 47]⟩ : ByteArray).extract ((ji18) : Int).toNat ((wrap64 ((ji18) + 1)) : Int).toNat)) ++ t262) ++ (⟨#[34]⟩ : ByteArray)) ++ a3) ++ (⟨#[34]⟩ : ByteArray)) t263 t264 t265 _ A27.out).mono ?_); rintro e w44 ⟨v266, rfl, ho0, hb⟩; refine ⟨_, rfl, ?_⟩; have n0_ := Aside0.mk (Kd.R_lower ho0 (below_size (by repeat (first | (with_reducible first | exact HB.out | apply below_alloc | apply pw_below_drewN | apply below_drew1) | exact HB.out)))); have n1_ := Aside0.mk (below_step (by repeat (first | (with_reducible first | exact HB.out | apply below_alloc | apply pw_below_drewN | apply below_drew1) | exact HB.out)) hb); clear HB; have HO267 := n0_; have HB := n1_; clear n0_ n1_; (try clear hb); (try clear hb2); (try clear hk); (try clear hi); (try clear ho0); obtain ⟨Ao45, co45, eo45⟩ := Kd.R_slice HO267.out; subst eo45; have p268 : 0 ≤ (0 : Int) := (by omega); have q268 : 0 < (t263.length : Int) := of_decide_eq_true (by first | (with_reducible assumption) | assumption); obtain ⟨ad268, e268, hx268_0, hx268_1, hx268_2, hx268_3⟩ := at_T30 (Kd.R_reads' HO267.out).2.2 0 p268 q268; cases e268; have qi268 : (0 < t263.length) = True := eq_true (by omega); (try rw [show ((0 : Int)).toNat = 0 from rfl] at hx268_0); (try rw [show 0 * 4 = 0 from rfl] at hx268_0); (try rw [Addr.add_zero'] at hx268_0); (try rw [show ((0 : Int)).toNat = 0 from rfl] at hx268_1); (try rw [show 0 * 4 = 0 from rfl] at hx268_1); (try rw [Addr.add_zero'] at hx268_1); (try rw [show ((0 : Int)).toNat = 0 from rfl] at hx268_2); (try rw [show 0 * 4 = 0 from rfl] at hx268_2); (try rw [Addr.add_zero'] at hx268_2); (try rw [show ((0 : Int)).toNat = 0 from rfl] at hx268_3); (try rw [show 0 * 4 = 0 from rfl] at hx268_3); (try rw [Addr.add_zero'] at hx268_3); replace p268 := eq_true p268; replace q268 := eq_true q268; have p269 : 0 ≤ (1 : Int) := (by omega); have q269 : 1 < (t263.length : Int) := of_decide_eq_true (by first | (with_reducible assumption) | assumption); obtain ⟨ad269, e269, hx269_0, hx269_1, hx269_2, hx269_3⟩ := at_T30 (Kd.R_reads' HO267.out).2.2 1 p269 q269; obtain rfl : ad268 = ad269 := (by injection e269); (try simp only [show (1 : Int).toNat = 1 from rfl, Nat.reduceMul, Nat.reduceEqDiff, Go.Addr.add, ↓reduceIte] at hx269_0); (try simp only [show (1 : Int).toNat = 1 from rfl, Nat.reduceMul, Nat.reduceEqDiff, Go.Addr.add, ↓reduceIte] at hx269_1); (try simp only [show (1 : Int).toNat = 1 from rfl, Nat.reduceMul, Nat.reduceEqDiff, Go.Addr.add, ↓reduceIte] at hx269_2); (try simp only [show (1 : Int).toNat = 1 from rfl, Nat.reduceMul, Nat.reduceEqDiff, Go.Addr.add, ↓reduceIte] at hx269_3); have qi269 : (1 < t263.length) = True := eq_true (by omega); (try rw [show ((1 : Int)).toNat = 1 from rfl] at hx269_0); (try rw [show 1 * 4 = 4 from rfl] at hx269_0); (try rw [show ((1 : Int)).toNat = 1 from rfl] at hx269_1); (try rw [show 1 * 4 = 4 from rfl] at hx269_1); (try rw [show ((1 : Int)).toNat = 1 from rfl] at hx269_2); (try rw [show 1 * 4 = 4 from rfl] at hx269_2); (try rw [show ((1 : Int)).toNat = 1 from rfl] at hx269_3); (try rw [show 1 * 4 = 4 from rfl] at hx269_3); replace p269 := eq_true p269; replace q269 := eq_true q269))
                                          repeat (first | (case isTrue h_ => exfalso; have z_ := c26; simp only [ByteArray.size_append, ByteArray.size_extract, show (ByteArray.mk #[61, 59, 60, 62, 40, 41, 123, 125, 91, 93, 44, 46, 58, 43, 45, 42, 47]).size = 17 from rfl, show (ByteArray.mk #[34]).size = 1 from rfl] at z_; rw [Nat.min_eq_left (Int.toNat_le.2 (of_eq_true c21b0))] at z_; exact Nat.not_lt.2 z_ h_) | (case isTrue h_ => exfalso; have z_ := c25; simp only [ByteArray.size_append, ByteArray.size_extract, show (ByteArray.mk #[61, 59, 60, 62, 40, 41, 123, 125, 91, 93, 44, 46, 58, 43, 45, 42, 47]).size = 17 from rfl, show (ByteArray.mk #[34]).size = 1 from rfl] at z_; rw [Nat.min_eq_left (Int.toNat_le.2 (of_eq_true c21b0))] at z_; exact Nat.not_lt.2 z_ h_) | (case isTrue h_ => exfalso; have z_ := c24; simp only [ByteArray.size_append, ByteArray.size_extract, show (ByteArray.mk #[61, 59, 60, 62, 40, 41, 123, 125, 91, 93, 44, 46, 58, 43, 45, 42, 47]).size = 17 from rfl, show (ByteArray.mk #[34]).size = 1 from rfl] at z_; rw [Nat.min_eq_left (Int.toNat_le.2 (of_eq_true c21b0))] at z_; exact Nat.not_lt.2 z_ h_) | (case isTrue h_ => exfalso; have z_ := c23; simp only [ByteArray.size_append, ByteArray.size_extract, show (ByteArray.mk #[61, 59, 60, 62, 40, 41, 123, 125, 91, 93, 44, 46, 58, 43, 45, 42, 47]).size = 17 from rfl, show (ByteArray.mk #[34]).size = 1 from rfl] at z_; rw [Nat.min_eq_left (Int.toNat_le.2 (of_eq_true c21b0))] at z_; exact Nat.not_lt.2 z_ h_) | (case isTrue h_ => exfalso; have z_ := c22; simp only [ByteArray.size_append, ByteArray.size_extract, show (ByteArray.mk #[61, 59, 60, 62, 40, 41, 123, 125, 91, 93, 44, 46, 58, 43, 45, 42, 47]).size = 17 from rfl, show (ByteArray.mk #[34]).size = 1 from rfl] at z_; rw [Nat.min_eq_left (Int.toNat_le.2 (of_eq_true c21b0))] at z_; exact Nat.not_lt.2 z_ h_))
                                          go_ret
                                          exact ⟨by first | rfl | (simp [errW_none, errW_some] <;> rfl) | (simp only [← hji18]; first | rfl | (simp [errW_none, errW_some] <;> rfl)) | (simp [*, errW_none, errW_some] <;> rfl), by repeat (first | (with_reducible first | exact HB.out | apply below_alloc | apply pw_below_drewN | apply below_drew1) | exact HB.out)⟩
                                      · rw [if_neg c32] at H
                                        exact absurd H (by simp)
                                    · rw [if_neg c31] at H
                                      have c31b0 : (((rd_T30 t263 0).f0) == 1 && ((((rd_T30 t263 0).f1).toList) == a0.toList && (((rd_T30 t263 0).f2) == 0 && (((rd_T30 t263 0).f3) == 0)))) = false := by simpa using c31
                                      (try (have c31b1 : decide (((rd_T30 t263 0).f0) = 1 && ((((rd_T30 t263 0).f1).toList) == a0.toList && (((rd_T30 t263 0).f2) == 0 && (((rd_T30 t263 0).f3) == 0)))) = false := by simpa using c31))
                                      (try (have c31b2 : (((rd_T30 t263 0).f0) == 1 && ((((rd_T30 t263 0).f1).toList) == a0.toList && (((rd_T30 t263 0).f2) == 0 && (((rd_T30 t263 0).f3) == 0)))) = false := by simpa using c31))
                                      (try (have c31b3 : ¬ (((rd_T30 t263 0).f0) = 1 && ((((rd_T30 t263 0).f1).toList) == a0.toList && (((rd_T30 t263 0).f2) == 0 && (((rd_T30 t263 0).f3) == 0)))) := by simpa using c31))
                                      clear c31
                                      by_cases c46 : t260 = true
                                      · subst c46
                                        have H1 : (some false) = some r := by rw [if_pos rfl] at H; exact H
                                        clear H
                                        have H := H1
                                        clear H1
                                        obtain rfl := Option.some.inj H
                                        go_wp2_with (first | ((with_reducible refine gate_callee (f := 21) rfl ?_); refine goesL_ (some 49) rfl rfl Tryd.func21 (by kernel_rfl) rfl #[.int .i64 (wrap64 (Int.tmod a1 10000000000000))] rfl (by (try simp only [List.map_toArray, List.map_cons, List.map_nil]); first | done | rfl | (simp only [List.length_drop, List.length_take]; rfl)) ?_; (with_reducible refine (observatoryref08_Decimal.calls k2 (wrap64 (Int.tmod a1 10000000000000)) t262 _ A17.out).mono ?_); rintro e w' ⟨rfl, ⟨nd, rfl⟩⟩; refine ⟨_, rfl, ?_⟩) | ((with_reducible refine gate_callee (f := 12) rfl ?_); refine goesL_ (some 68) rfl rfl Tryd.func12 (by kernel_rfl) rfl #[.string (((((a0 ++ ((⟨#[61, 59, 60, 62, 40, 41, 123, 125, 91, 93, 44, 46, 58, 43, 45, 42, 47]⟩ : ByteArray).extract ((ji18) : Int).toNat ((wrap64 ((ji18) + 1)) : Int).toNat)) ++ t262) ++ (⟨#[34]⟩ : ByteArray)) ++ a3) ++ (⟨#[34]⟩ : ByteArray))] rfl (by (try simp only [List.map_toArray, List.map_cons, List.map_nil]); first | done | (simp only [hji18]; rfl) | rfl | (simp only [List.length_drop, List.length_take]; rfl)) ?_; (with_reducible refine (lexer_Lex.calls (((((a0 ++ ((⟨#[61, 59, 60, 62, 40, 41, 123, 125, 91, 93, 44, 46, 58, 43, 45, 42, 47]⟩ : ByteArray).extract ((ji18) : Int).toNat ((wrap64 ((ji18) + 1)) : Int).toNat)) ++ t262) ++ (⟨#[34]⟩ : ByteArray)) ++ a3) ++ (⟨#[34]⟩ : ByteArray)) t263 t264 t265 _ A27.out).mono ?_); rintro e w47 ⟨v266, rfl, ho0, hb⟩; refine ⟨_, rfl, ?_⟩; have n0_ := Aside0.mk (Kd.R_lower ho0 (below_size (by repeat (first | (with_reducible first | exact HB.out | apply below_alloc | apply pw_below_drewN | apply below_drew1) | exact HB.out)))); have n1_ := Aside0.mk (below_step (by repeat (first | (with_reducible first | exact HB.out | apply below_alloc | apply pw_below_drewN | apply below_drew1) | exact HB.out)) hb); clear HB; have HO267 := n0_; have HB := n1_; clear n0_ n1_; (try clear hb); (try clear hb2); (try clear hk); (try clear hi); (try clear ho0); obtain ⟨Ao48, co48, eo48⟩ := Kd.R_slice HO267.out; subst eo48; have p268 : 0 ≤ (0 : Int) := (by omega); have q268 : 0 < (t263.length : Int) := of_decide_eq_true (by first | (with_reducible assumption) | assumption); obtain ⟨ad268, e268, hx268_0, hx268_1, hx268_2, hx268_3⟩ := at_T30 (Kd.R_reads' HO267.out).2.2 0 p268 q268; cases e268; have qi268 : (0 < t263.length) = True := eq_true (by omega); (try rw [show ((0 : Int)).toNat = 0 from rfl] at hx268_0); (try rw [show 0 * 4 = 0 from rfl] at hx268_0); (try rw [Addr.add_zero'] at hx268_0); (try rw [show ((0 : Int)).toNat = 0 from rfl] at hx268_1); (try rw [show 0 * 4 = 0 from rfl] at hx268_1); (try rw [Addr.add_zero'] at hx268_1); (try rw [show ((0 : Int)).toNat = 0 from rfl] at hx268_2); (try rw [show 0 * 4 = 0 from rfl] at hx268_2); (try rw [Addr.add_zero'] at hx268_2); (try rw [show ((0 : Int)).toNat = 0 from rfl] at hx268_3); (try rw [show 0 * 4 = 0 from rfl] at hx268_3); (try rw [Addr.add_zero'] at hx268_3); replace p268 := eq_true p268; replace q268 := eq_true q268))
                                        repeat (first | (case isTrue h_ => exfalso; have z_ := c26; simp only [ByteArray.size_append, ByteArray.size_extract, show (ByteArray.mk #[61, 59, 60, 62, 40, 41, 123, 125, 91, 93, 44, 46, 58, 43, 45, 42, 47]).size = 17 from rfl, show (ByteArray.mk #[34]).size = 1 from rfl] at z_; rw [Nat.min_eq_left (Int.toNat_le.2 (of_eq_true c21b0))] at z_; exact Nat.not_lt.2 z_ h_) | (case isTrue h_ => exfalso; have z_ := c25; simp only [ByteArray.size_append, ByteArray.size_extract, show (ByteArray.mk #[61, 59, 60, 62, 40, 41, 123, 125, 91, 93, 44, 46, 58, 43, 45, 42, 47]).size = 17 from rfl, show (ByteArray.mk #[34]).size = 1 from rfl] at z_; rw [Nat.min_eq_left (Int.toNat_le.2 (of_eq_true c21b0))] at z_; exact Nat.not_lt.2 z_ h_) | (case isTrue h_ => exfalso; have z_ := c24; simp only [ByteArray.size_append, ByteArray.size_extract, show (ByteArray.mk #[61, 59, 60, 62, 40, 41, 123, 125, 91, 93, 44, 46, 58, 43, 45, 42, 47]).size = 17 from rfl, show (ByteArray.mk #[34]).size = 1 from rfl] at z_; rw [Nat.min_eq_left (Int.toNat_le.2 (of_eq_true c21b0))] at z_; exact Nat.not_lt.2 z_ h_) | (case isTrue h_ => exfalso; have z_ := c23; simp only [ByteArray.size_append, ByteArray.size_extract, show (ByteArray.mk #[61, 59, 60, 62, 40, 41, 123, 125, 91, 93, 44, 46, 58, 43, 45, 42, 47]).size = 17 from rfl, show (ByteArray.mk #[34]).size = 1 from rfl] at z_; rw [Nat.min_eq_left (Int.toNat_le.2 (of_eq_true c21b0))] at z_; exact Nat.not_lt.2 z_ h_) | (case isTrue h_ => exfalso; have z_ := c22; simp only [ByteArray.size_append, ByteArray.size_extract, show (ByteArray.mk #[61, 59, 60, 62, 40, 41, 123, 125, 91, 93, 44, 46, 58, 43, 45, 42, 47]).size = 17 from rfl, show (ByteArray.mk #[34]).size = 1 from rfl] at z_; rw [Nat.min_eq_left (Int.toNat_le.2 (of_eq_true c21b0))] at z_; exact Nat.not_lt.2 z_ h_))
                                        go_ret
                                        exact ⟨by first | rfl | (simp [errW_none, errW_some] <;> rfl) | (simp only [← hji18]; first | rfl | (simp [errW_none, errW_some] <;> rfl)) | (simp [*, errW_none, errW_some] <;> rfl), by repeat (first | (with_reducible first | exact HB.out | apply below_alloc | apply pw_below_drewN | apply below_drew1) | exact HB.out)⟩
                                      · replace c46 := Bool.eq_false_iff.mpr c46
                                        subst c46
                                        have H1 : (some false) = some r := by rw [if_neg (show ¬ (false = true) by decide)] at H; exact H
                                        clear H
                                        have H := H1
                                        clear H1
                                        obtain rfl := Option.some.inj H
                                        go_wp2_with (first | ((with_reducible refine gate_callee (f := 21) rfl ?_); refine goesL_ (some 49) rfl rfl Tryd.func21 (by kernel_rfl) rfl #[.int .i64 (wrap64 (Int.tmod a1 10000000000000))] rfl (by (try simp only [List.map_toArray, List.map_cons, List.map_nil]); first | done | rfl | (simp only [List.length_drop, List.length_take]; rfl)) ?_; (with_reducible refine (observatoryref08_Decimal.calls k2 (wrap64 (Int.tmod a1 10000000000000)) t262 _ A17.out).mono ?_); rintro e w' ⟨rfl, ⟨nd, rfl⟩⟩; refine ⟨_, rfl, ?_⟩) | ((with_reducible refine gate_callee (f := 12) rfl ?_); refine goesL_ (some 68) rfl rfl Tryd.func12 (by kernel_rfl) rfl #[.string (((((a0 ++ ((⟨#[61, 59, 60, 62, 40, 41, 123, 125, 91, 93, 44, 46, 58, 43, 45, 42, 47]⟩ : ByteArray).extract ((ji18) : Int).toNat ((wrap64 ((ji18) + 1)) : Int).toNat)) ++ t262) ++ (⟨#[34]⟩ : ByteArray)) ++ a3) ++ (⟨#[34]⟩ : ByteArray))] rfl (by (try simp only [List.map_toArray, List.map_cons, List.map_nil]); first | done | (simp only [hji18]; rfl) | rfl | (simp only [List.length_drop, List.length_take]; rfl)) ?_; (with_reducible refine (lexer_Lex.calls (((((a0 ++ ((⟨#[61, 59, 60, 62, 40, 41, 123, 125, 91, 93, 44, 46, 58, 43, 45, 42, 47]⟩ : ByteArray).extract ((ji18) : Int).toNat ((wrap64 ((ji18) + 1)) : Int).toNat)) ++ t262) ++ (⟨#[34]⟩ : ByteArray)) ++ a3) ++ (⟨#[34]⟩ : ByteArray)) t263 t264 t265 _ A27.out).mono ?_); rintro e w49 ⟨v266, rfl, ho0, hb⟩; refine ⟨_, rfl, ?_⟩; have n0_ := Aside0.mk (Kd.R_lower ho0 (below_size (by repeat (first | (with_reducible first | exact HB.out | apply below_alloc | apply pw_below_drewN | apply below_drew1) | exact HB.out)))); have n1_ := Aside0.mk (below_step (by repeat (first | (with_reducible first | exact HB.out | apply below_alloc | apply pw_below_drewN | apply below_drew1) | exact HB.out)) hb); clear HB; have HO267 := n0_; have HB := n1_; clear n0_ n1_; (try clear hb); (try clear hb2); (try clear hk); (try clear hi); (try clear ho0); obtain ⟨Ao50, co50, eo50⟩ := Kd.R_slice HO267.out; subst eo50; have p268 : 0 ≤ (0 : Int) := (by omega); have q268 : 0 < (t263.length : Int) := of_decide_eq_true (by first | (with_reducible assumption) | assumption); obtain ⟨ad268, e268, hx268_0, hx268_1, hx268_2, hx268_3⟩ := at_T30 (Kd.R_reads' HO267.out).2.2 0 p268 q268; cases e268; have qi268 : (0 < t263.length) = True := eq_true (by omega); (try rw [show ((0 : Int)).toNat = 0 from rfl] at hx268_0); (try rw [show 0 * 4 = 0 from rfl] at hx268_0); (try rw [Addr.add_zero'] at hx268_0); (try rw [show ((0 : Int)).toNat = 0 from rfl] at hx268_1); (try rw [show 0 * 4 = 0 from rfl] at hx268_1); (try rw [Addr.add_zero'] at hx268_1); (try rw [show ((0 : Int)).toNat = 0 from rfl] at hx268_2); (try rw [show 0 * 4 = 0 from rfl] at hx268_2); (try rw [Addr.add_zero'] at hx268_2); (try rw [show ((0 : Int)).toNat = 0 from rfl] at hx268_3); (try rw [show 0 * 4 = 0 from rfl] at hx268_3); (try rw [Addr.add_zero'] at hx268_3); replace p268 := eq_true p268; replace q268 := eq_true q268))
                                        repeat (first | (case isTrue h_ => exfalso; have z_ := c26; simp only [ByteArray.size_append, ByteArray.size_extract, show (ByteArray.mk #[61, 59, 60, 62, 40, 41, 123, 125, 91, 93, 44, 46, 58, 43, 45, 42, 47]).size = 17 from rfl, show (ByteArray.mk #[34]).size = 1 from rfl] at z_; rw [Nat.min_eq_left (Int.toNat_le.2 (of_eq_true c21b0))] at z_; exact Nat.not_lt.2 z_ h_) | (case isTrue h_ => exfalso; have z_ := c25; simp only [ByteArray.size_append, ByteArray.size_extract, show (ByteArray.mk #[61, 59, 60, 62, 40, 41, 123, 125, 91, 93, 44, 46, 58, 43, 45, 42, 47]).size = 17 from rfl, show (ByteArray.mk #[34]).size = 1 from rfl] at z_; rw [Nat.min_eq_left (Int.toNat_le.2 (of_eq_true c21b0))] at z_; exact Nat.not_lt.2 z_ h_) | (case isTrue h_ => exfalso; have z_ := c24; simp only [ByteArray.size_append, ByteArray.size_extract, show (ByteArray.mk #[61, 59, 60, 62, 40, 41, 123, 125, 91, 93, 44, 46, 58, 43, 45, 42, 47]).size = 17 from rfl, show (ByteArray.mk #[34]).size = 1 from rfl] at z_; rw [Nat.min_eq_left (Int.toNat_le.2 (of_eq_true c21b0))] at z_; exact Nat.not_lt.2 z_ h_) | (case isTrue h_ => exfalso; have z_ := c23; simp only [ByteArray.size_append, ByteArray.size_extract, show (ByteArray.mk #[61, 59, 60, 62, 40, 41, 123, 125, 91, 93, 44, 46, 58, 43, 45, 42, 47]).size = 17 from rfl, show (ByteArray.mk #[34]).size = 1 from rfl] at z_; rw [Nat.min_eq_left (Int.toNat_le.2 (of_eq_true c21b0))] at z_; exact Nat.not_lt.2 z_ h_) | (case isTrue h_ => exfalso; have z_ := c22; simp only [ByteArray.size_append, ByteArray.size_extract, show (ByteArray.mk #[61, 59, 60, 62, 40, 41, 123, 125, 91, 93, 44, 46, 58, 43, 45, 42, 47]).size = 17 from rfl, show (ByteArray.mk #[34]).size = 1 from rfl] at z_; rw [Nat.min_eq_left (Int.toNat_le.2 (of_eq_true c21b0))] at z_; exact Nat.not_lt.2 z_ h_))
                                        go_ret
                                        exact ⟨by first | rfl | (simp [errW_none, errW_some] <;> rfl) | (simp only [← hji18]; first | rfl | (simp [errW_none, errW_some] <;> rfl)) | (simp [*, errW_none, errW_some] <;> rfl), by repeat (first | (with_reducible first | exact HB.out | apply below_alloc | apply pw_below_drewN | apply below_drew1) | exact HB.out)⟩
                                  · rw [if_neg c30] at H
                                    exact absurd H (by simp)
                                · rw [if_neg c29] at H
                                  have c29b0 : ((t263.length : Int) == 4) = false := beq_eq_false_iff_ne.mpr c29
                                  have c29b1 : ((t263.length : Int) != 4) = true := bne_iff_ne.mpr c29
                                  obtain rfl := Option.some.inj H
                                  go_wp2_with (first | ((with_reducible refine gate_callee (f := 21) rfl ?_); refine goesL_ (some 49) rfl rfl Tryd.func21 (by kernel_rfl) rfl #[.int .i64 (wrap64 (Int.tmod a1 10000000000000))] rfl (by (try simp only [List.map_toArray, List.map_cons, List.map_nil]); first | done | rfl | (simp only [List.length_drop, List.length_take]; rfl)) ?_; (with_reducible refine (observatoryref08_Decimal.calls k2 (wrap64 (Int.tmod a1 10000000000000)) t262 _ A17.out).mono ?_); rintro e w' ⟨rfl, ⟨nd, rfl⟩⟩; refine ⟨_, rfl, ?_⟩) | ((with_reducible refine gate_callee (f := 12) rfl ?_); refine goesL_ (some 68) rfl rfl Tryd.func12 (by kernel_rfl) rfl #[.string (((((a0 ++ ((⟨#[61, 59, 60, 62, 40, 41, 123, 125, 91, 93, 44, 46, 58, 43, 45, 42, 47]⟩ : ByteArray).extract ((ji18) : Int).toNat ((wrap64 ((ji18) + 1)) : Int).toNat)) ++ t262) ++ (⟨#[34]⟩ : ByteArray)) ++ a3) ++ (⟨#[34]⟩ : ByteArray))] rfl (by (try simp only [List.map_toArray, List.map_cons, List.map_nil]); first | done | (simp only [hji18]; rfl) | rfl | (simp only [List.length_drop, List.length_take]; rfl)) ?_; (with_reducible refine (lexer_Lex.calls (((((a0 ++ ((⟨#[61, 59, 60, 62, 40, 41, 123, 125, 91, 93, 44, 46, 58, 43, 45, 42, 47]⟩ : ByteArray).extract ((ji18) : Int).toNat ((wrap64 ((ji18) + 1)) : Int).toNat)) ++ t262) ++ (⟨#[34]⟩ : ByteArray)) ++ a3) ++ (⟨#[34]⟩ : ByteArray)) t263 t264 t265 _ A27.out).mono ?_); rintro e w51 ⟨v266, rfl, ho0, hb⟩; refine ⟨_, rfl, ?_⟩; have n0_ := Aside0.mk (Kd.R_lower ho0 (below_size (by repeat (first | (with_reducible first | exact HB.out | apply below_alloc | apply pw_below_drewN | apply below_drew1) | exact HB.out)))); have n1_ := Aside0.mk (below_step (by repeat (first | (with_reducible first | exact HB.out | apply below_alloc | apply pw_below_drewN | apply below_drew1) | exact HB.out)) hb); clear HB; have HO267 := n0_; have HB := n1_; clear n0_ n1_; (try clear hb); (try clear hb2); (try clear hk); (try clear hi); (try clear ho0); obtain ⟨Ao52, co52, eo52⟩ := Kd.R_slice HO267.out; subst eo52))
                                  repeat (first | (case isTrue h_ => exfalso; have z_ := c26; simp only [ByteArray.size_append, ByteArray.size_extract, show (ByteArray.mk #[61, 59, 60, 62, 40, 41, 123, 125, 91, 93, 44, 46, 58, 43, 45, 42, 47]).size = 17 from rfl, show (ByteArray.mk #[34]).size = 1 from rfl] at z_; rw [Nat.min_eq_left (Int.toNat_le.2 (of_eq_true c21b0))] at z_; exact Nat.not_lt.2 z_ h_) | (case isTrue h_ => exfalso; have z_ := c25; simp only [ByteArray.size_append, ByteArray.size_extract, show (ByteArray.mk #[61, 59, 60, 62, 40, 41, 123, 125, 91, 93, 44, 46, 58, 43, 45, 42, 47]).size = 17 from rfl, show (ByteArray.mk #[34]).size = 1 from rfl] at z_; rw [Nat.min_eq_left (Int.toNat_le.2 (of_eq_true c21b0))] at z_; exact Nat.not_lt.2 z_ h_) | (case isTrue h_ => exfalso; have z_ := c24; simp only [ByteArray.size_append, ByteArray.size_extract, show (ByteArray.mk #[61, 59, 60, 62, 40, 41, 123, 125, 91, 93, 44, 46, 58, 43, 45, 42, 47]).size = 17 from rfl, show (ByteArray.mk #[34]).size = 1 from rfl] at z_; rw [Nat.min_eq_left (Int.toNat_le.2 (of_eq_true c21b0))] at z_; exact Nat.not_lt.2 z_ h_) | (case isTrue h_ => exfalso; have z_ := c23; simp only [ByteArray.size_append, ByteArray.size_extract, show (ByteArray.mk #[61, 59, 60, 62, 40, 41, 123, 125, 91, 93, 44, 46, 58, 43, 45, 42, 47]).size = 17 from rfl, show (ByteArray.mk #[34]).size = 1 from rfl] at z_; rw [Nat.min_eq_left (Int.toNat_le.2 (of_eq_true c21b0))] at z_; exact Nat.not_lt.2 z_ h_) | (case isTrue h_ => exfalso; have z_ := c22; simp only [ByteArray.size_append, ByteArray.size_extract, show (ByteArray.mk #[61, 59, 60, 62, 40, 41, 123, 125, 91, 93, 44, 46, 58, 43, 45, 42, 47]).size = 17 from rfl, show (ByteArray.mk #[34]).size = 1 from rfl] at z_; rw [Nat.min_eq_left (Int.toNat_le.2 (of_eq_true c21b0))] at z_; exact Nat.not_lt.2 z_ h_))
                                  go_ret
                                  exact ⟨by first | rfl | (simp [errW_none, errW_some] <;> rfl) | (simp only [← hji18]; first | rfl | (simp [errW_none, errW_some] <;> rfl)) | (simp [*, errW_none, errW_some] <;> rfl), by repeat (first | (with_reducible first | exact HB.out | apply below_alloc | apply pw_below_drewN | apply below_drew1) | exact HB.out)⟩
                              · rw [if_neg c28] at H
                                have c28b0 : (t264 == 0) = false := beq_eq_false_iff_ne.mpr c28
                                have c28b1 : (t264 != 0) = true := bne_iff_ne.mpr c28
                                obtain rfl := Option.some.inj H
                                go_wp2_with (first | ((with_reducible refine gate_callee (f := 21) rfl ?_); refine goesL_ (some 49) rfl rfl Tryd.func21 (by kernel_rfl) rfl #[.int .i64 (wrap64 (Int.tmod a1 10000000000000))] rfl (by (try simp only [List.map_toArray, List.map_cons, List.map_nil]); first | done | rfl | (simp only [List.length_drop, List.length_take]; rfl)) ?_; (with_reducible refine (observatoryref08_Decimal.calls k2 (wrap64 (Int.tmod a1 10000000000000)) t262 _ A17.out).mono ?_); rintro e w' ⟨rfl, ⟨nd, rfl⟩⟩; refine ⟨_, rfl, ?_⟩) | ((with_reducible refine gate_callee (f := 12) rfl ?_); refine goesL_ (some 68) rfl rfl Tryd.func12 (by kernel_rfl) rfl #[.string (((((a0 ++ ((⟨#[61, 59, 60, 62, 40, 41, 123, 125, 91, 93, 44, 46, 58, 43, 45, 42, 47]⟩ : ByteArray).extract ((ji18) : Int).toNat ((wrap64 ((ji18) + 1)) : Int).toNat)) ++ t262) ++ (⟨#[34]⟩ : ByteArray)) ++ a3) ++ (⟨#[34]⟩ : ByteArray))] rfl (by (try simp only [List.map_toArray, List.map_cons, List.map_nil]); first | done | (simp only [hji18]; rfl) | rfl | (simp only [List.length_drop, List.length_take]; rfl)) ?_; (with_reducible refine (lexer_Lex.calls (((((a0 ++ ((⟨#[61, 59, 60, 62, 40, 41, 123, 125, 91, 93, 44, 46, 58, 43, 45, 42, 47]⟩ : ByteArray).extract ((ji18) : Int).toNat ((wrap64 ((ji18) + 1)) : Int).toNat)) ++ t262) ++ (⟨#[34]⟩ : ByteArray)) ++ a3) ++ (⟨#[34]⟩ : ByteArray)) t263 t264 t265 _ A27.out).mono ?_); rintro e w53 ⟨v266, rfl, ho0, hb⟩; refine ⟨_, rfl, ?_⟩; have n0_ := Aside0.mk (Kd.R_lower ho0 (below_size (by repeat (first | (with_reducible first | exact HB.out | apply below_alloc | apply pw_below_drewN | apply below_drew1) | exact HB.out)))); have n1_ := Aside0.mk (below_step (by repeat (first | (with_reducible first | exact HB.out | apply below_alloc | apply pw_below_drewN | apply below_drew1) | exact HB.out)) hb); clear HB; have HO267 := n0_; have HB := n1_; clear n0_ n1_; (try clear hb); (try clear hb2); (try clear hk); (try clear hi); (try clear ho0)))
                                repeat (first | (case isTrue h_ => exfalso; have z_ := c26; simp only [ByteArray.size_append, ByteArray.size_extract, show (ByteArray.mk #[61, 59, 60, 62, 40, 41, 123, 125, 91, 93, 44, 46, 58, 43, 45, 42, 47]).size = 17 from rfl, show (ByteArray.mk #[34]).size = 1 from rfl] at z_; rw [Nat.min_eq_left (Int.toNat_le.2 (of_eq_true c21b0))] at z_; exact Nat.not_lt.2 z_ h_) | (case isTrue h_ => exfalso; have z_ := c25; simp only [ByteArray.size_append, ByteArray.size_extract, show (ByteArray.mk #[61, 59, 60, 62, 40, 41, 123, 125, 91, 93, 44, 46, 58, 43, 45, 42, 47]).size = 17 from rfl, show (ByteArray.mk #[34]).size = 1 from rfl] at z_; rw [Nat.min_eq_left (Int.toNat_le.2 (of_eq_true c21b0))] at z_; exact Nat.not_lt.2 z_ h_) | (case isTrue h_ => exfalso; have z_ := c24; simp only [ByteArray.size_append, ByteArray.size_extract, show (ByteArray.mk #[61, 59, 60, 62, 40, 41, 123, 125, 91, 93, 44, 46, 58, 43, 45, 42, 47]).size = 17 from rfl, show (ByteArray.mk #[34]).size = 1 from rfl] at z_; rw [Nat.min_eq_left (Int.toNat_le.2 (of_eq_true c21b0))] at z_; exact Nat.not_lt.2 z_ h_) | (case isTrue h_ => exfalso; have z_ := c23; simp only [ByteArray.size_append, ByteArray.size_extract, show (ByteArray.mk #[61, 59, 60, 62, 40, 41, 123, 125, 91, 93, 44, 46, 58, 43, 45, 42, 47]).size = 17 from rfl, show (ByteArray.mk #[34]).size = 1 from rfl] at z_; rw [Nat.min_eq_left (Int.toNat_le.2 (of_eq_true c21b0))] at z_; exact Nat.not_lt.2 z_ h_) | (case isTrue h_ => exfalso; have z_ := c22; simp only [ByteArray.size_append, ByteArray.size_extract, show (ByteArray.mk #[61, 59, 60, 62, 40, 41, 123, 125, 91, 93, 44, 46, 58, 43, 45, 42, 47]).size = 17 from rfl, show (ByteArray.mk #[34]).size = 1 from rfl] at z_; rw [Nat.min_eq_left (Int.toNat_le.2 (of_eq_true c21b0))] at z_; exact Nat.not_lt.2 z_ h_))
                                go_ret
                                exact ⟨by first | rfl | (simp [errW_none, errW_some] <;> rfl) | (simp only [← hji18]; first | rfl | (simp [errW_none, errW_some] <;> rfl)) | (simp [*, errW_none, errW_some] <;> rfl), by repeat (first | (with_reducible first | exact HB.out | apply below_alloc | apply pw_below_drewN | apply below_drew1) | exact HB.out)⟩
                            · rw [if_neg c26] at H
                              exact absurd H (by simp)
                          · rw [if_neg c25] at H
                            exact absurd H (by simp)
                        · rw [if_neg c24] at H
                          exact absurd H (by simp)
                      · rw [if_neg c23] at H
                        exact absurd H (by simp)
                    · rw [if_neg c22] at H
                      exact absurd H (by simp)
                  · rw [if_neg c21] at H
                    exact absurd H (by simp)
                · rw [if_neg c20] at H
                  exact absurd H (by simp)
              · rw [if_neg c19] at H
                exact absurd H (by simp)

/-- THE ONE PURE STATEMENT of observatorylaw08_LexerWords: yours. -/
def observatorylaw08_LexerWords.Pure : Prop := ∀ (a0 : ByteArray) (a1 : Int) (a2 : Int) (a3 : ByteArray), a0.size ≤ 140737488351232 → (Lit.int .u64 a1).wf = true → (Lit.int .u8 a2).wf = true → a3.size ≤ 140737488351232 → ∃ k, observatorylaw08_LexerWords.f k a0 a1 a2 a3 = some true
theorem observatorylaw08_LexerWords.walk (P : observatorylaw08_LexerWords.Pure) (a0 : ByteArray) (a1 : Int) (a2 : Int) (a3 : ByteArray) (w : World) (w0 : a0.size ≤ 140737488351232) (w1 : (Lit.int .u64 a1).wf = true) (w2 : (Lit.int .u8 a2).wf = true) (w3 : a3.size ≤ 140737488351232) :
    Calls Tryd.prog 10 #[.string a0, .int .u64 a1, .int .u8 a2, .string a3] w fun e w' => e = .returned (.bool true) ∧ Below w.heap.size w w' := by
  obtain ⟨k, h⟩ := P a0 a1 a2 a3 w0 w1 w2 w3
  refine (observatorylaw08_LexerWords.calls k a0 a1 a2 a3 true w h).mono ?_
  rintro e w' ⟨rfl, hd⟩
  exact ⟨rfl, hd⟩

end Go.Proofs.YtmbpjjdaklpemaaDoor.Px
