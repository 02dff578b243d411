/-
  WeatherMoon in plain numbers: for every two nights and two tiles the row's statement holds.
-/
import Derived.Test.YtofjhkjahpdkiaaDoorPxxLWeatherMoon
namespace Go.Proofs.YtofjhkjahpdkiaaDoor.Pure
open Go.RowKit Go.Proofs.YtofjhkjahpdkiaaDoor.Px Go.Proofs.YtofjhkjahpdkiaaDoorW.PrintWords Go.Proofs.YtofjhkjahpdkiaaDoorW.PrintLast
set_option linter.unusedVariables false
set_option linter.unusedSimpArgs false
theorem wr {x : Int} (h : -1000000 ≤ x ∧ x ≤ 1000000) : wrap64 x = x := by unfold wrap64; omega
theorem wr2 {x : Int} (h : -9223372036854775808 ≤ x ∧ x ≤ 9223372036854775807) : wrap64 x = x := by unfold wrap64; omega
def moonB (n : Int) : Int := 1000 * min (n % 30) (30 - n % 30) / 15
def awayM (t c : Int) : Int := min (max (t % 32 - c) (c - t % 32)) (32 - max (t % 32 - c) (c - t % 32))
def bgB (n t : Int) : Int := moonB n * (16 - awayM t (n % 32)) / 1600
theorem tmod_pos {a b : Int} (h : 0 ≤ a) : Int.tmod a b = a % b := Int.tmod_eq_emod_of_nonneg h
theorem tdiv_pos {a b : Int} (h : 0 ≤ a) : Int.tdiv a b = a / b := Int.tdiv_eq_ediv_of_nonneg h
theorem mn_min (a b : Int) : mn a b = min a b := by unfold mn; omega
theorem mx_max (a b : Int) : mx a b = max a b := by unfold mx; omega
theorem moonB_range {n : Int} : 0 ≤ moonB n ∧ moonB n ≤ 1000 := by unfold moonB; omega
theorem awayM_range {t c : Int} (ht : 0 ≤ t) (hc : 0 ≤ c ∧ c ≤ 31) : 0 ≤ awayM t c ∧ awayM t c ≤ 16 := by unfold awayM; omega
theorem within_plain (a b c : Int) : weather_within.f a b c = some (decide (b ≤ a ∧ a ≤ c)) := by
  unfold weather_within.f
  by_cases h : b ≤ a
  · rw [if_pos h]; simp [h]
  · rw [if_neg h]; simp [h]
theorem moon_ok {n : Int} (h : 0 ≤ n ∧ n ≤ 399) : weather_Moon.f n = some (moonB n, n % 32, 0) := by
  unfold weather_Moon.f
  rw [within_plain, decide_eq_true h, Option.bind_some, if_pos rfl, tmod_pos h.1, tmod_pos h.1, mn_min]
  have h1 : wrap64 (30 - n % 30) = 30 - n % 30 := wr (by omega)
  rw [h1]
  have h2 : wrap64 (1000 * min (n % 30) (30 - n % 30)) = 1000 * min (n % 30) (30 - n % 30) := wr (by omega)
  rw [h2, tdiv_pos (by omega)]
  have h3 : wrap64 (1000 * min (n % 30) (30 - n % 30) / 15) = 1000 * min (n % 30) (30 - n % 30) / 15 := wr (by omega)
  rw [h3]
  rfl
theorem moon_no {n : Int} (h : ¬ (0 ≤ n ∧ n ≤ 399)) : weather_Moon.f n = some (0, 0, 1) := by
  unfold weather_Moon.f
  rw [within_plain, decide_eq_false h, Option.bind_some, if_neg (by decide)]
theorem mul_range {a k : Int} (ha : 0 ≤ a ∧ a ≤ 1000) (hk : 0 ≤ k ∧ k ≤ 16) : 0 ≤ a * k ∧ a * k ≤ a * 16 :=
  ⟨Int.mul_nonneg ha.1 hk.1, Int.mul_le_mul_of_nonneg_left hk.2 ha.1⟩
theorem bg_ok {n t : Int} (h : 0 ≤ n ∧ n ≤ 399) (ht : 0 ≤ t ∧ t ≤ 511) : weather_Background.f n t = some (bgB n t, 0) := by
  unfold weather_Background.f
  rw [moon_ok h, Option.bind_some, if_pos rfl, within_plain, decide_eq_true ht, Option.bind_some, if_pos rfl, tmod_pos ht.1]
  have h1 : wrap64 (t % 32 - n % 32) = t % 32 - n % 32 := wr (by omega)
  have h2 : wrap64 (n % 32 - t % 32) = n % 32 - t % 32 := wr (by omega)
  simp only [h1, h2, mx_max, mn_min]
  have h3 : wrap64 (32 - max (t % 32 - n % 32) (n % 32 - t % 32)) = 32 - max (t % 32 - n % 32) (n % 32 - t % 32) := wr (by omega)
  rw [h3]
  show some (wrap64 (Int.tdiv (wrap64 (moonB n * wrap64 (16 - awayM t (n % 32)))) 1600), (0 : Int)) = _
  have hr := awayM_range (t := t) (c := n % 32) ht.1 (by omega)
  have hm := moonB_range (n := n)
  have h4 : wrap64 (16 - awayM t (n % 32)) = 16 - awayM t (n % 32) := wr (by omega)
  rw [h4]
  have hp := mul_range hm (k := 16 - awayM t (n % 32)) (by omega)
  unfold bgB
  generalize moonB n * (16 - awayM t (n % 32)) = p at *
  have h5 : wrap64 p = p := wr (by omega)
  rw [h5, tdiv_pos hp.1]
  have h6 : wrap64 (p / 1600) = p / 1600 := wr (by omega)
  rw [h6]
theorem bg_no {n t : Int} (h : ¬ ((0 ≤ n ∧ n ≤ 399) ∧ (0 ≤ t ∧ t ≤ 511))) : weather_Background.f n t = some (0, 1) := by
  unfold weather_Background.f
  by_cases hn : 0 ≤ n ∧ n ≤ 399
  · rw [moon_ok hn, Option.bind_some, if_pos rfl, within_plain, decide_eq_false (fun ht => h ⟨hn, ht⟩), Option.bind_some, if_neg (by decide)]
  · rw [moon_no hn, Option.bind_some, if_neg (by decide)]
def colD (t c : Int) : Int := (t % 32 - c + 32) % 32
theorem away_col {t c : Int} (ht : 0 ≤ t) (hc : 0 ≤ c ∧ c ≤ 31) : awayM t c = min (colD t c) (32 - colD t c) := by unfold awayM colD; omega
theorem bg_top {n t : Int} (hn : 0 ≤ n) (ht : 0 ≤ t) (hd : colD t (n % 32) = 0) : bgB n t = moonB n / 100 := by
  unfold bgB
  rw [away_col ht (by omega), hd]
  have : (16 : Int) - min 0 (32 - 0) = 16 := by decide
  rw [this]
  omega
theorem bg_low {n t : Int} (hn : 0 ≤ n) (ht : 0 ≤ t) (hd : colD t (n % 32) = 16) : bgB n t = 0 := by
  unfold bgB
  rw [away_col ht (by omega), hd]
  have : (16 : Int) - min 16 (32 - 16) = 0 := by decide
  rw [this]
  simp
theorem bg_range {n t : Int} (hn : 0 ≤ n) (ht : 0 ≤ t) : 0 ≤ bgB n t ∧ bgB n t ≤ moonB n / 100 := by
  unfold bgB
  have hr := awayM_range (t := t) (c := n % 32) ht (by omega)
  have hp := mul_range (moonB_range (n := n)) (k := 16 - awayM t (n % 32)) (by omega)
  generalize moonB n * (16 - awayM t (n % 32)) = p at *
  omega
theorem bg_same {n t u : Int} (hn : 0 ≤ n) (ht : 0 ≤ t) (hu : 0 ≤ u) (hd : (colD t (n % 32) + colD u (n % 32)) % 32 = 0 ∨ colD t (n % 32) = colD u (n % 32)) : bgB n t = bgB n u := by
  unfold bgB
  have : awayM t (n % 32) = awayM u (n % 32) := by
    rw [away_col ht (by omega), away_col hu (by omega)]
    have h1 : 0 ≤ colD t (n % 32) ∧ colD t (n % 32) ≤ 31 := by unfold colD; omega
    have h2 : 0 ≤ colD u (n % 32) ∧ colD u (n % 32) ≤ 31 := by unfold colD; omega
    omega
  rw [this]
theorem moon_same {n m : Int} (h : (n + m) % 30 = 0) : moonB n = moonB m := by
  have e : min (n % 30) (30 - n % 30) = min (m % 30) (30 - m % 30) := by omega
  unfold moonB
  rw [e]
theorem head_true : observatorylaw12_head.f = some true := rfl
theorem j1_true {k : Nat} {t u b c x y : Int} (ht : 0 ≤ t) (hu : 0 ≤ u) (hb : 0 ≤ b ∧ b ≤ 1000) (hc : 0 ≤ c ∧ c ≤ 31)
    (h0 : colD t c = 0 → x = b / 100) (h16 : colD t c = 16 → x = 0) (hx : 0 ≤ x ∧ x ≤ b / 100) (hs : (colD t c + colD u c) % 32 = 0 ∨ colD t c = colD u c → x = y) :
    observatorylaw12_WeatherMoon.j1 (k + 1) t u true b c x y false = some true := by
  rw [observatorylaw12_WeatherMoon.j1]
  have e1 : wrap64 (Int.tmod t 32 - c) = t % 32 - c := by rw [tmod_pos ht]; exact wr (by omega)
  have e2 : wrap64 (Int.tmod u 32 - c) = u % 32 - c := by rw [tmod_pos hu]; exact wr (by omega)
  have e3 : wrap64 (t % 32 - c + 32) = t % 32 - c + 32 := wr (by omega)
  have e4 : wrap64 (u % 32 - c + 32) = u % 32 - c + 32 := wr (by omega)
  have e5 : Int.tmod (t % 32 - c + 32) 32 = colD t c := tmod_pos (by omega)
  have e6 : Int.tmod (u % 32 - c + 32) 32 = colD u c := tmod_pos (by omega)
  have d1 : 0 ≤ colD t c ∧ colD t c ≤ 31 := by unfold colD; omega
  have d2 : 0 ≤ colD u c ∧ colD u c ≤ 31 := by unfold colD; omega
  have e7 : wrap64 (colD t c + colD u c) = colD t c + colD u c := wr (by omega)
  have e8 : Int.tmod (colD t c + colD u c) 32 = (colD t c + colD u c) % 32 := tmod_pos (by omega)
  have e9 : wrap64 (Int.tdiv b 100) = b / 100 := by rw [tdiv_pos hb.1]; exact wr (by omega)
  simp only [e1, e2, e3, e4, e5, e6, e7, e8, e9]
  clear e1 e2 e3 e4 e5 e6 e7 e8 e9
  generalize colD t c = d at *
  generalize colD u c = g at *
  have key : ∀ z : Option Bool, ((if x < 0 then some false else if x > b / 100 then some false else if true = true then (if (d + g) % 32 = 0 then some (x == y) else if d = g then some (x == y) else some true) else some false) = some true) := by
    intro z
    rw [if_neg (by omega), if_neg (by omega), if_pos rfl]
    by_cases q1 : (d + g) % 32 = 0
    · rw [if_pos q1, hs (.inl q1), beq_self_eq_true]
    · rw [if_neg q1]
      by_cases q2 : d = g
      · rw [if_pos q2, hs (.inr q2), beq_self_eq_true]
      · rw [if_neg q2]
  rw [if_neg (by decide)]
  by_cases p0 : d = 0
  · rw [if_pos p0, if_pos (h0 p0), if_neg (by omega)]
    exact key none
  · rw [if_neg p0]
    by_cases p16 : d = 16
    · rw [if_pos p16, if_pos (h16 p16)]
      exact key none
    · rw [if_neg p16]
      exact key none
theorem WeatherMoon : observatorylaw12_WeatherMoon.Pure := by
  intro a0 a1 a2 a3 w0 w1 w2 w3
  refine ⟨2, ?_⟩
  unfold observatorylaw12_WeatherMoon.f
  rw [head_true, Option.bind_some]
  by_cases h0 : 0 ≤ a0 ∧ a0 ≤ 399
  · by_cases h1 : 0 ≤ a1 ∧ a1 ≤ 399
    · by_cases h2 : 0 ≤ a2 ∧ a2 ≤ 511
      · by_cases h3 : 0 ≤ a3 ∧ a3 ≤ 511
        · rw [moon_ok h0, moon_ok h1, bg_ok h0 h2, bg_ok h0 h3]
          simp only [Option.bind_some]
          rw [if_pos trivial, if_pos trivial, if_pos trivial]
          rw [observatorylaw12_WeatherMoon.j0]
          have hb := moonB_range (n := a0)
          have e : wrap64 (a0 + a1) = a0 + a1 := wr (by omega)
          rw [if_neg (by decide), if_neg (by omega), if_neg (by omega), e, tmod_pos (by omega)]
          have hj := j1_true (k := 0) (t := a2) (u := a3) (b := moonB a0) (c := a0 % 32) (x := bgB a0 a2) (y := bgB a0 a3) h2.1 h3.1 hb (by omega) (bg_top h0.1 h2.1) (bg_low h0.1 h2.1) (bg_range h0.1 h2.1) (bg_same h0.1 h2.1 h3.1)
          have e2 : decide (a0 % 32 ≥ 32) = false := decide_eq_false (by omega)
          by_cases hm : (a0 + a1) % 30 = 0
          · rw [if_pos hm, if_pos (moon_same hm), if_neg (by omega), e2]
            exact hj
          · rw [if_neg hm, if_neg (by omega), e2]
            exact hj
        · rw [moon_ok h0, moon_ok h1, bg_ok h0 h2, bg_no (fun h => h3 h.2)]
          simp only [Option.bind_some]
          rw [if_pos trivial, if_pos trivial, if_pos trivial, observatorylaw12_WeatherMoon.j0, if_pos (by decide), if_pos rfl]
          rw [if_neg (by omega), if_neg (by omega), if_neg (by omega), if_neg (by omega), if_neg (by omega), if_neg (by omega)]
          by_cases q : a3 < 0
          · rw [if_pos q]
          · rw [if_neg q, decide_eq_true (by omega)]
      · rw [moon_ok h0, moon_ok h1, bg_no (fun h => h2 h.2)]
        simp only [Option.bind_some]
        obtain ⟨y, hy⟩ : ∃ y, weather_Background.f a0 a3 = some y := by
          by_cases h3 : 0 ≤ a3 ∧ a3 ≤ 511
          · exact ⟨_, bg_ok h0 h3⟩
          · exact ⟨_, bg_no (fun h => h3 h.2)⟩
        rw [hy, Option.bind_some, if_pos trivial, if_pos trivial, if_neg (by decide), observatorylaw12_WeatherMoon.j0, if_pos rfl, if_pos rfl]
        rw [if_neg (by omega), if_neg (by omega), if_neg (by omega), if_neg (by omega)]
        by_cases q : a2 < 0
        · rw [if_pos q]
        · rw [if_neg q, if_pos (by omega)]
    · rw [moon_ok h0, moon_no h1]
      simp only [Option.bind_some]
      obtain ⟨x, hx⟩ : ∃ x, weather_Background.f a0 a2 = some x := by
        by_cases h3 : 0 ≤ a2 ∧ a2 ≤ 511
        · exact ⟨_, bg_ok h0 h3⟩
        · exact ⟨_, bg_no (fun h => h3 h.2)⟩
      obtain ⟨y, hy⟩ : ∃ y, weather_Background.f a0 a3 = some y := by
        by_cases h3 : 0 ≤ a3 ∧ a3 ≤ 511
        · exact ⟨_, bg_ok h0 h3⟩
        · exact ⟨_, bg_no (fun h => h3 h.2)⟩
      rw [hx, Option.bind_some, hy, Option.bind_some, if_pos trivial, if_neg (by decide), observatorylaw12_WeatherMoon.j0, if_pos rfl, if_pos rfl]
      rw [if_neg (by omega), if_neg (by omega)]
      by_cases q : a1 < 0
      · rw [if_pos q]
      · rw [if_neg q, if_pos (by omega)]
  · obtain ⟨m, hm⟩ : ∃ m, weather_Moon.f a1 = some m := by
      by_cases h1 : 0 ≤ a1 ∧ a1 ≤ 399
      · exact ⟨_, moon_ok h1⟩
      · exact ⟨_, moon_no h1⟩
    rw [moon_no h0, Option.bind_some, hm, Option.bind_some, bg_no (fun h => h0 h.1), Option.bind_some, bg_no (fun h => h0 h.1), Option.bind_some, if_neg (by decide), observatorylaw12_WeatherMoon.j0, if_pos rfl, if_pos rfl]
    by_cases q : a0 < 0
    · rw [if_pos q]
    · rw [if_neg q, if_pos (by omega)]
end Go.Proofs.YtofjhkjahpdkiaaDoor.Pure
