/-
  weather's within, moment, the closures of kinds, lookup in the map of kinds.
-/
import Derived.Test.YtofjhkjahpdkiaaDoorWeA
namespace Go.Proofs.YtofjhkjahpdkiaaDoor.We
open Go.RowKit Go.MapKept Go.Proofs.YtofjhkjahpdkiaaDoorW.PrintWords
set_option linter.unusedVariables false
set_option linter.unusedSimpArgs false
theorem cell_bel {w1 w2 : World} {a : Addr} {v : Value} (h : w1.cell? a = some v) (hb : Below w1.heap.size w1 w2) : w2.cell? a = some v :=
  (World.cell?_of_block (hb.block a.block (World.block_lt_of_cell? w1 a h))).trans h
theorem within_calls (n lo hi : Int) (w : World) : Calls Tryd.prog 25 #[.int .i64 n, .int .i64 lo, .int .i64 hi] w fun e w' => e = .returned (.bool (decide (lo ≤ n ∧ n ≤ hi))) ∧ w' = w := by
  by_cases h1 : lo ≤ n
  · by_cases h2 : n ≤ hi
    · rw [decide_eq_true ⟨h1, h2⟩]
      go_enter Tryd.func25, Tryd.ntmps25
      go_wp2
      go_ret
      exact ⟨rfl, rfl⟩
    · rw [decide_eq_false (fun hh => h2 hh.2)]
      go_enter Tryd.func25, Tryd.ntmps25
      go_wp2
      go_ret
      exact ⟨rfl, rfl⟩
  · rw [decide_eq_false (fun hh => h1 hh.1)]
    go_enter Tryd.func25, Tryd.ntmps25
    go_wp2
    go_ret
    exact ⟨rfl, rfl⟩
theorem moment_calls (n : Int) (w : World) : Calls Tryd.prog 24 #[.int .i64 n] w fun e w' => e = .returned (.bool (decide (0 ≤ n ∧ n ≤ 38399))) ∧ w' = w := by
  go_enter Tryd.func24, Tryd.ntmps24
  go_wp2_with fail
  refine (within_calls n 0 38399 _).mono ?_
  rintro e w1 ⟨rfl, rfl⟩
  go_wp2_with fail
  go_ret
  exact ⟨by simp [Bool.decide_and], rfl⟩
theorem look_at {w : World} {b : Nat} (hb : w.heap[b]? = some (.map kmap 3)) (k : Int) (j : Nat) (v : Value) (h : Instr.findNow (.int .i64) (.int .i64 k) kmap.toList 0 = some (some (j, v))) :
    Sem.run Tryd.prog (Instr.lookup 60 (.map (some b)) (.int .i64 k) true) w = .ok (.tuple #[v, .bool true]) w := by
  have hm : Tryd.prog.underlying 60 = some (.map 3 65) := Tryd.underlying60
  have hd := Tryd.underlying3
  have hk : IsKey (.int .i64) (.int .i64 k) := rfl
  simp [Instr.lookup, run_underlying hm, Go.MapKept.run_getObj_map hb, Go.MapKept.run_checkKey hd hk, Go.MapKept.run_findKey hd h, Result.andThen]
theorem look_no {w : World} {b : Nat} (hb : w.heap[b]? = some (.map kmap 3)) (k : Int) (h : Instr.findNow (.int .i64) (.int .i64 k) kmap.toList 0 = some none) :
    Sem.run Tryd.prog (Instr.lookup 60 (.map (some b)) (.int .i64 k) true) w = .ok (.tuple #[.agg #[.string ⟨#[]⟩, .nilFunc, .nilFunc], .bool false]) w := by
  have hm : Tryd.prog.underlying 60 = some (.map 3 65) := Tryd.underlying60
  have hd := Tryd.underlying3
  have hk : IsKey (.int .i64) (.int .i64 k) := rfl
  have hz : Sem.run Tryd.prog (zeroValue 65) w = .ok (.agg #[.string ⟨#[]⟩, .nilFunc, .nilFunc]) w := by kernel_rfl
  simp [Instr.lookup, run_underlying hm, Go.MapKept.run_getObj_map hb, Go.MapKept.run_checkKey hd hk, Go.MapKept.run_findKey hd h, Result.andThen, hz]
theorem find1 : Instr.findNow (.int .i64) (.int .i64 1) kmap.toList 0 = some (some (0, kv1)) := by kernel_rfl
theorem find2 : Instr.findNow (.int .i64) (.int .i64 2) kmap.toList 0 = some (some (1, kv2)) := by kernel_rfl
theorem find3 : Instr.findNow (.int .i64) (.int .i64 3) kmap.toList 0 = some (some (2, kv3)) := by kernel_rfl
theorem find_no {k : Int} (h : ¬ (k = 1 ∨ k = 2 ∨ k = 3)) : Instr.findNow (.int .i64) (.int .i64 k) kmap.toList 0 = some none := by
  rcases findNow_spec (d := .int .i64) (k := .int .i64 k) rfl kmap.toList 0 (by
    intro x hx
    have : x = ⟨.int .i64 1, kv1, 0⟩ ∨ x = ⟨.int .i64 2, kv2, 1⟩ ∨ x = ⟨.int .i64 3, kv3, 2⟩ := by simpa [kmap] using hx
    rcases this with rfl | rfl | rfl <;> rfl) with ⟨h1, _⟩ | ⟨j, e, h1, h2, h3⟩
  · exact h1
  · exfalso
    have hx := List.mem_of_getElem? h2
    have : e = ⟨.int .i64 1, kv1, 0⟩ ∨ e = ⟨.int .i64 2, kv2, 1⟩ ∨ e = ⟨.int .i64 3, kv3, 2⟩ := by simpa [kmap] using hx
    apply h
    rcases this with rfl | rfl | rfl
    · injection h3 with _ h3; exact Or.inl h3.symm
    · injection h3 with _ h3; exact Or.inr (Or.inl h3.symm)
    · injection h3 with _ h3; exact Or.inr (Or.inr h3.symm)
def valB (k q n : Int) : Bool := if k = 1 then decide (0 ≤ q ∧ q ≤ 3) && decide (0 ≤ n ∧ n ≤ 1000) else if k = 2 then decide (q = 0) && decide (1 ≤ n ∧ n ≤ 100) else decide (q = 0) && decide (n = 0)
theorem val1 (k q n f u : Int) (w : World) : Calls Tryd.prog 46 #[.agg #[.int .i64 k, .int .i64 q, .int .i64 n, .int .i64 f, .int .i64 u]] w fun e w' => e = .returned (.bool (valB 1 q n)) ∧ Below w.heap.size w w' := by
  unfold valB
  rw [if_pos rfl]
  by_cases h : 0 ≤ q ∧ q ≤ 3
  · have hw := within_calls q 0 3
    rw [decide_eq_true h] at hw ⊢
    clear h
    go_enter Tryd.func46, Tryd.ntmps46
    go_wp2_with fail
    refine (hw _).mono ?_
    rintro e w1 ⟨rfl, rfl⟩
    go_wp2_with fail
    refine (within_calls n 0 1000 _).mono ?_
    rintro e w1 ⟨rfl, rfl⟩
    go_wp2_with fail
    go_ret
    exact ⟨by simp, bel_new (Below.refl _ _) _ (Nat.le_refl _)⟩
  · have hw := within_calls q 0 3
    rw [decide_eq_false h] at hw ⊢
    clear h
    go_enter Tryd.func46, Tryd.ntmps46
    go_wp2_with fail
    refine (hw _).mono ?_
    rintro e w1 ⟨rfl, rfl⟩
    go_wp2_with fail
    go_ret
    exact ⟨by simp, bel_new (Below.refl _ _) _ (Nat.le_refl _)⟩
theorem val2 (k q n f u : Int) (w : World) : Calls Tryd.prog 48 #[.agg #[.int .i64 k, .int .i64 q, .int .i64 n, .int .i64 f, .int .i64 u]] w fun e w' => e = .returned (.bool (valB 2 q n)) ∧ Below w.heap.size w w' := by
  unfold valB
  rw [if_neg (by decide), if_pos rfl]
  by_cases h : q = 0
  · subst h
    rw [decide_eq_true rfl]
    go_enter Tryd.func48, Tryd.ntmps48
    go_wp2_with fail
    refine (within_calls n 1 100 _).mono ?_
    rintro e w1 ⟨rfl, rfl⟩
    go_wp2_with fail
    go_ret
    exact ⟨by simp, bel_new (Below.refl _ _) _ (Nat.le_refl _)⟩
  · have h1 : (q == 0) = false := beq_eq_false_iff_ne.2 h
    rw [decide_eq_false h]
    clear h
    go_enter Tryd.func48, Tryd.ntmps48
    go_wp2_with fail
    go_ret
    exact ⟨by simp, bel_new (Below.refl _ _) _ (Nat.le_refl _)⟩
theorem val3 (k q n f u : Int) (w : World) : Calls Tryd.prog 50 #[.agg #[.int .i64 k, .int .i64 q, .int .i64 n, .int .i64 f, .int .i64 u]] w fun e w' => e = .returned (.bool (valB 3 q n)) ∧ Below w.heap.size w w' := by
  unfold valB
  rw [if_neg (by decide), if_neg (by decide)]
  by_cases h : q = 0
  · subst h
    rw [decide_eq_true rfl]
    by_cases h2 : n = 0
    · subst h2
      go_enter Tryd.func50, Tryd.ntmps50
      go_wp2_with fail
      go_ret
      exact ⟨by simp, bel_new (Below.refl _ _) _ (Nat.le_refl _)⟩
    · have h1 : (n == 0) = false := beq_eq_false_iff_ne.2 h2
      rw [decide_eq_false h2]
      clear h2
      go_enter Tryd.func50, Tryd.ntmps50
      go_wp2_with fail
      go_ret
      exact ⟨by simp, bel_new (Below.refl _ _) _ (Nat.le_refl _)⟩
  · have h1 : (q == 0) = false := beq_eq_false_iff_ne.2 h
    rw [decide_eq_false h]
    clear h
    go_enter Tryd.func50, Tryd.ntmps50
    go_wp2_with fail
    go_ret
    exact ⟨by simp, bel_new (Below.refl _ _) _ (Nat.le_refl _)⟩
theorem run_store_func {P : Program} {w : World} {a : Addr} {m : Mode} (fn : Fn) (x : Array Value) (y : Array Value) : Sem.run P (store a (.func fn x y) m) w = stored P w a (.func fn x y) m := run_store P w a _ m rfl
theorem run_store_nilFunc {P : Program} {w : World} {a : Addr} {m : Mode} : Sem.run P (store a .nilFunc m) w = stored P w a .nilFunc m := run_store P w a _ m rfl
attribute [local go_sem] run_store_func
def formB (k q n f u : Int) : Bool := decide (k = 1 ∨ k = 2 ∨ k = 3) && (decide (0 ≤ f ∧ f ≤ 38399) && (decide (0 ≤ u ∧ u ≤ 38399) && (decide (f ≤ u) && valB k q n)))
end Go.Proofs.YtofjhkjahpdkiaaDoor.We
