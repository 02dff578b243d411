/-
  WeatherOrder in plain words: the same spells in force, the same conditions; neighbours that are never in force at the same moment.
-/
import Derived.Test.YtofjhkjahpdkiaaDoorWeM
namespace Go.Proofs.YtofjhkjahpdkiaaDoor.We
open Go.RowKit Go.MapKept Go.Proofs.YtofjhkjahpdkiaaDoorW.PrintWords Go.Proofs.YtofjhkjahpdkiaaDoor.Px
set_option linter.unusedVariables false
set_option linter.unusedSimpArgs false
theorem at_same {l : List SSp} {m n : Int} (h : ∀ s ∈ l, inF m s = inF n s) (hm : (allB l && momB m) = true) (hn : (allB l && momB n) = true) : atP l m = atP l n := by
  unfold atP
  rw [if_pos hm, if_pos hn]
  congr 1
  clear hm hn
  generalize cd0 = c
  induction l generalizing c with
  | nil => rfl
  | cons s l ih =>
    rw [List.foldl_cons, List.foldl_cons]
    have e : cdStep m c s = cdStep n c s := by unfold cdStep; rw [h s (List.mem_cons_self)]
    rw [e]
    exact ih (fun t ht => h t (List.mem_cons_of_mem _ ht)) _
theorem at_ok {l : List SSp} {m : Int} {c : Cd} {x : Int} (h : atP l m = (c, x)) (hx : x = 0) : (allB l && momB m) = true := by
  unfold atP at h
  split at h
  · assumption
  · rename_i hh
    simp only [Prod.mk.injEq] at h
    omega
theorem at_no {l : List SSp} {m : Int} {c : Cd} {x : Int} (h : atP l m = (c, x)) (hx : ¬ x = 0) : x = 1 := by
  unfold atP at h
  split at h
  · simp only [Prod.mk.injEq] at h; omega
  · simp only [Prod.mk.injEq] at h; omega
theorem split_rd {l : List SSp} {k : Nat} (h : k + 1 < l.length) : l = l.take k ++ (rd_T32 l (k : Int) :: rd_T32 l ((k + 1 : Nat) : Int) :: l.drop (k + 1 + 1)) := by
  have h1 := rd_drop (l := l) (i := k) (by omega)
  have h2 := rd_drop (l := l) (i := k + 1) h
  rw [← h2, ← h1, List.take_append_drop]
def turnL (l : List SSp) (k : Nat) : List SSp := (l.set k (rd_T32 l ((k + 1 : Nat) : Int))).set (k + 1) (rd_T32 l (k : Int))
theorem turn_split {l : List SSp} {k : Nat} (h : k + 1 < l.length) : turnL l k = l.take k ++ (rd_T32 l ((k + 1 : Nat) : Int) :: rd_T32 l (k : Int) :: l.drop (k + 1 + 1)) := by
  have hs := split_rd h
  unfold turnL
  have hl : (l.take k).length = k := by rw [List.length_take]; omega
  generalize rd_T32 l (k : Int) = x at *
  generalize rd_T32 l ((k + 1 : Nat) : Int) = y at *
  generalize l.take k = a at *
  generalize l.drop (k + 1 + 1) = b at *
  rw [hs, List.set_append_right _ _ (by omega), List.set_append_right _ _ (by omega)]
  rw [hl, Nat.sub_self, show k + 1 - k = 1 by omega]
  rfl
theorem turn_length (l : List SSp) (k : Nat) : (turnL l k).length = l.length := by unfold turnL; rw [List.length_set, List.length_set]
theorem all_turn {l : List SSp} {k : Nat} (h : k + 1 < l.length) : allB (turnL l k) = allB l := by
  unfold allB
  rw [turn_length]
  congr 1
  rw [turn_split h]
  conv => rhs; rw [split_rd h]
  simp only [List.all_append, List.all_cons]
  cases fB (rd_T32 l (k : Int)) <;> cases fB (rd_T32 l ((k + 1 : Nat) : Int)) <;> simp
theorem step_swap {m : Int} {x y : SSp} (h : ¬ (inF m x = true ∧ inF m y = true)) (c : Cd) : cdStep m (cdStep m c x) y = cdStep m (cdStep m c y) x := by
  unfold cdStep
  by_cases hx : inF m x = true
  · have hy : ¬ inF m y = true := fun hy => h ⟨hx, hy⟩
    rw [if_pos hx, if_neg hy, if_neg hy, if_pos hx]
  · rw [if_neg hx, if_neg hx]
theorem at_turn {l : List SSp} {k : Nat} {m : Int} (h : k + 1 < l.length)
    (hn : ¬ ((rd_T32 l (k : Int)).f3 ≤ (rd_T32 l ((k + 1 : Nat) : Int)).f4 ∧ (rd_T32 l ((k + 1 : Nat) : Int)).f3 ≤ (rd_T32 l (k : Int)).f4)) : atP (turnL l k) m = atP l m := by
  have hex : ¬ (inF m (rd_T32 l (k : Int)) = true ∧ inF m (rd_T32 l ((k + 1 : Nat) : Int)) = true) := by
    rintro ⟨h1, h2⟩
    unfold inF at h1 h2
    have h1 := of_decide_eq_true h1
    have h2 := of_decide_eq_true h2
    exact hn ⟨by omega, by omega⟩
  unfold atP
  rw [all_turn h]
  congr 2
  rw [turn_split h]
  conv => rhs; rw [split_rd h]
  rw [List.foldl_append, List.foldl_append, List.foldl_cons, List.foldl_cons, List.foldl_cons, List.foldl_cons, step_swap hex]
def eqF (m n : Int) (s : SSp) : Bool := inF m s == inF n s
theorem inF_calls (m : Int) (s : SSp) (w : World) :
    Calls Tryd.prog 10 #[.agg #[.int .i64 s.f0, .int .i64 s.f1, .int .i64 s.f2, .int .i64 s.f3, .int .i64 s.f4], .int .i64 m] w fun e w' => e = .returned (.bool (inF m s)) ∧ w' = w.alloc (.cells #[.int .i64 s.f0, .int .i64 s.f1, .int .i64 s.f2, .int .i64 s.f3, .int .i64 s.f4] 32) := by
  obtain ⟨s0, s1, s2, s3, s4⟩ := s
  unfold inF
  simp only
  by_cases h1 : s3 ≤ m
  · by_cases h2 : m ≤ s4
    · rw [decide_eq_true ⟨h1, h2⟩]
      go_enter Tryd.func10, Tryd.ntmps10
      go_wp2
      go_ret
      exact ⟨rfl, rfl⟩
    · rw [decide_eq_false (fun hh => h2 hh.2)]
      go_enter Tryd.func10, Tryd.ntmps10
      go_wp2
      go_ret
      exact ⟨rfl, rfl⟩
  · rw [decide_eq_false (fun hh => h1 hh.1)]
    go_enter Tryd.func10, Tryd.ntmps10
    go_wp2
    go_ret
    exact ⟨rfl, rfl⟩
end Go.Proofs.YtofjhkjahpdkiaaDoor.We
