/-
  The plan's step, and what the table of lengths holds.
-/
import Derived.Test.YtfklhpdnbbefbaaDoorRgB
namespace Go.Proofs.YtfklhpdnbbefbaaDoor.Rg
open Go.RowKit Go.Proofs.YtfklhpdnbbefbaaDoorW.PrintWords Go.Proofs.YtfklhpdnbbefbaaDoor.Lx Go.Proofs.YtfklhpdnbbefbaaDoor.Pm
set_option linter.unusedVariables false
set_option linter.unusedSimpArgs false
def reachL (c : Int) : List Int := [c - 64, c - 32, c, c + 32].filter (fun x => decide (-48 ≤ x) && decide (x ≤ 48))
theorem reach_all : ∀ c : Nat, c < 32 → mount_Reach.f 6 (c : Int) = some (reachL (c : Int), 0) ∧ (reachL (c : Int)).length ≤ 10 ∧ (∀ x ∈ reachL (c : Int), -48 ≤ x ∧ x ≤ 48) := by decide +kernel
def colMin (xs : List Int) (i : Nat) : Int := xs.foldl (fun a p => min a (dst ((i : Int) - 48) p)) 1073741824
theorem set_fold (i : Nat) (xs : List Int) : ∀ (m : List Int) (a : Int), i < m.length → xs.foldl (stepP i) (m.set i a) = m.set i (xs.foldl (fun a p => min a (dst ((i : Int) - 48) p)) a) := by
  induction xs with
  | nil => intro m a h; rfl
  | cons x xs ih =>
    intro m a h
    rw [List.foldl_cons, List.foldl_cons]
    have : stepP i (m.set i a) x = m.set i (min a (dst ((i : Int) - 48) x)) := by
      unfold stepP
      rw [List.set_set, List.getD_eq_getElem?_getD, List.getElem?_set_self h]; rfl
    rw [this, ih m _ h]
theorem bef_inv (xs : List Int) : ∀ n, n ≤ 97 → (bef xs n).length = 97 ∧ ∀ k, k < n → (bef xs n).getD k 0 = colMin xs k := by
  intro n
  induction n with
  | zero => intro h; exact ⟨rfl, fun k hk => by omega⟩
  | succ n ih =>
    intro h
    obtain ⟨i1, i2⟩ := ih (by omega)
    have e : bef xs (n + 1) = (bef xs n).set n (colMin xs n) := by
      rw [bef_succ]; unfold rowP colMin; exact set_fold n xs _ _ (by omega)
    rw [e]
    refine ⟨by rw [List.length_set]; exact i1, fun k hk => ?_⟩
    rw [List.getD_eq_getElem?_getD]
    by_cases hkn : k = n
    · subst hkn; rw [List.getElem?_set_self (by omega)]; rfl
    · rw [List.getElem?_set_ne (by omega), ← List.getD_eq_getElem?_getD]; exact i2 k (by omega)
theorem bef_get {c s : Nat} (hc : c < 32) (hs : s < 97) : (bef (reachL (c : Int)) 97).getD s 0 = colMin (reachL (c : Int)) s := (bef_inv _ 97 (Nat.le_refl _)).2 s hs
theorem col_some : ∀ c : Nat, c < 32 → ∀ s : Nat, s < 97 → (reachL (c : Int)).any (fun p => decide (dst ((s : Int) - 48) p = colMin (reachL (c : Int)) s)) = true ∧ 0 ≤ colMin (reachL (c : Int)) s ∧ colMin (reachL (c : Int)) s ≤ 1000 := by decide +kernel
theorem find_at {P : Int → Bool} {xs : List Int} {j : Nat} (hn : ∀ k, k < j → P (rd xs (k : Int)) = false) (hj : j < xs.length) (hp : P (rd xs (j : Int)) = true) : xs.find? P = some (rd xs (j : Int)) := by
  have hrd : ∀ k, k < xs.length → ∀ (h : k < xs.length), rd xs (k : Int) = xs[k] := by
    intro k hk h
    unfold rd
    rw [Int.toNat_natCast, List.getD_eq_getElem?_getD, List.getElem?_eq_getElem h]; rfl
  rw [List.find?_eq_some_iff_getElem]
  refine ⟨hp, j, hj, (hrd j hj hj).symm, fun k hk => ?_⟩
  have := hn k hk
  rw [hrd k (by omega) (by omega)] at this
  simp [this]
theorem any_at {P : Int → Bool} {xs : List Int} (hn : ∀ k, k < xs.length → P (rd xs (k : Int)) = false) : xs.any P = false := by
  rw [List.any_eq_false]
  intro x hx
  obtain ⟨k, hk, rfl⟩ := List.getElem_of_mem hx
  have := hn k hk
  unfold rd at this
  rw [Int.toNat_natCast, List.getD_eq_getElem?_getD, List.getElem?_eq_getElem hk] at this
  simpa using this
set_option maxHeartbeats 4000000 in
set_option maxRecDepth 1000000 in
theorem step_calls (base bo ba : Nat) (p at_ : Int) (w : World) (h1 : w.heap[bo]? = some (.cells #[.slice none 0 0] 46 (0, 0))) (h2 : w.heap[ba]? = some (.cells #[.int .i64 at_] 3 (0, 0)))
    (hne : bo ≠ ba) (hb0 : base ≤ bo) (hb1 : base ≤ ba) :
    Calls Tryd.prog 34 #[.int .i64 p, .pointer (some ⟨bo, 0, none⟩), .pointer (some ⟨ba, 0, none⟩)] w fun e w' => e = .returned (.tuple #[]) ∧ ∃ v, w'.heap[bo]? = some (.cells #[v] 46 (0, 0)) ∧
      Kd.R (Kd.int .i64) 3 w' base (fun k => k ≠ bo ∧ k ≠ ba) v [p] ∧ Below base w w' := by
  have H1 := Lib.hid h1
  have H2 := Lib.hid h2
  have hl1 : Hid (bo < w.heap.size) := (Array.getElem?_eq_some_iff.1 h1).1
  have hl2 : Hid (ba < w.heap.size) := (Array.getElem?_eq_some_iff.1 h2).1
  have hc1 : w.cell? ⟨bo, 0, none⟩ = some (.slice none 0 0) := by rw [blk_cell h1 0]; rfl
  clear h1 h2
  go_enter Tryd.func34, Tryd.ntmps34
  go_wp2_with (at_builtin; refine Kd.R_append (Kd.int .i64) (w0 := w) w.heap.size rfl (.tmp 4) (.tmp 6) 46 3 (.int .i64 0) 8 rfl Tryd.underlying46 info3 rfl (by decide) (by omega) (.slice none 0 0) [] p [.int .i64 p] (fun _ => True) (fun _ => False) rfl rfl ?aP (fun _ hk => hk.elim) ?aF ?aO ?aB ?aS ?aL ?_; (case aP => exact rfl); (case aB => exact (by repeat (first | exact Below.refl _ _ | apply below_alloc))); (case aF => exact (fun _ _ => trivial)); (case aO => exact Kd.R_nil _ _ _ _ _); (case aS => simp); (case aL => simp); intro v8 w8 ho hb hg hat; obtain ⟨A8, c8, rfl⟩ := Kd.R_slice ho; have hx8 : w8.heap[bo]? = some (.cells #[.slice none 0 0] 46 (0, 0)) := (hb.block _ hl1.out).trans H1.out; have hs8 : w8.cell? ⟨bo, 0, none⟩ = some (.slice none 0 0) := (blk_cell hx8 0).trans rfl; have hf8 : w8.frozen? ⟨bo, 0, none⟩ = false := blk_frozen hx8 0; have hy8 : w8.heap[ba]? = some (.cells #[.int .i64 at_] 3 (0, 0)) := (hb.block _ hl2.out).trans H2.out; have hs9 : w8.cell? ⟨ba, 0, none⟩ = some (.int .i64 at_) := (blk_cell hy8 0).trans rfl; have hf9 : w8.frozen? ⟨ba, 0, none⟩ = false := blk_frozen hy8 0)
  go_end0
  have g1 := hl1.out
  have g2 := hl2.out
  have r1 : Kd.R (Kd.int .i64) 3 w8 base (fun k => k ≠ bo ∧ k ≠ ba) (.slice A8 1 c8) [p] := Kd.R_lower (Kd.R_mono (Kd.R_bound ho) (fun k hk => by have := hk.2.1; omega)) (by omega)
  refine ⟨rfl, _, (Below.heap_setCell _ ⟨ba, 0, none⟩ _ _ hne).trans (blk_put hx8 0 _ rfl), ?_, ?_⟩
  · exact Kd.R_far (p := ⟨ba, 0, none⟩) (Kd.R_far (p := ⟨bo, 0, none⟩) r1 (fun _ hk => hk.1) _) (fun _ hk => hk.2) _
  · exact ((hb.mono (by omega)).setCell (p := ⟨bo, 0, none⟩) hb0 _).setCell (p := ⟨ba, 0, none⟩) hb1 _
end Go.Proofs.YtfklhpdnbbefbaaDoor.Rg
