/-
  The lexer's table of classes: the closure that fills it, and the whole function.
-/
import Derived.Test.YtofjhkjahpdkiaaDoorLxB
import Derived.Test.YtofjhkjahpdkiaaDoorWWords
import Derived.Deep.MidRow
namespace Go.Proofs.YtofjhkjahpdkiaaDoor.Lx
open Go.RowKit Go.Proofs.YtofjhkjahpdkiaaDoorW.PrintWords
set_option linter.unusedVariables false
set_option linter.unusedSimpArgs false
def stAll (w : World) (B : Nat) (c : Int) (l : List UInt8) : World := l.foldl (fun w b => w.setCell ⟨B, b.toNat, none⟩ (.int .i64 c)) w
def tabAll (m : List Int) (c : Int) (l : List UInt8) : List Int := l.foldl (fun m b => m.set b.toNat c) m
def tabV (m : List Int) : Array Value := (m.map (Value.int .i64)).toArray
def IsTab (w : World) (B : Nat) (m : List Int) : Prop := m.length = 256 ∧ w.heap[B]? = some (.cells (tabV m) 84 (0, 0))
theorem IsTab.set {w : World} {B : Nat} {m : List Int} (h : IsTab w B m) (b : UInt8) (c : Int) : IsTab (w.setCell ⟨B, b.toNat, none⟩ (.int .i64 c)) B (m.set b.toNat c) := by
  refine ⟨by rw [List.length_set]; exact h.1, blk_put h.2 _ _ ?_⟩
  unfold tabV
  rw [List.map_set]
  simp
theorem stAll_tab {B : Nat} (c : Int) (l : List UInt8) {w : World} {m : List Int} (h : IsTab w B m) : IsTab (stAll w B c l) B (tabAll m c l) := by
  induction l generalizing w m with
  | nil => exact h
  | cons b r ih => exact ih (h.set b c)
theorem stAll_snoc (w : World) (B : Nat) (c : Int) (l : List UInt8) (b : UInt8) : stAll w B c (l ++ [b]) = (stAll w B c l).setCell ⟨B, b.toNat, none⟩ (.int .i64 c) := by
  unfold stAll; rw [List.foldl_append]; rfl
theorem stAll_below {B0 B : Nat} (c : Int) (l : List UInt8) {a w : World} (h : Below B0 a w) (hB : B0 ≤ B) : Below B0 a (stAll w B c l) := by
  induction l generalizing w with
  | nil => exact h
  | cons b r ih => exact ih (h.setCell (p := ⟨B, b.toNat, none⟩) hB _)
theorem stAll_far {B : Nat} (c : Int) (l : List UInt8) {w : World} {k : Nat} (hk : k ≠ B) : (stAll w B c l).heap[k]? = w.heap[k]? := by
  induction l generalizing w with
  | nil => rfl
  | cons b r ih => exact (ih (w := w.setCell ⟨B, b.toNat, none⟩ (.int .i64 c))).trans (Below.heap_setCell w ⟨B, b.toNat, none⟩ _ k hk)
theorem IsTab.cell {w : World} {B : Nat} {m : List Int} (h : IsTab w B m) (b : UInt8) : ∃ v, w.cell? ⟨B, b.toNat, none⟩ = some v ∧ w.frozen? ⟨B, b.toNat, none⟩ = false := by
  have hb := UInt8.toNat_lt b
  have hlt : b.toNat < (tabV m).size := by unfold tabV; simp [h.1]; exact hb
  exact ⟨(tabV m)[b.toNat]'hlt, by rw [blk_cell h.2 b.toNat]; exact Array.getElem?_eq_getElem hlt, blk_frozen h.2 _⟩
theorem take_succ' (s : ByteArray) (k : Nat) (h : k < s.size) : s.data.toList.take (k + 1) = s.data.toList.take k ++ [s[k]] := by
  rw [List.take_succ_eq_append_getElem (by simpa using h)]; rfl
set_option maxHeartbeats 1000000 in
theorem set_calls (s : ByteArray) (c : Int) (B : Nat) (w : World) (m : List Int) (hs : s.size ≤ 60) (h : IsTab w B m) :
    Calls Tryd.prog 56 #[.string s, .int .i64 c, .pointer (some ⟨B, 0, none⟩)] w fun e w' => e = .returned (.tuple #[]) ∧ w' = stAll w B c s.data.toList := by
  have HT := Lib.hid h
  clear h
  go_enter Tryd.func56, Tryd.ntmps56
  go_wp2
  go_loopw [5] (fun v wr => ∃ k : Nat, k ≤ s.size ∧ v = .int .i64 k ∧ Hid (wr = stAll w B c (s.data.toList.take k))) (fun v _ => s.size - (intOf v).toNat)
  case atStart => exact ⟨0, Nat.zero_le _, rfl, by simp [stAll, Hid]⟩
  case round =>
    obtain ⟨k, hk, rfl, HW⟩ := hrel
    by_cases hlt : k < s.size
    · have ht : IsTab wr B (tabAll m c (s.data.toList.take k)) := by rw [HW.out]; exact stAll_tab c _ HT.out
      obtain ⟨v, hc, hf⟩ := ht.cell s[k]
      have hx : (s[k]).toNat < 256 := UInt8.toNat_lt _
      clear ht
      go_wp2
      refine ⟨⟨k + 1, by omega, by go_num, ?_⟩, by simp [intOf]; omega⟩
      show _ = _
      rw [take_succ' s k hlt, stAll_snoc, ← HW.out]
    · obtain rfl : k = s.size := by omega
      go_wp2
      first | go_end0 | ((try simp only [Exit.inBlock, Exit.then]); refine bodyPost_ret (results_none rfl _ _ _) rfl ?_)
      refine ⟨rfl, ?_⟩
      rw [HW.out, List.take_of_length_le (by rw [← Lib.size_eq]; exact Nat.le_refl _)]
theorem set_post (s : ByteArray) (c : Int) (B : Nat) (w : World) (m : List Int) (hs : s.size ≤ 60) (h : IsTab w B m) :
    Calls Tryd.prog 56 #[.string s, .int .i64 c, .pointer (some ⟨B, 0, none⟩)] w fun e w' => e = .returned (.tuple #[]) ∧ IsTab w' B (tabAll m c s.data.toList) ∧ Below B w w' :=
  (set_calls s c B w m hs h).mono fun e w' ⟨he, hw⟩ => ⟨he, by rw [hw]; exact ⟨stAll_tab c _ h, stAll_below c _ (Below.refl _ _) (Nat.le_refl _)⟩⟩
theorem zero_tab : Tryd.zeroCells84 = tabV (List.replicate 256 0) := by kernel_rfl
theorem tab_all : tabAll (tabAll (tabAll (tabAll (tabAll (tabAll (tabAll (tabAll (tabAll (List.replicate 256 0) 3 [97, 98, 99, 100, 101, 102, 103, 104, 105, 106, 107, 108, 109, 110, 111, 112, 113, 114, 115, 116, 117, 118, 119, 120, 121, 122, 65, 66, 67, 68, 69, 70, 71, 72, 73, 74, 75, 76, 77, 78, 79, 80, 81, 82, 83, 84, 85, 86, 87, 88, 89, 90]) 4 [48, 49, 50, 51, 52, 53, 54, 55, 56, 57]) 5 [95]) 1 [32, 9, 10]) 2 [35]) 6 [34]) 7 [33]) 8 [60, 62, 61]) 9 [59, 44, 46, 58, 40, 41, 91, 93, 123, 125, 43, 45, 42, 47] = clsTab := by decide +kernel
set_option maxHeartbeats 4000000 in
set_option maxRecDepth 1000000 in
theorem classes_calls (w : World) :
    Calls Tryd.prog 42 #[] w fun e w' => e = .returned (.agg (tabV clsTab)) ∧ Below w.heap.size w w' := by
  go_enter Tryd.func42, Tryd.ntmps42
  go_wp2_with fail
  have T0 : Hid (IsTab ((w.alloc (.cells Tryd.zeroCells84 84)).alloc (.cells Tryd.zeroCells84 84)) (w.heap.size + 1) (List.replicate 256 0) ∧ Below (w.heap.size + 1) (w.alloc (.cells Tryd.zeroCells84 84)) ((w.alloc (.cells Tryd.zeroCells84 84)).alloc (.cells Tryd.zeroCells84 84))) := by
    refine ⟨⟨rfl, ?_⟩, below_new (Below.refl _ _) _ (by simp)⟩
    rw [zero_tab]
    have h := blk_new (w.alloc (.cells (tabV (List.replicate 256 0)) 84 (0, 0))) (.cells (tabV (List.replicate 256 0)) 84 (0, 0))
    simpa using h
  refine (set_post _ _ (w.heap.size + 1) _ _ (by exact Nat.le_of_ble_eq_true rfl) T0.out.1).mono ?_
  rintro e w1 ⟨rfl, t, k⟩
  have T1 := Lib.hid (And.intro t (T0.out.2.trans k))
  clear t k T0
  go_wp2_with fail
  refine (set_post _ _ (w.heap.size + 1) _ _ (by exact Nat.le_of_ble_eq_true rfl) T1.out.1).mono ?_
  rintro e w2 ⟨rfl, t, k⟩
  have T2 := Lib.hid (And.intro t (T1.out.2.trans k))
  clear t k T1
  go_wp2_with fail
  refine (set_post _ _ (w.heap.size + 1) _ _ (by exact Nat.le_of_ble_eq_true rfl) T2.out.1).mono ?_
  rintro e w3 ⟨rfl, t, k⟩
  have T3 := Lib.hid (And.intro t (T2.out.2.trans k))
  clear t k T2
  go_wp2_with fail
  refine (set_post _ _ (w.heap.size + 1) _ _ (by exact Nat.le_of_ble_eq_true rfl) T3.out.1).mono ?_
  rintro e w4 ⟨rfl, t, k⟩
  have T4 := Lib.hid (And.intro t (T3.out.2.trans k))
  clear t k T3
  go_wp2_with fail
  refine (set_post _ _ (w.heap.size + 1) _ _ (by exact Nat.le_of_ble_eq_true rfl) T4.out.1).mono ?_
  rintro e w5 ⟨rfl, t, k⟩
  have T5 := Lib.hid (And.intro t (T4.out.2.trans k))
  clear t k T4
  go_wp2_with fail
  refine (set_post _ _ (w.heap.size + 1) _ _ (by exact Nat.le_of_ble_eq_true rfl) T5.out.1).mono ?_
  rintro e w6 ⟨rfl, t, k⟩
  have T6 := Lib.hid (And.intro t (T5.out.2.trans k))
  clear t k T5
  go_wp2_with fail
  refine (set_post _ _ (w.heap.size + 1) _ _ (by exact Nat.le_of_ble_eq_true rfl) T6.out.1).mono ?_
  rintro e w7 ⟨rfl, t, k⟩
  have T7 := Lib.hid (And.intro t (T6.out.2.trans k))
  clear t k T6
  go_wp2_with fail
  refine (set_post _ _ (w.heap.size + 1) _ _ (by exact Nat.le_of_ble_eq_true rfl) T7.out.1).mono ?_
  rintro e w8 ⟨rfl, t, k⟩
  have T8 := Lib.hid (And.intro t (T7.out.2.trans k))
  clear t k T7
  go_wp2_with fail
  refine (set_post _ _ (w.heap.size + 1) _ _ (by exact Nat.le_of_ble_eq_true rfl) T8.out.1).mono ?_
  rintro e w9 ⟨rfl, t, k⟩
  have T9 := Lib.hid (And.intro t (T8.out.2.trans k))
  clear t k T8
  have hA : Hid (w9.heap[w.heap.size]? = some (.cells (tabV (List.replicate 256 0)) 84 (0, 0))) := by
    refine (T9.out.2.block w.heap.size (Nat.lt_succ_self _)).trans ?_
    rw [zero_tab]; exact blk_new _ _
  have hth : w9.there w.heap.size 0 (tabV clsTab).size := by
    intro j hj
    have hz : (tabV (List.replicate 256 0)).size = 256 := by decide +kernel
    have hz' : (tabV clsTab).size = 256 := by decide +kernel
    rw [hz'] at hj
    refine ⟨?_, blk_frozen hA.out _⟩
    rw [blk_cell hA.out (0 + j), Array.getElem?_eq_getElem (by rw [hz]; omega)]
    rfl
  have hfin : (w9.setCells w.heap.size 0 (tabV clsTab).toList).heap[w.heap.size]? = some (.cells (tabV clsTab) 84 (0, 0)) := by
    obtain ⟨cur, h1, h2, h3⟩ := setCells_row (tabV clsTab).toList 0 w9 _ hA.out (by decide +kernel)
    rw [h1]
    have : cur = tabV clsTab := by
      apply Array.ext'
      rw [h3]
      have hz : (tabV (List.replicate 256 0)).toList.drop (0 + (tabV clsTab).toList.length) = [] := by decide +kernel
      rw [hz]; simp
    rw [this]
  have hbel : Below w.heap.size w (w9.setCells w.heap.size 0 (tabV clsTab).toList) := by
    have h9 : Below w.heap.size w w9 := (below_new (Below.refl _ _) _ (Nat.le_refl _)).trans (T9.out.2.mono (Nat.le_succ _))
    have hk : ∀ (l : List Value) (o : Nat) (W : World), Below w.heap.size w W → Below w.heap.size w (W.setCells w.heap.size o l) := by
      intro l
      induction l with
      | nil => intro o W h; exact h
      | cons v r ih => intro o W h; exact ih (o + 1) _ (h.setCell (Nat.le_refl _) v)
    exact hk _ _ _ h9
  have HTH := Lib.hid hth
  clear hth
  have HF := Lib.hid hfin
  have HBL := Lib.hid hbel
  clear hfin hbel
  go_wp2_with fail
  refine wp_load_row 84 _ (by rfl) (w.heap.size + 1) (by rfl) 84 (tabV clsTab) (0, 0) _ (by have h := T9.out.1.2; rw [tab_all] at h; exact h) Tryd.underlying84 rfl (by kernel_rfl) ?_
  rename_i hK9
  refine hK9 _ _ ?_
  refine wpList_store_mid rfl 84 _ _ rfl w.heap.size 0 (tabV clsTab) rfl rfl HTH.out (by kernel_rfl) (by decide +kernel) ?_
  go_wp2_with fail
  exact bodyPost_ret (results_cell_row rfl _ _ w.heap.size 84 (tabV clsTab) (0, 0) _ rfl HF.out Tryd.underlying84 rfl (by kernel_rfl)) rfl ⟨rfl, HBL.out⟩
end Go.Proofs.YtofjhkjahpdkiaaDoor.Lx
