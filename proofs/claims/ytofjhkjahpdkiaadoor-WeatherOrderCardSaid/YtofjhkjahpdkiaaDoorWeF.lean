/-
  weather's Parse: the closure must, the closures numbers.
-/
import Derived.Test.YtofjhkjahpdkiaaDoorWeE
namespace Go.Proofs.YtofjhkjahpdkiaaDoor.We
open Go.RowKit Go.MapKept Go.Proofs.YtofjhkjahpdkiaaDoorW.PrintWords Go.Proofs.YtofjhkjahpdkiaaDoor.Px
set_option linter.unusedVariables false
set_option linter.unusedSimpArgs false
attribute [local go_sem] run_store_func run_store_nilFunc
theorem beq_t {a b : ByteArray} (h : a = b) : (a == b) = true := (bytes_beq a b).2 h
theorem beq_f {a b : ByteArray} (h : ¬ a = b) : (a == b) = false := by
  cases hh : (a == b) with
  | false => rfl
  | true => exact absurd ((bytes_beq a b).1 hh) h
theorem tl_t {a b : ByteArray} (h : a = b) : (a.toList == b.toList) = true := (beq_toListBytes a b).symm.trans (beq_t h)
theorem tl_f {a b : ByteArray} (h : ¬ a = b) : (a.toList == b.toList) = false := (beq_toListBytes a b).symm.trans (beq_f h)
theorem bne_t {a b : ByteArray} (h : ¬ a = b) : (a != b) = true := by unfold bne; rw [beq_f h]; rfl
theorem bne_f {a b : ByteArray} (h : a = b) : (a != b) = false := by unfold bne; rw [beq_t h]; rfl
def nextV (b5 b1 : Nat) : Value := .func (.func 27) #[] #[.pointer (some ⟨b5, 0, none⟩), .pointer (some ⟨b1, 0, none⟩)]
theorem next_err (lo b5 b1 : Nat) (k : Int) (txt : ByteArray) (l : List STok) (x : Fail) (hx : pNext txt.size k l = .error x) (w : World) (hT : Tk lo b5 w l) (h1 : w.heap[b1]? = some (.cells #[.string txt] 9 (0, 0))) :
    Calls Tryd.prog 27 #[.int .i64 k, .pointer (some ⟨b5, 0, none⟩), .pointer (some ⟨b1, 0, none⟩)] w fun e w' => e = .panicked (failV x.1 x.2) ∧ But b5 w w' := by
  cases l with
  | nil =>
    injection hx with hx
    subst hx
    exact (next_end lo b5 b1 k txt w hT h1).mono (fun e w' h => ⟨h.1, .of h.2⟩)
  | cons t l =>
    rw [pNext] at hx
    by_cases hk : t.f0 = k
    · rw [if_pos hk] at hx; cases hx
    · rw [if_neg hk] at hx
      injection hx with hx
      subst hx
      exact (next_bad lo b5 b1 k t l hk w hT).mono (fun e w' h => ⟨h.1, .of h.2⟩)
theorem next_go (lo b5 b1 : Nat) (k len : Int) (l : List STok) (t : STok) (r : List STok) (hx : pNext len k l = .ok (t, r)) (w : World) (hT : Tk lo b5 w l) :
    Calls Tryd.prog 27 #[.int .i64 k, .pointer (some ⟨b5, 0, none⟩), .pointer (some ⟨b1, 0, none⟩)] w fun e w' => e = .returned (.agg #[.int .i64 t.f0, .string t.f1, .int .i64 t.f2, .int .i64 t.f3]) ∧ But b5 w w' ∧ Tk lo b5 w' r := by
  cases l with
  | nil => cases hx
  | cons t' l =>
    rw [pNext] at hx
    by_cases hk : t'.f0 = k
    · rw [if_pos hk] at hx
      injection hx with hx
      injection hx with h1 h2
      subst h1
      subst h2
      rw [← hk]
      exact next_ok lo b5 b1 t' l w hT
    · rw [if_neg hk] at hx; cases hx
set_option maxHeartbeats 4000000 in
set_option maxRecDepth 1000000 in
theorem must_err (lo b5 b1 b6 : Nat) (k : Int) (s txt : ByteArray) (l : List STok) (x : Fail) (hx : pMust txt.size k s l = .error x) (w : World) (hT : Tk lo b5 w l) (h1 : w.heap[b1]? = some (.cells #[.string txt] 9 (0, 0)))
    (h6 : w.heap[b6]? = some (.cells #[nextV b5 b1] 58 (0, 0))) :
    Calls Tryd.prog 28 #[.int .i64 k, .string s, .pointer (some ⟨b6, 0, none⟩)] w fun e w' => e = .panicked (failV x.1 x.2) ∧ But b5 w w' := by
  have c6 : w.cell? ⟨b6, 0, none⟩ = some (nextV b5 b1) := (blk_cell h6 0).trans rfl
  unfold nextV at c6
  unfold pMust at hx
  cases hn : pNext txt.size k l with
  | error y =>
    rw [hn] at hx
    injection hx with hx
    subst hx
    have hc := next_err lo b5 b1 k txt l y hn w hT h1
    clear hn hT h1 h6
    go_enter Tryd.func28, Tryd.ntmps28
    go_wp2_with fail
    refine hc.mono ?_
    rintro e w1 ⟨rfl, hb⟩
    have HB := Lib.hid hb
    clear hb
    go_wp2_with fail
    exact ⟨rfl, rfl, HB.out⟩
  | ok p =>
    obtain ⟨t, r⟩ := p
    rw [hn] at hx
    have hc := next_go lo b5 b1 k _ l t r hn w hT
    simp only at hx
    split at hx
    · cases hx
    · injection hx with hx
      subst hx
      rename_i hs
      have hs1 : (t.f1.toList == s.toList) = false := tl_f hs
      clear hn hT h1 h6 hs
      go_enter Tryd.func28, Tryd.ntmps28
      go_wp2_with fail
      refine hc.mono ?_
      rintro e w1 ⟨rfl, hb, hT⟩
      have HB := Lib.hid hb
      clear hb hT hc
      go_wp2_with fail
      exact ⟨rfl, rfl, HB.out.alloc _⟩
set_option maxHeartbeats 4000000 in
set_option maxRecDepth 1000000 in
theorem must_go (lo b5 b1 b6 : Nat) (k len : Int) (s : ByteArray) (l : List STok) (q : Int) (r : List STok) (hx : pMust len k s l = .ok (q, r)) (w : World) (hT : Tk lo b5 w l)
    (h6 : w.heap[b6]? = some (.cells #[nextV b5 b1] 58 (0, 0))) :
    Calls Tryd.prog 28 #[.int .i64 k, .string s, .pointer (some ⟨b6, 0, none⟩)] w fun e w' => e = .returned (.int .i64 q) ∧ But b5 w w' ∧ Tk lo b5 w' r := by
  have c6 : w.cell? ⟨b6, 0, none⟩ = some (nextV b5 b1) := (blk_cell h6 0).trans rfl
  unfold nextV at c6
  unfold pMust at hx
  cases hn : pNext len k l with
  | error y => rw [hn] at hx; cases hx
  | ok p =>
    obtain ⟨t, r'⟩ := p
    rw [hn] at hx
    have hc := next_go lo b5 b1 k _ l t r' hn w hT
    simp only at hx
    split at hx
    · injection hx with hx
      injection hx with hx1 hx2
      subst hx1
      subst hx2
      rename_i hs
      have hs1 : (t.f1.toList == s.toList) = true := tl_t hs
      clear hn hT h6 hs
      go_enter Tryd.func28, Tryd.ntmps28
      go_wp2_with fail
      refine hc.mono ?_
      rintro e w1 ⟨rfl, hb, hT⟩
      have HB := Lib.hid hb
      have HT := Lib.hid hT
      clear hb hT hc
      go_wp2_with fail
      go_ret
      exact ⟨rfl, HB.out.alloc _, HT.out.below (bel_new (Below.refl _ _) _ (Nat.le_refl _))⟩
    · cases hx
theorem nums1 (a : Addr) (w : World) : Calls Tryd.prog 45 #[.pointer (some a)] w fun e w' => ∃ g c, e = .returned (.slice (some ⟨g, 0, none⟩) 2 c) ∧ w'.cell? ⟨g, 0, none⟩ = some (.pointer (some ⟨a.block, a.off + 1, none⟩)) ∧ w'.cell? ⟨g, 1, none⟩ = some (.pointer (some ⟨a.block, a.off + 2, none⟩)) ∧ w.heap.size ≤ g ∧ Below w.heap.size w w' := by
  go_enter Tryd.func45, Tryd.ntmps45
  go_wp2_with fail
  go_region
  go_wp2_with fail
  go_ret
  exact ⟨_, _, rfl, by simp, by simp, Nat.le_refl _, (bel_new (Below.refl _ _) _ (Nat.le_refl _)).drew⟩
theorem nums2 (a : Addr) (w : World) : Calls Tryd.prog 47 #[.pointer (some a)] w fun e w' => ∃ g c, e = .returned (.slice (some ⟨g, 0, none⟩) 1 c) ∧ w'.cell? ⟨g, 0, none⟩ = some (.pointer (some ⟨a.block, a.off + 2, none⟩)) ∧ w.heap.size ≤ g ∧ Below w.heap.size w w' := by
  go_enter Tryd.func47, Tryd.ntmps47
  go_wp2_with fail
  go_ret
  exact ⟨_, _, rfl, by simp, Nat.le_refl _, bel_new (Below.refl _ _) _ (Nat.le_refl _)⟩
theorem nums3 (a : Addr) (w : World) : Calls Tryd.prog 49 #[.pointer (some a)] w fun e w' => e = .returned (.slice none 0 0) ∧ w' = w := by
  go_enter Tryd.func49, Tryd.ntmps49
  go_wp2_with fail
  go_ret
  exact ⟨rfl, rfl⟩
end Go.Proofs.YtofjhkjahpdkiaaDoor.We
