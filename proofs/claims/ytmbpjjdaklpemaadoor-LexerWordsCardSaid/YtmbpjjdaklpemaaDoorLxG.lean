/-
  The laws' small functions written (a token's bytes) and Same (lists of tokens, where they are equal), by walks.
-/
import Derived.Test.YtmbpjjdaklpemaaDoorLxK
import Derived.Test.YtmbpjjdaklpemaaDoorLxH
namespace Go.Proofs.YtmbpjjdaklpemaaDoor.Px
open Go.RowKit Go.Proofs.YtmbpjjdaklpemaaDoorW.PrintWords Go.Proofs.YtmbpjjdaklpemaaDoorW.PrintLast Go.Proofs.YtmbpjjdaklpemaaDoorW.PrintMore Go.Proofs.YtmbpjjdaklpemaaDoor.Lx
set_option linter.unusedVariables false
set_option linter.unusedSimpArgs false
def observatorylaw08_written.f (a0_0 : Int) (a0_1 : ByteArray) (a0_2 : Int) (a0_3 : Int) : Option ByteArray :=
  if a0_0 = 3 then (if a0_1.size ≤ 20000 then some ((⟨#[34]⟩ ++ a0_1) ++ ⟨#[34]⟩) else none) else some a0_1
set_option maxHeartbeats 1000000 in
theorem observatorylaw08_written.calls (a0_0 : Int) (a0_1 : ByteArray) (a0_2 : Int) (a0_3 : Int) (r : ByteArray) (w : World) (h : observatorylaw08_written.f a0_0 a0_1 a0_2 a0_3 = some r) :
    Calls Tryd.prog 16 #[.agg #[.int .i64 a0_0, .string a0_1, .int .i64 a0_2, .int .i64 a0_3]] w fun e w' => e = .returned (.string r) ∧ Below w.heap.size w w' := by
  unfold observatorylaw08_written.f at h
  by_cases h3 : a0_0 = 3
  · rw [if_pos h3] at h
    by_cases hz : a0_1.size ≤ 20000
    · rw [if_pos hz] at h
      obtain rfl := Option.some.inj h
      subst h3
      have hz2 : ((⟨#[34]⟩ : ByteArray) ++ a0_1).size = 1 + a0_1.size := by rw [ByteArray.size_append]; rfl
      have hz3 : (1 : Int) + (a0_1.size : Int) ≤ 20001 := by omega
      go_enter Tryd.func16, Tryd.ntmps16
      go_wp2
      go_ret
      exact ⟨rfl, below_new (Below.refl _ _) _ (Nat.le_refl _)⟩
    · rw [if_neg hz] at h; exact absurd h (by simp)
  · rw [if_neg h3] at h
    obtain rfl := Option.some.inj h
    have h3b : (a0_0 == 3) = false := beq_eq_false_iff_ne.2 h3
    go_enter Tryd.func16, Tryd.ntmps16
    go_wp2
    go_ret
    exact ⟨rfl, below_new (Below.refl _ _) _ (Nat.le_refl _)⟩
theorem cell_new_old (w : World) (o : Obj) {a : Addr} {v : Value} (h : w.cell? a = some v) : (w.alloc o).cell? a = w.cell? a := World.cell?_of_block (Below.heap_alloc w o a.block (World.block_lt_of_cell? w a h))
def shS (a : Int) (x : STok) : STok := ⟨x.f0, x.f1, x.f2, x.f3 + a⟩
def SameOk (l0 : List STok) (a1 : Int) (l2 : List STok) : Prop := l2 = l0.map (shS a1) ∧ 0 ≤ a1 ∧ a1 ≤ 1000000 ∧ l0.length ≤ 1000000 ∧ ∀ x ∈ l0, 0 ≤ x.f3 ∧ x.f3 ≤ 1000000
def sameB (a : Int) : List STok → List STok → Bool
  | [], [] => true
  | x :: xs, y :: ys => x.f0 == y.f0 && (x.f1.data.toList == y.f1.data.toList) && x.f2 == y.f2 && x.f3 + a == y.f3 && decide (0 ≤ x.f3) && decide (x.f3 ≤ 1000000) && sameB a xs ys
  | _, _ => false
theorem sameB_ok (a : Int) : ∀ (l m : List STok), sameB a l m = true ↔ (m = l.map (shS a) ∧ ∀ x ∈ l, 0 ≤ x.f3 ∧ x.f3 ≤ 1000000)
  | [], [] => by simp [sameB]
  | [], _ :: _ => by simp [sameB]
  | _ :: _, [] => by simp [sameB]
  | x :: xs, y :: ys => by
    have ih := sameB_ok a xs ys
    rw [sameB]
    simp only [Bool.and_eq_true, beq_iff_eq, decide_eq_true_eq, ih, List.map_cons, List.cons.injEq, List.forall_mem_cons]
    constructor
    · rintro ⟨⟨⟨⟨⟨⟨h0, h1⟩, h2⟩, h3⟩, h4⟩, h5⟩, h6, h7⟩
      refine ⟨⟨?_, h6⟩, ⟨h4, h5⟩, h7⟩
      obtain ⟨y0, ⟨⟨y1⟩⟩, y2, y3⟩ := y
      obtain ⟨x0, ⟨⟨x1⟩⟩, x2, x3⟩ := x
      simp only at h0 h1 h2 h3
      subst h0 h1 h2 h3
      rfl
    · rintro ⟨⟨rfl, h6⟩, ⟨h4, h5⟩, h7⟩
      exact ⟨⟨⟨⟨⟨⟨rfl, rfl⟩, rfl⟩, rfl⟩, h4⟩, h5⟩, h6, h7⟩
def observatoryref08_Same.f (l0 : List STok) (a1 : Int) (l2 : List STok) : Option Bool := if (decide (0 ≤ a1) && decide (a1 ≤ 1000000) && decide (l0.length ≤ 1000000) && sameB a1 l0 l2) = true then some true else none
theorem same_iff (l0 : List STok) (a1 : Int) (l2 : List STok) : (decide (0 ≤ a1) && decide (a1 ≤ 1000000) && decide (l0.length ≤ 1000000) && sameB a1 l0 l2) = true ↔ SameOk l0 a1 l2 := by
  simp only [Bool.and_eq_true, decide_eq_true_eq, sameB_ok, SameOk]
  constructor
  · rintro ⟨⟨⟨h1, h2⟩, h3⟩, h4, h5⟩; exact ⟨h4, h1, h2, h3, h5⟩
  · rintro ⟨h4, h1, h2, h3, h5⟩; exact ⟨⟨⟨h1, h2⟩, h3⟩, h4, h5⟩
attribute [local go_sem high] eqA30
set_option maxHeartbeats 4000000 in
theorem observatoryref08_Same.calls (A0 : Option Addr) (c0 : Nat) (l0 : List STok) (a1 : Int) (A2 : Option Addr) (c2 : Nat) (l2 : List STok) (r : Bool) (w : World) (hr0 : Kd.C kTok w A0 l0.length l0) (hc0 : l0.length ≤ c0) (hr2 : Kd.C kTok w A2 l2.length l2) (hc2 : l2.length ≤ c2) (h : observatoryref08_Same.f l0 a1 l2 = some r) :
    Calls Tryd.prog 14 #[.slice A0 l0.length c0, .int .i64 a1, .slice A2 l2.length c2] w fun e w' => e = .returned (.bool r) ∧ Below w.heap.size w w' := by
  unfold observatoryref08_Same.f at h
  by_cases hs : SameOk l0 a1 l2
  · rw [if_pos ((same_iff l0 a1 l2).2 hs)] at h
    obtain rfl := Option.some.inj h
    obtain ⟨rfl, ha0, ha1, hlen, hx⟩ := hs
    have HX := Lib.hid hx
    have HR0 := Lib.hid hr0
    have HR2 := Lib.hid hr2
    clear hx hr0 hr2 h
    have hl2 : (List.map (shS a1) l0).length = l0.length := List.length_map _
    rw [hl2] at hc2 ⊢
    have HR2' : Hid (Kd.C kTok w A2 l0.length (List.map (shS a1) l0)) := by have := HR2.out; rw [hl2] at this; exact this
    clear HR2 hl2
    go_enter Tryd.func14, Tryd.ntmps14
    go_wp2
    go_loopw [7] (fun v wr => ∃ k : Nat, k ≤ l0.length ∧ v = .int .i64 k ∧ Hid (Below w.heap.size w wr)) (fun v _ => l0.length - (intOf v).toNat)
    case atStart => exact ⟨0, Nat.zero_le _, rfl, Below.refl _ _⟩
    case round =>
      obtain ⟨k, hk, rfl, HB⟩ := hrel
      by_cases hlt : k < l0.length
      · obtain ⟨x, hxk⟩ : ∃ x, l0[k]? = some x := ⟨_, List.getElem?_eq_getElem hlt⟩
        have hbd := HX.out x (List.mem_of_getElem? hxk)
        have e1 : rd_T30 l0 (k : Int) = x := by
          unfold rd_T30; rw [Int.toNat_natCast, List.getD_eq_getElem?_getD, hxk]; rfl
        have e2 : rd_T30 (List.map (shS a1) l0) (k : Int) = shS a1 x := by
          unfold rd_T30; rw [Int.toNat_natCast, List.getD_eq_getElem?_getD, List.getElem?_map, hxk]; rfl
        obtain ⟨ad, ea, a0, a1', a2, a3⟩ := at_T30 HR0.out (k : Int) (by omega) (by omega)
        obtain ⟨bd, eb, b0, b1, b2, b3⟩ := at_T30 HR2'.out (k : Int) (by omega) (by omega)
        subst ea eb
        rw [e1] at a0 a1' a2 a3
        rw [e2] at b0 b1 b2 b3
        simp only [shS] at b0 b1 b2 b3
        clear e1 e2 hxk
        replace a0 := (HB.out.cell (World.block_lt_of_cell? w _ a0)).trans a0
        replace a1' := (HB.out.cell (World.block_lt_of_cell? w _ a1')).trans a1'
        replace a2 := (HB.out.cell (World.block_lt_of_cell? w _ a2)).trans a2
        replace a3 := (HB.out.cell (World.block_lt_of_cell? w _ a3)).trans a3
        replace b0 := (HB.out.cell (World.block_lt_of_cell? w _ b0)).trans b0
        replace b1 := (HB.out.cell (World.block_lt_of_cell? w _ b1)).trans b1
        replace b2 := (HB.out.cell (World.block_lt_of_cell? w _ b2)).trans b2
        replace b3 := (HB.out.cell (World.block_lt_of_cell? w _ b3)).trans b3
        simp only [Int.toNat_natCast] at a0 a1' a2 a3 b0 b1 b2 b3
        obtain ⟨x0, x1, x2, x3⟩ := x
        simp only at a0 a1' a2 a3 b0 b1 b2 b3 hbd
        have hbn : bd.block ≠ wr.heap.size := Nat.ne_of_lt (by have := World.block_lt_of_cell? wr _ b0; first | rwa [add_block] at this | exact this)
        have hbn' : wr.heap.size ≠ bd.block := Ne.symm hbn
        have q0 := fun o => (cell_new_old wr o b0).trans b0
        have q1 := fun o => (cell_new_old wr o b1).trans b1
        have q2 := fun o => (cell_new_old wr o b2).trans b2
        have q3 := fun o => (cell_new_old wr o b3).trans b3
        have p1 : (0 : Int) ≤ (k : Int) := by omega
        have p2 : (k : Int) < (l0.length : Int) := by omega
        go_wp2
        go_quiet (fail)
        go_wp2
        exact ⟨⟨k + 1, by omega, by go_num, below_drewN (below_new HB.out _ (Nat.le_refl _)) _⟩, by simp [intOf]; omega⟩
      · go_wp2
        go_ret
        exact ⟨rfl, HB.out⟩
  · rw [if_neg (fun hh => hs ((same_iff l0 a1 l2).1 hh))] at h; exact absurd h (by simp)
theorem same_true {l0 : List STok} {a1 : Int} {l2 : List STok} (h : SameOk l0 a1 l2) : observatoryref08_Same.f l0 a1 l2 = some true := by
  unfold observatoryref08_Same.f; rw [if_pos ((same_iff l0 a1 l2).2 h)]
end Go.Proofs.YtmbpjjdaklpemaaDoor.Px
