/-
  A row of spells in which one is replaced.
-/
import Derived.Test.YtofjhkjahpdkiaaDoorWeP0
namespace Go.Proofs.YtofjhkjahpdkiaaDoor.We
open Go.RowKit Go.MapKept Go.Proofs.YtofjhkjahpdkiaaDoorW.PrintWords Go.Proofs.YtofjhkjahpdkiaaDoor.Px
set_option linter.unusedVariables false
set_option linter.unusedSimpArgs false
theorem addg (g n : Nat) : (Addr.mk g 0 none).add n = ⟨g, n, none⟩ := by
  unfold Addr.add
  split
  · rename_i h; simp_all
  · simp
theorem CB_drew {W : World} {b : Nat} {c : Cd} (h : CB W b c) : CB W.drew b c := h
def putSp (W : World) (g o : Nat) (s : SSp) : World := ((((W.setCell ⟨g, o, none⟩ (.int .i64 s.f0)).setCell ⟨g, o + 1, none⟩ (.int .i64 s.f1)).setCell ⟨g, o + 2, none⟩ (.int .i64 s.f2)).setCell ⟨g, o + 3, none⟩ (.int .i64 s.f3)).setCell ⟨g, o + 4, none⟩ (.int .i64 s.f4)
theorem putSp_below {B g o : Nat} {w W : World} {s : SSp} (h : Below B w W) (hg : B ≤ g) : Below B w (putSp W g o s) := ((((h.setCell (p := ⟨g, o, none⟩) hg _).setCell (p := ⟨g, o + 1, none⟩) hg _).setCell (p := ⟨g, o + 2, none⟩) hg _).setCell (p := ⟨g, o + 3, none⟩) hg _).setCell (p := ⟨g, o + 4, none⟩) hg _
theorem putSp_far {g o b : Nat} {W : World} {s : SSp} {c : Cd} (h : CB W b c) (hg : b ≠ g) : CB (putSp W g o s) b c := blk_far (blk_far (blk_far (blk_far (blk_far h hg _) hg _) hg _) hg _) hg _
theorem putSp_other {W : World} {g o j : Nat} {s : SSp} (h : ¬ (o ≤ j ∧ j ≤ o + 4)) : (putSp W g o s).cell? ⟨g, j, none⟩ = W.cell? ⟨g, j, none⟩ := by
  unfold putSp
  rw [World.cell?_setCell_other _ _ _ _ (by intro e; injection e with _ e; omega), World.cell?_setCell_other _ _ _ _ (by intro e; injection e with _ e; omega), World.cell?_setCell_other _ _ _ _ (by intro e; injection e with _ e; omega), World.cell?_setCell_other _ _ _ _ (by intro e; injection e with _ e; omega), World.cell?_setCell_other _ _ _ _ (by intro e; injection e with _ e; omega)]
theorem putSp_same {W : World} {g o : Nat} {s : SSp} {u0 u1 u2 u3 u4 : Value} (e0 : W.cell? ⟨g, o, none⟩ = some u0) (e1 : W.cell? ⟨g, o + 1, none⟩ = some u1) (e2 : W.cell? ⟨g, o + 2, none⟩ = some u2) (e3 : W.cell? ⟨g, o + 3, none⟩ = some u3) (e4 : W.cell? ⟨g, o + 4, none⟩ = some u4) :
    (putSp W g o s).cell? ⟨g, o, none⟩ = some (.int .i64 s.f0) ∧ (putSp W g o s).cell? ⟨g, o + 1, none⟩ = some (.int .i64 s.f1) ∧ (putSp W g o s).cell? ⟨g, o + 2, none⟩ = some (.int .i64 s.f2) ∧ (putSp W g o s).cell? ⟨g, o + 3, none⟩ = some (.int .i64 s.f3) ∧ (putSp W g o s).cell? ⟨g, o + 4, none⟩ = some (.int .i64 s.f4) := by
  unfold putSp
  refine ⟨?_, ?_, ?_, ?_, ?_⟩
  · rw [World.cell?_setCell_other _ _ _ _ (by intro e; injection e with _ e; omega), World.cell?_setCell_other _ _ _ _ (by intro e; injection e with _ e; omega), World.cell?_setCell_other _ _ _ _ (by intro e; injection e with _ e; omega), World.cell?_setCell_other _ _ _ _ (by intro e; injection e with _ e; omega)]
    exact World.cell?_setCell_same _ _ _ (e0)
  · rw [World.cell?_setCell_other _ _ _ _ (by intro e; injection e with _ e; omega), World.cell?_setCell_other _ _ _ _ (by intro e; injection e with _ e; omega), World.cell?_setCell_other _ _ _ _ (by intro e; injection e with _ e; omega)]
    exact World.cell?_setCell_same _ _ _ (by rw [World.cell?_setCell_other _ _ _ _ (by intro e; injection e with _ e; omega)]; exact e1)
  · rw [World.cell?_setCell_other _ _ _ _ (by intro e; injection e with _ e; omega), World.cell?_setCell_other _ _ _ _ (by intro e; injection e with _ e; omega)]
    exact World.cell?_setCell_same _ _ _ (by rw [World.cell?_setCell_other _ _ _ _ (by intro e; injection e with _ e; omega), World.cell?_setCell_other _ _ _ _ (by intro e; injection e with _ e; omega)]; exact e2)
  · rw [World.cell?_setCell_other _ _ _ _ (by intro e; injection e with _ e; omega)]
    exact World.cell?_setCell_same _ _ _ (by rw [World.cell?_setCell_other _ _ _ _ (by intro e; injection e with _ e; omega), World.cell?_setCell_other _ _ _ _ (by intro e; injection e with _ e; omega), World.cell?_setCell_other _ _ _ _ (by intro e; injection e with _ e; omega)]; exact e3)
  · exact World.cell?_setCell_same _ _ _ (by rw [World.cell?_setCell_other _ _ _ _ (by intro e; injection e with _ e; omega), World.cell?_setCell_other _ _ _ _ (by intro e; injection e with _ e; omega), World.cell?_setCell_other _ _ _ _ (by intro e; injection e with _ e; omega), World.cell?_setCell_other _ _ _ _ (by intro e; injection e with _ e; omega)]; exact e4)
theorem C_put {W : World} {g n j : Nat} {xs : List SSp} {s : SSp} (h : Kd.C kSp W (some ⟨g, 0, none⟩) n xs) (hj : j < n) : Kd.C kSp (putSp W g (j * 5) s) (some ⟨g, 0, none⟩) n (xs.set j s) := by
  obtain ⟨h1, h2, h3⟩ := h
  refine ⟨by rw [List.length_set]; exact h1, h2, fun hn => ?_⟩
  obtain ⟨ad, e, hc⟩ := h3 hn
  injection e with e
  subst e
  refine ⟨_, rfl, fun p q hq => ?_⟩
  by_cases hp : p = j
  · subst hp
    rw [List.getElem?_set_self (by omega)] at hq
    injection hq with hq
    subst hq
    obtain ⟨c, hs, hr, hcell⟩ := hc p (xs[p]'(by omega)) (List.getElem?_eq_getElem (by omega))
    rw [k32_open hr] at hcell
    refine ⟨_, rfl, k32_mk _ s, fun i u hu => ?_⟩
    have e0 := hcell 0 _ rfl
    have e1 := hcell 1 _ rfl
    have e2 := hcell 2 _ rfl
    have e3 := hcell 3 _ rfl
    have e4 := hcell 4 _ rfl
    rw [addg] at e0 e1 e2 e3 e4 ⊢
    obtain ⟨z0, z1, z2, z3, z4⟩ := putSp_same (s := s) (o := p * 5) e0 e1 e2 e3 e4
    match i, hu with
    | 0, hu => rw [← Option.some.inj hu]; exact z0
    | 1, hu => rw [← Option.some.inj hu]; exact z1
    | 2, hu => rw [← Option.some.inj hu]; exact z2
    | 3, hu => rw [← Option.some.inj hu]; exact z3
    | 4, hu => rw [← Option.some.inj hu]; exact z4
  · rw [List.getElem?_set_ne (fun e => hp e.symm)] at hq
    obtain ⟨c, hs, hr, hcell⟩ := hc p q hq
    refine ⟨c, hs, ?_, fun i u hu => ?_⟩
    · rw [k32_open hr]; exact k32_mk _ q
    · have hi : i < 5 := by
        have := (List.getElem?_eq_some_iff.1 hu).1
        rw [hs] at this
        exact this
      have h4 := hcell i u hu
      rw [addg] at h4 ⊢
      rw [putSp_other]
      · exact h4
      · show ¬ (j * 5 ≤ p * 5 + i ∧ p * 5 + i ≤ j * 5 + 4)
        omega
end Go.Proofs.YtofjhkjahpdkiaaDoor.We
