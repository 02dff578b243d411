/-
  The laws' fixed examples (head) come to true.
-/
import Derived.Test.YtmbpjjdaklpemaaDoorLxL
import Derived.Test.YtmbpjjdaklpemaaDoorPxx1
namespace Go.Proofs.YtmbpjjdaklpemaaDoor.Px
open Go.RowKit Go.Proofs.YtmbpjjdaklpemaaDoorW.PrintWords Go.Proofs.YtmbpjjdaklpemaaDoorW.PrintLast Go.Proofs.YtmbpjjdaklpemaaDoorW.PrintMore Go.Proofs.YtmbpjjdaklpemaaDoor.Lx
set_option linter.unusedVariables false
set_option linter.unusedSimpArgs false
def exT0 : List STok := [⟨1, ⟨#[114, 111, 119]⟩, 0, 0⟩, ⟨1, ⟨#[97, 49]⟩, 0, 4⟩, ⟨1, ⟨#[97, 116]⟩, 0, 7⟩, ⟨2, ⟨#[55]⟩, 7, 10⟩, ⟨4, ⟨#[62, 61]⟩, 0, 11⟩, ⟨1, ⟨#[120]⟩, 0, 13⟩]
def exT5 : List STok := [⟨1, ⟨#[116, 111]⟩, 0, 0⟩, ⟨3, ⟨#[]⟩, 0, 3⟩, ⟨3, ⟨#[97, 32, 98]⟩, 0, 6⟩, ⟨4, ⟨#[59]⟩, 0, 11⟩]
theorem ex0 : lexer_Lex.f ⟨#[114, 111, 119, 32, 97, 49, 32, 97, 116, 32, 55, 62, 61, 120, 35, 32, 121]⟩ = some (exT0, 0, 0) := by kernel_rfl
theorem ex1 : lexer_Lex.f ⟨#[97, 32, 33, 98]⟩ = some ([], 3, 2) := by kernel_rfl
theorem ex2 : lexer_Lex.f ⟨#[55, 120]⟩ = some ([], 4, 0) := by kernel_rfl
theorem ex3 : lexer_Lex.f ⟨#[49, 50, 51, 52, 53, 54, 55, 56, 57, 48, 49, 50, 51, 52]⟩ = some ([], 4, 0) := by kernel_rfl
theorem ex4 : lexer_Lex.f ⟨#[10, 97, 98, 99, 100, 101, 102, 103, 104, 105, 106, 107, 108, 109, 110, 111, 112, 113, 114, 115, 116, 117, 118, 119, 120, 121]⟩ = some ([], 2, 1) := by kernel_rfl
theorem ex5 : lexer_Lex.f ⟨#[116, 111, 32, 34, 34, 32, 34, 97, 32, 98, 34, 59]⟩ = some (exT5, 0, 0) := by kernel_rfl
theorem ex6 : lexer_Lex.f ⟨#[97, 32, 34, 98]⟩ = some ([], 6, 2) := by kernel_rfl
theorem row_at {w : World} {base : Nat} {ok : Nat → Prop} {v : Value} {xs : List STok} (h : Kd.R kTok 30 w base ok v xs) (hp : 0 < xs.length) : ∃ g cap, v = .slice (some ⟨g, 0, none⟩) xs.length cap ∧ xs.length ≤ cap ∧ g < w.heap.size ∧
    ∀ (i : Nat) (x : STok), xs[i]? = some x → w.cell? ⟨g, i * 4, none⟩ = some (.int .i64 x.f0) ∧ w.cell? ⟨g, i * 4 + 1, none⟩ = some (.string x.f1) ∧ w.cell? ⟨g, i * 4 + 2, none⟩ = some (.int .i64 x.f2) ∧ w.cell? ⟨g, i * 4 + 3, none⟩ = some (.int .i64 x.f3) := by
  obtain ⟨g, cap, hv, _, hlt, _⟩ := Kd.R_form h hp
  subst hv
  obtain ⟨_, hle, hc⟩ := Kd.R_reads' h
  refine ⟨g, cap, rfl, hle, hlt, fun i x hx => ?_⟩
  have hi : i < xs.length := (List.getElem?_eq_some_iff.1 hx).1
  obtain ⟨ad, e, a0, a1, a2, a3⟩ := at_T30 hc (i : Int) (by omega) (by omega)
  cases e
  have hr : rd_T30 xs (i : Int) = x := by
    unfold rd_T30
    rw [Int.toNat_natCast, List.getD_eq_getElem?_getD, hx]; rfl
  rw [hr] at a0 a1 a2 a3
  simp only [Addr.add_mid, Int.toNat_natCast, Nat.zero_add] at a0 a1 a2 a3
  exact ⟨a0, a1, a2, a3⟩
attribute [local go_sem high] eqA30
def observatorylaw08_head.f : Option Bool := some true
set_option maxHeartbeats 8000000 in
set_option maxRecDepth 1000000 in
theorem observatorylaw08_head.calls (r : Bool) (w : World) (h : observatorylaw08_head.f = some r) :
    Calls Tryd.prog 11 #[] w fun e w' => e = .returned (.bool r) ∧ Below w.heap.size w w' := by
  obtain rfl := Option.some.inj h
  go_enter Tryd.func11, Tryd.ntmps11
  go_wp2_with fail
  refine (lexer_Lex.calls _ _ _ _ _ ex0).mono ?_
  rintro e w1 ⟨v0, rfl, R0, b0⟩
  have R0' := Lib.hid R0
  have B := Lib.hid b0
  clear R0 b0
  go_wp2_with fail
  refine (lexer_Lex.calls _ _ _ _ _ ex1).mono ?_
  rintro e w2 ⟨v1, rfl, R1, b1⟩
  have C := Lib.hid (below_then (Below.refl _ _) (Nat.le_refl _) b1)
  have B1 := Lib.hid (below_then B.out B.out.size b1)
  clear B b1 R1
  go_wp2_with fail
  refine (lexer_Lex.calls _ _ _ _ _ ex2).mono ?_
  rintro e w3 ⟨v2, rfl, R2, b2⟩
  have C2 := Lib.hid (below_then C.out C.out.size b2)
  have B2 := Lib.hid (below_then B1.out B1.out.size b2)
  clear b2 R2 B1 C
  go_wp2_with fail
  refine (lexer_Lex.calls _ _ _ _ _ ex3).mono ?_
  rintro e w4 ⟨v3, rfl, R3, b3⟩
  have C3 := Lib.hid (below_then C2.out C2.out.size b3)
  have B3 := Lib.hid (below_then B2.out B2.out.size b3)
  clear b3 R3 B2 C2
  go_wp2_with fail
  refine (lexer_Lex.calls _ _ _ _ _ ex4).mono ?_
  rintro e w5 ⟨v4, rfl, R4, b4⟩
  have C4 := Lib.hid (below_then C3.out C3.out.size b4)
  have B4 := Lib.hid (below_then B3.out B3.out.size b4)
  clear b4 R4 B3 C3
  go_wp2_with fail
  refine (lexer_Lex.calls _ _ _ _ _ ex5).mono ?_
  rintro e w6 ⟨v5, rfl, R5, b5⟩
  have R5' := Lib.hid R5
  have C5 := Lib.hid (below_then C4.out C4.out.size b5)
  have B5 := Lib.hid (below_then B4.out B4.out.size b5)
  clear b5 R5 B4 C4
  go_wp2_with fail
  refine (lexer_Lex.calls _ _ _ _ _ ex6).mono ?_
  rintro e w7 ⟨v6, rfl, R6, b6⟩
  have C6 := Lib.hid (below_then C5.out C5.out.size b6)
  have B6 := Lib.hid (below_then B5.out B5.out.size b6)
  have D := Lib.hid b6
  clear b6 R6 B5 C5
  obtain ⟨g0, cap0, hv0, hc0, hl0, f0⟩ := row_at R0'.out (by decide)
  obtain ⟨g5, cap5, hv5, hc5, hl5, f5⟩ := row_at R5'.out (by decide)
  subst hv0 hv5
  obtain ⟨p10, p11, p12, p13⟩ := f0 1 _ rfl
  replace p10 := (C6.out.cell hl0).trans p10
  replace p11 := (C6.out.cell hl0).trans p11
  replace p12 := (C6.out.cell hl0).trans p12
  replace p13 := (C6.out.cell hl0).trans p13
  obtain ⟨p30, p31, p32, p33⟩ := f0 3 _ rfl
  replace p30 := (C6.out.cell hl0).trans p30
  replace p31 := (C6.out.cell hl0).trans p31
  replace p32 := (C6.out.cell hl0).trans p32
  replace p33 := (C6.out.cell hl0).trans p33
  obtain ⟨p40, p41, p42, p43⟩ := f0 4 _ rfl
  replace p40 := (C6.out.cell hl0).trans p40
  replace p41 := (C6.out.cell hl0).trans p41
  replace p42 := (C6.out.cell hl0).trans p42
  replace p43 := (C6.out.cell hl0).trans p43
  obtain ⟨p50, p51, p52, p53⟩ := f0 5 _ rfl
  replace p50 := (C6.out.cell hl0).trans p50
  replace p51 := (C6.out.cell hl0).trans p51
  replace p52 := (C6.out.cell hl0).trans p52
  replace p53 := (C6.out.cell hl0).trans p53
  obtain ⟨q10, q11, q12, q13⟩ := f5 1 _ rfl
  replace q10 := (D.out.cell hl5).trans q10
  replace q11 := (D.out.cell hl5).trans q11
  replace q12 := (D.out.cell hl5).trans q12
  replace q13 := (D.out.cell hl5).trans q13
  obtain ⟨q20, q21, q22, q23⟩ := f5 2 _ rfl
  replace q20 := (D.out.cell hl5).trans q20
  replace q21 := (D.out.cell hl5).trans q21
  replace q22 := (D.out.cell hl5).trans q22
  replace q23 := (D.out.cell hl5).trans q23
  obtain ⟨q30, q31, q32, q33⟩ := f5 3 _ rfl
  replace q30 := (D.out.cell hl5).trans q30
  replace q31 := (D.out.cell hl5).trans q31
  replace q32 := (D.out.cell hl5).trans q32
  replace q33 := (D.out.cell hl5).trans q33
  clear f0 f5
  go_wp2_with fail
  go_ret
  exact ⟨rfl, B6.out⟩
end Go.Proofs.YtmbpjjdaklpemaaDoor.Px
