/-
  The lexer's meaning in plain Lean: classes of bytes, gaps, one token, all tokens. No program in sight.
-/
import Derived.RowKit
namespace Go.Proofs.YtofjhkjahpdkiaaDoor.Lx
def isLetter (b : UInt8) : Bool := (97 ≤ b && b ≤ 122) || (65 ≤ b && b ≤ 90)
def isDigit (b : UInt8) : Bool := 48 ≤ b && b ≤ 57
def isWord (b : UInt8) : Bool := isLetter b || isDigit b || b == 95
def isBlank (b : UInt8) : Bool := b == 32 || b == 9 || b == 10
def clsTab : List Int := [0, 0, 0, 0, 0, 0, 0, 0, 0, 1, 1, 0, 0, 0, 0, 0, 0, 0, 0, 0, 0, 0, 0, 0, 0, 0, 0, 0, 0, 0, 0, 0,
  1, 7, 6, 2, 0, 0, 0, 0, 9, 9, 9, 9, 9, 9, 9, 9, 4, 4, 4, 4, 4, 4, 4, 4, 4, 4, 9, 9, 8, 8, 8, 0,
  0, 3, 3, 3, 3, 3, 3, 3, 3, 3, 3, 3, 3, 3, 3, 3, 3, 3, 3, 3, 3, 3, 3, 3, 3, 3, 3, 9, 0, 9, 0, 5,
  0, 3, 3, 3, 3, 3, 3, 3, 3, 3, 3, 3, 3, 3, 3, 3, 3, 3, 3, 3, 3, 3, 3, 3, 3, 3, 3, 9, 0, 9, 0, 0] ++ List.replicate 128 0
def cls (b : UInt8) : Int := clsTab.getD b.toNat 0
/-- The rest behind the gaps; true: inside a comment. -/
def skp : Bool → List UInt8 → List UInt8
  | _, [] => []
  | false, b :: r => if isBlank b then skp false r else if b == 35 then skp true r else b :: r
  | true, b :: r => if b == 10 then skp false r else skp true r
/-- The number that digits spell. -/
def numOf (l : List UInt8) : Int := l.foldl (fun n b => 10 * n + ((b.toNat : Int) - 48)) 0
inductive R where
  | tok (kind : Int) (text : List UInt8) (n : Int) (w : Nat)
  | err (e : Int)
def notStr (c : UInt8) : Bool := c != 34 && c != 10
/-- The token at the head of a text. -/
def tok1 : List UInt8 → R
  | [] => .err 3
  | b :: r =>
    if isLetter b then
      if (b :: r.takeWhile isWord).length > 24 then .err 2 else .tok 1 (b :: r.takeWhile isWord) 0 (b :: r.takeWhile isWord).length
    else if isDigit b then
      if (b :: r.takeWhile isDigit).length > 13 || ((r.dropWhile isDigit).head?.map isWord).getD false then .err 4
      else .tok 2 (b :: r.takeWhile isDigit) (numOf (b :: r.takeWhile isDigit)) (b :: r.takeWhile isDigit).length
    else if b == 34 then
      if (r.dropWhile notStr).head? == some 34 then
        if (r.takeWhile notStr).length > 400 then .err 2 else .tok 3 (r.takeWhile notStr) 0 ((r.takeWhile notStr).length + 2)
      else .err 6
    else if (cls b == 7 || cls b == 8) && r.head? == some 61 then .tok 4 [b, 61] 0 2
    else if cls b == 8 || cls b == 9 then .tok 4 [b] 0 1
    else .err 3
structure Tok where
  kind : Int
  text : List UInt8
  n : Int
  at_ : Nat
/-- All tokens ahead of the first error, and that error with its offset. -/
def lexA : Nat → List UInt8 → Nat → List Tok × Option (Int × Nat)
  | 0, _, _ => ([], none)
  | f + 1, l, p =>
    let l' := skp false l
    let p' := p + (l.length - l'.length)
    if l'.isEmpty then ([], none) else
    match tok1 l' with
    | .err e => ([], some (e, p'))
    | .tok k t n w => ((⟨k, t, n, p'⟩ : Tok) :: (lexA f (l'.drop w) (p' + w)).1, (lexA f (l'.drop w) (p' + w)).2)
theorem skp_le (c : Bool) (l : List UInt8) : (skp c l).length ≤ l.length := by
  induction l generalizing c with
  | nil => cases c <;> simp [skp]
  | cons b r ih =>
    cases c <;> simp only [skp] <;> (repeat' split) <;> simp only [List.length_cons, Nat.le_refl] <;> first | (have := ih false; omega) | (have := ih true; omega)
end Go.Proofs.YtofjhkjahpdkiaaDoor.Lx
