/-
  weather's formed: the contract in the print's form.
-/
import Derived.Test.YtofjhkjahpdkiaaDoorWeC0
import Derived.Test.YtofjhkjahpdkiaaDoorWeC1
import Derived.Test.YtofjhkjahpdkiaaDoorWeC2
import Derived.Test.YtofjhkjahpdkiaaDoorWeC3
namespace Go.Proofs.YtofjhkjahpdkiaaDoor.Px
open Go.RowKit Go.Proofs.YtofjhkjahpdkiaaDoorW.PrintWords
open Go.Proofs.YtofjhkjahpdkiaaDoor.We (formB)
set_option linter.unusedVariables false
def weather_formed.f (a0_0 : Int) (a0_1 : Int) (a0_2 : Int) (a0_3 : Int) (a0_4 : Int) : Option (Bool) := some (formB a0_0 a0_1 a0_2 a0_3 a0_4)
theorem weather_formed.calls (a0_0 : Int) (a0_1 : Int) (a0_2 : Int) (a0_3 : Int) (a0_4 : Int) (r : Bool) (w : World) (h : weather_formed.f a0_0 a0_1 a0_2 a0_3 a0_4 = some r) :
    Calls Tryd.prog 30 #[.agg #[.int .i64 a0_0, .int .i64 a0_1, .int .i64 a0_2, .int .i64 a0_3, .int .i64 a0_4]] w fun e w' => e = .returned (.bool r) ∧ Below w.heap.size w w' := by
  injection h with h
  subst h
  by_cases hk : a0_0 = 1 ∨ a0_0 = 2 ∨ a0_0 = 3
  · rcases hk with rfl | rfl | rfl
    · exact We.formed1 _ _ _ _ w
    · exact We.formed2 _ _ _ _ w
    · exact We.formed3 _ _ _ _ w
  · exact We.formed0 _ _ _ _ _ hk w
end Go.Proofs.YtofjhkjahpdkiaaDoor.Px
