/-
  What the walks in plain values ask of the program's types and functions.
-/
import Derived.Test.YtkcfmlfkfagejaaGreatDoorChecked
import Derived.Test.YtkcfmlfkfagejaaGreatDoorU4
set_option linter.unusedVariables false
set_option linter.unusedSimpArgs false
namespace Go.Proofs.YtkcfmlfkfagejaaGreatDoor
open Go Go.Vl
theorem follows:Tryz.prog.follows .mixedOrders=true:=by kernel_rfl
end Go.Proofs.YtkcfmlfkfagejaaGreatDoor
