/-
  The specification's Type, Known and Last, in plain words. No program.
-/
import Derived.Test.YtkcfmlfkfagejaaGreatDoorU18
set_option linter.unusedVariables false
set_option linter.unusedSimpArgs false

