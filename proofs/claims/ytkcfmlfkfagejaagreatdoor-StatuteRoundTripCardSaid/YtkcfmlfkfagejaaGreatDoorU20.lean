/-
  Known, Last and products of the specification, in plain words. No program.
-/
import Derived.Test.YtkcfmlfkfagejaaGreatDoorU19
set_option linter.unusedVariables false
set_option linter.unusedSimpArgs false

