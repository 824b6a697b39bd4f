/-
  The walks of the reference's has and Sign. Bytes made a string; a struct stored whole; no program. The walk of the reference's text. The walk of the reference's token.
-/
import Derived.Laws.BytesString
import Derived.Laws.Tables
import Derived.Laws.Rows
import Derived.Test.YtkcfmlfkfagejaaGreatDoorU22
import Derived.Test.YtkcfmlfkfagejaaGreatDoorU23
set_option linter.unusedVariables false
set_option linter.unusedSimpArgs false




