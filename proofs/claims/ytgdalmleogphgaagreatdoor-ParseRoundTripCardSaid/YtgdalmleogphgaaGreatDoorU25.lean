/-
  The program's comparison of expressions: it finds the same what is the same but for offsets. No program.
-/
import Derived.Test.YtgdalmleogphgaaGreatDoorU17
import Derived.Test.YtgdalmleogphgaaGreatDoorU24

