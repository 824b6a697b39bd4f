/-
  The simulation for all large fuel; lists of tokens of which one stands in the other. No program.
-/
import Derived.Test.YtgdalmleogphgaaGreatDoorU25
import Derived.Test.YtgdalmleogphgaaGreatDoorU26

