/-
  The program's comparison of expressions: it finds the same what is the same but for offsets. No program.
-/
import Derived.Test.YtgdalmleogphgaaGreatDoorU13
import Derived.Test.YtgdalmleogphgaaGreatDoorU19
namespace Go.Sp
open Go
end Go.Sp
