/-
  The documentation's examples: the plain sanity answers true.
-/
import Derived.Test.YtgdalmleogphgaaGreatDoorU19
namespace Go.Sp
open Go Go.Vl
set_option maxRecDepth 100000
theorem VQ:ON=some true:=by decide +kernel
end Go.Sp
