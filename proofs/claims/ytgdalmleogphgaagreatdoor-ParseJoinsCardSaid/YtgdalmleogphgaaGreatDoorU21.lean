/-
  What is read around an expression in parentheses: the levels of operators, a sign before it, a call of two. No program.
-/
import Derived.Test.YtgdalmleogphgaaGreatDoorU13
namespace Go.Sp
open Go
section
variable {M:List api_Token} {k d to:Int} {t tt:api_Token} {X:api_Expr} (hk:gi M k=some t)
include hk
end
section
variable {M:List api_Token} {k d to:Int} {t tt:api_Token} {X:api_Expr} (hM:M.length<=1000000) (hk:gi M k=some t)
include hM hk
end
end Go.Sp
