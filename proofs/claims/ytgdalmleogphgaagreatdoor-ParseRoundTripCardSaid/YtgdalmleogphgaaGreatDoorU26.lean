/-
  What is read around an expression in parentheses: the levels of operators, a sign before it, a call of two. No program.
-/
import Derived.Test.YtgdalmleogphgaaGreatDoorU17

