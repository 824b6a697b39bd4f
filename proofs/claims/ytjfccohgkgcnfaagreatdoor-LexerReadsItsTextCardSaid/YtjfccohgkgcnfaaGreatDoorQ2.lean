/-
  Functions with statements that are walked in another order.
-/
import Derived.Test.YtjfccohgkgcnfaaGreatDoorQ1
namespace Go.Proofs.YtjfccohgkgcnfaaGreatDoor
open Go Go.Vl
theorem p0 : callT Tryz.prog 24 = true := by kernel_rfl
theorem p1 : callT Tryz.prog 25 = true := by kernel_rfl
theorem p2 : callT Tryz.prog 26 = true := by kernel_rfl
theorem p3 : callT Tryz.prog 27 = true := by kernel_rfl
theorem p4 : boolT Tryz.prog 4 = true := by kernel_rfl
attribute [go_sem] p0 p1 p2 p3 p4
theorem ok14 : okCode [(12, [0, 3, 4, 1, 2, 5, 6, 7, 8, 9, 10])] Tryz.f14.ntmps (Tryz.f14.body.getD .skip) = true := by kernel_rfl
theorem ok10 : okCode [(11, [0, 1, 3, 4, 2, 5])] Tryz.f10.ntmps (Tryz.f10.body.getD .skip) = true := by kernel_rfl
end Go.Proofs.YtjfccohgkgcnfaaGreatDoor
