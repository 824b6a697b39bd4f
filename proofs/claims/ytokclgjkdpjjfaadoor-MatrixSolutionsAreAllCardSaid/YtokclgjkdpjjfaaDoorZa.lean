/-
  The table that the program's text lays, as the walks want it; the rows' common parts.
-/
import Derived.Test.YtokclgjkdpjjfaaDoorOpen
import Derived.Test.YtokclgjkdpjjfaaDoorX1
namespace Go.Proofs.YtokclgjkdpjjfaaDoor
open Go.ChangeShapes Go.WideShapes Go.ChangeAt Go.RowKit Go.Q
theorem Tryd.own : ownKnob Tryd.prog.godebug = none := by kernel_rfl
theorem Tryd.laidOut : laidOutB Tryd.prog = true := by kernel_rfl
theorem gHigh : Tryd.prog.globalNamed "quietus/gf.high" = some 0 := by kernel_rfl
theorem tHigh : (Tryd.prog.globals[0]?).map (·.type) = some 87 := by kernel_rfl
theorem Tryd.cells5 : Tryd.prog.cellsOf 5 = 1 := by kernel_rfl
theorem Tryd.cells43 : Tryd.prog.cellsOf 43 = 1 := by kernel_rfl
theorem Tryd.cells87 : Tryd.prog.cellsOf 87 = 16 := by kernel_rfl
abbrev seatLaid : List (String × DataW Unit) := [("quietus/gf.high", Rows.laid_quietus_gf_high)]
theorem tabLits : (Rows.laid_quietus_gf_high : DataW Unit) = .agg (highN.map fun n => .lit (.int .u8 (n : Nat))) := rfl
/-- What the condition gives the walks: the table's cells. -/
theorem tab_of_laid {W : World} (h : laidMetH Tryd.prog seatLaid W) : TabAt W := by
  rw [MakeChecks.laidMetH_plain _ _ _ (by kernel_rfl)] at h
  obtain ⟨ps, ⟨g0, t0, cs0, f0, p0, q0, hg0, ht0, hv0, hd0, _, _⟩, _, _⟩ := h
  obtain rfl := Option.some.inj (gHigh.symm.trans hg0)
  obtain rfl := Option.some.inj (tHigh.symm.trans ht0)
  obtain ⟨xs, m1, rfl, hx1, hlen, hn, hel⟩ := DataW.trod_array Tryd.underlying87 hd0
  rw [tabLits] at hx1
  simp only [Prod.mk.injEq, DataW.agg.injEq] at hx1
  rw [Tryd.cells87] at hlen
  have key : ∀ i, i < 16 → W.cell? ⟨0, i, none⟩ = some (.int .u8 (highN.getD i 0 : Nat)) := by
    intro i hi
    have hc := World.var?_cell hg0 hv0 i
    rw [hc]
    have h1 := hel i hi
    rw [Tryd.cells5, Nat.mul_one] at h1
    have hxi : i < xs.length := by omega
    rw [List.getElem?_eq_getElem hxi] at h1
    obtain ⟨k, e1, e2, _⟩ := DataW.trod_int Tryd.underlying5 h1
    have hci : i < cs0.toList.length := by omega
    have e3 : cs0.toList[i] = .int .u8 k := by
      rw [List.drop_eq_getElem_cons hci, List.take_succ_cons, List.take_zero] at e1
      exact (List.cons.inj e1).1
    have hi16 : i < highN.length := hi
    have e4 := congrArg (fun l => l[i]?) hx1.1
    simp only [List.getElem?_map, List.getElem?_eq_getElem hi16, List.getElem?_eq_getElem hxi, Option.map_some, Option.some.injEq] at e4
    rw [e2] at e4
    simp only [DataW.lit.injEq, Lit.int.injEq, true_and] at e4
    rw [getD_lt _ _ hi16, e4, ← e3]
    simp
  exact ⟨Nat.lt_of_le_of_lt (Nat.zero_le _) (World.block_lt_of_cell? _ _ (key 0 (by decide))), key⟩
/-- The door's own heap meets the condition. -/
theorem door_met (os : Os) (args : Array Value) : laidMetH Tryd.prog seatLaid ((World.doorLaid Tryd.prog 400 os).forCall (fun _ _ => 0) ⟨#[], args, []⟩).memory := by
  rw [MakeChecks.laidMetH_plain _ _ _ (by kernel_rfl)]
  exact laidMet_of_run' 8 (by kernel_rfl) (by kernel_rfl)
end Go.Proofs.YtokclgjkdpjjfaaDoor
