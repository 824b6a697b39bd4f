/-
  A pair of lists of bytes, opened: an argument of type [2][]uint8. No program.
-/
import Derived.Test.YtokclgjkdpjjfaaDoorOpen
namespace Go.Q
open Go Go.RowKit Go.ChangeShapes Go.WideShapes
section
variable {H : Type} {enc : TypeId × Value → H} {P : Program} {w : World} {held : Bool}
theorem openPair {t s e : TypeId} {fuel : Nat} {r : Reach} {b0 : Nat} {v : Value} {x : DataW H × List MemPlace} (ht : P.underlying t = some (.array 2 s)) (hs : P.underlying s = some (.slice e)) (he : P.underlying e = some (.int .u8)) (ct : P.cellsOf t = 2) (cs : P.cellsOf s = 1) (ce : P.cellsOf e = 1)
    (hv : Value.okWide P w r b0 t v) (h : DataW.trod enc P w 0 (fun _ => true) held fuel t v.cells.toList = some x) :
    ∃ v1 v2, v = .agg #[v1, v2] ∧ (∃ A cap xs, v1 = .slice A xs.length cap ∧ Bytes (fun k => k < w.heap.size) w A cap xs) ∧ (∃ A cap xs, v2 = .slice A xs.length cap ∧ Bytes (fun k => k < w.heap.size) w A cap xs) := by
  simp only [Value.okWide, ht] at hv
  obtain ⟨c, rfl, h2, _⟩ := hv
  rw [ct] at h2
  obtain ⟨l⟩ := c
  match l, h2 with
  | [v1, v2], _ =>
    have hc : (Value.agg #[v1, v2]).cells.toList = [v1, v2] := rfl
    rw [hc] at h
    obtain ⟨xs, m, rfl, rfl, _, hl, hx⟩ := DataW.trod_array ht h
    have h0 := hx 0 (by omega)
    have h1 := hx 1 (by omega)
    rw [cs, List.getElem?_eq_getElem (by omega)] at h0 h1
    exact ⟨v1, v2, rfl, openBytes hs he ce h0, openBytes hs he ce h1⟩
end
end Go.Q
