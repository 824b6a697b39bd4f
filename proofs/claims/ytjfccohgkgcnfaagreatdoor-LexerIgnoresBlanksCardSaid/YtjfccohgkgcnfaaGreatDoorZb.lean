/-
  A pair of bytes opened; the law LexerIgnoresBlanks as a call in memory.
-/
import Derived.Test.YtjfccohgkgcnfaaGreatDoorZa
import Derived.Test.YtjfccohgkgcnfaaGreatDoorB8
namespace Go.Proofs.YtjfccohgkgcnfaaGreatDoor
open Go.ChangeShapes Go.WideShapes Go.ChangeAt Go.RowKit Go.Q Go.Vl
set_option maxRecDepth 100000
theorem openByte {H : Type} {enc : TypeId × Value → H} {w : World} {held : Bool} {fuel : Nat} {v : Value} {x : DataW H × List MemPlace} (h : DataW.trod enc Tryz.prog w 0 (fun _ => true) held fuel 5 [v] = some x) : ∃ a : Nat, v = .int .u8 (a : Int) ∧ a < 256 := by
  obtain ⟨n, h1, _, h3⟩ := DataW.trod_int Tryz.underlying5 h
  have h4 := toU8_nat h3
  refine ⟨(toU8 n).toNat, ?_, (toU8 n).toNat_lt⟩
  rw [h4]
  exact (List.cons.inj h1).1
theorem openBytes2 {H : Type} {enc : TypeId × Value → H} {w : World} {held : Bool} {fuel : Nat} {r : Reach} {b0 : Nat} {v : Value} {x : DataW H × List MemPlace} (hv : Value.okWide Tryz.prog w r b0 45 v)
    (h : DataW.trod enc Tryz.prog w 0 (fun _ => true) held fuel 45 v.cells.toList = some x) : ∃ a b : Nat, a < 256 ∧ v = .agg #[.int .u8 (a : Int), .int .u8 (b : Int)] := by
  have ct : Tryz.prog.cellsOf 45 = 2 := by kernel_rfl
  have cs : Tryz.prog.cellsOf 5 = 1 := by kernel_rfl
  simp only [Value.okWide, Tryz.underlying45] at hv
  obtain ⟨c, rfl, h2, _⟩ := hv
  rw [ct] at h2
  obtain ⟨l⟩ := c
  match l, h2 with
  | [v1, v2], _ =>
    have hc : (Value.agg #[v1, v2]).cells.toList = [v1, v2] := rfl
    rw [hc] at h
    obtain ⟨xs, m, rfl, rfl, _, hl, hx⟩ := DataW.trod_array Tryz.underlying45 h
    have h0 := hx 0 (by omega)
    have h1 := hx 1 (by omega)
    rw [cs, List.getElem?_eq_getElem (by omega)] at h0 h1
    obtain ⟨a, rfl, ha⟩ := openByte h0
    obtain ⟨b, rfl, _⟩ := openByte h1
    exact ⟨a, b, ha, rfl⟩
theorem law8_out {w : World} (s0 s1 : ByteArray) (a b : Nat) (ha : a < 256) (hg : glbP w) (hb : ∀ b ∈ glbs, b < w.heap.size) :
    Calls Tryz.prog 8 #[.string s0, .string s1, .agg #[.int .u8 (a : Int), .int .u8 (b : Int)]] w fun e w' => e = .returned (.bool true) ∧ Below w.heap.size w w' := by
  refine ((vLaw8 s0 s1 a b ha).out (U := fun _ _ => False) (vs := #[.string s0, .string s1, .agg #[.int .u8 (a : Int), .int .u8 (b : Int)]]) hg hb (fun _ _ h => h.elim) rfl fun i hi => ?_).mono fun e w' hpost => ?_
  · match i, hi with
    | 0, _ => exact .lit _ _
    | 1, _ => exact .lit _ _
    | 2, _ =>
      refine .agg _ _ #[.int .u8 (a : Int), .int .u8 (b : Int)] rfl (fun i hi => ?_) (fun i hi => ?_)
      · match i, hi with
        | 0, _ => exact .lit _ _
        | 1, _ => exact .lit _ _
      · match i, hi with
        | 0, _ => rfl
        | 1, _ => rfl
  · obtain ⟨⟨x, σ', G', ⟨rfl, _⟩, v, h1, h2, _⟩, h3⟩ := hpost
    refine ⟨?_, h3⟩
    have key : ∀ {p : PV} {v : Value}, V w' G'.U G'.φ p v → p = .lit (.bool true) → v = .bool true := fun h e => by
      cases h with
      | lit _ _ => injection e
      | _ => cases e
    rw [key h2 rfl] at h1; exact h1
end Go.Proofs.YtjfccohgkgcnfaaGreatDoor
