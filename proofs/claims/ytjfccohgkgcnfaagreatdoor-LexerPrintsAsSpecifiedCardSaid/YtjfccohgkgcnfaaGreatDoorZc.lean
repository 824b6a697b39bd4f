/-
  A list of tokens opened; the law LexerPrintsAsSpecified as a call in memory.
-/
import Derived.Test.YtjfccohgkgcnfaaGreatDoorZa
import Derived.Test.YtjfccohgkgcnfaaGreatDoorC4
namespace Go.Proofs.YtjfccohgkgcnfaaGreatDoor
open Go.ChangeShapes Go.WideShapes Go.ChangeAt Go.RowKit Go.Q Go.Vl
set_option maxRecDepth 100000
theorem openTok {H : Type} {enc : TypeId × Value → H} {w : World} {held : Bool} {fuel : Nat} {cs : List Value} {x : DataW H × List MemPlace} (h : DataW.trod enc Tryz.prog w 0 (fun _ => true) held fuel 33 cs = some x) :
    ∃ (k a v : Int) (s : ByteArray), cs = [.int .i64 k, .int .i64 a, .string s, .int .i64 v] ∧ -9223372036854775808 ≤ v ∧ v ≤ 9223372036854775807 := by
  have c33 : Tryz.prog.cellsOf 33 = 4 := by kernel_rfl
  have c3 : Tryz.prog.cellsOf 3 = 1 := by kernel_rfl
  have c9 : Tryz.prog.cellsOf 9 = 1 := by kernel_rfl
  obtain ⟨xs, n, rfl, rfl, hl, hxl, hf⟩ := DataW.trod_struct Tryz.underlying33 h
  rw [c33] at hl
  match cs, hl with
  | [v0, v1, v2, v3], _ =>
    have hx4 : xs.length = 4 := hxl
    have f0 : DataW.trod enc Tryz.prog w 0 (fun _ => true) held n 3 (List.take (Tryz.prog.cellsOf 3) [v0, v1, v2, v3]) = xs[0]? := hf 0 _ rfl
    have f1 : DataW.trod enc Tryz.prog w 0 (fun _ => true) held n 3 (List.take (Tryz.prog.cellsOf 3) [v1, v2, v3]) = xs[1]? := hf 1 _ rfl
    have f2 : DataW.trod enc Tryz.prog w 0 (fun _ => true) held n 9 (List.take (Tryz.prog.cellsOf 9) [v2, v3]) = xs[2]? := hf 2 _ rfl
    have f3 : DataW.trod enc Tryz.prog w 0 (fun _ => true) held n 3 (List.take (Tryz.prog.cellsOf 3) [v3]) = xs[3]? := hf 3 _ rfl
    rw [c3] at f0 f1 f3
    rw [c9] at f2
    simp only [List.take_succ_cons, List.take_zero] at f0 f1 f2 f3
    rw [List.getElem?_eq_getElem (by omega)] at f0 f1 f2 f3
    obtain ⟨k, e0, _, _⟩ := DataW.trod_int Tryz.underlying3 f0
    obtain ⟨a, e1, _, _⟩ := DataW.trod_int Tryz.underlying3 f1
    obtain ⟨s, e2, _, _⟩ := DataW.trod_string Tryz.underlying9 f2
    obtain ⟨v, e3, _, hwf⟩ := DataW.trod_int Tryz.underlying3 f3
    have hb := bounds_i64 hwf
    simp only [List.cons.injEq, and_true] at e0 e1 e2 e3
    subst e0 e1 e2 e3
    exact ⟨k, a, v, s, rfl, hb.1, hb.2⟩
theorem openToks {H : Type} {enc : TypeId × Value → H} {w : World} {held : Bool} {fuel : Nat} {r : Reach} {b0 : Nat} {v : Value} {x : DataW H × List MemPlace} (hv : Value.okWide Tryz.prog w r b0 23 v) (h : DataW.trod enc Tryz.prog w 0 (fun _ => true) held fuel 23 v.cells.toList = some x) :
    ∃ l : List RT, V w (fun b i => (w.cell? ⟨b, i, none⟩).isSome = true) [] (.sl (l.map rtR) .shared) v ∧ ∀ t ∈ l, -9223372036854775808 ≤ t.v ∧ t.v ≤ 9223372036854775807 := by
  have c33 : Tryz.prog.cellsOf 33 = 4 := by kernel_rfl
  have hcl : v.cells.toList = [v] := by
    obtain ⟨a0, l0, c0, rfl⟩ := okWide_slice Tryz.underlying23 hv
    rfl
  rw [hcl] at h
  rcases DataW.trod_slice Tryz.underlying23 h with ⟨h0, _⟩ | ⟨a, len, cap, elems, rest, n, _, h0, _, _, hlc, hcm, hel, hi, _, _⟩
  · simp only [List.cons.injEq, and_true] at h0
    exact ⟨[], by rw [h0]; exact .nil _ _, by simp⟩
  · simp only [List.cons.injEq, and_true] at h0
    rw [c33] at hi
    have key : ∀ i, i < len → ∃ t : RT, (∀ j, j < 4 → w.cell? ((a.add (i * 4)).add j) = ([Value.int .i64 t.k, .int .i64 t.a, .string ⟨⟨t.s⟩⟩, .int .i64 t.v] : List Value)[j]?) ∧ -9223372036854775808 ≤ t.v ∧ t.v ≤ 9223372036854775807 := fun i hil => by
      have h1 := hi i hil
      rw [List.getElem?_eq_getElem (by omega)] at h1
      obtain ⟨cs, hc, hd⟩ := Option.bind_eq_some_iff.1 h1
      obtain ⟨_, _, hcell⟩ := World.cells?_some hc
      obtain ⟨k, at_, vv, s, rfl, hv1, hv2⟩ := openTok hd
      refine ⟨⟨k, at_, s.data.toList, vv⟩, hcell, hv1, hv2⟩
    have hch : ∃ f : Nat → RT, ∀ i, i < len → (∀ j, j < 4 → w.cell? ((a.add (i * 4)).add j) = ([Value.int .i64 (f i).k, .int .i64 (f i).a, .string ⟨⟨(f i).s⟩⟩, .int .i64 (f i).v] : List Value)[j]?) ∧ -9223372036854775808 ≤ (f i).v ∧ (f i).v ≤ 9223372036854775807 := by
      refine ⟨fun i => if hil : i < len then (key i hil).choose else ⟨0, 0, [], 0⟩, fun i hil => ?_⟩
      simp only [dif_pos hil]
      exact (key i hil).choose_spec
    obtain ⟨f, hf⟩ := hch
    refine ⟨(List.range len).map f, ?_, fun t ht => ?_⟩
    · subst h0
      have hsp : a.spot = none := by
        simp only [Value.okWide, Tryz.underlying23, Cell.okWide, Cell.ok] at hv
        exact hv.2.2.2.1
      obtain ⟨b, o, sp⟩ := a
      simp only at hsp
      subst hsp
      have hlen : (((List.range len).map f).map rtR).length = len := by simp
      have hget : ∀ i (hi : i < (((List.range len).map f).map rtR).length), (((List.range len).map f).map rtR)[i] = rtR (f i) := fun i hi => by simp
      have hcell : ∀ i j, i < len → j < 4 → w.cell? ⟨b, o + i * 4 + j, none⟩ = some (([Value.int .i64 (f i).k, .int .i64 (f i).a, .string ⟨⟨(f i).s⟩⟩, .int .i64 (f i).v] : List Value).getD j Go.undef) := fun i j hi hj => by
        have h1 := (hf i hi).1 j hj
        rw [add_off, add_off] at h1
        rw [h1]
        match j, hj with
        | 0, _ => rfl
        | 1, _ => rfl
        | 2, _ => rfl
        | 3, _ => rfl
      have hm : cap ≤ 9223372036854775807 := by unfold maxLen at hcm; exact hcm
      have key2 := V.sl (w := w) (U := fun b i => (w.cell? ⟨b, i, none⟩).isSome = true) [] (((List.range len).map f).map rtR) .shared b o 4 cap (fun i j => ([Value.int .i64 (f i).k, .int .i64 (f i).a, .string ⟨⟨(f i).s⟩⟩, .int .i64 (f i).v] : List Value).getD j Go.undef)
        (by rw [hlen]; exact hlc) hm (fun i hi => by rw [hget i hi]; rfl) (fun i j hi hj => by rw [hlen] at hi; show (w.cell? ⟨b, o + i * 4 + j, none⟩).isSome = true; rw [hcell i j hi hj]; rfl) (fun i j hi hj => by rw [hlen] at hi; exact hcell i j hi hj)
        (fun i j hi hj => by
          match j, hj with
          | 0, _ => rfl
          | 1, _ => rfl
          | 2, _ => rfl
          | 3, _ => rfl)
        (fun i hi j hj => by
          have h4 : j < 4 := by rw [hget i hi] at hj; exact hj
          simp only [hget i hi]
          match j, h4 with
          | 0, _ => exact .lit _ _
          | 1, _ => exact .lit _ _
          | 2, _ => exact .lit _ _
          | 3, _ => exact .lit _ _)
        (by simp) (by simp)
      rw [hlen] at key2
      exact key2
    · obtain ⟨i, hi2, rfl⟩ := List.mem_map.1 ht
      exact (hf i (List.mem_range.1 hi2)).2
theorem law4_out (hrep : Rep) {w : World} {l : List RT} {v : Value} (hv : V w (fun b i => (w.cell? ⟨b, i, none⟩).isSome = true) [] (.sl (l.map rtR) .shared) v) (hr : ∀ t ∈ l, -9223372036854775808 ≤ t.v ∧ t.v ≤ 9223372036854775807) (hg : glbP w) (hb : ∀ b ∈ glbs, b < w.heap.size) :
    Calls Tryz.prog 4 #[v] w fun e w' => e = .returned (.bool true) ∧ Below w.heap.size w w' := by
  refine ((vLaw4 hrep l hr).out (U := fun b i => (w.cell? ⟨b, i, none⟩).isSome = true) (vs := #[v]) hg hb (fun b i hu => ?_) rfl fun i hi => ?_).mono fun e w' hpost => ?_
  · obtain ⟨u, hu⟩ := Option.isSome_iff_exists.1 hu
    exact World.block_lt_of_cell? _ _ hu
  · match i, hi with
    | 0, _ => exact hv
  · obtain ⟨⟨x, σ', G', ⟨rfl, _⟩, v, h1, h2, _⟩, h3⟩ := hpost
    refine ⟨?_, h3⟩
    have key : ∀ {p : PV} {v : Value}, V w' G'.U G'.φ p v → p = .lit (.bool true) → v = .bool true := fun h e => by
      cases h with
      | lit _ _ => injection e
      | _ => cases e
    rw [key h2 rfl] at h1; exact h1
end Go.Proofs.YtjfccohgkgcnfaaGreatDoor
