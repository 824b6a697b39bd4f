/-
  Arguments opened as lists of bytes and of rows; the end of a law's row. No program.
-/
import Derived.Test.YtjfccohgkgcnfaaGreatDoorBase
import Derived.ProofKit
import Derived.LaidMore
import Derived.OpenShut
import Derived.Stop.Joined
import Derived.Deep.Matrix
import Derived.Carry
namespace Go.Q
open Go Go.RowKit Go.ChangeShapes Go.WideShapes Go.Deep
section
variable {H : Type} {enc : TypeId × Value → H} {P : Program}
theorem trodAll_stays (hl : laidOutB P = true) {W W' : World} {sp' : Nat → Bool} : ∀ {ts : List TypeId} {vs : List Value} {ds : List (DataW H)} {ps : List MemPlace},
    (ts.all fun t => P.readableRec t && decide (t < P.types.size)) = true → DataW.TrodAll enc P W 0 (fun _ => true) true ts vs ds ps → (∀ p ∈ ps, W.sameAt W' p) → (∀ p ∈ ps, sp' p.block = true) → DataW.TrodAll enc P W' 0 sp' true ts vs ds ps
  | [], [], [], _, _, h, _, _ => h
  | t :: ts, _ :: _, _ :: _, _, ht, ⟨p, q, h1, h2, e⟩, hs, hp => by
    simp only [List.all_cons, Bool.and_eq_true, decide_eq_true_eq] at ht
    exact ⟨p, q, WideElems.Trod_stays hl ht.1.1 ht.1.2 h1 (fun x hx => hs x (by rw [e]; exact List.mem_append_left _ hx)) (fun x hx => hp x (by rw [e]; exact List.mem_append_left _ hx)),
      trodAll_stays hl ht.2 h2 (fun x hx => hs x (by rw [e]; exact List.mem_append_right _ hx)) (fun x hx => hp x (by rw [e]; exact List.mem_append_right _ hx)), e⟩
/-- What a law's row asks behind the call: it answered true, and nothing that was there has turned. -/
theorem lawPost {f : Func} {s : ChangeSpec} {W W' : World} {args : Array Value} {ds gs : List (DataW H)} {before : List MemPlace} {t4 : TypeId} (hl : laidOutB P = true)
    (hts : (f.params.toList.all fun t => P.readableRec t && decide (t < P.types.size)) = true) (hv : s.vars = []) (hfn : s.fn H (ds ++ gs) = { results := [.lit (.bool true)], args := ds }) (hrt : f.resultTypes = #[t4]) (h4 : P.underlying t4 = some .bool)
    (hW : DataW.Whole enc P f.params.toList s.vars false W args.toList ds gs before) (hb : Below W.heap.size W W') : s.post enc P f false true false false W args (.bool true) W' := by
  have hlt : ∀ p ∈ before, p.block < W.heap.size := fun p hp => hW.lt p hp
  have hW' := hW
  obtain ⟨p, q, hA, hV, rfl, hz, hn⟩ := hW
  rw [hv] at hV
  obtain ⟨rfl, rfl⟩ := trodVars_none hV
  have hargs : ∀ sp : Nat → Bool, (∀ x ∈ p ++ [], sp x.block = true) → DataW.TrodAll enc P W' 0 sp true f.params.toList args.toList ds p := fun sp hsp =>
    trodAll_stays hl hts hA (fun x hx => hb.same (hlt x (by simpa using hx))) (fun x hx => hsp x (by simpa using hx))
  have hres : ∀ (b : Nat) (sp : Nat → Bool) (hd : Bool), DataW.TrodAll enc P W' b sp hd f.resultTypes.toList ((Value.bool true).resultList f.resultTypes.size) [.lit (.bool true)] [] := fun b sp hd => by
    rw [hrt]; exact trodAll_mk1 (shut_bool h4 true)
  have hold : ∀ x ∈ p ++ [], (fun b => decide (b < W.heap.size)) x.block = true := fun x hx => by simpa using hlt x hx
  refine ⟨ds, [], p ++ [], [], p, [], hW', by rw [hfn]; exact hres _ _ _, by rw [hfn]; exact hargs _ hold, by rw [hfn, hv]; rfl, World.keptBut_mono (fun x hx => ⟨hx, by simpa using hx⟩) (hb.frame (· ∈ p ++ [])), fun h => by cases h⟩
end
-- bytes
theorem getD_lt' {α : Type} [Inhabited α] (l : List α) {d : α} {i : Nat} (h : i < l.length) : l.getD i d = l[i] := by
  rw [List.getD_eq_getElem?_getD, List.getElem?_eq_getElem h]; rfl
def toU8 (z : Int) : UInt8 := UInt8.ofNat z.toNat
theorem toU8_nat {z : Int} (h : (Lit.int .u8 z).wf = true) : ((toU8 z).toNat : Int) = z := by
  have h2 : 0 ≤ z ∧ z < 256 := by
    have h1 : IntKind.u8.min = 0 := by decide
    have h2 : IntKind.u8.max = 255 := by decide
    simp only [Lit.wf, Bool.and_eq_true, decide_eq_true_eq, h1, h2] at h
    omega
  unfold toU8
  rw [UInt8.toNat_ofNat']
  omega
section
variable {H : Type} {enc : TypeId × Value → H} {P : Program} {w : World} {held : Bool}
theorem openBytes {t e : TypeId} {fuel : Nat} {v : Value} {x : DataW H × List MemPlace} (ht : P.underlying t = some (.slice e)) (he : P.underlying e = some (.int .u8)) (hc : P.cellsOf e = 1)
    (h : DataW.trod enc P w 0 (fun _ => true) held fuel t [v] = some x) : ∃ A cap xs, v = .slice A xs.length cap ∧ Bytes (fun k => k < w.heap.size) w A cap xs := by
  rcases open_ints ht he hc h with ⟨h0, _⟩ | ⟨a, len, cap, zs, h0, _, hl, hm, hzl, _, hcell, hwf⟩
  · simp only [List.cons.injEq, and_true] at h0
    exact ⟨none, 0, [], h0, Sl.nil⟩
  · simp only [List.cons.injEq, and_true] at h0
    simp only [if_true] at hzl
    refine ⟨some a, cap, (zs.take len).map toU8, by rw [h0]; simp [hzl, Nat.min_eq_left hl], by simp; omega, by unfold maxLen at hm; exact hm, (fun h => by cases h), fun a' ha hp => ?_⟩
    cases ha
    have hp' : 0 < len := by simp at hp; omega
    obtain ⟨b, o, sp⟩ := a
    have hc0 := hcell 0 (by omega)
    have hsp := World.cell?_spot hc0
    have hblt := World.block_lt_of_cell? _ _ hc0
    have e0 : (⟨b, o, sp⟩ : Addr).add 0 = ⟨b, o, sp⟩ := rfl
    rw [e0] at hsp hblt
    simp only at hsp hblt
    subst hsp
    refine ⟨b, o, rfl, hblt, fun i hi => ?_⟩
    have hi' : i < len := by simp at hi; omega
    refine ⟨[.int .u8 (((zs.take len).map toU8)[i].toNat : Int)], rfl, fun j hj => ?_⟩
    obtain rfl : j = 0 := by simp at hj; omega
    have h1 := hcell i (by omega)
    rw [add_off] at h1
    simp only [u8E, Nat.mul_one, Nat.add_zero, List.getElem_cons_zero, List.getElem_map, List.getElem_take]
    rw [h1]
    have hzi : i < zs.length := by omega
    rw [getD_lt' zs hzi, toU8_nat (hwf _ (List.getElem_mem hzi))]
theorem openRows {t e q : TypeId} {fuel : Nat} {v : Value} {x : DataW H × List MemPlace} (ht : P.underlying t = some (.slice e)) (he : P.underlying e = some (.slice q)) (hq : P.underlying q = some (.int .u8)) (ce : P.cellsOf e = 1) (cq : P.cellsOf q = 1)
    (h : DataW.trod enc P w 0 (fun _ => true) held fuel t [v] = some x) : ∃ A cap m, v = .slice A m.length cap ∧ Rows8 (fun k => k < w.heap.size) w A cap m := by
  rcases open_int_rows ht he hq ce cq h with ⟨h0, _⟩ | ⟨a, len, cap, A, L, C, Z, h0, _, hl, hm, _, hrows⟩
  · simp only [List.cons.injEq, and_true] at h0
    exact ⟨none, 0, [], h0, Sl.nil⟩
  · simp only [List.cons.injEq, and_true] at h0
    have hrow : ∀ r, r < len → Bytes (fun k => k < w.heap.size) w (A r) (C r) (((Z r).take (L r)).map toU8) := by
      intro r hr
      obtain ⟨_, h1, h2, h3, h4, h5, h6⟩ := hrows r (by omega)
      refine ⟨by simp; omega, by unfold maxLen at h2; exact h2, h5, fun a' ha hp => ?_⟩
      obtain ⟨_, hcell⟩ := h6 a' ha
      have hp' : 0 < L r := by simp at hp; omega
      obtain ⟨b, o, sp⟩ := a'
      have hc0 := hcell 0 (by omega)
      have hsp := World.cell?_spot hc0
      have hblt := World.block_lt_of_cell? _ _ hc0
      have e0 : (⟨b, o, sp⟩ : Addr).add 0 = ⟨b, o, sp⟩ := rfl
      rw [e0] at hsp hblt
      simp only at hsp hblt
      subst hsp
      refine ⟨b, o, rfl, hblt, fun i hi => ?_⟩
      have hi' : i < L r := by simp at hi; omega
      refine ⟨[.int .u8 ((((Z r).take (L r)).map toU8)[i].toNat : Int)], rfl, fun j hj => ?_⟩
      obtain rfl : j = 0 := by simp at hj; omega
      have h7 := hcell i (by omega)
      rw [add_off] at h7
      simp only [u8E, Nat.mul_one, Nat.add_zero, List.getElem_cons_zero, List.getElem_map, List.getElem_take]
      rw [h7]
      have hzi : i < (Z r).length := by omega
      rw [getD_lt' (Z r) hzi, toU8_nat (h4 _ (List.getElem_mem hzi))]
    refine ⟨some a, cap, (List.range len).map fun r => ((Z r).take (L r)).map toU8, by rw [h0]; simp, by simp; omega, by unfold maxLen at hm; exact hm, (fun h => by cases h), fun a' ha hp => ?_⟩
    cases ha
    have hp' : 0 < len := by simpa using hp
    obtain ⟨b, o, sp⟩ := a
    have hc0 := (hrows 0 (by omega)).1
    have hsp := World.cell?_spot hc0
    have hblt := World.block_lt_of_cell? _ _ hc0
    have e0 : (⟨b, o, sp⟩ : Addr).add 0 = ⟨b, o, sp⟩ := rfl
    rw [e0] at hsp hblt
    simp only at hsp hblt
    subst hsp
    refine ⟨b, o, rfl, hblt, fun i hi => ?_⟩
    have hi' : i < len := by simpa using hi
    obtain ⟨h1, h2, _, h3, _⟩ := hrows i (by omega)
    rw [add_off] at h1
    refine ⟨[.slice (A i) (((Z i).take (L i)).map toU8).length (C i)], ⟨A i, C i, by simp, by simpa using hrow i hi'⟩, fun j hj => ?_⟩
    obtain rfl : j = 0 := by simp at hj; omega
    simp only [slE, Nat.mul_one, Nat.add_zero, List.getElem_cons_zero]
    rw [h1]
    simp [h3, Nat.min_eq_left h2]
end
end Go.Q
