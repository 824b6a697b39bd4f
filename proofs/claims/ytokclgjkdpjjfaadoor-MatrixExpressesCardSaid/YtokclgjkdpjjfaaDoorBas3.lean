/-
  Appending one boxed element to a full slice that is not the call's own: it is copied into a new block. No program.
-/
import Derived.Test.YtokclgjkdpjjfaaDoorBas2
namespace Go.Q
open Go Go.RowKit
section
variable {α : Type} {E : Enc α} {e : TypeId} {w : World} {A : Option Addr} {cap : Nat} {xs : List α} {S T : Reg}
theorem run_append_full {Pr : Program} (t ty : TypeId) (i : TypeInfo) (z : Value) (bytes : Nat) (ht : Pr.underlying t = some (.slice e)) (hi : Pr.info? e = some i) (hz : i.zero = some z)
    (hsize : i.size = E.size) (hby : i.bytes = bytes) (h1 : E.size = 1) (hsl : Sl E S w A cap xs) (hin : In S w) (hpos : 0 < xs.length)
    (ad : Addr) (c : Nat) (u : Value) (y : α) (hrep : E.rep T w [u] y) (hT : ∀ k, T k → k < w.heap.size) (hu : w.cell? ad = some u)
    (hsmall : (xs.length + 1) * (bytes + 1) ≤ 140737488355328) :
    ∃ cap' w', (Builtin.append_ #[t, t] ty #[.slice A xs.length xs.length, .slice (some ad) 1 c]).run Pr w = .ok (.slice (some ⟨w.heap.size, 0, none⟩) (xs.length + 1) cap') w' ∧
      Sl E (fun k => k < w'.heap.size) w' (some ⟨w.heap.size, 0, none⟩) cap' (xs ++ [y]) ∧ Below w.heap.size w w' := by
  have e1 : (xs.length + 1) * (bytes + 1) = (xs.length + 1) * bytes + (xs.length + 1) := by rw [Nat.mul_add, Nat.mul_one]
  obtain ⟨b, o, _, rfl, _⟩ := hsl.get hpos
  obtain ⟨us, hul, hur, huc⟩ := hsl.cells h1 rfl
  have hcell : ∀ j v, [u][j]? = some v → w.cell? (ad.add j) = some v := by
    intro j v hv
    obtain ⟨hj, rfl⟩ := List.getElem?_eq_some_iff.1 hv
    obtain rfl : j = 0 := by simpa using hj
    have e2 : ad.add 0 = ad := by obtain ⟨b1, o1, s1⟩ := ad; unfold Addr.add; split <;> simp_all
    rw [e2]; exact hu
  have hr := run_append_grow (P := Pr) w t ty e i z ht hi hz ⟨b, o, none⟩ xs.length xs.length us (by rw [hsize, h1, hul, Nat.mul_one]) huc ad 1 c [u] (by rw [hsize, h1]; rfl) hcell (by omega) (by omega)
    (growslice_fits (by omega) (by rw [hby]; omega))
  refine ⟨_, _, hr, ?_, ?_⟩
  · refine ⟨by rw [List.length_append]; exact grownCap_ge _ _ _ _, ?_, (fun h => by cases h), fun a ha _ => ?_⟩
    · have := grownCap_le_maxLen w (xs.length + 1) xs.length e (by unfold maxLen; omega)
      unfold maxLen at this; exact this
    · cases ha
      have hnew := heap_alloc_new w.drew (.cells (us.toArray ++ [u].toArray ++ Builtin.zeroCells z.cells (grownCap w (xs.length + 1) xs.length e - (xs.length + 1))) e)
      refine ⟨w.heap.size, 0, rfl, by show w.heap.size < _; simp, fun j hj => ?_⟩
      have hkeep : ∀ k, k < w.heap.size → (w.drew.alloc (.cells (us.toArray ++ [u].toArray ++ Builtin.zeroCells z.cells (grownCap w (xs.length + 1) xs.length e - (xs.length + 1))) e)).heap[k]? = w.heap[k]? := fun k hk => Below.heap_alloc _ _ _ hk
      have hsz' : w.heap.size ≤ (w.drew.alloc (.cells (us.toArray ++ [u].toArray ++ Builtin.zeroCells z.cells (grownCap w (xs.length + 1) xs.length e - (xs.length + 1))) e)).heap.size := by simp
      have hget : ∀ v, (us ++ [u])[j]? = some v → (w.drew.alloc (.cells (us.toArray ++ [u].toArray ++ Builtin.zeroCells z.cells (grownCap w (xs.length + 1) xs.length e - (xs.length + 1))) e)).cell? ⟨w.heap.size, 0 + j * E.size + 0, none⟩ = some v := by
        intro v hv
        have hnew' : (w.drew.alloc (.cells (us.toArray ++ [u].toArray ++ Builtin.zeroCells z.cells (grownCap w (xs.length + 1) xs.length e - (xs.length + 1))) e)).heap[w.heap.size]? = _ := hnew
        simp only [World.cell?, hnew']
        rw [h1]
        simp only [Nat.zero_add, Nat.mul_one, Nat.add_zero]
        obtain ⟨hj2, rfl⟩ := List.getElem?_eq_some_iff.1 hv
        rw [Array.getElem?_append_left (by simpa using hj2)]
        simp [List.getElem?_eq_getElem hj2]
      by_cases hjx : j < xs.length
      · refine ⟨[us[j]'(by omega)], ?_, fun j' hj' => ?_⟩
        · rw [List.getElem_append_left hjx]
          exact E.stable (fun k hk => Nat.lt_of_lt_of_le (hin k hk) hsz') (fun k hk => hkeep k (hin k hk)) (hur j (by omega) hjx)
        · obtain rfl : j' = 0 := by simpa using hj'
          exact hget _ (by rw [List.getElem?_append_left (by omega)]; exact List.getElem?_eq_getElem _)
      · obtain rfl : j = xs.length := by simp at hj; omega
        refine ⟨[u], ?_, fun j' hj' => ?_⟩
        · rw [List.getElem_append_right (Nat.le_refl _)]
          simp only [Nat.sub_self, List.getElem_cons_zero]
          exact E.stable (fun k hk => Nat.lt_of_lt_of_le (hT k hk) hsz') (fun k hk => hkeep k (hT k hk)) hrep
        · obtain rfl : j' = 0 := by simpa using hj'
          exact hget _ (by rw [← hul]; simp)
  · exact ((Below.refl w.heap.size w).drew).alloc (by simp) _
/-- The law at the operation. -/
theorem wpList_append_full {Pr : Program} {ops : Array Oper} {rest : List Oper} {o : Oper} {a : Act} {Q : Exit → Act → World → Prop} {n nb : Nat} {u : Value} {e' : TypeId} (hgd : o.guard = none) (s x : Operand) (t : TypeId)
    (ho : o.op = .call { callee := .builtin .append, args := #[s, x], argTypes := #[t, t] }) {c : Nat} (hs : a.eval s = .slice A n n) (hx : a.eval x = .slice (some ⟨nb, 0, none⟩) 1 c) (hnb : nb = w.heap.size)
    {i : TypeInfo} {z : Value} {bytes : Nat} (ht : Pr.underlying t = some (.slice e)) (hi : Pr.info? e = some i) (hz : i.zero = some z)
    (hsize : i.size = E.size) (hby : i.bytes = bytes) (h1 : E.size = 1) (hn : xs.length = n) (hpos : 0 < n) (hsl : Sl E S w A cap xs) (hin : In S w)
    (y : α) (hrep : E.rep T w [u] y) (hT : ∀ k, T k → k < w.heap.size) (hsmall : (n + 1) * (bytes + 1) ≤ 140737488355328)
    (h : ∀ A' cap' w', Sl E (fun k => k < w'.heap.size) w' A' cap' (xs ++ [y]) → Below w.heap.size w w' → wpList Pr ops Q rest (a.put o.dst (.slice A' (n + 1) cap')) w') :
    wpList Pr ops Q (o :: rest) a (w.alloc (.cells #[u] e')) := by
  subst hn; subst hnb
  refine wpList_plain hgd fun K hK => ?_
  have hb0 : Below w.heap.size w (w.alloc (.cells #[u] e')) := (Below.refl _ _).alloc (Nat.le_refl _) _
  obtain ⟨cap', w', hr, h2, h3⟩ := run_append_full (Pr := Pr) (w := w.alloc (.cells #[u] e')) t o.type i z bytes ht hi hz hsize hby h1 (hsl.below hb0 hin) (fun k hk => Nat.lt_of_lt_of_le (hin k hk) hb0.size) hpos
    ⟨w.heap.size, 0, none⟩ c u y (E.stable (fun _ h => h) (fun k hk => hb0.block k (hT k hk)) hrep) (fun k hk => Nat.lt_of_lt_of_le (hT k hk) hb0.size) (by
      have hnew : (w.alloc (.cells #[u] e')).heap[w.heap.size]? = some (.cells #[u] e' (0, 0)) := heap_alloc_new w _
      simp only [World.cell?, hnew]; rfl) hsmall
  unfold Oper.wp execOp
  simp only [ho, resolve, invoke, builtin, Sem.run_bind, Sem.run_pure, Result.andThen_ok, List.map_toArray, List.map_cons, List.map_nil, hs, hx, hr]
  exact hK _ _ (h _ cap' w' h2 (hb0.trans (h3.mono hb0.size)))
end
end Go.Q
