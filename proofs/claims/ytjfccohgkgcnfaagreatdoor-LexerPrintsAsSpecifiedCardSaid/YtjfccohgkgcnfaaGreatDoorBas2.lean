/-
  More of lists in memory: appending any list, an empty one and nil too; regions whose end is named. No program.
-/
import Derived.Test.YtjfccohgkgcnfaaGreatDoorMat
import Derived.Test.YtjfccohgkgcnfaaGreatDoorReg
namespace Go.Q
open Go Go.RowKit
section
variable {α : Type} {E : Enc α} {P P' : Reg} {base : Nat} {e : TypeId} {w w' : World} {A : Option Addr} {cap : Nat} {xs : List α}
theorem run_append_none {Pr : Program} (w : World) (t ty e : TypeId) (i : TypeInfo) (ht : Pr.underlying t = some (.slice e)) (hi : Pr.info? e = some i) (base : Option Addr) (sLen sCap : Nat) (hle : sLen ≤ sCap) (A2 : Option Addr) (c : Nat) :
    (Builtin.append_ #[t, t] ty #[.slice base sLen sCap, .slice A2 0 c]).run Pr w = .ok (.slice base sLen sCap) w := by
  cases base <;> cases A2 <;> simp [Builtin.append_, run_underlying ht, sizeOf, typeInfo, hi, hle, Builtin.lenOf, Builtin.firstCells, storeCells, loadCells, loadCellsFrom]
/-- Bytes refer to no block. -/
theorem Own.bare {xs : List UInt8} (h : Own u8E P base e w A cap xs) : Own u8E P' base e w A cap xs := by
  obtain ⟨us, S, h1, h2, h3, h4⟩ := h
  exact ⟨us, fun _ => False, h1, fun _ h => h.elim, fun _ _ h => h, fun i hi => h4 i hi⟩
/-- Appending a list of one-cell elements, an empty one too. -/
theorem wpList_append_any {Pr : Program} {ops : Array Oper} {rest : List Oper} {o : Oper} {a : Act} {Q : Exit → Act → World → Prop} {w0 : World} {n m : Nat} (hgd : o.guard = none) (s x : Operand) (t : TypeId)
    (ho : o.op = .call { callee := .builtin .append, args := #[s, x], argTypes := #[t, t] }) {c : Nat} {A2 : Option Addr} (hs : a.eval s = .slice A n cap) (hx : a.eval x = .slice A2 m c)
    {i : TypeInfo} {z : Value} {bytes : Nat} (ht : Pr.underlying t = some (.slice e)) (hi : Pr.info? e = some i) (hz : i.zero = some z)
    (hsize : i.size = E.size) (hby : i.bytes = bytes) (hzs : z.cells.size = E.size) (h1 : E.size = 1) (hn : xs.length = n) (hown : Own E P w0.heap.size e w A cap xs) (hb : Below w0.heap.size w0 w)
    (ys : List α) (hm : ys.length = m) (T : Reg) (hsl : Sl E T w A2 c ys) (hT : ∀ k, T k → P k ∧ k < w.heap.size) (hTA : ∀ a, A = some a → ¬ T a.block)
    (hsmall : (n + m) * (bytes + 1) ≤ 140737488355328)
    (h : ∀ A' cap' w', Own E P w0.heap.size e w' A' cap' (xs ++ ys) → Below w0.heap.size w0 w' → (∀ k, k < w.heap.size → A.map (·.block) ≠ some k → w'.heap[k]? = w.heap[k]?) → (w.heap.size ≤ w'.heap.size ∧ (A' = A ∨ A' = some ⟨w.heap.size, 0, none⟩)) → wpList Pr ops Q rest (a.put o.dst (.slice A' (n + m) cap')) w') :
    wpList Pr ops Q (o :: rest) a w := by
  by_cases hm0 : m = 0
  · subst hm0
    obtain rfl : ys = [] := List.eq_nil_of_length_eq_zero hm
    refine wpList_plain hgd fun K hK => ?_
    have hle := hown.capLe.1
    unfold Oper.wp execOp
    simp only [ho, resolve, invoke, builtin, Sem.run_bind, Sem.run_pure, Result.andThen_ok, List.map_toArray, List.map_cons, List.map_nil, hs, hx, run_append_none (Pr := Pr) w t o.type e i ht hi A n cap (by omega) A2 c]
    have hK2 := h A cap w (by simpa using hown) hb (fun _ _ _ => rfl) ⟨Nat.le_refl _, .inl rfl⟩
    exact hK _ _ hK2
  · cases A2 with
    | none =>
      have h2 := hsl.1
      have h3 := hsl.2.2.1 rfl
      omega
    | some ad => exact wpList_append_list hgd s x t ho hs hx ht hi hz hsize hby hzs h1 hn hown hb ys hm T hsl hT hTA (by omega) hsmall h
/-- Appending one boxed element; what the call owns may begin later than what is known to stay. -/
theorem wpList_append_box' {Pr : Program} {ops : Array Oper} {rest : List Oper} {o : Oper} {a : Act} {Q : Exit → Act → World → Prop} {n : Nat} {cs : Array Value} {e' : TypeId} (hgd : o.guard = none) (s x : Operand) (t : TypeId)
    (ho : o.op = .call { callee := .builtin .append, args := #[s, x], argTypes := #[t, t] }) {c : Nat} (hs : a.eval s = .slice A n cap) (hx : a.eval x = .slice (some ⟨w.heap.size, 0, none⟩) 1 c)
    {i : TypeInfo} {z : Value} {bytes : Nat} (ht : Pr.underlying t = some (.slice e)) (hi : Pr.info? e = some i) (hz : i.zero = some z)
    (hsize : i.size = E.size) (hby : i.bytes = bytes) (hzs : z.cells.size = E.size) (hsz : 0 < E.size) (hn : xs.length = n) (hown : Own E P base e w A cap xs) (hB : base ≤ w.heap.size)
    (y : α) (T : Reg) (hrep : E.rep T w cs.toList y) (hT : ∀ k, T k → P k ∧ k < w.heap.size) (hTA : ∀ a, A = some a → ¬ T a.block)
    (hsmall : (n + 1) * (bytes + 1) ≤ 140737488355328)
    (h : ∀ A' cap' w', Own E P base e w' A' cap' (xs ++ [y]) → (∀ k, k < w.heap.size → A.map (·.block) ≠ some k → w'.heap[k]? = w.heap[k]?) → (w.heap.size ≤ w'.heap.size ∧ (A' = A ∨ A' = some ⟨w.heap.size + 1, 0, none⟩)) → (∀ B w0, Below B w0 w → B ≤ base → Below B w0 w') → wpList Pr ops Q rest (a.put o.dst (.slice A' (n + 1) cap')) w') :
    wpList Pr ops Q (o :: rest) a (w.alloc (.cells cs e')) := by
  subst hn
  have e1 : (xs.length + 1) * (bytes + 1) = (xs.length + 1) * bytes + (xs.length + 1) := by rw [Nat.mul_add, Nat.mul_one]
  refine wpList_append_one hgd s x t ho hs ht hi hz hsize hby hzs hsz (hown.alloc _) _ _ hx cs.toList y T (E.stable (fun _ h => h) (fun k hk => Below.heap_alloc _ _ _ (hT k hk).2) hrep)
    (fun k hk => ⟨(hT k hk).1, by have := (hT k hk).2; simp; omega⟩) hTA ?_ (by omega) (by omega) (by simp; omega) ?_
  · intro j u hu
    rw [add_at]
    have hnew : (w.alloc (.cells cs e')).heap[w.heap.size]? = some (.cells cs e' (0, 0)) := heap_alloc_new w _
    simp only [World.cell?, hnew]
    simpa using hu
  · intro A' cap' w' h1 h2 h5
    have hsz2 := h2.size
    refine h A' cap' w' h1 (fun k hk hne => ?_) ⟨by simp at hsz2; omega, by simpa using h5⟩ (fun B w0 hb hBb => (hown.alloc _).grown (hb.alloc (by omega) _) h2 hBb (by simp; omega))
    rw [h2.block k (by simp; omega) (fun e => hne e.symm), Below.heap_alloc _ _ _ hk]
/-- A tail of a slice of one-cell elements. -/
theorem Sl.drop {S : Reg} {b o : Nat} (h : Sl E S w (some ⟨b, o, none⟩) cap xs) (h1 : E.size = 1) (n : Nat) (hn : n ≤ xs.length) : Sl E S w (some ⟨b, o + n, none⟩) (cap - n) (xs.drop n) := by
  obtain ⟨h2, h3, h4, h5⟩ := h
  refine ⟨by rw [List.length_drop]; omega, by omega, (fun h => by cases h), fun a ha hp => ?_⟩
  cases ha
  obtain ⟨b', o', hA, hb, hc⟩ := h5 _ rfl (by rw [List.length_drop] at hp; omega)
  simp only [Addr.mk.injEq, and_true] at hA
  obtain ⟨rfl, rfl⟩ := hA
  refine ⟨b, o + n, rfl, hb, fun i hi => ?_⟩
  rw [List.length_drop] at hi
  obtain ⟨cs, hr, hcs⟩ := hc (n + i) (by omega)
  refine ⟨cs, by rw [List.getElem_drop]; exact hr, fun j hj => ?_⟩
  have := hcs j hj
  rw [h1, Nat.mul_one] at this ⊢
  rw [← this]
  congr 2
  omega
/-- The same, where the box's number is spelled otherwise. -/
theorem wpList_append_boxN {Pr : Program} {ops : Array Oper} {rest : List Oper} {o : Oper} {a : Act} {Q : Exit → Act → World → Prop} {w0 : World} {n nb : Nat} {cs : Array Value} {e' : TypeId} (hgd : o.guard = none) (s x : Operand) (t : TypeId)
    (ho : o.op = .call { callee := .builtin .append, args := #[s, x], argTypes := #[t, t] }) {c : Nat} (hs : a.eval s = .slice A n cap) (hx : a.eval x = .slice (some ⟨nb, 0, none⟩) 1 c) (hnb : nb = w.heap.size)
    {i : TypeInfo} {z : Value} {bytes : Nat} (ht : Pr.underlying t = some (.slice e)) (hi : Pr.info? e = some i) (hz : i.zero = some z)
    (hsize : i.size = E.size) (hby : i.bytes = bytes) (hzs : z.cells.size = E.size) (hsz : 0 < E.size) (hn : xs.length = n) (hown : Own E P w0.heap.size e w A cap xs) (hb : Below w0.heap.size w0 w)
    (y : α) (T : Reg) (hrep : E.rep T w cs.toList y) (hT : ∀ k, T k → P k ∧ k < w.heap.size) (hTA : ∀ a, A = some a → ¬ T a.block)
    (hsmall : (n + 1) * (bytes + 1) ≤ 140737488355328)
    (h : ∀ A' cap' w', Own E P w0.heap.size e w' A' cap' (xs ++ [y]) → Below w0.heap.size w0 w' → (∀ k, k < w.heap.size → A.map (·.block) ≠ some k → w'.heap[k]? = w.heap[k]?) → (w.heap.size ≤ w'.heap.size ∧ (A' = A ∨ A' = some ⟨w.heap.size + 1, 0, none⟩)) → wpList Pr ops Q rest (a.put o.dst (.slice A' (n + 1) cap')) w') :
    wpList Pr ops Q (o :: rest) a (w.alloc (.cells cs e')) := by
  subst hnb
  exact wpList_append_box hgd s x t ho hs hx ht hi hz hsize hby hzs hsz hn hown hb y T hrep hT hTA hsmall h
end
/-- The ways of a region meet. -/
theorem ways4 {G : Prop} {R : Nat → Option Addr → Nat → Nat → World → Prop} {Fr : Nat → Option Addr → Nat → Nat → Act} {X : Act → World → Prop} (main : (∀ a b c d w, R a b c d w → X (Fr a b c d) w) → G) (cont : ∀ a b c d w, R a b c d w → X (Fr a b c d) w) : G := main cont
section
variable {P : Program} {Q : Exit → Act → World → Prop} {S : World → Prop} {c : List Nat}
def ones : List Nat → Ord
  | [] => .done
  | i :: t => .one i (ones t)
theorem ord_tail {ops : Array Oper} : ∀ (t : List Nat) (l : List Oper) (a : Act) (w : World), (t.all fun i => cl c i == 2 && !needS ops c i) = true → t.map (fun i => ops[i]?) = l.map some → wpList P ops Q l a w → walkO P ops Q S c (ones t) a w
  | [], [], _, _, _, _, h => h
  | [], _ :: _, _, _, _, hl, _ => by simp at hl
  | _ :: _, [], _, _, _, hl, _ => by simp at hl
  | i :: t, o :: l, a, w, ht, hl, h => by
    simp only [List.all_cons, Bool.and_eq_true, beq_iff_eq, Bool.not_eq_true'] at ht
    simp only [List.map_cons, List.cons.injEq] at hl
    unfold ones walkO
    simp only [hl.1, ht.1.1]
    unfold wpOp
    simp only [hl.1]
    unfold wpList at h
    have mono : ∀ a' w', wpList P ops Q l a' w' → ((needS ops c i = true → S w') ∧ walkO P ops Q S c (ones t) a' w') := fun a' w' h' =>
      ⟨fun hn => (by rw [ht.1.2] at hn; cases hn), ord_tail t l a' w' ht.2 hl.2 h'⟩
    by_cases hw : Region.wanted o (yielded ops a.tmps) = true
    · simp only [hw, if_true] at h ⊢
      exact h.imp (Oper.wp_mono mono) id
    · simp only [hw] at h ⊢
      exact mono _ _ h
/-- The end of an order is as the text's. -/
theorem ord_rest {l : List Oper} {a : Act} {w : World} (n : Nat) (t : List Nat) (ht : (t.all fun i => cl c i == 2 && !needS l.toArray c i) = true) (hl : t.map (fun i => l.toArray[i]?) = (l.drop n).map some) (h : wpList P l.toArray Q (l.drop n) a w) : walkO P l.toArray Q S c (ones t) a w :=
  ord_tail t _ a w ht hl h
end
end Go.Q
