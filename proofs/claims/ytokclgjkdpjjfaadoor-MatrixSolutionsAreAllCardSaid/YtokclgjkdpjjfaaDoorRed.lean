/-
  The reduced form that the elimination gives: unit columns, the same span. Plain Lean, no program.
-/
import Derived.Test.YtokclgjkdpjjfaaDoorLin
namespace Go.Q
theorem getD_set {α : Type} (l : List α) (d : α) {i : Nat} (hi : i < l.length) (v : α) (j : Nat) : (l.set i v).getD j d = if j = i then v else l.getD j d := by
  rw [List.getD_eq_getElem?_getD, List.getElem?_set, List.getD_eq_getElem?_getD]
  by_cases h : i = j
  · subst h; simp [hi]
  · rw [if_neg h, if_neg (fun e => h e.symm)]
theorem el_set (m : List (List UInt8)) {i : Nat} (hi : i < m.length) (v : List UInt8) (j k : Nat) : el (m.set i v) j k = if j = i then v.getD k 0 else el m j k := by
  unfold el
  rw [getD_set _ _ hi]
  split <;> rfl
theorem rowAdd_get {a b : List UInt8} (y : UInt8) (h : a.length = b.length) (k : Nat) : (rowAdd a y b).getD k 0 = a.getD k 0 ^^^ gmul y (b.getD k 0) := by
  unfold rowAdd
  rw [List.getD_eq_getElem?_getD, List.getD_eq_getElem?_getD, List.getD_eq_getElem?_getD, List.getElem?_zipWith]
  by_cases hk : k < a.length
  · rw [List.getElem?_eq_getElem hk, List.getElem?_eq_getElem (h ▸ hk)]; rfl
  · rw [List.getElem?_eq_none (by omega), List.getElem?_eq_none (by omega)]
    simp [gmul_zero]
theorem replicate_get (n k : Nat) : (List.replicate n (0 : UInt8)).getD k 0 = 0 := by
  rw [List.getD_eq_getElem?_getD, List.getElem?_replicate]
  split <;> rfl
theorem el_swapScale {m : List (List UInt8)} {r p : Nat} (c : Nat) (hr : r < m.length) (hp : p < m.length) (i k : Nat) :
    el (swapScale m r p c) i k = if i = r then gmul (ginv (el m p c)) (el m p k) else if i = p then el m r k else el m i k := by
  unfold swapScale
  rw [el_set _ (by simpa using hr), el_set _ hp, rowAdd_get _ (by simp), replicate_get, UInt8.zero_xor]
  rfl
theorem el_clrTo {l : List (List UInt8)} {n r c : Nat} (h : Rect l n) (hr : r < l.length) : ∀ i, i ≤ l.length → ∀ j k, el (clrTo l r c i) j k = if j < i ∧ j ≠ r then el l j k ^^^ gmul (el l j c) (el l r k) else el l j k
  | 0, _, j, k => by simp [clrTo]
  | i + 1, hi, j, k => by
    have ih := el_clrTo (c := c) h hr i (by omega)
    have hlen := clrTo_length l r c i
    have hrect := clrTo_rect (c := c) h hr i (by omega)
    simp only [clrTo]
    by_cases hir : i = r
    · rw [if_pos hir, ih]
      have : (j < i ∧ j ≠ r) ↔ (j < i + 1 ∧ j ≠ r) := by omega
      simp only [this]
    · rw [if_neg hir, el_set _ (by omega)]
      by_cases hji : j = i
      · subst hji
        rw [if_pos rfl, rowAdd_get _ (by rw [hrect.getD (by omega), hrect.getD (by omega)])]
        have e1 := ih j k
        have e2 := ih j c
        have e3 := ih r k
        unfold el at e1 e2 e3
        rw [e1, e2, e3, if_neg (by omega), if_neg (by omega), if_neg (by omega), if_pos ⟨by omega, hir⟩]
        rfl
      · rw [if_neg hji, ih]
        have : (j < i ∧ j ≠ r) ↔ (j < i + 1 ∧ j ≠ r) := by omega
        simp only [this]
/-- A row with the first elements exchanged. -/
def exch (m : List (List UInt8)) (r p i : Nat) : Nat → UInt8 := if i = p then el m r else el m i
theorem el_cleared {m : List (List UInt8)} {n r p : Nat} (c : Nat) (h : Rect m n) (hr : r < m.length) (hp : p < m.length) (i k : Nat) (hi : i < m.length) :
    el (clearedM m r p c) i k = if i = r then gmul (ginv (el m p c)) (el m p k) else exch m r p i k ^^^ gmul (exch m r p i c) (gmul (ginv (el m p c)) (el m p k)) := by
  unfold clearedM
  rw [el_clrTo (swapScale_rect h hr hp) (by rw [swapScale_length]; exact hr) _ (by rw [swapScale_length]; exact Nat.le_refl _)]
  simp only [el_swapScale c hr hp]
  by_cases hir : i = r
  · rw [if_neg (by omega), if_pos hir, if_pos hir]
  · rw [if_pos ⟨hi, hir⟩]
    simp only [if_neg hir, if_true, exch]
    split <;> rfl
theorem gmul_ginv_cancel {e : UInt8} (he : e ≠ 0) (x : UInt8) : gmul e (gmul (ginv e) x) = x := by rw [← gmul_assoc, gmul_ginv he, one_gmul]
theorem gmul_ginv' {e : UInt8} (he : e ≠ 0) : gmul (ginv e) e = 1 := by rw [gmul_comm, gmul_ginv he]
theorem InSp.of_eq {r n : Nat} {M : Mx} {v : Nat → UInt8} {k : Nat} (hk : k < r) (h : ∀ c, c < n → v c = M k c) : InSp r n M v := (InSp.row hk).congr h
theorem cleared_le {m : List (List UInt8)} {n r p : Nat} (c : Nat) (h : Rect m n) (hr : r < m.length) (hp : p < m.length) : SpLe m.length (el (clearedM m r p c)) m.length (el m) n := by
  intro i hi
  by_cases hir : i = r
  · exact ((InSp.row hp).smul (ginv (el m p c))).congr fun k _ => by rw [el_cleared c h hr hp i k hi, if_pos hir]
  · have h1 : InSp m.length n (el m) (exch m r p i) := by
      unfold exch; split
      · exact InSp.row hr
      · exact InSp.row hi
    exact (h1.add (((InSp.row hp).smul (ginv (el m p c))).smul (exch m r p i c))).congr fun k _ => by rw [el_cleared c h hr hp i k hi, if_neg hir]
theorem cleared_ge {m : List (List UInt8)} {n r p : Nat} (c : Nat) (h : Rect m n) (hr : r < m.length) (hp : p < m.length) (he : el m p c ≠ 0) : SpLe m.length (el m) m.length (el (clearedM m r p c)) n := by
  have hR : InSp m.length n (el (clearedM m r p c)) (el (clearedM m r p c) r) := InSp.row hr
  have hP : InSp m.length n (el (clearedM m r p c)) (el m p) := (hR.smul (el m p c)).congr fun k _ => by
    rw [el_cleared c h hr hp r k hr, if_pos rfl, gmul_ginv_cancel he]
  have hX : ∀ i, i < m.length → i ≠ r → InSp m.length n (el (clearedM m r p c)) (exch m r p i) := by
    intro i hi hir
    refine ((InSp.row hi).add (hR.smul (exch m r p i c))).congr fun k _ => ?_
    rw [el_cleared c h hr hp i k hi, if_neg hir, el_cleared c h hr hp r k hr, if_pos rfl, x_cancel]
  intro i hi
  by_cases hip : i = p
  · rw [hip]; exact hP
  · by_cases hir : i = r
    · have := hX p hp (by omega)
      unfold exch at this
      rw [if_pos rfl] at this
      rw [hir]; exact this
    · have := hX i hi hir
      unfold exch at this
      rw [if_neg hip] at this
      exact this
structure RedInv (m : List (List UInt8)) (n c : Nat) (st : List (List UInt8) × List Nat) : Prop where
  inc : st.2.Pairwise (· < ·)
  lt : ∀ p ∈ st.2, p < c
  one : ∀ k j, k < m.length → (hj : j < st.2.length) → el st.1 k st.2[j] = if k = j then 1 else 0
  lead : ∀ k (hk : k < st.2.length), ∀ d, d < st.2[k] → el st.1 k d = 0
  tail : ∀ k, st.2.length ≤ k → k < m.length → ∀ d, d < c → el st.1 k d = 0
  le : SpLe st.1.length (el st.1) m.length (el m) n
  ge : SpLe m.length (el m) st.1.length (el st.1) n
theorem redInv {m : List (List UInt8)} {n : Nat} (h : Rect m n) : ∀ c, RedInv m n c (redTo m c)
  | 0 => ⟨by simp [redTo], by simp [redTo], fun _ j _ hj => by simp [redTo] at hj, fun k hk => by simp [redTo] at hk, fun _ _ _ d hd => absurd hd (Nat.not_lt_zero _), SpLe.refl, SpLe.refl⟩
  | c + 1 => by
    have ih := redInv h c
    obtain ⟨h1, h2, h3, h4, h5⟩ := redTo_inv h c
    simp only [redTo, redStep]
    generalize redTo m c = st at *
    obtain ⟨Rw, P⟩ := st
    simp only at *
    cases hl : lead Rw P.length c with
    | none =>
      refine ⟨ih.inc, fun p hp => Nat.lt_succ_of_lt (ih.lt p hp), ih.one, ih.lead, fun k hk1 hk2 d hd => ?_, ih.le, ih.ge⟩
      by_cases hdc : d = c
      · subst hdc
        refine leadFrom_none _ _ hl k hk1 ?_
        omega
      · exact ih.tail k hk1 hk2 d (by omega)
    | some p =>
      obtain ⟨hp1, hp2, hp3⟩ := lead_some hl
      have he : el Rw p c ≠ 0 := hp3
      have hr : P.length < Rw.length := by omega
      have hpz : ∀ d, d < c → el Rw p d = 0 := fun d hd => ih.tail p hp1 (by omega) d hd
      have hcl := fun i k (hi : i < Rw.length) => el_cleared c h2 hr hp2 i k hi
      have hcol : ∀ k, k < m.length → el (clearedM Rw P.length p c) k c = if k = P.length then 1 else 0 := by
        intro k hk
        rw [hcl k c (by omega)]
        by_cases hkr : k = P.length
        · rw [if_pos hkr, if_pos hkr, gmul_ginv' he]
        · rw [if_neg hkr, if_neg hkr, gmul_ginv' he, gmul_one, xx]
      have hlow : ∀ k d, k < m.length → k ≠ P.length → d < c → el (clearedM Rw P.length p c) k d = exch Rw P.length p k d := by
        intro k d hk hkr hd
        rw [hcl k d (by omega), if_neg hkr, hpz d hd, gmul_zero, gmul_zero, UInt8.xor_zero]
      have hrow : ∀ d, d < c → el (clearedM Rw P.length p c) P.length d = 0 := by
        intro d hd
        rw [hcl _ d hr, if_pos rfl, hpz d hd, gmul_zero]
      have hgetl : ∀ j (hj : j < P.length) (hj2 : j < (P ++ [c]).length), (P ++ [c])[j] = P[j] := fun j hj _ => List.getElem_append_left hj
      have hgetr : ∀ (hj2 : P.length < (P ++ [c]).length), (P ++ [c])[P.length] = c := fun _ => by simp
      refine ⟨?_, ?_, ?_, ?_, ?_, ?_, ?_⟩
      · show (P ++ [c]).Pairwise _
        rw [List.pairwise_append]
        exact ⟨ih.inc, by simp, fun x hx y hy => by simp at hy; subst hy; exact ih.lt x hx⟩
      · intro q hq
        simp only [List.mem_append, List.mem_singleton] at hq
        rcases hq with hq | hq
        · have := ih.lt q hq; omega
        · omega
      · intro k j hk hj
        simp only [List.length_append, List.length_singleton] at hj
        by_cases hjr : j = P.length
        · subst hjr
          simp only [hgetr]
          exact hcol k hk
        · have hjP : j < P.length := by omega
          simp only [hgetl j hjP]
          have hq : P[j] < c := ih.lt _ (List.getElem_mem hjP)
          by_cases hkr : k = P.length
          · rw [hkr, hrow _ hq, if_neg (by omega)]
          · rw [hlow k _ hk hkr hq]
            unfold exch
            by_cases hkp : k = p
            · rw [if_pos hkp, ih.one P.length j (by omega) hjP, if_neg (by omega), if_neg (by omega)]
            · rw [if_neg hkp, ih.one k j hk hjP]
      · intro k hk d hd
        simp only [List.length_append, List.length_singleton] at hk
        by_cases hkr : k = P.length
        · subst hkr
          simp only [hgetr] at hd
          exact hrow d hd
        · have hkP : k < P.length := by omega
          simp only [hgetl k hkP] at hd
          have hq : P[k] < c := ih.lt _ (List.getElem_mem hkP)
          rw [hlow k d (by omega) hkr (by omega)]
          unfold exch
          rw [if_neg (by omega)]
          exact ih.lead k hkP d hd
      · intro k hk1 hk2 d hd
        simp only [List.length_append, List.length_singleton] at hk1
        by_cases hdc : d = c
        · subst hdc
          rw [hcol k hk2, if_neg (by omega)]
        · rw [hlow k d hk2 (by omega) (by omega)]
          unfold exch
          split
          · exact ih.tail P.length (Nat.le_refl _) (show P.length < m.length by omega) d (by omega)
          · exact ih.tail k (show P.length ≤ k by omega) hk2 d (by omega)
      · rw [clearedM_length]; exact (cleared_le c h2 hr hp2).trans ih.le
      · rw [clearedM_length]; exact ih.ge.trans (cleared_ge c h2 hr hp2 he)
/-- The rank. -/
def rk (m : List (List UInt8)) : Nat := (reduceM m).2.length
structure RedSpec (m : List (List UInt8)) (n : Nat) : Prop where
  rref : Rref n (el (reduceM m).1) (reduceM m).2
  len : (reduceM m).1.length = rk m
  rect : Rect (reduceM m).1 n
  le : SpLe (rk m) (el (reduceM m).1) m.length (el m) n
  ge : SpLe m.length (el m) (rk m) (el (reduceM m).1) n
  rows : rk m ≤ m.length
theorem el_take (m : List (List UInt8)) (r k c : Nat) (hk : k < r) : el (m.take r) k c = el m k c := by
  unfold el
  rw [List.getD_eq_getElem?_getD (l := m.take r), List.getElem?_take, if_pos hk, ← List.getD_eq_getElem?_getD]
theorem reduce_spec {m : List (List UInt8)} {n : Nat} (h : Rect m n) : RedSpec m n := by
  by_cases h0 : 0 < m.length
  · have hc : cols m = n := by rw [← cols_zero h0]; exact h _ (List.getElem_mem h0)
    have inv := redInv h (cols m)
    obtain ⟨h1, h2, h3, h4, h5⟩ := redTo_inv h (cols m)
    have e1 : (reduceM m).2 = (redTo m (cols m)).2 := rfl
    have e2 : (reduceM m).1 = (redTo m (cols m)).1.take (redTo m (cols m)).2.length := rfl
    have hel : ∀ k c, k < (redTo m (cols m)).2.length → el (reduceM m).1 k c = el (redTo m (cols m)).1 k c := fun k c hk => by rw [e2, el_take _ _ _ _ hk]
    refine ⟨⟨inv.inc, fun p hp => by rw [← hc]; exact inv.lt p hp, fun k j hk hj => ?_, fun k hk c' hc' => ?_⟩, ?_, ?_, ?_, ?_, ?_⟩
    · rw [hel _ _ hk]; exact inv.one k j (by rw [e1] at hk; omega) hj
    · rw [hel _ _ hk]; exact inv.lead k hk c' hc'
    · rw [e2]; unfold rk; rw [e1, List.length_take]; omega
    · intro r hr
      rw [e2] at hr
      exact h2 r (List.mem_of_mem_take hr)
    · intro k hk
      unfold rk at hk
      rw [e1] at hk
      exact (inv.le k (by omega)).congr fun c _ => hel k c hk
    · refine inv.ge.trans fun k hk => ?_
      by_cases hkr : k < (redTo m (cols m)).2.length
      · exact InSp.of_eq (k := k) (by unfold rk; rw [e1]; exact hkr) fun c _ => (hel k c hkr).symm
      · refine ⟨fun _ => 0, fun c hc' => ?_⟩
        rw [inv.tail k (by omega) (by omega) c (by omega), xsum_zero' fun j _ => zero_gmul _]
    · unfold rk; rw [e1]; omega
  · obtain rfl : m = [] := List.eq_nil_of_length_eq_zero (by omega)
    refine ⟨⟨List.Pairwise.nil, (fun p hp => by simp [reduceM, redTo, cols] at hp), (fun k j hk => by simp [reduceM, redTo, cols] at hk), (fun k hk => by simp [reduceM, redTo, cols] at hk)⟩, rfl, (fun r hr => by simp [reduceM, redTo, cols] at hr), (fun k hk => by simp [rk, reduceM, redTo, cols] at hk), (fun k hk => by simp at hk), Nat.le_refl _⟩
end Go.Q
