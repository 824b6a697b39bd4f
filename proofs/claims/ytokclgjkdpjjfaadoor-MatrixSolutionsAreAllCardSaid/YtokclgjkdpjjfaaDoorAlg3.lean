/-
  Inverses, and the promises on lists. Plain Lean, no program.
-/
import Derived.Test.YtokclgjkdpjjfaaDoorAlg2
namespace Go.Q
/-- Pivots among the first columns. -/
theorem trunc_piv {B m : List (List UInt8)} {n N : Nat} (hB : Rect B N) (hm : Rect m n) (hl : B.length = m.length) (hn : n ≤ N) (he : ∀ i k, i < m.length → k < n → el B i k = el m i k) {c : Nat} (hc : c < n) :
    c ∈ (reduceM B).2 ↔ c ∈ (reduceM m).2 := by
  rw [mem_piv hB, mem_piv hm]
  constructor
  · rintro ⟨v, ⟨l, hl1⟩, h1, h2, h3⟩
    refine ⟨v, ⟨l, fun c hc => ?_⟩, hc, h2, h3⟩
    rw [hl1 c (by omega), hl]
    exact xsum_congr fun k hk => by rw [he k c hk hc]
  · rintro ⟨v, ⟨l, hl1⟩, h1, h2, h3⟩
    have e : ∀ c, c < n → xsum B.length (fun k => gmul (l k) (el B k c)) = v c := fun c hc => by
      rw [hl1 c hc, hl]; exact xsum_congr fun k hk => by rw [he k c hk hc]
    refine ⟨fun c => xsum B.length (fun k => gmul (l k) (el B k c)), ⟨l, fun c _ => rfl⟩, by omega, ?_, fun c' hc' => ?_⟩
    · show xsum _ _ ≠ 0
      rw [e c hc]; exact h2
    · show xsum _ _ = 0
      rw [e c' (by omega)]; exact h3 c' hc'
theorem inc_full {P : List Nat} {n : Nat} (h : P.Pairwise (· < ·)) (hlt : ∀ p ∈ P, p < n) (hl : P.length = n) : P = List.range n := by
  refine inc_eq h List.pairwise_lt_range fun p => ⟨fun hp => List.mem_range.2 (hlt p hp), fun hp => Decidable.byContradiction fun hn => ?_⟩
  have h1 := free_count h n
  have h2 : P.filter (fun p => decide (p < n)) = P := List.filter_eq_self.2 fun p hp => by simpa using hlt p hp
  rw [h2, hl] at h1
  have h3 : freeC P n = [] := List.eq_nil_of_length_eq_zero (by omega)
  have := mem_freeC.2 ⟨List.mem_range.1 hp, hn⟩
  rw [h3] at this
  cases this
theorem inc_full' {P : List Nat} {n : Nat} (h : P.Pairwise (· < ·)) (hall : ∀ c, c < n → c ∈ P) (hl : P.length = n) : P = List.range n := by
  refine inc_full h (fun p hp => Decidable.byContradiction fun hn => ?_) hl
  have := inc_le (P := List.range n ++ [p]) (P' := P) ?_ h ?_
  · simp at this; omega
  · rw [List.pairwise_append]
    exact ⟨List.pairwise_lt_range, by simp, fun x hx y hy => by
      have := List.mem_range.1 hx
      simp at hy; omega⟩
  · intro q hq
    simp only [List.mem_append, List.mem_singleton, List.mem_range] at hq
    rcases hq with hq | rfl
    · exact hall q hq
    · exact hp
def invG (m : List (List UInt8)) (n : Nat) : List (List UInt8) := gridM n (2 * n) (fun i k => if k < n then (m.getD i []).getD k 0 else if k = n + i then 1 else 0)
def invR (m : List (List UInt8)) (n : Nat) : List (List UInt8) := gridM n n (fun i k => ((reduceM (invG m n)).1.getD i []).getD (n + k) 0)
section
variable {m a b : List (List UInt8)} {n : Nat}
theorem invG_rect : Rect (invG m n) (2 * n) := gridM_rect _ _ _
theorem invG_length : (invG m n).length = n := gridM_length _ _ _
theorem el_invG_l {i k : Nat} (hi : i < n) (hk : k < n) : el (invG m n) i k = el m i k := by
  unfold invG; rw [el_gridM hi (by omega), if_pos hk]; rfl
theorem el_invG_r {i k : Nat} (hi : i < n) (hk : k < n) : el (invG m n) i (n + k) = if i = k then 1 else 0 := by
  unfold invG
  rw [el_gridM hi (by omega), if_neg (by omega)]
  by_cases h : i = k
  · rw [if_pos (by omega), if_pos h]
  · rw [if_neg (by omega), if_neg h]
theorem rk_invG : rk (invG m n) = n := by
  have := rk_full (invG_rect (m := m) (n := n)) (fun i => n + i) (fun i hi => by rw [invG_length] at hi; omega) (fun i j hi hj => by rw [invG_length] at hi hj; exact el_invG_r hi hj)
  rwa [invG_length] at this
theorem inv_iff (h : Rect m n) (hl : m.length = n) : (reduceM (invG m n)).2 = List.range n ↔ rk m = n := by
  have s := reduce_spec (invG_rect (m := m) (n := n))
  have htr : ∀ c, c < n → (c ∈ (reduceM (invG m n)).2 ↔ c ∈ (reduceM m).2) := fun c hc =>
    trunc_piv invG_rect h (by rw [invG_length, hl]) (by omega) (fun i k hi hk => el_invG_l (by omega) hk) hc
  constructor
  · intro hP
    have h1 := inc_le (P := List.range n) (P' := (reduceM m).2) List.pairwise_lt_range (reduce_spec h).rref.inc (fun c hc => (htr c (List.mem_range.1 hc)).1 (by rw [hP]; exact hc))
    rw [List.length_range] at h1
    have h2 := (reduce_spec h).rows
    unfold rk at *
    omega
  · intro hr
    have hP := inc_full (reduce_spec h).rref.inc (fun p hp => piv_lt h hp) hr
    exact inc_full' s.rref.inc (fun c hc => (htr c hc).2 (by rw [hP]; exact List.mem_range.2 hc)) rk_invG
theorem invR_length : (invR m n).length = n := gridM_length _ _ _
theorem invR_rect : Rect (invR m n) n := gridM_rect _ _ _
theorem el_invR {i k : Nat} (hi : i < n) (hk : k < n) : el (invR m n) i k = el (reduceM (invG m n)).1 i (n + k) := by
  unfold invR; rw [el_gridM hi hk]; rfl
theorem invR_one (hP : (reduceM (invG m n)).2 = List.range n) {k c : Nat} (hk : k < n) (hc : c < n) : el (reduceM (invG m n)).1 k c = if k = c then 1 else 0 := by
  have s := reduce_spec (invG_rect (m := m) (n := n))
  have h1 := s.rref.one k c (by rw [hP]; simpa using hk) (by rw [hP]; simpa using hc)
  simp only [hP, List.getElem_range] at h1
  exact h1
theorem inv_left (hl : m.length = n) (hP : (reduceM (invG m n)).2 = List.range n) : pmM (invR m n) m n = identity n := by
  have s := reduce_spec (invG_rect (m := m) (n := n))
  refine el_ext pmM_rect identity_rect (by rw [pmM_length, invR_length, identity_length]) fun i k hi hk => ?_
  rw [pmM_length, invR_length] at hi
  rw [el_pmM (by rw [invR_length]; exact hi) hk, el_identity hi hk]
  obtain ⟨l, hl1⟩ := s.le i (by rw [rk_invG]; exact hi)
  rw [invG_length] at hl1
  have e : ∀ j, j < n → el (invR m n) i j = l j := fun j hj => by
    rw [el_invR hi hj, hl1 (n + j) (by omega), xsum_single hj (fun t ht hne => by rw [el_invG_r ht hj, if_neg hne, gmul_zero]), el_invG_r hj hj, if_pos rfl, gmul_one]
  rw [← invR_one hP hi hk, hl1 k (by omega), hl]
  exact xsum_congr fun j hj => by rw [e j hj, el_invG_l hj hk]
theorem inv_right (hl : m.length = n) (hP : (reduceM (invG m n)).2 = List.range n) : pmM m (invR m n) n = identity n := by
  have s := reduce_spec (invG_rect (m := m) (n := n))
  refine el_ext pmM_rect identity_rect (by rw [pmM_length, identity_length, hl]) fun i k hi hk => ?_
  rw [pmM_length, hl] at hi
  rw [el_pmM (by omega) hk, el_identity hi hk, invR_length]
  obtain ⟨l, hl1⟩ := s.ge i (by rw [invG_length]; exact hi)
  rw [rk_invG] at hl1
  have e : ∀ j, j < n → el m i j = l j := fun j hj => by
    rw [← el_invG_l hi hj, hl1 j (by omega), xsum_single hj (fun t ht hne => by rw [invR_one hP ht hj, if_neg hne, gmul_zero]), invR_one hP hj hj, if_pos rfl, gmul_one]
  rw [← el_invG_r hi hk, hl1 (n + k) (by omega)]
  exact xsum_congr fun j hj => by rw [e j hj, el_invR hj hk]
theorem rk_of_inv (hm : Rect m n) (hl : m.length = n) {x : List (List UInt8)} (h : pmM x m n = identity n) : rk m = n := by
  have h1 := rk_pm_right (a := x) hm
  rw [h, rk_identity] at h1
  have := (reduce_spec hm).rows
  omega
theorem invR_unique (hm : Rect m n) (hl : m.length = n) {x : List (List UInt8)} (hx : Rect x n) (h : pmM x m n = identity n) : x = invR m n := by
  have hP := (inv_iff hm hl).2 (rk_of_inv hm hl h)
  have h1 := pmM_assoc (a := x) (b := m) (c := invR m n) (n := n) (q := n) invR_length
  rw [h, inv_right hl hP, pm_one hx, one_pm invR_rect invR_length] at h1
  exact h1.symm
theorem inv_prod (hal : a.length = n) (hb : Rect b n) (hbl : b.length = n) (hPa : (reduceM (invG a n)).2 = List.range n) :
    ((reduceM (invG (pmM a b n) n)).2 = List.range n ↔ (reduceM (invG b n)).2 = List.range n) ∧ ((reduceM (invG b n)).2 = List.range n → invR (pmM a b n) n = pmM (invR b n) (invR a n) n) := by
  have hab : Rect (pmM a b n) n := pmM_rect
  have habl : (pmM a b n).length = n := by rw [pmM_length, hal]
  have key : (reduceM (invG b n)).2 = List.range n → pmM (pmM (invR b n) (invR a n) n) (pmM a b n) n = identity n := fun hPb => by
    rw [pmM_assoc (q := n) habl, ← pmM_assoc (a := invR a n) (b := a) (c := b) (q := n) hbl, inv_left hal hPa, one_pm hb hbl, inv_left hbl hPb]
  refine ⟨⟨fun h => ?_, fun h => (inv_iff hab habl).2 (rk_of_inv hab habl (key h))⟩, fun h => (invR_unique hab habl pmM_rect (key h)).symm⟩
  refine (inv_iff hb hbl).2 (rk_of_inv hb hbl (x := pmM (invR (pmM a b n) n) a n) ?_)
  rw [pmM_assoc (q := n) hbl, inv_left habl h]
end
-- lists
theorem combine_get {coef : List UInt8} {rows : List (List UInt8)} {n : Nat} (h : Rect rows n) (c : Nat) : (combine coef rows n).getD c 0 = xsum rows.length (fun k => gmul (coef.getD k 0) (el rows k c)) := by
  have key : ∀ k, k ≤ rows.length → (combineTo coef rows n k).length = n ∧ (combineTo coef rows n k).getD c 0 = xsum k (fun k => gmul (coef.getD k 0) (el rows k c)) := by
    intro k
    induction k with
    | zero => intro _; exact ⟨by simp [combineTo], replicate_get _ _⟩
    | succ k ih =>
      intro hk
      obtain ⟨h1, h2⟩ := ih (by omega)
      have h3 : (rows.getD k []).length = n := h.getD hk
      refine ⟨rowAdd_len h1 (by omega), ?_⟩
      rw [combineTo, rowAdd_get _ (by rw [h1, h3]), h2, xsum]
      rfl
  exact (key rows.length (Nat.le_refl _)).2
theorem combine_length {coef : List UInt8} {rows : List (List UInt8)} {n : Nat} (h : Rect rows n) : (combine coef rows n).length = n := by
  have key : ∀ k, k ≤ rows.length → (combineTo coef rows n k).length = n := by
    intro k
    induction k with
    | zero => intro _; simp [combineTo]
    | succ k ih => intro hk; exact rowAdd_len (ih (by omega)) (by rw [h.getD hk]; exact Nat.le_refl _)
  exact key _ (Nat.le_refl _)
theorem rect_cols {m : List (List UInt8)} {n : Nat} (h : Rect m n) (h0 : 0 < m.length) : cols m = n := by rw [← cols_zero h0]; exact h _ (List.getElem_mem h0)
theorem transpose_colsM (m : List (List UInt8)) : transpose m = colsM m (cols m) := by
  unfold transpose colsM gridM column el
  refine List.map_congr_left fun c _ => ?_
  refine List.ext_getElem (by simp) fun i h1 h2 => ?_
  have hi : i < m.length := by simpa using h1
  simp only [List.getElem_map, List.getElem_range]
  rw [getD_lt m _ hi]
theorem gridM_congr {r n : Nat} {f g : Nat → Nat → UInt8} (h : ∀ i k, i < r → k < n → f i k = g i k) : gridM r n f = gridM r n g := by
  unfold gridM
  refine List.map_congr_left fun i hi => List.map_congr_left fun k hk => h i k (List.mem_range.1 hi) (List.mem_range.1 hk)
theorem product_pmM {a b : List (List UInt8)} (hb : Rect b (cols b)) : product a b = pmM a b (cols b) := by
  refine List.ext_getElem (by simp [product, pmM_length]) fun i h1 h2 => ?_
  have hi : i < a.length := by rw [pmM_length] at h2; exact h2
  have e1 : (product a b)[i] = combine a[i] b (cols b) := by simp [product]
  have e2 : (pmM a b (cols b))[i].length = cols b := pmM_rect _ (List.getElem_mem h2)
  rw [e1]
  refine row_ext (by rw [combine_length hb, e2]) fun k hk => ?_
  rw [combine_length hb] at hk
  rw [combine_get hb k]
  have e3 := el_pmM (a := a) (b := b) hi hk
  have e4 : el (pmM a b (cols b)) i k = (pmM a b (cols b))[i].getD k 0 := by unfold el; rw [getD_lt _ _ h2]
  rw [← e4, e3]
  refine xsum_congr fun j _ => ?_
  unfold el
  rw [getD_lt _ _ hi]
/-- As the statements say it. -/
def mapsTo (m : List (List UInt8)) (y b : List UInt8) : Prop := combine y (transpose m) m.length = b
theorem mapsTo_iff {m : List (List UInt8)} {y b : List UInt8} (hb : b.length = m.length) : mapsTo m y b ↔ Solves m.length (cols m) (el m) (fun c => y.getD c 0) (fun i => b.getD i 0) := by
  unfold mapsTo
  rw [transpose_colsM]
  have hr : Rect (colsM m (cols m)) m.length := colsM_rect
  have key : ∀ i, i < m.length → (combine y (colsM m (cols m)) m.length).getD i 0 = dot (cols m) (el m i) (fun c => y.getD c 0) := fun i hi => by
    rw [combine_get hr i, colsM_length]
    exact xsum_congr fun k hk => by rw [el_colsM hk hi, gmul_comm]
  constructor
  · intro h i hi
    rw [← key i hi, h]
  · intro h
    refine row_ext (by rw [combine_length hr, hb]) fun i hi => ?_
    rw [combine_length hr] at hi
    rw [key i hi]; exact h i hi
end Go.Q
