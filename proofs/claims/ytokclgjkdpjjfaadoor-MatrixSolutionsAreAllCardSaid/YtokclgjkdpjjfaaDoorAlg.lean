/-
  Ranks, transposes, systems, kernels: what the elimination decides. Plain Lean, no program.
-/
import Derived.Test.YtokclgjkdpjjfaaDoorRed
namespace Go.Q
theorem el_gridM {r n : Nat} {f : Nat → Nat → UInt8} {i k : Nat} (hi : i < r) (hk : k < n) : el (gridM r n f) i k = f i k := by
  have h : i < (gridM r n f).length := by rw [gridM_length]; exact hi
  have e : (gridM r n f)[i] = (List.range n).map (fun k => f i k) := by simp [gridM]
  unfold el
  rw [getD_lt _ _ h, e, getD_lt _ _ (by simpa using hk), List.getElem_map, List.getElem_range]
theorem el_ext {m m' : List (List UInt8)} {n : Nat} (h : Rect m n) (h' : Rect m' n) (hl : m.length = m'.length) (he : ∀ i k, i < m.length → k < n → el m i k = el m' i k) : m = m' := by
  refine List.ext_getElem hl fun i h1 h2 => ?_
  have e1 : m[i].length = n := h _ (List.getElem_mem h1)
  have e2 : m'[i].length = n := h' _ (List.getElem_mem h2)
  refine List.ext_getElem (by rw [e1, e2]) fun k h3 h4 => ?_
  have := he i k h1 (by omega)
  unfold el at this
  rw [getD_lt _ _ h1, getD_lt _ _ h2, getD_lt _ _ h3, getD_lt _ _ h4] at this
  exact this
theorem row_ext {a b : List UInt8} (hl : a.length = b.length) (he : ∀ k, k < a.length → a.getD k 0 = b.getD k 0) : a = b := by
  refine List.ext_getElem hl fun k h1 h2 => ?_
  have := he k h1
  rwa [getD_lt _ _ h1, getD_lt _ _ h2] at this
section
variable {m m' : List (List UInt8)} {n : Nat}
theorem RedSpec.span (h : RedSpec m n) (h' : RedSpec m' n) (hs : SpLe m.length (el m) m'.length (el m') n) : SpLe (rk m) (el (reduceM m).1) (rk m') (el (reduceM m').1) n :=
  h.le.trans (hs.trans h'.ge)
theorem rk_le (h : Rect m n) (h' : Rect m' n) (hs : SpLe m.length (el m) m'.length (el m') n) : rk m ≤ rk m' :=
  (reduce_spec h).rref.rankLe (reduce_spec h').rref ((reduce_spec h).span (reduce_spec h') hs)
theorem reduce_same (h : Rect m n) (h' : Rect m' n) (hs : SpLe m.length (el m) m'.length (el m') n) (hs' : SpLe m'.length (el m') m.length (el m) n) : reduceM m = reduceM m' := by
  have s := reduce_spec h
  have s' := reduce_spec h'
  obtain ⟨h1, h2⟩ := s.rref.same s'.rref (s.span s' hs) (s'.span s hs')
  have hr : rk m = rk m' := by unfold rk; rw [h1]
  exact Prod.ext (el_ext s.rect s'.rect (by rw [s.len, s'.len, hr]) (fun i k hi hk => h2 i (by rw [s.len] at hi; exact hi) k hk)) h1
/-- In the span of so many rows. -/
theorem rk_of_span (h : Rect m n) {r : Nat} {B : Mx} (hs : SpLe m.length (el m) r B n) : rk m ≤ r := by
  have h' : Rect (gridM r n B) n := gridM_rect r n B
  have h1 := (reduce_spec h').rows
  rw [gridM_length] at h1
  refine Nat.le_trans (rk_le h h' (hs.trans fun k hk => ?_)) h1
  rw [gridM_length]
  exact InSp.of_eq hk fun c hc => (el_gridM hk hc).symm
/-- A pivot is a leading column of the span. -/
theorem mem_piv (h : Rect m n) (c : Nat) : c ∈ (reduceM m).2 ↔ ∃ v, InSp m.length n (el m) v ∧ LeadC n v c := by
  have s := reduce_spec h
  constructor
  · intro hc
    obtain ⟨k, hk, rfl⟩ := List.getElem_of_mem hc
    exact ⟨_, s.le k hk, s.rref.rowLead hk⟩
  · rintro ⟨v, hv, hl⟩
    exact s.rref.leadMem (hv.trans s.ge) hl
theorem piv_lt (h : Rect m n) {c : Nat} (hc : c ∈ (reduceM m).2) : c < n := (reduce_spec h).rref.lt c hc
theorem rk_le_cols (h : Rect m n) : rk m ≤ n := by
  have := inc_le (P := (reduceM m).2) (P' := List.range n) (reduce_spec h).rref.inc List.pairwise_lt_range (fun p hp => List.mem_range.2 (piv_lt h hp))
  rwa [List.length_range] at this
theorem rk_ge_leads (h : Rect m n) {k : Nat} (hk : ∀ c, c < k → ∃ v, InSp m.length n (el m) v ∧ LeadC n v c) : k ≤ rk m := by
  have := inc_le (P := List.range k) (P' := (reduceM m).2) List.pairwise_lt_range (reduce_spec h).rref.inc (fun p hp => (mem_piv h p).2 (hk p (List.mem_range.1 hp)))
  rwa [List.length_range] at this
/-- The columns as rows. -/
def colsM (m : List (List UInt8)) (n : Nat) : List (List UInt8) := gridM n m.length (fun i k => el m k i)
theorem colsM_rect : Rect (colsM m n) m.length := gridM_rect _ _ _
theorem colsM_length : (colsM m n).length = n := gridM_length _ _ _
theorem el_colsM {i k : Nat} (hi : i < n) (hk : k < m.length) : el (colsM m n) i k = el m k i := el_gridM hi hk
theorem rk_cols_le (h : Rect m n) : rk (colsM m n) ≤ rk m := by
  have s := reduce_spec h
  have hex : ∀ k, ∃ l : Nat → UInt8, k < m.length → ∀ c, c < n → el m k c = xsum (rk m) (fun j => gmul (l j) (el (reduceM m).1 j c)) := fun k => by
    by_cases hk : k < m.length
    · obtain ⟨l, hl⟩ := s.ge k hk; exact ⟨l, fun _ => hl⟩
    · exact ⟨fun _ => 0, fun h => absurd h hk⟩
  refine rk_of_span colsM_rect (B := fun j k => Classical.choose (hex k) j) fun c hc => ?_
  rw [colsM_length] at hc
  refine ⟨fun j => el (reduceM m).1 j c, fun k hk => ?_⟩
  rw [el_colsM hc hk, Classical.choose_spec (hex k) hk c hc]
  exact xsum_congr fun j _ => gmul_comm _ _
theorem colsM_colsM (h : Rect m n) : colsM (colsM m n) m.length = m := by
  refine el_ext (n := n) ?_ h colsM_length fun i k hi hk => ?_
  · have := colsM_rect (m := colsM m n) (n := m.length); rwa [colsM_length] at this
  · rw [colsM_length] at hi
    rw [el_colsM hi (by rw [colsM_length]; exact hk), el_colsM hk hi]
theorem rk_cols (h : Rect m n) : rk (colsM m n) = rk m := by
  refine Nat.le_antisymm (rk_cols_le h) ?_
  have := rk_cols_le (m := colsM m n) colsM_rect
  rwa [colsM_colsM h] at this
/-- Unit columns somewhere: as many as there are rows. -/
theorem rk_full (h : Rect m n) (f : Nat → Nat) (hf : ∀ i, i < m.length → f i < n) (hd : ∀ i j, i < m.length → j < m.length → el m i (f j) = if i = j then 1 else 0) : rk m = m.length := by
  refine Nat.le_antisymm (reduce_spec h).rows ?_
  rw [← rk_cols h]
  refine rk_ge_leads colsM_rect fun c hc => ⟨el (colsM m n) (f c), InSp.row (by rw [colsM_length]; exact hf c hc), hc, ?_, fun c' hc' => ?_⟩
  · rw [el_colsM (hf c hc) hc, hd c c hc hc, if_pos rfl]; decide
  · rw [el_colsM (hf c hc) (by omega), hd c' c (by omega) hc, if_neg (by omega)]
/-- One row more. -/
theorem rk_snoc (h : Rect m n) {r : List UInt8} (hr : r.length = n) : InSp m.length n (el m) (fun c => r.getD c 0) ↔ rk (m ++ [r]) = rk m := by
  have h' : Rect (m ++ [r]) n := by
    intro x hx
    simp only [List.mem_append, List.mem_singleton] at hx
    rcases hx with hx | rfl
    · exact h x hx
    · exact hr
  have hel : ∀ k c, k < m.length → el (m ++ [r]) k c = el m k c := fun k c hk => by
    unfold el; rw [List.getD_eq_getElem?_getD (l := m ++ [r]), List.getElem?_append_left hk, ← List.getD_eq_getElem?_getD]
  have helr : ∀ c, el (m ++ [r]) m.length c = r.getD c 0 := fun c => by
    unfold el; rw [List.getD_eq_getElem?_getD (l := m ++ [r]), List.getElem?_append_right (Nat.le_refl _)]; simp
  have hle : SpLe m.length (el m) (m ++ [r]).length (el (m ++ [r])) n := fun k hk => InSp.of_eq (k := k) (by simp; omega) fun c _ => (hel k c hk).symm
  constructor
  · intro hin
    refine Nat.le_antisymm (rk_le h' h fun k hk => ?_) (rk_le h h' hle)
    by_cases hkm : k < m.length
    · exact InSp.of_eq hkm fun c _ => hel k c hkm
    · obtain rfl : k = m.length := by simp at hk; omega
      exact hin.congr fun c _ => helr c
  · intro he
    have s := reduce_spec h
    have s' := reduce_spec h'
    have hb := s.rref.back s'.rref (s.span s' hle) (by show rk (m ++ [r]) ≤ rk m; omega)
    have h1 : InSp (m ++ [r]).length n (el (m ++ [r])) (el (m ++ [r]) m.length) := InSp.row (by simp)
    exact ((h1.trans s'.ge).trans (hb.trans s.le)).congr fun c _ => (helr c).symm
end
/-- The scalar product. -/
def dot (n : Nat) (v y : Nat → UInt8) : UInt8 := xsum n (fun c => gmul (v c) (y c))
theorem dot_sp {r n : Nat} {M : Mx} {v y : Nat → UInt8} (hv : InSp r n M v) (h : ∀ k, k < r → dot n (M k) y = 0) : dot n v y = 0 := by
  obtain ⟨l, hl⟩ := hv
  unfold dot at *
  have e1 : ∀ c, c < n → gmul (v c) (y c) = xsum r (fun k => gmul (l k) (gmul (M k c) (y c))) := fun c hc => by
    rw [hl c hc, ← xsum_mul']
    exact xsum_congr fun k _ => gmul_assoc _ _ _
  rw [xsum_congr e1, xsum_comm]
  refine xsum_zero' fun k hk => ?_
  rw [xsum_mul, h k hk, gmul_zero]
theorem dot_add (n : Nat) (v y z : Nat → UInt8) : dot n v (fun c => y c ^^^ z c) = dot n v y ^^^ dot n v z := by
  unfold dot
  rw [← xsum_add]
  exact xsum_congr fun c _ => gmul_add _ _ _
theorem dot_comm (n : Nat) (v y : Nat → UInt8) : dot n v y = dot n y v := xsum_congr fun _ _ => gmul_comm _ _
/-- y solves the system. -/
def Solves (r n : Nat) (M : Mx) (y b : Nat → UInt8) : Prop := ∀ i, i < r → dot n (M i) y = b i
/-- The unknowns, and one more that is 1. -/
def ext1 (u : Nat) (y : Nat → UInt8) : Nat → UInt8 := fun c => if c < u then y c else 1
theorem dot_ext1 (u : Nat) (v y : Nat → UInt8) : dot (u + 1) v (ext1 u y) = dot u v y ^^^ v u := by
  unfold dot ext1
  rw [xsum]
  congr 1
  · exact xsum_congr fun c hc => by rw [if_pos hc]
  · rw [if_neg (Nat.lt_irrefl _), gmul_one]
section
variable {m : List (List UInt8)} {b : List UInt8} {u : Nat}
theorem el_both {i k : Nat} (hi : i < m.length) (hk : k ≤ u) : el (bothM m b u) i k = if k < u then el m i k else b.getD i 0 := el_gridM hi (by omega)
theorem bothM_length : (bothM m b u).length = m.length := gridM_length _ _ _
theorem solves_both (y : Nat → UInt8) : Solves m.length u (el m) y (fun i => b.getD i 0) ↔ ∀ k, k < (bothM m b u).length → dot (u + 1) (el (bothM m b u) k) (ext1 u y) = 0 := by
  rw [bothM_length]
  refine forall_congr' fun i => ?_
  constructor
  · intro h hi
    have e : dot u (el (bothM m b u) i) y = dot u (el m i) y := xsum_congr fun c hc => by rw [el_both hi (by omega), if_pos hc]
    rw [dot_ext1, e, h hi, el_both hi (Nat.le_refl _), if_neg (Nat.lt_irrefl _), xx]
  · intro h hi
    have h1 := h hi
    have e : dot u (el (bothM m b u) i) y = dot u (el m i) y := xsum_congr fun c hc => by rw [el_both hi (by omega), if_pos hc]
    rw [dot_ext1, e, el_both hi (Nat.le_refl _), if_neg (Nat.lt_irrefl _)] at h1
    exact x_eq.1 h1
/-- By the reduced form. -/
theorem solves_red (y : Nat → UInt8) : Solves m.length u (el m) y (fun i => b.getD i 0) ↔ ∀ k, k < rk (bothM m b u) → dot (u + 1) (el (reduceM (bothM m b u)).1 k) (ext1 u y) = 0 := by
  have s := reduce_spec (bothM_rect m b u)
  rw [solves_both]
  exact ⟨fun h k hk => dot_sp (s.le k hk) h, fun h k hk => dot_sp (s.ge k hk) h⟩
theorem no_solution (h : u ∈ (reduceM (bothM m b u)).2) (y : Nat → UInt8) : ¬ Solves m.length u (el m) y (fun i => b.getD i 0) := by
  have s := reduce_spec (bothM_rect m b u)
  intro hs
  obtain ⟨k, hk, he⟩ := List.getElem_of_mem h
  have h1 := (solves_red y).1 hs k hk
  have h2 := s.rref.one k k hk hk
  have h3 := s.rref.lead k hk
  rw [he] at h2 h3
  rw [dot_ext1, h2, if_pos rfl] at h1
  have h4 : dot u (el (reduceM (bothM m b u)).1 k) y = 0 := xsum_zero' fun c hc => by rw [h3 c hc, zero_gmul]
  rw [h4] at h1
  revert h1; decide
end
/-- A list filled at the pivots. -/
theorem fill_get {P : List Nat} {u : Nat} (hinc : P.Pairwise (· < ·)) (hlt : ∀ p ∈ P, p < u) (F : Nat → List UInt8) (f : Nat → UInt8) (hF : ∀ k, F (k + 1) = (F k).set (P.getD k 0) (f k)) (hl : ∀ k, (F k).length = u) (c : Nat) :
    ∀ k, k ≤ P.length → (F k).getD c 0 = if c ∈ P.take k then xsum k (fun j => if P.getD j 0 = c then f j else 0) else (F 0).getD c 0
  | 0, _ => by simp
  | k + 1, hk => by
    have hkP : k < P.length := hk
    have ih := fill_get hinc hlt F f hF hl c k (by omega)
    have hp : P.getD k 0 < (F k).length := by rw [hl, getD_lt _ _ hkP]; exact hlt _ (List.getElem_mem hkP)
    rw [hF, getD_set _ _ hp, take_succ _ _ hkP]
    have hnot : ∀ j, j < k → P.getD j 0 ≠ P.getD k 0 := fun j hj e => by
      rw [getD_lt _ _ (by omega), getD_lt _ _ hkP] at e
      have := inc_inj hinc (by omega) hkP e
      omega
    by_cases hc : c = P.getD k 0
    · have hm : c ∈ P.take k ++ [P[k]] := by rw [hc, getD_lt _ _ hkP]; exact List.mem_append_right _ (List.mem_singleton.2 rfl)
      rw [if_pos hc, if_pos hm, xsum, if_pos hc.symm, xsum_zero' (fun j hj => if_neg (by rw [hc]; exact hnot j hj)), UInt8.zero_xor]
    · have hm : c ∈ P.take k ++ [P[k]] ↔ c ∈ P.take k := by
        rw [List.mem_append, List.mem_singleton, ← getD_lt P 0 hkP]
        exact ⟨fun h => h.elim id (fun h => absurd h hc), Or.inl⟩
      rw [if_neg hc, ih]
      simp only [hm]
      split
      · rw [xsum, if_neg (fun e => hc e.symm), UInt8.xor_zero]
      · rfl
/-- What stands at the pivots. -/
def pivV (R : Mx) (P : List Nat) (f : Nat) : Nat → UInt8 := fun c => xsum P.length (fun j => if P.getD j 0 = c then R j f else 0)
theorem pivV_at {R : Mx} {P : List Nat} (h : P.Pairwise (· < ·)) {k : Nat} (hk : k < P.length) (f : Nat) : pivV R P f P[k] = R k f := by
  unfold pivV
  rw [xsum_single hk (fun j hj hne => if_neg (fun e => hne (by rw [getD_lt _ _ hj] at e; exact inc_inj h hj hk e))), if_pos (getD_lt _ _ hk)]
theorem pivV_not {R : Mx} {P : List Nat} {c : Nat} (h : c ∉ P) (f : Nat) : pivV R P f c = 0 :=
  xsum_zero' fun j hj => if_neg (fun e => h (by rw [← e, getD_lt _ _ hj]; exact List.getElem_mem hj))
theorem Rref.dotPiv {n : Nat} {R : Mx} {P : List Nat} (h : Rref n R P) {k u : Nat} (hk : k < P.length) (hu : ∀ p ∈ P, p < u) (f : Nat) : dot u (R k) (pivV R P f) = R k f := by
  unfold dot
  rw [xsum_single (hu _ (List.getElem_mem hk)), pivV_at h.inc hk, h.one k k hk hk, if_pos rfl, one_gmul]
  intro c hc hne
  by_cases hm : c ∈ P
  · obtain ⟨j, hj, rfl⟩ := List.getElem_of_mem hm
    rw [h.one k j hk hj, if_neg (fun e => hne (by subst e; rfl)), zero_gmul]
  · rw [pivV_not hm, gmul_zero]
/-- A number's unit. -/
def unitV (f : Nat) : Nat → UInt8 := fun c => if c = f then 1 else 0
theorem dot_unit {n f : Nat} (hf : f < n) (v : Nat → UInt8) : dot n v (unitV f) = v f := by
  unfold dot unitV
  rw [xsum_single hf (fun j _ hne => by rw [if_neg hne, gmul_zero]), if_pos rfl, gmul_one]
section
variable {m : List (List UInt8)} {b : List UInt8} {u : Nat}
theorem solX_get {R : List (List UInt8) × List Nat} (hinc : R.2.Pairwise (· < ·)) (hlt : ∀ p ∈ R.2, p < u) (c : Nat) : (solXTo R u R.2.length).getD c 0 = pivV (el R.1) R.2 u c := by
  rw [fill_get hinc hlt (solXTo R u) (fun k => (R.1.getD k []).getD u 0) (fun k => rfl) (solXTo_length R u) c _ (Nat.le_refl _), take_all]
  split
  · rfl
  · rename_i h; rw [pivV_not h]; exact replicate_get _ _
theorem ker_get {R : List (List UInt8) × List Nat} (hinc : R.2.Pairwise (· < ·)) (hlt : ∀ p ∈ R.2, p < u) {f : Nat} (hf : f < u) (hfP : f ∉ R.2) (c : Nat) : (kerTo R u f R.2.length).getD c 0 = unitV f c ^^^ pivV (el R.1) R.2 f c := by
  rw [fill_get hinc hlt (kerTo R u f) (fun k => (R.1.getD k []).getD f 0) (fun k => rfl) (kerTo_length R u f) c _ (Nat.le_refl _), take_all]
  by_cases h : c ∈ R.2
  · have hne : c ≠ f := fun e => hfP (e ▸ h)
    rw [if_pos h]; unfold unitV; rw [if_neg hne, UInt8.zero_xor]; rfl
  · rw [if_neg h, pivV_not h, UInt8.xor_zero]
    show ((List.replicate u (0 : UInt8)).set f 1).getD c 0 = _
    rw [getD_set _ _ (by simpa using hf), replicate_get]; rfl
/-- The columns without a pivot. -/
def freeC (P : List Nat) (u : Nat) : List Nat := (List.range u).filter (fun c => decide (c ∉ P))
theorem mem_freeC {P : List Nat} {u c : Nat} : c ∈ freeC P u ↔ c < u ∧ c ∉ P := by simp [freeC, List.mem_filter]
theorem freeC_inc (P : List Nat) (u : Nat) : (freeC P u).Pairwise (· < ·) := List.Pairwise.filter _ List.pairwise_lt_range
theorem kernel_free (R : List (List UInt8) × List Nat) (u : Nat) : ∀ c, kernelTo R u c = (freeC R.2 c).map (fun f => kerTo R u f R.2.length)
  | 0 => rfl
  | c + 1 => by
    have ih := kernel_free R u c
    simp only [kernelTo, freeC, List.range_succ, List.filter_append, List.map_append] at *
    by_cases h : c ∈ R.2
    · rw [if_pos h, ih]; simp [h]
    · rw [if_neg h, ih]; simp [h]
theorem free_count {P : List Nat} (h : P.Pairwise (· < ·)) : ∀ c, (freeC P c).length + (P.filter (fun p => decide (p < c))).length = c
  | 0 => by simp [freeC]
  | c + 1 => by
    have ih := free_count h c
    have key : ∀ {P : List Nat}, P.Pairwise (· < ·) → (P.filter (fun p => decide (p < c + 1))).length = (P.filter (fun p => decide (p < c))).length + if c ∈ P then 1 else 0 := by
      intro P
      induction P with
      | nil => intro _; simp
      | cons p P ihP =>
        intro hP
        have hP' := List.pairwise_cons.1 hP
        have := ihP hP'.2
        simp only [List.filter_cons, List.mem_cons]
        by_cases hpc : p = c
        · subst hpc
          have hnm : p ∉ P := fun hm => Nat.lt_irrefl _ (hP'.1 p hm)
          rw [if_neg hnm] at this
          simp [this]
        · have e1 : (decide (p < c + 1)) = decide (p < c) := by rw [decide_eq_decide]; omega
          rw [e1]
          have e2 : (c = p ∨ c ∈ P) ↔ c ∈ P := ⟨fun h => h.elim (fun h => absurd h.symm hpc) id, Or.inr⟩
          simp only [e2]
          by_cases hlt : p < c <;> simp [hlt] <;> omega
    rw [key h]
    have e : (freeC P (c + 1)).length = (freeC P c).length + if c ∈ P then 0 else 1 := by
      simp only [freeC, List.range_succ, List.filter_append, List.length_append]
      by_cases hc : c ∈ P <;> simp [hc]
    rw [e]
    split <;> omega
theorem below_count {P : List Nat} (h : P.Pairwise (· < ·)) (c : Nat) : (P.filter (fun p => decide (p < c + 1))).length = (P.filter (fun p => decide (p < c))).length + if c ∈ P then 1 else 0 := by
  have h1 := free_count h c
  have h2 := free_count h (c + 1)
  have e : (freeC P (c + 1)).length = (freeC P c).length + if c ∈ P then 0 else 1 := by
    simp only [freeC, List.range_succ, List.filter_append, List.length_append]
    by_cases hc : c ∈ P <;> simp [hc]
  rw [e] at h2
  split at h2 <;> split <;> first | omega | contradiction
end
end Go.Q
