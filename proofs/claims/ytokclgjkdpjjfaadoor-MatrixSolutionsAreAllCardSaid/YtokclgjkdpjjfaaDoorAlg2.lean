/-
  What chapter 5 promises of systems, inverses, products and ranks, said of the plain functions. No program.
-/
import Derived.Test.YtokclgjkdpjjfaaDoorAlg
namespace Go.Q
section
variable {m : List (List UInt8)} {b : List UInt8} {u : Nat}
theorem both_reduce : RedSpec (bothM m b u) (u + 1) := reduce_spec (bothM_rect m b u)
theorem both_piv_lt (h : u ∉ (reduceM (bothM m b u)).2) : ∀ p ∈ (reduceM (bothM m b u)).2, p < u := fun p hp => by
  have h1 := both_reduce.rref.lt p hp
  have : p ≠ u := fun e => h (e ▸ hp)
  omega
/-- A combination of the wider rows, cut short. -/
theorem both_span {v : Nat → UInt8} (h : InSp (bothM m b u).length (u + 1) (el (bothM m b u)) v) : InSp m.length u (el m) v := by
  obtain ⟨l, hl⟩ := h
  rw [bothM_length] at hl
  refine ⟨l, fun c hc => ?_⟩
  rw [hl c (by omega)]
  exact xsum_congr fun k hk => by rw [el_both hk (by omega), if_pos hc]
theorem both_span' {v : Nat → UInt8} (h : InSp m.length u (el m) v) : ∃ v', InSp (bothM m b u).length (u + 1) (el (bothM m b u)) v' ∧ ∀ c, c < u → v' c = v c := by
  obtain ⟨l, hl⟩ := h
  refine ⟨fun c => xsum m.length (fun k => gmul (l k) (el (bothM m b u) k c)), ⟨l, fun c _ => by rw [bothM_length]⟩, fun c hc => ?_⟩
  rw [hl c hc]
  exact xsum_congr fun k hk => by rw [el_both hk (by omega), if_pos hc]
theorem both_piv (h : Rect m u) {c : Nat} (hc : c < u) : c ∈ (reduceM (bothM m b u)).2 ↔ c ∈ (reduceM m).2 := by
  rw [mem_piv h, mem_piv (bothM_rect m b u)]
  constructor
  · rintro ⟨v, hv, h1, h2, h3⟩
    exact ⟨v, both_span hv, hc, h2, h3⟩
  · rintro ⟨v, hv, h1, h2, h3⟩
    obtain ⟨v', hv', he⟩ := both_span' (b := b) hv
    exact ⟨v', hv', by omega, by rw [he c hc]; exact h2, fun c' hc' => by rw [he c' (by omega)]; exact h3 c' hc'⟩
theorem both_pivs (h : Rect m u) (hn : u ∉ (reduceM (bothM m b u)).2) : (reduceM (bothM m b u)).2 = (reduceM m).2 :=
  inc_eq both_reduce.rref.inc (reduce_spec h).rref.inc fun p => by
    by_cases hp : p < u
    · exact both_piv h hp
    · exact ⟨fun h' => absurd (both_piv_lt hn p h') hp, fun h' => absurd (piv_lt h h') hp⟩
/-- The solution solves. -/
theorem sol_solves (hn : u ∉ (reduceM (bothM m b u)).2) : Solves m.length u (el m) (fun c => (solXTo (reduceM (bothM m b u)) u (reduceM (bothM m b u)).2.length).getD c 0) (fun i => b.getD i 0) := by
  rw [solves_red]
  intro k hk
  have s := both_reduce (m := m) (b := b) (u := u)
  have hlt := both_piv_lt hn
  rw [dot_ext1]
  have e : dot u (el (reduceM (bothM m b u)).1 k) (fun c => (solXTo (reduceM (bothM m b u)) u (reduceM (bothM m b u)).2.length).getD c 0) = dot u (el (reduceM (bothM m b u)).1 k) (pivV (el (reduceM (bothM m b u)).1) (reduceM (bothM m b u)).2 u) :=
    xsum_congr fun c _ => by show gmul _ (List.getD _ _ _) = _; rw [solX_get s.rref.inc hlt]
  rw [e, s.rref.dotPiv hk hlt, xx]
/-- The homogenous system, by the reduced form of the wider one. -/
theorem homog_red (hn : u ∉ (reduceM (bothM m b u)).2) (z : Nat → UInt8) : Solves m.length u (el m) z (fun _ => 0) ↔ ∀ k, k < rk (bothM m b u) → dot u (el (reduceM (bothM m b u)).1 k) z = 0 := by
  have hx := sol_solves hn
  generalize (fun c => (solXTo (reduceM (bothM m b u)) u (reduceM (bothM m b u)).2.length).getD c 0) = x at hx
  have h1 := solves_red (m := m) (b := b) (u := u) x
  have h2 := solves_red (m := m) (b := b) (u := u) (fun c => z c ^^^ x c)
  have h3 := h1.1 hx
  have e1 : Solves m.length u (el m) z (fun _ => 0) ↔ Solves m.length u (el m) (fun c => z c ^^^ x c) (fun i => b.getD i 0) := by
    refine forall_congr' fun i => forall_congr' fun hi => ?_
    rw [dot_add, hx i hi]
    constructor
    · intro h; rw [h, UInt8.zero_xor]
    · intro h; have := x_eq.2 h; rwa [UInt8.xor_assoc, xx, UInt8.xor_zero] at this
  rw [e1, h2]
  refine forall_congr' fun k => forall_congr' fun hk => ?_
  have h4 := h3 k hk
  rw [dot_ext1] at h4 ⊢
  rw [dot_add, UInt8.xor_assoc, h4, UInt8.xor_zero]
/-- The rows of the kernel. -/
def kerM (m : List (List UInt8)) (b : List UInt8) (u : Nat) : List (List UInt8) := kernelTo (reduceM (bothM m b u)) u u
theorem kerM_eq : kerM m b u = (freeC (reduceM (bothM m b u)).2 u).map (fun f => kerTo (reduceM (bothM m b u)) u f (reduceM (bothM m b u)).2.length) := kernel_free _ _ _
theorem kerM_rect : Rect (kerM m b u) u := by
  intro r hr
  rw [kerM_eq] at hr
  obtain ⟨f, _, rfl⟩ := List.mem_map.1 hr
  exact kerTo_length _ _ _ _
theorem kerM_length (h : Rect m u) (hn : u ∉ (reduceM (bothM m b u)).2) : (kerM m b u).length = u - rk m := by
  rw [kerM_eq, List.length_map]
  have h1 := free_count (both_reduce (m := m) (b := b) (u := u)).rref.inc u
  have h2 : (reduceM (bothM m b u)).2.filter (fun p => decide (p < u)) = (reduceM (bothM m b u)).2 := List.filter_eq_self.2 fun p hp => by simpa using both_piv_lt hn p hp
  rw [h2] at h1
  rw [both_pivs h hn] at h1 ⊢
  unfold rk
  omega
theorem kerM_el (hn : u ∉ (reduceM (bothM m b u)).2) {i : Nat} (hi : i < (freeC (reduceM (bothM m b u)).2 u).length) (c : Nat) :
    el (kerM m b u) i c = unitV (freeC (reduceM (bothM m b u)).2 u)[i] c ^^^ pivV (el (reduceM (bothM m b u)).1) (reduceM (bothM m b u)).2 (freeC (reduceM (bothM m b u)).2 u)[i] c := by
  have hf := mem_freeC.1 (List.getElem_mem hi)
  have hi2 : i < (kerM m b u).length := by rw [kerM_eq, List.length_map]; exact hi
  have e : (kerM m b u)[i] = kerTo (reduceM (bothM m b u)) u (freeC (reduceM (bothM m b u)).2 u)[i] (reduceM (bothM m b u)).2.length := by
    simp only [kerM_eq, List.getElem_map]
  unfold el
  rw [getD_lt _ _ hi2, e, ker_get both_reduce.rref.inc (both_piv_lt hn) hf.1 hf.2]
  rfl
theorem kerM_solves (hn : u ∉ (reduceM (bothM m b u)).2) {i : Nat} (hi : i < (kerM m b u).length) : Solves m.length u (el m) (el (kerM m b u) i) (fun _ => 0) := by
  rw [homog_red hn]
  intro k hk
  have hi2 : i < (freeC (reduceM (bothM m b u)).2 u).length := by rw [kerM_eq, List.length_map] at hi; exact hi
  have hf := mem_freeC.1 (List.getElem_mem hi2)
  have s := both_reduce (m := m) (b := b) (u := u)
  have e : dot u (el (reduceM (bothM m b u)).1 k) (el (kerM m b u) i) = dot u (el (reduceM (bothM m b u)).1 k) (fun c => unitV (freeC (reduceM (bothM m b u)).2 u)[i] c ^^^ pivV (el (reduceM (bothM m b u)).1) (reduceM (bothM m b u)).2 (freeC (reduceM (bothM m b u)).2 u)[i] c) :=
    xsum_congr fun c _ => by rw [kerM_el hn hi2]
  rw [e, dot_add, dot_unit hf.1, s.rref.dotPiv hk (both_piv_lt hn), xx]
theorem kerM_unit (hn : u ∉ (reduceM (bothM m b u)).2) {i j : Nat} (hi : i < (kerM m b u).length) (hj : j < (kerM m b u).length) : el (kerM m b u) i ((freeC (reduceM (bothM m b u)).2 u).getD j 0) = if i = j then 1 else 0 := by
  have hi2 : i < (freeC (reduceM (bothM m b u)).2 u).length := by rw [kerM_eq, List.length_map] at hi; exact hi
  have hj2 : j < (freeC (reduceM (bothM m b u)).2 u).length := by rw [kerM_eq, List.length_map] at hj; exact hj
  have hf := mem_freeC.1 (List.getElem_mem hj2)
  rw [kerM_el hn hi2, getD_lt _ _ hj2, pivV_not hf.2, UInt8.xor_zero]
  unfold unitV
  by_cases h : i = j
  · subst h; rw [if_pos rfl, if_pos rfl]
  · rw [if_neg h, if_neg fun e => h (inc_inj (freeC_inc _ _) hj2 hi2 e).symm]
theorem kerM_rank (hn : u ∉ (reduceM (bothM m b u)).2) : rk (kerM m b u) = (kerM m b u).length :=
  rk_full kerM_rect (fun j => (freeC (reduceM (bothM m b u)).2 u).getD j 0) (fun i hi => by
    have hi2 : i < (freeC (reduceM (bothM m b u)).2 u).length := by rw [kerM_eq, List.length_map] at hi; exact hi
    show List.getD _ _ _ < _
    rw [getD_lt _ _ hi2]; exact (mem_freeC.1 (List.getElem_mem hi2)).1) (fun i j hi hj => kerM_unit hn hi hj)
/-- All solutions of the system with zeros. -/
theorem kerM_all (hn : u ∉ (reduceM (bothM m b u)).2) {z : Nat → UInt8} (hz : Solves m.length u (el m) z (fun _ => 0)) : InSp (kerM m b u).length u (el (kerM m b u)) z := by
  have s := both_reduce (m := m) (b := b) (u := u)
  have hlt := both_piv_lt hn
  have hfl : (freeC (reduceM (bothM m b u)).2 u).length = (kerM m b u).length := by rw [kerM_eq, List.length_map]
  have hsum : Solves m.length u (el m) (fun c => xsum (kerM m b u).length (fun i => gmul (z ((freeC (reduceM (bothM m b u)).2 u).getD i 0)) (el (kerM m b u) i c))) (fun _ => 0) := by
    intro i hi
    rw [dot_comm]
    refine dot_sp (M := el (kerM m b u)) (r := (kerM m b u).length) ⟨_, fun c _ => rfl⟩ fun k hk => ?_
    rw [dot_comm]
    exact kerM_solves hn hk i hi
  generalize hzd : (fun c => xsum (kerM m b u).length (fun i => gmul (z ((freeC (reduceM (bothM m b u)).2 u).getD i 0)) (el (kerM m b u) i c))) = zs at hsum
  have hfree : ∀ c, c < u → c ∉ (reduceM (bothM m b u)).2 → zs c = z c := by
    intro c hc hP
    obtain ⟨j, hj, he⟩ := List.getElem_of_mem (mem_freeC.2 ⟨hc, hP⟩)
    rw [← hzd]
    show xsum _ _ = _
    rw [← he, ← getD_lt _ 0 hj, xsum_single (k := j) (by omega) (fun i hi hne => by rw [kerM_unit hn hi (by omega), if_neg hne, gmul_zero]), kerM_unit hn (by omega) (by omega), if_pos rfl, gmul_one]
  have hd : ∀ k, k < rk (bothM m b u) → dot u (el (reduceM (bothM m b u)).1 k) (fun c => z c ^^^ zs c) = 0 := fun k hk => by
    rw [dot_add, (homog_red hn z).1 hz k hk, (homog_red hn zs).1 hsum k hk]; decide
  have hpiv : ∀ k (hk : k < (reduceM (bothM m b u)).2.length), z (reduceM (bothM m b u)).2[k] ^^^ zs (reduceM (bothM m b u)).2[k] = 0 := by
    intro k hk
    have h1 := hd k hk
    unfold dot at h1
    rw [xsum_single (hlt _ (List.getElem_mem hk))] at h1
    · rw [s.rref.one k k hk hk, if_pos rfl, one_gmul] at h1; exact h1
    · intro c hc hne
      by_cases hm : c ∈ (reduceM (bothM m b u)).2
      · obtain ⟨j, hj, rfl⟩ := List.getElem_of_mem hm
        rw [s.rref.one k j hk hj, if_neg (fun e => hne (by subst e; rfl)), zero_gmul]
      · show gmul _ (z c ^^^ zs c) = 0
        rw [hfree c hc hm, xx, gmul_zero]
  refine ⟨fun i => z ((freeC (reduceM (bothM m b u)).2 u).getD i 0), fun c hc => ?_⟩
  have e : zs c = z c := by
    by_cases hm : c ∈ (reduceM (bothM m b u)).2
    · obtain ⟨k, hk, rfl⟩ := List.getElem_of_mem hm
      exact (x_eq.1 (hpiv k hk)).symm
    · exact hfree c hc hm
  rw [← e, ← hzd]
theorem solveM_none (h : solveM m b u = none) : u ∈ (reduceM (bothM m b u)).2 := by
  unfold solveM at h
  simp only at h
  split at h
  · assumption
  · cases h
theorem solveM_some {s : List UInt8 × List (List UInt8)} (h : solveM m b u = some s) : u ∉ (reduceM (bothM m b u)).2 ∧ s.1 = solXTo (reduceM (bothM m b u)) u (reduceM (bothM m b u)).2.length ∧ s.2 = kerM m b u := by
  unfold solveM at h
  simp only at h
  split at h
  · cases h
  · rename_i hn
    cases h
    exact ⟨hn, rfl, rfl⟩
/-- Where there is a solution, one is found. -/
theorem solveM_isSome {y : Nat → UInt8} (h : Solves m.length u (el m) y (fun i => b.getD i 0)) : (solveM m b u).isSome = true := by
  cases hs : solveM m b u with
  | none => exact absurd h (no_solution (solveM_none hs) y)
  | some s => rfl
end
-- coefficients
section
variable {m : List (List UInt8)} {n : Nat} {row : List UInt8}
theorem cols_solves (l : Nat → UInt8) : Solves (colsM m n).length m.length (el (colsM m n)) l (fun i => row.getD i 0) ↔ ∀ c, c < n → row.getD c 0 = xsum m.length (fun k => gmul (l k) (el m k c)) := by
  unfold Solves
  rw [colsM_length]
  refine forall_congr' fun c => forall_congr' fun hc => ?_
  have e : dot m.length (el (colsM m n) c) l = xsum m.length (fun k => gmul (l k) (el m k c)) := xsum_congr fun k hk => by rw [el_colsM hc hk, gmul_comm]
  rw [e]
  exact eq_comm
theorem express_iff : (solveM (colsM m n) row m.length).isSome = true ↔ InSp m.length n (el m) (fun c => row.getD c 0) := by
  constructor
  · intro h
    obtain ⟨s, hs⟩ := Option.isSome_iff_exists.1 h
    obtain ⟨h1, h2, h3⟩ := solveM_some hs
    have := sol_solves h1
    exact ⟨_, (cols_solves _).1 this⟩
  · rintro ⟨l, hl⟩
    exact solveM_isSome ((cols_solves l).2 hl)
theorem take_rect (h : Rect m n) (k : Nat) : Rect (m.take k) n := fun r hr => h r (List.mem_of_mem_take hr)
/-- The rank of the first rows is the number of pivots before, among the columns. -/
theorem rk_take (h : Rect m n) {k : Nat} (hk : k ≤ m.length) : rk (m.take k) = ((reduceM (colsM m n)).2.filter (fun p => decide (p < k))).length := by
  rw [← rk_cols (take_rect h k)]
  have hl : (m.take k).length = k := by rw [List.length_take]; omega
  have hc : Rect (colsM m n) m.length := colsM_rect
  have hc' : Rect (colsM (m.take k) n) k := by have := colsM_rect (m := m.take k) (n := n); rwa [hl] at this
  have hel : ∀ i c, i < n → c < k → el (colsM (m.take k) n) i c = el (colsM m n) i c := fun i c hi hck => by
    rw [el_colsM hi (by omega), el_colsM hi (by omega), el_take _ _ _ _ hck]
  unfold rk
  congr 1
  refine inc_eq (reduce_spec hc').rref.inc (List.Pairwise.filter _ (reduce_spec hc).rref.inc) fun p => ?_
  rw [List.mem_filter, decide_eq_true_eq, mem_piv hc', mem_piv hc]
  constructor
  · rintro ⟨v, ⟨l, hl1⟩, h1, h2, h3⟩
    rw [colsM_length] at hl1
    have e : ∀ c, c < k → xsum n (fun i => gmul (l i) (el (colsM m n) i c)) = v c := fun c hck => by
      rw [hl1 c hck]; exact xsum_congr fun i hi => by rw [hel i c hi hck]
    refine ⟨⟨fun c => xsum n (fun i => gmul (l i) (el (colsM m n) i c)), ⟨l, fun c _ => by rw [colsM_length]⟩, by omega, ?_, fun c' hc' => ?_⟩, h1⟩
    · show xsum _ _ ≠ 0
      rw [e p h1]; exact h2
    · show xsum _ _ = 0
      rw [e c' (by omega)]; exact h3 c' hc'
  · rintro ⟨⟨v, ⟨l, hl1⟩, h1, h2, h3⟩, hpk⟩
    rw [colsM_length] at hl1
    refine ⟨v, ⟨l, fun c hck => ?_⟩, hpk, h2, h3⟩
    rw [colsM_length, hl1 c (by omega)]
    exact xsum_congr fun i hi => by rw [hel i c hi hck]
/-- A coefficient that is not 0 belongs to a row that raises the rank. -/
theorem express_piv (h : Rect m n) {s : List UInt8 × List (List UInt8)} (hs : solveM (colsM m n) row m.length = some s) {k : Nat} (hk : k < m.length) (hne : s.1.getD k 0 ≠ 0) : rk (m.take (k + 1)) = rk (m.take k) + 1 := by
  obtain ⟨h1, h2, h3⟩ := solveM_some hs
  have hm : k ∈ (reduceM (bothM (colsM m n) row m.length)).2 := Decidable.byContradiction fun hc => hne (by
    rw [h2, solX_get both_reduce.rref.inc (both_piv_lt h1), pivV_not hc])
  rw [both_piv colsM_rect hk] at hm
  rw [rk_take h (by omega), rk_take h (by omega), below_count (reduce_spec colsM_rect).rref.inc, if_pos hm]
end
-- products
def pmM (a b : List (List UInt8)) (n : Nat) : List (List UInt8) := gridM a.length n (fun i k => xsum b.length (fun j => gmul (el a i j) (el b j k)))
section
variable {a b c : List (List UInt8)} {n p q : Nat}
theorem pmM_length : (pmM a b n).length = a.length := gridM_length _ _ _
theorem pmM_rect : Rect (pmM a b n) n := gridM_rect _ _ _
theorem el_pmM {i k : Nat} (hi : i < a.length) (hk : k < n) : el (pmM a b n) i k = xsum b.length (fun j => gmul (el a i j) (el b j k)) := el_gridM hi hk
theorem pmM_assoc (hc : c.length = q) : pmM (pmM a b q) c n = pmM a (pmM b c n) n := by
  refine el_ext pmM_rect pmM_rect (by rw [pmM_length, pmM_length, pmM_length]) fun i k hi hk => ?_
  rw [pmM_length, pmM_length] at hi
  rw [el_pmM (by rw [pmM_length]; exact hi) hk, el_pmM hi hk, pmM_length]
  have e1 : ∀ j, j < c.length → gmul (el (pmM a b q) i j) (el c j k) = xsum b.length (fun t => gmul (gmul (el a i t) (el b t j)) (el c j k)) := fun j hj => by
    rw [el_pmM hi (by omega), xsum_mul']
  rw [xsum_congr e1, xsum_comm]
  refine xsum_congr fun t ht => ?_
  rw [el_pmM ht hk, ← xsum_mul]
  exact xsum_congr fun j _ => gmul_assoc _ _ _
theorem pmM_cols (hn : b.length = p) : colsM (pmM a b n) n = pmM (colsM b n) (colsM a p) a.length := by
  refine el_ext (n := a.length) ?_ pmM_rect (by rw [colsM_length, pmM_length, colsM_length]) fun i k hi hk => ?_
  · have := colsM_rect (m := pmM a b n) (n := n); rwa [pmM_length] at this
  · rw [colsM_length] at hi
    rw [el_colsM hi (by rw [pmM_length]; exact hk), el_pmM hk hi, el_pmM (by rw [colsM_length]; exact hi) hk, colsM_length, hn]
    exact xsum_congr fun j hj => by rw [el_colsM hi (by omega), el_colsM hj hk, gmul_comm]
theorem pmM_span : SpLe (pmM a b n).length (el (pmM a b n)) b.length (el b) n := fun i hi => by
  rw [pmM_length] at hi
  exact ⟨fun j => el a i j, fun c hc => el_pmM hi hc⟩
theorem rk_pm_right (hb : Rect b n) : rk (pmM a b n) ≤ rk b := rk_le pmM_rect hb pmM_span
theorem rk_pm_left (ha : Rect a p) (hb : b.length = p) : rk (pmM a b n) ≤ rk a := by
  have h1 : Rect (pmM a b n) n := pmM_rect
  rw [← rk_cols h1, pmM_cols hb, ← rk_cols ha]
  exact rk_pm_right colsM_rect
-- identities
theorem identity_length : (identity n).length = n := by simp [identity]
theorem identity_rect : Rect (identity n) n := by
  intro r hr
  simp only [identity, List.mem_map] at hr
  obtain ⟨k, _, rfl⟩ := hr
  simp
theorem el_identity {i k : Nat} (hi : i < n) (_hk : k < n) : el (identity n) i k = if i = k then 1 else 0 := by
  have h : i < (identity n).length := by rw [identity_length]; exact hi
  have e : (identity n)[i] = (List.replicate n (0 : UInt8)).set i 1 := by simp [identity]
  unfold el
  rw [getD_lt _ _ h, e, getD_set _ _ (by simpa using hi), replicate_get]
  by_cases h : i = k
  · rw [if_pos h, if_pos h.symm]
  · rw [if_neg h, if_neg (fun e => h e.symm)]
theorem rk_identity : rk (identity n) = n := by
  have := rk_full (identity_rect (n := n)) (fun i => i) (fun i hi => by rw [identity_length] at hi; exact hi) (fun i j hi hj => by rw [identity_length] at hi hj; exact el_identity hi hj)
  rwa [identity_length] at this
theorem pm_one (ha : Rect a n) : pmM a (identity n) n = a := by
  refine el_ext pmM_rect ha pmM_length fun i k hi hk => ?_
  rw [pmM_length] at hi
  rw [el_pmM hi hk, identity_length, xsum_single hk (fun j hj hne => by rw [el_identity hj hk, if_neg hne, gmul_zero]), el_identity hk hk, if_pos rfl, gmul_one]
theorem one_pm (ha : Rect a n) (hl : a.length = p) : pmM (identity p) a n = a := by
  refine el_ext pmM_rect ha (by rw [pmM_length, identity_length, hl]) fun i k hi hk => ?_
  rw [pmM_length, identity_length] at hi
  rw [el_pmM (by rw [identity_length]; exact hi) hk, hl, xsum_single hi (fun j hj hne => by rw [el_identity hi hj, if_neg (Ne.symm hne), zero_gmul]), el_identity hi hi, if_pos rfl, one_gmul]
end
end Go.Q
