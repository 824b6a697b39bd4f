/-
  What the statements of chapter 05 say, of the functions that the walks compute. No walk.
-/
import Derived.Test.YtokclgjkdpjjfaaDoorWu
import Derived.Test.YtokclgjkdpjjfaaDoorWl
import Derived.Test.YtokclgjkdpjjfaaDoorWk
namespace Go.Proofs.YtokclgjkdpjjfaaDoor
open Go.RowKit Go.Q
section
variable {a b c m : List (List UInt8)}
theorem dotTo_xsum (r : List UInt8) (b : List (List UInt8)) (k : Nat) : ∀ j, dotTo r b k j = xsum j (fun t => gmul (r.getD t 0) (el b t k))
  | 0 => rfl
  | j + 1 => by rw [dotTo, xsum, dotTo_xsum r b k j]; rfl
theorem prodE_pm (h : prodErr a b = 0) : prodE a b = pmM a b (cols b) := by
  rw [prodE_ok h]
  exact gridM_congr fun i k _ _ => dotTo_xsum _ _ _ _
theorem prodErr_parts (h : prodErr a b = 0) : Valid a ∧ Valid b ∧ cols a = b.length := by
  have h1 : mchk a = 0 := by unfold prodErr at h; split at h; exact absurd h (by assumption); omega
  have h2 : mchk b = 0 := by unfold prodErr at h; rw [if_neg (by simpa using h1)] at h; split at h; exact absurd h (by assumption); omega
  have h3 : cols a = b.length := by
    unfold prodErr at h
    rw [if_neg (by simpa using h1), if_neg (by simpa using h2)] at h
    split at h
    · cases h
    · omega
  exact ⟨mchk_valid.1 h1, mchk_valid.1 h2, h3⟩
theorem prod_ok (ha : Valid a) (hb : Valid b) (h : cols a = b.length) : prodErr a b = 0 := by
  unfold prodErr
  rw [if_neg (by simpa using mchk_valid.2 ha), if_neg (by simpa using mchk_valid.2 hb), if_neg (by simpa using h)]
theorem valid_mk {n : Nat} (h1 : m.length ≤ 48) (h2 : n ≤ 48) (h : Rect m n) : Valid m := by
  by_cases h0 : 0 < m.length
  · have := rect_cols h h0
    exact ⟨h1, by omega, by rw [this]; exact h⟩
  · obtain rfl : m = [] := List.eq_nil_of_length_eq_zero (by omega)
    exact ⟨by simp, by simp [cols], fun r hr => by simp at hr⟩
theorem prodE_length (h : prodErr a b = 0) : (prodE a b).length = a.length := by rw [prodE_pm h, pmM_length]
theorem prodE_rect (h : prodErr a b = 0) : Rect (prodE a b) (cols b) := by rw [prodE_pm h]; exact pmM_rect
theorem prodE_valid (h : prodErr a b = 0) : Valid (prodE a b) := by
  obtain ⟨h1, h2, _⟩ := prodErr_parts h
  exact valid_mk (by rw [prodE_length h]; exact h1.rows) h2.colsle (prodE_rect h)
theorem prodE_cols (h : prodErr a b = 0) (h0 : 0 < a.length) : cols (prodE a b) = cols b := rect_cols (prodE_rect h) (by rw [prodE_length h]; exact h0)
theorem cols_pos (h : cols m ≠ 0) : 0 < m.length := by
  cases m with
  | nil => exact absurd rfl h
  | cons _ _ => simp
theorem prod_product (h : prodErr a b = 0) : (if prodErr a b = 0 then product a b else []) = prodE a b := by
  rw [if_pos h, prodE_pm h, product_pmM (prodErr_parts h).2.1.row]
theorem prod_product' (a b : List (List UInt8)) : (if prodErr a b = 0 then product a b else []) = prodE a b := by
  by_cases h : prodErr a b = 0
  · exact prod_product h
  · rw [if_neg h, prodE_bad h]
/-- Products, of the third statement. -/
theorem law3 (h : prodErr a b = 0) (h' : prodErr b c = 0) (ha : cols a ≠ 0) (hb : cols b ≠ 0) (hc : cols c ≠ 0) :
    prodErr (prodE a b) c = 0 ∧ prodErr a (prodE b c) = 0 ∧ prodE (prodE a b) c = prodE a (prodE b c) ∧ prodErr (transpose b) (transpose a) = 0 ∧ transpose (prodE a b) = prodE (transpose b) (transpose a) := by
  obtain ⟨va, vb, hab⟩ := prodErr_parts h
  obtain ⟨_, vc, hbc⟩ := prodErr_parts h'
  have a0 := cols_pos ha
  have b0 := cols_pos hb
  have e1 := prodE_cols h a0
  have e2 := prodE_cols h' b0
  have r1 : prodErr (prodE a b) c = 0 := prod_ok (prodE_valid h) vc (by rw [e1, hbc])
  have r2 : prodErr a (prodE b c) = 0 := prod_ok va (prodE_valid h') (by rw [prodE_length h', hab])
  have vta : Valid (transpose a) := by rw [transpose_colsM]; exact valid_mk (by rw [colsM_length]; exact va.colsle) va.rows colsM_rect
  have vtb : Valid (transpose b) := by rw [transpose_colsM]; exact valid_mk (by rw [colsM_length]; exact vb.colsle) vb.rows colsM_rect
  have ct : cols (transpose b) = b.length := by rw [transpose_colsM]; exact rect_cols colsM_rect (by rw [colsM_length]; omega)
  have cta : cols (transpose a) = a.length := by rw [transpose_colsM]; exact rect_cols colsM_rect (by rw [colsM_length]; omega)
  have lt : (transpose a).length = cols a := by rw [transpose_colsM]; exact colsM_length
  have r3 : prodErr (transpose b) (transpose a) = 0 := prod_ok vtb vta (by rw [ct, lt, hab])
  refine ⟨r1, r2, ?_, r3, ?_⟩
  · rw [prodE_pm r1, prodE_pm r2, prodE_pm h, prodE_pm h']
    have e3 : cols (pmM b c (cols c)) = cols c := rect_cols pmM_rect (by rw [pmM_length]; exact b0)
    rw [e3]
    have := pmM_assoc (a := a) (b := b) (c := c) (n := cols c) (q := cols b) hbc.symm
    exact this
  · rw [prodE_pm r3, transpose_colsM (prodE a b), e1, prodE_pm h, cta, transpose_colsM, transpose_colsM, ← pmM_cols (p := cols a) hab.symm]
theorem rank_rk (h : Valid m) : (reduceE m).2.length = rk m := by unfold reduceE; rw [if_pos (mchk_valid.2 h)]; rfl
theorem reduceE_valid (h : Valid m) : reduceE m = reduceM m := by unfold reduceE; rw [if_pos (mchk_valid.2 h)]
-- systems
variable {bb y row : List UInt8}
theorem rowAdd_one (hl : y.length = bb.length) (k : Nat) : (rowAdd y 1 bb).getD k 0 = y.getD k 0 ^^^ bb.getD k 0 := by rw [rowAdd_get _ hl, one_gmul]
theorem solveErr_ok (hv : Valid m) (hb : bb.length = m.length) : solveErr m bb = if (solveM m bb (cols m)).isSome then 0 else 8 := by
  unfold solveErr; rw [if_neg (by simpa using mchk_valid.2 hv), if_neg (by simpa using hb)]
theorem solveR_ok (hv : Valid m) (hb : bb.length = m.length) : solveR m bb = solveM m bb (cols m) := if_pos ⟨mchk_valid.2 hv, hb⟩
/-- No solution: none. -/
theorem law4_none (hb : bb.length = m.length) (h : solveM m bb (cols m) = none) : combine y (transpose m) m.length ≠ bb := by
  intro hm
  exact no_solution (solveM_none h) _ ((mapsTo_iff hb).1 hm)
theorem exprErr_ok {K : List (List UInt8)} (hv : Valid K) (h48 : row.length ≤ 48) (hc : 0 < K.length → row.length = cols K) : exprErr K row = if (exprS K row).isSome then 0 else 8 := by
  unfold exprErr
  rw [if_neg (by simpa using mchk_valid.2 hv), if_neg (by omega), if_neg (fun h => h.2 (hc h.1))]
theorem exprM_cols (K : List (List UInt8)) (n : Nat) : exprM K n = colsM K n := rfl
theorem exprS_iff {K : List (List UInt8)} : (exprS K row).isSome = true ↔ InSp K.length row.length (el K) (fun c => row.getD c 0) := express_iff
structure Law4 (m : List (List UInt8)) (bb y x : List UInt8) (K : List (List UInt8)) : Prop where
  xlen : x.length = cols m
  solves : combine x (transpose m) m.length = bb
  klen : K.length = cols m - rk m
  krank : (reduceE K).2.length = cols m - rk m
  kvalid : Valid K
  krow : ∀ v ∈ K, v.length = cols m ∧ combine v (transpose m) m.length = List.replicate m.length 0
  expr : exprErr K (rowAdd y 1 x) = if combine y (transpose m) m.length = bb then 0 else 8
theorem law4_some (hv : Valid m) (hb : bb.length = m.length) (hy : y.length = cols m) {s : List UInt8 × List (List UInt8)} (h : solveM m bb (cols m) = some s) : Law4 m bb y s.1 s.2 := by
  obtain ⟨h1, h2, h3⟩ := solveM_some h
  have hx := sol_solves h1
  have hxl : s.1.length = cols m := by rw [h2]; exact solXTo_length _ _ _
  have hsx : Solves m.length (cols m) (el m) (fun c => s.1.getD c 0) (fun i => bb.getD i 0) := by rw [h2]; exact hx
  have hkl : s.2.length = cols m - rk m := by rw [h3]; exact kerM_length hv.row h1
  have hkr : Rect s.2 (cols m) := by rw [h3]; exact kerM_rect
  have hkv : Valid s.2 := valid_mk (by have := hv.colsle; omega) hv.colsle hkr
  have hrl : (rowAdd y 1 s.1).length = cols m := rowAdd_len hy (by omega)
  refine ⟨hxl, (mapsTo_iff hb).2 hsx, hkl, ?_, hkv, ?_, ?_⟩
  · rw [rank_rk hkv, h3, kerM_rank h1, ← h3, hkl]
  · intro v hvm
    obtain ⟨i, hi, rfl⟩ := List.getElem_of_mem hvm
    refine ⟨hkr _ (List.getElem_mem hi), (mapsTo_iff (b := List.replicate m.length 0) (by simp)).2 ?_⟩
    have hi' : i < (kerM m bb (cols m)).length := by rw [← h3]; exact hi
    have := kerM_solves h1 hi'
    intro j hj
    have e := this j hj
    show _ = List.getD _ _ _
    rw [replicate_get]
    refine Eq.trans ?_ e
    refine xsum_congr fun c _ => ?_
    have e2 : s.2[i].getD c 0 = el (kerM m bb (cols m)) i c := by rw [← h3]; unfold el; rw [getD_lt _ _ hi]
    show gmul _ (List.getD _ _ _) = _
    rw [e2]
  · rw [exprErr_ok hkv (by rw [hrl]; exact hv.colsle) (fun h0 => by rw [hrl, rect_cols hkr h0])]
    have hiff : (exprS s.2 (rowAdd y 1 s.1)).isSome = true ↔ combine y (transpose m) m.length = bb := by
      rw [exprS_iff, hrl]
      have hz : ∀ z : Nat → UInt8, InSp s.2.length (cols m) (el s.2) z ↔ Solves m.length (cols m) (el m) z (fun _ => 0) := fun z => by
        rw [h3]
        constructor
        · intro hin i hi
          rw [dot_comm]
          refine dot_sp hin fun k hk => ?_
          rw [dot_comm]
          exact kerM_solves h1 hk i hi
        · exact kerM_all h1
      rw [hz]
      have hm : combine y (transpose m) m.length = bb ↔ Solves m.length (cols m) (el m) (fun c => y.getD c 0) (fun i => bb.getD i 0) := mapsTo_iff hb
      rw [hm]
      refine forall_congr' fun i => forall_congr' fun hi => ?_
      have e : dot (cols m) (el m i) (fun c => (rowAdd y 1 s.1).getD c 0) = dot (cols m) (el m i) (fun c => y.getD c 0) ^^^ dot (cols m) (el m i) (fun c => s.1.getD c 0) := by
        rw [← dot_add]
        exact xsum_congr fun c _ => by show gmul _ (List.getD _ _ _) = _; rw [rowAdd_one (by omega)]
      rw [e, hsx i hi]
      exact x_eq
    by_cases hmm : combine y (transpose m) m.length = bb
    · rw [if_pos (hiff.2 hmm), if_pos hmm]
    · rw [if_neg (fun h => hmm (hiff.1 h)), if_neg hmm]
-- inverses
theorem invE_R (h : inverseErr m = 0) : inverseE m = invR m m.length := by unfold inverseE; rw [if_pos h]; rfl
theorem inverseErr_ok (hv : Valid m) (hsq : cols m = m.length) : inverseErr m = if rk m = m.length then 0 else 8 := by
  have hr : Rect m m.length := by have := hv.row; rwa [hsq] at this
  have := inv_iff hr rfl
  unfold inverseErr
  rw [if_neg (by simpa using mchk_valid.2 hv), if_neg (by simpa using hsq), invM_invG]
  by_cases h : rk m = m.length
  · rw [if_pos (this.2 h), if_pos h]
  · rw [if_neg (fun h2 => h (this.1 h2)), if_neg h]
theorem inverseErr_range (hv : Valid m) (hsq : cols m = m.length) : inverseErr m = 0 ↔ (reduceM (invG m m.length)).2 = List.range m.length := by
  have hr : Rect m m.length := by have := hv.row; rwa [hsq] at this
  rw [inverseErr_ok hv hsq, inv_iff hr rfl]
  by_cases h : rk m = m.length
  · rw [if_pos h]; simp [h]
  · rw [if_neg h]; simp [h]
theorem inverseErr_08 (hv : Valid m) (hsq : cols m = m.length) : inverseErr m = 0 ∨ inverseErr m = 8 := by
  rw [inverseErr_ok hv hsq]; split <;> simp
structure Law5 (a : List (List UInt8)) : Prop where
  valid : Valid (inverseE a)
  err1 : prodErr (inverseE a) a = 0
  err2 : prodErr a (inverseE a) = 0
  left : prodE (inverseE a) a = identity a.length
  right : prodE a (inverseE a) = identity a.length
theorem sq_cols {n : Nat} {x : List (List UInt8)} (h : Rect x n) (hl : x.length = n) : cols x = n := by
  by_cases h0 : 0 < x.length
  · exact rect_cols h h0
  · obtain rfl : x = [] := List.eq_nil_of_length_eq_zero (by omega)
    simp at hl; rw [← hl]; rfl
theorem law5 (hv : Valid a) (hsq : cols a = a.length) (h : inverseErr a = 0) : Law5 a := by
  have hr : Rect a a.length := by have := hv.row; rwa [hsq] at this
  have hP := (inverseErr_range hv hsq).1 h
  have he := invE_R h
  have hil : (inverseE a).length = a.length := by rw [he]; exact invR_length
  have hir : Rect (inverseE a) a.length := by rw [he]; exact invR_rect
  have hic : cols (inverseE a) = a.length := sq_cols hir hil
  have hvi : Valid (inverseE a) := valid_mk (by have := hv.rows; omega) hv.rows hir
  have e1 : prodErr (inverseE a) a = 0 := prod_ok hvi hv hic
  have e2 : prodErr a (inverseE a) = 0 := prod_ok hv hvi (by rw [hsq, hil])
  refine ⟨hvi, e1, e2, ?_, ?_⟩
  · rw [prodE_pm e1, hsq, he]; exact inv_left rfl hP
  · rw [prodE_pm e2, hic, he]; exact inv_right rfl hP
structure Law5b (a b : List (List UInt8)) : Prop where
  err : prodErr a b = 0
  vab : Valid (prodE a b)
  iff_ : inverseErr (prodE a b) = 0 ↔ inverseErr b = 0
  perr : inverseErr b = 0 → prodErr (inverseE b) (inverseE a) = 0
  both : inverseErr b = 0 → inverseE (prodE a b) = prodE (inverseE b) (inverseE a)
theorem law5b (hv : Valid a) (hsq : cols a = a.length) (h : inverseErr a = 0) (hvb : Valid b) (hbl : b.length = a.length) (hsb : cols b = a.length) : Law5b a b := by
  have hr : Rect a a.length := by have := hv.row; rwa [hsq] at this
  have hrb : Rect b a.length := by have := hvb.row; rwa [hsb] at this
  have hP := (inverseErr_range hv hsq).1 h
  have he : prodErr a b = 0 := prod_ok hv hvb (by rw [hsq, hbl])
  have hpl := prodE_length he
  have hpe : prodE a b = pmM a b a.length := by rw [prodE_pm he, hsb]
  have hpr : Rect (prodE a b) a.length := by rw [hpe]; exact pmM_rect
  have hvp := prodE_valid he
  have hcp : cols (prodE a b) = (prodE a b).length := by rw [hpl]; exact sq_cols hpr hpl
  have hkey := inv_prod (a := a) (b := b) (n := a.length) rfl hrb hbl hP
  have hsb' : cols b = b.length := by rw [hsb, hbl]
  have iff1 : inverseErr (prodE a b) = 0 ↔ inverseErr b = 0 := by
    rw [inverseErr_range hvp hcp, inverseErr_range hvb hsb', hpl, hbl, hpe]
    exact hkey.1
  refine ⟨he, hvp, iff1, fun hb0 => ?_, fun hb0 => ?_⟩
  · have la := law5 hv hsq h
    have lb := law5 hvb hsb' hb0
    refine prod_ok lb.valid la.valid ?_
    rw [invE_R hb0, invE_R h, invR_length]
    exact (sq_cols invR_rect invR_length).trans hbl
  · have la := law5 hv hsq h
    have lb := law5 hvb hsb' hb0
    have hperr : prodErr (inverseE b) (inverseE a) = 0 := by
      refine prod_ok lb.valid la.valid ?_
      rw [invE_R hb0, invE_R h, invR_length]
      exact (sq_cols invR_rect invR_length).trans hbl
    have hPb := (inverseErr_range hvb hsb').1 hb0
    rw [hbl] at hPb
    rw [invE_R (iff1.2 hb0), hpl, hpe, hkey.2 hPb, prodE_pm hperr, invE_R hb0, invE_R h, hbl, sq_cols (invR_rect (m := a) (n := a.length)) invR_length]
-- coefficients
structure Law6 (m : List (List UInt8)) (row : List UInt8) : Prop where
  vmore : Valid (m ++ [row])
  err : exprErr m row = if (reduceE (m ++ [row])).2.length = rk m then 0 else 8
  len : exprErr m row = 0 → (exprE m row).length = m.length
  comb : exprErr m row = 0 → combine (exprE m row) m row.length = row
  bad : exprErr m row ≠ 0 → exprE m row = []
  vtake : ∀ k, Valid (m.take k)
  piv : exprErr m row = 0 → ∀ k, k < m.length → (exprE m row).getD k 0 ≠ 0 → (reduceE (m.take (k + 1))).2.length = (reduceE (m.take k)).2.length + 1
theorem law6 (hv : Valid m) (h20 : m.length ≤ 20) (h0 : 0 < m.length) (hr : row.length = cols m) : Law6 m row := by
  have h48 : row.length ≤ 48 := by have := hv.colsle; omega
  have hmr : Rect (m ++ [row]) (cols m) := by
    intro r hr'
    simp only [List.mem_append, List.mem_singleton] at hr'
    rcases hr' with h | rfl
    · exact hv.row r h
    · exact hr
  have hvm : Valid (m ++ [row]) := valid_mk (by simp; omega) hv.colsle hmr
  have he := exprErr_ok hv h48 (fun _ => hr)
  have hvt : ∀ k, Valid (m.take k) := fun k => valid_mk (by rw [List.length_take]; have := hv.rows; omega) hv.colsle (take_rect hv.row k)
  have hiff : (exprS m row).isSome = true ↔ rk (m ++ [row]) = rk m := by
    rw [exprS_iff, hr]; exact rk_snoc hv.row hr
  have hE : exprE m row = ((exprS m row).map (·.1)).getD [] ∨ exprErr m row ≠ 0 := by
    by_cases h : exprErr m row = 0
    · left; unfold exprE; rw [if_pos h]
    · right; exact h
  have hsome : exprErr m row = 0 → ∃ s, exprS m row = some s ∧ exprE m row = s.1 := fun h => by
    rw [he] at h
    cases hs : exprS m row with
    | none => rw [hs] at h; simp at h
    | some s =>
      refine ⟨s, rfl, ?_⟩
      unfold exprE
      rw [if_pos (by rw [he, hs]; rfl), hs]; rfl
  refine ⟨hvm, ?_, fun h => ?_, fun h => ?_, fun h => by unfold exprE; rw [if_neg h], hvt, fun h k hk hne => ?_⟩
  · rw [rank_rk hvm, he]
    by_cases hs : (exprS m row).isSome = true
    · rw [if_pos hs, if_pos (hiff.1 hs)]
    · rw [if_neg hs, if_neg (fun h => hs (hiff.2 h))]
  · obtain ⟨s, hs, hes⟩ := hsome h
    rw [hes, (solveM_some hs).2.1]; exact solXTo_length _ _ _
  · obtain ⟨s, hs, hes⟩ := hsome h
    obtain ⟨h1, h2, _⟩ := solveM_some hs
    have hsol := (cols_solves (m := m) (n := row.length) (row := row) _).1 (sol_solves h1)
    refine row_ext (by rw [combine_length (by rw [hr]; exact hv.row)]) fun c hc => ?_
    rw [combine_length (by rw [hr]; exact hv.row)] at hc
    rw [combine_get (by rw [hr]; exact hv.row) c, hsol c hc, hes, h2]
    rfl
  · obtain ⟨s, hs, hes⟩ := hsome h
    rw [hes] at hne
    rw [rank_rk (hvt _), rank_rk (hvt _)]
    have hs' : solveM (colsM m (cols m)) row m.length = some s := by rw [← hr]; exact hs
    exact express_piv hv.row hs' hk hne
-- ranks
structure Law7 (a : List (List UInt8)) : Prop where
  vt : Valid (transpose a)
  rt : (reduceE (transpose a)).2.length = rk a
  rows : rk a ≤ a.length
  colsle : rk a ≤ cols a
  rl : (reduceM a).1.length = rk a
  vrev : Valid (reduceM a).1.reverse
  again : reduceE (reduceM a).1.reverse = reduceM a
theorem law7 (hv : Valid a) : Law7 a := by
  have s := reduce_spec hv.row
  have vt : Valid (transpose a) := by rw [transpose_colsM]; exact valid_mk (by rw [colsM_length]; exact hv.colsle) hv.rows colsM_rect
  have hrr : Rect (reduceM a).1.reverse (cols a) := fun r hr => s.rect r (List.mem_reverse.1 hr)
  have vrev : Valid (reduceM a).1.reverse := valid_mk (by rw [List.length_reverse, s.len]; have := s.rows; have := hv.rows; omega) hv.colsle hrr
  refine ⟨vt, by rw [rank_rk vt, transpose_colsM, rk_cols hv.row], s.rows, rk_le_cols hv.row, s.len, vrev, ?_⟩
  rw [reduceE_valid vrev]
  have hel : ∀ k, k < (reduceM a).1.length → ∀ c, el (reduceM a).1.reverse k c = el (reduceM a).1 ((reduceM a).1.length - 1 - k) c := fun k hk c => by
    have hk' : k < (reduceM a).1.reverse.length := by rw [List.length_reverse]; exact hk
    have hk2 : (reduceM a).1.length - 1 - k < (reduceM a).1.length := by omega
    unfold el
    rw [getD_lt _ _ hk', getD_lt _ _ hk2, List.getElem_reverse]
  refine reduce_same hrr hv.row (fun k hk => ?_) (s.ge.trans fun k hk => ?_)
  · rw [List.length_reverse] at hk
    exact (s.le ((reduceM a).1.length - 1 - k) (by rw [s.len] at hk ⊢; omega)).congr fun c _ => hel k hk c
  · rw [← s.len] at hk
    refine InSp.of_eq (k := (reduceM a).1.length - 1 - k) (by rw [List.length_reverse]; omega) fun c _ => ?_
    rw [hel _ (by omega)]
    congr 2
    omega
theorem law7b (hva : Valid a) (hvb : Valid b) (h : cols a = b.length) : prodErr a b = 0 ∧ Valid (prodE a b) ∧ (reduceE (prodE a b)).2.length ≤ rk a ∧ (reduceE (prodE a b)).2.length ≤ rk b := by
  have he := prod_ok hva hvb h
  have hv := prodE_valid he
  refine ⟨he, hv, ?_, ?_⟩
  · rw [rank_rk hv, prodE_pm he]; exact rk_pm_left hva.row h.symm
  · rw [rank_rk hv, prodE_pm he]; exact rk_pm_right hvb.row
end
end Go.Proofs.YtokclgjkdpjjfaaDoor
