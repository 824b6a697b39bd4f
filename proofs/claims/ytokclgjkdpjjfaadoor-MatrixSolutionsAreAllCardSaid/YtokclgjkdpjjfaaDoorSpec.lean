/-
  What the functions of layer 5 compute, on lists. Plain Lean, no program.
-/
import Derived.Test.YtokclgjkdpjjfaaDoorGf
namespace Go.Q
theorem any_take_succ {α : Type} (p : α → Bool) (l : List α) (i : Nat) (h : i < l.length) : (l.take (i + 1)).any p = ((l.take i).any p || p l[i]) := by
  rw [List.take_succ_eq_append_getElem h, List.any_append]; simp
theorem all_take_succ {α : Type} (p : α → Bool) (l : List α) (i : Nat) (h : i < l.length) : (l.take (i + 1)).all p = ((l.take i).all p && p l[i]) := by
  rw [List.take_succ_eq_append_getElem h, List.all_append]; simp
theorem take_succ {α : Type} (l : List α) (i : Nat) (h : i < l.length) : l.take (i + 1) = l.take i ++ [l[i]] := List.take_succ_eq_append_getElem h
theorem take_all {α : Type} (l : List α) : l.take l.length = l := List.take_length
theorem getD_lt {α : Type} (l : List α) (d : α) {i : Nat} (h : i < l.length) : l.getD i d = l[i] := by
  rw [List.getD_eq_getElem?_getD, List.getElem?_eq_getElem h]; rfl
/-- The number of columns. -/
def cols (m : List (List UInt8)) : Nat := (m.headD []).length
def mchk (m : List (List UInt8)) : Nat :=
  if 48 < m.length then 2 else if m.any (fun r => decide (48 < r.length)) then 2 else if m.any (fun r => r.length != cols m) then 1 else 0
theorem cols_zero {m : List (List UInt8)} (h : 0 < m.length) : m[0].length = cols m := by
  cases m with
  | nil => simp at h
  | cons a l => rfl
theorem cols_nil : cols [] = 0 := rfl
structure Valid (m : List (List UInt8)) : Prop where
  rows : m.length ≤ 48
  colsle : cols m ≤ 48
  row : ∀ r ∈ m, r.length = cols m
theorem mchk_valid {m : List (List UInt8)} : mchk m = 0 ↔ Valid m := by
  unfold mchk
  constructor
  · intro h
    split at h; · cases h
    split at h; · cases h
    split at h; · cases h
    rename_i h1 h2 h3
    simp only [List.any_eq_true, not_exists, not_and, decide_eq_true_eq, bne_iff_ne, ne_eq, Decidable.not_not] at h2 h3
    refine ⟨by omega, ?_, h3⟩
    cases m with
    | nil => simp [cols]
    | cons a l => have := h2 a (by simp); simp [cols]; omega
  · rintro ⟨h1, h2, h3⟩
    rw [if_neg (by omega), if_neg, if_neg]
    · simp only [List.any_eq_true, not_exists, not_and, bne_iff_ne, ne_eq, Decidable.not_not]; exact h3
    · simp only [List.any_eq_true, not_exists, not_and, decide_eq_true_eq]; intro r hr; have := h3 r hr; omega
theorem Valid.len {m : List (List UInt8)} (h : Valid m) {i : Nat} (hi : i < m.length) : m[i].length = cols m := h.row _ (List.getElem_mem hi)
/-- Few rows, of few elements. -/
def few (m : List (List UInt8)) (n : Nat) : Bool := decide (m.length ≤ n) && m.all (fun r => decide (r.length ≤ n))
/-- The first row, from one on, whose element in a column is not 0. -/
def leadFrom (m : List (List UInt8)) (c : Nat) : Nat → Nat → Option Nat
  | 0, _ => none
  | f + 1, k => if (m.getD k []).getD c 0 != 0 then some k else leadFrom m c f (k + 1)
def lead (m : List (List UInt8)) (from_ c : Nat) : Option Nat := leadFrom m c (m.length - from_) from_
def rowAdd (a : List UInt8) (by_ : UInt8) (b : List UInt8) : List UInt8 := List.zipWith (fun x y => x ^^^ gmul by_ y) a b
/-- The sum of the first n rows with coefficients. -/
def combineTo (coef : List UInt8) (rows : List (List UInt8)) (len : Nat) : Nat → List UInt8
  | 0 => List.replicate len 0
  | n + 1 => rowAdd (combineTo coef rows len n) (coef.getD n 0) (rows.getD n [])
def combine (coef : List UInt8) (rows : List (List UInt8)) (len : Nat) : List UInt8 := combineTo coef rows len rows.length
def product (a b : List (List UInt8)) : List (List UInt8) := a.map fun r => combine r b (cols b)
/-- The error of a product. -/
def prodErr (a b : List (List UInt8)) : Nat := if mchk a ≠ 0 then mchk a else if mchk b ≠ 0 then mchk b else if cols a ≠ b.length then 1 else 0
def column (m : List (List UInt8)) (c : Nat) : List UInt8 := m.map fun r => r.getD c 0
def transpose (m : List (List UInt8)) : List (List UInt8) := (List.range (cols m)).map fun c => column m c
def identity (n : Nat) : List (List UInt8) := (List.range n).map fun k => (List.replicate n (0 : UInt8)).set k 1
/-- Rows r and p exchanged, and row r scaled so that it has 1 in column c. -/
def swapScale (m : List (List UInt8)) (r p c : Nat) : List (List UInt8) :=
  (m.set p (m.getD r [])).set r (rowAdd (List.replicate (m.getD p []).length 0) (ginv ((m.getD p []).getD c 0)) (m.getD p []))
/-- Behind i rounds: column c cleared in the rows below i, but in r. -/
def clrTo (l : List (List UInt8)) (r c : Nat) : Nat → List (List UInt8)
  | 0 => l
  | i + 1 => if i = r then clrTo l r c i else (clrTo l r c i).set i (rowAdd ((clrTo l r c i).getD i []) (((clrTo l r c i).getD i []).getD c 0) ((clrTo l r c i).getD r []))
def clearedM (m : List (List UInt8)) (r p c : Nat) : List (List UInt8) := clrTo (swapScale m r p c) r c m.length
def redStep (st : List (List UInt8) × List Nat) (c : Nat) : List (List UInt8) × List Nat :=
  match lead st.1 st.2.length c with
  | none => st
  | some p => (clearedM st.1 st.2.length p c, st.2 ++ [c])
def redTo (m : List (List UInt8)) : Nat → List (List UInt8) × List Nat
  | 0 => (m, [])
  | c + 1 => redStep (redTo m c) c
def reduceM (m : List (List UInt8)) : List (List UInt8) × List Nat := ((redTo m (cols m)).1.take (redTo m (cols m)).2.length, (redTo m (cols m)).2)
/-- All rows have n elements. -/
def Rect (m : List (List UInt8)) (n : Nat) : Prop := ∀ r ∈ m, r.length = n
theorem Rect.getD {m : List (List UInt8)} {n i : Nat} (h : Rect m n) (hi : i < m.length) : (m.getD i []).length = n := by rw [getD_lt _ _ hi]; exact h _ (List.getElem_mem hi)
theorem Rect.set {m : List (List UInt8)} {n i : Nat} {v : List UInt8} (h : Rect m n) (hv : v.length = n) : Rect (m.set i v) n := by
  intro r hr
  rcases List.mem_or_eq_of_mem_set hr with h1 | rfl
  · exact h r h1
  · exact hv
theorem rowAdd_len {a b : List UInt8} {y : UInt8} {n : Nat} (ha : a.length = n) (hb : n ≤ b.length) : (rowAdd a y b).length = n := by simp [rowAdd]; omega
theorem swapScale_length (m : List (List UInt8)) (r p c : Nat) : (swapScale m r p c).length = m.length := by simp [swapScale]
theorem clrTo_length (l : List (List UInt8)) (r c : Nat) : ∀ i, (clrTo l r c i).length = l.length
  | 0 => rfl
  | i + 1 => by simp only [clrTo]; split <;> simp [clrTo_length l r c i]
theorem swapScale_rect {m : List (List UInt8)} {n r p c : Nat} (h : Rect m n) (hr : r < m.length) (hp : p < m.length) : Rect (swapScale m r p c) n := by
  refine Rect.set (Rect.set h (h.getD hr)) (rowAdd_len ?_ ?_)
  · rw [List.length_replicate, h.getD hp]
  · rw [h.getD hp]; exact Nat.le_refl _
theorem clrTo_rect {l : List (List UInt8)} {n r c : Nat} (h : Rect l n) (hr : r < l.length) : ∀ i, i ≤ l.length → Rect (clrTo l r c i) n
  | 0, _ => h
  | i + 1, hi => by
    have ih := clrTo_rect (c := c) h hr i (by omega)
    simp only [clrTo]
    split
    · exact ih
    · refine ih.set (rowAdd_len (ih.getD (by rw [clrTo_length]; omega)) ?_)
      rw [ih.getD (by rw [clrTo_length]; exact hr)]; exact Nat.le_refl _
theorem clearedM_length (m : List (List UInt8)) (r p c : Nat) : (clearedM m r p c).length = m.length := by unfold clearedM; rw [clrTo_length, swapScale_length]
theorem clearedM_rect {m : List (List UInt8)} {n r p c : Nat} (h : Rect m n) (hr : r < m.length) (hp : p < m.length) : Rect (clearedM m r p c) n :=
  clrTo_rect (swapScale_rect h hr hp) (by rw [swapScale_length]; exact hr) _ (by rw [swapScale_length]; exact Nat.le_refl _)
theorem leadFrom_some {m : List (List UInt8)} {c : Nat} : ∀ f k p, leadFrom m c f k = some p → k ≤ p ∧ p < k + f ∧ (m.getD p []).getD c 0 ≠ 0
  | 0, k, p, h => by simp [leadFrom] at h
  | f + 1, k, p, h => by
    unfold leadFrom at h
    split at h
    · rename_i hne
      obtain rfl := Option.some.inj h
      exact ⟨Nat.le_refl _, by omega, by simpa using hne⟩
    · have := leadFrom_some f (k + 1) p h
      exact ⟨by omega, by omega, this.2.2⟩
theorem leadFrom_none {m : List (List UInt8)} {c : Nat} : ∀ f k, leadFrom m c f k = none → ∀ p, k ≤ p → p < k + f → (m.getD p []).getD c 0 = 0
  | 0, k, _, p, h1, h2 => by omega
  | f + 1, k, h, p, h1, h2 => by
    unfold leadFrom at h
    split at h
    · cases h
    · rename_i hne
      by_cases hp : p = k
      · subst hp; simpa using hne
      · exact leadFrom_none f (k + 1) h p (by omega) (by omega)
theorem lead_some {m : List (List UInt8)} {r c p : Nat} (h : lead m r c = some p) : r ≤ p ∧ p < m.length ∧ (m.getD p []).getD c 0 ≠ 0 := by
  have := leadFrom_some _ _ _ h
  exact ⟨this.1, by omega, this.2.2⟩
/-- So many rows, of so many elements, and at most as many pivots as rows or columns seen. -/
theorem redTo_inv {m : List (List UInt8)} {n : Nat} (h : Rect m n) : ∀ c, (redTo m c).1.length = m.length ∧ Rect (redTo m c).1 n ∧ (redTo m c).2.length ≤ m.length ∧ (redTo m c).2.length ≤ c ∧ ∀ k ∈ (redTo m c).2, k < c
  | 0 => ⟨rfl, h, Nat.zero_le _, Nat.le_refl _, by simp [redTo]⟩
  | c + 1 => by
    obtain ⟨h1, h2, h3, h4, h5⟩ := redTo_inv h c
    simp only [redTo, redStep]
    cases hl : lead (redTo m c).1 (redTo m c).2.length c with
    | none => exact ⟨h1, h2, h3, Nat.le_succ_of_le h4, fun k hk => Nat.lt_succ_of_lt (h5 k hk)⟩
    | some p =>
      obtain ⟨hp1, hp2, hp3⟩ := lead_some hl
      refine ⟨by rw [clearedM_length, h1], clearedM_rect h2 (by omega) hp2, by simp; omega, by simp; omega, fun k hk => ?_⟩
      simp only [List.mem_append, List.mem_singleton] at hk
      rcases hk with hk | hk
      · have := h5 k hk; omega
      · omega
/-- A matrix whose elements a function gives. -/
def gridM (rows cs : Nat) (f : Nat → Nat → UInt8) : List (List UInt8) := (List.range rows).map fun i => (List.range cs).map fun k => f i k
/-- A row whose first k elements are there. -/
def rowTo (cs : Nat) (f : Nat → UInt8) (k : Nat) : List UInt8 := (List.range cs).map fun j => if j < k then f j else 0
theorem rowTo_zero (cs : Nat) (f : Nat → UInt8) : rowTo cs f 0 = List.replicate cs 0 := by
  refine List.ext_getElem (by simp [rowTo]) fun i h1 h2 => by simp [rowTo]
theorem rowTo_all (cs : Nat) (f : Nat → UInt8) : rowTo cs f cs = (List.range cs).map f := by
  refine List.ext_getElem (by simp [rowTo]) fun i h1 h2 => by simp [rowTo] at h1 ⊢; intro; omega
theorem rowTo_set (cs : Nat) (f : Nat → UInt8) (k : Nat) : (rowTo cs f k).set k (f k) = rowTo cs f (k + 1) := by
  refine List.ext_getElem (by simp [rowTo]) fun i h1 h2 => ?_
  rw [List.getElem_set]
  split
  · rename_i e; subst e; simp [rowTo]
  · rename_i e
    simp only [rowTo, List.getElem_map, List.getElem_range]
    by_cases h : i < k
    · rw [if_pos h, if_pos (by omega)]
    · rw [if_neg h, if_neg (by omega)]
theorem rowTo_length (cs : Nat) (f : Nat → UInt8) (k : Nat) : (rowTo cs f k).length = cs := by simp [rowTo]
theorem gridM_length (rows cs : Nat) (f : Nat → Nat → UInt8) : (gridM rows cs f).length = rows := by simp [gridM]
theorem gridM_step (rows cs : Nat) (f : Nat → Nat → UInt8) (i : Nat) (hi : i < rows) : (gridM rows cs f).take i ++ [(List.range cs).map (f i)] = (gridM rows cs f).take (i + 1) := by
  rw [take_succ _ _ (by rw [gridM_length]; exact hi)]
  congr 2
  simp [gridM]
/-- The first j elements of F, and X behind them. -/
def mixTo (F X : List UInt8) (j : Nat) : List UInt8 := F.take j ++ X.drop j
theorem mixTo_zero (F X : List UInt8) : mixTo F X 0 = X := by simp [mixTo]
theorem mixTo_all (F X : List UInt8) (h : F.length = X.length) : mixTo F X X.length = F := by simp [mixTo, ← h]
theorem mixTo_length (F X : List UInt8) (j : Nat) (h : F.length = X.length) (hj : j ≤ X.length) : (mixTo F X j).length = X.length := by simp [mixTo]; omega
theorem mixTo_get (F X : List UInt8) (j : Nat) (h : F.length = X.length) (hj : j < X.length) (h2 : j < (mixTo F X j).length) : (mixTo F X j)[j] = X[j] := by
  simp only [mixTo]
  rw [List.getElem_append_right (by simp; omega)]
  simp [List.length_take, show min j F.length = j by omega]
theorem mixTo_set (F X : List UInt8) (j : Nat) (h : F.length = X.length) (hj : j < F.length) : (mixTo F X j).set j F[j] = mixTo F X (j + 1) := by
  unfold mixTo
  rw [List.set_append_right _ _ (by simp; omega), List.length_take, show j - min j F.length = 0 by omega, List.drop_eq_getElem_cons (by omega : j < X.length), List.set_cons_zero,
    List.take_succ_eq_append_getElem hj, List.append_assoc]
  rfl
/-- A row times a byte. -/
def scaled (X : List UInt8) (y : UInt8) : List UInt8 := X.map fun x => gmul x y
theorem scaled_length (X : List UInt8) (y : UInt8) : (scaled X y).length = X.length := by simp [scaled]
theorem scaled_eq (X : List UInt8) (y : UInt8) : scaled X y = rowAdd (List.replicate X.length 0) y X := by
  refine List.ext_getElem (by simp [scaled, rowAdd]) fun i h1 h2 => ?_
  simp [scaled, rowAdd, gmul_comm]
theorem rowAdd_zero (X Y : List UInt8) (h : X.length ≤ Y.length) : rowAdd X 0 Y = X := by
  refine List.ext_getElem (by simp [rowAdd]; omega) fun i h1 h2 => ?_
  simp [rowAdd, zero_gmul]
theorem swapScale_eq {M : List (List UInt8)} {r p c : Nat} (hr : r < M.length) (hp : p < M.length) :
    swapScale M r p c = ((M.set r M[p]).set p M[r]).set r (scaled M[p] (ginv (M[p].getD c 0))) := by
  unfold swapScale
  rw [getD_lt _ _ hr, getD_lt _ _ hp, scaled_eq]
  by_cases h : r = p
  · subst h; simp
  · rw [List.set_comm _ _ h, List.set_set]
theorem swap_get {α : Type} (l : List α) {r k : Nat} (hr : r < l.length) (hk : k < l.length) : ((l.set r l[k]).set k l[r])[r]'(by simpa using hr) = l[k] := by
  rw [List.getElem_set]
  split
  · rename_i e; subst e; rfl
  · simp
theorem swap_rect {M : List (List UInt8)} {n r k : Nat} (h : Rect M n) (hr : r < M.length) (hk : k < M.length) : Rect ((M.set r M[k]).set k M[r]) n :=
  (h.set (h _ (List.getElem_mem _))).set (h _ (List.getElem_mem _))
theorem row_step (M : List (List UInt8)) (r j : Nat) (F X : List UInt8) (h : F.length = X.length) (hj : j < F.length) : (M.set r (mixTo F X j)).set r ((mixTo F X j).set j F[j]) = M.set r (mixTo F X (j + 1)) := by
  rw [List.set_set, mixTo_set F X j h hj]
theorem clr_step (l : List (List UInt8)) {r c i : Nat} (hir : i ≠ r) {V Y : List UInt8} {z : UInt8} (hV : (clrTo l r c i)[i]? = some V) (hY : (clrTo l r c i)[r]? = some Y) (hz : V[c]? = some z) :
    clrTo l r c (i + 1) = (clrTo l r c i).set i (rowAdd V z Y) := by
  obtain ⟨hL, rfl⟩ := List.getElem?_eq_some_iff.1 hV
  obtain ⟨hR, rfl⟩ := List.getElem?_eq_some_iff.1 hY
  obtain ⟨hC, rfl⟩ := List.getElem?_eq_some_iff.1 hz
  rw [clrTo, if_neg hir, getD_lt _ _ hL, getD_lt _ _ hR, getD_lt _ _ hC]
theorem clr_skip (l : List (List UInt8)) {r c i : Nat} {V Y : List UInt8} (hV : (clrTo l r c i)[i]? = some V) (hY : (clrTo l r c i)[r]? = some Y) (hz : V[c]? = some 0) (hl : V.length ≤ Y.length) : clrTo l r c (i + 1) = clrTo l r c i := by
  by_cases hir : i = r
  · rw [clrTo, if_pos hir]
  · rw [clr_step l hir hV hY hz, rowAdd_zero _ _ hl]
    obtain ⟨hL, rfl⟩ := List.getElem?_eq_some_iff.1 hV
    exact List.set_getElem_self hL
-- systems
def bothM (m : List (List UInt8)) (b : List UInt8) (u : Nat) : List (List UInt8) := gridM m.length (u + 1) (fun i k => if k < u then (m.getD i []).getD k 0 else b.getD i 0)
/-- The solution, of the first k pivots. -/
def solXTo (R : List (List UInt8) × List Nat) (u : Nat) : Nat → List UInt8
  | 0 => List.replicate u 0
  | k + 1 => (solXTo R u k).set (R.2.getD k 0) ((R.1.getD k []).getD u 0)
/-- Which columns are bound, by the first k pivots. -/
def boundTo (R : List (List UInt8) × List Nat) (u : Nat) : Nat → List Bool
  | 0 => List.replicate u false
  | k + 1 => (boundTo R u k).set (R.2.getD k 0) true
/-- A row of the kernel, of the first k pivots. -/
def kerTo (R : List (List UInt8) × List Nat) (u c : Nat) : Nat → List UInt8
  | 0 => (List.replicate u 0).set c 1
  | k + 1 => (kerTo R u c k).set (R.2.getD k 0) ((R.1.getD k []).getD c 0)
def kernelTo (R : List (List UInt8) × List Nat) (u : Nat) : Nat → List (List UInt8)
  | 0 => []
  | c + 1 => if c ∈ R.2 then kernelTo R u c else kernelTo R u c ++ [kerTo R u c R.2.length]
theorem solXTo_length (R : List (List UInt8) × List Nat) (u : Nat) : ∀ k, (solXTo R u k).length = u
  | 0 => by simp [solXTo]
  | k + 1 => by simp [solXTo, solXTo_length R u k]
theorem boundTo_length (R : List (List UInt8) × List Nat) (u : Nat) : ∀ k, (boundTo R u k).length = u
  | 0 => by simp [boundTo]
  | k + 1 => by simp [boundTo, boundTo_length R u k]
theorem kerTo_length (R : List (List UInt8) × List Nat) (u c : Nat) : ∀ k, (kerTo R u c k).length = u
  | 0 => by simp [kerTo]
  | k + 1 => by simp [kerTo, kerTo_length R u c k]
theorem boundTo_get (R : List (List UInt8) × List Nat) (u : Nat) : ∀ k, k ≤ R.2.length → ∀ c (hc : c < (boundTo R u k).length), (boundTo R u k)[c] = decide (c ∈ R.2.take k)
  | 0, _, c, hc => by simp [boundTo]
  | k + 1, hk, c, hc => by
    have hk' : k < R.2.length := hk
    have hc' : c < (boundTo R u k).length := by rw [boundTo_length] at hc ⊢; exact hc
    have e1 : (boundTo R u (k + 1))[c] = if R.2[k] = c then true else (boundTo R u k)[c] := by
      simp only [boundTo, List.getElem_set, getD_lt _ _ hk']
    have e2 : R.2.take (k + 1) = R.2.take k ++ [R.2[k]] := take_succ _ _ hk'
    rw [e1, boundTo_get R u k (by omega) c hc']
    split
    · rename_i e
      exact (decide_eq_true (by rw [e2, ← e]; exact List.mem_append_right _ (List.mem_singleton.2 rfl))).symm
    · rename_i e
      have hm : (c ∈ R.2.take (k + 1)) ↔ (c ∈ R.2.take k) := by
        rw [e2, List.mem_append, List.mem_singleton]
        exact ⟨fun h => h.elim id (fun h => absurd h.symm e), Or.inl⟩
      rw [decide_eq_decide.2 hm]
/-- Solve's answer: a solution and the kernel, if there is one. -/
def solveM (m : List (List UInt8)) (b : List UInt8) (u : Nat) : Option (List UInt8 × List (List UInt8)) :=
  let R := reduceM (bothM m b u)
  if u ∈ R.2 then none else some (solXTo R u R.2.length, kernelTo R u u)
theorem bothM_rect (m : List (List UInt8)) (b : List UInt8) (u : Nat) : Rect (bothM m b u) (u + 1) := by
  intro r hr
  simp only [bothM, gridM, List.mem_map] at hr
  obtain ⟨i, _, rfl⟩ := hr
  simp
theorem gridM_rect (rows cs : Nat) (f : Nat → Nat → UInt8) : Rect (gridM rows cs f) cs := by
  intro r hr
  simp only [gridM, List.mem_map] at hr
  obtain ⟨i, _, rfl⟩ := hr
  simp
theorem cols_gridM {rows cs : Nat} (f : Nat → Nat → UInt8) (h : 0 < rows) : cols (gridM rows cs f) = cs := by
  have h1 : 0 < (gridM rows cs f).length := by rw [gridM_length]; exact h
  rw [← cols_zero h1]
  exact gridM_rect rows cs f _ (List.getElem_mem _)
end Go.Q
