/-
  A matrix of bytes that a call made itself and writes into: its rows lie in blocks of their own. No program.
-/
import Derived.Test.YtjfccohgkgcnfaaGreatDoorBase
import Derived.Laws.CopyOwn
namespace Go.Q
open Go Go.RowKit
abbrev u8v (x : UInt8) : Value := .int .u8 (x.toNat : Int)
/-- The outer cells: a row each for what is made, nil behind. -/
def tops (N : Nat) (G : List Nat) (m : List (List UInt8)) : List Value :=
  List.zipWith (fun b (r : List UInt8) => Value.slice (some ⟨b, 0, none⟩) r.length r.length) G m ++ List.replicate (N - m.length) (.slice none 0 0)
theorem nodup_inj {l : List Nat} (h : l.Nodup) {i j : Nat} (hi : i < l.length) (hj : j < l.length) (e : l[i] = l[j]) : i = j := by
  have h' := List.pairwise_iff_getElem.1 h
  rcases Nat.lt_trichotomy i j with hl | hl | hl
  · exact absurd e (h' i j hi hj hl)
  · exact hl
  · exact absurd e.symm (h' j i hj hi hl)
theorem nodup_of_inj {l : List Nat} (h : ∀ i j (hi : i < l.length) (hj : j < l.length), l[i] = l[j] → i = j) : l.Nodup := by
  refine List.pairwise_iff_getElem.2 fun i j hi hj hij e => ?_
  have := h i j hi hj e
  omega
structure OwnMat (base eT eR : Nat) (w : World) (g N : Nat) (G : List Nat) (m : List (List UInt8)) : Prop where
  len : G.length = m.length
  le : m.length ≤ N
  top : w.heap[g]? = some (.cells (tops N G m).toArray eT (0, 0))
  nodup : (g :: G).Nodup
  lo : ∀ b ∈ g :: G, base ≤ b
  row : ∀ i (h1 : i < G.length) (h2 : i < m.length), w.heap[G[i]]? = some (.cells (m[i].map u8v).toArray eR (0, 0))
section
variable {base eT eR : Nat} {w w' : World} {g N : Nat} {G : List Nat} {m : List (List UInt8)}
theorem tops_length (hl : G.length = m.length) (hle : m.length ≤ N) : (tops N G m).length = N := by simp [tops, hl]; omega
theorem tops_get (hl : G.length = m.length) {i : Nat} (h : i < m.length) : (tops N G m)[i]? = some (.slice (some ⟨G[i]'(by omega), 0, none⟩) m[i].length m[i].length) := by
  unfold tops
  rw [List.getElem?_append_left (by simp; omega), List.getElem?_eq_getElem (by simp; omega)]
  simp
theorem tops_get_nil (hl : G.length = m.length) {i : Nat} (h1 : m.length ≤ i) (h2 : i < N) : (tops N G m)[i]? = some (.slice none 0 0) := by
  unfold tops
  rw [List.getElem?_append_right (by simp; omega), List.getElem?_eq_getElem (by simp; omega)]
  simp
theorem OwnMat.gIn (h : OwnMat base eT eR w g N G m) : g < w.heap.size := (Array.getElem?_eq_some_iff.1 h.top).1
theorem OwnMat.rowIn (h : OwnMat base eT eR w g N G m) {i : Nat} (hi : i < G.length) : G[i] < w.heap.size := (Array.getElem?_eq_some_iff.1 (h.row i hi (by have := h.len; omega))).1
theorem OwnMat.blocksIn (h : OwnMat base eT eR w g N G m) : ∀ b ∈ g :: G, b < w.heap.size := by
  intro b hb
  rcases List.mem_cons.1 hb with rfl | hb
  · exact h.gIn
  · obtain ⟨i, hi, rfl⟩ := List.getElem_of_mem hb
    exact h.rowIn hi
theorem OwnMat.keep (h : OwnMat base eT eR w g N G m) (hk : ∀ b ∈ g :: G, w'.heap[b]? = w.heap[b]?) : OwnMat base eT eR w' g N G m :=
  ⟨h.len, h.le, by rw [hk g (by simp)]; exact h.top, h.nodup, h.lo, fun i h1 h2 => by rw [hk _ (by simp)]; exact h.row i h1 h2⟩
theorem OwnMat.below (h : OwnMat base eT eR w g N G m) (hb : Below w.heap.size w w') : OwnMat base eT eR w' g N G m := h.keep fun b hm => hb.block b (h.blocksIn b hm)
theorem OwnMat.gNe (h : OwnMat base eT eR w g N G m) {i : Nat} (hi : i < G.length) : G[i] ≠ g := by
  intro e
  have := h.nodup
  rw [List.nodup_cons] at this
  exact this.1 (e ▸ List.getElem_mem hi)
theorem OwnMat.ne (h : OwnMat base eT eR w g N G m) {i j : Nat} (hi : i < G.length) (hj : j < G.length) (hij : i ≠ j) : G[i] ≠ G[j] := by
  intro e
  have := h.nodup
  rw [List.nodup_cons] at this
  exact hij (nodup_inj this.2 hi hj e)
/-- The outer cell of a made row. -/
theorem OwnMat.topCell (h : OwnMat base eT eR w g N G m) {i : Nat} (hi : i < m.length) :
    w.cell? ⟨g, i, none⟩ = some (.slice (some ⟨G[i]'(by have := h.len; omega), 0, none⟩) m[i].length m[i].length) ∧ w.frozen? ⟨g, i, none⟩ = false := by
  have hl := tops_length (N := N) h.len h.le
  have hle := h.le
  obtain ⟨h1, h2⟩ := cells_at h.top i (by simp; omega)
  refine ⟨?_, h2⟩
  rw [h1]
  have := tops_get (N := N) h.len hi
  rw [List.getElem?_eq_getElem (by omega)] at this
  simpa using this
theorem OwnMat.nilCell (h : OwnMat base eT eR w g N G m) {i : Nat} (h1 : m.length ≤ i) (h2 : i < N) :
    w.cell? ⟨g, i, none⟩ = some (.slice none 0 0) ∧ w.frozen? ⟨g, i, none⟩ = false := by
  have hl := tops_length (N := N) h.len h.le
  obtain ⟨h3, h4⟩ := cells_at h.top i (by simp; omega)
  refine ⟨?_, h4⟩
  rw [h3]
  have := tops_get_nil (N := N) h.len h1 h2
  rw [List.getElem?_eq_getElem (by omega)] at this
  simpa using this
/-- An element. -/
theorem OwnMat.rowCell (h : OwnMat base eT eR w g N G m) {i j : Nat} (hi : i < m.length) (hj : j < m[i].length) :
    w.cell? ⟨G[i]'(by have := h.len; omega), j, none⟩ = some (u8v m[i][j]) ∧ w.frozen? ⟨G[i]'(by have := h.len; omega), j, none⟩ = false := by
  have hg : i < G.length := by have := h.len; omega
  obtain ⟨h3, h4⟩ := cells_at (h.row i hg hi) j (by simpa using hj)
  refine ⟨?_, h4⟩
  rw [h3]; simp
theorem heap_set_other (w : World) (b j : Nat) (u : Value) (k : Nat) (hk : k ≠ b) : (w.setCell ⟨b, j, none⟩ u).heap[k]? = w.heap[k]? := Below.heap_setCell w ⟨b, j, none⟩ u k hk
/-- An element is written. -/
theorem OwnMat.setElem (h : OwnMat base eT eR w g N G m) {i j : Nat} (hi : i < m.length) (x : UInt8) {b : Nat} (hb : b = G[i]'(by have := h.len; omega)) :
    OwnMat base eT eR (w.setCell ⟨b, j, none⟩ (u8v x)) g N G (m.set i (m[i].set j x)) := by
  have hg : i < G.length := by have := h.len; omega
  subst hb
  have hne := h.gNe hg
  refine ⟨by simp [h.len], by simpa using h.le, ?_, h.nodup, h.lo, fun k h1 h2 => ?_⟩
  · rw [heap_set_other _ _ _ _ _ (Ne.symm hne), h.top]
    congr 3
    refine List.ext_getElem? fun k => ?_
    have hl := tops_length (N := N) h.len h.le
    have hl2 := tops_length (N := N) (m := m.set i (m[i].set j x)) (by simpa using h.len) (by simpa using h.le)
    by_cases hk : k < m.length
    · rw [tops_get h.len hk, tops_get (by simpa using h.len) (by simpa using hk)]
      by_cases hik : i = k
      · subst hik; simp
      · simp [List.getElem_set_ne hik]
    · by_cases hkN : k < N
      · rw [tops_get_nil h.len (by omega) hkN, tops_get_nil (by simpa using h.len) (by simp; omega) hkN]
      · rw [List.getElem?_eq_none (by omega), List.getElem?_eq_none (by omega)]
  · simp only [List.length_set] at h2
    by_cases hik : i = k
    · subst hik
      rw [heap_setCell_same _ _ _ _ _ _ (h.row i hg hi)]
      simp [List.map_set]
    · rw [heap_set_other _ _ _ _ _ (h.ne h1 hg (Ne.symm hik)), List.getElem_set_ne hik]
      exact h.row k h1 h2
/-- A row is added: a block b with its elements, that was not there, and its outer cell. -/
theorem OwnMat.push (h : OwnMat base eT eR w g N G m) (hN : m.length < N) {b : Nat} {r : List UInt8} (hold : ∀ k ∈ g :: G, w'.heap[k]? = w.heap[k]?) (hb : w'.heap[b]? = some (.cells (r.map u8v).toArray eR (0, 0)))
    (hnew : ∀ k ∈ g :: G, k ≠ b) (hbase : base ≤ b) :
    OwnMat base eT eR (w'.setCell ⟨g, m.length, none⟩ (.slice (some ⟨b, 0, none⟩) r.length r.length)) g N (G ++ [b]) (m ++ [r]) := by
  have h' := h.keep hold
  refine ⟨by simp [h.len], by simp; omega, ?_, ?_, ?_, fun i h1 h2 => ?_⟩
  · rw [heap_setCell_same _ _ _ _ _ _ h'.top]
    have hl := tops_length (N := N) h.len h.le
    have hl2 := tops_length (N := N) (G := G ++ [b]) (m := m ++ [r]) (by simp [h.len]) (by simp; omega)
    simp only [List.setIfInBounds_toArray, Option.some.injEq, Obj.cells.injEq, and_true]
    congr 1
    refine List.ext_getElem? fun k => ?_
    have hGl := h.len
    by_cases hk : k < m.length
    · rw [List.getElem?_set_ne (by omega), tops_get h.len hk, tops_get (by simp [h.len]) (by simp; omega)]
      simp [List.getElem_append_left hk, List.getElem_append_left (show k < G.length by omega)]
    · by_cases hk2 : k = m.length
      · subst hk2
        rw [List.getElem?_set_self (by omega), tops_get (by simp [h.len]) (by simp)]
        simp [← hGl]
      · by_cases hkN : k < N
        · rw [List.getElem?_set_ne (by omega), tops_get_nil h.len (by omega) hkN, tops_get_nil (by simp [h.len]) (by simp; omega) hkN]
        · rw [List.getElem?_eq_none (by simp; omega), List.getElem?_eq_none (by omega)]
  · rw [← List.cons_append, List.nodup_append]
    exact ⟨h.nodup, by simp, fun x hx y hy => by simp at hy; subst hy; exact hnew x hx⟩
  · intro k hk
    rw [← List.cons_append, List.mem_append] at hk
    rcases hk with hk | hk
    · exact h.lo k hk
    · simp at hk; omega
  · by_cases hi : i < G.length
    · have hi2 : i < m.length := by have := h.len; omega
      rw [List.getElem_append_left hi, List.getElem_append_left hi2, heap_set_other _ _ _ _ _ (h.gNe hi)]
      exact h'.row i hi hi2
    · have hGl := h.len
      obtain rfl : i = G.length := by simp at h1; omega
      have hbg : b ≠ g := fun e => hnew g (by simp) e.symm
      rw [List.getElem_append_right (Nat.le_refl _), List.getElem_append_right (by omega)]
      simp only [Nat.sub_self, List.getElem_cons_zero, hGl]
      rw [heap_set_other _ _ _ _ _ hbg]
      exact hb
/-- Two rows change places. -/
theorem OwnMat.swap (h : OwnMat base eT eR w g N G m) {i j : Nat} (hi : i < m.length) (hj : j < m.length) :
    OwnMat base eT eR ((w.setCell ⟨g, i, none⟩ (.slice (some ⟨G[j]'(by have := h.len; omega), 0, none⟩) m[j].length m[j].length)).setCell ⟨g, j, none⟩ (.slice (some ⟨G[i]'(by have := h.len; omega), 0, none⟩) m[i].length m[i].length)) g N
      ((G.set i (G[j]'(by have := h.len; omega))).set j (G[i]'(by have := h.len; omega))) ((m.set i m[j]).set j m[i]) := by
  have hGl := h.len
  have hiG : i < G.length := by omega
  have hjG : j < G.length := by omega
  have hnd := h.nodup
  rw [List.nodup_cons] at hnd
  have hmem : ∀ x, x ∈ (G.set i G[j]).set j G[i] → x ∈ G := by
    intro x hx
    rcases List.mem_or_eq_of_mem_set hx with h1 | rfl
    · rcases List.mem_or_eq_of_mem_set h1 with h2 | rfl
      · exact h2
      · exact List.getElem_mem _
    · exact List.getElem_mem _
  have hget : ∀ k (hk : k < G.length), ((G.set i G[j]).set j G[i])[k]'(by simpa using hk) = if k = j then G[i] else if k = i then G[j] else G[k] := by
    intro k hk
    rw [List.getElem_set]
    split
    · rename_i e; rw [if_pos e.symm]
    · rename_i e
      rw [if_neg (fun h => e h.symm), List.getElem_set]
      split
      · rename_i e2; rw [if_pos e2.symm]
      · rename_i e2; rw [if_neg (fun h => e2 h.symm)]
  have hgetm : ∀ k (hk : k < m.length), ((m.set i m[j]).set j m[i])[k]'(by simpa using hk) = if k = j then m[i] else if k = i then m[j] else m[k] := by
    intro k hk
    rw [List.getElem_set]
    split
    · rename_i e; rw [if_pos e.symm]
    · rename_i e
      rw [if_neg (fun h => e h.symm), List.getElem_set]
      split
      · rename_i e2; rw [if_pos e2.symm]
      · rename_i e2; rw [if_neg (fun h => e2 h.symm)]
  refine ⟨by simp [h.len], by simpa using h.le, ?_, ?_, ?_, fun k h1 h2 => ?_⟩
  · have h1 := heap_setCell_same w g i (.slice (some ⟨G[j], 0, none⟩) m[j].length m[j].length) _ _ h.top
    rw [heap_setCell_same _ _ _ _ _ _ h1]
    have hl := tops_length (N := N) h.len h.le
    have hle := h.le
    have hl2 := tops_length (N := N) (G := (G.set i G[j]).set j G[i]) (m := (m.set i m[j]).set j m[i]) (by simpa using h.len) (by simpa using h.le)
    simp only [List.setIfInBounds_toArray, Option.some.injEq, Obj.cells.injEq, and_true]
    congr 1
    refine List.ext_getElem? fun k => ?_
    by_cases hk : k < m.length
    · rw [tops_get (by simpa using h.len) (by simpa using hk), hget k (by omega), hgetm k hk]
      by_cases hkj : k = j
      · subst hkj; rw [List.getElem?_set_self (by simp; omega)]; simp
      · rw [List.getElem?_set_ne (Ne.symm hkj)]
        by_cases hki : k = i
        · subst hki; rw [List.getElem?_set_self (by omega)]; simp [hkj]
        · rw [List.getElem?_set_ne (Ne.symm hki), tops_get h.len hk]; simp [hkj, hki]
    · rw [List.getElem?_set_ne (by omega), List.getElem?_set_ne (by omega)]
      by_cases hkN : k < N
      · rw [tops_get_nil h.len (by omega) hkN, tops_get_nil (by simpa using h.len) (by simp; omega) hkN]
      · rw [List.getElem?_eq_none (by omega), List.getElem?_eq_none (by omega)]
  · rw [List.nodup_cons]
    refine ⟨fun hg => hnd.1 (hmem g hg), ?_⟩
    refine nodup_of_inj fun a b ha hb e => ?_
    simp only [List.length_set] at ha hb
    rw [hget a ha, hget b hb] at e
    have inj : ∀ x y (hx : x < G.length) (hy : y < G.length), G[x] = G[y] → x = y := fun x y hx hy he => nodup_inj hnd.2 hx hy he
    split at e <;> split at e <;> (try split at e) <;> (try split at e) <;> (first | (have := inj _ _ _ _ e; omega) | omega)
  · intro k hk
    rcases List.mem_cons.1 hk with rfl | hk
    · exact h.lo _ (by simp)
    · exact h.lo k (by simp [hmem k hk])
  · simp only [List.length_set] at h1 h2
    rw [hget k h1, hgetm k h2]
    have aux : ∀ x (hx : x < G.length), ((w.setCell ⟨g, i, none⟩ (.slice (some ⟨G[j], 0, none⟩) m[j].length m[j].length)).setCell ⟨g, j, none⟩ (.slice (some ⟨G[i], 0, none⟩) m[i].length m[i].length)).heap[G[x]]? = some (.cells ((m[x]'(by omega)).map u8v).toArray eR (0, 0)) := by
      intro x hx
      rw [heap_set_other _ _ _ _ _ (h.gNe hx), heap_set_other _ _ _ _ _ (h.gNe hx)]
      exact h.row x hx (by omega)
    split
    · exact aux i hiG
    · split
      · exact aux j hjG
      · exact aux k h1
/-- It reads as a matrix. -/
theorem OwnMat.sl (h : OwnMat base eT eR w g N G m) (hN : m.length = N) (hsmall : N ≤ 9223372036854775807) (hr : ∀ r ∈ m, r.length ≤ 9223372036854775807) : Rows8 (fun k => k ∈ g :: G) w (some ⟨g, 0, none⟩) N m := by
  refine ⟨by omega, hsmall, (fun h => by cases h), fun a ha _ => ?_⟩
  cases ha
  refine ⟨g, 0, rfl, by simp, fun i hi => ?_⟩
  have hGl := h.len
  have hi2 : i < G.length := by omega
  obtain ⟨h1, _⟩ := h.topCell hi
  refine ⟨[.slice (some ⟨G[i], 0, none⟩) m[i].length m[i].length], ⟨some ⟨G[i], 0, none⟩, m[i].length, rfl, Nat.le_refl _, hr _ (List.getElem_mem _), (fun h => by cases h), fun a ha _ => ?_⟩, fun j hj => ?_⟩
  · cases ha
    refine ⟨G[i], 0, rfl, by simp, fun j hj => ⟨[u8v m[i][j]], rfl, fun q hq => ?_⟩⟩
    obtain ⟨h3, _⟩ := h.rowCell hi hj
    obtain rfl : q = 0 := by simp at hq; omega
    simpa [u8E] using h3
  · obtain rfl : j = 0 := by simp at hj; omega
    simpa [slE] using h1
end
theorem own_heap {base : Nat} {e : TypeId} {w : World} {b n : Nat} {us : List Value} (h : w.ownsRow base e 1 (.slice (some ⟨b, 0, none⟩) n n) n us) : w.heap[b]? = some (.cells us.toArray e (0, 0)) := by
  rcases h.2 with ⟨h, _⟩ | ⟨g, c, cur, hv, hb, hg, hn, hm, hcs, ht⟩
  · cases h
  · simp only [Value.slice.injEq, Option.some.injEq, Addr.mk.injEq, and_true, true_and] at hv
    obtain ⟨rfl, rfl⟩ := hv
    have hl : cur.toList.length = n := by simpa using hcs
    rw [hg, ← ht, Nat.mul_one, List.take_of_length_le (by omega)]
/-- 'make([]T, n)' of one-cell elements: the block. -/
theorem wpList_make_cells {Pr : Program} {w w0 : World} {e : TypeId} {ops : Array Oper} {rest : List Oper} {o : Oper} {a : Act} {Q : Exit → Act → World → Prop} {n : Nat} (hgd : o.guard = none) (l c : Operand) (t : TypeId) (hop : o.op = Op.makeSlice t l c)
    {i : TypeInfo} {z u : Value} {bytes : Nat} (ht : Pr.underlying t = some (.slice e)) (hi : Pr.info? e = some i) (hz : i.zero = some z) (hsize : i.size = 1) (hby : i.bytes = bytes) (hzc : z.cells = #[u])
    (hl : a.eval l = .int .i64 (n : Int)) (hc : a.eval c = .int .i64 (n : Int)) (hsmall : n * (bytes + 1) ≤ 140737488355328) (hb : Below w0.heap.size w0 w)
    (h : ∀ w', w'.heap[w.heap.size]? = some (.cells (List.replicate n u).toArray e (0, 0)) → Below w0.heap.size w0 w' → (∀ k, k < w.heap.size → w'.heap[k]? = w.heap[k]?) → w.heap.size < w'.heap.size → wpList Pr ops Q rest (a.put o.dst (.slice (some ⟨w.heap.size, 0, none⟩) n n)) w') :
    wpList Pr ops Q (o :: rest) a w := by
  have e1 : n * (bytes + 1) = n * bytes + n := by rw [Nat.mul_add, Nat.mul_one]
  have hsz0 := hb.size
  refine wpList_make_full w hgd l c t hop w0.heap.size e i z 1 ht hi hz hsize .i64 .i64 n n n hl hc rfl rfl ?_ ?_ hsz0 fun w' h1 h2 => ?_
  · rw [hby, Nat.mul_comm]; omega
  · unfold maxLen; omega
  · rw [Nat.mul_one, hzc, madeCells_one] at h1
    have h3 := own_heap h1
    exact h w' h3 (hb.grown h2 hsz0 (fun k hk => by cases hk)) (fun k hk => h2.block k hk (by simp)) (Array.getElem?_eq_some_iff.1 h3).1
theorem OwnMat.made {base eT eR : Nat} {w : World} {g N : Nat} (h : w.heap[g]? = some (.cells (List.replicate N (Value.slice none 0 0)).toArray eT (0, 0))) (hb : base ≤ g) : OwnMat base eT eR w g N [] [] :=
  ⟨rfl, Nat.zero_le _, by simpa [tops] using h, by simp, by simpa using hb, fun i h1 _ => absurd h1 (Nat.not_lt_zero _)⟩
/-- 'copy' into a whole row of one's own. -/
theorem wpList_copy_row {Pr : Program} {w : World} {ops : Array Oper} {rest : List Oper} {o : Oper} {a : Act} {Q : Exit → Act → World → Prop} {n b c : Nat} {A : Option Addr} {cap eR : Nat} {S : Reg} {old xs : List UInt8} (hgd : o.guard = none) (d s : Operand) (dT sT : TypeId)
    (ho : o.op = .call { callee := .builtin .copy, args := #[d, s], argTypes := #[dT, sT] }) (elem : TypeId) (hu : Pr.underlying dT = some (.slice elem)) (hsz : (Pr.info? elem).map (·.size) = some 1)
    (hd : a.eval d = .slice (some ⟨b, 0, none⟩) n c) (hs : a.eval s = .slice A n cap) (hrow : w.heap[b]? = some (.cells (old.map u8v).toArray eR (0, 0))) (hold : old.length = n) (hsrc : Bytes S w A cap xs) (hn : xs.length = n)
    (h : ∀ w', w'.heap[b]? = some (.cells (xs.map u8v).toArray eR (0, 0)) → (∀ k, k ≠ b → w'.heap[k]? = w.heap[k]?) → (∀ B w0, Below B w0 w → B ≤ b → Below B w0 w') → w'.heap.size = w.heap.size → wpList Pr ops Q rest (a.put o.dst (goInt n)) w') :
    wpList Pr ops Q (o :: rest) a w := by
  by_cases h0 : n = 0
  · subst h0
    have e1 : xs = [] := List.eq_nil_of_length_eq_zero hn
    have e2 : old = [] := List.eq_nil_of_length_eq_zero hold
    subst e1; subst e2
    exact wpList_copy_nothing hgd d s dT sT ho elem hu hsz _ _ 0 c 0 cap hd hs rfl (h w hrow (fun _ _ => rfl) (fun _ _ h _ => h) rfl)
  · have hc := hsrc.1
    have hA := hsrc.2.2.1
    cases A with
    | none => have := hA rfl; omega
    | some ad =>
      obtain ⟨us, hl, hr, hcell⟩ := hsrc.cells rfl rfl
      have hus : us = xs.map u8v := by
        refine List.ext_getElem (by simp [hl]) fun i h1 h2 => ?_
        have := hr i h1 (by omega)
        rw [List.getElem_map]
        exact (List.cons.inj this).1
      subst hus
      have e1 : (xs.map u8v).length = n := by simp [hn]
      refine wpList_copy_own hgd d s dT sT ho elem hu hsz b 0 n c ad n cap hd hs _ eR hrow (xs.map u8v) (by rw [e1]; exact (Nat.min_self n).symm) hcell (by simp; omega) (fun v hv => ?_) ?_
      · obtain ⟨x, _, rfl⟩ := List.mem_map.1 hv; rfl
      · rw [e1]
        have e2 : ((old.map u8v).toArray.toList.take 0 ++ (xs.map u8v ++ (old.map u8v).toArray.toList.drop (0 + n))) = xs.map u8v := by
          simp only [List.take_zero, List.nil_append, Nat.zero_add]
          rw [List.drop_of_length_le (by simp; omega), List.append_nil]
        rw [e2]
        refine h _ (setRow_heap w b _ _ eR _ hrow) (fun k hk => setRow_other w b k _ hk) (fun B w0 hb hB => below_setRow hb hB _) (by simp [World.setRow])
/-- A row is written anew, in its block. -/
theorem OwnMat.setRow {base eT eR : Nat} {w w' : World} {g N : Nat} {G : List Nat} {m : List (List UInt8)} (h : OwnMat base eT eR w g N G m) {i : Nat} (hi : i < m.length) {b : Nat} (hb : b = G[i]'(by have := h.len; omega)) {xs : List UInt8} (hx : xs.length = m[i].length)
    (hrow : w'.heap[b]? = some (.cells (xs.map u8v).toArray eR (0, 0))) (hold : ∀ k ∈ g :: G, k ≠ b → w'.heap[k]? = w.heap[k]?) : OwnMat base eT eR w' g N G (m.set i xs) := by
  have hg : i < G.length := by have := h.len; omega
  subst hb
  refine ⟨by simp [h.len], by simpa using h.le, ?_, h.nodup, h.lo, fun k h1 h2 => ?_⟩
  · rw [hold g (by simp) (Ne.symm (h.gNe hg)), h.top]
    congr 3
    refine List.ext_getElem? fun k => ?_
    have hl := tops_length (N := N) h.len h.le
    have hl2 := tops_length (N := N) (m := m.set i xs) (by simpa using h.len) (by simpa using h.le)
    by_cases hk : k < m.length
    · rw [tops_get h.len hk, tops_get (by simpa using h.len) (by simpa using hk)]
      by_cases hik : i = k
      · subst hik; simp [hx]
      · simp [List.getElem_set_ne hik]
    · by_cases hkN : k < N
      · rw [tops_get_nil h.len (by omega) hkN, tops_get_nil (by simpa using h.len) (by simp; omega) hkN]
      · rw [List.getElem?_eq_none (by omega), List.getElem?_eq_none (by omega)]
  · simp only [List.length_set] at h2
    by_cases hik : i = k
    · subst hik
      simp only [List.getElem_set_self]; exact hrow
    · rw [hold _ (by simp) (h.ne h1 hg (Ne.symm hik)), List.getElem_set_ne hik]
      exact h.row k h1 h2
/-- A row, by name. -/
theorem OwnMat.at {base eT eR : Nat} {w : World} {g N : Nat} {G : List Nat} {M : List (List UInt8)} (h : OwnMat base eT eR w g N G M) {i b : Nat} {V : List UInt8} (hi : i < M.length) (hV : M[i] = V) (hb : G[i]? = some b) :
    w.cell? ⟨g, i, none⟩ = some (.slice (some ⟨b, 0, none⟩) V.length V.length) ∧ w.frozen? ⟨g, i, none⟩ = false ∧ (∀ j (hj : j < V.length), w.cell? ⟨b, j, none⟩ = some (u8v V[j]) ∧ w.frozen? ⟨b, j, none⟩ = false) ∧ b ≠ g ∧ base ≤ b := by
  have hg : i < G.length := by have := h.len; omega
  rw [List.getElem?_eq_getElem hg] at hb
  obtain rfl := Option.some.inj hb
  subst hV
  obtain ⟨h1, h2⟩ := h.topCell hi
  exact ⟨h1, h2, fun j hj => h.rowCell hi hj, h.gNe hg, h.lo _ (by simp)⟩
theorem OwnMat.setAt {base eT eR : Nat} {w : World} {g N : Nat} {G : List Nat} {M : List (List UInt8)} (h : OwnMat base eT eR w g N G M) {i b : Nat} {V : List UInt8} (hi : i < M.length) (hV : M[i] = V) (hb : G[i]? = some b) (j : Nat) (x : UInt8) :
    OwnMat base eT eR (w.setCell ⟨b, j, none⟩ (u8v x)) g N G (M.set i (V.set j x)) := by
  have hg : i < G.length := by have := h.len; omega
  rw [List.getElem?_eq_getElem hg] at hb
  obtain rfl := Option.some.inj hb
  subst hV
  exact h.setElem hi x rfl
theorem OwnMat.blockNe {base eT eR : Nat} {w : World} {g N : Nat} {G : List Nat} {M : List (List UInt8)} (h : OwnMat base eT eR w g N G M) {i j b b' : Nat} (hij : i ≠ j) (hb : G[i]? = some b) (hb' : G[j]? = some b') : b ≠ b' := by
  obtain ⟨hi, rfl⟩ := List.getElem?_eq_some_iff.1 hb
  obtain ⟨hj, rfl⟩ := List.getElem?_eq_some_iff.1 hb'
  exact h.ne hi hj hij
theorem OwnMat.cast {base eT eR : Nat} {w : World} {g N : Nat} {G : List Nat} {M M' : List (List UInt8)} (h : OwnMat base eT eR w g N G M) (e : M = M') : OwnMat base eT eR w g N G M' := e ▸ h
end Go.Q
