/-
  Sums over the field of 256 elements, spans of rows, reduced forms and their uniqueness. Plain Lean, no program.
-/
import Derived.Test.YtokclgjkdpjjfaaDoorSpec
namespace Go.Q
theorem xx (a : UInt8) : a ^^^ a = 0 := UInt8.xor_self
theorem x4 (a b c d : UInt8) : (a ^^^ b) ^^^ (c ^^^ d) = (a ^^^ c) ^^^ (b ^^^ d) := by
  rw [UInt8.xor_assoc, ← UInt8.xor_assoc b, UInt8.xor_comm b c, UInt8.xor_assoc c, ← UInt8.xor_assoc]
theorem x_eq {a b : UInt8} : a ^^^ b = 0 ↔ a = b := by
  constructor
  · intro h
    have : (a ^^^ b) ^^^ b = 0 ^^^ b := by rw [h]
    rwa [UInt8.xor_assoc, xx, UInt8.xor_zero, UInt8.zero_xor] at this
  · rintro rfl; exact xx a
theorem x_cancel (a b : UInt8) : (a ^^^ b) ^^^ b = a := by rw [UInt8.xor_assoc, xx, UInt8.xor_zero]
theorem gmul_eq_zero {a b : UInt8} (h : gmul a b = 0) : a = 0 ∨ b = 0 := by
  by_cases ha : a = 0
  · exact .inl ha
  · refine .inr ?_
    have h2 : gmul (gmul a b) (ginv a) = 0 := by rw [h, zero_gmul]
    rw [gmul_comm a b, gmul_assoc, gmul_ginv ha, gmul_one] at h2
    exact h2
/-- The sum of the first n values. -/
def xsum : Nat → (Nat → UInt8) → UInt8
  | 0, _ => 0
  | n + 1, f => xsum n f ^^^ f n
theorem xsum_congr {f g : Nat → UInt8} : ∀ {n : Nat}, (∀ k, k < n → f k = g k) → xsum n f = xsum n g
  | 0, _ => rfl
  | n + 1, h => by rw [xsum, xsum, xsum_congr (fun k hk => h k (by omega)), h n (by omega)]
theorem xsum_zero : ∀ n, xsum n (fun _ => 0) = 0
  | 0 => rfl
  | n + 1 => by simp only [xsum, xsum_zero n]; decide
theorem xsum_zero' {f : Nat → UInt8} {n : Nat} (h : ∀ k, k < n → f k = 0) : xsum n f = 0 := by rw [xsum_congr h, xsum_zero]
theorem xsum_add (f g : Nat → UInt8) : ∀ n, xsum n (fun k => f k ^^^ g k) = xsum n f ^^^ xsum n g
  | 0 => by simp only [xsum]; decide
  | n + 1 => by rw [xsum, xsum_add f g n, xsum, xsum, x4]
theorem xsum_mul (a : UInt8) (f : Nat → UInt8) : ∀ n, xsum n (fun k => gmul a (f k)) = gmul a (xsum n f)
  | 0 => by rw [xsum, xsum, gmul_zero]
  | n + 1 => by rw [xsum, xsum_mul a f n, xsum, gmul_add]
theorem xsum_mul' (a : UInt8) (f : Nat → UInt8) (n : Nat) : xsum n (fun k => gmul (f k) a) = gmul (xsum n f) a := by
  rw [gmul_comm (xsum n f), ← xsum_mul]; exact xsum_congr fun k _ => gmul_comm _ _
theorem xsum_comm (f : Nat → Nat → UInt8) (n : Nat) : ∀ m, xsum m (fun i => xsum n (fun j => f i j)) = xsum n (fun j => xsum m (fun i => f i j))
  | 0 => by simp only [xsum]; rw [xsum_zero]
  | m + 1 => by simp only [xsum]; rw [xsum_comm f n m, xsum_add]
theorem xsum_single {f : Nat → UInt8} {n k : Nat} (hk : k < n) (h : ∀ j, j < n → j ≠ k → f j = 0) : xsum n f = f k := by
  induction n with
  | zero => omega
  | succ n ih =>
    rw [xsum]
    by_cases e : k = n
    · subst e
      rw [xsum_zero' (fun j hj => h j (by omega) (by omega)), UInt8.zero_xor]
    · rw [ih (by omega) (fun j hj hne => h j (by omega) hne), h n (by omega) (fun e2 => e e2.symm), UInt8.xor_zero]
theorem xsum_ne {f : Nat → UInt8} {n : Nat} (h : xsum n f ≠ 0) : ∃ k, k < n ∧ f k ≠ 0 := by
  refine Decidable.byContradiction fun hn => h (xsum_zero' fun k hk => Decidable.byContradiction fun h2 => hn ⟨k, hk, h2⟩)
theorem xsum_le {f : Nat → UInt8} {n m : Nat} (hnm : n ≤ m) (h : ∀ k, n ≤ k → k < m → f k = 0) : xsum m f = xsum n f := by
  induction m with
  | zero => obtain rfl : n = 0 := by omega
            rfl
  | succ m ih =>
    by_cases e : n = m + 1
    · rw [e]
    · rw [xsum, ih (by omega) (fun k h1 h2 => h k h1 (by omega)), h m (by omega) (by omega), UInt8.xor_zero]
abbrev Mx := Nat → Nat → UInt8
/-- The element. -/
def el (m : List (List UInt8)) : Mx := fun i k => (m.getD i []).getD k 0
/-- v is, in its first n elements, a combination of the first r rows. -/
def InSp (r n : Nat) (M : Mx) (v : Nat → UInt8) : Prop := ∃ l : Nat → UInt8, ∀ c, c < n → v c = xsum r (fun k => gmul (l k) (M k c))
def SpLe (r : Nat) (M : Mx) (r' : Nat) (M' : Mx) (n : Nat) : Prop := ∀ k, k < r → InSp r' n M' (M k)
section
variable {r r' r'' n : Nat} {M M' M'' : Mx} {v u : Nat → UInt8}
theorem InSp.row {k : Nat} (hk : k < r) : InSp r n M (M k) :=
  ⟨fun j => if j = k then 1 else 0, fun c _ => by
    rw [xsum_single hk (fun j _ hj => by simp only [if_neg hj, zero_gmul])]; simp only [if_true, one_gmul]⟩
theorem SpLe.refl : SpLe r M r M n := fun _ hk => InSp.row hk
theorem InSp.congr (h : InSp r n M v) (e : ∀ c, c < n → u c = v c) : InSp r n M u := by
  obtain ⟨l, hl⟩ := h
  exact ⟨l, fun c hc => by rw [e c hc, hl c hc]⟩
theorem InSp.add (h : InSp r n M v) (h' : InSp r n M u) : InSp r n M (fun c => v c ^^^ u c) := by
  obtain ⟨l, hl⟩ := h
  obtain ⟨l', hl'⟩ := h'
  refine ⟨fun k => l k ^^^ l' k, fun c hc => ?_⟩
  show v c ^^^ u c = _
  rw [hl c hc, hl' c hc, ← xsum_add]
  exact xsum_congr fun k _ => (add_gmul _ _ _).symm
theorem InSp.smul (a : UInt8) (h : InSp r n M v) : InSp r n M (fun c => gmul a (v c)) := by
  obtain ⟨l, hl⟩ := h
  refine ⟨fun k => gmul a (l k), fun c hc => ?_⟩
  show gmul a (v c) = _
  rw [hl c hc, ← xsum_mul]
  exact xsum_congr fun k _ => (gmul_assoc _ _ _).symm
theorem InSp.trans (h : InSp r n M v) (h' : SpLe r M r' M' n) : InSp r' n M' v := by
  obtain ⟨l, hl⟩ := h
  have hex : ∀ k, ∃ l' : Nat → UInt8, k < r → ∀ c, c < n → M k c = xsum r' (fun j => gmul (l' j) (M' j c)) := fun k => by
    by_cases hk : k < r
    · obtain ⟨l', h1⟩ := h' k hk; exact ⟨l', fun _ => h1⟩
    · exact ⟨fun _ => 0, fun h => absurd h hk⟩
  refine ⟨fun j => xsum r (fun k => gmul (l k) (Classical.choose (hex k) j)), fun c hc => ?_⟩
  rw [hl c hc]
  have e1 : ∀ k, k < r → gmul (l k) (M k c) = xsum r' (fun j => gmul (gmul (l k) (Classical.choose (hex k) j)) (M' j c)) := fun k hk => by
    rw [Classical.choose_spec (hex k) hk c hc, ← xsum_mul]
    exact xsum_congr fun j _ => (gmul_assoc _ _ _).symm
  rw [xsum_congr e1, xsum_comm]
  exact xsum_congr fun j _ => xsum_mul' _ _ _
theorem SpLe.trans (h : SpLe r M r' M' n) (h' : SpLe r' M' r'' M'' n) : SpLe r M r'' M'' n := fun k hk => (h k hk).trans h'
end
/-- A reduced form: pivots, in order, with unit columns, and zeros before them. -/
structure Rref (n : Nat) (R : Mx) (P : List Nat) : Prop where
  inc : P.Pairwise (· < ·)
  lt : ∀ p ∈ P, p < n
  one : ∀ k j, k < P.length → (hj : j < P.length) → R k P[j] = if k = j then 1 else 0
  lead : ∀ k (hk : k < P.length), ∀ c, c < P[k] → R k c = 0
theorem inc_inj {P : List Nat} (h : P.Pairwise (· < ·)) {i j : Nat} (hi : i < P.length) (hj : j < P.length) (e : P[i] = P[j]) : i = j := by
  have h' := List.pairwise_iff_getElem.1 h
  rcases Nat.lt_trichotomy i j with hl | hl | hl
  · have := h' i j hi hj hl; omega
  · exact hl
  · have := h' j i hj hi hl; omega
/-- Ordered lists, the one's numbers among the other's. -/
theorem inc_le : ∀ {P P' : List Nat}, P.Pairwise (· < ·) → P'.Pairwise (· < ·) → (∀ p ∈ P, p ∈ P') → P.length ≤ P'.length
  | [], _, _, _, _ => Nat.zero_le _
  | p :: P, [], _, _, h => by have := h p (by simp); simp at this
  | p :: P, q :: P', h1, h2, h => by
    have h1' := List.pairwise_cons.1 h1
    have h2' := List.pairwise_cons.1 h2
    by_cases e : p = q
    · subst e
      have := inc_le h1'.2 h2'.2 (fun x hx => by
        have := h x (by simp [hx])
        rcases List.mem_cons.1 this with rfl | h3
        · have := h1'.1 x hx; omega
        · exact h3)
      simp; omega
    · have hp : p ∈ P' := by
        rcases List.mem_cons.1 (h p (by simp)) with h3 | h3
        · exact absurd h3 e
        · exact h3
      have hqp := h2'.1 p hp
      have := inc_le (P := p :: P) (P' := P') h1 h2'.2 (fun x hx => by
        rcases List.mem_cons.1 (h x hx) with rfl | h3
        · rcases List.mem_cons.1 hx with rfl | h4
          · omega
          · have := h1'.1 x h4; omega
        · exact h3)
      simp at this ⊢; omega
theorem inc_eq : ∀ {P P' : List Nat}, P.Pairwise (· < ·) → P'.Pairwise (· < ·) → (∀ p, p ∈ P ↔ p ∈ P') → P = P'
  | [], [], _, _, _ => rfl
  | [], q :: P', _, _, h => by have := (h q).2 (by simp); simp at this
  | p :: P, [], _, _, h => by have := (h p).1 (by simp); simp at this
  | p :: P, q :: P', h1, h2, h => by
    have h1' := List.pairwise_cons.1 h1
    have h2' := List.pairwise_cons.1 h2
    have e : p = q := by
      rcases List.mem_cons.1 ((h p).1 (by simp)) with h3 | h3
      · exact h3
      · rcases List.mem_cons.1 ((h q).2 (by simp)) with h4 | h4
        · exact h4.symm
        · have := h1'.1 q h4; have := h2'.1 p h3; omega
    subst e
    rw [inc_eq h1'.2 h2'.2 (fun x => ?_)]
    constructor
    · intro hx
      rcases List.mem_cons.1 ((h x).1 (by simp [hx])) with rfl | h3
      · have := h1'.1 x hx; omega
      · exact h3
    · intro hx
      rcases List.mem_cons.1 ((h x).2 (by simp [hx])) with rfl | h3
      · have := h2'.1 x hx; omega
      · exact h3
section
variable {r r' n : Nat} {M M' R R' : Mx} {P P' : List Nat} {v : Nat → UInt8}
/-- The coefficients stand at the pivots. -/
theorem Rref.coef (h : Rref n R P) (hv : InSp P.length n R v) : ∀ c, c < n → v c = xsum P.length (fun k => gmul (v (P.getD k 0)) (R k c)) := by
  obtain ⟨l, hl⟩ := hv
  have hat : ∀ k, k < P.length → v (P.getD k 0) = l k := fun k hk => by
    rw [getD_lt _ _ hk, hl _ (h.lt _ (List.getElem_mem hk)), xsum_single hk (fun j hj hne => by rw [h.one j k hj hk, if_neg hne, gmul_zero]), h.one k k hk hk, if_pos rfl, gmul_one]
  intro c hc
  rw [hl c hc]
  exact xsum_congr fun k hk => by rw [hat k hk]
theorem Rref.zero (h : Rref n R P) (hv : InSp P.length n R v) (h0 : ∀ p ∈ P, v p = 0) : ∀ c, c < n → v c = 0 := by
  intro c hc
  rw [h.coef hv c hc]
  exact xsum_zero' fun k hk => by rw [getD_lt _ _ hk, h0 _ (List.getElem_mem hk), zero_gmul]
/-- A leading column. -/
def LeadC (n : Nat) (v : Nat → UInt8) (c : Nat) : Prop := c < n ∧ v c ≠ 0 ∧ ∀ c', c' < c → v c' = 0
theorem Rref.leadMem (h : Rref n R P) (hv : InSp P.length n R v) {c : Nat} (hc : LeadC n v c) : c ∈ P := by
  obtain ⟨h1, h2, h3⟩ := hc
  rw [h.coef hv c h1] at h2
  obtain ⟨k, hk, hne⟩ := xsum_ne h2
  rw [getD_lt _ _ hk] at hne
  have ha : v P[k] ≠ 0 := fun e => hne (by rw [e, zero_gmul])
  have hb : R k c ≠ 0 := fun e => hne (by rw [e, gmul_zero])
  have h4 : ¬ P[k] < c := fun h => ha (h3 _ h)
  have h5 : ¬ c < P[k] := fun h' => hb (h.lead k hk c h')
  have : c = P[k] := by omega
  rw [this]; exact List.getElem_mem hk
theorem Rref.rowLead (h : Rref n R P) {k : Nat} (hk : k < P.length) : LeadC n (R k) P[k] :=
  ⟨h.lt _ (List.getElem_mem hk), by rw [h.one k k hk hk, if_pos rfl]; decide, h.lead k hk⟩
theorem Rref.sub (h : Rref n R P) (h' : Rref n R' P') (hs : SpLe P.length R P'.length R' n) : ∀ p ∈ P, p ∈ P' := by
  intro p hp
  obtain ⟨k, hk, rfl⟩ := List.getElem_of_mem hp
  exact h'.leadMem (hs k hk) (h.rowLead hk)
theorem Rref.rankLe (h : Rref n R P) (h' : Rref n R' P') (hs : SpLe P.length R P'.length R' n) : P.length ≤ P'.length := inc_le h.inc h'.inc (h.sub h' hs)
theorem Rref.same (h : Rref n R P) (h' : Rref n R' P') (hs : SpLe P.length R P'.length R' n) (hs' : SpLe P'.length R' P.length R n) : P = P' ∧ ∀ k, k < P.length → ∀ c, c < n → R k c = R' k c := by
  have e : P = P' := inc_eq h.inc h'.inc fun p => ⟨h.sub h' hs p, h'.sub h hs' p⟩
  subst e
  refine ⟨rfl, fun k hk c hc => ?_⟩
  rw [h'.coef (hs k hk) c hc, xsum_single hk (fun j hj hne => by rw [getD_lt _ _ hj, h.one k j hk hj, if_neg (Ne.symm hne), zero_gmul]), getD_lt _ _ hk, h.one k k hk hk, if_pos rfl, one_gmul]
/-- The same rank, the one below the other: the same span. -/
theorem Rref.back (h : Rref n R P) (h' : Rref n R' P') (hs : SpLe P.length R P'.length R' n) (hr : P'.length ≤ P.length) : SpLe P'.length R' P.length R n := by
  have hsub := h.sub h' hs
  have e : P = P' := by
    refine inc_eq h.inc h'.inc fun p => ⟨hsub p, fun hp => Decidable.byContradiction fun hn => ?_⟩
    have hle : P.length ≤ (P'.filter (· ≠ p)).length := inc_le h.inc (List.Pairwise.filter _ h'.inc) (fun q hq => List.mem_filter.2 ⟨hsub q hq, by simpa using fun e => hn (by rw [← e]; exact hq)⟩)
    have hlt : (P'.filter (· ≠ p)).length < P'.length := List.length_filter_lt_length_iff_exists.2 ⟨p, hp, by simp⟩
    omega
  subst e
  intro k hk
  have : ∀ c, c < n → R' k c = R k c := by
    intro c hc
    rw [h'.coef (hs k hk) c hc, xsum_single hk (fun j hj hne => by rw [getD_lt _ _ hj, h.one k j hk hj, if_neg (Ne.symm hne), zero_gmul]), getD_lt _ _ hk, h.one k k hk hk, if_pos rfl, one_gmul]
  exact (InSp.row hk).congr this
end
end Go.Q
