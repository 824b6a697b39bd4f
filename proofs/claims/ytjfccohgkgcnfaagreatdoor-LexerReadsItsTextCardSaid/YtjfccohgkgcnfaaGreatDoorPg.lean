/-
  Plain facts for examples: what is read by running; line feeds and wide characters. No program.
-/
import Derived.Test.YtjfccohgkgcnfaaGreatDoorPf
import Derived.Laws.RangeAny
namespace Go.Lx
theorem toks_run (n : Nat) : ∀ (f : Nat) (r : List UInt8), r.length ≤ f → (∀ l, toks n f r = .ok l → Good n r l) ∧ ∀ p e, toks n f r = .error (p, e) → Bad n r p e
  | 0, r, h => by
    obtain rfl := List.eq_nil_of_length_eq_zero (Nat.le_zero.1 h)
    refine ⟨fun l hl => ?_, fun p e he => ?_⟩
    · unfold toks at hl; cases hl; exact .fin
    · unfold toks at he; cases he
  | f + 1, r, h => by
    cases r with
    | nil =>
      refine ⟨fun l hl => ?_, fun p e he => ?_⟩
      · unfold toks at hl; cases hl; exact .fin
      · unfold toks at he; cases he
    | cons c r0 =>
      unfold toks
      simp only
      cases ht : tok (c :: r0) with
      | bad e1 =>
        refine ⟨fun l hl => (by cases hl), fun p e he => ?_⟩
        cases he; exact .here (by simp) ht
      | ok k s v t =>
        have h1 := tok_len ht
        have h2 := skip_len false t
        have ih := toks_run n f (skip false t) (by omega)
        simp only
        cases hx : toks n f (skip false t) with
        | error x =>
          refine ⟨fun l hl => (by cases hl), fun p e he => ?_⟩
          obtain ⟨p1, e1⟩ := x
          cases he; exact .later ht (ih.2 _ _ hx)
        | ok l1 =>
          refine ⟨fun l hl => ?_, fun p e he => (by cases he)⟩
          cases hl; exact .cons ht (ih.1 _ hx)
theorem tokens_good {l : List UInt8} {ts : List Tok} (h : tokens l = .ok ts) : Good l.length (skip false l) ts := (toks_run _ _ _ (skip_len false l)).1 _ h
theorem tokens_bad {l : List UInt8} {p e : Nat} (h : tokens l = .error (p, e)) : Bad l.length (skip false l) p e := (toks_run _ _ _ (skip_len false l)).2 _ _ h
end Go.Lx
namespace Go.Proofs.YtjfccohgkgcnfaaGreatDoor
open Go.RowKit Go.Q Go.Lx
/-- Behind a wide character's first byte no line feed stands within it. -/
theorem wide_plain (s : ByteArray) (pos : Nat) (h : pos < s.size) (ha : 128 ≤ (s[pos]'h).toNat) : pos + (Utf8.decode s pos).2 ≤ s.size ∧ ∀ k (hk : k < s.size), pos ≤ k → k < pos + (Utf8.decode s pos).2 → 128 ≤ (s[k]'hk).toNat := by
  have hn : ¬ (s[pos]'h).toNat < 128 := by omega
  have gk : ∀ k (hk : pos + k < s.size), s.get! (pos + k) = s[pos + k]'hk := fun k hk => get_at s (pos + k) hk
  have cont : ∀ k, (decide (pos + k < s.size) && ((s.get! (pos + k)).toNat / 64 == 2)) = true → pos + k < s.size ∧ ∀ (hk : pos + k < s.size), 128 ≤ (s[pos + k]'hk).toNat := by
    intro k hc
    simp only [Bool.and_eq_true, decide_eq_true_eq, beq_iff_eq] at hc
    refine ⟨hc.1, fun hk => ?_⟩
    rw [← gk k hk]; omega
  have fin : ∀ w, pos + w ≤ s.size → (∀ j, j < w → 0 < j → ∀ (hk : pos + j < s.size), 128 ≤ (s[pos + j]'hk).toNat) → pos + w ≤ s.size ∧ ∀ k (hk : k < s.size), pos ≤ k → k < pos + w → 128 ≤ (s[k]'hk).toNat := by
    intro w hw hj
    refine ⟨hw, fun k hk h1 h2 => ?_⟩
    obtain ⟨j, rfl⟩ : ∃ j, k = pos + j := ⟨k - pos, by omega⟩
    by_cases hj0 : j = 0
    · subst hj0; exact ha
    · exact hj j (by omega) (by omega) hk
  have one : pos + 1 ≤ s.size ∧ ∀ k (hk : k < s.size), pos ≤ k → k < pos + 1 → 128 ≤ (s[k]'hk).toNat := fin 1 (by omega) fun j hj h0 => by omega
  simp only [Utf8.decode, get_at s pos h, hn, if_false]
  split
  · rename_i hc
    rw [Bool.and_eq_true] at hc
    have c1 := cont 1 hc.2
    split
    · exact fin 2 (by omega) fun j hj h0 hk => by
        obtain rfl : j = 1 := by omega
        exact c1.2 hk
    · exact one
  · split
    · rename_i hc
      rw [Bool.and_eq_true, Bool.and_eq_true] at hc
      have c1 := cont 1 hc.1.2
      have c2 := cont 2 hc.2
      split
      · exact fin 3 (by omega) fun j hj h0 hk => by
          obtain rfl | rfl : j = 1 ∨ j = 2 := by omega
          · exact c1.2 hk
          · exact c2.2 hk
      · exact one
    · split
      · rename_i hc
        rw [Bool.and_eq_true, Bool.and_eq_true, Bool.and_eq_true] at hc
        have c1 := cont 1 hc.1.1.2
        have c2 := cont 2 hc.1.2
        have c3 := cont 3 hc.2
        split
        · exact fin 4 (by omega) fun j hj h0 hk => by
            obtain rfl | rfl | rfl : j = 1 ∨ j = 2 ∨ j = 3 := by omega
            · exact c1.2 hk
            · exact c2.2 hk
            · exact c3.2 hk
        · exact one
      · exact one
/-- Bytes without a line feed move the column alone. -/
theorem posOf_plain_aux (n : Nat) : ∀ (l : List UInt8) (a : Nat × Nat), l.length = n → (∀ c ∈ l, c ≠ 10) → l.foldl (fun a c => if c = 10 then (a.1 + 1, 1) else (a.1, a.2 + 1)) a = (a.1, a.2 + n) := by
  induction n with
  | zero =>
    intro l a h _
    obtain rfl := List.eq_nil_of_length_eq_zero h
    rfl
  | succ n ih =>
    intro l a h hc
    cases l with
    | nil => cases h
    | cons c l =>
      rw [List.foldl_cons, if_neg (hc c (by simp)), ih l _ (by simpa using h) (fun d hd => hc d (by simp [hd]))]
      simp only [Prod.mk.injEq, true_and]; omega
end Go.Proofs.YtjfccohgkgcnfaaGreatDoor
