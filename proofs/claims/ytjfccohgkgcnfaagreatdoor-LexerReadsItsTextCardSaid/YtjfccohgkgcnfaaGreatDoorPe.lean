/-
  Plain facts that the walks of the lexer use.
-/
import Derived.Test.YtjfccohgkgcnfaaGreatDoorWe
import Derived.Test.YtjfccohgkgcnfaaGreatDoorPd
import Derived.Test.YtjfccohgkgcnfaaGreatDoorSh
namespace Go.Proofs.YtjfccohgkgcnfaaGreatDoor
open Go.RowKit Go.Q Go.Lx
theorem cls_word (c : UInt8) : isWord c = decide ((2 : Int) ≤ (cls c : Int)) := by
  unfold cls isWord
  cases h1 : isLetter c <;> cases h2 : isDigit c <;> simp
  split <;> decide
theorem getD_at (s : ByteArray) (j : Nat) (h : j < s.size) : s[j] = s.data.toList.getD j 0 := by
  have h2 : j < s.data.size := h
  rw [List.getD_eq_getElem?_getD, List.getElem?_eq_getElem (by simpa using h2)]
  simp [ByteArray.getElem_eq_getElem_data]
theorem wrapN {x : Int} {n : Nat} (h : x = n) (hn : n ≤ 4611686018427387904) : IntKind.i64.wrap x = (n : Int) := by
  subst h; rw [IntKind.wrap_i64]; omega
theorem idx_ne {r : List UInt8} : Lib.indexByte (35 :: r) 10 ≠ 0 := by
  have h := Lib.indexByte_ge r 10
  show (if ((35 : UInt8) == 10) = true then (0 : Int) else _) ≠ 0
  rw [if_neg (by decide)]
  split
  · decide
  · rename_i h2; simp only [beq_iff_eq] at h2; omega
theorem idx_feed : ∀ (r : List UInt8), (Lib.indexByte r 10 < 0 → skip true r = []) ∧ (∀ k : Nat, Lib.indexByte r 10 = (k : Int) → k ≤ r.length ∧ skip true r = skip false (r.drop k))
  | [] => ⟨fun _ => rfl, fun k h => by have : (-1 : Int) = k := h; omega⟩
  | b :: l => by
    have ih := idx_feed l
    have hge := Lib.indexByte_ge l 10
    have e : Lib.indexByte (b :: l) 10 = if (b == 10) = true then 0 else if (Lib.indexByte l 10 == -1) = true then -1 else Lib.indexByte l 10 + 1 := rfl
    rw [e, skip_true_cons]
    by_cases hb : b = 10
    · rw [if_pos (by rw [hb]; rfl), if_pos hb]
      refine ⟨fun h => absurd h (by decide), fun k h => ?_⟩
      obtain rfl : k = 0 := by omega
      exact ⟨by simp, by rw [hb]; rfl⟩
    · rw [if_neg (by simpa using hb), if_neg hb]
      by_cases hn : Lib.indexByte l 10 = -1
      · rw [if_pos (by rw [hn]; rfl)]
        exact ⟨fun _ => ih.1 (by omega), fun k h => by omega⟩
      · rw [if_neg (by simpa using hn)]
        refine ⟨fun h => by omega, fun k h => ?_⟩
        obtain ⟨h1, h2⟩ := ih.2 (k - 1) (by omega)
        have hk : k = (k - 1) + 1 := by omega
        refine ⟨by simp; omega, ?_⟩
        rw [hk, List.drop_succ_cons]; exact h2
theorem cls_blank (c : UInt8) (h : isBlank c = true) : cls c = 1 := by
  have h2 := blank_not_word (.inl h)
  unfold cls; rw [h2.2.2, h2.2.1, h]; rfl
theorem cls_not_blank (c : UInt8) (h : isBlank c = false) : ((cls c : Int) == 1) = false := by
  unfold cls; rw [h]; cases isLetter c <;> cases isDigit c <;> rfl
theorem digit_not_letter {c : UInt8} (h : isDigit c = true) : isLetter c = false := by
  cases hl : isLetter c with
  | false => rfl
  | true => rw [letter_iff] at hl; rw [digit_iff] at h; omega
theorem span_pos {s : ByteArray} {p j : Nat} (hp : p < s.size) (hpj : p ≤ j) (hall : AllIn isWord s p j) (hhd : headIs isWord ((bl s).drop j) = false) (hw : isWord s[p] = true) : p < j := by
  rcases Nat.lt_or_ge p j with h | h
  · exact h
  · obtain rfl : p = j := by omega
    rw [bl_drop s p hp] at hhd
    have : isWord s[p] = false := hhd
    rw [hw] at this; cases this
theorem first_eq {s x : ByteArray} {p n : Nat} (h : bl x = ((bl s).drop p).take n) (hx : 0 < x.size) (hp : p < s.size) : x[0] = s[p] := by
  have h1 := bl_drop x 0 hx
  rw [List.drop_zero, h, bl_drop s p hp] at h1
  cases n with
  | zero => simp at h1
  | succ n => rw [List.take_succ_cons] at h1; exact (List.cons.inj h1).1.symm
theorem number_code (r : List UInt8) : number r = .bad 27 ∨ ∃ v t, number r = .ok 2 [] v t := by
  unfold number; simp only; split
  · exact .inl rfl
  · exact .inr ⟨_, _, rfl⟩
theorem not_word_parts {x : List UInt8} (h : headIs isWord x = false) : headIs isDigit x = false ∧ headIs isLetter x = false := by
  cases x with
  | nil => exact ⟨rfl, rfl⟩
  | cons c r =>
    have h2 : isWord c = false := h
    simp only [isWord, Bool.or_eq_false_iff] at h2
    exact ⟨h2.2, h2.1⟩
/-- The word that begins with a digit, and the number there. -/
theorem number_word {s : ByteArray} {p j : Nat} (hp : p < s.size) (hpj : p ≤ j) (hj : j ≤ s.size) (hall : AllIn isWord s p j) (hhd : headIs isWord ((bl s).drop j) = false) (hd : isDigit s[p] = true) :
    ((∀ v, Lib.atoiAll (((bl s).drop p).take (j - p)) ≠ .ok v) → number ((bl s).drop p) = .bad 27) ∧
    (∀ v, Lib.atoiAll (((bl s).drop p).take (j - p)) = .ok v → (15 < j - p ∨ (1 < j - p ∧ s[p] = 48) → number ((bl s).drop p) = .bad 27) ∧
      (¬ 15 < j - p → ¬ (1 < j - p ∧ s[p] = 48) → number ((bl s).drop p) = .ok 2 [] v.toNat ((bl s).drop j) ∧ v = (v.toNat : Int))) := by
  have hlt := span_pos hp hpj hall hhd (by simp [isWord, hd])
  obtain ⟨hn1, hn2⟩ := not_word_parts hhd
  have hW : ((bl s).drop p).take (j - p) = s[p] :: ((bl s).drop (p + 1)).take (j - p - 1) := by
    rw [bl_drop s p hp, show j - p = (j - p - 1) + 1 by omega, List.take_succ_cons]; simp
  refine ⟨fun hno => ?_, fun v hv => ?_⟩
  · rcases number_code ((bl s).drop p) with h | ⟨v, t, h⟩
    · exact h
    · exfalso
      obtain ⟨d, _, _, hv, e, h1, h2, h3, h4, _⟩ := number_parts h
      have hw := hall.while hpj hhd
      have ht : headIs isWord t = false := by
        cases t with
        | nil => rfl
        | cons c r => show isWord c = false; simp only [isWord, Bool.or_eq_false_iff]; exact ⟨h3, h2⟩
      have hw2 := takeWhile_app isWord d t (fun c hc => by simp [isWord, h1 c hc]) ht
      rw [← e] at hw2
      have hdW : d = ((bl s).drop p).take (j - p) := by rw [← hw.1, hw2.1]
      rw [hdW] at h1 h4
      rw [hW] at h1 h4
      exact hno _ (by rw [hW]; exact atoi_ok h1 h4)
  · have hdig := by rw [hW] at hv; exact atoi_digits hd hv
    have hdig2 : AllIn isDigit s p j := by intro c hc; rw [hW] at hc; exact hdig c hc
    have hw := hdig2.while hpj hn1
    have hlen := take_len s p j hpj hj
    refine ⟨fun hbad => ?_, fun h15 hz => ?_⟩
    · rcases hbad with h | ⟨h1, h2⟩
      · exact number_bad hw hlen (.inl h)
      · exact number_bad hw hlen (.inr (.inl ⟨h1, by rw [bl_drop s p hp]; exact beq_iff_eq.2 h2⟩))
    · have hok : Lib.atoiAll (((bl s).drop p).take (j - p)) = .ok (numVal (((bl s).drop p).take (j - p)) : Int) := by
        rw [hW]
        refine atoi_ok hdig ?_
        rw [← hW, hlen]; omega
      rw [hok] at hv
      have hvv : (numVal (((bl s).drop p).take (j - p)) : Int) = v := by injection hv
      subst hvv
      exact ⟨number_good hpj hj (by omega) hdig2 hn1 hn2 (fun h => by rw [bl_drop s p hp]; exact beq_eq_false_iff_ne.2 fun e => hz ⟨h, e⟩), rfl⟩
end Go.Proofs.YtjfccohgkgcnfaaGreatDoor
