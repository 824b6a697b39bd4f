/-
  What strconv.Atoi does with a word that begins with a digit. No program.
-/
import Derived.Test.YtjfccohgkgcnfaaGreatDoorPc
import Derived.Lib.AtoiAll
namespace Go.Lx
open Go
theorem digit_prop {c : UInt8} : isDigit c = true ↔ (48 ≤ c.toNat ∧ c.toNat ≤ 57) := by
  simp only [isDigit, Bool.and_eq_true, decide_eq_true_eq, UInt8.le_iff_toNat_le]
  exact Iff.rfl
theorem parse_digits : ∀ (l : List UInt8) (acc u : Nat), Lib.parseUint10 acc l = .ok u → ∀ c ∈ l, isDigit c = true
  | [], _, _, _, c, h => by cases h
  | d :: r, acc, u, h, c, hc => by
    unfold Lib.parseUint10 at h
    by_cases hd : 48 ≤ d.toNat ∧ d.toNat ≤ 57
    · rw [if_pos hd] at h
      split at h
      · cases h
      · split at h
        · cases h
        · rcases List.mem_cons.1 hc with rfl | hc
          · exact digit_prop.2 hd
          · exact parse_digits r _ u h c hc
    · rw [if_neg hd] at h; cases h
theorem parse_ok : ∀ (d : List UInt8) (acc : Nat), (∀ c ∈ d, isDigit c = true) → (acc + 1) * 10 ^ d.length ≤ 10 ^ 18 → Lib.parseUint10 acc d = .ok (d.foldl (fun n c => 10 * n + (c.toNat - 48)) acc)
  | [], _, _, _ => rfl
  | c :: r, acc, hd, hb => by
    have hc := digit_prop.1 (hd c (by simp))
    have hp : 1 ≤ 10 ^ r.length := Nat.pow_pos (by decide : 0 < 10)
    have e : (acc + 1) * 10 ^ (c :: r).length = ((acc + 1) * 10) * 10 ^ r.length := by rw [List.length_cons, Nat.pow_succ, Nat.mul_assoc, Nat.mul_comm (10 ^ r.length) 10]
    rw [e] at hb
    have h10 : (acc + 1) * 10 ≤ 10 ^ 18 := Nat.le_trans (Nat.le_mul_of_pos_right _ hp) hb
    have h18 : (10 : Nat) ^ 18 = 1000000000000000000 := by decide
    rw [h18] at h10
    unfold Lib.parseUint10
    rw [if_pos hc, if_neg (by omega), if_neg (by omega)]
    have := parse_ok r (acc * 10 + (c.toNat - 48)) (fun x hx => hd x (by simp [hx])) (Nat.le_trans (Nat.mul_le_mul_right _ (by omega)) hb)
    rw [this, List.foldl_cons, Nat.mul_comm acc 10]
theorem atoi_ok {c : UInt8} {r : List UInt8} (hd : ∀ x ∈ c :: r, isDigit x = true) (hl : (c :: r).length ≤ 15) : Lib.atoiAll (c :: r) = .ok (numVal (c :: r) : Int) := by
  have hc := digit_prop.1 (hd c (by simp))
  have hp := parse_ok (c :: r) 0 hd (by
    have : 10 ^ (c :: r).length ≤ 10 ^ 15 := Nat.pow_le_pow_right (by omega) hl
    have h18 : (10 : Nat) ^ 18 = 1000 * 10 ^ 15 := by decide
    omega)
  have hlt : numVal (c :: r) < 10 ^ 18 := by
    have key : ∀ (d : List UInt8) (a : Nat), (∀ x ∈ d, isDigit x = true) → d.foldl (fun n c => 10 * n + (c.toNat - 48)) a < (a + 1) * 10 ^ d.length := by
      intro d
      induction d with
      | nil => intro a _; simp
      | cons x d ih =>
        intro a hx
        have h1 := digit_prop.1 (hx x (by simp))
        have h2 := ih (10 * a + (x.toNat - 48)) (fun y hy => hx y (by simp [hy]))
        rw [List.foldl_cons, List.length_cons, Nat.pow_succ]
        have h3 : (10 * a + (x.toNat - 48) + 1) * 10 ^ d.length ≤ ((a + 1) * 10) * 10 ^ d.length := Nat.mul_le_mul_right _ (by omega)
        have h4 : ((a + 1) * 10) * 10 ^ d.length = (a + 1) * (10 ^ d.length * 10) := by rw [Nat.mul_assoc, Nat.mul_comm 10]
        omega
    have h1 := key (c :: r) 0 hd
    have h2 : 10 ^ (c :: r).length ≤ 10 ^ 18 := Nat.pow_le_pow_right (by omega) (by omega)
    unfold numVal; omega
  have h18 : (10 : Nat) ^ 18 = 1000000000000000000 := by decide
  rw [h18] at hlt
  unfold Lib.atoiAll
  simp only
  rw [if_neg (by omega)]
  unfold Lib.parseMag
  rw [if_neg (by simp), hp]
  simp only
  have e : List.foldl (fun n c => 10 * n + (c.toNat - 48)) 0 (c :: r) = numVal (c :: r) := rfl
  rw [e, if_neg (by omega), if_neg (by omega), if_neg (by omega)]
theorem atoi_digits {c : UInt8} {r : List UInt8} {v : Int} (hc : isDigit c = true) (h : Lib.atoiAll (c :: r) = .ok v) : ∀ x ∈ c :: r, isDigit x = true := by
  have hb := digit_prop.1 hc
  unfold Lib.atoiAll at h
  simp only at h
  rw [if_neg (by omega)] at h
  cases hm : Lib.parseMag (c :: r) with
  | «syntax» => rw [hm] at h; cases h
  | range => rw [hm] at h; cases h
  | ok u =>
    unfold Lib.parseMag at hm
    rw [if_neg (by simp)] at hm
    exact parse_digits _ _ _ hm
end Go.Lx
