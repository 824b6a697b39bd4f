/-
  The walks of the lexer's and of the reference's small functions: class, letter, digit, pair.
-/
import Derived.Test.YtjfccohgkgcnfaaGreatDoorChecked
import Derived.Test.YtjfccohgkgcnfaaGreatDoorRa
import Derived.WalkKit
namespace Go.Proofs.YtjfccohgkgcnfaaGreatDoor
open Go.RowKit Go.Q Go.Lx
variable {w : World}
def cls (c : UInt8) : Nat := if isLetter c then 3 else if isDigit c then 2 else if isBlank c then 1 else 0
theorem letter_iff (c : UInt8) : isLetter c = true ↔ ((97 ≤ (c.toNat : Int) ∧ (c.toNat : Int) ≤ 122) ∨ (65 ≤ (c.toNat : Int) ∧ (c.toNat : Int) ≤ 90) ∨ (c.toNat : Int) = 95) := by
  have e : c = 95 ↔ c.toNat = 95 := by rw [← UInt8.toNat_inj]; rfl
  simp only [isLetter, Bool.or_eq_true, Bool.and_eq_true, decide_eq_true_eq, UInt8.le_iff_toNat_le, beq_iff_eq, e]
  have a1 : (97 : UInt8).toNat = 97 := rfl
  have a2 : (122 : UInt8).toNat = 122 := rfl
  have a3 : (65 : UInt8).toNat = 65 := rfl
  have a4 : (90 : UInt8).toNat = 90 := rfl
  rw [a1, a2, a3, a4]; omega
theorem digit_iff (c : UInt8) : isDigit c = true ↔ (48 ≤ (c.toNat : Int) ∧ (c.toNat : Int) ≤ 57) := by
  simp only [isDigit, Bool.and_eq_true, decide_eq_true_eq, UInt8.le_iff_toNat_le]
  have a1 : (48 : UInt8).toNat = 48 := rfl
  have a2 : (57 : UInt8).toNat = 57 := rfl
  rw [a1, a2]; omega
theorem eq_iff (c d : UInt8) : c = d ↔ (c.toNat : Int) = (d.toNat : Int) := by rw [← UInt8.toNat_inj]; omega
theorem blank_iff (c : UInt8) : isBlank c = true ↔ ((c.toNat : Int) = 32 ∨ (c.toNat : Int) = 9 ∨ (c.toNat : Int) = 10 ∨ (c.toNat : Int) = 13) := by
  simp only [isBlank, Bool.or_eq_true, beq_iff_eq, eq_iff]
  have a1 : ((32 : UInt8).toNat : Int) = 32 := rfl
  have a2 : ((9 : UInt8).toNat : Int) = 9 := rfl
  have a3 : ((10 : UInt8).toNat : Int) = 10 := rfl
  have a4 : ((13 : UInt8).toNat : Int) = 13 := rfl
  rw [a1, a2, a3, a4]; omega
theorem refDigit (c : UInt8) : Calls Tryz.prog 38 #[.int .u8 (c.toNat : Int)] w fun e w' => e = .returned (.bool (isDigit c)) ∧ w' = w := by
  go_enter Tryz.func38, Tryz.ntmps38
  go_wp2
  all_goals
    go_ret
    refine ⟨ret_bool ?_, rfl⟩
    rw [Bool.eq_iff_iff]
    simp only [digit_iff, decide_eq_true_eq, reduceCtorEq, false_iff]
    omega
theorem refLetter (c : UInt8) : Calls Tryz.prog 36 #[.int .u8 (c.toNat : Int)] w fun e w' => e = .returned (.bool (isLetter c)) ∧ w' = w := by
  go_enter Tryz.func36, Tryz.ntmps36
  go_wp2
  all_goals
    go_ret
    refine ⟨ret_bool ?_, rfl⟩
    rw [Bool.eq_iff_iff]
    simp only [letter_iff, Bool.or_eq_true, decide_eq_true_eq, beq_iff_eq, true_iff]
    omega
theorem cls_int (c : UInt8) : (cls c : Int) = if ((97 ≤ (c.toNat : Int) ∧ (c.toNat : Int) ≤ 122) ∨ (65 ≤ (c.toNat : Int) ∧ (c.toNat : Int) ≤ 90) ∨ (c.toNat : Int) = 95) then 3 else if (48 ≤ (c.toNat : Int) ∧ (c.toNat : Int) ≤ 57) then 2 else if ((c.toNat : Int) = 32 ∨ (c.toNat : Int) = 9 ∨ (c.toNat : Int) = 10 ∨ (c.toNat : Int) = 13) then 1 else 0 := by
  unfold cls
  simp only [letter_iff, digit_iff, blank_iff]
  repeat' split
  all_goals rfl
theorem lexClass (c : UInt8) : Calls Tryz.prog 31 #[.int .u8 (c.toNat : Int)] w fun e w' => e = .returned (.int .i64 (cls c : Int)) ∧ w' = w := by
  have Hp := Lib.hid (cls_int c)
  go_enter Tryz.func31, Tryz.ntmps31
  go_wp2
  all_goals
    go_ret
    refine ⟨ret_int ?_, rfl⟩
    rw [Hp.out]
    clear Hp
    simp only [beq_iff_eq, beq_eq_false_iff_ne] at *
    repeat' split
    all_goals first | rfl | (exfalso; omega)
theorem refPair (c : UInt8) : Calls Tryz.prog 54 #[.int .u8 (c.toNat : Int)] w fun e w' => e = .returned (.int .u8 ((pair c).toNat : Int)) ∧ w' = w := by
  go_enter Tryz.func54, Tryz.ntmps54
  have e1 : c = 34 ↔ (c.toNat : Int) = 34 := eq_iff c 34
  have e2 : c = 92 ↔ (c.toNat : Int) = 92 := eq_iff c 92
  have e3 : c = 110 ↔ (c.toNat : Int) = 110 := eq_iff c 110
  have hp : (pair c).toNat = if c = 34 ∨ c = 92 then c.toNat else if c = 110 then 10 else 0 := by
    unfold pair
    repeat' split
    all_goals rfl
  simp only [e1, e2, e3] at hp
  have Hp := Lib.hid hp
  clear hp e1 e2 e3
  go_wp2
  all_goals
    go_ret
    refine ⟨ret_int ?_, rfl⟩
    rw [Hp.out]
    clear Hp
    simp only [beq_iff_eq, beq_eq_false_iff_ne] at *
    repeat' split
    all_goals omega
end Go.Proofs.YtjfccohgkgcnfaaGreatDoor
