/-
  The walk of matrix.Solve.
-/
import Derived.Test.YtokclgjkdpjjfaaDoorWm
namespace Go.Proofs.YtokclgjkdpjjfaaDoor
open Go.RowKit Go.Q
variable {w : World} {S S' : Reg} {A A' : Option Addr} {cap cap' : Nat}
/-- A solution, a kernel, and an error. -/
def GiveSolE (w : World) (x : List UInt8) (ker : List (List UInt8)) (er : Nat) (e : Ending) (w' : World) : Prop :=
  ∃ A cap A' cap', e = .returned (.tuple #[.slice A x.length cap, .slice A' ker.length cap', .int .i64 (er : Int)]) ∧ Bytes (fresh w w') w' A cap x ∧ Rows8 (fresh w w') w' A' cap' ker ∧ Below w.heap.size w w'
/-- What Solve gives. -/
def solveR (m : List (List UInt8)) (b : List UInt8) : Option (List UInt8 × List (List UInt8)) := if mchk m = 0 ∧ b.length = m.length then solveM m b (cols m) else none
def solveErr (m : List (List UInt8)) (b : List UInt8) : Nat := if mchk m ≠ 0 then mchk m else if b.length ≠ m.length then 1 else if (solveM m b (cols m)).isSome then 0 else 8
set_option maxHeartbeats 1000000 in
theorem matSolve {m : List (List UInt8)} {b : List UInt8} (hm : Rows8 S w A cap m) (hb : Bytes S' w A' cap' b) (hina : In S w) (hinb : In S' w) (ht : TabAt w) :
    Calls Tryd.prog 21 #[.slice A m.length cap, .slice A' b.length cap'] w (GiveSolE w (((solveR m b).map (·.1)).getD []) (((solveR m b).map (·.2)).getD []) (solveErr m b)) := by
  have hlm := hm.len
  have hlb := hb.len
  by_cases hx : mchk m = 0
  · have hv := mchk_valid.1 hx
    have hne : (((mchk m : Nat) : Int) != 0) = false := by rw [hx]; rfl
    have h1 := hv.rows
    have h2 := hv.colsle
    have Hrect : Hid (Rect m (cols m)) := hv.row
    have Hx := Lib.hid hx
    clear hx hv
    by_cases hl : b.length = m.length
    · have ht4 : ((b.length : Int) != (m.length : Int)) = false := by rw [hl]; simp
      have Hl := Lib.hid hl
      have hr : Hid (solveR m b = solveM m b (cols m)) := if_pos ⟨Hx.out, hl⟩
      have he : Hid (solveErr m b = if (solveM m b (cols m)).isSome then 0 else 8) := by
        show _ = _
        unfold solveErr
        rw [if_neg (by rw [Hx.out]; simp), if_neg (by simpa using hl)]
      clear hl
      go_enter Tryd.func21, Tryd.ntmps21
      go_wp2_with fail
      refine (matCheck hm).mono ?_
      rintro e w1 ⟨rfl, hw1⟩
      obtain rfl : w = w1 := hw1.symm
      go_wp2_with fail
      refine (matColumns hm).mono ?_
      rintro e w1 ⟨rfl, hw1⟩
      obtain rfl : w = w1 := hw1.symm
      go_wp2_with fail
      refine (matSolveCore Hrect.out Hl.out h1 h2 hm hb hina hinb ht).mono ?_
      rintro e w2 ⟨A1, c1, A2, c2, rfl, hr1, hr2, hbl⟩
      have H1 := Lib.hid hr1
      have H2 := Lib.hid hr2
      have l1 := hr1.len
      have l2 := hr2.len
      clear hr1 hr2 hm hb
      cases hs : solveM m b (cols m) with
      | none =>
        have Hs := Lib.hid hs
        simp only [hs, Option.map_none, Option.getD_none, Option.isSome_none] at *
        clear hs
        go_wp2_with fail
        go_ret3
        exact ⟨none, 0, none, 0, by rw [hr.out, he.out]; rfl, by rw [hr.out]; exact Sl.nil, by rw [hr.out]; exact Sl.nil, hbl⟩
      | some s =>
        have Hs := Lib.hid hs
        simp only [hs, Option.map_some, Option.getD_some, Option.isSome_some] at *
        clear hs
        go_wp2_with fail
        go_ret3
        exact ⟨A1, c1, A2, c2, by rw [hr.out, he.out]; rfl, by rw [hr.out]; exact H1.out, by rw [hr.out]; exact H2.out, hbl⟩
    · have ht4 : ((b.length : Int) != (m.length : Int)) = true := by rw [bne_iff_ne]; omega
      have hr : Hid (solveR m b = none) := if_neg (fun h => hl h.2)
      have he : Hid (solveErr m b = 1) := by
        show _ = _
        unfold solveErr
        rw [if_neg (by rw [Hx.out]; simp), if_pos hl]
      clear hl
      go_enter Tryd.func21, Tryd.ntmps21
      go_wp2_with fail
      refine (matCheck hm).mono ?_
      rintro e w1 ⟨rfl, hw1⟩
      obtain rfl : w = w1 := hw1.symm
      clear hm
      go_wp2_with fail
      go_ret3
      exact ⟨none, 0, none, 0, by rw [hr.out, he.out]; rfl, by rw [hr.out]; exact Sl.nil, by rw [hr.out]; exact Sl.nil, Below.refl _ _⟩
  · have hne : (((mchk m : Nat) : Int) != 0) = true := by rw [bne_iff_ne]; omega
    have hr : Hid (solveR m b = none) := if_neg (fun h => hx h.1)
    have he : Hid (solveErr m b = mchk m) := if_pos hx
    clear hx
    go_enter Tryd.func21, Tryd.ntmps21
    go_wp2_with fail
    refine (matCheck hm).mono ?_
    rintro e w1 ⟨rfl, hw1⟩
    obtain rfl : w = w1 := hw1.symm
    clear hm
    go_wp2_with fail
    go_ret3
    exact ⟨none, 0, none, 0, by rw [hr.out, he.out]; rfl, by rw [hr.out]; exact Sl.nil, by rw [hr.out]; exact Sl.nil, Below.refl _ _⟩
end Go.Proofs.YtokclgjkdpjjfaaDoor
