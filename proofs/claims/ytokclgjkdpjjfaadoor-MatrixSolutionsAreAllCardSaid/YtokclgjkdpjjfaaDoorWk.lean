/-
  The walks of matrix.Reduce and matrix.Rank.
-/
import Derived.Test.YtokclgjkdpjjfaaDoorWj
namespace Go.Proofs.YtokclgjkdpjjfaaDoor
open Go.RowKit Go.Q
variable {w : World} {S S' : Reg} {A A' : Option Addr} {cap cap' : Nat}
/-- A reduced matrix, its pivots, and an error. -/
def GiveRed3 (w : World) (x : List (List UInt8) × List Nat) (er : Nat) (e : Ending) (w' : World) : Prop :=
  ∃ A cap A' cap', e = .returned (.tuple #[.slice A x.1.length cap, .slice A' x.2.length cap', .int .i64 (er : Int)]) ∧ Rows8 (fresh w w') w' A cap x.1 ∧ Ints (fresh w w') w' A' cap' x.2 ∧ Below w.heap.size w w'
/-- What Reduce gives. -/
def reduceE (m : List (List UInt8)) : List (List UInt8) × List Nat := if mchk m = 0 then reduceM m else ([], [])
theorem matReduce {m : List (List UInt8)} (hm : Rows8 S w A cap m) (hin : In S w) (ht : TabAt w) :
    Calls Tryd.prog 14 #[.slice A m.length cap] w (GiveRed3 w (reduceE m) (mchk m)) := by
  by_cases hx : mchk m = 0
  · have hv := mchk_valid.1 hx
    have hne : (((mchk m : Nat) : Int) != 0) = false := by rw [hx]; rfl
    have hr : Hid (reduceE m = reduceM m) := by show _ = _; unfold reduceE; rw [if_pos hx]
    have Hx := Lib.hid hx
    have hrect : Rect m (cols m) := hv.row
    have Hrect := Lib.hid hrect
    have h1 := hv.rows
    have h2 := hv.colsle
    clear hx hrect hv
    go_enter Tryd.func14, Tryd.ntmps14
    go_wp2_with fail
    refine (matCheck hm).mono ?_
    rintro e w1 ⟨rfl, hw1⟩
    obtain rfl : w = w1 := hw1.symm
    go_wp2_with fail
    refine (matReduceCore Hrect.out rfl (by omega) (by omega) hm hin ht).mono ?_
    rintro e w2 ⟨A1, c1, A2, c2, rfl, hr1, hr2, hb⟩
    have H1 := Lib.hid hr1
    have H2 := Lib.hid hr2
    clear hr1 hr2 hm
    go_wp2_with fail
    go_ret3
    exact ⟨A1, c1, A2, c2, by rw [hr.out, Hx.out]; rfl, by rw [hr.out]; exact H1.out, by rw [hr.out]; exact H2.out, hb⟩
  · have hne : (((mchk m : Nat) : Int) != 0) = true := by rw [bne_iff_ne]; omega
    have hr : Hid (reduceE m = ([], [])) := by show _ = _; unfold reduceE; rw [if_neg hx]
    clear hx
    go_enter Tryd.func14, Tryd.ntmps14
    go_wp2_with fail
    refine (matCheck hm).mono ?_
    rintro e w1 ⟨rfl, hw1⟩
    obtain rfl : w = w1 := hw1.symm
    clear hm
    go_wp2_with fail
    go_ret3
    exact ⟨none, 0, none, 0, by rw [hr.out]; rfl, by rw [hr.out]; exact Sl.nil, by rw [hr.out]; exact Sl.nil, Below.refl _ _⟩
/-- A number and an error. -/
def GiveNumE (w : World) (n er : Nat) (e : Ending) (w' : World) : Prop := e = .returned (.tuple #[.int .i64 (n : Int), .int .i64 (er : Int)]) ∧ Below w.heap.size w w'
theorem matRank {m : List (List UInt8)} (hm : Rows8 S w A cap m) (hin : In S w) (ht : TabAt w) :
    Calls Tryd.prog 15 #[.slice A m.length cap] w (GiveNumE w (reduceE m).2.length (mchk m)) := by
  have hl := hm.len
  go_enter Tryd.func15, Tryd.ntmps15
  go_wp2_with fail
  refine (matReduce hm hin ht).mono ?_
  rintro e w2 ⟨A1, c1, A2, c2, rfl, hr1, hr2, hb⟩
  have hl2 := hr2.len
  clear hr1 hr2 hm
  go_wp2_with fail
  go_ret2
  exact ⟨rfl, hb⟩
end Go.Proofs.YtokclgjkdpjjfaaDoor
