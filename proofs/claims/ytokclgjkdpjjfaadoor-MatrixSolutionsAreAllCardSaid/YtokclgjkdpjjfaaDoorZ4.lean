/-
  Proved: for every input, MatrixSolutionsAreAll returns true, and its arguments read as before. Conditions: the row's own (the table of package gf as the program's text lays it: the card ties it).
-/
import Derived.Test.YtokclgjkdpjjfaaDoorZa
import Derived.Test.YtokclgjkdpjjfaaDoorX4
import Derived.Test.YtokclgjkdpjjfaaDoorOpb
import Derived.Test.YtokclgjkdpjjfaaDoorTie
import Derived.Test.YtokclgjkdpjjfaaDoorCards
import Derived.SevenTiedAt
namespace Go.Proofs.YtokclgjkdpjjfaaDoor
open Go.ChangeShapes Go.WideShapes Go.ChangeAt Go.RowKit Go.Q
set_option maxRecDepth 100000 in
theorem lawSolutions_lifted (os : Os) (started : os.Started) (H : Type) (enc : TypeId × Value → H) :
    ReturnsInHanded {} Tryd.checked os 6 .any (fun w args => (Rows.matrixSolutionsAreAllSpec.pre enc Tryd.prog Tryd.f6 [] false w args ∧ laidMetH Tryd.prog seatLaid w) ∧ sizedMet enc Tryd.prog Tryd.f6 (OpenSpec.ofChange Rows.matrixSolutionsAreAllSpec) false w args)
      (Rows.matrixSolutionsAreAllSpec.post enc Tryd.prog Tryd.f6 false true false false) := by
  refine returnsInHanded_of_change_and (C := Tryd.checked) (X := fun w _ => laidMetH Tryd.prog seatLaid w) (fun _ _ _ hh h => h.of_heap hh) Tryd.own started (by kernel_rfl) Tryd.func6
    (ChangeSpec.witness_shaped (enc := enc) (C := Tryd.checked) (os := os) (X := fun w _ => laidMetH Tryd.prog seatLaid w) false (World.doorLaid Tryd.prog 400 os) #[.slice none 0 0, .agg #[.slice none 0 0, .slice none 0 0]] 8 rfl (World.shaped_of_RefB (by kernel_rfl) (by kernel_rfl)) (by kernel_rfl) (by kernel_rfl) (by kernel_rfl) (door_met os _)) ?_
  intro W base args ds gs before hval hW _ _ hL _
  have hW' := hW
  obtain ⟨p, q, hA0, hV, rfl, hfz, hnd⟩ := hW
  have hA : DataW.TrodAll enc Tryd.prog W 0 (fun _ => true) true Tryd.f6.params.toList args.toList ds p := hA0
  rw [Tryd.params6] at hA
  obtain ⟨v0, v1, d0, d1, p0, p1, e0, rfl, rfl, ⟨f0, h0⟩, ⟨f1, h1⟩⟩ := trodAll_two hA
  obtain ⟨rfl, rfl⟩ := trodVars_none hV
  have hv0 : v0.cells.toList = [v0] := by
    obtain ⟨a0, l0, c0, rfl⟩ := okWide_slice Tryd.underlying22 (hval 0 22 v0 (by rw [Tryd.params6]; rfl) (by rw [e0]; rfl))
    rfl
  rw [hv0] at h0
  obtain ⟨A0, cap0, m0, rfl, hm0⟩ := openRows Tryd.underlying22 Tryd.underlying43 Tryd.underlying5 Tryd.cells43 Tryd.cells5 h0
  obtain ⟨u1, v1', rfl, ha1, hb1⟩ := openPair Tryd.underlying60 Tryd.underlying43 Tryd.underlying5 (by kernel_rfl) Tryd.cells43 Tryd.cells5 (hval 1 60 v1 (by rw [Tryd.params6]; rfl) (by rw [e0]; rfl)) h1
  obtain ⟨A1, cap1, m1, rfl, hm1⟩ := ha1
  obtain ⟨B1, cbp1, n1, rfl, hn1⟩ := hb1
  subst e0
  refine (lawSolutions hm0 hm1 hn1 (fun _ h => h) (fun _ h => h) (fun _ h => h) (tab_of_laid hL)).mono fun e W' ⟨he, hb⟩ => ?_
  exact ⟨.bool true, he, lawPost Tryd.laidOut (by kernel_rfl) rfl rfl rfl Tryd.underlying4 hW' hb⟩
theorem lawSolutions_row : Rows.MatrixSolutionsAreAllSaid :=
  OpenClaim.holds_of_wide 6 Tryd.f6 rfl rfl rfl rfl rfl rfl rfl ⟨rfl, rfl, rfl, rfl, rfl⟩ rfl rfl rfl rfl rfl (by kernel_rfl) Tryd.func6 (by kernel_rfl)
    (of_decide_eq_true (by kernel_rfl)) (by unfold Func.isWrapper; first | (rw [if_pos (by decide +kernel)]; kernel_rfl) | (rw [if_neg (by decide +kernel)]; exact ⟨rfl, rfl⟩))
    (fun os started H enc _ => lawSolutions_lifted os started H enc)
theorem lawSolutions_card : Rows.MatrixSolutionsAreAllCardSaid :=
  Claim7.holds_tied_plain_at .later [] [.data] true (true, "0c132d380c744db80062390ed1dbca7464d5ac2180740eee984a23453e027eaa") false
    lawSolutions_row (fun _ h => by cases h) (by kernel_rfl) (fun _ h => by cases h) matrixSolutionsAreAll_row_tie rfl ⟨rfl, rfl⟩ (by kernel_rfl) rfl
    (fun f fn hf hfn => by
      obtain rfl : f = 6 := Option.some.inj ((show Tryd.prog.funcNamed "quietus/quietuslaw05.MatrixSolutionsAreAll" = some 6 by kernel_rfl).symm.trans hf) |>.symm
      obtain rfl : fn = Tryd.f6 := (Option.some.inj (Tryd.func6.symm.trans hfn)).symm
      exact ⟨by kernel_rfl, fun j t ht => by
        rw [Tryd.params6] at ht
        have hm : t ∈ [22, 60] := by simpa using Array.mem_of_getElem? ht
        have hall : ([22, 60].all fun u => !Tryd.prog.wantsStandIn u) = true := by kernel_rfl
        exact (show Tryd.prog.wantsStandIn t = false by simpa using List.all_eq_true.1 hall t hm)⟩)
    (by kernel_rfl)
end Go.Proofs.YtokclgjkdpjjfaaDoor
