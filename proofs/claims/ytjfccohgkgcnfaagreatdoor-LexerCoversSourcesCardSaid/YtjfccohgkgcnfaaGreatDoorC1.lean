/-
  strings.NewReplacer, walked in plain values.
-/
import Derived.Test.YtjfccohgkgcnfaaGreatDoorB2
namespace Go.Proofs.YtjfccohgkgcnfaaGreatDoor
open Go.RowKit Go.Q Go.Lx Go.Vl
set_option maxRecDepth 100000
theorem nw0 : strT Tryz.prog 57 = false := by kernel_rfl
theorem nw1 : slT Tryz.prog 57 = some (1, 16) := by kernel_rfl
theorem nw2 : apT Tryz.prog 57 = some (1, 16) := by kernel_rfl
theorem nw3 : zeroP Tryz.prog 85 = some [.lit (.int .u32 0), .lit (.int .i32 0), .lit (.int .u32 0), .lit .nilIface, .sl [] .nil] := by kernel_rfl
theorem nw4 : (placeT Tryz.prog 85).isSome = true := by kernel_rfl
theorem nw5 : plT Tryz.prog 85 0 = some (0, 3) := by kernel_rfl
theorem nw6 : plT Tryz.prog 85 1 = some (3, 1) := by kernel_rfl
theorem nw7 : plT Tryz.prog 85 2 = some (4, 1) := by kernel_rfl
attribute [go_sem] nw0 nw1 nw2 nw3 nw4 nw5 nw6 nw7
theorem ok25 : okCode [] Tryz.f25.ntmps (Tryz.f25.body.getD .skip) = true := by kernel_rfl
/-- The replacer's six strings. -/
def six : List (List PV) := [[.lit (.string ⟨#[34]⟩)], [.lit (.string ⟨#[92, 34]⟩)], [.lit (.string ⟨#[92]⟩)], [.lit (.string ⟨#[92, 92]⟩)], [.lit (.string ⟨#[10]⟩)], [.lit (.string ⟨#[92, 110]⟩)]]
/-- A replacer that has not been used. -/
def repNew : List PV := [.lit (.int .u32 0), .lit (.int .i32 0), .lit (.int .u32 0), .lit .nilIface, .sl six .shared]
theorem vNew : VC Tryz.prog 25 [.sl six .shared] [] fun x σ' => x = .ret (.ptr 0 0) ∧ σ' = [repNew] := by
  unfold repNew
  have hl : six.length = 6 := rfl
  have h1 : ∀ x ∈ six, x.length = 1 := by simp [six]
  obtain ⟨S, hS⟩ : ∃ S, six = S := ⟨_, rfl⟩
  rw [hS] at hl h1 ⊢
  clear hS
  have e1 : (((S.length : Nat) : Int).tmod 2 == 1) = false := by rw [hl]; rfl
  have e2 : ((2 : Int) != 0) = true := rfl
  refine VC.intro ⟨[0, 2, 6], []⟩ Tryz.func25 rfl follows ok25 (by rw [Tryz.ntmps25]; exact Nat.le_of_ble_eq_true rfl) ?_; refine WS_of ?_
  repeat (first | refine WS_seq ?_ | refine WS_block ?_ | refine WS_skip ?_ | refine WS_blk ?_ | refine WS_label ?_ | refine WS_exit rfl ?_ | refine WS_true rfl ?_ | refine WS_false rfl ?_ | (refine WS_region rfl ?_; intro K' hK hP; simp only [go_sem, e1, e2]; apply hK; (focus (simp only [go_sem]; exact rfl)); clear hK hP K'))
  refine WS_region rfl ?_; intro K' hK hP; simp only [go_sem]
  refine ⟨?_, ?_⟩
  · rw [Bool.and_eq_true, Bool.and_eq_true]
    exact ⟨decide_eq_true (by omega), rfl, List.all_eq_true.2 fun x hx => beq_iff_eq.2 (h1 x hx)⟩
  apply hK; (focus (simp only [go_sem]; exact rfl)); clear hK hP K'
  repeat (first | refine WS_seq ?_ | refine WS_block ?_ | refine WS_skip ?_ | refine WS_blk ?_ | refine WS_label ?_ | refine WS_exit rfl ?_ | refine WS_true rfl ?_ | refine WS_false rfl ?_ | (refine WS_region rfl ?_; intro K' hK hP; simp only [go_sem]; apply hK; (focus (simp only [go_sem]; exact rfl)); clear hK hP K'))
  refine WS_ret ?_; simp only [go_sem, Tryz.results25]
end Go.Proofs.YtjfccohgkgcnfaaGreatDoor
