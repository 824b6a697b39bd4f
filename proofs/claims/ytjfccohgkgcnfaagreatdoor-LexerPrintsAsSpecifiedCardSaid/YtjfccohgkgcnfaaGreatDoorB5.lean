/-
  The examples that every statement runs (sanity), walked in plain values.
-/
import Derived.Test.YtjfccohgkgcnfaaGreatDoorB3
import Derived.Test.YtjfccohgkgcnfaaGreatDoorB1
import Derived.Test.YtjfccohgkgcnfaaGreatDoorA12
namespace Go.Proofs.YtjfccohgkgcnfaaGreatDoor
open Go.RowKit Go.Q Go.Lx Go.Vl
set_option maxRecDepth 100000
set_option maxHeartbeats 1000000
variable {σ : List (List PV)}
def src0 : List UInt8 := [97, 45, 62, 98, 49, 32, 49, 50, 46, 46, 51, 32, 35, 32, 120]
def toks0 : List Tok := [⟨1, 0, [97], 0⟩, ⟨4, 1, [45, 62], 0⟩, ⟨1, 3, [98, 49], 0⟩, ⟨2, 6, [], 12⟩, ⟨4, 8, [46, 46], 0⟩, ⟨2, 10, [], 3⟩, ⟨5, 15, [], 0⟩]
theorem run0 : Lx.tokens src0 = .ok toks0 := by kernel_rfl
def src1 : List UInt8 := [34, 97, 92, 34, 92, 110, 34]
def toks1 : List Tok := [⟨3, 0, [97, 34, 10], 0⟩, ⟨5, 7, [], 0⟩]
theorem run1 : Lx.tokens src1 = .ok toks1 := by kernel_rfl
def src2 : List UInt8 := [61, 61, 61, 32, 33, 61, 61]
def toks2 : List Tok := [⟨4, 0, [61, 61], 0⟩, ⟨4, 2, [61], 0⟩, ⟨4, 4, [33, 61], 0⟩, ⟨4, 6, [61], 0⟩, ⟨5, 7, [], 0⟩]
theorem run2 : Lx.tokens src2 = .ok toks2 := by kernel_rfl
def src3 : List UInt8 := [120, 32, 48, 49, 50]
theorem run3 : Lx.tokens src3 = .error (2, 27) := by kernel_rfl
def src4 : List UInt8 := [120, 32, 51, 121]
theorem run4 : Lx.tokens src4 = .error (2, 27) := by kernel_rfl
def src5 : List UInt8 := [34, 97]
theorem run5 : Lx.tokens src5 = .error (0, 28) := by kernel_rfl
def src6 : List UInt8 := [120, 32, 36]
theorem run6 : Lx.tokens src6 = .error (2, 26) := by kernel_rfl
theorem size_of (l : List UInt8) : (⟨⟨l⟩⟩ : ByteArray).size = l.length := rfl
theorem readRunG {l : List UInt8} {ts : List Tok} (hl : l.length ≤ 65536) (h : Lx.tokens l = .ok ts) : ∀ rows' p' e', ReadP ⟨⟨l⟩⟩ rows' p' e' → rows' = ts.map tkR ∧ p' = 0 ∧ e' = 0 := readGood (s := ⟨⟨l⟩⟩) hl (tokens_good h)
theorem readRunB {l : List UInt8} {p e : Nat} (hl : l.length ≤ 65536) (h : Lx.tokens l = .error (p, e)) : ∀ rows' p' e', ReadP ⟨⟨l⟩⟩ rows' p' e' → rows' = [] ∧ p' = p ∧ e' = e := readBad (s := ⟨⟨l⟩⟩) hl (tokens_bad h)
def toRT (t : Tok) : RT := ⟨t.kind, t.at_, t.s, t.n⟩
theorem tk_rt (l : List Tok) : l.map tkR = (l.map toRT).map rtR := by rw [List.map_map]; rfl
theorem words0 : Lib.join (wordsR (toks0.map toRT)) [32] = [97, 32, 45, 62, 32, 98, 49, 32, 49, 50, 32, 46, 46, 32, 51] := by decide +kernel
theorem vSanity0 : VC Tryz.prog 11 [] [] fun x σ' => x = .ret (.lit (.bool true)) ∧ σ' = [] := by
  obtain ⟨A, hA⟩ : ∃ A, toks0.map tkR = A := ⟨_, rfl⟩
  obtain ⟨B, hB⟩ : ∃ B, toks1.map tkR = B := ⟨_, rfl⟩
  obtain ⟨C, hC⟩ : ∃ C, toks2.map tkR = C := ⟨_, rfl⟩
  have c0 := fun σ => vTokens (σ := σ) ⟨⟨src0⟩⟩ (by decide) _ _ _ (readRunG (by decide) run0)
  have c1 := fun σ => vTokens (σ := σ) ⟨⟨src1⟩⟩ (by decide) _ _ _ (readRunG (by decide) run1)
  have c2 := fun σ => vTokens (σ := σ) ⟨⟨src2⟩⟩ (by decide) _ _ _ (readRunG (by decide) run2)
  have c3 := fun σ => vTokens (σ := σ) ⟨⟨src3⟩⟩ (by decide) _ _ _ (readRunB (by decide) run3)
  have c4 := fun σ => vTokens (σ := σ) ⟨⟨src4⟩⟩ (by decide) _ _ _ (readRunB (by decide) run4)
  have c5 := fun σ => vTokens (σ := σ) ⟨⟨src5⟩⟩ (by decide) _ _ _ (readRunB (by decide) run5)
  have c6 := fun σ => vTokens (σ := σ) ⟨⟨src6⟩⟩ (by decide) _ _ _ (readRunB (by decide) run6)
  have c7 := fun σ => vPos ⟨⟨[97, 10, 98, 99]⟩⟩ 3 (by decide) σ
  have e7 : placeOf ⟨⟨[97, 10, 98, 99]⟩⟩ 3 = (2, 2) := by decide +kernel
  have c8 := fun σ => vPrint (σ := σ) (toks0.map toRT) (by decide) (by decide) (by rw [words0]; decide) (fun t ht => .inl ((by decide : ∀ t ∈ toks0.map toRT, t.k ≠ 3) t ht)) .shared
  rw [e7] at c7
  rw [← tk_rt, words0, hA] at c8
  rw [hA] at c0
  rw [hB] at c1
  rw [hC] at c2
  have a1 : A.getD (Int.toNat 1) [] = [.lit (.int .i64 4), .lit (.int .i64 1), .lit (.string ⟨#[45, 62]⟩), .lit (.int .i64 0)] := by rw [← hA]; rfl
  have a3 : A.getD (Int.toNat 3) [] = [.lit (.int .i64 2), .lit (.int .i64 6), .lit (.string ⟨#[]⟩), .lit (.int .i64 12)] := by rw [← hA]; rfl
  have a6 : A.getD (Int.toNat 6) [] = [.lit (.int .i64 5), .lit (.int .i64 15), .lit (.string ⟨#[]⟩), .lit (.int .i64 0)] := by rw [← hA]; rfl
  have an : (((A.length : Nat) : Int) != 7) = false := by rw [← hA]; rfl
  have la : A.length = 7 := by rw [← hA]; rfl
  have lb : B.length = 2 := by rw [← hB]; rfl
  have lc : C.length = 5 := by rw [← hC]; rfl
  have n0 : (((0 : Nat) : Int) == 0) = true := rfl
  have n2 : (((2 : Nat) : Int) == 2) = true := rfl
  have n26 : (((26 : Nat) : Int) == 26) = true := rfl
  have n27 : (((27 : Nat) : Int) == 27) = true := rfl
  have n28 : (((28 : Nat) : Int) == 28) = true := rfl
  have b0 : B.getD (Int.toNat 0) [] = [.lit (.int .i64 3), .lit (.int .i64 0), .lit (.string ⟨#[97, 34, 10]⟩), .lit (.int .i64 0)] := by rw [← hB]; rfl
  have bn : (((B.length : Nat) : Int) != 2) = false := by rw [← hB]; rfl
  have d0 : C.getD (Int.toNat 0) [] = [.lit (.int .i64 4), .lit (.int .i64 0), .lit (.string ⟨#[61, 61]⟩), .lit (.int .i64 0)] := by rw [← hC]; rfl
  have d1 : C.getD (Int.toNat 1) [] = [.lit (.int .i64 4), .lit (.int .i64 2), .lit (.string ⟨#[61]⟩), .lit (.int .i64 0)] := by rw [← hC]; rfl
  have d2 : C.getD (Int.toNat 2) [] = [.lit (.int .i64 4), .lit (.int .i64 4), .lit (.string ⟨#[33, 61]⟩), .lit (.int .i64 0)] := by rw [← hC]; rfl
  have d3 : C.getD (Int.toNat 3) [] = [.lit (.int .i64 4), .lit (.int .i64 6), .lit (.string ⟨#[61]⟩), .lit (.int .i64 0)] := by rw [← hC]; rfl
  have dn : (((C.length : Nat) : Int) != 5) = false := by rw [← hC]; rfl
  unfold src0 at c0
  unfold src1 at c1
  unfold src2 at c2
  unfold src3 at c3
  unfold src4 at c4
  unfold src5 at c5
  unfold src6 at c6
  clear hA hB hC
  refine VC.intro ⟨[0, 1, 2, 3, 5, 8, 10, 12, 14, 15, 16, 17, 18, 63], []⟩ Tryz.func11 rfl follows ok11 (by rw [Tryz.ntmps11]; exact Nat.le_of_ble_eq_true rfl) ?_; refine WS_of ?_
  repeat (first | refine WS_seq ?_ | refine WS_block ?_ | refine WS_skip ?_ | refine WS_blk ?_ | refine WS_label ?_ | refine WS_exit rfl ?_ | refine WS_true rfl ?_ | refine WS_false rfl ?_ | (refine WS_region rfl ?_; intro K' hK hP; simp only [go_sem]; apply hK; (focus (simp only [go_sem]; exact rfl)); clear hK hP K'))
  refine WS_region rfl ?_; intro K' hK hP; simp only [go_sem]; refine ((c0 _)).mono ?_; rintro _ _ ⟨rfl, rfl⟩; simp only [go_sem]; apply hK; (focus (simp only [go_sem]; exact rfl)); clear hK hP K'
  repeat (first | refine WS_seq ?_ | refine WS_block ?_ | refine WS_skip ?_ | refine WS_blk ?_ | refine WS_label ?_ | refine WS_exit rfl ?_ | refine WS_true rfl ?_ | refine WS_false rfl ?_ | (refine WS_region rfl ?_; intro K' hK hP; simp only [go_sem]; apply hK; (focus (simp only [go_sem]; exact rfl)); clear hK hP K'))
  refine WS_region rfl ?_; intro K' hK hP; simp only [go_sem]; refine ((c1 _)).mono ?_; rintro _ _ ⟨rfl, rfl⟩; simp only [go_sem]; apply hK; (focus (simp only [go_sem]; exact rfl)); clear hK hP K'
  repeat (first | refine WS_seq ?_ | refine WS_block ?_ | refine WS_skip ?_ | refine WS_blk ?_ | refine WS_label ?_ | refine WS_exit rfl ?_ | refine WS_true rfl ?_ | refine WS_false rfl ?_ | (refine WS_region rfl ?_; intro K' hK hP; simp only [go_sem]; apply hK; (focus (simp only [go_sem]; exact rfl)); clear hK hP K'))
  refine WS_region rfl ?_; intro K' hK hP; simp only [go_sem]; refine ((c2 _)).mono ?_; rintro _ _ ⟨rfl, rfl⟩; simp only [go_sem]; apply hK; (focus (simp only [go_sem]; exact rfl)); clear hK hP K'
  repeat (first | refine WS_seq ?_ | refine WS_block ?_ | refine WS_skip ?_ | refine WS_blk ?_ | refine WS_label ?_ | refine WS_exit rfl ?_ | refine WS_true rfl ?_ | refine WS_false rfl ?_ | (refine WS_region rfl ?_; intro K' hK hP; simp only [go_sem]; apply hK; (focus (simp only [go_sem]; exact rfl)); clear hK hP K'))
  refine WS_region rfl ?_; intro K' hK hP; simp only [go_sem]; refine ((c3 _)).mono ?_; rintro _ _ ⟨rfl, rfl⟩; simp only [go_sem]; apply hK; (focus (simp only [go_sem]; exact rfl)); clear hK hP K'
  repeat (first | refine WS_seq ?_ | refine WS_block ?_ | refine WS_skip ?_ | refine WS_blk ?_ | refine WS_label ?_ | refine WS_exit rfl ?_ | refine WS_true rfl ?_ | refine WS_false rfl ?_ | (refine WS_region rfl ?_; intro K' hK hP; simp only [go_sem]; apply hK; (focus (simp only [go_sem]; exact rfl)); clear hK hP K'))
  refine WS_region rfl ?_; intro K' hK hP; simp only [go_sem]; refine ((c4 _)).mono ?_; rintro _ _ ⟨rfl, rfl⟩; simp only [go_sem]; apply hK; (focus (simp only [go_sem]; exact rfl)); clear hK hP K'
  repeat (first | refine WS_seq ?_ | refine WS_block ?_ | refine WS_skip ?_ | refine WS_blk ?_ | refine WS_label ?_ | refine WS_exit rfl ?_ | refine WS_true rfl ?_ | refine WS_false rfl ?_ | (refine WS_region rfl ?_; intro K' hK hP; simp only [go_sem]; apply hK; (focus (simp only [go_sem]; exact rfl)); clear hK hP K'))
  refine WS_region rfl ?_; intro K' hK hP; simp only [go_sem]; refine ((c5 _)).mono ?_; rintro _ _ ⟨rfl, rfl⟩; simp only [go_sem]; apply hK; (focus (simp only [go_sem]; exact rfl)); clear hK hP K'
  repeat (first | refine WS_seq ?_ | refine WS_block ?_ | refine WS_skip ?_ | refine WS_blk ?_ | refine WS_label ?_ | refine WS_exit rfl ?_ | refine WS_true rfl ?_ | refine WS_false rfl ?_ | (refine WS_region rfl ?_; intro K' hK hP; simp only [go_sem]; apply hK; (focus (simp only [go_sem]; exact rfl)); clear hK hP K'))
  refine WS_region rfl ?_; intro K' hK hP; simp only [go_sem]; refine ((c6 _)).mono ?_; rintro _ _ ⟨rfl, rfl⟩; simp only [go_sem]; apply hK; (focus (simp only [go_sem]; exact rfl)); clear hK hP K'
  repeat (first | refine WS_seq ?_ | refine WS_block ?_ | refine WS_skip ?_ | refine WS_blk ?_ | refine WS_label ?_ | refine WS_exit rfl ?_ | refine WS_true rfl ?_ | refine WS_false rfl ?_ | (refine WS_region rfl ?_; intro K' hK hP; simp only [go_sem]; apply hK; (focus (simp only [go_sem]; exact rfl)); clear hK hP K'))
  refine WS_region rfl ?_; intro K' hK hP; simp only [go_sem]; refine ((c7 _)).mono ?_; rintro _ _ ⟨rfl, rfl⟩; simp only [go_sem]; apply hK; (focus (simp only [go_sem]; exact rfl)); clear hK hP K'
  repeat (first | refine WS_seq ?_ | refine WS_block ?_ | refine WS_skip ?_ | refine WS_blk ?_ | refine WS_label ?_ | refine WS_exit rfl ?_ | refine WS_true rfl ?_ | refine WS_false rfl ?_ | (refine WS_region rfl ?_; intro K' hK hP; simp only [go_sem, an, bn, dn]; apply hK; (focus (simp only [go_sem]; exact rfl)); clear hK hP K'))
  refine WS_region rfl ?_; intro K' hK hP; simp only [go_sem, d0, d1, d2, d3, decide_true]
  refine ⟨by omega, by omega, by omega, by omega, ?_⟩
  apply hK; (focus (simp only [go_sem]; exact rfl)); clear hK hP K'
  repeat (first | refine WS_seq ?_ | refine WS_block ?_ | refine WS_skip ?_ | refine WS_blk ?_ | refine WS_label ?_ | refine WS_exit rfl ?_ | refine WS_true rfl ?_ | refine WS_false rfl ?_ | (refine WS_region rfl ?_; intro K' hK hP; simp only [go_sem, n0, n2, n26, n27, n28, beq_self_eq_true, Bool.and_self]; apply hK; (focus (simp only [go_sem]; exact rfl)); clear hK hP K'))
  repeat (first | refine WS_seq ?_ | refine WS_block ?_ | refine WS_blk ?_ | refine WS_skip ?_)
  refine WS_region rfl ?_; intro K' hK hP; simp only [go_sem, n0, n2, a1, a3, a6, b0, decide_true, beq_self_eq_true, Bool.and_self]
  refine ⟨by omega, by omega, by omega, by omega, ?_⟩
  refine ((c8 _)).mono ?_; rintro _ _ ⟨rfl, rfl⟩; simp only [go_sem, decide_true]
  apply hK; (focus (simp only [go_sem]; exact rfl)); clear hK hP K'
  repeat (first | refine WS_seq ?_ | refine WS_block ?_ | refine WS_skip ?_ | refine WS_blk ?_ | refine WS_label ?_ | refine WS_exit rfl ?_ | refine WS_true rfl ?_ | refine WS_false rfl ?_ | (refine WS_region rfl ?_; intro K' hK hP; simp only [go_sem]; apply hK; (focus (simp only [go_sem]; exact rfl)); clear hK hP K'))
  refine WS_ret ?_; simp only [go_sem, Tryz.results11]
theorem vSanity (σ : List (List PV)) : VC Tryz.prog 11 [] σ fun x σ' => x = .ret (.lit (.bool true)) ∧ σ' = σ := by
  refine VC.pure (vSanity0.mono ?_) rfl
  rintro _ _ ⟨rfl, rfl⟩
  exact ⟨rfl, rfl⟩
end Go.Proofs.YtjfccohgkgcnfaaGreatDoor
