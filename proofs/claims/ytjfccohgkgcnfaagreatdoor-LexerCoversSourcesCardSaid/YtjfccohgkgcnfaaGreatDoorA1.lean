/-
  The lexer's functions, walked in plain values: class, span.
-/
import Derived.Test.YtjfccohgkgcnfaaGreatDoorQ1
import Derived.Test.YtjfccohgkgcnfaaGreatDoorPe
import Derived.Test.YtjfccohgkgcnfaaGreatDoorRa
namespace Go.Proofs.YtjfccohgkgcnfaaGreatDoor
open Go.RowKit Go.Q Go.Lx Go.Vl
set_option maxRecDepth 100000
variable {σ : List (List PV)}
theorem vClass (c : UInt8) : VC Tryz.prog 31 [.lit (.int .u8 (c.toNat : Int))] σ fun x σ' => x = .ret (.lit (.int .i64 (cls c : Int))) ∧ σ' = σ :=
  VC.lits [.int .u8 (c.toNat : Int)] _ fun w _ => (lexClass c).mono fun _ _ h => ⟨h.1, by rw [h.2]; exact Below.refl _ _⟩
theorem vDigit (c : UInt8) : VC Tryz.prog 38 [.lit (.int .u8 (c.toNat : Int))] σ fun x σ' => x = .ret (.lit (.bool (isDigit c))) ∧ σ' = σ :=
  VC.lits [.int .u8 (c.toNat : Int)] _ fun w _ => (refDigit c).mono fun _ _ h => ⟨h.1, by rw [h.2]; exact Below.refl _ _⟩
theorem vLetter (c : UInt8) : VC Tryz.prog 36 [.lit (.int .u8 (c.toNat : Int))] σ fun x σ' => x = .ret (.lit (.bool (isLetter c))) ∧ σ' = σ :=
  VC.lits [.int .u8 (c.toNat : Int)] _ fun w _ => (refLetter c).mono fun _ _ h => ⟨h.1, by rw [h.2]; exact Below.refl _ _⟩
/-- A token, as a row of a slice. -/
def tkP (t : M) : List PV := [.lit (.int .i64 (t.kind : Int)), .lit (.int .i64 (t.at_ : Int)), .lit (.string t.s), .lit (.int .i64 t.n)]
theorem vSpan (src : ByteArray) (p : Nat) (xs : List (List PV)) (hp : p ≤ src.size) (hs : src.size ≤ 1000000) :
    VC Tryz.prog 49 [.ptr 0 0, .lit (.int .i64 2)] [[.lit (.string src), .lit (.int .i64 (p : Int)), .sl xs .own]] fun x σ' => σ' = [[.lit (.string src), .lit (.int .i64 (p : Int)), .sl xs .own]] ∧
      ∃ j : Nat, x = .ret (.lit (.int .i64 (j : Int))) ∧ p ≤ j ∧ j ≤ src.size ∧ AllIn isWord src p j ∧ headIs isWord ((bl src).drop j) = false := by
  refine VC.intro ⟨[0, 1, 4, 5, 27], []⟩ Tryz.func49 rfl follows ok49 (by rw [Tryz.ntmps49]; exact Nat.le_of_ble_eq_true rfl) ?_; refine WS_of ?_
  repeat (first | refine WS_seq ?_ | refine WS_block ?_ | refine WS_skip ?_ | refine WS_blk ?_ | refine WS_label ?_ | refine WS_exit rfl ?_ | refine WS_true rfl ?_ | refine WS_false rfl ?_ | (refine WS_region rfl ?_; intro K' hK hP; simp only [go_sem]; apply hK; (focus (simp only [go_sem]; exact rfl)); clear hK hP K'))
  refine WS_for [0, 1, 5] 1 (fun j : Nat => p ≤ j ∧ j ≤ src.size ∧ AllIn isWord src p j) (fun j => src.size - j) (fun j => ⟨[(0, .ptr 0 0), (1, .lit (.int .i64 2)), (5, .lit (.int .i64 (j : Int)))], [[.lit (.string src), .lit (.int .i64 (p : Int)), .sl xs .own]]⟩) p (Nat.le_refl _) ?_ ⟨Nat.le_refl _, hp, AllIn.nil _ _ _⟩ ?_
  · exact rfl
  rintro j ⟨h1, h2, h3⟩
  by_cases hj : j < src.size
  · have d1 : decide ((j : Int) < (src.size : Int)) = true := by rw [decide_eq_true_eq]; omega
    have g1 := (getD_at src j hj).symm
    have hcw := cls_word src[j]
    repeat (first | refine WS_seq ?_ | refine WS_block ?_ | refine WS_skip ?_ | refine WS_blk ?_ | refine WS_label ?_ | refine WS_exit rfl ?_ | refine WS_true rfl ?_ | refine WS_false rfl ?_ | (refine WS_region rfl ?_; intro K' hK hP; simp only [go_sem, d1]; apply hK; (focus (simp only [go_sem]; exact rfl)); clear hK hP K'))
    refine WS_region rfl ?_; intro K' hK hP; simp only [go_sem, d1, g1]
    refine ⟨⟨by omega, by omega⟩, ?_⟩
    refine ((vClass src[j])).mono ?_; rintro _ _ ⟨rfl, rfl⟩; simp only [go_sem]
    apply hK; (focus (simp only [go_sem]; exact rfl)); clear hK hP K'
    by_cases hw : isWord src[j] = true
    · rw [hw] at hcw
      refine WS_true (by simp only [go_sem, ← hcw]) ?_
      have w1 : IntKind.i64.wrap ((j : Int) + 1) = ((j + 1 : Nat) : Int) := wrapN (by omega) (by omega)
      repeat (first | refine WS_seq ?_ | refine WS_block ?_ | refine WS_skip ?_ | refine WS_blk ?_ | refine WS_label ?_ | refine WS_exit rfl ?_ | refine WS_true rfl ?_ | refine WS_false rfl ?_ | (refine WS_region rfl ?_; intro K' hK hP; simp only [go_sem, w1]; apply hK; (focus (simp only [go_sem]; exact rfl)); clear hK hP K'))
      exact WS_again (j + 1) rfl ⟨by omega, by omega, h3.succ h1 hj hw⟩ (by omega)
    · simp only [Bool.not_eq_true] at hw
      rw [hw] at hcw
      refine WS_false (by simp only [go_sem, ← hcw]) ?_
      repeat (first | refine WS_seq ?_ | refine WS_block ?_ | refine WS_skip ?_ | refine WS_blk ?_ | refine WS_label ?_ | refine WS_exit rfl ?_ | refine WS_true rfl ?_ | refine WS_false rfl ?_ | (refine WS_region rfl ?_; intro K' hK hP; simp only [go_sem]; apply hK; (focus (simp only [go_sem]; exact rfl)); clear hK hP K'))
      refine WS_ret ?_; simp only [go_sem, Tryz.results49]
      refine ⟨j, rfl, h1, h2, h3, head_at src j h2 fun _ => hw⟩
  · have d1 : decide ((j : Int) < (src.size : Int)) = false := by rw [decide_eq_false_iff_not]; omega
    repeat (first | refine WS_seq ?_ | refine WS_block ?_ | refine WS_skip ?_ | refine WS_blk ?_ | refine WS_label ?_ | refine WS_exit rfl ?_ | refine WS_true rfl ?_ | refine WS_false rfl ?_ | (refine WS_region rfl ?_; intro K' hK hP; simp only [go_sem, d1]; apply hK; (focus (simp only [go_sem]; exact rfl)); clear hK hP K'))
    refine WS_ret ?_; simp only [go_sem, Tryz.results49]
    refine ⟨j, rfl, h1, h2, h3, head_at src j h2 fun h => absurd h hj⟩
theorem vIndexByte (s : ByteArray) (c : UInt8) : VC Tryz.prog 30 [.lit (.string s), .lit (.int .u8 (c.toNat : Int))] σ fun x σ' => x = .ret (.lit (.int .i64 (Lib.indexByte (bl s) c))) ∧ σ' = σ :=
  VC.lits [.string s, .int .u8 (c.toNat : Int)] _ fun w _ => (Tryz.strings_IndexByte s (c.toNat : Int) w).mono fun _ _ h => ⟨by rw [h.1]; congr 4; simp, by rw [h.2]; exact Below.refl _ _⟩
theorem vSkip (src : ByteArray) (p : Nat) (xs : List (List PV)) (hp : p ≤ src.size) (hs : src.size ≤ 1000000) :
    VC Tryz.prog 20 [.ptr 0 0] [[.lit (.string src), .lit (.int .i64 (p : Int)), .sl xs .own]] fun x σ' => x = .ret (.tup []) ∧ σ' = [[.lit (.string src), .lit (.int .i64 ((src.size - (skip false ((bl src).drop p)).length : Nat) : Int)), .sl xs .own]] := by
  obtain ⟨R, hR⟩ : ∃ R, skip false ((bl src).drop p) = R := ⟨_, rfl⟩
  rw [hR]
  refine VC.intro ⟨[0, 2, 3, 13, 23, 37, 56], []⟩ Tryz.func20 rfl follows ok20 (by rw [Tryz.ntmps20]; exact Nat.le_of_ble_eq_true rfl) ?_; refine WS_of ?_
  repeat (first | refine WS_seq ?_ | refine WS_block ?_ | refine WS_skip ?_ | refine WS_blk ?_ | refine WS_label ?_ | refine WS_exit rfl ?_ | refine WS_true rfl ?_ | refine WS_false rfl ?_ | (refine WS_region rfl ?_; intro K' hK hP; simp only [go_sem]; apply hK; (focus (simp only [go_sem]; exact rfl)); clear hK hP K'))
  refine WS_for [0] 1 (fun j : Nat => j ≤ src.size ∧ skip false ((bl src).drop j) = R) (fun j => src.size - j) (fun j => ⟨[(0, .ptr 0 0)], [[.lit (.string src), .lit (.int .i64 (j : Int)), .sl xs .own]]⟩) p (Nat.le_refl _) ?_ ⟨hp, hR⟩ ?_
  · exact rfl
  rintro j ⟨h1, h2⟩
  clear hR
  by_cases hj : j < src.size
  · have d1 : decide ((j : Int) < (src.size : Int)) = true := by rw [decide_eq_true_eq]; omega
    have g1 := (getD_at src j hj).symm
    have hdr := bl_drop src j hj
    repeat (first | refine WS_seq ?_ | refine WS_block ?_ | refine WS_skip ?_ | refine WS_blk ?_ | refine WS_label ?_ | refine WS_exit rfl ?_ | refine WS_true rfl ?_ | refine WS_false rfl ?_ | (refine WS_region rfl ?_; intro K' hK hP; simp only [go_sem, d1]; apply hK; (focus (simp only [go_sem]; exact rfl)); clear hK hP K'))
    refine WS_region rfl ?_; intro K' hK hP; simp only [go_sem, g1]
    refine ⟨⟨by omega, by omega⟩, ?_⟩
    apply hK; (focus (simp only [go_sem]; exact rfl)); clear hK hP K'
    repeat (first | refine WS_seq ?_ | refine WS_block ?_ | refine WS_skip ?_ | refine WS_blk ?_ | refine WS_label ?_ | refine WS_exit rfl ?_ | refine WS_true rfl ?_ | refine WS_false rfl ?_ | (refine WS_region rfl ?_; intro K' hK hP; simp only [go_sem]; apply hK; (focus (simp only [go_sem]; exact rfl)); clear hK hP K'))
    by_cases h35 : (src[j].toNat : Int) = 35
    · have b35 : decide ((src[j].toNat : Int) = 35) = true := decide_eq_true h35
      have hR1 : skip true ((bl src).drop j) = R := by rw [← h2, hdr, skip_false_sharp ((eq_iff src[j] 35).2 h35), skip_true_stay (by rw [(eq_iff src[j] 35).2 h35]; decide)]
      have HX : bl (src.extract j src.size) = (bl src).drop j := by rw [bl_ext, List.take_of_length_le (by rw [List.length_drop, bl_len]; exact Nat.le_refl _)]
      have hix := idx_feed ((bl src).drop j)
      have hz0 : Lib.indexByte ((bl src).drop j) 10 ≠ 0 := by rw [hdr, (eq_iff src[j] 35).2 h35]; exact idx_ne
      have hcall := vIndexByte (σ := [[.lit (.string src), .lit (.int .i64 (j : Int)), .sl xs .own]]) (src.extract j src.size) 10
      rw [HX] at hcall
      obtain ⟨z, hz⟩ : ∃ z, z = Lib.indexByte ((bl src).drop j) 10 := ⟨_, rfl⟩
      rw [← hz] at hix hz0 hcall
      have hzge : -1 ≤ z := by rw [hz]; exact Lib.indexByte_ge _ _
      refine WS_true (by simp only [go_sem]; rw [h35]; rfl) ?_
      repeat (first | refine WS_seq ?_ | refine WS_block ?_ | refine WS_skip ?_ | refine WS_blk ?_ | refine WS_label ?_ | refine WS_exit rfl ?_ | refine WS_true rfl ?_ | refine WS_false rfl ?_ | (refine WS_region rfl ?_; intro K' hK hP; simp only [go_sem]; apply hK; (focus (simp only [go_sem]; exact rfl)); clear hK hP K'))
      refine WS_region rfl ?_; intro K' hK hP; simp only [go_sem]
      refine ⟨⟨by omega, by omega, by omega⟩, ?_⟩
      refine (hcall).mono ?_; rintro _ _ ⟨rfl, rfl⟩; simp only [go_sem]
      apply hK; (focus (simp only [go_sem]; exact rfl)); clear hK hP K'
      repeat (first | refine WS_seq ?_ | refine WS_block ?_ | refine WS_skip ?_ | refine WS_blk ?_ | refine WS_label ?_ | refine WS_exit rfl ?_ | refine WS_true rfl ?_ | refine WS_false rfl ?_ | (refine WS_region rfl ?_; intro K' hK hP; simp only [go_sem]; apply hK; (focus (simp only [go_sem]; exact rfl)); clear hK hP K'))
      by_cases hzn : z < 0
      · have tz : decide (z < 0) = true := decide_eq_true hzn
        refine WS_true (by simp only [go_sem, tz]) ?_
        have w1 : IntKind.i64.wrap ((src.size : Int) - (j : Int)) = ((src.size - j : Nat) : Int) := wrapN (by omega) (by omega)
        have w2 : IntKind.i64.wrap ((j : Int) + ((src.size - j : Nat) : Int)) = (src.size : Int) := wrapN (by omega) (by omega)
        repeat (first | refine WS_seq ?_ | refine WS_block ?_ | refine WS_skip ?_ | refine WS_blk ?_ | refine WS_label ?_ | refine WS_exit rfl ?_ | refine WS_true rfl ?_ | refine WS_false rfl ?_ | (refine WS_region rfl ?_; intro K' hK hP; simp only [go_sem, w1, w2]; apply hK; (focus (simp only [go_sem]; exact rfl)); clear hK hP K'))
        exact WS_again src.size rfl ⟨Nat.le_refl _, by rw [← hR1, hix.1 hzn, bl_end]; rfl⟩ (by omega)
      · have tz : decide (z < 0) = false := decide_eq_false hzn
        refine WS_false (by simp only [go_sem, tz]) ?_
        obtain ⟨k, rfl⟩ : ∃ k : Nat, z = (k : Int) := ⟨z.toNat, by omega⟩
        obtain ⟨hk1, hk2⟩ := hix.2 k rfl
        rw [List.length_drop, bl_len] at hk1
        have hk0 : 0 < k := by omega
        have w1 : IntKind.i64.wrap ((j : Int) + (k : Int)) = ((j + k : Nat) : Int) := wrapN (by omega) (by omega)
        repeat (first | refine WS_seq ?_ | refine WS_block ?_ | refine WS_skip ?_ | refine WS_blk ?_ | refine WS_label ?_ | refine WS_exit rfl ?_ | refine WS_true rfl ?_ | refine WS_false rfl ?_ | (refine WS_region rfl ?_; intro K' hK hP; simp only [go_sem, w1]; apply hK; (focus (simp only [go_sem]; exact rfl)); clear hK hP K'))
        exact WS_again (j + k) rfl ⟨by omega, by rw [← hR1, hk2, List.drop_drop]⟩ (by omega)
    · have b35 : ((src[j].toNat : Int) == 35) = false := by simpa using h35
      refine WS_false (by simp only [go_sem, b35]) ?_
      repeat (first | refine WS_seq ?_ | refine WS_block ?_ | refine WS_skip ?_ | refine WS_blk ?_ | refine WS_label ?_ | refine WS_exit rfl ?_ | refine WS_true rfl ?_ | refine WS_false rfl ?_ | (refine WS_region rfl ?_; intro K' hK hP; simp only [go_sem]; apply hK; (focus (simp only [go_sem]; exact rfl)); clear hK hP K'))
      refine WS_region rfl ?_; intro K' hK hP; simp only [go_sem]; refine ((vClass src[j])).mono ?_; rintro _ _ ⟨rfl, rfl⟩; simp only [go_sem]; apply hK; (focus (simp only [go_sem]; exact rfl)); clear hK hP K'
      by_cases hb : isBlank src[j] = true
      · have hc1 := cls_blank _ hb
        refine WS_true (by simp only [go_sem, hc1]; rfl) ?_
        have w1 : IntKind.i64.wrap ((j : Int) + 1) = ((j + 1 : Nat) : Int) := wrapN (by omega) (by omega)
        repeat (first | refine WS_seq ?_ | refine WS_block ?_ | refine WS_skip ?_ | refine WS_blk ?_ | refine WS_label ?_ | refine WS_exit rfl ?_ | refine WS_true rfl ?_ | refine WS_false rfl ?_ | (refine WS_region rfl ?_; intro K' hK hP; simp only [go_sem, w1]; apply hK; (focus (simp only [go_sem]; exact rfl)); clear hK hP K'))
        exact WS_again (j + 1) rfl ⟨by omega, by rw [← h2, hdr, skip_false_blank hb]⟩ (by omega)
      · simp only [Bool.not_eq_true] at hb
        have hc1 := cls_not_blank _ hb
        refine WS_false (by simp only [go_sem, hc1]) ?_
        have e : src.size - R.length = j := by
          rw [← h2, hdr, skip_false_cons, hb, if_neg (by simp), if_neg (fun h => h35 ((eq_iff src[j] 35).1 h)), ← hdr, List.length_drop, bl_len]; omega
        refine WS_ret ?_; simp only [go_sem, e, Tryz.results20]
  · have d1 : decide ((j : Int) < (src.size : Int)) = false := by rw [decide_eq_false_iff_not]; omega
    repeat (first | refine WS_seq ?_ | refine WS_block ?_ | refine WS_skip ?_ | refine WS_blk ?_ | refine WS_label ?_ | refine WS_exit rfl ?_ | refine WS_true rfl ?_ | refine WS_false rfl ?_ | (refine WS_region rfl ?_; intro K' hK hP; simp only [go_sem, d1]; apply hK; (focus (simp only [go_sem]; exact rfl)); clear hK hP K'))
    obtain rfl : j = src.size := by omega
    rw [bl_end] at h2
    have e : src.size - R.length = src.size := by rw [← h2]; rfl
    refine WS_nil ?_
    simp only [go_sem, Tryz.results20, e]
end Go.Proofs.YtjfccohgkgcnfaaGreatDoor
