/-
  The law LexerPrintsAsSpecified, walked in plain values.
-/
import Derived.Test.YtjfccohgkgcnfaaGreatDoorB5
import Derived.Test.YtjfccohgkgcnfaaGreatDoorC5
namespace Go.Proofs.YtjfccohgkgcnfaaGreatDoor
open Go.RowKit Go.Q Go.Lx Go.Vl
set_option maxRecDepth 100000
set_option maxHeartbeats 1000000
theorem vLaw4 (hrep : Rep) (l : List RT) (hv : ∀ t ∈ l, -9223372036854775808 ≤ t.v ∧ t.v ≤ 9223372036854775807) :
    VC Tryz.prog 4 [.sl (l.map rtR) .shared] [] fun x σ' => x = .ret (.lit (.bool true)) ∧ σ' = [] := by
  have hll : (l.map rtR).length = l.length := List.length_map _
  have hrow : ∀ k (h : k < l.length), (l.map rtR).getD k [] = rtR l[k] := fun k h => by rw [List.getD_eq_getElem?_getD, List.getElem?_map, List.getElem?_eq_getElem h]; rfl
  have hZ0 : ∃ Z, l.map rtR = Z := ⟨_, rfl⟩
  obtain ⟨Z, hZ⟩ := hZ0
  rw [hZ] at hll hrow ⊢
  refine VC.intro ⟨[0, 2, 3, 6, 11, 20], []⟩ Tryz.func4 rfl follows ok4 (by rw [Tryz.ntmps4]; exact Nat.le_of_ble_eq_true rfl) ?_; refine WS_of ?_
  repeat (first | refine WS_seq ?_ | refine WS_block ?_ | refine WS_skip ?_ | refine WS_blk ?_ | refine WS_label ?_ | refine WS_exit rfl ?_ | refine WS_true rfl ?_ | refine WS_false rfl ?_ | (refine WS_region rfl ?_; intro K' hK hP; simp only [go_sem]; apply hK; (focus (simp only [go_sem]; exact rfl)); clear hK hP K'))
  by_cases h7 : 200 < l.length
  · have d1 : decide ((200 : Int) < (Z.length : Int)) = true := by rw [decide_eq_true_eq]; omega
    refine WS_true (by simp only [go_sem, d1]) ?_
    repeat (first | refine WS_seq ?_ | refine WS_block ?_ | refine WS_skip ?_ | refine WS_blk ?_ | refine WS_label ?_ | refine WS_exit rfl ?_ | refine WS_true rfl ?_ | refine WS_false rfl ?_ | (refine WS_region rfl ?_; intro K' hK hP; simp only [go_sem]; apply hK; (focus (simp only [go_sem]; exact rfl)); clear hK hP K'))
    refine WS_region rfl ?_; intro K' hK hP; simp only [go_sem]; refine ((vSanity _)).mono ?_; rintro _ _ ⟨rfl, rfl⟩; simp only [go_sem]; apply hK; (focus (simp only [go_sem]; exact rfl)); clear hK hP K'
    repeat (first | refine WS_seq ?_ | refine WS_block ?_ | refine WS_skip ?_ | refine WS_blk ?_ | refine WS_label ?_ | refine WS_exit rfl ?_ | refine WS_true rfl ?_ | refine WS_false rfl ?_ | (refine WS_region rfl ?_; intro K' hK hP; simp only [go_sem]; apply hK; (focus (simp only [go_sem]; exact rfl)); clear hK hP K'))
    refine WS_ret ?_; simp only [go_sem, Tryz.results4]
  have d1 : decide ((200 : Int) < (Z.length : Int)) = false := by rw [decide_eq_false_iff_not]; omega
  refine WS_false (by simp only [go_sem, d1]) ?_
  repeat (first | refine WS_seq ?_ | refine WS_block ?_ | refine WS_skip ?_ | refine WS_blk ?_ | refine WS_label ?_ | refine WS_exit rfl ?_ | refine WS_true rfl ?_ | refine WS_false rfl ?_ | (refine WS_region rfl ?_; intro K' hK hP; simp only [go_sem]; apply hK; (focus (simp only [go_sem]; exact rfl)); clear hK hP K'))
  refine WS_for [0, 2, 3] 0 (fun k : Nat => k ≤ l.length ∧ ∀ t ∈ l.take k, t.s.length ≤ 400) (fun k => l.length - k)
    (fun k => ⟨[(0, .sl Z .shared), (2, .lit (.bool false)), (3, .lit (.int .i64 (k : Int)))], []⟩) 0 (Nat.zero_le _) ?_ ⟨Nat.zero_le _, by simp⟩ ?_
  · exact rfl
  rintro k ⟨hk, hsm⟩
  by_cases hlt : k < l.length
  · have d2 : decide ((k : Int) < (Z.length : Int)) = true := by rw [decide_eq_true_eq]; omega
    have hr := hrow k hlt
    have htk : l.take (k + 1) = l.take k ++ [l[k]] := by rw [List.take_add_one, List.getElem?_eq_getElem hlt]; rfl
    have w1 : IntKind.i64.wrap ((k : Int) + 1) = ((k + 1 : Nat) : Int) := wrapN (by omega) (by omega)
    revert hr htk
    generalize l[k] = x
    intro hr htk
    unfold rtR at hr
    have hsz : (⟨⟨x.s⟩⟩ : ByteArray).size = x.s.length := rfl
    repeat (first | refine WS_seq ?_ | refine WS_block ?_ | refine WS_skip ?_ | refine WS_blk ?_ | refine WS_label ?_ | refine WS_exit rfl ?_ | refine WS_true rfl ?_ | refine WS_false rfl ?_ | (refine WS_region rfl ?_; intro K' hK hP; simp only [go_sem, d2]; apply hK; (focus (simp only [go_sem]; exact rfl)); clear hK hP K'))
    by_cases hx : 400 < x.s.length
    · have d3 : decide ((400 : Int) < (x.s.length : Int)) = true := by rw [decide_eq_true_eq]; omega
      refine WS_region rfl ?_; intro K' hK hP; simp only [go_sem, hr, hsz, d3]
      refine ⟨⟨by omega, by omega⟩, ?_⟩
      apply hK; (focus (simp only [go_sem]; exact rfl)); clear hK hP K'
      repeat (first | refine WS_seq ?_ | refine WS_block ?_ | refine WS_skip ?_ | refine WS_blk ?_ | refine WS_label ?_ | refine WS_exit rfl ?_ | refine WS_true rfl ?_ | refine WS_false rfl ?_ | (refine WS_region rfl ?_; intro K' hK hP; simp only [go_sem]; apply hK; (focus (simp only [go_sem]; exact rfl)); clear hK hP K'))
      refine WS_region rfl ?_; intro K' hK hP; simp only [go_sem]; refine ((vSanity _)).mono ?_; rintro _ _ ⟨rfl, rfl⟩; simp only [go_sem]; apply hK; (focus (simp only [go_sem]; exact rfl)); clear hK hP K'
      repeat (first | refine WS_seq ?_ | refine WS_block ?_ | refine WS_skip ?_ | refine WS_blk ?_ | refine WS_label ?_ | refine WS_exit rfl ?_ | refine WS_true rfl ?_ | refine WS_false rfl ?_ | (refine WS_region rfl ?_; intro K' hK hP; simp only [go_sem]; apply hK; (focus (simp only [go_sem]; exact rfl)); clear hK hP K'))
      refine WS_ret ?_; simp only [go_sem, Tryz.results4]
    · have d3 : decide ((400 : Int) < (x.s.length : Int)) = false := by rw [decide_eq_false_iff_not]; omega
      refine WS_region rfl ?_; intro K' hK hP; simp only [go_sem, hr, hsz, d3]
      refine ⟨⟨by omega, by omega⟩, ?_⟩
      apply hK; (focus (simp only [go_sem]; exact rfl)); clear hK hP K'
      repeat (first | refine WS_seq ?_ | refine WS_block ?_ | refine WS_skip ?_ | refine WS_blk ?_ | refine WS_label ?_ | refine WS_exit rfl ?_ | refine WS_true rfl ?_ | refine WS_false rfl ?_ | (refine WS_region rfl ?_; intro K' hK hP; simp only [go_sem, w1]; apply hK; (focus (simp only [go_sem]; exact rfl)); clear hK hP K'))
      refine WS_again (k + 1) rfl ⟨hlt, fun t ht => ?_⟩ (by omega)
      rw [htk] at ht
      rcases List.mem_append.1 ht with h | h
      · exact hsm t h
      · rw [List.mem_singleton.1 h]; omega
  · have d2 : decide ((k : Int) < (Z.length : Int)) = false := by rw [decide_eq_false_iff_not]; omega
    obtain rfl : k = l.length := by omega
    rw [List.take_length] at hsm
    have hs6 : ∀ t ∈ l, t.s.length ≤ 1000000 := fun t ht => by have := hsm t ht; omega
    have hbig : (Lib.join (wordsR l) [32]).length ≤ 140737488355328 := by
      have := words_long l 2000002 fun t ht => word_le (hv t ht) (hs6 t ht)
      exact Nat.le_trans this (Nat.le_trans (Nat.mul_le_mul_right _ (show l.length ≤ 200 by omega)) (by decide))
    have c1 := fun σ => vPrint (σ := σ) l (by omega) hv hbig (fun t ht => .inr ⟨hrep, hs6 t ht⟩) .shared
    have c2 := fun σ => vRefPrint l (by omega) hv hs6 σ
    rw [hZ] at c1 c2
    repeat (first | refine WS_seq ?_ | refine WS_block ?_ | refine WS_skip ?_ | refine WS_blk ?_ | refine WS_label ?_ | refine WS_exit rfl ?_ | refine WS_true rfl ?_ | refine WS_false rfl ?_ | (refine WS_region rfl ?_; intro K' hK hP; simp only [go_sem, d2]; apply hK; (focus (simp only [go_sem]; exact rfl)); clear hK hP K'))
    refine WS_region rfl ?_; intro K' hK hP; simp only [go_sem]
    refine ((vSanity _)).mono ?_; rintro _ _ ⟨rfl, rfl⟩; simp only [go_sem]
    refine ((c1 _)).mono ?_; rintro _ _ ⟨rfl, rfl⟩; simp only [go_sem]
    refine ((c2 _)).mono ?_; rintro _ _ ⟨rfl, rfl⟩; simp only [go_sem, decide_true]
    apply hK; (focus (simp only [go_sem]; exact rfl)); clear hK hP K'
    repeat (first | refine WS_seq ?_ | refine WS_block ?_ | refine WS_skip ?_ | refine WS_blk ?_ | refine WS_label ?_ | refine WS_exit rfl ?_ | refine WS_true rfl ?_ | refine WS_false rfl ?_ | (refine WS_region rfl ?_; intro K' hK hP; simp only [go_sem]; apply hK; (focus (simp only [go_sem]; exact rfl)); clear hK hP K'))
    refine WS_ret ?_; simp only [go_sem, Tryz.results4]
end Go.Proofs.YtjfccohgkgcnfaaGreatDoor
