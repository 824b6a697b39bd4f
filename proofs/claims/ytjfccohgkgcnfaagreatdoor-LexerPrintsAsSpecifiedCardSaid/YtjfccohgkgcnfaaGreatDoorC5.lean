/-
  The reference's Text, walked in plain values.
-/
import Derived.Test.YtjfccohgkgcnfaaGreatDoorB3
import Derived.Test.YtjfccohgkgcnfaaGreatDoorC3
namespace Go.Proofs.YtjfccohgkgcnfaaGreatDoor
open Go.RowKit Go.Q Go.Lx Go.Vl
set_option maxRecDepth 100000
set_option maxHeartbeats 2000000
variable {σ : List (List PV)}
theorem join_snoc : ∀ (ws : List (List UInt8)) (x : List UInt8), Lib.join (ws ++ [x]) [32] = if ws = [] then x else Lib.join ws [32] ++ [32] ++ x
  | [], x => by rw [List.nil_append, Lib.join_one]; rfl
  | w :: ws, x => by
    rw [if_neg (by simp), List.cons_append, Lib.join_cons, Lib.join_cons]
    unfold Lib.joinTail
    rw [List.map_append, List.flatten_append]
    simp [List.append_assoc]
theorem words_long (l : List RT) (N : Nat) (h : ∀ t ∈ l, ∀ x ∈ wordR t, x.length ≤ N) : (Lib.join (wordsR l) [32]).length ≤ l.length * (N + 1) := by
  suffices hs : ∀ k, k ≤ l.length → (Lib.join (wordsR (l.take k)) [32]).length ≤ k * (N + 1) by
    have := hs l.length (Nat.le_refl _)
    rwa [List.take_length] at this
  intro k
  induction k with
  | zero => intro _; simp [wordsR, Lib.join_nil]
  | succ k ih =>
    intro hk
    have h1 := ih (by omega)
    rw [words_succ l k hk]
    have hm := h _ (List.getElem_mem hk)
    have hone : wordR l[k] = [] ∨ ∃ x, wordR l[k] = [x] := by
      unfold wordR
      split
      · exact .inr ⟨_, rfl⟩
      · split
        · exact .inr ⟨_, rfl⟩
        · split
          · exact .inr ⟨_, rfl⟩
          · exact .inl rfl
    have e : (k + 1) * (N + 1) = k * (N + 1) + (N + 1) := Nat.succ_mul _ _
    rcases hone with hw | ⟨x, hw⟩
    · rw [hw, List.append_nil]; omega
    · have hx := hm x (by rw [hw]; simp)
      rw [hw, join_snoc]
      split
      · omega
      · rw [List.length_append, List.length_append, List.length_singleton]; omega
theorem word_le {t : RT} (h1 : -9223372036854775808 ≤ t.v ∧ t.v ≤ 9223372036854775807) (h2 : t.s.length ≤ 1000000) : ∀ x ∈ wordR t, x.length ≤ 2000002 := by
  intro x hx
  unfold wordR at hx
  split at hx
  · rw [List.mem_singleton.1 hx]; omega
  · split at hx
    · rw [List.mem_singleton.1 hx]
      have := itoa_len t.v h1.1 h1.2
      omega
    · split at hx
      · rw [List.mem_singleton.1 hx]
        have := quoted_len t.s
        rw [List.length_append, List.length_cons, List.length_singleton]; omega
      · cases hx
theorem vRefPrint0 (l : List RT) (hl : l.length ≤ 1000000) (hv : ∀ t ∈ l, -9223372036854775808 ≤ t.v ∧ t.v ≤ 9223372036854775807) (hs : ∀ t ∈ l, t.s.length ≤ 1000000) :
    VC Tryz.prog 15 [.sl (l.map rtR) .shared] [] fun x σ' => x = .ret (.lit (.string ⟨⟨Lib.join (wordsR l) [32]⟩⟩)) ∧ σ' = [] := by
  have hll : (l.map rtR).length = l.length := List.length_map _
  have hrow : ∀ k (h : k < l.length), (l.map rtR).getD k [] = rtR l[k] := fun k h => by rw [List.getD_eq_getElem?_getD, List.getElem?_map, List.getElem?_eq_getElem h]; rfl
  have hbig : ∀ k, (Lib.join (wordsR (l.take k)) [32]).length ≤ 3000000000000 := fun k => by
    have := words_long (l.take k) 2000002 fun t ht => word_le (hv t (List.mem_of_mem_take ht)) (hs t (List.mem_of_mem_take ht))
    have h2 : (l.take k).length ≤ 1000000 := by rw [List.length_take]; omega
    exact Nat.le_trans this (Nat.le_trans (Nat.mul_le_mul_right _ h2) (by decide))
  obtain ⟨Z, hZ⟩ : ∃ Z, l.map rtR = Z := ⟨_, rfl⟩
  rw [hZ] at hll hrow ⊢
  refine VC.intro ⟨[0, 2, 3, 4, 5, 6, 10, 17, 18, 26, 34, 43], []⟩ Tryz.func15 rfl follows ok15 (by rw [Tryz.ntmps15]; exact Nat.le_of_ble_eq_true rfl) ?_; refine WS_of ?_
  repeat (first | refine WS_seq ?_ | refine WS_block ?_ | refine WS_skip ?_ | refine WS_blk ?_ | refine WS_label ?_ | refine WS_exit rfl ?_ | refine WS_true rfl ?_ | refine WS_false rfl ?_ | (refine WS_region rfl ?_; intro K' hK hP; simp only [go_sem]; apply hK; (focus (simp only [go_sem]; exact rfl)); clear hK hP K'))
  refine WS_for [0, 3, 4, 5] 0 (fun k : Nat => k ≤ l.length) (fun k => l.length - k)
    (fun k => ⟨[(0, .sl Z .shared), (3, .lit (.string ⟨⟨Lib.join (wordsR (l.take k)) [32]⟩⟩)), (4, .lit (.bool (decide (wordsR (l.take k) = [])))), (5, .lit (.int .i64 (k : Int)))], []⟩) 0 (Nat.zero_le _) ?_ (Nat.zero_le _) ?_
  · exact rfl
  rintro k hk
  by_cases hlt : k < l.length
  · have d1 : decide ((k : Int) < (Z.length : Int)) = true := by rw [decide_eq_true_eq]; omega
    have hr := hrow k hlt
    have hsu := words_succ l k hlt
    have hm := List.getElem_mem hlt
    have hvk := hv _ hm
    have hsk := hs _ hm
    have hwk := word_le hvk hsk
    have hb := hbig k
    have w1 : IntKind.i64.wrap ((k : Int) + 1) = ((k + 1 : Nat) : Int) := wrapN (by omega) (by omega)
    revert hr hsu hvk hsk hwk
    generalize l[k] = t
    intro hr hsu hvk hsk hwk
    obtain ⟨tk, ta, ts, tv⟩ := t
    unfold rtR at hr
    obtain ⟨W, hW⟩ : ∃ W, wordsR (l.take k) = W := ⟨_, rfl⟩
    rw [hW] at hsu hb ⊢
    simp only at hvk hsk hr
    repeat (first | refine WS_seq ?_ | refine WS_block ?_ | refine WS_skip ?_ | refine WS_blk ?_ | refine WS_label ?_ | refine WS_exit rfl ?_ | refine WS_true rfl ?_ | refine WS_false rfl ?_ | (refine WS_region rfl ?_; intro K' hK hP; simp only [go_sem, d1]; apply hK; (focus (simp only [go_sem]; exact rfl)); clear hK hP K'))
    refine WS_region rfl ?_; intro K' hK hP; simp only [go_sem, hr]
    refine ⟨⟨by omega, by omega⟩, ?_⟩
    apply hK; (focus (simp only [go_sem]; exact rfl)); clear hK hP K'
    by_cases k1 : tk = 1
    · have b1 : (tk == 1) = true := beq_iff_eq.2 k1
      have hwd : wordR ⟨tk, ta, ts, tv⟩ = [ts] := by unfold wordR; rw [if_pos (.inl k1)]
      rw [hwd] at hsu hwk
      repeat (first | refine WS_seq ?_ | refine WS_block ?_ | refine WS_skip ?_ | refine WS_blk ?_ | refine WS_label ?_ | refine WS_exit rfl ?_ | refine WS_true rfl ?_ | refine WS_false rfl ?_ | (refine WS_region rfl ?_; intro K' hK hP; simp only [go_sem, b1]; apply hK; (focus (simp only [go_sem]; exact rfl)); clear hK hP K'))
      refine WS_region rfl ?_; intro K' hK hP; simp only [go_sem, hr]
      refine ⟨⟨by omega, by omega⟩, ?_⟩
      apply hK; (focus (simp only [go_sem]; exact rfl)); clear hK hP K'
      have hwl := hwk (ts) (by simp)
      have hj := join_snoc W (ts)
      rw [← hsu] at hj
      by_cases hW0 : W = []
      · have bw : decide (W = []) = true := decide_eq_true hW0
        rw [if_pos hW0] at hj
        have hO : Lib.join W [32] = [] := by rw [hW0]; rfl
        have bn : decide (W ++ [ts] = []) = false := decide_eq_false (by simp)
        repeat (first | refine WS_seq ?_ | refine WS_block ?_ | refine WS_skip ?_ | refine WS_blk ?_ | refine WS_label ?_ | refine WS_exit rfl ?_ | refine WS_true rfl ?_ | refine WS_false rfl ?_ | (refine WS_region rfl ?_; intro K' hK hP; simp only [go_sem, bw]; apply hK; (focus (simp only [go_sem]; exact rfl)); clear hK hP K'))
        refine WS_region rfl ?_; intro K' hK hP; simp only [go_sem, ba_app]
        refine ⟨by show (Lib.join W [32]).length + (ts).length ≤ _; omega, ?_⟩
        apply hK; (focus (simp only [go_sem]; exact rfl)); clear hK hP K'
        repeat (first | refine WS_seq ?_ | refine WS_block ?_ | refine WS_skip ?_ | refine WS_blk ?_ | refine WS_label ?_ | refine WS_exit rfl ?_ | refine WS_true rfl ?_ | refine WS_false rfl ?_ | (refine WS_region rfl ?_; intro K' hK hP; simp only [go_sem, w1]; apply hK; (focus (simp only [go_sem]; exact rfl)); clear hK hP K'))
        exact WS_again (k + 1) (by rw [hsu, bn, hO, List.nil_append]; rw [hsu] at hj; rw [hj]; rfl) hlt (by omega)
      · have bw : decide (W = []) = false := decide_eq_false hW0
        rw [if_neg hW0] at hj
        have bn : decide (W ++ [ts] = []) = false := decide_eq_false (by simp)
        repeat (first | refine WS_seq ?_ | refine WS_block ?_ | refine WS_skip ?_ | refine WS_blk ?_ | refine WS_label ?_ | refine WS_exit rfl ?_ | refine WS_true rfl ?_ | refine WS_false rfl ?_ | (refine WS_region rfl ?_; intro K' hK hP; simp only [go_sem, bw]; apply hK; (focus (simp only [go_sem]; exact rfl)); clear hK hP K'))
        refine WS_region rfl ?_; intro K' hK hP; simp only [go_sem, ba_app]
        refine ⟨by show (Lib.join W [32]).length + 1 ≤ _; omega, ?_⟩
        apply hK; (focus (simp only [go_sem]; exact rfl)); clear hK hP K'
        repeat (first | refine WS_seq ?_ | refine WS_block ?_ | refine WS_skip ?_ | refine WS_blk ?_ | refine WS_label ?_ | refine WS_exit rfl ?_ | refine WS_true rfl ?_ | refine WS_false rfl ?_ | (refine WS_region rfl ?_; intro K' hK hP; simp only [go_sem]; apply hK; (focus (simp only [go_sem]; exact rfl)); clear hK hP K'))
        refine WS_region rfl ?_; intro K' hK hP; simp only [go_sem, ba_app]
        refine ⟨by show (Lib.join W [32] ++ [32]).length + (ts).length ≤ _; rw [List.length_append, List.length_singleton]; omega, ?_⟩
        apply hK; (focus (simp only [go_sem]; exact rfl)); clear hK hP K'
        repeat (first | refine WS_seq ?_ | refine WS_block ?_ | refine WS_skip ?_ | refine WS_blk ?_ | refine WS_label ?_ | refine WS_exit rfl ?_ | refine WS_true rfl ?_ | refine WS_false rfl ?_ | (refine WS_region rfl ?_; intro K' hK hP; simp only [go_sem, w1]; apply hK; (focus (simp only [go_sem]; exact rfl)); clear hK hP K'))
        exact WS_again (k + 1) (by rw [hsu, bn]; rw [hsu] at hj; rw [hj]; rfl) hlt (by omega)
    have b1 : (tk == 1) = false := beq_eq_false_iff_ne.2 k1
    by_cases k4 : tk = 4
    · have b4 : (tk == 4) = true := beq_iff_eq.2 k4
      have hwd : wordR ⟨tk, ta, ts, tv⟩ = [ts] := by unfold wordR; rw [if_pos (.inr k4)]
      rw [hwd] at hsu hwk
      repeat (first | refine WS_seq ?_ | refine WS_block ?_ | refine WS_skip ?_ | refine WS_blk ?_ | refine WS_label ?_ | refine WS_exit rfl ?_ | refine WS_true rfl ?_ | refine WS_false rfl ?_ | (refine WS_region rfl ?_; intro K' hK hP; simp only [go_sem, b1, b4]; apply hK; (focus (simp only [go_sem]; exact rfl)); clear hK hP K'))
      refine WS_region rfl ?_; intro K' hK hP; simp only [go_sem, hr]
      refine ⟨⟨by omega, by omega⟩, ?_⟩
      apply hK; (focus (simp only [go_sem]; exact rfl)); clear hK hP K'
      have hwl := hwk (ts) (by simp)
      have hj := join_snoc W (ts)
      rw [← hsu] at hj
      by_cases hW0 : W = []
      · have bw : decide (W = []) = true := decide_eq_true hW0
        rw [if_pos hW0] at hj
        have hO : Lib.join W [32] = [] := by rw [hW0]; rfl
        have bn : decide (W ++ [ts] = []) = false := decide_eq_false (by simp)
        repeat (first | refine WS_seq ?_ | refine WS_block ?_ | refine WS_skip ?_ | refine WS_blk ?_ | refine WS_label ?_ | refine WS_exit rfl ?_ | refine WS_true rfl ?_ | refine WS_false rfl ?_ | (refine WS_region rfl ?_; intro K' hK hP; simp only [go_sem, bw]; apply hK; (focus (simp only [go_sem]; exact rfl)); clear hK hP K'))
        refine WS_region rfl ?_; intro K' hK hP; simp only [go_sem, ba_app]
        refine ⟨by show (Lib.join W [32]).length + (ts).length ≤ _; omega, ?_⟩
        apply hK; (focus (simp only [go_sem]; exact rfl)); clear hK hP K'
        repeat (first | refine WS_seq ?_ | refine WS_block ?_ | refine WS_skip ?_ | refine WS_blk ?_ | refine WS_label ?_ | refine WS_exit rfl ?_ | refine WS_true rfl ?_ | refine WS_false rfl ?_ | (refine WS_region rfl ?_; intro K' hK hP; simp only [go_sem, w1]; apply hK; (focus (simp only [go_sem]; exact rfl)); clear hK hP K'))
        exact WS_again (k + 1) (by rw [hsu, bn, hO, List.nil_append]; rw [hsu] at hj; rw [hj]; rfl) hlt (by omega)
      · have bw : decide (W = []) = false := decide_eq_false hW0
        rw [if_neg hW0] at hj
        have bn : decide (W ++ [ts] = []) = false := decide_eq_false (by simp)
        repeat (first | refine WS_seq ?_ | refine WS_block ?_ | refine WS_skip ?_ | refine WS_blk ?_ | refine WS_label ?_ | refine WS_exit rfl ?_ | refine WS_true rfl ?_ | refine WS_false rfl ?_ | (refine WS_region rfl ?_; intro K' hK hP; simp only [go_sem, bw]; apply hK; (focus (simp only [go_sem]; exact rfl)); clear hK hP K'))
        refine WS_region rfl ?_; intro K' hK hP; simp only [go_sem, ba_app]
        refine ⟨by show (Lib.join W [32]).length + 1 ≤ _; omega, ?_⟩
        apply hK; (focus (simp only [go_sem]; exact rfl)); clear hK hP K'
        repeat (first | refine WS_seq ?_ | refine WS_block ?_ | refine WS_skip ?_ | refine WS_blk ?_ | refine WS_label ?_ | refine WS_exit rfl ?_ | refine WS_true rfl ?_ | refine WS_false rfl ?_ | (refine WS_region rfl ?_; intro K' hK hP; simp only [go_sem]; apply hK; (focus (simp only [go_sem]; exact rfl)); clear hK hP K'))
        refine WS_region rfl ?_; intro K' hK hP; simp only [go_sem, ba_app]
        refine ⟨by show (Lib.join W [32] ++ [32]).length + (ts).length ≤ _; rw [List.length_append, List.length_singleton]; omega, ?_⟩
        apply hK; (focus (simp only [go_sem]; exact rfl)); clear hK hP K'
        repeat (first | refine WS_seq ?_ | refine WS_block ?_ | refine WS_skip ?_ | refine WS_blk ?_ | refine WS_label ?_ | refine WS_exit rfl ?_ | refine WS_true rfl ?_ | refine WS_false rfl ?_ | (refine WS_region rfl ?_; intro K' hK hP; simp only [go_sem, w1]; apply hK; (focus (simp only [go_sem]; exact rfl)); clear hK hP K'))
        exact WS_again (k + 1) (by rw [hsu, bn]; rw [hsu] at hj; rw [hj]; rfl) hlt (by omega)
    have b4 : (tk == 4) = false := beq_eq_false_iff_ne.2 k4
    have n14 : ¬ (tk = 1 ∨ tk = 4) := fun h => h.elim k1 k4
    by_cases k2 : tk = 2
    · have b2 : (tk == 2) = true := beq_iff_eq.2 k2
      have hwd : wordR ⟨tk, ta, ts, tv⟩ = [Lib.itoa tv] := by unfold wordR; rw [if_neg n14, if_pos k2]
      rw [hwd] at hsu hwk
      repeat (first | refine WS_seq ?_ | refine WS_block ?_ | refine WS_skip ?_ | refine WS_blk ?_ | refine WS_label ?_ | refine WS_exit rfl ?_ | refine WS_true rfl ?_ | refine WS_false rfl ?_ | (refine WS_region rfl ?_; intro K' hK hP; simp only [go_sem, b1, b4, b2]; apply hK; (focus (simp only [go_sem]; exact rfl)); clear hK hP K'))
      refine WS_region rfl ?_; intro K' hK hP; simp only [go_sem, hr]
      refine ⟨⟨by omega, by omega⟩, ?_⟩
      refine ((vDec tv hvk.1 hvk.2 _)).mono ?_; rintro _ _ ⟨rfl, rfl⟩; simp only [go_sem]
      apply hK; (focus (simp only [go_sem]; exact rfl)); clear hK hP K'
      have hwl := hwk (Lib.itoa tv) (by simp)
      have hj := join_snoc W (Lib.itoa tv)
      rw [← hsu] at hj
      by_cases hW0 : W = []
      · have bw : decide (W = []) = true := decide_eq_true hW0
        rw [if_pos hW0] at hj
        have hO : Lib.join W [32] = [] := by rw [hW0]; rfl
        have bn : decide (W ++ [Lib.itoa tv] = []) = false := decide_eq_false (by simp)
        repeat (first | refine WS_seq ?_ | refine WS_block ?_ | refine WS_skip ?_ | refine WS_blk ?_ | refine WS_label ?_ | refine WS_exit rfl ?_ | refine WS_true rfl ?_ | refine WS_false rfl ?_ | (refine WS_region rfl ?_; intro K' hK hP; simp only [go_sem, bw]; apply hK; (focus (simp only [go_sem]; exact rfl)); clear hK hP K'))
        refine WS_region rfl ?_; intro K' hK hP; simp only [go_sem, ba_app]
        refine ⟨by show (Lib.join W [32]).length + (Lib.itoa tv).length ≤ _; omega, ?_⟩
        apply hK; (focus (simp only [go_sem]; exact rfl)); clear hK hP K'
        repeat (first | refine WS_seq ?_ | refine WS_block ?_ | refine WS_skip ?_ | refine WS_blk ?_ | refine WS_label ?_ | refine WS_exit rfl ?_ | refine WS_true rfl ?_ | refine WS_false rfl ?_ | (refine WS_region rfl ?_; intro K' hK hP; simp only [go_sem, w1]; apply hK; (focus (simp only [go_sem]; exact rfl)); clear hK hP K'))
        exact WS_again (k + 1) (by rw [hsu, bn, hO, List.nil_append]; rw [hsu] at hj; rw [hj]; rfl) hlt (by omega)
      · have bw : decide (W = []) = false := decide_eq_false hW0
        rw [if_neg hW0] at hj
        have bn : decide (W ++ [Lib.itoa tv] = []) = false := decide_eq_false (by simp)
        repeat (first | refine WS_seq ?_ | refine WS_block ?_ | refine WS_skip ?_ | refine WS_blk ?_ | refine WS_label ?_ | refine WS_exit rfl ?_ | refine WS_true rfl ?_ | refine WS_false rfl ?_ | (refine WS_region rfl ?_; intro K' hK hP; simp only [go_sem, bw]; apply hK; (focus (simp only [go_sem]; exact rfl)); clear hK hP K'))
        refine WS_region rfl ?_; intro K' hK hP; simp only [go_sem, ba_app]
        refine ⟨by show (Lib.join W [32]).length + 1 ≤ _; omega, ?_⟩
        apply hK; (focus (simp only [go_sem]; exact rfl)); clear hK hP K'
        repeat (first | refine WS_seq ?_ | refine WS_block ?_ | refine WS_skip ?_ | refine WS_blk ?_ | refine WS_label ?_ | refine WS_exit rfl ?_ | refine WS_true rfl ?_ | refine WS_false rfl ?_ | (refine WS_region rfl ?_; intro K' hK hP; simp only [go_sem]; apply hK; (focus (simp only [go_sem]; exact rfl)); clear hK hP K'))
        refine WS_region rfl ?_; intro K' hK hP; simp only [go_sem, ba_app]
        refine ⟨by show (Lib.join W [32] ++ [32]).length + (Lib.itoa tv).length ≤ _; rw [List.length_append, List.length_singleton]; omega, ?_⟩
        apply hK; (focus (simp only [go_sem]; exact rfl)); clear hK hP K'
        repeat (first | refine WS_seq ?_ | refine WS_block ?_ | refine WS_skip ?_ | refine WS_blk ?_ | refine WS_label ?_ | refine WS_exit rfl ?_ | refine WS_true rfl ?_ | refine WS_false rfl ?_ | (refine WS_region rfl ?_; intro K' hK hP; simp only [go_sem, w1]; apply hK; (focus (simp only [go_sem]; exact rfl)); clear hK hP K'))
        exact WS_again (k + 1) (by rw [hsu, bn]; rw [hsu] at hj; rw [hj]; rfl) hlt (by omega)
    have b2 : (tk == 2) = false := beq_eq_false_iff_ne.2 k2
    by_cases k3 : tk = 3
    · have b3 : (tk == 3) = true := beq_iff_eq.2 k3
      have hwd : wordR ⟨tk, ta, ts, tv⟩ = [34 :: Lx.quoted ts ++ [34]] := by unfold wordR; rw [if_neg n14, if_neg k2, if_pos k3]
      rw [hwd] at hsu hwk
      repeat (first | refine WS_seq ?_ | refine WS_block ?_ | refine WS_skip ?_ | refine WS_blk ?_ | refine WS_label ?_ | refine WS_exit rfl ?_ | refine WS_true rfl ?_ | refine WS_false rfl ?_ | (refine WS_region rfl ?_; intro K' hK hP; simp only [go_sem, b1, b4, b2, b3]; apply hK; (focus (simp only [go_sem]; exact rfl)); clear hK hP K'))
      refine WS_region rfl ?_; intro K' hK hP; simp only [go_sem, hr]
      refine ⟨⟨by omega, by omega⟩, ?_⟩
      refine ((vQuoted ⟨⟨ts⟩⟩ hsk)).mono ?_; rintro _ _ ⟨rfl, rfl⟩; simp only [go_sem]
      apply hK; (focus (simp only [go_sem]; exact rfl)); clear hK hP K'
      have hwl := hwk (34 :: Lx.quoted ts ++ [34]) (by simp)
      have hj := join_snoc W (34 :: Lx.quoted ts ++ [34])
      rw [← hsu] at hj
      by_cases hW0 : W = []
      · have bw : decide (W = []) = true := decide_eq_true hW0
        rw [if_pos hW0] at hj
        have hO : Lib.join W [32] = [] := by rw [hW0]; rfl
        have bn : decide (W ++ [34 :: Lx.quoted ts ++ [34]] = []) = false := decide_eq_false (by simp)
        repeat (first | refine WS_seq ?_ | refine WS_block ?_ | refine WS_skip ?_ | refine WS_blk ?_ | refine WS_label ?_ | refine WS_exit rfl ?_ | refine WS_true rfl ?_ | refine WS_false rfl ?_ | (refine WS_region rfl ?_; intro K' hK hP; simp only [go_sem, bw]; apply hK; (focus (simp only [go_sem]; exact rfl)); clear hK hP K'))
        refine WS_region rfl ?_; intro K' hK hP; simp only [go_sem, ba_app]
        refine ⟨by show (Lib.join W [32]).length + (34 :: Lx.quoted ts ++ [34]).length ≤ _; omega, ?_⟩
        apply hK; (focus (simp only [go_sem]; exact rfl)); clear hK hP K'
        repeat (first | refine WS_seq ?_ | refine WS_block ?_ | refine WS_skip ?_ | refine WS_blk ?_ | refine WS_label ?_ | refine WS_exit rfl ?_ | refine WS_true rfl ?_ | refine WS_false rfl ?_ | (refine WS_region rfl ?_; intro K' hK hP; simp only [go_sem, w1]; apply hK; (focus (simp only [go_sem]; exact rfl)); clear hK hP K'))
        exact WS_again (k + 1) (by rw [hsu, bn, hO, List.nil_append]; rw [hsu] at hj; rw [hj]; rfl) hlt (by omega)
      · have bw : decide (W = []) = false := decide_eq_false hW0
        rw [if_neg hW0] at hj
        have bn : decide (W ++ [34 :: Lx.quoted ts ++ [34]] = []) = false := decide_eq_false (by simp)
        repeat (first | refine WS_seq ?_ | refine WS_block ?_ | refine WS_skip ?_ | refine WS_blk ?_ | refine WS_label ?_ | refine WS_exit rfl ?_ | refine WS_true rfl ?_ | refine WS_false rfl ?_ | (refine WS_region rfl ?_; intro K' hK hP; simp only [go_sem, bw]; apply hK; (focus (simp only [go_sem]; exact rfl)); clear hK hP K'))
        refine WS_region rfl ?_; intro K' hK hP; simp only [go_sem, ba_app]
        refine ⟨by show (Lib.join W [32]).length + 1 ≤ _; omega, ?_⟩
        apply hK; (focus (simp only [go_sem]; exact rfl)); clear hK hP K'
        repeat (first | refine WS_seq ?_ | refine WS_block ?_ | refine WS_skip ?_ | refine WS_blk ?_ | refine WS_label ?_ | refine WS_exit rfl ?_ | refine WS_true rfl ?_ | refine WS_false rfl ?_ | (refine WS_region rfl ?_; intro K' hK hP; simp only [go_sem]; apply hK; (focus (simp only [go_sem]; exact rfl)); clear hK hP K'))
        refine WS_region rfl ?_; intro K' hK hP; simp only [go_sem, ba_app]
        refine ⟨by show (Lib.join W [32] ++ [32]).length + (34 :: Lx.quoted ts ++ [34]).length ≤ _; rw [List.length_append, List.length_singleton]; omega, ?_⟩
        apply hK; (focus (simp only [go_sem]; exact rfl)); clear hK hP K'
        repeat (first | refine WS_seq ?_ | refine WS_block ?_ | refine WS_skip ?_ | refine WS_blk ?_ | refine WS_label ?_ | refine WS_exit rfl ?_ | refine WS_true rfl ?_ | refine WS_false rfl ?_ | (refine WS_region rfl ?_; intro K' hK hP; simp only [go_sem, w1]; apply hK; (focus (simp only [go_sem]; exact rfl)); clear hK hP K'))
        exact WS_again (k + 1) (by rw [hsu, bn]; rw [hsu] at hj; rw [hj]; rfl) hlt (by omega)
    have b3 : (tk == 3) = false := beq_eq_false_iff_ne.2 k3
    have hwd : wordR ⟨tk, ta, ts, tv⟩ = [] := by unfold wordR; rw [if_neg n14, if_neg k2, if_neg k3]
    rw [hwd, List.append_nil] at hsu
    repeat (first | refine WS_seq ?_ | refine WS_block ?_ | refine WS_skip ?_ | refine WS_blk ?_ | refine WS_label ?_ | refine WS_exit rfl ?_ | refine WS_true rfl ?_ | refine WS_false rfl ?_ | (refine WS_region rfl ?_; intro K' hK hP; simp only [go_sem, b1, b4, b2, b3, w1]; apply hK; (focus (simp only [go_sem]; exact rfl)); clear hK hP K'))
    exact WS_again (k + 1) (by rw [hsu]; rfl) hlt (by omega)
  · have d1 : decide ((k : Int) < (Z.length : Int)) = false := by rw [decide_eq_false_iff_not]; omega
    obtain rfl : k = l.length := by omega
    rw [List.take_length]
    repeat (first | refine WS_seq ?_ | refine WS_block ?_ | refine WS_skip ?_ | refine WS_blk ?_ | refine WS_label ?_ | refine WS_exit rfl ?_ | refine WS_true rfl ?_ | refine WS_false rfl ?_ | (refine WS_region rfl ?_; intro K' hK hP; simp only [go_sem, d1]; apply hK; (focus (simp only [go_sem]; exact rfl)); clear hK hP K'))
    refine WS_ret ?_; simp only [go_sem, Tryz.results15]
theorem vRefPrint (l : List RT) (hl : l.length ≤ 1000000) (hv : ∀ t ∈ l, -9223372036854775808 ≤ t.v ∧ t.v ≤ 9223372036854775807) (hs : ∀ t ∈ l, t.s.length ≤ 1000000) (σ : List (List PV)) :
    VC Tryz.prog 15 [.sl (l.map rtR) .shared] σ fun x σ' => x = .ret (.lit (.string ⟨⟨Lib.join (wordsR l) [32]⟩⟩)) ∧ σ' = σ := by
  refine VC.pure ((vRefPrint0 l hl hv hs).mono ?_) rfl
  rintro _ _ ⟨rfl, rfl⟩
  exact ⟨rfl, rfl⟩
end Go.Proofs.YtjfccohgkgcnfaaGreatDoor
