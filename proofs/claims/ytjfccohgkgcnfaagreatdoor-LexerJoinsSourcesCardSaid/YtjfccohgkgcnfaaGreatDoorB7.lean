/-
  The law LexerJoinsSources, walked in plain values.
-/
import Derived.Test.YtjfccohgkgcnfaaGreatDoorB5
namespace Go.Proofs.YtjfccohgkgcnfaaGreatDoor
open Go.RowKit Go.Q Go.Lx Go.Vl
set_option maxRecDepth 100000
set_option maxHeartbeats 1000000
theorem good_at {n : Nat} {r : List UInt8} {l : List Tok} (h : Lx.Good n r l) : ∀ x ∈ l, x.at_ ≤ n := by
  induction h with
  | fin => intro x hx; simp only [List.mem_singleton] at hx; subst hx; exact Nat.le_refl _
  | cons _ _ ih =>
    intro x hx
    rcases List.mem_cons.1 hx with rfl | hx
    · exact Nat.sub_le _ _
    · exact ih x hx
/-- Two sources with a line feed between. -/
def joined (a b : ByteArray) : ByteArray := a ++ ⟨#[10]⟩ ++ b
theorem joined_bl (a b : ByteArray) : bl (joined a b) = bl a ++ 10 :: bl b := by
  unfold joined bl
  rw [ByteArray.data_append, ByteArray.data_append, Array.toList_append, Array.toList_append, List.append_assoc]
  rfl
theorem joined_size (a b : ByteArray) : (joined a b).size = a.size + 1 + b.size := by
  rw [← bl_len, joined_bl, List.length_append, List.length_cons, bl_len, bl_len]; omega
theorem joined_skip (a b : ByteArray) : skip false (bl (joined a b)) = skip false (skip false (bl a) ++ 10 :: bl b) := by rw [joined_bl, skip_feed]
/-- What is read of both. -/
theorem join_read (a b : ByteArray) :
    (∀ p e, Lx.Bad a.size (skip false (bl a)) p e → Lx.Bad (joined a b).size (skip false (bl (joined a b))) p e) ∧
    (∀ l, Lx.Good a.size (skip false (bl a)) l → ∃ l0, l = l0 ++ [⟨5, a.size, [], 0⟩] ∧
      (∀ q e, Lx.Bad b.size (skip false (bl b)) q e → Lx.Bad (joined a b).size (skip false (bl (joined a b))) (q + a.size + 1) e) ∧
      ∀ m, Lx.Good b.size (skip false (bl b)) m → Lx.Good (joined a b).size (skip false (bl (joined a b))) (l0 ++ m.map (Lx.shift (a.size + 1)))) := by
  have hla := skip_len false (bl a)
  have hlb := skip_len false (bl b)
  rw [bl_len] at hla hlb
  have hN : (joined a b).size = a.size + 1 + (bl b).length := by rw [joined_size, bl_len]
  have hS : (joined a b).size = b.size + (a.size + 1) := by rw [joined_size]; omega
  refine ⟨fun p e h => ?_, fun l h => ?_⟩
  · rw [joined_skip]
    exact join_bad h (skip_idem false (bl a)) hla hN
  · obtain ⟨l0, h1, h2, h3⟩ := join_good h (skip_idem false (bl a)) hla hN
    refine ⟨l0, h1, fun q e hq => ?_, fun m hm => ?_⟩
    · rw [joined_skip]
      refine h3 _ _ ?_
      have := hq.shift (d := a.size + 1) hlb
      rw [← hS] at this
      exact this
    · rw [joined_skip]
      refine h2 _ ?_
      have := hm.shift (d := a.size + 1) hlb
      rw [← hS] at this
      exact this
theorem bad_at {n p e : Nat} {r : List UInt8} (h : Lx.Bad n r p e) : p ≤ n := by
  induction h with
  | here _ _ => exact Nat.sub_le _ _
  | later _ _ ih => exact ih
theorem vLaw7 (a b : ByteArray) : VC Tryz.prog 7 [.lit (.string a), .lit (.string b)] [] fun x σ' => x = .ret (.lit (.bool true)) ∧ σ' = [] := by
  refine VC.intro ⟨[0, 1, 4, 5, 6, 7, 8, 9, 10, 11, 12, 13, 21, 43, 52, 85, 89, 94, 117], []⟩ Tryz.func7 rfl follows ok7 (by rw [Tryz.ntmps7]; exact Nat.le_of_ble_eq_true rfl) ?_; refine WS_of ?_
  repeat (first | refine WS_seq ?_ | refine WS_block ?_ | refine WS_skip ?_ | refine WS_blk ?_ | refine WS_label ?_ | refine WS_exit rfl ?_ | refine WS_true rfl ?_ | refine WS_false rfl ?_ | (refine WS_region rfl ?_; intro K' hK hP; simp only [go_sem]; apply hK; (focus (simp only [go_sem]; exact rfl)); clear hK hP K'))
  by_cases h7 : 2000 < a.size
  · have d1 : decide ((2000 : Int) < (a.size : Int)) = true := by rw [decide_eq_true_eq]; omega
    repeat (first | refine WS_seq ?_ | refine WS_block ?_ | refine WS_skip ?_ | refine WS_blk ?_ | refine WS_label ?_ | refine WS_exit rfl ?_ | refine WS_true rfl ?_ | refine WS_false rfl ?_ | (refine WS_region rfl ?_; intro K' hK hP; simp only [go_sem, d1]; apply hK; (focus (simp only [go_sem]; exact rfl)); clear hK hP K'))
    refine WS_region rfl ?_; intro K' hK hP; simp only [go_sem]; refine ((vSanity [])).mono ?_; rintro _ _ ⟨rfl, rfl⟩; simp only [go_sem]; apply hK; (focus (simp only [go_sem]; exact rfl)); clear hK hP K'
    repeat (first | refine WS_seq ?_ | refine WS_block ?_ | refine WS_skip ?_ | refine WS_blk ?_ | refine WS_label ?_ | refine WS_exit rfl ?_ | refine WS_true rfl ?_ | refine WS_false rfl ?_ | (refine WS_region rfl ?_; intro K' hK hP; simp only [go_sem]; apply hK; (focus (simp only [go_sem]; exact rfl)); clear hK hP K'))
    refine WS_ret ?_; simp only [go_sem, Tryz.results7]
  have d1 : decide ((2000 : Int) < (a.size : Int)) = false := by rw [decide_eq_false_iff_not]; omega
  by_cases h8 : 2000 < b.size
  · have d2 : decide ((2000 : Int) < (b.size : Int)) = true := by rw [decide_eq_true_eq]; omega
    repeat (first | refine WS_seq ?_ | refine WS_block ?_ | refine WS_skip ?_ | refine WS_blk ?_ | refine WS_label ?_ | refine WS_exit rfl ?_ | refine WS_true rfl ?_ | refine WS_false rfl ?_ | (refine WS_region rfl ?_; intro K' hK hP; simp only [go_sem, d1, d2]; apply hK; (focus (simp only [go_sem]; exact rfl)); clear hK hP K'))
    refine WS_region rfl ?_; intro K' hK hP; simp only [go_sem]; refine ((vSanity [])).mono ?_; rintro _ _ ⟨rfl, rfl⟩; simp only [go_sem]; apply hK; (focus (simp only [go_sem]; exact rfl)); clear hK hP K'
    repeat (first | refine WS_seq ?_ | refine WS_block ?_ | refine WS_skip ?_ | refine WS_blk ?_ | refine WS_label ?_ | refine WS_exit rfl ?_ | refine WS_true rfl ?_ | refine WS_false rfl ?_ | (refine WS_region rfl ?_; intro K' hK hP; simp only [go_sem]; apply hK; (focus (simp only [go_sem]; exact rfl)); clear hK hP K'))
    refine WS_ret ?_; simp only [go_sem, Tryz.results7]
  have d2 : decide ((2000 : Int) < (b.size : Int)) = false := by rw [decide_eq_false_iff_not]; omega
  have hja := joined_size a b
  obtain ⟨jbad, jgood⟩ := join_read a b
  have hjs : (joined a b).size ≤ 65536 := by omega
  obtain ⟨J, hJ⟩ : ∃ J, joined a b = J := ⟨_, rfl⟩
  rw [hJ] at jbad jgood hjs hja
  unfold joined at hJ
  rcases Lx.total a.size _ (skip false (bl a)) (Nat.le_refl _) with ⟨la, hga⟩ | ⟨p, e, hba⟩
  · obtain ⟨l0, hl0, jb, jg⟩ := jgood _ hga
    have ca := fun σ => vTokens (σ := σ) a (by omega) _ _ _ (readGood (by omega) hga)
    rcases Lx.total b.size _ (skip false (bl b)) (Nat.le_refl _) with ⟨lb, hgb⟩ | ⟨q, e, hbb⟩
    · have cb := fun σ => vTokens (σ := σ) b (by omega) _ _ _ (readGood (by omega) hgb)
      have cj := fun σ => vTokens (σ := σ) J (by omega) _ _ _ (readGood hjs (jg _ hgb))
      rw [← hJ] at cj
      have hatb := good_at hgb
      have hln := good_len hgb
      have hlm := good_len hga
      have hsb := skip_len false (bl b)
      have hsa := skip_len false (bl a)
      rw [bl_len] at hsa hsb
      obtain ⟨A, hA⟩ : ∃ A, la.map tkR = A := ⟨_, rfl⟩
      obtain ⟨B, hB⟩ : ∃ B, lb.map tkR = B := ⟨_, rfl⟩
      obtain ⟨Z, hZ⟩ : ∃ Z, (l0 ++ lb.map (Lx.shift (a.size + 1))).map tkR = Z := ⟨_, rfl⟩
      have hAl : A.length = l0.length + 1 := by rw [← hA, List.length_map, hl0, List.length_append]; rfl
      have hBl : B.length = lb.length := by rw [← hB, List.length_map]
      have hZl : Z.length = l0.length + lb.length := by rw [← hZ, List.length_map, List.length_append, List.length_map]
      have hall : la.length = l0.length + 1 := by rw [hl0, List.length_append]; rfl
      have hrow1 : ∀ k, k < l0.length → ∃ t : Tok, A.getD k [] = tkR t ∧ Z.getD k [] = tkR t := fun k hk => by
        refine ⟨l0[k], ?_, ?_⟩
        · rw [← hA, hl0, List.getD_eq_getElem?_getD, List.getElem?_map, List.getElem?_append_left hk, List.getElem?_eq_getElem hk]; rfl
        · rw [← hZ, List.getD_eq_getElem?_getD, List.getElem?_map, List.getElem?_append_left hk, List.getElem?_eq_getElem hk]; rfl
      have hrow2 : ∀ j, j < lb.length → ∃ t : Tok, t.at_ ≤ b.size ∧ B.getD j [] = tkR t ∧ Z.getD (l0.length + j) [] = tkR (Lx.shift (a.size + 1) t) := fun j hj => by
        refine ⟨lb[j], hatb _ (List.getElem_mem hj), ?_, ?_⟩
        · rw [← hB, List.getD_eq_getElem?_getD, List.getElem?_map, List.getElem?_eq_getElem hj]; rfl
        · rw [← hZ, List.getD_eq_getElem?_getD, List.getElem?_map, List.getElem?_append_right (Nat.le_add_right _ _), Nat.add_sub_cancel_left, List.getElem?_map, List.getElem?_eq_getElem hj]; rfl
      rw [hA] at ca
      rw [hB] at cb
      rw [hZ] at cj
      repeat (first | refine WS_seq ?_ | refine WS_block ?_ | refine WS_skip ?_ | refine WS_blk ?_ | refine WS_label ?_ | refine WS_exit rfl ?_ | refine WS_true rfl ?_ | refine WS_false rfl ?_ | (refine WS_region rfl ?_; intro K' hK hP; simp only [go_sem, d1, d2]; apply hK; (focus (simp only [go_sem]; exact rfl)); clear hK hP K'))
      refine WS_region rfl ?_; intro K' hK hP; simp only [go_sem]; refine ((ca _)).mono ?_; rintro _ _ ⟨rfl, rfl⟩; simp only [go_sem]; apply hK; (focus (simp only [go_sem]; exact rfl)); clear hK hP K'
      repeat (first | refine WS_seq ?_ | refine WS_block ?_ | refine WS_skip ?_ | refine WS_blk ?_ | refine WS_label ?_ | refine WS_exit rfl ?_ | refine WS_true rfl ?_ | refine WS_false rfl ?_ | (refine WS_region rfl ?_; intro K' hK hP; simp only [go_sem]; apply hK; (focus (simp only [go_sem]; exact rfl)); clear hK hP K'))
      refine WS_region rfl ?_; intro K' hK hP; simp only [go_sem]; refine ((cb _)).mono ?_; rintro _ _ ⟨rfl, rfl⟩; simp only [go_sem]; apply hK; (focus (simp only [go_sem]; exact rfl)); clear hK hP K'
      repeat (first | refine WS_seq ?_ | refine WS_block ?_ | refine WS_skip ?_ | refine WS_blk ?_ | refine WS_label ?_ | refine WS_exit rfl ?_ | refine WS_true rfl ?_ | refine WS_false rfl ?_ | (refine WS_region rfl ?_; intro K' hK hP; simp only [go_sem]; apply hK; (focus (simp only [go_sem]; exact rfl)); clear hK hP K'))
      refine WS_region rfl ?_; intro K' hK hP; simp only [go_sem]
      refine ⟨by show a.size + 1 ≤ _; omega, by show a.size + 1 + b.size ≤ _; omega, ?_⟩
      refine ((cj _)).mono ?_; rintro _ _ ⟨rfl, rfl⟩; simp only [go_sem]
      apply hK; (focus (simp only [go_sem]; exact rfl)); clear hK hP K'
      have n0 : (((0 : Nat) : Int) != 0) = false := rfl
      have wn : IntKind.i64.wrap ((A.length : Int) - 1) = ((l0.length : Nat) : Int) := wrapN (by omega) (by omega)
      have dn : decide (((l0.length : Nat) : Int) < 0) = false := by rw [decide_eq_false_iff_not]; omega
      have wz : IntKind.i64.wrap (((l0.length : Nat) : Int) + (B.length : Int)) = ((Z.length : Nat) : Int) := wrapN (by omega) (by omega)
      repeat (first | refine WS_seq ?_ | refine WS_block ?_ | refine WS_skip ?_ | refine WS_blk ?_ | refine WS_label ?_ | refine WS_exit rfl ?_ | refine WS_true rfl ?_ | refine WS_false rfl ?_ | (refine WS_region rfl ?_; intro K' hK hP; simp only [go_sem, n0, wn, dn, wz, bne_self_eq_false]; apply hK; (focus (simp only [go_sem]; exact rfl)); clear hK hP K'))
      refine WS_for [0, 1, 4, 5, 7, 9, 11, 12] 0 (fun k : Nat => k ≤ Z.length) (fun k => Z.length - k)
        (fun k => ⟨[(0, .lit (.string a)), (1, .lit (.string b)), (4, .lit (.bool false)), (5, .sl A .shared), (7, .sl B .shared), (9, .sl Z .shared), (11, .lit (.int .i64 ((l0.length : Nat) : Int))), (12, .lit (.int .i64 (k : Int)))], []⟩) 0 (Nat.zero_le _) ?_ (Nat.zero_le _) ?_
      · exact rfl
      rintro k hk
      by_cases hlt : k < Z.length
      · have d3 : decide ((k : Int) < (Z.length : Int)) = true := by rw [decide_eq_true_eq]; omega
        have w1 : IntKind.i64.wrap ((k : Int) + 1) = ((k + 1 : Nat) : Int) := wrapN (by omega) (by omega)
        by_cases hkn : k < l0.length
        · have d4 : decide ((k : Int) < ((l0.length : Nat) : Int)) = true := by rw [decide_eq_true_eq]; omega
          obtain ⟨t, ht1, ht2⟩ := hrow1 k hkn
          unfold tkR tkRow at ht1 ht2
          repeat (first | refine WS_seq ?_ | refine WS_block ?_ | refine WS_skip ?_ | refine WS_blk ?_ | refine WS_label ?_ | refine WS_exit rfl ?_ | refine WS_true rfl ?_ | refine WS_false rfl ?_ | (refine WS_region rfl ?_; intro K' hK hP; simp only [go_sem, d3, d4]; apply hK; (focus (simp only [go_sem]; exact rfl)); clear hK hP K'))
          refine WS_region rfl ?_; intro K' hK hP; simp only [go_sem, ht1]
          refine ⟨⟨by omega, by omega⟩, ?_⟩
          apply hK; (focus (simp only [go_sem]; exact rfl)); clear hK hP K'
          repeat (first | refine WS_seq ?_ | refine WS_block ?_ | refine WS_skip ?_ | refine WS_blk ?_ | refine WS_label ?_ | refine WS_exit rfl ?_ | refine WS_true rfl ?_ | refine WS_false rfl ?_ | (refine WS_region rfl ?_; intro K' hK hP; simp only [go_sem]; apply hK; (focus (simp only [go_sem]; exact rfl)); clear hK hP K'))
          refine WS_region rfl ?_; intro K' hK hP; simp only [go_sem, ht2, beq_self_eq_true, decide_true, Bool.and_self, Bool.not_true]
          refine ⟨⟨by omega, by omega⟩, ?_⟩
          apply hK; (focus (simp only [go_sem]; exact rfl)); clear hK hP K'
          repeat (first | refine WS_seq ?_ | refine WS_block ?_ | refine WS_skip ?_ | refine WS_blk ?_ | refine WS_label ?_ | refine WS_exit rfl ?_ | refine WS_true rfl ?_ | refine WS_false rfl ?_ | (refine WS_region rfl ?_; intro K' hK hP; simp only [go_sem, w1]; apply hK; (focus (simp only [go_sem]; exact rfl)); clear hK hP K'))
          exact WS_again (k + 1) rfl hlt (by omega)
        · have d4 : decide ((k : Int) < ((l0.length : Nat) : Int)) = false := by rw [decide_eq_false_iff_not]; omega
          obtain ⟨j, rfl⟩ : ∃ j, k = l0.length + j := ⟨k - l0.length, by omega⟩
          obtain ⟨t, ht0, ht1, ht2⟩ := hrow2 j (by omega)
          unfold tkR tkRow at ht1 ht2
          simp only [Lx.shift] at ht2
          have w5 : IntKind.i64.wrap (((l0.length + j : Nat) : Int) - ((l0.length : Nat) : Int)) = ((j : Nat) : Int) := wrapN (by omega) (by omega)
          have w6 : IntKind.i64.wrap ((a.size : Int) + 1) = ((a.size + 1 : Nat) : Int) := wrapN (by omega) (by omega)
          have w7 : IntKind.i64.wrap ((t.at_ : Int) + ((a.size + 1 : Nat) : Int)) = ((t.at_ + (a.size + 1) : Nat) : Int) := wrapN (by omega) (by omega)
          repeat (first | refine WS_seq ?_ | refine WS_block ?_ | refine WS_skip ?_ | refine WS_blk ?_ | refine WS_label ?_ | refine WS_exit rfl ?_ | refine WS_true rfl ?_ | refine WS_false rfl ?_ | (refine WS_region rfl ?_; intro K' hK hP; simp only [go_sem, d3, d4]; apply hK; (focus (simp only [go_sem]; exact rfl)); clear hK hP K'))
          refine WS_region rfl ?_; intro K' hK hP; simp only [go_sem, w5, ht1]
          refine ⟨⟨by omega, by omega⟩, ?_⟩
          apply hK; (focus (simp only [go_sem]; exact rfl)); clear hK hP K'
          repeat (first | refine WS_seq ?_ | refine WS_block ?_ | refine WS_skip ?_ | refine WS_blk ?_ | refine WS_label ?_ | refine WS_exit rfl ?_ | refine WS_true rfl ?_ | refine WS_false rfl ?_ | (refine WS_region rfl ?_; intro K' hK hP; simp only [go_sem, w6, w7]; apply hK; (focus (simp only [go_sem]; exact rfl)); clear hK hP K'))
          refine WS_region rfl ?_; intro K' hK hP; simp only [go_sem, ht2, beq_self_eq_true, decide_true, Bool.and_self, Bool.not_true]
          refine ⟨⟨by omega, by omega⟩, ?_⟩
          apply hK; (focus (simp only [go_sem]; exact rfl)); clear hK hP K'
          repeat (first | refine WS_seq ?_ | refine WS_block ?_ | refine WS_skip ?_ | refine WS_blk ?_ | refine WS_label ?_ | refine WS_exit rfl ?_ | refine WS_true rfl ?_ | refine WS_false rfl ?_ | (refine WS_region rfl ?_; intro K' hK hP; simp only [go_sem, w1]; apply hK; (focus (simp only [go_sem]; exact rfl)); clear hK hP K'))
          exact WS_again (l0.length + j + 1) rfl hlt (by omega)
      · have d3 : decide ((k : Int) < (Z.length : Int)) = false := by rw [decide_eq_false_iff_not]; omega
        repeat (first | refine WS_seq ?_ | refine WS_block ?_ | refine WS_skip ?_ | refine WS_blk ?_ | refine WS_label ?_ | refine WS_exit rfl ?_ | refine WS_true rfl ?_ | refine WS_false rfl ?_ | (refine WS_region rfl ?_; intro K' hK hP; simp only [go_sem, d3]; apply hK; (focus (simp only [go_sem]; exact rfl)); clear hK hP K'))
        refine WS_region rfl ?_; intro K' hK hP; simp only [go_sem]; refine ((vSanity _)).mono ?_; rintro _ _ ⟨rfl, rfl⟩; simp only [go_sem]; apply hK; (focus (simp only [go_sem]; exact rfl)); clear hK hP K'
        repeat (first | refine WS_seq ?_ | refine WS_block ?_ | refine WS_skip ?_ | refine WS_blk ?_ | refine WS_label ?_ | refine WS_exit rfl ?_ | refine WS_true rfl ?_ | refine WS_false rfl ?_ | (refine WS_region rfl ?_; intro K' hK hP; simp only [go_sem]; apply hK; (focus (simp only [go_sem]; exact rfl)); clear hK hP K'))
        refine WS_ret ?_; simp only [go_sem, Tryz.results7]
    · have he := bad_code hbb
      have cb := fun σ => vTokens (σ := σ) b (by omega) _ _ _ (readBad (by omega) hbb)
      have cj := fun σ => vTokens (σ := σ) J (by omega) _ _ _ (readBad hjs (jb _ _ hbb))
      rw [← hJ] at cj
      repeat (first | refine WS_seq ?_ | refine WS_block ?_ | refine WS_skip ?_ | refine WS_blk ?_ | refine WS_label ?_ | refine WS_exit rfl ?_ | refine WS_true rfl ?_ | refine WS_false rfl ?_ | (refine WS_region rfl ?_; intro K' hK hP; simp only [go_sem, d1, d2]; apply hK; (focus (simp only [go_sem]; exact rfl)); clear hK hP K'))
      refine WS_region rfl ?_; intro K' hK hP; simp only [go_sem]; refine ((ca _)).mono ?_; rintro _ _ ⟨rfl, rfl⟩; simp only [go_sem]; apply hK; (focus (simp only [go_sem]; exact rfl)); clear hK hP K'
      repeat (first | refine WS_seq ?_ | refine WS_block ?_ | refine WS_skip ?_ | refine WS_blk ?_ | refine WS_label ?_ | refine WS_exit rfl ?_ | refine WS_true rfl ?_ | refine WS_false rfl ?_ | (refine WS_region rfl ?_; intro K' hK hP; simp only [go_sem]; apply hK; (focus (simp only [go_sem]; exact rfl)); clear hK hP K'))
      refine WS_region rfl ?_; intro K' hK hP; simp only [go_sem]; refine ((cb _)).mono ?_; rintro _ _ ⟨rfl, rfl⟩; simp only [go_sem]; apply hK; (focus (simp only [go_sem]; exact rfl)); clear hK hP K'
      repeat (first | refine WS_seq ?_ | refine WS_block ?_ | refine WS_skip ?_ | refine WS_blk ?_ | refine WS_label ?_ | refine WS_exit rfl ?_ | refine WS_true rfl ?_ | refine WS_false rfl ?_ | (refine WS_region rfl ?_; intro K' hK hP; simp only [go_sem]; apply hK; (focus (simp only [go_sem]; exact rfl)); clear hK hP K'))
      refine WS_region rfl ?_; intro K' hK hP; simp only [go_sem]
      refine ⟨by show a.size + 1 ≤ _; omega, by show a.size + 1 + b.size ≤ _; omega, ?_⟩
      refine ((cj _)).mono ?_; rintro _ _ ⟨rfl, rfl⟩; simp only [go_sem]
      apply hK; (focus (simp only [go_sem]; exact rfl)); clear hK hP K'
      have n0 : (((0 : Nat) : Int) != 0) = false := rfl
      have n1 : ((e : Int) != 0) = true := bne_iff_ne.2 (by omega)
      have hq := bad_at hbb
      have w1 : IntKind.i64.wrap ((q : Int) + (a.size : Int)) = ((q + a.size : Nat) : Int) := wrapN (by omega) (by omega)
      have w2 : IntKind.i64.wrap (((q + a.size : Nat) : Int) + 1) = ((q + a.size + 1 : Nat) : Int) := wrapN (by omega) (by omega)
      repeat (first | refine WS_seq ?_ | refine WS_block ?_ | refine WS_skip ?_ | refine WS_blk ?_ | refine WS_label ?_ | refine WS_exit rfl ?_ | refine WS_true rfl ?_ | refine WS_false rfl ?_ | (refine WS_region rfl ?_; intro K' hK hP; simp only [go_sem, n0, n1]; apply hK; (focus (simp only [go_sem]; exact rfl)); clear hK hP K'))
      refine WS_region rfl ?_; intro K' hK hP; simp only [go_sem]
      refine ((vSanity _)).mono ?_; rintro _ _ ⟨rfl, rfl⟩; simp only [go_sem, w1, w2, beq_self_eq_true, Bool.and_self]
      apply hK; (focus (simp only [go_sem]; exact rfl)); clear hK hP K'
      repeat (first | refine WS_seq ?_ | refine WS_block ?_ | refine WS_skip ?_ | refine WS_blk ?_ | refine WS_label ?_ | refine WS_exit rfl ?_ | refine WS_true rfl ?_ | refine WS_false rfl ?_ | (refine WS_region rfl ?_; intro K' hK hP; simp only [go_sem]; apply hK; (focus (simp only [go_sem]; exact rfl)); clear hK hP K'))
      refine WS_ret ?_; simp only [go_sem, Tryz.results7]
  · have he := bad_code hba
    have ca := fun σ => vTokens (σ := σ) a (by omega) _ _ _ (readBad (by omega) hba)
    have cj := fun σ => vTokens (σ := σ) J (by omega) _ _ _ (readBad hjs (jbad _ _ hba))
    rw [← hJ] at cj
    obtain ⟨rows, p2, e2, _, hr2, _⟩ := readOne b
    have cb := fun σ => vTokens (σ := σ) b (by omega) rows p2 e2 hr2
    have n1 : ((e : Int) != 0) = true := bne_iff_ne.2 (by omega)
    repeat (first | refine WS_seq ?_ | refine WS_block ?_ | refine WS_skip ?_ | refine WS_blk ?_ | refine WS_label ?_ | refine WS_exit rfl ?_ | refine WS_true rfl ?_ | refine WS_false rfl ?_ | (refine WS_region rfl ?_; intro K' hK hP; simp only [go_sem, d1, d2]; apply hK; (focus (simp only [go_sem]; exact rfl)); clear hK hP K'))
    refine WS_region rfl ?_; intro K' hK hP; simp only [go_sem]; refine ((ca _)).mono ?_; rintro _ _ ⟨rfl, rfl⟩; simp only [go_sem]; apply hK; (focus (simp only [go_sem]; exact rfl)); clear hK hP K'
    repeat (first | refine WS_seq ?_ | refine WS_block ?_ | refine WS_skip ?_ | refine WS_blk ?_ | refine WS_label ?_ | refine WS_exit rfl ?_ | refine WS_true rfl ?_ | refine WS_false rfl ?_ | (refine WS_region rfl ?_; intro K' hK hP; simp only [go_sem]; apply hK; (focus (simp only [go_sem]; exact rfl)); clear hK hP K'))
    refine WS_region rfl ?_; intro K' hK hP; simp only [go_sem]; refine ((cb _)).mono ?_; rintro _ _ ⟨rfl, rfl⟩; simp only [go_sem]; apply hK; (focus (simp only [go_sem]; exact rfl)); clear hK hP K'
    repeat (first | refine WS_seq ?_ | refine WS_block ?_ | refine WS_skip ?_ | refine WS_blk ?_ | refine WS_label ?_ | refine WS_exit rfl ?_ | refine WS_true rfl ?_ | refine WS_false rfl ?_ | (refine WS_region rfl ?_; intro K' hK hP; simp only [go_sem]; apply hK; (focus (simp only [go_sem]; exact rfl)); clear hK hP K'))
    refine WS_region rfl ?_; intro K' hK hP; simp only [go_sem]
    refine ⟨by show a.size + 1 ≤ _; omega, by show a.size + 1 + b.size ≤ _; omega, ?_⟩
    refine ((cj _)).mono ?_; rintro _ _ ⟨rfl, rfl⟩; simp only [go_sem]
    apply hK; (focus (simp only [go_sem]; exact rfl)); clear hK hP K'
    repeat (first | refine WS_seq ?_ | refine WS_block ?_ | refine WS_skip ?_ | refine WS_blk ?_ | refine WS_label ?_ | refine WS_exit rfl ?_ | refine WS_true rfl ?_ | refine WS_false rfl ?_ | (refine WS_region rfl ?_; intro K' hK hP; simp only [go_sem, n1]; apply hK; (focus (simp only [go_sem]; exact rfl)); clear hK hP K'))
    refine WS_region rfl ?_; intro K' hK hP; simp only [go_sem]
    refine ((vSanity _)).mono ?_; rintro _ _ ⟨rfl, rfl⟩; simp only [go_sem, beq_self_eq_true, Bool.and_self]
    apply hK; (focus (simp only [go_sem]; exact rfl)); clear hK hP K'
    repeat (first | refine WS_seq ?_ | refine WS_block ?_ | refine WS_skip ?_ | refine WS_blk ?_ | refine WS_label ?_ | refine WS_exit rfl ?_ | refine WS_true rfl ?_ | refine WS_false rfl ?_ | (refine WS_region rfl ?_; intro K' hK hP; simp only [go_sem]; apply hK; (focus (simp only [go_sem]; exact rfl)); clear hK hP K'))
    refine WS_ret ?_; simp only [go_sem, Tryz.results7]
end Go.Proofs.YtjfccohgkgcnfaaGreatDoor
