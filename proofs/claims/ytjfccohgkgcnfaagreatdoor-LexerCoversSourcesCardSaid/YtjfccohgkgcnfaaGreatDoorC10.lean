/-
  The law LexerCoversSources, walked in plain values.
-/
import Derived.Test.YtjfccohgkgcnfaaGreatDoorC6
namespace Go.Proofs.YtjfccohgkgcnfaaGreatDoor
open Go.RowKit Go.Q Go.Lx Go.Vl
set_option maxRecDepth 100000
set_option maxHeartbeats 2000000
theorem good_ne {n : Nat} {r : List UInt8} {l : List Tok} (h : Lx.Good n r l) : l ≠ [] := by cases h <;> simp
/-- The next token stands behind blanks, as it is printed. -/
theorem cover_step {s : ByteArray} {q0 : Nat} {x : Tok} {m : List Tok} (hg : Lx.Good s.size (skip false ((bl s).drop q0)) (x :: m)) :
    ∃ w : List UInt8, Lib.join (wordsR [toRT x]) [32] = w ∧ s.size - (skip false ((bl s).drop q0)).length = x.at_ ∧ x.at_ + w.length ≤ s.size ∧ s.extract x.at_ (x.at_ + w.length) = ⟨⟨w⟩⟩ ∧ (w = [] ↔ m = []) ∧
      (m ≠ [] → Lx.Good s.size (skip false ((bl s).drop (x.at_ + w.length))) m) ∧ (m = [] → x.at_ + w.length = s.size) := by
  have hk5 := (good_vals hg x (by simp)).1
  have hw : Lib.join (wordsR [toRT x]) [32] = if Lx.isPrinted x then x.word else [] := by
    have : wordsR [toRT x] = wordR (toRT x) := by unfold wordsR; simp
    rw [this, word_tok x hk5]
    split
    · rw [Lib.join_one]
    · rfl
  have hat := skip_at s q0
  obtain ⟨r, hr⟩ : ∃ r, skip false ((bl s).drop q0) = r := ⟨_, rfl⟩
  rw [hr] at hat hg ⊢
  obtain ⟨h1, h2⟩ := hat
  have hrl := congrArg List.length h1
  rw [List.length_drop, bl_len] at hrl
  cases hg with
  | fin =>
    refine ⟨[], by rw [hw]; rfl, rfl, Nat.le_refl _, ?_, by simp, fun h => absurd rfl h, fun _ => rfl⟩
    apply ByteArray.ext
    apply Array.toList_inj.1
    have := bl_ext s s.size (s.size + 0)
    unfold bl at this
    show (s.extract s.size (s.size + 0)).data.toList = ([] : List UInt8)
    rw [this]
    simp
  | @cons r sx t k v l ht hg2 =>
    obtain ⟨t1, t2, _, hk1, hk2⟩ := tok_parts ht
    have hpr : Lx.isPrinted ⟨k, s.size - r.length, sx, v⟩ = true := by simp [Lx.isPrinted, hk1, hk2]
    rw [if_pos hpr] at hw
    have hlen := congrArg List.length t2
    rw [List.length_append] at hlen
    have hne := good_ne hg2
    have hrest := rest_at s (s.size - r.length) (h1.trans t2)
    have hto2 : s.size - r.length + (Lx.word k sx v).length = s.size - t.length := by omega
    refine ⟨Lx.word k sx v, hw, rfl, by show s.size - r.length + _ ≤ _; omega, ?_, ⟨fun h => absurd h t1, fun h => absurd h hne⟩, fun _ => ?_, fun h => absurd h hne⟩
    · apply ByteArray.ext
      apply Array.toList_inj.1
      have := bl_ext s (s.size - r.length) (s.size - r.length + (Lx.word k sx v).length)
      unfold bl at this h1
      show (s.extract (s.size - r.length) (s.size - r.length + (Lx.word k sx v).length)).data.toList = Lx.word k sx v
      rw [this, h1, Nat.add_sub_cancel_left, t2, List.take_left]
    · show Lx.Good s.size (skip false ((bl s).drop (s.size - r.length + (Lx.word k sx v).length))) _
      rw [hto2, hrest.1]; exact hg2
theorem vLaw10 (hrep : Rep) (src : ByteArray) : VC Tryz.prog 10 [.lit (.string src)] [] fun x σ' => x = .ret (.lit (.bool true)) ∧ σ' = [] := by
  refine VC.intro ⟨[0, 2, 3, 4, 5, 6, 7, 8, 11, 20, 25, 37, 71], [(11, [0, 1, 3, 4, 2, 5])]⟩ Tryz.func10 rfl follows ok10 (by rw [Tryz.ntmps10]; exact Nat.le_of_ble_eq_true rfl) ?_; refine WS_of ?_
  repeat (first | refine WS_seq ?_ | refine WS_block ?_ | refine WS_skip ?_ | refine WS_blk ?_ | refine WS_label ?_ | refine WS_exit rfl ?_ | refine WS_true rfl ?_ | refine WS_false rfl ?_ | (refine WS_region rfl ?_; intro K' hK hP; simp only [go_sem]; apply hK; (focus (simp only [go_sem]; exact rfl)); clear hK hP K'))
  by_cases h7 : 2000 < src.size
  · have d1 : decide ((2000 : Int) < (src.size : Int)) = true := by rw [decide_eq_true_eq]; omega
    refine WS_true (by simp only [go_sem, d1]) ?_
    repeat (first | refine WS_seq ?_ | refine WS_block ?_ | refine WS_skip ?_ | refine WS_blk ?_ | refine WS_label ?_ | refine WS_exit rfl ?_ | refine WS_true rfl ?_ | refine WS_false rfl ?_ | (refine WS_region rfl ?_; intro K' hK hP; simp only [go_sem]; apply hK; (focus (simp only [go_sem]; exact rfl)); clear hK hP K'))
    refine WS_region rfl ?_; intro K' hK hP; simp only [go_sem]; refine ((vSanity _)).mono ?_; rintro _ _ ⟨rfl, rfl⟩; simp only [go_sem]; apply hK; (focus (simp only [go_sem]; exact rfl)); clear hK hP K'
    repeat (first | refine WS_seq ?_ | refine WS_block ?_ | refine WS_skip ?_ | refine WS_blk ?_ | refine WS_label ?_ | refine WS_exit rfl ?_ | refine WS_true rfl ?_ | refine WS_false rfl ?_ | (refine WS_region rfl ?_; intro K' hK hP; simp only [go_sem]; apply hK; (focus (simp only [go_sem]; exact rfl)); clear hK hP K'))
    refine WS_ret ?_; simp only [go_sem, Tryz.results10]
  have d1 : decide ((2000 : Int) < (src.size : Int)) = false := by rw [decide_eq_false_iff_not]; omega
  have n0 : (((0 : Nat) : Int) != 0) = false := rfl
  have hsl := skip_len false (bl src)
  rw [bl_len] at hsl
  refine WS_false (by simp only [go_sem, d1]) ?_
  repeat (first | refine WS_seq ?_ | refine WS_block ?_ | refine WS_skip ?_ | refine WS_blk ?_ | refine WS_label ?_ | refine WS_exit rfl ?_ | refine WS_true rfl ?_ | refine WS_false rfl ?_ | (refine WS_region rfl ?_; intro K' hK hP; simp only [go_sem]; apply hK; (focus (simp only [go_sem]; exact rfl)); clear hK hP K'))
  rcases Lx.total src.size _ (skip false (bl src)) (Nat.le_refl _) with ⟨l, hg⟩ | ⟨p0, e, hb⟩
  rotate_left
  · have he := bad_code hb
    have n1 : ((e : Int) != 0) = true := bne_iff_ne.2 (by omega)
    refine WS_region rfl ?_; intro K' hK hP; simp only [go_sem]; refine ((vTokens src (by omega) _ _ _ (readBad (by omega) hb))).mono ?_; rintro _ _ ⟨rfl, rfl⟩; simp only [go_sem]; apply hK; (focus (simp only [go_sem]; exact rfl)); clear hK hP K'
    repeat (first | refine WS_seq ?_ | refine WS_block ?_ | refine WS_skip ?_ | refine WS_blk ?_ | refine WS_label ?_ | refine WS_exit rfl ?_ | refine WS_true rfl ?_ | refine WS_false rfl ?_ | (refine WS_region rfl ?_; intro K' hK hP; simp only [go_sem, n1]; apply hK; (focus (simp only [go_sem]; exact rfl)); clear hK hP K'))
    refine WS_region rfl ?_; intro K' hK hP; simp only [go_sem]; refine ((vSanity _)).mono ?_; rintro _ _ ⟨rfl, rfl⟩; simp only [go_sem]; apply hK; (focus (simp only [go_sem]; exact rfl)); clear hK hP K'
    repeat (first | refine WS_seq ?_ | refine WS_block ?_ | refine WS_skip ?_ | refine WS_blk ?_ | refine WS_label ?_ | refine WS_exit rfl ?_ | refine WS_true rfl ?_ | refine WS_false rfl ?_ | (refine WS_region rfl ?_; intro K' hK hP; simp only [go_sem]; apply hK; (focus (simp only [go_sem]; exact rfl)); clear hK hP K'))
    refine WS_ret ?_; simp only [go_sem, Tryz.results10]
  have hvals := good_vals hg
  have hgl := good_len hg
  have hlne := List.length_pos_iff.2 (good_ne hg)
  have ca := fun σ => vTokens (σ := σ) src (by omega) _ _ _ (readGood (by omega) hg)
  have hrow : ∀ k (h : k < l.length), (l.map tkR).getD k [] = tkR l[k] := fun k h => by rw [List.getD_eq_getElem?_getD, List.getElem?_map, List.getElem?_eq_getElem h]; rfl
  have hll : (l.map tkR).length = l.length := List.length_map _
  obtain ⟨A, hA⟩ : ∃ A, l.map tkR = A := ⟨_, rfl⟩
  rw [hA] at ca hrow hll
  refine WS_region rfl ?_; intro K' hK hP; simp only [go_sem]; refine ((ca _)).mono ?_; rintro _ _ ⟨rfl, rfl⟩; simp only [go_sem]; apply hK; (focus (simp only [go_sem]; exact rfl)); clear hK hP K'
  repeat (first | refine WS_seq ?_ | refine WS_block ?_ | refine WS_skip ?_ | refine WS_blk ?_ | refine WS_label ?_ | refine WS_exit rfl ?_ | refine WS_true rfl ?_ | refine WS_false rfl ?_ | (refine WS_region rfl ?_; intro K' hK hP; simp only [go_sem, n0]; apply hK; (focus (simp only [go_sem]; exact rfl)); clear hK hP K'))
  refine WS_for [0, 2, 3, 5, 6] 0 (fun a : Nat × Nat => a.1 ≤ l.length ∧ a.2 ≤ src.size ∧ (a.1 < l.length → Lx.Good src.size (skip false ((bl src).drop a.2)) (l.drop a.1)) ∧ (a.1 = l.length → a.2 = src.size)) (fun a => l.length - a.1)
    (fun a => ⟨[(0, .lit (.string src)), (2, .lit (.bool false)), (3, .sl A .shared), (5, .lit (.int .i64 (a.2 : Int))), (6, .lit (.int .i64 (a.1 : Int)))], []⟩) (0, 0) (Nat.zero_le _) ?_ ⟨Nat.zero_le _, Nat.zero_le _, fun _ => hg, fun h => absurd h (by show ¬ 0 = l.length; omega)⟩ ?_
  · exact rfl
  rintro ⟨k, q0⟩ ⟨hk1, hk2, hk3, hk4⟩
  simp only at hk1 hk2 hk3 hk4
  by_cases hlt : k < l.length
  · have d2 : decide ((k : Int) < (A.length : Int)) = true := by rw [decide_eq_true_eq]; omega
    have hr := hrow k hlt
    have hgk := hk3 hlt
    rw [List.drop_eq_getElem_cons hlt] at hgk
    obtain ⟨w, h1, h2, h3, h4, h5, h6, h7⟩ := cover_step hgk
    have hval := hvals _ (List.getElem_mem hlt)
    have hdl : (l.drop (k + 1)).length = l.length - (k + 1) := List.length_drop
    revert hr hval h1 h2 h3 h4 h6 h7
    generalize l[k] = x
    intro hr h1 h2 h3 h4 h6 h7 hval
    have w1 : IntKind.i64.wrap ((k : Int) + 1) = ((k + 1 : Nat) : Int) := wrapN (by omega) (by omega)
    have hs10 : (10 : Nat) ^ 15 ≤ 9223372036854775807 := by decide
    have cp := fun σ => vPrint (σ := σ) [toRT x] (by show 1 ≤ 1000000; decide) (fun t ht => by
      rw [List.mem_singleton.1 ht]
      refine ⟨?_, ?_⟩
      · show -9223372036854775808 ≤ (x.n : Int); omega
      · show (x.n : Int) ≤ 9223372036854775807; omega) (by rw [h1]; omega) (fun t ht => .inr ⟨hrep, by rw [List.mem_singleton.1 ht]; show x.s.length ≤ 1000000; omega⟩) .shared
    have cb := vRefBlank (σ := []) src q0 hk2 (by omega)
    rw [h2] at cb
    rw [h1] at cp
    have hrt : [toRT x].map rtR = [tkR x] := rfl
    rw [hrt] at cp
    unfold tkR tkRow at hr cp
    repeat (first | refine WS_seq ?_ | refine WS_block ?_ | refine WS_skip ?_ | refine WS_blk ?_ | refine WS_label ?_ | refine WS_exit rfl ?_ | refine WS_true rfl ?_ | refine WS_false rfl ?_ | (refine WS_region rfl ?_; intro K' hK hP; simp only [go_sem, d2]; apply hK; (focus (simp only [go_sem]; exact rfl)); clear hK hP K'))
    refine WS_region rfl ?_; intro K' hK hP; simp only [go_sem, hr]
    refine ⟨⟨by omega, by omega⟩, ?_⟩
    apply hK; (focus (simp only [go_sem]; exact rfl)); clear hK hP K'
    repeat (first | refine WS_seq ?_ | refine WS_block ?_ | refine WS_blk ?_ | refine WS_skip ?_)
    refine WS_plan rfl ?_; intro K' hK hP; simp only [go_sem]
    refine (if_pos (by kernel_rfl)).mpr ?_
    refine ⟨rfl, ?_⟩
    refine cb.mono ?_; rintro _ _ ⟨rfl, rfl⟩; simp only [go_sem, bne_self_eq_false]
    apply hK; (focus (simp only [go_sem]; exact rfl)); clear hK hP K'
    repeat (first | refine WS_seq ?_ | refine WS_block ?_ | refine WS_skip ?_ | refine WS_blk ?_ | refine WS_label ?_ | refine WS_exit rfl ?_ | refine WS_true rfl ?_ | refine WS_false rfl ?_ | (refine WS_region rfl ?_; intro K' hK hP; simp only [go_sem]; apply hK; (focus (simp only [go_sem]; exact rfl)); clear hK hP K'))
    refine WS_region rfl ?_; intro K' hK hP; simp only [go_sem]
    refine ⟨rfl, ?_⟩
    refine ((cp _)).mono ?_; rintro _ _ ⟨rfl, rfl⟩; simp only [go_sem]
    apply hK; (focus (simp only [go_sem]; exact rfl)); clear hK hP K'
    have hsz : (⟨⟨w⟩⟩ : ByteArray).size = w.length := rfl
    have wA : IntKind.i64.wrap ((x.at_ : Int) + (w.length : Int)) = ((x.at_ + w.length : Nat) : Int) := wrapN (by omega) (by omega)
    have dA : decide ((src.size : Int) < ((x.at_ + w.length : Nat) : Int)) = false := by rw [decide_eq_false_iff_not]; omega
    have wl : IntKind.i64.wrap ((A.length : Int) - 1) = ((A.length - 1 : Nat) : Int) := wrapN (by omega) (by omega)
    repeat (first | refine WS_seq ?_ | refine WS_block ?_ | refine WS_blk ?_ | refine WS_skip ?_)
    by_cases hm0 : l.drop (k + 1) = []
    · have hw0 := h5.2 hm0
      have hkl : k + 1 = l.length := by rw [hm0] at hdl; simp at hdl; omega
      have bw : decide ((⟨⟨w⟩⟩ : ByteArray) = { data := #[] }) = true := decide_eq_true (by rw [hw0])
      have bk : ((k : Int) == ((A.length - 1 : Nat) : Int)) = true := beq_iff_eq.2 (by omega)
      refine WS_region rfl ?_; intro K' hK hP; simp only [go_sem, hsz, wA, dA, h4, decide_true, Bool.not_true, bw, wl, bk, beq_self_eq_true]
      refine ⟨⟨by omega, by omega, by omega⟩, ?_⟩
      apply hK; (focus (simp only [go_sem]; exact rfl)); clear hK hP K'
      repeat (first | refine WS_seq ?_ | refine WS_block ?_ | refine WS_skip ?_ | refine WS_blk ?_ | refine WS_label ?_ | refine WS_exit rfl ?_ | refine WS_true rfl ?_ | refine WS_false rfl ?_ | (refine WS_region rfl ?_; intro K' hK hP; simp only [go_sem, hsz, wA, w1]; apply hK; (focus (simp only [go_sem]; exact rfl)); clear hK hP K'))
      exact WS_again (k + 1, x.at_ + w.length) rfl ⟨hlt, h3, fun hl2 => h6 (fun e => by rw [e] at hdl; simp at hdl; simp only at hl2; omega), fun hl2 => h7 (List.eq_nil_of_length_eq_zero (by simp only at hl2; omega))⟩ (by show l.length - (k + 1) < l.length - k; omega)
    · have hw0 : w ≠ [] := fun e => hm0 (h5.1 e)
      have hkl : k + 1 < l.length := by have := List.length_pos_iff.2 hm0; omega
      have bw : decide ((⟨⟨w⟩⟩ : ByteArray) = { data := #[] }) = false := decide_eq_false fun e => hw0 (congrArg (fun z : ByteArray => z.data.toList) e)
      have bk : ((k : Int) == ((A.length - 1 : Nat) : Int)) = false := beq_eq_false_iff_ne.2 (by omega)
      refine WS_region rfl ?_; intro K' hK hP; simp only [go_sem, hsz, wA, dA, h4, decide_true, Bool.not_true, bw, wl, bk, beq_self_eq_true]
      refine ⟨⟨by omega, by omega, by omega⟩, ?_⟩
      apply hK; (focus (simp only [go_sem]; exact rfl)); clear hK hP K'
      repeat (first | refine WS_seq ?_ | refine WS_block ?_ | refine WS_skip ?_ | refine WS_blk ?_ | refine WS_label ?_ | refine WS_exit rfl ?_ | refine WS_true rfl ?_ | refine WS_false rfl ?_ | (refine WS_region rfl ?_; intro K' hK hP; simp only [go_sem, hsz, wA, w1]; apply hK; (focus (simp only [go_sem]; exact rfl)); clear hK hP K'))
      exact WS_again (k + 1, x.at_ + w.length) rfl ⟨hlt, h3, fun hl2 => h6 (fun e => by rw [e] at hdl; simp at hdl; simp only at hl2; omega), fun hl2 => h7 (List.eq_nil_of_length_eq_zero (by simp only at hl2; omega))⟩ (by show l.length - (k + 1) < l.length - k; omega)
  · have d2 : decide ((k : Int) < (A.length : Int)) = false := by rw [decide_eq_false_iff_not]; omega
    obtain rfl : k = l.length := by omega
    obtain rfl := hk4 rfl
    have nn : ((src.size : Int) == (src.size : Int)) = true := beq_self_eq_true _
    repeat (first | refine WS_seq ?_ | refine WS_block ?_ | refine WS_skip ?_ | refine WS_blk ?_ | refine WS_label ?_ | refine WS_exit rfl ?_ | refine WS_true rfl ?_ | refine WS_false rfl ?_ | (refine WS_region rfl ?_; intro K' hK hP; simp only [go_sem, d2]; apply hK; (focus (simp only [go_sem]; exact rfl)); clear hK hP K'))
    refine WS_region rfl ?_; intro K' hK hP; simp only [go_sem]
    refine ((vSanity _)).mono ?_; rintro _ _ ⟨rfl, rfl⟩; simp only [go_sem, nn]
    apply hK; (focus (simp only [go_sem]; exact rfl)); clear hK hP K'
    repeat (first | refine WS_seq ?_ | refine WS_block ?_ | refine WS_skip ?_ | refine WS_blk ?_ | refine WS_label ?_ | refine WS_exit rfl ?_ | refine WS_true rfl ?_ | refine WS_false rfl ?_ | (refine WS_region rfl ?_; intro K' hK hP; simp only [go_sem]; apply hK; (focus (simp only [go_sem]; exact rfl)); clear hK hP K'))
    refine WS_ret ?_; simp only [go_sem, Tryz.results10]
end Go.Proofs.YtjfccohgkgcnfaaGreatDoor
