/-
  The law LexerIgnoresBlanks, walked in plain values.
-/
import Derived.Test.YtjfccohgkgcnfaaGreatDoorB5
import Derived.Test.YtjfccohgkgcnfaaGreatDoorA11
namespace Go.Proofs.YtjfccohgkgcnfaaGreatDoor
open Go.RowKit Go.Q Go.Lx Go.Vl
set_option maxRecDepth 100000
set_option maxHeartbeats 8000000
/-- Bytes that are only blanks. -/
structure Blanks (z : List UInt8) : Prop where
  head : ∃ zc zr, z = zc :: zr ∧ (isBlank zc = true ∨ zc = 35)
  thru : ∀ y, skip false (z ++ y) = skip false y
theorem skip_true_put : ∀ (l y : List UInt8), (∀ c ∈ l, c ≠ 10) → skip true (l ++ 10 :: y) = skip false y
  | [], y, _ => rfl
  | c :: l, y, h => by
    rw [List.cons_append, skip_true_cons, if_neg (h c (by simp))]
    exact skip_true_put l y fun d hd => h d (by simp [hd])
theorem blanks_one {c : UInt8} (h : isBlank c = true) : Blanks [c] := ⟨⟨c, [], rfl, .inl h⟩, fun y => by rw [List.cons_append, skip_false_cons, if_pos h]; rfl⟩
theorem blanks_two {c d : UInt8} (h : isBlank c = true) (h2 : isBlank d = true) : Blanks [c, d] := ⟨⟨c, [d], rfl, .inl h⟩, fun y => by rw [List.cons_append, skip_false_cons, if_pos h, List.cons_append, skip_false_cons, if_pos h2]; rfl⟩
theorem blanks_comment {l : List UInt8} (h : ∀ c ∈ l, c ≠ 10) : Blanks (35 :: l ++ [10]) := ⟨⟨35, l ++ [10], rfl, .inr rfl⟩, fun y => by
  have e : 35 :: l ++ [10] ++ y = 35 :: (l ++ 10 :: y) := by simp
  rw [e, skip_false_sharp rfl, skip_true_put l y h]⟩
/-- The source with blanks put in at an offset. -/
def putIn (s : List UInt8) (at_ : Nat) (z : List UInt8) : List UInt8 := (if at_ = s.length then s ++ [10] else s.take at_) ++ z ++ s.drop at_
theorem put_read {s : List UInt8} {l : List Tok} (hg : Lx.Good s.length (skip false s) l) {z : List UInt8} (hz : Blanks z) {i : Nat} {x : Tok} (hx : l[i]? = some x) :
    x.at_ ≤ s.length ∧ ∃ l', Lx.Good (putIn s x.at_ z).length (skip false (putIn s x.at_ z)) l' ∧ l'.map Lx.Tok.core = l.map Lx.Tok.core := by
  obtain ⟨⟨zc, zr, hz0, hz1⟩, hz2⟩ := hz
  have hle := skip_len false s
  obtain ⟨l0, hl0, hk0⟩ := hg.last
  by_cases hk : x.kind = 5
  · have hi : x = ⟨5, s.length, [], 0⟩ := by
      rw [hl0] at hx
      by_cases hi : i < l0.length
      · rw [List.getElem?_append_left hi] at hx
        have := hk0 x (List.mem_of_getElem? hx)
        omega
      · rw [List.getElem?_append_right (by omega)] at hx
        obtain ⟨hi2, he⟩ := List.getElem?_eq_some_iff.1 hx
        have hi3 : i - l0.length = 0 := by simpa using hi2
        simp only [hi3, List.getElem_cons_zero] at he
        exact he.symm
    subst hi
    refine ⟨Nat.le_refl _, ?_⟩
    have hp : putIn s s.length z = s ++ 10 :: z := by unfold putIn; rw [if_pos rfl, List.drop_length]; simp
    rw [hp]
    obtain ⟨l1, h1, h2, _⟩ := join_good (N := (s ++ 10 :: z).length) (b := z) hg (skip_idem false s) hle (by simp; omega)
    have hzz : skip false z = [] := by have := hz2 []; rwa [List.append_nil] at this
    refine ⟨l1 ++ [⟨5, (s ++ 10 :: z).length, [], 0⟩], ?_, ?_⟩
    · rw [skip_feed]
      exact h2 _ (by rw [hzz]; exact .fin)
    · rw [h1, List.map_append, List.map_append]; rfl
  · obtain ⟨pre, post, h1, h2, h3, l', h4, h5⟩ := put_good hg (skip_idem false s) hle hz0 hz1 hz2 (putIn s x.at_ z).length i x hx hk
    have hpl := List.length_pos_iff.2 h2
    have hrl := congrArg List.length h1
    rw [List.length_append] at hrl
    obtain ⟨c, r, hc⟩ : ∃ c r, skip false s = c :: r := by
      cases hs : skip false s with
      | nil => rw [hs] at hrl; simp at hrl; omega
      | cons c r => exact ⟨c, r, rfl⟩
    obtain ⟨w, hw1, hw2⟩ := skip_cut false s hc
    rw [← hc, h1] at hw1
    have hat : x.at_ = (w ++ pre).length := by
      rw [h3]
      have := congrArg List.length hw1
      rw [← List.append_assoc, List.length_append] at this
      omega
    have hne : x.at_ ≠ s.length := by omega
    have e1 : s.take x.at_ = w ++ pre := by rw [hat, hw1, ← List.append_assoc]; exact List.take_left
    have e2 : s.drop x.at_ = post := by rw [hat, hw1, ← List.append_assoc]; exact List.drop_left
    have hp : putIn s x.at_ z = w ++ (pre ++ (z ++ post)) := by unfold putIn; rw [if_neg hne, e1, e2]; simp
    refine ⟨by omega, l', ?_, h5⟩
    rw [hp] at h4 ⊢
    rw [hw2]; exact h4
theorem put_bytes1 (src zB : ByteArray) {a : Nat} (h : a = src.size) : bl (src ++ { data := #[10] } ++ zB ++ src.extract a src.size) = putIn (bl src) a (bl zB) := by
  unfold putIn bl
  rw [if_pos (by rw [h]; exact (bl_len src).symm), ByteArray.data_append, ByteArray.data_append, ByteArray.data_append, Array.toList_append, Array.toList_append, Array.toList_append]
  have := bl_ext src a src.size
  unfold bl at this
  rw [this, List.take_of_length_le (by rw [List.length_drop]; have := bl_len src; unfold bl at this; omega)]
theorem put_bytes2 (src zB : ByteArray) {a : Nat} (h : a ≠ src.size) : bl (src.extract 0 a ++ zB ++ src.extract a src.size) = putIn (bl src) a (bl zB) := by
  unfold putIn bl
  rw [if_neg (fun e => h (e.trans (bl_len src))), ByteArray.data_append, ByteArray.data_append, Array.toList_append, Array.toList_append]
  have h1 := bl_ext src a src.size
  have h2 := bl_ext src 0 a
  unfold bl at h1 h2
  rw [h1, h2, List.take_of_length_le (l := List.drop a src.data.toList) (by rw [List.length_drop]; have := bl_len src; unfold bl at this; omega), List.drop_zero, Nat.sub_zero]
theorem vLaw8 (src com : ByteArray) (p q : Nat) (hp : p < 256) : VC Tryz.prog 8 [.lit (.string src), .lit (.string com), .agg [.lit (.int .u8 (p : Int)), .lit (.int .u8 (q : Int))]] [] fun x σ' => x = .ret (.lit (.bool true)) ∧ σ' = [] := by
  have i0 : 0 + Int.toNat 0 * 1 = 0 := rfl
  have i1 : 0 + Int.toNat 1 * 1 = 1 := rfl
  refine VC.intro ⟨[0, 1, 2, 5, 6, 7, 8, 9, 10, 11, 12, 13, 14, 15, 16, 17, 29, 38, 42, 55, 61, 73, 74, 76, 78, 86], []⟩ Tryz.func8 rfl follows ok8 (by rw [Tryz.ntmps8]; exact Nat.le_of_ble_eq_true rfl) ?_; refine WS_of ?_
  repeat (first | refine WS_seq ?_ | refine WS_block ?_ | refine WS_skip ?_ | refine WS_blk ?_ | refine WS_label ?_ | refine WS_exit rfl ?_ | refine WS_true rfl ?_ | refine WS_false rfl ?_ | (refine WS_region rfl ?_; intro K' hK hP; simp only [go_sem]; apply hK; (focus (simp only [go_sem]; exact rfl)); clear hK hP K'))
  refine WS_region rfl ?_; intro K' hK hP; simp only [go_sem, i0, i1]
  refine ⟨by decide, by decide, ?_⟩
  apply hK; (focus (simp only [go_sem]; exact rfl)); clear hK hP K'
  by_cases h7 : 2000 < src.size
  · have d1 : decide ((2000 : Int) < (src.size : Int)) = true := by rw [decide_eq_true_eq]; omega
    repeat (first | refine WS_seq ?_ | refine WS_block ?_ | refine WS_skip ?_ | refine WS_blk ?_ | refine WS_label ?_ | refine WS_exit rfl ?_ | refine WS_true rfl ?_ | refine WS_false rfl ?_ | (refine WS_region rfl ?_; intro K' hK hP; simp only [go_sem, d1]; apply hK; (focus (simp only [go_sem]; exact rfl)); clear hK hP K'))
    refine WS_region rfl ?_; intro K' hK hP; simp only [go_sem]; refine ((vSanity _)).mono ?_; rintro _ _ ⟨rfl, rfl⟩; simp only [go_sem]; apply hK; (focus (simp only [go_sem]; exact rfl)); clear hK hP K'
    repeat (first | refine WS_seq ?_ | refine WS_block ?_ | refine WS_skip ?_ | refine WS_blk ?_ | refine WS_label ?_ | refine WS_exit rfl ?_ | refine WS_true rfl ?_ | refine WS_false rfl ?_ | (refine WS_region rfl ?_; intro K' hK hP; simp only [go_sem]; apply hK; (focus (simp only [go_sem]; exact rfl)); clear hK hP K'))
    refine WS_ret ?_; simp only [go_sem, Tryz.results8]
  have d1 : decide ((2000 : Int) < (src.size : Int)) = false := by rw [decide_eq_false_iff_not]; omega
  by_cases h8 : 100 < com.size
  · have d2 : decide ((100 : Int) < (com.size : Int)) = true := by rw [decide_eq_true_eq]; omega
    repeat (first | refine WS_seq ?_ | refine WS_block ?_ | refine WS_skip ?_ | refine WS_blk ?_ | refine WS_label ?_ | refine WS_exit rfl ?_ | refine WS_true rfl ?_ | refine WS_false rfl ?_ | (refine WS_region rfl ?_; intro K' hK hP; simp only [go_sem, d1, d2]; apply hK; (focus (simp only [go_sem]; exact rfl)); clear hK hP K'))
    refine WS_region rfl ?_; intro K' hK hP; simp only [go_sem]; refine ((vSanity _)).mono ?_; rintro _ _ ⟨rfl, rfl⟩; simp only [go_sem]; apply hK; (focus (simp only [go_sem]; exact rfl)); clear hK hP K'
    repeat (first | refine WS_seq ?_ | refine WS_block ?_ | refine WS_skip ?_ | refine WS_blk ?_ | refine WS_label ?_ | refine WS_exit rfl ?_ | refine WS_true rfl ?_ | refine WS_false rfl ?_ | (refine WS_region rfl ?_; intro K' hK hP; simp only [go_sem]; apply hK; (focus (simp only [go_sem]; exact rfl)); clear hK hP K'))
    refine WS_ret ?_; simp only [go_sem, Tryz.results8]
  have d2 : decide ((100 : Int) < (com.size : Int)) = false := by rw [decide_eq_false_iff_not]; omega
  rcases Lx.total src.size _ (skip false (bl src)) (Nat.le_refl _) with ⟨l, hg⟩ | ⟨p0, e, hb⟩
  rotate_left
  · have he := bad_code hb
    have n1 : ((e : Int) != 0) = true := bne_iff_ne.2 (by omega)
    repeat (first | refine WS_seq ?_ | refine WS_block ?_ | refine WS_skip ?_ | refine WS_blk ?_ | refine WS_label ?_ | refine WS_exit rfl ?_ | refine WS_true rfl ?_ | refine WS_false rfl ?_ | (refine WS_region rfl ?_; intro K' hK hP; simp only [go_sem, d1, d2]; apply hK; (focus (simp only [go_sem]; exact rfl)); clear hK hP K'))
    refine WS_region rfl ?_; intro K' hK hP; simp only [go_sem]; refine ((vTokens src (by omega) _ _ _ (readBad (by omega) hb))).mono ?_; rintro _ _ ⟨rfl, rfl⟩; simp only [go_sem]; apply hK; (focus (simp only [go_sem]; exact rfl)); clear hK hP K'
    repeat (first | refine WS_seq ?_ | refine WS_block ?_ | refine WS_skip ?_ | refine WS_blk ?_ | refine WS_label ?_ | refine WS_exit rfl ?_ | refine WS_true rfl ?_ | refine WS_false rfl ?_ | (refine WS_region rfl ?_; intro K' hK hP; simp only [go_sem, n1]; apply hK; (focus (simp only [go_sem]; exact rfl)); clear hK hP K'))
    refine WS_region rfl ?_; intro K' hK hP; simp only [go_sem]; refine ((vSanity _)).mono ?_; rintro _ _ ⟨rfl, rfl⟩; simp only [go_sem]; apply hK; (focus (simp only [go_sem]; exact rfl)); clear hK hP K'
    repeat (first | refine WS_seq ?_ | refine WS_block ?_ | refine WS_skip ?_ | refine WS_blk ?_ | refine WS_label ?_ | refine WS_exit rfl ?_ | refine WS_true rfl ?_ | refine WS_false rfl ?_ | (refine WS_region rfl ?_; intro K' hK hP; simp only [go_sem]; apply hK; (focus (simp only [go_sem]; exact rfl)); clear hK hP K'))
    refine WS_ret ?_; simp only [go_sem, Tryz.results8]
  have ca := fun σ => vTokens (σ := σ) src (by omega) _ _ _ (readGood (by omega) hg)
  have hgl := good_len hg
  have hsl := skip_len false (bl src)
  rw [bl_len] at hsl
  obtain ⟨l0, hl0, _⟩ := hg.last
  have hln : 0 < l.length := by rw [hl0, List.length_append]; exact Nat.succ_pos _
  have hcm : p % l.length < l.length := Nat.mod_lt _ hln
  obtain ⟨x, hx⟩ : ∃ x, l[p % l.length]? = some x := ⟨_, List.getElem?_eq_getElem hcm⟩
  obtain ⟨Z, hZ⟩ : ∃ Z, l.map tkR = Z := ⟨_, rfl⟩
  have hZl : Z.length = l.length := by rw [← hZ, List.length_map]
  have hrow : Z.getD (p % l.length) [] = tkR x := by rw [← hZ, List.getD_eq_getElem?_getD, List.getElem?_map, hx]; rfl
  unfold tkR tkRow at hrow
  have n0 : (((0 : Nat) : Int) != 0) = false := rfl
  have nz : ((Z.length : Int) == 0) = false := beq_eq_false_iff_ne.2 (by omega)
  have nz2 : ((Z.length : Int) != 0) = true := bne_iff_ne.2 (by omega)
  have wp : IntKind.i64.wrap (p : Int) = (p : Int) := wrapN rfl (by omega)
  have wr : (p : Int).tmod (Z.length : Int) = ((p % l.length : Nat) : Int) := by rw [hZl]; exact Int.ofNat_tmod p l.length
  rw [hZ] at ca
  repeat (first | refine WS_seq ?_ | refine WS_block ?_ | refine WS_skip ?_ | refine WS_blk ?_ | refine WS_label ?_ | refine WS_exit rfl ?_ | refine WS_true rfl ?_ | refine WS_false rfl ?_ | (refine WS_region rfl ?_; intro K' hK hP; simp only [go_sem, d1, d2]; apply hK; (focus (simp only [go_sem]; exact rfl)); clear hK hP K'))
  refine WS_region rfl ?_; intro K' hK hP; simp only [go_sem]; refine ((ca _)).mono ?_; rintro _ _ ⟨rfl, rfl⟩; simp only [go_sem]; apply hK; (focus (simp only [go_sem]; exact rfl)); clear hK hP K'
  repeat (first | refine WS_seq ?_ | refine WS_block ?_ | refine WS_skip ?_ | refine WS_blk ?_ | refine WS_label ?_ | refine WS_exit rfl ?_ | refine WS_true rfl ?_ | refine WS_false rfl ?_ | (refine WS_region rfl ?_; intro K' hK hP; simp only [go_sem, n0, nz]; apply hK; (focus (simp only [go_sem]; exact rfl)); clear hK hP K'))
  refine WS_region rfl ?_; intro K' hK hP; simp only [go_sem, wp, nz2, wr, hrow]
  refine ⟨⟨by omega, by omega⟩, ?_⟩
  apply hK; (focus (simp only [go_sem]; exact rfl)); clear hK hP K'
  repeat (first | refine WS_seq ?_ | refine WS_block ?_ | refine WS_skip ?_ | refine WS_blk ?_ | refine WS_label ?_ | refine WS_exit rfl ?_ | refine WS_true rfl ?_ | refine WS_false rfl ?_ | (refine WS_region rfl ?_; intro K' hK hP; simp only [go_sem]; apply hK; (focus (simp only [go_sem]; exact rfl)); clear hK hP K'))
  refine WS_for [0, 1, 6, 8, 9, 11, 12, 13] 0 (fun a : List UInt8 × Nat => a.2 ≤ com.size ∧ a.1.length ≤ a.2 ∧ ∀ c ∈ a.1, c ≠ 10) (fun a => com.size - a.2)
    (fun a => ⟨[(0, .lit (.string src)), (1, .lit (.string com)), (6, .lit (.bool false)), (8, .lit (.int .u8 (q : Int))), (9, .sl Z .shared), (11, .lit (.int .i64 (x.at_ : Int))), (12, .sl (rowsB a.1) .own), (13, .lit (.int .i64 (a.2 : Int)))], []⟩) ([], 0) (Nat.zero_le _) ?_ ⟨Nat.zero_le _, Nat.zero_le _, by simp⟩ ?_
  · exact rfl
  rintro ⟨b, k⟩ ⟨hk1, hk2, hk3⟩
  simp only at hk1 hk2 hk3
  have hlen := rowsB_len b
  by_cases hlt : k < com.size
  · have d3 : decide ((k : Int) < (com.size : Int)) = true := by rw [decide_eq_true_eq]; omega
    have g1 := (getD_at com k hlt).symm
    have w1 : IntKind.i64.wrap ((k : Int) + 1) = ((k + 1 : Nat) : Int) := wrapN (by omega) (by omega)
    repeat (first | refine WS_seq ?_ | refine WS_block ?_ | refine WS_skip ?_ | refine WS_blk ?_ | refine WS_label ?_ | refine WS_exit rfl ?_ | refine WS_true rfl ?_ | refine WS_false rfl ?_ | (refine WS_region rfl ?_; intro K' hK hP; simp only [go_sem, d3]; apply hK; (focus (simp only [go_sem]; exact rfl)); clear hK hP K'))
    refine WS_region rfl ?_; intro K' hK hP; simp only [go_sem, g1]
    refine ⟨⟨by omega, by omega⟩, ?_⟩
    apply hK; (focus (simp only [go_sem]; exact rfl)); clear hK hP K'
    by_cases hc : com[k] = 10
    · have b1 : ((com[k].toNat : Int) != 10) = false := by rw [hc]; rfl
      refine WS_false (by simp only [go_sem, b1]) ?_
      repeat (first | refine WS_seq ?_ | refine WS_block ?_ | refine WS_skip ?_ | refine WS_blk ?_ | refine WS_label ?_ | refine WS_exit rfl ?_ | refine WS_true rfl ?_ | refine WS_false rfl ?_ | (refine WS_region rfl ?_; intro K' hK hP; simp only [go_sem, w1]; apply hK; (focus (simp only [go_sem]; exact rfl)); clear hK hP K'))
      exact WS_again (b, k + 1) rfl ⟨hlt, Nat.le_succ_of_le hk2, hk3⟩ (by show com.size - (k + 1) < com.size - k; omega)
    · have b1 : ((com[k].toNat : Int) != 10) = true := bne_iff_ne.2 fun h => hc ((eq_iff _ 10).2 h)
      have e1 := rowsB_app b com[k]
      refine WS_true (by simp only [go_sem, b1]) ?_
      repeat (first | refine WS_seq ?_ | refine WS_block ?_ | refine WS_skip ?_ | refine WS_blk ?_ | refine WS_label ?_ | refine WS_exit rfl ?_ | refine WS_true rfl ?_ | refine WS_false rfl ?_ | (refine WS_region rfl ?_; intro K' hK hP; simp only [go_sem]; apply hK; (focus (simp only [go_sem]; exact rfl)); clear hK hP K'))
      refine WS_region rfl ?_; intro K' hK hP; simp only [go_sem, g1, e1]
      refine ⟨⟨by omega, by omega⟩, rfl, app_ok (by rw [hlen]; exact Nat.le_trans (Nat.mul_le_mul_right _ (show b.length + 1 ≤ 1000 by omega)) (by decide)) rowsB_row rfl, ?_⟩
      apply hK; (focus (simp only [go_sem]; exact rfl)); clear hK hP K'
      repeat (first | refine WS_seq ?_ | refine WS_block ?_ | refine WS_skip ?_ | refine WS_blk ?_ | refine WS_label ?_ | refine WS_exit rfl ?_ | refine WS_true rfl ?_ | refine WS_false rfl ?_ | (refine WS_region rfl ?_; intro K' hK hP; simp only [go_sem, w1]; apply hK; (focus (simp only [go_sem]; exact rfl)); clear hK hP K'))
      refine WS_again (b ++ [com[k]], k + 1) rfl ⟨hlt, by rw [List.length_append]; exact Nat.succ_le_succ hk2, ?_⟩ (by show com.size - (k + 1) < com.size - k; omega)
      intro c hcm
      rcases List.mem_append.1 hcm with h | h
      · exact hk3 c h
      · rw [List.mem_singleton.1 h]; exact hc
  · have d3 : decide ((k : Int) < (com.size : Int)) = false := by rw [decide_eq_false_iff_not]; omega
    have e1 := bytes_rowsB b
    have e2 := bytes_back b
    repeat (first | refine WS_seq ?_ | refine WS_block ?_ | refine WS_skip ?_ | refine WS_blk ?_ | refine WS_label ?_ | refine WS_exit rfl ?_ | refine WS_true rfl ?_ | refine WS_false rfl ?_ | (refine WS_region rfl ?_; intro K' hK hP; simp only [go_sem, d3, e1, e2]; apply hK; (focus (simp only [go_sem]; exact rfl)); clear hK hP K'))
    refine WS_region rfl ?_; intro K' hK hP; simp only [go_sem, e1, e2]
    refine ⟨by show 1 + b.length ≤ _; omega, by show 1 + b.length + 1 ≤ _; omega, ?_⟩
    apply hK; (focus (simp only [go_sem]; exact rfl)); clear hK hP K'
    repeat (first | refine WS_seq ?_ | refine WS_block ?_ | refine WS_skip ?_ | refine WS_blk ?_ | refine WS_label ?_ | refine WS_exit rfl ?_ | refine WS_true rfl ?_ | refine WS_false rfl ?_ | (refine WS_region rfl ?_; intro K' hK hP; simp only [go_sem]; apply hK; (focus (simp only [go_sem]; exact rfl)); clear hK hP K'))
    have n5 : ((5 : Int) != 0) = true := rfl
    have wq : (q : Int).tmod 5 = ((q % 5 : Nat) : Int) := Int.ofNat_tmod q 5
    have hcs : ({ data := #[35] } ++ { data := b.toArray } ++ { data := #[10] } : ByteArray).size ≤ 102 := by rw [ByteArray.size_append, ByteArray.size_append]; show 1 + b.length + 1 ≤ 102; omega
    obtain ⟨zB, hzb, hzl, hkind⟩ : ∃ zB : ByteArray, Blanks (bl zB) ∧ zB.size ≤ 102 ∧ (((((q % 5 : Nat) : Int) == 0) = true ∧ zB = { data := #[32] }) ∨ ((((q % 5 : Nat) : Int) == 0) = false ∧ (((q % 5 : Nat) : Int) == 1) = true ∧ zB = { data := #[9, 13] }) ∨
        ((((q % 5 : Nat) : Int) == 0) = false ∧ (((q % 5 : Nat) : Int) == 1) = false ∧ (((q % 5 : Nat) : Int) == 2) = true ∧ zB = { data := #[10] }) ∨
        ((((q % 5 : Nat) : Int) == 0) = false ∧ (((q % 5 : Nat) : Int) == 1) = false ∧ (((q % 5 : Nat) : Int) == 2) = false ∧ zB = { data := #[35] } ++ { data := b.toArray } ++ { data := #[10] })) := by
      by_cases q0 : q % 5 = 0
      · exact ⟨_, blanks_one (c := 32) rfl, by decide, .inl ⟨by rw [q0]; rfl, rfl⟩⟩
      have c0 : (((q % 5 : Nat) : Int) == 0) = false := beq_eq_false_iff_ne.2 (by omega)
      by_cases q1 : q % 5 = 1
      · exact ⟨_, blanks_two (c := 9) (d := 13) rfl rfl, by decide, .inr (.inl ⟨c0, by rw [q1]; rfl, rfl⟩)⟩
      have c1 : (((q % 5 : Nat) : Int) == 1) = false := beq_eq_false_iff_ne.2 (by omega)
      by_cases q2 : q % 5 = 2
      · exact ⟨_, blanks_one (c := 10) rfl, by decide, .inr (.inr (.inl ⟨c0, c1, by rw [q2]; rfl, rfl⟩))⟩
      have c2 : (((q % 5 : Nat) : Int) == 2) = false := beq_eq_false_iff_ne.2 (by omega)
      refine ⟨_, ?_, hcs, .inr (.inr (.inr ⟨c0, c1, c2, rfl⟩))⟩
      have := blanks_comment hk3
      have e : bl ({ data := #[35] } ++ { data := b.toArray } ++ { data := #[10] }) = 35 :: b ++ [10] := by
        unfold bl
        rw [ByteArray.data_append, ByteArray.data_append, Array.toList_append, Array.toList_append]
        rfl
      rw [e]; exact this
    obtain ⟨hat, l', hg', hcore⟩ := put_read (s := bl src) (l := l) (z := bl zB) (by rw [bl_len]; exact hg) hzb hx
    rw [bl_len] at hat
    have cs := fun σ => vSame σ l l' (by omega)
    rw [hZ, hcore] at cs
    rcases hkind with ⟨b0, hzB⟩ | ⟨b0, b1, hzB⟩ | ⟨b0, b1, b2, hzB⟩ | ⟨b0, b1, b2, hzB⟩
    repeat (first | refine WS_seq ?_ | refine WS_block ?_ | refine WS_skip ?_ | refine WS_blk ?_ | refine WS_label ?_ | refine WS_exit rfl ?_ | refine WS_true rfl ?_ | refine WS_false rfl ?_ | (refine WS_region rfl ?_; intro K' hK hP; simp only [go_sem, n5, wq, b0, ← hzB]; apply hK; (focus (simp only [go_sem]; exact rfl)); clear hK hP K'))
    rotate_left
    repeat (first | refine WS_seq ?_ | refine WS_block ?_ | refine WS_skip ?_ | refine WS_blk ?_ | refine WS_label ?_ | refine WS_exit rfl ?_ | refine WS_true rfl ?_ | refine WS_false rfl ?_ | (refine WS_region rfl ?_; intro K' hK hP; simp only [go_sem, n5, wq, b0, b1, ← hzB]; apply hK; (focus (simp only [go_sem]; exact rfl)); clear hK hP K'))
    rotate_left
    repeat (first | refine WS_seq ?_ | refine WS_block ?_ | refine WS_skip ?_ | refine WS_blk ?_ | refine WS_label ?_ | refine WS_exit rfl ?_ | refine WS_true rfl ?_ | refine WS_false rfl ?_ | (refine WS_region rfl ?_; intro K' hK hP; simp only [go_sem, n5, wq, b0, b1, b2, ← hzB]; apply hK; (focus (simp only [go_sem]; exact rfl)); clear hK hP K'))
    rotate_left
    repeat (first | refine WS_seq ?_ | refine WS_block ?_ | refine WS_skip ?_ | refine WS_blk ?_ | refine WS_label ?_ | refine WS_exit rfl ?_ | refine WS_true rfl ?_ | refine WS_false rfl ?_ | (refine WS_region rfl ?_; intro K' hK hP; simp only [go_sem, n5, wq, b0, b1, b2, ← hzB]; apply hK; (focus (simp only [go_sem]; exact rfl)); clear hK hP K'))
    rotate_left
    all_goals (
      clear hzB hzb
      have z0 : Int.toNat 0 = 0 := rfl
      have n00 : (((0 : Nat) : Int) == 0) = true := rfl
      refine WS_region rfl ?_; intro K' hK hP; simp only [go_sem, z0]
      refine ⟨by omega, ?_⟩
      apply hK; (focus (simp only [go_sem]; exact rfl)); clear hK hP K'
      by_cases hat2 : x.at_ = src.size
      · have t1 : ((x.at_ : Int) == (src.size : Int)) = true := beq_iff_eq.2 (by omega)
        have hS := put_bytes1 src zB hat2
        have hSs : (src ++ { data := #[10] } ++ zB ++ src.extract x.at_ src.size).size ≤ 65536 := by
          rw [ByteArray.size_append, ByteArray.size_append, ByteArray.size_append, ByteArray.size_extract]
          show src.size + 1 + zB.size + _ ≤ 65536
          omega
        have rd := readGood hSs (by rw [← bl_len, hS]; exact hg')
        repeat (first | refine WS_seq ?_ | refine WS_block ?_ | refine WS_skip ?_ | refine WS_blk ?_ | refine WS_label ?_ | refine WS_exit rfl ?_ | refine WS_true rfl ?_ | refine WS_false rfl ?_ | (refine WS_region rfl ?_; intro K' hK hP; simp only [go_sem, t1]; apply hK; (focus (simp only [go_sem]; exact rfl)); clear hK hP K'))
        refine WS_region rfl ?_; intro K' hK hP; simp only [go_sem]
        refine ⟨by show src.size + 1 ≤ _; omega, ?_⟩
        apply hK; (focus (simp only [go_sem]; exact rfl)); clear hK hP K'
        repeat (first | refine WS_seq ?_ | refine WS_block ?_ | refine WS_skip ?_ | refine WS_blk ?_ | refine WS_label ?_ | refine WS_exit rfl ?_ | refine WS_true rfl ?_ | refine WS_false rfl ?_ | (refine WS_region rfl ?_; intro K' hK hP; simp only [go_sem]; apply hK; (focus (simp only [go_sem]; exact rfl)); clear hK hP K'))
        refine WS_region rfl ?_; intro K' hK hP; simp only [go_sem]
        refine ⟨by show src.size + 1 + zB.size ≤ _; omega, by omega, by rw [ByteArray.size_extract]; show src.size + 1 + zB.size + _ ≤ _; omega, ?_⟩
        refine ((vTokens _ (by omega) _ _ _ rd)).mono ?_; rintro _ _ ⟨rfl, rfl⟩; simp only [go_sem]
        apply hK; (focus (simp only [go_sem]; exact rfl)); clear hK hP K'
        repeat (first | refine WS_seq ?_ | refine WS_block ?_ | refine WS_blk ?_ | refine WS_skip ?_)
        refine WS_region rfl ?_; intro K' hK hP; simp only [go_sem]
        refine ((vSanity _)).mono ?_; rintro _ _ ⟨rfl, rfl⟩; simp only [go_sem, n00, Bool.and_self]
        refine ((cs _)).mono ?_; rintro _ _ ⟨rfl, rfl⟩; simp only [go_sem, decide_true]
        apply hK; (focus (simp only [go_sem]; exact rfl)); clear hK hP K'
        repeat (first | refine WS_seq ?_ | refine WS_block ?_ | refine WS_skip ?_ | refine WS_blk ?_ | refine WS_label ?_ | refine WS_exit rfl ?_ | refine WS_true rfl ?_ | refine WS_false rfl ?_ | (refine WS_region rfl ?_; intro K' hK hP; simp only [go_sem]; apply hK; (focus (simp only [go_sem]; exact rfl)); clear hK hP K'))
        refine WS_ret ?_; simp only [go_sem, Tryz.results8]
      · have t1 : ((x.at_ : Int) == (src.size : Int)) = false := beq_eq_false_iff_ne.2 (by omega)
        have hS := put_bytes2 src zB hat2
        have hSs : (src.extract 0 x.at_ ++ zB ++ src.extract x.at_ src.size).size ≤ 65536 := by
          rw [ByteArray.size_append, ByteArray.size_append, ByteArray.size_extract, ByteArray.size_extract]
          omega
        have rd := readGood hSs (by rw [← bl_len, hS]; exact hg')
        repeat (first | refine WS_seq ?_ | refine WS_block ?_ | refine WS_skip ?_ | refine WS_blk ?_ | refine WS_label ?_ | refine WS_exit rfl ?_ | refine WS_true rfl ?_ | refine WS_false rfl ?_ | (refine WS_region rfl ?_; intro K' hK hP; simp only [go_sem, t1]; apply hK; (focus (simp only [go_sem]; exact rfl)); clear hK hP K'))
        refine WS_region rfl ?_; intro K' hK hP; simp only [go_sem]
        refine ⟨by rw [ByteArray.size_extract]; omega, by omega, by rw [ByteArray.size_extract, ByteArray.size_extract]; omega, ?_⟩
        refine ((vTokens _ (by omega) _ _ _ rd)).mono ?_; rintro _ _ ⟨rfl, rfl⟩; simp only [go_sem]
        apply hK; (focus (simp only [go_sem]; exact rfl)); clear hK hP K'
        repeat (first | refine WS_seq ?_ | refine WS_block ?_ | refine WS_blk ?_ | refine WS_skip ?_)
        refine WS_region rfl ?_; intro K' hK hP; simp only [go_sem]
        refine ((vSanity _)).mono ?_; rintro _ _ ⟨rfl, rfl⟩; simp only [go_sem, n00, Bool.and_self]
        refine ((cs _)).mono ?_; rintro _ _ ⟨rfl, rfl⟩; simp only [go_sem, decide_true]
        apply hK; (focus (simp only [go_sem]; exact rfl)); clear hK hP K'
        repeat (first | refine WS_seq ?_ | refine WS_block ?_ | refine WS_skip ?_ | refine WS_blk ?_ | refine WS_label ?_ | refine WS_exit rfl ?_ | refine WS_true rfl ?_ | refine WS_false rfl ?_ | (refine WS_region rfl ?_; intro K' hK hP; simp only [go_sem]; apply hK; (focus (simp only [go_sem]; exact rfl)); clear hK hP K'))
        refine WS_ret ?_; simp only [go_sem, Tryz.results8]
    )
end Go.Proofs.YtjfccohgkgcnfaaGreatDoor
