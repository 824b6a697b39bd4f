/-
  The law LexerStopsAtTheFirstProblem, walked in plain values.
-/
import Derived.Test.YtjfccohgkgcnfaaGreatDoorA9
namespace Go.Proofs.YtjfccohgkgcnfaaGreatDoor
open Go.RowKit Go.Q Go.Lx Go.Vl
set_option maxRecDepth 100000
set_option maxHeartbeats 1000000
theorem bad_code {n p e : Nat} {r : List UInt8} (h : Lx.Bad n r p e) : e ≠ 0 := by
  induction h with
  | here _ ht => exact tok_bad_code ht
  | later _ _ ih => exact ih
theorem readGood {s : ByteArray} {l : List Tok} (h : s.size ≤ 65536) (hg : Lx.Good s.size (skip false (bl s)) l) : ∀ rows' p' e', ReadP s rows' p' e' → rows' = l.map tkR ∧ p' = 0 ∧ e' = 0 := by
  intro rows' p' e' h'
  rcases h' with ⟨h1, _⟩ | ⟨_, ⟨l', hg', h2, h3, h4⟩ | ⟨hb', _⟩⟩
  · omega
  · rw [hg'.unique hg] at h2; exact ⟨h2, h3, h4⟩
  · exact (hg.notBad hb').elim
theorem readBad {s : ByteArray} {p e : Nat} (h : s.size ≤ 65536) (hb : Lx.Bad s.size (skip false (bl s)) p e) : ∀ rows' p' e', ReadP s rows' p' e' → rows' = [] ∧ p' = p ∧ e' = e := by
  intro rows' p' e' h'
  rcases h' with ⟨h1, _⟩ | ⟨_, ⟨l', hg', _⟩ | ⟨hb', h2⟩⟩
  · omega
  · exact (hg'.notBad hb).elim
  · have := hb'.unique hb; exact ⟨h2, this.1, this.2⟩
/-- What stands before the first problem is read. -/
theorem before_bad {s : ByteArray} {p e : Nat} (hb : Lx.Bad s.size (skip false (bl s)) p e) : p < s.size ∧ ∃ l, l ≠ [] ∧ Lx.Good p (skip false ((bl s).take p)) l := by
  have hle := skip_len false (bl s)
  rw [bl_len] at hle
  obtain ⟨pre, bad, h1, h2, h3, l, h4, h5⟩ := stop_good hb (skip_idem false (bl s)) hle
  have hbl : 0 < bad.length := List.length_pos_iff.2 h2
  have hrl := congrArg List.length h1
  rw [List.length_append] at hrl
  refine ⟨by omega, l, h4, ?_⟩
  cases hc : skip false (bl s) with
  | nil => rw [hc] at hrl; simp at hrl; omega
  | cons c r =>
    obtain ⟨w, h6, h7⟩ := skip_cut false (bl s) hc
    rw [hc] at h1
    rw [h1] at h6
    have hl := congrArg List.length h6
    rw [bl_len, List.length_append, List.length_append] at hl
    have : (bl s).take p = w ++ pre := by
      rw [h6, ← List.append_assoc, List.take_append_of_le_length (by rw [List.length_append]; omega), List.take_of_length_le (by rw [List.length_append]; omega)]
    rw [this, h7]; exact h5
theorem vLaw9 (src : ByteArray) (hsan : ∀ σ : List (List PV), VC Tryz.prog 11 [] σ fun x σ' => x = .ret (.lit (.bool true)) ∧ σ' = σ) :
    VC Tryz.prog 9 [.lit (.string src)] [] fun x σ' => x = .ret (.lit (.bool true)) ∧ σ' = [] := by
  refine VC.intro ⟨[0, 2, 4, 5, 6, 9, 18, 29], []⟩ Tryz.func9 rfl follows ok9 (by rw [Tryz.ntmps9]; exact Nat.le_of_ble_eq_true rfl) ?_; refine WS_of ?_
  repeat (first | refine WS_seq ?_ | refine WS_block ?_ | refine WS_skip ?_ | refine WS_blk ?_ | refine WS_label ?_ | refine WS_exit rfl ?_ | refine WS_true rfl ?_ | refine WS_false rfl ?_ | (refine WS_region rfl ?_; intro K' hK hP; simp only [go_sem]; apply hK; (focus (simp only [go_sem]; exact rfl)); clear hK hP K'))
  by_cases h7 : 2000 < src.size
  · have d1 : decide ((2000 : Int) < (src.size : Int)) = true := by rw [decide_eq_true_eq]; omega
    refine WS_true (by simp only [go_sem, d1]) ?_
    repeat (first | refine WS_seq ?_ | refine WS_block ?_ | refine WS_skip ?_ | refine WS_blk ?_ | refine WS_label ?_ | refine WS_exit rfl ?_ | refine WS_true rfl ?_ | refine WS_false rfl ?_ | (refine WS_region rfl ?_; intro K' hK hP; simp only [go_sem]; apply hK; (focus (simp only [go_sem]; exact rfl)); clear hK hP K'))
    refine WS_region rfl ?_; intro K' hK hP; simp only [go_sem]; refine ((hsan [])).mono ?_; rintro _ _ ⟨rfl, rfl⟩; simp only [go_sem]; apply hK; (focus (simp only [go_sem]; exact rfl)); clear hK hP K'
    repeat (first | refine WS_seq ?_ | refine WS_block ?_ | refine WS_skip ?_ | refine WS_blk ?_ | refine WS_label ?_ | refine WS_exit rfl ?_ | refine WS_true rfl ?_ | refine WS_false rfl ?_ | (refine WS_region rfl ?_; intro K' hK hP; simp only [go_sem]; apply hK; (focus (simp only [go_sem]; exact rfl)); clear hK hP K'))
    refine WS_ret ?_; simp only [go_sem, Tryz.results9]
  have d1 : decide ((2000 : Int) < (src.size : Int)) = false := by rw [decide_eq_false_iff_not]; omega
  have hs : src.size ≤ 1000000 := by omega
  refine WS_false (by simp only [go_sem, d1]) ?_
  repeat (first | refine WS_seq ?_ | refine WS_block ?_ | refine WS_skip ?_ | refine WS_blk ?_ | refine WS_label ?_ | refine WS_exit rfl ?_ | refine WS_true rfl ?_ | refine WS_false rfl ?_ | (refine WS_region rfl ?_; intro K' hK hP; simp only [go_sem]; apply hK; (focus (simp only [go_sem]; exact rfl)); clear hK hP K'))
  rcases Lx.total src.size _ (skip false (bl src)) (Nat.le_refl _) with ⟨l, hg⟩ | ⟨p, e, hb⟩
  · refine WS_region rfl ?_; intro K' hK hP; simp only [go_sem]; refine ((vTokens src hs _ _ _ (readGood (by omega) hg))).mono ?_; rintro _ _ ⟨rfl, rfl⟩; simp only [go_sem]; apply hK; (focus (simp only [go_sem]; exact rfl)); clear hK hP K'
    repeat (first | refine WS_seq ?_ | refine WS_block ?_ | refine WS_skip ?_ | refine WS_blk ?_ | refine WS_label ?_ | refine WS_exit rfl ?_ | refine WS_true rfl ?_ | refine WS_false rfl ?_ | (refine WS_region rfl ?_; intro K' hK hP; simp only [go_sem]; apply hK; (focus (simp only [go_sem]; exact rfl)); clear hK hP K'))
    refine WS_region rfl ?_; intro K' hK hP; simp only [go_sem]; refine ((hsan _)).mono ?_; rintro _ _ ⟨rfl, rfl⟩; simp only [go_sem]; apply hK; (focus (simp only [go_sem]; exact rfl)); clear hK hP K'
    repeat (first | refine WS_seq ?_ | refine WS_block ?_ | refine WS_skip ?_ | refine WS_blk ?_ | refine WS_label ?_ | refine WS_exit rfl ?_ | refine WS_true rfl ?_ | refine WS_false rfl ?_ | (refine WS_region rfl ?_; intro K' hK hP; simp only [go_sem]; apply hK; (focus (simp only [go_sem]; exact rfl)); clear hK hP K'))
    refine WS_ret ?_; simp only [go_sem, Tryz.results9]
  · obtain ⟨hp, l, hl, hg⟩ := before_bad hb
    have he := bad_code hb
    have b1 : ((e : Int) == 0) = false := beq_eq_false_iff_ne.2 (by omega)
    have d2 : decide ((p : Int) < 0) = false := by rw [decide_eq_false_iff_not]; omega
    have d3 : decide ((src.size : Int) ≤ (p : Int)) = false := by rw [decide_eq_false_iff_not]; omega
    refine WS_region rfl ?_; intro K' hK hP; simp only [go_sem]; refine ((vTokens src hs _ _ _ (readBad (by omega) hb))).mono ?_; rintro _ _ ⟨rfl, rfl⟩; simp only [go_sem]; apply hK; (focus (simp only [go_sem]; exact rfl)); clear hK hP K'
    repeat (first | refine WS_seq ?_ | refine WS_block ?_ | refine WS_skip ?_ | refine WS_blk ?_ | refine WS_label ?_ | refine WS_exit rfl ?_ | refine WS_true rfl ?_ | refine WS_false rfl ?_ | (refine WS_region rfl ?_; intro K' hK hP; simp only [go_sem, b1, d2, d3]; apply hK; (focus (simp only [go_sem]; exact rfl)); clear hK hP K'))
    have hx : bl (src.extract 0 p) = (bl src).take p := by rw [bl_ext, List.drop_zero]; rfl
    have hxs : (src.extract 0 p).size = p := by rw [← bl_len, hx, List.length_take, bl_len]; omega
    have hr := readGood (s := src.extract 0 p) (l := l) (by omega) (by rw [hxs, hx]; exact hg)
    refine WS_region rfl ?_; intro K' hK hP; simp only [go_sem]
    refine ⟨⟨by omega, by omega⟩, ?_⟩
    refine ((vTokens (src.extract 0 p) (by omega) _ _ _ hr)).mono ?_; rintro _ _ ⟨rfl, rfl⟩; simp only [go_sem]
    apply hK; (focus (simp only [go_sem]; exact rfl)); clear hK hP K'
    have b0 : (((0 : Nat) : Int) == 0) = true := rfl
    have dl : decide ((0 : Int) < ((l.map tkR).length : Int)) = true := by
      rw [decide_eq_true_eq, List.length_map]
      have := List.length_pos_iff.2 hl
      omega
    by_cases hp0 : p = 0
    · have bp : ((p : Int) == 0) = true := beq_iff_eq.2 (by omega)
      repeat (first | refine WS_seq ?_ | refine WS_block ?_ | refine WS_blk ?_ | refine WS_skip ?_)
      refine WS_region rfl ?_; intro K' hK hP; simp only [go_sem]
      refine ((hsan _)).mono ?_; rintro _ _ ⟨rfl, rfl⟩; simp only [go_sem, bp]
      apply hK; (focus (simp only [go_sem]; exact rfl)); clear hK hP K'
      repeat (first | refine WS_seq ?_ | refine WS_block ?_ | refine WS_skip ?_ | refine WS_blk ?_ | refine WS_label ?_ | refine WS_exit rfl ?_ | refine WS_true rfl ?_ | refine WS_false rfl ?_ | (refine WS_region rfl ?_; intro K' hK hP; simp only [go_sem]; apply hK; (focus (simp only [go_sem]; exact rfl)); clear hK hP K'))
      refine WS_ret ?_; simp only [go_sem, Tryz.results9]
    · have bp : ((p : Int) == 0) = false := beq_eq_false_iff_ne.2 (by omega)
      repeat (first | refine WS_seq ?_ | refine WS_block ?_ | refine WS_blk ?_ | refine WS_skip ?_)
      refine WS_region rfl ?_; intro K' hK hP; simp only [go_sem]
      refine ((hsan _)).mono ?_; rintro _ _ ⟨rfl, rfl⟩; simp only [go_sem, b0, dl, bp]
      apply hK; (focus (simp only [go_sem]; exact rfl)); clear hK hP K'
      repeat (first | refine WS_seq ?_ | refine WS_block ?_ | refine WS_skip ?_ | refine WS_blk ?_ | refine WS_label ?_ | refine WS_exit rfl ?_ | refine WS_true rfl ?_ | refine WS_false rfl ?_ | (refine WS_region rfl ?_; intro K' hK hP; simp only [go_sem]; apply hK; (focus (simp only [go_sem]; exact rfl)); clear hK hP K'))
      refine WS_ret ?_; simp only [go_sem, Tryz.results9]
end Go.Proofs.YtjfccohgkgcnfaaGreatDoor
