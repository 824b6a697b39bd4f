/-
  The law LexerReadsAsSpecified, walked in plain values.
-/
import Derived.Test.YtjfccohgkgcnfaaGreatDoorA8
namespace Go.Proofs.YtjfccohgkgcnfaaGreatDoor
open Go.RowKit Go.Q Go.Lx Go.Vl
set_option maxRecDepth 100000
variable {σ : List (List PV)}
theorem good_len {n : Nat} {r : List UInt8} {l : List Tok} (h : Lx.Good n r l) : l.length ≤ r.length + 1 := by
  induction h with
  | fin => simp
  | cons ht _ ih =>
    have h1 := tok_len ht
    rename_i t _ _ _ _
    have h2 := skip_len false t
    rw [List.length_cons]; omega
/-- What is read is one. -/
theorem readOne (s : ByteArray) : ∃ rows p e, ReadP s rows p e ∧ (∀ rows' p' e', ReadP s rows' p' e' → rows' = rows ∧ p' = p ∧ e' = e) ∧ rows.length ≤ s.size + 1 ∧ ∀ k, k < rows.length → ∃ t : Tok, rows.getD k [] = tkR t := by
  by_cases h : 65536 < s.size
  · refine ⟨[], 0, 2, .inl ⟨h, rfl, rfl, rfl⟩, fun rows' p' e' h' => ?_, Nat.zero_le _, fun k hk => by cases hk⟩
    rcases h' with ⟨_, h1, h2, h3⟩ | ⟨h1, _⟩
    · exact ⟨h1, h2, h3⟩
    · omega
  · rcases Lx.total s.size _ (skip false (bl s)) (Nat.le_refl _) with ⟨l, hg⟩ | ⟨p, e, hb⟩
    · refine ⟨l.map tkR, 0, 0, .inr ⟨by omega, .inl ⟨l, hg, rfl, rfl, rfl⟩⟩, fun rows' p' e' h' => ?_, ?_, fun k hk => ?_⟩
      · rcases h' with ⟨h1, _⟩ | ⟨_, ⟨l', hg', h2, h3, h4⟩ | ⟨hb', _⟩⟩
        · omega
        · rw [hg'.unique hg] at h2; exact ⟨h2, h3, h4⟩
        · exact (hg.notBad hb').elim
      · have h1 := good_len hg
        have h2 := skip_len false (bl s)
        rw [bl_len] at h2
        rw [List.length_map]; omega
      · rw [List.length_map] at hk
        exact ⟨l[k], by rw [List.getD_eq_getElem?_getD, List.getElem?_map, List.getElem?_eq_getElem hk]; rfl⟩
    · refine ⟨[], p, e, .inr ⟨by omega, .inr ⟨hb, rfl⟩⟩, fun rows' p' e' h' => ?_, Nat.zero_le _, fun k hk => by cases hk⟩
      rcases h' with ⟨h1, _⟩ | ⟨_, ⟨l', hg', _⟩ | ⟨hb', h2⟩⟩
      · omega
      · exact (hg'.notBad hb).elim
      · have := hb'.unique hb; exact ⟨h2, this.1, this.2⟩
theorem vRefTokens (src : ByteArray) (hs : src.size ≤ 1000000) (rows : List (List PV)) (p e : Nat) (hr : ∀ rows' p' e', ReadP src rows' p' e' → rows' = rows ∧ p' = p ∧ e' = e) :
    VC Tryz.prog 13 [.lit (.string src)] σ fun x σ' => x = .ret (.agg [.sl rows .shared, .lit (.int .i64 (p : Int)), .lit (.int .i64 (e : Int))]) ∧ σ' = σ := by
  refine VC.pure ((vRefTokens0 src hs).mono ?_) rfl
  rintro x _ ⟨rfl, rows', p', e', h, rfl⟩
  obtain ⟨rfl, rfl, rfl⟩ := hr _ _ _ h
  exact ⟨rfl, rfl⟩
theorem vLaw3 (src : ByteArray) (hsan : ∀ σ : List (List PV), VC Tryz.prog 11 [] σ fun x σ' => x = .ret (.lit (.bool true)) ∧ σ' = σ) :
    VC Tryz.prog 3 [.lit (.string src)] [] fun x σ' => x = .ret (.lit (.bool true)) ∧ σ' = [] := by
  refine VC.intro ⟨[0, 2, 3, 4, 5, 6, 9, 29, 33, 45], []⟩ Tryz.func3 rfl follows ok3 (by rw [Tryz.ntmps3]; exact Nat.le_of_ble_eq_true rfl) ?_; refine WS_of ?_
  repeat (first | refine WS_seq ?_ | refine WS_block ?_ | refine WS_skip ?_ | refine WS_blk ?_ | refine WS_label ?_ | refine WS_exit rfl ?_ | refine WS_true rfl ?_ | refine WS_false rfl ?_ | (refine WS_region rfl ?_; intro K' hK hP; simp only [go_sem]; apply hK; (focus (simp only [go_sem]; exact rfl)); clear hK hP K'))
  by_cases h7 : 70000 < src.size
  · have d1 : decide ((70000 : Int) < (src.size : Int)) = true := by rw [decide_eq_true_eq]; omega
    refine WS_true (by simp only [go_sem, d1]) ?_
    repeat (first | refine WS_seq ?_ | refine WS_block ?_ | refine WS_skip ?_ | refine WS_blk ?_ | refine WS_label ?_ | refine WS_exit rfl ?_ | refine WS_true rfl ?_ | refine WS_false rfl ?_ | (refine WS_region rfl ?_; intro K' hK hP; simp only [go_sem]; apply hK; (focus (simp only [go_sem]; exact rfl)); clear hK hP K'))
    refine WS_region rfl ?_; intro K' hK hP; simp only [go_sem]; refine ((hsan [])).mono ?_; rintro _ _ ⟨rfl, rfl⟩; simp only [go_sem]; apply hK; (focus (simp only [go_sem]; exact rfl)); clear hK hP K'
    repeat (first | refine WS_seq ?_ | refine WS_block ?_ | refine WS_skip ?_ | refine WS_blk ?_ | refine WS_label ?_ | refine WS_exit rfl ?_ | refine WS_true rfl ?_ | refine WS_false rfl ?_ | (refine WS_region rfl ?_; intro K' hK hP; simp only [go_sem]; apply hK; (focus (simp only [go_sem]; exact rfl)); clear hK hP K'))
    refine WS_ret ?_; simp only [go_sem, Tryz.results3]
  have d1 : decide ((70000 : Int) < (src.size : Int)) = false := by rw [decide_eq_false_iff_not]; omega
  have hs : src.size ≤ 1000000 := by omega
  obtain ⟨rows, p, e, _, hr, hrl, hrow⟩ := readOne src
  refine WS_false (by simp only [go_sem, d1]) ?_
  repeat (first | refine WS_seq ?_ | refine WS_block ?_ | refine WS_skip ?_ | refine WS_blk ?_ | refine WS_label ?_ | refine WS_exit rfl ?_ | refine WS_true rfl ?_ | refine WS_false rfl ?_ | (refine WS_region rfl ?_; intro K' hK hP; simp only [go_sem]; apply hK; (focus (simp only [go_sem]; exact rfl)); clear hK hP K'))
  refine WS_region rfl ?_; intro K' hK hP; simp only [go_sem]; refine ((vTokens src hs rows p e hr)).mono ?_; rintro _ _ ⟨rfl, rfl⟩; simp only [go_sem]; apply hK; (focus (simp only [go_sem]; exact rfl)); clear hK hP K'
  repeat (first | refine WS_seq ?_ | refine WS_block ?_ | refine WS_skip ?_ | refine WS_blk ?_ | refine WS_label ?_ | refine WS_exit rfl ?_ | refine WS_true rfl ?_ | refine WS_false rfl ?_ | (refine WS_region rfl ?_; intro K' hK hP; simp only [go_sem]; apply hK; (focus (simp only [go_sem]; exact rfl)); clear hK hP K'))
  refine WS_region rfl ?_; intro K' hK hP; simp only [go_sem]; refine ((vRefTokens src hs rows p e hr)).mono ?_; rintro _ _ ⟨rfl, rfl⟩; simp only [go_sem]; apply hK; (focus (simp only [go_sem]; exact rfl)); clear hK hP K'
  repeat (first | refine WS_seq ?_ | refine WS_block ?_ | refine WS_skip ?_ | refine WS_blk ?_ | refine WS_label ?_ | refine WS_exit rfl ?_ | refine WS_true rfl ?_ | refine WS_false rfl ?_ | (refine WS_region rfl ?_; intro K' hK hP; simp only [go_sem, bne_self_eq_false]; apply hK; (focus (simp only [go_sem]; exact rfl)); clear hK hP K'))
  refine WS_for [0, 2, 3, 4, 5, 6] 2 (fun k : Nat => k ≤ rows.length) (fun k => rows.length - k)
    (fun k => ⟨[(0, .lit (.string src)), (2, .lit (.bool false)), (3, .sl rows .shared), (4, .ptr 0 0), (5, .ptr 1 0), (6, .lit (.int .i64 (k : Int)))], [[.lit (.int .i64 (p : Int)), .lit (.int .i64 (e : Int))], [.sl rows .shared, .lit (.int .i64 (p : Int)), .lit (.int .i64 (e : Int))]]⟩) 0 (Nat.zero_le _) ?_ (Nat.zero_le _) ?_
  · exact rfl
  rintro k hk
  by_cases hlt : k < rows.length
  · have d2 : decide ((k : Int) < (rows.length : Int)) = true := by rw [decide_eq_true_eq]; omega
    obtain ⟨t, ht⟩ := hrow k hlt
    unfold tkR tkRow at ht
    repeat (first | refine WS_seq ?_ | refine WS_block ?_ | refine WS_skip ?_ | refine WS_blk ?_ | refine WS_label ?_ | refine WS_exit rfl ?_ | refine WS_true rfl ?_ | refine WS_false rfl ?_ | (refine WS_region rfl ?_; intro K' hK hP; simp only [go_sem, d2]; apply hK; (focus (simp only [go_sem]; exact rfl)); clear hK hP K'))
    refine WS_region rfl ?_; intro K' hK hP; simp only [go_sem, ht]
    refine ⟨⟨by omega, by omega⟩, ⟨by omega, by omega⟩, ?_⟩
    apply hK; (focus (simp only [go_sem]; exact rfl)); clear hK hP K'
    have w1 : IntKind.i64.wrap ((k : Int) + 1) = ((k + 1 : Nat) : Int) := wrapN (by omega) (by omega)
    repeat (first | refine WS_seq ?_ | refine WS_block ?_ | refine WS_skip ?_ | refine WS_blk ?_ | refine WS_label ?_ | refine WS_exit rfl ?_ | refine WS_true rfl ?_ | refine WS_false rfl ?_ | (refine WS_region rfl ?_; intro K' hK hP; simp only [go_sem, w1]; apply hK; (focus (simp only [go_sem]; exact rfl)); clear hK hP K'))
    exact WS_again (k + 1) rfl hlt (by omega)
  · have d2 : decide ((k : Int) < (rows.length : Int)) = false := by rw [decide_eq_false_iff_not]; omega
    repeat (first | refine WS_seq ?_ | refine WS_block ?_ | refine WS_skip ?_ | refine WS_blk ?_ | refine WS_label ?_ | refine WS_exit rfl ?_ | refine WS_true rfl ?_ | refine WS_false rfl ?_ | (refine WS_region rfl ?_; intro K' hK hP; simp only [go_sem, d2]; apply hK; (focus (simp only [go_sem]; exact rfl)); clear hK hP K'))
    refine WS_region rfl ?_; intro K' hK hP; simp only [go_sem]; refine ((hsan _)).mono ?_; rintro _ _ ⟨rfl, rfl⟩; simp only [go_sem]; apply hK; (focus (simp only [go_sem]; exact rfl)); clear hK hP K'
    repeat (first | refine WS_seq ?_ | refine WS_block ?_ | refine WS_skip ?_ | refine WS_blk ?_ | refine WS_label ?_ | refine WS_exit rfl ?_ | refine WS_true rfl ?_ | refine WS_false rfl ?_ | (refine WS_region rfl ?_; intro K' hK hP; simp only [go_sem]; apply hK; (focus (simp only [go_sem]; exact rfl)); clear hK hP K'))
    refine WS_ret ?_; simp only [go_sem, Tryz.results3]
end Go.Proofs.YtjfccohgkgcnfaaGreatDoor
