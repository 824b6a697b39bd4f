/-
  The reference's lexer, walked in plain values: Tokens.
-/
import Derived.Test.YtjfccohgkgcnfaaGreatDoorA7
import Derived.Test.YtjfccohgkgcnfaaGreatDoorVC
import Derived.Test.YtjfccohgkgcnfaaGreatDoorWg
namespace Go.Proofs.YtjfccohgkgcnfaaGreatDoor
open Go.RowKit Go.Q Go.Lx Go.Vl
set_option maxRecDepth 100000
variable {σ : List (List PV)}
theorem vTokens (src : ByteArray) (hs : src.size ≤ 1000000) (rows : List (List PV)) (p e : Nat) (hr : ∀ rows' p' e', ReadP src rows' p' e' → rows' = rows ∧ p' = p ∧ e' = e) :
    VC Tryz.prog 12 [.lit (.string src)] σ fun x σ' => x = .ret (.tup [.sl rows .shared, .agg [.lit (.int .i64 (p : Int)), .lit (.int .i64 (e : Int))]]) ∧ σ' = σ := by
  refine VC.pure ((vTokens0 src hs).less ?_) rfl
  rintro x _ ⟨rfl, rows', p', e', g, h, rfl⟩
  obtain ⟨rfl, rfl, rfl⟩ := hr _ _ _ h
  exact ⟨_, ⟨rfl, rfl⟩, fun _ _ _ h => h.share⟩
theorem vRefBlank (s : ByteArray) (p : Nat) (hp : p ≤ s.size) (hs : s.size ≤ 1000000) : VC Tryz.prog 19 [.lit (.string s), .lit (.int .i64 (p : Int))] σ fun x σ' => x = .ret (.lit (.int .i64 ((s.size - (skip false ((bl s).drop p)).length : Nat) : Int))) ∧ σ' = σ :=
  VC.lits [.string s, .int .i64 (p : Int)] _ fun w _ => (refBlank s p hp hs).mono fun _ _ h => ⟨h.1, by rw [h.2]; exact Below.refl _ _⟩
/-- A token of the reference. -/
def oneP (n p : Nat) : Out → PV
  | .ok k s v t => .agg [.lit (.int .i64 (k : Int)), .lit (.int .i64 (p : Int)), .lit (.string ⟨⟨s⟩⟩), .lit (.int .i64 (v : Int)), .lit (.int .i64 ((n - t.length : Nat) : Int)), .lit (.int .i64 0)]
  | .bad x => .agg [.lit (.int .i64 0), .lit (.int .i64 0), .lit (.string ⟨#[]⟩), .lit (.int .i64 0), .lit (.int .i64 0), .lit (.int .i64 (x : Int))]
theorem vRefToken (s : ByteArray) (p : Nat) (hp : p < s.size) (hs : s.size ≤ 1000000) : VC Tryz.prog 23 [.lit (.string s), .lit (.int .i64 (p : Int))] σ fun x σ' => x = .ret (oneP s.size p (Lx.tok ((bl s).drop p))) ∧ σ' = σ := by
  cases ht : Lx.tok ((bl s).drop p) with
  | ok k t v r =>
    refine VC.litAgg [.string s, .int .i64 (p : Int)] [.int .i64 (k : Int), .int .i64 (p : Int), .string ⟨⟨t⟩⟩, .int .i64 (v : Int), .int .i64 ((s.size - r.length : Nat) : Int), .int .i64 0] (by simp [Value.oneCell']) fun w _ => (refToken s p hp hs).mono fun e w' h => ?_
    rw [ht] at h
    obtain ⟨⟨b, hb, he⟩, h2⟩ := h
    subst hb
    exact ⟨he, h2⟩
  | bad x =>
    refine VC.litAgg [.string s, .int .i64 (p : Int)] [.int .i64 0, .int .i64 0, .string ⟨#[]⟩, .int .i64 0, .int .i64 0, .int .i64 (x : Int)] (by simp [Value.oneCell']) fun w _ => (refToken s p hp hs).mono fun e w' h => ?_
    rw [ht] at h
    exact h
theorem vRefTokens0 (src : ByteArray) (hs : src.size ≤ 1000000) :
    VC Tryz.prog 13 [.lit (.string src)] [] fun x σ' => σ' = [] ∧ ∃ rows p e, ReadP src rows p e ∧ x = .ret (.agg [.sl rows .shared, .lit (.int .i64 (p : Int)), .lit (.int .i64 (e : Int))]) := by
  refine VC.intro ⟨[0, 2, 3, 4, 5, 8, 16, 22], []⟩ Tryz.func13 rfl follows ok13 (by rw [Tryz.ntmps13]; exact Nat.le_of_ble_eq_true rfl) ?_; refine WS_of ?_
  repeat (first | refine WS_seq ?_ | refine WS_block ?_ | refine WS_skip ?_ | refine WS_blk ?_ | refine WS_label ?_ | refine WS_exit rfl ?_ | refine WS_true rfl ?_ | refine WS_false rfl ?_ | (refine WS_region rfl ?_; intro K' hK hP; simp only [go_sem]; apply hK; (focus (simp only [go_sem]; exact rfl)); clear hK hP K'))
  by_cases h64 : 65536 < src.size
  · have d1 : decide ((65536 : Int) < (src.size : Int)) = true := by rw [decide_eq_true_eq]; omega
    refine WS_true (by simp only [go_sem, d1]) ?_
    repeat (first | refine WS_seq ?_ | refine WS_block ?_ | refine WS_skip ?_ | refine WS_blk ?_ | refine WS_label ?_ | refine WS_exit rfl ?_ | refine WS_true rfl ?_ | refine WS_false rfl ?_ | (refine WS_region rfl ?_; intro K' hK hP; simp only [go_sem]; apply hK; (focus (simp only [go_sem]; exact rfl)); clear hK hP K'))
    refine WS_ret ?_; simp only [go_sem, Tryz.results13]
    exact ⟨[], 0, 2, .inl ⟨h64, rfl, rfl, rfl⟩, rfl⟩
  have d1 : decide ((65536 : Int) < (src.size : Int)) = false := by rw [decide_eq_false_iff_not]; omega
  refine WS_false (by simp only [go_sem, d1]) ?_
  repeat (first | refine WS_seq ?_ | refine WS_block ?_ | refine WS_skip ?_ | refine WS_blk ?_ | refine WS_label ?_ | refine WS_exit rfl ?_ | refine WS_true rfl ?_ | refine WS_false rfl ?_ | (refine WS_region rfl ?_; intro K' hK hP; simp only [go_sem]; apply hK; (focus (simp only [go_sem]; exact rfl)); clear hK hP K'))
  refine WS_region rfl ?_; intro K' hK hP; simp only [go_sem]; refine ((vRefBlank src 0 (Nat.zero_le _) hs)).mono ?_; rintro _ _ ⟨rfl, rfl⟩; simp only [go_sem]; apply hK; (focus (simp only [go_sem]; exact rfl)); clear hK hP K'
  repeat (first | refine WS_seq ?_ | refine WS_block ?_ | refine WS_skip ?_ | refine WS_blk ?_ | refine WS_label ?_ | refine WS_exit rfl ?_ | refine WS_true rfl ?_ | refine WS_false rfl ?_ | (refine WS_region rfl ?_; intro K' hK hP; simp only [go_sem]; apply hK; (focus (simp only [go_sem]; exact rfl)); clear hK hP K'))
  have hp0 := skip_at src 0
  rw [List.drop_zero] at hp0
  refine WS_for [0, 2, 3, 4] 1 (fun a : List Tok × Nat => a.2 ≤ src.size ∧ a.1.length ≤ a.2 ∧ Sofar src.size (skip false (bl src)) a.1 ((bl src).drop a.2)) (fun a => src.size - a.2)
    (fun a => ⟨[(0, .lit (.string src)), (2, .ptr 0 0), (3, .sl (a.1.map tkR) .own), (4, .lit (.int .i64 (a.2 : Int)))], [[.sl [] .own, .lit (.int .i64 0), .lit (.int .i64 0)]]⟩) ([], src.size - (skip false (bl src)).length) (Nat.zero_le _) ?_ ⟨hp0.2, Nat.zero_le _, ?_⟩ ?_
  · exact rfl
  · simp only
    rw [hp0.1]; exact Sofar.nil _ _
  rintro ⟨L, p⟩ ⟨h1, h2, h3⟩
  simp only at h1 h2 h3 ⊢
  have hxl : ∀ x ∈ L.map tkR, x.length = 4 := tkR_len
  have hll : (L.map tkR).length = L.length := List.length_map ..
  by_cases hp : p < src.size
  · have d2 : decide ((p : Int) < (src.size : Int)) = true := by rw [decide_eq_true_eq]; omega
    have hne : (bl src).drop p ≠ [] := by rw [bl_drop src p hp]; simp
    have hlr : ((bl src).drop p).length = src.size - p := by rw [List.length_drop, bl_len]
    have hn := vRefToken (σ := [[.sl [] .own, .lit (.int .i64 0), .lit (.int .i64 0)]]) src p hp hs
    repeat (first | refine WS_seq ?_ | refine WS_block ?_ | refine WS_skip ?_ | refine WS_blk ?_ | refine WS_label ?_ | refine WS_exit rfl ?_ | refine WS_true rfl ?_ | refine WS_false rfl ?_ | (refine WS_region rfl ?_; intro K' hK hP; simp only [go_sem, d2]; apply hK; (focus (simp only [go_sem]; exact rfl)); clear hK hP K'))
    cases ht : Lx.tok ((bl src).drop p) with
    | bad e =>
      rw [ht] at hn
      unfold oneP at hn
      have he0 := tok_bad_code ht
      have b1 : ((e : Int) == 0) = false := beq_eq_false_iff_ne.2 (by omega)
      refine WS_region rfl ?_; intro K' hK hP; simp only [go_sem]; refine (hn).mono ?_; rintro _ _ ⟨rfl, rfl⟩; simp only [go_sem]; apply hK; (focus (simp only [go_sem]; exact rfl)); clear hK hP K'
      repeat (first | refine WS_seq ?_ | refine WS_block ?_ | refine WS_skip ?_ | refine WS_blk ?_ | refine WS_label ?_ | refine WS_exit rfl ?_ | refine WS_true rfl ?_ | refine WS_false rfl ?_ | (refine WS_region rfl ?_; intro K' hK hP; simp only [go_sem, bne, b1]; apply hK; (focus (simp only [go_sem]; exact rfl)); clear hK hP K'))
      refine WS_ret ?_; simp only [go_sem, Tryz.results13]
      refine ⟨[], p, e, .inr ⟨by omega, .inr ⟨?_, rfl⟩⟩, rfl⟩
      have hb := h3.2 _ _ (Lx.Bad.here hne ht)
      rw [hlr, show src.size - (src.size - p) = p by omega] at hb
      exact hb
    | ok k s v t =>
      have hq := rest_at src p (tok_parts ht).2.1
      have htl := tok_len ht
      have hsk := skip_at src (src.size - t.length)
      rw [hq.1] at hsk
      have hkl := skip_len false t
      have hso := h3.cons ht
      rw [hlr, show src.size - (src.size - p) = p by omega] at hso
      have er : L.map tkR ++ [[.lit (.int .i64 (k : Int)), .lit (.int .i64 (p : Int)), .lit (.string ⟨⟨s⟩⟩), .lit (.int .i64 (v : Int))]] = (L ++ [(⟨k, p, s, v⟩ : Tok)]).map tkR := by rw [List.map_append]; rfl
      rw [ht] at hn
      unfold oneP at hn
      refine WS_region rfl ?_; intro K' hK hP; simp only [go_sem]; refine (hn).mono ?_; rintro _ _ ⟨rfl, rfl⟩; simp only [go_sem]; apply hK; (focus (simp only [go_sem]; exact rfl)); clear hK hP K'
      repeat (first | refine WS_seq ?_ | refine WS_block ?_ | refine WS_skip ?_ | refine WS_blk ?_ | refine WS_label ?_ | refine WS_exit rfl ?_ | refine WS_true rfl ?_ | refine WS_false rfl ?_ | (refine WS_region rfl ?_; intro K' hK hP; simp only [go_sem]; apply hK; (focus (simp only [go_sem]; exact rfl)); clear hK hP K'))
      refine WS_region rfl ?_; intro K' hK hP; simp only [go_sem, er]
      refine ⟨rfl, app_ok (by rw [hll]; exact Nat.le_trans (Nat.mul_le_mul_right _ (show L.length + 1 ≤ 1000001 by omega)) (by decide)) hxl rfl, ?_⟩
      apply hK; (focus (simp only [go_sem]; exact rfl)); clear hK hP K'
      repeat (first | refine WS_seq ?_ | refine WS_block ?_ | refine WS_skip ?_ | refine WS_blk ?_ | refine WS_label ?_ | refine WS_exit rfl ?_ | refine WS_true rfl ?_ | refine WS_false rfl ?_ | (refine WS_region rfl ?_; intro K' hK hP; simp only [go_sem]; apply hK; (focus (simp only [go_sem]; exact rfl)); clear hK hP K'))
      have hb := vRefBlank (σ := [[.sl [] .own, .lit (.int .i64 0), .lit (.int .i64 0)], [.lit (.int .i64 (k : Int)), .lit (.int .i64 (p : Int)), .lit (.string ⟨⟨s⟩⟩), .lit (.int .i64 (v : Int)), .lit (.int .i64 ((src.size - t.length : Nat) : Int)), .lit (.int .i64 0)]]) src (src.size - t.length) hq.2 hs
      rw [hq.1] at hb
      refine WS_region rfl ?_; intro K' hK hP; simp only [go_sem]; refine (hb).mono ?_; rintro _ _ ⟨rfl, rfl⟩; simp only [go_sem]; apply hK; (focus (simp only [go_sem]; exact rfl)); clear hK hP K'
      repeat (first | refine WS_seq ?_ | refine WS_block ?_ | refine WS_skip ?_ | refine WS_blk ?_ | refine WS_label ?_ | refine WS_exit rfl ?_ | refine WS_true rfl ?_ | refine WS_false rfl ?_ | (refine WS_region rfl ?_; intro K' hK hP; simp only [go_sem]; apply hK; (focus (simp only [go_sem]; exact rfl)); clear hK hP K'))
      exact WS_again (L ++ [(⟨k, p, s, v⟩ : Tok)], src.size - (skip false t).length) rfl ⟨hsk.2, by simp only [List.length_append, List.length_cons, List.length_nil]; omega, by simp only; rw [hsk.1]; exact hso⟩ (by simp only; omega)
  · have d2 : decide ((p : Int) < (src.size : Int)) = false := by rw [decide_eq_false_iff_not]; omega
    obtain rfl : p = src.size := by omega
    have er : L.map tkR ++ [[.lit (.int .i64 5), .lit (.int .i64 (src.size : Int)), .lit (.string ⟨#[]⟩), .lit (.int .i64 0)]] = (L ++ [(⟨5, src.size, [], 0⟩ : Tok)]).map tkR := by rw [List.map_append]; rfl
    obtain ⟨r0, X, hX⟩ : ∃ r0 X, (L ++ [(⟨5, src.size, [], 0⟩ : Tok)]).map tkR = r0 :: X := by cases L <;> exact ⟨_, _, rfl⟩
    rw [hX] at er
    repeat (first | refine WS_seq ?_ | refine WS_block ?_ | refine WS_skip ?_ | refine WS_blk ?_ | refine WS_label ?_ | refine WS_exit rfl ?_ | refine WS_true rfl ?_ | refine WS_false rfl ?_ | (refine WS_region rfl ?_; intro K' hK hP; simp only [go_sem, d2]; apply hK; (focus (simp only [go_sem]; exact rfl)); clear hK hP K'))
    refine WS_region rfl ?_; intro K' hK hP; simp only [go_sem, er]
    refine ⟨rfl, app_ok (by rw [hll]; exact Nat.le_trans (Nat.mul_le_mul_right _ (show L.length + 1 ≤ 1000001 by omega)) (by decide)) hxl rfl, ?_⟩
    apply hK; (focus (simp only [go_sem]; exact rfl)); clear hK hP K'
    repeat (first | refine WS_seq ?_ | refine WS_block ?_ | refine WS_skip ?_ | refine WS_blk ?_ | refine WS_label ?_ | refine WS_exit rfl ?_ | refine WS_true rfl ?_ | refine WS_false rfl ?_ | (refine WS_region rfl ?_; intro K' hK hP; simp only [go_sem]; apply hK; (focus (simp only [go_sem]; exact rfl)); clear hK hP K'))
    refine WS_ret ?_; simp only [go_sem, Tryz.results13]
    refine ⟨_, 0, 0, .inr ⟨by omega, .inl ⟨L ++ [(⟨5, src.size, [], 0⟩ : Tok)], h3.1 _ ?_, hX.symm, rfl, rfl⟩⟩, rfl⟩
    rw [bl_end]; exact .fin
end Go.Proofs.YtjfccohgkgcnfaaGreatDoor
