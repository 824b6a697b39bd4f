/-
  The lexer's functions, walked in plain values: next.
-/
import Derived.Test.YtjfccohgkgcnfaaGreatDoorA5
namespace Go.Proofs.YtjfccohgkgcnfaaGreatDoor
open Go.RowKit Go.Q Go.Lx Go.Vl
set_option maxRecDepth 100000
def outE : Out → Nat
  | .bad e => e
  | .ok _ _ _ _ => 0
theorem rdR_some (o : Out) : rdR (some o) = .tup [.lit (.bool true), .lit (.int .i64 (outE o : Int))] := by cases o <;> rfl
theorem rdR_none : rdR none = .tup [.lit (.bool false), .lit (.int .i64 0)] := rfl
theorem rdS_shape (src : ByteArray) (p : Nat) (xs : List (List PV)) (o : Out) : ∃ q ys, rdS src p xs (some o) = rdP src q ys := by
  cases o with
  | bad e => exact ⟨p, xs, rfl⟩
  | ok k s v r => exact ⟨_, _, rfl⟩
theorem sign_none {r : List UInt8} (h : someSign r = none) : sign r = .bad 26 := by
  unfold someSign at h
  split at h
  · rename_i e he
    unfold sign at he ⊢
    split at he
    · cases he
    · rename_i hn
      rw [if_neg hn]
      split at he
      · rfl
      · split at he
        · cases he
        · rename_i hs; rw [if_neg hs]
  · cases h
theorem vNext (src : ByteArray) (p : Nat) (xs : List (List PV)) (hp : p < src.size) (hs : src.size ≤ 1000000) (hx : ∀ x ∈ xs, x.length = 4) (hl : xs.length ≤ 1000000) :
    VC Tryz.prog 21 [.ptr 0 0] [rdP src p xs] fun x σ' => x = .ret (.lit (.int .i64 (outE (Lx.tok ((bl src).drop p)) : Int))) ∧ σ' = [rdS src p xs (some (Lx.tok ((bl src).drop p)))] := by
  have v0 := vName src p xs hp hs hx hl
  have v1 := vNumber src p xs hp hs hx hl
  have v2 := vText src p xs hp hs hx hl
  have v3 := vSign src p xs hp hs hx hl
  have hdr := bl_drop src p hp
  obtain ⟨R, hR⟩ : ∃ R, R = Lx.tok ((bl src).drop p) := ⟨_, rfl⟩
  rw [← hR]
  unfold Lx.tok at hR
  rw [hdr] at hR
  simp only at hR
  rw [← hdr] at hR
  refine VC.intro ⟨[0, 2, 4, 5, 6, 7, 8, 9, 17], []⟩ Tryz.func21 rfl follows ok21 (by rw [Tryz.ntmps21]; exact Nat.le_of_ble_eq_true rfl) ?_; refine WS_of ?_
  repeat (first | refine WS_seq ?_ | refine WS_block ?_ | refine WS_skip ?_ | refine WS_blk ?_ | refine WS_label ?_ | refine WS_exit rfl ?_ | refine WS_true rfl ?_ | refine WS_false rfl ?_ | (refine WS_region rfl ?_; intro K' hK hP; simp only [go_sem]; apply hK; (focus (simp only [go_sem]; exact rfl)); clear hK hP K'))
  refine WS_for [0, 2, 7, 8] 1 (fun i : Nat => i ≤ 4 ∧ (1 ≤ i → isLetter src[p] = false) ∧ (2 ≤ i → isDigit src[p] = false) ∧ (3 ≤ i → ¬ src[p] = 34) ∧ (4 ≤ i → someSign ((bl src).drop p) = none)) (fun i => 4 - i)
    (fun i => ⟨[(0, .ptr 0 0), (2, .lit (.int .i64 0)), (7, .agg [.fn 32 [], .fn 33 [], .fn 34 [], .fn 35 []]), (8, .lit (.int .i64 (i : Int)))], [rdP src p xs]⟩) 0 (Nat.le_refl _) ?_ ⟨by omega, fun h => by omega, fun h => by omega, fun h => by omega, fun h => by omega⟩ ?_
  · exact rfl
  rintro i ⟨h1, h2, h3, h4, h5⟩
  rcases (by omega : i = 0 ∨ i = 1 ∨ i = 2 ∨ i = 3 ∨ i = 4) with rfl | rfl | rfl | rfl | rfl
  · have w1 : IntKind.i64.wrap (((0 : Nat) : Int) + 1) = ((1 : Nat) : Int) := by decide
    repeat (first | refine WS_seq ?_ | refine WS_block ?_ | refine WS_skip ?_ | refine WS_blk ?_ | refine WS_label ?_ | refine WS_exit rfl ?_ | refine WS_true rfl ?_ | refine WS_false rfl ?_ | (refine WS_region rfl ?_; intro K' hK hP; simp only [go_sem]; apply hK; (focus (simp only [go_sem]; exact rfl)); clear hK hP K'))
    refine WS_region rfl ?_; intro K' hK hP; simp only [go_sem]
    refine ⟨⟨by omega, by omega⟩, ?_⟩
    apply hK; (focus (simp only [go_sem]; exact rfl)); clear hK hP K'
    repeat (first | refine WS_seq ?_ | refine WS_block ?_ | refine WS_skip ?_ | refine WS_blk ?_ | refine WS_label ?_ | refine WS_exit rfl ?_ | refine WS_true rfl ?_ | refine WS_false rfl ?_ | (refine WS_region rfl ?_; intro K' hK hP; simp only [go_sem]; apply hK; (focus (simp only [go_sem]; exact rfl)); clear hK hP K'))
    by_cases hc : isLetter src[p] = true
    · rw [if_pos hc] at v0 hR
      rw [← hR] at v0
      obtain ⟨q, ys, hq⟩ := rdS_shape src p xs R
      rw [hq, rdR_some] at v0
      rw [hq]
      refine WS_region rfl ?_; intro K' hK hP; simp only [go_sem]; refine (v0).mono ?_; rintro _ _ ⟨rfl, rfl⟩; simp only [go_sem]; apply hK; (focus (simp only [go_sem]; exact rfl)); clear hK hP K'
      repeat (first | refine WS_seq ?_ | refine WS_block ?_ | refine WS_skip ?_ | refine WS_blk ?_ | refine WS_label ?_ | refine WS_exit rfl ?_ | refine WS_true rfl ?_ | refine WS_false rfl ?_ | (refine WS_region rfl ?_; intro K' hK hP; simp only [go_sem]; apply hK; (focus (simp only [go_sem]; exact rfl)); clear hK hP K'))
      refine WS_ret ?_; simp only [go_sem, rdP, Tryz.results21]
    · rw [if_neg hc, rdR_none] at v0
      refine WS_region rfl ?_; intro K' hK hP; simp only [go_sem]; refine (v0).mono ?_; rintro _ _ ⟨rfl, rfl⟩; simp only [go_sem]; apply hK; (focus (simp only [go_sem]; exact rfl)); clear hK hP K'
      repeat (first | refine WS_seq ?_ | refine WS_block ?_ | refine WS_skip ?_ | refine WS_blk ?_ | refine WS_label ?_ | refine WS_exit rfl ?_ | refine WS_true rfl ?_ | refine WS_false rfl ?_ | (refine WS_region rfl ?_; intro K' hK hP; simp only [go_sem, w1]; apply hK; (focus (simp only [go_sem]; exact rfl)); clear hK hP K'))
      exact WS_again 1 rfl ⟨by omega, fun _ => by simpa using hc, fun h => by omega, fun h => by omega, fun h => by omega⟩ (by omega)
  · rw [if_neg (by rw [h2 (by omega)]; simp)] at hR
    have w1 : IntKind.i64.wrap (((1 : Nat) : Int) + 1) = ((2 : Nat) : Int) := by decide
    repeat (first | refine WS_seq ?_ | refine WS_block ?_ | refine WS_skip ?_ | refine WS_blk ?_ | refine WS_label ?_ | refine WS_exit rfl ?_ | refine WS_true rfl ?_ | refine WS_false rfl ?_ | (refine WS_region rfl ?_; intro K' hK hP; simp only [go_sem]; apply hK; (focus (simp only [go_sem]; exact rfl)); clear hK hP K'))
    refine WS_region rfl ?_; intro K' hK hP; simp only [go_sem]
    refine ⟨⟨by omega, by omega⟩, ?_⟩
    apply hK; (focus (simp only [go_sem]; exact rfl)); clear hK hP K'
    repeat (first | refine WS_seq ?_ | refine WS_block ?_ | refine WS_skip ?_ | refine WS_blk ?_ | refine WS_label ?_ | refine WS_exit rfl ?_ | refine WS_true rfl ?_ | refine WS_false rfl ?_ | (refine WS_region rfl ?_; intro K' hK hP; simp only [go_sem]; apply hK; (focus (simp only [go_sem]; exact rfl)); clear hK hP K'))
    by_cases hc : isDigit src[p] = true
    · rw [if_pos hc] at v1 hR
      rw [← hR] at v1
      obtain ⟨q, ys, hq⟩ := rdS_shape src p xs R
      rw [hq, rdR_some] at v1
      rw [hq]
      refine WS_region rfl ?_; intro K' hK hP; simp only [go_sem]; refine (v1).mono ?_; rintro _ _ ⟨rfl, rfl⟩; simp only [go_sem]; apply hK; (focus (simp only [go_sem]; exact rfl)); clear hK hP K'
      repeat (first | refine WS_seq ?_ | refine WS_block ?_ | refine WS_skip ?_ | refine WS_blk ?_ | refine WS_label ?_ | refine WS_exit rfl ?_ | refine WS_true rfl ?_ | refine WS_false rfl ?_ | (refine WS_region rfl ?_; intro K' hK hP; simp only [go_sem]; apply hK; (focus (simp only [go_sem]; exact rfl)); clear hK hP K'))
      refine WS_ret ?_; simp only [go_sem, rdP, Tryz.results21]
    · rw [if_neg hc, rdR_none] at v1
      refine WS_region rfl ?_; intro K' hK hP; simp only [go_sem]; refine (v1).mono ?_; rintro _ _ ⟨rfl, rfl⟩; simp only [go_sem]; apply hK; (focus (simp only [go_sem]; exact rfl)); clear hK hP K'
      repeat (first | refine WS_seq ?_ | refine WS_block ?_ | refine WS_skip ?_ | refine WS_blk ?_ | refine WS_label ?_ | refine WS_exit rfl ?_ | refine WS_true rfl ?_ | refine WS_false rfl ?_ | (refine WS_region rfl ?_; intro K' hK hP; simp only [go_sem, w1]; apply hK; (focus (simp only [go_sem]; exact rfl)); clear hK hP K'))
      exact WS_again 2 rfl ⟨by omega, fun _ => h2 (by omega), fun _ => by simpa using hc, fun h => by omega, fun h => by omega⟩ (by omega)
  · rw [if_neg (by rw [h2 (by omega)]; simp)] at hR; rw [if_neg (by rw [h3 (by omega)]; simp)] at hR
    have w1 : IntKind.i64.wrap (((2 : Nat) : Int) + 1) = ((3 : Nat) : Int) := by decide
    repeat (first | refine WS_seq ?_ | refine WS_block ?_ | refine WS_skip ?_ | refine WS_blk ?_ | refine WS_label ?_ | refine WS_exit rfl ?_ | refine WS_true rfl ?_ | refine WS_false rfl ?_ | (refine WS_region rfl ?_; intro K' hK hP; simp only [go_sem]; apply hK; (focus (simp only [go_sem]; exact rfl)); clear hK hP K'))
    refine WS_region rfl ?_; intro K' hK hP; simp only [go_sem]
    refine ⟨⟨by omega, by omega⟩, ?_⟩
    apply hK; (focus (simp only [go_sem]; exact rfl)); clear hK hP K'
    repeat (first | refine WS_seq ?_ | refine WS_block ?_ | refine WS_skip ?_ | refine WS_blk ?_ | refine WS_label ?_ | refine WS_exit rfl ?_ | refine WS_true rfl ?_ | refine WS_false rfl ?_ | (refine WS_region rfl ?_; intro K' hK hP; simp only [go_sem]; apply hK; (focus (simp only [go_sem]; exact rfl)); clear hK hP K'))
    by_cases hc : src[p] = 34
    · rw [if_pos hc] at v2 hR
      rw [← hR] at v2
      obtain ⟨q, ys, hq⟩ := rdS_shape src p xs R
      rw [hq, rdR_some] at v2
      rw [hq]
      refine WS_region rfl ?_; intro K' hK hP; simp only [go_sem]; refine (v2).mono ?_; rintro _ _ ⟨rfl, rfl⟩; simp only [go_sem]; apply hK; (focus (simp only [go_sem]; exact rfl)); clear hK hP K'
      repeat (first | refine WS_seq ?_ | refine WS_block ?_ | refine WS_skip ?_ | refine WS_blk ?_ | refine WS_label ?_ | refine WS_exit rfl ?_ | refine WS_true rfl ?_ | refine WS_false rfl ?_ | (refine WS_region rfl ?_; intro K' hK hP; simp only [go_sem]; apply hK; (focus (simp only [go_sem]; exact rfl)); clear hK hP K'))
      refine WS_ret ?_; simp only [go_sem, rdP, Tryz.results21]
    · rw [if_neg hc, rdR_none] at v2
      refine WS_region rfl ?_; intro K' hK hP; simp only [go_sem]; refine (v2).mono ?_; rintro _ _ ⟨rfl, rfl⟩; simp only [go_sem]; apply hK; (focus (simp only [go_sem]; exact rfl)); clear hK hP K'
      repeat (first | refine WS_seq ?_ | refine WS_block ?_ | refine WS_skip ?_ | refine WS_blk ?_ | refine WS_label ?_ | refine WS_exit rfl ?_ | refine WS_true rfl ?_ | refine WS_false rfl ?_ | (refine WS_region rfl ?_; intro K' hK hP; simp only [go_sem, w1]; apply hK; (focus (simp only [go_sem]; exact rfl)); clear hK hP K'))
      exact WS_again 3 rfl ⟨by omega, fun _ => h2 (by omega), fun _ => h3 (by omega), fun _ => hc, fun h => by omega⟩ (by omega)
  · rw [if_neg (by rw [h2 (by omega)]; simp)] at hR; rw [if_neg (by rw [h3 (by omega)]; simp)] at hR; rw [if_neg (h4 (by omega))] at hR
    have w1 : IntKind.i64.wrap (((3 : Nat) : Int) + 1) = ((4 : Nat) : Int) := by decide
    repeat (first | refine WS_seq ?_ | refine WS_block ?_ | refine WS_skip ?_ | refine WS_blk ?_ | refine WS_label ?_ | refine WS_exit rfl ?_ | refine WS_true rfl ?_ | refine WS_false rfl ?_ | (refine WS_region rfl ?_; intro K' hK hP; simp only [go_sem]; apply hK; (focus (simp only [go_sem]; exact rfl)); clear hK hP K'))
    refine WS_region rfl ?_; intro K' hK hP; simp only [go_sem]
    refine ⟨⟨by omega, by omega⟩, ?_⟩
    apply hK; (focus (simp only [go_sem]; exact rfl)); clear hK hP K'
    repeat (first | refine WS_seq ?_ | refine WS_block ?_ | refine WS_skip ?_ | refine WS_blk ?_ | refine WS_label ?_ | refine WS_exit rfl ?_ | refine WS_true rfl ?_ | refine WS_false rfl ?_ | (refine WS_region rfl ?_; intro K' hK hP; simp only [go_sem]; apply hK; (focus (simp only [go_sem]; exact rfl)); clear hK hP K'))
    cases hc : someSign ((bl src).drop p) with
    | some o =>
      have ho : R = o := by
        rw [hR]; unfold someSign at hc
        split at hc
        · cases hc
        · exact Option.some.inj hc
      rw [hc, ← ho] at v3
      obtain ⟨q, ys, hq⟩ := rdS_shape src p xs R
      rw [hq, rdR_some] at v3
      rw [hq]
      refine WS_region rfl ?_; intro K' hK hP; simp only [go_sem]; refine (v3).mono ?_; rintro _ _ ⟨rfl, rfl⟩; simp only [go_sem]; apply hK; (focus (simp only [go_sem]; exact rfl)); clear hK hP K'
      repeat (first | refine WS_seq ?_ | refine WS_block ?_ | refine WS_skip ?_ | refine WS_blk ?_ | refine WS_label ?_ | refine WS_exit rfl ?_ | refine WS_true rfl ?_ | refine WS_false rfl ?_ | (refine WS_region rfl ?_; intro K' hK hP; simp only [go_sem]; apply hK; (focus (simp only [go_sem]; exact rfl)); clear hK hP K'))
      refine WS_ret ?_; simp only [go_sem, rdP, Tryz.results21]
    | none =>
      rw [hc, rdR_none] at v3
      refine WS_region rfl ?_; intro K' hK hP; simp only [go_sem]; refine (v3).mono ?_; rintro _ _ ⟨rfl, rfl⟩; simp only [go_sem]; apply hK; (focus (simp only [go_sem]; exact rfl)); clear hK hP K'
      repeat (first | refine WS_seq ?_ | refine WS_block ?_ | refine WS_skip ?_ | refine WS_blk ?_ | refine WS_label ?_ | refine WS_exit rfl ?_ | refine WS_true rfl ?_ | refine WS_false rfl ?_ | (refine WS_region rfl ?_; intro K' hK hP; simp only [go_sem, w1]; apply hK; (focus (simp only [go_sem]; exact rfl)); clear hK hP K'))
      exact WS_again 4 rfl ⟨by omega, fun _ => h2 (by omega), fun _ => h3 (by omega), fun _ => h4 (by omega), fun _ => rfl⟩ (by omega)
  · rw [if_neg (by rw [h2 (by omega)]; simp), if_neg (by rw [h3 (by omega)]; simp), if_neg (h4 (by omega))] at hR
    have hb : R = .bad 26 := by rw [hR]; exact sign_none (h5 (by omega))
    repeat (first | refine WS_seq ?_ | refine WS_block ?_ | refine WS_skip ?_ | refine WS_blk ?_ | refine WS_label ?_ | refine WS_exit rfl ?_ | refine WS_true rfl ?_ | refine WS_false rfl ?_ | (refine WS_region rfl ?_; intro K' hK hP; simp only [go_sem]; apply hK; (focus (simp only [go_sem]; exact rfl)); clear hK hP K'))
    refine WS_ret ?_; simp only [go_sem, rdP, Tryz.results21]
    rw [hb]
    exact ⟨rfl, rfl⟩
end Go.Proofs.YtjfccohgkgcnfaaGreatDoor
