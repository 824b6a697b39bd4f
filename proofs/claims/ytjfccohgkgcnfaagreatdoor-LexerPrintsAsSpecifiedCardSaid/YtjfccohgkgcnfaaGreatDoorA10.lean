/-
  The reference's Position, walked in plain values.
-/
import Derived.Test.YtjfccohgkgcnfaaGreatDoorA8
namespace Go.Proofs.YtjfccohgkgcnfaaGreatDoor
open Go.RowKit Go.Q Go.Lx Go.Vl
set_option maxRecDepth 100000
variable {σ : List (List PV)}
/-- Line and column behind bytes. -/
def posOf (l : List UInt8) : Nat × Nat := l.foldl (fun a c => if c = 10 then (a.1 + 1, 1) else (a.1, a.2 + 1)) (1, 1)
theorem posOf_snoc (l : List UInt8) (c : UInt8) : posOf (l ++ [c]) = if c = 10 then ((posOf l).1 + 1, 1) else ((posOf l).1, (posOf l).2 + 1) := by
  unfold posOf; rw [List.foldl_append]; rfl
theorem posOf_le : ∀ (n : Nat) (l : List UInt8), l.length = n → (posOf l).1 ≤ n + 1 ∧ (posOf l).2 ≤ n + 1
  | 0, l, h => by
    obtain rfl := List.eq_nil_of_length_eq_zero h
    exact ⟨Nat.le_refl _, Nat.le_refl _⟩
  | n + 1, l, h => by
    rcases List.eq_nil_or_concat l with rfl | ⟨l', c, rfl⟩
    · cases h
    · rw [List.concat_eq_append] at h ⊢
      have ih := posOf_le n l' (by simpa using h)
      rw [posOf_snoc]
      split
      · exact ⟨by simp only; omega, by simp only; omega⟩
      · exact ⟨by simp only; omega, by simp only; omega⟩
/-- Where an offset stands. -/
def placeOf (s : ByteArray) (z : Int) : Nat × Nat := if z < 0 ∨ (s.size : Int) < z then (0, 0) else posOf ((bl s).take z.toNat)
theorem take_snoc (s : ByteArray) (k : Nat) (hk : k < s.size) : (bl s).take (k + 1) = (bl s).take k ++ [s[k]] := by
  have hl : k < (bl s).length := by rw [bl_len]; exact hk
  have := bl_drop s k hk
  rw [List.take_add_one]
  have e : (bl s)[k]? = some s[k] := by
    have h2 := congrArg List.head? this
    rw [List.head?_drop] at h2; exact h2
  rw [e]; rfl
theorem vRefPos0 (src : ByteArray) (z : Int) (hs : src.size ≤ 1000000) :
    VC Tryz.prog 17 [.lit (.string src), .lit (.int .i64 z)] [] fun x σ' => x = .ret (.agg [.lit (.int .i64 ((placeOf src z).1 : Int)), .lit (.int .i64 ((placeOf src z).2 : Int))]) ∧ σ' = [] := by
  refine VC.intro ⟨[0, 1, 4, 5, 6, 14, 19, 29], []⟩ Tryz.func17 rfl follows ok17 (by rw [Tryz.ntmps17]; exact Nat.le_of_ble_eq_true rfl) ?_; refine WS_of ?_
  repeat (first | refine WS_seq ?_ | refine WS_block ?_ | refine WS_skip ?_ | refine WS_blk ?_ | refine WS_label ?_ | refine WS_exit rfl ?_ | refine WS_true rfl ?_ | refine WS_false rfl ?_ | (refine WS_region rfl ?_; intro K' hK hP; simp only [go_sem]; apply hK; (focus (simp only [go_sem]; exact rfl)); clear hK hP K'))
  by_cases h1 : z < 0
  · have d1 : decide (z < 0) = true := decide_eq_true h1
    have hp : placeOf src z = (0, 0) := by unfold placeOf; rw [if_pos (.inl h1)]
    repeat (first | refine WS_seq ?_ | refine WS_block ?_ | refine WS_skip ?_ | refine WS_blk ?_ | refine WS_label ?_ | refine WS_exit rfl ?_ | refine WS_true rfl ?_ | refine WS_false rfl ?_ | (refine WS_region rfl ?_; intro K' hK hP; simp only [go_sem, d1]; apply hK; (focus (simp only [go_sem]; exact rfl)); clear hK hP K'))
    refine WS_ret ?_; simp only [go_sem, Tryz.results17]
    rw [hp]; rfl
  have d1 : decide (z < 0) = false := decide_eq_false h1
  by_cases h2 : (src.size : Int) < z
  · have d2 : decide ((src.size : Int) < z) = true := decide_eq_true h2
    have hp : placeOf src z = (0, 0) := by unfold placeOf; rw [if_pos (.inr h2)]
    repeat (first | refine WS_seq ?_ | refine WS_block ?_ | refine WS_skip ?_ | refine WS_blk ?_ | refine WS_label ?_ | refine WS_exit rfl ?_ | refine WS_true rfl ?_ | refine WS_false rfl ?_ | (refine WS_region rfl ?_; intro K' hK hP; simp only [go_sem, d1, d2]; apply hK; (focus (simp only [go_sem]; exact rfl)); clear hK hP K'))
    refine WS_ret ?_; simp only [go_sem, Tryz.results17]
    rw [hp]; rfl
  have d2 : decide ((src.size : Int) < z) = false := decide_eq_false h2
  obtain ⟨n, rfl⟩ : ∃ n : Nat, z = (n : Int) := ⟨z.toNat, by omega⟩
  have hn : n ≤ src.size := by omega
  have hp : placeOf src (n : Int) = posOf ((bl src).take n) := by unfold placeOf; rw [if_neg (by omega)]; rfl
  rw [hp]
  repeat (first | refine WS_seq ?_ | refine WS_block ?_ | refine WS_skip ?_ | refine WS_blk ?_ | refine WS_label ?_ | refine WS_exit rfl ?_ | refine WS_true rfl ?_ | refine WS_false rfl ?_ | (refine WS_region rfl ?_; intro K' hK hP; simp only [go_sem, d1, d2]; apply hK; (focus (simp only [go_sem]; exact rfl)); clear hK hP K'))
  refine WS_for [0, 1, 4, 5, 6] 2 (fun k : Nat => k ≤ n) (fun k => n - k)
    (fun k => ⟨[(0, .lit (.string src)), (1, .lit (.int .i64 (n : Int))), (4, .ptr 0 0), (5, .ptr 1 0), (6, .lit (.int .i64 (k : Int)))], [[.lit (.int .i64 0), .lit (.int .i64 0)], [.lit (.int .i64 ((posOf ((bl src).take k)).1 : Int)), .lit (.int .i64 ((posOf ((bl src).take k)).2 : Int))]]⟩) 0 (Nat.zero_le _) ?_ (Nat.zero_le _) ?_
  · exact rfl
  rintro k hk
  by_cases hlt : k < n
  · have d3 : decide ((k : Int) < (n : Int)) = true := by rw [decide_eq_true_eq]; omega
    have hks : k < src.size := by omega
    have g1 := (getD_at src k hks).symm
    have hpl := posOf_le k ((bl src).take k) (by rw [List.length_take, bl_len]; omega)
    have hsn := posOf_snoc ((bl src).take k) src[k]
    rw [← take_snoc src k hks] at hsn
    obtain ⟨a, b, hab⟩ : ∃ a b, posOf ((bl src).take k) = (a, b) := ⟨_, _, rfl⟩
    rw [hab] at hpl hsn
    simp only at hpl
    have w1 : IntKind.i64.wrap ((k : Int) + 1) = ((k + 1 : Nat) : Int) := wrapN (by omega) (by omega)
    have w2 : IntKind.i64.wrap ((b : Int) + 1) = ((b + 1 : Nat) : Int) := wrapN (by omega) (by omega)
    have w3 : IntKind.i64.wrap ((a : Int) + 1) = ((a + 1 : Nat) : Int) := wrapN (by omega) (by omega)
    rw [hab]
    repeat (first | refine WS_seq ?_ | refine WS_block ?_ | refine WS_skip ?_ | refine WS_blk ?_ | refine WS_label ?_ | refine WS_exit rfl ?_ | refine WS_true rfl ?_ | refine WS_false rfl ?_ | (refine WS_region rfl ?_; intro K' hK hP; simp only [go_sem, d3, w2]; apply hK; (focus (simp only [go_sem]; exact rfl)); clear hK hP K'))
    refine WS_region rfl ?_; intro K' hK hP; simp only [go_sem, g1]
    refine ⟨⟨by omega, by omega⟩, ?_⟩
    apply hK; (focus (simp only [go_sem]; exact rfl)); clear hK hP K'
    by_cases hc : src[k] = 10
    · have b1 : ((src[k].toNat : Int) == 10) = true := by rw [hc]; rfl
      rw [if_pos hc] at hsn
      refine WS_true (by simp only [go_sem, b1]) ?_
      repeat (first | refine WS_seq ?_ | refine WS_block ?_ | refine WS_skip ?_ | refine WS_blk ?_ | refine WS_label ?_ | refine WS_exit rfl ?_ | refine WS_true rfl ?_ | refine WS_false rfl ?_ | (refine WS_region rfl ?_; intro K' hK hP; simp only [go_sem, w1, w3]; apply hK; (focus (simp only [go_sem]; exact rfl)); clear hK hP K'))
      exact WS_again (k + 1) (by rw [hsn]; rfl) hlt (by omega)
    · have b1 : ((src[k].toNat : Int) == 10) = false := beq_eq_false_iff_ne.2 fun h => hc ((eq_iff _ 10).2 h)
      rw [if_neg hc] at hsn
      refine WS_false (by simp only [go_sem, b1]) ?_
      repeat (first | refine WS_seq ?_ | refine WS_block ?_ | refine WS_skip ?_ | refine WS_blk ?_ | refine WS_label ?_ | refine WS_exit rfl ?_ | refine WS_true rfl ?_ | refine WS_false rfl ?_ | (refine WS_region rfl ?_; intro K' hK hP; simp only [go_sem, w1]; apply hK; (focus (simp only [go_sem]; exact rfl)); clear hK hP K'))
      exact WS_again (k + 1) (by rw [hsn]; rfl) hlt (by omega)
  · have d3 : decide ((k : Int) < (n : Int)) = false := by rw [decide_eq_false_iff_not]; omega
    obtain rfl : k = n := by omega
    repeat (first | refine WS_seq ?_ | refine WS_block ?_ | refine WS_skip ?_ | refine WS_blk ?_ | refine WS_label ?_ | refine WS_exit rfl ?_ | refine WS_true rfl ?_ | refine WS_false rfl ?_ | (refine WS_region rfl ?_; intro K' hK hP; simp only [go_sem, d3]; apply hK; (focus (simp only [go_sem]; exact rfl)); clear hK hP K'))
    refine WS_ret ?_; simp only [go_sem, Tryz.results17]
theorem vRefPos (src : ByteArray) (z : Int) (hs : src.size ≤ 1000000) :
    VC Tryz.prog 17 [.lit (.string src), .lit (.int .i64 z)] σ fun x σ' => x = .ret (.agg [.lit (.int .i64 ((placeOf src z).1 : Int)), .lit (.int .i64 ((placeOf src z).2 : Int))]) ∧ σ' = σ := by
  refine VC.pure ((vRefPos0 src z hs).mono ?_) rfl
  rintro _ _ ⟨rfl, rfl⟩
  exact ⟨rfl, rfl⟩
end Go.Proofs.YtjfccohgkgcnfaaGreatDoor
