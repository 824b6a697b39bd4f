/-
  The reference's quoted and Decimal, walked in plain values.
-/
import Derived.Test.YtjfccohgkgcnfaaGreatDoorB2
namespace Go.Proofs.YtjfccohgkgcnfaaGreatDoor
open Go.RowKit Go.Q Go.Lx Go.Vl
set_option maxRecDepth 100000
set_option maxHeartbeats 1000000
variable {σ : List (List PV)}
def quot1 (c : UInt8) : List UInt8 := if c = 34 ∨ c = 92 then [92, c] else if c = 10 then [92, 110] else [c]
theorem quoted_snoc (l : List UInt8) (c : UInt8) : Lx.quoted (l ++ [c]) = Lx.quoted l ++ quot1 c := by
  unfold Lx.quoted
  rw [List.flatMap_append]
  simp [quot1]
theorem quot1_len (c : UInt8) : (quot1 c).length ≤ 2 := by
  unfold quot1
  split
  · exact Nat.le_refl _
  · split <;> simp
theorem quoted_len : ∀ l : List UInt8, (Lx.quoted l).length ≤ 2 * l.length
  | [] => Nat.le_refl _
  | c :: l => by
    have h1 := quoted_len l
    have h2 := quot1_len c
    unfold Lx.quoted at h1 ⊢
    rw [List.flatMap_cons, List.length_append, List.length_cons]
    unfold quot1 at h2
    omega
theorem rowsB_two (b : List UInt8) (c d : UInt8) : rowsB b ++ [[.lit (.int .u8 (c.toNat : Int))], [.lit (.int .u8 (d.toNat : Int))]] = rowsB (b ++ [c, d]) := by simp [rowsB]
theorem vQuoted0 (s : ByteArray) (hs : s.size ≤ 1000000) : VC Tryz.prog 29 [.lit (.string s)] [] fun x σ' => x = .ret (.lit (.string ⟨⟨34 :: Lx.quoted (bl s) ++ [34]⟩⟩)) ∧ σ' = [] := by
  refine VC.intro ⟨[0, 2, 3, 4, 9, 14, 21, 30], []⟩ Tryz.func29 rfl follows ok29 (by rw [Tryz.ntmps29]; exact Nat.le_of_ble_eq_true rfl) ?_; refine WS_of ?_
  repeat (first | refine WS_seq ?_ | refine WS_block ?_ | refine WS_skip ?_ | refine WS_blk ?_ | refine WS_label ?_ | refine WS_exit rfl ?_ | refine WS_true rfl ?_ | refine WS_false rfl ?_ | (refine WS_region rfl ?_; intro K' hK hP; simp only [go_sem]; apply hK; (focus (simp only [go_sem]; exact rfl)); clear hK hP K'))
  refine WS_region rfl ?_; intro K' hK hP; simp only [go_sem]
  refine ⟨rfl, ?_⟩
  apply hK; (focus (simp only [go_sem]; exact rfl)); clear hK hP K'
  repeat (first | refine WS_seq ?_ | refine WS_block ?_ | refine WS_skip ?_ | refine WS_blk ?_ | refine WS_label ?_ | refine WS_exit rfl ?_ | refine WS_true rfl ?_ | refine WS_false rfl ?_ | (refine WS_region rfl ?_; intro K' hK hP; simp only [go_sem]; apply hK; (focus (simp only [go_sem]; exact rfl)); clear hK hP K'))
  refine WS_for [0, 2, 3, 4] 0 (fun k : Nat => k ≤ s.size) (fun k => s.size - k)
    (fun k => ⟨[(0, .lit (.string s)), (2, .lit (.string ⟨#[]⟩)), (3, .sl (rowsB (34 :: Lx.quoted ((bl s).take k))) .own), (4, .lit (.int .i64 (k : Int)))], []⟩) 0 (Nat.zero_le _) ?_ (Nat.zero_le _) ?_
  · exact rfl
  rintro k hk
  obtain ⟨b, hb⟩ : ∃ b, 34 :: Lx.quoted ((bl s).take k) = b := ⟨_, rfl⟩
  have hbl : b.length ≤ 2000001 := by
    have := quoted_len ((bl s).take k)
    rw [← hb, List.length_cons]
    rw [List.length_take, bl_len] at this
    omega
  have hlen := rowsB_len b
  rw [hb]
  by_cases hlt : k < s.size
  · have d1 : decide ((k : Int) < (s.size : Int)) = true := by rw [decide_eq_true_eq]; omega
    have g1 := (getD_at s k hlt).symm
    have w1 : IntKind.i64.wrap ((k : Int) + 1) = ((k + 1 : Nat) : Int) := wrapN (by omega) (by omega)
    have hnext : 34 :: Lx.quoted ((bl s).take (k + 1)) = b ++ quot1 s[k] := by
      have : (bl s).take (k + 1) = (bl s).take k ++ [s[k]] := by
        rw [List.take_add_one]
        have := bl_drop s k hlt
        have e : (bl s)[k]? = some s[k] := by
          have h2 := congrArg List.head? this
          rw [List.head?_drop] at h2; exact h2
        rw [e]; rfl
      rw [this, quoted_snoc, ← hb]; rfl
    repeat (first | refine WS_seq ?_ | refine WS_block ?_ | refine WS_skip ?_ | refine WS_blk ?_ | refine WS_label ?_ | refine WS_exit rfl ?_ | refine WS_true rfl ?_ | refine WS_false rfl ?_ | (refine WS_region rfl ?_; intro K' hK hP; simp only [go_sem, d1]; apply hK; (focus (simp only [go_sem]; exact rfl)); clear hK hP K'))
    refine WS_region rfl ?_; intro K' hK hP; simp only [go_sem, g1]
    refine ⟨⟨by omega, by omega⟩, ?_⟩
    apply hK; (focus (simp only [go_sem]; exact rfl)); clear hK hP K'
    by_cases c34 : s[k] = 34
    · have b1 : ((s[k].toNat : Int) == 34) = true := by rw [c34]; rfl
      have hq : quot1 s[k] = [92, s[k]] := by unfold quot1; rw [if_pos (.inl c34)]
      rw [hq] at hnext
      have e1 : rowsB b ++ [[.lit (.int .u8 92)], [.lit (.int .u8 (s[k].toNat : Int))]] = rowsB (b ++ [92, s[k]]) := rowsB_two b 92 s[k]
      repeat (first | refine WS_seq ?_ | refine WS_block ?_ | refine WS_skip ?_ | refine WS_blk ?_ | refine WS_label ?_ | refine WS_exit rfl ?_ | refine WS_true rfl ?_ | refine WS_false rfl ?_ | (refine WS_region rfl ?_; intro K' hK hP; simp only [go_sem, b1]; apply hK; (focus (simp only [go_sem]; exact rfl)); clear hK hP K'))
      refine WS_region rfl ?_; intro K' hK hP; simp only [go_sem, g1, e1]
      refine ⟨⟨by omega, by omega⟩, rfl, app_ok (by rw [hlen]; exact Nat.le_trans (Nat.mul_le_mul_right _ (show b.length + 2 ≤ 3000000 by omega)) (by decide)) rowsB_row rfl, ?_⟩
      apply hK; (focus (simp only [go_sem]; exact rfl)); clear hK hP K'
      repeat (first | refine WS_seq ?_ | refine WS_block ?_ | refine WS_skip ?_ | refine WS_blk ?_ | refine WS_label ?_ | refine WS_exit rfl ?_ | refine WS_true rfl ?_ | refine WS_false rfl ?_ | (refine WS_region rfl ?_; intro K' hK hP; simp only [go_sem, w1]; apply hK; (focus (simp only [go_sem]; exact rfl)); clear hK hP K'))
      exact WS_again (k + 1) (by rw [hnext]; rfl) hlt (by omega)
    have b1 : ((s[k].toNat : Int) == 34) = false := beq_eq_false_iff_ne.2 fun h => c34 ((eq_iff _ 34).2 h)
    by_cases c92 : s[k] = 92
    · have b2 : ((s[k].toNat : Int) == 92) = true := by rw [c92]; rfl
      have hq : quot1 s[k] = [92, s[k]] := by unfold quot1; rw [if_pos (.inr c92)]
      rw [hq] at hnext
      have e1 : rowsB b ++ [[.lit (.int .u8 92)], [.lit (.int .u8 (s[k].toNat : Int))]] = rowsB (b ++ [92, s[k]]) := rowsB_two b 92 s[k]
      repeat (first | refine WS_seq ?_ | refine WS_block ?_ | refine WS_skip ?_ | refine WS_blk ?_ | refine WS_label ?_ | refine WS_exit rfl ?_ | refine WS_true rfl ?_ | refine WS_false rfl ?_ | (refine WS_region rfl ?_; intro K' hK hP; simp only [go_sem, b1, b2]; apply hK; (focus (simp only [go_sem]; exact rfl)); clear hK hP K'))
      refine WS_region rfl ?_; intro K' hK hP; simp only [go_sem, g1, e1]
      refine ⟨⟨by omega, by omega⟩, rfl, app_ok (by rw [hlen]; exact Nat.le_trans (Nat.mul_le_mul_right _ (show b.length + 2 ≤ 3000000 by omega)) (by decide)) rowsB_row rfl, ?_⟩
      apply hK; (focus (simp only [go_sem]; exact rfl)); clear hK hP K'
      repeat (first | refine WS_seq ?_ | refine WS_block ?_ | refine WS_skip ?_ | refine WS_blk ?_ | refine WS_label ?_ | refine WS_exit rfl ?_ | refine WS_true rfl ?_ | refine WS_false rfl ?_ | (refine WS_region rfl ?_; intro K' hK hP; simp only [go_sem, w1]; apply hK; (focus (simp only [go_sem]; exact rfl)); clear hK hP K'))
      exact WS_again (k + 1) (by rw [hnext]; rfl) hlt (by omega)
    have b2 : ((s[k].toNat : Int) == 92) = false := beq_eq_false_iff_ne.2 fun h => c92 ((eq_iff _ 92).2 h)
    by_cases c10 : s[k] = 10
    · have b3 : ((s[k].toNat : Int) == 10) = true := by rw [c10]; rfl
      have hq : quot1 s[k] = [92, 110] := by unfold quot1; rw [if_neg (fun h => h.elim c34 c92), if_pos c10]
      rw [hq] at hnext
      have e1 : rowsB b ++ [[.lit (.int .u8 92)], [.lit (.int .u8 110)]] = rowsB (b ++ [92, 110]) := rowsB_two b 92 110
      repeat (first | refine WS_seq ?_ | refine WS_block ?_ | refine WS_skip ?_ | refine WS_blk ?_ | refine WS_label ?_ | refine WS_exit rfl ?_ | refine WS_true rfl ?_ | refine WS_false rfl ?_ | (refine WS_region rfl ?_; intro K' hK hP; simp only [go_sem, b1, b2, b3]; apply hK; (focus (simp only [go_sem]; exact rfl)); clear hK hP K'))
      refine WS_region rfl ?_; intro K' hK hP; simp only [go_sem, e1]
      refine ⟨rfl, app_ok (by rw [hlen]; exact Nat.le_trans (Nat.mul_le_mul_right _ (show b.length + 2 ≤ 3000000 by omega)) (by decide)) rowsB_row rfl, ?_⟩
      apply hK; (focus (simp only [go_sem]; exact rfl)); clear hK hP K'
      repeat (first | refine WS_seq ?_ | refine WS_block ?_ | refine WS_skip ?_ | refine WS_blk ?_ | refine WS_label ?_ | refine WS_exit rfl ?_ | refine WS_true rfl ?_ | refine WS_false rfl ?_ | (refine WS_region rfl ?_; intro K' hK hP; simp only [go_sem, w1]; apply hK; (focus (simp only [go_sem]; exact rfl)); clear hK hP K'))
      exact WS_again (k + 1) (by rw [hnext]; rfl) hlt (by omega)
    have b3 : ((s[k].toNat : Int) == 10) = false := beq_eq_false_iff_ne.2 fun h => c10 ((eq_iff _ 10).2 h)
    have hq : quot1 s[k] = [s[k]] := by unfold quot1; rw [if_neg (fun h => h.elim c34 c92), if_neg c10]
    rw [hq] at hnext
    have e1 := rowsB_app b s[k]
    repeat (first | refine WS_seq ?_ | refine WS_block ?_ | refine WS_skip ?_ | refine WS_blk ?_ | refine WS_label ?_ | refine WS_exit rfl ?_ | refine WS_true rfl ?_ | refine WS_false rfl ?_ | (refine WS_region rfl ?_; intro K' hK hP; simp only [go_sem, b1, b2, b3]; apply hK; (focus (simp only [go_sem]; exact rfl)); clear hK hP K'))
    refine WS_region rfl ?_; intro K' hK hP; simp only [go_sem, g1, e1]
    refine ⟨⟨by omega, by omega⟩, rfl, app_ok (by rw [hlen]; exact Nat.le_trans (Nat.mul_le_mul_right _ (show b.length + 1 ≤ 3000000 by omega)) (by decide)) rowsB_row rfl, ?_⟩
    apply hK; (focus (simp only [go_sem]; exact rfl)); clear hK hP K'
    repeat (first | refine WS_seq ?_ | refine WS_block ?_ | refine WS_skip ?_ | refine WS_blk ?_ | refine WS_label ?_ | refine WS_exit rfl ?_ | refine WS_true rfl ?_ | refine WS_false rfl ?_ | (refine WS_region rfl ?_; intro K' hK hP; simp only [go_sem, w1]; apply hK; (focus (simp only [go_sem]; exact rfl)); clear hK hP K'))
    exact WS_again (k + 1) (by rw [hnext]; rfl) hlt (by omega)
  · have d1 : decide ((k : Int) < (s.size : Int)) = false := by rw [decide_eq_false_iff_not]; omega
    obtain rfl : k = s.size := by omega
    have e1 : rowsB b ++ [[.lit (.int .u8 34)]] = rowsB (b ++ [34]) := rowsB_app b 34
    have ef : Lx.quoted ((bl s).take s.size) = Lx.quoted (bl s) := by rw [List.take_of_length_le (by rw [bl_len]; exact Nat.le_refl _)]
    have e2 := bytes_rowsB (b ++ [34])
    have e3 := bytes_back (b ++ [34])
    repeat (first | refine WS_seq ?_ | refine WS_block ?_ | refine WS_skip ?_ | refine WS_blk ?_ | refine WS_label ?_ | refine WS_exit rfl ?_ | refine WS_true rfl ?_ | refine WS_false rfl ?_ | (refine WS_region rfl ?_; intro K' hK hP; simp only [go_sem, d1]; apply hK; (focus (simp only [go_sem]; exact rfl)); clear hK hP K'))
    refine WS_region rfl ?_; intro K' hK hP; simp only [go_sem, e1, e2, e3]
    refine ⟨rfl, app_ok (by rw [hlen]; exact Nat.le_trans (Nat.mul_le_mul_right _ (show b.length + 1 ≤ 3000000 by omega)) (by decide)) rowsB_row rfl, ?_⟩
    apply hK; (focus (simp only [go_sem]; exact rfl)); clear hK hP K'
    repeat (first | refine WS_seq ?_ | refine WS_block ?_ | refine WS_skip ?_ | refine WS_blk ?_ | refine WS_label ?_ | refine WS_exit rfl ?_ | refine WS_true rfl ?_ | refine WS_false rfl ?_ | (refine WS_region rfl ?_; intro K' hK hP; simp only [go_sem]; apply hK; (focus (simp only [go_sem]; exact rfl)); clear hK hP K'))
    refine WS_ret ?_; simp only [go_sem, Tryz.results29]
    rw [← hb, ef]; rfl
theorem nd_le : ∀ (k u : Nat), u < 10 ^ (k + 1) → Lib.nDigits u ≤ k + 1
  | 0, u, h => by rw [Lib.nDigits_small (by simpa using h)]; exact Nat.le_refl _
  | k + 1, u, h => by
    by_cases hu : u < 10
    · rw [Lib.nDigits_small hu]; omega
    · rw [Lib.nDigits_big hu]
      have := nd_le k (u / 10) (by rw [Nat.pow_succ] at h; omega)
      omega
theorem itoa_len (n : Int) (h0 : -9223372036854775808 ≤ n) (h1 : n ≤ 9223372036854775807) : (Lib.itoa n).length ≤ 21 := by
  unfold Lib.itoa
  split
  · rw [List.length_cons, Lib.decDigits_length]
    have := nd_le 19 n.natAbs (by omega)
    omega
  · rw [Lib.decDigits_length]
    have := nd_le 19 n.toNat (by omega)
    omega
theorem itoa_low {n : Int} (h : n ≤ -10) : Lib.itoa n = Lib.itoa (n.tdiv 10) ++ Lib.itoa (-(n.tmod 10)) := by
  obtain ⟨m, rfl⟩ : ∃ m : Nat, n = -(m : Int) := ⟨n.natAbs, by omega⟩
  have e1 : (-(m : Int)).tdiv 10 = -((m / 10 : Nat) : Int) := by rw [Int.neg_tdiv]; rfl
  have e2 : -((-(m : Int)).tmod 10) = ((m % 10 : Nat) : Int) := by rw [Int.neg_tmod, Int.neg_neg]; rfl
  rw [e1, e2]
  unfold Lib.itoa
  rw [if_pos (by omega), if_pos (by omega), if_neg (by omega)]
  have e3 : (-(m : Int)).natAbs = m := by omega
  have e4 : (-((m / 10 : Nat) : Int)).natAbs = m / 10 := by omega
  rw [e3, e4, Int.toNat_natCast, Lib.decDigits_one (i := m % 10) (by omega)]
  conv => lhs; rw [Lib.decDigits, dif_neg (by omega)]
  rfl
theorem itoa_neg {n : Int} (h : n < 0) : Lib.itoa n = 45 :: Lib.itoa (-n) := by
  unfold Lib.itoa
  rw [if_pos h, if_neg (by omega), show (-n).toNat = n.natAbs by omega]
theorem itoa_high {m : Nat} (h : 10 ≤ m) : Lib.itoa (m : Int) = Lib.itoa ((m / 10 : Nat) : Int) ++ Lib.itoa ((m % 10 : Nat) : Int) := by
  unfold Lib.itoa
  rw [if_neg (by omega), if_neg (by omega), if_neg (by omega), Int.toNat_natCast, Int.toNat_natCast, Int.toNat_natCast, Lib.decDigits_one (i := m % 10) (by omega)]
  conv => lhs; rw [Lib.decDigits, dif_neg (by omega)]
theorem ba_app (a b : List UInt8) : ((⟨⟨a⟩⟩ : ByteArray) ++ ⟨⟨b⟩⟩) = ⟨⟨a ++ b⟩⟩ := by
  apply ByteArray.ext
  rw [ByteArray.data_append]
  simp
theorem vQuoted (s : ByteArray) (hs : s.size ≤ 1000000) : VC Tryz.prog 29 [.lit (.string s)] σ fun x σ' => x = .ret (.lit (.string ⟨⟨34 :: Lx.quoted (bl s) ++ [34]⟩⟩)) ∧ σ' = σ := by
  refine VC.pure ((vQuoted0 s hs).mono ?_) rfl
  rintro _ _ ⟨rfl, rfl⟩
  exact ⟨rfl, rfl⟩
theorem tdiv10 (n : Int) : (0 ≤ n → n.tdiv 10 = ((n.natAbs / 10 : Nat) : Int) ∧ n.tmod 10 = ((n.natAbs % 10 : Nat) : Int)) ∧ (n ≤ 0 → n.tdiv 10 = -((n.natAbs / 10 : Nat) : Int) ∧ n.tmod 10 = -((n.natAbs % 10 : Nat) : Int)) := by
  refine ⟨fun h => ?_, fun h => ?_⟩
  · obtain ⟨m, rfl⟩ : ∃ m : Nat, n = (m : Int) := ⟨n.natAbs, by omega⟩
    exact ⟨rfl, rfl⟩
  · obtain ⟨m, rfl⟩ : ∃ m : Nat, n = -(m : Int) := ⟨n.natAbs, by omega⟩
    rw [Int.neg_tdiv, Int.neg_tmod, show (-(m : Int)).natAbs = m by omega]
    exact ⟨rfl, rfl⟩
theorem wrapI {n : Int} (h0 : -9223372036854775808 ≤ n) (h1 : n ≤ 9223372036854775807) : IntKind.i64.wrap n = n := by rw [IntKind.wrap_i64]; omega
theorem vDecDigit (n : Int) (h0 : 0 ≤ n) (k3 : n < 10) : VC Tryz.prog 28 [.lit (.int .i64 n)] [] fun x σ' => x = .ret (.lit (.string ⟨⟨Lib.itoa n⟩⟩)) ∧ σ' = [] := by
  have d1 : decide (n ≤ -10) = false := decide_eq_false (by omega)
  have d2 : decide (n < 0) = false := decide_eq_false (by omega)
  have d3 : decide (n < 10) = true := decide_eq_true k3
  obtain ⟨c, hc⟩ : ∃ c, c = UInt8.ofNat (48 + n.toNat) := ⟨_, rfl⟩
  have w1 : IntKind.u8.wrap (IntKind.i64.wrap (48 + n)) = (c.toNat : Int) := by
    rw [hc, wrapI (by omega) (by omega), UInt8.toNat_ofNat', IntKind.wrap_u8]; omega
  have e2 : bytesOf [[.lit (.int .u8 (c.toNat : Int))]] = some [(c.toNat : Int)] := rfl
  have e3 : UInt8.ofNat c.toNat = c := UInt8.ofNat_toNat
  refine VC.intro ⟨[0, 2, 4, 14, 20], []⟩ Tryz.func28 rfl follows ok28 (by rw [Tryz.ntmps28]; exact Nat.le_of_ble_eq_true rfl) ?_; refine WS_of ?_
  repeat (first | refine WS_seq ?_ | refine WS_block ?_ | refine WS_skip ?_ | refine WS_blk ?_ | refine WS_label ?_ | refine WS_exit rfl ?_ | refine WS_true rfl ?_ | refine WS_false rfl ?_ | (refine WS_region rfl ?_; intro K' hK hP; simp only [go_sem, d1, d2, d3]; apply hK; (focus (simp only [go_sem]; exact rfl)); clear hK hP K'))
  refine WS_region rfl ?_; intro K' hK hP; simp only [go_sem, w1, e2, e3]
  refine ⟨rfl, ?_⟩
  apply hK; (focus (simp only [go_sem]; exact rfl)); clear hK hP K'
  repeat (first | refine WS_seq ?_ | refine WS_block ?_ | refine WS_skip ?_ | refine WS_blk ?_ | refine WS_label ?_ | refine WS_exit rfl ?_ | refine WS_true rfl ?_ | refine WS_false rfl ?_ | (refine WS_region rfl ?_; intro K' hK hP; simp only [go_sem]; apply hK; (focus (simp only [go_sem]; exact rfl)); clear hK hP K'))
  refine WS_ret ?_; simp only [go_sem, Tryz.results28]
  unfold Lib.itoa
  rw [if_neg (by omega), Lib.decDigits_one (by omega), ← hc]
theorem vDec0 : ∀ (m : Nat) (n : Int), n.natAbs < m → -9223372036854775808 ≤ n → n ≤ 9223372036854775807 → VC Tryz.prog 28 [.lit (.int .i64 n)] [] fun x σ' => x = .ret (.lit (.string ⟨⟨Lib.itoa n⟩⟩)) ∧ σ' = [] := by
  intro m
  induction m with
  | zero => intro n hn; omega
  | succ m ih =>
    intro n hn h0 h1
    have n10 : ((10 : Int) != 0) = true := rfl
    obtain ⟨tp, tn⟩ := tdiv10 n
    by_cases k3 : 0 ≤ n ∧ n < 10
    · exact vDecDigit n k3.1 k3.2
    refine VC.intro ⟨[0, 2, 4, 14, 20], []⟩ Tryz.func28 rfl follows ok28 (by rw [Tryz.ntmps28]; exact Nat.le_of_ble_eq_true rfl) ?_; refine WS_of ?_
    by_cases k1 : n ≤ -10
    · have d1 : decide (n ≤ -10) = true := decide_eq_true k1
      obtain ⟨hq, hr⟩ := tn (by omega)
      have wq : IntKind.i64.wrap (n.tdiv 10) = n.tdiv 10 := wrapI (by omega) (by omega)
      have wr : IntKind.i64.wrap (0 - n.tmod 10) = -(n.tmod 10) := by rw [Int.zero_sub]; exact wrapI (by omega) (by omega)
      have l1 := itoa_len (n.tdiv 10) (by omega) (by omega)
      have l2 := itoa_len (-(n.tmod 10)) (by omega) (by omega)
      repeat (first | refine WS_seq ?_ | refine WS_block ?_ | refine WS_skip ?_ | refine WS_blk ?_ | refine WS_label ?_ | refine WS_exit rfl ?_ | refine WS_true rfl ?_ | refine WS_false rfl ?_ | (refine WS_region rfl ?_; intro K' hK hP; simp only [go_sem, d1]; apply hK; (focus (simp only [go_sem]; exact rfl)); clear hK hP K'))
      refine WS_region rfl ?_; intro K' hK hP; simp only [go_sem, n10, wq, wr]
      refine ((ih (n.tdiv 10) (by omega) (by omega) (by omega))).mono ?_; rintro _ _ ⟨rfl, rfl⟩; simp only [go_sem]
      refine ((ih (-(n.tmod 10)) (by omega) (by omega) (by omega))).mono ?_; rintro _ _ ⟨rfl, rfl⟩; simp only [go_sem, ba_app]
      refine ⟨by show (Lib.itoa _).length + (Lib.itoa _).length ≤ _; omega, ?_⟩
      apply hK; (focus (simp only [go_sem]; exact rfl)); clear hK hP K'
      repeat (first | refine WS_seq ?_ | refine WS_block ?_ | refine WS_skip ?_ | refine WS_blk ?_ | refine WS_label ?_ | refine WS_exit rfl ?_ | refine WS_true rfl ?_ | refine WS_false rfl ?_ | (refine WS_region rfl ?_; intro K' hK hP; simp only [go_sem]; apply hK; (focus (simp only [go_sem]; exact rfl)); clear hK hP K'))
      refine WS_ret ?_; simp only [go_sem, Tryz.results28]
      rw [itoa_low k1]
    have d1 : decide (n ≤ -10) = false := decide_eq_false k1
    by_cases k2 : n < 0
    · have d2 : decide (n < 0) = true := decide_eq_true k2
      have wr : IntKind.i64.wrap (0 - n) = -n := by rw [Int.zero_sub]; exact wrapI (by omega) (by omega)
      have l2 := itoa_len (-n) (by omega) (by omega)
      repeat (first | refine WS_seq ?_ | refine WS_block ?_ | refine WS_skip ?_ | refine WS_blk ?_ | refine WS_label ?_ | refine WS_exit rfl ?_ | refine WS_true rfl ?_ | refine WS_false rfl ?_ | (refine WS_region rfl ?_; intro K' hK hP; simp only [go_sem, d1, d2]; apply hK; (focus (simp only [go_sem]; exact rfl)); clear hK hP K'))
      refine WS_region rfl ?_; intro K' hK hP; simp only [go_sem, wr]
      refine ((vDecDigit (-n) (by omega) (by omega))).mono ?_; rintro _ _ ⟨rfl, rfl⟩; simp only [go_sem, ba_app]
      refine ⟨by show 1 + (Lib.itoa _).length ≤ _; omega, ?_⟩
      apply hK; (focus (simp only [go_sem]; exact rfl)); clear hK hP K'
      repeat (first | refine WS_seq ?_ | refine WS_block ?_ | refine WS_skip ?_ | refine WS_blk ?_ | refine WS_label ?_ | refine WS_exit rfl ?_ | refine WS_true rfl ?_ | refine WS_false rfl ?_ | (refine WS_region rfl ?_; intro K' hK hP; simp only [go_sem]; apply hK; (focus (simp only [go_sem]; exact rfl)); clear hK hP K'))
      refine WS_ret ?_; simp only [go_sem, Tryz.results28]
      rw [itoa_neg k2]
    have d2 : decide (n < 0) = false := decide_eq_false k2
    have d3 : decide (n < 10) = false := decide_eq_false (by omega)
    obtain ⟨hq, hr⟩ := tp (by omega)
    have wq : IntKind.i64.wrap (n.tdiv 10) = n.tdiv 10 := wrapI (by omega) (by omega)
    have l1 := itoa_len (n.tdiv 10) (by omega) (by omega)
    have l2 := itoa_len (n.tmod 10) (by omega) (by omega)
    repeat (first | refine WS_seq ?_ | refine WS_block ?_ | refine WS_skip ?_ | refine WS_blk ?_ | refine WS_label ?_ | refine WS_exit rfl ?_ | refine WS_true rfl ?_ | refine WS_false rfl ?_ | (refine WS_region rfl ?_; intro K' hK hP; simp only [go_sem, d1, d2, d3]; apply hK; (focus (simp only [go_sem]; exact rfl)); clear hK hP K'))
    refine WS_region rfl ?_; intro K' hK hP; simp only [go_sem, n10, wq]
    refine ((ih (n.tdiv 10) (by omega) (by omega) (by omega))).mono ?_; rintro _ _ ⟨rfl, rfl⟩; simp only [go_sem]
    refine ((ih (n.tmod 10) (by omega) (by omega) (by omega))).mono ?_; rintro _ _ ⟨rfl, rfl⟩; simp only [go_sem, ba_app]
    refine ⟨by show (Lib.itoa _).length + (Lib.itoa _).length ≤ _; omega, ?_⟩
    apply hK; (focus (simp only [go_sem]; exact rfl)); clear hK hP K'
    repeat (first | refine WS_seq ?_ | refine WS_block ?_ | refine WS_skip ?_ | refine WS_blk ?_ | refine WS_label ?_ | refine WS_exit rfl ?_ | refine WS_true rfl ?_ | refine WS_false rfl ?_ | (refine WS_region rfl ?_; intro K' hK hP; simp only [go_sem]; apply hK; (focus (simp only [go_sem]; exact rfl)); clear hK hP K'))
    refine WS_ret ?_; simp only [go_sem, Tryz.results28]
    rw [hq, hr]
    obtain ⟨j, rfl⟩ : ∃ j : Nat, n = (j : Int) := ⟨n.natAbs, by omega⟩
    rw [itoa_high (m := j) (by omega)]; rfl
theorem vDec (n : Int) (h0 : -9223372036854775808 ≤ n) (h1 : n ≤ 9223372036854775807) (σ : List (List PV)) : VC Tryz.prog 28 [.lit (.int .i64 n)] σ fun x σ' => x = .ret (.lit (.string ⟨⟨Lib.itoa n⟩⟩)) ∧ σ' = σ := by
  refine VC.pure ((vDec0 (n.natAbs + 1) n (Nat.lt_succ_self _) h0 h1).mono ?_) rfl
  rintro _ _ ⟨rfl, rfl⟩
  exact ⟨rfl, rfl⟩
end Go.Proofs.YtjfccohgkgcnfaaGreatDoor
