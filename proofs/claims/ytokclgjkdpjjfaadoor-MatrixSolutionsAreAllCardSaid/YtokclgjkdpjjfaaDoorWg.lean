/-
  The walks of the field's functions: gf.Mul, gf.Inv, quietusref04.Mul, quietusref04.Inv compute gmul and ginv.
-/
import Derived.Test.YtokclgjkdpjjfaaDoorRows
import Derived.Test.YtokclgjkdpjjfaaDoorGf
import Derived.Test.YtokclgjkdpjjfaaDoorBase
import Derived.Lib.Hide
namespace Go.Proofs.YtokclgjkdpjjfaaDoor
open Go.RowKit Go.Q
/-- The table's cells. -/
def TabAt (w : World) : Prop := 0 < w.heap.size ∧ ∀ i, i < 16 → w.cell? ⟨0, i, none⟩ = some (.int .u8 (highN.getD i 0 : Nat))
theorem TabAt.below {w w' : World} {B : Nat} (h : TabAt w) (hb : Below B w w') (hB : 0 < B) : TabAt w' :=
  ⟨by have := hb.size; have := h.1; omega, fun i hi => by rw [hb.cell (p := ⟨0, i, none⟩) hB]; exact h.2 i hi⟩
set_option maxHeartbeats 1000000 in
theorem gfReduce (x : Nat) (w : World) (hx : x < 4096) (ht : TabAt w) :
    Calls Tryd.prog 54 #[.int .u64 x] w fun e w' => e = .returned (.int .u8 (gred x : Nat)) ∧ w' = w := by
  have hc := ht.2 (x / 256) (by omega)
  have hlt : highN.getD (x / 256) 0 < 256 := highN_lt _
  have H : Hid ((gred x : Int) = ((x % 256 ^^^ (highN.getD (x / 256) 0) : Nat) : Int)) := rfl
  have hand : bits .and .u64 ((x : Int) / 256) 15 = ((x / 256 : Nat) : Int) := by
    rw [show ((x : Int) / 256) = ((x / 256 : Nat) : Int) by simp, show (15 : Int) = ((15 : Nat) : Int) from rfl, bits_and_u64_nat _ _ (by omega) (by omega)]
    congr 1
    have := Nat.and_two_pow_sub_one_eq_mod (x / 256) 4
    rw [show (2 ^ 4 - 1) = 15 from rfl] at this
    rw [this]; omega
  generalize highN.getD (x / 256) 0 = g at *
  clear ht
  go_enter Tryd.func54, Tryd.ntmps54
  go_wp2
  go_ret
  refine ⟨ret_int ?_, rfl⟩
  rw [H.out, show ((x : Int) % 256) = ((x % 256 : Nat) : Int) by simp, u8_xor_nat _ _ (by omega) hlt]
theorem bit_test (n i : Nat) (hn : n < 18446744073709551616) : bits .and .u64 ((n : Int) / 2 ^ i) 1 = ((n / 2 ^ i % 2 : Nat) : Int) := by
  have hd : n / 2 ^ i < 18446744073709551616 := Nat.lt_of_le_of_lt (Nat.div_le_self _ _) hn
  rw [show ((n : Int) / 2 ^ i) = ((n / 2 ^ i : Nat) : Int) by simp, show (1 : Int) = ((1 : Nat) : Int) from rfl, bits_and_u64_nat _ _ hd (by omega), Nat.and_one_is_mod]
set_option maxHeartbeats 1000000 in
theorem gfTimes (a n : Nat) (w : World) (ha : a < 256) (hn : n < 16) (ht : TabAt w) :
    Calls Tryd.prog 55 #[.int .u8 a, .int .u64 n] w fun e w' => e = .returned (.int .u8 (gtimes a n : Nat)) ∧ w' = w := by
  go_enter Tryd.func55, Tryd.ntmps55
  go_wp2
  go_loop [5, 6, 7] (fun x _ k => ∃ i : Nat, i ≤ 4 ∧ k = .int .i64 i ∧ x = .int .u64 (tsum a n i : Nat)) (fun _ _ k => 4 - (intOf k).toNat)
  case atStart => exact ⟨0, by omega, rfl, rfl⟩
  case round =>
    obtain ⟨i, hi, rfl, rfl⟩ := hrel
    by_cases hlt : i < 4
    · have hs := tsum_lt ha (n := n) i hi
      have hs' := tsum_lt ha (n := n) (i + 1) (by omega)
      have hp : (2 : Nat) ^ i ≤ 8 := by have := Nat.pow_le_pow_right (n := 2) (by decide) (show i ≤ 3 by omega); simpa using this
      have hm : a * 2 ^ i ≤ 255 * 8 := Nat.mul_le_mul (by omega) hp
      have hw : Hid (IntKind.u64.wrap ((a : Int) * 2 ^ i) = ((a * 2 ^ i : Nat) : Int)) := by
        show _ = _
        rw [show ((a : Int) * 2 ^ i) = ((a * 2 ^ i : Nat) : Int) by simp, IntKind.wrap_u64]; omega
      have hstep : Hid (tsum a n (i + 1) = tsum a n i ^^^ bt n i (a * 2 ^ i)) := rfl
      have hbit := bit_test n i (by omega)
      by_cases hb : n / 2 ^ i % 2 = 1
      · have hbt : Hid (bt n i (a * 2 ^ i) = a * 2 ^ i) := by
          show _ = _
          rw [bt_cases, Nat.testBit_eq_decide_div_mod_eq]; simp [hb]
        have htest : (bits .and .u64 ((n : Int) / 2 ^ i) 1 == 1) = true := by rw [hbit, hb]; rfl
        clear hbit hb
        go_wp2
        go_round
        case rel => exact ⟨i + 1, by omega, by go_num, by rw [hw.out, bits_xor_u64_nat _ _ (by omega) (by omega), hstep.out, hbt.out]⟩
        case measure => simp [intOf]; omega
      · have hbt : Hid (bt n i (a * 2 ^ i) = 0) := by
          show _ = _
          rw [bt_cases, Nat.testBit_eq_decide_div_mod_eq]; simp [hb]
        have htest : (bits .and .u64 ((n : Int) / 2 ^ i) 1 == 1) = false := by
          rw [hbit]; have : n / 2 ^ i % 2 = 0 := by omega
          rw [this]; rfl
        clear hbit hb
        go_wp2
        go_round
        case rel => exact ⟨i + 1, by omega, by go_num, by rw [hstep.out, hbt.out, Nat.xor_zero]⟩
        case measure => simp [intOf]; omega
    · obtain rfl : i = 4 := by omega
      have hs := tsum_lt ha (n := n) 4 hi
      generalize hg : tsum a n 4 = g at *
      have Hg := Lib.hid hg
      clear hg
      go_wp2_with (go_at_call 54; refine (gfReduce _ _ hs ht).mono ?_; rintro e w' ⟨rfl, rfl⟩)
      go_ret
      exact ⟨ret_int (by unfold gtimes; rw [Hg.out]), rfl⟩
theorem gtimes_lt (a n : Nat) : gtimes a n < 256 := gred_lt _
set_option maxHeartbeats 1000000 in
theorem gfMul (a b : UInt8) (w : World) (ht : TabAt w) :
    Calls Tryd.prog 48 #[.int .u8 (a.toNat : Int), .int .u8 (b.toNat : Int)] w fun e w' => e = .returned (.int .u8 ((gmul a b).toNat : Int)) ∧ w' = w := by
  have ha := a.toNat_lt
  have hb := b.toNat_lt
  have hfin : Hid (((gmul a b).toNat : Int) = ((gred (gtimes a.toNat (b.toNat / 16) * 16) ^^^ gtimes a.toNat (b.toNat % 16) : Nat) : Int)) := by
    show _ = _
    rw [gmul_toNat, ← gmulP_eq ha hb]; rfl
  generalize a.toNat = x at *
  generalize b.toNat = y at *
  have hand : bits .and .u8 (y : Int) 15 = ((y % 16 : Nat) : Int) := by
    have := Nat.and_two_pow_sub_one_eq_mod y 4
    rw [show (15 : Int) = ((15 : Nat) : Int) from rfl, u8_and_nat y 15 hb (by omega), show (15 : Nat) = 2 ^ 4 - 1 from rfl, this]
  have h1 := gtimes_lt x (y / 16)
  have h2 := gtimes_lt x (y % 16)
  have h3 := gred_lt (gtimes x (y / 16) * 16)
  go_enter Tryd.func48, Tryd.ntmps48
  go_wp2_with fail
  rw [show ((y : Int) / 16) = ((y / 16 : Nat) : Int) by simp]
  refine (gfTimes x (y / 16) _ (by omega) (by omega) ht).mono ?_
  rintro e w' ⟨rfl, rfl⟩
  generalize gtimes x (y / 16) = p at *
  go_wp2_with fail
  rw [show ((p : Int) * 16) = ((p * 16 : Nat) : Int) by simp]
  refine (gfReduce (p * 16) _ (by omega) ht).mono ?_
  rintro e w' ⟨rfl, rfl⟩
  generalize gred (p * 16) = q at *
  go_wp2_with fail
  try simp only [hand]
  refine (gfTimes x (y % 16) _ (by omega) (by omega) ht).mono ?_
  rintro e w' ⟨rfl, rfl⟩
  generalize gtimes x (y % 16) = r at *
  go_wp2_with fail
  go_ret
  exact ⟨ret_int (by rw [hfin.out, u8_xor_nat _ _ h3 h2]), rfl⟩
theorem pw_lt : ∀ f x a n, x < 256 → pw f x a n < 256
  | 0, x, _, _, h => h
  | f + 1, x, a, n, h => by
    unfold pw
    split
    · exact h
    · refine pw_lt f _ _ _ ?_
      split
      · exact gmN_lt h
      · exact h
theorem pw_zero : ∀ f x a, pw f x a 0 = x
  | 0, _, _ => rfl
  | _ + 1, _, _ => by simp [pw]
set_option maxHeartbeats 1000000 in
theorem gfPower (a : UInt8) (w : World) (ht : TabAt w) :
    Calls Tryd.prog 56 #[.int .u8 (a.toNat : Int), .int .i64 254] w fun e w' => e = .returned (.int .u8 ((ginv a).toNat : Int)) ∧ w' = w := by
  have hfin : Hid (((ginv a).toNat : Int) = ((pw 8 1 a.toNat 254 : Nat) : Int)) := by
    show _ = _
    rw [ginv_toNat]; rfl
  go_enter Tryd.func56, Tryd.ntmps56
  go_wp2
  go_loop [0, 1, 5] (fun va vn vx => ∃ (f n : Nat) (x y : UInt8), n < 2 ^ f ∧ f ≤ 8 ∧ va = .int .u8 (y.toNat : Int) ∧ vn = .int .i64 n ∧ vx = .int .u8 (x.toNat : Int) ∧ pw f x.toNat y.toNat n = pw 8 1 a.toNat 254) (fun _ n _ => (intOf n).toNat)
  case atStart => exact ⟨8, 254, 1, a, by decide, by decide, rfl, rfl, rfl, rfl⟩
  case round =>
    obtain ⟨f, n, x, y, hn, hf, rfl, rfl, rfl, hpw0⟩ := hrel
    have hpw := Lib.hid hpw0
    clear hpw0
    by_cases hz : 0 < n
    · obtain ⟨f, rfl⟩ : ∃ g, f = g + 1 := by
        cases f with
        | zero => simp at hn; omega
        | succ g => exact ⟨g, rfl⟩
      have hn256 : n < 256 := Nat.lt_of_lt_of_le hn (Nat.pow_le_pow_right (by decide) hf : 2 ^ (f + 1) ≤ 2 ^ 8)
      have hhalf : n / 2 < 2 ^ f := by rw [Nat.pow_succ] at hn; omega
      have hbit : bits .and .i64 (n : Int) 1 = ((n % 2 : Nat) : Int) := by
        rw [show (1 : Int) = ((1 : Nat) : Int) from rfl]
        have := (bits_nat .i64 62 (by decide) (by intro m h1 h2; exact IntWalk.i64_in m ⟨by omega, by omega⟩) n 1 (by omega) (by omega)).1
        rw [this, Nat.and_one_is_mod]
      clear hn
      by_cases hb : n % 2 = 1
      · have htest : (bits .and .i64 (n : Int) 1 == 1) = true := by rw [hbit, hb]; rfl
        have hrel' : Hid (pw f (gmul x y).toNat (gmul y y).toNat (n / 2) = pw 8 1 a.toNat 254) := by
          show _ = _
          rw [← hpw.out, pw, if_neg (by omega), if_pos hb, gmul_toNat, gmul_toNat]
        clear hbit hb
        go_wp2_with (go_at_call 48; refine (gfMul _ _ _ ht).mono ?_; rintro e w' ⟨rfl, rfl⟩)
        go_round
        case rel => exact ⟨f, n / 2, gmul x y, gmul y y, hhalf, by omega, rfl, by go_num, rfl, hrel'.out⟩
        case measure => simp [intOf]; omega
      · have htest : (bits .and .i64 (n : Int) 1 == 1) = false := by
          rw [hbit]; have : n % 2 = 0 := by omega
          rw [this]; rfl
        have hrel' : Hid (pw f x.toNat (gmul y y).toNat (n / 2) = pw 8 1 a.toNat 254) := by
          show _ = _
          rw [← hpw.out, pw, if_neg (by omega), if_neg hb, gmul_toNat]
        clear hbit hb
        go_wp2_with (go_at_call 48; refine (gfMul _ _ _ ht).mono ?_; rintro e w' ⟨rfl, rfl⟩)
        go_round
        case rel => exact ⟨f, n / 2, x, gmul y y, hhalf, by omega, rfl, by go_num, rfl, hrel'.out⟩
        case measure => simp [intOf]; omega
    · obtain rfl : n = 0 := by omega
      have hx : Hid ((x.toNat : Int) = ((ginv a).toNat : Int)) := by
        show _ = _
        have := hpw.out
        rw [pw_zero] at this
        rw [hfin.out, this]
      clear hpw
      go_wp2
      go_ret
      exact ⟨ret_int hx.out, rfl⟩
set_option maxHeartbeats 1000000 in
theorem gfInv (a : UInt8) (w : World) (h0 : a ≠ 0) (ht : TabAt w) :
    Calls Tryd.prog 50 #[.int .u8 (a.toNat : Int)] w fun e w' => e = .returned (.tuple #[.int .u8 ((ginv a).toNat : Int), .int .i64 0]) ∧ w' = w := by
  have h1 : ((a.toNat : Int) == 0) = false := by
    rw [beq_eq_false_iff_ne]; intro e
    exact h0 (UInt8.toNat_inj.1 (by simpa using e))
  go_enter Tryd.func50, Tryd.ntmps50
  go_wp2_with (go_at_call 56; refine (gfPower _ _ ht).mono ?_; rintro e w' ⟨rfl, rfl⟩)
  go_ret2
  exact ⟨rfl, rfl⟩
-- the reference's
theorem i64_xor_nat (a b : Nat) (ha : a < 512) (hb : b < 512) : bits .xor .i64 (a : Int) (b : Int) = ((a ^^^ b : Nat) : Int) := by
  have hx : a ^^^ b < 2 ^ 9 := Nat.xor_lt_two_pow (by omega) (by omega)
  show IntKind.i64.wrap ((BitVec.ofInt 64 (a : Int) ^^^ BitVec.ofInt 64 (b : Int)).toNat : Int) = _
  rw [BitVec.toNat_xor, BitVec.ofInt_natCast, BitVec.ofInt_natCast, BitVec.toNat_ofNat, BitVec.toNat_ofNat, Nat.mod_eq_of_lt (by omega), Nat.mod_eq_of_lt (by omega)]
  exact IntWalk.i64_in _ ⟨by omega, by omega⟩
theorem div_succ (b k : Nat) : b / 2 ^ (k + 1) = b / 2 ^ k / 2 := by rw [Nat.pow_succ, Nat.div_div_eq_div_mul]
set_option maxHeartbeats 1000000 in
theorem refMul (a b : UInt8) (w : World) :
    Calls Tryd.prog 49 #[.int .u8 (a.toNat : Int), .int .u8 (b.toNat : Int)] w fun e w' => e = .returned (.int .u8 ((gmul a b).toNat : Int)) ∧ w' = w := by
  have ha := a.toNat_lt
  have hb := b.toNat_lt
  have hfin : Hid (((gmul a b).toNat : Int) = (gs a.toNat b.toNat 8 : Nat)) := by
    show _ = _
    rw [gmul_toNat]; rfl
  generalize a.toNat = x at *
  generalize b.toNat = y at *
  go_enter Tryd.func49, Tryd.ntmps49
  go_wp2
  go_loop [5, 6, 7] (fun vx vy vs => ∃ k : Nat, k ≤ 8 ∧ vx = .int .i64 (xtn x k : Nat) ∧ vy = .int .i64 (y / 2 ^ k : Nat) ∧ vs = .int .i64 (gs x y k : Nat)) (fun _ vy _ => (intOf vy).toNat)
  case atStart => exact ⟨0, by omega, rfl, by simp, rfl⟩
  case round =>
    obtain ⟨k, hk, rfl, rfl, rfl⟩ := hrel
    have hxk := xtn_lt ha k
    have hgk := gs_lt ha (b := y) k
    have hyk : y / 2 ^ k < 256 := Nat.lt_of_le_of_lt (Nat.div_le_self _ _) hb
    by_cases hz : 0 < y / 2 ^ k
    · have hk8 : k < 8 := by
        have : ¬ 8 ≤ k := by
          intro h8
          have := Nat.pow_le_pow_right (n := 2) (by decide) h8
          rw [Nat.div_eq_of_lt (by omega)] at hz
          omega
        omega
      have hdiv := Lib.hid (div_succ y k)
      have hs : Hid (gs x y (k + 1) = gs x y k ^^^ bt y k (xtn x k)) := rfl
      have hx : Hid (xtn x (k + 1) = if 255 < 2 * xtn x k then (2 * xtn x k) ^^^ 285 else 2 * xtn x k) := by
        show _ = _
        have h128 : xtn x (k + 1) = (2 * xtn x k) ^^^ (285 * (xtn x k / 128)) := rfl
        rw [h128]
        split
        · have : xtn x k / 128 = 1 := by omega
          rw [this]
        · have : xtn x k / 128 = 0 := by omega
          rw [this]; simp
      have hbt : Hid (bt y k (xtn x k) = if y / 2 ^ k % 2 = 1 then xtn x k else 0) := by
        show _ = _
        rw [bt_cases, Nat.testBit_eq_decide_div_mod_eq]; simp
      have hx2 : Hid (bits .xor .i64 (2 * ((xtn x k : Nat) : Int)) 285 = (((2 * xtn x k) ^^^ 285 : Nat) : Int)) := by
        show _ = _
        rw [show (2 * ((xtn x k : Nat) : Int)) = ((2 * xtn x k : Nat) : Int) by simp, show (285 : Int) = ((285 : Nat) : Int) from rfl, i64_xor_nat _ _ (by omega) (by omega)]
      have hsx : Hid (bits .xor .i64 ((gs x y k : Nat) : Int) ((xtn x k : Nat) : Int) = ((gs x y k ^^^ xtn x k : Nat) : Int)) := by
        show _ = _
        rw [i64_xor_nat _ _ (by omega) (by omega)]
      generalize xtn x k = X at *
      generalize gs x y k = S at *
      generalize y / 2 ^ k = Y at *
      by_cases hodd : Y % 2 = 1
      all_goals by_cases h255 : 255 < 2 * X
      · have htest : ((Y : Int) % 2 == 1) = true := by rw [show ((Y : Int) % 2) = ((Y % 2 : Nat) : Int) by simp, hodd]; rfl
        have hodd' := Lib.hid hodd
        clear hodd
        go_wp2
        go_round
        case rel => exact ⟨k + 1, by omega, by rw [hx.out, if_pos h255, hx2.out], by rw [hdiv.out]; go_num, by rw [hs.out, hbt.out, if_pos hodd'.out, hsx.out]⟩
        case measure => simp [intOf]; omega
      · have htest : ((Y : Int) % 2 == 1) = true := by rw [show ((Y : Int) % 2) = ((Y % 2 : Nat) : Int) by simp, hodd]; rfl
        have hodd' := Lib.hid hodd
        clear hodd
        go_wp2
        go_round
        case rel => exact ⟨k + 1, by omega, by rw [hx.out, if_neg h255]; go_num, by rw [hdiv.out]; go_num, by rw [hs.out, hbt.out, if_pos hodd'.out, hsx.out]⟩
        case measure => simp [intOf]; omega
      · have htest : ((Y : Int) % 2 == 1) = false := by
          rw [show ((Y : Int) % 2) = ((Y % 2 : Nat) : Int) by simp, show Y % 2 = 0 by omega]; rfl
        have hodd' := Lib.hid hodd
        clear hodd
        go_wp2
        go_round
        case rel => exact ⟨k + 1, by omega, by rw [hx.out, if_pos h255, hx2.out], by rw [hdiv.out]; go_num, by rw [hs.out, hbt.out, if_neg hodd'.out, Nat.xor_zero]⟩
        case measure => simp [intOf]; omega
      · have htest : ((Y : Int) % 2 == 1) = false := by
          rw [show ((Y : Int) % 2) = ((Y % 2 : Nat) : Int) by simp, show Y % 2 = 0 by omega]; rfl
        have hodd' := Lib.hid hodd
        clear hodd
        go_wp2
        go_round
        case rel => exact ⟨k + 1, by omega, by rw [hx.out, if_neg h255]; go_num, by rw [hdiv.out]; go_num, by rw [hs.out, hbt.out, if_neg hodd'.out, Nat.xor_zero]⟩
        case measure => simp [intOf]; omega
    · have hst : Hid (gs x y k = gs x y 8) := by
        show _ = _
        have := gs_stable x y (8 - k) k (Nat.eq_zero_of_not_pos hz)
        rw [show k + (8 - k) = 8 by omega] at this
        exact this.symm
      generalize xtn x k = X at *
      generalize gs x y k = S at *
      generalize y / 2 ^ k = Y at *
      go_wp2
      go_ret
      exact ⟨ret_int (by rw [hfin.out, ← hst.out]), rfl⟩
set_option maxRecDepth 100000 in
set_option maxHeartbeats 1000000 in
theorem refInv (a : UInt8) (w : World) (h0 : a ≠ 0) :
    Calls Tryd.prog 51 #[.int .u8 (a.toNat : Int)] w fun e w' => e = .returned (.int .u8 ((ginv a).toNat : Int)) ∧ w' = w := by
  have ha := a.toNat_lt
  have hn0 : a.toNat ≠ 0 := fun e => h0 (UInt8.toNat_inj.1 e)
  obtain ⟨g, hg⟩ : ∃ g : UInt8, g = ginv a := ⟨_, rfl⟩
  have hgn : g.toNat = ginvN a.toNat := by rw [hg, ginv_toNat]
  have hone0 : (gmul a g).toNat = 1 := by rw [gmul_toNat, hgn, gmN_inv ha hn0]
  have huniq : Hid (∀ u : UInt8, (gmul a u).toNat = 1 → u = g) := by
    intro u hu
    refine UInt8.toNat_inj.1 ?_
    rw [hgn]
    exact inv_unique ha u.toNat_lt (by rw [← gmul_toNat]; exact hu)
  have hg1 : 1 ≤ g.toNat := by
    have : g.toNat ≠ 0 := by intro e; rw [gmul_toNat, e, gmN_zero_right] at hone0; cases hone0
    omega
  have hg2 := g.toNat_lt
  rw [← hg]
  clear hg hgn hn0 h0
  have Hone := Lib.hid hone0
  clear hone0
  go_enter Tryd.func51, Tryd.ntmps51
  go_wp2
  go_loop [3] (fun vb => ∃ b : Nat, 1 ≤ b ∧ b ≤ g.toNat ∧ vb = .int .i64 b) (fun vb => 256 - (intOf vb).toNat)
  case atStart => exact ⟨1, by omega, by omega, rfl⟩
  case round =>
    obtain ⟨b, hb1, hb2, rfl⟩ := hrel
    have hb : b < 256 := by omega
    obtain ⟨u, rfl⟩ : ∃ u : UInt8, b = u.toNat := ⟨UInt8.ofNat b, by rw [UInt8.toNat_ofNat_of_lt' (by exact hb)]⟩
    by_cases he : u = g
    · subst he
      have hone : (((gmul a u).toNat : Int) == 1) = true := by rw [Hone.out]; rfl
      go_wp2_with (go_at_call 49; refine (refMul _ _ _).mono ?_; rintro e w' ⟨rfl, rfl⟩)
      go_ret
      exact ⟨rfl, rfl⟩
    · have hone : (((gmul a u).toNat : Int) == 1) = false := by
        rw [beq_eq_false_iff_ne]
        intro e
        exact he (huniq.out u (by omega))
      have hlt : u.toNat < g.toNat := by
        have : u.toNat ≠ g.toNat := fun e => he (UInt8.toNat_inj.1 e)
        omega
      go_wp2_with (go_at_call 49; refine (refMul _ _ _).mono ?_; rintro e w' ⟨rfl, rfl⟩)
      go_round
      case rel => exact ⟨u.toNat + 1, by omega, by omega, by go_num⟩
      case measure => simp [intOf]; omega
end Go.Proofs.YtokclgjkdpjjfaaDoor
