/-
  The walks of the functions of layer 5 that only read: they leave the memory as it is.
-/
import Derived.Test.YtokclgjkdpjjfaaDoorWg
import Derived.Test.YtokclgjkdpjjfaaDoorSpec
import Derived.Deep.QuietTactic
import Derived.BigQuiet
namespace Go.Proofs.YtokclgjkdpjjfaaDoor
open Go.RowKit Go.Q
def b2i (f : Bool) : Int := if f then 1 else 0
variable {w : World} {S : Reg} {A A' : Option Addr} {cap cap' : Nat}
set_option maxHeartbeats 1000000 in
theorem refColumns {m : List (List UInt8)} (hm : Rows8 S w A cap m) :
    Calls Tryd.prog 30 #[.slice A m.length cap] w fun e w' => e = .returned (.int .i64 (cols m : Nat)) ∧ w' = w := by
  have hl := hm.len
  go_enter Tryd.func30, Tryd.ntmps30
  by_cases h : 0 < m.length
  · obtain ⟨b, o, A1, c1, rfl, hb, hc, hr⟩ := rows_get hm h
    rw [cols_zero h] at hc
    have hz : ((m.length : Int) == 0) = false := by rw [beq_eq_false_iff_ne]; omega
    have hcl := hr.len
    rw [cols_zero h] at hcl
    simp only [Nat.add_zero] at hc
    clear hm hr
    go_wp2
    go_ret
    exact ⟨rfl, rfl⟩
  · obtain rfl : m = [] := List.eq_nil_of_length_eq_zero (by omega)
    clear hm
    go_wp2
    go_ret
    exact ⟨rfl, rfl⟩
set_option maxHeartbeats 1000000 in
theorem matColumns {m : List (List UInt8)} (hm : Rows8 S w A cap m) :
    Calls Tryd.prog 36 #[.slice A m.length cap] w fun e w' => e = .returned (.int .i64 (cols m : Nat)) ∧ w' = w := by
  have hl := hm.len
  go_enter Tryd.func36, Tryd.ntmps36
  by_cases h : 0 < m.length
  · obtain ⟨b, o, A1, c1, rfl, hb, hc, hr⟩ := rows_get hm h
    rw [cols_zero h] at hc
    have hz : ((m.length : Int) == 0) = false := by rw [beq_eq_false_iff_ne]; omega
    have hcl := hr.len
    rw [cols_zero h] at hcl
    simp only [Nat.add_zero] at hc
    clear hm hr
    go_wp2
    go_ret
    exact ⟨rfl, rfl⟩
  · obtain rfl : m = [] := List.eq_nil_of_length_eq_zero (by omega)
    clear hm
    go_wp2
    go_ret
    exact ⟨rfl, rfl⟩
set_option maxHeartbeats 1000000 in
theorem refFew {m : List (List UInt8)} (n : Nat) (hn : n ≤ 1000) (hm : Rows8 S w A cap m) :
    Calls Tryd.prog 10 #[.slice A m.length cap, .int .i64 (n : Int)] w fun e w' => e = .returned (.bool (few m n)) ∧ w' = w := by
  have hl := hm.len
  go_enter Tryd.func10, Tryd.ntmps10
  by_cases h : n < m.length
  · have hf : Hid (few m n = false) := by show _ = _; unfold few; simp; omega
    clear hm
    go_wp2
    go_ret
    exact ⟨ret_bool hf.out.symm, rfl⟩
  · go_wp2
    go_loop [5] (fun k => ∃ i : Nat, i ≤ m.length ∧ k = .int .i64 i ∧ Hid ((m.take i).all (fun r => decide (r.length ≤ n)) = true)) (fun k => m.length - (intOf k).toNat)
    case atStart => exact ⟨0, by omega, rfl, by show _ = _; simp⟩
    case round =>
      obtain ⟨i, hi, rfl, hd⟩ := hrel
      by_cases hlt : i < m.length
      · obtain ⟨b, o, A1, c1, rfl, hb, hc, hr⟩ := rows_get hm hlt
        have hcl := hr.len
        clear hm hr
        by_cases hle : m[i].length ≤ n
        · have hd' : Hid ((m.take (i + 1)).all (fun r => decide (r.length ≤ n)) = true) := by
            show _ = _
            rw [all_take_succ _ _ _ hlt, hd.out]; simpa using hle
          go_wp2
          go_round
          case rel => exact ⟨i + 1, by omega, by go_num, hd'⟩
          case measure => simp [intOf]; omega
        · have hf : Hid (few m n = false) := by
            show _ = _
            unfold few
            simp only [Bool.and_eq_false_iff, List.all_eq_false]
            exact .inr ⟨m[i], List.getElem_mem hlt, by simpa using hle⟩
          go_wp2
          go_ret
          exact ⟨ret_bool hf.out.symm, rfl⟩
      · obtain rfl : i = m.length := by omega
        have hf : Hid (few m n = true) := by
          show _ = _
          have := hd.out
          rw [List.take_length] at this
          unfold few; rw [this]; simp; omega
        clear hm
        go_wp2
        go_ret
        exact ⟨ret_bool hf.out.symm, rfl⟩
set_option maxHeartbeats 1000000 in
theorem matCheck {m : List (List UInt8)} (hm : Rows8 S w A cap m) :
    Calls Tryd.prog 16 #[.slice A m.length cap] w fun e w' => e = .returned (.int .i64 (mchk m : Nat)) ∧ w' = w := by
  have hl := hm.len
  go_enter Tryd.func16, Tryd.ntmps16
  by_cases h : 48 < m.length
  · have hf : Hid (mchk m = 2) := by show _ = _; unfold mchk; rw [if_pos h]
    clear hm
    go_wp2
    go_ret
    exact ⟨ret_int (by rw [hf.out]; rfl), rfl⟩
  · go_wp2
    go_loop [3, 5, 11] (fun e _ k => ∃ i : Nat, i ≤ m.length ∧ k = .int .i64 i ∧ Hid ((m.take i).any (fun r => decide (48 < r.length)) = false) ∧ e = .int .i64 (b2i ((m.take i).any (fun r => r.length != cols m)))) (fun _ _ k => m.length - (intOf k).toNat)
    case atStart => exact ⟨0, by omega, rfl, by show _ = _; simp, by simp [b2i]⟩
    case round =>
      obtain ⟨i, hi, rfl, hd, rfl⟩ := hrel
      by_cases hlt : i < m.length
      · obtain ⟨b, o, A1, c1, rfl, hb, hc, hr⟩ := rows_get hm hlt
        obtain ⟨b0, o0, A2, c2, h0, hb0, hc0, hr0⟩ := rows_get hm (show 0 < m.length by omega)
        simp only [Option.some.injEq, Addr.mk.injEq, and_true] at h0
        obtain ⟨rfl, rfl⟩ := h0
        have hcl := hr.len
        have hcl0 := hr0.len
        have hcz := cols_zero (show 0 < m.length by omega)
        rw [hcz] at hc0 hcl0
        simp only [Nat.add_zero] at hc0
        clear hm hr hr0 hcz
        have hstep : Hid ((m.take (i + 1)).any (fun r => r.length != cols m) = ((m.take i).any (fun r => r.length != cols m) || m[i].length != cols m)) := any_take_succ _ _ _ hlt
        have hstep2 : Hid ((m.take (i + 1)).any (fun r => decide (48 < r.length)) = ((m.take i).any (fun r => decide (48 < r.length)) || decide (48 < m[i].length))) := any_take_succ _ _ _ hlt
        by_cases hle : m[i].length ≤ 48
        · have hd' : Hid ((m.take (i + 1)).any (fun r => decide (48 < r.length)) = false) := by
            show _ = _
            rw [hstep2.out, hd.out]; simpa using hle
          generalize (m.take i).any (fun r => r.length != cols m) = f at *
          by_cases hne : m[i].length = cols m
          · have ht : ((m[i].length : Int) != (cols m : Int)) = false := by rw [hne]; simp
            have hs : Hid ((m.take (i + 1)).any (fun r => r.length != cols m) = f) := by show _ = _; rw [hstep.out, hne]; simp
            clear hne
            go_wp2
            go_round
            case rel => exact ⟨i + 1, by omega, by go_num, hd', by rw [hs.out]⟩
            case measure => simp [intOf]; omega
          · have ht : ((m[i].length : Int) != (cols m : Int)) = true := by rw [bne_iff_ne]; omega
            have hs : Hid ((m.take (i + 1)).any (fun r => r.length != cols m) = true) := by show _ = _; rw [hstep.out]; simp [hne]
            clear hne
            go_wp2
            go_round
            case rel => exact ⟨i + 1, by omega, by go_num, hd', by rw [hs.out]; rfl⟩
            case measure => simp [intOf]; omega
        · have hf : Hid (mchk m = 2) := by
            show _ = _
            unfold mchk
            rw [if_neg h, if_pos]
            rw [List.any_eq_true]
            exact ⟨m[i], List.getElem_mem hlt, by simp; omega⟩
          generalize (m.take i).any (fun r => r.length != cols m) = f at *
          go_wp2
          go_ret
          exact ⟨ret_int (by rw [hf.out]; rfl), rfl⟩
      · obtain rfl : i = m.length := by omega
        have hf : Hid (((mchk m : Nat) : Int) = b2i ((m.take m.length).any (fun r => r.length != cols m))) := by
          show _ = _
          have := hd.out
          rw [List.take_length] at this ⊢
          unfold mchk
          rw [if_neg h, this]
          cases m.any (fun r => r.length != cols m) <;> rfl
        generalize (m.take m.length).any (fun r => r.length != cols m) = f at *
        clear hm
        go_wp2
        go_ret
        exact ⟨ret_int hf.out.symm, rfl⟩
end Go.Proofs.YtokclgjkdpjjfaaDoor
