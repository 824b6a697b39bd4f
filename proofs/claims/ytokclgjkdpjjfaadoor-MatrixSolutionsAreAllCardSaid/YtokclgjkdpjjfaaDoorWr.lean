/-
  The walks of the functions of layer 5 that only read, some in an order that is left open.
-/
import Derived.Test.YtokclgjkdpjjfaaDoorWq
namespace Go.Proofs.YtokclgjkdpjjfaaDoor
open Go.RowKit Go.Q
variable {w : World} {S : Reg} {A A' : Option Addr} {cap cap' : Nat}
set_option maxHeartbeats 1000000 in
theorem refSameRow {a b : List UInt8} (ha : Bytes S w A cap a) (hb : Bytes S w A' cap' b) :
    Calls Tryd.prog 27 #[.slice A a.length cap, .slice A' b.length cap'] w fun e w' => e = .returned (.bool (decide (a = b))) ∧ Drew w w' := by
  have hla := ha.len
  have hlb := hb.len
  go_enter Tryd.func27, Tryd.ntmps27
  by_cases hne : a.length = b.length
  · have ht : ((a.length : Int) != (b.length : Int)) = false := by rw [hne]; simp
    have Hne := Lib.hid hne
    have hle : a.length ≤ b.length := by omega
    clear hne
    go_wp2
    go_loopw [5] (fun k wr => ∃ i : Nat, i ≤ a.length ∧ k = .int .i64 i ∧ Hid (a.take i = b.take i) ∧ Drew w wr) (fun k _ => a.length - (intOf k).toNat)
    case atStart => exact ⟨0, by omega, rfl, by show _ = _; simp, Drew.refl _⟩
    case round =>
      obtain ⟨i, hi, rfl, hd, hw⟩ := hrel
      by_cases hlt : i < a.length
      · have hltb : i < b.length := by omega
        obtain ⟨ba, oa, rfl, hba, hca⟩ := bytes_get (ha.drew hw) hlt
        obtain ⟨bb, ob, rfl, hbb, hcb⟩ := bytes_get (hb.drew hw) hltb
        have hsa : Hid (a.take (i + 1) = a.take i ++ [a[i]]) := take_succ _ _ hlt
        have hsb : Hid (b.take (i + 1) = b.take i ++ [b[i]]) := take_succ _ _ hltb
        clear ha hb
        by_cases he : a[i] = b[i]
        · have hd' : Hid (a.take (i + 1) = b.take (i + 1)) := by show _ = _; rw [hsa.out, hsb.out, hd.out, he]
          have htest : ((a[i].toNat : Int) != (b[i].toNat : Int)) = false := by rw [he]; simp
          have He := Lib.hid he
          clear he
          go_wp2
          go_quiet (fail)
          go_wp2
          go_roundw
          case rel => exact ⟨i + 1, by omega, by go_num, hd', hw.more _⟩
          case measure => simp [intOf]; omega
        · have hf : Hid (decide (a = b) = false) := by
            show _ = _
            rw [decide_eq_false_iff_not]
            rintro rfl
            exact he rfl
          have htest : ((a[i].toNat : Int) != (b[i].toNat : Int)) = true := by
            rw [bne_iff_ne]; intro e; exact he (UInt8.toNat_inj.1 (by omega))
          have He := Lib.hid he
          clear he
          go_wp2
          go_quiet (fail)
          go_wp2
          go_ret
          exact ⟨ret_bool hf.out.symm, hw.more _⟩
      · obtain rfl : i = a.length := by omega
        have hf : Hid (decide (a = b) = true) := by
          show _ = _
          rw [decide_eq_true_eq]
          have := hd.out
          rw [List.take_length, Hne.out, List.take_length] at this
          exact this
        clear ha hb
        go_wp2
        go_ret
        exact ⟨ret_bool hf.out.symm, hw⟩
  · have ht : ((a.length : Int) != (b.length : Int)) = true := by rw [bne_iff_ne]; omega
    have hf : Hid (decide (a = b) = false) := by
      show _ = _
      rw [decide_eq_false_iff_not]
      rintro rfl
      exact hne rfl
    clear ha hb hne
    go_wp2
    go_ret
    exact ⟨ret_bool hf.out.symm, Drew.refl _⟩
set_option maxHeartbeats 1000000 in
theorem refSameList {a b : List Nat} (ha : Ints S w A cap a) (hb : Ints S w A' cap' b) :
    Calls Tryd.prog 20 #[.slice A a.length cap, .slice A' b.length cap'] w fun e w' => e = .returned (.bool (decide (a = b))) ∧ Drew w w' := by
  have hla := ha.len
  have hlb := hb.len
  go_enter Tryd.func20, Tryd.ntmps20
  by_cases hne : a.length = b.length
  · have ht : ((a.length : Int) != (b.length : Int)) = false := by rw [hne]; simp
    have Hne := Lib.hid hne
    have hle : a.length ≤ b.length := by omega
    clear hne
    go_wp2
    go_loopw [5] (fun k wr => ∃ i : Nat, i ≤ a.length ∧ k = .int .i64 i ∧ Hid (a.take i = b.take i) ∧ Drew w wr) (fun k _ => a.length - (intOf k).toNat)
    case atStart => exact ⟨0, by omega, rfl, by show _ = _; simp, Drew.refl _⟩
    case round =>
      obtain ⟨i, hi, rfl, hd, hw⟩ := hrel
      by_cases hlt : i < a.length
      · have hltb : i < b.length := by omega
        obtain ⟨ba, oa, rfl, hba, hca, hra⟩ := ints_get (ha.drew hw) hlt
        obtain ⟨bb, ob, rfl, hbb, hcb, hrb⟩ := ints_get (hb.drew hw) hltb
        have hsa : Hid (a.take (i + 1) = a.take i ++ [a[i]]) := take_succ _ _ hlt
        have hsb : Hid (b.take (i + 1) = b.take i ++ [b[i]]) := take_succ _ _ hltb
        clear ha hb
        by_cases he : a[i] = b[i]
        · have hd' : Hid (a.take (i + 1) = b.take (i + 1)) := by show _ = _; rw [hsa.out, hsb.out, hd.out, he]
          have htest : ((a[i] : Int) != (b[i] : Int)) = false := by rw [he]; simp
          have He := Lib.hid he
          clear he
          go_wp2
          go_quiet (fail)
          go_wp2
          go_roundw
          case rel => exact ⟨i + 1, by omega, by go_num, hd', hw.more _⟩
          case measure => simp [intOf]; omega
        · have hf : Hid (decide (a = b) = false) := by
            show _ = _
            rw [decide_eq_false_iff_not]
            rintro rfl
            exact he rfl
          have htest : ((a[i] : Int) != (b[i] : Int)) = true := by
            rw [bne_iff_ne]; omega
          have He := Lib.hid he
          clear he
          go_wp2
          go_quiet (fail)
          go_wp2
          go_ret
          exact ⟨ret_bool hf.out.symm, hw.more _⟩
      · obtain rfl : i = a.length := by omega
        have hf : Hid (decide (a = b) = true) := by
          show _ = _
          rw [decide_eq_true_eq]
          have := hd.out
          rw [List.take_length, Hne.out, List.take_length] at this
          exact this
        clear ha hb
        go_wp2
        go_ret
        exact ⟨ret_bool hf.out.symm, hw⟩
  · have ht : ((a.length : Int) != (b.length : Int)) = true := by rw [bne_iff_ne]; omega
    have hf : Hid (decide (a = b) = false) := by
      show _ = _
      rw [decide_eq_false_iff_not]
      rintro rfl
      exact hne rfl
    clear ha hb hne
    go_wp2
    go_ret
    exact ⟨ret_bool hf.out.symm, Drew.refl _⟩
set_option maxHeartbeats 1000000 in
theorem refSame {a b : List (List UInt8)} (ha : Rows8 S w A cap a) (hb : Rows8 S w A' cap' b) :
    Calls Tryd.prog 19 #[.slice A a.length cap, .slice A' b.length cap'] w fun e w' => e = .returned (.bool (decide (a = b))) ∧ Drew w w' := by
  have hla := ha.len
  have hlb := hb.len
  go_enter Tryd.func19, Tryd.ntmps19
  by_cases hne : a.length = b.length
  · have ht : ((a.length : Int) != (b.length : Int)) = false := by rw [hne]; simp
    have Hne := Lib.hid hne
    have hle : a.length ≤ b.length := by omega
    clear hne
    go_wp2
    go_loopw [5] (fun k wr => ∃ i : Nat, i ≤ a.length ∧ k = .int .i64 i ∧ Hid (a.take i = b.take i) ∧ Drew w wr) (fun k _ => a.length - (intOf k).toNat)
    case atStart => exact ⟨0, by omega, rfl, by show _ = _; simp, Drew.refl _⟩
    case round =>
      obtain ⟨i, hi, rfl, hd, hw⟩ := hrel
      by_cases hlt : i < a.length
      · have hltb : i < b.length := by omega
        obtain ⟨ba, oa, Aa, ca, rfl, hba, hca, hra⟩ := rows_get (ha.drew hw) hlt
        obtain ⟨bb, ob, Ab, cb, rfl, hbb, hcb, hrb⟩ := rows_get (hb.drew hw) hltb
        have hsa : Hid (a.take (i + 1) = a.take i ++ [a[i]]) := take_succ _ _ hlt
        have hsb : Hid (b.take (i + 1) = b.take i ++ [b[i]]) := take_succ _ _ hltb
        clear ha hb
        by_cases he : a[i] = b[i]
        · have hd' : Hid (a.take (i + 1) = b.take (i + 1)) := by show _ = _; rw [hsa.out, hsb.out, hd.out, he]
          have htest : decide (a[i] = b[i]) = true := by rw [he]; simp
          have He := Lib.hid he
          clear he
          go_wp2
          go_quiet ((go_at_call 27; exact Calls.quiet_of (refSameRow (hra.drewN _) (hrb.drewN _))))
          go_wp2
          go_roundw
          case rel => exact ⟨i + 1, by omega, by go_num, hd', hw.more _⟩
          case measure => simp [intOf]; omega
        · have hf : Hid (decide (a = b) = false) := by
            show _ = _
            rw [decide_eq_false_iff_not]
            rintro rfl
            exact he rfl
          have htest : decide (a[i] = b[i]) = false := by simpa using he
          have He := Lib.hid he
          clear he
          go_wp2
          go_quiet ((go_at_call 27; exact Calls.quiet_of (refSameRow (hra.drewN _) (hrb.drewN _))))
          go_wp2
          go_ret
          exact ⟨ret_bool hf.out.symm, hw.more _⟩
      · obtain rfl : i = a.length := by omega
        have hf : Hid (decide (a = b) = true) := by
          show _ = _
          rw [decide_eq_true_eq]
          have := hd.out
          rw [List.take_length, Hne.out, List.take_length] at this
          exact this
        clear ha hb
        go_wp2
        go_ret
        exact ⟨ret_bool hf.out.symm, hw⟩
  · have ht : ((a.length : Int) != (b.length : Int)) = true := by rw [bne_iff_ne]; omega
    have hf : Hid (decide (a = b) = false) := by
      show _ = _
      rw [decide_eq_false_iff_not]
      rintro rfl
      exact hne rfl
    clear ha hb hne
    go_wp2
    go_ret
    exact ⟨ret_bool hf.out.symm, Drew.refl _⟩
set_option maxHeartbeats 1000000 in
theorem refHas {l : List Nat} (n : Nat) (hl : Ints S w A cap l) :
    Calls Tryd.prog 53 #[.slice A l.length cap, .int .i64 (n : Int)] w fun e w' => e = .returned (.bool (decide (n ∈ l))) ∧ w' = w := by
  have hll := hl.len
  go_enter Tryd.func53, Tryd.ntmps53
  go_wp2
  go_loop [5] (fun k => ∃ i : Nat, i ≤ l.length ∧ k = .int .i64 i ∧ Hid (n ∉ l.take i)) (fun k => l.length - (intOf k).toNat)
  case atStart => exact ⟨0, by omega, rfl, by show _ ∉ _; simp⟩
  case round =>
    obtain ⟨i, hi, rfl, hd⟩ := hrel
    by_cases hlt : i < l.length
    · obtain ⟨b, o, rfl, hb, hc, hr⟩ := ints_get hl hlt
      have hs : Hid (l.take (i + 1) = l.take i ++ [l[i]]) := take_succ _ _ hlt
      clear hl
      by_cases he : l[i] = n
      · have ht : ((l[i] : Int) == (n : Int)) = true := by rw [he]; simp
        have hf : Hid (decide (n ∈ l) = true) := by
          show _ = _
          rw [decide_eq_true_eq, ← he]; exact List.getElem_mem _
        clear he
        go_wp2
        go_ret
        exact ⟨ret_bool hf.out.symm, rfl⟩
      · have ht : ((l[i] : Int) == (n : Int)) = false := by rw [beq_eq_false_iff_ne]; omega
        have hd' : Hid (n ∉ l.take (i + 1)) := by
          show _ ∉ _
          rw [hs.out, List.mem_append]
          rintro (h | h)
          · exact hd.out h
          · simp at h; omega
        clear he
        go_wp2
        go_round
        case rel => exact ⟨i + 1, by omega, by go_num, hd'⟩
        case measure => simp [intOf]; omega
    · obtain rfl : i = l.length := by omega
      have hf : Hid (decide (n ∈ l) = false) := by
        show _ = _
        have := hd.out
        rw [List.take_length] at this
        simpa using this
      clear hl
      go_wp2
      go_ret
      exact ⟨ret_bool hf.out.symm, rfl⟩
/-- -1, or the number. -/
def optI (o : Option Nat) : Int := match o with | none => -1 | some k => (k : Int)
set_option maxHeartbeats 1000000 in
theorem refLead {m : List (List UInt8)} (r c : Nat) (hcols : ∀ x ∈ m, c < x.length) (hm : Rows8 S w A cap m) :
    Calls Tryd.prog 40 #[.slice A m.length cap, .int .i64 (r : Int), .int .i64 (c : Int)] w fun e w' => e = .returned (.int .i64 (optI (lead m r c))) ∧ w' = w := by
  have hl := hm.len
  have hcols' := Lib.hid hcols
  clear hcols
  go_enter Tryd.func40, Tryd.ntmps40
  go_wp2
  go_loop [7] (fun k => ∃ i f : Nat, r ≤ i ∧ i ≤ max r m.length ∧ k = .int .i64 i ∧ Hid (f = m.length - i) ∧ Hid (leadFrom m c f i = lead m r c)) (fun k => m.length - (intOf k).toNat)
  case atStart => exact ⟨r, m.length - r, by omega, by omega, rfl, rfl, rfl⟩
  case round =>
    obtain ⟨i, f, hi0, hi, rfl, hf, hd⟩ := hrel
    by_cases hlt : i < m.length
    · obtain ⟨b, o, A1, c1, rfl, hb, hc1, hr1⟩ := rows_get hm hlt
      have hcl : c < m[i].length := hcols'.out _ (List.getElem_mem hlt)
      obtain ⟨b2, o2, rfl, hb2, hc2⟩ := bytes_get hr1 hcl
      have hl1 := hr1.len
      clear hm hr1
      have hst : Hid (leadFrom m c f i = if m[i][c] != 0 then some i else leadFrom m c (m.length - (i + 1)) (i + 1)) := by
        show _ = _
        have := hf.out
        obtain ⟨g, rfl⟩ : ∃ g, f = g + 1 := ⟨f - 1, by omega⟩
        have hg : g = m.length - (i + 1) := by omega
        rw [leadFrom, hg, getD_lt _ _ hlt, getD_lt _ _ hcl]
      by_cases he : m[i][c] = 0
      · have ht : ((m[i][c].toNat : Int) != 0) = false := by rw [he]; rfl
        have hd' : Hid (leadFrom m c (m.length - (i + 1)) (i + 1) = lead m r c) := by
          show _ = _
          rw [← hd.out, hst.out, he]; rfl
        clear he
        go_wp2
        go_round
        case rel => exact ⟨i + 1, _, by omega, by omega, by go_num, rfl, hd'⟩
        case measure => simp [intOf]; omega
      · have ht : ((m[i][c].toNat : Int) != 0) = true := by
          rw [bne_iff_ne]; intro e; exact he (UInt8.toNat_inj.1 (by simpa using e))
        have hd' : Hid (optI (lead m r c) = (i : Int)) := by
          show _ = _
          rw [← hd.out, hst.out]; simp [he, optI]
        clear he
        go_wp2
        go_ret
        exact ⟨ret_int hd'.out.symm, rfl⟩
    · have hd' : Hid (optI (lead m r c) = -1) := by
        show _ = _
        have := hf.out
        obtain rfl : f = 0 := by omega
        rw [← hd.out]; rfl
      clear hm
      go_wp2
      go_ret
      exact ⟨ret_int hd'.out.symm, rfl⟩
set_option maxHeartbeats 1000000 in
theorem refCheck {m : List (List UInt8)} (hm : Rows8 S w A cap m) :
    Calls Tryd.prog 12 #[.slice A m.length cap] w fun e w' => e = .returned (.int .i64 (mchk m : Nat)) ∧ Drew w w' := by
  have hl := hm.len
  go_enter Tryd.func12, Tryd.ntmps12
  by_cases h : 48 < m.length
  · have hf : Hid (mchk m = 2) := by show _ = _; unfold mchk; rw [if_pos h]
    clear hm
    go_wp2
    go_ret
    exact ⟨ret_int (by rw [hf.out]; rfl), Drew.refl _⟩
  · go_wp2
    go_loop [3] (fun k => ∃ i : Nat, i ≤ m.length ∧ k = .int .i64 i ∧ Hid ((m.take i).any (fun r => decide (48 < r.length)) = false)) (fun k => m.length - (intOf k).toNat)
    case atStart => exact ⟨0, by omega, rfl, by show _ = _; simp⟩
    case round =>
      obtain ⟨i, hi, rfl, hd⟩ := hrel
      by_cases hlt : i < m.length
      · obtain ⟨b, o, A1, c1, rfl, hb, hc, hr⟩ := rows_get hm hlt
        have hcl := hr.len
        have hstep2 : Hid ((m.take (i + 1)).any (fun r => decide (48 < r.length)) = ((m.take i).any (fun r => decide (48 < r.length)) || decide (48 < m[i].length))) := any_take_succ _ _ _ hlt
        clear hm hr
        by_cases hle : m[i].length ≤ 48
        · have hd' : Hid ((m.take (i + 1)).any (fun r => decide (48 < r.length)) = false) := by
            show _ = _
            rw [hstep2.out, hd.out]; simpa using hle
          go_wp2
          go_round
          case rel => exact ⟨i + 1, by omega, by go_num, hd'⟩
          case measure => simp [intOf]; omega
        · have hf : Hid (mchk m = 2) := by
            show _ = _
            unfold mchk
            rw [if_neg h, if_pos]
            rw [List.any_eq_true]
            exact ⟨m[i], List.getElem_mem hlt, by simp; omega⟩
          go_wp2
          go_ret
          exact ⟨ret_int (by rw [hf.out]; rfl), Drew.refl _⟩
      · obtain rfl : i = m.length := by omega
        have hall : Hid (m.any (fun r => decide (48 < r.length)) = false) := by
          show _ = _
          have := hd.out
          rw [List.take_length] at this
          exact this
        go_wp2
        go_loopw [4] (fun k wr => ∃ i : Nat, i ≤ m.length ∧ k = .int .i64 i ∧ Hid ((m.take i).any (fun r => r.length != cols m) = false) ∧ Drew w wr) (fun k _ => m.length - (intOf k).toNat)
        case atStart => exact ⟨0, by omega, rfl, by show _ = _; simp, Drew.refl _⟩
        case round =>
          obtain ⟨i, hi, rfl, hd, hw⟩ := hrel
          by_cases hlt : i < m.length
          · obtain ⟨b, o, A1, c1, rfl, hb, hc, hr⟩ := rows_get (hm.drew hw) hlt
            obtain ⟨b0, o0, A2, c2, h0, hb0, hc0, hr0⟩ := rows_get (hm.drew hw) (show 0 < m.length by omega)
            simp only [Option.some.injEq, Addr.mk.injEq, and_true] at h0
            obtain ⟨rfl, rfl⟩ := h0
            have hcl := hr.len
            have hcl0 := hr0.len
            have hcz := cols_zero (show 0 < m.length by omega)
            rw [hcz] at hc0 hcl0
            simp only [Nat.add_zero] at hc0
            clear hm hr hr0 hcz
            have hstep : Hid ((m.take (i + 1)).any (fun r => r.length != cols m) = ((m.take i).any (fun r => r.length != cols m) || m[i].length != cols m)) := any_take_succ _ _ _ hlt
            by_cases hne : m[i].length = cols m
            · have ht : ((m[i].length : Int) != (cols m : Int)) = false := by rw [hne]; simp
              have hs : Hid ((m.take (i + 1)).any (fun r => r.length != cols m) = false) := by show _ = _; rw [hstep.out, hd.out, hne]; simp
              clear hne
              go_wp2
              go_quiet (fail)
              go_wp2
              go_roundw
              case rel => exact ⟨i + 1, by omega, by go_num, hs, hw.more _⟩
              case measure => simp [intOf]; omega
            · have ht : ((m[i].length : Int) != (cols m : Int)) = true := by rw [bne_iff_ne]; omega
              have hf : Hid (mchk m = 1) := by
                show _ = _
                unfold mchk
                rw [if_neg h, if_neg (by rw [hall.out]; simp), if_pos]
                rw [List.any_eq_true]
                exact ⟨m[i], List.getElem_mem hlt, by simpa using hne⟩
              clear hne
              go_wp2
              go_quiet (fail)
              go_wp2
              go_ret
              exact ⟨ret_int (by rw [hf.out]; rfl), hw.more _⟩
          · obtain rfl : i = m.length := by omega
            have hf : Hid (mchk m = 0) := by
              show _ = _
              have := hd.out
              rw [List.take_length] at this
              unfold mchk
              rw [if_neg h, hall.out, this]; rfl
            clear hm
            go_wp2
            go_ret
            exact ⟨ret_int (by rw [hf.out]; rfl), hw⟩
end Go.Proofs.YtokclgjkdpjjfaaDoor
