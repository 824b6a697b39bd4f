/-
  The walks of the reference's functions of layer 5 that make lists.
-/
import Derived.Test.YtokclgjkdpjjfaaDoorWr
import Derived.Test.YtokclgjkdpjjfaaDoorReg
namespace Go.Proofs.YtokclgjkdpjjfaaDoor
open Go.RowKit Go.Q
variable {w : World} {S S' : Reg} {A A' : Option Addr} {cap cap' : Nat}
theorem info5 : (Tryd.prog.info? 5).map (fun i => (i.zero, i.size, i.bytes)) = some (some (.int .u8 0), 1, 1) := by kernel_rfl
theorem info43 : (Tryd.prog.info? 43).map (fun i => (i.zero, i.size, i.bytes)) = some (some (.slice none 0 0), 1, 24) := by kernel_rfl
theorem info3 : (Tryd.prog.info? 3).map (fun i => (i.zero, i.size, i.bytes)) = some (some (.int .i64 0), 1, 8) := by kernel_rfl
/-- A new list of bytes. -/
def GiveBytes (w : World) (ys : List UInt8) (e : Ending) (w' : World) : Prop :=
  ∃ A cap, e = .returned (.slice A ys.length cap) ∧ Bytes (fresh w w') w' A cap ys ∧ Below w.heap.size w w'
theorem col_step (m : List (List UInt8)) (c i : Nat) (hi : i < m.length) (hc : c < m[i].length) : (column m c).take i ++ [m[i][c]] = (column m c).take (i + 1) := by
  have hl : i < (column m c).length := by simpa [column] using hi
  rw [take_succ _ _ hl]
  congr 2
  simp only [column, List.getElem_map]
  rw [getD_lt _ _ hc]
set_option maxHeartbeats 1000000 in
theorem refColumn {m : List (List UInt8)} (c : Nat) (hcols : ∀ x ∈ m, c < x.length) (hsmall : m.length ≤ 1000) (hm : Rows8 S w A cap m) (hin : In S w) :
    Calls Tryd.prog 39 #[.slice A m.length cap, .int .i64 (c : Int)] w (GiveBytes w (column m c)) := by
  obtain ⟨i0, hi, hz0, hz1, hz2⟩ := info_parts info5
  have hcols' := Lib.hid hcols
  clear hcols
  go_enter Tryd.func39, Tryd.ntmps39
  go_wp2
  go_loopw [5, 6] (fun v k wr => ∃ i A' cap' , i ≤ m.length ∧ k = .int .i64 (i : Int) ∧ v = .slice A' i cap' ∧ Hid (Own u8E (fun _ => False) w.heap.size 5 wr A' cap' ((column m c).take i)) ∧ Below w.heap.size w wr) (fun _ k _ => m.length - (intOf k).toNat)
  case atStart => exact ⟨0, none, 0, by omega, rfl, rfl, Own.nil, Below.refl _ _⟩
  case round =>
    obtain ⟨i, A', cap', hi', rfl, rfl, hown, hb⟩ := hrel
    by_cases hlt : i < m.length
    · obtain ⟨b, o, A1, c1, rfl, hSb, hc0, hr⟩ := rows_get (hm.below' hb hin) hlt
      have hcl : c < m[i].length := hcols'.out _ (List.getElem_mem hlt)
      obtain ⟨b2, o2, rfl, hb2, hc2⟩ := bytes_get hr hcl
      have hl1 := hr.len
      have hsz := hb.size
      have hlen : Hid (((column m c).take i).length = i) := by show _ = _; simp [column]; omega
      have hstep := Lib.hid (col_step m c i hlt hcl)
      clear hm hr
      go_wp2_with (at_builtin; refine wpList_append_box rfl (.tmp 13) (.tmp 21) 43 rfl rfl rfl Tryd.underlying43 hi hz0 hz1 hz2 rfl (by decide) hlen.out hown.out hb m[i][c] (fun _ => False) rfl (fun _ h => h.elim) (fun _ _ h => h) (by omega) ?_; intro A2 cap2 w2 hown2 hb2 _ _)
      have hown3 : Hid _ := Lib.hid (hown2.cast hstep.out)
      clear hown hown2 hb
      go_wp2
      go_roundw
      case rel => exact ⟨i + 1, A2, cap2, by omega, by go_num, rfl, hown3, hb2⟩
      case measure => simp [intOf]; omega
    · obtain rfl : i = m.length := by omega
      have hlen : Hid ((column m c).length = m.length) := by show _ = _; simp [column]
      have hown2 := Lib.hid (hown.out.cast (by rw [← hlen.out, List.take_length]) : Own u8E (fun _ => False) w.heap.size 5 wr A' cap' (column m c))
      clear hm hown
      go_wp2
      go_ret
      exact ⟨A', cap', ret_slice hlen.out.symm, hown2.out.sl (fun k hk h => ⟨h.resolve_left id, hk⟩), hb⟩
theorem rowAdd_step (a b : List UInt8) (y : UInt8) (i : Nat) (ha : i < a.length) (hb : i < b.length) : (rowAdd a y b).take i ++ [a[i] ^^^ gmul y b[i]] = (rowAdd a y b).take (i + 1) := by
  have hl : i < (rowAdd a y b).length := by simp [rowAdd]; omega
  rw [take_succ _ _ hl]
  congr 2
  simp [rowAdd]
set_option maxHeartbeats 1000000 in
theorem refSum {a b : List UInt8} (y : UInt8) (hab : a.length ≤ b.length) (hsmall : a.length ≤ 1000) (ha : Bytes S w A cap a) (hb : Bytes S' w A' cap' b) (hin : In S w) (hin' : In S' w) :
    Calls Tryd.prog 32 #[.slice A a.length cap, .int .u8 (y.toNat : Int), .slice A' b.length cap'] w (GiveBytes w (rowAdd a y b)) := by
  obtain ⟨i0, hi, hz0, hz1, hz2⟩ := info_parts info5
  have hlb := hb.len
  go_enter Tryd.func32, Tryd.ntmps32
  go_wp2
  go_loopw [7, 8, 9] (fun v k _ wr => ∃ i A1 cap1, i ≤ a.length ∧ k = .int .i64 (i : Int) ∧ v = .slice A1 i cap1 ∧ Hid (Own u8E (fun _ => False) w.heap.size 5 wr A1 cap1 ((rowAdd a y b).take i)) ∧ Below w.heap.size w wr) (fun _ k _ _ => a.length - (intOf k).toNat)
  case atStart => exact ⟨0, none, 0, by omega, rfl, rfl, Own.nil, Below.refl _ _⟩
  case round =>
    obtain ⟨i, A1, cap1, hi', rfl, rfl, hown, hbl⟩ := hrel
    by_cases hlt : i < a.length
    · have hltb : i < b.length := by omega
      obtain ⟨b1, o1, rfl, hS1, hc1⟩ := bytes_get (ha.below' hbl hin) hlt
      obtain ⟨b2, o2, rfl, hS2, hc2⟩ := bytes_get (hb.below' hbl hin') hltb
      have hsz := hbl.size
      have hlen : Hid (((rowAdd a y b).take i).length = i) := by show _ = _; simp [rowAdd]; omega
      have hstep := Lib.hid (rowAdd_step a b y i hlt hltb)
      have hx := bits_xor_u8 a[i] (gmul y b[i])
      clear ha hb
      generalize a[i] = p at *
      generalize b[i] = q at *
      go_wp2_with (first | (go_at_call 49; refine (refMul _ _ _).mono ?_; rintro e w' ⟨rfl, rfl⟩) | (at_builtin; refine wpList_append_box rfl (.tmp 22) (.tmp 29) 43 rfl rfl rfl Tryd.underlying43 hi hz0 hz1 hz2 rfl (by decide) hlen.out hown.out hbl (p ^^^ gmul y q) (fun _ => False) rfl (fun _ h => h.elim) (fun _ _ h => h) (by omega) ?_; intro A2 cap2 w2 hown2 hb2 _ _))
      have hown3 : Hid _ := Lib.hid (hown2.cast hstep.out)
      clear hown hown2 hbl
      go_wp2
      go_roundw
      case rel => exact ⟨i + 1, A2, cap2, by omega, by go_num, rfl, hown3, hb2⟩
      case measure => simp [intOf]; omega
    · obtain rfl : i = a.length := by omega
      have hlen : Hid ((rowAdd a y b).length = a.length) := by show _ = _; simp [rowAdd]; omega
      have hown2 := Lib.hid (hown.out.cast (by rw [← hlen.out, List.take_length]) : Own u8E (fun _ => False) w.heap.size 5 wr A1 cap1 (rowAdd a y b))
      clear ha hb hown
      go_wp2
      go_ret
      exact ⟨A1, cap1, ret_slice hlen.out.symm, hown2.out.sl (fun k hk h => ⟨h.resolve_left id, hk⟩), hbl⟩
theorem refSum' {a b : List UInt8} {n : Nat} (y : UInt8) (hn : a.length = n) (hab : n ≤ b.length) (hsmall : n ≤ 1000) (ha : Bytes S w A cap a) (hb : Bytes S' w A' cap' b) (hin : In S w) (hin' : In S' w) :
    Calls Tryd.prog 32 #[.slice A n cap, .int .u8 (y.toNat : Int), .slice A' b.length cap'] w (GiveBytes w (rowAdd a y b)) := by
  subst hn; exact refSum y hab hsmall ha hb hin hin'
theorem refSumN {a b : List UInt8} {n nb : Nat} (y : UInt8) (hn : a.length = n) (hnb : b.length = nb) (hab : n ≤ nb) (hsmall : n ≤ 1000) (ha : Bytes S w A cap a) (hb : Bytes S' w A' cap' b) (hin : In S w) (hin' : In S' w) :
    Calls Tryd.prog 32 #[.slice A n cap, .int .u8 (y.toNat : Int), .slice A' nb cap'] w (GiveBytes w (rowAdd a y b)) := by
  subst hn; subst hnb; exact refSum y hab hsmall ha hb hin hin'
end Go.Proofs.YtokclgjkdpjjfaaDoor
