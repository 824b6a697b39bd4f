/-
  The walks of the reference's functions of layer 5 that make matrices.
-/
import Derived.Test.YtokclgjkdpjjfaaDoorWa
namespace Go.Proofs.YtokclgjkdpjjfaaDoor
open Go.RowKit Go.Q
variable {w : World} {S S' : Reg} {A A' : Option Addr} {cap cap' : Nat}
theorem combineTo_len (coef : List UInt8) (rows : List (List UInt8)) (n : Nat) (hr : ∀ r ∈ rows, n ≤ r.length) : ∀ k, k ≤ rows.length → (combineTo coef rows n k).length = n
  | 0, _ => by simp [combineTo]
  | k + 1, hk => by
    have hm : rows[k] ∈ rows := List.getElem_mem _
    have := hr _ hm
    simp only [combineTo, rowAdd, List.length_zipWith, combineTo_len coef rows n hr k (by omega)]
    rw [getD_lt _ _ (by omega : k < rows.length)]
    omega
set_option maxHeartbeats 1000000 in
theorem refCombine {coef : List UInt8} {rows : List (List UInt8)} (n : Nat) (hn : n ≤ 1000) (hr : ∀ r ∈ rows, n ≤ r.length) (hc : rows.length ≤ coef.length) (hsc : Bytes S w A cap coef) (hsr : Rows8 S' w A' cap' rows) (hin : In S w) (hin' : In S' w) :
    Calls Tryd.prog 34 #[.slice A coef.length cap, .slice A' rows.length cap', .int .i64 (n : Int)] w (GiveBytes w (combine coef rows n)) := by
  obtain ⟨i0, hi, hz0, hz1, hz2⟩ := info_parts info5
  have hlc := hsc.len
  have hlr := hsr.len
  have hr' := Lib.hid hr
  clear hr
  go_enter Tryd.func34, Tryd.ntmps34
  go_wp2_with (at_make; refine wpList_make_list (E := u8E) (P := fun _ => False) rfl (.tmp 9) (.tmp 9) 43 rfl Tryd.underlying43 hi hz0 hz1 hz2 rfl rfl (0 : UInt8) (fun _ _ => rfl) rfl rfl (by omega) (Below.refl _ _) ?_; intro w1 hown hb1 _ _)
  have hown1 : ∃ A1 cap1, Value.slice (some ⟨w.heap.size, 0, none⟩) n n = .slice A1 n cap1 ∧ Bytes (fresh w w1) w1 A1 cap1 (combineTo coef rows n 0) := ⟨_, _, rfl, hown.sl (fun k hk h => ⟨h.resolve_left id, hk⟩)⟩
  clear hown
  obtain ⟨A1, cap1, hv, hS1⟩ := hown1
  rw [hv]
  clear hv
  go_wp2
  go_loopw [7, 8] (fun v k wr => ∃ i A1 cap1, i ≤ rows.length ∧ k = .int .i64 (i : Int) ∧ v = .slice A1 n cap1 ∧ Hid (Bytes (fresh w wr) wr A1 cap1 (combineTo coef rows n i)) ∧ Below w.heap.size w wr) (fun _ k _ => rows.length - (intOf k).toNat)
  case atStart => exact ⟨0, A1, cap1, by omega, rfl, rfl, hS1, hb1⟩
  case round =>
    obtain ⟨i, A2, cap2, hi', rfl, rfl, hS2, hbl⟩ := hrel
    clear hS1
    have hlen := combineTo_len coef rows n hr'.out i hi'
    by_cases hlt : i < rows.length
    · have hltc : i < coef.length := by omega
      obtain ⟨b1, o1, rfl, hb1', hc1⟩ := bytes_get (hsc.below' hbl hin) hltc
      obtain ⟨b2, o2, A3, cap3, rfl, hb2', hc2, hS3⟩ := rows_get (hsr.below' hbl hin') hlt
      have hst : Hid (combineTo coef rows n (i + 1) = rowAdd (combineTo coef rows n i) coef[i] rows[i]) := by
        show _ = _
        rw [combineTo, getD_lt _ _ hltc, getD_lt _ _ hlt]
      have hrl : n ≤ rows[i].length := hr'.out _ (List.getElem_mem _)
      have hinf : In (fresh w wr) wr := fun k hk => hk.2
      have hin2 : In S' wr := hin'.below hbl
      clear hsc hsr
      go_wp2
      go_still_tail 9, (by kernel_rfl)
      change wpList _ _ _ _ _ wr.drew
      go_wp2_with (go_at_call 32; refine (refSum' _ hlen (by omega) (by omega) (hS2.out.drew (Drew.one _)) (hS3.drew (Drew.one _)) hinf hin2).mono ?_; rintro e w' ⟨A4, cap4, rfl, hS4, hb4⟩)
      have hlen4 : Hid ((combineTo coef rows n (i + 1)).length = n) := combineTo_len coef rows n hr'.out (i + 1) (by omega)
      have hl5 : Hid ((rowAdd (combineTo coef rows n i) coef[i] rows[i]).length = n) := by show _ = _; rw [← hst.out]; exact hlen4.out
      have hS5 : Hid (Bytes (fresh w w') w' A4 cap4 (combineTo coef rows n (i + 1))) := by
        show Bytes _ _ _ _ _
        rw [hst.out]; exact hS4.mono (fresh_trans hbl.size)
      have hbl' : Below w.heap.size w w' := (hbl.trans ((Drew.one wr).below _)).trans (hb4.mono hbl.size)
      clear hS4 hbl
      rw [hl5.out]
      go_wp2
      go_roundw
      case rel => exact ⟨i + 1, A4, cap4, by omega, by go_num, rfl, hS5, hbl'⟩
      case measure => simp [intOf]; omega
    · obtain rfl : i = rows.length := by omega
      have hlen' := Lib.hid hlen
      clear hsc hsr hlen
      go_wp2
      go_ret
      exact ⟨A2, cap2, ret_slice hlen'.out.symm, hS2.out, hbl⟩
theorem refCombine' {coef : List UInt8} {rows : List (List UInt8)} {n nc : Nat} (hnc : coef.length = nc) (hn : n ≤ 1000) (hr : ∀ r ∈ rows, n ≤ r.length) (hc : rows.length ≤ nc) (hsc : Bytes S w A cap coef) (hsr : Rows8 S' w A' cap' rows) (hin : In S w) (hin' : In S' w) :
    Calls Tryd.prog 34 #[.slice A nc cap, .slice A' rows.length cap', .int .i64 (n : Int)] w (GiveBytes w (combine coef rows n)) := by
  subst hnc; exact refCombine n hn hr hc hsc hsr hin hin'
end Go.Proofs.YtokclgjkdpjjfaaDoor
