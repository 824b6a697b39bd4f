/-
  The walk of the second statement of chapter 05.
-/
import Derived.Test.YtokclgjkdpjjfaaDoorX1
import Derived.Test.YtokclgjkdpjjfaaDoorPl
namespace Go.Proofs.YtokclgjkdpjjfaaDoor
open Go.RowKit Go.Q
variable {w : World} {S S' S'' : Reg} {A A' A'' : Option Addr} {cap cap' cap'' : Nat}

set_option maxRecDepth 100000 in
set_option maxHeartbeats 4000000 in
theorem lawSolves {m : List (List UInt8)} {b : List UInt8} (hm : Rows8 S w A cap m) (hb : Bytes S' w A' cap' b) (hin : In S w) (hinb : In S' w) (ht : TabAt w) : Calls Tryd.prog 4 #[.slice A m.length cap, .slice A' b.length cap'] w (GiveBool w true) := by
  have hlm := hm.len
  have hlb := hb.len
  have D_m : Hid (Rows8 (fun k => k < w.heap.size) w A cap m) := hm.mono hin
  have D_b : Hid (Bytes (fun k => k < w.heap.size) w A' cap' b) := hb.mono hinb
  clear hm hin hb hinb
  go_enter Tryd.func4, Tryd.ntmps4
  go_wp2_with fail
  have hcall := refFew 50 (by omega) D_m.out
  have Hcall := Lib.hid hcall
  clear hcall
  refine Hcall.out.mono ?_
  rintro e wq ⟨rfl, hwq⟩
  obtain rfl : w = wq := hwq.symm
  clear Hcall
  by_cases hf : few m 50 = true
  · by_cases h50 : 50 < b.length
    · have ht50 : decide ((50 : Int) < (b.length : Int)) = true := by rw [decide_eq_true_eq]; omega
      go_wp2_with fail
      have hcall := lawSanity ht
      have Hcall := Lib.hid hcall
      clear hcall
      refine Hcall.out.mono ?_
      rintro e w1 ⟨rfl, hbb⟩
      have hB1 : Hid (Below w.heap.size w w1) := hbb
      have htn := tabStep ht hB1.out
      clear ht
      rename TabAt _ => ht
      clear Hcall
      clear hbb
      go_wp2_with fail
      go_ret
      exact ⟨rfl, hB1.out⟩
    · have ht50 : decide ((50 : Int) < (b.length : Int)) = false := by rw [decide_eq_false_iff_not]; omega
      go_wp2_with fail
      have hcall := matSolve D_m.out D_b.out (fun _ h => h) (fun _ h => h) ht
      have Hcall := Lib.hid hcall
      clear hcall
      refine Hcall.out.mono ?_
      rintro e w1 ⟨A1, c1, B1, d1, rfl, h1a, h1b, hbb⟩
      have hB1 : Hid (Below w.heap.size w w1) := hbb
      have htn := tabStep ht hB1.out
      clear ht
      rename TabAt _ => ht
      clear Hcall
      have D_x : Hid (Bytes (fun k => k < w1.heap.size) w1 A1 c1 (((solveR m b).map (·.1)).getD [])) := h1a.mono (fun k hk => hk.2)
      have D_k : Hid (Rows8 (fun k => k < w1.heap.size) w1 B1 d1 (((solveR m b).map (·.2)).getD [])) := h1b.mono (fun k hk => hk.2)
      clear h1a h1b hbb
      go_wp2_with fail
      have hcall := refSolve (D_m.out.below hB1.out (fun _ h => h)) (D_b.out.below hB1.out (fun _ h => h)) (fun k hk => Nat.lt_of_lt_of_le hk hB1.out.size) (fun k hk => Nat.lt_of_lt_of_le hk hB1.out.size)
      have Hcall := Lib.hid hcall
      clear hcall
      refine Hcall.out.mono ?_
      rintro e w2 ⟨A2, c2, B2, d2, rfl, h1a, h1b, hbb⟩
      have hB2 : Hid (Below w1.heap.size w1 w2) := hbb
      have htn := tabStep ht hB2.out
      clear ht
      rename TabAt _ => ht
      clear Hcall
      have D_x2 : Hid (Bytes (fun k => k < w2.heap.size) w2 A2 c2 (((solveR m b).map (·.1)).getD [])) := h1a.mono (fun k hk => hk.2)
      have D_k2 : Hid (Rows8 (fun k => k < w2.heap.size) w2 B2 d2 (((solveR m b).map (·.2)).getD [])) := h1b.mono (fun k hk => hk.2)
      clear h1a h1b hbb
      go_wp2_with fail
      obtain ⟨w3, hww3⟩ : ∃ x, x = w2.alloc (.cells #[.slice A2 (((solveR m b).map (·.1)).getD []).length c2, .slice B2 (((solveR m b).map (·.2)).getD []).length d2, .int .i64 (solveErr m b : Nat)] 47) := ⟨_, rfl⟩
      rw [← hww3]
      have hB3 : Hid (Below w2.heap.size w2 w3) := by show Below _ _ _; rw [hww3]; exact ba _ _
      have bxs_g : Hid (w3.heap[w2.heap.size]? = some (.cells #[.slice A2 (((solveR m b).map (·.1)).getD []).length c2, .slice B2 (((solveR m b).map (·.2)).getD []).length d2, .int .i64 (solveErr m b : Nat)] 47 (0, 0))) := by show _ = _; rw [hww3]; exact heap_alloc_new _ _
      have bxs_lt : w2.heap.size < w3.heap.size := by rw [hww3]; simp
      have htn := tabStep ht hB3.out
      clear ht hww3
      rename TabAt _ => ht
      have hcall := matInverse (D_m.out.below (bstep hB1.out (bstep hB2.out hB3.out)) (fun _ h => h)) (fun k hk => Nat.lt_of_lt_of_le hk (bstep hB1.out (bstep hB2.out hB3.out)).size) ht (fun _ _ => inv_full _)
      have Hcall := Lib.hid hcall
      clear hcall
      refine Hcall.out.mono ?_
      rintro e w4 ⟨A4, c4, rfl, h1a, hbb⟩
      have hB4 : Hid (Below w3.heap.size w3 w4) := hbb
      have htn := tabStep ht hB4.out
      clear ht
      rename TabAt _ => ht
      clear Hcall
      have D_i : Hid (Rows8 (fun k => k < w4.heap.size) w4 A4 c4 (inverseE m)) := h1a.mono (fun k hk => hk.2)
      clear h1a hbb
      go_wp2_with fail
      have hcall := refInverse (D_m.out.below (bstep hB1.out (bstep hB2.out (bstep hB3.out hB4.out))) (fun _ h => h)) (fun k hk => Nat.lt_of_lt_of_le hk (bstep hB1.out (bstep hB2.out (bstep hB3.out hB4.out))).size)
      have Hcall := Lib.hid hcall
      clear hcall
      refine Hcall.out.mono ?_
      rintro e w5 ⟨A5, c5, rfl, h1a, hbb⟩
      have hB5 : Hid (Below w4.heap.size w4 w5) := hbb
      have htn := tabStep ht hB5.out
      clear ht
      rename TabAt _ => ht
      clear Hcall
      have D_i2 : Hid (Rows8 (fun k => k < w5.heap.size) w5 A5 c5 (inverseE m)) := h1a.mono (fun k hk => hk.2)
      clear h1a hbb
      go_wp2_with fail
      obtain ⟨w6, hww6⟩ : ∃ x, x = w5.alloc (.cells #[.slice A5 (inverseE m).length c5, .int .i64 (inverseErr m : Nat)] 35) := ⟨_, rfl⟩
      rw [← hww6]
      have hB6 : Hid (Below w5.heap.size w5 w6) := by show Below _ _ _; rw [hww6]; exact ba _ _
      have bxi_g : Hid (w6.heap[w5.heap.size]? = some (.cells #[.slice A5 (inverseE m).length c5, .int .i64 (inverseErr m : Nat)] 35 (0, 0))) := by show _ = _; rw [hww6]; exact heap_alloc_new _ _
      have bxi_lt : w5.heap.size < w6.heap.size := by rw [hww6]; simp
      have htn := tabStep ht hB6.out
      clear ht hww6
      rename TabAt _ => ht
      have hcall := matExpress (D_m.out.below (bstep hB1.out (bstep hB2.out (bstep hB3.out (bstep hB4.out (bstep hB5.out hB6.out))))) (fun _ h => h)) (D_b.out.below (bstep hB1.out (bstep hB2.out (bstep hB3.out (bstep hB4.out (bstep hB5.out hB6.out))))) (fun _ h => h)) (fun k hk => Nat.lt_of_lt_of_le hk (bstep hB1.out (bstep hB2.out (bstep hB3.out (bstep hB4.out (bstep hB5.out hB6.out))))).size) (fun k hk => Nat.lt_of_lt_of_le hk (bstep hB1.out (bstep hB2.out (bstep hB3.out (bstep hB4.out (bstep hB5.out hB6.out))))).size) ht
      have Hcall := Lib.hid hcall
      clear hcall
      refine Hcall.out.mono ?_
      rintro e w7 ⟨A7, c7, rfl, h1a, hbb⟩
      have hB7 : Hid (Below w6.heap.size w6 w7) := hbb
      have htn := tabStep ht hB7.out
      clear ht
      rename TabAt _ => ht
      clear Hcall
      have D_l : Hid (Bytes (fun k => k < w7.heap.size) w7 A7 c7 (exprE m b)) := h1a.mono (fun k hk => hk.2)
      clear h1a hbb
      go_wp2_with fail
      have hcall := refExpress (D_m.out.below (bstep hB1.out (bstep hB2.out (bstep hB3.out (bstep hB4.out (bstep hB5.out (bstep hB6.out hB7.out)))))) (fun _ h => h)) (D_b.out.below (bstep hB1.out (bstep hB2.out (bstep hB3.out (bstep hB4.out (bstep hB5.out (bstep hB6.out hB7.out)))))) (fun _ h => h)) (fun k hk => Nat.lt_of_lt_of_le hk (bstep hB1.out (bstep hB2.out (bstep hB3.out (bstep hB4.out (bstep hB5.out (bstep hB6.out hB7.out)))))).size) (fun k hk => Nat.lt_of_lt_of_le hk (bstep hB1.out (bstep hB2.out (bstep hB3.out (bstep hB4.out (bstep hB5.out (bstep hB6.out hB7.out)))))).size)
      have Hcall := Lib.hid hcall
      clear hcall
      refine Hcall.out.mono ?_
      rintro e w8 ⟨A8, c8, rfl, h1a, hbb⟩
      have hB8 : Hid (Below w7.heap.size w7 w8) := hbb
      have htn := tabStep ht hB8.out
      clear ht
      rename TabAt _ => ht
      clear Hcall
      have D_l2 : Hid (Bytes (fun k => k < w8.heap.size) w8 A8 c8 (exprE m b)) := h1a.mono (fun k hk => hk.2)
      clear h1a hbb
      have hc1 := (cells_at (show (w8.alloc (.cells #[.slice A8 (exprE m b).length c8, .int .i64 (exprErr m b : Nat)] 52)).heap[w2.heap.size]? = _ from (Below.heap_alloc _ _ _ (Nat.lt_of_lt_of_le bxs_lt (bstep hB4.out (bstep hB5.out (bstep hB6.out (bstep hB7.out hB8.out)))).size)).trans (((bstep hB4.out (bstep hB5.out (bstep hB6.out (bstep hB7.out hB8.out)))).block _ bxs_lt).trans bxs_g.out)) 2 (by simp)).1
      simp only [List.getElem_toArray, List.getElem_cons_zero, List.getElem_cons_succ] at hc1
      have hc2 := (cells_at (show (w8.alloc (.cells #[.slice A8 (exprE m b).length c8, .int .i64 (exprErr m b : Nat)] 52)).heap[w5.heap.size]? = _ from (Below.heap_alloc _ _ _ (Nat.lt_of_lt_of_le bxi_lt (bstep hB7.out hB8.out).size)).trans (((bstep hB7.out hB8.out).block _ bxi_lt).trans bxi_g.out)) 1 (by simp)).1
      simp only [List.getElem_toArray, List.getElem_cons_zero, List.getElem_cons_succ] at hc2
      go_wp2_with fail
      clear hc1 hc2
      obtain ⟨w9, hww9⟩ : ∃ x, x = w8.alloc (.cells #[.slice A8 (exprE m b).length c8, .int .i64 (exprErr m b : Nat)] 52) := ⟨_, rfl⟩
      rw [← hww9]
      have hB9 : Hid (Below w8.heap.size w8 w9) := by show Below _ _ _; rw [hww9]; exact ba _ _
      have bxe_g : Hid (w9.heap[w8.heap.size]? = some (.cells #[.slice A8 (exprE m b).length c8, .int .i64 (exprErr m b : Nat)] 52 (0, 0))) := by show _ = _; rw [hww9]; exact heap_alloc_new _ _
      have bxe_lt : w8.heap.size < w9.heap.size := by rw [hww9]; simp
      have htn := tabStep ht hB9.out
      clear ht hww9
      rename TabAt _ => ht
      have hcall := lawSanity ht
      have Hcall := Lib.hid hcall
      clear hcall
      refine Hcall.out.mono ?_
      rintro e w10 ⟨rfl, hbb⟩
      have hB10 : Hid (Below w9.heap.size w9 w10) := hbb
      have htn := tabStep ht hB10.out
      clear ht
      rename TabAt _ => ht
      clear Hcall
      clear hbb
      have hc3 := (cells_at (show w10.heap[w2.heap.size]? = _ from ((bstep hB4.out (bstep hB5.out (bstep hB6.out (bstep hB7.out (bstep hB8.out (bstep hB9.out hB10.out)))))).block _ bxs_lt).trans bxs_g.out) 0 (by simp)).1
      simp only [List.getElem_toArray, List.getElem_cons_zero] at hc3
      go_wp2_with fail
      clear hc3
      have hcall := refSameRow ((D_x.out.below (bstep hB2.out (bstep hB3.out (bstep hB4.out (bstep hB5.out (bstep hB6.out (bstep hB7.out (bstep hB8.out (bstep hB9.out hB10.out)))))))) (fun _ h => h)).mono (S' := fun k => k < w10.heap.size) (fun k hk => Nat.lt_of_lt_of_le hk (bstep hB2.out (bstep hB3.out (bstep hB4.out (bstep hB5.out (bstep hB6.out (bstep hB7.out (bstep hB8.out (bstep hB9.out hB10.out)))))))).size)) ((D_x2.out.below (bstep hB3.out (bstep hB4.out (bstep hB5.out (bstep hB6.out (bstep hB7.out (bstep hB8.out (bstep hB9.out hB10.out))))))) (fun _ h => h)).mono (S' := fun k => k < w10.heap.size) (fun k hk => Nat.lt_of_lt_of_le hk (bstep hB3.out (bstep hB4.out (bstep hB5.out (bstep hB6.out (bstep hB7.out (bstep hB8.out (bstep hB9.out hB10.out))))))).size))
      have Hcall := Lib.hid hcall
      clear hcall
      refine Hcall.out.mono ?_
      rintro e w11 ⟨rfl, hd⟩
      have hB11 : Hid (Below w10.heap.size w10 w11) := hd.below _
      have htn := tabStep ht hB11.out
      clear ht
      rename TabAt _ => ht
      clear Hcall
      clear hd
      simp only [decide_true]
      have hc4 := (cells_at (show w11.heap[w2.heap.size]? = _ from ((bstep hB4.out (bstep hB5.out (bstep hB6.out (bstep hB7.out (bstep hB8.out (bstep hB9.out (bstep hB10.out hB11.out))))))).block _ bxs_lt).trans bxs_g.out) 1 (by simp)).1
      simp only [List.getElem_toArray, List.getElem_cons_zero, List.getElem_cons_succ] at hc4
      go_wp2_with fail
      clear hc4
      have hcall := refSame ((D_k.out.below (bstep hB2.out (bstep hB3.out (bstep hB4.out (bstep hB5.out (bstep hB6.out (bstep hB7.out (bstep hB8.out (bstep hB9.out (bstep hB10.out hB11.out))))))))) (fun _ h => h)).mono (S' := fun k => k < w11.heap.size) (fun k hk => Nat.lt_of_lt_of_le hk (bstep hB2.out (bstep hB3.out (bstep hB4.out (bstep hB5.out (bstep hB6.out (bstep hB7.out (bstep hB8.out (bstep hB9.out (bstep hB10.out hB11.out))))))))).size)) ((D_k2.out.below (bstep hB3.out (bstep hB4.out (bstep hB5.out (bstep hB6.out (bstep hB7.out (bstep hB8.out (bstep hB9.out (bstep hB10.out hB11.out)))))))) (fun _ h => h)).mono (S' := fun k => k < w11.heap.size) (fun k hk => Nat.lt_of_lt_of_le hk (bstep hB3.out (bstep hB4.out (bstep hB5.out (bstep hB6.out (bstep hB7.out (bstep hB8.out (bstep hB9.out (bstep hB10.out hB11.out)))))))).size))
      have Hcall := Lib.hid hcall
      clear hcall
      refine Hcall.out.mono ?_
      rintro e w12 ⟨rfl, hd⟩
      have hB12 : Hid (Below w11.heap.size w11 w12) := hd.below _
      have htn := tabStep ht hB12.out
      clear ht
      rename TabAt _ => ht
      clear Hcall
      clear hd
      simp only [decide_true]
      have hc5 := (cells_at (show w12.heap[w5.heap.size]? = _ from ((bstep hB7.out (bstep hB8.out (bstep hB9.out (bstep hB10.out (bstep hB11.out hB12.out))))).block _ bxi_lt).trans bxi_g.out) 0 (by simp)).1
      simp only [List.getElem_toArray, List.getElem_cons_zero] at hc5
      go_wp2_with fail
      clear hc5
      have hcall := refSame ((D_i.out.below (bstep hB5.out (bstep hB6.out (bstep hB7.out (bstep hB8.out (bstep hB9.out (bstep hB10.out (bstep hB11.out hB12.out))))))) (fun _ h => h)).mono (S' := fun k => k < w12.heap.size) (fun k hk => Nat.lt_of_lt_of_le hk (bstep hB5.out (bstep hB6.out (bstep hB7.out (bstep hB8.out (bstep hB9.out (bstep hB10.out (bstep hB11.out hB12.out))))))).size)) ((D_i2.out.below (bstep hB6.out (bstep hB7.out (bstep hB8.out (bstep hB9.out (bstep hB10.out (bstep hB11.out hB12.out)))))) (fun _ h => h)).mono (S' := fun k => k < w12.heap.size) (fun k hk => Nat.lt_of_lt_of_le hk (bstep hB6.out (bstep hB7.out (bstep hB8.out (bstep hB9.out (bstep hB10.out (bstep hB11.out hB12.out)))))).size))
      have Hcall := Lib.hid hcall
      clear hcall
      refine Hcall.out.mono ?_
      rintro e w13 ⟨rfl, hd⟩
      have hB13 : Hid (Below w12.heap.size w12 w13) := hd.below _
      have htn := tabStep ht hB13.out
      clear ht
      rename TabAt _ => ht
      clear Hcall
      clear hd
      simp only [decide_true]
      have hc6 := (cells_at (show w13.heap[w8.heap.size]? = _ from ((bstep hB10.out (bstep hB11.out (bstep hB12.out hB13.out))).block _ bxe_lt).trans bxe_g.out) 0 (by simp)).1
      simp only [List.getElem_toArray, List.getElem_cons_zero] at hc6
      go_wp2_with fail
      clear hc6
      have hcall := refSameRow ((D_l.out.below (bstep hB8.out (bstep hB9.out (bstep hB10.out (bstep hB11.out (bstep hB12.out hB13.out))))) (fun _ h => h)).mono (S' := fun k => k < w13.heap.size) (fun k hk => Nat.lt_of_lt_of_le hk (bstep hB8.out (bstep hB9.out (bstep hB10.out (bstep hB11.out (bstep hB12.out hB13.out))))).size)) ((D_l2.out.below (bstep hB9.out (bstep hB10.out (bstep hB11.out (bstep hB12.out hB13.out)))) (fun _ h => h)).mono (S' := fun k => k < w13.heap.size) (fun k hk => Nat.lt_of_lt_of_le hk (bstep hB9.out (bstep hB10.out (bstep hB11.out (bstep hB12.out hB13.out)))).size))
      have Hcall := Lib.hid hcall
      clear hcall
      refine Hcall.out.mono ?_
      rintro e w14 ⟨rfl, hd⟩
      have hB14 : Hid (Below w13.heap.size w13 w14) := hd.below _
      have htn := tabStep ht hB14.out
      clear ht
      rename TabAt _ => ht
      clear Hcall
      clear hd
      simp only [decide_true]
      go_wp2_with fail
      go_ret
      exact ⟨rfl, (bstep hB1.out (bstep hB2.out (bstep hB3.out (bstep hB4.out (bstep hB5.out (bstep hB6.out (bstep hB7.out (bstep hB8.out (bstep hB9.out (bstep hB10.out (bstep hB11.out (bstep hB12.out (bstep hB13.out hB14.out)))))))))))))⟩
  · have hf2 : few m 50 = false := by simpa using hf
    clear hf
    go_wp2_with fail
    have hcall := lawSanity ht
    have Hcall := Lib.hid hcall
    clear hcall
    refine Hcall.out.mono ?_
    rintro e w1 ⟨rfl, hbb⟩
    have hB1 : Hid (Below w.heap.size w w1) := hbb
    have htn := tabStep ht hB1.out
    clear ht
    rename TabAt _ => ht
    clear Hcall
    clear hbb
    go_wp2_with fail
    go_ret
    exact ⟨rfl, hB1.out⟩
end Go.Proofs.YtokclgjkdpjjfaaDoor
