/-
  The walks of the first two statements of chapter 05.
-/
import Derived.Test.YtokclgjkdpjjfaaDoorWx
namespace Go.Proofs.YtokclgjkdpjjfaaDoor
open Go.RowKit Go.Q
variable {w : World} {S S' S'' : Reg} {A A' A'' : Option Addr} {cap cap' cap'' : Nat}
theorem matTranspose {m : List (List UInt8)} (hm : Rows8 S w A cap m) (hin : In S w) :
    Calls Tryd.prog 13 #[.slice A m.length cap] w (GiveMatE w (if mchk m = 0 then transpose m else []) (mchk m)) := by
  by_cases hx : mchk m = 0
  · rw [if_pos hx, hx]; exact matTransposeGood hm hin (mchk_valid.1 hx)
  · rw [if_neg hx]; exact matTransposeBad hm hin hx
theorem refProduct {a b : List (List UInt8)} (hma : Rows8 S w A cap a) (hmb : Rows8 S' w A' cap' b) (hina : In S w) (hinb : In S' w) :
    Calls Tryd.prog 29 #[.slice A a.length cap, .slice A' b.length cap'] w (GiveMade w (if prodErr a b = 0 then product a b else []) (prodErr a b)) := by
  by_cases hx : prodErr a b = 0
  · rw [if_pos hx, hx]
    have h1 : mchk a = 0 := by unfold prodErr at hx; split at hx; exact absurd hx (by assumption); omega
    have h2 : mchk b = 0 := by unfold prodErr at hx; rw [if_neg (by simpa using h1)] at hx; split at hx; exact absurd hx (by assumption); omega
    have h3 : cols a = b.length := by
      unfold prodErr at hx
      rw [if_neg (by simpa using h1), if_neg (by simpa using h2)] at hx
      split at hx
      · cases hx
      · omega
    exact refProductGood hma hmb hina hinb (mchk_valid.1 h1) (mchk_valid.1 h2) h3
  · rw [if_neg hx]; exact refProductBad hma hmb hina hinb hx

set_option maxRecDepth 100000 in
set_option maxHeartbeats 4000000 in
theorem lawReduces {m : List (List UInt8)} (hm : Rows8 S w A cap m) (hin : In S w) (ht : TabAt w) : Calls Tryd.prog 3 #[.slice A m.length cap] w (GiveBool w true) := by
  have hlm := hm.len
  have D_m : Hid (Rows8 (fun k => k < w.heap.size) w A cap m) := hm.mono hin
  clear hm hin
  go_enter Tryd.func3, Tryd.ntmps3
  go_wp2_with fail
  have hcall := refFew 50 (by omega) D_m.out
  have Hcall := Lib.hid hcall
  clear hcall
  refine Hcall.out.mono ?_
  rintro e wq ⟨rfl, hwq⟩
  obtain rfl : w = wq := hwq.symm
  clear Hcall
  by_cases hf : few m 50 = true
  · go_wp2_with fail
    have hcall := refCheck D_m.out
    have Hcall := Lib.hid hcall
    clear hcall
    refine Hcall.out.mono ?_
    rintro e w1 ⟨rfl, hd⟩
    have hB1 : Hid (Below w.heap.size w w1) := hd.below _
    have htn := tabStep ht hB1.out
    clear ht
    rename TabAt _ => ht
    clear Hcall
    clear hd
    go_wp2_with fail
    by_cases hx : mchk m = 0
    · have hne : (((mchk m : Nat) : Int) != 0) = false := by rw [hx]; rfl
      have hv := mchk_valid.1 hx
      have h48 := hv.rows
      have hc48 := hv.colsle
      have Hrect : Hid (Rect m (cols m)) := hv.row
      have htr : Hid ((if mchk m = 0 then transpose m else []) = transpose m) := if_pos hx
      have hrd : Hid (reduceE m = reduceM m) := if_pos hx
      have Hv := Lib.hid hv
      clear hv hx
      have hcall := matTranspose (D_m.out.below hB1.out (fun _ h => h)) (fun k hk => Nat.lt_of_lt_of_le hk hB1.out.size)
      rw [htr.out] at hcall
      have Hcall := Lib.hid hcall
      clear hcall
      refine Hcall.out.mono ?_
      rintro e w2 ⟨A2, c2, rfl, ht2, hbb⟩
      have hB2 : Hid (Below w1.heap.size w1 w2) := hbb
      have htn := tabStep ht hB2.out
      clear ht
      rename TabAt _ => ht
      clear Hcall
      have D_t : Hid (Rows8 (fun k => k < w2.heap.size) w2 A2 c2 (transpose m)) := ht2.mono (fun k hk => hk.2)
      clear ht2 hbb
      go_wp2_with fail
      have hcall := matReduce (D_m.out.below (bstep hB1.out hB2.out) (fun _ h => h)) (fun k hk => Nat.lt_of_lt_of_le hk (bstep hB1.out hB2.out).size) ht
      rw [hrd.out] at hcall
      have Hcall := Lib.hid hcall
      clear hcall
      refine Hcall.out.mono ?_
      rintro e w3 ⟨A3, c3, B3, d3, rfl, h3a, h3b, hbb⟩
      have hB3 : Hid (Below w2.heap.size w2 w3) := hbb
      have htn := tabStep ht hB3.out
      clear ht
      rename TabAt _ => ht
      clear Hcall
      have D_r : Hid (Rows8 (fun k => k < w3.heap.size) w3 A3 c3 (reduceM m).1) := h3a.mono (fun k hk => hk.2)
      have D_p : Hid (Ints (fun k => k < w3.heap.size) w3 B3 d3 (reduceM m).2) := h3b.mono (fun k hk => hk.2)
      clear h3a h3b hbb
      go_wp2_with fail
      have hcall := matRank (D_m.out.below (bstep hB1.out (bstep hB2.out hB3.out)) (fun _ h => h)) (fun k hk => Nat.lt_of_lt_of_le hk (bstep hB1.out (bstep hB2.out hB3.out)).size) ht
      rw [hrd.out] at hcall
      have Hcall := Lib.hid hcall
      clear hcall
      refine Hcall.out.mono ?_
      rintro e w4 ⟨rfl, hbb⟩
      have hB4 : Hid (Below w3.heap.size w3 w4) := hbb
      have htn := tabStep ht hB4.out
      clear ht
      rename TabAt _ => ht
      clear Hcall
      clear hbb
      go_wp2_with fail
      have hcall := matCheck (D_m.out.below (bstep hB1.out (bstep hB2.out (bstep hB3.out hB4.out))) (fun _ h => h))
      have Hcall := Lib.hid hcall
      clear hcall
      refine Hcall.out.mono ?_
      rintro e wq ⟨rfl, hwq⟩
      obtain rfl : w4 = wq := hwq.symm
      clear Hcall
      go_wp2_with fail
      have hcall := refTransposeGood (D_m.out.below (bstep hB1.out (bstep hB2.out (bstep hB3.out hB4.out))) (fun _ h => h)) (fun k hk => Nat.lt_of_lt_of_le hk (bstep hB1.out (bstep hB2.out (bstep hB3.out hB4.out))).size) Hv.out
      have Hcall := Lib.hid hcall
      clear hcall
      refine Hcall.out.mono ?_
      rintro e w5 ⟨A5, c5, rfl, ht5, hbb⟩
      have hB5 : Hid (Below w4.heap.size w4 w5) := hbb
      have htn := tabStep ht hB5.out
      clear ht
      rename TabAt _ => ht
      clear Hcall
      have D_t2 : Hid (Rows8 (fun k => k < w5.heap.size) w5 A5 c5 (transpose m)) := ht5.mono (fun k hk => hk.2)
      clear ht5 hbb
      go_wp2_with fail
      obtain ⟨w6, hww6⟩ : ∃ x, x = w5.alloc (.cells #[.slice A5 (transpose m).length c5, .int .i64 0] 35) := ⟨_, rfl⟩
      rw [← hww6]
      have hB6 : Hid (Below w5.heap.size w5 w6) := by show Below _ _ _; rw [hww6]; exact ba _ _
      have bx1_g : Hid (w6.heap[w5.heap.size]? = some (.cells #[.slice A5 (transpose m).length c5, .int .i64 0] 35 (0, 0))) := by show _ = _; rw [hww6]; exact heap_alloc_new _ _
      have bx1_lt : w5.heap.size < w6.heap.size := by rw [hww6]; simp
      have htn := tabStep ht hB6.out
      clear ht hww6
      rename TabAt _ => ht
      have hcall := refReduce Hrect.out (by omega) (by omega) (D_m.out.below (bstep hB1.out (bstep hB2.out (bstep hB3.out (bstep hB4.out (bstep hB5.out hB6.out))))) (fun _ h => h)) (fun k hk => Nat.lt_of_lt_of_le hk (bstep hB1.out (bstep hB2.out (bstep hB3.out (bstep hB4.out (bstep hB5.out hB6.out))))).size)
      have Hcall := Lib.hid hcall
      clear hcall
      refine Hcall.out.mono ?_
      rintro e w7 ⟨A7, c7, B7, d7, rfl, h7a, h7b, hbb⟩
      have hB7 : Hid (Below w6.heap.size w6 w7) := hbb
      have htn := tabStep ht hB7.out
      clear ht
      rename TabAt _ => ht
      clear Hcall
      have D_r2 : Hid (Rows8 (fun k => k < w7.heap.size) w7 A7 c7 (reduceM m).1) := h7a.mono (fun k hk => by rcases hk with h | h; exact Nat.lt_of_lt_of_le h (bstep hB1.out (bstep hB2.out (bstep hB3.out (bstep hB4.out (bstep hB5.out (bstep hB6.out hB7.out)))))).size; exact h.2)
      have D_p2 : Hid (Ints (fun k => k < w7.heap.size) w7 B7 d7 (reduceM m).2) := h7b.mono (fun k hk => hk.2)
      clear h7a h7b hbb
      go_wp2_with fail
      obtain ⟨w8, hww8⟩ : ∃ x, x = w7.alloc (.cells #[.slice A7 (reduceM m).1.length c7, .slice B7 (reduceM m).2.length d7] 38) := ⟨_, rfl⟩
      rw [← hww8]
      have hB8 : Hid (Below w7.heap.size w7 w8) := by show Below _ _ _; rw [hww8]; exact ba _ _
      have bx2_g : Hid (w8.heap[w7.heap.size]? = some (.cells #[.slice A7 (reduceM m).1.length c7, .slice B7 (reduceM m).2.length d7] 38 (0, 0))) := by show _ = _; rw [hww8]; exact heap_alloc_new _ _
      have bx2_lt : w7.heap.size < w8.heap.size := by rw [hww8]; simp
      have htn := tabStep ht hB8.out
      clear ht hww8
      rename TabAt _ => ht
      have hcall := lawSanity ht
      have Hcall := Lib.hid hcall
      clear hcall
      refine Hcall.out.mono ?_
      rintro e w9 ⟨rfl, hbb⟩
      have hB9 : Hid (Below w8.heap.size w8 w9) := hbb
      have htn := tabStep ht hB9.out
      clear ht
      rename TabAt _ => ht
      clear Hcall
      clear hbb
      have hc1 := (cells_at (show w9.heap[w5.heap.size]? = _ from ((bstep hB7.out (bstep hB8.out hB9.out)).block _ bx1_lt).trans bx1_g.out) 0 (by simp)).1
      simp only [List.getElem_toArray, List.getElem_cons_zero] at hc1
      go_wp2_with fail
      clear hc1
      have hcall := refSame ((D_t.out.below (bstep hB3.out (bstep hB4.out (bstep hB5.out (bstep hB6.out (bstep hB7.out (bstep hB8.out hB9.out)))))) (fun _ h => h)).mono (S' := fun k => k < w9.heap.size) (fun k hk => Nat.lt_of_lt_of_le hk (bstep hB3.out (bstep hB4.out (bstep hB5.out (bstep hB6.out (bstep hB7.out (bstep hB8.out hB9.out)))))).size)) ((D_t2.out.below (bstep hB6.out (bstep hB7.out (bstep hB8.out hB9.out))) (fun _ h => h)).mono (S' := fun k => k < w9.heap.size) (fun k hk => Nat.lt_of_lt_of_le hk (bstep hB6.out (bstep hB7.out (bstep hB8.out hB9.out))).size))
      have Hcall := Lib.hid hcall
      clear hcall
      refine Hcall.out.mono ?_
      rintro e w10 ⟨rfl, hd⟩
      have hB10 : Hid (Below w9.heap.size w9 w10) := hd.below _
      have htn := tabStep ht hB10.out
      clear ht
      rename TabAt _ => ht
      clear Hcall
      clear hd
      simp only [decide_true]
      have hc2 := (cells_at (show w10.heap[w7.heap.size]? = _ from ((bstep hB9.out hB10.out).block _ bx2_lt).trans bx2_g.out) 0 (by simp)).1
      simp only [List.getElem_toArray, List.getElem_cons_zero] at hc2
      go_wp2_with fail
      clear hc2
      have hcall := refSame ((D_r.out.below (bstep hB4.out (bstep hB5.out (bstep hB6.out (bstep hB7.out (bstep hB8.out (bstep hB9.out hB10.out)))))) (fun _ h => h)).mono (S' := fun k => k < w10.heap.size) (fun k hk => Nat.lt_of_lt_of_le hk (bstep hB4.out (bstep hB5.out (bstep hB6.out (bstep hB7.out (bstep hB8.out (bstep hB9.out hB10.out)))))).size)) ((D_r2.out.below (bstep hB8.out (bstep hB9.out hB10.out)) (fun _ h => h)).mono (S' := fun k => k < w10.heap.size) (fun k hk => Nat.lt_of_lt_of_le hk (bstep hB8.out (bstep hB9.out hB10.out)).size))
      have Hcall := Lib.hid hcall
      clear hcall
      refine Hcall.out.mono ?_
      rintro e w11 ⟨rfl, hd⟩
      have hB11 : Hid (Below w10.heap.size w10 w11) := hd.below _
      have htn := tabStep ht hB11.out
      clear ht
      rename TabAt _ => ht
      clear Hcall
      clear hd
      simp only [decide_true]
      have hc3 := (cells_at (show w11.heap[w7.heap.size]? = _ from ((bstep hB9.out (bstep hB10.out hB11.out)).block _ bx2_lt).trans bx2_g.out) 1 (by simp)).1
      simp only [List.getElem_toArray, List.getElem_cons_zero, List.getElem_cons_succ] at hc3
      go_wp2_with fail
      clear hc3
      have hcall := refSameList ((D_p.out.below (bstep hB4.out (bstep hB5.out (bstep hB6.out (bstep hB7.out (bstep hB8.out (bstep hB9.out (bstep hB10.out hB11.out))))))) (fun _ h => h)).mono (S' := fun k => k < w11.heap.size) (fun k hk => Nat.lt_of_lt_of_le hk (bstep hB4.out (bstep hB5.out (bstep hB6.out (bstep hB7.out (bstep hB8.out (bstep hB9.out (bstep hB10.out hB11.out))))))).size)) ((D_p2.out.below (bstep hB8.out (bstep hB9.out (bstep hB10.out hB11.out))) (fun _ h => h)).mono (S' := fun k => k < w11.heap.size) (fun k hk => Nat.lt_of_lt_of_le hk (bstep hB8.out (bstep hB9.out (bstep hB10.out hB11.out))).size))
      have Hcall := Lib.hid hcall
      clear hcall
      refine Hcall.out.mono ?_
      rintro e w12 ⟨rfl, hd⟩
      have hB12 : Hid (Below w11.heap.size w11 w12) := hd.below _
      have htn := tabStep ht hB12.out
      clear ht
      rename TabAt _ => ht
      clear Hcall
      clear hd
      simp only [decide_true]
      have hc4 := (cells_at (show w12.heap[w7.heap.size]? = _ from ((bstep hB9.out (bstep hB10.out (bstep hB11.out hB12.out))).block _ bx2_lt).trans bx2_g.out) 1 (by simp)).1
      simp only [List.getElem_toArray, List.getElem_cons_zero, List.getElem_cons_succ] at hc4
      go_wp2_with fail
      clear hc4
      go_ret
      exact ⟨rfl, (bstep hB1.out (bstep hB2.out (bstep hB3.out (bstep hB4.out (bstep hB5.out (bstep hB6.out (bstep hB7.out (bstep hB8.out (bstep hB9.out (bstep hB10.out (bstep hB11.out hB12.out)))))))))))⟩
    · have hne : (((mchk m : Nat) : Int) != 0) = true := by rw [bne_iff_ne]; omega
      have hrd : Hid (reduceE m = ([], [])) := if_neg hx
      have Hx := Lib.hid hx
      clear hx
      have hcall := matTransposeBad (D_m.out.below hB1.out (fun _ h => h)) (fun k hk => Nat.lt_of_lt_of_le hk hB1.out.size) Hx.out
      have Hcall := Lib.hid hcall
      clear hcall
      refine Hcall.out.mono ?_
      rintro e w2 ⟨A2, c2, rfl, _, hbb⟩
      have hB2 : Hid (Below w1.heap.size w1 w2) := hbb
      have htn := tabStep ht hB2.out
      clear ht
      rename TabAt _ => ht
      clear Hcall
      clear hbb
      go_wp2_with fail
      have hcall := matReduce (D_m.out.below (bstep hB1.out hB2.out) (fun _ h => h)) (fun k hk => Nat.lt_of_lt_of_le hk (bstep hB1.out hB2.out).size) ht
      rw [hrd.out] at hcall
      have Hcall := Lib.hid hcall
      clear hcall
      refine Hcall.out.mono ?_
      rintro e w3 ⟨A3, c3, B3, d3, rfl, _, _, hbb⟩
      have hB3 : Hid (Below w2.heap.size w2 w3) := hbb
      have htn := tabStep ht hB3.out
      clear ht
      rename TabAt _ => ht
      clear Hcall
      clear hbb
      go_wp2_with fail
      have hcall := matRank (D_m.out.below (bstep hB1.out (bstep hB2.out hB3.out)) (fun _ h => h)) (fun k hk => Nat.lt_of_lt_of_le hk (bstep hB1.out (bstep hB2.out hB3.out)).size) ht
      rw [hrd.out] at hcall
      have Hcall := Lib.hid hcall
      clear hcall
      refine Hcall.out.mono ?_
      rintro e w4 ⟨rfl, hbb⟩
      have hB4 : Hid (Below w3.heap.size w3 w4) := hbb
      have htn := tabStep ht hB4.out
      clear ht
      rename TabAt _ => ht
      clear Hcall
      clear hbb
      go_wp2_with fail
      have hcall := matCheck (D_m.out.below (bstep hB1.out (bstep hB2.out (bstep hB3.out hB4.out))) (fun _ h => h))
      have Hcall := Lib.hid hcall
      clear hcall
      refine Hcall.out.mono ?_
      rintro e wq ⟨rfl, hwq⟩
      obtain rfl : w4 = wq := hwq.symm
      clear Hcall
      go_wp2_with fail
      have hcall := lawSanity ht
      have Hcall := Lib.hid hcall
      clear hcall
      refine Hcall.out.mono ?_
      rintro e w5 ⟨rfl, hbb⟩
      have hB5 : Hid (Below w4.heap.size w4 w5) := hbb
      have htn := tabStep ht hB5.out
      clear ht
      rename TabAt _ => ht
      clear Hcall
      clear hbb
      go_wp2_with fail
      go_ret
      exact ⟨rfl, (bstep hB1.out (bstep hB2.out (bstep hB3.out (bstep hB4.out hB5.out))))⟩
  · have hf2 : few m 50 = false := by simpa using hf
    clear hf
    go_wp2_with fail
    have hcall := lawSanity ht
    have Hcall := Lib.hid hcall
    clear hcall
    refine Hcall.out.mono ?_
    rintro e w1 ⟨rfl, hbb⟩
    have hB1 : Hid (Below w.heap.size w w1) := hbb
    have htn := tabStep ht hB1.out
    clear ht
    rename TabAt _ => ht
    clear Hcall
    clear hbb
    go_wp2_with fail
    go_ret
    exact ⟨rfl, hB1.out⟩
end Go.Proofs.YtokclgjkdpjjfaaDoor
