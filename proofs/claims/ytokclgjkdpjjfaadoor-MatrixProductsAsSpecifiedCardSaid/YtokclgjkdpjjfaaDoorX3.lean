/-
  The walk of the third statement of chapter 05.
-/
import Derived.Test.YtokclgjkdpjjfaaDoorX1
import Derived.Test.YtokclgjkdpjjfaaDoorPl
namespace Go.Proofs.YtokclgjkdpjjfaaDoor
open Go.RowKit Go.Q
variable {w : World} {S S' S'' : Reg} {A A' A'' : Option Addr} {cap cap' cap'' : Nat}

set_option maxRecDepth 100000 in
set_option maxHeartbeats 4000000 in
theorem lawProducts {a b c : List (List UInt8)} (ha : Rows8 S w A cap a) (hb : Rows8 S' w A' cap' b) (hc : Rows8 S'' w A'' cap'' c) (hina : In S w) (hinb : In S' w) (hinc : In S'' w) (ht : TabAt w) : Calls Tryd.prog 5 #[.slice A a.length cap, .slice A' b.length cap', .slice A'' c.length cap''] w (GiveBool w true) := by
  have hla := ha.len
  have D_a : Hid (Rows8 (fun k => k < w.heap.size) w A cap a) := ha.mono hina
  have hlb := hb.len
  have D_b : Hid (Rows8 (fun k => k < w.heap.size) w A' cap' b) := hb.mono hinb
  have hlc := hc.len
  have D_c : Hid (Rows8 (fun k => k < w.heap.size) w A'' cap'' c) := hc.mono hinc
  clear ha hb hc hina hinb hinc
  go_enter Tryd.func5, Tryd.ntmps5
  go_wp2_with fail
  have hcall := refFew 20 (by omega) D_a.out
  have Hcall := Lib.hid hcall
  clear hcall
  refine Hcall.out.mono ?_
  rintro e wq ⟨rfl, hwq⟩
  obtain rfl : w = wq := hwq.symm
  clear Hcall
  by_cases fa : few a 20 = true
  · go_wp2_with fail
    have hcall := refFew 20 (by omega) D_b.out
    have Hcall := Lib.hid hcall
    clear hcall
    refine Hcall.out.mono ?_
    rintro e wq ⟨rfl, hwq⟩
    obtain rfl : w = wq := hwq.symm
    clear Hcall
    by_cases fb : few b 20 = true
    · go_wp2_with fail
      have hcall := refFew 20 (by omega) D_c.out
      have Hcall := Lib.hid hcall
      clear hcall
      refine Hcall.out.mono ?_
      rintro e wq ⟨rfl, hwq⟩
      obtain rfl : w = wq := hwq.symm
      clear Hcall
      by_cases fc : few c 20 = true
      · go_wp2_with fail
        have hcall := matProduct D_a.out D_b.out (fun _ h => h) (fun _ h => h) ht
        have Hcall := Lib.hid hcall
        clear hcall
        refine Hcall.out.mono ?_
        rintro e w1 ⟨A1, c1, rfl, h1a, hbb⟩
        have hB1 : Hid (Below w.heap.size w w1) := hbb
        have htn := tabStep ht hB1.out
        clear ht
        rename TabAt _ => ht
        clear Hcall
        have D_ab : Hid (Rows8 (fun k => k < w1.heap.size) w1 A1 c1 (prodE a b)) := h1a.mono (fun k hk => hk.2)
        clear h1a hbb
        go_wp2_with fail
        have hcall := refProduct (D_a.out.below hB1.out (fun _ h => h)) (D_b.out.below hB1.out (fun _ h => h)) (fun k hk => Nat.lt_of_lt_of_le hk hB1.out.size) (fun k hk => Nat.lt_of_lt_of_le hk hB1.out.size)
        rw [prod_product' a b] at hcall
        have Hcall := Lib.hid hcall
        clear hcall
        refine Hcall.out.mono ?_
        rintro e w2 ⟨A2, c2, rfl, h1a, hbb⟩
        have hB2 : Hid (Below w1.heap.size w1 w2) := hbb
        have htn := tabStep ht hB2.out
        clear ht
        rename TabAt _ => ht
        clear Hcall
        have D_wt : Hid (Rows8 (fun k => k < w2.heap.size) w2 A2 c2 (prodE a b)) := h1a.mono (fun k hk => hk.2)
        clear h1a hbb
        go_wp2_with fail
        obtain ⟨w3, hww3⟩ : ∃ x, x = w2.alloc (.cells #[.slice A2 (prodE a b).length c2, .int .i64 (prodErr a b : Nat)] 35) := ⟨_, rfl⟩
        rw [← hww3]
        have hB3 : Hid (Below w2.heap.size w2 w3) := by show Below _ _ _; rw [hww3]; exact ba _ _
        have bxw_g : Hid (w3.heap[w2.heap.size]? = some (.cells #[.slice A2 (prodE a b).length c2, .int .i64 (prodErr a b : Nat)] 35 (0, 0))) := by show _ = _; rw [hww3]; exact heap_alloc_new _ _
        have bxw_lt : w2.heap.size < w3.heap.size := by rw [hww3]; simp
        have htn := tabStep ht hB3.out
        clear ht hww3
        rename TabAt _ => ht
        have hcall := refSame ((D_ab.out.below (bstep hB2.out hB3.out) (fun _ h => h)).mono (S' := fun k => k < w3.heap.size) (fun k hk => Nat.lt_of_lt_of_le hk (bstep hB2.out hB3.out).size)) ((D_wt.out.below hB3.out (fun _ h => h)).mono (S' := fun k => k < w3.heap.size) (fun k hk => Nat.lt_of_lt_of_le hk hB3.out.size))
        have Hcall := Lib.hid hcall
        clear hcall
        refine Hcall.out.mono ?_
        rintro e w4 ⟨rfl, hd⟩
        have hB4 : Hid (Below w3.heap.size w3 w4) := hd.below _
        have htn := tabStep ht hB4.out
        clear ht
        rename TabAt _ => ht
        clear Hcall
        clear hd
        simp only [decide_true]
        go_wp2_with fail
        have hcall := matProduct (D_b.out.below (bstep hB1.out (bstep hB2.out (bstep hB3.out hB4.out))) (fun _ h => h)) (D_c.out.below (bstep hB1.out (bstep hB2.out (bstep hB3.out hB4.out))) (fun _ h => h)) (fun k hk => Nat.lt_of_lt_of_le hk (bstep hB1.out (bstep hB2.out (bstep hB3.out hB4.out))).size) (fun k hk => Nat.lt_of_lt_of_le hk (bstep hB1.out (bstep hB2.out (bstep hB3.out hB4.out))).size) ht
        have Hcall := Lib.hid hcall
        clear hcall
        refine Hcall.out.mono ?_
        rintro e w5 ⟨A5, c5, rfl, h1a, hbb⟩
        have hB5 : Hid (Below w4.heap.size w4 w5) := hbb
        have htn := tabStep ht hB5.out
        clear ht
        rename TabAt _ => ht
        clear Hcall
        have D_bc : Hid (Rows8 (fun k => k < w5.heap.size) w5 A5 c5 (prodE b c)) := h1a.mono (fun k hk => hk.2)
        clear h1a hbb
        by_cases he : prodErr a b = 0
        · have t1 : ((prodErr a b : Int) != 0) = false := by rw [he]; rfl
          by_cases hf : prodErr b c = 0
          · have t2 : ((prodErr b c : Int) != 0) = false := by rw [hf]; rfl
            by_cases ka : cols a = 0
            · have t3 : ((cols a : Int) == 0) = true := by rw [ka]; rfl
              clear ka he hf
              go_wp2_with fail
              have hcall := refColumns (D_a.out.below (bstep hB1.out (bstep hB2.out (bstep hB3.out (bstep hB4.out hB5.out)))) (fun _ h => h))
              have Hcall := Lib.hid hcall
              clear hcall
              refine Hcall.out.mono ?_
              rintro e wq ⟨rfl, hwq⟩
              obtain rfl : w5 = wq := hwq.symm
              clear Hcall
              go_wp2_with fail
              have hcall := lawSanity ht
              have Hcall := Lib.hid hcall
              clear hcall
              refine Hcall.out.mono ?_
              rintro e w6 ⟨rfl, hbb⟩
              have hB6 : Hid (Below w5.heap.size w5 w6) := hbb
              have htn := tabStep ht hB6.out
              clear ht
              rename TabAt _ => ht
              clear Hcall
              clear hbb
              go_wp2_with fail
              go_ret
              exact ⟨rfl, (bstep hB1.out (bstep hB2.out (bstep hB3.out (bstep hB4.out (bstep hB5.out hB6.out)))))⟩
            · have t3 : ((cols a : Int) == 0) = false := by rw [beq_eq_false_iff_ne]; omega
              by_cases kb : cols b = 0
              · have t4 : ((cols b : Int) == 0) = true := by rw [kb]; rfl
                clear kb ka he hf
                go_wp2_with fail
                have hcall := refColumns (D_a.out.below (bstep hB1.out (bstep hB2.out (bstep hB3.out (bstep hB4.out hB5.out)))) (fun _ h => h))
                have Hcall := Lib.hid hcall
                clear hcall
                refine Hcall.out.mono ?_
                rintro e wq ⟨rfl, hwq⟩
                obtain rfl : w5 = wq := hwq.symm
                clear Hcall
                go_wp2_with fail
                have hcall := refColumns (D_b.out.below (bstep hB1.out (bstep hB2.out (bstep hB3.out (bstep hB4.out hB5.out)))) (fun _ h => h))
                have Hcall := Lib.hid hcall
                clear hcall
                refine Hcall.out.mono ?_
                rintro e wq ⟨rfl, hwq⟩
                obtain rfl : w5 = wq := hwq.symm
                clear Hcall
                go_wp2_with fail
                have hcall := lawSanity ht
                have Hcall := Lib.hid hcall
                clear hcall
                refine Hcall.out.mono ?_
                rintro e w6 ⟨rfl, hbb⟩
                have hB6 : Hid (Below w5.heap.size w5 w6) := hbb
                have htn := tabStep ht hB6.out
                clear ht
                rename TabAt _ => ht
                clear Hcall
                clear hbb
                go_wp2_with fail
                go_ret
                exact ⟨rfl, (bstep hB1.out (bstep hB2.out (bstep hB3.out (bstep hB4.out (bstep hB5.out hB6.out)))))⟩
              · have t4 : ((cols b : Int) == 0) = false := by rw [beq_eq_false_iff_ne]; omega
                by_cases kc : cols c = 0
                · have t5 : ((cols c : Int) == 0) = true := by rw [kc]; rfl
                  clear kc ka kb he hf
                  go_wp2_with fail
                  have hcall := refColumns (D_a.out.below (bstep hB1.out (bstep hB2.out (bstep hB3.out (bstep hB4.out hB5.out)))) (fun _ h => h))
                  have Hcall := Lib.hid hcall
                  clear hcall
                  refine Hcall.out.mono ?_
                  rintro e wq ⟨rfl, hwq⟩
                  obtain rfl : w5 = wq := hwq.symm
                  clear Hcall
                  go_wp2_with fail
                  have hcall := refColumns (D_b.out.below (bstep hB1.out (bstep hB2.out (bstep hB3.out (bstep hB4.out hB5.out)))) (fun _ h => h))
                  have Hcall := Lib.hid hcall
                  clear hcall
                  refine Hcall.out.mono ?_
                  rintro e wq ⟨rfl, hwq⟩
                  obtain rfl : w5 = wq := hwq.symm
                  clear Hcall
                  go_wp2_with fail
                  have hcall := refColumns (D_c.out.below (bstep hB1.out (bstep hB2.out (bstep hB3.out (bstep hB4.out hB5.out)))) (fun _ h => h))
                  have Hcall := Lib.hid hcall
                  clear hcall
                  refine Hcall.out.mono ?_
                  rintro e wq ⟨rfl, hwq⟩
                  obtain rfl : w5 = wq := hwq.symm
                  clear Hcall
                  go_wp2_with fail
                  have hcall := lawSanity ht
                  have Hcall := Lib.hid hcall
                  clear hcall
                  refine Hcall.out.mono ?_
                  rintro e w6 ⟨rfl, hbb⟩
                  have hB6 : Hid (Below w5.heap.size w5 w6) := hbb
                  have htn := tabStep ht hB6.out
                  clear ht
                  rename TabAt _ => ht
                  clear Hcall
                  clear hbb
                  go_wp2_with fail
                  go_ret
                  exact ⟨rfl, (bstep hB1.out (bstep hB2.out (bstep hB3.out (bstep hB4.out (bstep hB5.out hB6.out)))))⟩
                · have t5 : ((cols c : Int) == 0) = false := by rw [beq_eq_false_iff_ne]; omega
                  have L := law3 he hf ka kb kc
                  have va := mchk_valid.2 (prodErr_parts he).1
                  have vb := mchk_valid.2 (prodErr_parts he).2.1
                  have vp := mchk_valid.2 (prodE_valid he)
                  have T1 : Hid ((if mchk a = 0 then transpose a else []) = transpose a) := if_pos va
                  have T2 : Hid ((if mchk b = 0 then transpose b else []) = transpose b) := if_pos vb
                  have T3 : Hid ((if mchk (prodE a b) = 0 then transpose (prodE a b) else []) = transpose (prodE a b)) := if_pos vp
                  have Vp := Lib.hid vp
                  have L1 := Lib.hid L.1
                  have L2 := Lib.hid L.2.1
                  have L3 : Hid (decide (prodE (prodE a b) c = prodE a (prodE b c)) = true) := decide_eq_true L.2.2.1
                  have L4 := Lib.hid L.2.2.2.1
                  have L5 : Hid (decide (transpose (prodE a b) = prodE (transpose b) (transpose a)) = true) := decide_eq_true L.2.2.2.2
                  clear L va vb vp he hf ka kb kc
                  go_wp2_with fail
                  have hcall := refColumns (D_a.out.below (bstep hB1.out (bstep hB2.out (bstep hB3.out (bstep hB4.out hB5.out)))) (fun _ h => h))
                  have Hcall := Lib.hid hcall
                  clear hcall
                  refine Hcall.out.mono ?_
                  rintro e wq ⟨rfl, hwq⟩
                  obtain rfl : w5 = wq := hwq.symm
                  clear Hcall
                  go_wp2_with fail
                  have hcall := refColumns (D_b.out.below (bstep hB1.out (bstep hB2.out (bstep hB3.out (bstep hB4.out hB5.out)))) (fun _ h => h))
                  have Hcall := Lib.hid hcall
                  clear hcall
                  refine Hcall.out.mono ?_
                  rintro e wq ⟨rfl, hwq⟩
                  obtain rfl : w5 = wq := hwq.symm
                  clear Hcall
                  go_wp2_with fail
                  have hcall := refColumns (D_c.out.below (bstep hB1.out (bstep hB2.out (bstep hB3.out (bstep hB4.out hB5.out)))) (fun _ h => h))
                  have Hcall := Lib.hid hcall
                  clear hcall
                  refine Hcall.out.mono ?_
                  rintro e wq ⟨rfl, hwq⟩
                  obtain rfl : w5 = wq := hwq.symm
                  clear Hcall
                  go_wp2_with fail
                  have hcall := matProduct (D_ab.out.below (bstep hB2.out (bstep hB3.out (bstep hB4.out hB5.out))) (fun _ h => h)) (D_c.out.below (bstep hB1.out (bstep hB2.out (bstep hB3.out (bstep hB4.out hB5.out)))) (fun _ h => h)) (fun k hk => Nat.lt_of_lt_of_le hk (bstep hB2.out (bstep hB3.out (bstep hB4.out hB5.out))).size) (fun k hk => Nat.lt_of_lt_of_le hk (bstep hB1.out (bstep hB2.out (bstep hB3.out (bstep hB4.out hB5.out)))).size) ht
                  rw [L1.out] at hcall
                  have Hcall := Lib.hid hcall
                  clear hcall
                  refine Hcall.out.mono ?_
                  rintro e w6 ⟨A6, c6, rfl, h1a, hbb⟩
                  have hB6 : Hid (Below w5.heap.size w5 w6) := hbb
                  have htn := tabStep ht hB6.out
                  clear ht
                  rename TabAt _ => ht
                  clear Hcall
                  have D_left : Hid (Rows8 (fun k => k < w6.heap.size) w6 A6 c6 (prodE (prodE a b) c)) := h1a.mono (fun k hk => hk.2)
                  clear h1a hbb
                  go_wp2_with fail
                  have hcall := matProduct (D_a.out.below (bstep hB1.out (bstep hB2.out (bstep hB3.out (bstep hB4.out (bstep hB5.out hB6.out))))) (fun _ h => h)) (D_bc.out.below hB6.out (fun _ h => h)) (fun k hk => Nat.lt_of_lt_of_le hk (bstep hB1.out (bstep hB2.out (bstep hB3.out (bstep hB4.out (bstep hB5.out hB6.out))))).size) (fun k hk => Nat.lt_of_lt_of_le hk hB6.out.size) ht
                  rw [L2.out] at hcall
                  have Hcall := Lib.hid hcall
                  clear hcall
                  refine Hcall.out.mono ?_
                  rintro e w7 ⟨A7, c7, rfl, h1a, hbb⟩
                  have hB7 : Hid (Below w6.heap.size w6 w7) := hbb
                  have htn := tabStep ht hB7.out
                  clear ht
                  rename TabAt _ => ht
                  clear Hcall
                  have D_right : Hid (Rows8 (fun k => k < w7.heap.size) w7 A7 c7 (prodE a (prodE b c))) := h1a.mono (fun k hk => hk.2)
                  clear h1a hbb
                  go_wp2_with fail
                  have hcall := matTranspose (D_a.out.below (bstep hB1.out (bstep hB2.out (bstep hB3.out (bstep hB4.out (bstep hB5.out (bstep hB6.out hB7.out)))))) (fun _ h => h)) (fun k hk => Nat.lt_of_lt_of_le hk (bstep hB1.out (bstep hB2.out (bstep hB3.out (bstep hB4.out (bstep hB5.out (bstep hB6.out hB7.out)))))).size)
                  rw [T1.out] at hcall
                  have Hcall := Lib.hid hcall
                  clear hcall
                  refine Hcall.out.mono ?_
                  rintro e w8 ⟨A8, c8, rfl, h1a, hbb⟩
                  have hB8 : Hid (Below w7.heap.size w7 w8) := hbb
                  have htn := tabStep ht hB8.out
                  clear ht
                  rename TabAt _ => ht
                  clear Hcall
                  have D_ta : Hid (Rows8 (fun k => k < w8.heap.size) w8 A8 c8 (transpose a)) := h1a.mono (fun k hk => hk.2)
                  clear h1a hbb
                  go_wp2_with fail
                  have hcall := matTranspose (D_b.out.below (bstep hB1.out (bstep hB2.out (bstep hB3.out (bstep hB4.out (bstep hB5.out (bstep hB6.out (bstep hB7.out hB8.out))))))) (fun _ h => h)) (fun k hk => Nat.lt_of_lt_of_le hk (bstep hB1.out (bstep hB2.out (bstep hB3.out (bstep hB4.out (bstep hB5.out (bstep hB6.out (bstep hB7.out hB8.out))))))).size)
                  rw [T2.out] at hcall
                  have Hcall := Lib.hid hcall
                  clear hcall
                  refine Hcall.out.mono ?_
                  rintro e w9 ⟨A9, c9, rfl, h1a, hbb⟩
                  have hB9 : Hid (Below w8.heap.size w8 w9) := hbb
                  have htn := tabStep ht hB9.out
                  clear ht
                  rename TabAt _ => ht
                  clear Hcall
                  have D_tb : Hid (Rows8 (fun k => k < w9.heap.size) w9 A9 c9 (transpose b)) := h1a.mono (fun k hk => hk.2)
                  clear h1a hbb
                  go_wp2_with fail
                  have hcall := matTranspose (D_ab.out.below (bstep hB2.out (bstep hB3.out (bstep hB4.out (bstep hB5.out (bstep hB6.out (bstep hB7.out (bstep hB8.out hB9.out))))))) (fun _ h => h)) (fun k hk => Nat.lt_of_lt_of_le hk (bstep hB2.out (bstep hB3.out (bstep hB4.out (bstep hB5.out (bstep hB6.out (bstep hB7.out (bstep hB8.out hB9.out))))))).size)
                  rw [T3.out, Vp.out] at hcall
                  have Hcall := Lib.hid hcall
                  clear hcall
                  refine Hcall.out.mono ?_
                  rintro e w10 ⟨A10, c10, rfl, h1a, hbb⟩
                  have hB10 : Hid (Below w9.heap.size w9 w10) := hbb
                  have htn := tabStep ht hB10.out
                  clear ht
                  rename TabAt _ => ht
                  clear Hcall
                  have D_tab : Hid (Rows8 (fun k => k < w10.heap.size) w10 A10 c10 (transpose (prodE a b))) := h1a.mono (fun k hk => hk.2)
                  clear h1a hbb
                  go_wp2_with fail
                  have hcall := matProduct (D_tb.out.below hB10.out (fun _ h => h)) (D_ta.out.below (bstep hB9.out hB10.out) (fun _ h => h)) (fun k hk => Nat.lt_of_lt_of_le hk hB10.out.size) (fun k hk => Nat.lt_of_lt_of_le hk (bstep hB9.out hB10.out).size) ht
                  rw [L4.out] at hcall
                  have Hcall := Lib.hid hcall
                  clear hcall
                  refine Hcall.out.mono ?_
                  rintro e w11 ⟨A11, c11, rfl, h1a, hbb⟩
                  have hB11 : Hid (Below w10.heap.size w10 w11) := hbb
                  have htn := tabStep ht hB11.out
                  clear ht
                  rename TabAt _ => ht
                  clear Hcall
                  have D_oth : Hid (Rows8 (fun k => k < w11.heap.size) w11 A11 c11 (prodE (transpose b) (transpose a))) := h1a.mono (fun k hk => hk.2)
                  clear h1a hbb
                  go_wp2_with fail
                  have hcall := lawSanity ht
                  have Hcall := Lib.hid hcall
                  clear hcall
                  refine Hcall.out.mono ?_
                  rintro e w12 ⟨rfl, hbb⟩
                  have hB12 : Hid (Below w11.heap.size w11 w12) := hbb
                  have htn := tabStep ht hB12.out
                  clear ht
                  rename TabAt _ => ht
                  clear Hcall
                  clear hbb
                  go_wp2_with fail
                  have hcall := refSame ((D_left.out.below (bstep hB7.out (bstep hB8.out (bstep hB9.out (bstep hB10.out (bstep hB11.out hB12.out))))) (fun _ h => h)).mono (S' := fun k => k < w12.heap.size) (fun k hk => Nat.lt_of_lt_of_le hk (bstep hB7.out (bstep hB8.out (bstep hB9.out (bstep hB10.out (bstep hB11.out hB12.out))))).size)) ((D_right.out.below (bstep hB8.out (bstep hB9.out (bstep hB10.out (bstep hB11.out hB12.out)))) (fun _ h => h)).mono (S' := fun k => k < w12.heap.size) (fun k hk => Nat.lt_of_lt_of_le hk (bstep hB8.out (bstep hB9.out (bstep hB10.out (bstep hB11.out hB12.out)))).size))
                  have Hcall := Lib.hid hcall
                  clear hcall
                  refine Hcall.out.mono ?_
                  rintro e w13 ⟨rfl, hd⟩
                  have hB13 : Hid (Below w12.heap.size w12 w13) := hd.below _
                  have htn := tabStep ht hB13.out
                  clear ht
                  rename TabAt _ => ht
                  clear Hcall
                  clear hd
                  rw [L3.out]
                  go_wp2_with fail
                  have hcall := refSame ((D_tab.out.below (bstep hB11.out (bstep hB12.out hB13.out)) (fun _ h => h)).mono (S' := fun k => k < w13.heap.size) (fun k hk => Nat.lt_of_lt_of_le hk (bstep hB11.out (bstep hB12.out hB13.out)).size)) ((D_oth.out.below (bstep hB12.out hB13.out) (fun _ h => h)).mono (S' := fun k => k < w13.heap.size) (fun k hk => Nat.lt_of_lt_of_le hk (bstep hB12.out hB13.out).size))
                  have Hcall := Lib.hid hcall
                  clear hcall
                  refine Hcall.out.mono ?_
                  rintro e w14 ⟨rfl, hd⟩
                  have hB14 : Hid (Below w13.heap.size w13 w14) := hd.below _
                  have htn := tabStep ht hB14.out
                  clear ht
                  rename TabAt _ => ht
                  clear Hcall
                  clear hd
                  rw [L5.out]
                  go_wp2_with fail
                  go_ret
                  exact ⟨rfl, (bstep hB1.out (bstep hB2.out (bstep hB3.out (bstep hB4.out (bstep hB5.out (bstep hB6.out (bstep hB7.out (bstep hB8.out (bstep hB9.out (bstep hB10.out (bstep hB11.out (bstep hB12.out (bstep hB13.out hB14.out)))))))))))))⟩
          · have t2 : ((prodErr b c : Int) != 0) = true := by rw [bne_iff_ne]; omega
            clear hf he
            go_wp2_with fail
            have hcall := lawSanity ht
            have Hcall := Lib.hid hcall
            clear hcall
            refine Hcall.out.mono ?_
            rintro e w6 ⟨rfl, hbb⟩
            have hB6 : Hid (Below w5.heap.size w5 w6) := hbb
            have htn := tabStep ht hB6.out
            clear ht
            rename TabAt _ => ht
            clear Hcall
            clear hbb
            go_wp2_with fail
            go_ret
            exact ⟨rfl, (bstep hB1.out (bstep hB2.out (bstep hB3.out (bstep hB4.out (bstep hB5.out hB6.out)))))⟩
        · have t1 : ((prodErr a b : Int) != 0) = true := by rw [bne_iff_ne]; omega
          clear he
          go_wp2_with fail
          have hcall := lawSanity ht
          have Hcall := Lib.hid hcall
          clear hcall
          refine Hcall.out.mono ?_
          rintro e w6 ⟨rfl, hbb⟩
          have hB6 : Hid (Below w5.heap.size w5 w6) := hbb
          have htn := tabStep ht hB6.out
          clear ht
          rename TabAt _ => ht
          clear Hcall
          clear hbb
          go_wp2_with fail
          go_ret
          exact ⟨rfl, (bstep hB1.out (bstep hB2.out (bstep hB3.out (bstep hB4.out (bstep hB5.out hB6.out)))))⟩
      · have fc2 : few c 20 = false := by simpa using fc
        clear fc
        go_wp2_with fail
        have hcall := lawSanity ht
        have Hcall := Lib.hid hcall
        clear hcall
        refine Hcall.out.mono ?_
        rintro e w1 ⟨rfl, hbb⟩
        have hB1 : Hid (Below w.heap.size w w1) := hbb
        have htn := tabStep ht hB1.out
        clear ht
        rename TabAt _ => ht
        clear Hcall
        clear hbb
        go_wp2_with fail
        go_ret
        exact ⟨rfl, hB1.out⟩
    · have fb2 : few b 20 = false := by simpa using fb
      clear fb
      go_wp2_with fail
      have hcall := lawSanity ht
      have Hcall := Lib.hid hcall
      clear hcall
      refine Hcall.out.mono ?_
      rintro e w1 ⟨rfl, hbb⟩
      have hB1 : Hid (Below w.heap.size w w1) := hbb
      have htn := tabStep ht hB1.out
      clear ht
      rename TabAt _ => ht
      clear Hcall
      clear hbb
      go_wp2_with fail
      go_ret
      exact ⟨rfl, hB1.out⟩
  · have fa2 : few a 20 = false := by simpa using fa
    clear fa
    go_wp2_with fail
    have hcall := lawSanity ht
    have Hcall := Lib.hid hcall
    clear hcall
    refine Hcall.out.mono ?_
    rintro e w1 ⟨rfl, hbb⟩
    have hB1 : Hid (Below w.heap.size w w1) := hbb
    have htn := tabStep ht hB1.out
    clear ht
    rename TabAt _ => ht
    clear Hcall
    clear hbb
    go_wp2_with fail
    go_ret
    exact ⟨rfl, hB1.out⟩
end Go.Proofs.YtokclgjkdpjjfaaDoor
