/-
  The walk of the fifth statement of chapter 05.
-/
import Derived.Test.YtokclgjkdpjjfaaDoorX1
import Derived.Test.YtokclgjkdpjjfaaDoorPl
namespace Go.Proofs.YtokclgjkdpjjfaaDoor
open Go.RowKit Go.Q
variable {w : World} {S S' S'' : Reg} {A A' A'' : Option Addr} {cap cap' cap'' : Nat}

set_option maxRecDepth 100000 in
set_option maxHeartbeats 4000000 in
theorem lawInverts {a b : List (List UInt8)} (ha : Rows8 S w A cap a) (hb : Rows8 S' w A' cap' b) (hina : In S w) (hinb : In S' w) (ht : TabAt w) : Calls Tryd.prog 7 #[.slice A a.length cap, .slice A' b.length cap'] w (GiveBool w true) := by
  have hla := ha.len
  have D_a : Hid (Rows8 (fun k => k < w.heap.size) w A cap a) := ha.mono hina
  have hlb := hb.len
  have D_b : Hid (Rows8 (fun k => k < w.heap.size) w A' cap' b) := hb.mono hinb
  clear ha hb hina hinb
  go_enter Tryd.func7, Tryd.ntmps7
  go_wp2_with fail
  have hcall := refFew 16 (by omega) D_a.out
  have Hcall := Lib.hid hcall
  clear hcall
  refine Hcall.out.mono ?_
  rintro e wq ⟨rfl, hwq⟩
  obtain rfl : w = wq := hwq.symm
  clear Hcall
  by_cases fa : few a 16 = true
  · go_wp2_with fail
    have hcall := refCheck D_a.out
    have Hcall := Lib.hid hcall
    clear hcall
    refine Hcall.out.mono ?_
    rintro e w1 ⟨rfl, hd⟩
    have hB1 : Hid (Below w.heap.size w w1) := hd.below _
    have htn := tabStep ht hB1.out
    clear ht
    rename TabAt _ => ht
    clear Hcall
    clear hd
    by_cases ka : mchk a = 0
    · have qa : ((mchk a : Int) != 0) = false := by rw [ka]; rfl
      by_cases hsq : cols a = a.length
      · have s1 : ((cols a : Int) != (a.length : Int)) = false := by rw [hsq]; simp
        have hv := mchk_valid.1 ka
        have h48 := hv.rows
        have Hrk : Hid ((reduceE a).2.length = rk a) := rank_rk hv
        have Hk : Hid (mchk a = 0) := ka
        have hie := inverseErr_ok hv hsq
        go_wp2_with fail
        have hcall := refColumns (D_a.out.below hB1.out (fun _ h => h))
        have Hcall := Lib.hid hcall
        clear hcall
        refine Hcall.out.mono ?_
        rintro e wq ⟨rfl, hwq⟩
        obtain rfl : w1 = wq := hwq.symm
        clear Hcall
        go_wp2_with fail
        by_cases hi : inverseErr a = 0
        · have hrk : rk a = a.length := Decidable.byContradiction fun h => by rw [hie, if_neg h] at hi; cases hi
          have r1 : ((rk a : Int) == (a.length : Int)) = true := by rw [hrk]; simp
          have L := law5 hv hsq hi
          have Hi := Lib.hid hi
          have Hv := Lib.hid hv
          have Hsq := Lib.hid hsq
          have Lv := Lib.hid L.valid
          have L1 := Lib.hid L.err1
          have L2 := Lib.hid L.err2
          have L3 : Hid (decide (prodE (inverseE a) a = identity a.length) = true) := decide_eq_true L.left
          have L4 : Hid (decide (prodE a (inverseE a) = identity a.length) = true) := decide_eq_true L.right
          clear L hrk hie hi hv hsq ka
          have hcall := matInverse (D_a.out.below hB1.out (fun _ h => h)) (fun k hk => Nat.lt_of_lt_of_le hk hB1.out.size) ht (fun _ _ => inv_full _)
          rw [Hi.out] at hcall
          have Hcall := Lib.hid hcall
          clear hcall
          refine Hcall.out.mono ?_
          rintro e w2 ⟨A3, cA3, rfl, h1a, hbb⟩
          have hB2 : Hid (Below w1.heap.size w1 w2) := hbb
          have htn := tabStep ht hB2.out
          clear ht
          rename TabAt _ => ht
          clear Hcall
          have D_iv : Hid (Rows8 (fun k => k < w2.heap.size) w2 A3 cA3 (inverseE a)) := h1a.mono (fun k hk => hk.2)
          clear h1a hbb
          go_wp2_with fail
          have hcall := matRank (D_a.out.below (bstep hB1.out hB2.out) (fun _ h => h)) (fun k hk => Nat.lt_of_lt_of_le hk (bstep hB1.out hB2.out).size) ht
          rw [Hrk.out, Hk.out] at hcall
          have Hcall := Lib.hid hcall
          clear hcall
          refine Hcall.out.mono ?_
          rintro e w3 ⟨rfl, hbb⟩
          have hB3 : Hid (Below w2.heap.size w2 w3) := hbb
          have htn := tabStep ht hB3.out
          clear ht
          rename TabAt _ => ht
          clear Hcall
          clear hbb
          go_wp2_with fail
          have hcall := refIdentity (w := w3) a.length (by omega)
          have Hcall := Lib.hid hcall
          clear hcall
          refine Hcall.out.mono ?_
          rintro e w4 ⟨A5, c5, rfl, h1a, hbb⟩
          have hB4 : Hid (Below w3.heap.size w3 w4) := hbb
          have htn := tabStep ht hB4.out
          clear ht
          rename TabAt _ => ht
          clear Hcall
          have D_one : Hid (Rows8 (fun k => k < w4.heap.size) w4 A5 c5 (identity a.length)) := h1a.mono (fun k hk => hk.2)
          clear h1a hbb
          go_wp2_with fail
          have hcall := matProduct (D_iv.out.below (bstep hB3.out hB4.out) (fun _ h => h)) (D_a.out.below (bstep hB1.out (bstep hB2.out (bstep hB3.out hB4.out))) (fun _ h => h)) (fun k hk => Nat.lt_of_lt_of_le hk (bstep hB3.out hB4.out).size) (fun k hk => Nat.lt_of_lt_of_le hk (bstep hB1.out (bstep hB2.out (bstep hB3.out hB4.out))).size) ht
          rw [L1.out] at hcall
          have Hcall := Lib.hid hcall
          clear hcall
          refine Hcall.out.mono ?_
          rintro e w5 ⟨A6, cA6, rfl, h1a, hbb⟩
          have hB5 : Hid (Below w4.heap.size w4 w5) := hbb
          have htn := tabStep ht hB5.out
          clear ht
          rename TabAt _ => ht
          clear Hcall
          have D_left : Hid (Rows8 (fun k => k < w5.heap.size) w5 A6 cA6 (prodE (inverseE a) a)) := h1a.mono (fun k hk => hk.2)
          clear h1a hbb
          go_wp2_with fail
          have hcall := matProduct (D_a.out.below (bstep hB1.out (bstep hB2.out (bstep hB3.out (bstep hB4.out hB5.out)))) (fun _ h => h)) (D_iv.out.below (bstep hB3.out (bstep hB4.out hB5.out)) (fun _ h => h)) (fun k hk => Nat.lt_of_lt_of_le hk (bstep hB1.out (bstep hB2.out (bstep hB3.out (bstep hB4.out hB5.out)))).size) (fun k hk => Nat.lt_of_lt_of_le hk (bstep hB3.out (bstep hB4.out hB5.out)).size) ht
          rw [L2.out] at hcall
          have Hcall := Lib.hid hcall
          clear hcall
          refine Hcall.out.mono ?_
          rintro e w6 ⟨A7, cA7, rfl, h1a, hbb⟩
          have hB6 : Hid (Below w5.heap.size w5 w6) := hbb
          have htn := tabStep ht hB6.out
          clear ht
          rename TabAt _ => ht
          clear Hcall
          have D_right : Hid (Rows8 (fun k => k < w6.heap.size) w6 A7 cA7 (prodE a (inverseE a))) := h1a.mono (fun k hk => hk.2)
          clear h1a hbb
          go_wp2_with fail
          have hcall := refSame ((D_left.out.below hB6.out (fun _ h => h)).mono (S' := fun k => k < w6.heap.size) (fun k hk => Nat.lt_of_lt_of_le hk hB6.out.size)) ((D_one.out.below (bstep hB5.out hB6.out) (fun _ h => h)).mono (S' := fun k => k < w6.heap.size) (fun k hk => Nat.lt_of_lt_of_le hk (bstep hB5.out hB6.out).size))
          have Hcall := Lib.hid hcall
          clear hcall
          refine Hcall.out.mono ?_
          rintro e w7 ⟨rfl, hd⟩
          have hB7 : Hid (Below w6.heap.size w6 w7) := hd.below _
          have htn := tabStep ht hB7.out
          clear ht
          rename TabAt _ => ht
          clear Hcall
          clear hd
          rw [L3.out]
          go_wp2_with fail
          have hcall := refSame ((D_right.out.below hB7.out (fun _ h => h)).mono (S' := fun k => k < w7.heap.size) (fun k hk => Nat.lt_of_lt_of_le hk hB7.out.size)) ((D_one.out.below (bstep hB5.out (bstep hB6.out hB7.out)) (fun _ h => h)).mono (S' := fun k => k < w7.heap.size) (fun k hk => Nat.lt_of_lt_of_le hk (bstep hB5.out (bstep hB6.out hB7.out)).size))
          have Hcall := Lib.hid hcall
          clear hcall
          refine Hcall.out.mono ?_
          rintro e w8 ⟨rfl, hd⟩
          have hB8 : Hid (Below w7.heap.size w7 w8) := hd.below _
          have htn := tabStep ht hB8.out
          clear ht
          rename TabAt _ => ht
          clear Hcall
          clear hd
          rw [L4.out]
          go_wp2_with fail
          have hcall := refFew 16 (by omega) (D_b.out.below (bstep hB1.out (bstep hB2.out (bstep hB3.out (bstep hB4.out (bstep hB5.out (bstep hB6.out (bstep hB7.out hB8.out))))))) (fun _ h => h))
          have Hcall := Lib.hid hcall
          clear hcall
          refine Hcall.out.mono ?_
          rintro e wq ⟨rfl, hwq⟩
          obtain rfl : w8 = wq := hwq.symm
          clear Hcall
          by_cases fb : few b 16 = true
          · go_wp2_with fail
            have hcall := refCheck (D_b.out.below (bstep hB1.out (bstep hB2.out (bstep hB3.out (bstep hB4.out (bstep hB5.out (bstep hB6.out (bstep hB7.out hB8.out))))))) (fun _ h => h))
            have Hcall := Lib.hid hcall
            clear hcall
            refine Hcall.out.mono ?_
            rintro e w9 ⟨rfl, hd⟩
            have hB9 : Hid (Below w8.heap.size w8 w9) := hd.below _
            have htn := tabStep ht hB9.out
            clear ht
            rename TabAt _ => ht
            clear Hcall
            clear hd
            by_cases kb : mchk b = 0
            · have qb : ((mchk b : Int) != 0) = false := by rw [kb]; rfl
              by_cases hbl : b.length = a.length
              · have s2 : ((b.length : Int) != (a.length : Int)) = false := by rw [hbl]; simp
                have Hbl := Lib.hid hbl
                clear hbl
                go_wp2_with fail
                have hcall := refColumns (D_b.out.below (bstep hB1.out (bstep hB2.out (bstep hB3.out (bstep hB4.out (bstep hB5.out (bstep hB6.out (bstep hB7.out (bstep hB8.out hB9.out)))))))) (fun _ h => h))
                have Hcall := Lib.hid hcall
                clear hcall
                refine Hcall.out.mono ?_
                rintro e wq ⟨rfl, hwq⟩
                obtain rfl : w9 = wq := hwq.symm
                clear Hcall
                by_cases hcb : cols b = a.length
                · have s3 : ((cols b : Int) != (a.length : Int)) = false := by rw [hcb]; simp
                  have L := law5b Hv.out Hsq.out Hi.out (mchk_valid.1 kb) Hbl.out hcb
                  have M1 := Lib.hid L.err
                  have Mv := Lib.hid (mchk_valid.2 L.vab)
                  have Miff := Lib.hid L.iff_
                  have Mp := Lib.hid L.perr
                  have Mb := Lib.hid L.both
                  have Vb := Lib.hid (mchk_valid.1 kb)
                  have e8b := Lib.hid (inverseErr_08 (mchk_valid.1 kb) (show cols b = b.length by rw [hcb, Hbl.out]))
                  have hab8 : Hid (inverseErr (prodE a b) = 0 ∨ inverseErr (prodE a b) = 8) := by
                    refine inverseErr_08 L.vab ?_
                    have hlp : (prodE a b).length = a.length := prodE_length L.err
                    rw [hlp]
                    exact sq_cols (by have := prodE_rect L.err; rw [hcb] at this; exact this) hlp
                  clear L hcb kb
                  go_wp2_with fail
                  have hcall := matProduct (D_a.out.below (bstep hB1.out (bstep hB2.out (bstep hB3.out (bstep hB4.out (bstep hB5.out (bstep hB6.out (bstep hB7.out (bstep hB8.out hB9.out)))))))) (fun _ h => h)) (D_b.out.below (bstep hB1.out (bstep hB2.out (bstep hB3.out (bstep hB4.out (bstep hB5.out (bstep hB6.out (bstep hB7.out (bstep hB8.out hB9.out)))))))) (fun _ h => h)) (fun k hk => Nat.lt_of_lt_of_le hk (bstep hB1.out (bstep hB2.out (bstep hB3.out (bstep hB4.out (bstep hB5.out (bstep hB6.out (bstep hB7.out (bstep hB8.out hB9.out)))))))).size) (fun k hk => Nat.lt_of_lt_of_le hk (bstep hB1.out (bstep hB2.out (bstep hB3.out (bstep hB4.out (bstep hB5.out (bstep hB6.out (bstep hB7.out (bstep hB8.out hB9.out)))))))).size) ht
                  rw [M1.out] at hcall
                  have Hcall := Lib.hid hcall
                  clear hcall
                  refine Hcall.out.mono ?_
                  rintro e w10 ⟨A10, cA10, rfl, h1a, hbb⟩
                  have hB10 : Hid (Below w9.heap.size w9 w10) := hbb
                  have htn := tabStep ht hB10.out
                  clear ht
                  rename TabAt _ => ht
                  clear Hcall
                  have D_ab : Hid (Rows8 (fun k => k < w10.heap.size) w10 A10 cA10 (prodE a b)) := h1a.mono (fun k hk => hk.2)
                  clear h1a hbb
                  go_wp2_with fail
                  by_cases hb0 : inverseErr b = 0
                  · have e1 := Lib.hid hb0
                    have e2 := Lib.hid (Miff.out.2 hb0)
                    have e3 := Lib.hid (Mp.out hb0)
                    have e4 : Hid (decide (inverseE (prodE a b) = prodE (inverseE b) (inverseE a)) = true) := decide_eq_true (Mb.out hb0)
                    clear hb0
                    have hcall := matInverse (D_b.out.below (bstep hB1.out (bstep hB2.out (bstep hB3.out (bstep hB4.out (bstep hB5.out (bstep hB6.out (bstep hB7.out (bstep hB8.out (bstep hB9.out hB10.out))))))))) (fun _ h => h)) (fun k hk => Nat.lt_of_lt_of_le hk (bstep hB1.out (bstep hB2.out (bstep hB3.out (bstep hB4.out (bstep hB5.out (bstep hB6.out (bstep hB7.out (bstep hB8.out (bstep hB9.out hB10.out))))))))).size) ht (fun _ _ => inv_full _)
                    rw [e1.out] at hcall
                    have Hcall := Lib.hid hcall
                    clear hcall
                    refine Hcall.out.mono ?_
                    rintro e w11 ⟨A11, cA11, rfl, h1a, hbb⟩
                    have hB11 : Hid (Below w10.heap.size w10 w11) := hbb
                    have htn := tabStep ht hB11.out
                    clear ht
                    rename TabAt _ => ht
                    clear Hcall
                    have D_ib : Hid (Rows8 (fun k => k < w11.heap.size) w11 A11 cA11 (inverseE b)) := h1a.mono (fun k hk => hk.2)
                    clear h1a hbb
                    go_wp2_with fail
                    have hcall := matInverse (D_ab.out.below hB11.out (fun _ h => h)) (fun k hk => Nat.lt_of_lt_of_le hk hB11.out.size) ht (fun _ _ => inv_full _)
                    rw [e2.out] at hcall
                    have Hcall := Lib.hid hcall
                    clear hcall
                    refine Hcall.out.mono ?_
                    rintro e w12 ⟨A12, cA12, rfl, h1a, hbb⟩
                    have hB12 : Hid (Below w11.heap.size w11 w12) := hbb
                    have htn := tabStep ht hB12.out
                    clear ht
                    rename TabAt _ => ht
                    clear Hcall
                    have D_iab : Hid (Rows8 (fun k => k < w12.heap.size) w12 A12 cA12 (inverseE (prodE a b))) := h1a.mono (fun k hk => hk.2)
                    clear h1a hbb
                    go_wp2_with fail
                    have hcall := matProduct (D_ib.out.below hB12.out (fun _ h => h)) (D_iv.out.below (bstep hB3.out (bstep hB4.out (bstep hB5.out (bstep hB6.out (bstep hB7.out (bstep hB8.out (bstep hB9.out (bstep hB10.out (bstep hB11.out hB12.out))))))))) (fun _ h => h)) (fun k hk => Nat.lt_of_lt_of_le hk hB12.out.size) (fun k hk => Nat.lt_of_lt_of_le hk (bstep hB3.out (bstep hB4.out (bstep hB5.out (bstep hB6.out (bstep hB7.out (bstep hB8.out (bstep hB9.out (bstep hB10.out (bstep hB11.out hB12.out))))))))).size) ht
                    rw [e3.out] at hcall
                    have Hcall := Lib.hid hcall
                    clear hcall
                    refine Hcall.out.mono ?_
                    rintro e w13 ⟨A13, cA13, rfl, h1a, hbb⟩
                    have hB13 : Hid (Below w12.heap.size w12 w13) := hbb
                    have htn := tabStep ht hB13.out
                    clear ht
                    rename TabAt _ => ht
                    clear Hcall
                    have D_want : Hid (Rows8 (fun k => k < w13.heap.size) w13 A13 cA13 (prodE (inverseE b) (inverseE a))) := h1a.mono (fun k hk => hk.2)
                    clear h1a hbb
                    go_wp2_with fail
                    have hcall := lawSanity ht
                    have Hcall := Lib.hid hcall
                    clear hcall
                    refine Hcall.out.mono ?_
                    rintro e w14 ⟨rfl, hbb⟩
                    have hB14 : Hid (Below w13.heap.size w13 w14) := hbb
                    have htn := tabStep ht hB14.out
                    clear ht
                    rename TabAt _ => ht
                    clear Hcall
                    clear hbb
                    go_wp2_with fail
                    have hcall := refSame ((D_iab.out.below (bstep hB13.out hB14.out) (fun _ h => h)).mono (S' := fun k => k < w14.heap.size) (fun k hk => Nat.lt_of_lt_of_le hk (bstep hB13.out hB14.out).size)) ((D_want.out.below hB14.out (fun _ h => h)).mono (S' := fun k => k < w14.heap.size) (fun k hk => Nat.lt_of_lt_of_le hk hB14.out.size))
                    have Hcall := Lib.hid hcall
                    clear hcall
                    refine Hcall.out.mono ?_
                    rintro e w15 ⟨rfl, hd⟩
                    have hB15 : Hid (Below w14.heap.size w14 w15) := hd.below _
                    have htn := tabStep ht hB15.out
                    clear ht
                    rename TabAt _ => ht
                    clear Hcall
                    clear hd
                    rw [e4.out]
                    go_wp2_with fail
                    go_ret
                    exact ⟨rfl, (bstep hB1.out (bstep hB2.out (bstep hB3.out (bstep hB4.out (bstep hB5.out (bstep hB6.out (bstep hB7.out (bstep hB8.out (bstep hB9.out (bstep hB10.out (bstep hB11.out (bstep hB12.out (bstep hB13.out (bstep hB14.out hB15.out))))))))))))))⟩
                  · have e1 : Hid (inverseErr b = 8) := e8b.out.resolve_left hb0
                    have e2 : Hid (inverseErr (prodE a b) = 8) := hab8.out.resolve_left (fun h => hb0 (Miff.out.1 h))
                    clear hb0
                    have hcall := matInverse (D_b.out.below (bstep hB1.out (bstep hB2.out (bstep hB3.out (bstep hB4.out (bstep hB5.out (bstep hB6.out (bstep hB7.out (bstep hB8.out (bstep hB9.out hB10.out))))))))) (fun _ h => h)) (fun k hk => Nat.lt_of_lt_of_le hk (bstep hB1.out (bstep hB2.out (bstep hB3.out (bstep hB4.out (bstep hB5.out (bstep hB6.out (bstep hB7.out (bstep hB8.out (bstep hB9.out hB10.out))))))))).size) ht (fun _ _ => inv_full _)
                    rw [e1.out] at hcall
                    have Hcall := Lib.hid hcall
                    clear hcall
                    refine Hcall.out.mono ?_
                    rintro e w11 ⟨A11, cA11, rfl, h1a, hbb⟩
                    have hB11 : Hid (Below w10.heap.size w10 w11) := hbb
                    have htn := tabStep ht hB11.out
                    clear ht
                    rename TabAt _ => ht
                    clear Hcall
                    have D_ib : Hid (Rows8 (fun k => k < w11.heap.size) w11 A11 cA11 (inverseE b)) := h1a.mono (fun k hk => hk.2)
                    clear h1a hbb
                    go_wp2_with fail
                    have hcall := matInverse (D_ab.out.below hB11.out (fun _ h => h)) (fun k hk => Nat.lt_of_lt_of_le hk hB11.out.size) ht (fun _ _ => inv_full _)
                    rw [e2.out] at hcall
                    have Hcall := Lib.hid hcall
                    clear hcall
                    refine Hcall.out.mono ?_
                    rintro e w12 ⟨A12, cA12, rfl, h1a, hbb⟩
                    have hB12 : Hid (Below w11.heap.size w11 w12) := hbb
                    have htn := tabStep ht hB12.out
                    clear ht
                    rename TabAt _ => ht
                    clear Hcall
                    have D_iab : Hid (Rows8 (fun k => k < w12.heap.size) w12 A12 cA12 (inverseE (prodE a b))) := h1a.mono (fun k hk => hk.2)
                    clear h1a hbb
                    go_wp2_with fail
                    have hcall := lawSanity ht
                    have Hcall := Lib.hid hcall
                    clear hcall
                    refine Hcall.out.mono ?_
                    rintro e w13 ⟨rfl, hbb⟩
                    have hB13 : Hid (Below w12.heap.size w12 w13) := hbb
                    have htn := tabStep ht hB13.out
                    clear ht
                    rename TabAt _ => ht
                    clear Hcall
                    clear hbb
                    go_wp2_with fail
                    go_ret
                    exact ⟨rfl, (bstep hB1.out (bstep hB2.out (bstep hB3.out (bstep hB4.out (bstep hB5.out (bstep hB6.out (bstep hB7.out (bstep hB8.out (bstep hB9.out (bstep hB10.out (bstep hB11.out (bstep hB12.out hB13.out))))))))))))⟩
                · have s3 : ((cols b : Int) != (a.length : Int)) = true := by rw [bne_iff_ne]; omega
                  clear hcb kb
                  go_wp2_with fail
                  have hcall := lawSanity ht
                  have Hcall := Lib.hid hcall
                  clear hcall
                  refine Hcall.out.mono ?_
                  rintro e w10 ⟨rfl, hbb⟩
                  have hB10 : Hid (Below w9.heap.size w9 w10) := hbb
                  have htn := tabStep ht hB10.out
                  clear ht
                  rename TabAt _ => ht
                  clear Hcall
                  clear hbb
                  go_wp2_with fail
                  go_ret
                  exact ⟨rfl, (bstep hB1.out (bstep hB2.out (bstep hB3.out (bstep hB4.out (bstep hB5.out (bstep hB6.out (bstep hB7.out (bstep hB8.out (bstep hB9.out hB10.out)))))))))⟩
              · have s2 : ((b.length : Int) != (a.length : Int)) = true := by rw [bne_iff_ne]; omega
                clear hbl kb
                go_wp2_with fail
                have hcall := lawSanity ht
                have Hcall := Lib.hid hcall
                clear hcall
                refine Hcall.out.mono ?_
                rintro e w10 ⟨rfl, hbb⟩
                have hB10 : Hid (Below w9.heap.size w9 w10) := hbb
                have htn := tabStep ht hB10.out
                clear ht
                rename TabAt _ => ht
                clear Hcall
                clear hbb
                go_wp2_with fail
                go_ret
                exact ⟨rfl, (bstep hB1.out (bstep hB2.out (bstep hB3.out (bstep hB4.out (bstep hB5.out (bstep hB6.out (bstep hB7.out (bstep hB8.out (bstep hB9.out hB10.out)))))))))⟩
            · have qb : ((mchk b : Int) != 0) = true := by rw [bne_iff_ne]; omega
              clear kb
              go_wp2_with fail
              have hcall := lawSanity ht
              have Hcall := Lib.hid hcall
              clear hcall
              refine Hcall.out.mono ?_
              rintro e w10 ⟨rfl, hbb⟩
              have hB10 : Hid (Below w9.heap.size w9 w10) := hbb
              have htn := tabStep ht hB10.out
              clear ht
              rename TabAt _ => ht
              clear Hcall
              clear hbb
              go_wp2_with fail
              go_ret
              exact ⟨rfl, (bstep hB1.out (bstep hB2.out (bstep hB3.out (bstep hB4.out (bstep hB5.out (bstep hB6.out (bstep hB7.out (bstep hB8.out (bstep hB9.out hB10.out)))))))))⟩
          · have fb2 : few b 16 = false := by simpa using fb
            clear fb
            go_wp2_with fail
            have hcall := lawSanity ht
            have Hcall := Lib.hid hcall
            clear hcall
            refine Hcall.out.mono ?_
            rintro e w9 ⟨rfl, hbb⟩
            have hB9 : Hid (Below w8.heap.size w8 w9) := hbb
            have htn := tabStep ht hB9.out
            clear ht
            rename TabAt _ => ht
            clear Hcall
            clear hbb
            go_wp2_with fail
            go_ret
            exact ⟨rfl, (bstep hB1.out (bstep hB2.out (bstep hB3.out (bstep hB4.out (bstep hB5.out (bstep hB6.out (bstep hB7.out (bstep hB8.out hB9.out))))))))⟩
        · have h8 : Hid (inverseErr a = 8) := (inverseErr_08 hv hsq).resolve_left hi
          have hrk : rk a ≠ a.length := fun h => by rw [hie, if_pos h] at hi; exact hi rfl
          have r1 : ((rk a : Int) == (a.length : Int)) = false := by rw [beq_eq_false_iff_ne]; omega
          have hE : Hid (inverseE a = []) := by show _ = _; unfold inverseE; rw [h8.out]; rfl
          clear hrk hie hi hv hsq ka
          have hcall := matInverse (D_a.out.below hB1.out (fun _ h => h)) (fun k hk => Nat.lt_of_lt_of_le hk hB1.out.size) ht (fun _ _ => inv_full _)
          rw [h8.out, hE.out] at hcall
          have Hcall := Lib.hid hcall
          clear hcall
          refine Hcall.out.mono ?_
          rintro e w2 ⟨A3, cA3, rfl, h1a, hbb⟩
          have hB2 : Hid (Below w1.heap.size w1 w2) := hbb
          have htn := tabStep ht hB2.out
          clear ht
          rename TabAt _ => ht
          clear Hcall
          have D_iv : Hid (Rows8 (fun k => k < w2.heap.size) w2 A3 cA3 ([])) := h1a.mono (fun k hk => hk.2)
          clear h1a hbb
          go_wp2_with fail
          have hcall := matRank (D_a.out.below (bstep hB1.out hB2.out) (fun _ h => h)) (fun k hk => Nat.lt_of_lt_of_le hk (bstep hB1.out hB2.out).size) ht
          rw [Hrk.out, Hk.out] at hcall
          have Hcall := Lib.hid hcall
          clear hcall
          refine Hcall.out.mono ?_
          rintro e w3 ⟨rfl, hbb⟩
          have hB3 : Hid (Below w2.heap.size w2 w3) := hbb
          have htn := tabStep ht hB3.out
          clear ht
          rename TabAt _ => ht
          clear Hcall
          clear hbb
          go_wp2_with fail
          have hcall := lawSanity ht
          have Hcall := Lib.hid hcall
          clear hcall
          refine Hcall.out.mono ?_
          rintro e w4 ⟨rfl, hbb⟩
          have hB4 : Hid (Below w3.heap.size w3 w4) := hbb
          have htn := tabStep ht hB4.out
          clear ht
          rename TabAt _ => ht
          clear Hcall
          clear hbb
          go_wp2_with fail
          go_ret
          exact ⟨rfl, (bstep hB1.out (bstep hB2.out (bstep hB3.out hB4.out)))⟩
      · have s1 : ((cols a : Int) != (a.length : Int)) = true := by rw [bne_iff_ne]; omega
        clear hsq ka
        go_wp2_with fail
        have hcall := refColumns (D_a.out.below hB1.out (fun _ h => h))
        have Hcall := Lib.hid hcall
        clear hcall
        refine Hcall.out.mono ?_
        rintro e wq ⟨rfl, hwq⟩
        obtain rfl : w1 = wq := hwq.symm
        clear Hcall
        go_wp2_with fail
        have hcall := lawSanity ht
        have Hcall := Lib.hid hcall
        clear hcall
        refine Hcall.out.mono ?_
        rintro e w2 ⟨rfl, hbb⟩
        have hB2 : Hid (Below w1.heap.size w1 w2) := hbb
        have htn := tabStep ht hB2.out
        clear ht
        rename TabAt _ => ht
        clear Hcall
        clear hbb
        go_wp2_with fail
        go_ret
        exact ⟨rfl, (bstep hB1.out hB2.out)⟩
    · have qa : ((mchk a : Int) != 0) = true := by rw [bne_iff_ne]; omega
      clear ka
      go_wp2_with fail
      have hcall := lawSanity ht
      have Hcall := Lib.hid hcall
      clear hcall
      refine Hcall.out.mono ?_
      rintro e w2 ⟨rfl, hbb⟩
      have hB2 : Hid (Below w1.heap.size w1 w2) := hbb
      have htn := tabStep ht hB2.out
      clear ht
      rename TabAt _ => ht
      clear Hcall
      clear hbb
      go_wp2_with fail
      go_ret
      exact ⟨rfl, (bstep hB1.out hB2.out)⟩
  · have fa2 : few a 16 = false := by simpa using fa
    clear fa
    go_wp2_with fail
    have hcall := lawSanity ht
    have Hcall := Lib.hid hcall
    clear hcall
    refine Hcall.out.mono ?_
    rintro e w1 ⟨rfl, hbb⟩
    have hB1 : Hid (Below w.heap.size w w1) := hbb
    have htn := tabStep ht hB1.out
    clear ht
    rename TabAt _ => ht
    clear Hcall
    clear hbb
    go_wp2_with fail
    go_ret
    exact ⟨rfl, hB1.out⟩
end Go.Proofs.YtokclgjkdpjjfaaDoor
