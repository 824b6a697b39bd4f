/-
  The walk of the seventh statement of chapter 05.
-/
import Derived.Test.YtokclgjkdpjjfaaDoorX1
import Derived.Test.YtokclgjkdpjjfaaDoorPl
namespace Go.Proofs.YtokclgjkdpjjfaaDoor
open Go.RowKit Go.Q
variable {w : World} {S S' S'' : Reg} {A A' A'' : Option Addr} {cap cap' cap'' : Nat}

set_option maxRecDepth 100000 in
set_option maxHeartbeats 4000000 in
theorem lawRanks {a b : List (List UInt8)} (ha : Rows8 S w A cap a) (hb : Rows8 S' w A' cap' b) (hina : In S w) (hinb : In S' w) (ht : TabAt w) : Calls Tryd.prog 9 #[.slice A a.length cap, .slice A' b.length cap'] w (GiveBool w true) := by
  obtain ⟨i43, hi43, hx0, hx1, hx2⟩ := info_parts info43
  have hla := ha.len
  have D_a : Hid (Rows8 (fun k => k < w.heap.size) w A cap a) := ha.mono hina
  have hlb := hb.len
  have D_b : Hid (Rows8 (fun k => k < w.heap.size) w A' cap' b) := hb.mono hinb
  clear ha hb hina hinb
  go_enter Tryd.func9, Tryd.ntmps9
  go_wp2_with fail
  have hcall := refFew 20 (by omega) D_a.out
  have Hcall := Lib.hid hcall
  clear hcall
  refine Hcall.out.mono ?_
  rintro e wq ⟨rfl, hwq⟩
  obtain rfl : w = wq := hwq.symm
  clear Hcall
  by_cases fa : few a 20 = true
  · go_wp2_with fail
    have hcall := refCheck D_a.out
    have Hcall := Lib.hid hcall
    clear hcall
    (with_reducible refine Hcall.out.mono ?_)
    rintro e w1 ⟨rfl, hd⟩
    have hB1 : Hid (Below w.heap.size w w1) := hd.below _
    have htn := tabStep ht hB1.out
    clear ht
    rename TabAt _ => ht
    clear Hcall
    clear hd
    by_cases ka : mchk a = 0
    · have qa : ((mchk a : Int) != 0) = false := by rw [ka]; rfl
      have hv := mchk_valid.1 ka
      have L := law7 hv
      have h48 := hv.rows
      have Hk : Hid (mchk a = 0) := ka
      have T1 : Hid ((if mchk a = 0 then transpose a else []) = transpose a) := if_pos ka
      have Hr : Hid ((reduceE a).2.length = rk a) := rank_rk hv
      have Ht : Hid ((reduceE (transpose a)).2.length = rk a) := L.rt
      have Hkt : Hid (mchk (transpose a) = 0) := mchk_valid.2 L.vt
      have Hre : Hid (reduceE a = reduceM a) := reduceE_valid hv
      have Hl1 : Hid ((reduceM a).1.length = rk a) := L.rl
      have Hl2 : Hid ((reduceM a).2.length = rk a) := rfl
      have Hkr : Hid (mchk (reduceM a).1.reverse = 0) := mchk_valid.2 L.vrev
      have Hag : Hid (reduceE (reduceM a).1.reverse = reduceM a) := L.again
      have z1 : decide (a.length < rk a) = false := by have := L.rows; simpa using this
      have z2 : decide (cols a < rk a) = false := by have := L.colsle; simpa using this
      have hrk48 : rk a ≤ 48 := by have := L.rows; omega
      have Hv := Lib.hid hv
      clear L hv ka
      go_wp2_with fail
      have hcall := matTranspose (D_a.out.below hB1.out (fun _ h => h)) (fun k hk => Nat.lt_of_lt_of_le hk hB1.out.size)
      rw [T1.out, Hk.out] at hcall
      have Hcall := Lib.hid hcall
      clear hcall
      (with_reducible refine Hcall.out.mono ?_)
      rintro e w2 ⟨A2, c2, rfl, h1a, hbb⟩
      have hB2 : Hid (Below w1.heap.size w1 w2) := hbb
      have htn := tabStep ht hB2.out
      clear ht
      rename TabAt _ => ht
      clear Hcall
      have D_t : Hid (Rows8 (fun k => k < w2.heap.size) w2 A2 c2 (transpose a)) := h1a.mono (fun k hk => hk.2)
      clear h1a hbb
      go_wp2_with fail
      have hcall := matRank (D_a.out.below (bstep hB1.out hB2.out) (fun _ h => h)) (fun k hk => Nat.lt_of_lt_of_le hk (bstep hB1.out hB2.out).size) ht
      rw [Hr.out, Hk.out] at hcall
      have Hcall := Lib.hid hcall
      clear hcall
      (with_reducible refine Hcall.out.mono ?_)
      rintro e w3 ⟨rfl, hbb⟩
      have hB3 : Hid (Below w2.heap.size w2 w3) := hbb
      have htn := tabStep ht hB3.out
      clear ht
      rename TabAt _ => ht
      clear Hcall
      clear hbb
      go_wp2_with fail
      have hcall := matRank (D_t.out.below hB3.out (fun _ h => h)) (fun k hk => Nat.lt_of_lt_of_le hk hB3.out.size) ht
      rw [Ht.out, Hkt.out] at hcall
      have Hcall := Lib.hid hcall
      clear hcall
      (with_reducible refine Hcall.out.mono ?_)
      rintro e w4 ⟨rfl, hbb⟩
      have hB4 : Hid (Below w3.heap.size w3 w4) := hbb
      have htn := tabStep ht hB4.out
      clear ht
      rename TabAt _ => ht
      clear Hcall
      clear hbb
      go_wp2_with fail
      have hcall := matReduce (D_a.out.below (bstep hB1.out (bstep hB2.out (bstep hB3.out hB4.out))) (fun _ h => h)) (fun k hk => Nat.lt_of_lt_of_le hk (bstep hB1.out (bstep hB2.out (bstep hB3.out hB4.out))).size) ht
      rw [Hre.out, Hk.out] at hcall
      have Hcall := Lib.hid hcall
      clear hcall
      (with_reducible refine Hcall.out.mono ?_)
      rintro e w5 ⟨A5, c5, B5, d5, rfl, h1a, h1b, hbb⟩
      have hB5 : Hid (Below w4.heap.size w4 w5) := hbb
      have htn := tabStep ht hB5.out
      clear ht
      rename TabAt _ => ht
      clear Hcall
      have D_r : Hid (Rows8 (fun k => k < w5.heap.size) w5 A5 c5 ((reduceM a).1)) := h1a.mono (fun k hk => hk.2)
      have D_p : Hid (Ints (fun k => k < w5.heap.size) w5 B5 d5 ((reduceM a).2)) := h1b.mono (fun k hk => hk.2)
      clear h1a h1b hbb
      rw [Hl1.out, Hl2.out]
      go_wp2_with fail
      have hcall := refColumns (D_a.out.below (bstep hB1.out (bstep hB2.out (bstep hB3.out (bstep hB4.out hB5.out)))) (fun _ h => h))
      have Hcall := Lib.hid hcall
      clear hcall
      refine Hcall.out.mono ?_
      rintro e wq ⟨rfl, hwq⟩
      obtain rfl : w5 = wq := hwq.symm
      clear Hcall
      go_wp2_with fail
      clear z1 z2
      go_loopw [14, 100] (fun vt vi wr => ∃ (k : Nat) (A6 : Option Addr) (c6 : Nat), k ≤ rk a ∧ vi = .int .i64 (k : Int) ∧ vt = .slice A6 k c6 ∧ Hid (Own (slE u8E) (fun k => k < w5.heap.size) w5.heap.size 43 wr A6 c6 ((reduceM a).1.reverse.take k)) ∧ Below w5.heap.size w5 wr) (fun _ vi _ => rk a - (intOf vi).toNat)
      case atStart => exact ⟨0, none, 0, by omega, rfl, rfl, Own.nil, Below.refl _ _⟩
      case round =>
        obtain ⟨k, A6, c6, hk, rfl, rfl, hown, hbl⟩ := hrel
        obtain ⟨wx, hwx⟩ : ∃ wx : World, wx = wr := ⟨_, rfl⟩
        subst hwx
        by_cases hlt : k < rk a
        · obtain ⟨j, hj⟩ : ∃ j, rk a = j + 1 + k := ⟨rk a - 1 - k, by omega⟩
          have hje : ((rk a : Int) - 1 - (k : Int)) = (j : Int) := by omega
          have hjr : j < rk a := by omega
          have hjl : j < (reduceM a).1.length := by rw [Hl1.out]; exact hjr
          have hM := D_r.out.below hbl (fun _ h => h)
          have hll := hM.1
          have hll2 := hM.2.1
          rw [Hl1.out] at hll
          obtain ⟨bm, om, Ar, cr, rfl, hSm, hcr, hsr⟩ := rows_get hM hjl
          have hst : Hid ((reduceM a).1.reverse.take k ++ [(reduceM a).1[j]] = (reduceM a).1.reverse.take (k + 1)) := by
            have hkl : k < (reduceM a).1.reverse.length := by rw [List.length_reverse, Hl1.out]; exact hlt
            show _ = _
            rw [take_succ _ _ hkl, List.getElem_reverse]
            have e : (reduceM a).1.length - 1 - k = j := by rw [Hl1.out]; omega
            simp only [e]
          have hlen : Hid (((reduceM a).1.reverse.take k).length = k) := by show _ = _; rw [List.length_take, List.length_reverse, Hl1.out]; omega
          have hTA : Hid (∀ a, A6 = some a → ¬ a.block < w5.heap.size) := fun a ha hk => by
            obtain ⟨g, rfl, h1, h2⟩ := hown.out.block ha
            exact absurd hk (by show ¬ g < _; omega)
          have Hsr := Lib.hid hsr
          have hszx := hbl.size
          generalize (reduceM a).1[j] = X at *
          clear hM hsr hj
          go_wp2_with (at_builtin; refine pause ?_)
          refine unpause ?_
          refine wpList_append_box (w0 := w5) rfl (.tmp 103) (.tmp 112) 22 rfl rfl rfl Tryd.underlying22 hi43 hx0 hx1 hx2 rfl (by decide) hlen.out hown.out hbl X (fun k => k < w5.heap.size) ⟨Ar, cr, rfl, Hsr.out⟩ (fun k hk => ⟨hk, Nat.lt_of_lt_of_le hk hszx⟩) hTA.out (by omega) ?_
          intro A7 c7 w7 ho7 hb7 _ _
          have ho8 : Hid _ := Lib.hid (ho7.cast hst.out)
          clear ho7 hown hbl hTA Hsr hcr hje
          go_wp2_with fail
          go_roundw
          case rel => exact ⟨k + 1, A7, c7, by omega, by go_num, rfl, ho8, hb7⟩
          case measure => simp [intOf]; omega
        · obtain rfl : k = rk a := by omega
          have hB6 : Hid (Below w5.heap.size w5 wx) := hbl
          have hlr : Hid ((reduceM a).1.reverse.length = rk a) := by show _ = _; rw [List.length_reverse, Hl1.out]
          have htu : Rows8 (fun k => k < wx.heap.size) wx A6 c6 (reduceM a).1.reverse := (hown.out.cast (show _ = (reduceM a).1.reverse by rw [← hlr.out, List.take_length])).sl (fun k hk _ => hk)
          have htn := tabStep ht hbl
          clear ht
          rename TabAt _ => ht
          clear hown hbl hlt hk
          have hcall := matReduce htu (fun _ h => h) ht
          rw [hlr.out, Hag.out, Hkr.out] at hcall
          have Hcall := Lib.hid hcall
          clear hcall htu
          go_wp2_with fail
          refine Hcall.out.mono ?_
          rintro e w7 ⟨A8, c8, B8, d8, rfl, h1a, h1b, hbb⟩
          have hB7 : Hid (Below wx.heap.size wx w7) := hbb
          have htn := tabStep ht hbb
          clear ht
          rename TabAt _ => ht
          have D_r2 : Hid (Rows8 (fun k => k < w7.heap.size) w7 A8 c8 ((reduceM a).1)) := h1a.mono (fun k hk => hk.2)
          have D_p2 : Hid (Ints (fun k => k < w7.heap.size) w7 B8 d8 ((reduceM a).2)) := h1b.mono (fun k hk => hk.2)
          clear h1a h1b hbb Hcall
          rw [Hl1.out, Hl2.out]
          go_wp2_with fail
          have hcall := refSame D_r2.out ((D_r.out.below (bstep hB6.out hB7.out) (fun _ h => h)).mono (S' := fun k => k < w7.heap.size) (fun k hk => Nat.lt_of_lt_of_le hk (bstep hB6.out hB7.out).size))
          rw [Hl1.out] at hcall
          have Hcall := Lib.hid hcall
          clear hcall
          (with_reducible refine Hcall.out.mono ?_)
          rintro e w8 ⟨rfl, hd⟩
          have hB8 : Hid (Below w7.heap.size w7 w8) := hd.below _
          have htn := tabStep ht hB8.out
          clear ht
          rename TabAt _ => ht
          clear Hcall
          clear hd
          simp only [decide_true]
          go_wp2_with fail
          have hcall := refSameList ((D_p2.out.below hB8.out (fun _ h => h)).mono (S' := fun k => k < w8.heap.size) (fun k hk => Nat.lt_of_lt_of_le hk hB8.out.size)) ((D_p.out.below (bstep hB6.out (bstep hB7.out hB8.out)) (fun _ h => h)).mono (S' := fun k => k < w8.heap.size) (fun k hk => Nat.lt_of_lt_of_le hk (bstep hB6.out (bstep hB7.out hB8.out)).size))
          rw [Hl2.out] at hcall
          have Hcall := Lib.hid hcall
          clear hcall
          (with_reducible refine Hcall.out.mono ?_)
          rintro e w9 ⟨rfl, hd⟩
          have hB9 : Hid (Below w8.heap.size w8 w9) := hd.below _
          have htn := tabStep ht hB9.out
          clear ht
          rename TabAt _ => ht
          clear Hcall
          clear hd
          simp only [decide_true]
          go_wp2_with fail
          have hcall := refFew 20 (by omega) (D_b.out.below (bstep hB1.out (bstep hB2.out (bstep hB3.out (bstep hB4.out (bstep hB5.out (bstep hB6.out (bstep hB7.out (bstep hB8.out hB9.out)))))))) (fun _ h => h))
          have Hcall := Lib.hid hcall
          clear hcall
          refine Hcall.out.mono ?_
          rintro e wq ⟨rfl, hwq⟩
          obtain rfl : w9 = wq := hwq.symm
          clear Hcall
          by_cases fb : few b 20 = true
          · go_wp2_with fail
            have hcall := refCheck (D_b.out.below (bstep hB1.out (bstep hB2.out (bstep hB3.out (bstep hB4.out (bstep hB5.out (bstep hB6.out (bstep hB7.out (bstep hB8.out hB9.out)))))))) (fun _ h => h))
            have Hcall := Lib.hid hcall
            clear hcall
            (with_reducible refine Hcall.out.mono ?_)
            rintro e w10 ⟨rfl, hd⟩
            have hB10 : Hid (Below w9.heap.size w9 w10) := hd.below _
            have htn := tabStep ht hB10.out
            clear ht
            rename TabAt _ => ht
            clear Hcall
            clear hd
            by_cases kb : mchk b = 0
            · have qb : ((mchk b : Int) != 0) = false := by rw [kb]; rfl
              have Hkb : Hid (mchk b = 0) := kb
              clear kb
              go_wp2_with fail
              have hcall := refColumns (D_a.out.below (bstep hB1.out (bstep hB2.out (bstep hB3.out (bstep hB4.out (bstep hB5.out (bstep hB6.out (bstep hB7.out (bstep hB8.out (bstep hB9.out hB10.out))))))))) (fun _ h => h))
              have Hcall := Lib.hid hcall
              clear hcall
              refine Hcall.out.mono ?_
              rintro e wq ⟨rfl, hwq⟩
              obtain rfl : w10 = wq := hwq.symm
              clear Hcall
              by_cases hbc : b.length = cols a
              · have s3 : ((b.length : Int) != (cols a : Int)) = false := by rw [hbc]; simp
                obtain ⟨L1, L2, L3, L4⟩ := law7b Hv.out (mchk_valid.1 Hkb.out) hbc.symm
                have M1 := Lib.hid L1
                have M2 := Lib.hid (mchk_valid.2 L2)
                have M3 : Hid ((reduceE b).2.length = rk b) := rank_rk (mchk_valid.1 Hkb.out)
                clear L1 L2 hbc
                generalize hX : (reduceE (prodE a b)).2.length = X at *
                have HX := Lib.hid hX
                clear hX
                have y1 : decide (X ≤ rk a) = true := by simpa using L3
                have y2 : decide (X ≤ rk b) = true := by simpa using L4
                clear L3 L4
                go_wp2_with fail
                have hcall := matProduct (D_a.out.below (bstep hB1.out (bstep hB2.out (bstep hB3.out (bstep hB4.out (bstep hB5.out (bstep hB6.out (bstep hB7.out (bstep hB8.out (bstep hB9.out hB10.out))))))))) (fun _ h => h)) (D_b.out.below (bstep hB1.out (bstep hB2.out (bstep hB3.out (bstep hB4.out (bstep hB5.out (bstep hB6.out (bstep hB7.out (bstep hB8.out (bstep hB9.out hB10.out))))))))) (fun _ h => h)) (fun k hk => Nat.lt_of_lt_of_le hk (bstep hB1.out (bstep hB2.out (bstep hB3.out (bstep hB4.out (bstep hB5.out (bstep hB6.out (bstep hB7.out (bstep hB8.out (bstep hB9.out hB10.out))))))))).size) (fun k hk => Nat.lt_of_lt_of_le hk (bstep hB1.out (bstep hB2.out (bstep hB3.out (bstep hB4.out (bstep hB5.out (bstep hB6.out (bstep hB7.out (bstep hB8.out (bstep hB9.out hB10.out))))))))).size) ht
                rw [M1.out] at hcall
                have Hcall := Lib.hid hcall
                clear hcall
                (with_reducible refine Hcall.out.mono ?_)
                rintro e w11 ⟨A9, c9, rfl, h1a, hbb⟩
                have hB11 : Hid (Below w10.heap.size w10 w11) := hbb
                have htn := tabStep ht hB11.out
                clear ht
                rename TabAt _ => ht
                clear Hcall
                have D_ab : Hid (Rows8 (fun k => k < w11.heap.size) w11 A9 c9 (prodE a b)) := h1a.mono (fun k hk => hk.2)
                clear h1a hbb
                go_wp2_with fail
                have hcall := matRank D_ab.out (fun _ h => h) ht
                rw [HX.out, M2.out] at hcall
                have Hcall := Lib.hid hcall
                clear hcall
                (with_reducible refine Hcall.out.mono ?_)
                rintro e w12 ⟨rfl, hbb⟩
                have hB12 : Hid (Below w11.heap.size w11 w12) := hbb
                have htn := tabStep ht hB12.out
                clear ht
                rename TabAt _ => ht
                clear Hcall
                clear hbb
                go_wp2_with fail
                have hcall := matRank (D_b.out.below (bstep hB1.out (bstep hB2.out (bstep hB3.out (bstep hB4.out (bstep hB5.out (bstep hB6.out (bstep hB7.out (bstep hB8.out (bstep hB9.out (bstep hB10.out (bstep hB11.out hB12.out))))))))))) (fun _ h => h)) (fun k hk => Nat.lt_of_lt_of_le hk (bstep hB1.out (bstep hB2.out (bstep hB3.out (bstep hB4.out (bstep hB5.out (bstep hB6.out (bstep hB7.out (bstep hB8.out (bstep hB9.out (bstep hB10.out (bstep hB11.out hB12.out))))))))))).size) ht
                rw [M3.out, Hkb.out] at hcall
                have Hcall := Lib.hid hcall
                clear hcall
                (with_reducible refine Hcall.out.mono ?_)
                rintro e w13 ⟨rfl, hbb⟩
                have hB13 : Hid (Below w12.heap.size w12 w13) := hbb
                have htn := tabStep ht hB13.out
                clear ht
                rename TabAt _ => ht
                clear Hcall
                clear hbb
                go_wp2_with fail
                have hcall := lawSanity ht
                have Hcall := Lib.hid hcall
                clear hcall
                (with_reducible refine Hcall.out.mono ?_)
                rintro e w14 ⟨rfl, hbb⟩
                have hB14 : Hid (Below w13.heap.size w13 w14) := hbb
                have htn := tabStep ht hB14.out
                clear ht
                rename TabAt _ => ht
                clear Hcall
                clear hbb
                go_wp2_with fail
                go_ret
                exact ⟨rfl, (bstep hB1.out (bstep hB2.out (bstep hB3.out (bstep hB4.out (bstep hB5.out (bstep hB6.out (bstep hB7.out (bstep hB8.out (bstep hB9.out (bstep hB10.out (bstep hB11.out (bstep hB12.out (bstep hB13.out hB14.out)))))))))))))⟩
              · have s3 : ((b.length : Int) != (cols a : Int)) = true := by rw [bne_iff_ne]; omega
                clear hbc
                go_wp2_with fail
                have hcall := lawSanity ht
                have Hcall := Lib.hid hcall
                clear hcall
                (with_reducible refine Hcall.out.mono ?_)
                rintro e w11 ⟨rfl, hbb⟩
                have hB11 : Hid (Below w10.heap.size w10 w11) := hbb
                have htn := tabStep ht hB11.out
                clear ht
                rename TabAt _ => ht
                clear Hcall
                clear hbb
                go_wp2_with fail
                go_ret
                exact ⟨rfl, (bstep hB1.out (bstep hB2.out (bstep hB3.out (bstep hB4.out (bstep hB5.out (bstep hB6.out (bstep hB7.out (bstep hB8.out (bstep hB9.out (bstep hB10.out hB11.out))))))))))⟩
            · have qb : ((mchk b : Int) != 0) = true := by rw [bne_iff_ne]; omega
              clear kb
              go_wp2_with fail
              have hcall := lawSanity ht
              have Hcall := Lib.hid hcall
              clear hcall
              (with_reducible refine Hcall.out.mono ?_)
              rintro e w11 ⟨rfl, hbb⟩
              have hB11 : Hid (Below w10.heap.size w10 w11) := hbb
              have htn := tabStep ht hB11.out
              clear ht
              rename TabAt _ => ht
              clear Hcall
              clear hbb
              go_wp2_with fail
              go_ret
              exact ⟨rfl, (bstep hB1.out (bstep hB2.out (bstep hB3.out (bstep hB4.out (bstep hB5.out (bstep hB6.out (bstep hB7.out (bstep hB8.out (bstep hB9.out (bstep hB10.out hB11.out))))))))))⟩
          · have fb2 : few b 20 = false := by simpa using fb
            clear fb
            go_wp2_with fail
            have hcall := lawSanity ht
            have Hcall := Lib.hid hcall
            clear hcall
            (with_reducible refine Hcall.out.mono ?_)
            rintro e w10 ⟨rfl, hbb⟩
            have hB10 : Hid (Below w9.heap.size w9 w10) := hbb
            have htn := tabStep ht hB10.out
            clear ht
            rename TabAt _ => ht
            clear Hcall
            clear hbb
            go_wp2_with fail
            go_ret
            exact ⟨rfl, (bstep hB1.out (bstep hB2.out (bstep hB3.out (bstep hB4.out (bstep hB5.out (bstep hB6.out (bstep hB7.out (bstep hB8.out (bstep hB9.out hB10.out)))))))))⟩
    · have qa : ((mchk a : Int) != 0) = true := by rw [bne_iff_ne]; omega
      clear ka
      go_wp2_with fail
      have hcall := lawSanity ht
      have Hcall := Lib.hid hcall
      clear hcall
      (with_reducible refine Hcall.out.mono ?_)
      rintro e w2 ⟨rfl, hbb⟩
      have hB2 : Hid (Below w1.heap.size w1 w2) := hbb
      have htn := tabStep ht hB2.out
      clear ht
      rename TabAt _ => ht
      clear Hcall
      clear hbb
      go_wp2_with fail
      go_ret
      exact ⟨rfl, (bstep hB1.out hB2.out)⟩
  · have fa2 : few a 20 = false := by simpa using fa
    clear fa
    go_wp2_with fail
    have hcall := lawSanity ht
    have Hcall := Lib.hid hcall
    clear hcall
    (with_reducible refine Hcall.out.mono ?_)
    rintro e w1 ⟨rfl, hbb⟩
    have hB1 : Hid (Below w.heap.size w w1) := hbb
    have htn := tabStep ht hB1.out
    clear ht
    rename TabAt _ => ht
    clear Hcall
    clear hbb
    go_wp2_with fail
    go_ret
    exact ⟨rfl, hB1.out⟩
end Go.Proofs.YtokclgjkdpjjfaaDoor
