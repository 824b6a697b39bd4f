/-
  The walk of the sixth statement of chapter 05.
-/
import Derived.Test.YtokclgjkdpjjfaaDoorX1
import Derived.Test.YtokclgjkdpjjfaaDoorPl
import Derived.Test.YtokclgjkdpjjfaaDoorBas3
namespace Go.Proofs.YtokclgjkdpjjfaaDoor
open Go.RowKit Go.Q
variable {w : World} {S S' S'' : Reg} {A A' A'' : Option Addr} {cap cap' cap'' : Nat}

set_option maxRecDepth 100000 in
set_option maxHeartbeats 4000000 in
theorem lawExpresses {m : List (List UInt8)} {row : List UInt8} (hm : Rows8 S w A cap m) (hr : Bytes S' w A' cap' row) (hin : In S w) (hinr : In S' w) (ht : TabAt w) : Calls Tryd.prog 8 #[.slice A m.length cap, .slice A' row.length cap'] w (GiveBool w true) := by
  obtain ⟨i43, hi43, hx0, hx1, hx2⟩ := info_parts info43
  have hlm := hm.len
  have hlr := hr.len
  have hcm := hm.1
  have D_m : Hid (Rows8 (fun k => k < w.heap.size) w A cap m) := hm.mono hin
  have D_r : Hid (Bytes (fun k => k < w.heap.size) w A' cap' row) := hr.mono hinr
  have hcc : cap ≤ 9223372036854775807 := hm.2.1
  clear hm hin hr hinr
  go_enter Tryd.func8, Tryd.ntmps8
  go_wp2_with fail
  have hcall := refFew 20 (by omega) D_m.out
  have Hcall := Lib.hid hcall
  clear hcall
  refine Hcall.out.mono ?_
  rintro e wq ⟨rfl, hwq⟩
  obtain rfl : w = wq := hwq.symm
  clear Hcall
  by_cases fm : few m 20 = true
  · by_cases hpos : 0 < m.length
    · have p0 : ((m.length : Int) == 0) = false := by rw [beq_eq_false_iff_ne]; omega
      go_wp2_with fail
      have hcall := refCheck D_m.out
      have Hcall := Lib.hid hcall
      clear hcall
      (with_reducible refine Hcall.out.mono ?_)
      rintro e w1 ⟨rfl, hd⟩
      have hB1 : Hid (Below w.heap.size w w1) := hd.below _
      have htn := tabStep ht hB1.out
      clear ht
      rename TabAt _ => ht
      clear Hcall
      clear hd
      by_cases km : mchk m = 0
      · have q0 : ((mchk m : Int) != 0) = false := by rw [km]; rfl
        have Hkm0 := Lib.hid km
        clear km
        go_wp2_with fail
        have hcall := refColumns (D_m.out.below hB1.out (fun _ h => h))
        have Hcall := Lib.hid hcall
        clear hcall
        refine Hcall.out.mono ?_
        rintro e wq ⟨rfl, hwq⟩
        obtain rfl : w1 = wq := hwq.symm
        clear Hcall
        by_cases hcols : row.length = cols m
        · have q1 : ((row.length : Int) != (cols m : Int)) = false := by rw [hcols]; simp
          have Hc := Lib.hid hcols
          clear hcols
          have km := Hkm0.out
          have hv := mchk_valid.1 km
          have Hk : Hid (mchk m = 0) := km
          have h20 : m.length ≤ 20 := by unfold few at fm; simp at fm; omega
          have L := law6 hv h20 hpos Hc.out
          have h48 := hv.rows
          have hc48 := hv.colsle
          have Hr : Hid ((reduceE m).2.length = rk m) := rank_rk hv
          have Hkm : Hid (mchk (m ++ [row]) = 0) := mchk_valid.2 L.vmore
          have hrl : row.length ≤ 48 := by rw [Hc.out]; exact hc48
          have Hml : Hid ((m ++ [row]).length = m.length + 1) := by show _ = _; simp
          have hrk : rk m ≤ 48 := by have := (law7 hv).rows; omega
          have hxk : (reduceE (m ++ [row])).2.length ≤ 48 := by rw [rank_rk L.vmore]; have := (law7 L.vmore).rows; have := L.vmore.rows; omega
          have Hrect : Hid (∀ r ∈ m, row.length ≤ r.length) := fun r hr => by have := hv.row r hr; have := Hc.out; omega
          by_cases hX : (reduceE (m ++ [row])).2.length = rk m
          · have He : Hid (exprErr m row = 0) := by show _ = _; rw [L.err, if_pos hX]
            have HX : Hid ((reduceE (m ++ [row])).2.length = rk m) := hX
            have Hlen : Hid ((exprE m row).length = m.length) := L.len He.out
            have Hcomb : Hid (combine (exprE m row) m row.length = row) := L.comb He.out
            have Hpiv : Hid (∀ k, k < m.length → (exprE m row).getD k 0 ≠ 0 → (reduceE (m.take (k + 1))).2.length = (reduceE (m.take k)).2.length + 1) := L.piv He.out
            have Hvt : Hid (∀ k, Valid (m.take k)) := L.vtake
            clear L hv km hX hxk
            go_wp2_with fail
            have hcall := matExpress (D_m.out.below hB1.out (fun _ h => h)) (D_r.out.below hB1.out (fun _ h => h)) (fun k hk => Nat.lt_of_lt_of_le hk hB1.out.size) (fun k hk => Nat.lt_of_lt_of_le hk hB1.out.size) ht
            rw [He.out] at hcall
            have Hcall := Lib.hid hcall
            clear hcall
            (with_reducible refine Hcall.out.mono ?_)
            rintro e w2 ⟨A1, c1, rfl, h1a, hbb⟩
            have hB2 : Hid (Below w1.heap.size w1 w2) := hbb
            have htn := tabStep ht hB2.out
            clear ht
            rename TabAt _ => ht
            clear Hcall
            have D_l : Hid (Bytes (fun k => k < w2.heap.size) w2 A1 c1 (exprE m row)) := h1a.mono (fun k hk => hk.2)
            clear h1a hbb
            rw [Hlen.out]
            go_wp2_with fail
            have hcall := matRank (D_m.out.below (bstep hB1.out hB2.out) (fun _ h => h)) (fun k hk => Nat.lt_of_lt_of_le hk (bstep hB1.out hB2.out).size) ht
            rw [Hr.out, Hk.out] at hcall
            have Hcall := Lib.hid hcall
            clear hcall
            (with_reducible refine Hcall.out.mono ?_)
            rintro e w3 ⟨rfl, hbb⟩
            have hB3 : Hid (Below w2.heap.size w2 w3) := hbb
            have htn := tabStep ht hB3.out
            clear ht
            rename TabAt _ => ht
            clear Hcall
            clear hbb
            go_wp2_with (at_builtin; refine pause ?_)
            refine unpause ?_
            refine wpList_append_full rfl (.tmp 55) (.tmp 57) 22 rfl rfl rfl rfl Tryd.underlying22 hi43 hx0 hx1 hx2 rfl rfl hpos (D_m.out.below (bstep hB1.out (bstep hB2.out hB3.out)) (fun _ h => h)) (fun k hk => Nat.lt_of_lt_of_le hk (bstep hB1.out (bstep hB2.out hB3.out)).size) row (T := fun k => k < w.heap.size) ⟨A', cap', rfl, (D_r.out.below (bstep hB1.out (bstep hB2.out hB3.out)) (fun _ h => h))⟩ (fun k hk => Nat.lt_of_lt_of_le hk (bstep hB1.out (bstep hB2.out hB3.out)).size) (by omega) ?_
            intro Aap cap3 wap hslap hbap
            have hB4 : Hid (Below w3.heap.size w3 wap) := hbap
            have htn := tabStep ht hB4.out
            clear ht
            rename TabAt _ => ht
            have D_a : Hid (Rows8 (fun k => k < wap.heap.size) wap Aap cap3 (m ++ [row])) := hslap
            clear hslap hbap
            go_wp2_with fail
            have hcall := matRank D_a.out (fun _ h => h) ht
            rw [Hml.out, Hkm.out, HX.out] at hcall
            have Hcall := Lib.hid hcall
            clear hcall
            (with_reducible refine Hcall.out.mono ?_)
            rintro e w5 ⟨rfl, hbb⟩
            have hB5 : Hid (Below wap.heap.size wap w5) := hbb
            have htn := tabStep ht hB5.out
            clear ht
            rename TabAt _ => ht
            clear Hcall
            clear hbb
            clear hi43 hx0 hx1 hx2
            go_wp2_with fail
            have hcall := refCombine' Hlen.out (by omega) Hrect.out (Nat.le_refl _) (D_l.out.below (bstep hB3.out (bstep hB4.out hB5.out)) (fun _ h => h)) (D_m.out.below (bstep hB1.out (bstep hB2.out (bstep hB3.out (bstep hB4.out hB5.out)))) (fun _ h => h)) (fun k hk => Nat.lt_of_lt_of_le hk (bstep hB3.out (bstep hB4.out hB5.out)).size) (fun k hk => Nat.lt_of_lt_of_le hk (bstep hB1.out (bstep hB2.out (bstep hB3.out (bstep hB4.out hB5.out)))).size)
            rw [Hcomb.out] at hcall
            have Hcall := Lib.hid hcall
            clear hcall
            (with_reducible refine Hcall.out.mono ?_)
            rintro e w6 ⟨A5, c5, rfl, h1a, hbb⟩
            have hB6 : Hid (Below w5.heap.size w5 w6) := hbb
            have htn := tabStep ht hB6.out
            clear ht
            rename TabAt _ => ht
            clear Hcall
            have D_c : Hid (Bytes (fun k => k < w6.heap.size) w6 A5 c5 (row)) := h1a.mono (fun k hk => hk.2)
            clear h1a hbb
            go_wp2_with fail
            have hcall := refSameRow D_c.out ((D_r.out.below (bstep hB1.out (bstep hB2.out (bstep hB3.out (bstep hB4.out (bstep hB5.out hB6.out))))) (fun _ h => h)).mono (S' := fun k => k < w6.heap.size) (fun k hk => Nat.lt_of_lt_of_le hk (bstep hB1.out (bstep hB2.out (bstep hB3.out (bstep hB4.out (bstep hB5.out hB6.out))))).size))
            have Hcall := Lib.hid hcall
            clear hcall
            (with_reducible refine Hcall.out.mono ?_)
            rintro e w7 ⟨rfl, hd⟩
            have hB7 : Hid (Below w6.heap.size w6 w7) := hd.below _
            have htn := tabStep ht hB7.out
            clear ht
            rename TabAt _ => ht
            clear Hcall
            clear hd
            simp only [decide_true]
            go_wp2_with fail
            go_loopw [109] (fun vi wr => ∃ k : Nat, k ≤ m.length ∧ vi = .int .i64 (k : Int) ∧ Below w7.heap.size w7 wr) (fun vi _ => m.length - (intOf vi).toNat)
            case atStart => exact ⟨0, by omega, rfl, Below.refl _ _⟩
            case round =>
              obtain ⟨k, hk, rfl, hbl⟩ := hrel
              obtain ⟨wx, hwx⟩ : ∃ wx : World, wx = wr := ⟨_, rfl⟩
              subst hwx
              have hB8 : Hid (Below w7.heap.size w7 wx) := hbl
              clear hbl
              have htn := tabStep ht hB8.out
              clear ht
              rename TabAt _ => ht
              by_cases hlt : k < m.length
              · have hll : k < (exprE m row).length := by rw [Hlen.out]; exact hlt
                obtain ⟨bl, ol, rfl, hSl, hcl⟩ := bytes_get (D_l.out.below (bstep hB3.out (bstep hB4.out (bstep hB5.out (bstep hB6.out (bstep hB7.out hB8.out))))) (fun _ h => h)) hll
                have hz0 : (exprE m row)[k] ≠ 0 → (reduceE (m.take (k + 1))).2.length = (reduceE (m.take k)).2.length + 1 := fun h => Hpiv.out k hlt (by rw [List.getD_eq_getElem?_getD, List.getElem?_eq_getElem hll]; exact h)
                have K1 : Hid (mchk (m.take k) = 0) := mchk_valid.2 (Hvt.out k)
                have K2 : Hid (mchk (m.take (k + 1)) = 0) := mchk_valid.2 (Hvt.out (k + 1))
                have Q1 : Hid ((m.take k).length = k) := by show _ = _; rw [List.length_take]; omega
                have Q2 : Hid ((m.take (k + 1)).length = k + 1) := by show _ = _; rw [List.length_take]; omega
                have hp48 : (reduceE (m.take k)).2.length ≤ 48 := by rw [rank_rk (Hvt.out k)]; have := (law7 (Hvt.out k)).rows; have := (Hvt.out k).rows; omega
                have hq48 : (reduceE (m.take (k + 1))).2.length ≤ 48 := by rw [rank_rk (Hvt.out (k+1))]; have := (law7 (Hvt.out (k+1))).rows; have := (Hvt.out (k+1)).rows; omega
                obtain ⟨p, hp⟩ : ∃ p, p = (reduceE (m.take k)).2.length := ⟨_, rfl⟩
                obtain ⟨q, hq⟩ : ∃ q, q = (reduceE (m.take (k + 1))).2.length := ⟨_, rfl⟩
                rw [← hp, ← hq] at hz0
                rw [← hp] at hp48
                rw [← hq] at hq48
                have Hp := Lib.hid hp.symm
                have Hq := Lib.hid hq.symm
                clear hp hq hSl
                generalize (exprE m row)[k] = X at *
                have hX : ((X.toNat : Int) != 0) = true → q = p + 1 := fun h => hz0 (fun e => by rw [e] at h; exact absurd h (by decide))
                clear hz0 hll
                go_wp2_with fail
                have hcall := matRank ((D_m.out.below (bstep hB1.out (bstep hB2.out (bstep hB3.out (bstep hB4.out (bstep hB5.out (bstep hB6.out (bstep hB7.out hB8.out))))))) (fun _ h => h)).take k) (fun k hk => Nat.lt_of_lt_of_le hk (bstep hB1.out (bstep hB2.out (bstep hB3.out (bstep hB4.out (bstep hB5.out (bstep hB6.out (bstep hB7.out hB8.out))))))).size) ht
                rw [Q1.out, Hp.out, K1.out] at hcall
                have Hcall := Lib.hid hcall
                clear hcall
                (with_reducible refine Hcall.out.mono ?_)
                rintro e w9 ⟨rfl, hbb⟩
                have hB9 : Hid (Below wx.heap.size wx w9) := hbb
                have htn := tabStep ht hB9.out
                clear ht
                rename TabAt _ => ht
                clear Hcall
                clear hbb
                go_wp2_with fail
                have hcall := matRank ((D_m.out.below (bstep hB1.out (bstep hB2.out (bstep hB3.out (bstep hB4.out (bstep hB5.out (bstep hB6.out (bstep hB7.out (bstep hB8.out hB9.out)))))))) (fun _ h => h)).take (k + 1)) (fun k hk => Nat.lt_of_lt_of_le hk (bstep hB1.out (bstep hB2.out (bstep hB3.out (bstep hB4.out (bstep hB5.out (bstep hB6.out (bstep hB7.out (bstep hB8.out hB9.out)))))))).size) ht
                rw [Q2.out, Hq.out, K2.out] at hcall
                have Hcall := Lib.hid hcall
                clear hcall
                (with_reducible refine Hcall.out.mono ?_)
                rintro e w10 ⟨rfl, hbb⟩
                have hB10 : Hid (Below w9.heap.size w9 w10) := hbb
                have htn := tabStep ht hB10.out
                clear ht
                rename TabAt _ => ht
                clear Hcall
                clear hbb
                by_cases hx1 : ((X.toNat : Int) != 0) = true
                · obtain rfl := hX hx1
                  clear hX
                  go_wp2_with fail
                  go_roundw
                  case rel => exact ⟨k + 1, by omega, by go_num, (bstep hB8.out (bstep hB9.out hB10.out))⟩
                  case measure => simp [intOf]; omega
                · have hx2 : ((X.toNat : Int) != 0) = false := by simpa using hx1
                  clear hx1 hX
                  go_wp2_with fail
                  go_roundw
                  case rel => exact ⟨k + 1, by omega, by go_num, (bstep hB8.out (bstep hB9.out hB10.out))⟩
                  case measure => simp [intOf]; omega
              · obtain rfl : k = m.length := by omega
                clear hlt hk
                go_wp2_with fail
                have hcall := lawSanity ht
                have Hcall := Lib.hid hcall
                clear hcall
                (with_reducible refine Hcall.out.mono ?_)
                rintro e w9 ⟨rfl, hbb⟩
                have hB9 : Hid (Below wx.heap.size wx w9) := hbb
                have htn := tabStep ht hB9.out
                clear ht
                rename TabAt _ => ht
                clear Hcall
                clear hbb
                go_wp2_with fail
                go_ret
                exact ⟨rfl, (bstep hB1.out (bstep hB2.out (bstep hB3.out (bstep hB4.out (bstep hB5.out (bstep hB6.out (bstep hB7.out (bstep hB8.out hB9.out))))))))⟩
          · have He : Hid (exprErr m row = 8) := by show _ = _; rw [L.err, if_neg hX]
            have Hb : Hid (exprE m row = []) := L.bad (by rw [He.out]; decide)
            generalize hXX : (reduceE (m ++ [row])).2.length = X at *
            have HX : Hid ((reduceE (m ++ [row])).2.length = X) := hXX
            clear hXX
            have t81 : ((X : Int) == (rk m : Int)) = false := by rw [beq_eq_false_iff_ne]; omega
            clear hX L hv km
            go_wp2_with fail
            have hcall := matExpress (D_m.out.below hB1.out (fun _ h => h)) (D_r.out.below hB1.out (fun _ h => h)) (fun k hk => Nat.lt_of_lt_of_le hk hB1.out.size) (fun k hk => Nat.lt_of_lt_of_le hk hB1.out.size) ht
            rw [Hb.out, He.out] at hcall
            have Hcall := Lib.hid hcall
            clear hcall
            (with_reducible refine Hcall.out.mono ?_)
            rintro e w2 ⟨A1, c1, rfl, h1a, hbb⟩
            have hB2 : Hid (Below w1.heap.size w1 w2) := hbb
            have htn := tabStep ht hB2.out
            clear ht
            rename TabAt _ => ht
            clear Hcall
            have D_l : Hid (Bytes (fun k => k < w2.heap.size) w2 A1 c1 ([])) := h1a.mono (fun k hk => hk.2)
            clear h1a hbb
            simp only [List.length_nil]
            go_wp2_with fail
            have hcall := matRank (D_m.out.below (bstep hB1.out hB2.out) (fun _ h => h)) (fun k hk => Nat.lt_of_lt_of_le hk (bstep hB1.out hB2.out).size) ht
            rw [Hr.out, Hk.out] at hcall
            have Hcall := Lib.hid hcall
            clear hcall
            (with_reducible refine Hcall.out.mono ?_)
            rintro e w3 ⟨rfl, hbb⟩
            have hB3 : Hid (Below w2.heap.size w2 w3) := hbb
            have htn := tabStep ht hB3.out
            clear ht
            rename TabAt _ => ht
            clear Hcall
            clear hbb
            go_wp2_with (at_builtin; refine pause ?_)
            refine unpause ?_
            refine wpList_append_full rfl (.tmp 55) (.tmp 57) 22 rfl rfl rfl rfl Tryd.underlying22 hi43 hx0 hx1 hx2 rfl rfl hpos (D_m.out.below (bstep hB1.out (bstep hB2.out hB3.out)) (fun _ h => h)) (fun k hk => Nat.lt_of_lt_of_le hk (bstep hB1.out (bstep hB2.out hB3.out)).size) row (T := fun k => k < w.heap.size) ⟨A', cap', rfl, (D_r.out.below (bstep hB1.out (bstep hB2.out hB3.out)) (fun _ h => h))⟩ (fun k hk => Nat.lt_of_lt_of_le hk (bstep hB1.out (bstep hB2.out hB3.out)).size) (by omega) ?_
            intro Aap cap3 wap hslap hbap
            have hB4 : Hid (Below w3.heap.size w3 wap) := hbap
            have htn := tabStep ht hB4.out
            clear ht
            rename TabAt _ => ht
            have D_a : Hid (Rows8 (fun k => k < wap.heap.size) wap Aap cap3 (m ++ [row])) := hslap
            clear hslap hbap
            go_wp2_with fail
            have hcall := matRank D_a.out (fun _ h => h) ht
            rw [Hml.out, Hkm.out, HX.out] at hcall
            have Hcall := Lib.hid hcall
            clear hcall
            (with_reducible refine Hcall.out.mono ?_)
            rintro e w5 ⟨rfl, hbb⟩
            have hB5 : Hid (Below wap.heap.size wap w5) := hbb
            have htn := tabStep ht hB5.out
            clear ht
            rename TabAt _ => ht
            clear Hcall
            clear hbb
            clear hi43 hx0 hx1 hx2
            go_wp2_with fail
            have hcall := lawSanity ht
            have Hcall := Lib.hid hcall
            clear hcall
            (with_reducible refine Hcall.out.mono ?_)
            rintro e w6 ⟨rfl, hbb⟩
            have hB6 : Hid (Below w5.heap.size w5 w6) := hbb
            have htn := tabStep ht hB6.out
            clear ht
            rename TabAt _ => ht
            clear Hcall
            clear hbb
            go_wp2_with fail
            go_ret
            exact ⟨rfl, (bstep hB1.out (bstep hB2.out (bstep hB3.out (bstep hB4.out (bstep hB5.out hB6.out)))))⟩
        · have q1 : ((row.length : Int) != (cols m : Int)) = true := by rw [bne_iff_ne]; omega
          clear hcols
          go_wp2_with fail
          have hcall := lawSanity ht
          have Hcall := Lib.hid hcall
          clear hcall
          (with_reducible refine Hcall.out.mono ?_)
          rintro e w2 ⟨rfl, hbb⟩
          have hB2 : Hid (Below w1.heap.size w1 w2) := hbb
          have htn := tabStep ht hB2.out
          clear ht
          rename TabAt _ => ht
          clear Hcall
          clear hbb
          go_wp2_with fail
          go_ret
          exact ⟨rfl, (bstep hB1.out hB2.out)⟩
      · have q0 : ((mchk m : Int) != 0) = true := by rw [bne_iff_ne]; omega
        clear km
        go_wp2_with fail
        have hcall := lawSanity ht
        have Hcall := Lib.hid hcall
        clear hcall
        (with_reducible refine Hcall.out.mono ?_)
        rintro e w2 ⟨rfl, hbb⟩
        have hB2 : Hid (Below w1.heap.size w1 w2) := hbb
        have htn := tabStep ht hB2.out
        clear ht
        rename TabAt _ => ht
        clear Hcall
        clear hbb
        go_wp2_with fail
        go_ret
        exact ⟨rfl, (bstep hB1.out hB2.out)⟩
    · have p0 : ((m.length : Int) == 0) = true := by rw [beq_iff_eq]; omega
      clear hpos
      go_wp2_with fail
      have hcall := lawSanity ht
      have Hcall := Lib.hid hcall
      clear hcall
      (with_reducible refine Hcall.out.mono ?_)
      rintro e w1 ⟨rfl, hbb⟩
      have hB1 : Hid (Below w.heap.size w w1) := hbb
      have htn := tabStep ht hB1.out
      clear ht
      rename TabAt _ => ht
      clear Hcall
      clear hbb
      go_wp2_with fail
      go_ret
      exact ⟨rfl, hB1.out⟩
  · have fm2 : few m 20 = false := by simpa using fm
    clear fm
    go_wp2_with fail
    have hcall := lawSanity ht
    have Hcall := Lib.hid hcall
    clear hcall
    (with_reducible refine Hcall.out.mono ?_)
    rintro e w1 ⟨rfl, hbb⟩
    have hB1 : Hid (Below w.heap.size w w1) := hbb
    have htn := tabStep ht hB1.out
    clear ht
    rename TabAt _ => ht
    clear Hcall
    clear hbb
    go_wp2_with fail
    go_ret
    exact ⟨rfl, hB1.out⟩
end Go.Proofs.YtokclgjkdpjjfaaDoor
