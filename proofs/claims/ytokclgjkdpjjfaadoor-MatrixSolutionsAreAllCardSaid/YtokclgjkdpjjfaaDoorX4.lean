/-
  The walk of the fourth statement of chapter 05.
-/
import Derived.Test.YtokclgjkdpjjfaaDoorX1
import Derived.Test.YtokclgjkdpjjfaaDoorPl
import Derived.Deep.OwnRows
namespace Go.Proofs.YtokclgjkdpjjfaaDoor
open Go.RowKit Go.Q
variable {w : World} {S S' S'' : Reg} {A A' A'' : Option Addr} {cap cap' cap'' : Nat}

theorem one8 : (((1 : UInt8).toNat : Nat) : Int) = 1 := rfl
def zer8 (n : Nat) : Array Value := ((List.replicate n (0 : UInt8)).map u8v).toArray
/-- 'make([]uint8, n)'. -/
theorem make8 (n : Nat) (hn : n ≤ 1000) (w : World) : Sem.run Tryd.prog (Instr.makeSlice 43 (.int .i64 (n : Int)) (.int .i64 (n : Int))) w = .ok (.slice (some ⟨w.heap.size, 0, none⟩) n n) (w.alloc (.cells (zer8 n) 5)) := by
  have h := run_make_row' (P := Tryd.prog) 43 5 (.int .u8 0) 1 Tryd.underlying43 info5 rfl .i64 .i64 n (by omega) (by omega) w
  have e : madeCells #[Value.int .u8 0] n = ((List.replicate n (0 : UInt8)).map u8v).toArray := by
    apply Array.ext'
    rw [madeCells_one]
    simp [u8v]
  rw [e] at h
  exact h

set_option maxRecDepth 100000 in
set_option maxHeartbeats 4000000 in
theorem lawSolutions {m : List (List UInt8)} {b y : List UInt8} (hm : Rows8 S w A cap m) (hb : Bytes S' w A' cap' b) (hy : Bytes S'' w A'' cap'' y) (hin : In S w) (hinb : In S' w) (hiny : In S'' w) (ht : TabAt w) : Calls Tryd.prog 6 #[.slice A m.length cap, .agg #[.slice A' b.length cap', .slice A'' y.length cap'']] w (GiveBool w true) := by
  have hlm := hm.len
  have hlb := hb.len
  have hly := hy.len
  have D_m : Hid (Rows8 (fun k => k < w.heap.size) w A cap m) := hm.mono hin
  have D_b : Hid (Bytes (fun k => k < w.heap.size) w A' cap' b) := hb.mono hinb
  have D_y : Hid (Bytes (fun k => k < w.heap.size) w A'' cap'' y) := hy.mono hiny
  clear hm hb hy hin hinb hiny
  go_enter Tryd.func6, Tryd.ntmps6
  go_wp2_with fail
  obtain ⟨w1, hww1⟩ : ∃ x, x = w.alloc (.cells #[.slice A' b.length cap', .slice A'' y.length cap''] 60) := ⟨_, rfl⟩
  rw [← hww1]
  have hB1 : Hid (Below w.heap.size w w1) := by show Below _ _ _; rw [hww1]; exact ba _ _
  have bx_g : Hid (w1.heap[w.heap.size]? = some (.cells #[.slice A' b.length cap', .slice A'' y.length cap''] 60 (0, 0))) := by show _ = _; rw [hww1]; exact heap_alloc_new _ _
  have bx_lt : w.heap.size < w1.heap.size := by rw [hww1]; simp
  have htn := tabStep ht hB1.out
  clear ht hww1
  rename TabAt _ => ht
  have hc1 := (cells_at bx_g.out 0 (by simp)).1
  simp only [List.getElem_toArray, List.getElem_cons_zero] at hc1
  have hc2 := (cells_at bx_g.out 1 (by simp)).1
  simp only [List.getElem_toArray, List.getElem_cons_zero, List.getElem_cons_succ] at hc2
  refine wp_region_walk [0,1,0,1,0,0] [0,1,2,3,4,5] (fun w' => w'.cell? ⟨w.heap.size, 0, none⟩ = some (.slice A' b.length cap') ∧ w'.cell? ⟨w.heap.size, 1, none⟩ = some (.slice A'' y.length cap'')) rfl (by kernel_rfl) rfl (by kernel_rfl) (fun _ d _ _ _ h => by cases d <;> exact h) ⟨hc1, hc2⟩ ?_
  repeat ((first | (apply walk_pure rfl rfl rfl; (intro w'; go_simp; rfl)) | (apply walk_read rfl rfl rfl; (rintro w' ⟨hs1, hs2⟩; go_simp; rfl))); simp only [Act.put, List.getElem_toArray, List.getElem_cons_zero, List.getElem_cons_succ, List.setIfInBounds_toArray, List.set_cons_zero, List.set_cons_succ])
  clear hc1 hc2
  refine walk_nil ?_
  obtain ⟨wd, hwd⟩ : ∃ x, x = w1.drew := ⟨_, rfl⟩
  rw [← hwd]
  have hB2 : Hid (Below w1.heap.size w1 wd) := by show Below _ _ _; rw [hwd]; exact (Drew.one _).below _
  have htn := tabStep ht hB2.out
  clear ht hwd
  rename TabAt _ => ht
  go_wp2_with fail
  have hcall := refColumns (D_m.out.below (bstep hB1.out hB2.out) (fun _ h => h))
  have Hcall := Lib.hid hcall
  clear hcall
  refine Hcall.out.mono ?_
  rintro e wq ⟨rfl, hwq⟩
  obtain rfl : wd = wq := hwq.symm
  clear Hcall
  go_wp2_with fail
  have hcall := refFew 20 (by omega) (D_m.out.below (bstep hB1.out hB2.out) (fun _ h => h))
  have Hcall := Lib.hid hcall
  clear hcall
  refine Hcall.out.mono ?_
  rintro e wq ⟨rfl, hwq⟩
  obtain rfl : wd = wq := hwq.symm
  clear Hcall
  by_cases fm : few m 20 = true
  · go_wp2_with fail
    have hcall := refCheck (D_m.out.below (bstep hB1.out hB2.out) (fun _ h => h))
    have Hcall := Lib.hid hcall
    clear hcall
    (with_reducible refine Hcall.out.mono ?_)
    rintro e w3 ⟨rfl, hd⟩
    have hB3 : Hid (Below wd.heap.size wd w3) := hd.below _
    have htn := tabStep ht hB3.out
    clear ht
    rename TabAt _ => ht
    clear Hcall
    clear hd
    by_cases km : mchk m = 0
    · have q0 : ((mchk m : Int) != 0) = false := by rw [km]; rfl
      have Hk := Lib.hid km
      clear km
      by_cases hbm : b.length = m.length
      · have q1 : ((b.length : Int) != (m.length : Int)) = false := by rw [hbm]; simp
        have Hb := Lib.hid hbm
        clear hbm
        by_cases hym : y.length = cols m
        · have q2 : ((y.length : Int) != (cols m : Int)) = false := by rw [hym]; simp
          have Hy := Lib.hid hym
          clear hym
          have hv := mchk_valid.1 Hk.out
          have h20 : m.length ≤ 20 := by unfold few at fm; simp at fm; omega
          have h48 := hv.rows
          have hc48 := hv.colsle
          have Hv := Lib.hid hv
          have Hr : Hid ((reduceE m).2.length = rk m) := rank_rk hv
          have hrc : rk m ≤ cols m := (law7 hv).colsle
          have hse := solveErr_ok hv Hb.out
          have hsr := solveR_ok hv Hb.out
          rcases hs : solveM m b (cols m) with _ | s
          · have HX : Hid (((solveR m b).map (·.1)).getD [] = []) := by show _ = _; rw [hsr, hs]; rfl
            have HK : Hid (((solveR m b).map (·.2)).getD [] = []) := by show _ = _; rw [hsr, hs]; rfl
            have HE : Hid (solveErr m b = 8) := by show _ = _; rw [hse, hs]; rfl
            have HM : Hid (decide (combine y (transpose m) m.length = b) = false) := by show _ = _; rw [decide_eq_false_iff_not]; exact law4_none Hb.out hs
            clear hse hsr hs hv
            go_wp2_with fail
            have hcall := matSolve (D_m.out.below (bstep hB1.out (bstep hB2.out hB3.out)) (fun _ h => h)) (D_b.out.below (bstep hB1.out (bstep hB2.out hB3.out)) (fun _ h => h)) (fun k hk => Nat.lt_of_lt_of_le hk (bstep hB1.out (bstep hB2.out hB3.out)).size) (fun k hk => Nat.lt_of_lt_of_le hk (bstep hB1.out (bstep hB2.out hB3.out)).size) ht
            rw [HX.out, HK.out, HE.out] at hcall
            have Hcall := Lib.hid hcall
            clear hcall
            (with_reducible refine Hcall.out.mono ?_)
            rintro e w4 ⟨A1, c1, B1, d1, rfl, h1a, h1b, hbb⟩
            have hB4 : Hid (Below w3.heap.size w3 w4) := hbb
            have htn := tabStep ht hB4.out
            clear ht
            rename TabAt _ => ht
            clear Hcall
            clear h1a h1b hbb
            go_wp2_with fail
            have hcall := lawMapped Hv.out Hy.out (D_m.out.below (bstep hB1.out (bstep hB2.out (bstep hB3.out hB4.out))) (fun _ h => h)) (D_y.out.below (bstep hB1.out (bstep hB2.out (bstep hB3.out hB4.out))) (fun _ h => h)) (D_b.out.below (bstep hB1.out (bstep hB2.out (bstep hB3.out hB4.out))) (fun _ h => h)) (fun k hk => Nat.lt_of_lt_of_le hk (bstep hB1.out (bstep hB2.out (bstep hB3.out hB4.out))).size) (fun k hk => Nat.lt_of_lt_of_le hk (bstep hB1.out (bstep hB2.out (bstep hB3.out hB4.out))).size) (fun k hk => Nat.lt_of_lt_of_le hk (bstep hB1.out (bstep hB2.out (bstep hB3.out hB4.out))).size)
            rw [HM.out] at hcall
            have Hcall := Lib.hid hcall
            clear hcall
            (with_reducible refine Hcall.out.mono ?_)
            rintro e w5 ⟨rfl, hbb⟩
            have hB5 : Hid (Below w4.heap.size w4 w5) := hbb
            have htn := tabStep ht hB5.out
            clear ht
            rename TabAt _ => ht
            clear Hcall
            clear hbb
            go_wp2_with fail
            have hcall := lawSanity ht
            have Hcall := Lib.hid hcall
            clear hcall
            (with_reducible refine Hcall.out.mono ?_)
            rintro e w6 ⟨rfl, hbb⟩
            have hB6 : Hid (Below w5.heap.size w5 w6) := hbb
            have htn := tabStep ht hB6.out
            clear ht
            rename TabAt _ => ht
            clear Hcall
            clear hbb
            go_wp2_with fail
            go_ret
            exact ⟨rfl, (bstep hB1.out (bstep hB2.out (bstep hB3.out (bstep hB4.out (bstep hB5.out hB6.out)))))⟩
          · have HX : Hid (((solveR m b).map (·.1)).getD [] = s.1) := by show _ = _; rw [hsr, hs]; rfl
            have HK : Hid (((solveR m b).map (·.2)).getD [] = s.2) := by show _ = _; rw [hsr, hs]; rfl
            have HE : Hid (solveErr m b = 0) := by show _ = _; rw [hse, hs]; rfl
            have L := law4_some hv Hb.out Hy.out hs
            obtain ⟨x, K⟩ := s
            simp only at L HX HK
            obtain ⟨kk, hkk⟩ : ∃ kk, kk + rk m = cols m := ⟨cols m - rk m, by omega⟩
            have Hxl : Hid (x.length = cols m) := L.xlen
            have Hkl : Hid (K.length = kk) := by have := L.klen; show _ = _; omega
            have HkR : Hid ((reduceE K).2.length = kk) := by have := L.krank; show _ = _; omega
            have Hkv : Hid (mchk K = 0) := mchk_valid.2 L.kvalid
            have Hs : Hid (decide (combine x (transpose m) m.length = b) = true) := by show _ = _; rw [decide_eq_true_eq]; exact L.solves
            have Hrow : Hid (∀ v ∈ K, v.length = cols m ∧ combine v (transpose m) m.length = List.replicate m.length 0) := L.krow
            obtain ⟨bv, hbv⟩ : ∃ bv : Bool, decide (combine y (transpose m) m.length = b) = bv := ⟨_, rfl⟩
            have HM := Lib.hid hbv
            have Hex : Hid (exprErr K (rowAdd y 1 x) = if bv = true then 0 else 8) := by show _ = _; rw [L.expr, ← hbv]; simp only [decide_eq_true_eq]
            have Hrl : Hid ((rowAdd y 1 x).length = cols m) := rowAdd_len Hy.out (by rw [Hxl.out]; exact Nat.le_refl _)
            have e1 : (cols m : Int) - (rk m : Int) = (kk : Int) := by omega
            clear L hse hsr hs hv hbv hkk
            go_wp2_with fail
            have hcall := matSolve (D_m.out.below (bstep hB1.out (bstep hB2.out hB3.out)) (fun _ h => h)) (D_b.out.below (bstep hB1.out (bstep hB2.out hB3.out)) (fun _ h => h)) (fun k hk => Nat.lt_of_lt_of_le hk (bstep hB1.out (bstep hB2.out hB3.out)).size) (fun k hk => Nat.lt_of_lt_of_le hk (bstep hB1.out (bstep hB2.out hB3.out)).size) ht
            rw [HX.out, HK.out, HE.out] at hcall
            have Hcall := Lib.hid hcall
            clear hcall
            (with_reducible refine Hcall.out.mono ?_)
            rintro e w4 ⟨A1, c1, B1, d1, rfl, h1a, h1b, hbb⟩
            have hB4 : Hid (Below w3.heap.size w3 w4) := hbb
            have htn := tabStep ht hB4.out
            clear ht
            rename TabAt _ => ht
            clear Hcall
            have D_x : Hid (Bytes (fun k => k < w4.heap.size) w4 A1 c1 (x)) := h1a.mono (fun k hk => hk.2)
            have D_K : Hid (Rows8 (fun k => k < w4.heap.size) w4 B1 d1 (K)) := h1b.mono (fun k hk => hk.2)
            clear h1a h1b hbb
            rw [Hxl.out, Hkl.out]
            go_wp2_with fail
            have hcall := lawMapped Hv.out Hy.out (D_m.out.below (bstep hB1.out (bstep hB2.out (bstep hB3.out hB4.out))) (fun _ h => h)) (D_y.out.below (bstep hB1.out (bstep hB2.out (bstep hB3.out hB4.out))) (fun _ h => h)) (D_b.out.below (bstep hB1.out (bstep hB2.out (bstep hB3.out hB4.out))) (fun _ h => h)) (fun k hk => Nat.lt_of_lt_of_le hk (bstep hB1.out (bstep hB2.out (bstep hB3.out hB4.out))).size) (fun k hk => Nat.lt_of_lt_of_le hk (bstep hB1.out (bstep hB2.out (bstep hB3.out hB4.out))).size) (fun k hk => Nat.lt_of_lt_of_le hk (bstep hB1.out (bstep hB2.out (bstep hB3.out hB4.out))).size)
            rw [HM.out] at hcall
            have Hcall := Lib.hid hcall
            clear hcall
            (with_reducible refine Hcall.out.mono ?_)
            rintro e w5 ⟨rfl, hbb⟩
            have hB5 : Hid (Below w4.heap.size w4 w5) := hbb
            have htn := tabStep ht hB5.out
            clear ht
            rename TabAt _ => ht
            clear Hcall
            clear hbb
            go_wp2_with fail
            have hcall := matRank (D_m.out.below (bstep hB1.out (bstep hB2.out (bstep hB3.out (bstep hB4.out hB5.out)))) (fun _ h => h)) (fun k hk => Nat.lt_of_lt_of_le hk (bstep hB1.out (bstep hB2.out (bstep hB3.out (bstep hB4.out hB5.out)))).size) ht
            rw [Hr.out, Hk.out] at hcall
            have Hcall := Lib.hid hcall
            clear hcall
            (with_reducible refine Hcall.out.mono ?_)
            rintro e w6 ⟨rfl, hbb⟩
            have hB6 : Hid (Below w5.heap.size w5 w6) := hbb
            have htn := tabStep ht hB6.out
            clear ht
            rename TabAt _ => ht
            clear Hcall
            clear hbb
            go_wp2_with fail
            have hcall := matRank (D_K.out.below (bstep hB5.out hB6.out) (fun _ h => h)) (fun k hk => Nat.lt_of_lt_of_le hk (bstep hB5.out hB6.out).size) ht
            rw [Hkl.out, HkR.out, Hkv.out] at hcall
            have Hcall := Lib.hid hcall
            clear hcall
            (with_reducible refine Hcall.out.mono ?_)
            rintro e w7 ⟨rfl, hbb⟩
            have hB7 : Hid (Below w6.heap.size w6 w7) := hbb
            have htn := tabStep ht hB7.out
            clear ht
            rename TabAt _ => ht
            clear Hcall
            clear hbb
            go_wp2_with fail
            have hcall := lawMapped Hv.out Hxl.out (D_m.out.below (bstep hB1.out (bstep hB2.out (bstep hB3.out (bstep hB4.out (bstep hB5.out (bstep hB6.out hB7.out)))))) (fun _ h => h)) (D_x.out.below (bstep hB5.out (bstep hB6.out hB7.out)) (fun _ h => h)) (D_b.out.below (bstep hB1.out (bstep hB2.out (bstep hB3.out (bstep hB4.out (bstep hB5.out (bstep hB6.out hB7.out)))))) (fun _ h => h)) (fun k hk => Nat.lt_of_lt_of_le hk (bstep hB1.out (bstep hB2.out (bstep hB3.out (bstep hB4.out (bstep hB5.out (bstep hB6.out hB7.out)))))).size) (fun k hk => Nat.lt_of_lt_of_le hk (bstep hB5.out (bstep hB6.out hB7.out)).size) (fun k hk => Nat.lt_of_lt_of_le hk (bstep hB1.out (bstep hB2.out (bstep hB3.out (bstep hB4.out (bstep hB5.out (bstep hB6.out hB7.out)))))).size)
            rw [Hs.out, Hxl.out] at hcall
            have Hcall := Lib.hid hcall
            clear hcall
            (with_reducible refine Hcall.out.mono ?_)
            rintro e w8 ⟨rfl, hbb⟩
            have hB8 : Hid (Below w7.heap.size w7 w8) := hbb
            have htn := tabStep ht hB8.out
            clear ht
            rename TabAt _ => ht
            clear Hcall
            clear hbb
            go_wp2_with fail
            go_loopw [116] (fun vi wr => ∃ k : Nat, k ≤ kk ∧ vi = .int .i64 (k : Int) ∧ Below w8.heap.size w8 wr) (fun vi _ => kk - (intOf vi).toNat)
            case atStart => exact ⟨0, by omega, rfl, Below.refl _ _⟩
            case round =>
              obtain ⟨k, hk, rfl, hbl⟩ := hrel
              obtain ⟨wx, hwx⟩ : ∃ wx : World, wx = wr := ⟨_, rfl⟩
              subst hwx
              have hB9 : Hid (Below w8.heap.size w8 wx) := hbl
              clear hbl
              have htn := tabStep ht hB9.out
              clear ht
              rename TabAt _ => ht
              by_cases hlt : k < kk
              · have hll : k < K.length := by rw [Hkl.out]; exact hlt
                obtain ⟨bl, ol, Ar, cr, rfl, hSl, hcl, hsl⟩ := rows_get ((D_K.out.below (bstep hB5.out (bstep hB6.out (bstep hB7.out (bstep hB8.out hB9.out)))) (fun _ h => h)).mono (S' := fun k => k < wx.heap.size) (fun k hk => Nat.lt_of_lt_of_le hk (bstep hB5.out (bstep hB6.out (bstep hB7.out (bstep hB8.out hB9.out)))).size)) hll
                obtain ⟨hv1, hv2⟩ := Hrow.out _ (List.getElem_mem hll)
                obtain ⟨v, hvk⟩ : ∃ v, v = K[k] := ⟨_, rfl⟩
                rw [← hvk] at hcl hsl hv1 hv2
                clear hvk hll
                rw [hv1] at hcl
                have Hv1 := Lib.hid hv1
                have Hv2 : Hid (decide (combine v (transpose m) m.length = List.replicate m.length 0) = true) := by show _ = _; rw [decide_eq_true_eq]; exact hv2
                have D_v : Hid (Bytes (fun k => k < wx.heap.size) wx Ar cr v) := hsl
                clear hv1 hv2 hsl hSl
                have hmk := make8 m.length (by omega) wx
                go_wp2_with fail
                clear hmk
                obtain ⟨wz, hwz⟩ : ∃ x, x = wx.alloc (.cells (zer8 m.length) 5) := ⟨_, rfl⟩
                rw [← hwz]
                have hB10 : Hid (Below wx.heap.size wx wz) := by show Below _ _ _; rw [hwz]; exact ba _ _
                have hz0 : Bytes (fun k => k < wz.heap.size) wz (some ⟨wx.heap.size, 0, none⟩) (List.replicate m.length (0 : UInt8)).length (List.replicate m.length 0) := by rw [hwz]; exact (lit0N wx _ rfl (List.replicate m.length 0) (by rw [List.length_replicate]; omega)).mono (fun k hk => hk.2)
                have htn := tabStep ht hB10.out
                clear ht hwz
                rename TabAt _ => ht
                have D_z : Hid (Bytes (fun k => k < wz.heap.size) wz (some ⟨wx.heap.size, 0, none⟩) (List.replicate m.length (0 : UInt8)).length (List.replicate m.length 0)) := hz0
                clear hz0
                have Hz : Hid ((List.replicate m.length (0 : UInt8)).length = m.length) := List.length_replicate ..
                have hcall := lawMapped Hv.out Hv1.out (D_m.out.below (bstep hB1.out (bstep hB2.out (bstep hB3.out (bstep hB4.out (bstep hB5.out (bstep hB6.out (bstep hB7.out (bstep hB8.out (bstep hB9.out hB10.out))))))))) (fun _ h => h)) (D_v.out.below hB10.out (fun _ h => h)) D_z.out (fun k hk => Nat.lt_of_lt_of_le hk (bstep hB1.out (bstep hB2.out (bstep hB3.out (bstep hB4.out (bstep hB5.out (bstep hB6.out (bstep hB7.out (bstep hB8.out (bstep hB9.out hB10.out))))))))).size) (fun k hk => Nat.lt_of_lt_of_le hk hB10.out.size) (fun _ h => h)
                rw [Hv2.out, Hv1.out, Hz.out] at hcall
                have Hcall := Lib.hid hcall
                clear hcall
                (with_reducible refine Hcall.out.mono ?_)
                rintro e w11 ⟨rfl, hbb⟩
                have hB11 : Hid (Below wz.heap.size wz w11) := hbb
                have htn := tabStep ht hB11.out
                clear ht
                rename TabAt _ => ht
                clear Hcall
                clear hbb
                go_wp2_with fail
                go_roundw
                case rel => exact ⟨k + 1, by omega, by go_num, (bstep hB9.out (bstep hB10.out hB11.out))⟩
                case measure => simp [intOf]; omega
              · obtain rfl : k = kk := by omega
                clear hlt hk
                go_wp2_with fail
                have hcall := refSumN 1 rfl Hxl.out (by rw [Hy.out]; exact Nat.le_refl _) (by rw [Hy.out]; omega) (D_y.out.below (bstep hB1.out (bstep hB2.out (bstep hB3.out (bstep hB4.out (bstep hB5.out (bstep hB6.out (bstep hB7.out (bstep hB8.out hB9.out)))))))) (fun _ h => h)) (D_x.out.below (bstep hB5.out (bstep hB6.out (bstep hB7.out (bstep hB8.out hB9.out)))) (fun _ h => h)) (fun k hk => Nat.lt_of_lt_of_le hk (bstep hB1.out (bstep hB2.out (bstep hB3.out (bstep hB4.out (bstep hB5.out (bstep hB6.out (bstep hB7.out (bstep hB8.out hB9.out)))))))).size) (fun k hk => Nat.lt_of_lt_of_le hk (bstep hB5.out (bstep hB6.out (bstep hB7.out (bstep hB8.out hB9.out)))).size)
                rw [one8] at hcall
                have Hcall := Lib.hid hcall
                clear hcall
                (with_reducible refine Hcall.out.mono ?_)
                rintro e w10 ⟨A5, c5, rfl, h1a, hbb⟩
                have hB10 : Hid (Below wx.heap.size wx w10) := hbb
                have htn := tabStep ht hB10.out
                clear ht
                rename TabAt _ => ht
                clear Hcall
                have D_s : Hid (Bytes (fun k => k < w10.heap.size) w10 A5 c5 (rowAdd y 1 x)) := h1a.mono (fun k hk => hk.2)
                clear h1a hbb
                rw [Hrl.out]
                cases bv
                · have Hee : Hid (exprErr K (rowAdd y 1 x) = 8) := Hex.out
                  clear Hex
                  go_wp2_with fail
                  have hcall := matExpress (D_K.out.below (bstep hB5.out (bstep hB6.out (bstep hB7.out (bstep hB8.out (bstep hB9.out hB10.out))))) (fun _ h => h)) D_s.out (fun k hk => Nat.lt_of_lt_of_le hk (bstep hB5.out (bstep hB6.out (bstep hB7.out (bstep hB8.out (bstep hB9.out hB10.out))))).size) (fun _ h => h) ht
                  rw [Hkl.out, Hrl.out, Hee.out] at hcall
                  have Hcall := Lib.hid hcall
                  clear hcall
                  (with_reducible refine Hcall.out.mono ?_)
                  rintro e w11 ⟨A7, c7, rfl, h1a, hbb⟩
                  have hB11 : Hid (Below w10.heap.size w10 w11) := hbb
                  have htn := tabStep ht hB11.out
                  clear ht
                  rename TabAt _ => ht
                  clear Hcall
                  clear h1a hbb
                  go_wp2_with fail
                  have hcall := lawSanity ht
                  have Hcall := Lib.hid hcall
                  clear hcall
                  (with_reducible refine Hcall.out.mono ?_)
                  rintro e w12 ⟨rfl, hbb⟩
                  have hB12 : Hid (Below w11.heap.size w11 w12) := hbb
                  have htn := tabStep ht hB12.out
                  clear ht
                  rename TabAt _ => ht
                  clear Hcall
                  clear hbb
                  go_wp2_with fail
                  go_ret
                  exact ⟨rfl, (bstep hB1.out (bstep hB2.out (bstep hB3.out (bstep hB4.out (bstep hB5.out (bstep hB6.out (bstep hB7.out (bstep hB8.out (bstep hB9.out (bstep hB10.out (bstep hB11.out hB12.out)))))))))))⟩
                · have Hee : Hid (exprErr K (rowAdd y 1 x) = 0) := Hex.out
                  clear Hex
                  go_wp2_with fail
                  have hcall := matExpress (D_K.out.below (bstep hB5.out (bstep hB6.out (bstep hB7.out (bstep hB8.out (bstep hB9.out hB10.out))))) (fun _ h => h)) D_s.out (fun k hk => Nat.lt_of_lt_of_le hk (bstep hB5.out (bstep hB6.out (bstep hB7.out (bstep hB8.out (bstep hB9.out hB10.out))))).size) (fun _ h => h) ht
                  rw [Hkl.out, Hrl.out, Hee.out] at hcall
                  have Hcall := Lib.hid hcall
                  clear hcall
                  (with_reducible refine Hcall.out.mono ?_)
                  rintro e w11 ⟨A7, c7, rfl, h1a, hbb⟩
                  have hB11 : Hid (Below w10.heap.size w10 w11) := hbb
                  have htn := tabStep ht hB11.out
                  clear ht
                  rename TabAt _ => ht
                  clear Hcall
                  clear h1a hbb
                  go_wp2_with fail
                  have hcall := lawSanity ht
                  have Hcall := Lib.hid hcall
                  clear hcall
                  (with_reducible refine Hcall.out.mono ?_)
                  rintro e w12 ⟨rfl, hbb⟩
                  have hB12 : Hid (Below w11.heap.size w11 w12) := hbb
                  have htn := tabStep ht hB12.out
                  clear ht
                  rename TabAt _ => ht
                  clear Hcall
                  clear hbb
                  go_wp2_with fail
                  go_ret
                  exact ⟨rfl, (bstep hB1.out (bstep hB2.out (bstep hB3.out (bstep hB4.out (bstep hB5.out (bstep hB6.out (bstep hB7.out (bstep hB8.out (bstep hB9.out (bstep hB10.out (bstep hB11.out hB12.out)))))))))))⟩
        · have q2 : ((y.length : Int) != (cols m : Int)) = true := by rw [bne_iff_ne]; omega
          clear hym
          go_wp2_with fail
          have hcall := lawSanity ht
          have Hcall := Lib.hid hcall
          clear hcall
          (with_reducible refine Hcall.out.mono ?_)
          rintro e w4 ⟨rfl, hbb⟩
          have hB4 : Hid (Below w3.heap.size w3 w4) := hbb
          have htn := tabStep ht hB4.out
          clear ht
          rename TabAt _ => ht
          clear Hcall
          clear hbb
          go_wp2_with fail
          go_ret
          exact ⟨rfl, (bstep hB1.out (bstep hB2.out (bstep hB3.out hB4.out)))⟩
      · have q1 : ((b.length : Int) != (m.length : Int)) = true := by rw [bne_iff_ne]; omega
        clear hbm
        go_wp2_with fail
        have hcall := lawSanity ht
        have Hcall := Lib.hid hcall
        clear hcall
        (with_reducible refine Hcall.out.mono ?_)
        rintro e w4 ⟨rfl, hbb⟩
        have hB4 : Hid (Below w3.heap.size w3 w4) := hbb
        have htn := tabStep ht hB4.out
        clear ht
        rename TabAt _ => ht
        clear Hcall
        clear hbb
        go_wp2_with fail
        go_ret
        exact ⟨rfl, (bstep hB1.out (bstep hB2.out (bstep hB3.out hB4.out)))⟩
    · have q0 : ((mchk m : Int) != 0) = true := by rw [bne_iff_ne]; omega
      clear km
      go_wp2_with fail
      have hcall := lawSanity ht
      have Hcall := Lib.hid hcall
      clear hcall
      (with_reducible refine Hcall.out.mono ?_)
      rintro e w4 ⟨rfl, hbb⟩
      have hB4 : Hid (Below w3.heap.size w3 w4) := hbb
      have htn := tabStep ht hB4.out
      clear ht
      rename TabAt _ => ht
      clear Hcall
      clear hbb
      go_wp2_with fail
      go_ret
      exact ⟨rfl, (bstep hB1.out (bstep hB2.out (bstep hB3.out hB4.out)))⟩
  · have fm2 : few m 20 = false := by simpa using fm
    clear fm
    go_wp2_with fail
    have hcall := lawSanity ht
    have Hcall := Lib.hid hcall
    clear hcall
    (with_reducible refine Hcall.out.mono ?_)
    rintro e w3 ⟨rfl, hbb⟩
    have hB3 : Hid (Below wd.heap.size wd w3) := hbb
    have htn := tabStep ht hB3.out
    clear ht
    rename TabAt _ => ht
    clear Hcall
    clear hbb
    go_wp2_with fail
    go_ret
    exact ⟨rfl, (bstep hB1.out (bstep hB2.out hB3.out))⟩
end Go.Proofs.YtokclgjkdpjjfaaDoor
