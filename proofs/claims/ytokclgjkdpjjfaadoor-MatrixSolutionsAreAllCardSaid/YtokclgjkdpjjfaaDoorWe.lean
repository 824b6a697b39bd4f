/-
  The walk of the reference's step of elimination.
-/
import Derived.Test.YtokclgjkdpjjfaaDoorWd
namespace Go.Proofs.YtokclgjkdpjjfaaDoor
open Go.RowKit Go.Q
variable {w : World} {S S' : Reg} {A A' : Option Addr} {cap cap' : Nat}
/-- A matrix, of old rows or new ones. -/
def GiveRows (S : Reg) (w : World) (ys : List (List UInt8)) (e : Ending) (w' : World) : Prop :=
  ∃ A cap, e = .returned (.slice A ys.length cap) ∧ Rows8 (fun k => S k ∨ fresh w w' k) w' A cap ys ∧ Below w.heap.size w w'
set_option maxHeartbeats 2000000 in
theorem refCleared {m : List (List UInt8)} {n : Nat} (r p c : Nat) (hrect : Rect m n) (hr : r < m.length) (hp : p < m.length) (hc : c < n) (hsm : m.length ≤ 1000) (hsn : n ≤ 1000)
    (hnz : (m.getD p []).getD c 0 ≠ 0) (hm : Rows8 S w A cap m) (hin : In S w) :
    Calls Tryd.prog 41 #[.slice A m.length cap, .int .i64 (r : Int), .int .i64 (p : Int), .int .i64 (c : Int)] w (GiveRows S w (clearedM m r p c)) := by
  obtain ⟨i0, hi, hz0, hz1, hz2⟩ := info_parts info43
  obtain ⟨i1, hi1, hy0, hy1, hy2⟩ := info_parts info5
  have hrect' := Lib.hid hrect
  have hl := hm.len
  obtain ⟨bm, om, Ar, capr, rfl, hSbm, hcr, hsr⟩ := rows_get hm hr
  obtain ⟨bm', om', Ap, capp, hA, _, hcp, hsp⟩ := rows_get hm hp
  simp only [Option.some.injEq, Addr.mk.injEq, and_true] at hA
  obtain ⟨rfl, rfl⟩ := hA
  have hlr : m[r].length = n := hrect _ (List.getElem_mem _)
  have hlp : m[p].length = n := hrect _ (List.getElem_mem _)
  have hcp' : c < m[p].length := by omega
  have e1 : m.getD p [] = m[p] := getD_lt _ _ hp
  have e2 : m.getD r [] = m[r] := getD_lt _ _ hr
  rw [e1, getD_lt _ _ hcp'] at hnz
  have hss : Hid (swapScale m r p c = (m.set p m[r]).set r (rowAdd (List.replicate n 0) (ginv m[p][c]) m[p])) := by
    show _ = _
    unfold swapScale; rw [e1, e2, getD_lt _ _ hcp', hlp]
  have hm' := hm
  clear hrect e1 e2
  go_enter Tryd.func41, Tryd.ntmps41
  -- the copy of the rows' list
  have hown0 : Own (slE u8E) (fun k => S k ∨ w.heap.size ≤ k) w.heap.size 43 (w.alloc (.cells #[] 43)) (some ⟨w.heap.size, 0, none⟩) 0 ([] : List (List UInt8)) := Own.empty (Nat.le_refl _)
  have hma : Rows8 S (w.alloc (.cells #[] 43)) (some ⟨bm, om, none⟩) cap m := hm.stable (fun _ h => h) (fun k hk => Below.heap_alloc _ _ _ (hin k hk))
  have Hown0 := Lib.hid hown0
  clear hown0 hm
  go_wp2_with (at_builtin; refine wpList_append_list rfl (.tmp 13) (.tmp 14) 22 rfl rfl rfl Tryd.underlying22 hi hz0 hz1 hz2 rfl rfl rfl Hown0.out ((Below.refl _ _).alloc (Nat.le_refl _) _) m rfl S hma (fun k hk => ⟨.inl hk, by have := hin k hk; simp; omega⟩) (fun a ha hk => by cases ha; exact Nat.lt_irrefl _ (hin _ hk)) (by omega) (by omega) ?_; intro A1 cap1 w1 hown1 hb1 _ _; refine pause ?_)
  simp only [List.nil_append] at hown1
  refine unpause ?_
  obtain ⟨g, u, rfl, hg1, hg2, hcg, hfg, _⟩ := hown1.cellAt rfl hp
  have hin1 : In S w1 := hin.below hb1
  have hgS : ∀ k, S k → k ≠ g := fun k hk e => by have := hin k hk; omega
  have hm1 := hm'.below hb1 hin
  have hcr1 : w1.cell? ⟨bm, om + r, none⟩ = some (.slice Ar m[r].length capr) := by rw [hb1.cell (p := ⟨bm, om + r, none⟩) (hin _ hSbm)]; exact hcr
  have hcp1 : w1.cell? ⟨bm, om + p, none⟩ = some (.slice Ap m[p].length capp) := by rw [hb1.cell (p := ⟨bm, om + p, none⟩) (hin _ hSbm)]; exact hcp
  rw [hlr] at hcr1
  rw [hlp] at hcp1
  have hown2 : Own (slE u8E) (fun k => S k ∨ w.heap.size ≤ k) w.heap.size 43 (w1.setCell ⟨g, p, none⟩ (.slice Ar n capr)) (some ⟨g, 0, none⟩) cap1 (m.set p m[r]) :=
    hown1.setCell rfl hp rfl (T := S) ⟨Ar, capr, by rw [hlr], hsr.below hb1 hin⟩ (fun k hk => ⟨.inl hk, hin1 k hk, hgS k hk⟩)
  have Hown2 := Lib.hid hown2
  clear hown1 hown2 Hown0 hma hcr hcp
  have hne1 : bm ≠ g := hgS _ hSbm
  have hne2 : g ≠ bm := fun e => hne1 e.symm
  have hlr' := Lib.hid hlr
  have hlp' := Lib.hid hlp
  clear hlr hlp
  have hb2 : Below w.heap.size w (w1.setCell ⟨g, p, none⟩ (.slice Ar n capr)) := hb1.setCell hg1 _
  have hsz1 : (w1.setCell ⟨g, p, none⟩ (.slice Ar n capr)).heap.size = w1.heap.size := by simp [World.setCell]
  have Hsz1 := Lib.hid hsz1
  clear hsz1
  go_wp2_with (at_make; refine wpList_make_list (E := u8E) (P := fun _ => False) rfl (.tmp 27) (.tmp 27) 43 rfl Tryd.underlying43 hi1 hy0 hy1 hy2 rfl rfl (0 : UInt8) (fun _ _ => rfl) rfl rfl (by omega) hb2 ?_; intro w2 hz hb3 hold hlt2; refine pause ?_)
  have hzs : Bytes (fun k => k < w2.heap.size) w2 _ n (List.replicate n (0 : UInt8)) := hz.sl (fun k hk _ => hk)
  have hown3 : Own (slE u8E) (fun k => S k ∨ w.heap.size ≤ k) w.heap.size 43 w2 (some ⟨g, 0, none⟩) cap1 (m.set p m[r]) := Hown2.out.keep (fun k hk _ => hold k hk) (Nat.le_of_lt hlt2)
  rw [Hsz1.out] at hzs
  try rw [Hsz1.out]
  generalize (some ⟨w1.heap.size, 0, none⟩ : Option Addr) = Az at hzs ⊢
  have hsm2 : Bytes S w2 Ap capp m[p] := (hsp.below hb3 hin)
  have hcp2 : w2.cell? ⟨bm, om + p, none⟩ = some (.slice Ap n capp) := by
    have := hb3.cell (p := ⟨bm, om + p, none⟩) (hin _ hSbm)
    rw [this, ← hb1.cell (p := ⟨bm, om + p, none⟩) (hin _ hSbm)]; exact hcp1
  obtain ⟨b4, o4, rfl, hSb4, hc4⟩ := bytes_get hsm2 hcp'
  have hin2 : In S w2 := hin.below hb3
  have Hown3 := Lib.hid hown3
  have hinz : In (fun k => k < w2.heap.size) w2 := fun _ h => h
  have hle4 := hsp.1
  have hle5 := hsp.2.1
  clear hown3 hz Hown2 hm1 hsr hsp hcr1 hcp1 hb2 hold Hsz1
  refine unpause ?_
  go_wp2_with (go_at_call 51; refine (refInv _ _ hnz).mono ?_; rintro e w3 ⟨rfl, rfl⟩)
  with_reducible refine (refSumN _ (by simp) hlp'.out (Nat.le_refl _) hsn hzs hsm2 hinz hin2).mono ?_
  rintro e w4 ⟨A4, cap4, rfl, hS4, hb4⟩
  have hown4 := Hown3.out.below hb4 (Nat.le_refl _)
  have hlen4 : (rowAdd (List.replicate n 0) (ginv m[p][c]) m[p]).length = n := rowAdd_len (by simp) (by rw [hlp'.out]; exact Nat.le_refl _)
  obtain ⟨g', u', hA, hg3, hg4, hcg4, hfg4, _⟩ := hown4.cellAt rfl (i := r) (by simpa using hr)
  simp only [Option.some.injEq, Addr.mk.injEq, and_true] at hA
  subst hA
  have hb5 : Below w.heap.size w w4 := hb3.trans (hb4.mono hb3.size)
  have hsz4 := hb4.size
  have hgw3 : g < w3.heap.size := by
    obtain ⟨gg, h1, h2, h3⟩ := Hown3.out.block rfl
    simp only [Addr.mk.injEq, and_true] at h1
    omega
  have hown5 : Hid (Own (slE u8E) (fun k => S k ∨ w.heap.size ≤ k) w.heap.size 43 (w4.setCell ⟨g, r, none⟩ (.slice A4 n cap4)) (some ⟨g, 0, none⟩) cap1 (swapScale m r p c)) := by
    show Own _ _ _ _ _ _ _ _
    rw [hss.out]
    refine hown4.setCell rfl (by simpa using hr) rfl (T := fresh w3 w4) ⟨A4, cap4, by rw [hlen4], hS4⟩ (fun k hk => ⟨.inr (by have := hk.1; have := hb3.size; omega), hk.2, by have := hk.1; omega⟩)
  have hb6 : Below w.heap.size w (w4.setCell ⟨g, r, none⟩ (.slice A4 n cap4)) := hb5.setCell hg3 _
  have hlm : Hid ((swapScale m r p c).length = m.length) := swapScale_length _ _ _ _
  have hrec : Hid (Rect (swapScale m r p c) n) := swapScale_rect hrect'.out hr hp
  clear hzs hsm2 hS4 hb4 hown4 Hown3 hb3 hb1 hb5 hcp2 hc4 hss
  rw [hlen4]
  clear hlen4
  go_wp2_with fail
  have hcl : Hid (clearedM m r p c = clrTo (swapScale m r p c) r c m.length) := rfl
  generalize swapScale m r p c = l1 at *
  generalize (w4.setCell ⟨g, r, none⟩ (.slice A4 n cap4)) = w5 at *
  have hgw5 : g < w5.heap.size := by
    obtain ⟨gg, h1, h2, h3⟩ := hown5.out.block rfl
    simp only [Addr.mk.injEq, and_true] at h1
    omega
  clear hcg4 hfg4 hgw3 hg4 hsz4 hcg hfg hg2 hin2 hin1 hlt2
  have hrl : r < l1.length := by rw [hlm.out]; exact hr
  have hrl' := Lib.hid hrl
  have hsm' := Lib.hid hsm
  clear hrl
  go_loopw [12] (fun k wr => ∃ i, i ≤ m.length ∧ k = .int .i64 (i : Int) ∧ Hid (Own (slE u8E) (fun k => S k ∨ w.heap.size ≤ k) w.heap.size 43 wr (some ⟨g, 0, none⟩) cap1 (clrTo l1 r c i)) ∧ Below w.heap.size w wr ∧ g < wr.heap.size) (fun k _ => m.length - (intOf k).toNat)
  case atStart => exact ⟨0, by omega, rfl, hown5, hb6, hgw5⟩
  case round =>
    clear hown5 hb6 hgw5
    obtain ⟨i, hi', rfl, hown, hbl, hgw⟩ := hrel
    by_cases hlt : i < m.length
    · by_cases hir : i = r
      · have ht : ((i : Int) != (r : Int)) = false := by rw [hir]; simp
        have hst : Hid (clrTo l1 r c (i + 1) = clrTo l1 r c i) := by show _ = _; rw [clrTo, if_pos hir]
        clear hir
        go_wp2
        go_roundw
        case rel => exact ⟨i + 1, by omega, by go_num, by show Own _ _ _ _ _ _ _ _; rw [hst.out]; exact hown.out, hbl, hgw⟩
        case measure => simp [intOf]; omega
      · have ht : ((i : Int) != (r : Int)) = true := by rw [bne_iff_ne]; omega
        have hll : (clrTo l1 r c i).length = m.length := by rw [clrTo_length, hlm.out]
        have hrc : Rect (clrTo l1 r c i) n := clrTo_rect hrec.out hrl'.out i (by rw [hlm.out]; exact hi')
        obtain ⟨g1, u1, hA1, hg1', _, hc1, hf1, A1, cap2, hu1, hs1⟩ := hown.out.cellAt rfl (i := i) (by omega)
        obtain ⟨g2, u2, hA2, _, _, hc2, hf2, A2, cap3, hu2, hs2⟩ := hown.out.cellAt rfl (i := r) (by omega)
        simp only [Option.some.injEq, Addr.mk.injEq, and_true] at hA1 hA2
        subst hA1
        obtain rfl : g = g2 := hA2
        obtain rfl := (List.cons.inj hu1).1
        obtain rfl := (List.cons.inj hu2).1
        have hli : (clrTo l1 r c i)[i].length = n := hrc _ (List.getElem_mem _)
        have hlr2 : (clrTo l1 r c i)[r].length = n := hrc _ (List.getElem_mem _)
        have hst : (clrTo l1 r c (i + 1) = (clrTo l1 r c i).set i (rowAdd (clrTo l1 r c i)[i] ((clrTo l1 r c i)[i][c]) (clrTo l1 r c i)[r])) := by
          rw [clrTo, if_neg hir, getD_lt _ _ (by omega : i < (clrTo l1 r c i).length), getD_lt _ _ (by omega : r < (clrTo l1 r c i).length), getD_lt _ _ (by omega : c < (clrTo l1 r c i)[i].length)]
        obtain ⟨b7, o7, rfl, hS7, hc7⟩ := bytes_get hs1 (i := c) (by omega)
        have hle7 := hs1.1
        have hle8 := hs1.2.1
        have hlen9 : (rowAdd (clrTo l1 r c i)[i] ((clrTo l1 r c i)[i][c]) (clrTo l1 r c i)[r]).length = n := rowAdd_len hli (by rw [hlr2]; exact Nat.le_refl _)
        rw [hli] at hc1 hle7
        rw [hlr2] at hc2
        generalize (clrTo l1 r c i)[i][c] = z at *
        generalize (clrTo l1 r c i)[i] = X at *
        generalize (clrTo l1 r c i)[r] = Y at *
        have Hli := Lib.hid hli
        have Hlr2 := Lib.hid hlr2
        have Hll := Lib.hid hll
        have Hst := Lib.hid hst
        have Hlen9 := Lib.hid hlen9
        clear hu1 hu2 hli hlr2 hll hrc hst hlen9
        generalize (clrTo l1 r c i) = li at *
        have hin9 : In (fun k => (S k ∨ w.heap.size ≤ k) ∧ k < wr.heap.size ∧ k ≠ g) wr.drew := fun k hk => hk.2.1
        have hbd : Below w.heap.size w wr.drew := hbl.trans ((Drew.one wr).below _)
        have hcall := refSumN (w := wr.drew) z Hli.out Hlr2.out (Nat.le_refl _) hsn (hs1.drew (Drew.one wr)) (hs2.drew (Drew.one wr)) hin9 hin9
        have Hcall := Lib.hid hcall
        have Hownd := Lib.hid (hown.out.drew (Drew.one wr))
        clear hcall hs1 hs2 hin9
        go_wp2
        refine wp_region_walk [0,0,0,0,0,1,0,0,0,1,0,0,1,0,0,0,1,2,2,2] [0,1,2,3,4,5,6,7,8,9,10,11,12,13,14,15,16,17,18,19] (fun w' => w'.cell? ⟨g, i, none⟩ = some (.slice (some ⟨b7, o7, none⟩) n cap2) ∧ w'.cell? ⟨g, r, none⟩ = some (.slice A2 n cap3) ∧ w'.cell? ⟨b7, o7 + c, none⟩ = some (.int .u8 (z.toNat : Int))) rfl (by kernel_rfl) rfl (by kernel_rfl) (fun _ d _ _ _ h => by cases d <;> exact h) ⟨hc1, hc2, hc7⟩ ?_
        repeat ((first | (apply walk_pure rfl rfl rfl; (intro w'; go_simp; rfl)) | (apply walk_read rfl rfl rfl; (rintro w' ⟨hs1, hs2, hs3⟩; go_simp; rfl))); simp only [Act.put, List.getElem_toArray, List.getElem_cons_zero, List.getElem_cons_succ, List.setIfInBounds_toArray, List.set_cons_zero, List.set_cons_succ])
        refine walk_rest 17 (by kernel_rfl) rfl ?_
        simp only [List.drop_succ_cons, List.drop_zero]
        go_wp2_with fail
        refine Hcall.out.mono ?_
        rintro e w6 ⟨A6, cap6, rfl, hS6, hb6⟩
        have hsz6 := hb6.size
        have hgd : g < wr.drew.heap.size := hgw
        have hown6 := Hownd.out.below hb6 (Nat.le_refl _)
        obtain ⟨g3, u3, hA3, _, hg3', hc3, hf3, _⟩ := hown6.cellAt rfl (i := i) (by rw [Hll.out]; exact hlt)
        simp only [Option.some.injEq, Addr.mk.injEq, and_true] at hA3
        obtain rfl : g = g3 := hA3
        have hown7 : Hid (Own (slE u8E) (fun k => S k ∨ w.heap.size ≤ k) w.heap.size 43 (w6.setCell ⟨g, i, none⟩ (.slice A6 n cap6)) (some ⟨g, 0, none⟩) cap1 (clrTo l1 r c (i + 1))) := by
          show Own _ _ _ _ _ _ _ _
          rw [Hst.out]
          exact hown6.setCell rfl (by rw [Hll.out]; exact hlt) rfl (T := fresh wr.drew w6) ⟨A6, cap6, by rw [Hlen9.out], hS6⟩ (fun k hk => ⟨.inr (by have := hk.1; have := hbd.size; omega), hk.2, by have := hk.1; omega⟩)
        have hb7 : Below w.heap.size w (w6.setCell ⟨g, i, none⟩ (.slice A6 n cap6)) := (hbd.trans (hb6.mono hbd.size)).setCell hg1' _
        have hg7 : g < (w6.setCell ⟨g, i, none⟩ (.slice A6 n cap6)).heap.size := by simpa [World.setCell] using hg3'
        rw [Hlen9.out]
        clear hown Hownd hown6 hS6 hb6 Hcall
        go_wp2
        go_roundw
        case rel => exact ⟨i + 1, by omega, by go_num, hown7, hb7, hg7⟩
        case measure => simp [intOf]; omega
    · obtain rfl : i = m.length := by omega
      have hfin : Hid ((clearedM m r p c).length = m.length) := clearedM_length _ _ _ _
      have hown8 := Lib.hid (hown.out.cast hcl.out.symm)
      clear hown
      go_wp2
      go_ret
      exact ⟨some ⟨g, 0, none⟩, cap1, ret_slice hfin.out.symm, hown8.out.sl (fun k hk h => by
        rcases h with (h | h) | h
        · exact .inl h
        · exact .inr ⟨h, hk⟩
        · exact .inr ⟨h, hk⟩), hbl⟩
end Go.Proofs.YtokclgjkdpjjfaaDoor
