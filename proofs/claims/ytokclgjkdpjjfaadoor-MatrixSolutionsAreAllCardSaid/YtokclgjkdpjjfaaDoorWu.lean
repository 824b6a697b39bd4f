/-
  The walk of the reference's Inverse.
-/
import Derived.Test.YtokclgjkdpjjfaaDoorWt
import Derived.Test.YtokclgjkdpjjfaaDoorWo
namespace Go.Proofs.YtokclgjkdpjjfaaDoor
open Go.RowKit Go.Q
variable {w : World} {S S' : Reg} {A A' : Option Addr} {cap cap' : Nat}
theorem inv_row {m : List (List UInt8)} {n i : Nat} (hrect : Rect m n) (hl : m.length = n) (hi : i < m.length) : (invM m)[i]'(by simpa [invM, gridM] using hi) = m[i] ++ (identity n)[i]'(by rw [identity_length]; omega) := by
  have h1 : m[i].length = n := hrect _ (List.getElem_mem hi)
  have h2 : (identity n)[i]'(by rw [identity_length]; omega) = (List.replicate n (0 : UInt8)).set i 1 := by simp [identity]
  rw [h2]
  refine List.ext_getElem (by simp [invM, gridM, h1, hl]; omega) fun k h3 h4 => ?_
  simp only [List.length_append, List.length_set, List.length_replicate] at h4
  simp only [invM, gridM, List.getElem_map, List.getElem_range, invAt]
  rw [hl]
  by_cases hk : k < n
  · rw [if_pos hk, List.getElem_append_left (by omega), getD_lt _ _ hi, getD_lt _ _ (by omega)]
  · rw [if_neg hk, List.getElem_append_right (by omega), List.getElem_set, List.getElem_replicate]
    by_cases hki : k = n + i
    · rw [if_pos hki, if_pos (by omega)]
    · rw [if_neg hki, if_neg (by omega)]
theorem inv_step {m : List (List UInt8)} {n i : Nat} (hrect : Rect m n) (hl : m.length = n) (hi : i < m.length) : (invM m).take i ++ [m[i] ++ (identity n)[i]'(by rw [identity_length]; omega)] = (invM m).take (i + 1) := by
  rw [take_succ _ _ (by simpa [invM, gridM] using hi), inv_row hrect hl hi]
theorem invM_invG (m : List (List UInt8)) : invM m = invG m m.length := rfl
theorem inv_full (m : List (List UInt8)) : (reduceM (invM m)).2.length = m.length := by rw [invM_invG]; exact rk_invG
theorem GiveMade.ends {w w1 w2 : World} {x : List (List UInt8)} {A : Option Addr} {cap : Nat} {er : Nat} {e : Ending} (hb0 : Below w.heap.size w w1) (hlt : w.heap.size < w1.heap.size) (hx : Rows8 (fresh w1 w2) w2 A cap x) (hb : Below w1.heap.size w1 w2) (u1 u2 : Value)
    (he : e = .returned (.agg #[.slice A x.length cap, .int .i64 (er : Int)])) : GiveMade w x er e ((w2.setCell ⟨w.heap.size, 0, none⟩ u1).setCell ⟨w.heap.size, 1, none⟩ u2) := by
  have key : ∀ q, fresh w1 w2 q → q ≠ w.heap.size := fun q hq => by have := hq.1; omega
  refine ⟨A, cap, he, hx.stable (fun q hq => ⟨by have := hq.1; omega, by simpa [World.setCell] using hq.2⟩) (fun q hq => ?_), ((hb0.trans (hb.mono hb0.size)).setCell (Nat.le_refl _) _).setCell (Nat.le_refl _) _⟩
  rw [Below.heap_setCell _ _ _ _ (key q hq), Below.heap_setCell _ _ _ _ (key q hq)]
set_option maxRecDepth 100000 in
set_option maxHeartbeats 4000000 in
theorem refInverse {m : List (List UInt8)} (hm : Rows8 S w A cap m) (hin : In S w) :
    Calls Tryd.prog 24 #[.slice A m.length cap] w (GiveMade w (inverseE m) (inverseErr m)) := by
  obtain ⟨i5, hi5, hy0, hy1, hy2⟩ := info_parts info5
  obtain ⟨i43, hi43, hx0, hx1, hx2⟩ := info_parts info43
  have hlm := hm.len
  obtain ⟨w0, hw0⟩ : ∃ w0, w0 = w.alloc (.cells #[.slice none 0 0, .int .i64 0] 35) := ⟨_, rfl⟩
  have hb0 : Below w.heap.size w w0 := by rw [hw0]; exact (Below.refl _ _).alloc (Nat.le_refl _) _
  have hsz0 : w0.heap.size = w.heap.size + 1 := by rw [hw0]; simp
  have hg0 : w0.heap[w.heap.size]? = some (.cells #[.slice none 0 0, .int .i64 0] 35 (0, 0)) := by
    rw [hw0]; exact heap_alloc_new w _
  have hma0 := hm.below hb0 hin
  have hia := hin.below hb0
  have Hg0 := Lib.hid hg0
  have Hsz0 := Lib.hid hsz0
  clear hm hg0 hsz0 hin
  go_enter Tryd.func24, Tryd.ntmps24
  go_wp2_with fail
  rw [← hw0]
  clear hw0
  refine (refCheck hma0).mono ?_
  rintro e w1 ⟨rfl, hd⟩
  have hb1 : Below w.heap.size w w1 := hb0.trans (hd.below _)
  have hlt1 : w.heap.size < w1.heap.size := by rw [hd.heap]; have := Hsz0.out; omega
  have hg1 : w1.heap[w.heap.size]? = some (.cells #[.slice none 0 0, .int .i64 0] 35 (0, 0)) := by rw [hd.heap]; exact Hg0.out
  have hma1 := hma0.drew hd
  have hia1 := hia.drew hd
  obtain ⟨hc0, hf0⟩ := cells_at hg1 0 (by simp)
  obtain ⟨hc1, hf1⟩ := cells_at hg1 1 (by simp)
  simp only [List.getElem_toArray, List.getElem_cons_zero, List.getElem_cons_succ] at hc0 hc1
  have Hg1 := Lib.hid hg1
  clear hma0 hd hb0 Hg0 Hsz0 hia hg1
  by_cases hx : mchk m = 0
  · have hv := mchk_valid.1 hx
    have hne : (((mchk m : Nat) : Int) != 0) = false := by rw [hx]; rfl
    have hr48 := hv.rows
    have Hrect0 : Hid (Rect m (cols m)) := hv.row
    have Hx := Lib.hid hx
    clear hx hv
    by_cases hsq : cols m = m.length
    · have ht4 : ((cols m : Int) != (m.length : Int)) = false := by rw [hsq]; simp
      have Hrect : Hid (Rect m m.length) := by have := Hrect0.out; rw [hsq] at this; exact this
      have he : Hid (inverseErr m = if (reduceM (invM m)).2 = List.range m.length then 0 else 8) := by
        show _ = _
        unfold inverseErr
        rw [if_neg (by rw [Hx.out]; simp), if_neg (by simpa using hsq)]
      have hfull := Lib.hid (inv_full m)
      clear hsq Hrect0
      go_wp2_with fail
      refine (refColumns hma1).mono ?_
      rintro e w2 ⟨rfl, hw2⟩
      obtain rfl : w1 = w2 := hw2.symm
      clear hc0 hc1 hf0 hf1
      go_wp2_with fail
      refine (refIdentity m.length (by omega)).mono ?_
      rintro e w2 ⟨A1, cap1, rfl, hI, hb2⟩
      have hIl : (identity m.length).length = m.length := identity_length
      have HIl := Lib.hid hIl
      rw [hIl]
      have hb12 : Below w.heap.size w w2 := hb1.trans (hb2.mono (by omega))
      have hlt2 : w.heap.size < w2.heap.size := by have := hb2.size; omega
      have Hg2 : Hid (w2.heap[w.heap.size]? = some (.cells #[.slice none 0 0, .int .i64 0] 35 (0, 0))) := by show _ = _; rw [hb2.block _ hlt1]; exact Hg1.out
      have hma2 := hma1.below hb2 hia1
      have hia2 := hia1.below hb2
      have HI := Lib.hid hI
      have hiI : In (fresh w1 w2) w2 := fresh_in
      clear hIl hma1 hb1 Hg1 hb2 hI hlt1
      go_wp2_with fail
      go_loopw [6, 7] (fun v k wr => ∃ i A3 cap3, i ≤ m.length ∧ k = .int .i64 (i : Int) ∧ v = .slice A3 i cap3 ∧ Hid (Own (slE u8E) (fun k => w2.heap.size ≤ k) w2.heap.size 43 wr A3 cap3 ((invM m).take i)) ∧ Below w2.heap.size w2 wr) (fun _ k _ => m.length - (intOf k).toNat)
      case atStart => exact ⟨0, none, 0, by omega, rfl, rfl, Own.nil, Below.refl _ _⟩
      case round =>
        obtain ⟨i, A3, cap3, hi', rfl, rfl, hown, hbl⟩ := hrel
        obtain ⟨wx, hwx⟩ : ∃ wx : World, wx = wr := ⟨_, rfl⟩
        subst hwx
        by_cases hlt : i < m.length
        · have hma := hma2.below hbl hia2
          have hIx := HI.out.below hbl hiI
          have hltI : i < (identity m.length).length := by rw [HIl.out]; exact hlt
          obtain ⟨bm, om, Ar, cr, rfl, hSm, hcr, hsr⟩ := rows_get hma hlt
          obtain ⟨bi, oi, Ai, ci, rfl, hSi, hci, hsi⟩ := rows_get hIx hltI
          have hrl : m[i].length = m.length := Hrect.out _ (List.getElem_mem _)
          have hil : (identity m.length)[i].length = m.length := identity_rect _ (List.getElem_mem _)
          have Hst := Lib.hid (inv_step Hrect.out rfl hlt)
          have hlen : Hid (((invM m).take i).length = i) := by show _ = _; simp [invM, gridM]; omega
          have hiar : In S wx := hia2.below hbl
          have hiir : In (fresh w1 w2) wx := hiI.below hbl
          have Hsr := Lib.hid hsr
          have Hsi := Lib.hid hsi
          have hler := hsr.1
          have hlei := hsi.1
          have hle2 := hsr.2.1
          have hle3 := hsi.2.1
          have hlr : (m[i] ++ (identity m.length)[i]).length = m.length + m.length := by simp [hrl, hil]
          have Hlr := Lib.hid hlr
          have Hrl := Lib.hid hrl
          have Hil := Lib.hid hil
          rw [hrl] at hcr
          rw [hil] at hci
          generalize (identity m.length)[i] = Y at *
          generalize m[i] = X at *
          clear hma hIx hsr hsi hrl hil hlr
          have hS : ∀ w', Below wx.heap.size wx w' → (w'.cell? ⟨bm, om + i, none⟩ = some (.slice Ar m.length cr) ∧ w'.cell? ⟨bi, oi + i, none⟩ = some (.slice Ai m.length ci)) := fun w' hb' =>
            ⟨by rw [hb'.cell (p := ⟨bm, om + i, none⟩) (hiar _ hSm)]; exact hcr, by rw [hb'.cell (p := ⟨bi, oi + i, none⟩) (hiir _ hSi)]; exact hci⟩
          have HS := Lib.hid hS
          clear hS
          go_wp2_with fail
          refine wp_region_walk [0,2,0,0,0,1,2,0,0,0,1,2,2,2,2] [0,2,3,4,5,7,8,9,10,1,6,11,12,13,14] (fun w' => w'.cell? ⟨bm, om + i, none⟩ = some (.slice Ar m.length cr) ∧ w'.cell? ⟨bi, oi + i, none⟩ = some (.slice Ai m.length ci)) rfl (by kernel_rfl) rfl (by kernel_rfl) (fun _ d _ _ _ h => by cases d <;> exact h) ⟨hcr, hci⟩ ?_
          repeat ((first | (apply walk_pure rfl rfl rfl; (intro w'; go_simp; rfl)) | (apply walk_read rfl rfl rfl; (rintro w' ⟨hs1, hs2⟩; go_simp; rfl))); simp only [Act.put, List.getElem_toArray, List.getElem_cons_zero, List.getElem_cons_succ, List.setIfInBounds_toArray, List.set_cons_zero, List.set_cons_succ])
          have hd : Below wx.heap.size wx wx.drew := (Drew.one wx).below _
          have hE : Own u8E (fun _ => True) wx.heap.size 5 (wx.drew.alloc (.cells #[] 5)) (some ⟨wx.drew.heap.size, 0, none⟩) 0 ([] : List UInt8) := Own.empty (Nat.le_refl _)
          have hbE : Below wx.heap.size wx (wx.drew.alloc (.cells #[] 5)) := hd.alloc (Nat.le_refl _) _
          refine walk_op rfl rfl rfl (fun K hK => ?_)
          go_simp
          refine hK _ _ (fun _ => HS.out _ hbE) ?_
          clear hK K
          refine walk_op' rfl rfl rfl (fun K hK => ?_)
          refine wp_of_list (ops := #[]) rfl ?_
          refine wpList_append_any (w0 := wx) rfl (.tmp 32) (.tmp 36) 43 rfl rfl rfl Tryd.underlying43 hi5 hy0 hy1 hy2 rfl rfl rfl hE hbE X Hrl.out S (Hsr.out.below' hbE hiar) (fun k hk => ⟨trivial, by have := hiar k hk; simp; omega⟩) (fun a ha hk => by cases ha; exact Nat.lt_irrefl _ (hiar _ hk)) (by omega) ?_
          intro A4 c4 w4 ho4 hb4 hold4 hA4
          refine hK _ _ (fun _ => HS.out _ hb4) ?_
          clear hK K
          simp only [Act.put, List.getElem_toArray, List.getElem_cons_zero, List.getElem_cons_succ, List.setIfInBounds_toArray, List.set_cons_zero, List.set_cons_succ, Nat.zero_add]
          have ho5 : Own u8E (fun _ => True) wx.heap.size 5 w4 A4 c4 X := ho4
          refine walk_rest 11 (by kernel_rfl) rfl ?_
          simp only [List.drop_succ_cons, List.drop_zero]
          have HsY := Lib.hid (Hsi.out.below' hb4 hiir)
          have hin4 : Hid (In (fresh w1 w2) w4) := hiir.below hb4
          have hA4' : Hid (∀ a, A4 = some a → ¬ fresh w1 w2 a.block) := fun a ha hk => by
            have h1 := hiir _ hk
            rcases hA4.2 with h | h
            · rw [h] at ha; cases ha; simp at h1
            · rw [h] at ha; cases ha; simp at h1; omega
          clear hE hbE ho4 hd hcr hci hold4 hA4
          refine wpList_append_any (w0 := wx) rfl (.tmp 37) (.tmp 41) 43 rfl rfl rfl Tryd.underlying43 hi5 hy0 hy1 hy2 rfl rfl Hrl.out ho5 hb4 Y Hil.out (fresh w1 w2) HsY.out (fun k hk => ⟨trivial, hin4.out k hk⟩) hA4'.out (by omega) ?_
          intro A5 c5 w5 ho6 hb5 hold5 hA5
          have hsl6 : Bytes (fun k => wx.heap.size ≤ k ∧ k < w5.heap.size) w5 A5 c5 (X ++ Y) := (ho6.bare (P' := fun _ => False)).sl (fun k hk h => ⟨by rcases h with h | h; exact h.elim; exact h, hk⟩)
          have Hrep : Hid ((slE u8E).rep (fun k => wx.heap.size ≤ k ∧ k < w5.heap.size) w5 [.slice A5 (m.length + m.length) c5] (X ++ Y)) := ⟨A5, c5, by rw [Hlr.out], hsl6⟩
          have hown5 := Lib.hid (hown.out.below hb5 (Nat.le_refl _))
          have hszx := hbl.size
          have hTA : Hid (∀ a, A3 = some a → ¬ (wx.heap.size ≤ a.block ∧ a.block < w5.heap.size)) := fun a ha hk => by
            obtain ⟨g, rfl, h1, h2⟩ := hown.out.block ha
            exact Nat.lt_irrefl _ (Nat.lt_of_lt_of_le h2 hk.1)
          have hb50 := Lib.hid (hbl.trans (hb5.mono hszx))
          clear ho5 hb4 ho6 hb5 hold5 hA5 hsl6 hown hA4' HsY hin4
          go_wp2_with (at_builtin; refine wpList_append_box (w0 := w2) rfl (.tmp 31) (.tmp 43) 22 rfl rfl rfl Tryd.underlying22 hi43 hx0 hx1 hx2 rfl (by decide) hlen.out hown5.out hb50.out (X ++ Y) (fun k => wx.heap.size ≤ k ∧ k < w5.heap.size) Hrep.out (fun k hk => ⟨by have := hk.1; omega, hk.2⟩) hTA.out (by omega) ?_; intro A6 c6 w6 ho7 hb6 _ _; refine pause ?_)
          have ho8 : Hid (Own (slE u8E) (fun k => w2.heap.size ≤ k) w2.heap.size 43 w6 A6 c6 ((invM m).take (i + 1))) := Lib.hid (ho7.cast Hst.out)
          clear ho7 hown5 hTA Hrep hb50 hbl Hst hlen
          refine unpause ?_
          go_wp2
          go_roundw
          case rel => exact ⟨i + 1, A6, c6, by omega, by go_num, rfl, ho8, hb6⟩
          case measure => simp [intOf]; omega
        · obtain rfl : i = m.length := by omega
          have hlen2 : (invM m).length = m.length := gridM_length _ _ _
          have hbsl : Rows8 (fresh w2 wx) wx A3 cap3 (invM m) := (hown.out.cast (show _ = invM m by rw [← hlen2, List.take_length])).sl (fun k hk h => ⟨by rcases h with h | h <;> exact h, hk⟩)
          have hrect1 : Rect (invM m) (cols (invM m)) := gridM_rect' _ _ _
          have hcle : cols (invM m) ≤ 2 * m.length := gridM_cols_le _ _ _
          have hcore := refReduce hrect1 (by rw [hlen2]; omega) (by omega) hbsl fresh_in
          rw [hlen2] at hcore
          have Hcore := Lib.hid hcore
          have hbw : Below w.heap.size w wx := hb12.trans (hbl.mono (by omega))
          have hltx : w.heap.size < wx.heap.size := by have := hbl.size; omega
          have hl2x : w2.heap.size ≤ wx.heap.size := hbl.size
          have Hgx : Hid (wx.heap[w.heap.size]? = some (.cells #[.slice none 0 0, .int .i64 0] 35 (0, 0))) := by show _ = _; rw [hbl.block _ hlt2]; exact Hg2.out
          obtain ⟨hv1, hv2, hv3, hv4, hv5⟩ := reduceM_inv hrect1
          have Hcols : Hid (0 < m.length → cols (invM m) = 2 * m.length) := fun h => cols_gridM _ h
          have hIE : Hid (inverseE m = if inverseErr m = 0 then gridM m.length m.length (fun i k => ((reduceM (invM m)).1.getD i []).getD (m.length + k) 0) else []) := rfl
          clear hown hlt hi' hbsl hlen2 hrect1 hcore hbl hb12 Hg2 hma2 hia2 HI hiI Hrect HIl hv3 hv4 hv5
          generalize hR : reduceM (invM m) = R at *
          have Hv1 := Lib.hid hv1
          have Hv2 := Lib.hid hv2
          clear hR hv1 hv2
          go_wp2_with fail
          refine Hcore.out.mono ?_
          rintro e w3 ⟨A8, cap8, Ap, capp, rfl, hR1, hR2, hb3⟩
          have hR1l := hR1.len
          have hR2l := hR2.len
          have hbw3 := Lib.hid (hbw.trans (hb3.mono (by omega)))
          have hlt3 : w.heap.size < w3.heap.size := by have := hb3.size; omega
          have hl23 : w2.heap.size ≤ w3.heap.size := by have := hb3.size; omega
          have hG3 : Hid (w3.heap[w.heap.size]? = some (.cells #[.slice none 0 0, .int .i64 0] 35 (0, 0))) := by show _ = _; rw [hb3.block _ hltx]; exact Hgx.out
          obtain ⟨w4, hw4⟩ : ∃ w4, w4 = w3.alloc (.cells #[.slice A8 R.1.length cap8, .slice Ap R.2.length capp] 38) := ⟨_, rfl⟩
          obtain ⟨g9, hg9⟩ : ∃ g, g = w3.heap.size := ⟨_, rfl⟩
          have Hg9 : Hid (w4.heap[g9]? = some (.cells #[.slice A8 R.1.length cap8, .slice Ap R.2.length capp] 38 (0, 0))) := by show _ = _; rw [hw4, hg9]; exact heap_alloc_new w3 _
          have hb34 : Below w3.heap.size w3 w4 := by rw [hw4]; exact (Below.refl _ _).alloc (Nat.le_refl _) _
          have hsz4 : w4.heap.size = w3.heap.size + 1 := by rw [hw4]; simp
          have hinR : In (fun k => fresh w2 wx k ∨ fresh wx w3 k) w3 := fun k hk => by
            rcases hk with h | h
            · exact Nat.lt_of_lt_of_le h.2 hb3.size
            · exact h.2
          have hM4 : Rows8 (fun k => w2.heap.size ≤ k ∧ k < w3.heap.size) w4 A8 cap8 R.1 := (hR1.below hb34 hinR).mono (fun k hk => ⟨by rcases hk with h | h; exact h.1; have := h.1; omega, hinR k hk⟩)
          have HM4 := Lib.hid hM4
          have HI4 := Lib.hid (hR2.below hb34 fresh_in)
          have hinM : In (fun k => w2.heap.size ≤ k ∧ k < w3.heap.size) w4 := fun k hk => by have := hk.2; omega
          have hinI : In (fresh wx w3) w4 := fun k hk => by have := hk.2; omega
          have hbw4 := Lib.hid (hbw3.out.trans (hb34.mono (by omega)))
          have hG4 : Hid (w4.heap[w.heap.size]? = some (.cells #[.slice none 0 0, .int .i64 0] 35 (0, 0))) := by show _ = _; rw [hb34.block _ hlt3]; exact hG3.out
          have hle39 : w3.heap.size ≤ g9 := by omega
          have hle94 : g9 < w4.heap.size := by omega
          have hl24 : w2.heap.size ≤ w4.heap.size := by omega
          have hltw4 : w.heap.size < w4.heap.size := by omega
          have Hinv : Hid (∀ k (h : k < R.1.length), R.1[k].length = m.length + m.length) := fun k h => by
            rw [Hv2.out _ (List.getElem_mem _), Hcols.out (by have := hfull.out; rw [Hv1.out] at h; omega)]; omega
          have Hl1 : Hid (R.1.length = m.length) := by show _ = _; rw [Hv1.out]; exact hfull.out
          clear Hcore hR1 hR2 hb3 hG3 hb34 hM4 hbw3 hbw Hgx hinR Hv1 Hv2 hcle
          go_wp2_with fail
          rw [← hw4, ← hg9]
          clear hw4 hg9 hsz4
          go_loopw [9, 10] (fun v9 vk wr => ∃ (k : Nat) (A9 : Option Addr) (cap9 : Nat), k ≤ m.length ∧ vk = .int .i64 (k : Int) ∧ v9 = .slice A9 k cap9 ∧ Hid (∀ j (h : j < R.2.length), j < k → R.2[j] = j) ∧ Hid (Own (slE u8E) (fun k => w2.heap.size ≤ k) w4.heap.size 43 wr A9 cap9 ((gridM m.length m.length (fun i k => (R.1.getD i []).getD (m.length + k) 0)).take k)) ∧ Below w4.heap.size w4 wr) (fun _ vk _ => m.length - (intOf vk).toNat)
          case atStart => exact ⟨0, none, 0, by omega, rfl, rfl, fun j h h0 => by omega, Own.nil, Below.refl _ _⟩
          case round =>
            obtain ⟨k, A9, cap9, hk, rfl, rfl, hall, hown, hbl⟩ := hrel
            have h9 : wr.heap[g9]? = some (.cells #[.slice A8 R.1.length cap8, .slice Ap R.2.length capp] 38 (0, 0)) := by rw [hbl.block _ hle94]; exact Hg9.out
            obtain ⟨hc90, _⟩ := cells_at h9 0 (by simp)
            obtain ⟨hc91, _⟩ := cells_at h9 1 (by simp)
            simp only [List.getElem_toArray, List.getElem_cons_zero, List.getElem_cons_succ] at hc90 hc91
            have hgr : wr.heap[w.heap.size]? = some (.cells #[.slice none 0 0, .int .i64 0] 35 (0, 0)) := by rw [hbl.block _ hltw4]; exact hG4.out
            obtain ⟨hc0, hf0⟩ := cells_at hgr 0 (by simp)
            obtain ⟨hc1, hf1⟩ := cells_at hgr 1 (by simp)
            simp only [List.getElem_toArray, List.getElem_cons_zero, List.getElem_cons_succ] at hc0 hc1
            clear h9 hgr
            have hI := HI4.out.below hbl hinI
            have hM := HM4.out.below hbl hinM
            by_cases hltk : k < m.length
            · have hltR : k < R.2.length := by rw [hfull.out]; exact hltk
              have hltM : k < R.1.length := by rw [Hl1.out]; exact hltk
              obtain ⟨bp, op, rfl, _, hcp, hple⟩ := ints_get hI hltR
              obtain ⟨bq, oq, Ar, cr, rfl, _, hcr, hsr⟩ := rows_get hM hltM
              have hrl := Hinv.out k hltM
              rw [hrl] at hcr
              by_cases hpk : R.2[k] = k
              · have htest : ((R.2[k] : Int) != (k : Int)) = false := by rw [hpk]; simp
                have hall2 : Hid (∀ j (h : j < R.2.length), j < k + 1 → R.2[j] = j) := fun j h h0 => by
                  by_cases hjk : j = k
                  · subst hjk; exact hpk
                  · exact hall.out j h (by omega)
                have hcrle := hsr.1
                have hcrle2 := hsr.2.1
                rw [hrl] at hcrle
                cases Ar with
                | none => have := hsr.2.2.1 rfl; omega
                | some ar =>
                  obtain ⟨bv, ov, e1, hSv, _⟩ := hsr.2.2.2 _ rfl (by omega)
                  subst e1
                  have hdrop := hsr.drop rfl m.length (by omega)
                  have hdl : Hid ((R.1[k].drop m.length).length = m.length) := by show _ = _; rw [List.length_drop, hrl]; omega
                  have hstep : Hid ((gridM m.length m.length (fun i k => (R.1.getD i []).getD (m.length + k) 0)).take k ++ [R.1[k].drop m.length] = (gridM m.length m.length (fun i k => (R.1.getD i []).getD (m.length + k) 0)).take (k + 1)) := by
                    show _ = _
                    rw [← gridM_step _ _ _ _ hltk]
                    congr 2
                    refine List.ext_getElem (by simp [hrl]) fun j h1 h2 => ?_
                    have hj : j < m.length := by simpa using h2
                    simp only [List.getElem_drop, List.getElem_map, List.getElem_range]
                    rw [getD_lt _ _ hltM, getD_lt _ _ (by omega)]
                  have hlenk : Hid (((gridM m.length m.length (fun i k => (R.1.getD i []).getD (m.length + k) 0)).take k).length = k) := by show _ = _; rw [List.length_take, gridM_length]; omega
                  have hRl : Hid (R.1.length = m.length) := Hl1.out
                  have Hdrop := Lib.hid hdrop
                  have hcap2 : m.length ≤ cr - m.length := by omega
                  generalize R.2[k] = p at *
                  generalize R.1[k].drop m.length = D at *
                  have hszr := hbl.size
                  have hTA : Hid (∀ a, A9 = some a → ¬ (w2.heap.size ≤ a.block ∧ a.block < w3.heap.size)) := fun a ha hk => by
                    obtain ⟨g, rfl, h1, h2⟩ := hown.out.block ha
                    have := hk.2
                    simp only at this
                    omega
                  clear hsr hrl hpk hdrop hI hM hall
                  have e2 : ((2 : Int) * m.length) = m.length + m.length := by omega
                  clear e2
                  go_wp2_with (at_builtin; refine pause ?_)
                  refine unpause ?_
                  refine wpList_append_box (w0 := w4) rfl (.tmp 60) (.tmp 68) 22 rfl rfl rfl Tryd.underlying22 hi43 hx0 hx1 hx2 rfl (by decide) hlenk.out hown.out hbl D (fun k => w2.heap.size ≤ k ∧ k < w3.heap.size) ⟨some ⟨bv, ov + m.length, none⟩, cr - m.length, by rw [hdl.out], Hdrop.out⟩ (fun k hk => ⟨hk.1, by have := hk.2; omega⟩) hTA.out (by omega) ?_
                  intro A10 c10 w5 ho5 hb5 _ _
                  have ho6 : Hid _ := Lib.hid (ho5.cast hstep.out)
                  clear ho5 hown hbl hTA Hdrop hc0 hc1 hf0 hf1 hc90 hc91
                  go_wp2_with fail
                  go_roundw
                  case rel => exact ⟨k + 1, A10, c10, by omega, by go_num, rfl, hall2, ho6, hb5⟩
                  case measure => simp [intOf]; omega
              · have htest : ((R.2[k] : Int) != (k : Int)) = true := by rw [bne_iff_ne]; exact fun h => hpk (Int.ofNat_inj.1 h)
                have he8 : Hid (inverseErr m = 8) := by
                  show _ = _
                  rw [he.out, if_neg]
                  intro h
                  apply hpk
                  simp [h]
                have hE : Hid (inverseE m = []) := by show _ = _; rw [hIE.out, he8.out]; rfl
                generalize R.2[k] = p at *
                clear hpk he hI hM hsr hrl hown
                go_wp2_with fail
                refine bodyPost_ret (v := .agg #[.slice none 0 0, .int .i64 8]) (by simp [results, Tryd.results24, go_sem, hc0, hc1]) rfl ?_
                rw [hE.out, he8.out]
                exact GiveMade.ends (hbw4.out.trans (hbl.mono (by omega))) (by have := hbl.size; omega) Sl.nil (Below.refl _ _) _ _ rfl
            · obtain rfl : k = m.length := by omega
              have he0 : Hid (inverseErr m = 0) := by
                show _ = _
                rw [he.out, if_pos]
                refine List.ext_getElem (by rw [hfull.out]; simp) fun j h1 h2 => ?_
                rw [hall.out j h1 (by rw [← hfull.out]; exact h1)]; simp
              have HE : Hid (inverseE m = gridM m.length m.length (fun i k => (R.1.getD i []).getD (m.length + k) 0)) := by
                show _ = _
                rw [hIE.out, he0.out]; rfl
              have hgl : Hid ((inverseE m).length = m.length) := by show _ = _; rw [HE.out]; exact gridM_length _ _ _
              have hrows : Hid (Rows8 (fun k => w2.heap.size ≤ k ∧ k < wr.heap.size) wr A9 cap9 (inverseE m)) := by
                show Sl _ _ _ _ _ _
                refine (hown.out.cast (show _ = inverseE m from ?_)).sl (fun k hk h => ⟨by rcases h with h | h; exact h; omega, hk⟩)
                rw [List.take_of_length_le (by rw [gridM_length]; exact Nat.le_refl _), HE.out]
              have hbf : Hid (Below w.heap.size w wr) := hbw4.out.trans (hbl.mono (by omega))
              clear hown hI hM hall hc90 hc91
              go_wp2_with fail
              refine bodyPost_ret (v := .agg #[.slice A9 m.length cap9, .int .i64 0]) (by simp [results, Tryd.results24, go_sem, hc0, hc1]) rfl ?_
              rw [he0.out]
              refine ⟨A9, cap9, by rw [hgl.out]; rfl, hrows.out.stable (fun q hq => ⟨by have := hq.1; omega, by simpa [World.setCell] using hq.2⟩) (fun q hq => ?_), (hbf.out.setCell (Nat.le_refl _) _).setCell (Nat.le_refl _) _⟩
              have hne : q ≠ w.heap.size := by have := hq.1; omega
              rw [Below.heap_setCell _ _ _ _ hne, Below.heap_setCell _ _ _ _ hne]
    · have ht4 : ((cols m : Int) != (m.length : Int)) = true := by rw [bne_iff_ne]; omega
      have he : Hid (inverseErr m = 1) := by
        show _ = _
        unfold inverseErr
        rw [if_neg (by rw [Hx.out]; simp), if_pos hsq]
      have hE : Hid (inverseE m = []) := by show _ = _; unfold inverseE; rw [he.out]; rfl
      clear hsq
      go_wp2_with fail
      refine (refColumns hma1).mono ?_
      rintro e w2 ⟨rfl, hw2⟩
      obtain rfl : w1 = w2 := hw2.symm
      clear hma1
      go_wp2_with fail
      refine bodyPost_ret (v := .agg #[.slice none 0 0, .int .i64 1]) (by simp [results, Tryd.results24, go_sem, hc0, hc1]) rfl ?_
      rw [hE.out, he.out]
      exact GiveMade.ends hb1 hlt1 Sl.nil (Below.refl _ _) _ _ rfl
  · have hne : (((mchk m : Nat) : Int) != 0) = true := by rw [bne_iff_ne]; omega
    have he : Hid (inverseErr m = mchk m) := by
      show _ = _
      unfold inverseErr
      rw [if_pos hx]
    have hE : Hid (inverseE m = []) := by show _ = _; unfold inverseE; rw [if_neg (by rw [he.out]; exact hx)]
    clear hx hma1
    go_wp2_with fail
    refine bodyPost_ret (v := .agg #[.slice none 0 0, .int .i64 (mchk m : Nat)]) (by simp [results, Tryd.results24, go_sem, hc0, hc1]) rfl ?_
    rw [hE.out, he.out]
    exact GiveMade.ends hb1 hlt1 Sl.nil (Below.refl _ _) _ _ rfl
end Go.Proofs.YtokclgjkdpjjfaaDoor
