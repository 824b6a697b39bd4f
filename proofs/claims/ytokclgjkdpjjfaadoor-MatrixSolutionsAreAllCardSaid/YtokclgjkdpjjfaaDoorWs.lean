/-
  The walk of the reference's solutions.
-/
import Derived.Test.YtokclgjkdpjjfaaDoorWm
import Derived.Test.YtokclgjkdpjjfaaDoorBas2
import Derived.Test.YtokclgjkdpjjfaaDoorWf
namespace Go.Proofs.YtokclgjkdpjjfaaDoor
open Go.RowKit Go.Q
variable {w : World} {S S' : Reg} {A A' : Option Addr} {cap cap' : Nat}
/-- The error of a system. -/
def solEr (s : Option (List UInt8 × List (List UInt8))) : Nat := if s.isSome then 0 else 8
def GiveSolved (w : World) (x : List UInt8) (k : List (List UInt8)) (er : Nat) (e : Ending) (w' : World) : Prop :=
  ∃ A cap A' cap', e = .returned (.agg #[.slice A x.length cap, .slice A' k.length cap', .int .i64 (er : Int)]) ∧ Bytes (fresh w w') w' A cap x ∧ Rows8 (fresh w w') w' A' cap' k ∧ Below w.heap.size w w'
theorem both_row {m : List (List UInt8)} {b : List UInt8} {u i : Nat} (hrect : Rect m u) (hi : i < m.length) (hb : i < b.length) : (bothM m b u)[i]'(by simpa [bothM, gridM] using hi) = m[i] ++ [b[i]] := by
  have h1 : m[i].length = u := hrect _ (List.getElem_mem hi)
  refine List.ext_getElem (by simp [bothM, gridM, h1]) fun k h2 h3 => ?_
  simp only [bothM, gridM, List.getElem_map, List.getElem_range]
  simp only [List.length_append, List.length_singleton] at h3
  by_cases hk : k < u
  · rw [if_pos hk, List.getElem_append_left (by omega), getD_lt _ _ hi, getD_lt _ _ (by omega)]
  · rw [if_neg hk, List.getElem_append_right (by omega), getD_lt _ _ hb]
    simp
theorem both_step {m : List (List UInt8)} {b : List UInt8} {u i : Nat} (hrect : Rect m u) (hi : i < m.length) (hb : i < b.length) : (bothM m b u).take i ++ [m[i] ++ [b[i]]] = (bothM m b u).take (i + 1) := by
  rw [take_succ _ _ (by simpa [bothM, gridM] using hi), both_row hrect hi hb]
set_option maxRecDepth 100000 in
set_option maxHeartbeats 4000000 in
theorem refSolutions {m : List (List UInt8)} {b : List UInt8} {u : Nat} (hrect : Rect m u) (hbl : b.length = m.length) (hsm : m.length ≤ 48) (hsu : u ≤ 48) (hm : Rows8 S w A cap m) (hb : Bytes S' w A' cap' b) (hina : In S w) (hinb : In S' w) :
    Calls Tryd.prog 43 #[.slice A m.length cap, .slice A' b.length cap', .int .i64 (u : Int)] w (GiveSolved w (((solveM m b u).map (·.1)).getD []) (((solveM m b u).map (·.2)).getD []) (solEr (solveM m b u))) := by
  obtain ⟨i5, hi5, hy0, hy1, hy2⟩ := info_parts info5
  obtain ⟨i43, hi43, hx0, hx1, hx2⟩ := info_parts info43
  obtain ⟨w0, hw0⟩ : ∃ w0, w0 = w.alloc (.cells #[.slice none 0 0, .slice none 0 0, .int .i64 0] 47) := ⟨_, rfl⟩
  have hb0 : Below w.heap.size w w0 := by rw [hw0]; exact (Below.refl _ _).alloc (Nat.le_refl _) _
  have hsz0 : w0.heap.size = w.heap.size + 1 := by rw [hw0]; simp
  have hg0 : w0.heap[w.heap.size]? = some (.cells #[.slice none 0 0, .slice none 0 0, .int .i64 0] 47 (0, 0)) := by
    rw [hw0]; exact heap_alloc_new w _
  have Hma0 := Lib.hid (hm.below hb0 hina)
  have Hmb0 := Lib.hid (hb.below hb0 hinb)
  have hlm := hm.len
  have Hg0 := Lib.hid hg0
  have Hsz0 := Lib.hid hsz0
  have Hrect := Lib.hid hrect
  have Hbl := Lib.hid hbl
  have hia := hina.below hb0
  have hib := hinb.below hb0
  clear hm hb hg0 hsz0 hrect hbl hina hinb
  go_enter Tryd.func43, Tryd.ntmps43
  go_wp2_with fail
  rw [← hw0]
  clear hw0
  go_loopw [7, 8] (fun v k wr => ∃ i A1 cap1, i ≤ m.length ∧ k = .int .i64 (i : Int) ∧ v = .slice A1 i cap1 ∧ Hid (Own (slE u8E) (fun k => w0.heap.size ≤ k) w0.heap.size 43 wr A1 cap1 ((bothM m b u).take i)) ∧ Below w0.heap.size w0 wr) (fun _ k _ => m.length - (intOf k).toNat)
  case atStart => exact ⟨0, none, 0, by omega, rfl, rfl, Own.nil, Below.refl _ _⟩
  case round =>
    obtain ⟨i, A1, cap1, hi', rfl, rfl, hown, hbl⟩ := hrel
    obtain ⟨wx, hwx⟩ : ∃ wx : World, wx = wr := ⟨_, rfl⟩
    subst hwx
    by_cases hlt : i < m.length
    · have hma := Hma0.out.below hbl hia
      have hmb := Hmb0.out.below hbl hib
      have hltb : i < b.length := by rw [Hbl.out]; exact hlt
      obtain ⟨bm, om, Ar, cr, rfl, hSm, hcr, hsr⟩ := rows_get hma hlt
      obtain ⟨bb, ob, rfl, hSb, hcb⟩ := bytes_get hmb hltb
      have hrl : m[i].length = u := Hrect.out _ (List.getElem_mem _)
      have Hst := Lib.hid (both_step Hrect.out hlt hltb)
      have hlen : Hid (((bothM m b u).take i).length = i) := by show _ = _; simp [bothM, gridM]; omega
      have hiar : In S wx := hia.below hbl
      have hler := hsr.1
      have hle2 := hsr.2.1
      have Hsr := Lib.hid hsr
      have hlr : (m[i] ++ [b[i]]).length = u + 1 := by simp [hrl]
      have Hlr := Lib.hid hlr
      have Hrl := Lib.hid hrl
      rw [hrl] at hcr
      generalize b[i] = y at *
      generalize m[i] = X at *
      clear hma hmb hsr hrl hlr
      go_wp2_with fail
      refine wp_region_ord [0,2,0,0,0,1,2,0,0,0,1,2,2,2,2,2] (.one 0 (.one 2 (.one 3 (.one 4 (.one 5 (.one 7 (.one 8 (.one 9 (.one 10 (.alt 1 11 (.alt 6 11 (.one 11 (ones [12,13,14,15])) (.one 6 (ones [12,13,14,15]))) (.one 1 (.one 6 (ones [12,13,14,15])))))))))))))
        (fun w' => w'.cell? ⟨bm, om + i, none⟩ = some (.slice Ar u cr) ∧ w'.cell? ⟨bb, ob + i, none⟩ = some (u8v y)) rfl (by kernel_rfl) rfl (by kernel_rfl) (fun _ d _ _ _ h => by cases d <;> exact h) ⟨hcr, hcb⟩ ?_
      repeat ((first | (apply ord_pure rfl rfl rfl; (intro w'; go_simp; rfl)) | (apply ord_read rfl rfl rfl; (rintro w' ⟨hs1, hs2⟩; go_simp; rfl))); simp only [Act.put, List.getElem_toArray, List.getElem_cons_zero, List.getElem_cons_succ, List.setIfInBounds_toArray, List.set_cons_zero, List.set_cons_succ])
      have hibr : In S' wx := hib.below hbl
      have hS : ∀ w', Below wx.heap.size wx w' → (w'.cell? ⟨bm, om + i, none⟩ = some (.slice Ar u cr) ∧ w'.cell? ⟨bb, ob + i, none⟩ = some (u8v y)) := fun w' hb' =>
        ⟨by rw [hb'.cell (p := ⟨bm, om + i, none⟩) (hiar _ hSm)]; exact hcr, by rw [hb'.cell (p := ⟨bb, ob + i, none⟩) (hibr _ hSb)]; exact hcb⟩
      have hd : Below wx.heap.size wx wx.drew := (Drew.one wx).below _
      apply ways4 (R := fun g1 A2 c2 g2 w' => Own u8E (fun k => wx.heap.size ≤ k) wx.heap.size 5 w' A2 c2 X ∧ Raw8 w' g2 [y] ∧ (∀ a, A2 = some a → a.block ≠ g2) ∧ wx.heap.size ≤ g2 ∧ g2 < w'.heap.size ∧ Below wx.heap.size wx w')
      case main =>
        intro hmain
        have he : Own u8E (fun _ => True) wx.heap.size 5 (wx.drew.alloc (.cells #[] 5)) (some ⟨wx.drew.heap.size, 0, none⟩) 0 ([] : List UInt8) := Own.empty (Nat.le_refl _)
        have hb1 : Below wx.heap.size wx (wx.drew.alloc (.cells #[] 5)) := hd.alloc (Nat.le_refl _) _
        refine ord_alt rfl rfl rfl rfl (fun K1 hK1 => .inl ?_) (fun K1 hK1 => .inl ?_)
        · go_simp
          refine hK1 _ _ (fun _ => hS _ hb1) ?_
          clear hK1 K1
          refine ord_alt rfl rfl rfl rfl (fun K2 hK2 => ?_) (fun K2 hK2 => .inl ?_)
          · refine wp_of_list (ops := #[]) rfl ?_
            refine wpList_append_any (w0 := wx) rfl (.tmp 23) (.tmp 27) 43 rfl rfl rfl Tryd.underlying43 hi5 hy0 hy1 hy2 rfl rfl rfl he hb1 X Hrl.out S (Hsr.out.below' hb1 hiar) (fun k hk => ⟨trivial, by have := hiar k hk; simp; omega⟩) (fun a ha hk => by cases ha; exact Nat.lt_irrefl _ (hiar _ hk)) (by omega) ?_
            intro A2 c2 w2 ho2 hb2 hold2 hA2
            refine hK2 _ _ (fun _ => hS _ hb2) ?_
            clear hK2 K2
            refine ord_one rfl rfl rfl (fun K3 hK3 => .inl ?_)
            go_simp
            have hb3 := hb2.alloc hb2.size (.cells #[u8v y] 5)
            refine hK3 _ _ (fun _ => hS _ hb3) ?_
            clear hK3 K3
            have hs2 := hb2.size
            generalize hg1 : wx.heap.size = g1
            generalize hg2 : w2.heap.size = g2
            refine hmain g1 A2 c2 g2 _ ⟨(ho2.alloc _).bare, ?_, ?_, by omega, by simp; omega, hb3⟩
            · rw [← hg2]; exact heap_alloc_new w2 _
            · rintro a ha rfl
              obtain ⟨g, h1, h2, h3⟩ := ho2.block ha
              subst h1
              exact Nat.lt_irrefl _ (by rw [hg2] at h3; exact h3)
          · go_simp
            have hb1' : Below wx.heap.size wx ((wx.drew.alloc (.cells #[] 5)).alloc (.cells #[u8v y] 5)) := hb1.alloc (by simp) _
            refine hK2 _ _ (fun _ => hS _ hb1') ?_
            clear hK2 K2
            refine ord_one rfl rfl rfl (fun K3 hK3 => ?_)
            refine wp_of_list (ops := #[]) rfl ?_
            have hnew : ((wx.drew.alloc (.cells #[] 5)).alloc (.cells #[u8v y] 5)).heap[wx.heap.size + 1]? = some (.cells #[u8v y] 5 (0, 0)) := by
              have := heap_alloc_new (wx.drew.alloc (.cells #[] 5)) (.cells #[u8v y] 5)
              simpa using this
            refine wpList_append_any (w0 := wx) rfl (.tmp 23) (.tmp 27) 43 rfl rfl rfl Tryd.underlying43 hi5 hy0 hy1 hy2 rfl rfl rfl (he.alloc _) hb1' X Hrl.out S (Hsr.out.below' hb1' hiar) (fun k hk => ⟨trivial, by have := hiar k hk; simp; omega⟩) (fun a ha hk => by cases ha; exact Nat.lt_irrefl _ (hiar _ hk)) (by omega) ?_
            intro A2 c2 w2 ho2 hb2 hold2 hA2
            refine hK3 _ _ (fun _ => hS _ hb2) ?_
            clear hK3 K3
            simp only [Act.put, List.getElem_toArray, List.getElem_cons_zero, List.getElem_cons_succ, List.setIfInBounds_toArray, List.set_cons_zero, List.set_cons_succ, Nat.zero_add]
            have hs2 : wx.heap.size + 2 ≤ w2.heap.size := by have := hA2.1; simp at this; omega
            have hr2 : w2.heap[wx.heap.size + 1]? = some (.cells #[u8v y] 5 (0, 0)) := by
              exact (hold2 _ (by simp) (by simp)).trans hnew
            have hr3 : ∀ a, A2 = some a → a.block ≠ wx.heap.size + 1 := by
              intro a ha e
              rcases hA2.2 with h | h
              · rw [h] at ha; cases ha; exact absurd e (by simp <;> omega)
              · rw [h] at ha; cases ha; exact absurd e (by simp <;> omega)
            generalize hg2 : wx.heap.size + 1 = g2 at *
            generalize hg1 : wx.heap.size = g1
            exact hmain g1 A2 c2 g2 _ ⟨ho2.bare, hr2, hr3, by omega, by omega, hb2⟩
        · go_simp
          have hb1' : Below wx.heap.size wx (wx.drew.alloc (.cells #[u8v y] 5)) := hd.alloc (Nat.le_refl _) _
          refine hK1 _ _ (fun _ => hS _ hb1') ?_
          clear hK1 K1
          refine ord_one rfl rfl rfl (fun K2 hK2 => .inl ?_)
          go_simp
          have hb2' : Below wx.heap.size wx ((wx.drew.alloc (.cells #[u8v y] 5)).alloc (.cells #[] 5)) := hb1'.alloc (by simp) _
          refine hK2 _ _ (fun _ => hS _ hb2') ?_
          clear hK2 K2
          have hnew : ((wx.drew.alloc (.cells #[u8v y] 5)).alloc (.cells #[] 5)).heap[wx.heap.size]? = some (.cells #[u8v y] 5 (0, 0)) := by
            rw [Below.heap_alloc _ _ _ (by simp)]
            exact heap_alloc_new wx.drew (.cells #[u8v y] 5)
          have he2 : Own u8E (fun _ => True) wx.heap.size 5 ((wx.drew.alloc (.cells #[u8v y] 5)).alloc (.cells #[] 5)) (some ⟨(wx.drew.alloc (.cells #[u8v y] 5)).heap.size, 0, none⟩) 0 ([] : List UInt8) := Own.empty (by simp)
          have e9 : (wx.drew.alloc (.cells #[u8v y] 5)).heap.size = wx.heap.size + 1 := by simp
          rw [e9] at he2
          refine ord_one rfl rfl rfl (fun K3 hK3 => ?_)
          refine wp_of_list (ops := #[]) rfl ?_
          refine wpList_append_any (w0 := wx) rfl (.tmp 23) (.tmp 27) 43 rfl rfl rfl Tryd.underlying43 hi5 hy0 hy1 hy2 rfl rfl rfl he2 hb2' X Hrl.out S (Hsr.out.below' hb2' hiar) (fun k hk => ⟨trivial, by have := hiar k hk; simp; omega⟩) (fun a ha hk => by cases ha; have h9 := hiar _ hk; simp at h9; omega) (by omega) ?_
          intro A2 c2 w2 ho2 hb2 hold2 hA2
          refine hK3 _ _ (fun _ => hS _ hb2) ?_
          clear hK3 K3
          simp only [Act.put, List.getElem_toArray, List.getElem_cons_zero, List.getElem_cons_succ, List.setIfInBounds_toArray, List.set_cons_zero, List.set_cons_succ, Nat.zero_add]
          have hs2 : wx.heap.size + 2 ≤ w2.heap.size := by have := hA2.1; simp at this; omega
          have hr2 : w2.heap[wx.heap.size]? = some (.cells #[u8v y] 5 (0, 0)) := by
            exact (hold2 _ (by simp; omega) (by simp)).trans hnew
          have hr3 : ∀ a, A2 = some a → a.block ≠ wx.heap.size := by
            intro a ha e
            rcases hA2.2 with h | h
            · rw [h] at ha; cases ha; exact absurd e (by simp <;> omega)
            · rw [h] at ha; cases ha; exact absurd e (by simp <;> omega)
          have ho3 : Own u8E (fun k => wx.heap.size ≤ k) wx.heap.size 5 w2 A2 c2 X := ho2.bare
          clear he he2 hb1 hb1' hb2' hnew e9 hS hd
          generalize hg1 : wx.heap.size + 1 = g1 at *
          generalize hg2 : wx.heap.size = g2
          refine hmain g1 A2 c2 g2 _ ⟨ho3, ?_, ?_, by omega, by omega, hb2⟩
          · rw [← hg2]; exact hr2
          · rw [← hg2]; exact hr3
      case cont =>
        rintro g1 A2 c2 g2 wz ⟨ho2, hraw, hne2, hg2lo, hg2hi, hbz⟩
        refine ord_rest 12 [12,13,14,15] (by kernel_rfl) rfl ?_
        simp only [List.drop_succ_cons, List.drop_zero]
        have hbytes := hraw.bytes (by simp)
        clear hS hcr hcb hd
        go_wp2_with (at_builtin; refine wpList_append_any (w0 := wx) rfl (.tmp 28) (.tmp 33) 43 rfl rfl rfl Tryd.underlying43 hi5 hy0 hy1 hy2 rfl rfl Hrl.out ho2 hbz [y] rfl (fun k => k = g2) hbytes (fun k hk => ⟨by have : k = g2 := hk; omega, by have : k = g2 := hk; omega⟩) (fun a ha hk => hne2 a ha hk) (by omega) ?_; intro A3 c3 w3 ho3 hb3 hold3 hA3; refine pause ?_)
        have hsl3 : Bytes (fun k => wx.heap.size ≤ k ∧ k < w3.heap.size) w3 A3 c3 (X ++ [y]) := ho3.sl (fun k hk h => ⟨by rcases h with h | h <;> exact h, hk⟩)
        have hrep : (slE u8E).rep (fun k => wx.heap.size ≤ k ∧ k < w3.heap.size) w3 [.slice A3 (u + 1) c3] (X ++ [y]) := ⟨A3, c3, by rw [Hlr.out], hsl3⟩
        have Hrep := Lib.hid hrep
        have hown3 := Lib.hid (hown.out.below hb3 (Nat.le_refl _))
        have hszx := hbl.size
        have hTA : Hid (∀ a, A1 = some a → ¬ (wx.heap.size ≤ a.block ∧ a.block < w3.heap.size)) := fun a ha hk => by
          obtain ⟨g, rfl, h1, h2⟩ := hown.out.block ha
          have := hk.1
          exact Nat.lt_irrefl _ (Nat.lt_of_lt_of_le h2 this)
        have hb30 := Lib.hid (hbl.trans (hb3.mono hszx))
        clear ho2 hraw hne2 hg2lo hg2hi hbz hbytes ho3 hb3 hold3 hA3 hsl3 hrep hown
        refine unpause ?_
        go_wp2_with (at_builtin; refine wpList_append_box (w0 := w0) rfl (.tmp 22) (.tmp 35) 22 rfl rfl rfl Tryd.underlying22 hi43 hx0 hx1 hx2 rfl (by decide) hlen.out hown3.out hb30.out (X ++ [y]) (fun k => wx.heap.size ≤ k ∧ k < w3.heap.size) Hrep.out (fun k hk => ⟨by have := hk.1; omega, hk.2⟩) hTA.out (by omega) ?_; intro A4 c4 w4 ho4 hb4 _ _; refine pause ?_)
        have ho5 : Hid (Own (slE u8E) (fun k => w0.heap.size ≤ k) w0.heap.size 43 w4 A4 c4 ((bothM m b u).take (i + 1))) := Lib.hid (ho4.cast Hst.out)
        clear ho4 hown3 hTA Hrep hb30 hbl Hst hlen
        refine unpause ?_
        go_wp2
        go_roundw
        case rel => exact ⟨i + 1, A4, c4, by omega, by go_num, rfl, ho5, hb4⟩
        case measure => simp [intOf]; omega
    · obtain rfl : i = m.length := by omega
      have hbsl : Rows8 (fresh w0 wx) wx A1 cap1 (bothM m b u) := (hown.out.cast (show _ = bothM m b u by rw [← (show (bothM m b u).length = m.length from gridM_length _ _ _), List.take_length])).sl (fun k hk h => ⟨by rcases h with h | h <;> exact h, hk⟩)
      have hlen2 : (bothM m b u).length = m.length := gridM_length _ _ _
      have hrect1 := bothM_rect' m b u
      have hcle := bothM_cols_le m b u
      have hinb2 : In (fresh w0 wx) wx := fun k hk => hk.2
      have hcore := refReduce hrect1 (by rw [hlen2]; omega) (by omega) hbsl hinb2
      rw [hlen2] at hcore
      have Hcore := Lib.hid hcore
      have hbw : Below w.heap.size w wx := hb0.trans (hbl.mono (by have := Hsz0.out; omega))
      have hszx : w.heap.size + 1 ≤ wx.heap.size := by have := Hsz0.out; have := hbl.size; omega
      have Hgx : Hid (wx.heap[w.heap.size]? = some (.cells #[.slice none 0 0, .slice none 0 0, .int .i64 0] 47 (0, 0))) := by
        show _ = _; rw [hbl.block _ (by have := Hsz0.out; omega)]; exact Hg0.out
      obtain ⟨hv1, hv2, hv3, hv4, hv5⟩ := reduceM_inv hrect1
      have hv3' : (reduceM (bothM m b u)).2.length ≤ m.length := by rw [hlen2] at hv3; exact hv3
      have Hcols : Hid (0 < (reduceM (bothM m b u)).2.length → cols (bothM m b u) = u + 1) := fun h => by
        rw [bothM_eq]; exact cols_gridM _ (by omega)
      have hsol : Hid (solveM m b u = if u ∈ (reduceM (bothM m b u)).2 then none else some (solXTo (reduceM (bothM m b u)) u (reduceM (bothM m b u)).2.length, kernelTo (reduceM (bothM m b u)) u u)) := rfl
      clear hown hlt hi' hbsl hlen2 hrect1 hinb2 hcore hbl hb0 Hg0 Hsz0 Hma0 Hmb0 hia hib Hrect Hbl hv3
      generalize hR : reduceM (bothM m b u) = R at *
      have Hv2 := Lib.hid hv2
      have Hv5 := Lib.hid hv5
      have Hv1 := Lib.hid hv1
      clear hR hv2 hv5 hv1
      go_wp2_with fail
      refine Hcore.out.mono ?_
      rintro e w2 ⟨A2, cap2, Ap, capp, rfl, hR1, hR2, hb2⟩
      have HR1 := Lib.hid hR1
      have HR2 := Lib.hid hR2
      have hR2l := hR2.len
      have hR1l := hR1.len
      have hbw2 := Lib.hid (hbw.trans (hb2.mono (by omega)))
      have Hg2 : Hid (w2.heap[w.heap.size]? = some (.cells #[.slice none 0 0, .slice none 0 0, .int .i64 0] 47 (0, 0))) := by
        show _ = _; rw [hb2.block _ (by omega)]; exact Hgx.out
      have hszx2 : w.heap.size + 1 ≤ w2.heap.size := by have := hb2.size; omega
      have Hin2 : Hid (In (fun k => fresh w0 wx k ∨ fresh wx w2 k) w2) := fun k hk => by
        rcases hk with h | h
        · exact Nat.lt_of_lt_of_le h.2 hb2.size
        · exact h.2
      have Hin2' : Hid (In (fresh wx w2) w2) := fun k hk => hk.2
      clear Hcore hR1 hR2 hbw hb2 Hgx hszx
      have hb3 : Below w2.heap.size w2 (w2.alloc (.cells #[.slice A2 R.1.length cap2, .slice Ap R.2.length capp] 38)) := (Below.refl _ _).alloc (Nat.le_refl _) _
      have hg93 : (w2.alloc (.cells #[.slice A2 R.1.length cap2, .slice Ap R.2.length capp] 38)).heap[w2.heap.size]? = some (.cells #[.slice A2 R.1.length cap2, .slice Ap R.2.length capp] 38 (0, 0)) := heap_alloc_new w2 _
      have Hg93 := Lib.hid hg93
      clear hg93
      go_wp2_with (at_make; refine wpList_make_cells rfl (.tmp 39) (.tmp 39) 43 rfl Tryd.underlying43 hi5 hy0 hy1 hy2 rfl rfl rfl (by omega) hb3 ?_; intro w4 hw4 hb4 hold4 hlt4; refine pause ?_)
      obtain ⟨g9, hg9⟩ : ∃ g, g = w2.heap.size := ⟨_, rfl⟩
      obtain ⟨gX, hgX⟩ : ∃ g, g = w2.heap.size + 1 := ⟨_, rfl⟩
      have hsz3 : (w2.alloc (.cells #[.slice A2 R.1.length cap2, .slice Ap R.2.length capp] 38)).heap.size = w2.heap.size + 1 := by simp
      rw [hsz3, ← hgX] at hw4 hlt4
      have hx4 : Raw8 w4 gX (List.replicate u 0) := by unfold Raw8; rw [hw4, List.map_replicate]; rfl
      have hg94 : w4.heap[g9]? = some (.cells #[.slice A2 R.1.length cap2, .slice Ap R.2.length capp] 38 (0, 0)) := by
        rw [hold4 g9 (by rw [hsz3]; omega), hg9]; exact Hg93.out
      rw [← hgX, ← hg9]
      have Hlo9 : Hid (g9 = w2.heap.size ∧ gX = w2.heap.size + 1) := ⟨hg9, hgX⟩
      have hlo : w2.heap.size ≤ g9 ∧ g9 < gX ∧ w2.heap.size ≤ gX := by omega
      have Hx4 := Lib.hid hx4
      have Hg94 := Lib.hid hg94
      clear hg9 hgX hw4 hold4 Hg93 hb3 hsz3 hx4 hg94
      refine unpause ?_
      go_wp2_with fail
      obtain ⟨w5, hw5⟩ : ∃ w5, w5 = w4.alloc (.cells #[.slice (some ⟨gX, 0, none⟩) u u, .slice none 0 0, .int .i64 0] 47) := ⟨_, rfl⟩
      rw [← hw5]
      obtain ⟨g10, hg10⟩ : ∃ g, g = w4.heap.size := ⟨_, rfl⟩
      rw [← hg10]
      have Hg10 : Hid (w5.heap[g10]? = some (.cells #[.slice (some ⟨gX, 0, none⟩) u u, .slice none 0 0, .int .i64 0] 47 (0, 0))) := by show _ = _; rw [hw5, hg10]; exact heap_alloc_new w4 _
      have Hb5 : Hid (Below w2.heap.size w2 w5) := by show Below _ _ _; rw [hw5]; exact hb4.alloc hb4.size _
      have Hx5 : Hid (Raw8 w5 gX (solXTo R u 0)) := by show Raw8 _ _ _; rw [hw5]; exact Hx4.out.keep (Below.heap_alloc _ _ _ hlt4)
      have hlt9 : g9 < w4.heap.size := by omega
      have Hg95 : Hid (w5.heap[g9]? = some (.cells #[.slice A2 R.1.length cap2, .slice Ap R.2.length capp] 38 (0, 0))) := by show _ = _; rw [hw5, Below.heap_alloc _ _ _ hlt9]; exact Hg94.out
      have Hsz5 : Hid (w5.heap.size = g10 + 1) := by show _ = _; rw [hw5, hg10]; simp
      have hlo2 : gX < g10 := by omega
      clear hw5 hg10 Hx4 Hg94 hb4 hlt9 hlt4
      go_loopw [11] (fun vk wr => ∃ k : Nat, k ≤ R.2.length ∧ vk = .int .i64 (k : Int) ∧ Hid (Raw8 wr gX (solXTo R u k)) ∧ Hid (u ∉ R.2.take k) ∧ Hid (wr.heap[g9]? = some (.cells #[.slice A2 R.1.length cap2, .slice Ap R.2.length capp] 38 (0, 0))) ∧ Hid (wr.heap[g10]? = some (.cells #[.slice (some ⟨gX, 0, none⟩) u u, .slice none 0 0, .int .i64 0] 47 (0, 0))) ∧ Hid (wr.heap.size = g10 + 1) ∧ Hid (Below w2.heap.size w2 wr)) (fun vk _ => R.2.length - (intOf vk).toNat)
      case atStart => exact ⟨0, by omega, rfl, Hx5.out, by show _ ∉ _; simp, Hg95.out, Hg10.out, Hsz5.out, Hb5.out⟩
      case round =>
        clear Hx5 Hg95 Hg10 Hsz5 Hb5
        obtain ⟨k, hk, rfl, hX, hun, h9, h10, hsz, hbl⟩ := hrel
        obtain ⟨hc90, _⟩ := cells_at h9.out 0 (by simp)
        obtain ⟨hc91, _⟩ := cells_at h9.out 1 (by simp)
        obtain ⟨hc100, _⟩ := cells_at h10.out 0 (by simp)
        simp only [List.getElem_toArray, List.getElem_cons_zero, List.getElem_cons_succ] at hc90 hc91 hc100
        have hI := HR2.out.below hbl.out Hin2'.out
        have hM := HR1.out.below hbl.out Hin2.out
        by_cases hltk : k < R.2.length
        · obtain ⟨bp, op, rfl, _, hcp, hple⟩ := ints_get hI hltk
          have hpu : R.2[k] < u + 1 := Nat.lt_of_lt_of_le (Hv5.out _ (List.getElem_mem _)) hcle
          have hkM : k < R.1.length := by rw [Hv1.out]; exact hltk
          obtain ⟨bq, oq, Ar, cr, rfl, _, hcr, hsr⟩ := rows_get hM hkM
          obtain ⟨n1, hn1⟩ : ∃ n1, n1 = u + 1 := ⟨_, rfl⟩
          have hun1 : u < n1 := by omega
          have hrl : R.1[k].length = n1 := by
            rw [Hv2.out _ (List.getElem_mem _), hn1]
            exact Hcols.out (by omega)
          clear hn1
          have huR : u < R.1[k].length := by omega
          rw [hrl] at hcr
          obtain ⟨bv, ov, rfl, _, hcv⟩ := bytes_get hsr huR
          have htk : Hid (R.2.take (k + 1) = R.2.take k ++ [R.2[k]]) := take_succ _ _ hltk
          have hXs : Hid (solXTo R u (k + 1) = (solXTo R u k).set R.2[k] R.1[k][u]) := by
            show _ = _
            rw [solXTo, getD_lt _ _ hltk, getD_lt _ _ hkM, getD_lt _ _ huR]
          have hmem : Hid (R.2[k] ∈ R.2) := List.getElem_mem _
          have hRl : Hid (R.1.length = R.2.length) := Hv1.out
          generalize R.2[k] = p at *
          generalize R.1[k][u] = y at *
          have Hrl := Lib.hid hrl
          clear hI hM hsr hrl huR
          by_cases hpe : p = u
          · have htest : ((p : Int) == (u : Int)) = true := by rw [hpe]; simp
            have hnone : Hid (solveM m b u = none) := by
              show _ = _
              rw [hsol.out, if_pos (hpe ▸ hmem.out)]
            have hgw : wr.heap[w.heap.size]? = some (.cells #[.slice none 0 0, .slice none 0 0, .int .i64 0] 47 (0, 0)) := by rw [hbl.out.block _ (by omega)]; exact Hg2.out
            obtain ⟨hw0, hf0⟩ := cells_at hgw 0 (by simp)
            obtain ⟨hw1, hf1⟩ := cells_at hgw 1 (by simp)
            obtain ⟨hw2, hf2⟩ := cells_at hgw 2 (by simp)
            simp only [List.getElem_toArray, List.getElem_cons_zero, List.getElem_cons_succ] at hw0 hw1 hw2
            clear hpe hsol hgw
            go_wp2_with fail
            refine bodyPost_ret (v := .agg #[.slice none 0 0, .slice none 0 0, .int .i64 8]) (by simp [results, Tryd.results43, go_sem, hw0, hw1, hw2]) rfl ⟨none, 0, none, 0, by rw [hnone.out]; rfl, by rw [hnone.out]; exact Sl.nil, by rw [hnone.out]; exact Sl.nil, ?_⟩
            exact (((hbw2.out.trans (hbl.out.mono (by omega))).setCell (Nat.le_refl _) _).setCell (Nat.le_refl _) _).setCell (Nat.le_refl _) _
          · have htest : ((p : Int) == (u : Int)) = false := by rw [beq_eq_false_iff_ne]; omega
            have hplt : p < u := by omega
            obtain ⟨hcx, hfx⟩ := hX.out.at (i := p) (by rw [solXTo_length]; exact hplt)
            have hun2 : Hid (u ∉ R.2.take (k + 1)) := by
              show _ ∉ _
              rw [htk.out, List.mem_append, List.mem_singleton]
              rintro (h | h)
              · exact hun.out h
              · exact hpe h.symm
            clear hpe hpu
            go_wp2_with fail
            refine wp_region_walk [0,1,0,1,0,0,1,0,1,0,0,1,0,0,1,2,2] [0,1,2,3,4,5,6,7,8,9,10,11,12,13,14,15,16] (fun w' => w'.cell? ⟨g10, 0, none⟩ = some (.slice (some ⟨gX, 0, none⟩) u u) ∧ w'.cell? ⟨g9, 1, none⟩ = some (.slice (some ⟨bp, op, none⟩) R.2.length capp) ∧ w'.cell? ⟨bp, op + k, none⟩ = some (.int .i64 (p : Int)) ∧ w'.cell? ⟨g9, 0, none⟩ = some (.slice (some ⟨bq, oq, none⟩) R.1.length cap2) ∧ w'.cell? ⟨bq, oq + k, none⟩ = some (.slice (some ⟨bv, ov, none⟩) n1 cr) ∧ w'.cell? ⟨bv, ov + u, none⟩ = some (u8v y)) rfl (by kernel_rfl) rfl (by kernel_rfl) (fun _ d _ _ _ h => by cases d <;> exact h) ⟨hc100, hc91, hcp, hc90, hcr, hcv⟩ ?_
            repeat ((first | (apply walk_pure rfl rfl rfl; (intro w'; go_simp; rfl)) | (apply walk_read rfl rfl rfl; (rintro w' ⟨hs1, hs2, hs3, hs4, hs5, hs6⟩; go_simp; rfl))); simp only [Act.put, List.getElem_toArray, List.getElem_cons_zero, List.getElem_cons_succ, List.setIfInBounds_toArray, List.set_cons_zero, List.set_cons_succ])
            refine walk_rest 15 (by kernel_rfl) rfl ?_
            simp only [List.drop_succ_cons, List.drop_zero]
            have hX5 : Hid (Raw8 ((wr.setCell ⟨gX, p, none⟩ (u8v y)).drew) gX (solXTo R u (k + 1))) := by
              show Raw8 _ _ _
              rw [hXs.out]
              exact hX.out.set p y
            have h95 : Hid (((wr.setCell ⟨gX, p, none⟩ (u8v y)).drew).heap[g9]? = some (.cells #[.slice (some ⟨bq, oq, none⟩) R.1.length cap2, .slice (some ⟨bp, op, none⟩) R.2.length capp] 38 (0, 0))) := (Below.heap_setCell wr ⟨gX, p, none⟩ (u8v y) g9 (by show g9 ≠ gX; omega)).trans h9.out
            have h105 : Hid (((wr.setCell ⟨gX, p, none⟩ (u8v y)).drew).heap[g10]? = some (.cells #[.slice (some ⟨gX, 0, none⟩) u u, .slice none 0 0, .int .i64 0] 47 (0, 0))) := (Below.heap_setCell wr ⟨gX, p, none⟩ (u8v y) g10 (by show g10 ≠ gX; omega)).trans h10.out
            have hs5 : Hid (((wr.setCell ⟨gX, p, none⟩ (u8v y)).drew).heap.size = g10 + 1) := by
              show ((wr.setCell ⟨gX, p, none⟩ (u8v y))).heap.size = _
              rw [show ((wr.setCell ⟨gX, p, none⟩ (u8v y))).heap.size = wr.heap.size by simp [World.setCell]]; exact hsz.out
            have hbl5 : Hid (Below w2.heap.size w2 ((wr.setCell ⟨gX, p, none⟩ (u8v y)).drew)) := (hbl.out.setCell hlo.2.2 _).trans ((Drew.one _).below _)
            clear hX h9 h10 hsz hbl hun htk
            go_wp2_with fail
            go_roundw
            case rel => exact ⟨k + 1, by omega, by go_num, hX5, hun2, h95, h105, hs5, hbl5⟩
            case measure => simp [intOf]; omega
        · obtain rfl : k = R.2.length := by omega
          have Hnu : Hid (u ∉ R.2) := by have := hun.out; rwa [List.take_length] at this
          have hsome : Hid (solveM m b u = some (solXTo R u R.2.length, kernelTo R u u)) := by
            show _ = _
            rw [hsol.out, if_neg Hnu.out]
          have HI := Lib.hid hI
          have HM := Lib.hid hM
          clear hsol hun hI hM hltk hk
          go_wp2_with fail
          obtain ⟨wa, hwa⟩ : ∃ wa : World, wa = wr := ⟨_, rfl⟩
          subst hwa
          go_loopw [12] (fun vc wx => ∃ (c : Nat) (A7 : Option Addr) (cap7 : Nat), c ≤ u ∧ vc = .int .i64 (c : Int) ∧ Hid (wx.heap[g10]? = some (.cells #[.slice (some ⟨gX, 0, none⟩) u u, .slice A7 (kernelTo R u c).length cap7, .int .i64 0] 47 (0, 0))) ∧ Hid (Raw8 wx gX (solXTo R u R.2.length)) ∧ Hid (wx.heap[g9]? = some (.cells #[.slice A2 R.1.length cap2, .slice Ap R.2.length capp] 38 (0, 0))) ∧ Hid (Own (slE u8E) (fun k => g10 + 1 ≤ k) (g10 + 1) 43 wx A7 cap7 (kernelTo R u c)) ∧ Hid (g10 + 1 ≤ wx.heap.size) ∧ Hid (Below w2.heap.size w2 wx)) (fun vc _ => u - (intOf vc).toNat)
          case atStart => exact ⟨0, none, 0, by omega, rfl, h10.out, hX.out, h9.out, Own.nil, by have := hsz.out; show _ ≤ _; omega, hbl.out⟩
          case round =>
            clear hX h9 h10 hsz hbl hc90 hc91 hc100
            obtain ⟨c, A7, cap7, hcu, rfl, h10, hX, h9, hown, hszx, hbx⟩ := hrel
            obtain ⟨wx, hwx⟩ : ∃ wx : World, wx = wr := ⟨_, rfl⟩
            subst hwx
            obtain ⟨hc90, _⟩ := cells_at h9.out 0 (by simp)
            obtain ⟨hc91, _⟩ := cells_at h9.out 1 (by simp)
            simp only [List.getElem_toArray, List.getElem_cons_zero, List.getElem_cons_succ] at hc90 hc91
            have hlek := kernelTo_length_le R u c
            by_cases hltc : c < u
            · have hI := HR2.out.below hbx.out Hin2'.out
              go_wp2_with fail
              refine (refHas c hI).mono ?_
              rintro e w3 ⟨rfl, hw3⟩
              obtain rfl : w3 = wx := hw3
              clear hI
              by_cases hmem : c ∈ R.2
              · have htest : decide (c ∈ R.2) = true := decide_eq_true hmem
                have hks : Hid (kernelTo R u (c + 1) = kernelTo R u c) := by show _ = _; rw [kernelTo, if_pos hmem]
                clear hmem hlek
                go_wp2_with fail
                go_roundw
                case rel => exact ⟨c + 1, A7, cap7, by omega, by go_num, by rw [hks.out]; exact h10.out, hX, h9, by rw [hks.out]; exact hown.out, hszx, hbx⟩
                case measure => simp [intOf]; omega
              · have htest : decide (c ∈ R.2) = false := decide_eq_false hmem
                have hks : Hid (kernelTo R u (c + 1) = kernelTo R u c ++ [kerTo R u c R.2.length]) := by show _ = _; rw [kernelTo, if_neg hmem]
                clear hmem
                go_wp2_with (at_make; refine wpList_make_cells rfl (.tmp 84) (.tmp 84) 43 rfl Tryd.underlying43 hi5 hy0 hy1 hy2 rfl rfl rfl (by omega) (Below.refl _ _) ?_; intro w4 hw4 hb4 hold4 hlt4; refine pause ?_)
                obtain ⟨g, hg⟩ : ∃ g, g = w3.heap.size := ⟨_, rfl⟩
                rw [← hg] at hw4 hlt4
                have hR0 : Raw8 w4 g (List.replicate u 0) := by unfold Raw8; rw [hw4, List.map_replicate]; rfl
                obtain ⟨hcg, hfg⟩ := hR0.at (i := c) (by simpa using hltc)
                have HR0 := Lib.hid hR0
                have Hg := Lib.hid hg
                have Hb4 := Lib.hid hb4
                rw [← hg]
                have hgg : g10 + 1 ≤ g := by rw [hg]; exact hszx.out
                clear hg hw4 hold4 hR0 hb4
                refine unpause ?_
                go_wp2_with fail
                have hlog : w3.heap.size ≤ g := by rw [Hg.out]; exact Nat.le_refl _
                have HR5 : Hid (Raw8 (w4.setCell ⟨g, c, none⟩ (u8v 1)) g (kerTo R u c 0)) := HR0.out.set c 1
                have Hb5 : Hid (Below w3.heap.size w3 (w4.setCell ⟨g, c, none⟩ (u8v 1))) := Hb4.out.setCell hlog _
                have Hs5 : Hid (g < (w4.setCell ⟨g, c, none⟩ (u8v 1)).heap.size) := by
                  show _ < _
                  simpa [World.setCell] using hlt4
                clear HR0 Hb4 hcg hfg hlt4
                go_loopw [15] (fun vk wz => ∃ k : Nat, k ≤ R.2.length ∧ vk = .int .i64 (k : Int) ∧ Hid (Raw8 wz g (kerTo R u c k)) ∧ g < wz.heap.size ∧ Below w3.heap.size w3 wz) (fun vk _ => R.2.length - (intOf vk).toNat)
                case atStart => exact ⟨0, by omega, rfl, HR5.out, Hs5.out, Hb5.out⟩
                case round =>
                  clear HR5 Hs5 Hb5 hc90 hc91
                  obtain ⟨k, hk, rfl, hV, hlg, hbz⟩ := hrel
                  have hg10s := hszx.out
                  have hbz2 := hbx.out.trans (hbz.mono (by omega))
                  have h9z : wr.heap[g9]? = some (.cells #[.slice A2 R.1.length cap2, .slice Ap R.2.length capp] 38 (0, 0)) := by rw [hbz.block _ (by omega)]; exact h9.out
                  have h10z : Hid (wr.heap[g10]? = some (.cells #[.slice (some ⟨gX, 0, none⟩) u u, .slice A7 (kernelTo R u c).length cap7, .int .i64 0] 47 (0, 0))) := by show _ = _; rw [hbz.block _ (by omega)]; exact h10.out
                  obtain ⟨hc90, _⟩ := cells_at h9z 0 (by simp)
                  obtain ⟨hc91, _⟩ := cells_at h9z 1 (by simp)
                  simp only [List.getElem_toArray, List.getElem_cons_zero, List.getElem_cons_succ] at hc90 hc91
                  have H9z := Lib.hid h9z
                  clear h9z
                  by_cases hltk : k < R.2.length
                  · obtain ⟨bp, op, rfl, _, hcp, hple⟩ := ints_get (HR2.out.below hbz2 Hin2'.out) hltk
                    have hpu : R.2[k] < u + 1 := Nat.lt_of_lt_of_le (Hv5.out _ (List.getElem_mem _)) hcle
                    have hpe : R.2[k] ≠ u := fun e => Hnu.out (e ▸ List.getElem_mem _)
                    have hkM : k < R.1.length := by rw [Hv1.out]; exact hltk
                    have hRl : Hid (R.1.length = R.2.length) := Hv1.out
                    obtain ⟨bq, oq, Ar, cr, rfl, _, hcr, hsr⟩ := rows_get (HR1.out.below hbz2 Hin2.out) hkM
                    obtain ⟨n1, hn1⟩ : ∃ n1, n1 = u + 1 := ⟨_, rfl⟩
                    have hrl : R.1[k].length = n1 := by
                      rw [Hv2.out _ (List.getElem_mem _), hn1]
                      exact Hcols.out (by omega)
                    have hcR : c < R.1[k].length := by omega
                    have hcn : c < n1 := by omega
                    clear hn1
                    rw [hrl] at hcr
                    obtain ⟨bv, ov, rfl, _, hcv⟩ := bytes_get hsr hcR
                    have hVs : Hid (kerTo R u c (k + 1) = (kerTo R u c k).set R.2[k] R.1[k][c]) := by
                      show _ = _
                      rw [kerTo, getD_lt _ _ hltk, getD_lt _ _ hkM, getD_lt _ _ hcR]
                    generalize R.2[k] = p at *
                    generalize R.1[k][c] = y at *
                    have hplt : p < u := by omega
                    obtain ⟨hcx, hfx⟩ := hV.out.at (i := p) (by rw [kerTo_length]; exact hplt)
                    have hV5 : Hid (Raw8 ((wr.setCell ⟨g, p, none⟩ (u8v y)).drew) g (kerTo R u c (k + 1))) := by
                      show Raw8 _ _ _
                      rw [hVs.out]
                      exact hV.out.set p y
                    have hb5 : Hid (Below w3.heap.size w3 ((wr.setCell ⟨g, p, none⟩ (u8v y)).drew)) := (hbz.setCell hlog _).trans ((Drew.one _).below _)
                    have hs5 : Hid (g < ((wr.setCell ⟨g, p, none⟩ (u8v y)).drew).heap.size) := by
                      show _ < (wr.setCell ⟨g, p, none⟩ (u8v y)).heap.size
                      simpa [World.setCell] using hlg
                    clear hsr hrl hcR hpe hpu hV hbz hbz2 hlg hown
                    go_wp2_with fail
                    refine wp_region_walk [0,0,1,0,0,1,0,1,0,0,1,0,0,1,2,2] [0,1,2,3,4,5,6,7,8,9,10,11,12,13,14,15] (fun w' => w'.cell? ⟨g9, 1, none⟩ = some (.slice (some ⟨bp, op, none⟩) R.2.length capp) ∧ w'.cell? ⟨bp, op + k, none⟩ = some (.int .i64 (p : Int)) ∧ w'.cell? ⟨g9, 0, none⟩ = some (.slice (some ⟨bq, oq, none⟩) R.1.length cap2) ∧ w'.cell? ⟨bq, oq + k, none⟩ = some (.slice (some ⟨bv, ov, none⟩) n1 cr) ∧ w'.cell? ⟨bv, ov + c, none⟩ = some (u8v y)) rfl (by kernel_rfl) rfl (by kernel_rfl) (fun _ d _ _ _ h => by cases d <;> exact h) ⟨hc91, hcp, hc90, hcr, hcv⟩ ?_
                    repeat ((first | (apply walk_pure rfl rfl rfl; (intro w'; go_simp; rfl)) | (apply walk_read rfl rfl rfl; (rintro w' ⟨hs1, hs2, hs3, hs4, hs5⟩; go_simp; rfl))); simp only [Act.put, List.getElem_toArray, List.getElem_cons_zero, List.getElem_cons_succ, List.setIfInBounds_toArray, List.set_cons_zero, List.set_cons_succ])
                    refine walk_rest 14 (by kernel_rfl) rfl ?_
                    simp only [List.drop_succ_cons, List.drop_zero]
                    go_wp2_with fail
                    go_roundw
                    case rel => exact ⟨k + 1, by omega, by go_num, hV5, hs5.out, hb5.out⟩
                    case measure => simp [intOf]; omega
                  · obtain rfl : k = R.2.length := by omega
                    have hlv : Hid ((kerTo R u c R.2.length).length = u) := kerTo_length _ _ _ _
                    have hbytes := hV.out.bytes (by rw [hlv.out]; omega)
                    rw [hlv.out] at hbytes
                    have Hbytes := Lib.hid hbytes
                    have hownz := Lib.hid (hown.out.below hbz (Nat.le_refl _))
                    have hTA : Hid (∀ a, A7 = some a → ¬ a.block = g) := fun a ha hq => by
                      obtain ⟨g', rfl, h1, h2⟩ := hown.out.block ha
                      have hq' : g' = g := hq
                      omega
                    have hA7 : Hid (∀ a, A7 = some a → g10 < a.block) := fun a ha => by
                      obtain ⟨g', rfl, h1, h2⟩ := hown.out.block ha
                      show g10 < g'
                      omega
                    obtain ⟨hk0, _⟩ := cells_at h10z.out 1 (by simp)
                    simp only [List.getElem_toArray, List.getElem_cons_zero, List.getElem_cons_succ] at hk0
                    have hXz : Hid (Raw8 wr gX (solXTo R u R.2.length)) := hX.out.keep (hbz.block _ (by omega))
                    have hbz3 := Lib.hid hbz2
                    have hszr : g10 + 1 ≤ wr.heap.size := by have := hbz.size; omega
                    clear hV hbytes hown hbz2 hbz hltk hk hc90
                    go_wp2_with (at_builtin; refine wpList_append_box' rfl (.tmp 112) (.tmp 114) 22 rfl rfl rfl Tryd.underlying22 hi43 hx0 hx1 hx2 rfl (by decide) rfl hownz.out hszr (kerTo R u c R.2.length) (fun q => q = g) ⟨some ⟨g, 0, none⟩, u, by rw [hlv.out], Hbytes.out⟩ (fun q hq => ⟨by have h : q = g := hq; omega, by have h : q = g := hq; omega⟩) hTA.out (by omega) ?_; intro A8 cap8 w8 hown8 hold8 hA8 hbt8; refine pause ?_)
                    have hno : ∀ k, k ≤ g10 → A7.map (·.block) ≠ some k := fun k hk e => by
                      cases hA : A7 with
                      | none => rw [hA] at e; cases e
                      | some a =>
                        rw [hA] at e
                        simp only [Option.map_some, Option.some.injEq] at e
                        have := hA7.out a hA
                        omega
                    have h108 : w8.heap[g10]? = some (.cells #[.slice (some ⟨gX, 0, none⟩) u u, .slice A7 (kernelTo R u c).length cap7, .int .i64 0] 47 (0, 0)) := (hold8 g10 (by omega) (hno _ (by omega))).trans h10z.out
                    obtain ⟨hk1, hkf1⟩ := cells_at h108 1 (by simp)
                    simp only [List.getElem_toArray, List.getElem_cons_zero, List.getElem_cons_succ] at hk1
                    have h109 : Hid ((w8.setCell ⟨g10, 1, none⟩ (.slice A8 ((kernelTo R u c).length + 1) cap8)).heap[g10]? = some (.cells #[.slice (some ⟨gX, 0, none⟩) u u, .slice A8 (kernelTo R u (c + 1)).length cap8, .int .i64 0] 47 (0, 0))) := by
                      show _ = _
                      rw [heap_setCell_same _ _ _ _ _ _ h108, hks.out]
                      simp
                    have h99 : Hid ((w8.setCell ⟨g10, 1, none⟩ (.slice A8 ((kernelTo R u c).length + 1) cap8)).heap[g9]? = some (.cells #[.slice A2 R.1.length cap2, .slice Ap R.2.length capp] 38 (0, 0))) := by
                      show _ = _
                      rw [Below.heap_setCell _ _ _ _ (by show g9 ≠ g10; omega), hold8 g9 (by omega) (hno _ (by omega))]; exact H9z.out
                    have hX9 : Hid (Raw8 (w8.setCell ⟨g10, 1, none⟩ (.slice A8 ((kernelTo R u c).length + 1) cap8)) gX (solXTo R u R.2.length)) :=
                      hXz.out.keep ((Below.heap_setCell _ _ _ _ (by show gX ≠ g10; omega)).trans (hold8 gX (by omega) (hno _ (by omega))))
                    have hown9 : Hid (Own (slE u8E) (fun k => g10 + 1 ≤ k) (g10 + 1) 43 (w8.setCell ⟨g10, 1, none⟩ (.slice A8 ((kernelTo R u c).length + 1) cap8)) A8 cap8 (kernelTo R u (c + 1))) := by
                      show Own _ _ _ _ _ _ _ _
                      refine (hown8.cast hks.out.symm).keep (fun k hk h => Below.heap_setCell _ _ _ _ (by
                        show k ≠ g10
                        rcases h with h | ⟨o, h⟩
                        · have h' : g10 + 1 ≤ k := h
                          omega
                        · obtain ⟨g', h1, h2, h3⟩ := hown8.block h
                          simp only [Addr.mk.injEq] at h1
                          omega)) (by simp [World.setCell])
                    have hs9 : Hid (g10 + 1 ≤ (w8.setCell ⟨g10, 1, none⟩ (.slice A8 ((kernelTo R u c).length + 1) cap8)).heap.size) := by
                      show _ ≤ _
                      have := hA8.1
                      rw [show (w8.setCell ⟨g10, 1, none⟩ (.slice A8 ((kernelTo R u c).length + 1) cap8)).heap.size = w8.heap.size by simp [World.setCell]]
                      omega
                    have hb9 : Hid (Below w2.heap.size w2 (w8.setCell ⟨g10, 1, none⟩ (.slice A8 ((kernelTo R u c).length + 1) cap8))) := (hbt8 _ _ hbz3.out (by omega)).setCell (by show w2.heap.size ≤ g10; omega) _
                    clear hown8 hold8 hA8 hbt8 hno h108 h10z hk0 H9z hXz hbz3 hszr hA7 hTA hownz Hbytes hc91
                    refine unpause ?_
                    go_wp2_with fail
                    go_roundw
                    case rel => exact ⟨c + 1, A8, cap8, by omega, by go_num, h109, hX9, h99, hown9, hs9, hb9⟩
                    case measure => simp [intOf]; omega
            · obtain rfl : c = u := by omega
              obtain ⟨hk0, _⟩ := cells_at h10.out 0 (by simp)
              obtain ⟨hk1, _⟩ := cells_at h10.out 1 (by simp)
              obtain ⟨hk2, _⟩ := cells_at h10.out 2 (by simp)
              have hgw : wx.heap[w.heap.size]? = some (.cells #[.slice none 0 0, .slice none 0 0, .int .i64 0] 47 (0, 0)) := by rw [hbx.out.block _ (by omega)]; exact Hg2.out
              obtain ⟨hw0, hf0⟩ := cells_at hgw 0 (by simp)
              obtain ⟨hw1, hf1⟩ := cells_at hgw 1 (by simp)
              obtain ⟨hw2, hf2⟩ := cells_at hgw 2 (by simp)
              simp only [List.getElem_toArray, List.getElem_cons_zero, List.getElem_cons_succ] at hk0 hk1 hk2 hw0 hw1 hw2
              have Hbytes : Hid (Bytes (fun q => q = gX) wx (some ⟨gX, 0, none⟩) c (solXTo R c R.2.length)) := by
                show Bytes _ _ _ _ _
                have h1 := hX.out.bytes (by rw [solXTo_length]; omega)
                rwa [solXTo_length] at h1
              have Hrows : Hid (Rows8 (fun k => g10 + 1 ≤ k ∧ k < wx.heap.size) wx A7 cap7 (kernelTo R c c)) := hown.out.sl (fun k hk h => ⟨by rcases h with h | h <;> exact h, hk⟩)
              have hlgX : g10 + 1 ≤ wx.heap.size := hszx.out
              clear hgw hX hown h9 h10 hc90 hc91 hlek
              go_wp2_with fail
              refine bodyPost_ret (v := .agg #[.slice (some ⟨gX, 0, none⟩) c c, .slice A7 (kernelTo R c c).length cap7, .int .i64 0]) (by simp [results, Tryd.results43, go_sem, hw0, hw1, hw2]) rfl ⟨some ⟨gX, 0, none⟩, c, A7, cap7, ?_, ?_, ?_, ?_⟩
              · rw [hsome.out]
                show _ = Ending.returned (.agg #[.slice _ (solXTo R c R.2.length).length _, _, _])
                rw [solXTo_length]; rfl
              · rw [hsome.out]
                refine Hbytes.out.stable (fun q hq => ?_) (fun q hq => ?_)
                · have h2 : q = gX := hq
                  exact ⟨by omega, by simp [World.setCell]; omega⟩
                · have h2 : q = gX := hq
                  have hne : q ≠ w.heap.size := by omega
                  rw [Below.heap_setCell _ _ _ _ hne, Below.heap_setCell _ _ _ _ hne, Below.heap_setCell _ _ _ _ hne]
              · rw [hsome.out]
                refine Hrows.out.stable (fun q hq => ?_) (fun q hq => ?_)
                · exact ⟨by have := hq.1; omega, by simpa [World.setCell] using hq.2⟩
                · have hne : q ≠ w.heap.size := by have := hq.1; omega
                  rw [Below.heap_setCell _ _ _ _ hne, Below.heap_setCell _ _ _ _ hne, Below.heap_setCell _ _ _ _ hne]
              · exact (((hbw2.out.trans (hbx.out.mono (by omega))).setCell (Nat.le_refl _) _).setCell (Nat.le_refl _) _).setCell (Nat.le_refl _) _
end Go.Proofs.YtokclgjkdpjjfaaDoor
