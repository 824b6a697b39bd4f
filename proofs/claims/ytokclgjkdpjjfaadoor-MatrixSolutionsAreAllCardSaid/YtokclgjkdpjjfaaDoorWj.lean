/-
  The walk of matrix.reduce.
-/
import Derived.Test.YtokclgjkdpjjfaaDoorWi
namespace Go.Proofs.YtokclgjkdpjjfaaDoor
open Go.RowKit Go.Q
variable {w : World} {S S' : Reg} {A A' : Option Addr} {cap cap' : Nat}
def SameW (a b : World) : Prop := a = b
/-- A reduced matrix and its pivots, new. -/
def GiveRed2 (w : World) (x : List (List UInt8) × List Nat) (e : Ending) (w' : World) : Prop :=
  ∃ A cap A' cap', e = .returned (.tuple #[.slice A x.1.length cap, .slice A' x.2.length cap']) ∧ Rows8 (fresh w w') w' A cap x.1 ∧ Ints (fresh w w') w' A' cap' x.2 ∧ Below w.heap.size w w'
set_option maxRecDepth 100000 in
set_option maxHeartbeats 4000000 in
theorem matReduceCore {m : List (List UInt8)} {n : Nat} (hrect : Rect m n) (hcn : cols m = n) (hsm : m.length ≤ 1000) (hsn : n ≤ 1000) (hm : Rows8 S w A cap m) (hin : In S w) (ht : TabAt w) :
    Calls Tryd.prog 38 #[.slice A m.length cap] w (GiveRed2 w (reduceM m)) := by
  obtain ⟨i0, hi, hz0, hz1, hz2⟩ := info_parts info43
  obtain ⟨i1, hi1, hy0, hy1, hy2⟩ := info_parts info5
  obtain ⟨i3, hi3, hx0, hx1, hx2⟩ := info_parts info3
  have hl := hm.len
  have hrect' := Lib.hid hrect
  have hcn' := Lib.hid hcn
  clear hrect hcn
  go_enter Tryd.func38, Tryd.ntmps38
  go_wp2_with fail
  go_step3
  go_wp2_with (at_make; refine wpList_make_cells rfl (.tmp 17) (.tmp 17) 22 rfl Tryd.underlying22 hi hz0 hz1 hz2 rfl rfl rfl (by omega) (Below.refl _ _) ?_; intro w1 hw1 hb1 _ _; refine pause ?_)
  obtain ⟨g, hg⟩ : ∃ g, g = w.heap.size := ⟨_, rfl⟩
  have hm1 : OwnMat w.heap.size 43 5 w1 g m.length [] [] := OwnMat.made (by rw [hg]; exact hw1) (by omega)
  rw [← hg]
  have Hg := Lib.hid hg
  clear hw1 hg
  refine unpause ?_
  go_wp2_with fail
  go_loopw [21] (fun vi wr => ∃ (i : Nat) (G : List Nat), i ≤ m.length ∧ vi = .int .i64 (i : Int) ∧ Hid (OwnMat w.heap.size 43 5 wr g m.length G (m.take i)) ∧ Below w.heap.size w wr) (fun vi _ => m.length - (intOf vi).toNat)
  case atStart => exact ⟨0, [], by omega, rfl, hm1, hb1⟩
  case round =>
    clear hm1 hb1
    obtain ⟨i, G, hi', rfl, hmo, hbl⟩ := hrel
    by_cases hlt : i < m.length
    · have hl0 : (m.take i).length = i := by rw [List.length_take]; omega
      have Hl0 := Lib.hid hl0
      have hsz := hbl.size
      have hmr := hm.below' hbl hin
      obtain ⟨bm, om, Ar, capr, rfl, hSbm, hcr, hsr⟩ := rows_get hmr hlt
      have hln : m[i].length = n := hrect'.out _ (List.getElem_mem _)
      have Hln := Lib.hid hln
      rw [hln] at hcr
      clear hl0 hm hmr hln
      go_wp2_with (at_make; refine wpList_make_cells rfl (.tmp 30) (.tmp 30) 43 rfl Tryd.underlying43 hi1 hy0 hy1 hy2 rfl rfl rfl (by omega) hbl ?_; intro w2 hw2 hb2 hold hlt2; refine pause ?_)
      obtain ⟨b, hbe⟩ : ∃ b, b = wr.heap.size := ⟨_, rfl⟩
      rw [← hbe] at hw2
      have hm2 := hmo.out.keep (w' := w2) (fun k hk => hold k (hmo.out.blocksIn k hk))
      have hnew : ∀ k ∈ g :: G, k ≠ b := fun k hk => by have := hmo.out.blocksIn k hk; omega
      obtain ⟨hcn, hfn⟩ := hm2.nilCell (i := i) (by rw [Hl0.out]; exact Nat.le_refl _) hlt
      have hm3 := OwnMat.push hm2 (by rw [Hl0.out]; exact hlt) (w' := w2) (b := b) (r := List.replicate n 0) (fun _ _ => rfl) (by rw [List.map_replicate]; exact hw2) hnew (by omega)
      rw [Hl0.out, List.length_replicate] at hm3
      have hbm : bm < wr.heap.size := by have := hin _ hSbm; omega
      have hcr2 : w2.cell? ⟨bm, om + i, none⟩ = some (.slice Ar n capr) := by rw [World.cell?_of_block (w := wr) (hold bm hbm)]; exact hcr
      have hbg : bm ≠ g := by have := hin _ hSbm; have := Hg.out; omega
      have hbg2 : g ≠ bm := fun e => hbg e.symm
      have hgsz : g < w2.heap.size := hm2.gIn
      rw [← hbe]
      have hgl : G.length = i := by rw [hmo.out.len, Hl0.out]
      have hb3 : Below w.heap.size w (w2.setCell ⟨g, i, none⟩ (.slice (some ⟨b, 0, none⟩) n n)) := hb2.setCell (hmo.out.lo g (by simp)) _
      have hsr3 : Bytes S (w2.setCell ⟨g, i, none⟩ (.slice (some ⟨b, 0, none⟩) n n)) Ar capr m[i] := hsr.stable (fun _ h => h) (fun k hk => by
        have h1 := hin k hk
        have h2 := Hg.out
        rw [heap_set_other _ _ _ _ _ (by omega)]
        exact hold k (by omega))
      have Hm3 := Lib.hid hm3
      have Hbe := Lib.hid hbe
      have Hgl := Lib.hid hgl
      clear hm3 hm2 hw2 hmo hold hnew hbe hgl hb2 hsr hcr
      refine unpause ?_
      go_wp2_with fail
      have hcr3 : (w2.setCell ⟨g, i, none⟩ (.slice (some ⟨b, 0, none⟩) n n)).cell? ⟨bm, om + i, none⟩ = some (.slice Ar n capr) := by rw [World.cell?_of_block (w := w2) (heap_set_other _ _ _ _ _ hbg)]; exact hcr2
      obtain ⟨w3, hw3⟩ : ∃ w3, w3 = w2.setCell ⟨g, i, none⟩ (.slice (some ⟨b, 0, none⟩) n n) := ⟨_, rfl⟩
      rw [← hw3] at hb3 Hm3 hsr3 hcr3 ⊢
      clear hw3 hcn hfn hcr2 hgsz
      have hlen1 : (m.take i ++ [List.replicate n (0 : UInt8)]).length = i + 1 := by simp [Hl0.out]
      have hget : (m.take i ++ [List.replicate n (0 : UInt8)])[i]'(by omega) = List.replicate n 0 := by
        rw [List.getElem_append_right (by rw [Hl0.out]; exact Nat.le_refl _)]; simp [Hl0.out]
      have hgG : (G ++ [b])[i]'(by simp [Hgl.out]) = b := by
        rw [List.getElem_append_right (by rw [Hgl.out]; exact Nat.le_refl _)]; simp [Hgl.out]
      obtain ⟨hct, hft⟩ := Hm3.out.topCell (i := i) (by omega)
      simp only [hgG, hget, List.length_replicate] at hct
      have hrow3 : w3.drew.heap[b]? = some (.cells ((List.replicate n (0 : UInt8)).map u8v).toArray 5 (0, 0)) := by
        have := Hm3.out.row i (by simp [Hgl.out]) (by omega)
        rw [hgG, hget] at this; exact this
      have hfinal : Hid (∀ w4 : World, w4.heap[b]? = some (.cells (m[i].map u8v).toArray 5 (0, 0)) → (∀ k, k ≠ b → w4.heap[k]? = w3.drew.heap[k]?) → OwnMat w.heap.size 43 5 w4 g m.length (G ++ [b]) (m.take (i + 1))) := by
        intro w4 h1 h2
        have h3 := OwnMat.setRow (w := w3.drew) (w' := w4) (Hm3.out.keep (fun _ _ => rfl)) (i := i) (by omega) (b := b) hgG.symm (xs := m[i]) (by rw [hget, List.length_replicate]; exact Hln.out) h1 (fun k hk hkb => h2 k hkb)
        rw [List.set_append_right _ _ (by rw [Hl0.out]; exact Nat.le_refl _), Hl0.out, Nat.sub_self, List.set_cons_zero, ← take_succ _ _ hlt] at h3
        exact h3
      have hbase : w.heap.size ≤ b := Hm3.out.lo b (by simp)
      have Hrow3 := Lib.hid hrow3
      clear hlen1 hget hgG hrow3
      go_still_tail 8, (by kernel_rfl)
      change wpList _ _ _ _ _ w3.drew
      go_wp2_with (with_reducible refine wpList_copy_row rfl (.tmp 36) (.tmp 40) 43 43 rfl 5 Tryd.underlying43 rfl rfl rfl Hrow3.out (by simp) (hsr3.drew (Drew.one _)) Hln.out ?_; intro w4 hw4 hold4 hbel4 hsz4; refine pause ?_)
      have hnext := Lib.hid (hfinal.out w4 hw4 hold4)
      have hb4 : Below w.heap.size w w4 := hbel4 _ _ (hb3.trans ((Drew.one _).below _)) hbase
      clear hw4 hold4 hbel4 hsz4 hfinal Hm3 hsr3 hct hft hcr3
      refine unpause ?_
      go_wp2
      go_roundw
      case rel => exact ⟨i + 1, G ++ [b], by omega, by go_num, hnext, hb4⟩
      case measure => simp [intOf]; omega
    · obtain rfl : i = m.length := by omega
      have hmr := hm.below' hbl hin
      have htr := ht.below hbl ht.1
      clear hm
      have hmo2 : OwnMat w.heap.size 43 5 wr g m.length G m := by
        have := hmo.out; rw [List.take_length] at this; exact this
      have Hmo2 := Lib.hid hmo2
      clear hmo hmo2
      go_wp2_with fail
      go_step3
      go_wp2_with (go_at_call 36; refine (matColumns hmr).mono ?_; rintro e w2 ⟨rfl, rfl⟩)
      have hsw : w.heap.size ≤ w2.heap.size := hbl.size
      have hi'' : m.length = m.length := rfl
      have Ht := Lib.hid ht
      clear hi' hi'' hlt ht
      go_loopw [6, 45] (fun vp vc wr => ∃ (c : Nat) (G : List Nat) (Ap : Option Addr) (cp : Nat), c ≤ n ∧ vc = .int .i64 (c : Int) ∧ vp = .slice Ap (redTo m c).2.length cp ∧
        Hid (OwnMat w.heap.size 43 5 wr g m.length G (redTo m c).1 ∧ Own natE (fun _ => False) w.heap.size 3 wr Ap cp (redTo m c).2 ∧ (∀ a, Ap = some a → a.block ∉ g :: G)) ∧ Below w.heap.size w wr ∧ TabAt wr) (fun _ vc _ => n - (intOf vc).toNat)
      case atStart => exact ⟨0, G, none, 0, by omega, rfl, rfl, ⟨Hmo2.out, Own.nil, fun _ h => by cases h⟩, hbl, htr⟩
      case round =>
        clear Hmo2 hbl hmr htr hsw
        obtain ⟨c, G, Ap, cp, hc', rfl, rfl, hst, hbl, htr⟩ := hrel
        obtain ⟨hv1, hv2, hv3, hv4, hv5⟩ := redTo_inv hrect'.out c
        have Hv1 := Lib.hid hv1
        have Hv2 := Lib.hid hv2
        clear hv1 hv2 hv5
        by_cases hltc : c < n
        · have hltc' : c < cols m := by rw [hcn'.out]; exact hltc
          obtain ⟨wo, hwo⟩ : ∃ wo : World, wo = wr := ⟨_, rfl⟩
          subst hwo
          generalize hR : redTo m c = R at *
          have HR := Lib.hid hR
          clear hR
          go_wp2_with fail
          go_loopw [6, 9] (fun vp vk wx => ∃ (k f : Nat), vp = .slice Ap R.2.length cp ∧ R.2.length ≤ k ∧ k ≤ m.length ∧ vk = .int .i64 (k : Int) ∧ SameW wx wo ∧ Hid (f = m.length - k) ∧ Hid (leadFrom R.1 c f k = lead R.1 R.2.length c)) (fun _ vk _ => m.length - (intOf vk).toNat)
          case atStart => exact ⟨R.2.length, m.length - R.2.length, rfl, by omega, by omega, rfl, rfl, rfl, by show _ = _; unfold lead; rw [Hv1.out]⟩
          case round =>
            obtain ⟨k, f, rfl, hk0, hk1, rfl, hwx, hf, hlead⟩ := hrel
            obtain rfl : wr = wo := hwx
            by_cases hltk : k < m.length
            · have hkM : k < R.1.length := by rw [Hv1.out]; exact hltk
              have hrM : R.2.length < R.1.length := by omega
              have hGl : G.length = R.1.length := hst.out.1.len
              have hrN : R.2.length < m.length := by omega
              have hrk : R.1[k].length = n := Hv2.out _ (List.getElem_mem _)
              have hrr : R.1[R.2.length].length = n := Hv2.out _ (List.getElem_mem _)
              have hck : c < R.1[k].length := by omega
              obtain ⟨htk, hftk⟩ := hst.out.1.topCell hkM
              obtain ⟨htr2, hftr⟩ := hst.out.1.topCell hrM
              obtain ⟨hek, hfek⟩ := hst.out.1.rowCell hkM hck
              have hlst : leadFrom R.1 c f k = if R.1[k][c] != 0 then some k else leadFrom R.1 c (m.length - (k + 1)) (k + 1) := by
                have h1 := hf.out
                obtain ⟨f', rfl⟩ : ∃ f', f = f' + 1 := ⟨f - 1, by omega⟩
                have h2 : f' = m.length - (k + 1) := by omega
                rw [leadFrom, h2, getD_lt _ _ hkM, getD_lt _ _ hck]
              have hss : swapScale R.1 R.2.length k c = ((R.1.set R.2.length R.1[k]).set k R.1[R.2.length]).set R.2.length (scaled R.1[k] (ginv R.1[k][c])) := by
                rw [swapScale_eq hrM hkM, getD_lt _ _ hck]
              have hnx : lead R.1 R.2.length c = some k → redTo m (c + 1) = (clearedM R.1 R.2.length k c, R.2 ++ [c]) := by
                intro h
                simp only [redTo, redStep, HR.out, h]
              rw [hrk] at htk
              rw [hrr] at htr2
              by_cases hz : R.1[k][c] = 0
              · have htest : ((R.1[k][c].toNat : Int) == 0) = true := by rw [hz]; rfl
                have hl2 : Hid (leadFrom R.1 c (m.length - (k + 1)) (k + 1) = lead R.1 R.2.length c) := by
                  show _ = _
                  rw [← hlead.out, hlst, hz]; rfl
                generalize R.1[k][c] = z at *
                have hk2 := Lib.hid hrk
                clear hrk hrr hlst hss hnx hz htr2 hftr hlead
                go_wp2
                go_roundw
                case rel => exact ⟨k + 1, _, rfl, by omega, by omega, by go_num, rfl, rfl, hl2⟩
                case measure => simp [intOf]; omega
              · have htest : ((R.1[k][c].toNat : Int) == 0) = false := by
                  rw [beq_eq_false_iff_ne]; intro e; exact hz (UInt8.toNat_inj.1 (by simpa using e))
                have hl2 : lead R.1 R.2.length c = some k := by
                  rw [← hlead.out, hlst]; simp [hz]
                have hnx2 := Lib.hid (hnx hl2)
                have Hss := Lib.hid hss
                have Hz := Lib.hid hz
                have hsw2 := OwnMat.swap (w := wr.drew) (hst.out.1.keep (fun _ _ => rfl)) hrM hkM
                rw [hrk, hrr] at hsw2
                have hlow : w.heap.size ≤ g := hst.out.1.lo g (by simp)
                have hset1 := Go.Q.heap_setCell_same wr g R.2.length (.slice (some ⟨G[k], 0, none⟩) n n) _ _ hst.out.1.top
                have htl := tops_length (N := m.length) hst.out.1.len hst.out.1.le
                obtain ⟨hs1, hs2⟩ := cells_at hset1 k (by simp; omega)
                generalize hGk : G[k] = gk at *
                generalize hGr : G[R.2.length] = gr at *
                have HGk : Hid (gk ∈ G) := by show _ ∈ _; rw [← hGk]; exact List.getElem_mem _
                have HGr : Hid (gr ∈ G) := by show _ ∈ _; rw [← hGr]; exact List.getElem_mem _
                obtain ⟨xs1, hs1'⟩ : ∃ x, (wr.setCell ⟨g, R.2.length, none⟩ (.slice (some ⟨gk, 0, none⟩) n n)).cell? ⟨g, k, none⟩ = some x := ⟨_, hs1⟩
                have hbd : Below w.heap.size w ((wr.drew.setCell ⟨g, R.2.length, none⟩ (.slice (some ⟨gk, 0, none⟩) n n)).setCell ⟨g, k, none⟩ (.slice (some ⟨gr, 0, none⟩) n n)) :=
                  ((hbl.trans ((Drew.one wr).below _)).setCell hlow _).setCell hlow _
                have Hsw2 := Lib.hid hsw2
                have hzz := hz
                generalize hzv : R.1[k][c] = z at *
                have Hzv := Lib.hid hzv
                clear hs1 hset1 htl hsw2 hnx hlst hss hl2 hz hzz hzv hlead hGk hGr
                have Hrk := Lib.hid hrk
                have Hrr := Lib.hid hrr
                clear hrk hrr
                go_wp2
                refine wp_region_walk [0,0,0,0,0,0,0,1,0,0,0,1,2,2,2,2] [0,1,2,3,4,5,6,7,8,9,10,11,12,13,14,15] (fun w' => w'.cell? ⟨g, k, none⟩ = some (.slice (some ⟨gk, 0, none⟩) n n) ∧ w'.cell? ⟨g, R.2.length, none⟩ = some (.slice (some ⟨gr, 0, none⟩) n n)) rfl (by kernel_rfl) rfl (by kernel_rfl) (fun _ d _ _ _ h => by cases d <;> exact h) ⟨htk, htr2⟩ ?_
                repeat ((first | (apply walk_pure rfl rfl rfl; (intro w'; go_simp; rfl)) | (apply walk_read rfl rfl rfl; (rintro w' ⟨hs1, hs2⟩; go_simp; rfl))); simp only [Act.put, List.getElem_toArray, List.getElem_cons_zero, List.getElem_cons_succ, List.setIfInBounds_toArray, List.set_cons_zero, List.set_cons_succ])
                refine walk_free rfl rfl rfl (by kernel_rfl) (fun K hK => ?_)
                go_simp
                refine hK _ _ ?_
                clear hK K
                refine walk_free rfl rfl rfl (by kernel_rfl) (fun K hK => ?_)
                go_simp
                refine hK _ _ ?_
                clear hK K
                refine walk_free rfl rfl rfl (by kernel_rfl) (fun K hK => ?_)
                go_simp
                refine hK _ _ ?_
                clear hK K
                refine walk_free rfl rfl rfl (by kernel_rfl) (fun K hK => ?_)
                go_simp
                refine hK _ _ ?_
                clear hK K
                refine walk_nil ?_
                obtain ⟨w5, hw5⟩ : ∃ w5, w5 = ((wr.setCell ⟨g, R.2.length, none⟩ (.slice (some ⟨gk, 0, none⟩) n n)).setCell ⟨g, k, none⟩ (.slice (some ⟨gr, 0, none⟩) n n)).drew := ⟨_, rfl⟩
                rw [← hw5]
                have hb5 : Below w.heap.size w w5 := by rw [hw5]; exact hbd
                have hm5 := Hsw2.out.keep (w' := w5) (fun _ _ => by rw [hw5]; rfl)
                have ht5 : TabAt w5 := Ht.out.below hb5 Ht.out.1
                have hown5 : Own natE (fun _ => False) w.heap.size 3 w5 Ap cp R.2 := hst.out.2.1.keep (fun q hq h => by
                  rcases h with h | ⟨o, h⟩
                  · exact h.elim
                  · have h1 := hst.out.2.2 _ h
                    have h2 : q ≠ g := fun e => h1 (by simp [e])
                    rw [hw5]
                    show ((wr.setCell _ _).setCell _ _).heap[q]? = _
                    rw [heap_set_other _ _ _ _ _ h2, heap_set_other _ _ _ _ _ h2]) (by rw [hw5]; show _ ≤ ((wr.setCell _ _).setCell _ _).heap.size; simp [World.setCell])
                have hdis5 : ∀ a, Ap = some a → a.block ∉ g :: ((G.set R.2.length gk).set k gr) := by
                  intro a ha hmem
                  rcases List.mem_cons.1 hmem with h | h
                  · exact hst.out.2.2 a ha (by simp [h])
                  · rcases List.mem_or_eq_of_mem_set h with h | h
                    · rcases List.mem_or_eq_of_mem_set h with h | h
                      · exact hst.out.2.2 a ha (by simp [h])
                      · exact hst.out.2.2 a ha (by rw [h]; simp [HGk.out])
                    · exact hst.out.2.2 a ha (by rw [h]; simp [HGr.out])
                have hM2r : ((R.1.set R.2.length R.1[k]).set k R.1[R.2.length])[R.2.length]? = some R.1[k] := by
                  rw [List.getElem?_eq_getElem (by simpa using hrM), swap_get R.1 hrM hkM]
                have hM2rect : Hid (Rect ((R.1.set R.2.length R.1[k]).set k R.1[R.2.length]) n) := swap_rect Hv2.out hrM hkM
                have hM2len : ((R.1.set R.2.length R.1[k]).set k R.1[R.2.length]).length = m.length := by simp [Hv1.out]
                have hclr : Hid (clearedM R.1 R.2.length k c = clrTo (((R.1.set R.2.length R.1[k]).set k R.1[R.2.length]).set R.2.length (scaled R.1[k] (ginv z))) R.2.length c m.length) := by
                  show _ = _
                  unfold clearedM; rw [Hss.out, Hv1.out]
                have hXl : R.1[k].length = n := Hrk.out
                have hXc : R.1[k][c]? = some z := by rw [List.getElem?_eq_getElem hck, Hzv.out]
                have hG2l : ((G.set R.2.length gk).set k gr).length = m.length := by simp [hGl, Hv1.out]
                obtain ⟨gx, hgx⟩ : ∃ gx, ((G.set R.2.length gk).set k gr)[R.2.length]? = some gx := ⟨_, List.getElem?_eq_getElem (by omega)⟩
                generalize ((G.set R.2.length gk).set k gr) = G2 at *
                generalize ((R.1.set R.2.length R.1[k]).set k R.1[R.2.length]) = M2 at *
                generalize hXX : R.1[k] = X at *
                have HM2r := Lib.hid hM2r
                have HM2len := Lib.hid hM2len
                have HXl := Lib.hid hXl
                have HXc := Lib.hid hXc
                have Hgx := Lib.hid hgx
                have Hdis5 := Lib.hid hdis5
                have Hown5 := Lib.hid hown5
                have Hm5 := Lib.hid hm5
                obtain ⟨hrM2, hM2rX⟩ := List.getElem?_eq_some_iff.1 hM2r
                obtain ⟨hcX, hXcz⟩ := List.getElem?_eq_some_iff.1 hXc
                obtain ⟨hct5, hft5, hcx5, hgxg, _⟩ := hm5.at hrM2 hM2rX hgx
                obtain ⟨hcc5, hfc5⟩ := hcx5 c hcX
                rw [hXl] at hct5
                rw [hXcz] at hcc5
                have hcn3 : c < n := hltc
                clear hcx5 hXcz hM2rX hcX hrM2 hM2r hM2len hXl hXc hgx hdis5 hown5 hm5 hXX hs1' hs2 hek hfek htk hftk htr2 hftr Hsw2 hbd Hss Hrk Hrr Hzv hck hw5 hst
                go_wp2_with (go_at_call 50; refine (gfInv _ _ Hz.out ht5).mono ?_; rintro e w6 ⟨rfl, hw6⟩; obtain rfl : w5 = w6 := hw6.symm)
                clear hct5 hft5 hcc5 hfc5 ht5
                have hFl : (scaled X (ginv z)).length = X.length := scaled_length _ _
                have HFl := Lib.hid hFl
                have HFg : Hid (∀ j (h1 : j < (scaled X (ginv z)).length) (h2 : j < X.length), (scaled X (ginv z))[j] = gmul X[j] (ginv z)) := by
                  intro j h1 h2; simp [scaled]
                clear hFl
                generalize scaled X (ginv z) = F at *
                generalize ginv z = inv at *
                go_loopw [95] (fun vj wx => ∃ (j : Nat), j ≤ n ∧ vj = .int .i64 (j : Int) ∧ Hid (OwnMat w.heap.size 43 5 wx g m.length G2 (M2.set R.2.length (mixTo F X j))) ∧ Hid (Own natE (fun _ => False) w.heap.size 3 wx Ap cp R.2) ∧ Below w.heap.size w wx) (fun vj _ => n - (intOf vj).toNat)
                case atStart => exact ⟨0, by omega, rfl, Hm5.out.cast (by
                  rw [mixTo_zero]
                  obtain ⟨h1, h2⟩ := List.getElem?_eq_some_iff.1 HM2r.out
                  rw [← h2, List.set_getElem_self]), Hown5.out, hb5⟩
                case round =>
                  clear Hm5 Hown5 hb5
                  obtain ⟨j, hj', rfl, hmo, hown, hblx⟩ := hrel
                  by_cases hltj : j < n
                  · have hjX : j < X.length := by rw [HXl.out]; exact hltj
                    have hjF : j < F.length := by rw [HFl.out]; exact hjX
                    have hml : (mixTo F X j).length = n := by rw [mixTo_length F X j HFl.out (by omega), HXl.out]
                    have hjm : j < (mixTo F X j).length := by omega
                    have hrl : R.2.length < (M2.set R.2.length (mixTo F X j)).length := by rw [List.length_set, HM2len.out]; exact hrN
                    obtain ⟨hct, hft, hce, hgg, hlo⟩ := hmo.out.at hrl (by rw [List.getElem_set_self]) Hgx.out
                    obtain ⟨hcj, hfj⟩ := hce j hjm
                    rw [mixTo_get F X j HFl.out hjX hjm] at hcj
                    rw [hml] at hct
                    have hnext : Hid (OwnMat w.heap.size 43 5 (wr.drew.setCell ⟨gx, j, none⟩ (u8v (gmul X[j] inv))) g m.length G2 (M2.set R.2.length (mixTo F X (j + 1)))) := by
                      have h1 := OwnMat.setAt (w := wr.drew) (hmo.out.keep (fun _ _ => rfl)) hrl (V := mixTo F X j) (by rw [List.getElem_set_self]) Hgx.out j (gmul X[j] inv)
                      rw [← HFg.out j hjF hjX] at h1 ⊢
                      rw [row_step M2 _ j F X HFl.out hjF] at h1
                      exact h1
                    have hbx : Hid (Below w.heap.size w (wr.drew.setCell ⟨gx, j, none⟩ (u8v (gmul X[j] inv)))) := (hblx.trans ((Drew.one _).below _)).setCell hlo _
                    have hownx : Hid (Own natE (fun _ => False) w.heap.size 3 (wr.drew.setCell ⟨gx, j, none⟩ (u8v (gmul X[j] inv))) Ap cp R.2) := hown.out.keep (fun q hq h => by
                      rcases h with h | ⟨o, h⟩
                      · exact h.elim
                      · have h1 := Hdis5.out _ h
                        have h2 : q ≠ gx := fun e => h1 (by
                          obtain ⟨h3, h4⟩ := List.getElem?_eq_some_iff.1 Hgx.out
                          simp only [e, ← h4]; simp)
                        exact heap_set_other _ _ _ _ _ h2) (by simp [World.setCell])
                    have htw : TabAt wr.drew := Ht.out.below (hblx.trans ((Drew.one _).below _)) Ht.out.1
                    generalize X[j] = y at *
                    clear hce hml hjm hrl hjF hjX
                    go_wp2
                    refine wp_region_walk [0,0,0,1,0,0,0,0,1,0,0,1,0,1,2,2] [0,1,2,3,4,5,6,7,8,9,10,11,12,13,14,15] (fun w' => w'.cell? ⟨g, R.2.length, none⟩ = some (.slice (some ⟨gx, 0, none⟩) n n) ∧ w'.cell? ⟨gx, j, none⟩ = some (u8v y) ∧ TabAt w') rfl (by kernel_rfl) rfl (by kernel_rfl) (fun _ d _ _ _ h => by cases d <;> exact h) ⟨hct, hcj, htw⟩ ?_
                    repeat ((first | (apply walk_pure rfl rfl rfl; (intro w'; go_simp; rfl)) | (apply walk_read rfl rfl rfl; (rintro w' ⟨hs1, hs2, hs3⟩; go_simp; rfl)) | (apply walk_calm rfl rfl rfl; (rintro w' ⟨hs1, hs2, hs3⟩; go_simp; exact ⟨rfl, rfl⟩); (rintro w' ⟨hs1, hs2, hs3⟩; exact (gfMul _ _ _ hs3)))); simp only [Act.put, List.getElem_toArray, List.getElem_cons_zero, List.getElem_cons_succ, List.setIfInBounds_toArray, List.set_cons_zero, List.set_cons_succ])
                    refine walk_rest 14 (by kernel_rfl) rfl ?_
                    simp only [List.drop_succ_cons, List.drop_zero]
                    go_wp2
                    go_roundw
                    case rel => exact ⟨j + 1, by omega, by go_num, hnext, hownx, hbx.out⟩
                    case measure => simp [intOf]; omega
                  · obtain rfl : j = n := by omega
                    have hl1 : M2.set R.2.length (mixTo F X j) = M2.set R.2.length F := by
                      have := mixTo_all F X HFl.out
                      rw [HXl.out] at this
                      rw [this]
                    have hmo1 : Hid (OwnMat w.heap.size 43 5 wr g m.length G2 (M2.set R.2.length F)) := hmo.out.cast hl1
                    have hl1rect : Hid (Rect (M2.set R.2.length F) j) := hM2rect.out.set (by rw [HFl.out, HXl.out])
                    have hl1len : Hid ((M2.set R.2.length F).length = m.length) := by show _ = _; rw [List.length_set, HM2len.out]
                    clear hmo hl1
                    generalize M2.set R.2.length F = l1 at *
                    obtain ⟨wo, hwo⟩ : ∃ wo : World, wo = wr := ⟨_, rfl⟩
                    subst hwo
                    go_wp2_with fail
                    go_loopw [116] (fun vi wx => ∃ (i : Nat), i ≤ m.length ∧ vi = .int .i64 (i : Int) ∧ Hid (OwnMat w.heap.size 43 5 wx g m.length G2 (clrTo l1 R.2.length c i)) ∧ Hid (Own natE (fun _ => False) w.heap.size 3 wx Ap cp R.2) ∧ Below w.heap.size w wx) (fun vi _ => m.length - (intOf vi).toNat)
                    case atStart => exact ⟨0, by omega, rfl, hmo1, hown, hblx⟩
                    case round =>
                      clear hmo1 hown hblx
                      obtain ⟨i, hi', rfl, hmo, hown, hblx⟩ := hrel
                      by_cases hlti : i < m.length
                      · have hLl : (clrTo l1 R.2.length c i).length = m.length := by rw [clrTo_length, hl1len.out]
                        have hLr : Rect (clrTo l1 R.2.length c i) j := clrTo_rect hl1rect.out (by rw [hl1len.out]; exact hrN) i (by rw [hl1len.out]; exact hi')
                        have hiL : i < (clrTo l1 R.2.length c i).length := by omega
                        have hrL : R.2.length < (clrTo l1 R.2.length c i).length := by omega
                        obtain ⟨V, hV⟩ : ∃ V, (clrTo l1 R.2.length c i)[i] = V := ⟨_, rfl⟩
                        obtain ⟨Y, hY⟩ : ∃ Y, (clrTo l1 R.2.length c i)[R.2.length] = Y := ⟨_, rfl⟩
                        have hVl : V.length = j := by rw [← hV]; exact hLr _ (List.getElem_mem _)
                        have hYl : Y.length = j := by rw [← hY]; exact hLr _ (List.getElem_mem _)
                        have hV' : (clrTo l1 R.2.length c i)[i]? = some V := by rw [List.getElem?_eq_getElem hiL, hV]
                        have hY' : (clrTo l1 R.2.length c i)[R.2.length]? = some Y := by rw [List.getElem?_eq_getElem hrL, hY]
                        have hcV : c < V.length := by omega
                        obtain ⟨y, hy⟩ : ∃ y, V[c] = y := ⟨_, rfl⟩
                        have hy' : V[c]? = some y := by rw [List.getElem?_eq_getElem hcV, hy]
                        obtain ⟨gi, hgi⟩ : ∃ gi, G2[i]? = some gi := ⟨_, List.getElem?_eq_getElem (by omega)⟩
                        obtain ⟨hct, hft, hce, hgg, hlo⟩ := hmo.out.at hiL hV hgi
                        obtain ⟨hcc, hfc⟩ := hce c hcV
                        rw [hy] at hcc
                        rw [hVl] at hct
                        have HV := Lib.hid hV
                        have HY := Lib.hid hY
                        have HVl := Lib.hid hVl
                        have HYl := Lib.hid hYl
                        have Hgi := Lib.hid hgi
                        have HLl := Lib.hid hLl
                        have hstep := Lib.hid (fun h : i ≠ R.2.length => clr_step l1 h hV' hY' hy')
                        have hskip : Hid (y = 0 → clrTo l1 R.2.length c (i + 1) = clrTo l1 R.2.length c i) := fun h => clr_skip l1 hV' hY' (by rw [hy', h]) (by omega)
                        have hself : Hid (i = R.2.length → clrTo l1 R.2.length c (i + 1) = clrTo l1 R.2.length c i) := fun h => by rw [clrTo, if_pos h]
                        clear hLl hLr hV hY hVl hYl hV' hY' hy hy' hgi hce
                        generalize hL : clrTo l1 R.2.length c i = L at *
                        clear hL
                        by_cases hir : i = R.2.length
                        · have ht1 : ((i : Int) != (R.2.length : Int)) = false := by rw [hir]; simp
                          have hnext : Hid (OwnMat w.heap.size 43 5 wr g m.length G2 (clrTo l1 R.2.length c (i + 1))) := hmo.out.cast (hself.out hir).symm
                          have Hir := Lib.hid hir
                          clear hir
                          go_wp2
                          go_roundw
                          case rel => exact ⟨i + 1, by omega, by go_num, hnext, hown, hblx⟩
                          case measure => simp [intOf]; omega
                        · have ht1 : ((i : Int) != (R.2.length : Int)) = true := by rw [bne_iff_ne]; omega
                          by_cases hyz : y = 0
                          · have ht2 : ((y.toNat : Int) != 0) = false := by rw [hyz]; rfl
                            have hnext : Hid (OwnMat w.heap.size 43 5 wr g m.length G2 (clrTo l1 R.2.length c (i + 1))) := hmo.out.cast (hskip.out hyz).symm
                            have Hyz := Lib.hid hyz
                            clear hyz
                            go_wp2
                            go_roundw
                            case rel => exact ⟨i + 1, by omega, by go_num, hnext, hown, hblx⟩
                            case measure => simp [intOf]; omega
                          · have ht2 : ((y.toNat : Int) != 0) = true := by
                              rw [bne_iff_ne]; intro e; exact hyz (UInt8.toNat_inj.1 (by simpa using e))
                            have hst2 := Lib.hid (hstep.out hir)
                            have Hyz := Lib.hid hyz
                            have Hir := Lib.hid hir
                            clear hyz hir
                            go_wp2_with fail
                            have hF2l : (rowAdd V y Y).length = V.length := by rw [rowAdd_len (n := j) HVl.out (by rw [HYl.out]; exact Nat.le_refl _), HVl.out]
                            have HF2l := Lib.hid hF2l
                            have HF2g : Hid (∀ q (h1 : q < (rowAdd V y Y).length) (h2 : q < V.length) (h3 : q < Y.length), (rowAdd V y Y)[q] = V[q] ^^^ gmul y Y[q]) := by
                              intro q h1 h2 h3; simp [rowAdd]
                            obtain ⟨wo, hwo⟩ : ∃ wo : World, wo = wr := ⟨_, rfl⟩
                            subst hwo
                            clear hF2l hct hft hcc hfc
                            generalize rowAdd V y Y = F2 at *
                            go_loopw [138] (fun vq wx => ∃ (q : Nat), q ≤ j ∧ vq = .int .i64 (q : Int) ∧ Hid (OwnMat w.heap.size 43 5 wx g m.length G2 (L.set i (mixTo F2 V q))) ∧ Hid (Own natE (fun _ => False) w.heap.size 3 wx Ap cp R.2) ∧ Below w.heap.size w wx) (fun vq _ => j - (intOf vq).toNat)
                            case atStart => exact ⟨0, by omega, rfl, hmo.out.cast (by rw [mixTo_zero, ← HV.out, List.set_getElem_self]), hown, hblx⟩
                            case round =>
                              clear hmo hown hblx
                              obtain ⟨q, hq', rfl, hmo, hown, hblx⟩ := hrel
                              by_cases hltq : q < j
                              · have hqV : q < V.length := by rw [HVl.out]; exact hltq
                                have hqY : q < Y.length := by rw [HYl.out]; exact hltq
                                have hqF : q < F2.length := by rw [HF2l.out]; exact hqV
                                have hml : (mixTo F2 V q).length = j := by rw [mixTo_length F2 V q HF2l.out (by omega), HVl.out]
                                have hqm : q < (mixTo F2 V q).length := by omega
                                have hiS : i < (L.set i (mixTo F2 V q)).length := by rw [List.length_set, HLl.out]; exact hlti
                                have hrS : R.2.length < (L.set i (mixTo F2 V q)).length := by rw [List.length_set, HLl.out]; exact hrN
                                obtain ⟨hct, hft, hce, hgg2, hlo2⟩ := hmo.out.at hiS (by rw [List.getElem_set_self]) Hgi.out
                                obtain ⟨hcr, hfr, hcre, _, _⟩ := hmo.out.at hrS (V := Y) (by rw [List.getElem_set_ne Hir.out]; exact HY.out) Hgx.out
                                obtain ⟨hcq, hfq⟩ := hce q hqm
                                obtain ⟨hcy, hfy⟩ := hcre q hqY
                                rw [mixTo_get F2 V q HF2l.out hqV hqm] at hcq
                                rw [hml] at hct
                                rw [HYl.out] at hcr
                                have hnext : Hid (OwnMat w.heap.size 43 5 (wr.drew.setCell ⟨gi, q, none⟩ (u8v (V[q] ^^^ gmul y Y[q]))) g m.length G2 (L.set i (mixTo F2 V (q + 1)))) := by
                                  have h1 := OwnMat.setAt (w := wr.drew) (hmo.out.keep (fun _ _ => rfl)) hiS (V := mixTo F2 V q) (by rw [List.getElem_set_self]) Hgi.out q (V[q] ^^^ gmul y Y[q])
                                  rw [← HF2g.out q hqF hqV hqY] at h1 ⊢
                                  rw [row_step L _ q F2 V HF2l.out hqF] at h1
                                  exact h1
                                have hbx : Hid (Below w.heap.size w (wr.drew.setCell ⟨gi, q, none⟩ (u8v (V[q] ^^^ gmul y Y[q])))) := (hblx.trans ((Drew.one _).below _)).setCell hlo2 _
                                have hownx : Hid (Own natE (fun _ => False) w.heap.size 3 (wr.drew.setCell ⟨gi, q, none⟩ (u8v (V[q] ^^^ gmul y Y[q]))) Ap cp R.2) := hown.out.keep (fun s hs h => by
                                  rcases h with h | ⟨o, h⟩
                                  · exact h.elim
                                  · have h1 := Hdis5.out _ h
                                    have h2 : s ≠ gi := fun e => h1 (by
                                      obtain ⟨h3, h4⟩ := List.getElem?_eq_some_iff.1 Hgi.out
                                      simp only [e, ← h4]; simp)
                                    exact heap_set_other _ _ _ _ _ h2) (by simp [World.setCell])
                                have htw : TabAt wr.drew := Ht.out.below (hblx.trans ((Drew.one _).below _)) Ht.out.1
                                have hx8 := Lib.hid (bits_xor_u8 V[q] (gmul y Y[q]))
                                generalize V[q] = a1 at *
                                generalize Y[q] = a2 at *
                                clear hce hcre hml hqm hiS hrS hqV hqY hqF
                                go_wp2
                                refine wp_region_walk [0,0,0,1,0,0,1,0,0,0,0,1,0,0,1,1,0,2,2] [0,1,2,3,4,5,6,7,8,9,10,11,12,13,14,15,16,17,18] (fun w' => w'.cell? ⟨g, i, none⟩ = some (.slice (some ⟨gi, 0, none⟩) j j) ∧ w'.cell? ⟨g, R.2.length, none⟩ = some (.slice (some ⟨gx, 0, none⟩) j j) ∧ w'.cell? ⟨gi, q, none⟩ = some (u8v a1) ∧ w'.cell? ⟨gx, q, none⟩ = some (u8v a2) ∧ TabAt w') rfl (by kernel_rfl) rfl (by kernel_rfl) (fun _ d _ _ _ h => by cases d <;> exact h) ⟨hct, hcr, hcq, hcy, htw⟩ ?_
                                repeat ((first | (apply walk_pure rfl rfl rfl; (intro w'; go_simp; rfl)) | (apply walk_read rfl rfl rfl; (rintro w' ⟨hs1, hs2, hs3, hs4, hs5⟩; go_simp; rfl)) | (apply walk_calm rfl rfl rfl; (rintro w' ⟨hs1, hs2, hs3, hs4, hs5⟩; go_simp; exact ⟨rfl, rfl⟩); (rintro w' ⟨hs1, hs2, hs3, hs4, hs5⟩; exact (gfMul _ _ _ hs5)))); simp only [Act.put, List.getElem_toArray, List.getElem_cons_zero, List.getElem_cons_succ, List.setIfInBounds_toArray, List.set_cons_zero, List.set_cons_succ])
                                refine walk_rest 17 (by kernel_rfl) rfl ?_
                                simp only [List.drop_succ_cons, List.drop_zero]
                                rw [hx8.out]
                                go_wp2
                                go_roundw
                                case rel => exact ⟨q + 1, by omega, by go_num, hnext, hownx, hbx.out⟩
                                case measure => simp [intOf]; omega
                              · obtain rfl : q = j := by omega
                                have hnext : Hid (OwnMat w.heap.size 43 5 wr g m.length G2 (clrTo l1 R.2.length c (i + 1))) := by
                                  refine hmo.out.cast ?_
                                  rw [hst2.out]
                                  have := mixTo_all F2 V HF2l.out
                                  rw [HVl.out] at this
                                  rw [this]
                                clear hmo
                                go_wp2
                                go_roundw
                                case rel => exact ⟨i + 1, by omega, by go_num, hnext, hown, hblx⟩
                                case measure => simp [intOf]; omega
                      · obtain rfl : i = m.length := by omega
                        have hmf := Lib.hid (hmo.out.cast hclr.out.symm)
                        clear hmo
                        go_wp2_with (at_builtin; refine wpList_append_box (P := fun _ => False) rfl (.tmp 161) (.tmp 163) 29 rfl rfl rfl Tryd.underlying29 hi3 hx0 hx1 hx2 rfl (by decide) rfl hown.out hblx c (fun _ => False) ⟨rfl, by omega⟩ (fun _ h => h.elim) (fun _ _ h => h) (by omega) ?_; intro A5 cap5 w5 hown5 hb5 hold5 hA5; refine pause ?_)
                        have hrel2 : Hid (OwnMat w.heap.size 43 5 w5 g m.length G2 (redTo m (c + 1)).1 ∧ Own natE (fun _ => False) w.heap.size 3 w5 A5 cap5 (redTo m (c + 1)).2 ∧ (∀ a, A5 = some a → a.block ∉ g :: G2)) := by
                          refine ⟨?_, ?_, ?_⟩
                          · rw [hnx2.out]
                            refine hmf.out.keep (fun b hb => hold5 b (hmf.out.blocksIn b hb) ?_)
                            intro e
                            cases hAp : Ap with
                            | none => rw [hAp] at e; cases e
                            | some a =>
                              rw [hAp] at e
                              simp only [Option.map_some, Option.some.injEq] at e
                              exact Hdis5.out a hAp (e ▸ hb)
                          · rw [hnx2.out]; exact hown5
                          · intro a ha hmem
                            rcases hA5.2 with h | h
                            · exact Hdis5.out a (h ▸ ha) hmem
                            · rw [h] at ha
                              cases ha
                              exact absurd (hmf.out.blocksIn _ hmem) (by show ¬ _ + 1 < _; omega)
                        have hlp : Hid (R.2.length + 1 = (redTo m (c + 1)).2.length) := by show _ = _; rw [hnx2.out]; simp
                        have ht6 : TabAt w5 := Ht.out.below hb5 Ht.out.1
                        clear hown5 hold5 hA5 hmf hown
                        refine unpause ?_
                        go_wp2
                        go_roundw
                        case rel => exact ⟨c + 1, G2, A5, cap5, by omega, by go_num, by rw [hlp.out], hrel2, hb5, ht6⟩
                        case measure => simp [intOf]; omega
            · obtain rfl : k = m.length := by omega
              have hnone : Hid (redTo m (c + 1) = R) := by
                show _ = _
                have h1 := hf.out
                obtain rfl : f = 0 := by omega
                have h2 := hlead.out
                simp only [leadFrom] at h2
                simp only [redTo, redStep, HR.out, ← h2]
              go_wp2_with fail
              go_roundw
              case rel => exact ⟨c + 1, G, Ap, cp, by omega, by go_num, by rw [hnone.out], by show _ ∧ _; rw [hnone.out]; exact hst.out, hbl, htr⟩
              case measure => simp [intOf]; omega
        · obtain rfl : c = n := by omega
          have hfin : reduceM m = ((redTo m c).1.take (redTo m c).2.length, (redTo m c).2) := by unfold reduceM; rw [hcn'.out]
          have hlen1 : Hid ((reduceM m).1.length = (redTo m c).2.length) := by show _ = _; rw [hfin]; simp [Hv1.out]; omega
          have hlen2 : Hid ((reduceM m).2.length = (redTo m c).2.length) := by show _ = _; rw [hfin]
          have hres : Hid (Rows8 (fresh w wr) wr (some ⟨g, 0, none⟩) m.length (reduceM m).1 ∧ Ints (fresh w wr) wr Ap cp (reduceM m).2) := by
            show _ ∧ _
            rw [hfin]
            refine ⟨?_, ?_⟩
            · have h1 := (hst.out.1.sl Hv1.out (by omega) (fun r hr => by rw [Hv2.out r hr]; omega)).take (redTo m c).2.length
              exact h1.mono (fun k hk => ⟨hst.out.1.lo k hk, hst.out.1.blocksIn k hk⟩)
            · exact hst.out.2.1.sl (fun k hk h => ⟨h.resolve_left id, hk⟩)
          have hct : c = cols m := hcn'.out.symm
          have Hct := Lib.hid hct
          have hcap := hst.out.2.1.capLe
          clear hfin hct hst
          generalize redTo m c = R at *
          rw [← Hct.out]
          go_wp2
          go_ret2
          exact ⟨some ⟨g, 0, none⟩, m.length, Ap, cp, by rw [hlen1.out, hlen2.out]; rfl, hres.out.1, hres.out.2, hbl⟩
end Go.Proofs.YtokclgjkdpjjfaaDoor
