/-
  The walk of matrix.grid.
-/
import Derived.Test.YtokclgjkdpjjfaaDoorWa
import Derived.Test.YtokclgjkdpjjfaaDoorMat
namespace Go.Proofs.YtokclgjkdpjjfaaDoor
open Go.RowKit Go.Q
variable {w : World} {S S' : Reg} {A A' : Option Addr} {cap cap' : Nat}
/-- A new matrix. -/
def GiveMat (w : World) (ys : List (List UInt8)) (e : Ending) (w' : World) : Prop :=
  ∃ A cap, e = .returned (.slice A ys.length cap) ∧ Rows8 (fresh w w') w' A cap ys ∧ Below w.heap.size w w'
set_option maxHeartbeats 2000000 in
theorem matGrid (rows cs : Nat) (f : FuncId) (caps : Array Value) (gf : Nat → Nat → UInt8) (hr : rows ≤ 1000) (hc : cs ≤ 1000)
    (hf : ∀ args w, Sem.run Tryd.prog (callFunc f args) w = .ok (.enter f args) w)
    (hcall : ∀ i k, i < rows → k < cs → ∀ w', Below w.heap.size w w' → Calls Tryd.prog f (#[.int .i64 (i : Int), .int .i64 (k : Int)] ++ caps) w' (fun e w'' => e = .returned (u8v (gf i k)) ∧ Drew w' w'')) :
    Calls Tryd.prog 35 #[.int .i64 (rows : Int), .int .i64 (cs : Int), .func (.func f) #[] caps] w (GiveMat w (gridM rows cs gf)) := by
  obtain ⟨i0, hi, hz0, hz1, hz2⟩ := info_parts info43
  obtain ⟨i1, hi1, hy0, hy1, hy2⟩ := info_parts info5
  have Hcall := Lib.hid hcall
  clear hcall
  go_enter Tryd.func35, Tryd.ntmps35
  go_wp2_with (at_make; refine wpList_make_cells rfl (.tmp 10) (.tmp 10) 22 rfl Tryd.underlying22 hi hz0 hz1 hz2 rfl rfl rfl (by omega) (Below.refl _ _) ?_; intro w1 hw1 hb1 _ _; refine pause ?_)
  obtain ⟨g, hg⟩ : ∃ g, g = w.heap.size := ⟨_, rfl⟩
  have hm1 : OwnMat w.heap.size 43 5 w1 g rows [] [] := OwnMat.made (by rw [hg]; exact hw1) (by omega)
  rw [← hg]
  clear hw1
  refine unpause ?_
  go_wp2_with fail
  have Hg := Lib.hid hg
  clear hg
  go_loopw [14] (fun vi wr => ∃ (i : Nat) (G : List Nat), i ≤ rows ∧ vi = .int .i64 (i : Int) ∧ Hid (OwnMat w.heap.size 43 5 wr g rows G ((gridM rows cs gf).take i)) ∧ Below w.heap.size w wr) (fun vi _ => rows - (intOf vi).toNat)
  case atStart => exact ⟨0, [], by omega, rfl, hm1, hb1⟩
  case round =>
    clear hm1 hb1
    obtain ⟨i, G, hi', rfl, hm, hbl⟩ := hrel
    by_cases hlt : i < rows
    · have hl0 : ((gridM rows cs gf).take i).length = i := by rw [List.length_take, gridM_length]; omega
      have Hl0 := Lib.hid hl0
      have hsz := hbl.size
      clear hl0
      go_wp2_with (at_make; refine wpList_make_cells rfl (.tmp 19) (.tmp 19) 43 rfl Tryd.underlying43 hi1 hy0 hy1 hy2 rfl rfl rfl (by omega) hbl ?_; intro w2 hw2 hb2 hold hlt2; refine pause ?_)
      have hb : ∃ b, b = wr.heap.size := ⟨_, rfl⟩
      obtain ⟨b, hbe⟩ := hb
      rw [← hbe] at hw2
      have hm2 := hm.out.keep (w' := w2) (fun k hk => hold k (hm.out.blocksIn k hk))
      have hnew : ∀ k ∈ g :: G, k ≠ b := fun k hk => by have := hm.out.blocksIn k hk; omega
      obtain ⟨hcn, hfn⟩ := hm2.nilCell (i := i) (by rw [Hl0.out]; exact Nat.le_refl _) hlt
      have hbg : b ≠ g := fun e => hnew g (by simp) e.symm
      have hm3 := OwnMat.push hm2 (by rw [Hl0.out]; exact hlt) (w' := w2) (b := b) (r := rowTo cs (gf i) 0) (fun _ _ => rfl) (by rw [rowTo_zero, List.map_replicate]; exact hw2) hnew (by omega)
      rw [Hl0.out, rowTo_length] at hm3
      have Hm3 := Lib.hid hm3
      have hb3 : Below w.heap.size w (w2.setCell ⟨g, i, none⟩ (.slice (some ⟨b, 0, none⟩) cs cs)) := hb2.setCell (hm.out.lo g (by simp)) _
      rw [← hbe]
      have Hbe := Lib.hid hbe
      have hgl : G.length = i := by rw [hm.out.len, Hl0.out]
      have Hgl := Lib.hid hgl
      have hgsz : g < w2.heap.size := hm2.gIn
      clear hm3 hm2 hw2 hm hold hnew hbe hgl hb2
      refine unpause ?_
      go_wp2_with fail
      obtain ⟨w3, hw3⟩ : ∃ w3, w3 = w2.setCell ⟨g, i, none⟩ (.slice (some ⟨b, 0, none⟩) cs cs) := ⟨_, rfl⟩
      rw [← hw3] at hb3 Hm3 ⊢
      clear hw3 hcn hfn
      obtain ⟨wo, hwo⟩ : ∃ wo : World, wo = wr := ⟨_, rfl⟩
      rw [← hwo] at *
      clear hwo
      go_loopw [27] (fun vk wx => ∃ (k : Nat), k ≤ cs ∧ vk = .int .i64 (k : Int) ∧ Hid (OwnMat w.heap.size 43 5 wx g rows (G ++ [b]) ((gridM rows cs gf).take i ++ [rowTo cs (gf i) k])) ∧ Below w.heap.size w wx) (fun vk _ => cs - (intOf vk).toNat)
      case atStart => exact ⟨0, by omega, rfl, Hm3, hb3⟩
      case round =>
        clear Hm3 hb3
        obtain ⟨k, hk', rfl, hm, hbl3⟩ := hrel
        by_cases hltk : k < cs
        · have hlen : ((gridM rows cs gf).take i ++ [rowTo cs (gf i) k]).length = i + 1 := by simp [Hl0.out]
          have hget : ((gridM rows cs gf).take i ++ [rowTo cs (gf i) k])[i]'(by omega) = rowTo cs (gf i) k := by
            rw [List.getElem_append_right (by rw [Hl0.out]; exact Nat.le_refl _)]
            simp [Hl0.out]
          have hgG : (G ++ [b])[i]'(by simp [Hgl.out]) = b := by
            rw [List.getElem_append_right (by rw [Hgl.out]; exact Nat.le_refl _)]
            simp [Hgl.out]
          obtain ⟨hct, hft⟩ := hm.out.topCell (i := i) (by omega)
          simp only [hgG, hget, rowTo_length] at hct
          obtain ⟨hce, hfe⟩ := hm.out.rowCell (i := i) (j := k) (by omega) (by rw [hget, rowTo_length]; exact hltk)
          simp only [hgG] at hce hfe
          obtain ⟨x0, hx0⟩ : ∃ x0, wr.cell? ⟨b, k, none⟩ = some (u8v x0) := ⟨_, hce⟩
          clear hce
          have hnext : Hid (∀ w5, Drew wr.drew w5 → OwnMat w.heap.size 43 5 (w5.setCell ⟨b, k, none⟩ (u8v (gf i k))) g rows (G ++ [b]) ((gridM rows cs gf).take i ++ [rowTo cs (gf i) (k + 1)])) := by
            intro w5 hd5
            have h1 := OwnMat.setElem (w := w5) (hm.out.keep (fun _ _ => by rw [hd5.heap]; rfl)) (i := i) (j := k) (by omega) (gf i k) (b := b) hgG.symm
            rw [hget, rowTo_set, List.set_append_right _ _ (by rw [Hl0.out]; exact Nat.le_refl _), Hl0.out, Nat.sub_self, List.set_cons_zero] at h1
            exact h1
          have hbx : Hid (∀ w5, Drew wr.drew w5 → Below w.heap.size w (w5.setCell ⟨b, k, none⟩ (u8v (gf i k)))) := by
            intro w5 hd5
            refine ((hbl3.trans ((Drew.one _).below _)).trans (hd5.below _)).setCell ?_ _
            have := hm.out.lo b (by simp)
            exact this
          clear hlen hget hgG
          go_wp2
          refine wp_region_walk [0,0,0,1,0,0,0,0,2,2,2] [0,1,2,3,4,5,6,7,8,9,10] (fun w' => w'.cell? ⟨g, i, none⟩ = some (.slice (some ⟨b, 0, none⟩) cs cs) ∧ Below w.heap.size w w') rfl (by kernel_rfl) rfl (by kernel_rfl) (fun _ d _ _ _ h => by cases d <;> exact h) ⟨hct, hbl3.trans ((Drew.one _).below _)⟩ ?_
          repeat ((first | (apply walk_pure rfl rfl rfl; (intro w'; go_simp; rfl)) | (apply walk_read rfl rfl rfl; (rintro w' ⟨hs1, hs2⟩; go_simp; rfl))); simp only [Act.put, List.getElem_toArray, List.getElem_cons_zero, List.getElem_cons_succ, List.setIfInBounds_toArray, List.set_cons_zero, List.set_cons_succ])
          refine walk_op rfl rfl rfl (fun K hK => ?_)
          go_simp
          refine (Hcall.out i k hlt hltk wr.drew (hbl3.trans ((Drew.one _).below _))).mono ?_
          rintro e w5 ⟨rfl, hd5⟩
          have hct5 : w5.cell? ⟨g, i, none⟩ = some (.slice (some ⟨b, 0, none⟩) cs cs) := by rw [World.cell?_of_block (w := wr) (by rw [hd5.heap]; rfl)]; exact hct
          have hx5 : w5.cell? ⟨b, k, none⟩ = some (u8v x0) := by rw [World.cell?_of_block (w := wr) (by rw [hd5.heap]; rfl)]; exact hx0
          have hf5 : w5.frozen? ⟨b, k, none⟩ = false := by rw [World.frozen?_of_block (w := wr) (by rw [hd5.heap]; rfl)]; exact hfe
          refine hK _ _ (fun _ => ⟨hct5, (hbl3.trans ((Drew.one _).below _)).trans (hd5.below _)⟩) ?_
          have Hd5 := Lib.hid hd5
          clear hK K hd5
          refine walk_rest 9 (by kernel_rfl) rfl ?_
          simp only [List.drop_succ_cons, List.drop_zero]
          go_wp2
          go_roundw
          case rel => exact ⟨k + 1, by omega, by go_num, hnext.out _ Hd5.out, hbx.out _ Hd5.out⟩
          case measure => simp [intOf]; omega
        · obtain rfl : k = cs := by omega
          have hnext : Hid (OwnMat w.heap.size 43 5 wr g rows (G ++ [b]) ((gridM rows k gf).take (i + 1))) := by
            show OwnMat _ _ _ _ _ _ _ _
            rw [← gridM_step rows k gf i hlt, ← rowTo_all]; exact hm.out
          clear hm
          go_wp2
          go_roundw
          case rel => exact ⟨i + 1, G ++ [b], by omega, by go_num, hnext, hbl3⟩
          case measure => simp [intOf]; omega
    · obtain rfl : i = rows := by omega
      have hl : Hid ((gridM i cs gf).length = i) := gridM_length _ _ _
      have hm2 : OwnMat w.heap.size 43 5 wr g i G (gridM i cs gf) := by
        have := hm.out
        rw [List.take_of_length_le (by rw [hl.out]; exact Nat.le_refl _)] at this
        exact this
      have hr2 : ∀ r ∈ gridM i cs gf, r.length ≤ 9223372036854775807 := by
        intro r hr
        simp only [gridM, List.mem_map] at hr
        obtain ⟨x, _, rfl⟩ := hr
        simp; omega
      have Hm2 := Lib.hid hm2
      have Hr2 := Lib.hid hr2
      clear hm hm2 hr2
      go_wp2
      go_ret
      exact ⟨some ⟨g, 0, none⟩, i, ret_slice hl.out.symm, (Hm2.out.sl hl.out (by omega) Hr2.out).mono (fun k hk => ⟨Hm2.out.lo k hk, Hm2.out.blocksIn k hk⟩), hbl⟩
end Go.Proofs.YtokclgjkdpjjfaaDoor
