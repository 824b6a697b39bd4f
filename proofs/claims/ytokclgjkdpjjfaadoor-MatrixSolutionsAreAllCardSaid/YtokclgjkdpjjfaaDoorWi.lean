/-
  The walks of matrix.Transpose and matrix.Product.
-/
import Derived.Test.YtokclgjkdpjjfaaDoorWh
namespace Go.Proofs.YtokclgjkdpjjfaaDoor
open Go.RowKit Go.Q
variable {w : World} {S S' : Reg} {A A' : Option Addr} {cap cap' : Nat}
/-- A new matrix and an error. -/
def GiveMatE (w : World) (ys : List (List UInt8)) (x : Nat) (e : Ending) (w' : World) : Prop :=
  ∃ A cap, e = .returned (.tuple #[.slice A ys.length cap, .int .i64 (x : Int)]) ∧ Rows8 (fresh w w') w' A cap ys ∧ Below w.heap.size w w'
set_option maxHeartbeats 1000000 in
theorem matAt37 {m : List (List UInt8)} {bx : Nat} (i k : Nat) (hk : k < m.length) (hi : i < (m.getD k []).length) (hbox : w.cell? ⟨bx, 0, none⟩ = some (.slice A m.length cap)) (hm : Rows8 S w A cap m) :
    Calls Tryd.prog 37 #[.int .i64 (i : Int), .int .i64 (k : Int), .pointer (some ⟨bx, 0, none⟩)] w (fun e w'' => e = .returned (u8v ((m.getD k []).getD i 0)) ∧ Drew w w'') := by
  rw [getD_lt _ _ hk] at hi ⊢
  rw [getD_lt _ _ hi]
  have hl := hm.len
  obtain ⟨b, o, A1, c1, rfl, _, hc1, hr1⟩ := rows_get hm hk
  have hl1 := hr1.len
  obtain ⟨b2, o2, rfl, _, hc2⟩ := bytes_get hr1 hi
  clear hm hr1
  go_enter Tryd.func37, Tryd.ntmps37
  go_wp2
  go_ret
  exact ⟨rfl, Drew.refl _⟩
set_option maxHeartbeats 1000000 in
theorem matAt46 {m : List (List UInt8)} {bx : Nat} (i k : Nat) (hk : k < m.length) (hi : i < (m.getD k []).length) (hbox : w.cell? ⟨bx, 0, none⟩ = some (.slice A m.length cap)) (hm : Rows8 S w A cap m) :
    Calls Tryd.prog 46 #[.int .i64 (i : Int), .int .i64 (k : Int), .pointer (some ⟨bx, 0, none⟩)] w (fun e w'' => e = .returned (u8v ((m.getD k []).getD i 0)) ∧ Drew w w'') := by
  rw [getD_lt _ _ hk] at hi ⊢
  rw [getD_lt _ _ hi]
  have hl := hm.len
  obtain ⟨b, o, A1, c1, rfl, _, hc1, hr1⟩ := rows_get hm hk
  have hl1 := hr1.len
  obtain ⟨b2, o2, rfl, _, hc2⟩ := bytes_get hr1 hi
  clear hm hr1
  go_enter Tryd.func46, Tryd.ntmps46
  go_wp2
  go_ret
  exact ⟨rfl, Drew.refl _⟩
set_option maxHeartbeats 1000000 in
theorem matTransposeBad {m : List (List UInt8)} (hm : Rows8 S w A cap m) (hin : In S w) (hx : mchk m ≠ 0) :
    Calls Tryd.prog 13 #[.slice A m.length cap] w (GiveMatE w [] (mchk m)) := by
  have hl := hm.len
  have hne : (((mchk m : Nat) : Int) != 0) = true := by rw [bne_iff_ne]; omega
  have hm1 := hm.stable (w' := w.alloc (.cells #[.slice A m.length cap] 22)) (fun _ h => h) (fun k hk => Below.heap_alloc _ _ _ (hin k hk))
  clear hm
  go_enter Tryd.func13, Tryd.ntmps13
  go_wp2_with fail
  refine (matCheck hm1).mono ?_
  rintro e w1 ⟨rfl, rfl⟩
  clear hm1
  go_wp2_with fail
  go_ret2
  exact ⟨none, 0, rfl, Sl.nil, (Below.refl _ _).alloc (Nat.le_refl _) _⟩

theorem transpose_grid (m : List (List UInt8)) : transpose m = gridM (cols m) m.length (fun i k => (m.getD k []).getD i 0) := by
  unfold transpose gridM column
  refine List.map_congr_left fun i _ => ?_
  refine List.ext_getElem (by simp) fun k h1 h2 => ?_
  simp only [List.length_map] at h1
  simp only [List.getElem_map, List.getElem_range]
  rw [getD_lt _ _ h1]
set_option maxHeartbeats 1000000 in
theorem matTransposeGood {m : List (List UInt8)} (hm : Rows8 S w A cap m) (hin : In S w) (hv : Valid m) :
    Calls Tryd.prog 13 #[.slice A m.length cap] w (GiveMatE w (transpose m) 0) := by
  have hl := hm.len
  have hx := mchk_valid.2 hv
  have hx' := Lib.hid hx
  have hc := hv.colsle
  have hr := hv.rows
  have hrow := Lib.hid hv.row
  obtain ⟨w0, hw0⟩ : ∃ w0, w0 = w.alloc (.cells #[.slice A m.length cap] 22) := ⟨_, rfl⟩
  have hb0 : Below w.heap.size w w0 := by rw [hw0]; exact (Below.refl _ _).alloc (Nat.le_refl _) _
  have hg0 : w0.heap[w.heap.size]? = some (.cells #[.slice A m.length cap] 22 (0, 0)) := by rw [hw0]; exact heap_alloc_new w _
  have hm1 := hm.below hb0 hin
  have hin1 : In S w0 := hin.below hb0
  obtain ⟨hc0, hf0⟩ := cells_at hg0 0 (by simp)
  simp only [List.getElem_toArray, List.getElem_cons_zero] at hc0
  have hsz0 : w0.heap.size = w.heap.size + 1 := by rw [hw0]; simp
  clear hm hv hx
  go_enter Tryd.func13, Tryd.ntmps13
  go_wp2_with fail
  rw [← hw0]
  clear hw0
  refine (matCheck hm1).mono ?_
  rw [hx'.out]
  rintro e w1 ⟨rfl, hw1⟩
  obtain rfl := hw1
  have hg0' := Lib.hid hg0
  clear hg0
  go_wp2_with fail
  have hd := Drew.one w1
  have hbd : Below w.heap.size w w1.drew := hb0.trans (hd.below _)
  have hmd := hm1.drew hd
  have hind := hin1.drew hd
  have hg1 : Hid (w1.drew.heap[w.heap.size]? = some (.cells #[.slice A m.length cap] 22 (0, 0))) := hg0'.out
  refine wp_region_walk [1,1,1,0,0,2,2,2] [0,1,2,3,4,5,6,7] (fun w' => w'.cell? ⟨w.heap.size, 0, none⟩ = some (.slice A m.length cap) ∧ Rows8 S w' A cap m) rfl (by kernel_rfl) rfl (by kernel_rfl) (fun _ d _ _ _ h => by cases d <;> exact h) ⟨hc0, hmd⟩ ?_
  repeat ((first | (apply walk_pure rfl rfl rfl; (intro w'; go_simp; rfl)) | (apply walk_read rfl rfl rfl; (rintro w' ⟨hs1, hs2⟩; go_simp; rfl)) | (apply walk_calm rfl rfl rfl; (rintro w' ⟨hs1, hs2⟩; go_simp; exact ⟨rfl, rfl⟩); (rintro w' ⟨hs1, hs2⟩; exact (matColumns hs2)))); simp only [Act.put, List.getElem_toArray, List.getElem_cons_zero, List.getElem_cons_succ, List.setIfInBounds_toArray, List.set_cons_zero, List.set_cons_succ])
  refine walk_rest 5 (by kernel_rfl) rfl ?_
  simp only [List.drop_succ_cons, List.drop_zero]
  go_wp2_with fail
  have Hbd := Lib.hid hbd
  have Hmd := Lib.hid hmd
  have Hind := Lib.hid hind
  have Hsz0 := Lib.hid hsz0
  clear hmd hind hbd hm1 hin1 hsz0 hd
  refine (matGrid (cols m) m.length 37 #[.pointer (some ⟨w.heap.size, 0, none⟩)] (fun i k => (m.getD k []).getD i 0) (by omega) (by omega) Tryd.call37 ?_).mono ?_
  · intro i k hi hk w' hb'
    have hsz := Hsz0.out
    have hdsz : w1.drew.heap.size = w1.heap.size := rfl
    refine matAt37 i k hk (by rw [getD_lt _ _ hk, hrow.out _ (List.getElem_mem _)]; exact hi) ?_ (Hmd.out.below hb' Hind.out)
    rw [World.cell?_of_block (w := w1.drew) (hb'.block w.heap.size (by omega))]
    exact hc0
  · rintro e w2 ⟨A2, cap2, rfl, hS2, hb2⟩
    have hlen : Hid ((gridM (cols m) m.length (fun i k => (m.getD k []).getD i 0)).length = (transpose m).length) := by show _ = _; rw [transpose_grid]
    have hS3 : Hid (Rows8 (fresh w w2) w2 A2 cap2 (transpose m)) := by
      show Rows8 _ _ _ _ _
      rw [transpose_grid]; exact hS2.mono (fresh_trans Hbd.out.size)
    have hb3 : Hid (Below w.heap.size w w2) := Hbd.out.trans (hb2.mono Hbd.out.size)
    clear hS2 hb2
    rw [hlen.out]
    go_wp2_with fail
    go_ret2
    exact ⟨A2, cap2, rfl, hS3.out, hb3.out⟩
end Go.Proofs.YtokclgjkdpjjfaaDoor
