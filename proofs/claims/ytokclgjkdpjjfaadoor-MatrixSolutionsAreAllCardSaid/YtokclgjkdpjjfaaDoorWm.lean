/-
  The walk of matrix.solve and its cell.
-/
import Derived.Test.YtokclgjkdpjjfaaDoorWj
namespace Go.Proofs.YtokclgjkdpjjfaaDoor
open Go.RowKit Go.Q
variable {w : World} {S S' : Reg} {A A' : Option Addr} {cap cap' : Nat}
/-- A cell of m beside b. -/
def bothAt (m : List (List UInt8)) (b : List UInt8) (u : Nat) (i k : Nat) : UInt8 := if k < u then (m.getD i []).getD k 0 else b.getD i 0
set_option maxHeartbeats 1000000 in
theorem solveAt {m : List (List UInt8)} {b : List UInt8} {u bu bm bb : Nat} (i k : Nat) (hi : i < m.length) (hib : i < b.length) (hr : k < u → k < (m.getD i []).length)
    (hu : w.cell? ⟨bu, 0, none⟩ = some (.int .i64 (u : Int))) (hcm : w.cell? ⟨bm, 0, none⟩ = some (.slice A m.length cap)) (hcb : w.cell? ⟨bb, 0, none⟩ = some (.slice A' b.length cap'))
    (hm : Rows8 S w A cap m) (hb : Bytes S' w A' cap' b) :
    Calls Tryd.prog 52 #[.int .i64 (i : Int), .int .i64 (k : Int), .pointer (some ⟨bu, 0, none⟩), .pointer (some ⟨bm, 0, none⟩), .pointer (some ⟨bb, 0, none⟩)] w (fun e w'' => e = .returned (u8v (bothAt m b u i k)) ∧ w'' = w) := by
  rw [getD_lt _ _ hi] at hr
  obtain ⟨b1, o1, A1, c1, rfl, _, hc1, hr1⟩ := rows_get hm hi
  have hlm := hm.len
  have hlb := hb.len
  clear hm
  go_enter Tryd.func52, Tryd.ntmps52
  by_cases hk : k < u
  · have htt : decide (k < u) = true := by simpa using hk
    have hkr := hr hk
    obtain ⟨b2, o2, rfl, _, hc2⟩ := bytes_get hr1 hkr
    have hl1 := hr1.len
    have hE : Hid (bothAt m b u i k = m[i][k]) := by
      show _ = _
      rw [bothAt, if_pos hk, getD_lt _ _ hi, getD_lt _ _ hkr]
    clear hr hk hr1
    go_wp2
    go_ret
    exact ⟨ret_int (by rw [hE.out]), rfl⟩
  · have htt : decide (k < u) = false := by simpa using hk
    obtain ⟨b2, o2, rfl, _, hc2⟩ := bytes_get hb hib
    have hE : Hid (bothAt m b u i k = b[i]) := by
      show _ = _
      rw [bothAt, if_neg hk, getD_lt _ _ hib]
    clear hr hk hr1
    go_wp2
    go_ret
    exact ⟨ret_int (by rw [hE.out]), rfl⟩
theorem info4 : (Tryd.prog.info? 4).map (fun i => (i.zero, i.size, i.bytes)) = some (some (.bool false), 1, 1) := by kernel_rfl
theorem bothM_eq (m : List (List UInt8)) (b : List UInt8) (u : Nat) : bothM m b u = gridM m.length (u + 1) (bothAt m b u) := rfl
theorem bothM_rect' (m : List (List UInt8)) (b : List UInt8) (u : Nat) : Rect (bothM m b u) (cols (bothM m b u)) := by
  by_cases h : 0 < m.length
  · rw [bothM_eq, cols_gridM _ h]; exact gridM_rect _ _ _
  · have h0 : m.length = 0 := by omega
    intro r hr
    have h1 : (bothM m b u).length = 0 := by rw [bothM_eq, gridM_length, h0]
    rw [List.length_eq_zero_iff] at h1
    rw [h1] at hr; cases hr
theorem bothM_cols_le (m : List (List UInt8)) (b : List UInt8) (u : Nat) : cols (bothM m b u) ≤ u + 1 := by
  by_cases h : 0 < m.length
  · rw [bothM_eq, cols_gridM _ h]; exact Nat.le_refl _
  · have h0 : m.length = 0 := by omega
    have h1 : (bothM m b u).length = 0 := by rw [bothM_eq, gridM_length, h0]
    rw [List.length_eq_zero_iff] at h1
    rw [h1]; exact Nat.zero_le _
theorem reduceM_inv {m : List (List UInt8)} {n : Nat} (h : Rect m n) : (reduceM m).1.length = (reduceM m).2.length ∧ Rect (reduceM m).1 n ∧ (reduceM m).2.length ≤ m.length ∧ (reduceM m).2.length ≤ cols m ∧ ∀ k ∈ (reduceM m).2, k < cols m := by
  obtain ⟨h1, h2, h3, h4, h5⟩ := redTo_inv h (cols m)
  refine ⟨?_, fun r hr => h2 r (List.mem_of_mem_take hr), h3, h4, h5⟩
  simp only [reduceM, List.length_take]; omega
theorem no_need {b : Bool} {p : Prop} (hb : b = false) : b = true → p := fun h => by rw [hb] at h; cases h
theorem two_ways_region {c : Code} {P : Program} {Q : Exit → Act → World → Prop} {a : Act} {w : World} {R : Nat → Nat → World → Prop} {Fr : Nat → Nat → Act} (main : (∀ b1 b2 w', R b1 b2 w' → Q .normal (Fr b1 b2) w') → c.wp P Q a w) (cont : ∀ b1 b2 w', R b1 b2 w' → Q .normal (Fr b1 b2) w') : c.wp P Q a w := main cont
theorem kernelTo_length_le (R : List (List UInt8) × List Nat) (u : Nat) : ∀ c, (kernelTo R u c).length ≤ c
  | 0 => by simp [kernelTo]
  | c + 1 => by
    have := kernelTo_length_le R u c
    rw [kernelTo]
    split
    · omega
    · simp; omega
/-- A block of bytes. -/
def Raw8 (w : World) (b : Nat) (xs : List UInt8) : Prop := w.heap[b]? = some (.cells (xs.map u8v).toArray 5 (0, 0))
def RawB (w : World) (b : Nat) (xs : List Bool) : Prop := w.heap[b]? = some (.cells (xs.map Value.bool).toArray 4 (0, 0))
theorem Raw8.bytes {b : Nat} {xs : List UInt8} (h : Raw8 w b xs) (hn : xs.length ≤ 9223372036854775807) : Bytes (fun k => k = b) w (some ⟨b, 0, none⟩) xs.length xs := by
  refine ⟨Nat.le_refl _, hn, fun h => (by cases h), fun a ha _ => ?_⟩
  cases ha
  refine ⟨b, 0, rfl, rfl, fun i hi => ⟨[u8v xs[i]], rfl, fun j hj => ?_⟩⟩
  obtain rfl : j = 0 := by simpa using hj
  have := (cells_at h i (by simpa using hi)).1
  simpa [u8E] using this
theorem Raw8.at {b : Nat} {xs : List UInt8} (h : Raw8 w b xs) {i : Nat} (hi : i < xs.length) : w.cell? ⟨b, (i : Nat), none⟩ = some (u8v xs[i]) ∧ w.frozen? ⟨b, (i : Nat), none⟩ = false := by
  have := cells_at h i (by simpa using hi)
  simpa using this
theorem Raw8.set {b : Nat} {xs : List UInt8} (h : Raw8 w b xs) (i : Nat) (y : UInt8) : Raw8 (w.setCell ⟨b, (i : Nat), none⟩ (u8v y)) b (xs.set i y) := by
  unfold Raw8
  rw [heap_setCell_same w b i _ _ _ h, List.setIfInBounds_toArray, List.map_set]
theorem Raw8.keep {w' : World} {b : Nat} {xs : List UInt8} (h : Raw8 w b xs) (hk : w'.heap[b]? = w.heap[b]?) : Raw8 w' b xs := by unfold Raw8; rw [hk]; exact h
theorem RawB.at {b : Nat} {xs : List Bool} (h : RawB w b xs) {i : Nat} (hi : i < xs.length) : w.cell? ⟨b, (i : Nat), none⟩ = some (.bool xs[i]) ∧ w.frozen? ⟨b, (i : Nat), none⟩ = false := by
  have := cells_at h i (by simpa using hi)
  simpa using this
theorem RawB.set {b : Nat} {xs : List Bool} (h : RawB w b xs) (i : Nat) (y : Bool) : RawB (w.setCell ⟨b, (i : Nat), none⟩ (.bool y)) b (xs.set i y) := by
  unfold RawB
  rw [heap_setCell_same w b i _ _ _ h, List.setIfInBounds_toArray, List.map_set]
theorem RawB.keep {w' : World} {b : Nat} {xs : List Bool} (h : RawB w b xs) (hk : w'.heap[b]? = w.heap[b]?) : RawB w' b xs := by unfold RawB; rw [hk]; exact h
/-- A solution and its kernel, or none. -/
def GiveSol (w : World) (s : Option (List UInt8 × List (List UInt8))) (e : Ending) (w' : World) : Prop :=
  ∃ A cap A' cap', e = .returned (.tuple #[.slice A ((s.map (·.1)).getD []).length cap, .slice A' ((s.map (·.2)).getD []).length cap', .bool s.isSome]) ∧
    Bytes (fresh w w') w' A cap ((s.map (·.1)).getD []) ∧ Rows8 (fresh w w') w' A' cap' ((s.map (·.2)).getD []) ∧ Below w.heap.size w w'
set_option maxRecDepth 100000 in
set_option maxHeartbeats 4000000 in
theorem matSolveCore {m : List (List UInt8)} {b : List UInt8} {u : Nat} (hrect : Rect m u) (hbl : b.length = m.length) (hsm : m.length ≤ 48) (hsu : u ≤ 48) (hm : Rows8 S w A cap m) (hb : Bytes S' w A' cap' b) (hina : In S w) (hinb : In S' w) (ht : TabAt w) :
    Calls Tryd.prog 42 #[.slice A m.length cap, .slice A' b.length cap', .int .i64 (u : Int)] w (GiveSol w (solveM m b u)) := by
  obtain ⟨i4, hi4, hz0, hz1, hz2⟩ := info_parts info4
  obtain ⟨i5, hi5, hy0, hy1, hy2⟩ := info_parts info5
  obtain ⟨i43, hi43, hx0, hx1, hx2⟩ := info_parts info43
  obtain ⟨w0, hw0⟩ : ∃ w0, w0 = (((w.alloc (.cells #[.slice A m.length cap] 22)).alloc (.cells #[.slice A' b.length cap'] 43)).alloc (.cells #[.int .i64 (u : Int)] 3)) := ⟨_, rfl⟩
  have hb0 : Below w.heap.size w w0 := by rw [hw0]; exact (((Below.refl _ _).alloc (Nat.le_refl _) _).alloc (by simp) _).alloc (by simp; omega) _
  have hsz0 : w0.heap.size = w.heap.size + 3 := by rw [hw0]; simp
  have hg0 : w0.heap[w.heap.size]? = some (.cells #[.slice A m.length cap] 22 (0, 0)) := by
    rw [hw0, Below.heap_alloc _ _ _ (by simp; omega), Below.heap_alloc _ _ _ (by simp)]; exact heap_alloc_new w _
  have hg1 : w0.heap[w.heap.size + 1]? = some (.cells #[.slice A' b.length cap'] 43 (0, 0)) := by
    have := heap_alloc_new (w.alloc (.cells #[.slice A m.length cap] 22)) (.cells #[.slice A' b.length cap'] 43)
    rw [hw0, Below.heap_alloc _ _ _ (by simp)]
    simpa using this
  have hg2 : w0.heap[w.heap.size + 1 + 1]? = some (.cells #[.int .i64 (u : Int)] 3 (0, 0)) := by
    have := heap_alloc_new ((w.alloc (.cells #[.slice A m.length cap] 22)).alloc (.cells #[.slice A' b.length cap'] 43)) (.cells #[.int .i64 (u : Int)] 3)
    rw [hw0]
    simpa using this
  obtain ⟨hc0, _⟩ := cells_at hg0 0 (by simp)
  obtain ⟨hc1, _⟩ := cells_at hg1 0 (by simp)
  obtain ⟨hc2, _⟩ := cells_at hg2 0 (by simp)
  simp only [List.getElem_toArray, List.getElem_cons_zero] at hc0 hc1 hc2
  have Hma0 := Lib.hid (hm.below hb0 hina)
  have Hmb0 := Lib.hid (hb.below hb0 hinb)
  have hlm := hm.len
  have Hg2 := Lib.hid hg2
  have Hsz0 := Lib.hid hsz0
  have Hrect := Lib.hid hrect
  have Hbl := Lib.hid hbl
  have hia := hina.below hb0
  have hib := hinb.below hb0
  have ht0 : TabAt w0 := ht.below hb0 ht.1
  clear hm hb hg0 hg1 hg2 hsz0 hrect hbl ht hina hinb
  go_enter Tryd.func42, Tryd.ntmps42
  go_wp2_with fail
  rw [← hw0]
  clear hw0
  rw [show ((u : Int) + 1) = ((u + 1 : Nat) : Int) by simp]
  refine (matGrid m.length (u + 1) 52 #[.pointer (some ⟨w.heap.size + 1 + 1, 0, none⟩), .pointer (some ⟨w.heap.size, 0, none⟩), .pointer (some ⟨w.heap.size + 1, 0, none⟩)] (bothAt m b u) (by omega) (by omega) Tryd.call52 ?_).mono ?_
  · intro i k hi hk w' hb'
    have hsz := Hsz0.out
    refine (solveAt i k hi (by rw [Hbl.out]; exact hi) (fun hk' => by rw [Hrect.out.getD hi]; exact hk') ?_ ?_ ?_ (Hma0.out.below hb' hia) (Hmb0.out.below hb' hib)).mono ?_
    · rw [World.cell?_of_block (w := w0) (hb'.block (w.heap.size + 1 + 1) (by omega))]; exact hc2
    · rw [World.cell?_of_block (w := w0) (hb'.block (w.heap.size) (by omega))]; exact hc0
    · rw [World.cell?_of_block (w := w0) (hb'.block (w.heap.size + 1) (by omega))]; exact hc1
    · rintro e w'' ⟨rfl, rfl⟩
      exact ⟨rfl, Drew.refl _⟩
  · rintro e w1 ⟨A1, cap1, rfl, hS1, hb1⟩
    rw [← bothM_eq] at hS1
    have hin1 : In (fresh w0 w1) w1 := fun k hk => hk.2
    have ht1 : TabAt w1 := ht0.below hb1 ht0.1
    have hbw1 : Below w.heap.size w w1 := hb0.trans (hb1.mono (by have := Hsz0.out; omega))
    have hrect1 := bothM_rect' m b u
    have hcle := bothM_cols_le m b u
    have hlen1 : (gridM m.length (u + 1) (bothAt m b u)).length = m.length := gridM_length _ _ _
    have hlen2 : (bothM m b u).length = m.length := gridM_length _ _ _
    have Hlen2 := Lib.hid hlen2
    have HS1 := Lib.hid hS1
    clear hS1 hc0 hc1 hia hib ht0 hb0 hlen2
    have hcore := Lib.hid (matReduceCore hrect1 rfl (by rw [Hlen2.out]; omega) (by omega) HS1.out hin1 ht1)
    rw [Hlen2.out] at hcore
    rw [hlen1]
    clear hlen1
    go_wp2_with fail
    refine hcore.out.mono ?_
    rintro e w2 ⟨A2, cap2, Ap, capp, rfl, hR1, hR2, hb2⟩
    obtain ⟨hv1, hv2, hv3, hv4, hv5⟩ := reduceM_inv hrect1
    have hbw2 : Below w.heap.size w w2 := hbw1.trans (hb2.mono (by have := Hsz0.out; have := hb1.size; omega))
    have Hbox : Hid (w2.heap[w.heap.size + 1 + 1]? = some (.cells #[.int .i64 (u : Int)] 3 (0, 0))) := by
      show _ = _
      have h0 := Hsz0.out
      have h1 := hb1.size
      rw [hb2.block _ (by omega), hb1.block _ (by omega)]; exact Hg2.out
    have Hsz2 : Hid (w.heap.size + 1 + 1 < w2.heap.size) := by
      show _ < _
      have := Hsz0.out; have := hb1.size; have := hb2.size; omega
    obtain ⟨hc2, _⟩ := cells_at Hbox.out 0 (by simp)
    simp only [List.getElem_toArray, List.getElem_cons_zero] at hc2
    have hsol : Hid (solveM m b u = if u ∈ (reduceM (bothM m b u)).2 then none else some (solXTo (reduceM (bothM m b u)) u (reduceM (bothM m b u)).2.length, kernelTo (reduceM (bothM m b u)) u u)) := rfl
    generalize solveM m b u = sol at *
    generalize hR : reduceM (bothM m b u) = R at *
    have Hv2 := Lib.hid hv2
    have Hv5 := Lib.hid hv5
    have HR1 := Lib.hid hR1
    have HR2 := Lib.hid hR2
    have Hcols : Hid (0 < R.2.length → cols (bothM m b u) = u + 1) := fun h => by
      rw [bothM_eq]; exact cols_gridM _ (by have := Hlen2.out; omega)
    clear hR hcore hrect1 HS1 Hma0 Hmb0 Hg2 hb1 hb2 hin1 ht1 hv2 hv5 hR1 hR2 hbw1
    go_wp2_with fail
    apply two_ways_region (R := fun b1 b2 w' => Raw8 w' b1 (List.replicate u 0) ∧ RawB w' b2 (List.replicate u false) ∧ b1 ≠ b2 ∧ w2.heap.size ≤ b1 ∧ w2.heap.size ≤ b2 ∧ b1 < w'.heap.size ∧ b2 < w'.heap.size ∧ Below w2.heap.size w2 w')
    case main =>
      intro hmain
      refine wp_region_ord [1,2,1,2,0,0] (.one 0 (.one 2 (.alt 1 3 (.one 4 (.one 3 (.one 5 .done))) (.one 1 (.one 4 (.one 5 .done)))))) (fun w' => w'.cell? ⟨w.heap.size + 1 + 1, 0, none⟩ = some (.int .i64 (u : Int))) rfl (by kernel_rfl) rfl (by kernel_rfl) (fun _ d _ _ _ h => by cases d <;> exact h) hc2 ?_
      refine ord_read rfl rfl rfl (by rintro w' hs1; go_simp; rfl) ?_
      simp only [Act.put, List.getElem_toArray, List.getElem_cons_zero, List.setIfInBounds_toArray, List.set_cons_zero, List.set_cons_succ]
      refine ord_read rfl rfl rfl (by rintro w' hs1; go_simp; rfl) ?_
      simp only [Act.put, List.getElem_toArray, List.getElem_cons_zero, List.getElem_cons_succ, List.setIfInBounds_toArray, List.set_cons_zero, List.set_cons_succ]
      have hd : Below w2.heap.size w2 w2.drew := (Drew.one w2).below _
      refine ord_alt rfl rfl rfl rfl (fun K1 hK1 => ?_) (fun K1 hK1 => ?_)
      · refine wp_of_list (ops := #[]) rfl ?_
        refine wpList_make_cells rfl (.tmp 28) (.tmp 28) 43 rfl Tryd.underlying43 hi5 hy0 hy1 hy2 rfl rfl rfl (by omega) hd ?_
        intro w3 hw3 hb3 hold3 hlt3
        have hs3 : w3.cell? ⟨w.heap.size + 1 + 1, 0, none⟩ = some (.int .i64 (u : Int)) := by rw [World.cell?_of_block (w := w2.drew) (hold3 _ Hsz2.out)]; exact hc2
        refine hK1 _ _ (fun _ => hs3) ?_
        clear hK1 K1
        obtain ⟨b1, hb1⟩ : ∃ x, x = w2.drew.heap.size := ⟨_, rfl⟩
        rw [← hb1] at hw3 hlt3 ⊢
        have Hb1 := Lib.hid hb1
        clear hb1
        simp only [Act.put, List.getElem_toArray, List.getElem_cons_zero, List.getElem_cons_succ, List.setIfInBounds_toArray, List.set_cons_zero, List.set_cons_succ]
        refine ord_pure rfl rfl rfl (by intro w'; go_simp; rfl) ?_
        simp only [Act.put, List.getElem_toArray, List.getElem_cons_zero, List.getElem_cons_succ, List.setIfInBounds_toArray, List.set_cons_zero, List.set_cons_succ]
        refine ord_one rfl rfl rfl (fun K2 hK2 => ?_)
        refine wp_of_list (ops := #[]) rfl ?_
        refine wpList_make_cells rfl (.tmp 30) (.tmp 30) 81 rfl Tryd.underlying81 hi4 hz0 hz1 hz2 rfl rfl rfl (by omega) hb3 ?_
        intro w4 hw4 hb4 hold4 hlt4
        have hs4 : w4.cell? ⟨w.heap.size + 1 + 1, 0, none⟩ = some (.int .i64 (u : Int)) := by rw [World.cell?_of_block (w := w3) (hold4 _ (Nat.lt_of_lt_of_le Hsz2.out hb3.size))]; exact hs3
        refine hK2 _ _ (fun _ => hs4) ?_
        clear hK2 K2
        obtain ⟨b2, hb2⟩ : ∃ x, x = w3.heap.size := ⟨_, rfl⟩
        rw [← hb2] at hw4 hlt4 ⊢
        have Hb2 := Lib.hid hb2
        clear hb2
        simp only [Act.put, List.getElem_toArray, List.getElem_cons_zero, List.getElem_cons_succ, List.setIfInBounds_toArray, List.set_cons_zero, List.set_cons_succ]
        refine ord_pure rfl rfl rfl (by intro w'; go_simp; rfl) ?_
        simp only [Act.put, List.getElem_toArray, List.getElem_cons_zero, List.getElem_cons_succ, List.setIfInBounds_toArray, List.set_cons_zero, List.set_cons_succ]
        refine ord_done ?_
        have hs : w2.drew.heap.size = w2.heap.size := rfl
        have hb1 := Hb1.out
        have hb2 := Hb2.out
        refine hmain b1 b2 w4 ⟨?_, ?_, by omega, by omega, by omega, by omega, hlt4, hb4⟩
        · unfold Raw8; rw [hold4 b1 (by omega), hw3, List.map_replicate]; rfl
        · unfold RawB; rw [hw4, List.map_replicate]
      · refine wp_of_list (ops := #[]) rfl ?_
        refine wpList_make_cells rfl (.tmp 30) (.tmp 30) 81 rfl Tryd.underlying81 hi4 hz0 hz1 hz2 rfl rfl rfl (by omega) hd ?_
        intro w3 hw3 hb3 hold3 hlt3
        have hs3 : w3.cell? ⟨w.heap.size + 1 + 1, 0, none⟩ = some (.int .i64 (u : Int)) := by rw [World.cell?_of_block (w := w2.drew) (hold3 _ Hsz2.out)]; exact hc2
        refine hK1 _ _ (fun _ => hs3) ?_
        clear hK1 K1
        obtain ⟨b2, hb2⟩ : ∃ x, x = w2.drew.heap.size := ⟨_, rfl⟩
        rw [← hb2] at hw3 hlt3 ⊢
        have Hb2 := Lib.hid hb2
        clear hb2
        simp only [Act.put, List.getElem_toArray, List.getElem_cons_zero, List.getElem_cons_succ, List.setIfInBounds_toArray, List.set_cons_zero, List.set_cons_succ]
        refine ord_one rfl rfl rfl (fun K2 hK2 => ?_)
        refine wp_of_list (ops := #[]) rfl ?_
        refine wpList_make_cells rfl (.tmp 28) (.tmp 28) 43 rfl Tryd.underlying43 hi5 hy0 hy1 hy2 rfl rfl rfl (by omega) hb3 ?_
        intro w4 hw4 hb4 hold4 hlt4
        have hs4 : w4.cell? ⟨w.heap.size + 1 + 1, 0, none⟩ = some (.int .i64 (u : Int)) := by rw [World.cell?_of_block (w := w3) (hold4 _ (Nat.lt_of_lt_of_le Hsz2.out hb3.size))]; exact hs3
        refine hK2 _ _ (fun _ => hs4) ?_
        clear hK2 K2
        obtain ⟨b1, hb1⟩ : ∃ x, x = w3.heap.size := ⟨_, rfl⟩
        rw [← hb1] at hw4 hlt4 ⊢
        have Hb1 := Lib.hid hb1
        clear hb1
        simp only [Act.put, List.getElem_toArray, List.getElem_cons_zero, List.getElem_cons_succ, List.setIfInBounds_toArray, List.set_cons_zero, List.set_cons_succ]
        refine ord_pure rfl rfl rfl (by intro w'; go_simp; rfl) ?_
        simp only [Act.put, List.getElem_toArray, List.getElem_cons_zero, List.getElem_cons_succ, List.setIfInBounds_toArray, List.set_cons_zero, List.set_cons_succ]
        refine ord_pure rfl rfl rfl (by intro w'; go_simp; rfl) ?_
        simp only [Act.put, List.getElem_toArray, List.getElem_cons_zero, List.getElem_cons_succ, List.setIfInBounds_toArray, List.set_cons_zero, List.set_cons_succ]
        refine ord_done ?_
        have hs : w2.drew.heap.size = w2.heap.size := rfl
        have hb1 := Hb1.out
        have hb2 := Hb2.out
        refine hmain b1 b2 w4 ⟨?_, ?_, by omega, by omega, by omega, hlt4, by omega, hb4⟩
        · unfold Raw8; rw [hw4, List.map_replicate]; rfl
        · unfold RawB; rw [hold4 b2 (by omega), hw3, List.map_replicate]
    case cont =>
      rintro b1 b2 w3 ⟨hx, hbd, hne, hlo1, hlo2, hlt1, hlt2, hb3⟩
      have Hx0 := Lib.hid hx
      have Hbd0 := Lib.hid hbd
      have hne2 : b2 ≠ b1 := fun e => hne e.symm
      have hR2l := HR2.out.len
      have hR1l := HR1.out.len
      clear hx hbd hc2
      have hinr : In (fresh w1 w2) w2 := fun k hk => hk.2
      have hx0 : solXTo R u 0 = List.replicate u 0 := rfl
      have hbd0 : boundTo R u 0 = List.replicate u false := rfl
      have Hx1 : Hid (Raw8 w3 b1 (solXTo R u 0)) := Hx0.out
      have Hbd1 : Hid (RawB w3 b2 (boundTo R u 0)) := Hbd0.out
      clear Hx0 Hbd0 hx0 hbd0
      go_wp2_with fail
      go_loopw [6, 7, 8, 34] (fun v6 v7 v8 vk wr => ∃ k : Nat, k ≤ R.2.length ∧ vk = .int .i64 (k : Int) ∧ v6 = .slice (some ⟨b1, 0, none⟩) u u ∧ v7 = .slice none 0 0 ∧ v8 = .bool false ∧ Hid (Raw8 wr b1 (solXTo R u k)) ∧ Hid (RawB wr b2 (boundTo R u k)) ∧ Hid (u ∉ R.2.take k) ∧ b1 < wr.heap.size ∧ b2 < wr.heap.size ∧ Below w2.heap.size w2 wr) (fun _ _ _ vk _ => R.2.length - (intOf vk).toNat)
      case atStart => exact ⟨0, by omega, rfl, rfl, rfl, rfl, Hx1.out, Hbd1.out, by show _ ∉ _; simp, hlt1, hlt2, hb3⟩
      case round =>
        clear Hx1 Hbd1 hlt1 hlt2 hb3
        obtain ⟨k, hk, rfl, rfl, rfl, rfl, hX, hB, hun, hlt1, hlt2, hbl⟩ := hrel
        have hbox : wr.cell? ⟨w.heap.size + 1 + 1, 0, none⟩ = some (.int .i64 (u : Int)) := by
          rw [World.cell?_of_block (w := w2) (hbl.block _ Hsz2.out)]; exact (cells_at Hbox.out 0 (by simp)).1
        have hI := HR2.out.below hbl hinr
        have hM := HR1.out.below hbl hinr
        by_cases hltk : k < R.2.length
        · obtain ⟨bp, op, rfl, _, hcp, hple⟩ := ints_get hI hltk
          have hpu : R.2[k] < u + 1 := Nat.lt_of_lt_of_le (Hv5.out _ (List.getElem_mem _)) hcle
          have hkM : k < R.1.length := by rw [hv1]; exact hltk
          obtain ⟨bm, om, Ar, cr, rfl, _, hcr, hsr⟩ := rows_get hM hkM
          obtain ⟨n1, hn1⟩ : ∃ n1, n1 = u + 1 := ⟨_, rfl⟩
          have hun1 : u < n1 := by omega
          have hrl : R.1[k].length = n1 := by
            rw [Hv2.out _ (List.getElem_mem _), hn1]
            exact Hcols.out (by omega)
          clear hn1
          have huR : u < R.1[k].length := by omega
          rw [hrl] at hcr
          obtain ⟨bv, ov, rfl, _, hcv⟩ := bytes_get hsr huR
          have htk : Hid (R.2.take (k + 1) = R.2.take k ++ [R.2[k]]) := take_succ _ _ hltk
          have hXs : Hid (solXTo R u (k + 1) = (solXTo R u k).set R.2[k] R.1[k][u]) := by
            show _ = _
            rw [solXTo, getD_lt _ _ hltk, getD_lt _ _ hkM, getD_lt _ _ huR]
          have hBs : Hid (boundTo R u (k + 1) = (boundTo R u k).set R.2[k] true) := by
            show _ = _
            rw [boundTo, getD_lt _ _ hltk]
          have hmem : Hid (R.2[k] ∈ R.2) := List.getElem_mem _
          generalize R.2[k] = p at *
          generalize R.1[k][u] = y at *
          have Hrl := Lib.hid hrl
          clear hI hM hsr hrl huR
          by_cases hpe : p = u
          · have htest : ((p : Int) == (u : Int)) = true := by rw [hpe]; simp
            have hnone : Hid (sol = none) := by
              show _ = _
              rw [hsol.out, if_pos (hpe ▸ hmem.out)]
            clear hpe hsol
            go_wp2
            go_ret3
            refine ⟨none, 0, none, 0, ?_, ?_, ?_, ?_⟩
            · rw [hnone.out]; rfl
            · rw [hnone.out]; exact Sl.nil
            · rw [hnone.out]; exact Sl.nil
            · exact hbw2.trans (hbl.mono hbw2.size)
          · have htest : ((p : Int) == (u : Int)) = false := by rw [beq_eq_false_iff_ne]; omega
            have hplt : p < u := by omega
            obtain ⟨hcx, hfx⟩ := hX.out.at (i := p) (by rw [solXTo_length]; exact hplt)
            obtain ⟨hcb, hfb⟩ := hB.out.at (i := p) (by rw [boundTo_length]; exact hplt)
            have hun2 : Hid (u ∉ R.2.take (k + 1)) := by
              show _ ∉ _
              rw [htk.out, List.mem_append, List.mem_singleton]
              rintro (h | h)
              · exact hun.out h
              · exact hpe h.symm
            clear hpe hpu
            go_wp2_with fail
            refine wp_region_walk [0,0,0,0,0,0,0,1,1,0,1,2,2,2,2] [0,1,2,3,4,5,6,7,8,9,10,11,12,13,14] (fun w' => w'.cell? ⟨bm, om + k, none⟩ = some (.slice (some ⟨bv, ov, none⟩) n1 cr) ∧ w'.cell? ⟨w.heap.size + 1 + 1, 0, none⟩ = some (.int .i64 (u : Int)) ∧ w'.cell? ⟨bv, ov + u, none⟩ = some (u8v y)) rfl (by kernel_rfl) rfl (by kernel_rfl) (fun _ d _ _ _ h => by cases d <;> exact h) ⟨hcr, hbox, hcv⟩ ?_
            repeat ((first | (apply walk_pure rfl rfl rfl; (intro w'; go_simp; rfl)) | (apply walk_read rfl rfl rfl; (rintro w' ⟨hs1, hs2, hs3⟩; go_simp; rfl))); simp only [Act.put, List.getElem_toArray, List.getElem_cons_zero, List.getElem_cons_succ, List.setIfInBounds_toArray, List.set_cons_zero, List.set_cons_succ])
            refine walk_rest 11 (by kernel_rfl) rfl ?_
            simp only [List.drop_succ_cons, List.drop_zero]
            have hX5 : Hid (Raw8 (((wr.setCell ⟨b1, p, none⟩ (u8v y)).setCell ⟨b2, p, none⟩ (.bool true)).drew) b1 (solXTo R u (k + 1))) := by
              show Raw8 _ _ _
              rw [hXs.out]
              exact (hX.out.set p y).keep (Below.heap_setCell _ _ _ _ hne)
            have hB5 : Hid (RawB (((wr.setCell ⟨b1, p, none⟩ (u8v y)).setCell ⟨b2, p, none⟩ (.bool true)).drew) b2 (boundTo R u (k + 1))) := by
              show RawB _ _ _
              rw [hBs.out]
              exact (hB.out.keep (Below.heap_setCell _ _ _ _ hne2)).set p true
            have hbl5 : Below w2.heap.size w2 (((wr.setCell ⟨b1, p, none⟩ (u8v y)).setCell ⟨b2, p, none⟩ (.bool true)).drew) := ((hbl.setCell hlo1 _).setCell hlo2 _).trans ((Drew.one _).below _)
            have hs5 : (((wr.setCell ⟨b1, p, none⟩ (u8v y)).setCell ⟨b2, p, none⟩ (.bool true)).drew).heap.size = wr.heap.size := by
              show ((wr.setCell ⟨b1, p, none⟩ (u8v y)).setCell ⟨b2, p, none⟩ (.bool true)).heap.size = _
              simp [World.setCell]
            clear hX hB hun htk
            go_wp2_with fail
            go_roundw
            case rel => exact ⟨k + 1, by omega, by go_num, rfl, rfl, rfl, hX5, hB5, hun2, by rw [hs5]; exact hlt1, by rw [hs5]; exact hlt2, hbl5⟩
            case measure => simp [intOf]; omega
        · obtain rfl : k = R.2.length := by omega
          have hsome : Hid (sol = some (solXTo R u R.2.length, kernelTo R u u)) := by
            show _ = _
            rw [hsol.out, if_neg (by have := hun.out; rwa [List.take_length] at this)]
          have Hnu : Hid (u ∉ R.2) := by have := hun.out; rwa [List.take_length] at this
          have HI := Lib.hid hI
          have HM := Lib.hid hM
          have hinW : In (fresh w1 w2) wr := hinr.below hbl
          clear hsol hun hI hM hltk hk
          go_wp2_with fail
          obtain ⟨wa, hwa⟩ : ∃ wa : World, wa = wr := ⟨_, rfl⟩
          subst hwa
          go_loopw [7, 57] (fun v7 vc wx => ∃ (c : Nat) (A7 : Option Addr) (cap7 : Nat), c ≤ u ∧ vc = .int .i64 (c : Int) ∧ v7 = .slice A7 (kernelTo R u c).length cap7 ∧ Hid (Own (slE u8E) (fun k => wa.heap.size ≤ k) wa.heap.size 43 wx A7 cap7 (kernelTo R u c)) ∧ Below wa.heap.size wa wx) (fun _ vc _ => u - (intOf vc).toNat)
          case atStart => exact ⟨0, none, 0, by omega, rfl, rfl, Own.nil, Below.refl _ _⟩
          case round =>
            obtain ⟨c, A7, cap7, hcu, rfl, rfl, hown, hbx⟩ := hrel
            obtain ⟨wx, hwx⟩ : ∃ wx : World, wx = wr := ⟨_, rfl⟩
            subst hwx
            have hlek := kernelTo_length_le R u c
            by_cases hltc : c < u
            · have hbx2 := Lib.hid (hbl.trans (hbx.mono hbl.size))
              have hbox2 : wx.cell? ⟨w.heap.size + 1 + 1, 0, none⟩ = some (.int .i64 (u : Int)) := by
                rw [World.cell?_of_block (w := w2) (hbx2.out.block _ Hsz2.out)]; exact (cells_at Hbox.out 0 (by simp)).1
              have hcl : c < (boundTo R u R.2.length).length := by rw [boundTo_length]; exact hltc
              have hcb : wx.cell? ⟨b2, c, none⟩ = some (.bool (decide (c ∈ R.2))) := by
                have h1 := (hB.out.at hcl).1
                rw [boundTo_get R u _ (Nat.le_refl _) c hcl, List.take_length] at h1
                rw [World.cell?_of_block (w := wa) (hbx.block b2 hlt2)]; exact h1
              by_cases hmem : c ∈ R.2
              · have htest : decide (c ∈ R.2) = true := decide_eq_true hmem
                have hks : Hid (kernelTo R u (c + 1) = kernelTo R u c) := by show _ = _; rw [kernelTo, if_pos hmem]
                rw [htest] at hcb
                clear hmem htest hlek
                go_wp2
                go_roundw
                case rel => exact ⟨c + 1, A7, cap7, by omega, by go_num, by rw [hks.out], by rw [hks.out]; exact hown.out, hbx⟩
                case measure => simp [intOf]; omega
              · have htest : decide (c ∈ R.2) = false := decide_eq_false hmem
                have hks : Hid (kernelTo R u (c + 1) = kernelTo R u c ++ [kerTo R u c R.2.length]) := by show _ = _; rw [kernelTo, if_neg hmem]
                rw [htest] at hcb
                clear hmem htest
                go_wp2_with (at_make; refine wpList_make_cells rfl (.tmp 64) (.tmp 64) 43 rfl Tryd.underlying43 hi5 hy0 hy1 hy2 rfl rfl rfl (by omega) (Below.refl _ _) ?_; intro w4 hw4 hb4 hold4 hlt4; refine pause ?_)
                obtain ⟨g, hg⟩ : ∃ g, g = wx.heap.size := ⟨_, rfl⟩
                rw [← hg] at hw4 hlt4
                have hR0 : Raw8 w4 g (List.replicate u 0) := by unfold Raw8; rw [hw4, List.map_replicate]; rfl
                obtain ⟨hcg, hfg⟩ := hR0.at (i := c) (by simpa using hltc)
                have HR0 := Lib.hid hR0
                have Hg := Lib.hid hg
                have Hb4 := Lib.hid hb4
                rw [← hg]
                clear hg hw4 hold4 hR0 hb4
                refine unpause ?_
                go_wp2_with fail
                have hlog : wx.heap.size ≤ g := by rw [Hg.out]; exact Nat.le_refl _
                have HR5 : Hid (Raw8 (w4.setCell ⟨g, c, none⟩ (u8v 1)) g (kerTo R u c 0)) := HR0.out.set c 1
                have Hb5 : Hid (Below wx.heap.size wx (w4.setCell ⟨g, c, none⟩ (u8v 1))) := Hb4.out.setCell hlog _
                have Hs5 : Hid (g < (w4.setCell ⟨g, c, none⟩ (u8v 1)).heap.size) := by
                  show _ < _
                  simpa [World.setCell] using hlt4
                clear HR0 Hb4 hcg hfg hlt4
                go_loopw [71] (fun vk wz => ∃ k : Nat, k ≤ R.2.length ∧ vk = .int .i64 (k : Int) ∧ Hid (Raw8 wz g (kerTo R u c k)) ∧ g < wz.heap.size ∧ Below wx.heap.size wx wz) (fun vk _ => R.2.length - (intOf vk).toNat)
                case atStart => exact ⟨0, by omega, rfl, HR5.out, Hs5.out, Hb5.out⟩
                case round =>
                  clear HR5 Hs5 Hb5
                  obtain ⟨k, hk, rfl, hV, hlg, hbz⟩ := hrel
                  have hbz2 := hbx.trans (hbz.mono hbx.size)
                  by_cases hltk : k < R.2.length
                  · obtain ⟨bp, op, rfl, _, hcp, hple⟩ := ints_get (HI.out.below hbz2 hinW) hltk
                    have hpu : R.2[k] < u + 1 := Nat.lt_of_lt_of_le (Hv5.out _ (List.getElem_mem _)) hcle
                    have hpe : R.2[k] ≠ u := fun e => Hnu.out (e ▸ List.getElem_mem _)
                    have hkM : k < R.1.length := by rw [hv1]; exact hltk
                    obtain ⟨bm, om, Ar, cr, rfl, _, hcr, hsr⟩ := rows_get (HM.out.below hbz2 hinW) hkM
                    obtain ⟨n1, hn1⟩ : ∃ n1, n1 = u + 1 := ⟨_, rfl⟩
                    have hrl : R.1[k].length = n1 := by
                      rw [Hv2.out _ (List.getElem_mem _), hn1]
                      exact Hcols.out (by omega)
                    have hcR : c < R.1[k].length := by omega
                    have hcn : c < n1 := by omega
                    clear hn1
                    rw [hrl] at hcr
                    obtain ⟨bv, ov, rfl, _, hcv⟩ := bytes_get hsr hcR
                    have hVs : Hid (kerTo R u c (k + 1) = (kerTo R u c k).set R.2[k] R.1[k][c]) := by
                      show _ = _
                      rw [kerTo, getD_lt _ _ hltk, getD_lt _ _ hkM, getD_lt _ _ hcR]
                    generalize R.2[k] = p at *
                    generalize R.1[k][c] = y at *
                    have hplt : p < u := by omega
                    obtain ⟨hcx, hfx⟩ := hV.out.at (i := p) (by rw [kerTo_length]; exact hplt)
                    have hV5 : Hid (Raw8 (wr.setCell ⟨g, p, none⟩ (u8v y)) g (kerTo R u c (k + 1))) := by
                      show Raw8 _ _ _
                      rw [hVs.out]
                      exact hV.out.set p y
                    have hb5 : Hid (Below wx.heap.size wx (wr.setCell ⟨g, p, none⟩ (u8v y))) := hbz.setCell hlog _
                    have hs5 : Hid (g < (wr.setCell ⟨g, p, none⟩ (u8v y)).heap.size) := by
                      show _ < _
                      simpa [World.setCell] using hlg
                    clear hsr hrl hcR hpe hpu hV hbz hbz2 hlg hown
                    go_wp2_with fail
                    go_roundw
                    case rel => exact ⟨k + 1, by omega, by go_num, hV5, hs5.out, hb5.out⟩
                    case measure => simp [intOf]; omega
                  · obtain rfl : k = R.2.length := by omega
                    have hlv : Hid ((kerTo R u c R.2.length).length = u) := kerTo_length _ _ _ _
                    have hbytes := hV.out.bytes (by rw [hlv.out]; omega)
                    rw [hlv.out] at hbytes
                    have hszx := hbx.size
                    have Hbytes := Lib.hid hbytes
                    clear hV hbytes
                    go_wp2_with (at_builtin; refine wpList_append_box rfl (.tmp 87) (.tmp 89) 22 rfl rfl rfl Tryd.underlying22 hi43 hx0 hx1 hx2 rfl (by decide) rfl (hown.out.below hbz (Nat.le_refl _)) (hbx.trans (hbz.mono hbx.size)) (kerTo R u c R.2.length) (fun q => q = g) ⟨some ⟨g, 0, none⟩, u, by rw [hlv.out], Hbytes.out⟩ (fun q hq => ⟨by omega, by omega⟩) ?c1 (by omega) ?_; rotate_left; intro A8 cap8 w8 hown8 hb8 _ _)
                    case c1 =>
                      intro a ha hq
                      obtain ⟨g', rfl, h1, h2⟩ := hown.out.block ha
                      have hq' : g' = g := hq
                      omega
                    have hown9 : Hid (Own (slE u8E) (fun k => wa.heap.size ≤ k) wa.heap.size 43 w8 A8 cap8 (kernelTo R u (c + 1))) := Lib.hid (hown8.cast hks.out.symm)
                    have hl9 : Hid ((kernelTo R u (c + 1)).length = (kernelTo R u c).length + 1) := by show _ = _; rw [hks.out]; simp
                    clear hown hown8 hbz
                    go_wp2
                    go_roundw
                    case rel => exact ⟨c + 1, A8, cap8, by omega, by go_num, by rw [hl9.out], hown9.out, hb8⟩
                    case measure => simp [intOf]; omega
            · obtain rfl : c = u := by omega
              have hszx := hbx.size
              go_wp2_with fail
              go_ret3
              refine ⟨some ⟨b1, 0, none⟩, c, A7, cap7, ?_, ?_, ?_, ?_⟩
              · rw [hsome.out]
                show _ = Ending.returned (.tuple #[.slice _ (solXTo R c R.2.length).length _, _, _])
                rw [solXTo_length]; rfl
              · rw [hsome.out]
                have h1 := (hX.out.keep (hbx.block b1 hlt1)).bytes (by rw [solXTo_length]; omega)
                rw [solXTo_length] at h1
                refine h1.mono (fun q hq => ?_)
                have h2 : q = b1 := hq
                have h3 := hbw2.size
                exact ⟨by omega, by omega⟩
              · rw [hsome.out]
                refine hown.out.sl (fun q hq h => ⟨?_, hq⟩)
                have h2 := hbw2.size
                have h3 := hbl.size
                rcases h with h | h <;> omega
              · exact (hbw2.trans (hbl.mono hbw2.size)).trans (hbx.mono (by have := hbw2.size; have := hbl.size; omega))
end Go.Proofs.YtokclgjkdpjjfaaDoor
