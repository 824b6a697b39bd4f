/-
  The walk of matrix.Inverse and its cells.
-/
import Derived.Test.YtokclgjkdpjjfaaDoorWm
import Derived.Test.YtokclgjkdpjjfaaDoorWi
namespace Go.Proofs.YtokclgjkdpjjfaaDoor
open Go.RowKit Go.Q
variable {w : World} {S S' : Reg} {A A' : Option Addr} {cap cap' : Nat}
/-- A cell of m beside the identity. -/
def invAt (m : List (List UInt8)) (n i k : Nat) : UInt8 := if k < n then (m.getD i []).getD k 0 else if k = n + i then 1 else 0
set_option maxHeartbeats 1000000 in
theorem matAt44 {m : List (List UInt8)} {n bu bm : Nat} (i k : Nat) (hi : i < m.length) (hi48 : i ≤ 1000) (hn48 : n ≤ 1000) (hr : k < n → k < (m.getD i []).length)
    (hu : w.cell? ⟨bu, 0, none⟩ = some (.int .i64 (n : Int))) (hcm : w.cell? ⟨bm, 0, none⟩ = some (.slice A m.length cap)) (hm : Rows8 S w A cap m) :
    Calls Tryd.prog 44 #[.int .i64 (i : Int), .int .i64 (k : Int), .pointer (some ⟨bu, 0, none⟩), .pointer (some ⟨bm, 0, none⟩)] w (fun e w'' => e = .returned (u8v (invAt m n i k)) ∧ w'' = w) := by
  rw [getD_lt _ _ hi] at hr
  obtain ⟨b1, o1, A1, c1, rfl, _, hc1, hr1⟩ := rows_get hm hi
  have hlm := hm.len
  clear hm
  go_enter Tryd.func44, Tryd.ntmps44
  by_cases hk : k < n
  · have htt : decide (k < n) = true := by simpa using hk
    have hkr := hr hk
    obtain ⟨b2, o2, rfl, _, hc2⟩ := bytes_get hr1 hkr
    have hl1 := hr1.len
    have hE : Hid (invAt m n i k = m[i][k]) := by
      show _ = _
      rw [invAt, if_pos hk, getD_lt _ _ hi, getD_lt _ _ hkr]
    clear hr hk hr1
    go_wp2
    go_ret
    exact ⟨ret_int (by rw [hE.out]), rfl⟩
  · have htt : decide (k < n) = false := by simpa using hk
    by_cases he : k = n + i
    · have ht2 : ((k : Int) == (n : Int) + (i : Int)) = true := by rw [he]; simp
      have hE : Hid (invAt m n i k = 1) := by
        show _ = _
        rw [invAt, if_neg hk, if_pos he]
      clear hr hk hr1 he
      go_wp2
      go_ret
      exact ⟨ret_int (by rw [hE.out]; rfl), rfl⟩
    · have ht2 : ((k : Int) == (n : Int) + (i : Int)) = false := by rw [beq_eq_false_iff_ne]; omega
      have hE : Hid (invAt m n i k = 0) := by
        show _ = _
        rw [invAt, if_neg hk, if_neg he]
      clear hr hk hr1 he
      go_wp2
      go_ret
      exact ⟨ret_int (by rw [hE.out]; rfl), rfl⟩
set_option maxHeartbeats 1000000 in
theorem matAt45 {m : List (List UInt8)} {n bu bm : Nat} (i k : Nat) (hi : i < m.length) (hk48 : k ≤ 1000) (hn48 : n ≤ 1000) (hr : n + k < (m.getD i []).length)
    (hu : w.cell? ⟨bu, 0, none⟩ = some (.int .i64 (n : Int))) (hcm : w.cell? ⟨bm, 0, none⟩ = some (.slice A m.length cap)) (hm : Rows8 S w A cap m) :
    Calls Tryd.prog 45 #[.int .i64 (i : Int), .int .i64 (k : Int), .pointer (some ⟨bm, 0, none⟩), .pointer (some ⟨bu, 0, none⟩)] w (fun e w'' => e = .returned (u8v ((m.getD i []).getD (n + k) 0)) ∧ Drew w w'') := by
  rw [getD_lt _ _ hi] at hr ⊢
  rw [getD_lt _ _ hr]
  obtain ⟨b1, o1, A1, c1, rfl, _, hc1, hr1⟩ := rows_get hm hi
  have hlm := hm.len
  obtain ⟨b2, o2, rfl, _, hc2⟩ := bytes_get hr1 hr
  have hl1 := hr1.len
  clear hm hr1
  have hwr : IntKind.i64.wrap ((n : Int) + (k : Int)) = ((n + k : Nat) : Int) := by
    rw [← Int.natCast_add]
    rw [IntKind.wrap_i64]; omega
  generalize hq : n + k = q at *
  clear hq
  go_enter Tryd.func45, Tryd.ntmps45
  go_wp2_with fail
  refine wp_region_walk [1,0,0,1,1,0,0,0,1,0] [0,1,2,3,4,5,6,7,8,9] (fun w' => w'.cell? ⟨bm, 0, none⟩ = some (.slice (some ⟨b1, o1, none⟩) m.length cap) ∧ w'.cell? ⟨b1, o1 + i, none⟩ = some (.slice (some ⟨b2, o2, none⟩) m[i].length c1) ∧ w'.cell? ⟨bu, 0, none⟩ = some (.int .i64 (n : Int)) ∧ w'.cell? ⟨b2, o2 + q, none⟩ = some (u8v m[i][q])) rfl (by kernel_rfl) rfl (by kernel_rfl) (fun _ d _ _ _ h => by cases d <;> exact h) ⟨hcm, hc1, hu, hc2⟩ ?_
  repeat ((first | (apply walk_pure rfl rfl rfl; (intro w'; go_simp; rfl)) | (apply walk_read rfl rfl rfl; (rintro w' ⟨hs1, hs2, hs3, hs4⟩; go_simp; rfl))); simp only [Act.put, List.getElem_toArray, List.getElem_cons_zero, List.getElem_cons_succ, List.setIfInBounds_toArray, List.set_cons_zero, List.set_cons_succ])
  refine walk_nil ?_
  go_wp2
  go_ret
  exact ⟨ret_int rfl, Drew.one _⟩
theorem gridM_rect' (rows cs : Nat) (f : Nat → Nat → UInt8) : Rect (gridM rows cs f) (cols (gridM rows cs f)) := by
  by_cases h : 0 < rows
  · rw [cols_gridM _ h]; exact gridM_rect _ _ _
  · have h1 : (gridM rows cs f).length = 0 := by rw [gridM_length]; omega
    rw [List.length_eq_zero_iff] at h1
    intro r hr
    rw [h1] at hr; cases hr
theorem gridM_cols_le (rows cs : Nat) (f : Nat → Nat → UInt8) : cols (gridM rows cs f) ≤ cs := by
  by_cases h : 0 < rows
  · rw [cols_gridM _ h]; exact Nat.le_refl _
  · have h1 : (gridM rows cs f).length = 0 := by rw [gridM_length]; omega
    rw [List.length_eq_zero_iff] at h1
    rw [h1]; exact Nat.zero_le _
/-- m beside the identity. -/
def invM (m : List (List UInt8)) : List (List UInt8) := gridM m.length (2 * m.length) (invAt m m.length)
def inverseErr (m : List (List UInt8)) : Nat := if mchk m ≠ 0 then mchk m else if cols m ≠ m.length then 1 else if (reduceM (invM m)).2 = List.range m.length then 0 else 8
/-- What Inverse gives. -/
def inverseE (m : List (List UInt8)) : List (List UInt8) := if inverseErr m = 0 then gridM m.length m.length (fun i k => ((reduceM (invM m)).1.getD i []).getD (m.length + k) 0) else []
set_option maxHeartbeats 2000000 in
theorem matInverse {m : List (List UInt8)} (hm : Rows8 S w A cap m) (hin : In S w) (ht : TabAt w) (hfull : mchk m = 0 → cols m = m.length → (reduceM (invM m)).2.length = m.length) :
    Calls Tryd.prog 23 #[.slice A m.length cap] w (GiveMatE w (inverseE m) (inverseErr m)) := by
  have hlm := hm.len
  obtain ⟨w0, hw0⟩ : ∃ w0, w0 = ((w.alloc (.cells #[.slice A m.length cap] 22)).alloc (.cells #[.int .i64 (m.length : Int)] 3)) := ⟨_, rfl⟩
  have hb0 : Below w.heap.size w w0 := by rw [hw0]; exact ((Below.refl _ _).alloc (Nat.le_refl _) _).alloc (by simp) _
  have hsz0 : w0.heap.size = w.heap.size + 2 := by rw [hw0]; simp
  have hg0 : w0.heap[w.heap.size]? = some (.cells #[.slice A m.length cap] 22 (0, 0)) := by
    rw [hw0, Below.heap_alloc _ _ _ (by simp)]; exact heap_alloc_new w _
  have hg1 : w0.heap[w.heap.size + 1]? = some (.cells #[.int .i64 (m.length : Int)] 3 (0, 0)) := by
    have := heap_alloc_new (w.alloc (.cells #[.slice A m.length cap] 22)) (.cells #[.int .i64 (m.length : Int)] 3)
    rw [hw0]
    simpa using this
  obtain ⟨hc0, _⟩ := cells_at hg0 0 (by simp)
  obtain ⟨hc1, _⟩ := cells_at hg1 0 (by simp)
  simp only [List.getElem_toArray, List.getElem_cons_zero] at hc0 hc1
  have hm0 := hm.below hb0 hin
  have Hg0 := Lib.hid hg0
  have Hg1 := Lib.hid hg1
  have Hsz0 := Lib.hid hsz0
  have Hfull := Lib.hid hfull
  have hia := hin.below hb0
  have ht0 : TabAt w0 := ht.below hb0 ht.1
  clear hm hg0 hg1 hsz0 hin ht hfull
  go_enter Tryd.func23, Tryd.ntmps23
  go_wp2_with fail
  rw [← hw0]
  clear hw0
  refine (matCheck hm0).mono ?_
  rintro e w1 ⟨rfl, hw1⟩
  obtain rfl : w0 = w1 := hw1.symm
  by_cases hx : mchk m = 0
  · have hv := mchk_valid.1 hx
    have hne : (((mchk m : Nat) : Int) != 0) = false := by rw [hx]; rfl
    have hr48 := hv.rows
    have hc48 := hv.colsle
    have Hrect : Hid (Rect m (cols m)) := hv.row
    have Hx := Lib.hid hx
    clear hx hv
    have hd1 := Drew.one w0
    by_cases hsq : cols m = m.length
    · have ht4 : ((cols m : Int) != (m.length : Int)) = false := by rw [hsq]; simp
      have Hsq := Lib.hid hsq
      have hfu := Lib.hid (Hfull.out Hx.out hsq)
      have he : Hid (inverseErr m = if (reduceM (invM m)).2 = List.range m.length then 0 else 8) := by
        show _ = _
        unfold inverseErr
        rw [if_neg (by rw [Hx.out]; simp), if_neg (by simpa using hsq)]
      clear hsq
      go_wp2_with fail
      refine wp_region_walk [1,1,1,0] [0,1,2,3] (fun w' => w'.cell? ⟨w.heap.size, 0, none⟩ = some (.slice A m.length cap) ∧ w'.cell? ⟨w.heap.size + 1, 0, none⟩ = some (.int .i64 (m.length : Int)) ∧ Rows8 S w' A cap m) rfl (by kernel_rfl) rfl (by kernel_rfl) (fun _ d _ _ _ h => by cases d <;> exact h) ⟨hc0, hc1, hm0.drew hd1⟩ ?_
      repeat ((first | (apply walk_pure rfl rfl rfl; (intro w'; go_simp; rfl)) | (apply walk_read rfl rfl rfl; (rintro w' ⟨hs1, hs2, hs3⟩; go_simp; rfl)) | (apply walk_calm rfl rfl rfl; (rintro w' ⟨hs1, hs2, hs3⟩; go_simp; exact ⟨rfl, rfl⟩); (rintro w' ⟨hs1, hs2, hs3⟩; exact (matColumns hs3)))); simp only [Act.put, List.getElem_toArray, List.getElem_cons_zero, List.getElem_cons_succ, List.setIfInBounds_toArray, List.set_cons_zero, List.set_cons_succ])
      refine walk_nil ?_
      obtain ⟨w1, hw1⟩ : ∃ w1, w1 = w0.drew := ⟨_, rfl⟩
      rw [← hw1]
      have hd2 : Drew w0 w1 := by rw [hw1]; exact hd1
      clear hw1 hd1
      have hc0' : w1.cell? ⟨w.heap.size, 0, none⟩ = some (.slice A m.length cap) := by rw [World.cell?_of_block (w := w0) (by rw [hd2.heap])]; exact hc0
      have hc1' : w1.cell? ⟨w.heap.size + 1, 0, none⟩ = some (.int .i64 (m.length : Int)) := by rw [World.cell?_of_block (w := w0) (by rw [hd2.heap])]; exact hc1
      have Hm1 := Lib.hid (hm0.drew hd2)
      have hia1 := hia.drew hd2
      have ht1 : TabAt w1 := ht0.below (hd2.below w0.heap.size) ht0.1
      have hb1 : Below w.heap.size w w1 := hb0.trans (hd2.below _)
      have Hsz1 : Hid (w1.heap.size = w.heap.size + 2) := by show _ = _; rw [hd2.heap]; exact Hsz0.out
      have Hg1' : Hid (w1.heap[w.heap.size + 1]? = some (.cells #[.int .i64 (m.length : Int)] 3 (0, 0))) := by show _ = _; rw [hd2.heap]; exact Hg1.out
      clear hc0 hc1 hm0 hia hb0 hd2 ht0
      go_wp2_with fail
      rw [show (2 * (m.length : Int)) = ((2 * m.length : Nat) : Int) by simp]
      refine (matGrid m.length (2 * m.length) 44 #[.pointer (some ⟨w.heap.size + 1, 0, none⟩), .pointer (some ⟨w.heap.size, 0, none⟩)] (invAt m m.length) (by omega) (by omega) Tryd.call44 ?_).mono ?_
      · intro i k hi hk w' hb'
        have hsz := Hsz1.out
        refine (matAt44 (n := m.length) i k hi (by omega) (by omega) (fun hk' => by rw [Hrect.out.getD hi, Hsq.out]; exact hk') ?_ ?_ (Hm1.out.below hb' hia1)).mono ?_
        · rw [World.cell?_of_block (w := w1) (hb'.block (w.heap.size + 1) (by omega))]; exact hc1'
        · rw [World.cell?_of_block (w := w1) (hb'.block (w.heap.size) (by omega))]; exact hc0'
        · rintro e w'' ⟨rfl, rfl⟩
          exact ⟨rfl, Drew.refl _⟩
      · rintro e w2 ⟨A1, cap1, rfl, hS1, hb2⟩
        have hin2 : In (fresh w1 w2) w2 := fun k hk => hk.2
        have ht2 : TabAt w2 := ht1.below hb2 ht1.1
        have hbw2 : Below w.heap.size w w2 := hb1.trans (hb2.mono (by have := Hsz1.out; omega))
        have hrect1 := gridM_rect' m.length (2 * m.length) (invAt m m.length)
        have hcle := gridM_cols_le m.length (2 * m.length) (invAt m m.length)
        have hlen1 : (gridM m.length (2 * m.length) (invAt m m.length)).length = m.length := gridM_length _ _ _
        have Hg2 : Hid (w2.heap[w.heap.size + 1]? = some (.cells #[.int .i64 (m.length : Int)] 3 (0, 0))) := by
          show _ = _
          rw [hb2.block _ (by have := Hsz1.out; omega)]; exact Hg1'.out
        have Hsz2 : Hid (w.heap.size + 2 ≤ w2.heap.size) := by
          show _ ≤ _
          have := Hsz1.out; have := hb2.size; omega
        have hcore0 := matReduceCore hrect1 rfl (by rw [hlen1]; omega) (by omega) hS1 hin2 ht2
        rw [hlen1] at hcore0
        have hcore : Hid (Calls Tryd.prog 38 #[.slice A1 m.length cap1] w2 (GiveRed2 w2 (reduceM (invM m)))) := hcore0
        have hIE : Hid (inverseE m = if inverseErr m = 0 then gridM m.length m.length (fun i k => ((reduceM (invM m)).1.getD i []).getD (m.length + k) 0) else []) := rfl
        obtain ⟨hv1, hv2, hv3, hv4, hv5⟩ := reduceM_inv (m := invM m) hrect1
        have Hcols : Hid (0 < m.length → cols (invM m) = 2 * m.length) := fun h => cols_gridM _ h
        have hcle2 : cols (invM m) ≤ 2 * m.length := hcle
        clear hcore0 hcle hrect1
        rw [hlen1]
        obtain ⟨hc2, _⟩ := cells_at Hg2.out 0 (by simp)
        simp only [List.getElem_toArray, List.getElem_cons_zero] at hc2
        clear hlen1 hS1 hin2 ht2 hc0' hc1' Hm1 hia1 ht1 hb1 hb2
        go_wp2_with fail
        refine hcore.out.mono ?_
        rintro e w3 ⟨A2, cap2, Ap, capp, rfl, hR1, hR2, hb3⟩
        generalize reduceM (invM m) = R at *
        have hbw3 : Below w.heap.size w w3 := hbw2.trans (hb3.mono (by have := Hsz2.out; omega))
        have Hg3 : Hid (w3.heap[w.heap.size + 1]? = some (.cells #[.int .i64 (m.length : Int)] 3 (0, 0))) := by
          show _ = _
          rw [hb3.block _ (by have := Hsz2.out; omega)]; exact Hg2.out
        have Hsz3 : Hid (w.heap.size + 2 ≤ w3.heap.size) := by
          show _ ≤ _
          have := Hsz2.out; have := hb3.size; omega
        have Hv2 := Lib.hid hv2
        have HR1 := Lib.hid hR1
        have HR2 := Lib.hid hR2
        clear hcore hv2 hv5 hR1 hR2 hb3 hbw2 Hg2 hc2
        go_wp2_with fail
        obtain ⟨w4, hw4⟩ : ∃ w4, w4 = w3.alloc (.cells #[.slice A2 R.2.length cap2] 22) := ⟨_, rfl⟩
        rw [← hw4]
        have hb4 : Below w3.heap.size w3 w4 := by rw [hw4]; exact (Below.refl _ _).alloc (Nat.le_refl _) _
        have Hg4 : Hid (w4.heap[w3.heap.size]? = some (.cells #[.slice A2 R.2.length cap2] 22 (0, 0))) := by show _ = _; rw [hw4]; exact heap_alloc_new w3 _
        have Hsz4 : Hid (w4.heap.size = w3.heap.size + 1) := by show _ = _; rw [hw4]; simp
        have hin3 : In (fresh w2 w3) w3 := fun k hk => hk.2
        have hI := HR2.out.below hb4 hin3
        have hI2 := hI.len
        have HI := Lib.hid hI
        have HM := Lib.hid (HR1.out.below hb4 hin3)
        have hin4 : In (fresh w2 w3) w4 := hin3.below hb4
        have ht4' : w4.cell? ⟨w.heap.size + 1, 0, none⟩ = some (.int .i64 (m.length : Int)) := by
          rw [World.cell?_of_block (w := w3) (hb4.block (w.heap.size + 1) (by have := Hsz3.out; omega))]; exact (cells_at Hg3.out 0 (by simp)).1
        have hbw4 : Below w.heap.size w w4 := hbw3.trans (hb4.mono (by have := Hsz3.out; omega))
        clear hw4 hI HR1 HR2 hbw3 hb4
        go_loop [2, 3, 32] (fun v2 v3 vk => ∃ k : Nat, k ≤ R.2.length ∧ vk = .int .i64 (k : Int) ∧ v2 = .slice none 0 0 ∧ v3 = .int .i64 0 ∧ Hid (∀ j (h : j < R.2.length), j < k → R.2[j] = j)) (fun _ _ vk => R.2.length - (intOf vk).toNat)
        case atStart => exact ⟨0, by omega, rfl, rfl, rfl, fun j h h0 => by omega⟩
        case round =>
          obtain ⟨k, hk, rfl, rfl, rfl, hall⟩ := hrel
          by_cases hltk : k < R.2.length
          · obtain ⟨bp, op, rfl, _, hcp, hple⟩ := ints_get HI.out hltk
            by_cases hpk : R.2[k] = k
            · have htest : ((R.2[k] : Int) != (k : Int)) = false := by rw [hpk]; simp
              have hall2 : Hid (∀ j (h : j < R.2.length), j < k + 1 → R.2[j] = j) := fun j h h0 => by
                by_cases hjk : j = k
                · subst hjk; exact hpk
                · exact hall.out j h (by omega)
              generalize R.2[k] = p at *
              clear hpk
              go_wp2
              go_round
              case rel => exact ⟨k + 1, by omega, by go_num, rfl, rfl, hall2⟩
              case measure => simp [intOf]; omega
            · have htest : ((R.2[k] : Int) != (k : Int)) = true := by rw [bne_iff_ne]; exact fun h => hpk (Int.ofNat_inj.1 h)
              have he8 : Hid (inverseErr m = 8) := by
                show _ = _
                rw [he.out, if_neg]
                intro h
                apply hpk
                simp [h]
              generalize R.2[k] = p at *
              clear hpk he
              go_wp2
              go_ret2
              have hE : inverseE m = [] := by rw [hIE.out, he8.out]; rfl
              exact ⟨none, 0, by rw [hE, he8.out]; rfl, by rw [hE]; exact Sl.nil, hbw4⟩
          · obtain rfl : k = R.2.length := by omega
            have he0 : Hid (inverseErr m = 0) := by
              show _ = _
              rw [he.out, if_pos]
              refine List.ext_getElem (by rw [hfu.out]; simp) fun j h1 h2 => ?_
              rw [hall.out j h1 h1]; simp
            have HE : Hid (inverseE m = gridM m.length m.length (fun i k => (R.1.getD i []).getD (m.length + k) 0)) := by
              show _ = _
              rw [hIE.out, he0.out]; rfl
            clear he hIE hall hltk hk
            go_wp2_with fail
            refine (matGrid m.length m.length 45 #[.pointer (some ⟨w3.heap.size, 0, none⟩), .pointer (some ⟨w.heap.size + 1, 0, none⟩)] (fun i k => (R.1.getD i []).getD (m.length + k) 0) (by omega) (by omega) Tryd.call45 ?_).mono ?_
            · intro i k hi hk w' hb'
              have hsz := Hsz4.out
              have hsz3 := Hsz3.out
              have hi2 : i < R.1.length := by rw [hv1, hfu.out]; exact hi
              have hcc : cols (gridM m.length (2 * m.length) (invAt m m.length)) = 2 * m.length := Hcols.out (by omega)
              refine matAt45 (n := m.length) i k hi2 (by omega) (by omega) (by rw [Hv2.out.getD hi2, hcc]; omega) ?_ ?_ (HM.out.below hb' hin4)
              · rw [World.cell?_of_block (w := w4) (hb'.block (w.heap.size + 1) (by omega))]; exact ht4'
              · rw [World.cell?_of_block (w := w4) (hb'.block (w3.heap.size) (by omega)), hv1]; exact (cells_at Hg4.out 0 (by simp)).1
            · rintro e w5 ⟨A5, cap5, rfl, hS5, hb5⟩
              have hsz5 := hbw4.size
              have H5 := Lib.hid (hS5.mono (fresh_trans hsz5))
              have hb6 := Lib.hid (hbw4.trans (hb5.mono hsz5))
              generalize hG : gridM m.length m.length (fun i k => (R.1.getD i []).getD (m.length + k) 0) = GG at *
              have HG := Lib.hid hG
              clear hS5 hb5 hG
              go_wp2_with fail
              go_ret2
              exact ⟨A5, cap5, by rw [HE.out, he0.out]; rfl, by rw [HE.out]; exact H5.out, hb6.out⟩
    · have ht4 : ((cols m : Int) != (m.length : Int)) = true := by rw [bne_iff_ne]; omega
      have he : Hid (inverseErr m = 1) := by
        show _ = _
        unfold inverseErr
        rw [if_neg (by rw [Hx.out]; simp), if_pos hsq]
      clear hsq
      go_wp2_with fail
      refine wp_region_walk [1,1,1,0] [0,1,2,3] (fun w' => w'.cell? ⟨w.heap.size, 0, none⟩ = some (.slice A m.length cap) ∧ w'.cell? ⟨w.heap.size + 1, 0, none⟩ = some (.int .i64 (m.length : Int)) ∧ Rows8 S w' A cap m) rfl (by kernel_rfl) rfl (by kernel_rfl) (fun _ d _ _ _ h => by cases d <;> exact h) ⟨hc0, hc1, hm0.drew hd1⟩ ?_
      repeat ((first | (apply walk_pure rfl rfl rfl; (intro w'; go_simp; rfl)) | (apply walk_read rfl rfl rfl; (rintro w' ⟨hs1, hs2, hs3⟩; go_simp; rfl)) | (apply walk_calm rfl rfl rfl; (rintro w' ⟨hs1, hs2, hs3⟩; go_simp; exact ⟨rfl, rfl⟩); (rintro w' ⟨hs1, hs2, hs3⟩; exact (matColumns hs3)))); simp only [Act.put, List.getElem_toArray, List.getElem_cons_zero, List.getElem_cons_succ, List.setIfInBounds_toArray, List.set_cons_zero, List.set_cons_succ])
      refine walk_nil ?_
      have hb2 : Hid (Below w.heap.size w w0.drew) := hb0.trans (hd1.below _)
      clear hc0 hc1 hm0 hb0 hd1
      go_wp2_with fail
      go_ret2
      have hE : inverseE m = [] := by unfold inverseE; rw [he.out]; rfl
      exact ⟨none, 0, by rw [hE, he.out]; rfl, by rw [hE]; exact Sl.nil, hb2.out⟩
  · have hne : (((mchk m : Nat) : Int) != 0) = true := by rw [bne_iff_ne]; omega
    have he : Hid (inverseErr m = mchk m) := by
      show _ = _
      unfold inverseErr
      rw [if_pos hx]
    have hE : Hid (inverseE m = []) := by
      show _ = _
      unfold inverseE; rw [if_neg (by rw [he.out]; exact hx)]
    clear hx hm0
    go_wp2_with fail
    go_ret2
    exact ⟨none, 0, by rw [hE.out, he.out]; rfl, by rw [hE.out]; exact Sl.nil, hb0⟩
end Go.Proofs.YtokclgjkdpjjfaaDoor
