/-
  The walk of the reference's product of matrices.
-/
import Derived.Test.YtokclgjkdpjjfaaDoorWc
namespace Go.Proofs.YtokclgjkdpjjfaaDoor
open Go.RowKit Go.Q
variable {w : World} {S S' : Reg} {A A' : Option Addr} {cap cap' : Nat}
theorem beq_zero {n : Nat} (h : n = 0) : ((n : Int) == 0) = true := by rw [h]; rfl
theorem bne_zero {n : Nat} (h : n = 0) : ((n : Int) != 0) = false := by rw [h]; rfl
theorem beq_nz {n : Nat} (h : n ≠ 0) : ((n : Int) == 0) = false := by rw [beq_eq_false_iff_ne]; omega
theorem bne_nz {n : Nat} (h : n ≠ 0) : ((n : Int) != 0) = true := by rw [bne_iff_ne]; omega
theorem prod_step (a b : List (List UInt8)) (i : Nat) (hi : i < a.length) : (product a b).take i ++ [combine a[i] b (cols b)] = (product a b).take (i + 1) := by
  have hl : i < (product a b).length := by simpa [product] using hi
  rw [take_succ _ _ hl]
  congr 2
  simp [product]
theorem combine_len (coef : List UInt8) (b : List (List UInt8)) (n : Nat) (hr : ∀ r ∈ b, n ≤ r.length) : (combine coef b n).length = n := combineTo_len coef b n hr _ (Nat.le_refl _)
theorem made_end {w w' : World} (hb : Below (w.heap.size + 1) (w.alloc (.cells #[.slice none 0 0, .int .i64 0] 35)) w') (u v : Value) :
    Below w.heap.size w ((w'.setCell ⟨w.heap.size, 0, none⟩ u).setCell ⟨w.heap.size, 1, none⟩ v) :=
  ((((Below.refl _ _).alloc (Nat.le_refl _) _).trans (hb.mono (Nat.le_succ _))).setCell (Nat.le_refl _) _).setCell (Nat.le_refl _) _
set_option maxHeartbeats 1000000 in
theorem refProductBad {a b : List (List UInt8)} (hma : Rows8 S w A cap a) (hmb : Rows8 S' w A' cap' b) (hina : In S w) (hinb : In S' w) (hx : prodErr a b ≠ 0) :
    Calls Tryd.prog 29 #[.slice A a.length cap, .slice A' b.length cap'] w (GiveMade w [] (prodErr a b)) := by
  have hla := hma.len
  have hlb := hmb.len
  have hma1 := hma.stable (w' := w.alloc (.cells #[.slice none 0 0, .int .i64 0] 35)) (fun _ h => h) (fun k hk => Below.heap_alloc _ _ _ (hina k hk))
  have hmb1 := hmb.stable (w' := w.alloc (.cells #[.slice none 0 0, .int .i64 0] 35)) (fun _ h => h) (fun k hk => Below.heap_alloc _ _ _ (hinb k hk))
  clear hma hmb
  go_enter Tryd.func29, Tryd.ntmps29
  go_wp2_with fail
  refine (refCheck hma1).mono ?_
  rintro e w1 ⟨rfl, hd⟩
  have hma2 := hma1.drew hd
  have hmb2 := hmb1.drew hd
  have hb1 : Below (w.heap.size + 1) (w.alloc (.cells #[.slice none 0 0, .int .i64 0] 35)) w1 := hd.below _
  clear hma1 hmb1 hd
  by_cases ha0 : mchk a = 0
  · have t1 := beq_zero ha0
    have t2 := bne_zero ha0
    have Ha0 := Lib.hid ha0
    clear ha0
    go_wp2_with fail
    refine (refCheck hmb2).mono ?_
    rintro e w2 ⟨rfl, hd⟩
    have hma3 := hma2.drew hd
    have hb2 : Below (w.heap.size + 1) (w.alloc (.cells #[.slice none 0 0, .int .i64 0] 35)) w2 := hb1.trans (hd.below _)
    clear hma2 hmb2 hd hb1
    have hg := below_new hb2 (by omega)
    obtain ⟨hc0, hf0⟩ := cells_at hg 0 (by simp)
    obtain ⟨hc1, hf1⟩ := cells_at hg 1 (by simp)
    simp only [List.getElem_toArray, List.getElem_cons_zero, List.getElem_cons_succ] at hc0 hc1
    clear hg
    by_cases hb0 : mchk b = 0
    · have t3 := bne_zero hb0
      have hne : cols a ≠ b.length := by
        intro e
        exact hx (by unfold prodErr; rw [if_neg (by rw [Ha0.out]; simp), if_neg (by rw [hb0]; simp), if_neg (by simpa using e)])
      have t4 : ((cols a : Int) != (b.length : Int)) = true := by rw [bne_iff_ne]; omega
      have hfin : Hid (prodErr a b = 1) := by
        show _ = _
        unfold prodErr; rw [if_neg (by rw [Ha0.out]; simp), if_neg (by rw [hb0]; simp), if_pos hne]
      clear hb0 hne
      go_wp2_with (go_at_call 30; refine (refColumns hma3).mono ?_; rintro e w3 ⟨rfl, rfl⟩)
      refine bodyPost_ret (v := .agg #[.slice none 0 0, .int .i64 1]) (by simp [results, Tryd.results29, go_sem, hc0, hc1]) rfl ⟨none, 0, by rw [hfin.out]; rfl, Sl.nil, made_end hb2 _ _⟩
    · have t3 := bne_nz hb0
      have hfin : Hid (prodErr a b = mchk b) := by
        show _ = _
        unfold prodErr; rw [if_neg (by rw [Ha0.out]; simp), if_pos hb0]
      clear hb0
      go_wp2_with fail
      refine bodyPost_ret (v := .agg #[.slice none 0 0, .int .i64 (mchk b : Nat)]) (by simp [results, Tryd.results29, go_sem, hc0, hc1]) rfl ⟨none, 0, by rw [hfin.out]; rfl, Sl.nil, made_end hb2 _ _⟩
  · have t1 := beq_nz ha0
    have t2 := bne_nz ha0
    have hfin : Hid (prodErr a b = mchk a) := by
      show _ = _
      unfold prodErr; rw [if_pos ha0]
    have hg := below_new hb1 (by omega)
    obtain ⟨hc0, hf0⟩ := cells_at hg 0 (by simp)
    obtain ⟨hc1, hf1⟩ := cells_at hg 1 (by simp)
    simp only [List.getElem_toArray, List.getElem_cons_zero, List.getElem_cons_succ] at hc0 hc1
    clear hg ha0 hma2 hmb2
    go_wp2_with fail
    refine bodyPost_ret (v := .agg #[.slice none 0 0, .int .i64 (mchk a : Nat)]) (by simp [results, Tryd.results29, go_sem, hc0, hc1]) rfl ⟨none, 0, by rw [hfin.out]; rfl, Sl.nil, made_end hb1 _ _⟩
set_option maxHeartbeats 1000000 in
theorem refProductGood {a b : List (List UInt8)} (hma : Rows8 S w A cap a) (hmb : Rows8 S' w A' cap' b) (hina : In S w) (hinb : In S' w) (hva : Valid a) (hvb : Valid b) (hab : cols a = b.length) :
    Calls Tryd.prog 29 #[.slice A a.length cap, .slice A' b.length cap'] w (GiveMade w (product a b) 0) := by
  obtain ⟨i0, hi, hz0, hz1, hz2⟩ := info_parts info43
  have hla := hma.len
  have hlb := hmb.len
  have t1 := beq_zero (mchk_valid.2 hva)
  have t2 := bne_zero (mchk_valid.2 hva)
  have t3 := bne_zero (mchk_valid.2 hvb)
  have t4 : ((cols a : Int) != (b.length : Int)) = false := by rw [hab]; simp
  have hra := Lib.hid hva.row
  have hrb := Lib.hid hvb.row
  have hab' := Lib.hid hab
  have hcb := hvb.colsle
  have hcr := hva.rows
  have hma1 := hma.stable (w' := w.alloc (.cells #[.slice none 0 0, .int .i64 0] 35)) (fun _ h => h) (fun k hk => Below.heap_alloc _ _ _ (hina k hk))
  have hmb1 := hmb.stable (w' := w.alloc (.cells #[.slice none 0 0, .int .i64 0] 35)) (fun _ h => h) (fun k hk => Below.heap_alloc _ _ _ (hinb k hk))
  clear hma hmb hva hvb hab
  go_enter Tryd.func29, Tryd.ntmps29
  go_wp2_with fail
  refine (refCheck hma1).mono ?_
  rintro e w1 ⟨rfl, hd⟩
  have hma2 := hma1.drew hd
  have hmb2 := hmb1.drew hd
  have hb1 : Below (w.heap.size + 1) (w.alloc (.cells #[.slice none 0 0, .int .i64 0] 35)) w1 := hd.below _
  clear hma1 hmb1 hd
  go_wp2_with fail
  refine (refCheck hmb2).mono ?_
  rintro e w2 ⟨rfl, hd⟩
  have hma3 := hma2.drew hd
  have hmb3 := hmb2.drew hd
  have hb2 : Below (w.heap.size + 1) (w.alloc (.cells #[.slice none 0 0, .int .i64 0] 35)) w2 := hb1.trans (hd.below _)
  clear hma2 hmb2 hd hb1
  have hw0 : Below w.heap.size w w2 := ((Below.refl _ _).alloc (Nat.le_refl _) _).trans (hb2.mono (Nat.le_succ _))
  have hg : Hid (w2.heap[w.heap.size]? = some (.cells #[.slice none 0 0, .int .i64 0] 35 (0, 0))) := below_new hb2 (by omega)
  have hsz : w.heap.size < w2.heap.size := by have := hb2.size; simp at this; omega
  have hina2 : In S w2 := hina.below hw0
  have hinb2 : In S' w2 := hinb.below hw0
  clear hb2
  go_wp2_with fail
  refine (refColumns hma3).mono ?_
  rintro e w3 ⟨rfl, hw3⟩
  obtain rfl : w3 = w2 := hw3
  go_wp2_with fail
  go_loopw [6, 7] (fun v k wr => ∃ i A1 cap1, i ≤ a.length ∧ k = .int .i64 (i : Int) ∧ v = .slice A1 i cap1 ∧ Hid (Own (slE u8E) (fun k => w3.heap.size ≤ k) w3.heap.size 43 wr A1 cap1 ((product a b).take i)) ∧ Below w3.heap.size w3 wr) (fun _ k _ => a.length - (intOf k).toNat)
  case atStart => exact ⟨0, none, 0, by omega, rfl, rfl, Own.nil, Below.refl _ _⟩
  case round =>
    obtain ⟨i, A1, cap1, hi', rfl, rfl, hown, hbl⟩ := hrel
    have hmar := hma3.below hbl hina2
    have hmbr := hmb3.below hbl hinb2
    have hinar : In S wr := hina2.below hbl
    have hinbr : In S' wr := hinb2.below hbl
    clear hma3 hmb3
    by_cases hlt : i < a.length
    · have hlen : Hid (((product a b).take i).length = i) := by show _ = _; simp [product]; omega
      have hstep := Lib.hid (prod_step a b i hlt)
      obtain ⟨b1, o1, A3, cap3, rfl, hSb, hc1, hr1⟩ := rows_get hmar hlt
      have hrl : a[i].length = b.length := by rw [hra.out _ (List.getElem_mem _), hab'.out]
      have hrl' := Lib.hid hrl
      have hlc' : Hid ((combine a[i] b (cols b)).length = cols b) := combine_len _ _ _ (fun r hr => by rw [hrb.out r hr]; exact Nat.le_refl _)
      clear hmar hrl
      go_wp2
      refine wp_region_walk [0,0,0,0,1,0,0,1,2,2,2,2] [0,1,2,3,4,5,6,7,8,9,10,11] (fun w' => w'.cell? ⟨b1, o1 + i, none⟩ = some (.slice A3 a[i].length cap3) ∧ Rows8 S' w' A' cap' b) rfl (by kernel_rfl) rfl (by kernel_rfl) (fun _ d _ _ _ h => by cases d <;> exact h) ⟨hc1, hmbr.drew (Drew.one _)⟩ ?_
      repeat ((first | (apply walk_pure rfl rfl rfl; (intro w'; go_simp; rfl)) | (apply walk_read rfl rfl rfl; (rintro w' ⟨hs1, hs2⟩; go_simp; rfl)));  simp only [Act.put, List.getElem_toArray, List.getElem_cons_zero, List.getElem_cons_succ, List.setIfInBounds_toArray, List.set_cons_zero, List.set_cons_succ])
      apply walk_calm rfl rfl rfl
      · rintro w' ⟨hs1, hs2⟩
        go_simp
        exact ⟨rfl, rfl⟩
      · rintro w' ⟨hs1, hs2⟩
        exact refColumns hs2
      simp only [Act.put, List.getElem_toArray, List.getElem_cons_zero, List.getElem_cons_succ, List.setIfInBounds_toArray, List.set_cons_zero, List.set_cons_succ]
      refine walk_rest 8 (by kernel_rfl) rfl ?_
      simp only [List.drop_succ_cons, List.drop_zero]
      rw [hrl'.out]
      have hd1 := Drew.one wr
      have hsz2 : w3.heap.size ≤ wr.drew.heap.size := hbl.size
      have hbl1 : Below w3.heap.size w3 wr.drew := hbl.trans (hd1.below _)
      have hown1 := Lib.hid (hown.out.drew hd1)
      have hcall := refCombine' (n := cols b) hrl'.out (by omega) (fun r hr => by rw [hrb.out r hr]; exact Nat.le_refl _) (Nat.le_refl _) (hr1.drew hd1) (hmbr.drew hd1) (hinar.drew hd1) (hinbr.drew hd1)
      have Hcall := Lib.hid hcall
      clear hcall hown hd1
      go_wp2_with fail
      refine Hcall.out.mono ?_
      rintro e w4 ⟨A4, cap4, rfl, hS4, hb4⟩
      rw [hlc'.out]
      go_wp2_with (at_builtin; refine wpList_append_box rfl (.tmp 30) (.tmp 39) 22 rfl rfl rfl Tryd.underlying22 hi hz0 hz1 hz2 rfl (by decide) hlen.out (hown1.out.below hb4 (Nat.le_refl _)) (hbl1.trans (hb4.mono hsz2)) (combine a[i] b (cols b)) (fresh _ w4) ⟨A4, cap4, by rw [hlc'.out], hS4⟩ (fun k hk => ⟨by have := hk.1; omega, hk.2⟩) ?c1 (by omega) ?_; rotate_left; intro A2 cap2 w5 hown2 hb2 _ _)
      case c1 =>
        intro x hx hk
        obtain ⟨g, rfl, h1, h2⟩ := hown1.out.block hx
        exact Nat.lt_irrefl _ (Nat.lt_of_lt_of_le h2 hk.1)
      have hown3 : Hid _ := Lib.hid (hown2.cast hstep.out)
      clear hown1 hown2 hbl hb4 hbl1
      go_wp2
      go_roundw
      case rel => exact ⟨i + 1, A2, cap2, by omega, by go_num, rfl, hown3, hb2⟩
      case measure => simp [intOf]; omega
    · obtain rfl : i = a.length := by omega
      have hlen : Hid ((product a b).length = a.length) := by show _ = _; simp [product]
      have hown2 := Lib.hid (hown.out.cast (by rw [← hlen.out, List.take_length]) : Own (slE u8E) (fun k => w3.heap.size ≤ k) w3.heap.size 43 wr A1 cap1 (product a b))
      have hg2 : wr.heap[w.heap.size]? = some (.cells #[.slice none 0 0, .int .i64 0] 35 (0, 0)) := by rw [hbl.block _ hsz]; exact hg.out
      obtain ⟨hc0, hf0⟩ := cells_at hg2 0 (by simp)
      obtain ⟨hc1, hf1⟩ := cells_at hg2 1 (by simp)
      simp only [List.getElem_toArray, List.getElem_cons_zero, List.getElem_cons_succ] at hc0 hc1
      clear hg2 hmar hmbr hown
      go_wp2_with fail
      have hszr := hbl.size
      refine bodyPost_ret (v := .agg #[.slice A1 a.length cap1, .int .i64 0]) (by simp [results, Tryd.results29, go_sem, hc0, hc1]) rfl ⟨A1, cap1, by rw [hlen.out]; rfl, ?_, ?_⟩
      · have h1 : Rows8 (fun k => w3.heap.size ≤ k ∧ k < wr.heap.size) wr A1 cap1 (product a b) := hown2.out.sl (fun k hk h => ⟨by rcases h with h | h <;> exact h, hk⟩)
        refine h1.stable (fun k hk => ⟨by have := hk.1; omega, by simpa [World.setCell] using hk.2⟩) (fun k hk => ?_)
        have hne : k ≠ w.heap.size := by have := hk.1; omega
        rw [Below.heap_setCell _ _ _ _ hne, Below.heap_setCell _ _ _ _ hne]
      · exact ((hw0.trans (hbl.mono (by omega))).setCell (Nat.le_refl _) _).setCell (Nat.le_refl _) _
end Go.Proofs.YtokclgjkdpjjfaaDoor
