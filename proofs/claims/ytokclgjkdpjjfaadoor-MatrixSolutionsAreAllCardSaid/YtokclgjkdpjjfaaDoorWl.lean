/-
  The walk of matrix.Product.
-/
import Derived.Test.YtokclgjkdpjjfaaDoorWi
import Derived.Test.YtokclgjkdpjjfaaDoorWd
namespace Go.Proofs.YtokclgjkdpjjfaaDoor
open Go.RowKit Go.Q
variable {w : World} {S S' : Reg} {A A' : Option Addr} {cap cap' : Nat}
/-- The sum of the first j products of a row and a column. -/
def dotTo (r : List UInt8) (b : List (List UInt8)) (k : Nat) : Nat → UInt8
  | 0 => 0
  | j + 1 => dotTo r b k j ^^^ gmul (r.getD j 0) ((b.getD j []).getD k 0)
set_option maxHeartbeats 1000000 in
theorem prodAt {a b : List (List UInt8)} {bx by_ : Nat} (i k : Nat) (hi : i < a.length) (hlen : (a.getD i []).length = b.length) (hk : ∀ r ∈ b, k < r.length) (hboxa : w.cell? ⟨bx, 0, none⟩ = some (.slice A a.length cap)) (hboxb : w.cell? ⟨by_, 0, none⟩ = some (.slice A' b.length cap'))
    (hma : Rows8 S w A cap a) (hmb : Rows8 S' w A' cap' b) (ht : TabAt w) :
    Calls Tryd.prog 47 #[.int .i64 (i : Int), .int .i64 (k : Int), .pointer (some ⟨bx, 0, none⟩), .pointer (some ⟨by_, 0, none⟩)] w (fun e w'' => e = .returned (u8v (dotTo (a.getD i []) b k b.length)) ∧ Drew w w'') := by
  rw [getD_lt _ _ hi] at hlen ⊢
  have hla := hma.len
  have hlb := hmb.len
  obtain ⟨ba, oa, A1, c1, rfl, _, hc1, hr1⟩ := rows_get hma hi
  have hl1 := hr1.len
  rw [hlen] at hc1 hl1
  have Hlen := Lib.hid hlen
  have Hk := Lib.hid hk
  clear hma hlen hk
  go_enter Tryd.func47, Tryd.ntmps47
  go_wp2
  go_loop [7, 15] (fun vs vj => ∃ j : Nat, j ≤ b.length ∧ vj = .int .i64 (j : Int) ∧ vs = u8v (dotTo a[i] b k j)) (fun _ vj => b.length - (intOf vj).toNat)
  case atStart => exact ⟨0, by omega, rfl, rfl⟩
  case round =>
    obtain ⟨j, hj, rfl, rfl⟩ := hrel
    by_cases hlt : j < b.length
    · have hjr : j < a[i].length := by rw [Hlen.out]; exact hlt
      obtain ⟨b2, o2, rfl, _, hc2⟩ := bytes_get hr1 hjr
      obtain ⟨b3, o3, A3, c3, rfl, _, hc3, hr3⟩ := rows_get hmb hlt
      have hkr : k < b[j].length := Hk.out _ (List.getElem_mem _)
      obtain ⟨b4, o4, rfl, _, hc4⟩ := bytes_get hr3 hkr
      have hl3 := hr3.len
      have hst : Hid (dotTo a[i] b k (j + 1) = dotTo a[i] b k j ^^^ gmul a[i][j] b[j][k]) := by
        show _ = _
        rw [dotTo, getD_lt _ _ hjr, getD_lt _ _ hlt, getD_lt _ _ hkr]
      have hx8 := Lib.hid (bits_xor_u8 (dotTo a[i] b k j) (gmul a[i][j] b[j][k]))
      generalize b[j][k] = y at *
      generalize a[i][j] = x at *
      generalize dotTo a[i] b k j = s at *
      clear hr3 hmb hr1 hjr
      go_wp2_with (go_at_call 48; refine (gfMul _ _ _ ht).mono ?_; rintro e w' ⟨rfl, rfl⟩)
      go_round
      case rel => exact ⟨j + 1, by omega, by go_num, by rw [hst.out, hx8.out]⟩
      case measure => simp [intOf]; omega
    · obtain rfl : j = b.length := by omega
      generalize hs : dotTo a[i] b k b.length = s at *
      have Hs := Lib.hid hs
      clear hmb hr1 hs
      go_wp2
      go_ret
      exact ⟨ret_int (by rw [Hs.out]), Drew.refl _⟩
/-- What Product gives. -/
def prodE (a b : List (List UInt8)) : List (List UInt8) := if prodErr a b = 0 then gridM a.length (cols b) (fun i k => dotTo (a.getD i []) b k b.length) else []
theorem prodE_ok {a b : List (List UInt8)} (h : prodErr a b = 0) : prodE a b = gridM a.length (cols b) (fun i k => dotTo (a.getD i []) b k b.length) := if_pos h
theorem prodE_bad {a b : List (List UInt8)} (h : prodErr a b ≠ 0) : prodE a b = [] := if_neg h
set_option maxHeartbeats 2000000 in
theorem matProduct {a b : List (List UInt8)} (hma : Rows8 S w A cap a) (hmb : Rows8 S' w A' cap' b) (hina : In S w) (hinb : In S' w) (ht : TabAt w) :
    Calls Tryd.prog 28 #[.slice A a.length cap, .slice A' b.length cap'] w (GiveMatE w (prodE a b) (prodErr a b)) := by
  have hla := hma.len
  have hlb := hmb.len
  obtain ⟨w0, hw0⟩ : ∃ w0, w0 = (((w.alloc (.cells #[.slice A a.length cap] 22)).alloc (.cells #[.slice A' b.length cap'] 22)).alloc (.cells #[.slice A a.length cap, .slice A' b.length cap'] 22)) := ⟨_, rfl⟩
  have hb0 : Below w.heap.size w w0 := by rw [hw0]; exact (((Below.refl _ _).alloc (Nat.le_refl _) _).alloc (by simp) _).alloc (by simp; omega) _
  have hsz0 : w0.heap.size = w.heap.size + 3 := by rw [hw0]; simp
  have hg0 : w0.heap[w.heap.size]? = some (.cells #[.slice A a.length cap] 22 (0, 0)) := by
    rw [hw0, Below.heap_alloc _ _ _ (by simp; omega), Below.heap_alloc _ _ _ (by simp)]; exact heap_alloc_new w _
  have hg1 : w0.heap[w.heap.size + 1]? = some (.cells #[.slice A' b.length cap'] 22 (0, 0)) := by
    have := heap_alloc_new (w.alloc (.cells #[.slice A a.length cap] 22)) (.cells #[.slice A' b.length cap'] 22)
    rw [hw0, Below.heap_alloc _ _ _ (by simp)]
    simpa using this
  have hg2 : w0.heap[w.heap.size + 1 + 1]? = some (.cells #[.slice A a.length cap, .slice A' b.length cap'] 22 (0, 0)) := by
    have := heap_alloc_new ((w.alloc (.cells #[.slice A a.length cap] 22)).alloc (.cells #[.slice A' b.length cap'] 22)) (.cells #[.slice A a.length cap, .slice A' b.length cap'] 22)
    rw [hw0]
    simpa using this
  obtain ⟨hc0, _⟩ := cells_at hg0 0 (by simp)
  obtain ⟨hc1, _⟩ := cells_at hg1 0 (by simp)
  obtain ⟨hc2, _⟩ := cells_at hg2 0 (by simp)
  obtain ⟨hc3, _⟩ := cells_at hg2 1 (by simp)
  simp only [List.getElem_toArray, List.getElem_cons_zero, List.getElem_cons_succ] at hc0 hc1 hc2 hc3
  have hma0 := hma.below hb0 hina
  have hmb0 := hmb.below hb0 hinb
  have Hg0 := Lib.hid hg0
  have Hg1 := Lib.hid hg1
  have Hsz0 := Lib.hid hsz0
  clear hma hmb hg0 hg1 hg2 hsz0
  go_enter Tryd.func28, Tryd.ntmps28
  go_wp2_with fail
  rw [← hw0]
  clear hw0
  have hi0 : In S w0 := hina.below hb0
  have hi1 : In S' w0 := hinb.below hb0
  go_loop [13] (fun vk => ∃ k : Nat, k ≤ 2 ∧ vk = .int .i64 (k : Int) ∧ Hid (1 ≤ k → mchk a = 0) ∧ Hid (2 ≤ k → mchk b = 0)) (fun vk => 2 - (intOf vk).toNat)
  case atStart => exact ⟨0, by omega, rfl, fun h => by omega, fun h => by omega⟩
  case round =>
    obtain ⟨k, hk, rfl, hka, hkb⟩ := hrel
    by_cases h2 : k = 2
    · subst h2
      have ha0 := hka.out (by omega)
      have hb0' := hkb.out (by omega)
      have hva := mchk_valid.1 ha0
      have hvb := mchk_valid.1 hb0'
      have hcb := hvb.colsle
      have hra := hva.rows
      have hrb := hvb.rows
      have hca := hva.colsle
      by_cases hne : cols a = b.length
      · have ht4 : ((cols a : Int) != (b.length : Int)) = false := by rw [hne]; simp
        have he : Hid (prodErr a b = 0) := by show _ = _; unfold prodErr; rw [if_neg (by rw [ha0]; simp), if_neg (by rw [hb0']; simp), if_neg (by simpa using hne)]
        have Hra := Lib.hid hva.row
        have Hrb := Lib.hid hvb.row
        have Hne := Lib.hid hne
        clear hne ha0 hb0' hva hvb hka hkb
        go_wp2_with fail
        have hd1 := Drew.one w0
        refine wp_region_walk [1,1,1,0,0] [0,1,2,3,4] (fun w' => w'.cell? ⟨w.heap.size, 0, none⟩ = some (.slice A a.length cap) ∧ w'.cell? ⟨w.heap.size + 1, 0, none⟩ = some (.slice A' b.length cap') ∧ Rows8 S w' A cap a) rfl (by kernel_rfl) rfl (by kernel_rfl) (fun _ d _ _ _ h => by cases d <;> exact h) ⟨hc0, hc1, hma0.drew hd1⟩ ?_
        repeat ((first | (apply walk_pure rfl rfl rfl; (intro w'; go_simp; rfl)) | (apply walk_read rfl rfl rfl; (rintro w' ⟨hs1, hs2, hs3⟩; go_simp; rfl)) | (apply walk_calm rfl rfl rfl; (rintro w' ⟨hs1, hs2, hs3⟩; go_simp; exact ⟨rfl, rfl⟩); (rintro w' ⟨hs1, hs2, hs3⟩; exact (matColumns hs3)))); simp only [Act.put, List.getElem_toArray, List.getElem_cons_zero, List.getElem_cons_succ, List.setIfInBounds_toArray, List.set_cons_zero, List.set_cons_succ])
        refine walk_nil ?_
        obtain ⟨w1, hw1⟩ : ∃ w1, w1 = w0.drew := ⟨_, rfl⟩
        rw [← hw1]
        have hd2 : Drew w0 w1 := by rw [hw1]; exact hd1
        clear hw1 hd1
        have hc0' : w1.cell? ⟨w.heap.size, 0, none⟩ = some (.slice A a.length cap) := by rw [World.cell?_of_block (w := w0) (by rw [hd2.heap])]; exact hc0
        have hc1' : w1.cell? ⟨w.heap.size + 1, 0, none⟩ = some (.slice A' b.length cap') := by rw [World.cell?_of_block (w := w0) (by rw [hd2.heap])]; exact hc1
        have hma1 := hma0.drew hd2
        have hmb1 := hmb0.drew hd2
        have hi0' := hi0.drew hd2
        have hi1' := hi1.drew hd2
        have hb1 : Below w.heap.size w w1 := hb0.trans (hd2.below _)
        have Hsz1 : Hid (w1.heap.size = w.heap.size + 3) := by show _ = _; rw [hd2.heap]; exact Hsz0.out
        clear hc0 hc1 hc2 hc3 hma0 hmb0 hi0 hi1 hb0 hd2
        go_wp2_with fail
        refine wp_region_walk [1,0,1,1,0,2,2,2] [0,1,2,3,4,5,6,7] (fun w' => w'.cell? ⟨w.heap.size, 0, none⟩ = some (.slice A a.length cap) ∧ w'.cell? ⟨w.heap.size + 1, 0, none⟩ = some (.slice A' b.length cap') ∧ Rows8 S' w' A' cap' b) rfl (by kernel_rfl) rfl (by kernel_rfl) (fun _ d _ _ _ h => by cases d <;> exact h) ⟨hc0', hc1', hmb1.drew (Drew.one w1)⟩ ?_
        repeat ((first | (apply walk_pure rfl rfl rfl; (intro w'; go_simp; rfl)) | (apply walk_read rfl rfl rfl; (rintro w' ⟨hs1, hs2, hs3⟩; go_simp; rfl)) | (apply walk_calm rfl rfl rfl; (rintro w' ⟨hs1, hs2, hs3⟩; go_simp; exact ⟨rfl, rfl⟩); (rintro w' ⟨hs1, hs2, hs3⟩; exact (matColumns hs3)))); simp only [Act.put, List.getElem_toArray, List.getElem_cons_zero, List.getElem_cons_succ, List.setIfInBounds_toArray, List.set_cons_zero, List.set_cons_succ])
        refine walk_rest 5 (by kernel_rfl) rfl ?_
        simp only [List.drop_succ_cons, List.drop_zero]
        go_wp2_with fail
        have Hma := Lib.hid (hma1.drew (Drew.one w1))
        have Hmb := Lib.hid (hmb1.drew (Drew.one w1))
        have Hia := Lib.hid (hi0'.drew (Drew.one w1))
        have Hib := Lib.hid (hi1'.drew (Drew.one w1))
        have Hb2 : Hid (Below w.heap.size w w1.drew) := hb1.trans ((Drew.one w1).below _)
        clear hma1 hmb1 hi0' hi1' hb1
        refine (matGrid a.length (cols b) 47 #[.pointer (some ⟨w.heap.size, 0, none⟩), .pointer (some ⟨w.heap.size + 1, 0, none⟩)] (fun i k => dotTo (a.getD i []) b k b.length) (by omega) (by omega) Tryd.call47 ?_).mono ?_
        · intro i k hi hk w' hb'
          have hsz := Hsz1.out
          have hdsz : w1.drew.heap.size = w1.heap.size := rfl
          refine prodAt i k hi (by rw [getD_lt _ _ hi, Hra.out _ (List.getElem_mem _), Hne.out]) (fun r hr => by rw [Hrb.out r hr]; exact hk) ?_ ?_ (Hma.out.below hb' Hia.out) (Hmb.out.below hb' Hib.out) (ht.below (Hb2.out.trans (hb'.mono Hb2.out.size)) ht.1)
          · rw [World.cell?_of_block (w := w1.drew) (hb'.block w.heap.size (by omega))]; exact hc0'
          · rw [World.cell?_of_block (w := w1.drew) (hb'.block (w.heap.size + 1) (by omega))]; exact hc1'
        · rintro e w2 ⟨A2, cap2, rfl, hS2, hb2⟩
          have hS3 := Lib.hid (hS2.mono (fresh_trans Hb2.out.size))
          have hb3 : Hid (Below w.heap.size w w2) := Hb2.out.trans (hb2.mono Hb2.out.size)
          clear hS2 hb2
          generalize hG : gridM a.length (cols b) (fun i k => dotTo (a.getD i []) b k b.length) = GG at *
          have HG := Lib.hid hG
          clear hG
          go_wp2_with fail
          go_ret2
          refine ⟨A2, cap2, ?_, ?_, hb3.out⟩
          · rw [prodE_ok he.out, HG.out, he.out]; rfl
          · rw [prodE_ok he.out, HG.out]; exact hS3.out
      · have ht4 : ((cols a : Int) != (b.length : Int)) = true := by rw [bne_iff_ne]; omega
        have he : Hid (prodErr a b = 1) := by show _ = _; unfold prodErr; rw [if_neg (by rw [ha0]; simp), if_neg (by rw [hb0']; simp), if_pos hne]
        clear hne ha0 hb0' hva hvb hka hkb
        go_wp2_with fail
        have hd1 := Drew.one w0
        refine wp_region_walk [1,1,1,0,0] [0,1,2,3,4] (fun w' => w'.cell? ⟨w.heap.size, 0, none⟩ = some (.slice A a.length cap) ∧ w'.cell? ⟨w.heap.size + 1, 0, none⟩ = some (.slice A' b.length cap') ∧ Rows8 S w' A cap a) rfl (by kernel_rfl) rfl (by kernel_rfl) (fun _ d _ _ _ h => by cases d <;> exact h) ⟨hc0, hc1, hma0.drew hd1⟩ ?_
        repeat ((first | (apply walk_pure rfl rfl rfl; (intro w'; go_simp; rfl)) | (apply walk_read rfl rfl rfl; (rintro w' ⟨hs1, hs2, hs3⟩; go_simp; rfl)) | (apply walk_calm rfl rfl rfl; (rintro w' ⟨hs1, hs2, hs3⟩; go_simp; exact ⟨rfl, rfl⟩); (rintro w' ⟨hs1, hs2, hs3⟩; exact (matColumns hs3)))); simp only [Act.put, List.getElem_toArray, List.getElem_cons_zero, List.getElem_cons_succ, List.setIfInBounds_toArray, List.set_cons_zero, List.set_cons_succ])
        refine walk_nil ?_
        have hb2 : Hid (Below w.heap.size w w0.drew) := hb0.trans (hd1.below _)
        clear hc0 hc1 hc2 hc3 hma0 hmb0 hi0 hi1 hb0 hd1
        go_wp2_with fail
        go_ret2
        refine ⟨none, 0, ?_, ?_, hb2.out⟩
        · rw [prodE_bad (by rw [he.out]; simp), he.out]; rfl
        · rw [prodE_bad (by rw [he.out]; simp)]; exact Sl.nil
    · by_cases h0 : k = 0
      · subst h0
        by_cases hx : mchk a = 0
        · have ht4 := bne_zero hx
          have Hx := Lib.hid hx
          clear hx hka hkb
          go_wp2_with (go_at_call 16; refine (matCheck hma0).mono ?_; rintro e w' ⟨rfl, hw'⟩; obtain rfl : w0 = w' := hw'.symm)
          go_round
          case rel => exact ⟨1, by omega, by go_num, fun _ => Hx.out, fun h => by omega⟩
          case measure => simp [intOf]
        · have ht4 := bne_nz hx
          have he : Hid (prodErr a b = mchk a) := by show _ = _; unfold prodErr; rw [if_pos hx]
          have hnz : Hid (mchk a ≠ 0) := hx
          clear hx hka hkb
          go_wp2_with (go_at_call 16; refine (matCheck hma0).mono ?_; rintro e w' ⟨rfl, hw'⟩; obtain rfl : w0 = w' := hw'.symm)
          go_ret2
          refine ⟨none, 0, ?_, ?_, hb0⟩
          · rw [prodE_bad (by rw [he.out]; exact hnz.out), he.out]; rfl
          · rw [prodE_bad (by rw [he.out]; exact hnz.out)]; exact Sl.nil
      · obtain rfl : k = 1 := by omega
        have hxa := hka.out (by omega)
        by_cases hx : mchk b = 0
        · have ht4 := bne_zero hx
          have Hx := Lib.hid hx
          have Hxa := Lib.hid hxa
          clear hx hka hkb hxa
          go_wp2_with (go_at_call 16; refine (matCheck hmb0).mono ?_; rintro e w' ⟨rfl, hw'⟩; obtain rfl : w0 = w' := hw'.symm)
          go_round
          case rel => exact ⟨2, by omega, by go_num, fun _ => Hxa.out, fun _ => Hx.out⟩
          case measure => simp [intOf]
        · have ht4 := bne_nz hx
          have he : Hid (prodErr a b = mchk b) := by show _ = _; unfold prodErr; rw [if_neg (by rw [hxa]; simp), if_pos hx]
          have hnz : Hid (mchk b ≠ 0) := hx
          clear hx hka hkb hxa
          go_wp2_with (go_at_call 16; refine (matCheck hmb0).mono ?_; rintro e w' ⟨rfl, hw'⟩; obtain rfl : w0 = w' := hw'.symm)
          go_ret2
          refine ⟨none, 0, ?_, ?_, hb0⟩
          · rw [prodE_bad (by rw [he.out]; exact hnz.out), he.out]; rfl
          · rw [prodE_bad (by rw [he.out]; exact hnz.out)]; exact Sl.nil
end Go.Proofs.YtokclgjkdpjjfaaDoor
