/-
  The walks of the reference's Identity, Solve, Express.
-/
import Derived.Test.YtokclgjkdpjjfaaDoorWs
import Derived.Test.YtokclgjkdpjjfaaDoorWn
import Derived.Test.YtokclgjkdpjjfaaDoorWp
import Derived.Test.YtokclgjkdpjjfaaDoorAlg3
namespace Go.Proofs.YtokclgjkdpjjfaaDoor
open Go.RowKit Go.Q
variable {w : World} {S S' : Reg} {A A' : Option Addr} {cap cap' : Nat}
theorem identity_step (n i : Nat) (hi : i < n) : (identity n).take i ++ [(List.replicate n (0 : UInt8)).set i 1] = (identity n).take (i + 1) := by
  have hl : i < (identity n).length := by rw [identity_length]; exact hi
  rw [take_succ _ _ hl]
  congr 2
  simp [identity]
set_option maxHeartbeats 2000000 in
theorem refIdentity (n : Nat) (hn : n ≤ 1000) : Calls Tryd.prog 33 #[.int .i64 (n : Int)] w (GiveMat w (identity n)) := by
  obtain ⟨i5, hi5, hy0, hy1, hy2⟩ := info_parts info5
  obtain ⟨i43, hi43, hx0, hx1, hx2⟩ := info_parts info43
  go_enter Tryd.func33, Tryd.ntmps33
  go_wp2_with fail
  go_loopw [3, 4] (fun v k wr => ∃ i A1 cap1, i ≤ n ∧ k = .int .i64 (i : Int) ∧ v = .slice A1 i cap1 ∧ Hid (Own (slE u8E) (fun k => w.heap.size ≤ k) w.heap.size 43 wr A1 cap1 ((identity n).take i)) ∧ Below w.heap.size w wr) (fun _ k _ => n - (intOf k).toNat)
  case atStart => exact ⟨0, none, 0, by omega, rfl, rfl, Own.nil, Below.refl _ _⟩
  case round =>
    obtain ⟨i, A1, cap1, hi', rfl, rfl, hown, hbl⟩ := hrel
    obtain ⟨wx, hwx⟩ : ∃ wx : World, wx = wr := ⟨_, rfl⟩
    subst hwx
    by_cases hlt : i < n
    · have hlen : Hid (((identity n).take i).length = i) := by show _ = _; rw [List.length_take, identity_length]; omega
      have hstep := Lib.hid (identity_step n i hlt)
      have hszx := hbl.size
      go_wp2_with (at_make; refine wpList_make_cells rfl (.tmp 11) (.tmp 11) 43 rfl Tryd.underlying43 hi5 hy0 hy1 hy2 rfl rfl rfl (by omega) (Below.refl _ _) ?_; intro w4 hw4 hb4 hold4 hlt4; refine pause ?_)
      obtain ⟨g, hg⟩ : ∃ g, g = wx.heap.size := ⟨_, rfl⟩
      rw [← hg] at hw4 hlt4
      have hR0 : Raw8 w4 g (List.replicate n 0) := by unfold Raw8; rw [hw4, List.map_replicate]; rfl
      obtain ⟨hcg, hfg⟩ := hR0.at (i := i) (by simpa using hlt)
      have HR1 : Hid (Raw8 (w4.setCell ⟨g, i, none⟩ (u8v 1)) g ((List.replicate n (0 : UInt8)).set i 1)) := hR0.set i 1
      have hlv : Hid (((List.replicate n (0 : UInt8)).set i 1).length = n) := by show _ = _; simp
      have hb5 : Below wx.heap.size wx (w4.setCell ⟨g, i, none⟩ (u8v 1)) := hb4.setCell (by show wx.heap.size ≤ g; omega) _
      have hs5 : g < (w4.setCell ⟨g, i, none⟩ (u8v 1)).heap.size := by simpa [World.setCell] using hlt4
      have Hbytes := Lib.hid (HR1.out.bytes (by rw [hlv.out]; omega))
      rw [hlv.out] at Hbytes
      have hown5 := Lib.hid (hown.out.below hb5 (Nat.le_refl _))
      have hb6 := Lib.hid (hbl.trans (hb5.mono hszx))
      have hTA : Hid (∀ a, A1 = some a → ¬ a.block = g) := fun a ha hq => by
        obtain ⟨g', rfl, h1, h2⟩ := hown.out.block ha
        have hq' : g' = g := hq
        omega
      have Hg := Lib.hid hg
      have hlg : w.heap.size ≤ g := by omega
      rw [← hg]
      clear hg hw4 hold4 hR0 hb4 hb5 hown hbl HR1
      refine unpause ?_
      go_wp2_with (at_builtin; refine pause ?_)
      refine unpause ?_
      refine (wpList_append_boxN rfl (.tmp 16) (.tmp 18) 22 rfl rfl rfl (by simp [World.setCell]) Tryd.underlying22 hi43 hx0 hx1 hx2 rfl (by decide) hlen.out hown5.out hb6.out ((List.replicate n (0 : UInt8)).set i 1) (fun q => q = g) ⟨some ⟨g, 0, none⟩, n, by rw [hlv.out], Hbytes.out⟩ (fun q hq => ⟨by have h : q = g := hq; omega, by have h : q = g := hq; rw [h]; exact hs5⟩) hTA.out (by omega) ?_)
      intro A2 cap2 w7 hown7 hb7 _ _; refine pause ?_
      have hown8 : Hid _ := Lib.hid (hown7.cast hstep.out)
      clear hown7 hown5 hb6 hTA hcg hfg hs5 hlt4
      refine unpause ?_
      go_wp2
      go_roundw
      case rel => exact ⟨i + 1, A2, cap2, by omega, by go_num, rfl, hown8, hb7⟩
      case measure => simp [intOf]; omega
    · obtain rfl : i = n := by omega
      have hlen : Hid ((identity i).length = i) := identity_length
      have h1 : Rows8 (fresh w wx) wx A1 cap1 (identity i) := (hown.out.cast (show _ = identity i by rw [← hlen.out, List.take_of_length_le (by rw [hlen.out, hlen.out]; exact Nat.le_refl _), hlen.out])).sl (fun k hk h => ⟨by rcases h with h | h <;> exact h, hk⟩)
      have H1 := Lib.hid h1
      clear h1 hown
      go_wp2_with fail
      go_ret
      exact ⟨A1, cap1, by rw [hlen.out]; rfl, H1.out, hbl⟩
theorem GiveSolved.ends {w w1 w2 : World} {x : List UInt8} {k : List (List UInt8)} {A A' : Option Addr} {cap cap' : Nat} {er : Nat} {e : Ending} (hb0 : Below w.heap.size w w1) (hlt : w.heap.size < w1.heap.size) (hx : Bytes (fresh w1 w2) w2 A cap x) (hk : Rows8 (fresh w1 w2) w2 A' cap' k) (hb : Below w1.heap.size w1 w2) (u1 u2 u3 : Value)
    (he : e = .returned (.agg #[.slice A x.length cap, .slice A' k.length cap', .int .i64 (er : Int)])) : GiveSolved w x k er e (((w2.setCell ⟨w.heap.size, 0, none⟩ u1).setCell ⟨w.heap.size, 1, none⟩ u2).setCell ⟨w.heap.size, 2, none⟩ u3) := by
  have key : ∀ q, fresh w1 w2 q → q ≠ w.heap.size := fun q hq => by have := hq.1; omega
  have hin : ∀ q, fresh w1 w2 q → fresh w (((w2.setCell ⟨w.heap.size, 0, none⟩ u1).setCell ⟨w.heap.size, 1, none⟩ u2).setCell ⟨w.heap.size, 2, none⟩ u3) q := fun q hq => ⟨by have := hq.1; omega, by simpa [World.setCell] using hq.2⟩
  have hkeep : ∀ q, fresh w1 w2 q → (((w2.setCell ⟨w.heap.size, 0, none⟩ u1).setCell ⟨w.heap.size, 1, none⟩ u2).setCell ⟨w.heap.size, 2, none⟩ u3).heap[q]? = w2.heap[q]? := fun q hq => by
    rw [Below.heap_setCell _ _ _ _ (key q hq), Below.heap_setCell _ _ _ _ (key q hq), Below.heap_setCell _ _ _ _ (key q hq)]
  exact ⟨A, cap, A', cap', he, hx.stable hin hkeep, hk.stable hin hkeep, (((hb0.trans (hb.mono hb0.size)).setCell (Nat.le_refl _) _).setCell (Nat.le_refl _) _).setCell (Nat.le_refl _) _⟩
set_option maxHeartbeats 2000000 in
theorem refSolve {m : List (List UInt8)} {b : List UInt8} (hm : Rows8 S w A cap m) (hb : Bytes S' w A' cap' b) (hina : In S w) (hinb : In S' w) :
    Calls Tryd.prog 22 #[.slice A m.length cap, .slice A' b.length cap'] w (GiveSolved w (((solveR m b).map (·.1)).getD []) (((solveR m b).map (·.2)).getD []) (solveErr m b)) := by
  have hlm := hm.len
  have hlb := hb.len
  obtain ⟨w0, hw0⟩ : ∃ w0, w0 = w.alloc (.cells #[.slice none 0 0, .slice none 0 0, .int .i64 0] 47) := ⟨_, rfl⟩
  have hb0 : Below w.heap.size w w0 := by rw [hw0]; exact (Below.refl _ _).alloc (Nat.le_refl _) _
  have hsz0 : w0.heap.size = w.heap.size + 1 := by rw [hw0]; simp
  have hg0 : w0.heap[w.heap.size]? = some (.cells #[.slice none 0 0, .slice none 0 0, .int .i64 0] 47 (0, 0)) := by
    rw [hw0]; exact heap_alloc_new w _
  have hma0 := hm.below hb0 hina
  have hmb0 := Lib.hid (hb.below hb0 hinb)
  have hia := hina.below hb0
  have hib := hinb.below hb0
  have Hg0 := Lib.hid hg0
  have Hsz0 := Lib.hid hsz0
  clear hm hb hg0 hsz0 hina hinb
  go_enter Tryd.func22, Tryd.ntmps22
  go_wp2_with fail
  rw [← hw0]
  clear hw0
  refine (refCheck hma0).mono ?_
  rintro e w1 ⟨rfl, hd⟩
  have hb1 : Below w.heap.size w w1 := hb0.trans (hd.below _)
  have hlt1 : w.heap.size < w1.heap.size := by rw [hd.heap]; have := Hsz0.out; omega
  have hg1 : w1.heap[w.heap.size]? = some (.cells #[.slice none 0 0, .slice none 0 0, .int .i64 0] 47 (0, 0)) := by rw [hd.heap]; exact Hg0.out
  have hma1 := hma0.drew hd
  have Hmb1 := Lib.hid (hmb0.out.drew hd)
  have hia1 := hia.drew hd
  have hib1 := hib.drew hd
  obtain ⟨hc0, hf0⟩ := cells_at hg1 0 (by simp)
  obtain ⟨hc1, hf1⟩ := cells_at hg1 1 (by simp)
  obtain ⟨hc2, hf2⟩ := cells_at hg1 2 (by simp)
  simp only [List.getElem_toArray, List.getElem_cons_zero, List.getElem_cons_succ] at hc0 hc1 hc2
  have Hg1 := Lib.hid hg1
  clear hma0 hmb0 hd hb0 Hg0 Hsz0 hia hib hg1
  by_cases hx : mchk m = 0
  · have hv := mchk_valid.1 hx
    have hne : (((mchk m : Nat) : Int) != 0) = false := by rw [hx]; rfl
    have h1 := hv.rows
    have h2 := hv.colsle
    have Hrect : Hid (Rect m (cols m)) := hv.row
    have Hx := Lib.hid hx
    clear hx hv
    by_cases hl : b.length = m.length
    · have ht4 : ((b.length : Int) != (m.length : Int)) = false := by rw [hl]; simp
      have hr : Hid (solveR m b = solveM m b (cols m)) := if_pos ⟨Hx.out, hl⟩
      have he : Hid (solveErr m b = solEr (solveM m b (cols m))) := by
        show _ = _
        unfold solveErr
        rw [if_neg (by rw [Hx.out]; simp), if_neg (by simpa using hl)]; rfl
      have Hl := Lib.hid hl
      clear hl
      go_wp2_with fail
      refine (refColumns hma1).mono ?_
      rintro e w2 ⟨rfl, hw2⟩
      obtain rfl : w2 = w1 := hw2
      have hcall := Lib.hid (refSolutions Hrect.out Hl.out h1 h2 hma1 Hmb1.out hia1 hib1)
      clear hma1 hc0 hc1 hc2 hf0 hf1 hf2
      go_wp2_with fail
      refine hcall.out.mono ?_
      rintro e w3 ⟨A3, cap3, A4, cap4, rfl, hx3, hk3, hb3⟩
      have hg3 : w3.heap[w.heap.size]? = some (.cells #[.slice none 0 0, .slice none 0 0, .int .i64 0] 47 (0, 0)) := by rw [hb3.block _ hlt1]; exact Hg1.out
      obtain ⟨hc0, hf0⟩ := cells_at hg3 0 (by simp)
      obtain ⟨hc1, hf1⟩ := cells_at hg3 1 (by simp)
      obtain ⟨hc2, hf2⟩ := cells_at hg3 2 (by simp)
      simp only [List.getElem_toArray, List.getElem_cons_zero, List.getElem_cons_succ] at hc0 hc1 hc2
      have Hx3 := Lib.hid hx3
      have Hk3 := Lib.hid hk3
      have Hb3 := Lib.hid hb3
      clear hcall hx3 hk3 hb3 hg3
      generalize hsol : solveM m b (cols m) = sol at *
      clear hsol
      go_wp2_with fail
      refine bodyPost_ret (v := .agg #[.slice A3 ((sol.map (·.1)).getD []).length cap3, .slice A4 ((sol.map (·.2)).getD []).length cap4, .int .i64 (solEr sol : Nat)]) (by simp [results, Tryd.results22, go_sem, hc0, hc1, hc2]) rfl ?_
      rw [hr.out, he.out]
      exact GiveSolved.ends hb1 hlt1 Hx3.out Hk3.out Hb3.out _ _ _ rfl
    · have ht4 : ((b.length : Int) != (m.length : Int)) = true := by rw [bne_iff_ne]; omega
      have hr : Hid (solveR m b = none) := if_neg (fun h => hl h.2)
      have he : Hid (solveErr m b = 1) := by
        show _ = _
        unfold solveErr
        rw [if_neg (by rw [Hx.out]; simp), if_pos (by simpa using hl)]
      clear hl hma1
      go_wp2_with fail
      refine bodyPost_ret (v := .agg #[.slice none 0 0, .slice none 0 0, .int .i64 1]) (by simp [results, Tryd.results22, go_sem, hc0, hc1, hc2]) rfl ?_
      rw [hr.out, he.out]
      exact GiveSolved.ends hb1 hlt1 Sl.nil Sl.nil (Below.refl _ _) _ _ _ rfl
  · have hne : (((mchk m : Nat) : Int) != 0) = true := by rw [bne_iff_ne]; omega
    have hr : Hid (solveR m b = none) := if_neg (fun h => hx h.1)
    have he : Hid (solveErr m b = mchk m) := by
      show _ = _
      unfold solveErr
      rw [if_pos (by simpa using hx)]
    clear hx hma1
    go_wp2_with fail
    refine bodyPost_ret (v := .agg #[.slice none 0 0, .slice none 0 0, .int .i64 (mchk m : Nat)]) (by simp [results, Tryd.results22, go_sem, hc0, hc1, hc2]) rfl ?_
    rw [hr.out, he.out]
    exact GiveSolved.ends hb1 hlt1 Sl.nil Sl.nil (Below.refl _ _) _ _ _ rfl
/-- Bytes and an error, in a structure. -/
def GiveExpr (w : World) (x : List UInt8) (er : Nat) (e : Ending) (w' : World) : Prop :=
  ∃ A cap, e = .returned (.agg #[.slice A x.length cap, .int .i64 (er : Int)]) ∧ Bytes (fresh w w') w' A cap x ∧ Below w.heap.size w w'
theorem GiveExpr.ends {w w1 w2 : World} {x : List UInt8} {A : Option Addr} {cap : Nat} {er : Nat} {e : Ending} (hb0 : Below w.heap.size w w1) (hlt : w.heap.size < w1.heap.size) (hx : Bytes (fresh w1 w2) w2 A cap x) (hb : Below w1.heap.size w1 w2) (u1 u2 : Value)
    (he : e = .returned (.agg #[.slice A x.length cap, .int .i64 (er : Int)])) : GiveExpr w x er e ((w2.setCell ⟨w.heap.size, 0, none⟩ u1).setCell ⟨w.heap.size, 1, none⟩ u2) := by
  have key : ∀ q, fresh w1 w2 q → q ≠ w.heap.size := fun q hq => by have := hq.1; omega
  refine ⟨A, cap, he, hx.stable (fun q hq => ⟨by have := hq.1; omega, by simpa [World.setCell] using hq.2⟩) (fun q hq => ?_), ((hb0.trans (hb.mono hb0.size)).setCell (Nat.le_refl _) _).setCell (Nat.le_refl _) _⟩
  rw [Below.heap_setCell _ _ _ _ (key q hq), Below.heap_setCell _ _ _ _ (key q hq)]
theorem expr_col {m : List (List UInt8)} {n i : Nat} (hi : i < n) : (exprM m n).take i ++ [column m i] = (exprM m n).take (i + 1) := by
  have hl : i < (exprM m n).length := by unfold exprM; rw [gridM_length]; exact hi
  rw [take_succ _ _ hl]
  congr 2
  simp only [exprM, gridM, List.getElem_map, List.getElem_range, column]
  refine List.ext_getElem (by simp) fun k h1 h2 => ?_
  have hk : k < m.length := by simpa using h1
  simp only [List.getElem_map, List.getElem_range]
  rw [getD_lt m _ hk]
set_option maxHeartbeats 2000000 in
theorem refExpress {m : List (List UInt8)} {b : List UInt8} (hm : Rows8 S w A cap m) (hb : Bytes S' w A' cap' b) (hina : In S w) (hinb : In S' w) :
    Calls Tryd.prog 26 #[.slice A m.length cap, .slice A' b.length cap'] w (GiveExpr w (exprE m b) (exprErr m b)) := by
  obtain ⟨i43, hi43, hx0, hx1, hx2⟩ := info_parts info43
  have hlm := hm.len
  have hlb := hb.len
  obtain ⟨w0, hw0⟩ : ∃ w0, w0 = w.alloc (.cells #[.slice none 0 0, .int .i64 0] 52) := ⟨_, rfl⟩
  have hb0 : Below w.heap.size w w0 := by rw [hw0]; exact (Below.refl _ _).alloc (Nat.le_refl _) _
  have hsz0 : w0.heap.size = w.heap.size + 1 := by rw [hw0]; simp
  have hg0 : w0.heap[w.heap.size]? = some (.cells #[.slice none 0 0, .int .i64 0] 52 (0, 0)) := by
    rw [hw0]; exact heap_alloc_new w _
  have hma0 := hm.below hb0 hina
  have hmb0 := Lib.hid (hb.below hb0 hinb)
  have hia := hina.below hb0
  have hib := hinb.below hb0
  have Hg0 := Lib.hid hg0
  have Hsz0 := Lib.hid hsz0
  clear hm hb hg0 hsz0 hina hinb
  go_enter Tryd.func26, Tryd.ntmps26
  go_wp2_with fail
  rw [← hw0]
  clear hw0
  refine (refCheck hma0).mono ?_
  rintro e w1 ⟨rfl, hd⟩
  have hb1 : Below w.heap.size w w1 := hb0.trans (hd.below _)
  have hlt1 : w.heap.size < w1.heap.size := by rw [hd.heap]; have := Hsz0.out; omega
  have hg1 : w1.heap[w.heap.size]? = some (.cells #[.slice none 0 0, .int .i64 0] 52 (0, 0)) := by rw [hd.heap]; exact Hg0.out
  have hma1 := hma0.drew hd
  have Hmb1 := Lib.hid (hmb0.out.drew hd)
  have hia1 := hia.drew hd
  have hib1 := hib.drew hd
  obtain ⟨hc0, hf0⟩ := cells_at hg1 0 (by simp)
  obtain ⟨hc1, hf1⟩ := cells_at hg1 1 (by simp)
  simp only [List.getElem_toArray, List.getElem_cons_zero, List.getElem_cons_succ] at hc0 hc1
  have Hg1 := Lib.hid hg1
  clear hma0 hmb0 hd hb0 Hg0 Hsz0 hia hib hg1
  by_cases hx : mchk m = 0
  · have hv := mchk_valid.1 hx
    have hne : (((mchk m : Nat) : Int) != 0) = false := by rw [hx]; rfl
    have hr48 := hv.rows
    have hc48 := hv.colsle
    have Hrect : Hid (Rect m (cols m)) := hv.row
    have Hx := Lib.hid hx
    clear hx hv
    by_cases h48 : 48 < b.length
    · have ht4 : decide ((48 : Int) < (b.length : Int)) = true := by rw [decide_eq_true_eq]; omega
      have he : Hid (exprErr m b = 2) := by
        show _ = _
        unfold exprErr
        rw [if_neg (by rw [Hx.out]; simp), if_pos h48]
      have hE : Hid (exprE m b = []) := by show _ = _; unfold exprE; rw [he.out]; rfl
      clear hma1 h48
      go_wp2_with fail
      refine bodyPost_ret (v := .agg #[.slice none 0 0, .int .i64 2]) (by simp [results, Tryd.results26, go_sem, hc0, hc1]) rfl ?_
      rw [hE.out, he.out]
      exact GiveExpr.ends hb1 hlt1 Sl.nil (Below.refl _ _) _ _ rfl
    · have ht4 : decide ((48 : Int) < (b.length : Int)) = false := by rw [decide_eq_false_iff_not]; omega
      have hb48 : b.length ≤ 48 := by omega
      by_cases hbad : 0 < m.length ∧ b.length ≠ cols m
      · have ht5 : decide ((0 : Int) < (m.length : Int)) = true := by rw [decide_eq_true_eq]; omega
        have ht6 : ((b.length : Int) != (cols m : Int)) = true := by rw [bne_iff_ne]; have := hbad.2; omega
        have he : Hid (exprErr m b = 1) := by
          show _ = _
          unfold exprErr
          rw [if_neg (by rw [Hx.out]; simp), if_neg h48, if_pos hbad]
        have hE : Hid (exprE m b = []) := by show _ = _; unfold exprE; rw [he.out]; rfl
        have hpos : 0 < m.length := hbad.1
        clear h48 hbad
        go_wp2_with fail
        refine (refColumns hma1).mono ?_
        rintro e w2 ⟨rfl, hw2⟩
        obtain rfl : w2 = w1 := hw2
        clear hma1
        go_wp2_with fail
        refine bodyPost_ret (v := .agg #[.slice none 0 0, .int .i64 1]) (by simp [results, Tryd.results26, go_sem, hc0, hc1]) rfl ?_
        rw [hE.out, he.out]
        exact GiveExpr.ends hb1 hlt1 Sl.nil (Below.refl _ _) _ _ rfl
      · have he : Hid (exprErr m b = solEr (exprS m b)) := by
          show _ = _
          unfold exprErr
          rw [if_neg (by rw [Hx.out]; simp), if_neg h48, if_neg hbad]; rfl
        have Hbc : Hid (0 < m.length → b.length = cols m) := fun h => Decidable.byContradiction fun h2 => hbad ⟨h, h2⟩
        clear hbad h48
        have htests : (decide (0 < m.length) = true ∧ ((b.length : Int) != (cols m : Int)) = false) ∨ decide (0 < m.length) = false := by
          by_cases hpos : 0 < m.length
          · exact .inl ⟨by simpa using hpos, by rw [Hbc.out hpos]; simp⟩
          · exact .inr (by simpa using hpos)
        have Hel : Hid ((exprM m b.length).length = b.length) := gridM_length _ _ _
        rcases htests with ⟨ht5, ht6⟩ | ht5
        go_wp2_with fail
        refine (refColumns hma1).mono ?_
        rintro e w2 ⟨rfl, hw2⟩
        obtain rfl : w1 = w2 := hw2.symm
        go_wp2_with fail
        clear ht6
        rotate_left
        go_wp2_with fail
        rotate_left
        all_goals
          clear hc0 hc1 hf0 hf1
          go_loopw [6, 7] (fun v k wr => ∃ i A1 cap1, i ≤ b.length ∧ k = .int .i64 (i : Int) ∧ v = .slice A1 i cap1 ∧ Hid (Own (slE u8E) (fun k => w1.heap.size ≤ k) w1.heap.size 43 wr A1 cap1 ((exprM m b.length).take i)) ∧ Below w1.heap.size w1 wr) (fun _ k _ => b.length - (intOf k).toNat)
          case atStart => exact ⟨0, none, 0, by omega, rfl, rfl, Own.nil, Below.refl _ _⟩
          case round =>
            obtain ⟨i, A1, cap1, hi', rfl, rfl, hown, hbl⟩ := hrel
            have hmr := hma1.below hbl hia1
            have hinr : In S wr := hia1.below hbl
            clear hma1
            by_cases hlt : i < b.length
            · have hlen : Hid (((exprM m b.length).take i).length = i) := by show _ = _; rw [List.length_take, Hel.out]; omega
              have hstep := Lib.hid (expr_col (m := m) hlt)
              go_wp2_with fail
              refine (refColumn i (fun x hx => by rw [Hrect.out x hx, ← Hbc.out (by cases m with | nil => cases hx | cons _ _ => simp)]; exact hlt) (by omega) hmr hinr).mono ?_
              rintro e w2 ⟨A4, cap4, rfl, hS4, hb4⟩
              have hlc : (column m i).length = m.length := by simp [column]
              have hlc' := Lib.hid hlc
              have hsz2 := hbl.size
              have hTA : Hid (∀ a, A1 = some a → ¬ fresh wr w2 a.block) := fun a ha hk => by
                obtain ⟨g, rfl, h1, h2⟩ := hown.out.block ha
                exact Nat.lt_irrefl _ (Nat.lt_of_lt_of_le h2 hk.1)
              have hownz := Lib.hid (hown.out.below hb4 (Nat.le_refl _))
              have hbz := Lib.hid (hbl.trans (hb4.mono hsz2))
              have HS4 := Lib.hid hS4
              rw [hlc]
              clear hlc hown hbl hb4 hS4 hmr
              go_wp2_with (at_builtin; refine wpList_append_box rfl (.tmp 36) (.tmp 40) 22 rfl rfl rfl Tryd.underlying22 hi43 hx0 hx1 hx2 rfl (by decide) hlen.out hownz.out hbz.out (column m i) (fresh _ w2) ⟨A4, cap4, by rw [hlc'.out], HS4.out⟩ (fun k hk => ⟨by have := hk.1; omega, hk.2⟩) hTA.out (by omega) ?_; intro A2 cap2 w3 hown2 hb2 _ _; refine pause ?_)
              have hown3 : Hid _ := Lib.hid (hown2.cast hstep.out)
              clear hown2 hownz hbz hTA HS4
              refine unpause ?_
              go_wp2
              go_roundw
              case rel => exact ⟨i + 1, A2, cap2, by omega, by go_num, rfl, hown3, hb2⟩
              case measure => simp [intOf]; omega
            · obtain rfl : i = b.length := by omega
              have hrows : Hid (Rows8 (fresh w1 wr) wr A1 cap1 (exprM m b.length)) := (hown.out.cast (show _ = exprM m b.length by rw [List.take_of_length_le (by rw [Hel.out]; exact Nat.le_refl _)])).sl (fun k hk h => ⟨by rcases h with h | h <;> exact h, hk⟩)
              have hbr := Hmb1.out.below hbl hib1
              have hcall := refSolutions (m := exprM m b.length) (b := b) (u := m.length) (gridM_rect _ _ _) Hel.out.symm (by rw [Hel.out]; exact hb48) hr48 hrows.out hbr fresh_in (hib1.below hbl)
              rw [Hel.out] at hcall
              have Hcall : Hid (Calls Tryd.prog 43 #[.slice A1 b.length cap1, .slice A' b.length cap', .int .i64 (m.length : Int)] wr (GiveSolved wr (((exprS m b).map (·.1)).getD []) (((exprS m b).map (·.2)).getD []) (solEr (exprS m b)))) := hcall
              have hbw := Lib.hid (hb1.trans (hbl.mono (by omega)))
              have hltr : w.heap.size < wr.heap.size := by have := hbl.size; omega
              have Hgr : Hid (wr.heap[w.heap.size]? = some (.cells #[.slice none 0 0, .int .i64 0] 52 (0, 0))) := by show _ = _; rw [hbl.block _ hlt1]; exact Hg1.out
              have hE : Hid (exprE m b = ((exprS m b).map (·.1)).getD []) := by
                show _ = _
                unfold exprE
                rw [he.out]
                cases exprS m b with
                | none => rfl
                | some s => rfl
              clear hcall hown hrows hbr hbl hmr
              go_wp2_with fail
              refine Hcall.out.mono ?_
              rintro e w2 ⟨A3, cap3, A4, cap4, rfl, hx3, _, hb3⟩
              have hg3 : w2.heap[w.heap.size]? = some (.cells #[.slice none 0 0, .int .i64 0] 52 (0, 0)) := by rw [hb3.block _ hltr]; exact Hgr.out
              have hg4 : (w2.alloc (.cells #[.slice A3 ((((exprS m b).map (·.1)).getD []).length) cap3, .slice A4 ((((exprS m b).map (·.2)).getD []).length) cap4, .int .i64 (solEr (exprS m b) : Nat)] 47)).heap[w.heap.size]? = some (.cells #[.slice none 0 0, .int .i64 0] 52 (0, 0)) := by
                rw [Below.heap_alloc _ _ _ (by have := hb3.size; omega)]; exact hg3
              obtain ⟨hc0, hf0⟩ := cells_at hg4 0 (by simp)
              obtain ⟨hc1, hf1⟩ := cells_at hg4 1 (by simp)
              simp only [List.getElem_toArray, List.getElem_cons_zero, List.getElem_cons_succ] at hc0 hc1
              have hszz := hb3.size
              have Hx3 := Lib.hid hx3
              have Hb3 := Lib.hid hb3
              clear Hcall hx3 hb3 hg3 hg4 Hgr
              generalize exprS m b = sol at *
              go_wp2_with fail
              refine bodyPost_ret (v := .agg #[.slice A3 ((sol.map (·.1)).getD []).length cap3, .int .i64 (solEr sol : Nat)]) (by simp [results, Tryd.results26, go_sem, hc0, hc1]) rfl ?_
              rw [hE.out, he.out]
              refine GiveExpr.ends hbw.out hltr (Hx3.out.stable (fun q hq => ⟨hq.1, by have := hq.2; simp; omega⟩) (fun q hq => Below.heap_alloc _ _ _ hq.2)) (Hb3.out.alloc hszz _) _ _ rfl
  · have hne : (((mchk m : Nat) : Int) != 0) = true := by rw [bne_iff_ne]; omega
    have he : Hid (exprErr m b = mchk m) := by
      show _ = _
      unfold exprErr
      rw [if_pos hx]
    have hE : Hid (exprE m b = []) := by show _ = _; unfold exprE; rw [if_neg (by rw [he.out]; exact hx)]
    clear hx hma1
    go_wp2_with fail
    refine bodyPost_ret (v := .agg #[.slice none 0 0, .int .i64 (mchk m : Nat)]) (by simp [results, Tryd.results26, go_sem, hc0, hc1]) rfl ?_
    rw [hE.out, he.out]
    exact GiveExpr.ends hb1 hlt1 Sl.nil (Below.refl _ _) _ _ rfl
end Go.Proofs.YtokclgjkdpjjfaaDoor
