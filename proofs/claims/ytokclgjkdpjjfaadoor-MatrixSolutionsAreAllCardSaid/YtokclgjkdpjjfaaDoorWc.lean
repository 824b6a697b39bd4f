/-
  The walks of the reference's functions of layer 5 that make matrices, with an error.
-/
import Derived.Test.YtokclgjkdpjjfaaDoorWb
namespace Go.Proofs.YtokclgjkdpjjfaaDoor
open Go.RowKit Go.Q
variable {w : World} {S S' : Reg} {A A' : Option Addr} {cap cap' : Nat}
/-- A new matrix, or an error. -/
def GiveMade (w : World) (ys : List (List UInt8)) (x : Nat) (e : Ending) (w' : World) : Prop :=
  ∃ A cap, e = .returned (.agg #[.slice A ys.length cap, .int .i64 (x : Int)]) ∧ Rows8 (fresh w w') w' A cap ys ∧ Below w.heap.size w w'
theorem transpose_step (m : List (List UInt8)) (i : Nat) (hi : i < cols m) : (transpose m).take i ++ [column m i] = (transpose m).take (i + 1) := by
  have hl : i < (transpose m).length := by simpa [transpose] using hi
  rw [take_succ _ _ hl]
  congr 2
  simp [transpose]
set_option maxHeartbeats 1000000 in
theorem refTransposeBad {m : List (List UInt8)} (hm : Rows8 S w A cap m) (hin : In S w) (hx : mchk m ≠ 0) :
    Calls Tryd.prog 17 #[.slice A m.length cap] w (GiveMade w [] (mchk m)) := by
  have hl := hm.len
  have hne : (((mchk m : Nat) : Int) != 0) = true := by rw [bne_iff_ne]; omega
  go_enter Tryd.func17, Tryd.ntmps17
  go_wp2_with fail
  refine (refCheck (hm.stable (fun _ h => h) (fun k hk => Below.heap_alloc _ _ _ (hin k hk)))).mono ?_
  rintro e w' ⟨rfl, hd⟩
  have hb : Below (w.heap.size + 1) (w.alloc (.cells #[.slice none 0 0, .int .i64 0] 35)) w' := hd.below _
  have hg := below_new hb (by omega)
  obtain ⟨hc0, hf0⟩ := cells_at hg 0 (by simp)
  obtain ⟨hc1, hf1⟩ := cells_at hg 1 (by simp)
  simp only [List.getElem_toArray, List.getElem_cons_zero, List.getElem_cons_succ] at hc0 hc1
  clear hm hg
  go_wp2_with fail
  refine bodyPost_ret (v := .agg #[.slice none 0 0, .int .i64 (mchk m : Nat)]) (by simp [results, Tryd.results17, go_sem, hc0, hc1]) rfl ⟨none, 0, rfl, Sl.nil, ?_⟩
  exact ((((Below.refl _ _).alloc (Nat.le_refl _) _).trans (hb.mono (Nat.le_succ _))).setCell (Nat.le_refl _) _).setCell (Nat.le_refl _) _
theorem GiveBytes.size {w w' : World} {ys e} (h : GiveBytes w ys e w') : w.heap.size ≤ w'.heap.size := by
  obtain ⟨_, _, _, _, hb⟩ := h; exact hb.size
set_option maxHeartbeats 1000000 in
theorem refTransposeGood {m : List (List UInt8)} (hm : Rows8 S w A cap m) (hin : In S w) (hv : Valid m) :
    Calls Tryd.prog 17 #[.slice A m.length cap] w (GiveMade w (transpose m) 0) := by
  obtain ⟨i0, hi, hz0, hz1, hz2⟩ := info_parts info43
  have hl := hm.len
  have hx : mchk m = 0 := mchk_valid.2 hv
  have hc48 := hv.colsle
  have hr48 := hv.rows
  have hrow := Lib.hid hv.row
  clear hv
  go_enter Tryd.func17, Tryd.ntmps17
  go_wp2_with fail
  refine (refCheck (hm.stable (fun _ h => h) (fun k hk => Below.heap_alloc _ _ _ (hin k hk)))).mono ?_
  rw [hx]
  rintro e w' ⟨rfl, hd⟩
  have hb : Below (w.heap.size + 1) (w.alloc (.cells #[.slice none 0 0, .int .i64 0] 35)) w' := hd.below _
  have hw0 : Below w.heap.size w w' := ((Below.refl _ _).alloc (Nat.le_refl _) _).trans (hb.mono (Nat.le_succ _))
  have hg : Hid (w'.heap[w.heap.size]? = some (.cells #[.slice none 0 0, .int .i64 0] 35 (0, 0))) := below_new hb (by omega)
  have hsz : w.heap.size < w'.heap.size := by have := hb.size; simp at this; omega
  have hm' := hm.below hw0 hin
  have hin' : In S w' := hin.below hw0
  clear hm hin hd hx hb
  go_wp2_with fail
  go_loopw [4, 5] (fun v k wr => ∃ i A1 cap1, i ≤ cols m ∧ k = .int .i64 (i : Int) ∧ v = .slice A1 i cap1 ∧ Hid (Own (slE u8E) (fun k => w'.heap.size ≤ k) w'.heap.size 43 wr A1 cap1 ((transpose m).take i)) ∧ Below w'.heap.size w' wr) (fun _ k _ => cols m - (intOf k).toNat)
  case atStart => exact ⟨0, none, 0, by omega, rfl, rfl, Own.nil, Below.refl _ _⟩
  case round =>
    obtain ⟨i, A1, cap1, hi', rfl, rfl, hown, hbl⟩ := hrel
    have hmr := hm'.below hbl hin'
    have hinr : In S wr := hin'.below hbl
    by_cases hlt : i < cols m
    · have hlen : Hid (((transpose m).take i).length = i) := by show _ = _; simp [transpose]; omega
      have hstep := Lib.hid (transpose_step m i hlt)
      clear hm'
      go_wp2_with (go_at_call 30; refine (refColumns hmr).mono ?_; rintro e w2 ⟨rfl, rfl⟩)
      refine (refColumn i (fun x hx => by rw [hrow.out x hx]; exact hlt) (by omega) hmr hinr).mono ?_
      rintro e w2 ⟨A4, cap4, rfl, hS4, hb4⟩
      have hlc : (column m i).length = m.length := by simp [column]
      have hlc' := Lib.hid hlc
      have hsz2 := hbl.size
      rw [hlc]
      clear hlc
      go_wp2_with (at_builtin; refine wpList_append_box rfl (.tmp 18) (.tmp 22) 22 rfl rfl rfl Tryd.underlying22 hi hz0 hz1 hz2 rfl (by decide) hlen.out (hown.out.below hb4 (Nat.le_refl _)) (hbl.trans (hb4.mono hsz2)) (column m i) (fresh _ w2) ⟨A4, cap4, by rw [hlc'.out], hS4⟩ (fun k hk => ⟨by have := hk.1; omega, hk.2⟩) ?c1 (by omega) ?_; rotate_left; intro A2 cap2 w3 hown2 hb2 _ _)
      case c1 =>
        intro a ha hk
        obtain ⟨g, rfl, h1, h2⟩ := hown.out.block ha
        exact Nat.lt_irrefl _ (Nat.lt_of_lt_of_le h2 hk.1)
      have hown3 : Hid _ := Lib.hid (hown2.cast hstep.out)
      clear hown hown2 hbl hb4
      go_wp2
      go_roundw
      case rel => exact ⟨i + 1, A2, cap2, by omega, by go_num, rfl, hown3, hb2⟩
      case measure => simp [intOf]; omega
    · obtain rfl : i = cols m := by omega
      have hlen : Hid ((transpose m).length = cols m) := by show _ = _; simp [transpose]
      have hown2 := Lib.hid (hown.out.cast (by rw [← hlen.out, List.take_length]) : Own (slE u8E) (fun k => w'.heap.size ≤ k) w'.heap.size 43 wr A1 cap1 (transpose m))
      have hg2 : wr.heap[w.heap.size]? = some (.cells #[.slice none 0 0, .int .i64 0] 35 (0, 0)) := by rw [hbl.block _ hsz]; exact hg.out
      obtain ⟨hc0, hf0⟩ := cells_at hg2 0 (by simp)
      obtain ⟨hc1, hf1⟩ := cells_at hg2 1 (by simp)
      simp only [List.getElem_toArray, List.getElem_cons_zero, List.getElem_cons_succ] at hc0 hc1
      clear hg2 hm' hown
      go_wp2_with (go_at_call 30; refine (refColumns hmr).mono ?_; rintro e w2 ⟨rfl, rfl⟩)
      have hszr := hbl.size
      refine bodyPost_ret (v := .agg #[.slice A1 (cols m) cap1, .int .i64 0]) (by simp [results, Tryd.results17, go_sem, hc0, hc1]) rfl ⟨A1, cap1, by rw [hlen.out]; rfl, ?_, ?_⟩
      · have h1 : Rows8 (fun k => w'.heap.size ≤ k ∧ k < w2.heap.size) w2 A1 cap1 (transpose m) := hown2.out.sl (fun k hk h => ⟨by rcases h with h | h <;> exact h, hk⟩)
        refine h1.stable (fun k hk => ⟨by have := hk.1; omega, by simpa [World.setCell] using hk.2⟩) (fun k hk => ?_)
        have hne : k ≠ w.heap.size := by have := hk.1; omega
        rw [Below.heap_setCell _ _ _ _ hne, Below.heap_setCell _ _ _ _ hne]
      · exact ((hw0.trans (hbl.mono (by omega))).setCell (Nat.le_refl _) _).setCell (Nat.le_refl _) _
end Go.Proofs.YtokclgjkdpjjfaaDoor
