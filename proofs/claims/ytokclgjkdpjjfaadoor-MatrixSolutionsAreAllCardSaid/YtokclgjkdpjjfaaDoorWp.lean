/-
  The walk of matrix.Express.
-/
import Derived.Test.YtokclgjkdpjjfaaDoorWm
import Derived.Test.YtokclgjkdpjjfaaDoorWi
namespace Go.Proofs.YtokclgjkdpjjfaaDoor
open Go.RowKit Go.Q
variable {w : World} {S S' : Reg} {A A' : Option Addr} {cap cap' : Nat}
/-- The rows as columns. -/
def exprM (rows : List (List UInt8)) (n : Nat) : List (List UInt8) := gridM n rows.length (fun i k => (rows.getD k []).getD i 0)
def exprS (rows : List (List UInt8)) (row : List UInt8) : Option (List UInt8 × List (List UInt8)) := solveM (exprM rows row.length) row rows.length
def exprErr (rows : List (List UInt8)) (row : List UInt8) : Nat :=
  if mchk rows ≠ 0 then mchk rows else if 48 < row.length then 2 else if 0 < rows.length ∧ row.length ≠ cols rows then 1 else if (exprS rows row).isSome then 0 else 8
/-- What Express gives. -/
def exprE (rows : List (List UInt8)) (row : List UInt8) : List UInt8 := if exprErr rows row = 0 then ((exprS rows row).map (·.1)).getD [] else []
/-- Bytes and an error. -/
def GiveBytesE (w : World) (x : List UInt8) (er : Nat) (e : Ending) (w' : World) : Prop :=
  ∃ A cap, e = .returned (.tuple #[.slice A x.length cap, .int .i64 (er : Int)]) ∧ Bytes (fresh w w') w' A cap x ∧ Below w.heap.size w w'
set_option maxHeartbeats 2000000 in
theorem matExpress {m : List (List UInt8)} {b : List UInt8} (hm : Rows8 S w A cap m) (hb : Bytes S' w A' cap' b) (hin : In S w) (hinb : In S' w) (ht : TabAt w) :
    Calls Tryd.prog 25 #[.slice A m.length cap, .slice A' b.length cap'] w (GiveBytesE w (exprE m b) (exprErr m b)) := by
  have hlm := hm.len
  have hlb := hb.len
  obtain ⟨w0, hw0⟩ : ∃ w0, w0 = w.alloc (.cells #[.slice A m.length cap] 22) := ⟨_, rfl⟩
  have hb0 : Below w.heap.size w w0 := by rw [hw0]; exact (Below.refl _ _).alloc (Nat.le_refl _) _
  have hsz0 : w0.heap.size = w.heap.size + 1 := by rw [hw0]; simp
  have hg0 : w0.heap[w.heap.size]? = some (.cells #[.slice A m.length cap] 22 (0, 0)) := by
    rw [hw0]; exact heap_alloc_new w _
  obtain ⟨hc0, _⟩ := cells_at hg0 0 (by simp)
  simp only [List.getElem_toArray, List.getElem_cons_zero] at hc0
  have hm0 := hm.below hb0 hin
  have hbb0 := Lib.hid (hb.below hb0 hinb)
  have Hg0 := Lib.hid hg0
  have Hsz0 := Lib.hid hsz0
  have hia := hin.below hb0
  have hib := hinb.below hb0
  have ht0 : TabAt w0 := ht.below hb0 ht.1
  clear hm hb hg0 hsz0 hin hinb ht
  go_enter Tryd.func25, Tryd.ntmps25
  go_wp2_with fail
  rw [← hw0]
  clear hw0
  refine (matCheck hm0).mono ?_
  rintro e w1 ⟨rfl, hw1⟩
  obtain rfl : w0 = w1 := hw1.symm
  by_cases hx : mchk m = 0
  · have hv := mchk_valid.1 hx
    have hne : (((mchk m : Nat) : Int) != 0) = false := by rw [hx]; rfl
    have hr48 := hv.rows
    have hc48 := hv.colsle
    have Hrect : Hid (Rect m (cols m)) := hv.row
    have Hx := Lib.hid hx
    clear hx hv
    by_cases h48 : 48 < b.length
    · have ht4 : decide ((48 : Int) < (b.length : Int)) = true := by rw [decide_eq_true_eq]; omega
      have he : Hid (exprErr m b = 2) := by
        show _ = _
        unfold exprErr
        rw [if_neg (by rw [Hx.out]; simp), if_pos h48]
      have hE : Hid (exprE m b = []) := by show _ = _; unfold exprE; rw [he.out]; rfl
      clear hm0 h48
      go_wp2_with fail
      go_ret2
      exact ⟨none, 0, by rw [hE.out, he.out]; rfl, by rw [hE.out]; exact Sl.nil, hb0⟩
    · have ht4 : decide ((48 : Int) < (b.length : Int)) = false := by rw [decide_eq_false_iff_not]; omega
      have hb48 : b.length ≤ 48 := by omega
      by_cases hbad : 0 < m.length ∧ b.length ≠ cols m
      · have ht5 : decide ((0 : Int) < (m.length : Int)) = true := by rw [decide_eq_true_eq]; omega
        have ht6 : ((b.length : Int) != (cols m : Int)) = true := by rw [bne_iff_ne]; have := hbad.2; omega
        have he : Hid (exprErr m b = 1) := by
          show _ = _
          unfold exprErr
          rw [if_neg (by rw [Hx.out]; simp), if_neg h48, if_pos hbad]
        have hE : Hid (exprE m b = []) := by show _ = _; unfold exprE; rw [he.out]; rfl
        have hpos : 0 < m.length := hbad.1
        clear h48 hbad
        go_wp2_with fail
        refine (matColumns hm0).mono ?_
        rintro e w1 ⟨rfl, hw1⟩
        obtain rfl : w0 = w1 := hw1.symm
        clear hm0
        go_wp2_with fail
        go_ret2
        exact ⟨none, 0, by rw [hE.out, he.out]; rfl, by rw [hE.out]; exact Sl.nil, hb0⟩
      · have he : Hid (exprErr m b = if (exprS m b).isSome then 0 else 8) := by
          show _ = _
          unfold exprErr
          rw [if_neg (by rw [Hx.out]; simp), if_neg h48, if_neg hbad]
        have Hbc : Hid (0 < m.length → b.length = cols m) := fun h => Decidable.byContradiction fun h2 => hbad ⟨h, h2⟩
        clear hbad h48
        by_cases hpos : 0 < m.length
        · have ht5 : decide ((0 : Int) < (m.length : Int)) = true := by rw [decide_eq_true_eq]; omega
          have ht6 : ((b.length : Int) != (cols m : Int)) = false := by rw [Hbc.out hpos]; simp
          go_wp2_with fail
          refine (matColumns hm0).mono ?_
          rintro e w1 ⟨rfl, hw1⟩
          obtain rfl : w0 = w1 := hw1.symm
          go_wp2_with fail
          refine wp_region_walk [0,0,1,0,0,2,0,1,0,2,0,0,0,0,2,2,2] [0,1,2,3,4,6,7,8,5,9,10,11,12,13,14,15,16] (fun w' => w'.cell? ⟨w.heap.size, 0, none⟩ = some (.slice A m.length cap)) rfl (by kernel_rfl) rfl (by kernel_rfl) (fun _ d _ _ _ h => by cases d <;> exact h) hc0 ?_
          repeat ((first | (apply walk_pure rfl rfl rfl; (intro w'; go_simp; rfl)) | (apply walk_read rfl rfl rfl; (rintro w' hs1; go_simp; rfl))); simp only [Act.put, List.getElem_toArray, List.getElem_cons_zero, List.getElem_cons_succ, List.setIfInBounds_toArray, List.set_cons_zero, List.set_cons_succ])
          refine walk_op rfl rfl rfl (fun K hK => ?_)
          go_simp
          have hd : Below w0.heap.size w0 w0.drew := (Drew.one w0).below _
          refine (matGrid b.length m.length 46 #[.pointer (some ⟨w.heap.size, 0, none⟩)] (fun i k => (m.getD k []).getD i 0) (by omega) (by omega) Tryd.call46 ?_).mono ?_
          · intro i k hi hk w' hb'
            have hb2 : Below w0.heap.size w0 w' := hd.trans hb'
            refine matAt46 i k hk (by rw [Hrect.out.getD hk, ← Hbc.out (by omega)]; exact hi) ?_ (hm0.below hb2 hia)
            rw [World.cell?_of_block (w := w0) (hb2.block (w.heap.size) (by have := Hsz0.out; omega))]; exact hc0
          · rintro e w2 ⟨A1, cap1, rfl, hS1, hb2⟩
            have hb3 : Below w0.heap.size w0 w2 := hd.trans hb2
            have hc2 : w2.cell? ⟨w.heap.size, 0, none⟩ = some (.slice A m.length cap) := by
              rw [World.cell?_of_block (w := w0) (hb3.block (w.heap.size) (by have := Hsz0.out; omega))]; exact hc0
            refine hK _ _ (fun _ => hc2) ?_
            clear hK K
            have hl1 : (gridM b.length m.length (fun i k => (m.getD k []).getD i 0)).length = b.length := gridM_length _ _ _
            have hbw2 : Hid (Below w.heap.size w w2) := hb0.trans (hb3.mono (by have := Hsz0.out; omega))
            have ht2 : TabAt w2 := ht0.below hb3 ht0.1
            have hbb2 := Lib.hid (hbb0.out.below hb3 hib)
            have hib2 := hib.below hb3
            have hin2 : In (fresh w0.drew w2) w2 := fun k hk => hk.2
            have hcore := matSolveCore (gridM_rect b.length m.length (fun i k => (m.getD k []).getD i 0)) hl1.symm (by rw [hl1]; exact hb48) hr48 hS1 hbb2.out hin2 hib2 ht2
            rw [hl1] at hcore
            have Hcore : Hid (Calls Tryd.prog 42 #[.slice A1 b.length cap1, .slice A' b.length cap', .int .i64 (m.length : Int)] w2 (GiveSol w2 (exprS m b))) := hcore
            rw [hl1]
            clear hcore hl1 hS1 hbb2 hib2 hin2 ht2 hb3 hb2 hd hm0 hc0 hia hib ht0 hb0 hbb0 Hrect
            have hexpr : Hid (exprE m b = if exprErr m b = 0 then ((exprS m b).map (·.1)).getD [] else []) := rfl
            generalize exprS m b = sol at *
            refine walk_free rfl rfl rfl (by kernel_rfl) (fun K hK => ?_)
            go_simp
            refine Hcore.out.mono ?_
            rintro e w3 ⟨A2, cap2, A3, cap3, rfl, hx1, hx2, hb4⟩
            refine hK _ _ ?_
            clear hK K
            repeat ((apply walk_pure rfl rfl rfl; (intro w'; go_simp; rfl)); simp only [Act.put, List.getElem_toArray, List.getElem_cons_zero, List.getElem_cons_succ, List.setIfInBounds_toArray, List.set_cons_zero, List.set_cons_succ])
            refine walk_rest 14 (by kernel_rfl) rfl ?_
            simp only [List.drop_succ_cons, List.drop_zero]
            have hlx1 := hx1.len
            have hlx2 := hx2.len
            have hszz := hbw2.out.size
            have Hx1 := Lib.hid (hx1.mono (fresh_trans hszz))
            have hb5 := Lib.hid (hbw2.out.trans (hb4.mono hszz))
            clear Hcore hx1 hx2 hb4
            cases sol with
            | none =>
              have he2 : Hid (exprErr m b = 8) := he.out
              have hE : Hid (exprE m b = []) := by show _ = _; rw [hexpr.out, he2.out]; rfl
              simp only [Option.map_none, Option.getD_none, Option.isSome_none] at *
              clear he hexpr
              go_wp2_with fail
              go_ret2
              exact ⟨none, 0, by rw [hE.out, he2.out]; rfl, by rw [hE.out]; exact Sl.nil, hb5.out⟩
            | some s =>
              have he2 : Hid (exprErr m b = 0) := he.out
              have hE : Hid (exprE m b = s.1) := by show _ = _; rw [hexpr.out, he2.out]; rfl
              simp only [Option.map_some, Option.getD_some, Option.isSome_some] at *
              clear he hexpr
              go_wp2_with fail
              go_ret2
              exact ⟨A2, cap2, by rw [hE.out, he2.out]; rfl, by rw [hE.out]; exact Hx1.out, hb5.out⟩
        · have ht5 : decide ((0 : Int) < (m.length : Int)) = false := by rw [decide_eq_false_iff_not]; omega
          go_wp2_with fail
          refine wp_region_walk [0,0,1,0,0,2,0,1,0,2,0,0,0,0,2,2,2] [0,1,2,3,4,6,7,8,5,9,10,11,12,13,14,15,16] (fun w' => w'.cell? ⟨w.heap.size, 0, none⟩ = some (.slice A m.length cap)) rfl (by kernel_rfl) rfl (by kernel_rfl) (fun _ d _ _ _ h => by cases d <;> exact h) hc0 ?_
          repeat ((first | (apply walk_pure rfl rfl rfl; (intro w'; go_simp; rfl)) | (apply walk_read rfl rfl rfl; (rintro w' hs1; go_simp; rfl))); simp only [Act.put, List.getElem_toArray, List.getElem_cons_zero, List.getElem_cons_succ, List.setIfInBounds_toArray, List.set_cons_zero, List.set_cons_succ])
          refine walk_op rfl rfl rfl (fun K hK => ?_)
          go_simp
          have hd : Below w0.heap.size w0 w0.drew := (Drew.one w0).below _
          refine (matGrid b.length m.length 46 #[.pointer (some ⟨w.heap.size, 0, none⟩)] (fun i k => (m.getD k []).getD i 0) (by omega) (by omega) Tryd.call46 ?_).mono ?_
          · intro i k hi hk w' hb'
            have hb2 : Below w0.heap.size w0 w' := hd.trans hb'
            refine matAt46 i k hk (by rw [Hrect.out.getD hk, ← Hbc.out (by omega)]; exact hi) ?_ (hm0.below hb2 hia)
            rw [World.cell?_of_block (w := w0) (hb2.block (w.heap.size) (by have := Hsz0.out; omega))]; exact hc0
          · rintro e w2 ⟨A1, cap1, rfl, hS1, hb2⟩
            have hb3 : Below w0.heap.size w0 w2 := hd.trans hb2
            have hc2 : w2.cell? ⟨w.heap.size, 0, none⟩ = some (.slice A m.length cap) := by
              rw [World.cell?_of_block (w := w0) (hb3.block (w.heap.size) (by have := Hsz0.out; omega))]; exact hc0
            refine hK _ _ (fun _ => hc2) ?_
            clear hK K
            have hl1 : (gridM b.length m.length (fun i k => (m.getD k []).getD i 0)).length = b.length := gridM_length _ _ _
            have hbw2 : Hid (Below w.heap.size w w2) := hb0.trans (hb3.mono (by have := Hsz0.out; omega))
            have ht2 : TabAt w2 := ht0.below hb3 ht0.1
            have hbb2 := Lib.hid (hbb0.out.below hb3 hib)
            have hib2 := hib.below hb3
            have hin2 : In (fresh w0.drew w2) w2 := fun k hk => hk.2
            have hcore := matSolveCore (gridM_rect b.length m.length (fun i k => (m.getD k []).getD i 0)) hl1.symm (by rw [hl1]; exact hb48) hr48 hS1 hbb2.out hin2 hib2 ht2
            rw [hl1] at hcore
            have Hcore : Hid (Calls Tryd.prog 42 #[.slice A1 b.length cap1, .slice A' b.length cap', .int .i64 (m.length : Int)] w2 (GiveSol w2 (exprS m b))) := hcore
            rw [hl1]
            clear hcore hl1 hS1 hbb2 hib2 hin2 ht2 hb3 hb2 hd hm0 hc0 hia hib ht0 hb0 hbb0 Hrect
            have hexpr : Hid (exprE m b = if exprErr m b = 0 then ((exprS m b).map (·.1)).getD [] else []) := rfl
            generalize exprS m b = sol at *
            refine walk_free rfl rfl rfl (by kernel_rfl) (fun K hK => ?_)
            go_simp
            refine Hcore.out.mono ?_
            rintro e w3 ⟨A2, cap2, A3, cap3, rfl, hx1, hx2, hb4⟩
            refine hK _ _ ?_
            clear hK K
            repeat ((apply walk_pure rfl rfl rfl; (intro w'; go_simp; rfl)); simp only [Act.put, List.getElem_toArray, List.getElem_cons_zero, List.getElem_cons_succ, List.setIfInBounds_toArray, List.set_cons_zero, List.set_cons_succ])
            refine walk_rest 14 (by kernel_rfl) rfl ?_
            simp only [List.drop_succ_cons, List.drop_zero]
            have hlx1 := hx1.len
            have hlx2 := hx2.len
            have hszz := hbw2.out.size
            have Hx1 := Lib.hid (hx1.mono (fresh_trans hszz))
            have hb5 := Lib.hid (hbw2.out.trans (hb4.mono hszz))
            clear Hcore hx1 hx2 hb4
            cases sol with
            | none =>
              have he2 : Hid (exprErr m b = 8) := he.out
              have hE : Hid (exprE m b = []) := by show _ = _; rw [hexpr.out, he2.out]; rfl
              simp only [Option.map_none, Option.getD_none, Option.isSome_none] at *
              clear he hexpr
              go_wp2_with fail
              go_ret2
              exact ⟨none, 0, by rw [hE.out, he2.out]; rfl, by rw [hE.out]; exact Sl.nil, hb5.out⟩
            | some s =>
              have he2 : Hid (exprErr m b = 0) := he.out
              have hE : Hid (exprE m b = s.1) := by show _ = _; rw [hexpr.out, he2.out]; rfl
              simp only [Option.map_some, Option.getD_some, Option.isSome_some] at *
              clear he hexpr
              go_wp2_with fail
              go_ret2
              exact ⟨A2, cap2, by rw [hE.out, he2.out]; rfl, by rw [hE.out]; exact Hx1.out, hb5.out⟩
  · have hne : (((mchk m : Nat) : Int) != 0) = true := by rw [bne_iff_ne]; omega
    have he : Hid (exprErr m b = mchk m) := by
      show _ = _
      unfold exprErr
      rw [if_pos hx]
    have hE : Hid (exprE m b = []) := by show _ = _; unfold exprE; rw [if_neg (by rw [he.out]; exact hx)]
    clear hx hm0
    go_wp2_with fail
    go_ret2
    exact ⟨none, 0, by rw [hE.out, he.out]; rfl, by rw [hE.out]; exact Sl.nil, hb0⟩
end Go.Proofs.YtokclgjkdpjjfaaDoor
