/-
  The walk of the reference's elimination.
-/
import Derived.Test.YtokclgjkdpjjfaaDoorWe
namespace Go.Proofs.YtokclgjkdpjjfaaDoor
open Go.RowKit Go.Q
variable {w : World} {S S' : Reg} {A A' : Option Addr} {cap cap' : Nat}
/-- A reduced matrix and its pivots. -/
def GiveReduced (S : Reg) (w : World) (x : List (List UInt8) × List Nat) (e : Ending) (w' : World) : Prop :=
  ∃ A cap A' cap', e = .returned (.agg #[.slice A x.1.length cap, .slice A' x.2.length cap']) ∧ Rows8 (fun k => S k ∨ fresh w w' k) w' A cap x.1 ∧ Ints (fresh w w') w' A' cap' x.2 ∧ Below w.heap.size w w'
theorem refClearedN {m : List (List UInt8)} {n N R : Nat} (p c : Nat) (hN : m.length = N) (hrect : Rect m n) (hr : R < N) (hp : p < N) (hc : c < n) (hsm : N ≤ 1000) (hsn : n ≤ 1000)
    (hnz : (m.getD p []).getD c 0 ≠ 0) (hm : Rows8 S w A cap m) (hin : In S w) :
    Calls Tryd.prog 41 #[.slice A N cap, .int .i64 (R : Int), .int .i64 (p : Int), .int .i64 (c : Int)] w (GiveRows S w (clearedM m R p c)) := by
  subst hN; exact refCleared R p c hrect hr hp hc hsm hsn hnz hm hin
theorem refLeadN {m : List (List UInt8)} {N : Nat} (hN : m.length = N) (r c : Nat) (hcols : ∀ x ∈ m, c < x.length) (hm : Rows8 S w A cap m) :
    Calls Tryd.prog 40 #[.slice A N cap, .int .i64 (r : Int), .int .i64 (c : Int)] w fun e w' => e = .returned (.int .i64 (optI (lead m r c))) ∧ w' = w := by
  subst hN; exact refLead r c hcols hm
set_option maxHeartbeats 2000000 in
theorem refReduce {m : List (List UInt8)} (hrect : Rect m (cols m)) (hsm : m.length ≤ 1000) (hsn : cols m ≤ 1000) (hm : Rows8 S w A cap m) (hin : In S w) :
    Calls Tryd.prog 18 #[.slice A m.length cap] w (GiveReduced S w (reduceM m)) := by
  obtain ⟨i0, hi, hz0, hz1, hz2⟩ := info_parts info3
  have hl := hm.len
  have hrect' := Lib.hid hrect
  clear hrect
  go_enter Tryd.func18, Tryd.ntmps18
  obtain ⟨w1, hw1⟩ : ∃ w1, w1 = w.alloc (.cells #[.slice none 0 0, .slice none 0 0] 38) := ⟨_, rfl⟩
  have hb1 : Below w.heap.size w w1 := by rw [hw1]; exact (Below.refl _ _).alloc (Nat.le_refl _) _
  have hsz1 : w1.heap.size = w.heap.size + 1 := by rw [hw1]; simp
  have hg1 : Hid (w1.heap[w.heap.size]? = some (.cells #[.slice none 0 0, .slice none 0 0] 38 (0, 0))) := by rw [hw1]; exact heap_alloc_new w _
  have hm1 := hm.below hb1 hin
  have hin1 : In S w1 := hin.below hb1
  have hSw : ∀ k, S k → k < w.heap.size := hin
  clear hm hin
  go_wp2_with fail
  rw [← hw1]
  clear hw1
  have Hsz1 := Lib.hid hsz1
  have hlt1 : w.heap.size < w1.heap.size := by omega
  clear hsz1
  go_loopw [3, 4, 5, 6] (fun vr vp vk _ wr => ∃ (i : Nat) (Ar : Option Addr) (cr : Nat) (Ap : Option Addr) (cp : Nat) (T : Reg), i ≤ cols m ∧ vk = .int .i64 (i : Int) ∧ vr = .slice Ar m.length cr ∧ vp = .slice Ap (redTo m i).2.length cp ∧
    Hid (Rows8 T wr Ar cr (redTo m i).1 ∧ (∀ k, T k → (S k ∨ w1.heap.size ≤ k) ∧ k < wr.heap.size) ∧ (∀ a, Ap = some a → ¬ T a.block) ∧ Own natE (fun _ => False) w1.heap.size 3 wr Ap cp (redTo m i).2) ∧ Below w1.heap.size w1 wr) (fun _ _ vk _ _ => cols m - (intOf vk).toNat)
  case atStart => exact ⟨0, A, cap, none, 0, S, by omega, rfl, rfl, rfl, ⟨hm1, fun k hk => ⟨.inl hk, hin1 k hk⟩, (fun _ h => by cases h), Own.nil⟩, Below.refl _ _⟩
  case round =>
    obtain ⟨i, Ar, cr, Ap, cp, T, hi', rfl, rfl, rfl, hst, hbl⟩ := hrel
    have hmr := hm1.below hbl hin1
    have hsz := hbl.size
    clear hm1
    obtain ⟨hv1, hv2, hv3, hv4, hv5⟩ := redTo_inv hrect'.out i
    have Hv1 := Lib.hid hv1
    have Hv2 := Lib.hid hv2
    have Hv5 := Lib.hid hv5
    clear hv1 hv2 hv5
    by_cases hlt : i < cols m
    · have hcols : ∀ x ∈ (redTo m i).1, i < x.length := fun x hx => by rw [Hv2.out x hx]; exact hlt
      have Hcols := Lib.hid hcols
      clear hcols
      cases hlead : lead (redTo m i).1 (redTo m i).2.length i with
      | none =>
        have hnext : Hid (redTo m (i + 1) = redTo m i) := by show _ = _; simp only [redTo, redStep, hlead]
        have hopt : Hid (optI (lead (redTo m i).1 (redTo m i).2.length i) = -1) := by show _ = _; rw [hlead]; rfl
        clear hlead
        generalize redTo m i = R at *
        go_wp2_with (go_at_call 30; refine (refColumns hmr).mono ?_; rintro e w2 ⟨rfl, rfl⟩)
        refine (refLeadN Hv1.out _ _ Hcols.out hst.out.1).mono ?_
        rintro e w3 ⟨rfl, hw3⟩
        obtain rfl := hw3
        rw [hopt.out]
        go_wp2_with fail
        go_roundw
        case rel => exact ⟨i + 1, Ar, cr, Ap, cp, T, by omega, by go_num, rfl, by rw [hnext.out], by show _ ∧ _; rw [hnext.out]; exact hst.out, hbl⟩
        case measure => simp [intOf]; omega
      | some p =>
        obtain ⟨hp1, hp2, hp3⟩ := lead_some hlead
        have hnext : Hid (redTo m (i + 1) = (clearedM (redTo m i).1 (redTo m i).2.length p i, (redTo m i).2 ++ [i])) := by show _ = _; simp only [redTo, redStep, hlead]
        have hopt : Hid (optI (lead (redTo m i).1 (redTo m i).2.length i) = (p : Int)) := by show _ = _; rw [hlead]; rfl
        rw [Hv1.out] at hp2
        have hlc : Hid ((clearedM (redTo m i).1 (redTo m i).2.length p i).length = m.length) := by show _ = _; rw [clearedM_length, Hv1.out]
        clear hlead
        generalize redTo m i = R at *
        have Hp3 := Lib.hid hp3
        clear hp3
        go_wp2_with (go_at_call 30; refine (refColumns hmr).mono ?_; rintro e w2 ⟨rfl, rfl⟩)
        refine (refLeadN Hv1.out _ _ Hcols.out hst.out.1).mono ?_
        rintro e w3 ⟨rfl, hw3⟩
        obtain rfl := hw3
        rw [hopt.out]
        have hinT : In T w3 := fun k hk => (hst.out.2.1 k hk).2
        go_wp2_with fail
        refine (refClearedN p i Hv1.out Hv2.out (by omega) hp2 hlt hsm hsn Hp3.out hst.out.1 hinT).mono ?_
        rintro e w4 ⟨A4, cap4, rfl, hr4, hb4⟩
        have hsz4 := hb4.size
        have hown4 := hst.out.2.2.2.below hb4 (Nat.le_refl _)
        have hTA : ∀ a, Ap = some a → ¬ (T a.block ∨ fresh w3 w4 a.block) := by
          intro a ha hk
          rcases hk with hk | hk
          · exact hst.out.2.2.1 a ha hk
          · obtain ⟨g, rfl, _, h3⟩ := hst.out.2.2.2.block ha
            exact Nat.lt_irrefl _ (Nat.lt_of_lt_of_le h3 hk.1)
        have hTin : ∀ k, (T k ∨ fresh w3 w4 k) → (S k ∨ w1.heap.size ≤ k) ∧ k < w4.heap.size := by
          intro k hk
          rcases hk with hk | hk
          · have := hst.out.2.1 k hk; exact ⟨this.1, by omega⟩
          · exact ⟨.inr (by have := hk.1; omega), hk.2⟩
        have Hr4 := Lib.hid hr4
        have Hown4 := Lib.hid hown4
        have HTA := Lib.hid hTA
        have HTin := Lib.hid hTin
        rw [hlc.out]
        clear hr4 hown4 hTA hTin hinT
        go_wp2_with (at_builtin; refine wpList_append_box (P := fun _ => False) rfl (.tmp 27) (.tmp 29) 29 rfl rfl rfl Tryd.underlying29 hi hz0 hz1 hz2 rfl (by decide) rfl Hown4.out (hbl.trans (hb4.mono hsz)) i (fun _ => False) ⟨rfl, by omega⟩ (fun _ h => h.elim) (fun _ _ h => h) (by omega) ?_; intro A5 cap5 w5 hown5 hb5 hold5 hA5; refine pause ?_)
        have hrel2 : Hid (Rows8 (fun k => T k ∨ fresh w3 w4 k) w5 A4 cap4 (redTo m (i + 1)).1 ∧ (∀ k, (T k ∨ fresh w3 w4 k) → (S k ∨ w1.heap.size ≤ k) ∧ k < w5.heap.size) ∧ (∀ a, A5 = some a → ¬ (T a.block ∨ fresh w3 w4 a.block)) ∧ Own natE (fun _ => False) w1.heap.size 3 w5 A5 cap5 (redTo m (i + 1)).2) := by
          refine ⟨?_, fun k hk => ⟨(HTin.out k hk).1, Nat.lt_of_lt_of_le (HTin.out k hk).2 hA5.1⟩, ?_, ?_⟩
          · rw [hnext.out]
            refine Hr4.out.stable (fun _ h => h) (fun k hk => hold5 k (HTin.out k hk).2 ?_)
            intro e
            cases hAp : Ap with
            | none => rw [hAp] at e; cases e
            | some a =>
              rw [hAp] at e
              simp only [Option.map_some, Option.some.injEq] at e
              exact HTA.out a hAp (e ▸ hk)
          · intro a ha hk
            rcases hA5.2 with h | h
            · exact HTA.out a (h ▸ ha) hk
            · rw [h] at ha
              cases ha
              exact absurd (HTin.out _ hk).2 (by show ¬ _ + 1 < _; omega)
          · rw [hnext.out]; exact hown5
        have hlp : Hid (R.2.length + 1 = (redTo m (i + 1)).2.length) := by show _ = _; rw [hnext.out]; simp
        clear hown5 hold5 hA5 Hown4 Hr4 HTA HTin
        refine unpause ?_
        go_wp2
        go_roundw
        case rel => exact ⟨i + 1, A4, cap4, A5, cap5, _, by omega, by go_num, rfl, by rw [hlp.out], hrel2, hb5⟩
        case measure => simp [intOf]; omega
    · obtain rfl : i = cols m := by omega
      have hg2 : wr.heap[w.heap.size]? = some (.cells #[.slice none 0 0, .slice none 0 0] 38 (0, 0)) := by rw [hbl.block _ hlt1]; exact hg1.out
      obtain ⟨hc0, hf0⟩ := cells_at hg2 0 (by simp)
      obtain ⟨hc1, hf1⟩ := cells_at hg2 1 (by simp)
      simp only [List.getElem_toArray, List.getElem_cons_zero, List.getElem_cons_succ] at hc0 hc1
      clear hg2
      have hfin : Hid (reduceM m = ((redTo m (cols m)).1.take (redTo m (cols m)).2.length, (redTo m (cols m)).2)) := rfl
      have hle1 := hst.out.1.1
      have hle2 := hst.out.1.2.1
      rw [Hv1.out] at hle1
      generalize redTo m (cols m) = R at *
      go_wp2_with (go_at_call 30; refine (refColumns hmr).mono ?_; rintro e w2 ⟨rfl, rfl⟩)
      have hszr := hbl.size
      have hlen1 : (reduceM m).1.length = R.2.length := by rw [hfin.out]; simp [Hv1.out]; omega
      have hlen2 : (reduceM m).2.length = R.2.length := by rw [hfin.out]
      refine bodyPost_ret (v := .agg #[.slice Ar R.2.length cr, .slice Ap R.2.length cp]) (by simp [results, Tryd.results18, go_sem, hc0, hc1]) rfl ⟨Ar, cr, Ap, cp, by rw [hlen1, hlen2], ?_, ?_, ?_⟩
      · rw [hfin.out]
        refine (hst.out.1.take _).stable (fun k hk => ?_) (fun k hk => ?_)
        · have h1 := hst.out.2.1 k hk
          rcases h1.1 with h | h
          · exact .inl h
          · exact .inr ⟨by omega, by simpa [World.setCell] using h1.2⟩
        · have h1 := (hst.out.2.1 k hk).1
          have hne : k ≠ w.heap.size := by
            rcases h1 with h | h
            · have := hSw k h; omega
            · omega
          rw [Below.heap_setCell _ _ _ _ hne, Below.heap_setCell _ _ _ _ hne]
      · rw [hfin.out]
        have h1 : Ints (fun k => w1.heap.size ≤ k ∧ k < w2.heap.size) w2 Ap cp R.2 := hst.out.2.2.2.sl (fun k hk h => ⟨h.resolve_left id, hk⟩)
        refine h1.stable (fun k hk => ⟨by have := hk.1; omega, by simpa [World.setCell] using hk.2⟩) (fun k hk => ?_)
        have hne : k ≠ w.heap.size := by have := hk.1; omega
        rw [Below.heap_setCell _ _ _ _ hne, Below.heap_setCell _ _ _ _ hne]
      · exact ((hb1.trans (hbl.mono (by omega))).setCell (Nat.le_refl _) _).setCell (Nat.le_refl _) _
end Go.Proofs.YtokclgjkdpjjfaaDoor
