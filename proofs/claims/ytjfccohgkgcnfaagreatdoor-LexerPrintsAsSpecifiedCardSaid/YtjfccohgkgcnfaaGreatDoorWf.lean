/-
  The walk of the reference's text.
-/
import Derived.Test.YtjfccohgkgcnfaaGreatDoorWe
import Derived.Test.YtjfccohgkgcnfaaGreatDoorRb
namespace Go.Proofs.YtjfccohgkgcnfaaGreatDoor
open Go.RowKit Go.Q Go.Lx
variable {w : World} {S : Reg} {A : Option Addr} {cap : Nat}
def zero55 : Array Value := #[.int .i64 0, .int .i64 0, .string ⟨#[]⟩, .int .i64 0, .int .i64 0, .int .i64 0]
theorem z55 {w : World} {g : Nat} (h : w.heap[g]? = some (.cells zero55 55 (0, 0))) : (w.cell? ⟨g, 0, none⟩ = some (.int .i64 0) ∧ w.cell? ⟨g, 1, none⟩ = some (.int .i64 0) ∧ w.cell? ⟨g, 2, none⟩ = some (.string ⟨#[]⟩) ∧ w.cell? ⟨g, 3, none⟩ = some (.int .i64 0) ∧ w.cell? ⟨g, 4, none⟩ = some (.int .i64 0) ∧ w.cell? ⟨g, 5, none⟩ = some (.int .i64 0)) ∧
    (w.frozen? ⟨g, 0, none⟩ = false ∧ w.frozen? ⟨g, 1, none⟩ = false ∧ w.frozen? ⟨g, 2, none⟩ = false ∧ w.frozen? ⟨g, 3, none⟩ = false ∧ w.frozen? ⟨g, 4, none⟩ = false ∧ w.frozen? ⟨g, 5, none⟩ = false) :=
  ⟨⟨(cells_at h 0 (by decide)).1, (cells_at h 1 (by decide)).1, (cells_at h 2 (by decide)).1, (cells_at h 3 (by decide)).1, (cells_at h 4 (by decide)).1, (cells_at h 5 (by decide)).1⟩,
    (cells_at h 0 (by decide)).2, (cells_at h 1 (by decide)).2, (cells_at h 2 (by decide)).2, (cells_at h 3 (by decide)).2, (cells_at h 4 (by decide)).2, (cells_at h 5 (by decide)).2⟩
theorem put55 {w : World} {g : Nat} (h : w.heap[g]? = some (.cells zero55 55 (0, 0))) (a b c d e f : Value) :
    ((((((w.setCell ⟨g, 0, none⟩ a).setCell ⟨g, 1, none⟩ b).setCell ⟨g, 2, none⟩ c).setCell ⟨g, 3, none⟩ d).setCell ⟨g, 4, none⟩ e).setCell ⟨g, 5, none⟩ f).heap[g]? = some (.cells #[a, b, c, d, e, f] 55 (0, 0)) := by
  have h0 := Go.Q.heap_setCell_same w g 0 a _ _ h
  have h1 := Go.Q.heap_setCell_same _ g 1 b _ _ h0
  have h2 := Go.Q.heap_setCell_same _ g 2 c _ _ h1
  have h3 := Go.Q.heap_setCell_same _ g 3 d _ _ h2
  have h4 := Go.Q.heap_setCell_same _ g 4 e _ _ h3
  have h5 := Go.Q.heap_setCell_same _ g 5 f _ _ h4
  rw [h5]; rfl
theorem put55_below {B : Nat} {w0 w : World} {g : Nat} (h : Below B w0 w) (hg : B ≤ g) (a b c d e f : Value) :
    Below B w0 ((((((w.setCell ⟨g, 0, none⟩ a).setCell ⟨g, 1, none⟩ b).setCell ⟨g, 2, none⟩ c).setCell ⟨g, 3, none⟩ d).setCell ⟨g, 4, none⟩ e).setCell ⟨g, 5, none⟩ f) :=
  (((((h.setCell (p := ⟨g, 0, none⟩) hg a).setCell (p := ⟨g, 1, none⟩) hg b).setCell (p := ⟨g, 2, none⟩) hg c).setCell (p := ⟨g, 3, none⟩) hg d).setCell (p := ⟨g, 4, none⟩) hg e).setCell (p := ⟨g, 5, none⟩) hg f
theorem lt_nat (c d : UInt8) (h : (c.toNat : Int) < (d.toNat : Int)) : c < d := UInt8.lt_iff_toNat_lt.2 (by omega)
theorem nat_lt (c d : UInt8) (h : c < d) : (c.toNat : Int) < (d.toNat : Int) := by have := UInt8.lt_iff_toNat_lt.1 h; omega
theorem info5 : (Tryz.prog.info? 5).map (fun i => (i.zero, i.size, i.bytes)) = some (some (.int .u8 0), 1, 1) := by kernel_rfl
set_option maxRecDepth 100000 in
set_option maxHeartbeats 4000000 in
theorem refText (s : ByteArray) (p : Nat) (hp : p < s.size) (hs : s.size ≤ 1000000) : Calls Tryz.prog 40 #[.string s, .int .i64 (p : Int)] w fun e w' => OneIs s.size p (text [] ((bl s).drop (p + 1))) e ∧ Below w.heap.size w w' := by
  obtain ⟨i0, hi0, hz0, hz1, hz2⟩ := info_parts info5
  obtain ⟨R, hR⟩ : ∃ R, text [] ((bl s).drop (p + 1)) = R := ⟨_, rfl⟩
  rw [hR]
  obtain ⟨w1, hw1⟩ : ∃ w1, w1 = w.alloc (.cells #[.int .i64 0, .int .i64 0, .string ⟨#[]⟩, .int .i64 0, .int .i64 0, .int .i64 0] 55) := ⟨_, rfl⟩
  have HB : Hid (Below w.heap.size w w1) := by show Below _ _ _; rw [hw1]; exact (Below.refl _ _).alloc (Nat.le_refl _) _
  have HG : Hid (w1.heap[w.heap.size]? = some (.cells zero55 55 (0, 0))) := by show _ = _; rw [hw1]; exact heap_alloc_new _ _
  have HS : Hid (w.heap.size < w1.heap.size) := by show _ < _; rw [hw1]; simp
  go_enter Tryz.func40, Tryz.ntmps40
  go_wp2_with fail
  rw [← hw1]
  clear hw1
  go_loopw [5, 6] (fun v u wr => ∃ (k : Nat) (bs : List UInt8) (A1 : Option Addr) (c1 : Nat), p < k ∧ k ≤ s.size ∧ u = .int .i64 (k : Int) ∧ v = .slice A1 bs.length c1 ∧ bs.length ≤ 201 ∧ Hid (text bs ((bl s).drop k) = R) ∧ Hid (Own u8E (fun _ => False) w1.heap.size 5 wr A1 c1 bs) ∧ Below w1.heap.size w1 wr) (fun _ u _ => s.size - (intOf u).toNat)
  case atStart => exact ⟨p + 1, [], none, 0, by omega, by omega, by go_num, rfl, by simp, hR, Own.nil, Below.refl _ _⟩
  case round =>
    obtain ⟨k, bs, A1, c1, hpk, hk, rfl, rfl, hbs, hd, hown, hbl⟩ := hrel
    clear hR
    have HGr : Hid (wr.heap[w.heap.size]? = some (.cells zero55 55 (0, 0))) := (hbl.block _ HS.out).trans HG.out
    have HBr : Hid (Below w.heap.size w wr) := HB.out.trans (hbl.mono (Nat.le_of_lt HS.out))
    by_cases hlt : k < s.size
    · have hdr := Lib.hid (bl_drop s k hlt)
      by_cases h200 : 200 < bs.length
      · have t200 : decide ((200 : Int) < (bs.length : Int)) = true := by rw [decide_eq_true_eq]; omega
        have hr : Hid (R = .bad 2) := by show _ = _; rw [← hd.out]; rw [hdr.out]; unfold text; rw [if_pos h200]
        obtain ⟨⟨z0, z1, z2, z3, z4, z5⟩, f0, f1, f2, f3, f4, f5⟩ := z55 HGr.out
        clear hd hown hbl
        go_wp2_with fail
        refine bodyPost_ret (results_cell_row Tryz.results40 _ _ w.heap.size 55 _ _ _ rfl (put55 HGr.out _ _ _ _ _ _) Tryz.underlying55 rfl (by kernel_rfl)) rfl ⟨?_, put55_below HBr.out (Nat.le_refl _) _ _ _ _ _ _⟩
        rw [hr.out]
        exact one_bad rfl
      · have t200 : decide ((200 : Int) < (bs.length : Int)) = false := by rw [decide_eq_false_iff_not]; omega
        by_cases h34 : (s[k].toNat : Int) = 34
        · have hc : s[k] = 34 := (eq_iff s[k] 34).2 h34
          have b34 : ((s[k].toNat : Int) == 34) = true := by rw [h34]; rfl
          have hr : Hid (R = .ok 3 bs 0 ((bl s).drop (k + 1))) := by show _ = _; rw [← hd.out, hdr.out]; unfold text; rw [if_neg h200, if_pos hc]
          have hq : Hid (s.size - ((bl s).drop (k + 1)).length = k + 1) := by show _ = _; rw [List.length_drop, bl_len]; omega
          have hsl := Lib.hid (hown.out.sl (P' := fun k => k < wr.heap.size) (fun k hk _ => hk))
          obtain ⟨⟨z0, z1, z2, z3, z4, z5⟩, f0, f1, f2, f3, f4, f5⟩ := z55 HGr.out
          clear hd hown hbl hc h34
          go_wp2_with (refine wpList_bytes_str rfl 46 9 5 (.tmp 31) rfl rfl Tryz.underlying46 Tryz.underlying5 Tryz.underlying9 rfl hsl.out ?_)
          refine bodyPost_ret (results_cell_row Tryz.results40 _ _ w.heap.size 55 _ _ _ rfl (put55 HGr.out _ _ _ _ _ _) Tryz.underlying55 rfl (by kernel_rfl)) rfl ⟨?_, put55_below HBr.out (Nat.le_refl _) _ _ _ _ _ _⟩
          rw [hr.out]
          exact one_ok (b := ⟨bs.toArray⟩) (by simp [bl]) hq.out (by go_num)
        · have n34 : ¬ s[k] = 34 := fun h => h34 ((eq_iff s[k] 34).1 h)
          have b34 : ((s[k].toNat : Int) == 34) = false := beq_eq_false_iff_ne.2 h34
          by_cases h92 : (s[k].toNat : Int) = 92
          · have hc : s[k] = 92 := (eq_iff s[k] 92).2 h92
            have b92 : ((s[k].toNat : Int) == 92) = true := by rw [h92]; rfl
            by_cases hl2 : k + 1 < s.size
            · have hdr2 := Lib.hid (bl_drop s (k + 1) hl2)
              have tl : decide ((k : Int) + 1 < (s.size : Int)) = true := by rw [decide_eq_true_eq]; omega
              by_cases hp0 : pair s[k + 1] = 0
              · have HP : Hid ((pair s[k + 1]).toNat = 0) := by show _ = _; rw [hp0]; rfl
                have hr : Hid (R = .bad 28) := by show _ = _; rw [← hd.out]; rw [hdr.out, hdr2.out]; unfold text; rw [if_neg h200, if_neg n34, if_pos hc]; simp only; rw [if_pos hp0]
                obtain ⟨⟨z0, z1, z2, z3, z4, z5⟩, f0, f1, f2, f3, f4, f5⟩ := z55 HGr.out
                clear hd hown hbl
                go_wp2_with fail
                have hcall := refPair (w := wr) s[k + 1]
                rw [HP.out] at hcall
                have Hcall := Lib.hid hcall
                clear hcall
                refine Hcall.out.mono ?_
                rintro e wq ⟨rfl, hwq⟩
                obtain rfl : wr = wq := hwq.symm
                clear Hcall
                go_wp2_with fail
                refine bodyPost_ret (results_cell_row Tryz.results40 _ _ w.heap.size 55 _ _ _ rfl (put55 HGr.out _ _ _ _ _ _) Tryz.underlying55 rfl (by kernel_rfl)) rfl ⟨?_, put55_below HBr.out (Nat.le_refl _) _ _ _ _ _ _⟩
                rw [hr.out]
                exact one_bad rfl
              · have hp1 : (((pair s[k + 1]).toNat : Int) == 0) = false := beq_eq_false_iff_ne.2 fun h => hp0 ((eq_iff _ 0).2 h)
                have hp2 : (((pair s[k + 1]).toNat : Int) != 0) = true := bne_iff_ne.2 fun h => hp0 ((eq_iff _ 0).2 h)
                have hd2 : Hid (text (bs ++ [pair s[k + 1]]) ((bl s).drop (k + 1 + 1)) = R) := by
                  show _ = _
                  rw [← hd.out, hdr.out, hdr2.out]
                  conv => rhs; unfold text
                  rw [if_neg h200, if_neg n34, if_pos hc]
                  simp only
                  rw [if_neg hp0]
                have Hp0 := Lib.hid hp0
                have HP : Hid (pair s[k + 1] = pair s[k + 1]) := rfl
                clear hp0 hd hc n34 hdr hdr2
                go_wp2_with fail
                have hcall := refPair (w := wr) s[k + 1]
                have Hcall := Lib.hid hcall
                clear hcall
                refine Hcall.out.mono ?_
                rintro e wq ⟨rfl, hwq⟩
                obtain rfl : wr = wq := hwq.symm
                clear Hcall
                go_wp2_with fail
                have hcall := refPair (w := wr) s[k + 1]
                have Hcall := Lib.hid hcall
                clear hcall
                refine Hcall.out.mono ?_
                rintro e wq ⟨rfl, hwq⟩
                obtain rfl : wr = wq := hwq.symm
                clear Hcall
                go_wp2_with (at_builtin; refine wpList_append_box rfl (.tmp 57) (.tmp 63) 46 rfl rfl rfl Tryz.underlying46 hi0 hz0 hz1 hz2 rfl (by decide) rfl hown.out hbl (pair s[k + 1]) (fun _ => False) rfl (fun _ h => h.elim) (fun _ _ h => h) (by omega) ?_; intro A2 c2 w2 hown2 hb2 _ _)
                have ho2 : Hid _ := Lib.hid hown2
                go_wp2_with fail
                go_roundw
                case rel => exact ⟨k + 2, bs ++ [pair s[k + 1]], A2, c2, by omega, by omega, by go_num, by simp, by simp; omega, hd2, ho2, hb2⟩
                case measure => simp [intOf]; omega
            · have hke : k + 1 = s.size := by omega
              have tl : decide ((k : Int) + 1 < (s.size : Int)) = false := by rw [decide_eq_false_iff_not]; omega
              have hr : Hid (R = .bad 28) := by show _ = _; rw [← hd.out]; rw [hdr.out, hke, bl_end]; unfold text; rw [if_neg h200, if_neg n34, if_pos hc]
              obtain ⟨⟨z0, z1, z2, z3, z4, z5⟩, f0, f1, f2, f3, f4, f5⟩ := z55 HGr.out
              clear hd hown hbl
              go_wp2_with fail
              refine bodyPost_ret (results_cell_row Tryz.results40 _ _ w.heap.size 55 _ _ _ rfl (put55 HGr.out _ _ _ _ _ _) Tryz.underlying55 rfl (by kernel_rfl)) rfl ⟨?_, put55_below HBr.out (Nat.le_refl _) _ _ _ _ _ _⟩
              rw [hr.out]
              exact one_bad rfl
          · have n92 : ¬ s[k] = 92 := fun h => h92 ((eq_iff s[k] 92).1 h)
            have b92 : ((s[k].toNat : Int) == 92) = false := beq_eq_false_iff_ne.2 h92
            by_cases hlo : (s[k].toNat : Int) < 32
            · have tlo : decide ((s[k].toNat : Int) < 32) = true := decide_eq_true hlo
              have hr : Hid (R = .bad 28) := by show _ = _; rw [← hd.out]; rw [hdr.out]; unfold text; rw [if_neg h200, if_neg n34, if_neg n92, if_pos (.inl (lt_nat s[k] 32 hlo))]
              obtain ⟨⟨z0, z1, z2, z3, z4, z5⟩, f0, f1, f2, f3, f4, f5⟩ := z55 HGr.out
              clear hd hown hbl
              go_wp2_with fail
              refine bodyPost_ret (results_cell_row Tryz.results40 _ _ w.heap.size 55 _ _ _ rfl (put55 HGr.out _ _ _ _ _ _) Tryz.underlying55 rfl (by kernel_rfl)) rfl ⟨?_, put55_below HBr.out (Nat.le_refl _) _ _ _ _ _ _⟩
              rw [hr.out]
              exact one_bad rfl
            · have tlo : decide ((s[k].toNat : Int) < 32) = false := decide_eq_false hlo
              by_cases hhi : (126 : Int) < (s[k].toNat : Int)
              · have thi : decide ((126 : Int) < (s[k].toNat : Int)) = true := decide_eq_true hhi
                have hr : Hid (R = .bad 28) := by show _ = _; rw [← hd.out]; rw [hdr.out]; unfold text; rw [if_neg h200, if_neg n34, if_neg n92, if_pos (.inr (lt_nat 126 s[k] hhi))]
                obtain ⟨⟨z0, z1, z2, z3, z4, z5⟩, f0, f1, f2, f3, f4, f5⟩ := z55 HGr.out
                clear hd hown hbl
                go_wp2_with fail
                refine bodyPost_ret (results_cell_row Tryz.results40 _ _ w.heap.size 55 _ _ _ rfl (put55 HGr.out _ _ _ _ _ _) Tryz.underlying55 rfl (by kernel_rfl)) rfl ⟨?_, put55_below HBr.out (Nat.le_refl _) _ _ _ _ _ _⟩
                rw [hr.out]
                exact one_bad rfl
              · have thi : decide ((126 : Int) < (s[k].toNat : Int)) = false := decide_eq_false hhi
                have hd2 : Hid (text (bs ++ [s[k]]) ((bl s).drop (k + 1)) = R) := by
                  show _ = _
                  rw [← hd.out, hdr.out]
                  conv => rhs; unfold text
                  rw [if_neg h200, if_neg n34, if_neg n92, if_neg (fun h => h.elim (fun h => hlo (nat_lt s[k] 32 h)) (fun h => hhi (nat_lt 126 s[k] h)))]
                clear hd n34 n92 hdr
                go_wp2_with (at_builtin; refine wpList_append_box rfl (.tmp 17) (.tmp 21) 46 rfl rfl rfl Tryz.underlying46 hi0 hz0 hz1 hz2 rfl (by decide) rfl hown.out hbl s[k] (fun _ => False) rfl (fun _ h => h.elim) (fun _ _ h => h) (by omega) ?_; intro A2 c2 w2 hown2 hb2 _ _)
                have ho2 : Hid _ := Lib.hid hown2
                go_wp2_with fail
                go_roundw
                case rel => exact ⟨k + 1, bs ++ [s[k]], A2, c2, by omega, by omega, by go_num, by simp, by simp; omega, hd2, ho2, hb2⟩
                case measure => simp [intOf]; omega
    · obtain rfl : k = s.size := by omega
      by_cases h200 : 200 < bs.length
      · have t200 : decide ((200 : Int) < (bs.length : Int)) = true := by rw [decide_eq_true_eq]; omega
        have hr : Hid (R = .bad 2) := by show _ = _; rw [← hd.out]; rw [bl_end]; unfold text; rw [if_pos h200]
        obtain ⟨⟨z0, z1, z2, z3, z4, z5⟩, f0, f1, f2, f3, f4, f5⟩ := z55 HGr.out
        clear hd hown hbl
        go_wp2_with fail
        refine bodyPost_ret (results_cell_row Tryz.results40 _ _ w.heap.size 55 _ _ _ rfl (put55 HGr.out _ _ _ _ _ _) Tryz.underlying55 rfl (by kernel_rfl)) rfl ⟨?_, put55_below HBr.out (Nat.le_refl _) _ _ _ _ _ _⟩
        rw [hr.out]
        exact one_bad rfl
      · have t200 : decide ((200 : Int) < (bs.length : Int)) = false := by rw [decide_eq_false_iff_not]; omega
        have hr : Hid (R = .bad 28) := by show _ = _; rw [← hd.out]; rw [bl_end]; unfold text; rw [if_neg h200]
        obtain ⟨⟨z0, z1, z2, z3, z4, z5⟩, f0, f1, f2, f3, f4, f5⟩ := z55 HGr.out
        clear hd hown hbl
        go_wp2_with fail
        refine bodyPost_ret (results_cell_row Tryz.results40 _ _ w.heap.size 55 _ _ _ rfl (put55 HGr.out _ _ _ _ _ _) Tryz.underlying55 rfl (by kernel_rfl)) rfl ⟨?_, put55_below HBr.out (Nat.le_refl _) _ _ _ _ _ _⟩
        rw [hr.out]
        exact one_bad rfl
end Go.Proofs.YtjfccohgkgcnfaaGreatDoor
