/-
  The walk of the reference's token.
-/
import Derived.Test.YtjfccohgkgcnfaaGreatDoorWc
import Derived.Test.YtjfccohgkgcnfaaGreatDoorWf
namespace Go.Proofs.YtjfccohgkgcnfaaGreatDoor
open Go.RowKit Go.Q Go.Lx
variable {w : World} {S : Reg} {A : Option Addr} {cap : Nat}
theorem OneIs.agg {n p : Nat} {o : Out} {e : Ending} (h : OneIs n p o e) : ∃ (k q : Int) (b : ByteArray) (v t x : Int), e = .returned (.agg #[.int .i64 k, .int .i64 q, .string b, .int .i64 v, .int .i64 t, .int .i64 x]) := by
  cases o with
  | ok k s v t => obtain ⟨b, _, rfl⟩ := h; exact ⟨_, _, _, _, _, _, rfl⟩
  | bad x => exact ⟨_, _, _, _, _, _, h⟩
set_option maxRecDepth 100000 in
set_option maxHeartbeats 4000000 in
theorem refToken (s : ByteArray) (p : Nat) (hp : p < s.size) (hs : s.size ≤ 1000000) : Calls Tryz.prog 23 #[.string s, .int .i64 (p : Int)] w fun e w' => OneIs s.size p (Lx.tok ((bl s).drop p)) e ∧ Below w.heap.size w w' := by
  obtain ⟨w1, hw1⟩ : ∃ w1, w1 = w.alloc (.cells #[.int .i64 0, .int .i64 0, .string ⟨#[]⟩, .int .i64 0, .int .i64 0, .int .i64 0] 55) := ⟨_, rfl⟩
  have HB : Hid (Below w.heap.size w w1) := by show Below _ _ _; rw [hw1]; exact (Below.refl _ _).alloc (Nat.le_refl _) _
  have HG : Hid (w1.heap[w.heap.size]? = some (.cells zero55 55 (0, 0))) := by show _ = _; rw [hw1]; exact heap_alloc_new _ _
  have HS : Hid (w.heap.size < w1.heap.size) := by show _ < _; rw [hw1]; simp
  have hdr := Lib.hid (bl_drop s p hp)
  go_enter Tryz.func23, Tryz.ntmps23
  go_wp2_with fail
  rw [← hw1]
  clear hw1
  by_cases hl : isLetter s[p] = true
  · have HL : Hid (isLetter s[p] = true) := hl
    have HT : Hid (Lx.tok ((bl s).drop p) = name ((bl s).drop p)) := by show _ = _; rw [hdr.out]; unfold Lx.tok; simp only; rw [if_pos hl]
    clear hl hdr
    go_wp2_with fail
    have hcall := refLetter (w := w1) s[p]
    rw [HL.out] at hcall
    have Hcall := Lib.hid hcall
    clear hcall
    refine Hcall.out.mono ?_
    rintro e wq ⟨rfl, hwq⟩
    obtain rfl : w1 = wq := hwq.symm
    clear Hcall
    go_wp2_with fail
    have hcall := refName (w := w1) s p (by omega) hs
    have Hcall := Lib.hid hcall
    clear hcall
    refine Hcall.out.mono ?_
    rintro e w2 ⟨hone, hb2⟩
    obtain ⟨k1, q1, b1, v1, t1, x1, rfl⟩ := hone.agg
    have HG2 : Hid (w2.heap[w.heap.size]? = some (.cells zero55 55 (0, 0))) := (hb2.block _ HS.out).trans HG.out
    have HB2 : Hid (Below w.heap.size w w2) := HB.out.trans (hb2.mono (Nat.le_of_lt HS.out))
    obtain ⟨⟨z0, z1, z2, z3, z4, z5⟩, f0, f1, f2, f3, f4, f5⟩ := z55 HG2.out
    have Hone := Lib.hid hone
    clear Hcall hone hb2
    go_wp2_with fail
    refine bodyPost_ret (results_cell_row Tryz.results23 _ _ w.heap.size 55 _ _ _ rfl (put55 HG2.out _ _ _ _ _ _) Tryz.underlying55 rfl (by kernel_rfl)) rfl ⟨?_, put55_below HB2.out (Nat.le_refl _) _ _ _ _ _ _⟩
    rw [HT.out]
    exact Hone.out
  · have HL : Hid (isLetter s[p] = false) := by show _ = _; simpa using hl
    by_cases hg : isDigit s[p] = true
    · have HD : Hid (isDigit s[p] = true) := hg
      have HT : Hid (Lx.tok ((bl s).drop p) = number ((bl s).drop p)) := by show _ = _; rw [hdr.out]; unfold Lx.tok; simp only; rw [if_neg hl, if_pos hg]
      clear hl hg hdr
      go_wp2_with fail
      have hcall := refLetter (w := w1) s[p]
      rw [HL.out] at hcall
      have Hcall := Lib.hid hcall
      clear hcall
      refine Hcall.out.mono ?_
      rintro e wq ⟨rfl, hwq⟩
      obtain rfl : w1 = wq := hwq.symm
      clear Hcall
      go_wp2_with fail
      have hcall := refDigit (w := w1) s[p]
      rw [HD.out] at hcall
      have Hcall := Lib.hid hcall
      clear hcall
      refine Hcall.out.mono ?_
      rintro e wq ⟨rfl, hwq⟩
      obtain rfl : w1 = wq := hwq.symm
      clear Hcall
      go_wp2_with fail
      have hcall := refNumber (w := w1) s p (by omega) hs
      have Hcall := Lib.hid hcall
      clear hcall
      refine Hcall.out.mono ?_
      rintro e w2 ⟨hone, hb2⟩
      obtain ⟨k1, q1, b1, v1, t1, x1, rfl⟩ := hone.agg
      have HG2 : Hid (w2.heap[w.heap.size]? = some (.cells zero55 55 (0, 0))) := (hb2.block _ HS.out).trans HG.out
      have HB2 : Hid (Below w.heap.size w w2) := HB.out.trans (hb2.mono (Nat.le_of_lt HS.out))
      obtain ⟨⟨z0, z1, z2, z3, z4, z5⟩, f0, f1, f2, f3, f4, f5⟩ := z55 HG2.out
      have Hone := Lib.hid hone
      clear Hcall hone hb2
      go_wp2_with fail
      refine bodyPost_ret (results_cell_row Tryz.results23 _ _ w.heap.size 55 _ _ _ rfl (put55 HG2.out _ _ _ _ _ _) Tryz.underlying55 rfl (by kernel_rfl)) rfl ⟨?_, put55_below HB2.out (Nat.le_refl _) _ _ _ _ _ _⟩
      rw [HT.out]
      exact Hone.out
    · have HD : Hid (isDigit s[p] = false) := by show _ = _; simpa using hg
      by_cases h34 : (s[p].toNat : Int) = 34
      · have hc : s[p] = 34 := (eq_iff s[p] 34).2 h34
        have b34 : ((s[p].toNat : Int) == 34) = true := by rw [h34]; rfl
        have HT : Hid (Lx.tok ((bl s).drop p) = text [] ((bl s).drop (p + 1))) := by show _ = _; rw [hdr.out]; unfold Lx.tok; simp only; rw [if_neg hl, if_neg hg, if_pos hc]
        clear hl hg hdr hc h34
        go_wp2_with fail
        have hcall := refLetter (w := w1) s[p]
        rw [HL.out] at hcall
        have Hcall := Lib.hid hcall
        clear hcall
        refine Hcall.out.mono ?_
        rintro e wq ⟨rfl, hwq⟩
        obtain rfl : w1 = wq := hwq.symm
        clear Hcall
        go_wp2_with fail
        have hcall := refDigit (w := w1) s[p]
        rw [HD.out] at hcall
        have Hcall := Lib.hid hcall
        clear hcall
        refine Hcall.out.mono ?_
        rintro e wq ⟨rfl, hwq⟩
        obtain rfl : w1 = wq := hwq.symm
        clear Hcall
        go_wp2_with fail
        have hcall := refText (w := w1) s p hp hs
        have Hcall := Lib.hid hcall
        clear hcall
        refine Hcall.out.mono ?_
        rintro e w2 ⟨hone, hb2⟩
        obtain ⟨k1, q1, b1, v1, t1, x1, rfl⟩ := hone.agg
        have HG2 : Hid (w2.heap[w.heap.size]? = some (.cells zero55 55 (0, 0))) := (hb2.block _ HS.out).trans HG.out
        have HB2 : Hid (Below w.heap.size w w2) := HB.out.trans (hb2.mono (Nat.le_of_lt HS.out))
        obtain ⟨⟨z0, z1, z2, z3, z4, z5⟩, f0, f1, f2, f3, f4, f5⟩ := z55 HG2.out
        have Hone := Lib.hid hone
        clear Hcall hone hb2
        go_wp2_with fail
        refine bodyPost_ret (results_cell_row Tryz.results23 _ _ w.heap.size 55 _ _ _ rfl (put55 HG2.out _ _ _ _ _ _) Tryz.underlying55 rfl (by kernel_rfl)) rfl ⟨?_, put55_below HB2.out (Nat.le_refl _) _ _ _ _ _ _⟩
        rw [HT.out]
        exact Hone.out
      · have n34 : ¬ s[p] = 34 := fun h => h34 ((eq_iff s[p] 34).1 h)
        have b34 : ((s[p].toNat : Int) == 34) = false := beq_eq_false_iff_ne.2 h34
        have HT : Hid (Lx.tok ((bl s).drop p) = sign ((bl s).drop p)) := by show _ = _; rw [hdr.out]; unfold Lx.tok; simp only; rw [if_neg hl, if_neg hg, if_neg n34]
        have HX : Hid (bl (s.extract p s.size) = (bl s).drop p) := by show _ = _; rw [bl_ext, List.take_of_length_le (by rw [List.length_drop, bl_len]; exact Nat.le_refl _)]
        have hsz : (s.extract p s.size).size ≤ 1000000 := by rw [← bl_len, HX.out, List.length_drop, bl_len]; omega
        clear hl hg h34 n34
        go_wp2_with fail
        have hcall := refLetter (w := w1) s[p]
        rw [HL.out] at hcall
        have Hcall := Lib.hid hcall
        clear hcall
        refine Hcall.out.mono ?_
        rintro e wq ⟨rfl, hwq⟩
        obtain rfl : w1 = wq := hwq.symm
        clear Hcall
        go_wp2_with fail
        have hcall := refDigit (w := w1) s[p]
        rw [HD.out] at hcall
        have Hcall := Lib.hid hcall
        clear hcall
        refine Hcall.out.mono ?_
        rintro e wq ⟨rfl, hwq⟩
        obtain rfl : w1 = wq := hwq.symm
        clear Hcall
        go_wp2_with fail
        have hcall := refSign (w := w1) (s.extract p s.size) hsz
        have Hcall := Lib.hid hcall
        clear hcall
        refine Hcall.out.mono ?_
        rintro e w2 ⟨⟨t, rfl, ht⟩, hb2⟩
        rw [HX.out] at ht
        have HG2 : Hid (w2.heap[w.heap.size]? = some (.cells zero55 55 (0, 0))) := (hb2.block _ HS.out).trans HG.out
        have HB2 : Hid (Below w.heap.size w w2) := HB.out.trans (hb2.mono (Nat.le_of_lt HS.out))
        obtain ⟨⟨z0, z1, z2, z3, z4, z5⟩, f0, f1, f2, f3, f4, f5⟩ := z55 HG2.out
        have hl1 := bl_len t
        clear Hcall hb2
        cases hsg : sign ((bl s).drop p) with
        | bad x =>
          have h26 : x = 26 := by
            revert hsg; unfold sign; intro h; split at h
            · cases h
            · split at h
              · cases h; rfl
              · split at h
                · cases h
                · cases h; rfl
          subst h26
          have hr : Hid (Lx.tok ((bl s).drop p) = .bad 26) := HT.out.trans hsg
          have he : bl t = [] := by rw [ht]; unfold sgn; rw [hsg]
          have bt : t.toList.isEmpty = true := by rw [Lib.toList_data, List.isEmpty_iff]; exact he
          have tz : t = ⟨#[]⟩ := bytes_ext (by rw [show t.data.toList = [] from he])
          subst tz
          clear hsg ht hl1 he bt hdr
          go_wp2_with fail
          refine bodyPost_ret (results_cell_row Tryz.results23 _ _ w.heap.size 55 _ _ _ rfl (put55 HG2.out _ _ _ _ _ _) Tryz.underlying55 rfl (by kernel_rfl)) rfl ⟨?_, put55_below HB2.out (Nat.le_refl _) _ _ _ _ _ _⟩
          rw [hr.out]
          exact one_bad rfl
        | ok k st v r =>
          obtain ⟨rfl, rfl, e1, e2⟩ := sign_parts hsg
          have hr : Hid (Lx.tok ((bl s).drop p) = .ok 4 st 0 r) := HT.out.trans hsg
          have he : bl t = st := by rw [ht]; unfold sgn; rw [hsg]
          have hne : ¬ bl t = [] := by
            rw [he]; rintro rfl
            rcases e2 with h | ⟨c, h, _⟩
            · exact absurd (long_len h) (by decide)
            · cases h
          have bt : t.toList.isEmpty = false := by rw [Lib.toList_data, List.isEmpty_eq_false_iff]; exact hne
          have hlen : t.size = st.length := by rw [← hl1, he]
          have hq : s.size - r.length = p + t.size ∧ p + t.size ≤ s.size := by
            have := congrArg List.length e1
            rw [List.length_drop, bl_len, List.length_append] at this; omega
          have Hq := Lib.hid hq.1
          have Hqq := hq.2
          have He := Lib.hid he
          clear hsg ht hl1 he hne hlen hq e1 e2 hdr
          go_wp2_with fail
          refine bodyPost_ret (results_cell_row Tryz.results23 _ _ w.heap.size 55 _ _ _ rfl (put55 HG2.out _ _ _ _ _ _) Tryz.underlying55 rfl (by kernel_rfl)) rfl ⟨?_, put55_below HB2.out (Nat.le_refl _) _ _ _ _ _ _⟩
          rw [hr.out]
          exact one_ok He.out Hq.out (by first | (rw [Int.natCast_add]; rfl) | (push_cast; rfl) | simp)
end Go.Proofs.YtjfccohgkgcnfaaGreatDoor
