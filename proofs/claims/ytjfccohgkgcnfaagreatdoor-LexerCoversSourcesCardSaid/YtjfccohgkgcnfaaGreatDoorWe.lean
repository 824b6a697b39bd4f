/-
  The walk of the reference's number.
-/
import Derived.Test.YtjfccohgkgcnfaaGreatDoorWd
namespace Go.Proofs.YtjfccohgkgcnfaaGreatDoor
open Go.RowKit Go.Q Go.Lx
variable {w : World} {S : Reg} {A : Option Addr} {cap : Nat}
theorem AllIn.get {q : UInt8 → Bool} {s : ByteArray} {a b k : Nat} (h : AllIn q s a b) (h1 : a ≤ k) (h2 : k < b) (h3 : k < s.size) : q s[k] = true := by
  refine h _ ?_
  have hk : k - a < (((bl s).drop a).take (b - a)).length := by rw [List.length_take, List.length_drop, bl_len]; omega
  have e : (((bl s).drop a).take (b - a))[k - a]'hk = s[k] := by
    rw [List.getElem_take, List.getElem_drop]
    simp only [show a + (k - a) = k by omega]
    rfl
  rw [← e]; exact List.getElem_mem hk
theorem AllIn.le {q : UInt8 → Bool} {s : ByteArray} {a b k : Nat} (h : AllIn q s a b) (h2 : k ≤ b) : AllIn q s a k := by
  intro c hc
  refine h c ?_
  have : ((bl s).drop a).take (k - a) = (((bl s).drop a).take (b - a)).take (k - a) := by rw [List.take_take, Nat.min_eq_left (by omega)]
  rw [this] at hc
  exact List.mem_of_mem_take hc
theorem num_step (s : ByteArray) (p k : Nat) (hpk : p ≤ k) (hk : k < s.size) : numVal (((bl s).drop p).take (k + 1 - p)) = 10 * numVal (((bl s).drop p).take (k - p)) + (s[k].toNat - 48) := by
  rw [show k + 1 - p = (k - p) + 1 by omega, List.take_add_one, List.getElem?_drop, show p + (k - p) = k by omega, List.getElem?_eq_getElem (by rw [bl_len]; exact hk)]
  exact numVal_snoc _ _
theorem numVal_lt : ∀ (n : Nat) (d : List UInt8), d.length = n → (∀ c ∈ d, isDigit c = true) → numVal d < 10 ^ n
  | 0, d, hl, _ => by obtain rfl := List.eq_nil_of_length_eq_zero hl; exact Nat.one_pos
  | n + 1, d, hl, hd => by
    have hne : d ≠ [] := by rintro rfl; simp at hl
    obtain ⟨d', c, rfl⟩ : ∃ d' c, d = d' ++ [c] := ⟨d.dropLast, d.getLast hne, (List.dropLast_concat_getLast hne).symm⟩
    have hb := digit_bounds (hd c (by simp))
    have ih := numVal_lt n d' (by simpa using hl) (fun x hx => hd x (by simp [hx]))
    rw [numVal_snoc, Nat.pow_succ]; omega
theorem num_bound {s : ByteArray} {p j k : Nat} (h : AllIn isDigit s p j) (hpk : p ≤ k) (hkj : k ≤ j) (h15 : j - p ≤ 15) (hj : j ≤ s.size) : numVal (((bl s).drop p).take (k - p)) < 1000000000000000 := by
  have h1 := numVal_lt (k - p) _ (take_len s p k hpk (by omega)) (h.le hkj)
  have h2 : 10 ^ (k - p) ≤ 10 ^ 15 := Nat.pow_le_pow_right (by omega) (by omega)
  omega
theorem number_bad {s : ByteArray} {p j : Nat} (hw : ((bl s).drop p).takeWhile isDigit = ((bl s).drop p).take (j - p) ∧ ((bl s).drop p).dropWhile isDigit = (bl s).drop j) (hlen : (((bl s).drop p).take (j - p)).length = j - p)
    (h : 15 < j - p ∨ (1 < j - p ∧ headIs (· == 48) ((bl s).drop p) = true) ∨ headIs isLetter ((bl s).drop j) = true) : number ((bl s).drop p) = .bad 27 := by
  unfold number
  simp only
  rw [hw.1, hw.2, hlen, if_pos]
  simp only [Bool.or_eq_true, Bool.and_eq_true, decide_eq_true_eq]
  rcases h with h | h | h
  · exact .inl (.inl h)
  · exact .inl (.inr h)
  · exact .inr h
theorem number_good {s : ByteArray} {p j : Nat} (hpj : p ≤ j) (hj : j ≤ s.size) (h15 : j - p ≤ 15) (hd : AllIn isDigit s p j) (hn : headIs isDigit ((bl s).drop j) = false) (hl : headIs isLetter ((bl s).drop j) = false) (hz : 1 < j - p → headIs (· == 48) ((bl s).drop p) = false) :
    number ((bl s).drop p) = .ok 2 [] (numVal (((bl s).drop p).take (j - p))) ((bl s).drop j) := by
  have hw := hd.while hpj hn
  unfold number
  simp only
  rw [hw.1, hw.2, take_len s p j hpj hj, if_neg]
  simp only [Bool.or_eq_true, Bool.and_eq_true, decide_eq_true_eq, not_or, not_and]
  exact ⟨⟨by omega, fun h => by simpa using hz h⟩, by simpa using hl⟩
set_option maxHeartbeats 4000000 in
theorem refNumber (s : ByteArray) (p : Nat) (hp : p ≤ s.size) (hs : s.size ≤ 1000000) : Calls Tryz.prog 39 #[.string s, .int .i64 (p : Int)] w fun e w' => OneIs s.size p (number ((bl s).drop p)) e ∧ Below w.heap.size w w' := by
  go_enter Tryz.func39, Tryz.ntmps39
  go_wp2_with fail
  go_loopw [5] (fun v wr => ∃ j : Nat, p ≤ j ∧ j ≤ s.size ∧ v = .int .i64 (j : Int) ∧ Hid (AllIn isDigit s p j) ∧ wr = (w.alloc (.cells #[.int .i64 0, .int .i64 0, .string ⟨#[]⟩, .int .i64 0, .int .i64 0, .int .i64 0] 55))) (fun v _ => s.size - (intOf v).toNat)
  case atStart => exact ⟨p, Nat.le_refl _, hp, rfl, AllIn.nil _ _ _, rfl⟩
  case round =>
    obtain ⟨j, hpj, hj, rfl, hd, rfl⟩ := hrel
    by_cases hlt : j < s.size
    · by_cases hg : isDigit s[j] = true
      · have hD : Hid (isDigit s[j] = true) := hg
        have hd2 : Hid (AllIn isDigit s p (j + 1)) := hd.out.succ hpj hlt hg
        clear hg hd
        go_wp2_with fail
        have hcall := refDigit (w := (w.alloc (.cells #[.int .i64 0, .int .i64 0, .string ⟨#[]⟩, .int .i64 0, .int .i64 0, .int .i64 0] 55))) s[j]
        rw [hD.out] at hcall
        have Hcall := Lib.hid hcall
        clear hcall
        refine Hcall.out.mono ?_
        rintro e wq ⟨rfl, rfl⟩
        clear Hcall
        go_wp2_with fail
        go_roundw
        case rel => exact ⟨j + 1, by omega, by omega, by go_num, hd2, trivial⟩
        case measure => simp [intOf]; omega
      · have hD : Hid (isDigit s[j] = false) := by show _ = _; simpa using hg
        have hnd : headIs isDigit ((bl s).drop j) = false := head_at s j hj fun _ => hD.out
        have hw := hd.out.while hpj hnd
        clear hg
        have hlen := take_len s p j hpj (by omega)
        by_cases h15 : 15 < j - p
        · have t15 : decide ((15 : Int) < (j : Int) - (p : Int)) = true := by rw [decide_eq_true_eq]; omega
          have hr : Hid (number ((bl s).drop p) = .bad 27) := number_bad hw hlen (.inl h15)
          clear hd hw hlen
          go_wp2_with fail
          have hcall := refDigit (w := (w.alloc (.cells #[.int .i64 0, .int .i64 0, .string ⟨#[]⟩, .int .i64 0, .int .i64 0, .int .i64 0] 55))) s[j]
          rw [hD.out] at hcall
          have Hcall := Lib.hid hcall
          clear hcall
          refine Hcall.out.mono ?_
          rintro e wq ⟨rfl, rfl⟩
          clear Hcall
          go_wp2_with fail
          refine bodyPost_ret (results_cell_row Tryz.results39 _ _ w.heap.size 55 _ _ _ rfl (heap_alloc_new _ _) Tryz.underlying55 rfl (by kernel_rfl)) rfl ⟨?_, (Below.refl _ _).alloc (Nat.le_refl _) _⟩
          rw [hr.out]
          exact one_bad rfl
        · have t15 : decide ((15 : Int) < (j : Int) - (p : Int)) = false := by rw [decide_eq_false_iff_not]; omega
          by_cases h1 : 1 < j - p
          · have t1 : decide ((1 : Int) < (j : Int) - (p : Int)) = true := by rw [decide_eq_true_eq]; omega
            have hps : p < s.size := by omega
            by_cases hz : (s[p].toNat : Int) = 48
            · have tz : ((s[p].toNat : Int) == 48) = true := by rw [hz]; rfl
              have hr : Hid (number ((bl s).drop p) = .bad 27) := number_bad hw hlen (.inr (.inl ⟨h1, by rw [bl_drop s p hps]; exact beq_iff_eq.2 ((eq_iff s[p] 48).2 hz)⟩))
              clear hd hw hlen
              go_wp2_with fail
              have hcall := refDigit (w := (w.alloc (.cells #[.int .i64 0, .int .i64 0, .string ⟨#[]⟩, .int .i64 0, .int .i64 0, .int .i64 0] 55))) s[j]
              rw [hD.out] at hcall
              have Hcall := Lib.hid hcall
              clear hcall
              refine Hcall.out.mono ?_
              rintro e wq ⟨rfl, rfl⟩
              clear Hcall
              go_wp2_with fail
              refine bodyPost_ret (results_cell_row Tryz.results39 _ _ w.heap.size 55 _ _ _ rfl (heap_alloc_new _ _) Tryz.underlying55 rfl (by kernel_rfl)) rfl ⟨?_, (Below.refl _ _).alloc (Nat.le_refl _) _⟩
              rw [hr.out]
              exact one_bad rfl
            · have tz : ((s[p].toNat : Int) == 48) = false := beq_eq_false_iff_ne.2 hz
              have hz0 : 1 < j - p → headIs (· == 48) ((bl s).drop p) = false := fun _ => by rw [bl_drop s p hps]; exact beq_eq_false_iff_ne.2 fun e => hz ((eq_iff s[p] 48).1 e)
              by_cases hlt2 : isLetter s[j] = true
              · have hL : Hid (isLetter s[j] = true) := hlt2
                have hr : Hid (number ((bl s).drop p) = .bad 27) := number_bad hw hlen (.inr (.inr (by rw [bl_drop s j hlt]; exact hlt2)))
                clear hd hw hlen
                go_wp2_with fail
                have hcall := refDigit (w := (w.alloc (.cells #[.int .i64 0, .int .i64 0, .string ⟨#[]⟩, .int .i64 0, .int .i64 0, .int .i64 0] 55))) s[j]
                rw [hD.out] at hcall
                have Hcall := Lib.hid hcall
                clear hcall
                refine Hcall.out.mono ?_
                rintro e wq ⟨rfl, rfl⟩
                clear Hcall
                go_wp2_with fail
                have hcall := refLetter (w := (w.alloc (.cells #[.int .i64 0, .int .i64 0, .string ⟨#[]⟩, .int .i64 0, .int .i64 0, .int .i64 0] 55))) s[j]
                rw [hL.out] at hcall
                have Hcall := Lib.hid hcall
                clear hcall
                refine Hcall.out.mono ?_
                rintro e wq ⟨rfl, rfl⟩
                clear Hcall
                go_wp2_with fail
                refine bodyPost_ret (results_cell_row Tryz.results39 _ _ w.heap.size 55 _ _ _ rfl (heap_alloc_new _ _) Tryz.underlying55 rfl (by kernel_rfl)) rfl ⟨?_, (Below.refl _ _).alloc (Nat.le_refl _) _⟩
                rw [hr.out]
                exact one_bad rfl
              · have hL : Hid (isLetter s[j] = false) := by show _ = _; simpa using hlt2
                have hlt3 : headIs isLetter ((bl s).drop j) = false := by rw [bl_drop s j hlt]; exact hL.out
                clear hlt2
                have hr : Hid (number ((bl s).drop p) = .ok 2 [] (numVal (((bl s).drop p).take (j - p))) ((bl s).drop j)) := number_good hpj (by omega) (by omega) hd.out hnd hlt3 hz0
                have hq : Hid (s.size - ((bl s).drop j).length = j) := by show _ = _; rw [List.length_drop, bl_len]; omega
                clear hw hlen hnd
                go_wp2_with fail
                have hcall := refDigit (w := (w.alloc (.cells #[.int .i64 0, .int .i64 0, .string ⟨#[]⟩, .int .i64 0, .int .i64 0, .int .i64 0] 55))) s[j]
                rw [hD.out] at hcall
                have Hcall := Lib.hid hcall
                clear hcall
                refine Hcall.out.mono ?_
                rintro e wq ⟨rfl, rfl⟩
                clear Hcall
                go_wp2_with fail
                have hcall := refLetter (w := (w.alloc (.cells #[.int .i64 0, .int .i64 0, .string ⟨#[]⟩, .int .i64 0, .int .i64 0, .int .i64 0] 55))) s[j]
                rw [hL.out] at hcall
                have Hcall := Lib.hid hcall
                clear hcall
                refine Hcall.out.mono ?_
                rintro e wq ⟨rfl, rfl⟩
                clear Hcall
                go_wp2_with fail
                go_loopw [6, 7] (fun v u wr => ∃ k : Nat, p ≤ k ∧ k ≤ j ∧ u = .int .i64 (k : Int) ∧ v = .int .i64 (numVal (((bl s).drop p).take (k - p)) : Int) ∧ wr = (w.alloc (.cells #[.int .i64 0, .int .i64 0, .string ⟨#[]⟩, .int .i64 0, .int .i64 0, .int .i64 0] 55))) (fun _ u _ => j - (intOf u).toNat)
                case atStart => exact ⟨p, by omega, by omega, rfl, by rw [Nat.sub_self]; rfl, rfl⟩
                case round =>
                  obtain ⟨k, hpk, hkj, rfl, rfl, rfl⟩ := hrel
                  by_cases hkl : k < j
                  · have hks : k < s.size := by omega
                    have hdk := digit_bounds (hd.out.get hpk hkl hks)
                    have hst := num_step s p k hpk hks
                    have hbd := num_bound hd.out hpk hkj (by omega) (by omega)
                    have hbd2 : numVal (((bl s).drop p).take (k + 1 - p)) < 1000000000000000 := num_bound hd.out (by omega) hkl (by omega) (by omega)
                    obtain ⟨V, hV⟩ : ∃ V, V = numVal (((bl s).drop p).take (k - p)) := ⟨_, rfl⟩
                    obtain ⟨V2, hV2⟩ : ∃ V2, V2 = numVal (((bl s).drop p).take (k + 1 - p)) := ⟨_, rfl⟩
                    rw [← hV, ← hV2] at hst
                    rw [← hV] at hbd ⊢
                    rw [← hV2] at hbd2
                    have HV2 := Lib.hid hV2
                    clear hV hV2
                    have Hst := Lib.hid hst
                    clear hst
                    go_wp2_with fail
                    go_roundw
                    case rel => exact ⟨k + 1, by omega, by omega, by go_num, by rw [← HV2.out, Hst.out]; congr 1; omega, trivial⟩
                    case measure => simp [intOf]; omega
                  · obtain rfl : k = j := by omega
                    go_wp2_with fail
                    refine bodyPost_ret (results_cell_row Tryz.results39 _ _ w.heap.size 55 _ _ _ rfl (heap_alloc_new _ _) Tryz.underlying55 rfl (by kernel_rfl)) rfl ⟨?_, (Below.refl _ _).alloc (Nat.le_refl _) _⟩
                    rw [hr.out]
                    exact one_ok rfl hq.out (by first | rfl | (rw [hjs]; rfl))
          · have t1 : decide ((1 : Int) < (j : Int) - (p : Int)) = false := by rw [decide_eq_false_iff_not]; omega
            have hz0 : 1 < j - p → headIs (· == 48) ((bl s).drop p) = false := fun h => absurd h h1
            by_cases hlt2 : isLetter s[j] = true
            · have hL : Hid (isLetter s[j] = true) := hlt2
              have hr : Hid (number ((bl s).drop p) = .bad 27) := number_bad hw hlen (.inr (.inr (by rw [bl_drop s j hlt]; exact hlt2)))
              clear hd hw hlen
              go_wp2_with fail
              have hcall := refDigit (w := (w.alloc (.cells #[.int .i64 0, .int .i64 0, .string ⟨#[]⟩, .int .i64 0, .int .i64 0, .int .i64 0] 55))) s[j]
              rw [hD.out] at hcall
              have Hcall := Lib.hid hcall
              clear hcall
              refine Hcall.out.mono ?_
              rintro e wq ⟨rfl, rfl⟩
              clear Hcall
              go_wp2_with fail
              have hcall := refLetter (w := (w.alloc (.cells #[.int .i64 0, .int .i64 0, .string ⟨#[]⟩, .int .i64 0, .int .i64 0, .int .i64 0] 55))) s[j]
              rw [hL.out] at hcall
              have Hcall := Lib.hid hcall
              clear hcall
              refine Hcall.out.mono ?_
              rintro e wq ⟨rfl, rfl⟩
              clear Hcall
              go_wp2_with fail
              refine bodyPost_ret (results_cell_row Tryz.results39 _ _ w.heap.size 55 _ _ _ rfl (heap_alloc_new _ _) Tryz.underlying55 rfl (by kernel_rfl)) rfl ⟨?_, (Below.refl _ _).alloc (Nat.le_refl _) _⟩
              rw [hr.out]
              exact one_bad rfl
            · have hL : Hid (isLetter s[j] = false) := by show _ = _; simpa using hlt2
              have hlt3 : headIs isLetter ((bl s).drop j) = false := by rw [bl_drop s j hlt]; exact hL.out
              clear hlt2
              have hr : Hid (number ((bl s).drop p) = .ok 2 [] (numVal (((bl s).drop p).take (j - p))) ((bl s).drop j)) := number_good hpj (by omega) (by omega) hd.out hnd hlt3 hz0
              have hq : Hid (s.size - ((bl s).drop j).length = j) := by show _ = _; rw [List.length_drop, bl_len]; omega
              clear hw hlen hnd
              go_wp2_with fail
              have hcall := refDigit (w := (w.alloc (.cells #[.int .i64 0, .int .i64 0, .string ⟨#[]⟩, .int .i64 0, .int .i64 0, .int .i64 0] 55))) s[j]
              rw [hD.out] at hcall
              have Hcall := Lib.hid hcall
              clear hcall
              refine Hcall.out.mono ?_
              rintro e wq ⟨rfl, rfl⟩
              clear Hcall
              go_wp2_with fail
              have hcall := refLetter (w := (w.alloc (.cells #[.int .i64 0, .int .i64 0, .string ⟨#[]⟩, .int .i64 0, .int .i64 0, .int .i64 0] 55))) s[j]
              rw [hL.out] at hcall
              have Hcall := Lib.hid hcall
              clear hcall
              refine Hcall.out.mono ?_
              rintro e wq ⟨rfl, rfl⟩
              clear Hcall
              go_wp2_with fail
              go_loopw [6, 7] (fun v u wr => ∃ k : Nat, p ≤ k ∧ k ≤ j ∧ u = .int .i64 (k : Int) ∧ v = .int .i64 (numVal (((bl s).drop p).take (k - p)) : Int) ∧ wr = (w.alloc (.cells #[.int .i64 0, .int .i64 0, .string ⟨#[]⟩, .int .i64 0, .int .i64 0, .int .i64 0] 55))) (fun _ u _ => j - (intOf u).toNat)
              case atStart => exact ⟨p, by omega, by omega, rfl, by rw [Nat.sub_self]; rfl, rfl⟩
              case round =>
                obtain ⟨k, hpk, hkj, rfl, rfl, rfl⟩ := hrel
                by_cases hkl : k < j
                · have hks : k < s.size := by omega
                  have hdk := digit_bounds (hd.out.get hpk hkl hks)
                  have hst := num_step s p k hpk hks
                  have hbd := num_bound hd.out hpk hkj (by omega) (by omega)
                  have hbd2 : numVal (((bl s).drop p).take (k + 1 - p)) < 1000000000000000 := num_bound hd.out (by omega) hkl (by omega) (by omega)
                  obtain ⟨V, hV⟩ : ∃ V, V = numVal (((bl s).drop p).take (k - p)) := ⟨_, rfl⟩
                  obtain ⟨V2, hV2⟩ : ∃ V2, V2 = numVal (((bl s).drop p).take (k + 1 - p)) := ⟨_, rfl⟩
                  rw [← hV, ← hV2] at hst
                  rw [← hV] at hbd ⊢
                  rw [← hV2] at hbd2
                  have HV2 := Lib.hid hV2
                  clear hV hV2
                  have Hst := Lib.hid hst
                  clear hst
                  go_wp2_with fail
                  go_roundw
                  case rel => exact ⟨k + 1, by omega, by omega, by go_num, by rw [← HV2.out, Hst.out]; congr 1; omega, trivial⟩
                  case measure => simp [intOf]; omega
                · obtain rfl : k = j := by omega
                  go_wp2_with fail
                  refine bodyPost_ret (results_cell_row Tryz.results39 _ _ w.heap.size 55 _ _ _ rfl (heap_alloc_new _ _) Tryz.underlying55 rfl (by kernel_rfl)) rfl ⟨?_, (Below.refl _ _).alloc (Nat.le_refl _) _⟩
                  rw [hr.out]
                  exact one_ok rfl hq.out (by first | rfl | (rw [hjs]; rfl))
    · obtain rfl : j = s.size := by omega
      have hnd : headIs isDigit ((bl s).drop s.size) = false := by rw [bl_end]; rfl
      have hw := hd.out.while hpj hnd
      obtain ⟨j, hjs⟩ : ∃ j, j = s.size := ⟨_, rfl⟩
      rw [← hjs] at hlt hpj hj hd hw hnd ⊢
      have hlen := take_len s p j hpj (by omega)
      by_cases h15 : 15 < j - p
      · have t15 : decide ((15 : Int) < (j : Int) - (p : Int)) = true := by rw [decide_eq_true_eq]; omega
        have hr : Hid (number ((bl s).drop p) = .bad 27) := number_bad hw hlen (.inl h15)
        clear hd hw hlen
        go_wp2_with fail
        refine bodyPost_ret (results_cell_row Tryz.results39 _ _ w.heap.size 55 _ _ _ rfl (heap_alloc_new _ _) Tryz.underlying55 rfl (by kernel_rfl)) rfl ⟨?_, (Below.refl _ _).alloc (Nat.le_refl _) _⟩
        rw [hr.out]
        exact one_bad rfl
      · have t15 : decide ((15 : Int) < (j : Int) - (p : Int)) = false := by rw [decide_eq_false_iff_not]; omega
        by_cases h1 : 1 < j - p
        · have t1 : decide ((1 : Int) < (j : Int) - (p : Int)) = true := by rw [decide_eq_true_eq]; omega
          have hps : p < s.size := by omega
          by_cases hz : (s[p].toNat : Int) = 48
          · have tz : ((s[p].toNat : Int) == 48) = true := by rw [hz]; rfl
            have hr : Hid (number ((bl s).drop p) = .bad 27) := number_bad hw hlen (.inr (.inl ⟨h1, by rw [bl_drop s p hps]; exact beq_iff_eq.2 ((eq_iff s[p] 48).2 hz)⟩))
            clear hd hw hlen
            go_wp2_with fail
            refine bodyPost_ret (results_cell_row Tryz.results39 _ _ w.heap.size 55 _ _ _ rfl (heap_alloc_new _ _) Tryz.underlying55 rfl (by kernel_rfl)) rfl ⟨?_, (Below.refl _ _).alloc (Nat.le_refl _) _⟩
            rw [hr.out]
            exact one_bad rfl
          · have tz : ((s[p].toNat : Int) == 48) = false := beq_eq_false_iff_ne.2 hz
            have hz0 : 1 < j - p → headIs (· == 48) ((bl s).drop p) = false := fun _ => by rw [bl_drop s p hps]; exact beq_eq_false_iff_ne.2 fun e => hz ((eq_iff s[p] 48).1 e)
            have hlt3 : headIs isLetter ((bl s).drop j) = false := by rw [hjs, bl_end]; rfl
            have hr : Hid (number ((bl s).drop p) = .ok 2 [] (numVal (((bl s).drop p).take (j - p))) ((bl s).drop j)) := number_good hpj (by omega) (by omega) hd.out hnd hlt3 hz0
            have hq : Hid (s.size - ((bl s).drop j).length = j) := by show _ = _; rw [List.length_drop, bl_len]; omega
            clear hw hlen hnd
            go_wp2_with fail
            go_loopw [6, 7] (fun v u wr => ∃ k : Nat, p ≤ k ∧ k ≤ j ∧ u = .int .i64 (k : Int) ∧ v = .int .i64 (numVal (((bl s).drop p).take (k - p)) : Int) ∧ wr = (w.alloc (.cells #[.int .i64 0, .int .i64 0, .string ⟨#[]⟩, .int .i64 0, .int .i64 0, .int .i64 0] 55))) (fun _ u _ => j - (intOf u).toNat)
            case atStart => exact ⟨p, by omega, by omega, rfl, by rw [Nat.sub_self]; rfl, rfl⟩
            case round =>
              obtain ⟨k, hpk, hkj, rfl, rfl, rfl⟩ := hrel
              by_cases hkl : k < j
              · have hks : k < s.size := by omega
                have hdk := digit_bounds (hd.out.get hpk hkl hks)
                have hst := num_step s p k hpk hks
                have hbd := num_bound hd.out hpk hkj (by omega) (by omega)
                have hbd2 : numVal (((bl s).drop p).take (k + 1 - p)) < 1000000000000000 := num_bound hd.out (by omega) hkl (by omega) (by omega)
                obtain ⟨V, hV⟩ : ∃ V, V = numVal (((bl s).drop p).take (k - p)) := ⟨_, rfl⟩
                obtain ⟨V2, hV2⟩ : ∃ V2, V2 = numVal (((bl s).drop p).take (k + 1 - p)) := ⟨_, rfl⟩
                rw [← hV, ← hV2] at hst
                rw [← hV] at hbd ⊢
                rw [← hV2] at hbd2
                have HV2 := Lib.hid hV2
                clear hV hV2
                have Hst := Lib.hid hst
                clear hst
                go_wp2_with fail
                go_roundw
                case rel => exact ⟨k + 1, by omega, by omega, by go_num, by rw [← HV2.out, Hst.out]; congr 1; omega, trivial⟩
                case measure => simp [intOf]; omega
              · obtain rfl : k = j := by omega
                go_wp2_with fail
                refine bodyPost_ret (results_cell_row Tryz.results39 _ _ w.heap.size 55 _ _ _ rfl (heap_alloc_new _ _) Tryz.underlying55 rfl (by kernel_rfl)) rfl ⟨?_, (Below.refl _ _).alloc (Nat.le_refl _) _⟩
                rw [hr.out]
                exact one_ok rfl hq.out (by first | rfl | (rw [hjs]; rfl))
        · have t1 : decide ((1 : Int) < (j : Int) - (p : Int)) = false := by rw [decide_eq_false_iff_not]; omega
          have hz0 : 1 < j - p → headIs (· == 48) ((bl s).drop p) = false := fun h => absurd h h1
          have hlt3 : headIs isLetter ((bl s).drop j) = false := by rw [hjs, bl_end]; rfl
          have hr : Hid (number ((bl s).drop p) = .ok 2 [] (numVal (((bl s).drop p).take (j - p))) ((bl s).drop j)) := number_good hpj (by omega) (by omega) hd.out hnd hlt3 hz0
          have hq : Hid (s.size - ((bl s).drop j).length = j) := by show _ = _; rw [List.length_drop, bl_len]; omega
          clear hw hlen hnd
          go_wp2_with fail
          go_loopw [6, 7] (fun v u wr => ∃ k : Nat, p ≤ k ∧ k ≤ j ∧ u = .int .i64 (k : Int) ∧ v = .int .i64 (numVal (((bl s).drop p).take (k - p)) : Int) ∧ wr = (w.alloc (.cells #[.int .i64 0, .int .i64 0, .string ⟨#[]⟩, .int .i64 0, .int .i64 0, .int .i64 0] 55))) (fun _ u _ => j - (intOf u).toNat)
          case atStart => exact ⟨p, by omega, by omega, rfl, by rw [Nat.sub_self]; rfl, rfl⟩
          case round =>
            obtain ⟨k, hpk, hkj, rfl, rfl, rfl⟩ := hrel
            by_cases hkl : k < j
            · have hks : k < s.size := by omega
              have hdk := digit_bounds (hd.out.get hpk hkl hks)
              have hst := num_step s p k hpk hks
              have hbd := num_bound hd.out hpk hkj (by omega) (by omega)
              have hbd2 : numVal (((bl s).drop p).take (k + 1 - p)) < 1000000000000000 := num_bound hd.out (by omega) hkl (by omega) (by omega)
              obtain ⟨V, hV⟩ : ∃ V, V = numVal (((bl s).drop p).take (k - p)) := ⟨_, rfl⟩
              obtain ⟨V2, hV2⟩ : ∃ V2, V2 = numVal (((bl s).drop p).take (k + 1 - p)) := ⟨_, rfl⟩
              rw [← hV, ← hV2] at hst
              rw [← hV] at hbd ⊢
              rw [← hV2] at hbd2
              have HV2 := Lib.hid hV2
              clear hV hV2
              have Hst := Lib.hid hst
              clear hst
              go_wp2_with fail
              go_roundw
              case rel => exact ⟨k + 1, by omega, by omega, by go_num, by rw [← HV2.out, Hst.out]; congr 1; omega, trivial⟩
              case measure => simp [intOf]; omega
            · obtain rfl : k = j := by omega
              go_wp2_with fail
              refine bodyPost_ret (results_cell_row Tryz.results39 _ _ w.heap.size 55 _ _ _ rfl (heap_alloc_new _ _) Tryz.underlying55 rfl (by kernel_rfl)) rfl ⟨?_, (Below.refl _ _).alloc (Nat.le_refl _) _⟩
              rw [hr.out]
              exact one_ok rfl hq.out (by first | rfl | (rw [hjs]; rfl))
end Go.Proofs.YtjfccohgkgcnfaaGreatDoor
