/-
  Strings as lists of bytes, at an offset; the walk of the reference's Blank.
-/
import Derived.Test.YtjfccohgkgcnfaaGreatDoorWa
namespace Go.Proofs.YtjfccohgkgcnfaaGreatDoor
open Go.RowKit Go.Q Go.Lx
variable {w : World}
/-- The bytes of a string. -/
abbrev bl (s : ByteArray) : List UInt8 := s.data.toList
theorem bl_len (s : ByteArray) : (bl s).length = s.size := (Lib.size_eq s).symm
theorem bl_drop (s : ByteArray) (i : Nat) (h : i < s.size) : (bl s).drop i = s[i] :: (bl s).drop (i + 1) := by
  rw [List.drop_eq_getElem_cons (by rw [bl_len]; exact h)]; rfl
theorem bl_end (s : ByteArray) : (bl s).drop s.size = [] := by rw [← bl_len]; exact List.drop_length
theorem bl_ext (s : ByteArray) (a b : Nat) : bl (s.extract a b) = ((bl s).drop a).take (b - a) := Lib.extract_data s a b
theorem skip_false_blank {c : UInt8} {r : List UInt8} (h : isBlank c = true) : skip false (c :: r) = skip false r := by rw [skip_false_cons, if_pos h]
theorem skip_false_sharp {c : UInt8} {r : List UInt8} (h : c = 35) : skip false (c :: r) = skip true r := by subst h; rfl
theorem skip_true_stay {c : UInt8} {r : List UInt8} (h : ¬ c = 10) : skip true (c :: r) = skip true r := by rw [skip_true_cons, if_neg h]
theorem skip_true_feed {r : List UInt8} (h : headIs (· == 10) r = true ∨ r = []) : skip true r = skip false r := by
  rcases h with h | rfl
  · cases r with
    | nil => rfl
    | cons c r => have : (c == 10) = true := h; rw [beq_iff_eq] at this; subst this; rfl
  · rfl
set_option maxHeartbeats 1000000 in
theorem refBlank (s : ByteArray) (p : Nat) (hp : p ≤ s.size) (hs : s.size ≤ 1000000) : Calls Tryz.prog 19 #[.string s, .int .i64 (p : Int)] w fun e w' => e = .returned (.int .i64 ((s.size - (skip false ((bl s).drop p)).length : Nat) : Int)) ∧ w' = w := by
  obtain ⟨R, hR⟩ : ∃ R, skip false ((bl s).drop p) = R := ⟨_, rfl⟩
  rw [hR]
  go_enter Tryz.func19, Tryz.ntmps19
  go_wp2
  go_loop [1] (fun v => ∃ i : Nat, i ≤ s.size ∧ v = .int .i64 (i : Int) ∧ Hid (skip false ((bl s).drop i) = R)) (fun v => s.size - (intOf v).toNat)
  case atStart => exact ⟨p, hp, rfl, hR⟩
  case round =>
    obtain ⟨i, hi, rfl, hd⟩ := hrel
    clear hR
    by_cases hlt : i < s.size
    · have hdr := Lib.hid (bl_drop s i hlt)
      by_cases hb : isBlank s[i] = true
      · have hd2 : Hid (skip false ((bl s).drop (i + 1)) = R) := by show _ = _; rw [← hd.out, hdr.out, skip_false_blank hb]
        rw [blank_iff] at hb
        clear hdr hd
        rcases hb with hb | hb | hb | hb
        all_goals
          go_wp2
          go_round
          case rel => exact ⟨i + 1, by omega, by go_num, hd2⟩
          case measure => simp [intOf]; omega
      · have hb2 := hb
        rw [blank_iff] at hb2
        have n1 : ((s[i].toNat : Int) == 32) = false := beq_eq_false_iff_ne.2 fun h => hb2 (.inl h)
        have n2 : ((s[i].toNat : Int) == 9) = false := beq_eq_false_iff_ne.2 fun h => hb2 (.inr (.inl h))
        have n3 : ((s[i].toNat : Int) == 10) = false := beq_eq_false_iff_ne.2 fun h => hb2 (.inr (.inr (.inl h)))
        have n4 : ((s[i].toNat : Int) == 13) = false := beq_eq_false_iff_ne.2 fun h => hb2 (.inr (.inr (.inr h)))
        have n5 : ¬ (s[i].toNat : Int) = 10 := fun h => hb2 (.inr (.inr (.inl h)))
        clear hb2
        by_cases h35 : (s[i].toNat : Int) = 35
        · have hd2 : Hid (skip true ((bl s).drop (i + 1)) = R) := by show _ = _; rw [← hd.out, hdr.out, skip_false_sharp ((eq_iff _ _).2 h35)]
          have hd1 : Hid (skip true ((bl s).drop i) = R) := by show _ = _; rw [hdr.out, skip_true_stay (fun e => n5 ((eq_iff _ 10).1 e))]; exact hd2.out
          clear hdr hd hb
          go_wp2
          go_loop [1] (fun v => ∃ j : Nat, i ≤ j ∧ j ≤ s.size ∧ v = .int .i64 (j : Int) ∧ Hid (skip true ((bl s).drop j) = R)) (fun v => s.size - (intOf v).toNat)
          case atStart => exact ⟨i, Nat.le_refl _, hi, rfl, hd1⟩
          case round =>
            obtain ⟨j, hij, hj, rfl, hdj⟩ := hrel
            clear hd1 hd2
            by_cases hjl : j < s.size
            · have hdr := Lib.hid (bl_drop s j hjl)
              by_cases h10 : (s[j].toNat : Int) = 10
              · have hne : ¬ i = j := by rintro rfl; exact n5 h10
                have hd2 : Hid (skip false ((bl s).drop j) = R) := by show _ = _; rw [← hdj.out, skip_true_feed]; left; rw [hdr.out]; show (s[j] == 10) = true; rw [beq_iff_eq]; exact (eq_iff _ 10).2 h10
                clear hdr hdj
                go_wp2
                go_round
                case rel => exact ⟨j, by omega, by go_num, hd2⟩
                case measure => simp [intOf]; omega
              · have hd2 : Hid (skip true ((bl s).drop (j + 1)) = R) := by show _ = _; rw [← hdj.out, hdr.out, skip_true_stay (fun e => h10 ((eq_iff _ 10).1 e))]
                clear hdr hdj
                go_wp2
                go_round
                case rel => exact ⟨j + 1, by omega, by omega, by go_num, hd2⟩
                case measure => simp [intOf]; omega
            · obtain rfl : j = s.size := by omega
              have hd2 : Hid (skip false ((bl s).drop s.size) = R) := by show _ = _; rw [← hdj.out, skip_true_feed]; right; exact bl_end s
              clear hdj
              go_wp2
              go_round
              case rel => exact ⟨s.size, by omega, by go_num, hd2⟩
              case measure => simp [intOf]; omega
        · have b35 : ((s[i].toNat : Int) == 35) = false := beq_eq_false_iff_ne.2 h35
          have hR2 : Hid (s.size - R.length = i) := by
            show _ = _
            rw [← hd.out, hdr.out, skip_stay (by simpa using hb) (fun e => h35 ((eq_iff _ 35).1 e)), ← hdr.out, List.length_drop, bl_len]; omega
          clear hdr hd hb
          go_wp2
          go_ret
          exact ⟨ret_int (by rw [hR2.out]), rfl⟩
    · obtain rfl : i = s.size := by omega
      have hR2 : Hid (s.size - R.length = s.size) := by show _ = _; rw [← hd.out, bl_end]; simp [skip]
      clear hd
      go_wp2
      go_ret
      exact ⟨ret_int (by rw [hR2.out]), rfl⟩
end Go.Proofs.YtjfccohgkgcnfaaGreatDoor
