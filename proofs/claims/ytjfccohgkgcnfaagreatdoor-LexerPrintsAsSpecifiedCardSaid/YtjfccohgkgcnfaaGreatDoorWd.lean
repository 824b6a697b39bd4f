/-
  The walks of the reference's name and number.
-/
import Derived.Test.YtjfccohgkgcnfaaGreatDoorWb
namespace Go.Proofs.YtjfccohgkgcnfaaGreatDoor
open Go.RowKit Go.Q Go.Lx
variable {w : World} {S : Reg} {A : Option Addr} {cap : Nat}
/-- What the reference hands back of one token of a source of n bytes, read at p. -/
def OneIs (n p : Nat) (o : Out) (e : Ending) : Prop :=
  match o with
  | .ok k s v t => ∃ b, bl b = s ∧ e = .returned (.agg #[.int .i64 (k : Int), .int .i64 (p : Int), .string b, .int .i64 (v : Int), .int .i64 ((n - t.length : Nat) : Int), .int .i64 0])
  | .bad x => e = .returned (.agg #[.int .i64 0, .int .i64 0, .string ⟨#[]⟩, .int .i64 0, .int .i64 0, .int .i64 (x : Int)])
/-- From a to b all bytes are p's. -/
def AllIn (p : UInt8 → Bool) (s : ByteArray) (a b : Nat) : Prop := ∀ c ∈ ((bl s).drop a).take (b - a), p c = true
theorem AllIn.nil (p : UInt8 → Bool) (s : ByteArray) (a : Nat) : AllIn p s a a := by intro c hc; rw [Nat.sub_self] at hc; simp at hc
theorem AllIn.succ {p : UInt8 → Bool} {s : ByteArray} {a b : Nat} (h : AllIn p s a b) (hab : a ≤ b) (hb : b < s.size) (hp : p s[b] = true) : AllIn p s a (b + 1) := by
  intro c hc
  have e : b + 1 - a = (b - a) + 1 := by omega
  rw [e, List.take_add_one, List.getElem?_drop, show a + (b - a) = b by omega] at hc
  rcases List.mem_append.1 hc with hc | hc
  · exact h c hc
  · rw [List.getElem?_eq_getElem (by rw [bl_len]; exact hb)] at hc
    simp only [Option.toList_some, List.mem_singleton] at hc
    rw [hc]; exact hp
theorem AllIn.while {p : UInt8 → Bool} {s : ByteArray} {a b : Nat} (h : AllIn p s a b) (hab : a ≤ b) (hb : headIs p ((bl s).drop b) = false) :
    ((bl s).drop a).takeWhile p = ((bl s).drop a).take (b - a) ∧ ((bl s).drop a).dropWhile p = (bl s).drop b := by
  have e : (bl s).drop a = ((bl s).drop a).take (b - a) ++ (bl s).drop b := by
    have := (List.take_append_drop (b - a) ((bl s).drop a)).symm
    rw [List.drop_drop, show a + (b - a) = b by omega] at this
    exact this
  have := takeWhile_app p _ _ h hb
  rw [← e] at this
  exact this
theorem head_at {p : UInt8 → Bool} (s : ByteArray) (b : Nat) (hb : b ≤ s.size) (h : ∀ hlt : b < s.size, p s[b] = false) : headIs p ((bl s).drop b) = false := by
  by_cases hlt : b < s.size
  · rw [bl_drop s b hlt]; exact h hlt
  · obtain rfl : b = s.size := by omega
    rw [bl_end]; rfl
theorem take_len (s : ByteArray) (a b : Nat) (hab : a ≤ b) (hb : b ≤ s.size) : (((bl s).drop a).take (b - a)).length = b - a := by
  rw [List.length_take, List.length_drop, bl_len]; omega
theorem one_bad {n p x : Nat} {e : Ending} (h : e = .returned (.agg #[.int .i64 0, .int .i64 0, .string ⟨#[]⟩, .int .i64 0, .int .i64 0, .int .i64 (x : Int)])) : OneIs n p (.bad x) e := h
theorem one_ok {n p k v q : Nat} {t l : List UInt8} {b : ByteArray} {e : Ending} (hb : bl b = l) (hq : n - t.length = q) (h : e = .returned (.agg #[.int .i64 (k : Int), .int .i64 (p : Int), .string b, .int .i64 (v : Int), .int .i64 (q : Int), .int .i64 0])) : OneIs n p (.ok k l v t) e := ⟨b, hb, by rw [hq]; exact h⟩
set_option maxHeartbeats 1000000 in
theorem refName (s : ByteArray) (p : Nat) (hp : p ≤ s.size) (hs : s.size ≤ 1000000) : Calls Tryz.prog 37 #[.string s, .int .i64 (p : Int)] w fun e w' => OneIs s.size p (name ((bl s).drop p)) e ∧ Below w.heap.size w w' := by
  go_enter Tryz.func37, Tryz.ntmps37
  go_wp2_with fail
  go_loopw [5] (fun v wr => ∃ j : Nat, p ≤ j ∧ j ≤ s.size ∧ v = .int .i64 (j : Int) ∧ Hid (AllIn isWord s p j) ∧ wr = (w.alloc (.cells #[.int .i64 0, .int .i64 0, .string ⟨#[]⟩, .int .i64 0, .int .i64 0, .int .i64 0] 55))) (fun v _ => s.size - (intOf v).toNat)
  case atStart => exact ⟨p, Nat.le_refl _, hp, rfl, AllIn.nil _ _ _, rfl⟩
  case round =>
    obtain ⟨j, hpj, hj, rfl, hd, rfl⟩ := hrel
    by_cases hlt : j < s.size
    · by_cases hl : isLetter s[j] = true
      · have hL : Hid (isLetter s[j] = true) := hl
        have hd2 : Hid (AllIn isWord s p (j + 1)) := hd.out.succ hpj hlt (by simp [isWord, hl])
        clear hl hd
        go_wp2_with fail
        have hcall := refLetter (w := (w.alloc (.cells #[.int .i64 0, .int .i64 0, .string ⟨#[]⟩, .int .i64 0, .int .i64 0, .int .i64 0] 55))) s[j]
        rw [hL.out] at hcall
        have Hcall := Lib.hid hcall
        clear hcall
        refine Hcall.out.mono ?_
        rintro e wq ⟨rfl, rfl⟩
        clear Hcall
        go_wp2_with fail
        go_roundw
        case rel => exact ⟨j + 1, by omega, by omega, by go_num, hd2, trivial⟩
        case measure => simp [intOf]; omega
      · have hL : Hid (isLetter s[j] = false) := by show _ = _; simpa using hl
        by_cases hg : isDigit s[j] = true
        · have hD : Hid (isDigit s[j] = true) := hg
          have hd2 : Hid (AllIn isWord s p (j + 1)) := hd.out.succ hpj hlt (by simp [isWord, hg])
          clear hl hg hd
          go_wp2_with fail
          have hcall := refLetter (w := (w.alloc (.cells #[.int .i64 0, .int .i64 0, .string ⟨#[]⟩, .int .i64 0, .int .i64 0, .int .i64 0] 55))) s[j]
          rw [hL.out] at hcall
          have Hcall := Lib.hid hcall
          clear hcall
          refine Hcall.out.mono ?_
          rintro e wq ⟨rfl, rfl⟩
          clear Hcall
          go_wp2_with fail
          have hcall := refDigit (w := (w.alloc (.cells #[.int .i64 0, .int .i64 0, .string ⟨#[]⟩, .int .i64 0, .int .i64 0, .int .i64 0] 55))) s[j]
          rw [hD.out] at hcall
          have Hcall := Lib.hid hcall
          clear hcall
          refine Hcall.out.mono ?_
          rintro e wq ⟨rfl, rfl⟩
          clear Hcall
          go_wp2_with fail
          go_roundw
          case rel => exact ⟨j + 1, by omega, by omega, by go_num, hd2, trivial⟩
          case measure => simp [intOf]; omega
        · have hD : Hid (isDigit s[j] = false) := by show _ = _; simpa using hg
          have hw := hd.out.while hpj (head_at s j hj fun _ => by simp [isWord, hL.out, hD.out])
          clear hl hg
          have hlen := take_len s p j hpj (by omega)
          by_cases h32 : 32 < j - p
          · have t32 : decide ((32 : Int) < (j : Int) - (p : Int)) = true := by rw [decide_eq_true_eq]; omega
            have hr : Hid (name ((bl s).drop p) = .bad 2) := by show _ = _; unfold name; rw [hw.1, hlen, if_pos h32]
            clear hd hw hlen
            go_wp2_with fail
            have hcall := refLetter (w := (w.alloc (.cells #[.int .i64 0, .int .i64 0, .string ⟨#[]⟩, .int .i64 0, .int .i64 0, .int .i64 0] 55))) s[j]
            rw [hL.out] at hcall
            have Hcall := Lib.hid hcall
            clear hcall
            refine Hcall.out.mono ?_
            rintro e wq ⟨rfl, rfl⟩
            clear Hcall
            go_wp2_with fail
            have hcall := refDigit (w := (w.alloc (.cells #[.int .i64 0, .int .i64 0, .string ⟨#[]⟩, .int .i64 0, .int .i64 0, .int .i64 0] 55))) s[j]
            rw [hD.out] at hcall
            have Hcall := Lib.hid hcall
            clear hcall
            refine Hcall.out.mono ?_
            rintro e wq ⟨rfl, rfl⟩
            clear Hcall
            go_wp2_with fail
            refine bodyPost_ret (results_cell_row Tryz.results37 _ _ w.heap.size 55 _ _ _ rfl (heap_alloc_new _ _) Tryz.underlying55 rfl (by kernel_rfl)) rfl ⟨?_, (Below.refl _ _).alloc (Nat.le_refl _) _⟩
            rw [hr.out]
            exact one_bad rfl
          · have t32 : decide ((32 : Int) < (j : Int) - (p : Int)) = false := by rw [decide_eq_false_iff_not]; omega
            have hr : Hid (name ((bl s).drop p) = .ok 1 (((bl s).drop p).take (j - p)) 0 ((bl s).drop j)) := by show _ = _; unfold name; rw [hw.1, hw.2, hlen, if_neg h32]
            have hq : Hid (s.size - ((bl s).drop j).length = j) := by show _ = _; rw [List.length_drop, bl_len]; omega
            clear hd hw hlen
            go_wp2_with fail
            have hcall := refLetter (w := (w.alloc (.cells #[.int .i64 0, .int .i64 0, .string ⟨#[]⟩, .int .i64 0, .int .i64 0, .int .i64 0] 55))) s[j]
            rw [hL.out] at hcall
            have Hcall := Lib.hid hcall
            clear hcall
            refine Hcall.out.mono ?_
            rintro e wq ⟨rfl, rfl⟩
            clear Hcall
            go_wp2_with fail
            have hcall := refDigit (w := (w.alloc (.cells #[.int .i64 0, .int .i64 0, .string ⟨#[]⟩, .int .i64 0, .int .i64 0, .int .i64 0] 55))) s[j]
            rw [hD.out] at hcall
            have Hcall := Lib.hid hcall
            clear hcall
            refine Hcall.out.mono ?_
            rintro e wq ⟨rfl, rfl⟩
            clear Hcall
            go_wp2_with fail
            refine bodyPost_ret (results_cell_row Tryz.results37 _ _ w.heap.size 55 _ _ _ rfl (heap_alloc_new _ _) Tryz.underlying55 rfl (by kernel_rfl)) rfl ⟨?_, (Below.refl _ _).alloc (Nat.le_refl _) _⟩
            rw [hr.out]
            exact one_ok (bl_ext s p j) hq.out (by first | rfl | (rw [hjs]; rfl))
    · obtain rfl : j = s.size := by omega
      have hw := hd.out.while hpj (head_at s s.size hj fun h => absurd h (by omega))
      obtain ⟨j, hjs⟩ : ∃ j, j = s.size := ⟨_, rfl⟩
      rw [← hjs] at hlt hpj hj hd hw ⊢
      have hlen := take_len s p j hpj (by omega)
      by_cases h32 : 32 < j - p
      · have t32 : decide ((32 : Int) < (j : Int) - (p : Int)) = true := by rw [decide_eq_true_eq]; omega
        have hr : Hid (name ((bl s).drop p) = .bad 2) := by show _ = _; unfold name; rw [hw.1, hlen, if_pos h32]
        clear hd hw hlen
        go_wp2_with fail
        refine bodyPost_ret (results_cell_row Tryz.results37 _ _ w.heap.size 55 _ _ _ rfl (heap_alloc_new _ _) Tryz.underlying55 rfl (by kernel_rfl)) rfl ⟨?_, (Below.refl _ _).alloc (Nat.le_refl _) _⟩
        rw [hr.out]
        exact one_bad rfl
      · have t32 : decide ((32 : Int) < (j : Int) - (p : Int)) = false := by rw [decide_eq_false_iff_not]; omega
        have hr : Hid (name ((bl s).drop p) = .ok 1 (((bl s).drop p).take (j - p)) 0 ((bl s).drop j)) := by show _ = _; unfold name; rw [hw.1, hw.2, hlen, if_neg h32]
        have hq : Hid (s.size - ((bl s).drop j).length = j) := by show _ = _; rw [List.length_drop, bl_len]; omega
        clear hd hw hlen
        go_wp2_with fail
        refine bodyPost_ret (results_cell_row Tryz.results37 _ _ w.heap.size 55 _ _ _ rfl (heap_alloc_new _ _) Tryz.underlying55 rfl (by kernel_rfl)) rfl ⟨?_, (Below.refl _ _).alloc (Nat.le_refl _) _⟩
        rw [hr.out]
        exact one_ok (bl_ext s p j) hq.out (by first | rfl | (rw [hjs]; rfl))
end Go.Proofs.YtjfccohgkgcnfaaGreatDoor
