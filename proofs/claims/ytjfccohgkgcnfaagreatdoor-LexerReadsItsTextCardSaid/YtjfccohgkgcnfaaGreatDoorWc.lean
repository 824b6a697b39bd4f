/-
  The walks of the reference's has and Sign.
-/
import Derived.Test.YtjfccohgkgcnfaaGreatDoorWb
namespace Go.Proofs.YtjfccohgkgcnfaaGreatDoor
open Go.RowKit Go.Q Go.Lx
variable {w : World} {S : Reg} {A : Option Addr} {cap : Nat}
def strE : Enc ByteArray where
  size := 1
  rep := fun _ _ cs x => cs = [.string x]
  len := fun h => by rw [h]; rfl
  one := fun h u hu => by rw [h] at hu; simp at hu; rw [hu]; rfl
  stable := fun _ _ h => h
abbrev Strs := Sl strE
theorem strs_get {xs : List ByteArray} (h : Strs S w A cap xs) {i : Nat} (hi : i < xs.length) : ∃ b o, A = some ⟨b, o, none⟩ ∧ S b ∧ w.cell? ⟨b, o + i, none⟩ = some (.string xs[i]) := by
  obtain ⟨b, o, cs, hA, hb, hr, hc⟩ := h.get hi
  obtain rfl : cs = [.string xs[i]] := hr
  have := hc 0 (by simp)
  simp only [strE, Nat.mul_one, Nat.add_zero, List.getElem_cons_zero] at this
  exact ⟨b, o, hA, hb, this⟩
theorem take_mem_succ {α β : Type} (f : α → β) {xs : List α} {x : β} {i : Nat} (hi : i < xs.length) (h : x ∉ (xs.take i).map f) (h2 : ¬ f xs[i] = x) : x ∉ (xs.take (i + 1)).map f := by
  rw [List.take_add_one, List.getElem?_eq_getElem hi]
  simp only [Option.toList_some, List.map_append, List.map_cons, List.map_nil, List.mem_append, List.mem_singleton, not_or]
  exact ⟨h, fun e => h2 e.symm⟩
theorem str_beq (a b : ByteArray) : (a.toList == b.toList) = decide (bl a = bl b) := by
  rw [Lib.toList_data, Lib.toList_data, Bool.eq_iff_iff]; simp
theorem refHas {xs : List ByteArray} (s : ByteArray) (hx : Strs S w A cap xs) : Calls Tryz.prog 55 #[.slice A xs.length cap, .string s] w fun e w' => e = .returned (.bool (decide (bl s ∈ xs.map bl))) ∧ w' = w := by
  have hl := hx.len
  have hl2 := hx.1
  go_enter Tryz.func55, Tryz.ntmps55
  go_wp2
  go_loop [5] (fun k => ∃ i : Nat, i ≤ xs.length ∧ k = .int .i64 i ∧ Hid (bl s ∉ (xs.take i).map bl)) (fun k => xs.length - (intOf k).toNat)
  case atStart => exact ⟨0, by omega, rfl, by show _ ∉ _; simp⟩
  case round =>
    obtain ⟨i, hi, rfl, hd⟩ := hrel
    by_cases hlt : i < xs.length
    · obtain ⟨b, o, rfl, hb, hc⟩ := strs_get hx hlt
      by_cases he : bl xs[i] = bl s
      · have hf : Hid (bl s ∈ xs.map bl) := by show _ ∈ _; rw [← he]; exact List.mem_map_of_mem (List.getElem_mem hlt)
        have hbq : (xs[i].toList == s.toList) = true := by rw [str_beq]; simpa using he
        clear hx he
        go_wp2
        go_ret
        exact ⟨ret_bool (by simpa using hf.out), rfl⟩
      · have hd2 : Hid (bl s ∉ (xs.take (i + 1)).map bl) := take_mem_succ bl hlt hd.out he
        have hbq : (xs[i].toList == s.toList) = false := by rw [str_beq]; simpa using he
        clear hx he hd
        go_wp2
        go_round
        case rel => exact ⟨i + 1, by omega, by go_num, hd2⟩
        case measure => simp [intOf]; omega
    · obtain rfl : i = xs.length := by omega
      have hf : Hid (bl s ∉ xs.map bl) := by have := hd.out; rw [List.take_length] at this; exact this
      clear hx hd
      go_wp2
      go_ret
      exact ⟨ret_bool (by simpa using hf.out), rfl⟩
/-- The sign with which bytes begin, or nothing. -/
def sgn (l : List UInt8) : List UInt8 := match sign l with | .ok _ s _ _ => s | .bad _ => []
def strs (l : List (List UInt8)) : List ByteArray := l.map fun x => ⟨x.toArray⟩
theorem strs_bl (l : List (List UInt8)) : (strs l).map bl = l := by
  unfold strs; rw [List.map_map]; exact List.map_id'' (fun x => by simp [bl]) l
theorem litStrs (w : World) (xs : List ByteArray) (hx : xs.length ≤ 1000) (t : TypeId) : Strs (fun k => k < w.heap.size + 1) (w.alloc (.cells (xs.map Value.string).toArray t)) (some ⟨w.heap.size, 0, none⟩) xs.length xs := by
  refine ⟨Nat.le_refl _, by omega, (fun h => by cases h), fun a ha _ => ?_⟩
  cases ha
  refine ⟨w.heap.size, 0, rfl, by simp, fun i hi => ?_⟩
  have htop : (w.alloc (.cells (xs.map Value.string).toArray t)).heap[w.heap.size]? = some (.cells (xs.map Value.string).toArray t (0, 0)) := heap_alloc_new w _
  obtain ⟨h1, _⟩ := cells_at htop i (by simpa using hi)
  refine ⟨[.string xs[i]], rfl, fun j hj => ?_⟩
  obtain rfl : j = 0 := by simp at hj; omega
  simp [strE]
theorem sgn_two {l : List UInt8} (h : l.take 2 ∈ long) : sgn l = l.take 2 := by unfold sgn sign; rw [if_pos h]
theorem sgn_one {c : UInt8} {r : List UInt8} (h : (c :: r).take 2 ∉ long) (hc : c ∈ short) : sgn (c :: r) = [c] := by unfold sgn sign; rw [if_neg h]; simp only; rw [if_pos hc]
theorem sgn_none {c : UInt8} {r : List UInt8} (h : (c :: r).take 2 ∉ long) (hc : c ∉ short) : sgn (c :: r) = [] := by unfold sgn sign; rw [if_neg h]; simp only; rw [if_neg hc]
theorem long_short {l : List UInt8} (h : l.length < 2) : l.take 2 ∉ long := fun h2 => by have := long_len h2; rw [List.length_take] at this; omega
theorem has_short (c : UInt8) : decide ([c] ∈ (strs (short.map fun c => [c])).map bl) = decide (c ∈ short) := by
  rw [strs_bl]; simp
def w2 (w : World) : World := (w.alloc (.cells ((strs long).map Value.string).toArray 9)).alloc (.cells ((strs (short.map fun c => [c])).map Value.string).toArray 9)
set_option maxHeartbeats 2000000 in
theorem refSign (s : ByteArray) (hs : s.size ≤ 1000000) : Calls Tryz.prog 41 #[.string s] w fun e w' => (∃ t, e = .returned (.string t) ∧ bl t = sgn (bl s)) ∧ Below w.heap.size w w' := by
  have hb : Below w.heap.size w (w2 w) := ((Below.refl _ _).alloc (Nat.le_refl _) _).alloc (by simp) _
  have h1 : Hid (Calls Tryz.prog 55 #[.slice (some ⟨w.heap.size, 0, none⟩) 9 9, .string (s.extract 0 2)] (w2 w) fun e w' => e = .returned (.bool (decide ((bl s).take 2 ∈ long))) ∧ w' = w2 w) := by
    have a := litStrs w (strs long) (by decide) 9
    have a2 := Sl.below' (B := w.heap.size + 1) (w' := w2 w) a ((Below.refl (w.heap.size + 1) _).alloc (by simp) _) (fun _ h => h)
    have := refHas (s.extract 0 2) a2
    rw [strs_bl, bl_ext] at this
    exact this
  have h2 : Hid (Calls Tryz.prog 55 #[.slice (some ⟨w.heap.size + 1, 0, none⟩) 25 25, .string (s.extract 0 1)] (w2 w) fun e w' => e = .returned (.bool (decide ((bl s).take 1 ∈ short.map fun c => [c]))) ∧ w' = w2 w) := by
    have a := litStrs (w.alloc (.cells ((strs long).map Value.string).toArray 9)) (strs (short.map fun c => [c])) (by decide) 9
    have hsz : (w.alloc (.cells ((strs long).map Value.string).toArray 9)).heap.size = w.heap.size + 1 := by simp
    rw [hsz] at a
    have := refHas (s.extract 0 1) a
    rw [strs_bl, bl_ext] at this
    exact this
  have hB := Lib.hid hb
  clear hb
  have hln := bl_len s
  by_cases hs2 : 2 ≤ s.size
  · by_cases hl : (bl s).take 2 ∈ long
    · have d1 : Hid (decide ((bl s).take 2 ∈ long) = true) := decide_eq_true hl
      have hr : Hid (bl (s.extract 0 2) = sgn (bl s)) := by show _ = _; rw [sgn_two hl, bl_ext]; rfl
      clear hl hln h2
      go_enter Tryz.func41, Tryz.ntmps41
      go_wp2_with fail
      have hcall := h1.out
      rw [d1.out] at hcall
      have Hcall := Lib.hid hcall
      clear hcall h1
      refine Hcall.out.mono ?_
      rintro e w' ⟨rfl, rfl⟩
      go_wp2_with fail
      go_ret
      exact ⟨⟨_, rfl, hr.out⟩, hB.out⟩
    · have d1 : Hid (decide ((bl s).take 2 ∈ long) = false) := decide_eq_false hl
      obtain ⟨c, r, hc⟩ : ∃ c r, bl s = c :: r := by cases h : bl s with | nil => rw [h] at hln; simp at hln; omega | cons c r => exact ⟨c, r, rfl⟩
      have ht1 : (bl s).take 1 = [c] := by rw [hc]; rfl
      by_cases hsh : c ∈ short
      · have d2 : Hid (decide ((bl s).take 1 ∈ short.map fun c => [c]) = true) := by show _ = _; rw [ht1]; simpa using hsh
        have hr : Hid (bl (s.extract 0 1) = sgn (bl s)) := by show _ = _; rw [bl_ext, hc, sgn_one (by rw [← hc]; exact hl) hsh]; rfl
        clear hl hln hc ht1
        go_enter Tryz.func41, Tryz.ntmps41
        go_wp2_with fail
        have hcall := h1.out
        rw [d1.out] at hcall
        have Hcall := Lib.hid hcall
        clear hcall h1
        refine Hcall.out.mono ?_
        rintro e w' ⟨rfl, rfl⟩
        go_wp2_with fail
        have hcall := h2.out
        rw [d2.out] at hcall
        have Hcall := Lib.hid hcall
        clear hcall h2
        refine Hcall.out.mono ?_
        rintro e w' ⟨rfl, rfl⟩
        go_wp2_with fail
        go_ret
        exact ⟨⟨_, rfl, hr.out⟩, hB.out⟩
      · have d2 : Hid (decide ((bl s).take 1 ∈ short.map fun c => [c]) = false) := by show _ = _; rw [ht1]; simpa using hsh
        have hr : Hid ([] = sgn (bl s)) := by show _ = _; rw [hc, sgn_none (by rw [← hc]; exact hl) hsh]
        clear hl hln hc ht1
        go_enter Tryz.func41, Tryz.ntmps41
        go_wp2_with fail
        have hcall := h1.out
        rw [d1.out] at hcall
        have Hcall := Lib.hid hcall
        clear hcall h1
        refine Hcall.out.mono ?_
        rintro e w' ⟨rfl, rfl⟩
        go_wp2_with fail
        have hcall := h2.out
        rw [d2.out] at hcall
        have Hcall := Lib.hid hcall
        clear hcall h2
        refine Hcall.out.mono ?_
        rintro e w' ⟨rfl, rfl⟩
        go_wp2_with fail
        go_ret
        exact ⟨⟨_, rfl, hr.out⟩, hB.out⟩
  · have hl : (bl s).take 2 ∉ long := long_short (by rw [hln]; omega)
    by_cases hs1 : 1 ≤ s.size
    · obtain ⟨c, r, hc⟩ : ∃ c r, bl s = c :: r := by cases h : bl s with | nil => rw [h] at hln; simp at hln; omega | cons c r => exact ⟨c, r, rfl⟩
      have ht1 : (bl s).take 1 = [c] := by rw [hc]; rfl
      by_cases hsh : c ∈ short
      · have d2 : Hid (decide ((bl s).take 1 ∈ short.map fun c => [c]) = true) := by show _ = _; rw [ht1]; simpa using hsh
        have hr : Hid (bl (s.extract 0 1) = sgn (bl s)) := by show _ = _; rw [bl_ext, hc, sgn_one (by rw [← hc]; exact hl) hsh]; rfl
        clear hl hln hc ht1 h1
        go_enter Tryz.func41, Tryz.ntmps41
        go_wp2_with fail
        have hcall := h2.out
        rw [d2.out] at hcall
        have Hcall := Lib.hid hcall
        clear hcall h2
        refine Hcall.out.mono ?_
        rintro e w' ⟨rfl, rfl⟩
        go_wp2_with fail
        go_ret
        exact ⟨⟨_, rfl, hr.out⟩, hB.out⟩
      · have d2 : Hid (decide ((bl s).take 1 ∈ short.map fun c => [c]) = false) := by show _ = _; rw [ht1]; simpa using hsh
        have hr : Hid ([] = sgn (bl s)) := by show _ = _; rw [hc, sgn_none (by rw [← hc]; exact hl) hsh]
        clear hl hln hc ht1 h1
        go_enter Tryz.func41, Tryz.ntmps41
        go_wp2_with fail
        have hcall := h2.out
        rw [d2.out] at hcall
        have Hcall := Lib.hid hcall
        clear hcall h2
        refine Hcall.out.mono ?_
        rintro e w' ⟨rfl, rfl⟩
        go_wp2_with fail
        go_ret
        exact ⟨⟨_, rfl, hr.out⟩, hB.out⟩
    · have hr : Hid ([] = sgn (bl s)) := by
        show _ = _
        have : bl s = [] := List.eq_nil_of_length_eq_zero (by rw [hln]; omega)
        rw [this]; decide
      clear hl hln h1 h2
      go_enter Tryz.func41, Tryz.ntmps41
      go_wp2_with fail
      go_ret
      exact ⟨⟨_, rfl, hr.out⟩, hB.out⟩
end Go.Proofs.YtjfccohgkgcnfaaGreatDoor
