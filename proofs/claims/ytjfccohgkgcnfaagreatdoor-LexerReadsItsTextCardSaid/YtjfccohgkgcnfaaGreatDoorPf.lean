/-
  Plain facts of what is left of a source.
-/
import Derived.Test.YtjfccohgkgcnfaaGreatDoorPc
import Derived.Test.YtjfccohgkgcnfaaGreatDoorPe
namespace Go.Proofs.YtjfccohgkgcnfaaGreatDoor
open Go.RowKit Go.Q Go.Lx
theorem text_bad_code : ∀ (n : Nat) (r b : List UInt8), r.length ≤ n → ∀ {e : Nat}, text b r = .bad e → e = 2 ∨ e = 28 := by
  intro n
  induction n with
  | zero =>
    intro r b hr e h
    obtain rfl := List.eq_nil_of_length_eq_zero (Nat.le_zero.1 hr)
    unfold text at h; split at h <;> (cases h; simp)
  | succ n ih =>
    intro r b hr e h
    cases r with
    | nil => unfold text at h; split at h <;> (cases h; simp)
    | cons c r =>
      unfold text at h
      split at h
      · cases h; simp
      · split at h
        · cases h
        · split at h
          · cases r with
            | nil => cases h; simp
            | cons d r' =>
              simp only at h
              split at h
              · cases h; simp
              · exact ih r' _ (by simp at hr; omega) h
          · split at h
            · cases h; simp
            · exact ih r _ (by simp at hr; omega) h
theorem tok_bad_code {r : List UInt8} {e : Nat} (h : Lx.tok r = .bad e) : e ≠ 0 := by
  unfold Lx.tok at h
  cases r with
  | nil => cases h; decide
  | cons c r' =>
    simp only at h
    split at h
    · unfold name at h; split at h <;> cases h; decide
    · split at h
      · unfold number at h; simp only at h; split at h <;> cases h; decide
      · split at h
        · rcases text_bad_code _ _ _ (Nat.le_refl _) h with rfl | rfl <;> decide
        · unfold sign at h
          split at h
          · cases h
          · simp only at h
            split at h <;> cases h; decide
/-- A rest of a source stands at its offset. -/
theorem drop_rest {l u t : List UInt8} (h : l = u ++ t) : l.drop (l.length - t.length) = t ∧ l.length - t.length ≤ l.length := by
  subst h
  rw [List.length_append, show u.length + t.length - t.length = u.length by omega, List.drop_left]
  exact ⟨rfl, by omega⟩
theorem rest_at (s : ByteArray) (i : Nat) {u t : List UInt8} (h : (bl s).drop i = u ++ t) : (bl s).drop (s.size - t.length) = t ∧ s.size - t.length ≤ s.size := by
  have e : bl s = ((bl s).take i ++ u) ++ t := by rw [List.append_assoc, ← h, List.take_append_drop]
  have := drop_rest e
  rw [bl_len] at this
  exact this
theorem skip_at (s : ByteArray) (i : Nat) : (bl s).drop (s.size - (skip false ((bl s).drop i)).length) = skip false ((bl s).drop i) ∧ s.size - (skip false ((bl s).drop i)).length ≤ s.size := by
  obtain ⟨u, hu⟩ := skip_suffix false ((bl s).drop i)
  exact rest_at s i hu
/-- What was read so far: l, and what is left: r. -/
def Sofar (n : Nat) (r0 : List UInt8) (l : List Tok) (r : List UInt8) : Prop := (∀ l', Lx.Good n r l' → Lx.Good n r0 (l ++ l')) ∧ ∀ q e, Lx.Bad n r q e → Lx.Bad n r0 q e
theorem Sofar.nil (n : Nat) (r0 : List UInt8) : Sofar n r0 [] r0 := ⟨fun _ h => h, fun _ _ h => h⟩
theorem Sofar.cons {n : Nat} {r0 r s t : List UInt8} {l : List Tok} {k v : Nat} (h : Sofar n r0 l r) (ht : Lx.tok r = .ok k s v t) : Sofar n r0 (l ++ [⟨k, n - r.length, s, v⟩]) (skip false t) :=
  ⟨fun l' hg => by rw [List.append_assoc]; exact h.1 _ (.cons ht hg), fun q e hb => h.2 q e (.later ht hb)⟩
end Go.Proofs.YtjfccohgkgcnfaaGreatDoor
