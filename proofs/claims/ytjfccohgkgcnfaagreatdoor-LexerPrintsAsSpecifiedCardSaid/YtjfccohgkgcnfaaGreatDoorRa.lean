/-
  Tokens in memory, the reader's state, strings as lists of bytes. No program.
-/
import Derived.Test.YtjfccohgkgcnfaaGreatDoorPc
import Derived.Test.YtjfccohgkgcnfaaGreatDoorBas2
import Derived.Lib.Strings
namespace Go.Q
open Go Go.RowKit
/-- A token in memory. -/
structure M where
  kind : Int
  at_ : Int
  s : ByteArray
  n : Int
def M.cells (x : M) : List Value := [.int .i64 x.kind, .int .i64 x.at_, .string x.s, .int .i64 x.n]
def tokE : Enc M where
  size := 4
  rep := fun _ _ cs x => cs = x.cells
  len := fun h => by rw [h]; rfl
  one := fun h u hu => by
    rw [h] at hu
    simp only [M.cells, List.mem_cons, List.not_mem_nil, or_false] at hu
    rcases hu with rfl | rfl | rfl | rfl <;> rfl
  stable := fun _ _ h => h
abbrev Toks := Sl tokE
section
variable {S : Reg} {w w' : World} {A : Option Addr} {cap : Nat} {xs : List M}
theorem toks_get (h : Toks S w A cap xs) {i : Nat} (hi : i < xs.length) :
    ∃ b o, A = some ⟨b, o, none⟩ ∧ S b ∧ w.cell? ⟨b, o + i * 4, none⟩ = some (.int .i64 xs[i].kind) ∧ w.cell? ⟨b, o + i * 4 + 1, none⟩ = some (.int .i64 xs[i].at_) ∧
      w.cell? ⟨b, o + i * 4 + 2, none⟩ = some (.string xs[i].s) ∧ w.cell? ⟨b, o + i * 4 + 3, none⟩ = some (.int .i64 xs[i].n) := by
  obtain ⟨b, o, cs, hA, hb, hr, hc⟩ := h.get hi
  obtain rfl : cs = xs[i].cells := hr
  refine ⟨b, o, hA, hb, ?_, ?_, ?_, ?_⟩
  · exact hc 0 (by simp [M.cells])
  · exact hc 1 (by simp [M.cells])
  · exact hc 2 (by simp [M.cells])
  · exact hc 3 (by simp [M.cells])
/-- The reader behind pointer g: its source, its offset, its tokens so far. -/
def RS (tR tT : TypeId) (base : Nat) (w : World) (g : Nat) (src : ByteArray) (p : Nat) (l : List M) : Prop :=
  ∃ A cap, w.heap[g]? = some (.cells #[.string src, .int .i64 (p : Int), .slice A l.length cap] tR (0, 0)) ∧ Own tokE (fun _ => False) base tT w A cap l ∧ (∀ a, A = some a → a.block ≠ g) ∧ base ≤ g
variable {tR tT : TypeId} {base g p q : Nat} {src : ByteArray} {l : List M}
theorem RS.lt (h : RS tR tT base w g src p l) : g < w.heap.size := by
  obtain ⟨A, cap, h1, _⟩ := h
  exact (Array.getElem?_eq_some_iff.1 h1).1
theorem RS.parts (h : RS tR tT base w g src p l) : w.cell? ⟨g, 0, none⟩ = some (.string src) ∧ w.cell? ⟨g, 1, none⟩ = some (.int .i64 (p : Int)) ∧ w.frozen? ⟨g, 1, none⟩ = false := by
  obtain ⟨A, cap, h1, _⟩ := h
  have a0 := cells_at h1 0 (by simp)
  have a1 := cells_at h1 1 (by simp)
  exact ⟨a0.1, a1.1, a1.2⟩
theorem RS.drew (h : RS tR tT base w g src p l) (hd : Drew w w') : RS tR tT base w' g src p l := by
  obtain ⟨A, cap, h1, h2, h3, h4⟩ := h
  obtain ⟨n, rfl⟩ := hd
  exact ⟨A, cap, h1, h2.drew ⟨n, rfl⟩, h3, h4⟩
theorem RS.setAt (h : RS tR tT base w g src p l) (q : Nat) : RS tR tT base (w.setCell ⟨g, 1, none⟩ (.int .i64 (q : Int))) g src q l ∧ Below base w (w.setCell ⟨g, 1, none⟩ (.int .i64 (q : Int))) := by
  obtain ⟨A, cap, h1, h2, h3, h4⟩ := h
  have hoth : ∀ k, k ≠ g → (w.setCell ⟨g, 1, none⟩ (.int .i64 (q : Int))).heap[k]? = w.heap[k]? := fun k hk => Below.heap_setCell w ⟨g, 1, none⟩ _ k hk
  have hsz : (w.setCell ⟨g, 1, none⟩ (.int .i64 (q : Int))).heap.size = w.heap.size := by simp
  refine ⟨⟨A, cap, ?_, h2.keep (fun k hk hP => hoth k ?_) (by omega), h3, h4⟩, (Below.refl base w).setCell (p := ⟨g, 1, none⟩) h4 _⟩
  · rw [heap_setCell_same w g 1 _ _ _ h1]
    rfl
  · rintro rfl
    rcases hP with hP | ⟨o, hA⟩
    · exact hP
    · exact h3 _ hA rfl
end
end Go.Q
