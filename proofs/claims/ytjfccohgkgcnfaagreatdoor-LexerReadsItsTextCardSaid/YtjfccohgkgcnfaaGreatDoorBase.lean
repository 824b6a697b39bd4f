/-
  Lists in memory: what a slice reads as, in a region of blocks; what a call owns; how they stay and grow. No program.
-/
import Derived.WalkKit
import Derived.Laws.BitsAllLaws
import Derived.Deep.QuietTactic
import Derived.BigQuiet
import Derived.Lib.Hide
namespace Go.Q
open Go Go.RowKit
/-- Where the walk is to stand still. -/
def Pause (p : Prop) : Prop := p
theorem pause {p : Prop} (h : Pause p) : p := h
theorem unpause {p : Prop} (h : p) : Pause p := h
/-- A set of blocks. -/
abbrev Reg := Nat → Prop
/-- How a datum lies in cells: so many, and what they hold; it stays while the blocks of its region stay. -/
structure Enc (α : Type) where
  size : Nat
  rep : Reg → World → List Value → α → Prop
  len : ∀ {S w cs x}, rep S w cs x → cs.length = size
  one : ∀ {S w cs x}, rep S w cs x → ∀ u ∈ cs, u.oneCell' = true
  stable : ∀ {S S' w w' cs x}, (∀ k, S k → S' k) → (∀ k, S k → w'.heap[k]? = w.heap[k]?) → rep S w cs x → rep S' w' cs x
/-- The slice with address A, length xs.length and capacity cap holds xs, in the blocks of S. -/
def Sl {α : Type} (E : Enc α) (S : Reg) (w : World) (A : Option Addr) (cap : Nat) (xs : List α) : Prop :=
  xs.length ≤ cap ∧ cap ≤ 9223372036854775807 ∧ (A = none → cap = 0) ∧
  ∀ a, A = some a → 0 < xs.length → ∃ b o, a = ⟨b, o, none⟩ ∧ S b ∧ ∀ i (h : i < xs.length), ∃ cs, E.rep S w cs xs[i] ∧ ∀ j (hj : j < cs.length), w.cell? ⟨b, o + i * E.size + j, none⟩ = some cs[j]
section
variable {α : Type} {E : Enc α} {S S' : Reg} {w w' : World} {A : Option Addr} {cap : Nat} {xs : List α}
theorem Sl.stable (h : Sl E S w A cap xs) (hS : ∀ k, S k → S' k) (hk : ∀ k, S k → w'.heap[k]? = w.heap[k]?) : Sl E S' w' A cap xs := by
  obtain ⟨h1, h2, h3, h4⟩ := h
  refine ⟨h1, h2, h3, fun a ha hp => ?_⟩
  obtain ⟨b, o, rfl, hb, hc⟩ := h4 a ha hp
  refine ⟨b, o, rfl, hS b hb, fun i hi => ?_⟩
  obtain ⟨cs, hr, hcs⟩ := hc i hi
  exact ⟨cs, E.stable hS hk hr, fun j hj => (World.cell?_of_block (w := w) (hk b hb)).trans (hcs j hj)⟩
theorem Sl.mono (h : Sl E S w A cap xs) (hS : ∀ k, S k → S' k) : Sl E S' w A cap xs := h.stable hS (fun _ _ => rfl)
/-- The blocks of S lie in w. -/
def In (S : Reg) (w : World) : Prop := ∀ k, S k → k < w.heap.size
theorem Sl.below (h : Sl E S w A cap xs) (hb : Below w.heap.size w w') (hin : In S w) : Sl E S w' A cap xs := h.stable (fun _ h => h) (fun k hk => hb.block k (hin k hk))
theorem Sl.below' {B : Nat} {w0 : World} (h : Sl E S w0 A cap xs) (hb : Below B w0 w') (hin : ∀ k, S k → k < B) : Sl E S w' A cap xs := h.stable (fun _ h => h) (fun k hk => hb.block k (hin k hk))
theorem Sl.nil : Sl E S w none 0 ([] : List α) := ⟨Nat.le_refl _, by decide, fun _ => rfl, fun _ h => by cases h⟩
theorem Sl.len (h : Sl E S w A cap xs) : xs.length ≤ 9223372036854775807 := by
  have := h.1; have := h.2.1; omega
theorem Sl.get (h : Sl E S w A cap xs) {i : Nat} (hi : i < xs.length) :
    ∃ b o cs, A = some ⟨b, o, none⟩ ∧ S b ∧ E.rep S w cs xs[i] ∧ ∀ j (hj : j < cs.length), w.cell? ⟨b, o + i * E.size + j, none⟩ = some cs[j] := by
  obtain ⟨h1, h2, h3, h4⟩ := h
  cases A with
  | none => have := h3 rfl; omega
  | some a =>
    obtain ⟨b, o, rfl, hb, hc⟩ := h4 a rfl (by omega)
    obtain ⟨cs, hr, hcs⟩ := hc i hi
    exact ⟨b, o, cs, rfl, hb, hr, hcs⟩
theorem Sl.take (h : Sl E S w A cap xs) (k : Nat) : Sl E S w A cap (xs.take k) := by
  obtain ⟨h1, h2, h3, h4⟩ := h
  refine ⟨by rw [List.length_take]; omega, h2, h3, fun a ha hp => ?_⟩
  obtain ⟨b, o, rfl, hb, hc⟩ := h4 a ha (by rw [List.length_take] at hp; omega)
  refine ⟨b, o, rfl, hb, fun i hi => ?_⟩
  rw [List.length_take] at hi
  obtain ⟨cs, hr, hcs⟩ := hc i (by omega)
  exact ⟨cs, by rw [List.getElem_take]; exact hr, hcs⟩
theorem In.below {B : Nat} (h : In S w) (hb : Below B w w') : In S w' := fun k hk => Nat.lt_of_lt_of_le (h k hk) hb.size
end
-- encodings
def u8E : Enc UInt8 where
  size := 1
  rep := fun _ _ cs x => cs = [.int .u8 (x.toNat : Int)]
  len := fun h => by rw [h]; rfl
  one := fun h u hu => by rw [h] at hu; simp at hu; rw [hu]; rfl
  stable := fun _ _ h => h
/-- Natural numbers as int. -/
def natE : Enc Nat where
  size := 1
  rep := fun _ _ cs x => cs = [.int .i64 (x : Int)] ∧ x ≤ 9223372036854775807
  len := fun h => by rw [h.1]; rfl
  one := fun h u hu => by rw [h.1] at hu; simp at hu; rw [hu]; rfl
  stable := fun _ _ h => h
def slE {α : Type} (E : Enc α) : Enc (List α) where
  size := 1
  rep := fun S w cs xs => ∃ A cap, cs = [.slice A xs.length cap] ∧ Sl E S w A cap xs
  len := fun ⟨_, _, h, _⟩ => by rw [h]; rfl
  one := fun ⟨_, _, h, _⟩ u hu => by rw [h] at hu; simp at hu; rw [hu]; rfl
  stable := fun hS hk ⟨A, cap, h, hs⟩ => ⟨A, cap, h, hs.stable hS hk⟩
abbrev rowsE : Enc (List (List UInt8)) := slE (slE u8E)
abbrev Bytes := Sl u8E
abbrev Ints := Sl natE
abbrev Rows8 := Sl (slE u8E)
section
variable {S S' : Reg} {w w' : World} {A : Option Addr} {cap : Nat}
theorem bytes_get {xs : List UInt8} (h : Bytes S w A cap xs) {i : Nat} (hi : i < xs.length) :
    ∃ b o, A = some ⟨b, o, none⟩ ∧ S b ∧ w.cell? ⟨b, o + i, none⟩ = some (.int .u8 (xs[i].toNat : Int)) := by
  obtain ⟨b, o, cs, hA, hb, hr, hc⟩ := h.get hi
  obtain rfl : cs = [.int .u8 (xs[i].toNat : Int)] := hr
  have := hc 0 (by simp)
  simp only [u8E, Nat.mul_one, Nat.add_zero, List.getElem_cons_zero] at this
  exact ⟨b, o, hA, hb, this⟩
theorem ints_get {xs : List Nat} (h : Ints S w A cap xs) {i : Nat} (hi : i < xs.length) :
    ∃ b o, A = some ⟨b, o, none⟩ ∧ S b ∧ w.cell? ⟨b, o + i, none⟩ = some (.int .i64 (xs[i] : Int)) ∧ xs[i] ≤ 9223372036854775807 := by
  obtain ⟨b, o, cs, hA, hb, ⟨rfl, hle⟩, hc⟩ := h.get hi
  have := hc 0 (by simp)
  simp only [natE, Nat.mul_one, Nat.add_zero, List.getElem_cons_zero] at this
  exact ⟨b, o, hA, hb, this, hle⟩
theorem rows_get {α : Type} {E : Enc α} {xs : List (List α)} (h : Sl (slE E) S w A cap xs) {i : Nat} (hi : i < xs.length) :
    ∃ b o A' cap', A = some ⟨b, o, none⟩ ∧ S b ∧ w.cell? ⟨b, o + i, none⟩ = some (.slice A' xs[i].length cap') ∧ Sl E S w A' cap' xs[i] := by
  obtain ⟨b, o, cs, hA, hb, ⟨A', cap', rfl, hr⟩, hc⟩ := h.get hi
  have := hc 0 (by simp)
  simp only [slE, Nat.mul_one, Nat.add_zero, List.getElem_cons_zero] at this
  exact ⟨b, o, A', cap', hA, hb, this, hr⟩
end
-- draws
/-- The world has only drawn. -/
def Drew (w w' : World) : Prop := ∃ n, w' = w.drewN n
theorem Drew.refl (w : World) : Drew w w := ⟨0, rfl⟩
theorem Drew.one (w : World) : Drew w w.drew := ⟨1, rfl⟩
theorem Drew.more {w w' : World} (h : Drew w w') (n : Nat) : Drew w (w'.drewN n) := by
  obtain ⟨m, rfl⟩ := h
  exact ⟨m + n, by rw [World.drewN_drewN]⟩
theorem Drew.trans {a b c : World} (h : Drew a b) (k : Drew b c) : Drew a c := by
  obtain ⟨m, rfl⟩ := k
  exact h.more m
theorem Drew.below {w w' : World} (h : Drew w w') (B : Nat) : Below B w w' := by
  obtain ⟨m, rfl⟩ := h
  exact ⟨rfl, rfl, rfl, Nat.le_refl _, fun _ _ => rfl⟩
theorem Drew.heap {w w' : World} (h : Drew w w') : w'.heap = w.heap := by
  obtain ⟨m, rfl⟩ := h
  rfl
theorem below_drewN {B : Nat} {w w' : World} (h : Below B w w') (n : Nat) : Below B w (w'.drewN n) := h.trans ⟨rfl, rfl, rfl, Nat.le_refl _, fun _ _ => rfl⟩
theorem In.drew {S : Reg} {w w' : World} (h : In S w) (hd : Drew w w') : In S w' := fun k hk => by rw [hd.heap]; exact h k hk
theorem Sl.drew {α : Type} {E : Enc α} {S : Reg} {w w' : World} {A : Option Addr} {cap : Nat} {xs : List α} (h : Sl E S w A cap xs) (hd : Drew w w') : Sl E S w' A cap xs :=
  h.stable (fun _ h => h) (fun k _ => by rw [hd.heap])
theorem Sl.drewN {α : Type} {E : Enc α} {S : Reg} {w : World} {A : Option Addr} {cap : Nat} {xs : List α} (h : Sl E S w A cap xs) (n : Nat) : Sl E S (w.drewN n) A cap xs := h.drew ⟨n, rfl⟩
theorem bits_xor_u8 (x y : UInt8) : bits .xor .u8 (x.toNat : Int) (y.toNat : Int) = ((x ^^^ y).toNat : Int) := by
  rw [u8_xor_nat _ _ x.toNat_lt y.toNat_lt, UInt8.toNat_xor]
theorem ret_int {k : IntKind} {a b : Int} (h : a = b) : Ending.returned (.int k a) = .returned (.int k b) := by rw [h]
theorem ret_bool {a b : Bool} (h : a = b) : Ending.returned (.bool a) = .returned (.bool b) := by rw [h]
theorem ret_slice {A : Option Addr} {n n' c : Nat} (h : n = n') : Ending.returned (.slice A n c) = .returned (.slice A n' c) := by rw [h]
-- what a call owns
/-- The region of what was made between two worlds. -/
def fresh (w w' : World) : Reg := fun k => w.heap.size ≤ k ∧ k < w'.heap.size
theorem fresh_in {w w' : World} : In (fresh w w') w' := fun _ h => h.2
/-- A region with what was made since. -/
theorem fresh_trans {w w1 w2 : World} (h : w.heap.size ≤ w1.heap.size) : ∀ k, fresh w1 w2 k → fresh w w2 k := fun _ hk => ⟨Nat.le_trans h hk.1, hk.2⟩
/-- The slice is the call's own: its block is one from base on, of elements of type e, and no datum lies in it; its elements lie in blocks with P. -/
def Own {α : Type} (E : Enc α) (P : Reg) (base : Nat) (e : TypeId) (w : World) (A : Option Addr) (cap : Nat) (xs : List α) : Prop :=
  ∃ (us : List Value) (S : Reg), w.ownsRow base e E.size (.slice A xs.length cap) xs.length us ∧ (∀ k, S k → P k ∧ k < w.heap.size) ∧ (∀ a, A = some a → ¬ S a.block) ∧
    ∀ i (h : i < xs.length), E.rep S w ((us.drop (i * E.size)).take E.size) xs[i]
section
variable {α : Type} {E : Enc α} {P P' : Reg} {base : Nat} {e : TypeId} {w w' : World} {A : Option Addr} {cap : Nat} {xs : List α}
theorem Own.nil : Own E P base e w none 0 ([] : List α) :=
  ⟨[], fun _ => False, ⟨by simp, .inl ⟨rfl, rfl⟩⟩, (fun _ h => h.elim), (fun _ h => by cases h), (fun i h => absurd h (Nat.not_lt_zero _))⟩
theorem Own.weaken (h : Own E P base e w A cap xs) (hP : ∀ k, P k → P' k) : Own E P' base e w A cap xs := by
  obtain ⟨us, S, h1, h2, h3⟩ := h
  exact ⟨us, S, h1, fun k hk => ⟨hP k (h2 k hk).1, (h2 k hk).2⟩, h3⟩
/-- The own block, if there is one. -/
theorem Own.block (h : Own E P base e w A cap xs) {a : Addr} (ha : A = some a) : ∃ g, a = ⟨g, 0, none⟩ ∧ base ≤ g ∧ g < w.heap.size := by
  obtain ⟨us, S, h1, _⟩ := h
  subst ha
  rcases h1.2 with ⟨h, _⟩ | ⟨g, c, cur, hv, hb, hg, _⟩
  · cases h
  · simp only [Value.slice.injEq, Option.some.injEq] at hv
    exact ⟨g, hv.1, hb, (Array.getElem?_eq_some_iff.1 hg).1⟩
theorem Own.capLe (h : Own E P base e w A cap xs) : xs.length ≤ cap ∧ cap ≤ 9223372036854775807 ∧ (A = none → cap = 0) := by
  obtain ⟨us, S, h1, _⟩ := h
  rcases h1.2 with ⟨h, h0⟩ | ⟨g, c, cur, hv, hb, hg, hn, hm, _⟩
  · simp only [Value.slice.injEq] at h
    obtain ⟨rfl, _, rfl⟩ := h
    exact ⟨by omega, by omega, fun _ => rfl⟩
  · simp only [Value.slice.injEq] at hv
    obtain ⟨rfl, _, rfl⟩ := hv
    unfold maxLen at hm
    exact ⟨hn, by omega, fun h => by cases h⟩
/-- It stays while old blocks stay. -/
theorem Own.keep (h : Own E P base e w A cap xs) (hk : ∀ k, k < w.heap.size → (P k ∨ ∃ o, A = some ⟨k, o, none⟩) → w'.heap[k]? = w.heap[k]?) (hs : w.heap.size ≤ w'.heap.size) : Own E P base e w' A cap xs := by
  obtain ⟨us, S, h1, h2, h3, h4⟩ := h
  refine ⟨us, S, ⟨h1.1, ?_⟩, fun k hk' => ⟨(h2 k hk').1, Nat.lt_of_lt_of_le (h2 k hk').2 hs⟩, h3, fun i hi => E.stable (fun _ h => h) (fun k hk' => hk k (h2 k hk').2 (.inl (h2 k hk').1)) (h4 i hi)⟩
  rcases h1.2 with h | ⟨g, c, cur, hv, hb, hg, r⟩
  · exact .inl h
  · simp only [Value.slice.injEq] at hv
    refine .inr ⟨g, c, cur, by simp only [Value.slice.injEq]; exact hv, hb, ?_, r⟩
    rw [hk g (Array.getElem?_eq_some_iff.1 hg).1 (.inr ⟨0, hv.1⟩)]
    exact hg
theorem Own.below {B : Nat} (h : Own E P base e w A cap xs) (hb : Below B w w') (hB : w.heap.size ≤ B) : Own E P base e w' A cap xs :=
  h.keep (fun k hk _ => hb.block k (by omega)) hb.size
theorem Own.alloc (h : Own E P base e w A cap xs) (o : Obj) : Own E P base e (w.alloc o) A cap xs :=
  h.keep (fun k hk _ => Below.heap_alloc _ _ _ hk) (by simp)
theorem Own.drew (h : Own E P base e w A cap xs) (hd : Drew w w') : Own E P base e w' A cap xs :=
  h.keep (fun k _ _ => by rw [hd.heap]) (by rw [hd.heap]; exact Nat.le_refl _)
/-- What the call owns reads as a list. -/
theorem Own.sl (h : Own E P base e w A cap xs) (hP : ∀ k, k < w.heap.size → (P k ∨ base ≤ k) → P' k) : Sl E P' w A cap xs := by
  have hc := h.capLe
  obtain ⟨us, S, h1, h2, h3, h4⟩ := h
  refine ⟨hc.1, hc.2.1, hc.2.2, fun a ha _ => ?_⟩
  subst ha
  rcases h1.2 with ⟨h, h0⟩ | ⟨g, c, cur, hv, hb, hg, hn, hm, hcs, ht⟩
  · cases h
  · simp only [Value.slice.injEq, Option.some.injEq] at hv
    obtain ⟨rfl, _, rfl⟩ := hv
    have hgs : g < w.heap.size := (Array.getElem?_eq_some_iff.1 hg).1
    refine ⟨g, 0, rfl, hP g hgs (.inr hb), fun i hi => ⟨_, E.stable (fun k hk => hP k (h2 k hk).2 (.inl (h2 k hk).1)) (fun _ _ => rfl) (h4 i hi), fun j hj => ?_⟩⟩
    have hul : us.length = xs.length * E.size := h1.1
    have hjs : j < E.size := by simp at hj; omega
    have hlt : i * E.size + j < us.length := by
      rw [hul]
      calc i * E.size + j < i * E.size + E.size := by omega
        _ = (i + 1) * E.size := by rw [Nat.add_mul, Nat.one_mul]
        _ ≤ xs.length * E.size := Nat.mul_le_mul_right _ hi
    have := h1.cells (g := g) rfl (i * E.size + j) us[i * E.size + j] (List.getElem?_eq_getElem hlt)
    have e1 : ((⟨g, 0, none⟩ : Addr).add (i * E.size + j)) = ⟨g, 0 + i * E.size + j, none⟩ := by
      unfold Addr.add; split
      · congr 1; omega
      · show (⟨g, 0 + (i * E.size + j), none⟩ : Addr) = _
        congr 1; omega
    rw [e1] at this
    rw [this]
    simp
/-- Its length as an Int. -/
theorem Own.len (h : Own E P base e w A cap xs) : xs.length ≤ 9223372036854775807 := by
  have := h.capLe; omega
/-- Appending one element that is not there yet. -/
theorem Own.run_append {Pr : Program} (t ty : TypeId) (i : TypeInfo) (z : Value) (bytes : Nat) (ht : Pr.underlying t = some (.slice e)) (hi : Pr.info? e = some i) (hz : i.zero = some z)
    (hsize : i.size = E.size) (hby : i.bytes = bytes) (hzs : z.cells.size = E.size) (hsz : 0 < E.size) (hown : Own E P base e w A cap xs)
    (ad : Addr) (c : Nat) (news : List Value) (y : α) (T : Reg) (hrep : E.rep T w news y) (hT : ∀ k, T k → P k ∧ k < w.heap.size) (hTA : ∀ a, A = some a → ¬ T a.block)
    (hnews : ∀ j u, news[j]? = some u → w.cell? (ad.add j) = some u) (h63 : xs.length + 1 ≤ 140737488355328) (hbytes : (xs.length + 1) * bytes ≤ 140737488355328) (hbase : base ≤ w.heap.size) :
    ∃ A' cap' w', (Builtin.append_ #[t, t] ty #[.slice A xs.length cap, .slice (some ad) 1 c]).run Pr w = .ok (.slice A' (xs.length + 1) cap') w' ∧
      Own E P base e w' A' cap' (xs ++ [y]) ∧ w.grownBy w' (A.map (·.block)) ∧ (A' = A ∨ A' = some ⟨w.heap.size, 0, none⟩) := by
  obtain ⟨us, S, h1, h2, h3, h4⟩ := hown
  have hnl : news.length = 1 * E.size := by rw [E.len hrep]; omega
  have hone := E.one hrep
  have hb63 : xs.length + 1 ≤ maxLen := by unfold maxLen; omega
  obtain ⟨v', w', hr, hrow, hgr, _⟩ := run_append_own (P := Pr) w base t ty e i z E.size bytes ht hi hz hsize hby hzs hsz _ _ us h1 ad 1 c news hnl hnews hone hb63 hbytes hbase
  have hform : ∃ A' cap', v' = .slice A' (xs.length + 1) cap' ∧ (A' = A ∨ A' = some ⟨w.heap.size, 0, none⟩) := by
    rcases h1.2 with ⟨h, h0⟩ | ⟨g, c', cur, hv, hb, hg, hn, hm, hcs, htk⟩
    · simp only [Value.slice.injEq] at h
      obtain ⟨rfl, _, rfl⟩ := h
      have hx : xs = [] := List.eq_nil_of_length_eq_zero h0
      subst hx
      have hr2 := run_append_nil (P := Pr) w t ty e i z ht hi hz ad 1 c news (by rw [hsize]; exact hnl) hnews (by decide) (by decide) (by simp only [List.length_nil] at hbytes; rw [hby]; omega)
      rw [show (Value.slice none ([] : List α).length 0) = .slice none 0 0 from rfl, hr2] at hr
      cases hr
      exact ⟨_, _, rfl, .inr rfl⟩
    · simp only [Value.slice.injEq] at hv
      obtain ⟨rfl, _, rfl⟩ := hv
      by_cases hroom : xs.length + 1 ≤ cap
      · have hfit : xs.length * i.size + news.length ≤ cur.size := by
          rw [hsize, hnl, hcs, ← Nat.add_mul]; exact Nat.mul_le_mul_right _ hroom
        have hr2 := run_append_room (P := Pr) w t ty e i ht hi g xs.length cap cur hg ad 1 c news (by rw [hsize]; exact hnl) hnews hone hroom hfit
        rw [hr2] at hr
        cases hr
        exact ⟨_, _, rfl, .inl rfl⟩
      · have holds : ∀ j u, us[j]? = some u → w.cell? ((⟨g, 0, none⟩ : Addr).add j) = some u := h1.cells (g := g) rfl
        have hr2 := run_append_grow (P := Pr) w t ty e i z ht hi hz ⟨g, 0, none⟩ xs.length cap us (by rw [hsize]; exact h1.1) holds ad 1 c news (by rw [hsize]; exact hnl) hnews (by omega) (by omega)
          (growslice_fits (by omega) (by rw [hby]; exact hbytes))
        rw [hr2] at hr
        cases hr
        exact ⟨_, _, rfl, .inr rfl⟩
  obtain ⟨A', cap', rfl, hA'⟩ := hform
  have hgr' : w.grownBy w' (A.map (·.block)) := by
    have : (Value.slice A xs.length cap).ownBlock = A.map (·.block) := by cases A <;> rfl
    rw [← this]; exact hgr
  refine ⟨A', cap', w', hr, ⟨us ++ news, fun k => S k ∨ T k, ?_, ?_, ?_, ?_⟩, hgr', hA'⟩
  · rw [List.length_append]; exact hrow
  · rintro k (hk | hk)
    · exact ⟨(h2 k hk).1, Nat.lt_of_lt_of_le (h2 k hk).2 hgr.size⟩
    · exact ⟨(hT k hk).1, Nat.lt_of_lt_of_le (hT k hk).2 hgr.size⟩
  · intro a ha hST
    rcases hA' with rfl | rfl
    · rcases hST with h | h
      · exact h3 a ha h
      · exact hTA a ha h
    · cases ha
      rcases hST with h | h
      · exact Nat.lt_irrefl _ (h2 _ h).2
      · exact Nat.lt_irrefl _ (hT _ h).2
  · intro j hj
    have hul : us.length = xs.length * E.size := h1.1
    have hkeep : ∀ k, (S k ∨ T k) → w'.heap[k]? = w.heap[k]? := by
      intro k hk
      have hlt : k < w.heap.size := by rcases hk with h | h; exact (h2 k h).2; exact (hT k h).2
      refine hgr'.block k hlt ?_
      intro e
      cases A with
      | none => cases e
      | some a =>
        simp only [Option.map_some, Option.some.injEq] at e
        subst e
        rcases hk with h | h
        · exact h3 a rfl h
        · exact hTA a rfl h
    by_cases hjx : j < xs.length
    · have e1 : ((us ++ news).drop (j * E.size)).take E.size = (us.drop (j * E.size)).take E.size := by
        have hle : (j + 1) * E.size ≤ us.length := by rw [hul]; exact Nat.mul_le_mul_right _ hjx
        rw [Nat.add_mul, Nat.one_mul] at hle
        rw [List.drop_append_of_le_length (by omega), List.take_append_of_le_length (by rw [List.length_drop]; omega)]
      rw [e1, List.getElem_append_left hjx]
      exact E.stable (fun k h => .inl h) (fun k h => hkeep k (.inl h)) (h4 j hjx)
    · obtain rfl : j = xs.length := by simp at hj; omega
      have e1 : ((us ++ news).drop (xs.length * E.size)).take E.size = news := by
        rw [← hul, List.drop_left, List.take_of_length_le (by omega)]
      rw [e1, List.getElem_append_right (Nat.le_refl _)]
      simp only [Nat.sub_self, List.getElem_cons_zero]
      exact E.stable (fun k h => .inr h) (fun k h => hkeep k (.inr h)) hrep
/-- The law at the operation. -/
theorem wpList_append_one {Pr : Program} {ops : Array Oper} {rest : List Oper} {o : Oper} {a : Act} {Q : Exit → Act → World → Prop} (hgd : o.guard = none) (s x : Operand) (t : TypeId)
    (ho : o.op = .call { callee := .builtin .append, args := #[s, x], argTypes := #[t, t] }) (hs : a.eval s = .slice A xs.length cap)
    {i : TypeInfo} {z : Value} {bytes : Nat} (ht : Pr.underlying t = some (.slice e)) (hi : Pr.info? e = some i) (hz : i.zero = some z)
    (hsize : i.size = E.size) (hby : i.bytes = bytes) (hzs : z.cells.size = E.size) (hsz : 0 < E.size) (hown : Own E P base e w A cap xs)
    (ad : Addr) (c : Nat) (hx : a.eval x = .slice (some ad) 1 c) (news : List Value) (y : α) (T : Reg) (hrep : E.rep T w news y) (hT : ∀ k, T k → P k ∧ k < w.heap.size) (hTA : ∀ a, A = some a → ¬ T a.block)
    (hnews : ∀ j u, news[j]? = some u → w.cell? (ad.add j) = some u) (h63 : xs.length + 1 ≤ 140737488355328) (hbytes : (xs.length + 1) * bytes ≤ 140737488355328) (hbase : base ≤ w.heap.size)
    (h : ∀ A' cap' w', Own E P base e w' A' cap' (xs ++ [y]) → w.grownBy w' (A.map (·.block)) → (A' = A ∨ A' = some ⟨w.heap.size, 0, none⟩) → wpList Pr ops Q rest (a.put o.dst (.slice A' (xs.length + 1) cap')) w') : wpList Pr ops Q (o :: rest) a w := by
  refine wpList_plain hgd fun K hK => ?_
  obtain ⟨A', cap', w', hr, h2, h3, h5⟩ := hown.run_append (Pr := Pr) t o.type i z bytes ht hi hz hsize hby hzs hsz ad c news y T hrep hT hTA hnews h63 hbytes hbase
  unfold Oper.wp execOp
  simp only [ho, resolve, invoke, builtin, Sem.run_bind, Sem.run_pure, Result.andThen_ok, List.map_toArray, List.map_cons, List.map_nil, hs, hx, hr]
  exact hK _ _ (h A' cap' w' h2 h3 h5)
/-- Of what lies below base nothing turned. -/
theorem Own.grown {B : Nat} {w0 : World} (h : Own E P base e w A cap xs) (hb : Below B w0 w) (hg : w.grownBy w' (A.map (·.block))) (hB : B ≤ base) (hBw : B ≤ w.heap.size) : Below B w0 w' := by
  refine hb.grown hg hBw ?_
  intro k hk
  cases hA : A with
  | none => rw [hA] at hk; cases hk
  | some a =>
    rw [hA] at hk
    obtain ⟨g, rfl, hg1, _⟩ := h.block hA
    simp at hk; omega
/-- Appending one element that was just laid in a block of its own ('append(l, x)'). -/
theorem wpList_append_box {Pr : Program} {ops : Array Oper} {rest : List Oper} {o : Oper} {a : Act} {Q : Exit → Act → World → Prop} {w0 : World} {n : Nat} {cs : Array Value} {e' : TypeId} (hgd : o.guard = none) (s x : Operand) (t : TypeId)
    (ho : o.op = .call { callee := .builtin .append, args := #[s, x], argTypes := #[t, t] }) {c : Nat} (hs : a.eval s = .slice A n cap) (hx : a.eval x = .slice (some ⟨w.heap.size, 0, none⟩) 1 c)
    {i : TypeInfo} {z : Value} {bytes : Nat} (ht : Pr.underlying t = some (.slice e)) (hi : Pr.info? e = some i) (hz : i.zero = some z)
    (hsize : i.size = E.size) (hby : i.bytes = bytes) (hzs : z.cells.size = E.size) (hsz : 0 < E.size) (hn : xs.length = n) (hown : Own E P w0.heap.size e w A cap xs) (hb : Below w0.heap.size w0 w)
    (y : α) (T : Reg) (hrep : E.rep T w cs.toList y) (hT : ∀ k, T k → P k ∧ k < w.heap.size) (hTA : ∀ a, A = some a → ¬ T a.block)
    (hsmall : (n + 1) * (bytes + 1) ≤ 140737488355328)
    (h : ∀ A' cap' w', Own E P w0.heap.size e w' A' cap' (xs ++ [y]) → Below w0.heap.size w0 w' → (∀ k, k < w.heap.size → A.map (·.block) ≠ some k → w'.heap[k]? = w.heap[k]?) → (w.heap.size ≤ w'.heap.size ∧ (A' = A ∨ A' = some ⟨w.heap.size + 1, 0, none⟩)) → wpList Pr ops Q rest (a.put o.dst (.slice A' (n + 1) cap')) w') :
    wpList Pr ops Q (o :: rest) a (w.alloc (.cells cs e')) := by
  subst hn
  have hsz0 := hb.size
  have e1 : (xs.length + 1) * (bytes + 1) = (xs.length + 1) * bytes + (xs.length + 1) := by rw [Nat.mul_add, Nat.mul_one]
  refine wpList_append_one hgd s x t ho hs ht hi hz hsize hby hzs hsz (hown.alloc _) _ _ hx cs.toList y T (E.stable (fun _ h => h) (fun k hk => Below.heap_alloc _ _ _ (hT k hk).2) hrep)
    (fun k hk => ⟨(hT k hk).1, by have := (hT k hk).2; simp; omega⟩) hTA ?_ (by omega) (by omega) (by simp; omega) ?_
  · intro j u hu
    have e2 : ((⟨w.heap.size, 0, none⟩ : Addr).add j) = ⟨w.heap.size, j, none⟩ := by
      unfold Addr.add; split
      · congr 1; omega
      · show (⟨w.heap.size, 0 + j, none⟩ : Addr) = _
        congr 1; omega
    rw [e2]
    have hnew : (w.alloc (.cells cs e')).heap[w.heap.size]? = some (.cells cs e' (0, 0)) := heap_alloc_new w _
    simp only [World.cell?, hnew]
    simpa using hu
  · intro A' cap' w' h1 h2 h5
    have hsz2 := h2.size
    refine h A' cap' w' h1 ((hown.alloc _).grown (hb.alloc hsz0 _) h2 (Nat.le_refl _) (by simp; omega)) (fun k hk hne => ?_) ⟨by simp at hsz2; omega, by simpa using h5⟩
    rw [h2.block k (by simp; omega) (fun e => hne e.symm), Below.heap_alloc _ _ _ hk]
theorem Own.cast {xs' : List α} (h : Own E P base e w A cap xs) (hx : xs = xs') : Own E P base e w A cap xs' := hx ▸ h
theorem add_at (g j : Nat) : ((⟨g, 0, none⟩ : Addr).add j) = ⟨g, j, none⟩ := by
  unfold Addr.add; split
  · congr 1; omega
  · show (⟨g, 0 + j, none⟩ : Addr) = _
    congr 1; omega
/-- 'make([]T, n)': as many zeros. -/
theorem Own.made (cells : Array Value) (y : α) (n : Nat) (hB : base ≤ w.heap.size) (hn : n ≤ 9223372036854775807) (hc : cells.size = n * E.size) (hr : ∀ i, i < n → ∃ T : Reg, E.rep T w ((cells.toList.drop (i * E.size)).take E.size) y ∧ ∀ k, ¬ T k) :
    Own E P base e (w.alloc (.cells cells e)) (some ⟨w.heap.size, 0, none⟩) n (List.replicate n y) := by
  refine ⟨cells.toList, fun _ => False, ⟨by simp [hc], .inr ⟨w.heap.size, n, cells, by simp, hB, heap_alloc_new w _, by simp, by unfold maxLen; omega, hc, ?_⟩⟩, (fun _ h => h.elim), (fun _ _ h => h), fun i hi => ?_⟩
  · rw [List.length_replicate, ← hc, ← Array.length_toList, List.take_length]
  · simp only [List.length_replicate] at hi
    obtain ⟨T, h1, h2⟩ := hr i hi
    rw [List.getElem_replicate]
    exact E.stable (fun k h => (h2 k h).elim) (fun k h => (h2 k h).elim) h1
/-- An element of one cell of an own list. -/
theorem Own.cellAt (h : Own E P base e w A cap xs) (h1 : E.size = 1) {i : Nat} (hi : i < xs.length) :
    ∃ g u, A = some ⟨g, 0, none⟩ ∧ base ≤ g ∧ g < w.heap.size ∧ w.cell? ⟨g, i, none⟩ = some u ∧ w.frozen? ⟨g, i, none⟩ = false ∧ E.rep (fun k => P k ∧ k < w.heap.size ∧ k ≠ g) w [u] xs[i] := by
  obtain ⟨us, S, h2, h3, h4, h5⟩ := h
  have hul : us.length = xs.length := by have := h2.1; rw [h1] at this; omega
  rcases h2.2 with ⟨h, h0⟩ | ⟨g, c, cur, hv, hb, hg, hn, hm, hcs, ht⟩
  · omega
  · simp only [Value.slice.injEq] at hv
    obtain ⟨rfl, _, rfl⟩ := hv
    have hgs : g < w.heap.size := (Array.getElem?_eq_some_iff.1 hg).1
    have hc := h2.cells (g := g) rfl i us[i] (List.getElem?_eq_getElem (by omega))
    rw [add_at] at hc
    refine ⟨g, us[i], rfl, hb, hgs, hc, ?_, ?_⟩
    · simp [World.frozen?, hg]
    · have := h5 i hi
      rw [h1, Nat.mul_one, List.drop_eq_getElem_cons (by omega), List.take_succ_cons, List.take_zero] at this
      exact E.stable (fun k hk => ⟨(h3 k hk).1, (h3 k hk).2, fun e => h4 _ rfl (e ▸ hk)⟩) (fun _ _ => rfl) this
theorem heap_setCell_same (w : World) (g j : Nat) (u : Value) (cur : Array Value) (e : TypeId) (hg : w.heap[g]? = some (.cells cur e (0, 0))) : (w.setCell ⟨g, j, none⟩ u).heap[g]? = some (.cells (cur.setIfInBounds j u) e (0, 0)) := by
  have hlt : g < w.heap.size := (Array.getElem?_eq_some_iff.1 hg).1
  have he := (Array.getElem?_eq_some_iff.1 hg).2
  simp only [World.setCell, Array.getElem?_modify, if_true]
  rw [hg]; simp
/-- A store into it. -/
theorem Own.setCell (h : Own E P base e w A cap xs) (h1 : E.size = 1) {i : Nat} (hi : i < xs.length) {g : Nat} (hA : A = some ⟨g, 0, none⟩) {u : Value} {y : α} {T : Reg} (hrep : E.rep T w [u] y)
    (hT : ∀ k, T k → P k ∧ k < w.heap.size ∧ k ≠ g) : Own E P base e (w.setCell ⟨g, i, none⟩ u) A cap (xs.set i y) := by
  obtain ⟨us, S, h2, h3, h4, h5⟩ := h
  have hul : us.length = xs.length := by have := h2.1; rw [h1] at this; omega
  have hsz : (w.setCell ⟨g, i, none⟩ u).heap.size = w.heap.size := by simp [World.setCell]
  have hold : ∀ k, k ≠ g → (w.setCell ⟨g, i, none⟩ u).heap[k]? = w.heap[k]? := fun k hk => Below.heap_setCell w ⟨g, i, none⟩ u k hk
  subst hA
  rcases h2.2 with ⟨h, h0⟩ | ⟨g', c, cur, hv, hb, hg, hn, hm, hcs, ht⟩
  · omega
  · simp only [Value.slice.injEq, Option.some.injEq, Addr.mk.injEq, and_true] at hv
    obtain ⟨rfl, _, rfl⟩ := hv
    have hSg : ∀ k, S k → k ≠ g := fun k hk e => h4 _ rfl (e ▸ hk)
    refine ⟨us.set i u, fun k => S k ∨ T k, ⟨by simp [h1, hul], .inr ⟨g, cap, cur.setIfInBounds i u, by simp, hb, heap_setCell_same w g i u cur e hg, by simpa using hn, hm, by simpa using hcs, ?_⟩⟩, ?_, ?_, ?_⟩
    · rw [Array.toList_setIfInBounds, List.take_set, List.length_set, ht]
    · rintro k (hk | hk)
      · exact ⟨(h3 k hk).1, by rw [hsz]; exact (h3 k hk).2⟩
      · exact ⟨(hT k hk).1, by rw [hsz]; exact (hT k hk).2.1⟩
    · rintro a ha (hk | hk)
      · exact h4 a ha hk
      · cases ha; exact (hT _ hk).2.2 rfl
    · intro j hj
      simp only [List.length_set] at hj
      have h6 := h5 j hj
      rw [h1, Nat.mul_one, List.drop_eq_getElem_cons (by omega), List.take_succ_cons, List.take_zero] at h6
      rw [h1, Nat.mul_one, List.drop_eq_getElem_cons (by simp; omega), List.take_succ_cons, List.take_zero]
      by_cases hij : i = j
      · subst hij
        simp only [List.getElem_set_self]
        exact E.stable (fun k h => .inr h) (fun k hk => hold k (hT k hk).2.2) hrep
      · simp only [List.getElem_set_ne hij]
        exact E.stable (fun k h => .inl h) (fun k hk => hold k (hSg k hk)) h6
theorem madeCells_one (u : Value) (n : Nat) : (madeCells #[u] n).toList = List.replicate n u := by
  refine List.ext_getElem (by simp [madeCells]) fun i h1 h2 => ?_
  simp only [madeCells, Array.toList_map, List.getElem_map, List.getElem_replicate]
  have : ∀ j : Nat, (#[u][j % #[u].size]! : Value) = u := fun j => by
    have : j % #[u].size = 0 := Nat.mod_one j
    rw [this]; rfl
  exact this _
/-- 'make([]T, n)' of one-cell elements. -/
theorem wpList_make_list {Pr : Program} {ops : Array Oper} {rest : List Oper} {o : Oper} {a : Act} {Q : Exit → Act → World → Prop} {w0 : World} {n : Nat} (hgd : o.guard = none) (l c : Operand) (t : TypeId) (hop : o.op = Op.makeSlice t l c)
    {i : TypeInfo} {z u : Value} {bytes : Nat} (ht : Pr.underlying t = some (.slice e)) (hi : Pr.info? e = some i) (hz : i.zero = some z) (hsize : i.size = 1) (hby : i.bytes = bytes) (hzc : z.cells = #[u]) (hE : E.size = 1)
    (y : α) (hrep : ∀ (T : Reg) w, E.rep T w [u] y) (hl : a.eval l = .int .i64 (n : Int)) (hc : a.eval c = .int .i64 (n : Int)) (hsmall : n * (bytes + 1) ≤ 140737488355328) (hb : Below w0.heap.size w0 w)
    (h : ∀ w', Own E P w0.heap.size e w' (some ⟨w.heap.size, 0, none⟩) n (List.replicate n y) → Below w0.heap.size w0 w' → (∀ k, k < w.heap.size → w'.heap[k]? = w.heap[k]?) → w.heap.size < w'.heap.size → wpList Pr ops Q rest (a.put o.dst (.slice (some ⟨w.heap.size, 0, none⟩) n n)) w') :
    wpList Pr ops Q (o :: rest) a w := by
  have e1 : n * (bytes + 1) = n * bytes + n := by rw [Nat.mul_add, Nat.mul_one]
  have hsz0 := hb.size
  refine wpList_make_full w hgd l c t hop w0.heap.size e i z 1 ht hi hz hsize .i64 .i64 n n n hl hc rfl rfl ?_ ?_ hsz0 fun w' h1 h2 => ?_
  · rw [hby, Nat.mul_comm]; omega
  · unfold maxLen; omega
  · have hg : w.heap.size < w'.heap.size := by
      rcases h1.2 with ⟨h, _⟩ | ⟨g, c, cur, hv, hbb, hgg, _⟩
      · cases h
      · simp only [Value.slice.injEq, Option.some.injEq, Addr.mk.injEq, and_true] at hv
        rw [hv.1]; exact (Array.getElem?_eq_some_iff.1 hgg).1
    refine h w' ?_ (hb.grown h2 hsz0 (fun k hk => by cases hk)) (fun k hk => h2.block k hk (by simp)) hg
    rw [Nat.mul_one, hzc, madeCells_one] at h1
    refine ⟨List.replicate n u, fun _ => False, ?_, (fun _ h => h.elim), (fun _ _ h => h), fun i hi => ?_⟩
    · rw [hE, List.length_replicate]; exact h1
    · simp only [List.length_replicate] at hi
      rw [hE, Nat.mul_one, List.drop_replicate, List.take_replicate, List.getElem_replicate, show min 1 (n - i) = 1 by omega]
      exact hrep _ _
theorem cells_at {w : World} {g : Nat} {cs : Array Value} {e : TypeId} (h : w.heap[g]? = some (.cells cs e (0, 0))) (i : Nat) (hi : i < cs.size) : w.cell? ⟨g, i, none⟩ = some cs[i] ∧ w.frozen? ⟨g, i, none⟩ = false := by
  refine ⟨?_, by simp [World.frozen?, h]⟩
  simp only [World.cell?, h, Option.isSome_none]
  simp [hi]
theorem below_new {w w' : World} {o : Obj} {B : Nat} (h : Below B (w.alloc o) w') (hB : w.heap.size < B) : w'.heap[w.heap.size]? = some o := by
  rw [h.block _ hB]; exact heap_alloc_new w _
theorem list_choose {β : Type} {n : Nat} {p : Nat → β → Prop} (h : ∀ i, i < n → ∃ b, p i b) : ∃ l : List β, l.length = n ∧ ∀ i (hi : i < l.length), p i l[i] := by
  induction n with
  | zero => exact ⟨[], rfl, fun i hi => absurd hi (Nat.not_lt_zero _)⟩
  | succ n ih =>
    obtain ⟨l, hl, hp⟩ := ih (fun i hi => h i (Nat.lt_succ_of_lt hi))
    obtain ⟨b, hb⟩ := h n (Nat.lt_succ_self _)
    refine ⟨l ++ [b], by simp [hl], fun i hi => ?_⟩
    by_cases hin : i < l.length
    · rw [List.getElem_append_left hin]; exact hp i hin
    · obtain rfl : i = l.length := by simp at hi; omega
      rw [List.getElem_append_right (Nat.le_refl _)]
      simp only [Nat.sub_self, List.getElem_cons_zero]
      rw [hl]; exact hb
theorem add_off (b o j : Nat) : ((⟨b, o, none⟩ : Addr).add j) = ⟨b, o + j, none⟩ := by
  unfold Addr.add; split
  · congr 1; omega
  · rfl
/-- The cells of a list of one-cell elements. -/
theorem Sl.cells {S : Reg} (h : Sl E S w A cap xs) (h1 : E.size = 1) {a : Addr} (hA : A = some a) :
    ∃ us : List Value, us.length = xs.length ∧ (∀ i (h2 : i < us.length) (h3 : i < xs.length), E.rep S w [us[i]] xs[i]) ∧ ∀ j u, us[j]? = some u → w.cell? (a.add j) = some u := by
  obtain ⟨_, _, _, h4⟩ := h
  by_cases h0 : xs.length = 0
  · exact ⟨[], h0.symm, fun i h2 => absurd h2 (Nat.not_lt_zero _), fun j u hu => by simp at hu⟩
  obtain ⟨b, o, rfl, hb, hc⟩ := h4 a hA (by omega)
  have hex : ∀ i, i < xs.length → ∃ u, (∃ h : i < xs.length, E.rep S w [u] xs[i]) ∧ w.cell? ⟨b, o + i, none⟩ = some u := by
    intro i hi
    obtain ⟨cs, hr, hcs⟩ := hc i hi
    have hl := E.len hr
    rw [h1] at hl
    match cs, hl with
    | [u], _ =>
      have := hcs 0 (by simp)
      rw [h1, Nat.mul_one, Nat.add_zero] at this
      exact ⟨u, ⟨hi, hr⟩, this⟩
  obtain ⟨us, hl, hp⟩ := list_choose hex
  refine ⟨us, hl, fun i h2 h3 => (hp i h2).1.2, fun j u hu => ?_⟩
  obtain ⟨hj, rfl⟩ := List.getElem?_eq_some_iff.1 hu
  rw [add_off]
  exact (hp j hj).2
/-- Appending a list of one-cell elements. -/
theorem Own.run_appends {Pr : Program} (t ty : TypeId) (i : TypeInfo) (z : Value) (bytes : Nat) (ht : Pr.underlying t = some (.slice e)) (hi : Pr.info? e = some i) (hz : i.zero = some z)
    (hsize : i.size = E.size) (hby : i.bytes = bytes) (hzs : z.cells.size = E.size) (h1 : E.size = 1) (hown : Own E P base e w A cap xs)
    (ad : Addr) (c : Nat) (ys : List α) (T : Reg) (hsl : Sl E T w (some ad) c ys) (hT : ∀ k, T k → P k ∧ k < w.heap.size) (hTA : ∀ a, A = some a → ¬ T a.block) (hpos : 0 < ys.length)
    (hsmall : (xs.length + ys.length) * (bytes + 1) ≤ 140737488355328) (hbase : base ≤ w.heap.size) :
    ∃ A' cap' w', (Builtin.append_ #[t, t] ty #[.slice A xs.length cap, .slice (some ad) ys.length c]).run Pr w = .ok (.slice A' (xs.length + ys.length) cap') w' ∧
      Own E P base e w' A' cap' (xs ++ ys) ∧ w.grownBy w' (A.map (·.block)) ∧ (A' = A ∨ A' = some ⟨w.heap.size, 0, none⟩) := by
  obtain ⟨us, S, h2, h3, h4, h5⟩ := hown
  obtain ⟨news, hnl0, hnr, hnc⟩ := hsl.cells h1 rfl
  have e1 : (xs.length + ys.length) * (bytes + 1) = (xs.length + ys.length) * bytes + (xs.length + ys.length) := by rw [Nat.mul_add, Nat.mul_one]
  have hnl : news.length = ys.length * E.size := by rw [h1]; omega
  have hone : ∀ u ∈ news, u.oneCell' = true := by
    intro u hu
    obtain ⟨j, hj, rfl⟩ := List.getElem_of_mem hu
    exact E.one (hnr j hj (by omega)) _ (by simp)
  have hb63 : xs.length + ys.length ≤ maxLen := by unfold maxLen; omega
  obtain ⟨v', w', hr, hrow, hgr, _⟩ := run_append_own (P := Pr) w base t ty e i z E.size bytes ht hi hz hsize hby hzs (by omega) _ _ us h2 ad ys.length c news hnl hnc hone hb63 (by omega) hbase
  have hform : ∃ A' cap', v' = .slice A' (xs.length + ys.length) cap' ∧ (A' = A ∨ A' = some ⟨w.heap.size, 0, none⟩) := by
    rcases h2.2 with ⟨h, h0⟩ | ⟨g, c', cur, hv, hb, hg, hn, hm, hcs, htk⟩
    · simp only [Value.slice.injEq] at h
      obtain ⟨rfl, _, rfl⟩ := h
      have hx : xs = [] := List.eq_nil_of_length_eq_zero h0
      subst hx
      simp only [List.length_nil, Nat.zero_add] at hsmall e1
      have hr2 := run_append_nil (P := Pr) w t ty e i z ht hi hz ad ys.length c news (by rw [hsize]; exact hnl) hnc hpos (by omega) (by rw [hby]; omega)
      rw [show (Value.slice none ([] : List α).length 0) = .slice none 0 0 from rfl, hr2] at hr
      cases hr
      refine ⟨some ⟨w.heap.size, 0, none⟩, grownCap w ys.length 0 e, ?_, .inr rfl⟩
      show Value.slice _ ys.length _ = Value.slice _ (0 + ys.length) _
      rw [Nat.zero_add]
    · simp only [Value.slice.injEq] at hv
      obtain ⟨rfl, _, rfl⟩ := hv
      by_cases hroom : xs.length + ys.length ≤ cap
      · have hfit : xs.length * i.size + news.length ≤ cur.size := by
          rw [hsize, hnl, hcs, ← Nat.add_mul]; exact Nat.mul_le_mul_right _ hroom
        have hr2 := run_append_room (P := Pr) w t ty e i ht hi g xs.length cap cur hg ad ys.length c news (by rw [hsize]; exact hnl) hnc hone hroom hfit
        rw [hr2] at hr
        cases hr
        exact ⟨_, _, rfl, .inl rfl⟩
      · have holds : ∀ j u, us[j]? = some u → w.cell? ((⟨g, 0, none⟩ : Addr).add j) = some u := h2.cells (g := g) rfl
        have hr2 := run_append_grow (P := Pr) w t ty e i z ht hi hz ⟨g, 0, none⟩ xs.length cap us (by rw [hsize]; exact h2.1) holds ad ys.length c news (by rw [hsize]; exact hnl) hnc (by omega) (by omega)
          (growslice_fits (by omega) (by rw [hby]; omega))
        rw [hr2] at hr
        cases hr
        exact ⟨_, _, rfl, .inr rfl⟩
  obtain ⟨A', cap', rfl, hA'⟩ := hform
  have hgr' : w.grownBy w' (A.map (·.block)) := by
    have : (Value.slice A xs.length cap).ownBlock = A.map (·.block) := by cases A <;> rfl
    rw [← this]; exact hgr
  refine ⟨A', cap', w', hr, ⟨us ++ news, fun k => S k ∨ T k, ?_, ?_, ?_, ?_⟩, hgr', hA'⟩
  · rw [List.length_append]; exact hrow
  · rintro k (hk | hk)
    · exact ⟨(h3 k hk).1, Nat.lt_of_lt_of_le (h3 k hk).2 hgr.size⟩
    · exact ⟨(hT k hk).1, Nat.lt_of_lt_of_le (hT k hk).2 hgr.size⟩
  · intro a ha hST
    rcases hA' with rfl | rfl
    · rcases hST with h | h
      · exact h4 a ha h
      · exact hTA a ha h
    · cases ha
      rcases hST with h | h
      · exact Nat.lt_irrefl _ (h3 _ h).2
      · exact Nat.lt_irrefl _ (hT _ h).2
  · intro j hj
    have hul : us.length = xs.length := by have := h2.1; rw [h1] at this; omega
    have hkeep : ∀ k, (S k ∨ T k) → w'.heap[k]? = w.heap[k]? := by
      intro k hk
      have hlt : k < w.heap.size := by rcases hk with h | h; exact (h3 k h).2; exact (hT k h).2
      refine hgr'.block k hlt ?_
      intro e
      cases A with
      | none => cases e
      | some a =>
        simp only [Option.map_some, Option.some.injEq] at e
        subst e
        rcases hk with h | h
        · exact h4 a rfl h
        · exact hTA a rfl h
    have hul2 : (us ++ news).length = us.length + news.length := List.length_append
    simp only [List.length_append] at hj
    rw [h1, Nat.mul_one, List.drop_eq_getElem_cons (by omega), List.take_succ_cons, List.take_zero]
    by_cases hjx : j < xs.length
    · rw [List.getElem_append_left (by omega), List.getElem_append_left hjx]
      have h6 := h5 j hjx
      rw [h1, Nat.mul_one, List.drop_eq_getElem_cons (by omega), List.take_succ_cons, List.take_zero] at h6
      exact E.stable (fun k h => .inl h) (fun k h => hkeep k (.inl h)) h6
    · rw [List.getElem_append_right (by omega), List.getElem_append_right (by omega)]
      have h6 := hnr (j - us.length) (by omega) (by omega)
      have e2 : j - us.length = j - xs.length := by rw [hul]
      simp only [e2] at h6 ⊢
      exact E.stable (fun k h => .inr h) (fun k h => hkeep k (.inr h)) h6
theorem wpList_append_list {Pr : Program} {ops : Array Oper} {rest : List Oper} {o : Oper} {a : Act} {Q : Exit → Act → World → Prop} {w0 : World} {n m : Nat} (hgd : o.guard = none) (s x : Operand) (t : TypeId)
    (ho : o.op = .call { callee := .builtin .append, args := #[s, x], argTypes := #[t, t] }) {c : Nat} {ad : Addr} (hs : a.eval s = .slice A n cap) (hx : a.eval x = .slice (some ad) m c)
    {i : TypeInfo} {z : Value} {bytes : Nat} (ht : Pr.underlying t = some (.slice e)) (hi : Pr.info? e = some i) (hz : i.zero = some z)
    (hsize : i.size = E.size) (hby : i.bytes = bytes) (hzs : z.cells.size = E.size) (h1 : E.size = 1) (hn : xs.length = n) (hown : Own E P w0.heap.size e w A cap xs) (hb : Below w0.heap.size w0 w)
    (ys : List α) (hm : ys.length = m) (T : Reg) (hsl : Sl E T w (some ad) c ys) (hT : ∀ k, T k → P k ∧ k < w.heap.size) (hTA : ∀ a, A = some a → ¬ T a.block) (hpos : 0 < m)
    (hsmall : (n + m) * (bytes + 1) ≤ 140737488355328)
    (h : ∀ A' cap' w', Own E P w0.heap.size e w' A' cap' (xs ++ ys) → Below w0.heap.size w0 w' → (∀ k, k < w.heap.size → A.map (·.block) ≠ some k → w'.heap[k]? = w.heap[k]?) → (w.heap.size ≤ w'.heap.size ∧ (A' = A ∨ A' = some ⟨w.heap.size, 0, none⟩)) → wpList Pr ops Q rest (a.put o.dst (.slice A' (n + m) cap')) w') :
    wpList Pr ops Q (o :: rest) a w := by
  subst hn; subst hm
  refine wpList_plain hgd fun K hK => ?_
  obtain ⟨A', cap', w', hr, h2, h3, h5⟩ := hown.run_appends (Pr := Pr) t o.type i z bytes ht hi hz hsize hby hzs h1 ad c ys T hsl hT hTA hpos hsmall hb.size
  unfold Oper.wp execOp
  simp only [ho, resolve, invoke, builtin, Sem.run_bind, Sem.run_pure, Result.andThen_ok, List.map_toArray, List.map_cons, List.map_nil, hs, hx, hr]
  exact hK _ _ (h A' cap' w' h2 (hown.grown hb h3 (Nat.le_refl _) hb.size) (fun k hk hne => h3.block k hk (fun e => hne e.symm)) ⟨h3.size, h5⟩)
/-- An own empty list with room for nothing. -/
theorem Own.empty (hB : base ≤ w.heap.size) : Own E P base e (w.alloc (.cells #[] e)) (some ⟨w.heap.size, 0, none⟩) 0 ([] : List α) :=
  ⟨[], fun _ => False, ⟨by simp, .inr ⟨w.heap.size, 0, #[], rfl, hB, heap_alloc_new w _, Nat.le_refl _, by decide, by simp, by simp⟩⟩, (fun _ h => h.elim), (fun _ _ h => h), (fun i h => absurd h (Nat.not_lt_zero _))⟩
end
end Go.Q
