/-
  Blocks written; blocks that are appended to. No program. Variables made and stored into. No program. Slices made and appended to. No program. Slices written out. No program. One operation. No program. Calls. No program. Statements: operations in the order of the text. No program.
-/
import Derived.Test.YtjfccohgkgcnfaaGreatDoorVA
import Derived.Deep.AppendSrc
import Derived.Test.YtjfccohgkgcnfaaGreatDoorReg
namespace Go.Vl
open Go Go.RowKit
/-- No look at the cells of block k from o on, n of them. -/
def stripC (k o n : Nat) : PV → PV
  | .sl xs (.view (.cell k' j)) => if k' = k ∧ o ≤ j ∧ j < o + n then .sl xs .shared else .sl xs (.view (.cell k' j))
  | p => p
def St.stripC (st : St) (k o n : Nat) : St := { st with env := st.env.map fun x => (x.1, Vl.stripC k o n x.2) }
section
variable {w w' w0 : World} {G G' G0 : Gh} {P : Program} {p q : PV} {v u : Value} {st : St} {tm : Nat → Value}
theorem get_stripC (st : St) (k o n t : Nat) : (st.stripC k o n).get t = stripC k o n (st.get t) := by
  show getE (st.env.map fun x => (x.1, Vl.stripC k o n x.2)) t = stripC k o n (getE st.env t)
  generalize st.env = env
  induction env with
  | nil => rfl
  | cons x r ih =>
    show (if x.1 = t then stripC k o n x.2 else getE (r.map fun x => (x.1, Vl.stripC k o n x.2)) t) = stripC k o n (if x.1 = t then x.2 else getE r t)
    split
    · rfl
    · exact ih
theorem stripC_own {k o n : Nat} {xs : List (List PV)} : stripC k o n p = .sl xs .own ↔ p = .sl xs .own := by
  unfold stripC
  split
  · split <;> simp
  · rfl
theorem Inv.stripC (h : Inv w0 G0 st tm w G) (k o n : Nat) : Inv w0 G0 (st.stripC k o n) tm w G := by
  refine ⟨h.ext, h.store, ⟨fun t => ?_, fun t => ?_⟩⟩
  · rw [get_stripC]
    have hv := h.env.v t
    revert hv
    generalize st.get t = q
    intro hv
    unfold Vl.stripC
    split
    · split
      · exact hv.tag (by simp) (by simp)
      · exact hv
    · exact hv
  · rw [get_stripC]
    have ht := h.env.tag t
    revert ht
    generalize st.get t = q
    intro ht
    unfold Vl.stripC
    split
    · rename_i xs k' j
      split
      · trivial
      · exact ht
    · rename_i hno
      cases q with
      | sl xs g =>
        cases g with
        | view l =>
          cases l with
          | tmp s => exact ⟨by rw [get_stripC]; exact stripC_own.2 ht.1, ht.2⟩
          | cell k' j => exact absurd rfl (hno xs k' j)
          | _ => exact ht
        | _ => exact ht
      | _ => exact ht
theorem OwnedAt.keep {l : Loc} {xs : List (List PV)} (h : OwnedAt w G l xs v) (hk : ∀ b, G.Ω b = some l → G'.Ω b = some l ∧ w'.heap[b]? = w.heap[b]? ∧ ∀ i, G'.U b i → G.U b i) : OwnedAt w' G' l xs v := by
  rcases h with h | ⟨b, cap, sz, T, arr, h1, h2, h3, h4, h5, h6, h7⟩
  · exact .inl h
  · obtain ⟨k1, k2, k3⟩ := hk b h4
    exact .inr ⟨b, cap, sz, T, arr, h1, h2, h3, k1, k2.trans h5, h6, fun i hi => h7 i (k3 i hi)⟩
/-- A block of a place gets other cells. -/
theorem Inv.setBlock {k b : Nat} {cs cs' : List PV} {arr arr' : Array Value} {T : TypeId} (h : Inv w0 G0 st tm w G) (hk : G.φ[k]? = some b) (hcs : st.σ[k]? = some cs) (hb : w.heap[b]? = some (.cells arr T (0, 0)))
    (hb' : w'.heap[b]? = some (.cells arr' T (0, 0))) (hold : ∀ i, i ≠ b → w'.heap[i]? = w.heap[i]?) (hos : w'.os = w.os) (htp : w'.tape = w.tape) (hout : w'.output = w.output)
    (hc : CellsOk w G cs' arr') (ht : ∀ j c, cs'[j]? = some c → TagOk w G (.cell k j) c (arr'.getD j Go.undef))
    (hvw : ∀ t xs j, st.get t = .sl xs (.view (.cell k j)) → cs'[j]? = cs[j]? ∧ arr'[j]? = arr[j]?) :
    Inv w0 G0 { st with σ := st.σ.set k cs' } tm w' G := by
  have hkl : k < st.σ.length := (List.getElem?_eq_some_iff.1 hcs).1
  have hbφ : b ∈ G.φ := List.mem_of_getElem? hk
  have hsz : w'.heap.size = w.heap.size := by
    have h1 : b < w'.heap.size := (Array.getElem?_eq_some_iff.1 hb').1
    have h2 : b < w.heap.size := (Array.getElem?_eq_some_iff.1 hb).1
    rcases Nat.lt_trichotomy w'.heap.size w.heap.size with h3 | h3 | h3
    · have h4 := hold w'.heap.size (by omega)
      rw [Array.getElem?_eq_none (by omega), Array.getElem?_eq_getElem (by omega)] at h4; cases h4
    · exact h3
    · have h4 := hold w.heap.size (by omega)
      rw [Array.getElem?_eq_none (xs := w.heap) (by omega), Array.getElem?_eq_getElem (by omega)] at h4; cases h4
  have hcell : ∀ b' i, G.U b' i → G.U b' i ∧ w'.cell? ⟨b', i, none⟩ = w.cell? ⟨b', i, none⟩ := fun b' i hu => by
    refine ⟨hu, World.cell?_of_block (w := w) (hold b' ?_)⟩
    rintro rfl
    exact (h.store.blk k b' cs hk hcs).noU i hu
  have ownK : ∀ l xs v, OwnedAt w G l xs v → OwnedAt w' G l xs v := fun l xs v ho => ho.keep fun b2 hb2 => ⟨hb2, hold b2 (by rintro rfl; exact (h.store.ob b2 (by rw [hb2]; simp)).2 hbφ), fun i hi => hi⟩
  have tagK : ∀ l c v, TagOk w G l c v → TagOk w' G l c v := by
    intro l c v ht
    unfold TagOk at ht ⊢
    split
    · exact ownK _ _ _ ht
    · trivial
  have hnd := h.store.nodup
  refine ⟨?_, ?_, ?_⟩
  · refine h.ext.trans ⟨hos, htp, hout, by omega, fun i _ h1 _ => hold i (by rintro rfl; exact h1 hbφ), hcell, fun b i hu => .inl hu, fun b hb => .inr hb, [], by simp, by simp⟩
  · refine ⟨by simp [h.store.len], hnd, fun k2 b2 cs2 h1 h2 => ?_, fun b i hu => by rw [hsz]; exact h.store.ub b i hu, fun b hb => by rw [hsz]; exact h.store.ob b hb⟩
    by_cases e : k2 = k
    · subst e
      rw [hk] at h1
      obtain rfl := Option.some.inj h1
      rw [List.getElem?_set_self hkl] at h2
      obtain rfl := Option.some.inj h2
      refine ⟨⟨T, arr', hb', hc.size, fun j c hj => ?_⟩, (h.store.blk k2 b cs hk hcs).noU⟩
      have hjl := List.getElem?_eq_some_iff.1 hj
      obtain ⟨h3, h4⟩ := hc.v j hjl.1
      rw [hjl.2] at h3
      have hja : j < arr'.size := by rw [hc.size]; exact hjl.1
      exact ⟨arr'.getD j Go.undef, by simp [hja], h4, h3.mono hcell (fun _ _ h => h), tagK _ _ _ (ht j c hj)⟩
    · rw [List.getElem?_set_ne (fun e2 => e e2.symm)] at h2
      have hne : b2 ≠ b := by
        rintro rfl
        have h3 := (List.getElem?_eq_some_iff.1 h1)
        have h4 := (List.getElem?_eq_some_iff.1 hk)
        exact e ((List.getElem_inj hnd).1 (h3.2.trans h4.2.symm))
      obtain ⟨⟨T2, arr2, h3, h4, h5⟩, h6⟩ := h.store.blk k2 b2 cs2 h1 h2
      refine ⟨⟨T2, arr2, (hold b2 hne).trans h3, h4, fun j c hj => ?_⟩, h6⟩
      obtain ⟨v, h7, h8, h9, h10⟩ := h5 j c hj
      exact ⟨v, h7, h8, h9.mono hcell (fun _ _ h => h), tagK _ _ _ h10⟩
  · refine ⟨fun t => (h.env.v t).mono hcell (fun _ _ h => h), fun t => ?_⟩
    have ht' := h.env.tag t
    have hvt := hvw t
    show TmpTag _ _ _ _ _ (st.get t) _
    revert ht' hvt
    generalize st.get t = q
    intro ht' hvt
    cases q with
    | sl xs g =>
      cases g with
      | own => exact ownK _ _ _ ht'
      | view m =>
        cases m with
        | tmp s => exact ht'
        | cell k2 j =>
          obtain ⟨cs2, b2, h1, h2, h3, h4⟩ := ht'
          by_cases e : k2 = k
          · subst e
            rw [hk] at h3
            obtain rfl := Option.some.inj h3
            rw [hcs] at h1
            obtain rfl := Option.some.inj h1
            obtain ⟨e1, e2⟩ := hvt xs j rfl
            refine ⟨cs', b, List.getElem?_set_self hkl, by rw [e1]; exact h2, hk, ?_⟩
            simp only [World.cell?, hb] at h4
            simp only [World.cell?, hb']
            simpa [e2] using h4
          · have hne : b2 ≠ b := by
              rintro rfl
              have h5 := (List.getElem?_eq_some_iff.1 h3)
              have h6 := (List.getElem?_eq_some_iff.1 hk)
              exact e ((List.getElem_inj hnd).1 (h5.2.trans h6.2.symm))
            refine ⟨cs2, b2, ?_, h2, h3, ?_⟩
            · show (st.σ.set k cs')[k2]? = some cs2
              rw [List.getElem?_set_ne (fun e2 => e e2.symm)]; exact h1
            · rw [World.cell?_of_block (w := w) (hold b2 hne)]; exact h4
        | _ => exact ht'
      | _ => trivial
    | tup cs2 =>
      intro i xs hi
      obtain ⟨arr2, u, h1, h2, h3⟩ := ht' i xs hi
      exact ⟨arr2, u, h1, h2, ownK _ _ _ h3⟩
    | _ => trivial
/-- Block b holds the rows xs, and temporary d may append to it. -/
theorem Inv.own {b d sz cap : Nat} {xs : List (List PV)} {arr : Array Value} {T : TypeId} (h : Inv w0 G0 st tm w G) (hb : b ∉ G.φ) (hfree : w.heap.size ≤ b ∨ G.Ω b ≠ none)
    (hno : ∀ l, G.Ω b = some l → ∀ ys, claim st l ≠ .sl ys .own) (hos : w'.os = w.os) (htp : w'.tape = w.tape) (hout : w'.output = w.output) (hsize : w.heap.size ≤ w'.heap.size)
    (hold : ∀ k, k < w.heap.size → k ≠ b → w'.heap[k]? = w.heap[k]?) (hU : ∀ i, G.U b i → w'.cell? ⟨b, i, none⟩ = w.cell? ⟨b, i, none⟩ ∧ i < xs.length * sz)
    (hb' : w'.heap[b]? = some (.cells arr T (0, 0))) (hsz : arr.size = cap * sz) (hne : xs ≠ []) (hrow : ∀ x ∈ xs, x.length = sz) (hcap : xs.length ≤ cap) (hcap2 : cap ≤ 9223372036854775807)
    (hv : ∀ i (hi : i < xs.length) j (hj : j < (xs[i]).length), V w G.U [] xs[i][j] (arr.getD (i * sz + j) Go.undef) ∧ (arr.getD (i * sz + j) Go.undef).oneCell' = true) :
    Inv w0 G0 (st.put (some d) (.sl xs .own)) (upd tm d (.slice (some ⟨b, 0, none⟩) xs.length cap)) w' { U := fun b' i => G.U b' i ∨ (b' = b ∧ i < xs.length * sz), φ := G.φ, Ω := fun b' => if b' = b then some (.tmp d) else G.Ω b' } := by
  have hcell : ∀ b' i, G.U b' i → (G.U b' i ∨ (b' = b ∧ i < xs.length * sz)) ∧ w'.cell? ⟨b', i, none⟩ = w.cell? ⟨b', i, none⟩ := fun b' i hu => by
    refine ⟨.inl hu, ?_⟩
    by_cases e : b' = b
    · subst e; exact (hU i hu).1
    · exact World.cell?_of_block (w := w) (hold b' (h.store.ub b' i hu) e)
  have hne2 : ∀ b2 l ys, G.Ω b2 = some l → claim st l = .sl ys .own → b2 ≠ b := by
    rintro b2 l ys h1 h2 rfl; exact hno l h1 ys h2
  have ownK : ∀ l ys v, claim st l = .sl ys .own → OwnedAt w G l ys v → OwnedAt w' { U := fun b' i => G.U b' i ∨ (b' = b ∧ i < xs.length * sz), φ := G.φ, Ω := fun b' => if b' = b then some (.tmp d) else G.Ω b' } l ys v := by
    intro l ys v hcl ho
    refine ho.keep fun b2 hb2 => ?_
    have hn := hne2 b2 l ys hb2 hcl
    refine ⟨by show (if b2 = b then _ else _) = _; rw [if_neg hn]; exact hb2, hold b2 (h.store.ob b2 (by rw [hb2]; simp)).1 hn, fun i hi => ?_⟩
    rcases hi with hi | hi
    · exact hi
    · exact absurd hi.1 hn
  have hφlt : ∀ (k x : Nat), G.φ[k]? = some x → x < w.heap.size ∧ x ≠ b := by
    intro k x hk
    have hkl : k < st.σ.length := by rw [← h.store.len]; exact (List.getElem?_eq_some_iff.1 hk).1
    obtain ⟨⟨T2, arr2, h3, _⟩, _⟩ := h.store.blk k x _ hk (List.getElem?_eq_getElem hkl)
    exact ⟨(Array.getElem?_eq_some_iff.1 h3).1, by rintro rfl; exact hb (List.mem_of_getElem? hk)⟩
  have hext : Ext w G w' { U := fun b' i => G.U b' i ∨ (b' = b ∧ i < xs.length * sz), φ := G.φ, Ω := fun b' => if b' = b then some (.tmp d) else G.Ω b' } := by
    refine ⟨hos, htp, hout, hsize, fun k hk h1 h2 => hold k hk ?_, hcell, fun b' i hu => ?_, fun b' hb2 => ?_, [], by simp, by simp⟩
    · rintro rfl
      rcases hfree with h3 | h3
      · omega
      · exact h3 h2
    · rcases hu with hu | ⟨rfl, _⟩
      · exact .inl hu
      · exact .inr hfree
    · by_cases e : b' = b
      · subst e; exact hfree
      · have : (if b' = b then some (.tmp d) else G.Ω b') ≠ none := hb2
        rw [if_neg e] at this
        exact .inr this
  refine ⟨h.ext.trans hext, ?_, ?_⟩
  · rw [put_σ]
    refine ⟨h.store.len, h.store.nodup, fun k x cs h1 h2 => ?_, fun b' i hu => ?_, fun b' hb2 => ?_⟩
    · obtain ⟨hx1, hx2⟩ := hφlt k x h1
      obtain ⟨⟨T2, arr2, h3, h4, h5⟩, h6⟩ := h.store.blk k x cs h1 h2
      refine ⟨⟨T2, arr2, (hold x hx1 hx2).trans h3, h4, fun j c hj => ?_⟩, fun i hu => ?_⟩
      · obtain ⟨v, h7, h8, h9, h10⟩ := h5 j c hj
        refine ⟨v, h7, h8, h9.mono hcell (fun _ _ h => h), ?_⟩
        unfold TagOk at h10 ⊢
        split
        · exact ownK _ _ _ (by simp [claim, List.getD, h2, hj]) h10
        · trivial
      · rcases hu with hu | hu
        · exact h6 i hu
        · exact hx2 hu.1
    · rcases hu with hu | ⟨rfl, _⟩
      · exact Nat.lt_of_lt_of_le (h.store.ub b' i hu) hsize
      · exact (Array.getElem?_eq_some_iff.1 hb').1
    · by_cases e : b' = b
      · subst e; exact ⟨(Array.getElem?_eq_some_iff.1 hb').1, hb⟩
      · have : (if b' = b then some (.tmp d) else G.Ω b') ≠ none := hb2
        rw [if_neg e] at this
        have := h.store.ob b' this
        exact ⟨Nat.lt_of_lt_of_le this.1 hsize, this.2⟩
  · have henv : EnvOk w' { U := fun b' i => G.U b' i ∨ (b' = b ∧ i < xs.length * sz), φ := G.φ, Ω := fun b' => if b' = b then some (.tmp d) else G.Ω b' } st tm := by
      refine ⟨fun t => (h.env.v t).mono hcell (fun _ _ h => h), fun t => ?_⟩
      have ht' := h.env.tag t
      have hclm : ∀ ys, st.get t = .sl ys .own → claim st (.tmp t) = .sl ys .own := fun ys e => e
      have hclt : ∀ cs i ys, st.get t = .tup cs → cs[i]? = some (.sl ys .own) → claim st (.tcomp t i) = .sl ys .own := fun cs i ys e e2 => by simp [claim, e, List.getD, e2]
      revert ht' hclm hclt
      generalize st.get t = q
      intro ht' hclm hclt
      cases q with
      | sl ys g =>
        cases g with
        | own => exact ownK _ _ _ (hclm ys rfl) ht'
        | view m =>
          cases m with
          | tmp s => exact ht'
          | cell k j =>
            obtain ⟨cs, x, h1, h2, h3, h4⟩ := ht'
            obtain ⟨hx1, hx2⟩ := hφlt k x h3
            exact ⟨cs, x, h1, h2, h3, by rw [World.cell?_of_block (w := w) (hold x hx1 hx2)]; exact h4⟩
          | _ => exact ht'
        | _ => trivial
      | tup cs =>
        intro i ys hi
        obtain ⟨arr2, u, h1, h2, h3⟩ := ht' i ys hi
        exact ⟨arr2, u, h1, h2, ownK _ _ _ (hclt cs i ys rfl hi) h3⟩
      | _ => trivial
    have hbnd : ∀ i j, i < xs.length → j < sz → i * sz + j < xs.length * sz := by
      intro i j hi hj
      calc i * sz + j < i * sz + sz := by omega
        _ = (i + 1) * sz := by rw [Nat.add_mul, Nat.one_mul]
        _ ≤ xs.length * sz := Nat.mul_le_mul_right _ hi
    have hle : xs.length * sz ≤ arr.size := by rw [hsz]; exact Nat.mul_le_mul_right _ hcap
    refine henv.put d ?_ ?_
    · refine .sl _ _ _ b 0 sz cap (fun i j => arr.getD (i * sz + j) Go.undef) hcap hcap2 (fun i hi => hrow _ (List.getElem_mem hi)) (fun i j hi hj => .inr ⟨rfl, by have := hbnd i j hi hj; omega⟩) (fun i j hi hj => ?_) (fun i j hi hj => ?_) (fun i hi j hj => ?_) (by simp) (by simp)
      · have := hbnd i j hi hj
        simp only [World.cell?, hb', Nat.zero_add]
        have h5 : i * sz + j < arr.size := by omega
        simp [h5]
      · have h6 := hrow _ (List.getElem_mem hi)
        exact (hv i hi j (by rw [h6]; exact hj)).2
      · exact (hv i hi j hj).1.mono hcell (fun _ _ h => h)
    · exact .inr ⟨b, cap, sz, T, arr, rfl, hne, hrow, if_pos rfl, hb', hsz, fun i hi => by
        rcases hi with hi | hi
        · exact (hU i hi).2
        · exact hi.2⟩
end
end Go.Vl
namespace Go.Vl
open Go Go.RowKit
section
variable {w w' w0 : World} {G G' G0 : Gh} {P : Program} {p q : PV} {v u : Value} {st st' : St} {a : Act} {o : Oper} {d : Nat}
theorem setCells_facts (b : Nat) (T : TypeId) : ∀ (vs : List Value) (o : Nat) (w : World) (arr : Array Value), w.heap[b]? = some (.cells arr T (0, 0)) →
    ∃ arr', (w.setCells b o vs).heap[b]? = some (.cells arr' T (0, 0)) ∧ arr'.size = arr.size ∧ (∀ i, arr'[i]? = if o ≤ i ∧ i < o + vs.length ∧ i < arr.size then vs[i - o]? else arr[i]?) ∧
      (∀ i, i ≠ b → (w.setCells b o vs).heap[i]? = w.heap[i]?) ∧ (w.setCells b o vs).heap.size = w.heap.size ∧ (w.setCells b o vs).os = w.os ∧ (w.setCells b o vs).tape = w.tape ∧ (w.setCells b o vs).output = w.output
  | [], o, w, arr, h => ⟨arr, h, rfl, fun i => by rw [if_neg (by simp; omega)], fun _ _ => rfl, rfl, rfl, rfl, rfl⟩
  | x :: vs, o, w, arr, h => by
    have h1 := Go.Q.heap_setCell_same w b o x arr T h
    obtain ⟨arr', k1, k2, k3, k4, k5, k6, k7, k8⟩ := setCells_facts b T vs (o + 1) _ _ h1
    refine ⟨arr', k1, by rw [k2]; simp, fun i => ?_, fun i hi => (k4 i hi).trans (Below.heap_setCell _ _ _ _ hi), by rw [World.setCells, k5]; simp [World.setCell], by rw [World.setCells, k6]; rfl, by rw [World.setCells, k7]; rfl, by rw [World.setCells, k8]; rfl⟩
    rw [k3 i]
    simp only [Array.size_setIfInBounds, List.length_cons]
    by_cases e : i = o
    · subst e
      rw [if_neg (by omega)]
      by_cases hs : i < arr.size
      · rw [if_pos (by omega)]; simp [hs]
      · rw [if_neg (by omega)]; simp [hs]
    · by_cases hc : o + 1 ≤ i ∧ i < o + 1 + vs.length ∧ i < arr.size
      · rw [if_pos hc, if_pos (by omega)]
        have : i - o = (i - (o + 1)) + 1 := by omega
        rw [this, List.getElem?_cons_succ]
      · rw [if_neg hc, if_neg (by omega), Array.getElem?_setIfInBounds_ne (fun e2 => e e2.symm)]
theorem run_new (T : TypeId) (arr : Array Value) (w : World) : (newRow T arr).run P w = .ok ⟨w.heap.size, 0, none⟩ (w.alloc (.cells arr T)) := by
  simp only [newRow, Sem.run_bind, run_newObj, Result.andThen_ok, Sem.run_pure]; rfl
/-- What a variable of a type begins with. -/
def zeroV (P : Program) (T : TypeId) : Option (List PV) := (zeroP P T).map fun z => z.map ownNil
def evAlloc (P : Program) (T : TypeId) (st : St) (d : Nat) : Option St :=
  (zeroV P T).map fun z => ({ st with σ := st.σ ++ [z] } : St).put (some d) (.ptr st.σ.length 0)
theorem StoreOk.lt {σ : List (List PV)} (h : StoreOk w G σ) {b : Nat} (hb : b ∈ G.φ) : b < w.heap.size := by
  obtain ⟨k, hk, rfl⟩ := List.getElem_of_mem hb
  have hk2 : k < σ.length := by rw [← h.len]; exact hk
  obtain ⟨⟨T, arr, h3, _⟩, _⟩ := h.blk k _ _ (List.getElem?_eq_getElem hk) (List.getElem?_eq_getElem hk2)
  exact (Array.getElem?_eq_some_iff.1 h3).1
theorem evAlloc_inv {T : TypeId} (h : Inv w0 G0 st (fun t => a.tmps.getD t Go.undef) w G) (he : evAlloc P T st d = some st') :
    ∃ v w' G', (Instr.alloc T true (.tuple #[])).run P w = .ok v w' ∧ Inv w0 G0 st' (upd (fun t => a.tmps.getD t Go.undef) d v) w' G' ∧ ∀ b ∈ G.φ, w'.heap[b]? = w.heap[b]? := by
  unfold evAlloc zeroV at he
  cases hz : zeroP P T with
  | none => rw [hz] at he; cases he
  | some z =>
    rw [hz] at he
    obtain rfl := Option.some.inj he
    obtain ⟨zv, hz1, hz2⟩ := zero_cells (w := w) (G := G) hz
    have hc : CellsOk w G (z.map ownNil) zv.cells := ⟨by rw [hz2.size]; simp, fun i hi => by
      have hi' : i < z.length := by simpa using hi
      simp only [List.getElem_map]
      exact ⟨V_ownNil (hz2.v i hi').1, (hz2.v i hi').2⟩⟩
    obtain ⟨h1, h2⟩ := h.newBlock (T := T) hc (fun j c hj => by
      rw [List.getElem?_map] at hj
      cases hzj : z[j]? with
      | none => rw [hzj] at hj; cases hj
      | some y =>
        rw [hzj] at hj
        obtain rfl := Option.some.inj hj
        have hjl := List.getElem?_eq_some_iff.1 hzj
        have := (hz2.v j hjl.1).1
        rw [hjl.2] at this
        exact ownNil_tag this _)
    refine ⟨.pointer (some ⟨w.heap.size, 0, none⟩), w.alloc (.cells zv.cells T), _, ?_, h1.putPlain d (.ptr _ _ _ _ h2) rfl, ?_⟩
    · simp only [Instr.alloc, Sem.run_bind, zero_run hz1, Result.andThen_ok, newVar, run_new, Sem.run_pure]
    · exact fun b hb => Below.heap_alloc _ _ _ (h.store.lt hb)
/-- A temporary that may append to what it holds. -/
def ownTmp (st : St) : Operand → Option (Nat × List (List PV))
  | .tmp s => match st.get s with | .sl xs .own => some (s, xs) | _ => none
  | _ => none
theorem ownTmp_spec {x : Operand} {s : Nat} {xs : List (List PV)} (h : ownTmp st x = some (s, xs)) : x = .tmp s ∧ st.get s = .sl xs .own := by
  unfold ownTmp at h
  split at h
  · split at h
    · rename_i hg
      simp only [Option.some.injEq, Prod.mk.injEq] at h
      obtain ⟨rfl, rfl⟩ := h
      exact ⟨rfl, hg⟩
    · cases h
  · cases h
theorem cell_or_agg (h : (isCell p || isAggP p) = true) : isCell p = true ∨ ∃ cs, p = .agg cs := by
  rw [Bool.or_eq_true] at h
  rcases h with h | h
  · exact .inl h
  · cases p with
    | agg cs => exact .inr ⟨cs, rfl⟩
    | _ => cases h
theorem one_cells {xs : List (List PV)} {g : Grow} {φ : List Nat} {U : Nat → Nat → Prop} (h : V w U φ (.sl xs g) v) : v.cells = #[v] := by
  cases h <;> rfl
/-- What is in a variable that is made for a value, and the state. -/
def evBox (st : St) (d : Nat) (x : Operand) : Option St :=
  match ownTmp st x with
  | some (s, xs) => some (({ (st.put (some s) (.sl xs .shared)) with σ := st.σ ++ [[.sl xs .own]] } : St).put (some d) (.ptr st.σ.length 0))
  | none => if isCell (opd st x) || isAggP (opd st x) then some (({ st with σ := st.σ ++ [(cellsP (opd st x)).map ownNil] } : St).put (some d) (.ptr st.σ.length 0)) else none
theorem evBox_inv {T : TypeId} {x : Operand} (h : Inv w0 G0 st (fun t => a.tmps.getD t Go.undef) w G) (he : evBox st d x = some st') :
    ∃ v w' G', (Instr.box T (a.eval x)).run P w = .ok v w' ∧ Inv w0 G0 st' (upd (fun t => a.tmps.getD t Go.undef) d v) w' G' ∧ ∀ b ∈ G.φ, w'.heap[b]? = w.heap[b]? := by
  have run : ∀ v : Value, (Instr.box T v).run P w = .ok (.pointer (some ⟨w.heap.size, 0, none⟩)) (w.alloc (.cells v.cells T)) := fun v => by
    simp only [Instr.box, Sem.run_bind, newVar, run_new, Result.andThen_ok, Sem.run_pure]
  have hv := opd_V (a := a) h.env x
  unfold evBox at he
  split at he
  · rename_i s xs hot
    obtain ⟨rfl, hg'⟩ := ownTmp_spec hot
    obtain rfl := Option.some.inj he
    have hO : OwnedAt w G (.tmp s) xs (a.tmps.getD s Go.undef) := by have := h.env.tag s; rw [hg'] at this; exact this
    have hg : opd st (.tmp s) = .sl xs .own := hg'
    rw [hg] at hv
    have h1 := (h.share hg').rel (.tmp s) (.cell st.σ.length 0) (fun ys e => by rw [claim, get_put, if_pos rfl] at e; cases e)
    have hc : CellsOk w (G.rel (.tmp s) (.cell st.σ.length 0)) [.sl xs .own] (a.eval (.tmp s)).cells := by
      have := hv.cells (.inl rfl)
      exact ⟨this.1, fun i hi => this.2 i hi⟩
    have hcells := one_cells hv
    obtain ⟨h2, h3⟩ := h1.newBlock (T := T) (cs := [.sl xs .own]) hc (fun j c hj => by
      have hj' := List.getElem?_eq_some_iff.1 hj
      have hj0 : j = 0 := by have := hj'.1; simp at this; exact this
      subst hj0
      obtain rfl : PV.sl xs .own = c := by simpa using hj
      rw [hcells, put_σ]
      exact hO.to rfl rel_moved)
    rw [put_σ] at h2 h3
    exact ⟨_, _, _, run _, h2.putPlain d (.ptr _ _ _ _ h3) rfl, fun b hb => Below.heap_alloc _ _ _ (h.store.lt hb)⟩
  · split at he
    · rename_i hp
      obtain rfl := Option.some.inj he
      have hcl := hv.cells (cell_or_agg hp)
      have hc : CellsOk w G ((cellsP (opd st x)).map ownNil) (a.eval x).cells := ⟨by rw [hcl.1]; simp, fun i hi => by
        have hi' : i < (cellsP (opd st x)).length := by simpa using hi
        simp only [List.getElem_map]
        exact ⟨V_ownNil (hcl.2 i hi').1, (hcl.2 i hi').2⟩⟩
      obtain ⟨h2, h3⟩ := h.newBlock (T := T) hc (fun j c hj => by
        rw [List.getElem?_map] at hj
        cases hzj : (cellsP (opd st x))[j]? with
        | none => rw [hzj] at hj; cases hj
        | some y =>
          rw [hzj] at hj
          obtain rfl := Option.some.inj hj
          have hjl := List.getElem?_eq_some_iff.1 hzj
          have := (hcl.2 j hjl.1).1
          rw [hjl.2] at this
          exact ownNil_tag this _)
      exact ⟨_, _, _, run _, h2.putPlain d (.ptr _ _ _ _ h3) rfl, fun b hb => Below.heap_alloc _ _ _ (h.store.lt hb)⟩
    · cases he
-- stores
def splice (cs : List PV) (o : Nat) (ns : List PV) : List PV := cs.take o ++ ns ++ cs.drop (o + ns.length)
def evStore (P : Program) (T : TypeId) (st : St) (x y : Operand) : Option (Bool × St) :=
  match opd st x, szT P T with
  | .ptr b o, some n =>
    match st.σ[b]? with
    | some cs =>
      match ownTmp st y with
      | some (s, xs) => some (decide (n = 1 ∧ o < cs.length), { ((st.put (some s) (.sl xs .shared)).stripC b o 1) with σ := st.σ.set b (splice cs o [.sl xs .own]) })
      | none => if isCell (opd st y) || isAggP (opd st y) then some (decide ((cellsP (opd st y)).length = n ∧ o + n ≤ cs.length), { (st.stripC b o n) with σ := st.σ.set b (splice cs o ((cellsP (opd st y)).map ownNil)) }) else none
    | none => none
  | _, _ => none
theorem splice_get {cs ns : List PV} {o : Nat} (h : o + ns.length ≤ cs.length) (i : Nat) : (splice cs o ns)[i]? = if o ≤ i ∧ i < o + ns.length then ns[i - o]? else cs[i]? := by
  unfold splice
  have hl : (cs.take o).length = o := by simp; omega
  by_cases h1 : i < o
  · rw [if_neg (by omega), List.getElem?_append_left (by simp; omega), List.getElem?_append_left (by omega)]
    simp [h1]
  · by_cases h2 : i < o + ns.length
    · rw [if_pos (by omega), List.getElem?_append_left (by simp; omega), List.getElem?_append_right (by omega), hl]
    · rw [if_neg (by omega), List.getElem?_append_right (by simp; omega)]
      simp only [List.length_append, hl, List.getElem?_drop]
      congr 1; omega
theorem splice_len {cs ns : List PV} {o : Nat} (h : o + ns.length ≤ cs.length) : (splice cs o ns).length = cs.length := by
  unfold splice; simp; omega
/-- The store itself. -/
theorem store_inv {k b o : Nat} {cs ns : List PV} {vs : List Value} (h : Inv w0 G0 st (fun t => a.tmps.getD t Go.undef) w G) (hk : G.φ[k]? = some b) (hcs : st.σ[k]? = some cs) (hl : o + ns.length ≤ cs.length) (hlen : vs.length = ns.length)
    (hv : ∀ i (hi : i < ns.length), V w G.U G.φ ns[i] (vs.getD i Go.undef) ∧ (vs.getD i Go.undef).oneCell' = true) (ht : ∀ i (hi : i < ns.length), TagOk w G (.cell k (o + i)) ns[i] (vs.getD i Go.undef))
    (hvw : ∀ t xs j, st.get t = .sl xs (.view (.cell k j)) → j < o ∨ o + ns.length ≤ j) :
    (storeCells ⟨b, o, none⟩ vs).run P w = .ok () (w.setCells b o vs) ∧ Inv w0 G0 { st with σ := st.σ.set k (splice cs o ns) } (fun t => a.tmps.getD t Go.undef) (w.setCells b o vs) G := by
  obtain ⟨⟨T, arr, hb, hsz, hcell⟩, hnoU⟩ := h.store.blk k b cs hk hcs
  obtain ⟨arr', k1, k2, k3, k4, k5, k6, k7, k8⟩ := setCells_facts b T vs o w arr hb
  have hin : ∀ j, j < vs.length → (w.cell? ⟨b, o + 0 + j, none⟩).isSome = true := by
    intro j hj
    have : o + j < arr.size := by omega
    simp [World.cell?, hb, this]
  have hrun := run_storeCells_cells (P := P) b o vs 0 w hin (fun j hj => by simp only [World.frozen?, hb]; simp) (fun u hu => by
    obtain ⟨i, hi, rfl⟩ := List.getElem_of_mem hu
    have := (hv i (by omega)).2
    simpa [hi] using this)
  refine ⟨by simpa using hrun, ?_⟩
  have hgd : ∀ i, arr'.getD i Go.undef = if o ≤ i ∧ i < o + vs.length ∧ i < arr.size then vs.getD (i - o) Go.undef else arr.getD i Go.undef := by
    intro i
    rw [Array.getD_eq_getD_getElem?, k3 i]
    split
    · simp [List.getD]
    · simp
  have hspl := splice_get (cs := cs) (ns := ns) (o := o) hl
  refine h.setBlock hk hcs hb k1 k4 k6 k7 k8 ⟨by rw [k2, hsz, splice_len hl], fun i hi => ?_⟩ (fun j c hj => ?_) (fun t xs j hj => ?_)
  · have hi' : i < cs.length := by rw [← splice_len hl]; exact hi
    have e := hspl i
    rw [List.getElem?_eq_getElem hi] at e
    rw [hgd i]
    by_cases hc : o ≤ i ∧ i < o + ns.length
    · rw [if_pos hc, List.getElem?_eq_getElem (show i - o < ns.length by omega)] at e
      rw [if_pos (by omega), Option.some.inj e]
      exact hv (i - o) (by omega)
    · rw [if_neg hc, List.getElem?_eq_getElem hi'] at e
      rw [if_neg (by omega), Option.some.inj e]
      obtain ⟨v, h1, h2, h3, _⟩ := hcell i cs[i] (List.getElem?_eq_getElem hi')
      have : arr.getD i Go.undef = v := by simp [h1]
      rw [this]; exact ⟨h3, h2⟩
  · rw [hspl j] at hj
    rw [hgd j]
    by_cases hc : o ≤ j ∧ j < o + ns.length
    · rw [if_pos hc] at hj
      rw [if_pos (by omega)]
      have hj' := List.getElem?_eq_some_iff.1 hj
      have := ht (j - o) hj'.1
      rw [hj'.2, show o + (j - o) = j by omega] at this
      exact this
    · rw [if_neg hc] at hj
      have hj' := (List.getElem?_eq_some_iff.1 hj).1
      rw [if_neg (by omega)]
      obtain ⟨v, h1, h2, h3, h4⟩ := hcell j c hj
      have : arr.getD j Go.undef = v := by simp [h1]
      rw [this]; exact h4
  · have := hvw t xs j hj
    rw [hspl j, k3 j, if_neg (by omega), if_neg (by omega)]
    exact ⟨rfl, rfl⟩
theorem evStore_inv {T : TypeId} {x y : Operand} (h : Inv w0 G0 st (fun t => a.tmps.getD t Go.undef) w G) (he : evStore P T st x y = some (true, st')) :
    ∃ w' G', (Instr.storeAt T (a.eval x) (a.eval y)).run P w = .ok () w' ∧ Inv w0 G0 st' (fun t => a.tmps.getD t Go.undef) w' G' := by
  unfold evStore at he
  have hx := opd_V (a := a) h.env x
  have hy := opd_V (a := a) h.env y
  split at he
  · rename_i k o n hxp hn
    rw [hxp] at hx
    revert hx
    generalize a.eval x = xv
    intro hx
    cases hx with
    | ptr _ _ _ b hk =>
    have run : ∀ (v : Value), v.cells.size = n → ∀ w', (storeCells ⟨b, o, none⟩ v.cells.toList).run P w = .ok () w' → (Instr.storeAt T (.pointer (some ⟨b, o, none⟩)) v).run P w = .ok () w' := by
      intro v hv w' hr
      simp only [Instr.storeAt, Instr.sureAddr, storeVar, Sem.run_bind, Sem.run_pure, Result.andThen_ok, szT_run hn, Sem.run_ite]
      rw [if_neg (by simp [hv])]
      simp only [hr]
    split at he
    · rename_i cs hcs
      split at he
      · rename_i s xs hot
        obtain ⟨rfl, hg'⟩ := ownTmp_spec hot
        simp only [Option.some.injEq, Prod.mk.injEq, decide_eq_true_eq] at he
        obtain ⟨⟨rfl, ho⟩, rfl⟩ := he
        have hO : OwnedAt w G (.tmp s) xs (a.tmps.getD s Go.undef) := by have := h.env.tag s; rw [hg'] at this; exact this
        have hg : opd st (.tmp s) = .sl xs .own := hg'
        rw [hg] at hy
        have hcells := one_cells hy
        have h1 := (h.share hg').rel (.tmp s) (.cell k o) (fun ys e => by rw [claim, get_put, if_pos rfl] at e; cases e)
        have hst := store_inv (P := P) (h1.stripC k o 1) (o := o) (cs := cs) (ns := [.sl xs .own]) (vs := (a.eval (.tmp s)).cells.toList) hk (by show (st.put _ _).σ[k]? = _; rw [put_σ]; exact hcs) (by simp; omega) (by rw [hcells]; rfl)
          (fun i hi => by
            have hi0 : i = 0 := by simpa using hi
            subst hi0
            rw [hcells]
            exact ⟨hy, hy.oneCell rfl⟩)
          (fun i hi => by
            have hi0 : i = 0 := by simpa using hi
            subst hi0
            rw [hcells]
            exact hO.to rfl rel_moved)
          (fun t ys j hj => by
            rw [get_stripC] at hj
            revert hj
            generalize (st.put (some s) (.sl xs .shared)).get t = q
            intro hj
            unfold stripC at hj
            split at hj
            · split at hj
              · cases hj
              · rename_i hno
                simp only [PV.sl.injEq, Grow.view.injEq, Loc.cell.injEq] at hj
                obtain ⟨_, rfl, rfl⟩ := hj
                simp only [List.length_singleton]; omega
            · rename_i hno; exact absurd hj (hno ys k j))
        refine ⟨_, G.rel (.tmp s) (.cell k o), run _ (by rw [hcells]; rfl) _ hst.1, ?_⟩
        have := hst.2
        have e : ((st.put (some s) (.sl xs .shared)).stripC k o 1).σ = st.σ := put_σ _ _ _
        rw [e] at this; exact this
      · split at he
        · rename_i hp
          simp only [Option.some.injEq, Prod.mk.injEq, decide_eq_true_eq] at he
          obtain ⟨⟨hln, ho⟩, rfl⟩ := he
          have hcl := hy.cells (cell_or_agg hp)
          have hst := store_inv (P := P) (h.stripC k o n) (o := o) (cs := cs) (ns := (cellsP (opd st y)).map ownNil) (vs := (a.eval y).cells.toList) hk hcs (by simp; omega) (by simp [hcl.1])
            (fun i hi => by
              have hi' : i < (cellsP (opd st y)).length := by simpa using hi
              simp only [List.getElem_map]
              have h3 := hcl.2 i hi'
              have e : (a.eval y).cells.toList.getD i Go.undef = (a.eval y).cells.getD i Go.undef := by simp [List.getD]
              rw [e]
              exact ⟨V_ownNil h3.1, h3.2⟩)
            (fun i hi => by
              have hi' : i < (cellsP (opd st y)).length := by simpa using hi
              simp only [List.getElem_map]
              have h3 := hcl.2 i hi'
              have e : (a.eval y).cells.toList.getD i Go.undef = (a.eval y).cells.getD i Go.undef := by simp [List.getD]
              rw [e]
              exact ownNil_tag h3.1 _)
            (fun t xs j hj => by
              rw [get_stripC] at hj
              revert hj
              generalize st.get t = q
              intro hj
              unfold stripC at hj
              split at hj
              · split at hj
                · cases hj
                · rename_i hno
                  simp only [PV.sl.injEq, Grow.view.injEq, Loc.cell.injEq] at hj
                  obtain ⟨_, rfl, rfl⟩ := hj
                  simp only [List.length_map, hln]; omega
              · rename_i hno; exact absurd hj (hno xs k j))
          exact ⟨_, G, run _ (by rw [hcl.1, hln]) _ hst.1, hst.2⟩
        · cases he
    · cases he
  · cases he
end
end Go.Vl
namespace Go.Vl
open Go Go.RowKit
/-- Of a slice type: its elements' size and bytes, if they have a beginning of that size. -/
def apT (P : Program) (t : TypeId) : Option (Nat × Nat) :=
  match P.underlying t with
  | some (.slice e) => match P.info? e with
    | some i => match i.zero with
      | some z => if z.cells.size = i.size ∧ 0 < i.size ∧ z.cells.toList.all Value.oneCell' = true then some (i.size, i.bytes) else none
      | none => none
    | none => none
  | _ => none
section
variable {w w' w0 : World} {G G' G0 : Gh} {P : Program} {p q : PV} {v u : Value} {st st' : St} {a : Act} {o : Oper} {d : Nat} {U : Nat → Nat → Prop} {φ : List Nat}
theorem apT_spec {t sz bytes : Nat} (h : apT P t = some (sz, bytes)) : ∃ e i z, P.underlying t = some (.slice e) ∧ P.info? e = some i ∧ i.zero = some z ∧ i.size = sz ∧ i.bytes = bytes ∧ z.cells.size = sz ∧ 0 < sz ∧ z.cells.toList.all Value.oneCell' = true := by
  unfold apT at h
  split at h
  · rename_i e hu
    split at h
    · rename_i i hi
      split at h
      · rename_i z hz
        split at h
        · rename_i hc
          simp only [Option.some.injEq, Prod.mk.injEq] at h
          obtain ⟨rfl, rfl⟩ := h
          exact ⟨e, i, z, hu, hi, hz, rfl, rfl, hc.1, hc.2.1, hc.2.2⟩
        · cases h
      · cases h
    · cases h
  · cases h
/-- The rows of a slice, as one list of values. -/
structure Flat (w : World) (U : Nat → Nat → Prop) (xs : List (List PV)) (sz : Nat) (vs : List Value) : Prop where
  len : vs.length = xs.length * sz
  row : ∀ x ∈ xs, x.length = sz
  v : ∀ i (hi : i < xs.length) j (hj : j < (xs[i]).length), V w U [] xs[i][j] (vs.getD (i * sz + j) Go.undef)
  one : ∀ u ∈ vs, u.oneCell' = true
theorem idx_lt {n sz i j : Nat} (hi : i < n) (hj : j < sz) : i * sz + j < n * sz := by
  calc i * sz + j < i * sz + sz := by omega
    _ = (i + 1) * sz := by rw [Nat.add_mul, Nat.one_mul]
    _ ≤ n * sz := Nat.mul_le_mul_right _ hi
theorem idx_div {sz i j : Nat} (hj : j < sz) : (i * sz + j) / sz = i ∧ (i * sz + j) % sz = j := by
  constructor
  · rw [Nat.mul_comm, Nat.mul_add_div (by omega), Nat.div_eq_of_lt hj, Nat.add_zero]
  · rw [Nat.mul_comm, Nat.mul_add_mod, Nat.mod_eq_of_lt hj]
theorem flat_of {xs : List (List PV)} {g : Grow} {sz : Nat} (h : V w U φ (.sl xs g) v) (hsz : 0 < sz) (hrow : xs.all (fun x => x.length == sz) = true) :
    ∃ vs, Flat w U xs sz vs ∧ ((v = .slice none 0 0 ∧ xs = []) ∨ ∃ b o cap, v = .slice (some ⟨b, o, none⟩) xs.length cap ∧ xs.length ≤ cap ∧ cap ≤ 9223372036854775807 ∧ (g = .full → cap = xs.length) ∧ ∀ j u, vs[j]? = some u → w.cell? ⟨b, o + j, none⟩ = some u ∧ U b (o + j)) := by
  have hr : ∀ x ∈ xs, x.length = sz := by
    rw [List.all_eq_true] at hrow
    intro x hx; simpa using hrow x hx
  cases h with
  | nil => exact ⟨[], ⟨by simp, by simp, by simp, by simp⟩, .inl ⟨rfl, rfl⟩⟩
  | sl _ _ _ b o sz' cap us hc hm hs hU hw h1 hv hf hg =>
    have key : ∀ i, i < xs.length → sz' = sz := fun i hi => by rw [← hs i hi]; exact hr _ (List.getElem_mem hi)
    refine ⟨(List.range (xs.length * sz)).map fun q => us (q / sz) (q % sz), ⟨by simp, hr, fun i hi j hj => ?_, fun u hu => ?_⟩, .inr ⟨b, o, cap, rfl, hc, hm, hf, fun j u hj => ?_⟩⟩
    · have hj' : j < sz := by rw [← hr _ (List.getElem_mem hi)]; exact hj
      have hlt := idx_lt hi hj'
      have e : ((List.range (xs.length * sz)).map fun q => us (q / sz) (q % sz)).getD (i * sz + j) Go.undef = us i j := by
        simp [List.getD, hlt, (idx_div hj').1, (idx_div hj').2]
      rw [e]; exact hv i hi j hj
    · obtain ⟨q, hq, rfl⟩ := List.mem_map.1 hu
      have hq' : q < xs.length * sz := by simpa using hq
      have hi : q / sz < xs.length := (Nat.div_lt_iff_lt_mul hsz).2 hq'
      exact h1 _ _ hi (by rw [key _ hi]; exact Nat.mod_lt _ hsz)
    · obtain ⟨hq, rfl⟩ := cells_fn j u hj
      have hi : j / sz < xs.length := (Nat.div_lt_iff_lt_mul hsz).2 hq
      have e := key _ hi
      subst e
      have hj2 := Nat.mod_lt j hsz
      have e2 : o + j / sz' * sz' + j % sz' = o + j := by rw [Nat.add_assoc, Nat.mul_comm, Nat.div_add_mod]
      have := hw _ _ hi hj2
      have h3 := hU _ _ hi hj2
      rw [e2] at this h3
      exact ⟨this, h3⟩
theorem Flat.app {xs ys : List (List PV)} {sz : Nat} {us vs : List Value} (h : Flat w U xs sz us) (k : Flat w U ys sz vs) : Flat w U (xs ++ ys) sz (us ++ vs) := by
  refine ⟨by rw [List.length_append, List.length_append, h.len, k.len, Nat.add_mul], fun x hx => ?_, fun i hi j hj => ?_, fun u hu => ?_⟩
  · rcases List.mem_append.1 hx with hx | hx
    · exact h.row x hx
    · exact k.row x hx
  · have hrow : ((xs ++ ys)[i]).length = sz := by
      rcases List.mem_append.1 (List.getElem_mem hi) with hx | hx
      · exact h.row _ hx
      · exact k.row _ hx
    have hj' : j < sz := by rw [← hrow]; exact hj
    by_cases hix : i < xs.length
    · have hlt := idx_lt hix hj'
      have e1 : (xs ++ ys)[i] = xs[i] := List.getElem_append_left hix
      have e2 : (us ++ vs).getD (i * sz + j) Go.undef = us.getD (i * sz + j) Go.undef := by
        simp only [List.getD]; rw [List.getElem?_append_left (by rw [h.len]; exact hlt)]
      rw [e2]
      have := h.v i hix j (by rw [← e1]; exact hj)
      simp only [e1]; exact this
    · have hiy : i - xs.length < ys.length := by simp at hi; omega
      have e1 : (xs ++ ys)[i] = ys[i - xs.length] := List.getElem_append_right (by omega)
      have e3 : i * sz + j - us.length = (i - xs.length) * sz + j := by
        rw [h.len, Nat.sub_mul]
        have := Nat.mul_le_mul_right sz (show xs.length ≤ i by omega)
        omega
      have e2 : (us ++ vs).getD (i * sz + j) Go.undef = vs.getD ((i - xs.length) * sz + j) Go.undef := by
        simp only [List.getD]
        rw [List.getElem?_append_right (by rw [h.len]; have := Nat.mul_le_mul_right sz (show xs.length ≤ i by omega); omega), e3]
      rw [e2]
      have := k.v (i - xs.length) hiy j (by rw [← e1]; exact hj)
      simp only [e1]; exact this
  · rcases List.mem_append.1 hu with hu | hu
    · exact h.one u hu
    · exact k.one u hu
/-- A new block of rows. -/
theorem Inv.newOwn {sz cap : Nat} {xs : List (List PV)} {vs : List Value} {rest : Array Value} {T : TypeId} (h : Inv w0 G0 st (fun t => a.tmps.getD t Go.undef) w G) (hf : Flat w G.U xs sz vs) (hne : xs ≠ []) (hrest : rest.size = (cap - xs.length) * sz) (hcap : xs.length ≤ cap) (hcap2 : cap ≤ 9223372036854775807) (dr : Bool) :
    ∃ G', Inv w0 G0 (st.put (some d) (.sl xs .own)) (upd (fun t => a.tmps.getD t Go.undef) d (.slice (some ⟨w.heap.size, 0, none⟩) xs.length cap)) ((if dr then w.drew else w).alloc (.cells (vs.toArray ++ rest) T)) G' := by
  have hnφ : w.heap.size ∉ G.φ := by
    intro hm
    obtain ⟨k, hk, he⟩ := List.getElem_of_mem hm
    have hk2 : k < st.σ.length := by rw [← h.store.len]; exact hk
    obtain ⟨⟨T', arr', h3, _⟩, _⟩ := h.store.blk k _ _ (List.getElem?_eq_getElem hk) (List.getElem?_eq_getElem hk2)
    have := (Array.getElem?_eq_some_iff.1 h3).1
    omega
  have hh : (if dr then w.drew else w).heap = w.heap := by cases dr <;> rfl
  have hold : ∀ k, k < w.heap.size → ((if dr then w.drew else w).alloc (.cells (vs.toArray ++ rest) T)).heap[k]? = w.heap[k]? := fun k hk => by
    rw [Below.heap_alloc _ _ _ (by rw [hh]; exact hk), hh]
  have hnew : ((if dr then w.drew else w).alloc (.cells (vs.toArray ++ rest) T)).heap[w.heap.size]? = some (.cells (vs.toArray ++ rest) T (0, 0)) := by
    have := heap_alloc_new (if dr then w.drew else w) (.cells (vs.toArray ++ rest) T)
    rw [hh] at this; exact this
  refine ⟨_, h.own (b := w.heap.size) (sz := sz) (cap := cap) (arr := vs.toArray ++ rest) (T := T) hnφ (.inl (Nat.le_refl _)) (fun l hl => ?_) ?_ ?_ ?_ ?_ (fun k hk _ => hold k hk) (fun i hu => ?_) hnew ?_ hne hf.row hcap hcap2 (fun i hi j hj => ?_)⟩
  · have := (h.store.ob w.heap.size (by rw [hl]; simp)).1; omega
  · cases dr <;> rfl
  · cases dr <;> rfl
  · cases dr <;> rfl
  · simp [hh]
  · have := h.store.ub _ _ hu; omega
  · have h1 := hf.len
    simp only [Array.size_append, List.size_toArray, hrest, h1]
    rw [← Nat.add_mul]; congr 1; omega
  · have hj' : j < sz := by rw [← hf.row _ (List.getElem_mem hi)]; exact hj
    have hlt := idx_lt hi hj'
    rw [← hf.len] at hlt
    have e : (vs.toArray ++ rest).getD (i * sz + j) Go.undef = vs.getD (i * sz + j) Go.undef := by
      simp [Array.getD_eq_getD_getElem?, Array.getElem?_append, hlt, List.getD]
    rw [e]
    refine ⟨hf.v i hi j hj, ?_⟩
    have : vs.getD (i * sz + j) Go.undef = vs[i * sz + j] := by simp [List.getD, hlt]
    rw [this]; exact hf.one _ (List.getElem_mem hlt)
end
-- append
/-- The slice that is appended to: its rows, whether it fills its block, and the state in which no one else appends to it. -/
def evAppBase (st : St) (x : Operand) : Option (List (List PV) × Bool × St) :=
  match x with
  | .tmp s =>
    match st.get s with
    | .sl xs .own => some (xs, false, st.put (some s) (.sl xs .shared))
    | .sl xs (.view (.tmp r)) => some (xs, false, st.put (some r) (.sl xs .shared))
    | .sl xs (.view (.cell k j)) => some (xs, false, { (st.stripC k j 1) with σ := st.σ.set k ((st.σ.getD k []).set j (.sl xs .shared)) })
    | .sl xs .nil => some (xs, false, st)
    | .sl xs .full => some (xs, true, st)
    | _ => none
  | .const c => match absC c with
    | .sl xs .nil => some (xs, false, st)
    | _ => none
  | _ => none
def byteRows (s : ByteArray) : List (List PV) := s.data.toList.map fun b => [.lit (.int .u8 b.toNat)]
def evAppSrc (P : Program) (t sz : Nat) (st : St) (y : Operand) : Option (List (List PV)) :=
  match opd st y with
  | .sl ys _ => match slT P t with | some _ => some ys | none => none
  | .lit (.string s) => if strT P t && sz == 1 then some (byteRows s) else none
  | _ => none
def evAppend (P : Program) (c : Call) (st : St) (d : Nat) : Option (Bool × St) :=
  match c.callee, c.args.toList, c.argTypes.toList with
  | .builtin .append, [x, y], [t, t'] =>
    match apT P t, evAppBase st x with
    | some (sz, bytes), some (xs, full, st1) =>
      (evAppSrc P t' sz st y).map fun ys => (decide ((xs.length + ys.length) * (bytes + 1) ≤ 140737488355328) && (xs.all (fun x => x.length == sz) && (ys.all (fun x => x.length == sz) && (!full || !ys.isEmpty))), st1.put (some d) (.sl (xs ++ ys) .own))
    | _, _ => none
  | _, _, _ => none
section
variable {w w' w0 : World} {G G' G0 : Gh} {P : Program} {p q : PV} {v u : Value} {st st' : St} {a : Act} {o : Oper} {d : Nat} {U : Nat → Nat → Prop} {φ : List Nat}
theorem Inv.shareCell {k j : Nat} {xs : List (List PV)} {cs : List PV} {tm : Nat → Value} (h : Inv w0 G0 st tm w G) (hcs : st.σ[k]? = some cs) (hj : cs[j]? = some (.sl xs .own)) :
    Inv w0 G0 { (st.stripC k j 1) with σ := st.σ.set k (cs.set j (.sl xs .shared)) } tm w G := by
  have hkl : k < G.φ.length := by rw [h.store.len]; exact (List.getElem?_eq_some_iff.1 hcs).1
  have hk : G.φ[k]? = some G.φ[k] := List.getElem?_eq_getElem hkl
  obtain ⟨⟨T, arr, hb, hsz, hcell⟩, hnoU⟩ := h.store.blk k _ cs hk hcs
  have hjl := (List.getElem?_eq_some_iff.1 hj).1
  have hget : ∀ i, (cs.set j (.sl xs .shared))[i]? = if i = j then some (.sl xs .shared) else cs[i]? := by
    intro i
    by_cases e : i = j
    · subst e; rw [if_pos rfl, List.getElem?_set_self hjl]
    · rw [if_neg e, List.getElem?_set_ne (fun e2 => e e2.symm)]
  have hget2 : ∀ i c, (cs.set j (.sl xs .shared))[i]? = some c → ∃ u, arr[i]? = some u ∧ u.oneCell' = true ∧ V w G.U G.φ c u ∧ TagOk w G (.cell k i) c u := by
    intro i c hi
    rw [hget i] at hi
    by_cases e : i = j
    · subst e
      rw [if_pos rfl] at hi
      obtain rfl := Option.some.inj hi
      obtain ⟨u, h1, h2, h3, _⟩ := hcell i _ hj
      exact ⟨u, h1, h2, h3.tag (by simp) (by simp), trivial⟩
    · rw [if_neg e] at hi
      exact hcell i c hi
  refine (h.stripC k j 1).setBlock (cs := cs) (cs' := cs.set j (.sl xs .shared)) hk hcs hb hb (fun _ _ => rfl) rfl rfl rfl ⟨by simpa using hsz, fun i hi => ?_⟩ (fun i c hi => ?_) (fun t ys i hi => ?_)
  · obtain ⟨u, h1, h2, h3, _⟩ := hget2 i _ (List.getElem?_eq_getElem hi)
    have : arr.getD i Go.undef = u := by simp [h1]
    rw [this]; exact ⟨h3, h2⟩
  · obtain ⟨u, h1, h2, h3, h4⟩ := hget2 i c hi
    have : arr.getD i Go.undef = u := by simp [h1]
    rw [this]; exact h4
  · rw [get_stripC] at hi
    have hne : i ≠ j := by
      rintro rfl
      revert hi
      generalize st.get t = q
      intro hi
      unfold Vl.stripC at hi
      split at hi
      · split at hi
        · cases hi
        · rename_i hno
          simp only [PV.sl.injEq, Grow.view.injEq, Loc.cell.injEq] at hi
          obtain ⟨_, rfl, rfl⟩ := hi
          omega
      · rename_i hno; exact absurd hi (hno ys k i)
    rw [hget i, if_neg hne]
    exact ⟨rfl, rfl⟩
/-- What is appended to. -/
theorem evAppBase_spec {x : Operand} {xs : List (List PV)} {full : Bool} {st1 : St} (h : Inv w0 G0 st (fun t => a.tmps.getD t Go.undef) w G) (he : evAppBase st x = some (xs, full, st1)) :
    Inv w0 G0 st1 (fun t => a.tmps.getD t Go.undef) w G ∧
    ((full = true ∧ V w G.U G.φ (.sl xs .full) (a.eval x)) ∨ (full = false ∧ V w G.U G.φ (.sl xs .shared) (a.eval x) ∧ ((xs = [] ∧ a.eval x = .slice none 0 0) ∨ ∃ l, OwnedAt w G l xs (a.eval x) ∧ ∀ ys, claim st1 l ≠ .sl ys .own))) := by
  have ntag : ∀ {v : Value}, V w G.U G.φ (.sl xs .nil) v → V w G.U G.φ (.sl xs .shared) v ∧ xs = [] ∧ v = .slice none 0 0 := by
    intro v hv
    obtain ⟨h1, h2⟩ := nil_val hv
    exact ⟨by rw [h1, h2]; exact .nil _ _, h1, h2⟩
  unfold evAppBase at he
  split at he
  · rename_i s
    have hv : V w G.U G.φ (st.get s) (a.eval (.tmp s)) := h.env.v s
    have ht : TmpTag w G st (fun t => a.tmps.getD t Go.undef) s (st.get s) (a.eval (.tmp s)) := h.env.tag s
    split at he
    · rename_i xs' hg
      simp only [Option.some.injEq, Prod.mk.injEq] at he
      obtain ⟨rfl, rfl, rfl⟩ := he
      rw [hg] at hv ht
      refine ⟨h.share hg, .inr ⟨rfl, hv.tag (by simp) (by simp), .inr ⟨_, ht, fun ys e => ?_⟩⟩⟩
      rw [claim, get_put, if_pos rfl] at e; cases e
    · rename_i xs' r hg
      simp only [Option.some.injEq, Prod.mk.injEq] at he
      obtain ⟨rfl, rfl, rfl⟩ := he
      rw [hg] at hv ht
      have htr := h.env.tag r
      rw [ht.1] at htr
      refine ⟨h.share ht.1, .inr ⟨rfl, hv.tag (by simp) (by simp), .inr ⟨.tmp r, ?_, fun ys e => ?_⟩⟩⟩
      · have e2 : a.eval (.tmp s) = a.tmps.getD r Go.undef := ht.2.symm
        rw [e2]; exact htr
      · rw [claim, get_put, if_pos rfl] at e; cases e
    · rename_i xs' k j hg
      simp only [Option.some.injEq, Prod.mk.injEq] at he
      obtain ⟨rfl, rfl, rfl⟩ := he
      rw [hg] at hv ht
      obtain ⟨cs, b, h1, h2, h3, h4⟩ := ht
      have e1 : st.σ.getD k [] = cs := by simp [List.getD, h1]
      rw [e1]
      obtain ⟨⟨T, arr, hb, hsz, hcell⟩, hnoU⟩ := h.store.blk k b cs h3 h1
      obtain ⟨u, k1, k2, k3, k4⟩ := hcell j _ h2
      have e2 : a.eval (.tmp s) = u := by
        simp only [World.cell?, hb] at h4
        have : arr[j]? = some (a.eval (.tmp s)) := by simpa using h4
        rw [k1] at this; exact (Option.some.inj this).symm
      refine ⟨h.shareCell h1 h2, .inr ⟨rfl, hv.tag (by simp) (by simp), .inr ⟨.cell k j, by rw [e2]; exact k4, fun ys e => ?_⟩⟩⟩
      have hkl := (List.getElem?_eq_some_iff.1 h1).1
      have hjl := (List.getElem?_eq_some_iff.1 h2).1
      simp [claim, List.getD, hkl, hjl] at e
    · rename_i xs' hg
      simp only [Option.some.injEq, Prod.mk.injEq] at he
      obtain ⟨rfl, rfl, rfl⟩ := he
      rw [hg] at hv
      obtain ⟨n1, n2, n3⟩ := ntag hv
      exact ⟨h, .inr ⟨rfl, n1, .inl ⟨n2, n3⟩⟩⟩
    · rename_i xs' hg
      simp only [Option.some.injEq, Prod.mk.injEq] at he
      obtain ⟨rfl, rfl, rfl⟩ := he
      rw [hg] at hv
      exact ⟨h, .inl ⟨rfl, hv⟩⟩
    · cases he
  · rename_i c
    have hv : V w G.U G.φ (absC c) (a.eval (.const c)) := V_absC c
    split at he
    · rename_i xs' hc
      simp only [Option.some.injEq, Prod.mk.injEq] at he
      obtain ⟨rfl, rfl, rfl⟩ := he
      rw [hc] at hv
      obtain ⟨n1, n2, n3⟩ := ntag hv
      exact ⟨h, .inr ⟨rfl, n1, .inl ⟨n2, n3⟩⟩⟩
    · cases he
  · cases he
theorem byteRows_flat (s : ByteArray) : Flat w U (byteRows s) 1 (byteCells s) := by
  refine ⟨by simp [byteRows, byteCells], fun x hx => ?_, fun i hi j hj => ?_, fun u hu => ?_⟩
  · obtain ⟨b, _, rfl⟩ := List.mem_map.1 hx; rfl
  · have hi' : i < s.data.toList.length := by simpa [byteRows] using hi
    have e1 : (byteRows s)[i] = [.lit (.int .u8 (s.data.toList[i]).toNat)] := by simp [byteRows]
    have hj0 : j = 0 := by rw [e1] at hj; simpa using hj
    subst hj0
    have e2 : (byteCells s).getD (i * 1 + 0) Go.undef = .int .u8 (s.data.toList[i]).toNat := by
      simp only [Nat.mul_one, Nat.add_zero, byteCells, List.getD, List.getElem?_map, List.getElem?_eq_getElem hi', Option.map_some, Option.getD_some]
    rw [e2]; simp only [e1]; exact .lit _ _
  · unfold byteCells at hu
    obtain ⟨b, _, rfl⟩ := List.mem_map.1 hu; rfl
/-- What is appended. -/
theorem evAppSrc_spec {t : TypeId} {y : Operand} {ys : List (List PV)} {sz : Nat} (h : EnvOk w G st fun t => a.tmps.getD t Go.undef) (he : evAppSrc P t sz st y = some ys) (hsz : 0 < sz) (hall : ys.all (fun x => x.length == sz) = true) :
    ∃ vs, Flat w G.U ys sz vs ∧ Src P sz t (a.eval y) ys.length vs w := by
  have hv := opd_V (a := a) h y
  unfold evAppSrc at he
  split at he
  · rename_i ys' g hg
    split at he
    · rename_i nn hs
      obtain rfl := Option.some.inj he
      obtain ⟨e', _, hu, _⟩ := slT_spec (n := nn.1) (m := nn.2) hs
      rw [hg] at hv
      obtain ⟨vs, h1, h2⟩ := flat_of hv hsz hall
      refine ⟨vs, h1, ?_⟩
      rcases h2 with ⟨h3, h4⟩ | ⟨b, o, cap, h3, h4, h5, _, h6⟩
      · subst h4
        have : vs = [] := List.eq_nil_of_length_eq_zero (by rw [h1.len]; simp)
        subst this
        rw [h3]
        exact Src.ofNil w hu 0
      · rw [h3]
        exact Src.ofSlice w hu ⟨b, o, none⟩ _ cap vs h1.len (fun j u hj => by rw [addr_add]; exact (h6 j u hj).1) h1.one
    · cases he
  · rename_i s hg
    split at he
    · rename_i hs
      obtain rfl := Option.some.inj he
      simp only [Bool.and_eq_true, beq_iff_eq] at hs
      obtain ⟨hs, rfl⟩ := hs
      have hu : P.underlying t = some .string := by unfold strT at hs; split at hs <;> simp_all
      rw [hg] at hv
      have ev : a.eval y = .string s := by
        revert hv; generalize a.eval y = z; intro hv
        cases hv with
        | lit _ _ => rfl
      have hlen : (byteRows s).length = s.size := by simp [byteRows]
      refine ⟨_, byteRows_flat s, ?_⟩
      rw [ev, hlen]
      exact Src.ofString w hu s
    · cases he
  · cases he
theorem evAppend_inv {c : Call} (h : Inv w0 G0 st (fun t => a.tmps.getD t Go.undef) w G) (hop : o.op = .call c) (he : evAppend P c st d = some (true, st')) :
    ∃ v w' G', (execOp a.eval o).run P w = .ok (.value v) w' ∧ Inv w0 G0 st' (upd (fun t => a.tmps.getD t Go.undef) d v) w' G' ∧ ∀ b ∈ G.φ, w'.heap[b]? = w.heap[b]? := by
  obtain ⟨callee, args, ats⟩ := c
  unfold evAppend at he
  simp only at he
  split at he
  · rename_i x y t t' hx ht
    have e1 : args = #[x, y] := by rw [← Array.toArray_toList (xs := args), hx]
    have e2 : ats = #[t, t'] := by rw [← Array.toArray_toList (xs := ats), ht]
    subst e1; subst e2
    have hex : ∀ {v w'}, (Builtin.append_ #[t, t'] o.type #[a.eval x, a.eval y]).run P w = .ok v w' → (execOp a.eval o).run P w = .ok (.value v) w' := by
      intro v w' hr
      unfold execOp
      rw [hop]
      simp [resolve, invoke, builtin, hr]
    split at he
    · rename_i sz bytes xs full st1 hap hbase
      cases hsrc : evAppSrc P t' sz st y with
      | none => rw [hsrc] at he; cases he
      | some ys =>
      rw [hsrc] at he
      simp only [Option.map_some, Option.some.injEq, Prod.mk.injEq, Bool.and_eq_true, decide_eq_true_eq] at he
      obtain ⟨⟨hbound, hxall, hyall, hfull⟩, rfl⟩ := he
      obtain ⟨e, i, z, hu, hi, hz, rfl, rfl, hzs, hpos, _⟩ := apT_spec hap
      obtain ⟨vs, hfy, hsr⟩ := evAppSrc_spec h.env hsrc hpos hyall
      obtain ⟨hinv, hcase⟩ := evAppBase_spec h hbase
      have hmul : (xs.length + ys.length) * i.bytes + (xs.length + ys.length) ≤ 140737488355328 := by rw [Nat.mul_add, Nat.mul_one] at hbound; exact hbound
      -- a new block
      have grow : ∀ (base : Option Addr) (cap : Nat) (us : List Value), a.eval x = .slice base xs.length cap → Flat w G.U xs i.size us → (Builtin.firstCells i.size xs.length (.slice base xs.length cap)).run P w.drew = .ok us.toArray w.drew → cap < xs.length + ys.length → xs ++ ys ≠ [] →
          ∃ v w' G', (execOp a.eval o).run P w = .ok (.value v) w' ∧ Inv w0 G0 (st1.put (some d) (.sl (xs ++ ys) .own)) (upd (fun t => a.tmps.getD t Go.undef) d v) w' G' ∧ ∀ b ∈ G.φ, w'.heap[b]? = w.heap[b]? := by
        intro base cap us hbx hfx hold hlt hne
        have hr := run_append_grow_src (P := P) w t t' o.type e i z hu hi hz base xs.length cap us hold (a.eval y) ys.length vs hsr hlt (by omega) (growslice_fits hlt (by omega))
        rw [← hbx] at hr
        obtain ⟨G', hG⟩ := hinv.newOwn (d := d) (cap := grownCap w (xs.length + ys.length) cap e) (rest := Builtin.zeroCells z.cells (grownCap w (xs.length + ys.length) cap e - (xs.length + ys.length))) (T := e) (hfx.app hfy) hne
          (by rw [size_zeroCells, hzs, List.length_append]) (by rw [List.length_append]; exact grownCap_ge _ _ _ _)
          (by have := grownCap_le_maxLen w (xs.length + ys.length) cap e (by unfold maxLen; omega); unfold maxLen at this; exact this) true
        rw [List.length_append] at hG
        exact ⟨_, _, G', hex hr, hG, fun b hb => Below.heap_alloc w.drew _ _ (h.store.lt hb)⟩
      -- in place
      rcases hcase with ⟨rfl, hvx⟩ | ⟨rfl, hvx, hown⟩
      · obtain ⟨us, hfx, hcx⟩ := flat_of hvx hpos hxall
        have hyne : ys ≠ [] := by rintro rfl; simp at hfull
        have hylen : 0 < ys.length := List.length_pos_iff.2 hyne
        rcases hcx with ⟨h1, h2⟩ | ⟨b, off, cap, h1, h2, h3, h4, h5⟩
        · subst h2
          have : us = [] := List.eq_nil_of_length_eq_zero (by rw [hfx.len]; simp)
          subst this
          exact grow none 0 [] h1 hfx (run_firstCells_none _ _ _ _ _) (by simpa using hylen) (by simpa using hyne)
        · have hcap := h4 rfl
          exact grow (some ⟨b, off, none⟩) cap us h1 hfx (run_firstCells_some _ _ _ _ _ _ us hfx.len (fun j u hj => by rw [addr_add]; exact (h5 j u hj).1)) (by omega) (by simp [hyne])
      · obtain ⟨us, hfx, hcx⟩ := flat_of hvx hpos hxall
        rcases hown with ⟨rfl, hnil⟩ | ⟨l, ho, hno⟩
        · have : us = [] := List.eq_nil_of_length_eq_zero (by rw [hfx.len]; simp)
          subst this
          by_cases hyne : ys = []
          · subst hyne
            have hvs : vs = [] := List.eq_nil_of_length_eq_zero (by rw [hfy.len]; simp)
            subst hvs
            refine ⟨.slice none 0 0, w, G, hex ?_, ?_, fun _ _ => rfl⟩
            · rw [hnil]
              have hk := hsr.kind
              have hcc := hsr.cells
              simp only [List.length_nil] at hcc
              rcases hk with ⟨e', hk⟩ | hk <;> simp [Builtin.append_, run_underlying hu, run_underlying hk, sizeOf, typeInfo, hi, hsr.len, hcc]
            · exact hinv.put d (.nil _ _) (.inl ⟨rfl, rfl⟩)
          · exact grow none 0 [] hnil hfx (run_firstCells_none _ _ _ _ _) (by simpa using List.length_pos_iff.2 hyne) (by simpa using hyne)
        · rcases ho with ⟨rfl, hnil⟩ | ⟨b, cap, sz', T, arr, h1, h2, h3, h4, h5, h6, h7⟩
          · have : us = [] := List.eq_nil_of_length_eq_zero (by rw [hfx.len]; simp)
            subst this
            by_cases hyne : ys = []
            · subst hyne
              have hvs : vs = [] := List.eq_nil_of_length_eq_zero (by rw [hfy.len]; simp)
              subst hvs
              refine ⟨.slice none 0 0, w, G, hex ?_, ?_, fun _ _ => rfl⟩
              · rw [hnil]
                have hk := hsr.kind
                have hcc := hsr.cells
                simp only [List.length_nil] at hcc
                rcases hk with ⟨e', hk⟩ | hk <;> simp [Builtin.append_, run_underlying hu, run_underlying hk, sizeOf, typeInfo, hi, hsr.len, hcc]
              · exact hinv.put d (.nil _ _) (.inl ⟨rfl, rfl⟩)
            · exact grow none 0 [] hnil hfx (run_firstCells_none _ _ _ _ _) (by simpa using List.length_pos_iff.2 hyne) (by simpa using hyne)
          · have hsz : sz' = i.size := by
              have h0 : 0 < xs.length := List.length_pos_iff.2 h2
              rw [← h3 _ (List.getElem_mem h0)]; exact hfx.row _ (List.getElem_mem h0)
            subst hsz
            rcases hcx with ⟨h8, h9⟩ | ⟨b2, off, cap2, h8, h9, h10, _, h12⟩
            · exact absurd h9 h2
            · rw [h8] at h1
              simp only [Value.slice.injEq, Option.some.injEq, Addr.mk.injEq, and_true, true_and] at h1
              obtain ⟨⟨rfl, rfl⟩, rfl⟩ := h1
              by_cases hroom : xs.length + ys.length ≤ cap2
              · obtain ⟨arr', k1, k2, k3, k4, k5, k6, k7, k8⟩ := setCells_facts b2 T vs (0 + xs.length * i.size) w arr h5
                have hfit : xs.length * i.size + ys.length * i.size ≤ arr.size := by rw [h6, ← Nat.add_mul]; exact Nat.mul_le_mul_right _ hroom
                have hvl := hfy.len
                have hr := run_append_room_src (P := P) w t t' o.type e i hu hi b2 0 xs.length cap2 (a.eval y) ys.length vs hsr hroom (fun j hj => by
                    have : xs.length * i.size + j < arr.size := by omega
                    simp [World.cell?, h5, this]) (fun j hj => by simp only [World.frozen?, h5]; simp)
                rw [← h8] at hr
                have hul := hfx.len
                have hfl := hfx.app hfy
                have hbφ := (hinv.store.ob b2 (by rw [h4]; simp)).2
                have hO := hinv.own (d := d) (b := b2) (sz := i.size) (cap := cap2) (xs := xs ++ ys) (arr := arr') (T := T) (w' := w.setCells b2 (0 + xs.length * i.size) vs) hbφ (.inr (by rw [h4]; simp)) (fun l' hl' ys' => by
                    rw [h4] at hl'
                    obtain rfl := Option.some.inj hl'
                    exact hno ys') k6 k7 k8 (by rw [k5]; exact Nat.le_refl _) (fun k _ hk => k4 k hk) (fun q hq => by
                    have h13 := h7 q hq
                    refine ⟨?_, by rw [List.length_append, Nat.add_mul]; omega⟩
                    simp only [World.cell?, k1, h5]
                    simp only [Option.isSome_none, Bool.false_eq_true, if_false]
                    rw [k3 q, if_neg (by omega)]) k1 (by rw [k2, h6]) (by simp [h2]) hfl.row (by rw [List.length_append]; exact hroom) h10 (fun q hq j hj => by
                    have hj' : j < i.size := by rw [← hfl.row _ (List.getElem_mem hq)]; exact hj
                    have hlt := idx_lt hq hj'
                    rw [List.length_append, Nat.add_mul] at hlt
                    have hlt2 : q * i.size + j < (us ++ vs).length := by rw [List.length_append]; omega
                    have e : arr'.getD (q * i.size + j) Go.undef = (us ++ vs).getD (q * i.size + j) Go.undef := by
                      rw [Array.getD_eq_getD_getElem?, k3 (q * i.size + j), List.getD]
                      by_cases hc : 0 + xs.length * i.size ≤ q * i.size + j
                      · rw [if_pos (by omega), List.getElem?_append_right (by omega)]
                        congr 2; omega
                      · rw [if_neg (by omega), List.getElem?_append_left (by omega)]
                        have h14 := h12 (q * i.size + j) _ (List.getElem?_eq_getElem (show q * i.size + j < us.length by omega))
                        have h15 := h14.1
                        simp only [World.cell?, h5, Nat.zero_add] at h15
                        rw [List.getElem?_eq_getElem (show q * i.size + j < us.length by omega)]
                        simpa using congrArg (fun o => Option.getD o Go.undef) h15
                    rw [e]
                    refine ⟨hfl.v q hq j hj, ?_⟩
                    have : (us ++ vs).getD (q * i.size + j) Go.undef = (us ++ vs)[q * i.size + j] := by simp only [List.getD]; rw [List.getElem?_eq_getElem hlt2]; rfl
                    rw [this]; exact hfl.one _ (List.getElem_mem hlt2))
                rw [List.length_append] at hO
                exact ⟨_, _, _, hex hr, hO, fun b hb => k4 b (fun e => hbφ (e ▸ hb))⟩
              · exact grow _ cap2 us h8 hfx (run_firstCells_some _ _ _ _ _ _ us hfx.len (fun j u hj => by rw [addr_add]; exact (h12 j u hj).1)) (by omega) (by simp [h2])
    · cases he
  · cases he
end
end Go.Vl
namespace Go.Vl
open Go Go.RowKit
def rowOf (p : PV) : List PV := (cellsP p).map unown
def okRow (sz : Nat) (p : PV) : Bool := (cellsP p).length == sz && ((isCell p || isAggP p) && PV.fitsL 0 (cellsP p))
def evBuildSlice (P : Program) (t len : Nat) (parts : List (Nat × PV)) (st : St) (d : Nat) : Option (Bool × St) :=
  match apT P t with
  | some (sz, _) => some (decide (parts.map (·.1) = List.range len ∧ len * sz ≤ 16777216) && parts.all (fun p => okRow sz p.2), st.put (some d) (if len = 0 then .sl [] .full else .sl (parts.map fun p => rowOf p.2) .own))
  | none => none
section
variable {w w' w0 : World} {G G' G0 : Gh} {P : Program} {p q : PV} {v u : Value} {st st' : St} {a : Act} {o : Oper} {d : Nat} {U : Nat → Nat → Prop} {φ : List Nat}
theorem V_unown_part (h : V w U φ (partV p) v) : V w U φ (unown p) v := by
  unfold partV at h
  split at h
  · obtain ⟨rfl, rfl⟩ := nil_val h
    exact .nil _ _
  · exact h
theorem fits_unown {N : Nat} (h : p.fits N = true) : (unown p).fits N = true := by
  unfold unown
  split
  · rfl
  · rfl
  · exact h
theorem fill_rows (sz : Nat) : ∀ (parts : List (Nat × PV)) (k : Nat) (done : List PV), done.length = k * sz → parts.map (·.1) = List.range' k parts.length → parts.all (fun p => okRow sz p.2) = true →
    fillP (fun i => some (i * sz, sz)) (done ++ List.replicate (parts.length * sz) .undef) parts = some (done ++ (parts.map fun p => (cellsP p.2).map partV).flatten)
  | [], k, done, _, _, _ => by simp [fillP]
  | (i, p) :: parts, k, done, hd, hi, hok => by
    simp only [List.map_cons, List.length_cons, List.range'_succ, List.cons.injEq] at hi
    obtain ⟨rfl, hi2⟩ := hi
    simp only [List.all_cons, Bool.and_eq_true, okRow, beq_iff_eq] at hok
    obtain ⟨⟨h1, h2, h3⟩, h4⟩ := hok
    have hbnd : i * sz + sz ≤ (done ++ List.replicate ((parts.length + 1) * sz) PV.undef).length := by
      simp [hd, Nat.add_mul]
    simp only [fillP, List.length_cons]
    rw [if_pos ⟨h1, hbnd, by simpa using h2⟩]
    have e1 : (done ++ List.replicate ((parts.length + 1) * sz) PV.undef).take (i * sz) = done := by
      rw [← hd]; simp
    have e2 : (done ++ List.replicate ((parts.length + 1) * sz) PV.undef).drop (i * sz + sz) = List.replicate (parts.length * sz) PV.undef := by
      rw [List.drop_append, List.drop_of_length_le (by omega), List.nil_append, hd, List.drop_replicate]
      congr 1
      rw [Nat.add_mul]; omega
    rw [e1, e2]
    have hd2 : (done ++ (cellsP p).map partV).length = (i + 1) * sz := by
      rw [List.length_append, hd, List.length_map, h1, Nat.add_mul, Nat.one_mul]
    have ih := fill_rows sz parts (i + 1) (done ++ (cellsP p).map partV) hd2 hi2 (by simpa [okRow] using h4)
    rw [ih]
    simp
theorem flatten_get {sz : Nat} : ∀ (rows : List (List PV)), (∀ x ∈ rows, x.length = sz) → ∀ i (hi : i < rows.length) j (hj : j < (rows[i]).length), (rows.flatten)[i * sz + j]? = some rows[i][j]
  | [], _, i, hi, _, _ => by simp at hi
  | x :: rows, h, i, hi, j, hj => by
    have hx := h x (by simp)
    rw [List.flatten_cons]
    cases i with
    | zero =>
      simp only [Nat.zero_mul, Nat.zero_add]
      have hj' : j < x.length := hj
      rw [List.getElem?_append_left hj', List.getElem?_eq_getElem hj']; rfl
    | succ i =>
      have hi' : i < rows.length := by simpa using hi
      have hj' : j < (rows[i]).length := by simpa using hj
      rw [List.getElem?_append_right (by rw [hx, Nat.add_mul]; omega), hx]
      have := flatten_get rows (fun y hy => h y (by simp [hy])) i hi' j hj'
      rw [show (i + 1) * sz + j - sz = i * sz + j by rw [Nat.add_mul]; omega, this]; rfl
theorem flatten_len {sz : Nat} : ∀ (rows : List (List PV)), (∀ x ∈ rows, x.length = sz) → rows.flatten.length = rows.length * sz
  | [], _ => by simp
  | x :: rows, h => by
    rw [List.flatten_cons, List.length_append, h x (by simp), flatten_len rows (fun y hy => h y (by simp [hy])), List.length_cons, Nat.add_mul]; omega
theorem getBang_one (z : Array Value) (i : Nat) (hall : z.toList.all Value.oneCell' = true) (hi : i < z.size) : (z[i]!).oneCell' = true := by
  rw [List.all_eq_true] at hall
  rw [getElem!_pos z i hi]
  exact hall _ (by simp)
theorem evBuildSlice_inv {t len : Nat} {parts : List (Nat × PV)} {vals : Array (Nat × Value)} (h : Inv w0 G0 st (fun t => a.tmps.getD t Go.undef) w G) (hl : parts.length = vals.size)
    (hv : ∀ (j : Nat) (p : Nat × PV) (v : Nat × Value), parts[j]? = some p → vals[j]? = some v → p.1 = v.1 ∧ V w G.U G.φ p.2 v.2) (he : evBuildSlice P t len parts st d = some (true, st')) :
    ∃ v w' G', (Instr.buildSlice t len vals).run P w = .ok v w' ∧ Inv w0 G0 st' (upd (fun t => a.tmps.getD t Go.undef) d v) w' G' ∧ ∀ b ∈ G.φ, w'.heap[b]? = w.heap[b]? := by
  unfold evBuildSlice at he
  split at he
  · rename_i sz bytes hap
    simp only [Option.some.injEq, Prod.mk.injEq, Bool.and_eq_true, decide_eq_true_eq] at he
    obtain ⟨⟨⟨hidx, hbig⟩, hok⟩, rfl⟩ := he
    obtain ⟨e, i, z, hu, hi, hz, rfl, rfl, hzs, hpos, hone⟩ := apT_spec hap
    have hlen : parts.length = len := by have := congrArg List.length hidx; simpa using this
    have hzero : (P.info? e).bind (·.zero) = some z := by rw [hi]; exact hz
    have hszr : szT P e = some i.size := by simp [szT, hi]
    by_cases h0 : len = 0
    · subst h0
      rw [if_pos rfl]
      have hv0 : vals = #[] := by
        have : vals.size = 0 := by omega
        exact Array.eq_empty_of_size_eq_zero this
      subst hv0
      refine ⟨.slice (some ⟨w.heap.size, 0, none⟩) 0 0, w.alloc (.cells #[] e), G, ?_, ?_, fun b hb => Below.heap_alloc _ _ _ (h.store.lt hb)⟩
      · simp only [Instr.buildSlice, Sem.run_bind, run_underlying hu, Result.andThen_ok, szT_run hszr, Nat.zero_mul, Sem.run_ite]
        simp [Instr.fill, run_new, Array.range_zero']
      · have h1 : Inv w0 G0 st (fun t => a.tmps.getD t Go.undef) (w.alloc (.cells #[] e)) G := by
          have hb : Below w.heap.size w (w.alloc (.cells #[] e)) := (Below.refl _ _).alloc (Nat.le_refl _) _
          have hnb := h.newBlock (cs := []) (arr := #[]) (T := e) ⟨rfl, fun i hi => by simp at hi⟩ (fun j c hj => by simp at hj)
          have hcell : ∀ b i, G.U b i → G.U b i ∧ (w.alloc (.cells #[] e)).cell? ⟨b, i, none⟩ = w.cell? ⟨b, i, none⟩ := fun b i hu => ⟨hu, cell_alloc (h.store.ub b i hu)⟩
          have hext : Ext w G (w.alloc (.cells #[] e)) G := ⟨rfl, rfl, rfl, by simp, fun k hk _ _ => Below.heap_alloc _ _ _ hk, hcell, fun b i hu => .inl hu, fun b hb => .inr hb, [], by simp, by simp⟩
          have ownK : ∀ l xs v, OwnedAt w G l xs v → OwnedAt (w.alloc (.cells #[] e)) G l xs v := fun l xs v ho => ho.alloc _ rfl rfl
          refine ⟨h.ext.trans hext, ⟨h.store.len, h.store.nodup, fun k b cs h1 h2 => ?_, fun b i hu => by have := h.store.ub b i hu; simp; omega, fun b hb => by have := h.store.ob b hb; exact ⟨by simp; omega, this.2⟩⟩, fun t => (h.env.v t).mono hcell (fun _ _ h => h), fun t => ?_⟩
          · obtain ⟨⟨T2, arr2, h3, h4, h5⟩, h6⟩ := h.store.blk k b cs h1 h2
            refine ⟨⟨T2, arr2, (Below.heap_alloc _ _ _ (Array.getElem?_eq_some_iff.1 h3).1).trans h3, h4, fun j c hj => ?_⟩, h6⟩
            obtain ⟨v, h7, h8, h9, h10⟩ := h5 j c hj
            refine ⟨v, h7, h8, h9.mono hcell (fun _ _ h => h), ?_⟩
            unfold TagOk at h10 ⊢
            split
            · exact ownK _ _ _ h10
            · trivial
          · have ht := h.env.tag t
            revert ht
            generalize st.get t = q
            intro ht
            cases q with
            | sl xs g =>
              cases g with
              | own => exact ownK _ _ _ ht
              | view m =>
                cases m with
                | cell k j =>
                  obtain ⟨cs, b, h1, h2, h3, h4⟩ := ht
                  obtain ⟨⟨T', arr', h5, _⟩, _⟩ := h.store.blk k b cs h3 h1
                  exact ⟨cs, b, h1, h2, h3, by rw [cell_alloc (Array.getElem?_eq_some_iff.1 h5).1]; exact h4⟩
                | _ => exact ht
              | _ => trivial
            | tup cs =>
              intro i xs hi
              obtain ⟨arr, u, h1, h2, h3⟩ := ht i xs hi
              exact ⟨arr, u, h1, h2, ownK _ _ _ h3⟩
            | _ => trivial
        exact h1.putPlain d (.sl _ [] .full w.heap.size 0 i.size 0 (fun _ _ => Go.undef) (by simp) (by omega) (by simp) (by simp) (by simp) (by simp) (by simp) (by simp) (by simp)) rfl
    · rw [if_neg h0]
      have hlen0 : 0 < parts.length := by omega
      have hfill := fill_rows i.size parts 0 [] (by simp) (by rw [hidx, List.range_eq_range', hlen]) hok
      simp only [List.nil_append] at hfill
      -- the cells as they begin
      have hstart : CellsOk w G (List.replicate (parts.length * i.size) .undef) ((Array.range (len * i.size)).map (z.cells[· % z.cells.size]!)) := by
        refine ⟨by simp [hlen], fun q hq => ?_⟩
        have hq' : q < len * i.size := by simpa [hlen] using hq
        refine ⟨by simp only [List.getElem_replicate]; exact .undef _ _, ?_⟩
        have e1 : ((Array.range (len * i.size)).map (z.cells[· % z.cells.size]!)).getD q Go.undef = z.cells[q % z.cells.size]! := by simp [hq']
        rw [e1]
        exact getBang_one _ _ hone (Nat.mod_lt _ (by omega))
      obtain ⟨arr', ha, hc⟩ := fill_run parts vals.toList _ _ _ hstart (by simpa using hl) (fun j p v h1 h2 => hv j p v h1 (by simpa using h2)) hfill
      have hrun : (Instr.buildSlice t len vals).run P w = .ok (.slice (some ⟨w.heap.size, 0, none⟩) len len) (w.alloc (.cells arr' e)) := by
        have hn0 : ¬ len * i.size = 0 := by
          have := Nat.mul_pos (show 0 < len by omega) hpos
          omega
        simp only [Instr.buildSlice, Sem.run_bind, run_underlying hu, Result.andThen_ok, szT_run hszr, Sem.run_ite]
        rw [if_neg (by omega)]
        simp only [Sem.run_pure, Result.andThen_ok, hn0, if_false, zero_run hzero]
        rw [ha]
        simp only [Sem.run_bind, run_new, Result.andThen_ok, Sem.run_pure]
      have hrowlen : ∀ x ∈ parts.map (fun p => (cellsP p.2).map partV), x.length = i.size := by
        intro x hx
        obtain ⟨p, hp, rfl⟩ := List.mem_map.1 hx
        rw [List.all_eq_true] at hok
        have := hok p hp
        simp only [okRow, Bool.and_eq_true, beq_iff_eq] at this
        simpa using this.1
      have hflat : Flat w G.U (parts.map fun p => rowOf p.2) i.size arr'.toList := by
        refine ⟨by simp [hc.size, flatten_len _ hrowlen], fun x hx => ?_, fun q hq j hj => ?_, fun u hu => ?_⟩
        · obtain ⟨p, hp, rfl⟩ := List.mem_map.1 hx
          rw [List.all_eq_true] at hok
          have := hok p hp
          simp only [okRow, Bool.and_eq_true, beq_iff_eq] at this
          simpa [rowOf] using this.1
        · have hq' : q < parts.length := by simpa using hq
          have e1 : (parts.map fun p => rowOf p.2)[q] = rowOf (parts[q]).2 := by simp
          rw [e1] at hj
          have hj2 : j < (cellsP (parts[q]).2).length := by simpa [rowOf] using hj
          have e2 := flatten_get _ hrowlen q (by simpa using hq') j (by simpa using hj2)
          have hlt := (List.getElem?_eq_some_iff.1 e2)
          have h5 := hc.v _ hlt.1
          rw [hlt.2] at h5
          have e3 : arr'.toList.getD (q * i.size + j) Go.undef = arr'.getD (q * i.size + j) Go.undef := by simp [List.getD]
          rw [e3]
          simp only [e1]
          have e4 : (rowOf (parts[q]).2)[j] = unown ((cellsP (parts[q]).2)[j]) := by simp [rowOf]
          rw [e4]
          have h6 := h5.1
          simp only [List.getElem_map] at h6
          have hok2 := hok
          rw [List.all_eq_true] at hok2
          have h7 := hok2 _ (List.getElem_mem hq')
          simp only [okRow, Bool.and_eq_true] at h7
          exact (V_unown_part h6).pure (fits_unown (fitsL_get h7.2.2 j hj2))
        · obtain ⟨q, hq, rfl⟩ := List.getElem_of_mem hu
          have hq' : q < arr'.size := by simpa using hq
          have := (hc.v q (by rw [← hc.size]; exact hq')).2
          simpa [hq'] using this
      have hnerow : (parts.map fun p => rowOf p.2) ≠ [] := by
        intro e2
        have h9 : (parts.map fun p => rowOf p.2).length = 0 := by rw [e2]; rfl
        rw [List.length_map] at h9; omega
      obtain ⟨G', hG⟩ := h.newOwn (d := d) (cap := len) (rest := #[]) (T := e) hflat hnerow (by simp [hlen]) (by simp [hlen]) (Nat.le_trans (Nat.le_mul_of_pos_right len hpos) (Nat.le_trans hbig (by decide))) false
      simp only [List.length_map, hlen] at hG
      simp only [Bool.false_eq_true, if_false, Array.append_empty, Array.toArray_toList] at hG
      exact ⟨_, _, G', hrun, hG, fun b hb => Below.heap_alloc _ _ _ (h.store.lt hb)⟩
  · cases he
end
end Go.Vl
namespace Go.Vl
open Go Go.RowKit
/-- 0: yields a value in every world; 1: reads; 2: any other. -/
def clsOf (o : Oper) : Nat :=
  match o.op with
  | .move _ | .assign _ | .extract _ _ | .pick _ _ _ | .build _ _ | .nilCheck _ | .binOp _ _ _ _ _ | .unOp _ _ _ | .makeFunc _ _ _ | .slice _ _ _ _ _ | .fieldAddr _ _ _ | .field _ _ _ | .indexAddr _ _ _ | .index _ _ _ => 0
  | .load _ _ | .convert _ _ _ => 1
  | .call c => match c.callee with
    | .builtin .len => 0
    | .builtin .min => 0
    | .builtin .max => 0
    | _ => 2
  | _ => 2
/-- An operation that leaves memory alone. -/
def evQuiet (P : Program) (o : Oper) (st : St) (d : Nat) : Option (Bool × St) :=
  match o.op with
  | .move x => match evMove st d x with
    | some st' => some (true, st')
    | none => (evTupMove st d x).map fun st' => (true, st')
  | .assign x => (evAssign st d x).map fun st' => (true, st')
  | .extract x i => (evExtract st d i x).map fun st' => (true, st')
  | _ => (evVal P o st).map fun r => (r.1, st.put (some d) r.2)
def evLoud (P : Program) (o : Oper) (st : St) : Option (Bool × St) :=
  match o.op, o.dst with
  | .alloc T, some d => (evAlloc P T st d).map fun st' => (true, st')
  | .box _ x, some d => (evBox st d x).map fun st' => (true, st')
  | .buildSlice t len parts, some d => evBuildSlice P t len (parts.toList.map fun x => (x.1, opd st x.2)) st d
  | .store T x y, none => evStore P T st x y
  | .call c, some d => evAppend P c st d
  | _, _ => none
def evOp (P : Program) (o : Oper) (st : St) : Option (Bool × St) :=
  if clsOf o = 2 then evLoud P o st else match o.dst with
    | some d => evQuiet P o st d
    | none => none
def isStore (o : Oper) : Bool := match o.op with | .store _ _ _ => true | _ => false
def tmOf (a : Act) (t : Nat) : Value := a.tmps.getD t Go.undef
section
variable {w w' w0 : World} {G G' G0 : Gh} {P : Program} {p q : PV} {v u : Value} {st st' : St} {a : Act} {o : Oper} {d : Nat}
theorem tmOf_put (hd : d < a.tmps.size) (v : Value) : tmOf (a.put (some d) v) = upd (tmOf a) d v := by
  funext t
  show (a.tmps.setIfInBounds d v).getD t Go.undef = _
  unfold upd
  split
  · rename_i e; subst e; simp [hd]
  · rename_i e
    rw [Array.getD_eq_getD_getElem?, Array.getElem?_setIfInBounds_ne e]
    simp [tmOf]
theorem evQuiet_run (h : Inv w0 G0 st (tmOf a) w G) (hd : d < a.tmps.size) (ho : o.dst = some d) (he : evQuiet P o st d = some (true, st')) :
    ∃ v G', (∀ w', (clsOf o = 1 → Reads w G w') → (execOp a.eval o).run P w' = .ok (.value v) w') ∧ (G'.U = G.U ∧ G'.φ = G.φ) ∧ Inv w0 G0 st' (tmOf (a.put o.dst v)) w G' := by
  rw [ho]
  unfold evQuiet at he
  split at he
  · rename_i x hop
    have key : ∀ st', (∃ G', (G'.U = G.U ∧ G'.φ = G.φ) ∧ Inv w0 G0 st' (upd (tmOf a) d (a.eval x)) w G') → ∃ v G', (∀ w', (clsOf o = 1 → Reads w G w') → (execOp a.eval o).run P w' = .ok (.value v) w') ∧ (G'.U = G.U ∧ G'.φ = G.φ) ∧ Inv w0 G0 st' (tmOf (a.put (some d) v)) w G' := by
      rintro st' ⟨G', hsame, hG⟩
      refine ⟨a.eval x, G', fun w' _ => by unfold execOp; rw [hop]; rfl, hsame, ?_⟩
      rw [tmOf_put hd]; exact hG
    split at he
    · rename_i st2 hm
      simp only [Option.some.injEq, Prod.mk.injEq, true_and] at he
      subst he
      exact key _ (evMove_inv h hm)
    · cases hm : evTupMove st d x with
      | none => rw [hm] at he; cases he
      | some st2 =>
        rw [hm] at he
        simp only [Option.map_some, Option.some.injEq, Prod.mk.injEq, true_and] at he
        subst he
        exact key _ (evTupMove_inv h hm)
  · rename_i x hop
    cases hm : evAssign st d x with
    | none => rw [hm] at he; cases he
    | some st2 =>
      rw [hm] at he
      simp only [Option.map_some, Option.some.injEq, Prod.mk.injEq, true_and] at he
      subst he
      obtain ⟨G', hsame, hG⟩ := evAssign_inv h hm
      refine ⟨a.eval x, G', fun w' _ => by unfold execOp; rw [hop]; rfl, hsame, ?_⟩
      rw [tmOf_put hd]; exact hG
  · rename_i x i hop
    cases hm : evExtract st d i x with
    | none => rw [hm] at he; cases he
    | some st2 =>
      rw [hm] at he
      simp only [Option.map_some, Option.some.injEq, Prod.mk.injEq, true_and] at he
      subst he
      obtain ⟨v, G', hr, hsame, hG⟩ := evExtract_inv (P := P) h hm
      refine ⟨v, G', fun w' _ => by unfold execOp; rw [hop]; simp [hr], hsame, ?_⟩
      rw [tmOf_put hd]; exact hG
  · cases hm : evVal P o st with
    | none => rw [hm] at he; cases he
    | some r =>
      rw [hm] at he
      obtain ⟨c, p⟩ := r
      simp only [Option.map_some, Option.some.injEq, Prod.mk.injEq] at he
      obtain ⟨rfl, rfl⟩ := he
      obtain ⟨v, h1, h2, h3⟩ := evVal_run (a := a) h.store h.env hm
      refine ⟨v, G, fun w' hr => h3 w' (fun hrd => hr ?_), ⟨rfl, rfl⟩, ?_⟩
      · unfold isRead at hrd
        unfold clsOf
        split at hrd
        · rename_i hop; simp [hop]
        · rename_i hop; simp [hop]
        · cases hrd
      · rw [tmOf_put hd]
        exact h.put d h1 (h2.tmp (put_σ _ _ _) _ _)
theorem evLoud_run (h : Inv w0 G0 st (tmOf a) w G) (hd : ∀ d, o.dst = some d → d < a.tmps.size) (he : evLoud P o st = some (true, st')) :
    ∃ nx v w' G', (execOp a.eval o).run P w = .ok nx w' ∧ (nx = .value v ∨ (nx = .skip ∧ v = Go.undef)) ∧ Inv w0 G0 st' (tmOf (a.put o.dst v)) w' G' ∧ (isStore o = false → ∀ b ∈ G.φ, w'.heap[b]? = w.heap[b]?) := by
  unfold evLoud at he
  split at he
  · rename_i T d hop hdst
    cases hm : evAlloc P T st d with
    | none => rw [hm] at he; cases he
    | some st2 =>
      rw [hm] at he
      simp only [Option.map_some, Option.some.injEq, Prod.mk.injEq, true_and] at he
      subst he
      obtain ⟨v, w', G', h1, h2, hk⟩ := evAlloc_inv h hm
      refine ⟨_, v, w', G', by unfold execOp; rw [hop]; simp only [Sem.run_bind, h1, Result.andThen_ok, Sem.run_pure], .inl rfl, ?_, fun _ => hk⟩
      rw [hdst, tmOf_put (hd d hdst)]; exact h2
  · rename_i T x d hop hdst
    cases hm : evBox st d x with
    | none => rw [hm] at he; cases he
    | some st2 =>
      rw [hm] at he
      simp only [Option.map_some, Option.some.injEq, Prod.mk.injEq, true_and] at he
      subst he
      obtain ⟨v, w', G', h1, h2, hk⟩ := evBox_inv (P := P) (T := T) h hm
      refine ⟨_, v, w', G', by unfold execOp; rw [hop]; simp only [Sem.run_bind, h1, Result.andThen_ok, Sem.run_pure], .inl rfl, ?_, fun _ => hk⟩
      rw [hdst, tmOf_put (hd d hdst)]; exact h2
  · rename_i t len parts d hop hdst
    obtain ⟨v, w', G', h1, h2, hk⟩ := evBuildSlice_inv (vals := parts.map fun x => (x.1, a.eval x.2)) h (by simp) (fun j p v hp hv => by
      simp only [List.getElem?_map, Array.getElem?_toList] at hp
      simp only [Array.getElem?_map] at hv
      cases hj : parts[j]? with
      | none => rw [hj] at hp; cases hp
      | some z =>
        rw [hj] at hp hv
        simp only [Option.map_some, Option.some.injEq] at hp hv
        subst hp; subst hv
        exact ⟨rfl, opd_V h.env _⟩) he
    refine ⟨_, v, w', G', by unfold execOp; rw [hop]; simp only [Sem.run_bind, h1, Result.andThen_ok, Sem.run_pure], .inl rfl, ?_, fun _ => hk⟩
    rw [hdst, tmOf_put (hd d hdst)]; exact h2
  · rename_i T x y hop hdst
    obtain ⟨w', G', h1, h2⟩ := evStore_inv (a := a) h he
    refine ⟨.skip, Go.undef, w', G', by unfold execOp; rw [hop]; simp only [Sem.run_bind, h1, Result.andThen_ok, Sem.run_pure], .inr ⟨rfl, rfl⟩, ?_, fun hs => by simp [isStore, hop] at hs⟩
    rw [hdst]; exact h2
  · rename_i c d hop hdst
    obtain ⟨v, w', G', h1, h2, hk⟩ := evAppend_inv h hop he
    refine ⟨_, v, w', G', h1, .inl rfl, ?_, fun _ => hk⟩
    rw [hdst, tmOf_put (hd d hdst)]; exact h2
  · cases he
theorem cls_cases (o : Oper) : clsOf o = 0 ∨ clsOf o = 1 ∨ clsOf o = 2 := by
  unfold clsOf
  repeat' split
  all_goals simp
end
end Go.Vl
namespace Go.Vl
open Go Go.RowKit
def callT (P : Program) (f : FuncId) : Bool :=
  match P.funcs[f]? with
  | some fn => fn.body.isSome && (fn.name != "runtime.NumGoroutine")
  | none => false
def evCall (P : Program) (o : Oper) (st : St) : Option (FuncId × List PV) :=
  match o.op with
  | .call c => match c.callee with
    | .value f => match opd st f with
      | .fn f caps => if callT P f then some (f, c.args.toList.map (fun x => unown (opd st x)) ++ caps) else none
      | _ => none
    | _ => none
  | _ => none
def stripCells : PV → PV
  | .sl xs (.view (.cell _ _)) => .sl xs .shared
  | p => p
/-- The state behind a call. -/
def St.aft (st : St) (σ : List (List PV)) : St := { env := st.env.map fun x => (x.1, stripCells x.2), σ }
def Gh.inner (G : Gh) : Gh := { G with Ω := fun b => match G.Ω b with | some (.cell k j) => some (.cell k j) | _ => none }
def retLoc (tup : Bool) (d : Nat) : Loc → Loc
  | .ret i => if tup then .tcomp d i else .tmp d
  | l => l
def isTup : PV → Bool
  | .tup _ => true
  | _ => false
/-- What is known behind a call that gives d its result. -/
def Gh.outer (G G' : Gh) (tup : Bool) (d : Nat) : Gh := { G' with Ω := fun b => match G'.Ω b with | some l => some (retLoc tup d l) | none => G.Ω b }
section
variable {w w' w0 : World} {G G' G0 : Gh} {P : Program} {p q r : PV} {v u : Value} {st st' : St} {a : Act} {o : Oper} {d : Nat} {σ σ' : List (List PV)}
theorem callT_run {f : FuncId} (h : callT P f = true) (vs : Array Value) (w : World) : (callFunc f vs).run P w = .ok (.enter f vs) w := by
  unfold callT at h
  split at h
  · rename_i fn hf
    simp only [Bool.and_eq_true, bne_iff_ne] at h
    have h1 : fn.body ≠ none := by have := h.1; intro e; rw [e] at this; cases this
    simp [callFunc, hf, h1, h.2]
  · cases h
theorem evCall_run {f : FuncId} {args : List PV} (h : EnvOk w G st (tmOf a)) (he : evCall P o st = some (f, args)) :
    ∃ vs : Array Value, vs.size = args.length ∧ (∀ i (hi : i < args.length), V w G.U G.φ args[i] (vs.getD i Go.undef)) ∧ ∀ w', (execOp a.eval o).run P w' = .ok (.enter f vs) w' := by
  unfold evCall at he
  split at he
  · rename_i c hop
    obtain ⟨callee, cargs, ats⟩ := c
    simp only at he
    split at he
    · rename_i fo
      have hv := opd_V (a := a) h fo
      split at he
      · rename_i f' caps hf
        rw [hf] at hv
        split at he
        · rename_i hc
          simp only [Option.some.injEq, Prod.mk.injEq] at he
          obtain ⟨rfl, rfl⟩ := he
          generalize hz : a.eval fo = z at hv
          cases hv with
          | fn _ _ _ arr hn hcaps =>
          refine ⟨cargs.map a.eval ++ arr, by simp [hn], fun i hi => ?_, fun w' => ?_⟩
          · by_cases hlt : i < cargs.size
            · have e1 : (cargs.toList.map (fun x => unown (opd st x)) ++ caps)[i] = unown (opd st cargs[i]) := by
                rw [List.getElem_append_left (by simpa using hlt)]; simp
              have e2 : (cargs.map a.eval ++ arr).getD i Go.undef = a.eval cargs[i] := by
                rw [Array.getD_eq_getD_getElem?, Array.getElem?_append_left (by simpa using hlt)]; simp [hlt]
              rw [e1, e2]; exact V_unown (opd_V h _)
            · have hi2 : i - cargs.size < caps.length := by simp at hi; omega
              have e1 : (cargs.toList.map (fun x => unown (opd st x)) ++ caps)[i] = caps[i - cargs.size] := by
                rw [List.getElem_append_right (by simp; omega)]; simp
              have e2 : (cargs.map a.eval ++ arr).getD i Go.undef = arr.getD (i - cargs.size) Go.undef := by
                rw [Array.getD_eq_getD_getElem?, Array.getElem?_append_right (by simp; omega), Array.getD_eq_getD_getElem?]; simp
              rw [e1, e2]; exact hcaps _ hi2
          · unfold execOp
            rw [hop]
            simp only [Sem.run_bind, resolve, hz, Deferred.ofValue, Sem.run_pure, Result.andThen_ok, invoke]
            rw [callT_run hc]; simp
        · cases he
      · cases he
    · cases he
  · cases he
theorem get_aft (st : St) (σ : List (List PV)) (t : Nat) : (st.aft σ).get t = stripCells (st.get t) := by
  show getE (st.env.map fun x => (x.1, stripCells x.2)) t = stripCells (getE st.env t)
  generalize st.env = env
  induction env with
  | nil => rfl
  | cons x r ih =>
    show (if x.1 = t then stripCells x.2 else getE (r.map fun x => (x.1, stripCells x.2)) t) = stripCells (if x.1 = t then x.2 else getE r t)
    split
    · rfl
    · exact ih
theorem inner_cell {b k j : Nat} : G.inner.Ω b = some (.cell k j) ↔ G.Ω b = some (.cell k j) := by
  show (match G.Ω b with | some (.cell k j) => some (Loc.cell k j) | _ => none) = _ ↔ _
  split <;> simp_all
theorem inner_none {b : Nat} (h : G.Ω b = none) : G.inner.Ω b = none := by
  show (match G.Ω b with | some (.cell k j) => some (Loc.cell k j) | _ => none) = none
  rw [h]
theorem inner_some {b : Nat} (h : G.inner.Ω b ≠ none) : G.Ω b ≠ none := fun e => h (inner_none e)
theorem StoreOk.inner (h : StoreOk w G σ) : StoreOk w G.inner σ := by
  refine ⟨h.len, h.nodup, fun k b cs h1 h2 => ?_, h.ub, fun b hb => h.ob b (inner_some hb)⟩
  obtain ⟨⟨T, arr, h3, h4, h5⟩, h6⟩ := h.blk k b cs h1 h2
  refine ⟨⟨T, arr, h3, h4, fun j c hc => ?_⟩, h6⟩
  obtain ⟨v, h7, h8, h9, h10⟩ := h5 j c hc
  refine ⟨v, h7, h8, h9, ?_⟩
  unfold TagOk at h10 ⊢
  split
  · exact OwnedAt.to h10 rfl (fun b hb => inner_cell.2 hb)
  · trivial
theorem inner_cells (G : Gh) : ∀ b l, G.inner.Ω b = some l → ∃ k j, l = .cell k j := by
  intro b l h
  have : (match G.Ω b with | some (.cell k j) => some (Loc.cell k j) | _ => none) = some l := h
  split at this
  · exact ⟨_, _, (Option.some.inj this).symm⟩
  · cases this
/-- Behind a call. -/
theorem Inv.call {tup : Bool} (h : Inv w0 G0 st (tmOf a) w G) (hs : StoreOk w' G' σ') (hx : Ext w G.inner w' G') (d : Nat) :
    Inv w0 G0 (st.aft σ') (tmOf a) w' (G.outer G' tup d) := by
  have hΩ : ∀ b, G.inner.Ω b = none → b < w.heap.size → (G.outer G' tup d).Ω b = G.Ω b := by
    intro b h1 h2
    show (match G'.Ω b with | some l => some (retLoc tup d l) | none => G.Ω b) = G.Ω b
    cases e : G'.Ω b with
    | none => rfl
    | some l =>
      rcases hx.newΩ b (by rw [e]; simp) with h3 | h3
      · omega
      · exact absurd h1 h3
  have hext : Ext w G w' (G.outer G' tup d) := by
    refine ⟨hx.os, hx.tape, hx.output, hx.size, fun k h1 h2 h3 => hx.frame k h1 h2 (inner_none h3), hx.cells, fun b i hu => ?_, fun b hb => ?_, hx.phi⟩
    · rcases hx.newU b i hu with h1 | h1 | h1
      · exact .inl h1
      · exact .inr (.inl h1)
      · exact .inr (.inr (inner_some h1))
    · have h2 : (match G'.Ω b with | some l => some (retLoc tup d l) | none => G.Ω b) ≠ none := hb
      cases e : G'.Ω b with
      | none => rw [e] at h2; exact .inr h2
      | some l =>
        rcases hx.newΩ b (by rw [e]; simp) with h3 | h3
        · exact .inl h3
        · exact .inr (inner_some h3)
  have ownK : ∀ l xs v, (∀ k j, l ≠ .cell k j) → OwnedAt w G l xs v → OwnedAt w' (G.outer G' tup d) l xs v := by
    intro l xs v hl ho
    refine ho.keep fun b hb => ?_
    have hin : G.inner.Ω b = none := by
      cases e : G.inner.Ω b with
      | none => rfl
      | some l' =>
        obtain ⟨k, j, rfl⟩ := inner_cells G b l' e
        rw [inner_cell] at e
        rw [hb] at e
        exact absurd (Option.some.inj e) (hl k j)
    have hob := h.store.ob b (by rw [hb]; simp)
    refine ⟨by rw [hΩ b hin hob.1]; exact hb, hx.frame b hob.1 hob.2 hin, fun i hu => ?_⟩
    rcases hx.newU b i hu with h1 | h1 | h1
    · exact h1
    · omega
    · exact absurd hin h1
  refine ⟨h.ext.trans hext, ?_, ⟨fun t => ?_, fun t => ?_⟩⟩
  · refine ⟨hs.len, hs.nodup, fun k b cs h1 h2 => ?_, hs.ub, fun b hb => ?_⟩
    · obtain ⟨⟨T, arr, h3, h4, h5⟩, h6⟩ := hs.blk k b cs h1 h2
      refine ⟨⟨T, arr, h3, h4, fun j c hc => ?_⟩, h6⟩
      obtain ⟨v, h7, h8, h9, h10⟩ := h5 j c hc
      refine ⟨v, h7, h8, h9, ?_⟩
      unfold TagOk at h10 ⊢
      split
      · refine OwnedAt.to h10 rfl (fun b hb => ?_)
        show (match G'.Ω b with | some l => some (retLoc tup d l) | none => G.Ω b) = _
        rw [hb]; rfl
      · trivial
    · have h2 : (match G'.Ω b with | some l => some (retLoc tup d l) | none => G.Ω b) ≠ none := hb
      cases e : G'.Ω b with
      | some l => exact hs.ob b (by rw [e]; simp)
      | none =>
        rw [e] at h2
        have h3 := h.store.ob b h2
        refine ⟨Nat.lt_of_lt_of_le h3.1 hx.size, ?_⟩
        obtain ⟨ψ, hφ, hψ⟩ := hx.phi
        show b ∉ G'.φ
        rw [hφ]
        intro hm
        rcases List.mem_append.1 hm with hm | hm
        · exact h3.2 hm
        · have := hψ b hm; omega
  · rw [get_aft]
    have hv := hext.V (h.env.v t)
    revert hv
    generalize st.get t = q
    intro hv
    unfold stripCells
    split
    · exact hv.tag (by simp) (by simp)
    · exact hv
  · rw [get_aft]
    have ht := h.env.tag t
    revert ht
    generalize st.get t = q
    intro ht
    cases q with
    | sl xs g =>
      cases g with
      | own => exact ownK _ _ _ (by simp) ht
      | view m =>
        cases m with
        | tmp s => exact ⟨by rw [get_aft, ht.1]; rfl, ht.2⟩
        | cell k j => trivial
        | _ => exact ht
      | _ => trivial
    | tup cs =>
      intro i xs hi
      obtain ⟨arr, u, h1, h2, h3⟩ := ht i xs hi
      exact ⟨arr, u, h1, h2, ownK _ _ _ (by simp) h3⟩
    | _ => trivial
/-- The result put where it belongs. -/
theorem Inv.putRet (h : Inv w0 G0 st (tmOf a) w' (G.outer G' (isTup r) d)) (hv : V w' G'.U G'.φ r v) (ht : RetTag w' G' r v) :
    Inv w0 G0 (st.put (some d) r) (upd (tmOf a) d v) w' (G.outer G' (isTup r) d) := by
  refine h.put d hv ?_
  cases r with
  | sl xs g =>
    cases g with
    | own =>
      exact OwnedAt.to (l := .ret 0) ht rfl (fun b hb => by
        show (match G'.Ω b with | some l => some (retLoc _ d l) | none => G.Ω b) = _
        rw [hb]; rfl)
    | view m => exact ht.elim
    | _ => trivial
  | tup cs =>
    intro i xs hi
    obtain ⟨arr, u, h1, h2, h3⟩ := ht i xs hi
    refine ⟨arr, u, h1, h2, h3.to rfl (fun b hb => ?_)⟩
    show (match G'.Ω b with | some l => some (retLoc _ d l) | none => G.Ω b) = _
    rw [hb]; rfl
  | _ => trivial
end
end Go.Vl
namespace Go.Vl
open Go Go.RowKit
inductive AX where
  | normal
  | exit (id : Nat)
  | ret
  | pan (c : List PanicEntry)
/-- What is left when a statement ends. -/
def Post (w0 : World) (G0 : Gh) (n : Nat) (K : AX → St → Prop) : Exit → Act → World → Prop
  | .normal, a, w => a.tmps.size = n ∧ a.defers = [] ∧ ∃ st G, K .normal st ∧ Inv w0 G0 st (tmOf a) w G
  | .exit id, a, w => a.tmps.size = n ∧ a.defers = [] ∧ ∃ st G, K (.exit id) st ∧ Inv w0 G0 st (tmOf a) w G
  | .ret, a, w => a.tmps.size = n ∧ a.defers = [] ∧ ∃ st G, K .ret st ∧ Inv w0 G0 st (tmOf a) w G
  | .panic c, a, w => a.defers = [] ∧ ∃ st G, K (.pan c) st ∧ Ext w0 G0 w G ∧ StoreOk w G st.σ
  | _, _, _ => False
/-- Whether a guarded operation runs. -/
def evGuard (ops : Array Oper) (st : St) (o : Oper) : Option Bool :=
  match o.guard with
  | none => some true
  | some (j, want) =>
    match (ops[j]?).bind (·.dst) with
    | some d => match st.get d with
      | .lit (.bool b) => some (b == want)
      | .lit (.tuple _) => some false
      | _ => none
    | none => none
def evOps (P : Program) (ops : Array Oper) (K : AX → St → Prop) : List Oper → St → Prop
  | [], st => K .normal st
  | o :: rest, st =>
    match evGuard ops st o with
    | none => False
    | some false => evOps P ops K rest (st.put o.dst (.lit (.tuple #[])))
    | some true =>
      match evOp P o st with
      | some (c, st') => c = true ∧ evOps P ops K rest st'
      | none =>
        match evCall P o st with
        | some (f, args) => VC P f args st.σ fun x σ' => match x with
          | .ret r => evOps P ops K rest ((st.aft σ').put o.dst r)
          | .pan c => K (.pan c) { st with σ := σ' }
        | none => False
section
variable {w w' w0 : World} {G G' G0 : Gh} {P : Program} {st st' : St} {a : Act} {o : Oper} {n : Nat} {ops : Array Oper} {K : AX → St → Prop}
theorem guard_run {b : Bool} (h : EnvOk w G st (tmOf a)) (hg : evGuard ops st o = some b) : Region.wanted o (yielded ops a.tmps) = b := by
  unfold evGuard at hg
  unfold Region.wanted
  split at hg
  · rename_i hn; rw [hn]; simpa using hg
  · rename_i j want hn
    rw [hn]
    split at hg
    · rename_i d hd
      split at hg
      · rename_i b' hb
        have hv := h.v d
        rw [hb] at hv
        have ht : a.tmps.getD d Go.undef = .bool b' := by
          have : tmOf a d = .bool b' := by
            revert hv; generalize tmOf a d = z; intro hv
            cases hv with
            | lit _ _ => rfl
          exact this
        have hds : a.tmps[d]? = some (.bool b') := by
          rw [Array.getD_eq_getD_getElem?] at ht
          cases e : a.tmps[d]? with
          | none => rw [e] at ht; cases ht
          | some z => rw [e] at ht; rw [← ht]; rfl
        have hy : yielded ops a.tmps j = some b' := by
          unfold yielded
          rw [hd]
          simp [hds]
        simp only [hy]
        simp only [Option.some.injEq] at hg
        subst hg
        cases b' <;> cases want <;> rfl
      · rename_i u hb
        have hv := h.v d
        rw [hb] at hv
        have ht : a.tmps.getD d Go.undef = .tuple u := by
          have : tmOf a d = .tuple u := by
            revert hv; generalize tmOf a d = z; intro hv
            cases hv with
            | lit _ _ => rfl
          exact this
        have hy : yielded ops a.tmps j = none := by
          unfold yielded
          rw [hd]
          rw [Array.getD_eq_getD_getElem?] at ht
          cases e : a.tmps[d]? with
          | none => simp [e]
          | some z => rw [e] at ht; obtain rfl : z = .tuple u := ht; simp [e]
        simp only [hy]
        simp only [Option.some.injEq] at hg
        subst hg
        rfl
      · cases hg
    · cases hg
theorem put_size (a : Act) (d : Option Tmp) (v : Value) : (a.put d v).tmps.size = a.tmps.size := by cases d <;> simp [Act.put]
theorem put_defers (a : Act) (d : Option Tmp) (v : Value) : (a.put d v).defers = a.defers := by cases d <;> rfl
theorem tmOf_put' {d : Option Tmp} (hd : ∀ x, d = some x → x < a.tmps.size) (v : Value) : tmOf (a.put d v) = match d with | some x => upd (tmOf a) x v | none => tmOf a := by
  cases d with
  | none => rfl
  | some x => exact tmOf_put (hd x rfl) v
theorem Inv.skipPut {d : Option Tmp} (h : Inv w0 G0 st (tmOf a) w G) (hd : ∀ x, d = some x → x < a.tmps.size) : Inv w0 G0 (st.put d (.lit (.tuple #[]))) (tmOf (a.put d Go.undef)) w G := by
  cases d with
  | none => exact h
  | some x => rw [tmOf_put (hd x rfl)]; exact h.putPlain x (.lit _ _) rfl
/-- One operation, and what comes behind it. -/
theorem evOp_wp {next : Act → World → Prop} {Q : Exit → Act → World → Prop} (h : Inv w0 G0 st (tmOf a) w G) (hd : ∀ d, o.dst = some d → d < a.tmps.size) (he : evOp P o st = some (true, st'))
    (hn : ∀ v w' G', Inv w0 G0 st' (tmOf (a.put o.dst v)) w' G' → next (a.put o.dst v) w') : o.wp P a w next Q := by
  unfold evOp at he
  unfold Oper.wp
  split at he
  · obtain ⟨nx, v, w', G', h1, h2, h3, _⟩ := evLoud_run h hd he
    rw [h1]
    rcases h2 with rfl | ⟨rfl, rfl⟩
    · exact hn v w' G' h3
    · exact hn Go.undef w' G' h3
  · split at he
    · rename_i d hdst
      obtain ⟨v, G', h1, _, h2⟩ := evQuiet_run h (hd d hdst) hdst he
      rw [h1 w (fun _ => Reads.refl _ _)]
      exact hn v w G' h2
    · cases he
theorem GlbOk.inner (h : GlbOk w G) : GlbOk w G.inner := ⟨h.1, fun b hb => ⟨(h.2 b hb).1, (h.2 b hb).2.1, inner_none (h.2 b hb).2.2⟩⟩
theorem evCall_wp {f : FuncId} {args : List PV} {next : Act → World → Prop} {Q : Exit → Act → World → Prop} {KR : PV → List (List PV) → Prop} {KP : List PanicEntry → List (List PV) → Prop}
    (hgl : GlbOk w0 G0) (h : Inv w0 G0 st (tmOf a) w G) (hd : ∀ d, o.dst = some d → d < a.tmps.size) (hdef : a.defers = []) (he : evCall P o st = some (f, args))
    (hc : VC P f args st.σ fun x σ' => match x with | .ret r => KR r σ' | .pan c => KP c σ')
    (hn : ∀ r σ' v w' G', KR r σ' → Inv w0 G0 ((st.aft σ').put o.dst r) (tmOf (a.put o.dst v)) w' G' → next (a.put o.dst v) w')
    (hp : ∀ c σ' w' G', KP c σ' → a.defers = [] → Ext w0 G0 w' G' → StoreOk w' G' σ' → Q (.panic c) a w') : o.wp P a w next Q := by
  obtain ⟨vs, h1, h2, h3⟩ := evCall_run h.env he
  unfold Oper.wp
  rw [h3 w]
  refine (hc w G.inner vs h.store.inner h1 h2 (inner_cells G) (hgl.ext h.ext).inner).mono fun e w' hpost => ?_
  obtain ⟨x, σ', G', hq, hend, hs, hx⟩ := hpost
  cases x with
  | ret r =>
    obtain ⟨v, rfl, hv, ht⟩ := hend
    show next (a.put o.dst v) w'
    cases hdst : o.dst with
    | none =>
      have hI := h.call (tup := false) hs hx 0
      have := hn r σ' v w' _ hq (by rw [hdst]; exact hI)
      rw [hdst] at this; exact this
    | some d =>
      have hI := (h.call (tup := isTup r) hs hx d).putRet hv ht
      have := hn r σ' v w' _ hq (by rw [hdst, tmOf_put (hd d hdst)]; exact hI)
      rw [hdst] at this; exact this
  | pan c =>
    obtain rfl : e = .panicked c := hend
    have hI := h.call (tup := false) hs hx 0
    exact hp c σ' w' _ hq hdef hI.ext hI.store
theorem evOps_sound (hgl : GlbOk w0 G0) : ∀ (l : List Oper) (st : St) (a : Act) (w : World) (G : Gh), Inv w0 G0 st (tmOf a) w G → a.defers = [] → a.tmps.size = n → (∀ o ∈ l, ∀ d, o.dst = some d → d < n) → evOps P ops K l st →
    wpList P ops (Post w0 G0 n K) l a w
  | [], st, a, w, G, h, hdef, hsz, _, he => ⟨hsz, hdef, st, G, he, h⟩
  | o :: rest, st, a, w, G, h, hdef, hsz, hd, he => by
    have hdo : ∀ d, o.dst = some d → d < a.tmps.size := fun d hdd => by rw [hsz]; exact hd o (by simp) d hdd
    have hdr : ∀ o ∈ rest, ∀ d, o.dst = some d → d < n := fun o ho => hd o (by simp [ho])
    unfold evOps at he
    unfold wpList
    split at he
    · exact he.elim
    · rename_i hg
      rw [guard_run h.env hg]
      simp only [Bool.false_eq_true, if_false]
      exact evOps_sound hgl rest _ _ w G (h.skipPut hdo) (by rw [put_defers]; exact hdef) (by rw [put_size]; exact hsz) hdr he
    · rename_i hg
      rw [guard_run h.env hg]
      simp only [if_true]
      left
      split at he
      · rename_i c st2 hop
        obtain ⟨rfl, he2⟩ := he
        exact evOp_wp h hdo hop (fun v w' G' hI => evOps_sound hgl rest _ _ w' G' hI (by rw [put_defers]; exact hdef) (by rw [put_size]; exact hsz) hdr he2)
      · split at he
        · rename_i f args hcall
          exact evCall_wp (KR := fun r σ' => evOps P ops K rest ((st.aft σ').put o.dst r)) (KP := fun c σ' => K (.pan c) { st with σ := σ' }) hgl h hdo hdef hcall he
            (fun r σ' v w' G' hK hI => evOps_sound hgl rest _ _ w' G' hI (by rw [put_defers]; exact hdef) (by rw [put_size]; exact hsz) hdr hK)
            (fun c σ' w' G' hK hdf hE hS => ⟨hdf, _, G', hK, hE, hS⟩)
        · exact he.elim
end
end Go.Vl
