/-
  Statements whose order Go leaves open. No program. Code, and whole functions. No program. Whole functions. No program. Walking code, in plain values: what is left is a list. No program. What the walks rewrite by. No program. Library calls, as calls in plain values. No program. A method proved at one place, used at a place among more. No program. Library calls that answer by a struct of literals; contracts that say less. No program. From calls in plain values back to calls in memory. No program.
-/
import Derived.Test.YtjfccohgkgcnfaaGreatDoorVB
namespace Go.Vl
open Go Go.RowKit Go.Q
def clsAt (ops : Array Oper) (i : Nat) : Nat := ((ops[i]?).map clsOf).getD 2
/-- It waits for an operation that may write or make memory. -/
def late (ops : Array Oper) (m : List Nat) (i : Nat) : Bool := (List.range ops.size).any fun j => (m.getD i 0).testBit j && clsAt ops j == 2
def clsL (ops : Array Oper) : List Nat := (List.range ops.size).map fun i => if clsAt ops i = 1 ∧ late ops (masks ops) i = true then 2 else clsAt ops i
def isMut (o : Oper) : Bool :=
  match o.op with
  | .store _ _ _ => true
  | .call c => match c.callee with
    | .builtin .append => false
    | .builtin .len => false
    | .builtin .min => false
    | .builtin .max => false
    | _ => true
  | _ => false
def mutAt (ops : Array Oper) (i : Nat) : Bool := ((ops[i]?).map isMut).getD true
def drawOk (ops : Array Oper) : Bool :=
  Region.noSelect ops && (okT ops (clsL ops) (List.range ops.size) (Array.replicate ops.size false) &&
    ((List.range ops.size).all (fun i => cl (clsL ops) i != 1 || (List.range i).all fun j => cl (clsL ops) j != 2) &&
      (List.range ops.size).all fun j => cl (clsL ops) j != 2 || (!needS ops (clsL ops) j || (!mutAt ops j && (List.range j).all fun k => !mutAt ops k))))
section
variable {w w' w0 ws : World} {G G' G0 Gs : Gh} {P : Program} {st st' : St} {a : Act} {o : Oper} {n : Nat} {ops : Array Oper} {K : AX → St → Prop}
theorem clsL_get {i : Nat} (hi : i < ops.size) (ho : ops[i]? = some o) : cl (clsL ops) i = 2 ∨ cl (clsL ops) i = clsOf o := by
  unfold cl clsL
  have e : ((List.range ops.size).map fun i => if clsAt ops i = 1 ∧ late ops (masks ops) i = true then 2 else clsAt ops i).getD i 2 = if clsAt ops i = 1 ∧ late ops (masks ops) i = true then 2 else clsAt ops i := by
    simp [List.getD, hi]
  rw [e]
  split
  · exact .inl rfl
  · right; simp [clsAt, ho]
theorem evCall_cls {x : FuncId × List PV} (h : evCall P o st = some x) : clsOf o = 2 := by
  unfold evCall at h
  split at h
  · rename_i c hop
    unfold clsOf
    rw [hop]
    simp only
    split at h
    · rename_i f hf; rw [hf]
    · cases h
  · cases h
theorem Inv.at_ (h : Inv w0 G0 st (tmOf a) w G) : Inv w G st (tmOf a) w G := ⟨Ext.refl _ _, h.store, h.env⟩
theorem Inv.since (h : Inv ws Gs st (tmOf a) w G) (hx : Ext w0 G0 ws Gs) : Inv w0 G0 st (tmOf a) w G := ⟨hx.trans h.ext, h.store, h.env⟩
theorem Ext.drew (h : Ext w0 G0 w G) : Ext w0 G0 w.drew G := ⟨h.os, h.tape, h.output, h.size, h.frame, h.cells, h.newU, h.newΩ, h.phi⟩
theorem Ext.drew0 (_ : Ext w0 G0 w G) : Ext w G w.drew G := (Ext.refl w G).drew
theorem Inv.drew {tm : Nat → Value} (h : Inv w0 G0 st tm w G) : Inv w0 G0 st tm w.drew G := by
  have hV : ∀ {φ p v}, V w G.U φ p v → V w.drew G.U φ p v := fun h => h.mono (w' := w.drew) (U' := G.U) (fun _ _ h => ⟨h, rfl⟩) (fun _ _ h => h)
  refine ⟨h.ext.drew, ⟨h.store.len, h.store.nodup, fun k b cs h1 h2 => ?_, h.store.ub, h.store.ob⟩, fun t => hV (h.env.v t), fun t => ?_⟩
  · obtain ⟨⟨T, arr, h3, h4, h5⟩, h6⟩ := h.store.blk k b cs h1 h2
    refine ⟨⟨T, arr, h3, h4, fun j c hc => ?_⟩, h6⟩
    obtain ⟨v, h7, h8, h9, h10⟩ := h5 j c hc
    refine ⟨v, h7, h8, hV h9, ?_⟩
    unfold TagOk at h10 ⊢
    split
    · exact h10
    · trivial
  · have ht := h.env.tag t
    revert ht
    generalize st.get t = q
    intro ht
    cases q with
    | sl xs g =>
      cases g with
      | view m => cases m <;> exact ht
      | _ => exact ht
    | _ => exact ht
theorem Post.since {e : Exit} (h : Post ws Gs n K e a w) (hx : Ext w0 G0 ws Gs) : Post w0 G0 n K e a w := by
  cases e with
  | normal => obtain ⟨h1, h2, st, G, h3, h4⟩ := h; exact ⟨h1, h2, st, G, h3, h4.since hx⟩
  | exit id => obtain ⟨h1, h2, st, G, h3, h4⟩ := h; exact ⟨h1, h2, st, G, h3, h4.since hx⟩
  | ret => obtain ⟨h1, h2, st, G, h3, h4⟩ := h; exact ⟨h1, h2, st, G, h3, h4.since hx⟩
  | panic c => obtain ⟨h1, st, G, h2, h3, h4⟩ := h; exact ⟨h1, st, G, h2, hx.trans h3, h4⟩
  | _ => exact h
theorem reads_of (h : Ext ws Gs w G) (hk : ∀ b ∈ Gs.φ, w.heap[b]? = ws.heap[b]?) : Reads ws Gs w := ⟨fun b i hu => (h.cells b i hu).2, hk⟩
-- calls that leave the places alone
def pureL (l : List PV) : Bool := l.all PV.pure
def pureEnd : AEnd → Bool
  | .ret r => r.pure
  | .pan _ => true
theorem pure_core {f : FuncId} {args : List PV} {σ : List (List PV)} {Q : AEnd → Prop} {vs : Array Value} (hc : VC P f args [] fun x _ => pureEnd x = true ∧ Q x) (hp : pureL args = true) (hs : StoreOk w G σ) (hgl : GlbOk w G) (hvs : vs.size = args.length) (hv : ∀ i (h : i < args.length), V w G.U G.φ args[i] (vs.getD i Go.undef)) :
    Calls P f vs w fun e w' => ∃ x G', Q x ∧ EndOk w' G' x e ∧ StoreOk w' G' σ ∧ Ext w G w' G' ∧ ∀ k, k < w.heap.size → w'.heap[k]? = w.heap[k]? := by
  have hargs : ∀ i (h : i < args.length), V w G.U [] args[i] (vs.getD i Go.undef) := fun i h => (hv i h).pure (by
    unfold pureL at hp
    rw [List.all_eq_true] at hp
    exact hp _ (List.getElem_mem h))
  refine (hc w { U := G.U, φ := [], Ω := fun _ => none } vs ⟨rfl, by simp, fun k b cs h1 => by simp at h1, hs.ub, fun b hb => absurd rfl hb⟩ hvs hargs (fun b l h => by cases h) ⟨hgl.1, fun b hb => ⟨(hgl.2 b hb).1, by simp, rfl⟩⟩).mono fun e w' hpost => ?_
  obtain ⟨x, σ', G', ⟨hpe, hq⟩, hend, hs', hx⟩ := hpost
  have hall : ∀ k, k < w.heap.size → w'.heap[k]? = w.heap[k]? := fun k hk => hx.frame k hk (by simp) rfl
  have hcell : ∀ b i, G.U b i → G'.U b i ∧ w'.cell? ⟨b, i, none⟩ = w.cell? ⟨b, i, none⟩ := hx.cells
  have hnewU : ∀ b i, G'.U b i → G.U b i ∨ w.heap.size ≤ b := fun b i hu => by
    rcases hx.newU b i hu with h | h | h
    · exact .inl h
    · exact .inr h
    · exact absurd rfl h
  have hnewΩ : ∀ b, G'.Ω b ≠ none → w.heap.size ≤ b := fun b hb => by
    rcases hx.newΩ b hb with h | h
    · exact h
    · exact absurd rfl h
  have hΩ : ∀ b, b < w.heap.size → (G.outer { G' with φ := G.φ } true 0).Ω b = G.Ω b := fun b hb => by
    show (match G'.Ω b with | some l => some (retLoc true 0 l) | none => G.Ω b) = G.Ω b
    cases e : G'.Ω b with
    | none => rfl
    | some l => have := hnewΩ b (by rw [e]; simp); omega
  refine ⟨x, { U := G'.U, φ := G.φ, Ω := fun b => if b < w.heap.size then G.Ω b else G'.Ω b }, hq, ?_, ⟨hs.len, hs.nodup, fun k b cs h1 h2 => ?_, fun b i hu => hs'.ub b i hu, fun b hb => ?_⟩, ?_, hall⟩
  · cases x with
    | ret r =>
      obtain ⟨v, h1, h2, h3⟩ := hend
      refine ⟨v, h1, h2.pure hpe, ?_⟩
      have to : ∀ i xs u, OwnedAt w' G' (.ret i) xs u → OwnedAt w' { U := G'.U, φ := G.φ, Ω := fun b => if b < w.heap.size then G.Ω b else G'.Ω b } (.ret i) xs u := fun i xs u ho => ho.to rfl (fun b hb => by
        have := hnewΩ b (by rw [hb]; simp)
        show (if b < w.heap.size then G.Ω b else G'.Ω b) = _
        rw [if_neg (by omega)]; exact hb)
      unfold RetTag at h3 ⊢
      split
      · exact to _ _ _ h3
      · exact h3
      · intro i xs hi
        obtain ⟨arr, u, k1, k2, k3⟩ := h3 i xs hi
        exact ⟨arr, u, k1, k2, to _ _ _ k3⟩
      · trivial
    | pan c => exact hend
  · obtain ⟨⟨T, arr, h3, h4, h5⟩, h6⟩ := hs.blk k b cs h1 h2
    have hb : b < w.heap.size := (Array.getElem?_eq_some_iff.1 h3).1
    refine ⟨⟨T, arr, (hall b hb).trans h3, h4, fun j c hc => ?_⟩, fun i hu => ?_⟩
    · obtain ⟨v, h7, h8, h9, h10⟩ := h5 j c hc
      refine ⟨v, h7, h8, h9.mono hcell (fun _ _ h => h), ?_⟩
      unfold TagOk at h10 ⊢
      split
      · refine OwnedAt.keep h10 fun b2 hb2 => ?_
        have hlt := (hs.ob b2 (by rw [hb2]; simp)).1
        refine ⟨by show (if b2 < w.heap.size then G.Ω b2 else G'.Ω b2) = _; rw [if_pos hlt]; exact hb2, hall b2 hlt, fun i hu => ?_⟩
        rcases hnewU b2 i hu with h | h
        · exact h
        · omega
      · trivial
    · rcases hnewU b i hu with h | h
      · exact h6 i h
      · omega
  · have h2 : (if b < w.heap.size then G.Ω b else G'.Ω b) ≠ none := hb
    by_cases hlt : b < w.heap.size
    · rw [if_pos hlt] at h2
      have := hs.ob b h2
      exact ⟨Nat.lt_of_lt_of_le this.1 hx.size, this.2⟩
    · rw [if_neg hlt] at h2
      exact ⟨(hs'.ob b h2).1, fun hm => hlt (hs.lt hm)⟩
  · refine ⟨hx.os, hx.tape, hx.output, hx.size, fun k hk _ _ => hall k hk, hcell, fun b i hu => ?_, fun b hb => ?_, [], by simp, by simp⟩
    · rcases hnewU b i hu with h | h
      · exact .inl h
      · exact .inr (.inl h)
    · have h2 : (if b < w.heap.size then G.Ω b else G'.Ω b) ≠ none := hb
      by_cases hlt : b < w.heap.size
      · rw [if_pos hlt] at h2; exact .inr h2
      · exact .inl (by omega)
/-- A call without places. -/
theorem VC.pure {f : FuncId} {args : List PV} {σ : List (List PV)} {Q : AEnd → Prop} (hc : VC P f args [] fun x _ => pureEnd x = true ∧ Q x) (hp : pureL args = true) : VC P f args σ fun x σ' => Q x ∧ σ' = σ := by
  intro w G vs hs hvs hv _ hgl
  exact (pure_core hc hp hs hgl hvs hv).mono fun e w' ⟨x, G', h1, h2, h3, h4, _⟩ => ⟨x, σ, G', ⟨h1, rfl⟩, h2, h3, h4⟩
end
def noview : Grow → Grow
  | .view _ => .shared
  | g => g
mutual
/-- The same value, its places n further. -/
def PV.shift (n : Nat) : PV → PV
  | .lit v => .lit v
  | .agg cs => .agg (PV.shiftL n cs)
  | .tup cs => .tup (PV.shiftL n cs)
  | .sl xs g => .sl xs (noview g)
  | .ptr b o => .ptr (b + n) o
  | .vptr cs o => .vptr cs o
  | .fn f caps => .fn f (PV.shiftL n caps)
  | .ifc => .ifc
  | .undef => .undef
def PV.shiftL (n : Nat) : List PV → List PV
  | [] => []
  | p :: ps => p.shift n :: PV.shiftL n ps
end
theorem shiftL_len (n : Nat) : ∀ cs : List PV, (PV.shiftL n cs).length = cs.length
  | [] => rfl
  | p :: ps => by rw [PV.shiftL, List.length_cons, List.length_cons, shiftL_len n ps]
theorem shiftL_get? (n : Nat) : ∀ (cs : List PV) (i : Nat), (PV.shiftL n cs)[i]? = (cs[i]?).map (PV.shift n)
  | [], i => by simp [PV.shiftL]
  | p :: ps, 0 => by simp [PV.shiftL]
  | p :: ps, i + 1 => by simp only [PV.shiftL, List.getElem?_cons_succ]; exact shiftL_get? n ps i
theorem shiftL_get (n : Nat) (cs : List PV) (i : Nat) (h : i < (PV.shiftL n cs).length) : (PV.shiftL n cs)[i] = (cs[i]'(by rw [← shiftL_len n]; exact h)).shift n := by
  have h1 := shiftL_get? n cs i
  rw [List.getElem?_eq_getElem h, List.getElem?_eq_getElem (by rw [← shiftL_len n]; exact h)] at h1
  exact Option.some.inj h1
theorem shift_own {n : Nat} {p : PV} {xs : List (List PV)} (h : p.shift n = .sl xs .own) : p = .sl xs .own := by
  cases p with
  | sl ys g =>
    rw [PV.shift] at h
    injection h with h1 h2
    subst h1
    cases g <;> simp_all [noview]
  | _ => rw [PV.shift] at h; cases h
def shiftLoc (n : Nat) : Loc → Loc
  | .cell k j => .cell (k + n) j
  | l => l
def AEnd.shift (n : Nat) : AEnd → AEnd
  | .ret r => .ret (r.shift n)
  | .pan c => .pan c
section
variable {w w' : World} {U : Nat → Nat → Prop} {φ : List Nat} {p : PV} {v : Value} {n : Nat} {G G' : Gh} {P : Program}
theorem V.shift (h : V w U φ p v) : ∀ {φ' : List Nat}, (∀ (k x : Nat), φ[k]? = some x → φ'[k + n]? = some x) → V w U φ' (p.shift n) v := by
  induction h with
  | lit φ v => intro φ' _; exact .lit _ _
  | agg φ cs arr hn h h1 ih => intro φ' hφ; rw [PV.shift]; exact .agg _ _ _ (by rw [shiftL_len]; exact hn) (fun i hi => by rw [shiftL_get]; exact ih i (by rw [← shiftL_len n]; exact hi) hφ) h1
  | tup φ cs arr hn h ih => intro φ' hφ; rw [PV.shift]; exact .tup _ _ _ (by rw [shiftL_len]; exact hn) (fun i hi => by rw [shiftL_get]; exact ih i (by rw [← shiftL_len n]; exact hi) hφ)
  | nil φ g => intro φ' _; exact .nil _ _
  | sl φ xs g b o sz cap us hc hm hs hU' hw h1 hv hf hg ih => intro φ' _; rw [PV.shift]; exact .sl _ _ _ b o sz cap us hc hm hs hU' hw h1 hv (fun e => hf (by cases g <;> simp_all [noview])) (fun e => hg (by cases g <;> simp_all [noview]))
  | ptr φ b o k h => intro φ' hφ; rw [PV.shift]; exact .ptr _ _ _ _ (hφ _ _ h)
  | vptr φ cs b o' o us hU' hw h1 hv ih => intro φ' _; rw [PV.shift]; exact .vptr _ _ _ _ _ us hU' hw h1 hv
  | fn φ f caps arr hn h ih => intro φ' hφ; rw [PV.shift]; exact .fn _ _ _ _ (by rw [shiftL_len]; exact hn) (fun i hi => by rw [shiftL_get]; exact ih i (by rw [← shiftL_len n]; exact hi) hφ)
  | ifc φ t v => intro φ' _; exact .ifc _ _ _
  | undef φ v => intro φ' _; exact .undef _ _
theorem grow_core {f : FuncId} {args : List PV} {σ : List (List PV)} {Q : AEnd → List (List PV) → Prop} {vs : Array Value} (hc : VC P f args [] Q) (hp : pureL args = true) (hs : StoreOk w G σ) (hgl : GlbOk w G) (hvs : vs.size = args.length) (hv : ∀ i (h : i < args.length), V w G.U G.φ args[i] (vs.getD i Go.undef)) :
    Calls P f vs w fun e w' => ∃ x σ' G', Q x σ' ∧ EndOk w' G' (x.shift σ.length) e ∧ StoreOk w' G' (σ ++ σ'.map (PV.shiftL σ.length)) ∧ Ext w G w' G' ∧ ∀ k, k < w.heap.size → w'.heap[k]? = w.heap[k]? := by
  have hargs : ∀ i (h : i < args.length), V w G.U [] args[i] (vs.getD i Go.undef) := fun i h => (hv i h).pure (by
    unfold pureL at hp
    rw [List.all_eq_true] at hp
    exact hp _ (List.getElem_mem h))
  refine (hc w { U := G.U, φ := [], Ω := fun _ => none } vs ⟨rfl, by simp, fun k b cs h1 => by simp at h1, hs.ub, fun b hb => absurd rfl hb⟩ hvs hargs (fun b l h => by cases h) ⟨hgl.1, fun b hb => ⟨(hgl.2 b hb).1, by simp, rfl⟩⟩).mono fun e w' hpost => ?_
  obtain ⟨x, σ', G', hq, hend, hs', hx⟩ := hpost
  have hall : ∀ k, k < w.heap.size → w'.heap[k]? = w.heap[k]? := fun k hk => hx.frame k hk (by simp) rfl
  have hcell : ∀ b i, G.U b i → G'.U b i ∧ w'.cell? ⟨b, i, none⟩ = w.cell? ⟨b, i, none⟩ := hx.cells
  have hnewU : ∀ b i, G'.U b i → G.U b i ∨ w.heap.size ≤ b := fun b i hu => by
    rcases hx.newU b i hu with h | h | h
    · exact .inl h
    · exact .inr h
    · exact absurd rfl h
  have hnewΩ : ∀ b, G'.Ω b ≠ none → w.heap.size ≤ b := fun b hb => by
    rcases hx.newΩ b hb with h | h
    · exact h
    · exact absurd rfl h
  have hnewφ : ∀ b ∈ G'.φ, w.heap.size ≤ b := fun b hb => by
    obtain ⟨ψ, h1, h2⟩ := hx.phi
    rw [h1, List.nil_append] at hb
    exact h2 b hb
  have hget : ∀ (k x : Nat), G'.φ[k]? = some x → (G.φ ++ G'.φ)[k + σ.length]? = some x := fun k x hk => by
    rw [← hs.len, List.getElem?_append_right (Nat.le_add_left _ _), Nat.add_sub_cancel]; exact hk
  have hold : ∀ (k x : Nat), G.φ[k]? = some x → (G.φ ++ G'.φ)[k]? = some x := fun k x hk => by
    rw [List.getElem?_append_left (List.getElem?_eq_some_iff.1 hk).1]; exact hk
  have toNew : ∀ (l : Loc) xs u, OwnedAt w' G' l xs u → OwnedAt w' { U := G'.U, φ := G.φ ++ G'.φ, Ω := fun b => if b < w.heap.size then G.Ω b else (G'.Ω b).map (shiftLoc σ.length) } (shiftLoc σ.length l) xs u := fun l xs u ho => ho.to rfl (fun b hb => by
    have := hnewΩ b (by rw [hb]; simp)
    show (if b < w.heap.size then G.Ω b else (G'.Ω b).map (shiftLoc σ.length)) = _
    rw [if_neg (by omega), hb]; rfl)
  refine ⟨x, σ', { U := G'.U, φ := G.φ ++ G'.φ, Ω := fun b => if b < w.heap.size then G.Ω b else (G'.Ω b).map (shiftLoc σ.length) }, hq, ?_, ⟨?_, ?_, fun k b cs h1 h2 => ?_, fun b i hu => hs'.ub b i hu, fun b hb => ?_⟩, ?_, hall⟩
  · cases x with
    | ret r =>
      obtain ⟨v, h1, h2, h3⟩ := hend
      refine ⟨v, h1, h2.shift hget, ?_⟩
      cases r with
      | sl xs g =>
        cases g with
        | own => exact toNew (.ret 0) _ _ h3
        | view l => exact h3.elim
        | _ => trivial
      | tup cs =>
        intro i xs hi
        have hi2 : (PV.shiftL σ.length cs)[i]? = some (.sl xs .own) := hi
        rw [shiftL_get?] at hi2
        obtain ⟨c, hc1, hc2⟩ := Option.map_eq_some_iff.1 hi2
        obtain rfl := shift_own hc2
        obtain ⟨arr, u, k1, k2, k3⟩ := h3 i xs hc1
        exact ⟨arr, u, k1, k2, toNew (.ret i) _ _ k3⟩
      | _ => trivial
    | pan c => exact hend
  · show (G.φ ++ G'.φ).length = (σ ++ σ'.map (PV.shiftL σ.length)).length
    rw [List.length_append, List.length_append, List.length_map, hs.len, hs'.len]
  · show (G.φ ++ G'.φ).Nodup
    rw [List.nodup_append]
    refine ⟨hs.nodup, hs'.nodup, fun a ha b hb => ?_⟩
    have h1 := hs.lt ha
    have h2 := hnewφ b hb
    rintro rfl; omega
  · by_cases hk : k < σ.length
    · have h1' : G.φ[k]? = some b := by
        have : (G.φ ++ G'.φ)[k]? = some b := h1
        rwa [List.getElem?_append_left (by rw [hs.len]; exact hk)] at this
      rw [List.getElem?_append_left hk] at h2
      obtain ⟨⟨T, arr, h3, h4, h5⟩, h6⟩ := hs.blk k b cs h1' h2
      have hb : b < w.heap.size := (Array.getElem?_eq_some_iff.1 h3).1
      refine ⟨⟨T, arr, (hall b hb).trans h3, h4, fun j c hc => ?_⟩, fun i hu => ?_⟩
      · obtain ⟨v, h7, h8, h9, h10⟩ := h5 j c hc
        refine ⟨v, h7, h8, h9.mono hcell hold, ?_⟩
        unfold TagOk at h10 ⊢
        split
        · refine OwnedAt.keep h10 fun b2 hb2 => ?_
          have hlt := (hs.ob b2 (by rw [hb2]; simp)).1
          refine ⟨by show (if b2 < w.heap.size then G.Ω b2 else (G'.Ω b2).map (shiftLoc σ.length)) = _; rw [if_pos hlt]; exact hb2, hall b2 hlt, fun i hu => ?_⟩
          rcases hnewU b2 i hu with h | h
          · exact h
          · omega
        · trivial
      · rcases hnewU b i hu with h | h
        · exact h6 i h
        · omega
    · obtain ⟨m, rfl⟩ : ∃ m, k = m + σ.length := ⟨k - σ.length, by omega⟩
      have h1' : G'.φ[m]? = some b := by
        have : (G.φ ++ G'.φ)[m + σ.length]? = some b := h1
        rwa [← hs.len, List.getElem?_append_right (Nat.le_add_left _ _), Nat.add_sub_cancel] at this
      rw [List.getElem?_append_right (Nat.le_add_left _ _), Nat.add_sub_cancel, List.getElem?_map] at h2
      obtain ⟨cs0, h2', rfl⟩ := Option.map_eq_some_iff.1 h2
      obtain ⟨⟨T, arr, h3, h4, h5⟩, h6⟩ := hs'.blk m b cs0 h1' h2'
      refine ⟨⟨T, arr, h3, by rw [shiftL_len]; exact h4, fun j c hc => ?_⟩, h6⟩
      rw [shiftL_get?] at hc
      obtain ⟨c0, hc1, rfl⟩ := Option.map_eq_some_iff.1 hc
      obtain ⟨v, h7, h8, h9, h10⟩ := h5 j c0 hc1
      refine ⟨v, h7, h8, h9.shift hget, ?_⟩
      unfold TagOk
      split
      · rename_i xs hxs
        obtain rfl := shift_own hxs
        exact toNew (.cell m j) _ _ h10
      · trivial
  · have h2 : (if b < w.heap.size then G.Ω b else (G'.Ω b).map (shiftLoc σ.length)) ≠ none := hb
    by_cases hlt : b < w.heap.size
    · rw [if_pos hlt] at h2
      have := hs.ob b h2
      refine ⟨Nat.lt_of_lt_of_le this.1 hx.size, fun hm => ?_⟩
      rcases List.mem_append.1 hm with hm | hm
      · exact this.2 hm
      · have := hnewφ b hm; omega
    · rw [if_neg hlt] at h2
      have h3 := hs'.ob b (fun e => h2 (by rw [e]; rfl))
      refine ⟨h3.1, fun hm => ?_⟩
      rcases List.mem_append.1 hm with hm | hm
      · exact hlt (hs.lt hm)
      · exact h3.2 hm
  · refine ⟨hx.os, hx.tape, hx.output, hx.size, fun k hk _ _ => hall k hk, hcell, fun b i hu => ?_, fun b hb => ?_, G'.φ, rfl, hnewφ⟩
    · rcases hnewU b i hu with h | h
      · exact .inl h
      · exact .inr (.inl h)
    · have h2 : (if b < w.heap.size then G.Ω b else (G'.Ω b).map (shiftLoc σ.length)) ≠ none := hb
      by_cases hlt : b < w.heap.size
      · rw [if_pos hlt] at h2; exact .inr h2
      · exact .inl (by omega)
/-- A call without places, beside others. -/
theorem VC.grow {f : FuncId} {args : List PV} {σ : List (List PV)} {Q : AEnd → List (List PV) → Prop} (hc : VC P f args [] Q) (hp : pureL args = true) : VC P f args σ fun x σ' => ∃ y τ, Q y τ ∧ x = y.shift σ.length ∧ σ' = σ ++ τ.map (PV.shiftL σ.length) := by
  intro w G vs hs hvs hv _ hgl
  exact (grow_core hc hp hs hgl hvs hv).mono fun e w' ⟨x, σ', G', h1, h2, h3, h4, _⟩ => ⟨_, _, G', ⟨x, σ', h1, rfl, rfl⟩, h2, h3, h4⟩
end
section
variable {w w' w0 ws : World} {G G' G0 Gs : Gh} {P : Program} {st st' : St} {a : Act} {o : Oper} {n : Nat} {ops : Array Oper} {K : AX → St → Prop}
theorem draw_sound (hgl : GlbOk ws Gs) (hok : drawOk ops = true) (hdst : ∀ o ∈ ops.toList, ∀ d, o.dst = some d → d < n) : ∀ (l : List Oper) (i : Nat) (st : St) (a : Act) (w : World) (G : Gh), l = ops.toList.drop i → Inv ws Gs st (tmOf a) w G → a.defers = [] → a.tmps.size = n →
    ((∃ k, i ≤ k ∧ k < ops.size ∧ cl (clsL ops) k = 1) → w = ws ∧ G.U = Gs.U ∧ G.φ = Gs.φ) → ((∀ k, k < i → mutAt ops k = false) → ∀ b ∈ Gs.φ, w.heap[b]? = ws.heap[b]?) →
    evOps P ops K l st → walkT P ops (Post ws Gs n K) (Reads ws Gs) (clsL ops) (List.range' i l.length) a w
  | [], i, st, a, w, G, _, h, hdef, hsz, _, _, he => ⟨hsz, hdef, st, G, he, h⟩
  | o :: rest, i, st, a, w, G, hl, h, hdef, hsz, hone, hkeep, he => by
    have hi : i < ops.size := by
      rcases Nat.lt_or_ge i ops.size with h1 | h1
      · exact h1
      · rw [List.drop_eq_nil_of_le (by simpa using h1)] at hl; cases hl
    have hil : i < ops.toList.length := by simpa using hi
    rw [List.drop_eq_getElem_cons hil] at hl
    obtain ⟨ho1, hrest⟩ := List.cons.inj hl
    have ho : ops[i]? = some o := by rw [ho1]; simp [hi]
    have hmem : o ∈ ops.toList := by rw [ho1]; exact List.getElem_mem hil
    have hdo : ∀ d, o.dst = some d → d < a.tmps.size := fun d hdd => by rw [hsz]; exact hdst o hmem d hdd
    simp only [drawOk, Bool.and_eq_true, List.all_eq_true, List.mem_range, Bool.or_eq_true, bne_iff_ne, Bool.not_eq_true'] at hok
    obtain ⟨hsel, hokT, hord, hmut⟩ := hok
    have hok' : drawOk ops = true := by
      simp only [drawOk, Bool.and_eq_true, List.all_eq_true, List.mem_range, Bool.or_eq_true, bne_iff_ne, Bool.not_eq_true']
      exact ⟨hsel, hokT, hord, hmut⟩
    have hmuti : mutAt ops i = isMut o := by simp [mutAt, ho]
    have go : ∀ (st2 : St) (a2 : Act) (w2 : World) (G2 : Gh), Inv ws Gs st2 (tmOf a2) w2 G2 → a2.defers = [] → a2.tmps.size = n → ((∃ k, i + 1 ≤ k ∧ k < ops.size ∧ cl (clsL ops) k = 1) → w2 = ws ∧ G2.U = Gs.U ∧ G2.φ = Gs.φ) → ((∀ k, k < i + 1 → mutAt ops k = false) → ∀ b ∈ Gs.φ, w2.heap[b]? = ws.heap[b]?) →
        evOps P ops K rest st2 → walkT P ops (Post ws Gs n K) (Reads ws Gs) (clsL ops) (List.range' (i + 1) rest.length) a2 w2 :=
      fun st2 a2 w2 G2 h1 h2 h3 h4 h5 h6 => draw_sound hgl hok' hdst rest (i + 1) st2 a2 w2 G2 hrest h1 h2 h3 h4 h5 h6
    have hone1 : (∃ k, i + 1 ≤ k ∧ k < ops.size ∧ cl (clsL ops) k = 1) → w = ws ∧ G.U = Gs.U ∧ G.φ = Gs.φ := fun ⟨k, h1, h2⟩ => hone ⟨k, by omega, h2⟩
    have hkeep1 : (∀ k, k < i + 1 → mutAt ops k = false) → ∀ b ∈ Gs.φ, w.heap[b]? = ws.heap[b]? := fun hk => hkeep fun k hki => hk k (by omega)
    have hlate : cl (clsL ops) i = 2 → ¬ ∃ k, i + 1 ≤ k ∧ k < ops.size ∧ cl (clsL ops) k = 1 := by
      rintro h2 ⟨k, h3, h4, h5⟩
      rcases hord k h4 with h6 | h6
      · exact h6 h5
      · exact h6 i (by omega) h2
    have hneed : cl (clsL ops) i = 2 → needS ops (clsL ops) i = true → mutAt ops i = false ∧ ∀ k, k < i → mutAt ops k = false := by
      intro h2 h3
      rcases hmut i hi with h4 | h4 | h4
      · exact absurd h2 h4
      · rw [h3] at h4; cases h4
      · exact h4
    rw [List.length_cons, List.range'_succ]
    unfold walkT
    simp only [ho]
    unfold evOps at he
    have hc3 : cl (clsL ops) i = 0 ∨ cl (clsL ops) i = 1 ∨ cl (clsL ops) i = 2 := by
      rcases clsL_get hi ho with h1 | h1
      · exact .inr (.inr h1)
      · rw [h1]; exact cls_cases o
    split at he
    · exact he.elim
    · rename_i hg
      have hw := guard_run h.env hg
      have hS := h.skipPut hdo
      have hnext := go _ _ w G hS (by rw [put_defers]; exact hdef) (by rw [put_size]; exact hsz) hone1 hkeep1 he
      rcases hc3 with h0 | h0 | h0
      · rw [if_pos h0]
        exact ⟨Go.undef, .inr ⟨hw, rfl⟩, hnext⟩
      · rw [if_neg (by omega), if_pos h0]
        exact ⟨Go.undef, .inr ⟨hw, rfl⟩, hnext⟩
      · rw [if_neg (by omega), if_neg (by omega)]
        unfold wpOp
        simp only [ho, hw]
        refine ⟨fun hn => ?_, hnext⟩
        exact reads_of h.ext (hkeep (hneed h0 hn).2)
    · rename_i hg
      have hw := guard_run h.env hg
      by_cases hquiet : clsOf o = 2
      · -- it may write
        have h0 : cl (clsL ops) i = 2 := by
          rcases clsL_get hi ho with h1 | h1
          · exact h1
          · rw [h1]; exact hquiet
        rw [if_neg (by omega), if_neg (by omega)]
        unfold wpOp
        simp only [ho, hw, if_true]
        left
        have fin : ∀ (st2 : St) (v : Value) (w2 : World) (G2 : Gh), Inv ws Gs st2 (tmOf (a.put o.dst v)) w2 G2 → (isMut o = false → (∀ k, k < i → mutAt ops k = false) → ∀ b ∈ Gs.φ, w2.heap[b]? = ws.heap[b]?) → evOps P ops K rest st2 →
            (needS ops (clsL ops) i = true → Reads ws Gs w2) ∧ walkT P ops (Post ws Gs n K) (Reads ws Gs) (clsL ops) (List.range' (i + 1) rest.length) (a.put o.dst v) w2 := by
          intro st2 v w2 G2 hI hk hev
          refine ⟨fun hn => ?_, go st2 _ w2 G2 hI (by rw [put_defers]; exact hdef) (by rw [put_size]; exact hsz) (fun hx => absurd hx (hlate h0)) (fun hk2 => hk ?_ (fun k hki => hk2 k (by omega))) hev⟩
          · obtain ⟨h1, h2⟩ := hneed h0 hn
            exact reads_of hI.ext (hk (by rw [← hmuti]; exact h1) h2)
          · rw [← hmuti]; exact hk2 i (by omega)
        split at he
        · rename_i c st2 hop
          obtain ⟨rfl, he2⟩ := he
          unfold evOp at hop
          rw [if_pos hquiet] at hop
          obtain ⟨nx, v, w2, G2, h1, h2, h3, h4⟩ := evLoud_run h hdo hop
          unfold Oper.wp
          rw [h1]
          have hfin := fin st2 v w2 G2 h3 (fun hm hk b hb => by
            have hst : isStore o = false := by
              unfold isStore
              split
              · rename_i hs; simp [isMut, hs] at hm
              · rfl
            obtain ⟨ψ, hφ, _⟩ := h.ext.phi
            rw [h4 hst b (by rw [hφ]; exact List.mem_append_left _ hb)]
            exact hkeep hk b hb) he2
          rcases h2 with rfl | ⟨rfl, rfl⟩
          · exact hfin
          · exact hfin
        · split at he
          · rename_i f args hcall
            refine evCall_wp (KR := fun r σ' => evOps P ops K rest ((st.aft σ').put o.dst r)) (KP := fun c σ' => K (.pan c) { st with σ := σ' }) hgl h hdo hdef hcall he (fun r σ' v w2 G2 hK hI => ?_) (fun c σ' w2 G2 hK hdf hE hS => ⟨hdf, _, G2, hK, hE, hS⟩)
            refine fin _ v w2 G2 hI (fun hm => ?_) hK
            exfalso
            unfold evCall at hcall
            split at hcall
            · rename_i cc hopc
              split at hcall
              · rename_i ff hff
                simp [isMut, hopc, hff] at hm
              · cases hcall
            · cases hcall
          · exact he.elim
      · split at he
        · rename_i c st2 hop
          obtain ⟨rfl, he2⟩ := he
          unfold evOp at hop
          rw [if_neg hquiet] at hop
          split at hop
          · rename_i d hdd
            obtain ⟨v, G2, h1, hsame, h2⟩ := evQuiet_run h (hdo d hdd) hdd hop
            have hnext := go st2 _ w G2 h2 (by rw [put_defers]; exact hdef) (by rw [put_size]; exact hsz) (fun hx => by obtain ⟨k1, k2, k3⟩ := hone1 hx; exact ⟨k1, hsame.1.trans k2, hsame.2.trans k3⟩) hkeep1 he2
            rcases hc3 with h0 | h0 | h0
            · rw [if_pos h0]
              have hcls : clsOf o = 0 := by
                rcases clsL_get hi ho with h5 | h5
                · omega
                · omega
              exact ⟨v, .inl ⟨hw, fun w2 _ => .inl (h1 w2 (fun e => by omega))⟩, hnext⟩
            · rw [if_neg (by omega), if_pos h0]
              obtain ⟨k1, k2, k3⟩ := hone ⟨i, Nat.le_refl _, hi, h0⟩
              refine ⟨v, .inl ⟨hw, fun w2 hr => .inl (h1 w2 (fun _ => ?_))⟩, hnext⟩
              unfold Reads
              rw [k1, k2, k3]; exact hr
            · rw [if_neg (by omega), if_neg (by omega)]
              unfold wpOp
              simp only [ho, hw, if_true]
              left
              unfold Oper.wp
              rw [h1 w (fun _ => Reads.refl _ _)]
              exact ⟨fun hn => reads_of h.ext (hkeep (hneed h0 hn).2), hnext⟩
          · cases hop
        · split at he
          · rename_i f args hcall
            exact absurd (evCall_cls hcall) hquiet
          · exact he.elim
end
-- operations in another order
def planChk (ops : Array Oper) : Bool → Bool → List Nat → Bool
  | _, _, [] => true
  | d2, dirty, i :: t =>
    match ops[i]? with
    | none => false
    | some o =>
      if cl (clsL ops) i = 1 then !d2 && planChk ops d2 dirty t
      else if cl (clsL ops) i = 2 then
        (if needS ops (clsL ops) i then !dirty && !isStore o && planChk ops true dirty t else planChk ops true (dirty || isMut o) t)
      else planChk ops d2 dirty t
def planOk (ops : Array Oper) (t : List Nat) : Bool :=
  Region.noSelect ops && (t.length == ops.size && (okT ops (clsL ops) t (Array.replicate ops.size false) && planChk ops false false t))
def evOpsT (P : Program) (ops : Array Oper) (K : AX → St → Prop) : List Nat → St → Prop
  | [], st => K .normal st
  | i :: t, st =>
    match ops[i]? with
    | none => False
    | some o =>
      match evGuard ops st o with
      | none => False
      | some false => evOpsT P ops K t (st.put o.dst (.lit (.tuple #[])))
      | some true =>
        match evOp P o st with
        | some (c, st') => c = true ∧ evOpsT P ops K t st'
        | none =>
          match evCall P o st with
          | some (f, args) =>
            if needS ops (clsL ops) i = true then pureL args = true ∧ VC P f args [] fun x σ' => match x with
              | .ret r => evOpsT P ops K t ((st.aft (st.σ ++ σ'.map (PV.shiftL st.σ.length))).put o.dst (r.shift st.σ.length))
              | .pan c => K (.pan c) { st with σ := st.σ ++ σ'.map (PV.shiftL st.σ.length) }
            else VC P f args st.σ fun x σ' => match x with
              | .ret r => evOpsT P ops K t ((st.aft σ').put o.dst r)
              | .pan c => K (.pan c) { st with σ := σ' }
          | none => False
section
variable {w w' w0 ws : World} {G G' G0 Gs : Gh} {P : Program} {st st' : St} {a : Act} {o : Oper} {n : Nat} {ops : Array Oper} {K : AX → St → Prop}
theorem plan_sound (hgl : GlbOk ws Gs) (hdst : ∀ o ∈ ops.toList, ∀ d, o.dst = some d → d < n) : ∀ (l : List Nat) (d2 dirty : Bool) (st : St) (a : Act) (w : World) (G : Gh), planChk ops d2 dirty l = true → Inv ws Gs st (tmOf a) w G → a.defers = [] → a.tmps.size = n →
    (d2 = false → w = ws ∧ G.U = Gs.U ∧ G.φ = Gs.φ) → (dirty = false → ∀ b ∈ Gs.φ, w.heap[b]? = ws.heap[b]?) →
    evOpsT P ops K l st → walkT P ops (Post ws Gs n K) (Reads ws Gs) (clsL ops) l a w
  | [], d2, dirty, st, a, w, G, _, h, hdef, hsz, _, _, he => ⟨hsz, hdef, st, G, he, h⟩
  | i :: rest, d2, dirty, st, a, w, G, hchk, h, hdef, hsz, hone, hkeep, he => by
    unfold evOpsT at he
    unfold planChk at hchk
    unfold walkT
    cases ho : ops[i]? with
    | none => rw [ho] at he; exact he.elim
    | some o =>
    rw [ho] at he hchk
    simp only at he hchk ⊢
    have hi : i < ops.size := (Array.getElem?_eq_some_iff.1 ho).1
    have hmem : o ∈ ops.toList := by
      have := Array.mem_of_getElem? ho
      simpa using this
    have hdo : ∀ d, o.dst = some d → d < a.tmps.size := fun d hdd => by rw [hsz]; exact hdst o hmem d hdd
    have hc3 : cl (clsL ops) i = 0 ∨ cl (clsL ops) i = 1 ∨ cl (clsL ops) i = 2 := by
      rcases clsL_get hi ho with h1 | h1
      · exact .inr (.inr h1)
      · rw [h1]; exact cls_cases o
    -- the checks, by class
    have hchk0 : cl (clsL ops) i = 0 → planChk ops d2 dirty rest = true := fun h0 => by rw [if_neg (by omega), if_neg (by omega)] at hchk; exact hchk
    have hchk1 : cl (clsL ops) i = 1 → d2 = false ∧ planChk ops d2 dirty rest = true := fun h0 => by rw [if_pos h0] at hchk; simpa using hchk
    have hchk2 : cl (clsL ops) i = 2 → (needS ops (clsL ops) i = true ∧ dirty = false ∧ isStore o = false ∧ planChk ops true dirty rest = true) ∨ (needS ops (clsL ops) i = false ∧ planChk ops true (dirty || isMut o) rest = true) := fun h0 => by
      rw [if_neg (by omega), if_pos h0] at hchk
      cases hn : needS ops (clsL ops) i with
      | true => rw [hn] at hchk; simp only [if_true, Bool.and_eq_true, Bool.not_eq_true'] at hchk; exact .inl ⟨rfl, hchk.1.1, hchk.1.2, hchk.2⟩
      | false => rw [hn] at hchk; simp only [Bool.false_eq_true, if_false] at hchk; exact .inr ⟨rfl, hchk⟩
    have hdirty : ∀ {m : Bool}, (dirty || m) = false → dirty = false ∧ m = false := by
      intro m hm; cases dirty <;> cases m <;> simp_all
    split at he
    · exact he.elim
    · rename_i hg
      have hw := guard_run h.env hg
      have hS := h.skipPut hdo
      rcases hc3 with h0 | h0 | h0
      · rw [if_pos h0]
        exact ⟨Go.undef, .inr ⟨hw, rfl⟩, plan_sound hgl hdst rest d2 dirty _ _ w G (hchk0 h0) hS (by rw [put_defers]; exact hdef) (by rw [put_size]; exact hsz) hone hkeep he⟩
      · rw [if_neg (by omega), if_pos h0]
        exact ⟨Go.undef, .inr ⟨hw, rfl⟩, plan_sound hgl hdst rest d2 dirty _ _ w G (hchk1 h0).2 hS (by rw [put_defers]; exact hdef) (by rw [put_size]; exact hsz) hone hkeep he⟩
      · rw [if_neg (by omega), if_neg (by omega)]
        unfold wpOp
        simp only [ho, hw]
        rcases hchk2 h0 with ⟨k1, k2, k3, k4⟩ | ⟨k1, k4⟩
        · exact ⟨fun _ => reads_of h.ext (hkeep k2), plan_sound hgl hdst rest true dirty _ _ w G k4 hS (by rw [put_defers]; exact hdef) (by rw [put_size]; exact hsz) (fun e => by cases e) hkeep he⟩
        · exact ⟨fun hn => (by rw [k1] at hn; cases hn), plan_sound hgl hdst rest true (dirty || isMut o) _ _ w G k4 hS (by rw [put_defers]; exact hdef) (by rw [put_size]; exact hsz) (fun e => by cases e) (fun hd => hkeep (hdirty hd).1) he⟩
    · rename_i hg
      have hw := guard_run h.env hg
      by_cases hquiet : clsOf o = 2
      · have h0 : cl (clsL ops) i = 2 := by
          rcases clsL_get hi ho with h1 | h1
          · exact h1
          · rw [h1]; exact hquiet
        rw [if_neg (by omega), if_neg (by omega)]
        unfold wpOp
        simp only [ho, hw, if_true]
        left
        split at he
        · rename_i c st2 hop
          obtain ⟨rfl, he2⟩ := he
          unfold evOp at hop
          rw [if_pos hquiet] at hop
          obtain ⟨nx, v, w2, G2, h1, h2, h3, h4⟩ := evLoud_run h hdo hop
          unfold Oper.wp
          rw [h1]
          have hk2 : isStore o = false → dirty = false → ∀ b ∈ Gs.φ, w2.heap[b]? = ws.heap[b]? := fun hst hd b hb => by
            obtain ⟨ψ, hφ, _⟩ := h.ext.phi
            rw [h4 hst b (by rw [hφ]; exact List.mem_append_left _ hb)]
            exact hkeep hd b hb
          have hfin : (needS ops (clsL ops) i = true → Reads ws Gs w2) ∧ walkT P ops (Post ws Gs n K) (Reads ws Gs) (clsL ops) rest (a.put o.dst v) w2 := by
            rcases hchk2 h0 with ⟨k1, k2, k3, k4⟩ | ⟨k1, k4⟩
            · exact ⟨fun _ => reads_of h3.ext (hk2 k3 k2), plan_sound hgl hdst rest true dirty _ _ w2 G2 k4 h3 (by rw [put_defers]; exact hdef) (by rw [put_size]; exact hsz) (fun e => by cases e) (hk2 k3) he2⟩
            · refine ⟨fun hn => (by rw [k1] at hn; cases hn), plan_sound hgl hdst rest true (dirty || isMut o) _ _ w2 G2 k4 h3 (by rw [put_defers]; exact hdef) (by rw [put_size]; exact hsz) (fun e => by cases e) (fun hd => ?_) he2⟩
              obtain ⟨hd1, hd2⟩ := hdirty hd
              refine hk2 ?_ hd1
              unfold isStore
              split
              · rename_i hs; simp [isMut, hs] at hd2
              · rfl
          rcases h2 with rfl | ⟨rfl, rfl⟩
          · exact hfin
          · exact hfin
        · split at he
          · rename_i f args hcall
            rcases hchk2 h0 with ⟨k1, k2, k3, k4⟩ | ⟨k1, k4⟩
            · rw [if_pos k1] at he
              obtain ⟨hpl, hvc⟩ := he
              obtain ⟨vs, g1, g2, g3⟩ := evCall_run h.env hcall
              unfold Oper.wp
              rw [g3 w]
              refine (grow_core hvc hpl h.store.inner (hgl.ext h.ext).inner g1 g2).mono fun e w2 hpost => ?_
              obtain ⟨x, σ', G2, hq, hend, hs2, hx2, hall⟩ := hpost
              have hk2 : ∀ b ∈ Gs.φ, w2.heap[b]? = ws.heap[b]? := fun b hb => by
                obtain ⟨ψ, hφ, _⟩ := h.ext.phi
                rw [hall b (h.store.lt (by rw [hφ]; exact List.mem_append_left _ hb))]
                exact hkeep k2 b hb
              cases x with
              | ret r =>
                obtain ⟨v, rfl, hv, ht⟩ := hend
                have key : ∀ G3, Inv ws Gs ((st.aft (st.σ ++ σ'.map (PV.shiftL st.σ.length))).put o.dst (r.shift st.σ.length)) (tmOf (a.put o.dst v)) w2 G3 → (needS ops (clsL ops) i = true → Reads ws Gs w2) ∧ walkT P ops (Post ws Gs n K) (Reads ws Gs) (clsL ops) rest (a.put o.dst v) w2 := fun G3 hI =>
                  ⟨fun _ => reads_of hI.ext hk2, plan_sound hgl hdst rest true dirty _ _ w2 G3 k4 hI (by rw [put_defers]; exact hdef) (by rw [put_size]; exact hsz) (fun e => by cases e) (fun _ => hk2) hq⟩
                show (needS ops (clsL ops) i = true → Reads ws Gs w2) ∧ walkT P ops (Post ws Gs n K) (Reads ws Gs) (clsL ops) rest (a.put o.dst v) w2
                cases hdd : o.dst with
                | none =>
                  have hI := h.call (tup := false) hs2 hx2 0
                  have := key _ (by rw [hdd]; exact hI)
                  rw [hdd] at this; exact this
                | some d =>
                  have hI := (h.call (tup := isTup (r.shift st.σ.length)) hs2 hx2 d).putRet hv ht
                  have := key _ (by rw [hdd, tmOf_put (hdo d hdd)]; exact hI)
                  rw [hdd] at this; exact this
              | pan c =>
                obtain rfl : e = .panicked c := hend
                have hI := h.call (tup := false) hs2 hx2 0
                exact ⟨hdef, _, _, hq, hI.ext, hI.store⟩
            · rw [if_neg (by rw [k1]; simp)] at he
              refine evCall_wp (KR := fun r σ' => evOpsT P ops K rest ((st.aft σ').put o.dst r)) (KP := fun c σ' => K (.pan c) { st with σ := σ' }) hgl h hdo hdef hcall he (fun r σ' v w2 G2 hK hI => ?_) (fun c σ' w2 G2 hK hdf hE hS => ⟨hdf, _, G2, hK, hE, hS⟩)
              refine ⟨fun hn => (by rw [k1] at hn; cases hn), plan_sound hgl hdst rest true (dirty || isMut o) _ _ w2 G2 k4 hI (by rw [put_defers]; exact hdef) (by rw [put_size]; exact hsz) (fun e => by cases e) (fun hd => ?_) hK⟩
              exfalso
              have hm := (hdirty hd).2
              unfold evCall at hcall
              split at hcall
              · rename_i cc hopc
                split at hcall
                · rename_i ff hff
                  simp [isMut, hopc, hff] at hm
                · cases hcall
              · cases hcall
          · exact he.elim
      · split at he
        · rename_i c st2 hop
          obtain ⟨rfl, he2⟩ := he
          unfold evOp at hop
          rw [if_neg hquiet] at hop
          split at hop
          · rename_i d hdd
            obtain ⟨v, G2, h1, hsame, h2⟩ := evQuiet_run h (hdo d hdd) hdd hop
            have hone2 : d2 = false → w = ws ∧ G2.U = Gs.U ∧ G2.φ = Gs.φ := fun hx => by obtain ⟨k1, k2, k3⟩ := hone hx; exact ⟨k1, hsame.1.trans k2, hsame.2.trans k3⟩
            rcases hc3 with h0 | h0 | h0
            · rw [if_pos h0]
              have hcls : clsOf o = 0 := by
                rcases clsL_get hi ho with h5 | h5
                · omega
                · omega
              exact ⟨v, .inl ⟨hw, fun w2 _ => .inl (h1 w2 (fun e => by omega))⟩, plan_sound hgl hdst rest d2 dirty _ _ w G2 (hchk0 h0) h2 (by rw [put_defers]; exact hdef) (by rw [put_size]; exact hsz) hone2 hkeep he2⟩
            · rw [if_neg (by omega), if_pos h0]
              obtain ⟨e1, e2⟩ := hchk1 h0
              obtain ⟨k1, k2, k3⟩ := hone e1
              refine ⟨v, .inl ⟨hw, fun w2 hr => .inl (h1 w2 (fun _ => ?_))⟩, plan_sound hgl hdst rest d2 dirty _ _ w G2 e2 h2 (by rw [put_defers]; exact hdef) (by rw [put_size]; exact hsz) hone2 hkeep he2⟩
              unfold Reads
              rw [k1, k2, k3]; exact hr
            · rw [if_neg (by omega), if_neg (by omega)]
              unfold wpOp
              simp only [ho, hw, if_true]
              left
              unfold Oper.wp
              rw [h1 w (fun _ => Reads.refl _ _)]
              rcases hchk2 h0 with ⟨k1, k2, k3, k4⟩ | ⟨k1, k4⟩
              · exact ⟨fun _ => reads_of h.ext (hkeep k2), plan_sound hgl hdst rest true dirty _ _ w G2 k4 h2 (by rw [put_defers]; exact hdef) (by rw [put_size]; exact hsz) (fun e => by cases e) hkeep he2⟩
              · exact ⟨fun hn => (by rw [k1] at hn; cases hn), plan_sound hgl hdst rest true (dirty || isMut o) _ _ w G2 k4 h2 (by rw [put_defers]; exact hdef) (by rw [put_size]; exact hsz) (fun e => by cases e) (fun hd => hkeep (hdirty hd).1) he2⟩
          · cases hop
        · split at he
          · rename_i f args hcall
            exact absurd (evCall_cls hcall) hquiet
          · exact he.elim
end
section
variable {w w' w0 ws : World} {G G' G0 Gs : Gh} {P : Program} {st st' : St} {a : Act} {o : Oper} {n : Nat} {ops : Array Oper} {K : AX → St → Prop}
/-- A region, by another order. -/
theorem plan_region {id : Nat} {t : List Nat} (hgl : GlbOk w0 G0) (hm : P.follows .mixedOrders = true) (hdst : ∀ o ∈ ops.toList, ∀ d, o.dst = some d → d < n) (hok : planOk ops t = true) (h : Inv w0 G0 st (tmOf a) w G) (hdef : a.defers = []) (hsz : a.tmps.size = n) (he : evOpsT P ops K t st) :
    (Code.region id ops true).wp P (Post w0 G0 n K) a w := by
  simp only [planOk, Bool.and_eq_true, beq_iff_eq] at hok
  obtain ⟨h1, h2, h3, h4⟩ := hok
  have hw := plan_sound (P := P) (K := K) (ws := w.drew) (Gs := G) ((hgl.ext h.ext).ext h.ext.drew0) hdst t false false st a w.drew G h4 h.drew.at_ hdef hsz (fun _ => ⟨rfl, rfl, rfl⟩) (fun _ _ _ => rfl) he
  have hreg : (Code.region id ops.toList.toArray true).wp P (Post w.drew G n K) a w := by
    refine wp_region_walk (clsL ops) t (Reads w.drew G) hm (by simpa using h1) (by simpa using h2) (by simpa using h3) ?_ (Reads.refl _ _) (by simpa using hw)
    rintro c d v a' w' ⟨k1, k2⟩
    exact ⟨by rw [put_defers] at k1; exact k1, k2⟩
  rw [Array.toArray_toList] at hreg
  exact wp_mono hreg fun e a' w' hp => hp.since h.ext.drew
/-- A region. -/
theorem region_sound {id : Nat} {draw : Bool} (hgl : GlbOk w0 G0) (hm : P.follows .mixedOrders = true) (hdst : ∀ o ∈ ops.toList, ∀ d, o.dst = some d → d < n) (hdraw : draw = true → drawOk ops = true) (h : Inv w0 G0 st (tmOf a) w G) (hdef : a.defers = []) (hsz : a.tmps.size = n) (he : evOps P ops K ops.toList st) :
    (Code.region id ops draw).wp P (Post w0 G0 n K) a w := by
  cases draw with
  | false => exact wp_region_list (evOps_sound hgl _ st a w G h hdef hsz hdst he)
  | true =>
    have hok := hdraw rfl
    have hok2 := hok
    simp only [drawOk, Bool.and_eq_true] at hok2
    have hd := h.drew.at_
    have hw := draw_sound (P := P) (K := K) (ws := w.drew) (Gs := G) ((hgl.ext h.ext).ext h.ext.drew0) hok hdst ops.toList 0 st a w.drew G (by simp) hd hdef hsz (fun _ => ⟨rfl, rfl, rfl⟩) (fun _ _ _ => rfl) he
    have hreg : (Code.region id ops.toList.toArray true).wp P (Post w.drew G n K) a w := by
      refine wp_region_walk (clsL ops) (List.range ops.size) (Reads w.drew G) hm (by simpa using hok2.1) (by simp) (by simpa using hok2.2.1) ?_ (Reads.refl _ _) ?_
      · rintro c d v a' w' ⟨h1, h2⟩
        exact ⟨by rw [put_defers] at h1; exact h1, h2⟩
      · rw [Array.length_toList, ← List.range_eq_range'] at hw
        simpa using hw
    rw [Array.toArray_toList] at hreg
    exact wp_mono hreg fun e a' w' hp => hp.since h.ext.drew
end
end Go.Vl
namespace Go.Vl
open Go Go.RowKit
/-- A state that says less. -/
def Wk (N : Nat) (st st' : St) : Prop := ∀ (w0 : World) (G0 : Gh) (tm : Nat → Value) (w : World) (G : Gh), G0.φ.length ≤ N → Inv w0 G0 st tm w G → ∃ G', Inv w0 G0 st' tm w G'
def keepV (L : List Nat) : PV → PV
  | .sl xs (.view (.tmp s)) => if L.contains s then .sl xs (.view (.tmp s)) else .sl xs .shared
  | p => p
/-- What only the temporaries of L know. -/
def clr (L : List Nat) (st : St) : St := { st with env := L.map fun t => (t, keepV L (st.get t)) }
/-- The temporaries that matter from statement to statement, and the orders of statements that are walked in another order. -/
structure Cf where
  L : List Nat
  pl : List (Nat × List Nat) := []
def planOf : List (Nat × List Nat) → Nat → Option (List Nat)
  | [], _ => none
  | (k, t) :: r, i => if k = i then some t else planOf r i
def W (P : Program) (L : Cf) (N : Nat) : Code → (AX → St → Prop) → St → Prop
  | .skip, K, st => K .normal st
  | .label _, K, st => K .normal st
  | .region id ops _, K, st => match planOf L.pl id with
    | none => evOps P ops (fun x st' => K x (match x with | .normal => clr L.L st' | _ => st')) ops.toList st
    | some t => evOpsT P ops (fun x st' => K x (match x with | .normal => clr L.L st' | _ => st')) t st
  | .seq a b, K, st => W P L N a (fun x st' => match x with | .normal => W P L N b K st' | x => K x st') st
  | .cond c a b, K, st => match opd st c with
    | .lit (.bool t) => if t = true then W P L N a K st else W P L N b K st
    | _ => False
  | .block id b, K, st => W P L N b (fun x st' => match x with | .exit i => if i = id then K .normal st' else K (.exit i) st' | x => K x st') st
  | .loop b, K, st => ∃ I : Nat → St → Prop, (∃ m st0, Wk N st st0 ∧ I m st0) ∧ ∀ m st1, I m st1 → W P L N b (fun x st' => match x with | .normal => ∃ m' st2, Wk N st' st2 ∧ I m' st2 ∧ m' < m | x => K x st') st1
  | .exit id, K, st => K (.exit id) st
  | .ret, K, st => K .ret st
  | _, _, _ => False
def okCode (pl : List (Nat × List Nat)) (n : Nat) : Code → Bool
  | .region id ops draw => ops.toList.all (fun o => match o.dst with | some d => decide (d < n) | none => true) && match planOf pl id with
    | none => !draw || drawOk ops
    | some t => draw && planOk ops t
  | .seq a b => okCode pl n a && okCode pl n b
  | .cond _ a b => okCode pl n a && okCode pl n b
  | .block _ b => okCode pl n b
  | .loop b => okCode pl n b
  | _ => true
section
variable {w w' w0 : World} {G G' G0 : Gh} {P : Program} {st st' : St} {a : Act} {n N : Nat} {K : AX → St → Prop} {L : Cf} {tm : Nat → Value}
theorem get_clr (L : List Nat) (st : St) (t : Nat) : (clr L st).get t = if t ∈ L then keepV L (st.get t) else .undef := by
  show getE (L.map fun t => (t, keepV L (st.get t))) t = _
  have key : ∀ (M : List Nat), getE (M.map fun t => (t, keepV L (st.get t))) t = if t ∈ M then keepV L (st.get t) else .undef := by
    intro M
    induction M with
    | nil => rfl
    | cons x r ih =>
      show (if x = t then keepV L (st.get x) else getE (r.map fun t => (t, keepV L (st.get t))) t) = _
      by_cases e : x = t
      · subst e; simp
      · rw [if_neg e, ih]
        by_cases h : t ∈ r
        · rw [if_pos h, if_pos (by simp [h])]
        · rw [if_neg h, if_neg (by simp [h]; exact fun h2 => e h2.symm)]
  exact key L
theorem Inv.clr (h : Inv w0 G0 st tm w G) (L : List Nat) : Inv w0 G0 (clr L st) tm w G := by
  refine ⟨h.ext, h.store, ⟨fun t => ?_, fun t => ?_⟩⟩
  · rw [get_clr]
    split
    · have hv := h.env.v t
      revert hv
      generalize st.get t = q
      intro hv
      unfold keepV
      split
      · split
        · exact hv
        · exact hv.tag (by simp) (by simp)
      · exact hv
    · exact .undef _ _
  · rw [get_clr]
    split
    · have ht := h.env.tag t
      revert ht
      generalize st.get t = q
      intro ht
      unfold keepV
      split
      · rename_i xs s
        split
        · rename_i hs
          refine ⟨?_, ht.2⟩
          rw [get_clr, if_pos (by simpa using hs), ht.1]; rfl
        · trivial
      · rename_i hno
        cases q with
        | sl xs g =>
          cases g with
          | view m =>
            cases m with
            | tmp s => exact absurd rfl (hno xs s)
            | cell k j => exact ht
            | _ => exact ht
          | _ => exact ht
        | _ => exact ht
    · trivial
theorem Wk.refl (N : Nat) (st : St) : Wk N st st := fun _ _ _ _ G _ h => ⟨G, h⟩
theorem Wk.trans {a b c : St} (h : Wk N a b) (k : Wk N b c) : Wk N a c := fun w0 G0 tm w G hN h1 => by
  obtain ⟨G', h2⟩ := h w0 G0 tm w G hN h1
  exact k w0 G0 tm w G' hN h2
theorem Wk.clr (N : Nat) (L : List Nat) (st : St) : Wk N st (Vl.clr L st) := fun _ _ _ _ G _ h => ⟨G, h.clr L⟩
theorem wp_loop_rel {c : Code} {Q : Exit → Act → World → Prop} (X : Nat → Act → World → Prop) {m : Nat} (h₀ : X m a w)
    (round : ∀ m a w, X m a w → c.wp P (Exit.then (fun a' w' => ∃ m', m' < m ∧ X m' a' w') Q) a w) : (Code.loop c).wp P Q a w := by
  intro b k cs
  have key : ∀ n a w, X n a w → ∃ e a' w', Q e a' w' ∧ Arrives P (lone (b.at a (.code c :: .inLoop c :: k)) cs w) b k cs e a' w' := by
    intro n
    induction n using Nat.strongRecOn with
    | _ n ih =>
      intro a w hI
      obtain ⟨e, a₁, w₁, hq, harr⟩ := round n a w hI b (.inLoop c :: k) cs
      cases e with
      | normal =>
        obtain ⟨m', hlt, hI₁⟩ := hq
        obtain ⟨e₂, a₂, w₂, hq₂, harr₂⟩ := ih m' hlt a₁ w₁ hI₁
        exact ⟨e₂, a₂, w₂, hq₂, .of_steps (Steps.trans harr (.one step_inLoop)) harr₂⟩
      | exit id => exact ⟨_, a₁, w₁, hq, .pass (x := .inLoop c) rfl (fun _ _ => .inl (by simp)) harr⟩
      | goto l => exact ⟨_, a₁, w₁, hq, .pass (x := .inLoop c) rfl (fun _ _ => .inl (by simp)) harr⟩
      | ret => exact ⟨_, a₁, w₁, hq, .pass (x := .inLoop c) rfl (fun _ _ => .inl (by simp)) harr⟩
      | panic ch => exact ⟨_, a₁, w₁, hq, .pass (x := .inLoop c) rfl (fun _ _ => .inl (by simp)) harr⟩
      | outgrown => exact ⟨_, a₁, w₁, hq, .pass (x := .inLoop c) rfl (fun _ _ => .inl (by simp)) harr⟩
  obtain ⟨e, a', w', hq, harr⟩ := key m a w h₀
  exact ⟨e, a', w', hq, .of_steps (.one step_loop) harr⟩
theorem W_sound (hgl : GlbOk w0 G0) (hm : P.follows .mixedOrders = true) (hN : G0.φ.length ≤ N) : ∀ (c : Code) (K : AX → St → Prop) (st : St) (a : Act) (w : World) (G : Gh), okCode L.pl n c = true → Inv w0 G0 st (tmOf a) w G → a.defers = [] → a.tmps.size = n → W P L N c K st → c.wp P (Post w0 G0 n K) a w := by
  intro c
  induction c with
  | skip => intro K st a w G _ h hd hs hw; exact wp_skip ⟨hs, hd, st, G, hw, h⟩
  | label l => intro K st a w G _ h hd hs hw; exact wp_label ⟨hs, hd, st, G, hw, h⟩
  | exit id => intro K st a w G _ h hd hs hw; exact wp_exit ⟨hs, hd, st, G, hw, h⟩
  | ret => intro K st a w G _ h hd hs hw; exact wp_ret ⟨hs, hd, st, G, hw, h⟩
  | region id ops draw =>
    intro K st a w G hok h hd hs hw
    simp only [okCode, Bool.and_eq_true, List.all_eq_true] at hok
    obtain ⟨hok1, hok2⟩ := hok
    have hd2 : ∀ o ∈ ops.toList, ∀ d, o.dst = some d → d < n := fun o ho d hdd => by have := hok1 o ho; rw [hdd] at this; simpa using this
    have hreg : (Code.region id ops draw).wp P (Post w0 G0 n (fun x st' => K x (match x with | .normal => clr L.L st' | _ => st'))) a w := by
      unfold W at hw
      split at hw
      · rename_i hp
        rw [hp] at hok2
        refine region_sound (P := P) (id := id) (draw := draw) hgl hm (n := n) hd2 (fun e => ?_) h hd hs hw
        rw [e] at hok2; simpa using hok2
      · rename_i t hp
        rw [hp] at hok2
        simp only [Bool.and_eq_true] at hok2
        rw [hok2.1]
        exact plan_region hgl hm hd2 hok2.2 h hd hs hw
    refine wp_mono hreg fun e a' w' hp => ?_
    cases e with
    | normal => obtain ⟨h1, h2, st2, G2, h3, h4⟩ := hp; exact ⟨h1, h2, _, G2, h3, h4.clr L.L⟩
    | exit id => exact hp
    | ret => exact hp
    | panic c => exact hp
    | goto l => exact hp
    | outgrown => exact hp
  | seq x y ihx ihy =>
    intro K st a w G hok h hd hs hw
    simp only [okCode, Bool.and_eq_true] at hok
    refine wp_seq (wp_mono (ihx _ st a w G hok.1 h hd hs hw) fun e a' w' hp => ?_)
    cases e with
    | normal => obtain ⟨h1, h2, st2, G2, h3, h4⟩ := hp; exact ihy K st2 a' w' G2 hok.2 h4 h2 h1 h3
    | exit id => exact hp
    | ret => exact hp
    | panic c => exact hp
    | goto l => exact hp
    | outgrown => exact hp
  | cond c x y ihx ihy =>
    intro K st a w G hok h hd hs hw
    simp only [okCode, Bool.and_eq_true] at hok
    unfold W at hw
    have hv := opd_V (a := a) h.env c
    split at hw
    · rename_i t ht
      rw [ht] at hv
      have hc : a.eval c = .bool t := by
        revert hv; generalize a.eval c = z; intro hv
        cases hv with
        | lit _ _ => rfl
      refine wp_cond hc ?_
      cases t with
      | true => simp only [if_true] at hw ⊢; exact ihx K st a w G hok.1 h hd hs hw
      | false => simp only [Bool.false_eq_true, if_false] at hw ⊢; exact ihy K st a w G hok.2 h hd hs hw
    · exact hw.elim
  | block id b ih =>
    intro K st a w G hok h hd hs hw
    refine wp_block (wp_mono (ih _ st a w G hok h hd hs hw) fun e a' w' hp => ?_)
    cases e with
    | normal => exact hp
    | exit i =>
      obtain ⟨h1, h2, st2, G2, h3, h4⟩ := hp
      have h5 : (if i = id then K .normal st2 else K (.exit i) st2) := h3
      show (if i = id then Post w0 G0 n K .normal a' w' else Post w0 G0 n K (.exit i) a' w')
      by_cases e : i = id
      · rw [if_pos e] at h5 ⊢; exact ⟨h1, h2, st2, G2, h5, h4⟩
      · rw [if_neg e] at h5 ⊢; exact ⟨h1, h2, st2, G2, h5, h4⟩
    | ret => exact hp
    | panic c => exact hp
    | goto l => exact hp
    | outgrown => exact hp
  | loop b ih =>
    intro K st a w G hok h hd hs hw
    obtain ⟨I, ⟨m, st0, hwk, hI⟩, hround⟩ := hw
    obtain ⟨G1, h1⟩ := hwk w0 G0 _ w G hN h
    refine wp_loop_rel (fun m a w => a.tmps.size = n ∧ a.defers = [] ∧ ∃ st G, I m st ∧ Inv w0 G0 st (tmOf a) w G) (m := m) ⟨hs, hd, st0, G1, hI, h1⟩ ?_
    rintro m a w ⟨hs, hd, st1, G, hI, h⟩
    refine wp_mono (ih _ st1 a w G hok h hd hs (hround m st1 hI)) fun e a' w' hp => ?_
    cases e with
    | normal =>
      obtain ⟨h1, h2, st2, G2, ⟨m', st3, hwk, h3, h4⟩, h5⟩ := hp
      obtain ⟨G3, h6⟩ := hwk w0 G0 _ w' G2 hN h5
      exact ⟨m', h4, h1, h2, st3, G3, h3, h6⟩
    | exit id => exact hp
    | ret => exact hp
    | panic c => exact hp
    | goto l => exact hp
    | outgrown => exact hp
  | _ => intro K st a w G hok h hd hs hw; exact hw.elim
end
end Go.Vl
namespace Go.Vl
open Go Go.RowKit
def takeRet (st : St) (t : Nat) : PV × St :=
  match st.get t with
  | .sl xs .own => (.sl xs .own, st.put (some t) (.sl xs .shared))
  | .sl xs (.view (.tmp s)) => (.sl xs .own, st.put (some s) (.sl xs .shared))
  | .sl [] .nil => (.sl [] .own, st)
  | .agg cs => (.agg (cs.map unown), st)
  | p => (unown p, st)
def evRet (P : Program) (st : St) : ResultVar → Option (Bool × PV × St)
  | .tmp t => some (true, takeRet st t)
  | .cell a t => (evLoad P t st.σ (st.get a)).map fun r => (r.1, unown r.2, st)
def evRets (P : Program) : List ResultVar → St → Option (Bool × List PV × St)
  | [], st => some (true, [], st)
  | r :: rs, st => match evRet P st r with
    | some (c, p, st1) => (evRets P rs st1).map fun x => (c && x.1, p :: x.2.1, x.2.2)
    | none => none
def mkRet : List PV → PV
  | [p] => p
  | ps => .tup ps
def fitsAll (N : Nat) : List (List PV) → Bool
  | [] => true
  | cs :: r => PV.fitsL N cs && fitsAll N r
/-- The places that were there before; if what is handed back needs no others. -/
def trunc (N : Nat) (p : PV) (σ : List (List PV)) : List (List PV) := if p.fits N && fitsAll N (σ.take N) then σ.take N else σ
def retK (P : Program) (fn : Func) (N : Nat) (Q : AEnd → List (List PV) → Prop) (x : AX) (st : St) : Prop :=
  match x with
  | .normal => match evRets P fn.results.toList st with
    | some (c, ps, st') => c = true ∧ Q (.ret (mkRet ps)) (trunc N (mkRet ps) st'.σ)
    | none => False
  | .ret => match evRets P fn.results.toList st with
    | some (c, ps, st') => c = true ∧ Q (.ret (mkRet ps)) (trunc N (mkRet ps) st'.σ)
    | none => False
  | .pan c => Q (.pan c) (trunc N .undef st.σ)
  | .exit _ => False
def argSt (args : List PV) (σ : List (List PV)) : St := { env := args.zipIdx.map fun x => (x.2, unown x.1), σ }
section
variable {w w' w0 : World} {G G' G0 : Gh} {P : Program} {st st' : St} {a : Act} {n N : Nat} {p : PV} {v : Value}
/-- What is handed back of a temporary. -/
theorem takeRet_run {t i : Nat} (h : Inv w0 G0 st (tmOf a) w G) : ∃ G', V w G'.U G'.φ (takeRet st t).1 (tmOf a t) ∧ (∀ xs, (takeRet st t).1 = .sl xs .own → OwnedAt w G' (.ret i) xs (tmOf a t)) ∧ ((∀ xs l, (takeRet st t).1 ≠ .sl xs (.view l)) ∧ ∀ cs, (takeRet st t).1 ≠ .tup cs) ∧
    Inv w0 G0 (takeRet st t).2 (tmOf a) w G' ∧ (∀ b k, G.Ω b = some (.ret k) → G'.Ω b = some (.ret k)) ∧ G'.U = G.U ∧ G'.φ = G.φ := by
  have hv := h.env.v t
  have ht := h.env.tag t
  unfold takeRet
  split
  · rename_i xs hg
    rw [hg] at hv ht
    have h1 := (h.share hg).rel (.tmp t) (.ret i) (fun ys e => by rw [claim, get_put, if_pos rfl] at e; cases e)
    refine ⟨G.rel (.tmp t) (.ret i), hv, fun ys e => ?_, ⟨fun _ _ e => ?_, fun _ e => ?_⟩, h1, fun b k hb => rel_same (by simp) b hb, rfl, rfl⟩
    · cases e; exact OwnedAt.to ht rfl rel_moved
    · cases e
    · cases e
  · rename_i xs s hg
    rw [hg] at hv ht
    have hts := h.env.tag s
    rw [ht.1] at hts
    have h1 := (h.share ht.1).rel (.tmp s) (.ret i) (fun ys e => by rw [claim, get_put, if_pos rfl] at e; cases e)
    refine ⟨G.rel (.tmp s) (.ret i), hv.tag (by simp) (by simp), fun ys e => ?_, ⟨fun _ _ e => ?_, fun _ e => ?_⟩, h1, fun b k hb => rel_same (by simp) b hb, rfl, rfl⟩
    · cases e; rw [← ht.2]; exact OwnedAt.to hts rfl rel_moved
    · cases e
    · cases e
  · rename_i hg
    rw [hg] at hv
    obtain ⟨_, hv2⟩ := nil_val hv
    rw [hv2]
    refine ⟨G, .nil _ _, fun ys e => ?_, ⟨fun _ _ e => ?_, fun _ e => ?_⟩, h, fun b k hb => hb, rfl, rfl⟩
    · cases e; exact .inl ⟨rfl, rfl⟩
    · cases e
    · cases e
  · rename_i cs hg
    rw [hg] at hv
    refine ⟨G, ?_, fun ys e => ?_, ⟨fun _ _ e => ?_, fun _ e => ?_⟩, h, fun b k hb => hb, rfl, rfl⟩
    · revert hv
      generalize tmOf a t = z
      intro hv
      cases hv with
      | agg _ _ arr hn hh h1 => exact .agg _ _ arr (by simpa using hn) (fun i hi => by simp only [List.getElem_map]; exact V_unown (hh i (by simpa using hi))) h1
    · cases e
    · cases e
    · cases e
  · refine ⟨G, V_unown hv, fun ys e => ?_, ⟨fun ys l e => ?_, fun cs e => ?_⟩, h, fun b k hb => hb, rfl, rfl⟩
    · have e : unown (st.get t) = _ := e
      have := unown_plain (st.get t); rw [e] at this; cases this
    · have e : unown (st.get t) = _ := e
      have := unown_plain (st.get t); rw [e] at this; cases this
    · have e : unown (st.get t) = _ := e
      have := unown_plain (st.get t); rw [e] at this; cases this
def retOp (tmps : Array Value) : ResultVar → Sem Value
  | .tmp t => pure (tmps.getD t Go.undef)
  | .cell a t => do loadVar t (← asAddr (tmps.getD a Go.undef))
theorem evRets_run : ∀ (rs : List ResultVar) (i : Nat) (st : St) (G : Gh) (ps : List PV) (st' : St), Inv w0 G0 st (tmOf a) w G → evRets P rs st = some (true, ps, st') →
    ∃ vs G', (rs.mapM (retOp a.tmps)).run P w = .ok vs w ∧ vs.length = ps.length ∧ (∀ (j : Nat) (p : PV) (v : Value), ps[j]? = some p → vs[j]? = some v → V w G'.U G'.φ p v ∧ (∀ xs, p = .sl xs .own → OwnedAt w G' (.ret (i + j)) xs v) ∧ ((∀ xs l, p ≠ .sl xs (.view l)) ∧ ∀ cs, p ≠ .tup cs)) ∧
      Inv w0 G0 st' (tmOf a) w G' ∧ (∀ b k, G.Ω b = some (.ret k) → G'.Ω b = some (.ret k)) ∧ G'.U = G.U ∧ G'.φ = G.φ
  | [], i, st, G, ps, st', h, he => by
    simp only [evRets, Option.some.injEq, Prod.mk.injEq, true_and] at he
    obtain ⟨rfl, rfl⟩ := he
    exact ⟨[], G, rfl, rfl, fun j p v hp => by simp at hp, h, fun b k hb => hb, rfl, rfl⟩
  | r :: rs, i, st, G, ps, st', h, he => by
    unfold evRets at he
    split at he
    · rename_i c p st1 hr
      cases hrs : evRets P rs st1 with
      | none => rw [hrs] at he; cases he
      | some x =>
        obtain ⟨c2, ps2, st2⟩ := x
        rw [hrs] at he
        simp only [Option.map_some, Option.some.injEq, Prod.mk.injEq, Bool.and_eq_true] at he
        obtain ⟨⟨rfl, rfl⟩, rfl, rfl⟩ := he
        have step : ∃ v G1, (retOp a.tmps r).run P w = .ok v w ∧ V w G1.U G1.φ p v ∧ (∀ xs, p = .sl xs .own → OwnedAt w G1 (.ret i) xs v) ∧ ((∀ xs l, p ≠ .sl xs (.view l)) ∧ ∀ cs, p ≠ .tup cs) ∧ Inv w0 G0 st1 (tmOf a) w G1 ∧ (∀ b k, G.Ω b = some (.ret k) → G1.Ω b = some (.ret k)) ∧ G1.U = G.U ∧ G1.φ = G.φ := by
          unfold evRet at hr
          split at hr
          · rename_i t
            simp only [Option.some.injEq, Prod.mk.injEq, true_and] at hr
            obtain ⟨G1, k1, k2, k3, k4, k5, k6, k7⟩ := takeRet_run (t := t) (i := i) h
            have e1 : (takeRet st t).1 = p := by rw [hr]
            have e2 : (takeRet st t).2 = st1 := by rw [hr]
            rw [e1] at k1 k2 k3
            rw [e2] at k4
            exact ⟨tmOf a t, G1, rfl, k1, k2, k3, k4, k5, k6, k7⟩
          · rename_i at_ t
            cases hl : evLoad P t st.σ (st.get at_) with
            | none => rw [hl] at hr; cases hr
            | some y =>
              obtain ⟨c3, p3⟩ := y
              rw [hl] at hr
              simp only [Option.map_some, Option.some.injEq, Prod.mk.injEq] at hr
              obtain ⟨rfl, rfl, rfl⟩ := hr
              obtain ⟨u, k1, k2, k3⟩ := evLoad_run h.store (h.env.v at_) hl
              have k4 := k3 w (Reads.refl _ _)
              refine ⟨u, G, ?_, V_unown k1, fun xs e => ?_, ⟨fun xs l e => ?_, fun cs e => ?_⟩, h, fun b k hb => hb, rfl, rfl⟩
              · have hpt : ∃ ad, tmOf a at_ = .pointer (some ad) := by
                  have hv := h.env.v at_
                  revert hl hv
                  generalize st.get at_ = q
                  intro hl hv
                  cases q with
                  | ptr b o =>
                    revert hv; generalize tmOf a at_ = z; intro hv
                    cases hv with
                    | ptr _ _ _ k hk => exact ⟨_, rfl⟩
                  | vptr cs o =>
                    revert hv; generalize tmOf a at_ = z; intro hv
                    cases hv with
                    | vptr _ _ b o' _ us hU hw h1 hvs => exact ⟨_, rfl⟩
                  | _ => simp [evLoad] at hl
                obtain ⟨ad, had⟩ := hpt
                have had2 : a.tmps.getD at_ Go.undef = .pointer (some ad) := had
                have k5 : (Instr.loadAt t (.pointer (some ad))).run P w = .ok u w := by
                  have : (Instr.loadAt t (tmOf a at_)).run P w = .ok u w := k4
                  rw [had] at this; exact this
                simp only [retOp, had2, asAddr, Sem.run_bind, Sem.run_pure, Result.andThen_ok]
                simpa [Instr.loadAt, Instr.sureAddr] using k5
              · have := unown_plain p3; rw [e] at this; cases this
              · have := unown_plain p3; rw [e] at this; cases this
              · have := unown_plain p3; rw [e] at this; cases this
        obtain ⟨v, G1, s1, s2, s3, s4, s5, s6, s7, s8⟩ := step
        obtain ⟨vs, G2, t1, t2, t3, t4, t5, t6, t7⟩ := evRets_run rs (i + 1) st1 G1 ps2 st2 s5 hrs
        refine ⟨v :: vs, G2, ?_, by simp [t2], ?_, t4, fun b k hb => t5 b k (s6 b k hb), t6.trans s7, t7.trans s8⟩
        · rw [List.mapM_cons]
          simp only [Sem.run_bind, s1, Result.andThen_ok, t1, Sem.run_pure]
        · intro j p' v' hp hv
          cases j with
          | zero =>
            obtain rfl : p = p' := by simpa using hp
            obtain rfl : v = v' := by simpa using hv
            refine ⟨by rw [t6, t7]; exact s2, fun xs e => ?_, s4⟩
            have ho := s3 xs e
            exact OwnedAt.to ho t6 (fun b hb => t5 b i hb)
          | succ j =>
            have := t3 j p' v' (by simpa using hp) (by simpa using hv)
            rw [show i + (j + 1) = i + 1 + j by omega]; exact this
    · cases he
theorem fitsAll_mem : ∀ {σ : List (List PV)}, fitsAll N σ = true → ∀ cs ∈ σ, PV.fitsL N cs = true
  | [], _, cs, h => by simp at h
  | c :: r, h, cs, hm => by
    simp only [fitsAll, Bool.and_eq_true] at h
    rcases List.mem_cons.1 hm with rfl | hm
    · exact h.1
    · exact fitsAll_mem h.2 cs hm
theorem StoreOk.take {σ : List (List PV)} (h : StoreOk w G σ) (hfit : fitsAll N (σ.take N) = true) : StoreOk w { G with φ := G.φ.take N } (σ.take N) := by
  refine ⟨by simp [h.len], List.Nodup.sublist (List.take_sublist _ _) h.nodup, fun k b cs h1 h2 => ?_, h.ub, fun b hb => ⟨(h.ob b hb).1, fun hm => (h.ob b hb).2 (List.mem_of_mem_take hm)⟩⟩
  have hcs := fitsAll_mem hfit cs (List.mem_of_getElem? h2)
  have hkN : k < N := by
    have := (List.getElem?_eq_some_iff.1 h1).1
    simp at this; omega
  have h1' : G.φ[k]? = some b := by have : (G.φ.take N)[k]? = some b := h1; rw [List.getElem?_take, if_pos hkN] at this; exact this
  have h2' : σ[k]? = some cs := by rw [List.getElem?_take, if_pos hkN] at h2; exact h2
  obtain ⟨⟨T, arr, h3, h4, h5⟩, h6⟩ := h.blk k b cs h1' h2'
  refine ⟨⟨T, arr, h3, h4, fun j c hc => ?_⟩, h6⟩
  obtain ⟨v, h7, h8, h9, h10⟩ := h5 j c hc
  have hjl := List.getElem?_eq_some_iff.1 hc
  refine ⟨v, h7, h8, h9.fits (by rw [← hjl.2]; exact fitsL_get hcs j hjl.1), ?_⟩
  unfold TagOk at h10 ⊢
  split
  · exact OwnedAt.to h10 rfl (fun b hb => hb)
  · trivial
theorem Ext.take (h : Ext w0 G0 w G) (hN : G0.φ.length = N) : Ext w0 G0 w { G with φ := G.φ.take N } := by
  refine ⟨h.os, h.tape, h.output, h.size, h.frame, h.cells, h.newU, h.newΩ, [], ?_, by simp⟩
  obtain ⟨ψ, hφ, _⟩ := h.phi
  show G.φ.take N = G0.φ ++ []
  rw [hφ, ← hN]; simp
/-- At a function's end. -/
theorem end_ok {x : AEnd} {e : Ending} {σ : List (List PV)} {p : PV} {Q : AEnd → List (List PV) → Prop} (hx : Ext w0 G0 w G) (hs : StoreOk w G σ) (hN : G0.φ.length = N) (hq : Q x (trunc N p σ)) (hend : EndOk w G x e) (hp : ∀ r, x = .ret r → r = p) :
    ∃ x σ' G', Q x σ' ∧ EndOk w G' x e ∧ StoreOk w G' σ' ∧ Ext w0 G0 w G' := by
  unfold trunc at hq
  split at hq
  · rename_i hf
    simp only [Bool.and_eq_true] at hf
    refine ⟨x, _, { G with φ := G.φ.take N }, hq, ?_, hs.take hf.2, hx.take hN⟩
    cases x with
    | ret r =>
      obtain ⟨v, h1, h2, h3⟩ := hend
      obtain rfl := hp r rfl
      refine ⟨v, h1, h2.fits hf.1, ?_⟩
      unfold RetTag at h3 ⊢
      split
      · exact OwnedAt.to h3 rfl (fun b hb => hb)
      · exact h3
      · intro i xs hi
        obtain ⟨arr, u, k1, k2, k3⟩ := h3 i xs hi
        exact ⟨arr, u, k1, k2, k3.to rfl (fun b hb => hb)⟩
      · trivial
    | pan c => exact hend
  · exact ⟨x, σ, G, hq, hend, hs, hx⟩
theorem results_run {fn : Func} {vs : List Value} (h : (fn.results.toList.mapM (retOp a.tmps)).run P w = .ok vs w) : (results fn a.tmps).run P w = .ok (if hs : vs.length = 1 then vs[0] else .tuple vs.toArray) w := by
  have e : results fn a.tmps = (do
      let vs ← fn.results.mapM (retOp a.tmps)
      pure (if h : vs.size = 1 then vs[0] else .tuple vs)) := rfl
  rw [e, Array.mapM_eq_mapM_toList]
  simp [h]
theorem getE_zip : ∀ (args : List PV) (k t : Nat), getE ((args.zipIdx k).map fun x => (x.2, unown x.1)) t = if k ≤ t then (match args[t - k]? with | some p => unown p | none => .undef) else .undef
  | [], k, t => by simp [getE]
  | p :: args, k, t => by
    rw [List.zipIdx_cons, List.map_cons]
    show (if k = t then unown p else getE ((args.zipIdx (k + 1)).map fun x => (x.2, unown x.1)) t) = _
    rw [getE_zip args (k + 1) t]
    by_cases e : k = t
    · subst e; simp
    · rw [if_neg e]
      by_cases h : k ≤ t
      · rw [if_pos h, if_pos (by omega)]
        have : t - k = (t - (k + 1)) + 1 := by omega
        rw [this, List.getElem?_cons_succ]
      · rw [if_neg h, if_neg (by omega)]
/-- A function does what its code does. -/
theorem VC.intro {f : FuncId} {fn : Func} {c : Code} {args : List PV} {σ : List (List PV)} {Q : AEnd → List (List PV) → Prop} (L : Cf) (hf : P.funcs[f]? = some fn) (hb : fn.body = some c) (hm : P.follows .mixedOrders = true) (hok : okCode L.pl fn.ntmps c = true) (hn : args.length ≤ fn.ntmps)
    (h : W P L σ.length c (retK P fn σ.length Q) (argSt args σ)) : VC P f args σ Q := by
  intro w G vs hs hvs hv hΩ hgl
  refine calls_of_wp hf hb ?_
  have hsz : (vs ++ Array.replicate (fn.ntmps - vs.size) Go.undef).size = fn.ntmps := by simp; omega
  have hget : ∀ t, (argSt args σ).get t = match args[t]? with | some p => unown p | none => .undef := by
    intro t
    show getE (args.zipIdx.map fun x => (x.2, unown x.1)) t = _
    rw [getE_zip args 0 t]; simp
  have hinv : Inv w G (argSt args σ) (tmOf { tmps := vs ++ Array.replicate (fn.ntmps - vs.size) Go.undef, defers := [] }) w G := by
    refine ⟨Ext.refl _ _, hs, ⟨fun t => ?_, fun t => ?_⟩⟩
    · rw [hget]
      cases e : args[t]? with
      | none => exact .undef _ _
      | some p =>
        have ht := List.getElem?_eq_some_iff.1 e
        have := hv t ht.1
        rw [ht.2] at this
        have e2 : tmOf { tmps := vs ++ Array.replicate (fn.ntmps - vs.size) Go.undef, defers := [] } t = vs.getD t Go.undef := by
          show (vs ++ _).getD t Go.undef = _
          rw [Array.getD_eq_getD_getElem?, Array.getElem?_append_left (by rw [hvs]; exact ht.1), Array.getD_eq_getD_getElem?]
        rw [e2]; exact V_unown this
    · rw [hget]
      cases e : args[t]? with
      | none => trivial
      | some p => exact plain_tag (unown_plain p) _ _ _ _
  have hN : G.φ.length = σ.length := hs.len
  refine wp_mono (W_sound hgl hm (Nat.le_of_eq hN) c _ _ _ w G hok hinv rfl hsz h) fun e a w' hp => ?_
  have ret : ∀ (a : Act) (st : St) (G' : Gh), Inv w G st (tmOf a) w' G' → (match evRets P fn.results.toList st with | some (c, ps, st') => c = true ∧ Q (.ret (mkRet ps)) (trunc σ.length (mkRet ps) st'.σ) | none => False) →
      ∃ v, (results fn a.tmps).run P w' = .ok v w' ∧ ∃ x σ' G', Q x σ' ∧ EndOk w' G' x (.returned v) ∧ StoreOk w' G' σ' ∧ Ext w G w' G' := by
    intro a st G' hI hq
    split at hq
    · rename_i c ps st' hr
      obtain ⟨rfl, hq⟩ := hq
      obtain ⟨us, G2, k1, k2, k3, k4, _, _, _⟩ := evRets_run (a := a) fn.results.toList 0 st G' ps st' hI hr
      refine ⟨_, results_run k1, end_ok (p := mkRet ps) k4.ext k4.store hN hq ?_ (fun r e => by cases e; rfl)⟩
      match ps, us, k2, k3 with
      | [p], [u], _, k3 =>
        obtain ⟨h1, h2, h3⟩ := k3 0 p u rfl rfl
        refine ⟨u, rfl, h1, ?_⟩
        show RetTag w' G2 p u
        unfold RetTag
        split
        · exact h2 _ rfl
        · exact absurd rfl (h3.1 _ _)
        · exact absurd rfl (h3.2 _)
        · trivial
      | [], [], _, k3 =>
        refine ⟨.tuple #[], rfl, .tup _ _ _ rfl (fun i hi => by simp at hi), fun i xs hi => by simp at hi⟩
      | p :: q :: ps, u :: x :: us, k2, k3 =>
        refine ⟨.tuple (u :: x :: us).toArray, rfl, .tup _ _ _ (by simp at k2; simp [k2]) (fun i hi => ?_), fun i xs hi => ?_⟩
        · have hi2 : i < (u :: x :: us).length := by rw [k2]; exact hi
          have := (k3 i _ _ (List.getElem?_eq_getElem hi) (List.getElem?_eq_getElem hi2)).1
          have e : (u :: x :: us).toArray.getD i Go.undef = (u :: x :: us)[i] := by
            rw [Array.getD_eq_getD_getElem?, List.getElem?_toArray, List.getElem?_eq_getElem hi2]; rfl
          rw [e]; exact this
        · have hi1 := (List.getElem?_eq_some_iff.1 hi).1
          have hi2 : i < (u :: x :: us).length := by rw [k2]; exact hi1
          have := (k3 i _ _ hi (List.getElem?_eq_getElem hi2)).2.1 xs rfl
          rw [Nat.zero_add] at this
          exact ⟨_, _, rfl, by rw [List.getElem?_toArray, List.getElem?_eq_getElem hi2], this⟩
    · exact hq.elim
  cases e with
  | normal =>
    obtain ⟨h1, h2, st, G', h3, h4⟩ := hp
    exact ⟨h2, ret a st G' h4 h3⟩
  | ret =>
    obtain ⟨h1, h2, st, G', h3, h4⟩ := hp
    exact ⟨h2, ret a st G' h4 h3⟩
  | exit id => obtain ⟨_, _, _, _, h3, _⟩ := hp; exact h3
  | panic c =>
    obtain ⟨h1, st, G', h2, h3, h4⟩ := hp
    exact ⟨h1, end_ok (p := .undef) h3 h4 hN h2 rfl (fun r e => by cases e)⟩
  | goto l => exact hp
  | outgrown => exact hp.elim
end
end Go.Vl
namespace Go.Vl
open Go Go.RowKit
inductive TI where
  | code (c : Code)
  | blk (id : Nat)
  | lp (I : Nat → St → Prop) (m : Nat)
def KT (P : Program) (L : Cf) (N : Nat) : List TI → (AX → St → Prop) → AX → St → Prop
  | [], Q, x, st => Q x st
  | .code c :: k, Q, x, st => match x with
    | .normal => W P L N c (KT P L N k Q) st
    | x => KT P L N k Q x st
  | .blk id :: k, Q, x, st => match x with
    | .exit i => if i = id then KT P L N k Q .normal st else KT P L N k Q (.exit i) st
    | x => KT P L N k Q x st
  | .lp I m :: k, Q, x, st => match x with
    | .normal => ∃ m' st2, Wk N st st2 ∧ I m' st2 ∧ m' < m
    | x => KT P L N k Q x st
/-- What is left to do leads to Q. -/
def WS (P : Program) (L : Cf) (N : Nat) (k : List TI) (Q : AX → St → Prop) (st : St) : Prop := KT P L N k Q .normal st
/-- Where a jump leads. -/
def popTo (id : Nat) : List TI → Option (List TI)
  | [] => none
  | .blk i :: k => if i = id then some k else popTo id k
  | _ :: k => popTo id k
section
variable {P : Program} {L : Cf} {N : Nat} {k k' : List TI} {Q : AX → St → Prop} {st : St} {a b : Code} {id : Nat}
theorem WS_of (h : WS P L N [.code a] Q st) : W P L N a Q st := h
theorem WS_nil (h : Q .normal st) : WS P L N [] Q st := h
theorem WS_skip (h : WS P L N k Q st) : WS P L N (.code .skip :: k) Q st := h
theorem WS_label {l : Nat} (h : WS P L N k Q st) : WS P L N (.code (.label l) :: k) Q st := h
theorem WS_blk (h : WS P L N k Q st) : WS P L N (.blk id :: k) Q st := h
theorem WS_seq (h : WS P L N (.code a :: .code b :: k) Q st) : WS P L N (.code (.seq a b) :: k) Q st := by
  show W P L N a (fun x st' => match x with | .normal => W P L N b (KT P L N k Q) st' | x => KT P L N k Q x st') st
  have e : (fun x st' => match x with | .normal => W P L N b (KT P L N k Q) st' | x => KT P L N k Q x st') = KT P L N (.code b :: k) Q := by
    funext x st'; cases x <;> rfl
  rw [e]; exact h
theorem WS_block (h : WS P L N (.code b :: .blk id :: k) Q st) : WS P L N (.code (.block id b) :: k) Q st := by
  show W P L N b (fun x st' => match x with | .exit i => if i = id then KT P L N k Q .normal st' else KT P L N k Q (.exit i) st' | x => KT P L N k Q x st') st
  have e : (fun x st' => match x with | .exit i => if i = id then KT P L N k Q .normal st' else KT P L N k Q (.exit i) st' | x => KT P L N k Q x st') = KT P L N (.blk id :: k) Q := by
    funext x st'; cases x <;> rfl
  rw [e]; exact h
theorem WS_cond {c : Operand} {t : Bool} (hc : opd st c = .lit (.bool t)) (ht : t = true → WS P L N (.code a :: k) Q st) (hf : t = false → WS P L N (.code b :: k) Q st) : WS P L N (.code (.cond c a b) :: k) Q st := by
  show W P L N (.cond c a b) (KT P L N k Q) st
  unfold W
  rw [hc]
  cases t with
  | true => simp only [if_true]; exact ht rfl
  | false => simp only [Bool.false_eq_true, if_false]; exact hf rfl
theorem WS_true {c : Operand} (hc : opd st c = .lit (.bool true)) (h : WS P L N (.code a :: k) Q st) : WS P L N (.code (.cond c a b) :: k) Q st := WS_cond hc (fun _ => h) (fun e => by cases e)
theorem WS_false {c : Operand} (hc : opd st c = .lit (.bool false)) (h : WS P L N (.code b :: k) Q st) : WS P L N (.code (.cond c a b) :: k) Q st := WS_cond hc (fun e => by cases e) (fun _ => h)
theorem KT_exit : ∀ (k : List TI), KT P L N k Q (.exit id) st = match popTo id k with | some k' => WS P L N k' Q st | none => Q (.exit id) st
  | [] => rfl
  | .code _ :: k => KT_exit k
  | .lp _ _ :: k => KT_exit k
  | .blk i :: k => by
    show (if id = i then KT P L N k Q .normal st else KT P L N k Q (.exit id) st) = _
    rw [KT_exit k]
    show _ = match (if i = id then some k else popTo id k) with | some k' => WS P L N k' Q st | none => Q (.exit id) st
    by_cases e : i = id
    · subst e; rw [if_pos rfl, if_pos rfl]; rfl
    · rw [if_neg (fun e2 => e e2.symm), if_neg e]
theorem WS_exit (hp : popTo id k = some k') (h : WS P L N k' Q st) : WS P L N (.code (.exit id) :: k) Q st := by
  show KT P L N k Q (.exit id) st
  rw [KT_exit, hp]; exact h
theorem KT_ret : ∀ (k : List TI), KT P L N k Q .ret st = Q .ret st
  | [] => rfl
  | .code _ :: k => KT_ret k
  | .lp _ _ :: k => KT_ret k
  | .blk _ :: k => KT_ret k
theorem WS_ret (h : Q .ret st) : WS P L N (.code .ret :: k) Q st := by
  show KT P L N k Q .ret st
  rw [KT_ret]; exact h
theorem KT_pan (c : List PanicEntry) : ∀ (k : List TI), KT P L N k Q (.pan c) st = Q (.pan c) st
  | [] => rfl
  | .code _ :: k => KT_pan c k
  | .lp _ _ :: k => KT_pan c k
  | .blk _ :: k => KT_pan c k
/-- A statement: K' is what is left behind it. -/
theorem WS_region {i : Nat} {ops : Array Oper} {d : Bool} (hn : planOf L.pl i = none) (h : ∀ K' : AX → St → Prop, (∀ st1 st2, clr L.L st1 = st2 → WS P L N k Q st2 → K' .normal st1) → (∀ c st1, Q (.pan c) st1 → K' (.pan c) st1) → evOps P ops K' ops.toList st) :
    WS P L N (.code (.region i ops d) :: k) Q st := by
  show W P L N (.region i ops d) (KT P L N k Q) st
  unfold W
  rw [hn]
  refine h (fun x st' => KT P L N k Q x (match x with | .normal => clr L.L st' | _ => st')) (fun st1 st2 e h2 => ?_) (fun c st1 h2 => ?_)
  · subst e; exact h2
  · show KT P L N k Q (.pan c) st1
    rw [KT_pan]; exact h2
/-- A statement, in another order. -/
theorem WS_plan {i : Nat} {ops : Array Oper} {d : Bool} {t : List Nat} (hn : planOf L.pl i = some t) (h : ∀ K' : AX → St → Prop, (∀ st1 st2, clr L.L st1 = st2 → WS P L N k Q st2 → K' .normal st1) → (∀ c st1, Q (.pan c) st1 → K' (.pan c) st1) → evOpsT P ops K' t st) :
    WS P L N (.code (.region i ops d) :: k) Q st := by
  show W P L N (.region i ops d) (KT P L N k Q) st
  unfold W
  rw [hn]
  refine h (fun x st' => KT P L N k Q x (match x with | .normal => clr L.L st' | _ => st')) (fun st1 st2 e h2 => ?_) (fun c st1 h2 => ?_)
  · subst e; exact h2
  · show KT P L N k Q (.pan c) st1
    rw [KT_pan]; exact h2
theorem evOps_mono {ops : Array Oper} {K K' : AX → St → Prop} (hk : ∀ x st, K x st → K' x st) : ∀ (l : List Oper) (st : St), evOps P ops K l st → evOps P ops K' l st
  | [], st, h => hk _ _ h
  | o :: rest, st, h => by
    unfold evOps at h ⊢
    split at h
    · exact h.elim
    · exact evOps_mono hk rest _ h
    · split at h
      · exact ⟨h.1, evOps_mono hk rest _ h.2⟩
      · split at h
        · refine h.mono fun x σ' hx => ?_
          cases x with
          | ret r => exact evOps_mono hk rest _ hx
          | pan c => exact hk _ _ hx
        · exact h.elim
theorem evOpsT_mono {ops : Array Oper} {K K' : AX → St → Prop} (hk : ∀ x st, K x st → K' x st) : ∀ (l : List Nat) (st : St), evOpsT P ops K l st → evOpsT P ops K' l st
  | [], st, h => hk _ _ h
  | i :: rest, st, h => by
    unfold evOpsT at h ⊢
    split at h
    · exact h.elim
    · split at h
      · exact h.elim
      · exact evOpsT_mono hk rest _ h
      · split at h
        · exact ⟨h.1, evOpsT_mono hk rest _ h.2⟩
        · split at h
          · split at h
            · rename_i hn
              rw [if_pos hn]
              refine ⟨h.1, h.2.mono fun x σ' hx => ?_⟩
              cases x with
              | ret r => exact evOpsT_mono hk rest _ hx
              | pan c => exact hk _ _ hx
            · rename_i hn
              rw [if_neg hn]
              refine h.mono fun x σ' hx => ?_
              cases x with
              | ret r => exact evOpsT_mono hk rest _ hx
              | pan c => exact hk _ _ hx
          · exact h.elim
theorem W_mono0 : ∀ (c : Code) {K K' : AX → St → Prop}, (∀ x st, K x st → K' x st) → ∀ (st : St), W P L N c K st → W P L N c K' st := by
  intro c
  induction c with
  | skip => intro K K' hk st h; exact hk _ _ h
  | label l => intro K K' hk st h; exact hk _ _ h
  | exit id => intro K K' hk st h; exact hk _ _ h
  | ret => intro K K' hk st h; exact hk _ _ h
  | region id ops d =>
    intro K K' hk st h
    unfold W at h ⊢
    split at h
    · exact evOps_mono (fun x st h => hk _ _ h) _ _ h
    · exact evOpsT_mono (fun x st h => hk _ _ h) _ _ h
  | seq x y ihx ihy =>
    intro K K' hk st h
    refine ihx (fun x st h => ?_) st h
    cases x with
    | normal => exact ihy hk st h
    | _ => exact hk _ _ h
  | cond c x y ihx ihy =>
    intro K K' hk st h
    unfold W at h ⊢
    split at h
    · rename_i t _
      cases t with
      | true => simp only [if_true] at h ⊢; exact ihx hk st h
      | false => simp only [Bool.false_eq_true, if_false] at h ⊢; exact ihy hk st h
    · exact h
  | block id b ih =>
    intro K K' hk st h
    refine ih (fun x st h => ?_) st h
    cases x with
    | exit i =>
      have h5 : (if i = id then K .normal st else K (.exit i) st) := h
      show (if i = id then K' .normal st else K' (.exit i) st)
      by_cases e : i = id
      · rw [if_pos e] at h5 ⊢; exact hk _ _ h5
      · rw [if_neg e] at h5 ⊢; exact hk _ _ h5
    | _ => exact hk _ _ h
  | loop b ih =>
    intro K K' hk st h
    obtain ⟨I, h1, h2⟩ := h
    refine ⟨I, h1, fun m st1 hI => ih (fun x st h => ?_) st1 (h2 m st1 hI)⟩
    cases x with
    | normal => exact h
    | _ => exact hk _ _ h
  | _ => intro K K' hk st h; exact h.elim
/-- A loop. -/
theorem WS_loop {I : Nat → St → Prop} {m : Nat} {st0 : St} (hw : Wk N st st0) (h0 : I m st0) (hr : ∀ m st1, I m st1 → WS P L N (.code b :: .lp I m :: k) Q st1) : WS P L N (.code (.loop b) :: k) Q st := by
  show W P L N (.loop b) (KT P L N k Q) st
  refine ⟨I, ⟨m, st0, hw, h0⟩, fun m st1 h1 => ?_⟩
  have e : (fun x st' => match x with | .normal => ∃ m' st2, Wk N st' st2 ∧ I m' st2 ∧ m' < m | x => KT P L N k Q x st') = KT P L N (.lp I m :: k) Q := by
    funext x st'; cases x <;> rfl
  have := hr m st1 h1
  show W P L N b (fun x st' => match x with | .normal => ∃ m' st2, Wk N st' st2 ∧ I m' st2 ∧ m' < m | x => KT P L N k Q x st') st1
  rw [e]; exact this
theorem WS_round {I : Nat → St → Prop} {m m' : Nat} {st2 : St} (hw : Wk N st st2) (h : I m' st2) (hm : m' < m) : WS P L N (.lp I m :: k) Q st := ⟨m', st2, hw, h, hm⟩
def viewB (c : Nat) : PV → Bool
  | .sl _ (.view (.cell k _)) => decide (k < c)
  | _ => true
/-- Only the temporaries M matter, and the first c places. -/
def low (M : List Nat) (c : Nat) (st : St) : St :=
  if (clr M st).env.all (fun x => x.2.fits c && viewB c x.2) && fitsAll c (st.σ.take c) then { clr M st with σ := st.σ.take c } else clr M st
theorem getE_all {p : PV → Bool} (hu : p .undef = true) : ∀ (l : List (Nat × PV)), l.all (fun x => p x.2) = true → ∀ t, p (getE l t) = true
  | [], _, t => hu
  | (k, v) :: r, h, t => by
    simp only [List.all_cons, Bool.and_eq_true] at h
    show p (if k = t then v else getE r t) = true
    split
    · exact h.1
    · exact getE_all hu r h.2 t
theorem Wk.low {M : List Nat} {c : Nat} (hc : N ≤ c) : Wk N st (Vl.low M c st) := by
  intro w0 G0 tm w G hN h
  unfold Vl.low
  split
  · rename_i hf
    simp only [Bool.and_eq_true] at hf
    have h1 := h.clr M
    have hall : ∀ t, (((Vl.clr M st).get t).fits c && viewB c ((Vl.clr M st).get t)) = true := getE_all (p := fun q => q.fits c && viewB c q) rfl _ hf.1
    refine ⟨{ G with φ := G.φ.take c }, ?_, h1.store.take hf.2, ⟨fun t => ?_, fun t => ?_⟩⟩
    · have hx := h1.ext
      refine ⟨hx.os, hx.tape, hx.output, hx.size, hx.frame, hx.cells, hx.newU, hx.newΩ, ?_⟩
      obtain ⟨ψ, hφ, hψ⟩ := hx.phi
      refine ⟨ψ.take (c - G0.φ.length), ?_, fun b hb => hψ b (List.mem_of_mem_take hb)⟩
      show G.φ.take c = _
      rw [hφ, List.take_append, List.take_of_length_le (by omega)]
    · have := hall t
      simp only [Bool.and_eq_true] at this
      exact (h1.env.v t).fits this.1
    · have ha := hall t
      have ht := h1.env.tag t
      show TmpTag w { G with φ := G.φ.take c } { Vl.clr M st with σ := st.σ.take c } tm t ((Vl.clr M st).get t) (tm t)
      revert ha ht
      generalize (Vl.clr M st).get t = q
      intro ha ht
      cases q with
      | sl xs g =>
        cases g with
        | own => exact OwnedAt.to ht rfl (fun b hb => hb)
        | view m =>
          cases m with
          | tmp s => exact ht
          | cell k j =>
            obtain ⟨cs, b, h2, h3, h4, h5⟩ := ht
            have hk : k < c := by simpa [viewB, PV.fits] using ha
            exact ⟨cs, b, by show (st.σ.take c)[k]? = _; rw [List.getElem?_take, if_pos hk]; exact h2, h3, by show (G.φ.take c)[k]? = _; rw [List.getElem?_take, if_pos hk]; exact h4, h5⟩
          | _ => exact ht
        | _ => trivial
      | tup cs =>
        intro i xs hi
        obtain ⟨arr, u, k1, k2, k3⟩ := ht i xs hi
        exact ⟨arr, u, k1, k2, OwnedAt.to k3 rfl (fun b hb => hb)⟩
      | _ => trivial
  · exact ⟨G, h.clr M⟩
/-- The loop's states S a; only the temporaries M and the first c places matter. -/
def lpOf {A : Type} (M : List Nat) (c : Nat) (p : A → Prop) (μ : A → Nat) (S : A → St) (m : Nat) (st : St) : Prop := ∃ a, p a ∧ μ a = m ∧ low M c st = S a
theorem WS_for {A : Type} (M : List Nat) (c : Nat) (p : A → Prop) (μ : A → Nat) (S : A → St) (a0 : A) (hc : N ≤ c) (e0 : low M c st = S a0) (h0 : p a0)
    (hr : ∀ a, p a → WS P L N (.code b :: .lp (lpOf M c p μ S) (μ a) :: k) Q (S a)) : WS P L N (.code (.loop b) :: k) Q st := by
  refine WS_loop (I := fun m st => ∃ a, p a ∧ μ a = m ∧ st = S a) (m := μ a0) (Wk.low (M := M) hc) ⟨a0, h0, rfl, e0⟩ ?_
  rintro m _ ⟨a, h1, rfl, rfl⟩
  have key : ∀ (I J : Nat → St → Prop), (∀ m st, J m st → ∃ st2, Wk N st st2 ∧ I m st2) → ∀ (c : Code) (st : St), WS P L N (.code c :: .lp J (μ a) :: k) Q st → WS P L N (.code c :: .lp I (μ a) :: k) Q st := by
    intro I J hJ c st h
    refine W_mono0 c (fun x st h => ?_) st h
    cases x with
    | normal =>
      obtain ⟨m', st2, h2, h3, h4⟩ := h
      obtain ⟨st3, h5, h6⟩ := hJ m' st2 h3
      exact ⟨m', st3, h2.trans h5, h6, h4⟩
    | _ => exact h
  refine key _ _ (fun m st h => ?_) b _ (hr a h1)
  obtain ⟨a', h2, h3, h4⟩ := h
  exact ⟨_, Wk.low (M := M) hc, a', h2, h3, h4⟩
theorem WS_again {A : Type} {M : List Nat} {c : Nat} {p : A → Prop} {μ : A → Nat} {S : A → St} {m : Nat} (a : A) (e : low M c st = S a) (h : p a) (hm : μ a < m) : WS P L N (.lp (lpOf M c p μ S) m :: k) Q st := ⟨μ a, st, Wk.refl N st, ⟨a, h, rfl, e⟩, hm⟩
/-- Ways that meet: J holds behind a. -/
theorem WS_cut (J : St → Prop) (h1 : WS P L N [.code a] (fun x st' => match x with | .normal => J st' | x => KT P L N k Q x st') st) (h2 : ∀ st', J st' → WS P L N k Q st') : WS P L N (.code a :: k) Q st := by
  refine W_mono0 a (fun x st' h => ?_) st h1
  cases x with
  | normal => exact h2 st' h
  | _ => exact h
end
end Go.Vl
namespace Go.Vl
open Go Go.RowKit
attribute [go_sem] evOps evOpsT evGuard evOp clsOf evLoud evQuiet evMove evAssign evTupMove evExtract evVal evBuiltin evBin evInt evStr evUn evConv evLoad evFieldAddr evIndexAddr evIndex evField evSlice bdP evLen evMin minI evBuild fillP evAlloc evBox ownTmp evStore splice evAppend evAppBase evAppSrc evBuildSlice rowOf okRow evCall evEq evNil eqNe isK eqC eqCs opd absC St.get getE St.put St.aft St.stripC stripC stripCells isOwn strip1 stripE unown partV partP rdAt ownNil cellsP isCell isAggP Value.oneCell' List.map argSt clr keepV
attribute [go_sem] true_and and_true if_true if_false Bool.false_eq_true Option.map_some Option.some.injEq Nat.reduceAdd Nat.reduceEqDiff reduceCtorEq List.zipIdx
attribute [go_sem] retK evRets evRet takeRet mkRet trunc PV.fits PV.fitsL fitsAll low viewB
attribute [go_sem] Bool.or_true Bool.or_false Bool.true_or Bool.false_or Int.toNat_natCast List.cons_append List.nil_append List.append_nil beq_true beq_false beq_self_eq_true List.getElem?_toArray Option.bind_some Option.bind_none List.getElem?_cons_zero List.getElem?_cons_succ List.getD_cons_zero List.getD_cons_succ List.length_cons List.length_nil List.take_succ_cons List.drop_succ_cons List.take_zero List.drop_zero List.set_cons_zero List.set_cons_succ List.map_cons List.map_nil decide_true decide_false
attribute [go_sem] Nat.reduceLeDiff Nat.reduceSub Nat.reduceMul Loc.tmp.injEq Loc.cell.injEq Nat.reduceEqDiff decide_eq_true_eq Option.map_none Bool.not_true Bool.not_false Bool.and_true Bool.true_and Bool.and_false Bool.false_and Int.reduceLE Int.reduceLT Int.reduceEq Nat.reduceLT
attribute [go_sem] PV.shift PV.shiftL noview
end Go.Vl
namespace Go.Vl
open Go Go.RowKit
section
variable {w w' : World} {G : Gh} {P : Program} {f : FuncId} {σ : List (List PV)}
theorem Below.cellU (h : Below w.heap.size w w') {b i : Nat} (hb : b < w.heap.size) : w'.cell? ⟨b, i, none⟩ = w.cell? ⟨b, i, none⟩ := h.cell hb
theorem StoreOk.below {U' : Nat → Nat → Prop} (h : StoreOk w G σ) (hb : Below w.heap.size w w') (hU : ∀ b i, U' b i → G.U b i ∨ w.heap.size ≤ b ∧ b < w'.heap.size) (hU2 : ∀ b i, G.U b i → U' b i) : StoreOk w' { G with U := U' } σ := by
  have hsz := hb.size
  refine ⟨h.len, h.nodup, fun k b cs h1 h2 => ?_, fun b i hu => ?_, fun b hB => ?_⟩
  · obtain ⟨⟨T, arr, h3, h4, h5⟩, h6⟩ := h.blk k b cs h1 h2
    have hlt : b < w.heap.size := (Array.getElem?_eq_some_iff.1 h3).1
    refine ⟨⟨T, arr, (hb.block b hlt).trans h3, h4, fun j c hc => ?_⟩, fun i hu => ?_⟩
    · obtain ⟨v, h7, h8, h9, h10⟩ := h5 j c hc
      refine ⟨v, h7, h8, h9.mono (fun b i hu => ⟨hU2 b i hu, hb.cell (h.ub b i hu)⟩) (fun _ _ h => h), ?_⟩
      unfold TagOk at h10 ⊢
      split
      · refine OwnedAt.keep h10 fun b2 hb2 => ?_
        have hlt2 := (h.ob b2 (by rw [hb2]; simp)).1
        refine ⟨hb2, hb.block b2 hlt2, fun i hu => ?_⟩
        rcases hU b2 i hu with h | h
        · exact h
        · omega
      · trivial
    · rcases hU b i hu with h | h
      · exact h6 i h
      · omega
  · rcases hU b i hu with h1 | h1
    · exact Nat.lt_of_lt_of_le (h.ub b i h1) hsz
    · exact h1.2
  · have := h.ob b hB
    exact ⟨Nat.lt_of_lt_of_le this.1 hsz, this.2⟩
theorem Ext.ofBelow {U' : Nat → Nat → Prop} (h : StoreOk w G σ) (hb : Below w.heap.size w w') (hU : ∀ b i, U' b i → G.U b i ∨ w.heap.size ≤ b ∧ b < w'.heap.size) (hU2 : ∀ b i, G.U b i → U' b i) : Ext w G w' { G with U := U' } := by
  refine ⟨hb.os, hb.tape, hb.output, hb.size, fun k hk _ _ => hb.block k hk, fun b i hu => ⟨hU2 b i hu, hb.cell (h.ub b i hu)⟩, fun b i hu => ?_, fun b hB => .inr hB, [], by simp, by simp⟩
  rcases hU b i hu with h | h
  · exact .inl h
  · exact .inr (.inl h.1)
theorem lits_args {ls : List Value} {vs : Array Value} {U : Nat → Nat → Prop} {φ : List Nat} (hvs : vs.size = (ls.map PV.lit).length) (hv : ∀ i (h : i < (ls.map PV.lit).length), V w U φ (ls.map PV.lit)[i] (vs.getD i Go.undef)) : vs = ls.toArray := by
  apply Array.ext
  · simpa using hvs
  · intro i h1 h2
    have := hv i (by rw [← hvs]; exact h1)
    rw [List.getElem_map] at this
    have e : vs.getD i Go.undef = vs[i] := by simp [h1]
    rw [e] at this
    have key : ∀ {p : PV} {a b : Value}, V w U φ p b → p = .lit a → b = a := fun h e => by
      cases h with
      | lit _ _ => injection e
      | _ => cases e
    rw [key this rfl]; simp
/-- A call of literals that answers by a literal. -/
theorem VC.lits (ls : List Value) (r : Value) (h : ∀ w, glbP w → Calls P f ls.toArray w fun e w' => e = .returned r ∧ Below w.heap.size w w') : VC P f (ls.map .lit) σ fun x σ' => x = .ret (.lit r) ∧ σ' = σ := by
  intro w G vs hs hvs hv _ hgl
  rw [lits_args hvs hv]
  refine (h w hgl.1).mono fun e w' ⟨he, hb⟩ => ?_
  exact ⟨_, _, { G with U := G.U }, ⟨rfl, rfl⟩, ⟨r, he, .lit _ _, trivial⟩, hs.below hb (fun _ _ h => .inl h) (fun _ _ h => h), Ext.ofBelow hs hb (fun _ _ h => .inl h) (fun _ _ h => h)⟩
/-- A call of literals that answers by a number and an error. -/
theorem VC.litErr (ls : List Value) (r : Value) (h : ∀ w, glbP w → Calls P f ls.toArray w fun e w' => (∃ t v, e = .returned (.tuple #[r, .iface t v])) ∧ Below w.heap.size w w') : VC P f (ls.map .lit) σ fun x σ' => x = .ret (.tup [.lit r, .ifc]) ∧ σ' = σ := by
  intro w G vs hs hvs hv _ hgl
  rw [lits_args hvs hv]
  refine (h w hgl.1).mono fun e w' ⟨⟨t, v, he⟩, hb⟩ => ?_
  refine ⟨_, _, { G with U := G.U }, ⟨rfl, rfl⟩, ⟨_, he, .tup _ _ _ rfl fun i hi => ?_, fun i xs hi => ?_⟩, hs.below hb (fun _ _ h => .inl h) (fun _ _ h => h), Ext.ofBelow hs hb (fun _ _ h => .inl h) (fun _ _ h => h)⟩
  · match i, hi with
    | 0, _ => exact .lit _ _
    | 1, _ => exact .ifc _ _ _
  · match i with
    | 0 => cases hi
    | 1 => cases hi
    | i + 2 => simp at hi
theorem VC.litNil (ls : List Value) (r : Value) (h : ∀ w, glbP w → Calls P f ls.toArray w fun e w' => e = .returned (.tuple #[r, .nilIface]) ∧ Below w.heap.size w w') : VC P f (ls.map .lit) σ fun x σ' => x = .ret (.tup [.lit r, .lit .nilIface]) ∧ σ' = σ := by
  intro w G vs hs hvs hv _ hgl
  rw [lits_args hvs hv]
  refine (h w hgl.1).mono fun e w' ⟨he, hb⟩ => ?_
  refine ⟨_, _, { G with U := G.U }, ⟨rfl, rfl⟩, ⟨_, he, .tup _ _ _ rfl fun i hi => ?_, fun i xs hi => ?_⟩, hs.below hb (fun _ _ h => .inl h) (fun _ _ h => h), Ext.ofBelow hs hb (fun _ _ h => .inl h) (fun _ _ h => h)⟩
  · match i, hi with
    | 0, _ => exact .lit _ _
    | 1, _ => exact .lit _ _
  · match i with
    | 0 => cases hi
    | 1 => cases hi
    | i + 2 => simp at hi
/-- A call of literals that answers by a list of literals in new memory. -/
theorem VC.freshSl (ls us : List Value) (T : TypeId) (h1 : ∀ v ∈ us, v.oneCell' = true) (hmax : us.length ≤ 9223372036854775807)
    (h : ∀ w, glbP w → Calls P f ls.toArray w fun e w' => e = .returned (.slice (some ⟨w.heap.size, 0, none⟩) us.length us.length) ∧ w' = w.alloc (.cells us.toArray T)) :
    VC P f (ls.map .lit) σ fun x σ' => x = .ret (.sl (us.map fun v => [.lit v]) .full) ∧ σ' = σ := by
  intro w G vs hs hvs hv _ hgl
  rw [lits_args hvs hv]
  refine (h w hgl.1).mono fun e w' ⟨he, hw⟩ => ?_
  subst hw
  have hb : Below w.heap.size w (w.alloc (.cells us.toArray T)) := Below.alloc (Below.refl _ _) (Nat.le_refl _) _
  have hsz : (w.alloc (.cells us.toArray T)).heap.size = w.heap.size + 1 := by simp
  have hU : ∀ b i, (G.U b i ∨ b = w.heap.size) → G.U b i ∨ w.heap.size ≤ b ∧ b < (w.alloc (.cells us.toArray T)).heap.size := fun b i h => by
    rcases h with h | h
    · exact .inl h
    · exact .inr (by omega)
  refine ⟨_, _, { G with U := fun b i => G.U b i ∨ b = w.heap.size }, ⟨rfl, rfl⟩, ⟨_, he, ?_, trivial⟩, hs.below hb hU (fun _ _ h => .inl h), Ext.ofBelow hs hb hU (fun _ _ h => .inl h)⟩
  have hl : us.length = (us.map fun v => [PV.lit v]).length := by simp
  have key := V.sl (w := w.alloc (.cells us.toArray T)) (U := fun b i => G.U b i ∨ b = w.heap.size) G.φ (us.map fun v => [PV.lit v]) .full w.heap.size 0 1 us.length (fun i _ => us.getD i Go.undef) (by simp) hmax (by simp) (fun i j _ _ => .inr rfl)
    (fun i j hi hj => by
      have hi2 : i < us.length := by simpa using hi
      have hj0 : j = 0 := by omega
      subst hj0
      have e : (w.alloc (.cells us.toArray T)).heap[w.heap.size]? = some (.cells us.toArray T (0, 0)) := by show (w.heap.push _)[w.heap.size]? = _; simp
      unfold World.cell?
      simp only [e]
      simp [hi2])
    (fun i j hi hj => by
      have hi2 : i < us.length := by simpa using hi
      have : us.getD i Go.undef = us[i] := by simp [hi2]
      rw [this]; exact h1 _ (List.getElem_mem hi2))
    (fun i hi j hj => by
      have hi2 : i < us.length := by simpa using hi
      have e1 : us.getD i Go.undef = us[i] := by simp [hi2]
      have hj0 : j = 0 := by simp at hj; omega
      subst hj0
      rw [e1]
      simp only [List.getElem_map, List.getElem_cons_zero]
      exact .lit _ _)
    (fun _ => by simp) (by simp)
  rw [← hl] at key
  exact key
end
end Go.Vl
namespace Go.Vl
open Go Go.RowKit
def liftL (k : Nat) : Option Loc → Option Loc
  | some (.cell 0 j) => some (.cell k j)
  | l => l
def Gh.one (G : Gh) (k b : Nat) : Gh := { U := G.U, φ := [b], Ω := fun c => match G.Ω c with | some (.cell k' j) => if k' = k then some (.cell 0 j) else none | _ => none }
def Gh.many (G G' : Gh) (k : Nat) : Gh := { U := G'.U, φ := G.φ, Ω := fun c => match G.Ω c with | some (.cell k' j) => if k' = k then liftL k (G'.Ω c) else some (.cell k' j) | _ => liftL k (G'.Ω c) }
section
variable {w w' : World} {G G' : Gh} {P : Program} {f : FuncId} {σ : List (List PV)} {k b : Nat} {cs : List PV}
theorem one_cell {c j : Nat} (h : G.Ω c = some (.cell k j)) : (G.one k b).Ω c = some (.cell 0 j) := by
  show (match G.Ω c with | some (.cell k' j) => if k' = k then some (Loc.cell 0 j) else none | _ => none) = _
  rw [h]; simp
theorem one_none {c : Nat} (h : ∀ j, G.Ω c ≠ some (.cell k j)) : (G.one k b).Ω c = none := by
  show (match G.Ω c with | some (.cell k' j) => if k' = k then some (Loc.cell 0 j) else none | _ => none) = _
  split
  · rename_i k' j e
    split
    · rename_i e2; subst e2; exact absurd e (h j)
    · rfl
  · rfl
theorem one_some {c : Nat} {l : Loc} (h : (G.one k b).Ω c = some l) : ∃ j, G.Ω c = some (.cell k j) ∧ l = .cell 0 j := by
  have h2 : (match G.Ω c with | some (.cell k' j) => if k' = k then some (Loc.cell 0 j) else none | _ => none) = some l := h
  split at h2
  · rename_i k' j e
    split at h2
    · rename_i e2; subst e2; exact ⟨j, e, (Option.some.inj h2).symm⟩
    · cases h2
  · cases h2
theorem many_mine {c : Nat} {l : Loc} (h : ∀ k' j, G.Ω c = some (.cell k' j) → k' = k) (hl : liftL k (G'.Ω c) = some l) : (G.many G' k).Ω c = some l := by
  show (match G.Ω c with | some (.cell k' j) => if k' = k then liftL k (G'.Ω c) else some (.cell k' j) | _ => liftL k (G'.Ω c)) = _
  split
  · rename_i k' j e; rw [if_pos (h k' j e)]; exact hl
  · exact hl
theorem many_other {c k' j : Nat} (h : G.Ω c = some (.cell k' j)) (hk : k' ≠ k) : (G.many G' k).Ω c = some (.cell k' j) := by
  show (match G.Ω c with | some (.cell k' j) => if k' = k then liftL k (G'.Ω c) else some (.cell k' j) | _ => liftL k (G'.Ω c)) = _
  rw [h]; simp [hk]
theorem many_some {c : Nat} (h : (G.many G' k).Ω c ≠ none) : G.Ω c ≠ none ∨ G'.Ω c ≠ none := by
  have h : (match G.Ω c with | some (.cell k' j) => if k' = k then liftL k (G'.Ω c) else some (.cell k' j) | _ => liftL k (G'.Ω c)) ≠ none := h
  cases e : G'.Ω c with
  | some l => exact .inr (by simp)
  | none =>
    rw [e] at h
    left
    intro h2
    rw [h2] at h
    exact h rfl
theorem StoreOk.one (hs : StoreOk w G σ) (hk : G.φ[k]? = some b) (hc : σ[k]? = some cs) (hp : PV.fitsL 0 cs = true) : StoreOk w (G.one k b) [cs] := by
  refine ⟨rfl, by simp [Gh.one], fun k2 b2 cs2 h1 h2 => ?_, hs.ub, fun c hB => ?_⟩
  · have hk2 : k2 = 0 := by
      have := (List.getElem?_eq_some_iff.1 h2).1
      simp at this; omega
    subst hk2
    have h1' : b = b2 := by simpa [Gh.one] using h1
    have h2' : cs = cs2 := by simpa using h2
    subst h1' h2'
    obtain ⟨⟨T, arr, h3, h4, h5⟩, h6⟩ := hs.blk k b cs hk hc
    refine ⟨⟨T, arr, h3, h4, fun j c hcj => ?_⟩, h6⟩
    obtain ⟨v, h7, h8, h9, h10⟩ := h5 j c hcj
    have hjl := List.getElem?_eq_some_iff.1 hcj
    refine ⟨v, h7, h8, h9.pure (by rw [← hjl.2]; exact fitsL_get hp j hjl.1), ?_⟩
    unfold TagOk at h10 ⊢
    split
    · exact OwnedAt.to h10 rfl (fun c hc => one_cell hc)
    · trivial
  · cases e : (G.one k b).Ω c with
    | none => exact absurd e hB
    | some l =>
      obtain ⟨j, h1, _⟩ := one_some e
      have := hs.ob c (by rw [h1]; simp)
      refine ⟨this.1, fun hm => this.2 ?_⟩
      have : c = b := by simpa [Gh.one] using hm
      subst this; exact List.mem_of_getElem? hk
/-- A method that was proved at its receiver's place alone. -/
theorem VC.at {args : List PV} {Q : AEnd → List PV → Prop} (hc : σ[k]? = some cs) (hcs : PV.fitsL 0 cs = true) (hargs : pureL args = true)
    (h : VC P f (.ptr 0 0 :: args) [cs] fun x σ' => ∃ cs', σ' = [cs'] ∧ PV.fitsL 0 cs' = true ∧ pureEnd x = true ∧ Q x cs') : VC P f (.ptr k 0 :: args) σ fun x σ' => ∃ cs', Q x cs' ∧ σ' = σ.set k cs' := by
  intro w G vs hs hvs hv hΩ hgl
  have hkl : k < σ.length := (List.getElem?_eq_some_iff.1 hc).1
  have hkφ : k < G.φ.length := by rw [hs.len]; exact hkl
  obtain ⟨b, hb⟩ : ∃ b, G.φ[k]? = some b := ⟨_, List.getElem?_eq_getElem hkφ⟩
  have hargs' : ∀ i (hi : i < (PV.ptr 0 0 :: args).length), V w (G.one k b).U (G.one k b).φ (PV.ptr 0 0 :: args)[i] (vs.getD i Go.undef) := by
    intro i hi
    cases i with
    | zero =>
      have h0 := hv 0 (by simp)
      simp only [List.getElem_cons_zero] at h0 ⊢
      revert h0
      generalize vs.getD 0 Go.undef = z
      intro h0
      cases h0 with
      | ptr _ _ _ k2 hk2 =>
        rw [hb] at hk2
        obtain rfl := Option.some.inj hk2
        exact .ptr _ _ _ _ rfl
    | succ i =>
      have h0 := hv (i + 1) (by simpa using hi)
      simp only [List.getElem_cons_succ] at h0 ⊢
      refine h0.pure ?_
      unfold pureL at hargs
      rw [List.all_eq_true] at hargs
      exact hargs _ (List.getElem_mem _)
  have hgl1 : GlbOk w (G.one k b) := ⟨hgl.1, fun c hcg => ⟨(hgl.2 c hcg).1, fun hm => (hgl.2 c hcg).2.1 (by
    have : c = b := by simpa [Gh.one] using hm
    subst this; exact List.mem_of_getElem? hb), one_none fun j e => by rw [(hgl.2 c hcg).2.2] at e; cases e⟩⟩
  refine (h w (G.one k b) vs (hs.one hb hc hcs) hvs hargs' (fun c l e => by obtain ⟨j, _, e2⟩ := one_some e; exact ⟨0, j, e2⟩) hgl1).mono fun e w' hpost => ?_
  obtain ⟨x, _, G', ⟨cs', rfl, hcs', hpe, hq⟩, hend, hs', hx⟩ := hpost
  have hφ' : G'.φ = [b] := by
    obtain ⟨ψ, h1, _⟩ := hx.phi
    have h2 := hs'.len
    rw [h1] at h2 ⊢
    have : ψ = [] := by
      have h3 : ([b] ++ ψ).length = 1 := h2
      simp at h3; exact h3
    rw [this]; rfl
  -- what is old and not the place's own keeps
  have hnew : ∀ c, G'.Ω c ≠ none → w.heap.size ≤ c ∨ ∃ j, G.Ω c = some (.cell k j) := fun c hB => by
    rcases hx.newΩ c hB with h1 | h1
    · exact .inl h1
    · cases e : (G.one k b).Ω c with
      | none => exact absurd e h1
      | some l => obtain ⟨j, h2, _⟩ := one_some e; exact .inr ⟨j, h2⟩
  have hmine : ∀ c, G'.Ω c ≠ none → ∀ k' j, G.Ω c = some (.cell k' j) → k' = k := fun c hB k' j e => by
    rcases hnew c hB with h1 | ⟨j2, h1⟩
    · have := (hs.ob c (by rw [e]; simp)).1; omega
    · rw [e] at h1; cases h1; rfl
  have hkeep : ∀ c, c < w.heap.size → c ≠ b → (∀ j, G.Ω c ≠ some (.cell k j)) → w'.heap[c]? = w.heap[c]? := fun c h1 h2 h3 => hx.frame c h1 (by simpa [Gh.one] using h2) (one_none h3)
  have hnewU : ∀ c i, G'.U c i → G.U c i ∨ w.heap.size ≤ c ∨ ∃ j, G.Ω c = some (.cell k j) := fun c i hu => by
    rcases hx.newU c i hu with h1 | h1 | h1
    · exact .inl h1
    · exact .inr (.inl h1)
    · cases e : (G.one k b).Ω c with
      | none => exact absurd e h1
      | some l => obtain ⟨j, h2, _⟩ := one_some e; exact .inr (.inr ⟨j, h2⟩)
  have lift : ∀ {l : Loc} {c : Nat}, G'.Ω c = some l → liftL k (some l) = some l → (G.many G' k).Ω c = some l := fun {l c} e e2 => many_mine (hmine c (by rw [e]; simp)) (by rw [e]; exact e2)
  refine ⟨x, σ.set k cs', G.many G' k, ⟨cs', hq, rfl⟩, ?_, ⟨by simp [Gh.many, hs.len], hs.nodup, fun k2 b2 cs2 h1 h2 => ?_, hs'.ub, fun c hB => ?_⟩, ⟨hx.os, hx.tape, hx.output, hx.size, fun c h1 h2 h3 => ?_, hx.cells, fun c i hu => ?_, fun c hB => ?_, [], by simp [Gh.many], by simp⟩⟩
  · cases x with
    | ret r =>
      obtain ⟨v, h1, h2, h3⟩ := hend
      refine ⟨v, h1, h2.pure hpe, ?_⟩
      unfold RetTag at h3 ⊢
      split
      · exact OwnedAt.to h3 rfl (fun c e => lift e rfl)
      · exact h3
      · intro i xs hi
        obtain ⟨arr, u, k1, k2, k3⟩ := h3 i xs hi
        exact ⟨arr, u, k1, k2, OwnedAt.to k3 rfl (fun c e => lift e rfl)⟩
      · trivial
    | pan c => exact hend
  · have h1g : G.φ[k2]? = some b2 := h1
    by_cases e : k2 = k
    · subst e
      rw [hb] at h1g
      obtain rfl := Option.some.inj h1g
      rw [List.getElem?_set_self hkl] at h2
      obtain rfl := Option.some.inj h2
      obtain ⟨⟨T, arr, h3, h4, h5⟩, h6⟩ := hs'.blk 0 b cs' (by rw [hφ']; rfl) rfl
      refine ⟨⟨T, arr, h3, h4, fun j c hcj => ?_⟩, h6⟩
      obtain ⟨v, h7, h8, h9, h10⟩ := h5 j c hcj
      have hjl := List.getElem?_eq_some_iff.1 hcj
      refine ⟨v, h7, h8, h9.pure (by rw [← hjl.2]; exact fitsL_get hcs' j hjl.1), ?_⟩
      unfold TagOk at h10 ⊢
      split
      · exact OwnedAt.to h10 rfl (fun c e => many_mine (hmine c (by rw [e]; simp)) (by rw [e]; rfl))
      · trivial
    · rw [List.getElem?_set_ne (fun e2 => e e2.symm)] at h2
      obtain ⟨⟨T, arr, h3, h4, h5⟩, h6⟩ := hs.blk k2 b2 cs2 h1g h2
      have hlt : b2 < w.heap.size := (Array.getElem?_eq_some_iff.1 h3).1
      have hne : b2 ≠ b := fun e2 => by
        subst e2
        have i1 := List.getElem?_eq_some_iff.1 h1g
        have i2 := List.getElem?_eq_some_iff.1 hb
        exact e ((List.getElem_inj hs.nodup).1 (i1.2.trans i2.2.symm))
      have hno : ∀ j, G.Ω b2 ≠ some (.cell k j) := fun j e2 => (hs.ob b2 (by rw [e2]; simp)).2 (List.mem_of_getElem? h1g)
      refine ⟨⟨T, arr, (hkeep b2 hlt hne hno).trans h3, h4, fun j c hcj => ?_⟩, fun i hu => ?_⟩
      · obtain ⟨v, h7, h8, h9, h10⟩ := h5 j c hcj
        refine ⟨v, h7, h8, h9.mono hx.cells (fun _ _ h => h), ?_⟩
        unfold TagOk at h10 ⊢
        split
        · refine OwnedAt.keep h10 fun b3 hb3 => ?_
          have hob := hs.ob b3 (by rw [hb3]; simp)
          have hno3 : ∀ j, G.Ω b3 ≠ some (.cell k j) := fun j e2 => by rw [hb3] at e2; cases e2; exact e rfl
          refine ⟨many_other hb3 e, hkeep b3 hob.1 (fun e2 => hob.2 (by subst e2; exact List.mem_of_getElem? hb)) hno3, fun i hu => ?_⟩
          rcases hnewU b3 i hu with h | h | ⟨j2, h⟩
          · exact h
          · omega
          · exact absurd h (hno3 j2)
        · trivial
      · rcases hnewU b2 i hu with h | h | ⟨j2, h⟩
        · exact h6 i h
        · omega
        · exact hno j2 h
  · by_cases hg : G.Ω c = none
    · have h1 : G'.Ω c ≠ none := by
        rcases many_some hB with h1 | h1
        · exact absurd hg h1
        · exact h1
      refine ⟨(hs'.ob c h1).1, fun hm => ?_⟩
      rcases hnew c h1 with h2 | ⟨j, h2⟩
      · have := hs.lt hm; omega
      · rw [hg] at h2; cases h2
    · have := hs.ob c hg
      exact ⟨Nat.lt_of_lt_of_le this.1 hx.size, this.2⟩
  · exact hkeep c h1 (fun e2 => h2 (by subst e2; exact List.mem_of_getElem? hb)) (fun j e2 => by rw [h3] at e2; cases e2)
  · rcases hnewU c i hu with h | h | ⟨j, h⟩
    · exact .inl h
    · exact .inr (.inl h)
    · exact .inr (.inr (by rw [h]; simp))
  · rcases many_some hB with h1 | h1
    · exact .inr h1
    · rcases hnew c h1 with h2 | ⟨j, h2⟩
      · exact .inl h2
      · exact .inr (by rw [h2]; simp)
end
end Go.Vl
namespace Go.Vl
open Go Go.RowKit
section
variable {P : Program} {f : FuncId} {σ : List (List PV)}
/-- A call of literals that answers by a struct of literals. -/
theorem VC.litAgg (ls rs : List Value) (h1 : ∀ v ∈ rs, v.oneCell' = true) (h : ∀ w, glbP w → Calls P f ls.toArray w fun e w' => e = .returned (.agg rs.toArray) ∧ Below w.heap.size w w') : VC P f (ls.map .lit) σ fun x σ' => x = .ret (.agg (rs.map .lit)) ∧ σ' = σ := by
  intro w G vs hs hvs hv _ hgl
  rw [lits_args hvs hv]
  refine (h w hgl.1).mono fun e w' ⟨he, hb⟩ => ?_
  refine ⟨_, _, { G with U := G.U }, ⟨rfl, rfl⟩, ⟨_, he, .agg _ _ _ (by simp) (fun i hi => ?_) (fun i hi => ?_), trivial⟩, hs.below hb (fun _ _ h => .inl h) (fun _ _ h => h), Ext.ofBelow hs hb (fun _ _ h => .inl h) (fun _ _ h => h)⟩
  · have hi2 : i < rs.length := by simpa using hi
    have e1 : rs.toArray.getD i Go.undef = rs[i] := by simp [hi2]
    rw [e1, List.getElem_map]; exact .lit _ _
  · have hi2 : i < rs.length := by simpa using hi
    have e1 : rs.toArray.getD i Go.undef = rs[i] := by simp [hi2]
    rw [e1]; exact h1 _ (List.getElem_mem hi2)
/-- What is handed back, seen as less. -/
theorem VC.less {args : List PV} {Q Q' : AEnd → List (List PV) → Prop} (h : VC P f args σ Q) (hq : ∀ x σ', Q x σ' → ∃ x', Q' x' σ' ∧ ∀ w G e, EndOk w G x e → EndOk w G x' e) : VC P f args σ Q' :=
  fun w G vs h1 h2 h3 h4 h5 => (h w G vs h1 h2 h3 h4 h5).mono fun _ _ ⟨x, σ', G', q, he, r⟩ => by
    obtain ⟨x', q', hx⟩ := hq _ _ q
    exact ⟨x', σ', G', q', hx _ _ _ he, r⟩
/-- A slice and a plain value: the slice as anyone's. -/
theorem EndOk.share {w : World} {G : Gh} {rows : List (List PV)} {g : Grow} {cs : List PV} {e : Ending} (h : EndOk w G (.ret (.tup [.sl rows g, .agg cs])) e) : EndOk w G (.ret (.tup [.sl rows .shared, .agg cs])) e := by
  obtain ⟨v, h1, h2, h3⟩ := h
  refine ⟨v, h1, ?_, fun i xs hi => ?_⟩
  · revert h2
    generalize v = z
    intro h2
    cases h2 with
    | tup _ _ arr hn hh =>
      refine .tup _ _ _ hn fun i hi => ?_
      match i, hi with
      | 0, _ => exact (hh 0 (by simp)).tag (by simp) (by simp)
      | 1, _ => exact hh 1 (by simp)
  · match i with
    | 0 => cases hi
    | 1 => cases hi
    | i + 2 => simp at hi
end
end Go.Vl
namespace Go.Vl
open Go Go.RowKit
section
variable {P : Program} {f : FuncId} {w : World} {U : Nat → Nat → Prop}
theorem VC.out {args : List PV} {vs : Array Value} {Q : AEnd → List (List PV) → Prop} (h : VC P f args [] Q) (hg : glbP w) (hb : ∀ b ∈ glbs, b < w.heap.size) (hU : ∀ b i, U b i → b < w.heap.size) (hsz : vs.size = args.length)
    (hv : ∀ i (h : i < args.length), V w U [] args[i] (vs.getD i Go.undef)) : Calls P f vs w fun e w' => (∃ x σ' G', Q x σ' ∧ EndOk w' G' x e) ∧ Below w.heap.size w w' := by
  refine (h w { U := U, φ := [], Ω := fun _ => none } vs ⟨rfl, by simp, fun k b cs h1 => by simp at h1, hU, fun b hB => absurd rfl hB⟩ hsz hv (fun b l e => by cases e) ⟨hg, fun b hB => ⟨hb b hB, by simp, rfl⟩⟩).mono fun e w' hpost => ?_
  obtain ⟨x, σ', G', hq, hend, _, hx⟩ := hpost
  exact ⟨⟨x, σ', G', hq, hend⟩, hx.below rfl (fun _ => rfl)⟩
/-- A law of literals that answers by a literal. -/
theorem VC.outLit {ls : List Value} {r : Value} (h : VC P f (ls.map .lit) [] fun x σ' => x = .ret (.lit r) ∧ σ' = []) (hg : glbP w) (hb : ∀ b ∈ glbs, b < w.heap.size) : Calls P f ls.toArray w fun e w' => e = .returned r ∧ Below w.heap.size w w' := by
  refine (h.out (U := fun _ _ => False) (vs := ls.toArray) hg hb (fun _ _ h => h.elim) (by simp) fun i hi => ?_).mono fun e w' hpost => ?_
  · have hi2 : i < ls.length := by simpa using hi
    have e : ls.toArray.getD i Go.undef = ls[i] := by simp [hi2]
    rw [e, List.getElem_map]; exact .lit _ _
  · obtain ⟨⟨x, σ', G', ⟨rfl, _⟩, v, h1, h2, _⟩, h3⟩ := hpost
    refine ⟨?_, h3⟩
    have key : ∀ {p : PV} {v : Value}, V w' G'.U G'.φ p v → p = .lit r → v = r := fun h e => by
      cases h with
      | lit _ _ => injection e
      | _ => cases e
    rw [key h2 rfl] at h1; exact h1
end
end Go.Vl
