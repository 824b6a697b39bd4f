/-
  A statement whose order Go leaves open, walked in one order: operations that yield one value whenever they run float; the others come in a forced order. No program.
-/
import Derived.WalkKit
import Derived.Orders
import Derived.StillTailTactics
namespace Go.Q
open Go
section
variable {P : Program} {ops : Array Oper} {Q : Exit → Act → World → Prop} {S : World → Prop}
/-- Whatever is listed, all that it waits for is listed. -/
def Closed (ops : Array Oper) (D : Array Bool) : Prop := ∀ j oj, ops[j]? = some oj → D.getD j false = true → ∀ e ∈ oj.after, Region.binds .any e = true → D.getD e.on false = true
/-- Operation j comes behind operation i. -/
def Dep (ops : Array Oper) (j i : Nat) : Prop := ∀ D, Closed ops D → (∀ oj, ops[j]? = some oj → ∀ e ∈ oj.after, Region.binds .any e = true → D.getD e.on false = true) → (∃ oj, ops[j]? = some oj) → D.getD i false = true
def maskOf (acc : List Nat) (o : Oper) : Nat := o.after.toList.foldl (fun s e => if Region.binds .any e then s ||| (2 ^ e.on ||| acc.getD e.on 0) else s) 0
def maskGo (acc : List Nat) : List Oper → List Nat
  | [] => acc
  | o :: rest => maskGo (acc ++ [maskOf acc o]) rest
theorem maskOf_spec (acc : List Nat) (o : Oper) (i : Nat) (h : (maskOf acc o).testBit i = true) : ∃ e ∈ o.after, Region.binds .any e = true ∧ (e.on = i ∨ (acc.getD e.on 0).testBit i = true) := by
  have key : ∀ (l : List Edge) (s : Nat), (l.foldl (fun s e => if Region.binds .any e then s ||| (2 ^ e.on ||| acc.getD e.on 0) else s) s).testBit i = true →
      s.testBit i = true ∨ ∃ e ∈ l, Region.binds .any e = true ∧ (e.on = i ∨ (acc.getD e.on 0).testBit i = true) := by
    intro l
    induction l with
    | nil => intro s h; exact .inl h
    | cons e l ih =>
      intro s h
      rcases ih _ h with h | ⟨e', he', hb, hc⟩
      · by_cases hbe : Region.binds .any e = true
        · simp only [hbe, if_true] at h
          simp only [Nat.testBit_or, Bool.or_eq_true] at h
          rcases h with h | h | h
          · exact .inl h
          · rw [Nat.testBit_two_pow] at h
            exact .inr ⟨e, by simp, hbe, .inl (by simpa using h)⟩
          · exact .inr ⟨e, by simp, hbe, .inr h⟩
        · simp only [hbe] at h
          exact .inl h
      · exact .inr ⟨e', by simp [he'], hb, hc⟩
  rcases key _ _ h with h | ⟨e, he, hb, hc⟩
  · simp at h
  · exact ⟨e, by simpa using he, hb, hc⟩
theorem maskGo_spec : ∀ (l : List Oper) (acc : List Nat), (∀ j, l[j]? = ops[acc.length + j]?) → (∀ j i, (acc.getD j 0).testBit i = true → Dep ops j i) → ∀ j i, ((maskGo acc l).getD j 0).testBit i = true → Dep ops j i
  | [], _, _, h => h
  | o :: l, acc, hl, h => by
    refine maskGo_spec l (acc ++ [maskOf acc o]) (fun j => ?_) (fun j i hji => ?_)
    · have := hl (j + 1)
      simpa [Nat.add_assoc, Nat.add_comm 1 j] using this
    · by_cases hj : j < acc.length
      · refine h j i ?_
        rw [List.getD_eq_getElem?_getD, List.getElem?_append_left hj, ← List.getD_eq_getElem?_getD] at hji
        exact hji
      · by_cases hj2 : j = acc.length
        · subst hj2
          have e1 : (acc ++ [maskOf acc o]).getD acc.length 0 = maskOf acc o := by simp
          rw [e1] at hji
          obtain ⟨e, he, hb, hc⟩ := maskOf_spec acc o i hji
          intro D hD hdeps _
          have h0 : ops[acc.length]? = some o := by simpa using (hl 0).symm
          have hon := hdeps o h0 e he hb
          rcases hc with rfl | hc
          · exact hon
          · by_cases hex : ∃ oj, ops[e.on]? = some oj
            · obtain ⟨oj, hoj⟩ := hex
              refine h e.on i hc D hD (fun o' ho' e' he' hb' => hD e.on o' ho' hon e' he' hb') ⟨oj, hoj⟩
            · exfalso
              by_cases hlt : e.on < acc.length
              · have : acc.length < ops.size := (Array.getElem?_eq_some_iff.1 h0).1
                exact hex ⟨ops[e.on]'(by omega), Array.getElem?_eq_getElem (by omega)⟩
              · simp [List.getD, List.getElem?_eq_none (l := acc) (i := e.on) (by omega)] at hc
        · have e1 : (acc ++ [maskOf acc o]).getD j 0 = 0 := by
            rw [List.getD_eq_getElem?_getD, List.getElem?_eq_none (by simp; omega)]; rfl
          rw [e1] at hji
          simp at hji
def masks (ops : Array Oper) : List Nat := maskGo [] ops.toList
theorem masks_spec (j i : Nat) (h : ((masks ops).getD j 0).testBit i = true) : Dep ops j i :=
  maskGo_spec ops.toList [] (fun j => by simp) (fun j i h => by simp at h) j i h
/-- The classes: 0: yields one value in every world; 1: in every world with S; other: it may write, or make memory. -/
def cl (c : List Nat) (i : Nat) : Nat := c.getD i 2
/-- Some operation of class 1 may come behind operation j. -/
def needS (ops : Array Oper) (c : List Nat) (j : Nat) : Bool := (List.range ops.size).any fun i => cl c i == 1 && i != j && !((masks ops).getD j 0).testBit i
theorem needS_of {c : List Nat} {i j : Nat} {D : Array Bool} (hD : Closed ops D) (hj : j ∈ Region.ready .any ops D) (hi : i < ops.size) (hun : D.getD i false = false) (h1 : cl c i = 1) (hij : i ≠ j) : needS ops c j = true := by
  unfold needS
  rw [List.any_eq_true]
  refine ⟨i, List.mem_range.2 hi, ?_⟩
  obtain ⟨_, oj, hoj, hall⟩ := mem_ready.1 hj
  simp only [h1, beq_self_eq_true, Bool.true_and, Bool.and_eq_true, bne_iff_ne, ne_eq, hij, not_false_eq_true, true_and, Bool.not_eq_true']
  cases hm : ((masks ops).getD j 0).testBit i with
  | false => rfl
  | true =>
    have := masks_spec j i hm D hD (fun o' ho' e he hb => by
      have : o' = oj := Option.some.inj (ho'.symm.trans hoj)
      subst this
      exact hall e he hb) ⟨oj, hoj⟩
    rw [hun] at this
    cases this
/-- It yields v, in every world with T. -/
def YieldsIn (P : Program) (ops : Array Oper) (T : World → Prop) (o : Oper) (v : Value) (a : Act) : Prop :=
  (Region.wanted o (yielded ops a.tmps) = true ∧ ∀ w, T w → ((execOp a.eval o).run P w = .ok (.value v) w ∨ ∃ f args, (execOp a.eval o).run P w = .ok (.enter f args) w ∧ Calls P f args w (fun e w'' => e = .returned v ∧ w'' = w))) ∨
  (Region.wanted o (yielded ops a.tmps) = false ∧ v = undef)
theorem YieldsIn.wpOp {T : World → Prop} {i : Nat} {o : Oper} {v : Value} {a : Act} (hi : ops[i]? = some o) (hy : YieldsIn P ops T o v a) {K : Act → World → Prop} {w : World} (hT : T w) (h : K (a.put o.dst v) w) : wpOp P ops Q i K a w := by
  unfold Go.wpOp
  simp only [hi]
  rcases hy with ⟨hw, hv⟩ | ⟨hw, rfl⟩
  · simp only [hw, if_true, Oper.wp]
    rcases hv w hT with hv | ⟨f, args, hv, hc⟩
    · simp only [hv, Oper.upon]; exact .inl h
    · simp only [hv, Oper.upon]
      exact .inl (hc.mono fun e w'' ⟨he, hw⟩ => by subst he; subst hw; exact h)
  · simp only [hw, Bool.false_eq_true, if_false]; exact h
theorem YieldsIn.of_same {T : World → Prop} {o : Oper} {v : Value} {a a' : Act} (hy : YieldsIn P ops T o v a) (he : execOp a'.eval o = execOp a.eval o)
    (hw : Region.wanted o (yielded ops a'.tmps) = Region.wanted o (yielded ops a.tmps)) : YieldsIn P ops T o v a' := by
  unfold YieldsIn at *
  rw [he, hw]
  exact hy
theorem wpOp_putIn {T : World → Prop} {j : Nat} {oi oj : Oper} {v : Value} (hj : ops[j]? = some oj) (hap : oi.apart ops oj = true)
    (hsi : ∀ cs b, oi.op ≠ .select cs b) (hsj : ∀ cs b, oj.op ≠ .select cs b)
    (hQ : ∀ c a w, Q (.panic c) (a.put oi.dst v) w → Q (.panic c) a w) {K : Act → World → Prop} {a : Act} {w : World}
    (hy : YieldsIn P ops T oi v a) (h : wpOp P ops Q j K (a.put oi.dst v) w) :
    wpOp P ops Q j (fun a' w' => YieldsIn P ops T oi v a' ∧ K (a'.put oi.dst v) w') a w := by
  obtain ⟨h1, h2, h3⟩ := Oper.apart_spec hap
  have keep : ∀ (a : Act), YieldsIn P ops T oi v a → ∀ u, YieldsIn P ops T oi v (a.put oj.dst u) := fun a hy u =>
    hy.of_same (execOp_put oi hsi a oj.dst u h3) (wanted_put oi a oj.dst u h3)
  have keepD : ∀ d, YieldsIn P ops T oi v { a with defers := d :: a.defers } := fun d => hy.of_same rfl rfl
  unfold Go.wpOp at *
  simp only [hj] at *
  rw [wanted_put oj a oi.dst v h1] at h
  split
  · rename_i hw
    simp only [hw, if_true] at h
    rcases h with h | ⟨hasks, hlets⟩
    case inr => exact .inr ⟨by unfold Oper.asks at *; rw [execOp_put oj hsj a oi.dst v h1] at hasks; exact hasks, hlets⟩
    refine .inl ?_
    unfold Oper.wp at *
    rw [execOp_put oj hsj a oi.dst v h1] at h
    generalize (execOp a.eval oj).run P w = r at *
    cases r with
    | ok n w' =>
      cases n <;> simp only [Oper.upon] at h ⊢
      case value u => exact ⟨keep a hy u, by rw [← Act.put_comm a v u h2]; exact h⟩
      case skip => exact ⟨keep a hy _, by rw [← Act.put_comm a v undef h2]; exact h⟩
      case defer d =>
        refine ⟨keep _ (keepD d) _, ?_⟩
        rw [← Act.put_comm _ v undef h2, ← Act.put_defers]
        exact h
      case enter f args =>
        refine Calls.mono h fun e w'' he => ?_
        cases e with
        | returned u => exact ⟨keep a hy u, by rw [← Act.put_comm a v u h2]; exact he⟩
        | panicked c => exact hQ _ _ _ he
        | outgrown => exact he
      case row row args => exact Rows.mono h fun u w'' he => ⟨keep a hy u, by rw [← Act.put_comm a v u h2]; exact he⟩
    | halt x w' =>
      cases x <;> simp only [Oper.upon] at h ⊢
      case panic u => exact hQ _ _ _ h
  · rename_i hw
    simp only [hw] at h
    exact ⟨keep a hy _, by rw [← Act.put_comm a v undef h2]; exact h⟩
/-- What is asked behind operation j: of class 0 or 1: the world is as it was; else: S, where one of class 1 may still come. -/
def Cond (ops : Array Oper) (S : World → Prop) (c : List Nat) (j : Nat) (w w' : World) : Prop := if cl c j = 0 ∨ cl c j = 1 then w' = w else (needS ops c j = true → S w')
/-- All orders. -/
def wpAnyK (P : Program) (ops : Array Oper) (Q : Exit → Act → World → Prop) (S : World → Prop) (c : List Nat) : Nat → Array Bool → Act → World → Prop
  | 0, D, a, w => Region.ready .any ops D = [] ∧ Q .normal a w
  | fuel + 1, D, a, w =>
    (Region.ready .any ops D = [] → Q .normal a w) ∧
    ∀ i ∈ Region.ready .any ops D, wpOp P ops Q i (fun a' w' => Cond ops S c i w w' ∧ wpAnyK P ops Q S c fuel (D.setIfInBounds i true) a' w') a w
theorem wpAny_of_K {c : List Nat} : ∀ (fuel : Nat) (D : Array Bool) (a : Act) (w : World), wpAnyK P ops Q S c fuel D a w → wpAny P .any ops Q fuel D a w
  | 0, _, _, _, h => h
  | fuel + 1, _, _, _, h => ⟨h.1, fun i hi => wpOp_mono (fun a' w' h' => wpAny_of_K fuel _ a' w' h'.2) (h.2 i hi)⟩
theorem Closed.set {D : Array Bool} {i : Nat} (h : Closed ops D) (hi : i ∈ Region.ready .any ops D) : Closed ops (D.setIfInBounds i true) := by
  obtain ⟨_, oi, hoi, hall⟩ := mem_ready.1 hi
  intro j oj hj hl e he hb
  by_cases hij : i = j
  · subst hij
    have : oj = oi := Option.some.inj (hj.symm.trans hoi)
    subst this
    exact getD_set_true (hall e he hb)
  · rw [getD_set_ne false hij] at hl
    exact getD_set_true (h j oj hj hl e he hb)
theorem ready_false {D : Array Bool} {i : Nat} (hi : i ∈ Region.ready .any ops D) : D.getD i false = false ∧ i < ops.size := by
  obtain ⟨h0, oi, hoi, _⟩ := mem_ready.1 hi
  refine ⟨?_, (Array.getElem?_eq_some_iff.1 hoi).1⟩
  rcases Nat.lt_or_ge i D.size with h' | h'
  · simp [h'] at h0 ⊢; exact h0
  · simp [Array.getElem?_eq_none h'] at h0
theorem wpAnyK_first {c : List Nat} {T : World → Prop} {i : Nat} {oi : Oper} {v : Value} (hi : ops[i]? = some oi) (hsel : ∀ (j : Nat) (o : Oper) cs b, ops[j]? = some o → o.op ≠ .select cs b)
    (hQ : ∀ c a w, Q (.panic c) (a.put oi.dst v) w → Q (.panic c) a w) (hci : cl c i = 0 ∨ cl c i = 1)
    (hT : ∀ D j, Closed ops D → i ∈ Region.ready .any ops D → j ∈ Region.ready .any ops D → j ≠ i → ∀ w w', Cond ops S c j w w' → T w → T w') :
    ∀ (fuel : Nat) (D : Array Bool) (a : Act) (w : World), Closed ops D → T w →
      (∀ j oj, ops[j]? = some oj → j ≠ i → D.getD j true = false → (∀ e ∈ oj.after, Region.binds .any e = true → e.on ≠ i) → oi.apart ops oj = true) →
      i ∈ Region.ready .any ops D → YieldsIn P ops T oi v a →
      wpAnyK P ops Q S c fuel (D.setIfInBounds i true) (a.put oi.dst v) w → wpAnyK P ops Q S c (fuel + 1) D a w := by
  have hcond : ∀ w, Cond ops S c i w w := fun w => by unfold Cond; rw [if_pos hci]
  intro fuel
  induction fuel with
  | zero =>
    intro D a w hD hTw _ hr hy H
    refine ⟨fun h => (by rw [h] at hr; cases hr), fun j hj => ?_⟩
    by_cases hji : j = i
    · subst hji; exact hy.wpOp hi hTw ⟨hcond w, H⟩
    · have := ready_mono hj hji
      rw [H.1] at this
      cases this
  | succ fuel ih =>
    intro D a w hD hTw hfree hr hy H
    refine ⟨fun h => (by rw [h] at hr; cases hr), fun j hj => ?_⟩
    by_cases hji : j = i
    · subst hji; exact hy.wpOp hi hTw ⟨hcond w, H⟩
    · have h1 := H.2 j (ready_mono hj hji)
      obtain ⟨hjun, oj, hoj, hall⟩ := mem_ready.1 hj
      have hnot : ∀ e ∈ oj.after, Region.binds .any e = true → e.on ≠ i := fun e he hb heq => by
        have h1 := hall e he hb
        rw [heq, (ready_false hr).1] at h1
        cases h1
      have h2 := wpOp_putIn hoj (hfree j oj hoj hji hjun hnot) (fun cs b => hsel i oi cs b hi) (fun cs b => hsel j oj cs b hoj) hQ hy h1
      have hfree' : ∀ k ok, ops[k]? = some ok → k ≠ i → (D.setIfInBounds j true).getD k true = false →
          (∀ e ∈ ok.after, Region.binds .any e = true → e.on ≠ i) → oi.apart ops ok = true := fun k ok hk hki hun hno => by
        refine hfree k ok hk hki ?_ hno
        by_cases hjk : j = k
        · subst hjk; exact hjun
        · rw [getD_set_ne true hjk] at hun; exact hun
      refine wpOp_mono (fun a' w' h3 => ⟨h3.2.1, ih (D.setIfInBounds j true) a' w' (hD.set hj) (hT D j hD hr hj hji w w' h3.2.1 hTw) hfree' (ready_mono hr (Ne.symm hji)) h3.1 ?_⟩) h2
      rw [Array.setIfInBounds_comm _ _ hji]
      exact h3.2.2
-- the walk in one order
/-- The operations in the order t: those of class 0 and 1 yield a value; behind another one that may come before one of class 1, S holds. -/
def walkT (P : Program) (ops : Array Oper) (Q : Exit → Act → World → Prop) (S : World → Prop) (c : List Nat) : List Nat → Act → World → Prop
  | [], a, w => Q .normal a w
  | i :: t, a, w => match ops[i]? with
    | none => False
    | some o =>
      if cl c i = 0 then ∃ v, YieldsIn P ops (fun _ => True) o v a ∧ walkT P ops Q S c t (a.put o.dst v) w
      else if cl c i = 1 then ∃ v, YieldsIn P ops S o v a ∧ walkT P ops Q S c t (a.put o.dst v) w
      else wpOp P ops Q i (fun a' w' => (needS ops c i = true → S w') ∧ walkT P ops Q S c t a' w') a w
def okT (ops : Array Oper) (c : List Nat) : List Nat → Array Bool → Bool
  | [], D => (Region.ready .any ops D).isEmpty
  | i :: t, D => (Region.ready .any ops D).contains i && (if cl c i = 0 ∨ cl c i = 1 then Region.free .any ops D i else decide (Region.ready .any ops D = [i])) && okT ops c t (D.setIfInBounds i true)
theorem walk_sound {c : List Nat} (hsel : Region.noSelect ops = true) (hQ : ∀ c d v a w, Q (.panic c) (a.put d v) w → Q (.panic c) a w) : ∀ (t : List Nat) (D : Array Bool) (a : Act) (w : World), Closed ops D →
    ((∃ i, i < ops.size ∧ D.getD i false = false ∧ cl c i = 1) → S w) → okT ops c t D = true → walkT P ops Q S c t a w → wpAnyK P ops Q S c t.length D a w
  | [], D, a, w, _, _, hok, h => ⟨by simpa [okT] using hok, h⟩
  | i :: t, D, a, w, hD, hS, hok, h => by
    simp only [okT, Bool.and_eq_true] at hok
    obtain ⟨⟨hr, hf⟩, hok'⟩ := hok
    have hr' : i ∈ Region.ready .any ops D := by simpa using hr
    obtain ⟨_, oi, hoi, _⟩ := mem_ready.1 hr'
    obtain ⟨hiun, hisz⟩ := ready_false hr'
    have hun : ∀ k, (D.setIfInBounds i true).getD k false = false → D.getD k false = false := by
      intro k hk
      by_cases hik : i = k
      · subst hik; exact hiun
      · rw [getD_set_ne false hik] at hk; exact hk
    have hSt : (∃ k, k < ops.size ∧ (D.setIfInBounds i true).getD k false = false ∧ cl c k = 1) → S w := fun ⟨k, h1, h2, h3⟩ => hS ⟨k, h1, hun k h2, h3⟩
    unfold walkT at h
    simp only [hoi] at h
    by_cases h0 : cl c i = 0
    · rw [if_pos h0] at h
      rw [if_pos (.inl h0)] at hf
      obtain ⟨v, hy, hw⟩ := h
      exact wpAnyK_first (T := fun _ => True) hoi (Region.noSelect_spec hsel) (fun _ a w h => hQ _ _ _ a w h) (.inl h0) (fun _ _ _ _ _ _ _ _ _ _ => trivial) t.length D a w hD trivial (Region.free_spec hoi hf) hr' hy
        (walk_sound hsel hQ t _ _ w (hD.set hr') hSt hok' hw)
    · rw [if_neg h0] at h
      by_cases h1 : cl c i = 1
      · rw [if_pos h1] at h
        rw [if_pos (.inr h1)] at hf
        obtain ⟨v, hy, hw⟩ := h
        refine wpAnyK_first (T := S) hoi (Region.noSelect_spec hsel) (fun _ a w h => hQ _ _ _ a w h) (.inr h1) ?_ t.length D a w hD (hS ⟨i, hisz, hiun, h1⟩) (Region.free_spec hoi hf) hr' hy
          (walk_sound hsel hQ t _ _ w (hD.set hr') hSt hok' hw)
        intro D' j hD' hi' hj hji w w' hc hSw
        unfold Cond at hc
        split at hc
        · subst hc; exact hSw
        · exact hc (needS_of hD' hj hisz (ready_false hi').1 h1 (Ne.symm hji))
      · rw [if_neg h1] at h
        rw [if_neg (by simp [h0, h1])] at hf
        have hf' : Region.ready .any ops D = [i] := by simpa using hf
        refine ⟨fun h => (by rw [h] at hr'; cases hr'), fun j hj => ?_⟩
        rw [hf'] at hj
        obtain rfl : j = i := by simpa using hj
        refine wpOp_mono (fun a' w' h3 => ⟨by unfold Cond; rw [if_neg (by simp [h0, h1])]; exact h3.1, ?_⟩) h
        refine walk_sound hsel hQ t _ a' w' (hD.set hr') ?_ hok' h3.2
        rintro ⟨k, hk1, hk2, hk3⟩
        have hkj : k ≠ j := by rintro rfl; rw [hk3] at h1; exact h1 rfl
        exact h3.1 (needS_of hD hr' hk1 (hun k hk2) hk3 hkj)
/-- The region, by one order. -/
theorem wp_region_walk {id : Nat} {l : List Oper} {a : Act} {w : World} (c t : List Nat) (S : World → Prop) (hm : P.follows .mixedOrders = true) (hsel : Region.noSelect l.toArray = true)
    (hlen : t.length = l.length) (hok : okT l.toArray c t (Array.replicate l.toArray.size false) = true) (hQ : ∀ c d v a w, Q (.panic c) (a.put d v) w → Q (.panic c) a w)
    (hS : S w.drew) (h : walkT P l.toArray Q S c t a w.drew) : (Code.region id l.toArray true).wp P Q a w := by
  refine wp_region_any hm ?_
  rw [show l.toArray.size = t.length by simp [hlen]]
  refine wpAny_of_K _ _ _ _ (walk_sound (S := S) (c := c) hsel hQ t _ a _ ?_ (fun _ => hS) ?_ h)
  · intro j oj _ hl
    rw [getD_replicate_false] at hl
    cases hl
  · rw [show t.length = l.toArray.size by simp [hlen]]; exact hok
-- orders that part
/-- One operation after another; 'alt': two that may come in either order. -/
inductive Ord where
  | done
  | one (i : Nat) (t : Ord)
  | alt (i j : Nat) (s t : Ord)
def Ord.len : Ord → Nat
  | done => 0
  | one _ t => t.len + 1
  | alt _ _ s _ => s.len + 1
def walkO (P : Program) (ops : Array Oper) (Q : Exit → Act → World → Prop) (S : World → Prop) (c : List Nat) : Ord → Act → World → Prop
  | .done, a, w => Q .normal a w
  | .one i t, a, w => match ops[i]? with
    | none => False
    | some o =>
      if cl c i = 0 then ∃ v, YieldsIn P ops (fun _ => True) o v a ∧ walkO P ops Q S c t (a.put o.dst v) w
      else if cl c i = 1 then ∃ v, YieldsIn P ops S o v a ∧ walkO P ops Q S c t (a.put o.dst v) w
      else wpOp P ops Q i (fun a' w' => (needS ops c i = true → S w') ∧ walkO P ops Q S c t a' w') a w
  | .alt i j s t, a, w => wpOp P ops Q i (fun a' w' => (needS ops c i = true → S w') ∧ walkO P ops Q S c s a' w') a w ∧ wpOp P ops Q j (fun a' w' => (needS ops c j = true → S w') ∧ walkO P ops Q S c t a' w') a w
def okO (ops : Array Oper) (c : List Nat) : Ord → Array Bool → Bool
  | .done, D => (Region.ready .any ops D).isEmpty
  | .one i t, D => (Region.ready .any ops D).contains i && (if cl c i = 0 ∨ cl c i = 1 then Region.free .any ops D i else decide (Region.ready .any ops D = [i])) && okO ops c t (D.setIfInBounds i true)
  | .alt i j s t, D => decide (Region.ready .any ops D = [i, j]) && decide (cl c i = 2) && decide (cl c j = 2) && decide (s.len = t.len) && okO ops c s (D.setIfInBounds i true) && okO ops c t (D.setIfInBounds j true)
theorem walkO_sound {c : List Nat} (hsel : Region.noSelect ops = true) (hQ : ∀ c d v a w, Q (.panic c) (a.put d v) w → Q (.panic c) a w) : ∀ (t : Ord) (D : Array Bool) (a : Act) (w : World), Closed ops D →
    ((∃ i, i < ops.size ∧ D.getD i false = false ∧ cl c i = 1) → S w) → okO ops c t D = true → walkO P ops Q S c t a w → wpAnyK P ops Q S c t.len D a w
  | .done, D, a, w, _, _, hok, h => ⟨by simpa [okO] using hok, h⟩
  | .one i t, D, a, w, hD, hS, hok, h => by
    simp only [okO, Bool.and_eq_true] at hok
    obtain ⟨⟨hr, hf⟩, hok'⟩ := hok
    have hr' : i ∈ Region.ready .any ops D := by simpa using hr
    obtain ⟨_, oi, hoi, _⟩ := mem_ready.1 hr'
    obtain ⟨hiun, hisz⟩ := ready_false hr'
    have hun : ∀ k, (D.setIfInBounds i true).getD k false = false → D.getD k false = false := by
      intro k hk
      by_cases hik : i = k
      · subst hik; exact hiun
      · rw [getD_set_ne false hik] at hk; exact hk
    have hSt : (∃ k, k < ops.size ∧ (D.setIfInBounds i true).getD k false = false ∧ cl c k = 1) → S w := fun ⟨k, h1, h2, h3⟩ => hS ⟨k, h1, hun k h2, h3⟩
    unfold walkO at h
    simp only [hoi] at h
    by_cases h0 : cl c i = 0
    · rw [if_pos h0] at h
      rw [if_pos (.inl h0)] at hf
      obtain ⟨v, hy, hw⟩ := h
      exact wpAnyK_first (T := fun _ => True) hoi (Region.noSelect_spec hsel) (fun _ a w h => hQ _ _ _ a w h) (.inl h0) (fun _ _ _ _ _ _ _ _ _ _ => trivial) t.len D a w hD trivial (Region.free_spec hoi hf) hr' hy
        (walkO_sound hsel hQ t _ _ w (hD.set hr') hSt hok' hw)
    · rw [if_neg h0] at h
      by_cases h1 : cl c i = 1
      · rw [if_pos h1] at h
        rw [if_pos (.inr h1)] at hf
        obtain ⟨v, hy, hw⟩ := h
        refine wpAnyK_first (T := S) hoi (Region.noSelect_spec hsel) (fun _ a w h => hQ _ _ _ a w h) (.inr h1) ?_ t.len D a w hD (hS ⟨i, hisz, hiun, h1⟩) (Region.free_spec hoi hf) hr' hy
          (walkO_sound hsel hQ t _ _ w (hD.set hr') hSt hok' hw)
        intro D' j hD' hi' hj hji w w' hc hSw
        unfold Cond at hc
        split at hc
        · subst hc; exact hSw
        · exact hc (needS_of hD' hj hisz (ready_false hi').1 h1 (Ne.symm hji))
      · rw [if_neg h1] at h
        rw [if_neg (by simp [h0, h1])] at hf
        have hf' : Region.ready .any ops D = [i] := by simpa using hf
        refine ⟨fun h => (by rw [h] at hr'; cases hr'), fun j hj => ?_⟩
        rw [hf'] at hj
        obtain rfl : j = i := by simpa using hj
        refine wpOp_mono (fun a' w' h3 => ⟨by unfold Cond; rw [if_neg (by simp [h0, h1])]; exact h3.1, ?_⟩) h
        refine walkO_sound hsel hQ t _ a' w' (hD.set hr') ?_ hok' h3.2
        rintro ⟨k, hk1, hk2, hk3⟩
        have hkj : k ≠ j := by rintro rfl; rw [hk3] at h1; exact h1 rfl
        exact h3.1 (needS_of hD hr' hk1 (hun k hk2) hk3 hkj)
  | .alt i j s t, D, a, w, hD, hS, hok, h => by
    simp only [okO, Bool.and_eq_true, decide_eq_true_eq] at hok
    obtain ⟨⟨⟨⟨⟨hr, hci⟩, hcj⟩, hlen⟩, hoks⟩, hokt⟩ := hok
    unfold walkO at h
    have step : ∀ (i : Nat) (t : Ord), i ∈ Region.ready .any ops D → cl c i = 2 → okO ops c t (D.setIfInBounds i true) = true →
        (∀ a' w', ((∃ k, k < ops.size ∧ (D.setIfInBounds i true).getD k false = false ∧ cl c k = 1) → S w') → walkO P ops Q S c t a' w' → wpAnyK P ops Q S c t.len (D.setIfInBounds i true) a' w') →
        wpOp P ops Q i (fun a' w' => (needS ops c i = true → S w') ∧ walkO P ops Q S c t a' w') a w → wpOp P ops Q i (fun a' w' => Cond ops S c i w w' ∧ wpAnyK P ops Q S c t.len (D.setIfInBounds i true) a' w') a w := by
      intro i t hi hc2 hok ih hw
      obtain ⟨hiun, hisz⟩ := ready_false hi
      refine wpOp_mono (fun a' w' h3 => ⟨by unfold Cond; rw [if_neg (by omega)]; exact h3.1, ih a' w' ?_ h3.2⟩) hw
      rintro ⟨k, hk1, hk2, hk3⟩
      have hki : k ≠ i := by rintro rfl; omega
      refine h3.1 (needS_of hD hi hk1 ?_ hk3 hki)
      rw [getD_set_ne false (Ne.symm hki)] at hk2; exact hk2
    have hi : i ∈ Region.ready .any ops D := by rw [hr]; simp
    have hj : j ∈ Region.ready .any ops D := by rw [hr]; simp
    refine ⟨fun h => (by rw [h] at hi; cases hi), fun k hk => ?_⟩
    rw [hr] at hk
    simp only [List.mem_cons, List.not_mem_nil, or_false] at hk
    rcases hk with rfl | rfl
    · exact step k s hi hci hoks (fun a' w' hS' hw' => walkO_sound hsel hQ s _ a' w' (hD.set hi) hS' hoks hw') h.1
    · have := step k t hj hcj hokt (fun a' w' hS' hw' => walkO_sound hsel hQ t _ a' w' (hD.set hj) hS' hokt hw') h.2
      rw [← hlen] at this
      exact this
theorem wp_region_ord {id : Nat} {l : List Oper} {a : Act} {w : World} (c : List Nat) (t : Ord) (S : World → Prop) (hm : P.follows .mixedOrders = true) (hsel : Region.noSelect l.toArray = true)
    (hlen : t.len = l.length) (hok : okO l.toArray c t (Array.replicate l.toArray.size false) = true) (hQ : ∀ c d v a w, Q (.panic c) (a.put d v) w → Q (.panic c) a w)
    (hS : S w.drew) (h : walkO P l.toArray Q S c t a w.drew) : (Code.region id l.toArray true).wp P Q a w := by
  refine wp_region_any hm ?_
  rw [show l.toArray.size = t.len by simp [hlen]]
  refine wpAny_of_K _ _ _ _ (walkO_sound (S := S) (c := c) hsel hQ t _ a _ ?_ (fun _ => hS) ?_ h)
  · intro j oj _ hl
    rw [getD_replicate_false] at hl
    cases hl
  · rw [show t.len = l.toArray.size by simp [hlen]]; exact hok
section
variable {c : List Nat} {t s : Ord} {i j : Nat} {o o' : Oper} {a : Act} {w : World}
theorem ord_done (h : Q .normal a w) : walkO P ops Q S c .done a w := h
theorem ord_pure {v : Value} (ho : ops[i]? = some o) (hc : cl c i = 0) (hg : o.guard = none) (hv : ∀ w, (execOp a.eval o).run P w = .ok (.value v) w)
    (h : walkO P ops Q S c t (a.put o.dst v) w) : walkO P ops Q S c (.one i t) a w := by
  unfold walkO
  simp only [ho, hc, if_true]
  exact ⟨v, .inl ⟨by simp [Region.wanted, hg], fun w _ => .inl (hv w)⟩, h⟩
theorem ord_read {v : Value} (ho : ops[i]? = some o) (hc : cl c i = 1) (hg : o.guard = none) (hv : ∀ w, S w → (execOp a.eval o).run P w = .ok (.value v) w)
    (h : walkO P ops Q S c t (a.put o.dst v) w) : walkO P ops Q S c (.one i t) a w := by
  unfold walkO
  simp only [ho, hc]
  exact ⟨v, .inl ⟨by simp [Region.wanted, hg], fun w hw => .inl (hv w hw)⟩, h⟩
theorem ord_calm {v : Value} {f : FuncId} {args : Array Value} (ho : ops[i]? = some o) (hc : cl c i = 1) (hg : o.guard = none) (hv : ∀ w, S w → (execOp a.eval o).run P w = .ok (.enter f args) w)
    (hk : ∀ w, S w → Calls P f args w (fun e w'' => e = .returned v ∧ w'' = w))
    (h : walkO P ops Q S c t (a.put o.dst v) w) : walkO P ops Q S c (.one i t) a w := by
  unfold walkO
  simp only [ho, hc]
  exact ⟨v, .inl ⟨by simp [Region.wanted, hg], fun w hw => .inr ⟨f, args, hv w hw, hk w hw⟩⟩, h⟩
theorem ord_alt (ho : ops[i]? = some o) (ho' : ops[j]? = some o') (hg : o.guard = none) (hg' : o'.guard = none)
    (h1 : ∀ K : Act → World → Prop, (∀ a' w', (needS ops c i = true → S w') → walkO P ops Q S c s a' w' → K a' w') → o.wp P a w K Q ∨ (o.asks P a w ∧ LetsOut Q))
    (h2 : ∀ K : Act → World → Prop, (∀ a' w', (needS ops c j = true → S w') → walkO P ops Q S c t a' w' → K a' w') → o'.wp P a w K Q ∨ (o'.asks P a w ∧ LetsOut Q)) : walkO P ops Q S c (.alt i j s t) a w := by
  unfold walkO wpOp
  simp only [ho, ho', Region.wanted, hg, hg', if_true]
  exact ⟨h1 _ fun a' w' h h' => ⟨h, h'⟩, h2 _ fun a' w' h h' => ⟨h, h'⟩⟩
theorem ord_one (ho : ops[i]? = some o) (hc : cl c i = 2) (hg : o.guard = none)
    (h : ∀ K : Act → World → Prop, (∀ a' w', (needS ops c i = true → S w') → walkO P ops Q S c t a' w' → K a' w') → o.wp P a w K Q ∨ (o.asks P a w ∧ LetsOut Q)) : walkO P ops Q S c (.one i t) a w := by
  unfold walkO
  simp only [ho, hc]
  unfold wpOp
  simp only [ho, Region.wanted, hg, if_true]
  exact h _ fun a' w' h1 h2 => ⟨h1, h2⟩
end
-- the steps
section
variable {c t : List Nat} {i : Nat} {o : Oper} {a : Act} {w : World}
theorem walk_nil (h : Q .normal a w) : walkT P ops Q S c [] a w := h
/-- A pure operation. -/
theorem walk_pure {v : Value} (ho : ops[i]? = some o) (hc : cl c i = 0) (hg : o.guard = none) (hv : ∀ w, (execOp a.eval o).run P w = .ok (.value v) w)
    (h : walkT P ops Q S c t (a.put o.dst v) w) : walkT P ops Q S c (i :: t) a w := by
  unfold walkT
  simp only [ho, hc, if_true]
  exact ⟨v, .inl ⟨by simp [Region.wanted, hg], fun w _ => .inl (hv w)⟩, h⟩
/-- One that reads what S keeps. -/
theorem walk_read {v : Value} (ho : ops[i]? = some o) (hc : cl c i = 1) (hg : o.guard = none) (hv : ∀ w, S w → (execOp a.eval o).run P w = .ok (.value v) w)
    (h : walkT P ops Q S c t (a.put o.dst v) w) : walkT P ops Q S c (i :: t) a w := by
  unfold walkT
  simp only [ho, hc]
  exact ⟨v, .inl ⟨by simp [Region.wanted, hg], fun w hw => .inl (hv w hw)⟩, h⟩
/-- A call that leaves the world alone. -/
theorem walk_calm {v : Value} {f : FuncId} {args : Array Value} (ho : ops[i]? = some o) (hc : cl c i = 1) (hg : o.guard = none) (hv : ∀ w, S w → (execOp a.eval o).run P w = .ok (.enter f args) w)
    (hk : ∀ w, S w → Calls P f args w (fun e w'' => e = .returned v ∧ w'' = w))
    (h : walkT P ops Q S c t (a.put o.dst v) w) : walkT P ops Q S c (i :: t) a w := by
  unfold walkT
  simp only [ho, hc]
  exact ⟨v, .inl ⟨by simp [Region.wanted, hg], fun w hw => .inr ⟨f, args, hv w hw, hk w hw⟩⟩, h⟩
/-- Any other one. -/
theorem walk_op (ho : ops[i]? = some o) (hc : cl c i = 2) (hg : o.guard = none)
    (h : ∀ K : Act → World → Prop, (∀ a' w', (needS ops c i = true → S w') → walkT P ops Q S c t a' w' → K a' w') → o.wp P a w K Q) : walkT P ops Q S c (i :: t) a w := by
  unfold walkT
  simp only [ho, hc]
  unfold wpOp
  simp only [ho, Region.wanted, hg, if_true]
  exact .inl (h _ fun a' w' h1 h2 => ⟨h1, h2⟩)
/-- Any other one, which may find no room. -/
theorem walk_op' (ho : ops[i]? = some o) (hc : cl c i = 2) (hg : o.guard = none)
    (h : ∀ K : Act → World → Prop, (∀ a' w', (needS ops c i = true → S w') → walkT P ops Q S c t a' w' → K a' w') → o.wp P a w K Q ∨ (o.asks P a w ∧ LetsOut Q)) : walkT P ops Q S c (i :: t) a w := by
  unfold walkT
  simp only [ho, hc]
  unfold wpOp
  simp only [ho, Region.wanted, hg, if_true]
  exact h _ fun a' w' h1 h2 => ⟨h1, h2⟩
/-- A tail behind all that reads: as any list of operations. -/
theorem walk_tail : ∀ (t : List Nat) (l : List Oper) (a : Act) (w : World), (t.all fun i => cl c i == 2 && !needS ops c i) = true → t.map (fun i => ops[i]?) = l.map some → wpList P ops Q l a w → walkT P ops Q S c t a w
  | [], [], _, _, _, _, h => h
  | [], _ :: _, _, _, _, hl, _ => by simp at hl
  | _ :: _, [], _, _, _, hl, _ => by simp at hl
  | i :: t, o :: l, a, w, ht, hl, h => by
    simp only [List.all_cons, Bool.and_eq_true, beq_iff_eq, Bool.not_eq_true'] at ht
    simp only [List.map_cons, List.cons.injEq] at hl
    unfold walkT
    simp only [hl.1, ht.1.1]
    unfold wpOp
    simp only [hl.1]
    unfold wpList at h
    have mono : ∀ a' w', wpList P ops Q l a' w' → ((needS ops c i = true → S w') ∧ walkT P ops Q S c t a' w') := fun a' w' h' =>
      ⟨fun hn => (by rw [ht.1.2] at hn; cases hn), walk_tail t l a' w' ht.2 hl.2 h'⟩
    by_cases hw : Region.wanted o (yielded ops a.tmps) = true
    · simp only [hw, if_true] at h ⊢
      exact h.imp (Oper.wp_mono mono) id
    · simp only [hw] at h ⊢
      exact mono _ _ h
/-- The same where the tail is all from the n-th operation on. -/
theorem walk_rest {l : List Oper} (n : Nat) (ht : (t.all fun i => cl c i == 2 && !needS l.toArray c i) = true) (hl : t.map (fun i => l.toArray[i]?) = (l.drop n).map some) (h : wpList P l.toArray Q (l.drop n) a w) : walkT P l.toArray Q S c t a w :=
  walk_tail t _ a w ht hl h
/-- Any other one, behind all that reads. -/
theorem walk_free (ho : ops[i]? = some o) (hc : cl c i = 2) (hg : o.guard = none) (hn : needS ops c i = false)
    (h : ∀ K : Act → World → Prop, (∀ a' w', walkT P ops Q S c t a' w' → K a' w') → o.wp P a w K Q) : walkT P ops Q S c (i :: t) a w :=
  walk_op ho hc hg fun K hK => h K fun a' w' h' => hK a' w' (fun hx => by rw [hn] at hx; cases hx) h'
theorem wp_then {K : Act → World → Prop} (h : o.wp P a w K (Exit.then K Q)) : o.wp P a w K Q := by
  unfold Oper.wp at *
  generalize (execOp a.eval o).run P w = r at *
  cases r with
  | ok n w' =>
    cases n <;> simp only [Oper.upon] at h ⊢ <;> first | exact h | (refine Calls.mono h fun e w'' he => ?_; cases e <;> exact he)
  | halt x w' => cases x <;> simp only [Oper.upon] at h ⊢ <;> exact h
/-- A law on lists of operations, at one operation. -/
theorem wp_of_list {K : Act → World → Prop} (hg : o.guard = none) (h : wpList P ops (Exit.then K Q) [o] a w) : o.wp P a w K Q ∨ (o.asks P a w ∧ LetsOut Q) := by
  unfold wpList at h
  rw [if_pos (by simp [Region.wanted, hg])] at h
  rcases h with h | h
  · exact .inl (wp_then h)
  · exact .inr h
/-- Two ways that meet. -/
theorem two_ways {G : Prop} {R : Nat → Nat → World → Prop} {Fr : Nat → Nat → Act} {X : Act → World → Prop} (main : (∀ b1 b2 w, R b1 b2 w → X (Fr b1 b2) w) → G) (cont : ∀ b1 b2 w, R b1 b2 w → X (Fr b1 b2) w) : G := main cont
end
end
end Go.Q
