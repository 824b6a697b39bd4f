/-
  Plain facts on sources: joined, cut, with blanks put in, printed and read again. No program.
-/
import Derived.Test.YtjfccohgkgcnfaaGreatDoorPb
namespace Go.Lx
inductive Good (n : Nat) : List UInt8 → List Tok → Prop
  | fin : Good n [] [⟨5, n, [], 0⟩]
  | cons {r s t : List UInt8} {k v : Nat} {l : List Tok} : tok r = .ok k s v t → Good n (skip false t) l → Good n r (⟨k, n - r.length, s, v⟩ :: l)
inductive Bad (n : Nat) : List UInt8 → Nat → Nat → Prop
  | here {r : List UInt8} {e : Nat} : r ≠ [] → tok r = .bad e → Bad n r (n - r.length) e
  | later {r s t : List UInt8} {k v p e : Nat} : tok r = .ok k s v t → Bad n (skip false t) p e → Bad n r p e
theorem tok_len {r s t : List UInt8} {k v : Nat} (h : tok r = .ok k s v t) : t.length < r.length := by
  obtain ⟨h1, h2, _⟩ := tok_parts h
  have : 0 < (word k s v).length := List.length_pos_iff.2 h1
  rw [h2, List.length_append]; omega
theorem tok_ne {r s t : List UInt8} {k v : Nat} (h : tok r = .ok k s v t) : r ≠ [] := by
  rintro rfl; cases h
theorem total (n : Nat) : ∀ (f : Nat) (r : List UInt8), r.length ≤ f → (∃ l, Good n r l) ∨ ∃ p e, Bad n r p e
  | 0, r, h => by obtain rfl := List.eq_nil_of_length_eq_zero (Nat.le_zero.1 h); exact .inl ⟨_, .fin⟩
  | f + 1, r, h => by
    by_cases hr : r = []
    · subst hr; exact .inl ⟨_, .fin⟩
    cases ht : tok r with
    | bad e => exact .inr ⟨_, _, .here hr ht⟩
    | ok k s v t =>
      have h1 := tok_len ht
      have h2 := skip_len false t
      rcases total n f (skip false t) (by omega) with ⟨l, hl⟩ | ⟨p, e, hb⟩
      · exact .inl ⟨_, .cons ht hl⟩
      · exact .inr ⟨_, _, .later ht hb⟩
theorem Good.unique {n : Nat} {r : List UInt8} {l l' : List Tok} (h : Good n r l) (h' : Good n r l') : l = l' := by
  induction h generalizing l' with
  | fin => cases h' with | fin => rfl | cons h _ => cases h
  | cons ht _ ih =>
    cases h' with
    | fin => cases ht
    | cons ht' hg' => rw [ht] at ht'; cases ht'; rw [ih hg']
theorem Good.notBad {n p e : Nat} {r : List UInt8} {l : List Tok} (h : Good n r l) (h' : Bad n r p e) : False := by
  induction h with
  | fin => cases h' with | here h _ => exact h rfl | later h _ => cases h
  | cons ht _ ih =>
    cases h' with
    | here _ hb => rw [ht] at hb; cases hb
    | later ht' hb => rw [ht] at ht'; cases ht'; exact ih hb
theorem Bad.unique {n p e p' e' : Nat} {r : List UInt8} (h : Bad n r p e) (h' : Bad n r p' e') : p = p' ∧ e = e' := by
  induction h with
  | here _ hb => cases h' with | here _ hb' => rw [hb] at hb'; cases hb'; exact ⟨rfl, rfl⟩ | later ht _ => rw [hb] at ht; cases ht
  | later ht _ ih => cases h' with | here _ hb' => rw [ht] at hb'; cases hb' | later ht' hb => rw [ht] at ht'; cases ht'; exact ih hb
theorem Good.last {n : Nat} {r : List UInt8} {l : List Tok} (h : Good n r l) : ∃ l0, l = l0 ++ [⟨5, n, [], 0⟩] ∧ (∀ x ∈ l0, 1 ≤ x.kind ∧ x.kind ≤ 4) := by
  induction h with
  | fin => exact ⟨[], rfl, by simp⟩
  | cons ht _ ih =>
    obtain ⟨l0, rfl, h2⟩ := ih
    obtain ⟨_, _, _, hk1, hk2⟩ := tok_parts ht
    exact ⟨_ :: l0, rfl, fun x hx => by
      rcases List.mem_cons.1 hx with rfl | h
      · exact ⟨hk1, hk2⟩
      · exact h2 x h⟩
def shift (d : Nat) (x : Tok) : Tok := { x with at_ := x.at_ + d }
theorem Good.shift {n d : Nat} {r : List UInt8} {l : List Tok} (h : Good n r l) (hr : r.length ≤ n) : Good (n + d) r (l.map (Lx.shift d)) := by
  induction h with
  | fin => exact .fin
  | @cons r s t k v l ht _ ih =>
    have h1 := tok_len ht
    have h2 := skip_len false t
    have h3 := ih (by omega)
    have e : n - r.length + d = n + d - r.length := by omega
    rw [List.map_cons]
    show Good _ _ (⟨k, n - r.length + d, s, v⟩ :: _)
    rw [e]
    exact .cons ht h3
theorem Bad.shift {n d p e : Nat} {r : List UInt8} (h : Bad n r p e) (hr : r.length ≤ n) : Bad (n + d) r (p + d) e := by
  induction h with
  | @here r e h1 h2 =>
    have e : n - r.length + d = n + d - r.length := by omega
    rw [e]; exact .here h1 h2
  | @later r s t k v p e ht _ ih =>
    have h1 := tok_len ht
    have h2 := skip_len false t
    exact .later ht (ih (by omega))
/-- Behind a line feed. -/
theorem skip_feed (t b : List UInt8) : skip false (t ++ 10 :: b) = skip false (skip false t ++ 10 :: b) := by
  cases h : skip false t with
  | nil => rw [skip_join false t b h]; rw [List.nil_append, show skip false (10 :: b) = skip false b from rfl]
  | cons c r =>
    obtain ⟨h1, h2⟩ := skip_head false t h
    rw [skip_app false t _ h, List.cons_append, skip_stay h1 h2]
theorem skip_self_app {r : List UInt8} (h : skip false r = r) (hne : r ≠ []) (x : List UInt8) : skip false (r ++ x) = r ++ x := by
  cases r with
  | nil => exact absurd rfl hne
  | cons c r => rw [skip_app false _ x h]
theorem sep_feed (t b : List UInt8) : Sep t (t ++ 10 :: b) := by
  cases t with
  | nil => exact .inr (.inl ⟨10, b, rfl, .inl (by decide)⟩)
  | cons c r => exact .inr (.inr ⟨c, r ++ 10 :: b, r, rfl, rfl⟩)
theorem tok_feed {r s t : List UInt8} {k v : Nat} (h : tok r = .ok k s v t) (b : List UInt8) : tok (r ++ 10 :: b) = .ok k s v (t ++ 10 :: b) := by
  obtain ⟨_, e, h3, _⟩ := tok_parts h
  have := h3 (t ++ 10 :: b) (sep_feed t b)
  rw [← List.append_assoc, ← e] at this
  exact this
theorem join_good {n N : Nat} {r b : List UInt8} {l : List Tok} (h : Good n r l) (hr : skip false r = r) (hn : r.length ≤ n) (hN : N = n + 1 + b.length) :
    ∃ l0, l = l0 ++ [⟨5, n, [], 0⟩] ∧ (∀ m, Good N (skip false b) m → Good N (skip false (r ++ 10 :: b)) (l0 ++ m)) ∧ (∀ p e, Bad N (skip false b) p e → Bad N (skip false (r ++ 10 :: b)) p e) := by
  induction h with
  | fin =>
    refine ⟨[], rfl, fun m hm => ?_, fun p e hb => ?_⟩
    · rw [List.nil_append, show skip false (10 :: b) = skip false b from rfl]; exact hm
    · rw [List.nil_append, show skip false (10 :: b) = skip false b from rfl]; exact hb
  | @cons r s t k v l ht hg ih =>
    have h1 := tok_len ht
    have h2 := skip_len false t
    obtain ⟨l0, rfl, i1, i2⟩ := ih (skip_idem false t) (by omega)
    have e : n - r.length = N - (r ++ 10 :: b).length := by simp only [List.length_append, List.length_cons]; omega
    refine ⟨⟨k, n - r.length, s, v⟩ :: l0, rfl, fun m hm => ?_, fun p e2 hb => ?_⟩
    · rw [skip_self_app hr (tok_ne ht), List.cons_append, e]
      refine .cons (tok_feed ht b) ?_
      rw [skip_feed]; exact i1 m hm
    · rw [skip_self_app hr (tok_ne ht)]
      refine .later (tok_feed ht b) ?_
      rw [skip_feed]; exact i2 p e2 hb
theorem join_bad {n N p e : Nat} {r b : List UInt8} (h : Bad n r p e) (hr : skip false r = r) (hn : r.length ≤ n) (hN : N = n + 1 + b.length) : Bad N (skip false (r ++ 10 :: b)) p e := by
  induction h with
  | @here r e h1 h2 =>
    have e2 : n - r.length = N - (r ++ 10 :: b).length := by simp only [List.length_append, List.length_cons]; omega
    rw [skip_self_app hr h1, e2]
    exact .here (by simp) (tok_bad_app b h1 h2)
  | @later r s t k v p e ht _ ih =>
    have h1 := tok_len ht
    have h2 := skip_len false t
    rw [skip_self_app hr (tok_ne ht)]
    refine .later (tok_feed ht b) ?_
    rw [skip_feed]; exact ih (skip_idem false t) (by omega)
-- cutting
theorem skip_cut : ∀ (m : Bool) (a : List UInt8) {c : UInt8} {r : List UInt8}, skip m a = c :: r → ∃ w, a = w ++ c :: r ∧ ∀ x, skip m (w ++ x) = skip false x
  | m, [], c, r, h => by cases m <;> simp [skip] at h
  | false, d :: a, c, r, h => by
    unfold skip at h
    by_cases hb : isBlank d = true
    · rw [if_pos hb] at h
      obtain ⟨w, e, hw⟩ := skip_cut false a h
      exact ⟨d :: w, by rw [e]; rfl, fun x => by rw [List.cons_append, skip_false_cons, if_pos hb]; exact hw x⟩
    · rw [if_neg hb] at h
      by_cases h35 : d = 35
      · rw [if_pos h35] at h
        obtain ⟨w, e, hw⟩ := skip_cut true a h
        exact ⟨d :: w, by rw [e]; rfl, fun x => by rw [List.cons_append, skip_false_cons, if_neg hb, if_pos h35]; exact hw x⟩
      · rw [if_neg h35] at h
        exact ⟨[], by rw [h]; rfl, fun x => rfl⟩
  | true, d :: a, c, r, h => by
    unfold skip at h
    by_cases h10 : d = 10
    · rw [if_pos h10] at h
      obtain ⟨w, e, hw⟩ := skip_cut false a h
      exact ⟨d :: w, by rw [e]; rfl, fun x => by rw [List.cons_append, skip_true_cons, if_pos h10]; exact hw x⟩
    · rw [if_neg h10] at h
      obtain ⟨w, e, hw⟩ := skip_cut true a h
      exact ⟨d :: w, by rw [e]; rfl, fun x => by rw [List.cons_append, skip_true_cons, if_neg h10]; exact hw x⟩
theorem sep_cut {t x y : List UInt8} (h : t = x ++ y) : Sep t x := by
  cases x with
  | nil => exact .inl rfl
  | cons c r => exact .inr (.inr ⟨c, r, r ++ y, rfl, h⟩)
theorem head_stay {r x : List UInt8} (hr : skip false r = r) {c : UInt8} {a b : List UInt8} (e : r = c :: a) (e2 : x = c :: b) : skip false x = x := by
  subst e; obtain ⟨h1, h2⟩ := skip_head false _ hr; subst e2; exact skip_stay h1 h2
theorem stop_good {n p e : Nat} {r : List UInt8} (h : Bad n r p e) (hr : skip false r = r) (hn : r.length ≤ n) :
    ∃ pre bad, r = pre ++ bad ∧ bad ≠ [] ∧ p = n - bad.length ∧ ∃ l, l ≠ [] ∧ Good p (skip false pre) l := by
  induction h with
  | @here r e h1 h2 => exact ⟨[], r, rfl, h1, rfl, _, by simp, .fin⟩
  | @later r s t k v p e ht hb ih =>
    have h1 := tok_len ht
    have h2 := skip_len false t
    obtain ⟨pre, bad, e1, e2, e3, l, hl, hg⟩ := ih (skip_idem false t) (by omega)
    obtain ⟨d, a, ed⟩ : ∃ d a, skip false t = d :: a := by
      cases hs : skip false t with
      | nil => rw [hs] at e1; simp at e1; exact absurd e1.2 e2
      | cons d a => exact ⟨d, a, rfl⟩
    obtain ⟨w, ew, hw⟩ := skip_cut false t ed
    rw [← ed] at ew
    obtain ⟨t1, t2, t3, _⟩ := tok_parts ht
    have et : t = (w ++ pre) ++ bad := by rw [List.append_assoc, ← e1]; exact ew
    refine ⟨word k s v ++ (w ++ pre), bad, by rw [List.append_assoc, ← et]; exact t2, e2, e3, ⟨k, p - (word k s v ++ (w ++ pre)).length, s, v⟩ :: l, by simp, ?_⟩
    · have hst : skip false (word k s v ++ (w ++ pre)) = word k s v ++ (w ++ pre) := by
        obtain ⟨c, u, ec⟩ : ∃ c u, word k s v = c :: u := by cases hw2 : word k s v with | nil => exact absurd hw2 t1 | cons c u => exact ⟨c, u, rfl⟩
        refine head_stay hr (c := c) (a := u ++ t) (b := u ++ (w ++ pre)) ?_ ?_
        · rw [t2, ec]; rfl
        · rw [ec]; rfl
      rw [hst]
      refine .cons (t3 _ (sep_cut et)) ?_
      rw [hw]; exact hg
-- blanks put in
def Tok.core (x : Tok) : Nat × List UInt8 × Nat := (x.kind, x.s, x.n)
theorem Good.re {n : Nat} {r : List UInt8} {l : List Tok} (h : Good n r l) (n' : Nat) : ∃ l', Good n' r l' ∧ l'.map Tok.core = l.map Tok.core := by
  induction h with
  | fin => exact ⟨_, .fin, rfl⟩
  | cons ht _ ih =>
    obtain ⟨l', h1, h2⟩ := ih
    exact ⟨_, .cons ht h1, by rw [List.map_cons, List.map_cons, h2]; rfl⟩
theorem put_good {n : Nat} {r : List UInt8} {l : List Tok} (h : Good n r l) (hr : skip false r = r) (hn : r.length ≤ n) {z : List UInt8} {zc : UInt8} {zr : List UInt8} (hz0 : z = zc :: zr) (hz1 : isBlank zc = true ∨ zc = 35) (hz : ∀ y, skip false (z ++ y) = skip false y) (n' : Nat) :
    ∀ (i : Nat) (x : Tok), l[i]? = some x → x.kind ≠ 5 → ∃ pre post, r = pre ++ post ∧ post ≠ [] ∧ x.at_ = n - post.length ∧ ∃ l', Good n' (skip false (pre ++ (z ++ post))) l' ∧ l'.map Tok.core = l.map Tok.core := by
  induction h with
  | fin =>
    intro i x hx hk
    cases i with
    | zero => simp at hx; subst hx; exact absurd rfl hk
    | succ i => simp at hx
  | @cons r s t k v l ht hg ih =>
    intro i x hx hk
    have h1 := tok_len ht
    have h2 := skip_len false t
    cases i with
    | zero =>
      simp at hx
      subst hx
      obtain ⟨l', g1, g2⟩ := (Good.cons ht hg).re n'
      exact ⟨[], r, rfl, tok_ne ht, rfl, l', by rw [List.nil_append, hz, hr]; exact g1, g2⟩
    | succ i =>
      simp at hx
      obtain ⟨pre, post, e1, e2, e3, l', hg', hc⟩ := ih (skip_idem false t) (by omega) i x hx hk
      obtain ⟨d, a, ed⟩ : ∃ d a, skip false t = d :: a := by
        cases hs : skip false t with
        | nil => rw [hs] at e1; simp at e1; exact absurd e1.2 e2
        | cons d a => exact ⟨d, a, rfl⟩
      obtain ⟨w, ew, hw⟩ := skip_cut false t ed
      rw [← ed] at ew
      obtain ⟨t1, t2, t3, _⟩ := tok_parts ht
      have et : t = (w ++ pre) ++ post := by rw [List.append_assoc, ← e1]; exact ew
      have hsep : Sep t ((w ++ pre) ++ (z ++ post)) := by
        cases hwp : w ++ pre with
        | nil => exact .inr (.inl ⟨zc, zr ++ post, by rw [hz0]; rfl, hz1⟩)
        | cons c u => exact .inr (.inr ⟨c, u ++ (z ++ post), u ++ post, rfl, by rw [et, hwp]; rfl⟩)
      have hst : skip false (word k s v ++ ((w ++ pre) ++ (z ++ post))) = word k s v ++ ((w ++ pre) ++ (z ++ post)) := by
        obtain ⟨c, u, ec⟩ : ∃ c u, word k s v = c :: u := by cases hw2 : word k s v with | nil => exact absurd hw2 t1 | cons c u => exact ⟨c, u, rfl⟩
        refine head_stay hr (c := c) (a := u ++ t) (b := u ++ ((w ++ pre) ++ (z ++ post))) ?_ ?_
        · rw [t2, ec]; rfl
        · rw [ec]; rfl
      refine ⟨word k s v ++ (w ++ pre), post, by rw [List.append_assoc, ← et]; exact t2, e2, e3, ⟨k, n' - (word k s v ++ ((w ++ pre) ++ (z ++ post))).length, s, v⟩ :: l', ?_, by rw [List.map_cons, List.map_cons, hc]; rfl⟩
      rw [List.append_assoc, hst]
      refine .cons (t3 _ hsep) ?_
      rw [List.append_assoc, hw]; exact hg'
-- printing
def Tok.word (x : Tok) : List UInt8 := Lx.word x.kind x.s x.n
def isPrinted (x : Tok) : Bool := 1 ≤ x.kind && x.kind ≤ 4
def joinSp : List (List UInt8) → List UInt8
  | [] => []
  | [w] => w
  | w :: v :: r => w ++ 32 :: joinSp (v :: r)
def print (l : List Tok) : List UInt8 := joinSp ((l.filter isPrinted).map Tok.word)
theorem print_core {l l' : List Tok} (h : l.map Tok.core = l'.map Tok.core) : print l = print l' := by
  have : ∀ (l l' : List Tok), l.map Tok.core = l'.map Tok.core → (l.filter isPrinted).map Tok.word = (l'.filter isPrinted).map Tok.word := by
    intro l
    induction l with
    | nil => intro l' h; cases l' with | nil => rfl | cons _ _ => simp at h
    | cons x l ih =>
      intro l' h
      cases l' with
      | nil => simp at h
      | cons y l' =>
        simp only [List.map_cons, List.cons.injEq] at h
        obtain ⟨hxy, hl⟩ := h
        obtain ⟨k1, a1, s1, n1⟩ := x
        obtain ⟨k2, a2, s2, n2⟩ := y
        simp only [Tok.core, Prod.mk.injEq] at hxy
        obtain ⟨rfl, rfl, rfl⟩ := hxy
        by_cases hk : isPrinted ⟨k1, a1, s1, n1⟩ = true
        · have hk2 : isPrinted ⟨k1, a2, s1, n1⟩ = true := hk
          rw [List.filter_cons, List.filter_cons, if_pos hk, if_pos hk2, List.map_cons, List.map_cons, ih l' hl]; rfl
        · have hk2 : ¬ isPrinted ⟨k1, a2, s1, n1⟩ = true := hk
          rw [List.filter_cons, List.filter_cons, if_neg hk, if_neg hk2]; exact ih l' hl
  unfold print; rw [this _ _ h]
theorem print_good {n : Nat} {r : List UInt8} {l : List Tok} (h : Good n r l) (hr : skip false r = r) (n' : Nat) :
    skip false (print l) = print l ∧ ((r = [] ∧ print l = []) ∨ (r ≠ [] ∧ print l ≠ [])) ∧ ∃ l', Good n' (print l) l' ∧ l'.map Tok.core = l.map Tok.core := by
  induction h with
  | fin => exact ⟨rfl, .inl ⟨rfl, rfl⟩, _, .fin, rfl⟩
  | @cons r s t k v l ht hg ih =>
    obtain ⟨i1, i2, l', i3, i4⟩ := ih (skip_idem false t)
    obtain ⟨t1, t2, t3, hk1, hk2⟩ := tok_parts ht
    have hpr : isPrinted ⟨k, n - r.length, s, v⟩ = true := by simp [isPrinted, hk1, hk2]
    have hp : ∃ y, print (⟨k, n - r.length, s, v⟩ :: l) = word k s v ++ y ∧ Sep [] y ∧ skip false y = print l := by
      unfold print at i1 i2 ⊢
      rw [List.filter_cons, if_pos hpr, List.map_cons]
      cases hw : (l.filter isPrinted).map Tok.word with
      | nil =>
        refine ⟨[], by simp [joinSp, Tok.word], .inl rfl, rfl⟩
      | cons w ws =>
        refine ⟨32 :: joinSp (w :: ws), rfl, .inr (.inl ⟨32, _, rfl, .inl (by decide)⟩), ?_⟩
        rw [hw] at i1
        rw [skip_false_cons, if_pos (by decide)]; exact i1
    obtain ⟨y, e, hy, hsk⟩ := hp
    obtain ⟨c, u, ec⟩ : ∃ c u, word k s v = c :: u := by cases hw2 : word k s v with | nil => exact absurd hw2 t1 | cons c u => exact ⟨c, u, rfl⟩
    have hsep : Sep t y := by
      rcases hy with h | h | ⟨c, r, r', h1, h2⟩
      · exact .inl h
      · exact .inr (.inl h)
      · cases h2
    refine ⟨?_, .inr ⟨tok_ne ht, by rw [e, ec]; simp⟩, ⟨k, n' - (word k s v ++ y).length, s, v⟩ :: l', ?_, by rw [List.map_cons, List.map_cons, i4]; rfl⟩
    · rw [e]
      refine head_stay hr (c := c) (a := u ++ t) (b := u ++ y) ?_ ?_
      · rw [t2, ec]; rfl
      · rw [ec]; rfl
    · rw [e]
      refine .cons (t3 _ hsep) ?_
      rw [hsk]; exact i3
end Go.Lx
