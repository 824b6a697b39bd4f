/-
  The law LexerReadsItsText, walked in plain values.
-/
import Derived.Test.YtjfccohgkgcnfaaGreatDoorB5
import Derived.Test.YtjfccohgkgcnfaaGreatDoorC5
import Derived.Test.YtjfccohgkgcnfaaGreatDoorA11
namespace Go.Proofs.YtjfccohgkgcnfaaGreatDoor
open Go.RowKit Go.Q Go.Lx Go.Vl
set_option maxRecDepth 100000
set_option maxHeartbeats 1000000
theorem dec_eq : ∀ (m n : Nat), n < m → Lib.decDigits n = Lx.dec n
  | 0, n, h => by omega
  | m + 1, n, h => by
    rw [Lib.decDigits, Lx.dec]
    by_cases hn : n < 10
    · rw [dif_pos hn, dif_pos hn]
    · rw [dif_neg hn, dif_neg hn, dec_eq m (n / 10) (by omega)]
theorem itoa_dec (n : Nat) : Lib.itoa (n : Int) = Lx.dec n := by
  unfold Lib.itoa
  rw [if_neg (by omega), Int.toNat_natCast, dec_eq (n + 1) n (Nat.lt_succ_self n)]
theorem word_tok (t : Tok) (h : t.kind ≤ 5) : wordR (toRT t) = if Lx.isPrinted t then [t.word] else [] := by
  obtain ⟨k, a, s, n⟩ := t
  unfold wordR toRT Lx.isPrinted Lx.Tok.word Lx.word
  simp only at h ⊢
  rw [itoa_dec]
  match k, h with
  | 0, _ => rfl
  | 1, _ => rfl
  | 2, _ => rfl
  | 3, _ => rfl
  | 4, _ => rfl
  | 5, _ => rfl
theorem words_tok : ∀ (l : List Tok), (∀ t ∈ l, t.kind ≤ 5) → wordsR (l.map toRT) = (l.filter Lx.isPrinted).map Lx.Tok.word
  | [], _ => rfl
  | t :: l, h => by
    have ih := words_tok l fun x hx => h x (by simp [hx])
    have hw := word_tok t (h t (by simp))
    unfold wordsR at ih ⊢
    rw [List.map_cons, List.flatMap_cons, ih, hw, List.filter_cons]
    split <;> simp
theorem join_sp : ∀ ws : List (List UInt8), Lib.join ws [32] = Lx.joinSp ws
  | [] => rfl
  | [w] => by rw [Lib.join_one]; rfl
  | w :: v :: r => by
    have ih := join_sp (v :: r)
    rw [Lib.join_cons] at ih ⊢
    show _ = w ++ 32 :: Lx.joinSp (v :: r)
    rw [← ih]
    unfold Lib.joinTail
    simp
theorem print_tok (l : List Tok) (h : ∀ t ∈ l, t.kind ≤ 5) : Lib.join (wordsR (l.map toRT)) [32] = Lx.print l := by
  rw [words_tok l h, join_sp]; rfl
theorem quot1_pos (c : UInt8) : 1 ≤ (quot1 c).length := by
  unfold quot1
  split
  · simp
  · split <;> simp
theorem quoted_ge : ∀ s : List UInt8, s.length ≤ (Lx.quoted s).length
  | [] => Nat.le_refl _
  | c :: s => by
    have h1 := quoted_ge s
    have h2 := quot1_pos c
    have e : Lx.quoted (c :: s) = quot1 c ++ Lx.quoted s := rfl
    rw [e, List.length_append, List.length_cons]; omega
theorem text_val : ∀ (n : Nat) (r b : List UInt8), r.length ≤ n → ∀ {k v : Nat} {s t : List UInt8}, Lx.text b r = .ok k s v t → v = 0 ∧ k = 3 := by
  intro n
  induction n with
  | zero =>
    intro r b hr k v s t h
    obtain rfl := List.eq_nil_of_length_eq_zero (Nat.le_zero.1 hr)
    unfold Lx.text at h; split at h <;> cases h
  | succ n ih =>
    intro r b hr k v s t h
    cases r with
    | nil => unfold Lx.text at h; split at h <;> cases h
    | cons c r =>
      unfold Lx.text at h
      split at h
      · cases h
      · split at h
        · cases h; exact ⟨rfl, rfl⟩
        · split at h
          · cases r with
            | nil => cases h
            | cons d r' =>
              simp only at h
              split at h
              · cases h
              · exact ih r' _ (by simp at hr; omega) h
          · split at h
            · cases h
            · exact ih r _ (by simp at hr; omega) h
/-- What stands in tokens that are read. -/
theorem tok_vals {r s t : List UInt8} {k v : Nat} (h : Lx.tok r = .ok k s v t) : v < 10 ^ 15 ∧ s.length ≤ r.length := by
  have hp := tok_parts h
  have hr := congrArg List.length hp.2.1
  rw [List.length_append] at hr
  obtain ⟨_, _, _, hk1, hk4⟩ := hp
  have hs : s.length ≤ (Lx.word k s v).length ∨ k = 2 := by
    unfold Lx.word
    split
    · exact .inl (Nat.le_refl _)
    · split
      · rename_i h2; exact .inr h2
      · split
        · refine .inl ?_
          have := quoted_ge s
          rw [List.length_append, List.length_cons]; omega
        · omega
  unfold Lx.tok at h
  cases r with
  | nil => cases h
  | cons c r' =>
    simp only at h
    split at h
    · unfold name at h
      split at h
      · cases h
      · cases h; exact ⟨by decide, by rcases hs with hs | hs <;> omega⟩
    · split at h
      · unfold number at h
        simp only at h
        split at h
        · cases h
        · rename_i hc
          cases h
          refine ⟨?_, Nat.zero_le _⟩
          simp only [Bool.or_eq_true, not_or, decide_eq_true_eq] at hc
          have hall : ∀ x ∈ List.takeWhile isDigit (c :: r'), isDigit x = true := fun x hx => by
            have := List.all_takeWhile (l := c :: r') (p := isDigit)
            rw [List.all_eq_true] at this
            exact this x hx
          exact Nat.lt_of_lt_of_le (numVal_lt _ _ rfl hall) (Nat.pow_le_pow_right (by decide) (by omega))
      · split at h
        · obtain ⟨hv, hk⟩ := text_val _ _ _ (Nat.le_refl _) h
          rw [hv]
          exact ⟨by decide, by rcases hs with hs | hs <;> omega⟩
        · unfold Lx.sign at h
          split at h
          · cases h; exact ⟨by decide, by rcases hs with hs | hs <;> omega⟩
          · simp only at h
            split at h
            · cases h; exact ⟨by decide, by rcases hs with hs | hs <;> omega⟩
            · cases h
theorem good_vals {n : Nat} {r : List UInt8} {l : List Tok} (h : Lx.Good n r l) : ∀ x ∈ l, x.kind ≤ 5 ∧ x.n < 10 ^ 15 ∧ x.s.length ≤ r.length := by
  induction h with
  | fin => intro x hx; rw [List.mem_singleton.1 hx]; exact ⟨Nat.le_refl _, Nat.pow_pos (by decide), Nat.le_refl _⟩
  | @cons r s t k v l ht hg ih =>
    intro x hx
    obtain ⟨h1, h2⟩ := tok_vals ht
    obtain ⟨_, _, _, _, hk⟩ := tok_parts ht
    have h3 := tok_len ht
    have h4 := skip_len false t
    rcases List.mem_cons.1 hx with rfl | hx
    · exact ⟨by show k ≤ 5; omega, h1, h2⟩
    · obtain ⟨k1, k2, k3⟩ := ih x hx
      exact ⟨k1, k2, by omega⟩
/-- What is printed is not much longer than what was read. -/
theorem print_len {n : Nat} {r : List UInt8} {l : List Tok} (h : Lx.Good n r l) : (Lx.print l).length ≤ 2 * r.length := by
  induction h with
  | fin => exact Nat.le_refl _
  | @cons r s t k v l ht hg ih =>
    obtain ⟨t1, t2, _, hk1, hk2⟩ := tok_parts ht
    have h3 := congrArg List.length t2
    rw [List.length_append] at h3
    have h4 := skip_len false t
    have h5 := List.length_pos_iff.2 t1
    have hpr : Lx.isPrinted ⟨k, n - r.length, s, v⟩ = true := by simp [Lx.isPrinted, hk1, hk2]
    have hw : Lx.Tok.word ⟨k, n - r.length, s, v⟩ = Lx.word k s v := rfl
    unfold Lx.print at ih ⊢
    rw [List.filter_cons, if_pos hpr, List.map_cons, hw]
    cases hws : (l.filter Lx.isPrinted).map Lx.Tok.word with
    | nil => show (Lx.word k s v).length ≤ _; omega
    | cons w ws =>
      rw [hws] at ih
      show (Lx.word k s v ++ 32 :: Lx.joinSp (w :: ws)).length ≤ _
      rw [List.length_append, List.length_cons]; omega
theorem vLaw6 (hrep : Rep) (src : ByteArray) : VC Tryz.prog 6 [.lit (.string src)] [] fun x σ' => x = .ret (.lit (.bool true)) ∧ σ' = [] := by
  refine VC.intro ⟨[0, 2, 3, 4, 5, 6, 7, 10, 19], []⟩ Tryz.func6 rfl follows ok6 (by rw [Tryz.ntmps6]; exact Nat.le_of_ble_eq_true rfl) ?_; refine WS_of ?_
  repeat (first | refine WS_seq ?_ | refine WS_block ?_ | refine WS_skip ?_ | refine WS_blk ?_ | refine WS_label ?_ | refine WS_exit rfl ?_ | refine WS_true rfl ?_ | refine WS_false rfl ?_ | (refine WS_region rfl ?_; intro K' hK hP; simp only [go_sem]; apply hK; (focus (simp only [go_sem]; exact rfl)); clear hK hP K'))
  by_cases h7 : 2000 < src.size
  · have d1 : decide ((2000 : Int) < (src.size : Int)) = true := by rw [decide_eq_true_eq]; omega
    refine WS_true (by simp only [go_sem, d1]) ?_
    repeat (first | refine WS_seq ?_ | refine WS_block ?_ | refine WS_skip ?_ | refine WS_blk ?_ | refine WS_label ?_ | refine WS_exit rfl ?_ | refine WS_true rfl ?_ | refine WS_false rfl ?_ | (refine WS_region rfl ?_; intro K' hK hP; simp only [go_sem]; apply hK; (focus (simp only [go_sem]; exact rfl)); clear hK hP K'))
    refine WS_region rfl ?_; intro K' hK hP; simp only [go_sem]; refine ((vSanity _)).mono ?_; rintro _ _ ⟨rfl, rfl⟩; simp only [go_sem]; apply hK; (focus (simp only [go_sem]; exact rfl)); clear hK hP K'
    repeat (first | refine WS_seq ?_ | refine WS_block ?_ | refine WS_skip ?_ | refine WS_blk ?_ | refine WS_label ?_ | refine WS_exit rfl ?_ | refine WS_true rfl ?_ | refine WS_false rfl ?_ | (refine WS_region rfl ?_; intro K' hK hP; simp only [go_sem]; apply hK; (focus (simp only [go_sem]; exact rfl)); clear hK hP K'))
    refine WS_ret ?_; simp only [go_sem, Tryz.results6]
  have d1 : decide ((2000 : Int) < (src.size : Int)) = false := by rw [decide_eq_false_iff_not]; omega
  have n0 : (((0 : Nat) : Int) != 0) = false := rfl
  have n00 : (((0 : Nat) : Int) == 0) = true := rfl
  have hsl := skip_len false (bl src)
  rw [bl_len] at hsl
  refine WS_false (by simp only [go_sem, d1]) ?_
  repeat (first | refine WS_seq ?_ | refine WS_block ?_ | refine WS_skip ?_ | refine WS_blk ?_ | refine WS_label ?_ | refine WS_exit rfl ?_ | refine WS_true rfl ?_ | refine WS_false rfl ?_ | (refine WS_region rfl ?_; intro K' hK hP; simp only [go_sem]; apply hK; (focus (simp only [go_sem]; exact rfl)); clear hK hP K'))
  rcases Lx.total src.size _ (skip false (bl src)) (Nat.le_refl _) with ⟨l, hg⟩ | ⟨p0, e, hb⟩
  rotate_left
  · have he := bad_code hb
    have n1 : ((e : Int) != 0) = true := bne_iff_ne.2 (by omega)
    refine WS_region rfl ?_; intro K' hK hP; simp only [go_sem]; refine ((vTokens src (by omega) _ _ _ (readBad (by omega) hb))).mono ?_; rintro _ _ ⟨rfl, rfl⟩; simp only [go_sem]; apply hK; (focus (simp only [go_sem]; exact rfl)); clear hK hP K'
    repeat (first | refine WS_seq ?_ | refine WS_block ?_ | refine WS_skip ?_ | refine WS_blk ?_ | refine WS_label ?_ | refine WS_exit rfl ?_ | refine WS_true rfl ?_ | refine WS_false rfl ?_ | (refine WS_region rfl ?_; intro K' hK hP; simp only [go_sem, n1]; apply hK; (focus (simp only [go_sem]; exact rfl)); clear hK hP K'))
    refine WS_region rfl ?_; intro K' hK hP; simp only [go_sem]
    refine ((vSanity _)).mono ?_; rintro _ _ ⟨rfl, rfl⟩; simp only [go_sem, n00]
    apply hK; (focus (simp only [go_sem]; exact rfl)); clear hK hP K'
    repeat (first | refine WS_seq ?_ | refine WS_block ?_ | refine WS_skip ?_ | refine WS_blk ?_ | refine WS_label ?_ | refine WS_exit rfl ?_ | refine WS_true rfl ?_ | refine WS_false rfl ?_ | (refine WS_region rfl ?_; intro K' hK hP; simp only [go_sem]; apply hK; (focus (simp only [go_sem]; exact rfl)); clear hK hP K'))
    refine WS_ret ?_; simp only [go_sem, Tryz.results6]
  have hvals := good_vals hg
  have hgl := good_len hg
  have hpl := print_len hg
  obtain ⟨hp1, _, l', hg', hcore⟩ := print_good hg (skip_idem false (bl src)) (Lx.print l).length
  have hpr := print_core hcore
  have hll : l'.length = l.length := by have := congrArg List.length hcore; simpa using this
  have hvals' := good_vals hg'
  have hE : ∀ m : List Tok, (∀ t ∈ m, t.kind ≤ 5 ∧ t.n < 10 ^ 15 ∧ t.s.length ≤ 1000000) → ∀ t ∈ m.map toRT, (-9223372036854775808 ≤ t.v ∧ t.v ≤ 9223372036854775807) ∧ (t.k ≠ 3 ∨ (Rep ∧ t.s.length ≤ 1000000)) := fun m hm t ht => by
    obtain ⟨x, hx, rfl⟩ := List.mem_map.1 ht
    obtain ⟨h1, h2, h3⟩ := hm x hx
    refine ⟨⟨?_, ?_⟩, .inr ⟨hrep, h3⟩⟩
    · show -9223372036854775808 ≤ (x.n : Int); omega
    · show (x.n : Int) ≤ 9223372036854775807
      have : (10 : Nat) ^ 15 ≤ 9223372036854775807 := by decide
      omega
  have hb : ∀ m : List Tok, m.length = l.length → (∀ t ∈ m, t.kind ≤ 5 ∧ t.n < 10 ^ 15 ∧ t.s.length ≤ 1000000) → Lx.print m = Lx.print l → ∀ σ : List (List PV), VC Tryz.prog 14 [.sl (m.map tkR) .shared] σ fun x σ' => x = .ret (.lit (.string ⟨⟨Lx.print l⟩⟩)) ∧ σ' = σ := fun m hm hmv hmp σ => by
    have hpt := print_tok m fun t ht => (hmv t ht).1
    have := vPrint (σ := σ) (m.map toRT) (by rw [List.length_map]; omega) (fun t ht => (hE m hmv t ht).1) (by rw [hpt, hmp]; omega) (fun t ht => (hE m hmv t ht).2) .shared
    rw [← tk_rt, hpt, hmp] at this
    exact this
  have c1 := hb l rfl (fun t ht => ⟨(hvals t ht).1, (hvals t ht).2.1, by have := (hvals t ht).2.2; omega⟩) rfl
  have c2 := hb l' hll (fun t ht => ⟨(hvals' t ht).1, (hvals' t ht).2.1, by have := (hvals' t ht).2.2; omega⟩) hpr
  have ca := fun σ => vTokens (σ := σ) src (by omega) _ _ _ (readGood (by omega) hg)
  have hsz : (⟨⟨Lx.print l⟩⟩ : ByteArray).size = (Lx.print l).length := rfl
  have cb := fun σ => vTokens (σ := σ) ⟨⟨Lx.print l⟩⟩ (by omega) _ _ _ (readGood (s := ⟨⟨Lx.print l⟩⟩) (by omega) (by show Lx.Good (Lx.print l).length (skip false (Lx.print l)) l'; rw [hp1]; exact hg'))
  have cs := fun σ => vSame σ l l' (by omega)
  rw [hcore] at cs
  obtain ⟨A, hA⟩ : ∃ A, l.map tkR = A := ⟨_, rfl⟩
  obtain ⟨B, hB⟩ : ∃ B, l'.map tkR = B := ⟨_, rfl⟩
  rw [hA] at ca c1 cs
  rw [hB] at cb c2 cs
  refine WS_region rfl ?_; intro K' hK hP; simp only [go_sem]; refine ((ca _)).mono ?_; rintro _ _ ⟨rfl, rfl⟩; simp only [go_sem]; apply hK; (focus (simp only [go_sem]; exact rfl)); clear hK hP K'
  repeat (first | refine WS_seq ?_ | refine WS_block ?_ | refine WS_skip ?_ | refine WS_blk ?_ | refine WS_label ?_ | refine WS_exit rfl ?_ | refine WS_true rfl ?_ | refine WS_false rfl ?_ | (refine WS_region rfl ?_; intro K' hK hP; simp only [go_sem, n0]; apply hK; (focus (simp only [go_sem]; exact rfl)); clear hK hP K'))
  refine WS_region rfl ?_; intro K' hK hP; simp only [go_sem]; refine ((c1 _)).mono ?_; rintro _ _ ⟨rfl, rfl⟩; simp only [go_sem]; apply hK; (focus (simp only [go_sem]; exact rfl)); clear hK hP K'
  repeat (first | refine WS_seq ?_ | refine WS_block ?_ | refine WS_skip ?_ | refine WS_blk ?_ | refine WS_label ?_ | refine WS_exit rfl ?_ | refine WS_true rfl ?_ | refine WS_false rfl ?_ | (refine WS_region rfl ?_; intro K' hK hP; simp only [go_sem]; apply hK; (focus (simp only [go_sem]; exact rfl)); clear hK hP K'))
  refine WS_region rfl ?_; intro K' hK hP; simp only [go_sem]; refine ((cb _)).mono ?_; rintro _ _ ⟨rfl, rfl⟩; simp only [go_sem]; apply hK; (focus (simp only [go_sem]; exact rfl)); clear hK hP K'
  repeat (first | refine WS_seq ?_ | refine WS_block ?_ | refine WS_blk ?_ | refine WS_skip ?_)
  refine WS_region rfl ?_; intro K' hK hP; simp only [go_sem]
  refine ((vSanity _)).mono ?_; rintro _ _ ⟨rfl, rfl⟩; simp only [go_sem, n00, Bool.and_self]
  refine ((cs _)).mono ?_; rintro _ _ ⟨rfl, rfl⟩; simp only [go_sem, decide_true]
  refine ((c2 _)).mono ?_; rintro _ _ ⟨rfl, rfl⟩; simp only [go_sem, decide_true]
  apply hK; (focus (simp only [go_sem]; exact rfl)); clear hK hP K'
  repeat (first | refine WS_seq ?_ | refine WS_block ?_ | refine WS_skip ?_ | refine WS_blk ?_ | refine WS_label ?_ | refine WS_exit rfl ?_ | refine WS_true rfl ?_ | refine WS_false rfl ?_ | (refine WS_region rfl ?_; intro K' hK hP; simp only [go_sem]; apply hK; (focus (simp only [go_sem]; exact rfl)); clear hK hP K'))
  refine WS_ret ?_; simp only [go_sem, Tryz.results6]
end Go.Proofs.YtjfccohgkgcnfaaGreatDoor
