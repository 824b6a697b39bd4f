/-
  The lexer's functions, walked in plain values: sign.
-/
import Derived.Test.YtjfccohgkgcnfaaGreatDoorA4
namespace Go.Proofs.YtjfccohgkgcnfaaGreatDoor
open Go.RowKit Go.Q Go.Lx Go.Vl
set_option maxRecDepth 100000
variable {σ : List (List PV)}
theorem tabIs {w : World} (h : glbP w) : Lib.TabIs Tryz.prog w "strings.asciiSpace" .u8 Lib.asciiSpaceTab := by
  obtain ⟨⟨⟨T, o, h0⟩, _⟩, _⟩ := h
  unfold Lib.TabIs World.var?
  rw [show Tryz.prog.globalNamed "strings.asciiSpace" = some 0 from by kernel_rfl]
  simp only [Option.bind_some, h0]
/-- The signs of two bytes, as the program writes them. -/
def longs : ByteArray := ⟨#[45, 62, 32, 58, 61, 32, 61, 61, 32, 33, 61, 32, 60, 61, 32, 62, 61, 32, 38, 38, 32, 124, 124, 32, 46, 46]⟩
theorem fields_longs : Lib.fields longs.data.toList = long := by decide +kernel
theorem ascii_longs : ∀ (j : Nat) (b : UInt8), longs.data.toList[j]? = some b → b.toNat < 128 := by
  have h : ∀ b ∈ longs.data.toList, b.toNat < 128 := by decide
  exact fun j b hb => h b (List.mem_of_getElem? hb)
theorem vFields : VC Tryz.prog 51 [.lit (.string longs)] σ fun x σ' => x = .ret (.sl (long.map fun l => [.lit (.string ⟨⟨l⟩⟩)]) .full) ∧ σ' = σ := by
  have h := VC.freshSl (P := Tryz.prog) (f := 51) (σ := σ) [.string longs] (long.map fun l => .string ⟨⟨l⟩⟩) 9 (by simp [long, Value.oneCell']) (by decide) fun w hg => by
    have := Tryz.strings_Fields longs w (by decide) ascii_longs (tabIs hg)
    rw [fields_longs] at this
    refine this.mono fun e w' h => ?_
    rw [List.length_map]
    exact h
  rw [List.map_map] at h
  exact h
theorem vHasPrefix (s p : ByteArray) : VC Tryz.prog 52 [.lit (.string s), .lit (.string p)] σ fun x σ' => x = .ret (.lit (.bool (Lib.hasPrefix (bl s) (bl p)))) ∧ σ' = σ :=
  VC.lits [.string s, .string p] _ fun w _ => (Tryz.strings_HasPrefix s p w).mono fun _ _ h => ⟨h.1, by rw [h.2]; exact Below.refl _ _⟩
theorem vContains (s : ByteArray) (c : UInt8) : VC Tryz.prog 53 [.lit (.string s), .lit (.string ⟨#[c]⟩)] σ fun x σ' => x = .ret (.lit (.bool (decide (0 ≤ Lib.indexByte (bl s) c)))) ∧ σ' = σ :=
  VC.lits [.string s, .string ⟨#[c]⟩] _ fun w _ => (Tryz.strings_Contains_one s c w).mono fun _ _ h => ⟨h.1, by rw [h.2]; exact Below.refl _ _⟩
/-- Only a sign that is there. -/
def someSign (r : List UInt8) : Option Out := match sign r with | .bad _ => none | x => some x
def shorts : ByteArray := ⟨⟨short⟩⟩
theorem idx_mem (c : UInt8) : ∀ (l : List UInt8), decide (0 ≤ Lib.indexByte l c) = decide (c ∈ l)
  | [] => rfl
  | b :: l => by
    have ih := idx_mem c l
    have hge := Lib.indexByte_ge l c
    have e : Lib.indexByte (b :: l) c = if (b == c) = true then 0 else if (Lib.indexByte l c == -1) = true then -1 else Lib.indexByte l c + 1 := rfl
    rw [e]
    by_cases hb : b = c
    · subst hb; simp
    · rw [if_neg (by simpa using hb)]
      have hm : (c ∈ b :: l) ↔ c ∈ l := ⟨fun h => (List.mem_cons.1 h).resolve_left fun e => hb e.symm, List.mem_cons_of_mem _⟩
      rw [decide_eq_decide] at ih ⊢
      rw [hm, ← ih]
      by_cases hn : Lib.indexByte l c = -1
      · rw [if_pos (by rw [hn]; rfl), hn]
      · rw [if_neg (by simpa using hn)]; omega
theorem long_two {l : List UInt8} (h : l ∈ long) : l.length = 2 := by
  have : ∀ l ∈ long, l.length = 2 := by decide
  exact this l h
theorem long_at {i : Nat} (h : i < 9) : long.getD i [] ∈ long := by
  have : i < long.length := h
  rw [List.getD_eq_getElem?_getD, List.getElem?_eq_getElem this]; exact List.getElem_mem this
theorem pref_two {r l : List UInt8} (h : l.length = 2) : Lib.hasPrefix r l = decide (r.take 2 = l) := by
  unfold Lib.hasPrefix
  rw [Bool.eq_iff_iff, List.isPrefixOf_iff_prefix, List.prefix_iff_eq_take, h, decide_eq_true_eq]
  exact ⟨fun e => e.symm, fun e => e.symm⟩
theorem vSign (src : ByteArray) (p : Nat) (xs : List (List PV)) (hp : p < src.size) (hs : src.size ≤ 1000000) (hx : ∀ x ∈ xs, x.length = 4) (hl : xs.length ≤ 1000000) :
    VC Tryz.prog 35 [.ptr 0 0] [rdP src p xs] fun x σ' => x = .ret (rdR (someSign ((bl src).drop p))) ∧ σ' = [rdS src p xs (someSign ((bl src).drop p))] := by
  unfold rdP
  refine VC.intro ⟨[0, 2, 3, 4, 6, 16, 17, 18, 19, 24, 37], []⟩ Tryz.func35 rfl follows ok35 (by rw [Tryz.ntmps35]; exact Nat.le_of_ble_eq_true rfl) ?_; refine WS_of ?_
  repeat (first | refine WS_seq ?_ | refine WS_block ?_ | refine WS_skip ?_ | refine WS_blk ?_ | refine WS_label ?_ | refine WS_exit rfl ?_ | refine WS_true rfl ?_ | refine WS_false rfl ?_ | (refine WS_region rfl ?_; intro K' hK hP; simp only [go_sem]; apply hK; (focus (simp only [go_sem]; exact rfl)); clear hK hP K'))
  refine WS_region rfl ?_; intro K' hK hP; simp only [go_sem]
  refine ⟨⟨by omega, by omega, by omega⟩, ?_⟩
  apply hK; (focus (simp only [go_sem]; exact rfl)); clear hK hP K'
  obtain ⟨X, hX⟩ : ∃ X, X = src.extract p src.size := ⟨_, rfl⟩
  rw [← hX]
  have hbX : bl X = (bl src).drop p := by rw [hX, bl_ext, List.take_of_length_le (by rw [List.length_drop, bl_len]; exact Nat.le_refl _)]
  obtain ⟨Z, hZ⟩ : ∃ Z : List (List PV), Z = long.map fun l => [.lit (.string ⟨⟨l⟩⟩)] := ⟨_, rfl⟩
  have hlZ : Z.length = 9 := by rw [hZ]; rfl
  have hf := vFields (σ := [[.lit (.string src), .lit (.int .i64 (p : Int)), .sl xs .own]])
  rw [← hZ] at hf
  repeat (first | refine WS_seq ?_ | refine WS_block ?_ | refine WS_skip ?_ | refine WS_blk ?_ | refine WS_label ?_ | refine WS_exit rfl ?_ | refine WS_true rfl ?_ | refine WS_false rfl ?_ | (refine WS_region rfl ?_; intro K' hK hP; simp only [go_sem]; apply hK; (focus (simp only [go_sem]; exact rfl)); clear hK hP K'))
  refine WS_region rfl ?_; intro K' hK hP; simp only [go_sem]; refine (hf).mono ?_; rintro _ _ ⟨rfl, rfl⟩; simp only [go_sem]; apply hK; (focus (simp only [go_sem]; exact rfl)); clear hK hP K'
  repeat (first | refine WS_seq ?_ | refine WS_block ?_ | refine WS_skip ?_ | refine WS_blk ?_ | refine WS_label ?_ | refine WS_exit rfl ?_ | refine WS_true rfl ?_ | refine WS_false rfl ?_ | (refine WS_region rfl ?_; intro K' hK hP; simp only [go_sem]; apply hK; (focus (simp only [go_sem]; exact rfl)); clear hK hP K'))
  refine WS_for [0, 2, 3, 4, 16, 17, 18] 1 (fun i : Nat => i ≤ 9 ∧ ∀ j, j < i → ((bl src).drop p).take 2 ≠ long.getD j []) (fun i => 9 - i) (fun i => ⟨[(0, .ptr 0 0), (2, .lit (.bool false)), (3, .lit (.int .i64 0)), (4, .lit (.string X)), (16, .sl Z .full), (17, .lit (.int .i64 (Z.length : Int))), (18, .lit (.int .i64 (i : Int)))], [[.lit (.string src), .lit (.int .i64 (p : Int)), .sl xs .own]]⟩) 0 (Nat.le_refl _) ?_ ⟨by omega, fun j hj => by omega⟩ ?_
  · exact rfl
  rintro i ⟨h1, h2⟩
  by_cases hi : i < 9
  · have d1 : decide ((i : Int) < (Z.length : Int)) = true := by rw [decide_eq_true_eq]; omega
    repeat (first | refine WS_seq ?_ | refine WS_block ?_ | refine WS_skip ?_ | refine WS_blk ?_ | refine WS_label ?_ | refine WS_exit rfl ?_ | refine WS_true rfl ?_ | refine WS_false rfl ?_ | (refine WS_region rfl ?_; intro K' hK hP; simp only [go_sem, d1]; apply hK; (focus (simp only [go_sem]; exact rfl)); clear hK hP K'))
    have z1 : Z.getD i [] = [.lit (.string ⟨⟨long.getD i []⟩⟩)] := by
      have hi2 : i < long.length := hi
      rw [hZ, List.getD_eq_getElem?_getD, List.getElem?_map, List.getD_eq_getElem?_getD, List.getElem?_eq_getElem hi2]; rfl
    have hm := long_at hi
    obtain ⟨L, hL⟩ : ∃ L, L = long.getD i [] := ⟨_, rfl⟩
    rw [← hL] at z1 hm
    have h22 := long_two hm
    refine WS_region rfl ?_; intro K' hK hP; simp only [go_sem, z1]
    refine ⟨⟨by omega, by omega⟩, ?_⟩
    apply hK; (focus (simp only [go_sem]; exact rfl)); clear hK hP K'
    repeat (first | refine WS_seq ?_ | refine WS_block ?_ | refine WS_skip ?_ | refine WS_blk ?_ | refine WS_label ?_ | refine WS_exit rfl ?_ | refine WS_true rfl ?_ | refine WS_false rfl ?_ | (refine WS_region rfl ?_; intro K' hK hP; simp only [go_sem]; apply hK; (focus (simp only [go_sem]; exact rfl)); clear hK hP K'))
    refine WS_region rfl ?_; intro K' hK hP; simp only [go_sem]; refine ((vHasPrefix X ⟨⟨L⟩⟩)).mono ?_; rintro _ _ ⟨rfl, rfl⟩; simp only [go_sem]; apply hK; (focus (simp only [go_sem]; exact rfl)); clear hK hP K'
    by_cases hpre : ((bl src).drop p).take 2 = L
    · have b1 : Lib.hasPrefix (bl X) (bl ⟨⟨L⟩⟩) = true := by rw [show bl ⟨⟨L⟩⟩ = L from rfl, pref_two h22, hbX]; exact decide_eq_true hpre
      have hlen : ((bl src).drop p).length = src.size - p := by rw [List.length_drop, bl_len]
      have h2l : 2 ≤ src.size - p := by
        have := congrArg List.length hpre
        rw [List.length_take, h22] at this; omega
      have hr : someSign ((bl src).drop p) = some (.ok 4 L 0 ((bl src).drop (p + 2))) := by
        unfold someSign sign; rw [hpre, if_pos hm, List.drop_drop]
      have w2 : IntKind.i64.wrap ((p : Int) + 2) = ((p + 2 : Nat) : Int) := wrapN (by omega) (by omega)
      refine WS_true (by simp only [go_sem, b1]) ?_
      repeat (first | refine WS_seq ?_ | refine WS_block ?_ | refine WS_skip ?_ | refine WS_blk ?_ | refine WS_label ?_ | refine WS_exit rfl ?_ | refine WS_true rfl ?_ | refine WS_false rfl ?_ | (refine WS_region rfl ?_; intro K' hK hP; simp only [go_sem, w2]; apply hK; (focus (simp only [go_sem]; exact rfl)); clear hK hP K'))
      refine WS_region rfl ?_; intro K' hK hP; simp only [go_sem, w2]; refine ((vPut src p xs 4 (p + 2) ⟨⟨L⟩⟩ 0 hx hl)).mono ?_; rintro _ _ ⟨rfl, rfl⟩; simp only [go_sem]; apply hK; (focus (simp only [go_sem]; exact rfl)); clear hK hP K'
      repeat (first | refine WS_seq ?_ | refine WS_block ?_ | refine WS_skip ?_ | refine WS_blk ?_ | refine WS_label ?_ | refine WS_exit rfl ?_ | refine WS_true rfl ?_ | refine WS_false rfl ?_ | (refine WS_region rfl ?_; intro K' hK hP; simp only [go_sem]; apply hK; (focus (simp only [go_sem]; exact rfl)); clear hK hP K'))
      refine WS_ret ?_; simp only [go_sem, Tryz.results35]
      rw [hr]
      refine ⟨rfl, ?_⟩
      show [rdP _ _ _] = [rdP _ _ _]
      rw [List.length_drop, bl_len, show src.size - (src.size - (p + 2)) = p + 2 by omega]; rfl
    · have b1 : Lib.hasPrefix (bl X) (bl ⟨⟨L⟩⟩) = false := by rw [show bl ⟨⟨L⟩⟩ = L from rfl, pref_two h22, hbX]; exact decide_eq_false hpre
      have w3 : IntKind.i64.wrap ((i : Int) + 1) = ((i + 1 : Nat) : Int) := wrapN (by omega) (by omega)
      refine WS_false (by simp only [go_sem, b1]) ?_
      repeat (first | refine WS_seq ?_ | refine WS_block ?_ | refine WS_skip ?_ | refine WS_blk ?_ | refine WS_label ?_ | refine WS_exit rfl ?_ | refine WS_true rfl ?_ | refine WS_false rfl ?_ | (refine WS_region rfl ?_; intro K' hK hP; simp only [go_sem, w3]; apply hK; (focus (simp only [go_sem]; exact rfl)); clear hK hP K'))
      refine WS_again (i + 1) rfl ⟨by omega, fun j hj => ?_⟩ (by omega)
      rcases Nat.lt_succ_iff_lt_or_eq.1 hj with h | rfl
      · exact h2 j h
      · rw [← hL]; exact hpre
  · have d1 : decide ((i : Int) < (Z.length : Int)) = false := by rw [decide_eq_false_iff_not]; omega
    have hnl : ((bl src).drop p).take 2 ∉ long := fun hm => by
      obtain ⟨j, hj, he⟩ := List.getElem_of_mem hm
      have hj9 : j < 9 := hj
      refine h2 j (by omega) ?_
      rw [List.getD_eq_getElem?_getD, List.getElem?_eq_getElem hj]; exact he.symm
    have hdr := bl_drop src p hp
    have hX1 : X.extract 0 1 = ⟨#[src[p]]⟩ := by
      have : bl (X.extract 0 1) = [src[p]] := by rw [bl_ext, List.drop_zero, hbX, hdr]; rfl
      have e : X.extract 0 1 = ⟨⟨bl (X.extract 0 1)⟩⟩ := rfl
      rw [e, this]
    have hXs : 1 ≤ X.size := by rw [← bl_len, hbX, List.length_drop, bl_len]; omega
    repeat (first | refine WS_seq ?_ | refine WS_block ?_ | refine WS_skip ?_ | refine WS_blk ?_ | refine WS_label ?_ | refine WS_exit rfl ?_ | refine WS_true rfl ?_ | refine WS_false rfl ?_ | (refine WS_region rfl ?_; intro K' hK hP; simp only [go_sem, d1]; apply hK; (focus (simp only [go_sem]; exact rfl)); clear hK hP K'))
    refine WS_region rfl ?_; intro K' hK hP; simp only [go_sem]
    refine ⟨by omega, ?_⟩
    rw [show X.extract (Int.toNat 0) (Int.toNat 1) = ⟨#[src[p]]⟩ from hX1]
    refine ((vContains shorts src[p])).mono ?_; rintro _ _ ⟨rfl, rfl⟩; simp only [go_sem]
    apply hK; (focus (simp only [go_sem]; exact rfl)); clear hK hP K'
    have hm := idx_mem src[p] short
    by_cases hs1 : src[p] ∈ short
    · have b1 : decide (0 ≤ Lib.indexByte (bl shorts) src[p]) = true := by rw [show bl shorts = short from rfl, hm]; exact decide_eq_true hs1
      have hr : someSign ((bl src).drop p) = some (.ok 4 [src[p]] 0 ((bl src).drop (p + 1))) := by
        unfold someSign sign; rw [if_neg hnl, hdr]; simp only; rw [if_pos hs1]
      have w2 : IntKind.i64.wrap ((p : Int) + 1) = ((p + 1 : Nat) : Int) := wrapN (by omega) (by omega)
      refine WS_false (by simp only [go_sem, b1]) ?_
      repeat (first | refine WS_seq ?_ | refine WS_block ?_ | refine WS_skip ?_ | refine WS_blk ?_ | refine WS_label ?_ | refine WS_exit rfl ?_ | refine WS_true rfl ?_ | refine WS_false rfl ?_ | (refine WS_region rfl ?_; intro K' hK hP; simp only [go_sem, w2]; apply hK; (focus (simp only [go_sem]; exact rfl)); clear hK hP K'))
      refine WS_region rfl ?_; intro K' hK hP; simp only [go_sem, w2]
      refine ⟨by omega, ?_⟩
      rw [show X.extract (Int.toNat 0) (Int.toNat 1) = ⟨#[src[p]]⟩ from hX1]
      refine ((vPut src p xs 4 (p + 1) ⟨#[src[p]]⟩ 0 hx hl)).mono ?_; rintro _ _ ⟨rfl, rfl⟩; simp only [go_sem]
      apply hK; (focus (simp only [go_sem]; exact rfl)); clear hK hP K'
      repeat (first | refine WS_seq ?_ | refine WS_block ?_ | refine WS_skip ?_ | refine WS_blk ?_ | refine WS_label ?_ | refine WS_exit rfl ?_ | refine WS_true rfl ?_ | refine WS_false rfl ?_ | (refine WS_region rfl ?_; intro K' hK hP; simp only [go_sem]; apply hK; (focus (simp only [go_sem]; exact rfl)); clear hK hP K'))
      refine WS_ret ?_; simp only [go_sem, Tryz.results35]
      rw [hr]
      refine ⟨rfl, ?_⟩
      show [rdP _ _ _] = [rdP _ _ _]
      rw [List.length_drop, bl_len, show src.size - (src.size - (p + 1)) = p + 1 by omega]; rfl
    · have b1 : decide (0 ≤ Lib.indexByte (bl shorts) src[p]) = false := by rw [show bl shorts = short from rfl, hm]; exact decide_eq_false hs1
      have hr : someSign ((bl src).drop p) = none := by
        unfold someSign sign; rw [if_neg hnl, hdr]; simp only; rw [if_neg hs1]
      refine WS_true (by simp only [go_sem, b1]) ?_
      repeat (first | refine WS_seq ?_ | refine WS_block ?_ | refine WS_skip ?_ | refine WS_blk ?_ | refine WS_label ?_ | refine WS_exit rfl ?_ | refine WS_true rfl ?_ | refine WS_false rfl ?_ | (refine WS_region rfl ?_; intro K' hK hP; simp only [go_sem]; apply hK; (focus (simp only [go_sem]; exact rfl)); clear hK hP K'))
      refine WS_ret ?_; simp only [go_sem, Tryz.results35]
      rw [hr]
      exact ⟨rfl, rfl⟩
end Go.Proofs.YtjfccohgkgcnfaaGreatDoor
