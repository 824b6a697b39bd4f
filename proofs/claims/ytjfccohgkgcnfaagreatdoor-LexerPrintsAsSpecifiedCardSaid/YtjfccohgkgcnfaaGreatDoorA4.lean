/-
  The lexer's functions, walked in plain values: text.
-/
import Derived.Test.YtjfccohgkgcnfaaGreatDoorA3
namespace Go.Proofs.YtjfccohgkgcnfaaGreatDoor
open Go.RowKit Go.Q Go.Lx Go.Vl
set_option maxRecDepth 100000
variable {σ : List (List PV)}
/-- Bytes, as rows of a slice. -/
def rowsB (b : List UInt8) : List (List PV) := b.map fun c => [.lit (.int .u8 (c.toNat : Int))]
theorem rowsB_len (b : List UInt8) : (rowsB b).length = b.length := by simp [rowsB]
theorem rowsB_app (b : List UInt8) (c : UInt8) : rowsB b ++ [[.lit (.int .u8 (c.toNat : Int))]] = rowsB (b ++ [c]) := by simp [rowsB]
theorem rowsB_row {b : List UInt8} : ∀ x ∈ rowsB b, x.length = 1 := by
  intro x hx
  obtain ⟨c, _, rfl⟩ := List.mem_map.1 hx
  rfl
theorem bytes_rowsB : ∀ (b : List UInt8), bytesOf (rowsB b) = some (b.map fun c => (c.toNat : Int))
  | [] => rfl
  | c :: b => by
    show (bytesOf (rowsB b)).map ((c.toNat : Int) :: ·) = _
    rw [bytes_rowsB b]; rfl
theorem bytes_back (b : List UInt8) : (b.map fun c => (c.toNat : Int)).map (fun n => UInt8.ofNat n.toNat) = b := by
  rw [List.map_map]
  have : ((fun n : Int => UInt8.ofNat n.toNat) ∘ fun c : UInt8 => (c.toNat : Int)) = id := by funext c; simp
  rw [this, List.map_id]
/-- The signs that may stand behind a stroke. -/
theorem idx_pair (c : UInt8) : (Lib.indexByte [34, 92, 110] c = -1 ∧ pair c = 0) ∨ ∃ i : Nat, Lib.indexByte [34, 92, 110] c = (i : Int) ∧ i < 3 ∧ pair c ≠ 0 ∧ [34, 92, 10].getD i 0 = pair c := by
  have e : ∀ (b : UInt8) (l : List UInt8), Lib.indexByte (b :: l) c = if (b == c) = true then 0 else if (Lib.indexByte l c == -1) = true then -1 else Lib.indexByte l c + 1 := fun _ _ => rfl
  have e0 : Lib.indexByte [] c = -1 := rfl
  unfold pair
  by_cases h1 : c = 34
  · subst h1; exact .inr ⟨0, rfl, by decide, by decide, by decide⟩
  · by_cases h2 : c = 92
    · subst h2; exact .inr ⟨1, rfl, by decide, by decide, by decide⟩
    · by_cases h3 : c = 110
      · subst h3; exact .inr ⟨2, rfl, by decide, by decide, by decide⟩
      · left
        have n1 : ((34 : UInt8) == c) = false := beq_eq_false_iff_ne.2 fun h => h1 h.symm
        have n2 : ((92 : UInt8) == c) = false := beq_eq_false_iff_ne.2 fun h => h2 h.symm
        have n3 : ((110 : UInt8) == c) = false := beq_eq_false_iff_ne.2 fun h => h3 h.symm
        have i3 : Lib.indexByte [110] c = -1 := by rw [e, e0, n3]; rfl
        have i2 : Lib.indexByte [92, 110] c = -1 := by rw [e, i3, n2]; rfl
        exact ⟨by rw [e, i2, n1]; rfl, by simp [h1, h2, h3]⟩
theorem text_esc {b r : List UInt8} {c d : UInt8} (h : b.length ≤ 200) (h34 : ¬ c = 34) (h92 : c = 92) : text b (c :: d :: r) = if pair d = 0 then .bad 28 else text (b ++ [pair d]) r := by
  conv => lhs; unfold text
  rw [if_neg (by omega), if_neg h34, if_pos h92]
theorem text_one {b r : List UInt8} {c : UInt8} (h : b.length ≤ 200) (h34 : ¬ c = 34) (h92 : ¬ c = 92) : text b (c :: r) = if c < 32 ∨ 126 < c then .bad 28 else text (b ++ [c]) r := by
  conv => lhs; unfold text
  rw [if_neg (by omega), if_neg h34, if_neg h92]
theorem vText (src : ByteArray) (p : Nat) (xs : List (List PV)) (hp : p < src.size) (hs : src.size ≤ 1000000) (hx : ∀ x ∈ xs, x.length = 4) (hl : xs.length ≤ 1000000) :
    VC Tryz.prog 34 [.ptr 0 0] [rdP src p xs] fun x σ' => x = .ret (rdR (if src[p] = 34 then some (text [] ((bl src).drop (p + 1))) else none)) ∧ σ' = [rdS src p xs (if src[p] = 34 then some (text [] ((bl src).drop (p + 1))) else none)] := by
  have g1 := (getD_at src p hp).symm
  obtain ⟨R, hR⟩ : ∃ R, text [] ((bl src).drop (p + 1)) = R := ⟨_, rfl⟩
  rw [hR]
  unfold rdP
  refine VC.intro ⟨[0, 2, 3, 4, 5, 6, 7, 17, 25, 34, 45, 54, 65, 74, 80], []⟩ Tryz.func34 rfl follows ok34 (by rw [Tryz.ntmps34]; exact Nat.le_of_ble_eq_true rfl) ?_; refine WS_of ?_
  repeat (first | refine WS_seq ?_ | refine WS_block ?_ | refine WS_skip ?_ | refine WS_blk ?_ | refine WS_label ?_ | refine WS_exit rfl ?_ | refine WS_true rfl ?_ | refine WS_false rfl ?_ | (refine WS_region rfl ?_; intro K' hK hP; simp only [go_sem]; apply hK; (focus (simp only [go_sem]; exact rfl)); clear hK hP K'))
  refine WS_region rfl ?_; intro K' hK hP; simp only [go_sem, g1]
  refine ⟨⟨by omega, by omega⟩, ?_⟩
  apply hK; (focus (simp only [go_sem]; exact rfl)); clear hK hP K'
  by_cases h34 : src[p] = 34
  rotate_left
  · have b34 : ((src[p].toNat : Int) == 34) = false := beq_eq_false_iff_ne.2 fun h => h34 ((eq_iff _ 34).2 h)
    refine WS_true (by simp only [go_sem, bne, b34]) ?_
    repeat (first | refine WS_seq ?_ | refine WS_block ?_ | refine WS_skip ?_ | refine WS_blk ?_ | refine WS_label ?_ | refine WS_exit rfl ?_ | refine WS_true rfl ?_ | refine WS_false rfl ?_ | (refine WS_region rfl ?_; intro K' hK hP; simp only [go_sem]; apply hK; (focus (simp only [go_sem]; exact rfl)); clear hK hP K'))
    refine WS_ret ?_; simp only [go_sem, Tryz.results34]
    rw [if_neg h34]
    exact ⟨rfl, rfl⟩
  have b34 : ((src[p].toNat : Int) == 34) = true := by rw [h34]; rfl
  rw [if_pos h34]
  refine WS_false (by simp only [go_sem, bne, b34]) ?_
  have w1 : IntKind.i64.wrap ((p : Int) + 1) = ((p + 1 : Nat) : Int) := wrapN (by omega) (by omega)
  repeat (first | refine WS_seq ?_ | refine WS_block ?_ | refine WS_skip ?_ | refine WS_blk ?_ | refine WS_label ?_ | refine WS_exit rfl ?_ | refine WS_true rfl ?_ | refine WS_false rfl ?_ | (refine WS_region rfl ?_; intro K' hK hP; simp only [go_sem, w1]; apply hK; (focus (simp only [go_sem]; exact rfl)); clear hK hP K'))
  refine WS_for [0, 2, 3, 4, 5] 1 (fun a : List UInt8 × Nat => a.2 ≤ src.size ∧ a.1.length ≤ 201 ∧ text a.1 ((bl src).drop a.2) = R) (fun a => src.size - a.2) (fun a => ⟨[(0, .ptr 0 0), (2, .lit (.bool false)), (3, .lit (.int .i64 0)), (4, .sl (rowsB a.1) .own), (5, .lit (.int .i64 (a.2 : Int)))], [[.lit (.string src), .lit (.int .i64 (p : Int)), .sl xs .own]]⟩) ([], p + 1) (Nat.le_refl _) ?_ ⟨by omega, by simp, hR⟩ ?_
  · exact rfl
  rintro ⟨b, k⟩ ⟨h1, h2, h3⟩
  simp only at h1 h2 h3 ⊢
  clear hR
  have hlen := rowsB_len b
  by_cases h200 : b.length ≤ 200
  rotate_left
  · have d1 : decide (((rowsB b).length : Int) ≤ 200) = false := by rw [decide_eq_false_iff_not, hlen]; omega
    have hr : R = .bad 2 := by
      rw [← h3]
      cases (bl src).drop k with
      | nil => unfold text; rw [if_pos (by omega)]
      | cons c r => unfold text; rw [if_pos (by omega)]
    repeat (first | refine WS_seq ?_ | refine WS_block ?_ | refine WS_skip ?_ | refine WS_blk ?_ | refine WS_label ?_ | refine WS_exit rfl ?_ | refine WS_true rfl ?_ | refine WS_false rfl ?_ | (refine WS_region rfl ?_; intro K' hK hP; simp only [go_sem, d1]; apply hK; (focus (simp only [go_sem]; exact rfl)); clear hK hP K'))
    refine WS_ret ?_; simp only [go_sem, Tryz.results34]
    rw [hr]
    exact ⟨rfl, rfl⟩
  have d1 : decide (((rowsB b).length : Int) ≤ 200) = true := by rw [decide_eq_true_eq, hlen]; omega
  repeat (first | refine WS_seq ?_ | refine WS_block ?_ | refine WS_skip ?_ | refine WS_blk ?_ | refine WS_label ?_ | refine WS_exit rfl ?_ | refine WS_true rfl ?_ | refine WS_false rfl ?_ | (refine WS_region rfl ?_; intro K' hK hP; simp only [go_sem, d1]; apply hK; (focus (simp only [go_sem]; exact rfl)); clear hK hP K'))
  by_cases hk : k < src.size
  rotate_left
  · have d2 : decide ((src.size : Int) ≤ (k : Int)) = true := by rw [decide_eq_true_eq]; omega
    obtain rfl : k = src.size := by omega
    have hr : R = .bad 28 := by rw [← h3, bl_end]; unfold text; rw [if_neg (by omega)]
    refine WS_true (by simp only [go_sem]; rw [d2]) ?_
    repeat (first | refine WS_seq ?_ | refine WS_block ?_ | refine WS_skip ?_ | refine WS_blk ?_ | refine WS_label ?_ | refine WS_exit rfl ?_ | refine WS_true rfl ?_ | refine WS_false rfl ?_ | (refine WS_region rfl ?_; intro K' hK hP; simp only [go_sem]; apply hK; (focus (simp only [go_sem]; exact rfl)); clear hK hP K'))
    refine WS_ret ?_; simp only [go_sem, Tryz.results34]
    rw [hr]
    exact ⟨rfl, rfl⟩
  have d2 : decide ((src.size : Int) ≤ (k : Int)) = false := by rw [decide_eq_false_iff_not]; omega
  have g2 := (getD_at src k hk).symm
  have hdr := bl_drop src k hk
  refine WS_false (by simp only [go_sem]; rw [d2]) ?_
  repeat (first | refine WS_seq ?_ | refine WS_block ?_ | refine WS_skip ?_ | refine WS_blk ?_ | refine WS_label ?_ | refine WS_exit rfl ?_ | refine WS_true rfl ?_ | refine WS_false rfl ?_ | (refine WS_region rfl ?_; intro K' hK hP; simp only [go_sem]; apply hK; (focus (simp only [go_sem]; exact rfl)); clear hK hP K'))
  refine WS_region rfl ?_; intro K' hK hP; simp only [go_sem, g2]
  refine ⟨⟨by omega, by omega⟩, ?_⟩
  apply hK; (focus (simp only [go_sem]; exact rfl)); clear hK hP K'
  repeat (first | refine WS_seq ?_ | refine WS_block ?_ | refine WS_skip ?_ | refine WS_blk ?_ | refine WS_label ?_ | refine WS_exit rfl ?_ | refine WS_true rfl ?_ | refine WS_false rfl ?_ | (refine WS_region rfl ?_; intro K' hK hP; simp only [go_sem]; apply hK; (focus (simp only [go_sem]; exact rfl)); clear hK hP K'))
  by_cases c34 : src[k] = 34
  · have b1 : ((src[k].toNat : Int) == 34) = true := by rw [c34]; rfl
    have w2 : IntKind.i64.wrap ((k : Int) + 1) = ((k + 1 : Nat) : Int) := wrapN (by omega) (by omega)
    have hr : R = .ok 3 b 0 ((bl src).drop (k + 1)) := by rw [← h3, hdr]; unfold text; rw [if_neg (by omega), if_pos c34]
    have e1 := bytes_rowsB b
    have e2 := bytes_back b
    refine WS_true (by simp only [go_sem, b1]) ?_
    repeat (first | refine WS_seq ?_ | refine WS_block ?_ | refine WS_skip ?_ | refine WS_blk ?_ | refine WS_label ?_ | refine WS_exit rfl ?_ | refine WS_true rfl ?_ | refine WS_false rfl ?_ | (refine WS_region rfl ?_; intro K' hK hP; simp only [go_sem, w2, e1]; apply hK; (focus (simp only [go_sem]; exact rfl)); clear hK hP K'))
    refine WS_region rfl ?_; intro K' hK hP; simp only [go_sem, w2, e1, e2]
    refine ((vPut src p xs 3 (k + 1) ⟨⟨b⟩⟩ 0 hx hl)).mono ?_; rintro _ _ ⟨rfl, rfl⟩; simp only [go_sem]
    apply hK; (focus (simp only [go_sem]; exact rfl)); clear hK hP K'
    repeat (first | refine WS_seq ?_ | refine WS_block ?_ | refine WS_skip ?_ | refine WS_blk ?_ | refine WS_label ?_ | refine WS_exit rfl ?_ | refine WS_true rfl ?_ | refine WS_false rfl ?_ | (refine WS_region rfl ?_; intro K' hK hP; simp only [go_sem]; apply hK; (focus (simp only [go_sem]; exact rfl)); clear hK hP K'))
    refine WS_ret ?_; simp only [go_sem, Tryz.results34]
    rw [hr]
    refine ⟨rfl, ?_⟩
    show [rdP _ _ _] = [rdP _ _ _]
    rw [List.length_drop, bl_len, show src.size - (src.size - (k + 1)) = k + 1 by omega]; rfl
  · have b1 : ((src[k].toNat : Int) == 34) = false := beq_eq_false_iff_ne.2 fun h => c34 ((eq_iff _ 34).2 h)
    refine WS_false (by simp only [go_sem, b1]) ?_
    repeat (first | refine WS_seq ?_ | refine WS_block ?_ | refine WS_skip ?_ | refine WS_blk ?_ | refine WS_label ?_ | refine WS_exit rfl ?_ | refine WS_true rfl ?_ | refine WS_false rfl ?_ | (refine WS_region rfl ?_; intro K' hK hP; simp only [go_sem]; apply hK; (focus (simp only [go_sem]; exact rfl)); clear hK hP K'))
    by_cases c92 : src[k] = 92
    · have b2 : ((src[k].toNat : Int) == 92) = true := by rw [c92]; rfl
      have w2 : IntKind.i64.wrap ((k : Int) + 1) = ((k + 1 : Nat) : Int) := wrapN (by omega) (by omega)
      refine WS_true (by simp only [go_sem, b2]) ?_
      repeat (first | refine WS_seq ?_ | refine WS_block ?_ | refine WS_skip ?_ | refine WS_blk ?_ | refine WS_label ?_ | refine WS_exit rfl ?_ | refine WS_true rfl ?_ | refine WS_false rfl ?_ | (refine WS_region rfl ?_; intro K' hK hP; simp only [go_sem, w2]; apply hK; (focus (simp only [go_sem]; exact rfl)); clear hK hP K'))
      by_cases hk2 : k + 1 < src.size
      · have d3 : decide (((k + 1 : Nat) : Int) < (src.size : Int)) = true := by rw [decide_eq_true_eq]; omega
        have g3 := (getD_at src (k + 1) hk2).symm
        have hdr2 := bl_drop src (k + 1) hk2
        refine WS_true (by simp only [go_sem, d3]) ?_
        repeat (first | refine WS_seq ?_ | refine WS_block ?_ | refine WS_skip ?_ | refine WS_blk ?_ | refine WS_label ?_ | refine WS_exit rfl ?_ | refine WS_true rfl ?_ | refine WS_false rfl ?_ | (refine WS_region rfl ?_; intro K' hK hP; simp only [go_sem]; apply hK; (focus (simp only [go_sem]; exact rfl)); clear hK hP K'))
        refine WS_region rfl ?_; intro K' hK hP; simp only [go_sem, g3]
        refine ⟨⟨by omega, by omega⟩, ?_⟩
        have hcall := vIndexByte (σ := [[.lit (.string src), .lit (.int .i64 (p : Int)), .sl xs .own]]) ⟨#[34, 92, 110]⟩ src[k + 1]
        rw [show bl ⟨#[34, 92, 110]⟩ = [34, 92, 110] from rfl] at hcall
        refine (hcall).mono ?_; rintro _ _ ⟨rfl, rfl⟩; simp only [go_sem]
        apply hK; (focus (simp only [go_sem]; exact rfl)); clear hK hP K'
        rcases idx_pair src[k + 1] with ⟨hz, hpr⟩ | ⟨i, hz, hi, hpr, hpi⟩
        · have hr : R = .bad 28 := by rw [← h3, hdr, hdr2, text_esc h200 c34 c92, if_pos hpr]
          repeat (first | refine WS_seq ?_ | refine WS_block ?_ | refine WS_skip ?_ | refine WS_blk ?_ | refine WS_label ?_ | refine WS_exit rfl ?_ | refine WS_true rfl ?_ | refine WS_false rfl ?_ | (refine WS_region rfl ?_; intro K' hK hP; simp only [go_sem, hz]; apply hK; (focus (simp only [go_sem]; exact rfl)); clear hK hP K'))
          refine WS_ret ?_; simp only [go_sem, Tryz.results34]
          rw [hr]
          exact ⟨rfl, rfl⟩
        · have hr : text (b ++ [pair src[k + 1]]) ((bl src).drop (k + 2)) = R := by rw [← h3, hdr, hdr2, text_esc h200 c34 c92, if_neg hpr]
          have d4 : decide ((i : Int) < 0) = false := by rw [decide_eq_false_iff_not]; omega
          have e1 := rowsB_app b (pair src[k + 1])
          have w3 : IntKind.i64.wrap (((k + 1 : Nat) : Int) + 1) = ((k + 2 : Nat) : Int) := wrapN (by omega) (by omega)
          repeat (first | refine WS_seq ?_ | refine WS_block ?_ | refine WS_skip ?_ | refine WS_blk ?_ | refine WS_label ?_ | refine WS_exit rfl ?_ | refine WS_true rfl ?_ | refine WS_false rfl ?_ | (refine WS_region rfl ?_; intro K' hK hP; simp only [go_sem, hz, d4]; apply hK; (focus (simp only [go_sem]; exact rfl)); clear hK hP K'))
          refine WS_region rfl ?_; intro K' hK hP; simp only [go_sem, hpi, e1]
          refine ⟨⟨by omega, by show (i : Int) < 3; omega⟩, rfl, app_ok (by rw [hlen]; exact Nat.le_trans (Nat.mul_le_mul_right _ (show b.length + 1 ≤ 1000 by omega)) (by decide)) rowsB_row rfl, ?_⟩
          apply hK; (focus (simp only [go_sem]; exact rfl)); clear hK hP K'
          repeat (first | refine WS_seq ?_ | refine WS_block ?_ | refine WS_skip ?_ | refine WS_blk ?_ | refine WS_label ?_ | refine WS_exit rfl ?_ | refine WS_true rfl ?_ | refine WS_false rfl ?_ | (refine WS_region rfl ?_; intro K' hK hP; simp only [go_sem, w3]; apply hK; (focus (simp only [go_sem]; exact rfl)); clear hK hP K'))
          exact WS_again (b ++ [pair src[k + 1]], k + 2) rfl ⟨by show k + 2 ≤ src.size; omega, by rw [List.length_append]; show b.length + 1 ≤ 201; omega, hr⟩ (by show src.size - (k + 2) < src.size - k; omega)
      · have d3 : decide (((k + 1 : Nat) : Int) < (src.size : Int)) = false := by rw [decide_eq_false_iff_not]; omega
        have hr : R = .bad 28 := by
          rw [← h3, hdr, show (bl src).drop (k + 1) = [] from by rw [show k + 1 = src.size by omega]; exact bl_end src]
          unfold text; rw [if_neg (by omega), if_neg c34, if_pos c92]
        refine WS_false (by simp only [go_sem, d3]) ?_
        repeat (first | refine WS_seq ?_ | refine WS_block ?_ | refine WS_skip ?_ | refine WS_blk ?_ | refine WS_label ?_ | refine WS_exit rfl ?_ | refine WS_true rfl ?_ | refine WS_false rfl ?_ | (refine WS_region rfl ?_; intro K' hK hP; simp only [go_sem]; apply hK; (focus (simp only [go_sem]; exact rfl)); clear hK hP K'))
        refine WS_ret ?_; simp only [go_sem, Tryz.results34]
        rw [hr]
        exact ⟨rfl, rfl⟩
    · have b2 : ((src[k].toNat : Int) == 92) = false := beq_eq_false_iff_ne.2 fun h => c92 ((eq_iff _ 92).2 h)
      refine WS_false (by simp only [go_sem, b2]) ?_
      have lt32 : src[k] < 32 ↔ (src[k].toNat : Int) < 32 := by rw [UInt8.lt_iff_toNat_lt]; exact ⟨fun h => by have : (32 : UInt8).toNat = 32 := rfl; omega, fun h => by have : (32 : UInt8).toNat = 32 := rfl; omega⟩
      have gt126 : 126 < src[k] ↔ (126 : Int) < (src[k].toNat : Int) := by rw [UInt8.lt_iff_toNat_lt]; exact ⟨fun h => by have : (126 : UInt8).toNat = 126 := rfl; omega, fun h => by have : (126 : UInt8).toNat = 126 := rfl; omega⟩
      by_cases ho : src[k] < 32 ∨ 126 < src[k]
      · have hr : R = .bad 28 := by rw [← h3, hdr, text_one h200 c34 c92, if_pos ho]
        by_cases h32 : src[k] < 32
        · have t1 : decide ((src[k].toNat : Int) < 32) = true := decide_eq_true (lt32.1 h32)
          repeat (first | refine WS_seq ?_ | refine WS_block ?_ | refine WS_skip ?_ | refine WS_blk ?_ | refine WS_label ?_ | refine WS_exit rfl ?_ | refine WS_true rfl ?_ | refine WS_false rfl ?_ | (refine WS_region rfl ?_; intro K' hK hP; simp only [go_sem, t1]; apply hK; (focus (simp only [go_sem]; exact rfl)); clear hK hP K'))
          refine WS_ret ?_; simp only [go_sem, Tryz.results34]
          rw [hr]
          exact ⟨rfl, rfl⟩
        · have t1 : decide ((src[k].toNat : Int) < 32) = false := decide_eq_false fun h => h32 (lt32.2 h)
          have t2 : decide ((126 : Int) < (src[k].toNat : Int)) = true := decide_eq_true (gt126.1 (ho.resolve_left h32))
          repeat (first | refine WS_seq ?_ | refine WS_block ?_ | refine WS_skip ?_ | refine WS_blk ?_ | refine WS_label ?_ | refine WS_exit rfl ?_ | refine WS_true rfl ?_ | refine WS_false rfl ?_ | (refine WS_region rfl ?_; intro K' hK hP; simp only [go_sem, t1, t2]; apply hK; (focus (simp only [go_sem]; exact rfl)); clear hK hP K'))
          refine WS_ret ?_; simp only [go_sem, Tryz.results34]
          rw [hr]
          exact ⟨rfl, rfl⟩
      · have hr : text (b ++ [src[k]]) ((bl src).drop (k + 1)) = R := by rw [← h3, hdr, text_one h200 c34 c92, if_neg ho]
        have t1 : decide ((src[k].toNat : Int) < 32) = false := decide_eq_false fun h => ho (.inl (lt32.2 h))
        have t2 : decide ((126 : Int) < (src[k].toNat : Int)) = false := decide_eq_false fun h => ho (.inr (gt126.2 h))
        have e1 := rowsB_app b src[k]
        have w2 : IntKind.i64.wrap ((k : Int) + 1) = ((k + 1 : Nat) : Int) := wrapN (by omega) (by omega)
        repeat (first | refine WS_seq ?_ | refine WS_block ?_ | refine WS_skip ?_ | refine WS_blk ?_ | refine WS_label ?_ | refine WS_exit rfl ?_ | refine WS_true rfl ?_ | refine WS_false rfl ?_ | (refine WS_region rfl ?_; intro K' hK hP; simp only [go_sem, t1, t2]; apply hK; (focus (simp only [go_sem]; exact rfl)); clear hK hP K'))
        refine WS_region rfl ?_; intro K' hK hP; simp only [go_sem, e1]
        refine ⟨rfl, app_ok (by rw [hlen]; exact Nat.le_trans (Nat.mul_le_mul_right _ (show b.length + 1 ≤ 1000 by omega)) (by decide)) rowsB_row rfl, ?_⟩
        apply hK; (focus (simp only [go_sem]; exact rfl)); clear hK hP K'
        repeat (first | refine WS_seq ?_ | refine WS_block ?_ | refine WS_skip ?_ | refine WS_blk ?_ | refine WS_label ?_ | refine WS_exit rfl ?_ | refine WS_true rfl ?_ | refine WS_false rfl ?_ | (refine WS_region rfl ?_; intro K' hK hP; simp only [go_sem, w2]; apply hK; (focus (simp only [go_sem]; exact rfl)); clear hK hP K'))
        exact WS_again (b ++ [src[k]], k + 1) rfl ⟨by show k + 1 ≤ src.size; omega, by rw [List.length_append]; show b.length + 1 ≤ 201; omega, hr⟩ (by show src.size - (k + 1) < src.size - k; omega)
end Go.Proofs.YtjfccohgkgcnfaaGreatDoor
