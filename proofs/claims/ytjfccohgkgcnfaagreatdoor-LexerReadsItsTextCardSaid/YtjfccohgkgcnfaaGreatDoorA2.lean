/-
  The lexer's functions, walked in plain values: put, name.
-/
import Derived.Test.YtjfccohgkgcnfaaGreatDoorA1
namespace Go.Proofs.YtjfccohgkgcnfaaGreatDoor
open Go.RowKit Go.Q Go.Lx Go.Vl
set_option maxRecDepth 100000
theorem app_ok {p : Prop} [Decidable p] {xs ys : List (List PV)} {sz : Nat} (h : p) (hx : ∀ x ∈ xs, x.length = sz) (hy : (ys.all fun x => x.length == sz) = true) : (decide p && ((xs.all fun x => x.length == sz) && (ys.all fun x => x.length == sz))) = true := by
  rw [decide_eq_true h, hy, Bool.true_and, Bool.and_true, List.all_eq_true]
  exact fun x h => beq_iff_eq.2 (hx x h)
/-- A reader: its source, where it stands, what it has read. -/
def rdP (src : ByteArray) (p : Nat) (xs : List (List PV)) : List PV := [.lit (.string src), .lit (.int .i64 (p : Int)), .sl xs .own]
theorem vPut (src : ByteArray) (p : Nat) (xs : List (List PV)) (kind q : Nat) (str : ByteArray) (n : Int) (hx : ∀ x ∈ xs, x.length = 4) (hl : xs.length ≤ 1000000) :
    VC Tryz.prog 22 [.ptr 0 0, .lit (.int .i64 (kind : Int)), .lit (.int .i64 (q : Int)), .lit (.string str), .lit (.int .i64 n)] [rdP src p xs] fun x σ' => x = .ret (.lit (.int .i64 0)) ∧ σ' = [rdP src q (xs ++ [[.lit (.int .i64 (kind : Int)), .lit (.int .i64 (p : Int)), .lit (.string str), .lit (.int .i64 n)]])] := by
  unfold rdP
  refine VC.intro ⟨[0, 1, 2, 3, 4, 10], []⟩ Tryz.func22 rfl follows ok22 (by rw [Tryz.ntmps22]; exact Nat.le_of_ble_eq_true rfl) ?_; refine WS_of ?_
  repeat (first | refine WS_seq ?_ | refine WS_block ?_ | refine WS_skip ?_ | refine WS_blk ?_ | refine WS_label ?_ | refine WS_exit rfl ?_ | refine WS_true rfl ?_ | refine WS_false rfl ?_ | (refine WS_region rfl ?_; intro K' hK hP; simp only [go_sem]; apply hK; (focus (simp only [go_sem]; exact rfl)); clear hK hP K'))
  refine WS_region rfl ?_; intro K' hK hP; simp only [go_sem]
  refine ⟨rfl, app_ok (by omega) hx rfl, ?_⟩
  apply hK; (focus (simp only [go_sem]; exact rfl)); clear hK hP K'
  repeat (first | refine WS_seq ?_ | refine WS_block ?_ | refine WS_skip ?_ | refine WS_blk ?_ | refine WS_label ?_ | refine WS_exit rfl ?_ | refine WS_true rfl ?_ | refine WS_false rfl ?_ | (refine WS_region rfl ?_; intro K' hK hP; simp only [go_sem]; apply hK; (focus (simp only [go_sem]; exact rfl)); clear hK hP K'))
  refine WS_ret ?_; simp only [go_sem, Tryz.results22]

/-- A token read, as a row. -/
def tkRow (p k : Nat) (s : List UInt8) (v : Nat) : List PV := [.lit (.int .i64 (k : Int)), .lit (.int .i64 (p : Int)), .lit (.string ⟨⟨s⟩⟩), .lit (.int .i64 (v : Int))]
/-- What a reading function answers, and what it leaves. -/
def rdR : Option Out → PV
  | none => .tup [.lit (.bool false), .lit (.int .i64 0)]
  | some (.bad e) => .tup [.lit (.bool true), .lit (.int .i64 (e : Int))]
  | some (.ok _ _ _ _) => .tup [.lit (.bool true), .lit (.int .i64 0)]
def rdS (src : ByteArray) (p : Nat) (xs : List (List PV)) : Option Out → List PV
  | some (.ok k s v r) => rdP src (src.size - r.length) (xs ++ [tkRow p k s v])
  | _ => rdP src p xs
theorem cls_three (c : UInt8) : ((cls c : Int) != 3) = !isLetter c := by
  unfold cls
  cases isLetter c <;> cases isDigit c <;> cases isBlank c <;> rfl
theorem ext_eq {src : ByteArray} {p j : Nat} : src.extract p j = ⟨⟨((bl src).drop p).take (j - p)⟩⟩ := by
  have := bl_ext src p j
  rw [← this]
theorem vName (src : ByteArray) (p : Nat) (xs : List (List PV)) (hp : p < src.size) (hs : src.size ≤ 1000000) (hx : ∀ x ∈ xs, x.length = 4) (hl : xs.length ≤ 1000000) :
    VC Tryz.prog 32 [.ptr 0 0] [rdP src p xs] fun x σ' => x = .ret (rdR (if isLetter src[p] then some (name ((bl src).drop p)) else none)) ∧ σ' = [rdS src p xs (if isLetter src[p] then some (name ((bl src).drop p)) else none)] := by
  have g1 := (getD_at src p hp).symm
  have e3 := cls_three src[p]
  unfold rdP
  refine VC.intro ⟨[0, 2, 3, 4, 15, 24], []⟩ Tryz.func32 rfl follows ok32 (by rw [Tryz.ntmps32]; exact Nat.le_of_ble_eq_true rfl) ?_; refine WS_of ?_
  repeat (first | refine WS_seq ?_ | refine WS_block ?_ | refine WS_skip ?_ | refine WS_blk ?_ | refine WS_label ?_ | refine WS_exit rfl ?_ | refine WS_true rfl ?_ | refine WS_false rfl ?_ | (refine WS_region rfl ?_; intro K' hK hP; simp only [go_sem]; apply hK; (focus (simp only [go_sem]; exact rfl)); clear hK hP K'))
  refine WS_region rfl ?_; intro K' hK hP; simp only [go_sem, g1]
  refine ⟨⟨by omega, by omega⟩, ?_⟩
  refine ((vClass src[p])).mono ?_; rintro _ _ ⟨rfl, rfl⟩; simp only [go_sem]
  apply hK; (focus (simp only [go_sem]; exact rfl)); clear hK hP K'
  cases hL : isLetter src[p] with
  | false =>
    rw [hL] at e3
    refine WS_true (by simp only [go_sem, e3]) ?_
    repeat (first | refine WS_seq ?_ | refine WS_block ?_ | refine WS_skip ?_ | refine WS_blk ?_ | refine WS_label ?_ | refine WS_exit rfl ?_ | refine WS_true rfl ?_ | refine WS_false rfl ?_ | (refine WS_region rfl ?_; intro K' hK hP; simp only [go_sem]; apply hK; (focus (simp only [go_sem]; exact rfl)); clear hK hP K'))
    refine WS_ret ?_; simp only [go_sem, Tryz.results32]
    exact ⟨rfl, rfl⟩
  | true =>
    rw [hL] at e3
    refine WS_false (by simp only [go_sem, e3]) ?_
    repeat (first | refine WS_seq ?_ | refine WS_block ?_ | refine WS_skip ?_ | refine WS_blk ?_ | refine WS_label ?_ | refine WS_exit rfl ?_ | refine WS_true rfl ?_ | refine WS_false rfl ?_ | (refine WS_region rfl ?_; intro K' hK hP; simp only [go_sem]; apply hK; (focus (simp only [go_sem]; exact rfl)); clear hK hP K'))
    refine WS_region rfl ?_; intro K' hK hP; simp only [go_sem]
    refine (vSpan src p xs (Nat.le_of_lt hp) hs).mono ?_
    rintro _ _ ⟨rfl, j, rfl, h1, h2, h3, h4⟩
    simp only [go_sem]
    apply hK; (focus (simp only [go_sem]; exact rfl)); clear hK hP K'
    have hw := h3.while h1 h4
    have hlen := take_len src p j h1 h2
    have w1 : IntKind.i64.wrap ((j : Int) - (p : Int)) = ((j - p : Nat) : Int) := wrapN (by omega) (by omega)
    repeat (first | refine WS_seq ?_ | refine WS_block ?_ | refine WS_skip ?_ | refine WS_blk ?_ | refine WS_label ?_ | refine WS_exit rfl ?_ | refine WS_true rfl ?_ | refine WS_false rfl ?_ | (refine WS_region rfl ?_; intro K' hK hP; simp only [go_sem, w1]; apply hK; (focus (simp only [go_sem]; exact rfl)); clear hK hP K'))
    by_cases h32 : 32 < j - p
    · have hr : name ((bl src).drop p) = .bad 2 := by unfold name; rw [hw.1, hlen, if_pos h32]
      refine WS_true (by simp only [go_sem]; rw [decide_eq_true (by omega)]) ?_
      repeat (first | refine WS_seq ?_ | refine WS_block ?_ | refine WS_skip ?_ | refine WS_blk ?_ | refine WS_label ?_ | refine WS_exit rfl ?_ | refine WS_true rfl ?_ | refine WS_false rfl ?_ | (refine WS_region rfl ?_; intro K' hK hP; simp only [go_sem]; apply hK; (focus (simp only [go_sem]; exact rfl)); clear hK hP K'))
      refine WS_ret ?_; simp only [go_sem, Tryz.results32]
      rw [hr]
      exact ⟨rfl, rfl⟩
    · have hr : name ((bl src).drop p) = .ok 1 (((bl src).drop p).take (j - p)) 0 ((bl src).drop j) := by unfold name; rw [hw.1, hw.2, hlen, if_neg h32]
      have hq : src.size - ((bl src).drop j).length = j := by rw [List.length_drop, bl_len]; omega
      refine WS_false (by simp only [go_sem]; rw [decide_eq_false (by omega)]) ?_
      repeat (first | refine WS_seq ?_ | refine WS_block ?_ | refine WS_skip ?_ | refine WS_blk ?_ | refine WS_label ?_ | refine WS_exit rfl ?_ | refine WS_true rfl ?_ | refine WS_false rfl ?_ | (refine WS_region rfl ?_; intro K' hK hP; simp only [go_sem]; apply hK; (focus (simp only [go_sem]; exact rfl)); clear hK hP K'))
      refine WS_region rfl ?_; intro K' hK hP; simp only [go_sem]
      refine ⟨⟨by omega, by omega, by omega⟩, ?_⟩
      refine ((vPut src p xs 1 j (src.extract p j) 0 hx hl)).mono ?_; rintro _ _ ⟨rfl, rfl⟩; simp only [go_sem]
      apply hK; (focus (simp only [go_sem]; exact rfl)); clear hK hP K'
      repeat (first | refine WS_seq ?_ | refine WS_block ?_ | refine WS_skip ?_ | refine WS_blk ?_ | refine WS_label ?_ | refine WS_exit rfl ?_ | refine WS_true rfl ?_ | refine WS_false rfl ?_ | (refine WS_region rfl ?_; intro K' hK hP; simp only [go_sem]; apply hK; (focus (simp only [go_sem]; exact rfl)); clear hK hP K'))
      refine WS_ret ?_; simp only [go_sem, Tryz.results32]
      rw [hr]
      refine ⟨rfl, ?_⟩
      show [rdP _ _ _] = [rdP _ _ _]
      rw [hq, ext_eq]; rfl
end Go.Proofs.YtjfccohgkgcnfaaGreatDoor
