/-
  The reference's Same, walked in plain values.
-/
import Derived.Test.YtjfccohgkgcnfaaGreatDoorA8
namespace Go.Proofs.YtjfccohgkgcnfaaGreatDoor
open Go.RowKit Go.Q Go.Lx Go.Vl
set_option maxRecDepth 100000
theorem tk_at {l : List Tok} {k : Nat} (h : k < l.length) : (l.map tkR).getD k [] = tkR l[k] := by
  rw [List.getD_eq_getElem?_getD, List.getElem?_map, List.getElem?_eq_getElem h]; rfl
theorem vSame0 (l1 l2 : List Tok) (hs : l1.length ≤ 1000000) :
    VC Tryz.prog 18 [.sl (l1.map tkR) .shared, .sl (l2.map tkR) .shared] [] fun x σ' => x = .ret (.lit (.bool (decide (l1.map Lx.Tok.core = l2.map Lx.Tok.core)))) ∧ σ' = [] := by
  have e1 : (l1.map tkR).length = l1.length := List.length_map ..
  have e2 : (l2.map tkR).length = l2.length := List.length_map ..
  obtain ⟨Z1, hZ1⟩ : ∃ Z, Z = l1.map tkR := ⟨_, rfl⟩
  obtain ⟨Z2, hZ2⟩ : ∃ Z, Z = l2.map tkR := ⟨_, rfl⟩
  rw [← hZ1] at e1 ⊢
  rw [← hZ2] at e2 ⊢
  refine VC.intro ⟨[0, 1, 4, 5, 10, 14, 53], []⟩ Tryz.func18 rfl follows ok18 (by rw [Tryz.ntmps18]; exact Nat.le_of_ble_eq_true rfl) ?_; refine WS_of ?_
  repeat (first | refine WS_seq ?_ | refine WS_block ?_ | refine WS_skip ?_ | refine WS_blk ?_ | refine WS_label ?_ | refine WS_exit rfl ?_ | refine WS_true rfl ?_ | refine WS_false rfl ?_ | (refine WS_region rfl ?_; intro K' hK hP; simp only [go_sem]; apply hK; (focus (simp only [go_sem]; exact rfl)); clear hK hP K'))
  by_cases hn : l1.length = l2.length
  rotate_left
  · have b : ((Z1.length : Int) == (Z2.length : Int)) = false := beq_eq_false_iff_ne.2 (by omega)
    refine WS_true (by simp only [go_sem, bne, b]) ?_
    repeat (first | refine WS_seq ?_ | refine WS_block ?_ | refine WS_skip ?_ | refine WS_blk ?_ | refine WS_label ?_ | refine WS_exit rfl ?_ | refine WS_true rfl ?_ | refine WS_false rfl ?_ | (refine WS_region rfl ?_; intro K' hK hP; simp only [go_sem]; apply hK; (focus (simp only [go_sem]; exact rfl)); clear hK hP K'))
    refine WS_ret ?_; simp only [go_sem, Tryz.results18]
    rw [decide_eq_false fun h => hn (by simpa using congrArg List.length h)]
  have b : ((Z1.length : Int) == (Z2.length : Int)) = true := beq_iff_eq.2 (by omega)
  refine WS_false (by simp only [go_sem, bne, b]) ?_
  repeat (first | refine WS_seq ?_ | refine WS_block ?_ | refine WS_skip ?_ | refine WS_blk ?_ | refine WS_label ?_ | refine WS_exit rfl ?_ | refine WS_true rfl ?_ | refine WS_false rfl ?_ | (refine WS_region rfl ?_; intro K' hK hP; simp only [go_sem]; apply hK; (focus (simp only [go_sem]; exact rfl)); clear hK hP K'))
  refine WS_for [0, 1, 5] 0 (fun k : Nat => k ≤ l1.length ∧ (l1.map Lx.Tok.core).take k = (l2.map Lx.Tok.core).take k) (fun k => l1.length - k)
    (fun k => ⟨[(0, .sl Z1 .shared), (1, .sl Z2 .shared), (5, .lit (.int .i64 (k : Int)))], []⟩) 0 (Nat.zero_le _) ?_ ⟨Nat.zero_le _, rfl⟩ ?_
  · exact rfl
  rintro k ⟨hk, hc⟩
  by_cases hlt : k < l1.length
  · have d1 : decide ((k : Int) < (Z1.length : Int)) = true := by rw [decide_eq_true_eq]; omega
    have hlt2 : k < l2.length := by omega
    obtain ⟨t1, ht1⟩ : ∃ t, t = l1[k] := ⟨_, rfl⟩
    obtain ⟨t2, ht2⟩ : ∃ t, t = l2[k] := ⟨_, rfl⟩
    have r1 : Z1.getD k [] = [.lit (.int .i64 (t1.kind : Int)), .lit (.int .i64 (t1.at_ : Int)), .lit (.string ⟨⟨t1.s⟩⟩), .lit (.int .i64 (t1.n : Int))] := by rw [hZ1, ht1]; exact tk_at hlt
    have r2 : Z2.getD k [] = [.lit (.int .i64 (t2.kind : Int)), .lit (.int .i64 (t2.at_ : Int)), .lit (.string ⟨⟨t2.s⟩⟩), .lit (.int .i64 (t2.n : Int))] := by rw [hZ2, ht2]; exact tk_at hlt2
    have hne : Lx.Tok.core t1 ≠ Lx.Tok.core t2 → decide (l1.map Lx.Tok.core = l2.map Lx.Tok.core) = false := fun h => decide_eq_false fun e => h (by
      have := congrArg (fun l => l[k]?) e
      simp only [List.getElem?_map, List.getElem?_eq_getElem hlt, List.getElem?_eq_getElem hlt2, Option.map_some] at this
      rw [ht1, ht2]; exact Option.some.inj this)
    by_cases hk1 : t1.kind = t2.kind
    rotate_left
    · have bk : ((t1.kind : Int) == (t2.kind : Int)) = false := beq_eq_false_iff_ne.2 (by omega)
      repeat (first | refine WS_seq ?_ | refine WS_block ?_ | refine WS_skip ?_ | refine WS_blk ?_ | refine WS_label ?_ | refine WS_exit rfl ?_ | refine WS_true rfl ?_ | refine WS_false rfl ?_ | (refine WS_region rfl ?_; intro K' hK hP; simp only [go_sem, d1, r1, r2, bne, bk]; apply hK; (focus (simp only [go_sem]; exact rfl)); clear hK hP K'))
      refine WS_region rfl ?_; intro K' hK hP; simp only [go_sem, r1, r2, bne, bk]
      refine ⟨⟨by omega, by omega⟩, ⟨by omega, by omega⟩, ?_⟩
      apply hK; (focus (simp only [go_sem]; exact rfl)); clear hK hP K'
      repeat (first | refine WS_seq ?_ | refine WS_block ?_ | refine WS_skip ?_ | refine WS_blk ?_ | refine WS_label ?_ | refine WS_exit rfl ?_ | refine WS_true rfl ?_ | refine WS_false rfl ?_ | (refine WS_region rfl ?_; intro K' hK hP; simp only [go_sem]; apply hK; (focus (simp only [go_sem]; exact rfl)); clear hK hP K'))
      refine WS_ret ?_; simp only [go_sem, Tryz.results18]
      rw [hne fun h => hk1 (congrArg (·.1) h)]
    have bk : ((t1.kind : Int) == (t2.kind : Int)) = true := beq_iff_eq.2 (by omega)
    by_cases hs1 : t1.s = t2.s
    rotate_left
    · have bs : decide ((⟨⟨t1.s⟩⟩ : ByteArray) = ⟨⟨t2.s⟩⟩) = false := decide_eq_false fun h => hs1 (by injection h with h; injection h)
      repeat (first | refine WS_seq ?_ | refine WS_block ?_ | refine WS_skip ?_ | refine WS_blk ?_ | refine WS_label ?_ | refine WS_exit rfl ?_ | refine WS_true rfl ?_ | refine WS_false rfl ?_ | (refine WS_region rfl ?_; intro K' hK hP; simp only [go_sem, d1, r1, r2, bne, bk, bs]; apply hK; (focus (simp only [go_sem]; exact rfl)); clear hK hP K'))
      refine WS_region rfl ?_; intro K' hK hP; simp only [go_sem, r1, r2, bne, bk, bs]
      refine ⟨⟨by omega, by omega⟩, ⟨by omega, by omega⟩, ⟨by omega, by omega⟩, ⟨by omega, by omega⟩, ?_⟩
      apply hK; (focus (simp only [go_sem]; exact rfl)); clear hK hP K'
      repeat (first | refine WS_seq ?_ | refine WS_block ?_ | refine WS_skip ?_ | refine WS_blk ?_ | refine WS_label ?_ | refine WS_exit rfl ?_ | refine WS_true rfl ?_ | refine WS_false rfl ?_ | (refine WS_region rfl ?_; intro K' hK hP; simp only [go_sem]; apply hK; (focus (simp only [go_sem]; exact rfl)); clear hK hP K'))
      refine WS_ret ?_; simp only [go_sem, Tryz.results18]
      rw [hne fun h => hs1 (congrArg (·.2.1) h)]
    have bs : decide ((⟨⟨t1.s⟩⟩ : ByteArray) = ⟨⟨t2.s⟩⟩) = true := decide_eq_true (by rw [hs1])
    by_cases hn1 : t1.n = t2.n
    · have bn : ((t1.n : Int) == (t2.n : Int)) = true := beq_iff_eq.2 (by omega)
      have w1 : IntKind.i64.wrap ((k : Int) + 1) = ((k + 1 : Nat) : Int) := wrapN (by omega) (by omega)
      repeat (first | refine WS_seq ?_ | refine WS_block ?_ | refine WS_skip ?_ | refine WS_blk ?_ | refine WS_label ?_ | refine WS_exit rfl ?_ | refine WS_true rfl ?_ | refine WS_false rfl ?_ | (refine WS_region rfl ?_; intro K' hK hP; simp only [go_sem, d1, r1, r2, bne, bk, bs, bn]; apply hK; (focus (simp only [go_sem]; exact rfl)); clear hK hP K'))
      refine WS_region rfl ?_; intro K' hK hP; simp only [go_sem, r1, r2, bne, bk, bs, bn]
      refine ⟨⟨by omega, by omega⟩, ⟨by omega, by omega⟩, ⟨by omega, by omega⟩, ⟨by omega, by omega⟩, ⟨by omega, by omega⟩, ⟨by omega, by omega⟩, ?_⟩
      apply hK; (focus (simp only [go_sem]; exact rfl)); clear hK hP K'
      repeat (first | refine WS_seq ?_ | refine WS_block ?_ | refine WS_skip ?_ | refine WS_blk ?_ | refine WS_label ?_ | refine WS_exit rfl ?_ | refine WS_true rfl ?_ | refine WS_false rfl ?_ | (refine WS_region rfl ?_; intro K' hK hP; simp only [go_sem, w1]; apply hK; (focus (simp only [go_sem]; exact rfl)); clear hK hP K'))
      refine WS_again (k + 1) rfl ⟨hlt, ?_⟩ (by omega)
      have hce : Lx.Tok.core t1 = Lx.Tok.core t2 := by unfold Lx.Tok.core; rw [hk1, hs1, hn1]
      rw [List.take_add_one, List.take_add_one, hc]
      congr 1
      simp only [List.getElem?_map, List.getElem?_eq_getElem hlt, List.getElem?_eq_getElem hlt2, Option.map_some]
      rw [← ht1, ← ht2, hce]
    · have bn : ((t1.n : Int) == (t2.n : Int)) = false := beq_eq_false_iff_ne.2 (by omega)
      repeat (first | refine WS_seq ?_ | refine WS_block ?_ | refine WS_skip ?_ | refine WS_blk ?_ | refine WS_label ?_ | refine WS_exit rfl ?_ | refine WS_true rfl ?_ | refine WS_false rfl ?_ | (refine WS_region rfl ?_; intro K' hK hP; simp only [go_sem, d1, r1, r2, bne, bk, bs, bn]; apply hK; (focus (simp only [go_sem]; exact rfl)); clear hK hP K'))
      refine WS_region rfl ?_; intro K' hK hP; simp only [go_sem, r1, r2, bne, bk, bs, bn]
      refine ⟨⟨by omega, by omega⟩, ⟨by omega, by omega⟩, ⟨by omega, by omega⟩, ⟨by omega, by omega⟩, ⟨by omega, by omega⟩, ⟨by omega, by omega⟩, ?_⟩
      apply hK; (focus (simp only [go_sem]; exact rfl)); clear hK hP K'
      repeat (first | refine WS_seq ?_ | refine WS_block ?_ | refine WS_skip ?_ | refine WS_blk ?_ | refine WS_label ?_ | refine WS_exit rfl ?_ | refine WS_true rfl ?_ | refine WS_false rfl ?_ | (refine WS_region rfl ?_; intro K' hK hP; simp only [go_sem]; apply hK; (focus (simp only [go_sem]; exact rfl)); clear hK hP K'))
      refine WS_ret ?_; simp only [go_sem, Tryz.results18]
      rw [hne fun h => hn1 (congrArg (·.2.2) h)]
  · have d1 : decide ((k : Int) < (Z1.length : Int)) = false := by rw [decide_eq_false_iff_not]; omega
    repeat (first | refine WS_seq ?_ | refine WS_block ?_ | refine WS_skip ?_ | refine WS_blk ?_ | refine WS_label ?_ | refine WS_exit rfl ?_ | refine WS_true rfl ?_ | refine WS_false rfl ?_ | (refine WS_region rfl ?_; intro K' hK hP; simp only [go_sem, d1]; apply hK; (focus (simp only [go_sem]; exact rfl)); clear hK hP K'))
    refine WS_ret ?_; simp only [go_sem, Tryz.results18]
    have : decide (l1.map Lx.Tok.core = l2.map Lx.Tok.core) = true := decide_eq_true (by
      rw [List.take_of_length_le (by rw [List.length_map]; omega), List.take_of_length_le (by rw [List.length_map]; omega)] at hc
      exact hc)
    rw [this]
theorem vSame (σ : List (List PV)) (l1 l2 : List Tok) (hs : l1.length ≤ 1000000) :
    VC Tryz.prog 18 [.sl (l1.map tkR) .shared, .sl (l2.map tkR) .shared] σ fun x σ' => x = .ret (.lit (.bool (decide (l1.map Lx.Tok.core = l2.map Lx.Tok.core)))) ∧ σ' = σ := by
  refine VC.pure ((vSame0 l1 l2 hs).mono ?_) rfl
  rintro _ _ ⟨rfl, rfl⟩
  exact ⟨rfl, rfl⟩
end Go.Proofs.YtjfccohgkgcnfaaGreatDoor
