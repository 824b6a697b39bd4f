/-
  The lexer's Position: a range over a string, walked in memory; as a call in plain values.
-/
import Derived.Test.YtjfccohgkgcnfaaGreatDoorA10
import Derived.Test.YtjfccohgkgcnfaaGreatDoorPg
import Derived.LoopTactic
namespace Go.Proofs.YtjfccohgkgcnfaaGreatDoor
open Go.RowKit Go.Q Go.Lx Go.Vl
set_option maxRecDepth 100000
variable {w : World}
theorem take_feed (s : ByteArray) (pos : Nat) (h : pos < s.size) (hf : s[pos] = 10) : posOf ((bl s).take (pos + 1)) = ((posOf ((bl s).take pos)).1 + 1, 1) := by
  rw [take_snoc s pos h, posOf_snoc, if_pos hf]
theorem take_plain (s : ByteArray) (pos n : Nat) (h : pos + n ≤ s.size) (hf : ∀ k (hk : k < s.size), pos ≤ k → k < pos + n → s[k] ≠ 10) : posOf ((bl s).take (pos + n)) = ((posOf ((bl s).take pos)).1, (posOf ((bl s).take pos)).2 + n) := by
  induction n with
  | zero => rfl
  | succ n ih =>
    have hk : pos + n < s.size := by omega
    rw [← Nat.add_assoc, take_snoc s (pos + n) hk, posOf_snoc, if_neg (hf _ hk (by omega) (by omega)), ih (by omega) fun k hk h1 h2 => hf k hk h1 (by omega)]
    rfl
/-- One character on. -/
theorem pos_step (s : ByteArray) (pos : Nat) (h : pos < s.size) : pos + 1 ≤ pos + (Utf8.decode s pos).2 ∧ pos + (Utf8.decode s pos).2 ≤ s.size ∧
    ((((Utf8.decode s pos).1 : Int) == 10) = true ∧ (Utf8.decode s pos).2 = 1 ∧ posOf ((bl s).take (pos + (Utf8.decode s pos).2)) = ((posOf ((bl s).take pos)).1 + 1, 1) ∨
     (((Utf8.decode s pos).1 : Int) == 10) = false ∧ posOf ((bl s).take (pos + (Utf8.decode s pos).2)) = ((posOf ((bl s).take pos)).1, (posOf ((bl s).take pos)).2 + (Utf8.decode s pos).2)) := by
  by_cases ha : (s[pos]'h).toNat < 128
  · rw [decode_ascii s pos h ha]
    refine ⟨Nat.le_refl _, h, ?_⟩
    by_cases hc : s[pos] = 10
    · exact .inl ⟨by rw [hc]; rfl, rfl, take_feed s pos h hc⟩
    · refine .inr ⟨beq_eq_false_iff_ne.2 fun e => hc ((eq_iff _ 10).2 e), take_plain s pos 1 h fun k hk h1 h2 => ?_⟩
      obtain rfl : k = pos := by omega
      exact hc
  · have h1 := decode_high s pos h (by omega)
    have h2 := wide_plain s pos h (by omega)
    refine ⟨by omega, h2.1, .inr ⟨beq_eq_false_iff_ne.2 (by omega), take_plain s pos _ h2.1 fun k hk h3 h4 e => ?_⟩⟩
    have := h2.2 k hk h3 h4
    rw [e] at this
    exact absurd this (by decide)
theorem _root_.Go.Vl.VC.litPair {P : Program} {f : FuncId} {σ : List (List PV)} (ls : List Value) (r r2 : Value) (h : ∀ w, glbP w → Calls P f ls.toArray w fun e w' => e = .returned (.tuple #[r, r2]) ∧ Below w.heap.size w w') : VC P f (ls.map .lit) σ fun x σ' => x = .ret (.tup [.lit r, .lit r2]) ∧ σ' = σ := by
  intro w G vs hs hvs hv _ hgl
  rw [lits_args hvs hv]
  refine (h w hgl.1).mono fun e w' ⟨he, hb⟩ => ?_
  refine ⟨_, _, { G with U := G.U }, ⟨rfl, rfl⟩, ⟨_, he, .tup _ _ _ rfl fun i hi => ?_, fun i xs hi => ?_⟩, hs.below hb (fun _ _ h => .inl h) (fun _ _ h => h), Ext.ofBelow hs hb (fun _ _ h => .inl h) (fun _ _ h => h)⟩
  · match i, hi with
    | 0, _ => exact .lit _ _
    | 1, _ => exact .lit _ _
  · match i with
    | 0 => cases hi
    | 1 => cases hi
    | i + 2 => simp at hi
theorem below_iter (w : World) (s : ByteArray) (p : Nat) : Below w.heap.size w (w.iter s p) := (Below.refl _ _).alloc (Nat.le_refl _) _
theorem lexPos (src : ByteArray) (z : Int) (hs : src.size ≤ 1000000) :
    Calls Tryz.prog 16 #[.string src, .int .i64 z] w fun e w' => e = .returned (.tuple #[.int .i64 ((placeOf src z).1 : Int), .int .i64 ((placeOf src z).2 : Int)]) ∧ Below w.heap.size w w' := by
  by_cases h1 : z < 0
  · have d1 : decide (z < 0) = true := decide_eq_true h1
    have hp : placeOf src z = (0, 0) := by unfold placeOf; rw [if_pos (.inl h1)]
    go_enter Tryz.func16, Tryz.ntmps16
    go_wp2
    refine bodyPost_ret (results_tmp2 Tryz.results16 _ _ _) rfl ?_
    rw [hp]
    exact ⟨rfl, Below.refl _ _⟩
  have d1 : decide (z < 0) = false := decide_eq_false h1
  by_cases h2 : (src.size : Int) < z
  · have d2 : decide ((src.size : Int) < z) = true := decide_eq_true h2
    have hp : placeOf src z = (0, 0) := by unfold placeOf; rw [if_pos (.inr h2)]
    go_enter Tryz.func16, Tryz.ntmps16
    go_wp2
    refine bodyPost_ret (results_tmp2 Tryz.results16 _ _ _) rfl ?_
    exact ⟨rfl, Below.refl _ _⟩
  have d2 : decide ((src.size : Int) < z) = false := decide_eq_false h2
  obtain ⟨n, rfl⟩ : ∃ n : Nat, z = (n : Int) := ⟨z.toNat, by omega⟩
  have hn : n ≤ src.size := by omega
  have hp : placeOf src (n : Int) = posOf ((bl src).take n) := by unfold placeOf; rw [if_neg (by omega)]; rfl
  rw [hp]
  obtain ⟨s, hse⟩ : ∃ s, s = src.extract 0 n := ⟨_, rfl⟩
  have hsb : bl s = (bl src).take n := by rw [hse, bl_ext, List.drop_zero]; rfl
  have hsn : s.size = n := by rw [← bl_len, hsb, List.length_take, bl_len]; omega
  have hfin : (bl s).take n = bl s := by rw [List.take_of_length_le]; rw [bl_len]; omega
  rw [← hsb]
  clear hp
  subst hse
  have b0 : (0 : Int) ≤ (n : Int) := by omega
  have b1 : (n : Int) ≤ (src.size : Int) := by omega
  go_enter Tryz.func16, Tryz.ntmps16
  go_wp2
  go_loopw [4, 6] (fun va vb w' => ∃ (pos a b : Nat), w' = w.iter (src.extract 0 n) pos ∧ pos ≤ n ∧ a ≤ pos ∧ b ≤ pos ∧ va = .int .i64 (a : Int) ∧ vb = .int .i64 (b : Int) ∧ Hid (posOf ((bl (src.extract 0 n)).take pos) = (a + 1, pos - b + 1))) (fun _ _ w' => n - w'.iterPos w.heap.size)
  case atStart => exact ⟨0, 0, 0, rfl, Nat.zero_le _, Nat.le_refl _, Nat.le_refl _, rfl, rfl, rfl⟩
  case round =>
    obtain ⟨pos, a, b, rfl, hpn, ha, hb, rfl, rfl, hd⟩ := hrel
    by_cases hlt : pos < n
    · have hps : pos < (src.extract 0 n).size := by omega
      have hnx : ∀ ty, (Instr.next (.pointer (some ⟨w.heap.size, 0, none⟩)) true ty).run Tryz.prog (w.iter (src.extract 0 n) pos) = _ := fun ty => run_next_any w (src.extract 0 n) pos ty hps
      obtain ⟨hst1, hst2, hst⟩ := pos_step (src.extract 0 n) pos hps
      obtain ⟨wd, hwd⟩ : ∃ k, k = (Utf8.decode (src.extract 0 n) pos).2 := ⟨_, rfl⟩
      obtain ⟨ch, hch⟩ : ∃ k, k = (Utf8.decode (src.extract 0 n) pos).1 := ⟨_, rfl⟩
      rw [← hwd, ← hch] at hnx hst
      rw [← hwd] at hst1 hst2
      have hdo := hd.out
      rw [hdo] at hst
      clear hd hwd hch
      rcases hst with ⟨hc, h1w, hst⟩ | ⟨hc, hst⟩
      · have Hst := Lib.hid hst
        clear hst hdo
        go_wp2
        go_roundw
        case rel => exact ⟨pos + 1, a + 1, pos + 1, rfl, by omega, by omega, by omega, by go_num, by go_num, by show _ = _; have := Hst.out; rw [h1w] at this; rw [this]; simp⟩
        case measure => simp; omega
      · have Hst := Lib.hid hst
        clear hst hdo
        go_wp2
        go_roundw
        case rel => exact ⟨pos + wd, a, b, rfl, by omega, by omega, by omega, rfl, rfl, by show _ = _; rw [Hst.out]; simp; omega⟩
        case measure => simp; omega
    · obtain rfl : pos = n := by omega
      have hnx : ∀ ty, (Instr.next (.pointer (some ⟨w.heap.size, 0, none⟩)) true ty).run Tryz.prog (w.iter (src.extract 0 pos) pos) = _ := fun ty => run_next_end w (src.extract 0 pos) pos ty (by omega)
      go_wp2
      refine bodyPost_ret (results_tmp2 Tryz.results16 _ _ _) rfl ?_
      have e := hd.out
      rw [hfin] at e
      rw [e]
      refine ⟨?_, below_iter _ _ _⟩
      have e1 : ((pos - b + 1 : Nat) : Int) = (pos : Int) - (b : Int) + 1 := by omega
      have e2 : ((a + 1 : Nat) : Int) = (a : Int) + 1 := by omega
      simp only [e1, e2]
      rfl
theorem vPos (src : ByteArray) (z : Int) (hs : src.size ≤ 1000000) (σ : List (List PV)) :
    VC Tryz.prog 16 [.lit (.string src), .lit (.int .i64 z)] σ fun x σ' => x = .ret (.tup [.lit (.int .i64 ((placeOf src z).1 : Int)), .lit (.int .i64 ((placeOf src z).2 : Int))]) ∧ σ' = σ :=
  VC.litPair [.string src, .int .i64 z] _ _ fun _ _ => lexPos src z hs
end Go.Proofs.YtjfccohgkgcnfaaGreatDoor
