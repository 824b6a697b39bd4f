/-
  The field of 256 elements: the two texts' products are the same function, and it is a field. Plain Lean, no program.
-/
import Init
namespace Go.Q
def allB (f : Nat → Bool) : Nat → Bool
  | 0 => true
  | n + 1 => f n && allB f n
theorem allB_spec {f : Nat → Bool} : ∀ n, allB f n = true → ∀ k, k < n → f k = true
  | 0, _, k, hk => by omega
  | n + 1, h, k, hk => by
    simp only [allB, Bool.and_eq_true] at h
    by_cases e : k = n
    · rw [e]; exact h.1
    · exact allB_spec n h.2 k (by omega)
/-- x times the polynomial x -/
def xt (x : Nat) : Nat := Nat.xor (Nat.mul 2 x) (Nat.mul 285 (Nat.div x 128))
def xtn (x : Nat) : Nat → Nat
  | 0 => x
  | k + 1 => xt (xtn x k)
/-- bit k of b times v -/
def bt (b k v : Nat) : Nat := Nat.mul (Nat.mod (Nat.div b (Nat.pow 2 k)) 2) v
/-- the product: the sum over the lowest n bits of b -/
def gs (a b : Nat) : Nat → Nat
  | 0 => 0
  | n + 1 => Nat.xor (gs a b n) (bt b n (xtn a n))
def gmN (a b : Nat) : Nat := gs a b 8
theorem xor_def (a b : Nat) : Nat.xor a b = a ^^^ b := rfl
theorem xt_lt {x : Nat} (h : x < 256) : xt x < 256 := by
  have := allB_spec (f := fun x => Nat.blt (xt x) 256) 256 (by decide +kernel) x h
  simpa using this
theorem xtn_lt {x : Nat} (h : x < 256) : ∀ k, xtn x k < 256
  | 0 => h
  | k + 1 => xt_lt (xtn_lt h k)
theorem xor_lt {a b : Nat} (ha : a < 256) (hb : b < 256) : a ^^^ b < 256 := Nat.xor_lt_two_pow (n := 8) ha hb
theorem bt_cases (b k v : Nat) : bt b k v = if b.testBit k then v else 0 := by
  have h : Nat.mod (Nat.div b (Nat.pow 2 k)) 2 = b / 2 ^ k % 2 := rfl
  unfold bt
  rw [h, Nat.testBit_eq_decide_div_mod_eq]
  rcases Nat.mod_two_eq_zero_or_one (b / 2 ^ k) with e | e <;> simp [e]
theorem bt_lt {b k v : Nat} (h : v < 256) : bt b k v < 256 := by
  rw [bt_cases]; split <;> omega
theorem gs_lt {a b : Nat} (ha : a < 256) : ∀ n, gs a b n < 256
  | 0 => by simp [gs]
  | n + 1 => xor_lt (gs_lt ha n) (bt_lt (xtn_lt ha n))
theorem gmN_lt {a b : Nat} (ha : a < 256) : gmN a b < 256 := gs_lt ha 8
-- xt is additive
theorem xt_chk : allB (fun a => allB (fun b => Nat.beq (xt (Nat.xor a b)) (Nat.xor (xt a) (xt b))) 256) 256 = true := by decide +kernel
theorem xt_add {a b : Nat} (ha : a < 256) (hb : b < 256) : xt (a ^^^ b) = xt a ^^^ xt b := by
  have := allB_spec _ (allB_spec _ xt_chk a ha) b hb
  exact Nat.eq_of_beq_eq_true this
theorem xtn_add {a b : Nat} (ha : a < 256) (hb : b < 256) : ∀ k, xtn (a ^^^ b) k = xtn a k ^^^ xtn b k
  | 0 => rfl
  | k + 1 => by simp only [xtn]; rw [xtn_add ha hb k, xt_add (xtn_lt ha k) (xtn_lt hb k)]
theorem xtn_zero : ∀ k, xtn 0 k = 0
  | 0 => rfl
  | k + 1 => by simp only [xtn]; rw [xtn_zero k]; rfl
theorem xtn_xtn (a : Nat) (i : Nat) : ∀ j, xtn (xtn a i) j = xtn a (i + j)
  | 0 => rfl
  | j + 1 => by
    have e : i + (j + 1) = (i + j) + 1 := rfl
    rw [e]; simp only [xtn]; rw [xtn_xtn a i j]
theorem xor4 (a b c d : Nat) : (a ^^^ b) ^^^ (c ^^^ d) = (a ^^^ c) ^^^ (b ^^^ d) := by
  rw [Nat.xor_assoc, Nat.xor_assoc]; congr 1; rw [← Nat.xor_assoc, Nat.xor_comm b c, Nat.xor_assoc]
theorem bt_add_v (b k v w : Nat) : bt b k (v ^^^ w) = bt b k v ^^^ bt b k w := by
  simp only [bt_cases]; split <;> simp
theorem bt_add_b (b c k v : Nat) : bt (b ^^^ c) k v = bt b k v ^^^ bt c k v := by
  simp only [bt_cases, Nat.testBit_xor]
  cases b.testBit k <;> cases c.testBit k <;> simp
theorem gs_add_left {a c : Nat} (b : Nat) (ha : a < 256) (hc : c < 256) : ∀ n, gs (a ^^^ c) b n = gs a b n ^^^ gs c b n
  | 0 => by simp [gs]
  | n + 1 => by
    simp only [gs, xor_def]
    rw [gs_add_left b ha hc n, xtn_add ha hc, bt_add_v, xor4]
theorem gs_add_right (a b c : Nat) : ∀ n, gs a (b ^^^ c) n = gs a b n ^^^ gs a c n
  | 0 => by simp [gs]
  | n + 1 => by
    simp only [gs, xor_def]
    rw [gs_add_right a b c n, bt_add_b, xor4]
theorem gs_zero_left (b : Nat) : ∀ n, gs 0 b n = 0
  | 0 => rfl
  | n + 1 => by simp only [gs, xor_def]; rw [gs_zero_left b n, xtn_zero, bt_cases]; simp
theorem gs_xt_left {a : Nat} (b : Nat) (ha : a < 256) : ∀ n, gs (xt a) b n = xt (gs a b n)
  | 0 => by simp [gs]; rfl
  | n + 1 => by
    simp only [gs, xor_def]
    have e : xtn (xt a) n = xt (xtn a n) := by
      have := xtn_xtn a 1 n; rw [Nat.add_comm] at this; exact this
    have e2 : bt b n (xt (xtn a n)) = xt (bt b n (xtn a n)) := by simp only [bt_cases]; split <;> rfl
    rw [gs_xt_left b ha n, xt_add (gs_lt ha n) (bt_lt (xtn_lt ha n)), e, e2]
theorem one_chk : allB (fun b => Nat.beq (gmN 1 b) b) 256 = true := by decide +kernel
theorem gmN_one_left {b : Nat} (hb : b < 256) : gmN 1 b = b := Nat.eq_of_beq_eq_true (allB_spec _ one_chk b hb)
theorem gmN_zero_left (b : Nat) : gmN 0 b = 0 := gs_zero_left b 8
theorem gmN_add_left {a c : Nat} (b : Nat) (ha : a < 256) (hc : c < 256) : gmN (a ^^^ c) b = gmN a b ^^^ gmN c b := gs_add_left b ha hc 8
theorem gmN_add_right (a b c : Nat) : gmN a (b ^^^ c) = gmN a b ^^^ gmN a c := gs_add_right a b c 8
theorem gs_zero_right (a : Nat) : ∀ n, gs a 0 n = 0
  | 0 => rfl
  | n + 1 => by simp only [gs, xor_def]; rw [gs_zero_right a n, bt_cases]; simp
theorem gmN_zero_right (a : Nat) : gmN a 0 = 0 := gs_zero_right a 8
theorem gmN_xtn_left {a : Nat} (b : Nat) (ha : a < 256) : ∀ k, gmN (xtn a k) b = xtn (gmN a b) k
  | 0 => rfl
  | k + 1 => by simp only [xtn]; rw [← gmN_xtn_left b ha k]; exact gs_xt_left b (xtn_lt ha k) 8
theorem pow_chk : allB (fun j => Nat.beq (xtn 1 j) (2 ^ j)) 8 = true := by decide
theorem xtn_one {j : Nat} (hj : j < 8) : xtn 1 j = 2 ^ j := Nat.eq_of_beq_eq_true (allB_spec _ pow_chk j hj)
theorem gmN_pow_right {a : Nat} (j : Nat) (hj : j < 8) : gmN a (2 ^ j) = xtn a j := by
  have h : ∀ i, (2 ^ j).testBit i = decide (j = i) := fun i => Nat.testBit_two_pow
  have g : j = 0 ∨ j = 1 ∨ j = 2 ∨ j = 3 ∨ j = 4 ∨ j = 5 ∨ j = 6 ∨ j = 7 := by omega
  simp only [gmN, gs, xor_def, bt_cases, h]
  rcases g with rfl | rfl | rfl | rfl | rfl | rfl | rfl | rfl <;> simp
/-- A number below 256 as the sum of its bits. -/
theorem bits_sum {b : Nat} (hb : b < 256) : b = (((((((0 ^^^ bt b 0 (2 ^ 0)) ^^^ bt b 1 (2 ^ 1)) ^^^ bt b 2 (2 ^ 2)) ^^^ bt b 3 (2 ^ 3)) ^^^ bt b 4 (2 ^ 4)) ^^^ bt b 5 (2 ^ 5)) ^^^ bt b 6 (2 ^ 6)) ^^^ bt b 7 (2 ^ 7) := by
  have h := gmN_one_left hb
  simp only [gmN, gs, xor_def, xtn_one (show 0 < 8 by decide), xtn_one (show 1 < 8 by decide), xtn_one (show 2 < 8 by decide), xtn_one (show 3 < 8 by decide), xtn_one (show 4 < 8 by decide), xtn_one (show 5 < 8 by decide), xtn_one (show 6 < 8 by decide), xtn_one (show 7 < 8 by decide)] at h
  exact h.symm
/-- Additive functions that agree on the powers of two agree. -/
theorem additive_ext {f g : Nat → Nat} (hf : ∀ a b, a < 256 → b < 256 → f (a ^^^ b) = f a ^^^ f b) (hg : ∀ a b, a < 256 → b < 256 → g (a ^^^ b) = g a ^^^ g b)
    (hf0 : f 0 = 0) (hg0 : g 0 = 0) (h : ∀ j, j < 8 → f (2 ^ j) = g (2 ^ j)) {b : Nat} (hb : b < 256) : f b = g b := by
  have hp : ∀ j, j < 8 → 2 ^ j < 256 := fun j hj => Nat.pow_lt_pow_right (m := j) (n := 8) (by decide) hj
  have hbt : ∀ j, j < 8 → bt b j (2 ^ j) < 256 := fun j hj => bt_lt (hp j hj)
  have e : ∀ j, j < 8 → f (bt b j (2 ^ j)) = g (bt b j (2 ^ j)) := by
    intro j hj; rw [bt_cases]; split
    · exact h j hj
    · rw [hf0, hg0]
  have key : ∀ l : List Nat, (∀ j ∈ l, j < 8) → ∀ c, c < 256 → f c = g c → f (l.foldl (fun c j => c ^^^ bt b j (2 ^ j)) c) = g (l.foldl (fun c j => c ^^^ bt b j (2 ^ j)) c) := by
    intro l
    induction l with
    | nil => intro _ c _ h; exact h
    | cons j l ih =>
      intro hl c hc hfg
      have hj := hl j (by simp)
      refine ih (fun i hi => hl i (by simp [hi])) _ (xor_lt hc (hbt j hj)) ?_
      rw [hf _ _ hc (hbt j hj), hg _ _ hc (hbt j hj), hfg, e j hj]
  have := key [0, 1, 2, 3, 4, 5, 6, 7] (by decide) 0 (by decide) (by rw [hf0, hg0])
  simp only [List.foldl_cons, List.foldl_nil] at this
  rw [← bits_sum hb] at this
  exact this
theorem gmN_comm {a b : Nat} (ha : a < 256) (hb : b < 256) : gmN a b = gmN b a := by
  refine additive_ext (f := fun b => gmN a b) (g := fun b => gmN b a) (fun x y _ _ => gmN_add_right a x y) (fun x y hx hy => gmN_add_left a hx hy) (gmN_zero_right a) (gmN_zero_left a) ?_ hb
  intro j hj
  show gmN a (2 ^ j) = gmN (2 ^ j) a
  rw [gmN_pow_right j hj, ← xtn_one hj, gmN_xtn_left a (by decide), gmN_one_left ha]
theorem gmN_assoc {a b c : Nat} (ha : a < 256) (hb : b < 256) (hc : c < 256) : gmN (gmN a b) c = gmN a (gmN b c) := by
  refine additive_ext (f := fun c => gmN (gmN a b) c) (g := fun c => gmN a (gmN b c)) (fun x y _ _ => gmN_add_right _ x y) (fun x y _ _ => ?_) (gmN_zero_right _) ?_ ?_ hc
  · show gmN a (gmN b (x ^^^ y)) = _
    rw [gmN_add_right, gmN_add_right]
  · show gmN a (gmN b 0) = 0
    rw [gmN_zero_right, gmN_zero_right]
  · intro j hj
    show gmN (gmN a b) (2 ^ j) = gmN a (gmN b (2 ^ j))
    rw [gmN_pow_right j hj, gmN_pow_right j hj, gmN_comm ha (xtn_lt hb j), gmN_xtn_left a hb, gmN_comm hb ha]
-- the inverse: the 254th power, by squares
def pw : Nat → Nat → Nat → Nat → Nat
  | 0, x, _, _ => x
  | f + 1, x, a, n => if n = 0 then x else pw f (if n % 2 = 1 then gmN x a else x) (gmN a a) (n / 2)
def ginvN (a : Nat) : Nat := pw 8 1 a 254
theorem inv_chk : allB (fun a => Nat.beq a 0 || Nat.beq (gmN a (ginvN a)) 1) 256 = true := by decide +kernel
theorem inv_lt_chk : allB (fun a => Nat.blt (ginvN a) 256) 256 = true := by decide +kernel
theorem ginvN_lt {a : Nat} (ha : a < 256) : ginvN a < 256 := by simpa using allB_spec _ inv_lt_chk a ha
theorem gmN_inv {a : Nat} (ha : a < 256) (h0 : a ≠ 0) : gmN a (ginvN a) = 1 := by
  have := allB_spec _ inv_chk a ha
  simp only [Bool.or_eq_true] at this
  rcases this with h | h
  · exact absurd (Nat.eq_of_beq_eq_true h) h0
  · exact Nat.eq_of_beq_eq_true h
theorem inv_unique {a b : Nat} (ha : a < 256) (hb : b < 256) (h : gmN a b = 1) : b = ginvN a := by
  have h0 : a ≠ 0 := by rintro rfl; rw [gmN_zero_left] at h; cases h
  have hi := ginvN_lt ha
  have e := gmN_inv ha h0
  have : gmN (gmN b a) (ginvN a) = gmN b (gmN a (ginvN a)) := gmN_assoc hb ha hi
  rw [e, gmN_comm hb ha, h, gmN_one_left hi, gmN_comm hb (by decide), gmN_one_left hb] at this
  exact this.symm
-- the program's product: by a table of the high bits
def highN : List Nat := [0, 29, 58, 39, 116, 105, 78, 83, 232, 245, 210, 207, 156, 129, 166, 187]
def gred (x : Nat) : Nat := Nat.xor (Nat.mod x 256) (highN.getD (Nat.div x 256) 0)
def tsum (a n : Nat) : Nat → Nat
  | 0 => 0
  | k + 1 => Nat.xor (tsum a n k) (bt n k (Nat.mul a (Nat.pow 2 k)))
def gtimes (a n : Nat) : Nat := gred (tsum a n 4)
def gmulP (a b : Nat) : Nat := gred (gtimes a (b / 16) * 16) ^^^ gtimes a (b % 16)
theorem times_chk : allB (fun n => allB (fun a => Nat.beq (gtimes a n) (gmN a n)) 256) 16 = true := by decide +kernel
theorem shift_chk : allB (fun a => Nat.beq (gred (a * 16)) (xtn a 4)) 256 = true := by decide +kernel
theorem high_chk : allB (fun h => Nat.beq (xtn h 4) (16 * h)) 16 = true := by decide +kernel
theorem parts_chk : allB (fun b => Nat.beq b ((16 * (b / 16)) ^^^ (b % 16))) 256 = true := by decide +kernel
theorem gtimes_eq {a n : Nat} (ha : a < 256) (hn : n < 16) : gtimes a n = gmN a n := Nat.eq_of_beq_eq_true (allB_spec _ (allB_spec _ times_chk n hn) a ha)
theorem gmulP_eq {a b : Nat} (ha : a < 256) (hb : b < 256) : gmulP a b = gmN a b := by
  have e1 : b = (16 * (b / 16)) ^^^ (b % 16) := Nat.eq_of_beq_eq_true (allB_spec _ parts_chk b hb)
  have hh : b / 16 < 16 := by omega
  have e2 : xtn (b / 16) 4 = 16 * (b / 16) := Nat.eq_of_beq_eq_true (allB_spec _ high_chk _ hh)
  have ht : gmN a (b / 16) < 256 := gmN_lt ha
  have e3 : gred (gmN a (b / 16) * 16) = xtn (gmN a (b / 16)) 4 := Nat.eq_of_beq_eq_true (allB_spec _ shift_chk _ ht)
  have e4 : gmN a (16 * (b / 16)) = xtn (gmN a (b / 16)) 4 := by
    rw [gmN_comm ha (by omega), ← e2, gmN_xtn_left a (by omega), gmN_comm (by omega) ha]
  unfold gmulP
  rw [gtimes_eq ha hh, gtimes_eq ha (by omega), e3, ← e4, ← gmN_add_right, ← e1]
theorem highN_lt (i : Nat) : highN.getD i 0 < 256 := by
  by_cases h : i < 16
  · have : ∀ i, i < 16 → highN.getD i 0 < 256 := by decide
    exact this i h
  · have : highN.getD i 0 = 0 := by rw [List.getD_eq_getElem?_getD, List.getElem?_eq_none (l := highN) (i := i) (by simp [highN]; omega)]; rfl
    omega
theorem gred_lt (x : Nat) : gred x < 256 := xor_lt (Nat.mod_lt _ (by decide)) (highN_lt _)
theorem tsum_lt {a n : Nat} (ha : a < 256) : ∀ k, k ≤ 4 → tsum a n k < 4096
  | 0, _ => by simp [tsum]
  | k + 1, hk => by
    simp only [tsum, xor_def]
    refine Nat.xor_lt_two_pow (n := 12) (tsum_lt ha k (by omega)) ?_
    rw [bt_cases]; split
    · have : 2 ^ k ≤ 2 ^ 3 := Nat.pow_le_pow_right (by decide) (by omega)
      show a * 2 ^ k < _
      calc a * 2 ^ k ≤ a * 2 ^ 3 := Nat.mul_le_mul_left _ this
        _ < 2 ^ 12 := by omega
    · decide
theorem gs_stable (a b : Nat) : ∀ j k, b / 2 ^ k = 0 → gs a b (k + j) = gs a b k
  | 0, k, _ => rfl
  | j + 1, k, h => by
    have e : k + (j + 1) = (k + j) + 1 := rfl
    rw [e]; simp only [gs, xor_def]
    rw [gs_stable a b j k h, bt_cases]
    have : b.testBit (k + j) = false := by
      have hb : b < 2 ^ k := (Nat.div_eq_zero_iff.1 h).resolve_left (by have := Nat.two_pow_pos k; omega)
      exact Nat.testBit_lt_two_pow (Nat.lt_of_lt_of_le hb (Nat.pow_le_pow_right (by decide) (by omega)))
    simp [this]
-- the same on bytes
def gmul (a b : UInt8) : UInt8 := UInt8.ofNat (gmN a.toNat b.toNat)
def ginv (a : UInt8) : UInt8 := UInt8.ofNat (ginvN a.toNat)
theorem gmul_toNat (a b : UInt8) : (gmul a b).toNat = gmN a.toNat b.toNat := by
  unfold gmul; rw [UInt8.toNat_ofNat_of_lt' (by exact gmN_lt a.toNat_lt)]
theorem ginv_toNat (a : UInt8) : (ginv a).toNat = ginvN a.toNat := by
  unfold ginv; rw [UInt8.toNat_ofNat_of_lt' (by exact ginvN_lt a.toNat_lt)]
theorem gmul_comm (a b : UInt8) : gmul a b = gmul b a := UInt8.toNat_inj.1 (by rw [gmul_toNat, gmul_toNat, gmN_comm a.toNat_lt b.toNat_lt])
theorem gmul_assoc (a b c : UInt8) : gmul (gmul a b) c = gmul a (gmul b c) := UInt8.toNat_inj.1 (by simp only [gmul_toNat]; exact gmN_assoc a.toNat_lt b.toNat_lt c.toNat_lt)
theorem gmul_add (a b c : UInt8) : gmul a (b ^^^ c) = gmul a b ^^^ gmul a c := UInt8.toNat_inj.1 (by simp only [gmul_toNat, UInt8.toNat_xor]; exact gmN_add_right _ _ _)
theorem add_gmul (a b c : UInt8) : gmul (a ^^^ b) c = gmul a c ^^^ gmul b c := by rw [gmul_comm, gmul_add, gmul_comm c a, gmul_comm c b]
theorem gmul_zero (a : UInt8) : gmul a 0 = 0 := UInt8.toNat_inj.1 (by simp only [gmul_toNat]; exact gmN_zero_right _)
theorem zero_gmul (a : UInt8) : gmul 0 a = 0 := by rw [gmul_comm, gmul_zero]
theorem one_gmul (a : UInt8) : gmul 1 a = a := UInt8.toNat_inj.1 (by simp only [gmul_toNat]; exact gmN_one_left a.toNat_lt)
theorem gmul_one (a : UInt8) : gmul a 1 = a := by rw [gmul_comm, one_gmul]
theorem gmul_ginv {a : UInt8} (h : a ≠ 0) : gmul a (ginv a) = 1 := UInt8.toNat_inj.1 (by
  rw [gmul_toNat, ginv_toNat]; exact gmN_inv a.toNat_lt (fun e => h (UInt8.toNat_inj.1 e)))
end Go.Q
