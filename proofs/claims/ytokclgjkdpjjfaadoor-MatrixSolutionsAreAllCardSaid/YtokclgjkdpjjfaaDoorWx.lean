/-
  The walk of sanity: the examples of the chapter.
-/
import Derived.Test.YtokclgjkdpjjfaaDoorWv
namespace Go.Proofs.YtokclgjkdpjjfaaDoor
open Go.RowKit Go.Q
variable {w : World} {S S' S'' : Reg} {A A' A'' : Option Addr} {cap cap' cap'' : Nat}
theorem tabStep {w w' : World} (h : TabAt w) (hb : Below w.heap.size w w') : TabAt w' := h.below hb h.1
/-- An own datum, and its region. -/
def Kept (w0 w : World) (A : Option Addr) (cap : Nat) (m : List (List UInt8)) : Prop := Rows8 (fresh w0 w) w A cap m
theorem san_prod : prodErr [[1, 2]] [[3], [4]] = 0 ∧ prodE [[1, 2]] [[3], [4]] = [[11]] := by decide +kernel
theorem san_red : mchk [[0, 2, 4], [0, 1, 2], [1, 0, 1]] = 0 ∧ reduceE [[0, 2, 4], [0, 1, 2], [1, 0, 1]] = ([[1, 0, 1], [0, 1, 2]], [0, 1]) := by decide +kernel
theorem san_sol : solveErr [[1, 0, 1], [0, 1, 2]] [5, 6] = 0 ∧ solveR [[1, 0, 1], [0, 1, 2]] [5, 6] = some ([5, 6, 0], [[1, 2, 1]]) := by decide +kernel
theorem san_sol2 : solveErr [[1, 1], [1, 1]] [1, 2] = 8 ∧ solveR [[1, 1], [1, 1]] [1, 2] = none := by decide +kernel
theorem san_inv : inverseErr [[1, 1], [0, 1]] = 0 ∧ inverseE [[1, 1], [0, 1]] = [[1, 1], [0, 1]] := by decide +kernel
theorem san_inv2 : inverseErr [[1, 1], [1, 1]] = 8 ∧ inverseE [[1, 1], [1, 1]] = [] := by decide +kernel
theorem san_expr : exprErr [[1, 1, 0], [1, 1, 0], [0, 1, 1]] [1, 0, 1] = 0 ∧ exprE [[1, 1, 0], [1, 1, 0], [0, 1, 1]] [1, 0, 1] = [1, 0, 1] := by decide +kernel
theorem san_expr2 : exprErr [] [0, 0] = 0 ∧ exprE [] [0, 0] = [] := by decide +kernel
theorem san_expr3 : exprErr [] [0, 1] = 8 ∧ exprE [] [0, 1] = [] := by decide +kernel
theorem san_tr : mchk [[1, 2, 3]] = 0 ∧ transpose [[1, 2, 3]] = [[1], [2], [3]] := by decide +kernel
theorem san_rank : mchk [[1, 2], [2, 4], [0, 0]] = 0 ∧ (reduceE [[1, 2], [2, 4], [0, 0]]).2.length = 1 := by decide +kernel
theorem san_chk : mchk [[1], []] = 1 ∧ mchk (List.replicate 49 []) = 2 := by decide +kernel
theorem ba (w : World) (o : Obj) : Below w.heap.size w (w.alloc o) := (Below.refl _ _).alloc (Nat.le_refl _) _
theorem lit0N (w : World) (n : Nat) (hn : w.heap.size = n) (r : List UInt8) (hr : r.length ≤ 1000) : Bytes (fresh w (w.alloc (.cells (r.map u8v).toArray 5))) (w.alloc (.cells (r.map u8v).toArray 5)) (some ⟨n, 0, none⟩) r.length r := by
  subst hn; exact lit0 w r (by omega)
theorem lit1N (w : World) (n : Nat) (hn : w.heap.size = n) (r1 : List UInt8) (h1 : r1.length ≤ 1000) :
    Rows8 (fresh w ((w.alloc (.cells (r1.map u8v).toArray 5)).alloc (.cells #[.slice (some ⟨n, 0, none⟩) r1.length r1.length] 43))) ((w.alloc (.cells (r1.map u8v).toArray 5)).alloc (.cells #[.slice (some ⟨n, 0, none⟩) r1.length r1.length] 43)) (some ⟨n + 1, 0, none⟩) 1 [r1] := by
  subst hn; exact lit1 w r1 h1
theorem lit2N (w : World) (n : Nat) (hn : w.heap.size = n) (r1 r2 : List UInt8) (h1 : r1.length ≤ 1000) (h2 : r2.length ≤ 1000) :
    Rows8 (fresh w (((w.alloc (.cells (r1.map u8v).toArray 5)).alloc (.cells (r2.map u8v).toArray 5)).alloc (.cells #[.slice (some ⟨n, 0, none⟩) r1.length r1.length, .slice (some ⟨n + 1, 0, none⟩) r2.length r2.length] 43)))
      (((w.alloc (.cells (r1.map u8v).toArray 5)).alloc (.cells (r2.map u8v).toArray 5)).alloc (.cells #[.slice (some ⟨n, 0, none⟩) r1.length r1.length, .slice (some ⟨n + 1, 0, none⟩) r2.length r2.length] 43)) (some ⟨n + 1 + 1, 0, none⟩) 2 [r1, r2] := by
  subst hn; exact lit2 w r1 r2 h1 h2
theorem lit3N (w : World) (n : Nat) (hn : w.heap.size = n) (r1 r2 r3 : List UInt8) (h1 : r1.length ≤ 1000) (h2 : r2.length ≤ 1000) (h3 : r3.length ≤ 1000) :
    Rows8 (fresh w ((((w.alloc (.cells (r1.map u8v).toArray 5)).alloc (.cells (r2.map u8v).toArray 5)).alloc (.cells (r3.map u8v).toArray 5)).alloc (.cells #[.slice (some ⟨n, 0, none⟩) r1.length r1.length, .slice (some ⟨n + 1, 0, none⟩) r2.length r2.length, .slice (some ⟨n + 1 + 1, 0, none⟩) r3.length r3.length] 43)))
      ((((w.alloc (.cells (r1.map u8v).toArray 5)).alloc (.cells (r2.map u8v).toArray 5)).alloc (.cells (r3.map u8v).toArray 5)).alloc (.cells #[.slice (some ⟨n, 0, none⟩) r1.length r1.length, .slice (some ⟨n + 1, 0, none⟩) r2.length r2.length, .slice (some ⟨n + 1 + 1, 0, none⟩) r3.length r3.length] 43)) (some ⟨n + 1 + 1 + 1, 0, none⟩) 3 [r1, r2, r3] := by
  subst hn; exact lit3 w r1 r2 r3 h1 h2 h3
def nils49 : Array Value := (List.replicate 49 (Value.slice none 0 0)).toArray
theorem make49 (w : World) : Sem.run Tryd.prog (Instr.makeSlice 22 (.int .i64 49) (.int .i64 49)) w = .ok (.slice (some ⟨w.heap.size, 0, none⟩) 49 49) (w.alloc (.cells nils49 43)) := by kernel_rfl
theorem lit_nils (w : World) (n : Nat) (hn : n ≤ 1000) : Rows8 (fun k => k < w.heap.size + 1) (w.alloc (.cells (List.replicate n (Value.slice none 0 0)).toArray 43)) (some ⟨w.heap.size, 0, none⟩) n (List.replicate n []) := by
  refine ⟨by simp, by omega, (fun h => by cases h), fun a ha _ => ?_⟩
  cases ha
  refine ⟨w.heap.size, 0, rfl, by simp, fun i hi => ?_⟩
  have hi2 : i < n := by simpa using hi
  have htop : (w.alloc (.cells (List.replicate n (Value.slice none 0 0)).toArray 43)).heap[w.heap.size]? = some (.cells (List.replicate n (Value.slice none 0 0)).toArray 43 (0, 0)) := heap_alloc_new w _
  obtain ⟨h1, _⟩ := cells_at htop i (by simpa using hi2)
  refine ⟨[.slice none 0 0], ⟨none, 0, by rw [List.getElem_replicate]; rfl, by rw [List.getElem_replicate]; exact Sl.nil⟩, fun j hj => ?_⟩
  obtain rfl : j = 0 := by simp at hj; omega
  simpa [slE] using h1
theorem lit49 (w : World) : Rows8 (fun k => k < w.heap.size + 1) (w.alloc (.cells nils49 43)) (some ⟨w.heap.size, 0, none⟩) 49 (List.replicate 49 []) := lit_nils w 49 (by omega)
/-- Numbers, typed out. -/
theorem litInts (w : World) (xs : List Nat) (hx : ∀ x ∈ xs, x ≤ 9223372036854775807) (hl : xs.length ≤ 1000) : Ints (fun k => k < w.heap.size + 1) (w.alloc (.cells (xs.map fun (n : Nat) => Value.int .i64 n).toArray 3)) (some ⟨w.heap.size, 0, none⟩) xs.length xs := by
  refine ⟨Nat.le_refl _, by omega, (fun h => by cases h), fun a ha _ => ?_⟩
  cases ha
  refine ⟨w.heap.size, 0, rfl, by simp, fun i hi => ?_⟩
  have htop : (w.alloc (.cells (xs.map fun (n : Nat) => Value.int .i64 n).toArray 3)).heap[w.heap.size]? = some (.cells (xs.map fun (n : Nat) => Value.int .i64 n).toArray 3 (0, 0)) := heap_alloc_new w _
  obtain ⟨h1, _⟩ := cells_at htop i (by simpa using hi)
  refine ⟨[.int .i64 (xs[i] : Nat)], ⟨rfl, hx _ (List.getElem_mem hi)⟩, fun j hj => ?_⟩
  obtain rfl : j = 0 := by simp at hj; omega
  simpa [natE] using h1
set_option maxRecDepth 100000 in
set_option maxHeartbeats 4000000 in
theorem lawSanity (ht : TabAt w) : Calls Tryd.prog 11 #[] w (GiveBool w true) := by
  go_enter Tryd.func11, Tryd.ntmps11
  go_wp2_with fail
  -- call 1: matProduct
  have hl0_0 := lit1N w (w.heap.size) (by first | rfl | (simp only [asz])) [1, 2] (by decide)
  have hl0_0b : Below (w).heap.size w ((w.alloc (.cells ([1, 2].map u8v).toArray 5)).alloc (.cells #[.slice (some ⟨w.heap.size, 0, none⟩) 2 2] 43)) := bstep (ba _ _) (ba _ _)
  have hl0_1 := lit2N ((w.alloc (.cells ([1, 2].map u8v).toArray 5)).alloc (.cells #[.slice (some ⟨w.heap.size, 0, none⟩) 2 2] 43)) (w.heap.size + 1 + 1) (by first | rfl | (simp only [asz])) [3] [4] (by decide) (by decide)
  have hl0_1b : Below (((w.alloc (.cells ([1, 2].map u8v).toArray 5)).alloc (.cells #[.slice (some ⟨w.heap.size, 0, none⟩) 2 2] 43))).heap.size ((w.alloc (.cells ([1, 2].map u8v).toArray 5)).alloc (.cells #[.slice (some ⟨w.heap.size, 0, none⟩) 2 2] 43)) (((((w.alloc (.cells ([1, 2].map u8v).toArray 5)).alloc (.cells #[.slice (some ⟨w.heap.size, 0, none⟩) 2 2] 43)).alloc (.cells ([3].map u8v).toArray 5)).alloc (.cells ([4].map u8v).toArray 5)).alloc (.cells #[.slice (some ⟨w.heap.size + 1 + 1, 0, none⟩) 1 1, .slice (some ⟨w.heap.size + 1 + 1 + 1, 0, none⟩) 1 1] 43)) := bstep (bstep (ba _ _) (ba _ _)) (ba _ _)
  have hl0_0c := hl0_0.below hl0_1b fresh_in
  have htc := tabStep ht (bstep hl0_0b hl0_1b)
  have hcall := matProduct hl0_0c hl0_1 (fresh_in.below hl0_1b) fresh_in htc
  rw [san_prod.1, san_prod.2] at hcall
  have Hcall := Lib.hid hcall
  have htot := Lib.hid (bstep hl0_0b hl0_1b)
  clear hcall htc hl0_0 hl0_1 hl0_0b hl0_1b hl0_0c
  refine Hcall.out.mono ?_
  rintro e w1 ⟨A0, c0, rfl, hd0, hbb⟩
  have hB1 : Hid (Below w.heap.size w w1) := bstep htot.out hbb
  have D0_0 : Hid (Rows8 (fun k => k < w1.heap.size) w1 A0 c0 [[11]]) := hd0.mono (fun k hk => hk.2)
  have htn := tabStep ht hB1.out
  clear ht hbb htot Hcall hd0
  rename TabAt _ => ht
  go_wp2_with fail
  -- call 2: matReduce
  have hl1_0 := lit3N w1 (w1.heap.size) (by first | rfl | (simp only [asz])) [0, 2, 4] [0, 1, 2] [1, 0, 1] (by decide) (by decide) (by decide)
  have hl1_0b : Below (w1).heap.size w1 ((((w1.alloc (.cells ([0, 2, 4].map u8v).toArray 5)).alloc (.cells ([0, 1, 2].map u8v).toArray 5)).alloc (.cells ([1, 0, 1].map u8v).toArray 5)).alloc (.cells #[.slice (some ⟨w1.heap.size, 0, none⟩) 3 3, .slice (some ⟨w1.heap.size + 1, 0, none⟩) 3 3, .slice (some ⟨w1.heap.size + 1 + 1, 0, none⟩) 3 3] 43)) := bstep (bstep (bstep (ba _ _) (ba _ _)) (ba _ _)) (ba _ _)
  have htc := tabStep ht hl1_0b
  have hcall := matReduce hl1_0 fresh_in htc
  rw [san_red.1, san_red.2] at hcall
  have Hcall := Lib.hid hcall
  have htot := Lib.hid hl1_0b
  clear hcall htc hl1_0 hl1_0b
  refine Hcall.out.mono ?_
  rintro e w2 ⟨A1, c1, B1, d1, rfl, hd0, hd1, hbb⟩
  have hB2 : Hid (Below w1.heap.size w1 w2) := bstep htot.out hbb
  have D1_0 : Hid (Rows8 (fun k => k < w2.heap.size) w2 A1 c1 [[1, 0, 1], [0, 1, 2]]) := hd0.mono (fun k hk => hk.2)
  have D1_1 : Hid (Ints (fun k => k < w2.heap.size) w2 B1 d1 [0, 1]) := hd1.mono (fun k hk => hk.2)
  have htn := tabStep ht hB2.out
  clear ht hbb htot Hcall hd0 hd1
  rename TabAt _ => ht
  go_wp2_with fail
  -- call 3: matSolve
  have hl2_0 := lit2N w2 (w2.heap.size) (by first | rfl | (simp only [asz])) [1, 0, 1] [0, 1, 2] (by decide) (by decide)
  have hl2_0b : Below (w2).heap.size w2 (((w2.alloc (.cells ([1, 0, 1].map u8v).toArray 5)).alloc (.cells ([0, 1, 2].map u8v).toArray 5)).alloc (.cells #[.slice (some ⟨w2.heap.size, 0, none⟩) 3 3, .slice (some ⟨w2.heap.size + 1, 0, none⟩) 3 3] 43)) := bstep (bstep (ba _ _) (ba _ _)) (ba _ _)
  have hl2_1 := lit0N (((w2.alloc (.cells ([1, 0, 1].map u8v).toArray 5)).alloc (.cells ([0, 1, 2].map u8v).toArray 5)).alloc (.cells #[.slice (some ⟨w2.heap.size, 0, none⟩) 3 3, .slice (some ⟨w2.heap.size + 1, 0, none⟩) 3 3] 43)) (w2.heap.size + 1 + 1 + 1) (by first | rfl | (simp only [asz])) [5, 6] (by decide)
  have hl2_1b : Below ((((w2.alloc (.cells ([1, 0, 1].map u8v).toArray 5)).alloc (.cells ([0, 1, 2].map u8v).toArray 5)).alloc (.cells #[.slice (some ⟨w2.heap.size, 0, none⟩) 3 3, .slice (some ⟨w2.heap.size + 1, 0, none⟩) 3 3] 43))).heap.size (((w2.alloc (.cells ([1, 0, 1].map u8v).toArray 5)).alloc (.cells ([0, 1, 2].map u8v).toArray 5)).alloc (.cells #[.slice (some ⟨w2.heap.size, 0, none⟩) 3 3, .slice (some ⟨w2.heap.size + 1, 0, none⟩) 3 3] 43)) ((((w2.alloc (.cells ([1, 0, 1].map u8v).toArray 5)).alloc (.cells ([0, 1, 2].map u8v).toArray 5)).alloc (.cells #[.slice (some ⟨w2.heap.size, 0, none⟩) 3 3, .slice (some ⟨w2.heap.size + 1, 0, none⟩) 3 3] 43)).alloc (.cells ([5, 6].map u8v).toArray 5)) := ba _ _
  have hl2_0c := hl2_0.below hl2_1b fresh_in
  have htc := tabStep ht (bstep hl2_0b hl2_1b)
  have hcall := matSolve hl2_0c hl2_1 (fresh_in.below hl2_1b) fresh_in htc
  rw [san_sol.1, san_sol.2] at hcall
  have Hcall := Lib.hid hcall
  have htot := Lib.hid (bstep hl2_0b hl2_1b)
  clear hcall htc hl2_0 hl2_1 hl2_0b hl2_1b hl2_0c
  refine Hcall.out.mono ?_
  rintro e w3 ⟨A2, c2, B2, d2, rfl, hd0, hd1, hbb⟩
  have hB3 : Hid (Below w2.heap.size w2 w3) := bstep htot.out hbb
  have D2_0 : Hid (Bytes (fun k => k < w3.heap.size) w3 A2 c2 [5, 6, 0]) := hd0.mono (fun k hk => hk.2)
  have D2_1 : Hid (Rows8 (fun k => k < w3.heap.size) w3 B2 d2 [[1, 2, 1]]) := hd1.mono (fun k hk => hk.2)
  have htn := tabStep ht hB3.out
  clear ht hbb htot Hcall hd0 hd1
  rename TabAt _ => ht
  go_wp2_with fail
  -- call 4: matSolve
  have hl3_0 := lit2N w3 (w3.heap.size) (by first | rfl | (simp only [asz])) [1, 1] [1, 1] (by decide) (by decide)
  have hl3_0b : Below (w3).heap.size w3 (((w3.alloc (.cells ([1, 1].map u8v).toArray 5)).alloc (.cells ([1, 1].map u8v).toArray 5)).alloc (.cells #[.slice (some ⟨w3.heap.size, 0, none⟩) 2 2, .slice (some ⟨w3.heap.size + 1, 0, none⟩) 2 2] 43)) := bstep (bstep (ba _ _) (ba _ _)) (ba _ _)
  have hl3_1 := lit0N (((w3.alloc (.cells ([1, 1].map u8v).toArray 5)).alloc (.cells ([1, 1].map u8v).toArray 5)).alloc (.cells #[.slice (some ⟨w3.heap.size, 0, none⟩) 2 2, .slice (some ⟨w3.heap.size + 1, 0, none⟩) 2 2] 43)) (w3.heap.size + 1 + 1 + 1) (by first | rfl | (simp only [asz])) [1, 2] (by decide)
  have hl3_1b : Below ((((w3.alloc (.cells ([1, 1].map u8v).toArray 5)).alloc (.cells ([1, 1].map u8v).toArray 5)).alloc (.cells #[.slice (some ⟨w3.heap.size, 0, none⟩) 2 2, .slice (some ⟨w3.heap.size + 1, 0, none⟩) 2 2] 43))).heap.size (((w3.alloc (.cells ([1, 1].map u8v).toArray 5)).alloc (.cells ([1, 1].map u8v).toArray 5)).alloc (.cells #[.slice (some ⟨w3.heap.size, 0, none⟩) 2 2, .slice (some ⟨w3.heap.size + 1, 0, none⟩) 2 2] 43)) ((((w3.alloc (.cells ([1, 1].map u8v).toArray 5)).alloc (.cells ([1, 1].map u8v).toArray 5)).alloc (.cells #[.slice (some ⟨w3.heap.size, 0, none⟩) 2 2, .slice (some ⟨w3.heap.size + 1, 0, none⟩) 2 2] 43)).alloc (.cells ([1, 2].map u8v).toArray 5)) := ba _ _
  have hl3_0c := hl3_0.below hl3_1b fresh_in
  have htc := tabStep ht (bstep hl3_0b hl3_1b)
  have hcall := matSolve hl3_0c hl3_1 (fresh_in.below hl3_1b) fresh_in htc
  rw [san_sol2.1, san_sol2.2] at hcall
  have Hcall := Lib.hid hcall
  have htot := Lib.hid (bstep hl3_0b hl3_1b)
  clear hcall htc hl3_0 hl3_1 hl3_0b hl3_1b hl3_0c
  refine Hcall.out.mono ?_
  rintro e w4 ⟨A3, c3, B3, d3, rfl, hd0, hd1, hbb⟩
  have hB4 : Hid (Below w3.heap.size w3 w4) := bstep htot.out hbb
  have htn := tabStep ht hB4.out
  clear ht hbb htot Hcall hd0 hd1
  rename TabAt _ => ht
  go_wp2_with fail
  -- call 5: matInverse
  have hl4_0 := lit2N w4 (w4.heap.size) (by first | rfl | (simp only [asz])) [1, 1] [0, 1] (by decide) (by decide)
  have hl4_0b : Below (w4).heap.size w4 (((w4.alloc (.cells ([1, 1].map u8v).toArray 5)).alloc (.cells ([0, 1].map u8v).toArray 5)).alloc (.cells #[.slice (some ⟨w4.heap.size, 0, none⟩) 2 2, .slice (some ⟨w4.heap.size + 1, 0, none⟩) 2 2] 43)) := bstep (bstep (ba _ _) (ba _ _)) (ba _ _)
  have htc := tabStep ht hl4_0b
  have hcall := matInverse hl4_0 fresh_in htc (fun _ _ => inv_full _)
  rw [san_inv.1, san_inv.2] at hcall
  have Hcall := Lib.hid hcall
  have htot := Lib.hid hl4_0b
  clear hcall htc hl4_0 hl4_0b
  refine Hcall.out.mono ?_
  rintro e w5 ⟨A4, c4, rfl, hd0, hbb⟩
  have hB5 : Hid (Below w4.heap.size w4 w5) := bstep htot.out hbb
  have D4_0 : Hid (Rows8 (fun k => k < w5.heap.size) w5 A4 c4 [[1, 1], [0, 1]]) := hd0.mono (fun k hk => hk.2)
  have htn := tabStep ht hB5.out
  clear ht hbb htot Hcall hd0
  rename TabAt _ => ht
  go_wp2_with fail
  -- call 6: matInverse
  have hl5_0 := lit2N w5 (w5.heap.size) (by first | rfl | (simp only [asz])) [1, 1] [1, 1] (by decide) (by decide)
  have hl5_0b : Below (w5).heap.size w5 (((w5.alloc (.cells ([1, 1].map u8v).toArray 5)).alloc (.cells ([1, 1].map u8v).toArray 5)).alloc (.cells #[.slice (some ⟨w5.heap.size, 0, none⟩) 2 2, .slice (some ⟨w5.heap.size + 1, 0, none⟩) 2 2] 43)) := bstep (bstep (ba _ _) (ba _ _)) (ba _ _)
  have htc := tabStep ht hl5_0b
  have hcall := matInverse hl5_0 fresh_in htc (fun _ _ => inv_full _)
  rw [san_inv2.1, san_inv2.2] at hcall
  have Hcall := Lib.hid hcall
  have htot := Lib.hid hl5_0b
  clear hcall htc hl5_0 hl5_0b
  refine Hcall.out.mono ?_
  rintro e w6 ⟨A5, c5, rfl, hd0, hbb⟩
  have hB6 : Hid (Below w5.heap.size w5 w6) := bstep htot.out hbb
  have htn := tabStep ht hB6.out
  clear ht hbb htot Hcall hd0
  rename TabAt _ => ht
  go_wp2_with fail
  -- call 7: matExpress
  have hl6_0 := lit3N w6 (w6.heap.size) (by first | rfl | (simp only [asz])) [1, 1, 0] [1, 1, 0] [0, 1, 1] (by decide) (by decide) (by decide)
  have hl6_0b : Below (w6).heap.size w6 ((((w6.alloc (.cells ([1, 1, 0].map u8v).toArray 5)).alloc (.cells ([1, 1, 0].map u8v).toArray 5)).alloc (.cells ([0, 1, 1].map u8v).toArray 5)).alloc (.cells #[.slice (some ⟨w6.heap.size, 0, none⟩) 3 3, .slice (some ⟨w6.heap.size + 1, 0, none⟩) 3 3, .slice (some ⟨w6.heap.size + 1 + 1, 0, none⟩) 3 3] 43)) := bstep (bstep (bstep (ba _ _) (ba _ _)) (ba _ _)) (ba _ _)
  have hl6_1 := lit0N ((((w6.alloc (.cells ([1, 1, 0].map u8v).toArray 5)).alloc (.cells ([1, 1, 0].map u8v).toArray 5)).alloc (.cells ([0, 1, 1].map u8v).toArray 5)).alloc (.cells #[.slice (some ⟨w6.heap.size, 0, none⟩) 3 3, .slice (some ⟨w6.heap.size + 1, 0, none⟩) 3 3, .slice (some ⟨w6.heap.size + 1 + 1, 0, none⟩) 3 3] 43)) (w6.heap.size + 1 + 1 + 1 + 1) (by first | rfl | (simp only [asz])) [1, 0, 1] (by decide)
  have hl6_1b : Below (((((w6.alloc (.cells ([1, 1, 0].map u8v).toArray 5)).alloc (.cells ([1, 1, 0].map u8v).toArray 5)).alloc (.cells ([0, 1, 1].map u8v).toArray 5)).alloc (.cells #[.slice (some ⟨w6.heap.size, 0, none⟩) 3 3, .slice (some ⟨w6.heap.size + 1, 0, none⟩) 3 3, .slice (some ⟨w6.heap.size + 1 + 1, 0, none⟩) 3 3] 43))).heap.size ((((w6.alloc (.cells ([1, 1, 0].map u8v).toArray 5)).alloc (.cells ([1, 1, 0].map u8v).toArray 5)).alloc (.cells ([0, 1, 1].map u8v).toArray 5)).alloc (.cells #[.slice (some ⟨w6.heap.size, 0, none⟩) 3 3, .slice (some ⟨w6.heap.size + 1, 0, none⟩) 3 3, .slice (some ⟨w6.heap.size + 1 + 1, 0, none⟩) 3 3] 43)) (((((w6.alloc (.cells ([1, 1, 0].map u8v).toArray 5)).alloc (.cells ([1, 1, 0].map u8v).toArray 5)).alloc (.cells ([0, 1, 1].map u8v).toArray 5)).alloc (.cells #[.slice (some ⟨w6.heap.size, 0, none⟩) 3 3, .slice (some ⟨w6.heap.size + 1, 0, none⟩) 3 3, .slice (some ⟨w6.heap.size + 1 + 1, 0, none⟩) 3 3] 43)).alloc (.cells ([1, 0, 1].map u8v).toArray 5)) := ba _ _
  have hl6_0c := hl6_0.below hl6_1b fresh_in
  have htc := tabStep ht (bstep hl6_0b hl6_1b)
  have hcall := matExpress hl6_0c hl6_1 (fresh_in.below hl6_1b) fresh_in htc
  rw [san_expr.1, san_expr.2] at hcall
  have Hcall := Lib.hid hcall
  have htot := Lib.hid (bstep hl6_0b hl6_1b)
  clear hcall htc hl6_0 hl6_1 hl6_0b hl6_1b hl6_0c
  refine Hcall.out.mono ?_
  rintro e w7 ⟨A6, c6, rfl, hd0, hbb⟩
  have hB7 : Hid (Below w6.heap.size w6 w7) := bstep htot.out hbb
  have D6_0 : Hid (Bytes (fun k => k < w7.heap.size) w7 A6 c6 [1, 0, 1]) := hd0.mono (fun k hk => hk.2)
  have htn := tabStep ht hB7.out
  clear ht hbb htot Hcall hd0
  rename TabAt _ => ht
  go_wp2_with fail
  -- call 8: matExpress
  have hl7_1 := lit0N w7 (w7.heap.size) (by first | rfl | (simp only [asz])) [0, 0] (by decide)
  have hl7_1b : Below (w7).heap.size w7 (w7.alloc (.cells ([0, 0].map u8v).toArray 5)) := ba _ _
  have htc := tabStep ht hl7_1b
  have hcall := matExpress (Sl.nil (E := slE u8E) (S := fun _ => False)) hl7_1 (fun _ h => h.elim) fresh_in htc
  rw [san_expr2.1, san_expr2.2] at hcall
  have Hcall := Lib.hid hcall
  have htot := Lib.hid hl7_1b
  clear hcall htc hl7_1 hl7_1b
  refine Hcall.out.mono ?_
  rintro e w8 ⟨A7, c7, rfl, hd0, hbb⟩
  have hB8 : Hid (Below w7.heap.size w7 w8) := bstep htot.out hbb
  have htn := tabStep ht hB8.out
  clear ht hbb htot Hcall hd0
  rename TabAt _ => ht
  go_wp2_with fail
  -- call 9: matExpress
  have hl8_1 := lit0N w8 (w8.heap.size) (by first | rfl | (simp only [asz])) [0, 1] (by decide)
  have hl8_1b : Below (w8).heap.size w8 (w8.alloc (.cells ([0, 1].map u8v).toArray 5)) := ba _ _
  have htc := tabStep ht hl8_1b
  have hcall := matExpress (Sl.nil (E := slE u8E) (S := fun _ => False)) hl8_1 (fun _ h => h.elim) fresh_in htc
  rw [san_expr3.1, san_expr3.2] at hcall
  have Hcall := Lib.hid hcall
  have htot := Lib.hid hl8_1b
  clear hcall htc hl8_1 hl8_1b
  refine Hcall.out.mono ?_
  rintro e w9 ⟨A8, c8, rfl, hd0, hbb⟩
  have hB9 : Hid (Below w8.heap.size w8 w9) := bstep htot.out hbb
  have htn := tabStep ht hB9.out
  clear ht hbb htot Hcall hd0
  rename TabAt _ => ht
  go_wp2_with fail
  -- call 10: matTransposeGood
  have hl9_0 := lit1N w9 (w9.heap.size) (by first | rfl | (simp only [asz])) [1, 2, 3] (by decide)
  have hl9_0b : Below (w9).heap.size w9 ((w9.alloc (.cells ([1, 2, 3].map u8v).toArray 5)).alloc (.cells #[.slice (some ⟨w9.heap.size, 0, none⟩) 3 3] 43)) := bstep (ba _ _) (ba _ _)
  have htc := tabStep ht hl9_0b
  have hcall := matTransposeGood hl9_0 fresh_in (mchk_valid.1 san_tr.1)
  rw [san_tr.2] at hcall
  have Hcall := Lib.hid hcall
  have htot := Lib.hid hl9_0b
  clear hcall htc hl9_0 hl9_0b
  refine Hcall.out.mono ?_
  rintro e w10 ⟨A9, c9, rfl, hd0, hbb⟩
  have hB10 : Hid (Below w9.heap.size w9 w10) := bstep htot.out hbb
  have D9_0 : Hid (Rows8 (fun k => k < w10.heap.size) w10 A9 c9 [[1], [2], [3]]) := hd0.mono (fun k hk => hk.2)
  have htn := tabStep ht hB10.out
  clear ht hbb htot Hcall hd0
  rename TabAt _ => ht
  go_wp2_with fail
  -- call 11: matRank
  have hl10_0 := lit3N w10 (w10.heap.size) (by first | rfl | (simp only [asz])) [1, 2] [2, 4] [0, 0] (by decide) (by decide) (by decide)
  have hl10_0b : Below (w10).heap.size w10 ((((w10.alloc (.cells ([1, 2].map u8v).toArray 5)).alloc (.cells ([2, 4].map u8v).toArray 5)).alloc (.cells ([0, 0].map u8v).toArray 5)).alloc (.cells #[.slice (some ⟨w10.heap.size, 0, none⟩) 2 2, .slice (some ⟨w10.heap.size + 1, 0, none⟩) 2 2, .slice (some ⟨w10.heap.size + 1 + 1, 0, none⟩) 2 2] 43)) := bstep (bstep (bstep (ba _ _) (ba _ _)) (ba _ _)) (ba _ _)
  have htc := tabStep ht hl10_0b
  have hcall := matRank hl10_0 fresh_in htc
  rw [san_rank.1, san_rank.2] at hcall
  have Hcall := Lib.hid hcall
  have htot := Lib.hid hl10_0b
  clear hcall htc hl10_0 hl10_0b
  refine Hcall.out.mono ?_
  rintro e w11 ⟨rfl, hbb⟩
  have hB11 : Hid (Below w10.heap.size w10 w11) := bstep htot.out hbb
  have htn := tabStep ht hB11.out
  clear ht hbb htot Hcall 
  rename TabAt _ => ht
  go_wp2_with fail
  have hl := lit2N w11 (w11.heap.size) rfl [1] [] (by decide) (by decide)
  have hcall := matCheck hl
  rw [san_chk.1] at hcall
  have Hcall := Lib.hid hcall
  clear hl hcall
  refine Hcall.out.mono ?_
  rintro e w12 ⟨rfl, hw12⟩
  have hB12 : Hid (Below w11.heap.size w11 w12) := by show Below _ _ _; rw [hw12]; exact bstep (bstep (ba _ _) (ba _ _)) (ba _ _)
  clear hw12 Hcall
  have hl := lit49 w12
  have hcall := matCheck hl
  rw [san_chk.2] at hcall
  have Hcall := Lib.hid hcall
  clear hl hcall
  have hm49 := make49 w12
  go_wp2_with fail
  clear hm49
  refine Hcall.out.mono ?_
  rintro e w13 ⟨rfl, hw13⟩
  have hB13 : Hid (Below w12.heap.size w12 w13) := by show Below _ _ _; rw [hw13]; exact ba _ _
  clear hw13 Hcall
  go_wp2_with fail
  -- compare D0_0
  have hl := lit1N w13 (w13.heap.size) (by first | rfl | (simp only [asz])) [11] (by decide)
  have hlb : Below w13.heap.size w13 ((w13.alloc (.cells ([11].map u8v).toArray 5)).alloc (.cells #[.slice (some ⟨w13.heap.size, 0, none⟩) 1 1] 43)) := bstep (ba _ _) (ba _ _)
  have hd := D0_0.out.below (bstep hB2.out (bstep hB3.out (bstep hB4.out (bstep hB5.out (bstep hB6.out (bstep hB7.out (bstep hB8.out (bstep hB9.out (bstep hB10.out (bstep hB11.out (bstep hB12.out (bstep hB13.out hlb)))))))))))) (fun _ h => h)
  have hd2 := hd.mono (S' := fun k => k < ((w13.alloc (.cells ([11].map u8v).toArray 5)).alloc (.cells #[.slice (some ⟨w13.heap.size, 0, none⟩) 1 1] 43)).heap.size) (fun k hk => Nat.lt_of_lt_of_le hk (bstep hB2.out (bstep hB3.out (bstep hB4.out (bstep hB5.out (bstep hB6.out (bstep hB7.out (bstep hB8.out (bstep hB9.out (bstep hB10.out (bstep hB11.out (bstep hB12.out (bstep hB13.out hlb)))))))))))).size)
  have hl2 := hl.mono (S' := fun k => k < ((w13.alloc (.cells ([11].map u8v).toArray 5)).alloc (.cells #[.slice (some ⟨w13.heap.size, 0, none⟩) 1 1] 43)).heap.size) (fun k hk => hk.2)
  have hcall := refSame hd2 hl2
  have Hcall := Lib.hid hcall
  have hlB := Lib.hid hlb
  clear hl hlb hd hd2 hl2 hcall
  refine Hcall.out.mono ?_
  rintro e w14 ⟨rfl, hdr⟩
  have hB14 : Hid (Below w13.heap.size w13 w14) := hlB.out.trans (hdr.below _)
  clear Hcall hlB hdr
  simp only [decide_true]
  go_wp2_with fail
  -- compare D1_0
  have hl := lit2N w14 (w14.heap.size) (by first | rfl | (simp only [asz])) [1, 0, 1] [0, 1, 2] (by decide) (by decide)
  have hlb : Below w14.heap.size w14 (((w14.alloc (.cells ([1, 0, 1].map u8v).toArray 5)).alloc (.cells ([0, 1, 2].map u8v).toArray 5)).alloc (.cells #[.slice (some ⟨w14.heap.size, 0, none⟩) 3 3, .slice (some ⟨w14.heap.size + 1, 0, none⟩) 3 3] 43)) := bstep (bstep (ba _ _) (ba _ _)) (ba _ _)
  have hd := D1_0.out.below (bstep hB3.out (bstep hB4.out (bstep hB5.out (bstep hB6.out (bstep hB7.out (bstep hB8.out (bstep hB9.out (bstep hB10.out (bstep hB11.out (bstep hB12.out (bstep hB13.out (bstep hB14.out hlb)))))))))))) (fun _ h => h)
  have hd2 := hd.mono (S' := fun k => k < (((w14.alloc (.cells ([1, 0, 1].map u8v).toArray 5)).alloc (.cells ([0, 1, 2].map u8v).toArray 5)).alloc (.cells #[.slice (some ⟨w14.heap.size, 0, none⟩) 3 3, .slice (some ⟨w14.heap.size + 1, 0, none⟩) 3 3] 43)).heap.size) (fun k hk => Nat.lt_of_lt_of_le hk (bstep hB3.out (bstep hB4.out (bstep hB5.out (bstep hB6.out (bstep hB7.out (bstep hB8.out (bstep hB9.out (bstep hB10.out (bstep hB11.out (bstep hB12.out (bstep hB13.out (bstep hB14.out hlb)))))))))))).size)
  have hl2 := hl.mono (S' := fun k => k < (((w14.alloc (.cells ([1, 0, 1].map u8v).toArray 5)).alloc (.cells ([0, 1, 2].map u8v).toArray 5)).alloc (.cells #[.slice (some ⟨w14.heap.size, 0, none⟩) 3 3, .slice (some ⟨w14.heap.size + 1, 0, none⟩) 3 3] 43)).heap.size) (fun k hk => hk.2)
  have hcall := refSame hd2 hl2
  have Hcall := Lib.hid hcall
  have hlB := Lib.hid hlb
  clear hl hlb hd hd2 hl2 hcall
  refine Hcall.out.mono ?_
  rintro e w15 ⟨rfl, hdr⟩
  have hB15 : Hid (Below w14.heap.size w14 w15) := hlB.out.trans (hdr.below _)
  clear Hcall hlB hdr
  simp only [decide_true]
  go_wp2_with fail
  -- compare D1_1
  have hl := litInts w15 [0, 1] (by decide) (by decide)
  have hlb : Below w15.heap.size w15 (w15.alloc (.cells ([0, 1].map fun (n : Nat) => Value.int .i64 n).toArray 3)) := ba _ _
  have hd := D1_1.out.below (bstep hB3.out (bstep hB4.out (bstep hB5.out (bstep hB6.out (bstep hB7.out (bstep hB8.out (bstep hB9.out (bstep hB10.out (bstep hB11.out (bstep hB12.out (bstep hB13.out (bstep hB14.out (bstep hB15.out hlb))))))))))))) (fun _ h => h)
  have hd2 := hd.mono (S' := fun k => k < (w15.alloc (.cells ([0, 1].map fun (n : Nat) => Value.int .i64 n).toArray 3)).heap.size) (fun k hk => Nat.lt_of_lt_of_le hk (bstep hB3.out (bstep hB4.out (bstep hB5.out (bstep hB6.out (bstep hB7.out (bstep hB8.out (bstep hB9.out (bstep hB10.out (bstep hB11.out (bstep hB12.out (bstep hB13.out (bstep hB14.out (bstep hB15.out hlb))))))))))))).size)
  have hl2 := hl.mono (S' := fun k => k < (w15.alloc (.cells ([0, 1].map fun (n : Nat) => Value.int .i64 n).toArray 3)).heap.size) (fun k hk => by rw [asz]; exact hk)
  have hcall := refSameList hd2 hl2
  have Hcall := Lib.hid hcall
  have hlB := Lib.hid hlb
  clear hl hlb hd hd2 hl2 hcall
  refine Hcall.out.mono ?_
  rintro e w16 ⟨rfl, hdr⟩
  have hB16 : Hid (Below w15.heap.size w15 w16) := hlB.out.trans (hdr.below _)
  clear Hcall hlB hdr
  simp only [decide_true]
  go_wp2_with fail
  -- compare D2_0
  have hl := lit0N w16 (w16.heap.size) (by first | rfl | (simp only [asz])) [5, 6, 0] (by decide)
  have hlb : Below w16.heap.size w16 (w16.alloc (.cells ([5, 6, 0].map u8v).toArray 5)) := ba _ _
  have hd := D2_0.out.below (bstep hB4.out (bstep hB5.out (bstep hB6.out (bstep hB7.out (bstep hB8.out (bstep hB9.out (bstep hB10.out (bstep hB11.out (bstep hB12.out (bstep hB13.out (bstep hB14.out (bstep hB15.out (bstep hB16.out hlb))))))))))))) (fun _ h => h)
  have hd2 := hd.mono (S' := fun k => k < (w16.alloc (.cells ([5, 6, 0].map u8v).toArray 5)).heap.size) (fun k hk => Nat.lt_of_lt_of_le hk (bstep hB4.out (bstep hB5.out (bstep hB6.out (bstep hB7.out (bstep hB8.out (bstep hB9.out (bstep hB10.out (bstep hB11.out (bstep hB12.out (bstep hB13.out (bstep hB14.out (bstep hB15.out (bstep hB16.out hlb))))))))))))).size)
  have hl2 := hl.mono (S' := fun k => k < (w16.alloc (.cells ([5, 6, 0].map u8v).toArray 5)).heap.size) (fun k hk => hk.2)
  have hcall := refSameRow hd2 hl2
  have Hcall := Lib.hid hcall
  have hlB := Lib.hid hlb
  clear hl hlb hd hd2 hl2 hcall
  refine Hcall.out.mono ?_
  rintro e w17 ⟨rfl, hdr⟩
  have hB17 : Hid (Below w16.heap.size w16 w17) := hlB.out.trans (hdr.below _)
  clear Hcall hlB hdr
  simp only [decide_true]
  go_wp2_with fail
  -- compare D2_1
  have hl := lit1N w17 (w17.heap.size) (by first | rfl | (simp only [asz])) [1, 2, 1] (by decide)
  have hlb : Below w17.heap.size w17 ((w17.alloc (.cells ([1, 2, 1].map u8v).toArray 5)).alloc (.cells #[.slice (some ⟨w17.heap.size, 0, none⟩) 3 3] 43)) := bstep (ba _ _) (ba _ _)
  have hd := D2_1.out.below (bstep hB4.out (bstep hB5.out (bstep hB6.out (bstep hB7.out (bstep hB8.out (bstep hB9.out (bstep hB10.out (bstep hB11.out (bstep hB12.out (bstep hB13.out (bstep hB14.out (bstep hB15.out (bstep hB16.out (bstep hB17.out hlb)))))))))))))) (fun _ h => h)
  have hd2 := hd.mono (S' := fun k => k < ((w17.alloc (.cells ([1, 2, 1].map u8v).toArray 5)).alloc (.cells #[.slice (some ⟨w17.heap.size, 0, none⟩) 3 3] 43)).heap.size) (fun k hk => Nat.lt_of_lt_of_le hk (bstep hB4.out (bstep hB5.out (bstep hB6.out (bstep hB7.out (bstep hB8.out (bstep hB9.out (bstep hB10.out (bstep hB11.out (bstep hB12.out (bstep hB13.out (bstep hB14.out (bstep hB15.out (bstep hB16.out (bstep hB17.out hlb)))))))))))))).size)
  have hl2 := hl.mono (S' := fun k => k < ((w17.alloc (.cells ([1, 2, 1].map u8v).toArray 5)).alloc (.cells #[.slice (some ⟨w17.heap.size, 0, none⟩) 3 3] 43)).heap.size) (fun k hk => hk.2)
  have hcall := refSame hd2 hl2
  have Hcall := Lib.hid hcall
  have hlB := Lib.hid hlb
  clear hl hlb hd hd2 hl2 hcall
  refine Hcall.out.mono ?_
  rintro e w18 ⟨rfl, hdr⟩
  have hB18 : Hid (Below w17.heap.size w17 w18) := hlB.out.trans (hdr.below _)
  clear Hcall hlB hdr
  simp only [decide_true]
  go_wp2_with fail
  -- compare D4_0
  have hl := lit2N w18 (w18.heap.size) (by first | rfl | (simp only [asz])) [1, 1] [0, 1] (by decide) (by decide)
  have hlb : Below w18.heap.size w18 (((w18.alloc (.cells ([1, 1].map u8v).toArray 5)).alloc (.cells ([0, 1].map u8v).toArray 5)).alloc (.cells #[.slice (some ⟨w18.heap.size, 0, none⟩) 2 2, .slice (some ⟨w18.heap.size + 1, 0, none⟩) 2 2] 43)) := bstep (bstep (ba _ _) (ba _ _)) (ba _ _)
  have hd := D4_0.out.below (bstep hB6.out (bstep hB7.out (bstep hB8.out (bstep hB9.out (bstep hB10.out (bstep hB11.out (bstep hB12.out (bstep hB13.out (bstep hB14.out (bstep hB15.out (bstep hB16.out (bstep hB17.out (bstep hB18.out hlb))))))))))))) (fun _ h => h)
  have hd2 := hd.mono (S' := fun k => k < (((w18.alloc (.cells ([1, 1].map u8v).toArray 5)).alloc (.cells ([0, 1].map u8v).toArray 5)).alloc (.cells #[.slice (some ⟨w18.heap.size, 0, none⟩) 2 2, .slice (some ⟨w18.heap.size + 1, 0, none⟩) 2 2] 43)).heap.size) (fun k hk => Nat.lt_of_lt_of_le hk (bstep hB6.out (bstep hB7.out (bstep hB8.out (bstep hB9.out (bstep hB10.out (bstep hB11.out (bstep hB12.out (bstep hB13.out (bstep hB14.out (bstep hB15.out (bstep hB16.out (bstep hB17.out (bstep hB18.out hlb))))))))))))).size)
  have hl2 := hl.mono (S' := fun k => k < (((w18.alloc (.cells ([1, 1].map u8v).toArray 5)).alloc (.cells ([0, 1].map u8v).toArray 5)).alloc (.cells #[.slice (some ⟨w18.heap.size, 0, none⟩) 2 2, .slice (some ⟨w18.heap.size + 1, 0, none⟩) 2 2] 43)).heap.size) (fun k hk => hk.2)
  have hcall := refSame hd2 hl2
  have Hcall := Lib.hid hcall
  have hlB := Lib.hid hlb
  clear hl hlb hd hd2 hl2 hcall
  refine Hcall.out.mono ?_
  rintro e w19 ⟨rfl, hdr⟩
  have hB19 : Hid (Below w18.heap.size w18 w19) := hlB.out.trans (hdr.below _)
  clear Hcall hlB hdr
  simp only [decide_true]
  go_wp2_with fail
  -- compare D6_0
  have hl := lit0N w19 (w19.heap.size) (by first | rfl | (simp only [asz])) [1, 0, 1] (by decide)
  have hlb : Below w19.heap.size w19 (w19.alloc (.cells ([1, 0, 1].map u8v).toArray 5)) := ba _ _
  have hd := D6_0.out.below (bstep hB8.out (bstep hB9.out (bstep hB10.out (bstep hB11.out (bstep hB12.out (bstep hB13.out (bstep hB14.out (bstep hB15.out (bstep hB16.out (bstep hB17.out (bstep hB18.out (bstep hB19.out hlb)))))))))))) (fun _ h => h)
  have hd2 := hd.mono (S' := fun k => k < (w19.alloc (.cells ([1, 0, 1].map u8v).toArray 5)).heap.size) (fun k hk => Nat.lt_of_lt_of_le hk (bstep hB8.out (bstep hB9.out (bstep hB10.out (bstep hB11.out (bstep hB12.out (bstep hB13.out (bstep hB14.out (bstep hB15.out (bstep hB16.out (bstep hB17.out (bstep hB18.out (bstep hB19.out hlb)))))))))))).size)
  have hl2 := hl.mono (S' := fun k => k < (w19.alloc (.cells ([1, 0, 1].map u8v).toArray 5)).heap.size) (fun k hk => hk.2)
  have hcall := refSameRow hd2 hl2
  have Hcall := Lib.hid hcall
  have hlB := Lib.hid hlb
  clear hl hlb hd hd2 hl2 hcall
  refine Hcall.out.mono ?_
  rintro e w20 ⟨rfl, hdr⟩
  have hB20 : Hid (Below w19.heap.size w19 w20) := hlB.out.trans (hdr.below _)
  clear Hcall hlB hdr
  simp only [decide_true]
  go_wp2_with fail
  -- compare D9_0
  have hl := lit3N w20 (w20.heap.size) (by first | rfl | (simp only [asz])) [1] [2] [3] (by decide) (by decide) (by decide)
  have hlb : Below w20.heap.size w20 ((((w20.alloc (.cells ([1].map u8v).toArray 5)).alloc (.cells ([2].map u8v).toArray 5)).alloc (.cells ([3].map u8v).toArray 5)).alloc (.cells #[.slice (some ⟨w20.heap.size, 0, none⟩) 1 1, .slice (some ⟨w20.heap.size + 1, 0, none⟩) 1 1, .slice (some ⟨w20.heap.size + 1 + 1, 0, none⟩) 1 1] 43)) := bstep (bstep (bstep (ba _ _) (ba _ _)) (ba _ _)) (ba _ _)
  have hd := D9_0.out.below (bstep hB11.out (bstep hB12.out (bstep hB13.out (bstep hB14.out (bstep hB15.out (bstep hB16.out (bstep hB17.out (bstep hB18.out (bstep hB19.out (bstep hB20.out hlb)))))))))) (fun _ h => h)
  have hd2 := hd.mono (S' := fun k => k < ((((w20.alloc (.cells ([1].map u8v).toArray 5)).alloc (.cells ([2].map u8v).toArray 5)).alloc (.cells ([3].map u8v).toArray 5)).alloc (.cells #[.slice (some ⟨w20.heap.size, 0, none⟩) 1 1, .slice (some ⟨w20.heap.size + 1, 0, none⟩) 1 1, .slice (some ⟨w20.heap.size + 1 + 1, 0, none⟩) 1 1] 43)).heap.size) (fun k hk => Nat.lt_of_lt_of_le hk (bstep hB11.out (bstep hB12.out (bstep hB13.out (bstep hB14.out (bstep hB15.out (bstep hB16.out (bstep hB17.out (bstep hB18.out (bstep hB19.out (bstep hB20.out hlb)))))))))).size)
  have hl2 := hl.mono (S' := fun k => k < ((((w20.alloc (.cells ([1].map u8v).toArray 5)).alloc (.cells ([2].map u8v).toArray 5)).alloc (.cells ([3].map u8v).toArray 5)).alloc (.cells #[.slice (some ⟨w20.heap.size, 0, none⟩) 1 1, .slice (some ⟨w20.heap.size + 1, 0, none⟩) 1 1, .slice (some ⟨w20.heap.size + 1 + 1, 0, none⟩) 1 1] 43)).heap.size) (fun k hk => hk.2)
  have hcall := refSame hd2 hl2
  have Hcall := Lib.hid hcall
  have hlB := Lib.hid hlb
  clear hl hlb hd hd2 hl2 hcall
  refine Hcall.out.mono ?_
  rintro e w21 ⟨rfl, hdr⟩
  have hB21 : Hid (Below w20.heap.size w20 w21) := hlB.out.trans (hdr.below _)
  clear Hcall hlB hdr
  simp only [decide_true]
  go_wp2_with fail
  go_ret
  exact ⟨rfl, (bstep hB1.out (bstep hB2.out (bstep hB3.out (bstep hB4.out (bstep hB5.out (bstep hB6.out (bstep hB7.out (bstep hB8.out (bstep hB9.out (bstep hB10.out (bstep hB11.out (bstep hB12.out (bstep hB13.out (bstep hB14.out (bstep hB15.out (bstep hB16.out (bstep hB17.out (bstep hB18.out (bstep hB19.out (bstep hB20.out hB21.out))))))))))))))))))))⟩
end Go.Proofs.YtokclgjkdpjjfaaDoor
