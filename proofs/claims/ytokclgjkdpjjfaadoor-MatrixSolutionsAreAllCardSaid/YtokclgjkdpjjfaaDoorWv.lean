/-
  The walks of the statements' own helpers: mapped; matrices typed out; sanity.
-/
import Derived.Test.YtokclgjkdpjjfaaDoorWu
import Derived.Test.YtokclgjkdpjjfaaDoorWl
import Derived.Test.YtokclgjkdpjjfaaDoorWk
namespace Go.Proofs.YtokclgjkdpjjfaaDoor
open Go.RowKit Go.Q
variable {w : World} {S S' S'' : Reg} {A A' A'' : Option Addr} {cap cap' cap'' : Nat}
theorem bstep {w1 w2 w3 : World} (h : Below w1.heap.size w1 w2) (h' : Below w2.heap.size w2 w3) : Below w1.heap.size w1 w3 := h.trans (h'.mono h.size)
theorem transpose_rect {m : List (List UInt8)} : Rect (transpose m) m.length := by rw [transpose_colsM]; exact colsM_rect
theorem transpose_length {m : List (List UInt8)} : (transpose m).length = cols m := by rw [transpose_colsM]; exact colsM_length
def GiveBool (w : World) (b : Bool) (e : Ending) (w' : World) : Prop := e = .returned (.bool b) ∧ Below w.heap.size w w'
set_option maxHeartbeats 2000000 in
theorem lawMapped {m : List (List UInt8)} {x b : List UInt8} (hv : Valid m) (hx : x.length = cols m) (hm : Rows8 S w A cap m) (hsx : Bytes S' w A' cap' x) (hsb : Bytes S'' w A'' cap'' b) (hin : In S w) (hinx : In S' w) (hinb : In S'' w) :
    Calls Tryd.prog 31 #[.slice A m.length cap, .slice A' x.length cap', .slice A'' b.length cap''] w (GiveBool w (decide (combine x (transpose m) m.length = b))) := by
  have hr48 := hv.rows
  have hc48 := hv.colsle
  have hlb := hsb.len
  go_enter Tryd.func31, Tryd.ntmps31
  go_wp2_with fail
  refine (refTransposeGood hm hin hv).mono ?_
  rintro e w1 ⟨A1, cap1, rfl, ht, hb1⟩
  have hbx : Below w1.heap.size w1 (w1.alloc (.cells #[.slice A1 (transpose m).length cap1, .int .i64 0] 35)) := (Below.refl _ _).alloc (Nat.le_refl _) _
  have hb2 := bstep hb1 hbx
  have ht2 := ht.below hbx fresh_in
  have hsx2 := hsx.below hb2 hinx
  have Hsb2 := Lib.hid (hsb.below hb2 hinb)
  have hin2 := fresh_in.below hbx (S := fresh w w1)
  have hinx2 := hinx.below hb2
  have Hinb2 := Lib.hid (hinb.below hb2)
  have hcall := refCombine (coef := x) (rows := transpose m) m.length (by omega) (fun r hr => by rw [transpose_rect r hr]; exact Nat.le_refl _) (by rw [transpose_length, hx]; exact Nat.le_refl _) hsx2 ht2 hinx2 hin2
  have Hcall := Lib.hid hcall
  have hcl : Hid ((combine x (transpose m) m.length).length = m.length) := combine_length transpose_rect
  have Hb2 := Lib.hid hb2
  have Hx := Lib.hid hx
  clear hx
  clear hm hsx hsb hin hinx hinb hv ht hb1 hbx hb2 ht2 hsx2 hin2 hinx2 hcall
  go_wp2_with fail
  refine Hcall.out.mono ?_
  rintro e w2 ⟨A2, cap2, rfl, hc, hb3⟩
  have hb4 := bstep Hb2.out hb3
  have hcs := refSameRow (hc.mono (fun k hk => hk.2)) ((Hsb2.out.below hb3 Hinb2.out).mono (S' := fun k => k < w2.heap.size) (fun k hk => Hinb2.out.below hb3 k hk))
  have Hcs := Lib.hid hcs
  clear hc hb3 hcs Hsb2 Hinb2 Hcall
  go_wp2_with fail
  refine Hcs.out.mono ?_
  rintro e w3 ⟨rfl, hd3⟩
  have hb5 := hb4.trans (hd3.below _)
  clear Hcs hd3 hb4
  go_wp2_with fail
  go_ret
  exact ⟨rfl, hb5⟩
-- what is typed out
theorem alloc_at (w : World) (o : Obj) (k : Nat) : (w.alloc o).heap[k]? = if k = w.heap.size then some o else w.heap[k]? := by
  by_cases h : k = w.heap.size
  · subst h; rw [if_pos rfl]; exact heap_alloc_new w o
  · rw [if_neg h]
    by_cases h2 : k < w.heap.size
    · exact Below.heap_alloc _ _ _ h2
    · rw [Array.getElem?_eq_none (by simp; omega), Array.getElem?_eq_none (by omega)]
theorem lit_rows {W : World} {g : Nat} {G : List Nat} {m : List (List UInt8)} (hl : G.length = m.length) (hm : m.length ≤ 9223372036854775807) (hr : ∀ r ∈ m, r.length ≤ 9223372036854775807)
    (htop : W.heap[g]? = some (.cells (List.zipWith (fun b (r : List UInt8) => Value.slice (some ⟨b, 0, none⟩) r.length r.length) G m).toArray 43 (0, 0))) (hrow : ∀ i (h1 : i < G.length) (h2 : i < m.length), Raw8 W G[i] m[i]) :
    Rows8 (fun k => k ∈ g :: G) W (some ⟨g, 0, none⟩) m.length m := by
  refine ⟨Nat.le_refl _, hm, (fun h => by cases h), fun a ha _ => ?_⟩
  cases ha
  refine ⟨g, 0, rfl, by simp, fun i hi => ?_⟩
  have hi2 : i < G.length := by omega
  obtain ⟨h1, _⟩ := cells_at htop i (by simp; omega)
  refine ⟨[.slice (some ⟨G[i], 0, none⟩) m[i].length m[i].length], ⟨some ⟨G[i], 0, none⟩, m[i].length, rfl, ?_⟩, fun j hj => ?_⟩
  · exact ((hrow i hi2 hi).bytes (hr _ (List.getElem_mem hi))).mono (fun k hk => by
      have : k = G[i] := hk
      rw [this]; simp)
  · obtain rfl : j = 0 := by simp at hj; omega
    simpa [slE] using h1
theorem asz (w : World) (o : Obj) : (w.alloc o).heap.size = w.heap.size + 1 := by simp
/-- A list of bytes, typed out. -/
theorem lit0 (w : World) (r : List UInt8) (hr : r.length ≤ 9223372036854775807) : Bytes (fresh w (w.alloc (.cells (r.map u8v).toArray 5))) (w.alloc (.cells (r.map u8v).toArray 5)) (some ⟨w.heap.size, 0, none⟩) r.length r :=
  (Raw8.bytes (show Raw8 _ w.heap.size r from heap_alloc_new w _) hr).mono fun k hk => ⟨by have : k = _ := hk; omega, by have : k = _ := hk; simp; omega⟩
theorem lit1 (w : World) (r1 : List UInt8) (h1 : r1.length ≤ 1000) :
    Rows8 (fresh w ((w.alloc (.cells (r1.map u8v).toArray 5)).alloc (.cells #[.slice (some ⟨w.heap.size, 0, none⟩) r1.length r1.length] 43))) ((w.alloc (.cells (r1.map u8v).toArray 5)).alloc (.cells #[.slice (some ⟨w.heap.size, 0, none⟩) r1.length r1.length] 43)) (some ⟨w.heap.size + 1, 0, none⟩) 1 [r1] := by
  refine (lit_rows (g := w.heap.size + 1) (G := [w.heap.size]) (m := [r1]) rfl (by simp) (fun r hr => by simp at hr; subst hr; omega) (by simp only [alloc_at, asz]; simp) (fun i h1 h2 => ?_)).mono fun k hk => ?_
  · have : i = 0 := by simp at h1; omega
    subst this
    unfold Raw8
    simp only [alloc_at, asz, List.getElem_cons_zero]
    repeat (first | rw [if_pos trivial] | rw [if_pos (by omega)] | rw [if_neg (by omega)])
  · simp at hk
    exact ⟨by omega, by simp; omega⟩
theorem lit2 (w : World) (r1 r2 : List UInt8) (h1 : r1.length ≤ 1000) (h2 : r2.length ≤ 1000) :
    Rows8 (fresh w (((w.alloc (.cells (r1.map u8v).toArray 5)).alloc (.cells (r2.map u8v).toArray 5)).alloc (.cells #[.slice (some ⟨w.heap.size, 0, none⟩) r1.length r1.length, .slice (some ⟨w.heap.size + 1, 0, none⟩) r2.length r2.length] 43)))
      (((w.alloc (.cells (r1.map u8v).toArray 5)).alloc (.cells (r2.map u8v).toArray 5)).alloc (.cells #[.slice (some ⟨w.heap.size, 0, none⟩) r1.length r1.length, .slice (some ⟨w.heap.size + 1, 0, none⟩) r2.length r2.length] 43)) (some ⟨w.heap.size + 1 + 1, 0, none⟩) 2 [r1, r2] := by
  refine (lit_rows (g := w.heap.size + 1 + 1) (G := [w.heap.size, w.heap.size + 1]) (m := [r1, r2]) rfl (by simp) (fun r hr => by simp at hr; rcases hr with rfl | rfl <;> omega) (by simp only [alloc_at, asz]; simp) (fun i h1 h2 => ?_)).mono fun k hk => ?_
  · have : i = 0 ∨ i = 1 := by simp at h1; omega
    rcases this with rfl | rfl <;> (unfold Raw8; simp only [alloc_at, asz, List.getElem_cons_zero, List.getElem_cons_succ]; repeat (first | rw [if_pos trivial] | rw [if_pos (by omega)] | rw [if_neg (by omega)]))
  · simp at hk
    exact ⟨by omega, by simp; omega⟩
theorem lit3 (w : World) (r1 r2 r3 : List UInt8) (h1 : r1.length ≤ 1000) (h2 : r2.length ≤ 1000) (h3 : r3.length ≤ 1000) :
    Rows8 (fresh w ((((w.alloc (.cells (r1.map u8v).toArray 5)).alloc (.cells (r2.map u8v).toArray 5)).alloc (.cells (r3.map u8v).toArray 5)).alloc (.cells #[.slice (some ⟨w.heap.size, 0, none⟩) r1.length r1.length, .slice (some ⟨w.heap.size + 1, 0, none⟩) r2.length r2.length, .slice (some ⟨w.heap.size + 1 + 1, 0, none⟩) r3.length r3.length] 43)))
      ((((w.alloc (.cells (r1.map u8v).toArray 5)).alloc (.cells (r2.map u8v).toArray 5)).alloc (.cells (r3.map u8v).toArray 5)).alloc (.cells #[.slice (some ⟨w.heap.size, 0, none⟩) r1.length r1.length, .slice (some ⟨w.heap.size + 1, 0, none⟩) r2.length r2.length, .slice (some ⟨w.heap.size + 1 + 1, 0, none⟩) r3.length r3.length] 43)) (some ⟨w.heap.size + 1 + 1 + 1, 0, none⟩) 3 [r1, r2, r3] := by
  refine (lit_rows (g := w.heap.size + 1 + 1 + 1) (G := [w.heap.size, w.heap.size + 1, w.heap.size + 1 + 1]) (m := [r1, r2, r3]) rfl (by simp) (fun r hr => by simp at hr; rcases hr with rfl | rfl | rfl <;> omega) (by simp only [alloc_at, asz]; simp) (fun i h1 h2 => ?_)).mono fun k hk => ?_
  · have : i = 0 ∨ i = 1 ∨ i = 2 := by simp at h1; omega
    rcases this with rfl | rfl | rfl <;> (unfold Raw8; simp only [alloc_at, asz, List.getElem_cons_zero, List.getElem_cons_succ]; repeat (first | rw [if_pos trivial] | rw [if_pos (by omega)] | rw [if_neg (by omega)]))
  · simp at hk
    exact ⟨by omega, by simp; omega⟩
end Go.Proofs.YtokclgjkdpjjfaaDoor
