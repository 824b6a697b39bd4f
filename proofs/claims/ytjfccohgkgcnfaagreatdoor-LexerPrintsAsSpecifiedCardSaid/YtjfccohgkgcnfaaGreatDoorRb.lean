/-
  Bytes made a string; a struct stored whole; no program.
-/
import Derived.Test.YtjfccohgkgcnfaaGreatDoorRa
import Derived.Laws.BytesString
import Derived.Laws.Tables
import Derived.Laws.Rows
namespace Go.Q
open Go Go.RowKit
section
variable {S : Reg} {w w' : World} {A : Option Addr} {cap : Nat} {P : Program}
theorem bytes_ext {a b : ByteArray} (h : a.data.toList = b.data.toList) : a = b := by
  obtain ⟨⟨l⟩⟩ := a
  obtain ⟨⟨m⟩⟩ := b
  simp only at h
  subst h; rfl
theorem fold_push : ∀ (xs : List UInt8) (s : ByteArray), ((xs.map fun x => (x.toNat : Int)).foldl (fun r n => r.push (UInt8.ofNat n.toNat)) s).data.toList = s.data.toList ++ xs
  | [], s => by simp
  | x :: xs, s => by
    rw [List.map_cons, List.foldl_cons, fold_push xs]
    simp [ByteArray.push]
theorem run_bytes_str {xs : List UInt8} (h : Bytes S w A cap xs) : (Conv.bytesToString (.slice A xs.length cap)).run P w = .ok (.string ⟨xs.toArray⟩) w := by
  cases A with
  | none =>
    have h1 := h.1
    have h2 := h.2.2.1 rfl
    obtain rfl : xs = [] := List.eq_nil_of_length_eq_zero (by omega)
    rfl
  | some a =>
    obtain ⟨us, hl, hr, hc⟩ := h.cells rfl rfl
    have hus : us = (xs.map fun x => (x.toNat : Int)).map (Value.int .u8) := by
      refine List.ext_getElem (by simpa using hl) fun i h1 h2 => ?_
      have := hr i h1 (by omega)
      simp only [u8E, List.cons.injEq, and_true] at this
      simpa using this
    have hrun : (loadCells a xs.length).run P w = .ok ((xs.map fun x => (x.toNat : Int)).map (Value.int .u8)).toArray w := by
      rw [← hl, ← hus]; exact run_loadCells_list w a us hc
    rw [run_bytesToString w a xs.length cap _ hrun]
    congr 2
    exact bytes_ext (by rw [fold_push]; rfl)
theorem wpList_bytes_str {ops : Array Oper} {rest : List Oper} {o : Oper} {a : Act} {Q : Exit → Act → World → Prop} {n : Nat} (hgd : o.guard = none) (src dst e : TypeId) (x : Operand) (ho : o.op = .convert src dst x) (hx : a.eval x = .slice A n cap)
    (hs : P.underlying src = some (.slice e)) (he : P.underlying e = some (.int .u8)) (hd : P.underlying dst = some .string) {xs : List UInt8} (hn : xs.length = n) (h : Bytes S w A cap xs)
    (hk : wpList P ops Q rest (a.put o.dst (.string ⟨xs.toArray⟩)) w) : wpList P ops Q (o :: rest) a w := by
  subst hn
  refine wpList_plain hgd fun K hK => ?_
  unfold Oper.wp execOp
  simp only [ho, hx, Sem.run_bind, run_convert_bytes_string (P := P) w src dst e A xs.length cap hs he hd, run_bytes_str (P := P) h, Result.andThen_ok, Sem.run_pure]
  exact hK _ _ hk
/-- A block that was written whole. -/
theorem setRow_new {w : World} {g : Nat} {t : TypeId} {old cs : Array Value} (hg : w.heap[g]? = some (.cells old t (0, 0))) : (w.setRow g cs).heap[g]? = some (.cells cs t (0, 0)) := setRow_heap w g old cs t _ hg
theorem below_setRow {B : Nat} {w0 w : World} {g : Nat} {cs : Array Value} (h : Below B w0 w) (hg : B ≤ g) : Below B w0 (w.setRow g cs) :=
  h.trans ⟨rfl, rfl, rfl, by simp, fun k hk => setRow_other w g k _ (by omega)⟩
end
end Go.Q
