/-
  The walks of the reference's has and Sign. Bytes made a string; a struct stored whole; no program. The walk of the reference's text. The walk of the reference's token.
-/
import Derived.Laws.BytesString
import Derived.Laws.Tables
import Derived.Laws.Rows
import Derived.Test.YtkcfmlfkfagejaaGreatDoorU29
import Derived.Test.YtkcfmlfkfagejaaGreatDoorU30
set_option linter.unusedVariables false
set_option linter.unusedSimpArgs false

namespace Go.Q
open Go Go.RowKit
section
variable {S:Reg} {w w':World} {A:Option Addr} {cap:Nat} {P:Program}
theorem Wm {a b:ByteArray}(h:a.data.toList=b.data.toList):a=b:=by
 obtain⟨⟨l⟩⟩:=a
 obtain⟨⟨m⟩⟩:=b
 simp only at h
 subst h;rfl
theorem fold_push:∀ (xs:List UInt8) (s:ByteArray),((xs.map fun x=>(x.toNat:Int)).foldl (fun r n=>r.push (UInt8.ofNat n.toNat)) s).data.toList=s.data.toList++xs
 | [],s=>by simp
 |x::xs,s=>by
  rw [List.map_cons,List.foldl_cons,fold_push xs]
  simp [ByteArray.push]
theorem L7 {w:World}{g:Nat}{t:TypeId}{old cs:Array Value}(hg:w.heap[g]?=some (.cells old t (0,0))):(w.setRow g cs).heap[g]?=some (.cells cs t (0,0)):=setRow_heap w g old cs t _ hg
theorem below_setRow {B:Nat}{w0 w:World}{g:Nat}{cs:Array Value}(h:Below B w0 w)(hg:B<=g):Below B w0 (w.setRow g cs) :=
 h.trans ⟨rfl,rfl,rfl,by simp,fun k hk=>setRow_other w g k _ (by omega)⟩
end
end Go.Q
namespace Go.Proofs.YtkcfmlfkfagejaaGreatDoor
open Go.RowKit Go.Q Go.Lx
variable {w:World} {S:Reg} {A:Option Addr} {cap:Nat}
theorem YQ:(Tryz.prog.info? 5).map (fun i=>(i.zero,i.size,i.bytes))=some (some (.int .u8 0),1,1):=by kernel_rfl
end Go.Proofs.YtkcfmlfkfagejaaGreatDoor

