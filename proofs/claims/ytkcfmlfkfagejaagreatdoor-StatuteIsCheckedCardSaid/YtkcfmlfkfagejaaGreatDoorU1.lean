/-
  Lists in memory: what a slice reads as, in a region of blocks; what a call owns; how they stay and grow. No program. Arguments opened as lists of bytes and of rows; the end of a law's row. No program.
-/
import Derived.WalkKit
import Derived.Laws.BitsAllLaws
import Derived.Deep.QuietTactic
import Derived.BigQuiet
import Derived.Lib.Hide
import Derived.ProofKit
import Derived.LaidMore
import Derived.OpenShut
import Derived.Stop.Joined
import Derived.Deep.Matrix
import Derived.Carry
set_option linter.unusedVariables false
set_option linter.unusedSimpArgs false
namespace Go
theorem Aa {α:Type _}{a b:α}(h:some a=some b):a=b:=Option.some.inj h
end Go
namespace Go.Q
open Go Go.RowKit
abbrev Reg:=Nat->Prop
structure Enc (α:Type) where
 size:Nat
 rep:Reg->World->List Value->α->Prop
 len:∀ {S w cs x},rep S w cs x->cs.length=size
 one:∀ {S w cs x},rep S w cs x->∀ u∈cs,u.oneCell'=true
 stable:∀ {S S' w w' cs x},(∀ k,S k->S' k)->(∀ k,S k->w'.heap[k]?=w.heap[k]?)->rep S w cs x->rep S' w' cs x
theorem Xx {k:IntKind}{a b:Int}(h:a=b):Ending.returned (.int k a)=.returned (.int k b):=by rw [h]
theorem Rj {a b:Bool}(h:a=b):Ending.returned (.bool a)=.returned (.bool b):=by rw [h]
section
variable {α:Type} {E:Enc α} {P P':Reg} {base:Nat} {e:TypeId} {w w':World} {A:Option Addr} {cap:Nat} {xs:List α}
theorem heap_setCell_same (w:World)(g j:Nat)(u:Value)(cur:Array Value)(e:TypeId)(hg:w.heap[g]?=some (.cells cur e (0,0))):(w.setCell ⟨g,j,none⟩ u).heap[g]?=some (.cells (cur.setIfInBounds j u) e (0,0)):=by
 have hlt:g<w.heap.size:=(Array.getElem?_eq_some_iff.1 hg).1
 have he:=(Array.getElem?_eq_some_iff.1 hg).2
 simp only [World.setCell,Array.getElem?_modify,if_true]
 rw [hg];simp
end
end Go.Q
namespace Go.Q
open Go Go.RowKit Go.ChangeShapes Go.WideShapes Go.Deep
section
variable {H:Type} {enc:TypeId×Value->H} {P:Program}
theorem K8 (hl:laidOutB P=true){W W':World}{sp':Nat->Bool}:∀ {ts:List TypeId} {vs:List Value} {ds:List (DataW H)} {ps:List MemPlace},
 (ts.all fun t=>P.readableRec t&&decide (t<P.types.size))=true->DataW.TrodAll enc P W 0 (fun _=>true) true ts vs ds ps->(∀ p∈ps,W.sameAt W' p)->(∀ p∈ps,sp' p.block=true)->DataW.TrodAll enc P W' 0 sp' true ts vs ds ps
 | [],[],[],_,_,h,_,_=>h
 |t::ts,_::_,_::_,_,ht,⟨p,q,h1,h2,e⟩,hs,hp=>by
  simp only [List.all_cons,Bool.and_eq_true,decide_eq_true_eq] at ht
  exact⟨p,q,WideElems.Trod_stays hl ht.1.1 ht.1.2 h1 (fun x hx=>hs x (by rw [e];exact List.mem_append_left _ hx)) (fun x hx=>hp x (by rw [e];exact List.mem_append_left _ hx)),
   K8 hl ht.2 h2 (fun x hx=>hs x (by rw [e];exact List.mem_append_right _ hx)) (fun x hx=>hp x (by rw [e];exact List.mem_append_right _ hx)),e⟩
theorem XM {f:Func}{s:ChangeSpec}{W W':World}{args:Array Value}{ds gs:List (DataW H)}{before:List MemPlace}{t4:TypeId}(hl:laidOutB P=true)
 (hts:(f.params.toList.all fun t=>P.readableRec t&&decide (t<P.types.size))=true) (hv:s.vars=[]) (hfn:s.fn H (ds++gs) = { results:=[.lit (.bool true)],args:=ds }) (hrt:f.resultTypes = #[t4]) (h4:P.underlying t4=some .bool)
 (hW:DataW.Whole enc P f.params.toList s.vars false W args.toList ds gs before) (hb:Below W.heap.size W W'):s.post enc P f false true false false W args (.bool true) W':=by
 have hlt:∀ p∈before,p.block<W.heap.size:=fun p hp=>hW.lt p hp
 have hW':=hW
 obtain⟨p,q,hA,hV,rfl,hz,hn⟩:=hW
 rw [hv] at hV
 obtain⟨rfl,rfl⟩:=trodVars_none hV
 have hargs:∀ sp:Nat->Bool,(∀ x∈p++[],sp x.block=true)->DataW.TrodAll enc P W' 0 sp true f.params.toList args.toList ds p:=fun sp hsp =>
  K8 hl hts hA (fun x hx=>hb.same (hlt x (by simpa using hx))) (fun x hx=>hsp x (by simpa using hx))
 have hres:∀ (b:Nat) (sp:Nat->Bool) (hd:Bool),DataW.TrodAll enc P W' b sp hd f.resultTypes.toList ((Value.bool true).resultList f.resultTypes.size) [.lit (.bool true)] []:=fun b sp hd=>by
  rw [hrt];exact trodAll_mk1 (shut_bool h4 true)
 have hold:∀ x∈p++[],(fun b=>decide (b<W.heap.size)) x.block=true:=fun x hx=>by simpa using hlt x hx
 refine⟨ds,[],p++[],[],p,[],hW',by rw [hfn];exact hres _ _ _,by rw [hfn];exact hargs _ hold,by rw [hfn,hv];rfl,World.keptBut_mono (fun x hx=>⟨hx,by simpa using hx⟩) (hb.frame (·∈p++[])),fun h=>by cases h⟩
end
end Go.Q
