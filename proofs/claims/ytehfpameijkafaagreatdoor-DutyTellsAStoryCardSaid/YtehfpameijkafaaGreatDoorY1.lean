/-
  Lists in memory: what a slice reads as, in a region of blocks; what a call owns; how they stay and grow. No program. Arguments opened as lists of bytes and of rows; the end of a law's row. No program.
-/
import Derived.WalkKit
import Derived.Laws.BitsAllLaws
import Derived.Deep.QuietTactic
import Derived.BigQuiet
import Derived.Lib.Hide
import Derived.ProofKit
import Derived.LaidMore
import Derived.OpenShut
import Derived.Stop.Joined
import Derived.Deep.Matrix
import Derived.Carry
set_option linter.unusedVariables false
set_option linter.unusedSimpArgs false
namespace Go
abbrev À:=IntKind.i64.wrap
abbrev Á:=@_root_.Option.bind_some
abbrev Â:=@_root_.Option.some.injEq
abbrev Ã:=@_root_.List.getElem?_eq_getElem
abbrev Ä:=@_root_.if_neg
abbrev Å:=ByteArray
abbrev Æ:=@_root_.Bool.and_eq_true
abbrev Ç:=@_root_.if_pos
abbrev È:=@_root_.Prod.mk.injEq
abbrev É:=@_root_.Array.getD_eq_getD_getElem?
abbrev Ê:=@_root_.Go.Result.andThen_ok
abbrev Ë:=@_root_.decide_eq_false
abbrev Ì:=@_root_.decide_eq_true
abbrev Í:=@_root_.decide_eq_true_eq
abbrev Î:=@_root_.List.length_map
abbrev Ï:=@_root_.cond_false
abbrev Ð:=@_root_.Go.Sem.run_bind
abbrev Ñ:=@_root_.cond_true
abbrev Ò:=@_root_.List.mem_of_getElem?
abbrev Ó:=@_root_.Prod.mk.inj
abbrev Ô:=@_root_.List.length_append
abbrev Õ:=@_root_.List.getElem?_append_left
abbrev Ö:=@_root_.Go.Sem.run_pure
abbrev Ø:=@_root_.Nat.le_of_ble_eq_true
abbrev Ù:=@_root_.List.getElem_mem
abbrev Ú:=@_root_.List.all_eq_true
abbrev Û:=@_root_.decide_eq_false_iff_not
abbrev Ü:=@_root_.Nat.le_refl
abbrev Ý:=@_root_.Go.run_underlying
abbrev Þ:=@_root_.List.map_cons
abbrev ß:=@_root_.List.getElem?_append_right
abbrev à:=@_root_.Array.getElem?_eq_getElem
abbrev á:=@_root_.List.mem_cons_self
abbrev â:=@_root_.Bool.false_eq_true
abbrev ã:=@_root_.List.eq_nil_of_length_eq_zero
abbrev ä:=@_root_.Option.map_some
abbrev å:=@_root_.Bool.not_eq_true'
abbrev æ:=@_root_.List.length_cons
abbrev ç:=@_root_.List.getElem?_map
abbrev è:=@_root_.List.mem_cons_of_mem
abbrev é:=@_root_.List.getElem_map
abbrev ê:=@_root_.Go.RowKit.Below.heap_alloc
abbrev ë:=@_root_.Array.toArray_toList
abbrev ì:=@_root_.List.length_nil
abbrev í:=@_root_.List.mem_of_mem_drop
abbrev î:=@_root_.Nat.mul_le_mul_right
abbrev ï:=@_root_.List.map_nil
abbrev ð:=@_root_.List.append_assoc
abbrev ñ:=@_root_.Nat.lt_of_lt_of_le
abbrev ò:=@_root_.Nat.zero_add
abbrev ó:=@_root_.Nat.add_mul
abbrev ô:=@_root_.Array.getElem?_append_left
abbrev õ:=@_root_.true_and
abbrev ö:=@_root_.List.getElem_of_mem
abbrev ø:=@_root_.if_true
abbrev ù:=@_root_.List.length_drop
abbrev ú:=@_root_.Bool.or_eq_true
abbrev û:=@_root_.if_false
abbrev ü:=@_root_.List.mem_of_mem_take
abbrev ý:=@_root_.beq_iff_eq
abbrev þ:=@_root_.Bool.not_true
abbrev ÿ:=@_root_.Nat.le_of_eq
abbrev Ā:=@_root_.List.getElem?_take
abbrev ā:=@_root_.List.map_append
abbrev Ă:=@_root_.beq_self_eq_true
abbrev ă:=@_root_.List.take_append_drop
abbrev Ą:=@_root_.Array.getElem?_toList
abbrev ą:=@_root_.List.all_cons
abbrev Ć:=@_root_.List.getElem_append_left
abbrev ć:=@_root_.List.nil_append
abbrev Ĉ:=@_root_.Nat.zero_le
abbrev ĉ:=@_root_.List.mem_append_left
abbrev Ċ:=@_root_.Go.World.cell?_of_block
abbrev ċ:=@_root_.Go.Region.noSelect_spec
abbrev Č:=@_root_.of_decide_eq_true
abbrev č:=@_root_.List.drop_eq_nil_of_le
abbrev Ď:=@_root_.List.getElem_append_right
abbrev ď:=@_root_.List.nodup_append
abbrev Đ:=@_root_.bne_self_eq_false
abbrev đ:=@_root_.Go.DataW.trod_int
abbrev Ē:=@_root_.List.takeWhile_cons
abbrev ē:=@_root_.List.getElem?_set_self
abbrev Ĕ:=@_root_.Nat.le_trans
abbrev ĕ:=@_root_.List.getElem_cons_zero
abbrev Ė:=@_root_.List.mem_singleton
abbrev ė:=@_root_.List.filter_append
abbrev Ę:=@_root_.Ne.symm
abbrev ę:=@_root_.Go.Region.free_spec
abbrev Ě:=@_root_.Go.run_sliceBound
abbrev ě:=@_root_.List.drop_eq_getElem_cons
abbrev Ĝ:=@_root_.List.append_nil
abbrev ĝ:=@_root_.Nat.one_mul
abbrev Ğ:=@_root_.Bool.and_true
abbrev ğ:=@_root_.Array.getElem?_setIfInBounds_ne
abbrev Ġ:=@_root_.Go.Sem.run_ite
abbrev ġ:=@_root_.List.dropWhile_cons
abbrev Ģ:=@_root_.Bool.not_false
abbrev ģ:=@_root_.Nat.lt_succ_self
abbrev Ĥ:=@_root_.Array.eq_empty_of_size_eq_zero
abbrev ĥ:=@_root_.List.drop_drop
abbrev Ħ:=@_root_.Go.run_firstCells_none
abbrev ħ:=@_root_.Go.run_firstCells_some
abbrev Ĩ:=@_root_.List.take_append_of_le_length
abbrev ĩ:=@_root_.List.drop_append_of_le_length
abbrev Ī:=@_root_.Option.map_eq_some_iff
abbrev ī:=@_root_.Nat.add_assoc
abbrev Ĭ:=@_root_.List.any_cons
abbrev ĭ:=@_root_.List.cons.inj
end Go
namespace Go
theorem Af {α:Type _}{a b:α}(h:some a=some b):a=b:=Option.some.inj h
end Go
namespace Go.Q
open Go Go.RowKit
abbrev Reg:=Nat->Prop
structure Enc (α:Type) where
 size:Nat
 rep:Reg->World->List Value->α->Prop
 len:∀ {S w cs x},rep S w cs x->cs.length=size
 one:∀ {S w cs x},rep S w cs x->∀ u∈cs,u.oneCell'=true
 stable:∀ {S S' w w' cs x},(∀ k,S k->S' k)->(∀ k,S k->w'.heap[k]?=w.heap[k]?)->rep S w cs x->rep S' w' cs x
section
variable {α:Type} {E:Enc α} {P P':Reg} {base:Nat} {e:TypeId} {w w':World} {A:Option Addr} {cap:Nat} {xs:List α}
theorem heap_setCell_same (w:World)(g j:Nat)(u:Value)(cur:Array Value)(e:TypeId)(hg:w.heap[g]?=some (.cells cur e (0,0))):(w.setCell ⟨g,j,none⟩ u).heap[g]?=some (.cells (cur.setIfInBounds j u) e (0,0)):=by
 have a:g<w.heap.size:=(Array.getElem?_eq_some_iff.1 hg).1
 have b:=(Array.getElem?_eq_some_iff.1 hg).2
 simp only [World.setCell,Array.getElem?_modify,if_true]
 rw [hg];simp
end
end Go.Q
namespace Go.Q
open Go Go.RowKit Go.ChangeShapes Go.WideShapes Go.Deep
section
variable {H:Type} {enc:TypeId×Value->H} {P:Program}
theorem Lu (hl:laidOutB P=true){W W':World}{sp':Nat->Bool}:∀ {ts:List TypeId} {vs:List Value} {ds:List (DataW H)} {ps:List MemPlace},
 (ts.all fun t=>P.readableRec t&&decide (t<P.types.size))=true->DataW.TrodAll enc P W 0 (fun _=>true) true ts vs ds ps->(∀ p∈ps,W.sameAt W' p)->(∀ p∈ps,sp' p.block=true)->DataW.TrodAll enc P W' 0 sp' true ts vs ds ps
 | [],[],[],_,_,h,_,_=>h
 |t::ts,_::_,_::_,_,ht,⟨p,q,h1,h2,e⟩,hs,hp=>by
  simp only [ą,Æ,Í] at ht
  exact⟨p,q,WideElems.Trod_stays hl ht.1.1 ht.1.2 h1 (fun x hx=>hs x (by rw [e];exact ĉ _ hx)) (fun x hx=>hp x (by rw [e];exact ĉ _ hx)),
   Lu hl ht.2 h2 (fun x hx=>hs x (by rw [e];exact List.mem_append_right _ hx)) (fun x hx=>hp x (by rw [e];exact List.mem_append_right _ hx)),e⟩
theorem Aav {f:Func}{s:ChangeSpec}{W W':World}{args:Array Value}{ds gs:List (DataW H)}{before:List MemPlace}{t4:TypeId}(hl:laidOutB P=true)
 (hts:(f.params.toList.all fun t=>P.readableRec t&&decide (t<P.types.size))=true) (hv:s.vars=[]) (hfn:s.fn H (ds++gs) = { results:=[.lit (.bool true)],args:=ds }) (hrt:f.resultTypes = #[t4]) (h4:P.underlying t4=some .bool)
 (hW:DataW.Whole enc P f.params.toList s.vars false W args.toList ds gs before) (hb:Below W.heap.size W W'):s.post enc P f false true false false W args (.bool true) W':=by
 have d:∀ p∈before,p.block<W.heap.size:=fun p m=>hW.lt p m
 have i:=hW
 obtain⟨p,q,hA,k,rfl,n,o⟩:=hW
 rw [hv] at k
 obtain⟨rfl,rfl⟩:=trodVars_none k
 have c:∀ sp:Nat->Bool,(∀ x∈p++[],sp x.block=true)->DataW.TrodAll enc P W' 0 sp true f.params.toList args.toList ds p:=fun sp j =>
  Lu hl hts hA (fun x a=>hb.same (d x (by simpa using a))) (fun x a=>j x (by simpa using a))
 have e:∀ (b:Nat) (sp:Nat->Bool) (l:Bool),DataW.TrodAll enc P W' b sp l f.resultTypes.toList ((Value.bool true).resultList f.resultTypes.size) [.lit (.bool true)] []:=fun b sp l=>by
  rw [hrt];exact trodAll_mk1 (shut_bool h4 true)
 have g:∀ x∈p++[],(fun b=>decide (b<W.heap.size)) x.block=true:=fun x a=>by simpa using d x a
 refine⟨ds,[],p++[],[],p,[],i,by rw [hfn];exact e _ _ _,by rw [hfn];exact c _ g,by rw [hfn,hv];rfl,World.keptBut_mono (fun x a=>⟨a,by simpa using a⟩) (hb.frame (·∈p++[])),fun h=>by cases h⟩
end
end Go.Q
