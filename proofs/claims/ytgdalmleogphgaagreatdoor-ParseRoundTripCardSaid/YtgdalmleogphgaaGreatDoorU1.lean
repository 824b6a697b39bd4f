/-
  Lists in memory: what a slice reads as, in a region of blocks; what a call owns; how they stay and grow. No program. Arguments opened as lists of bytes and of rows; the end of a law's row. No program. What the program's own variables hold, as the rows lay them (blocks 0, 3, 4, 5: strings.asciiSpace, internal/strconv.uint64pow10, strconv.ErrSyntax, strconv.ErrRange); no code writes them. Values without memory: what a program computes, seen as plain values; how such values lie in memory. No program. States of plain values and what they say of memory; what a call does, in plain values. No program. States of plain values: reading, writing a temporary; operations that yield a value and leave memory alone. No program. Operations that yield a value and leave memory alone, in plain values. No program. Reading memory and taking values apart, in plain values. No program. Addresses, indexes, slices, lengths, fields, in plain values. No program. Slice expressions; structs built; and all operations that yield a value and leave memory alone. No program. Structs built; small operations on values. No program. Operations that yield a value and leave memory alone: all of them. No program. One operation that yields a value and leaves memory alone. No program. Moving values from place to place; new blocks. No program. Tuples; new blocks. No program. A statement whose order Go leaves open, walked in one order: operations that yield one value whenever they run float; the others come in a forced order. No program. Blocks written; blocks that are appended to. No program. Variables made and stored into. No program. Slices made and appended to. No program. Slices written out. No program. One operation. No program. Calls. No program. Statements: operations in the order of the text. No program.
-/
import Derived.WalkKit
import Derived.Laws.BitsAllLaws
import Derived.Deep.QuietTactic
import Derived.BigQuiet
import Derived.Lib.Hide
import Derived.ProofKit
import Derived.LaidMore
import Derived.OpenShut
import Derived.Stop.Joined
import Derived.Deep.Matrix
import Derived.Carry
import Derived.Lib.Space
import Derived.Lib.ItoaNum
import Derived.Laws.BytesString
import Derived.Laws.StructEq
import Derived.WideLaws
import Derived.Laws.Pointers
import Derived.Lib.SliceRun
import Derived.Laws.Cover3
import Derived.Orders
import Derived.StillTailTactics
import Derived.MapKept
import Derived.Deep.AppendSrc
namespace Go
theorem Ac {α:Type _}{a b:α}(h:some a=some b):a=b:=Option.some.inj h
end Go
namespace Go.Q
open Go Go.RowKit
abbrev W8:=Nat->Prop
structure YM (α:Type) where
 size:Nat
 rep:W8->World->List Value->α->Prop
 len:∀ {S w cs x},rep S w cs x->cs.length=size
 one:∀ {S w cs x},rep S w cs x->∀ u∈cs,u.oneCell'=true
 stable:∀ {S S' w w' cs x},(∀ k,S k->S' k)->(∀ k,S k->w'.heap[k]?=w.heap[k]?)->rep S w cs x->rep S' w' cs x
def O2 (w w':World):Prop:=∃ n,w'=w.drewN n
theorem O2.one (w:World):O2 w w.drew:=⟨1,rfl⟩
theorem O2.below {w w':World}(h:O2 w w')(B:Nat):Below B w w':=by
 obtain⟨m,rfl⟩:=h
 exact⟨rfl,rfl,rfl,Nat.le_refl _,fun _ _=>rfl⟩
theorem U5 {k:IntKind}{a b:Int}(h:a=b):Ending.returned (.int k a)=.returned (.int k b):=by rw [h]
theorem OO {a b:Bool}(h:a=b):Ending.returned (.bool a)=.returned (.bool b):=by rw [h]
section
variable {α:Type} {E:YM α} {P P':W8} {base:Nat} {e:TypeId} {w w':World} {A:Option Addr} {cap:Nat} {xs:List α}
theorem heap_setCell_same (w:World)(g j:Nat)(u:Value)(cur:Array Value)(e:TypeId)(hg:w.heap[g]?=some (.cells cur e (0,0))):(w.setCell ⟨g,j,none⟩ u).heap[g]?=some (.cells (cur.setIfInBounds j u) e (0,0)):=by
 have hlt:g<w.heap.size:=(Array.getElem?_eq_some_iff.1 hg).1
 have he:=(Array.getElem?_eq_some_iff.1 hg).2
 simp only [World.setCell,Array.getElem?_modify,if_true]
 rw [hg];simp
theorem IP (u:Value)(n:Nat):(madeCells #[u] n).toList=List.replicate n u:=by
 refine List.ext_getElem (by simp [madeCells]) fun i h1 h2=>?_
 simp only [madeCells,Array.toList_map,List.getElem_map,List.getElem_replicate]
 have:∀ j:Nat,(#[u][j % #[u].size]!:Value)=u:=fun j=>by
  have:j % #[u].size=0:=Nat.mod_one j
  rw [this];rfl
 exact this _
theorem Rq (b o j:Nat):((⟨b,o,none⟩:Addr).add j)=⟨b,o+j,none⟩:=by
 unfold Addr.add;split
 . congr 1;omega
 . rfl
end
end Go.Q
namespace Go.Q
open Go Go.RowKit Go.ChangeShapes Go.WideShapes Go.Deep
section
variable {H:Type} {enc:TypeId×Value->H} {P:Program}
theorem IJ (hl:laidOutB P=true){W W':World}{sp':Nat->Bool}:∀ {ts:List TypeId} {vs:List Value} {ds:List (DataW H)} {ps:List MemPlace},
 (ts.all fun t=>P.readableRec t&&decide (t<P.types.size))=true->DataW.TrodAll enc P W 0 (fun _=>true) true ts vs ds ps->(∀ p∈ps,W.sameAt W' p)->(∀ p∈ps,sp' p.block=true)->DataW.TrodAll enc P W' 0 sp' true ts vs ds ps
 | [],[],[],_,_,h,_,_=>h
 |t::ts,_::_,_::_,_,ht,⟨p,q,h1,h2,e⟩,hs,hp=>by
  simp only [List.all_cons,Bool.and_eq_true,decide_eq_true_eq] at ht
  exact⟨p,q,WideElems.Trod_stays hl ht.1.1 ht.1.2 h1 (fun x hx=>hs x (by rw [e];exact List.mem_append_left _ hx)) (fun x hx=>hp x (by rw [e];exact List.mem_append_left _ hx)),
   IJ hl ht.2 h2 (fun x hx=>hs x (by rw [e];exact List.mem_append_right _ hx)) (fun x hx=>hp x (by rw [e];exact List.mem_append_right _ hx)),e⟩
theorem UI {f:Func}{s:ChangeSpec}{W W':World}{args:Array Value}{ds gs:List (DataW H)}{before:List MemPlace}{t4:TypeId}(hl:laidOutB P=true)
 (hts:(f.params.toList.all fun t=>P.readableRec t&&decide (t<P.types.size))=true) (hv:s.vars=[]) (hfn:s.fn H (ds++gs) = { results:=[.lit (.bool true)],args:=ds }) (hrt:f.resultTypes = #[t4]) (h4:P.underlying t4=some .bool)
 (hW:DataW.Whole enc P f.params.toList s.vars false W args.toList ds gs before) (hb:Below W.heap.size W W'):s.post enc P f false true false false W args (.bool true) W':=by
 have hlt:∀ p∈before,p.block<W.heap.size:=fun p hp=>hW.lt p hp
 have hW':=hW
 obtain⟨p,q,hA,hV,rfl,hz,hn⟩:=hW
 rw [hv] at hV
 obtain⟨rfl,rfl⟩:=trodVars_none hV
 have hargs:∀ sp:Nat->Bool,(∀ x∈p++[],sp x.block=true)->DataW.TrodAll enc P W' 0 sp true f.params.toList args.toList ds p:=fun sp hsp =>
  IJ hl hts hA (fun x hx=>hb.same (hlt x (by simpa using hx))) (fun x hx=>hsp x (by simpa using hx))
 have hres:∀ (b:Nat) (sp:Nat->Bool) (hd:Bool),DataW.TrodAll enc P W' b sp hd f.resultTypes.toList ((Value.bool true).resultList f.resultTypes.size) [.lit (.bool true)] []:=fun b sp hd=>by
  rw [hrt];exact trodAll_mk1 (shut_bool h4 true)
 have hold:∀ x∈p++[],(fun b=>decide (b<W.heap.size)) x.block=true:=fun x hx=>by simpa using hlt x hx
 refine⟨ds,[],p++[],[],p,[],hW',by rw [hfn];exact hres _ _ _,by rw [hfn];exact hargs _ hold,by rw [hfn,hv];rfl,World.keptBut_mono (fun x hx=>⟨hx,by simpa using hx⟩) (hb.frame (·∈p++[])),fun h=>by cases h⟩
end
end Go.Q
namespace Go.Vl
open Go Go.RowKit
def Qb:List Nat:=[0,1,4,5]
def KN (w:World):Prop :=
 ((∃ T o,w.heap[0]?=some (.cells (Lib.asciiSpaceTab.map fun z=>Value.int .u8 z).toArray T o))/\∃ T o,w.heap[1]?=some (.cells (Lib.pow10Tab.map fun z=>Value.int .u64 z).toArray T o)) /\
  (∃ ev,w.cell? ⟨4,0,none⟩=some ev/\(ev=.nilIface∨∃ te pe,ev=.iface te pe))/\∃ ev,w.cell? ⟨5,0,none⟩=some ev/\(ev=.nilIface∨∃ te pe,ev=.iface te pe)
theorem RV {w w':World}(h:KN w)(hs:∀ b∈Qb,w'.heap[b]?=w.heap[b]?):KN w':=by
 obtain⟨⟨⟨T,o,h0⟩,T3,o3,h3⟩,⟨e4,h4,k4⟩,e5,h5,k5⟩:=h
 have c:∀ b∈Qb,w'.cell? ⟨b,0,none⟩=w.cell? ⟨b,0,none⟩:=fun b hb=>by
  have:=hs b hb
  unfold World.cell?
  rw [this]
 exact⟨⟨⟨T,o,(hs 0 (by decide)).trans h0⟩,T3,o3,(hs 1 (by decide)).trans h3⟩,⟨e4,(c 4 (by decide)).trans h4,k4⟩,e5,(c 5 (by decide)).trans h5,k5⟩
end Go.Vl
namespace Go.Vl
open Go Go.RowKit
inductive Loc where
 |tmp (t:Nat)
 |tcomp (t i:Nat)
 |cell (b j:Nat)
 |ret (i:Nat)
deriving DecidableEq
inductive Grow where
 |shared
 |full
 |nil
 |own
 |view (l:Loc)
deriving DecidableEq
inductive PV where
 |lit (v:Value)
 |agg (cs:List PV)
 |tup (cs:List PV)
 |sl (xs:List (List PV)) (g:Grow)
 |ptr (b o:Nat)
 |vptr (cs:List PV) (o:Nat)
 |fn (f:FuncId) (caps:List PV)
 |ifc
 |mref (b:Nat)
 |mp (kvs:List (Value×Value))
 |undef
instance:Inhabited PV:=⟨.undef⟩
mutual
def PV.fits (N:Nat):PV->Bool
 |.lit _=>true
 |.agg cs=>PV.fitsL N cs
 |.tup cs=>PV.fitsL N cs
 |.sl _ _=>true
 |.ptr b _=>decide (b<N)
 |.vptr _ _=>true
 |.fn _ caps=>PV.fitsL N caps
 |.ifc=>true
 |.mref b=>decide (b<N)
 |.mp _=>true
 |.undef=>true
def PV.fitsL (N:Nat):List PV->Bool
 | []=>true
 |p::ps=>p.fits N&&PV.fitsL N ps
end
theorem DX {N:Nat}:∀ {cs:List PV},PV.fitsL N cs=true->∀ i (h:i<cs.length),(cs[i]).fits N=true
 | [],_,i,h=>by simp at h
 |p::ps,h,i,hi=>by
  simp only [PV.fitsL,Bool.and_eq_true] at h
  cases i with
  |zero=>exact h.1
  |succ i=>exact DX h.2 i (by simpa using hi)
inductive V (w:World) (U:Nat->Nat->Prop):List Nat->PV->Value->Prop where
 |lit (φ:List Nat) (v:Value):V w U φ (.lit v) v
 |agg (φ:List Nat) (cs:List PV) (arr:Array Value) (hn:arr.size=cs.length) (h:∀ i (h:i<cs.length),V w U φ cs[i] (arr.getD i Go.undef)) (h1:∀ i,i<arr.size->(arr.getD i Go.undef).oneCell'=true):V w U φ (.agg cs) (.agg arr)
 |tup (φ:List Nat) (cs:List PV) (arr:Array Value) (hn:arr.size=cs.length) (h:∀ i (h:i<cs.length),V w U φ cs[i] (arr.getD i Go.undef)):V w U φ (.tup cs) (.tuple arr)
 |nil (φ:List Nat) (g:Grow):V w U φ (.sl [] g) (.slice none 0 0)
 |sl (φ:List Nat) (xs:List (List PV)) (g:Grow) (b o sz cap:Nat) (us:Nat->Nat->Value) (hc:xs.length<=cap) (hm:cap<=9223372036854775807)
  (hs:∀ i (h:i<xs.length),(xs[i]).length=sz) (hU:∀ i j,i<xs.length->j<sz->U b (o+i*sz+j))
  (hw:∀ i j,i<xs.length->j<sz->w.cell? ⟨b,o+i*sz+j,none⟩=some (us i j)) (h1:∀ i j,i<xs.length->j<sz->(us i j).oneCell'=true)
  (hv:∀ i (h:i<xs.length) j (hj:j<(xs[i]).length),V w U [] xs[i][j] (us i j)) (hf:g=.full->cap=xs.length) (hg:g≠.nil):V w U φ (.sl xs g) (.slice (some ⟨b,o,none⟩) xs.length cap)
 |ptr (φ:List Nat) (b o k:Nat) (h:φ[b]?=some k):V w U φ (.ptr b o) (.pointer (some ⟨k,o,none⟩))
 |vptr (φ:List Nat) (cs:List PV) (b o' o:Nat) (us:Nat->Value) (hU:∀ j,j<cs.length->U b (o'+j)) (hw:∀ j,j<cs.length->w.cell? ⟨b,o'+j,none⟩=some (us j))
  (h1:∀ j,j<cs.length->(us j).oneCell'=true) (hv:∀ j (h:j<cs.length),V w U [] cs[j] (us j)):V w U φ (.vptr cs o) (.pointer (some ⟨b,o'+o,none⟩))
 |fn (φ:List Nat) (f:FuncId) (caps:List PV) (arr:Array Value) (hn:arr.size=caps.length) (h:∀ i (h:i<caps.length),V w U φ caps[i] (arr.getD i Go.undef)):V w U φ (.fn f caps) (.func (.func f) #[] arr)
 |ifc (φ:List Nat) (t:TypeId) (v:Value):V w U φ .ifc (.iface t v)
 |mref (φ:List Nat) (b k:Nat) (h:φ[b]?=some k):V w U φ (.mref b) (.map (some k))
 |mp (φ:List Nat) (kvs:List (Value×Value)) (v:Value):V w U φ (.mp kvs) v
 |undef (φ:List Nat) (v:Value):V w U φ .undef v
 |emp (φ:List Nat) (g:Grow) (b o k:Nat) (hg:g≠.nil):V w U φ (.sl [] g) (.slice (some ⟨b,o,some k⟩) 0 0)
section
variable {w w':World} {U U':Nat->Nat->Prop} {φ φ':List Nat} {p:PV} {v:Value}
theorem V.mono (h:V w U φ p v)(hU:∀ b i,U b i->U' b i/\w'.cell? ⟨b,i,none⟩=w.cell? ⟨b,i,none⟩):∀ {φ':List Nat},(∀ (k x:Nat),φ[k]?=some x->φ'[k]?=some x)->V w' U' φ' p v:=by
 induction h with
 |lit φ v=>intro φ' _;exact .lit _ _
 |agg φ cs arr hn h h1 ih=>intro φ' hφ;exact .agg _ _ _ hn (fun i hi=>ih i hi hφ) h1
 |tup φ cs arr hn h ih=>intro φ' hφ;exact .tup _ _ _ hn (fun i hi=>ih i hi hφ)
 |nil φ g=>intro φ' _;exact .nil _ _
 |sl φ xs g b o sz cap us hc hm hs hU' hw h1 hv hf hg ih =>
  intro φ' _
  exact .sl _ _ _ b o sz cap us hc hm hs (fun i j hi hj=>(hU _ _ (hU' i j hi hj)).1) (fun i j hi hj=>((hU _ _ (hU' i j hi hj)).2).trans (hw i j hi hj)) h1 (fun i hi j hj=>ih i hi j hj (fun k x hk=>hk)) hf hg
 |ptr φ b o k h=>intro φ' hφ;exact .ptr _ _ _ _ (hφ _ _ h)
 |vptr φ cs b o' o us hU' hw h1 hv ih =>
  intro φ' _
  exact .vptr _ _ _ _ _ us (fun j hj=>(hU _ _ (hU' j hj)).1) (fun j hj=>((hU _ _ (hU' j hj)).2).trans (hw j hj)) h1 (fun j hj=>ih j hj (fun k x hk=>hk))
 |fn φ f caps arr hn h ih=>intro φ' hφ;exact .fn _ _ _ _ hn (fun i hi=>ih i hi hφ)
 |ifc φ t v=>intro φ' _;exact .ifc _ _ _
 |mref φ b k h=>intro φ' hφ;exact .mref _ _ _ (hφ _ _ h)
 |mp φ kvs v=>intro φ' _;exact .mp _ _ _
 |undef φ v=>intro φ' _;exact .undef _ _
 |emp φ g b o k hg=>intro φ' _;exact .emp _ _ _ _ _ hg
theorem V.fits {N:Nat}(h:V w U φ p v):p.fits N=true->V w U (φ.take N) p v:=by
 induction h with
 |lit φ v=>intro _;exact .lit _ _
 |agg φ cs arr hn h h1 ih=>intro hf;rw [PV.fits] at hf;exact .agg _ _ _ hn (fun i hi=>ih i hi (DX hf i hi)) h1
 |tup φ cs arr hn h ih=>intro hf;rw [PV.fits] at hf;exact .tup _ _ _ hn (fun i hi=>ih i hi (DX hf i hi))
 |nil φ g=>intro _;exact .nil _ _
 |sl φ xs g b o sz cap us hc hm hs hU' hw h1 hv hf hg ih=>intro _;exact .sl _ _ _ b o sz cap us hc hm hs hU' hw h1 hv hf hg
 |ptr φ b o k h =>
  intro hf;rw [PV.fits,decide_eq_true_eq] at hf
  exact .ptr _ _ _ _ (by rw [List.getElem?_take,if_pos hf];exact h)
 |vptr φ cs b o' o us hU' hw h1 hv ih=>intro _;exact .vptr _ _ _ _ _ us hU' hw h1 hv
 |fn φ f caps arr hn h ih=>intro hf;rw [PV.fits] at hf;exact .fn _ _ _ _ hn (fun i hi=>ih i hi (DX hf i hi))
 |ifc φ t v=>intro _;exact .ifc _ _ _
 |mref φ b k h =>
  intro hf;rw [PV.fits,decide_eq_true_eq] at hf
  exact .mref _ _ _ (by rw [List.getElem?_take,if_pos hf];exact h)
 |mp φ kvs v=>intro _;exact .mp _ _ _
 |undef φ v=>intro _;exact .undef _ _
 |emp φ g b o k hg=>intro _;exact .emp _ _ _ _ _ hg
def PV.pure (p:PV):Bool:=p.fits 0
theorem V.pure (h:V w U φ p v)(hp:p.pure=true):V w U φ' p v :=
 (h.fits (N:=0) hp).mono (fun _ _ h=>⟨h,rfl⟩) (fun k x hk=>by simp at hk)
theorem V.tag {xs:List (List PV)}{g g':Grow}(h:V w U φ (.sl xs g) v)(hf:g'≠.full)(hn:g'≠.nil):V w U φ (.sl xs g') v:=by
 cases h with
 |nil=>exact .nil _ _
 |emp _ _ _ _ _ hg=>exact .emp _ _ _ _ _ hn
 |sl _ _ _ b o sz cap us hc hm hs hU hw h1 hv hf' hg=>exact .sl _ _ _ b o sz cap us hc hm hs hU hw h1 hv (fun e=>absurd e hf) hn
end
end Go.Vl
namespace Go.Vl
open Go Go.RowKit
structure Gh where
 U:Nat->Nat->Prop
 φ:List Nat
 Ω:Nat->Option Loc
def AR (w:World)(G:Gh)(l:Loc)(xs:List (List PV))(v:Value):Prop :=
 (xs=[]/\v=.slice none 0 0) ∨
 ∃ b cap sz T,∃ arr:Array Value,v=.slice (some ⟨b,0,none⟩) xs.length cap/\xs≠[]/\(∀ x∈xs,x.length=sz)/\G.Ω b=some l/\w.heap[b]?=some (.cells arr T (0,0))/\arr.size=cap*sz/\∀ i,G.U b i->i<xs.length*sz
def Di (w:World)(G:Gh)(l:Loc):PV->Value->Prop
 |.sl xs .own,v=>AR w G l xs v
 |_,_=>True
def VI (o:Obj)(arr:Array Value)(cs:List PV):Prop :=
 ((∃ T,o=.cells arr T (0,0))/\∀ kvs,PV.mp kvs∉cs)∨∃ kvs es c,cs=[.mp kvs]/\o=.map es c/\es.toList.map (fun e=>(e.key,e.val))=kvs
structure Xx (w:World) (G:Gh) (k b:Nat) (cs:List PV):Prop where
 blk:∃ o,∃ arr:Array Value,w.heap[b]?=some o/\(VI o arr cs/\arr.size=cs.length)/\∀ j c,cs[j]?=some c->∃ v,arr[j]?=some v/\v.oneCell'=true/\V w G.U G.φ c v/\Di w G (.cell k j) c v
 noU:∀ i,¬ G.U b i
structure AW (w:World) (G:Gh) (σ:List (List PV)):Prop where
 len:G.φ.length=σ.length
 nodup:G.φ.Nodup
 blk:∀ k b cs,G.φ[k]?=some b->σ[k]?=some cs->Xx w G k b cs
 ub:∀ b i,G.U b i->b<w.heap.size
 ob:∀ b,G.Ω b≠none->b<w.heap.size/\b∉G.φ
structure Ext (w:World) (G:Gh) (w':World) (G':Gh):Prop where
 os:w'.os=w.os
 tape:w'.tape=w.tape
 output:w'.output=w.output
 size:w.heap.size<=w'.heap.size
 frame:∀ k,k<w.heap.size->k∉G.φ->G.Ω k=none->w'.heap[k]?=w.heap[k]?
 cells:∀ b i,G.U b i->G'.U b i/\w'.cell? ⟨b,i,none⟩=w.cell? ⟨b,i,none⟩
 newU:∀ b i,G'.U b i->G.U b i∨w.heap.size<=b∨G.Ω b≠none
 newΩ:∀ b,G'.Ω b≠none->w.heap.size<=b∨G.Ω b≠none
 phi:∃ ψ,G'.φ=G.φ++ψ/\∀ b∈ψ,w.heap.size<=b
theorem Ext.refl (w:World)(G:Gh):Ext w G w G:=⟨rfl,rfl,rfl,Nat.le_refl _,fun _ _ _ _=>rfl,fun _ _ h=>⟨h,rfl⟩,fun _ _ h=>.inl h,fun _ h=>.inr h,[],by simp,by simp⟩
theorem Ext.trans {w1 w2 w3:World}{G1 G2 G3:Gh}(h:Ext w1 G1 w2 G2)(k:Ext w2 G2 w3 G3):Ext w1 G1 w3 G3:=by
 obtain⟨ψ,hφ,hψ⟩:=h.phi
 obtain⟨ψ',hφ',hψ'⟩:=k.phi
 have hs:=h.size
 refine⟨k.os.trans h.os,k.tape.trans h.tape,k.output.trans h.output,Nat.le_trans h.size k.size,?_,?_,?_,?_,ψ++ψ',?_,?_⟩
 . intro i hi h1 h2
   rw [k.frame i (by omega) ?_ ?_,h.frame i hi h1 h2]
   . rw [hφ]
     intro hm
     rcases List.mem_append.1 hm with hm|hm
     . exact h1 hm
     . have:=hψ i hm;omega
   . cases ho:G2.Ω i with
     |none=>rfl
     |some l =>
      rcases h.newΩ i (by rw [ho];simp) with h3|h3
      . omega
      . exact absurd h2 h3
 . intro b i hu
   obtain⟨h1,h2⟩:=h.cells b i hu
   obtain⟨h3,h4⟩:=k.cells b i h1
   exact⟨h3,h4.trans h2⟩
 . intro b i hu
   rcases k.newU b i hu with h1|h1|h1
   . exact h.newU b i h1
   . exact .inr (.inl (by omega))
   . rcases h.newΩ b h1 with h2|h2
     . exact .inr (.inl h2)
     . exact .inr (.inr h2)
 . intro b hb
   rcases k.newΩ b hb with h1|h1
   . exact .inl (by omega)
   . exact h.newΩ b h1
 . rw [hφ',hφ,List.append_assoc]
 . intro b hb
   rcases List.mem_append.1 hb with hb|hb
   . exact hψ b hb
   . have:=hψ' b hb;omega
theorem Ext.phiGet {w w':World}{G G':Gh}(h:Ext w G w' G')(k x:Nat)(hk:G.φ[k]?=some x):G'.φ[k]?=some x:=by
 obtain⟨ψ,hφ,_⟩:=h.phi
 rw [hφ,List.getElem?_append_left (List.getElem?_eq_some_iff.1 hk).1];exact hk
theorem Ext.V {w w':World}{G G':Gh}(h:Ext w G w' G'){p:PV}{v:Value}(hv:V w G.U G.φ p v):V w' G'.U G'.φ p v:=hv.mono h.cells h.phiGet
theorem Ext.below {w w':World}{G G':Gh}(h:Ext w G w' G')(hφ:G.φ=[])(hΩ:∀ b,G.Ω b=none):Below w.heap.size w w' :=
 ⟨h.os,h.tape,h.output,h.size,fun k hk=>h.frame k hk (by rw [hφ];simp) (hΩ k)⟩
def Dg (w:World)(G:Gh):Prop:=KN w/\∀ b∈Qb,b<w.heap.size/\b∉G.φ/\G.Ω b=none
theorem Dg.ext {w w':World}{G G':Gh}(h:Dg w G)(hx:Ext w G w' G'):Dg w' G':=by
 refine⟨RV h.1 fun b hb=>hx.frame b (h.2 b hb).1 (h.2 b hb).2.1 (h.2 b hb).2.2,fun b hb=>?_⟩
 obtain⟨h1,h2,h3⟩:=h.2 b hb
 refine⟨Nat.lt_of_lt_of_le h1 hx.size,?_,?_⟩
 . obtain⟨ψ,hφ,hψ⟩:=hx.phi
   rw [hφ]
   intro hm
   rcases List.mem_append.1 hm with hm|hm
   . exact h2 hm
   . have:=hψ b hm;omega
 . cases e:G'.Ω b with
   |none=>rfl
   |some l =>
    rcases hx.newΩ b (by rw [e];simp) with h4|h4
    . omega
    . exact absurd h3 h4
structure St where
 env:List (Nat×PV)
 σ:List (List PV)
def getE:List (Nat×PV)->Nat->PV
 | [],_=>.undef
 |(k,v)::r,t=>if k=t then v else getE r t
def St.get (st:St)(t:Nat):PV:=getE st.env t
def El (w:World)(G:Gh)(st:St)(tm:Nat->Value)(t:Nat):PV->Value->Prop
 |.sl xs .own,v=>AR w G (.tmp t) xs v
 |.sl xs (.view (.tmp s)),v=>st.get s=.sl xs .own/\tm s=v
 |.sl xs (.view (.cell k j)),v=>∃ cs b,st.σ[k]?=some cs/\cs[j]?=some (.sl xs .own)/\G.φ[k]?=some b/\w.cell? ⟨b,j,none⟩=some v
 |.sl _ (.view _),_=>False
 |.tup cs,v=>∀ i xs,cs[i]?=some (.sl xs .own)->∃ arr u,v=.tuple arr/\arr[i]?=some u/\AR w G (.tcomp t i) xs u
 |_,_=>True
structure H3 (w:World) (G:Gh) (st:St) (tm:Nat->Value):Prop where
 v:∀ t,V w G.U G.φ (st.get t) (tm t)
 tag:∀ t,El w G st tm t (st.get t) (tm t)
structure Inv (w0:World) (G0:Gh) (st:St) (tm:Nat->Value) (w:World) (G:Gh):Prop where
 ext:Ext w0 G0 w G
 store:AW w G st.σ
 env:H3 w G st tm
inductive B7 where
 |ret (r:PV)
 |pan (c:List PanicEntry)
def G6 (w:World)(G:Gh):PV->Value->Prop
 |.sl xs .own,v=>AR w G (.ret 0) xs v
 |.sl _ (.view _),_=>False
 |.tup cs,v=>∀ i xs,cs[i]?=some (.sl xs .own)->∃ arr u,v=.tuple arr/\arr[i]?=some u/\AR w G (.ret i) xs u
 |_,_=>True
def Du (w:World)(G:Gh):B7->Ending->Prop
 |.ret r,e=>∃ v,e=.returned v/\V w G.U G.φ r v/\G6 w G r v
 |.pan c,e=>e=.panicked c
def VC (P:Program)(f:FuncId)(args:List PV)(σ:List (List PV))(Q:B7->List (List PV)->Prop):Prop :=
 ∀ (w:World) (G:Gh) (vs:Array Value),AW w G σ->vs.size=args.length->(∀ i (h:i<args.length),V w G.U G.φ args[i] (vs.getD i Go.undef)) ->
  (∀ b l,G.Ω b=some l->∃ k j,l=.cell k j)->Dg w G ->
  Calls P f vs w fun e w'=>∃ x σ' G',Q x σ'/\Du w' G' x e/\AW w' G' σ'/\Ext w G w' G'
theorem VC.mono {P:Program}{f:FuncId}{args:List PV}{σ:List (List PV)}{Q Q':B7->List (List PV)->Prop}(h:VC P f args σ Q)(hq:∀ x σ',Q x σ'->Q' x σ'):VC P f args σ Q' :=
 fun w G vs h1 h2 h3 h4 h5=>(h w G vs h1 h2 h3 h4 h5).mono fun _ _ ⟨x,σ',G',q,r⟩=>⟨x,σ',G',hq _ _ q,r⟩
end Go.Vl
namespace Go.Vl
open Go Go.RowKit
def strip1 (l:Loc):PV->PV
 |.sl xs (.view l')=>if l'=l then .sl xs .shared else .sl xs (.view l')
 |p=>p
def stripE (l:Loc)(env:List (Nat×PV)):List (Nat×PV):=env.map fun x=>(x.1,strip1 l x.2)
def isOwn:PV->Bool
 |.sl _ .own=>true
 |_=>false
def St.put (st:St)(d:Option Tmp)(p:PV):St :=
 match d with
 |none=>st
 |some d=>{ st with env:=(d,p)::(if isOwn (st.get d) then stripE (.tmp d) st.env else st.env) }
theorem LY (l:Loc):∀ (env:List (Nat×PV)) (t:Nat),getE (stripE l env) t=strip1 l (getE env t)
 | [],_=>rfl
 |(k,v)::r,t=>by
  show (if k=t then strip1 l v else getE (stripE l r) t)=strip1 l (if k=t then v else getE r t)
  split
  . rfl
  . exact LY l r t
theorem Dt (st:St)(d:Nat)(p:PV)(t:Nat):(st.put (some d) p).get t=if d=t then p else if isOwn (st.get d) then strip1 (.tmp d) (st.get t) else st.get t:=by
 show (if d=t then p else getE _ t)=_
 split
 . rfl
 . split
   . exact LY _ _ _
   . rfl
theorem J5 (st:St)(d:Option Tmp)(p:PV):(st.put d p).σ=st.σ:=by cases d<;>rfl
def Gm (tm:Nat->Value)(d:Nat)(v:Value)(t:Nat):Value:=if d=t then v else tm t
section
variable {w w' w0:World} {G G' G0:Gh} {st st':St} {tm tm':Nat->Value} {p:PV} {v:Value} {d:Nat} {P:Program}
theorem Vh {l:Loc}{φ:List Nat}{U:Nat->Nat->Prop}(h:V w U φ p v):V w U φ (strip1 l p) v:=by
 unfold strip1
 split
 . split
   . exact h.tag (by simp) (by simp)
   . exact h
 . exact h
theorem Rx {l:Loc}{xs:List (List PV)}:strip1 l p=.sl xs .own↔p=.sl xs .own:=by
 unfold strip1
 split
 . split<;>simp
 . rfl
theorem H3.put (h:H3 w G st tm)(d:Nat)(hv:V w G.U G.φ p v)(ht:El w G (st.put (some d) p) (Gm tm d v) d p v):H3 w G (st.put (some d) p) (Gm tm d v):=by
 refine⟨fun t=>?_,fun t=>?_⟩
 . rw [Dt];unfold Gm
   by_cases e:d=t
   . rw [if_pos e,if_pos e];exact hv
   . rw [if_neg e,if_neg e]
     split
     . exact Vh (h.v t)
     . exact h.v t
 . by_cases e:d=t
   . subst e
     have e1:(st.put (some d) p).get d=p:=by rw [Dt,if_pos rfl]
     have e2:Gm tm d v d=v:=if_pos rfl
     rw [e1,e2];exact ht
   . have ht0:=h.tag t
     have e2:Gm tm d v t=tm t:=if_neg e
     have e1:(st.put (some d) p).get t=if isOwn (st.get d) then strip1 (.tmp d) (st.get t) else st.get t:=by rw [Dt,if_neg e]
     rw [e1,e2]
     have key:∀ xs s,s≠d->st.get s=.sl xs .own->(st.put (some d) p).get s=.sl xs .own:=by
      intro xs s hs ho
      rw [Dt,if_neg (Ne.symm hs)]
      split
      . exact Rx.2 ho
      . exact ho
     revert ht0
     generalize st.get t=q
     intro ht0
     cases q with
     |sl xs g =>
      cases g with
      |view l =>
       cases l with
       |tmp s =>
        by_cases es:s=d
        . subst es
          have ho:st.get s=.sl xs .own:=ht0.1
          rw [ho];simp [isOwn,strip1];trivial
        . have hs:strip1 (.tmp d) (.sl xs (.view (.tmp s)))=.sl xs (.view (.tmp s)):=by simp [strip1,es]
          have hg:El w G (st.put (some d) p) (Gm tm d v) t (.sl xs (.view (.tmp s))) (tm t):=⟨key xs s es ht0.1,by unfold Gm;rw [if_neg (Ne.symm es)];exact ht0.2⟩
          split
          . rw [hs];exact hg
          . exact hg
       |cell k j =>
        have hg:El w G (st.put (some d) p) (Gm tm d v) t (.sl xs (.view (.cell k j))) (tm t):=by rw [El,J5];exact ht0
        split
        . simp only [strip1];simpa using hg
        . exact hg
       |tcomp s i=>exact ht0.elim
       |ret i=>exact ht0.elim
      |own=>split<;>exact ht0
      |shared=>split<;>trivial
      |full=>split<;>trivial
      |nil=>split<;>trivial
     |tup cs=>split<;>exact ht0
     |_=>split<;>trivial
theorem Inv.put (h:Inv w0 G0 st tm w G)(d:Nat)(hv:V w G.U G.φ p v)(ht:El w G (st.put (some d) p) (Gm tm d v) d p v):Inv w0 G0 (st.put (some d) p) (Gm tm d v) w G :=
 ⟨h.ext,by rw [J5];exact h.store,h.env.put d hv ht⟩
def plain:PV->Bool
 |.sl _ .own=>false
 |.sl _ (.view _)=>false
 |.tup _=>false
 |_=>true
theorem EG (hp:plain p=true)(st:St)(tm:Nat->Value)(t:Nat)(v:Value):El w G st tm t p v:=by
 cases p with
 |sl xs g=>cases g<;>simp_all [plain,El]
 |tup cs=>simp [plain] at hp
 |_=>trivial
theorem Inv.putPlain (h:Inv w0 G0 st tm w G)(d:Nat)(hv:V w G.U G.φ p v)(hp:plain p=true):Inv w0 G0 (st.put (some d) p) (Gm tm d v) w G :=
 h.put d hv (EG hp _ _ _ _)
def absC1:Value->PV
 |.slice none 0 0=>.sl [] .nil
 |v=>.lit v
def absC:Value->PV
 |.slice none 0 0=>.sl [] .nil
 |.agg arr=>if arr.toList.all Value.oneCell'=true then .agg (arr.toList.map absC1) else .lit (.agg arr)
 |v=>.lit v
theorem Vk {U:Nat->Nat->Prop}{φ:List Nat}(v:Value):V w U φ (absC1 v) v:=by
 unfold absC1
 split
 . exact .nil _ _
 . exact .lit _ _
theorem Js {U:Nat->Nat->Prop}{φ:List Nat}(v:Value):V w U φ (absC v) v:=by
 unfold absC
 split
 . exact .nil _ _
 . rename_i arr
   split
   . rename_i h
     rw [List.all_eq_true] at h
     refine .agg _ _ arr (by simp) (fun i hi=>?_) (fun i hi=>?_)
     . have hi2:i<arr.size:=by simpa using hi
       simp only [List.getElem_map,Array.getElem_toList]
       rw [Array.getD_eq_getD_getElem?,Array.getElem?_eq_getElem hi2]
       exact Vk _
     . rw [Array.getD_eq_getD_getElem?,Array.getElem?_eq_getElem hi]
       exact h _ (by simp)
   . exact .lit _ _
 . exact .lit _ _
def opd (st:St):Operand->PV
 |.tmp t=>st.get t
 |.const v=>absC v
 |.global _=>.undef
 |.func f=>.fn f []
theorem Ci {a:Act}(h:H3 w G st fun t=>a.tmps.getD t Go.undef)(x:Operand):V w G.U G.φ (opd st x) (a.eval x):=by
 cases x with
 |tmp t=>exact h.v t
 |const v=>exact Js v
 |global g=>exact .undef _ _
 |func f=>exact .fn _ _ _ _ rfl (fun i hi=>by simp at hi)
def unown:PV->PV
 |.sl xs _=>.sl xs .shared
 |.tup _=>.undef
 |.mp _=>.undef
 |p=>p
theorem S3 (p:PV)(kvs:List (Value×Value)):unown p≠.mp kvs:=by
 unfold unown
 split<;>simp_all
theorem CW {U:Nat->Nat->Prop}{φ:List Nat}(h:V w U φ p v):V w U φ (unown p) v:=by
 unfold unown
 split
 . exact h.tag (by simp) (by simp)
 . exact .undef _ _
 . exact .undef _ _
 . exact h
theorem BZ (p:PV):plain (unown p)=true:=by
 cases p<;>rfl
end
end Go.Vl
namespace Go.Vl
open Go Go.RowKit
def IK (P:Program)(t:TypeId):Option Nat:=(P.info? t).map (·.size)
def FY (P:Program)(t:TypeId):Option Bool:=(P.underlying t).map fun|.struct _=>true|.array _ _=>true|_=>false
def Jn (P:Program)(s f:Nat):Option (Nat×Nat×Bool) :=
 match P.underlying s with
 |some (.struct fs)=>match fs[f]? with
  |some fd=>match IK P fd.type,FY P fd.type with
   |some n,some a=>some (fd.offset,n,a)
   |_,_=>none
  |none=>none
 |_=>none
def QA (P:Program)(t:TypeId):Option (Nat×Nat) :=
 match P.underlying t with
 |some (.slice e)=>(P.info? e).map fun i=>(i.size,i.bytes)
 |_=>none
def W7 (P:Program)(t:TypeId):Option (Nat×Nat×Bool) :=
 match P.underlying t with
 |some (.array n e)=>match IK P e,FY P e with
  |some k,some a=>some (n,k,a)
  |_,_=>none
 |_=>none
def Wl (P:Program)(t:TypeId):Option IntKind:=match P.underlying t with|some (.int k)=>some k|_=>none
def Gg (P:Program)(t:TypeId):Bool:=match P.underlying t with|some .string=>true|_=>false
def Uc (P:Program)(t:TypeId):Bool:=match P.underlying t with|some .bool=>true|_=>false
def evInt (op:BinOp)(k:IntKind)(a b:Int):Option (Bool×PV) :=
 match op with
 |.add=>some (true,.lit (.int k (k.wrap (a+b))))
 |.sub=>some (true,.lit (.int k (k.wrap (a-b))))
 |.mul=>some (true,.lit (.int k (k.wrap (a*b))))
 |.quo=>some (b != 0,.lit (.int k (k.wrap (a.tdiv b))))
 |.rem=>some (b != 0,.lit (.int k (a.tmod b)))
 |.and=>some (true,.lit (.int k (bits .and k a b)))
 |.or=>some (true,.lit (.int k (bits .or k a b)))
 |.xor=>some (true,.lit (.int k (bits .xor k a b)))
 |.andNot=>some (true,.lit (.int k (bits .andNot k a b)))
 |.eql=>some (true,.lit (.bool (a == b)))
 |.neq=>some (true,.lit (.bool (a != b)))
 |.lss=>some (true,.lit (.bool (decide (a<b))))
 |.leq=>some (true,.lit (.bool (decide (a<=b))))
 |.gtr=>some (true,.lit (.bool (decide (b<a))))
 |.geq=>some (true,.lit (.bool (decide (b<=a))))
 |_=>none
def evStr (op:BinOp)(a b:ByteArray):Option (Bool×PV) :=
 match op with
 |.add=>some (decide (a.size+b.size<=9223372036854775807),.lit (.string (a++b)))
 |.eql=>some (true,.lit (.bool (decide (a=b))))
 |.neq=>some (true,.lit (.bool (!decide (a=b))))
 |.lss=>some (true,.lit (.bool (Op.bytesLess a.toList b.toList)))
 |.geq=>some (true,.lit (.bool (!Op.bytesLess a.toList b.toList)))
 |_=>none
def evBin (P:Program)(op:BinOp)(t:TypeId)(x y:PV):Option (Bool×PV) :=
 match x,y with
 |.lit (.int k a),.lit (.int k' b) =>
  match op with
  |.shl=>some (decide (0<=b),.lit (.int k (k.wrap (a*2 ^ min b.toNat k.bits))))
  |.shr=>some (decide (0<=b),.lit (.int k (a.fdiv (2 ^ min b.toNat k.bits))))
  |_=>if k=k' then evInt op k a b else none
 |.lit (.string a),.lit (.string b)=>evStr op a b
 |.lit (.bool a),.lit (.bool b)=>if Uc P t then (match op with|.eql=>some (true,.lit (.bool (a == b)))|.neq=>some (true,.lit (.bool (!(a == b))))|_=>none) else none
 |_,_=>none
section
variable {w:World} {P:Program}
theorem JI (a b:ByteArray):(a.toList == b.toList)=decide (a=b):=by
 rw [ByteArray.toList_eq,ByteArray.toList_eq]
 obtain⟨⟨x⟩⟩:=a
 obtain⟨⟨y⟩⟩:=b
 rw [Bool.eq_iff_iff];simp
theorem Sd {op:BinOp}{t:TypeId}{x y:Value}{p:PV}(xo yo:Operand)(he:evBin P op t (.lit x) (.lit y)=some (true,p)) :
 ∃ v,p=.lit v/\∀ w,(do eqGuard op t xo yo x y;binOp op t x y:Sem Value).run P w=.ok v w:=by
 unfold evBin at he
 split at he
 . rename_i k a k' b h1 h2
   obtain rfl:x=.int k a:=by injection h1
   obtain rfl:y=.int k' b:=by injection h2
   split at he
   . simp only [Option.some.injEq,Prod.mk.injEq,decide_eq_true_eq] at he
     exact⟨_,he.2.symm,fun w=>by simp [eqGuard_at_int,binOp_shl,Op.shift];omega⟩
   . simp only [Option.some.injEq,Prod.mk.injEq,decide_eq_true_eq] at he
     exact⟨_,he.2.symm,fun w=>by simp [eqGuard_at_int,binOp_shr,Op.shift];omega⟩
   . split at he
     . rename_i hk
       subst hk
       unfold evInt at he
       split at he<;>simp only [Option.some.injEq,Prod.mk.injEq,bne_iff_ne,reduceCtorEq] at he
       all_goals
        refine⟨_,he.2.symm,fun w=>?_⟩
        simp [eqGuard_at_int,binOp_add,binOp_sub,binOp_mul,binOp_quo,binOp_rem,binOp_and,binOp_or,binOp_xor,binOp_andNot,binOp_eql,binOp_neq,binOp_lss,binOp_leq,binOp_gtr,binOp_geq,Op.intArith,Op.intDiv,intBits_and,intBits_or,intBits_xor,intBits_andNot,he.1]
     . cases he
 . rename_i a b h1 h2
   obtain rfl:x=.string a:=by injection h1
   obtain rfl:y=.string b:=by injection h2
   unfold evStr at he
   split at he<;>simp only [Option.some.injEq,Prod.mk.injEq,decide_eq_true_eq,reduceCtorEq] at he
   all_goals
    refine⟨_,he.2.symm,fun w=>?_⟩
    first
     |(simp [eqGuard_at_string,binOp,Op.stringOp,JI];done)
     |(simp only [eqGuard_at_string,Sem.run_bind,Sem.run_pure,Result.andThen_ok];exact run_string_add_sum w a b he.1)
 . rename_i a b h1 h2
   obtain rfl:x=.bool a:=by injection h1
   obtain rfl:y=.bool b:=by injection h2
   split at he
   . rename_i hb
     have hu:P.underlying t=some .bool:=by unfold Uc at hb;split at hb<;>simp_all
     split at he<;>simp only [Option.some.injEq,Prod.mk.injEq,reduceCtorEq] at he
     all_goals
      refine⟨_,he.2.symm,fun w=>?_⟩
      simp only [eqGuard_at_bool,Sem.run_bind,Sem.run_pure,Result.andThen_ok]
      first|exact run_eql_bool w t a b hu|exact run_neq_bool w t a b hu
   . cases he
 . cases he
theorem Se {op:BinOp}{t:TypeId}{x y p:PV}{c:Bool}(he:evBin P op t x y=some (c,p)):∃ a b,x=.lit a/\y=.lit b:=by
 unfold evBin at he
 split at he
 . exact⟨_,_,rfl,rfl⟩
 . exact⟨_,_,rfl,rfl⟩
 . exact⟨_,_,rfl,rfl⟩
 . cases he
end
end Go.Vl
namespace Go.Vl
open Go Go.RowKit
def isCell:PV->Bool
 |.lit v=>v.oneCell'
 |.agg _=>false
 |.tup _=>false
 |.mp _=>false
 |.undef=>false
 |_=>true
def cellsP:PV->List PV
 |.agg cs=>cs
 |p=>[p]
section
variable {w w':World} {G:Gh} {P:Program} {p:PV} {v:Value} {U:Nat->Nat->Prop} {φ:List Nat}
theorem V.oneCell (h:V w U φ p v)(hp:isCell p=true):v.oneCell'=true:=by
 cases h<;>simp_all [isCell]<;>rfl
theorem V.cells (h:V w U φ p v)(hp:isCell p=true∨∃ cs,p=.agg cs):v.cells.size=(cellsP p).length/\∀ i (h:i<(cellsP p).length),V w U φ (cellsP p)[i] (v.cells.getD i Go.undef)/\(v.cells.getD i Go.undef).oneCell'=true:=by
 rcases hp with hp|⟨cs,rfl⟩
 . have h1:=h.oneCell hp
   have e1:cellsP p=[p]:=by cases p<;>simp_all [isCell,cellsP]
   have e2:v.cells = #[v]:=by cases v<;>simp_all [Value.oneCell',Value.cells]
   rw [e1,e2]
   refine⟨rfl,fun i hi=>?_⟩
   obtain rfl:i=0:=by simpa using hi
   exact⟨h,h1⟩
 . cases h with
   |agg _ _ arr hn h h1=>exact⟨hn,fun i hi=>⟨h i hi,h1 i (by rw [hn];exact hi)⟩⟩
end
def rdAt (k j:Nat):PV->PV
 |.sl xs .own=>.sl xs (.view (.cell k j))
 |p=>unown p
def DP:Option (List PV)->Option (List PV)
 |some (.mp _::_)=>none
 |x=>x
theorem Gu {x:Option (List PV)}{cs:List PV}(h:DP x=some cs):x=some cs/\∀ kvs,cs≠[.mp kvs]:=by
 unfold DP at h
 split at h
 . cases h
 . rename_i hn
   exact⟨h,fun kvs e=>hn kvs [] (by rw [h,e])⟩
theorem VI.cells {o:Obj}{arr:Array Value}{cs:List PV}(h:VI o arr cs)(hn:∀ kvs,cs≠[.mp kvs]):∃ T,o=.cells arr T (0,0):=by
 rcases h with h|⟨kvs,_,_,e,_⟩
 . exact h.1
 . exact absurd e (hn kvs)
def evLoad (P:Program)(t:TypeId)(σ:List (List PV)):PV->Option (Bool×PV)
 |.ptr b o =>
  match FY P t,IK P t,DP σ[b]? with
  |some true,some n,some cs=>some (decide (o+n<=cs.length),.agg (((cs.drop o).take n).map unown))
  |some false,_,some cs=>some (decide (o<cs.length),rdAt b o (cs.getD o .undef))
  |_,_,_=>none
 |.vptr cs o =>
  match FY P t,IK P t with
  |some true,some n=>some (decide (o+n<=cs.length),.agg (((cs.drop o).take n).map unown))
  |some false,_=>some (decide (o<cs.length),unown (cs.getD o .undef))
  |_,_=>none
 |_=>none
def Reads (w:World)(G:Gh)(w':World):Prop:=(∀ b i,G.U b i->w'.cell? ⟨b,i,none⟩=w.cell? ⟨b,i,none⟩)/\∀ b∈G.φ,w'.heap[b]?=w.heap[b]?
def Jt (w:World)(G:Gh)(ob:Option Nat)(w':World):Prop:=(∀ b i,G.U b i->w'.cell? ⟨b,i,none⟩=w.cell? ⟨b,i,none⟩)/\∀ b,ob=some b->∀ k,G.φ[b]?=some k->w'.heap[k]?=w.heap[k]?
theorem Reads.one {w:World}{G:Gh}{w':World}(h:Reads w G w')(ob:Option Nat):Jt w G ob w':=⟨h.1,fun _ _ k hk=>h.2 k (List.mem_of_getElem? hk)⟩
def XC:PV->Option Nat
 |.ptr b _=>some b
 |_=>none
theorem Reads.refl (w:World)(G:Gh):Reads w G w:=⟨fun _ _ _=>rfl,fun _ _=>rfl⟩
def DR (w:World)(G:Gh)(σ:List (List PV)):PV->Value->Prop
 |.sl xs (.view (.cell k j)),v=>∃ cs b,σ[k]?=some cs/\cs[j]?=some (.sl xs .own)/\G.φ[k]?=some b/\w.cell? ⟨b,j,none⟩=some v
 |p,_=>plain p=true
theorem DR.tmp {w:World}{G:Gh}{σ:List (List PV)}{p:PV}{v:Value}(h:DR w G σ p v){st:St}(hs:st.σ=σ)(tm:Nat->Value)(t:Nat):El w G st tm t p v:=by
 subst hs
 unfold DR at h
 split at h
 . exact h
 . exact EG h _ _ _ _
theorem DR.plain {w:World}{G:Gh}{σ:List (List PV)}{p:PV}{v:Value}(h:Vl.plain p=true):DR w G σ p v:=by
 unfold DR
 split
 . simp [Vl.plain] at h
 . exact h
section
variable {w w':World} {G:Gh} {P:Program} {σ:List (List PV)} {p q:PV} {v:Value}
theorem addr_add (b o j:Nat):(⟨b,o,none⟩:Addr).add j=⟨b,o+j,none⟩:=by
 unfold Addr.add;split
 . rename_i h;subst h;rfl
 . rfl
theorem Ic {t:TypeId}{n b o:Nat}(ha:FY P t=some true)(hn:IK P t=some n)(us:List Value)(hl:us.length=n)(hc:∀ j u,us[j]?=some u->w.cell? ⟨b,o+j,none⟩=some u) :
 (Instr.loadAt t (.pointer (some ⟨b,o,none⟩))).run P w=.ok (.agg us.toArray) w:=by
 subst hl
 unfold FY at ha
 unfold IK at hn
 cases hu:P.underlying t with
 |none=>rw [hu] at ha;cases ha
 |some d =>
  rw [hu] at ha
  cases hi:P.info? t with
  |none=>rw [hi] at hn;cases hn
  |some i =>
   rw [hi] at hn
   have h1:(isAgg t).run P w=.ok true w:=by
    simp only [isAgg,Sem.run_bind,run_underlying hu,Result.andThen_ok]
    cases d<;>simp_all
   have h2:(sizeOf t).run P w=.ok us.length w:=by
    simp only [Option.map_some,Option.some.injEq] at hn
    simp [sizeOf,typeInfo,hi,hn]
   have h3:=run_loadCells_list (P:=P) w ⟨b,o,none⟩ us (fun j u hj=>by rw [addr_add];exact hc j u hj)
   simp only [Instr.loadAt,Instr.sureAddr,loadVar,Sem.run_bind,Sem.run_pure,Result.andThen_ok,h1,if_true,h2,h3]
theorem Ib {t:TypeId}{b o:Nat}{u:Value}(ha:FY P t=some false)(hc:w.cell? ⟨b,o,none⟩=some u) :
 (Instr.loadAt t (.pointer (some ⟨b,o,none⟩))).run P w=.ok u w:=by
 unfold FY at ha
 cases hu:P.underlying t with
 |none=>rw [hu] at ha;cases ha
 |some d =>
  rw [hu] at ha
  have h1:(isAgg t).run P w=.ok false w:=by
   simp only [isAgg,Sem.run_bind,run_underlying hu,Result.andThen_ok]
   cases d<;>simp_all
  simp only [Instr.loadAt,Instr.sureAddr,loadVar,Sem.run_bind,Sem.run_pure,Result.andThen_ok,h1,Bool.false_eq_true,if_false,run_load,hc]
theorem Mn {n:Nat}{f:Nat->Value}:∀ (j:Nat) (u:Value),((List.range n).map f)[j]?=some u->j<n/\u=f j:=by
 intro j u h
 rw [List.getElem?_map] at h
 by_cases hj:j<n
 . rw [List.getElem?_range hj] at h;exact⟨hj,by simpa using h.symm⟩
 . rw [List.getElem?_eq_none (by simpa using hj)] at h;cases h
theorem Qv {cs:List PV}{o n:Nat}{f:Nat->Value}{φ':List Nat}(hb:o+n<=cs.length)(hv:∀ j (h:o+j<cs.length),j<n->V w G.U φ' cs[o+j] (f j)/\(f j).oneCell'=true) :
 V w G.U φ' (.agg (((cs.drop o).take n).map unown)) (.agg ((List.range n).map f).toArray):=by
 refine .agg _ _ _ (by simp;omega) (fun i hi=>?_) (fun i hi=>?_)
 . have hin:i<n:=by simp at hi;omega
   have e1:(((cs.drop o).take n).map unown)[i]=unown (cs[o+i]'(by omega)):=by simp
   have e2:(((List.range n).map f).toArray.getD i Go.undef)=f i:=by simp [hin]
   rw [e1,e2];exact CW (hv i (by omega) hin).1
 . have hin:i<n:=by simpa using hi
   have e2:(((List.range n).map f).toArray.getD i Go.undef)=f i:=by simp [hin]
   rw [e2];exact (hv i (by omega) hin).2
theorem Mh {t:TypeId}(hs:AW w G σ)(hv:V w G.U G.φ q v)(he:evLoad P t σ q=some (true,p)) :
 ∃ u,V w G.U G.φ p u/\DR w G σ p u/\∀ w',Jt w G (XC q) w'->(Instr.loadAt t v).run P w'=.ok u w':=by
 cases q with
 |ptr b o =>
  cases hv with
  |ptr _ _ _ k hk =>
  simp only [evLoad] at he
  split at he
  . rename_i n cs ha hn hcs
    simp only [Option.some.injEq,Prod.mk.injEq,decide_eq_true_eq] at he
    obtain⟨hb,rfl⟩:=he
    obtain⟨hcs,hnm⟩:=Gu hcs
    obtain⟨o',arr,hh,⟨hlay,hsz⟩,hcell⟩:=(hs.blk b k cs hk hcs).blk
    obtain⟨T,rfl⟩:=hlay.cells hnm
    have hcl:∀ j,j<cs.length->w.cell? ⟨k,j,none⟩=some (arr.getD j Go.undef):=by
     intro j hj
     simp only [World.cell?,hh]
     simp [hsz,hj]
    refine⟨.agg ((List.range n).map fun j=>arr.getD (o+j) Go.undef).toArray,?_,DR.plain rfl,fun w' hr=>Ic ha hn _ (by simp) fun j u hj=>?_⟩
    . refine Qv hb fun j hj _=>?_
      obtain⟨u,hu,h1,h2,_⟩:=hcell (o+j) cs[o+j] (List.getElem?_eq_getElem hj)
      have e:arr.getD (o+j) Go.undef=u:=by simp [hu]
      rw [e];exact⟨h2,h1⟩
    . obtain⟨hj,rfl⟩:=Mn j u hj
      rw [World.cell?_of_block (w:=w) (hr.2 b rfl k hk)]
      exact hcl (o+j) (by omega)
  . rename_i n cs ha hcs
    simp only [Option.some.injEq,Prod.mk.injEq,decide_eq_true_eq] at he
    obtain⟨hb,rfl⟩:=he
    obtain⟨hcs,hnm⟩:=Gu hcs
    obtain⟨o',arr,hh,⟨hlay,hsz⟩,hcell⟩:=(hs.blk b k cs hk hcs).blk
    obtain⟨T,rfl⟩:=hlay.cells hnm
    obtain⟨u,hu,h1,h2,h3⟩:=hcell o cs[o] (List.getElem?_eq_getElem hb)
    have hcu:w.cell? ⟨k,o,none⟩=some u:=by simp only [World.cell?,hh];simpa using hu
    refine⟨u,?_,?_,fun w' hr=>Ib ha ((World.cell?_of_block (w:=w) (hr.2 b rfl k hk)).trans hcu)⟩
    . have e:cs.getD o .undef=cs[o]:=by simp [hb]
      rw [e]
      unfold rdAt
      split
      . rename_i xs hx;rw [hx] at h2;exact h2.tag (by simp) (by simp)
      . exact CW h2
    . have e:cs.getD o .undef=cs[o]:=by simp [hb]
      rw [e]
      unfold rdAt
      split
      . rename_i xs hx
        exact⟨cs,k,hcs,by rw [List.getElem?_eq_getElem hb,hx],hk,hcu⟩
      . exact DR.plain (BZ _)
  . cases he
 |vptr cs o =>
  cases hv with
  |vptr _ _ b o' _ us hU hw h1 hvs =>
  simp only [evLoad] at he
  have hvs':∀ j (h:j<cs.length),V w G.U G.φ cs[j] (us j):=fun j h=>(hvs j h).mono (fun _ _ h=>⟨h,rfl⟩) (fun k x hk=>by simp at hk)
  split at he
  . rename_i n ha hn
    simp only [Option.some.injEq,Prod.mk.injEq,decide_eq_true_eq] at he
    obtain⟨hb,rfl⟩:=he
    refine⟨.agg ((List.range n).map fun j=>us (o+j)).toArray,?_,DR.plain rfl,fun w' hr=>Ic ha hn _ (by simp) fun j u hj=>?_⟩
    . exact Qv hb fun j hj _=>⟨hvs' _ hj,h1 _ hj⟩
    . obtain⟨hj,rfl⟩:=Mn j u hj
      rw [Nat.add_assoc,hr.1 _ _ (hU _ (by omega))]
      exact hw _ (by omega)
  . rename_i ha
    simp only [Option.some.injEq,Prod.mk.injEq,decide_eq_true_eq] at he
    obtain⟨hb,rfl⟩:=he
    have e:cs.getD o .undef=cs[o]:=by simp [hb]
    refine⟨us o,by rw [e];exact CW (hvs' o hb),DR.plain (BZ _),fun w' hr=>Ib ha ((hr.1 _ _ (hU _ hb)).trans (hw _ hb))⟩
  . cases he
 |_=>simp [evLoad] at he
end
end Go.Vl
namespace Go.Vl
open Go Go.RowKit
def evFieldAddr (P:Program)(s f:Nat):PV->Option (Bool×PV)
 |.ptr b o=>match Jn P s f with|some (off,n,_)=>some (decide (0<n),.ptr b (o+off))|none=>none
 |.vptr cs o=>match Jn P s f with|some (off,n,_)=>some (decide (0<n),.vptr cs (o+off))|none=>none
 |_=>none
def evIndexAddr (P:Program)(t:TypeId):PV->PV->Option (Bool×PV)
 |.sl xs _,.lit (.int _ i)=>match QA P t with|some (n,_)=>some (decide (0<=i/\i<(xs.length:Int)/\(xs.getD i.toNat []).length=n),.vptr (xs.getD i.toNat []) 0)|none=>none
 |.ptr b o,.lit (.int _ i)=>match W7 P t with|some (m,k,_)=>some (decide (0<=i/\i<(m:Int)),.ptr b (o+i.toNat*k))|none=>none
 |.vptr cs o,.lit (.int _ i)=>match W7 P t with|some (m,k,_)=>some (decide (0<=i/\i<(m:Int)),.vptr cs (o+i.toNat*k))|none=>none
 |_,_=>none
def partP (cs:List PV)(off n:Nat)(a:Bool):PV:=if a then .agg (((cs.drop off).take n).map unown) else unown (cs.getD off .undef)
def evIndex (P:Program)(t:TypeId):PV->PV->Option (Bool×PV)
 |.lit (.string s),.lit (.int _ i)=>if Gg P t then some (decide (0<=i/\i<(s.size:Int)),.lit (.int .u8 (s.data.toList.getD i.toNat 0).toNat)) else none
 |.agg cs,.lit (.int _ i)=>match W7 P t with
  |some (m,k,a)=>some (decide (0<=i/\i<(m:Int)/\i.toNat*k+k<=cs.length/\0<k),partP cs (i.toNat*k) k a)
  |none=>none
 |_,_=>none
def evField (P:Program)(s f:Nat):PV->Option (Bool×PV)
 |.agg cs=>match Jn P s f with|some (off,n,a)=>some (decide (off+n<=cs.length/\0<n),partP cs off n a)|none=>none
 |_=>none
def bdP (d:Int):Option PV->Option Int
 |none=>some d
 |some (.lit (.int _ i))=>some i
 |_=>none
def evSlice (P:Program)(t:TypeId)(x:PV)(lo hi mx:Option PV):Option (Bool×PV) :=
 match x with
 |.lit (.string s) =>
  match bdP 0 lo,bdP s.size hi,mx with
  |some l,some h,none=>if Gg P t then some (decide (0<=l/\l<=h/\h<=(s.size:Int)),.lit (.string (s.extract l.toNat h.toNat))) else none
  |_,_,_=>none
 |.sl xs _ =>
  match bdP 0 lo,bdP xs.length hi,QA P t with
  |some l,some h,some (n,_) =>
   match mx with
   |none=>some (decide (0<=l/\l<=h/\h<=(xs.length:Int))&&xs.all (fun x=>x.length == n),.sl ((xs.take h.toNat).drop l.toNat) .shared)
   |some (.lit (.int _ m))=>if hi.isSome then some (decide (0<=l/\l<=h/\h<=(xs.length:Int)/\m=h)&&xs.all (fun x=>x.length == n),.sl ((xs.take h.toNat).drop l.toNat) .full) else none
   |_=>none
  |_,_,_=>none
 |_=>none
def evLen (P:Program)(t:TypeId):PV->Option (Bool×PV)
 |.lit (.string s)=>if Gg P t then some (true,.lit (.int .i64 s.size)) else none
 |.sl xs _=>match QA P t with|some _=>some (true,.lit (.int .i64 xs.length))|none=>none
 |_=>none
section
variable {w w':World} {G:Gh} {P:Program} {p q r:PV} {v u:Value}
theorem Nk {s f off n:Nat}{a:Bool}(h:Jn P s f=some (off,n,a)):∃ fs fd,P.underlying s=some (.struct fs)/\fs[f]?=some fd/\fd.offset=off/\IK P fd.type=some n/\FY P fd.type=some a:=by
 unfold Jn at h
 split at h
 . rename_i fs hu
   split at h
   . rename_i fd hf
     split at h
     . rename_i n' a' hn ha
       simp only [Option.some.injEq,Prod.mk.injEq] at h
       obtain⟨rfl,rfl,rfl⟩:=h
       exact⟨fs,fd,hu,hf,rfl,hn,ha⟩
     . cases h
   . cases h
 . cases h
theorem Eg {t n:Nat}(h:IK P t=some n)(w:World):(sizeOf t).run P w=.ok n w:=by
 unfold IK at h
 cases hi:P.info? t with
 |none=>rw [hi] at h;cases h
 |some i=>rw [hi] at h;simp only [Option.map_some,Option.some.injEq] at h;simp [sizeOf,typeInfo,hi,h]
theorem Mu {t:Nat}{a:Bool}(h:FY P t=some a)(w:World):(isAgg t).run P w=.ok a w:=by
 unfold FY at h
 cases hu:P.underlying t with
 |none=>rw [hu] at h;cases h
 |some d =>
  rw [hu] at h
  simp only [Option.map_some,Option.some.injEq] at h
  simp only [isAgg,Sem.run_bind,run_underlying hu,Result.andThen_ok]
  cases d<;>simp_all
theorem KQ {s f:Nat}(hv:V w G.U G.φ q v)(he:evFieldAddr P s f q=some (true,p)):∃ u,V w G.U G.φ p u/\plain p=true/\∀ w',(Instr.fieldAt s v f).run P w'=.ok u w':=by
 have key:∀ {b o off n a},Jn P s f=some (off,n,a)->0<n->∀ w',(Instr.fieldAt s (.pointer (some ⟨b,o,none⟩)) f).run P w'=.ok (.pointer (some ⟨b,o+off,none⟩)) w':=by
  intro b o off n a hf hn w'
  obtain⟨fs,fd,h1,h2,h3,h4,_⟩:=Nk hf
  simp only [Instr.fieldAt,Sem.run_bind,run_underlying h1,Result.andThen_ok,h2,Instr.sureAddr,Sem.run_pure,fieldPlace,Eg h4,Sem.run_ite]
  rw [if_neg (by omega)]
  simp only [Result.andThen_ok,h3,addr_add]
 cases q with
 |ptr b o =>
  cases hv with
  |ptr _ _ _ k hk =>
  simp only [evFieldAddr] at he
  split at he
  . rename_i off n a hf
    simp only [Option.some.injEq,Prod.mk.injEq,decide_eq_true_eq] at he
    obtain⟨hn,rfl⟩:=he
    exact⟨_,.ptr _ _ _ _ hk,rfl,key hf hn⟩
  . cases he
 |vptr cs o =>
  cases hv with
  |vptr _ _ b o' _ us hU hw h1 hvs =>
  simp only [evFieldAddr] at he
  split at he
  . rename_i off n a hf
    simp only [Option.some.injEq,Prod.mk.injEq,decide_eq_true_eq] at he
    obtain⟨hn,rfl⟩:=he
    refine⟨_,?_,rfl,key hf hn⟩
    have:=V.vptr (φ:=G.φ) cs b o' (o+off) us hU hw h1 hvs
    rw [<- Nat.add_assoc] at this;exact this
  . cases he
 |_=>simp [evFieldAddr] at he
theorem HM {t n m:Nat}(h:QA P t=some (n,m)):∃ e i,P.underlying t=some (.slice e)/\P.info? e=some i/\i.size=n/\i.bytes=m:=by
 unfold QA at h
 split at h
 . rename_i e hu
   cases hi:P.info? e with
   |none=>rw [hi] at h;cases h
   |some i=>rw [hi] at h;simp only [Option.map_some,Option.some.injEq,Prod.mk.injEq] at h;exact⟨e,i,hu,hi,h.1,h.2⟩
 . cases h
theorem Ms {t m k:Nat}{a:Bool}(h:W7 P t=some (m,k,a)):∃ e,P.underlying t=some (.array m e)/\IK P e=some k/\FY P e=some a:=by
 unfold W7 at h
 split at h
 . rename_i m' e hu
   split at h
   . rename_i k' a' hk ha
     simp only [Option.some.injEq,Prod.mk.injEq] at h
     obtain⟨rfl,rfl,rfl⟩:=h
     exact⟨e,hu,hk,ha⟩
   . cases h
 . cases h
theorem KO {t:TypeId}(hv:V w G.U G.φ q v)(hu:V w G.U G.φ r u)(he:evIndexAddr P t q r=some (true,p)):∃ x,V w G.U G.φ p x/\plain p=true/\∀ w',(Instr.indexAt t v u).run P w'=.ok x w':=by
 unfold evIndexAddr at he
 split at he
 . rename_i xs g k i
   cases hu with
   |lit _ _ =>
   split at he
   . rename_i n m hs
     simp only [Option.some.injEq,Prod.mk.injEq,decide_eq_true_eq] at he
     obtain⟨⟨h0,hl,hlen⟩,rfl⟩:=he
     obtain⟨e,inf,h1,h2,h3,h4⟩:=HM hs
     have hsz:IK P e=some n:=by simp [IK,h2,h3]
     cases hv with
     |nil=>simp at hl;omega
     |emp=>simp at hl;omega
     |sl _ _ _ b o sz cap us hc hm hss hU hw h1' hvs hf hg =>
     have hi:i.toNat<xs.length:=by omega
     have e1:xs.getD i.toNat []=xs[i.toNat]:=by simp [hi]
     rw [e1] at hlen ⊢
     have hsn:sz=n:=by rw [<- hss i.toNat hi,hlen]
     subst hsn
     have hl':=hss i.toNat hi
     refine⟨.pointer (some ⟨b,(o+i.toNat*sz)+0,none⟩),?_,rfl,fun w'=>?_⟩
     . refine .vptr _ _ b (o+i.toNat*sz) 0 (fun j=>us i.toNat j) (fun j hj=>hU _ _ hi (by omega)) (fun j hj=>hw _ _ hi (by omega)) (fun j hj=>h1' _ _ hi (by omega)) (fun j hj=>hvs _ hi j hj)
     . simp only [Instr.indexAt,asIntOf,Sem.run_bind,Sem.run_pure,Result.andThen_ok,run_underlying h1,Sem.run_ite]
       rw [if_pos ⟨h0,hl⟩]
       simp only [Eg hsz,Result.andThen_ok,addr_add,Nat.add_zero]
   . cases he
 . rename_i b o k i
   cases hu with
   |lit _ _ =>
   cases hv with
   |ptr _ _ _ k' hk =>
   split at he
   . rename_i m n a ha
     simp only [Option.some.injEq,Prod.mk.injEq,decide_eq_true_eq] at he
     obtain⟨⟨h0,hl⟩,rfl⟩:=he
     obtain⟨e,h1,h2,_⟩:=Ms ha
     refine⟨_,.ptr _ _ _ _ hk,rfl,fun w'=>?_⟩
     simp only [Instr.indexAt,asIntOf,Sem.run_bind,Sem.run_pure,Result.andThen_ok,run_underlying h1,Sem.run_ite,Instr.sureAddr]
     rw [if_pos ⟨h0,hl⟩]
     simp only [Eg h2,Result.andThen_ok,addr_add]
   . cases he
 . rename_i cs o k i
   cases hu with
   |lit _ _ =>
   cases hv with
   |vptr _ _ b o' _ us hU hw h1' hvs =>
   split at he
   . rename_i m n a ha
     simp only [Option.some.injEq,Prod.mk.injEq,decide_eq_true_eq] at he
     obtain⟨⟨h0,hl⟩,rfl⟩:=he
     obtain⟨e,h1,h2,_⟩:=Ms ha
     refine⟨.pointer (some ⟨b,o'+(o+i.toNat*n),none⟩),.vptr _ _ _ _ _ us hU hw h1' hvs,rfl,fun w'=>?_⟩
     simp only [Instr.indexAt,asIntOf,Sem.run_bind,Sem.run_pure,Result.andThen_ok,run_underlying h1,Sem.run_ite,Instr.sureAddr]
     rw [if_pos ⟨h0,hl⟩]
     simp only [Eg h2,Result.andThen_ok,addr_add,Nat.add_assoc]
   . cases he
 . cases he
theorem OV {e off n:Nat}{a:Bool}{cs:List PV}{arr:Array Value}(hn:IK P e=some n)(ha:FY P e=some a)(hv:V w G.U G.φ (.agg cs) (.agg arr))(hb:off+n<=cs.length)(h0:0<n) :
 ∃ x,V w G.U G.φ (partP cs off n a) x/\plain (partP cs off n a)=true/\∀ w',(part e arr off).run P w'=.ok x w':=by
 cases hv with
 |agg _ _ _ hsz h h1 =>
 cases a with
 |true =>
  refine⟨.agg (arr.extract off (off+n)),?_,rfl,fun w'=>?_⟩
  . have h2:=Qv (w:=w) (G:=G) (φ':=G.φ) (cs:=cs) (o:=off) (n:=n) (f:=fun j=>arr.getD (off+j) Go.undef) hb (fun j hj _=>⟨h _ hj,h1 _ (by omega)⟩)
    have e1:((List.range n).map fun j=>arr.getD (off+j) Go.undef).toArray=arr.extract off (off+n):=by
     apply Array.ext
     . simp;omega
     . intro i h3 h4
       simp at h3
       have:off+i<arr.size:=by omega
       simp [this]
    rw [e1] at h2
    exact h2
  . simp only [part,Sem.run_bind,Mu ha,Result.andThen_ok,if_true,Eg hn,Sem.run_pure]
 |false =>
  have ho:off<arr.size:=by omega
  refine⟨arr[off],?_,BZ _,fun w'=>?_⟩
  . have h2:=h off (by omega)
    have e1:cs.getD off .undef=cs[off]'(by omega):=by simp [List.getD,List.getElem?_eq_getElem (show off<cs.length by omega)]
    have e2:arr.getD off Go.undef=arr[off]:=by simp [ho]
    rw [e2] at h2
    show V w G.U G.φ (unown (cs.getD off .undef)) _
    rw [e1];exact CW h2
  . simp only [part,Sem.run_bind,Mu ha,Result.andThen_ok,Bool.false_eq_true,if_false,Array.getElem?_eq_getElem ho,Sem.run_pure]
theorem Pw {t:TypeId}(hv:V w G.U G.φ q v)(hu:V w G.U G.φ r u)(he:evIndex P t q r=some (true,p)):∃ x,V w G.U G.φ p x/\plain p=true/\∀ w',(Instr.index t v u).run P w'=.ok x w':=by
 unfold evIndex at he
 split at he
 . rename_i s k i
   cases hu with
   |lit _ _ =>
   cases hv with
   |lit _ _ =>
   split at he
   . rename_i hs
     simp only [Option.some.injEq,Prod.mk.injEq,decide_eq_true_eq] at he
     obtain⟨⟨h0,hl⟩,rfl⟩:=he
     have h1:P.underlying t=some .string:=by unfold Gg at hs;split at hs<;>simp_all
     refine⟨_,.lit _ _,rfl,fun w'=>?_⟩
     have hi:i.toNat<s.size:=by omega
     have hi2:i.toNat<s.data.toList.length:=by simpa using hi
     simp only [Instr.index,asIntOf,Sem.run_bind,Sem.run_pure,Result.andThen_ok,run_underlying h1,h0,if_true]
     rw [getElem?_pos s i.toNat hi]
     simp only [Sem.run_pure]
     have e:s.data.toList.getD i.toNat 0=s[i.toNat]:=by
      rw [List.getD,List.getElem?_eq_getElem hi2];rfl
     rw [e]
   . cases he
 . rename_i cs k i
   cases hu with
   |lit _ _ =>
   split at he
   . rename_i m n a ha
     simp only [Option.some.injEq,Prod.mk.injEq,decide_eq_true_eq] at he
     obtain⟨⟨h0,hl,hb,hn⟩,rfl⟩:=he
     obtain⟨e,h1,h2,h3⟩:=Ms ha
     cases hv with
     |agg _ _ arr hsz h h1' =>
     obtain⟨x,hx1,hx2,hx3⟩:=OV (e:=e) h2 h3 (.agg _ _ arr hsz h h1') hb hn
     refine⟨x,hx1,hx2,fun w'=>?_⟩
     simp only [Instr.index,asIntOf,Sem.run_bind,Sem.run_pure,Result.andThen_ok,run_underlying h1,Sem.run_ite]
     rw [if_pos ⟨h0,hl⟩]
     simp only [Eg h2,Result.andThen_ok,hx3]
   . cases he
 . cases he
theorem Px {s f:Nat}(hv:V w G.U G.φ q v)(he:evField P s f q=some (true,p)):∃ x,V w G.U G.φ p x/\plain p=true/\∀ w',(Instr.field s v f).run P w'=.ok x w':=by
 unfold evField at he
 split at he
 . rename_i cs
   split at he
   . rename_i off n a hf
     simp only [Option.some.injEq,Prod.mk.injEq,decide_eq_true_eq] at he
     obtain⟨⟨hb,hn⟩,rfl⟩:=he
     obtain⟨fs,fd,h1,h2,h3,h4,h5⟩:=Nk hf
     cases hv with
     |agg _ _ arr hsz h h1' =>
     obtain⟨x,hx1,hx2,hx3⟩:=OV (e:=fd.type) h4 h5 (.agg _ _ arr hsz h h1') hb hn
     refine⟨x,hx1,hx2,fun w'=>?_⟩
     simp only [Instr.field,Sem.run_bind,run_underlying h1,Result.andThen_ok,h2,asAgg,Sem.run_pure,h3,hx3]
   . cases he
 . cases he
theorem Sb {t ty:TypeId}(hv:V w G.U G.φ q v)(he:evLen P t q=some (true,p)):∃ x,V w G.U G.φ p x/\plain p=true/\∀ w',(Builtin.len_ #[t] ty #[v]).run P w'=.ok x w':=by
 unfold evLen at he
 split at he
 . rename_i s
   cases hv with
   |lit _ _ =>
   split at he
   . rename_i hs
     have h1:P.underlying t=some .string:=by unfold Gg at hs;split at hs<;>simp_all
     simp only [Option.some.injEq,Prod.mk.injEq,true_and] at he
     subst he
     exact⟨_,.lit _ _,rfl,fun w'=>by simp [Builtin.len_,run_underlying h1,goInt]⟩
   . cases he
 . rename_i xs g
   split at he
   . rename_i n hs
     obtain⟨e,i,h1,_⟩:=HM (n:=n.1) (m:=n.2) hs
     simp only [Option.some.injEq,Prod.mk.injEq,true_and] at he
     subst he
     cases hv with
     |nil=>exact⟨_,.lit _ _,rfl,fun w'=>by simp [Builtin.len_,run_underlying h1,goInt]⟩
     |emp=>exact⟨_,.lit _ _,rfl,fun w'=>by simp [Builtin.len_,run_underlying h1,goInt]⟩
     |sl _ _ _ b o sz cap us hc hm hss hU hw h1' hvs hf hg=>exact⟨_,.lit _ _,rfl,fun w'=>by simp [Builtin.len_,run_underlying h1,goInt]⟩
   . cases he
 . cases he
end
end Go.Vl
namespace Go.Vl
open Go Go.RowKit
section
variable {w w':World} {G:Gh} {P:Program} {p q r:PV} {v u:Value} {U:Nat->Nat->Prop} {φ:List Nat}
def VO (w:World)(U:Nat->Nat->Prop)(φ:List Nat):Option PV->Option Value->Prop
 |none,none=>True
 |some p,some v=>V w U φ p v
 |_,_=>False
theorem JK {d l:Int}{lo:Option PV}{lov:Option Value}(h:VO w U φ lo lov)(hb:bdP d lo=some l):(lov=none/\lo=none/\l=d)∨∃ k,lov=some (.int k l)/\lo.isSome=true:=by
 unfold bdP at hb
 split at hb
 . cases lov with
   |none=>exact .inl ⟨rfl,rfl,by simpa using hb.symm⟩
   |some v=>exact h.elim
 . rename_i k i
   cases lov with
   |none=>exact h.elim
   |some v =>
    have hv:V w U φ (.lit (.int k i)) v:=h
    cases hv with
    |lit _ _ =>
    obtain rfl:i=l:=by simpa using hb
    exact .inr ⟨k,rfl,rfl⟩
 . cases hb
theorem Ei {isS:Bool}{len cap:Nat}{lo hi:Option PV}{lov hiv:Option Value}{l h:Int}(hlo:VO w U φ lo lov)(hhi:VO w U φ hi hiv)(hl:bdP 0 lo=some l)(hh:bdP len hi=some h)(h0:0<=l)(h1:l<=h)(h2:h<=len)(hc:len<=cap)(w':World) :
 (Instr.sliceBounds isS len cap lov hiv none).run P w'=.ok (l.toNat,h.toNat,cap) w':=by
 rcases JK hlo hl with⟨rfl,_,rfl⟩|⟨k,rfl,_⟩<;>rcases JK hhi hh with⟨rfl,_,rfl⟩|⟨k',rfl,_⟩
 . simp [Instr.sliceBounds]
 . simp only [Instr.sliceBounds,Sem.run_bind,Sem.run_pure,Result.andThen_ok]
   rw [run_sliceBound _ _ _ _ _ (by omega) (by omega)]
   simp
 . simp only [Instr.sliceBounds,Sem.run_bind,Sem.run_pure,Result.andThen_ok]
   rw [run_sliceBound _ _ _ _ _ (by omega) (by omega)]
   simp
 . simp only [Instr.sliceBounds,Sem.run_bind,Sem.run_pure,Result.andThen_ok]
   rw [run_sliceBound _ _ _ _ _ (by omega) (by omega)]
   simp only [Result.andThen_ok]
   rw [run_sliceBound _ _ _ _ _ (by omega) (by omega)]
   simp
theorem Fm {len cap:Nat}{lo hi:Option PV}{lov hiv:Option Value}{l h m:Int}{k:IntKind}(hlo:VO w U φ lo lov)(hhi:VO w U φ hi hiv)(hl:bdP 0 lo=some l)(hh:bdP len hi=some h)(hs:hi.isSome=true)(h0:0<=l)(h1:l<=h)(h2:h<=m)(hc:m<=cap)(w':World) :
 (Instr.sliceBounds true len cap lov hiv (some (.int k m))).run P w'=.ok (l.toNat,h.toNat,m.toNat) w':=by
 rcases JK hhi hh with⟨_,rfl,_⟩|⟨k',rfl,_⟩
 . cases hs
 . rcases JK hlo hl with⟨rfl,_,rfl⟩|⟨k2,rfl,_⟩
   . simp only [Instr.sliceBounds,Sem.run_bind]
     rw [run_sliceBound _ _ _ _ _ (by omega) (by omega)]
     simp only [Result.andThen_ok]
     rw [run_sliceBound _ _ _ _ _ (by omega) (by omega)]
     simp
   . simp only [Instr.sliceBounds,Sem.run_bind]
     rw [run_sliceBound _ _ _ _ _ (by omega) (by omega)]
     simp only [Result.andThen_ok]
     rw [run_sliceBound _ _ _ _ _ (by omega) (by omega)]
     simp only [Result.andThen_ok]
     rw [run_sliceBound _ _ _ _ _ (by omega) (by omega)]
     simp
theorem VF {xs:List (List PV)}{g':Grow}{b o sz cap:Nat}{us:Nat->Nat->Value}{l h m:Nat}(hlh:l<=h)(hh:h<=xs.length)(hm:h<=m)(hm2:m<=cap)(hcap:cap<=9223372036854775807)
 (hs:∀ i (h:i<xs.length),(xs[i]).length=sz) (hU:∀ i j,i<xs.length->j<sz->G.U b (o+i*sz+j))
 (hw:∀ i j,i<xs.length->j<sz->w.cell? ⟨b,o+i*sz+j,none⟩=some (us i j)) (h1:∀ i j,i<xs.length->j<sz->(us i j).oneCell'=true)
 (hv:∀ i (h:i<xs.length) j (hj:j<(xs[i]).length),V w G.U [] xs[i][j] (us i j)) (hf:g'=.full->m=h) (hn:g'≠.nil) :
 V w G.U φ (.sl ((xs.take h).drop l) g') (.slice (some (if m=l then ⟨b,o,none⟩ else ⟨b,o+l*sz,none⟩)) (h-l) (m-l)):=by
 have hlen:((xs.take h).drop l).length=h-l:=by simp;omega
 have hget:∀ i (hi:i<((xs.take h).drop l).length),((xs.take h).drop l)[i]=xs[l+i]'(by omega):=by
  intro i hi;simp
 by_cases e:m=l
 . have e2:h=l:=by omega
   have e3:(xs.take h).drop l=[]:=List.eq_nil_of_length_eq_zero (by omega)
   rw [if_pos e]
   have:=V.sl (w:=w) (U:=G.U) φ ((xs.take h).drop l) g' b o sz (m-l) (fun _ _=>Go.undef) (by omega) (by omega) (fun i hi=>by omega) (fun i j hi=>by omega) (fun i j hi=>by omega) (fun i j hi=>by omega) (fun i hi=>by omega) (fun e4=>by have:=hf e4;omega) hn
   rw [hlen] at this;exact this
 . rw [if_neg e]
   have:=V.sl (w:=w) (U:=G.U) φ ((xs.take h).drop l) g' b (o+l*sz) sz (m-l) (fun i j=>us (l+i) j) (by omega) (by omega) (fun i hi=>by rw [hget i hi];exact hs _ _)
    (fun i j hi hj=>by have:=hU (l+i) j (by omega) hj;rw [Nat.add_mul,<- Nat.add_assoc] at this;exact this)
    (fun i j hi hj=>by have:=hw (l+i) j (by omega) hj;rw [Nat.add_mul,<- Nat.add_assoc] at this;exact this)
    (fun i j hi hj=>h1 (l+i) j (by omega) hj) (fun i hi j hj=>by
     have e1:=hget i hi
     have hj':j<(xs[l+i]'(by omega)).length:=by rw [<- e1];exact hj
     have:=hv (l+i) (by omega) j hj'
     simp only [e1];exact this) (fun e4=>by have:=hf e4;omega) hn
   rw [hlen] at this;exact this
theorem Pv {t:TypeId}{lo hi mx:Option PV}{lov hiv mxv:Option Value}(hv:V w G.U G.φ q v)(hlo:VO w G.U G.φ lo lov)(hhi:VO w G.U G.φ hi hiv)(hmx:VO w G.U G.φ mx mxv)(he:evSlice P t q lo hi mx=some (true,p)) :
 ∃ x,V w G.U G.φ p x/\plain p=true/\∀ w',(Instr.sliceAt t v lov hiv mxv).run P w'=.ok x w':=by
 unfold evSlice at he
 split at he
 . rename_i s
   cases hv with
   |lit _ _ =>
   split at he
   . rename_i l h hl hh
     have hmv:mxv=none:=by
      cases mxv with
      |none=>rfl
      |some z=>exact hmx.elim
     subst hmv
     split at he
     . rename_i hs
       have ht:P.underlying t=some .string:=by unfold Gg at hs;split at hs<;>simp_all
       simp only [Option.some.injEq,Prod.mk.injEq,decide_eq_true_eq] at he
       obtain⟨⟨h0,h1,h2⟩,rfl⟩:=he
       refine⟨_,.lit _ _,rfl,fun w'=>?_⟩
       have hb:=Ei (P:=P) (isS:=false) (len:=s.size) (cap:=s.size) hlo hhi hl hh h0 h1 h2 (Nat.le_refl _) w'
       simp [Instr.sliceAt,run_underlying ht,Instr.slice,hb]
     . cases he
   . cases he
 . rename_i xs g
   split at he
   . rename_i l h n nb hl hh hs
     obtain⟨e,i,ht,hi1,hi2,_⟩:=HM (n:=n) (m:=nb) hs
     have hsz:IK P e=some n:=by simp [IK,hi1,hi2]
     have szOf:∀ {sz:Nat},xs≠[]->(∀ i (h:i<xs.length),(xs[i]).length=sz)->(xs.all fun x=>x.length == n)=true->sz=n:=by
      intro sz hne h1 h2
      have h0:0<xs.length:=List.length_pos_iff.2 hne
      rw [List.all_eq_true] at h2
      have:=h2 xs[0] (List.getElem_mem h0)
      rw [<- h1 0 h0];simpa using this
     have run:∀ {A:Option Addr} {cap m:Nat} {mxv:Option Value},(∀ w',(Instr.sliceBounds true xs.length cap lov hiv mxv).run P w'=.ok (l.toNat,h.toNat,m) w') ->
      ∀ w',(Instr.sliceAt t (.slice A xs.length cap) lov hiv mxv).run P w'=.ok (.slice (if m=l.toNat then A else A.map (·.add (l.toNat*n))) (h.toNat-l.toNat) (m-l.toNat)) w':=by
      intro A cap m mxv hb w'
      simp only [Instr.sliceAt,Sem.run_bind,run_underlying ht,Result.andThen_ok,Instr.slice,hb w',Eg hsz,Sem.run_pure]
     split at he
     . have hmv:mxv=none:=by
        cases mxv with
        |none=>rfl
        |some z=>exact hmx.elim
       subst hmv
       simp only [Option.some.injEq,Prod.mk.injEq,Bool.and_eq_true,decide_eq_true_eq] at he
       obtain⟨⟨⟨h0,h1,h2⟩,hall⟩,rfl⟩:=he
       cases hv with
       |nil =>
        simp only [List.length_nil,Int.natCast_zero] at h2
        have e1:(([]:List (List PV)).take h.toNat).drop l.toNat=[]:=by simp
        rw [e1]
        refine⟨_,?_,rfl,run (A:=none) (cap:=0) (m:=0) fun w'=>Ei (isS:=true) (len:=0) (cap:=0) hlo hhi hl hh h0 h1 h2 (Nat.le_refl _) w'⟩
        have e3:h.toNat=0:=by omega
        have e4:l.toNat=0:=by omega
        rw [e3,e4]
        exact .nil _ _
       |emp _ _ b o k hg =>
        simp only [List.length_nil,Int.natCast_zero] at h2
        have e1:(([]:List (List PV)).take h.toNat).drop l.toNat=[]:=by simp
        rw [e1]
        refine⟨_,?_,rfl,run (A:=some ⟨b,o,some k⟩) (cap:=0) (m:=0) fun w'=>Ei (isS:=true) (len:=0) (cap:=0) hlo hhi hl hh h0 h1 h2 (Nat.le_refl _) w'⟩
        have e3:h.toNat=0:=by omega
        have e4:l.toNat=0:=by omega
        rw [e3,e4]
        exact .emp _ _ _ _ _ (by simp)
       |sl _ _ _ b o sz cap us hc hm hss hU hw h1' hvs hf hg =>
        refine⟨_,?_,rfl,run fun w'=>Ei (isS:=true) hlo hhi hl hh h0 h1 h2 hc w'⟩
        have hsub:=VF (w:=w) (G:=G) (φ:=G.φ) (g':=.shared) (us:=us) (l:=l.toNat) (h:=h.toNat) (m:=cap) (by omega) (by omega) (by omega) (Nat.le_refl _) hm hss hU hw h1' hvs (by simp) (by simp)
        by_cases hne:xs=[]
        . have e3:h.toNat=0:=by rw [hne] at h2;simp at h2;omega
          have e4:l.toNat=0:=by omega
          rw [e3,e4] at hsub ⊢
          simpa [addr_add] using hsub
        . have:=szOf hne hss hall
          subst this
          have e2:(if cap=l.toNat then some (⟨b,o,none⟩:Addr) else (some (⟨b,o,none⟩:Addr)).map (·.add (l.toNat*sz)))=some (if cap=l.toNat then ⟨b,o,none⟩ else ⟨b,o+l.toNat*sz,none⟩):=by
           split<;>simp [addr_add]
          rw [e2];exact hsub
     . rename_i k m
       split at he
       . rename_i hsome
         simp only [Option.some.injEq,Prod.mk.injEq,Bool.and_eq_true,decide_eq_true_eq] at he
         obtain⟨⟨⟨h0,h1,h2,rfl⟩,hall⟩,rfl⟩:=he
         obtain⟨rfl⟩:mxv=some (.int k m):=by
          cases mxv with
          |none=>exact hmx.elim
          |some z=>cases (show V w G.U G.φ (.lit (.int k m)) z from hmx) with|lit _ _=>rfl
         cases hv with
         |nil =>
          simp only [List.length_nil,Int.natCast_zero] at h2
          have e1:(([]:List (List PV)).take m.toNat).drop l.toNat=[]:=by simp
          rw [e1]
          refine⟨_,?_,rfl,run (A:=none) (cap:=0) (m:=m.toNat) fun w'=>Fm (len:=0) (cap:=0) hlo hhi hl hh hsome h0 h1 (Int.le_refl _) h2 w'⟩
          have e3:m.toNat=0:=by omega
          have e4:l.toNat=0:=by omega
          rw [e3,e4]
          exact .nil _ _
         |emp _ _ b o k hg =>
          simp only [List.length_nil,Int.natCast_zero] at h2
          have e1:(([]:List (List PV)).take m.toNat).drop l.toNat=[]:=by simp
          rw [e1]
          refine⟨_,?_,rfl,run (A:=some ⟨b,o,some k⟩) (cap:=0) (m:=m.toNat) fun w'=>Fm (len:=0) (cap:=0) hlo hhi hl hh hsome h0 h1 (Int.le_refl _) h2 w'⟩
          have e3:m.toNat=0:=by omega
          have e4:l.toNat=0:=by omega
          rw [e3,e4]
          exact .emp _ _ _ _ _ (by simp)
         |sl _ _ _ b o sz cap us hc hm hss hU hw h1' hvs hf hg =>
          refine⟨_,?_,rfl,run fun w'=>Fm hlo hhi hl hh hsome h0 h1 (Int.le_refl _) (by omega) w'⟩
          have hsub:=VF (w:=w) (G:=G) (φ:=G.φ) (g':=.full) (us:=us) (l:=l.toNat) (h:=m.toNat) (m:=m.toNat) (by omega) (by omega) (by omega) (by omega) hm hss hU hw h1' hvs (fun _=>rfl) (by simp)
          by_cases hne:xs=[]
          . have e3:m.toNat=0:=by rw [hne] at h2;simp at h2;omega
            have e4:l.toNat=0:=by omega
            rw [e3,e4] at hsub ⊢
            simpa [addr_add] using hsub
          . have:=szOf hne hss hall
            subst this
            have e2:(if m.toNat=l.toNat then some (⟨b,o,none⟩:Addr) else (some (⟨b,o,none⟩:Addr)).map (·.add (l.toNat*sz)))=some (if m.toNat=l.toNat then ⟨b,o,none⟩ else ⟨b,o+l.toNat*sz,none⟩):=by
             split<;>simp [addr_add]
            rw [e2];exact hsub
       . cases he
     . cases he
   . cases he
 . cases he
end
end Go.Vl
namespace Go.Vl
open Go Go.RowKit
structure D0 (w:World) (G:Gh) (cs:List PV) (arr:Array Value):Prop where
 size:arr.size=cs.length
 v:∀ i (h:i<cs.length),V w G.U G.φ cs[i] (arr.getD i Go.undef)/\(arr.getD i Go.undef).oneCell'=true
def isAggP:PV->Bool
 |.agg _=>true
 |_=>false
def partV:PV->PV
 |.sl xs .nil=>.sl xs .nil
 |p=>unown p
def fillP (place:Nat->Option (Nat×Nat))(cells:List PV):List (Nat×PV)->Option (List PV)
 | []=>some cells
 |(i,p)::rest =>
  match place i with
  |none=>none
  |some (off,size)=>if (cellsP p).length=size/\off+size<=cells.length/\(isCell p||isAggP p)=true then fillP place (cells.take off++(cellsP p).map partV++cells.drop (off+size)) rest else none
def G9 (P:Program)(t:TypeId):Option (List PV) :=
 match (P.info? t).bind (·.zero) with
 |some z=>if z.cells.toList.all Value.oneCell' then some (z.cells.toList.map absC) else none
 |none=>none
def FP (P:Program)(t:TypeId):Option (Nat->Option (Nat×Nat)) :=
 match P.info? t,P.underlying t with
 |some _,some (.array _ e)=>(P.info? e).map fun ie i=>some (i*ie.size,ie.size)
 |some _,some (.struct fields)=>(fields.toList.mapM (fun f=>(P.info? f.type).map fun i=>(f.offset,i.size))).map fun places i=>places.toArray[i]?
 |_,_=>none
def JN (P:Program)(t i:Nat):Option (Nat×Nat):=(FP P t).bind fun f=>f i
def evBuild (P:Program)(t:TypeId)(parts:List (Nat×PV)):Option (Bool×PV) :=
 match G9 P t,(FP P t).isSome with
 |some z,true=>(fillP (JN P t) z parts).map fun cs=>(true,.agg cs)
 |_,_=>none
section
variable {w w':World} {G:Gh} {P:Program} {p q:PV} {v u:Value}
theorem Nj (arr:Array Value)(off:Nat):∀ (l:List Value) (k:Nat) (cells:Array Value),(∀ j x,l[j]?=some x->arr.getD (k+j) Go.undef=x) ->
 ((l.zipIdx k).foldl (fun cs (x:Value×Nat)=>cs.setIfInBounds (off+x.2) x.1) cells).size=cells.size /\
 ∀ i,((l.zipIdx k).foldl (fun cs (x:Value×Nat)=>cs.setIfInBounds (off+x.2) x.1) cells).getD i Go.undef=if off+k<=i/\i<off+k+l.length/\i<cells.size then arr.getD (i-off) Go.undef else cells.getD i Go.undef
 | [],k,cells,_=>⟨rfl,fun i=>by simp;intro h1 h2;omega⟩
 |x::l,k,cells,h=>by
  have ih:=Nj arr off l (k+1) (cells.setIfInBounds (off+k) x) (fun j y hj=>by have:=h (j+1) y (by simpa using hj);rw [<- this];congr 1;omega)
  rw [List.zipIdx_cons,List.foldl_cons]
  refine⟨by rw [ih.1];simp,fun i=>?_⟩
  rw [ih.2 i]
  have hx:=h 0 x rfl
  simp only [Array.size_setIfInBounds,List.length_cons]
  by_cases hi:i=off+k
  . subst hi
    rw [if_neg (by omega)]
    by_cases hs:off+k<cells.size
    . rw [if_pos (by omega)]
      have:off+k-off=k:=by omega
      rw [this]
      simp only [Nat.add_zero] at hx
      rw [hx];simp [hs]
    . rw [if_neg (by omega)]
      simp [hs]
  . have e1:(cells.setIfInBounds (off+k) x).getD i Go.undef=cells.getD i Go.undef:=by
     simp only [Array.getD_eq_getD_getElem?]
     rw [Array.getElem?_setIfInBounds_ne (fun e=>hi e.symm)]
    rw [e1]
    by_cases hc:off+(k+1)<=i/\i<off+(k+1)+l.length/\i<cells.size
    . rw [if_pos hc,if_pos (by omega)]
    . rw [if_neg hc,if_neg (by omega)]
theorem Vi {φ:List Nat}{U:Nat->Nat->Prop}(h:V w U φ p v):V w U φ (partV p) v:=by
 unfold partV
 split
 . exact h
 . exact CW h
theorem Mg {place:Nat->Option (Nat×Nat)}:∀ (parts:List (Nat×PV)) (vals:List (Nat×Value)) (cs:List PV) (arr:Array Value) (out:List PV),D0 w G cs arr->parts.length=vals.length ->
 (∀ (j:Nat) (p:Nat×PV) (v:Nat×Value),parts[j]?=some p->vals[j]?=some v->p.1=v.1/\V w G.U G.φ p.2 v.2)->fillP place cs parts=some out->∃ arr',Instr.fill place arr vals=some arr'/\D0 w G out arr'
 | [],[],cs,arr,out,hc,_,_,hf=>by
  simp only [fillP,Option.some.injEq] at hf
  subst hf
  exact⟨arr,rfl,hc⟩
 | [],_::_,_,_,_,_,hl,_,_=>by simp at hl
 |_::_,[],_,_,_,_,hl,_,_=>by simp at hl
 |(i,p)::parts,(i',v)::vals,cs,arr,out,hc,hl,hv,hf=>by
  obtain⟨rfl,hpv⟩:=hv 0 _ _ rfl rfl
  simp only at hpv
  simp only [fillP] at hf
  cases hp:place i with
  |none=>rw [hp] at hf;cases hf
  |some x =>
   obtain⟨off,size⟩:=x
   rw [hp] at hf
   simp only at hf
   split at hf
   . rename_i hcond
     obtain⟨h1,h2,h3⟩:=hcond
     have hcells:=hpv.cells (by
      rw [Bool.or_eq_true] at h3
      rcases h3 with h3|h3
      . exact .inl h3
      . cases p with
        |agg cs=>exact .inr ⟨cs,rfl⟩
        |_=>simp [isAggP] at h3)
     have hset:=Nj v.cells off v.cells.toList 0 arr (fun j x hj=>by
      simp only [Nat.zero_add]
      have:v.cells[j]?=some x:=by simpa using hj
      simp [this])
     have hcs:D0 w G (cs.take off++(cellsP p).map partV++cs.drop (off+size)) (v.cells.zipIdx.foldl (fun cs (x:Value×Nat)=>cs.setIfInBounds (off+x.2) x.1) arr):=by
      have e0:v.cells.zipIdx.foldl (fun cs (x:Value×Nat)=>cs.setIfInBounds (off+x.2) x.1) arr=(v.cells.toList.zipIdx 0).foldl (fun cs (x:Value×Nat)=>cs.setIfInBounds (off+x.2) x.1) arr:=by
       rw [<- Array.foldl_toList,Array.toList_zipIdx]
      rw [e0]
      have hsz:=hc.size
      have hlen:(cs.take off).length=off:=by simp;omega
      refine⟨by rw [hset.1];simp;omega,fun i hi=>?_⟩
      rw [hset.2 i]
      simp only [Array.length_toList,Nat.add_zero]
      have hi':i<cs.length:=by simp at hi;omega
      by_cases hin:off<=i/\i<off+v.cells.size/\i<arr.size
      . rw [if_pos hin]
        have e1:(cs.take off++(cellsP p).map partV++cs.drop (off+size))[i]=partV ((cellsP p)[i-off]'(by rw [<- hcells.1];omega)):=by
         rw [List.getElem_append_left (by simp;rw [hcells.1] at hin;omega),List.getElem_append_right (by omega)]
         simp [hlen]
        rw [e1]
        have:=hcells.2 (i-off) (by rw [<- hcells.1];omega)
        exact⟨Vi this.1,this.2⟩
      . rw [if_neg hin]
        have hv':=hc.v i hi'
        by_cases hlo:i<off
        . have e1:(cs.take off++(cellsP p).map partV++cs.drop (off+size))[i]=cs[i]:=by
           rw [List.getElem_append_left (by simp;omega),List.getElem_append_left (by omega)]
           simp
          rw [e1];exact hv'
        . have e1:(cs.take off++(cellsP p).map partV++cs.drop (off+size))[i]=cs[i]:=by
           rw [hcells.1,h1] at hin
           rw [List.getElem_append_right (by simp;omega)]
           simp only [List.length_append,hlen,List.length_map,List.getElem_drop,h1]
           congr 1;omega
          rw [e1];exact hv'
     obtain⟨arr',ha,hc'⟩:=Mg parts vals _ _ out hcs (by simpa using hl) (fun j p v h1 h2=>hv (j+1) p v (by simpa using h1) (by simpa using h2)) hf
     refine⟨arr',?_,hc'⟩
     unfold Instr.fill
     rw [hp]
     simp only
     rw [if_neg]
     . exact ha
     . rw [hcells.1,h1,hc.size];simp;omega
   . cases hf
theorem Lc {t:TypeId}{z:List PV}(h:G9 P t=some z):∃ zv,(P.info? t).bind (·.zero)=some zv/\D0 w G z zv.cells:=by
 unfold G9 at h
 split at h
 . rename_i zv hz
   split at h
   . rename_i hall
     simp only [Option.some.injEq] at h
     subst h
     refine⟨zv,hz,by simp,fun i hi=>?_⟩
     have hi':i<zv.cells.size:=by simpa using hi
     have e1:zv.cells.getD i Go.undef=zv.cells[i]:=by simp [hi']
     have e2:(zv.cells.toList.map absC)[i]=absC zv.cells[i]:=by simp
     rw [e1,e2]
     rw [List.all_eq_true] at hall
     exact⟨Js _,hall _ (by simp)⟩
   . cases h
 . cases h
theorem Lb {t:TypeId}{zv:Value}(h:(P.info? t).bind (·.zero)=some zv)(w:World):(zeroValue t).run P w=.ok zv w:=by
 cases hi:P.info? t with
 |none=>rw [hi] at h;cases h
 |some i =>
  rw [hi] at h
  have h':i.zero=some zv:=h
  simp [zeroValue,typeInfo,hi,h']
theorem Py {t:TypeId}{parts:List (Nat×PV)}{vals:Array (Nat×Value)}(hl:parts.length=vals.size)(hv:∀ (j:Nat) (p:Nat×PV) (v:Nat×Value),parts[j]?=some p->vals[j]?=some v->p.1=v.1/\V w G.U G.φ p.2 v.2)(he:evBuild P t parts=some (true,p)) :
 ∃ x,V w G.U G.φ p x/\plain p=true/\∀ w',(Instr.build t vals).run P w'=.ok x w':=by
 unfold evBuild at he
 split at he
 . rename_i z hz hp
   cases hf:fillP (JN P t) z parts with
   |none=>rw [hf] at he;cases he
   |some cs =>
    rw [hf] at he
    simp only [Option.map_some,Option.some.injEq,Prod.mk.injEq,true_and] at he
    subst he
    obtain⟨zv,hz1,hz2⟩:=Lc (w:=w) (G:=G) hz
    obtain⟨arr',ha,hc⟩:=Mg parts vals.toList z zv.cells cs hz2 (by simpa using hl) (fun j p v h1 h2=>hv j p v h1 (by simpa using h2)) hf
    refine⟨.agg arr',.agg _ _ _ hc.size (fun i hi=>(hc.v i hi).1) (fun i hi=>(hc.v i (by rw [<- hc.size];exact hi)).2),rfl,fun w'=>run_build w' t vals arr' ?_⟩
    obtain⟨pl,hpl⟩:=Option.isSome_iff_exists.1 hp
    have e1:JN P t=pl:=by funext i;simp [JN,hpl]
    rw [e1] at ha
    cases hi:P.info? t with
    |none=>rw [hi] at hz1;cases hz1
    |some it =>
     rw [hi] at hz1
     have hz':it.zero=some zv:=hz1
     unfold FP at hpl
     rw [hi] at hpl
     unfold Program.built
     rw [hi]
     cases hu:P.underlying t with
     |none=>rw [hu] at hpl;cases hpl
     |some d =>
      rw [hu] at hpl
      cases d<;>simp only [reduceCtorEq] at hpl
      case array n e =>
       cases hie:P.info? e with
       |none=>rw [hie] at hpl;cases hpl
       |some ie =>
        rw [hie] at hpl
        simp only [Option.map_some,Option.some.injEq] at hpl
        subst hpl
        simp only [hz',hie];exact ha
      case struct fields =>
       cases hm:fields.toList.mapM (fun f=>(P.info? f.type).map fun i=>(f.offset,i.size)) with
       |none=>rw [hm] at hpl;cases hpl
       |some places =>
        rw [hm] at hpl
        simp only [Option.map_some,Option.some.injEq] at hpl
        subst hpl
        simp only [hz',hm];exact ha
 . cases he
end
end Go.Vl
namespace Go.Vl
open Go Go.RowKit
def evUn (op:UnOp):PV->Option (Bool×PV)
 |.lit (.int k n)=>match op with
  |.neg=>some (true,.lit (.int k (k.wrap (0-n))))
  |.xor=>some (true,.lit (.int k (bits .xor k (if k.signed then -1 else k.max) n)))
  |_=>none
 |.lit (.bool b)=>match op with
  |.not=>some (true,.lit (.bool (!b)))
  |_=>none
 |_=>none
def bytesOf:List (List PV)->Option (List Int)
 | []=>some []
 | [.lit (.int .u8 n)]::r=>(bytesOf r).map (n::·)
 |_::_=>none
def X5 (P:Program)(t:TypeId):Bool:=match P.underlying t with|some (.slice e)=>(match P.underlying e with|some (.int .u8)=>true|_=>false)|_=>false
def evConv (P:Program)(s d:TypeId):PV->Option (Bool×PV)
 |.lit (.int _ n)=>match Wl P d with|some k=>some ((P.underlying s).isSome,.lit (.int k (k.wrap n)))|none=>none
 |.lit (.string b)=>if Gg P s&&Gg P d then some (true,.lit (.string b)) else none
 |.sl xs _=>if X5 P s&&Gg P d then (bytesOf xs).map fun l=>(true,.lit (.string ⟨(l.map fun n=>UInt8.ofNat n.toNat).toArray⟩)) else none
 |_=>none
def minI (isMax:Bool)(a b:Int):Int:=if isMax then (if b > a then b else a) else (if b<a then b else a)
def evMin (isMax:Bool):List PV->Option (Bool×PV)
 | [.lit (.int k a),.lit (.int _ b)]=>some (true,.lit (.int k (minI isMax a b)))
 | [.lit (.int k a),.lit (.int _ b),.lit (.int _ c)]=>some (true,.lit (.int k (minI isMax (minI isMax a b) c)))
 |_=>none
def Mr (P:Program)(t:TypeId):Option Nat:=match P.underlying t with|some (.int _)=>some 1|some .string=>some 2|some .bool=>some 3|_=>none
def Mb (P:Program):Nat->List Field->Option (List Nat)
 |_,[]=>some []
 |i,f::fs=>if f.name≠ "_"/\f.offset=i then (match Mr P f.type,Mb P (i+1) fs with|some k,some ks=>some (k::ks)|_,_=>none) else none
def VA (P:Program)(t:TypeId):Option (List Nat) :=
 match P.underlying t with
 |some (.struct fs)=>if P.stoodInHeld t=false/\P.eqGuardType P.depth t=false then Mb P 0 fs.toList else none
 |_=>none
def eqC:Nat->PV->PV->Option Bool
 |1,.lit (.int k a),.lit (.int k' b)=>if k=k' then some (a == b) else none
 |2,.lit (.string a),.lit (.string b)=>some (decide (a=b))
 |3,.lit (.bool a),.lit (.bool b)=>some (a == b)
 |_,_,_=>none
def eqCs:List Nat->List PV->List PV->Option Bool
 | [],[],[]=>some true
 |k::ks,x::xs,y::ys=>match eqC k x y,eqCs ks xs ys with
  |some a,some b=>some (a&&b)
  |_,_=>none
 |_,_,_=>none
def isK:Operand->Bool
 |.const _=>true
 |_=>false
def RS (P:Program)(t:TypeId):Bool:=match P.underlying t with|some (.interface _)=>true|_=>false
def WX (P:Program)(t:TypeId):Bool:=match P.underlying t with|some (.pointer _)=>true|_=>false
def Uy (P:Program)(t:TypeId):Bool:=match P.underlying t with|some (.slice _)=>true|_=>false
def eqNe (op:BinOp)(b:Bool):Option (Bool×PV) :=
 match op with
 |.eql=>some (true,.lit (.bool b))
 |.neq=>some (true,.lit (.bool (!b)))
 |_=>none
def evNil (P:Program)(op:BinOp)(t:TypeId)(k:Bool):PV->PV->Option (Bool×PV)
 |.ifc,.lit .nilIface=>if RS P t then eqNe op false else none
 |.lit (.iface _ _),.lit .nilIface=>if RS P t then eqNe op false else none
 |.lit .nilIface,.lit .nilIface=>if RS P t&&k then eqNe op true else none
 |.ptr _ _,.lit (.pointer none)=>if WX P t then eqNe op false else none
 |.vptr _ _,.lit (.pointer none)=>if WX P t then eqNe op false else none
 |.lit (.pointer none),.lit (.pointer none)=>if WX P t then eqNe op true else none
 |.sl (_::_) _,.sl [] .nil=>if Uy P t then eqNe op false else none
 |.sl [] .nil,.sl [] .nil=>if Uy P t then eqNe op true else none
 |_,_=>none
def evEq (P:Program)(op:BinOp)(t:TypeId)(k:Bool):PV->PV->Option (Bool×PV)
 |.agg xs,.agg ys =>
  match VA P t with
  |some ks=>(match eqCs ks xs ys with
   |some b=>(match op with
    |.eql=>some (true,.lit (.bool b))
    |.neq=>some (true,.lit (.bool (!b)))
    |_=>none)
   |none=>none)
  |none=>none
 |x,y=>evNil P op t k x y
section
variable {w w':World} {G:Gh} {P:Program} {p q r:PV} {v u:Value}
theorem TQ {op:UnOp}(hv:V w G.U G.φ q v)(he:evUn op q=some (true,p)):∃ x,V w G.U G.φ p x/\plain p=true/\∀ w',(Op.unary op v).run P w'=.ok x w':=by
 unfold evUn at he
 split at he
 . cases hv with
   |lit _ _ =>
   split at he<;>simp only [Option.some.injEq,Prod.mk.injEq,true_and,reduceCtorEq] at he
   . subst he;exact⟨_,.lit _ _,rfl,fun w'=>by simp [Op.unary,Op.intArith]⟩
   . subst he;exact⟨_,.lit _ _,rfl,fun w'=>by simp [Op.unary,intBits_xor]⟩
 . cases hv with
   |lit _ _ =>
   split at he<;>simp only [Option.some.injEq,Prod.mk.injEq,true_and,reduceCtorEq] at he
   subst he;exact⟨_,.lit _ _,rfl,fun w'=>by simp [Op.unary]⟩
 . cases he
theorem KG:∀ {xs:List (List PV)} {l:List Int},bytesOf xs=some l->l.length=xs.length/\∀ i (h:i<xs.length) (h2:i<l.length),xs[i]=[.lit (.int .u8 l[i])]
 | [],l,h=>by simp only [bytesOf,Option.some.injEq] at h;subst h;exact⟨rfl,fun i h=>by simp at h⟩
 |x::r,l,h=>by
  unfold bytesOf at h
  split at h
  . rename_i heq;cases heq
  . rename_i n r' heq
    cases heq
    cases hb:bytesOf r with
    |none=>rw [hb] at h;cases h
    |some l' =>
     rw [hb] at h
     simp only [Option.map_some,Option.some.injEq] at h
     subst h
     obtain⟨h1,h2⟩:=KG hb
     refine⟨by simp [h1],fun i hi hi2=>?_⟩
     cases i with
     |zero=>rfl
     |succ i=>simpa using h2 i (by simpa using hi) (by simpa using hi2)
  . cases h
theorem Ma:∀ (l:List Int) (s:ByteArray),l.foldl (fun r n=>r.push (UInt8.ofNat n.toNat)) s=⟨s.data++(l.map fun n=>UInt8.ofNat n.toNat).toArray⟩
 | [],s=>by cases s;simp
 |n::l,s=>by
  rw [List.foldl_cons,Ma l]
  cases s with
  |mk d=>simp [ByteArray.push]
theorem Qk {s d:TypeId}(hv:V w G.U G.φ q v)(he:evConv P s d q=some (true,p)):∃ x,V w G.U G.φ p x/\plain p=true/\∀ w',Jt w G none w'->(convert s d v).run P w'=.ok x w':=by
 unfold evConv at he
 split at he
 . cases hv with
   |lit _ _ =>
   split at he
   . rename_i k hk
     simp only [Option.some.injEq,Prod.mk.injEq] at he
     obtain⟨hs,rfl⟩:=he
     have hd:P.underlying d=some (.int k):=by unfold Wl at hk;split at hk<;>simp_all
     obtain⟨ds,hds⟩:=Option.isSome_iff_exists.1 hs
     exact⟨_,.lit _ _,rfl,fun w' _=>by simp [convert,run_underlying hds,run_underlying hd,Conv.intToInt]⟩
   . cases he
 . cases hv with
   |lit _ _ =>
   split at he
   . rename_i hc
     simp only [Bool.and_eq_true] at hc
     have h1:P.underlying s=some .string:=by have:=hc.1;unfold Gg at this;split at this<;>simp_all
     have h2:P.underlying d=some .string:=by have:=hc.2;unfold Gg at this;split at this<;>simp_all
     simp only [Option.some.injEq,Prod.mk.injEq,true_and] at he
     subst he
     exact⟨_,.lit _ _,rfl,fun w' _=>by simp [convert,run_underlying h1,run_underlying h2]⟩
   . cases he
 . rename_i xs g
   split at he
   . rename_i hc
     simp only [Bool.and_eq_true] at hc
     have h2:P.underlying d=some .string:=by have:=hc.2;unfold Gg at this;split at this<;>simp_all
     obtain⟨e,h1,h3⟩:∃ e,P.underlying s=some (.slice e)/\P.underlying e=some (.int .u8):=by
      have:=hc.1;unfold X5 at this
      split at this
      . rename_i e he'
        split at this
        . rename_i he2;exact⟨e,he',he2⟩
        . cases this
      . cases this
     cases hb:bytesOf xs with
     |none=>rw [hb] at he;cases he
     |some l =>
      rw [hb] at he
      simp only [Option.map_some,Option.some.injEq,Prod.mk.injEq,true_and] at he
      subst he
      obtain⟨hl,hg⟩:=KG hb
      refine⟨_,.lit _ _,rfl,fun w' hr=>?_⟩
      cases hv with
      |nil =>
       simp only [bytesOf,Option.some.injEq] at hb
       subst hb
       rw [run_convert_bytes_string (P:=P) w' s d e none 0 0 h1 h3 h2]
       rfl
      |emp _ _ b o k hg =>
       simp only [bytesOf,Option.some.injEq] at hb
       subst hb
       rw [run_convert_bytes_string (P:=P) w' s d e (some ⟨b,o,some k⟩) 0 0 h1 h3 h2]
       rfl
      |sl _ _ _ b o sz cap us hc' hm hss hU hw h1' hvs hf hg' =>
       have hus:∀ i (h:i<xs.length),sz=1/\us i 0=.int .u8 (l[i]'(by omega)):=by
        intro i hi
        have h4:=hss i hi
        have h5:=hg i hi (by omega)
        rw [h5] at h4
        refine⟨by simpa using h4.symm,?_⟩
        have h6:=hvs i hi 0 (by rw [h5];simp)
        simp only [h5,List.getElem_cons_zero] at h6
        revert h6
        generalize us i 0=z
        intro h6
        cases h6 with
        |lit _ _=>rfl
       have hload:(loadCells ⟨b,o,none⟩ xs.length).run P w'=.ok (l.map (Value.int .u8)).toArray w':=by
        have:=run_loadCells_list (P:=P) w' ⟨b,o,none⟩ (l.map (Value.int .u8)) (fun j u hj=>by
         rw [addr_add]
         rw [List.getElem?_map] at hj
         cases hlj:l[j]? with
         |none=>rw [hlj] at hj;cases hj
         |some n =>
          rw [hlj] at hj
          simp only [Option.map_some,Option.some.injEq] at hj
          have hjl:=(List.getElem?_eq_some_iff.1 hlj).1
          have hj2:j<xs.length:=by omega
          obtain⟨e1,e2⟩:=hus j hj2
          have h7:=hw j 0 hj2 (by omega)
          have h8:=hr.1 _ _ (hU j 0 hj2 (by omega))
          rw [e1] at h7 h8
          simp only [Nat.mul_one,Nat.add_zero] at h7 h8
          rw [h8,h7,e2,<- hj]
          congr 2
          rw [List.getElem?_eq_getElem hjl] at hlj
          exact (Ac hlj))
        rw [List.length_map,hl] at this;exact this
       rw [run_convert_bytes_string (P:=P) w' s d e _ _ _ h1 h3 h2,run_bytesToString (P:=P) w' ⟨b,o,none⟩ xs.length cap l hload,Ma]
       simp
   . cases he
 . cases he
theorem Ns {isMax:Bool}{ps:List PV}{vs:Array Value}{ts:Array TypeId}{ty:TypeId}(hl:ps.length=vs.size)(hv:∀ (j:Nat) (p:PV) (v:Value),ps[j]?=some p->vs[j]?=some v->V w G.U G.φ p v)(he:evMin isMax ps=some (true,p)) :
 ∃ x,V w G.U G.φ p x/\plain p=true/\∀ w',(if isMax then Builtin.max_ ts ty vs else Builtin.min_ ts ty vs).run P w'=.ok x w':=by
 obtain⟨vl⟩:=vs
 unfold evMin at he
 split at he
 . rename_i k a k' b
   simp only [Option.some.injEq,Prod.mk.injEq,true_and] at he
   subst he
   match vl,hl,hv with
   | [x,y],_,hv =>
    have h0:=hv 0 _ _ rfl rfl
    have h1:=hv 1 _ _ rfl rfl
    cases h0 with
    |lit _ _ =>
    cases h1 with
    |lit _ _ =>
    refine⟨_,.lit _ _,rfl,fun w'=>?_⟩
    cases isMax
    . exact run_min_int2 w' ts ty k k' a b
    . exact run_max_int2 w' ts ty k k' a b
 . rename_i k a k' b k'' c
   simp only [Option.some.injEq,Prod.mk.injEq,true_and] at he
   subst he
   match vl,hl,hv with
   | [x,y,z],_,hv =>
    have h0:=hv 0 _ _ rfl rfl
    have h1:=hv 1 _ _ rfl rfl
    have h2:=hv 2 _ _ rfl rfl
    cases h0 with
    |lit _ _ =>
    cases h1 with
    |lit _ _ =>
    cases h2 with
    |lit _ _ =>
    refine⟨_,.lit _ _,rfl,fun w'=>?_⟩
    cases isMax
    . simp [Builtin.min_,Builtin.min2,minI]
    . simp [Builtin.max_,Builtin.max2,minI]
 . cases he
theorem UO {t d k:Nat}{x y:PV}{a b:Value}{c:Bool}(ht:Mr P t=some k)(hx:V w G.U G.φ x a)(hy:V w G.U G.φ y b)(he:eqC k x y=some c)(w':World):(Op.equalIn (d+1) t a b).run P w'=.ok c w':=by
 unfold Mr at ht
 unfold eqC at he
 split at he
 . rename_i k1 a1 k2 b1
   cases hx with
   |lit _ _ =>
   cases hy with
   |lit _ _ =>
   split at he
   . rename_i hk
     subst hk
     split at ht<;>simp_all
     rename_i kk hu
     rw [run_equalIn_int w' d t k1 kk a1 b1 hu,<- he]
   . cases he
 . rename_i a1 b1
   cases hx with
   |lit _ _ =>
   cases hy with
   |lit _ _ =>
   split at ht<;>simp_all
   rename_i hu
   rw [run_equalIn_string w' d t a1 b1 hu,JI,<- he]
 . rename_i a1 b1
   cases hx with
   |lit _ _ =>
   cases hy with
   |lit _ _ =>
   split at ht<;>simp_all
   rename_i hu
   rw [run_equalIn_bool' w' d t a1 b1 hu,<- he]
 . cases he
theorem Mq {t k:Nat}{arr:Array Value}{i:Nat}(ht:Mr P t=some k)(hi:i<arr.size)(w':World):(part t arr i).run P w'=.ok (arr.getD i Go.undef) w':=by
 have ha:FY P t=some false:=by
  unfold Mr at ht;unfold FY
  split at ht<;>simp_all
 simp only [part,Sem.run_bind,Mu ha,Result.andThen_ok,Bool.false_eq_true,if_false,Array.getElem?_eq_getElem hi,Sem.run_pure]
 simp [hi]
theorem JH {xs ys:List PV}{as bs:Array Value}(ha:D0 w G xs as)(hb:D0 w G ys bs)(d:Nat)(w':World):∀ (fs:List Field) (i:Nat) (ks:List Nat) (c:Bool),Mb P i fs=some ks->eqCs ks (xs.drop i) (ys.drop i)=some c ->
 (Op.eqFields (d+1) as bs fs).run P w'=.ok c w'
 | [],i,ks,c,hf,he=>by
  simp only [Mb,Option.some.injEq] at hf
  subst hf
  unfold eqCs at he
  split at he<;>simp_all
  simp [Op.eqFields]
 |f::fs,i,ks,c,hf,he=>by
  simp only [Mb] at hf
  split at hf
  . rename_i hn
    split at hf
    . rename_i k ks' hk hks
      simp only [Option.some.injEq] at hf
      subst hf
      by_cases hxi:i<xs.length
      . by_cases hyi:i<ys.length
        . rw [List.drop_eq_getElem_cons hxi,List.drop_eq_getElem_cons hyi] at he
          simp only [eqCs] at he
          split at he
          . rename_i a b h1 h2
            simp only [Option.some.injEq] at he
            have e1:=UO (P:=P) (d:=d) hk (ha.v i hxi).1 (hb.v i hyi).1 h1 w'
            have e2:=JH ha hb d w' fs (i+1) ks' b hks h2
            have hsx:=ha.size
            have hsy:=hb.size
            unfold Op.eqFields
            rw [if_pos hn.1]
            simp only [Sem.run_bind,hn.2,Mq hk (show i<as.size by omega),Mq hk (show i<bs.size by omega),Result.andThen_ok,e1]
            cases a
            . simp at he;simp [he]
            . simp at he;simp [e2,he]
          . cases he
        . rw [List.drop_eq_nil_of_le (by omega:ys.length<=i)] at he
          unfold eqCs at he;first|cases he|(split at he<;>simp_all)
      . rw [List.drop_eq_nil_of_le (by omega:xs.length<=i)] at he
        unfold eqCs at he;first|cases he|(split at he<;>simp_all)
    . cases hf
  . cases hf
theorem GM {t:TypeId}(h:RS P t=true):P.underlying t=some (.interface (P.methodsAt t)):=by
 unfold RS at h
 split at h
 . rename_i ms e;unfold Program.methodsAt;rw [e]
 . cases h
theorem I2 {t:TypeId}(h:WX P t=true):P.underlying t=some (.pointer (P.pointee t)):=by
 unfold WX at h
 split at h
 . rename_i ms e;unfold Program.pointee;rw [e]
 . cases h
theorem Ff {op:BinOp}{b:Bool}{t:TypeId}{x y:Value}{xo yo:Operand}(he:eqNe op b=some (true,p))(hg:∀ w',(eqGuard op t xo yo x y).run P w'=.ok () w')
 (h1:∀ w',(binOp .eql t x y).run P w'=.ok (.bool b) w') (h2:∀ w',(binOp .neq t x y).run P w'=.ok (.bool (!b)) w') :
 ∃ z,V w G.U G.φ p z/\plain p=true/\∀ w',(do eqGuard op t xo yo x y;binOp op t x y:Sem Value).run P w'=.ok z w':=by
 unfold eqNe at he
 split at he<;>simp only [Option.some.injEq,Prod.mk.injEq,true_and,reduceCtorEq] at he
 . subst he;exact⟨_,.lit _ _,rfl,fun w'=>by simp only [Sem.run_bind,hg,Result.andThen_ok,h1]⟩
 . subst he;exact⟨_,.lit _ _,rfl,fun w'=>by simp only [Sem.run_bind,hg,Result.andThen_ok,h2]⟩
theorem Uz {x:List PV}{xs:List (List PV)}{g:Grow}(h:V w G.U G.φ (.sl (x::xs) g) v):∃ a n c,v=.slice (some a) n c:=by
 cases h with
 |sl=>exact⟨_,_,_,rfl⟩
theorem Sa {op:BinOp}{t:TypeId}{k:Bool}(xo yo:Operand)(hk:k=true->isK xo=true∨isK yo=true)(hv:V w G.U G.φ q v)(hu:V w G.U G.φ r u)(he:evNil P op t k q r=some (true,p)) :
 ∃ x,V w G.U G.φ p x/\plain p=true/\∀ w',(do eqGuard op t xo yo v u;binOp op t v u:Sem Value).run P w'=.ok x w':=by
 unfold evNil at he
 split at he
 . split at he
   . rename_i ht
     cases hv with
     |ifc _ _ _ =>
     cases hu with
     |lit _ _ =>
     exact Ff he (fun w'=>by rw [eqGuard_at_iface];rfl) (fun w'=>run_eql_held_nil w' t _ _ (GM ht)) (fun w'=>run_neq_held_nil w' t _ _ (GM ht))
   . cases he
 . split at he
   . rename_i ht
     cases hv with
     |lit _ _ =>
     cases hu with
     |lit _ _ =>
     exact Ff he (fun w'=>by rw [eqGuard_at_iface];rfl) (fun w'=>run_eql_held_nil w' t _ _ (GM ht)) (fun w'=>run_neq_held_nil w' t _ _ (GM ht))
   . cases he
 . split at he
   . rename_i ht
     simp only [Bool.and_eq_true] at ht
     cases hv with
     |lit _ _ =>
     cases hu with
     |lit _ _ =>
     refine Ff he (fun w'=>?_) (fun w'=>run_eql_nil_nil w' t (GM ht.1)) (fun w'=>run_neq_nil_nil w' t (GM ht.1))
     rcases hk ht.2 with h|h
     . cases xo with
       |const c=>rw [eqGuard_nil_constL];rfl
       |_=>cases h
     . cases yo with
       |const c=>rw [eqGuard_nil_constR];rfl
       |_=>cases h
   . cases he
 . split at he
   . rename_i ht
     cases hv with
     |ptr _ _ _ _ _ =>
     cases hu with
     |lit _ _ =>
     exact Ff he (fun w'=>by rw [eqGuard_at_pointer];rfl) (fun w'=>run_eql_pointer_nil w' t _ (I2 ht)) (fun w'=>run_neq_pointer_nil w' t _ (I2 ht))
   . cases he
 . split at he
   . rename_i ht
     cases hv with
     |vptr _ _ _ _ _ _ _ _ _ _ =>
     cases hu with
     |lit _ _ =>
     exact Ff he (fun w'=>by rw [eqGuard_at_pointer];rfl) (fun w'=>run_eql_pointer_nil w' t _ (I2 ht)) (fun w'=>run_neq_pointer_nil w' t _ (I2 ht))
   . cases he
 . split at he
   . rename_i ht
     cases hv with
     |lit _ _ =>
     cases hu with
     |lit _ _ =>
     exact Ff he (fun w'=>by rw [eqGuard_at_pointer];rfl) (fun w'=>run_eql_pointer_nil w' t _ (I2 ht)) (fun w'=>run_neq_pointer_nil w' t _ (I2 ht))
   . cases he
 . split at he
   . rename_i ht
     obtain⟨a,n,c,rfl⟩:=Uz hv
     have hu2:u=.slice none 0 0:=by
      cases hu with
      |nil=>rfl
      |emp _ _ _ _ _ hg=>exact absurd rfl hg
      |sl _ _ _ _ _ _ _ _ _ _ _ _ _ _ _ _ hg=>exact absurd rfl hg
     subst hu2
     unfold Uy at ht
     split at ht
     . rename_i e hs
       exact Ff he (fun w'=>by rw [eqGuard_at_slice];rfl) (fun w'=>Lib.run_eql_slice_nil w' t e _ _ _ _ _ hs) (fun w'=>run_neq_slice_nil w' t e _ _ _ hs)
     . cases ht
   . cases he
 . split at he
   . rename_i ht
     have hz:∀ {z:Value},V w G.U G.φ (.sl [] .nil) z->z=.slice none 0 0:=fun {z} h=>by
      cases h with
      |nil=>rfl
      |emp _ _ _ _ _ hg=>exact absurd rfl hg
      |sl _ _ _ _ _ _ _ _ _ _ _ _ _ _ _ _ hg=>exact absurd rfl hg
     have e1:=hz hv
     have e2:=hz hu
     subst e1 e2
     unfold Uy at ht
     split at ht
     . rename_i e hs
       exact Ff he (fun w'=>by rw [eqGuard_at_slice];rfl) (fun w'=>Lib.run_eql_slice_nil w' t e _ _ _ _ _ hs) (fun w'=>run_neq_slice_nil w' t e _ _ _ hs)
     . cases ht
   . cases he
 . cases he
theorem TR {op:BinOp}{t:TypeId}{k:Bool}(xo yo:Operand)(hk:k=true->isK xo=true∨isK yo=true)(hv:V w G.U G.φ q v)(hu:V w G.U G.φ r u)(he:evEq P op t k q r=some (true,p)) :
 ∃ x,V w G.U G.φ p x/\plain p=true/\∀ w',(do eqGuard op t xo yo v u;binOp op t v u:Sem Value).run P w'=.ok x w':=by
 unfold evEq at he
 split at he
 . rename_i xs ys
   split at he
   . rename_i ks hf
     split at he
     . rename_i b hb
       cases hv with
       |agg _ _ as hn h h1 =>
       cases hu with
       |agg _ _ bs hn' h' h1' =>
       have ha:D0 w G xs as:=⟨hn,fun i hi=>⟨h i hi,h1 i (by omega)⟩⟩
       have hbb:D0 w G ys bs:=⟨hn',fun i hi=>⟨h' i hi,h1' i (by omega)⟩⟩
       unfold VA at hf
       split at hf
       . rename_i fs hund
         split at hf
         . rename_i hc
           have hfo:P.fieldsOf t=fs:=by unfold Program.fieldsOf;rw [hund]
           have hrun:∀ w',(Op.equalIn 10000 t (.agg as) (.agg bs)).run P w'=.ok b w':=fun w'=>by
            rw [run_equalIn_agg w' 9999 t as bs (by rw [hfo];exact hund) hc.1,hfo]
            exact JH ha hbb 9998 w' fs.toList 0 ks b hf (by simpa using hb)
           split at he<;>simp only [Option.some.injEq,Prod.mk.injEq,true_and,reduceCtorEq] at he
           . subst he
             refine⟨_,.lit _ _,rfl,fun w'=>?_⟩
             simp only [Sem.run_bind,run_eqGuard_agg w' .eql t xo yo as bs hc.2,Result.andThen_ok,run_eql_struct,hrun]
           . subst he
             refine⟨_,.lit _ _,rfl,fun w'=>?_⟩
             simp only [Sem.run_bind,run_eqGuard_agg w' .neq t xo yo as bs hc.2,Result.andThen_ok,run_neq_struct,hrun]
         . cases hf
       . cases hf
     . cases he
   . cases he
 . exact Sa xo yo hk hv hu he
end
end Go.Vl
namespace Go.Vl
open Go Go.RowKit
def evBuiltin (P:Program)(st:St)(c:Call):Option (Bool×PV) :=
 match c.callee with
 |.builtin .len=>match c.args.toList,c.argTypes.toList with
  | [x],[t]=>evLen P t (opd st x)
  |_,_=>none
 |.builtin .min=>evMin false (c.args.toList.map (opd st))
 |.builtin .max=>evMin true (c.args.toList.map (opd st))
 |_=>none
def evVal (P:Program)(o:Oper)(st:St):Option (Bool×PV) :=
 match o.op with
 |.pick c x y=>match opd st c with
  |.lit (.bool b)=>some (true,unown (opd st (if b then x else y)))
  |_=>none
 |.build t parts=>evBuild P t (parts.toList.map fun x=>(x.1,opd st x.2))
 |.load t x=>evLoad P t st.σ (opd st x)
 |.nilCheck x=>match opd st x with
  |.ptr b o=>some (true,.ptr b o)
  |.vptr cs o=>some (true,.vptr cs o)
  |.fn f caps=>some (true,.fn f caps)
  |_=>none
 |.binOp op t x y _=>match evBin P op t (opd st x) (opd st y) with
  |some r=>some r
  |none=>evEq P op t (isK x||isK y) (opd st x) (opd st y)
 |.unOp op _ x=>evUn op (opd st x)
 |.convert s d x=>evConv P s d (opd st x)
 |.makeFunc (.func f) first caps=>if first.isEmpty then some (true,.fn f (caps.toList.map fun x=>unown (opd st x))) else none
 |.slice t x lo hi mx=>evSlice P t (opd st x) (lo.map (opd st)) (hi.map (opd st)) (mx.map (opd st))
 |.fieldAddr s x f=>evFieldAddr P s f (opd st x)
 |.field s x f=>evField P s f (opd st x)
 |.indexAddr t x i=>evIndexAddr P t (opd st x) (opd st i)
 |.index t x i=>evIndex P t (opd st x) (opd st i)
 |.call c=>evBuiltin P st c
 |_=>none
def LU (o:Oper):Bool:=match o.op with|.load _ _=>true|.convert _ _ _=>true|_=>false
section
variable {w w':World} {G:Gh} {P:Program} {p:PV} {st:St} {a:Act} {o:Oper}
theorem PT (h:H3 w G st fun t=>a.tmps.getD t Go.undef)(x:Option Operand):VO w G.U G.φ (x.map (opd st)) (x.map a.eval):=by
 cases x with
 |none=>trivial
 |some x=>exact Ci h x
def VU (o:Oper)(st:St):Option Nat :=
 match o.op with
 |.load _ x=>XC (opd st x)
 |_=>none
theorem RZ (hs:AW w G st.σ)(h:H3 w G st fun t=>a.tmps.getD t Go.undef)(he:evVal P o st=some (true,p)) :
 ∃ v,V w G.U G.φ p v/\DR w G st.σ p v/\∀ w',(LU o=true->Jt w G (VU o st) w')->(execOp a.eval o).run P w'=.ok (.value v) w':=by
 have fin:∀ {v:Value} {s:Sem Value},V w G.U G.φ p v->Vl.plain p=true->(∀ w',s.run P w'=.ok v w')->(∀ w',(execOp a.eval o).run P w'=(do pure (.value (<- s)):Sem Next).run P w') ->
  ∃ v,V w G.U G.φ p v/\DR w G st.σ p v/\∀ w',(LU o=true->Jt w G (VU o st) w')->(execOp a.eval o).run P w'=.ok (.value v) w':=by
  intro v s h1 h2 h3 h4
  refine⟨v,h1,DR.plain h2,fun w' _=>?_⟩
  rw [h4];simp only [Sem.run_bind,h3 w',Result.andThen_ok,Sem.run_pure]
 unfold evVal at he
 split at he
 . rename_i c x y hop
   split at he
   . rename_i b hc
     have hcv:=Ci (a:=a) h c
     rw [hc] at hcv
     have hce:a.eval c=.bool b:=by
      revert hcv;generalize a.eval c=z;intro hcv
      cases hcv with
      |lit _ _=>rfl
     simp only [Option.some.injEq,Prod.mk.injEq,true_and] at he
     subst he
     refine⟨a.eval (if b then x else y),CW (Ci h _),DR.plain (BZ _),fun w' _=>?_⟩
     unfold execOp
     rw [hop]
     cases b<;>simp [hce,asBool]
   . cases he
 . rename_i t parts hop
   obtain⟨v,h1,h2,h3⟩:=Py (w:=w) (G:=G) (vals:=parts.map fun x=>(x.1,a.eval x.2)) (by simp) (fun j p v hp hv=>by
    simp only [List.getElem?_map,Array.getElem?_toList] at hp
    simp only [Array.getElem?_map] at hv
    cases hj:parts[j]? with
    |none=>rw [hj] at hp;cases hp
    |some z =>
     rw [hj] at hp hv
     simp only [Option.map_some,Option.some.injEq] at hp hv
     subst hp;subst hv
     exact⟨rfl,Ci h _⟩) he
   exact fin h1 h2 h3 (fun w'=>by unfold execOp;rw [hop])
 . rename_i t x hop
   obtain⟨v,h1,h2,h3⟩:=Mh hs (Ci h x) he
   refine⟨v,h1,h2,fun w' hr=>?_⟩
   unfold execOp
   rw [hop]
   simp only [Sem.run_bind,h3 w' (by have:=hr (by simp [LU,hop]);simpa [VU,hop] using this),Result.andThen_ok,Sem.run_pure]
 . rename_i x hop
   have hx:=Ci (a:=a) h x
   split at he<;>simp only [Option.some.injEq,Prod.mk.injEq,true_and,reduceCtorEq] at he
   all_goals
    rename_i hxe
    subst he
    rw [hxe] at hx
    refine⟨a.eval x,hx,DR.plain rfl,fun w' _=>?_⟩
    unfold execOp
    rw [hop]
    revert hx
    simp only
    generalize a.eval x=z
    intro hx
    cases hx
    rfl
 . rename_i op t x y yt hop
   cases hb:evBin P op t (opd st x) (opd st y) with
   |some r =>
    rw [hb] at he
    simp only [Option.some.injEq] at he
    subst he
    obtain⟨b,c,hx,hy⟩:=Se hb
    have hxv:=Ci (a:=a) h x
    have hyv:=Ci (a:=a) h y
    rw [hx] at hxv
    rw [hy] at hyv
    rw [hx,hy] at hb
    obtain⟨v,rfl,hrun⟩:=Sd x y hb
    have e1:a.eval x=b:=by
     revert hxv;generalize a.eval x=z;intro hxv
     cases hxv with
     |lit _ _=>rfl
    have e2:a.eval y=c:=by
     revert hyv;generalize a.eval y=z;intro hyv
     cases hyv with
     |lit _ _=>rfl
    exact fin (.lit _ v) rfl hrun (fun w'=>by unfold execOp;rw [hop];simp only [e1,e2])
   |none =>
    rw [hb] at he
    obtain⟨v,h1,h2,h3⟩:=TR x y (fun h=>by simpa using h) (Ci (a:=a) h x) (Ci (a:=a) h y) he
    exact fin h1 h2 h3 (fun w'=>by unfold execOp;rw [hop])
 . rename_i op t x hop
   obtain⟨v,h1,h2,h3⟩:=TQ (Ci (a:=a) h x) he
   exact fin h1 h2 h3 (fun w'=>by unfold execOp;rw [hop])
 . rename_i s d x hop
   obtain⟨v,h1,h2,h3⟩:=Qk (Ci (a:=a) h x) he
   refine⟨v,h1,DR.plain h2,fun w' hr=>?_⟩
   unfold execOp
   rw [hop]
   simp only [Sem.run_bind,h3 w' (by have:=hr (by simp [LU,hop]);simpa [VU,hop] using this),Result.andThen_ok,Sem.run_pure]
 . rename_i f first caps hop
   split at he
   . rename_i hf
     simp only [Option.some.injEq,Prod.mk.injEq,true_and] at he
     subst he
     have hf':first = #[]:=by simpa using hf
     subst hf'
     refine fin (v:=.func (.func f) #[] (caps.map a.eval)) (s:=Instr.makeFunc (.func f) (#[].map a.eval) (caps.map a.eval)) ?_ rfl (fun w'=>by simp [Instr.makeFunc]) (fun w'=>by unfold execOp;rw [hop])
     refine .fn _ _ _ _ (by simp) (fun i hi=>?_)
     have hi':i<caps.size:=by simpa using hi
     have e1:(caps.map a.eval).getD i Go.undef=a.eval caps[i]:=by simp [hi']
     rw [e1]
     simp only [List.getElem_map,Array.getElem_toList]
     exact CW (Ci h _)
   . cases he
 . rename_i t x lo hi mx hop
   obtain⟨v,h1,h2,h3⟩:=Pv (Ci (a:=a) h x) (PT (a:=a) h lo) (PT (a:=a) h hi) (PT (a:=a) h mx) he
   exact fin h1 h2 h3 (fun w'=>by unfold execOp;rw [hop])
 . rename_i s x f hop
   obtain⟨v,h1,h2,h3⟩:=KQ (Ci (a:=a) h x) he
   exact fin h1 h2 h3 (fun w'=>by unfold execOp;rw [hop])
 . rename_i s x f hop
   obtain⟨v,h1,h2,h3⟩:=Px (Ci (a:=a) h x) he
   exact fin h1 h2 h3 (fun w'=>by unfold execOp;rw [hop])
 . rename_i t x i hop
   obtain⟨v,h1,h2,h3⟩:=KO (Ci (a:=a) h x) (Ci (a:=a) h i) he
   exact fin h1 h2 h3 (fun w'=>by unfold execOp;rw [hop])
 . rename_i t x i hop
   obtain⟨v,h1,h2,h3⟩:=Pw (Ci (a:=a) h x) (Ci (a:=a) h i) he
   exact fin h1 h2 h3 (fun w'=>by unfold execOp;rw [hop])
 . rename_i c hop
   obtain⟨callee,args,ats⟩:=c
   unfold evBuiltin at he
   simp only at he
   have hargs:∀ (j:Nat) (p:PV) (v:Value),(args.toList.map (opd st))[j]?=some p->(args.map a.eval)[j]?=some v->V w G.U G.φ p v:=fun j p v hp hv=>by
    simp only [List.getElem?_map,Array.getElem?_toList] at hp
    simp only [Array.getElem?_map] at hv
    cases hj:args[j]? with
    |none=>rw [hj] at hp;cases hp
    |some z =>
     rw [hj] at hp hv
     simp only [Option.map_some,Option.some.injEq] at hp hv
     subst hp;subst hv
     exact Ci h _
   split at he
   . split at he
     . rename_i x t hx ht
       have e1:args = #[x]:=by rw [<- Array.toArray_toList (xs:=args),hx]
       have e2:ats = #[t]:=by rw [<- Array.toArray_toList (xs:=ats),ht]
       subst e1;subst e2
       obtain⟨v,h1,h2,h3⟩:=Sb (ty:=o.type) (Ci (a:=a) h x) he
       exact fin h1 h2 h3 (fun w'=>by unfold execOp;rw [hop];simp [resolve,invoke,builtin])
     . cases he
   . obtain⟨v,h1,h2,h3⟩:=Ns (isMax:=false) (vs:=args.map a.eval) (ts:=ats) (ty:=o.type) (w:=w) (G:=G) (by simp) hargs he
     exact fin h1 h2 h3 (fun w'=>by unfold execOp;rw [hop];simp [resolve,invoke,builtin])
   . obtain⟨v,h1,h2,h3⟩:=Ns (isMax:=true) (vs:=args.map a.eval) (ts:=ats) (ty:=o.type) (w:=w) (G:=G) (by simp) hargs he
     exact fin h1 h2 h3 (fun w'=>by unfold execOp;rw [hop];simp [resolve,invoke,builtin])
   . cases he
 . cases he
end
end Go.Vl
namespace Go.Vl
open Go Go.RowKit
def Gh.rel (G:Gh)(l l':Loc):Gh:={ G with Ω:=fun b=>if G.Ω b=some l then some l' else G.Ω b }
def Ee (st:St):Loc->PV
 |.tmp t=>st.get t
 |.tcomp t i=>match st.get t with|.tup cs=>cs.getD i .undef|_=>.undef
 |.cell k j=>(st.σ.getD k []).getD j .undef
 |.ret _=>.undef
section
variable {w w' w0:World} {G G' G0:Gh} {P:Program} {p q:PV} {v u:Value} {st:St} {tm:Nat->Value}
theorem AR.to {l l':Loc}{xs:List (List PV)}(h:AR w G l xs v)(hU:G'.U=G.U)(hΩ:∀ b,G.Ω b=some l->G'.Ω b=some l'):AR w G' l' xs v:=by
 rcases h with h|⟨b,cap,sz,T,arr,h1,h2,h3,h4,h5,h6,h7⟩
 . exact .inl h
 . exact .inr ⟨b,cap,sz,T,arr,h1,h2,h3,hΩ b h4,h5,h6,by rw [hU];exact h7⟩
theorem Ii {l l' m:Loc}(hm:m≠l):∀ b,G.Ω b=some m->(G.rel l l').Ω b=some m:=by
 intro b hb
 show (if G.Ω b=some l then some l' else G.Ω b)=some m
 rw [if_neg (by rw [hb];simpa using hm)];exact hb
theorem F8 {l l':Loc}:∀ b,G.Ω b=some l->(G.rel l l').Ω b=some l':=by
 intro b hb
 show (if G.Ω b=some l then some l' else G.Ω b)=some l'
 rw [if_pos hb]
theorem OQ {l l':Loc}{b:Nat}:(G.rel l l').Ω b≠none↔G.Ω b≠none:=by
 show (if G.Ω b=some l then some l' else G.Ω b)≠none↔_
 split
 . rename_i h;simp [h]
 . rfl
theorem Ext.rel (h:Ext w0 G0 w G)(l l':Loc):Ext w0 G0 w (G.rel l l') :=
 ⟨h.os,h.tape,h.output,h.size,h.frame,h.cells,h.newU,fun b hb=>h.newΩ b (OQ.1 hb),h.phi⟩
theorem AW.rel {σ:List (List PV)}(h:AW w G σ)(l l':Loc)(hno:∀ k j xs cs,σ[k]?=some cs->cs[j]?=some (.sl xs .own)->l≠.cell k j):AW w (G.rel l l') σ:=by
 refine⟨h.len,h.nodup,fun k b cs h1 h2=>?_,h.ub,fun b hb=>h.ob b (OQ.1 hb)⟩
 obtain⟨⟨T,arr,h3,h4,h5⟩,h6⟩:=h.blk k b cs h1 h2
 refine⟨⟨T,arr,h3,h4,fun j c hc=>?_⟩,h6⟩
 obtain⟨v,h7,h8,h9,h10⟩:=h5 j c hc
 refine⟨v,h7,h8,h9,?_⟩
 unfold Di at h10 ⊢
 split
 . rename_i xs
   exact AR.to h10 rfl (Ii (Ne.symm (hno k j xs cs h2 hc)))
 . trivial
theorem Inv.rel (h:Inv w0 G0 st tm w G)(l l':Loc)(hno:∀ xs,Ee st l≠.sl xs .own):Inv w0 G0 st tm w (G.rel l l'):=by
 refine⟨h.ext.rel l l',h.store.rel l l' (fun k j xs cs hk hj e=>?_),h.env.v,fun t=>?_⟩
 . subst e
   refine hno xs ?_
   simp [Ee,List.getD,hk,hj]
 . have ht:=h.env.tag t
   revert ht
   have hc:∀ xs,st.get t=.sl xs .own->l≠.tmp t:=by
    rintro xs hx rfl;exact hno xs hx
   have hc2:∀ cs i xs,st.get t=.tup cs->cs[i]?=some (.sl xs .own)->l≠.tcomp t i:=by
    rintro cs i xs hx hi rfl
    refine hno xs ?_
    simp [Ee,hx,List.getD,hi]
   revert hc hc2
   generalize st.get t=q
   intro hc hc2 ht
   cases q with
   |sl xs g =>
    cases g with
    |own=>exact AR.to ht rfl (Ii (Ne.symm (hc xs rfl)))
    |view m=>cases m<;>exact ht
    |_=>trivial
   |tup cs =>
    intro i xs hi
    obtain⟨arr,u,h1,h2,h3⟩:=ht i xs hi
    exact⟨arr,u,h1,h2,h3.to rfl (Ii (Ne.symm (hc2 cs i xs rfl hi)))⟩
   |_=>trivial
theorem Lr (tm:Nat->Value)(s:Nat):Gm tm s (tm s)=tm:=by
 funext t;unfold Gm;split
 . rename_i h;rw [h]
 . rfl
theorem Inv.share {s:Nat}{xs:List (List PV)}{g:Grow}(h:Inv w0 G0 st tm w G)(hg:st.get s=.sl xs g):Inv w0 G0 (st.put (some s) (.sl xs .shared)) tm w G:=by
 have hv:=h.env.v s
 rw [hg] at hv
 have:=h.put s (p:=.sl xs .shared) (hv.tag (by simp) (by simp)) (by trivial)
 rwa [Lr] at this
theorem Inv.moveOwn {s d:Nat}{xs:List (List PV)}(h:Inv w0 G0 st tm w G)(hg:st.get s=.sl xs .own) :
 Inv w0 G0 ((st.put (some s) (.sl xs .shared)).put (some d) (.sl xs .own)) (Gm tm d (tm s)) w (G.rel (.tmp s) (.tmp d)):=by
 have hO:AR w G (.tmp s) xs (tm s):=by have:=h.env.tag s;rw [hg] at this;exact this
 have hv:=h.env.v s
 rw [hg] at hv
 have h1:=h.share hg
 have hs1:(st.put (some s) (.sl xs .shared)).get s=.sl xs .shared:=by rw [Dt,if_pos rfl]
 have h2:=h1.rel (.tmp s) (.tmp d) (fun ys e=>by rw [Ee,hs1] at e;cases e)
 exact h2.put d hv (hO.to rfl F8)
theorem Inv.look {s d:Nat}{xs:List (List PV)}(h:Inv w0 G0 st tm w G)(hg:st.get s=.sl xs .own)(hsd:s≠d) :
 Inv w0 G0 (st.put (some d) (.sl xs (.view (.tmp s)))) (Gm tm d (tm s)) w G:=by
 have hv:=h.env.v s
 rw [hg] at hv
 refine h.put d (hv.tag (by simp) (by simp)) ⟨?_,?_⟩
 . rw [Dt,if_neg (Ne.symm hsd)]
   split
   . rw [hg];rfl
   . exact hg
 . unfold Gm;rw [if_neg (Ne.symm hsd)]
theorem Inv.lookOn {s d:Nat}{xs:List (List PV)}{l:Loc}(h:Inv w0 G0 st tm w G)(hg:st.get s=.sl xs (.view l)) :
 Inv w0 G0 (st.put (some d) (if l=.tmp d then .sl xs .shared else .sl xs (.view l))) (Gm tm d (tm s)) w G:=by
 have hv:=h.env.v s
 have ht:=h.env.tag s
 rw [hg] at hv ht
 split
 . exact h.put d (hv.tag (by simp) (by simp)) trivial
 . rename_i hl
   refine h.put d (hv.tag (by simp) (by simp)) ?_
   cases l with
   |tmp r =>
    have hr:r≠d:=fun e=>hl (by rw [e])
    refine⟨?_,?_⟩
    . rw [Dt,if_neg (Ne.symm hr)]
      split
      . rw [ht.1];rfl
      . exact ht.1
    . unfold Gm;rw [if_neg (Ne.symm hr)];exact ht.2
   |cell k j=>rw [El,J5];exact ht
   |tcomp t i=>exact ht.elim
   |ret i=>exact ht.elim
end
def evMove (st:St)(d:Nat):Operand->Option St
 |.tmp s =>
  match st.get s with
  |.sl xs .own=>if s=d then none else some (st.put (some d) (.sl xs (.view (.tmp s))))
  |.sl xs (.view l)=>some (st.put (some d) (if l=.tmp d then .sl xs .shared else .sl xs (.view l)))
  |.tup _=>none
  |p=>some (st.put (some d) p)
 |x=>some (st.put (some d) (match opd st x with|.tup _=>.undef|p=>p))
def evAssign (st:St)(d:Nat):Operand->Option St
 |.tmp s =>
  match st.get s with
  |.sl xs .own=>if s=d then none else some ((st.put (some s) (.sl xs .shared)).put (some d) (.sl xs .own))
  |.sl xs (.view l)=>some (st.put (some d) (if l=.tmp d then .sl xs .shared else .sl xs (.view l)))
  |.sl [] .nil=>some (st.put (some d) (.sl [] .own))
  |.tup _=>none
  |p=>some (st.put (some d) p)
 |x=>match opd st x with
  |.sl [] .nil=>some (st.put (some d) (.sl [] .own))
  |p=>some (st.put (some d) (unown p))
section
variable {w w' w0:World} {G G' G0:Gh} {P:Program} {p q:PV} {v u:Value} {st st':St} {a:Act} {x:Operand} {d:Nat}
theorem I6 {U:Nat->Nat->Prop}{φ:List Nat}{xs:List (List PV)}(h:V w U φ (.sl xs .nil) v):xs=[]/\v=.slice none 0 0:=by
 cases h with
 |nil=>exact⟨rfl,rfl⟩
 |emp _ _ _ _ _ hg=>exact absurd rfl hg
 |sl _ _ _ b o sz cap us hc hm hs hU hw h1 hv hf hg=>exact absurd rfl hg
theorem Qj (h:Inv w0 G0 st (fun t=>a.tmps.getD t Go.undef) w G)(he:evMove st d x=some st'):∃ G',(G'.U=G.U/\G'.φ=G.φ)/\Inv w0 G0 st' (Gm (fun t=>a.tmps.getD t Go.undef) d (a.eval x)) w G':=by
 unfold evMove at he
 split at he
 . rename_i s
   split at he
   . rename_i xs hg
     split at he
     . cases he
     . rename_i hsd
       obtain rfl:=Ac he
       exact⟨G,⟨rfl,rfl⟩,h.look hg hsd⟩
   . rename_i xs l hg
     obtain rfl:=Ac he
     exact⟨G,⟨rfl,rfl⟩,h.lookOn hg⟩
   . cases he
   . rename_i h1 h2 h3
     obtain rfl:=Ac he
     refine⟨G,⟨rfl,rfl⟩,h.putPlain d (h.env.v s) ?_⟩
     revert h1 h2 h3
     generalize st.get s=q
     intro h1 h2 h3
     cases q with
     |sl xs g =>
      cases g with
      |own=>exact absurd rfl (h1 xs)
      |view l=>exact absurd rfl (h2 xs l)
      |_=>rfl
     |tup cs=>exact absurd rfl (h3 cs)
     |_=>rfl
 . rename_i hx
   obtain rfl:=Ac he
   have hv:=Ci (a:=a) h.env x
   refine⟨G,⟨rfl,rfl⟩,h.putPlain d ?_ ?_⟩
   . split
     . exact .undef _ _
     . exact hv
   . split
     . rfl
     . rename_i p' hp'
       cases x with
       |tmp s=>exact absurd rfl (hx s)
       |const c =>
        show plain (absC c)=true
        unfold absC;split<;>(try split)<;>rfl
       |global g=>rfl
       |func f=>rfl
theorem Oj (h:Inv w0 G0 st (fun t=>a.tmps.getD t Go.undef) w G)(he:evAssign st d x=some st'):∃ G',(G'.U=G.U/\G'.φ=G.φ)/\Inv w0 G0 st' (Gm (fun t=>a.tmps.getD t Go.undef) d (a.eval x)) w G':=by
 have Ob:∀ {v:Value},V w G.U G.φ (.sl [] .nil) v->Inv w0 G0 (st.put (some d) (.sl [] .own)) (Gm (fun t=>a.tmps.getD t Go.undef) d v) w G:=by
  intro v hv
  obtain⟨_,rfl⟩:=I6 hv
  exact h.put d (.nil _ _) (.inl ⟨rfl,rfl⟩)
 unfold evAssign at he
 split at he
 . rename_i s
   split at he
   . rename_i xs hg
     split at he
     . cases he
     . obtain rfl:=Ac he
       exact⟨G.rel (.tmp s) (.tmp d),⟨rfl,rfl⟩,h.moveOwn hg⟩
   . rename_i xs l hg
     obtain rfl:=Ac he
     exact⟨G,⟨rfl,rfl⟩,h.lookOn hg⟩
   . rename_i hg
     obtain rfl:=Ac he
     have hv:=h.env.v s
     rw [hg] at hv
     exact⟨G,⟨rfl,rfl⟩,Ob hv⟩
   . cases he
   . rename_i h1 h2 h4 h3
     obtain rfl:=Ac he
     refine⟨G,⟨rfl,rfl⟩,h.putPlain d (h.env.v s) ?_⟩
     revert h1 h2 h3 h4
     generalize st.get s=q
     intro h1 h2 h4 h3
     cases q with
     |sl xs g =>
      cases g with
      |own=>exact absurd rfl (h1 xs)
      |view l=>exact absurd rfl (h2 xs l)
      |_=>rfl
     |tup cs=>exact absurd rfl (h3 cs)
     |_=>rfl
 . have hv:=Ci (a:=a) h.env x
   split at he
   . rename_i hn
     obtain rfl:=Ac he
     rw [hn] at hv
     exact⟨G,⟨rfl,rfl⟩,Ob hv⟩
   . obtain rfl:=Ac he
     exact⟨G,⟨rfl,rfl⟩,h.putPlain d (CW hv) (BZ _)⟩
end
end Go.Vl
namespace Go.Vl
open Go Go.RowKit
def W6 (s d:Nat):Option Loc->Option Loc
 |some (.tcomp t i)=>if t=s then some (.tcomp d i) else some (.tcomp t i)
 |x=>x
def Gh.relT (G:Gh)(s d:Nat):Gh:={ G with Ω:=fun b=>W6 s d (G.Ω b) }
section
variable {w w' w0:World} {G G' G0:Gh} {P:Program} {p q:PV} {v u:Value} {st:St} {tm:Nat->Value}
theorem Ke {s d:Nat}{m:Loc}(hm:∀ i,m≠.tcomp s i):∀ b,G.Ω b=some m->(G.relT s d).Ω b=some m:=by
 intro b hb
 show W6 s d (G.Ω b)=some m
 rw [hb]
 cases m with
 |tcomp t i =>
  show (if t=s then some (Loc.tcomp d i) else some (Loc.tcomp t i))=_
  rw [if_neg]
  rintro rfl
  exact hm i rfl
 |_=>rfl
theorem PO {s d i:Nat}:∀ b,G.Ω b=some (.tcomp s i)->(G.relT s d).Ω b=some (.tcomp d i):=by
 intro b hb
 show W6 s d (G.Ω b)=_
 rw [hb];simp [W6]
theorem MR {s d b:Nat}:(G.relT s d).Ω b≠none↔G.Ω b≠none:=by
 show W6 s d (G.Ω b)≠none↔_
 unfold W6
 split
 . rename_i h;rw [h];split<;>simp
 . rfl
theorem Inv.relT (h:Inv w0 G0 st tm w G)(s d:Nat)(hno:∀ cs,st.get s≠.tup cs):Inv w0 G0 st tm w (G.relT s d):=by
 refine⟨⟨h.ext.os,h.ext.tape,h.ext.output,h.ext.size,h.ext.frame,h.ext.cells,h.ext.newU,fun b hb=>h.ext.newΩ b (MR.1 hb),h.ext.phi⟩,?_,h.env.v,fun t=>?_⟩
 . refine⟨h.store.len,h.store.nodup,fun k b cs h1 h2=>?_,h.store.ub,fun b hb=>h.store.ob b (MR.1 hb)⟩
   obtain⟨⟨T,arr,h3,h4,h5⟩,h6⟩:=h.store.blk k b cs h1 h2
   refine⟨⟨T,arr,h3,h4,fun j c hc=>?_⟩,h6⟩
   obtain⟨v,h7,h8,h9,h10⟩:=h5 j c hc
   refine⟨v,h7,h8,h9,?_⟩
   unfold Di at h10 ⊢
   split
   . exact AR.to h10 rfl (Ke (fun i=>by simp))
   . trivial
 . have ht:=h.env.tag t
   have hc:∀ cs,st.get t=.tup cs->t≠s:=by
    rintro cs hx rfl;exact hno cs hx
   revert ht hc
   generalize st.get t=q
   intro ht hc
   cases q with
   |sl xs g =>
    cases g with
    |own=>exact AR.to ht rfl (Ke (fun i=>by simp))
    |view m=>cases m<;>exact ht
    |_=>trivial
   |tup cs =>
    intro i xs hi
    obtain⟨arr,u,h1,h2,h3⟩:=ht i xs hi
    refine⟨arr,u,h1,h2,h3.to rfl (Ke (fun i' e=>?_))⟩
    simp only [Loc.tcomp.injEq] at e
    exact hc cs rfl e.1
   |_=>trivial
theorem Inv.moveTup {s d:Nat}{cs:List PV}(h:Inv w0 G0 st tm w G)(hg:st.get s=.tup cs) :
 Inv w0 G0 ((st.put (some s) .undef).put (some d) (.tup cs)) (Gm tm d (tm s)) w (G.relT s d):=by
 have ht:=h.env.tag s
 have hv:=h.env.v s
 rw [hg] at ht hv
 have h1:=h.put s (p:=.undef) (v:=tm s) (.undef _ _) trivial
 rw [Lr] at h1
 have hs1:(st.put (some s) .undef).get s=.undef:=by rw [Dt,if_pos rfl]
 have h2:=h1.relT s d (fun cs e=>by rw [hs1] at e;cases e)
 refine h2.put d hv ?_
 intro i xs hi
 obtain⟨arr,u,h3,h4,h5⟩:=ht i xs hi
 exact⟨arr,u,h3,h4,h5.to rfl PO⟩
end
def evTupMove (st:St)(d:Nat):Operand->Option St
 |.tmp s=>match st.get s with
  |.tup cs=>if s=d then none else some ((st.put (some s) .undef).put (some d) (.tup cs))
  |_=>none
 |_=>none
def evExtract (st:St)(d:Nat)(i:Nat):Operand->Option St
 |.tmp s=>match st.get s with
  |.tup cs=>match cs[i]? with
   |some (.sl xs .own)=>if s=d then none else some ((st.put (some s) (.tup (cs.set i (.sl xs .shared)))).put (some d) (.sl xs .own))
   |some p=>some (st.put (some d) (unown p))
   |none=>none
  |_=>none
 |_=>none
section
variable {w w' w0:World} {G G' G0:Gh} {P:Program} {p q:PV} {v u:Value} {st st':St} {a:Act} {x:Operand} {d:Nat}
theorem M7 (h:Inv w0 G0 st (fun t=>a.tmps.getD t Go.undef) w G)(he:evTupMove st d x=some st'):∃ G',(G'.U=G.U/\G'.φ=G.φ)/\Inv w0 G0 st' (Gm (fun t=>a.tmps.getD t Go.undef) d (a.eval x)) w G':=by
 unfold evTupMove at he
 split at he
 . rename_i s
   split at he
   . rename_i cs hg
     split at he
     . cases he
     . obtain rfl:=Ac he
       exact⟨G.relT s d,⟨rfl,rfl⟩,h.moveTup hg⟩
   . cases he
 . cases he
theorem MA {i:Nat}(h:Inv w0 G0 st (fun t=>a.tmps.getD t Go.undef) w G)(he:evExtract st d i x=some st'):∃ v G',(∀ w':World,(Instr.extract (a.eval x) i).run P w'=.ok v w')/\(G'.U=G.U/\G'.φ=G.φ)/\Inv w0 G0 st' (Gm (fun t=>a.tmps.getD t Go.undef) d v) w G':=by
 unfold evExtract at he
 split at he
 . rename_i s
   split at he
   . rename_i cs hg
     have hv:V w G.U G.φ (st.get s) (a.eval (.tmp s)):=h.env.v s
     have ht:El w G st _ s (st.get s) (a.eval (.tmp s)):=h.env.tag s
     rw [hg] at hv ht
     have e0:a.eval (.tmp s)=(fun t=>a.tmps.getD t Go.undef) s:=rfl
     generalize hz:a.eval (.tmp s)=z at hv ht
     cases hv with
     |tup _ _ arr hn hcs =>
     have run:∀ (hi:i<cs.length) (w':World),(Instr.extract (.tuple arr) i).run P w'=.ok (arr.getD i Go.undef) w':=by
      intro hi w'
      have:i<arr.size:=by omega
      simp [Instr.extract,this]
     split at he
     . rename_i xs hci
       split at he
       . cases he
       . rename_i hsd
         obtain rfl:=Ac he
         have hi:i<cs.length:=(List.getElem?_eq_some_iff.1 hci).1
         have hci':cs[i]=.sl xs .own:=(List.getElem?_eq_some_iff.1 hci).2
         obtain⟨arr',u,h1,h2,h3⟩:=ht i xs hci
         obtain rfl:arr=arr':=by injection h1
         have hu:arr.getD i Go.undef=u:=by simp [h2]
         have hvi:=hcs i hi
         rw [hci'] at hvi
         refine⟨_,G.rel (.tcomp s i) (.tmp d),run hi,⟨rfl,rfl⟩,?_⟩
         have hset:V w G.U G.φ (.tup (cs.set i (.sl xs .shared))) (.tuple arr):=by
          refine .tup _ _ arr (by simpa using hn) (fun j hj=>?_)
          have hj':j<cs.length:=by simpa using hj
          by_cases e:i=j
          . subst e
            simp only [List.getElem_set_self]
            exact hvi.tag (by simp) (by simp)
          . rw [List.getElem_set_ne e];exact hcs j hj'
         have h4:=h.put s (p:=.tup (cs.set i (.sl xs .shared))) (v:=.tuple arr) hset (by
          intro j ys hj
          by_cases e:i=j
          . subst e
            rw [List.getElem?_set_self hi] at hj
            cases hj
          . rw [List.getElem?_set_ne e] at hj
            exact ht j ys hj)
         have e1:Gm (fun t=>a.tmps.getD t Go.undef) s (.tuple arr)=fun t=>a.tmps.getD t Go.undef:=by
          rw [<- hz,e0,Lr]
         rw [e1] at h4
         have hs1:(st.put (some s) (.tup (cs.set i (.sl xs .shared)))).get s=.tup (cs.set i (.sl xs .shared)):=by rw [Dt,if_pos rfl]
         have h5:=h4.rel (.tcomp s i) (.tmp d) (fun ys e=>by
          simp only [Ee,hs1] at e
          rw [List.getD,List.getElem?_set_self hi] at e
          cases e)
         rw [hu] at hvi ⊢
         exact h5.put d hvi (h3.to rfl F8)
     . rename_i p' hno hci
       obtain rfl:=Ac he
       have hi:i<cs.length:=(List.getElem?_eq_some_iff.1 hci).1
       have hci':cs[i]=p':=(List.getElem?_eq_some_iff.1 hci).2
       have hvi:=hcs i hi
       rw [hci'] at hvi
       exact⟨_,G,run hi,⟨rfl,rfl⟩,h.putPlain d (CW hvi) (BZ _)⟩
     . cases he
   . cases he
 . cases he
end
def Ob:List (List PV)->PV
 | []=>.sl [] .own
 |x::xs=>.sl (x::xs) .shared
def C4:PV->PV
 |.sl xs .nil=>Ob xs
 |p=>unown p
theorem Hf (p:PV):(p=.sl [] .nil/\C4 p=.sl [] .own)∨C4 p=unown p:=by
 unfold C4
 split
 . rename_i xs
   cases xs with
   |nil=>exact .inl ⟨rfl,rfl⟩
   |cons x xs=>exact .inr rfl
 . exact .inr rfl
theorem RI (p:PV)(kvs:List (Value×Value)):C4 p≠.mp kvs:=by
 rcases Hf p with⟨_,h⟩|h
 . rw [h];simp
 . rw [h];exact S3 _ _
theorem Kh (l:List PV)(kvs:List (Value×Value)):PV.mp kvs∉l.map C4:=fun h=>by
 obtain⟨p,_,e⟩:=List.mem_map.1 h
 exact RI p kvs e
section
variable {w w' w0:World} {G G' G0:Gh} {P:Program} {p q:PV} {v u:Value} {st:St} {tm:Nat->Value}
theorem Mv {φ:List Nat}{U:Nat->Nat->Prop}(h:V w U φ p v):V w U φ (C4 p) v:=by
 rcases Hf p with⟨rfl,e⟩|e
 . rw [e]
   obtain⟨_,rfl⟩:=I6 h
   exact .nil _ _
 . rw [e];exact CW h
theorem Jg {φ:List Nat}{U:Nat->Nat->Prop}(h:V w U φ p v)(l:Loc):Di w' G (l) (C4 p) v:=by
 rcases Hf p with⟨rfl,e⟩|e
 . rw [e]
   obtain⟨_,rfl⟩:=I6 h
   exact .inl ⟨rfl,rfl⟩
 . rw [e]
   unfold Di
   split
   . rename_i xs hx
     have:=BZ p
     rw [hx] at this;cases this
   . trivial
theorem Hr {o:Obj}{b i:Nat}(hb:b<w.heap.size):(w.alloc o).cell? ⟨b,i,none⟩=w.cell? ⟨b,i,none⟩:=World.cell?_of_block (w:=w) (Below.heap_alloc _ _ _ hb)
theorem AR.alloc {l:Loc}{xs:List (List PV)}(h:AR w G l xs v)(o:Obj)(hφ:G'.U=G.U)(hΩ:G'.Ω=G.Ω):AR (w.alloc o) G' l xs v:=by
 rcases h with h|⟨b,cap,sz,T,arr,h1,h2,h3,h4,h5,h6,h7⟩
 . exact .inl h
 . exact .inr ⟨b,cap,sz,T,arr,h1,h2,h3,by rw [hΩ];exact h4,(Below.heap_alloc _ _ _ (Array.getElem?_eq_some_iff.1 h5).1).trans h5,h6,by rw [hφ];exact h7⟩
theorem Inv.newObj {cs:List PV}{arr:Array Value}{o:Obj}(hlay:VI o arr cs)(h:Inv w0 G0 st tm w G)(hc:D0 w G cs arr)(ht:∀ j c,cs[j]?=some c->Di w G (.cell st.σ.length j) c (arr.getD j Go.undef)) :
 Inv w0 G0 { st with σ:=st.σ++[cs] } tm (w.alloc o) { G with φ:=G.φ++[w.heap.size] }/\(G.φ++[w.heap.size])[st.σ.length]?=some w.heap.size:=by
 have hnφ:w.heap.size∉G.φ:=by
  intro hm
  obtain⟨k,hk,he⟩:=List.getElem_of_mem hm
  have hk2:k<st.σ.length:=by rw [<- h.store.len];exact hk
  obtain⟨⟨T',arr',h3,_⟩,_⟩:=h.store.blk k _ _ (List.getElem?_eq_getElem hk) (List.getElem?_eq_getElem hk2)
  have:=(Array.getElem?_eq_some_iff.1 h3).1
  omega
 have hcell:∀ b i,G.U b i->G.U b i/\(w.alloc o).cell? ⟨b,i,none⟩=w.cell? ⟨b,i,none⟩:=fun b i hu=>⟨hu,Hr (h.store.ub b i hu)⟩
 have hget:∀ (k x:Nat),G.φ[k]?=some x->(G.φ++[w.heap.size])[k]?=some x:=fun k x hk=>by rw [List.getElem?_append_left (List.getElem?_eq_some_iff.1 hk).1];exact hk
 have hΩ0:G.Ω w.heap.size=none:=by
  cases e:G.Ω w.heap.size with
  |none=>rfl
  |some l=>have:=(h.store.ob w.heap.size (by rw [e];simp)).1;omega
 have tagAll:∀ l c v,Di w G l c v->Di (w.alloc o) { G with φ:=G.φ++[w.heap.size] } l c v:=by
  intro l c v ht
  unfold Di at ht ⊢
  split
  . exact AR.alloc ht _ rfl rfl
  . trivial
 have hlast:(G.φ++[w.heap.size])[st.σ.length]?=some w.heap.size:=by rw [<- h.store.len];simp
 refine⟨⟨?_,?_,?_⟩,hlast⟩
 . refine h.ext.trans ⟨rfl,rfl,rfl,by simp,fun k hk _ _=>Below.heap_alloc _ _ _ hk,hcell,fun b i hu=>.inl hu,fun b hb=>.inr hb,[w.heap.size],rfl,by simp⟩
 . refine⟨by simp [h.store.len],?_,?_,fun b i hu=>by have:=h.store.ub b i hu;simp;omega,fun b hb=>?_⟩
   . rw [List.nodup_append]
     refine⟨h.store.nodup,by simp,fun a ha b hb=>?_⟩
     obtain rfl:b=w.heap.size:=by simpa using hb
     rintro rfl;exact hnφ ha
   . intro k b cs' hk hcs
     by_cases hlt:k<G.φ.length
     . rw [List.getElem?_append_left hlt] at hk
       rw [List.getElem?_append_left (by rw [<- h.store.len];exact hlt)] at hcs
       obtain⟨⟨T',arr',h3,h4,h5⟩,h6⟩:=h.store.blk k b cs' hk hcs
       refine⟨⟨T',arr',(Below.heap_alloc _ _ _ (Array.getElem?_eq_some_iff.1 h3).1).trans h3,h4,fun j c hj=>?_⟩,h6⟩
       obtain⟨v,h7,h8,h9,h10⟩:=h5 j c hj
       exact⟨v,h7,h8,h9.mono hcell hget,tagAll _ _ _ h10⟩
     . have hk2:=(List.getElem?_eq_some_iff.1 hk).1
       simp at hk2
       obtain rfl:k=G.φ.length:=by omega
       have e1:b=w.heap.size:=by simpa using hk.symm
       subst e1
       have e2:cs'=cs:=by rw [h.store.len] at hcs;simpa using hcs.symm
       subst e2
       refine⟨⟨o,arr,heap_alloc_new _ _,⟨hlay,hc.size⟩,fun j c hj=>?_⟩,fun i hu=>?_⟩
       . have hjl:=(List.getElem?_eq_some_iff.1 hj)
         obtain⟨h1,h2⟩:=hc.v j hjl.1
         have hja:j<arr.size:=by rw [hc.size];exact hjl.1
         rw [hjl.2] at h1
         refine⟨arr.getD j Go.undef,by simp [hja],h2,h1.mono hcell hget,?_⟩
         have:=tagAll _ _ _ (ht j c hj)
         rw [h.store.len];exact this
       . have:=h.store.ub _ _ hu;omega
   . have:=h.store.ob b hb
     refine⟨by simp;omega,?_⟩
     intro hm
     rcases List.mem_append.1 hm with hm|hm
     . exact this.2 hm
     . have:b=w.heap.size:=by simpa using hm
       omega
 . refine⟨fun t=>(h.env.v t).mono hcell hget,fun t=>?_⟩
   have ht':=h.env.tag t
   show El _ _ _ _ _ (st.get t) _
   revert ht'
   generalize st.get t=q
   intro ht'
   cases q with
   |sl xs g =>
    cases g with
    |own=>exact AR.alloc ht' _ rfl rfl
    |view m =>
     cases m with
     |tmp s=>exact ht'
     |cell k j =>
      obtain⟨cs',b,h1,h2,h3,h4⟩:=ht'
      refine⟨cs',b,?_,h2,hget _ _ h3,?_⟩
      . show (st.σ++[cs])[k]?=some cs'
        rw [List.getElem?_append_left (List.getElem?_eq_some_iff.1 h1).1];exact h1
      . obtain⟨⟨T',arr',h5,_⟩,_⟩:=h.store.blk k b cs' h3 h1
        rw [Hr (Array.getElem?_eq_some_iff.1 h5).1];exact h4
     |_=>exact ht'
    |_=>trivial
   |tup cs' =>
    intro i xs hi
    obtain⟨arr',u,h1,h2,h3⟩:=ht' i xs hi
    exact⟨arr',u,h1,h2,h3.alloc _ rfl rfl⟩
   |_=>trivial
theorem Inv.newBlock {cs:List PV}{arr:Array Value}{T:TypeId}(h:Inv w0 G0 st tm w G)(hm:∀ kvs,PV.mp kvs∉cs)(hc:D0 w G cs arr)(ht:∀ j c,cs[j]?=some c->Di w G (.cell st.σ.length j) c (arr.getD j Go.undef)) :
 Inv w0 G0 { st with σ:=st.σ++[cs] } tm (w.alloc (.cells arr T)) { G with φ:=G.φ++[w.heap.size] }/\(G.φ++[w.heap.size])[st.σ.length]?=some w.heap.size:=Inv.newObj (.inl ⟨⟨T,rfl⟩,hm⟩) h hc ht
end
end Go.Vl
namespace Go.Q
open Go
section
variable {P:Program} {ops:Array Oper} {Q:Exit->Act->World->Prop} {S:World->Prop}
def Eb (ops:Array Oper)(D:Array Bool):Prop:=∀ j oj,ops[j]?=some oj->D.getD j false=true->∀ e∈oj.after,Region.binds .any e=true->D.getD e.on false=true
def Y7 (ops:Array Oper)(j i:Nat):Prop:=∀ D,Eb ops D->(∀ oj,ops[j]?=some oj->∀ e∈oj.after,Region.binds .any e=true->D.getD e.on false=true)->(∃ oj,ops[j]?=some oj)->D.getD i false=true
def Kl (acc:List Nat)(o:Oper):Nat:=o.after.toList.foldl (fun s e=>if Region.binds .any e then s ||| (2 ^ e.on ||| acc.getD e.on 0) else s) 0
def PX (acc:List Nat):List Oper->List Nat
 | []=>acc
 |o::rest=>PX (acc++[Kl acc o]) rest
theorem Ph (acc:List Nat)(o:Oper)(i:Nat)(h:(Kl acc o).testBit i=true):∃ e∈o.after,Region.binds .any e=true/\(e.on=i∨(acc.getD e.on 0).testBit i=true):=by
 have key:∀ (l:List Edge) (s:Nat),(l.foldl (fun s e=>if Region.binds .any e then s ||| (2 ^ e.on ||| acc.getD e.on 0) else s) s).testBit i=true ->
  s.testBit i=true∨∃ e∈l,Region.binds .any e=true/\(e.on=i∨(acc.getD e.on 0).testBit i=true):=by
  intro l
  induction l with
  |nil=>intro s h;exact .inl h
  |cons e l ih =>
   intro s h
   rcases ih _ h with h|⟨e',he',hb,hc⟩
   . by_cases hbe:Region.binds .any e=true
     . simp only [hbe,if_true] at h
       simp only [Nat.testBit_or,Bool.or_eq_true] at h
       rcases h with h|h|h
       . exact .inl h
       . rw [Nat.testBit_two_pow] at h
         exact .inr ⟨e,by simp,hbe,.inl (by simpa using h)⟩
       . exact .inr ⟨e,by simp,hbe,.inr h⟩
     . simp only [hbe] at h
       exact .inl h
   . exact .inr ⟨e',by simp [he'],hb,hc⟩
 rcases key _ _ h with h|⟨e,he,hb,hc⟩
 . simp at h
 . exact⟨e,by simpa using he,hb,hc⟩
theorem K7:∀ (l:List Oper) (acc:List Nat),(∀ j,l[j]?=ops[acc.length+j]?)->(∀ j i,(acc.getD j 0).testBit i=true->Y7 ops j i)->∀ j i,((PX acc l).getD j 0).testBit i=true->Y7 ops j i
 | [],_,_,h=>h
 |o::l,acc,hl,h=>by
  refine K7 l (acc++[Kl acc o]) (fun j=>?_) (fun j i hji=>?_)
  . have:=hl (j+1)
    simpa [Nat.add_assoc,Nat.add_comm 1 j] using this
  . by_cases hj:j<acc.length
    . refine h j i ?_
      rw [List.getD_eq_getElem?_getD,List.getElem?_append_left hj,<- List.getD_eq_getElem?_getD] at hji
      exact hji
    . by_cases hj2:j=acc.length
      . subst hj2
        have e1:(acc++[Kl acc o]).getD acc.length 0=Kl acc o:=by simp
        rw [e1] at hji
        obtain⟨e,he,hb,hc⟩:=Ph acc o i hji
        intro D hD hdeps _
        have h0:ops[acc.length]?=some o:=by simpa using (hl 0).symm
        have hon:=hdeps o h0 e he hb
        rcases hc with rfl|hc
        . exact hon
        . by_cases hex:∃ oj,ops[e.on]?=some oj
          . obtain⟨oj,hoj⟩:=hex
            refine h e.on i hc D hD (fun o' ho' e' he' hb'=>hD e.on o' ho' hon e' he' hb') ⟨oj,hoj⟩
          . exfalso
            by_cases hlt:e.on<acc.length
            . have:acc.length<ops.size:=(Array.getElem?_eq_some_iff.1 h0).1
              exact hex ⟨ops[e.on]'(by omega),Array.getElem?_eq_getElem (by omega)⟩
            . simp [List.getD,List.getElem?_eq_none (l:=acc) (i:=e.on) (by omega)] at hc
      . have e1:(acc++[Kl acc o]).getD j 0=0:=by
         rw [List.getD_eq_getElem?_getD,List.getElem?_eq_none (by simp;omega)];rfl
        rw [e1] at hji
        simp at hji
def MZ (ops:Array Oper):List Nat:=PX [] ops.toList
theorem PW (j i:Nat)(h:((MZ ops).getD j 0).testBit i=true):Y7 ops j i :=
 K7 ops.toList [] (fun j=>by simp) (fun j i h=>by simp at h) j i h
def cl (c:List Nat)(i:Nat):Nat:=c.getD i 2
def CT (ops:Array Oper)(c:List Nat)(j:Nat):Bool:=(List.range ops.size).any fun i=>cl c i == 1&&i != j&&!((MZ ops).getD j 0).testBit i
theorem LM {c:List Nat}{i j:Nat}{D:Array Bool}(hD:Eb ops D)(hj:j∈Region.ready .any ops D)(hi:i<ops.size)(hun:D.getD i false=false)(h1:cl c i=1)(hij:i≠j):CT ops c j=true:=by
 unfold CT
 rw [List.any_eq_true]
 refine⟨i,List.mem_range.2 hi,?_⟩
 obtain⟨_,oj,hoj,hall⟩:=mem_ready.1 hj
 simp only [h1,beq_self_eq_true,Bool.true_and,Bool.and_eq_true,bne_iff_ne,ne_eq,hij,not_false_eq_true,true_and,Bool.not_eq_true']
 cases hm:((MZ ops).getD j 0).testBit i with
 |false=>rfl
 |true =>
  have:=PW j i hm D hD (fun o' ho' e he hb=>by
   have:o'=oj:=Option.some.inj (ho'.symm.trans hoj)
   subst this
   exact hall e he hb) ⟨oj,hoj⟩
  rw [hun] at this
  cases this
def YieldsIn (P:Program)(ops:Array Oper)(T:World->Prop)(o:Oper)(v:Value)(a:Act):Prop :=
 (Region.wanted o (yielded ops a.tmps)=true/\∀ w,T w->((execOp a.eval o).run P w=.ok (.value v) w∨∃ f args,(execOp a.eval o).run P w=.ok (.enter f args) w/\Calls P f args w (fun e w''=>e=.returned v/\w''=w))) ∨
 (Region.wanted o (yielded ops a.tmps)=false/\v=undef)
theorem YieldsIn.wpOp {T:World->Prop}{i:Nat}{o:Oper}{v:Value}{a:Act}(hi:ops[i]?=some o)(hy:YieldsIn P ops T o v a){K:Act->World->Prop}{w:World}(hT:T w)(h:K (a.put o.dst v) w):wpOp P ops Q i K a w:=by
 unfold Go.wpOp
 simp only [hi]
 rcases hy with⟨hw,hv⟩|⟨hw,rfl⟩
 . simp only [hw,if_true,Oper.wp]
   rcases hv w hT with hv|⟨f,args,hv,hc⟩
   . simp only [hv,Oper.upon];exact .inl h
   . simp only [hv,Oper.upon]
     exact .inl (hc.mono fun e w'' ⟨he,hw⟩=>by subst he;subst hw;exact h)
 . simp only [hw,Bool.false_eq_true,if_false];exact h
theorem YieldsIn.of_same {T:World->Prop}{o:Oper}{v:Value}{a a':Act}(hy:YieldsIn P ops T o v a)(he:execOp a'.eval o=execOp a.eval o)
 (hw:Region.wanted o (yielded ops a'.tmps)=Region.wanted o (yielded ops a.tmps)):YieldsIn P ops T o v a':=by
 unfold YieldsIn at *
 rw [he,hw]
 exact hy
theorem Le {T:World->Prop}{j:Nat}{oi oj:Oper}{v:Value}(hj:ops[j]?=some oj)(hap:oi.apart ops oj=true)
 (hsi:∀ cs b,oi.op≠.select cs b) (hsj:∀ cs b,oj.op≠.select cs b)
 (hQ:∀ c a w,Q (.panic c) (a.put oi.dst v) w->Q (.panic c) a w) {K:Act->World->Prop} {a:Act} {w:World}
 (hy:YieldsIn P ops T oi v a) (h:wpOp P ops Q j K (a.put oi.dst v) w) :
 wpOp P ops Q j (fun a' w'=>YieldsIn P ops T oi v a'/\K (a'.put oi.dst v) w') a w:=by
 obtain⟨h1,h2,h3⟩:=Oper.apart_spec hap
 have keep:∀ (a:Act),YieldsIn P ops T oi v a->∀ u,YieldsIn P ops T oi v (a.put oj.dst u):=fun a hy u =>
  hy.of_same (execOp_put oi hsi a oj.dst u h3) (wanted_put oi a oj.dst u h3)
 have keepD:∀ d,YieldsIn P ops T oi v { a with defers:=d::a.defers }:=fun d=>hy.of_same rfl rfl
 unfold Go.wpOp at *
 simp only [hj] at *
 rw [wanted_put oj a oi.dst v h1] at h
 split
 . rename_i hw
   simp only [hw,if_true] at h
   rcases h with h|⟨hasks,hlets⟩
   case inr=>exact .inr ⟨by unfold Oper.asks at *;rw [execOp_put oj hsj a oi.dst v h1] at hasks;exact hasks,hlets⟩
   refine .inl ?_
   unfold Oper.wp at *
   rw [execOp_put oj hsj a oi.dst v h1] at h
   generalize (execOp a.eval oj).run P w=r at *
   cases r with
   |ok n w' =>
    cases n<;>simp only [Oper.upon] at h ⊢
    case value u=>exact⟨keep a hy u,by rw [<- Act.put_comm a v u h2];exact h⟩
    case skip=>exact⟨keep a hy _,by rw [<- Act.put_comm a v undef h2];exact h⟩
    case defer d =>
     refine⟨keep _ (keepD d) _,?_⟩
     rw [<- Act.put_comm _ v undef h2,<- Act.put_defers]
     exact h
    case enter f args =>
     refine Calls.mono h fun e w'' he=>?_
     cases e with
     |returned u=>exact⟨keep a hy u,by rw [<- Act.put_comm a v u h2];exact he⟩
     |panicked c=>exact hQ _ _ _ he
     |outgrown=>exact he
    case row row args=>exact Rows.mono h fun u w'' he=>⟨keep a hy u,by rw [<- Act.put_comm a v u h2];exact he⟩
   |halt x w' =>
    cases x<;>simp only [Oper.upon] at h ⊢
    case panic u=>exact hQ _ _ _ h
 . rename_i hw
   simp only [hw] at h
   exact⟨keep a hy _,by rw [<- Act.put_comm a v undef h2];exact h⟩
def So (ops:Array Oper)(S:World->Prop)(c:List Nat)(j:Nat)(w w':World):Prop:=if cl c j=0∨cl c j=1 then w'=w else (CT ops c j=true->S w')
def Lh (P:Program)(ops:Array Oper)(Q:Exit->Act->World->Prop)(S:World->Prop)(c:List Nat):Nat->Array Bool->Act->World->Prop
 |0,D,a,w=>Region.ready .any ops D=[]/\Q .normal a w
 |fuel+1,D,a,w =>
  (Region.ready .any ops D=[]->Q .normal a w) /\
  ∀ i∈Region.ready .any ops D,wpOp P ops Q i (fun a' w'=>So ops S c i w w'/\Lh P ops Q S c fuel (D.setIfInBounds i true) a' w') a w
theorem Lg {c:List Nat}:∀ (fuel:Nat) (D:Array Bool) (a:Act) (w:World),Lh P ops Q S c fuel D a w->wpAny P .any ops Q fuel D a w
 |0,_,_,_,h=>h
 |fuel+1,_,_,_,h=>⟨h.1,fun i hi=>wpOp_mono (fun a' w' h'=>Lg fuel _ a' w' h'.2) (h.2 i hi)⟩
theorem Eb.set {D:Array Bool}{i:Nat}(h:Eb ops D)(hi:i∈Region.ready .any ops D):Eb ops (D.setIfInBounds i true):=by
 obtain⟨_,oi,hoi,hall⟩:=mem_ready.1 hi
 intro j oj hj hl e he hb
 by_cases hij:i=j
 . subst hij
   have:oj=oi:=Option.some.inj (hj.symm.trans hoi)
   subst this
   exact getD_set_true (hall e he hb)
 . rw [getD_set_ne false hij] at hl
   exact getD_set_true (h j oj hj hl e he hb)
theorem Eo {D:Array Bool}{i:Nat}(hi:i∈Region.ready .any ops D):D.getD i false=false/\i<ops.size:=by
 obtain⟨h0,oi,hoi,_⟩:=mem_ready.1 hi
 refine⟨?_,(Array.getElem?_eq_some_iff.1 hoi).1⟩
 rcases Nat.lt_or_ge i D.size with h'|h'
 . simp [h'] at h0 ⊢;exact h0
 . simp [Array.getElem?_eq_none h'] at h0
theorem Jx {c:List Nat}{T:World->Prop}{i:Nat}{oi:Oper}{v:Value}(hi:ops[i]?=some oi)(hsel:∀ (j:Nat) (o:Oper) cs b,ops[j]?=some o->o.op≠.select cs b)
 (hQ:∀ c a w,Q (.panic c) (a.put oi.dst v) w->Q (.panic c) a w) (hci:cl c i=0∨cl c i=1)
 (hT:∀ D j,Eb ops D->i∈Region.ready .any ops D->j∈Region.ready .any ops D->j≠i->∀ w w',So ops S c j w w'->T w->T w') :
 ∀ (fuel:Nat) (D:Array Bool) (a:Act) (w:World),Eb ops D->T w ->
  (∀ j oj,ops[j]?=some oj->j≠i->D.getD j true=false->(∀ e∈oj.after,Region.binds .any e=true->e.on≠i)->oi.apart ops oj=true) ->
  i∈Region.ready .any ops D->YieldsIn P ops T oi v a ->
  Lh P ops Q S c fuel (D.setIfInBounds i true) (a.put oi.dst v) w->Lh P ops Q S c (fuel+1) D a w:=by
 have hcond:∀ w,So ops S c i w w:=fun w=>by unfold So;rw [if_pos hci]
 intro fuel
 induction fuel with
 |zero =>
  intro D a w hD hTw _ hr hy H
  refine⟨fun h=>(by rw [h] at hr;cases hr),fun j hj=>?_⟩
  by_cases hji:j=i
  . subst hji;exact hy.wpOp hi hTw ⟨hcond w,H⟩
  . have:=ready_mono hj hji
    rw [H.1] at this
    cases this
 |succ fuel ih =>
  intro D a w hD hTw hfree hr hy H
  refine⟨fun h=>(by rw [h] at hr;cases hr),fun j hj=>?_⟩
  by_cases hji:j=i
  . subst hji;exact hy.wpOp hi hTw ⟨hcond w,H⟩
  . have h1:=H.2 j (ready_mono hj hji)
    obtain⟨hjun,oj,hoj,hall⟩:=mem_ready.1 hj
    have hnot:∀ e∈oj.after,Region.binds .any e=true->e.on≠i:=fun e he hb heq=>by
     have h1:=hall e he hb
     rw [heq,(Eo hr).1] at h1
     cases h1
    have h2:=Le hoj (hfree j oj hoj hji hjun hnot) (fun cs b=>hsel i oi cs b hi) (fun cs b=>hsel j oj cs b hoj) hQ hy h1
    have hfree':∀ k ok,ops[k]?=some ok->k≠i->(D.setIfInBounds j true).getD k true=false ->
     (∀ e∈ok.after,Region.binds .any e=true->e.on≠i)->oi.apart ops ok=true:=fun k ok hk hki hun hno=>by
     refine hfree k ok hk hki ?_ hno
     by_cases hjk:j=k
     . subst hjk;exact hjun
     . rw [getD_set_ne true hjk] at hun;exact hun
    refine wpOp_mono (fun a' w' h3=>⟨h3.2.1,ih (D.setIfInBounds j true) a' w' (hD.set hj) (hT D j hD hr hj hji w w' h3.2.1 hTw) hfree' (ready_mono hr (Ne.symm hji)) h3.1 ?_⟩) h2
    rw [Array.setIfInBounds_comm _ _ hji]
    exact h3.2.2
def DB (P:Program)(ops:Array Oper)(Q:Exit->Act->World->Prop)(S:World->Prop)(c:List Nat):List Nat->Act->World->Prop
 | [],a,w=>Q .normal a w
 |i::t,a,w=>match ops[i]? with
  |none=>False
  |some o =>
   if cl c i=0 then ∃ v,YieldsIn P ops (fun _=>True) o v a/\DB P ops Q S c t (a.put o.dst v) w
   else if cl c i=1 then ∃ v,YieldsIn P ops S o v a/\DB P ops Q S c t (a.put o.dst v) w
   else wpOp P ops Q i (fun a' w'=>(CT ops c i=true->S w')/\DB P ops Q S c t a' w') a w
def Sr (ops:Array Oper)(c:List Nat):List Nat->Array Bool->Bool
 | [],D=>(Region.ready .any ops D).isEmpty
 |i::t,D=>(Region.ready .any ops D).contains i&&(if cl c i=0∨cl c i=1 then Region.free .any ops D i else decide (Region.ready .any ops D=[i]))&&Sr ops c t (D.setIfInBounds i true)
theorem GX {c:List Nat}(hsel:Region.noSelect ops=true)(hQ:∀ c d v a w,Q (.panic c) (a.put d v) w->Q (.panic c) a w):∀ (t:List Nat) (D:Array Bool) (a:Act) (w:World),Eb ops D ->
 ((∃ i,i<ops.size/\D.getD i false=false/\cl c i=1)->S w)->Sr ops c t D=true->DB P ops Q S c t a w->Lh P ops Q S c t.length D a w
 | [],D,a,w,_,_,hok,h=>⟨by simpa [Sr] using hok,h⟩
 |i::t,D,a,w,hD,hS,hok,h=>by
  simp only [Sr,Bool.and_eq_true] at hok
  obtain⟨⟨hr,hf⟩,hok'⟩:=hok
  have hr':i∈Region.ready .any ops D:=by simpa using hr
  obtain⟨_,oi,hoi,_⟩:=mem_ready.1 hr'
  obtain⟨hiun,hisz⟩:=Eo hr'
  have hun:∀ k,(D.setIfInBounds i true).getD k false=false->D.getD k false=false:=by
   intro k hk
   by_cases hik:i=k
   . subst hik;exact hiun
   . rw [getD_set_ne false hik] at hk;exact hk
  have hSt:(∃ k,k<ops.size/\(D.setIfInBounds i true).getD k false=false/\cl c k=1)->S w:=fun ⟨k,h1,h2,h3⟩=>hS ⟨k,h1,hun k h2,h3⟩
  unfold DB at h
  simp only [hoi] at h
  by_cases h0:cl c i=0
  . rw [if_pos h0] at h
    rw [if_pos (.inl h0)] at hf
    obtain⟨v,hy,hw⟩:=h
    exact Jx (T:=fun _=>True) hoi (Region.noSelect_spec hsel) (fun _ a w h=>hQ _ _ _ a w h) (.inl h0) (fun _ _ _ _ _ _ _ _ _ _=>trivial) t.length D a w hD trivial (Region.free_spec hoi hf) hr' hy
     (GX hsel hQ t _ _ w (hD.set hr') hSt hok' hw)
  . rw [if_neg h0] at h
    by_cases h1:cl c i=1
    . rw [if_pos h1] at h
      rw [if_pos (.inr h1)] at hf
      obtain⟨v,hy,hw⟩:=h
      refine Jx (T:=S) hoi (Region.noSelect_spec hsel) (fun _ a w h=>hQ _ _ _ a w h) (.inr h1) ?_ t.length D a w hD (hS ⟨i,hisz,hiun,h1⟩) (Region.free_spec hoi hf) hr' hy
       (GX hsel hQ t _ _ w (hD.set hr') hSt hok' hw)
      intro D' j hD' hi' hj hji w w' hc hSw
      unfold So at hc
      split at hc
      . subst hc;exact hSw
      . exact hc (LM hD' hj hisz (Eo hi').1 h1 (Ne.symm hji))
    . rw [if_neg h1] at h
      rw [if_neg (by simp [h0,h1])] at hf
      have hf':Region.ready .any ops D=[i]:=by simpa using hf
      refine⟨fun h=>(by rw [h] at hr';cases hr'),fun j hj=>?_⟩
      rw [hf'] at hj
      obtain rfl:j=i:=by simpa using hj
      refine wpOp_mono (fun a' w' h3=>⟨by unfold So;rw [if_neg (by simp [h0,h1])];exact h3.1,?_⟩) h
      refine GX hsel hQ t _ a' w' (hD.set hr') ?_ hok' h3.2
      rintro⟨k,hk1,hk2,hk3⟩
      have hkj:k≠j:=by rintro rfl;rw [hk3] at h1;exact h1 rfl
      exact h3.1 (LM hD hr' hk1 (hun k hk2) hk3 hkj)
theorem DM {id:Nat}{l:List Oper}{a:Act}{w:World}(c t:List Nat)(S:World->Prop)(hm:P.follows .mixedOrders=true)(hsel:Region.noSelect l.toArray=true)
 (hlen:t.length=l.length) (hok:Sr l.toArray c t (Array.replicate l.toArray.size false)=true) (hQ:∀ c d v a w,Q (.panic c) (a.put d v) w->Q (.panic c) a w)
 (hS:S w.drew) (h:DB P l.toArray Q S c t a w.drew):(Code.region id l.toArray true).wp P Q a w:=by
 refine wp_region_any hm ?_
 rw [show l.toArray.size=t.length by simp [hlen]]
 refine Lg _ _ _ _ (GX (S:=S) (c:=c) hsel hQ t _ a _ ?_ (fun _=>hS) ?_ h)
 . intro j oj _ hl
   rw [getD_replicate_false] at hl
   cases hl
 . rw [show t.length=l.toArray.size by simp [hlen]];exact hok
section
variable {c t:List Nat} {i:Nat} {o:Oper} {a:Act} {w:World}
theorem JT {v:Value}(ho:ops[i]?=some o)(hc:cl c i=0)(hg:o.guard=none)(hv:∀ w,(execOp a.eval o).run P w=.ok (.value v) w)
 (h:DB P ops Q S c t (a.put o.dst v) w):DB P ops Q S c (i::t) a w:=by
 unfold DB
 simp only [ho,hc,if_true]
 exact⟨v,.inl ⟨by simp [Region.wanted,hg],fun w _=>.inl (hv w)⟩,h⟩
theorem JS {v:Value}(ho:ops[i]?=some o)(hc:cl c i=1)(hg:o.guard=none)(hv:∀ w,S w->(execOp a.eval o).run P w=.ok (.value v) w)
 (h:DB P ops Q S c t (a.put o.dst v) w):DB P ops Q S c (i::t) a w:=by
 unfold DB
 simp only [ho,hc]
 exact⟨v,.inl ⟨by simp [Region.wanted,hg],fun w hw=>.inl (hv w hw)⟩,h⟩
theorem MF:∀ (t:List Nat) (l:List Oper) (a:Act) (w:World),(t.all fun i=>cl c i == 2&&!CT ops c i)=true->t.map (fun i=>ops[i]?)=l.map some->wpList P ops Q l a w->DB P ops Q S c t a w
 | [],[],_,_,_,_,h=>h
 | [],_::_,_,_,_,hl,_=>by simp at hl
 |_::_,[],_,_,_,hl,_=>by simp at hl
 |i::t,o::l,a,w,ht,hl,h=>by
  simp only [List.all_cons,Bool.and_eq_true,beq_iff_eq,Bool.not_eq_true'] at ht
  simp only [List.map_cons,List.cons.injEq] at hl
  unfold DB
  simp only [hl.1,ht.1.1]
  unfold wpOp
  simp only [hl.1]
  unfold wpList at h
  have mono:∀ a' w',wpList P ops Q l a' w'->((CT ops c i=true->S w')/\DB P ops Q S c t a' w'):=fun a' w' h' =>
   ⟨fun hn=>(by rw [ht.1.2] at hn;cases hn),MF t l a' w' ht.2 hl.2 h'⟩
  by_cases hw:Region.wanted o (yielded ops a.tmps)=true
  . simp only [hw,if_true] at h ⊢
    exact h.imp (Oper.wp_mono mono) id
  . simp only [hw] at h ⊢
    exact mono _ _ h
theorem JR {l:List Oper}(n:Nat)(ht:(t.all fun i=>cl c i == 2&&!CT l.toArray c i)=true)(hl:t.map (fun i=>l.toArray[i]?)=(l.drop n).map some)(h:wpList P l.toArray Q (l.drop n) a w):DB P l.toArray Q S c t a w :=
 MF t _ a w ht hl h
end
end
end Go.Q
namespace Go.Vl
open Go Go.RowKit
def stripC (k o n:Nat):PV->PV
 |.sl xs (.view (.cell k' j))=>if k'=k/\o<=j/\j<o+n then .sl xs .shared else .sl xs (.view (.cell k' j))
 |p=>p
def St.stripC (st:St)(k o n:Nat):St:={ st with env:=st.env.map fun x=>(x.1,Vl.stripC k o n x.2) }
section
variable {w w' w0:World} {G G' G0:Gh} {P:Program} {p q:PV} {v u:Value} {st:St} {tm:Nat->Value}
theorem EI (st:St)(k o n t:Nat):(st.stripC k o n).get t=stripC k o n (st.get t):=by
 show getE (st.env.map fun x=>(x.1,Vl.stripC k o n x.2)) t=stripC k o n (getE st.env t)
 generalize st.env=env
 induction env with
 |nil=>rfl
 |cons x r ih =>
  show (if x.1=t then stripC k o n x.2 else getE (r.map fun x=>(x.1,Vl.stripC k o n x.2)) t)=stripC k o n (if x.1=t then x.2 else getE r t)
  split
  . rfl
  . exact ih
theorem PE {k o n:Nat}{xs:List (List PV)}:stripC k o n p=.sl xs .own↔p=.sl xs .own:=by
 unfold stripC
 split
 . split<;>simp
 . rfl
theorem Inv.stripC (h:Inv w0 G0 st tm w G)(k o n:Nat):Inv w0 G0 (st.stripC k o n) tm w G:=by
 refine⟨h.ext,h.store,⟨fun t=>?_,fun t=>?_⟩⟩
 . rw [EI]
   have hv:=h.env.v t
   revert hv
   generalize st.get t=q
   intro hv
   unfold Vl.stripC
   split
   . split
     . exact hv.tag (by simp) (by simp)
     . exact hv
   . exact hv
 . rw [EI]
   have ht:=h.env.tag t
   revert ht
   generalize st.get t=q
   intro ht
   unfold Vl.stripC
   split
   . rename_i xs k' j
     split
     . trivial
     . exact ht
   . rename_i hno
     cases q with
     |sl xs g =>
      cases g with
      |view l =>
       cases l with
       |tmp s=>exact⟨by rw [EI];exact PE.2 ht.1,ht.2⟩
       |cell k' j=>exact absurd rfl (hno xs k' j)
       |_=>exact ht
      |_=>exact ht
     |_=>exact ht
theorem AR.keep {l:Loc}{xs:List (List PV)}(h:AR w G l xs v)(hk:∀ b,G.Ω b=some l->G'.Ω b=some l/\w'.heap[b]?=w.heap[b]?/\∀ i,G'.U b i->G.U b i):AR w' G' l xs v:=by
 rcases h with h|⟨b,cap,sz,T,arr,h1,h2,h3,h4,h5,h6,h7⟩
 . exact .inl h
 . obtain⟨k1,k2,k3⟩:=hk b h4
   exact .inr ⟨b,cap,sz,T,arr,h1,h2,h3,k1,k2.trans h5,h6,fun i hi=>h7 i (k3 i hi)⟩
theorem Inv.setObj {k b:Nat}{cs cs':List PV}{arr':Array Value}{o o':Obj}(h:Inv w0 G0 st tm w G)(hk:G.φ[k]?=some b)(hcs:st.σ[k]?=some cs)(hb:w.heap[b]?=some o)
 (hb':w'.heap[b]?=some o') (hlay:VI o' arr' cs') (hold:∀ i,i≠b->w'.heap[i]?=w.heap[i]?) (hos:w'.os=w.os) (htp:w'.tape=w.tape) (hout:w'.output=w.output)
 (hc:D0 w G cs' arr') (ht:∀ j c,cs'[j]?=some c->Di w G (.cell k j) c (arr'.getD j Go.undef))
 (hvw:∀ t xs j v,st.get t=.sl xs (.view (.cell k j))->cs[j]?=some (.sl xs .own)->w.cell? ⟨b,j,none⟩=some v->cs'[j]?=some (.sl xs .own)/\w'.cell? ⟨b,j,none⟩=some v) :
 Inv w0 G0 { st with σ:=st.σ.set k cs' } tm w' G:=by
 have hkl:k<st.σ.length:=(List.getElem?_eq_some_iff.1 hcs).1
 have hbφ:b∈G.φ:=List.mem_of_getElem? hk
 have hsz:w'.heap.size=w.heap.size:=by
  have h1:b<w'.heap.size:=(Array.getElem?_eq_some_iff.1 hb').1
  have h2:b<w.heap.size:=(Array.getElem?_eq_some_iff.1 hb).1
  rcases Nat.lt_trichotomy w'.heap.size w.heap.size with h3|h3|h3
  . have h4:=hold w'.heap.size (by omega)
    rw [Array.getElem?_eq_none (by omega),Array.getElem?_eq_getElem (by omega)] at h4;cases h4
  . exact h3
  . have h4:=hold w.heap.size (by omega)
    rw [Array.getElem?_eq_none (xs:=w.heap) (by omega),Array.getElem?_eq_getElem (by omega)] at h4;cases h4
 have hcell:∀ b' i,G.U b' i->G.U b' i/\w'.cell? ⟨b',i,none⟩=w.cell? ⟨b',i,none⟩:=fun b' i hu=>by
  refine⟨hu,World.cell?_of_block (w:=w) (hold b' ?_)⟩
  rintro rfl
  exact (h.store.blk k b' cs hk hcs).noU i hu
 have ownK:∀ l xs v,AR w G l xs v->AR w' G l xs v:=fun l xs v ho=>ho.keep fun b2 hb2=>⟨hb2,hold b2 (by rintro rfl;exact (h.store.ob b2 (by rw [hb2];simp)).2 hbφ),fun i hi=>hi⟩
 have tagK:∀ l c v,Di w G l c v->Di w' G l c v:=by
  intro l c v ht
  unfold Di at ht ⊢
  split
  . exact ownK _ _ _ ht
  . trivial
 have hnd:=h.store.nodup
 refine⟨?_,?_,?_⟩
 . refine h.ext.trans ⟨hos,htp,hout,by omega,fun i _ h1 _=>hold i (by rintro rfl;exact h1 hbφ),hcell,fun b i hu=>.inl hu,fun b hb=>.inr hb,[],by simp,by simp⟩
 . refine⟨by simp [h.store.len],hnd,fun k2 b2 cs2 h1 h2=>?_,fun b i hu=>by rw [hsz];exact h.store.ub b i hu,fun b hb=>by rw [hsz];exact h.store.ob b hb⟩
   by_cases e:k2=k
   . subst e
     rw [hk] at h1
     obtain rfl:=Ac h1
     rw [List.getElem?_set_self hkl] at h2
     obtain rfl:=Ac h2
     refine⟨⟨o',arr',hb',⟨hlay,hc.size⟩,fun j c hj=>?_⟩,(h.store.blk k2 b cs hk hcs).noU⟩
     have hjl:=List.getElem?_eq_some_iff.1 hj
     obtain⟨h3,h4⟩:=hc.v j hjl.1
     rw [hjl.2] at h3
     have hja:j<arr'.size:=by rw [hc.size];exact hjl.1
     exact⟨arr'.getD j Go.undef,by simp [hja],h4,h3.mono hcell (fun _ _ h=>h),tagK _ _ _ (ht j c hj)⟩
   . rw [List.getElem?_set_ne (fun e2=>e e2.symm)] at h2
     have hne:b2≠b:=by
      rintro rfl
      have h3:=(List.getElem?_eq_some_iff.1 h1)
      have h4:=(List.getElem?_eq_some_iff.1 hk)
      exact e ((List.getElem_inj hnd).1 (h3.2.trans h4.2.symm))
     obtain⟨⟨T2,arr2,h3,h4,h5⟩,h6⟩:=h.store.blk k2 b2 cs2 h1 h2
     refine⟨⟨T2,arr2,(hold b2 hne).trans h3,h4,fun j c hj=>?_⟩,h6⟩
     obtain⟨v,h7,h8,h9,h10⟩:=h5 j c hj
     exact⟨v,h7,h8,h9.mono hcell (fun _ _ h=>h),tagK _ _ _ h10⟩
 . refine⟨fun t=>(h.env.v t).mono hcell (fun _ _ h=>h),fun t=>?_⟩
   have ht':=h.env.tag t
   have hvt:=hvw t
   show El _ _ _ _ _ (st.get t) _
   revert ht' hvt
   generalize st.get t=q
   intro ht' hvt
   cases q with
   |sl xs g =>
    cases g with
    |own=>exact ownK _ _ _ ht'
    |view m =>
     cases m with
     |tmp s=>exact ht'
     |cell k2 j =>
      obtain⟨cs2,b2,h1,h2,h3,h4⟩:=ht'
      by_cases e:k2=k
      . subst e
        rw [hk] at h3
        obtain rfl:=Ac h3
        rw [hcs] at h1
        obtain rfl:=Ac h1
        obtain⟨e1,e2⟩:=hvt xs j _ rfl h2 h4
        exact⟨cs',b,List.getElem?_set_self hkl,e1,hk,e2⟩
      . have hne:b2≠b:=by
         rintro rfl
         have h5:=(List.getElem?_eq_some_iff.1 h3)
         have h6:=(List.getElem?_eq_some_iff.1 hk)
         exact e ((List.getElem_inj hnd).1 (h5.2.trans h6.2.symm))
        refine⟨cs2,b2,?_,h2,h3,?_⟩
        . show (st.σ.set k cs')[k2]?=some cs2
          rw [List.getElem?_set_ne (fun e2=>e e2.symm)];exact h1
        . rw [World.cell?_of_block (w:=w) (hold b2 hne)];exact h4
     |_=>exact ht'
    |_=>trivial
   |tup cs2 =>
    intro i xs hi
    obtain⟨arr2,u,h1,h2,h3⟩:=ht' i xs hi
    exact⟨arr2,u,h1,h2,ownK _ _ _ h3⟩
   |_=>trivial
theorem Inv.setBlock {k b:Nat}{cs cs':List PV}{arr arr':Array Value}{T:TypeId}(h:Inv w0 G0 st tm w G)(hk:G.φ[k]?=some b)(hcs:st.σ[k]?=some cs)(hb:w.heap[b]?=some (.cells arr T (0,0)))
 (hb':w'.heap[b]?=some (.cells arr' T (0,0))) (hm:∀ kvs,PV.mp kvs∉cs') (hold:∀ i,i≠b->w'.heap[i]?=w.heap[i]?) (hos:w'.os=w.os) (htp:w'.tape=w.tape) (hout:w'.output=w.output)
 (hc:D0 w G cs' arr') (ht:∀ j c,cs'[j]?=some c->Di w G (.cell k j) c (arr'.getD j Go.undef))
 (hvw:∀ t xs j,st.get t=.sl xs (.view (.cell k j))->cs'[j]?=cs[j]?/\arr'[j]?=arr[j]?) :
 Inv w0 G0 { st with σ:=st.σ.set k cs' } tm w' G:=by
 refine h.setObj hk hcs hb hb' (.inl ⟨⟨T,rfl⟩,hm⟩) hold hos htp hout hc ht fun t xs j v h1 h2 h4=>?_
 obtain⟨e1,e2⟩:=hvw t xs j h1
 refine⟨by rw [e1];exact h2,?_⟩
 simp only [World.cell?,hb] at h4
 simp only [World.cell?,hb']
 simpa [e2] using h4
theorem Inv.own {b d sz cap:Nat}{xs:List (List PV)}{arr:Array Value}{T:TypeId}(h:Inv w0 G0 st tm w G)(hb:b∉G.φ)(hfree:w.heap.size<=b∨G.Ω b≠none)
 (hno:∀ l,G.Ω b=some l->∀ ys,Ee st l≠.sl ys .own) (hos:w'.os=w.os) (htp:w'.tape=w.tape) (hout:w'.output=w.output) (hsize:w.heap.size<=w'.heap.size)
 (hold:∀ k,k<w.heap.size->k≠b->w'.heap[k]?=w.heap[k]?) (hU:∀ i,G.U b i->w'.cell? ⟨b,i,none⟩=w.cell? ⟨b,i,none⟩/\i<xs.length*sz)
 (hb':w'.heap[b]?=some (.cells arr T (0,0))) (hsz:arr.size=cap*sz) (hne:xs≠[]) (hrow:∀ x∈xs,x.length=sz) (hcap:xs.length<=cap) (hcap2:cap<=9223372036854775807)
 (hv:∀ i (hi:i<xs.length) j (hj:j<(xs[i]).length),V w G.U [] xs[i][j] (arr.getD (i*sz+j) Go.undef)/\(arr.getD (i*sz+j) Go.undef).oneCell'=true) :
 Inv w0 G0 (st.put (some d) (.sl xs .own)) (Gm tm d (.slice (some ⟨b,0,none⟩) xs.length cap)) w' { U:=fun b' i=>G.U b' i∨(b'=b/\i<xs.length*sz),φ:=G.φ,Ω:=fun b'=>if b'=b then some (.tmp d) else G.Ω b' }:=by
 have hcell:∀ b' i,G.U b' i->(G.U b' i∨(b'=b/\i<xs.length*sz))/\w'.cell? ⟨b',i,none⟩=w.cell? ⟨b',i,none⟩:=fun b' i hu=>by
  refine⟨.inl hu,?_⟩
  by_cases e:b'=b
  . subst e;exact (hU i hu).1
  . exact World.cell?_of_block (w:=w) (hold b' (h.store.ub b' i hu) e)
 have hne2:∀ b2 l ys,G.Ω b2=some l->Ee st l=.sl ys .own->b2≠b:=by
  rintro b2 l ys h1 h2 rfl;exact hno l h1 ys h2
 have ownK:∀ l ys v,Ee st l=.sl ys .own->AR w G l ys v->AR w' { U:=fun b' i=>G.U b' i∨(b'=b/\i<xs.length*sz),φ:=G.φ,Ω:=fun b'=>if b'=b then some (.tmp d) else G.Ω b' } l ys v:=by
  intro l ys v hcl ho
  refine ho.keep fun b2 hb2=>?_
  have hn:=hne2 b2 l ys hb2 hcl
  refine⟨by show (if b2=b then _ else _)=_;rw [if_neg hn];exact hb2,hold b2 (h.store.ob b2 (by rw [hb2];simp)).1 hn,fun i hi=>?_⟩
  rcases hi with hi|hi
  . exact hi
  . exact absurd hi.1 hn
 have hφlt:∀ (k x:Nat),G.φ[k]?=some x->x<w.heap.size/\x≠b:=by
  intro k x hk
  have hkl:k<st.σ.length:=by rw [<- h.store.len];exact (List.getElem?_eq_some_iff.1 hk).1
  obtain⟨⟨T2,arr2,h3,_⟩,_⟩:=h.store.blk k x _ hk (List.getElem?_eq_getElem hkl)
  exact⟨(Array.getElem?_eq_some_iff.1 h3).1,by rintro rfl;exact hb (List.mem_of_getElem? hk)⟩
 have hext:Ext w G w' { U:=fun b' i=>G.U b' i∨(b'=b/\i<xs.length*sz),φ:=G.φ,Ω:=fun b'=>if b'=b then some (.tmp d) else G.Ω b' }:=by
  refine⟨hos,htp,hout,hsize,fun k hk h1 h2=>hold k hk ?_,hcell,fun b' i hu=>?_,fun b' hb2=>?_,[],by simp,by simp⟩
  . rintro rfl
    rcases hfree with h3|h3
    . omega
    . exact h3 h2
  . rcases hu with hu|⟨rfl,_⟩
    . exact .inl hu
    . exact .inr hfree
  . by_cases e:b'=b
    . subst e;exact hfree
    . have:(if b'=b then some (.tmp d) else G.Ω b')≠none:=hb2
      rw [if_neg e] at this
      exact .inr this
 refine⟨h.ext.trans hext,?_,?_⟩
 . rw [J5]
   refine⟨h.store.len,h.store.nodup,fun k x cs h1 h2=>?_,fun b' i hu=>?_,fun b' hb2=>?_⟩
   . obtain⟨hx1,hx2⟩:=hφlt k x h1
     obtain⟨⟨T2,arr2,h3,h4,h5⟩,h6⟩:=h.store.blk k x cs h1 h2
     refine⟨⟨T2,arr2,(hold x hx1 hx2).trans h3,h4,fun j c hj=>?_⟩,fun i hu=>?_⟩
     . obtain⟨v,h7,h8,h9,h10⟩:=h5 j c hj
       refine⟨v,h7,h8,h9.mono hcell (fun _ _ h=>h),?_⟩
       unfold Di at h10 ⊢
       split
       . exact ownK _ _ _ (by simp [Ee,List.getD,h2,hj]) h10
       . trivial
     . rcases hu with hu|hu
       . exact h6 i hu
       . exact hx2 hu.1
   . rcases hu with hu|⟨rfl,_⟩
     . exact Nat.lt_of_lt_of_le (h.store.ub b' i hu) hsize
     . exact (Array.getElem?_eq_some_iff.1 hb').1
   . by_cases e:b'=b
     . subst e;exact⟨(Array.getElem?_eq_some_iff.1 hb').1,hb⟩
     . have:(if b'=b then some (.tmp d) else G.Ω b')≠none:=hb2
       rw [if_neg e] at this
       have:=h.store.ob b' this
       exact⟨Nat.lt_of_lt_of_le this.1 hsize,this.2⟩
 . have henv:H3 w' { U:=fun b' i=>G.U b' i∨(b'=b/\i<xs.length*sz),φ:=G.φ,Ω:=fun b'=>if b'=b then some (.tmp d) else G.Ω b' } st tm:=by
    refine⟨fun t=>(h.env.v t).mono hcell (fun _ _ h=>h),fun t=>?_⟩
    have ht':=h.env.tag t
    have hclm:∀ ys,st.get t=.sl ys .own->Ee st (.tmp t)=.sl ys .own:=fun ys e=>e
    have hclt:∀ cs i ys,st.get t=.tup cs->cs[i]?=some (.sl ys .own)->Ee st (.tcomp t i)=.sl ys .own:=fun cs i ys e e2=>by simp [Ee,e,List.getD,e2]
    revert ht' hclm hclt
    generalize st.get t=q
    intro ht' hclm hclt
    cases q with
    |sl ys g =>
     cases g with
     |own=>exact ownK _ _ _ (hclm ys rfl) ht'
     |view m =>
      cases m with
      |tmp s=>exact ht'
      |cell k j =>
       obtain⟨cs,x,h1,h2,h3,h4⟩:=ht'
       obtain⟨hx1,hx2⟩:=hφlt k x h3
       exact⟨cs,x,h1,h2,h3,by rw [World.cell?_of_block (w:=w) (hold x hx1 hx2)];exact h4⟩
      |_=>exact ht'
     |_=>trivial
    |tup cs =>
     intro i ys hi
     obtain⟨arr2,u,h1,h2,h3⟩:=ht' i ys hi
     exact⟨arr2,u,h1,h2,ownK _ _ _ (hclt cs i ys rfl hi) h3⟩
    |_=>trivial
   have hbnd:∀ i j,i<xs.length->j<sz->i*sz+j<xs.length*sz:=by
    intro i j hi hj
    calc i*sz+j<i*sz+sz:=by omega
     _=(i+1)*sz:=by rw [Nat.add_mul,Nat.one_mul]
     _<=xs.length*sz:=Nat.mul_le_mul_right _ hi
   have hle:xs.length*sz<=arr.size:=by rw [hsz];exact Nat.mul_le_mul_right _ hcap
   refine henv.put d ?_ ?_
   . refine .sl _ _ _ b 0 sz cap (fun i j=>arr.getD (i*sz+j) Go.undef) hcap hcap2 (fun i hi=>hrow _ (List.getElem_mem hi)) (fun i j hi hj=>.inr ⟨rfl,by have:=hbnd i j hi hj;omega⟩) (fun i j hi hj=>?_) (fun i j hi hj=>?_) (fun i hi j hj=>?_) (by simp) (by simp)
     . have:=hbnd i j hi hj
       simp only [World.cell?,hb',Nat.zero_add]
       have h5:i*sz+j<arr.size:=by omega
       simp [h5]
     . have h6:=hrow _ (List.getElem_mem hi)
       exact (hv i hi j (by rw [h6];exact hj)).2
     . exact (hv i hi j hj).1.mono hcell (fun _ _ h=>h)
   . exact .inr ⟨b,cap,sz,T,arr,rfl,hne,hrow,if_pos rfl,hb',hsz,fun i hi=>by
      rcases hi with hi|hi
      . exact (hU i hi).2
      . exact hi.2⟩
end
end Go.Vl
namespace Go.Vl
open Go Go.RowKit
section
variable {w w' w0:World} {G G' G0:Gh} {P:Program} {p q:PV} {v u:Value} {st st':St} {a:Act} {o:Oper} {d:Nat}
theorem CZ (b:Nat)(T:TypeId):∀ (vs:List Value) (o:Nat) (w:World) (arr:Array Value),w.heap[b]?=some (.cells arr T (0,0)) ->
 ∃ arr',(w.setCells b o vs).heap[b]?=some (.cells arr' T (0,0))/\arr'.size=arr.size/\(∀ i,arr'[i]?=if o<=i/\i<o+vs.length/\i<arr.size then vs[i-o]? else arr[i]?) /\
  (∀ i,i≠b->(w.setCells b o vs).heap[i]?=w.heap[i]?)/\(w.setCells b o vs).heap.size=w.heap.size/\(w.setCells b o vs).os=w.os/\(w.setCells b o vs).tape=w.tape/\(w.setCells b o vs).output=w.output
 | [],o,w,arr,h=>⟨arr,h,rfl,fun i=>by rw [if_neg (by simp;omega)],fun _ _=>rfl,rfl,rfl,rfl,rfl⟩
 |x::vs,o,w,arr,h=>by
  have h1:=Go.Q.heap_setCell_same w b o x arr T h
  obtain⟨arr',k1,k2,k3,k4,k5,k6,k7,k8⟩:=CZ b T vs (o+1) _ _ h1
  refine⟨arr',k1,by rw [k2];simp,fun i=>?_,fun i hi=>(k4 i hi).trans (Below.heap_setCell _ _ _ _ hi),by rw [World.setCells,k5];simp [World.setCell],by rw [World.setCells,k6];rfl,by rw [World.setCells,k7];rfl,by rw [World.setCells,k8];rfl⟩
  rw [k3 i]
  simp only [Array.size_setIfInBounds,List.length_cons]
  by_cases e:i=o
  . subst e
    rw [if_neg (by omega)]
    by_cases hs:i<arr.size
    . rw [if_pos (by omega)];simp [hs]
    . rw [if_neg (by omega)];simp [hs]
  . by_cases hc:o+1<=i/\i<o+1+vs.length/\i<arr.size
    . rw [if_pos hc,if_pos (by omega)]
      have:i-o=(i-(o+1))+1:=by omega
      rw [this,List.getElem?_cons_succ]
    . rw [if_neg hc,if_neg (by omega),Array.getElem?_setIfInBounds_ne (fun e2=>e e2.symm)]
theorem KV (T:TypeId)(arr:Array Value)(w:World):(newRow T arr).run P w=.ok ⟨w.heap.size,0,none⟩ (w.alloc (.cells arr T)):=by
 simp only [newRow,Sem.run_bind,run_newObj,Result.andThen_ok,Sem.run_pure];rfl
def zeroV (P:Program)(T:TypeId):Option (List PV):=(G9 P T).map fun z=>z.map C4
def evAlloc (P:Program)(T:TypeId)(st:St)(d:Nat):Option St :=
 (zeroV P T).map fun z=>({ st with σ:=st.σ++[z] }:St).put (some d) (.ptr st.σ.length 0)
theorem AW.lt {σ:List (List PV)}(h:AW w G σ){b:Nat}(hb:b∈G.φ):b<w.heap.size:=by
 obtain⟨k,hk,rfl⟩:=List.getElem_of_mem hb
 have hk2:k<σ.length:=by rw [<- h.len];exact hk
 obtain⟨⟨T,arr,h3,_⟩,_⟩:=h.blk k _ _ (List.getElem?_eq_getElem hk) (List.getElem?_eq_getElem hk2)
 exact (Array.getElem?_eq_some_iff.1 h3).1
theorem Pz {T:TypeId}(h:Inv w0 G0 st (fun t=>a.tmps.getD t Go.undef) w G)(he:evAlloc P T st d=some st') :
 ∃ v w' G',(Instr.alloc T true (.tuple #[])).run P w=.ok v w'/\Inv w0 G0 st' (Gm (fun t=>a.tmps.getD t Go.undef) d v) w' G'/\∀ b∈G.φ,w'.heap[b]?=w.heap[b]?:=by
 unfold evAlloc zeroV at he
 cases hz:G9 P T with
 |none=>rw [hz] at he;cases he
 |some z =>
  rw [hz] at he
  obtain rfl:=Ac he
  obtain⟨zv,hz1,hz2⟩:=Lc (w:=w) (G:=G) hz
  have hc:D0 w G (z.map C4) zv.cells:=⟨by rw [hz2.size];simp,fun i hi=>by
   have hi':i<z.length:=by simpa using hi
   simp only [List.getElem_map]
   exact⟨Mv (hz2.v i hi').1,(hz2.v i hi').2⟩⟩
  obtain⟨h1,h2⟩:=h.newBlock (T:=T) (Kh z) hc (fun j c hj=>by
   rw [List.getElem?_map] at hj
   cases hzj:z[j]? with
   |none=>rw [hzj] at hj;cases hj
   |some y =>
    rw [hzj] at hj
    obtain rfl:=Ac hj
    have hjl:=List.getElem?_eq_some_iff.1 hzj
    have:=(hz2.v j hjl.1).1
    rw [hjl.2] at this
    exact Jg this _)
  refine⟨.pointer (some ⟨w.heap.size,0,none⟩),w.alloc (.cells zv.cells T),_,?_,h1.putPlain d (.ptr _ _ _ _ h2) rfl,?_⟩
  . simp only [Instr.alloc,Sem.run_bind,Lb hz1,Result.andThen_ok,newVar,KV,Sem.run_pure]
  . exact fun b hb=>Below.heap_alloc _ _ _ (h.store.lt hb)
def ownTmp (st:St):Operand->Option (Nat×List (List PV))
 |.tmp s=>match st.get s with|.sl xs .own=>some (s,xs)|_=>none
 |_=>none
theorem K5 {x:Operand}{s:Nat}{xs:List (List PV)}(h:ownTmp st x=some (s,xs)):x=.tmp s/\st.get s=.sl xs .own:=by
 unfold ownTmp at h
 split at h
 . split at h
   . rename_i hg
     simp only [Option.some.injEq,Prod.mk.injEq] at h
     obtain⟨rfl,rfl⟩:=h
     exact⟨rfl,hg⟩
   . cases h
 . cases h
theorem KE (h:(isCell p||isAggP p)=true):isCell p=true∨∃ cs,p=.agg cs:=by
 rw [Bool.or_eq_true] at h
 rcases h with h|h
 . exact .inl h
 . cases p with
   |agg cs=>exact .inr ⟨cs,rfl⟩
   |_=>cases h
theorem MV {xs:List (List PV)}{g:Grow}{φ:List Nat}{U:Nat->Nat->Prop}(h:V w U φ (.sl xs g) v):v.cells = #[v]:=by
 cases h<;>rfl
def evBox (st:St)(d:Nat)(x:Operand):Option St :=
 match ownTmp st x with
 |some (s,xs)=>some (({ (st.put (some s) (.sl xs .shared)) with σ:=st.σ++[[.sl xs .own]] }:St).put (some d) (.ptr st.σ.length 0))
 |none=>if isCell (opd st x)||isAggP (opd st x) then some (({ st with σ:=st.σ++[(cellsP (opd st x)).map C4] }:St).put (some d) (.ptr st.σ.length 0)) else none
theorem Sc {T:TypeId}{x:Operand}(h:Inv w0 G0 st (fun t=>a.tmps.getD t Go.undef) w G)(he:evBox st d x=some st') :
 ∃ v w' G',(Instr.box T (a.eval x)).run P w=.ok v w'/\Inv w0 G0 st' (Gm (fun t=>a.tmps.getD t Go.undef) d v) w' G'/\∀ b∈G.φ,w'.heap[b]?=w.heap[b]?:=by
 have run:∀ v:Value,(Instr.box T v).run P w=.ok (.pointer (some ⟨w.heap.size,0,none⟩)) (w.alloc (.cells v.cells T)):=fun v=>by
  simp only [Instr.box,Sem.run_bind,newVar,KV,Result.andThen_ok,Sem.run_pure]
 have hv:=Ci (a:=a) h.env x
 unfold evBox at he
 split at he
 . rename_i s xs hot
   obtain⟨rfl,hg'⟩:=K5 hot
   obtain rfl:=Ac he
   have hO:AR w G (.tmp s) xs (a.tmps.getD s Go.undef):=by have:=h.env.tag s;rw [hg'] at this;exact this
   have hg:opd st (.tmp s)=.sl xs .own:=hg'
   rw [hg] at hv
   have h1:=(h.share hg').rel (.tmp s) (.cell st.σ.length 0) (fun ys e=>by rw [Ee,Dt,if_pos rfl] at e;cases e)
   have hc:D0 w (G.rel (.tmp s) (.cell st.σ.length 0)) [.sl xs .own] (a.eval (.tmp s)).cells:=by
    have:=hv.cells (.inl rfl)
    exact⟨this.1,fun i hi=>this.2 i hi⟩
   have hcells:=MV hv
   obtain⟨h2,h3⟩:=h1.newBlock (T:=T) (cs:=[.sl xs .own]) (by simp) hc (fun j c hj=>by
    have hj':=List.getElem?_eq_some_iff.1 hj
    have hj0:j=0:=by have:=hj'.1;simp at this;exact this
    subst hj0
    obtain rfl:PV.sl xs .own=c:=by simpa using hj
    rw [hcells,J5]
    exact hO.to rfl F8)
   rw [J5] at h2 h3
   exact⟨_,_,_,run _,h2.putPlain d (.ptr _ _ _ _ h3) rfl,fun b hb=>Below.heap_alloc _ _ _ (h.store.lt hb)⟩
 . split at he
   . rename_i hp
     obtain rfl:=Ac he
     have hcl:=hv.cells (KE hp)
     have hc:D0 w G ((cellsP (opd st x)).map C4) (a.eval x).cells:=⟨by rw [hcl.1];simp,fun i hi=>by
      have hi':i<(cellsP (opd st x)).length:=by simpa using hi
      simp only [List.getElem_map]
      exact⟨Mv (hcl.2 i hi').1,(hcl.2 i hi').2⟩⟩
     obtain⟨h2,h3⟩:=h.newBlock (T:=T) (Kh _) hc (fun j c hj=>by
      rw [List.getElem?_map] at hj
      cases hzj:(cellsP (opd st x))[j]? with
      |none=>rw [hzj] at hj;cases hj
      |some y =>
       rw [hzj] at hj
       obtain rfl:=Ac hj
       have hjl:=List.getElem?_eq_some_iff.1 hzj
       have:=(hcl.2 j hjl.1).1
       rw [hjl.2] at this
       exact Jg this _)
     exact⟨_,_,_,run _,h2.putPlain d (.ptr _ _ _ _ h3) rfl,fun b hb=>Below.heap_alloc _ _ _ (h.store.lt hb)⟩
   . cases he
def splice (cs:List PV)(o:Nat)(ns:List PV):List PV:=cs.take o++ns++cs.drop (o+ns.length)
def evStore (P:Program)(T:TypeId)(st:St)(x y:Operand):Option (Bool×St) :=
 match opd st x,IK P T with
 |.ptr b o,some n =>
  match DP st.σ[b]? with
  |some cs =>
   match ownTmp st y with
   |some (s,xs)=>some (decide (n=1/\o<cs.length),{ ((st.put (some s) (.sl xs .shared)).stripC b o 1) with σ:=st.σ.set b (splice cs o [.sl xs .own]) })
   |none=>if isCell (opd st y)||isAggP (opd st y) then some (decide ((cellsP (opd st y)).length=n/\o+n<=cs.length),{ (st.stripC b o n) with σ:=st.σ.set b (splice cs o ((cellsP (opd st y)).map C4)) }) else none
  |none=>none
 |_,_=>none
theorem PL {cs ns:List PV}{o:Nat}(h:o+ns.length<=cs.length)(i:Nat):(splice cs o ns)[i]?=if o<=i/\i<o+ns.length then ns[i-o]? else cs[i]?:=by
 unfold splice
 have hl:(cs.take o).length=o:=by simp;omega
 by_cases h1:i<o
 . rw [if_neg (by omega),List.getElem?_append_left (by simp;omega),List.getElem?_append_left (by omega)]
   simp [h1]
 . by_cases h2:i<o+ns.length
   . rw [if_pos (by omega),List.getElem?_append_left (by simp;omega),List.getElem?_append_right (by omega),hl]
   . rw [if_neg (by omega),List.getElem?_append_right (by simp;omega)]
     simp only [List.length_append,hl,List.getElem?_drop]
     congr 1;omega
theorem L6 {cs ns:List PV}{o:Nat}(h:o+ns.length<=cs.length):(splice cs o ns).length=cs.length:=by
 unfold splice;simp;omega
theorem MJ {k b o:Nat}{cs ns:List PV}{vs:List Value}(h:Inv w0 G0 st (fun t=>a.tmps.getD t Go.undef) w G)(hk:G.φ[k]?=some b)(hcs:st.σ[k]?=some cs)(hnm:∀ kvs,cs≠[.mp kvs])(hns:∀ kvs,PV.mp kvs∉ns)(hl:o+ns.length<=cs.length)(hlen:vs.length=ns.length)
 (hv:∀ i (hi:i<ns.length),V w G.U G.φ ns[i] (vs.getD i Go.undef)/\(vs.getD i Go.undef).oneCell'=true) (ht:∀ i (hi:i<ns.length),Di w G (.cell k (o+i)) ns[i] (vs.getD i Go.undef))
 (hvw:∀ t xs j,st.get t=.sl xs (.view (.cell k j))->j<o∨o+ns.length<=j) :
 (storeCells ⟨b,o,none⟩ vs).run P w=.ok () (w.setCells b o vs)/\Inv w0 G0 { st with σ:=st.σ.set k (splice cs o ns) } (fun t=>a.tmps.getD t Go.undef) (w.setCells b o vs) G:=by
 obtain⟨⟨o',arr,hb,⟨hlay,hsz⟩,hcell⟩,hnoU⟩:=h.store.blk k b cs hk hcs
 obtain⟨T,rfl⟩:=hlay.cells hnm
 have hno:∀ kvs,PV.mp kvs∉cs:=by
  rcases hlay with hl2|⟨kvs,_,_,e,_⟩
  . exact hl2.2
  . exact absurd e (hnm kvs)
 obtain⟨arr',k1,k2,k3,k4,k5,k6,k7,k8⟩:=CZ b T vs o w arr hb
 have hin:∀ j,j<vs.length->(w.cell? ⟨b,o+0+j,none⟩).isSome=true:=by
  intro j hj
  have:o+j<arr.size:=by omega
  simp [World.cell?,hb,this]
 have hrun:=run_storeCells_cells (P:=P) b o vs 0 w hin (fun j hj=>by simp only [World.frozen?,hb];simp) (fun u hu=>by
  obtain⟨i,hi,rfl⟩:=List.getElem_of_mem hu
  have:=(hv i (by omega)).2
  simpa [hi] using this)
 refine⟨by simpa using hrun,?_⟩
 have hgd:∀ i,arr'.getD i Go.undef=if o<=i/\i<o+vs.length/\i<arr.size then vs.getD (i-o) Go.undef else arr.getD i Go.undef:=by
  intro i
  rw [Array.getD_eq_getD_getElem?,k3 i]
  split
  . simp [List.getD]
  . simp
 have hspl:=PL (cs:=cs) (ns:=ns) (o:=o) hl
 refine h.setBlock hk hcs hb k1 (fun kvs hm=>?_) k4 k6 k7 k8 ⟨by rw [k2,hsz,L6 hl],fun i hi=>?_⟩ (fun j c hj=>?_) (fun t xs j hj=>?_)
 . unfold splice at hm
   rcases List.mem_append.1 hm with hm|hm
   . rcases List.mem_append.1 hm with hm|hm
     . exact hno kvs (List.mem_of_mem_take hm)
     . exact hns kvs hm
   . exact hno kvs (List.mem_of_mem_drop hm)
 . have hi':i<cs.length:=by rw [<- L6 hl];exact hi
   have e:=hspl i
   rw [List.getElem?_eq_getElem hi] at e
   rw [hgd i]
   by_cases hc:o<=i/\i<o+ns.length
   . rw [if_pos hc,List.getElem?_eq_getElem (show i-o<ns.length by omega)] at e
     rw [if_pos (by omega),Ac e]
     exact hv (i-o) (by omega)
   . rw [if_neg hc,List.getElem?_eq_getElem hi'] at e
     rw [if_neg (by omega),Ac e]
     obtain⟨v,h1,h2,h3,_⟩:=hcell i cs[i] (List.getElem?_eq_getElem hi')
     have:arr.getD i Go.undef=v:=by simp [h1]
     rw [this];exact⟨h3,h2⟩
 . rw [hspl j] at hj
   rw [hgd j]
   by_cases hc:o<=j/\j<o+ns.length
   . rw [if_pos hc] at hj
     rw [if_pos (by omega)]
     have hj':=List.getElem?_eq_some_iff.1 hj
     have:=ht (j-o) hj'.1
     rw [hj'.2,show o+(j-o)=j by omega] at this
     exact this
   . rw [if_neg hc] at hj
     have hj':=(List.getElem?_eq_some_iff.1 hj).1
     rw [if_neg (by omega)]
     obtain⟨v,h1,h2,h3,h4⟩:=hcell j c hj
     have:arr.getD j Go.undef=v:=by simp [h1]
     rw [this];exact h4
 . have:=hvw t xs j hj
   rw [hspl j,k3 j,if_neg (by omega),if_neg (by omega)]
   exact⟨rfl,rfl⟩
theorem HU {b i:Nat}(hi:i≠b):∀ (vs:List Value) (o:Nat) (w:World),(w.setCells b o vs).heap[i]?=w.heap[i]?
 | [],_,_=>rfl
 |v::vs,o,w=>by
  show ((w.setCell ⟨b,o,none⟩ v).setCells b (o+1) vs).heap[i]?=_
  rw [HU hi vs];exact Below.heap_setCell _ _ _ _ hi
theorem Iq {T:TypeId}{x y:Operand}(h:Inv w0 G0 st (fun t=>a.tmps.getD t Go.undef) w G)(he:evStore P T st x y=some (true,st')) :
 ∃ w' G',(Instr.storeAt T (a.eval x) (a.eval y)).run P w=.ok () w'/\Inv w0 G0 st' (fun t=>a.tmps.getD t Go.undef) w' G' /\
  ∀ k o kb,opd st x=.ptr k o->G.φ[k]?=some kb->∀ b,b≠kb->w'.heap[b]?=w.heap[b]?:=by
 unfold evStore at he
 have hx:=Ci (a:=a) h.env x
 have hy:=Ci (a:=a) h.env y
 split at he
 . rename_i k o n hxp hn
   rw [hxp] at hx
   revert hx
   generalize a.eval x=xv
   intro hx
   cases hx with
   |ptr _ _ _ b hk =>
   have run:∀ (v:Value),v.cells.size=n->∀ w',(storeCells ⟨b,o,none⟩ v.cells.toList).run P w=.ok () w'->(Instr.storeAt T (.pointer (some ⟨b,o,none⟩)) v).run P w=.ok () w':=by
    intro v hv w' hr
    simp only [Instr.storeAt,Instr.sureAddr,storeVar,Sem.run_bind,Sem.run_pure,Result.andThen_ok,Eg hn,Sem.run_ite]
    rw [if_neg (by simp [hv])]
    simp only [hr]
   split at he
   . rename_i cs hcs
     obtain⟨hcs,hnm⟩:=Gu hcs
     split at he
     . rename_i s xs hot
       obtain⟨rfl,hg'⟩:=K5 hot
       simp only [Option.some.injEq,Prod.mk.injEq,decide_eq_true_eq] at he
       obtain⟨⟨rfl,ho⟩,rfl⟩:=he
       have hO:AR w G (.tmp s) xs (a.tmps.getD s Go.undef):=by have:=h.env.tag s;rw [hg'] at this;exact this
       have hg:opd st (.tmp s)=.sl xs .own:=hg'
       rw [hg] at hy
       have hcells:=MV hy
       have h1:=(h.share hg').rel (.tmp s) (.cell k o) (fun ys e=>by rw [Ee,Dt,if_pos rfl] at e;cases e)
       have hst:=MJ (P:=P) (h1.stripC k o 1) (o:=o) (cs:=cs) (ns:=[.sl xs .own]) (vs:=(a.eval (.tmp s)).cells.toList) hk (by show (st.put _ _).σ[k]?=_;rw [J5];exact hcs) hnm (by simp) (by simp;omega) (by rw [hcells];rfl)
        (fun i hi=>by
         have hi0:i=0:=by simpa using hi
         subst hi0
         rw [hcells]
         exact⟨hy,hy.oneCell rfl⟩)
        (fun i hi=>by
         have hi0:i=0:=by simpa using hi
         subst hi0
         rw [hcells]
         exact hO.to rfl F8)
        (fun t ys j hj=>by
         rw [EI] at hj
         revert hj
         generalize (st.put (some s) (.sl xs .shared)).get t=q
         intro hj
         unfold stripC at hj
         split at hj
         . split at hj
           . cases hj
           . rename_i hno
             simp only [PV.sl.injEq,Grow.view.injEq,Loc.cell.injEq] at hj
             obtain⟨_,rfl,rfl⟩:=hj
             simp only [List.length_singleton];omega
         . rename_i hno;exact absurd hj (hno ys k j))
       refine⟨_,G.rel (.tmp s) (.cell k o),run _ (by rw [hcells];rfl) _ hst.1,?_,fun k2 o2 kb e1 e2 b hb=>?_⟩
       rotate_left
       . obtain⟨rfl,rfl⟩:=PV.ptr.inj (hxp.symm.trans e1)
         obtain rfl:=Ac (hk.symm.trans e2)
         exact HU hb _ _ _
       have:=hst.2
       have e:((st.put (some s) (.sl xs .shared)).stripC k o 1).σ=st.σ:=J5 _ _ _
       rw [e] at this;exact this
     . split at he
       . rename_i hp
         simp only [Option.some.injEq,Prod.mk.injEq,decide_eq_true_eq] at he
         obtain⟨⟨hln,ho⟩,rfl⟩:=he
         have hcl:=hy.cells (KE hp)
         have hst:=MJ (P:=P) (h.stripC k o n) (o:=o) (cs:=cs) (ns:=(cellsP (opd st y)).map C4) (vs:=(a.eval y).cells.toList) hk hcs hnm (Kh _) (by simp;omega) (by simp [hcl.1])
          (fun i hi=>by
           have hi':i<(cellsP (opd st y)).length:=by simpa using hi
           simp only [List.getElem_map]
           have h3:=hcl.2 i hi'
           have e:(a.eval y).cells.toList.getD i Go.undef=(a.eval y).cells.getD i Go.undef:=by simp [List.getD]
           rw [e]
           exact⟨Mv h3.1,h3.2⟩)
          (fun i hi=>by
           have hi':i<(cellsP (opd st y)).length:=by simpa using hi
           simp only [List.getElem_map]
           have h3:=hcl.2 i hi'
           have e:(a.eval y).cells.toList.getD i Go.undef=(a.eval y).cells.getD i Go.undef:=by simp [List.getD]
           rw [e]
           exact Jg h3.1 _)
          (fun t xs j hj=>by
           rw [EI] at hj
           revert hj
           generalize st.get t=q
           intro hj
           unfold stripC at hj
           split at hj
           . split at hj
             . cases hj
             . rename_i hno
               simp only [PV.sl.injEq,Grow.view.injEq,Loc.cell.injEq] at hj
               obtain⟨_,rfl,rfl⟩:=hj
               simp only [List.length_map,hln];omega
           . rename_i hno;exact absurd hj (hno xs k j))
         refine⟨_,G,run _ (by rw [hcl.1,hln]) _ hst.1,hst.2,fun k2 o2 kb e1 e2 b hb=>?_⟩
         obtain⟨rfl,rfl⟩:=PV.ptr.inj (hxp.symm.trans e1)
         obtain rfl:=Ac (hk.symm.trans e2)
         exact HU hb _ _ _
       . cases he
   . cases he
 . cases he
end
end Go.Vl
namespace Go.Vl
open Go Go.RowKit
def Uh (P:Program)(t:TypeId):Option (Nat×Nat) :=
 match P.underlying t with
 |some (.slice e)=>match P.info? e with
  |some i=>match i.zero with
   |some z=>if z.cells.size=i.size/\0<i.size/\z.cells.toList.all Value.oneCell'=true then some (i.size,i.bytes) else none
   |none=>none
  |none=>none
 |_=>none
section
variable {w w' w0:World} {G G' G0:Gh} {P:Program} {p q:PV} {v u:Value} {st st':St} {a:Act} {o:Oper} {d:Nat} {U:Nat->Nat->Prop} {φ:List Nat}
theorem Mt {t sz bytes:Nat}(h:Uh P t=some (sz,bytes)):∃ e i z,P.underlying t=some (.slice e)/\P.info? e=some i/\i.zero=some z/\i.size=sz/\i.bytes=bytes/\z.cells.size=sz/\0<sz/\z.cells.toList.all Value.oneCell'=true:=by
 unfold Uh at h
 split at h
 . rename_i e hu
   split at h
   . rename_i i hi
     split at h
     . rename_i z hz
       split at h
       . rename_i hc
         simp only [Option.some.injEq,Prod.mk.injEq] at h
         obtain⟨rfl,rfl⟩:=h
         exact⟨e,i,z,hu,hi,hz,rfl,rfl,hc.1,hc.2.1,hc.2.2⟩
       . cases h
     . cases h
   . cases h
 . cases h
structure Flat (w:World) (U:Nat->Nat->Prop) (xs:List (List PV)) (sz:Nat) (vs:List Value):Prop where
 len:vs.length=xs.length*sz
 row:∀ x∈xs,x.length=sz
 v:∀ i (hi:i<xs.length) j (hj:j<(xs[i]).length),V w U [] xs[i][j] (vs.getD (i*sz+j) Go.undef)
 one:∀ u∈vs,u.oneCell'=true
theorem Jm {n sz i j:Nat}(hi:i<n)(hj:j<sz):i*sz+j<n*sz:=by
 calc i*sz+j<i*sz+sz:=by omega
  _=(i+1)*sz:=by rw [Nat.add_mul,Nat.one_mul]
  _<=n*sz:=Nat.mul_le_mul_right _ hi
theorem QU {sz i j:Nat}(hj:j<sz):(i*sz+j) / sz=i/\(i*sz+j) % sz=j:=by
 constructor
 . rw [Nat.mul_comm,Nat.mul_add_div (by omega),Nat.div_eq_of_lt hj,Nat.add_zero]
 . rw [Nat.mul_comm,Nat.mul_add_mod,Nat.mod_eq_of_lt hj]
theorem No {P:Program}(sz:Nat)(A:Option Addr)(w:World):(Builtin.firstCells sz 0 (.slice A 0 0)).run P w=.ok #[] w:=by
 cases A with
 |none=>exact run_firstCells_none _ _ _ _ _
 |some A=>exact run_firstCells_some _ _ _ _ _ _ [] (by simp) (fun j u hj=>by cases hj)
theorem JD {xs:List (List PV)}{g:Grow}{sz:Nat}(h:V w U φ (.sl xs g) v)(hsz:0<sz)(hrow:xs.all (fun x=>x.length == sz)=true) :
 ∃ vs,Flat w U xs sz vs/\(((∃ A,v=.slice A 0 0)/\xs=[])∨∃ b o cap,v=.slice (some ⟨b,o,none⟩) xs.length cap/\xs.length<=cap/\cap<=9223372036854775807/\(g=.full->cap=xs.length)/\∀ j u,vs[j]?=some u->w.cell? ⟨b,o+j,none⟩=some u/\U b (o+j)):=by
 have hr:∀ x∈xs,x.length=sz:=by
  rw [List.all_eq_true] at hrow
  intro x hx;simpa using hrow x hx
 cases h with
 |nil=>exact⟨[],⟨by simp,by simp,by simp,by simp⟩,.inl ⟨⟨_,rfl⟩,rfl⟩⟩
 |emp=>exact⟨[],⟨by simp,by simp,by simp,by simp⟩,.inl ⟨⟨_,rfl⟩,rfl⟩⟩
 |sl _ _ _ b o sz' cap us hc hm hs hU hw h1 hv hf hg =>
  have key:∀ i,i<xs.length->sz'=sz:=fun i hi=>by rw [<- hs i hi];exact hr _ (List.getElem_mem hi)
  refine⟨(List.range (xs.length*sz)).map fun q=>us (q / sz) (q % sz),⟨by simp,hr,fun i hi j hj=>?_,fun u hu=>?_⟩,.inr ⟨b,o,cap,rfl,hc,hm,hf,fun j u hj=>?_⟩⟩
  . have hj':j<sz:=by rw [<- hr _ (List.getElem_mem hi)];exact hj
    have hlt:=Jm hi hj'
    have e:((List.range (xs.length*sz)).map fun q=>us (q / sz) (q % sz)).getD (i*sz+j) Go.undef=us i j:=by
     simp [List.getD,hlt,(QU hj').1,(QU hj').2]
    rw [e];exact hv i hi j hj
  . obtain⟨q,hq,rfl⟩:=List.mem_map.1 hu
    have hq':q<xs.length*sz:=by simpa using hq
    have hi:q / sz<xs.length:=(Nat.div_lt_iff_lt_mul hsz).2 hq'
    exact h1 _ _ hi (by rw [key _ hi];exact Nat.mod_lt _ hsz)
  . obtain⟨hq,rfl⟩:=Mn j u hj
    have hi:j / sz<xs.length:=(Nat.div_lt_iff_lt_mul hsz).2 hq
    have e:=key _ hi
    subst e
    have hj2:=Nat.mod_lt j hsz
    have e2:o+j / sz'*sz'+j % sz'=o+j:=by rw [Nat.add_assoc,Nat.mul_comm,Nat.div_add_mod]
    have:=hw _ _ hi hj2
    have h3:=hU _ _ hi hj2
    rw [e2] at this h3
    exact⟨this,h3⟩
theorem Flat.app {xs ys:List (List PV)}{sz:Nat}{us vs:List Value}(h:Flat w U xs sz us)(k:Flat w U ys sz vs):Flat w U (xs++ys) sz (us++vs):=by
 refine⟨by rw [List.length_append,List.length_append,h.len,k.len,Nat.add_mul],fun x hx=>?_,fun i hi j hj=>?_,fun u hu=>?_⟩
 . rcases List.mem_append.1 hx with hx|hx
   . exact h.row x hx
   . exact k.row x hx
 . have hrow:((xs++ys)[i]).length=sz:=by
    rcases List.mem_append.1 (List.getElem_mem hi) with hx|hx
    . exact h.row _ hx
    . exact k.row _ hx
   have hj':j<sz:=by rw [<- hrow];exact hj
   by_cases hix:i<xs.length
   . have hlt:=Jm hix hj'
     have e1:(xs++ys)[i]=xs[i]:=List.getElem_append_left hix
     have e2:(us++vs).getD (i*sz+j) Go.undef=us.getD (i*sz+j) Go.undef:=by
      simp only [List.getD];rw [List.getElem?_append_left (by rw [h.len];exact hlt)]
     rw [e2]
     have:=h.v i hix j (by rw [<- e1];exact hj)
     simp only [e1];exact this
   . have hiy:i-xs.length<ys.length:=by simp at hi;omega
     have e1:(xs++ys)[i]=ys[i-xs.length]:=List.getElem_append_right (by omega)
     have e3:i*sz+j-us.length=(i-xs.length)*sz+j:=by
      rw [h.len,Nat.sub_mul]
      have:=Nat.mul_le_mul_right sz (show xs.length<=i by omega)
      omega
     have e2:(us++vs).getD (i*sz+j) Go.undef=vs.getD ((i-xs.length)*sz+j) Go.undef:=by
      simp only [List.getD]
      rw [List.getElem?_append_right (by rw [h.len];have:=Nat.mul_le_mul_right sz (show xs.length<=i by omega);omega),e3]
     rw [e2]
     have:=k.v (i-xs.length) hiy j (by rw [<- e1];exact hj)
     simp only [e1];exact this
 . rcases List.mem_append.1 hu with hu|hu
   . exact h.one u hu
   . exact k.one u hu
theorem Inv.newOwn {sz cap:Nat}{xs:List (List PV)}{vs:List Value}{rest:Array Value}{T:TypeId}(h:Inv w0 G0 st (fun t=>a.tmps.getD t Go.undef) w G)(hf:Flat w G.U xs sz vs)(hne:xs≠[])(hrest:rest.size=(cap-xs.length)*sz)(hcap:xs.length<=cap)(hcap2:cap<=9223372036854775807)(dr:Bool) :
 ∃ G',Inv w0 G0 (st.put (some d) (.sl xs .own)) (Gm (fun t=>a.tmps.getD t Go.undef) d (.slice (some ⟨w.heap.size,0,none⟩) xs.length cap)) ((if dr then w.drew else w).alloc (.cells (vs.toArray++rest) T)) G':=by
 have hnφ:w.heap.size∉G.φ:=by
  intro hm
  obtain⟨k,hk,he⟩:=List.getElem_of_mem hm
  have hk2:k<st.σ.length:=by rw [<- h.store.len];exact hk
  obtain⟨⟨T',arr',h3,_⟩,_⟩:=h.store.blk k _ _ (List.getElem?_eq_getElem hk) (List.getElem?_eq_getElem hk2)
  have:=(Array.getElem?_eq_some_iff.1 h3).1
  omega
 have hh:(if dr then w.drew else w).heap=w.heap:=by cases dr<;>rfl
 have hold:∀ k,k<w.heap.size->((if dr then w.drew else w).alloc (.cells (vs.toArray++rest) T)).heap[k]?=w.heap[k]?:=fun k hk=>by
  rw [Below.heap_alloc _ _ _ (by rw [hh];exact hk),hh]
 have hnew:((if dr then w.drew else w).alloc (.cells (vs.toArray++rest) T)).heap[w.heap.size]?=some (.cells (vs.toArray++rest) T (0,0)):=by
  have:=heap_alloc_new (if dr then w.drew else w) (.cells (vs.toArray++rest) T)
  rw [hh] at this;exact this
 refine⟨_,h.own (b:=w.heap.size) (sz:=sz) (cap:=cap) (arr:=vs.toArray++rest) (T:=T) hnφ (.inl (Nat.le_refl _)) (fun l hl=>?_) ?_ ?_ ?_ ?_ (fun k hk _=>hold k hk) (fun i hu=>?_) hnew ?_ hne hf.row hcap hcap2 (fun i hi j hj=>?_)⟩
 . have:=(h.store.ob w.heap.size (by rw [hl];simp)).1;omega
 . cases dr<;>rfl
 . cases dr<;>rfl
 . cases dr<;>rfl
 . simp [hh]
 . have:=h.store.ub _ _ hu;omega
 . have h1:=hf.len
   simp only [Array.size_append,List.size_toArray,hrest,h1]
   rw [<- Nat.add_mul];congr 1;omega
 . have hj':j<sz:=by rw [<- hf.row _ (List.getElem_mem hi)];exact hj
   have hlt:=Jm hi hj'
   rw [<- hf.len] at hlt
   have e:(vs.toArray++rest).getD (i*sz+j) Go.undef=vs.getD (i*sz+j) Go.undef:=by
    simp [Array.getD_eq_getD_getElem?,Array.getElem?_append,hlt,List.getD]
   rw [e]
   refine⟨hf.v i hi j hj,?_⟩
   have:vs.getD (i*sz+j) Go.undef=vs[i*sz+j]:=by simp [List.getD,hlt]
   rw [this];exact hf.one _ (List.getElem_mem hlt)
end
def evAppBase (st:St)(x:Operand):Option (List (List PV)×Bool×St) :=
 match x with
 |.tmp s =>
  match st.get s with
  |.sl xs .own=>some (xs,false,st.put (some s) (.sl xs .shared))
  |.sl xs (.view (.tmp r))=>some (xs,false,st.put (some r) (.sl xs .shared))
  |.sl xs (.view (.cell k j))=>some (xs,false,{ (st.stripC k j 1) with σ:=st.σ.set k ((st.σ.getD k []).set j (.sl xs .shared)) })
  |.sl xs .nil=>some (xs,false,st)
  |.sl xs .full=>some (xs,true,st)
  |_=>none
 |.const c=>match absC c with
  |.sl xs .nil=>some (xs,false,st)
  |_=>none
 |_=>none
def Fg (s:ByteArray):List (List PV):=s.data.toList.map fun b=>[.lit (.int .u8 b.toNat)]
def evAppSrc (P:Program)(t sz:Nat)(st:St)(y:Operand):Option (List (List PV)) :=
 match opd st y with
 |.sl ys _=>match QA P t with|some _=>some ys|none=>none
 |.lit (.string s)=>if Gg P t&&sz == 1 then some (Fg s) else none
 |_=>none
def evAppend (P:Program)(c:Call)(st:St)(d:Nat):Option (Bool×St) :=
 match c.callee,c.args.toList,c.argTypes.toList with
 |.builtin .append,[x,y],[t,t'] =>
  match Uh P t,evAppBase st x with
  |some (sz,bytes),some (xs,full,st1) =>
   (evAppSrc P t' sz st y).map fun ys=>(decide ((xs.length+ys.length)*(bytes+1)<=140737488355328)&&(xs.all (fun x=>x.length == sz)&&(ys.all (fun x=>x.length == sz)&&(!full||true))),st1.put (some d) (.sl (xs++ys) (match full with|false=>.own|true=>if ys.isEmpty=true then .full else .own)))
  |_,_=>none
 |_,_,_=>none
section
variable {w w' w0:World} {G G' G0:Gh} {P:Program} {p q:PV} {v u:Value} {st st':St} {a:Act} {o:Oper} {d:Nat} {U:Nat->Nat->Prop} {φ:List Nat}
theorem Inv.shareCell {k j:Nat}{xs:List (List PV)}{cs:List PV}{tm:Nat->Value}(h:Inv w0 G0 st tm w G)(hcs:st.σ[k]?=some cs)(hj:cs[j]?=some (.sl xs .own)) :
 Inv w0 G0 { (st.stripC k j 1) with σ:=st.σ.set k (cs.set j (.sl xs .shared)) } tm w G:=by
 have hkl:k<G.φ.length:=by rw [h.store.len];exact (List.getElem?_eq_some_iff.1 hcs).1
 have hk:G.φ[k]?=some G.φ[k]:=List.getElem?_eq_getElem hkl
 obtain⟨⟨o',arr,hb,⟨hlay,hsz⟩,hcell⟩,hnoU⟩:=h.store.blk k _ cs hk hcs
 have hnm:∀ kvs,cs≠[.mp kvs]:=fun kvs e=>by
  subst e
  match j,hj with
  |0,hj=>cases hj
 obtain⟨T,rfl⟩:=hlay.cells hnm
 have hno:∀ kvs,PV.mp kvs∉cs:=by
  rcases hlay with hl2|⟨kvs,_,_,e,_⟩
  . exact hl2.2
  . exact absurd e (hnm kvs)
 have hjl:=(List.getElem?_eq_some_iff.1 hj).1
 have hget:∀ i,(cs.set j (.sl xs .shared))[i]?=if i=j then some (.sl xs .shared) else cs[i]?:=by
  intro i
  by_cases e:i=j
  . subst e;rw [if_pos rfl,List.getElem?_set_self hjl]
  . rw [if_neg e,List.getElem?_set_ne (fun e2=>e e2.symm)]
 have hget2:∀ i c,(cs.set j (.sl xs .shared))[i]?=some c->∃ u,arr[i]?=some u/\u.oneCell'=true/\V w G.U G.φ c u/\Di w G (.cell k i) c u:=by
  intro i c hi
  rw [hget i] at hi
  by_cases e:i=j
  . subst e
    rw [if_pos rfl] at hi
    obtain rfl:=Ac hi
    obtain⟨u,h1,h2,h3,_⟩:=hcell i _ hj
    exact⟨u,h1,h2,h3.tag (by simp) (by simp),trivial⟩
  . rw [if_neg e] at hi
    exact hcell i c hi
 refine (h.stripC k j 1).setBlock (cs:=cs) (cs':=cs.set j (.sl xs .shared)) hk hcs hb hb (fun kvs hm=>by
  rcases List.mem_or_eq_of_mem_set hm with h1|h1
  . exact hno kvs h1
  . cases h1) (fun _ _=>rfl) rfl rfl rfl ⟨by simpa using hsz,fun i hi=>?_⟩ (fun i c hi=>?_) (fun t ys i hi=>?_)
 . obtain⟨u,h1,h2,h3,_⟩:=hget2 i _ (List.getElem?_eq_getElem hi)
   have:arr.getD i Go.undef=u:=by simp [h1]
   rw [this];exact⟨h3,h2⟩
 . obtain⟨u,h1,h2,h3,h4⟩:=hget2 i c hi
   have:arr.getD i Go.undef=u:=by simp [h1]
   rw [this];exact h4
 . rw [EI] at hi
   have hne:i≠j:=by
    rintro rfl
    revert hi
    generalize st.get t=q
    intro hi
    unfold Vl.stripC at hi
    split at hi
    . split at hi
      . cases hi
      . rename_i hno
        simp only [PV.sl.injEq,Grow.view.injEq,Loc.cell.injEq] at hi
        obtain⟨_,rfl,rfl⟩:=hi
        omega
    . rename_i hno;exact absurd hi (hno ys k i)
   rw [hget i,if_neg hne]
   exact⟨rfl,rfl⟩
theorem It {x:Operand}{xs:List (List PV)}{full:Bool}{st1:St}(h:Inv w0 G0 st (fun t=>a.tmps.getD t Go.undef) w G)(he:evAppBase st x=some (xs,full,st1)) :
 Inv w0 G0 st1 (fun t=>a.tmps.getD t Go.undef) w G /\
 ((full=true/\V w G.U G.φ (.sl xs .full) (a.eval x))∨(full=false/\V w G.U G.φ (.sl xs .shared) (a.eval x)/\((xs=[]/\a.eval x=.slice none 0 0)∨∃ l,AR w G l xs (a.eval x)/\∀ ys,Ee st1 l≠.sl ys .own))):=by
 have ntag:∀ {v:Value},V w G.U G.φ (.sl xs .nil) v->V w G.U G.φ (.sl xs .shared) v/\xs=[]/\v=.slice none 0 0:=by
  intro v hv
  obtain⟨h1,h2⟩:=I6 hv
  exact⟨by rw [h1,h2];exact .nil _ _,h1,h2⟩
 unfold evAppBase at he
 split at he
 . rename_i s
   have hv:V w G.U G.φ (st.get s) (a.eval (.tmp s)):=h.env.v s
   have ht:El w G st (fun t=>a.tmps.getD t Go.undef) s (st.get s) (a.eval (.tmp s)):=h.env.tag s
   split at he
   . rename_i xs' hg
     simp only [Option.some.injEq,Prod.mk.injEq] at he
     obtain⟨rfl,rfl,rfl⟩:=he
     rw [hg] at hv ht
     refine⟨h.share hg,.inr ⟨rfl,hv.tag (by simp) (by simp),.inr ⟨_,ht,fun ys e=>?_⟩⟩⟩
     rw [Ee,Dt,if_pos rfl] at e;cases e
   . rename_i xs' r hg
     simp only [Option.some.injEq,Prod.mk.injEq] at he
     obtain⟨rfl,rfl,rfl⟩:=he
     rw [hg] at hv ht
     have htr:=h.env.tag r
     rw [ht.1] at htr
     refine⟨h.share ht.1,.inr ⟨rfl,hv.tag (by simp) (by simp),.inr ⟨.tmp r,?_,fun ys e=>?_⟩⟩⟩
     . have e2:a.eval (.tmp s)=a.tmps.getD r Go.undef:=ht.2.symm
       rw [e2];exact htr
     . rw [Ee,Dt,if_pos rfl] at e;cases e
   . rename_i xs' k j hg
     simp only [Option.some.injEq,Prod.mk.injEq] at he
     obtain⟨rfl,rfl,rfl⟩:=he
     rw [hg] at hv ht
     obtain⟨cs,b,h1,h2,h3,h4⟩:=ht
     have e1:st.σ.getD k []=cs:=by simp [List.getD,h1]
     rw [e1]
     obtain⟨⟨o',arr,hb,⟨hlay,hsz⟩,hcell⟩,hnoU⟩:=h.store.blk k b cs h3 h1
     obtain⟨T,rfl⟩:=hlay.cells fun kvs e=>by
      subst e
      match j,h2 with
      |0,h2=>cases h2
     obtain⟨u,k1,k2,k3,k4⟩:=hcell j _ h2
     have e2:a.eval (.tmp s)=u:=by
      simp only [World.cell?,hb] at h4
      have:arr[j]?=some (a.eval (.tmp s)):=by simpa using h4
      rw [k1] at this;exact (Ac this).symm
     refine⟨h.shareCell h1 h2,.inr ⟨rfl,hv.tag (by simp) (by simp),.inr ⟨.cell k j,by rw [e2];exact k4,fun ys e=>?_⟩⟩⟩
     have hkl:=(List.getElem?_eq_some_iff.1 h1).1
     have hjl:=(List.getElem?_eq_some_iff.1 h2).1
     simp [Ee,List.getD,hkl,hjl] at e
   . rename_i xs' hg
     simp only [Option.some.injEq,Prod.mk.injEq] at he
     obtain⟨rfl,rfl,rfl⟩:=he
     rw [hg] at hv
     obtain⟨n1,n2,n3⟩:=ntag hv
     exact⟨h,.inr ⟨rfl,n1,.inl ⟨n2,n3⟩⟩⟩
   . rename_i xs' hg
     simp only [Option.some.injEq,Prod.mk.injEq] at he
     obtain⟨rfl,rfl,rfl⟩:=he
     rw [hg] at hv
     exact⟨h,.inl ⟨rfl,hv⟩⟩
   . cases he
 . rename_i c
   have hv:V w G.U G.φ (absC c) (a.eval (.const c)):=Js c
   split at he
   . rename_i xs' hc
     simp only [Option.some.injEq,Prod.mk.injEq] at he
     obtain⟨rfl,rfl,rfl⟩:=he
     rw [hc] at hv
     obtain⟨n1,n2,n3⟩:=ntag hv
     exact⟨h,.inr ⟨rfl,n1,.inl ⟨n2,n3⟩⟩⟩
   . cases he
 . cases he
theorem MC (s:ByteArray):Flat w U (Fg s) 1 (byteCells s):=by
 refine⟨by simp [Fg,byteCells],fun x hx=>?_,fun i hi j hj=>?_,fun u hu=>?_⟩
 . obtain⟨b,_,rfl⟩:=List.mem_map.1 hx;rfl
 . have hi':i<s.data.toList.length:=by simpa [Fg] using hi
   have e1:(Fg s)[i]=[.lit (.int .u8 (s.data.toList[i]).toNat)]:=by simp [Fg]
   have hj0:j=0:=by rw [e1] at hj;simpa using hj
   subst hj0
   have e2:(byteCells s).getD (i*1+0) Go.undef=.int .u8 (s.data.toList[i]).toNat:=by
    simp only [Nat.mul_one,Nat.add_zero,byteCells,List.getD,List.getElem?_map,List.getElem?_eq_getElem hi',Option.map_some,Option.getD_some]
   rw [e2];simp only [e1];exact .lit _ _
 . unfold byteCells at hu
   obtain⟨b,_,rfl⟩:=List.mem_map.1 hu;rfl
theorem IS {t:TypeId}{y:Operand}{ys:List (List PV)}{sz:Nat}(h:H3 w G st fun t=>a.tmps.getD t Go.undef)(he:evAppSrc P t sz st y=some ys)(hsz:0<sz)(hall:ys.all (fun x=>x.length == sz)=true) :
 ∃ vs,Flat w G.U ys sz vs/\Src P sz t (a.eval y) ys.length vs w:=by
 have hv:=Ci (a:=a) h y
 unfold evAppSrc at he
 split at he
 . rename_i ys' g hg
   split at he
   . rename_i nn hs
     obtain rfl:=Ac he
     obtain⟨e',_,hu,_⟩:=HM (n:=nn.1) (m:=nn.2) hs
     rw [hg] at hv
     obtain⟨vs,h1,h2⟩:=JD hv hsz hall
     refine⟨vs,h1,?_⟩
     rcases h2 with⟨⟨A,h3⟩,h4⟩|⟨b,o,cap,h3,h4,h5,_,h6⟩
     . subst h4
       have:vs=[]:=List.eq_nil_of_length_eq_zero (by rw [h1.len];simp)
       subst this
       rw [h3]
       cases A with
       |none=>exact Src.ofNil w hu 0
       |some A=>exact Src.ofSlice w hu A 0 0 [] (by simp) (fun j u hj=>by cases hj) (by simp)
     . rw [h3]
       exact Src.ofSlice w hu ⟨b,o,none⟩ _ cap vs h1.len (fun j u hj=>by rw [addr_add];exact (h6 j u hj).1) h1.one
   . cases he
 . rename_i s hg
   split at he
   . rename_i hs
     obtain rfl:=Ac he
     simp only [Bool.and_eq_true,beq_iff_eq] at hs
     obtain⟨hs,rfl⟩:=hs
     have hu:P.underlying t=some .string:=by unfold Gg at hs;split at hs<;>simp_all
     rw [hg] at hv
     have ev:a.eval y=.string s:=by
      revert hv;generalize a.eval y=z;intro hv
      cases hv with
      |lit _ _=>rfl
     have hlen:(Fg s).length=s.size:=by simp [Fg]
     refine⟨_,MC s,?_⟩
     rw [ev,hlen]
     exact Src.ofString w hu s
   . cases he
 . cases he
theorem Ok {c:Call}(h:Inv w0 G0 st (fun t=>a.tmps.getD t Go.undef) w G)(hop:o.op=.call c)(he:evAppend P c st d=some (true,st')) :
 ∃ v w' G',(execOp a.eval o).run P w=.ok (.value v) w'/\Inv w0 G0 st' (Gm (fun t=>a.tmps.getD t Go.undef) d v) w' G'/\∀ b∈G.φ,w'.heap[b]?=w.heap[b]?:=by
 obtain⟨callee,args,ats⟩:=c
 unfold evAppend at he
 simp only at he
 split at he
 . rename_i x y t t' hx ht
   have e1:args = #[x,y]:=by rw [<- Array.toArray_toList (xs:=args),hx]
   have e2:ats = #[t,t']:=by rw [<- Array.toArray_toList (xs:=ats),ht]
   subst e1;subst e2
   have hex:∀ {v w'},(Builtin.append_ #[t,t'] o.type #[a.eval x,a.eval y]).run P w=.ok v w'->(execOp a.eval o).run P w=.ok (.value v) w':=by
    intro v w' hr
    unfold execOp
    rw [hop]
    simp [resolve,invoke,builtin,hr]
   split at he
   . rename_i sz bytes xs full st1 hap hbase
     cases hsrc:evAppSrc P t' sz st y with
     |none=>rw [hsrc] at he;cases he
     |some ys =>
     rw [hsrc] at he
     simp only [Option.map_some,Option.some.injEq,Prod.mk.injEq,Bool.and_eq_true,decide_eq_true_eq] at he
     obtain⟨⟨hbound,hxall,hyall,_⟩,rfl⟩:=he
     obtain⟨e,i,z,hu,hi,hz,rfl,rfl,hzs,hpos,_⟩:=Mt hap
     obtain⟨vs,hfy,hsr⟩:=IS h.env hsrc hpos hyall
     obtain⟨hinv,hcase⟩:=It h hbase
     have hmul:(xs.length+ys.length)*i.bytes+(xs.length+ys.length)<=140737488355328:=by rw [Nat.mul_add,Nat.mul_one] at hbound;exact hbound
     -- a new block
     have grow:∀ (base:Option Addr) (cap:Nat) (us:List Value),a.eval x=.slice base xs.length cap->Flat w G.U xs i.size us->(Builtin.firstCells i.size xs.length (.slice base xs.length cap)).run P w.drew=.ok us.toArray w.drew->cap<xs.length+ys.length->xs++ys≠[] ->
      ∃ v w' G',(execOp a.eval o).run P w=.ok (.value v) w'/\Inv w0 G0 (st1.put (some d) (.sl (xs++ys) .own)) (Gm (fun t=>a.tmps.getD t Go.undef) d v) w' G'/\∀ b∈G.φ,w'.heap[b]?=w.heap[b]?:=by
      intro base cap us hbx hfx hold hlt hne
      have hr:=run_append_grow_src (P:=P) w t t' o.type e i z hu hi hz base xs.length cap us hold (a.eval y) ys.length vs hsr hlt (by omega) (growslice_fits hlt (by omega))
      rw [<- hbx] at hr
      obtain⟨G',hG⟩:=hinv.newOwn (d:=d) (cap:=grownCap w (xs.length+ys.length) cap e) (rest:=Builtin.zeroCells z.cells (grownCap w (xs.length+ys.length) cap e-(xs.length+ys.length))) (T:=e) (hfx.app hfy) hne
       (by rw [size_zeroCells,hzs,List.length_append]) (by rw [List.length_append];exact grownCap_ge _ _ _ _)
       (by have:=grownCap_le_maxLen w (xs.length+ys.length) cap e (by unfold maxLen;omega);unfold maxLen at this;exact this) true
      rw [List.length_append] at hG
      exact⟨_,_,G',hex hr,hG,fun b hb=>Below.heap_alloc w.drew _ _ (h.store.lt hb)⟩
     -- in place
     rcases hcase with⟨rfl,hvx⟩|⟨rfl,hvx,hown⟩
     . obtain⟨us,hfx,hcx⟩:=JD hvx hpos hxall
       by_cases hyne:ys=[]
       . subst hyne
         have hvs:vs=[]:=List.eq_nil_of_length_eq_zero (by rw [hfy.len];simp)
         subst hvs
         refine⟨a.eval x,w,G,hex ?_,?_,fun _ _=>rfl⟩
         . rcases hcx with⟨⟨A,h1⟩,_⟩|⟨b,off,cap,h1,h2,_⟩
           . rw [h1]
             have hk:=hsr.kind
             have hcc:=hsr.cells
             simp only [List.length_nil] at hcc
             cases A<;>rcases hk with⟨e',hk⟩|hk<;>simp [Builtin.append_,run_underlying hu,run_underlying hk,sizeOf,typeInfo,hi,hsr.len,hcc]
             all_goals rfl
           . rw [h1]
             exact run_append_room_src (P:=P) w t t' o.type e i hu hi b off xs.length cap (a.eval y) 0 [] hsr h2 (fun j hj=>by cases hj) (fun j hj=>by cases hj)
         . simp only [List.append_nil,List.isEmpty_nil,if_true]
           exact hinv.putPlain d hvx rfl
       rw [show (match true with|false=>Grow.own|true=>if ys.isEmpty=true then Grow.full else Grow.own)=Grow.own from if_neg (by simpa using hyne)]
       have hylen:0<ys.length:=List.length_pos_iff.2 hyne
       rcases hcx with⟨⟨A,h1⟩,h2⟩|⟨b,off,cap,h1,h2,h3,h4,h5⟩
       . subst h2
         have:us=[]:=List.eq_nil_of_length_eq_zero (by rw [hfx.len];simp)
         subst this
         exact grow A 0 [] h1 hfx (No _ _ _) (by simpa using hylen) (by simpa using hyne)
       . have hcap:=h4 rfl
         exact grow (some ⟨b,off,none⟩) cap us h1 hfx (run_firstCells_some _ _ _ _ _ _ us hfx.len (fun j u hj=>by rw [addr_add];exact (h5 j u hj).1)) (by omega) (by simp [hyne])
     . obtain⟨us,hfx,hcx⟩:=JD hvx hpos hxall
       rcases hown with⟨rfl,hnil⟩|⟨l,ho,hno⟩
       . have:us=[]:=List.eq_nil_of_length_eq_zero (by rw [hfx.len];simp)
         subst this
         by_cases hyne:ys=[]
         . subst hyne
           have hvs:vs=[]:=List.eq_nil_of_length_eq_zero (by rw [hfy.len];simp)
           subst hvs
           refine⟨.slice none 0 0,w,G,hex ?_,?_,fun _ _=>rfl⟩
           . rw [hnil]
             have hk:=hsr.kind
             have hcc:=hsr.cells
             simp only [List.length_nil] at hcc
             rcases hk with⟨e',hk⟩|hk<;>simp [Builtin.append_,run_underlying hu,run_underlying hk,sizeOf,typeInfo,hi,hsr.len,hcc]
           . exact hinv.put d (.nil _ _) (.inl ⟨rfl,rfl⟩)
         . exact grow none 0 [] hnil hfx (run_firstCells_none _ _ _ _ _) (by simpa using List.length_pos_iff.2 hyne) (by simpa using hyne)
       . rcases ho with⟨rfl,hnil⟩|⟨b,cap,sz',T,arr,h1,h2,h3,h4,h5,h6,h7⟩
         . have:us=[]:=List.eq_nil_of_length_eq_zero (by rw [hfx.len];simp)
           subst this
           by_cases hyne:ys=[]
           . subst hyne
             have hvs:vs=[]:=List.eq_nil_of_length_eq_zero (by rw [hfy.len];simp)
             subst hvs
             refine⟨.slice none 0 0,w,G,hex ?_,?_,fun _ _=>rfl⟩
             . rw [hnil]
               have hk:=hsr.kind
               have hcc:=hsr.cells
               simp only [List.length_nil] at hcc
               rcases hk with⟨e',hk⟩|hk<;>simp [Builtin.append_,run_underlying hu,run_underlying hk,sizeOf,typeInfo,hi,hsr.len,hcc]
             . exact hinv.put d (.nil _ _) (.inl ⟨rfl,rfl⟩)
           . exact grow none 0 [] hnil hfx (run_firstCells_none _ _ _ _ _) (by simpa using List.length_pos_iff.2 hyne) (by simpa using hyne)
         . have hsz:sz'=i.size:=by
            have h0:0<xs.length:=List.length_pos_iff.2 h2
            rw [<- h3 _ (List.getElem_mem h0)];exact hfx.row _ (List.getElem_mem h0)
           subst hsz
           rcases hcx with⟨h8,h9⟩|⟨b2,off,cap2,h8,h9,h10,_,h12⟩
           . exact absurd h9 h2
           . rw [h8] at h1
             simp only [Value.slice.injEq,Option.some.injEq,Addr.mk.injEq,and_true,true_and] at h1
             obtain⟨⟨rfl,rfl⟩,rfl⟩:=h1
             by_cases hroom:xs.length+ys.length<=cap2
             . obtain⟨arr',k1,k2,k3,k4,k5,k6,k7,k8⟩:=CZ b2 T vs (0+xs.length*i.size) w arr h5
               have hfit:xs.length*i.size+ys.length*i.size<=arr.size:=by rw [h6,<- Nat.add_mul];exact Nat.mul_le_mul_right _ hroom
               have hvl:=hfy.len
               have hr:=run_append_room_src (P:=P) w t t' o.type e i hu hi b2 0 xs.length cap2 (a.eval y) ys.length vs hsr hroom (fun j hj=>by
                have:xs.length*i.size+j<arr.size:=by omega
                simp [World.cell?,h5,this]) (fun j hj=>by simp only [World.frozen?,h5];simp)
               rw [<- h8] at hr
               have hul:=hfx.len
               have hfl:=hfx.app hfy
               have hbφ:=(hinv.store.ob b2 (by rw [h4];simp)).2
               have hO:=hinv.own (d:=d) (b:=b2) (sz:=i.size) (cap:=cap2) (xs:=xs++ys) (arr:=arr') (T:=T) (w':=w.setCells b2 (0+xs.length*i.size) vs) hbφ (.inr (by rw [h4];simp)) (fun l' hl' ys'=>by
                rw [h4] at hl'
                obtain rfl:=Ac hl'
                exact hno ys') k6 k7 k8 (by rw [k5];exact Nat.le_refl _) (fun k _ hk=>k4 k hk) (fun q hq=>by
                have h13:=h7 q hq
                refine⟨?_,by rw [List.length_append,Nat.add_mul];omega⟩
                simp only [World.cell?,k1,h5]
                simp only [Option.isSome_none,Bool.false_eq_true,if_false]
                rw [k3 q,if_neg (by omega)]) k1 (by rw [k2,h6]) (by simp [h2]) hfl.row (by rw [List.length_append];exact hroom) h10 (fun q hq j hj=>by
                have hj':j<i.size:=by rw [<- hfl.row _ (List.getElem_mem hq)];exact hj
                have hlt:=Jm hq hj'
                rw [List.length_append,Nat.add_mul] at hlt
                have hlt2:q*i.size+j<(us++vs).length:=by rw [List.length_append];omega
                have e:arr'.getD (q*i.size+j) Go.undef=(us++vs).getD (q*i.size+j) Go.undef:=by
                 rw [Array.getD_eq_getD_getElem?,k3 (q*i.size+j),List.getD]
                 by_cases hc:0+xs.length*i.size<=q*i.size+j
                 . rw [if_pos (by omega),List.getElem?_append_right (by omega)]
                   congr 2;omega
                 . rw [if_neg (by omega),List.getElem?_append_left (by omega)]
                   have h14:=h12 (q*i.size+j) _ (List.getElem?_eq_getElem (show q*i.size+j<us.length by omega))
                   have h15:=h14.1
                   simp only [World.cell?,h5,Nat.zero_add] at h15
                   rw [List.getElem?_eq_getElem (show q*i.size+j<us.length by omega)]
                   simpa using congrArg (fun o=>Option.getD o Go.undef) h15
                rw [e]
                refine⟨hfl.v q hq j hj,?_⟩
                have:(us++vs).getD (q*i.size+j) Go.undef=(us++vs)[q*i.size+j]:=by simp only [List.getD];rw [List.getElem?_eq_getElem hlt2];rfl
                rw [this];exact hfl.one _ (List.getElem_mem hlt2))
               rw [List.length_append] at hO
               exact⟨_,_,_,hex hr,hO,fun b hb=>k4 b (fun e=>hbφ (e ▸ hb))⟩
             . exact grow _ cap2 us h8 hfx (run_firstCells_some _ _ _ _ _ _ us hfx.len (fun j u hj=>by rw [addr_add];exact (h12 j u hj).1)) (by omega) (by simp [h2])
   . cases he
 . cases he
end
end Go.Vl
namespace Go.Vl
open Go Go.RowKit
def rowOf (p:PV):List PV:=(cellsP p).map unown
def okRow (sz:Nat)(p:PV):Bool:=(cellsP p).length == sz&&((isCell p||isAggP p)&&PV.fitsL 0 (cellsP p))
def evBuildSlice (P:Program)(t len:Nat)(parts:List (Nat×PV))(st:St)(d:Nat):Option (Bool×St) :=
 match Uh P t with
 |some (sz,_)=>some (decide (parts.map (·.1)=List.range len/\len*sz<=16777216)&&parts.all (fun p=>okRow sz p.2),st.put (some d) (if len=0 then .sl [] .full else .sl (parts.map fun p=>rowOf p.2) .own))
 |none=>none
section
variable {w w' w0:World} {G G' G0:Gh} {P:Program} {p q:PV} {v u:Value} {st st':St} {a:Act} {o:Oper} {d:Nat} {U:Nat->Nat->Prop} {φ:List Nat}
theorem Ox (h:V w U φ (partV p) v):V w U φ (unown p) v:=by
 unfold partV at h
 split at h
 . obtain⟨rfl,rfl⟩:=I6 h
   exact .nil _ _
 . exact h
theorem Mc {N:Nat}(h:p.fits N=true):(unown p).fits N=true:=by
 cases p<;>first|exact h|rfl
theorem Nq (sz:Nat):∀ (parts:List (Nat×PV)) (k:Nat) (done:List PV),done.length=k*sz->parts.map (·.1)=List.range' k parts.length->parts.all (fun p=>okRow sz p.2)=true ->
 fillP (fun i=>some (i*sz,sz)) (done++List.replicate (parts.length*sz) .undef) parts=some (done++(parts.map fun p=>(cellsP p.2).map partV).flatten)
 | [],k,done,_,_,_=>by simp [fillP]
 |(i,p)::parts,k,done,hd,hi,hok=>by
  simp only [List.map_cons,List.length_cons,List.range'_succ,List.cons.injEq] at hi
  obtain⟨rfl,hi2⟩:=hi
  simp only [List.all_cons,Bool.and_eq_true,okRow,beq_iff_eq] at hok
  obtain⟨⟨h1,h2,h3⟩,h4⟩:=hok
  have hbnd:i*sz+sz<=(done++List.replicate ((parts.length+1)*sz) PV.undef).length:=by
   simp [hd,Nat.add_mul]
  simp only [fillP,List.length_cons]
  rw [if_pos ⟨h1,hbnd,by simpa using h2⟩]
  have e1:(done++List.replicate ((parts.length+1)*sz) PV.undef).take (i*sz)=done:=by
   rw [<- hd];simp
  have e2:(done++List.replicate ((parts.length+1)*sz) PV.undef).drop (i*sz+sz)=List.replicate (parts.length*sz) PV.undef:=by
   rw [List.drop_append,List.drop_of_length_le (by omega),List.nil_append,hd,List.drop_replicate]
   congr 1
   rw [Nat.add_mul];omega
  rw [e1,e2]
  have hd2:(done++(cellsP p).map partV).length=(i+1)*sz:=by
   rw [List.length_append,hd,List.length_map,h1,Nat.add_mul,Nat.one_mul]
  have ih:=Nq sz parts (i+1) (done++(cellsP p).map partV) hd2 hi2 (by simpa [okRow] using h4)
  rw [ih]
  simp
theorem KC {sz:Nat}:∀ (rows:List (List PV)),(∀ x∈rows,x.length=sz)->∀ i (hi:i<rows.length) j (hj:j<(rows[i]).length),(rows.flatten)[i*sz+j]?=some rows[i][j]
 | [],_,i,hi,_,_=>by simp at hi
 |x::rows,h,i,hi,j,hj=>by
  have hx:=h x (by simp)
  rw [List.flatten_cons]
  cases i with
  |zero =>
   simp only [Nat.zero_mul,Nat.zero_add]
   have hj':j<x.length:=hj
   rw [List.getElem?_append_left hj',List.getElem?_eq_getElem hj'];rfl
  |succ i =>
   have hi':i<rows.length:=by simpa using hi
   have hj':j<(rows[i]).length:=by simpa using hj
   rw [List.getElem?_append_right (by rw [hx,Nat.add_mul];omega),hx]
   have:=KC rows (fun y hy=>h y (by simp [hy])) i hi' j hj'
   rw [show (i+1)*sz+j-sz=i*sz+j by rw [Nat.add_mul];omega,this];rfl
theorem KB {sz:Nat}:∀ (rows:List (List PV)),(∀ x∈rows,x.length=sz)->rows.flatten.length=rows.length*sz
 | [],_=>by simp
 |x::rows,h=>by
  rw [List.flatten_cons,List.length_append,h x (by simp),KB rows (fun y hy=>h y (by simp [hy])),List.length_cons,Nat.add_mul];omega
theorem Pq (z:Array Value)(i:Nat)(hall:z.toList.all Value.oneCell'=true)(hi:i<z.size):(z[i]!).oneCell'=true:=by
 rw [List.all_eq_true] at hall
 rw [getElem!_pos z i hi]
 exact hall _ (by simp)
theorem Kq {t len:Nat}{parts:List (Nat×PV)}{vals:Array (Nat×Value)}(h:Inv w0 G0 st (fun t=>a.tmps.getD t Go.undef) w G)(hl:parts.length=vals.size)
 (hv:∀ (j:Nat) (p:Nat×PV) (v:Nat×Value),parts[j]?=some p->vals[j]?=some v->p.1=v.1/\V w G.U G.φ p.2 v.2) (he:evBuildSlice P t len parts st d=some (true,st')) :
 ∃ v w' G',(Instr.buildSlice t len vals).run P w=.ok v w'/\Inv w0 G0 st' (Gm (fun t=>a.tmps.getD t Go.undef) d v) w' G'/\∀ b∈G.φ,w'.heap[b]?=w.heap[b]?:=by
 unfold evBuildSlice at he
 split at he
 . rename_i sz bytes hap
   simp only [Option.some.injEq,Prod.mk.injEq,Bool.and_eq_true,decide_eq_true_eq] at he
   obtain⟨⟨⟨hidx,hbig⟩,hok⟩,rfl⟩:=he
   obtain⟨e,i,z,hu,hi,hz,rfl,rfl,hzs,hpos,hone⟩:=Mt hap
   have hlen:parts.length=len:=by have:=congrArg List.length hidx;simpa using this
   have hzero:(P.info? e).bind (·.zero)=some z:=by rw [hi];exact hz
   have hszr:IK P e=some i.size:=by simp [IK,hi]
   by_cases h0:len=0
   . subst h0
     rw [if_pos rfl]
     have hv0:vals = #[]:=by
      have:vals.size=0:=by omega
      exact Array.eq_empty_of_size_eq_zero this
     subst hv0
     refine⟨.slice (some ⟨w.heap.size,0,none⟩) 0 0,w.alloc (.cells #[] e),G,?_,?_,fun b hb=>Below.heap_alloc _ _ _ (h.store.lt hb)⟩
     . simp only [Instr.buildSlice,Sem.run_bind,run_underlying hu,Result.andThen_ok,Eg hszr,Nat.zero_mul,Sem.run_ite]
       simp [Instr.fill,KV,Array.range_zero']
     . have h1:Inv w0 G0 st (fun t=>a.tmps.getD t Go.undef) (w.alloc (.cells #[] e)) G:=by
        have hb:Below w.heap.size w (w.alloc (.cells #[] e)):=(Below.refl _ _).alloc (Nat.le_refl _) _
        have hnb:=h.newBlock (cs:=[]) (arr:=#[]) (T:=e) (by simp) ⟨rfl,fun i hi=>by simp at hi⟩ (fun j c hj=>by simp at hj)
        have hcell:∀ b i,G.U b i->G.U b i/\(w.alloc (.cells #[] e)).cell? ⟨b,i,none⟩=w.cell? ⟨b,i,none⟩:=fun b i hu=>⟨hu,Hr (h.store.ub b i hu)⟩
        have hext:Ext w G (w.alloc (.cells #[] e)) G:=⟨rfl,rfl,rfl,by simp,fun k hk _ _=>Below.heap_alloc _ _ _ hk,hcell,fun b i hu=>.inl hu,fun b hb=>.inr hb,[],by simp,by simp⟩
        have ownK:∀ l xs v,AR w G l xs v->AR (w.alloc (.cells #[] e)) G l xs v:=fun l xs v ho=>ho.alloc _ rfl rfl
        refine⟨h.ext.trans hext,⟨h.store.len,h.store.nodup,fun k b cs h1 h2=>?_,fun b i hu=>by have:=h.store.ub b i hu;simp;omega,fun b hb=>by have:=h.store.ob b hb;exact⟨by simp;omega,this.2⟩⟩,fun t=>(h.env.v t).mono hcell (fun _ _ h=>h),fun t=>?_⟩
        . obtain⟨⟨T2,arr2,h3,h4,h5⟩,h6⟩:=h.store.blk k b cs h1 h2
          refine⟨⟨T2,arr2,(Below.heap_alloc _ _ _ (Array.getElem?_eq_some_iff.1 h3).1).trans h3,h4,fun j c hj=>?_⟩,h6⟩
          obtain⟨v,h7,h8,h9,h10⟩:=h5 j c hj
          refine⟨v,h7,h8,h9.mono hcell (fun _ _ h=>h),?_⟩
          unfold Di at h10 ⊢
          split
          . exact ownK _ _ _ h10
          . trivial
        . have ht:=h.env.tag t
          revert ht
          generalize st.get t=q
          intro ht
          cases q with
          |sl xs g =>
           cases g with
           |own=>exact ownK _ _ _ ht
           |view m =>
            cases m with
            |cell k j =>
             obtain⟨cs,b,h1,h2,h3,h4⟩:=ht
             obtain⟨⟨T',arr',h5,_⟩,_⟩:=h.store.blk k b cs h3 h1
             exact⟨cs,b,h1,h2,h3,by rw [Hr (Array.getElem?_eq_some_iff.1 h5).1];exact h4⟩
            |_=>exact ht
           |_=>trivial
          |tup cs =>
           intro i xs hi
           obtain⟨arr,u,h1,h2,h3⟩:=ht i xs hi
           exact⟨arr,u,h1,h2,ownK _ _ _ h3⟩
          |_=>trivial
       exact h1.putPlain d (.sl _ [] .full w.heap.size 0 i.size 0 (fun _ _=>Go.undef) (by simp) (by omega) (by simp) (by simp) (by simp) (by simp) (by simp) (by simp) (by simp)) rfl
   . rw [if_neg h0]
     have hlen0:0<parts.length:=by omega
     have hfill:=Nq i.size parts 0 [] (by simp) (by rw [hidx,List.range_eq_range',hlen]) hok
     simp only [List.nil_append] at hfill
     -- the cells as they begin
     have hstart:D0 w G (List.replicate (parts.length*i.size) .undef) ((Array.range (len*i.size)).map (z.cells[· % z.cells.size]!)):=by
      refine⟨by simp [hlen],fun q hq=>?_⟩
      have hq':q<len*i.size:=by simpa [hlen] using hq
      refine⟨by simp only [List.getElem_replicate];exact .undef _ _,?_⟩
      have e1:((Array.range (len*i.size)).map (z.cells[· % z.cells.size]!)).getD q Go.undef=z.cells[q % z.cells.size]!:=by simp [hq']
      rw [e1]
      exact Pq _ _ hone (Nat.mod_lt _ (by omega))
     obtain⟨arr',ha,hc⟩:=Mg parts vals.toList _ _ _ hstart (by simpa using hl) (fun j p v h1 h2=>hv j p v h1 (by simpa using h2)) hfill
     have hrun:(Instr.buildSlice t len vals).run P w=.ok (.slice (some ⟨w.heap.size,0,none⟩) len len) (w.alloc (.cells arr' e)):=by
      have hn0:¬ len*i.size=0:=by
       have:=Nat.mul_pos (show 0<len by omega) hpos
       omega
      simp only [Instr.buildSlice,Sem.run_bind,run_underlying hu,Result.andThen_ok,Eg hszr,Sem.run_ite]
      rw [if_neg (by omega)]
      simp only [Sem.run_pure,Result.andThen_ok,hn0,if_false,Lb hzero]
      rw [ha]
      simp only [Sem.run_bind,KV,Result.andThen_ok,Sem.run_pure]
     have hrowlen:∀ x∈parts.map (fun p=>(cellsP p.2).map partV),x.length=i.size:=by
      intro x hx
      obtain⟨p,hp,rfl⟩:=List.mem_map.1 hx
      rw [List.all_eq_true] at hok
      have:=hok p hp
      simp only [okRow,Bool.and_eq_true,beq_iff_eq] at this
      simpa using this.1
     have hflat:Flat w G.U (parts.map fun p=>rowOf p.2) i.size arr'.toList:=by
      refine⟨by simp [hc.size,KB _ hrowlen],fun x hx=>?_,fun q hq j hj=>?_,fun u hu=>?_⟩
      . obtain⟨p,hp,rfl⟩:=List.mem_map.1 hx
        rw [List.all_eq_true] at hok
        have:=hok p hp
        simp only [okRow,Bool.and_eq_true,beq_iff_eq] at this
        simpa [rowOf] using this.1
      . have hq':q<parts.length:=by simpa using hq
        have e1:(parts.map fun p=>rowOf p.2)[q]=rowOf (parts[q]).2:=by simp
        rw [e1] at hj
        have hj2:j<(cellsP (parts[q]).2).length:=by simpa [rowOf] using hj
        have e2:=KC _ hrowlen q (by simpa using hq') j (by simpa using hj2)
        have hlt:=(List.getElem?_eq_some_iff.1 e2)
        have h5:=hc.v _ hlt.1
        rw [hlt.2] at h5
        have e3:arr'.toList.getD (q*i.size+j) Go.undef=arr'.getD (q*i.size+j) Go.undef:=by simp [List.getD]
        rw [e3]
        simp only [e1]
        have e4:(rowOf (parts[q]).2)[j]=unown ((cellsP (parts[q]).2)[j]):=by simp [rowOf]
        rw [e4]
        have h6:=h5.1
        simp only [List.getElem_map] at h6
        have hok2:=hok
        rw [List.all_eq_true] at hok2
        have h7:=hok2 _ (List.getElem_mem hq')
        simp only [okRow,Bool.and_eq_true] at h7
        exact (Ox h6).pure (Mc (DX h7.2.2 j hj2))
      . obtain⟨q,hq,rfl⟩:=List.getElem_of_mem hu
        have hq':q<arr'.size:=by simpa using hq
        have:=(hc.v q (by rw [<- hc.size];exact hq')).2
        simpa [hq'] using this
     have hnerow:(parts.map fun p=>rowOf p.2)≠[]:=by
      intro e2
      have h9:(parts.map fun p=>rowOf p.2).length=0:=by rw [e2];rfl
      rw [List.length_map] at h9;omega
     obtain⟨G',hG⟩:=h.newOwn (d:=d) (cap:=len) (rest:=#[]) (T:=e) hflat hnerow (by simp [hlen]) (by simp [hlen]) (Nat.le_trans (Nat.le_mul_of_pos_right len hpos) (Nat.le_trans hbig (by decide))) false
     simp only [List.length_map,hlen] at hG
     simp only [Bool.false_eq_true,if_false,Array.append_empty,Array.toArray_toList] at hG
     exact⟨_,_,G',hrun,hG,fun b hb=>Below.heap_alloc _ _ _ (h.store.lt hb)⟩
 . cases he
end
end Go.Vl
namespace Go.Vl
open Go Go.RowKit Go.MapKept
mutual
def litOf:PV->Option Value
 |.lit v=>some v
 |.agg cs=>(litsOf cs).map fun l=>.agg l.toArray
 |.fn f []=>some (.func (.func f) #[] #[])
 |_=>none
def litsOf:List PV->Option (List Value)
 | []=>some []
 |p::ps=>match litOf p,litsOf ps with
  |some v,some l=>some (v::l)
  |_,_=>none
end
theorem LO:∀ {cs:List PV} {l:List Value},litsOf cs=some l->l.length=cs.length/\∀ i (h:i<cs.length),∃ v,l[i]?=some v/\litOf cs[i]=some v
 | [],l,h=>by
  simp only [litsOf,Option.some.injEq] at h
  subst h
  exact⟨rfl,fun i hi=>by simp at hi⟩
 |p::ps,l,h=>by
  simp only [litsOf] at h
  split at h
  . rename_i v l2 h1 h2
    simp only [Option.some.injEq] at h
    subst h
    obtain⟨k1,k2⟩:=LO h2
    refine⟨by simp [k1],fun i hi=>?_⟩
    cases i with
    |zero=>exact⟨v,rfl,h1⟩
    |succ i=>exact k2 i (by simpa using hi)
  . cases h
theorem LP {w:World}{U:Nat->Nat->Prop}{φ:List Nat}{p:PV}{u:Value}(h:V w U φ p u):∀ {v:Value},litOf p=some v->u=v:=by
 induction h with
 |lit φ v=>intro v' e;simp only [litOf,Option.some.injEq] at e;exact e
 |agg φ cs arr hn h h1 ih =>
  intro v e
  simp only [litOf,Option.map_eq_some_iff] at e
  obtain⟨l,e1,rfl⟩:=e
  obtain⟨k1,k2⟩:=LO e1
  congr 1
  refine Array.ext (by simp [hn,k1]) fun i hi1 hi2=>?_
  have hi:i<cs.length:=by rw [<- hn];exact hi1
  obtain⟨v,g1,g2⟩:=k2 i hi
  have:=ih i hi g2
  have e3:arr.getD i Go.undef=arr[i]:=by simp [hi1]
  rw [e3] at this
  rw [this]
  have:=(List.getElem?_eq_some_iff.1 g1).2
  simp [this]
 |fn φ f caps arr hn h ih =>
  intro v e
  cases caps with
  |nil =>
   simp only [litOf,Option.some.injEq] at e
   have:arr = #[]:=Array.eq_empty_of_size_eq_zero hn
   rw [this];exact e
  |cons a r=>simp [litOf] at e
 |_=>intro v e;simp [litOf] at e
def Mm (P:Program)(t:TypeId):Bool :=
 match P.underlying t with
 |some (.interface _)=>false
 |some _=>true
 |none=>false
theorem run_makeInterface {P:Program}{t:TypeId}(h:Mm P t=true)(v:Value)(w:World):(Instr.makeInterface t v).run P w=.ok (.iface t v) w:=by
 unfold Mm at h
 cases hu:P.underlying t with
 |none=>rw [hu] at h;cases h
 |some d =>
  rw [hu] at h
  simp only [Instr.makeInterface,Sem.run_bind,run_underlying hu,Result.andThen_ok]
  cases d<;>first|rfl|cases h
theorem LA {P:Program}{t x:TypeId}(h:Mm P t=true)(v:Value)(w:World):(Instr.typeAssert (.iface t v) x t true).run P w=.ok (.tuple #[v,.bool true]) w:=by
 unfold Mm at h
 cases hu:P.underlying t with
 |none=>rw [hu] at h;cases h
 |some d =>
  rw [hu] at h
  simp only [Instr.typeAssert,Sem.run_bind,run_underlying hu,Result.andThen_ok]
  cases d<;>first|(simp;done)|cases h
def Po:Value->PV
 |.agg arr=>if arr.toList.all Value.oneCell'=true then .agg (arr.toList.map absC) else .undef
 |v=>absC v
theorem Vj {w:World}{U:Nat->Nat->Prop}{φ:List Nat}(v:Value):V w U φ (Po v) v:=by
 unfold Po
 split
 . rename_i arr
   split
   . rename_i h
     rw [List.all_eq_true] at h
     refine .agg _ _ arr (by simp) (fun i hi=>?_) (fun i hi=>?_)
     . have hi2:i<arr.size:=by simpa using hi
       simp only [List.getElem_map,Array.getElem_toList]
       rw [Array.getD_eq_getD_getElem?,Array.getElem?_eq_getElem hi2]
       exact Js _
     . rw [Array.getD_eq_getD_getElem?,Array.getElem?_eq_getElem hi]
       exact h _ (by simp)
   . exact .undef _ _
 . exact Js _
theorem RU (v:Value)(xs:List (List PV)):Po v≠.sl xs .own:=by
 unfold Po
 split
 . split<;>simp
 . unfold absC
   split<;>(try split)<;>simp
def RL (P:Program)(t:TypeId):Option (TypeDesc×TypeId) :=
 match P.underlying t with
 |some (.map k e)=>(P.underlying k).map fun d=>(d,e)
 |_=>none
def isKeyB:TypeDesc->Value->Bool
 |.bool,.bool _=>true
 |.int k,.int k' _=>k' == k
 |.string,.string _=>true
 |_,_=>false
theorem DO {d:TypeDesc}{v:Value}(h:isKeyB d v=true):IsKey d v:=by
 unfold isKeyB at h
 split at h
 . trivial
 . simpa [IsKey] using h
 . trivial
 . cases h
def findK (d:TypeDesc)(k:Value):List (Value×Value)->Nat->Option (Option (Nat×Value))
 | [],_=>some none
 |e::es,i=>match Instr.sameNow d k e.1 with
  |some true=>some (some (i,e.2))
  |some false=>findK d k es (i+1)
  |none=>none
theorem GP (d:TypeDesc)(k:Value):∀ (es:List MapEntry) (i:Nat),findK d k (es.map fun e=>(e.key,e.val)) i=Instr.findNow d k es i
 | [],_=>rfl
 |e::es,i=>by
  simp only [List.map_cons,findK,Instr.findNow]
  rw [GP d k es (i+1)]
  cases Instr.sameNow d k e.key with
  |none=>rfl
  |some b=>cases b<;>rfl
def Su (P:Program)(e:TypeId):Option Value:=(P.info? e).bind (·.zero)
def mapAt (st:St)(m:Operand):Option (Nat×List (Value×Value)) :=
 match opd st m with
 |.mref b=>match st.σ[b]? with
  |some [.mp kvs]=>some (b,kvs)
  |_=>none
 |_=>none
def evLookup (P:Program)(t:TypeId)(m k:Operand)(ok:Bool)(st:St):Option (Bool×PV) :=
 match RL P t,mapAt st m,opd st k with
 |some (d,e),some (_,kvs),.lit kv =>
  match findK d kv kvs 0 with
  |some (some (_,v))=>some (isKeyB d kv,if ok then .tup [absC v,.lit (.bool true)] else absC v)
  |some none=>(Su P e).map fun z=>(isKeyB d kv,if ok then .tup [absC z,.lit (.bool false)] else absC z)
  |none=>none
 |_,_,_=>none
def evUpdate (P:Program)(t:TypeId)(m k v:Operand)(st:St):Option (Bool×St) :=
 match RL P t,mapAt st m,opd st k,litOf (opd st v) with
 |some (d,_),some (b,kvs),.lit kv,some vv =>
  match findK d kv kvs 0 with
  |some none=>some (isKeyB d kv,{ st with σ:=st.σ.set b [.mp (kvs++[(kv,vv)])] })
  |some (some (i,_))=>some (isKeyB d kv&&kvs.all (fun e=>isKeyB d e.1),{ st with σ:=st.σ.set b [.mp (kvs.set i (kv,vv))] })
  |none=>none
 |_,_,_,_=>none
def evMakeMap (P:Program)(t:TypeId)(r:Option Operand)(st:St)(d:Nat):Option (Bool×St) :=
 match RL P t,r with
 |some _,none=>some (true,({ st with σ:=st.σ++[[.mp []]] }:St).put (some d) (.mref st.σ.length))
 |some _,some x=>match opd st x with
  |.lit (.int _ _)=>some (true,({ st with σ:=st.σ++[[.mp []]] }:St).put (some d) (.mref st.σ.length))
  |_=>none
 |_,_=>none
section
variable {w w' w0:World} {G G' G0:Gh} {P:Program} {p q:PV} {v u:Value} {st st':St} {a:Act} {o:Oper} {d:Nat}
theorem Km {t e:TypeId}{dd:TypeDesc}(h:RL P t=some (dd,e)):∃ k,P.underlying t=some (.map k e)/\P.underlying k=some dd:=by
 unfold RL at h
 split at h
 . rename_i k e' hu
   obtain⟨d',h1,h2⟩:=Option.map_eq_some_iff.1 h
   cases h2
   exact⟨k,hu,h1⟩
 . cases h
theorem LN {m:Operand}{b:Nat}{kvs:List (Value×Value)}(h:Inv w0 G0 st (fun t=>a.tmps.getD t Go.undef) w G)(he:mapAt st m=some (b,kvs)) :
 ∃ r es c,G.φ[b]?=some r/\st.σ[b]?=some [.mp kvs]/\a.eval m=.map (some r)/\w.heap[r]?=some (.map es c)/\es.toList.map (fun e=>(e.key,e.val))=kvs:=by
 have hm:=Ci (a:=a) h.env m
 unfold mapAt at he
 split at he
 . rename_i b' hb
   rw [hb] at hm
   split at he
   . rename_i kvs' hs
     simp only [Option.some.injEq,Prod.mk.injEq] at he
     obtain⟨rfl,rfl⟩:=he
     revert hm
     generalize a.eval m=z
     intro hm
     cases hm with
     |mref _ _ r hr =>
      obtain⟨⟨o',arr,h3,⟨hl,_⟩,_⟩,_⟩:=h.store.blk b' r _ hr hs
      rcases hl with⟨_,hl2⟩|⟨kvs2,es,c,e1,rfl,e2⟩
      . exact absurd (List.mem_singleton.2 rfl) (hl2 kvs')
      . obtain rfl:kvs'=kvs2:=by simpa using e1
        exact⟨r,es,c,hr,hs,rfl,h3,e2⟩
   . cases he
 . cases he
theorem Oi {t:TypeId}{m k:Operand}{ok:Bool}(h:Inv w0 G0 st (fun t=>a.tmps.getD t Go.undef) w G)(he:evLookup P t m k ok st=some (true,p)) :
 ∃ v,(Instr.lookup t (a.eval m) (a.eval k) ok).run P w=.ok v w/\V w G.U G.φ p v/\(plain p=true∨∃ x b,p=.tup [absC x,.lit b]):=by
 unfold evLookup at he
 have hk:=Ci (a:=a) h.env k
 split at he
 . rename_i dd e b kvs kv hmt hma hok
   rw [hok] at hk
   obtain⟨r,es,c,h1,h2,h3,h4,h5⟩:=LN h hma
   obtain⟨kt,u1,u2⟩:=Km hmt
   have hkv:a.eval k=kv:=by
    revert hk;generalize a.eval k=z;intro hk
    cases hk;rfl
   rw [h3,hkv]
   have habs:∀ x,plain (absC x)=true:=fun x=>by unfold absC;split<;>(try split)<;>rfl
   have fin:∀ (x:Value) (b:Bool),V w G.U G.φ (if ok then .tup [absC x,.lit (.bool b)] else absC x) (if ok then .tuple #[x,.bool b] else x)/\(plain (if ok then .tup [absC x,.lit (.bool b)] else absC x)=true∨∃ y c,(if ok then .tup [absC x,.lit (.bool b)] else absC x)=PV.tup [absC y,.lit c]):=fun x b=>by
    cases ok with
    |true =>
     refine⟨.tup _ _ _ rfl fun i hi=>?_,.inr ⟨x,.bool b,rfl⟩⟩
     match i,hi with
     |0,_=>exact Js x
     |1,_=>exact .lit _ _
    |false=>exact⟨Js x,.inl (habs x)⟩
   split at he
   . rename_i i v hf
     simp only [Option.some.injEq,Prod.mk.injEq] at he
     obtain⟨hkey,rfl⟩:=he
     rw [<- h5,GP] at hf
     refine⟨_,?_,fin v true⟩
     simp only [Instr.lookup,Sem.run_bind,run_underlying u1,Result.andThen_ok,MapKept.run_getObj_map h4,Sem.run_pure,run_checkKey u2 (DO hkey),run_findKey u2 hf]
     all_goals (cases ok<;>rfl)
   . rename_i hf
     obtain⟨z,hz,he2⟩:=Option.map_eq_some_iff.1 he
     simp only [Prod.mk.injEq] at he2
     obtain⟨hkey,rfl⟩:=he2
     rw [<- h5,GP] at hf
     refine⟨_,?_,fin z false⟩
     simp only [Instr.lookup,Sem.run_bind,run_underlying u1,Result.andThen_ok,MapKept.run_getObj_map h4,Sem.run_pure,run_checkKey u2 (DO hkey),run_findKey u2 hf,Lb hz]
     all_goals (cases ok<;>rfl)
   . cases he
 . cases he
theorem Inv.newMap (h:Inv w0 G0 st (fun t=>a.tmps.getD t Go.undef) w G) :
 ∃ G',Inv w0 G0 (({ st with σ:=st.σ++[[.mp []]] }:St).put (some d) (.mref st.σ.length)) (Gm (fun t=>a.tmps.getD t Go.undef) d (.map (some w.heap.size))) (w.alloc (.map #[] 0)) G':=by
 obtain⟨h1,h2⟩:=Inv.newObj (cs:=[.mp []]) (arr:=#[.bool false]) (o:=.map #[] 0) (.inr ⟨[],#[],0,rfl,rfl,rfl⟩) h ⟨rfl,fun i hi=>by
  match i,hi with
  |0,_=>exact⟨.mp _ _ _,rfl⟩⟩ (fun j c hj=>by
  match j,hj with
  |0,hj=>cases hj;trivial)
 exact⟨_,h1.putPlain d (.mref _ _ _ h2) rfl⟩
theorem M9 {t:TypeId}{r:Option Operand}(h:Inv w0 G0 st (fun t=>a.tmps.getD t Go.undef) w G)(he:evMakeMap P t r st d=some (true,st')) :
 ∃ v w' G',(Instr.makeMap t (r.map a.eval)).run P w=.ok v w'/\Inv w0 G0 st' (Gm (fun t=>a.tmps.getD t Go.undef) d v) w' G'/\∀ b∈G.φ,w'.heap[b]?=w.heap[b]?:=by
 obtain⟨G',hG⟩:=Inv.newMap (d:=d) h
 have hkeep:∀ b∈G.φ,(w.alloc (.map #[] 0)).heap[b]?=w.heap[b]?:=fun b hb=>Below.heap_alloc _ _ _ (h.store.lt hb)
 unfold evMakeMap at he
 split at he
 . simp only [Option.some.injEq,Prod.mk.injEq,true_and] at he
   subst he
   refine⟨.map (some w.heap.size),_,G',?_,hG,hkeep⟩
   simp only [Option.map_none,Instr.makeMap,Sem.run_bind,Sem.run_pure,run_newObj,Result.andThen_ok]
   rfl
 . rename_i y x hmt
   split at he
   . rename_i ik n hx
     simp only [Option.some.injEq,Prod.mk.injEq,true_and] at he
     subst he
     have hv:=Ci (a:=a) h.env x
     rw [hx] at hv
     have hxe:a.eval x=.int ik n:=by
      revert hv;generalize a.eval x=z;intro hv
      cases hv;rfl
     obtain⟨dd,e⟩:=y
     obtain⟨kt,u1,_⟩:=Km hmt
     refine⟨.map (some w.heap.size),_,G',?_,hG,hkeep⟩
     simp only [Option.map_some,hxe,Instr.makeMap,Sem.run_bind,Sem.run_pure,run_underlying u1,asInt,run_newObj,Result.andThen_ok]
     try rfl
   . cases he
 . cases he
theorem Inv.setMap {b r:Nat}{kvs kvs':List (Value×Value)}{es es':Array MapEntry}{c c':Nat}(h:Inv w0 G0 st (fun t=>a.tmps.getD t Go.undef) w G)(h1:G.φ[b]?=some r)(h2:st.σ[b]?=some [.mp kvs])(h3:w.heap[r]?=some (.map es c))
 (h4:es'.toList.map (fun e=>(e.key,e.val))=kvs') :
 Inv w0 G0 { st with σ:=st.σ.set b [.mp kvs'] } (fun t=>a.tmps.getD t Go.undef) { w with heap:=w.heap.setIfInBounds r (.map es' c') } G:=by
 obtain⟨k1,k2⟩:=MapKept.heap_set (o':=.map es' c') h3
 refine h.setObj (o:=.map es c) (o':=.map es' c') (arr':=#[.bool false]) h1 h2 h3 k1 (.inr ⟨kvs',es',c',rfl,rfl,h4⟩) k2 rfl rfl rfl ⟨rfl,fun i hi=>?_⟩ (fun j q hj=>?_) (fun t xs j v _ hj _=>?_)
 . match i,hi with
   |0,_=>exact⟨.mp _ _ _,rfl⟩
 . match j,hj with
   |0,hj=>cases hj;trivial
 . match j,hj with
   |0,hj=>cases hj
theorem JG {t:TypeId}{m k x:Operand}(h:Inv w0 G0 st (fun t=>a.tmps.getD t Go.undef) w G)(he:evUpdate P t m k x st=some (true,st')) :
 ∃ w' G',(Instr.mapUpdate t (a.eval m) (a.eval k) (a.eval x)).run P w=.ok () w'/\Inv w0 G0 st' (fun t=>a.tmps.getD t Go.undef) w' G':=by
 unfold evUpdate at he
 have hk:=Ci (a:=a) h.env k
 have hx:=Ci (a:=a) h.env x
 split at he
 . rename_i dd e b kvs kv vv hmt hma hok hlv
   rw [hok] at hk
   obtain⟨r,es,c,h1,h2,h3,h4,h5⟩:=LN h hma
   obtain⟨kt,u1,u2⟩:=Km hmt
   have hkv:a.eval k=kv:=by
    revert hk;generalize a.eval k=z;intro hk
    cases hk;rfl
   rw [h3,hkv,LP hx hlv]
   split at he
   . rename_i hf
     simp only [Option.some.injEq,Prod.mk.injEq] at he
     obtain⟨hkey,rfl⟩:=he
     rw [<- h5,GP] at hf
     refine⟨_,G,?_,h.setMap (es':=es.push { key:=kv,val:=vv,born:=c }) (c':=c+1) h1 h2 h4 (by rw [Array.toList_push,List.map_append,h5];rfl)⟩
     simp only [Instr.mapUpdate,Sem.run_bind,run_underlying u1,Result.andThen_ok,MapKept.run_getObj_map h4,run_checkKey u2 (DO hkey),run_findKey u2 hf,MapKept.run_setObj_map _ h4]
   . rename_i i v0 hf
     simp only [Option.some.injEq,Prod.mk.injEq,Bool.and_eq_true] at he
     obtain⟨⟨hkey,hall⟩,rfl⟩:=he
     rw [<- h5,GP] at hf
     have hks:∀ x∈es.toList,IsKey dd x.key:=fun x hx=>by
      rw [List.all_eq_true] at hall
      exact DO (hall (x.key,x.val) (by rw [<- h5];exact List.mem_map.2 ⟨x,hx,rfl⟩))
     rcases findNow_spec (DO hkey) es.toList 0 hks with⟨g1,_⟩|⟨j,e0,g1,g2,g3⟩
     . rw [hf] at g1;cases g1
     . rw [hf] at g1
       simp only [Option.some.injEq,Prod.mk.injEq,Nat.zero_add] at g1
       obtain⟨rfl,rfl⟩:=g1
       have hj:es[i]?=some e0:=by simpa using g2
       refine⟨_,G,?_,h.setMap (es':=es.modify i fun e=>{ e with key:=kv,val:=vv }) (c':=c) h1 h2 h4 ?_⟩
       . simp [Instr.mapUpdate,run_underlying u1,MapKept.run_getObj_map h4,run_checkKey u2 (DO hkey),run_findKey u2 hf,hj,g3,run_keyThatStays (DO hkey),MapKept.run_setObj_map _ h4,Result.andThen]
       . rw [<- h5,Array.toList_modify]
         refine List.ext_getElem? fun j=>?_
         simp only [List.getElem?_map,List.getElem?_modify,List.getElem?_set]
         by_cases hij:i=j
         . subst hij
           simp [g2]
           exact (Array.getElem?_eq_some_iff.1 hj).1
         . simp [hij]
   . cases he
 . cases he
end
end Go.Vl
namespace Go.Vl
open Go Go.RowKit
def clsOf (o:Oper):Nat :=
 match o.op with
 |.move _|.assign _|.extract _ _|.pick _ _ _|.build _ _|.nilCheck _|.binOp _ _ _ _ _|.unOp _ _ _|.makeFunc _ _ _|.slice _ _ _ _ _|.fieldAddr _ _ _|.field _ _ _|.indexAddr _ _ _|.index _ _ _=>0
 |.load _ _|.convert _ _ _=>1
 |.call c=>match c.callee with
  |.builtin .len=>0
  |.builtin .min=>0
  |.builtin .max=>0
  |_=>2
 |_=>2
def evQuiet (P:Program)(o:Oper)(st:St)(d:Nat):Option (Bool×St) :=
 match o.op with
 |.move x=>match evMove st d x with
  |some st'=>some (true,st')
  |none=>(evTupMove st d x).map fun st'=>(true,st')
 |.assign x=>(evAssign st d x).map fun st'=>(true,st')
 |.extract x i=>(evExtract st d i x).map fun st'=>(true,st')
 |_=>(evVal P o st).map fun r=>(r.1,st.put (some d) r.2)
def evLoud (P:Program)(o:Oper)(st:St):Option (Bool×St) :=
 match o.op,o.dst with
 |.alloc T,some d=>(evAlloc P T st d).map fun st'=>(true,st')
 |.box _ x,some d=>(evBox st d x).map fun st'=>(true,st')
 |.buildSlice t len parts,some d=>evBuildSlice P t len (parts.toList.map fun x=>(x.1,opd st x.2)) st d
 |.store T x y,none=>evStore P T st x y
 |.call c,some d=>evAppend P c st d
 |.makeMap t r,some d=>evMakeMap P t r st d
 |.mapUpdate t m k v,none=>evUpdate P t m k v st
 |.insert t m k v,none=>evUpdate P t m k v st
 |.lookup t m k ok,some d=>(evLookup P t m k ok st).map fun r=>(r.1,st.put (some d) r.2)
 |.makeInterface T x,some d=>(litOf (opd st x)).map fun v=>(Mm P T,st.put (some d) (.lit (.iface T v)))
 |.typeAssert x _ T true,some d=>match opd st x with
  |.lit (.iface t v)=>some (decide (t=T)&&Mm P T,st.put (some d) (.tup [Po v,.lit (.bool true)]))
  |_=>none
 |_,_=>none
def evPan (o:Oper)(st:St):Option Value :=
 match o.op with
 |.panic x=>match opd st x with
  |.lit (.iface t v)=>some (.iface t v)
  |_=>none
 |_=>none
def Pm (o:Oper):Bool:=match o.op with|.panic _=>true|_=>false
def evOp (P:Program)(o:Oper)(st:St):Option (Bool×St) :=
 if clsOf o=2 then evLoud P o st else match o.dst with
  |some d=>evQuiet P o st d
  |none=>none
def E5 (o:Oper):Bool:=match o.op with|.store _ _ _=>true|.mapUpdate _ _ _ _=>true|.insert _ _ _ _=>true|_=>false
def B1 (a:Act)(t:Nat):Value:=a.tmps.getD t Go.undef
section
variable {w w' w0:World} {G G' G0:Gh} {P:Program} {p q:PV} {v u:Value} {st st':St} {a:Act} {o:Oper} {d:Nat}
theorem Cl (hd:d<a.tmps.size)(v:Value):B1 (a.put (some d) v)=Gm (B1 a) d v:=by
 funext t
 show (a.tmps.setIfInBounds d v).getD t Go.undef=_
 unfold Gm
 split
 . rename_i e;subst e;simp [hd]
 . rename_i e
   rw [Array.getD_eq_getD_getElem?,Array.getElem?_setIfInBounds_ne e]
   simp [B1]
theorem Gt (h:Inv w0 G0 st (B1 a) w G)(hd:d<a.tmps.size)(ho:o.dst=some d)(he:evQuiet P o st d=some (true,st')) :
 ∃ v G',(∀ w',(clsOf o=1->Jt w G (VU o st) w')->(execOp a.eval o).run P w'=.ok (.value v) w')/\(G'.U=G.U/\G'.φ=G.φ)/\Inv w0 G0 st' (B1 (a.put o.dst v)) w G':=by
 rw [ho]
 unfold evQuiet at he
 split at he
 . rename_i x hop
   have key:∀ st',(∃ G',(G'.U=G.U/\G'.φ=G.φ)/\Inv w0 G0 st' (Gm (B1 a) d (a.eval x)) w G')->∃ v G',(∀ w',(clsOf o=1->Jt w G (VU o st) w')->(execOp a.eval o).run P w'=.ok (.value v) w')/\(G'.U=G.U/\G'.φ=G.φ)/\Inv w0 G0 st' (B1 (a.put (some d) v)) w G':=by
    rintro st' ⟨G',hsame,hG⟩
    refine⟨a.eval x,G',fun w' _=>by unfold execOp;rw [hop];rfl,hsame,?_⟩
    rw [Cl hd];exact hG
   split at he
   . rename_i st2 hm
     simp only [Option.some.injEq,Prod.mk.injEq,true_and] at he
     subst he
     exact key _ (Qj h hm)
   . cases hm:evTupMove st d x with
     |none=>rw [hm] at he;cases he
     |some st2 =>
      rw [hm] at he
      simp only [Option.map_some,Option.some.injEq,Prod.mk.injEq,true_and] at he
      subst he
      exact key _ (M7 h hm)
 . rename_i x hop
   cases hm:evAssign st d x with
   |none=>rw [hm] at he;cases he
   |some st2 =>
    rw [hm] at he
    simp only [Option.map_some,Option.some.injEq,Prod.mk.injEq,true_and] at he
    subst he
    obtain⟨G',hsame,hG⟩:=Oj h hm
    refine⟨a.eval x,G',fun w' _=>by unfold execOp;rw [hop];rfl,hsame,?_⟩
    rw [Cl hd];exact hG
 . rename_i x i hop
   cases hm:evExtract st d i x with
   |none=>rw [hm] at he;cases he
   |some st2 =>
    rw [hm] at he
    simp only [Option.map_some,Option.some.injEq,Prod.mk.injEq,true_and] at he
    subst he
    obtain⟨v,G',hr,hsame,hG⟩:=MA (P:=P) h hm
    refine⟨v,G',fun w' _=>by unfold execOp;rw [hop];simp [hr],hsame,?_⟩
    rw [Cl hd];exact hG
 . cases hm:evVal P o st with
   |none=>rw [hm] at he;cases he
   |some r =>
    rw [hm] at he
    obtain⟨c,p⟩:=r
    simp only [Option.map_some,Option.some.injEq,Prod.mk.injEq] at he
    obtain⟨rfl,rfl⟩:=he
    obtain⟨v,h1,h2,h3⟩:=RZ (a:=a) h.store h.env hm
    refine⟨v,G,fun w' hr=>h3 w' (fun hrd=>hr ?_),⟨rfl,rfl⟩,?_⟩
    . unfold LU at hrd
      unfold clsOf
      split at hrd
      . rename_i hop;simp [hop]
      . rename_i hop;simp [hop]
      . cases hrd
    . rw [Cl hd]
      exact h.put d h1 (h2.tmp (J5 _ _ _) _ _)
theorem Hn (h:Inv w0 G0 st (B1 a) w G)(hd:∀ d,o.dst=some d->d<a.tmps.size)(he:evLoud P o st=some (true,st')) :
 ∃ nx v w' G',(execOp a.eval o).run P w=.ok nx w'/\(nx=.value v∨(nx=.skip/\v=Go.undef))/\Inv w0 G0 st' (B1 (a.put o.dst v)) w' G'/\(E5 o=false->∀ b∈G.φ,w'.heap[b]?=w.heap[b]?):=by
 unfold evLoud at he
 split at he
 . rename_i T d hop hdst
   cases hm:evAlloc P T st d with
   |none=>rw [hm] at he;cases he
   |some st2 =>
    rw [hm] at he
    simp only [Option.map_some,Option.some.injEq,Prod.mk.injEq,true_and] at he
    subst he
    obtain⟨v,w',G',h1,h2,hk⟩:=Pz h hm
    refine⟨_,v,w',G',by unfold execOp;rw [hop];simp only [Sem.run_bind,h1,Result.andThen_ok,Sem.run_pure],.inl rfl,?_,fun _=>hk⟩
    rw [hdst,Cl (hd d hdst)];exact h2
 . rename_i T x d hop hdst
   cases hm:evBox st d x with
   |none=>rw [hm] at he;cases he
   |some st2 =>
    rw [hm] at he
    simp only [Option.map_some,Option.some.injEq,Prod.mk.injEq,true_and] at he
    subst he
    obtain⟨v,w',G',h1,h2,hk⟩:=Sc (P:=P) (T:=T) h hm
    refine⟨_,v,w',G',by unfold execOp;rw [hop];simp only [Sem.run_bind,h1,Result.andThen_ok,Sem.run_pure],.inl rfl,?_,fun _=>hk⟩
    rw [hdst,Cl (hd d hdst)];exact h2
 . rename_i t len parts d hop hdst
   obtain⟨v,w',G',h1,h2,hk⟩:=Kq (vals:=parts.map fun x=>(x.1,a.eval x.2)) h (by simp) (fun j p v hp hv=>by
    simp only [List.getElem?_map,Array.getElem?_toList] at hp
    simp only [Array.getElem?_map] at hv
    cases hj:parts[j]? with
    |none=>rw [hj] at hp;cases hp
    |some z =>
     rw [hj] at hp hv
     simp only [Option.map_some,Option.some.injEq] at hp hv
     subst hp;subst hv
     exact⟨rfl,Ci h.env _⟩) he
   refine⟨_,v,w',G',by unfold execOp;rw [hop];simp only [Sem.run_bind,h1,Result.andThen_ok,Sem.run_pure],.inl rfl,?_,fun _=>hk⟩
   rw [hdst,Cl (hd d hdst)];exact h2
 . rename_i T x y hop hdst
   obtain⟨w',G',h1,h2,_⟩:=Iq (a:=a) h he
   refine⟨.skip,Go.undef,w',G',by unfold execOp;rw [hop];simp only [Sem.run_bind,h1,Result.andThen_ok,Sem.run_pure],.inr ⟨rfl,rfl⟩,?_,fun hs=>by simp [E5,hop] at hs⟩
   rw [hdst];exact h2
 . rename_i c d hop hdst
   obtain⟨v,w',G',h1,h2,hk⟩:=Ok h hop he
   refine⟨_,v,w',G',h1,.inl rfl,?_,fun _=>hk⟩
   rw [hdst,Cl (hd d hdst)];exact h2
 . rename_i t r d hop hdst
   obtain⟨v,w',G',h1,h2,hk⟩:=M9 (a:=a) h he
   refine⟨_,v,w',G',by unfold execOp;rw [hop];simp only [Sem.run_bind,h1,Result.andThen_ok,Sem.run_pure],.inl rfl,?_,fun _=>hk⟩
   rw [hdst,Cl (hd d hdst)];exact h2
 . rename_i t m k x hop hdst
   obtain⟨w',G',h1,h2⟩:=JG (a:=a) h he
   refine⟨.skip,Go.undef,w',G',by unfold execOp;rw [hop];simp only [Sem.run_bind,h1,Result.andThen_ok,Sem.run_pure],.inr ⟨rfl,rfl⟩,?_,fun hs=>by simp [E5,hop] at hs⟩
   rw [hdst];exact h2
 . rename_i t m k x hop hdst
   obtain⟨w',G',h1,h2⟩:=JG (a:=a) h he
   refine⟨.skip,Go.undef,w',G',by unfold execOp;rw [hop];simp only [Sem.run_bind,h1,Result.andThen_ok,Sem.run_pure],.inr ⟨rfl,rfl⟩,?_,fun hs=>by simp [E5,hop] at hs⟩
   rw [hdst];exact h2
 . rename_i t m k ok d hop hdst
   obtain⟨⟨c,p⟩,hm,he2⟩:=Option.map_eq_some_iff.1 he
   simp only [Prod.mk.injEq] at he2
   obtain⟨rfl,rfl⟩:=he2
   obtain⟨v,h1,h2,h3⟩:=Oi (a:=a) h hm
   refine⟨_,v,w,G,by unfold execOp;rw [hop];simp only [Sem.run_bind,h1,Result.andThen_ok,Sem.run_pure],.inl rfl,?_,fun _ _ _=>rfl⟩
   rw [hdst,Cl (hd d hdst)]
   refine h.put d h2 ?_
   rcases h3 with h3|⟨x,b,rfl⟩
   . exact EG h3 _ _ _ _
   . intro i xs hi
     exfalso
     match i,hi with
     |0,hi =>
      have:absC x=.sl xs .own:=by simpa using hi
      unfold absC at this
      split at this<;>(try split at this)<;>cases this
     |1,hi=>cases hi
 . rename_i T x d hop hdst
   obtain⟨v,hm,he2⟩:=Option.map_eq_some_iff.1 he
   simp only [Prod.mk.injEq] at he2
   obtain⟨hc,rfl⟩:=he2
   have hx:=LP (Ci (a:=a) h.env x) hm
   refine⟨_,.iface T v,w,G,by unfold execOp;rw [hop];simp only [Sem.run_bind,hx,run_makeInterface hc,Result.andThen_ok,Sem.run_pure],.inl rfl,?_,fun _ _ _=>rfl⟩
   rw [hdst,Cl (hd d hdst)]
   exact h.putPlain d (.lit _ _) rfl
 . rename_i x xt T d hop hdst
   split at he
   . rename_i t v hx
     simp only [Option.some.injEq,Prod.mk.injEq,Bool.and_eq_true,decide_eq_true_eq] at he
     obtain⟨⟨rfl,hc⟩,rfl⟩:=he
     have hxv:=Ci (a:=a) h.env x
     rw [hx] at hxv
     have hxe:a.eval x=.iface t v:=by
      revert hxv;generalize a.eval x=z;intro hxv
      cases hxv;rfl
     refine⟨_,.tuple #[v,.bool true],w,G,by unfold execOp;rw [hop];simp only [Sem.run_bind,hxe,LA hc,Result.andThen_ok,Sem.run_pure],.inl rfl,?_,fun _ _ _=>rfl⟩
     rw [hdst,Cl (hd d hdst)]
     refine h.put d (.tup _ _ _ rfl (fun i hi=>?_)) ?_
     . match i,hi with
       |0,_=>exact Vj v
       |1,_=>exact .lit _ _
     . intro i xs hi
       exfalso
       match i,hi with
       |0,hi=>exact RU v xs (by simpa using hi)
       |1,hi=>cases hi
   . cases he
 . cases he
theorem OG {nx:Next}{w':World}{T:TypeId}{x y:Operand}(h:Inv w0 G0 st (B1 a) w G)(hop:o.op=.store T x y)(he:evLoud P o st=some (true,st'))(hr:(execOp a.eval o).run P w=.ok nx w'){k off kb:Nat}(hx:opd st x=.ptr k off)(hk:G.φ[k]?=some kb){b:Nat}(hb:b≠kb):w'.heap[b]?=w.heap[b]?:=by
 unfold evLoud at he
 rw [hop] at he
 cases hd:o.dst with
 |some d=>rw [hd] at he;cases he
 |none =>
  rw [hd] at he
  obtain⟨w2,G2,h1,_,h3⟩:=Iq (a:=a) h he
  unfold execOp at hr
  rw [hop] at hr
  simp only [Sem.run_bind,h1,Result.andThen_ok,Sem.run_pure] at hr
  cases hr
  exact h3 k off kb hx hk b hb
theorem IE (o:Oper):clsOf o=0∨clsOf o=1∨clsOf o=2:=by
 unfold clsOf
 repeat' split
 all_goals simp
end
end Go.Vl
namespace Go.Vl
open Go Go.RowKit
def C7 (P:Program)(f:FuncId):Bool :=
 match P.funcs[f]? with
 |some fn=>fn.body.isSome&&(fn.name != "runtime.NumGoroutine")
 |none=>false
def evCall (P:Program)(o:Oper)(st:St):Option (FuncId×List PV) :=
 match o.op with
 |.call c=>match c.callee with
  |.value f=>match opd st f with
   |.fn f caps=>if C7 P f then some (f,c.args.toList.map (fun x=>unown (opd st x))++caps) else none
   |_=>none
  |_=>none
 |_=>none
def stripCells:PV->PV
 |.sl xs (.view (.cell _ _))=>.sl xs .shared
 |p=>p
def St.aft (st:St)(σ:List (List PV)):St:={ env:=st.env.map fun x=>(x.1,stripCells x.2),σ }
def Hd (keep:Nat->Bool):PV->PV
 |.sl xs (.view (.cell k j))=>if keep k=true then .sl xs (.view (.cell k j)) else .sl xs .shared
 |p=>p
def St.aftK (st:St)(keep:Nat->Bool)(σ:List (List PV)):St:={ env:=st.env.map fun x=>(x.1,Hd keep x.2),σ }
def Gh.inner (G:Gh):Gh:={ G with Ω:=fun b=>match G.Ω b with|some (.cell k j)=>some (.cell k j)|_=>none }
def Ig (tup:Bool)(d:Nat):Loc->Loc
 |.ret i=>if tup then .tcomp d i else .tmp d
 |l=>l
def Nh:PV->Bool
 |.tup _=>true
 |_=>false
def Gh.outer (G G':Gh)(tup:Bool)(d:Nat):Gh:={ G' with Ω:=fun b=>match G'.Ω b with|some l=>some (Ig tup d l)|none=>G.Ω b }
section
variable {w w' w0:World} {G G' G0:Gh} {P:Program} {p q r:PV} {v u:Value} {st st':St} {a:Act} {o:Oper} {d:Nat} {σ σ':List (List PV)}
theorem Ny {f:FuncId}(h:C7 P f=true)(vs:Array Value)(w:World):(callFunc f vs).run P w=.ok (.enter f vs) w:=by
 unfold C7 at h
 split at h
 . rename_i fn hf
   simp only [Bool.and_eq_true,bne_iff_ne] at h
   have h1:fn.body≠none:=by have:=h.1;intro e;rw [e] at this;cases this
   simp [callFunc,hf,h1,h.2]
 . cases h
theorem Ho {f:FuncId}{args:List PV}(h:H3 w G st (B1 a))(he:evCall P o st=some (f,args)) :
 ∃ vs:Array Value,vs.size=args.length/\(∀ i (hi:i<args.length),V w G.U G.φ args[i] (vs.getD i Go.undef))/\∀ w',(execOp a.eval o).run P w'=.ok (.enter f vs) w':=by
 unfold evCall at he
 split at he
 . rename_i c hop
   obtain⟨callee,cargs,ats⟩:=c
   simp only at he
   split at he
   . rename_i fo
     have hv:=Ci (a:=a) h fo
     split at he
     . rename_i f' caps hf
       rw [hf] at hv
       split at he
       . rename_i hc
         simp only [Option.some.injEq,Prod.mk.injEq] at he
         obtain⟨rfl,rfl⟩:=he
         generalize hz:a.eval fo=z at hv
         cases hv with
         |fn _ _ _ arr hn hcaps =>
         refine⟨cargs.map a.eval++arr,by simp [hn],fun i hi=>?_,fun w'=>?_⟩
         . by_cases hlt:i<cargs.size
           . have e1:(cargs.toList.map (fun x=>unown (opd st x))++caps)[i]=unown (opd st cargs[i]):=by
              rw [List.getElem_append_left (by simpa using hlt)];simp
             have e2:(cargs.map a.eval++arr).getD i Go.undef=a.eval cargs[i]:=by
              rw [Array.getD_eq_getD_getElem?,Array.getElem?_append_left (by simpa using hlt)];simp [hlt]
             rw [e1,e2];exact CW (Ci h _)
           . have hi2:i-cargs.size<caps.length:=by simp at hi;omega
             have e1:(cargs.toList.map (fun x=>unown (opd st x))++caps)[i]=caps[i-cargs.size]:=by
              rw [List.getElem_append_right (by simp;omega)];simp
             have e2:(cargs.map a.eval++arr).getD i Go.undef=arr.getD (i-cargs.size) Go.undef:=by
              rw [Array.getD_eq_getD_getElem?,Array.getElem?_append_right (by simp;omega),Array.getD_eq_getD_getElem?];simp
             rw [e1,e2];exact hcaps _ hi2
         . unfold execOp
           rw [hop]
           simp only [Sem.run_bind,resolve,hz,Deferred.ofValue,Sem.run_pure,Result.andThen_ok,invoke]
           rw [Ny hc];simp
       . cases he
     . cases he
   . cases he
 . cases he
theorem Hl (st:St)(σ:List (List PV))(t:Nat):(st.aft σ).get t=stripCells (st.get t):=by
 show getE (st.env.map fun x=>(x.1,stripCells x.2)) t=stripCells (getE st.env t)
 generalize st.env=env
 induction env with
 |nil=>rfl
 |cons x r ih =>
  show (if x.1=t then stripCells x.2 else getE (r.map fun x=>(x.1,stripCells x.2)) t)=stripCells (if x.1=t then x.2 else getE r t)
  split
  . rfl
  . exact ih
theorem LV {b k j:Nat}:G.inner.Ω b=some (.cell k j)↔G.Ω b=some (.cell k j):=by
 show (match G.Ω b with|some (.cell k j)=>some (Loc.cell k j)|_=>none)=_↔_
 split<;>simp_all
theorem Jl {b:Nat}(h:G.Ω b=none):G.inner.Ω b=none:=by
 show (match G.Ω b with|some (.cell k j)=>some (Loc.cell k j)|_=>none)=none
 rw [h]
theorem Jk {b:Nat}(h:G.inner.Ω b≠none):G.Ω b≠none:=fun e=>h (Jl e)
theorem AW.inner (h:AW w G σ):AW w G.inner σ:=by
 refine⟨h.len,h.nodup,fun k b cs h1 h2=>?_,h.ub,fun b hb=>h.ob b (Jk hb)⟩
 obtain⟨⟨T,arr,h3,h4,h5⟩,h6⟩:=h.blk k b cs h1 h2
 refine⟨⟨T,arr,h3,h4,fun j c hc=>?_⟩,h6⟩
 obtain⟨v,h7,h8,h9,h10⟩:=h5 j c hc
 refine⟨v,h7,h8,h9,?_⟩
 unfold Di at h10 ⊢
 split
 . exact AR.to h10 rfl (fun b hb=>LV.2 hb)
 . trivial
theorem Fb (G:Gh):∀ b l,G.inner.Ω b=some l->∃ k j,l=.cell k j:=by
 intro b l h
 have:(match G.Ω b with|some (.cell k j)=>some (Loc.cell k j)|_=>none)=some l:=h
 split at this
 . exact⟨_,_,(Ac this).symm⟩
 . cases this
theorem Inv.call {tup:Bool}(h:Inv w0 G0 st (B1 a) w G)(hs:AW w' G' σ')(hx:Ext w G.inner w' G')(d:Nat) :
 Inv w0 G0 (st.aft σ') (B1 a) w' (G.outer G' tup d):=by
 have hΩ:∀ b,G.inner.Ω b=none->b<w.heap.size->(G.outer G' tup d).Ω b=G.Ω b:=by
  intro b h1 h2
  show (match G'.Ω b with|some l=>some (Ig tup d l)|none=>G.Ω b)=G.Ω b
  cases e:G'.Ω b with
  |none=>rfl
  |some l =>
   rcases hx.newΩ b (by rw [e];simp) with h3|h3
   . omega
   . exact absurd h1 h3
 have hext:Ext w G w' (G.outer G' tup d):=by
  refine⟨hx.os,hx.tape,hx.output,hx.size,fun k h1 h2 h3=>hx.frame k h1 h2 (Jl h3),hx.cells,fun b i hu=>?_,fun b hb=>?_,hx.phi⟩
  . rcases hx.newU b i hu with h1|h1|h1
    . exact .inl h1
    . exact .inr (.inl h1)
    . exact .inr (.inr (Jk h1))
  . have h2:(match G'.Ω b with|some l=>some (Ig tup d l)|none=>G.Ω b)≠none:=hb
    cases e:G'.Ω b with
    |none=>rw [e] at h2;exact .inr h2
    |some l =>
     rcases hx.newΩ b (by rw [e];simp) with h3|h3
     . exact .inl h3
     . exact .inr (Jk h3)
 have ownK:∀ l xs v,(∀ k j,l≠.cell k j)->AR w G l xs v->AR w' (G.outer G' tup d) l xs v:=by
  intro l xs v hl ho
  refine ho.keep fun b hb=>?_
  have hin:G.inner.Ω b=none:=by
   cases e:G.inner.Ω b with
   |none=>rfl
   |some l' =>
    obtain⟨k,j,rfl⟩:=Fb G b l' e
    rw [LV] at e
    rw [hb] at e
    exact absurd (Ac e) (hl k j)
  have hob:=h.store.ob b (by rw [hb];simp)
  refine⟨by rw [hΩ b hin hob.1];exact hb,hx.frame b hob.1 hob.2 hin,fun i hu=>?_⟩
  rcases hx.newU b i hu with h1|h1|h1
  . exact h1
  . omega
  . exact absurd hin h1
 refine⟨h.ext.trans hext,?_,⟨fun t=>?_,fun t=>?_⟩⟩
 . refine⟨hs.len,hs.nodup,fun k b cs h1 h2=>?_,hs.ub,fun b hb=>?_⟩
   . obtain⟨⟨T,arr,h3,h4,h5⟩,h6⟩:=hs.blk k b cs h1 h2
     refine⟨⟨T,arr,h3,h4,fun j c hc=>?_⟩,h6⟩
     obtain⟨v,h7,h8,h9,h10⟩:=h5 j c hc
     refine⟨v,h7,h8,h9,?_⟩
     unfold Di at h10 ⊢
     split
     . refine AR.to h10 rfl (fun b hb=>?_)
       show (match G'.Ω b with|some l=>some (Ig tup d l)|none=>G.Ω b)=_
       rw [hb];rfl
     . trivial
   . have h2:(match G'.Ω b with|some l=>some (Ig tup d l)|none=>G.Ω b)≠none:=hb
     cases e:G'.Ω b with
     |some l=>exact hs.ob b (by rw [e];simp)
     |none =>
      rw [e] at h2
      have h3:=h.store.ob b h2
      refine⟨Nat.lt_of_lt_of_le h3.1 hx.size,?_⟩
      obtain⟨ψ,hφ,hψ⟩:=hx.phi
      show b∉G'.φ
      rw [hφ]
      intro hm
      rcases List.mem_append.1 hm with hm|hm
      . exact h3.2 hm
      . have:=hψ b hm;omega
 . rw [Hl]
   have hv:=hext.V (h.env.v t)
   revert hv
   generalize st.get t=q
   intro hv
   unfold stripCells
   split
   . exact hv.tag (by simp) (by simp)
   . exact hv
 . rw [Hl]
   have ht:=h.env.tag t
   revert ht
   generalize st.get t=q
   intro ht
   cases q with
   |sl xs g =>
    cases g with
    |own=>exact ownK _ _ _ (by simp) ht
    |view m =>
     cases m with
     |tmp s=>exact⟨by rw [Hl,ht.1];rfl,ht.2⟩
     |cell k j=>trivial
     |_=>exact ht
    |_=>trivial
   |tup cs =>
    intro i xs hi
    obtain⟨arr,u,h1,h2,h3⟩:=ht i xs hi
    exact⟨arr,u,h1,h2,ownK _ _ _ (by simp) h3⟩
   |_=>trivial
theorem LX (keep:Nat->Bool)(st:St)(σ:List (List PV))(t:Nat):(st.aftK keep σ).get t=Hd keep (st.get t):=by
 show getE (st.env.map fun x=>(x.1,Hd keep x.2)) t=Hd keep (getE st.env t)
 generalize st.env=env
 induction env with
 |nil=>rfl
 |cons x r ih =>
  show (if x.1=t then Hd keep x.2 else getE (r.map fun x=>(x.1,Hd keep x.2)) t)=Hd keep (if x.1=t then x.2 else getE r t)
  split
  . rfl
  . exact ih
theorem Inv.callK {tup:Bool}(h:Inv w0 G0 st (B1 a) w G)(hs:AW w' G' σ')(hx:Ext w G.inner w' G')(d:Nat)(keep:Nat->Bool)
 (hk:∀ k b,keep k=true->G.φ[k]?=some b->σ'[k]?=st.σ[k]?/\w'.heap[b]?=w.heap[b]?):Inv w0 G0 (st.aftK keep σ') (B1 a) w' (G.outer G' tup d):=by
 have h1:=h.call (tup:=tup) hs hx d
 refine⟨h1.ext,h1.store,⟨fun t=>?_,fun t=>?_⟩⟩
 . have hv:=h1.env.v t
   rw [Hl] at hv
   rw [LX]
   revert hv
   generalize st.get t=q
   intro hv
   unfold Hd
   split
   . split
     . exact V.tag (g:=.shared) hv (by simp) (by simp)
     . exact hv
   . rename_i hn
     have e:stripCells q=q:=by
      unfold stripCells
      split
      . exact absurd rfl (hn _ _ _)
      . rfl
     rw [e] at hv;exact hv
 . have ht:=h1.env.tag t
   have ht0:=h.env.tag t
   rw [Hl] at ht
   rw [LX]
   revert ht ht0
   generalize st.get t=q
   intro ht ht0
   cases q with
   |sl xs g =>
    cases g with
    |own=>exact ht
    |view m =>
     cases m with
     |tmp s =>
      obtain⟨e1,e2⟩:=ht0
      exact⟨by rw [LX,e1];rfl,e2⟩
     |cell k j =>
      obtain⟨cs,b,e1,e2,e3,e4⟩:=ht0
      rw [show Hd keep (.sl xs (.view (.cell k j)))=(if keep k=true then PV.sl xs (.view (.cell k j)) else .sl xs .shared) from rfl]
      by_cases hkk:keep k=true
      . rw [if_pos hkk]
        obtain⟨f1,f2⟩:=hk k b hkk e3
        refine⟨cs,b,by show σ'[k]?=_;rw [f1];exact e1,e2,?_,?_⟩
        . obtain⟨ψ,hφ,_⟩:=hx.phi
          show G'.φ[k]?=some b
          have hφ2:G'.φ=G.φ++ψ:=hφ
          rw [hφ2,List.getElem?_append_left (List.getElem?_eq_some_iff.1 e3).1];exact e3
        . show w'.cell? ⟨b,j,none⟩=_
          rw [<- e4];unfold World.cell?;rw [f2]
      . rw [if_neg hkk];trivial
     |_=>exact ht
    |_=>trivial
   |tup cs=>exact ht
   |_=>trivial
theorem Inv.putRet (h:Inv w0 G0 st (B1 a) w' (G.outer G' (Nh r) d))(hv:V w' G'.U G'.φ r v)(ht:G6 w' G' r v) :
 Inv w0 G0 (st.put (some d) r) (Gm (B1 a) d v) w' (G.outer G' (Nh r) d):=by
 refine h.put d hv ?_
 cases r with
 |sl xs g =>
  cases g with
  |own =>
   exact AR.to (l:=.ret 0) ht rfl (fun b hb=>by
    show (match G'.Ω b with|some l=>some (Ig _ d l)|none=>G.Ω b)=_
    rw [hb];rfl)
  |view m=>exact ht.elim
  |_=>trivial
 |tup cs =>
  intro i xs hi
  obtain⟨arr,u,h1,h2,h3⟩:=ht i xs hi
  refine⟨arr,u,h1,h2,h3.to rfl (fun b hb=>?_)⟩
  show (match G'.Ω b with|some l=>some (Ig _ d l)|none=>G.Ω b)=_
  rw [hb];rfl
 |_=>trivial
end
end Go.Vl
namespace Go.Vl
open Go Go.RowKit
inductive AX where
 |normal
 |exit (id:Nat)
 |ret
 |pan (c:List PanicEntry)
def CN (ds:List Deferred)(w0:World)(G0:Gh)(n:Nat)(K:AX->St->Prop):Exit->Act->World->Prop
 |.normal,a,w=>a.tmps.size=n/\a.defers=ds/\∃ st G,K .normal st/\Inv w0 G0 st (B1 a) w G
 |.exit id,a,w=>a.tmps.size=n/\a.defers=ds/\∃ st G,K (.exit id) st/\Inv w0 G0 st (B1 a) w G
 |.ret,a,w=>a.tmps.size=n/\a.defers=ds/\∃ st G,K .ret st/\Inv w0 G0 st (B1 a) w G
 |.panic c,a,w=>a.defers=ds/\∃ st G,K (.pan c) st/\Ext w0 G0 w G/\AW w G st.σ
 |_,_,_=>False
def evGuard (ops:Array Oper)(st:St)(o:Oper):Option Bool :=
 match o.guard with
 |none=>some true
 |some (j,want) =>
  match (ops[j]?).bind (·.dst) with
  |some d=>match st.get d with
   |.lit (.bool b)=>some (b == want)
   |.lit (.tuple _)=>some false
   |_=>none
  |none=>none
def evOps (P:Program)(ops:Array Oper)(K:AX->St->Prop):List Oper->St->Prop
 | [],st=>K .normal st
 |o::rest,st =>
  match evGuard ops st o with
  |none=>False
  |some false=>evOps P ops K rest (st.put o.dst (.lit (.tuple #[])))
  |some true =>
   match evOp P o st with
   |some (c,st')=>c=true/\evOps P ops K rest st'
   |none =>
    match evCall P o st with
    |some (f,args)=>VC P f args st.σ fun x σ'=>match x with
     |.ret r=>evOps P ops K rest ((st.aft σ').put o.dst r)
     |.pan c=>K (.pan c) { st with σ:=σ' }
    |none=>match evPan o st with
     |some v=>K (.pan [{ v,recovered:=false }]) st
     |none=>False
section
variable {w w' w0:World} {G G' G0:Gh} {P:Program} {st st':St} {a:Act} {o:Oper} {n:Nat} {ops:Array Oper} {K:AX->St->Prop} {ds:List Deferred}
theorem DF {b:Bool}(h:H3 w G st (B1 a))(hg:evGuard ops st o=some b):Region.wanted o (yielded ops a.tmps)=b:=by
 unfold evGuard at hg
 unfold Region.wanted
 split at hg
 . rename_i hn;rw [hn];simpa using hg
 . rename_i j want hn
   rw [hn]
   split at hg
   . rename_i d hd
     split at hg
     . rename_i b' hb
       have hv:=h.v d
       rw [hb] at hv
       have ht:a.tmps.getD d Go.undef=.bool b':=by
        have:B1 a d=.bool b':=by
         revert hv;generalize B1 a d=z;intro hv
         cases hv with
         |lit _ _=>rfl
        exact this
       have hds:a.tmps[d]?=some (.bool b'):=by
        rw [Array.getD_eq_getD_getElem?] at ht
        cases e:a.tmps[d]? with
        |none=>rw [e] at ht;cases ht
        |some z=>rw [e] at ht;rw [<- ht];rfl
       have hy:yielded ops a.tmps j=some b':=by
        unfold yielded
        rw [hd]
        simp [hds]
       simp only [hy]
       simp only [Option.some.injEq] at hg
       subst hg
       cases b'<;>cases want<;>rfl
     . rename_i u hb
       have hv:=h.v d
       rw [hb] at hv
       have ht:a.tmps.getD d Go.undef=.tuple u:=by
        have:B1 a d=.tuple u:=by
         revert hv;generalize B1 a d=z;intro hv
         cases hv with
         |lit _ _=>rfl
        exact this
       have hy:yielded ops a.tmps j=none:=by
        unfold yielded
        rw [hd]
        rw [Array.getD_eq_getD_getElem?] at ht
        cases e:a.tmps[d]? with
        |none=>simp [e]
        |some z=>rw [e] at ht;obtain rfl:z=.tuple u:=ht;simp [e]
       simp only [hy]
       simp only [Option.some.injEq] at hg
       subst hg
       rfl
     . cases hg
   . cases hg
theorem BI (a:Act)(d:Option Tmp)(v:Value):(a.put d v).tmps.size=a.tmps.size:=by cases d<;>simp [Act.put]
theorem put_defers (a:Act)(d:Option Tmp)(v:Value):(a.put d v).defers=a.defers:=by cases d<;>rfl
theorem Inv.skipPut {d:Option Tmp}(h:Inv w0 G0 st (B1 a) w G)(hd:∀ x,d=some x->x<a.tmps.size):Inv w0 G0 (st.put d (.lit (.tuple #[]))) (B1 (a.put d Go.undef)) w G:=by
 cases d with
 |none=>exact h
 |some x=>rw [Cl (hd x rfl)];exact h.putPlain x (.lit _ _) rfl
theorem Rc {next:Act->World->Prop}{Q:Exit->Act->World->Prop}(h:Inv w0 G0 st (B1 a) w G)(hd:∀ d,o.dst=some d->d<a.tmps.size)(he:evOp P o st=some (true,st'))
 (hn:∀ v w' G',Inv w0 G0 st' (B1 (a.put o.dst v)) w' G'->next (a.put o.dst v) w'):o.wp P a w next Q:=by
 unfold evOp at he
 unfold Oper.wp
 split at he
 . obtain⟨nx,v,w',G',h1,h2,h3,_⟩:=Hn h hd he
   rw [h1]
   rcases h2 with rfl|⟨rfl,rfl⟩
   . exact hn v w' G' h3
   . exact hn Go.undef w' G' h3
 . split at he
   . rename_i d hdst
     obtain⟨v,G',h1,_,h2⟩:=Gt h (hd d hdst) hdst he
     rw [h1 w (fun _=>(Reads.refl _ _).one _)]
     exact hn v w G' h2
   . cases he
theorem Dg.inner (h:Dg w G):Dg w G.inner:=⟨h.1,fun b hb=>⟨(h.2 b hb).1,(h.2 b hb).2.1,Jl (h.2 b hb).2.2⟩⟩
theorem Kp {f:FuncId}{args:List PV}{next:Act->World->Prop}{Q:Exit->Act->World->Prop}{KR:PV->List (List PV)->Prop}{KP:List PanicEntry->List (List PV)->Prop}
 (hgl:Dg w0 G0) (h:Inv w0 G0 st (B1 a) w G) (hd:∀ d,o.dst=some d->d<a.tmps.size) (hdef:a.defers=ds) (he:evCall P o st=some (f,args))
 (hc:VC P f args st.σ fun x σ'=>match x with|.ret r=>KR r σ'|.pan c=>KP c σ')
 (hn:∀ r σ' v w' G',KR r σ'->Inv w0 G0 ((st.aft σ').put o.dst r) (B1 (a.put o.dst v)) w' G'->next (a.put o.dst v) w')
 (hp:∀ c σ' w' G',KP c σ'->a.defers=ds->Ext w0 G0 w' G'->AW w' G' σ'->Q (.panic c) a w'):o.wp P a w next Q:=by
 obtain⟨vs,h1,h2,h3⟩:=Ho h.env he
 unfold Oper.wp
 rw [h3 w]
 refine (hc w G.inner vs h.store.inner h1 h2 (Fb G) (hgl.ext h.ext).inner).mono fun e w' hpost=>?_
 obtain⟨x,σ',G',hq,hend,hs,hx⟩:=hpost
 cases x with
 |ret r =>
  obtain⟨v,rfl,hv,ht⟩:=hend
  show next (a.put o.dst v) w'
  cases hdst:o.dst with
  |none =>
   have hI:=h.call (tup:=false) hs hx 0
   have:=hn r σ' v w' _ hq (by rw [hdst];exact hI)
   rw [hdst] at this;exact this
  |some d =>
   have hI:=(h.call (tup:=Nh r) hs hx d).putRet hv ht
   have:=hn r σ' v w' _ hq (by rw [hdst,Cl (hd d hdst)];exact hI)
   rw [hdst] at this;exact this
 |pan c =>
  obtain rfl:e=.panicked c:=hend
  have hI:=h.call (tup:=false) hs hx 0
  exact hp c σ' w' _ hq hdef hI.ext hI.store
theorem Nr {v:Value}(h:H3 w G st (B1 a))(he:evPan o st=some v)(w1:World):(execOp a.eval o).run P w1=.halt (.panic v) w1:=by
 unfold evPan at he
 split at he
 . rename_i x hop
   have hx:=Ci (a:=a) h x
   split at he
   . rename_i t u hu
     rw [hu] at hx
     simp only [Option.some.injEq] at he
     subst he
     have hxe:a.eval x=.iface t u:=by
      revert hx;generalize a.eval x=z;intro hx
      cases hx;rfl
     unfold execOp
     rw [hop]
     simp only [Sem.run_bind,hxe,Instr.panic]
     rfl
   . cases he
 . cases he
theorem Fc (hgl:Dg w0 G0):∀ (l:List Oper) (st:St) (a:Act) (w:World) (G:Gh),Inv w0 G0 st (B1 a) w G->a.defers=ds->a.tmps.size=n->(∀ o∈l,∀ d,o.dst=some d->d<n)->evOps P ops K l st ->
 wpList P ops (CN ds w0 G0 n K) l a w
 | [],st,a,w,G,h,hdef,hsz,_,he=>⟨hsz,hdef,st,G,he,h⟩
 |o::rest,st,a,w,G,h,hdef,hsz,hd,he=>by
  have hdo:∀ d,o.dst=some d->d<a.tmps.size:=fun d hdd=>by rw [hsz];exact hd o (by simp) d hdd
  have hdr:∀ o∈rest,∀ d,o.dst=some d->d<n:=fun o ho=>hd o (by simp [ho])
  unfold evOps at he
  unfold wpList
  split at he
  . exact he.elim
  . rename_i hg
    rw [DF h.env hg]
    simp only [Bool.false_eq_true,if_false]
    exact Fc hgl rest _ _ w G (h.skipPut hdo) (by rw [put_defers];exact hdef) (by rw [BI];exact hsz) hdr he
  . rename_i hg
    rw [DF h.env hg]
    simp only [if_true]
    left
    split at he
    . rename_i c st2 hop
      obtain⟨rfl,he2⟩:=he
      exact Rc h hdo hop (fun v w' G' hI=>Fc hgl rest _ _ w' G' hI (by rw [put_defers];exact hdef) (by rw [BI];exact hsz) hdr he2)
    . split at he
      . rename_i f args hcall
        exact Kp (KR:=fun r σ'=>evOps P ops K rest ((st.aft σ').put o.dst r)) (KP:=fun c σ'=>K (.pan c) { st with σ:=σ' }) hgl h hdo hdef hcall he
         (fun r σ' v w' G' hK hI=>Fc hgl rest _ _ w' G' hI (by rw [put_defers];exact hdef) (by rw [BI];exact hsz) hdr hK)
         (fun c σ' w' G' hK hdf hE hS=>⟨hdf,_,G',hK,hE,hS⟩)
      . split at he
        . rename_i v hpan
          unfold Oper.wp
          rw [Nr h.env hpan w]
          exact⟨hdef,st,G,he,h.ext,h.store⟩
        . exact he.elim
end
end Go.Vl
