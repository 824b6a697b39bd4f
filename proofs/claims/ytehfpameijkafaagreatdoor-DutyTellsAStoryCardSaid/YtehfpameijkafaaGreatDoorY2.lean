/-
  What the program's own variables hold, as the rows lay them (blocks 0, 3, 4, 5: strings.asciiSpace, internal/strconv.uint64pow10, strconv.ErrSyntax, strconv.ErrRange); no code writes them. Values without memory: what a program computes, seen as plain values; how such values lie in memory. No program. States of plain values and what they say of memory; what a call does, in plain values. No program. States of plain values: reading, writing a temporary; operations that yield a value and leave memory alone. No program. Operations that yield a value and leave memory alone, in plain values. No program. Reading memory and taking values apart, in plain values. No program. Addresses, indexes, slices, lengths, fields, in plain values. No program. Slice expressions; structs built; and all operations that yield a value and leave memory alone. No program. Structs built; small operations on values. No program. Operations that yield a value and leave memory alone: all of them. No program. One operation that yields a value and leaves memory alone. No program. Moving values from place to place; new blocks. No program. Tuples; new blocks. No program. A statement whose order Go leaves open, walked in one order: operations that yield one value whenever they run float; the others come in a forced order. No program.
-/
import Derived.Lib.Space
import Derived.Lib.ItoaNum
import Derived.Laws.BytesString
import Derived.Laws.StructEq
import Derived.WideLaws
import Derived.Laws.Pointers
import Derived.Lib.SliceRun
import Derived.Laws.Cover3
import Derived.WalkKit
import Derived.Orders
import Derived.StillTailTactics
import Derived.Test.YtehfpameijkafaaGreatDoorY1
set_option linter.unusedVariables false
set_option linter.unusedSimpArgs false
namespace Go.Vl
open Go Go.RowKit
def Vj:List Nat:=[0,5,3,4]
def Ae5:Nat:=126
def PC (w:World):Prop :=
 ((∃ T o,w.heap[0]?=some (.cells (Lib.asciiSpaceTab.map fun z=>Value.int .u8 z).toArray T o))/\∃ T o,w.heap[5]?=some (.cells (Lib.pow10Tab.map fun z=>Value.int .u64 z).toArray T o)) /\
  (∃ ev,w.cell? ⟨3,0,none⟩=some ev/\(ev=.nilIface∨∃ te pe,ev=.iface te pe))/\∃ ev,w.cell? ⟨4,0,none⟩=some ev/\(ev=.nilIface∨∃ te pe,ev=.iface te pe)
theorem Xu {w w':World}(h:PC w)(hs:∀ b∈Vj,w'.heap[b]?=w.heap[b]?):PC w':=by
 obtain⟨⟨⟨T,o,a⟩,T3,o3,d⟩,⟨e4,e,k4⟩,e5,f,k5⟩:=h
 have c:∀ b∈Vj,w'.cell? ⟨b,0,none⟩=w.cell? ⟨b,0,none⟩:=fun b hb=>by
  have:=hs b hb
  unfold World.cell?
  rw [this]
 exact⟨⟨⟨T,o,(hs 0 (by decide)).trans a⟩,T3,o3,(hs 5 (by decide)).trans d⟩,⟨e4,(c 3 (by decide)).trans e,k4⟩,e5,(c 4 (by decide)).trans f,k5⟩
end Go.Vl
namespace Go.Vl
open Go Go.RowKit
inductive Loc where
 |tmp (t:Nat)
 |tcomp (t i:Nat)
 |cell (b j:Nat)
 |ret (i:Nat)
deriving DecidableEq
inductive Grow where
 |shared
 |full
 |nil
 |own
 |view (l:Loc)
deriving DecidableEq
inductive PV where
 |lit (v:Value)
 |agg (cs:List PV)
 |tup (cs:List PV)
 |sl (xs:List (List PV)) (g:Grow)
 |ptr (b o:Nat)
 |vptr (cs:List PV) (o:Nat)
 |fn (f:FuncId) (caps:List PV)
 |fno (b:Bool) (f:FuncId) (caps:List PV)
 |fnb (f:FuncId) (args:List PV)
 |ifc
 |mref (b:Nat)
 |mp (kvs:List (Value×Value))
 |vmp (kvs:List (Value×Value))
 |mit (kvs:List (Value×Value)) (seen:List Nat)
 |dis (f:List Nat->List (List PV))
 |asl (b o n cap:Nat)
 |prv (xs:List (List Value))
 |undef
instance:Inhabited PV:=⟨.undef⟩
mutual
def PV.fits (N:Nat):PV->Bool
 |.lit _=>true
 |.agg cs=>PV.fitsL N cs
 |.tup cs=>PV.fitsL N cs
 |.sl _ _=>true
 |.ptr b _=>decide (b<N)
 |.vptr _ _=>true
 |.fn _ caps=>PV.fitsL N caps
 |.fno _ _ _=>true
 |.fnb _ _=>true
 |.ifc=>true
 |.mref b=>decide (b<N)
 |.mp _=>true
 |.vmp _=>true
 |.mit _ _=>true
 |.dis _=>true
 |.asl b _ _ _=>decide (b<N)
 |.prv _=>true
 |.undef=>true
def PV.fitsL (N:Nat):List PV->Bool
 | []=>true
 |p::ps=>p.fits N&&PV.fitsL N ps
end
theorem D5 {N:Nat}:∀ {cs:List PV},PV.fitsL N cs=true->∀ i (h:i<cs.length),(cs[i]).fits N=true
 | [],_,i,h=>by simp at h
 |p::ps,h,i,hi=>by
  simp only [PV.fitsL,Æ] at h
  cases i with
  |zero=>exact h.1
  |succ i=>exact D5 h.2 i (by simpa using hi)
def Kp (w w':World)(b i:Nat):Prop:=w'.cell? ⟨b,i,none⟩=w.cell? ⟨b,i,none⟩/\∀ es c,w.heap[b]?=some (.map es c)->w'.heap[b]?=some (.map es c)
theorem Kp.refl {w:World}{b i:Nat}:Kp w w b i:=⟨rfl,fun _ _ h=>h⟩
theorem Kp.trans {w1 w2 w3:World}{b i:Nat}(h:Kp w1 w2 b i)(k:Kp w2 w3 b i):Kp w1 w3 b i:=⟨k.1.trans h.1,fun es c e=>k.2 _ _ (h.2 _ _ e)⟩
theorem Kp.of {w w':World}{b i:Nat}(h:w'.heap[b]?=w.heap[b]?):Kp w w' b i:=⟨Ċ (w:=w) h,fun _ _ e=>h.trans e⟩
theorem Kp.ofCells {w w':World}{b i:Nat}{arr:Array Value}{T:TypeId}{f:Nat×Nat}(h:w'.cell? ⟨b,i,none⟩=w.cell? ⟨b,i,none⟩)(hb:w.heap[b]?=some (.cells arr T f)):Kp w w' b i:=⟨h,fun _ _ e=>by rw [hb] at e;cases e⟩
def Z1 (es:Array MapEntry)(c:Nat):Prop:=(∀ x∈es.toList,x.born<c)/\(es.toList.map (·.born)).Nodup
inductive V (w:World) (U:Nat->Nat->Prop):List Nat->PV->Value->Prop where
 |lit (φ:List Nat) (v:Value):V w U φ (.lit v) v
 |agg (φ:List Nat) (cs:List PV) (arr:Array Value) (hn:arr.size=cs.length) (h:∀ i (h:i<cs.length),V w U φ cs[i] (arr.getD i Go.undef)) (h1:∀ i,i<arr.size->(arr.getD i Go.undef).oneCell'=true):V w U φ (.agg cs) (.agg arr)
 |tup (φ:List Nat) (cs:List PV) (arr:Array Value) (hn:arr.size=cs.length) (h:∀ i (h:i<cs.length),V w U φ cs[i] (arr.getD i Go.undef)):V w U φ (.tup cs) (.tuple arr)
 |nil (φ:List Nat) (g:Grow):V w U φ (.sl [] g) (.slice none 0 0)
 |sl (φ:List Nat) (xs:List (List PV)) (g:Grow) (b o sz cap:Nat) (us:Nat->Nat->Value) (hc:xs.length<=cap) (hm:cap<=9223372036854775807)
  (hs:∀ i (h:i<xs.length),(xs[i]).length=sz) (hU:∀ i j,i<xs.length->j<sz->U b (o+i*sz+j))
  (hw:∀ i j,i<xs.length->j<sz->w.cell? ⟨b,o+i*sz+j,none⟩=some (us i j)) (h1:∀ i j,i<xs.length->j<sz->(us i j).oneCell'=true)
  (hv:∀ i (h:i<xs.length) j (hj:j<(xs[i]).length),V w U [] xs[i][j] (us i j)) (hf:g=.full->cap=xs.length) (hg:g≠.nil):V w U φ (.sl xs g) (.slice (some ⟨b,o,none⟩) xs.length cap)
 |ptr (φ:List Nat) (b o k:Nat) (h:φ[b]?=some k):V w U φ (.ptr b o) (.pointer (some ⟨k,o,none⟩))
 |vptr (φ:List Nat) (cs:List PV) (b o' o:Nat) (us:Nat->Value) (hU:∀ j,j<cs.length->U b (o'+j)) (hw:∀ j,j<cs.length->w.cell? ⟨b,o'+j,none⟩=some (us j))
  (h1:∀ j,j<cs.length->(us j).oneCell'=true) (hv:∀ j (h:j<cs.length),V w U [] cs[j] (us j)):V w U φ (.vptr cs o) (.pointer (some ⟨b,o'+o,none⟩))
 |fn (φ:List Nat) (f:FuncId) (caps:List PV) (arr:Array Value) (hn:arr.size=caps.length) (h:∀ i (h:i<caps.length),V w U φ caps[i] (arr.getD i Go.undef)):V w U φ (.fn f caps) (.func (.func f) #[] arr)
 |fno (φ:List Nat) (f:FuncId) (caps:List PV) (arr:Array Value) (hn:arr.size=caps.length) (h:∀ i (h:i<caps.length),V w U [] caps[i] (arr.getD i Go.undef)):V w U φ (.fno true f caps) (.func (.func f) #[] arr)
 |fnb (φ:List Nat) (f:FuncId) (args:List PV) (arr:Array Value) (hn:arr.size=args.length) (h:∀ i (h:i<args.length),V w U [] args[i] (arr.getD i Go.undef)):V w U φ (.fnb f args) (.func (.func f) arr #[])
 |nof (φ:List Nat) (f:FuncId) (caps:List PV):V w U φ (.fno false f caps) .nilFunc
 |ifc (φ:List Nat) (t:TypeId) (v:Value):V w U φ .ifc (.iface t v)
 |mref (φ:List Nat) (b k:Nat) (h:φ[b]?=some k):V w U φ (.mref b) (.map (some k))
 |mp (φ:List Nat) (kvs:List (Value×Value)) (v:Value):V w U φ (.mp kvs) v
 |vmp (φ:List Nat) (kvs:List (Value×Value)) (b:Nat) (es:Array MapEntry) (c:Nat) (hU:U b 0) (hw:w.heap[b]?=some (.map es c)) (hk:es.toList.map (fun e=>(e.key,e.val))=kvs) (hs:Z1 es c):V w U φ (.vmp kvs) (.map (some b))
 |mit (φ:List Nat) (kvs:List (Value×Value)) (seen:List Nat) (v:Value):V w U φ (.mit kvs seen) v
 |dis (φ:List Nat) (f:List Nat->List (List PV)) (i:List Nat) (v:Value) (h:V w U φ (.sl (f i) .shared) v):V w U φ (.dis f) v
 |undef (φ:List Nat) (v:Value):V w U φ .undef v
 |emp (φ:List Nat) (g:Grow) (b o k:Nat) (hg:g≠.nil):V w U φ (.sl [] g) (.slice (some ⟨b,o,some k⟩) 0 0)
 |prv (φ:List Nat) (xs:List (List Value)) (A:Option Addr) (cap:Nat):V w U φ (.prv xs) (.slice A xs.length cap)
 |asl (φ:List Nat) (b o n cap k:Nat) (h:φ[b]?=some k) (hc:n<=cap) (hm:cap<=9223372036854775807):V w U φ (.asl b o n cap) (.slice (some ⟨k,o,none⟩) n cap)
section
variable {w w':World} {U U':Nat->Nat->Prop} {φ φ':List Nat} {p:PV} {v:Value}
theorem V.mono (h:V w U φ p v)(hU:∀ b i,U b i->U' b i/\Kp w w' b i):∀ {φ':List Nat},(∀ (k x:Nat),φ[k]?=some x->φ'[k]?=some x)->V w' U' φ' p v:=by
 induction h with
 |lit φ v=>intro φ' _;exact .lit _ _
 |agg φ cs arr m h r ih=>intro φ' d;exact .agg _ _ _ m (fun i a=>ih i a d) r
 |tup φ cs arr m h ih=>intro φ' d;exact .tup _ _ _ m (fun i a=>ih i a d)
 |nil φ g=>intro φ' _;exact .nil _ _
 |sl φ xs g b o sz cap us u y hs l s r C D z ih =>
  intro φ' _
  exact .sl _ _ _ b o sz cap us u y hs (fun i j a e=>(hU _ _ (l i j a e)).1) (fun i j a e=>((hU _ _ (l i j a e)).2.1).trans (s i j a e)) r (fun i a j e=>ih i a j e (fun k x q=>q)) D z
 |ptr φ b o k h=>intro φ' d;exact .ptr _ _ _ _ (d _ _ h)
 |vptr φ cs b o' o us l s r C ih =>
  intro φ' _
  exact .vptr _ _ _ _ _ us (fun j e=>(hU _ _ (l j e)).1) (fun j e=>((hU _ _ (l j e)).2.1).trans (s j e)) r (fun j e=>ih j e (fun k x q=>q))
 |fn φ f caps arr m h ih=>intro φ' d;exact .fn _ _ _ _ m (fun i a=>ih i a d)
 |fno φ f caps arr m h ih=>intro φ' _;exact .fno _ _ _ _ m (fun i a=>ih i a (fun k x q=>q))
 |fnb φ f caps arr m h ih=>intro φ' _;exact .fnb _ _ _ _ m (fun i a=>ih i a (fun k x q=>q))
 |nof φ f caps=>intro φ' _;exact .nof _ _ _
 |ifc φ t v=>intro φ' _;exact .ifc _ _ _
 |mref φ b k h=>intro φ' d;exact .mref _ _ _ (d _ _ h)
 |mp φ kvs v=>intro φ' _;exact .mp _ _ _
 |vmp φ kvs b es c B s q hs=>intro φ' _;exact .vmp _ _ b es c (hU _ _ B).1 ((hU _ _ B).2.2 _ _ s) q hs
 |mit φ kvs seen v=>intro φ' _;exact .mit _ _ _ _
 |dis φ f i v h ih=>intro φ' d;exact .dis _ _ i _ (ih d)
 |undef φ v=>intro φ' _;exact .undef _ _
 |emp φ g b o k z=>intro φ' _;exact .emp _ _ _ _ _ z
 |prv φ xs A cap=>intro φ' _;exact .prv _ _ _ _
 |asl φ b o n cap k h u y=>intro φ' d;exact .asl _ _ _ _ _ _ (d _ _ h) u y
theorem V.fits {N:Nat}(h:V w U φ p v):p.fits N=true->V w U (φ.take N) p v:=by
 induction h with
 |lit φ v=>intro _;exact .lit _ _
 |agg φ cs arr d h l ih=>intro a;rw [PV.fits] at a;exact .agg _ _ _ d (fun i e=>ih i e (D5 a i e)) l
 |tup φ cs arr d h ih=>intro a;rw [PV.fits] at a;exact .tup _ _ _ d (fun i e=>ih i e (D5 a i e))
 |nil φ g=>intro _;exact .nil _ _
 |sl φ xs g b o sz cap us q r hs j m l s a u ih=>intro _;exact .sl _ _ _ b o sz cap us q r hs j m l s a u
 |ptr φ b o k h =>
  intro a;rw [PV.fits,Í] at a
  exact .ptr _ _ _ _ (by rw [Ā,Ç a];exact h)
 |vptr φ cs b o' o us j m l s ih=>intro _;exact .vptr _ _ _ _ _ us j m l s
 |fn φ f caps arr d h ih=>intro a;rw [PV.fits] at a;exact .fn _ _ _ _ d (fun i e=>ih i e (D5 a i e))
 |fno φ f caps arr d h ih=>intro _;exact .fno _ _ _ _ d h
 |fnb φ f caps arr d h ih=>intro _;exact .fnb _ _ _ _ d h
 |nof φ f caps=>intro _;exact .nof _ _ _
 |ifc φ t v=>intro _;exact .ifc _ _ _
 |mref φ b k h =>
  intro a;rw [PV.fits,Í] at a
  exact .mref _ _ _ (by rw [Ā,Ç a];exact h)
 |mp φ kvs v=>intro _;exact .mp _ _ _
 |vmp φ kvs b es c x m y hs=>intro _;exact .vmp _ _ b es c x m y hs
 |mit φ kvs seen v=>intro _;exact .mit _ _ _ _
 |dis φ f i v h ih=>intro _;exact .dis _ _ i _ (ih (by rw [PV.fits]))
 |undef φ v=>intro _;exact .undef _ _
 |emp φ g b o k u=>intro _;exact .emp _ _ _ _ _ u
 |prv φ xs A cap=>intro _;exact .prv _ _ _ _
 |asl φ b o n cap k h q r =>
  intro a;rw [PV.fits,Í] at a
  exact .asl _ _ _ _ _ _ (by rw [Ā,Ç a];exact h) q r
def PV.pure (p:PV):Bool:=p.fits 0
theorem V.pure (h:V w U φ p v)(hp:p.pure=true):V w U φ' p v :=
 (h.fits (N:=0) hp).mono (fun _ _ h=>⟨h,Kp.refl⟩) (fun k x hk=>by simp at hk)
theorem V.tag {xs:List (List PV)}{g g':Grow}(h:V w U φ (.sl xs g) v)(hf:g'≠.full)(hn:g'≠.nil):V w U φ (.sl xs g') v:=by
 cases h with
 |nil=>exact .nil _ _
 |emp _ _ _ _ _ a=>exact .emp _ _ _ _ _ hn
 |sl _ _ _ b o sz cap us c d hs f i j k l a=>exact .sl _ _ _ b o sz cap us c d hs f i j k (fun e=>absurd e hf) hn
end
end Go.Vl
namespace Go.Vl
open Go Go.RowKit
structure Gh where
 U:Nat->Nat->Prop
 φ:List Nat
 Ω:Nat->Option Loc
def Az (w:World)(G:Gh)(l:Loc)(xs:List (List PV))(v:Value):Prop :=
 (xs=[]/\v=.slice none 0 0) ∨
 ∃ b cap sz T,∃ arr:Array Value,v=.slice (some ⟨b,0,none⟩) xs.length cap/\xs≠[]/\(∀ x∈xs,x.length=sz)/\G.Ω b=some l/\w.heap[b]?=some (.cells arr T (0,0))/\arr.size=cap*sz/\∀ i,G.U b i->i<xs.length*sz
def B9 (w:World)(G:Gh)(l:Loc)(xs:List (List Value))(v:Value):Prop :=
 (xs=[]/\v=.slice none 0 0) ∨
 ∃ b cap sz T,∃ arr:Array Value,v=.slice (some ⟨b,0,none⟩) xs.length cap/\xs≠[]/\(xs.length<=cap/\cap<=9223372036854775807)/\(∀ x∈xs,x.length=sz)/\G.Ω b=some l/\w.heap[b]?=some (.cells arr T (0,0))/\(arr.size=cap*sz/\(∀ i,i<arr.size->(arr.getD i Go.undef).oneCell'=true)/\∀ i (hi:i<xs.length) j (hj:j<(xs[i]).length),arr.getD (i*sz+j) Go.undef=xs[i][j])/\∀ i,¬ G.U b i
def Ca (w:World)(G:Gh)(l:Loc):PV->Value->Prop
 |.sl xs .own,v=>Az w G l xs v
 |.prv xs,v=>B9 w G l xs v
 |_,_=>True
def PV.isM:PV->Bool
 |.mp _=>true
 |.mit _ _=>true
 |_=>false
def Itr (w:World)(U:Nat->Nat->Prop)(o:Obj)(kvs:List (Value×Value))(seen:List Nat):Prop :=
 ∃ bm es c st,o=.mapIter (some bm) c st c/\U bm 0/\w.heap[bm]?=some (.map es c)/\es.toList.map (fun e=>(e.key,e.val))=kvs/\Z1 es c/\st.toList=seen.map (fun i=>(es.toList.map (·.born)).getD i 0)/\∀ j∈seen,j<kvs.length
def Z5 (w:World)(U:Nat->Nat->Prop)(o:Obj)(arr:Array Value)(cs:List PV):Prop :=
 ((∃ T,o=.cells arr T (0,0))/\∀ p∈cs,p.isM=false)∨(∃ kvs es c,cs=[.mp kvs]/\o=.map es c/\es.toList.map (fun e=>(e.key,e.val))=kvs/\Z1 es c)∨∃ kvs seen,cs=[.mit kvs seen]/\Itr w U o kvs seen
theorem Z5.mono {w w':World}{U U':Nat->Nat->Prop}{o:Obj}{arr:Array Value}{cs:List PV}(h:Z5 w U o arr cs)(hU:∀ b i,U b i->U' b i/\Kp w w' b i):Z5 w' U' o arr cs:=by
 rcases h with h|h|⟨kvs,seen,e,bm,es,c,st,d,a,f,g⟩
 . exact .inl h
 . exact .inr (.inl h)
 . exact .inr (.inr ⟨kvs,seen,e,bm,es,c,st,d,(hU _ _ a).1,(hU _ _ a).2.2 _ _ f,g⟩)
structure Afc (w:World) (G:Gh) (k b:Nat) (cs:List PV):Prop where
 blk:∃ o,∃ arr:Array Value,w.heap[b]?=some o/\(Z5 w G.U o arr cs/\arr.size=cs.length)/\∀ j c,cs[j]?=some c->∃ v,arr[j]?=some v/\v.oneCell'=true/\V w G.U G.φ c v/\Ca w G (.cell k j) c v
 noU:∀ i,¬ G.U b i
structure Ay (w:World) (G:Gh) (σ:List (List PV)):Prop where
 len:G.φ.length=σ.length
 nodup:G.φ.Nodup
 blk:∀ k b cs,G.φ[k]?=some b->σ[k]?=some cs->Afc w G k b cs
 ub:∀ b i,G.U b i->b<w.heap.size
 ob:∀ b,G.Ω b≠none->b<w.heap.size/\b∉G.φ
structure Ext (w:World) (G:Gh) (w':World) (G':Gh):Prop where
 os:w'.os=w.os
 tape:w'.tape=w.tape
 output:w'.output=w.output
 size:w.heap.size<=w'.heap.size
 frame:∀ k,k<w.heap.size->k∉G.φ->G.Ω k=none->w'.heap[k]?=w.heap[k]?
 cells:∀ b i,G.U b i->G'.U b i/\Kp w w' b i
 newU:∀ b i,G'.U b i->G.U b i∨w.heap.size<=b∨G.Ω b≠none
 newΩ:∀ b,G'.Ω b≠none->w.heap.size<=b∨G.Ω b≠none
 phi:∃ ψ,G'.φ=G.φ++ψ/\∀ b∈ψ,w.heap.size<=b∨G.Ω b≠none
theorem Ext.refl (w:World)(G:Gh):Ext w G w G:=⟨rfl,rfl,rfl,Ü _,fun _ _ _ _=>rfl,fun _ _ h=>⟨h,Kp.refl⟩,fun _ _ h=>.inl h,fun _ h=>.inr h,[],by simp,by simp⟩
theorem Ext.trans {w1 w2 w3:World}{G1 G2 G3:Gh}(h:Ext w1 G1 w2 G2)(k:Ext w2 G2 w3 G3):Ext w1 G1 w3 G3:=by
 obtain⟨ψ,e,f⟩:=h.phi
 obtain⟨ψ',a,c⟩:=k.phi
 have hs:=h.size
 refine⟨k.os.trans h.os,k.tape.trans h.tape,k.output.trans h.output,Ĕ h.size k.size,?_,?_,?_,?_,ψ++ψ',?_,?_⟩
 . intro i g h1 h2
   rw [k.frame i (by omega) ?_ ?_,h.frame i g h1 h2]
   . grind
   . cases j:G2.Ω i with
     |none=>rfl
     |some l =>
      rcases h.newΩ i (by rw [j];simp) with h3|h3
      . omega
      . exact absurd h2 h3
 . intro b i d
   obtain⟨h1,h2⟩:=h.cells b i d
   obtain⟨h3,m⟩:=k.cells b i h1
   exact⟨h3,h2.trans m⟩
 . intro b i d
   rcases k.newU b i d with h1|h1|h1
   . exact h.newU b i h1
   . exact .inr (.inl (by omega))
   . rcases h.newΩ b h1 with h2|h2
     . exact .inr (.inl h2)
     . exact .inr (.inr h2)
 . intro b hb
   rcases k.newΩ b hb with h1|h1
   . exact .inl (by omega)
   . exact h.newΩ b h1
 . rw [a,e,ð]
 . intro b hb
   rcases List.mem_append.1 hb with hb|hb
   . exact f b hb
   . rcases c b hb with h1|h1
     . exact .inl (by omega)
     . exact h.newΩ b h1
theorem Ext.phiGet {w w':World}{G G':Gh}(h:Ext w G w' G')(k x:Nat)(hk:G.φ[k]?=some x):G'.φ[k]?=some x:=by
 obtain⟨ψ,a,_⟩:=h.phi
 rw [a,Õ (List.getElem?_eq_some_iff.1 hk).1];exact hk
theorem Ext.V {w w':World}{G G':Gh}(h:Ext w G w' G'){p:PV}{v:Value}(hv:V w G.U G.φ p v):V w' G'.U G'.φ p v:=hv.mono h.cells h.phiGet
theorem Ext.below {w w':World}{G G':Gh}(h:Ext w G w' G')(hφ:G.φ=[])(hΩ:∀ b,G.Ω b=none):Below w.heap.size w w' :=
 ⟨h.os,h.tape,h.output,h.size,fun k hk=>h.frame k hk (by rw [hφ];simp) (hΩ k)⟩
def Cu (w:World)(G:Gh):Prop:=PC w/\∀ b∈Vj,b<w.heap.size/\b∉G.φ/\G.Ω b=none
theorem Cu.ext {w w':World}{G G':Gh}(h:Cu w G)(hx:Ext w G w' G'):Cu w' G':=by
 refine⟨Xu h.1 fun b hb=>hx.frame b (h.2 b hb).1 (h.2 b hb).2.1 (h.2 b hb).2.2,fun b hb=>?_⟩
 obtain⟨c,d,a⟩:=h.2 b hb
 refine⟨ñ c hx.size,?_,?_⟩
 . obtain⟨ψ,f,g⟩:=hx.phi
   rw [f]
   intro hm
   rcases List.mem_append.1 hm with hm|hm
   . exact d hm
   . rcases g b hm with h4|h4
     . omega
     . exact h4 a
 . cases e:G'.Ω b with
   |none=>rfl
   |some l =>
    rcases hx.newΩ b (by rw [e];simp) with h4|h4
    . omega
    . exact absurd a h4
structure St where
 env:List (Nat×PV)
 σ:List (List PV)
def Cj:List (Nat×PV)->Nat->PV
 | [],_=>.undef
 |(k,v)::r,t=>if k=t then v else Cj r t
def St.get (st:St)(t:Nat):PV:=Cj st.env t
def Dz (w:World)(G:Gh)(st:St)(tm:Nat->Value)(t:Nat):PV->Value->Prop
 |.sl xs .own,v=>Az w G (.tmp t) xs v
 |.prv xs,v=>B9 w G (.tmp t) xs v
 |.sl xs (.view (.tmp s)),v=>st.get s=.sl xs .own/\tm s=v
 |.sl xs (.view (.cell k j)),v=>∃ cs b,st.σ[k]?=some cs/\cs[j]?=some (.sl xs .own)/\G.φ[k]?=some b/\w.cell? ⟨b,j,none⟩=some v
 |.sl _ (.view _),_=>False
 |.tup cs,v=>∀ i xs,cs[i]?=some (.sl xs .own)->∃ arr u,v=.tuple arr/\arr[i]?=some u/\Az w G (.tcomp t i) xs u
 |_,_=>True
structure Hp (w:World) (G:Gh) (st:St) (tm:Nat->Value):Prop where
 v:∀ t,V w G.U G.φ (st.get t) (tm t)
 tag:∀ t,Dz w G st tm t (st.get t) (tm t)
structure Inv (w0:World) (G0:Gh) (st:St) (tm:Nat->Value) (w:World) (G:Gh):Prop where
 ext:Ext w0 G0 w G
 store:Ay w G st.σ
 env:Hp w G st tm
inductive Cb where
 |ret (r:PV)
 |pan (c:List PanicEntry)
def Gm (w:World)(G:Gh):PV->Value->Prop
 |.sl xs .own,v=>Az w G (.ret 0) xs v
 |.prv _,_=>False
 |.sl _ (.view _),_=>False
 |.tup cs,v=>∀ i xs,cs[i]?=some (.sl xs .own)->∃ arr u,v=.tuple arr/\arr[i]?=some u/\Az w G (.ret i) xs u
 |_,_=>True
def CT (w:World)(G:Gh):Cb->Ending->Prop
 |.ret r,e=>∃ v,e=.returned v/\V w G.U G.φ r v/\Gm w G r v
 |.pan c,e=>e=.panicked c
def VC (P:Program)(f:FuncId)(args:List PV)(σ:List (List PV))(Q:Cb->List (List PV)->Prop):Prop :=
 ∀ (w:World) (G:Gh) (vs:Array Value),Ay w G σ->vs.size=args.length->(∀ i (h:i<args.length),V w G.U G.φ args[i] (vs.getD i Go.undef)) ->
  (∀ b l,G.Ω b=some l->∃ k j,l=.cell k j)->Cu w G ->
  Calls P f vs w fun e w'=>∃ x σ' G',Q x σ'/\CT w' G' x e/\Ay w' G' σ'/\Ext w G w' G'
theorem VC.mono {P:Program}{f:FuncId}{args:List PV}{σ:List (List PV)}{Q Q':Cb->List (List PV)->Prop}(h:VC P f args σ Q)(hq:∀ x σ',Q x σ'->Q' x σ'):VC P f args σ Q' :=
 fun w G vs h1 h2 h3 h4 h5=>(h w G vs h1 h2 h3 h4 h5).mono fun _ _ ⟨x,σ',G',q,r⟩=>⟨x,σ',G',hq _ _ q,r⟩
end Go.Vl
namespace Go.Vl
open Go Go.RowKit
def Gx (l:Loc):PV->PV
 |.sl xs (.view l')=>if l'=l then .sl xs .shared else .sl xs (.view l')
 |p=>p
def U8 (l:Loc)(env:List (Nat×PV)):List (Nat×PV):=env.map fun x=>(x.1,Gx l x.2)
def Wp:PV->Bool
 |.sl _ .own=>true
 |.prv _=>true
 |_=>false
def St.put (st:St)(d:Option Tmp)(p:PV):St :=
 match d with
 |none=>st
 |some d=>{ st with env:=(d,p)::(if Wp (st.get d) then U8 (.tmp d) st.env else st.env) }
theorem PE (l:Loc):∀ (env:List (Nat×PV)) (t:Nat),Cj (U8 l env) t=Gx l (Cj env t)
 | [],_=>rfl
 |(k,v)::r,t=>by
  show (if k=t then Gx l v else Cj (U8 l r) t)=Gx l (if k=t then v else Cj r t)
  split
  . rfl
  . exact PE l r t
theorem B7 (st:St)(d:Nat)(p:PV)(t:Nat):(st.put (some d) p).get t=if d=t then p else if Wp (st.get d) then Gx (.tmp d) (st.get t) else st.get t:=by
 show (if d=t then p else Cj _ t)=_
 split
 . rfl
 . split
   . exact PE _ _ _
   . rfl
theorem Kx (st:St)(d:Option Tmp)(p:PV):(st.put d p).σ=st.σ:=by cases d<;>rfl
def FN (tm:Nat->Value)(d:Nat)(v:Value)(t:Nat):Value:=if d=t then v else tm t
section
variable {w w' w0:World} {G G' G0:Gh} {st st':St} {tm tm':Nat->Value} {p:PV} {v:Value} {d:Nat} {P:Program}
theorem Abj {l:Loc}{φ:List Nat}{U:Nat->Nat->Prop}(h:V w U φ p v):V w U φ (Gx l p) v:=by
 unfold Gx
 split
 . split
   . exact h.tag (by simp) (by simp)
   . exact h
 . exact h
theorem WM {l:Loc}{xs:List (List PV)}:Gx l p=.sl xs .own↔p=.sl xs .own:=by
 unfold Gx
 split
 . split<;>simp
 . rfl
theorem Hp.put (h:Hp w G st tm)(d:Nat)(hv:V w G.U G.φ p v)(ht:Dz w G (st.put (some d) p) (FN tm d v) d p v):Hp w G (st.put (some d) p) (FN tm d v):=by
 refine⟨fun t=>?_,fun t=>?_⟩
 . rw [B7];unfold FN
   by_cases e:d=t
   . rw [Ç e,Ç e];exact hv
   . rw [Ä e,Ä e]
     split
     . exact Abj (h.v t)
     . exact h.v t
 . by_cases e:d=t
   . grind [B7,FN]
   . have a:=h.tag t
     have e2:FN tm d v t=tm t:=Ä e
     have e1:(st.put (some d) p).get t=if Wp (st.get d) then Gx (.tmp d) (st.get t) else st.get t:=by rw [B7,Ä e]
     rw [e1,e2]
     have key:∀ xs s,s≠d->st.get s=.sl xs .own->(st.put (some d) p).get s=.sl xs .own:=by
      grind [B7,WM]
     revert a
     generalize st.get t=q
     intro a
     cases q with
     |sl xs g =>
      cases g with
      |view l =>
       cases l with
       |tmp s =>
        by_cases es:s=d
        . subst es
          have c:st.get s=.sl xs .own:=a.1
          rw [c];simp [Wp,Gx];trivial
        . grind [Gx,Dz,FN]
       |cell k j =>
        have b:Dz w G (st.put (some d) p) (FN tm d v) t (.sl xs (.view (.cell k j))) (tm t):=by rw [Dz,Kx];exact a
        split
        . simp only [Gx];simpa using b
        . exact b
       |tcomp s i=>exact a.elim
       |ret i=>exact a.elim
      |own=>split<;>exact a
      |shared=>split<;>trivial
      |full=>split<;>trivial
      |nil=>split<;>trivial
     |tup cs=>split<;>exact a
     |_=>split<;>trivial
theorem Inv.put (h:Inv w0 G0 st tm w G)(d:Nat)(hv:V w G.U G.φ p v)(ht:Dz w G (st.put (some d) p) (FN tm d v) d p v):Inv w0 G0 (st.put (some d) p) (FN tm d v) w G :=
 ⟨h.ext,by rw [Kx];exact h.store,h.env.put d hv ht⟩
def plain:PV->Bool
 |.sl _ .own=>false
 |.prv _=>false
 |.sl _ (.view _)=>false
 |.tup _=>false
 |_=>true
theorem DX (hp:plain p=true)(st:St)(tm:Nat->Value)(t:Nat)(v:Value):Dz w G st tm t p v:=by
 cases p with
 |sl xs g=>cases g<;>simp_all [plain,Dz]
 |tup cs=>simp [plain] at hp
 |_=>trivial
theorem Inv.putPlain (h:Inv w0 G0 st tm w G)(d:Nat)(hv:V w G.U G.φ p v)(hp:plain p=true):Inv w0 G0 (st.put (some d) p) (FN tm d v) w G :=
 h.put d hv (DX hp _ _ _ _)
def Zs:Value->PV
 |.slice none 0 0=>.sl [] .nil
 |.nilFunc=>.fno false 0 []
 |v=>.lit v
def F5:Value->PV
 |.slice none 0 0=>.sl [] .nil
 |.nilFunc=>.fno false 0 []
 |.agg arr=>if arr.toList.all Value.oneCell'=true then .agg (arr.toList.map Zs) else .lit (.agg arr)
 |v=>.lit v
theorem Abm {U:Nat->Nat->Prop}{φ:List Nat}(v:Value):V w U φ (Zs v) v:=by
 unfold Zs
 split
 . exact .nil _ _
 . exact .nof _ _ _
 . exact .lit _ _
theorem KN {U:Nat->Nat->Prop}{φ:List Nat}(v:Value):V w U φ (F5 v) v:=by
 unfold F5
 split
 . exact .nil _ _
 . exact .nof _ _ _
 . rename_i arr
   split
   . rename_i h
     rw [Ú] at h
     refine .agg _ _ arr (by simp) (fun i a=>?_) (fun i a=>?_)
     . have b:i<arr.size:=by simpa using a
       simp only [é,Array.getElem_toList]
       rw [É,à b]
       exact Abm _
     . rw [É,à a]
       exact h _ (by simp)
   . exact .lit _ _
 . exact .lit _ _
def Ck (st:St):Operand->PV
 |.tmp t=>st.get t
 |.const v=>F5 v
 |.global _=>.undef
 |.func f=>.fno true f []
theorem Bz {a:Act}(h:Hp w G st fun t=>a.tmps.getD t Go.undef)(x:Operand):V w G.U G.φ (Ck st x) (a.eval x):=by
 cases x with
 |tmp t=>exact h.v t
 |const v=>exact KN v
 |global g=>exact .undef _ _
 |func f=>exact .fno _ _ _ _ rfl (fun i b=>by simp at b)
def TA (f:FuncId)(caps:List PV):PV:=if (caps.all fun p=>p.fits 0)=true then .fno true f caps else .fn f caps
theorem Zz {U:Nat->Nat->Prop}{φ:List Nat}{f:FuncId}{caps:List PV}{arr:Array Value}(hn:arr.size=caps.length)(h:∀ i (h:i<caps.length),V w U φ caps[i] (arr.getD i Go.undef)):V w U φ (TA f caps) (.func (.func f) #[] arr):=by
 unfold TA
 split
 . rename_i a
   rw [Ú] at a
   exact .fno _ _ _ _ hn (fun i b=>(h i b).pure (a _ (Ù b)))
 . exact .fn _ _ _ _ hn h
theorem Px (f:FuncId)(caps:List PV):plain (TA f caps)=true:=by unfold TA;split<;>rfl
def Bf:PV->PV
 |.sl xs _=>.sl xs .shared
 |.tup _=>.undef
 |.mp _=>.undef
 |.mit _ _=>.undef
 |.prv _=>.undef
 |p=>p
theorem Cp {U:Nat->Nat->Prop}{φ:List Nat}(h:V w U φ p v):V w U φ (Bf p) v:=by
 unfold Bf
 split
 . exact h.tag (by simp) (by simp)
 . exact .undef _ _
 . exact .undef _ _
 . exact .undef _ _
 . exact .undef _ _
 . exact h
theorem Bp (p:PV):plain (Bf p)=true:=by
 cases p<;>rfl
end
end Go.Vl
namespace Go.Vl
open Go Go.RowKit
def Lv (P:Program)(t:TypeId):Option Nat:=(P.info? t).map (·.size)
def KM (P:Program)(t:TypeId):Option Bool:=(P.underlying t).map fun|.struct _=>true|.array _ _=>true|_=>false
def Xw (P:Program)(s f:Nat):Option (Nat×Nat×Bool) :=
 match P.underlying s with
 |some (.struct fs)=>match fs[f]? with
  |some fd=>match Lv P fd.type,KM P fd.type with
   |some n,some a=>some (fd.offset,n,a)
   |_,_=>none
  |none=>none
 |_=>none
def VX (P:Program)(t:TypeId):Option (Nat×Nat) :=
 match P.underlying t with
 |some (.slice e)=>(P.info? e).map fun i=>(i.size,i.bytes)
 |_=>none
def arT (P:Program)(t:TypeId):Option (Nat×Nat×Bool) :=
 match P.underlying t with
 |some (.array n e)=>match Lv P e,KM P e with
  |some k,some a=>some (n,k,a)
  |_,_=>none
 |_=>none
def Aew (P:Program)(t:TypeId):Option IntKind:=match P.underlying t with|some (.int k)=>some k|_=>none
def Km (P:Program)(t:TypeId):Bool:=match P.underlying t with|some .string=>true|_=>false
def Ab2 (P:Program)(t:TypeId):Bool:=match P.underlying t with|some .bool=>true|_=>false
def Ab1 (op:BinOp)(k:IntKind)(a b:Int):Option (Bool×PV) :=
 match op with
 |.add=>some (true,.lit (.int k (k.wrap (a+b))))
 |.sub=>some (true,.lit (.int k (k.wrap (a-b))))
 |.mul=>some (true,.lit (.int k (k.wrap (a*b))))
 |.quo=>some (b != 0,.lit (.int k (k.wrap (a.tdiv b))))
 |.rem=>some (b != 0,.lit (.int k (a.tmod b)))
 |.and=>some (true,.lit (.int k (bits .and k a b)))
 |.or=>some (true,.lit (.int k (bits .or k a b)))
 |.xor=>some (true,.lit (.int k (bits .xor k a b)))
 |.andNot=>some (true,.lit (.int k (bits .andNot k a b)))
 |.eql=>some (true,.lit (.bool (a == b)))
 |.neq=>some (true,.lit (.bool (a != b)))
 |.lss=>some (true,.lit (.bool (decide (a<b))))
 |.leq=>some (true,.lit (.bool (decide (a<=b))))
 |.gtr=>some (true,.lit (.bool (decide (b<a))))
 |.geq=>some (true,.lit (.bool (decide (b<=a))))
 |_=>none
def Ab0 (op:BinOp)(a b:Å):Option (Bool×PV) :=
 match op with
 |.add=>some (decide (a.size+b.size<=9223372036854775807),.lit (.string (a++b)))
 |.eql=>some (true,.lit (.bool (decide (a=b))))
 |.neq=>some (true,.lit (.bool (!decide (a=b))))
 |.lss=>some (true,.lit (.bool (Op.bytesLess a.toList b.toList)))
 |.geq=>some (true,.lit (.bool (!Op.bytesLess a.toList b.toList)))
 |_=>none
def PQ (P:Program)(op:BinOp)(t:TypeId)(x y:PV):Option (Bool×PV) :=
 match x,y with
 |.lit (.int k a),.lit (.int k' b) =>
  match op with
  |.shl=>some (decide (0<=b),.lit (.int k (k.wrap (a*2 ^ min b.toNat k.bits))))
  |.shr=>some (decide (0<=b),.lit (.int k (a.fdiv (2 ^ min b.toNat k.bits))))
  |_=>if k=k' then Ab1 op k a b else none
 |.lit (.string a),.lit (.string b)=>Ab0 op a b
 |.lit (.bool a),.lit (.bool b)=>if Ab2 P t then (match op with|.eql=>some (true,.lit (.bool (a == b)))|.neq=>some (true,.lit (.bool (!(a == b))))|_=>none) else none
 |_,_=>none
section
variable {w:World} {P:Program}
theorem MS (a b:Å):(a.toList == b.toList)=decide (a=b):=by
 rw [ByteArray.toList_eq,ByteArray.toList_eq]
 obtain⟨⟨x⟩⟩:=a
 obtain⟨⟨y⟩⟩:=b
 rw [Bool.eq_iff_iff];simp
theorem X4 {op:BinOp}{t:TypeId}{x y:Value}{p:PV}(xo yo:Operand)(he:PQ P op t (.lit x) (.lit y)=some (true,p)) :
 ∃ v,p=.lit v/\∀ w,(do eqGuard op t xo yo x y;binOp op t x y:Sem Value).run P w=.ok v w:=by
 unfold PQ at he
 split at he
 . rename_i k a k' b c d
   obtain rfl:x=.int k a:=by injection c
   obtain rfl:y=.int k' b:=by injection d
   split at he
   . simp only [Â,È,Í] at he
     exact⟨_,he.2.symm,fun w=>by simp [eqGuard_at_int,binOp_shl,Op.shift];omega⟩
   . simp only [Â,È,Í] at he
     exact⟨_,he.2.symm,fun w=>by simp [eqGuard_at_int,binOp_shr,Op.shift];omega⟩
   . split at he
     . rename_i f
       subst f
       unfold Ab1 at he
       split at he<;>simp only [Â,È,bne_iff_ne,reduceCtorEq] at he
       all_goals
        refine⟨_,he.2.symm,fun w=>?_⟩
        simp [eqGuard_at_int,binOp_add,binOp_sub,binOp_mul,binOp_quo,binOp_rem,binOp_and,binOp_or,binOp_xor,binOp_andNot,binOp_eql,binOp_neq,binOp_lss,binOp_leq,binOp_gtr,binOp_geq,Op.intArith,Op.intDiv,intBits_and,intBits_or,intBits_xor,intBits_andNot,he.1]
     . cases he
 . rename_i a b c d
   obtain rfl:x=.string a:=by injection c
   obtain rfl:y=.string b:=by injection d
   unfold Ab0 at he
   split at he<;>simp only [Â,È,Í,reduceCtorEq] at he
   all_goals
    refine⟨_,he.2.symm,fun w=>?_⟩
    first
     |(simp [eqGuard_at_string,binOp,Op.stringOp,MS];done)
     |(simp only [eqGuard_at_string,Ð,Ö,Ê];exact run_string_add_sum w a b he.1)
 . rename_i a b c d
   obtain rfl:x=.bool a:=by injection c
   obtain rfl:y=.bool b:=by injection d
   split at he
   . rename_i hb
     have e:P.underlying t=some .bool:=by unfold Ab2 at hb;split at hb<;>simp_all
     split at he<;>simp only [Â,È,reduceCtorEq] at he
     all_goals
      refine⟨_,he.2.symm,fun w=>?_⟩
      simp only [eqGuard_at_bool,Ð,Ö,Ê]
      first|exact run_eql_bool w t a b e|exact run_neq_bool w t a b e
   . cases he
 . cases he
theorem X5 {op:BinOp}{t:TypeId}{x y p:PV}{c:Bool}(he:PQ P op t x y=some (c,p)):∃ a b,x=.lit a/\y=.lit b:=by
 unfold PQ at he
 all_goals grind [PQ]
end
end Go.Vl
namespace Go.Vl
open Go Go.RowKit
def Hk:PV->Bool
 |.lit v=>v.oneCell'
 |.agg _=>false
 |.tup _=>false
 |.mp _=>false
 |.mit _ _=>false
 |.undef=>false
 |_=>true
def Cm:PV->List PV
 |.agg cs=>cs
 |p=>[p]
section
variable {w w':World} {G:Gh} {P:Program} {p:PV} {v:Value} {U:Nat->Nat->Prop} {φ:List Nat}
theorem V.slOne {xs:List (List PV)}{g:Grow}(h:V w U φ (.sl xs g) v):v.oneCell'=true:=by
 cases h<;>rfl
theorem V.oneCell (h:V w U φ p v)(hp:Hk p=true):v.oneCell'=true:=by
 cases h with
 |dis _ _ _ _ h=>exact h.slOne
 |_=>simp_all [Hk]<;>rfl
theorem V.cells (h:V w U φ p v)(hp:Hk p=true∨∃ cs,p=.agg cs):v.cells.size=(Cm p).length/\∀ i (h:i<(Cm p).length),V w U φ (Cm p)[i] (v.cells.getD i Go.undef)/\(v.cells.getD i Go.undef).oneCell'=true:=by
 rcases hp with hp|⟨cs,rfl⟩
 . have b:=h.oneCell hp
   have e1:Cm p=[p]:=by cases p<;>simp_all [Hk,Cm]
   have e2:v.cells = #[v]:=by cases v<;>simp_all [Value.oneCell',Value.cells]
   rw [e1,e2]
   refine⟨rfl,fun i a=>?_⟩
   obtain rfl:i=0:=by simpa using a
   exact⟨h,b⟩
 . cases h with
   |agg _ _ arr c h b=>exact⟨c,fun i a=>⟨h i a,b i (by rw [c];exact a)⟩⟩
end
def Aab (k j:Nat):PV->PV
 |.sl xs .own=>.sl xs (.view (.cell k j))
 |.sl xs .full=>.sl xs .full
 |p=>Bf p
def Mh:Option (List PV)->Option (List PV)
 |some (.mp _::_)=>none
 |some (.mit _ _::_)=>none
 |x=>x
def NM (cs:List PV):Prop:=∀ p,cs=[p]->p.isM=false
theorem Hb {x:Option (List PV)}{cs:List PV}(h:Mh x=some cs):x=some cs/\NM cs:=by
 unfold Mh at h
 split at h
 . cases h
 . cases h
 . rename_i b a
   refine⟨h,fun p e=>?_⟩
   cases p<;>first|rfl|exact (b _ [] (by rw [h,e])).elim|exact (a _ _ [] (by rw [h,e])).elim
theorem Z5.cells {w:World}{U:Nat->Nat->Prop}{o:Obj}{arr:Array Value}{cs:List PV}(h:Z5 w U o arr cs)(hn:NM cs):∃ T,o=.cells arr T (0,0):=by
 rcases h with h|⟨kvs,_,_,e,_⟩|⟨_,_,e,_⟩
 . exact h.1
 . exact absurd (hn _ e) (by simp [PV.isM])
 . exact absurd (hn _ e) (by simp [PV.isM])
def J3 (P:Program)(t:TypeId)(σ:List (List PV)):PV->Option (Bool×PV)
 |.ptr b o =>
  match KM P t,Lv P t,Mh σ[b]? with
  |some true,some n,some cs=>some (decide (o+n<=cs.length),.agg (((cs.drop o).take n).map Bf))
  |some false,_,some cs=>some (decide (o<cs.length),Aab b o (cs.getD o .undef))
  |_,_,_=>none
 |.vptr cs o =>
  match KM P t,Lv P t with
  |some true,some n=>some (decide (o+n<=cs.length),.agg (((cs.drop o).take n).map Bf))
  |some false,_=>some (decide (o<cs.length),Bf (cs.getD o .undef))
  |_,_=>none
 |_=>none
def Reads (w:World)(G:Gh)(w':World):Prop:=(∀ b i,G.U b i->Kp w w' b i)/\∀ b∈G.φ,w'.heap[b]?=w.heap[b]?
def J8 (w:World)(G:Gh)(ob:Option Nat)(w':World):Prop:=(∀ b i,G.U b i->Kp w w' b i)/\∀ b,ob=some b->∀ k,G.φ[b]?=some k->w'.heap[k]?=w.heap[k]?
theorem Reads.one {w:World}{G:Gh}{w':World}(h:Reads w G w')(ob:Option Nat):J8 w G ob w':=⟨h.1,fun _ _ k hk=>h.2 k (Ò hk)⟩
def rdB:PV->Option Nat
 |.ptr b _=>some b
 |_=>none
theorem Reads.refl (w:World)(G:Gh):Reads w G w:=⟨fun _ _ _=>Kp.refl,fun _ _=>rfl⟩
def EK (w:World)(G:Gh)(σ:List (List PV)):PV->Value->Prop
 |.sl xs (.view (.cell k j)),v=>∃ cs b,σ[k]?=some cs/\cs[j]?=some (.sl xs .own)/\G.φ[k]?=some b/\w.cell? ⟨b,j,none⟩=some v
 |p,_=>plain p=true
theorem EK.tmp {w:World}{G:Gh}{σ:List (List PV)}{p:PV}{v:Value}(h:EK w G σ p v){st:St}(hs:st.σ=σ)(tm:Nat->Value)(t:Nat):Dz w G st tm t p v:=by
 subst hs
 unfold EK at h
 split at h
 . exact h
 . exact DX h _ _ _ _
theorem EK.plain {w:World}{G:Gh}{σ:List (List PV)}{p:PV}{v:Value}(h:Vl.plain p=true):EK w G σ p v:=by
 unfold EK
 split
 . simp [Vl.plain] at h
 . exact h
section
variable {w w':World} {G:Gh} {P:Program} {σ:List (List PV)} {p q:PV} {v:Value}
theorem addr_add (b o j:Nat):(⟨b,o,none⟩:Addr).add j=⟨b,o+j,none⟩:=by
 unfold Addr.add;split
 . rename_i h;subst h;rfl
 . rfl
theorem Kr {t:TypeId}{n b o:Nat}(ha:KM P t=some true)(hn:Lv P t=some n)(us:List Value)(hl:us.length=n)(hc:∀ j u,us[j]?=some u->w.cell? ⟨b,o+j,none⟩=some u) :
 (Instr.loadAt t (.pointer (some ⟨b,o,none⟩))).run P w=.ok (.agg us.toArray) w:=by
 subst hl
 unfold KM at ha
 unfold Lv at hn
 cases a:P.underlying t with
 |none=>rw [a] at ha;cases ha
 |some d =>
  rw [a] at ha
  cases c:P.info? t with
  |none=>rw [c] at hn;cases hn
  |some i =>
   rw [c] at hn
   have e:(isAgg t).run P w=.ok true w:=by
    simp only [isAgg,Ð,Ý a,Ê]
    cases d<;>simp_all
   have f:(sizeOf t).run P w=.ok us.length w:=by
    simp only [ä,Â] at hn
    simp [sizeOf,typeInfo,c,hn]
   have g:=run_loadCells_list (P:=P) w ⟨b,o,none⟩ us (fun j u k=>by rw [addr_add];exact hc j u k)
   simp only [Instr.loadAt,Instr.sureAddr,loadVar,Ð,Ö,Ê,e,ø,f,g]
theorem HH {t:TypeId}{b o:Nat}{u:Value}(ha:KM P t=some false)(hc:w.cell? ⟨b,o,none⟩=some u) :
 (Instr.loadAt t (.pointer (some ⟨b,o,none⟩))).run P w=.ok u w:=by
 unfold KM at ha
 cases a:P.underlying t with
 |none=>rw [a] at ha;cases ha
 |some d =>
  rw [a] at ha
  have c:(isAgg t).run P w=.ok false w:=by
   simp only [isAgg,Ð,Ý a,Ê]
   cases d<;>simp_all
  simp only [Instr.loadAt,Instr.sureAddr,loadVar,Ð,Ö,Ê,c,â,û,run_load,hc]
theorem Qd {n:Nat}{f:Nat->Value}:∀ (j:Nat) (u:Value),((List.range n).map f)[j]?=some u->j<n/\u=f j:=by
 grind
theorem VB {cs:List PV}{o n:Nat}{f:Nat->Value}{φ':List Nat}(hb:o+n<=cs.length)(hv:∀ j (h:o+j<cs.length),j<n->V w G.U φ' cs[o+j] (f j)/\(f j).oneCell'=true) :
 V w G.U φ' (.agg (((cs.drop o).take n).map Bf)) (.agg ((List.range n).map f).toArray):=by
 refine .agg _ _ _ (by simp;omega) (fun i b=>?_) (fun i b=>?_)
 . have a:i<n:=by simp at b;omega
   have e1:(((cs.drop o).take n).map Bf)[i]=Bf (cs[o+i]'(by omega)):=by simp
   have e2:(((List.range n).map f).toArray.getD i Go.undef)=f i:=by simp [a]
   rw [e1,e2];exact Cp (hv i (by omega) a).1
 . have a:i<n:=by simpa using b
   have e2:(((List.range n).map f).toArray.getD i Go.undef)=f i:=by simp [a]
   rw [e2];exact (hv i (by omega) a).2
theorem PO {t:TypeId}(hs:Ay w G σ)(hv:V w G.U G.φ q v)(he:J3 P t σ q=some (true,p)) :
 ∃ u,V w G.U G.φ p u/\EK w G σ p u/\∀ w',J8 w G (rdB q) w'->(Instr.loadAt t v).run P w'=.ok u w':=by
 cases q with
 |ptr b o =>
  cases hv with
  |ptr _ _ _ k i =>
  simp only [J3] at he
  split at he
  . rename_i n cs l C a
    simp only [Â,È,Í] at he
    obtain⟨hb,rfl⟩:=he
    obtain⟨a,m⟩:=Hb a
    obtain⟨o',arr,D,⟨f,y⟩,c⟩:=(hs.blk b k cs i a).blk
    obtain⟨T,rfl⟩:=f.cells m
    have E:∀ j,j<cs.length->w.cell? ⟨k,j,none⟩=some (arr.getD j Go.undef):=by
     intro j d
     simp only [World.cell?,D]
     simp [y,d]
    refine⟨.agg ((List.range n).map fun j=>arr.getD (o+j) Go.undef).toArray,?_,EK.plain rfl,fun w' r=>Kr l C _ (by simp) fun j u d=>?_⟩
    . refine VB hb fun j d _=>?_
      obtain⟨u,F,B,s,_⟩:=c (o+j) cs[o+j] (Ã d)
      have e:arr.getD (o+j) Go.undef=u:=by simp [F]
      rw [e];exact⟨s,B⟩
    . obtain⟨d,rfl⟩:=Qd j u d
      rw [Ċ (w:=w) (r.2 b rfl k i)]
      exact E (o+j) (by omega)
  . rename_i n cs l a
    simp only [Â,È,Í] at he
    obtain⟨hb,rfl⟩:=he
    obtain⟨a,m⟩:=Hb a
    obtain⟨o',arr,D,⟨f,y⟩,c⟩:=(hs.blk b k cs i a).blk
    obtain⟨T,rfl⟩:=f.cells m
    obtain⟨u,F,B,s,K⟩:=c o cs[o] (Ã hb)
    have z:w.cell? ⟨k,o,none⟩=some u:=by simp only [World.cell?,D];simpa using F
    refine⟨u,?_,?_,fun w' r=>HH l ((Ċ (w:=w) (r.2 b rfl k i)).trans z)⟩
    . have e:cs.getD o .undef=cs[o]:=by simp [hb]
      rw [e]
      unfold Aab
      split
      . rename_i xs A;rw [A] at s;exact s.tag (by simp) (by simp)
      . rename_i xs A;rw [A] at s;exact s
      . exact Cp s
    . have e:cs.getD o .undef=cs[o]:=by simp [hb]
      rw [e]
      unfold Aab
      split
      . rename_i xs A
        exact⟨cs,k,a,by rw [Ã hb,A],i,z⟩
      . exact EK.plain rfl
      . exact EK.plain (Bp _)
  . cases he
 |vptr cs o =>
  cases hv with
  |vptr _ _ b o' _ us I J B H =>
  simp only [J3] at he
  have g:∀ j (h:j<cs.length),V w G.U G.φ cs[j] (us j):=fun j h=>(H j h).mono (fun _ _ h=>⟨h,Kp.refl⟩) (fun k x i=>by simp at i)
  split at he
  . rename_i n l C
    simp only [Â,È,Í] at he
    obtain⟨hb,rfl⟩:=he
    refine⟨.agg ((List.range n).map fun j=>us (o+j)).toArray,?_,EK.plain rfl,fun w' r=>Kr l C _ (by simp) fun j u d=>?_⟩
    . exact VB hb fun j d _=>⟨g _ d,B _ d⟩
    . obtain⟨d,rfl⟩:=Qd j u d
      rw [ī,(r.1 _ _ (I _ (by omega))).1]
      exact J _ (by omega)
  . rename_i l
    simp only [Â,È,Í] at he
    obtain⟨hb,rfl⟩:=he
    have e:cs.getD o .undef=cs[o]:=by simp [hb]
    refine⟨us o,by rw [e];exact Cp (g o hb),EK.plain (Bp _),fun w' r=>HH l ((r.1 _ _ (I _ hb)).1.trans (J _ hb))⟩
  . cases he
 |_=>simp [J3] at he
end
end Go.Vl
namespace Go.Vl
open Go Go.RowKit
def GX (P:Program)(s f:Nat):PV->Option (Bool×PV)
 |.ptr b o=>match Xw P s f with|some (off,n,_)=>some (decide (0<n),.ptr b (o+off))|none=>none
 |.vptr cs o=>match Xw P s f with|some (off,n,_)=>some (decide (0<n),.vptr cs (o+off))|none=>none
 |_=>none
def KB (P:Program)(t:TypeId):PV->PV->Option (Bool×PV)
 |.sl xs _,.lit (.int _ i)=>match VX P t with|some (n,_)=>some (decide (0<=i/\i<(xs.length:Int)/\(xs.getD i.toNat []).length=n),.vptr (xs.getD i.toNat []) 0)|none=>none
 |.ptr b o,.lit (.int _ i)=>match arT P t with|some (m,k,_)=>some (decide (0<=i/\i<(m:Int)),.ptr b (o+i.toNat*k))|none=>none
 |.vptr cs o,.lit (.int _ i)=>match arT P t with|some (m,k,_)=>some (decide (0<=i/\i<(m:Int)),.vptr cs (o+i.toNat*k))|none=>none
 |.asl b o n _,.lit (.int _ i)=>match VX P t with|some (k,_)=>some (decide (0<=i/\i<(n:Int)),.ptr b (o+i.toNat*k))|none=>none
 |_,_=>none
def Wf (cs:List PV)(off n:Nat)(a:Bool):PV:=if a then .agg (((cs.drop off).take n).map Bf) else Bf (cs.getD off .undef)
def Sy (P:Program)(t:TypeId):PV->PV->Option (Bool×PV)
 |.lit (.string s),.lit (.int _ i)=>if Km P t then some (decide (0<=i/\i<(s.size:Int)),.lit (.int .u8 (s.data.toList.getD i.toNat 0).toNat)) else none
 |.agg cs,.lit (.int _ i)=>match arT P t with
  |some (m,k,a)=>some (decide (0<=i/\i<(m:Int)/\i.toNat*k+k<=cs.length/\0<k),Wf cs (i.toNat*k) k a)
  |none=>none
 |_,_=>none
def Sz (P:Program)(s f:Nat):PV->Option (Bool×PV)
 |.agg cs=>match Xw P s f with|some (off,n,a)=>some (decide (off+n<=cs.length/\0<n),Wf cs off n a)|none=>none
 |_=>none
def W7 (d:Int):Option PV->Option Int
 |none=>some d
 |some (.lit (.int _ i))=>some i
 |_=>none
def Ss (P:Program)(t:TypeId)(x:PV)(lo hi mx:Option PV):Option (Bool×PV) :=
 match x with
 |.lit (.string s) =>
  match W7 0 lo,W7 s.size hi,mx with
  |some l,some h,none=>if Km P t then some (decide (0<=l/\l<=h/\h<=(s.size:Int)),.lit (.string (s.extract l.toNat h.toNat))) else none
  |_,_,_=>none
 |.sl xs _ =>
  match W7 0 lo,W7 xs.length hi,VX P t with
  |some l,some h,some (n,_) =>
   match mx with
   |none=>some (decide (0<=l/\l<=h/\h<=(xs.length:Int))&&xs.all (fun x=>x.length == n),.sl ((xs.take h.toNat).drop l.toNat) .shared)
   |some (.lit (.int _ m))=>if hi.isSome then some (decide (0<=l/\l<=h/\h<=(xs.length:Int)/\m=h)&&xs.all (fun x=>x.length == n),.sl ((xs.take h.toNat).drop l.toNat) .full) else none
   |_=>none
  |_,_,_=>none
 |.vptr cs 0 =>
  match W7 0 lo,W7 cs.length hi,arT P t,mx with
  |some l,some h,some (m,1,false),none=>some (decide (0<=l/\l<=h/\h<=(cs.length:Int)/\m=cs.length/\m<=1000000),.sl (((cs.map fun c=>[c]).take h.toNat).drop l.toNat) .shared)
  |_,_,_,_=>none
 |.asl b o n cap =>
  match W7 0 lo,W7 n hi,VX P t,mx with
  |some l,some h,some (k,_),none=>some (decide (0<=l/\l<=h/\h<=(n:Int)/\l<(cap:Int)),.asl b (o+l.toNat*k) (h.toNat-l.toNat) (cap-l.toNat))
  |_,_,_,_=>none
 |_=>none
def YU (P:Program)(t:TypeId):PV->Option (Bool×PV)
 |.lit (.string s)=>if Km P t then some (true,.lit (.int .i64 s.size)) else none
 |.sl xs _=>match VX P t with|some _=>some (true,.lit (.int .i64 xs.length))|none=>none
 |.asl _ _ n _=>match VX P t with|some _=>some (true,.lit (.int .i64 n))|none=>none
 |.prv xs=>match VX P t with|some _=>some (true,.lit (.int .i64 xs.length))|none=>none
 |_=>none
section
variable {w w':World} {G:Gh} {P:Program} {p q r:PV} {v u:Value}
theorem Rs {s f off n:Nat}{a:Bool}(h:Xw P s f=some (off,n,a)):∃ fs fd,P.underlying s=some (.struct fs)/\fs[f]?=some fd/\fd.offset=off/\Lv P fd.type=some n/\KM P fd.type=some a:=by
 grind [Xw]
theorem Ej {t n:Nat}(h:Lv P t=some n)(w:World):(sizeOf t).run P w=.ok n w:=by
 unfold Lv at h
 cases a:P.info? t with
 |none=>rw [a] at h;cases h
 |some i=>rw [a] at h;simp only [ä,Â] at h;simp [sizeOf,typeInfo,a,h]
theorem Qm {t:Nat}{a:Bool}(h:KM P t=some a)(w:World):(isAgg t).run P w=.ok a w:=by
 unfold KM at h
 cases b:P.underlying t with
 |none=>rw [b] at h;cases h
 |some d =>
  rw [b] at h
  simp only [ä,Â] at h
  simp only [isAgg,Ð,Ý b,Ê]
  cases d<;>simp_all
theorem O1 {s f:Nat}(hv:V w G.U G.φ q v)(he:GX P s f q=some (true,p)):∃ u,V w G.U G.φ p u/\plain p=true/\∀ w',(Instr.fieldAt s v f).run P w'=.ok u w':=by
 have key:∀ {b o off n a},Xw P s f=some (off,n,a)->0<n->∀ w',(Instr.fieldAt s (.pointer (some ⟨b,o,none⟩)) f).run P w'=.ok (.pointer (some ⟨b,o+off,none⟩)) w':=by
  intro b o off n a c d w'
  obtain⟨fs,fd,e,i,j,l,_⟩:=Rs c
  simp only [Instr.fieldAt,Ð,Ý e,Ê,i,Instr.sureAddr,Ö,fieldPlace,Ej l,Ġ]
  rw [Ä (by omega)]
  simp only [Ê,j,addr_add]
 cases q with
 |ptr b o =>
  cases hv with
  |ptr _ _ _ k m =>
  simp only [GX] at he
  split at he
  . rename_i off n a c
    simp only [Â,È,Í] at he
    obtain⟨d,rfl⟩:=he
    exact⟨_,.ptr _ _ _ _ m,rfl,key c d⟩
  . cases he
 |vptr cs o =>
  cases hv with
  |vptr _ _ b o' _ us r t e g =>
  simp only [GX] at he
  split at he
  . rename_i off n a c
    simp only [Â,È,Í] at he
    obtain⟨d,rfl⟩:=he
    refine⟨_,?_,rfl,key c d⟩
    have:=V.vptr (φ:=G.φ) cs b o' (o+off) us r t e g
    rw [<- ī] at this;exact this
  . cases he
 |_=>simp [GX] at he
theorem FY {t n m:Nat}(h:VX P t=some (n,m)):∃ e i,P.underlying t=some (.slice e)/\P.info? e=some i/\i.size=n/\i.bytes=m:=by
 unfold VX at h
 split at h
 . rename_i e b
   cases a:P.info? e with
   |none=>rw [a] at h;cases h
   |some i=>rw [a] at h;simp only [ä,Â,È] at h;exact⟨e,i,b,a,h.1,h.2⟩
 . cases h
theorem MU {t m k:Nat}{a:Bool}(h:arT P t=some (m,k,a)):∃ e,P.underlying t=some (.array m e)/\Lv P e=some k/\KM P e=some a:=by
 grind [arT]
theorem O0 {t:TypeId}(hv:V w G.U G.φ q v)(hu:V w G.U G.φ r u)(he:KB P t q r=some (true,p)):∃ x,V w G.U G.φ p x/\plain p=true/\∀ w',(Instr.indexAt t v u).run P w'=.ok x w':=by
 unfold KB at he
 split at he
 . rename_i xs g k i
   cases hu with
   |lit _ _ =>
   split at he
   . rename_i n m hs
     simp only [Â,È,Í] at he
     obtain⟨⟨f,c,d⟩,rfl⟩:=he
     obtain⟨e,inf,l,s,E,L⟩:=FY hs
     have y:Lv P e=some n:=by simp [Lv,s,E]
     cases hv with
     |nil=>simp at c;omega
     |emp=>simp at c;omega
     |sl _ _ _ b o sz cap us M N C F H z A R S =>
     have B:i.toNat<xs.length:=by omega
     have e1:xs.getD i.toNat []=xs[i.toNat]:=by simp [B]
     rw [e1] at d ⊢
     have I:sz=n:=by rw [<- C i.toNat B,d]
     subst I
     have O:=C i.toNat B
     refine⟨.pointer (some ⟨b,(o+i.toNat*sz)+0,none⟩),?_,rfl,fun w'=>?_⟩
     . refine .vptr _ _ b (o+i.toNat*sz) 0 (fun j=>us i.toNat j) (fun j D=>F _ _ B (by omega)) (fun j D=>H _ _ B (by omega)) (fun j D=>z _ _ B (by omega)) (fun j D=>A _ B j D)
     . simp only [Instr.indexAt,asIntOf,Ð,Ö,Ê,Ý l,Ġ]
       rw [Ç ⟨f,c⟩]
       simp only [Ej y,Ê,addr_add,Nat.add_zero]
   . cases he
 . rename_i b o k i
   cases hu with
   |lit _ _ =>
   cases hv with
   |ptr _ _ _ k' J =>
   split at he
   . rename_i m n a K
     simp only [Â,È,Í] at he
     obtain⟨⟨f,c⟩,rfl⟩:=he
     obtain⟨e,l,s,_⟩:=MU K
     refine⟨_,.ptr _ _ _ _ J,rfl,fun w'=>?_⟩
     simp only [Instr.indexAt,asIntOf,Ð,Ö,Ê,Ý l,Ġ,Instr.sureAddr]
     rw [Ç ⟨f,c⟩]
     simp only [Ej s,Ê,addr_add]
   . cases he
 . rename_i cs o k i
   cases hu with
   |lit _ _ =>
   cases hv with
   |vptr _ _ b o' _ us F H z A =>
   split at he
   . rename_i m n a K
     simp only [Â,È,Í] at he
     obtain⟨⟨f,c⟩,rfl⟩:=he
     obtain⟨e,l,s,_⟩:=MU K
     refine⟨.pointer (some ⟨b,o'+(o+i.toNat*n),none⟩),.vptr _ _ _ _ _ us F H z A,rfl,fun w'=>?_⟩
     simp only [Instr.indexAt,asIntOf,Ð,Ö,Ê,Ý l,Ġ,Instr.sureAddr]
     rw [Ç ⟨f,c⟩]
     simp only [Ej s,Ê,addr_add,ī]
   . cases he
 . rename_i b o n cap k i
   cases hu with
   |lit _ _ =>
   cases hv with
   |asl _ _ _ _ _ k' J M N =>
   split at he
   . rename_i m nb hs
     simp only [Â,È,Í] at he
     obtain⟨⟨f,c⟩,rfl⟩:=he
     obtain⟨e,inf,l,s,E,L⟩:=FY hs
     have y:Lv P e=some m:=by simp [Lv,s,E]
     refine⟨_,.ptr _ _ _ _ J,rfl,fun w'=>?_⟩
     simp only [Instr.indexAt,asIntOf,Ð,Ö,Ê,Ý l,Ġ]
     rw [Ç ⟨f,c⟩]
     simp only [Ej y,Ê,addr_add]
   . cases he
 . cases he
theorem Tv {e off n:Nat}{a:Bool}{cs:List PV}{arr:Array Value}(hn:Lv P e=some n)(ha:KM P e=some a)(hv:V w G.U G.φ (.agg cs) (.agg arr))(hb:off+n<=cs.length)(h0:0<n) :
 ∃ x,V w G.U G.φ (Wf cs off n a) x/\plain (Wf cs off n a)=true/\∀ w',(part e arr off).run P w'=.ok x w':=by
 cases hv with
 |agg _ _ _ d h g =>
 cases a with
 |true =>
  refine⟨.agg (arr.extract off (off+n)),?_,rfl,fun w'=>?_⟩
  . have b:=VB (w:=w) (G:=G) (φ':=G.φ) (cs:=cs) (o:=off) (n:=n) (f:=fun j=>arr.getD (off+j) Go.undef) hb (fun j k _=>⟨h _ k,g _ (by omega)⟩)
    have e1:((List.range n).map fun j=>arr.getD (off+j) Go.undef).toArray=arr.extract off (off+n):=by
     apply Array.ext
     . simp;omega
     . intro i l m
       simp at l
       have:off+i<arr.size:=by omega
       simp [this]
    rw [e1] at b
    exact b
  . simp only [part,Ð,Qm ha,Ê,ø,Ej hn,Ö]
 |false =>
  have c:off<arr.size:=by omega
  refine⟨arr[off],?_,Bp _,fun w'=>?_⟩
  . have b:=h off (by omega)
    have e1:cs.getD off .undef=cs[off]'(by omega):=by simp [List.getD,Ã (show off<cs.length by omega)]
    have e2:arr.getD off Go.undef=arr[off]:=by simp [c]
    rw [e2] at b
    show V w G.U G.φ (Bf (cs.getD off .undef)) _
    rw [e1];exact Cp b
  . simp only [part,Ð,Qm ha,Ê,â,û,à c,Ö]
theorem Ua {t:TypeId}(hv:V w G.U G.φ q v)(hu:V w G.U G.φ r u)(he:Sy P t q r=some (true,p)):∃ x,V w G.U G.φ p x/\plain p=true/\∀ w',(Instr.index t v u).run P w'=.ok x w':=by
 unfold Sy at he
 split at he
 . rename_i s k i
   cases hu with
   |lit _ _ =>
   cases hv with
   |lit _ _ =>
   split at he
   . rename_i hs
     simp only [Â,È,Í] at he
     obtain⟨⟨b,y⟩,rfl⟩:=he
     have c:P.underlying t=some .string:=by unfold Km at hs;split at hs<;>simp_all
     refine⟨_,.lit _ _,rfl,fun w'=>?_⟩
     have z:i.toNat<s.size:=by omega
     have d:i.toNat<s.data.toList.length:=by simpa using z
     simp only [Instr.index,asIntOf,Ð,Ö,Ê,Ý c,b,ø]
     rw [getElem?_pos s i.toNat z]
     simp only [Ö]
     have e:s.data.toList.getD i.toNat 0=s[i.toNat]:=by
      rw [List.getD,Ã d];rfl
     rw [e]
   . cases he
 . rename_i cs k i
   cases hu with
   |lit _ _ =>
   split at he
   . rename_i m n a B
     simp only [Â,È,Í] at he
     obtain⟨⟨b,y,hb,C⟩,rfl⟩:=he
     obtain⟨e,c,A,D⟩:=MU B
     cases hv with
     |agg _ _ arr f h g =>
     obtain⟨x,j,l,o⟩:=Tv (e:=e) A D (.agg _ _ arr f h g) hb C
     refine⟨x,j,l,fun w'=>?_⟩
     simp only [Instr.index,asIntOf,Ð,Ö,Ê,Ý c,Ġ]
     rw [Ç ⟨b,y⟩]
     simp only [Ej A,Ê,o]
   . cases he
 . cases he
theorem Ub {s f:Nat}(hv:V w G.U G.φ q v)(he:Sz P s f q=some (true,p)):∃ x,V w G.U G.φ p x/\plain p=true/\∀ w',(Instr.field s v f).run P w'=.ok x w':=by
 unfold Sz at he
 split at he
 . rename_i cs
   split at he
   . rename_i off n a j
     simp only [Â,È,Í] at he
     obtain⟨⟨hb,k⟩,rfl⟩:=he
     obtain⟨fs,fd,l,m,o,r,t⟩:=Rs j
     cases hv with
     |agg _ _ arr b h c =>
     obtain⟨x,d,g,i⟩:=Tv (e:=fd.type) r t (.agg _ _ arr b h c) hb k
     refine⟨x,d,g,fun w'=>?_⟩
     simp only [Instr.field,Ð,Ý l,Ê,m,asAgg,Ö,o,i]
   . cases he
 . cases he
theorem X1 {t ty:TypeId}(hv:V w G.U G.φ q v)(he:YU P t q=some (true,p)):∃ x,V w G.U G.φ p x/\plain p=true/\∀ w',(Builtin.len_ #[t] ty #[v]).run P w'=.ok x w':=by
 unfold YU at he
 split at he
 . rename_i s
   cases hv with
   |lit _ _ =>
   split at he
   . rename_i hs
     have a:P.underlying t=some .string:=by unfold Km at hs;split at hs<;>simp_all
     simp only [Â,È,õ] at he
     subst he
     exact⟨_,.lit _ _,rfl,fun w'=>by simp [Builtin.len_,Ý a,goInt]⟩
   . cases he
 . rename_i xs g
   split at he
   . rename_i n hs
     obtain⟨e,i,a,_⟩:=FY (n:=n.1) (m:=n.2) hs
     simp only [Â,È,õ] at he
     subst he
     cases hv with
     |nil=>exact⟨_,.lit _ _,rfl,fun w'=>by simp [Builtin.len_,Ý a,goInt]⟩
     |emp=>exact⟨_,.lit _ _,rfl,fun w'=>by simp [Builtin.len_,Ý a,goInt]⟩
     |sl _ _ _ b o sz cap us j k c l r d f u y=>exact⟨_,.lit _ _,rfl,fun w'=>by simp [Builtin.len_,Ý a,goInt]⟩
   . cases he
 . rename_i b o n cap
   split at he
   . rename_i m hs
     obtain⟨e,i,a,_⟩:=FY (n:=m.1) (m:=m.2) hs
     simp only [Â,È,õ] at he
     subst he
     cases hv with
     |asl=>exact⟨_,.lit _ _,rfl,fun w'=>by simp [Builtin.len_,Ý a,goInt]⟩
   . cases he
 . rename_i xs
   split at he
   . rename_i m hs
     obtain⟨e,i,a,_⟩:=FY (n:=m.1) (m:=m.2) hs
     simp only [Â,È,õ] at he
     subst he
     cases hv with
     |prv=>exact⟨_,.lit _ _,rfl,fun w'=>by simp [Builtin.len_,Ý a,goInt]⟩
   . cases he
 . cases he
end
end Go.Vl
namespace Go.Vl
open Go Go.RowKit
section
variable {w w':World} {G:Gh} {P:Program} {p q r:PV} {v u:Value} {U:Nat->Nat->Prop} {φ:List Nat}
def VO (w:World)(U:Nat->Nat->Prop)(φ:List Nat):Option PV->Option Value->Prop
 |none,none=>True
 |some p,some v=>V w U φ p v
 |_,_=>False
theorem MT {d l:Int}{lo:Option PV}{lov:Option Value}(h:VO w U φ lo lov)(hb:W7 d lo=some l):(lov=none/\lo=none/\l=d)∨∃ k,lov=some (.int k l)/\lo.isSome=true:=by
 unfold W7 at hb
 split at hb
 . cases lov with
   |none=>exact .inl ⟨rfl,rfl,by simpa using hb.symm⟩
   |some v=>exact h.elim
 . rename_i k i
   cases lov with
   |none=>exact h.elim
   |some v =>
    have a:V w U φ (.lit (.int k i)) v:=h
    cases a with
    |lit _ _ =>
    obtain rfl:i=l:=by simpa using hb
    exact .inr ⟨k,rfl,rfl⟩
 . cases hb
theorem D3 {isS:Bool}{len cap:Nat}{lo hi:Option PV}{lov hiv:Option Value}{l h:Int}(hlo:VO w U φ lo lov)(hhi:VO w U φ hi hiv)(hl:W7 0 lo=some l)(hh:W7 len hi=some h)(h0:0<=l)(h1:l<=h)(h2:h<=len)(hc:len<=cap)(w':World) :
 (Instr.sliceBounds isS len cap lov hiv none).run P w'=.ok (l.toNat,h.toNat,cap) w':=by
 rcases MT hlo hl with⟨rfl,_,rfl⟩|⟨k,rfl,_⟩<;>rcases MT hhi hh with⟨rfl,_,rfl⟩|⟨k',rfl,_⟩
 . simp [Instr.sliceBounds]
 . simp only [Instr.sliceBounds,Ð,Ö,Ê]
   rw [Ě _ _ _ _ _ (by omega) (by omega)]
   simp
 . simp only [Instr.sliceBounds,Ð,Ö,Ê]
   rw [Ě _ _ _ _ _ (by omega) (by omega)]
   simp
 . simp only [Instr.sliceBounds,Ð,Ö,Ê]
   rw [Ě _ _ _ _ _ (by omega) (by omega)]
   simp only [Ê]
   rw [Ě _ _ _ _ _ (by omega) (by omega)]
   simp
theorem Hh {len cap:Nat}{lo hi:Option PV}{lov hiv:Option Value}{l h m:Int}{k:IntKind}(hlo:VO w U φ lo lov)(hhi:VO w U φ hi hiv)(hl:W7 0 lo=some l)(hh:W7 len hi=some h)(hs:hi.isSome=true)(h0:0<=l)(h1:l<=h)(h2:h<=m)(hc:m<=cap)(w':World) :
 (Instr.sliceBounds true len cap lov hiv (some (.int k m))).run P w'=.ok (l.toNat,h.toNat,m.toNat) w':=by
 rcases MT hhi hh with⟨_,rfl,_⟩|⟨k',rfl,_⟩
 . cases hs
 . rcases MT hlo hl with⟨rfl,_,rfl⟩|⟨k2,rfl,_⟩
   . simp only [Instr.sliceBounds,Ð]
     rw [Ě _ _ _ _ _ (by omega) (by omega)]
     simp only [Ê]
     rw [Ě _ _ _ _ _ (by omega) (by omega)]
     simp
   . simp only [Instr.sliceBounds,Ð]
     rw [Ě _ _ _ _ _ (by omega) (by omega)]
     simp only [Ê]
     rw [Ě _ _ _ _ _ (by omega) (by omega)]
     simp only [Ê]
     rw [Ě _ _ _ _ _ (by omega) (by omega)]
     simp
theorem Zx {xs:List (List PV)}{g':Grow}{b o sz cap:Nat}{us:Nat->Nat->Value}{l h m:Nat}(hlh:l<=h)(hh:h<=xs.length)(hm:h<=m)(hm2:m<=cap)(hcap:cap<=9223372036854775807)
 (hs:∀ i (h:i<xs.length),(xs[i]).length=sz) (hU:∀ i j,i<xs.length->j<sz->G.U b (o+i*sz+j))
 (hw:∀ i j,i<xs.length->j<sz->w.cell? ⟨b,o+i*sz+j,none⟩=some (us i j)) (h1:∀ i j,i<xs.length->j<sz->(us i j).oneCell'=true)
 (hv:∀ i (h:i<xs.length) j (hj:j<(xs[i]).length),V w G.U [] xs[i][j] (us i j)) (hf:g'=.full->m=h) (hn:g'≠.nil) :
 V w G.U φ (.sl ((xs.take h).drop l) g') (.slice (some (if m=l then ⟨b,o,none⟩ else ⟨b,o+l*sz,none⟩)) (h-l) (m-l)):=by
 have c:((xs.take h).drop l).length=h-l:=by simp;omega
 have d:∀ i (a:i<((xs.take h).drop l).length),((xs.take h).drop l)[i]=xs[l+i]'(by omega):=by
  intro i a;simp
 by_cases e:m=l
 . have e2:h=l:=by omega
   have e3:(xs.take h).drop l=[]:=ã (by omega)
   rw [Ç e]
   have:=V.sl (w:=w) (U:=G.U) φ ((xs.take h).drop l) g' b o sz (m-l) (fun _ _=>Go.undef) (by omega) (by omega) (fun i a=>by omega) (fun i j a=>by omega) (fun i j a=>by omega) (fun i j a=>by omega) (fun i a=>by omega) (fun e4=>by have:=hf e4;omega) hn
   rw [c] at this;exact this
 . rw [Ä e]
   have:=V.sl (w:=w) (U:=G.U) φ ((xs.take h).drop l) g' b (o+l*sz) sz (m-l) (fun i j=>us (l+i) j) (by omega) (by omega) (fun i a=>by rw [d i a];exact hs _ _)
    (fun i j a hj=>by have:=hU (l+i) j (by omega) hj;rw [ó,<- ī] at this;exact this)
    (fun i j a hj=>by have:=hw (l+i) j (by omega) hj;rw [ó,<- ī] at this;exact this)
    (fun i j a hj=>h1 (l+i) j (by omega) hj) (fun i a j hj=>by
     have e1:=d i a
     have f:j<(xs[l+i]'(by omega)).length:=by rw [<- e1];exact hj
     have:=hv (l+i) (by omega) j f
     simp only [e1];exact this) (fun e4=>by have:=hf e4;omega) hn
   rw [c] at this;exact this
theorem TX {t:TypeId}{lo hi mx:Option PV}{lov hiv mxv:Option Value}(hv:V w G.U G.φ q v)(hlo:VO w G.U G.φ lo lov)(hhi:VO w G.U G.φ hi hiv)(hmx':VO w G.U G.φ mx mxv)(he:Ss P t q lo hi mx=some (true,p)) :
 ∃ x,V w G.U G.φ p x/\plain p=true/\∀ w',(Instr.sliceAt t v lov hiv mxv).run P w'=.ok x w':=by
 unfold Ss at he
 split at he
 . rename_i s
   cases hv with
   |lit _ _ =>
   split at he
   . rename_i l h y B
     have c:mxv=none:=by
      cases mxv with
      |none=>rfl
      |some z=>exact hmx'.elim
     subst c
     split at he
     . rename_i hs
       have J:P.underlying t=some .string:=by unfold Km at hs;split at hs<;>simp_all
       simp only [Â,È,Í] at he
       obtain⟨⟨r,u,a⟩,rfl⟩:=he
       refine⟨_,.lit _ _,rfl,fun w'=>?_⟩
       have hb:=D3 (P:=P) (isS:=false) (len:=s.size) (cap:=s.size) hlo hhi y B r u a (Ü _) w'
       simp [Instr.sliceAt,Ý J,Instr.slice,hb]
     . cases he
   . cases he
 . rename_i xs g
   split at he
   . rename_i l h n nb y B hs
     obtain⟨e,i,J,K,d,_⟩:=FY (n:=n) (m:=nb) hs
     have C:Lv P e=some n:=by simp [Lv,K,d]
     have szOf:∀ {sz:Nat},xs≠[]->(∀ i (h:i<xs.length),(xs[i]).length=sz)->(xs.all fun x=>x.length == n)=true->sz=n:=by
      grind [List.length_pos_iff,List.all_eq_true,List.getElem_mem]
     have run:∀ {A:Option Addr} {cap m:Nat} {mxv:Option Value},(∀ w',(Instr.sliceBounds true xs.length cap lov hiv mxv).run P w'=.ok (l.toNat,h.toNat,m) w') ->
      ∀ w',(Instr.sliceAt t (.slice A xs.length cap) lov hiv mxv).run P w'=.ok (.slice (if m=l.toNat then A else A.map (·.add (l.toNat*n))) (h.toNat-l.toNat) (m-l.toNat)) w':=by
      intro A cap m mxv hb w'
      simp only [Instr.sliceAt,Ð,Ý J,Ê,Instr.slice,hb w',Ej C,Ö]
     split at he
     . have c:mxv=none:=by
        cases mxv with
        |none=>rfl
        |some z=>exact hmx'.elim
       subst c
       simp only [Â,È,Æ,Í] at he
       obtain⟨⟨⟨r,u,a⟩,H⟩,rfl⟩:=he
       cases hv with
       |nil =>
        simp only [ì,Int.natCast_zero] at a
        have e1:(([]:List (List PV)).take h.toNat).drop l.toNat=[]:=by simp
        rw [e1]
        refine⟨_,?_,rfl,run (A:=none) (cap:=0) (m:=0) fun w'=>D3 (isS:=true) (len:=0) (cap:=0) hlo hhi y B r u a (Ü _) w'⟩
        have e3:h.toNat=0:=by omega
        have e4:l.toNat=0:=by omega
        rw [e3,e4]
        exact .nil _ _
       |emp _ _ b o k S =>
        simp only [ì,Int.natCast_zero] at a
        have e1:(([]:List (List PV)).take h.toNat).drop l.toNat=[]:=by simp
        rw [e1]
        refine⟨_,?_,rfl,run (A:=some ⟨b,o,some k⟩) (cap:=0) (m:=0) fun w'=>D3 (isS:=true) (len:=0) (cap:=0) hlo hhi y B r u a (Ü _) w'⟩
        have e3:h.toNat=0:=by omega
        have e4:l.toNat=0:=by omega
        rw [e3,e4]
        exact .emp _ _ _ _ _ (by simp)
       |sl _ _ _ b o sz cap us R L E M N D F W S =>
        refine⟨_,?_,rfl,run fun w'=>D3 (isS:=true) hlo hhi y B r u a R w'⟩
        have I:=Zx (w:=w) (G:=G) (φ:=G.φ) (g':=.shared) (us:=us) (l:=l.toNat) (h:=h.toNat) (m:=cap) (by omega) (by omega) (by omega) (Ü _) L E M N D F (by simp) (by simp)
        by_cases O:xs=[]
        . grind [addr_add]
        . have:=szOf O E H
          subst this
          have e2:(if cap=l.toNat then some (⟨b,o,none⟩:Addr) else (some (⟨b,o,none⟩:Addr)).map (·.add (l.toNat*sz)))=some (if cap=l.toNat then ⟨b,o,none⟩ else ⟨b,o+l.toNat*sz,none⟩):=by
           split<;>simp [addr_add]
          rw [e2];exact I
     . rename_i k m
       split at he
       . rename_i f
         simp only [Â,È,Æ,Í] at he
         obtain⟨⟨⟨r,u,a,rfl⟩,H⟩,rfl⟩:=he
         obtain⟨rfl⟩:mxv=some (.int k m):=by
          cases mxv with
          |none=>exact hmx'.elim
          |some z=>cases (show V w G.U G.φ (.lit (.int k m)) z from hmx') with|lit _ _=>rfl
         cases hv with
         |nil =>
          simp only [ì,Int.natCast_zero] at a
          have e1:(([]:List (List PV)).take m.toNat).drop l.toNat=[]:=by simp
          rw [e1]
          refine⟨_,?_,rfl,run (A:=none) (cap:=0) (m:=m.toNat) fun w'=>Hh (len:=0) (cap:=0) hlo hhi y B f r u (Int.le_refl _) a w'⟩
          have e3:m.toNat=0:=by omega
          have e4:l.toNat=0:=by omega
          rw [e3,e4]
          exact .nil _ _
         |emp _ _ b o k S =>
          simp only [ì,Int.natCast_zero] at a
          have e1:(([]:List (List PV)).take m.toNat).drop l.toNat=[]:=by simp
          rw [e1]
          refine⟨_,?_,rfl,run (A:=some ⟨b,o,some k⟩) (cap:=0) (m:=m.toNat) fun w'=>Hh (len:=0) (cap:=0) hlo hhi y B f r u (Int.le_refl _) a w'⟩
          have e3:m.toNat=0:=by omega
          have e4:l.toNat=0:=by omega
          rw [e3,e4]
          exact .emp _ _ _ _ _ (by simp)
         |sl _ _ _ b o sz cap us R L E M N D F W S =>
          refine⟨_,?_,rfl,run fun w'=>Hh hlo hhi y B f r u (Int.le_refl _) (by omega) w'⟩
          have I:=Zx (w:=w) (G:=G) (φ:=G.φ) (g':=.full) (us:=us) (l:=l.toNat) (h:=m.toNat) (m:=m.toNat) (by omega) (by omega) (by omega) (by omega) L E M N D F (fun _=>rfl) (by simp)
          by_cases O:xs=[]
          . grind [addr_add]
          . grind [addr_add]
       . cases he
     . cases he
   . cases he
 . rename_i cs
   split at he
   . rename_i l h m y B X
     obtain⟨e,J,C,_⟩:=MU X
     simp only [Â,È,Í] at he
     obtain⟨⟨r,u,a,L,Y⟩,rfl⟩:=he
     have c:mxv=none:=by
      cases mxv with
      |none=>rfl
      |some z=>exact hmx'.elim
     subst c
     subst L
     cases hv with
     |vptr _ _ b o' _ us M N D F =>
     refine⟨.slice (some (if cs.length=l.toNat then ⟨b,o',none⟩ else ⟨b,o'+l.toNat*1,none⟩)) (h.toNat-l.toNat) (cs.length-l.toNat),?_,rfl,fun w'=>?_⟩
     . refine Zx (w:=w) (G:=G) (φ:=G.φ) (g':=.shared) (us:=fun i _=>us i) (sz:=1) (cap:=cs.length) (m:=cs.length) (by omega) (by rw [Î];omega) (by omega) (Ü _) (by omega) (by simp) (fun i j hi T=>?_) (fun i j hi T=>?_) (fun i j hi _=>D i (by simpa using hi)) (fun i hi j T=>?_) (by simp) (by simp)
       . have d:i<cs.length:=by simpa using hi
         have:o'+i*1+j=o'+i:=by omega
         rw [this];exact M i d
       . have d:i<cs.length:=by simpa using hi
         have:o'+i*1+j=o'+i:=by omega
         rw [this];exact N i d
       . grind
     . have hb:=D3 (P:=P) (isS:=false) (len:=cs.length) (cap:=cs.length) hlo hhi y B r u a (Ü _) w'
       simp only [Instr.sliceAt,Ð,Ý J,Ê,Instr.sureAddr,Ö,hb,Ej C]
       congr 2
       split<;>simp [addr_add]
   . cases he
 . rename_i b o n cap
   split at he
   . rename_i l h k nb y B hs
     obtain⟨e,i,J,K,d,_⟩:=FY (n:=k) (m:=nb) hs
     have C:Lv P e=some k:=by simp [Lv,K,d]
     simp only [Â,È,Í] at he
     obtain⟨⟨r,u,a,h3⟩,rfl⟩:=he
     have c:mxv=none:=by
      cases mxv with
      |none=>rfl
      |some z=>exact hmx'.elim
     subst c
     cases hv with
     |asl _ _ _ _ _ b' Z R L =>
     refine⟨.slice (some ⟨b',o+l.toNat*k,none⟩) (h.toNat-l.toNat) (cap-l.toNat),.asl _ _ _ _ _ _ Z (by omega) (by omega),rfl,fun w'=>?_⟩
     have hb:=D3 (P:=P) (isS:=true) (len:=n) (cap:=cap) hlo hhi y B r u a R w'
     simp only [Instr.sliceAt,Ð,Ý J,Ê,Instr.slice,hb,Ej C,Ö]
     rw [Ä (by omega)]
     simp [addr_add]
   . cases he
 . cases he
end
end Go.Vl
namespace Go.Vl
open Go Go.RowKit
structure DQ (w:World) (G:Gh) (cs:List PV) (arr:Array Value):Prop where
 size:arr.size=cs.length
 v:∀ i (h:i<cs.length),V w G.U G.φ cs[i] (arr.getD i Go.undef)/\(arr.getD i Go.undef).oneCell'=true
def LZ:PV->Bool
 |.agg _=>true
 |_=>false
def Ky:PV->PV
 |.sl xs .nil=>.sl xs .nil
 |.sl xs .full=>.sl xs .full
 |p=>Bf p
def MG (place:Nat->Option (Nat×Nat))(cells:List PV):List (Nat×PV)->Option (List PV)
 | []=>some cells
 |(i,p)::rest =>
  match place i with
  |none=>none
  |some (off,size)=>if (Cm p).length=size/\off+size<=cells.length/\(Hk p||LZ p)=true then MG place (cells.take off++(Cm p).map Ky++cells.drop (off+size)) rest else none
def SQ (P:Program)(t:TypeId):Option (List PV) :=
 match (P.info? t).bind (·.zero) with
 |some z=>if z.cells.toList.all Value.oneCell' then some (z.cells.toList.map F5) else none
 |none=>none
def UO (P:Program)(t:TypeId):Option (Nat->Option (Nat×Nat)) :=
 match P.info? t,P.underlying t with
 |some _,some (.array _ e)=>(P.info? e).map fun ie i=>some (i*ie.size,ie.size)
 |some _,some (.struct fields)=>(fields.toList.mapM (fun f=>(P.info? f.type).map fun i=>(f.offset,i.size))).map fun places i=>places.toArray[i]?
 |_,_=>none
def plT (P:Program)(t i:Nat):Option (Nat×Nat):=(UO P t).bind fun f=>f i
def S4 (P:Program)(t:TypeId)(parts:List (Nat×PV)):Option (Bool×PV) :=
 match SQ P t,(UO P t).isSome with
 |some z,true=>(MG (plT P t) z parts).map fun cs=>(true,.agg cs)
 |_,_=>none
section
variable {w w':World} {G:Gh} {P:Program} {p q:PV} {v u:Value}
theorem Rq (arr:Array Value)(off:Nat):∀ (l:List Value) (k:Nat) (cells:Array Value),(∀ j x,l[j]?=some x->arr.getD (k+j) Go.undef=x) ->
 ((l.zipIdx k).foldl (fun cs (x:Value×Nat)=>cs.setIfInBounds (off+x.2) x.1) cells).size=cells.size /\
 ∀ i,((l.zipIdx k).foldl (fun cs (x:Value×Nat)=>cs.setIfInBounds (off+x.2) x.1) cells).getD i Go.undef=if off+k<=i/\i<off+k+l.length/\i<cells.size then arr.getD (i-off) Go.undef else cells.getD i Go.undef
 | [],k,cells,_=>⟨rfl,fun i=>by simp;intro h1 h2;omega⟩
 |x::l,k,cells,h=>by
  have ih:=Rq arr off l (k+1) (cells.setIfInBounds (off+k) x) (fun j y hj=>by have:=h (j+1) y (by simpa using hj);rw [<- this];congr 1;omega)
  rw [List.zipIdx_cons,List.foldl_cons]
  refine⟨by rw [ih.1];simp,fun i=>?_⟩
  rw [ih.2 i]
  have hx:=h 0 x rfl
  simp only [Array.size_setIfInBounds,æ]
  by_cases hi:i=off+k
  . subst hi
    rw [Ä (by omega)]
    by_cases hs:off+k<cells.size
    . rw [Ç (by omega)]
      have:off+k-off=k:=by omega
      rw [this]
      simp only [Nat.add_zero] at hx
      rw [hx];simp [hs]
    . rw [Ä (by omega)]
      simp [hs]
  . have e1:(cells.setIfInBounds (off+k) x).getD i Go.undef=cells.getD i Go.undef:=by
     simp only [É]
     rw [ğ (fun e=>hi e.symm)]
    rw [e1]
    by_cases a:off+(k+1)<=i/\i<off+(k+1)+l.length/\i<cells.size
    . rw [Ç a,Ç (by omega)]
    . rw [Ä a,Ä (by omega)]
theorem Abk {φ:List Nat}{U:Nat->Nat->Prop}(h:V w U φ p v):V w U φ (Ky p) v:=by
 unfold Ky
 split
 . exact h
 . exact h
 . exact Cp h
theorem PK {place:Nat->Option (Nat×Nat)}:∀ (parts:List (Nat×PV)) (vals:List (Nat×Value)) (cs:List PV) (arr:Array Value) (out:List PV),DQ w G cs arr->parts.length=vals.length ->
 (∀ (j:Nat) (p:Nat×PV) (v:Nat×Value),parts[j]?=some p->vals[j]?=some v->p.1=v.1/\V w G.U G.φ p.2 v.2)->MG place cs parts=some out->∃ arr',Instr.fill place arr vals=some arr'/\DQ w G out arr'
 | [],[],cs,arr,out,hc,_,_,hf=>by
  simp only [MG,Â] at hf
  subst hf
  exact⟨arr,rfl,hc⟩
 | [],_::_,_,_,_,_,hl,_,_=>by simp at hl
 |_::_,[],_,_,_,_,hl,_,_=>by simp at hl
 |(i,p)::parts,(i',v)::vals,cs,arr,out,hc,hl,hv,hf=>by
  obtain⟨rfl,hpv⟩:=hv 0 _ _ rfl rfl
  simp only at hpv
  simp only [MG] at hf
  cases hp:place i with
  |none=>rw [hp] at hf;cases hf
  |some x =>
   obtain⟨off,size⟩:=x
   rw [hp] at hf
   simp only at hf
   split at hf
   . rename_i hcond
     obtain⟨h1,h2,h3⟩:=hcond
     have hcells:=hpv.cells (by
      rw [ú] at h3
      rcases h3 with h3|h3
      . exact .inl h3
      . cases p with
        |agg cs=>exact .inr ⟨cs,rfl⟩
        |_=>simp [LZ] at h3)
     have hset:=Rq v.cells off v.cells.toList 0 arr (fun j x hj=>by
      simp only [ò]
      have:v.cells[j]?=some x:=by simpa using hj
      simp [this])
     have a:DQ w G (cs.take off++(Cm p).map Ky++cs.drop (off+size)) (v.cells.zipIdx.foldl (fun cs (x:Value×Nat)=>cs.setIfInBounds (off+x.2) x.1) arr):=by
      have e0:v.cells.zipIdx.foldl (fun cs (x:Value×Nat)=>cs.setIfInBounds (off+x.2) x.1) arr=(v.cells.toList.zipIdx 0).foldl (fun cs (x:Value×Nat)=>cs.setIfInBounds (off+x.2) x.1) arr:=by
       rw [<- Array.foldl_toList,Array.toList_zipIdx]
      rw [e0]
      have f:=hc.size
      have e:(cs.take off).length=off:=by simp;omega
      refine⟨by rw [hset.1];simp;omega,fun i g=>?_⟩
      rw [hset.2 i]
      simp only [Array.length_toList,Nat.add_zero]
      have b:i<cs.length:=by simp at g;omega
      by_cases c:off<=i/\i<off+v.cells.size/\i<arr.size
      . grind [Cm,Ky,List.getElem_append_left,List.getElem_append_right,Abk]
      . rw [Ä c]
        have k:=hc.v i b
        by_cases l:i<off
        . grind [Instr.fill]
        . grind [Instr.fill]
     obtain⟨arr',m,d⟩:=PK parts vals _ _ out a (by simpa using hl) (fun j p v h1 h2=>hv (j+1) p v (by simpa using h1) (by simpa using h2)) hf
     refine⟨arr',?_,d⟩
     unfold Instr.fill
     rw [hp]
     simp only
     rw [Ä]
     . exact m
     . rw [hcells.1,h1,hc.size];simp;omega
   . cases hf
theorem OJ {t:TypeId}{z:List PV}(h:SQ P t=some z):∃ zv,(P.info? t).bind (·.zero)=some zv/\DQ w G z zv.cells:=by
 unfold SQ at h
 split at h
 . rename_i zv c
   split at h
   . rename_i a
     simp only [Â] at h
     subst h
     refine⟨zv,c,by simp,fun i d=>?_⟩
     have b:i<zv.cells.size:=by simpa using d
     have e1:zv.cells.getD i Go.undef=zv.cells[i]:=by simp [b]
     have e2:(zv.cells.toList.map F5)[i]=F5 zv.cells[i]:=by simp
     rw [e1,e2]
     rw [Ú] at a
     exact⟨KN _,a _ (by simp)⟩
   . cases h
 . cases h
theorem OI {t:TypeId}{zv:Value}(h:(P.info? t).bind (·.zero)=some zv)(w:World):(zeroValue t).run P w=.ok zv w:=by
 cases a:P.info? t with
 |none=>rw [a] at h;cases h
 |some i =>
  rw [a] at h
  have b:i.zero=some zv:=h
  simp [zeroValue,typeInfo,a,b]
theorem Ud {t:TypeId}{parts:List (Nat×PV)}{vals:Array (Nat×Value)}(hl:parts.length=vals.size)(hv:∀ (j:Nat) (p:Nat×PV) (v:Nat×Value),parts[j]?=some p->vals[j]?=some v->p.1=v.1/\V w G.U G.φ p.2 v.2)(he:S4 P t parts=some (true,p)) :
 ∃ x,V w G.U G.φ p x/\plain p=true/\∀ w',(Instr.build t vals).run P w'=.ok x w':=by
 unfold S4 at he
 split at he
 . rename_i z u y
   cases m:MG (plT P t) z parts with
   |none=>rw [m] at he;cases he
   |some cs =>
    rw [m] at he
    simp only [ä,Â,È,õ] at he
    subst he
    obtain⟨zv,b,o⟩:=OJ (w:=w) (G:=G) u
    obtain⟨arr',q,l⟩:=PK parts vals.toList z zv.cells cs o (by simpa using hl) (fun j p v A B=>hv j p v A (by simpa using B)) m
    refine⟨.agg arr',.agg _ _ _ l.size (fun i c=>(l.v i c).1) (fun i c=>(l.v i (by rw [<- l.size];exact c)).2),rfl,fun w'=>run_build w' t vals arr' ?_⟩
    obtain⟨pl,a⟩:=Option.isSome_iff_exists.1 y
    have e1:plT P t=pl:=by funext i;simp [plT,a]
    rw [e1] at q
    cases c:P.info? t with
    |none=>rw [c] at b;cases b
    |some it =>
     rw [c] at b
     have k:it.zero=some zv:=b
     unfold UO at a
     rw [c] at a
     unfold Program.built
     rw [c]
     cases s:P.underlying t with
     |none=>rw [s] at a;cases a
     |some d =>
      rw [s] at a
      cases d<;>simp only [reduceCtorEq] at a
      case array n e =>
       cases g:P.info? e with
       |none=>rw [g] at a;cases a
       |some ie =>
        rw [g] at a
        simp only [ä,Â] at a
        subst a
        simp only [k,g];exact q
      case struct fields =>
       cases r:fields.toList.mapM (fun f=>(P.info? f.type).map fun i=>(f.offset,i.size)) with
       |none=>rw [r] at a;cases a
       |some places =>
        rw [r] at a
        simp only [ä,Â] at a
        subst a
        simp only [k,r];exact q
 . cases he
end
end Go.Vl
namespace Go.Vl
open Go Go.RowKit
def Adn (op:UnOp):PV->Option (Bool×PV)
 |.lit (.int k n)=>match op with
  |.neg=>some (true,.lit (.int k (k.wrap (0-n))))
  |.xor=>some (true,.lit (.int k (bits .xor k (if k.signed then -1 else k.max) n)))
  |_=>none
 |.lit (.bool b)=>match op with
  |.not=>some (true,.lit (.bool (!b)))
  |_=>none
 |_=>none
def bytesOf:List (List PV)->Option (List Int)
 | []=>some []
 | [.lit (.int .u8 n)]::r=>(bytesOf r).map (n::·)
 |_::_=>none
def u8T (P:Program)(t:TypeId):Bool:=match P.underlying t with|some (.slice e)=>(match P.underlying e with|some (.int .u8)=>true|_=>false)|_=>false
def Vw (P:Program)(s d:TypeId):PV->Option (Bool×PV)
 |.lit (.int _ n)=>match Aew P d with|some k=>some ((P.underlying s).isSome,.lit (.int k (k.wrap n)))|none=>none
 |.lit (.string b)=>if Km P s&&Km P d then some (true,.lit (.string b)) else none
 |.sl xs _=>if u8T P s&&Km P d then some ((bytesOf xs).isSome,.lit (.string ⟨(((bytesOf xs).getD []).map fun n=>UInt8.ofNat n.toNat).toArray⟩)) else none
 |_=>none
def Y2 (isMax:Bool)(a b:Int):Int:=if isMax then (if b > a then b else a) else (if b<a then b else a)
def Ww (isMax:Bool):List PV->Option (Bool×PV)
 | [.lit (.int k a),.lit (.int _ b)]=>some (true,.lit (.int k (Y2 isMax a b)))
 | [.lit (.int k a),.lit (.int _ b),.lit (.int _ c)]=>some (true,.lit (.int k (Y2 isMax (Y2 isMax a b) c)))
 |_=>none
def Qi (P:Program)(t:TypeId):Option Nat:=match P.underlying t with|some (.int _)=>some 1|some .string=>some 2|some .bool=>some 3|_=>none
def PI (P:Program):Nat->List Field->Option (List Nat)
 |_,[]=>some []
 |i,f::fs=>if f.name≠ "_"/\f.offset=i then (match Qi P f.type,PI P (i+1) fs with|some k,some ks=>some (k::ks)|_,_=>none) else none
def Abz (P:Program)(t:TypeId):Option (List Nat) :=
 match P.underlying t with
 |some (.struct fs)=>if P.stoodInHeld t=false/\P.eqGuardType P.depth t=false then PI P 0 fs.toList else none
 |_=>none
def eqC:Nat->PV->PV->Option Bool
 |1,.lit (.int k a),.lit (.int k' b)=>if k=k' then some (a == b) else none
 |2,.lit (.string a),.lit (.string b)=>some (decide (a=b))
 |3,.lit (.bool a),.lit (.bool b)=>some (a == b)
 |_,_,_=>none
def Vy:List Nat->List PV->List PV->Option Bool
 | [],[],[]=>some true
 |k::ks,x::xs,y::ys=>match eqC k x y,Vy ks xs ys with
  |some a,some b=>some (a&&b)
  |_,_=>none
 |_,_,_=>none
def isK:Operand->Bool
 |.const _=>true
 |_=>false
def Y9 (P:Program)(t:TypeId):Bool:=match P.underlying t with|some (.interface _)=>true|_=>false
def ptT (P:Program)(t:TypeId):Bool:=match P.underlying t with|some (.pointer _)=>true|_=>false
def UF (P:Program)(t:TypeId):Bool:=match P.underlying t with|some (.slice _)=>true|_=>false
def QH (op:BinOp)(b:Bool):Option (Bool×PV) :=
 match op with
 |.eql=>some (true,.lit (.bool b))
 |.neq=>some (true,.lit (.bool (!b)))
 |_=>none
def YT (P:Program)(op:BinOp)(t:TypeId)(k:Bool):PV->PV->Option (Bool×PV)
 |.ifc,.lit .nilIface=>if Y9 P t then QH op false else none
 |.lit (.iface _ _),.lit .nilIface=>if Y9 P t then QH op false else none
 |.lit .nilIface,.lit .nilIface=>if Y9 P t&&k then QH op true else none
 |.ptr _ _,.lit (.pointer none)=>if ptT P t then QH op false else none
 |.vptr _ _,.lit (.pointer none)=>if ptT P t then QH op false else none
 |.lit (.pointer none),.lit (.pointer none)=>if ptT P t then QH op true else none
 |.sl (_::_) _,.sl [] .nil=>if UF P t then QH op false else none
 |.sl [] .nil,.sl [] .nil=>if UF P t then QH op true else none
 |_,_=>none
def Ado (P:Program)(op:BinOp)(t:TypeId)(k:Bool):PV->PV->Option (Bool×PV)
 |.agg xs,.agg ys =>
  match Abz P t with
  |some ks=>(match Vy ks xs ys with
   |some b=>(match op with
    |.eql=>some (true,.lit (.bool b))
    |.neq=>some (true,.lit (.bool (!b)))
    |_=>none)
   |none=>none)
  |none=>none
 |x,y=>YT P op t k x y
section
variable {w w':World} {G:Gh} {P:Program} {p q r:PV} {v u:Value}
theorem YR {op:UnOp}(hv:V w G.U G.φ q v)(he:Adn op q=some (true,p)):∃ x,V w G.U G.φ p x/\plain p=true/\∀ w',(Op.unary op v).run P w'=.ok x w':=by
 unfold Adn at he
 split at he
 . cases hv with
   |lit _ _ =>
   split at he<;>simp only [Â,È,õ,reduceCtorEq] at he
   . subst he;exact⟨_,.lit _ _,rfl,fun w'=>by simp [Op.unary,Op.intArith]⟩
   . subst he;exact⟨_,.lit _ _,rfl,fun w'=>by simp [Op.unary,intBits_xor]⟩
 . cases hv with
   |lit _ _ =>
   split at he<;>simp only [Â,È,õ,reduceCtorEq] at he
   subst he;exact⟨_,.lit _ _,rfl,fun w'=>by simp [Op.unary]⟩
 . cases he
theorem Om:∀ {xs:List (List PV)} {l:List Int},bytesOf xs=some l->l.length=xs.length/\∀ i (h:i<xs.length) (h2:i<l.length),xs[i]=[.lit (.int .u8 l[i])]
 | [],l,h=>by simp only [bytesOf,Â] at h;subst h;exact⟨rfl,fun i h=>by simp at h⟩
 |x::r,l,h=>by
  unfold bytesOf at h
  split at h
  . rename_i heq;cases heq
  . rename_i n r' heq
    cases heq
    cases hb:bytesOf r with
    |none=>rw [hb] at h;cases h
    |some l' =>
     rw [hb] at h
     simp only [ä,Â] at h
     subst h
     obtain⟨h1,h2⟩:=Om hb
     refine⟨by simp [h1],fun i b a=>?_⟩
     cases i with
     |zero=>rfl
     |succ i=>simpa using h2 i (by simpa using b) (by simpa using a)
  . cases h
theorem PG:∀ (l:List Int) (s:Å),l.foldl (fun r n=>r.push (UInt8.ofNat n.toNat)) s=⟨s.data++(l.map fun n=>UInt8.ofNat n.toNat).toArray⟩
 | [],s=>by cases s;simp
 |n::l,s=>by
  rw [List.foldl_cons,PG l]
  cases s with
  |mk d=>simp [ByteArray.push]
theorem Vu {s d:TypeId}(hv:V w G.U G.φ q v)(he:Vw P s d q=some (true,p)):∃ x,V w G.U G.φ p x/\plain p=true/\∀ w',J8 w G none w'->(convert s d v).run P w'=.ok x w':=by
 unfold Vw at he
 split at he
 . cases hv with
   |lit _ _ =>
   split at he
   . rename_i k M
     simp only [Â,È] at he
     obtain⟨hs,rfl⟩:=he
     have R:P.underlying d=some (.int k):=by unfold Aew at M;split at M<;>simp_all
     obtain⟨ds,B⟩:=Option.isSome_iff_exists.1 hs
     exact⟨_,.lit _ _,rfl,fun w' _=>by simp [convert,Ý B,Ý R,Conv.intToInt]⟩
   . cases he
 . cases hv with
   |lit _ _ =>
   split at he
   . rename_i m
     simp only [Æ] at m
     have t:P.underlying s=some .string:=by have:=m.1;unfold Km at this;split at this<;>simp_all
     have y:P.underlying d=some .string:=by have:=m.2;unfold Km at this;split at this<;>simp_all
     simp only [Â,È,õ] at he
     subst he
     exact⟨_,.lit _ _,rfl,fun w' _=>by simp [convert,Ý t,Ý y]⟩
   . cases he
 . rename_i xs g
   split at he
   . rename_i m
     simp only [Æ] at m
     have y:P.underlying d=some .string:=by have:=m.2;unfold Km at this;split at this<;>simp_all
     obtain⟨e,t,C⟩:∃ e,P.underlying s=some (.slice e)/\P.underlying e=some (.int .u8):=by
      grind [u8T]
     cases hb:bytesOf xs with
     |none=>rw [hb] at he;simp at he
     |some l =>
      rw [hb] at he
      simp only [Option.isSome_some,Option.getD_some,Â,È,õ] at he
      subst he
      obtain⟨S,N⟩:=Om hb
      refine⟨_,.lit _ _,rfl,fun w' T=>?_⟩
      cases hv with
      |nil =>
       simp only [bytesOf,Â] at hb
       subst hb
       rw [run_convert_bytes_string (P:=P) w' s d e none 0 0 t C y]
       rfl
      |emp _ _ b o k N =>
       simp only [bytesOf,Â] at hb
       subst hb
       rw [run_convert_bytes_string (P:=P) w' s d e (some ⟨b,o,some k⟩) 0 0 t C y]
       rfl
      |sl _ _ _ b o sz cap us W hm D X Y Z E hf hg' =>
       have F:∀ i (h:i<xs.length),sz=1/\us i 0=.int .u8 (l[i]'(by omega)):=by
        intro i H
        have O:=D i H
        have I:=N i H (by omega)
        rw [I] at O
        refine⟨by simpa using O.symm,?_⟩
        have A:=E i H 0 (by rw [I];simp)
        simp only [I,ĕ] at A
        revert A
        generalize us i 0=z
        intro A
        cases A with
        |lit _ _=>rfl
       have c:(loadCells ⟨b,o,none⟩ xs.length).run P w'=.ok (l.map (Value.int .u8)).toArray w':=by
        have:=run_loadCells_list (P:=P) w' ⟨b,o,none⟩ (l.map (Value.int .u8)) (fun j u r=>by
         rw [addr_add]
         rw [ç] at r
         cases a:l[j]? with
         |none=>rw [a] at r;cases r
         |some n =>
          rw [a] at r
          simp only [ä,Â] at r
          have J:=(List.getElem?_eq_some_iff.1 a).1
          have f:j<xs.length:=by omega
          obtain⟨e1,e2⟩:=F j f
          have K:=Y j 0 f (by omega)
          have L:=(T.1 _ _ (X j 0 f (by omega))).1
          rw [e1] at K L
          simp only [Nat.mul_one,Nat.add_zero] at K L
          rw [L,K,e2,<- r]
          congr 2
          rw [Ã J] at a
          exact (Af a))
        rw [Î,S] at this;exact this
       rw [run_convert_bytes_string (P:=P) w' s d e _ _ _ t C y,run_bytesToString (P:=P) w' ⟨b,o,none⟩ xs.length cap l c,PG]
       simp
   . cases he
 . cases he
theorem Rv {isMax:Bool}{ps:List PV}{vs:Array Value}{ts:Array TypeId}{ty:TypeId}(hl:ps.length=vs.size)(hv:∀ (j:Nat) (p:PV) (v:Value),ps[j]?=some p->vs[j]?=some v->V w G.U G.φ p v)(he:Ww isMax ps=some (true,p)) :
 ∃ x,V w G.U G.φ p x/\plain p=true/\∀ w',(if isMax then Builtin.max_ ts ty vs else Builtin.min_ ts ty vs).run P w'=.ok x w':=by
 obtain⟨vl⟩:=vs
 unfold Ww at he
 split at he
 . rename_i k a k' b
   simp only [Â,È,õ] at he
   subst he
   match vl,hl,hv with
   | [x,y],_,hv =>
    have d:=hv 0 _ _ rfl rfl
    have e:=hv 1 _ _ rfl rfl
    cases d with
    |lit _ _ =>
    cases e with
    |lit _ _ =>
    refine⟨_,.lit _ _,rfl,fun w'=>?_⟩
    cases isMax
    . exact run_min_int2 w' ts ty k k' a b
    . exact run_max_int2 w' ts ty k k' a b
 . rename_i k a k' b k'' c
   simp only [Â,È,õ] at he
   subst he
   match vl,hl,hv with
   | [x,y,z],_,hv =>
    have d:=hv 0 _ _ rfl rfl
    have e:=hv 1 _ _ rfl rfl
    have f:=hv 2 _ _ rfl rfl
    cases d with
    |lit _ _ =>
    cases e with
    |lit _ _ =>
    cases f with
    |lit _ _ =>
    refine⟨_,.lit _ _,rfl,fun w'=>?_⟩
    cases isMax
    . simp [Builtin.min_,Builtin.min2,Y2]
    . simp [Builtin.max_,Builtin.max2,Y2]
 . cases he
theorem Aba {t d k:Nat}{x y:PV}{a b:Value}{c:Bool}(ht:Qi P t=some k)(hx:V w G.U G.φ x a)(hy:V w G.U G.φ y b)(he:eqC k x y=some c)(w':World):(Op.equalIn (d+1) t a b).run P w'=.ok c w':=by
 unfold Qi at ht
 unfold eqC at he
 split at he
 . rename_i k1 a1 k2 b1
   cases hx with
   |lit _ _ =>
   cases hy with
   |lit _ _ =>
   split at he
   . rename_i f
     subst f
     split at ht<;>simp_all
     rename_i kk e
     rw [run_equalIn_int w' d t k1 kk a1 b1 e,<- he]
   . cases he
 . rename_i a1 b1
   cases hx with
   |lit _ _ =>
   cases hy with
   |lit _ _ =>
   split at ht<;>simp_all
   rename_i e
   rw [run_equalIn_string w' d t a1 b1 e,MS,<- he]
 . rename_i a1 b1
   cases hx with
   |lit _ _ =>
   cases hy with
   |lit _ _ =>
   split at ht<;>simp_all
   rename_i e
   rw [run_equalIn_bool' w' d t a1 b1 e,<- he]
 . cases he
theorem Qh {t k:Nat}{arr:Array Value}{i:Nat}(ht:Qi P t=some k)(hi:i<arr.size)(w':World):(part t arr i).run P w'=.ok (arr.getD i Go.undef) w':=by
 have a:KM P t=some false:=by
  unfold Qi at ht;unfold KM
  split at ht<;>simp_all
 simp only [part,Ð,Qm a,Ê,â,û,à hi,Ö]
 simp [hi]
theorem MM {xs ys:List PV}{as bs:Array Value}(ha:DQ w G xs as)(hb:DQ w G ys bs)(d:Nat)(w':World):∀ (fs:List Field) (i:Nat) (ks:List Nat) (c:Bool),PI P i fs=some ks->Vy ks (xs.drop i) (ys.drop i)=some c ->
 (Op.eqFields (d+1) as bs fs).run P w'=.ok c w'
 | [],i,ks,c,hf,he=>by
  simp only [PI,Â] at hf
  subst hf
  unfold Vy at he
  split at he<;>simp_all
  simp [Op.eqFields]
 |f::fs,i,ks,c,hf,he=>by
  simp only [PI] at hf
  split at hf
  . rename_i hn
    split at hf
    . rename_i k ks' hk hks
      simp only [Â] at hf
      subst hf
      by_cases hxi:i<xs.length
      . by_cases hyi:i<ys.length
        . rw [ě hxi,ě hyi] at he
          simp only [Vy] at he
          split at he
          . rename_i a b h1 h2
            simp only [Â] at he
            have e1:=Aba (P:=P) (d:=d) hk (ha.v i hxi).1 (hb.v i hyi).1 h1 w'
            have e2:=MM ha hb d w' fs (i+1) ks' b hks h2
            have hsx:=ha.size
            have hsy:=hb.size
            unfold Op.eqFields
            rw [Ç hn.1]
            simp only [Ð,hn.2,Qh hk (show i<as.size by omega),Qh hk (show i<bs.size by omega),Ê,e1]
            cases a
            . simp at he;simp [he]
            . simp at he;simp [e2,he]
          . cases he
        . rw [č (by omega:ys.length<=i)] at he
          unfold Vy at he;first|cases he|(split at he<;>simp_all)
      . rw [č (by omega:xs.length<=i)] at he
        unfold Vy at he;first|cases he|(split at he<;>simp_all)
    . cases hf
  . cases hf
theorem II {t:TypeId}(h:Y9 P t=true):P.underlying t=some (.interface (P.methodsAt t)):=by
 unfold Y9 at h
 split at h
 . rename_i ms e;unfold Program.methodsAt;rw [e]
 . cases h
theorem KY {t:TypeId}(h:ptT P t=true):P.underlying t=some (.pointer (P.pointee t)):=by
 unfold ptT at h
 split at h
 . rename_i ms e;unfold Program.pointee;rw [e]
 . cases h
theorem GZ {op:BinOp}{b:Bool}{t:TypeId}{x y:Value}{xo yo:Operand}(he:QH op b=some (true,p))(hg:∀ w',(eqGuard op t xo yo x y).run P w'=.ok () w')
 (h1:∀ w',(binOp .eql t x y).run P w'=.ok (.bool b) w') (h2:∀ w',(binOp .neq t x y).run P w'=.ok (.bool (!b)) w') :
 ∃ z,V w G.U G.φ p z/\plain p=true/\∀ w',(do eqGuard op t xo yo x y;binOp op t x y:Sem Value).run P w'=.ok z w':=by
 unfold QH at he
 split at he<;>simp only [Â,È,õ,reduceCtorEq] at he
 . subst he;exact⟨_,.lit _ _,rfl,fun w'=>by simp only [Ð,hg,Ê,h1]⟩
 . subst he;exact⟨_,.lit _ _,rfl,fun w'=>by simp only [Ð,hg,Ê,h2]⟩
theorem ZX {x:List PV}{xs:List (List PV)}{g:Grow}(h:V w G.U G.φ (.sl (x::xs) g) v):∃ a n c,v=.slice (some a) n c:=by
 cases h with
 |sl=>exact⟨_,_,_,rfl⟩
theorem X0 {op:BinOp}{t:TypeId}{k:Bool}(xo yo:Operand)(hk:k=true->isK xo=true∨isK yo=true)(hv:V w G.U G.φ q v)(hu:V w G.U G.φ r u)(he:YT P op t k q r=some (true,p)) :
 ∃ x,V w G.U G.φ p x/\plain p=true/\∀ w',(do eqGuard op t xo yo v u;binOp op t v u:Sem Value).run P w'=.ok x w':=by
 unfold YT at he
 split at he
 . split at he
   . rename_i b
     cases hv with
     |ifc _ _ _ =>
     cases hu with
     |lit _ _ =>
     exact GZ he (fun w'=>by rw [eqGuard_at_iface];rfl) (fun w'=>run_eql_held_nil w' t _ _ (II b)) (fun w'=>run_neq_held_nil w' t _ _ (II b))
   . cases he
 . split at he
   . rename_i b
     cases hv with
     |lit _ _ =>
     cases hu with
     |lit _ _ =>
     exact GZ he (fun w'=>by rw [eqGuard_at_iface];rfl) (fun w'=>run_eql_held_nil w' t _ _ (II b)) (fun w'=>run_neq_held_nil w' t _ _ (II b))
   . cases he
 . split at he
   . rename_i b
     simp only [Æ] at b
     cases hv with
     |lit _ _ =>
     cases hu with
     |lit _ _ =>
     refine GZ he (fun w'=>?_) (fun w'=>run_eql_nil_nil w' t (II b.1)) (fun w'=>run_neq_nil_nil w' t (II b.1))
     rcases hk b.2 with h|h
     . cases xo with
       |const c=>rw [eqGuard_nil_constL];rfl
       |_=>cases h
     . cases yo with
       |const c=>rw [eqGuard_nil_constR];rfl
       |_=>cases h
   . cases he
 . split at he
   . rename_i b
     cases hv with
     |ptr _ _ _ _ _ =>
     cases hu with
     |lit _ _ =>
     exact GZ he (fun w'=>by rw [eqGuard_at_pointer];rfl) (fun w'=>run_eql_pointer_nil w' t _ (KY b)) (fun w'=>run_neq_pointer_nil w' t _ (KY b))
   . cases he
 . split at he
   . rename_i b
     cases hv with
     |vptr _ _ _ _ _ _ _ _ _ _ =>
     cases hu with
     |lit _ _ =>
     exact GZ he (fun w'=>by rw [eqGuard_at_pointer];rfl) (fun w'=>run_eql_pointer_nil w' t _ (KY b)) (fun w'=>run_neq_pointer_nil w' t _ (KY b))
   . cases he
 . split at he
   . rename_i b
     cases hv with
     |lit _ _ =>
     cases hu with
     |lit _ _ =>
     exact GZ he (fun w'=>by rw [eqGuard_at_pointer];rfl) (fun w'=>run_eql_pointer_nil w' t _ (KY b)) (fun w'=>run_neq_pointer_nil w' t _ (KY b))
   . cases he
 . split at he
   . rename_i b
     obtain⟨a,n,c,rfl⟩:=ZX hv
     have f:u=.slice none 0 0:=by
      cases hu with
      |nil=>rfl
      |emp _ _ _ _ _ d=>exact absurd rfl d
      |sl _ _ _ _ _ _ _ _ _ _ _ _ _ _ _ _ d=>exact absurd rfl d
     subst f
     unfold UF at b
     split at b
     . rename_i e hs
       exact GZ he (fun w'=>by rw [eqGuard_at_slice];rfl) (fun w'=>Lib.run_eql_slice_nil w' t e _ _ _ _ _ hs) (fun w'=>run_neq_slice_nil w' t e _ _ _ hs)
     . cases b
   . cases he
 . split at he
   . rename_i b
     have g:∀ {z:Value},V w G.U G.φ (.sl [] .nil) z->z=.slice none 0 0:=fun {z} h=>by
      cases h with
      |nil=>rfl
      |emp _ _ _ _ _ d=>exact absurd rfl d
      |sl _ _ _ _ _ _ _ _ _ _ _ _ _ _ _ _ d=>exact absurd rfl d
     have e1:=g hv
     have e2:=g hu
     subst e1 e2
     unfold UF at b
     split at b
     . rename_i e hs
       exact GZ he (fun w'=>by rw [eqGuard_at_slice];rfl) (fun w'=>Lib.run_eql_slice_nil w' t e _ _ _ _ _ hs) (fun w'=>run_neq_slice_nil w' t e _ _ _ hs)
     . cases b
   . cases he
 . cases he
theorem YV {op:BinOp}{t:TypeId}{k:Bool}(xo yo:Operand)(hk:k=true->isK xo=true∨isK yo=true)(hv:V w G.U G.φ q v)(hu:V w G.U G.φ r u)(he:Ado P op t k q r=some (true,p)) :
 ∃ x,V w G.U G.φ p x/\plain p=true/\∀ w',(do eqGuard op t xo yo v u;binOp op t v u:Sem Value).run P w'=.ok x w':=by
 unfold Ado at he
 split at he
 . rename_i xs ys
   split at he
   . rename_i ks d
     split at he
     . rename_i b hb
       cases hv with
       |agg _ _ as n h o =>
       cases hu with
       |agg _ _ bs f s g =>
       have y:DQ w G xs as:=⟨n,fun i j=>⟨h i j,o i (by omega)⟩⟩
       have l:DQ w G ys bs:=⟨f,fun i j=>⟨s i j,g i (by omega)⟩⟩
       unfold Abz at d
       split at d
       . rename_i fs a
         split at d
         . rename_i m
           have e:P.fieldsOf t=fs:=by unfold Program.fieldsOf;rw [a]
           have c:∀ w',(Op.equalIn 10000 t (.agg as) (.agg bs)).run P w'=.ok b w':=fun w'=>by
            rw [run_equalIn_agg w' 9999 t as bs (by rw [e];exact a) m.1,e]
            exact MM y l 9998 w' fs.toList 0 ks b d (by simpa using hb)
           split at he<;>simp only [Â,È,õ,reduceCtorEq] at he
           . subst he
             refine⟨_,.lit _ _,rfl,fun w'=>?_⟩
             simp only [Ð,run_eqGuard_agg w' .eql t xo yo as bs m.2,Ê,run_eql_struct,c]
           . subst he
             refine⟨_,.lit _ _,rfl,fun w'=>?_⟩
             simp only [Ð,run_eqGuard_agg w' .neq t xo yo as bs m.2,Ê,run_neq_struct,c]
         . cases d
       . cases d
     . cases he
   . cases he
 . exact X0 xo yo hk hv hu he
end
end Go.Vl
namespace Go.Vl
open Go Go.RowKit
def Rx (P:Program)(st:St)(c:Call):Option (Bool×PV) :=
 match c.callee with
 |.builtin .len=>match c.args.toList,c.argTypes.toList with
  | [x],[t]=>YU P t (Ck st x)
  |_,_=>none
 |.builtin .min=>Ww false (c.args.toList.map (Ck st))
 |.builtin .max=>Ww true (c.args.toList.map (Ck st))
 |_=>none
def PN (P:Program)(o:Oper)(st:St):Option (Bool×PV) :=
 match o.op with
 |.pick c x y=>match Ck st c with
  |.lit (.bool b)=>some (true,Bf (Ck st (if b then x else y)))
  |_=>none
 |.build t parts=>S4 P t (parts.toList.map fun x=>(x.1,Ck st x.2))
 |.load t x=>J3 P t st.σ (Ck st x)
 |.nilCheck x=>match Ck st x with
  |.ptr b o=>some (true,.ptr b o)
  |.vptr cs o=>some (true,.vptr cs o)
  |.fn f caps=>some (true,.fn f caps)
  |.fno true f caps=>some (true,.fno true f caps)
  |_=>none
 |.binOp op t x y _=>match PQ P op t (Ck st x) (Ck st y) with
  |some r=>some r
  |none=>Ado P op t (isK x||isK y) (Ck st x) (Ck st y)
 |.unOp op _ x=>Adn op (Ck st x)
 |.convert s d x=>Vw P s d (Ck st x)
 |.makeFunc (.func f) first caps=>if first.isEmpty then some (true,TA f (caps.toList.map fun x=>Bf (Ck st x))) else if caps.isEmpty&&first.toList.all (fun x=>(Bf (Ck st x)).fits 0) then some (true,.fnb f (first.toList.map fun x=>Bf (Ck st x))) else none
 |.slice t x lo hi mx=>Ss P t (Ck st x) (lo.map (Ck st)) (hi.map (Ck st)) (mx.map (Ck st))
 |.fieldAddr s x f=>GX P s f (Ck st x)
 |.field s x f=>Sz P s f (Ck st x)
 |.indexAddr t x i=>KB P t (Ck st x) (Ck st i)
 |.index t x i=>Sy P t (Ck st x) (Ck st i)
 |.call c=>Rx P st c
 |_=>none
def P6 (o:Oper):Bool:=match o.op with|.load _ _=>true|.convert _ _ _=>true|_=>false
section
variable {w w':World} {G:Gh} {P:Program} {p:PV} {st:St} {a:Act} {o:Oper}
theorem UQ (h:Hp w G st fun t=>a.tmps.getD t Go.undef)(x:Option Operand):VO w G.U G.φ (x.map (Ck st)) (x.map a.eval):=by
 cases x with
 |none=>trivial
 |some x=>exact Bz h x
def LR (o:Oper)(st:St):Option Nat :=
 match o.op with
 |.load _ x=>rdB (Ck st x)
 |_=>none
theorem Xz (hs:Ay w G st.σ)(h:Hp w G st fun t=>a.tmps.getD t Go.undef)(he:PN P o st=some (true,p)) :
 ∃ v,V w G.U G.φ p v/\EK w G st.σ p v/\∀ w',(P6 o=true->J8 w G (LR o st) w')->(execOp a.eval o).run P w'=.ok (.value v) w':=by
 have fin:∀ {v:Value} {s:Sem Value},V w G.U G.φ p v->Vl.plain p=true->(∀ w',s.run P w'=.ok v w')->(∀ w',(execOp a.eval o).run P w'=(do pure (.value (<- s)):Sem Next).run P w') ->
  ∃ v,V w G.U G.φ p v/\EK w G st.σ p v/\∀ w',(P6 o=true->J8 w G (LR o st) w')->(execOp a.eval o).run P w'=.ok (.value v) w':=by
  intro v s g k l R
  refine⟨v,g,EK.plain k,fun w' _=>?_⟩
  rw [R];simp only [Ð,l w',Ê,Ö]
 unfold PN at he
 split at he
 . rename_i c x y e
   split at he
   . rename_i b D
     have q:=Bz (a:=a) h c
     rw [D] at q
     have I:a.eval c=.bool b:=by
      revert q;generalize a.eval c=z;intro q
      cases q with
      |lit _ _=>rfl
     simp only [Â,È,õ] at he
     subst he
     refine⟨a.eval (if b then x else y),Cp (Bz h _),EK.plain (Bp _),fun w' _=>?_⟩
     unfold execOp
     rw [e]
     cases b<;>simp [I,asBool]
   . cases he
 . rename_i t parts e
   obtain⟨v,g,k,l⟩:=Ud (w:=w) (G:=G) (vals:=parts.map fun x=>(x.1,a.eval x.2)) (by simp) (fun j p v B E=>by
    simp only [ç,Ą] at B
    simp only [Array.getElem?_map] at E
    cases N:parts[j]? with
    |none=>rw [N] at B;cases B
    |some z =>
     rw [N] at B E
     simp only [ä,Â] at B E
     subst B;subst E
     exact⟨rfl,Bz h _⟩) he
   exact fin g k l (fun w'=>by unfold execOp;rw [e])
 . rename_i t x e
   obtain⟨v,g,k,l⟩:=PO hs (Bz h x) he
   refine⟨v,g,k,fun w' J=>?_⟩
   unfold execOp
   rw [e]
   simp only [Ð,l w' (by have:=J (by simp [P6,e]);simpa [LR,e] using this),Ê,Ö]
 . rename_i x e
   have n:=Bz (a:=a) h x
   split at he<;>simp only [Â,È,õ,reduceCtorEq] at he
   all_goals
    rename_i K
    subst he
    rw [K] at n
    refine⟨a.eval x,n,EK.plain rfl,fun w' _=>?_⟩
    unfold execOp
    rw [e]
    revert n
    simp only
    generalize a.eval x=z
    intro n
    cases n
    rfl
 . rename_i op t x y yt e
   cases hb:PQ P op t (Ck st x) (Ck st y) with
   |some r =>
    rw [hb] at he
    simp only [Â] at he
    subst he
    obtain⟨b,c,n,O⟩:=X5 hb
    have u:=Bz (a:=a) h x
    have A:=Bz (a:=a) h y
    rw [n] at u
    rw [O] at A
    rw [n,O] at hb
    obtain⟨v,rfl,F⟩:=X4 x y hb
    have e1:a.eval x=b:=by
     revert u;generalize a.eval x=z;intro u
     cases u with
     |lit _ _=>rfl
    have e2:a.eval y=c:=by
     revert A;generalize a.eval y=z;intro A
     cases A with
     |lit _ _=>rfl
    exact fin (.lit _ v) rfl F (fun w'=>by unfold execOp;rw [e];simp only [e1,e2])
   |none =>
    rw [hb] at he
    obtain⟨v,g,k,l⟩:=YV x y (fun h=>by simpa using h) (Bz (a:=a) h x) (Bz (a:=a) h y) he
    exact fin g k l (fun w'=>by unfold execOp;rw [e])
 . rename_i op t x e
   obtain⟨v,g,k,l⟩:=YR (Bz (a:=a) h x) he
   exact fin g k l (fun w'=>by unfold execOp;rw [e])
 . rename_i s d x e
   obtain⟨v,g,k,l⟩:=Vu (Bz (a:=a) h x) he
   refine⟨v,g,EK.plain k,fun w' J=>?_⟩
   unfold execOp
   rw [e]
   simp only [Ð,l w' (by have:=J (by simp [P6,e]);simpa [LR,e] using this),Ê,Ö]
 . rename_i f first caps e
   split at he
   . rename_i S
     simp only [Â,È,õ] at he
     subst he
     have L:first = #[]:=by simpa using S
     subst L
     refine fin (v:=.func (.func f) #[] (caps.map a.eval)) (s:=Instr.makeFunc (.func f) (#[].map a.eval) (caps.map a.eval)) ?_ (Px _ _) (fun w'=>by simp [Instr.makeFunc]) (fun w'=>by unfold execOp;rw [e])
     refine Zz (by simp) (fun i H=>?_)
     have C:i<caps.size:=by simpa using H
     have e1:(caps.map a.eval).getD i Go.undef=a.eval caps[i]:=by simp [C]
     rw [e1]
     simp only [é,Array.getElem_toList]
     exact Cp (Bz h _)
   . split at he
     . rename_i D
       simp only [Â,È,õ] at he
       subst he
       rw [Æ,Ú] at D
       have M:caps = #[]:=by simpa using D.1
       subst M
       refine fin (v:=.func (.func f) (first.map a.eval) #[]) (s:=Instr.makeFunc (.func f) (first.map a.eval) (#[].map a.eval)) ?_ rfl (fun w'=>by simp [Instr.makeFunc]) (fun w'=>by unfold execOp;rw [e])
       refine .fnb _ _ _ _ (by simp) (fun i H=>?_)
       have C:i<first.size:=by simpa using H
       have e1:(first.map a.eval).getD i Go.undef=a.eval first[i]:=by simp [C]
       rw [e1]
       simp only [é,Array.getElem_toList]
       exact (Cp (Bz h _)).pure (D.2 _ (by simp))
     . cases he
 . rename_i t x lo H mx e
   obtain⟨v,g,k,l⟩:=TX (Bz (a:=a) h x) (UQ (a:=a) h lo) (UQ (a:=a) h H) (UQ (a:=a) h mx) he
   exact fin g k l (fun w'=>by unfold execOp;rw [e])
 . rename_i s x f e
   obtain⟨v,g,k,l⟩:=O1 (Bz (a:=a) h x) he
   exact fin g k l (fun w'=>by unfold execOp;rw [e])
 . rename_i s x f e
   obtain⟨v,g,k,l⟩:=Ub (Bz (a:=a) h x) he
   exact fin g k l (fun w'=>by unfold execOp;rw [e])
 . rename_i t x i e
   obtain⟨v,g,k,l⟩:=O0 (Bz (a:=a) h x) (Bz (a:=a) h i) he
   exact fin g k l (fun w'=>by unfold execOp;rw [e])
 . rename_i t x i e
   obtain⟨v,g,k,l⟩:=Ua (Bz (a:=a) h x) (Bz (a:=a) h i) he
   exact fin g k l (fun w'=>by unfold execOp;rw [e])
 . rename_i c e
   obtain⟨callee,args,ats⟩:=c
   unfold Rx at he
   simp only at he
   have m:∀ (j:Nat) (p:PV) (v:Value),(args.toList.map (Ck st))[j]?=some p->(args.map a.eval)[j]?=some v->V w G.U G.φ p v:=fun j p v B E=>by
    grind [Option.some.injEq,Bz]
   split at he
   . split at he
     . rename_i x t n T
       have e1:args = #[x]:=by rw [<- ë (xs:=args),n]
       have e2:ats = #[t]:=by rw [<- ë (xs:=ats),T]
       subst e1;subst e2
       obtain⟨v,g,k,l⟩:=X1 (ty:=o.type) (Bz (a:=a) h x) he
       exact fin g k l (fun w'=>by unfold execOp;rw [e];simp [resolve,invoke,builtin])
     . cases he
   . obtain⟨v,g,k,l⟩:=Rv (isMax:=false) (vs:=args.map a.eval) (ts:=ats) (ty:=o.type) (w:=w) (G:=G) (by simp) m he
     exact fin g k l (fun w'=>by unfold execOp;rw [e];simp [resolve,invoke,builtin])
   . obtain⟨v,g,k,l⟩:=Rv (isMax:=true) (vs:=args.map a.eval) (ts:=ats) (ty:=o.type) (w:=w) (G:=G) (by simp) m he
     exact fin g k l (fun w'=>by unfold execOp;rw [e];simp [resolve,invoke,builtin])
   . cases he
 . cases he
end
end Go.Vl
namespace Go.Vl
open Go Go.RowKit
def Gh.rel (G:Gh)(l l':Loc):Gh:={ G with Ω:=fun b=>if G.Ω b=some l then some l' else G.Ω b }
def AP (st:St):Loc->PV
 |.tmp t=>st.get t
 |.tcomp t i=>match st.get t with|.tup cs=>cs.getD i .undef|_=>.undef
 |.cell k j=>(st.σ.getD k []).getD j .undef
 |.ret _=>.undef
section
variable {w w' w0:World} {G G' G0:Gh} {P:Program} {p q:PV} {v u:Value} {st:St} {tm:Nat->Value}
theorem Az.to {l l':Loc}{xs:List (List PV)}(h:Az w G l xs v)(hU:G'.U=G.U)(hΩ:∀ b,G.Ω b=some l->G'.Ω b=some l'):Az w G' l' xs v:=by
 rcases h with h|⟨b,cap,sz,T,arr,a,c,d,e,f,g,i⟩
 . exact .inl h
 . exact .inr ⟨b,cap,sz,T,arr,a,c,d,hΩ b e,f,g,by rw [hU];exact i⟩
theorem B9.to {l l':Loc}{xs:List (List Value)}(h:B9 w G l xs v)(hU:G'.U=G.U)(hΩ:∀ b,G.Ω b=some l->G'.Ω b=some l'):B9 w G' l' xs v:=by
 rcases h with h|⟨b,cap,sz,T,arr,a,c,d,e,f,g,i,j⟩
 . exact .inl h
 . exact .inr ⟨b,cap,sz,T,arr,a,c,d,e,hΩ b f,g,i,by rw [hU];exact j⟩
theorem HJ {l l' m:Loc}(hm:m≠l):∀ b,G.Ω b=some m->(G.rel l l').Ω b=some m:=by
 intro b hb
 show (if G.Ω b=some l then some l' else G.Ω b)=some m
 rw [Ä (by rw [hb];simpa using hm)];exact hb
theorem Fv {l l':Loc}:∀ b,G.Ω b=some l->(G.rel l l').Ω b=some l':=by
 intro b hb
 show (if G.Ω b=some l then some l' else G.Ω b)=some l'
 rw [Ç hb]
theorem Tr {l l':Loc}{b:Nat}:(G.rel l l').Ω b≠none↔G.Ω b≠none:=by
 show (if G.Ω b=some l then some l' else G.Ω b)≠none↔_
 split
 . rename_i h;simp [h]
 . rfl
theorem Ext.rel (h:Ext w0 G0 w G)(l l':Loc):Ext w0 G0 w (G.rel l l') :=
 ⟨h.os,h.tape,h.output,h.size,h.frame,h.cells,h.newU,fun b hb=>h.newΩ b (Tr.1 hb),h.phi⟩
theorem Ay.rel {σ:List (List PV)}(h:Ay w G σ)(l l':Loc)(hno:∀ k j xs cs,σ[k]?=some cs->cs[j]?=some (.sl xs .own)->l≠.cell k j)(hno2:∀ k j xs cs,σ[k]?=some cs->cs[j]?=some (.prv xs)->l≠.cell k j):Ay w (G.rel l l') σ:=by
 refine⟨h.len,h.nodup,fun k b cs f d=>?_,h.ub,fun b hb=>h.ob b (Tr.1 hb)⟩
 obtain⟨⟨T,arr,g,i,m⟩,n⟩:=h.blk k b cs f d
 refine⟨⟨T,arr,g,i,fun j c e=>?_⟩,n⟩
 obtain⟨v,o,p,q,a⟩:=m j c e
 refine⟨v,o,p,q,?_⟩
 unfold Ca at a ⊢
 split
 . rename_i xs
   exact Az.to a rfl (HJ (Ę (hno k j xs cs d e)))
 . rename_i xs
   exact B9.to a rfl (HJ (Ę (hno2 k j xs cs d e)))
 . trivial
theorem Inv.rel (h:Inv w0 G0 st tm w G)(l l':Loc)(hno:∀ xs,AP st l≠.sl xs .own)(hno2:∀ xs,AP st l≠.prv xs):Inv w0 G0 st tm w (G.rel l l'):=by
 refine⟨h.ext.rel l l',h.store.rel l l' (fun k j xs cs f n e=>?_) (fun k j xs cs f n e=>?_),h.env.v,fun t=>?_⟩
 . subst e
   refine hno xs ?_
   simp [AP,List.getD,f,n]
 . subst e
   refine hno2 xs ?_
   simp [AP,List.getD,f,n]
 . have b:=h.env.tag t
   revert b
   have o:∀ xs,st.get t=.sl xs .own->l≠.tmp t:=by
    rintro xs c rfl;exact hno xs c
   have p:∀ xs,st.get t=.prv xs->l≠.tmp t:=by
    rintro xs c rfl;exact hno2 xs c
   have a:∀ cs i xs,st.get t=.tup cs->cs[i]?=some (.sl xs .own)->l≠.tcomp t i:=by
    rintro cs i xs c d rfl
    refine hno xs ?_
    simp [AP,c,List.getD,d]
   revert o a p
   generalize st.get t=q
   intro o p a b
   cases q with
   |prv xs=>exact B9.to b rfl (HJ (Ę (p xs rfl)))
   |sl xs g =>
    cases g with
    |own=>exact Az.to b rfl (HJ (Ę (o xs rfl)))
    |view m=>cases m<;>exact b
    |_=>trivial
   |tup cs =>
    intro i xs d
    obtain⟨arr,u,r,s,x⟩:=b i xs d
    exact⟨arr,u,r,s,x.to rfl (HJ (Ę (a cs i xs rfl d)))⟩
   |_=>trivial
theorem GQ (tm:Nat->Value)(s:Nat):FN tm s (tm s)=tm:=by
 funext t;unfold FN;split
 . rename_i h;rw [h]
 . rfl
theorem Inv.share {s:Nat}{xs:List (List PV)}{g:Grow}(h:Inv w0 G0 st tm w G)(hg:st.get s=.sl xs g):Inv w0 G0 (st.put (some s) (.sl xs .shared)) tm w G:=by
 have b:=h.env.v s
 rw [hg] at b
 have:=h.put s (p:=.sl xs .shared) (b.tag (by simp) (by simp)) (by trivial)
 rwa [GQ] at this
theorem Inv.moveOwn {s d:Nat}{xs:List (List PV)}(h:Inv w0 G0 st tm w G)(hg:st.get s=.sl xs .own) :
 Inv w0 G0 ((st.put (some s) (.sl xs .shared)).put (some d) (.sl xs .own)) (FN tm d (tm s)) w (G.rel (.tmp s) (.tmp d)):=by
 have hO:Az w G (.tmp s) xs (tm s):=by have:=h.env.tag s;rw [hg] at this;exact this
 have b:=h.env.v s
 rw [hg] at b
 have c:=h.share hg
 have a:(st.put (some s) (.sl xs .shared)).get s=.sl xs .shared:=by rw [B7,Ç rfl]
 have f:=c.rel (.tmp s) (.tmp d) (fun ys e=>by rw [AP,a] at e;cases e) (fun ys e=>by rw [AP,a] at e;cases e)
 exact f.put d b (hO.to rfl Fv)
theorem Inv.movePrv {s d:Nat}{xs:List (List Value)}(h:Inv w0 G0 st tm w G)(hg:st.get s=.prv xs) :
 Inv w0 G0 ((st.put (some s) .undef).put (some d) (.prv xs)) (FN tm d (tm s)) w (G.rel (.tmp s) (.tmp d)):=by
 have hO:B9 w G (.tmp s) xs (tm s):=by have:=h.env.tag s;rw [hg] at this;exact this
 have c:=h.env.v s
 rw [hg] at c
 have f:=h.put s (p:=.undef) (.undef _ (tm s)) (by trivial)
 rw [GQ] at f
 have b:(st.put (some s) .undef).get s=.undef:=by rw [B7,Ç rfl]
 have g:=f.rel (.tmp s) (.tmp d) (fun ys e=>by rw [AP,b] at e;cases e) (fun ys e=>by rw [AP,b] at e;cases e)
 exact g.put d c (hO.to rfl Fv)
theorem Inv.look {s d:Nat}{xs:List (List PV)}(h:Inv w0 G0 st tm w G)(hg:st.get s=.sl xs .own)(hsd:s≠d) :
 Inv w0 G0 (st.put (some d) (.sl xs (.view (.tmp s)))) (FN tm d (tm s)) w G:=by
 have a:=h.env.v s
 rw [hg] at a
 refine h.put d (a.tag (by simp) (by simp)) ⟨?_,?_⟩
 . rw [B7,Ä (Ę hsd)]
   split
   . rw [hg];rfl
   . exact hg
 . unfold FN;rw [Ä (Ę hsd)]
theorem Inv.lookOn {s d:Nat}{xs:List (List PV)}{l:Loc}(h:Inv w0 G0 st tm w G)(hg:st.get s=.sl xs (.view l)) :
 Inv w0 G0 (st.put (some d) (if l=.tmp d then .sl xs .shared else .sl xs (.view l))) (FN tm d (tm s)) w G:=by
 have b:=h.env.v s
 have a:=h.env.tag s
 rw [hg] at b a
 split
 . exact h.put d (b.tag (by simp) (by simp)) trivial
 . rename_i f
   refine h.put d (b.tag (by simp) (by simp)) ?_
   cases l with
   |tmp r =>
    have c:r≠d:=fun e=>f (by rw [e])
    refine⟨?_,?_⟩
    . rw [B7,Ä (Ę c)]
      split
      . rw [a.1];rfl
      . exact a.1
    . unfold FN;rw [Ä (Ę c)];exact a.2
   |cell k j=>rw [Dz,Kx];exact a
   |tcomp t i=>exact a.elim
   |ret i=>exact a.elim
end
def Vt (st:St)(d:Nat):Operand->Option St
 |.tmp s =>
  match st.get s with
  |.sl xs .own=>if s=d then none else some (st.put (some d) (.sl xs (.view (.tmp s))))
  |.prv xs=>if s=d then none else some ((st.put (some s) .undef).put (some d) (.prv xs))
  |.sl xs (.view l)=>some (st.put (some d) (if l=.tmp d then .sl xs .shared else .sl xs (.view l)))
  |.tup _=>none
  |p=>some (st.put (some d) p)
 |x=>some (st.put (some d) (match Ck st x with|.tup _=>.undef|p=>p))
def KD (st:St)(d:Nat):Operand->Option St
 |.tmp s =>
  match st.get s with
  |.sl xs .own=>if s=d then none else some ((st.put (some s) (.sl xs .shared)).put (some d) (.sl xs .own))
  |.sl xs (.view l)=>some (st.put (some d) (if l=.tmp d then .sl xs .shared else .sl xs (.view l)))
  |.sl [] .nil=>some (st.put (some d) (.sl [] .own))
  |.prv xs=>if s=d then none else some ((st.put (some s) .undef).put (some d) (.prv xs))
  |.tup _=>none
  |p=>some (st.put (some d) p)
 |x=>match Ck st x with
  |.sl [] .nil=>some (st.put (some d) (.sl [] .own))
  |p=>some (st.put (some d) (Bf p))
section
variable {w w' w0:World} {G G' G0:Gh} {P:Program} {p q:PV} {v u:Value} {st st':St} {a:Act} {x:Operand} {d:Nat}
theorem KZ {U:Nat->Nat->Prop}{φ:List Nat}{xs:List (List PV)}(h:V w U φ (.sl xs .nil) v):xs=[]/\v=.slice none 0 0:=by
 cases h with
 |nil=>exact⟨rfl,rfl⟩
 |emp _ _ _ _ _ a=>exact absurd rfl a
 |sl _ _ _ b o sz cap us c d hs e f g i j a=>exact absurd rfl a
theorem Vs (h:Inv w0 G0 st (fun t=>a.tmps.getD t Go.undef) w G)(he:Vt st d x=some st'):∃ G',(G'.U=G.U/\G'.φ=G.φ)/\Inv w0 G0 st' (FN (fun t=>a.tmps.getD t Go.undef) d (a.eval x)) w G':=by
 unfold Vt at he
 split at he
 . rename_i s
   split at he
   . rename_i xs b
     split at he
     . cases he
     . rename_i e
       obtain rfl:=Af he
       exact⟨G,⟨rfl,rfl⟩,h.look b e⟩
   . rename_i xs b
     split at he
     . cases he
     . obtain rfl:=Af he
       exact⟨G.rel (.tmp s) (.tmp d),⟨rfl,rfl⟩,h.movePrv b⟩
   . rename_i xs l b
     obtain rfl:=Af he
     exact⟨G,⟨rfl,rfl⟩,h.lookOn b⟩
   . cases he
   . rename_i i j k m
     obtain rfl:=Af he
     refine⟨G,⟨rfl,rfl⟩,h.putPlain d (h.env.v s) ?_⟩
     revert i k m j
     generalize st.get s=q
     intro i j k m
     cases q with
     |prv xs=>exact absurd rfl (j xs)
     |sl xs g =>
      cases g with
      |own=>exact absurd rfl (i xs)
      |view l=>exact absurd rfl (k xs l)
      |_=>rfl
     |tup cs=>exact absurd rfl (m cs)
     |_=>rfl
 . rename_i n
   obtain rfl:=Af he
   have o:=Bz (a:=a) h.env x
   refine⟨G,⟨rfl,rfl⟩,h.putPlain d ?_ ?_⟩
   . split
     . exact .undef _ _
     . exact o
   . split
     . rfl
     . rename_i p' p
       cases x with
       |tmp s=>exact absurd rfl (n s)
       |const c =>
        show plain (F5 c)=true
        unfold F5;split<;>(try split)<;>rfl
       |global g=>rfl
       |func f=>rfl
theorem S6 (h:Inv w0 G0 st (fun t=>a.tmps.getD t Go.undef) w G)(he:KD st d x=some st'):∃ G',(G'.U=G.U/\G'.φ=G.φ)/\Inv w0 G0 st' (FN (fun t=>a.tmps.getD t Go.undef) d (a.eval x)) w G':=by
 have UW:∀ {v:Value},V w G.U G.φ (.sl [] .nil) v->Inv w0 G0 (st.put (some d) (.sl [] .own)) (FN (fun t=>a.tmps.getD t Go.undef) d v) w G:=by
  intro v c
  obtain⟨_,rfl⟩:=KZ c
  exact h.put d (.nil _ _) (.inl ⟨rfl,rfl⟩)
 unfold KD at he
 split at he
 . rename_i s
   split at he
   . rename_i xs b
     split at he
     . cases he
     . obtain rfl:=Af he
       exact⟨G.rel (.tmp s) (.tmp d),⟨rfl,rfl⟩,h.moveOwn b⟩
   . rename_i xs l b
     obtain rfl:=Af he
     exact⟨G,⟨rfl,rfl⟩,h.lookOn b⟩
   . rename_i b
     obtain rfl:=Af he
     have c:=h.env.v s
     rw [b] at c
     exact⟨G,⟨rfl,rfl⟩,UW c⟩
   . rename_i xs b
     split at he
     . cases he
     . obtain rfl:=Af he
       exact⟨G.rel (.tmp s) (.tmp d),⟨rfl,rfl⟩,h.movePrv b⟩
   . cases he
   . rename_i e f k i j
     obtain rfl:=Af he
     refine⟨G,⟨rfl,rfl⟩,h.putPlain d (h.env.v s) ?_⟩
     revert e f j k i
     generalize st.get s=q
     intro e f k i j
     cases q with
     |prv xs=>exact absurd rfl (i xs)
     |sl xs g =>
      cases g with
      |own=>exact absurd rfl (e xs)
      |view l=>exact absurd rfl (f xs l)
      |_=>rfl
     |tup cs=>exact absurd rfl (j cs)
     |_=>rfl
 . have c:=Bz (a:=a) h.env x
   split at he
   . grind [KD]
   . obtain rfl:=Af he
     exact⟨G,⟨rfl,rfl⟩,h.putPlain d (Cp c) (Bp _)⟩
end
end Go.Vl
namespace Go.Vl
open Go Go.RowKit
def mvT (s d:Nat):Option Loc->Option Loc
 |some (.tcomp t i)=>if t=s then some (.tcomp d i) else some (.tcomp t i)
 |x=>x
def Gh.relT (G:Gh)(s d:Nat):Gh:={ G with Ω:=fun b=>mvT s d (G.Ω b) }
section
variable {w w' w0:World} {G G' G0:Gh} {P:Program} {p q:PV} {v u:Value} {st:St} {tm:Nat->Value}
theorem IC {s d:Nat}{m:Loc}(hm:∀ i,m≠.tcomp s i):∀ b,G.Ω b=some m->(G.relT s d).Ω b=some m:=by
 intro b hb
 show mvT s d (G.Ω b)=some m
 rw [hb]
 cases m with
 |tcomp t i =>
  show (if t=s then some (Loc.tcomp d i) else some (Loc.tcomp t i))=_
  rw [Ä]
  rintro rfl
  exact hm i rfl
 |_=>rfl
theorem UJ {s d i:Nat}:∀ b,G.Ω b=some (.tcomp s i)->(G.relT s d).Ω b=some (.tcomp d i):=by
 intro b hb
 show mvT s d (G.Ω b)=_
 rw [hb];simp [mvT]
theorem QU {s d b:Nat}:(G.relT s d).Ω b≠none↔G.Ω b≠none:=by
 show mvT s d (G.Ω b)≠none↔_
 unfold mvT
 split
 . rename_i h;rw [h];split<;>simp
 . rfl
theorem Inv.relT (h:Inv w0 G0 st tm w G)(s d:Nat)(hno:∀ cs,st.get s≠.tup cs):Inv w0 G0 st tm w (G.relT s d):=by
 refine⟨⟨h.ext.os,h.ext.tape,h.ext.output,h.ext.size,h.ext.frame,h.ext.cells,h.ext.newU,fun b hb=>h.ext.newΩ b (QU.1 hb),h.ext.phi⟩,?_,h.env.v,fun t=>?_⟩
 . refine⟨h.store.len,h.store.nodup,fun k b cs n o=>?_,h.store.ub,fun b hb=>h.store.ob b (QU.1 hb)⟩
   obtain⟨⟨T,arr,p,r,x⟩,y⟩:=h.store.blk k b cs n o
   refine⟨⟨T,arr,p,r,fun j c l=>?_⟩,y⟩
   obtain⟨v,z,B,C,a⟩:=x j c l
   refine⟨v,z,B,C,?_⟩
   unfold Ca at a ⊢
   split
   . exact Az.to a rfl (IC (fun i=>by simp))
   . exact B9.to a rfl (IC (fun i=>by simp))
   . trivial
 . have f:=h.env.tag t
   have l:∀ cs,st.get t=.tup cs->t≠s:=by
    rintro cs D rfl;exact hno cs D
   revert f l
   generalize st.get t=q
   intro f l
   cases q with
   |prv xs=>exact B9.to f rfl (IC (fun i=>by simp))
   |sl xs g =>
    cases g with
    |own=>exact Az.to f rfl (IC (fun i=>by simp))
    |view m=>cases m<;>exact f
    |_=>trivial
   |tup cs =>
    intro i xs E
    obtain⟨arr,u,n,o,p⟩:=f i xs E
    refine⟨arr,u,n,o,p.to rfl (IC (fun i' e=>?_))⟩
    simp only [Loc.tcomp.injEq] at e
    exact l cs rfl e.1
   |_=>trivial
theorem Inv.moveTup {s d:Nat}{cs:List PV}(h:Inv w0 G0 st tm w G)(hg:st.get s=.tup cs) :
 Inv w0 G0 ((st.put (some s) .undef).put (some d) (.tup cs)) (FN tm d (tm s)) w (G.relT s d):=by
 have b:=h.env.tag s
 have c:=h.env.v s
 rw [hg] at b c
 have f:=h.put s (p:=.undef) (v:=tm s) (.undef _ _) trivial
 rw [GQ] at f
 have a:(st.put (some s) .undef).get s=.undef:=by rw [B7,Ç rfl]
 have g:=f.relT s d (fun cs e=>by rw [a] at e;cases e)
 refine g.put d c ?_
 intro i xs j
 obtain⟨arr,u,k,l,m⟩:=b i xs j
 exact⟨arr,u,k,l,m.to rfl UJ⟩
end
def Lg (st:St)(d:Nat):Operand->Option St
 |.tmp s=>match st.get s with
  |.tup cs=>if s=d then none else some ((st.put (some s) .undef).put (some d) (.tup cs))
  |_=>none
 |_=>none
def Lh (st:St)(d:Nat)(i:Nat):Operand->Option St
 |.tmp s=>match st.get s with
  |.tup cs=>match cs[i]? with
   |some (.sl xs .own)=>if s=d then none else some ((st.put (some s) (.tup (cs.set i (.sl xs .shared)))).put (some d) (.sl xs .own))
   |some p=>some (st.put (some d) (Bf p))
   |none=>none
  |_=>none
 |_=>none
section
variable {w w' w0:World} {G G' G0:Gh} {P:Program} {p q:PV} {v u:Value} {st st':St} {a:Act} {x:Operand} {d:Nat}
theorem QB (h:Inv w0 G0 st (fun t=>a.tmps.getD t Go.undef) w G)(he:Lg st d x=some st'):∃ G',(G'.U=G.U/\G'.φ=G.φ)/\Inv w0 G0 st' (FN (fun t=>a.tmps.getD t Go.undef) d (a.eval x)) w G':=by
 unfold Lg at he
 split at he
 . rename_i s
   split at he
   . rename_i cs b
     split at he
     . cases he
     . obtain rfl:=Af he
       exact⟨G.relT s d,⟨rfl,rfl⟩,h.moveTup b⟩
   . cases he
 . cases he
theorem QE {i:Nat}(h:Inv w0 G0 st (fun t=>a.tmps.getD t Go.undef) w G)(he:Lh st d i x=some st'):∃ v G',(∀ w':World,(Instr.extract (a.eval x) i).run P w'=.ok v w')/\(G'.U=G.U/\G'.φ=G.φ)/\Inv w0 G0 st' (FN (fun t=>a.tmps.getD t Go.undef) d v) w G':=by
 unfold Lh at he
 split at he
 . rename_i s
   split at he
   . rename_i cs A
     have q:V w G.U G.φ (st.get s) (a.eval (.tmp s)):=h.env.v s
     have o:Dz w G st _ s (st.get s) (a.eval (.tmp s)):=h.env.tag s
     rw [A] at q o
     have e0:a.eval (.tmp s)=(fun t=>a.tmps.getD t Go.undef) s:=rfl
     generalize B:a.eval (.tmp s)=z at q o
     cases q with
     |tup _ _ arr C k =>
     have run:∀ (g:i<cs.length) (w':World),(Instr.extract (.tuple arr) i).run P w'=.ok (arr.getD i Go.undef) w':=by
      intro g w'
      have:i<arr.size:=by omega
      simp [Instr.extract,this]
     split at he
     . rename_i xs c
       split at he
       . cases he
       . rename_i D
         obtain rfl:=Af he
         have g:i<cs.length:=(List.getElem?_eq_some_iff.1 c).1
         have f:cs[i]=.sl xs .own:=(List.getElem?_eq_some_iff.1 c).2
         obtain⟨arr',u,E,F,H⟩:=o i xs c
         obtain rfl:arr=arr':=by injection E
         have I:arr.getD i Go.undef=u:=by simp [F]
         have b:=k i g
         rw [f] at b
         refine⟨_,G.rel (.tcomp s i) (.tmp d),run g,⟨rfl,rfl⟩,?_⟩
         have m:V w G.U G.φ (.tup (cs.set i (.sl xs .shared))) (.tuple arr):=by
          refine .tup _ _ arr (by simpa using C) (fun j l=>?_)
          have r:j<cs.length:=by simpa using l
          by_cases e:i=j
          . subst e
            simp only [List.getElem_set_self]
            exact b.tag (by simp) (by simp)
          . rw [List.getElem_set_ne e];exact k j r
         have y:=h.put s (p:=.tup (cs.set i (.sl xs .shared))) (v:=.tuple arr) m (by
          intro j ys l
          by_cases e:i=j
          . subst e
            rw [ē g] at l
            cases l
          . rw [List.getElem?_set_ne e] at l
            exact o j ys l)
         have e1:FN (fun t=>a.tmps.getD t Go.undef) s (.tuple arr)=fun t=>a.tmps.getD t Go.undef:=by
          rw [<- B,e0,GQ]
         rw [e1] at y
         have n:(st.put (some s) (.tup (cs.set i (.sl xs .shared)))).get s=.tup (cs.set i (.sl xs .shared)):=by rw [B7,Ç rfl]
         have J:=y.rel (.tcomp s i) (.tmp d) (fun ys e=>by
          simp only [AP,n] at e
          rw [List.getD,ē g] at e
          cases e) (fun ys e=>by
          simp only [AP,n] at e
          rw [List.getD,ē g] at e
          cases e)
         rw [I] at b ⊢
         exact J.put d b (H.to rfl Fv)
     . rename_i p' K c
       obtain rfl:=Af he
       have g:i<cs.length:=(List.getElem?_eq_some_iff.1 c).1
       have f:cs[i]=p':=(List.getElem?_eq_some_iff.1 c).2
       have b:=k i g
       rw [f] at b
       exact⟨_,G,run g,⟨rfl,rfl⟩,h.putPlain d (Cp b) (Bp _)⟩
     . cases he
   . cases he
 . cases he
end
def UW:List (List PV)->PV
 | []=>.sl [] .own
 |x::xs=>.sl (x::xs) .shared
def Gb:PV->PV
 |.sl xs .nil=>UW xs
 |.sl xs .full=>.sl xs .full
 |p=>Bf p
theorem Jp (p:PV):(p=.sl [] .nil/\Gb p=.sl [] .own)∨(∃ xs,p=.sl xs .full/\Gb p=.sl xs .full)∨Gb p=Bf p:=by
 unfold Gb
 split
 . rename_i xs
   cases xs with
   |nil=>exact .inl ⟨rfl,rfl⟩
   |cons x xs=>exact .inr (.inr rfl)
 . exact .inr (.inl ⟨_,rfl,rfl⟩)
 . exact .inr (.inr rfl)
theorem Nv (l:List PV):∀ q∈l.map Gb,q.isM=false:=fun q h=>by
 obtain⟨p,_,rfl⟩:=List.mem_map.1 h
 rcases Jp p with⟨_,h⟩|⟨xs,_,h⟩|h
 . rw [h];rfl
 . rw [h];rfl
 . rw [h];cases p<;>first|rfl|(rename_i xs g;cases g<;>rfl)|(unfold Bf;split<;>rfl)
section
variable {w w' w0:World} {G G' G0:Gh} {P:Program} {p q:PV} {v u:Value} {st:St} {tm:Nat->Value}
theorem Qq {φ:List Nat}{U:Nat->Nat->Prop}(h:V w U φ p v):V w U φ (Gb p) v:=by
 rcases Jp p with⟨rfl,e⟩|⟨xs,rfl,e⟩|e
 . rw [e]
   obtain⟨_,rfl⟩:=KZ h
   exact .nil _ _
 . rw [e];exact h
 . rw [e];exact Cp h
theorem LS {φ:List Nat}{U:Nat->Nat->Prop}(h:V w U φ p v)(l:Loc):Ca w' G (l) (Gb p) v:=by
 rcases Jp p with⟨rfl,e⟩|⟨xs,rfl,e⟩|e
 . rw [e]
   obtain⟨_,rfl⟩:=KZ h
   exact .inl ⟨rfl,rfl⟩
 . rw [e];trivial
 . rw [e]
   unfold Ca
   split
   . rename_i xs a
     have:=Bp p
     rw [a] at this;cases this
   . rename_i xs a
     have:=Bp p
     rw [a] at this;cases this
   . trivial
theorem Qe {o:Obj}{b i:Nat}(hb:b<w.heap.size):(w.alloc o).cell? ⟨b,i,none⟩=w.cell? ⟨b,i,none⟩:=Ċ (w:=w) (ê _ _ _ hb)
theorem Az.alloc {l:Loc}{xs:List (List PV)}(h:Az w G l xs v)(o:Obj)(hφ:G'.U=G.U)(hΩ:G'.Ω=G.Ω):Az (w.alloc o) G' l xs v:=by
 rcases h with h|⟨b,cap,sz,T,arr,c,d,e,f,a,g,i⟩
 . exact .inl h
 . exact .inr ⟨b,cap,sz,T,arr,c,d,e,by rw [hΩ];exact f,(ê _ _ _ (Array.getElem?_eq_some_iff.1 a).1).trans a,g,by rw [hφ];exact i⟩
theorem B9.alloc {l:Loc}{xs:List (List Value)}(h:B9 w G l xs v)(o:Obj)(hφ:G'.U=G.U)(hΩ:G'.Ω=G.Ω):B9 (w.alloc o) G' l xs v:=by
 rcases h with h|⟨b,cap,sz,T,arr,c,d,e,f,g,a,i,j⟩
 . exact .inl h
 . exact .inr ⟨b,cap,sz,T,arr,c,d,e,f,by rw [hΩ];exact g,(ê _ _ _ (Array.getElem?_eq_some_iff.1 a).1).trans a,i,by rw [hφ];exact j⟩
theorem Inv.newObj {cs:List PV}{arr:Array Value}{o:Obj}(hlay:Z5 w G.U o arr cs)(h:Inv w0 G0 st tm w G)(hc:DQ w G cs arr)(ht:∀ j c,cs[j]?=some c->Ca w G (.cell st.σ.length j) c (arr.getD j Go.undef)) :
 Inv w0 G0 { st with σ:=st.σ++[cs] } tm (w.alloc o) { G with φ:=G.φ++[w.heap.size] }/\(G.φ++[w.heap.size])[st.σ.length]?=some w.heap.size:=by
 have J:w.heap.size∉G.φ:=by
  intro hm
  obtain⟨k,p,W⟩:=ö hm
  have A:k<st.σ.length:=by rw [<- h.store.len];exact p
  obtain⟨⟨T',arr',r,_⟩,_⟩:=h.store.blk k _ _ (Ã p) (Ã A)
  have:=(Array.getElem?_eq_some_iff.1 r).1
  omega
 have d:∀ b i,G.U b i->G.U b i/\Kp w (w.alloc o) b i:=fun b i z=>⟨z,Kp.of (ê _ _ _ (h.store.ub b i z))⟩
 have n:∀ (k x:Nat),G.φ[k]?=some x->(G.φ++[w.heap.size])[k]?=some x:=fun k x p=>by rw [Õ (List.getElem?_eq_some_iff.1 p).1];exact p
 have N:G.Ω w.heap.size=none:=by
  cases e:G.Ω w.heap.size with
  |none=>rfl
  |some l=>have:=(h.store.ob w.heap.size (by rw [e];simp)).1;omega
 have tagAll:∀ l c v,Ca w G l c v->Ca (w.alloc o) { G with φ:=G.φ++[w.heap.size] } l c v:=by
  intro l c v ht
  unfold Ca at ht ⊢
  split
  . exact Az.alloc ht _ rfl rfl
  . exact B9.alloc ht _ rfl rfl
  . trivial
 have B:(G.φ++[w.heap.size])[st.σ.length]?=some w.heap.size:=by rw [<- h.store.len];simp
 refine⟨⟨?_,?_,?_⟩,B⟩
 . refine h.ext.trans ⟨rfl,rfl,rfl,by simp,fun k p _ _=>ê _ _ _ p,d,fun b i z=>.inl z,fun b hb=>.inr hb,[w.heap.size],rfl,by simp⟩
 . refine⟨by simp [h.store.len],?_,?_,fun b i z=>by have:=h.store.ub b i z;simp;omega,fun b hb=>?_⟩
   . rw [ď]
     refine⟨h.store.nodup,by simp,fun a O b hb=>?_⟩
     obtain rfl:b=w.heap.size:=by simpa using hb
     rintro rfl;exact J O
   . intro k b cs' p y
     by_cases E:k<G.φ.length
     . rw [Õ E] at p
       rw [Õ (by rw [<- h.store.len];exact E)] at y
       obtain⟨⟨T',arr',r,H,K⟩,P⟩:=h.store.blk k b cs' p y
       refine⟨⟨T',arr',(ê _ _ _ (Array.getElem?_eq_some_iff.1 r).1).trans r,⟨H.1.mono d,H.2⟩,fun j c I=>?_⟩,P⟩
       obtain⟨v,R,S,T,L⟩:=K j c I
       exact⟨v,R,S,T.mono d n,tagAll _ _ _ L⟩
     . have A:=(List.getElem?_eq_some_iff.1 p).1
       simp at A
       obtain rfl:k=G.φ.length:=by omega
       have e1:b=w.heap.size:=by simpa using p.symm
       subst e1
       have e2:cs'=cs:=by rw [h.store.len] at y;simpa using y.symm
       subst e2
       refine⟨⟨o,arr,heap_alloc_new _ _,⟨hlay.mono d,hc.size⟩,fun j c I=>?_⟩,fun i z=>?_⟩
       . have C:=(List.getElem?_eq_some_iff.1 I)
         obtain⟨D,F⟩:=hc.v j C.1
         have M:j<arr.size:=by rw [hc.size];exact C.1
         rw [C.2] at D
         refine⟨arr.getD j Go.undef,by simp [M],F,D.mono d n,?_⟩
         have:=tagAll _ _ _ (ht j c I)
         rw [h.store.len];exact this
       . have:=h.store.ub _ _ z;omega
   . have:=h.store.ob b hb
     refine⟨by simp;omega,?_⟩
     intro hm
     rcases List.mem_append.1 hm with hm|hm
     . exact this.2 hm
     . have:b=w.heap.size:=by simpa using hm
       omega
 . refine⟨fun t=>(h.env.v t).mono d n,fun t=>?_⟩
   have f:=h.env.tag t
   show Dz _ _ _ _ _ (st.get t) _
   revert f
   generalize st.get t=q
   intro f
   cases q with
   |prv xs=>exact B9.alloc f _ rfl rfl
   |sl xs g =>
    cases g with
    |own=>exact Az.alloc f _ rfl rfl
    |view m =>
     cases m with
     |tmp s=>exact f
     |cell k j =>
      obtain⟨cs',b,D,F,r,H⟩:=f
      refine⟨cs',b,?_,F,n _ _ r,?_⟩
      . grind [Ca]
      . obtain⟨⟨T',arr',K,_⟩,_⟩:=h.store.blk k b cs' r D
        rw [Qe (Array.getElem?_eq_some_iff.1 K).1];exact H
     |_=>exact f
    |_=>trivial
   |tup cs' =>
    intro i xs V
    obtain⟨arr',u,D,F,r⟩:=f i xs V
    exact⟨arr',u,D,F,r.alloc _ rfl rfl⟩
   |_=>trivial
theorem Inv.newBlock {cs:List PV}{arr:Array Value}{T:TypeId}(h:Inv w0 G0 st tm w G)(hm:∀ p∈cs,p.isM=false)(hc:DQ w G cs arr)(ht:∀ j c,cs[j]?=some c->Ca w G (.cell st.σ.length j) c (arr.getD j Go.undef)) :
 Inv w0 G0 { st with σ:=st.σ++[cs] } tm (w.alloc (.cells arr T)) { G with φ:=G.φ++[w.heap.size] }/\(G.φ++[w.heap.size])[st.σ.length]?=some w.heap.size:=Inv.newObj (.inl ⟨⟨T,rfl⟩,hm⟩) h hc ht
end
end Go.Vl
namespace Go.Q
open Go
section
variable {P:Program} {ops:Array Oper} {Q:Exit->Act->World->Prop} {S:World->Prop}
def Ea (ops:Array Oper)(D:Array Bool):Prop:=∀ j oj,ops[j]?=some oj->D.getD j false=true->∀ e∈oj.after,Region.binds .any e=true->D.getD e.on false=true
def Dep (ops:Array Oper)(j i:Nat):Prop:=∀ D,Ea ops D->(∀ oj,ops[j]?=some oj->∀ e∈oj.after,Region.binds .any e=true->D.getD e.on false=true)->(∃ oj,ops[j]?=some oj)->D.getD i false=true
def Nz (acc:List Nat)(o:Oper):Nat:=o.after.toList.foldl (fun s e=>if Region.binds .any e then s ||| (2 ^ e.on ||| acc.getD e.on 0) else s) 0
def UZ (acc:List Nat):List Oper->List Nat
 | []=>acc
 |o::rest=>UZ (acc++[Nz acc o]) rest
theorem TC (acc:List Nat)(o:Oper)(i:Nat)(h:(Nz acc o).testBit i=true):∃ e∈o.after,Region.binds .any e=true/\(e.on=i∨(acc.getD e.on 0).testBit i=true):=by
 have key:∀ (l:List Edge) (s:Nat),(l.foldl (fun s e=>if Region.binds .any e then s ||| (2 ^ e.on ||| acc.getD e.on 0) else s) s).testBit i=true ->
  s.testBit i=true∨∃ e∈l,Region.binds .any e=true/\(e.on=i∨(acc.getD e.on 0).testBit i=true):=by
  intro l
  induction l with
  |nil=>intro s h;exact .inl h
  |cons e l ih =>
   intro s h
   rcases ih _ h with h|⟨e',b,hb,c⟩
   . by_cases a:Region.binds .any e=true
     . simp only [a,if_true] at h
       simp only [Nat.testBit_or,Bool.or_eq_true] at h
       rcases h with h|h|h
       . exact .inl h
       . rw [Nat.testBit_two_pow] at h
         exact .inr ⟨e,by simp,a,.inl (by simpa using h)⟩
       . exact .inr ⟨e,by simp,a,.inr h⟩
     . simp only [a] at h
       exact .inl h
   . exact .inr ⟨e',by simp [b],hb,c⟩
 rcases key _ _ h with h|⟨e,d,hb,c⟩
 . simp at h
 . exact⟨e,by simpa using d,hb,c⟩
theorem Oc:∀ (l:List Oper) (acc:List Nat),(∀ j,l[j]?=ops[acc.length+j]?)->(∀ j i,(acc.getD j 0).testBit i=true->Dep ops j i)->∀ j i,((UZ acc l).getD j 0).testBit i=true->Dep ops j i
 | [],_,_,h=>h
 |o::l,acc,hl,h=>by
  refine Oc l (acc++[Nz acc o]) (fun j=>?_) (fun j i hji=>?_)
  . have:=hl (j+1)
    simpa [Nat.add_assoc,Nat.add_comm 1 j] using this
  . by_cases hj:j<acc.length
    . refine h j i ?_
      rw [List.getD_eq_getElem?_getD,List.getElem?_append_left hj,<- List.getD_eq_getElem?_getD] at hji
      exact hji
    . by_cases hj2:j=acc.length
      . subst hj2
        have e1:(acc++[Nz acc o]).getD acc.length 0=Nz acc o:=by simp
        rw [e1] at hji
        obtain⟨e,n,hb,hc⟩:=TC acc o i hji
        intro D hD a _
        have m:ops[acc.length]?=some o:=by simpa using (hl 0).symm
        have b:=a o m e n hb
        rcases hc with rfl|hc
        . exact b
        . by_cases c:∃ oj,ops[e.on]?=some oj
          . obtain⟨oj,d⟩:=c
            refine h e.on i hc D hD (fun o' f e' g k=>hD e.on o' f b e' g k) ⟨oj,d⟩
          . exfalso
            by_cases p:e.on<acc.length
            . have:acc.length<ops.size:=(Array.getElem?_eq_some_iff.1 m).1
              exact c ⟨ops[e.on]'(by omega),Array.getElem?_eq_getElem (by omega)⟩
            . simp [List.getD,List.getElem?_eq_none (l:=acc) (i:=e.on) (by omega)] at hc
      . have e1:(acc++[Nz acc o]).getD j 0=0:=by
         rw [List.getD_eq_getElem?_getD,List.getElem?_eq_none (by simp;omega)];rfl
        rw [e1] at hji
        simp at hji
def Rh (ops:Array Oper):List Nat:=UZ [] ops.toList
theorem Py (j i:Nat)(h:((Rh ops).getD j 0).testBit i=true):Dep ops j i :=
 Oc ops.toList [] (fun j=>by simp) (fun j i h=>by simp at h) j i h
def cl (c:List Nat)(i:Nat):Nat:=c.getD i 2
def DM (ops:Array Oper)(c:List Nat)(j:Nat):Bool:=(List.range ops.size).any fun i=>cl c i == 1&&i != j&&!((Rh ops).getD j 0).testBit i
theorem Pw {c:List Nat}{i j:Nat}{D:Array Bool}(hD:Ea ops D)(hj:j∈Region.ready .any ops D)(hi:i<ops.size)(hun:D.getD i false=false)(h1:cl c i=1)(hij:i≠j):DM ops c j=true:=by
 unfold DM
 rw [List.any_eq_true]
 refine⟨i,List.mem_range.2 hi,?_⟩
 obtain⟨_,oj,a,b⟩:=mem_ready.1 hj
 simp only [h1,beq_self_eq_true,Bool.true_and,Bool.and_eq_true,bne_iff_ne,ne_eq,hij,not_false_eq_true,true_and,Bool.not_eq_true']
 cases f:((Rh ops).getD j 0).testBit i with
 |false=>rfl
 |true =>
  have:=Py j i f D hD (fun o' d e g hb=>by
   have:o'=oj:=Option.some.inj (d.symm.trans a)
   subst this
   exact b e g hb) ⟨oj,a⟩
  rw [hun] at this
  cases this
def YieldsIn (P:Program)(ops:Array Oper)(T:World->Prop)(o:Oper)(v:Value)(a:Act):Prop :=
 (Region.wanted o (yielded ops a.tmps)=true/\∀ w,T w->((execOp a.eval o).run P w=.ok (.value v) w∨∃ f args,(execOp a.eval o).run P w=.ok (.enter f args) w/\Calls P f args w (fun e w''=>e=.returned v/\w''=w))) ∨
 (Region.wanted o (yielded ops a.tmps)=false/\v=undef)
theorem YieldsIn.wpOp {T:World->Prop}{i:Nat}{o:Oper}{v:Value}{a:Act}(hi:ops[i]?=some o)(hy:YieldsIn P ops T o v a){K:Act->World->Prop}{w:World}(hT:T w)(h:K (a.put o.dst v) w):wpOp P ops Q i K a w:=by
 unfold Go.wpOp
 simp only [hi]
 rcases hy with⟨b,c⟩|⟨b,rfl⟩
 . simp only [b,if_true,Oper.wp]
   rcases c w hT with c|⟨f,args,c,d⟩
   . simp only [c,Oper.upon];exact .inl h
   . simp only [c,Oper.upon]
     exact .inl (d.mono fun e w'' ⟨g,b⟩=>by subst g;subst b;exact h)
 . simp only [b,Bool.false_eq_true,if_false];exact h
theorem YieldsIn.of_same {T:World->Prop}{o:Oper}{v:Value}{a a':Act}(hy:YieldsIn P ops T o v a)(he:execOp a'.eval o=execOp a.eval o)
 (hw:Region.wanted o (yielded ops a'.tmps)=Region.wanted o (yielded ops a.tmps)):YieldsIn P ops T o v a':=by
 unfold YieldsIn at *
 rw [he,hw]
 exact hy
theorem L8 {T:World->Prop}{j:Nat}{oi oj:Oper}{v:Value}(hj:ops[j]?=some oj)(hap:oi.apart ops oj=true)
 (hsi:∀ cs b,oi.op≠.select cs b) (hsj:∀ cs b,oj.op≠.select cs b)
 (hQ:∀ c a w,Q (.panic c) (a.put oi.dst v) w->Q (.panic c) a w) {K:Act->World->Prop} {a:Act} {w:World}
 (hy:YieldsIn P ops T oi v a) (h:wpOp P ops Q j K (a.put oi.dst v) w) :
 wpOp P ops Q j (fun a' w'=>YieldsIn P ops T oi v a'/\K (a'.put oi.dst v) w') a w:=by
 obtain⟨m,k,p⟩:=Oper.apart_spec hap
 have keep:∀ (a:Act),YieldsIn P ops T oi v a->∀ u,YieldsIn P ops T oi v (a.put oj.dst u):=fun a hy u =>
  hy.of_same (execOp_put oi hsi a oj.dst u p) (wanted_put oi a oj.dst u p)
 have keepD:∀ d,YieldsIn P ops T oi v { a with defers:=d::a.defers }:=fun d=>hy.of_same rfl rfl
 unfold Go.wpOp at *
 simp only [hj] at *
 rw [wanted_put oj a oi.dst v m] at h
 split
 . rename_i o
   simp only [o,if_true] at h
   rcases h with h|⟨g,i⟩
   case inr=>exact .inr ⟨by unfold Oper.asks at *;rw [execOp_put oj hsj a oi.dst v m] at g;exact g,i⟩
   refine .inl ?_
   unfold Oper.wp at *
   rw [execOp_put oj hsj a oi.dst v m] at h
   generalize (execOp a.eval oj).run P w=r at *
   cases r with
   |ok n w' =>
    cases n<;>simp only [Oper.upon] at h ⊢
    case value u=>exact⟨keep a hy u,by rw [<- Act.put_comm a v u k];exact h⟩
    case skip=>exact⟨keep a hy _,by rw [<- Act.put_comm a v undef k];exact h⟩
    case defer d =>
     refine⟨keep _ (keepD d) _,?_⟩
     rw [<- Act.put_comm _ v undef k,<- Act.put_defers]
     exact h
    case enter f args =>
     refine Calls.mono h fun e w'' l=>?_
     cases e with
     |returned u=>exact⟨keep a hy u,by rw [<- Act.put_comm a v u k];exact l⟩
     |panicked c=>exact hQ _ _ _ l
     |outgrown=>exact l
    case row row args=>exact Rows.mono h fun u w'' l=>⟨keep a hy u,by rw [<- Act.put_comm a v u k];exact l⟩
   |halt x w' =>
    cases x<;>simp only [Oper.upon] at h ⊢
    case panic u=>exact hQ _ _ _ h
 . rename_i o
   simp only [o] at h
   exact⟨keep a hy _,by rw [<- Act.put_comm a v undef k];exact h⟩
def XN (ops:Array Oper)(S:World->Prop)(c:List Nat)(j:Nat)(w w':World):Prop:=if cl c j=0∨cl c j=1 then w'=w else (DM ops c j=true->S w')
def OO (P:Program)(ops:Array Oper)(Q:Exit->Act->World->Prop)(S:World->Prop)(c:List Nat):Nat->Array Bool->Act->World->Prop
 |0,D,a,w=>Region.ready .any ops D=[]/\Q .normal a w
 |fuel+1,D,a,w =>
  (Region.ready .any ops D=[]->Q .normal a w) /\
  ∀ i∈Region.ready .any ops D,wpOp P ops Q i (fun a' w'=>XN ops S c i w w'/\OO P ops Q S c fuel (D.setIfInBounds i true) a' w') a w
theorem ON {c:List Nat}:∀ (fuel:Nat) (D:Array Bool) (a:Act) (w:World),OO P ops Q S c fuel D a w->wpAny P .any ops Q fuel D a w
 |0,_,_,_,h=>h
 |fuel+1,_,_,_,h=>⟨h.1,fun i hi=>wpOp_mono (fun a' w' h'=>ON fuel _ a' w' h'.2) (h.2 i hi)⟩
theorem Ea.set {D:Array Bool}{i:Nat}(h:Ea ops D)(hi:i∈Region.ready .any ops D):Ea ops (D.setIfInBounds i true):=by
 obtain⟨_,oi,c,a⟩:=mem_ready.1 hi
 intro j oj d f e g hb
 by_cases b:i=j
 . subst b
   have:oj=oi:=Option.some.inj (d.symm.trans c)
   subst this
   exact getD_set_true (a e g hb)
 . rw [getD_set_ne false b] at f
   exact getD_set_true (h j oj d f e g hb)
theorem D8 {D:Array Bool}{i:Nat}(hi:i∈Region.ready .any ops D):D.getD i false=false/\i<ops.size:=by
 obtain⟨a,oi,b,_⟩:=mem_ready.1 hi
 refine⟨?_,(Array.getElem?_eq_some_iff.1 b).1⟩
 rcases Nat.lt_or_ge i D.size with h'|h'
 . simp [h'] at a ⊢;exact a
 . simp [Array.getElem?_eq_none h'] at a
theorem Mm {c:List Nat}{T:World->Prop}{i:Nat}{oi:Oper}{v:Value}(hi:ops[i]?=some oi)(hsel:∀ (j:Nat) (o:Oper) cs b,ops[j]?=some o->o.op≠.select cs b)
 (hQ:∀ c a w,Q (.panic c) (a.put oi.dst v) w->Q (.panic c) a w) (hci:cl c i=0∨cl c i=1)
 (hT:∀ D j,Ea ops D->i∈Region.ready .any ops D->j∈Region.ready .any ops D->j≠i->∀ w w',XN ops S c j w w'->T w->T w') :
 ∀ (fuel:Nat) (D:Array Bool) (a:Act) (w:World),Ea ops D->T w ->
  (∀ j oj,ops[j]?=some oj->j≠i->D.getD j true=false->(∀ e∈oj.after,Region.binds .any e=true->e.on≠i)->oi.apart ops oj=true) ->
  i∈Region.ready .any ops D->YieldsIn P ops T oi v a ->
  OO P ops Q S c fuel (D.setIfInBounds i true) (a.put oi.dst v) w->OO P ops Q S c (fuel+1) D a w:=by
 have f:∀ w,XN ops S c i w w:=fun w=>by unfold XN;rw [if_pos hci]
 intro fuel
 induction fuel with
 |zero =>
  intro D a w hD l _ n z H
  refine⟨fun h=>(by rw [h] at n;cases n),fun j r=>?_⟩
  by_cases d:j=i
  . subst d;exact z.wpOp hi l ⟨f w,H⟩
  . have:=ready_mono r d
    rw [H.1] at this
    cases this
 |succ fuel ih =>
  intro D a w hD l g n z H
  refine⟨fun h=>(by rw [h] at n;cases n),fun j r=>?_⟩
  by_cases d:j=i
  . subst d;exact z.wpOp hi l ⟨f w,H⟩
  . have A:=H.2 j (ready_mono r d)
    obtain⟨p,oj,q,s⟩:=mem_ready.1 r
    have u:∀ e∈oj.after,Region.binds .any e=true->e.on≠i:=fun e G hb C=>by
     have A:=s e G hb
     rw [C,(D8 n).1] at A
     cases A
    have I:=L8 q (g j oj q d p u) (fun cs b=>hsel i oi cs b hi) (fun cs b=>hsel j oj cs b q) hQ z A
    have m:∀ k ok,ops[k]?=some ok->k≠i->(D.setIfInBounds j true).getD k true=false ->
     (∀ e∈ok.after,Region.binds .any e=true->e.on≠i)->oi.apart ops ok=true:=fun k ok J E x F=>by
     refine g k ok J E ?_ F
     by_cases y:j=k
     . subst y;exact p
     . rw [getD_set_ne true y] at x;exact x
    refine wpOp_mono (fun a' w' B=>⟨B.2.1,ih (D.setIfInBounds j true) a' w' (hD.set r) (hT D j hD n r d w w' B.2.1 l) m (ready_mono n (Ne.symm d)) B.1 ?_⟩) I
    rw [Array.setIfInBounds_comm _ _ d]
    exact B.2.2
def JA (P:Program)(ops:Array Oper)(Q:Exit->Act->World->Prop)(S:World->Prop)(c:List Nat):List Nat->Act->World->Prop
 | [],a,w=>Q .normal a w
 |i::t,a,w=>match ops[i]? with
  |none=>False
  |some o =>
   if cl c i=0 then ∃ v,YieldsIn P ops (fun _=>True) o v a/\JA P ops Q S c t (a.put o.dst v) w
   else if cl c i=1 then ∃ v,YieldsIn P ops S o v a/\JA P ops Q S c t (a.put o.dst v) w
   else wpOp P ops Q i (fun a' w'=>(DM ops c i=true->S w')/\JA P ops Q S c t a' w') a w
def Yv (ops:Array Oper)(c:List Nat):List Nat->Array Bool->Bool
 | [],D=>(Region.ready .any ops D).isEmpty
 |i::t,D=>(Region.ready .any ops D).contains i&&(if cl c i=0∨cl c i=1 then Region.free .any ops D i else decide (Region.ready .any ops D=[i]))&&Yv ops c t (D.setIfInBounds i true)
theorem IT {c:List Nat}(hsel:Region.noSelect ops=true)(hQ:∀ c d v a w,Q (.panic c) (a.put d v) w->Q (.panic c) a w):∀ (t:List Nat) (D:Array Bool) (a:Act) (w:World),Ea ops D ->
 ((∃ i,i<ops.size/\D.getD i false=false/\cl c i=1)->S w)->Yv ops c t D=true->JA P ops Q S c t a w->OO P ops Q S c t.length D a w
 | [],D,a,w,_,_,hok,h=>⟨by simpa [Yv] using hok,h⟩
 |i::t,D,a,w,hD,hS,hok,h=>by
  simp only [Yv,Bool.and_eq_true] at hok
  obtain⟨⟨hr,hf⟩,hok'⟩:=hok
  have hr':i∈Region.ready .any ops D:=by simpa using hr
  obtain⟨_,oi,e,_⟩:=mem_ready.1 hr'
  obtain⟨f,g⟩:=D8 hr'
  have m:∀ k,(D.setIfInBounds i true).getD k false=false->D.getD k false=false:=by
   intro k H
   by_cases n:i=k
   . subst n;exact f
   . rw [getD_set_ne false n] at H;exact H
  have o:(∃ k,k<ops.size/\(D.setIfInBounds i true).getD k false=false/\cl c k=1)->S w:=fun ⟨k,b,I,p⟩=>hS ⟨k,b,m k I,p⟩
  unfold JA at h
  simp only [e] at h
  by_cases l:cl c i=0
  . rw [if_pos l] at h
    rw [if_pos (.inl l)] at hf
    obtain⟨v,u,x⟩:=h
    exact Mm (T:=fun _=>True) e (Region.noSelect_spec hsel) (fun _ a w h=>hQ _ _ _ a w h) (.inl l) (fun _ _ _ _ _ _ _ _ _ _=>trivial) t.length D a w hD trivial (Region.free_spec e hf) hr' u
     (IT hsel hQ t _ _ w (hD.set hr') o hok' x)
  . rw [if_neg l] at h
    by_cases b:cl c i=1
    . rw [if_pos b] at h
      rw [if_pos (.inr b)] at hf
      obtain⟨v,u,x⟩:=h
      refine Mm (T:=S) e (Region.noSelect_spec hsel) (fun _ a w h=>hQ _ _ _ a w h) (.inr b) ?_ t.length D a w hD (hS ⟨i,g,f,b⟩) (Region.free_spec e hf) hr' u
       (IT hsel hQ t _ _ w (hD.set hr') o hok' x)
      intro D' j y z r A w w' s B
      unfold XN at s
      split at s
      . subst s;exact B
      . exact s (Pw y r g (D8 z).1 b (Ne.symm A))
    . rw [if_neg b] at h
      rw [if_neg (by simp [l,b])] at hf
      have C:Region.ready .any ops D=[i]:=by simpa using hf
      refine⟨fun h=>(by rw [h] at hr';cases hr'),fun j r=>?_⟩
      rw [C] at r
      obtain rfl:j=i:=by simpa using r
      refine wpOp_mono (fun a' w' p=>⟨by unfold XN;rw [if_neg (by simp [l,b])];exact p.1,?_⟩) h
      refine IT hsel hQ t _ a' w' (hD.set hr') ?_ hok' p.2
      rintro⟨k,E,F,q⟩
      have G:k≠j:=by rintro rfl;rw [q] at b;exact b rfl
      exact p.1 (Pw hD hr' E (m k F) q G)
end
end Go.Q
