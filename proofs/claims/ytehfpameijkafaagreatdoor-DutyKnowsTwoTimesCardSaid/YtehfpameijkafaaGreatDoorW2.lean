/-
  What the program's own variables hold, as the rows lay them (blocks 0, 3, 4, 5: strings.asciiSpace, internal/strconv.uint64pow10, strconv.ErrSyntax, strconv.ErrRange); no code writes them. Values without memory: what a program computes, seen as plain values; how such values lie in memory. No program. States of plain values and what they say of memory; what a call does, in plain values. No program. States of plain values: reading, writing a temporary; operations that yield a value and leave memory alone. No program. Operations that yield a value and leave memory alone, in plain values. No program. Reading memory and taking values apart, in plain values. No program. Addresses, indexes, slices, lengths, fields, in plain values. No program. Slice expressions; structs built; and all operations that yield a value and leave memory alone. No program. Structs built; small operations on values. No program. Operations that yield a value and leave memory alone: all of them. No program. One operation that yields a value and leaves memory alone. No program. Moving values from place to place; new blocks. No program. Tuples; new blocks. No program. A statement whose order Go leaves open, walked in one order: operations that yield one value whenever they run float; the others come in a forced order. No program.
-/
import Derived.Lib.Space
import Derived.Lib.ItoaNum
import Derived.Laws.BytesString
import Derived.Laws.StructEq
import Derived.WideLaws
import Derived.Laws.Pointers
import Derived.Lib.SliceRun
import Derived.Laws.Cover3
import Derived.WalkKit
import Derived.Orders
import Derived.StillTailTactics
import Derived.Test.YtehfpameijkafaaGreatDoorW1
set_option linter.unusedVariables false
set_option linter.unusedSimpArgs false
namespace Go.Vl
open Go Go.RowKit
def WC:List Nat:=[0,5,3,4]
def Agl:Nat:=126
def QI (w:World):Prop :=
 ((∃ T o,w.heap[0]?=some (.cells (Lib.asciiSpaceTab.map fun z=>Value.int .u8 z).toArray T o))/\∃ T o,w.heap[5]?=some (.cells (Lib.pow10Tab.map fun z=>Value.int .u64 z).toArray T o)) /\
  (∃ ev,w.cell? ⟨3,0,none⟩=some ev/\(ev=.nilIface∨∃ te pe,ev=.iface te pe))/\∃ ev,w.cell? ⟨4,0,none⟩=some ev/\(ev=.nilIface∨∃ te pe,ev=.iface te pe)
theorem YG {w w':World}(h:QI w)(hs:∀ b∈WC,w'.heap[b]?=w.heap[b]?):QI w':=by
 obtain⟨⟨⟨T,o,h0⟩,T3,o3,h3⟩,⟨e4,h4,k4⟩,e5,h5,k5⟩:=h
 have c:∀ b∈WC,w'.cell? ⟨b,0,none⟩=w.cell? ⟨b,0,none⟩:=fun b hb=>by
  have:=hs b hb
  unfold World.cell?
  rw [this]
 exact⟨⟨⟨T,o,(hs 0 (by decide)).trans h0⟩,T3,o3,(hs 5 (by decide)).trans h3⟩,⟨e4,(c 3 (by decide)).trans h4,k4⟩,e5,(c 4 (by decide)).trans h5,k5⟩
end Go.Vl
namespace Go.Vl
open Go Go.RowKit
inductive Loc where
 |tmp (t:Nat)
 |tcomp (t i:Nat)
 |cell (b j:Nat)
 |ret (i:Nat)
deriving DecidableEq
inductive Grow where
 |shared
 |full
 |nil
 |own
 |view (l:Loc)
deriving DecidableEq
inductive PV where
 |lit (v:Value)
 |agg (cs:List PV)
 |tup (cs:List PV)
 |sl (xs:List (List PV)) (g:Grow)
 |ptr (b o:Nat)
 |vptr (cs:List PV) (o:Nat)
 |fn (f:FuncId) (caps:List PV)
 |fno (b:Bool) (f:FuncId) (caps:List PV)
 |fnb (f:FuncId) (args:List PV)
 |ifc
 |mref (b:Nat)
 |mp (kvs:List (Value×Value))
 |vmp (kvs:List (Value×Value))
 |mit (kvs:List (Value×Value)) (seen:List Nat)
 |dis (f:List Nat->List (List PV))
 |asl (b o n cap:Nat)
 |prv (xs:List (List Value))
 |undef
instance:Inhabited PV:=⟨.undef⟩
mutual
def PV.fits (N:Nat):PV->Bool
 |.lit _=>true
 |.agg cs=>PV.fitsL N cs
 |.tup cs=>PV.fitsL N cs
 |.sl _ _=>true
 |.ptr b _=>decide (b<N)
 |.vptr _ _=>true
 |.fn _ caps=>PV.fitsL N caps
 |.fno _ _ _=>true
 |.fnb _ _=>true
 |.ifc=>true
 |.mref b=>decide (b<N)
 |.mp _=>true
 |.vmp _=>true
 |.mit _ _=>true
 |.dis _=>true
 |.asl b _ _ _=>decide (b<N)
 |.prv _=>true
 |.undef=>true
def PV.fitsL (N:Nat):List PV->Bool
 | []=>true
 |p::ps=>p.fits N&&PV.fitsL N ps
end
theorem DY {N:Nat}:∀ {cs:List PV},PV.fitsL N cs=true->∀ i (h:i<cs.length),(cs[i]).fits N=true
 | [],_,i,h=>by simp at h
 |p::ps,h,i,hi=>by
  simp only [PV.fitsL,Å] at h
  cases i with
  |zero=>exact h.1
  |succ i=>exact DY h.2 i (by simpa using hi)
def Kp (w w':World)(b i:Nat):Prop:=w'.cell? ⟨b,i,none⟩=w.cell? ⟨b,i,none⟩/\∀ es c,w.heap[b]?=some (.map es c)->w'.heap[b]?=some (.map es c)
theorem Kp.refl {w:World}{b i:Nat}:Kp w w b i:=⟨rfl,fun _ _ h=>h⟩
theorem Kp.trans {w1 w2 w3:World}{b i:Nat}(h:Kp w1 w2 b i)(k:Kp w2 w3 b i):Kp w1 w3 b i:=⟨k.1.trans h.1,fun es c e=>k.2 _ _ (h.2 _ _ e)⟩
theorem Kp.of {w w':World}{b i:Nat}(h:w'.heap[b]?=w.heap[b]?):Kp w w' b i:=⟨Č (w:=w) h,fun _ _ e=>h.trans e⟩
theorem Kp.ofCells {w w':World}{b i:Nat}{arr:Array Value}{T:TypeId}{f:Nat×Nat}(h:w'.cell? ⟨b,i,none⟩=w.cell? ⟨b,i,none⟩)(hb:w.heap[b]?=some (.cells arr T f)):Kp w w' b i:=⟨h,fun _ _ e=>by rw [hb] at e;cases e⟩
def Stp (es:Array MapEntry)(c:Nat):Prop:=(∀ x∈es.toList,x.born<c)/\(es.toList.map (·.born)).Nodup
inductive V (w:World) (U:Nat->Nat->Prop):List Nat->PV->Value->Prop where
 |lit (φ:List Nat) (v:Value):V w U φ (.lit v) v
 |agg (φ:List Nat) (cs:List PV) (arr:Array Value) (hn:arr.size=cs.length) (h:∀ i (h:i<cs.length),V w U φ cs[i] (arr.getD i Go.undef)) (h1:∀ i,i<arr.size->(arr.getD i Go.undef).oneCell'=true):V w U φ (.agg cs) (.agg arr)
 |tup (φ:List Nat) (cs:List PV) (arr:Array Value) (hn:arr.size=cs.length) (h:∀ i (h:i<cs.length),V w U φ cs[i] (arr.getD i Go.undef)):V w U φ (.tup cs) (.tuple arr)
 |nil (φ:List Nat) (g:Grow):V w U φ (.sl [] g) (.slice none 0 0)
 |sl (φ:List Nat) (xs:List (List PV)) (g:Grow) (b o sz cap:Nat) (us:Nat->Nat->Value) (hc:xs.length<=cap) (hm:cap<=9223372036854775807)
  (hs:∀ i (h:i<xs.length),(xs[i]).length=sz) (hU:∀ i j,i<xs.length->j<sz->U b (o+i*sz+j))
  (hw:∀ i j,i<xs.length->j<sz->w.cell? ⟨b,o+i*sz+j,none⟩=some (us i j)) (h1:∀ i j,i<xs.length->j<sz->(us i j).oneCell'=true)
  (hv:∀ i (h:i<xs.length) j (hj:j<(xs[i]).length),V w U [] xs[i][j] (us i j)) (hf:g=.full->cap=xs.length) (hg:g≠.nil):V w U φ (.sl xs g) (.slice (some ⟨b,o,none⟩) xs.length cap)
 |ptr (φ:List Nat) (b o k:Nat) (h:φ[b]?=some k):V w U φ (.ptr b o) (.pointer (some ⟨k,o,none⟩))
 |vptr (φ:List Nat) (cs:List PV) (b o' o:Nat) (us:Nat->Value) (hU:∀ j,j<cs.length->U b (o'+j)) (hw:∀ j,j<cs.length->w.cell? ⟨b,o'+j,none⟩=some (us j))
  (h1:∀ j,j<cs.length->(us j).oneCell'=true) (hv:∀ j (h:j<cs.length),V w U [] cs[j] (us j)):V w U φ (.vptr cs o) (.pointer (some ⟨b,o'+o,none⟩))
 |fn (φ:List Nat) (f:FuncId) (caps:List PV) (arr:Array Value) (hn:arr.size=caps.length) (h:∀ i (h:i<caps.length),V w U φ caps[i] (arr.getD i Go.undef)):V w U φ (.fn f caps) (.func (.func f) #[] arr)
 |fno (φ:List Nat) (f:FuncId) (caps:List PV) (arr:Array Value) (hn:arr.size=caps.length) (h:∀ i (h:i<caps.length),V w U [] caps[i] (arr.getD i Go.undef)):V w U φ (.fno true f caps) (.func (.func f) #[] arr)
 |fnb (φ:List Nat) (f:FuncId) (args:List PV) (arr:Array Value) (hn:arr.size=args.length) (h:∀ i (h:i<args.length),V w U [] args[i] (arr.getD i Go.undef)):V w U φ (.fnb f args) (.func (.func f) arr #[])
 |nof (φ:List Nat) (f:FuncId) (caps:List PV):V w U φ (.fno false f caps) .nilFunc
 |ifc (φ:List Nat) (t:TypeId) (v:Value):V w U φ .ifc (.iface t v)
 |mref (φ:List Nat) (b k:Nat) (h:φ[b]?=some k):V w U φ (.mref b) (.map (some k))
 |mp (φ:List Nat) (kvs:List (Value×Value)) (v:Value):V w U φ (.mp kvs) v
 |vmp (φ:List Nat) (kvs:List (Value×Value)) (b:Nat) (es:Array MapEntry) (c:Nat) (hU:U b 0) (hw:w.heap[b]?=some (.map es c)) (hk:es.toList.map (fun e=>(e.key,e.val))=kvs) (hs:Stp es c):V w U φ (.vmp kvs) (.map (some b))
 |mit (φ:List Nat) (kvs:List (Value×Value)) (seen:List Nat) (v:Value):V w U φ (.mit kvs seen) v
 |dis (φ:List Nat) (f:List Nat->List (List PV)) (i:List Nat) (v:Value) (h:V w U φ (.sl (f i) .shared) v):V w U φ (.dis f) v
 |undef (φ:List Nat) (v:Value):V w U φ .undef v
 |emp (φ:List Nat) (g:Grow) (b o k:Nat) (hg:g≠.nil):V w U φ (.sl [] g) (.slice (some ⟨b,o,some k⟩) 0 0)
 |prv (φ:List Nat) (xs:List (List Value)) (A:Option Addr) (cap:Nat):V w U φ (.prv xs) (.slice A xs.length cap)
 |asl (φ:List Nat) (b o n cap k:Nat) (h:φ[b]?=some k) (hc:n<=cap) (hm:cap<=9223372036854775807):V w U φ (.asl b o n cap) (.slice (some ⟨k,o,none⟩) n cap)
section
variable {w w':World} {U U':Nat->Nat->Prop} {φ φ':List Nat} {p:PV} {v:Value}
theorem V.mono (h:V w U φ p v)(hU:∀ b i,U b i->U' b i/\Kp w w' b i):∀ {φ':List Nat},(∀ (k x:Nat),φ[k]?=some x->φ'[k]?=some x)->V w' U' φ' p v:=by
 induction h with
 |lit φ v=>intro φ' _;exact .lit _ _
 |agg φ cs arr hn h h1 ih=>intro φ' hφ;exact .agg _ _ _ hn (fun i hi=>ih i hi hφ) h1
 |tup φ cs arr hn h ih=>intro φ' hφ;exact .tup _ _ _ hn (fun i hi=>ih i hi hφ)
 |nil φ g=>intro φ' _;exact .nil _ _
 |sl φ xs g b o sz cap us hc hm hs hU' hw h1 hv hf hg ih =>
  intro φ' _
  exact .sl _ _ _ b o sz cap us hc hm hs (fun i j hi hj=>(hU _ _ (hU' i j hi hj)).1) (fun i j hi hj=>((hU _ _ (hU' i j hi hj)).2.1).trans (hw i j hi hj)) h1 (fun i hi j hj=>ih i hi j hj (fun k x hk=>hk)) hf hg
 |ptr φ b o k h=>intro φ' hφ;exact .ptr _ _ _ _ (hφ _ _ h)
 |vptr φ cs b o' o us hU' hw h1 hv ih =>
  intro φ' _
  exact .vptr _ _ _ _ _ us (fun j hj=>(hU _ _ (hU' j hj)).1) (fun j hj=>((hU _ _ (hU' j hj)).2.1).trans (hw j hj)) h1 (fun j hj=>ih j hj (fun k x hk=>hk))
 |fn φ f caps arr hn h ih=>intro φ' hφ;exact .fn _ _ _ _ hn (fun i hi=>ih i hi hφ)
 |fno φ f caps arr hn h ih=>intro φ' _;exact .fno _ _ _ _ hn (fun i hi=>ih i hi (fun k x hk=>hk))
 |fnb φ f caps arr hn h ih=>intro φ' _;exact .fnb _ _ _ _ hn (fun i hi=>ih i hi (fun k x hk=>hk))
 |nof φ f caps=>intro φ' _;exact .nof _ _ _
 |ifc φ t v=>intro φ' _;exact .ifc _ _ _
 |mref φ b k h=>intro φ' hφ;exact .mref _ _ _ (hφ _ _ h)
 |mp φ kvs v=>intro φ' _;exact .mp _ _ _
 |vmp φ kvs b es c hu hw hk hs=>intro φ' _;exact .vmp _ _ b es c (hU _ _ hu).1 ((hU _ _ hu).2.2 _ _ hw) hk hs
 |mit φ kvs seen v=>intro φ' _;exact .mit _ _ _ _
 |dis φ f i v h ih=>intro φ' hφ;exact .dis _ _ i _ (ih hφ)
 |undef φ v=>intro φ' _;exact .undef _ _
 |emp φ g b o k hg=>intro φ' _;exact .emp _ _ _ _ _ hg
 |prv φ xs A cap=>intro φ' _;exact .prv _ _ _ _
 |asl φ b o n cap k h hc hm=>intro φ' hφ;exact .asl _ _ _ _ _ _ (hφ _ _ h) hc hm
theorem V.fits {N:Nat}(h:V w U φ p v):p.fits N=true->V w U (φ.take N) p v:=by
 induction h with
 |lit φ v=>intro _;exact .lit _ _
 |agg φ cs arr hn h h1 ih=>intro hf;rw [PV.fits] at hf;exact .agg _ _ _ hn (fun i hi=>ih i hi (DY hf i hi)) h1
 |tup φ cs arr hn h ih=>intro hf;rw [PV.fits] at hf;exact .tup _ _ _ hn (fun i hi=>ih i hi (DY hf i hi))
 |nil φ g=>intro _;exact .nil _ _
 |sl φ xs g b o sz cap us hc hm hs hU' hw h1 hv hf hg ih=>intro _;exact .sl _ _ _ b o sz cap us hc hm hs hU' hw h1 hv hf hg
 |ptr φ b o k h =>
  intro hf;rw [PV.fits,Î] at hf
  exact .ptr _ _ _ _ (by rw [Ą,Ç hf];exact h)
 |vptr φ cs b o' o us hU' hw h1 hv ih=>intro _;exact .vptr _ _ _ _ _ us hU' hw h1 hv
 |fn φ f caps arr hn h ih=>intro hf;rw [PV.fits] at hf;exact .fn _ _ _ _ hn (fun i hi=>ih i hi (DY hf i hi))
 |fno φ f caps arr hn h ih=>intro _;exact .fno _ _ _ _ hn h
 |fnb φ f caps arr hn h ih=>intro _;exact .fnb _ _ _ _ hn h
 |nof φ f caps=>intro _;exact .nof _ _ _
 |ifc φ t v=>intro _;exact .ifc _ _ _
 |mref φ b k h =>
  intro hf;rw [PV.fits,Î] at hf
  exact .mref _ _ _ (by rw [Ą,Ç hf];exact h)
 |mp φ kvs v=>intro _;exact .mp _ _ _
 |vmp φ kvs b es c hu hw hk hs=>intro _;exact .vmp _ _ b es c hu hw hk hs
 |mit φ kvs seen v=>intro _;exact .mit _ _ _ _
 |dis φ f i v h ih=>intro _;exact .dis _ _ i _ (ih (by rw [PV.fits]))
 |undef φ v=>intro _;exact .undef _ _
 |emp φ g b o k hg=>intro _;exact .emp _ _ _ _ _ hg
 |prv φ xs A cap=>intro _;exact .prv _ _ _ _
 |asl φ b o n cap k h hc hm =>
  intro hf;rw [PV.fits,Î] at hf
  exact .asl _ _ _ _ _ _ (by rw [Ą,Ç hf];exact h) hc hm
def PV.pure (p:PV):Bool:=p.fits 0
theorem V.pure (h:V w U φ p v)(hp:p.pure=true):V w U φ' p v :=
 (h.fits (N:=0) hp).mono (fun _ _ h=>⟨h,Kp.refl⟩) (fun k x hk=>by simp at hk)
theorem V.tag {xs:List (List PV)}{g g':Grow}(h:V w U φ (.sl xs g) v)(hf:g'≠.full)(hn:g'≠.nil):V w U φ (.sl xs g') v:=by
 cases h with
 |nil=>exact .nil _ _
 |emp _ _ _ _ _ hg=>exact .emp _ _ _ _ _ hn
 |sl _ _ _ b o sz cap us hc hm hs hU hw h1 hv hf' hg=>exact .sl _ _ _ b o sz cap us hc hm hs hU hw h1 hv (fun e=>absurd e hf) hn
end
end Go.Vl
namespace Go.Vl
open Go Go.RowKit
structure Gh where
 U:Nat->Nat->Prop
 φ:List Nat
 Ω:Nat->Option Loc
def A0 (w:World)(G:Gh)(l:Loc)(xs:List (List PV))(v:Value):Prop :=
 (xs=[]/\v=.slice none 0 0) ∨
 ∃ b cap sz T,∃ arr:Array Value,v=.slice (some ⟨b,0,none⟩) xs.length cap/\xs≠[]/\(∀ x∈xs,x.length=sz)/\G.Ω b=some l/\w.heap[b]?=some (.cells arr T (0,0))/\arr.size=cap*sz/\∀ i,G.U b i->i<xs.length*sz
def BC (w:World)(G:Gh)(l:Loc)(xs:List (List Value))(v:Value):Prop :=
 (xs=[]/\v=.slice none 0 0) ∨
 ∃ b cap sz T,∃ arr:Array Value,v=.slice (some ⟨b,0,none⟩) xs.length cap/\xs≠[]/\(xs.length<=cap/\cap<=9223372036854775807)/\(∀ x∈xs,x.length=sz)/\G.Ω b=some l/\w.heap[b]?=some (.cells arr T (0,0))/\(arr.size=cap*sz/\(∀ i,i<arr.size->(arr.getD i Go.undef).oneCell'=true)/\∀ i (hi:i<xs.length) j (hj:j<(xs[i]).length),arr.getD (i*sz+j) Go.undef=xs[i][j])/\∀ i,¬ G.U b i
def Ck (w:World)(G:Gh)(l:Loc):PV->Value->Prop
 |.sl xs .own,v=>A0 w G l xs v
 |.prv xs,v=>BC w G l xs v
 |_,_=>True
def PV.isM:PV->Bool
 |.mp _=>true
 |.mit _ _=>true
 |_=>false
def Itr (w:World)(U:Nat->Nat->Prop)(o:Obj)(kvs:List (Value×Value))(seen:List Nat):Prop :=
 ∃ bm es c st,o=.mapIter (some bm) c st c/\U bm 0/\w.heap[bm]?=some (.map es c)/\es.toList.map (fun e=>(e.key,e.val))=kvs/\Stp es c/\st.toList=seen.map (fun i=>(es.toList.map (·.born)).getD i 0)/\∀ j∈seen,j<kvs.length
def Lay (w:World)(U:Nat->Nat->Prop)(o:Obj)(arr:Array Value)(cs:List PV):Prop :=
 ((∃ T,o=.cells arr T (0,0))/\∀ p∈cs,p.isM=false)∨(∃ kvs es c,cs=[.mp kvs]/\o=.map es c/\es.toList.map (fun e=>(e.key,e.val))=kvs/\Stp es c)∨∃ kvs seen,cs=[.mit kvs seen]/\Itr w U o kvs seen
theorem Lay.mono {w w':World}{U U':Nat->Nat->Prop}{o:Obj}{arr:Array Value}{cs:List PV}(h:Lay w U o arr cs)(hU:∀ b i,U b i->U' b i/\Kp w w' b i):Lay w' U' o arr cs:=by
 rcases h with h|h|⟨kvs,seen,e,bm,es,c,st,h1,h2,h3,h4⟩
 . exact .inl h
 . exact .inr (.inl h)
 . exact .inr (.inr ⟨kvs,seen,e,bm,es,c,st,h1,(hU _ _ h2).1,(hU _ _ h2).2.2 _ _ h3,h4⟩)
structure Agr (w:World) (G:Gh) (k b:Nat) (cs:List PV):Prop where
 blk:∃ o,∃ arr:Array Value,w.heap[b]?=some o/\(Lay w G.U o arr cs/\arr.size=cs.length)/\∀ j c,cs[j]?=some c->∃ v,arr[j]?=some v/\v.oneCell'=true/\V w G.U G.φ c v/\Ck w G (.cell k j) c v
 noU:∀ i,¬ G.U b i
structure Az (w:World) (G:Gh) (σ:List (List PV)):Prop where
 len:G.φ.length=σ.length
 nodup:G.φ.Nodup
 blk:∀ k b cs,G.φ[k]?=some b->σ[k]?=some cs->Agr w G k b cs
 ub:∀ b i,G.U b i->b<w.heap.size
 ob:∀ b,G.Ω b≠none->b<w.heap.size/\b∉G.φ
structure Ext (w:World) (G:Gh) (w':World) (G':Gh):Prop where
 os:w'.os=w.os
 tape:w'.tape=w.tape
 output:w'.output=w.output
 size:w.heap.size<=w'.heap.size
 frame:∀ k,k<w.heap.size->k∉G.φ->G.Ω k=none->w'.heap[k]?=w.heap[k]?
 cells:∀ b i,G.U b i->G'.U b i/\Kp w w' b i
 newU:∀ b i,G'.U b i->G.U b i∨w.heap.size<=b∨G.Ω b≠none
 newΩ:∀ b,G'.Ω b≠none->w.heap.size<=b∨G.Ω b≠none
 phi:∃ ψ,G'.φ=G.φ++ψ/\∀ b∈ψ,w.heap.size<=b∨G.Ω b≠none
theorem Ext.refl (w:World)(G:Gh):Ext w G w G:=⟨rfl,rfl,rfl,à _,fun _ _ _ _=>rfl,fun _ _ h=>⟨h,Kp.refl⟩,fun _ _ h=>.inl h,fun _ h=>.inr h,[],by simp,by simp⟩
theorem Ext.trans {w1 w2 w3:World}{G1 G2 G3:Gh}(h:Ext w1 G1 w2 G2)(k:Ext w2 G2 w3 G3):Ext w1 G1 w3 G3:=by
 obtain⟨ψ,hφ,hψ⟩:=h.phi
 obtain⟨ψ',hφ',hψ'⟩:=k.phi
 have hs:=h.size
 refine⟨k.os.trans h.os,k.tape.trans h.tape,k.output.trans h.output,ď h.size k.size,?_,?_,?_,?_,ψ++ψ',?_,?_⟩
 . intro i hi h1 h2
   rw [k.frame i (by omega) ?_ ?_,h.frame i hi h1 h2]
   . grind
   . cases ho:G2.Ω i with
     |none=>rfl
     |some l =>
      rcases h.newΩ i (by rw [ho];simp) with h3|h3
      . omega
      . exact absurd h2 h3
 . intro b i hu
   obtain⟨h1,h2⟩:=h.cells b i hu
   obtain⟨h3,h4⟩:=k.cells b i h1
   exact⟨h3,h2.trans h4⟩
 . intro b i hu
   rcases k.newU b i hu with h1|h1|h1
   . exact h.newU b i h1
   . exact .inr (.inl (by omega))
   . rcases h.newΩ b h1 with h2|h2
     . exact .inr (.inl h2)
     . exact .inr (.inr h2)
 . intro b hb
   rcases k.newΩ b hb with h1|h1
   . exact .inl (by omega)
   . exact h.newΩ b h1
 . rw [hφ',hφ,î]
 . intro b hb
   rcases List.mem_append.1 hb with hb|hb
   . exact hψ b hb
   . rcases hψ' b hb with h1|h1
     . exact .inl (by omega)
     . exact h.newΩ b h1
theorem Ext.phiGet {w w':World}{G G':Gh}(h:Ext w G w' G')(k x:Nat)(hk:G.φ[k]?=some x):G'.φ[k]?=some x:=by
 obtain⟨ψ,hφ,_⟩:=h.phi
 rw [hφ,Ô (List.getElem?_eq_some_iff.1 hk).1];exact hk
theorem Ext.V {w w':World}{G G':Gh}(h:Ext w G w' G'){p:PV}{v:Value}(hv:V w G.U G.φ p v):V w' G'.U G'.φ p v:=hv.mono h.cells h.phiGet
theorem Ext.below {w w':World}{G G':Gh}(h:Ext w G w' G')(hφ:G.φ=[])(hΩ:∀ b,G.Ω b=none):Below w.heap.size w w' :=
 ⟨h.os,h.tape,h.output,h.size,fun k hk=>h.frame k hk (by rw [hφ];simp) (hΩ k)⟩
def C8 (w:World)(G:Gh):Prop:=QI w/\∀ b∈WC,b<w.heap.size/\b∉G.φ/\G.Ω b=none
theorem C8.ext {w w':World}{G G':Gh}(h:C8 w G)(hx:Ext w G w' G'):C8 w' G':=by
 refine⟨YG h.1 fun b hb=>hx.frame b (h.2 b hb).1 (h.2 b hb).2.1 (h.2 b hb).2.2,fun b hb=>?_⟩
 obtain⟨h1,h2,h3⟩:=h.2 b hb
 refine⟨ò h1 hx.size,?_,?_⟩
 . obtain⟨ψ,hφ,hψ⟩:=hx.phi
   rw [hφ]
   intro hm
   rcases List.mem_append.1 hm with hm|hm
   . exact h2 hm
   . rcases hψ b hm with h4|h4
     . omega
     . exact h4 h3
 . cases e:G'.Ω b with
   |none=>rfl
   |some l =>
    rcases hx.newΩ b (by rw [e];simp) with h4|h4
    . omega
    . exact absurd h3 h4
structure St where
 env:List (Nat×PV)
 σ:List (List PV)
def Cs:List (Nat×PV)->Nat->PV
 | [],_=>.undef
 |(k,v)::r,t=>if k=t then v else Cs r t
def St.get (st:St)(t:Nat):PV:=Cs st.env t
def DV (w:World)(G:Gh)(st:St)(tm:Nat->Value)(t:Nat):PV->Value->Prop
 |.sl xs .own,v=>A0 w G (.tmp t) xs v
 |.prv xs,v=>BC w G (.tmp t) xs v
 |.sl xs (.view (.tmp s)),v=>st.get s=.sl xs .own/\tm s=v
 |.sl xs (.view (.cell k j)),v=>∃ cs b,st.σ[k]?=some cs/\cs[j]?=some (.sl xs .own)/\G.φ[k]?=some b/\w.cell? ⟨b,j,none⟩=some v
 |.sl _ (.view _),_=>False
 |.tup cs,v=>∀ i xs,cs[i]?=some (.sl xs .own)->∃ arr u,v=.tuple arr/\arr[i]?=some u/\A0 w G (.tcomp t i) xs u
 |_,_=>True
structure Ib (w:World) (G:Gh) (st:St) (tm:Nat->Value):Prop where
 v:∀ t,V w G.U G.φ (st.get t) (tm t)
 tag:∀ t,DV w G st tm t (st.get t) (tm t)
structure Inv (w0:World) (G0:Gh) (st:St) (tm:Nat->Value) (w:World) (G:Gh):Prop where
 ext:Ext w0 G0 w G
 store:Az w G st.σ
 env:Ib w G st tm
inductive Cl where
 |ret (r:PV)
 |pan (c:List PanicEntry)
def Hg (w:World)(G:Gh):PV->Value->Prop
 |.sl xs .own,v=>A0 w G (.ret 0) xs v
 |.prv _,_=>False
 |.sl _ (.view _),_=>False
 |.tup cs,v=>∀ i xs,cs[i]?=some (.sl xs .own)->∃ arr u,v=.tuple arr/\arr[i]?=some u/\A0 w G (.ret i) xs u
 |_,_=>True
def Dq (w:World)(G:Gh):Cl->Ending->Prop
 |.ret r,e=>∃ v,e=.returned v/\V w G.U G.φ r v/\Hg w G r v
 |.pan c,e=>e=.panicked c
def VC (P:Program)(f:FuncId)(args:List PV)(σ:List (List PV))(Q:Cl->List (List PV)->Prop):Prop :=
 ∀ (w:World) (G:Gh) (vs:Array Value),Az w G σ->vs.size=args.length->(∀ i (h:i<args.length),V w G.U G.φ args[i] (vs.getD i Go.undef)) ->
  (∀ b l,G.Ω b=some l->∃ k j,l=.cell k j)->C8 w G ->
  Calls P f vs w fun e w'=>∃ x σ' G',Q x σ'/\Dq w' G' x e/\Az w' G' σ'/\Ext w G w' G'
theorem VC.mono {P:Program}{f:FuncId}{args:List PV}{σ:List (List PV)}{Q Q':Cl->List (List PV)->Prop}(h:VC P f args σ Q)(hq:∀ x σ',Q x σ'->Q' x σ'):VC P f args σ Q' :=
 fun w G vs h1 h2 h3 h4 h5=>(h w G vs h1 h2 h3 h4 h5).mono fun _ _ ⟨x,σ',G',q,r⟩=>⟨x,σ',G',hq _ _ q,r⟩
end Go.Vl
namespace Go.Vl
open Go Go.RowKit
def Hr (l:Loc):PV->PV
 |.sl xs (.view l')=>if l'=l then .sl xs .shared else .sl xs (.view l')
 |p=>p
def VW (l:Loc)(env:List (Nat×PV)):List (Nat×PV):=env.map fun x=>(x.1,Hr l x.2)
def XL:PV->Bool
 |.sl _ .own=>true
 |.prv _=>true
 |_=>false
def St.put (st:St)(d:Option Tmp)(p:PV):St :=
 match d with
 |none=>st
 |some d=>{ st with env:=(d,p)::(if XL (st.get d) then VW (.tmp d) st.env else st.env) }
theorem QK (l:Loc):∀ (env:List (Nat×PV)) (t:Nat),Cs (VW l env) t=Hr l (Cs env t)
 | [],_=>rfl
 |(k,v)::r,t=>by
  show (if k=t then Hr l v else Cs (VW l r) t)=Hr l (if k=t then v else Cs r t)
  split
  . rfl
  . exact QK l r t
theorem BA (st:St)(d:Nat)(p:PV)(t:Nat):(st.put (some d) p).get t=if d=t then p else if XL (st.get d) then Hr (.tmp d) (st.get t) else st.get t:=by
 show (if d=t then p else Cs _ t)=_
 split
 . rfl
 . split
   . exact QK _ _ _
   . rfl
theorem Ly (st:St)(d:Option Tmp)(p:PV):(st.put d p).σ=st.σ:=by cases d<;>rfl
def GG (tm:Nat->Value)(d:Nat)(v:Value)(t:Nat):Value:=if d=t then v else tm t
section
variable {w w' w0:World} {G G' G0:Gh} {st st':St} {tm tm':Nat->Value} {p:PV} {v:Value} {d:Nat} {P:Program}
theorem Ada {l:Loc}{φ:List Nat}{U:Nat->Nat->Prop}(h:V w U φ p v):V w U φ (Hr l p) v:=by
 unfold Hr
 split
 . split
   . exact h.tag (by simp) (by simp)
   . exact h
 . exact h
theorem Yo {l:Loc}{xs:List (List PV)}:Hr l p=.sl xs .own↔p=.sl xs .own:=by
 unfold Hr
 split
 . split<;>simp
 . rfl
theorem Ib.put (h:Ib w G st tm)(d:Nat)(hv:V w G.U G.φ p v)(ht:DV w G (st.put (some d) p) (GG tm d v) d p v):Ib w G (st.put (some d) p) (GG tm d v):=by
 refine⟨fun t=>?_,fun t=>?_⟩
 . rw [BA];unfold GG
   by_cases e:d=t
   . rw [Ç e,Ç e];exact hv
   . rw [Ä e,Ä e]
     split
     . exact Ada (h.v t)
     . exact h.v t
 . by_cases e:d=t
   . grind [BA,GG]
   . have ht0:=h.tag t
     have e2:GG tm d v t=tm t:=Ä e
     have e1:(st.put (some d) p).get t=if XL (st.get d) then Hr (.tmp d) (st.get t) else st.get t:=by rw [BA,Ä e]
     rw [e1,e2]
     have key:∀ xs s,s≠d->st.get s=.sl xs .own->(st.put (some d) p).get s=.sl xs .own:=by
      grind [BA,Yo]
     revert ht0
     generalize st.get t=q
     intro ht0
     cases q with
     |sl xs g =>
      cases g with
      |view l =>
       cases l with
       |tmp s =>
        by_cases es:s=d
        . subst es
          have ho:st.get s=.sl xs .own:=ht0.1
          rw [ho];simp [XL,Hr];trivial
        . grind [Hr,DV,GG]
       |cell k j =>
        have hg:DV w G (st.put (some d) p) (GG tm d v) t (.sl xs (.view (.cell k j))) (tm t):=by rw [DV,Ly];exact ht0
        split
        . simp only [Hr];simpa using hg
        . exact hg
       |tcomp s i=>exact ht0.elim
       |ret i=>exact ht0.elim
      |own=>split<;>exact ht0
      |shared=>split<;>trivial
      |full=>split<;>trivial
      |nil=>split<;>trivial
     |tup cs=>split<;>exact ht0
     |_=>split<;>trivial
theorem Inv.put (h:Inv w0 G0 st tm w G)(d:Nat)(hv:V w G.U G.φ p v)(ht:DV w G (st.put (some d) p) (GG tm d v) d p v):Inv w0 G0 (st.put (some d) p) (GG tm d v) w G :=
 ⟨h.ext,by rw [Ly];exact h.store,h.env.put d hv ht⟩
def plain:PV->Bool
 |.sl _ .own=>false
 |.prv _=>false
 |.sl _ (.view _)=>false
 |.tup _=>false
 |_=>true
theorem E9 (hp:plain p=true)(st:St)(tm:Nat->Value)(t:Nat)(v:Value):DV w G st tm t p v:=by
 cases p with
 |sl xs g=>cases g<;>simp_all [plain,DV]
 |tup cs=>simp [plain] at hp
 |_=>trivial
theorem Inv.putPlain (h:Inv w0 G0 st tm w G)(d:Nat)(hv:V w G.U G.φ p v)(hp:plain p=true):Inv w0 G0 (st.put (some d) p) (GG tm d v) w G :=
 h.put d hv (E9 hp _ _ _ _)
def Abd:Value->PV
 |.slice none 0 0=>.sl [] .nil
 |.nilFunc=>.fno false 0 []
 |v=>.lit v
def Ge:Value->PV
 |.slice none 0 0=>.sl [] .nil
 |.nilFunc=>.fno false 0 []
 |.agg arr=>if arr.toList.all Value.oneCell'=true then .agg (arr.toList.map Abd) else .lit (.agg arr)
 |v=>.lit v
theorem Ade {U:Nat->Nat->Prop}{φ:List Nat}(v:Value):V w U φ (Abd v) v:=by
 unfold Abd
 split
 . exact .nil _ _
 . exact .nof _ _ _
 . exact .lit _ _
theorem LQ {U:Nat->Nat->Prop}{φ:List Nat}(v:Value):V w U φ (Ge v) v:=by
 unfold Ge
 split
 . exact .nil _ _
 . exact .nof _ _ _
 . rename_i arr
   split
   . rename_i h
     rw [Û] at h
     refine .agg _ _ arr (by simp) (fun i hi=>?_) (fun i hi=>?_)
     . have hi2:i<arr.size:=by simpa using hi
       simp only [é,Array.getElem_toList]
       rw [É,ã hi2]
       exact Ade _
     . rw [É,ã hi]
       exact h _ (by simp)
   . exact .lit _ _
 . exact .lit _ _
def Cu (st:St):Operand->PV
 |.tmp t=>st.get t
 |.const v=>Ge v
 |.global _=>.undef
 |.func f=>.fno true f []
theorem B1 {a:Act}(h:Ib w G st fun t=>a.tmps.getD t Go.undef)(x:Operand):V w G.U G.φ (Cu st x) (a.eval x):=by
 cases x with
 |tmp t=>exact h.v t
 |const v=>exact LQ v
 |global g=>exact .undef _ _
 |func f=>exact .fno _ _ _ _ rfl (fun i hi=>by simp at hi)
def UN (f:FuncId)(caps:List PV):PV:=if (caps.all fun p=>p.fits 0)=true then .fno true f caps else .fn f caps
theorem Abk {U:Nat->Nat->Prop}{φ:List Nat}{f:FuncId}{caps:List PV}{arr:Array Value}(hn:arr.size=caps.length)(h:∀ i (h:i<caps.length),V w U φ caps[i] (arr.getD i Go.undef)):V w U φ (UN f caps) (.func (.func f) #[] arr):=by
 unfold UN
 split
 . rename_i hc
   rw [Û] at hc
   exact .fno _ _ _ _ hn (fun i hi=>(h i hi).pure (hc _ (Ú hi)))
 . exact .fn _ _ _ _ hn h
theorem Q1 (f:FuncId)(caps:List PV):plain (UN f caps)=true:=by unfold UN;split<;>rfl
def Bg:PV->PV
 |.sl xs _=>.sl xs .shared
 |.tup _=>.undef
 |.mp _=>.undef
 |.mit _ _=>.undef
 |.prv _=>.undef
 |p=>p
theorem C2 {U:Nat->Nat->Prop}{φ:List Nat}(h:V w U φ p v):V w U φ (Bg p) v:=by
 unfold Bg
 split
 . exact h.tag (by simp) (by simp)
 . exact .undef _ _
 . exact .undef _ _
 . exact .undef _ _
 . exact .undef _ _
 . exact h
theorem Br (p:PV):plain (Bg p)=true:=by
 cases p<;>rfl
end
end Go.Vl
namespace Go.Vl
open Go Go.RowKit
def Ms (P:Program)(t:TypeId):Option Nat:=(P.info? t).map (·.size)
def LP (P:Program)(t:TypeId):Option Bool:=(P.underlying t).map fun|.struct _=>true|.array _ _=>true|_=>false
def YI (P:Program)(s f:Nat):Option (Nat×Nat×Bool) :=
 match P.underlying s with
 |some (.struct fs)=>match fs[f]? with
  |some fd=>match Ms P fd.type,LP P fd.type with
   |some n,some a=>some (fd.offset,n,a)
   |_,_=>none
  |none=>none
 |_=>none
def X6 (P:Program)(t:TypeId):Option (Nat×Nat) :=
 match P.underlying t with
 |some (.slice e)=>(P.info? e).map fun i=>(i.size,i.bytes)
 |_=>none
def arT (P:Program)(t:TypeId):Option (Nat×Nat×Bool) :=
 match P.underlying t with
 |some (.array n e)=>match Ms P e,LP P e with
  |some k,some a=>some (n,k,a)
  |_,_=>none
 |_=>none
def Agc (P:Program)(t:TypeId):Option IntKind:=match P.underlying t with|some (.int k)=>some k|_=>none
def Ll (P:Program)(t:TypeId):Bool:=match P.underlying t with|some .string=>true|_=>false
def Adt (P:Program)(t:TypeId):Bool:=match P.underlying t with|some .bool=>true|_=>false
def Adr (op:BinOp)(k:IntKind)(a b:Int):Option (Bool×PV) :=
 match op with
 |.add=>some (true,.lit (.int k (k.wrap (a+b))))
 |.sub=>some (true,.lit (.int k (k.wrap (a-b))))
 |.mul=>some (true,.lit (.int k (k.wrap (a*b))))
 |.quo=>some (b != 0,.lit (.int k (k.wrap (a.tdiv b))))
 |.rem=>some (b != 0,.lit (.int k (a.tmod b)))
 |.and=>some (true,.lit (.int k (bits .and k a b)))
 |.or=>some (true,.lit (.int k (bits .or k a b)))
 |.xor=>some (true,.lit (.int k (bits .xor k a b)))
 |.andNot=>some (true,.lit (.int k (bits .andNot k a b)))
 |.eql=>some (true,.lit (.bool (a == b)))
 |.neq=>some (true,.lit (.bool (a != b)))
 |.lss=>some (true,.lit (.bool (decide (a<b))))
 |.leq=>some (true,.lit (.bool (decide (a<=b))))
 |.gtr=>some (true,.lit (.bool (decide (b<a))))
 |.geq=>some (true,.lit (.bool (decide (b<=a))))
 |_=>none
def Adq (op:BinOp)(a b:Æ):Option (Bool×PV) :=
 match op with
 |.add=>some (decide (a.size+b.size<=9223372036854775807),.lit (.string (a++b)))
 |.eql=>some (true,.lit (.bool (decide (a=b))))
 |.neq=>some (true,.lit (.bool (!decide (a=b))))
 |.lss=>some (true,.lit (.bool (Op.bytesLess a.toList b.toList)))
 |.geq=>some (true,.lit (.bool (!Op.bytesLess a.toList b.toList)))
 |_=>none
def QW (P:Program)(op:BinOp)(t:TypeId)(x y:PV):Option (Bool×PV) :=
 match x,y with
 |.lit (.int k a),.lit (.int k' b) =>
  match op with
  |.shl=>some (decide (0<=b),.lit (.int k (k.wrap (a*2 ^ min b.toNat k.bits))))
  |.shr=>some (decide (0<=b),.lit (.int k (a.fdiv (2 ^ min b.toNat k.bits))))
  |_=>if k=k' then Adr op k a b else none
 |.lit (.string a),.lit (.string b)=>Adq op a b
 |.lit (.bool a),.lit (.bool b)=>if Adt P t then (match op with|.eql=>some (true,.lit (.bool (a == b)))|.neq=>some (true,.lit (.bool (!(a == b))))|_=>none) else none
 |_,_=>none
section
variable {w:World} {P:Program}
theorem NL (a b:Æ):(a.toList == b.toList)=decide (a=b):=by
 rw [ByteArray.toList_eq,ByteArray.toList_eq]
 obtain⟨⟨x⟩⟩:=a
 obtain⟨⟨y⟩⟩:=b
 rw [Bool.eq_iff_iff];simp
theorem YQ {op:BinOp}{t:TypeId}{x y:Value}{p:PV}(xo yo:Operand)(he:QW P op t (.lit x) (.lit y)=some (true,p)) :
 ∃ v,p=.lit v/\∀ w,(do eqGuard op t xo yo x y;binOp op t x y:Sem Value).run P w=.ok v w:=by
 unfold QW at he
 split at he
 . rename_i k a k' b h1 h2
   obtain rfl:x=.int k a:=by injection h1
   obtain rfl:y=.int k' b:=by injection h2
   split at he
   . simp only [Â,È,Î] at he
     exact⟨_,he.2.symm,fun w=>by simp [eqGuard_at_int,binOp_shl,Op.shift];omega⟩
   . simp only [Â,È,Î] at he
     exact⟨_,he.2.symm,fun w=>by simp [eqGuard_at_int,binOp_shr,Op.shift];omega⟩
   . split at he
     . rename_i hk
       subst hk
       unfold Adr at he
       split at he<;>simp only [Â,È,bne_iff_ne,reduceCtorEq] at he
       all_goals
        refine⟨_,he.2.symm,fun w=>?_⟩
        simp [eqGuard_at_int,binOp_add,binOp_sub,binOp_mul,binOp_quo,binOp_rem,binOp_and,binOp_or,binOp_xor,binOp_andNot,binOp_eql,binOp_neq,binOp_lss,binOp_leq,binOp_gtr,binOp_geq,Op.intArith,Op.intDiv,intBits_and,intBits_or,intBits_xor,intBits_andNot,he.1]
     . cases he
 . rename_i a b h1 h2
   obtain rfl:x=.string a:=by injection h1
   obtain rfl:y=.string b:=by injection h2
   unfold Adq at he
   split at he<;>simp only [Â,È,Î,reduceCtorEq] at he
   all_goals
    refine⟨_,he.2.symm,fun w=>?_⟩
    first
     |(simp [eqGuard_at_string,binOp,Op.stringOp,NL];done)
     |(simp only [eqGuard_at_string,Ñ,Ö,Ê];exact run_string_add_sum w a b he.1)
 . rename_i a b h1 h2
   obtain rfl:x=.bool a:=by injection h1
   obtain rfl:y=.bool b:=by injection h2
   split at he
   . rename_i hb
     have hu:P.underlying t=some .bool:=by unfold Adt at hb;split at hb<;>simp_all
     split at he<;>simp only [Â,È,reduceCtorEq] at he
     all_goals
      refine⟨_,he.2.symm,fun w=>?_⟩
      simp only [eqGuard_at_bool,Ñ,Ö,Ê]
      first|exact run_eql_bool w t a b hu|exact run_neq_bool w t a b hu
   . cases he
 . cases he
theorem YR {op:BinOp}{t:TypeId}{x y p:PV}{c:Bool}(he:QW P op t x y=some (c,p)):∃ a b,x=.lit a/\y=.lit b:=by
 unfold QW at he
 all_goals grind [QW]
end
end Go.Vl
namespace Go.Vl
open Go Go.RowKit
def HW:PV->Bool
 |.lit v=>v.oneCell'
 |.agg _=>false
 |.tup _=>false
 |.mp _=>false
 |.mit _ _=>false
 |.undef=>false
 |_=>true
def Cx:PV->List PV
 |.agg cs=>cs
 |p=>[p]
section
variable {w w':World} {G:Gh} {P:Program} {p:PV} {v:Value} {U:Nat->Nat->Prop} {φ:List Nat}
theorem V.slOne {xs:List (List PV)}{g:Grow}(h:V w U φ (.sl xs g) v):v.oneCell'=true:=by
 cases h<;>rfl
theorem V.oneCell (h:V w U φ p v)(hp:HW p=true):v.oneCell'=true:=by
 cases h with
 |dis _ _ _ _ h=>exact h.slOne
 |_=>simp_all [HW]<;>rfl
theorem V.cells (h:V w U φ p v)(hp:HW p=true∨∃ cs,p=.agg cs):v.cells.size=(Cx p).length/\∀ i (h:i<(Cx p).length),V w U φ (Cx p)[i] (v.cells.getD i Go.undef)/\(v.cells.getD i Go.undef).oneCell'=true:=by
 rcases hp with hp|⟨cs,rfl⟩
 . have h1:=h.oneCell hp
   have e1:Cx p=[p]:=by cases p<;>simp_all [HW,Cx]
   have e2:v.cells = #[v]:=by cases v<;>simp_all [Value.oneCell',Value.cells]
   rw [e1,e2]
   refine⟨rfl,fun i hi=>?_⟩
   obtain rfl:i=0:=by simpa using hi
   exact⟨h,h1⟩
 . cases h with
   |agg _ _ arr hn h h1=>exact⟨hn,fun i hi=>⟨h i hi,h1 i (by rw [hn];exact hi)⟩⟩
end
def Ab5 (k j:Nat):PV->PV
 |.sl xs .own=>.sl xs (.view (.cell k j))
 |.sl xs .full=>.sl xs .full
 |p=>Bg p
def Na:Option (List PV)->Option (List PV)
 |some (.mp _::_)=>none
 |some (.mit _ _::_)=>none
 |x=>x
def NM (cs:List PV):Prop:=∀ p,cs=[p]->p.isM=false
theorem HM {x:Option (List PV)}{cs:List PV}(h:Na x=some cs):x=some cs/\NM cs:=by
 unfold Na at h
 split at h
 . cases h
 . cases h
 . rename_i hn hn2
   refine⟨h,fun p e=>?_⟩
   cases p<;>first|rfl|exact (hn _ [] (by rw [h,e])).elim|exact (hn2 _ _ [] (by rw [h,e])).elim
theorem Lay.cells {w:World}{U:Nat->Nat->Prop}{o:Obj}{arr:Array Value}{cs:List PV}(h:Lay w U o arr cs)(hn:NM cs):∃ T,o=.cells arr T (0,0):=by
 rcases h with h|⟨kvs,_,_,e,_⟩|⟨_,_,e,_⟩
 . exact h.1
 . exact absurd (hn _ e) (by simp [PV.isM])
 . exact absurd (hn _ e) (by simp [PV.isM])
def Ky (P:Program)(t:TypeId)(σ:List (List PV)):PV->Option (Bool×PV)
 |.ptr b o =>
  match LP P t,Ms P t,Na σ[b]? with
  |some true,some n,some cs=>some (decide (o+n<=cs.length),.agg (((cs.drop o).take n).map Bg))
  |some false,_,some cs=>some (decide (o<cs.length),Ab5 b o (cs.getD o .undef))
  |_,_,_=>none
 |.vptr cs o =>
  match LP P t,Ms P t with
  |some true,some n=>some (decide (o+n<=cs.length),.agg (((cs.drop o).take n).map Bg))
  |some false,_=>some (decide (o<cs.length),Bg (cs.getD o .undef))
  |_,_=>none
 |_=>none
def Reads (w:World)(G:Gh)(w':World):Prop:=(∀ b i,G.U b i->Kp w w' b i)/\∀ b∈G.φ,w'.heap[b]?=w.heap[b]?
def K4 (w:World)(G:Gh)(ob:Option Nat)(w':World):Prop:=(∀ b i,G.U b i->Kp w w' b i)/\∀ b,ob=some b->∀ k,G.φ[b]?=some k->w'.heap[k]?=w.heap[k]?
theorem Reads.one {w:World}{G:Gh}{w':World}(h:Reads w G w')(ob:Option Nat):K4 w G ob w':=⟨h.1,fun _ _ k hk=>h.2 k (Ò hk)⟩
def rdB:PV->Option Nat
 |.ptr b _=>some b
 |_=>none
theorem Reads.refl (w:World)(G:Gh):Reads w G w:=⟨fun _ _ _=>Kp.refl,fun _ _=>rfl⟩
def F1 (w:World)(G:Gh)(σ:List (List PV)):PV->Value->Prop
 |.sl xs (.view (.cell k j)),v=>∃ cs b,σ[k]?=some cs/\cs[j]?=some (.sl xs .own)/\G.φ[k]?=some b/\w.cell? ⟨b,j,none⟩=some v
 |p,_=>plain p=true
theorem F1.tmp {w:World}{G:Gh}{σ:List (List PV)}{p:PV}{v:Value}(h:F1 w G σ p v){st:St}(hs:st.σ=σ)(tm:Nat->Value)(t:Nat):DV w G st tm t p v:=by
 subst hs
 unfold F1 at h
 split at h
 . exact h
 . exact E9 h _ _ _ _
theorem F1.plain {w:World}{G:Gh}{σ:List (List PV)}{p:PV}{v:Value}(h:Vl.plain p=true):F1 w G σ p v:=by
 unfold F1
 split
 . simp [Vl.plain] at h
 . exact h
section
variable {w w':World} {G:Gh} {P:Program} {σ:List (List PV)} {p q:PV} {v:Value}
theorem addr_add (b o j:Nat):(⟨b,o,none⟩:Addr).add j=⟨b,o+j,none⟩:=by
 unfold Addr.add;split
 . rename_i h;subst h;rfl
 . rfl
theorem Lr {t:TypeId}{n b o:Nat}(ha:LP P t=some true)(hn:Ms P t=some n)(us:List Value)(hl:us.length=n)(hc:∀ j u,us[j]?=some u->w.cell? ⟨b,o+j,none⟩=some u) :
 (Instr.loadAt t (.pointer (some ⟨b,o,none⟩))).run P w=.ok (.agg us.toArray) w:=by
 subst hl
 unfold LP at ha
 unfold Ms at hn
 cases hu:P.underlying t with
 |none=>rw [hu] at ha;cases ha
 |some d =>
  rw [hu] at ha
  cases hi:P.info? t with
  |none=>rw [hi] at hn;cases hn
  |some i =>
   rw [hi] at hn
   have h1:(isAgg t).run P w=.ok true w:=by
    simp only [isAgg,Ñ,Ý hu,Ê]
    cases d<;>simp_all
   have h2:(sizeOf t).run P w=.ok us.length w:=by
    simp only [ä,Â] at hn
    simp [sizeOf,typeInfo,hi,hn]
   have h3:=run_loadCells_list (P:=P) w ⟨b,o,none⟩ us (fun j u hj=>by rw [addr_add];exact hc j u hj)
   simp only [Instr.loadAt,Instr.sureAddr,loadVar,Ñ,Ö,Ê,h1,ù,h2,h3]
theorem I9 {t:TypeId}{b o:Nat}{u:Value}(ha:LP P t=some false)(hc:w.cell? ⟨b,o,none⟩=some u) :
 (Instr.loadAt t (.pointer (some ⟨b,o,none⟩))).run P w=.ok u w:=by
 unfold LP at ha
 cases hu:P.underlying t with
 |none=>rw [hu] at ha;cases ha
 |some d =>
  rw [hu] at ha
  have h1:(isAgg t).run P w=.ok false w:=by
   simp only [isAgg,Ñ,Ý hu,Ê]
   cases d<;>simp_all
  simp only [Instr.loadAt,Instr.sureAddr,loadVar,Ñ,Ö,Ê,h1,è,Ā,run_load,hc]
theorem Ri {n:Nat}{f:Nat->Value}:∀ (j:Nat) (u:Value),((List.range n).map f)[j]?=some u->j<n/\u=f j:=by
 grind
theorem Xl {cs:List PV}{o n:Nat}{f:Nat->Value}{φ':List Nat}(hb:o+n<=cs.length)(hv:∀ j (h:o+j<cs.length),j<n->V w G.U φ' cs[o+j] (f j)/\(f j).oneCell'=true) :
 V w G.U φ' (.agg (((cs.drop o).take n).map Bg)) (.agg ((List.range n).map f).toArray):=by
 refine .agg _ _ _ (by simp;omega) (fun i hi=>?_) (fun i hi=>?_)
 . have hin:i<n:=by simp at hi;omega
   have e1:(((cs.drop o).take n).map Bg)[i]=Bg (cs[o+i]'(by omega)):=by simp
   have e2:(((List.range n).map f).toArray.getD i Go.undef)=f i:=by simp [hin]
   rw [e1,e2];exact C2 (hv i (by omega) hin).1
 . have hin:i<n:=by simpa using hi
   have e2:(((List.range n).map f).toArray.getD i Go.undef)=f i:=by simp [hin]
   rw [e2];exact (hv i (by omega) hin).2
theorem QV {t:TypeId}(hs:Az w G σ)(hv:V w G.U G.φ q v)(he:Ky P t σ q=some (true,p)) :
 ∃ u,V w G.U G.φ p u/\F1 w G σ p u/\∀ w',K4 w G (rdB q) w'->(Instr.loadAt t v).run P w'=.ok u w':=by
 cases q with
 |ptr b o =>
  cases hv with
  |ptr _ _ _ k hk =>
  simp only [Ky] at he
  split at he
  . rename_i n cs ha hn hcs
    simp only [Â,È,Î] at he
    obtain⟨hb,rfl⟩:=he
    obtain⟨hcs,hnm⟩:=HM hcs
    obtain⟨o',arr,hh,⟨hlay,hsz⟩,hcell⟩:=(hs.blk b k cs hk hcs).blk
    obtain⟨T,rfl⟩:=hlay.cells hnm
    have hcl:∀ j,j<cs.length->w.cell? ⟨k,j,none⟩=some (arr.getD j Go.undef):=by
     intro j hj
     simp only [World.cell?,hh]
     simp [hsz,hj]
    refine⟨.agg ((List.range n).map fun j=>arr.getD (o+j) Go.undef).toArray,?_,F1.plain rfl,fun w' hr=>Lr ha hn _ (by simp) fun j u hj=>?_⟩
    . refine Xl hb fun j hj _=>?_
      obtain⟨u,hu,h1,h2,_⟩:=hcell (o+j) cs[o+j] (Ã hj)
      have e:arr.getD (o+j) Go.undef=u:=by simp [hu]
      rw [e];exact⟨h2,h1⟩
    . obtain⟨hj,rfl⟩:=Ri j u hj
      rw [Č (w:=w) (hr.2 b rfl k hk)]
      exact hcl (o+j) (by omega)
  . rename_i n cs ha hcs
    simp only [Â,È,Î] at he
    obtain⟨hb,rfl⟩:=he
    obtain⟨hcs,hnm⟩:=HM hcs
    obtain⟨o',arr,hh,⟨hlay,hsz⟩,hcell⟩:=(hs.blk b k cs hk hcs).blk
    obtain⟨T,rfl⟩:=hlay.cells hnm
    obtain⟨u,hu,h1,h2,h3⟩:=hcell o cs[o] (Ã hb)
    have hcu:w.cell? ⟨k,o,none⟩=some u:=by simp only [World.cell?,hh];simpa using hu
    refine⟨u,?_,?_,fun w' hr=>I9 ha ((Č (w:=w) (hr.2 b rfl k hk)).trans hcu)⟩
    . have e:cs.getD o .undef=cs[o]:=by simp [hb]
      rw [e]
      unfold Ab5
      split
      . rename_i xs hx;rw [hx] at h2;exact h2.tag (by simp) (by simp)
      . rename_i xs hx;rw [hx] at h2;exact h2
      . exact C2 h2
    . have e:cs.getD o .undef=cs[o]:=by simp [hb]
      rw [e]
      unfold Ab5
      split
      . rename_i xs hx
        exact⟨cs,k,hcs,by rw [Ã hb,hx],hk,hcu⟩
      . exact F1.plain rfl
      . exact F1.plain (Br _)
  . cases he
 |vptr cs o =>
  cases hv with
  |vptr _ _ b o' _ us hU hw h1 hvs =>
  simp only [Ky] at he
  have hvs':∀ j (h:j<cs.length),V w G.U G.φ cs[j] (us j):=fun j h=>(hvs j h).mono (fun _ _ h=>⟨h,Kp.refl⟩) (fun k x hk=>by simp at hk)
  split at he
  . rename_i n ha hn
    simp only [Â,È,Î] at he
    obtain⟨hb,rfl⟩:=he
    refine⟨.agg ((List.range n).map fun j=>us (o+j)).toArray,?_,F1.plain rfl,fun w' hr=>Lr ha hn _ (by simp) fun j u hj=>?_⟩
    . exact Xl hb fun j hj _=>⟨hvs' _ hj,h1 _ hj⟩
    . obtain⟨hj,rfl⟩:=Ri j u hj
      rw [Ĳ,(hr.1 _ _ (hU _ (by omega))).1]
      exact hw _ (by omega)
  . rename_i ha
    simp only [Â,È,Î] at he
    obtain⟨hb,rfl⟩:=he
    have e:cs.getD o .undef=cs[o]:=by simp [hb]
    refine⟨us o,by rw [e];exact C2 (hvs' o hb),F1.plain (Br _),fun w' hr=>I9 ha ((hr.1 _ _ (hU _ hb)).1.trans (hw _ hb))⟩
  . cases he
 |_=>simp [Ky] at he
end
end Go.Vl
namespace Go.Vl
open Go Go.RowKit
def HJ (P:Program)(s f:Nat):PV->Option (Bool×PV)
 |.ptr b o=>match YI P s f with|some (off,n,_)=>some (decide (0<n),.ptr b (o+off))|none=>none
 |.vptr cs o=>match YI P s f with|some (off,n,_)=>some (decide (0<n),.vptr cs (o+off))|none=>none
 |_=>none
def LH (P:Program)(t:TypeId):PV->PV->Option (Bool×PV)
 |.sl xs _,.lit (.int _ i)=>match X6 P t with|some (n,_)=>some (decide (0<=i/\i<(xs.length:Int)/\(xs.getD i.toNat []).length=n),.vptr (xs.getD i.toNat []) 0)|none=>none
 |.ptr b o,.lit (.int _ i)=>match arT P t with|some (m,k,_)=>some (decide (0<=i/\i<(m:Int)),.ptr b (o+i.toNat*k))|none=>none
 |.vptr cs o,.lit (.int _ i)=>match arT P t with|some (m,k,_)=>some (decide (0<=i/\i<(m:Int)),.vptr cs (o+i.toNat*k))|none=>none
 |.asl b o n _,.lit (.int _ i)=>match X6 P t with|some (k,_)=>some (decide (0<=i/\i<(n:Int)),.ptr b (o+i.toNat*k))|none=>none
 |_,_=>none
def XC (cs:List PV)(off n:Nat)(a:Bool):PV:=if a then .agg (((cs.drop off).take n).map Bg) else Bg (cs.getD off .undef)
def TD (P:Program)(t:TypeId):PV->PV->Option (Bool×PV)
 |.lit (.string s),.lit (.int _ i)=>if Ll P t then some (decide (0<=i/\i<(s.size:Int)),.lit (.int .u8 (s.data.toList.getD i.toNat 0).toNat)) else none
 |.agg cs,.lit (.int _ i)=>match arT P t with
  |some (m,k,a)=>some (decide (0<=i/\i<(m:Int)/\i.toNat*k+k<=cs.length/\0<k),XC cs (i.toNat*k) k a)
  |none=>none
 |_,_=>none
def TE (P:Program)(s f:Nat):PV->Option (Bool×PV)
 |.agg cs=>match YI P s f with|some (off,n,a)=>some (decide (off+n<=cs.length/\0<n),XC cs off n a)|none=>none
 |_=>none
def Ya (d:Int):Option PV->Option Int
 |none=>some d
 |some (.lit (.int _ i))=>some i
 |_=>none
def T7 (P:Program)(t:TypeId)(x:PV)(lo hi mx:Option PV):Option (Bool×PV) :=
 match x with
 |.lit (.string s) =>
  match Ya 0 lo,Ya s.size hi,mx with
  |some l,some h,none=>if Ll P t then some (decide (0<=l/\l<=h/\h<=(s.size:Int)),.lit (.string (s.extract l.toNat h.toNat))) else none
  |_,_,_=>none
 |.sl xs _ =>
  match Ya 0 lo,Ya xs.length hi,X6 P t with
  |some l,some h,some (n,_) =>
   match mx with
   |none=>some (decide (0<=l/\l<=h/\h<=(xs.length:Int))&&xs.all (fun x=>x.length == n),.sl ((xs.take h.toNat).drop l.toNat) .shared)
   |some (.lit (.int _ m))=>if hi.isSome then some (decide (0<=l/\l<=h/\h<=(xs.length:Int)/\m=h)&&xs.all (fun x=>x.length == n),.sl ((xs.take h.toNat).drop l.toNat) .full) else none
   |_=>none
  |_,_,_=>none
 |.vptr cs 0 =>
  match Ya 0 lo,Ya cs.length hi,arT P t,mx with
  |some l,some h,some (m,1,false),none=>some (decide (0<=l/\l<=h/\h<=(cs.length:Int)/\m=cs.length/\m<=1000000),.sl (((cs.map fun c=>[c]).take h.toNat).drop l.toNat) .shared)
  |_,_,_,_=>none
 |.asl b o n cap =>
  match Ya 0 lo,Ya n hi,X6 P t,mx with
  |some l,some h,some (k,_),none=>some (decide (0<=l/\l<=h/\h<=(n:Int)/\l<(cap:Int)),.asl b (o+l.toNat*k) (h.toNat-l.toNat) (cap-l.toNat))
  |_,_,_,_=>none
 |_=>none
def Aan (P:Program)(t:TypeId):PV->Option (Bool×PV)
 |.lit (.string s)=>if Ll P t then some (true,.lit (.int .i64 s.size)) else none
 |.sl xs _=>match X6 P t with|some _=>some (true,.lit (.int .i64 xs.length))|none=>none
 |.asl _ _ n _=>match X6 P t with|some _=>some (true,.lit (.int .i64 n))|none=>none
 |.prv xs=>match X6 P t with|some _=>some (true,.lit (.int .i64 xs.length))|none=>none
 |_=>none
section
variable {w w':World} {G:Gh} {P:Program} {p q r:PV} {v u:Value}
theorem S0 {s f off n:Nat}{a:Bool}(h:YI P s f=some (off,n,a)):∃ fs fd,P.underlying s=some (.struct fs)/\fs[f]?=some fd/\fd.offset=off/\Ms P fd.type=some n/\LP P fd.type=some a:=by
 grind [YI]
theorem EM {t n:Nat}(h:Ms P t=some n)(w:World):(sizeOf t).run P w=.ok n w:=by
 unfold Ms at h
 cases hi:P.info? t with
 |none=>rw [hi] at h;cases h
 |some i=>rw [hi] at h;simp only [ä,Â] at h;simp [sizeOf,typeInfo,hi,h]
theorem Rv {t:Nat}{a:Bool}(h:LP P t=some a)(w:World):(isAgg t).run P w=.ok a w:=by
 unfold LP at h
 cases hu:P.underlying t with
 |none=>rw [hu] at h;cases h
 |some d =>
  rw [hu] at h
  simp only [ä,Â] at h
  simp only [isAgg,Ñ,Ý hu,Ê]
  cases d<;>simp_all
theorem Py {s f:Nat}(hv:V w G.U G.φ q v)(he:HJ P s f q=some (true,p)):∃ u,V w G.U G.φ p u/\plain p=true/\∀ w',(Instr.fieldAt s v f).run P w'=.ok u w':=by
 have key:∀ {b o off n a},YI P s f=some (off,n,a)->0<n->∀ w',(Instr.fieldAt s (.pointer (some ⟨b,o,none⟩)) f).run P w'=.ok (.pointer (some ⟨b,o+off,none⟩)) w':=by
  intro b o off n a hf hn w'
  obtain⟨fs,fd,h1,h2,h3,h4,_⟩:=S0 hf
  simp only [Instr.fieldAt,Ñ,Ý h1,Ê,h2,Instr.sureAddr,Ö,fieldPlace,EM h4,ġ]
  rw [Ä (by omega)]
  simp only [Ê,h3,addr_add]
 cases q with
 |ptr b o =>
  cases hv with
  |ptr _ _ _ k hk =>
  simp only [HJ] at he
  split at he
  . rename_i off n a hf
    simp only [Â,È,Î] at he
    obtain⟨hn,rfl⟩:=he
    exact⟨_,.ptr _ _ _ _ hk,rfl,key hf hn⟩
  . cases he
 |vptr cs o =>
  cases hv with
  |vptr _ _ b o' _ us hU hw h1 hvs =>
  simp only [HJ] at he
  split at he
  . rename_i off n a hf
    simp only [Â,È,Î] at he
    obtain⟨hn,rfl⟩:=he
    refine⟨_,?_,rfl,key hf hn⟩
    have:=V.vptr (φ:=G.φ) cs b o' (o+off) us hU hw h1 hvs
    rw [<- Ĳ] at this;exact this
  . cases he
 |_=>simp [HJ] at he
theorem GS {t n m:Nat}(h:X6 P t=some (n,m)):∃ e i,P.underlying t=some (.slice e)/\P.info? e=some i/\i.size=n/\i.bytes=m:=by
 unfold X6 at h
 split at h
 . rename_i e hu
   cases hi:P.info? e with
   |none=>rw [hi] at h;cases h
   |some i=>rw [hi] at h;simp only [ä,Â,È] at h;exact⟨e,i,hu,hi,h.1,h.2⟩
 . cases h
theorem NQ {t m k:Nat}{a:Bool}(h:arT P t=some (m,k,a)):∃ e,P.underlying t=some (.array m e)/\Ms P e=some k/\LP P e=some a:=by
 grind [arT]
theorem Px {t:TypeId}(hv:V w G.U G.φ q v)(hu:V w G.U G.φ r u)(he:LH P t q r=some (true,p)):∃ x,V w G.U G.φ p x/\plain p=true/\∀ w',(Instr.indexAt t v u).run P w'=.ok x w':=by
 unfold LH at he
 split at he
 . rename_i xs g k i
   cases hu with
   |lit _ _ =>
   split at he
   . rename_i n m hs
     simp only [Â,È,Î] at he
     obtain⟨⟨h0,hl,hlen⟩,rfl⟩:=he
     obtain⟨e,inf,h1,h2,h3,h4⟩:=GS hs
     have hsz:Ms P e=some n:=by simp [Ms,h2,h3]
     cases hv with
     |nil=>simp at hl;omega
     |emp=>simp at hl;omega
     |sl _ _ _ b o sz cap us hc hm hss hU hw h1' hvs hf hg =>
     have hi:i.toNat<xs.length:=by omega
     have e1:xs.getD i.toNat []=xs[i.toNat]:=by simp [hi]
     rw [e1] at hlen ⊢
     have hsn:sz=n:=by rw [<- hss i.toNat hi,hlen]
     subst hsn
     have hl':=hss i.toNat hi
     refine⟨.pointer (some ⟨b,(o+i.toNat*sz)+0,none⟩),?_,rfl,fun w'=>?_⟩
     . refine .vptr _ _ b (o+i.toNat*sz) 0 (fun j=>us i.toNat j) (fun j hj=>hU _ _ hi (by omega)) (fun j hj=>hw _ _ hi (by omega)) (fun j hj=>h1' _ _ hi (by omega)) (fun j hj=>hvs _ hi j hj)
     . simp only [Instr.indexAt,asIntOf,Ñ,Ö,Ê,Ý h1,ġ]
       rw [Ç ⟨h0,hl⟩]
       simp only [EM hsz,Ê,addr_add,Nat.add_zero]
   . cases he
 . rename_i b o k i
   cases hu with
   |lit _ _ =>
   cases hv with
   |ptr _ _ _ k' hk =>
   split at he
   . rename_i m n a ha
     simp only [Â,È,Î] at he
     obtain⟨⟨h0,hl⟩,rfl⟩:=he
     obtain⟨e,h1,h2,_⟩:=NQ ha
     refine⟨_,.ptr _ _ _ _ hk,rfl,fun w'=>?_⟩
     simp only [Instr.indexAt,asIntOf,Ñ,Ö,Ê,Ý h1,ġ,Instr.sureAddr]
     rw [Ç ⟨h0,hl⟩]
     simp only [EM h2,Ê,addr_add]
   . cases he
 . rename_i cs o k i
   cases hu with
   |lit _ _ =>
   cases hv with
   |vptr _ _ b o' _ us hU hw h1' hvs =>
   split at he
   . rename_i m n a ha
     simp only [Â,È,Î] at he
     obtain⟨⟨h0,hl⟩,rfl⟩:=he
     obtain⟨e,h1,h2,_⟩:=NQ ha
     refine⟨.pointer (some ⟨b,o'+(o+i.toNat*n),none⟩),.vptr _ _ _ _ _ us hU hw h1' hvs,rfl,fun w'=>?_⟩
     simp only [Instr.indexAt,asIntOf,Ñ,Ö,Ê,Ý h1,ġ,Instr.sureAddr]
     rw [Ç ⟨h0,hl⟩]
     simp only [EM h2,Ê,addr_add,Ĳ]
   . cases he
 . rename_i b o n cap k i
   cases hu with
   |lit _ _ =>
   cases hv with
   |asl _ _ _ _ _ k' hk hc hm =>
   split at he
   . rename_i m nb hs
     simp only [Â,È,Î] at he
     obtain⟨⟨h0,hl⟩,rfl⟩:=he
     obtain⟨e,inf,h1,h2,h3,h4⟩:=GS hs
     have hsz:Ms P e=some m:=by simp [Ms,h2,h3]
     refine⟨_,.ptr _ _ _ _ hk,rfl,fun w'=>?_⟩
     simp only [Instr.indexAt,asIntOf,Ñ,Ö,Ê,Ý h1,ġ]
     rw [Ç ⟨h0,hl⟩]
     simp only [EM hsz,Ê,addr_add]
   . cases he
 . cases he
theorem U7 {e off n:Nat}{a:Bool}{cs:List PV}{arr:Array Value}(hn:Ms P e=some n)(ha:LP P e=some a)(hv:V w G.U G.φ (.agg cs) (.agg arr))(hb:off+n<=cs.length)(h0:0<n) :
 ∃ x,V w G.U G.φ (XC cs off n a) x/\plain (XC cs off n a)=true/\∀ w',(part e arr off).run P w'=.ok x w':=by
 cases hv with
 |agg _ _ _ hsz h h1 =>
 cases a with
 |true =>
  refine⟨.agg (arr.extract off (off+n)),?_,rfl,fun w'=>?_⟩
  . have h2:=Xl (w:=w) (G:=G) (φ':=G.φ) (cs:=cs) (o:=off) (n:=n) (f:=fun j=>arr.getD (off+j) Go.undef) hb (fun j hj _=>⟨h _ hj,h1 _ (by omega)⟩)
    have e1:((List.range n).map fun j=>arr.getD (off+j) Go.undef).toArray=arr.extract off (off+n):=by
     apply Array.ext
     . simp;omega
     . intro i h3 h4
       simp at h3
       have:off+i<arr.size:=by omega
       simp [this]
    rw [e1] at h2
    exact h2
  . simp only [part,Ñ,Rv ha,Ê,ù,EM hn,Ö]
 |false =>
  have ho:off<arr.size:=by omega
  refine⟨arr[off],?_,Br _,fun w'=>?_⟩
  . have h2:=h off (by omega)
    have e1:cs.getD off .undef=cs[off]'(by omega):=by simp [List.getD,Ã (show off<cs.length by omega)]
    have e2:arr.getD off Go.undef=arr[off]:=by simp [ho]
    rw [e2] at h2
    show V w G.U G.φ (Bg (cs.getD off .undef)) _
    rw [e1];exact C2 h2
  . simp only [part,Ñ,Rv ha,Ê,è,Ā,ã ho,Ö]
theorem Vu {t:TypeId}(hv:V w G.U G.φ q v)(hu:V w G.U G.φ r u)(he:TD P t q r=some (true,p)):∃ x,V w G.U G.φ p x/\plain p=true/\∀ w',(Instr.index t v u).run P w'=.ok x w':=by
 unfold TD at he
 split at he
 . rename_i s k i
   cases hu with
   |lit _ _ =>
   cases hv with
   |lit _ _ =>
   split at he
   . rename_i hs
     simp only [Â,È,Î] at he
     obtain⟨⟨h0,hl⟩,rfl⟩:=he
     have h1:P.underlying t=some .string:=by unfold Ll at hs;split at hs<;>simp_all
     refine⟨_,.lit _ _,rfl,fun w'=>?_⟩
     have hi:i.toNat<s.size:=by omega
     have hi2:i.toNat<s.data.toList.length:=by simpa using hi
     simp only [Instr.index,asIntOf,Ñ,Ö,Ê,Ý h1,h0,ù]
     rw [getElem?_pos s i.toNat hi]
     simp only [Ö]
     have e:s.data.toList.getD i.toNat 0=s[i.toNat]:=by
      rw [List.getD,Ã hi2];rfl
     rw [e]
   . cases he
 . rename_i cs k i
   cases hu with
   |lit _ _ =>
   split at he
   . rename_i m n a ha
     simp only [Â,È,Î] at he
     obtain⟨⟨h0,hl,hb,hn⟩,rfl⟩:=he
     obtain⟨e,h1,h2,h3⟩:=NQ ha
     cases hv with
     |agg _ _ arr hsz h h1' =>
     obtain⟨x,hx1,hx2,hx3⟩:=U7 (e:=e) h2 h3 (.agg _ _ arr hsz h h1') hb hn
     refine⟨x,hx1,hx2,fun w'=>?_⟩
     simp only [Instr.index,asIntOf,Ñ,Ö,Ê,Ý h1,ġ]
     rw [Ç ⟨h0,hl⟩]
     simp only [EM h2,Ê,hx3]
   . cases he
 . cases he
theorem Vv {s f:Nat}(hv:V w G.U G.φ q v)(he:TE P s f q=some (true,p)):∃ x,V w G.U G.φ p x/\plain p=true/\∀ w',(Instr.field s v f).run P w'=.ok x w':=by
 unfold TE at he
 split at he
 . rename_i cs
   split at he
   . rename_i off n a hf
     simp only [Â,È,Î] at he
     obtain⟨⟨hb,hn⟩,rfl⟩:=he
     obtain⟨fs,fd,h1,h2,h3,h4,h5⟩:=S0 hf
     cases hv with
     |agg _ _ arr hsz h h1' =>
     obtain⟨x,hx1,hx2,hx3⟩:=U7 (e:=fd.type) h4 h5 (.agg _ _ arr hsz h h1') hb hn
     refine⟨x,hx1,hx2,fun w'=>?_⟩
     simp only [Instr.field,Ñ,Ý h1,Ê,h2,asAgg,Ö,h3,hx3]
   . cases he
 . cases he
theorem YN {t ty:TypeId}(hv:V w G.U G.φ q v)(he:Aan P t q=some (true,p)):∃ x,V w G.U G.φ p x/\plain p=true/\∀ w',(Builtin.len_ #[t] ty #[v]).run P w'=.ok x w':=by
 unfold Aan at he
 split at he
 . rename_i s
   cases hv with
   |lit _ _ =>
   split at he
   . rename_i hs
     have h1:P.underlying t=some .string:=by unfold Ll at hs;split at hs<;>simp_all
     simp only [Â,È,õ] at he
     subst he
     exact⟨_,.lit _ _,rfl,fun w'=>by simp [Builtin.len_,Ý h1,goInt]⟩
   . cases he
 . rename_i xs g
   split at he
   . rename_i n hs
     obtain⟨e,i,h1,_⟩:=GS (n:=n.1) (m:=n.2) hs
     simp only [Â,È,õ] at he
     subst he
     cases hv with
     |nil=>exact⟨_,.lit _ _,rfl,fun w'=>by simp [Builtin.len_,Ý h1,goInt]⟩
     |emp=>exact⟨_,.lit _ _,rfl,fun w'=>by simp [Builtin.len_,Ý h1,goInt]⟩
     |sl _ _ _ b o sz cap us hc hm hss hU hw h1' hvs hf hg=>exact⟨_,.lit _ _,rfl,fun w'=>by simp [Builtin.len_,Ý h1,goInt]⟩
   . cases he
 . rename_i b o n cap
   split at he
   . rename_i m hs
     obtain⟨e,i,h1,_⟩:=GS (n:=m.1) (m:=m.2) hs
     simp only [Â,È,õ] at he
     subst he
     cases hv with
     |asl=>exact⟨_,.lit _ _,rfl,fun w'=>by simp [Builtin.len_,Ý h1,goInt]⟩
   . cases he
 . rename_i xs
   split at he
   . rename_i m hs
     obtain⟨e,i,h1,_⟩:=GS (n:=m.1) (m:=m.2) hs
     simp only [Â,È,õ] at he
     subst he
     cases hv with
     |prv=>exact⟨_,.lit _ _,rfl,fun w'=>by simp [Builtin.len_,Ý h1,goInt]⟩
   . cases he
 . cases he
end
end Go.Vl
namespace Go.Vl
open Go Go.RowKit
section
variable {w w':World} {G:Gh} {P:Program} {p q r:PV} {v u:Value} {U:Nat->Nat->Prop} {φ:List Nat}
def VO (w:World)(U:Nat->Nat->Prop)(φ:List Nat):Option PV->Option Value->Prop
 |none,none=>True
 |some p,some v=>V w U φ p v
 |_,_=>False
theorem NP {d l:Int}{lo:Option PV}{lov:Option Value}(h:VO w U φ lo lov)(hb:Ya d lo=some l):(lov=none/\lo=none/\l=d)∨∃ k,lov=some (.int k l)/\lo.isSome=true:=by
 unfold Ya at hb
 split at hb
 . cases lov with
   |none=>exact .inl ⟨rfl,rfl,by simpa using hb.symm⟩
   |some v=>exact h.elim
 . rename_i k i
   cases lov with
   |none=>exact h.elim
   |some v =>
    have hv:V w U φ (.lit (.int k i)) v:=h
    cases hv with
    |lit _ _ =>
    obtain rfl:i=l:=by simpa using hb
    exact .inr ⟨k,rfl,rfl⟩
 . cases hb
theorem DW {isS:Bool}{len cap:Nat}{lo hi:Option PV}{lov hiv:Option Value}{l h:Int}(hlo:VO w U φ lo lov)(hhi:VO w U φ hi hiv)(hl:Ya 0 lo=some l)(hh:Ya len hi=some h)(h0:0<=l)(h1:l<=h)(h2:h<=len)(hc:len<=cap)(w':World) :
 (Instr.sliceBounds isS len cap lov hiv none).run P w'=.ok (l.toNat,h.toNat,cap) w':=by
 rcases NP hlo hl with⟨rfl,_,rfl⟩|⟨k,rfl,_⟩<;>rcases NP hhi hh with⟨rfl,_,rfl⟩|⟨k',rfl,_⟩
 . simp [Instr.sliceBounds]
 . simp only [Instr.sliceBounds,Ñ,Ö,Ê]
   rw [ĝ _ _ _ _ _ (by omega) (by omega)]
   simp
 . simp only [Instr.sliceBounds,Ñ,Ö,Ê]
   rw [ĝ _ _ _ _ _ (by omega) (by omega)]
   simp
 . simp only [Instr.sliceBounds,Ñ,Ö,Ê]
   rw [ĝ _ _ _ _ _ (by omega) (by omega)]
   simp only [Ê]
   rw [ĝ _ _ _ _ _ (by omega) (by omega)]
   simp
theorem HT {len cap:Nat}{lo hi:Option PV}{lov hiv:Option Value}{l h m:Int}{k:IntKind}(hlo:VO w U φ lo lov)(hhi:VO w U φ hi hiv)(hl:Ya 0 lo=some l)(hh:Ya len hi=some h)(hs:hi.isSome=true)(h0:0<=l)(h1:l<=h)(h2:h<=m)(hc:m<=cap)(w':World) :
 (Instr.sliceBounds true len cap lov hiv (some (.int k m))).run P w'=.ok (l.toNat,h.toNat,m.toNat) w':=by
 rcases NP hhi hh with⟨_,rfl,_⟩|⟨k',rfl,_⟩
 . cases hs
 . rcases NP hlo hl with⟨rfl,_,rfl⟩|⟨k2,rfl,_⟩
   . simp only [Instr.sliceBounds,Ñ]
     rw [ĝ _ _ _ _ _ (by omega) (by omega)]
     simp only [Ê]
     rw [ĝ _ _ _ _ _ (by omega) (by omega)]
     simp
   . simp only [Instr.sliceBounds,Ñ]
     rw [ĝ _ _ _ _ _ (by omega) (by omega)]
     simp only [Ê]
     rw [ĝ _ _ _ _ _ (by omega) (by omega)]
     simp only [Ê]
     rw [ĝ _ _ _ _ _ (by omega) (by omega)]
     simp
theorem Abi {xs:List (List PV)}{g':Grow}{b o sz cap:Nat}{us:Nat->Nat->Value}{l h m:Nat}(hlh:l<=h)(hh:h<=xs.length)(hm:h<=m)(hm2:m<=cap)(hcap:cap<=9223372036854775807)
 (hs:∀ i (h:i<xs.length),(xs[i]).length=sz) (hU:∀ i j,i<xs.length->j<sz->G.U b (o+i*sz+j))
 (hw:∀ i j,i<xs.length->j<sz->w.cell? ⟨b,o+i*sz+j,none⟩=some (us i j)) (h1:∀ i j,i<xs.length->j<sz->(us i j).oneCell'=true)
 (hv:∀ i (h:i<xs.length) j (hj:j<(xs[i]).length),V w G.U [] xs[i][j] (us i j)) (hf:g'=.full->m=h) (hn:g'≠.nil) :
 V w G.U φ (.sl ((xs.take h).drop l) g') (.slice (some (if m=l then ⟨b,o,none⟩ else ⟨b,o+l*sz,none⟩)) (h-l) (m-l)):=by
 have hlen:((xs.take h).drop l).length=h-l:=by simp;omega
 have hget:∀ i (hi:i<((xs.take h).drop l).length),((xs.take h).drop l)[i]=xs[l+i]'(by omega):=by
  intro i hi;simp
 by_cases e:m=l
 . have e2:h=l:=by omega
   have e3:(xs.take h).drop l=[]:=å (by omega)
   rw [Ç e]
   have:=V.sl (w:=w) (U:=G.U) φ ((xs.take h).drop l) g' b o sz (m-l) (fun _ _=>Go.undef) (by omega) (by omega) (fun i hi=>by omega) (fun i j hi=>by omega) (fun i j hi=>by omega) (fun i j hi=>by omega) (fun i hi=>by omega) (fun e4=>by have:=hf e4;omega) hn
   rw [hlen] at this;exact this
 . rw [Ä e]
   have:=V.sl (w:=w) (U:=G.U) φ ((xs.take h).drop l) g' b (o+l*sz) sz (m-l) (fun i j=>us (l+i) j) (by omega) (by omega) (fun i hi=>by rw [hget i hi];exact hs _ _)
    (fun i j hi hj=>by have:=hU (l+i) j (by omega) hj;rw [ó,<- Ĳ] at this;exact this)
    (fun i j hi hj=>by have:=hw (l+i) j (by omega) hj;rw [ó,<- Ĳ] at this;exact this)
    (fun i j hi hj=>h1 (l+i) j (by omega) hj) (fun i hi j hj=>by
     have e1:=hget i hi
     have hj':j<(xs[l+i]'(by omega)).length:=by rw [<- e1];exact hj
     have:=hv (l+i) (by omega) j hj'
     simp only [e1];exact this) (fun e4=>by have:=hf e4;omega) hn
   rw [hlen] at this;exact this
theorem Vr {t:TypeId}{lo hi mx:Option PV}{lov hiv mxv:Option Value}(hv:V w G.U G.φ q v)(hlo:VO w G.U G.φ lo lov)(hhi:VO w G.U G.φ hi hiv)(hmx':VO w G.U G.φ mx mxv)(he:T7 P t q lo hi mx=some (true,p)) :
 ∃ x,V w G.U G.φ p x/\plain p=true/\∀ w',(Instr.sliceAt t v lov hiv mxv).run P w'=.ok x w':=by
 unfold T7 at he
 split at he
 . rename_i s
   cases hv with
   |lit _ _ =>
   split at he
   . rename_i l h hl hh
     have hmv:mxv=none:=by
      cases mxv with
      |none=>rfl
      |some z=>exact hmx'.elim
     subst hmv
     split at he
     . rename_i hs
       have ht:P.underlying t=some .string:=by unfold Ll at hs;split at hs<;>simp_all
       simp only [Â,È,Î] at he
       obtain⟨⟨h0,h1,h2⟩,rfl⟩:=he
       refine⟨_,.lit _ _,rfl,fun w'=>?_⟩
       have hb:=DW (P:=P) (isS:=false) (len:=s.size) (cap:=s.size) hlo hhi hl hh h0 h1 h2 (à _) w'
       simp [Instr.sliceAt,Ý ht,Instr.slice,hb]
     . cases he
   . cases he
 . rename_i xs g
   split at he
   . rename_i l h n nb hl hh hs
     obtain⟨e,i,ht,hi1,hi2,_⟩:=GS (n:=n) (m:=nb) hs
     have hsz:Ms P e=some n:=by simp [Ms,hi1,hi2]
     have szOf:∀ {sz:Nat},xs≠[]->(∀ i (h:i<xs.length),(xs[i]).length=sz)->(xs.all fun x=>x.length == n)=true->sz=n:=by
      grind [List.length_pos_iff,List.all_eq_true,List.getElem_mem]
     have run:∀ {A:Option Addr} {cap m:Nat} {mxv:Option Value},(∀ w',(Instr.sliceBounds true xs.length cap lov hiv mxv).run P w'=.ok (l.toNat,h.toNat,m) w') ->
      ∀ w',(Instr.sliceAt t (.slice A xs.length cap) lov hiv mxv).run P w'=.ok (.slice (if m=l.toNat then A else A.map (·.add (l.toNat*n))) (h.toNat-l.toNat) (m-l.toNat)) w':=by
      intro A cap m mxv hb w'
      simp only [Instr.sliceAt,Ñ,Ý ht,Ê,Instr.slice,hb w',EM hsz,Ö]
     split at he
     . have hmv:mxv=none:=by
        cases mxv with
        |none=>rfl
        |some z=>exact hmx'.elim
       subst hmv
       simp only [Â,È,Å,Î] at he
       obtain⟨⟨⟨h0,h1,h2⟩,hall⟩,rfl⟩:=he
       cases hv with
       |nil =>
        simp only [í,Int.natCast_zero] at h2
        have e1:(([]:List (List PV)).take h.toNat).drop l.toNat=[]:=by simp
        rw [e1]
        refine⟨_,?_,rfl,run (A:=none) (cap:=0) (m:=0) fun w'=>DW (isS:=true) (len:=0) (cap:=0) hlo hhi hl hh h0 h1 h2 (à _) w'⟩
        have e3:h.toNat=0:=by omega
        have e4:l.toNat=0:=by omega
        rw [e3,e4]
        exact .nil _ _
       |emp _ _ b o k hg =>
        simp only [í,Int.natCast_zero] at h2
        have e1:(([]:List (List PV)).take h.toNat).drop l.toNat=[]:=by simp
        rw [e1]
        refine⟨_,?_,rfl,run (A:=some ⟨b,o,some k⟩) (cap:=0) (m:=0) fun w'=>DW (isS:=true) (len:=0) (cap:=0) hlo hhi hl hh h0 h1 h2 (à _) w'⟩
        have e3:h.toNat=0:=by omega
        have e4:l.toNat=0:=by omega
        rw [e3,e4]
        exact .emp _ _ _ _ _ (by simp)
       |sl _ _ _ b o sz cap us hc hm hss hU hw h1' hvs hf hg =>
        refine⟨_,?_,rfl,run fun w'=>DW (isS:=true) hlo hhi hl hh h0 h1 h2 hc w'⟩
        have hsub:=Abi (w:=w) (G:=G) (φ:=G.φ) (g':=.shared) (us:=us) (l:=l.toNat) (h:=h.toNat) (m:=cap) (by omega) (by omega) (by omega) (à _) hm hss hU hw h1' hvs (by simp) (by simp)
        by_cases hne:xs=[]
        . grind [addr_add]
        . have:=szOf hne hss hall
          subst this
          have e2:(if cap=l.toNat then some (⟨b,o,none⟩:Addr) else (some (⟨b,o,none⟩:Addr)).map (·.add (l.toNat*sz)))=some (if cap=l.toNat then ⟨b,o,none⟩ else ⟨b,o+l.toNat*sz,none⟩):=by
           split<;>simp [addr_add]
          rw [e2];exact hsub
     . rename_i k m
       split at he
       . rename_i hsome
         simp only [Â,È,Å,Î] at he
         obtain⟨⟨⟨h0,h1,h2,rfl⟩,hall⟩,rfl⟩:=he
         obtain⟨rfl⟩:mxv=some (.int k m):=by
          cases mxv with
          |none=>exact hmx'.elim
          |some z=>cases (show V w G.U G.φ (.lit (.int k m)) z from hmx') with|lit _ _=>rfl
         cases hv with
         |nil =>
          simp only [í,Int.natCast_zero] at h2
          have e1:(([]:List (List PV)).take m.toNat).drop l.toNat=[]:=by simp
          rw [e1]
          refine⟨_,?_,rfl,run (A:=none) (cap:=0) (m:=m.toNat) fun w'=>HT (len:=0) (cap:=0) hlo hhi hl hh hsome h0 h1 (Į _) h2 w'⟩
          have e3:m.toNat=0:=by omega
          have e4:l.toNat=0:=by omega
          rw [e3,e4]
          exact .nil _ _
         |emp _ _ b o k hg =>
          simp only [í,Int.natCast_zero] at h2
          have e1:(([]:List (List PV)).take m.toNat).drop l.toNat=[]:=by simp
          rw [e1]
          refine⟨_,?_,rfl,run (A:=some ⟨b,o,some k⟩) (cap:=0) (m:=m.toNat) fun w'=>HT (len:=0) (cap:=0) hlo hhi hl hh hsome h0 h1 (Į _) h2 w'⟩
          have e3:m.toNat=0:=by omega
          have e4:l.toNat=0:=by omega
          rw [e3,e4]
          exact .emp _ _ _ _ _ (by simp)
         |sl _ _ _ b o sz cap us hc hm hss hU hw h1' hvs hf hg =>
          refine⟨_,?_,rfl,run fun w'=>HT hlo hhi hl hh hsome h0 h1 (Į _) (by omega) w'⟩
          have hsub:=Abi (w:=w) (G:=G) (φ:=G.φ) (g':=.full) (us:=us) (l:=l.toNat) (h:=m.toNat) (m:=m.toNat) (by omega) (by omega) (by omega) (by omega) hm hss hU hw h1' hvs (fun _=>rfl) (by simp)
          by_cases hne:xs=[]
          . grind [addr_add]
          . grind [addr_add]
       . cases he
     . cases he
   . cases he
 . rename_i cs
   split at he
   . rename_i l h m hl hh ha
     obtain⟨e,ht,hsz,_⟩:=NQ ha
     simp only [Â,È,Î] at he
     obtain⟨⟨h0,h1,h2,hm,hmx⟩,rfl⟩:=he
     have hmv:mxv=none:=by
      cases mxv with
      |none=>rfl
      |some z=>exact hmx'.elim
     subst hmv
     subst hm
     cases hv with
     |vptr _ _ b o' _ us hU hw h1' hvs =>
     refine⟨.slice (some (if cs.length=l.toNat then ⟨b,o',none⟩ else ⟨b,o'+l.toNat*1,none⟩)) (h.toNat-l.toNat) (cs.length-l.toNat),?_,rfl,fun w'=>?_⟩
     . refine Abi (w:=w) (G:=G) (φ:=G.φ) (g':=.shared) (us:=fun i _=>us i) (sz:=1) (cap:=cs.length) (m:=cs.length) (by omega) (by rw [Í];omega) (by omega) (à _) (by omega) (by simp) (fun i j hi hj=>?_) (fun i j hi hj=>?_) (fun i j hi _=>h1' i (by simpa using hi)) (fun i hi j hj=>?_) (by simp) (by simp)
       . have hi2:i<cs.length:=by simpa using hi
         have:o'+i*1+j=o'+i:=by omega
         rw [this];exact hU i hi2
       . have hi2:i<cs.length:=by simpa using hi
         have:o'+i*1+j=o'+i:=by omega
         rw [this];exact hw i hi2
       . grind
     . have hb:=DW (P:=P) (isS:=false) (len:=cs.length) (cap:=cs.length) hlo hhi hl hh h0 h1 h2 (à _) w'
       simp only [Instr.sliceAt,Ñ,Ý ht,Ê,Instr.sureAddr,Ö,hb,EM hsz]
       congr 2
       split<;>simp [addr_add]
   . cases he
 . rename_i b o n cap
   split at he
   . rename_i l h k nb hl hh hs
     obtain⟨e,i,ht,hi1,hi2,_⟩:=GS (n:=k) (m:=nb) hs
     have hsz:Ms P e=some k:=by simp [Ms,hi1,hi2]
     simp only [Â,È,Î] at he
     obtain⟨⟨h0,h1,h2,h3⟩,rfl⟩:=he
     have hmv:mxv=none:=by
      cases mxv with
      |none=>rfl
      |some z=>exact hmx'.elim
     subst hmv
     cases hv with
     |asl _ _ _ _ _ b' hk hc hm =>
     refine⟨.slice (some ⟨b',o+l.toNat*k,none⟩) (h.toNat-l.toNat) (cap-l.toNat),.asl _ _ _ _ _ _ hk (by omega) (by omega),rfl,fun w'=>?_⟩
     have hb:=DW (P:=P) (isS:=true) (len:=n) (cap:=cap) hlo hhi hl hh h0 h1 h2 hc w'
     simp only [Instr.sliceAt,Ñ,Ý ht,Ê,Instr.slice,hb,EM hsz,Ö]
     rw [Ä (by omega)]
     simp [addr_add]
   . cases he
 . cases he
end
end Go.Vl
namespace Go.Vl
open Go Go.RowKit
structure E0 (w:World) (G:Gh) (cs:List PV) (arr:Array Value):Prop where
 size:arr.size=cs.length
 v:∀ i (h:i<cs.length),V w G.U G.φ cs[i] (arr.getD i Go.undef)/\(arr.getD i Go.undef).oneCell'=true
def MR:PV->Bool
 |.agg _=>true
 |_=>false
def Lz:PV->PV
 |.sl xs .nil=>.sl xs .nil
 |.sl xs .full=>.sl xs .full
 |p=>Bg p
def NB (place:Nat->Option (Nat×Nat))(cells:List PV):List (Nat×PV)->Option (List PV)
 | []=>some cells
 |(i,p)::rest =>
  match place i with
  |none=>none
  |some (off,size)=>if (Cx p).length=size/\off+size<=cells.length/\(HW p||MR p)=true then NB place (cells.take off++(Cx p).map Lz++cells.drop (off+size)) rest else none
def Ue (P:Program)(t:TypeId):Option (List PV) :=
 match (P.info? t).bind (·.zero) with
 |some z=>if z.cells.toList.all Value.oneCell' then some (z.cells.toList.map Ge) else none
 |none=>none
def Wm (P:Program)(t:TypeId):Option (Nat->Option (Nat×Nat)) :=
 match P.info? t,P.underlying t with
 |some _,some (.array _ e)=>(P.info? e).map fun ie i=>some (i*ie.size,ie.size)
 |some _,some (.struct fields)=>(fields.toList.mapM (fun f=>(P.info? f.type).map fun i=>(f.offset,i.size))).map fun places i=>places.toArray[i]?
 |_,_=>none
def plT (P:Program)(t i:Nat):Option (Nat×Nat):=(Wm P t).bind fun f=>f i
def TH (P:Program)(t:TypeId)(parts:List (Nat×PV)):Option (Bool×PV) :=
 match Ue P t,(Wm P t).isSome with
 |some z,true=>(NB (plT P t) z parts).map fun cs=>(true,.agg cs)
 |_,_=>none
section
variable {w w':World} {G:Gh} {P:Program} {p q:PV} {v u:Value}
theorem Sy (arr:Array Value)(off:Nat):∀ (l:List Value) (k:Nat) (cells:Array Value),(∀ j x,l[j]?=some x->arr.getD (k+j) Go.undef=x) ->
 ((l.zipIdx k).foldl (fun cs (x:Value×Nat)=>cs.setIfInBounds (off+x.2) x.1) cells).size=cells.size /\
 ∀ i,((l.zipIdx k).foldl (fun cs (x:Value×Nat)=>cs.setIfInBounds (off+x.2) x.1) cells).getD i Go.undef=if off+k<=i/\i<off+k+l.length/\i<cells.size then arr.getD (i-off) Go.undef else cells.getD i Go.undef
 | [],k,cells,_=>⟨rfl,fun i=>by simp;intro h1 h2;omega⟩
 |x::l,k,cells,h=>by
  have ih:=Sy arr off l (k+1) (cells.setIfInBounds (off+k) x) (fun j y hj=>by have:=h (j+1) y (by simpa using hj);rw [<- this];congr 1;omega)
  rw [List.zipIdx_cons,List.foldl_cons]
  refine⟨by rw [ih.1];simp,fun i=>?_⟩
  rw [ih.2 i]
  have hx:=h 0 x rfl
  simp only [Array.size_setIfInBounds,ß]
  by_cases hi:i=off+k
  . subst hi
    rw [Ä (by omega)]
    by_cases hs:off+k<cells.size
    . rw [Ç (by omega)]
      have:off+k-off=k:=by omega
      rw [this]
      simp only [Nat.add_zero] at hx
      rw [hx];simp [hs]
    . rw [Ä (by omega)]
      simp [hs]
  . have e1:(cells.setIfInBounds (off+k) x).getD i Go.undef=cells.getD i Go.undef:=by
     simp only [É]
     rw [Ģ (fun e=>hi e.symm)]
    rw [e1]
    by_cases hc:off+(k+1)<=i/\i<off+(k+1)+l.length/\i<cells.size
    . rw [Ç hc,Ç (by omega)]
    . rw [Ä hc,Ä (by omega)]
theorem Adb {φ:List Nat}{U:Nat->Nat->Prop}(h:V w U φ p v):V w U φ (Lz p) v:=by
 unfold Lz
 split
 . exact h
 . exact h
 . exact C2 h
theorem QQ {place:Nat->Option (Nat×Nat)}:∀ (parts:List (Nat×PV)) (vals:List (Nat×Value)) (cs:List PV) (arr:Array Value) (out:List PV),E0 w G cs arr->parts.length=vals.length ->
 (∀ (j:Nat) (p:Nat×PV) (v:Nat×Value),parts[j]?=some p->vals[j]?=some v->p.1=v.1/\V w G.U G.φ p.2 v.2)->NB place cs parts=some out->∃ arr',Instr.fill place arr vals=some arr'/\E0 w G out arr'
 | [],[],cs,arr,out,hc,_,_,hf=>by
  simp only [NB,Â] at hf
  subst hf
  exact⟨arr,rfl,hc⟩
 | [],_::_,_,_,_,_,hl,_,_=>by simp at hl
 |_::_,[],_,_,_,_,hl,_,_=>by simp at hl
 |(i,p)::parts,(i',v)::vals,cs,arr,out,hc,hl,hv,hf=>by
  obtain⟨rfl,hpv⟩:=hv 0 _ _ rfl rfl
  simp only at hpv
  simp only [NB] at hf
  cases hp:place i with
  |none=>rw [hp] at hf;cases hf
  |some x =>
   obtain⟨off,size⟩:=x
   rw [hp] at hf
   simp only at hf
   split at hf
   . rename_i hcond
     obtain⟨h1,h2,h3⟩:=hcond
     have hcells:=hpv.cells (by
      rw [ú] at h3
      rcases h3 with h3|h3
      . exact .inl h3
      . cases p with
        |agg cs=>exact .inr ⟨cs,rfl⟩
        |_=>simp [MR] at h3)
     have hset:=Sy v.cells off v.cells.toList 0 arr (fun j x hj=>by
      simp only [ñ]
      have:v.cells[j]?=some x:=by simpa using hj
      simp [this])
     have hcs:E0 w G (cs.take off++(Cx p).map Lz++cs.drop (off+size)) (v.cells.zipIdx.foldl (fun cs (x:Value×Nat)=>cs.setIfInBounds (off+x.2) x.1) arr):=by
      have e0:v.cells.zipIdx.foldl (fun cs (x:Value×Nat)=>cs.setIfInBounds (off+x.2) x.1) arr=(v.cells.toList.zipIdx 0).foldl (fun cs (x:Value×Nat)=>cs.setIfInBounds (off+x.2) x.1) arr:=by
       rw [<- Array.foldl_toList,Array.toList_zipIdx]
      rw [e0]
      have hsz:=hc.size
      have hlen:(cs.take off).length=off:=by simp;omega
      refine⟨by rw [hset.1];simp;omega,fun i hi=>?_⟩
      rw [hset.2 i]
      simp only [Array.length_toList,Nat.add_zero]
      have hi':i<cs.length:=by simp at hi;omega
      by_cases hin:off<=i/\i<off+v.cells.size/\i<arr.size
      . grind [Cx,Lz,List.getElem_append_left,List.getElem_append_right,Adb]
      . rw [Ä hin]
        have hv':=hc.v i hi'
        by_cases hlo:i<off
        . grind [Instr.fill]
        . grind [Instr.fill]
     obtain⟨arr',ha,hc'⟩:=QQ parts vals _ _ out hcs (by simpa using hl) (fun j p v h1 h2=>hv (j+1) p v (by simpa using h1) (by simpa using h2)) hf
     refine⟨arr',?_,hc'⟩
     unfold Instr.fill
     rw [hp]
     simp only
     rw [Ä]
     . exact ha
     . rw [hcells.1,h1,hc.size];simp;omega
   . cases hf
theorem PF {t:TypeId}{z:List PV}(h:Ue P t=some z):∃ zv,(P.info? t).bind (·.zero)=some zv/\E0 w G z zv.cells:=by
 unfold Ue at h
 split at h
 . rename_i zv hz
   split at h
   . rename_i hall
     simp only [Â] at h
     subst h
     refine⟨zv,hz,by simp,fun i hi=>?_⟩
     have hi':i<zv.cells.size:=by simpa using hi
     have e1:zv.cells.getD i Go.undef=zv.cells[i]:=by simp [hi']
     have e2:(zv.cells.toList.map Ge)[i]=Ge zv.cells[i]:=by simp
     rw [e1,e2]
     rw [Û] at hall
     exact⟨LQ _,hall _ (by simp)⟩
   . cases h
 . cases h
theorem PE {t:TypeId}{zv:Value}(h:(P.info? t).bind (·.zero)=some zv)(w:World):(zeroValue t).run P w=.ok zv w:=by
 cases hi:P.info? t with
 |none=>rw [hi] at h;cases h
 |some i =>
  rw [hi] at h
  have h':i.zero=some zv:=h
  simp [zeroValue,typeInfo,hi,h']
theorem Vx {t:TypeId}{parts:List (Nat×PV)}{vals:Array (Nat×Value)}(hl:parts.length=vals.size)(hv:∀ (j:Nat) (p:Nat×PV) (v:Nat×Value),parts[j]?=some p->vals[j]?=some v->p.1=v.1/\V w G.U G.φ p.2 v.2)(he:TH P t parts=some (true,p)) :
 ∃ x,V w G.U G.φ p x/\plain p=true/\∀ w',(Instr.build t vals).run P w'=.ok x w':=by
 unfold TH at he
 split at he
 . rename_i z hz hp
   cases hf:NB (plT P t) z parts with
   |none=>rw [hf] at he;cases he
   |some cs =>
    rw [hf] at he
    simp only [ä,Â,È,õ] at he
    subst he
    obtain⟨zv,hz1,hz2⟩:=PF (w:=w) (G:=G) hz
    obtain⟨arr',ha,hc⟩:=QQ parts vals.toList z zv.cells cs hz2 (by simpa using hl) (fun j p v h1 h2=>hv j p v h1 (by simpa using h2)) hf
    refine⟨.agg arr',.agg _ _ _ hc.size (fun i hi=>(hc.v i hi).1) (fun i hi=>(hc.v i (by rw [<- hc.size];exact hi)).2),rfl,fun w'=>run_build w' t vals arr' ?_⟩
    obtain⟨pl,hpl⟩:=Option.isSome_iff_exists.1 hp
    have e1:plT P t=pl:=by funext i;simp [plT,hpl]
    rw [e1] at ha
    cases hi:P.info? t with
    |none=>rw [hi] at hz1;cases hz1
    |some it =>
     rw [hi] at hz1
     have hz':it.zero=some zv:=hz1
     unfold Wm at hpl
     rw [hi] at hpl
     unfold Program.built
     rw [hi]
     cases hu:P.underlying t with
     |none=>rw [hu] at hpl;cases hpl
     |some d =>
      rw [hu] at hpl
      cases d<;>simp only [reduceCtorEq] at hpl
      case array n e =>
       cases hie:P.info? e with
       |none=>rw [hie] at hpl;cases hpl
       |some ie =>
        rw [hie] at hpl
        simp only [ä,Â] at hpl
        subst hpl
        simp only [hz',hie];exact ha
      case struct fields =>
       cases hm:fields.toList.mapM (fun f=>(P.info? f.type).map fun i=>(f.offset,i.size)) with
       |none=>rw [hm] at hpl;cases hpl
       |some places =>
        rw [hm] at hpl
        simp only [ä,Â] at hpl
        subst hpl
        simp only [hz',hm];exact ha
 . cases he
end
end Go.Vl
namespace Go.Vl
open Go Go.RowKit
def Ae7 (op:UnOp):PV->Option (Bool×PV)
 |.lit (.int k n)=>match op with
  |.neg=>some (true,.lit (.int k (k.wrap (0-n))))
  |.xor=>some (true,.lit (.int k (bits .xor k (if k.signed then -1 else k.max) n)))
  |_=>none
 |.lit (.bool b)=>match op with
  |.not=>some (true,.lit (.bool (!b)))
  |_=>none
 |_=>none
def bytesOf:List (List PV)->Option (List Int)
 | []=>some []
 | [.lit (.int .u8 n)]::r=>(bytesOf r).map (n::·)
 |_::_=>none
def u8T (P:Program)(t:TypeId):Bool:=match P.underlying t with|some (.slice e)=>(match P.underlying e with|some (.int .u8)=>true|_=>false)|_=>false
def WR (P:Program)(s d:TypeId):PV->Option (Bool×PV)
 |.lit (.int _ n)=>match Agc P d with|some k=>some ((P.underlying s).isSome,.lit (.int k (k.wrap n)))|none=>none
 |.lit (.string b)=>if Ll P s&&Ll P d then some (true,.lit (.string b)) else none
 |.sl xs _=>if u8T P s&&Ll P d then some ((bytesOf xs).isSome,.lit (.string ⟨(((bytesOf xs).getD []).map fun n=>UInt8.ofNat n.toNat).toArray⟩)) else none
 |_=>none
def ZI (isMax:Bool)(a b:Int):Int:=if isMax then (if b > a then b else a) else (if b<a then b else a)
def XU (isMax:Bool):List PV->Option (Bool×PV)
 | [.lit (.int k a),.lit (.int _ b)]=>some (true,.lit (.int k (ZI isMax a b)))
 | [.lit (.int k a),.lit (.int _ b),.lit (.int _ c)]=>some (true,.lit (.int k (ZI isMax (ZI isMax a b) c)))
 |_=>none
def Rq (P:Program)(t:TypeId):Option Nat:=match P.underlying t with|some (.int _)=>some 1|some .string=>some 2|some .bool=>some 3|_=>none
def QO (P:Program):Nat->List Field->Option (List Nat)
 |_,[]=>some []
 |i,f::fs=>if f.name≠ "_"/\f.offset=i then (match Rq P f.type,QO P (i+1) fs with|some k,some ks=>some (k::ks)|_,_=>none) else none
def Adp (P:Program)(t:TypeId):Option (List Nat) :=
 match P.underlying t with
 |some (.struct fs)=>if P.stoodInHeld t=false/\P.eqGuardType P.depth t=false then QO P 0 fs.toList else none
 |_=>none
def eqC:Nat->PV->PV->Option Bool
 |1,.lit (.int k a),.lit (.int k' b)=>if k=k' then some (a == b) else none
 |2,.lit (.string a),.lit (.string b)=>some (decide (a=b))
 |3,.lit (.bool a),.lit (.bool b)=>some (a == b)
 |_,_,_=>none
def WU:List Nat->List PV->List PV->Option Bool
 | [],[],[]=>some true
 |k::ks,x::xs,y::ys=>match eqC k x y,WU ks xs ys with
  |some a,some b=>some (a&&b)
  |_,_=>none
 |_,_,_=>none
def isK:Operand->Bool
 |.const _=>true
 |_=>false
def ZO (P:Program)(t:TypeId):Bool:=match P.underlying t with|some (.interface _)=>true|_=>false
def ptT (P:Program)(t:TypeId):Bool:=match P.underlying t with|some (.pointer _)=>true|_=>false
def Wd (P:Program)(t:TypeId):Bool:=match P.underlying t with|some (.slice _)=>true|_=>false
def RQ (op:BinOp)(b:Bool):Option (Bool×PV) :=
 match op with
 |.eql=>some (true,.lit (.bool b))
 |.neq=>some (true,.lit (.bool (!b)))
 |_=>none
def Aam (P:Program)(op:BinOp)(t:TypeId)(k:Bool):PV->PV->Option (Bool×PV)
 |.ifc,.lit .nilIface=>if ZO P t then RQ op false else none
 |.lit (.iface _ _),.lit .nilIface=>if ZO P t then RQ op false else none
 |.lit .nilIface,.lit .nilIface=>if ZO P t&&k then RQ op true else none
 |.ptr _ _,.lit (.pointer none)=>if ptT P t then RQ op false else none
 |.vptr _ _,.lit (.pointer none)=>if ptT P t then RQ op false else none
 |.lit (.pointer none),.lit (.pointer none)=>if ptT P t then RQ op true else none
 |.sl (_::_) _,.sl [] .nil=>if Wd P t then RQ op false else none
 |.sl [] .nil,.sl [] .nil=>if Wd P t then RQ op true else none
 |_,_=>none
def Ae8 (P:Program)(op:BinOp)(t:TypeId)(k:Bool):PV->PV->Option (Bool×PV)
 |.agg xs,.agg ys =>
  match Adp P t with
  |some ks=>(match WU ks xs ys with
   |some b=>(match op with
    |.eql=>some (true,.lit (.bool b))
    |.neq=>some (true,.lit (.bool (!b)))
    |_=>none)
   |none=>none)
  |none=>none
 |x,y=>Aam P op t k x y
section
variable {w w':World} {G:Gh} {P:Program} {p q r:PV} {v u:Value}
theorem Aak {op:UnOp}(hv:V w G.U G.φ q v)(he:Ae7 op q=some (true,p)):∃ x,V w G.U G.φ p x/\plain p=true/\∀ w',(Op.unary op v).run P w'=.ok x w':=by
 unfold Ae7 at he
 split at he
 . cases hv with
   |lit _ _ =>
   split at he<;>simp only [Â,È,õ,reduceCtorEq] at he
   . subst he;exact⟨_,.lit _ _,rfl,fun w'=>by simp [Op.unary,Op.intArith]⟩
   . subst he;exact⟨_,.lit _ _,rfl,fun w'=>by simp [Op.unary,intBits_xor]⟩
 . cases hv with
   |lit _ _ =>
   split at he<;>simp only [Â,È,õ,reduceCtorEq] at he
   subst he;exact⟨_,.lit _ _,rfl,fun w'=>by simp [Op.unary]⟩
 . cases he
theorem Pn:∀ {xs:List (List PV)} {l:List Int},bytesOf xs=some l->l.length=xs.length/\∀ i (h:i<xs.length) (h2:i<l.length),xs[i]=[.lit (.int .u8 l[i])]
 | [],l,h=>by simp only [bytesOf,Â] at h;subst h;exact⟨rfl,fun i h=>by simp at h⟩
 |x::r,l,h=>by
  unfold bytesOf at h
  split at h
  . rename_i heq;cases heq
  . rename_i n r' heq
    cases heq
    cases hb:bytesOf r with
    |none=>rw [hb] at h;cases h
    |some l' =>
     rw [hb] at h
     simp only [ä,Â] at h
     subst h
     obtain⟨h1,h2⟩:=Pn hb
     refine⟨by simp [h1],fun i hi hi2=>?_⟩
     cases i with
     |zero=>rfl
     |succ i=>simpa using h2 i (by simpa using hi) (by simpa using hi2)
  . cases h
theorem QM:∀ (l:List Int) (s:Æ),l.foldl (fun r n=>r.push (UInt8.ofNat n.toNat)) s=⟨s.data++(l.map fun n=>UInt8.ofNat n.toNat).toArray⟩
 | [],s=>by cases s;simp
 |n::l,s=>by
  rw [List.foldl_cons,QM l]
  cases s with
  |mk d=>simp [ByteArray.push]
theorem WO {s d:TypeId}(hv:V w G.U G.φ q v)(he:WR P s d q=some (true,p)):∃ x,V w G.U G.φ p x/\plain p=true/\∀ w',K4 w G none w'->(convert s d v).run P w'=.ok x w':=by
 unfold WR at he
 split at he
 . cases hv with
   |lit _ _ =>
   split at he
   . rename_i k hk
     simp only [Â,È] at he
     obtain⟨hs,rfl⟩:=he
     have hd:P.underlying d=some (.int k):=by unfold Agc at hk;split at hk<;>simp_all
     obtain⟨ds,hds⟩:=Option.isSome_iff_exists.1 hs
     exact⟨_,.lit _ _,rfl,fun w' _=>by simp [convert,Ý hds,Ý hd,Conv.intToInt]⟩
   . cases he
 . cases hv with
   |lit _ _ =>
   split at he
   . rename_i hc
     simp only [Å] at hc
     have h1:P.underlying s=some .string:=by have:=hc.1;unfold Ll at this;split at this<;>simp_all
     have h2:P.underlying d=some .string:=by have:=hc.2;unfold Ll at this;split at this<;>simp_all
     simp only [Â,È,õ] at he
     subst he
     exact⟨_,.lit _ _,rfl,fun w' _=>by simp [convert,Ý h1,Ý h2]⟩
   . cases he
 . rename_i xs g
   split at he
   . rename_i hc
     simp only [Å] at hc
     have h2:P.underlying d=some .string:=by have:=hc.2;unfold Ll at this;split at this<;>simp_all
     obtain⟨e,h1,h3⟩:∃ e,P.underlying s=some (.slice e)/\P.underlying e=some (.int .u8):=by
      grind [u8T]
     cases hb:bytesOf xs with
     |none=>rw [hb] at he;simp at he
     |some l =>
      rw [hb] at he
      simp only [Option.isSome_some,Option.getD_some,Â,È,õ] at he
      subst he
      obtain⟨hl,hg⟩:=Pn hb
      refine⟨_,.lit _ _,rfl,fun w' hr=>?_⟩
      cases hv with
      |nil =>
       simp only [bytesOf,Â] at hb
       subst hb
       rw [run_convert_bytes_string (P:=P) w' s d e none 0 0 h1 h3 h2]
       rfl
      |emp _ _ b o k hg =>
       simp only [bytesOf,Â] at hb
       subst hb
       rw [run_convert_bytes_string (P:=P) w' s d e (some ⟨b,o,some k⟩) 0 0 h1 h3 h2]
       rfl
      |sl _ _ _ b o sz cap us hc' hm hss hU hw h1' hvs hf hg' =>
       have hus:∀ i (h:i<xs.length),sz=1/\us i 0=.int .u8 (l[i]'(by omega)):=by
        intro i hi
        have h4:=hss i hi
        have h5:=hg i hi (by omega)
        rw [h5] at h4
        refine⟨by simpa using h4.symm,?_⟩
        have h6:=hvs i hi 0 (by rw [h5];simp)
        simp only [h5,Ė] at h6
        revert h6
        generalize us i 0=z
        intro h6
        cases h6 with
        |lit _ _=>rfl
       have hload:(loadCells ⟨b,o,none⟩ xs.length).run P w'=.ok (l.map (Value.int .u8)).toArray w':=by
        have:=run_loadCells_list (P:=P) w' ⟨b,o,none⟩ (l.map (Value.int .u8)) (fun j u hj=>by
         rw [addr_add]
         rw [æ] at hj
         cases hlj:l[j]? with
         |none=>rw [hlj] at hj;cases hj
         |some n =>
          rw [hlj] at hj
          simp only [ä,Â] at hj
          have hjl:=(List.getElem?_eq_some_iff.1 hlj).1
          have hj2:j<xs.length:=by omega
          obtain⟨e1,e2⟩:=hus j hj2
          have h7:=hw j 0 hj2 (by omega)
          have h8:=(hr.1 _ _ (hU j 0 hj2 (by omega))).1
          rw [e1] at h7 h8
          simp only [Nat.mul_one,Nat.add_zero] at h7 h8
          rw [h8,h7,e2,<- hj]
          congr 2
          rw [Ã hjl] at hlj
          exact (Af hlj))
        rw [Í,hl] at this;exact this
       rw [run_convert_bytes_string (P:=P) w' s d e _ _ _ h1 h3 h2,run_bytesToString (P:=P) w' ⟨b,o,none⟩ xs.length cap l hload,QM]
       simp
   . cases he
 . cases he
theorem S6 {isMax:Bool}{ps:List PV}{vs:Array Value}{ts:Array TypeId}{ty:TypeId}(hl:ps.length=vs.size)(hv:∀ (j:Nat) (p:PV) (v:Value),ps[j]?=some p->vs[j]?=some v->V w G.U G.φ p v)(he:XU isMax ps=some (true,p)) :
 ∃ x,V w G.U G.φ p x/\plain p=true/\∀ w',(if isMax then Builtin.max_ ts ty vs else Builtin.min_ ts ty vs).run P w'=.ok x w':=by
 obtain⟨vl⟩:=vs
 unfold XU at he
 split at he
 . rename_i k a k' b
   simp only [Â,È,õ] at he
   subst he
   match vl,hl,hv with
   | [x,y],_,hv =>
    have h0:=hv 0 _ _ rfl rfl
    have h1:=hv 1 _ _ rfl rfl
    cases h0 with
    |lit _ _ =>
    cases h1 with
    |lit _ _ =>
    refine⟨_,.lit _ _,rfl,fun w'=>?_⟩
    cases isMax
    . exact run_min_int2 w' ts ty k k' a b
    . exact run_max_int2 w' ts ty k k' a b
 . rename_i k a k' b k'' c
   simp only [Â,È,õ] at he
   subst he
   match vl,hl,hv with
   | [x,y,z],_,hv =>
    have h0:=hv 0 _ _ rfl rfl
    have h1:=hv 1 _ _ rfl rfl
    have h2:=hv 2 _ _ rfl rfl
    cases h0 with
    |lit _ _ =>
    cases h1 with
    |lit _ _ =>
    cases h2 with
    |lit _ _ =>
    refine⟨_,.lit _ _,rfl,fun w'=>?_⟩
    cases isMax
    . simp [Builtin.min_,Builtin.min2,ZI]
    . simp [Builtin.max_,Builtin.max2,ZI]
 . cases he
theorem Ac5 {t d k:Nat}{x y:PV}{a b:Value}{c:Bool}(ht:Rq P t=some k)(hx:V w G.U G.φ x a)(hy:V w G.U G.φ y b)(he:eqC k x y=some c)(w':World):(Op.equalIn (d+1) t a b).run P w'=.ok c w':=by
 unfold Rq at ht
 unfold eqC at he
 split at he
 . rename_i k1 a1 k2 b1
   cases hx with
   |lit _ _ =>
   cases hy with
   |lit _ _ =>
   split at he
   . rename_i hk
     subst hk
     split at ht<;>simp_all
     rename_i kk hu
     rw [run_equalIn_int w' d t k1 kk a1 b1 hu,<- he]
   . cases he
 . rename_i a1 b1
   cases hx with
   |lit _ _ =>
   cases hy with
   |lit _ _ =>
   split at ht<;>simp_all
   rename_i hu
   rw [run_equalIn_string w' d t a1 b1 hu,NL,<- he]
 . rename_i a1 b1
   cases hx with
   |lit _ _ =>
   cases hy with
   |lit _ _ =>
   split at ht<;>simp_all
   rename_i hu
   rw [run_equalIn_bool' w' d t a1 b1 hu,<- he]
 . cases he
theorem Rp {t k:Nat}{arr:Array Value}{i:Nat}(ht:Rq P t=some k)(hi:i<arr.size)(w':World):(part t arr i).run P w'=.ok (arr.getD i Go.undef) w':=by
 have ha:LP P t=some false:=by
  unfold Rq at ht;unfold LP
  split at ht<;>simp_all
 simp only [part,Ñ,Rv ha,Ê,è,Ā,ã hi,Ö]
 simp [hi]
theorem NI {xs ys:List PV}{as bs:Array Value}(ha:E0 w G xs as)(hb:E0 w G ys bs)(d:Nat)(w':World):∀ (fs:List Field) (i:Nat) (ks:List Nat) (c:Bool),QO P i fs=some ks->WU ks (xs.drop i) (ys.drop i)=some c ->
 (Op.eqFields (d+1) as bs fs).run P w'=.ok c w'
 | [],i,ks,c,hf,he=>by
  simp only [QO,Â] at hf
  subst hf
  unfold WU at he
  split at he<;>simp_all
  simp [Op.eqFields]
 |f::fs,i,ks,c,hf,he=>by
  simp only [QO] at hf
  split at hf
  . rename_i hn
    split at hf
    . rename_i k ks' hk hks
      simp only [Â] at hf
      subst hf
      by_cases hxi:i<xs.length
      . by_cases hyi:i<ys.length
        . rw [Ğ hxi,Ğ hyi] at he
          simp only [WU] at he
          split at he
          . rename_i a b h1 h2
            simp only [Â] at he
            have e1:=Ac5 (P:=P) (d:=d) hk (ha.v i hxi).1 (hb.v i hyi).1 h1 w'
            have e2:=NI ha hb d w' fs (i+1) ks' b hks h2
            have hsx:=ha.size
            have hsy:=hb.size
            unfold Op.eqFields
            rw [Ç hn.1]
            simp only [Ñ,hn.2,Rp hk (show i<as.size by omega),Rp hk (show i<bs.size by omega),Ê,e1]
            cases a
            . simp at he;simp [he]
            . simp at he;simp [e2,he]
          . cases he
        . rw [Đ (by omega:ys.length<=i)] at he
          unfold WU at he;first|cases he|(split at he<;>simp_all)
      . rw [Đ (by omega:xs.length<=i)] at he
        unfold WU at he;first|cases he|(split at he<;>simp_all)
    . cases hf
  . cases hf
theorem JE {t:TypeId}(h:ZO P t=true):P.underlying t=some (.interface (P.methodsAt t)):=by
 unfold ZO at h
 split at h
 . rename_i ms e;unfold Program.methodsAt;rw [e]
 . cases h
theorem LY {t:TypeId}(h:ptT P t=true):P.underlying t=some (.pointer (P.pointee t)):=by
 unfold ptT at h
 split at h
 . rename_i ms e;unfold Program.pointee;rw [e]
 . cases h
theorem HL {op:BinOp}{b:Bool}{t:TypeId}{x y:Value}{xo yo:Operand}(he:RQ op b=some (true,p))(hg:∀ w',(eqGuard op t xo yo x y).run P w'=.ok () w')
 (h1:∀ w',(binOp .eql t x y).run P w'=.ok (.bool b) w') (h2:∀ w',(binOp .neq t x y).run P w'=.ok (.bool (!b)) w') :
 ∃ z,V w G.U G.φ p z/\plain p=true/\∀ w',(do eqGuard op t xo yo x y;binOp op t x y:Sem Value).run P w'=.ok z w':=by
 unfold RQ at he
 split at he<;>simp only [Â,È,õ,reduceCtorEq] at he
 . subst he;exact⟨_,.lit _ _,rfl,fun w'=>by simp only [Ñ,hg,Ê,h1]⟩
 . subst he;exact⟨_,.lit _ _,rfl,fun w'=>by simp only [Ñ,hg,Ê,h2]⟩
theorem Ab1 {x:List PV}{xs:List (List PV)}{g:Grow}(h:V w G.U G.φ (.sl (x::xs) g) v):∃ a n c,v=.slice (some a) n c:=by
 cases h with
 |sl=>exact⟨_,_,_,rfl⟩
theorem YM {op:BinOp}{t:TypeId}{k:Bool}(xo yo:Operand)(hk:k=true->isK xo=true∨isK yo=true)(hv:V w G.U G.φ q v)(hu:V w G.U G.φ r u)(he:Aam P op t k q r=some (true,p)) :
 ∃ x,V w G.U G.φ p x/\plain p=true/\∀ w',(do eqGuard op t xo yo v u;binOp op t v u:Sem Value).run P w'=.ok x w':=by
 unfold Aam at he
 split at he
 . split at he
   . rename_i ht
     cases hv with
     |ifc _ _ _ =>
     cases hu with
     |lit _ _ =>
     exact HL he (fun w'=>by rw [eqGuard_at_iface];rfl) (fun w'=>run_eql_held_nil w' t _ _ (JE ht)) (fun w'=>run_neq_held_nil w' t _ _ (JE ht))
   . cases he
 . split at he
   . rename_i ht
     cases hv with
     |lit _ _ =>
     cases hu with
     |lit _ _ =>
     exact HL he (fun w'=>by rw [eqGuard_at_iface];rfl) (fun w'=>run_eql_held_nil w' t _ _ (JE ht)) (fun w'=>run_neq_held_nil w' t _ _ (JE ht))
   . cases he
 . split at he
   . rename_i ht
     simp only [Å] at ht
     cases hv with
     |lit _ _ =>
     cases hu with
     |lit _ _ =>
     refine HL he (fun w'=>?_) (fun w'=>run_eql_nil_nil w' t (JE ht.1)) (fun w'=>run_neq_nil_nil w' t (JE ht.1))
     rcases hk ht.2 with h|h
     . cases xo with
       |const c=>rw [eqGuard_nil_constL];rfl
       |_=>cases h
     . cases yo with
       |const c=>rw [eqGuard_nil_constR];rfl
       |_=>cases h
   . cases he
 . split at he
   . rename_i ht
     cases hv with
     |ptr _ _ _ _ _ =>
     cases hu with
     |lit _ _ =>
     exact HL he (fun w'=>by rw [eqGuard_at_pointer];rfl) (fun w'=>run_eql_pointer_nil w' t _ (LY ht)) (fun w'=>run_neq_pointer_nil w' t _ (LY ht))
   . cases he
 . split at he
   . rename_i ht
     cases hv with
     |vptr _ _ _ _ _ _ _ _ _ _ =>
     cases hu with
     |lit _ _ =>
     exact HL he (fun w'=>by rw [eqGuard_at_pointer];rfl) (fun w'=>run_eql_pointer_nil w' t _ (LY ht)) (fun w'=>run_neq_pointer_nil w' t _ (LY ht))
   . cases he
 . split at he
   . rename_i ht
     cases hv with
     |lit _ _ =>
     cases hu with
     |lit _ _ =>
     exact HL he (fun w'=>by rw [eqGuard_at_pointer];rfl) (fun w'=>run_eql_pointer_nil w' t _ (LY ht)) (fun w'=>run_neq_pointer_nil w' t _ (LY ht))
   . cases he
 . split at he
   . rename_i ht
     obtain⟨a,n,c,rfl⟩:=Ab1 hv
     have hu2:u=.slice none 0 0:=by
      cases hu with
      |nil=>rfl
      |emp _ _ _ _ _ hg=>exact absurd rfl hg
      |sl _ _ _ _ _ _ _ _ _ _ _ _ _ _ _ _ hg=>exact absurd rfl hg
     subst hu2
     unfold Wd at ht
     split at ht
     . rename_i e hs
       exact HL he (fun w'=>by rw [eqGuard_at_slice];rfl) (fun w'=>Lib.run_eql_slice_nil w' t e _ _ _ _ _ hs) (fun w'=>run_neq_slice_nil w' t e _ _ _ hs)
     . cases ht
   . cases he
 . split at he
   . rename_i ht
     have hz:∀ {z:Value},V w G.U G.φ (.sl [] .nil) z->z=.slice none 0 0:=fun {z} h=>by
      cases h with
      |nil=>rfl
      |emp _ _ _ _ _ hg=>exact absurd rfl hg
      |sl _ _ _ _ _ _ _ _ _ _ _ _ _ _ _ _ hg=>exact absurd rfl hg
     have e1:=hz hv
     have e2:=hz hu
     subst e1 e2
     unfold Wd at ht
     split at ht
     . rename_i e hs
       exact HL he (fun w'=>by rw [eqGuard_at_slice];rfl) (fun w'=>Lib.run_eql_slice_nil w' t e _ _ _ _ _ hs) (fun w'=>run_neq_slice_nil w' t e _ _ _ hs)
     . cases ht
   . cases he
 . cases he
theorem Aao {op:BinOp}{t:TypeId}{k:Bool}(xo yo:Operand)(hk:k=true->isK xo=true∨isK yo=true)(hv:V w G.U G.φ q v)(hu:V w G.U G.φ r u)(he:Ae8 P op t k q r=some (true,p)) :
 ∃ x,V w G.U G.φ p x/\plain p=true/\∀ w',(do eqGuard op t xo yo v u;binOp op t v u:Sem Value).run P w'=.ok x w':=by
 unfold Ae8 at he
 split at he
 . rename_i xs ys
   split at he
   . rename_i ks hf
     split at he
     . rename_i b hb
       cases hv with
       |agg _ _ as hn h h1 =>
       cases hu with
       |agg _ _ bs hn' h' h1' =>
       have ha:E0 w G xs as:=⟨hn,fun i hi=>⟨h i hi,h1 i (by omega)⟩⟩
       have hbb:E0 w G ys bs:=⟨hn',fun i hi=>⟨h' i hi,h1' i (by omega)⟩⟩
       unfold Adp at hf
       split at hf
       . rename_i fs hund
         split at hf
         . rename_i hc
           have hfo:P.fieldsOf t=fs:=by unfold Program.fieldsOf;rw [hund]
           have hrun:∀ w',(Op.equalIn 10000 t (.agg as) (.agg bs)).run P w'=.ok b w':=fun w'=>by
            rw [run_equalIn_agg w' 9999 t as bs (by rw [hfo];exact hund) hc.1,hfo]
            exact NI ha hbb 9998 w' fs.toList 0 ks b hf (by simpa using hb)
           split at he<;>simp only [Â,È,õ,reduceCtorEq] at he
           . subst he
             refine⟨_,.lit _ _,rfl,fun w'=>?_⟩
             simp only [Ñ,run_eqGuard_agg w' .eql t xo yo as bs hc.2,Ê,run_eql_struct,hrun]
           . subst he
             refine⟨_,.lit _ _,rfl,fun w'=>?_⟩
             simp only [Ñ,run_eqGuard_agg w' .neq t xo yo as bs hc.2,Ê,run_neq_struct,hrun]
         . cases hf
       . cases hf
     . cases he
   . cases he
 . exact YM xo yo hk hv hu he
end
end Go.Vl
namespace Go.Vl
open Go Go.RowKit
def S7 (P:Program)(st:St)(c:Call):Option (Bool×PV) :=
 match c.callee with
 |.builtin .len=>match c.args.toList,c.argTypes.toList with
  | [x],[t]=>Aan P t (Cu st x)
  |_,_=>none
 |.builtin .min=>XU false (c.args.toList.map (Cu st))
 |.builtin .max=>XU true (c.args.toList.map (Cu st))
 |_=>none
def QU (P:Program)(o:Oper)(st:St):Option (Bool×PV) :=
 match o.op with
 |.pick c x y=>match Cu st c with
  |.lit (.bool b)=>some (true,Bg (Cu st (if b then x else y)))
  |_=>none
 |.build t parts=>TH P t (parts.toList.map fun x=>(x.1,Cu st x.2))
 |.load t x=>Ky P t st.σ (Cu st x)
 |.nilCheck x=>match Cu st x with
  |.ptr b o=>some (true,.ptr b o)
  |.vptr cs o=>some (true,.vptr cs o)
  |.fn f caps=>some (true,.fn f caps)
  |.fno true f caps=>some (true,.fno true f caps)
  |_=>none
 |.binOp op t x y _=>match QW P op t (Cu st x) (Cu st y) with
  |some r=>some r
  |none=>Ae8 P op t (isK x||isK y) (Cu st x) (Cu st y)
 |.unOp op _ x=>Ae7 op (Cu st x)
 |.convert s d x=>WR P s d (Cu st x)
 |.makeFunc (.func f) first caps=>if first.isEmpty then some (true,UN f (caps.toList.map fun x=>Bg (Cu st x))) else if caps.isEmpty&&first.toList.all (fun x=>(Bg (Cu st x)).fits 0) then some (true,.fnb f (first.toList.map fun x=>Bg (Cu st x))) else none
 |.slice t x lo hi mx=>T7 P t (Cu st x) (lo.map (Cu st)) (hi.map (Cu st)) (mx.map (Cu st))
 |.fieldAddr s x f=>HJ P s f (Cu st x)
 |.field s x f=>TE P s f (Cu st x)
 |.indexAddr t x i=>LH P t (Cu st x) (Cu st i)
 |.index t x i=>TD P t (Cu st x) (Cu st i)
 |.call c=>S7 P st c
 |_=>none
def QC (o:Oper):Bool:=match o.op with|.load _ _=>true|.convert _ _ _=>true|_=>false
section
variable {w w':World} {G:Gh} {P:Program} {p:PV} {st:St} {a:Act} {o:Oper}
theorem Wp (h:Ib w G st fun t=>a.tmps.getD t Go.undef)(x:Option Operand):VO w G.U G.φ (x.map (Cu st)) (x.map a.eval):=by
 cases x with
 |none=>trivial
 |some x=>exact B1 h x
def MJ (o:Oper)(st:St):Option Nat :=
 match o.op with
 |.load _ x=>rdB (Cu st x)
 |_=>none
theorem YL (hs:Az w G st.σ)(h:Ib w G st fun t=>a.tmps.getD t Go.undef)(he:QU P o st=some (true,p)) :
 ∃ v,V w G.U G.φ p v/\F1 w G st.σ p v/\∀ w',(QC o=true->K4 w G (MJ o st) w')->(execOp a.eval o).run P w'=.ok (.value v) w':=by
 have fin:∀ {v:Value} {s:Sem Value},V w G.U G.φ p v->Vl.plain p=true->(∀ w',s.run P w'=.ok v w')->(∀ w',(execOp a.eval o).run P w'=(do pure (.value (<- s)):Sem Next).run P w') ->
  ∃ v,V w G.U G.φ p v/\F1 w G st.σ p v/\∀ w',(QC o=true->K4 w G (MJ o st) w')->(execOp a.eval o).run P w'=.ok (.value v) w':=by
  intro v s h1 h2 h3 h4
  refine⟨v,h1,F1.plain h2,fun w' _=>?_⟩
  rw [h4];simp only [Ñ,h3 w',Ê,Ö]
 unfold QU at he
 split at he
 . rename_i c x y hop
   split at he
   . rename_i b hc
     have hcv:=B1 (a:=a) h c
     rw [hc] at hcv
     have hce:a.eval c=.bool b:=by
      revert hcv;generalize a.eval c=z;intro hcv
      cases hcv with
      |lit _ _=>rfl
     simp only [Â,È,õ] at he
     subst he
     refine⟨a.eval (if b then x else y),C2 (B1 h _),F1.plain (Br _),fun w' _=>?_⟩
     unfold execOp
     rw [hop]
     cases b<;>simp [hce,asBool]
   . cases he
 . rename_i t parts hop
   obtain⟨v,h1,h2,h3⟩:=Vx (w:=w) (G:=G) (vals:=parts.map fun x=>(x.1,a.eval x.2)) (by simp) (fun j p v hp hv=>by
    simp only [æ,ĉ] at hp
    simp only [Array.getElem?_map] at hv
    cases hj:parts[j]? with
    |none=>rw [hj] at hp;cases hp
    |some z =>
     rw [hj] at hp hv
     simp only [ä,Â] at hp hv
     subst hp;subst hv
     exact⟨rfl,B1 h _⟩) he
   exact fin h1 h2 h3 (fun w'=>by unfold execOp;rw [hop])
 . rename_i t x hop
   obtain⟨v,h1,h2,h3⟩:=QV hs (B1 h x) he
   refine⟨v,h1,h2,fun w' hr=>?_⟩
   unfold execOp
   rw [hop]
   simp only [Ñ,h3 w' (by have:=hr (by simp [QC,hop]);simpa [MJ,hop] using this),Ê,Ö]
 . rename_i x hop
   have hx:=B1 (a:=a) h x
   split at he<;>simp only [Â,È,õ,reduceCtorEq] at he
   all_goals
    rename_i hxe
    subst he
    rw [hxe] at hx
    refine⟨a.eval x,hx,F1.plain rfl,fun w' _=>?_⟩
    unfold execOp
    rw [hop]
    revert hx
    simp only
    generalize a.eval x=z
    intro hx
    cases hx
    rfl
 . rename_i op t x y yt hop
   cases hb:QW P op t (Cu st x) (Cu st y) with
   |some r =>
    rw [hb] at he
    simp only [Â] at he
    subst he
    obtain⟨b,c,hx,hy⟩:=YR hb
    have hxv:=B1 (a:=a) h x
    have hyv:=B1 (a:=a) h y
    rw [hx] at hxv
    rw [hy] at hyv
    rw [hx,hy] at hb
    obtain⟨v,rfl,hrun⟩:=YQ x y hb
    have e1:a.eval x=b:=by
     revert hxv;generalize a.eval x=z;intro hxv
     cases hxv with
     |lit _ _=>rfl
    have e2:a.eval y=c:=by
     revert hyv;generalize a.eval y=z;intro hyv
     cases hyv with
     |lit _ _=>rfl
    exact fin (.lit _ v) rfl hrun (fun w'=>by unfold execOp;rw [hop];simp only [e1,e2])
   |none =>
    rw [hb] at he
    obtain⟨v,h1,h2,h3⟩:=Aao x y (fun h=>by simpa using h) (B1 (a:=a) h x) (B1 (a:=a) h y) he
    exact fin h1 h2 h3 (fun w'=>by unfold execOp;rw [hop])
 . rename_i op t x hop
   obtain⟨v,h1,h2,h3⟩:=Aak (B1 (a:=a) h x) he
   exact fin h1 h2 h3 (fun w'=>by unfold execOp;rw [hop])
 . rename_i s d x hop
   obtain⟨v,h1,h2,h3⟩:=WO (B1 (a:=a) h x) he
   refine⟨v,h1,F1.plain h2,fun w' hr=>?_⟩
   unfold execOp
   rw [hop]
   simp only [Ñ,h3 w' (by have:=hr (by simp [QC,hop]);simpa [MJ,hop] using this),Ê,Ö]
 . rename_i f first caps hop
   split at he
   . rename_i hf
     simp only [Â,È,õ] at he
     subst he
     have hf':first = #[]:=by simpa using hf
     subst hf'
     refine fin (v:=.func (.func f) #[] (caps.map a.eval)) (s:=Instr.makeFunc (.func f) (#[].map a.eval) (caps.map a.eval)) ?_ (Q1 _ _) (fun w'=>by simp [Instr.makeFunc]) (fun w'=>by unfold execOp;rw [hop])
     refine Abk (by simp) (fun i hi=>?_)
     have hi':i<caps.size:=by simpa using hi
     have e1:(caps.map a.eval).getD i Go.undef=a.eval caps[i]:=by simp [hi']
     rw [e1]
     simp only [é,Array.getElem_toList]
     exact C2 (B1 h _)
   . split at he
     . rename_i hc
       simp only [Â,È,õ] at he
       subst he
       rw [Å,Û] at hc
       have hc':caps = #[]:=by simpa using hc.1
       subst hc'
       refine fin (v:=.func (.func f) (first.map a.eval) #[]) (s:=Instr.makeFunc (.func f) (first.map a.eval) (#[].map a.eval)) ?_ rfl (fun w'=>by simp [Instr.makeFunc]) (fun w'=>by unfold execOp;rw [hop])
       refine .fnb _ _ _ _ (by simp) (fun i hi=>?_)
       have hi':i<first.size:=by simpa using hi
       have e1:(first.map a.eval).getD i Go.undef=a.eval first[i]:=by simp [hi']
       rw [e1]
       simp only [é,Array.getElem_toList]
       exact (C2 (B1 h _)).pure (hc.2 _ (by simp))
     . cases he
 . rename_i t x lo hi mx hop
   obtain⟨v,h1,h2,h3⟩:=Vr (B1 (a:=a) h x) (Wp (a:=a) h lo) (Wp (a:=a) h hi) (Wp (a:=a) h mx) he
   exact fin h1 h2 h3 (fun w'=>by unfold execOp;rw [hop])
 . rename_i s x f hop
   obtain⟨v,h1,h2,h3⟩:=Py (B1 (a:=a) h x) he
   exact fin h1 h2 h3 (fun w'=>by unfold execOp;rw [hop])
 . rename_i s x f hop
   obtain⟨v,h1,h2,h3⟩:=Vv (B1 (a:=a) h x) he
   exact fin h1 h2 h3 (fun w'=>by unfold execOp;rw [hop])
 . rename_i t x i hop
   obtain⟨v,h1,h2,h3⟩:=Px (B1 (a:=a) h x) (B1 (a:=a) h i) he
   exact fin h1 h2 h3 (fun w'=>by unfold execOp;rw [hop])
 . rename_i t x i hop
   obtain⟨v,h1,h2,h3⟩:=Vu (B1 (a:=a) h x) (B1 (a:=a) h i) he
   exact fin h1 h2 h3 (fun w'=>by unfold execOp;rw [hop])
 . rename_i c hop
   obtain⟨callee,args,ats⟩:=c
   unfold S7 at he
   simp only at he
   have hargs:∀ (j:Nat) (p:PV) (v:Value),(args.toList.map (Cu st))[j]?=some p->(args.map a.eval)[j]?=some v->V w G.U G.φ p v:=fun j p v hp hv=>by
    grind [Option.some.injEq,B1]
   split at he
   . split at he
     . rename_i x t hx ht
       have e1:args = #[x]:=by rw [<- ì (xs:=args),hx]
       have e2:ats = #[t]:=by rw [<- ì (xs:=ats),ht]
       subst e1;subst e2
       obtain⟨v,h1,h2,h3⟩:=YN (ty:=o.type) (B1 (a:=a) h x) he
       exact fin h1 h2 h3 (fun w'=>by unfold execOp;rw [hop];simp [resolve,invoke,builtin])
     . cases he
   . obtain⟨v,h1,h2,h3⟩:=S6 (isMax:=false) (vs:=args.map a.eval) (ts:=ats) (ty:=o.type) (w:=w) (G:=G) (by simp) hargs he
     exact fin h1 h2 h3 (fun w'=>by unfold execOp;rw [hop];simp [resolve,invoke,builtin])
   . obtain⟨v,h1,h2,h3⟩:=S6 (isMax:=true) (vs:=args.map a.eval) (ts:=ats) (ty:=o.type) (w:=w) (G:=G) (by simp) hargs he
     exact fin h1 h2 h3 (fun w'=>by unfold execOp;rw [hop];simp [resolve,invoke,builtin])
   . cases he
 . cases he
end
end Go.Vl
namespace Go.Vl
open Go Go.RowKit
def Gh.rel (G:Gh)(l l':Loc):Gh:={ G with Ω:=fun b=>if G.Ω b=some l then some l' else G.Ω b }
def AU (st:St):Loc->PV
 |.tmp t=>st.get t
 |.tcomp t i=>match st.get t with|.tup cs=>cs.getD i .undef|_=>.undef
 |.cell k j=>(st.σ.getD k []).getD j .undef
 |.ret _=>.undef
section
variable {w w' w0:World} {G G' G0:Gh} {P:Program} {p q:PV} {v u:Value} {st:St} {tm:Nat->Value}
theorem A0.to {l l':Loc}{xs:List (List PV)}(h:A0 w G l xs v)(hU:G'.U=G.U)(hΩ:∀ b,G.Ω b=some l->G'.Ω b=some l'):A0 w G' l' xs v:=by
 rcases h with h|⟨b,cap,sz,T,arr,h1,h2,h3,h4,h5,h6,h7⟩
 . exact .inl h
 . exact .inr ⟨b,cap,sz,T,arr,h1,h2,h3,hΩ b h4,h5,h6,by rw [hU];exact h7⟩
theorem BC.to {l l':Loc}{xs:List (List Value)}(h:BC w G l xs v)(hU:G'.U=G.U)(hΩ:∀ b,G.Ω b=some l->G'.Ω b=some l'):BC w G' l' xs v:=by
 rcases h with h|⟨b,cap,sz,T,arr,h1,h2,h0,h3,h4,h5,h6,h7⟩
 . exact .inl h
 . exact .inr ⟨b,cap,sz,T,arr,h1,h2,h0,h3,hΩ b h4,h5,h6,by rw [hU];exact h7⟩
theorem ID {l l' m:Loc}(hm:m≠l):∀ b,G.Ω b=some m->(G.rel l l').Ω b=some m:=by
 intro b hb
 show (if G.Ω b=some l then some l' else G.Ω b)=some m
 rw [Ä (by rw [hb];simpa using hm)];exact hb
theorem FU {l l':Loc}:∀ b,G.Ω b=some l->(G.rel l l').Ω b=some l':=by
 intro b hb
 show (if G.Ω b=some l then some l' else G.Ω b)=some l'
 rw [Ç hb]
theorem U3 {l l':Loc}{b:Nat}:(G.rel l l').Ω b≠none↔G.Ω b≠none:=by
 show (if G.Ω b=some l then some l' else G.Ω b)≠none↔_
 split
 . rename_i h;simp [h]
 . rfl
theorem Ext.rel (h:Ext w0 G0 w G)(l l':Loc):Ext w0 G0 w (G.rel l l') :=
 ⟨h.os,h.tape,h.output,h.size,h.frame,h.cells,h.newU,fun b hb=>h.newΩ b (U3.1 hb),h.phi⟩
theorem Az.rel {σ:List (List PV)}(h:Az w G σ)(l l':Loc)(hno:∀ k j xs cs,σ[k]?=some cs->cs[j]?=some (.sl xs .own)->l≠.cell k j)(hno2:∀ k j xs cs,σ[k]?=some cs->cs[j]?=some (.prv xs)->l≠.cell k j):Az w (G.rel l l') σ:=by
 refine⟨h.len,h.nodup,fun k b cs h1 h2=>?_,h.ub,fun b hb=>h.ob b (U3.1 hb)⟩
 obtain⟨⟨T,arr,h3,h4,h5⟩,h6⟩:=h.blk k b cs h1 h2
 refine⟨⟨T,arr,h3,h4,fun j c hc=>?_⟩,h6⟩
 obtain⟨v,h7,h8,h9,h10⟩:=h5 j c hc
 refine⟨v,h7,h8,h9,?_⟩
 unfold Ck at h10 ⊢
 split
 . rename_i xs
   exact A0.to h10 rfl (ID (ě (hno k j xs cs h2 hc)))
 . rename_i xs
   exact BC.to h10 rfl (ID (ě (hno2 k j xs cs h2 hc)))
 . trivial
theorem Inv.rel (h:Inv w0 G0 st tm w G)(l l':Loc)(hno:∀ xs,AU st l≠.sl xs .own)(hno2:∀ xs,AU st l≠.prv xs):Inv w0 G0 st tm w (G.rel l l'):=by
 refine⟨h.ext.rel l l',h.store.rel l l' (fun k j xs cs hk hj e=>?_) (fun k j xs cs hk hj e=>?_),h.env.v,fun t=>?_⟩
 . subst e
   refine hno xs ?_
   simp [AU,List.getD,hk,hj]
 . subst e
   refine hno2 xs ?_
   simp [AU,List.getD,hk,hj]
 . have ht:=h.env.tag t
   revert ht
   have hc:∀ xs,st.get t=.sl xs .own->l≠.tmp t:=by
    rintro xs hx rfl;exact hno xs hx
   have hp:∀ xs,st.get t=.prv xs->l≠.tmp t:=by
    rintro xs hx rfl;exact hno2 xs hx
   have hc2:∀ cs i xs,st.get t=.tup cs->cs[i]?=some (.sl xs .own)->l≠.tcomp t i:=by
    rintro cs i xs hx hi rfl
    refine hno xs ?_
    simp [AU,hx,List.getD,hi]
   revert hc hc2 hp
   generalize st.get t=q
   intro hc hp hc2 ht
   cases q with
   |prv xs=>exact BC.to ht rfl (ID (ě (hp xs rfl)))
   |sl xs g =>
    cases g with
    |own=>exact A0.to ht rfl (ID (ě (hc xs rfl)))
    |view m=>cases m<;>exact ht
    |_=>trivial
   |tup cs =>
    intro i xs hi
    obtain⟨arr,u,h1,h2,h3⟩:=ht i xs hi
    exact⟨arr,u,h1,h2,h3.to rfl (ID (ě (hc2 cs i xs rfl hi)))⟩
   |_=>trivial
theorem HC (tm:Nat->Value)(s:Nat):GG tm s (tm s)=tm:=by
 funext t;unfold GG;split
 . rename_i h;rw [h]
 . rfl
theorem Inv.share {s:Nat}{xs:List (List PV)}{g:Grow}(h:Inv w0 G0 st tm w G)(hg:st.get s=.sl xs g):Inv w0 G0 (st.put (some s) (.sl xs .shared)) tm w G:=by
 have hv:=h.env.v s
 rw [hg] at hv
 have:=h.put s (p:=.sl xs .shared) (hv.tag (by simp) (by simp)) (by trivial)
 rwa [HC] at this
theorem Inv.moveOwn {s d:Nat}{xs:List (List PV)}(h:Inv w0 G0 st tm w G)(hg:st.get s=.sl xs .own) :
 Inv w0 G0 ((st.put (some s) (.sl xs .shared)).put (some d) (.sl xs .own)) (GG tm d (tm s)) w (G.rel (.tmp s) (.tmp d)):=by
 have hO:A0 w G (.tmp s) xs (tm s):=by have:=h.env.tag s;rw [hg] at this;exact this
 have hv:=h.env.v s
 rw [hg] at hv
 have h1:=h.share hg
 have hs1:(st.put (some s) (.sl xs .shared)).get s=.sl xs .shared:=by rw [BA,Ç rfl]
 have h2:=h1.rel (.tmp s) (.tmp d) (fun ys e=>by rw [AU,hs1] at e;cases e) (fun ys e=>by rw [AU,hs1] at e;cases e)
 exact h2.put d hv (hO.to rfl FU)
theorem Inv.movePrv {s d:Nat}{xs:List (List Value)}(h:Inv w0 G0 st tm w G)(hg:st.get s=.prv xs) :
 Inv w0 G0 ((st.put (some s) .undef).put (some d) (.prv xs)) (GG tm d (tm s)) w (G.rel (.tmp s) (.tmp d)):=by
 have hO:BC w G (.tmp s) xs (tm s):=by have:=h.env.tag s;rw [hg] at this;exact this
 have hv:=h.env.v s
 rw [hg] at hv
 have h1:=h.put s (p:=.undef) (.undef _ (tm s)) (by trivial)
 rw [HC] at h1
 have hs1:(st.put (some s) .undef).get s=.undef:=by rw [BA,Ç rfl]
 have h2:=h1.rel (.tmp s) (.tmp d) (fun ys e=>by rw [AU,hs1] at e;cases e) (fun ys e=>by rw [AU,hs1] at e;cases e)
 exact h2.put d hv (hO.to rfl FU)
theorem Inv.look {s d:Nat}{xs:List (List PV)}(h:Inv w0 G0 st tm w G)(hg:st.get s=.sl xs .own)(hsd:s≠d) :
 Inv w0 G0 (st.put (some d) (.sl xs (.view (.tmp s)))) (GG tm d (tm s)) w G:=by
 have hv:=h.env.v s
 rw [hg] at hv
 refine h.put d (hv.tag (by simp) (by simp)) ⟨?_,?_⟩
 . rw [BA,Ä (ě hsd)]
   split
   . rw [hg];rfl
   . exact hg
 . unfold GG;rw [Ä (ě hsd)]
theorem Inv.lookOn {s d:Nat}{xs:List (List PV)}{l:Loc}(h:Inv w0 G0 st tm w G)(hg:st.get s=.sl xs (.view l)) :
 Inv w0 G0 (st.put (some d) (if l=.tmp d then .sl xs .shared else .sl xs (.view l))) (GG tm d (tm s)) w G:=by
 have hv:=h.env.v s
 have ht:=h.env.tag s
 rw [hg] at hv ht
 split
 . exact h.put d (hv.tag (by simp) (by simp)) trivial
 . rename_i hl
   refine h.put d (hv.tag (by simp) (by simp)) ?_
   cases l with
   |tmp r =>
    have hr:r≠d:=fun e=>hl (by rw [e])
    refine⟨?_,?_⟩
    . rw [BA,Ä (ě hr)]
      split
      . rw [ht.1];rfl
      . exact ht.1
    . unfold GG;rw [Ä (ě hr)];exact ht.2
   |cell k j=>rw [DV,Ly];exact ht
   |tcomp t i=>exact ht.elim
   |ret i=>exact ht.elim
end
def WN (st:St)(d:Nat):Operand->Option St
 |.tmp s =>
  match st.get s with
  |.sl xs .own=>if s=d then none else some (st.put (some d) (.sl xs (.view (.tmp s))))
  |.prv xs=>if s=d then none else some ((st.put (some s) .undef).put (some d) (.prv xs))
  |.sl xs (.view l)=>some (st.put (some d) (if l=.tmp d then .sl xs .shared else .sl xs (.view l)))
  |.tup _=>none
  |p=>some (st.put (some d) p)
 |x=>some (st.put (some d) (match Cu st x with|.tup _=>.undef|p=>p))
def LJ (st:St)(d:Nat):Operand->Option St
 |.tmp s =>
  match st.get s with
  |.sl xs .own=>if s=d then none else some ((st.put (some s) (.sl xs .shared)).put (some d) (.sl xs .own))
  |.sl xs (.view l)=>some (st.put (some d) (if l=.tmp d then .sl xs .shared else .sl xs (.view l)))
  |.sl [] .nil=>some (st.put (some d) (.sl [] .own))
  |.prv xs=>if s=d then none else some ((st.put (some s) .undef).put (some d) (.prv xs))
  |.tup _=>none
  |p=>some (st.put (some d) p)
 |x=>match Cu st x with
  |.sl [] .nil=>some (st.put (some d) (.sl [] .own))
  |p=>some (st.put (some d) (Bg p))
section
variable {w w' w0:World} {G G' G0:Gh} {P:Program} {p q:PV} {v u:Value} {st st':St} {a:Act} {x:Operand} {d:Nat}
theorem LZ {U:Nat->Nat->Prop}{φ:List Nat}{xs:List (List PV)}(h:V w U φ (.sl xs .nil) v):xs=[]/\v=.slice none 0 0:=by
 cases h with
 |nil=>exact⟨rfl,rfl⟩
 |emp _ _ _ _ _ hg=>exact absurd rfl hg
 |sl _ _ _ b o sz cap us hc hm hs hU hw h1 hv hf hg=>exact absurd rfl hg
theorem WM (h:Inv w0 G0 st (fun t=>a.tmps.getD t Go.undef) w G)(he:WN st d x=some st'):∃ G',(G'.U=G.U/\G'.φ=G.φ)/\Inv w0 G0 st' (GG (fun t=>a.tmps.getD t Go.undef) d (a.eval x)) w G':=by
 unfold WN at he
 split at he
 . rename_i s
   split at he
   . rename_i xs hg
     split at he
     . cases he
     . rename_i hsd
       obtain rfl:=Af he
       exact⟨G,⟨rfl,rfl⟩,h.look hg hsd⟩
   . rename_i xs hg
     split at he
     . cases he
     . obtain rfl:=Af he
       exact⟨G.rel (.tmp s) (.tmp d),⟨rfl,rfl⟩,h.movePrv hg⟩
   . rename_i xs l hg
     obtain rfl:=Af he
     exact⟨G,⟨rfl,rfl⟩,h.lookOn hg⟩
   . cases he
   . rename_i h1 h5 h2 h3
     obtain rfl:=Af he
     refine⟨G,⟨rfl,rfl⟩,h.putPlain d (h.env.v s) ?_⟩
     revert h1 h2 h3 h5
     generalize st.get s=q
     intro h1 h5 h2 h3
     cases q with
     |prv xs=>exact absurd rfl (h5 xs)
     |sl xs g =>
      cases g with
      |own=>exact absurd rfl (h1 xs)
      |view l=>exact absurd rfl (h2 xs l)
      |_=>rfl
     |tup cs=>exact absurd rfl (h3 cs)
     |_=>rfl
 . rename_i hx
   obtain rfl:=Af he
   have hv:=B1 (a:=a) h.env x
   refine⟨G,⟨rfl,rfl⟩,h.putPlain d ?_ ?_⟩
   . split
     . exact .undef _ _
     . exact hv
   . split
     . rfl
     . rename_i p' hp'
       cases x with
       |tmp s=>exact absurd rfl (hx s)
       |const c =>
        show plain (Ge c)=true
        unfold Ge;split<;>(try split)<;>rfl
       |global g=>rfl
       |func f=>rfl
theorem TK (h:Inv w0 G0 st (fun t=>a.tmps.getD t Go.undef) w G)(he:LJ st d x=some st'):∃ G',(G'.U=G.U/\G'.φ=G.φ)/\Inv w0 G0 st' (GG (fun t=>a.tmps.getD t Go.undef) d (a.eval x)) w G':=by
 have Ws:∀ {v:Value},V w G.U G.φ (.sl [] .nil) v->Inv w0 G0 (st.put (some d) (.sl [] .own)) (GG (fun t=>a.tmps.getD t Go.undef) d v) w G:=by
  intro v hv
  obtain⟨_,rfl⟩:=LZ hv
  exact h.put d (.nil _ _) (.inl ⟨rfl,rfl⟩)
 unfold LJ at he
 split at he
 . rename_i s
   split at he
   . rename_i xs hg
     split at he
     . cases he
     . obtain rfl:=Af he
       exact⟨G.rel (.tmp s) (.tmp d),⟨rfl,rfl⟩,h.moveOwn hg⟩
   . rename_i xs l hg
     obtain rfl:=Af he
     exact⟨G,⟨rfl,rfl⟩,h.lookOn hg⟩
   . rename_i hg
     obtain rfl:=Af he
     have hv:=h.env.v s
     rw [hg] at hv
     exact⟨G,⟨rfl,rfl⟩,Ws hv⟩
   . rename_i xs hg
     split at he
     . cases he
     . obtain rfl:=Af he
       exact⟨G.rel (.tmp s) (.tmp d),⟨rfl,rfl⟩,h.movePrv hg⟩
   . cases he
   . rename_i h1 h2 h4 h5 h3
     obtain rfl:=Af he
     refine⟨G,⟨rfl,rfl⟩,h.putPlain d (h.env.v s) ?_⟩
     revert h1 h2 h3 h4 h5
     generalize st.get s=q
     intro h1 h2 h4 h5 h3
     cases q with
     |prv xs=>exact absurd rfl (h5 xs)
     |sl xs g =>
      cases g with
      |own=>exact absurd rfl (h1 xs)
      |view l=>exact absurd rfl (h2 xs l)
      |_=>rfl
     |tup cs=>exact absurd rfl (h3 cs)
     |_=>rfl
 . have hv:=B1 (a:=a) h.env x
   split at he
   . grind [LJ]
   . obtain rfl:=Af he
     exact⟨G,⟨rfl,rfl⟩,h.putPlain d (C2 hv) (Br _)⟩
end
end Go.Vl
namespace Go.Vl
open Go Go.RowKit
def mvT (s d:Nat):Option Loc->Option Loc
 |some (.tcomp t i)=>if t=s then some (.tcomp d i) else some (.tcomp t i)
 |x=>x
def Gh.relT (G:Gh)(s d:Nat):Gh:={ G with Ω:=fun b=>mvT s d (G.Ω b) }
section
variable {w w' w0:World} {G G' G0:Gh} {P:Program} {p q:PV} {v u:Value} {st:St} {tm:Nat->Value}
theorem J9 {s d:Nat}{m:Loc}(hm:∀ i,m≠.tcomp s i):∀ b,G.Ω b=some m->(G.relT s d).Ω b=some m:=by
 intro b hb
 show mvT s d (G.Ω b)=some m
 rw [hb]
 cases m with
 |tcomp t i =>
  show (if t=s then some (Loc.tcomp d i) else some (Loc.tcomp t i))=_
  rw [Ä]
  rintro rfl
  exact hm i rfl
 |_=>rfl
theorem Wh {s d i:Nat}:∀ b,G.Ω b=some (.tcomp s i)->(G.relT s d).Ω b=some (.tcomp d i):=by
 intro b hb
 show mvT s d (G.Ω b)=_
 rw [hb];simp [mvT]
theorem Sf {s d b:Nat}:(G.relT s d).Ω b≠none↔G.Ω b≠none:=by
 show mvT s d (G.Ω b)≠none↔_
 unfold mvT
 split
 . rename_i h;rw [h];split<;>simp
 . rfl
theorem Inv.relT (h:Inv w0 G0 st tm w G)(s d:Nat)(hno:∀ cs,st.get s≠.tup cs):Inv w0 G0 st tm w (G.relT s d):=by
 refine⟨⟨h.ext.os,h.ext.tape,h.ext.output,h.ext.size,h.ext.frame,h.ext.cells,h.ext.newU,fun b hb=>h.ext.newΩ b (Sf.1 hb),h.ext.phi⟩,?_,h.env.v,fun t=>?_⟩
 . refine⟨h.store.len,h.store.nodup,fun k b cs h1 h2=>?_,h.store.ub,fun b hb=>h.store.ob b (Sf.1 hb)⟩
   obtain⟨⟨T,arr,h3,h4,h5⟩,h6⟩:=h.store.blk k b cs h1 h2
   refine⟨⟨T,arr,h3,h4,fun j c hc=>?_⟩,h6⟩
   obtain⟨v,h7,h8,h9,h10⟩:=h5 j c hc
   refine⟨v,h7,h8,h9,?_⟩
   unfold Ck at h10 ⊢
   split
   . exact A0.to h10 rfl (J9 (fun i=>by simp))
   . exact BC.to h10 rfl (J9 (fun i=>by simp))
   . trivial
 . have ht:=h.env.tag t
   have hc:∀ cs,st.get t=.tup cs->t≠s:=by
    rintro cs hx rfl;exact hno cs hx
   revert ht hc
   generalize st.get t=q
   intro ht hc
   cases q with
   |prv xs=>exact BC.to ht rfl (J9 (fun i=>by simp))
   |sl xs g =>
    cases g with
    |own=>exact A0.to ht rfl (J9 (fun i=>by simp))
    |view m=>cases m<;>exact ht
    |_=>trivial
   |tup cs =>
    intro i xs hi
    obtain⟨arr,u,h1,h2,h3⟩:=ht i xs hi
    refine⟨arr,u,h1,h2,h3.to rfl (J9 (fun i' e=>?_))⟩
    simp only [Loc.tcomp.injEq] at e
    exact hc cs rfl e.1
   |_=>trivial
theorem Inv.moveTup {s d:Nat}{cs:List PV}(h:Inv w0 G0 st tm w G)(hg:st.get s=.tup cs) :
 Inv w0 G0 ((st.put (some s) .undef).put (some d) (.tup cs)) (GG tm d (tm s)) w (G.relT s d):=by
 have ht:=h.env.tag s
 have hv:=h.env.v s
 rw [hg] at ht hv
 have h1:=h.put s (p:=.undef) (v:=tm s) (.undef _ _) trivial
 rw [HC] at h1
 have hs1:(st.put (some s) .undef).get s=.undef:=by rw [BA,Ç rfl]
 have h2:=h1.relT s d (fun cs e=>by rw [hs1] at e;cases e)
 refine h2.put d hv ?_
 intro i xs hi
 obtain⟨arr,u,h3,h4,h5⟩:=ht i xs hi
 exact⟨arr,u,h3,h4,h5.to rfl Wh⟩
end
def Mg (st:St)(d:Nat):Operand->Option St
 |.tmp s=>match st.get s with
  |.tup cs=>if s=d then none else some ((st.put (some s) .undef).put (some d) (.tup cs))
  |_=>none
 |_=>none
def Mh (st:St)(d:Nat)(i:Nat):Operand->Option St
 |.tmp s=>match st.get s with
  |.tup cs=>match cs[i]? with
   |some (.sl xs .own)=>if s=d then none else some ((st.put (some s) (.tup (cs.set i (.sl xs .shared)))).put (some d) (.sl xs .own))
   |some p=>some (st.put (some d) (Bg p))
   |none=>none
  |_=>none
 |_=>none
section
variable {w w' w0:World} {G G' G0:Gh} {P:Program} {p q:PV} {v u:Value} {st st':St} {a:Act} {x:Operand} {d:Nat}
theorem RI (h:Inv w0 G0 st (fun t=>a.tmps.getD t Go.undef) w G)(he:Mg st d x=some st'):∃ G',(G'.U=G.U/\G'.φ=G.φ)/\Inv w0 G0 st' (GG (fun t=>a.tmps.getD t Go.undef) d (a.eval x)) w G':=by
 unfold Mg at he
 split at he
 . rename_i s
   split at he
   . rename_i cs hg
     split at he
     . cases he
     . obtain rfl:=Af he
       exact⟨G.relT s d,⟨rfl,rfl⟩,h.moveTup hg⟩
   . cases he
 . cases he
theorem RM {i:Nat}(h:Inv w0 G0 st (fun t=>a.tmps.getD t Go.undef) w G)(he:Mh st d i x=some st'):∃ v G',(∀ w':World,(Instr.extract (a.eval x) i).run P w'=.ok v w')/\(G'.U=G.U/\G'.φ=G.φ)/\Inv w0 G0 st' (GG (fun t=>a.tmps.getD t Go.undef) d v) w G':=by
 unfold Mh at he
 split at he
 . rename_i s
   split at he
   . rename_i cs hg
     have hv:V w G.U G.φ (st.get s) (a.eval (.tmp s)):=h.env.v s
     have ht:DV w G st _ s (st.get s) (a.eval (.tmp s)):=h.env.tag s
     rw [hg] at hv ht
     have e0:a.eval (.tmp s)=(fun t=>a.tmps.getD t Go.undef) s:=rfl
     generalize hz:a.eval (.tmp s)=z at hv ht
     cases hv with
     |tup _ _ arr hn hcs =>
     have run:∀ (hi:i<cs.length) (w':World),(Instr.extract (.tuple arr) i).run P w'=.ok (arr.getD i Go.undef) w':=by
      intro hi w'
      have:i<arr.size:=by omega
      simp [Instr.extract,this]
     split at he
     . rename_i xs hci
       split at he
       . cases he
       . rename_i hsd
         obtain rfl:=Af he
         have hi:i<cs.length:=(List.getElem?_eq_some_iff.1 hci).1
         have hci':cs[i]=.sl xs .own:=(List.getElem?_eq_some_iff.1 hci).2
         obtain⟨arr',u,h1,h2,h3⟩:=ht i xs hci
         obtain rfl:arr=arr':=by injection h1
         have hu:arr.getD i Go.undef=u:=by simp [h2]
         have hvi:=hcs i hi
         rw [hci'] at hvi
         refine⟨_,G.rel (.tcomp s i) (.tmp d),run hi,⟨rfl,rfl⟩,?_⟩
         have hset:V w G.U G.φ (.tup (cs.set i (.sl xs .shared))) (.tuple arr):=by
          refine .tup _ _ arr (by simpa using hn) (fun j hj=>?_)
          have hj':j<cs.length:=by simpa using hj
          by_cases e:i=j
          . subst e
            simp only [List.getElem_set_self]
            exact hvi.tag (by simp) (by simp)
          . rw [List.getElem_set_ne e];exact hcs j hj'
         have h4:=h.put s (p:=.tup (cs.set i (.sl xs .shared))) (v:=.tuple arr) hset (by
          intro j ys hj
          by_cases e:i=j
          . subst e
            rw [ė hi] at hj
            cases hj
          . rw [List.getElem?_set_ne e] at hj
            exact ht j ys hj)
         have e1:GG (fun t=>a.tmps.getD t Go.undef) s (.tuple arr)=fun t=>a.tmps.getD t Go.undef:=by
          rw [<- hz,e0,HC]
         rw [e1] at h4
         have hs1:(st.put (some s) (.tup (cs.set i (.sl xs .shared)))).get s=.tup (cs.set i (.sl xs .shared)):=by rw [BA,Ç rfl]
         have h5:=h4.rel (.tcomp s i) (.tmp d) (fun ys e=>by
          simp only [AU,hs1] at e
          rw [List.getD,ė hi] at e
          cases e) (fun ys e=>by
          simp only [AU,hs1] at e
          rw [List.getD,ė hi] at e
          cases e)
         rw [hu] at hvi ⊢
         exact h5.put d hvi (h3.to rfl FU)
     . rename_i p' hno hci
       obtain rfl:=Af he
       have hi:i<cs.length:=(List.getElem?_eq_some_iff.1 hci).1
       have hci':cs[i]=p':=(List.getElem?_eq_some_iff.1 hci).2
       have hvi:=hcs i hi
       rw [hci'] at hvi
       exact⟨_,G,run hi,⟨rfl,rfl⟩,h.putPlain d (C2 hvi) (Br _)⟩
     . cases he
   . cases he
 . cases he
end
def Ws:List (List PV)->PV
 | []=>.sl [] .own
 |x::xs=>.sl (x::xs) .shared
def GX:PV->PV
 |.sl xs .nil=>Ws xs
 |.sl xs .full=>.sl xs .full
 |p=>Bg p
theorem Km (p:PV):(p=.sl [] .nil/\GX p=.sl [] .own)∨(∃ xs,p=.sl xs .full/\GX p=.sl xs .full)∨GX p=Bg p:=by
 unfold GX
 split
 . rename_i xs
   cases xs with
   |nil=>exact .inl ⟨rfl,rfl⟩
   |cons x xs=>exact .inr (.inr rfl)
 . exact .inr (.inl ⟨_,rfl,rfl⟩)
 . exact .inr (.inr rfl)
theorem Oo (l:List PV):∀ q∈l.map GX,q.isM=false:=fun q h=>by
 obtain⟨p,_,rfl⟩:=List.mem_map.1 h
 rcases Km p with⟨_,h⟩|⟨xs,_,h⟩|h
 . rw [h];rfl
 . rw [h];rfl
 . rw [h];cases p<;>first|rfl|(rename_i xs g;cases g<;>rfl)|(unfold Bg;split<;>rfl)
section
variable {w w' w0:World} {G G' G0:Gh} {P:Program} {p q:PV} {v u:Value} {st:St} {tm:Nat->Value}
theorem R0 {φ:List Nat}{U:Nat->Nat->Prop}(h:V w U φ p v):V w U φ (GX p) v:=by
 rcases Km p with⟨rfl,e⟩|⟨xs,rfl,e⟩|e
 . rw [e]
   obtain⟨_,rfl⟩:=LZ h
   exact .nil _ _
 . rw [e];exact h
 . rw [e];exact C2 h
theorem MK {φ:List Nat}{U:Nat->Nat->Prop}(h:V w U φ p v)(l:Loc):Ck w' G (l) (GX p) v:=by
 rcases Km p with⟨rfl,e⟩|⟨xs,rfl,e⟩|e
 . rw [e]
   obtain⟨_,rfl⟩:=LZ h
   exact .inl ⟨rfl,rfl⟩
 . rw [e];trivial
 . rw [e]
   unfold Ck
   split
   . rename_i xs hx
     have:=Br p
     rw [hx] at this;cases this
   . rename_i xs hx
     have:=Br p
     rw [hx] at this;cases this
   . trivial
theorem Rj {o:Obj}{b i:Nat}(hb:b<w.heap.size):(w.alloc o).cell? ⟨b,i,none⟩=w.cell? ⟨b,i,none⟩:=Č (w:=w) (ê _ _ _ hb)
theorem A0.alloc {l:Loc}{xs:List (List PV)}(h:A0 w G l xs v)(o:Obj)(hφ:G'.U=G.U)(hΩ:G'.Ω=G.Ω):A0 (w.alloc o) G' l xs v:=by
 rcases h with h|⟨b,cap,sz,T,arr,h1,h2,h3,h4,h5,h6,h7⟩
 . exact .inl h
 . exact .inr ⟨b,cap,sz,T,arr,h1,h2,h3,by rw [hΩ];exact h4,(ê _ _ _ (Array.getElem?_eq_some_iff.1 h5).1).trans h5,h6,by rw [hφ];exact h7⟩
theorem BC.alloc {l:Loc}{xs:List (List Value)}(h:BC w G l xs v)(o:Obj)(hφ:G'.U=G.U)(hΩ:G'.Ω=G.Ω):BC (w.alloc o) G' l xs v:=by
 rcases h with h|⟨b,cap,sz,T,arr,h1,h2,h0,h3,h4,h5,h6,h7⟩
 . exact .inl h
 . exact .inr ⟨b,cap,sz,T,arr,h1,h2,h0,h3,by rw [hΩ];exact h4,(ê _ _ _ (Array.getElem?_eq_some_iff.1 h5).1).trans h5,h6,by rw [hφ];exact h7⟩
theorem Inv.newObj {cs:List PV}{arr:Array Value}{o:Obj}(hlay:Lay w G.U o arr cs)(h:Inv w0 G0 st tm w G)(hc:E0 w G cs arr)(ht:∀ j c,cs[j]?=some c->Ck w G (.cell st.σ.length j) c (arr.getD j Go.undef)) :
 Inv w0 G0 { st with σ:=st.σ++[cs] } tm (w.alloc o) { G with φ:=G.φ++[w.heap.size] }/\(G.φ++[w.heap.size])[st.σ.length]?=some w.heap.size:=by
 have hnφ:w.heap.size∉G.φ:=by
  intro hm
  obtain⟨k,hk,he⟩:=ø hm
  have hk2:k<st.σ.length:=by rw [<- h.store.len];exact hk
  obtain⟨⟨T',arr',h3,_⟩,_⟩:=h.store.blk k _ _ (Ã hk) (Ã hk2)
  have:=(Array.getElem?_eq_some_iff.1 h3).1
  omega
 have hcell:∀ b i,G.U b i->G.U b i/\Kp w (w.alloc o) b i:=fun b i hu=>⟨hu,Kp.of (ê _ _ _ (h.store.ub b i hu))⟩
 have hget:∀ (k x:Nat),G.φ[k]?=some x->(G.φ++[w.heap.size])[k]?=some x:=fun k x hk=>by rw [Ô (List.getElem?_eq_some_iff.1 hk).1];exact hk
 have hΩ0:G.Ω w.heap.size=none:=by
  cases e:G.Ω w.heap.size with
  |none=>rfl
  |some l=>have:=(h.store.ob w.heap.size (by rw [e];simp)).1;omega
 have tagAll:∀ l c v,Ck w G l c v->Ck (w.alloc o) { G with φ:=G.φ++[w.heap.size] } l c v:=by
  intro l c v ht
  unfold Ck at ht ⊢
  split
  . exact A0.alloc ht _ rfl rfl
  . exact BC.alloc ht _ rfl rfl
  . trivial
 have hlast:(G.φ++[w.heap.size])[st.σ.length]?=some w.heap.size:=by rw [<- h.store.len];simp
 refine⟨⟨?_,?_,?_⟩,hlast⟩
 . refine h.ext.trans ⟨rfl,rfl,rfl,by simp,fun k hk _ _=>ê _ _ _ hk,hcell,fun b i hu=>.inl hu,fun b hb=>.inr hb,[w.heap.size],rfl,by simp⟩
 . refine⟨by simp [h.store.len],?_,?_,fun b i hu=>by have:=h.store.ub b i hu;simp;omega,fun b hb=>?_⟩
   . rw [Ĕ]
     refine⟨h.store.nodup,by simp,fun a ha b hb=>?_⟩
     obtain rfl:b=w.heap.size:=by simpa using hb
     rintro rfl;exact hnφ ha
   . intro k b cs' hk hcs
     by_cases hlt:k<G.φ.length
     . rw [Ô hlt] at hk
       rw [Ô (by rw [<- h.store.len];exact hlt)] at hcs
       obtain⟨⟨T',arr',h3,h4,h5⟩,h6⟩:=h.store.blk k b cs' hk hcs
       refine⟨⟨T',arr',(ê _ _ _ (Array.getElem?_eq_some_iff.1 h3).1).trans h3,⟨h4.1.mono hcell,h4.2⟩,fun j c hj=>?_⟩,h6⟩
       obtain⟨v,h7,h8,h9,h10⟩:=h5 j c hj
       exact⟨v,h7,h8,h9.mono hcell hget,tagAll _ _ _ h10⟩
     . have hk2:=(List.getElem?_eq_some_iff.1 hk).1
       simp at hk2
       obtain rfl:k=G.φ.length:=by omega
       have e1:b=w.heap.size:=by simpa using hk.symm
       subst e1
       have e2:cs'=cs:=by rw [h.store.len] at hcs;simpa using hcs.symm
       subst e2
       refine⟨⟨o,arr,heap_alloc_new _ _,⟨hlay.mono hcell,hc.size⟩,fun j c hj=>?_⟩,fun i hu=>?_⟩
       . have hjl:=(List.getElem?_eq_some_iff.1 hj)
         obtain⟨h1,h2⟩:=hc.v j hjl.1
         have hja:j<arr.size:=by rw [hc.size];exact hjl.1
         rw [hjl.2] at h1
         refine⟨arr.getD j Go.undef,by simp [hja],h2,h1.mono hcell hget,?_⟩
         have:=tagAll _ _ _ (ht j c hj)
         rw [h.store.len];exact this
       . have:=h.store.ub _ _ hu;omega
   . have:=h.store.ob b hb
     refine⟨by simp;omega,?_⟩
     intro hm
     rcases List.mem_append.1 hm with hm|hm
     . exact this.2 hm
     . have:b=w.heap.size:=by simpa using hm
       omega
 . refine⟨fun t=>(h.env.v t).mono hcell hget,fun t=>?_⟩
   have ht':=h.env.tag t
   show DV _ _ _ _ _ (st.get t) _
   revert ht'
   generalize st.get t=q
   intro ht'
   cases q with
   |prv xs=>exact BC.alloc ht' _ rfl rfl
   |sl xs g =>
    cases g with
    |own=>exact A0.alloc ht' _ rfl rfl
    |view m =>
     cases m with
     |tmp s=>exact ht'
     |cell k j =>
      obtain⟨cs',b,h1,h2,h3,h4⟩:=ht'
      refine⟨cs',b,?_,h2,hget _ _ h3,?_⟩
      . grind [Ck]
      . obtain⟨⟨T',arr',h5,_⟩,_⟩:=h.store.blk k b cs' h3 h1
        rw [Rj (Array.getElem?_eq_some_iff.1 h5).1];exact h4
     |_=>exact ht'
    |_=>trivial
   |tup cs' =>
    intro i xs hi
    obtain⟨arr',u,h1,h2,h3⟩:=ht' i xs hi
    exact⟨arr',u,h1,h2,h3.alloc _ rfl rfl⟩
   |_=>trivial
theorem Inv.newBlock {cs:List PV}{arr:Array Value}{T:TypeId}(h:Inv w0 G0 st tm w G)(hm:∀ p∈cs,p.isM=false)(hc:E0 w G cs arr)(ht:∀ j c,cs[j]?=some c->Ck w G (.cell st.σ.length j) c (arr.getD j Go.undef)) :
 Inv w0 G0 { st with σ:=st.σ++[cs] } tm (w.alloc (.cells arr T)) { G with φ:=G.φ++[w.heap.size] }/\(G.φ++[w.heap.size])[st.σ.length]?=some w.heap.size:=Inv.newObj (.inl ⟨⟨T,rfl⟩,hm⟩) h hc ht
end
end Go.Vl
namespace Go.Q
open Go
section
variable {P:Program} {ops:Array Oper} {Q:Exit->Act->World->Prop} {S:World->Prop}
def ED (ops:Array Oper)(D:Array Bool):Prop:=∀ j oj,ops[j]?=some oj->D.getD j false=true->∀ e∈oj.after,Region.binds .any e=true->D.getD e.on false=true
def Dep (ops:Array Oper)(j i:Nat):Prop:=∀ D,ED ops D->(∀ oj,ops[j]?=some oj->∀ e∈oj.after,Region.binds .any e=true->D.getD e.on false=true)->(∃ oj,ops[j]?=some oj)->D.getD i false=true
def Ow (acc:List Nat)(o:Oper):Nat:=o.after.toList.foldl (fun s e=>if Region.binds .any e then s ||| (2 ^ e.on ||| acc.getD e.on 0) else s) 0
def Wv (acc:List Nat):List Oper->List Nat
 | []=>acc
 |o::rest=>Wv (acc++[Ow acc o]) rest
theorem UO (acc:List Nat)(o:Oper)(i:Nat)(h:(Ow acc o).testBit i=true):∃ e∈o.after,Region.binds .any e=true/\(e.on=i∨(acc.getD e.on 0).testBit i=true):=by
 have key:∀ (l:List Edge) (s:Nat),(l.foldl (fun s e=>if Region.binds .any e then s ||| (2 ^ e.on ||| acc.getD e.on 0) else s) s).testBit i=true ->
  s.testBit i=true∨∃ e∈l,Region.binds .any e=true/\(e.on=i∨(acc.getD e.on 0).testBit i=true):=by
  intro l
  induction l with
  |nil=>intro s h;exact .inl h
  |cons e l ih =>
   intro s h
   rcases ih _ h with h|⟨e',he',hb,hc⟩
   . by_cases hbe:Region.binds .any e=true
     . simp only [hbe,if_true] at h
       simp only [Nat.testBit_or,Bool.or_eq_true] at h
       rcases h with h|h|h
       . exact .inl h
       . rw [Nat.testBit_two_pow] at h
         exact .inr ⟨e,by simp,hbe,.inl (by simpa using h)⟩
       . exact .inr ⟨e,by simp,hbe,.inr h⟩
     . simp only [hbe] at h
       exact .inl h
   . exact .inr ⟨e',by simp [he'],hb,hc⟩
 rcases key _ _ h with h|⟨e,he,hb,hc⟩
 . simp at h
 . exact⟨e,by simpa using he,hb,hc⟩
theorem Pa:∀ (l:List Oper) (acc:List Nat),(∀ j,l[j]?=ops[acc.length+j]?)->(∀ j i,(acc.getD j 0).testBit i=true->Dep ops j i)->∀ j i,((Wv acc l).getD j 0).testBit i=true->Dep ops j i
 | [],_,_,h=>h
 |o::l,acc,hl,h=>by
  refine Pa l (acc++[Ow acc o]) (fun j=>?_) (fun j i hji=>?_)
  . have:=hl (j+1)
    simpa [Nat.add_assoc,Nat.add_comm 1 j] using this
  . by_cases hj:j<acc.length
    . refine h j i ?_
      rw [List.getD_eq_getElem?_getD,List.getElem?_append_left hj,<- List.getD_eq_getElem?_getD] at hji
      exact hji
    . by_cases hj2:j=acc.length
      . subst hj2
        have e1:(acc++[Ow acc o]).getD acc.length 0=Ow acc o:=by simp
        rw [e1] at hji
        obtain⟨e,he,hb,hc⟩:=UO acc o i hji
        intro D hD hdeps _
        have h0:ops[acc.length]?=some o:=by simpa using (hl 0).symm
        have hon:=hdeps o h0 e he hb
        rcases hc with rfl|hc
        . exact hon
        . by_cases hex:∃ oj,ops[e.on]?=some oj
          . obtain⟨oj,hoj⟩:=hex
            refine h e.on i hc D hD (fun o' ho' e' he' hb'=>hD e.on o' ho' hon e' he' hb') ⟨oj,hoj⟩
          . exfalso
            by_cases hlt:e.on<acc.length
            . have:acc.length<ops.size:=(Array.getElem?_eq_some_iff.1 h0).1
              exact hex ⟨ops[e.on]'(by omega),Array.getElem?_eq_getElem (by omega)⟩
            . simp [List.getD,List.getElem?_eq_none (l:=acc) (i:=e.on) (by omega)] at hc
      . have e1:(acc++[Ow acc o]).getD j 0=0:=by
         rw [List.getD_eq_getElem?_getD,List.getElem?_eq_none (by simp;omega)];rfl
        rw [e1] at hji
        simp at hji
def Sn (ops:Array Oper):List Nat:=Wv [] ops.toList
theorem Q2 (j i:Nat)(h:((Sn ops).getD j 0).testBit i=true):Dep ops j i :=
 Pa ops.toList [] (fun j=>by simp) (fun j i h=>by simp at h) j i h
def cl (c:List Nat)(i:Nat):Nat:=c.getD i 2
def Ep (ops:Array Oper)(c:List Nat)(j:Nat):Bool:=(List.range ops.size).any fun i=>cl c i == 1&&i != j&&!((Sn ops).getD j 0).testBit i
theorem Q0 {c:List Nat}{i j:Nat}{D:Array Bool}(hD:ED ops D)(hj:j∈Region.ready .any ops D)(hi:i<ops.size)(hun:D.getD i false=false)(h1:cl c i=1)(hij:i≠j):Ep ops c j=true:=by
 unfold Ep
 rw [List.any_eq_true]
 refine⟨i,List.mem_range.2 hi,?_⟩
 obtain⟨_,oj,hoj,hall⟩:=mem_ready.1 hj
 simp only [h1,beq_self_eq_true,Bool.true_and,Bool.and_eq_true,bne_iff_ne,ne_eq,hij,not_false_eq_true,true_and,Bool.not_eq_true']
 cases hm:((Sn ops).getD j 0).testBit i with
 |false=>rfl
 |true =>
  have:=Q2 j i hm D hD (fun o' ho' e he hb=>by
   have:o'=oj:=Option.some.inj (ho'.symm.trans hoj)
   subst this
   exact hall e he hb) ⟨oj,hoj⟩
  rw [hun] at this
  cases this
def YieldsIn (P:Program)(ops:Array Oper)(T:World->Prop)(o:Oper)(v:Value)(a:Act):Prop :=
 (Region.wanted o (yielded ops a.tmps)=true/\∀ w,T w->((execOp a.eval o).run P w=.ok (.value v) w∨∃ f args,(execOp a.eval o).run P w=.ok (.enter f args) w/\Calls P f args w (fun e w''=>e=.returned v/\w''=w))) ∨
 (Region.wanted o (yielded ops a.tmps)=false/\v=undef)
theorem YieldsIn.wpOp {T:World->Prop}{i:Nat}{o:Oper}{v:Value}{a:Act}(hi:ops[i]?=some o)(hy:YieldsIn P ops T o v a){K:Act->World->Prop}{w:World}(hT:T w)(h:K (a.put o.dst v) w):wpOp P ops Q i K a w:=by
 unfold Go.wpOp
 simp only [hi]
 rcases hy with⟨hw,hv⟩|⟨hw,rfl⟩
 . simp only [hw,if_true,Oper.wp]
   rcases hv w hT with hv|⟨f,args,hv,hc⟩
   . simp only [hv,Oper.upon];exact .inl h
   . simp only [hv,Oper.upon]
     exact .inl (hc.mono fun e w'' ⟨he,hw⟩=>by subst he;subst hw;exact h)
 . simp only [hw,Bool.false_eq_true,if_false];exact h
theorem YieldsIn.of_same {T:World->Prop}{o:Oper}{v:Value}{a a':Act}(hy:YieldsIn P ops T o v a)(he:execOp a'.eval o=execOp a.eval o)
 (hw:Region.wanted o (yielded ops a'.tmps)=Region.wanted o (yielded ops a.tmps)):YieldsIn P ops T o v a':=by
 unfold YieldsIn at *
 rw [he,hw]
 exact hy
theorem M1 {T:World->Prop}{j:Nat}{oi oj:Oper}{v:Value}(hj:ops[j]?=some oj)(hap:oi.apart ops oj=true)
 (hsi:∀ cs b,oi.op≠.select cs b) (hsj:∀ cs b,oj.op≠.select cs b)
 (hQ:∀ c a w,Q (.panic c) (a.put oi.dst v) w->Q (.panic c) a w) {K:Act->World->Prop} {a:Act} {w:World}
 (hy:YieldsIn P ops T oi v a) (h:wpOp P ops Q j K (a.put oi.dst v) w) :
 wpOp P ops Q j (fun a' w'=>YieldsIn P ops T oi v a'/\K (a'.put oi.dst v) w') a w:=by
 obtain⟨h1,h2,h3⟩:=Oper.apart_spec hap
 have keep:∀ (a:Act),YieldsIn P ops T oi v a->∀ u,YieldsIn P ops T oi v (a.put oj.dst u):=fun a hy u =>
  hy.of_same (execOp_put oi hsi a oj.dst u h3) (wanted_put oi a oj.dst u h3)
 have keepD:∀ d,YieldsIn P ops T oi v { a with defers:=d::a.defers }:=fun d=>hy.of_same rfl rfl
 unfold Go.wpOp at *
 simp only [hj] at *
 rw [wanted_put oj a oi.dst v h1] at h
 split
 . rename_i hw
   simp only [hw,if_true] at h
   rcases h with h|⟨hasks,hlets⟩
   case inr=>exact .inr ⟨by unfold Oper.asks at *;rw [execOp_put oj hsj a oi.dst v h1] at hasks;exact hasks,hlets⟩
   refine .inl ?_
   unfold Oper.wp at *
   rw [execOp_put oj hsj a oi.dst v h1] at h
   generalize (execOp a.eval oj).run P w=r at *
   cases r with
   |ok n w' =>
    cases n<;>simp only [Oper.upon] at h ⊢
    case value u=>exact⟨keep a hy u,by rw [<- Act.put_comm a v u h2];exact h⟩
    case skip=>exact⟨keep a hy _,by rw [<- Act.put_comm a v undef h2];exact h⟩
    case defer d =>
     refine⟨keep _ (keepD d) _,?_⟩
     rw [<- Act.put_comm _ v undef h2,<- Act.put_defers]
     exact h
    case enter f args =>
     refine Calls.mono h fun e w'' he=>?_
     cases e with
     |returned u=>exact⟨keep a hy u,by rw [<- Act.put_comm a v u h2];exact he⟩
     |panicked c=>exact hQ _ _ _ he
     |outgrown=>exact he
    case row row args=>exact Rows.mono h fun u w'' he=>⟨keep a hy u,by rw [<- Act.put_comm a v u h2];exact he⟩
   |halt x w' =>
    cases x<;>simp only [Oper.upon] at h ⊢
    case panic u=>exact hQ _ _ _ h
 . rename_i hw
   simp only [hw] at h
   exact⟨keep a hy _,by rw [<- Act.put_comm a v undef h2];exact h⟩
def Zd (ops:Array Oper)(S:World->Prop)(c:List Nat)(j:Nat)(w w':World):Prop:=if cl c j=0∨cl c j=1 then w'=w else (Ep ops c j=true->S w')
def PK (P:Program)(ops:Array Oper)(Q:Exit->Act->World->Prop)(S:World->Prop)(c:List Nat):Nat->Array Bool->Act->World->Prop
 |0,D,a,w=>Region.ready .any ops D=[]/\Q .normal a w
 |fuel+1,D,a,w =>
  (Region.ready .any ops D=[]->Q .normal a w) /\
  ∀ i∈Region.ready .any ops D,wpOp P ops Q i (fun a' w'=>Zd ops S c i w w'/\PK P ops Q S c fuel (D.setIfInBounds i true) a' w') a w
theorem PJ {c:List Nat}:∀ (fuel:Nat) (D:Array Bool) (a:Act) (w:World),PK P ops Q S c fuel D a w->wpAny P .any ops Q fuel D a w
 |0,_,_,_,h=>h
 |fuel+1,_,_,_,h=>⟨h.1,fun i hi=>wpOp_mono (fun a' w' h'=>PJ fuel _ a' w' h'.2) (h.2 i hi)⟩
theorem ED.set {D:Array Bool}{i:Nat}(h:ED ops D)(hi:i∈Region.ready .any ops D):ED ops (D.setIfInBounds i true):=by
 obtain⟨_,oi,hoi,hall⟩:=mem_ready.1 hi
 intro j oj hj hl e he hb
 by_cases hij:i=j
 . subst hij
   have:oj=oi:=Option.some.inj (hj.symm.trans hoi)
   subst this
   exact getD_set_true (hall e he hb)
 . rw [getD_set_ne false hij] at hl
   exact getD_set_true (h j oj hj hl e he hb)
theorem Ea {D:Array Bool}{i:Nat}(hi:i∈Region.ready .any ops D):D.getD i false=false/\i<ops.size:=by
 obtain⟨h0,oi,hoi,_⟩:=mem_ready.1 hi
 refine⟨?_,(Array.getElem?_eq_some_iff.1 hoi).1⟩
 rcases Nat.lt_or_ge i D.size with h'|h'
 . simp [h'] at h0 ⊢;exact h0
 . simp [Array.getElem?_eq_none h'] at h0
theorem Ng {c:List Nat}{T:World->Prop}{i:Nat}{oi:Oper}{v:Value}(hi:ops[i]?=some oi)(hsel:∀ (j:Nat) (o:Oper) cs b,ops[j]?=some o->o.op≠.select cs b)
 (hQ:∀ c a w,Q (.panic c) (a.put oi.dst v) w->Q (.panic c) a w) (hci:cl c i=0∨cl c i=1)
 (hT:∀ D j,ED ops D->i∈Region.ready .any ops D->j∈Region.ready .any ops D->j≠i->∀ w w',Zd ops S c j w w'->T w->T w') :
 ∀ (fuel:Nat) (D:Array Bool) (a:Act) (w:World),ED ops D->T w ->
  (∀ j oj,ops[j]?=some oj->j≠i->D.getD j true=false->(∀ e∈oj.after,Region.binds .any e=true->e.on≠i)->oi.apart ops oj=true) ->
  i∈Region.ready .any ops D->YieldsIn P ops T oi v a ->
  PK P ops Q S c fuel (D.setIfInBounds i true) (a.put oi.dst v) w->PK P ops Q S c (fuel+1) D a w:=by
 have hcond:∀ w,Zd ops S c i w w:=fun w=>by unfold Zd;rw [if_pos hci]
 intro fuel
 induction fuel with
 |zero =>
  intro D a w hD hTw _ hr hy H
  refine⟨fun h=>(by rw [h] at hr;cases hr),fun j hj=>?_⟩
  by_cases hji:j=i
  . subst hji;exact hy.wpOp hi hTw ⟨hcond w,H⟩
  . have:=ready_mono hj hji
    rw [H.1] at this
    cases this
 |succ fuel ih =>
  intro D a w hD hTw hfree hr hy H
  refine⟨fun h=>(by rw [h] at hr;cases hr),fun j hj=>?_⟩
  by_cases hji:j=i
  . subst hji;exact hy.wpOp hi hTw ⟨hcond w,H⟩
  . have h1:=H.2 j (ready_mono hj hji)
    obtain⟨hjun,oj,hoj,hall⟩:=mem_ready.1 hj
    have hnot:∀ e∈oj.after,Region.binds .any e=true->e.on≠i:=fun e he hb heq=>by
     have h1:=hall e he hb
     rw [heq,(Ea hr).1] at h1
     cases h1
    have h2:=M1 hoj (hfree j oj hoj hji hjun hnot) (fun cs b=>hsel i oi cs b hi) (fun cs b=>hsel j oj cs b hoj) hQ hy h1
    have hfree':∀ k ok,ops[k]?=some ok->k≠i->(D.setIfInBounds j true).getD k true=false ->
     (∀ e∈ok.after,Region.binds .any e=true->e.on≠i)->oi.apart ops ok=true:=fun k ok hk hki hun hno=>by
     refine hfree k ok hk hki ?_ hno
     by_cases hjk:j=k
     . subst hjk;exact hjun
     . rw [getD_set_ne true hjk] at hun;exact hun
    refine wpOp_mono (fun a' w' h3=>⟨h3.2.1,ih (D.setIfInBounds j true) a' w' (hD.set hj) (hT D j hD hr hj hji w w' h3.2.1 hTw) hfree' (ready_mono hr (Ne.symm hji)) h3.1 ?_⟩) h2
    rw [Array.setIfInBounds_comm _ _ hji]
    exact h3.2.2
def K6 (P:Program)(ops:Array Oper)(Q:Exit->Act->World->Prop)(S:World->Prop)(c:List Nat):List Nat->Act->World->Prop
 | [],a,w=>Q .normal a w
 |i::t,a,w=>match ops[i]? with
  |none=>False
  |some o =>
   if cl c i=0 then ∃ v,YieldsIn P ops (fun _=>True) o v a/\K6 P ops Q S c t (a.put o.dst v) w
   else if cl c i=1 then ∃ v,YieldsIn P ops S o v a/\K6 P ops Q S c t (a.put o.dst v) w
   else wpOp P ops Q i (fun a' w'=>(Ep ops c i=true->S w')/\K6 P ops Q S c t a' w') a w
def ZD (ops:Array Oper)(c:List Nat):List Nat->Array Bool->Bool
 | [],D=>(Region.ready .any ops D).isEmpty
 |i::t,D=>(Region.ready .any ops D).contains i&&(if cl c i=0∨cl c i=1 then Region.free .any ops D i else decide (Region.ready .any ops D=[i]))&&ZD ops c t (D.setIfInBounds i true)
theorem JP {c:List Nat}(hsel:Region.noSelect ops=true)(hQ:∀ c d v a w,Q (.panic c) (a.put d v) w->Q (.panic c) a w):∀ (t:List Nat) (D:Array Bool) (a:Act) (w:World),ED ops D ->
 ((∃ i,i<ops.size/\D.getD i false=false/\cl c i=1)->S w)->ZD ops c t D=true->K6 P ops Q S c t a w->PK P ops Q S c t.length D a w
 | [],D,a,w,_,_,hok,h=>⟨by simpa [ZD] using hok,h⟩
 |i::t,D,a,w,hD,hS,hok,h=>by
  simp only [ZD,Bool.and_eq_true] at hok
  obtain⟨⟨hr,hf⟩,hok'⟩:=hok
  have hr':i∈Region.ready .any ops D:=by simpa using hr
  obtain⟨_,oi,hoi,_⟩:=mem_ready.1 hr'
  obtain⟨hiun,hisz⟩:=Ea hr'
  have hun:∀ k,(D.setIfInBounds i true).getD k false=false->D.getD k false=false:=by
   intro k hk
   by_cases hik:i=k
   . subst hik;exact hiun
   . rw [getD_set_ne false hik] at hk;exact hk
  have hSt:(∃ k,k<ops.size/\(D.setIfInBounds i true).getD k false=false/\cl c k=1)->S w:=fun ⟨k,h1,h2,h3⟩=>hS ⟨k,h1,hun k h2,h3⟩
  unfold K6 at h
  simp only [hoi] at h
  by_cases h0:cl c i=0
  . rw [if_pos h0] at h
    rw [if_pos (.inl h0)] at hf
    obtain⟨v,hy,hw⟩:=h
    exact Ng (T:=fun _=>True) hoi (Region.noSelect_spec hsel) (fun _ a w h=>hQ _ _ _ a w h) (.inl h0) (fun _ _ _ _ _ _ _ _ _ _=>trivial) t.length D a w hD trivial (Region.free_spec hoi hf) hr' hy
     (JP hsel hQ t _ _ w (hD.set hr') hSt hok' hw)
  . rw [if_neg h0] at h
    by_cases h1:cl c i=1
    . rw [if_pos h1] at h
      rw [if_pos (.inr h1)] at hf
      obtain⟨v,hy,hw⟩:=h
      refine Ng (T:=S) hoi (Region.noSelect_spec hsel) (fun _ a w h=>hQ _ _ _ a w h) (.inr h1) ?_ t.length D a w hD (hS ⟨i,hisz,hiun,h1⟩) (Region.free_spec hoi hf) hr' hy
       (JP hsel hQ t _ _ w (hD.set hr') hSt hok' hw)
      intro D' j hD' hi' hj hji w w' hc hSw
      unfold Zd at hc
      split at hc
      . subst hc;exact hSw
      . exact hc (Q0 hD' hj hisz (Ea hi').1 h1 (Ne.symm hji))
    . rw [if_neg h1] at h
      rw [if_neg (by simp [h0,h1])] at hf
      have hf':Region.ready .any ops D=[i]:=by simpa using hf
      refine⟨fun h=>(by rw [h] at hr';cases hr'),fun j hj=>?_⟩
      rw [hf'] at hj
      obtain rfl:j=i:=by simpa using hj
      refine wpOp_mono (fun a' w' h3=>⟨by unfold Zd;rw [if_neg (by simp [h0,h1])];exact h3.1,?_⟩) h
      refine JP hsel hQ t _ a' w' (hD.set hr') ?_ hok' h3.2
      rintro⟨k,hk1,hk2,hk3⟩
      have hkj:k≠j:=by rintro rfl;rw [hk3] at h1;exact h1 rfl
      exact h3.1 (Q0 hD hr' hk1 (hun k hk2) hk3 hkj)
end
end Go.Q
