/-
  Blocks written; blocks that are appended to. No program. Variables made and stored into. No program. Slices made and appended to. No program. Slices written out. No program. One operation. No program. Calls. No program. Statements: operations in the order of the text. No program. Code walked in a round of a range over a function: what was walked outside goes inside as well.
-/
import Derived.MapKept
import Derived.Maps.RangeRun
import Derived.Deep.AppendSrc
import Derived.RangeFuncLeaves
import Derived.RangeFuncCalls
import Derived.OrdersIn
import Derived.TacticsIn
import Derived.Test.YtehfpameijkafaaGreatDoorY1
import Derived.Test.YtehfpameijkafaaGreatDoorY2
set_option linter.unusedVariables false
set_option linter.unusedSimpArgs false
namespace Go.Vl
open Go Go.RowKit
def stripC (k o n:Nat):PV->PV
 |.sl xs (.view (.cell k' j))=>if k'=k/\o<=j/\j<o+n then .sl xs .shared else .sl xs (.view (.cell k' j))
 |p=>p
def St.stripC (st:St)(k o n:Nat):St:={ st with env:=st.env.map fun x=>(x.1,Vl.stripC k o n x.2) }
section
variable {w w' w0:World} {G G' G0:Gh} {P:Program} {p q:PV} {v u:Value} {st:St} {tm:Nat->Value}
theorem FF (st:St)(k o n t:Nat):(st.stripC k o n).get t=stripC k o n (st.get t):=by
 show Cj (st.env.map fun x=>(x.1,Vl.stripC k o n x.2)) t=stripC k o n (Cj st.env t)
 generalize st.env=env
 induction env with
 |nil=>rfl
 |cons x r ih =>
  show (if x.1=t then stripC k o n x.2 else Cj (r.map fun x=>(x.1,Vl.stripC k o n x.2)) t)=stripC k o n (if x.1=t then x.2 else Cj r t)
  split
  . rfl
  . exact ih
theorem U9 {k o n:Nat}{xs:List (List PV)}:stripC k o n p=.sl xs .own↔p=.sl xs .own:=by
 unfold stripC
 split
 . split<;>simp
 . rfl
theorem Inv.stripC (h:Inv w0 G0 st tm w G)(k o n:Nat):Inv w0 G0 (st.stripC k o n) tm w G:=by
 refine⟨h.ext,h.store,⟨fun t=>?_,fun t=>?_⟩⟩
 . rw [FF]
   have b:=h.env.v t
   revert b
   generalize st.get t=q
   intro b
   unfold Vl.stripC
   split
   . split
     . exact b.tag (by simp) (by simp)
     . exact b
   . exact b
 . rw [FF]
   have a:=h.env.tag t
   revert a
   generalize st.get t=q
   intro a
   unfold Vl.stripC
   split
   . rename_i xs k' j
     split
     . trivial
     . exact a
   . rename_i c
     cases q with
     |sl xs g =>
      cases g with
      |view l =>
       cases l with
       |tmp s=>exact⟨by rw [FF];exact U9.2 a.1,a.2⟩
       |cell k' j=>exact absurd rfl (c xs k' j)
       |_=>exact a
      |_=>exact a
     |_=>exact a
theorem Az.keep {l:Loc}{xs:List (List PV)}(h:Az w G l xs v)(hk:∀ b,G.Ω b=some l->G'.Ω b=some l/\w'.heap[b]?=w.heap[b]?/\∀ i,G'.U b i->G.U b i):Az w' G' l xs v:=by
 rcases h with h|⟨b,cap,sz,T,arr,a,c,d,e,f,g,j⟩
 . exact .inl h
 . obtain⟨k1,k2,k3⟩:=hk b e
   exact .inr ⟨b,cap,sz,T,arr,a,c,d,k1,k2.trans f,g,fun i k=>j i (k3 i k)⟩
theorem B9.keep {l:Loc}{xs:List (List Value)}(h:B9 w G l xs v)(hk:∀ b,G.Ω b=some l->G'.Ω b=some l/\w'.heap[b]?=w.heap[b]?/\∀ i,G'.U b i->G.U b i):B9 w' G' l xs v:=by
 rcases h with h|⟨b,cap,sz,T,arr,c,d,e,f,g,j,k,m⟩
 . exact .inl h
 . obtain⟨k1,k2,k3⟩:=hk b g
   exact .inr ⟨b,cap,sz,T,arr,c,d,e,f,k1,k2.trans j,k,fun i n=>m i (k3 i n)⟩
theorem Inv.setObj {k b:Nat}{cs cs':List PV}{arr':Array Value}{o o':Obj}(h:Inv w0 G0 st tm w G)(hk:G.φ[k]?=some b)(hcs:st.σ[k]?=some cs)(hb:w.heap[b]?=some o)
 (hb':w'.heap[b]?=some o') (hlay:Z5 w G.U o' arr' cs') (hold:∀ i,i≠b->w'.heap[i]?=w.heap[i]?) (hos:w'.os=w.os) (htp:w'.tape=w.tape) (hout:w'.output=w.output)
 (hc:DQ w G cs' arr') (ht:∀ j c,cs'[j]?=some c->Ca w G (.cell k j) c (arr'.getD j Go.undef))
 (hvw:∀ t xs j v,st.get t=.sl xs (.view (.cell k j))->cs[j]?=some (.sl xs .own)->w.cell? ⟨b,j,none⟩=some v->cs'[j]?=some (.sl xs .own)/\w'.cell? ⟨b,j,none⟩=some v) :
 Inv w0 G0 { st with σ:=st.σ.set k cs' } tm w' G:=by
 have C:k<st.σ.length:=(List.getElem?_eq_some_iff.1 hcs).1
 have x:b∈G.φ:=Ò hk
 have D:w'.heap.size=w.heap.size:=by
  have n:b<w'.heap.size:=(Array.getElem?_eq_some_iff.1 hb').1
  have r:b<w.heap.size:=(Array.getElem?_eq_some_iff.1 hb).1
  rcases Nat.lt_trichotomy w'.heap.size w.heap.size with h3|h3|h3
  . have f:=hold w'.heap.size (by omega)
    rw [Array.getElem?_eq_none (by omega),à (by omega)] at f;cases f
  . exact h3
  . have f:=hold w.heap.size (by omega)
    rw [Array.getElem?_eq_none (xs:=w.heap) (by omega),à (by omega)] at f;cases f
 have a:∀ b' i,G.U b' i->G.U b' i/\Kp w w' b' i:=fun b' i B=>by
  refine⟨B,Kp.of (hold b' ?_)⟩
  rintro rfl
  exact (h.store.blk k b' cs hk hcs).noU i B
 have ownK:∀ l xs v,Az w G l xs v->Az w' G l xs v:=fun l xs v I=>I.keep fun b2 p=>⟨p,hold b2 (by rintro rfl;exact (h.store.ob b2 (by rw [p];simp)).2 x),fun i E=>E⟩
 have prvK:∀ l xs v,B9 w G l xs v->B9 w' G l xs v:=fun l xs v I=>I.keep fun b2 p=>⟨p,hold b2 (by rintro rfl;exact (h.store.ob b2 (by rw [p];simp)).2 x),fun i E=>E⟩
 have tagK:∀ l c v,Ca w G l c v->Ca w' G l c v:=by
  intro l c v ht
  unfold Ca at ht ⊢
  split
  . exact ownK _ _ _ ht
  . exact prvK _ _ _ ht
  . trivial
 have F:=h.store.nodup
 refine⟨?_,?_,?_⟩
 . refine h.ext.trans ⟨hos,htp,hout,by omega,fun i _ n _=>hold i (by rintro rfl;exact n x),a,fun b i B=>.inl B,fun b hb=>.inr hb,[],by simp,by simp⟩
 . refine⟨by simp [h.store.len],F,fun k2 b2 cs2 n r=>?_,fun b i B=>by rw [D];exact h.store.ub b i B,fun b hb=>by rw [D];exact h.store.ob b hb⟩
   by_cases e:k2=k
   . subst e
     rw [hk] at n
     obtain rfl:=Af n
     rw [ē C] at r
     obtain rfl:=Af r
     refine⟨⟨o',arr',hb',⟨hlay.mono a,hc.size⟩,fun j c H=>?_⟩,(h.store.blk k2 b cs hk hcs).noU⟩
     have y:=List.getElem?_eq_some_iff.1 H
     obtain⟨h3,f⟩:=hc.v j y.1
     rw [y.2] at h3
     have J:j<arr'.size:=by rw [hc.size];exact y.1
     exact⟨arr'.getD j Go.undef,by simp [J],f,h3.mono a (fun _ _ h=>h),tagK _ _ _ (ht j c H)⟩
   . rw [List.getElem?_set_ne (fun e2=>e e2.symm)] at r
     have z:b2≠b:=by
      grind [List.getElem?_eq_some_iff,List.getElem_inj]
     obtain⟨⟨T2,arr2,h3,f,K⟩,L⟩:=h.store.blk k2 b2 cs2 n r
     refine⟨⟨T2,arr2,(hold b2 z).trans h3,⟨f.1.mono a,f.2⟩,fun j c H=>?_⟩,L⟩
     obtain⟨v,N,O,P,M⟩:=K j c H
     exact⟨v,N,O,P.mono a (fun _ _ h=>h),tagK _ _ _ M⟩
 . refine⟨fun t=>(h.env.v t).mono a (fun _ _ h=>h),fun t=>?_⟩
   have d:=h.env.tag t
   have A:=hvw t
   show Dz _ _ _ _ _ (st.get t) _
   revert d A
   generalize st.get t=q
   intro d A
   cases q with
   |prv xs=>exact prvK _ _ _ d
   |sl xs g =>
    cases g with
    |own=>exact ownK _ _ _ d
    |view m =>
     cases m with
     |tmp s=>exact d
     |cell k2 j =>
      obtain⟨cs2,b2,n,r,h3,f⟩:=d
      by_cases e:k2=k
      . subst e
        rw [hk] at h3
        obtain rfl:=Af h3
        rw [hcs] at n
        obtain rfl:=Af n
        obtain⟨e1,e2⟩:=A xs j _ rfl r f
        exact⟨cs',b,ē C,e1,hk,e2⟩
      . have z:b2≠b:=by
         rintro rfl
         have K:=(List.getElem?_eq_some_iff.1 h3)
         have L:=(List.getElem?_eq_some_iff.1 hk)
         exact e ((List.getElem_inj F).1 (K.2.trans L.2.symm))
        refine⟨cs2,b2,?_,r,h3,?_⟩
        . grind [Ca]
        . rw [Ċ (w:=w) (hold b2 z)];exact f
     |_=>exact d
    |_=>trivial
   |tup cs2 =>
    intro i xs E
    obtain⟨arr2,u,n,r,h3⟩:=d i xs E
    exact⟨arr2,u,n,r,ownK _ _ _ h3⟩
   |_=>trivial
theorem Inv.setBlock {k b:Nat}{cs cs':List PV}{arr arr':Array Value}{T:TypeId}(h:Inv w0 G0 st tm w G)(hk:G.φ[k]?=some b)(hcs:st.σ[k]?=some cs)(hb:w.heap[b]?=some (.cells arr T (0,0)))
 (hb':w'.heap[b]?=some (.cells arr' T (0,0))) (hm:∀ p∈cs',p.isM=false) (hold:∀ i,i≠b->w'.heap[i]?=w.heap[i]?) (hos:w'.os=w.os) (htp:w'.tape=w.tape) (hout:w'.output=w.output)
 (hc:DQ w G cs' arr') (ht:∀ j c,cs'[j]?=some c->Ca w G (.cell k j) c (arr'.getD j Go.undef))
 (hvw:∀ t xs j,st.get t=.sl xs (.view (.cell k j))->cs'[j]?=cs[j]?/\arr'[j]?=arr[j]?) :
 Inv w0 G0 { st with σ:=st.σ.set k cs' } tm w' G:=by
 refine h.setObj hk hcs hb hb' (.inl ⟨⟨T,rfl⟩,hm⟩) hold hos htp hout hc ht fun t xs j v e f a=>?_
 obtain⟨e1,e2⟩:=hvw t xs j e
 refine⟨by rw [e1];exact f,?_⟩
 simp only [World.cell?,hb] at a
 simp only [World.cell?,hb']
 simpa [e2] using a
theorem Inv.reblk {b m:Nat}{l0:Loc}{o':Obj}(h:Inv w0 G0 st tm w G)(hb:b∉G.φ)(hfree:w.heap.size<=b∨G.Ω b≠none)
 (hno:∀ l,G.Ω b=some l->∀ ys,AP st l≠.sl ys .own) (hno2:∀ l,G.Ω b=some l->∀ ys,AP st l≠.prv ys) (hos:w'.os=w.os) (htp:w'.tape=w.tape) (hout:w'.output=w.output) (hsize:w.heap.size<=w'.heap.size)
 (hold:∀ k,k<w.heap.size->k≠b->w'.heap[k]?=w.heap[k]?) (hU:∀ i,G.U b i->Kp w w' b i/\i<m)
 (hb':w'.heap[b]?=some o') :
 Inv w0 G0 st tm w' { U:=fun b' i=>G.U b' i∨(b'=b/\i<m),φ:=G.φ,Ω:=fun b'=>if b'=b then some l0 else G.Ω b' }:=by
 have d:∀ b' i,G.U b' i->(G.U b' i∨(b'=b/\i<m))/\Kp w w' b' i:=fun b' i hu=>by
  refine⟨.inl hu,?_⟩
  by_cases e:b'=b
  . subst e;exact (hU i hu).1
  . exact Kp.of (hold b' (h.store.ub b' i hu) e)
 have F:∀ b2 l ys,G.Ω b2=some l->AP st l=.sl ys .own->b2≠b:=by
  rintro b2 l ys y n rfl;exact hno l y ys n
 have ownK:∀ l ys v,AP st l=.sl ys .own->Az w G l ys v->Az w' { U:=fun b' i=>G.U b' i∨(b'=b/\i<m),φ:=G.φ,Ω:=fun b'=>if b'=b then some l0 else G.Ω b' } l ys v:=by
  intro l ys v B L
  refine L.keep fun b2 a=>?_
  have C:=F b2 l ys a B
  refine⟨by show (if b2=b then _ else _)=_;rw [Ä C];exact a,hold b2 (h.store.ob b2 (by rw [a];simp)).1 C,fun i hi=>?_⟩
  rcases hi with hi|hi
  . exact hi
  . exact absurd hi.1 C
 have prvK:∀ l ys v,AP st l=.prv ys->B9 w G l ys v->B9 w' { U:=fun b' i=>G.U b' i∨(b'=b/\i<m),φ:=G.φ,Ω:=fun b'=>if b'=b then some l0 else G.Ω b' } l ys v:=by
  intro l ys v B L
  refine L.keep fun b2 a=>?_
  have C:b2≠b:=by rintro rfl;exact hno2 l a ys B
  refine⟨by show (if b2=b then _ else _)=_;rw [Ä C];exact a,hold b2 (h.store.ob b2 (by rw [a];simp)).1 C,fun i hi=>?_⟩
  rcases hi with hi|hi
  . exact hi
  . exact absurd hi.1 C
 have A:∀ (k x:Nat),G.φ[k]?=some x->x<w.heap.size/\x≠b:=by
  intro k x H
  have M:k<st.σ.length:=by rw [<- h.store.len];exact (List.getElem?_eq_some_iff.1 H).1
  obtain⟨⟨T2,arr2,h3,_⟩,_⟩:=h.store.blk k x _ H (Ã M)
  exact⟨(Array.getElem?_eq_some_iff.1 h3).1,by rintro rfl;exact hb (Ò H)⟩
 have I:Ext w G w' { U:=fun b' i=>G.U b' i∨(b'=b/\i<m),φ:=G.φ,Ω:=fun b'=>if b'=b then some l0 else G.Ω b' }:=by
  refine⟨hos,htp,hout,hsize,fun k H y n=>hold k H ?_,d,fun b' i hu=>?_,fun b' a=>?_,[],by simp,by simp⟩
  . rintro rfl
    rcases hfree with h3|h3
    . omega
    . exact h3 n
  . rcases hu with hu|⟨rfl,_⟩
    . exact .inl hu
    . exact .inr hfree
  . grind [Ca]
 refine⟨h.ext.trans I,?_,?_⟩
 . refine⟨h.store.len,h.store.nodup,fun k x cs y n=>?_,fun b' i hu=>?_,fun b' a=>?_⟩
   . obtain⟨D,z⟩:=A k x y
     obtain⟨⟨T2,arr2,h3,K,O⟩,P⟩:=h.store.blk k x cs y n
     refine⟨⟨T2,arr2,(hold x D z).trans h3,⟨K.1.mono d,K.2⟩,fun j c N=>?_⟩,fun i hu=>?_⟩
     . obtain⟨v,R,S,T,E⟩:=O j c N
       refine⟨v,R,S,T.mono d (fun _ _ h=>h),?_⟩
       unfold Ca at E ⊢
       split
       . exact ownK _ _ _ (by simp [AP,List.getD,n,N]) E
       . exact prvK _ _ _ (by simp [AP,List.getD,n,N]) E
       . trivial
     . rcases hu with hu|hu
       . exact P i hu
       . exact z hu.1
   . rcases hu with hu|⟨rfl,_⟩
     . exact ñ (h.store.ub b' i hu) hsize
     . exact (Array.getElem?_eq_some_iff.1 hb').1
   . by_cases e:b'=b
     . subst e;exact⟨(Array.getElem?_eq_some_iff.1 hb').1,hb⟩
     . have:(if b'=b then some l0 else G.Ω b')≠none:=a
       rw [Ä e] at this
       have:=h.store.ob b' this
       exact⟨ñ this.1 hsize,this.2⟩
 . show Hp _ _ st tm
   have J:Hp w' { U:=fun b' i=>G.U b' i∨(b'=b/\i<m),φ:=G.φ,Ω:=fun b'=>if b'=b then some l0 else G.Ω b' } st tm:=by
    refine⟨fun t=>(h.env.v t).mono d (fun _ _ h=>h),fun t=>?_⟩
    have f:=h.env.tag t
    have o:∀ ys,st.get t=.sl ys .own->AP st (.tmp t)=.sl ys .own:=fun ys e=>e
    have p:∀ ys,st.get t=.prv ys->AP st (.tmp t)=.prv ys:=fun ys e=>e
    have r:∀ cs i ys,st.get t=.tup cs->cs[i]?=some (.sl ys .own)->AP st (.tcomp t i)=.sl ys .own:=fun cs i ys e e2=>by simp [AP,e,List.getD,e2]
    revert f o r p
    generalize st.get t=q
    intro f o p r
    cases q with
    |prv ys=>exact prvK _ _ _ (p ys rfl) f
    |sl ys g =>
     cases g with
     |own=>exact ownK _ _ _ (o ys rfl) f
     |view m =>
      cases m with
      |tmp s=>exact f
      |cell k j =>
       obtain⟨cs,x,y,n,h3,K⟩:=f
       obtain⟨D,z⟩:=A k x h3
       exact⟨cs,x,y,n,h3,by rw [Ċ (w:=w) (hold x D z)];exact K⟩
      |_=>exact f
     |_=>trivial
    |tup cs =>
     intro i ys hi
     obtain⟨arr2,u,y,n,h3⟩:=f i ys hi
     exact⟨arr2,u,y,n,ownK _ _ _ (r cs i ys rfl hi) h3⟩
    |_=>trivial
   exact J
theorem Inv.own {b d sz cap:Nat}{xs:List (List PV)}{arr:Array Value}{T:TypeId}(h:Inv w0 G0 st tm w G)(hb:b∉G.φ)(hfree:w.heap.size<=b∨G.Ω b≠none)
 (hno:∀ l,G.Ω b=some l->∀ ys,AP st l≠.sl ys .own) (hno2:∀ l,G.Ω b=some l->∀ ys,AP st l≠.prv ys) (hos:w'.os=w.os) (htp:w'.tape=w.tape) (hout:w'.output=w.output) (hsize:w.heap.size<=w'.heap.size)
 (hold:∀ k,k<w.heap.size->k≠b->w'.heap[k]?=w.heap[k]?) (hU:∀ i,G.U b i->Kp w w' b i/\i<xs.length*sz)
 (hb':w'.heap[b]?=some (.cells arr T (0,0))) (hsz:arr.size=cap*sz) (hne:xs≠[]) (hrow:∀ x∈xs,x.length=sz) (hcap:xs.length<=cap) (hcap2:cap<=9223372036854775807)
 (hv:∀ i (hi:i<xs.length) j (hj:j<(xs[i]).length),V w G.U [] xs[i][j] (arr.getD (i*sz+j) Go.undef)/\(arr.getD (i*sz+j) Go.undef).oneCell'=true) :
 Inv w0 G0 (st.put (some d) (.sl xs .own)) (FN tm d (.slice (some ⟨b,0,none⟩) xs.length cap)) w' { U:=fun b' i=>G.U b' i∨(b'=b/\i<xs.length*sz),φ:=G.φ,Ω:=fun b'=>if b'=b then some (.tmp d) else G.Ω b' }:=by
 have n:=h.reblk (m:=xs.length*sz) (l0:=.tmp d) hb hfree hno hno2 hos htp hout hsize hold hU hb'
 have f:∀ b' i,G.U b' i->(G.U b' i∨(b'=b/\i<xs.length*sz))/\Kp w w' b' i:=fun b' i g=>by
  refine⟨.inl g,?_⟩
  by_cases e:b'=b
  . subst e;exact (hU i g).1
  . exact Kp.of (hold b' (h.store.ub b' i g) e)
 have c:∀ i j,i<xs.length->j<sz->i*sz+j<xs.length*sz:=by
  intro i j hi hj
  calc i*sz+j<i*sz+sz:=by omega
   _=(i+1)*sz:=by rw [ó,ĝ]
   _<=xs.length*sz:=î _ hi
 have o:xs.length*sz<=arr.size:=by rw [hsz];exact î _ hcap
 refine n.put d ?_ ?_
 . refine .sl _ _ _ b 0 sz cap (fun i j=>arr.getD (i*sz+j) Go.undef) hcap hcap2 (fun i hi=>hrow _ (Ù hi)) (fun i j hi hj=>.inr ⟨rfl,by have:=c i j hi hj;omega⟩) (fun i j hi hj=>?_) (fun i j hi hj=>?_) (fun i hi j hj=>?_) (by simp) (by simp)
   . have:=c i j hi hj
     simp only [World.cell?,hb',ò]
     have p:i*sz+j<arr.size:=by omega
     simp [p]
   . have q:=hrow _ (Ù hi)
     exact (hv i hi j (by rw [q];exact hj)).2
   . exact (hv i hi j hj).1.mono f (fun _ _ h=>h)
 . exact .inr ⟨b,cap,sz,T,arr,rfl,hne,hrow,Ç rfl,hb',hsz,fun i hi=>by
    rcases hi with hi|hi
    . exact (hU i hi).2
    . exact hi.2⟩
theorem Inv.ownP {b d sz cap:Nat}{xs:List (List Value)}{arr:Array Value}{T:TypeId}(h:Inv w0 G0 st tm w G)(hb:b∉G.φ)(hfree:w.heap.size<=b∨G.Ω b≠none)
 (hno:∀ l,G.Ω b=some l->∀ ys,AP st l≠.sl ys .own) (hno2:∀ l,G.Ω b=some l->∀ ys,AP st l≠.prv ys) (hos:w'.os=w.os) (htp:w'.tape=w.tape) (hout:w'.output=w.output) (hsize:w.heap.size<=w'.heap.size)
 (hold:∀ k,k<w.heap.size->k≠b->w'.heap[k]?=w.heap[k]?) (hU:∀ i,¬ G.U b i)
 (hb':w'.heap[b]?=some (.cells arr T (0,0))) (hne:xs≠[]) (hcap:xs.length<=cap/\cap<=9223372036854775807) (hrow:∀ x∈xs,x.length=sz)
 (hc:arr.size=cap*sz/\(∀ i,i<arr.size->(arr.getD i Go.undef).oneCell'=true)/\∀ i (hi:i<xs.length) j (hj:j<(xs[i]).length),arr.getD (i*sz+j) Go.undef=xs[i][j]) :
 ∃ G',Inv w0 G0 (st.put (some d) (.prv xs)) (FN tm d (.slice (some ⟨b,0,none⟩) xs.length cap)) w' G' :=
 ⟨_,(h.reblk (m:=0) (l0:=.tmp d) hb hfree hno hno2 hos htp hout hsize hold (fun i hu=>absurd hu (hU i)) hb').put d (.prv _ _ _ _)
  (.inr ⟨b,cap,sz,T,arr,rfl,hne,hcap,hrow,Ç rfl,hb',hc,fun i hu=>hu.elim (hU i) fun h=>by omega⟩)⟩
end
end Go.Vl
namespace Go.Vl
open Go Go.RowKit
section
variable {w w' w0:World} {G G' G0:Gh} {P:Program} {p q:PV} {v u:Value} {st st':St} {a:Act} {o:Oper} {d:Nat}
theorem CC (b:Nat)(T:TypeId):∀ (vs:List Value) (o:Nat) (w:World) (arr:Array Value),w.heap[b]?=some (.cells arr T (0,0)) ->
 ∃ arr',(w.setCells b o vs).heap[b]?=some (.cells arr' T (0,0))/\arr'.size=arr.size/\(∀ i,arr'[i]?=if o<=i/\i<o+vs.length/\i<arr.size then vs[i-o]? else arr[i]?) /\
  (∀ i,i≠b->(w.setCells b o vs).heap[i]?=w.heap[i]?)/\(w.setCells b o vs).heap.size=w.heap.size/\(w.setCells b o vs).os=w.os/\(w.setCells b o vs).tape=w.tape/\(w.setCells b o vs).output=w.output
 | [],o,w,arr,h=>⟨arr,h,rfl,fun i=>by rw [Ä (by simp;omega)],fun _ _=>rfl,rfl,rfl,rfl,rfl⟩
 |x::vs,o,w,arr,h=>by
  have h1:=Go.Q.heap_setCell_same w b o x arr T h
  obtain⟨arr',k1,k2,k3,k4,k5,k6,k7,k8⟩:=CC b T vs (o+1) _ _ h1
  refine⟨arr',k1,by rw [k2];simp,fun i=>?_,fun i hi=>(k4 i hi).trans (Below.heap_setCell _ _ _ _ hi),by rw [World.setCells,k5];simp [World.setCell],by rw [World.setCells,k6];rfl,by rw [World.setCells,k7];rfl,by rw [World.setCells,k8];rfl⟩
  rw [k3 i]
  simp only [Array.size_setIfInBounds,æ]
  by_cases e:i=o
  . subst e
    rw [Ä (by omega)]
    by_cases hs:i<arr.size
    . rw [Ç (by omega)];simp [hs]
    . rw [Ä (by omega)];simp [hs]
  . by_cases hc:o+1<=i/\i<o+1+vs.length/\i<arr.size
    . rw [Ç hc,Ç (by omega)]
      have:i-o=(i-(o+1))+1:=by omega
      rw [this,List.getElem?_cons_succ]
    . rw [Ä hc,Ä (by omega),ğ (fun e2=>e e2.symm)]
theorem O6 (T:TypeId)(arr:Array Value)(w:World):(newRow T arr).run P w=.ok ⟨w.heap.size,0,none⟩ (w.alloc (.cells arr T)):=by
 simp only [newRow,Ð,run_newObj,Ê,Ö];rfl
def zeroV (P:Program)(T:TypeId):Option (List PV):=(SQ P T).map fun z=>z.map Gb
def OA (P:Program)(T:TypeId)(st:St)(d:Nat):Option St :=
 (zeroV P T).map fun z=>({ st with σ:=st.σ++[z] }:St).put (some d) (.ptr st.σ.length 0)
theorem Ay.lt {σ:List (List PV)}(h:Ay w G σ){b:Nat}(hb:b∈G.φ):b<w.heap.size:=by
 obtain⟨k,c,rfl⟩:=ö hb
 have a:k<σ.length:=by rw [<- h.len];exact c
 obtain⟨⟨T,arr,d,_⟩,_⟩:=h.blk k _ _ (Ã c) (Ã a)
 all_goals grind
theorem Ue {T:TypeId}(h:Inv w0 G0 st (fun t=>a.tmps.getD t Go.undef) w G)(he:OA P T st d=some st') :
 ∃ v w' G',(Instr.alloc T true (.tuple #[])).run P w=.ok v w'/\Inv w0 G0 st' (FN (fun t=>a.tmps.getD t Go.undef) d v) w' G'/\∀ b∈G.φ,w'.heap[b]?=w.heap[b]?:=by
 unfold OA zeroV at he
 cases m:SQ P T with
 |none=>rw [m] at he;cases he
 |some z =>
  rw [m] at he
  obtain rfl:=Af he
  obtain⟨zv,n,e⟩:=OJ (w:=w) (G:=G) m
  have o:DQ w G (z.map Gb) zv.cells:=⟨by rw [e.size];simp,fun i p=>by
   have g:i<z.length:=by simpa using p
   simp only [é]
   exact⟨Qq (e.v i g).1,(e.v i g).2⟩⟩
  obtain⟨q,r⟩:=h.newBlock (T:=T) (Nv z) o (fun j c k=>by
   rw [ç] at k
   cases f:z[j]? with
   |none=>rw [f] at k;cases k
   |some y =>
    rw [f] at k
    obtain rfl:=Af k
    have l:=List.getElem?_eq_some_iff.1 f
    have:=(e.v j l.1).1
    rw [l.2] at this
    exact LS this _)
  refine⟨.pointer (some ⟨w.heap.size,0,none⟩),w.alloc (.cells zv.cells T),_,?_,q.putPlain d (.ptr _ _ _ _ r) rfl,?_⟩
  . simp only [Instr.alloc,Ð,OI n,Ê,newVar,O6,Ö]
  . exact fun b hb=>ê _ _ _ (h.store.lt hb)
def Kz (st:St):Operand->Option (Nat×List (List PV))
 |.tmp s=>match st.get s with|.sl xs .own=>some (s,xs)|_=>none
 |_=>none
theorem NY {x:Operand}{s:Nat}{xs:List (List PV)}(h:Kz st x=some (s,xs)):x=.tmp s/\st.get s=.sl xs .own:=by
 unfold Kz at h
 all_goals grind [Kz]
def Pp (st:St):Operand->Option (Nat×List (List Value))
 |.tmp s=>match st.get s with|.prv xs=>some (s,xs)|_=>none
 |_=>none
theorem Tt {x:Operand}{s:Nat}{xs:List (List Value)}(h:Pp st x=some (s,xs)):x=.tmp s/\st.get s=.prv xs:=by
 unfold Pp at h
 all_goals grind [Pp]
theorem Ol (h:(Hk p||LZ p)=true):Hk p=true∨∃ cs,p=.agg cs:=by
 rw [ú] at h
 rcases h with h|h
 . exact .inl h
 . cases p with
   |agg cs=>exact .inr ⟨cs,rfl⟩
   |_=>cases h
theorem Rb {xs:List (List PV)}{g:Grow}{φ:List Nat}{U:Nat->Nat->Prop}(h:V w U φ (.sl xs g) v):v.cells = #[v]:=by
 cases h<;>rfl
def Wy (st:St)(d:Nat)(x:Operand):Option St :=
 match Kz st x with
 |some (s,xs)=>some (({ (st.put (some s) (.sl xs .shared)) with σ:=st.σ++[[.sl xs .own]] }:St).put (some d) (.ptr st.σ.length 0))
 |none=>if Hk (Ck st x)||LZ (Ck st x) then some (({ st with σ:=st.σ++[(Cm (Ck st x)).map Gb] }:St).put (some d) (.ptr st.σ.length 0)) else none
theorem X3 {T:TypeId}{x:Operand}(h:Inv w0 G0 st (fun t=>a.tmps.getD t Go.undef) w G)(he:Wy st d x=some st') :
 ∃ v w' G',(Instr.box T (a.eval x)).run P w=.ok v w'/\Inv w0 G0 st' (FN (fun t=>a.tmps.getD t Go.undef) d v) w' G'/\∀ b∈G.φ,w'.heap[b]?=w.heap[b]?:=by
 have run:∀ v:Value,(Instr.box T v).run P w=.ok (.pointer (some ⟨w.heap.size,0,none⟩)) (w.alloc (.cells v.cells T)):=fun v=>by
  simp only [Instr.box,Ð,newVar,O6,Ê,Ö]
 have p:=Bz (a:=a) h.env x
 unfold Wy at he
 split at he
 . rename_i s xs u
   obtain⟨rfl,l⟩:=NY u
   obtain rfl:=Af he
   have hO:Az w G (.tmp s) xs (a.tmps.getD s Go.undef):=by have:=h.env.tag s;rw [l] at this;exact this
   have D:Ck st (.tmp s)=.sl xs .own:=l
   rw [D] at p
   have E:=(h.share l).rel (.tmp s) (.cell st.σ.length 0) (fun ys e=>by rw [AP,B7,Ç rfl] at e;cases e) (fun ys e=>by rw [AP,B7,Ç rfl] at e;cases e)
   have z:DQ w (G.rel (.tmp s) (.cell st.σ.length 0)) [.sl xs .own] (a.eval (.tmp s)).cells:=by
    have:=p.cells (.inl rfl)
    exact⟨this.1,fun i A=>this.2 i A⟩
   have f:=Rb p
   obtain⟨q,r⟩:=E.newBlock (T:=T) (cs:=[.sl xs .own]) (by simp [PV.isM]) z (fun j c k=>by
    have B:=List.getElem?_eq_some_iff.1 k
    have C:j=0:=by have:=B.1;simp at this;exact this
    subst C
    obtain rfl:PV.sl xs .own=c:=by simpa using k
    rw [f,Kx]
    exact hO.to rfl Fv)
   rw [Kx] at q r
   exact⟨_,_,_,run _,q.putPlain d (.ptr _ _ _ _ r) rfl,fun b hb=>ê _ _ _ (h.store.lt hb)⟩
 . split at he
   . rename_i F
     obtain rfl:=Af he
     have g:=p.cells (Ol F)
     have z:DQ w G ((Cm (Ck st x)).map Gb) (a.eval x).cells:=⟨by rw [g.1];simp,fun i A=>by
      have n:i<(Cm (Ck st x)).length:=by simpa using A
      simp only [é]
      exact⟨Qq (g.2 i n).1,(g.2 i n).2⟩⟩
     obtain⟨q,r⟩:=h.newBlock (T:=T) (Nv _) z (fun j c k=>by
      rw [ç] at k
      cases m:(Cm (Ck st x))[j]? with
      |none=>rw [m] at k;cases k
      |some y =>
       rw [m] at k
       obtain rfl:=Af k
       have o:=List.getElem?_eq_some_iff.1 m
       have:=(g.2 j o.1).1
       rw [o.2] at this
       exact LS this _)
     exact⟨_,_,_,run _,q.putPlain d (.ptr _ _ _ _ r) rfl,fun b hb=>ê _ _ _ (h.store.lt hb)⟩
   . cases he
def splice (cs:List PV)(o:Nat)(ns:List PV):List PV:=cs.take o++ns++cs.drop (o+ns.length)
def GM (P:Program)(T:TypeId)(st:St)(x y:Operand):Option (Bool×St) :=
 match Ck st x,Lv P T with
 |.ptr b o,some n =>
  match Mh st.σ[b]? with
  |some cs =>
   match Kz st y with
   |some (s,xs)=>some (decide (n=1/\o<cs.length),{ ((st.put (some s) (.sl xs .shared)).stripC b o 1) with σ:=st.σ.set b (splice cs o [.sl xs .own]) })
   |none=>match Pp st y with
    |some (s,xs)=>some (decide (n=1/\o<cs.length),{ ((st.put (some s) .undef).stripC b o 1) with σ:=st.σ.set b (splice cs o [.prv xs]) })
    |none=>if Hk (Ck st y)||LZ (Ck st y) then some (decide ((Cm (Ck st y)).length=n/\o+n<=cs.length),{ (st.stripC b o n) with σ:=st.σ.set b (splice cs o ((Cm (Ck st y)).map Gb)) }) else none
  |none=>none
 |_,_=>none
theorem UD {cs ns:List PV}{o:Nat}(h:o+ns.length<=cs.length)(i:Nat):(splice cs o ns)[i]?=if o<=i/\i<o+ns.length then ns[i-o]? else cs[i]?:=by
 unfold splice
 have a:(cs.take o).length=o:=by simp;omega
 all_goals grind [splice]
theorem Pd {cs ns:List PV}{o:Nat}(h:o+ns.length<=cs.length):(splice cs o ns).length=cs.length:=by
 unfold splice;simp;omega
theorem Nh {k b o:Nat}{cs ns:List PV}{vs:List Value}(h:Inv w0 G0 st (fun t=>a.tmps.getD t Go.undef) w G)(hk:G.φ[k]?=some b)(hcs:st.σ[k]?=some cs)(hnm:NM cs)(hns:∀ p∈ns,p.isM=false)(hl:o+ns.length<=cs.length)(hlen:vs.length=ns.length)
 (hv:∀ i (hi:i<ns.length),V w G.U G.φ ns[i] (vs.getD i Go.undef)/\(vs.getD i Go.undef).oneCell'=true) (ht:∀ i (hi:i<ns.length),Ca w G (.cell k (o+i)) ns[i] (vs.getD i Go.undef))
 (hvw:∀ t xs j,st.get t=.sl xs (.view (.cell k j))->j<o∨o+ns.length<=j) :
 (storeCells ⟨b,o,none⟩ vs).run P w=.ok () (w.setCells b o vs)/\Inv w0 G0 { st with σ:=st.σ.set k (splice cs o ns) } (fun t=>a.tmps.getD t Go.undef) (w.setCells b o vs) G:=by
 obtain⟨⟨o',arr,hb,⟨f,r⟩,d⟩,A⟩:=h.store.blk k b cs hk hcs
 obtain⟨T,rfl⟩:=f.cells hnm
 have D:∀ p∈cs,p.isM=false:=by
  rcases f with s|⟨kvs,_,_,e,_⟩|⟨_,_,e,_⟩
  . exact s.2
  . exact absurd (hnm _ e) (by simp [PV.isM])
  . exact absurd (hnm _ e) (by simp [PV.isM])
 obtain⟨arr',k1,k2,k3,k4,k5,k6,k7,k8⟩:=CC b T vs o w arr hb
 have x:∀ j,j<vs.length->(w.cell? ⟨b,o+0+j,none⟩).isSome=true:=by
  intro j l
  have:o+j<arr.size:=by omega
  simp [World.cell?,hb,this]
 have m:=run_storeCells_cells (P:=P) b o vs 0 w x (fun j l=>by simp only [World.frozen?,hb];simp) (fun u E=>by
  obtain⟨i,hi,rfl⟩:=ö E
  have:=(hv i (by omega)).2
  simpa [hi] using this)
 refine⟨by simpa using m,?_⟩
 have n:∀ i,arr'.getD i Go.undef=if o<=i/\i<o+vs.length/\i<arr.size then vs.getD (i-o) Go.undef else arr.getD i Go.undef:=by
  intro i
  rw [É,k3 i]
  split
  . simp [List.getD]
  . simp
 have g:=UD (cs:=cs) (ns:=ns) (o:=o) hl
 refine h.setBlock hk hcs hb k1 (fun kvs I=>?_) k4 k6 k7 k8 ⟨by rw [k2,r,Pd hl],fun i hi=>?_⟩ (fun j c l=>?_) (fun t xs j l=>?_)
 . grind [splice]
 . have q:i<cs.length:=by rw [<- Pd hl];exact hi
   have e:=g i
   rw [Ã hi] at e
   rw [n i]
   by_cases y:o<=i/\i<o+ns.length
   . grind [splice]
   . rw [Ä y,Ã q] at e
     rw [Ä (by omega),Af e]
     obtain⟨v,z,B,C,_⟩:=d i cs[i] (Ã q)
     have:arr.getD i Go.undef=v:=by simp [z]
     rw [this];exact⟨C,B⟩
 . rw [g j] at l
   rw [n j]
   by_cases y:o<=j/\j<o+ns.length
   . grind [splice]
   . rw [Ä y] at l
     have F:=(List.getElem?_eq_some_iff.1 l).1
     rw [Ä (by omega)]
     obtain⟨v,z,B,C,H⟩:=d j c l
     have:arr.getD j Go.undef=v:=by simp [z]
     rw [this];exact H
 . grind [splice]
theorem Ib {b i:Nat}(hi:i≠b):∀ (vs:List Value) (o:Nat) (w:World),(w.setCells b o vs).heap[i]?=w.heap[i]?
 | [],_,_=>rfl
 |v::vs,o,w=>by
  show ((w.setCell ⟨b,o,none⟩ v).setCells b (o+1) vs).heap[i]?=_
  rw [Ib hi vs];exact Below.heap_setCell _ _ _ _ hi
theorem K8 {T:TypeId}{x y:Operand}(h:Inv w0 G0 st (fun t=>a.tmps.getD t Go.undef) w G)(he:GM P T st x y=some (true,st')) :
 ∃ w' G',(Instr.storeAt T (a.eval x) (a.eval y)).run P w=.ok () w'/\Inv w0 G0 st' (fun t=>a.tmps.getD t Go.undef) w' G' /\
  ∀ k o kb,Ck st x=.ptr k o->G.φ[k]?=some kb->∀ b,b≠kb->w'.heap[b]?=w.heap[b]?:=by
 unfold GM at he
 have H:=Bz (a:=a) h.env x
 have m:=Bz (a:=a) h.env y
 split at he
 . rename_i k o n F R
   rw [F] at H
   revert H
   generalize a.eval x=xv
   intro H
   cases H with
   |ptr _ _ _ b I =>
   have run:∀ (v:Value),v.cells.size=n->∀ w',(storeCells ⟨b,o,none⟩ v.cells.toList).run P w=.ok () w'->(Instr.storeAt T (.pointer (some ⟨b,o,none⟩)) v).run P w=.ok () w':=by
    intro v S w' U
    simp only [Instr.storeAt,Instr.sureAddr,storeVar,Ð,Ö,Ê,Ej R,Ġ]
    rw [Ä (by simp [S])]
    simp only [U]
   split at he
   . rename_i cs r
     obtain⟨r,C⟩:=Hb r
     split at he
     . rename_i s xs D
       obtain⟨rfl,l⟩:=NY D
       simp only [Â,È,Í] at he
       obtain⟨⟨rfl,N⟩,rfl⟩:=he
       have hO:Az w G (.tmp s) xs (a.tmps.getD s Go.undef):=by have:=h.env.tag s;rw [l] at this;exact this
       have K:Ck st (.tmp s)=.sl xs .own:=l
       rw [K] at m
       have c:=Rb m
       have L:=(h.share l).rel (.tmp s) (.cell k o) (fun ys e=>by rw [AP,B7,Ç rfl] at e;cases e) (fun ys e=>by rw [AP,B7,Ç rfl] at e;cases e)
       have f:=Nh (P:=P) (L.stripC k o 1) (o:=o) (cs:=cs) (ns:=[.sl xs .own]) (vs:=(a.eval (.tmp s)).cells.toList) I (by show (st.put _ _).σ[k]?=_;rw [Kx];exact r) C (by simp [PV.isM]) (by simp;omega) (by rw [c];rfl)
        (fun i u=>by
         have g:i=0:=by simpa using u
         subst g
         rw [c]
         exact⟨m,m.oneCell rfl⟩)
        (fun i u=>by
         have g:i=0:=by simpa using u
         subst g
         rw [c]
         exact hO.to rfl Fv)
        (fun t ys j d=>by
         rw [FF] at d
         revert d
         generalize (st.put (some s) (.sl xs .shared)).get t=q
         intro d
         unfold stripC at d
         split at d
         . grind [GM,stripC]
         . rename_i A;exact absurd d (A ys k j))
       refine⟨_,G.rel (.tmp s) (.cell k o),run _ (by rw [c];rfl) _ f.1,?_,fun k2 o2 kb e1 e2 b hb=>?_⟩
       rotate_left
       . grind [Ib]
       have:=f.2
       have e:((st.put (some s) (.sl xs .shared)).stripC k o 1).σ=st.σ:=Kx _ _ _
       rw [e] at this;exact this
     . split at he
       . rename_i s xs D
         obtain⟨rfl,l⟩:=Tt D
         simp only [Â,È,Í] at he
         obtain⟨⟨rfl,N⟩,rfl⟩:=he
         have hO:B9 w G (.tmp s) xs (a.tmps.getD s Go.undef):=by have:=h.env.tag s;rw [l] at this;exact this
         have K:Ck st (.tmp s)=.prv xs:=l
         rw [K] at m
         have c:(a.eval (.tmp s)).cells = #[a.eval (.tmp s)]:=by
          revert m;generalize a.eval (.tmp s)=z;intro m;cases m;rfl
         have O:=h.put s (p:=.undef) (.undef _ (a.tmps.getD s Go.undef)) trivial
         rw [GQ (fun t=>a.tmps.getD t Go.undef)] at O
         have L:=O.rel (.tmp s) (.cell k o) (fun ys e=>by rw [AP,B7,Ç rfl] at e;cases e) (fun ys e=>by rw [AP,B7,Ç rfl] at e;cases e)
         have f:=Nh (P:=P) (L.stripC k o 1) (o:=o) (cs:=cs) (ns:=[.prv xs]) (vs:=(a.eval (.tmp s)).cells.toList) I (by show (st.put _ _).σ[k]?=_;rw [Kx];exact r) C (by simp [PV.isM]) (by simp;omega) (by rw [c];rfl)
          (fun i u=>by
           have g:i=0:=by simpa using u
           subst g
           rw [c]
           exact⟨m,m.oneCell rfl⟩)
          (fun i u=>by
           have g:i=0:=by simpa using u
           subst g
           rw [c]
           exact hO.to rfl Fv)
          (fun t ys j d=>by
           rw [FF] at d
           revert d
           generalize (st.put (some s) .undef).get t=q
           intro d
           unfold stripC at d
           split at d
           . grind [GM,stripC]
           . rename_i A;exact absurd d (A ys k j))
         refine⟨_,G.rel (.tmp s) (.cell k o),run _ (by rw [c];rfl) _ f.1,?_,fun k2 o2 kb e1 e2 b hb=>?_⟩
         rotate_left
         . grind [Ib]
         have:=f.2
         have e:((st.put (some s) .undef).stripC k o 1).σ=st.σ:=Kx _ _ _
         rw [e] at this;exact this
       . split at he
         . rename_i V
           simp only [Â,È,Í] at he
           obtain⟨⟨M,N⟩,rfl⟩:=he
           have B:=m.cells (Ol V)
           have f:=Nh (P:=P) (h.stripC k o n) (o:=o) (cs:=cs) (ns:=(Cm (Ck st y)).map Gb) (vs:=(a.eval y).cells.toList) I r C (Nv _) (by simp;omega) (by simp [B.1])
            (fun i u=>by
             have E:i<(Cm (Ck st y)).length:=by simpa using u
             simp only [é]
             have J:=B.2 i E
             have e:(a.eval y).cells.toList.getD i Go.undef=(a.eval y).cells.getD i Go.undef:=by simp [List.getD]
             rw [e]
             exact⟨Qq J.1,J.2⟩)
            (fun i u=>by
             have E:i<(Cm (Ck st y)).length:=by simpa using u
             simp only [é]
             have J:=B.2 i E
             have e:(a.eval y).cells.toList.getD i Go.undef=(a.eval y).cells.getD i Go.undef:=by simp [List.getD]
             rw [e]
             exact LS J.1 _)
            (fun t xs j d=>by
             rw [FF] at d
             revert d
             generalize st.get t=q
             intro d
             unfold stripC at d
             split at d
             . grind [GM,stripC]
             . rename_i A;exact absurd d (A xs k j))
           refine⟨_,G,run _ (by rw [B.1,M]) _ f.1,f.2,fun k2 o2 kb e1 e2 b hb=>?_⟩
           obtain⟨rfl,rfl⟩:=PV.ptr.inj (F.symm.trans e1)
           obtain rfl:=Af (I.symm.trans e2)
           exact Ib hb _ _ _
         . cases he
   . cases he
 . cases he
end
end Go.Vl
namespace Go.Vl
open Go Go.RowKit
def Zk (P:Program)(t:TypeId):Option (Nat×Nat) :=
 match P.underlying t with
 |some (.slice e)=>match P.info? e with
  |some i=>match i.zero with
   |some z=>if z.cells.size=i.size/\0<i.size/\z.cells.toList.all Value.oneCell'=true then some (i.size,i.bytes) else none
   |none=>none
  |none=>none
 |_=>none
section
variable {w w' w0:World} {G G' G0:Gh} {P:Program} {p q:PV} {v u:Value} {st st':St} {a:Act} {o:Oper} {d:Nat} {U:Nat->Nat->Prop} {φ:List Nat}
theorem KK {t sz bytes:Nat}(h:Zk P t=some (sz,bytes)):∃ e i z,P.underlying t=some (.slice e)/\P.info? e=some i/\i.zero=some z/\i.size=sz/\i.bytes=bytes/\z.cells.size=sz/\0<sz/\z.cells.toList.all Value.oneCell'=true:=by
 grind [Zk]
structure Flat (w:World) (U:Nat->Nat->Prop) (xs:List (List PV)) (sz:Nat) (vs:List Value):Prop where
 len:vs.length=xs.length*sz
 row:∀ x∈xs,x.length=sz
 v:∀ i (b:i<xs.length) j (c:j<(xs[i]).length),V w U [] xs[i][j] (vs.getD (i*sz+j) Go.undef)
 one:∀ u∈vs,u.oneCell'=true
theorem Iz {n sz i j:Nat}(hi:i<n)(hj:j<sz):i*sz+j<n*sz:=by
 calc i*sz+j<i*sz+sz:=by omega
  _=(i+1)*sz:=by rw [ó,ĝ]
  _<=n*sz:=î _ hi
theorem Aaz {sz i j:Nat}(hj:j<sz):(i*sz+j) / sz=i/\(i*sz+j) % sz=j:=by
 constructor
 . rw [Nat.mul_comm,Nat.mul_add_div (by omega),Nat.div_eq_of_lt hj,Nat.add_zero]
 . rw [Nat.mul_comm,Nat.mul_add_mod,Nat.mod_eq_of_lt hj]
theorem Rt {P:Program}(sz:Nat)(A:Option Addr)(w:World):(Builtin.firstCells sz 0 (.slice A 0 0)).run P w=.ok #[] w:=by
 cases A with
 |none=>exact Ħ _ _ _ _ _
 |some A=>exact ħ _ _ _ _ _ _ [] (by simp) (fun j u a=>by cases a)
theorem ME {xs:List (List PV)}{g:Grow}{sz:Nat}(h:V w U φ (.sl xs g) v)(hsz:0<sz)(hrow:xs.all (fun x=>x.length == sz)=true) :
 ∃ vs,Flat w U xs sz vs/\(((∃ A,v=.slice A 0 0)/\xs=[])∨∃ b o cap,v=.slice (some ⟨b,o,none⟩) xs.length cap/\xs.length<=cap/\cap<=9223372036854775807/\(g=.full->cap=xs.length)/\∀ j u,vs[j]?=some u->w.cell? ⟨b,o+j,none⟩=some u/\U b (o+j)):=by
 have d:∀ x∈xs,x.length=sz:=by
  rw [Ú] at hrow
  intro x l;simpa using hrow x l
 cases h with
 |nil=>exact⟨[],⟨by simp,by simp,by simp,by simp⟩,.inl ⟨⟨_,rfl⟩,rfl⟩⟩
 |emp=>exact⟨[],⟨by simp,by simp,by simp,by simp⟩,.inl ⟨⟨_,rfl⟩,rfl⟩⟩
 |sl _ _ _ b o sz' cap us m n hs p r y z s B =>
  have key:∀ i,i<xs.length->sz'=sz:=fun i a=>by rw [<- hs i a];exact d _ (Ù a)
  refine⟨(List.range (xs.length*sz)).map fun q=>us (q / sz) (q % sz),⟨by simp,d,fun i a j f=>?_,fun u C=>?_⟩,.inr ⟨b,o,cap,rfl,m,n,s,fun j u f=>?_⟩⟩
  . grind [List.getElem_mem,Iz,List.range,List.getD,Aaz]
  . grind [Nat.div_lt_iff_lt_mul,Nat.mod_lt]
  . obtain⟨t,rfl⟩:=Qd j u f
    have a:j / sz<xs.length:=(Nat.div_lt_iff_lt_mul hsz).2 t
    have e:=key _ a
    subst e
    have c:=Nat.mod_lt j hsz
    have e2:o+j / sz'*sz'+j % sz'=o+j:=by rw [ī,Nat.mul_comm,Nat.div_add_mod]
    have:=r _ _ a c
    have k:=p _ _ a c
    rw [e2] at this k
    exact⟨this,k⟩
theorem Flat.app {xs ys:List (List PV)}{sz:Nat}{us vs:List Value}(h:Flat w U xs sz us)(k:Flat w U ys sz vs):Flat w U (xs++ys) sz (us++vs):=by
 refine⟨by rw [Ô,Ô,h.len,k.len,ó],fun x hx=>?_,fun i g j c=>?_,fun u hu=>?_⟩
 . rcases List.mem_append.1 hx with hx|hx
   . exact h.row x hx
   . exact k.row x hx
 . have b:((xs++ys)[i]).length=sz:=by
    rcases List.mem_append.1 (Ù g) with hx|hx
    . exact h.row _ hx
    . exact k.row _ hx
   have d:j<sz:=by rw [<- b];exact c
   by_cases a:i<xs.length
   . have e:=Iz a d
     have e1:(xs++ys)[i]=xs[i]:=Ć a
     have e2:(us++vs).getD (i*sz+j) Go.undef=us.getD (i*sz+j) Go.undef:=by
      simp only [List.getD];rw [Õ (by rw [h.len];exact e)]
     rw [e2]
     have:=h.v i a j (by rw [<- e1];exact c)
     simp only [e1];exact this
   . have f:i-xs.length<ys.length:=by simp at g;omega
     have e1:(xs++ys)[i]=ys[i-xs.length]:=Ď (by omega)
     have e3:i*sz+j-us.length=(i-xs.length)*sz+j:=by
      rw [h.len,Nat.sub_mul]
      have:=î sz (show xs.length<=i by omega)
      omega
     have e2:(us++vs).getD (i*sz+j) Go.undef=vs.getD ((i-xs.length)*sz+j) Go.undef:=by
      simp only [List.getD]
      rw [ß (by rw [h.len];have:=î sz (show xs.length<=i by omega);omega),e3]
     rw [e2]
     have:=k.v (i-xs.length) f j (by rw [<- e1];exact c)
     simp only [e1];exact this
 . rcases List.mem_append.1 hu with hu|hu
   . exact h.one u hu
   . exact k.one u hu
theorem Inv.newOwn {sz cap:Nat}{xs:List (List PV)}{vs:List Value}{rest:Array Value}{T:TypeId}(h:Inv w0 G0 st (fun t=>a.tmps.getD t Go.undef) w G)(hf:Flat w G.U xs sz vs)(hne:xs≠[])(hrest:rest.size=(cap-xs.length)*sz)(hcap:xs.length<=cap)(hcap2:cap<=9223372036854775807)(dr:Bool) :
 ∃ G',Inv w0 G0 (st.put (some d) (.sl xs .own)) (FN (fun t=>a.tmps.getD t Go.undef) d (.slice (some ⟨w.heap.size,0,none⟩) xs.length cap)) ((if dr then w.drew else w).alloc (.cells (vs.toArray++rest) T)) G':=by
 have o:w.heap.size∉G.φ:=by
  intro x
  obtain⟨k,f,B⟩:=ö x
  have p:k<st.σ.length:=by rw [<- h.store.len];exact f
  obtain⟨⟨T',arr',y,_⟩,_⟩:=h.store.blk k _ _ (Ã f) (Ã p)
  have:=(Array.getElem?_eq_some_iff.1 y).1
  omega
 have n:(if dr then w.drew else w).heap=w.heap:=by cases dr<;>rfl
 have g:∀ k,k<w.heap.size->((if dr then w.drew else w).alloc (.cells (vs.toArray++rest) T)).heap[k]?=w.heap[k]?:=fun k f=>by
  rw [ê _ _ _ (by rw [n];exact f),n]
 have m:((if dr then w.drew else w).alloc (.cells (vs.toArray++rest) T)).heap[w.heap.size]?=some (.cells (vs.toArray++rest) T (0,0)):=by
  have:=heap_alloc_new (if dr then w.drew else w) (.cells (vs.toArray++rest) T)
  rw [n] at this;exact this
 refine⟨_,h.own (b:=w.heap.size) (sz:=sz) (cap:=cap) (arr:=vs.toArray++rest) (T:=T) o (.inl (Ü _)) (fun l q=>?_) (fun l q=>?_) ?_ ?_ ?_ ?_ (fun k f _=>g k f) (fun i z=>?_) m ?_ hne hf.row hcap hcap2 (fun i r j u=>?_)⟩
 . have:=(h.store.ob w.heap.size (by rw [q];simp)).1;omega
 . have:=(h.store.ob w.heap.size (by rw [q];simp)).1;omega
 . cases dr<;>rfl
 . cases dr<;>rfl
 . cases dr<;>rfl
 . simp [n]
 . have:=h.store.ub _ _ z;omega
 . have A:=hf.len
   simp only [Array.size_append,List.size_toArray,hrest,A]
   rw [<- ó];congr 1;omega
 . have s:j<sz:=by rw [<- hf.row _ (Ù r)];exact u
   have c:=Iz r s
   rw [<- hf.len] at c
   have e:(vs.toArray++rest).getD (i*sz+j) Go.undef=vs.getD (i*sz+j) Go.undef:=by
    simp [É,Array.getElem?_append,c,List.getD]
   rw [e]
   refine⟨hf.v i r j u,?_⟩
   have:vs.getD (i*sz+j) Go.undef=vs[i*sz+j]:=by simp [List.getD,c]
   rw [this];exact hf.one _ (Ù c)
end
def Fy (st:St)(x:Operand):Option (List (List PV)×Bool×St) :=
 match x with
 |.tmp s =>
  match st.get s with
  |.sl xs .own=>some (xs,false,st.put (some s) (.sl xs .shared))
  |.sl xs (.view (.tmp r))=>some (xs,false,st.put (some r) (.sl xs .shared))
  |.sl xs (.view (.cell k j))=>some (xs,false,{ (st.stripC k j 1) with σ:=st.σ.set k ((st.σ.getD k []).set j (.sl xs .shared)) })
  |.sl xs .nil=>some (xs,false,st)
  |.sl xs .full=>some (xs,true,st)
  |_=>none
 |.const c=>match F5 c with
  |.sl xs .nil=>some (xs,false,st)
  |_=>none
 |_=>none
def Ct (s:Å):List (List PV):=s.data.toList.map fun b=>[.lit (.int .u8 b.toNat)]
def GY (P:Program)(t sz:Nat)(st:St)(y:Operand):Option (List (List PV)) :=
 match Ck st y with
 |.sl ys _=>match VX P t with|some _=>some ys|none=>none
 |.lit (.string s)=>if Km P t&&sz == 1 then some (Ct s) else none
 |_=>none
theorem UY {n b C:Nat}(h:n*max b 1<=C):n*b<=C/\n<=C:=⟨Ĕ (Nat.mul_le_mul_left n (Nat.le_max_left b 1)) h,Ĕ (Ĕ (ÿ (Nat.mul_one n).symm) (Nat.mul_le_mul_left n (Nat.le_max_right b 1))) h⟩
def PR (P:Program)(c:Call)(st:St)(d:Nat):Option (Bool×St) :=
 match c.callee,c.args.toList,c.argTypes.toList with
 |.builtin .append,[x,y],[t,t'] =>
  match Zk P t,Fy st x with
  |some (sz,bytes),some (xs,full,st1) =>
   (GY P t' sz st y).map fun ys=>(decide ((xs.length+ys.length)*max bytes 1<=140737488355328)&&(xs.all (fun x=>x.length == sz)&&(ys.all (fun x=>x.length == sz)&&(!full||true))),st1.put (some d) (.sl (xs++ys) (match full with|false=>.own|true=>if ys.isEmpty=true then .full else .own)))
  |_,_=>none
 |_,_,_=>none
section
variable {w w' w0:World} {G G' G0:Gh} {P:Program} {p q:PV} {v u:Value} {st st':St} {a:Act} {o:Oper} {d:Nat} {U:Nat->Nat->Prop} {φ:List Nat}
theorem Inv.shareCell {k j:Nat}{xs:List (List PV)}{cs:List PV}{tm:Nat->Value}(h:Inv w0 G0 st tm w G)(hcs:st.σ[k]?=some cs)(hj:cs[j]?=some (.sl xs .own)) :
 Inv w0 G0 { (st.stripC k j 1) with σ:=st.σ.set k (cs.set j (.sl xs .shared)) } tm w G:=by
 have r:k<G.φ.length:=by rw [h.store.len];exact (List.getElem?_eq_some_iff.1 hcs).1
 have y:G.φ[k]?=some G.φ[k]:=Ã r
 obtain⟨⟨o',arr,hb,⟨f,s⟩,b⟩,z⟩:=h.store.blk k _ cs y hcs
 have l:NM cs:=fun kvs e=>by
  subst e
  match j,hj with
  |0,hj=>cases hj;rfl
 obtain⟨T,rfl⟩:=f.cells l
 have m:∀ p∈cs,p.isM=false:=by
  rcases f with v|⟨kvs,_,_,e,_⟩|⟨_,_,e,_⟩
  . exact v.2
  . exact absurd (l _ e) (by simp [PV.isM])
  . exact absurd (l _ e) (by simp [PV.isM])
 have A:=(List.getElem?_eq_some_iff.1 hj).1
 have g:∀ i,(cs.set j (.sl xs .shared))[i]?=if i=j then some (.sl xs .shared) else cs[i]?:=by
  grind [Vl.stripC]
 have d:∀ i c,(cs.set j (.sl xs .shared))[i]?=some c->∃ u,arr[i]?=some u/\u.oneCell'=true/\V w G.U G.φ c u/\Ca w G (.cell k i) c u:=by
  intro i c a
  rw [g i] at a
  by_cases e:i=j
  . subst e
    rw [Ç rfl] at a
    obtain rfl:=Af a
    obtain⟨u,h1,n,o,_⟩:=b i _ hj
    exact⟨u,h1,n,o.tag (by simp) (by simp),trivial⟩
  . rw [Ä e] at a
    exact b i c a
 refine (h.stripC k j 1).setBlock (cs:=cs) (cs':=cs.set j (.sl xs .shared)) y hcs hb hb (fun kvs B=>by
  rcases List.mem_or_eq_of_mem_set B with h1|h1
  . exact m kvs h1
  . rw [h1];rfl) (fun _ _=>rfl) rfl rfl rfl ⟨by simpa using s,fun i a=>?_⟩ (fun i c a=>?_) (fun t ys i a=>?_)
 . obtain⟨u,h1,n,o,_⟩:=d i _ (Ã a)
   have:arr.getD i Go.undef=u:=by simp [h1]
   rw [this];exact⟨o,n⟩
 . obtain⟨u,h1,n,o,C⟩:=d i c a
   have:arr.getD i Go.undef=u:=by simp [h1]
   rw [this];exact C
 . rw [FF] at a
   have x:i≠j:=by
    rintro rfl
    revert a
    generalize st.get t=q
    intro a
    unfold Vl.stripC at a
    split at a
    . grind [Vl.stripC]
    . rename_i m;exact absurd a (m ys k i)
   rw [g i,Ä x]
   exact⟨rfl,rfl⟩
theorem KE {x:Operand}{xs:List (List PV)}{full:Bool}{st1:St}(h:Inv w0 G0 st (fun t=>a.tmps.getD t Go.undef) w G)(he:Fy st x=some (xs,full,st1)) :
 Inv w0 G0 st1 (fun t=>a.tmps.getD t Go.undef) w G /\
 ((full=true/\V w G.U G.φ (.sl xs .full) (a.eval x))∨(full=false/\V w G.U G.φ (.sl xs .shared) (a.eval x)/\((xs=[]/\a.eval x=.slice none 0 0)∨∃ l,Az w G l xs (a.eval x)/\(∀ ys,AP st1 l≠.sl ys .own)/\∀ ys,AP st1 l≠.prv ys))):=by
 have ntag:∀ {v:Value},V w G.U G.φ (.sl xs .nil) v->V w G.U G.φ (.sl xs .shared) v/\xs=[]/\v=.slice none 0 0:=by
  intro v f
  obtain⟨g,d⟩:=KZ f
  exact⟨by rw [g,d];exact .nil _ _,g,d⟩
 unfold Fy at he
 split at he
 . rename_i s
   have f:V w G.U G.φ (st.get s) (a.eval (.tmp s)):=h.env.v s
   have i:Dz w G st (fun t=>a.tmps.getD t Go.undef) s (st.get s) (a.eval (.tmp s)):=h.env.tag s
   split at he
   . rename_i xs' p
     simp only [Â,È] at he
     obtain⟨rfl,rfl,rfl⟩:=he
     rw [p] at f i
     refine⟨h.share p,.inr ⟨rfl,f.tag (by simp) (by simp),.inr ⟨_,i,fun ys e=>?_,fun ys e=>?_⟩⟩⟩
     . rw [AP,B7,Ç rfl] at e;cases e
     . rw [AP,B7,Ç rfl] at e;cases e
   . rename_i xs' r p
     simp only [Â,È] at he
     obtain⟨rfl,rfl,rfl⟩:=he
     rw [p] at f i
     have q:=h.env.tag r
     rw [i.1] at q
     refine⟨h.share i.1,.inr ⟨rfl,f.tag (by simp) (by simp),.inr ⟨.tmp r,?_,fun ys e=>?_,fun ys e=>?_⟩⟩⟩
     . have e2:a.eval (.tmp s)=a.tmps.getD r Go.undef:=i.2.symm
       rw [e2];exact q
     . rw [AP,B7,Ç rfl] at e;cases e
     . rw [AP,B7,Ç rfl] at e;cases e
   . rename_i xs' k j p
     simp only [Â,È] at he
     obtain⟨rfl,rfl,rfl⟩:=he
     rw [p] at f i
     obtain⟨cs,b,g,d,B,z⟩:=i
     have e1:st.σ.getD k []=cs:=by simp [List.getD,g]
     rw [e1]
     obtain⟨⟨o',arr,hb,⟨y,C⟩,m⟩,A⟩:=h.store.blk k b cs B g
     obtain⟨T,rfl⟩:=y.cells fun kvs e=>by
      subst e
      match j,d with
      |0,d=>cases d;rfl
     obtain⟨u,k1,k2,k3,k4⟩:=m j _ d
     have e2:a.eval (.tmp s)=u:=by
      simp only [World.cell?,hb] at z
      have:arr[j]?=some (a.eval (.tmp s)):=by simpa using z
      rw [k1] at this;exact (Af this).symm
     refine⟨h.shareCell g d,.inr ⟨rfl,f.tag (by simp) (by simp),.inr ⟨.cell k j,by rw [e2];exact k4,fun ys e=>?_,fun ys e=>?_⟩⟩⟩
     . have n:=(List.getElem?_eq_some_iff.1 g).1
       have o:=(List.getElem?_eq_some_iff.1 d).1
       simp [AP,List.getD,n,o] at e
     . have n:=(List.getElem?_eq_some_iff.1 g).1
       have o:=(List.getElem?_eq_some_iff.1 d).1
       simp [AP,List.getD,n,o] at e
   . grind [Fy]
   . grind [Fy]
   . cases he
 . rename_i c
   have f:V w G.U G.φ (F5 c) (a.eval (.const c)):=KN c
   split at he
   . grind [Fy]
   . cases he
 . cases he
theorem QJ (s:Å):Flat w U (Ct s) 1 (byteCells s):=by
 refine⟨by simp [Ct,byteCells],fun x e=>?_,fun i f j c=>?_,fun u d=>?_⟩
 . obtain⟨b,_,rfl⟩:=List.mem_map.1 e;rfl
 . have g:i<s.data.toList.length:=by simpa [Ct] using f
   have e1:(Ct s)[i]=[.lit (.int .u8 (s.data.toList[i]).toNat)]:=by simp [Ct]
   have a:j=0:=by rw [e1] at c;simpa using c
   subst a
   have e2:(byteCells s).getD (i*1+0) Go.undef=.int .u8 (s.data.toList[i]).toNat:=by
    grind [byteCells]
   rw [e2];simp only [e1];exact .lit _ _
 . unfold byteCells at d
   obtain⟨b,_,rfl⟩:=List.mem_map.1 d;rfl
theorem I0 {t:TypeId}{y:Operand}{ys:List (List PV)}{sz:Nat}(h:Hp w G st fun t=>a.tmps.getD t Go.undef)(he:GY P t sz st y=some ys)(hsz:0<sz)(hall:ys.all (fun x=>x.length == sz)=true) :
 ∃ vs,Flat w G.U ys sz vs/\Src P sz t (a.eval y) ys.length vs w:=by
 have c:=Bz (a:=a) h y
 unfold GY at he
 split at he
 . rename_i ys' g i
   split at he
   . rename_i nn hs
     obtain rfl:=Af he
     obtain⟨e',_,d,_⟩:=FY (n:=nn.1) (m:=nn.2) hs
     rw [i] at c
     obtain⟨vs,f,q⟩:=ME c hsz hall
     refine⟨vs,f,?_⟩
     rcases q with⟨⟨A,k⟩,p⟩|⟨b,o,cap,k,p,v,_,r⟩
     . subst p
       have:vs=[]:=ã (by rw [f.len];simp)
       subst this
       rw [k]
       cases A with
       |none=>exact Src.ofNil w d 0
       |some A=>exact Src.ofSlice w d A 0 0 [] (by simp) (fun j u l=>by cases l) (by simp)
     . rw [k]
       exact Src.ofSlice w d ⟨b,o,none⟩ _ cap vs f.len (fun j u l=>by rw [addr_add];exact (r j u l).1) f.one
   . cases he
 . rename_i s i
   split at he
   . rename_i hs
     obtain rfl:=Af he
     simp only [Æ,ý] at hs
     obtain⟨hs,rfl⟩:=hs
     have d:P.underlying t=some .string:=by unfold Km at hs;split at hs<;>simp_all
     rw [i] at c
     have ev:a.eval y=.string s:=by
      revert c;generalize a.eval y=z;intro c
      cases c with
      |lit _ _=>rfl
     have e:(Ct s).length=s.size:=by simp [Ct]
     refine⟨_,QJ s,?_⟩
     rw [ev,e]
     exact Src.ofString w d s
   . cases he
 . cases he
theorem S7 {c:Call}(h:Inv w0 G0 st (fun t=>a.tmps.getD t Go.undef) w G)(hop:o.op=.call c)(he:PR P c st d=some (true,st')) :
 ∃ v w' G',(execOp a.eval o).run P w=.ok (.value v) w'/\Inv w0 G0 st' (FN (fun t=>a.tmps.getD t Go.undef) d v) w' G'/\∀ b∈G.φ,w'.heap[b]?=w.heap[b]?:=by
 obtain⟨callee,args,ats⟩:=c
 unfold PR at he
 simp only at he
 split at he
 . rename_i x y t t' hx ht
   have e1:args = #[x,y]:=by rw [<- ë (xs:=args),hx]
   have e2:ats = #[t,t']:=by rw [<- ë (xs:=ats),ht]
   subst e1;subst e2
   have D:∀ {v w'},(Builtin.append_ #[t,t'] o.type #[a.eval x,a.eval y]).run P w=.ok v w'->(execOp a.eval o).run P w=.ok (.value v) w':=by
    intro v w' W
    unfold execOp
    rw [hop]
    simp [resolve,invoke,builtin,W]
   split at he
   . rename_i sz bytes xs full st1 hap X
     cases E:GY P t' sz st y with
     |none=>rw [E] at he;cases he
     |some ys =>
     rw [E] at he
     simp only [ä,Â,È,Æ,Í] at he
     obtain⟨⟨hbound,F,Y,_⟩,rfl⟩:=he
     obtain⟨e,i,z,hu,hi,hz,rfl,rfl,hzs,H,_⟩:=KK hap
     obtain⟨vs,B,m⟩:=I0 h.env E H Y
     obtain⟨n,Z⟩:=KE h X
     have hmul:(xs.length+ys.length)*i.bytes<=140737488355328/\(xs.length+ys.length)<=140737488355328:=UY hbound
     -- a new block
     have grow:∀ (base:Option Addr) (cap:Nat) (us:List Value),a.eval x=.slice base xs.length cap->Flat w G.U xs i.size us->(Builtin.firstCells i.size xs.length (.slice base xs.length cap)).run P w.drew=.ok us.toArray w.drew->cap<xs.length+ys.length->xs++ys≠[] ->
      ∃ v w' G',(execOp a.eval o).run P w=.ok (.value v) w'/\Inv w0 G0 (st1.put (some d) (.sl (xs++ys) .own)) (FN (fun t=>a.tmps.getD t Go.undef) d v) w' G'/\∀ b∈G.φ,w'.heap[b]?=w.heap[b]?:=by
      intro base cap us hbx g hold L hne
      have W:=run_append_grow_src (P:=P) w t t' o.type e i z hu hi hz base xs.length cap us hold (a.eval y) ys.length vs m L (by omega) (growslice_fits L (by omega))
      rw [<- hbx] at W
      obtain⟨G',hG⟩:=n.newOwn (d:=d) (cap:=grownCap w (xs.length+ys.length) cap e) (rest:=Builtin.zeroCells z.cells (grownCap w (xs.length+ys.length) cap e-(xs.length+ys.length))) (T:=e) (g.app B) hne
       (by rw [size_zeroCells,hzs,Ô]) (by rw [Ô];exact grownCap_ge _ _ _ _)
       (by have:=grownCap_le_maxLen w (xs.length+ys.length) cap e (by unfold maxLen;omega);unfold maxLen at this;exact this) true
      rw [Ô] at hG
      exact⟨_,_,G',D W,hG,fun b hb=>ê w.drew _ _ (h.store.lt hb)⟩
     -- in place
     rcases Z with⟨rfl,M⟩|⟨rfl,M,hown⟩
     . obtain⟨us,g,N⟩:=ME M H F
       by_cases f:ys=[]
       . subst f
         have I:vs=[]:=ã (by rw [B.len];simp)
         subst I
         refine⟨a.eval x,w,G,D ?_,?_,fun _ _=>rfl⟩
         . rcases N with⟨⟨A,J⟩,_⟩|⟨b,off,cap,J,O,_⟩
           . rw [J]
             have hk:=m.kind
             have p:=m.cells
             simp only [ì] at p
             cases A<;>rcases hk with⟨e',hk⟩|hk<;>simp [Builtin.append_,Ý hu,Ý hk,sizeOf,typeInfo,hi,m.len,p]
             all_goals rfl
           . rw [J]
             exact run_append_room_src (P:=P) w t t' o.type e i hu hi b off xs.length cap (a.eval y) 0 [] m O (fun j C=>by cases C) (fun j C=>by cases C)
         . simp only [Ĝ,List.isEmpty_nil,ø]
           exact n.putPlain d M rfl
       rw [show (match true with|false=>Grow.own|true=>if ys.isEmpty=true then Grow.full else Grow.own)=Grow.own from Ä (by simpa using f)]
       have hylen:0<ys.length:=List.length_pos_iff.2 f
       rcases N with⟨⟨A,J⟩,O⟩|⟨b,off,cap,J,O,h3,h4,S⟩
       . subst O
         have:us=[]:=ã (by rw [g.len];simp)
         subst this
         exact grow A 0 [] J g (Rt _ _ _) (by simpa using hylen) (by simpa using f)
       . have hcap:=h4 rfl
         exact grow (some ⟨b,off,none⟩) cap us J g (ħ _ _ _ _ _ _ us g.len (fun j u C=>by rw [addr_add];exact (S j u C).1)) (by omega) (by simp [f])
     . obtain⟨us,g,N⟩:=ME M H F
       rcases hown with⟨rfl,r⟩|⟨l,ho,hno,hnp⟩
       . have:us=[]:=ã (by rw [g.len];simp)
         subst this
         by_cases f:ys=[]
         . subst f
           have I:vs=[]:=ã (by rw [B.len];simp)
           subst I
           refine⟨.slice none 0 0,w,G,D ?_,?_,fun _ _=>rfl⟩
           . rw [r]
             have hk:=m.kind
             have p:=m.cells
             simp only [ì] at p
             rcases hk with⟨e',hk⟩|hk<;>simp [Builtin.append_,Ý hu,Ý hk,sizeOf,typeInfo,hi,m.len,p]
           . exact n.put d (.nil _ _) (.inl ⟨rfl,rfl⟩)
         . exact grow none 0 [] r g (Ħ _ _ _ _ _) (by simpa using List.length_pos_iff.2 f) (by simpa using f)
       . rcases ho with⟨rfl,r⟩|⟨b,cap,sz',T,arr,J,O,h3,h4,S,h6,h7⟩
         . have:us=[]:=ã (by rw [g.len];simp)
           subst this
           by_cases f:ys=[]
           . subst f
             have I:vs=[]:=ã (by rw [B.len];simp)
             subst I
             refine⟨.slice none 0 0,w,G,D ?_,?_,fun _ _=>rfl⟩
             . rw [r]
               have hk:=m.kind
               have p:=m.cells
               simp only [ì] at p
               rcases hk with⟨e',hk⟩|hk<;>simp [Builtin.append_,Ý hu,Ý hk,sizeOf,typeInfo,hi,m.len,p]
             . exact n.put d (.nil _ _) (.inl ⟨rfl,rfl⟩)
           . exact grow none 0 [] r g (Ħ _ _ _ _ _) (by simpa using List.length_pos_iff.2 f) (by simpa using f)
         . have hsz:sz'=i.size:=by
            have h0:0<xs.length:=List.length_pos_iff.2 O
            rw [<- h3 _ (Ù h0)];exact g.row _ (Ù h0)
           subst hsz
           rcases N with⟨h8,h9⟩|⟨b2,off,cap2,h8,h9,h10,_,h12⟩
           . exact absurd h9 O
           . rw [h8] at J
             simp only [Value.slice.injEq,Â,Addr.mk.injEq,and_true,õ] at J
             obtain⟨⟨rfl,rfl⟩,rfl⟩:=J
             by_cases s:xs.length+ys.length<=cap2
             . obtain⟨arr',k1,k2,k3,k4,k5,k6,k7,k8⟩:=CC b2 T vs (0+xs.length*i.size) w arr S
               have hfit:xs.length*i.size+ys.length*i.size<=arr.size:=by rw [h6,<- ó];exact î _ s
               have hvl:=B.len
               have W:=run_append_room_src (P:=P) w t t' o.type e i hu hi b2 0 xs.length cap2 (a.eval y) ys.length vs m s (fun j C=>by
                have:xs.length*i.size+j<arr.size:=by omega
                simp [World.cell?,S,this]) (fun j C=>by simp only [World.frozen?,S];simp)
               rw [<- h8] at W
               have hul:=g.len
               have R:=g.app B
               have hbφ:=(n.store.ob b2 (by rw [h4];simp)).2
               have hO:=n.own (d:=d) (b:=b2) (sz:=i.size) (cap:=cap2) (xs:=xs++ys) (arr:=arr') (T:=T) (w':=w.setCells b2 (0+xs.length*i.size) vs) hbφ (.inr (by rw [h4];simp)) (fun l' K ys'=>by
                rw [h4] at K
                obtain rfl:=Af K
                exact hno ys') (fun l' K ys'=>by
                rw [h4] at K
                obtain rfl:=Af K
                exact hnp ys') k6 k7 k8 (by rw [k5];exact Ü _) (fun k _ hk=>k4 k hk) (fun q hq=>by
                have h13:=h7 q hq
                refine⟨Kp.ofCells ?_ S,by rw [Ô,ó];omega⟩
                simp only [World.cell?,k1,S]
                simp only [Option.isSome_none,â,û]
                rw [k3 q,Ä (by omega)]) k1 (by rw [k2,h6]) (by simp [O]) R.row (by rw [Ô];exact s) h10 (fun q hq j C=>by
                have hj':j<i.size:=by rw [<- R.row _ (Ù hq)];exact C
                have L:=Iz hq hj'
                rw [Ô,ó] at L
                have V:q*i.size+j<(us++vs).length:=by rw [Ô];omega
                have e:arr'.getD (q*i.size+j) Go.undef=(us++vs).getD (q*i.size+j) Go.undef:=by
                 rw [É,k3 (q*i.size+j),List.getD]
                 by_cases hc:0+xs.length*i.size<=q*i.size+j
                 . rw [Ç (by omega),ß (by omega)]
                   congr 2;omega
                 . rw [Ä (by omega),Õ (by omega)]
                   have h14:=h12 (q*i.size+j) _ (Ã (show q*i.size+j<us.length by omega))
                   have h15:=h14.1
                   simp only [World.cell?,S,ò] at h15
                   rw [Ã (show q*i.size+j<us.length by omega)]
                   simpa using congrArg (fun o=>Option.getD o Go.undef) h15
                rw [e]
                refine⟨R.v q hq j C,?_⟩
                have:(us++vs).getD (q*i.size+j) Go.undef=(us++vs)[q*i.size+j]:=by simp only [List.getD];rw [Ã V];rfl
                rw [this];exact R.one _ (Ù V))
               rw [Ô] at hO
               exact⟨_,_,_,D W,hO,fun b hb=>k4 b (fun e=>hbφ (e ▸ hb))⟩
             . exact grow _ cap2 us h8 g (ħ _ _ _ _ _ _ us g.len (fun j u C=>by rw [addr_add];exact (h12 j u C).1)) (by omega) (by simp [O])
   . cases he
 . cases he
end
end Go.Vl
namespace Go.Vl
open Go Go.RowKit
def rowOf (p:PV):List PV:=(Cm p).map Bf
def Ig (sz:Nat)(p:PV):Bool:=(Cm p).length == sz&&((Hk p||LZ p)&&PV.fitsL 0 (Cm p))
def E2 (P:Program)(t len:Nat)(parts:List (Nat×PV))(st:St)(d:Nat):Option (Bool×St) :=
 match Zk P t with
 |some (sz,_)=>some (decide (parts.map (·.1)=List.range len/\len*sz<=16777216)&&parts.all (fun p=>Ig sz p.2),st.put (some d) (if len=0 then .sl [] .full else .sl (parts.map fun p=>rowOf p.2) .own))
 |none=>none
def F9 (P:Program)(t len:Nat)(parts:List (Nat×PV))(st:St)(d:Nat):Option (Bool×St) :=
 match Zk P t with
 |some (sz,_)=>some (decide (parts.map (·.1)=List.range len/\len*sz<=16777216)&&parts.all (fun p=>Ig sz p.2),if t=Ae5 then (if len=0 then st.put (some d) (.sl [] .full) else (st.put (some d) (.sl (parts.map fun p=>rowOf p.2) .own)).put (some d) (.sl (parts.map fun p=>rowOf p.2) .full)) else st.put (some d) (if len=0 then .sl [] .full else .sl (parts.map fun p=>rowOf p.2) .own))
 |none=>none
section
variable {w w' w0:World} {G G' G0:Gh} {P:Program} {p q:PV} {v u:Value} {st st':St} {a:Act} {o:Oper} {d:Nat} {U:Nat->Nat->Prop} {φ:List Nat}
theorem SL (h:V w U φ (Ky p) v):V w U φ (Bf p) v:=by
 unfold Ky at h
 split at h
 . obtain⟨rfl,rfl⟩:=KZ h
   exact .nil _ _
 . exact h.tag (by simp) (by simp)
 . exact h
theorem PJ {N:Nat}(h:p.fits N=true):(Bf p).fits N=true:=by
 cases p<;>first|exact h|rfl
theorem Ru (sz:Nat):∀ (parts:List (Nat×PV)) (k:Nat) (done:List PV),done.length=k*sz->parts.map (·.1)=List.range' k parts.length->parts.all (fun p=>Ig sz p.2)=true ->
 MG (fun i=>some (i*sz,sz)) (done++List.replicate (parts.length*sz) .undef) parts=some (done++(parts.map fun p=>(Cm p.2).map Ky).flatten)
 | [],k,done,_,_,_=>by simp [MG]
 |(i,p)::parts,k,done,hd,hi,hok=>by
  simp only [Þ,æ,List.range'_succ,List.cons.injEq] at hi
  obtain⟨rfl,hi2⟩:=hi
  simp only [ą,Æ,Ig,ý] at hok
  obtain⟨⟨h1,h2,h3⟩,h4⟩:=hok
  have hbnd:i*sz+sz<=(done++List.replicate ((parts.length+1)*sz) PV.undef).length:=by
   simp [hd,ó]
  simp only [MG,æ]
  rw [Ç ⟨h1,hbnd,by simpa using h2⟩]
  have e1:(done++List.replicate ((parts.length+1)*sz) PV.undef).take (i*sz)=done:=by
   rw [<- hd];simp
  have e2:(done++List.replicate ((parts.length+1)*sz) PV.undef).drop (i*sz+sz)=List.replicate (parts.length*sz) PV.undef:=by
   rw [List.drop_append,List.drop_of_length_le (by omega),ć,hd,List.drop_replicate]
   congr 1
   rw [ó];omega
  rw [e1,e2]
  have a:(done++(Cm p).map Ky).length=(i+1)*sz:=by
   rw [Ô,hd,Î,h1,ó,ĝ]
  have ih:=Ru sz parts (i+1) (done++(Cm p).map Ky) a hi2 (by simpa [Ig] using h4)
  rw [ih]
  simp
theorem Fo {α:Type}{sz:Nat}:∀ (rows:List (List α)),(∀ x∈rows,x.length=sz)->∀ i (hi:i<rows.length) j (hj:j<(rows[i]).length),(rows.flatten)[i*sz+j]?=some rows[i][j]
 | [],_,i,hi,_,_=>by simp at hi
 |x::rows,h,i,hi,j,hj=>by
  have hx:=h x (by simp)
  rw [List.flatten_cons]
  cases i with
  |zero =>
   simp only [Nat.zero_mul,ò]
   have hj':j<x.length:=hj
   rw [Õ hj',Ã hj'];rfl
  |succ i =>
   have hi':i<rows.length:=by simpa using hi
   have hj':j<(rows[i]).length:=by simpa using hj
   rw [ß (by rw [hx,ó];omega),hx]
   have:=Fo rows (fun y a=>h y (by simp [a])) i hi' j hj'
   rw [show (i+1)*sz+j-sz=i*sz+j by rw [ó];omega,this];rfl
theorem DG {α:Type}{sz:Nat}:∀ (rows:List (List α)),(∀ x∈rows,x.length=sz)->rows.flatten.length=rows.length*sz
 | [],_=>by simp
 |x::rows,h=>by
  rw [List.flatten_cons,Ô,h x (by simp),DG rows (fun y hy=>h y (by simp [hy])),æ,ó];omega
theorem Og (z:Array Value)(i:Nat)(hall:z.toList.all Value.oneCell'=true)(hi:i<z.size):(z[i]!).oneCell'=true:=by
 rw [Ú] at hall
 rw [getElem!_pos z i hi]
 exact hall _ (by simp)
theorem V.fullOf {xs:List (List PV)}{A:Option Addr}(h:V w U φ (.sl xs .own) (.slice A xs.length xs.length)):V w U φ (.sl xs .full) (.slice A xs.length xs.length):=by
 generalize l:xs.length=n at h
 generalize c:Value.slice A n n=v at h
 cases h with
 |nil=>exact .nil _ _
 |emp _ _ b o k d=>exact .emp _ _ _ _ _ (by simp)
 |sl _ _ _ b o sz cap us e f hs g i j a m d =>
  simp only [Value.slice.injEq] at c
  obtain⟨_,p,q⟩:=c
  exact .sl _ _ _ b o sz cap us e f hs g i j a (fun _=>by omega) (by simp)
theorem Qg {t len sz bytes:Nat}{parts:List (Nat×PV)}{vals:Array (Nat×Value)}(hl:parts.length=vals.size)
 (hv:∀ (j:Nat) (p:Nat×PV) (v:Nat×Value),parts[j]?=some p->vals[j]?=some v->p.1=v.1/\V w G.U G.φ p.2 v.2) (hap:Zk P t=some (sz,bytes)) (hidx:parts.map (·.1)=List.range len) (hbig:len*sz<=16777216) (hok:parts.all (fun p=>Ig sz p.2)=true) (h0:len≠0) :
 ∃ arr' e,((Instr.buildSlice t len vals).run P w=.ok (.slice (some ⟨w.heap.size,0,none⟩) len len) (w.alloc (.cells arr' e)))/\Flat w G.U (parts.map fun p=>rowOf p.2) sz arr'.toList/\(parts.map fun p=>rowOf p.2)≠[]/\parts.length=len/\0<sz:=by
 obtain⟨e,i,z,D,J,O,rfl,rfl,R,k,o⟩:=KK hap
 have c:parts.length=len:=by have:=congrArg List.length hidx;simpa using this
 have m:(P.info? e).bind (·.zero)=some z:=by rw [J];exact O
 have r:Lv P e=some i.size:=by simp [Lv,J]
 have E:0<parts.length:=by omega
 have d:=Ru i.size parts 0 [] (by simp) (by rw [hidx,List.range_eq_range',c]) hok
 simp only [ć] at d
 -- the cells as they begin
 have f:DQ w G (List.replicate (parts.length*i.size) .undef) ((Array.range (len*i.size)).map (z.cells[· % z.cells.size]!)):=by
  refine⟨by simp [c],fun q s=>?_⟩
  have b:q<len*i.size:=by simpa [c] using s
  refine⟨by simp only [List.getElem_replicate];exact .undef _ _,?_⟩
  have e1:((Array.range (len*i.size)).map (z.cells[· % z.cells.size]!)).getD q Go.undef=z.cells[q % z.cells.size]!:=by simp [b]
  rw [e1]
  exact Og _ _ o (Nat.mod_lt _ (by omega))
 obtain⟨arr',S,C⟩:=PK parts vals.toList _ _ _ f (by simpa using hl) (fun j p v T W=>hv j p v T (by simpa using W)) d
 have y:(Instr.buildSlice t len vals).run P w=.ok (.slice (some ⟨w.heap.size,0,none⟩) len len) (w.alloc (.cells arr' e)):=by
  have F:¬ len*i.size=0:=by
   have:=Nat.mul_pos (show 0<len by omega) k
   omega
  simp only [Instr.buildSlice,Ð,Ý D,Ê,Ej r,Ġ]
  rw [Ä (by omega)]
  simp only [Ö,Ê,F,û,OI m]
  rw [S]
  simp only [Ð,O6,Ê,Ö]
 have a:∀ x∈parts.map (fun p=>(Cm p.2).map Ky),x.length=i.size:=by
  intro x H
  obtain⟨p,I,rfl⟩:=List.mem_map.1 H
  rw [Ú] at hok
  have:=hok p I
  simp only [Ig,Æ,ý] at this
  simpa using this.1
 have n:Flat w G.U (parts.map fun p=>rowOf p.2) i.size arr'.toList:=by
  refine⟨by simp [C.size,DG _ a],fun x H=>?_,fun q s j K=>?_,fun u D=>?_⟩
  . obtain⟨p,I,rfl⟩:=List.mem_map.1 H
    rw [Ú] at hok
    have:=hok p I
    simp only [Ig,Æ,ý] at this
    simpa [rowOf] using this.1
  . have b:q<parts.length:=by simpa using s
    have e1:(parts.map fun p=>rowOf p.2)[q]=rowOf (parts[q]).2:=by simp
    rw [e1] at K
    have A:j<(Cm (parts[q]).2).length:=by simpa [rowOf] using K
    have e2:=Fo _ a q (by simpa using b) j (by simpa using A)
    have B:=(List.getElem?_eq_some_iff.1 e2)
    have L:=C.v _ B.1
    rw [B.2] at L
    have e3:arr'.toList.getD (q*i.size+j) Go.undef=arr'.getD (q*i.size+j) Go.undef:=by simp [List.getD]
    rw [e3]
    simp only [e1]
    have e4:(rowOf (parts[q]).2)[j]=Bf ((Cm (parts[q]).2)[j]):=by simp [rowOf]
    rw [e4]
    have M:=L.1
    simp only [é] at M
    have l:=hok
    rw [Ú] at l
    have N:=l _ (Ù b)
    simp only [Ig,Æ] at N
    exact (SL M).pure (PJ (D5 N.2.2 j A))
  . obtain⟨q,s,rfl⟩:=ö D
    have b:q<arr'.size:=by simpa using s
    have:=(C.v q (by rw [<- C.size];exact b)).2
    simpa [b] using this
 have g:(parts.map fun p=>rowOf p.2)≠[]:=by
  grind [rowOf,List.length_map]
 exact⟨arr',e,y,n,g,c,k⟩
theorem ML {t len:Nat}{parts:List (Nat×PV)}{vals:Array (Nat×Value)}(h:Inv w0 G0 st (fun t=>a.tmps.getD t Go.undef) w G)(hl:parts.length=vals.size)
 (hv:∀ (j:Nat) (p:Nat×PV) (v:Nat×Value),parts[j]?=some p->vals[j]?=some v->p.1=v.1/\V w G.U G.φ p.2 v.2) (he:E2 P t len parts st d=some (true,st')) :
 ∃ v w' G',((Instr.buildSlice t len vals).run P w=.ok v w'/\(len≠0->∃ A,v=.slice A parts.length parts.length))/\Inv w0 G0 st' (FN (fun t=>a.tmps.getD t Go.undef) d v) w' G'/\∀ b∈G.φ,w'.heap[b]?=w.heap[b]?:=by
 unfold E2 at he
 split at he
 . rename_i sz bytes H
   simp only [Â,È,Æ,Í] at he
   obtain⟨⟨⟨r,s⟩,O⟩,rfl⟩:=he
   obtain⟨e,i,z,x,F,hz,rfl,rfl,hzs,I,hone⟩:=KK H
   have n:parts.length=len:=by have:=congrArg List.length r;simpa using this
   have R:(P.info? e).bind (·.zero)=some z:=by rw [F];exact hz
   have J:Lv P e=some i.size:=by simp [Lv,F]
   by_cases S:len=0
   . subst S
     rw [Ç rfl]
     have W:vals = #[]:=by
      have:vals.size=0:=by omega
      exact Ĥ this
     subst W
     refine⟨.slice (some ⟨w.heap.size,0,none⟩) 0 0,w.alloc (.cells #[] e),G,⟨?_,fun X=>absurd rfl X⟩,?_,fun b hb=>ê _ _ _ (h.store.lt hb)⟩
     . simp only [Instr.buildSlice,Ð,Ý x,Ê,Ej J,Nat.zero_mul,Ġ]
       simp [Instr.fill,O6,Array.range_zero']
     . have y:Inv w0 G0 st (fun t=>a.tmps.getD t Go.undef) (w.alloc (.cells #[] e)) G:=by
        have hb:Below w.heap.size w (w.alloc (.cells #[] e)):=(Below.refl _ _).alloc (Ü _) _
        have hnb:=h.newBlock (cs:=[]) (arr:=#[]) (T:=e) (by simp) ⟨rfl,fun i F=>by simp at F⟩ (fun j c Y=>by simp at Y)
        have f:∀ b i,G.U b i->G.U b i/\Kp w (w.alloc (.cells #[] e)) b i:=fun b i x=>⟨x,Kp.of (ê _ _ _ (h.store.ub b i x))⟩
        have K:Ext w G (w.alloc (.cells #[] e)) G:=⟨rfl,rfl,rfl,by simp,fun k hk _ _=>ê _ _ _ hk,f,fun b i x=>.inl x,fun b hb=>.inr hb,[],by simp,by simp⟩
        have ownK:∀ l xs v,Az w G l xs v->Az (w.alloc (.cells #[] e)) G l xs v:=fun l xs v ho=>ho.alloc _ rfl rfl
        refine⟨h.ext.trans K,⟨h.store.len,h.store.nodup,fun k b cs y L=>?_,fun b i x=>by have:=h.store.ub b i x;simp;omega,fun b hb=>by have:=h.store.ob b hb;exact⟨by simp;omega,this.2⟩⟩,fun t=>(h.env.v t).mono f (fun _ _ h=>h),fun t=>?_⟩
        . obtain⟨⟨T2,arr2,B,N,Z⟩,h6⟩:=h.store.blk k b cs y L
          refine⟨⟨T2,arr2,(ê _ _ _ (Array.getElem?_eq_some_iff.1 B).1).trans B,⟨N.1.mono f,N.2⟩,fun j c Y=>?_⟩,h6⟩
          obtain⟨v,h7,h8,h9,C⟩:=Z j c Y
          refine⟨v,h7,h8,h9.mono f (fun _ _ h=>h),?_⟩
          unfold Ca at C ⊢
          split
          . exact ownK _ _ _ C
          . exact B9.alloc C _ rfl rfl
          . trivial
        . have D:=h.env.tag t
          revert D
          generalize st.get t=q
          intro D
          cases q with
          |prv xs=>exact B9.alloc D _ rfl rfl
          |sl xs g =>
           cases g with
           |own=>exact ownK _ _ _ D
           |view m =>
            cases m with
            |cell k j =>
             obtain⟨cs,b,y,L,B,N⟩:=D
             obtain⟨⟨T',arr',Z,_⟩,_⟩:=h.store.blk k b cs B y
             exact⟨cs,b,y,L,B,by rw [Qe (Array.getElem?_eq_some_iff.1 Z).1];exact N⟩
            |_=>exact D
           |_=>trivial
          |tup cs =>
           intro i xs F
           obtain⟨arr,u,y,L,B⟩:=D i xs F
           exact⟨arr,u,y,L,ownK _ _ _ B⟩
          |_=>trivial
       exact y.putPlain d (.sl _ [] .full w.heap.size 0 i.size 0 (fun _ _=>Go.undef) (by simp) (by omega) (by simp) (by simp) (by simp) (by simp) (by simp) (by simp) (by simp)) rfl
   . rw [Ä S]
     obtain⟨arr',e',M,E,o,_,_⟩:=Qg hl hv H r s O S
     obtain⟨G',hG⟩:=h.newOwn (d:=d) (cap:=len) (rest:=#[]) (T:=e') E o (by simp [n]) (by simp [n]) (Ĕ (Nat.le_mul_of_pos_right len I) (Ĕ s (by decide))) false
     simp only [Î,n] at hG
     simp only [â,û,Array.append_empty,ë] at hG
     exact⟨_,_,G',⟨M,fun _=>⟨_,by rw [n]⟩⟩,hG,fun b hb=>ê _ _ _ (h.store.lt hb)⟩
 . cases he
theorem MK {t len:Nat}{parts:List (Nat×PV)}{vals:Array (Nat×Value)}(h:Inv w0 G0 st (fun t=>a.tmps.getD t Go.undef) w G)(hl:parts.length=vals.size)
 (hv:∀ (j:Nat) (p:Nat×PV) (v:Nat×Value),parts[j]?=some p->vals[j]?=some v->p.1=v.1/\V w G.U G.φ p.2 v.2) (he:F9 P t len parts st d=some (true,st')) :
 ∃ v w' G',(Instr.buildSlice t len vals).run P w=.ok v w'/\Inv w0 G0 st' (FN (fun t=>a.tmps.getD t Go.undef) d v) w' G'/\∀ b∈G.φ,w'.heap[b]?=w.heap[b]?:=by
 cases g:E2 P t len parts st d with
 |none=>unfold E2 at g;unfold F9 at he;split at g<;>rename_i y<;>simp_all
 |some r =>
  obtain⟨c,st0⟩:=r
  unfold F9 at he
  have e0:=g
  unfold E2 at e0
  split at he
  . rename_i sz bytes k
    rw [k] at e0
    simp only [Â,È] at he e0
    obtain⟨q,he⟩:=he
    rw [q] at e0
    obtain⟨rfl,e0⟩:=e0
    obtain⟨v,w',G',⟨l,s⟩,i,m⟩:=ML h hl hv g
    split at he
    . split at he
      . grind [E2,F9,FN]
      rename_i n
      rw [Ä n] at e0
      obtain⟨A,rfl⟩:=s n
      refine⟨_,w',G',l,?_,m⟩
      rw [<- e0] at i
      have e:=i.env.v d
      rw [B7,Ç rfl] at e
      have u:FN (fun t=>a.tmps.getD t Go.undef) d (.slice A parts.length parts.length) d=.slice A parts.length parts.length:=Ç rfl
      rw [u] at e
      have f:(parts.map fun p=>rowOf p.2).length=parts.length:=by simp
      rw [<- f] at e
      have o:=i.putPlain d (V.fullOf e) rfl
      rw [<- he]
      have e9:FN (FN (fun t=>a.tmps.getD t Go.undef) d (.slice A parts.length parts.length)) d (.slice A (parts.map fun p=>rowOf p.2).length (parts.map fun p=>rowOf p.2).length)=FN (fun t=>a.tmps.getD t Go.undef) d (.slice A parts.length parts.length):=by
       funext x
       unfold FN
       rw [f]
       split<;>rfl
      rw [e9] at o
      exact o
    . rw [<- he,e0]
      exact⟨v,w',G',l,i,m⟩
  . cases he
end
end Go.Vl
namespace Go.Vl
open Go Go.RowKit Go.MapKept
mutual
def L4:PV->Option Value
 |.lit v=>some v
 |.agg cs=>(LV cs).map fun l=>.agg l.toArray
 |.fno true f []=>some (.func (.func f) #[] #[])
 |_=>none
def LV:List PV->Option (List Value)
 | []=>some []
 |p::ps=>match L4 p,LV ps with
  |some v,some l=>some (v::l)
  |_,_=>none
end
theorem HL:∀ {cs:List PV} {l:List Value},LV cs=some l->l.length=cs.length/\∀ i (h:i<cs.length),∃ v,l[i]?=some v/\L4 cs[i]=some v
 | [],l,h=>by
  simp only [LV,Â] at h
  subst h
  exact⟨rfl,fun i hi=>by simp at hi⟩
 |p::ps,l,h=>by
  simp only [LV] at h
  split at h
  . rename_i v l2 h1 h2
    simp only [Â] at h
    subst h
    obtain⟨k1,k2⟩:=HL h2
    refine⟨by simp [k1],fun i hi=>?_⟩
    cases i with
    |zero=>exact⟨v,rfl,h1⟩
    |succ i=>exact k2 i (by simpa using hi)
  . cases h
theorem LW {w:World}{U:Nat->Nat->Prop}{φ:List Nat}{p:PV}{u:Value}(h:V w U φ p u):∀ {v:Value},L4 p=some v->u=v:=by
 induction h with
 |lit φ v=>intro v' e;simp only [L4,Â] at e;exact e
 |agg φ cs arr c h j ih =>
  intro v e
  simp only [L4,Ī] at e
  obtain⟨l,e1,rfl⟩:=e
  obtain⟨k1,k2⟩:=HL e1
  congr 1
  refine Array.ext (by simp [c,k1]) fun i b g=>?_
  have d:i<cs.length:=by rw [<- c];exact b
  obtain⟨v,g1,g2⟩:=k2 i d
  have:=ih i d g2
  have e3:arr.getD i Go.undef=arr[i]:=by simp [b]
  rw [e3] at this
  rw [this]
  have:=(List.getElem?_eq_some_iff.1 g1).2
  simp [this]
 |fno φ f caps arr c h ih =>
  intro v e
  cases caps with
  |nil =>
   simp only [L4,Â] at e
   have:arr = #[]:=Ĥ c
   rw [this];exact e
  |cons a r=>simp [L4] at e
 |_=>intro v e;simp [L4] at e
def Rz (P:Program)(t:TypeId):Bool :=
 match P.underlying t with
 |some (.interface _)=>false
 |some _=>true
 |none=>false
theorem run_makeInterface {P:Program}{t:TypeId}(h:Rz P t=true)(v:Value)(w:World):(Instr.makeInterface t v).run P w=.ok (.iface t v) w:=by
 unfold Rz at h
 cases a:P.underlying t with
 |none=>rw [a] at h;cases h
 |some d =>
  rw [a] at h
  simp only [Instr.makeInterface,Ð,Ý a,Ê]
  cases d<;>first|rfl|cases h
theorem Ph {P:Program}{t x:TypeId}(h:Rz P t=true)(v:Value)(w:World):(Instr.typeAssert (.iface t v) x t true).run P w=.ok (.tuple #[v,.bool true]) w:=by
 unfold Rz at h
 cases b:P.underlying t with
 |none=>rw [b] at h;cases h
 |some d =>
  rw [b] at h
  simp only [Instr.typeAssert,Ð,Ý b,Ê]
  cases d<;>first|(simp;done)|cases h
def TL:Value->PV
 |.agg arr=>if arr.toList.all Value.oneCell'=true then .agg (arr.toList.map F5) else .undef
 |v=>F5 v
theorem Abl {w:World}{U:Nat->Nat->Prop}{φ:List Nat}(v:Value):V w U φ (TL v) v:=by
 unfold TL
 split
 . rename_i arr
   split
   . rename_i h
     rw [Ú] at h
     refine .agg _ _ arr (by simp) (fun i a=>?_) (fun i a=>?_)
     . have b:i<arr.size:=by simpa using a
       simp only [é,Array.getElem_toList]
       rw [É,à b]
       exact KN _
     . rw [É,à a]
       exact h _ (by simp)
   . exact .undef _ _
 . exact KN _
theorem Xr (v:Value)(xs:List (List PV)):TL v≠.sl xs .own:=by
 unfold TL
 split
 . split<;>simp
 . unfold F5
   split<;>(try split)<;>simp
def Xj (P:Program)(t:TypeId):Option (TypeDesc×TypeId) :=
 match P.underlying t with
 |some (.map k e)=>(P.underlying k).map fun d=>(d,e)
 |_=>none
def K3:TypeDesc->Value->Bool
 |.bool,.bool _=>true
 |.int k,.int k' _=>k' == k
 |.string,.string _=>true
 |_,_=>false
theorem Fk {d:TypeDesc}{v:Value}(h:K3 d v=true):IsKey d v:=by
 unfold K3 at h
 split at h
 . trivial
 . simpa [IsKey] using h
 . trivial
 . cases h
def Ii (d:TypeDesc)(k:Value):List (Value×Value)->Nat->Option (Option (Nat×Value))
 | [],_=>some none
 |e::es,i=>match Instr.sameNow d k e.1 with
  |some true=>some (some (i,e.2))
  |some false=>Ii d k es (i+1)
  |none=>none
theorem IK (d:TypeDesc)(k:Value):∀ (es:List MapEntry) (i:Nat),Ii d k (es.map fun e=>(e.key,e.val)) i=Instr.findNow d k es i
 | [],_=>rfl
 |e::es,i=>by
  simp only [Þ,Ii,Instr.findNow]
  rw [IK d k es (i+1)]
  cases Instr.sameNow d k e.key with
  |none=>rfl
  |some b=>cases b<;>rfl
def XQ (P:Program)(e:TypeId):Option Value:=(P.info? e).bind (·.zero)
def Wm (st:St)(m:Operand):Option (Nat×List (Value×Value)) :=
 match Ck st m with
 |.mref b=>match st.σ[b]? with
  |some [.mp kvs]=>some (b,kvs)
  |_=>none
 |_=>none
def Wl (st:St)(m:Operand):Option (List (Value×Value)) :=
 match Ck st m with
 |.vmp kvs=>some kvs
 |_=>(Wm st m).map (·.2)
def MJ (P:Program)(t:TypeId)(m k:Operand)(ok:Bool)(st:St):Option (Bool×PV) :=
 match Xj P t,Wl st m,Ck st k with
 |some (d,e),some kvs,.lit kv =>
  match Ii d kv kvs 0 with
  |some (some (_,v))=>some (K3 d kv,if ok then .tup [F5 v,.lit (.bool true)] else F5 v)
  |some none=>(XQ P e).map fun z=>(K3 d kv,if ok then .tup [F5 z,.lit (.bool false)] else F5 z)
  |none=>none
 |_,_,_=>none
def MI (P:Program)(t:TypeId)(m k v:Operand)(st:St):Option (Bool×St) :=
 match Xj P t,Wm st m,Ck st k,L4 (Ck st v) with
 |some (d,_),some (b,kvs),.lit kv,some vv =>
  match Ii d kv kvs 0 with
  |some none=>some (K3 d kv,{ st with σ:=st.σ.set b [.mp (kvs++[(kv,vv)])] })
  |some (some (i,_))=>some (K3 d kv&&kvs.all (fun e=>K3 d e.1),{ st with σ:=st.σ.set b [.mp (kvs.set i (kv,vv))] })
  |none=>none
 |_,_,_,_=>none
def NB (P:Program)(t:TypeId)(r:Option Operand)(st:St)(d:Nat):Option (Bool×St) :=
 match Xj P t,r with
 |some _,none=>some (true,({ st with σ:=st.σ++[[.mp []]] }:St).put (some d) (.mref st.σ.length))
 |some _,some x=>match Ck st x with
  |.lit (.int _ _)=>some (true,({ st with σ:=st.σ++[[.mp []]] }:St).put (some d) (.mref st.σ.length))
  |_=>none
 |_,_=>none
section
variable {w w' w0:World} {G G' G0:Gh} {P:Program} {p q:PV} {v u:Value} {st st':St} {a:Act} {o:Oper} {d:Nat}
theorem N1 {t e:TypeId}{dd:TypeDesc}(h:Xj P t=some (dd,e)):∃ k,P.underlying t=some (.map k e)/\P.underlying k=some dd:=by
 grind [Xj,Option.map_eq_some_iff]
theorem Pz {m:Operand}{b:Nat}{kvs:List (Value×Value)}(h:Inv w0 G0 st (fun t=>a.tmps.getD t Go.undef) w G)(he:Wm st m=some (b,kvs)) :
 ∃ r es c,G.φ[b]?=some r/\st.σ[b]?=some [.mp kvs]/\a.eval m=.map (some r)/\w.heap[r]?=some (.map es c)/\es.toList.map (fun e=>(e.key,e.val))=kvs/\Z1 es c:=by
 have d:=Bz (a:=a) h.env m
 unfold Wm at he
 split at he
 . rename_i b' hb
   rw [hb] at d
   split at he
   . rename_i kvs' hs
     simp only [Â,È] at he
     obtain⟨rfl,rfl⟩:=he
     revert d
     generalize a.eval m=z
     intro d
     cases d with
     |mref _ _ r g =>
      obtain⟨⟨o',arr,i,⟨j,_⟩,_⟩,_⟩:=h.store.blk b' r _ g hs
      rcases j with⟨_,f⟩|⟨kvs2,es,c,e1,rfl,e2⟩|e1
      . exact absurd (f (.mp kvs') (List.mem_singleton.2 rfl)) (by simp [PV.isM])
      rotate_left
      . simp at e1
      . obtain rfl:kvs'=kvs2:=by simpa using e1
        exact⟨r,es,c,g,hs,rfl,i,e2⟩
   . cases he
 . cases he
theorem Vb {m:Operand}{kvs:List (Value×Value)}(h:Inv w0 G0 st (fun t=>a.tmps.getD t Go.undef) w G)(he:Wl st m=some kvs) :
 ∃ r es c,a.eval m=.map (some r)/\w.heap[r]?=some (.map es c)/\es.toList.map (fun e=>(e.key,e.val))=kvs:=by
 have d:=Bz (a:=a) h.env m
 unfold Wl at he
 split at he
 . rename_i kvs' hb
   rw [hb] at d
   obtain rfl:=Af he
   revert d
   generalize a.eval m=z
   intro d
   cases d with
   |vmp _ _ b es c n f g hs=>exact⟨b,es,c,rfl,f,g⟩
 . obtain⟨⟨b,kvs'⟩,i,rfl⟩:=Option.map_eq_some_iff.1 he
   obtain⟨r,es,c,_,_,j,k,l,_⟩:=Pz h i
   exact⟨r,es,c,j,k,l⟩
theorem Sw {t:TypeId}{m k:Operand}{ok:Bool}(h:Inv w0 G0 st (fun t=>a.tmps.getD t Go.undef) w G)(he:MJ P t m k ok st=some (true,p)) :
 ∃ v,(Instr.lookup t (a.eval m) (a.eval k) ok).run P w=.ok v w/\V w G.U G.φ p v/\(plain p=true∨∃ x b,p=.tup [F5 x,.lit b]):=by
 unfold MJ at he
 have l:=Bz (a:=a) h.env k
 split at he
 . rename_i dd e kvs kv n o q
   rw [q] at l
   obtain⟨r,es,c,B,u,A⟩:=Vb h o
   obtain⟨kt,u1,u2⟩:=N1 n
   have s:a.eval k=kv:=by
    revert l;generalize a.eval k=z;intro l
    cases l;rfl
   rw [B,s]
   have f:∀ x,plain (F5 x)=true:=fun x=>by unfold F5;split<;>(try split)<;>rfl
   have fin:∀ (x:Value) (b:Bool),V w G.U G.φ (if ok then .tup [F5 x,.lit (.bool b)] else F5 x) (if ok then .tuple #[x,.bool b] else x)/\(plain (if ok then .tup [F5 x,.lit (.bool b)] else F5 x)=true∨∃ y c,(if ok then .tup [F5 x,.lit (.bool b)] else F5 x)=PV.tup [F5 y,.lit c]):=fun x b=>by
    cases ok with
    |true =>
     refine⟨.tup _ _ _ rfl fun i C=>?_,.inr ⟨x,.bool b,rfl⟩⟩
     match i,C with
     |0,_=>exact KN x
     |1,_=>exact .lit _ _
    |false=>exact⟨KN x,.inl (f x)⟩
   split at he
   . rename_i i v g
     simp only [Â,È] at he
     obtain⟨d,rfl⟩:=he
     rw [<- A,IK] at g
     refine⟨_,?_,fin v true⟩
     simp only [Instr.lookup,Ð,Ý u1,Ê,MapKept.run_getObj_map u,Ö,run_checkKey u2 (Fk d),run_findKey u2 g]
     all_goals (cases ok<;>rfl)
   . rename_i g
     obtain⟨z,D,j⟩:=Option.map_eq_some_iff.1 he
     simp only [È] at j
     obtain⟨d,rfl⟩:=j
     rw [<- A,IK] at g
     refine⟨_,?_,fin z false⟩
     simp only [Instr.lookup,Ð,Ý u1,Ê,MapKept.run_getObj_map u,Ö,run_checkKey u2 (Fk d),run_findKey u2 g,OI D]
     all_goals (cases ok<;>rfl)
   . cases he
 . cases he
theorem Inv.newMap (h:Inv w0 G0 st (fun t=>a.tmps.getD t Go.undef) w G) :
 ∃ G',Inv w0 G0 (({ st with σ:=st.σ++[[.mp []]] }:St).put (some d) (.mref st.σ.length)) (FN (fun t=>a.tmps.getD t Go.undef) d (.map (some w.heap.size))) (w.alloc (.map #[] 0)) G':=by
 obtain⟨e,f⟩:=Inv.newObj (cs:=[.mp []]) (arr:=#[.bool false]) (o:=.map #[] 0) (.inr (.inl ⟨[],#[],0,rfl,rfl,rfl,by simp [Z1]⟩)) h ⟨rfl,fun i g=>by
  match i,g with
  |0,_=>exact⟨.mp _ _ _,rfl⟩⟩ (fun j c b=>by
  match j,b with
  |0,b=>cases b;trivial)
 exact⟨_,e.putPlain d (.mref _ _ _ f) rfl⟩
theorem QD {t:TypeId}{r:Option Operand}(h:Inv w0 G0 st (fun t=>a.tmps.getD t Go.undef) w G)(he:NB P t r st d=some (true,st')) :
 ∃ v w' G',(Instr.makeMap t (r.map a.eval)).run P w=.ok v w'/\Inv w0 G0 st' (FN (fun t=>a.tmps.getD t Go.undef) d v) w' G'/\∀ b∈G.φ,w'.heap[b]?=w.heap[b]?:=by
 obtain⟨G',j⟩:=Inv.newMap (d:=d) h
 have c:∀ b∈G.φ,(w.alloc (.map #[] 0)).heap[b]?=w.heap[b]?:=fun b hb=>ê _ _ _ (h.store.lt hb)
 unfold NB at he
 split at he
 . simp only [Â,È,õ] at he
   subst he
   refine⟨.map (some w.heap.size),_,G',?_,j,c⟩
   simp only [Option.map_none,Instr.makeMap,Ð,Ö,run_newObj,Ê]
   rfl
 . rename_i y x g
   split at he
   . rename_i ik n k
     simp only [Â,È,õ] at he
     subst he
     have f:=Bz (a:=a) h.env x
     rw [k] at f
     have i:a.eval x=.int ik n:=by
      revert f;generalize a.eval x=z;intro f
      cases f;rfl
     obtain⟨dd,e⟩:=y
     obtain⟨kt,u1,_⟩:=N1 g
     refine⟨.map (some w.heap.size),_,G',?_,j,c⟩
     simp only [ä,i,Instr.makeMap,Ð,Ö,Ý u1,asInt,run_newObj,Ê]
     try rfl
   . cases he
 . cases he
theorem Z0 {es:Array MapEntry}{c:Nat}{k v:Value}(h:Z1 es c):Z1 (es.push { key:=k,val:=v,born:=c }) (c+1):=by
 refine⟨fun x hx=>?_,?_⟩
 . rw [Array.toList_push,List.mem_append] at hx
   rcases hx with hx|hx
   . have:=h.1 x hx;omega
   . obtain rfl:=List.mem_singleton.1 hx;show c<c+1;omega
 . rw [Array.toList_push,ā,ď]
   refine⟨h.2,by simp,fun a d b hb e=>?_⟩
   obtain⟨x,hx,rfl⟩:=List.mem_map.1 d
   have:=h.1 x hx
   simp at hb
   omega
theorem VG {es:Array MapEntry}{c i:Nat}{k v:Value}(h:Z1 es c):Z1 (es.modify i fun e=>{ e with key:=k,val:=v }) c:=by
 have e:(es.modify i fun e=>{ e with key:=k,val:=v }).toList.map (·.born)=es.toList.map (·.born):=by
  rw [Array.toList_modify]
  refine List.ext_getElem? fun j=>?_
  simp only [ç,List.getElem?_modify]
  split<;>cases es.toList[j]?<;>rfl
 refine⟨fun x a=>?_,by rw [e];exact h.2⟩
 have:x.born∈(es.modify i fun e=>{ e with key:=k,val:=v }).toList.map (·.born):=List.mem_map.2 ⟨x,a,rfl⟩
 rw [e] at this
 obtain⟨y,b,e2⟩:=List.mem_map.1 this
 rw [<- e2];exact h.1 y b
theorem Inv.setMap {b r:Nat}{kvs kvs':List (Value×Value)}{es es':Array MapEntry}{c c':Nat}(h:Inv w0 G0 st (fun t=>a.tmps.getD t Go.undef) w G)(h1:G.φ[b]?=some r)(h2:st.σ[b]?=some [.mp kvs])(h3:w.heap[r]?=some (.map es c))
 (h4:es'.toList.map (fun e=>(e.key,e.val))=kvs') (h5:Z1 es' c') :
 Inv w0 G0 { st with σ:=st.σ.set b [.mp kvs'] } (fun t=>a.tmps.getD t Go.undef) { w with heap:=w.heap.setIfInBounds r (.map es' c') } G:=by
 obtain⟨k1,k2⟩:=MapKept.heap_set (o':=.map es' c') h3
 refine h.setObj (o:=.map es c) (o':=.map es' c') (arr':=#[.bool false]) h1 h2 h3 k1 (.inr (.inl ⟨kvs',es',c',rfl,rfl,h4,h5⟩)) k2 rfl rfl rfl ⟨rfl,fun i f=>?_⟩ (fun j q d=>?_) (fun t xs j v _ d _=>?_)
 . match i,f with
   |0,_=>exact⟨.mp _ _ _,rfl⟩
 . match j,d with
   |0,d=>cases d;trivial
 . match j,d with
   |0,d=>cases d
theorem MH {t:TypeId}{m k x:Operand}(h:Inv w0 G0 st (fun t=>a.tmps.getD t Go.undef) w G)(he:MI P t m k x st=some (true,st')) :
 ∃ w' G',(Instr.mapUpdate t (a.eval m) (a.eval k) (a.eval x)).run P w=.ok () w'/\Inv w0 G0 st' (fun t=>a.tmps.getD t Go.undef) w' G':=by
 unfold MI at he
 have p:=Bz (a:=a) h.env k
 have q:=Bz (a:=a) h.env x
 split at he
 . rename_i dd e b kvs kv vv s u v y
   rw [v] at p
   obtain⟨r,es,c,C,D,H,l,n,E⟩:=Pz h u
   obtain⟨kt,u1,u2⟩:=N1 s
   have A:a.eval k=kv:=by
    revert p;generalize a.eval k=z;intro p
    cases p;rfl
   rw [H,A,LW q y]
   split at he
   . rename_i g
     simp only [Â,È] at he
     obtain⟨d,rfl⟩:=he
     rw [<- n,IK] at g
     refine⟨_,G,?_,h.setMap (es':=es.push { key:=kv,val:=vv,born:=c }) (c':=c+1) C D l (by rw [Array.toList_push,ā,n];rfl) (Z0 E)⟩
     simp only [Instr.mapUpdate,Ð,Ý u1,Ê,MapKept.run_getObj_map l,run_checkKey u2 (Fk d),run_findKey u2 g,MapKept.run_setObj_map _ l]
   . rename_i i v0 g
     simp only [Â,È,Æ] at he
     obtain⟨⟨d,f⟩,rfl⟩:=he
     rw [<- n,IK] at g
     have B:∀ x∈es.toList,IsKey dd x.key:=fun x q=>by
      rw [Ú] at f
      exact Fk (f (x.key,x.val) (by rw [<- n];exact List.mem_map.2 ⟨x,q,rfl⟩))
     rcases findNow_spec (Fk d) es.toList 0 B with⟨g1,_⟩|⟨j,e0,g1,g2,g3⟩
     . rw [g] at g1;cases g1
     . rw [g] at g1
       simp only [Â,È,ò] at g1
       obtain⟨rfl,rfl⟩:=g1
       have F:es[i]?=some e0:=by simpa using g2
       refine⟨_,G,?_,h.setMap (es':=es.modify i fun e=>{ e with key:=kv,val:=vv }) (c':=c) C D l ?_ (VG E)⟩
       . simp [Instr.mapUpdate,Ý u1,MapKept.run_getObj_map l,run_checkKey u2 (Fk d),run_findKey u2 g,F,g3,run_keyThatStays (Fk d),MapKept.run_setObj_map _ l,Result.andThen]
       . rw [<- n,Array.toList_modify]
         refine List.ext_getElem? fun j=>?_
         simp only [ç,List.getElem?_modify,List.getElem?_set]
         by_cases o:i=j
         . subst o
           simp [g2]
           exact (Array.getElem?_eq_some_iff.1 F).1
         . simp [o]
   . cases he
 . cases he
end
end Go.Vl
namespace Go.Vl
open Go Go.RowKit
def JY:Value->PV
 |.func (.func f) ⟨[]⟩ ⟨[]⟩=>.fno true f []
 |v=>F5 v
theorem SM {w:World}{U:Nat->Nat->Prop}{φ:List Nat}(v:Value):V w U φ (JY v) v:=by
 unfold JY
 split
 . exact .fno _ _ _ _ rfl (fun i a=>by simp at a)
 . exact KN v
theorem Zr (v:Value)(xs:List (List PV)):JY v≠.sl xs .own:=by
 unfold JY
 split
 . simp
 . unfold F5
   split<;>(try split)<;>simp
def Su (P:Program)(t:TypeId)(x:Operand)(st:St)(d:Nat):Option (Bool×St) :=
 match P.underlying t,Ck st x with
 |some (.map _ _),.vmp kvs=>some (true,({ st with σ:=st.σ++[[.mit kvs []]] }:St).put (some d) (.ptr st.σ.length 0))
 |_,_=>none
def K2 (st:St)(x:Operand):Option (Nat×List (Value×Value)×List Nat) :=
 match Ck st x with
 |.ptr k 0=>match st.σ[k]? with
  |some [.mit kvs seen]=>some (k,kvs,seen)
  |_=>none
 |_=>none
def O9 (x:Operand)(st:St)(d:Nat):Option (Bool×St) :=
 match K2 st x with
 |some (_,kvs,seen)=>(seen.getLast?.bind fun i=>kvs[i]?).map fun e=>(true,st.put (some d) (.tup [JY e.1,JY e.2]))
 |_=>none
section
variable {w w' w0:World} {G G' G0:Gh} {P:Program} {p q:PV} {v u:Value} {st st':St} {a:Act} {o:Oper} {d:Nat}
theorem Ext.drew (h:Ext w0 G0 w G):Ext w0 G0 w.drew G:=⟨h.os,h.tape,h.output,h.size,h.frame,h.cells,h.newU,h.newΩ,h.phi⟩
theorem Ext.drew0 (_:Ext w0 G0 w G):Ext w G w.drew G:=(Ext.refl w G).drew
theorem Inv.drew {tm:Nat->Value}(h:Inv w0 G0 st tm w G):Inv w0 G0 st tm w.drew G:=by
 have f:∀ {φ p v},V w G.U φ p v->V w.drew G.U φ p v:=fun h=>h.mono (w':=w.drew) (U':=G.U) (fun _ _ h=>⟨h,rfl,fun _ _ e=>e⟩) (fun _ _ h=>h)
 refine⟨h.ext.drew,⟨h.store.len,h.store.nodup,fun k b cs l n=>?_,h.store.ub,h.store.ob⟩,fun t=>f (h.env.v t),fun t=>?_⟩
 . obtain⟨⟨T,arr,o,i,r⟩,s⟩:=h.store.blk k b cs l n
   refine⟨⟨T,arr,o,⟨i.1.mono (w':=w.drew) (U':=G.U) (fun _ _ h=>⟨h,rfl,fun _ _ e=>e⟩),i.2⟩,fun j c u=>?_⟩,s⟩
   obtain⟨v,x,y,z,a⟩:=r j c u
   refine⟨v,x,y,f z,?_⟩
   unfold Ca at a ⊢
   split
   . exact a
   . exact a
   . trivial
 . have d:=h.env.tag t
   revert d
   generalize st.get t=q
   intro d
   cases q with
   |sl xs g =>
    cases g with
    |view m=>cases m<;>exact d
    |_=>exact d
   |_=>exact d
theorem Ad7 {w:World}{G:Gh}{st:St}{tm:Nat->Value}{t:Nat}(x y:Value)(l:List PV)(r:Value)(hl:∀ p∈l,∀ xs,p≠.sl xs .own):Dz w G st tm t (.tup (l++[JY x,JY y])) r:=by
 intro i xs a
 all_goals grind [List.mem_of_getElem?,Zr]
theorem TY {t:TypeId}{x:Operand}(h:Inv w0 G0 st (fun t=>a.tmps.getD t Go.undef) w G)(he:Su P t x st d=some (true,st')) :
 ∃ v w' G',(Instr.range t (a.eval x)).run P w=.ok v w'/\Inv w0 G0 st' (FN (fun t=>a.tmps.getD t Go.undef) d v) w' G'/\∀ b∈G.φ,w'.heap[b]?=w.heap[b]?:=by
 have e:=Bz (a:=a) h.env x
 unfold Su at he
 split at he
 . rename_i kt et kvs k hb
   simp only [Â,È,õ] at he
   subst he
   rw [hb] at e
   revert e
   generalize a.eval x=z
   intro e
   cases e with
   |vmp _ _ bm es c l g m hs =>
   obtain⟨n,p⟩:=Inv.newObj (cs:=[.mit kvs []]) (arr:=#[.bool false]) (o:=.mapIter (some bm) c #[] c) (.inr (.inr ⟨kvs,[],rfl,bm,es,c,#[],rfl,l,g,m,hs,rfl,by simp⟩)) h ⟨rfl,fun i q=>by
    match i,q with
    |0,_=>exact⟨.mit _ _ _ _,rfl⟩⟩ (fun j c f=>by
    match j,f with
    |0,f=>cases f;trivial)
   refine⟨.pointer (some ⟨w.heap.size,0,none⟩),_,_,?_,n.putPlain d (.ptr _ _ _ _ p) rfl,fun b hb=>ê _ _ _ (h.store.lt hb)⟩
   exact run_range_map w t kt et bm es c k g
 . cases he
theorem Od {x:Operand}{k:Nat}{kvs:List (Value×Value)}{seen:List Nat}(h:Inv w0 G0 st (fun t=>a.tmps.getD t Go.undef) w G)(he:K2 st x=some (k,kvs,seen)) :
 ∃ r bm es c sn,G.φ[k]?=some r/\st.σ[k]?=some [.mit kvs seen]/\a.eval x=.pointer (some ⟨r,0,none⟩)/\w.heap[r]?=some (.mapIter (some bm) c sn c)/\G.U bm 0/\w.heap[bm]?=some (.map es c)/\es.toList.map (fun e=>(e.key,e.val))=kvs/\Z1 es c /\
  sn.toList=seen.map (fun i=>(es.toList.map (·.born)).getD i 0)/\∀ j∈seen,j<kvs.length:=by
 have b:=Bz (a:=a) h.env x
 unfold K2 at he
 split at he
 . rename_i k' hb
   rw [hb] at b
   split at he
   . rename_i kvs' seen' hs
     simp only [Â,È] at he
     obtain⟨rfl,rfl,rfl⟩:=he
     revert b
     generalize a.eval x=z
     intro b
     cases b with
     |ptr _ _ _ r f =>
      obtain⟨⟨o',arr,l,⟨g,_⟩,_⟩,_⟩:=h.store.blk k' r _ f hs
      rcases g with⟨_,d⟩|⟨kvs2,es,c,e1,rfl,e2⟩|⟨kvs2,seen2,e1,bm,es,c,sn,e2,e3,e4,e5,e6,e7,e8⟩
      . exact absurd (d (.mit kvs' seen') (List.mem_singleton.2 rfl)) (by simp [PV.isM])
      . simp at e1
      . grind [K2]
   . cases he
 . cases he
theorem Aa6 {es:Array MapEntry}{i:Nat}{x:Value×Value}(hx:(es.toList.map fun e=>(e.key,e.val))[i]?=some x):∃ e∈es.toList,(e.key,e.val)=x/\(es.toList.map (·.born)).getD i 0=e.born:=by
 grind
theorem Uc {x:Operand}(h:Inv w0 G0 st (fun t=>a.tmps.getD t Go.undef) w G)(he:O9 x st d=some (true,st')) :
 ∃ v,(Instr.entry (a.eval x)).run P w=.ok v w/\Inv w0 G0 st' (FN (fun t=>a.tmps.getD t Go.undef) d v) w G:=by
 unfold O9 at he
 split at he
 . rename_i k kvs seen m
   obtain⟨r,bm,es,c,sn,B,C,n,o,D,p,q,s,u,y⟩:=Od h m
   obtain⟨⟨k1,v1⟩,f,b⟩:=Option.map_eq_some_iff.1 he
   simp only [È,õ] at b
   subst b
   obtain⟨i,g1,g2⟩:=Option.bind_eq_some_iff.1 f
   rw [<- q] at g2
   obtain⟨e,e1,e2,e3⟩:=Aa6 g2
   obtain⟨l,rfl⟩:∃ l,seen=l++[i]:=List.getLast?_eq_some_iff.1 g1
   have g:sn=(l.map fun i=>(es.toList.map (·.born)).getD i 0).toArray.push e.born:=by
    apply Array.ext'
    rw [u,ā,Array.toList_push,Þ,e3];rfl
   simp only [È] at e2
   refine⟨.tuple #[k1,v1],?_,?_⟩
   . rw [n,<- e2.1,<- e2.2]
     exact run_entry_at w r bm c _ es c e (by rw [o,g]) p e1 s.2
   . refine h.put d (.tup _ _ _ rfl (fun j z=>?_)) (Ad7 k1 v1 [] _ (by simp))
     match j,z with
     |0,_=>exact SM _
     |1,_=>exact SM _
 . cases he
theorem Y0 {x:Operand}{k:Nat}{kvs:List (Value×Value)}{seen:List Nat}(ty:TypeId)(h:Inv w0 G0 st (fun t=>a.tmps.getD t Go.undef) w G)(hi:K2 st x=some (k,kvs,seen)) :
 ((∀ i,i<kvs.length->i∈seen)/\(Instr.next (a.eval x) false ty).run P w=.ok (.tuple #[.bool false]) w/\Inv w0 G0 (st.put (some d) (.tup [.lit (.bool false)])) (FN (fun t=>a.tmps.getD t Go.undef) d (.tuple #[.bool false])) w G) ∨
 ∃ i,∃ hl:i<kvs.length,∃ w',i∉seen/\(Instr.next (a.eval x) false ty).run P w=.ok (.tuple #[.bool true,kvs[i].1,kvs[i].2]) w' /\
  Inv w0 G0 (({ st with σ:=st.σ.set k [.mit kvs (seen++[i])] }:St).put (some d) (.tup [.lit (.bool true),JY kvs[i].1,JY kvs[i].2])) (FN (fun t=>a.tmps.getD t Go.undef) d (.tuple #[.bool true,kvs[i].1,kvs[i].2])) w' G:=by
 obtain⟨r,bm,es,c,sn,M,N,O,J,R,K,L,A,B,n⟩:=Od h hi
 have b:∀ i e,es.toList[i]?=some e->(es.toList.map (·.born)).getD i 0=e.born:=fun i e C=>by rw [List.getD,ç,C];rfl
 have f:es.toList.length=kvs.length:=by rw [<- L,Î]
 rw [O]
 rcases run_next_at (P:=P) w ty r bm c c sn es c J K (fun x S=>A.1 x S) (Ü _) with⟨k1,k2⟩|⟨e,k1,w1,k2,k3⟩
 . left
   refine⟨fun i hi=>?_,k2,h.put d (.tup _ _ _ rfl (fun j hj=>?_)) ?_⟩
   . have g:i<es.toList.length:=by rw [f];exact hi
     have l:=Ù g
     have T:sn.contains (es.toList[i]).born=true:=by
      by_cases m:sn.contains (es.toList[i]).born=true
      . exact m
      . exfalso
        have:(leftOf es sn) = #[]:=Ĥ k1
        unfold leftOf at this
        rw [Array.filter_eq_empty_iff] at this
        exact this _ (Array.mem_toList_iff.1 l) (by rw [Bool.not_eq_true] at m;rw [m];rfl)
     have p:(es.toList[i]).born∈sn.toList:=by simpa using T
     rw [B] at p
     obtain⟨j,j1,j2⟩:=List.mem_map.1 p
     have s:j<es.toList.length:=by rw [f];exact n j j1
     rw [b j _ (Ã s)] at j2
     have D:=A.2
     have:j=i:=by
      have a1:(es.toList.map (·.born))[j]'(by simpa using s)=(es.toList.map (·.born))[i]'(by simpa using g):=by simpa using j2
      exact (List.getElem_inj D).1 a1
     exact this ▸ j1
   . match j,hj with
     |0,_=>exact .lit _ _
   . intro i xs hi
     match i,hi with
     |0,hi=>cases hi
 . right
   have l:e∈es.toList:=by
    grind [leftOf]
   have u:e.born∉sn.toList:=by
    grind [leftOf]
   obtain⟨i,hi,C⟩:=ö l
   have g:i<kvs.length:=by rw [<- f];exact hi
   have E:kvs[i]=(e.key,e.val):=by
    grind [leftOf]
   have hb:=b i e (by rw [Ã hi,C])
   have F:i∉seen:=fun U=>u (by rw [B];exact List.mem_map.2 ⟨i,U,hb⟩)
   have y:w1.heap=w.heap:=by rcases k2 with rfl|rfl<;>rfl
   have H:Inv w0 G0 st (fun t=>a.tmps.getD t Go.undef) w1 G:=by
    rcases k2 with rfl|rfl
    . exact h
    . exact h.drew
   have z:w1.heap[r]?=some (.mapIter (some bm) c sn c):=by rw [y];exact J
   obtain⟨s1,s2⟩:=MapKept.heap_set (o':=.mapIter (some bm) c (sn.push e.born) c) z
   have I:=H.setObj (cs':=[.mit kvs (seen++[i])]) (o:=.mapIter (some bm) c sn c) (o':=.mapIter (some bm) c (sn.push e.born) c) (arr':=#[.bool false]) (w':=ChangeMaps.setBlock w1 r (.mapIter (some bm) c (sn.push e.born) c)) M N z s1
    (.inr (.inr ⟨kvs,seen++[i],rfl,bm,es,c,sn.push e.born,rfl,R,by rw [y];exact K,L,A,by rw [Array.toList_push,B,ā,Þ,hb];rfl,fun j hj=>by
     rcases List.mem_append.1 hj with hj|hj
     . exact n j hj
     . obtain rfl:=List.mem_singleton.1 hj;exact g⟩)) s2 rfl rfl rfl ⟨rfl,fun i hi=>by
     match i,hi with
     |0,_=>exact⟨.mit _ _ _ _,rfl⟩⟩ (fun j q hj=>by
     match j,hj with
     |0,hj=>cases hj;trivial) (fun t xs j v _ hj _=>by
     match j,hj with
     |0,hj=>cases hj)
   refine⟨i,g,ChangeMaps.setBlock w1 r (.mapIter (some bm) c (sn.push e.born) c),F,?_,?_⟩
   . rw [E];exact k3
   . refine I.put d (.tup _ _ _ rfl (fun j hj=>?_)) (Ad7 _ _ [.lit (.bool true)] _ (by simp))
     match j,hj with
     |0,_=>exact .lit _ _
     |1,_=>exact SM _
     |2,_=>exact SM _
end
end Go.Vl
namespace Go.Vl
open Go Go.RowKit
def Jr:List (List PV)->Option (List (List Value))
 | []=>some []
 |r::rs=>match LV r,Jr rs with
  |some a,some b=>some (a::b)
  |_,_=>none
def NF (P:Program)(c:Call)(st:St)(d:Nat):Option (Bool×St) :=
 match c.callee,c.args.toList,c.argTypes.toList with
 |.builtin .append,[.tmp s,y],[t,t'] =>
  match Zk P t,st.get s with
  |some (sz,bytes),.prv xs =>
   match (GY P t' sz st y).bind Jr with
   |some ys=>some (decide ((xs.length+ys.length)*max bytes 1<=140737488355328)&&(!ys.isEmpty&&(xs.all (fun x=>x.length == sz)&&ys.all (fun x=>x.length == sz))),(st.put (some s) .undef).put (some d) (.prv (xs++ys)))
   |none=>none
  |_,_=>none
 |_,_,_=>none
def Ad3:PV->Bool
 |.mit [] [77]=>true
 |_=>false
def J6 (P:Program)(t len:Nat)(parts:List (Nat×PV))(st:St)(d:Nat):Option (Bool×St) :=
 if Ad3 (st.get d)=true then match Zk P t,Jr (parts.map fun p=>rowOf p.2) with
  |some (sz,_),some xs=>some (decide (parts.map (·.1)=List.range len/\len*sz<=16777216/\len≠0)&&parts.all (fun p=>Ig sz p.2),st.put (some d) (.prv xs))
  |_,_=>none
 else F9 P t len parts st d
def K9 (P:Program)(t:TypeId)(st:St)(d:Nat)(x:Operand):Option St :=
 match Ck st x with
 |.ptr b o=>match KM P t,Mh st.σ[b]? with
  |some false,some cs=>match cs[o]? with
   |some (.prv xs)=>some (({ st with σ:=st.σ.set b (cs.set o .undef) }:St).put (some d) (.prv xs))
   |_=>none
  |_,_=>none
 |_=>none
section
variable {w w' w0:World} {G G' G0:Gh} {P:Program} {p q:PV} {v u:Value} {st st':St} {a:Act} {o:Oper} {d:Nat} {U:Nat->Nat->Prop} {φ:List Nat}
theorem Ih:∀ {rs:List (List PV)} {ls:List (List Value)},Jr rs=some ls->ls.length=rs.length/\∀ i (h:i<rs.length) (h':i<ls.length),LV rs[i]=some ls[i]
 | [],ls,h=>by
  simp only [Jr,Â] at h
  subst h
  exact⟨rfl,fun i hi=>by simp at hi⟩
 |r::rs,ls,h=>by
  simp only [Jr] at h
  split at h
  . rename_i x y h1 h2
    simp only [Â] at h
    subst h
    obtain⟨k1,k2⟩:=Ih h2
    refine⟨by simp [k1],fun i hi hi'=>?_⟩
    cases i with
    |zero=>exact h1
    |succ i=>exact k2 i (by simpa using hi) (by simpa using hi')
  . cases h
theorem M6 {rs:List (List PV)}{ls:List (List Value)}{sz:Nat}{vs:List Value}(h:Jr rs=some ls)(hf:Flat w U rs sz vs):vs=ls.flatten/\(∀ x∈ls,x.length=sz):=by
 obtain⟨o,k⟩:=Ih h
 have a:∀ x∈ls,x.length=sz:=fun x p=>by
  obtain⟨i,c,rfl⟩:=ö p
  rw [(HL (k i (by omega) c)).1]
  exact hf.row _ (Ù _)
 refine⟨List.ext_getElem? fun q=>?_,a⟩
 by_cases j:q<rs.length*sz
 . have d:0<sz:=by
    rcases Nat.eq_zero_or_pos sz with e|e
    . rw [e] at j;omega
    . exact e
   have c:q / sz<rs.length:=(Nat.div_lt_iff_lt_mul d).2 j
   have l:q % sz<sz:=Nat.mod_lt _ d
   have e:q=q / sz*sz+q % sz:=by rw [Nat.mul_comm,Nat.div_add_mod]
   have b:q / sz<ls.length:=by omega
   have f:q % sz<(rs[q / sz]).length:=by rw [hf.row _ (Ù c)];exact l
   have g:q % sz<(ls[q / sz]).length:=by rw [a _ (Ù b)];exact l
   have m:=Fo ls a (q / sz) b (q % sz) g
   rw [<- e] at m
   obtain⟨v,k1,k2⟩:=(HL (k _ c b)).2 _ f
   rw [Ã g] at k1
   have n:=LW (hf.v _ c _ f) k2
   rw [<- e] at n
   rw [m,k1,<- n]
   have:q<vs.length:=by rw [hf.len];exact j
   simp [List.getD,this]
 . rw [List.getElem?_eq_none (by rw [hf.len];omega),List.getElem?_eq_none (by rw [DG ls a,o];omega)]
theorem Inv.newPrv {sz cap:Nat}{xs:List (List Value)}{rest:Array Value}{T:TypeId}{tm:Nat->Value}(h:Inv w0 G0 st tm w G)(hrow:∀ x∈xs,x.length=sz)(h1:∀ u∈xs.flatten,u.oneCell'=true)(hne:xs≠[])
 (hrest:rest.size=(cap-xs.length)*sz) (h2:∀ u∈rest.toList,u.oneCell'=true) (hcap:xs.length<=cap/\cap<=9223372036854775807) (dr:Bool) :
 ∃ G',Inv w0 G0 (st.put (some d) (.prv xs)) (FN tm d (.slice (some ⟨w.heap.size,0,none⟩) xs.length cap)) ((if dr then w.drew else w).alloc (.cells (xs.flatten.toArray++rest) T)) G':=by
 have o:w.heap.size∉G.φ:=fun r=>by
  obtain⟨k,g⟩:=List.getElem?_of_mem r
  have:=h.store.lt r
  omega
 have m:(if dr then w.drew else w).heap=w.heap:=by cases dr<;>rfl
 have a:∀ k,k<w.heap.size->((if dr then w.drew else w).alloc (.cells (xs.flatten.toArray++rest) T)).heap[k]?=w.heap[k]?:=fun k g=>by
  rw [ê _ _ _ (by rw [m];exact g),m]
 have c:((if dr then w.drew else w).alloc (.cells (xs.flatten.toArray++rest) T)).heap[w.heap.size]?=some (.cells (xs.flatten.toArray++rest) T (0,0)):=by
  have:=heap_alloc_new (if dr then w.drew else w) (.cells (xs.flatten.toArray++rest) T)
  rw [m] at this;exact this
 have s:∀ l,G.Ω w.heap.size≠some l:=fun l f=>by have:=(h.store.ob w.heap.size (by rw [f];simp)).1;omega
 have p:=DG xs hrow
 refine h.ownP (b:=w.heap.size) (sz:=sz) (cap:=cap) (arr:=xs.flatten.toArray++rest) (T:=T) o (.inl (Ü _)) (fun l f=>absurd f (s l)) (fun l f=>absurd f (s l)) (by cases dr<;>rfl) (by cases dr<;>rfl) (by cases dr<;>rfl) (by simp [m]) (fun k g _=>a k g) (fun i t=>by have:=h.store.ub _ _ t;omega) c hne hcap hrow ⟨?_,fun i n=>?_,fun i n j v=>?_⟩
 . simp only [Array.size_append,List.size_toArray,hrest,p]
   rw [<- ó];congr 1;omega
 . have:(xs.flatten.toArray++rest).getD i Go.undef∈(xs.flatten.toArray++rest).toList:=by
    rw [É,à n];exact Array.mem_toList_iff.2 (Array.getElem_mem n)
   rw [Array.toList_append,List.mem_append] at this
   rcases this with h3|h3
   . exact h1 _ (by simpa using h3)
   . exact h2 _ h3
 . have e:=Fo xs hrow i n j v
   have q:=(List.getElem?_eq_some_iff.1 e).1
   simp only [É]
   rw [ô (by simpa using q)]
   simp [e]
theorem QG {c:Call}(h:Inv w0 G0 st (fun t=>a.tmps.getD t Go.undef) w G)(hop:o.op=.call c)(he:NF P c st d=some (true,st')) :
 ∃ v w' G',(execOp a.eval o).run P w=.ok (.value v) w'/\Inv w0 G0 st' (FN (fun t=>a.tmps.getD t Go.undef) d v) w' G'/\∀ b∈G.φ,w'.heap[b]?=w.heap[b]?:=by
 obtain⟨callee,args,ats⟩:=c
 unfold NF at he
 simp only at he
 split at he
 . rename_i s y t t' M ht
   have e1:args = #[.tmp s,y]:=by rw [<- ë (xs:=args),M]
   have e2:ats = #[t,t']:=by rw [<- ë (xs:=ats),ht]
   subst e1;subst e2
   have U:∀ {v w'},(Builtin.append_ #[t,t'] o.type #[a.eval (.tmp s),a.eval y]).run P w=.ok v w'->(execOp a.eval o).run P w=.ok (.value v) w':=by
    intro v w' N
    unfold execOp
    rw [hop]
    simp [resolve,invoke,builtin,N]
   split at he
   . rename_i sz bytes xs hap hg
     split at he
     . rename_i ys hys
       simp only [Â,È,Æ,Í,å,List.isEmpty_eq_false_iff] at he
       obtain⟨⟨hbound,r,A,B⟩,rfl⟩:=he
       obtain⟨e,i,z,I,hi,hz,rfl,rfl,hzs,C,hzo⟩:=KK hap
       obtain⟨ys0,V,L⟩:=Option.bind_eq_some_iff.1 hys
       obtain⟨hyl,hyr⟩:=Ih L
       have hy0:ys0.all (fun x=>x.length == i.size)=true:=by
        rw [Ú] at B ⊢
        intro x M
        obtain⟨k,hk,rfl⟩:=ö M
        have:=B _ (Ù (show k<ys.length by omega))
        rw [ý] at this ⊢
        rw [<- this,(HL (hyr k hk (by omega))).1]
       obtain⟨vs,O,R⟩:=I0 h.env V C hy0
       obtain⟨rfl,D⟩:=M6 L O
       rw [<- hyl] at R
       have f:∀ x∈xs,x.length=i.size:=by
        rw [Ú] at A
        intro x M;simpa using A x M
       have hmul:(xs.length+ys.length)*i.bytes<=140737488355328/\(xs.length+ys.length)<=140737488355328:=UY hbound
       have hT:B9 w G (.tmp s) xs (a.tmps.getD s Go.undef):=by have:=h.env.tag s;rw [hg] at this;exact this
       have E:Inv w0 G0 (st.put (some s) .undef) (fun t=>a.tmps.getD t Go.undef) w G:=by
        have:=h.put s (p:=.undef) (.undef _ (a.tmps.getD s Go.undef)) trivial
        rwa [GQ] at this
       have g:∀ x∈xs++ys,x.length=i.size:=fun x M=>(List.mem_append.1 M).elim (f x) (D x)
       have W:0<ys.length:=List.length_pos_iff.2 r
       have grow:∀ (base:Option Addr) (cap:Nat),a.tmps.getD s Go.undef=.slice base xs.length cap->(∀ u∈xs.flatten,u.oneCell'=true)->(Builtin.firstCells i.size xs.length (.slice base xs.length cap)).run P w.drew=.ok xs.flatten.toArray w.drew->cap<xs.length+ys.length ->
        ∃ v w' G',(execOp a.eval o).run P w=.ok (.value v) w'/\Inv w0 G0 ((st.put (some s) .undef).put (some d) (.prv (xs++ys))) (FN (fun t=>a.tmps.getD t Go.undef) d v) w' G'/\∀ b∈G.φ,w'.heap[b]?=w.heap[b]?:=by
        intro base cap hbx F X l
        have N:=run_append_grow_src (P:=P) w t t' o.type e i z I hi hz base xs.length cap xs.flatten X (a.eval y) ys.length ys.flatten R l (by omega) (growslice_fits l (by omega))
        rw [<- hbx] at N
        obtain⟨G',hG⟩:=E.newPrv (d:=d) (sz:=i.size) (xs:=xs++ys) (cap:=grownCap w (xs.length+ys.length) cap e) (rest:=Builtin.zeroCells z.cells (grownCap w (xs.length+ys.length) cap e-(xs.length+ys.length))) (T:=e) g (fun u I=>by
         rw [List.flatten_append,List.mem_append] at I
         exact I.elim (F u) (O.one u)) (by simp [r]) (by rw [size_zeroCells,hzs,Ô]) (fun u I=>by
         simp only [Builtin.zeroCells,Array.toList_map,List.mem_map] at I
         obtain⟨q,_,rfl⟩:=I
         exact Og _ _ hzo (Nat.mod_lt _ (by omega))) ⟨by rw [Ô];exact grownCap_ge _ _ _ _,by have:=grownCap_le_maxLen w (xs.length+ys.length) cap e (by unfold maxLen;omega);unfold maxLen at this;exact this⟩ true
        rw [Ô,List.flatten_append] at hG
        exact⟨_,_,G',U N,hG,fun b hb=>ê w.drew _ _ (h.store.lt hb)⟩
       rcases hT with⟨rfl,Y⟩|⟨b,cap,sz',T,arr,h1,h2,⟨h8,h9⟩,h3,h4,h5,⟨h6,Z,h11⟩,h7⟩
       . exact grow none 0 Y (by simp) (Ħ _ _ _ _ _) (by simpa using W)
       . have hsz:sz'=i.size:=by
          have h0:0<xs.length:=List.length_pos_iff.2 h2
          rw [<- h3 _ (Ù h0)];exact f _ (Ù h0)
         subst hsz
         have hfx:=DG xs f
         have hle:xs.length*i.size<=arr.size:=by rw [h6];exact î _ h8
         have m:∀ q,q<xs.length*i.size->xs.flatten[q]?=arr[q]?:=fun q J=>by
          have S:q / i.size<xs.length:=(Nat.div_lt_iff_lt_mul C).2 J
          have hqj:q % i.size<(xs[q / i.size]).length:=by rw [f _ (Ù S)];exact Nat.mod_lt _ C
          have e:q=q / i.size*i.size+q % i.size:=by rw [Nat.mul_comm,Nat.div_add_mod]
          have k1:=Fo xs f _ S _ hqj
          have k2:=h11 _ S _ hqj
          rw [<- e] at k1 k2
          rw [k1,<- k2,à (by omega)]
          simp [show q<arr.size by omega]
         have F:∀ u∈xs.flatten,u.oneCell'=true:=fun u I=>by
          obtain⟨q,J,rfl⟩:=ö I
          have k1:=m q (by omega)
          rw [Ã J,à (by omega)] at k1
          have k2:=Z q (by omega)
          rw [Af k1]
          simpa [show q<arr.size by omega] using k2
         by_cases n:xs.length+ys.length<=cap
         . obtain⟨arr',k1,k2,k3,k4,k5,k6,k7,k8⟩:=CC b T ys.flatten (0+xs.length*i.size) w arr h5
           have hyf:=DG ys D
           have hfit:xs.length*i.size+ys.length*i.size<=arr.size:=by rw [h6,<- ó];exact î _ n
           have N:=run_append_room_src (P:=P) w t t' o.type e i I hi b 0 xs.length cap (a.eval y) ys.length ys.flatten R n (fun j K=>by
            have:xs.length*i.size+j<arr.size:=by omega
            simp [World.cell?,h5,this]) (fun j K=>by simp only [World.frozen?,h5];simp)
           rw [<- h1] at N
           have hbφ:=(E.store.ob b (by rw [h4];simp)).2
           have n1:∀ q,q<arr'.size->(arr'.getD q Go.undef).oneCell'=true:=fun q J=>by
            rw [É,k3 q]
            split
            . rename_i hc
              have l:q-(0+xs.length*i.size)<ys.flatten.length:=by omega
              rw [Ã l]
              exact O.one _ (Ù l)
            . rw [<- É];exact Z q (by omega)
           have n2:∀ q (J:q<(xs++ys).length) j (K:j<((xs++ys)[q]).length),arr'.getD (q*i.size+j) Go.undef=(xs++ys)[q][j]:=fun q J j K=>by
            have hj':j<i.size:=by rw [<- g _ (Ù J)];exact K
            have e0:=Fo (xs++ys) g q J j K
            have l:=Iz J hj'
            rw [Ô,ó] at l
            rw [É,k3 (q*i.size+j)]
            rw [List.flatten_append] at e0
            by_cases hc:0+xs.length*i.size<=q*i.size+j
            . rw [Ç (by omega)]
              rw [ß (by omega)] at e0
              rw [show q*i.size+j-(0+xs.length*i.size)=q*i.size+j-xs.flatten.length by omega,e0];rfl
            . rw [Ä (by omega)]
              rw [Õ (by omega),m _ (by omega)] at e0
              rw [e0];rfl
           obtain⟨G',hO⟩:=E.ownP (d:=d) (b:=b) (sz:=i.size) (cap:=cap) (xs:=xs++ys) (arr:=arr') (T:=T) (w':=w.setCells b (0+xs.length*i.size) ys.flatten) hbφ (.inr (by rw [h4];simp)) (fun l' H ys'=>by
            rw [h4] at H
            obtain rfl:=Af H
            rw [AP,B7,Ç rfl];simp) (fun l' H ys'=>by
            rw [h4] at H
            obtain rfl:=Af H
            rw [AP,B7,Ç rfl];simp) k6 k7 k8 (by rw [k5];exact Ü _) (fun k _ hk=>k4 k hk) h7 k1 (by simp [r]) ⟨by rw [Ô];exact n,h9⟩ g ⟨by rw [k2,h6],n1,n2⟩
           rw [Ô] at hO
           exact⟨_,_,_,U N,hO,fun b' hb=>k4 b' (fun e=>hbφ (e ▸ hb))⟩
         . exact grow _ cap h1 F (ħ _ _ _ _ _ _ xs.flatten hfx (fun j u K=>by
            have J:=(List.getElem?_eq_some_iff.1 K).1
            rw [m j (by omega)] at K
            rw [addr_add]
            show w.cell? _=_
            simpa [World.cell?,h5] using K)) (by omega)
     . cases he
   . cases he
 . cases he
theorem ND {t len:Nat}{parts:List (Nat×PV)}{vals:Array (Nat×Value)}(h:Inv w0 G0 st (fun t=>a.tmps.getD t Go.undef) w G)(hl:parts.length=vals.size)
 (hv:∀ (j:Nat) (p:Nat×PV) (v:Nat×Value),parts[j]?=some p->vals[j]?=some v->p.1=v.1/\V w G.U G.φ p.2 v.2) (he:J6 P t len parts st d=some (true,st')) :
 ∃ v w' G',(Instr.buildSlice t len vals).run P w=.ok v w'/\Inv w0 G0 st' (FN (fun t=>a.tmps.getD t Go.undef) d v) w' G'/\∀ b∈G.φ,w'.heap[b]?=w.heap[b]?:=by
 unfold J6 at he
 split at he
 . split at he
   . rename_i sz bytes xs q g
     simp only [Â,È,Æ,Í] at he
     obtain⟨⟨⟨k,i,x⟩,r⟩,rfl⟩:=he
     obtain⟨arr',e,l,c,y,m,n⟩:=Qg hl hv q k i r x
     obtain⟨e1,o⟩:=M6 g c
     have f:xs.length=len:=by rw [(Ih g).1,Î];exact m
     obtain⟨G',s⟩:=h.newPrv (d:=d) (sz:=sz) (cap:=len) (xs:=xs) (rest:=#[]) (T:=e) o (fun u z=>c.one u (by rw [e1];exact z)) (by intro e;rw [e] at f;exact x f.symm) (by simp [f]) (by simp) ⟨by omega,Ĕ (Nat.le_mul_of_pos_right len n) (Ĕ i (by decide))⟩ false
     rw [<- e1,f] at s
     simp only [â,û,Array.append_empty,ë] at s
     exact⟨_,_,G',l,s,fun b hb=>ê _ _ _ (h.store.lt hb)⟩
   . cases he
 . exact MK h hl hv he
theorem Sx {t:TypeId}{x:Operand}(h:Inv w0 G0 st (fun t=>a.tmps.getD t Go.undef) w G)(he:K9 P t st d x=some st') :
 ∃ v G',(∀ w',J8 w G (rdB (Ck st x)) w'->(Instr.loadAt t (a.eval x)).run P w'=.ok v w')/\(G'.U=G.U/\G'.φ=G.φ)/\Inv w0 G0 st' (FN (fun t=>a.tmps.getD t Go.undef) d v) w G':=by
 have y:=Bz (a:=a) h.env x
 unfold K9 at he
 split at he
 . rename_i b o B
   rw [B] at y ⊢
   revert y
   generalize a.eval x=xv
   intro y
   cases y with
   |ptr _ _ _ k C =>
   split at he
   . rename_i cs W f
     obtain⟨f,q⟩:=Hb f
     split at he
     . rename_i xs D
       obtain rfl:=Af he
       obtain⟨⟨o',arr,E,⟨m,F⟩,g⟩,O⟩:=h.store.blk b k cs C f
       have H:∀ p∈cs,p.isM=false:=by
        rcases m with I|⟨kvs,_,_,e,_⟩|⟨_,_,e,_⟩
        . exact I.2
        . exact absurd (q _ e) (by simp [PV.isM])
        . exact absurd (q _ e) (by simp [PV.isM])
       obtain⟨T,rfl⟩:=m.cells q
       obtain⟨u,R,h1,z,A⟩:=g o _ D
       have r:=(List.getElem?_eq_some_iff.1 D).1
       have J:w.cell? ⟨k,o,none⟩=some u:=by simp only [World.cell?,E];simpa using R
       have n:∀ i,(cs.set o PV.undef)[i]?=if i=o then some .undef else cs[i]?:=fun i=>by
        rw [List.getElem?_set]
        by_cases e:o=i
        . subst e;simp [r]
        . rw [Ä e,Ä (fun e2=>e e2.symm)]
       have j:∀ i c,(cs.set o PV.undef)[i]?=some c->∃ u,arr[i]?=some u/\u.oneCell'=true/\V w G.U G.φ c u/\Ca w G (.cell b i) c u:=by
        intro i c l
        rw [n i] at l
        by_cases e:i=o
        . subst e
          rw [Ç rfl] at l
          obtain rfl:=Af l
          exact⟨u,R,h1,.undef _ _,trivial⟩
        . rw [Ä e] at l
          exact g i c l
       have K:=h.setBlock (cs:=cs) (cs':=cs.set o .undef) C f E E (fun kvs X=>by
        rcases List.mem_or_eq_of_mem_set X with h1|h1
        . exact H kvs h1
        . rw [h1];rfl) (fun _ _=>rfl) rfl rfl rfl ⟨by simpa using F,fun i l=>by
        obtain⟨u,h1,z,A,_⟩:=j i _ (Ã l)
        have:arr.getD i Go.undef=u:=by simp [h1]
        rw [this];exact⟨A,z⟩⟩ (fun i c l=>by
        obtain⟨u,h1,z,A,Y⟩:=j i c l
        have:arr.getD i Go.undef=u:=by simp [h1]
        rw [this];exact Y) (fun t ys i l=>by
        have S:=h.env.tag t
        rw [l] at S
        obtain⟨cs2,b2,e1,e2,_,_⟩:=S
        obtain rfl:=Af (f.symm.trans e1)
        have L:i≠o:=by
         rintro rfl
         rw [D] at e2;cases e2
        exact⟨by rw [n i,Ä L],rfl⟩)
       have M:=(List.getElem?_eq_some_iff.1 f).1
       have s:AP { st with σ:=st.σ.set b (cs.set o .undef) } (.cell b o)=.undef:=by
        simp [AP,List.getD,M,r]
       have N:=K.rel (.cell b o) (.tmp d) (fun ys e=>by rw [s] at e;cases e) (fun ys e=>by rw [s] at e;cases e)
       refine⟨u,G.rel (.cell b o) (.tmp d),fun w' Z=>HH W ((Ċ (w:=w) (Z.2 b rfl k C)).trans J),⟨rfl,rfl⟩,?_⟩
       exact N.put d z (B9.to A rfl Fv)
     . cases he
   . cases he
 . cases he
end
end Go.Vl
namespace Go.Vl
open Go Go.RowKit
def EP (o:Oper):Nat :=
 match o.op with
 |.move _|.assign _|.extract _ _|.pick _ _ _|.build _ _|.nilCheck _|.binOp _ _ _ _ _|.unOp _ _ _|.makeFunc _ _ _|.slice _ _ _ _ _|.fieldAddr _ _ _|.field _ _ _|.indexAddr _ _ _|.index _ _ _=>0
 |.load _ _|.convert _ _ _=>1
 |.call c=>match c.callee with
  |.builtin .len=>0
  |.builtin .min=>0
  |.builtin .max=>0
  |_=>2
 |_=>2
def O8 (P:Program)(o:Oper)(st:St)(d:Nat):Option (Bool×St) :=
 match o.op with
 |.move x=>match Vt st d x with
  |some st'=>some (true,st')
  |none=>(Lg st d x).map fun st'=>(true,st')
 |.assign x=>(KD st d x).map fun st'=>(true,st')
 |.extract x i=>(Lh st d i x).map fun st'=>(true,st')
 |.load t x=>match K9 P t st d x with
  |some st'=>some (true,st')
  |none=>(PN P o st).map fun r=>(r.1,st.put (some d) r.2)
 |_=>(PN P o st).map fun r=>(r.1,st.put (some d) r.2)
def J2 (P:Program)(o:Oper)(st:St):Option (Bool×St) :=
 match o.op,o.dst with
 |.alloc T,some d=>(OA P T st d).map fun st'=>(true,st')
 |.box _ x,some d=>(Wy st d x).map fun st'=>(true,st')
 |.buildSlice t len parts,some d=>J6 P t len (parts.toList.map fun x=>(x.1,Ck st x.2)) st d
 |.store T x y,none=>GM P T st x y
 |.call c,some d=>match PR P c st d with
  |some r=>some r
  |none=>NF P c st d
 |.makeMap t r,some d=>NB P t r st d
 |.mapUpdate t m k v,none=>MI P t m k v st
 |.insert t m k v,none=>MI P t m k v st
 |.lookup t m k ok,some d=>(MJ P t m k ok st).map fun r=>(r.1,st.put (some d) r.2)
 |.range t x,some d=>Su P t x st d
 |.entry x,some d=>O9 x st d
 |.makeInterface T x,some d=>(L4 (Ck st x)).map fun v=>(Rz P T,st.put (some d) (.lit (.iface T v)))
 |.typeAssert x _ T true,some d=>match Ck st x with
  |.lit (.iface t v)=>some (decide (t=T)&&Rz P T,st.put (some d) (.tup [TL v,.lit (.bool true)]))
  |_=>none
 |_,_=>none
def L6 (o:Oper)(st:St):Option Value :=
 match o.op with
 |.panic x=>match Ck st x with
  |.lit (.iface t v)=>some (.iface t v)
  |_=>none
 |_=>none
def TH (o:Oper):Bool:=match o.op with|.panic _=>true|.next _ _=>true|.binOp .eql _ _ (.const (.slice none 0 0)) _=>true|_=>false
def QF (P:Program)(o:Oper)(st:St)(X:St->Prop):Prop :=
 match o.op,o.dst with
 |.next x false,some d=>match K2 st x with
  |some (k,kvs,seen)=>((∀ i,i<kvs.length->i∈seen)->X (st.put (some d) (.tup [.lit (.bool false)]))) /\
   ∀ i (h:i<kvs.length),i∉seen->X (({ st with σ:=st.σ.set k [.mit kvs (seen++[i])] }:St).put (some d) (.tup [.lit (.bool true),JY kvs[i].1,JY kvs[i].2]))
  |none=>False
 |.binOp .eql t x (.const (.slice none 0 0)) _,some d=>match Ck st x with
  |.sl [] _=>UF P t=true/\X (st.put (some d) (.lit (.bool true)))/\X (st.put (some d) (.lit (.bool false)))
  |_=>False
 |_,_=>False
theorem X2 {P:Program}{o:Oper}{st:St}{X X':St->Prop}(hX:∀ st,X st->X' st)(h:QF P o st X):QF P o st X':=by
 unfold QF at h ⊢
 split at h
 . split at h
   . exact⟨fun k=>hX _ (h.1 k),fun i a b=>hX _ (h.2 i a b)⟩
   . exact h
 . split at h
   . exact⟨h.1,hX _ h.2.1,hX _ h.2.2⟩
   . exact h
 . exact h
def Hl (P:Program)(o:Oper)(st:St):Option (Bool×St) :=
 if EP o=2 then J2 P o st else match o.dst with
  |some d=>O8 P o st d
  |none=>none
def Hx (o:Oper):Bool:=match o.op with|.store _ _ _=>true|.mapUpdate _ _ _ _=>true|.insert _ _ _ _=>true|_=>false
def AG (a:Act)(t:Nat):Value:=a.tmps.getD t Go.undef
section
variable {w w' w0:World} {G G' G0:Gh} {P:Program} {p q:PV} {v u:Value} {st st':St} {a:Act} {o:Oper} {d:Nat}
theorem Bm (hd:d<a.tmps.size)(v:Value):AG (a.put (some d) v)=FN (AG a) d v:=by
 funext t
 show (a.tmps.setIfInBounds d v).getD t Go.undef=_
 unfold FN
 split
 . rename_i e;subst e;simp [hd]
 . rename_i e
   rw [É,ğ e]
   simp [AG]
theorem Oj (h:Inv w0 G0 st (AG a) w G)(hd:d<a.tmps.size)(he:(PN P o st).map (fun r=>(r.1,st.put (some d) r.2))=some (true,st')) :
 ∃ v G',(∀ w',(EP o=1->J8 w G (LR o st) w')->(execOp a.eval o).run P w'=.ok (.value v) w')/\(G'.U=G.U/\G'.φ=G.φ)/\Inv w0 G0 st' (AG (a.put (some d) v)) w G':=by
 cases b:PN P o st with
 |none=>rw [b] at he;cases he
 |some r =>
  rw [b] at he
  obtain⟨c,p⟩:=r
  simp only [ä,Â,È] at he
  obtain⟨rfl,rfl⟩:=he
  obtain⟨v,e,f,g⟩:=Xz (a:=a) h.store h.env b
  refine⟨v,G,fun w' i=>g w' (fun j=>i ?_),⟨rfl,rfl⟩,?_⟩
  . grind [P6,EP]
  . rw [Bm hd]
    exact h.put d e (f.tmp (Kx _ _ _) _ _)
theorem Ij (h:Inv w0 G0 st (AG a) w G)(hd:d<a.tmps.size)(ho:o.dst=some d)(he:O8 P o st d=some (true,st')) :
 ∃ v G',(∀ w',(EP o=1->J8 w G (LR o st) w')->(execOp a.eval o).run P w'=.ok (.value v) w')/\(G'.U=G.U/\G'.φ=G.φ)/\Inv w0 G0 st' (AG (a.put o.dst v)) w G':=by
 rw [ho]
 unfold O8 at he
 split at he
 . rename_i x c
   have key:∀ st',(∃ G',(G'.U=G.U/\G'.φ=G.φ)/\Inv w0 G0 st' (FN (AG a) d (a.eval x)) w G')->∃ v G',(∀ w',(EP o=1->J8 w G (LR o st) w')->(execOp a.eval o).run P w'=.ok (.value v) w')/\(G'.U=G.U/\G'.φ=G.φ)/\Inv w0 G0 st' (AG (a.put (some d) v)) w G':=by
    rintro st' ⟨G',b,f⟩
    refine⟨a.eval x,G',fun w' _=>by unfold execOp;rw [c];rfl,b,?_⟩
    rw [Bm hd];exact f
   split at he
   . rename_i st2 e
     simp only [Â,È,õ] at he
     subst he
     exact key _ (Vs h e)
   . cases e:Lg st d x with
     |none=>rw [e] at he;cases he
     |some st2 =>
      rw [e] at he
      simp only [ä,Â,È,õ] at he
      subst he
      exact key _ (QB h e)
 . rename_i x c
   cases e:KD st d x with
   |none=>rw [e] at he;cases he
   |some st2 =>
    rw [e] at he
    simp only [ä,Â,È,õ] at he
    subst he
    obtain⟨G',b,f⟩:=S6 h e
    refine⟨a.eval x,G',fun w' _=>by unfold execOp;rw [c];rfl,b,?_⟩
    rw [Bm hd];exact f
 . rename_i x i c
   cases e:Lh st d i x with
   |none=>rw [e] at he;cases he
   |some st2 =>
    rw [e] at he
    simp only [ä,Â,È,õ] at he
    subst he
    obtain⟨v,G',g,b,f⟩:=QE (P:=P) h e
    refine⟨v,G',fun w' _=>by unfold execOp;rw [c];simp [g],b,?_⟩
    rw [Bm hd];exact f
 . rename_i t x c
   split at he
   . rename_i st2 e
     simp only [Â,È,õ] at he
     subst he
     obtain⟨v,G',g,b,f⟩:=Sx h e
     refine⟨v,G',fun w' j=>?_,b,?_⟩
     . have:=g w' (by have:=j (by simp [EP,c]);simpa [LR,c] using this)
       unfold execOp
       rw [c]
       simp [this]
     . rw [Bm hd];exact f
   . exact Oj h hd he
 . exact Oj h hd he
theorem J1 (h:Inv w0 G0 st (AG a) w G)(hd:∀ d,o.dst=some d->d<a.tmps.size)(he:J2 P o st=some (true,st')) :
 ∃ nx v w' G',(execOp a.eval o).run P w=.ok nx w'/\(nx=.value v∨(nx=.skip/\v=Go.undef))/\Inv w0 G0 st' (AG (a.put o.dst v)) w' G'/\(Hx o=false->∀ b∈G.φ,w'.heap[b]?=w.heap[b]?):=by
 unfold J2 at he
 split at he
 . rename_i T d f e
   cases s:OA P T st d with
   |none=>rw [s] at he;cases he
   |some st2 =>
    rw [s] at he
    simp only [ä,Â,È,õ] at he
    subst he
    obtain⟨v,w',G',g,l,n⟩:=Ue h s
    refine⟨_,v,w',G',by unfold execOp;rw [f];simp only [Ð,g,Ê,Ö],.inl rfl,?_,fun _=>n⟩
    rw [e,Bm (hd d e)];exact l
 . rename_i T x d f e
   cases s:Wy st d x with
   |none=>rw [s] at he;cases he
   |some st2 =>
    rw [s] at he
    simp only [ä,Â,È,õ] at he
    subst he
    obtain⟨v,w',G',g,l,n⟩:=X3 (P:=P) (T:=T) h s
    refine⟨_,v,w',G',by unfold execOp;rw [f];simp only [Ð,g,Ê,Ö],.inl rfl,?_,fun _=>n⟩
    rw [e,Bm (hd d e)];exact l
 . rename_i t len parts d f e
   obtain⟨v,w',G',g,l,n⟩:=ND (vals:=parts.map fun x=>(x.1,a.eval x.2)) h (by simp) (fun j p v C D=>by
    simp only [ç,Ą] at C
    simp only [Array.getElem?_map] at D
    cases J:parts[j]? with
    |none=>rw [J] at C;cases C
    |some z =>
     rw [J] at C D
     simp only [ä,Â] at C D
     subst C;subst D
     exact⟨rfl,Bz h.env _⟩) he
   refine⟨_,v,w',G',by unfold execOp;rw [f];simp only [Ð,g,Ê,Ö],.inl rfl,?_,fun _=>n⟩
   rw [e,Bm (hd d e)];exact l
 . rename_i T x y f e
   obtain⟨w',G',g,l,_⟩:=K8 (a:=a) h he
   refine⟨.skip,Go.undef,w',G',by unfold execOp;rw [f];simp only [Ð,g,Ê,Ö],.inr ⟨rfl,rfl⟩,?_,fun hs=>by simp [Hx,f] at hs⟩
   rw [e];exact l
 . rename_i c d f e
   split at he
   . rename_i r K
     obtain rfl:=Af he
     obtain⟨v,w',G',g,l,n⟩:=S7 h f K
     refine⟨_,v,w',G',g,.inl rfl,?_,fun _=>n⟩
     rw [e,Bm (hd d e)];exact l
   . obtain⟨v,w',G',g,l,n⟩:=QG h f he
     refine⟨_,v,w',G',g,.inl rfl,?_,fun _=>n⟩
     rw [e,Bm (hd d e)];exact l
 . rename_i t r d f e
   obtain⟨v,w',G',g,l,n⟩:=QD (a:=a) h he
   refine⟨_,v,w',G',by unfold execOp;rw [f];simp only [Ð,g,Ê,Ö],.inl rfl,?_,fun _=>n⟩
   rw [e,Bm (hd d e)];exact l
 . rename_i t m k x f e
   obtain⟨w',G',g,l⟩:=MH (a:=a) h he
   refine⟨.skip,Go.undef,w',G',by unfold execOp;rw [f];simp only [Ð,g,Ê,Ö],.inr ⟨rfl,rfl⟩,?_,fun hs=>by simp [Hx,f] at hs⟩
   rw [e];exact l
 . rename_i t m k x f e
   obtain⟨w',G',g,l⟩:=MH (a:=a) h he
   refine⟨.skip,Go.undef,w',G',by unfold execOp;rw [f];simp only [Ð,g,Ê,Ö],.inr ⟨rfl,rfl⟩,?_,fun hs=>by simp [Hx,f] at hs⟩
   rw [e];exact l
 . rename_i t m k ok d f e
   obtain⟨⟨c,p⟩,s,u⟩:=Option.map_eq_some_iff.1 he
   simp only [È] at u
   obtain⟨rfl,rfl⟩:=u
   obtain⟨v,g,l,E⟩:=Sw (a:=a) h s
   refine⟨_,v,w,G,by unfold execOp;rw [f];simp only [Ð,g,Ê,Ö],.inl rfl,?_,fun _ _ _=>rfl⟩
   rw [e,Bm (hd d e)]
   refine h.put d l ?_
   rcases E with E|⟨x,b,rfl⟩
   . exact DX E _ _ _ _
   . intro i xs q
     exfalso
     match i,q with
     |0,q =>
      have:F5 x=.sl xs .own:=by simpa using q
      unfold F5 at this
      split at this<;>(try split at this)<;>cases this
     |1,q=>cases q
 . rename_i t x d f e
   obtain⟨v,w',G',g,l,n⟩:=TY (a:=a) h he
   refine⟨_,v,w',G',by unfold execOp;rw [f];simp only [Ð,g,Ê,Ö],.inl rfl,?_,fun _=>n⟩
   rw [e,Bm (hd d e)];exact l
 . rename_i x d f e
   obtain⟨v,g,l⟩:=Uc (P:=P) (a:=a) h he
   refine⟨_,v,w,G,by unfold execOp;rw [f];simp only [Ð,g,Ê,Ö],.inl rfl,?_,fun _ _ _=>rfl⟩
   rw [e,Bm (hd d e)];exact l
 . rename_i T x d f e
   obtain⟨v,s,u⟩:=Option.map_eq_some_iff.1 he
   simp only [È] at u
   obtain⟨F,rfl⟩:=u
   have H:=LW (Bz (a:=a) h.env x) s
   refine⟨_,.iface T v,w,G,by unfold execOp;rw [f];simp only [Ð,H,run_makeInterface F,Ê,Ö],.inl rfl,?_,fun _ _ _=>rfl⟩
   rw [e,Bm (hd d e)]
   exact h.putPlain d (.lit _ _) rfl
 . rename_i x xt T d f e
   split at he
   . rename_i t v H
     simp only [Â,È,Æ,Í] at he
     obtain⟨⟨rfl,F⟩,rfl⟩:=he
     have B:=Bz (a:=a) h.env x
     rw [H] at B
     have I:a.eval x=.iface t v:=by
      revert B;generalize a.eval x=z;intro B
      cases B;rfl
     refine⟨_,.tuple #[v,.bool true],w,G,by unfold execOp;rw [f];simp only [Ð,I,Ph F,Ê,Ö],.inl rfl,?_,fun _ _ _=>rfl⟩
     rw [e,Bm (hd d e)]
     refine h.put d (.tup _ _ _ rfl (fun i q=>?_)) ?_
     . match i,q with
       |0,_=>exact Abl v
       |1,_=>exact .lit _ _
     . intro i xs q
       exfalso
       match i,q with
       |0,q=>exact Xr v xs (by simpa using q)
       |1,q=>cases q
   . cases he
 . cases he
theorem NQ {nx:Next}{w':World}{T:TypeId}{x y:Operand}(h:Inv w0 G0 st (AG a) w G)(hop:o.op=.store T x y)(he:J2 P o st=some (true,st'))(hr:(execOp a.eval o).run P w=.ok nx w'){k off kb:Nat}(hx:Ck st x=.ptr k off)(hk:G.φ[k]?=some kb){b:Nat}(hb:b≠kb):w'.heap[b]?=w.heap[b]?:=by
 unfold J2 at he
 rw [hop] at he
 cases c:o.dst with
 |some d=>rw [c] at he;cases he
 |none =>
  rw [c] at he
  obtain⟨w2,G2,e,_,f⟩:=K8 (a:=a) h he
  unfold execOp at hr
  rw [hop] at hr
  simp only [Ð,e,Ê,Ö] at hr
  cases hr
  exact f k off kb hx hk b hb
theorem IM (o:Oper):EP o=0∨EP o=1∨EP o=2:=by
 unfold EP
 repeat' split
 all_goals simp
end
end Go.Vl
namespace Go.Vl
open Go Go.RowKit
def Im (P:Program)(f:FuncId):Bool :=
 match P.funcs[f]? with
 |some fn=>fn.body.isSome&&(fn.name != "runtime.NumGoroutine")
 |none=>false
def Eo (P:Program)(o:Oper)(st:St):Option (FuncId×List PV) :=
 match o.op with
 |.call c=>match c.callee with
  |.value f=>match Ck st f with
   |.fn f caps=>if Im P f then some (f,c.args.toList.map (fun x=>Bf (Ck st x))++caps) else none
   |.fno true f caps=>if Im P f then some (f,c.args.toList.map (fun x=>Bf (Ck st x))++caps) else none
   |.fnb f first=>if Im P f then some (f,first++c.args.toList.map (fun x=>Bf (Ck st x))) else none
   |_=>none
  |_=>none
 |_=>none
def Ek:PV->PV
 |.sl xs (.view (.cell _ _))=>.sl xs .shared
 |p=>p
def St.aft (st:St)(σ:List (List PV)):St:={ env:=st.env.map fun x=>(x.1,Ek x.2),σ }
def Jk (keep:Nat->Bool):PV->PV
 |.sl xs (.view (.cell k j))=>if keep k=true then .sl xs (.view (.cell k j)) else .sl xs .shared
 |p=>p
def St.aftK (st:St)(keep:Nat->Bool)(σ:List (List PV)):St:={ env:=st.env.map fun x=>(x.1,Jk keep x.2),σ }
def Gh.inner (G:Gh):Gh:={ G with Ω:=fun b=>match G.Ω b with|some (.cell k j)=>some (.cell k j)|_=>none }
def Kw (tup:Bool)(d:Nat):Loc->Loc
 |.ret i=>if tup then .tcomp d i else .tmp d
 |l=>l
def P5:PV->Bool
 |.tup _=>true
 |_=>false
def Iq:Option Loc->Option Loc
 |some (.cell _ _)=>none
 |x=>x
def Gh.outer (G G':Gh)(tup:Bool)(d:Nat):Gh:={ G' with Ω:=fun b=>match G'.Ω b with|some l=>some (Kw tup d l)|none=>Iq (G.Ω b) }
section
variable {w w' w0:World} {G G' G0:Gh} {P:Program} {p q r:PV} {v u:Value} {st st':St} {a:Act} {o:Oper} {d:Nat} {σ σ':List (List PV)}
theorem IQ {f:FuncId}(h:Im P f=true)(vs:Array Value)(w:World):(callFunc f vs).run P w=.ok (.enter f vs) w:=by
 unfold Im at h
 split at h
 . rename_i fn a
   simp only [Æ,bne_iff_ne] at h
   have b:fn.body≠none:=by have:=h.1;intro e;rw [e] at this;cases this
   simp [callFunc,a,b,h.2]
 . cases h
theorem J5 {f:FuncId}{args:List PV}(h:Hp w G st (AG a))(he:Eo P o st=some (f,args)) :
 ∃ vs:Array Value,vs.size=args.length/\(∀ i (hi:i<args.length),V w G.U G.φ args[i] (vs.getD i Go.undef))/\∀ w',(execOp a.eval o).run P w'=.ok (.enter f vs) w':=by
 unfold Eo at he
 split at he
 . rename_i c m
   obtain⟨callee,cargs,ats⟩:=c
   simp only at he
   split at he
   . rename_i fo
     have j:=Bz (a:=a) h fo
     split at he
     . rename_i f' caps n
       rw [n] at j
       split at he
       . rename_i p
         simp only [Â,È] at he
         obtain⟨rfl,rfl⟩:=he
         obtain⟨arr,l,e,b⟩:∃ arr:Array Value,a.eval fo=.func (.func f') #[] arr/\arr.size=caps.length/\∀ i (h:i<caps.length),V w G.U G.φ caps[i] (arr.getD i Go.undef):=by
          generalize l:a.eval fo=z at j
          cases j with
          |fn _ _ _ arr e b=>exact⟨arr,rfl,e,b⟩
         refine⟨cargs.map a.eval++arr,by simp [e],fun i hi=>?_,fun w'=>?_⟩
         . by_cases d:i<cargs.size
           . have e1:(cargs.toList.map (fun x=>Bf (Ck st x))++caps)[i]=Bf (Ck st cargs[i]):=by
              rw [Ć (by simpa using d)];simp
             have e2:(cargs.map a.eval++arr).getD i Go.undef=a.eval cargs[i]:=by
              rw [É,ô (by simpa using d)];simp [d]
             rw [e1,e2];exact Cp (Bz h _)
           . have g:i-cargs.size<caps.length:=by simp at hi;omega
             have e1:(cargs.toList.map (fun x=>Bf (Ck st x))++caps)[i]=caps[i-cargs.size]:=by
              rw [Ď (by simp;omega)];simp
             have e2:(cargs.map a.eval++arr).getD i Go.undef=arr.getD (i-cargs.size) Go.undef:=by
              rw [É,Array.getElem?_append_right (by simp;omega),É];simp
             rw [e1,e2];exact b _ g
         . unfold execOp
           rw [m]
           simp only [Ð,resolve,l,Deferred.ofValue,Ö,Ê,invoke]
           rw [IQ p];simp
       . cases he
     . rename_i f' caps n
       rw [n] at j
       split at he
       . rename_i p
         simp only [Â,È] at he
         obtain⟨rfl,rfl⟩:=he
         obtain⟨arr,l,e,b⟩:∃ arr:Array Value,a.eval fo=.func (.func f') #[] arr/\arr.size=caps.length/\∀ i (h:i<caps.length),V w G.U G.φ caps[i] (arr.getD i Go.undef):=by
          generalize l:a.eval fo=z at j
          cases j with
          |fno _ _ _ arr e b=>exact⟨arr,rfl,e,fun i hi=>(b i hi).mono (fun _ _ h=>⟨h,Kp.refl⟩) (fun k x q=>by simp at q)⟩
         refine⟨cargs.map a.eval++arr,by simp [e],fun i hi=>?_,fun w'=>?_⟩
         . by_cases d:i<cargs.size
           . have e1:(cargs.toList.map (fun x=>Bf (Ck st x))++caps)[i]=Bf (Ck st cargs[i]):=by
              rw [Ć (by simpa using d)];simp
             have e2:(cargs.map a.eval++arr).getD i Go.undef=a.eval cargs[i]:=by
              rw [É,ô (by simpa using d)];simp [d]
             rw [e1,e2];exact Cp (Bz h _)
           . have g:i-cargs.size<caps.length:=by simp at hi;omega
             have e1:(cargs.toList.map (fun x=>Bf (Ck st x))++caps)[i]=caps[i-cargs.size]:=by
              rw [Ď (by simp;omega)];simp
             have e2:(cargs.map a.eval++arr).getD i Go.undef=arr.getD (i-cargs.size) Go.undef:=by
              rw [É,Array.getElem?_append_right (by simp;omega),É];simp
             rw [e1,e2];exact b _ g
         . unfold execOp
           rw [m]
           simp only [Ð,resolve,l,Deferred.ofValue,Ö,Ê,invoke]
           rw [IQ p];simp
       . cases he
     . rename_i f' first n
       rw [n] at j
       split at he
       . rename_i p
         simp only [Â,È] at he
         obtain⟨rfl,rfl⟩:=he
         obtain⟨arr,l,e,b⟩:∃ arr:Array Value,a.eval fo=.func (.func f') arr #[]/\arr.size=first.length/\∀ i (h:i<first.length),V w G.U G.φ first[i] (arr.getD i Go.undef):=by
          generalize l:a.eval fo=z at j
          cases j with
          |fnb _ _ _ arr e b=>exact⟨arr,rfl,e,fun i hi=>(b i hi).mono (fun _ _ h=>⟨h,Kp.refl⟩) (fun k x q=>by simp at q)⟩
         refine⟨arr++cargs.map a.eval,by simp [e],fun i hi=>?_,fun w'=>?_⟩
         . by_cases d:i<first.length
           . have e1:(first++cargs.toList.map (fun x=>Bf (Ck st x)))[i]=first[i]:=Ć d
             have e2:(arr++cargs.map a.eval).getD i Go.undef=arr.getD i Go.undef:=by
              rw [É,ô (by omega),É]
             rw [e1,e2];exact b _ d
           . have g:i-first.length<cargs.size:=by simp at hi;omega
             have e1:(first++cargs.toList.map (fun x=>Bf (Ck st x)))[i]=Bf (Ck st cargs[i-first.length]):=by
              rw [Ď (by omega)];simp
             have e2:(arr++cargs.map a.eval).getD i Go.undef=a.eval cargs[i-first.length]:=by
              rw [É,Array.getElem?_append_right (by omega)];simp [e,g]
             rw [e1,e2];exact Cp (Bz h _)
         . unfold execOp
           rw [m]
           simp only [Ð,resolve,l,Deferred.ofValue,Ö,Ê,invoke]
           rw [IQ p];simp
       . cases he
     . cases he
   . cases he
 . cases he
theorem Jy (st:St)(σ:List (List PV))(t:Nat):(st.aft σ).get t=Ek (st.get t):=by
 show Cj (st.env.map fun x=>(x.1,Ek x.2)) t=Ek (Cj st.env t)
 generalize st.env=env
 induction env with
 |nil=>rfl
 |cons x r ih =>
  show (if x.1=t then Ek x.2 else Cj (r.map fun x=>(x.1,Ek x.2)) t)=Ek (if x.1=t then x.2 else Cj r t)
  split
  . rfl
  . exact ih
theorem HM {b k j:Nat}:G.inner.Ω b=some (.cell k j)↔G.Ω b=some (.cell k j):=by
 show (match G.Ω b with|some (.cell k j)=>some (Loc.cell k j)|_=>none)=_↔_
 split<;>simp_all
theorem Ma {b:Nat}(h:G.Ω b=none):G.inner.Ω b=none:=by
 show (match G.Ω b with|some (.cell k j)=>some (Loc.cell k j)|_=>none)=none
 rw [h]
theorem Jv {b:Nat}(h:G.inner.Ω b≠none):G.Ω b≠none:=fun e=>h (Ma e)
theorem Ay.inner (h:Ay w G σ):Ay w G.inner σ:=by
 refine⟨h.len,h.nodup,fun k b cs d e=>?_,h.ub,fun b hb=>h.ob b (Jv hb)⟩
 obtain⟨⟨T,arr,f,g,i⟩,l⟩:=h.blk k b cs d e
 refine⟨⟨T,arr,f,g,fun j c m=>?_⟩,l⟩
 obtain⟨v,n,o,p,a⟩:=i j c m
 refine⟨v,n,o,p,?_⟩
 unfold Ca at a ⊢
 split
 . exact Az.to a rfl (fun b hb=>HM.2 hb)
 . exact B9.to a rfl (fun b hb=>HM.2 hb)
 . trivial
theorem WI {b:Nat}(h:G.inner.Ω b=none):Iq (G.Ω b)=G.Ω b:=by
 cases e:G.Ω b with
 |none=>rfl
 |some l =>
  cases l with
  |cell k j=>rw [HM.2 e] at h;cases h
  |_=>rfl
theorem P8 {b:Nat}(h:Iq (G.Ω b)≠none):G.inner.Ω b=none/\G.Ω b≠none:=by
 cases e:G.Ω b with
 |none=>rw [e] at h;exact absurd rfl h
 |some l =>
  cases l with
  |cell k j=>rw [e] at h;exact absurd rfl h
  |_=>exact⟨by show (match G.Ω b with|some (.cell k j)=>some (Loc.cell k j)|_=>none)=none;rw [e],by simp⟩
theorem Fl (G:Gh):∀ b l,G.inner.Ω b=some l->∃ k j,l=.cell k j:=by
 intro b l h
 have:(match G.Ω b with|some (.cell k j)=>some (Loc.cell k j)|_=>none)=some l:=h
 all_goals grind
theorem Inv.call {tup:Bool}(h:Inv w0 G0 st (AG a) w G)(hs:Ay w' G' σ')(hx:Ext w G.inner w' G')(d:Nat) :
 Inv w0 G0 (st.aft σ') (AG a) w' (G.outer G' tup d):=by
 have C:∀ b,G.inner.Ω b=none->b<w.heap.size->(G.outer G' tup d).Ω b=G.Ω b:=by
  intro b h1 o
  show (match G'.Ω b with|some l=>some (Kw tup d l)|none=>Iq (G.Ω b))=G.Ω b
  cases e:G'.Ω b with
  |none=>exact WI h1
  |some l =>
   rcases hx.newΩ b (by rw [e];simp) with h3|h3
   . omega
   . exact absurd h1 h3
 have p:Ext w G w' (G.outer G' tup d):=by
  refine⟨hx.os,hx.tape,hx.output,hx.size,fun k h1 o h3=>hx.frame k h1 o (Ma h3),hx.cells,fun b i y=>?_,fun b hb=>?_,?_⟩
  . rcases hx.newU b i y with h1|h1|h1
    . exact .inl h1
    . exact .inr (.inl h1)
    . exact .inr (.inr (Jv h1))
  . have hb:(match G'.Ω b with|some l=>some (Kw tup d l)|none=>Iq (G.Ω b))≠none:=hb
    cases e:G'.Ω b with
    |some l =>
     rcases hx.newΩ b (by rw [e];simp) with h1|h1
     . exact .inl h1
     . exact .inr (Jv h1)
    |none=>rw [e] at hb;exact .inr (P8 hb).2
  . obtain⟨ψ,h1,o⟩:=hx.phi
    exact⟨ψ,h1,fun b hb=>(o b hb).imp_right Jv⟩
 have ownK:∀ l xs v,(∀ k j,l≠.cell k j)->Az w G l xs v->Az w' (G.outer G' tup d) l xs v:=by
  intro l xs v A B
  refine B.keep fun b hb=>?_
  have f:G.inner.Ω b=none:=by
   cases e:G.inner.Ω b with
   |none=>rfl
   |some l' =>
    obtain⟨k,j,rfl⟩:=Fl G b l' e
    rw [HM] at e
    rw [hb] at e
    exact absurd (Af e) (A k j)
  have n:=h.store.ob b (by rw [hb];simp)
  refine⟨by rw [C b f n.1];exact hb,hx.frame b n.1 n.2 f,fun i y=>?_⟩
  rcases hx.newU b i y with h1|h1|h1
  . exact h1
  . omega
  . exact absurd f h1
 have prvK:∀ l xs v,(∀ k j,l≠.cell k j)->B9 w G l xs v->B9 w' (G.outer G' tup d) l xs v:=by
  intro l xs v A B
  refine B.keep fun b hb=>?_
  have f:G.inner.Ω b=none:=by
   cases e:G.inner.Ω b with
   |none=>rfl
   |some l' =>
    obtain⟨k,j,rfl⟩:=Fl G b l' e
    rw [HM] at e
    rw [hb] at e
    exact absurd (Af e) (A k j)
  have n:=h.store.ob b (by rw [hb];simp)
  refine⟨by rw [C b f n.1];exact hb,hx.frame b n.1 n.2 f,fun i y=>?_⟩
  rcases hx.newU b i y with h1|h1|h1
  . exact h1
  . omega
  . exact absurd f h1
 refine⟨h.ext.trans p,?_,⟨fun t=>?_,fun t=>?_⟩⟩
 . refine⟨hs.len,hs.nodup,fun k b cs h1 o=>?_,hs.ub,fun b hb=>?_⟩
   . obtain⟨⟨T,arr,h3,h4,D⟩,E⟩:=hs.blk k b cs h1 o
     refine⟨⟨T,arr,h3,h4,fun j c F=>?_⟩,E⟩
     obtain⟨v,H,I,J,x⟩:=D j c F
     refine⟨v,H,I,J,?_⟩
     unfold Ca at x ⊢
     split
     . refine Az.to x rfl (fun b hb=>?_)
       show (match G'.Ω b with|some l=>some (Kw tup d l)|none=>Iq (G.Ω b))=_
       rw [hb];rfl
     . refine B9.to x rfl (fun b hb=>?_)
       show (match G'.Ω b with|some l=>some (Kw tup d l)|none=>Iq (G.Ω b))=_
       rw [hb];rfl
     . trivial
   . have o:(match G'.Ω b with|some l=>some (Kw tup d l)|none=>Iq (G.Ω b))≠none:=hb
     cases e:G'.Ω b with
     |some l=>exact hs.ob b (by rw [e];simp)
     |none =>
      rw [e] at o
      have h3:=h.store.ob b (P8 o).2
      refine⟨ñ h3.1 hx.size,?_⟩
      obtain⟨ψ,K,L⟩:=hx.phi
      show b∉G'.φ
      rw [K]
      intro hm
      rcases List.mem_append.1 hm with hm|hm
      . exact h3.2 hm
      . rcases L b hm with h4|h4
        . omega
        . exact h4 (P8 o).1
 . rw [Jy]
   have z:=p.V (h.env.v t)
   revert z
   generalize st.get t=q
   intro z
   unfold Ek
   split
   . exact z.tag (by simp) (by simp)
   . exact z
 . rw [Jy]
   have r:=h.env.tag t
   revert r
   generalize st.get t=q
   intro r
   cases q with
   |prv xs=>exact prvK _ _ _ (by simp) r
   |sl xs g =>
    cases g with
    |own=>exact ownK _ _ _ (by simp) r
    |view m =>
     cases m with
     |tmp s=>exact⟨by rw [Jy,r.1];rfl,r.2⟩
     |cell k j=>trivial
     |_=>exact r
    |_=>trivial
   |tup cs =>
    intro i xs M
    obtain⟨arr,u,h1,o,h3⟩:=r i xs M
    exact⟨arr,u,h1,o,ownK _ _ _ (by simp) h3⟩
   |_=>trivial
theorem PD (keep:Nat->Bool)(st:St)(σ:List (List PV))(t:Nat):(st.aftK keep σ).get t=Jk keep (st.get t):=by
 show Cj (st.env.map fun x=>(x.1,Jk keep x.2)) t=Jk keep (Cj st.env t)
 generalize st.env=env
 induction env with
 |nil=>rfl
 |cons x r ih =>
  show (if x.1=t then Jk keep x.2 else Cj (r.map fun x=>(x.1,Jk keep x.2)) t)=Jk keep (if x.1=t then x.2 else Cj r t)
  split
  . rfl
  . exact ih
theorem Inv.callK {tup:Bool}(h:Inv w0 G0 st (AG a) w G)(hs:Ay w' G' σ')(hx:Ext w G.inner w' G')(d:Nat)(keep:Nat->Bool)
 (hk:∀ k b,keep k=true->G.φ[k]?=some b->σ'[k]?=st.σ[k]?/\w'.heap[b]?=w.heap[b]?):Inv w0 G0 (st.aftK keep σ') (AG a) w' (G.outer G' tup d):=by
 have l:=h.call (tup:=tup) hs hx d
 refine⟨l.ext,l.store,⟨fun t=>?_,fun t=>?_⟩⟩
 . have i:=l.env.v t
   rw [Jy] at i
   rw [PD]
   revert i
   generalize st.get t=q
   intro i
   unfold Jk
   split
   . split
     . exact V.tag (g:=.shared) i (by simp) (by simp)
     . exact i
   . grind [Ek]
 . have f:=l.env.tag t
   have c:=h.env.tag t
   rw [Jy] at f
   rw [PD]
   revert f c
   generalize st.get t=q
   intro f c
   cases q with
   |sl xs g =>
    cases g with
    |own=>exact f
    |view m =>
     cases m with
     |tmp s =>
      obtain⟨e1,e2⟩:=c
      exact⟨by rw [PD,e1];rfl,e2⟩
     |cell k j =>
      obtain⟨cs,b,e1,e2,e3,e4⟩:=c
      rw [show Jk keep (.sl xs (.view (.cell k j)))=(if keep k=true then PV.sl xs (.view (.cell k j)) else .sl xs .shared) from rfl]
      by_cases e:keep k=true
      . rw [Ç e]
        obtain⟨f1,f2⟩:=hk k b e e3
        refine⟨cs,b,by show σ'[k]?=_;rw [f1];exact e1,e2,?_,?_⟩
        . obtain⟨ψ,o,_⟩:=hx.phi
          show G'.φ[k]?=some b
          have n:G'.φ=G.φ++ψ:=o
          rw [n,Õ (List.getElem?_eq_some_iff.1 e3).1];exact e3
        . show w'.cell? ⟨b,j,none⟩=_
          rw [<- e4];unfold World.cell?;rw [f2]
      . rw [Ä e];trivial
     |_=>exact f
    |_=>trivial
   |tup cs=>exact f
   |_=>trivial
theorem Inv.putRet (h:Inv w0 G0 st (AG a) w' (G.outer G' (P5 r) d))(hv:V w' G'.U G'.φ r v)(ht:Gm w' G' r v) :
 Inv w0 G0 (st.put (some d) r) (FN (AG a) d v) w' (G.outer G' (P5 r) d):=by
 refine h.put d hv ?_
 cases r with
 |sl xs g =>
  cases g with
  |own =>
   exact Az.to (l:=.ret 0) ht rfl (fun b hb=>by
    show (match G'.Ω b with|some l=>some (Kw _ d l)|none=>Iq (G.Ω b))=_
    rw [hb];rfl)
  |view m=>exact ht.elim
  |_=>trivial
 |tup cs =>
  intro i xs c
  obtain⟨arr,u,e,f,j⟩:=ht i xs c
  refine⟨arr,u,e,f,j.to rfl (fun b hb=>?_)⟩
  show (match G'.Ω b with|some l=>some (Kw _ d l)|none=>Iq (G.Ω b))=_
  rw [hb];rfl
 |_=>trivial
end
end Go.Vl
namespace Go.Vl
open Go Go.RowKit
inductive AX where
 |normal
 |exit (id:Nat)
 |ret
 |pan (c:List PanicEntry)
def C3 (ds:List Deferred)(w0:World)(G0:Gh)(n:Nat)(K:AX->St->Prop):Exit->Act->World->Prop
 |.normal,a,w=>a.tmps.size=n/\a.defers=ds/\∃ st G,K .normal st/\Inv w0 G0 st (AG a) w G
 |.exit id,a,w=>a.tmps.size=n/\a.defers=ds/\∃ st G,K (.exit id) st/\Inv w0 G0 st (AG a) w G
 |.ret,a,w=>a.tmps.size=n/\a.defers=ds/\∃ st G,K .ret st/\Inv w0 G0 st (AG a) w G
 |.panic c,a,w=>a.defers=ds/\∃ st G,K (.pan c) st/\Ext w0 G0 w G/\Ay w G st.σ
 |_,_,_=>False
def Cy (ops:Array Oper)(st:St)(o:Oper):Option Bool :=
 match o.guard with
 |none=>some true
 |some (j,want) =>
  match (ops[j]?).bind (·.dst) with
  |some d=>match st.get d with
   |.lit (.bool b)=>some (b == want)
   |.lit (.tuple _)=>some false
   |_=>none
  |none=>none
def B1 (P:Program)(ops:Array Oper)(K:AX->St->Prop):List Oper->St->Prop
 | [],st=>K .normal st
 |o::rest,st =>
  match Cy ops st o with
  |none=>False
  |some false=>B1 P ops K rest (st.put o.dst (.lit (.tuple #[])))
  |some true =>
   match Hl P o st with
   |some (c,st')=>c=true/\B1 P ops K rest st'
   |none =>
    match Eo P o st with
    |some (f,args)=>VC P f args st.σ fun x σ'=>match x with
     |.ret r=>B1 P ops K rest ((st.aft σ').put o.dst r)
     |.pan c=>K (.pan c) { st with σ:=σ' }
    |none=>match L6 o st with
     |some v=>K (.pan [{ v,recovered:=false }]) st
     |none=>QF P o st fun st2=>B1 P ops K rest st2
section
variable {w w' w0:World} {G G' G0:Gh} {P:Program} {st st':St} {a:Act} {o:Oper} {n:Nat} {ops:Array Oper} {K:AX->St->Prop} {ds:List Deferred}
theorem Dd {b:Bool}(h:Hp w G st (AG a))(hg:Cy ops st o=some b):Region.wanted o (yielded ops a.tmps)=b:=by
 unfold Cy at hg
 unfold Region.wanted
 split at hg
 . rename_i g;rw [g];simpa using hg
 . rename_i j want g
   rw [g]
   split at hg
   . rename_i d l
     split at hg
     . rename_i b' hb
       have c:=h.v d
       rw [hb] at c
       have f:a.tmps.getD d Go.undef=.bool b':=by
        have:AG a d=.bool b':=by
         revert c;generalize AG a d=z;intro c
         cases c with
         |lit _ _=>rfl
        exact this
       have i:a.tmps[d]?=some (.bool b'):=by
        rw [É] at f
        cases e:a.tmps[d]? with
        |none=>rw [e] at f;cases f
        |some z=>rw [e] at f;rw [<- f];rfl
       have k:yielded ops a.tmps j=some b':=by
        unfold yielded
        rw [l]
        simp [i]
       simp only [k]
       simp only [Â] at hg
       subst hg
       cases b'<;>cases want<;>rfl
     . rename_i u hb
       have c:=h.v d
       rw [hb] at c
       have f:a.tmps.getD d Go.undef=.tuple u:=by
        have:AG a d=.tuple u:=by
         revert c;generalize AG a d=z;intro c
         cases c with
         |lit _ _=>rfl
        exact this
       have k:yielded ops a.tmps j=none:=by
        unfold yielded
        rw [l]
        rw [É] at f
        cases e:a.tmps[d]? with
        |none=>simp [e]
        |some z=>rw [e] at f;obtain rfl:z=.tuple u:=f;simp [e]
       simp only [k]
       simp only [Â] at hg
       subst hg
       rfl
     . cases hg
   . cases hg
theorem Bw (a:Act)(d:Option Tmp)(v:Value):(a.put d v).tmps.size=a.tmps.size:=by cases d<;>simp [Act.put]
theorem put_defers (a:Act)(d:Option Tmp)(v:Value):(a.put d v).defers=a.defers:=by cases d<;>rfl
theorem Inv.skipPut {d:Option Tmp}(h:Inv w0 G0 st (AG a) w G)(hd:∀ x,d=some x->x<a.tmps.size):Inv w0 G0 (st.put d (.lit (.tuple #[]))) (AG (a.put d Go.undef)) w G:=by
 cases d with
 |none=>exact h
 |some x=>rw [Bm (hd x rfl)];exact h.putPlain x (.lit _ _) rfl
theorem Sv {next:Act->World->Prop}{Q:Exit->Act->World->Prop}(h:Inv w0 G0 st (AG a) w G)(hd:∀ d,o.dst=some d->d<a.tmps.size)(he:Hl P o st=some (true,st'))
 (hn:∀ v w' G',Inv w0 G0 st' (AG (a.put o.dst v)) w' G'->next (a.put o.dst v) w'):o.wp P a w next Q:=by
 unfold Hl at he
 unfold Oper.wp
 split at he
 . obtain⟨nx,v,w',G',c,e,f,_⟩:=J1 h hd he
   rw [c]
   rcases e with rfl|⟨rfl,rfl⟩
   . exact hn v w' G' f
   . exact hn Go.undef w' G' f
 . split at he
   . rename_i d b
     obtain⟨v,G',c,_,e⟩:=Ij h (hd d b) b he
     rw [c w (fun _=>(Reads.refl _ _).one _)]
     exact hn v w G' e
   . cases he
theorem Cu.inner (h:Cu w G):Cu w G.inner:=⟨h.1,fun b hb=>⟨(h.2 b hb).1,(h.2 b hb).2.1,Ma (h.2 b hb).2.2⟩⟩
theorem NC {f:FuncId}{args:List PV}{next:Act->World->Prop}{Q:Exit->Act->World->Prop}{KR:PV->List (List PV)->Prop}{KP:List PanicEntry->List (List PV)->Prop}
 (hgl:Cu w0 G0) (h:Inv w0 G0 st (AG a) w G) (hd:∀ d,o.dst=some d->d<a.tmps.size) (hdef:a.defers=ds) (he:Eo P o st=some (f,args))
 (hc:VC P f args st.σ fun x σ'=>match x with|.ret r=>KR r σ'|.pan c=>KP c σ')
 (hn:∀ r σ' v w' G',KR r σ'->Inv w0 G0 ((st.aft σ').put o.dst r) (AG (a.put o.dst v)) w' G'->next (a.put o.dst v) w')
 (hp:∀ c σ' w' G',KP c σ'->a.defers=ds->Ext w0 G0 w' G'->Ay w' G' σ'->Q (.panic c) a w'):o.wp P a w next Q:=by
 obtain⟨vs,l,m,n⟩:=J5 h.env he
 unfold Oper.wp
 rw [n w]
 refine (hc w G.inner vs h.store.inner l m (Fl G) (hgl.ext h.ext).inner).mono fun e w' i=>?_
 obtain⟨x,σ',G',j,g,hs,k⟩:=i
 cases x with
 |ret r =>
  obtain⟨v,rfl,p,q⟩:=g
  show next (a.put o.dst v) w'
  cases b:o.dst with
  |none =>
   have hI:=h.call (tup:=false) hs k 0
   have:=hn r σ' v w' _ j (by rw [b];exact hI)
   rw [b] at this;exact this
  |some d =>
   have hI:=(h.call (tup:=P5 r) hs k d).putRet p q
   have:=hn r σ' v w' _ j (by rw [b,Bm (hd d b)];exact hI)
   rw [b] at this;exact this
 |pan c =>
  obtain rfl:e=.panicked c:=g
  have hI:=h.call (tup:=false) hs k 0
  exact hp c σ' w' _ j hdef hI.ext hI.store
theorem NA {v:Value}(h:Hp w G st (AG a))(he:L6 o st=some v)(w1:World):(execOp a.eval o).run P w1=.halt (.panic v) w1:=by
 unfold L6 at he
 split at he
 . rename_i x c
   have b:=Bz (a:=a) h x
   split at he
   . rename_i t u e
     rw [e] at b
     simp only [Â] at he
     subst he
     have d:a.eval x=.iface t u:=by
      revert b;generalize a.eval x=z;intro b
      cases b;rfl
     unfold execOp
     rw [c]
     simp only [Ð,d,Instr.panic]
     rfl
   . cases he
 . cases he
theorem S5 {X:St->Prop}{next:Act->World->Prop}{Q:Exit->Act->World->Prop}(h:Inv w0 G0 st (AG a) w G)(hd:∀ d,o.dst=some d->d<a.tmps.size)(he:QF P o st X)
 (hn:∀ st' v w' G',Inv w0 G0 st' (AG (a.put o.dst v)) w' G'->X st'->next (a.put o.dst v) w'):o.wp P a w next Q:=by
 unfold QF at he
 split at he
 . rename_i x d j f
   split at he
   . rename_i k kvs seen hit
     unfold Oper.wp
     rcases Y0 (P:=P) (d:=d) o.type h hit with⟨k1,k2,k3⟩|⟨i,r,w',k1,k2,k3⟩
     . have e:(execOp a.eval o).run P w=.ok (.value (.tuple #[.bool false])) w:=by unfold execOp;rw [j];simp only [Ð,k2,Ê,Ö]
       rw [e]
       exact hn _ _ w G (by rw [f,Bm (hd d f)];exact k3) (he.1 k1)
     . have e:(execOp a.eval o).run P w=.ok (.value (.tuple #[.bool true,kvs[i].1,kvs[i].2])) w':=by unfold execOp;rw [j];simp only [Ð,k2,Ê,Ö]
       rw [e]
       exact hn _ _ w' G (by rw [f,Bm (hd d f)];exact k3) (he.2 i r k1)
   . exact he.elim
 . rename_i t x q d j f
   have l:=Bz (a:=a) h.env x
   split at he
   . rename_i g s
     rw [s] at l
     obtain⟨A,n,c,hA⟩:∃ A n c,a.eval x=.slice A n c:=by
      revert l
      generalize a.eval x=z
      intro l
      cases l<;>exact⟨_,_,_,rfl⟩
     have hB:a.eval (.const (.slice none 0 0))=.slice none 0 0:=rfl
     obtain⟨m,y,B⟩:=he
     unfold UF at m
     split at m
     . rename_i e hs
       have p:∃ b,(binOp .eql t (.slice A n c) (.slice none 0 0)).run P w=.ok (.bool b) w:=⟨_,Lib.run_eql_slice_nil w t e A n c 0 0 hs⟩
       have u:∃ b,(execOp a.eval o).run P w=.ok (.value (.bool b)) w:=by
        obtain⟨b,p⟩:=p
        refine⟨b,?_⟩
        unfold execOp
        rw [j]
        simp only [Ð,hA,hB]
        rw [show (eqGuard .eql t x (.const (.slice none 0 0)) (.slice A n c) (.slice none 0 0)).run P w=.ok () w by rw [eqGuard_at_slice];rfl]
        simp only [Ê]
        rw [p]
        rfl
       obtain⟨b,hb⟩:=u
       unfold Oper.wp
       rw [hb]
       refine hn (st.put (some d) (.lit (.bool b))) _ w G ?_ (by cases b<;>assumption)
       rw [f,Bm (hd d f)]
       exact h.put d (.lit _ _) trivial
     . cases m
   . exact he.elim
 . exact he.elim
theorem Eg (hgl:Cu w0 G0):∀ (l:List Oper) (st:St) (a:Act) (w:World) (G:Gh),Inv w0 G0 st (AG a) w G->a.defers=ds->a.tmps.size=n->(∀ o∈l,∀ d,o.dst=some d->d<n)->B1 P ops K l st ->
 wpList P ops (C3 ds w0 G0 n K) l a w
 | [],st,a,w,G,h,hdef,hsz,_,he=>⟨hsz,hdef,st,G,he,h⟩
 |o::rest,st,a,w,G,h,hdef,hsz,hd,he=>by
  have hdo:∀ d,o.dst=some d->d<a.tmps.size:=fun d hdd=>by rw [hsz];exact hd o (by simp) d hdd
  have hdr:∀ o∈rest,∀ d,o.dst=some d->d<n:=fun o ho=>hd o (by simp [ho])
  unfold B1 at he
  unfold wpList
  split at he
  . exact he.elim
  . rename_i hg
    rw [Dd h.env hg]
    simp only [â,û]
    exact Eg hgl rest _ _ w G (h.skipPut hdo) (by rw [put_defers];exact hdef) (by rw [Bw];exact hsz) hdr he
  . rename_i hg
    rw [Dd h.env hg]
    simp only [ø]
    left
    split at he
    . rename_i c st2 hop
      obtain⟨rfl,he2⟩:=he
      exact Sv h hdo hop (fun v w' G' hI=>Eg hgl rest _ _ w' G' hI (by rw [put_defers];exact hdef) (by rw [Bw];exact hsz) hdr he2)
    . split at he
      . rename_i f args hcall
        exact NC (KR:=fun r σ'=>B1 P ops K rest ((st.aft σ').put o.dst r)) (KP:=fun c σ'=>K (.pan c) { st with σ:=σ' }) hgl h hdo hdef hcall he
         (fun r σ' v w' G' hK hI=>Eg hgl rest _ _ w' G' hI (by rw [put_defers];exact hdef) (by rw [Bw];exact hsz) hdr hK)
         (fun c σ' w' G' hK hdf hE hS=>⟨hdf,_,G',hK,hE,hS⟩)
      . split at he
        . rename_i v hpan
          unfold Oper.wp
          rw [NA h.env hpan w]
          exact⟨hdef,st,G,he,h.ext,h.store⟩
        . exact S5 h hdo he fun st2 v w' G' hI hX=>Eg hgl rest _ _ w' G' hI (by rw [put_defers];exact hdef) (by rw [Bw];exact hsz) hdr hX
end
end Go.Vl
namespace Go.Vl
open Go Go.RowKit Go.Q
def F0 (r:Option Nat):Fence:={ Fence.wide with round:=r }
def IE (o:Oper):Bool:=match o.op with|.defer _=>false|_=>true
theorem Q8 {o:Oper}(h:IE o=true)(c):o.op≠.defer c:=by
 intro e;unfold IE at h;rw [e] at h;cases h
def CN:Code->Bool
 |.region _ ops _=>ops.toList.all IE
 |.seq a b=>CN a&&CN b
 |.cond _ a b=>CN a&&CN b
 |.block _ b=>CN b
 |.loop b=>CN b
 |_=>true
section
variable {P:Program} {ops:Array Oper} {Q Q':Exit->Act->World->Prop} {a:Act} {w:World} {r:Option Nat} {n:Nat}
theorem Q6 {m m':Machine}:StepsIn (Machine.fenced P (F0 r)) P m m'↔Steps P m m':=stepsIn_wide
theorem L7 {f:FuncId}{args:Array Value}{R:Ending->World->Prop}(h:Calls P f args w R):CallsIn (F0 r) n P f args w R:=(callsIn_wide (n:=n)).2 h
theorem RQ {row:String}{args:Array Value}{R:Value->World->Prop}(h:Rows P row args w R):RowsIn (F0 r) n P row args w R :=
 fun c cs _=>let ⟨v,w',k,s⟩:=h c cs;⟨v,w',k,Q6.2 s⟩
theorem JZ:(F0 r).depth.isSome=true->1<=n:=fun h=>by simp [F0,Fence.wide] at h
theorem OM {o:Oper}{K:Act->World->Prop}(hd:IE o=true)(h:o.wp P a w K Q):o.wpIn (F0 r) n P a w K Q:=by
 refine⟨fun _ _=>trivial,?_⟩
 rw [Oper.semAt_eq _ _ _ (Q8 hd)]
 unfold Oper.wp at h
 generalize (execOp a.eval o).run P w=z at h
 cases z with
 |ok x w' =>
  cases x with
  |value v=>exact h
  |skip=>exact h
  |defer d=>exact h
  |enter f args=>exact⟨JZ,L7 h⟩
  |row row args=>exact⟨JZ,RQ h⟩
  |_=>exact h.elim
 |halt x w' =>
  cases x<;>exact h
theorem NO (hQ:¬ LetsOut Q):∀ (l:List Oper) (a:Act) (w:World),(∀ o∈l,IE o=true)->wpList P ops Q l a w->wpListIn (F0 r) n P ops Q l a w
 | [],_,_,_,h=>h
 |o::rest,a,w,hd,h=>by
  unfold wpList at h
  unfold wpListIn
  have ih:=fun a w=>NO hQ rest a w (fun o ho=>hd o (by simp [ho]))
  split
  . rename_i hw
    rw [Ç hw] at h
    rcases h with h|h
    . exact OM (hd o (by simp)) (Oper.wp_mono (fun a w h=>ih a w h) h)
    . exact absurd h.2 hQ
  . rename_i hw
    rw [Ä hw] at h
    exact⟨fun _ _=>trivial,ih _ _ h⟩
theorem OP (hQ:¬ LetsOut Q)(hd:∀ o∈ops.toList,IE o=true){md:Region.Mode}:∀ (fuel:Nat) (listed:Array Bool) (a:Act) (w:World),wpAny P md ops Q fuel listed a w->wpAnyIn (F0 r) n P md ops Q fuel listed a w
 |0,_,_,_,h=>h
 |fuel+1,listed,a,w,h=>by
  refine⟨h.1,fun i hi=>?_⟩
  have h:=h.2 i hi
  unfold wpOp at h
  unfold wpOpIn
  have ih:=fun a w=>OP hQ hd (md:=md) fuel (listed.setIfInBounds i true) a w
  split
  . rename_i ho
    rw [ho] at h
    exact ih _ _ h
  . rename_i o ho
    rw [ho] at h
    simp only at h
    split
    . rename_i hw
      rw [Ç hw] at h
      rcases h with h|h
      . exact OM (hd o (by have:=Ò (l:=ops.toList) (i:=i) (a:=o) (by simpa using ho);exact this)) (Oper.wp_mono (fun a w h=>ih a w h) h)
      . exact absurd h.2 hQ
    . rename_i hw
      rw [Ä hw] at h
      exact⟨fun _ _=>trivial,ih _ _ h⟩
def RW (P:Program)(c:Code)(Q:Exit->Act->World->Prop)(a:Act)(w:World):Prop:=∀ r:Option Nat,(r≠none->CN c=true/\¬ LetsOut Q)->c.wpIn (F0 r) 0 P Q a w
theorem RW.mono {c:Code}(h:RW P c Q a w)(hq:∀ e a w,Q e a w->Q' e a w):RW P c Q' a w :=
 fun r hr=>wpIn_mono (h r fun hn=>⟨(hr hn).1,fun ⟨a,w,k⟩=>(hr hn).2 ⟨a,w,hq _ _ _ k⟩⟩) hq
theorem Wa {id:Nat}(h:wpList P ops Q ops.toList a w):RW P (Code.region id ops false) Q a w:=by
 intro r c
 cases r with
 |none=>exact (wpIn_wide (n:=0)).2 (wp_region_list h)
 |some l =>
  obtain⟨b,d⟩:=c (by simp)
  exact wpIn_region_list (NO d _ _ _ (by simp only [CN,Ú] at b;exact b) h)
theorem rw_any {id:Nat}(hm:P.follows .mixedOrders=true)(h:wpAny P .any ops Q ops.size (Array.replicate ops.size false) a { w with drawn:=w.drawn+1 }):RW P (Code.region id ops true) Q a w:=by
 intro r c
 cases r with
 |none=>exact (wpIn_wide (n:=0)).2 (wp_region_any hm h)
 |some l =>
  obtain⟨b,d⟩:=c (by simp)
  exact wpIn_region_any hm (OP d (by simp only [CN,Ú] at b;exact b) _ _ _ _ h)
theorem Pg {id:Nat}{l:List Oper}(c t:List Nat)(S:World->Prop)(hm:P.follows .mixedOrders=true)(hsel:Region.noSelect l.toArray=true)
 (hlen:t.length=l.length) (hok:Yv l.toArray c t (Array.replicate l.toArray.size false)=true) (hQ:∀ c d v a w,Q (.panic c) (a.put d v) w->Q (.panic c) a w)
 (hS:S w.drew) (h:JA P l.toArray Q S c t a w.drew):RW P (Code.region id l.toArray true) Q a w:=by
 refine rw_any hm ?_
 rw [show l.toArray.size=t.length by simp [hlen]]
 refine ON _ _ _ _ (IT (S:=S) (c:=c) hsel hQ t _ a _ ?_ (fun _=>hS) ?_ h)
 . intro j oj _ b
   rw [getD_replicate_false] at b
   cases b
 . rw [show t.length=l.toArray.size by simp [hlen]];exact hok
theorem Qx {F:Fence}{c:Code}(X:Nat->Act->World->Prop){m:Nat}(h₀:X m a w)
 (round:∀ m a w,X m a w->c.wpIn F n P (Exit.then (fun a' w'=>∃ m',m'<m/\X m' a' w') Q) a w):(Code.loop c).wpIn F n P Q a w:=by
 intro b k cs i hb j
 have key:∀ m a w,X m a w->∃ e a' w',Q e a' w'/\ArrivesIn (Machine.fenced P F) P (lone (b.atR a (.code c::.inLoop c::k)) cs w) b k cs e a' w':=by
  intro m
  induction m using Nat.strongRecOn with
  |_ m ih =>
   intro a w hI
   obtain⟨e,a₁,w₁,f,d⟩:=round m a w hI b (.inLoop c::k) cs i hb j
   cases e with
   |normal =>
    obtain⟨m',o,p⟩:=f
    obtain⟨e₂,a₂,w₂,q,g⟩:=ih m' o a₁ w₁ p
    exact⟨e₂,a₂,w₂,q,.of_steps (StepsIn.trans d (.one (fenced_calm hb j rfl) stepR_inLoop)) g⟩
   |exit id=>exact⟨_,a₁,w₁,f,.pass (x:=.inLoop c) rfl (fun _ _=>.inl (by simp)) d⟩
   |goto l=>exact⟨_,a₁,w₁,f,.pass (x:=.inLoop c) rfl (fun _ _=>.inl (by simp)) d⟩
   |ret=>exact⟨_,a₁,w₁,f,.pass (x:=.inLoop c) rfl (fun _ _=>.inl (by simp)) d⟩
   |panic ch=>exact⟨_,a₁,w₁,f,.pass (x:=.inLoop c) rfl (fun _ _=>.inl (by simp)) d⟩
   |outgrown=>exact⟨_,a₁,w₁,f,.pass (x:=.inLoop c) rfl (fun _ _=>.inl (by simp)) d⟩
 obtain⟨e,a',w',f,d⟩:=key m a w h₀
 exact⟨e,a',w',f,.of_steps (.one (fenced_calm hb j rfl) stepR_loop) d⟩
end
end Go.Vl
