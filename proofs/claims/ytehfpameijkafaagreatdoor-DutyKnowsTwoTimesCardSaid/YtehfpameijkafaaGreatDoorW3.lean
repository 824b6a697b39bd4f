/-
  Blocks written; blocks that are appended to. No program. Variables made and stored into. No program. Slices made and appended to. No program. Slices written out. No program. One operation. No program. Calls. No program. Statements: operations in the order of the text. No program. Code walked in a round of a range over a function: what was walked outside goes inside as well.
-/
import Derived.MapKept
import Derived.Maps.RangeRun
import Derived.Deep.AppendSrc
import Derived.RangeFuncLeaves
import Derived.RangeFuncCalls
import Derived.OrdersIn
import Derived.TacticsIn
import Derived.Test.YtehfpameijkafaaGreatDoorW1
import Derived.Test.YtehfpameijkafaaGreatDoorW2
set_option linter.unusedVariables false
set_option linter.unusedSimpArgs false
namespace Go.Vl
open Go Go.RowKit
def stripC (k o n:Nat):PV->PV
 |.sl xs (.view (.cell k' j))=>if k'=k/\o<=j/\j<o+n then .sl xs .shared else .sl xs (.view (.cell k' j))
 |p=>p
def St.stripC (st:St)(k o n:Nat):St:={ st with env:=st.env.map fun x=>(x.1,Vl.stripC k o n x.2) }
section
variable {w w' w0:World} {G G' G0:Gh} {P:Program} {p q:PV} {v u:Value} {st:St} {tm:Nat->Value}
theorem Gw (st:St)(k o n t:Nat):(st.stripC k o n).get t=stripC k o n (st.get t):=by
 show Cs (st.env.map fun x=>(x.1,Vl.stripC k o n x.2)) t=stripC k o n (Cs st.env t)
 generalize st.env=env
 induction env with
 |nil=>rfl
 |cons x r ih =>
  show (if x.1=t then stripC k o n x.2 else Cs (r.map fun x=>(x.1,Vl.stripC k o n x.2)) t)=stripC k o n (if x.1=t then x.2 else Cs r t)
  split
  . rfl
  . exact ih
theorem VX {k o n:Nat}{xs:List (List PV)}:stripC k o n p=.sl xs .own↔p=.sl xs .own:=by
 unfold stripC
 split
 . split<;>simp
 . rfl
theorem Inv.stripC (h:Inv w0 G0 st tm w G)(k o n:Nat):Inv w0 G0 (st.stripC k o n) tm w G:=by
 refine⟨h.ext,h.store,⟨fun t=>?_,fun t=>?_⟩⟩
 . rw [Gw]
   have hv:=h.env.v t
   revert hv
   generalize st.get t=q
   intro hv
   unfold Vl.stripC
   split
   . split
     . exact hv.tag (by simp) (by simp)
     . exact hv
   . exact hv
 . rw [Gw]
   have ht:=h.env.tag t
   revert ht
   generalize st.get t=q
   intro ht
   unfold Vl.stripC
   split
   . rename_i xs k' j
     split
     . trivial
     . exact ht
   . rename_i hno
     cases q with
     |sl xs g =>
      cases g with
      |view l =>
       cases l with
       |tmp s=>exact⟨by rw [Gw];exact VX.2 ht.1,ht.2⟩
       |cell k' j=>exact absurd rfl (hno xs k' j)
       |_=>exact ht
      |_=>exact ht
     |_=>exact ht
theorem A0.keep {l:Loc}{xs:List (List PV)}(h:A0 w G l xs v)(hk:∀ b,G.Ω b=some l->G'.Ω b=some l/\w'.heap[b]?=w.heap[b]?/\∀ i,G'.U b i->G.U b i):A0 w' G' l xs v:=by
 rcases h with h|⟨b,cap,sz,T,arr,h1,h2,h3,h4,h5,h6,h7⟩
 . exact .inl h
 . obtain⟨k1,k2,k3⟩:=hk b h4
   exact .inr ⟨b,cap,sz,T,arr,h1,h2,h3,k1,k2.trans h5,h6,fun i hi=>h7 i (k3 i hi)⟩
theorem BC.keep {l:Loc}{xs:List (List Value)}(h:BC w G l xs v)(hk:∀ b,G.Ω b=some l->G'.Ω b=some l/\w'.heap[b]?=w.heap[b]?/\∀ i,G'.U b i->G.U b i):BC w' G' l xs v:=by
 rcases h with h|⟨b,cap,sz,T,arr,h1,h2,h0,h3,h4,h5,h6,h7⟩
 . exact .inl h
 . obtain⟨k1,k2,k3⟩:=hk b h4
   exact .inr ⟨b,cap,sz,T,arr,h1,h2,h0,h3,k1,k2.trans h5,h6,fun i hi=>h7 i (k3 i hi)⟩
theorem Inv.setObj {k b:Nat}{cs cs':List PV}{arr':Array Value}{o o':Obj}(h:Inv w0 G0 st tm w G)(hk:G.φ[k]?=some b)(hcs:st.σ[k]?=some cs)(hb:w.heap[b]?=some o)
 (hb':w'.heap[b]?=some o') (hlay:Lay w G.U o' arr' cs') (hold:∀ i,i≠b->w'.heap[i]?=w.heap[i]?) (hos:w'.os=w.os) (htp:w'.tape=w.tape) (hout:w'.output=w.output)
 (hc:E0 w G cs' arr') (ht:∀ j c,cs'[j]?=some c->Ck w G (.cell k j) c (arr'.getD j Go.undef))
 (hvw:∀ t xs j v,st.get t=.sl xs (.view (.cell k j))->cs[j]?=some (.sl xs .own)->w.cell? ⟨b,j,none⟩=some v->cs'[j]?=some (.sl xs .own)/\w'.cell? ⟨b,j,none⟩=some v) :
 Inv w0 G0 { st with σ:=st.σ.set k cs' } tm w' G:=by
 have hkl:k<st.σ.length:=(List.getElem?_eq_some_iff.1 hcs).1
 have hbφ:b∈G.φ:=Ò hk
 have hsz:w'.heap.size=w.heap.size:=by
  have h1:b<w'.heap.size:=(Array.getElem?_eq_some_iff.1 hb').1
  have h2:b<w.heap.size:=(Array.getElem?_eq_some_iff.1 hb).1
  rcases Nat.lt_trichotomy w'.heap.size w.heap.size with h3|h3|h3
  . have h4:=hold w'.heap.size (by omega)
    rw [Array.getElem?_eq_none (by omega),ã (by omega)] at h4;cases h4
  . exact h3
  . have h4:=hold w.heap.size (by omega)
    rw [Array.getElem?_eq_none (xs:=w.heap) (by omega),ã (by omega)] at h4;cases h4
 have hcell:∀ b' i,G.U b' i->G.U b' i/\Kp w w' b' i:=fun b' i hu=>by
  refine⟨hu,Kp.of (hold b' ?_)⟩
  rintro rfl
  exact (h.store.blk k b' cs hk hcs).noU i hu
 have ownK:∀ l xs v,A0 w G l xs v->A0 w' G l xs v:=fun l xs v ho=>ho.keep fun b2 hb2=>⟨hb2,hold b2 (by rintro rfl;exact (h.store.ob b2 (by rw [hb2];simp)).2 hbφ),fun i hi=>hi⟩
 have prvK:∀ l xs v,BC w G l xs v->BC w' G l xs v:=fun l xs v ho=>ho.keep fun b2 hb2=>⟨hb2,hold b2 (by rintro rfl;exact (h.store.ob b2 (by rw [hb2];simp)).2 hbφ),fun i hi=>hi⟩
 have tagK:∀ l c v,Ck w G l c v->Ck w' G l c v:=by
  intro l c v ht
  unfold Ck at ht ⊢
  split
  . exact ownK _ _ _ ht
  . exact prvK _ _ _ ht
  . trivial
 have hnd:=h.store.nodup
 refine⟨?_,?_,?_⟩
 . refine h.ext.trans ⟨hos,htp,hout,by omega,fun i _ h1 _=>hold i (by rintro rfl;exact h1 hbφ),hcell,fun b i hu=>.inl hu,fun b hb=>.inr hb,[],by simp,by simp⟩
 . refine⟨by simp [h.store.len],hnd,fun k2 b2 cs2 h1 h2=>?_,fun b i hu=>by rw [hsz];exact h.store.ub b i hu,fun b hb=>by rw [hsz];exact h.store.ob b hb⟩
   by_cases e:k2=k
   . subst e
     rw [hk] at h1
     obtain rfl:=Af h1
     rw [ė hkl] at h2
     obtain rfl:=Af h2
     refine⟨⟨o',arr',hb',⟨hlay.mono hcell,hc.size⟩,fun j c hj=>?_⟩,(h.store.blk k2 b cs hk hcs).noU⟩
     have hjl:=List.getElem?_eq_some_iff.1 hj
     obtain⟨h3,h4⟩:=hc.v j hjl.1
     rw [hjl.2] at h3
     have hja:j<arr'.size:=by rw [hc.size];exact hjl.1
     exact⟨arr'.getD j Go.undef,by simp [hja],h4,h3.mono hcell (fun _ _ h=>h),tagK _ _ _ (ht j c hj)⟩
   . rw [List.getElem?_set_ne (fun e2=>e e2.symm)] at h2
     have hne:b2≠b:=by
      grind [List.getElem?_eq_some_iff,List.getElem_inj]
     obtain⟨⟨T2,arr2,h3,h4,h5⟩,h6⟩:=h.store.blk k2 b2 cs2 h1 h2
     refine⟨⟨T2,arr2,(hold b2 hne).trans h3,⟨h4.1.mono hcell,h4.2⟩,fun j c hj=>?_⟩,h6⟩
     obtain⟨v,h7,h8,h9,h10⟩:=h5 j c hj
     exact⟨v,h7,h8,h9.mono hcell (fun _ _ h=>h),tagK _ _ _ h10⟩
 . refine⟨fun t=>(h.env.v t).mono hcell (fun _ _ h=>h),fun t=>?_⟩
   have ht':=h.env.tag t
   have hvt:=hvw t
   show DV _ _ _ _ _ (st.get t) _
   revert ht' hvt
   generalize st.get t=q
   intro ht' hvt
   cases q with
   |prv xs=>exact prvK _ _ _ ht'
   |sl xs g =>
    cases g with
    |own=>exact ownK _ _ _ ht'
    |view m =>
     cases m with
     |tmp s=>exact ht'
     |cell k2 j =>
      obtain⟨cs2,b2,h1,h2,h3,h4⟩:=ht'
      by_cases e:k2=k
      . subst e
        rw [hk] at h3
        obtain rfl:=Af h3
        rw [hcs] at h1
        obtain rfl:=Af h1
        obtain⟨e1,e2⟩:=hvt xs j _ rfl h2 h4
        exact⟨cs',b,ė hkl,e1,hk,e2⟩
      . have hne:b2≠b:=by
         rintro rfl
         have h5:=(List.getElem?_eq_some_iff.1 h3)
         have h6:=(List.getElem?_eq_some_iff.1 hk)
         exact e ((List.getElem_inj hnd).1 (h5.2.trans h6.2.symm))
        refine⟨cs2,b2,?_,h2,h3,?_⟩
        . grind [Ck]
        . rw [Č (w:=w) (hold b2 hne)];exact h4
     |_=>exact ht'
    |_=>trivial
   |tup cs2 =>
    intro i xs hi
    obtain⟨arr2,u,h1,h2,h3⟩:=ht' i xs hi
    exact⟨arr2,u,h1,h2,ownK _ _ _ h3⟩
   |_=>trivial
theorem Inv.setBlock {k b:Nat}{cs cs':List PV}{arr arr':Array Value}{T:TypeId}(h:Inv w0 G0 st tm w G)(hk:G.φ[k]?=some b)(hcs:st.σ[k]?=some cs)(hb:w.heap[b]?=some (.cells arr T (0,0)))
 (hb':w'.heap[b]?=some (.cells arr' T (0,0))) (hm:∀ p∈cs',p.isM=false) (hold:∀ i,i≠b->w'.heap[i]?=w.heap[i]?) (hos:w'.os=w.os) (htp:w'.tape=w.tape) (hout:w'.output=w.output)
 (hc:E0 w G cs' arr') (ht:∀ j c,cs'[j]?=some c->Ck w G (.cell k j) c (arr'.getD j Go.undef))
 (hvw:∀ t xs j,st.get t=.sl xs (.view (.cell k j))->cs'[j]?=cs[j]?/\arr'[j]?=arr[j]?) :
 Inv w0 G0 { st with σ:=st.σ.set k cs' } tm w' G:=by
 refine h.setObj hk hcs hb hb' (.inl ⟨⟨T,rfl⟩,hm⟩) hold hos htp hout hc ht fun t xs j v h1 h2 h4=>?_
 obtain⟨e1,e2⟩:=hvw t xs j h1
 refine⟨by rw [e1];exact h2,?_⟩
 simp only [World.cell?,hb] at h4
 simp only [World.cell?,hb']
 simpa [e2] using h4
theorem Inv.reblk {b m:Nat}{l0:Loc}{o':Obj}(h:Inv w0 G0 st tm w G)(hb:b∉G.φ)(hfree:w.heap.size<=b∨G.Ω b≠none)
 (hno:∀ l,G.Ω b=some l->∀ ys,AU st l≠.sl ys .own) (hno2:∀ l,G.Ω b=some l->∀ ys,AU st l≠.prv ys) (hos:w'.os=w.os) (htp:w'.tape=w.tape) (hout:w'.output=w.output) (hsize:w.heap.size<=w'.heap.size)
 (hold:∀ k,k<w.heap.size->k≠b->w'.heap[k]?=w.heap[k]?) (hU:∀ i,G.U b i->Kp w w' b i/\i<m)
 (hb':w'.heap[b]?=some o') :
 Inv w0 G0 st tm w' { U:=fun b' i=>G.U b' i∨(b'=b/\i<m),φ:=G.φ,Ω:=fun b'=>if b'=b then some l0 else G.Ω b' }:=by
 have hcell:∀ b' i,G.U b' i->(G.U b' i∨(b'=b/\i<m))/\Kp w w' b' i:=fun b' i hu=>by
  refine⟨.inl hu,?_⟩
  by_cases e:b'=b
  . subst e;exact (hU i hu).1
  . exact Kp.of (hold b' (h.store.ub b' i hu) e)
 have hne2:∀ b2 l ys,G.Ω b2=some l->AU st l=.sl ys .own->b2≠b:=by
  rintro b2 l ys h1 h2 rfl;exact hno l h1 ys h2
 have ownK:∀ l ys v,AU st l=.sl ys .own->A0 w G l ys v->A0 w' { U:=fun b' i=>G.U b' i∨(b'=b/\i<m),φ:=G.φ,Ω:=fun b'=>if b'=b then some l0 else G.Ω b' } l ys v:=by
  intro l ys v hcl ho
  refine ho.keep fun b2 hb2=>?_
  have hn:=hne2 b2 l ys hb2 hcl
  refine⟨by show (if b2=b then _ else _)=_;rw [Ä hn];exact hb2,hold b2 (h.store.ob b2 (by rw [hb2];simp)).1 hn,fun i hi=>?_⟩
  rcases hi with hi|hi
  . exact hi
  . exact absurd hi.1 hn
 have prvK:∀ l ys v,AU st l=.prv ys->BC w G l ys v->BC w' { U:=fun b' i=>G.U b' i∨(b'=b/\i<m),φ:=G.φ,Ω:=fun b'=>if b'=b then some l0 else G.Ω b' } l ys v:=by
  intro l ys v hcl ho
  refine ho.keep fun b2 hb2=>?_
  have hn:b2≠b:=by rintro rfl;exact hno2 l hb2 ys hcl
  refine⟨by show (if b2=b then _ else _)=_;rw [Ä hn];exact hb2,hold b2 (h.store.ob b2 (by rw [hb2];simp)).1 hn,fun i hi=>?_⟩
  rcases hi with hi|hi
  . exact hi
  . exact absurd hi.1 hn
 have hφlt:∀ (k x:Nat),G.φ[k]?=some x->x<w.heap.size/\x≠b:=by
  intro k x hk
  have hkl:k<st.σ.length:=by rw [<- h.store.len];exact (List.getElem?_eq_some_iff.1 hk).1
  obtain⟨⟨T2,arr2,h3,_⟩,_⟩:=h.store.blk k x _ hk (Ã hkl)
  exact⟨(Array.getElem?_eq_some_iff.1 h3).1,by rintro rfl;exact hb (Ò hk)⟩
 have hext:Ext w G w' { U:=fun b' i=>G.U b' i∨(b'=b/\i<m),φ:=G.φ,Ω:=fun b'=>if b'=b then some l0 else G.Ω b' }:=by
  refine⟨hos,htp,hout,hsize,fun k hk h1 h2=>hold k hk ?_,hcell,fun b' i hu=>?_,fun b' hb2=>?_,[],by simp,by simp⟩
  . rintro rfl
    rcases hfree with h3|h3
    . omega
    . exact h3 h2
  . rcases hu with hu|⟨rfl,_⟩
    . exact .inl hu
    . exact .inr hfree
  . grind [Ck]
 refine⟨h.ext.trans hext,?_,?_⟩
 . refine⟨h.store.len,h.store.nodup,fun k x cs h1 h2=>?_,fun b' i hu=>?_,fun b' hb2=>?_⟩
   . obtain⟨hx1,hx2⟩:=hφlt k x h1
     obtain⟨⟨T2,arr2,h3,h4,h5⟩,h6⟩:=h.store.blk k x cs h1 h2
     refine⟨⟨T2,arr2,(hold x hx1 hx2).trans h3,⟨h4.1.mono hcell,h4.2⟩,fun j c hj=>?_⟩,fun i hu=>?_⟩
     . obtain⟨v,h7,h8,h9,h10⟩:=h5 j c hj
       refine⟨v,h7,h8,h9.mono hcell (fun _ _ h=>h),?_⟩
       unfold Ck at h10 ⊢
       split
       . exact ownK _ _ _ (by simp [AU,List.getD,h2,hj]) h10
       . exact prvK _ _ _ (by simp [AU,List.getD,h2,hj]) h10
       . trivial
     . rcases hu with hu|hu
       . exact h6 i hu
       . exact hx2 hu.1
   . rcases hu with hu|⟨rfl,_⟩
     . exact ò (h.store.ub b' i hu) hsize
     . exact (Array.getElem?_eq_some_iff.1 hb').1
   . by_cases e:b'=b
     . subst e;exact⟨(Array.getElem?_eq_some_iff.1 hb').1,hb⟩
     . have:(if b'=b then some l0 else G.Ω b')≠none:=hb2
       rw [Ä e] at this
       have:=h.store.ob b' this
       exact⟨ò this.1 hsize,this.2⟩
 . show Ib _ _ st tm
   have henv:Ib w' { U:=fun b' i=>G.U b' i∨(b'=b/\i<m),φ:=G.φ,Ω:=fun b'=>if b'=b then some l0 else G.Ω b' } st tm:=by
    refine⟨fun t=>(h.env.v t).mono hcell (fun _ _ h=>h),fun t=>?_⟩
    have ht':=h.env.tag t
    have hclm:∀ ys,st.get t=.sl ys .own->AU st (.tmp t)=.sl ys .own:=fun ys e=>e
    have hclp:∀ ys,st.get t=.prv ys->AU st (.tmp t)=.prv ys:=fun ys e=>e
    have hclt:∀ cs i ys,st.get t=.tup cs->cs[i]?=some (.sl ys .own)->AU st (.tcomp t i)=.sl ys .own:=fun cs i ys e e2=>by simp [AU,e,List.getD,e2]
    revert ht' hclm hclt hclp
    generalize st.get t=q
    intro ht' hclm hclp hclt
    cases q with
    |prv ys=>exact prvK _ _ _ (hclp ys rfl) ht'
    |sl ys g =>
     cases g with
     |own=>exact ownK _ _ _ (hclm ys rfl) ht'
     |view m =>
      cases m with
      |tmp s=>exact ht'
      |cell k j =>
       obtain⟨cs,x,h1,h2,h3,h4⟩:=ht'
       obtain⟨hx1,hx2⟩:=hφlt k x h3
       exact⟨cs,x,h1,h2,h3,by rw [Č (w:=w) (hold x hx1 hx2)];exact h4⟩
      |_=>exact ht'
     |_=>trivial
    |tup cs =>
     intro i ys hi
     obtain⟨arr2,u,h1,h2,h3⟩:=ht' i ys hi
     exact⟨arr2,u,h1,h2,ownK _ _ _ (hclt cs i ys rfl hi) h3⟩
    |_=>trivial
   exact henv
theorem Inv.own {b d sz cap:Nat}{xs:List (List PV)}{arr:Array Value}{T:TypeId}(h:Inv w0 G0 st tm w G)(hb:b∉G.φ)(hfree:w.heap.size<=b∨G.Ω b≠none)
 (hno:∀ l,G.Ω b=some l->∀ ys,AU st l≠.sl ys .own) (hno2:∀ l,G.Ω b=some l->∀ ys,AU st l≠.prv ys) (hos:w'.os=w.os) (htp:w'.tape=w.tape) (hout:w'.output=w.output) (hsize:w.heap.size<=w'.heap.size)
 (hold:∀ k,k<w.heap.size->k≠b->w'.heap[k]?=w.heap[k]?) (hU:∀ i,G.U b i->Kp w w' b i/\i<xs.length*sz)
 (hb':w'.heap[b]?=some (.cells arr T (0,0))) (hsz:arr.size=cap*sz) (hne:xs≠[]) (hrow:∀ x∈xs,x.length=sz) (hcap:xs.length<=cap) (hcap2:cap<=9223372036854775807)
 (hv:∀ i (hi:i<xs.length) j (hj:j<(xs[i]).length),V w G.U [] xs[i][j] (arr.getD (i*sz+j) Go.undef)/\(arr.getD (i*sz+j) Go.undef).oneCell'=true) :
 Inv w0 G0 (st.put (some d) (.sl xs .own)) (GG tm d (.slice (some ⟨b,0,none⟩) xs.length cap)) w' { U:=fun b' i=>G.U b' i∨(b'=b/\i<xs.length*sz),φ:=G.φ,Ω:=fun b'=>if b'=b then some (.tmp d) else G.Ω b' }:=by
 have h1:=h.reblk (m:=xs.length*sz) (l0:=.tmp d) hb hfree hno hno2 hos htp hout hsize hold hU hb'
 have hcell:∀ b' i,G.U b' i->(G.U b' i∨(b'=b/\i<xs.length*sz))/\Kp w w' b' i:=fun b' i hu=>by
  refine⟨.inl hu,?_⟩
  by_cases e:b'=b
  . subst e;exact (hU i hu).1
  . exact Kp.of (hold b' (h.store.ub b' i hu) e)
 have hbnd:∀ i j,i<xs.length->j<sz->i*sz+j<xs.length*sz:=by
  intro i j hi hj
  calc i*sz+j<i*sz+sz:=by omega
   _=(i+1)*sz:=by rw [ó,ğ]
   _<=xs.length*sz:=ð _ hi
 have hle:xs.length*sz<=arr.size:=by rw [hsz];exact ð _ hcap
 refine h1.put d ?_ ?_
 . refine .sl _ _ _ b 0 sz cap (fun i j=>arr.getD (i*sz+j) Go.undef) hcap hcap2 (fun i hi=>hrow _ (Ú hi)) (fun i j hi hj=>.inr ⟨rfl,by have:=hbnd i j hi hj;omega⟩) (fun i j hi hj=>?_) (fun i j hi hj=>?_) (fun i hi j hj=>?_) (by simp) (by simp)
   . have:=hbnd i j hi hj
     simp only [World.cell?,hb',ñ]
     have h5:i*sz+j<arr.size:=by omega
     simp [h5]
   . have h6:=hrow _ (Ú hi)
     exact (hv i hi j (by rw [h6];exact hj)).2
   . exact (hv i hi j hj).1.mono hcell (fun _ _ h=>h)
 . exact .inr ⟨b,cap,sz,T,arr,rfl,hne,hrow,Ç rfl,hb',hsz,fun i hi=>by
    rcases hi with hi|hi
    . exact (hU i hi).2
    . exact hi.2⟩
theorem Inv.ownP {b d sz cap:Nat}{xs:List (List Value)}{arr:Array Value}{T:TypeId}(h:Inv w0 G0 st tm w G)(hb:b∉G.φ)(hfree:w.heap.size<=b∨G.Ω b≠none)
 (hno:∀ l,G.Ω b=some l->∀ ys,AU st l≠.sl ys .own) (hno2:∀ l,G.Ω b=some l->∀ ys,AU st l≠.prv ys) (hos:w'.os=w.os) (htp:w'.tape=w.tape) (hout:w'.output=w.output) (hsize:w.heap.size<=w'.heap.size)
 (hold:∀ k,k<w.heap.size->k≠b->w'.heap[k]?=w.heap[k]?) (hU:∀ i,¬ G.U b i)
 (hb':w'.heap[b]?=some (.cells arr T (0,0))) (hne:xs≠[]) (hcap:xs.length<=cap/\cap<=9223372036854775807) (hrow:∀ x∈xs,x.length=sz)
 (hc:arr.size=cap*sz/\(∀ i,i<arr.size->(arr.getD i Go.undef).oneCell'=true)/\∀ i (hi:i<xs.length) j (hj:j<(xs[i]).length),arr.getD (i*sz+j) Go.undef=xs[i][j]) :
 ∃ G',Inv w0 G0 (st.put (some d) (.prv xs)) (GG tm d (.slice (some ⟨b,0,none⟩) xs.length cap)) w' G' :=
 ⟨_,(h.reblk (m:=0) (l0:=.tmp d) hb hfree hno hno2 hos htp hout hsize hold (fun i hu=>absurd hu (hU i)) hb').put d (.prv _ _ _ _)
  (.inr ⟨b,cap,sz,T,arr,rfl,hne,hcap,hrow,Ç rfl,hb',hc,fun i hu=>hu.elim (hU i) fun h=>by omega⟩)⟩
end
end Go.Vl
namespace Go.Vl
open Go Go.RowKit
section
variable {w w' w0:World} {G G' G0:Gh} {P:Program} {p q:PV} {v u:Value} {st st':St} {a:Act} {o:Oper} {d:Nat}
theorem CS (b:Nat)(T:TypeId):∀ (vs:List Value) (o:Nat) (w:World) (arr:Array Value),w.heap[b]?=some (.cells arr T (0,0)) ->
 ∃ arr',(w.setCells b o vs).heap[b]?=some (.cells arr' T (0,0))/\arr'.size=arr.size/\(∀ i,arr'[i]?=if o<=i/\i<o+vs.length/\i<arr.size then vs[i-o]? else arr[i]?) /\
  (∀ i,i≠b->(w.setCells b o vs).heap[i]?=w.heap[i]?)/\(w.setCells b o vs).heap.size=w.heap.size/\(w.setCells b o vs).os=w.os/\(w.setCells b o vs).tape=w.tape/\(w.setCells b o vs).output=w.output
 | [],o,w,arr,h=>⟨arr,h,rfl,fun i=>by rw [Ä (by simp;omega)],fun _ _=>rfl,rfl,rfl,rfl,rfl⟩
 |x::vs,o,w,arr,h=>by
  have h1:=Go.Q.heap_setCell_same w b o x arr T h
  obtain⟨arr',k1,k2,k3,k4,k5,k6,k7,k8⟩:=CS b T vs (o+1) _ _ h1
  refine⟨arr',k1,by rw [k2];simp,fun i=>?_,fun i hi=>(k4 i hi).trans (Below.heap_setCell _ _ _ _ hi),by rw [World.setCells,k5];simp [World.setCell],by rw [World.setCells,k6];rfl,by rw [World.setCells,k7];rfl,by rw [World.setCells,k8];rfl⟩
  rw [k3 i]
  simp only [Array.size_setIfInBounds,ß]
  by_cases e:i=o
  . subst e
    rw [Ä (by omega)]
    by_cases hs:i<arr.size
    . rw [Ç (by omega)];simp [hs]
    . rw [Ä (by omega)];simp [hs]
  . by_cases hc:o+1<=i/\i<o+1+vs.length/\i<arr.size
    . rw [Ç hc,Ç (by omega)]
      have:i-o=(i-(o+1))+1:=by omega
      rw [this,List.getElem?_cons_succ]
    . rw [Ä hc,Ä (by omega),Ģ (fun e2=>e e2.symm)]
theorem P1 (T:TypeId)(arr:Array Value)(w:World):(newRow T arr).run P w=.ok ⟨w.heap.size,0,none⟩ (w.alloc (.cells arr T)):=by
 simp only [newRow,Ñ,run_newObj,Ê,Ö];rfl
def zeroV (P:Program)(T:TypeId):Option (List PV):=(Ue P T).map fun z=>z.map GX
def P6 (P:Program)(T:TypeId)(st:St)(d:Nat):Option St :=
 (zeroV P T).map fun z=>({ st with σ:=st.σ++[z] }:St).put (some d) (.ptr st.σ.length 0)
theorem Az.lt {σ:List (List PV)}(h:Az w G σ){b:Nat}(hb:b∈G.φ):b<w.heap.size:=by
 obtain⟨k,hk,rfl⟩:=ø hb
 have hk2:k<σ.length:=by rw [<- h.len];exact hk
 obtain⟨⟨T,arr,h3,_⟩,_⟩:=h.blk k _ _ (Ã hk) (Ã hk2)
 all_goals grind
theorem Vy {T:TypeId}(h:Inv w0 G0 st (fun t=>a.tmps.getD t Go.undef) w G)(he:P6 P T st d=some st') :
 ∃ v w' G',(Instr.alloc T true (.tuple #[])).run P w=.ok v w'/\Inv w0 G0 st' (GG (fun t=>a.tmps.getD t Go.undef) d v) w' G'/\∀ b∈G.φ,w'.heap[b]?=w.heap[b]?:=by
 unfold P6 zeroV at he
 cases hz:Ue P T with
 |none=>rw [hz] at he;cases he
 |some z =>
  rw [hz] at he
  obtain rfl:=Af he
  obtain⟨zv,hz1,hz2⟩:=PF (w:=w) (G:=G) hz
  have hc:E0 w G (z.map GX) zv.cells:=⟨by rw [hz2.size];simp,fun i hi=>by
   have hi':i<z.length:=by simpa using hi
   simp only [é]
   exact⟨R0 (hz2.v i hi').1,(hz2.v i hi').2⟩⟩
  obtain⟨h1,h2⟩:=h.newBlock (T:=T) (Oo z) hc (fun j c hj=>by
   rw [æ] at hj
   cases hzj:z[j]? with
   |none=>rw [hzj] at hj;cases hj
   |some y =>
    rw [hzj] at hj
    obtain rfl:=Af hj
    have hjl:=List.getElem?_eq_some_iff.1 hzj
    have:=(hz2.v j hjl.1).1
    rw [hjl.2] at this
    exact MK this _)
  refine⟨.pointer (some ⟨w.heap.size,0,none⟩),w.alloc (.cells zv.cells T),_,?_,h1.putPlain d (.ptr _ _ _ _ h2) rfl,?_⟩
  . simp only [Instr.alloc,Ñ,PE hz1,Ê,newVar,P1,Ö]
  . exact fun b hb=>ê _ _ _ (h.store.lt hb)
def L2 (st:St):Operand->Option (Nat×List (List PV))
 |.tmp s=>match st.get s with|.sl xs .own=>some (s,xs)|_=>none
 |_=>none
theorem OX {x:Operand}{s:Nat}{xs:List (List PV)}(h:L2 st x=some (s,xs)):x=.tmp s/\st.get s=.sl xs .own:=by
 unfold L2 at h
 all_goals grind [L2]
def Qq (st:St):Operand->Option (Nat×List (List Value))
 |.tmp s=>match st.get s with|.prv xs=>some (s,xs)|_=>none
 |_=>none
theorem U5 {x:Operand}{s:Nat}{xs:List (List Value)}(h:Qq st x=some (s,xs)):x=.tmp s/\st.get s=.prv xs:=by
 unfold Qq at h
 all_goals grind [Qq]
theorem Pm (h:(HW p||MR p)=true):HW p=true∨∃ cs,p=.agg cs:=by
 rw [ú] at h
 rcases h with h|h
 . exact .inl h
 . cases p with
   |agg cs=>exact .inr ⟨cs,rfl⟩
   |_=>cases h
theorem Sk {xs:List (List PV)}{g:Grow}{φ:List Nat}{U:Nat->Nat->Prop}(h:V w U φ (.sl xs g) v):v.cells = #[v]:=by
 cases h<;>rfl
def XW (st:St)(d:Nat)(x:Operand):Option St :=
 match L2 st x with
 |some (s,xs)=>some (({ (st.put (some s) (.sl xs .shared)) with σ:=st.σ++[[.sl xs .own]] }:St).put (some d) (.ptr st.σ.length 0))
 |none=>if HW (Cu st x)||MR (Cu st x) then some (({ st with σ:=st.σ++[(Cx (Cu st x)).map GX] }:St).put (some d) (.ptr st.σ.length 0)) else none
theorem YP {T:TypeId}{x:Operand}(h:Inv w0 G0 st (fun t=>a.tmps.getD t Go.undef) w G)(he:XW st d x=some st') :
 ∃ v w' G',(Instr.box T (a.eval x)).run P w=.ok v w'/\Inv w0 G0 st' (GG (fun t=>a.tmps.getD t Go.undef) d v) w' G'/\∀ b∈G.φ,w'.heap[b]?=w.heap[b]?:=by
 have run:∀ v:Value,(Instr.box T v).run P w=.ok (.pointer (some ⟨w.heap.size,0,none⟩)) (w.alloc (.cells v.cells T)):=fun v=>by
  simp only [Instr.box,Ñ,newVar,P1,Ê,Ö]
 have hv:=B1 (a:=a) h.env x
 unfold XW at he
 split at he
 . rename_i s xs hot
   obtain⟨rfl,hg'⟩:=OX hot
   obtain rfl:=Af he
   have hO:A0 w G (.tmp s) xs (a.tmps.getD s Go.undef):=by have:=h.env.tag s;rw [hg'] at this;exact this
   have hg:Cu st (.tmp s)=.sl xs .own:=hg'
   rw [hg] at hv
   have h1:=(h.share hg').rel (.tmp s) (.cell st.σ.length 0) (fun ys e=>by rw [AU,BA,Ç rfl] at e;cases e) (fun ys e=>by rw [AU,BA,Ç rfl] at e;cases e)
   have hc:E0 w (G.rel (.tmp s) (.cell st.σ.length 0)) [.sl xs .own] (a.eval (.tmp s)).cells:=by
    have:=hv.cells (.inl rfl)
    exact⟨this.1,fun i hi=>this.2 i hi⟩
   have hcells:=Sk hv
   obtain⟨h2,h3⟩:=h1.newBlock (T:=T) (cs:=[.sl xs .own]) (by simp [PV.isM]) hc (fun j c hj=>by
    have hj':=List.getElem?_eq_some_iff.1 hj
    have hj0:j=0:=by have:=hj'.1;simp at this;exact this
    subst hj0
    obtain rfl:PV.sl xs .own=c:=by simpa using hj
    rw [hcells,Ly]
    exact hO.to rfl FU)
   rw [Ly] at h2 h3
   exact⟨_,_,_,run _,h2.putPlain d (.ptr _ _ _ _ h3) rfl,fun b hb=>ê _ _ _ (h.store.lt hb)⟩
 . split at he
   . rename_i hp
     obtain rfl:=Af he
     have hcl:=hv.cells (Pm hp)
     have hc:E0 w G ((Cx (Cu st x)).map GX) (a.eval x).cells:=⟨by rw [hcl.1];simp,fun i hi=>by
      have hi':i<(Cx (Cu st x)).length:=by simpa using hi
      simp only [é]
      exact⟨R0 (hcl.2 i hi').1,(hcl.2 i hi').2⟩⟩
     obtain⟨h2,h3⟩:=h.newBlock (T:=T) (Oo _) hc (fun j c hj=>by
      rw [æ] at hj
      cases hzj:(Cx (Cu st x))[j]? with
      |none=>rw [hzj] at hj;cases hj
      |some y =>
       rw [hzj] at hj
       obtain rfl:=Af hj
       have hjl:=List.getElem?_eq_some_iff.1 hzj
       have:=(hcl.2 j hjl.1).1
       rw [hjl.2] at this
       exact MK this _)
     exact⟨_,_,_,run _,h2.putPlain d (.ptr _ _ _ _ h3) rfl,fun b hb=>ê _ _ _ (h.store.lt hb)⟩
   . cases he
def splice (cs:List PV)(o:Nat)(ns:List PV):List PV:=cs.take o++ns++cs.drop (o+ns.length)
def H7 (P:Program)(T:TypeId)(st:St)(x y:Operand):Option (Bool×St) :=
 match Cu st x,Ms P T with
 |.ptr b o,some n =>
  match Na st.σ[b]? with
  |some cs =>
   match L2 st y with
   |some (s,xs)=>some (decide (n=1/\o<cs.length),{ ((st.put (some s) (.sl xs .shared)).stripC b o 1) with σ:=st.σ.set b (splice cs o [.sl xs .own]) })
   |none=>match Qq st y with
    |some (s,xs)=>some (decide (n=1/\o<cs.length),{ ((st.put (some s) .undef).stripC b o 1) with σ:=st.σ.set b (splice cs o [.prv xs]) })
    |none=>if HW (Cu st y)||MR (Cu st y) then some (decide ((Cx (Cu st y)).length=n/\o+n<=cs.length),{ (st.stripC b o n) with σ:=st.σ.set b (splice cs o ((Cx (Cu st y)).map GX)) }) else none
  |none=>none
 |_,_=>none
theorem Wb {cs ns:List PV}{o:Nat}(h:o+ns.length<=cs.length)(i:Nat):(splice cs o ns)[i]?=if o<=i/\i<o+ns.length then ns[i-o]? else cs[i]?:=by
 unfold splice
 have hl:(cs.take o).length=o:=by simp;omega
 all_goals grind [splice]
theorem Qc {cs ns:List PV}{o:Nat}(h:o+ns.length<=cs.length):(splice cs o ns).length=cs.length:=by
 unfold splice;simp;omega
theorem Oe {k b o:Nat}{cs ns:List PV}{vs:List Value}(h:Inv w0 G0 st (fun t=>a.tmps.getD t Go.undef) w G)(hk:G.φ[k]?=some b)(hcs:st.σ[k]?=some cs)(hnm:NM cs)(hns:∀ p∈ns,p.isM=false)(hl:o+ns.length<=cs.length)(hlen:vs.length=ns.length)
 (hv:∀ i (hi:i<ns.length),V w G.U G.φ ns[i] (vs.getD i Go.undef)/\(vs.getD i Go.undef).oneCell'=true) (ht:∀ i (hi:i<ns.length),Ck w G (.cell k (o+i)) ns[i] (vs.getD i Go.undef))
 (hvw:∀ t xs j,st.get t=.sl xs (.view (.cell k j))->j<o∨o+ns.length<=j) :
 (storeCells ⟨b,o,none⟩ vs).run P w=.ok () (w.setCells b o vs)/\Inv w0 G0 { st with σ:=st.σ.set k (splice cs o ns) } (fun t=>a.tmps.getD t Go.undef) (w.setCells b o vs) G:=by
 obtain⟨⟨o',arr,hb,⟨hlay,hsz⟩,hcell⟩,hnoU⟩:=h.store.blk k b cs hk hcs
 obtain⟨T,rfl⟩:=hlay.cells hnm
 have hno:∀ p∈cs,p.isM=false:=by
  rcases hlay with hl2|⟨kvs,_,_,e,_⟩|⟨_,_,e,_⟩
  . exact hl2.2
  . exact absurd (hnm _ e) (by simp [PV.isM])
  . exact absurd (hnm _ e) (by simp [PV.isM])
 obtain⟨arr',k1,k2,k3,k4,k5,k6,k7,k8⟩:=CS b T vs o w arr hb
 have hin:∀ j,j<vs.length->(w.cell? ⟨b,o+0+j,none⟩).isSome=true:=by
  intro j hj
  have:o+j<arr.size:=by omega
  simp [World.cell?,hb,this]
 have hrun:=run_storeCells_cells (P:=P) b o vs 0 w hin (fun j hj=>by simp only [World.frozen?,hb];simp) (fun u hu=>by
  obtain⟨i,hi,rfl⟩:=ø hu
  have:=(hv i (by omega)).2
  simpa [hi] using this)
 refine⟨by simpa using hrun,?_⟩
 have hgd:∀ i,arr'.getD i Go.undef=if o<=i/\i<o+vs.length/\i<arr.size then vs.getD (i-o) Go.undef else arr.getD i Go.undef:=by
  intro i
  rw [É,k3 i]
  split
  . simp [List.getD]
  . simp
 have hspl:=Wb (cs:=cs) (ns:=ns) (o:=o) hl
 refine h.setBlock hk hcs hb k1 (fun kvs hm=>?_) k4 k6 k7 k8 ⟨by rw [k2,hsz,Qc hl],fun i hi=>?_⟩ (fun j c hj=>?_) (fun t xs j hj=>?_)
 . grind [splice]
 . have hi':i<cs.length:=by rw [<- Qc hl];exact hi
   have e:=hspl i
   rw [Ã hi] at e
   rw [hgd i]
   by_cases hc:o<=i/\i<o+ns.length
   . grind [splice]
   . rw [Ä hc,Ã hi'] at e
     rw [Ä (by omega),Af e]
     obtain⟨v,h1,h2,h3,_⟩:=hcell i cs[i] (Ã hi')
     have:arr.getD i Go.undef=v:=by simp [h1]
     rw [this];exact⟨h3,h2⟩
 . rw [hspl j] at hj
   rw [hgd j]
   by_cases hc:o<=j/\j<o+ns.length
   . grind [splice]
   . rw [Ä hc] at hj
     have hj':=(List.getElem?_eq_some_iff.1 hj).1
     rw [Ä (by omega)]
     obtain⟨v,h1,h2,h3,h4⟩:=hcell j c hj
     have:arr.getD j Go.undef=v:=by simp [h1]
     rw [this];exact h4
 . grind [splice]
theorem Jb {b i:Nat}(hi:i≠b):∀ (vs:List Value) (o:Nat) (w:World),(w.setCells b o vs).heap[i]?=w.heap[i]?
 | [],_,_=>rfl
 |v::vs,o,w=>by
  show ((w.setCell ⟨b,o,none⟩ v).setCells b (o+1) vs).heap[i]?=_
  rw [Jb hi vs];exact Below.heap_setCell _ _ _ _ hi
theorem LF {T:TypeId}{x y:Operand}(h:Inv w0 G0 st (fun t=>a.tmps.getD t Go.undef) w G)(he:H7 P T st x y=some (true,st')) :
 ∃ w' G',(Instr.storeAt T (a.eval x) (a.eval y)).run P w=.ok () w'/\Inv w0 G0 st' (fun t=>a.tmps.getD t Go.undef) w' G' /\
  ∀ k o kb,Cu st x=.ptr k o->G.φ[k]?=some kb->∀ b,b≠kb->w'.heap[b]?=w.heap[b]?:=by
 unfold H7 at he
 have hx:=B1 (a:=a) h.env x
 have hy:=B1 (a:=a) h.env y
 split at he
 . rename_i k o n hxp hn
   rw [hxp] at hx
   revert hx
   generalize a.eval x=xv
   intro hx
   cases hx with
   |ptr _ _ _ b hk =>
   have run:∀ (v:Value),v.cells.size=n->∀ w',(storeCells ⟨b,o,none⟩ v.cells.toList).run P w=.ok () w'->(Instr.storeAt T (.pointer (some ⟨b,o,none⟩)) v).run P w=.ok () w':=by
    intro v hv w' hr
    simp only [Instr.storeAt,Instr.sureAddr,storeVar,Ñ,Ö,Ê,EM hn,ġ]
    rw [Ä (by simp [hv])]
    simp only [hr]
   split at he
   . rename_i cs hcs
     obtain⟨hcs,hnm⟩:=HM hcs
     split at he
     . rename_i s xs hot
       obtain⟨rfl,hg'⟩:=OX hot
       simp only [Â,È,Î] at he
       obtain⟨⟨rfl,ho⟩,rfl⟩:=he
       have hO:A0 w G (.tmp s) xs (a.tmps.getD s Go.undef):=by have:=h.env.tag s;rw [hg'] at this;exact this
       have hg:Cu st (.tmp s)=.sl xs .own:=hg'
       rw [hg] at hy
       have hcells:=Sk hy
       have h1:=(h.share hg').rel (.tmp s) (.cell k o) (fun ys e=>by rw [AU,BA,Ç rfl] at e;cases e) (fun ys e=>by rw [AU,BA,Ç rfl] at e;cases e)
       have hst:=Oe (P:=P) (h1.stripC k o 1) (o:=o) (cs:=cs) (ns:=[.sl xs .own]) (vs:=(a.eval (.tmp s)).cells.toList) hk (by show (st.put _ _).σ[k]?=_;rw [Ly];exact hcs) hnm (by simp [PV.isM]) (by simp;omega) (by rw [hcells];rfl)
        (fun i hi=>by
         have hi0:i=0:=by simpa using hi
         subst hi0
         rw [hcells]
         exact⟨hy,hy.oneCell rfl⟩)
        (fun i hi=>by
         have hi0:i=0:=by simpa using hi
         subst hi0
         rw [hcells]
         exact hO.to rfl FU)
        (fun t ys j hj=>by
         rw [Gw] at hj
         revert hj
         generalize (st.put (some s) (.sl xs .shared)).get t=q
         intro hj
         unfold stripC at hj
         split at hj
         . grind [H7,stripC]
         . rename_i hno;exact absurd hj (hno ys k j))
       refine⟨_,G.rel (.tmp s) (.cell k o),run _ (by rw [hcells];rfl) _ hst.1,?_,fun k2 o2 kb e1 e2 b hb=>?_⟩
       rotate_left
       . grind [Jb]
       have:=hst.2
       have e:((st.put (some s) (.sl xs .shared)).stripC k o 1).σ=st.σ:=Ly _ _ _
       rw [e] at this;exact this
     . split at he
       . rename_i s xs hot
         obtain⟨rfl,hg'⟩:=U5 hot
         simp only [Â,È,Î] at he
         obtain⟨⟨rfl,ho⟩,rfl⟩:=he
         have hO:BC w G (.tmp s) xs (a.tmps.getD s Go.undef):=by have:=h.env.tag s;rw [hg'] at this;exact this
         have hg:Cu st (.tmp s)=.prv xs:=hg'
         rw [hg] at hy
         have hcells:(a.eval (.tmp s)).cells = #[a.eval (.tmp s)]:=by
          revert hy;generalize a.eval (.tmp s)=z;intro hy;cases hy;rfl
         have h0:=h.put s (p:=.undef) (.undef _ (a.tmps.getD s Go.undef)) trivial
         rw [HC (fun t=>a.tmps.getD t Go.undef)] at h0
         have h1:=h0.rel (.tmp s) (.cell k o) (fun ys e=>by rw [AU,BA,Ç rfl] at e;cases e) (fun ys e=>by rw [AU,BA,Ç rfl] at e;cases e)
         have hst:=Oe (P:=P) (h1.stripC k o 1) (o:=o) (cs:=cs) (ns:=[.prv xs]) (vs:=(a.eval (.tmp s)).cells.toList) hk (by show (st.put _ _).σ[k]?=_;rw [Ly];exact hcs) hnm (by simp [PV.isM]) (by simp;omega) (by rw [hcells];rfl)
          (fun i hi=>by
           have hi0:i=0:=by simpa using hi
           subst hi0
           rw [hcells]
           exact⟨hy,hy.oneCell rfl⟩)
          (fun i hi=>by
           have hi0:i=0:=by simpa using hi
           subst hi0
           rw [hcells]
           exact hO.to rfl FU)
          (fun t ys j hj=>by
           rw [Gw] at hj
           revert hj
           generalize (st.put (some s) .undef).get t=q
           intro hj
           unfold stripC at hj
           split at hj
           . grind [H7,stripC]
           . rename_i hno;exact absurd hj (hno ys k j))
         refine⟨_,G.rel (.tmp s) (.cell k o),run _ (by rw [hcells];rfl) _ hst.1,?_,fun k2 o2 kb e1 e2 b hb=>?_⟩
         rotate_left
         . grind [Jb]
         have:=hst.2
         have e:((st.put (some s) .undef).stripC k o 1).σ=st.σ:=Ly _ _ _
         rw [e] at this;exact this
       . split at he
         . rename_i hp
           simp only [Â,È,Î] at he
           obtain⟨⟨hln,ho⟩,rfl⟩:=he
           have hcl:=hy.cells (Pm hp)
           have hst:=Oe (P:=P) (h.stripC k o n) (o:=o) (cs:=cs) (ns:=(Cx (Cu st y)).map GX) (vs:=(a.eval y).cells.toList) hk hcs hnm (Oo _) (by simp;omega) (by simp [hcl.1])
            (fun i hi=>by
             have hi':i<(Cx (Cu st y)).length:=by simpa using hi
             simp only [é]
             have h3:=hcl.2 i hi'
             have e:(a.eval y).cells.toList.getD i Go.undef=(a.eval y).cells.getD i Go.undef:=by simp [List.getD]
             rw [e]
             exact⟨R0 h3.1,h3.2⟩)
            (fun i hi=>by
             have hi':i<(Cx (Cu st y)).length:=by simpa using hi
             simp only [é]
             have h3:=hcl.2 i hi'
             have e:(a.eval y).cells.toList.getD i Go.undef=(a.eval y).cells.getD i Go.undef:=by simp [List.getD]
             rw [e]
             exact MK h3.1 _)
            (fun t xs j hj=>by
             rw [Gw] at hj
             revert hj
             generalize st.get t=q
             intro hj
             unfold stripC at hj
             split at hj
             . grind [H7,stripC]
             . rename_i hno;exact absurd hj (hno xs k j))
           refine⟨_,G,run _ (by rw [hcl.1,hln]) _ hst.1,hst.2,fun k2 o2 kb e1 e2 b hb=>?_⟩
           obtain⟨rfl,rfl⟩:=PV.ptr.inj (hxp.symm.trans e1)
           obtain rfl:=Af (hk.symm.trans e2)
           exact Jb hb _ _ _
         . cases he
   . cases he
 . cases he
end
end Go.Vl
namespace Go.Vl
open Go Go.RowKit
def apT (P:Program)(t:TypeId):Option (Nat×Nat) :=
 match P.underlying t with
 |some (.slice e)=>match P.info? e with
  |some i=>match i.zero with
   |some z=>if z.cells.size=i.size/\0<i.size/\z.cells.toList.all Value.oneCell'=true then some (i.size,i.bytes) else none
   |none=>none
  |none=>none
 |_=>none
section
variable {w w' w0:World} {G G' G0:Gh} {P:Program} {p q:PV} {v u:Value} {st st':St} {a:Act} {o:Oper} {d:Nat} {U:Nat->Nat->Prop} {φ:List Nat}
theorem LO {t sz bytes:Nat}(h:apT P t=some (sz,bytes)):∃ e i z,P.underlying t=some (.slice e)/\P.info? e=some i/\i.zero=some z/\i.size=sz/\i.bytes=bytes/\z.cells.size=sz/\0<sz/\z.cells.toList.all Value.oneCell'=true:=by
 grind [apT]
structure Flat (w:World) (U:Nat->Nat->Prop) (xs:List (List PV)) (sz:Nat) (vs:List Value):Prop where
 len:vs.length=xs.length*sz
 row:∀ x∈xs,x.length=sz
 v:∀ i (hi:i<xs.length) j (hj:j<(xs[i]).length),V w U [] xs[i][j] (vs.getD (i*sz+j) Go.undef)
 one:∀ u∈vs,u.oneCell'=true
theorem Jy {n sz i j:Nat}(hi:i<n)(hj:j<sz):i*sz+j<n*sz:=by
 calc i*sz+j<i*sz+sz:=by omega
  _=(i+1)*sz:=by rw [ó,ğ]
  _<=n*sz:=ð _ hi
theorem Acu {sz i j:Nat}(hj:j<sz):(i*sz+j) / sz=i/\(i*sz+j) % sz=j:=by
 constructor
 . rw [Nat.mul_comm,Nat.mul_add_div (by omega),Nat.div_eq_of_lt hj,Nat.add_zero]
 . rw [Nat.mul_comm,Nat.mul_add_mod,Nat.mod_eq_of_lt hj]
theorem S3 {P:Program}(sz:Nat)(A:Option Addr)(w:World):(Builtin.firstCells sz 0 (.slice A 0 0)).run P w=.ok #[] w:=by
 cases A with
 |none=>exact ī _ _ _ _ _
 |some A=>exact Ī _ _ _ _ _ _ [] (by simp) (fun j u hj=>by cases hj)
theorem N9 {xs:List (List PV)}{g:Grow}{sz:Nat}(h:V w U φ (.sl xs g) v)(hsz:0<sz)(hrow:xs.all (fun x=>x.length == sz)=true) :
 ∃ vs,Flat w U xs sz vs/\(((∃ A,v=.slice A 0 0)/\xs=[])∨∃ b o cap,v=.slice (some ⟨b,o,none⟩) xs.length cap/\xs.length<=cap/\cap<=9223372036854775807/\(g=.full->cap=xs.length)/\∀ j u,vs[j]?=some u->w.cell? ⟨b,o+j,none⟩=some u/\U b (o+j)):=by
 have hr:∀ x∈xs,x.length=sz:=by
  rw [Û] at hrow
  intro x hx;simpa using hrow x hx
 cases h with
 |nil=>exact⟨[],⟨by simp,by simp,by simp,by simp⟩,.inl ⟨⟨_,rfl⟩,rfl⟩⟩
 |emp=>exact⟨[],⟨by simp,by simp,by simp,by simp⟩,.inl ⟨⟨_,rfl⟩,rfl⟩⟩
 |sl _ _ _ b o sz' cap us hc hm hs hU hw h1 hv hf hg =>
  have key:∀ i,i<xs.length->sz'=sz:=fun i hi=>by rw [<- hs i hi];exact hr _ (Ú hi)
  refine⟨(List.range (xs.length*sz)).map fun q=>us (q / sz) (q % sz),⟨by simp,hr,fun i hi j hj=>?_,fun u hu=>?_⟩,.inr ⟨b,o,cap,rfl,hc,hm,hf,fun j u hj=>?_⟩⟩
  . grind [List.getElem_mem,Jy,List.range,List.getD,Acu]
  . grind [Nat.div_lt_iff_lt_mul,Nat.mod_lt]
  . obtain⟨hq,rfl⟩:=Ri j u hj
    have hi:j / sz<xs.length:=(Nat.div_lt_iff_lt_mul hsz).2 hq
    have e:=key _ hi
    subst e
    have hj2:=Nat.mod_lt j hsz
    have e2:o+j / sz'*sz'+j % sz'=o+j:=by rw [Ĳ,Nat.mul_comm,Nat.div_add_mod]
    have:=hw _ _ hi hj2
    have h3:=hU _ _ hi hj2
    rw [e2] at this h3
    exact⟨this,h3⟩
theorem Flat.app {xs ys:List (List PV)}{sz:Nat}{us vs:List Value}(h:Flat w U xs sz us)(k:Flat w U ys sz vs):Flat w U (xs++ys) sz (us++vs):=by
 refine⟨by rw [Õ,Õ,h.len,k.len,ó],fun x hx=>?_,fun i hi j hj=>?_,fun u hu=>?_⟩
 . rcases List.mem_append.1 hx with hx|hx
   . exact h.row x hx
   . exact k.row x hx
 . have hrow:((xs++ys)[i]).length=sz:=by
    rcases List.mem_append.1 (Ú hi) with hx|hx
    . exact h.row _ hx
    . exact k.row _ hx
   have hj':j<sz:=by rw [<- hrow];exact hj
   by_cases hix:i<xs.length
   . have hlt:=Jy hix hj'
     have e1:(xs++ys)[i]=xs[i]:=Ċ hix
     have e2:(us++vs).getD (i*sz+j) Go.undef=us.getD (i*sz+j) Go.undef:=by
      simp only [List.getD];rw [Ô (by rw [h.len];exact hlt)]
     rw [e2]
     have:=h.v i hix j (by rw [<- e1];exact hj)
     simp only [e1];exact this
   . have hiy:i-xs.length<ys.length:=by simp at hi;omega
     have e1:(xs++ys)[i]=ys[i-xs.length]:=đ (by omega)
     have e3:i*sz+j-us.length=(i-xs.length)*sz+j:=by
      rw [h.len,Nat.sub_mul]
      have:=ð sz (show xs.length<=i by omega)
      omega
     have e2:(us++vs).getD (i*sz+j) Go.undef=vs.getD ((i-xs.length)*sz+j) Go.undef:=by
      simp only [List.getD]
      rw [â (by rw [h.len];have:=ð sz (show xs.length<=i by omega);omega),e3]
     rw [e2]
     have:=k.v (i-xs.length) hiy j (by rw [<- e1];exact hj)
     simp only [e1];exact this
 . rcases List.mem_append.1 hu with hu|hu
   . exact h.one u hu
   . exact k.one u hu
theorem Inv.newOwn {sz cap:Nat}{xs:List (List PV)}{vs:List Value}{rest:Array Value}{T:TypeId}(h:Inv w0 G0 st (fun t=>a.tmps.getD t Go.undef) w G)(hf:Flat w G.U xs sz vs)(hne:xs≠[])(hrest:rest.size=(cap-xs.length)*sz)(hcap:xs.length<=cap)(hcap2:cap<=9223372036854775807)(dr:Bool) :
 ∃ G',Inv w0 G0 (st.put (some d) (.sl xs .own)) (GG (fun t=>a.tmps.getD t Go.undef) d (.slice (some ⟨w.heap.size,0,none⟩) xs.length cap)) ((if dr then w.drew else w).alloc (.cells (vs.toArray++rest) T)) G':=by
 have hnφ:w.heap.size∉G.φ:=by
  intro hm
  obtain⟨k,hk,he⟩:=ø hm
  have hk2:k<st.σ.length:=by rw [<- h.store.len];exact hk
  obtain⟨⟨T',arr',h3,_⟩,_⟩:=h.store.blk k _ _ (Ã hk) (Ã hk2)
  have:=(Array.getElem?_eq_some_iff.1 h3).1
  omega
 have hh:(if dr then w.drew else w).heap=w.heap:=by cases dr<;>rfl
 have hold:∀ k,k<w.heap.size->((if dr then w.drew else w).alloc (.cells (vs.toArray++rest) T)).heap[k]?=w.heap[k]?:=fun k hk=>by
  rw [ê _ _ _ (by rw [hh];exact hk),hh]
 have hnew:((if dr then w.drew else w).alloc (.cells (vs.toArray++rest) T)).heap[w.heap.size]?=some (.cells (vs.toArray++rest) T (0,0)):=by
  have:=heap_alloc_new (if dr then w.drew else w) (.cells (vs.toArray++rest) T)
  rw [hh] at this;exact this
 refine⟨_,h.own (b:=w.heap.size) (sz:=sz) (cap:=cap) (arr:=vs.toArray++rest) (T:=T) hnφ (.inl (à _)) (fun l hl=>?_) (fun l hl=>?_) ?_ ?_ ?_ ?_ (fun k hk _=>hold k hk) (fun i hu=>?_) hnew ?_ hne hf.row hcap hcap2 (fun i hi j hj=>?_)⟩
 . have:=(h.store.ob w.heap.size (by rw [hl];simp)).1;omega
 . have:=(h.store.ob w.heap.size (by rw [hl];simp)).1;omega
 . cases dr<;>rfl
 . cases dr<;>rfl
 . cases dr<;>rfl
 . simp [hh]
 . have:=h.store.ub _ _ hu;omega
 . have h1:=hf.len
   simp only [Array.size_append,List.size_toArray,hrest,h1]
   rw [<- ó];congr 1;omega
 . have hj':j<sz:=by rw [<- hf.row _ (Ú hi)];exact hj
   have hlt:=Jy hi hj'
   rw [<- hf.len] at hlt
   have e:(vs.toArray++rest).getD (i*sz+j) Go.undef=vs.getD (i*sz+j) Go.undef:=by
    simp [É,Array.getElem?_append,hlt,List.getD]
   rw [e]
   refine⟨hf.v i hi j hj,?_⟩
   have:vs.getD (i*sz+j) Go.undef=vs[i*sz+j]:=by simp [List.getD,hlt]
   rw [this];exact hf.one _ (Ú hlt)
end
def FW (st:St)(x:Operand):Option (List (List PV)×Bool×St) :=
 match x with
 |.tmp s =>
  match st.get s with
  |.sl xs .own=>some (xs,false,st.put (some s) (.sl xs .shared))
  |.sl xs (.view (.tmp r))=>some (xs,false,st.put (some r) (.sl xs .shared))
  |.sl xs (.view (.cell k j))=>some (xs,false,{ (st.stripC k j 1) with σ:=st.σ.set k ((st.σ.getD k []).set j (.sl xs .shared)) })
  |.sl xs .nil=>some (xs,false,st)
  |.sl xs .full=>some (xs,true,st)
  |_=>none
 |.const c=>match Ge c with
  |.sl xs .nil=>some (xs,false,st)
  |_=>none
 |_=>none
def C7 (s:Æ):List (List PV):=s.data.toList.map fun b=>[.lit (.int .u8 b.toNat)]
def HK (P:Program)(t sz:Nat)(st:St)(y:Operand):Option (List (List PV)) :=
 match Cu st y with
 |.sl ys _=>match X6 P t with|some _=>some ys|none=>none
 |.lit (.string s)=>if Ll P t&&sz == 1 then some (C7 s) else none
 |_=>none
theorem Wu {n b C:Nat}(h:n*max b 1<=C):n*b<=C/\n<=C:=⟨ď (Nat.mul_le_mul_left n (Nat.le_max_left b 1)) h,ď (ď (Ă (Nat.mul_one n).symm) (Nat.mul_le_mul_left n (Nat.le_max_right b 1))) h⟩
def QX (P:Program)(c:Call)(st:St)(d:Nat):Option (Bool×St) :=
 match c.callee,c.args.toList,c.argTypes.toList with
 |.builtin .append,[x,y],[t,t'] =>
  match apT P t,FW st x with
  |some (sz,bytes),some (xs,full,st1) =>
   (HK P t' sz st y).map fun ys=>(decide ((xs.length+ys.length)*max bytes 1<=140737488355328)&&(xs.all (fun x=>x.length == sz)&&(ys.all (fun x=>x.length == sz)&&(!full||true))),st1.put (some d) (.sl (xs++ys) (match full with|false=>.own|true=>if ys.isEmpty=true then .full else .own)))
  |_,_=>none
 |_,_,_=>none
section
variable {w w' w0:World} {G G' G0:Gh} {P:Program} {p q:PV} {v u:Value} {st st':St} {a:Act} {o:Oper} {d:Nat} {U:Nat->Nat->Prop} {φ:List Nat}
theorem Inv.shareCell {k j:Nat}{xs:List (List PV)}{cs:List PV}{tm:Nat->Value}(h:Inv w0 G0 st tm w G)(hcs:st.σ[k]?=some cs)(hj:cs[j]?=some (.sl xs .own)) :
 Inv w0 G0 { (st.stripC k j 1) with σ:=st.σ.set k (cs.set j (.sl xs .shared)) } tm w G:=by
 have hkl:k<G.φ.length:=by rw [h.store.len];exact (List.getElem?_eq_some_iff.1 hcs).1
 have hk:G.φ[k]?=some G.φ[k]:=Ã hkl
 obtain⟨⟨o',arr,hb,⟨hlay,hsz⟩,hcell⟩,hnoU⟩:=h.store.blk k _ cs hk hcs
 have hnm:NM cs:=fun kvs e=>by
  subst e
  match j,hj with
  |0,hj=>cases hj;rfl
 obtain⟨T,rfl⟩:=hlay.cells hnm
 have hno:∀ p∈cs,p.isM=false:=by
  rcases hlay with hl2|⟨kvs,_,_,e,_⟩|⟨_,_,e,_⟩
  . exact hl2.2
  . exact absurd (hnm _ e) (by simp [PV.isM])
  . exact absurd (hnm _ e) (by simp [PV.isM])
 have hjl:=(List.getElem?_eq_some_iff.1 hj).1
 have hget:∀ i,(cs.set j (.sl xs .shared))[i]?=if i=j then some (.sl xs .shared) else cs[i]?:=by
  grind [Vl.stripC]
 have hget2:∀ i c,(cs.set j (.sl xs .shared))[i]?=some c->∃ u,arr[i]?=some u/\u.oneCell'=true/\V w G.U G.φ c u/\Ck w G (.cell k i) c u:=by
  intro i c hi
  rw [hget i] at hi
  by_cases e:i=j
  . subst e
    rw [Ç rfl] at hi
    obtain rfl:=Af hi
    obtain⟨u,h1,h2,h3,_⟩:=hcell i _ hj
    exact⟨u,h1,h2,h3.tag (by simp) (by simp),trivial⟩
  . rw [Ä e] at hi
    exact hcell i c hi
 refine (h.stripC k j 1).setBlock (cs:=cs) (cs':=cs.set j (.sl xs .shared)) hk hcs hb hb (fun kvs hm=>by
  rcases List.mem_or_eq_of_mem_set hm with h1|h1
  . exact hno kvs h1
  . rw [h1];rfl) (fun _ _=>rfl) rfl rfl rfl ⟨by simpa using hsz,fun i hi=>?_⟩ (fun i c hi=>?_) (fun t ys i hi=>?_)
 . obtain⟨u,h1,h2,h3,_⟩:=hget2 i _ (Ã hi)
   have:arr.getD i Go.undef=u:=by simp [h1]
   rw [this];exact⟨h3,h2⟩
 . obtain⟨u,h1,h2,h3,h4⟩:=hget2 i c hi
   have:arr.getD i Go.undef=u:=by simp [h1]
   rw [this];exact h4
 . rw [Gw] at hi
   have hne:i≠j:=by
    rintro rfl
    revert hi
    generalize st.get t=q
    intro hi
    unfold Vl.stripC at hi
    split at hi
    . grind [Vl.stripC]
    . rename_i hno;exact absurd hi (hno ys k i)
   rw [hget i,Ä hne]
   exact⟨rfl,rfl⟩
theorem LK {x:Operand}{xs:List (List PV)}{full:Bool}{st1:St}(h:Inv w0 G0 st (fun t=>a.tmps.getD t Go.undef) w G)(he:FW st x=some (xs,full,st1)) :
 Inv w0 G0 st1 (fun t=>a.tmps.getD t Go.undef) w G /\
 ((full=true/\V w G.U G.φ (.sl xs .full) (a.eval x))∨(full=false/\V w G.U G.φ (.sl xs .shared) (a.eval x)/\((xs=[]/\a.eval x=.slice none 0 0)∨∃ l,A0 w G l xs (a.eval x)/\(∀ ys,AU st1 l≠.sl ys .own)/\∀ ys,AU st1 l≠.prv ys))):=by
 have ntag:∀ {v:Value},V w G.U G.φ (.sl xs .nil) v->V w G.U G.φ (.sl xs .shared) v/\xs=[]/\v=.slice none 0 0:=by
  intro v hv
  obtain⟨h1,h2⟩:=LZ hv
  exact⟨by rw [h1,h2];exact .nil _ _,h1,h2⟩
 unfold FW at he
 split at he
 . rename_i s
   have hv:V w G.U G.φ (st.get s) (a.eval (.tmp s)):=h.env.v s
   have ht:DV w G st (fun t=>a.tmps.getD t Go.undef) s (st.get s) (a.eval (.tmp s)):=h.env.tag s
   split at he
   . rename_i xs' hg
     simp only [Â,È] at he
     obtain⟨rfl,rfl,rfl⟩:=he
     rw [hg] at hv ht
     refine⟨h.share hg,.inr ⟨rfl,hv.tag (by simp) (by simp),.inr ⟨_,ht,fun ys e=>?_,fun ys e=>?_⟩⟩⟩
     . rw [AU,BA,Ç rfl] at e;cases e
     . rw [AU,BA,Ç rfl] at e;cases e
   . rename_i xs' r hg
     simp only [Â,È] at he
     obtain⟨rfl,rfl,rfl⟩:=he
     rw [hg] at hv ht
     have htr:=h.env.tag r
     rw [ht.1] at htr
     refine⟨h.share ht.1,.inr ⟨rfl,hv.tag (by simp) (by simp),.inr ⟨.tmp r,?_,fun ys e=>?_,fun ys e=>?_⟩⟩⟩
     . have e2:a.eval (.tmp s)=a.tmps.getD r Go.undef:=ht.2.symm
       rw [e2];exact htr
     . rw [AU,BA,Ç rfl] at e;cases e
     . rw [AU,BA,Ç rfl] at e;cases e
   . rename_i xs' k j hg
     simp only [Â,È] at he
     obtain⟨rfl,rfl,rfl⟩:=he
     rw [hg] at hv ht
     obtain⟨cs,b,h1,h2,h3,h4⟩:=ht
     have e1:st.σ.getD k []=cs:=by simp [List.getD,h1]
     rw [e1]
     obtain⟨⟨o',arr,hb,⟨hlay,hsz⟩,hcell⟩,hnoU⟩:=h.store.blk k b cs h3 h1
     obtain⟨T,rfl⟩:=hlay.cells fun kvs e=>by
      subst e
      match j,h2 with
      |0,h2=>cases h2;rfl
     obtain⟨u,k1,k2,k3,k4⟩:=hcell j _ h2
     have e2:a.eval (.tmp s)=u:=by
      simp only [World.cell?,hb] at h4
      have:arr[j]?=some (a.eval (.tmp s)):=by simpa using h4
      rw [k1] at this;exact (Af this).symm
     refine⟨h.shareCell h1 h2,.inr ⟨rfl,hv.tag (by simp) (by simp),.inr ⟨.cell k j,by rw [e2];exact k4,fun ys e=>?_,fun ys e=>?_⟩⟩⟩
     . have hkl:=(List.getElem?_eq_some_iff.1 h1).1
       have hjl:=(List.getElem?_eq_some_iff.1 h2).1
       simp [AU,List.getD,hkl,hjl] at e
     . have hkl:=(List.getElem?_eq_some_iff.1 h1).1
       have hjl:=(List.getElem?_eq_some_iff.1 h2).1
       simp [AU,List.getD,hkl,hjl] at e
   . grind [FW]
   . grind [FW]
   . cases he
 . rename_i c
   have hv:V w G.U G.φ (Ge c) (a.eval (.const c)):=LQ c
   split at he
   . grind [FW]
   . cases he
 . cases he
theorem RT (s:Æ):Flat w U (C7 s) 1 (byteCells s):=by
 refine⟨by simp [C7,byteCells],fun x hx=>?_,fun i hi j hj=>?_,fun u hu=>?_⟩
 . obtain⟨b,_,rfl⟩:=List.mem_map.1 hx;rfl
 . have hi':i<s.data.toList.length:=by simpa [C7] using hi
   have e1:(C7 s)[i]=[.lit (.int .u8 (s.data.toList[i]).toNat)]:=by simp [C7]
   have hj0:j=0:=by rw [e1] at hj;simpa using hj
   subst hj0
   have e2:(byteCells s).getD (i*1+0) Go.undef=.int .u8 (s.data.toList[i]).toNat:=by
    grind [byteCells]
   rw [e2];simp only [e1];exact .lit _ _
 . unfold byteCells at hu
   obtain⟨b,_,rfl⟩:=List.mem_map.1 hu;rfl
theorem Jz {t:TypeId}{y:Operand}{ys:List (List PV)}{sz:Nat}(h:Ib w G st fun t=>a.tmps.getD t Go.undef)(he:HK P t sz st y=some ys)(hsz:0<sz)(hall:ys.all (fun x=>x.length == sz)=true) :
 ∃ vs,Flat w G.U ys sz vs/\Src P sz t (a.eval y) ys.length vs w:=by
 have hv:=B1 (a:=a) h y
 unfold HK at he
 split at he
 . rename_i ys' g hg
   split at he
   . rename_i nn hs
     obtain rfl:=Af he
     obtain⟨e',_,hu,_⟩:=GS (n:=nn.1) (m:=nn.2) hs
     rw [hg] at hv
     obtain⟨vs,h1,h2⟩:=N9 hv hsz hall
     refine⟨vs,h1,?_⟩
     rcases h2 with⟨⟨A,h3⟩,h4⟩|⟨b,o,cap,h3,h4,h5,_,h6⟩
     . subst h4
       have:vs=[]:=å (by rw [h1.len];simp)
       subst this
       rw [h3]
       cases A with
       |none=>exact Src.ofNil w hu 0
       |some A=>exact Src.ofSlice w hu A 0 0 [] (by simp) (fun j u hj=>by cases hj) (by simp)
     . rw [h3]
       exact Src.ofSlice w hu ⟨b,o,none⟩ _ cap vs h1.len (fun j u hj=>by rw [addr_add];exact (h6 j u hj).1) h1.one
   . cases he
 . rename_i s hg
   split at he
   . rename_i hs
     obtain rfl:=Af he
     simp only [Å,ā] at hs
     obtain⟨hs,rfl⟩:=hs
     have hu:P.underlying t=some .string:=by unfold Ll at hs;split at hs<;>simp_all
     rw [hg] at hv
     have ev:a.eval y=.string s:=by
      revert hv;generalize a.eval y=z;intro hv
      cases hv with
      |lit _ _=>rfl
     have hlen:(C7 s).length=s.size:=by simp [C7]
     refine⟨_,RT s,?_⟩
     rw [ev,hlen]
     exact Src.ofString w hu s
   . cases he
 . cases he
theorem TL {c:Call}(h:Inv w0 G0 st (fun t=>a.tmps.getD t Go.undef) w G)(hop:o.op=.call c)(he:QX P c st d=some (true,st')) :
 ∃ v w' G',(execOp a.eval o).run P w=.ok (.value v) w'/\Inv w0 G0 st' (GG (fun t=>a.tmps.getD t Go.undef) d v) w' G'/\∀ b∈G.φ,w'.heap[b]?=w.heap[b]?:=by
 obtain⟨callee,args,ats⟩:=c
 unfold QX at he
 simp only at he
 split at he
 . rename_i x y t t' hx ht
   have e1:args = #[x,y]:=by rw [<- ì (xs:=args),hx]
   have e2:ats = #[t,t']:=by rw [<- ì (xs:=ats),ht]
   subst e1;subst e2
   have hex:∀ {v w'},(Builtin.append_ #[t,t'] o.type #[a.eval x,a.eval y]).run P w=.ok v w'->(execOp a.eval o).run P w=.ok (.value v) w':=by
    intro v w' hr
    unfold execOp
    rw [hop]
    simp [resolve,invoke,builtin,hr]
   split at he
   . rename_i sz bytes xs full st1 hap hbase
     cases hsrc:HK P t' sz st y with
     |none=>rw [hsrc] at he;cases he
     |some ys =>
     rw [hsrc] at he
     simp only [ä,Â,È,Å,Î] at he
     obtain⟨⟨hbound,hxall,hyall,_⟩,rfl⟩:=he
     obtain⟨e,i,z,hu,hi,hz,rfl,rfl,hzs,hpos,_⟩:=LO hap
     obtain⟨vs,hfy,hsr⟩:=Jz h.env hsrc hpos hyall
     obtain⟨hinv,hcase⟩:=LK h hbase
     have hmul:(xs.length+ys.length)*i.bytes<=140737488355328/\(xs.length+ys.length)<=140737488355328:=Wu hbound
     -- a new block
     have grow:∀ (base:Option Addr) (cap:Nat) (us:List Value),a.eval x=.slice base xs.length cap->Flat w G.U xs i.size us->(Builtin.firstCells i.size xs.length (.slice base xs.length cap)).run P w.drew=.ok us.toArray w.drew->cap<xs.length+ys.length->xs++ys≠[] ->
      ∃ v w' G',(execOp a.eval o).run P w=.ok (.value v) w'/\Inv w0 G0 (st1.put (some d) (.sl (xs++ys) .own)) (GG (fun t=>a.tmps.getD t Go.undef) d v) w' G'/\∀ b∈G.φ,w'.heap[b]?=w.heap[b]?:=by
      intro base cap us hbx hfx hold hlt hne
      have hr:=run_append_grow_src (P:=P) w t t' o.type e i z hu hi hz base xs.length cap us hold (a.eval y) ys.length vs hsr hlt (by omega) (growslice_fits hlt (by omega))
      rw [<- hbx] at hr
      obtain⟨G',hG⟩:=hinv.newOwn (d:=d) (cap:=grownCap w (xs.length+ys.length) cap e) (rest:=Builtin.zeroCells z.cells (grownCap w (xs.length+ys.length) cap e-(xs.length+ys.length))) (T:=e) (hfx.app hfy) hne
       (by rw [size_zeroCells,hzs,Õ]) (by rw [Õ];exact grownCap_ge _ _ _ _)
       (by have:=grownCap_le_maxLen w (xs.length+ys.length) cap e (by unfold maxLen;omega);unfold maxLen at this;exact this) true
      rw [Õ] at hG
      exact⟨_,_,G',hex hr,hG,fun b hb=>ê w.drew _ _ (h.store.lt hb)⟩
     -- in place
     rcases hcase with⟨rfl,hvx⟩|⟨rfl,hvx,hown⟩
     . obtain⟨us,hfx,hcx⟩:=N9 hvx hpos hxall
       by_cases hyne:ys=[]
       . subst hyne
         have hvs:vs=[]:=å (by rw [hfy.len];simp)
         subst hvs
         refine⟨a.eval x,w,G,hex ?_,?_,fun _ _=>rfl⟩
         . rcases hcx with⟨⟨A,h1⟩,_⟩|⟨b,off,cap,h1,h2,_⟩
           . rw [h1]
             have hk:=hsr.kind
             have hcc:=hsr.cells
             simp only [í] at hcc
             cases A<;>rcases hk with⟨e',hk⟩|hk<;>simp [Builtin.append_,Ý hu,Ý hk,sizeOf,typeInfo,hi,hsr.len,hcc]
             all_goals rfl
           . rw [h1]
             exact run_append_room_src (P:=P) w t t' o.type e i hu hi b off xs.length cap (a.eval y) 0 [] hsr h2 (fun j hj=>by cases hj) (fun j hj=>by cases hj)
         . simp only [ą,List.isEmpty_nil,ù]
           exact hinv.putPlain d hvx rfl
       rw [show (match true with|false=>Grow.own|true=>if ys.isEmpty=true then Grow.full else Grow.own)=Grow.own from Ä (by simpa using hyne)]
       have hylen:0<ys.length:=List.length_pos_iff.2 hyne
       rcases hcx with⟨⟨A,h1⟩,h2⟩|⟨b,off,cap,h1,h2,h3,h4,h5⟩
       . subst h2
         have:us=[]:=å (by rw [hfx.len];simp)
         subst this
         exact grow A 0 [] h1 hfx (S3 _ _ _) (by simpa using hylen) (by simpa using hyne)
       . have hcap:=h4 rfl
         exact grow (some ⟨b,off,none⟩) cap us h1 hfx (Ī _ _ _ _ _ _ us hfx.len (fun j u hj=>by rw [addr_add];exact (h5 j u hj).1)) (by omega) (by simp [hyne])
     . obtain⟨us,hfx,hcx⟩:=N9 hvx hpos hxall
       rcases hown with⟨rfl,hnil⟩|⟨l,ho,hno,hnp⟩
       . have:us=[]:=å (by rw [hfx.len];simp)
         subst this
         by_cases hyne:ys=[]
         . subst hyne
           have hvs:vs=[]:=å (by rw [hfy.len];simp)
           subst hvs
           refine⟨.slice none 0 0,w,G,hex ?_,?_,fun _ _=>rfl⟩
           . rw [hnil]
             have hk:=hsr.kind
             have hcc:=hsr.cells
             simp only [í] at hcc
             rcases hk with⟨e',hk⟩|hk<;>simp [Builtin.append_,Ý hu,Ý hk,sizeOf,typeInfo,hi,hsr.len,hcc]
           . exact hinv.put d (.nil _ _) (.inl ⟨rfl,rfl⟩)
         . exact grow none 0 [] hnil hfx (ī _ _ _ _ _) (by simpa using List.length_pos_iff.2 hyne) (by simpa using hyne)
       . rcases ho with⟨rfl,hnil⟩|⟨b,cap,sz',T,arr,h1,h2,h3,h4,h5,h6,h7⟩
         . have:us=[]:=å (by rw [hfx.len];simp)
           subst this
           by_cases hyne:ys=[]
           . subst hyne
             have hvs:vs=[]:=å (by rw [hfy.len];simp)
             subst hvs
             refine⟨.slice none 0 0,w,G,hex ?_,?_,fun _ _=>rfl⟩
             . rw [hnil]
               have hk:=hsr.kind
               have hcc:=hsr.cells
               simp only [í] at hcc
               rcases hk with⟨e',hk⟩|hk<;>simp [Builtin.append_,Ý hu,Ý hk,sizeOf,typeInfo,hi,hsr.len,hcc]
             . exact hinv.put d (.nil _ _) (.inl ⟨rfl,rfl⟩)
           . exact grow none 0 [] hnil hfx (ī _ _ _ _ _) (by simpa using List.length_pos_iff.2 hyne) (by simpa using hyne)
         . have hsz:sz'=i.size:=by
            have h0:0<xs.length:=List.length_pos_iff.2 h2
            rw [<- h3 _ (Ú h0)];exact hfx.row _ (Ú h0)
           subst hsz
           rcases hcx with⟨h8,h9⟩|⟨b2,off,cap2,h8,h9,h10,_,h12⟩
           . exact absurd h9 h2
           . rw [h8] at h1
             simp only [Value.slice.injEq,Â,Addr.mk.injEq,and_true,õ] at h1
             obtain⟨⟨rfl,rfl⟩,rfl⟩:=h1
             by_cases hroom:xs.length+ys.length<=cap2
             . obtain⟨arr',k1,k2,k3,k4,k5,k6,k7,k8⟩:=CS b2 T vs (0+xs.length*i.size) w arr h5
               have hfit:xs.length*i.size+ys.length*i.size<=arr.size:=by rw [h6,<- ó];exact ð _ hroom
               have hvl:=hfy.len
               have hr:=run_append_room_src (P:=P) w t t' o.type e i hu hi b2 0 xs.length cap2 (a.eval y) ys.length vs hsr hroom (fun j hj=>by
                have:xs.length*i.size+j<arr.size:=by omega
                simp [World.cell?,h5,this]) (fun j hj=>by simp only [World.frozen?,h5];simp)
               rw [<- h8] at hr
               have hul:=hfx.len
               have hfl:=hfx.app hfy
               have hbφ:=(hinv.store.ob b2 (by rw [h4];simp)).2
               have hO:=hinv.own (d:=d) (b:=b2) (sz:=i.size) (cap:=cap2) (xs:=xs++ys) (arr:=arr') (T:=T) (w':=w.setCells b2 (0+xs.length*i.size) vs) hbφ (.inr (by rw [h4];simp)) (fun l' hl' ys'=>by
                rw [h4] at hl'
                obtain rfl:=Af hl'
                exact hno ys') (fun l' hl' ys'=>by
                rw [h4] at hl'
                obtain rfl:=Af hl'
                exact hnp ys') k6 k7 k8 (by rw [k5];exact à _) (fun k _ hk=>k4 k hk) (fun q hq=>by
                have h13:=h7 q hq
                refine⟨Kp.ofCells ?_ h5,by rw [Õ,ó];omega⟩
                simp only [World.cell?,k1,h5]
                simp only [Option.isSome_none,è,Ā]
                rw [k3 q,Ä (by omega)]) k1 (by rw [k2,h6]) (by simp [h2]) hfl.row (by rw [Õ];exact hroom) h10 (fun q hq j hj=>by
                have hj':j<i.size:=by rw [<- hfl.row _ (Ú hq)];exact hj
                have hlt:=Jy hq hj'
                rw [Õ,ó] at hlt
                have hlt2:q*i.size+j<(us++vs).length:=by rw [Õ];omega
                have e:arr'.getD (q*i.size+j) Go.undef=(us++vs).getD (q*i.size+j) Go.undef:=by
                 rw [É,k3 (q*i.size+j),List.getD]
                 by_cases hc:0+xs.length*i.size<=q*i.size+j
                 . rw [Ç (by omega),â (by omega)]
                   congr 2;omega
                 . rw [Ä (by omega),Ô (by omega)]
                   have h14:=h12 (q*i.size+j) _ (Ã (show q*i.size+j<us.length by omega))
                   have h15:=h14.1
                   simp only [World.cell?,h5,ñ] at h15
                   rw [Ã (show q*i.size+j<us.length by omega)]
                   simpa using congrArg (fun o=>Option.getD o Go.undef) h15
                rw [e]
                refine⟨hfl.v q hq j hj,?_⟩
                have:(us++vs).getD (q*i.size+j) Go.undef=(us++vs)[q*i.size+j]:=by simp only [List.getD];rw [Ã hlt2];rfl
                rw [this];exact hfl.one _ (Ú hlt2))
               rw [Õ] at hO
               exact⟨_,_,_,hex hr,hO,fun b hb=>k4 b (fun e=>hbφ (e ▸ hb))⟩
             . exact grow _ cap2 us h8 hfx (Ī _ _ _ _ _ _ us hfx.len (fun j u hj=>by rw [addr_add];exact (h12 j u hj).1)) (by omega) (by simp [h2])
   . cases he
 . cases he
end
end Go.Vl
namespace Go.Vl
open Go Go.RowKit
def rowOf (p:PV):List PV:=(Cx p).map Bg
def Je (sz:Nat)(p:PV):Bool:=(Cx p).length == sz&&((HW p||MR p)&&PV.fitsL 0 (Cx p))
def Fh (P:Program)(t len:Nat)(parts:List (Nat×PV))(st:St)(d:Nat):Option (Bool×St) :=
 match apT P t with
 |some (sz,_)=>some (decide (parts.map (·.1)=List.range len/\len*sz<=16777216)&&parts.all (fun p=>Je sz p.2),st.put (some d) (if len=0 then .sl [] .full else .sl (parts.map fun p=>rowOf p.2) .own))
 |none=>none
def Gj (P:Program)(t len:Nat)(parts:List (Nat×PV))(st:St)(d:Nat):Option (Bool×St) :=
 match apT P t with
 |some (sz,_)=>some (decide (parts.map (·.1)=List.range len/\len*sz<=16777216)&&parts.all (fun p=>Je sz p.2),if t=Agl then (if len=0 then st.put (some d) (.sl [] .full) else (st.put (some d) (.sl (parts.map fun p=>rowOf p.2) .own)).put (some d) (.sl (parts.map fun p=>rowOf p.2) .full)) else st.put (some d) (if len=0 then .sl [] .full else .sl (parts.map fun p=>rowOf p.2) .own))
 |none=>none
section
variable {w w' w0:World} {G G' G0:Gh} {P:Program} {p q:PV} {v u:Value} {st st':St} {a:Act} {o:Oper} {d:Nat} {U:Nat->Nat->Prop} {φ:List Nat}
theorem TY (h:V w U φ (Lz p) v):V w U φ (Bg p) v:=by
 unfold Lz at h
 split at h
 . obtain⟨rfl,rfl⟩:=LZ h
   exact .nil _ _
 . exact h.tag (by simp) (by simp)
 . exact h
theorem QP {N:Nat}(h:p.fits N=true):(Bg p).fits N=true:=by
 cases p<;>first|exact h|rfl
theorem S4 (sz:Nat):∀ (parts:List (Nat×PV)) (k:Nat) (done:List PV),done.length=k*sz->parts.map (·.1)=List.range' k parts.length->parts.all (fun p=>Je sz p.2)=true ->
 NB (fun i=>some (i*sz,sz)) (done++List.replicate (parts.length*sz) .undef) parts=some (done++(parts.map fun p=>(Cx p.2).map Lz).flatten)
 | [],k,done,_,_,_=>by simp [NB]
 |(i,p)::parts,k,done,hd,hi,hok=>by
  simp only [Þ,ß,List.range'_succ,List.cons.injEq] at hi
  obtain⟨rfl,hi2⟩:=hi
  simp only [Ď,Å,Je,ā] at hok
  obtain⟨⟨h1,h2,h3⟩,h4⟩:=hok
  have hbnd:i*sz+sz<=(done++List.replicate ((parts.length+1)*sz) PV.undef).length:=by
   simp [hd,ó]
  simp only [NB,ß]
  rw [Ç ⟨h1,hbnd,by simpa using h2⟩]
  have e1:(done++List.replicate ((parts.length+1)*sz) PV.undef).take (i*sz)=done:=by
   rw [<- hd];simp
  have e2:(done++List.replicate ((parts.length+1)*sz) PV.undef).drop (i*sz+sz)=List.replicate (parts.length*sz) PV.undef:=by
   rw [List.drop_append,List.drop_of_length_le (by omega),þ,hd,List.drop_replicate]
   congr 1
   rw [ó];omega
  rw [e1,e2]
  have hd2:(done++(Cx p).map Lz).length=(i+1)*sz:=by
   rw [Õ,hd,Í,h1,ó,ğ]
  have ih:=S4 sz parts (i+1) (done++(Cx p).map Lz) hd2 hi2 (by simpa [Je] using h4)
  rw [ih]
  simp
theorem FQ {α:Type}{sz:Nat}:∀ (rows:List (List α)),(∀ x∈rows,x.length=sz)->∀ i (hi:i<rows.length) j (hj:j<(rows[i]).length),(rows.flatten)[i*sz+j]?=some rows[i][j]
 | [],_,i,hi,_,_=>by simp at hi
 |x::rows,h,i,hi,j,hj=>by
  have hx:=h x (by simp)
  rw [List.flatten_cons]
  cases i with
  |zero =>
   simp only [Nat.zero_mul,ñ]
   have hj':j<x.length:=hj
   rw [Ô hj',Ã hj'];rfl
  |succ i =>
   have hi':i<rows.length:=by simpa using hi
   have hj':j<(rows[i]).length:=by simpa using hj
   rw [â (by rw [hx,ó];omega),hx]
   have:=FQ rows (fun y hy=>h y (by simp [hy])) i hi' j hj'
   rw [show (i+1)*sz+j-sz=i*sz+j by rw [ó];omega,this];rfl
theorem Ei {α:Type}{sz:Nat}:∀ (rows:List (List α)),(∀ x∈rows,x.length=sz)->rows.flatten.length=rows.length*sz
 | [],_=>by simp
 |x::rows,h=>by
  rw [List.flatten_cons,Õ,h x (by simp),Ei rows (fun y hy=>h y (by simp [hy])),ß,ó];omega
theorem Pg (z:Array Value)(i:Nat)(hall:z.toList.all Value.oneCell'=true)(hi:i<z.size):(z[i]!).oneCell'=true:=by
 rw [Û] at hall
 rw [getElem!_pos z i hi]
 exact hall _ (by simp)
theorem V.fullOf {xs:List (List PV)}{A:Option Addr}(h:V w U φ (.sl xs .own) (.slice A xs.length xs.length)):V w U φ (.sl xs .full) (.slice A xs.length xs.length):=by
 generalize hn:xs.length=n at h
 generalize hv:Value.slice A n n=v at h
 cases h with
 |nil=>exact .nil _ _
 |emp _ _ b o k hg=>exact .emp _ _ _ _ _ (by simp)
 |sl _ _ _ b o sz cap us hc hm hs hU hw h1 hvv hf hg =>
  simp only [Value.slice.injEq] at hv
  obtain⟨_,h2,h3⟩:=hv
  exact .sl _ _ _ b o sz cap us hc hm hs hU hw h1 hvv (fun _=>by omega) (by simp)
theorem Rm {t len sz bytes:Nat}{parts:List (Nat×PV)}{vals:Array (Nat×Value)}(hl:parts.length=vals.size)
 (hv:∀ (j:Nat) (p:Nat×PV) (v:Nat×Value),parts[j]?=some p->vals[j]?=some v->p.1=v.1/\V w G.U G.φ p.2 v.2) (hap:apT P t=some (sz,bytes)) (hidx:parts.map (·.1)=List.range len) (hbig:len*sz<=16777216) (hok:parts.all (fun p=>Je sz p.2)=true) (h0:len≠0) :
 ∃ arr' e,((Instr.buildSlice t len vals).run P w=.ok (.slice (some ⟨w.heap.size,0,none⟩) len len) (w.alloc (.cells arr' e)))/\Flat w G.U (parts.map fun p=>rowOf p.2) sz arr'.toList/\(parts.map fun p=>rowOf p.2)≠[]/\parts.length=len/\0<sz:=by
 obtain⟨e,i,z,hu,hi,hz,rfl,rfl,hzs,hpos,hone⟩:=LO hap
 have hlen:parts.length=len:=by have:=congrArg List.length hidx;simpa using this
 have hzero:(P.info? e).bind (·.zero)=some z:=by rw [hi];exact hz
 have hszr:Ms P e=some i.size:=by simp [Ms,hi]
 have hlen0:0<parts.length:=by omega
 have hfill:=S4 i.size parts 0 [] (by simp) (by rw [hidx,List.range_eq_range',hlen]) hok
 simp only [þ] at hfill
 -- the cells as they begin
 have hstart:E0 w G (List.replicate (parts.length*i.size) .undef) ((Array.range (len*i.size)).map (z.cells[· % z.cells.size]!)):=by
  refine⟨by simp [hlen],fun q hq=>?_⟩
  have hq':q<len*i.size:=by simpa [hlen] using hq
  refine⟨by simp only [List.getElem_replicate];exact .undef _ _,?_⟩
  have e1:((Array.range (len*i.size)).map (z.cells[· % z.cells.size]!)).getD q Go.undef=z.cells[q % z.cells.size]!:=by simp [hq']
  rw [e1]
  exact Pg _ _ hone (Nat.mod_lt _ (by omega))
 obtain⟨arr',ha,hc⟩:=QQ parts vals.toList _ _ _ hstart (by simpa using hl) (fun j p v h1 h2=>hv j p v h1 (by simpa using h2)) hfill
 have hrun:(Instr.buildSlice t len vals).run P w=.ok (.slice (some ⟨w.heap.size,0,none⟩) len len) (w.alloc (.cells arr' e)):=by
  have hn0:¬ len*i.size=0:=by
   have:=Nat.mul_pos (show 0<len by omega) hpos
   omega
  simp only [Instr.buildSlice,Ñ,Ý hu,Ê,EM hszr,ġ]
  rw [Ä (by omega)]
  simp only [Ö,Ê,hn0,Ā,PE hzero]
  rw [ha]
  simp only [Ñ,P1,Ê,Ö]
 have hrowlen:∀ x∈parts.map (fun p=>(Cx p.2).map Lz),x.length=i.size:=by
  intro x hx
  obtain⟨p,hp,rfl⟩:=List.mem_map.1 hx
  rw [Û] at hok
  have:=hok p hp
  simp only [Je,Å,ā] at this
  simpa using this.1
 have hflat:Flat w G.U (parts.map fun p=>rowOf p.2) i.size arr'.toList:=by
  refine⟨by simp [hc.size,Ei _ hrowlen],fun x hx=>?_,fun q hq j hj=>?_,fun u hu=>?_⟩
  . obtain⟨p,hp,rfl⟩:=List.mem_map.1 hx
    rw [Û] at hok
    have:=hok p hp
    simp only [Je,Å,ā] at this
    simpa [rowOf] using this.1
  . have hq':q<parts.length:=by simpa using hq
    have e1:(parts.map fun p=>rowOf p.2)[q]=rowOf (parts[q]).2:=by simp
    rw [e1] at hj
    have hj2:j<(Cx (parts[q]).2).length:=by simpa [rowOf] using hj
    have e2:=FQ _ hrowlen q (by simpa using hq') j (by simpa using hj2)
    have hlt:=(List.getElem?_eq_some_iff.1 e2)
    have h5:=hc.v _ hlt.1
    rw [hlt.2] at h5
    have e3:arr'.toList.getD (q*i.size+j) Go.undef=arr'.getD (q*i.size+j) Go.undef:=by simp [List.getD]
    rw [e3]
    simp only [e1]
    have e4:(rowOf (parts[q]).2)[j]=Bg ((Cx (parts[q]).2)[j]):=by simp [rowOf]
    rw [e4]
    have h6:=h5.1
    simp only [é] at h6
    have hok2:=hok
    rw [Û] at hok2
    have h7:=hok2 _ (Ú hq')
    simp only [Je,Å] at h7
    exact (TY h6).pure (QP (DY h7.2.2 j hj2))
  . obtain⟨q,hq,rfl⟩:=ø hu
    have hq':q<arr'.size:=by simpa using hq
    have:=(hc.v q (by rw [<- hc.size];exact hq')).2
    simpa [hq'] using this
 have hnerow:(parts.map fun p=>rowOf p.2)≠[]:=by
  grind [rowOf,List.length_map]
 exact⟨arr',e,hrun,hflat,hnerow,hlen,hpos⟩
theorem NH {t len:Nat}{parts:List (Nat×PV)}{vals:Array (Nat×Value)}(h:Inv w0 G0 st (fun t=>a.tmps.getD t Go.undef) w G)(hl:parts.length=vals.size)
 (hv:∀ (j:Nat) (p:Nat×PV) (v:Nat×Value),parts[j]?=some p->vals[j]?=some v->p.1=v.1/\V w G.U G.φ p.2 v.2) (he:Fh P t len parts st d=some (true,st')) :
 ∃ v w' G',((Instr.buildSlice t len vals).run P w=.ok v w'/\(len≠0->∃ A,v=.slice A parts.length parts.length))/\Inv w0 G0 st' (GG (fun t=>a.tmps.getD t Go.undef) d v) w' G'/\∀ b∈G.φ,w'.heap[b]?=w.heap[b]?:=by
 unfold Fh at he
 split at he
 . rename_i sz bytes hap
   simp only [Â,È,Å,Î] at he
   obtain⟨⟨⟨hidx,hbig⟩,hok⟩,rfl⟩:=he
   obtain⟨e,i,z,hu,hi,hz,rfl,rfl,hzs,hpos,hone⟩:=LO hap
   have hlen:parts.length=len:=by have:=congrArg List.length hidx;simpa using this
   have hzero:(P.info? e).bind (·.zero)=some z:=by rw [hi];exact hz
   have hszr:Ms P e=some i.size:=by simp [Ms,hi]
   by_cases h0:len=0
   . subst h0
     rw [Ç rfl]
     have hv0:vals = #[]:=by
      have:vals.size=0:=by omega
      exact ĩ this
     subst hv0
     refine⟨.slice (some ⟨w.heap.size,0,none⟩) 0 0,w.alloc (.cells #[] e),G,⟨?_,fun hne=>absurd rfl hne⟩,?_,fun b hb=>ê _ _ _ (h.store.lt hb)⟩
     . simp only [Instr.buildSlice,Ñ,Ý hu,Ê,EM hszr,Nat.zero_mul,ġ]
       simp [Instr.fill,P1,Array.range_zero']
     . have h1:Inv w0 G0 st (fun t=>a.tmps.getD t Go.undef) (w.alloc (.cells #[] e)) G:=by
        have hb:Below w.heap.size w (w.alloc (.cells #[] e)):=(Below.refl _ _).alloc (à _) _
        have hnb:=h.newBlock (cs:=[]) (arr:=#[]) (T:=e) (by simp) ⟨rfl,fun i hi=>by simp at hi⟩ (fun j c hj=>by simp at hj)
        have hcell:∀ b i,G.U b i->G.U b i/\Kp w (w.alloc (.cells #[] e)) b i:=fun b i hu=>⟨hu,Kp.of (ê _ _ _ (h.store.ub b i hu))⟩
        have hext:Ext w G (w.alloc (.cells #[] e)) G:=⟨rfl,rfl,rfl,by simp,fun k hk _ _=>ê _ _ _ hk,hcell,fun b i hu=>.inl hu,fun b hb=>.inr hb,[],by simp,by simp⟩
        have ownK:∀ l xs v,A0 w G l xs v->A0 (w.alloc (.cells #[] e)) G l xs v:=fun l xs v ho=>ho.alloc _ rfl rfl
        refine⟨h.ext.trans hext,⟨h.store.len,h.store.nodup,fun k b cs h1 h2=>?_,fun b i hu=>by have:=h.store.ub b i hu;simp;omega,fun b hb=>by have:=h.store.ob b hb;exact⟨by simp;omega,this.2⟩⟩,fun t=>(h.env.v t).mono hcell (fun _ _ h=>h),fun t=>?_⟩
        . obtain⟨⟨T2,arr2,h3,h4,h5⟩,h6⟩:=h.store.blk k b cs h1 h2
          refine⟨⟨T2,arr2,(ê _ _ _ (Array.getElem?_eq_some_iff.1 h3).1).trans h3,⟨h4.1.mono hcell,h4.2⟩,fun j c hj=>?_⟩,h6⟩
          obtain⟨v,h7,h8,h9,h10⟩:=h5 j c hj
          refine⟨v,h7,h8,h9.mono hcell (fun _ _ h=>h),?_⟩
          unfold Ck at h10 ⊢
          split
          . exact ownK _ _ _ h10
          . exact BC.alloc h10 _ rfl rfl
          . trivial
        . have ht:=h.env.tag t
          revert ht
          generalize st.get t=q
          intro ht
          cases q with
          |prv xs=>exact BC.alloc ht _ rfl rfl
          |sl xs g =>
           cases g with
           |own=>exact ownK _ _ _ ht
           |view m =>
            cases m with
            |cell k j =>
             obtain⟨cs,b,h1,h2,h3,h4⟩:=ht
             obtain⟨⟨T',arr',h5,_⟩,_⟩:=h.store.blk k b cs h3 h1
             exact⟨cs,b,h1,h2,h3,by rw [Rj (Array.getElem?_eq_some_iff.1 h5).1];exact h4⟩
            |_=>exact ht
           |_=>trivial
          |tup cs =>
           intro i xs hi
           obtain⟨arr,u,h1,h2,h3⟩:=ht i xs hi
           exact⟨arr,u,h1,h2,ownK _ _ _ h3⟩
          |_=>trivial
       exact h1.putPlain d (.sl _ [] .full w.heap.size 0 i.size 0 (fun _ _=>Go.undef) (by simp) (by omega) (by simp) (by simp) (by simp) (by simp) (by simp) (by simp) (by simp)) rfl
   . rw [Ä h0]
     obtain⟨arr',e',hrun,hflat,hnerow,_,_⟩:=Rm hl hv hap hidx hbig hok h0
     obtain⟨G',hG⟩:=h.newOwn (d:=d) (cap:=len) (rest:=#[]) (T:=e') hflat hnerow (by simp [hlen]) (by simp [hlen]) (ď (Nat.le_mul_of_pos_right len hpos) (ď hbig (by decide))) false
     simp only [Í,hlen] at hG
     simp only [è,Ā,Array.append_empty,ì] at hG
     exact⟨_,_,G',⟨hrun,fun _=>⟨_,by rw [hlen]⟩⟩,hG,fun b hb=>ê _ _ _ (h.store.lt hb)⟩
 . cases he
theorem NG {t len:Nat}{parts:List (Nat×PV)}{vals:Array (Nat×Value)}(h:Inv w0 G0 st (fun t=>a.tmps.getD t Go.undef) w G)(hl:parts.length=vals.size)
 (hv:∀ (j:Nat) (p:Nat×PV) (v:Nat×Value),parts[j]?=some p->vals[j]?=some v->p.1=v.1/\V w G.U G.φ p.2 v.2) (he:Gj P t len parts st d=some (true,st')) :
 ∃ v w' G',(Instr.buildSlice t len vals).run P w=.ok v w'/\Inv w0 G0 st' (GG (fun t=>a.tmps.getD t Go.undef) d v) w' G'/\∀ b∈G.φ,w'.heap[b]?=w.heap[b]?:=by
 cases h0:Fh P t len parts st d with
 |none=>unfold Fh at h0;unfold Gj at he;split at h0<;>rename_i hh<;>simp_all
 |some r =>
  obtain⟨c,st0⟩:=r
  unfold Gj at he
  have e0:=h0
  unfold Fh at e0
  split at he
  . rename_i sz bytes hap
    rw [hap] at e0
    simp only [Â,È] at he e0
    obtain⟨hc,he⟩:=he
    rw [hc] at e0
    obtain⟨rfl,e0⟩:=e0
    obtain⟨v,w',G',⟨h1,h2⟩,h3,h4⟩:=NH h hl hv h0
    split at he
    . split at he
      . grind [Fh,Gj,GG]
      rename_i hf
      rw [Ä hf] at e0
      obtain⟨A,rfl⟩:=h2 hf
      refine⟨_,w',G',h1,?_,h4⟩
      rw [<- e0] at h3
      have hvd:=h3.env.v d
      rw [BA,Ç rfl] at hvd
      have hu:GG (fun t=>a.tmps.getD t Go.undef) d (.slice A parts.length parts.length) d=.slice A parts.length parts.length:=Ç rfl
      rw [hu] at hvd
      have hlm:(parts.map fun p=>rowOf p.2).length=parts.length:=by simp
      rw [<- hlm] at hvd
      have h5:=h3.putPlain d (V.fullOf hvd) rfl
      rw [<- he]
      have e9:GG (GG (fun t=>a.tmps.getD t Go.undef) d (.slice A parts.length parts.length)) d (.slice A (parts.map fun p=>rowOf p.2).length (parts.map fun p=>rowOf p.2).length)=GG (fun t=>a.tmps.getD t Go.undef) d (.slice A parts.length parts.length):=by
       funext x
       unfold GG
       rw [hlm]
       split<;>rfl
      rw [e9] at h5
      exact h5
    . rw [<- he,e0]
      exact⟨v,w',G',h1,h3,h4⟩
  . cases he
end
end Go.Vl
namespace Go.Vl
open Go Go.RowKit Go.MapKept
mutual
def Mx:PV->Option Value
 |.lit v=>some v
 |.agg cs=>(MN cs).map fun l=>.agg l.toArray
 |.fno true f []=>some (.func (.func f) #[] #[])
 |_=>none
def MN:List PV->Option (List Value)
 | []=>some []
 |p::ps=>match Mx p,MN ps with
  |some v,some l=>some (v::l)
  |_,_=>none
end
theorem IH:∀ {cs:List PV} {l:List Value},MN cs=some l->l.length=cs.length/\∀ i (h:i<cs.length),∃ v,l[i]?=some v/\Mx cs[i]=some v
 | [],l,h=>by
  simp only [MN,Â] at h
  subst h
  exact⟨rfl,fun i hi=>by simp at hi⟩
 |p::ps,l,h=>by
  simp only [MN] at h
  split at h
  . rename_i v l2 h1 h2
    simp only [Â] at h
    subst h
    obtain⟨k1,k2⟩:=IH h2
    refine⟨by simp [k1],fun i hi=>?_⟩
    cases i with
    |zero=>exact⟨v,rfl,h1⟩
    |succ i=>exact k2 i (by simpa using hi)
  . cases h
theorem MO {w:World}{U:Nat->Nat->Prop}{φ:List Nat}{p:PV}{u:Value}(h:V w U φ p u):∀ {v:Value},Mx p=some v->u=v:=by
 induction h with
 |lit φ v=>intro v' e;simp only [Mx,Â] at e;exact e
 |agg φ cs arr hn h h1 ih =>
  intro v e
  simp only [Mx,į] at e
  obtain⟨l,e1,rfl⟩:=e
  obtain⟨k1,k2⟩:=IH e1
  congr 1
  refine Array.ext (by simp [hn,k1]) fun i hi1 hi2=>?_
  have hi:i<cs.length:=by rw [<- hn];exact hi1
  obtain⟨v,g1,g2⟩:=k2 i hi
  have:=ih i hi g2
  have e3:arr.getD i Go.undef=arr[i]:=by simp [hi1]
  rw [e3] at this
  rw [this]
  have:=(List.getElem?_eq_some_iff.1 g1).2
  simp [this]
 |fno φ f caps arr hn h ih =>
  intro v e
  cases caps with
  |nil =>
   simp only [Mx,Â] at e
   have:arr = #[]:=ĩ hn
   rw [this];exact e
  |cons a r=>simp [Mx] at e
 |_=>intro v e;simp [Mx] at e
def S9 (P:Program)(t:TypeId):Bool :=
 match P.underlying t with
 |some (.interface _)=>false
 |some _=>true
 |none=>false
theorem run_makeInterface {P:Program}{t:TypeId}(h:S9 P t=true)(v:Value)(w:World):(Instr.makeInterface t v).run P w=.ok (.iface t v) w:=by
 unfold S9 at h
 cases hu:P.underlying t with
 |none=>rw [hu] at h;cases h
 |some d =>
  rw [hu] at h
  simp only [Instr.makeInterface,Ñ,Ý hu,Ê]
  cases d<;>first|rfl|cases h
theorem Qj {P:Program}{t x:TypeId}(h:S9 P t=true)(v:Value)(w:World):(Instr.typeAssert (.iface t v) x t true).run P w=.ok (.tuple #[v,.bool true]) w:=by
 unfold S9 at h
 cases hu:P.underlying t with
 |none=>rw [hu] at h;cases h
 |some d =>
  rw [hu] at h
  simp only [Instr.typeAssert,Ñ,Ý hu,Ê]
  cases d<;>first|(simp;done)|cases h
def Vc:Value->PV
 |.agg arr=>if arr.toList.all Value.oneCell'=true then .agg (arr.toList.map Ge) else .undef
 |v=>Ge v
theorem Adc {w:World}{U:Nat->Nat->Prop}{φ:List Nat}(v:Value):V w U φ (Vc v) v:=by
 unfold Vc
 split
 . rename_i arr
   split
   . rename_i h
     rw [Û] at h
     refine .agg _ _ arr (by simp) (fun i hi=>?_) (fun i hi=>?_)
     . have hi2:i<arr.size:=by simpa using hi
       simp only [é,Array.getElem_toList]
       rw [É,ã hi2]
       exact LQ _
     . rw [É,ã hi]
       exact h _ (by simp)
   . exact .undef _ _
 . exact LQ _
theorem YE (v:Value)(xs:List (List PV)):Vc v≠.sl xs .own:=by
 unfold Vc
 split
 . split<;>simp
 . unfold Ge
   split<;>(try split)<;>simp
def Y6 (P:Program)(t:TypeId):Option (TypeDesc×TypeId) :=
 match P.underlying t with
 |some (.map k e)=>(P.underlying k).map fun d=>(d,e)
 |_=>none
def L7:TypeDesc->Value->Bool
 |.bool,.bool _=>true
 |.int k,.int k' _=>k' == k
 |.string,.string _=>true
 |_,_=>false
theorem FN {d:TypeDesc}{v:Value}(h:L7 d v=true):IsKey d v:=by
 unfold L7 at h
 split at h
 . trivial
 . simpa [IsKey] using h
 . trivial
 . cases h
def Jh (d:TypeDesc)(k:Value):List (Value×Value)->Nat->Option (Option (Nat×Value))
 | [],_=>some none
 |e::es,i=>match Instr.sameNow d k e.1 with
  |some true=>some (some (i,e.2))
  |some false=>Jh d k es (i+1)
  |none=>none
theorem JG (d:TypeDesc)(k:Value):∀ (es:List MapEntry) (i:Nat),Jh d k (es.map fun e=>(e.key,e.val)) i=Instr.findNow d k es i
 | [],_=>rfl
 |e::es,i=>by
  simp only [Þ,Jh,Instr.findNow]
  rw [JG d k es (i+1)]
  cases Instr.sameNow d k e.key with
  |none=>rfl
  |some b=>cases b<;>rfl
def Zg (P:Program)(e:TypeId):Option Value:=(P.info? e).bind (·.zero)
def XI (st:St)(m:Operand):Option (Nat×List (Value×Value)) :=
 match Cu st m with
 |.mref b=>match st.σ[b]? with
  |some [.mp kvs]=>some (b,kvs)
  |_=>none
 |_=>none
def XH (st:St)(m:Operand):Option (List (Value×Value)) :=
 match Cu st m with
 |.vmp kvs=>some kvs
 |_=>(XI st m).map (·.2)
def NF (P:Program)(t:TypeId)(m k:Operand)(ok:Bool)(st:St):Option (Bool×PV) :=
 match Y6 P t,XH st m,Cu st k with
 |some (d,e),some kvs,.lit kv =>
  match Jh d kv kvs 0 with
  |some (some (_,v))=>some (L7 d kv,if ok then .tup [Ge v,.lit (.bool true)] else Ge v)
  |some none=>(Zg P e).map fun z=>(L7 d kv,if ok then .tup [Ge z,.lit (.bool false)] else Ge z)
  |none=>none
 |_,_,_=>none
def ND (P:Program)(t:TypeId)(m k v:Operand)(st:St):Option (Bool×St) :=
 match Y6 P t,XI st m,Cu st k,Mx (Cu st v) with
 |some (d,_),some (b,kvs),.lit kv,some vv =>
  match Jh d kv kvs 0 with
  |some none=>some (L7 d kv,{ st with σ:=st.σ.set b [.mp (kvs++[(kv,vv)])] })
  |some (some (i,_))=>some (L7 d kv&&kvs.all (fun e=>L7 d e.1),{ st with σ:=st.σ.set b [.mp (kvs.set i (kv,vv))] })
  |none=>none
 |_,_,_,_=>none
def O8 (P:Program)(t:TypeId)(r:Option Operand)(st:St)(d:Nat):Option (Bool×St) :=
 match Y6 P t,r with
 |some _,none=>some (true,({ st with σ:=st.σ++[[.mp []]] }:St).put (some d) (.mref st.σ.length))
 |some _,some x=>match Cu st x with
  |.lit (.int _ _)=>some (true,({ st with σ:=st.σ++[[.mp []]] }:St).put (some d) (.mref st.σ.length))
  |_=>none
 |_,_=>none
section
variable {w w' w0:World} {G G' G0:Gh} {P:Program} {p q:PV} {v u:Value} {st st':St} {a:Act} {o:Oper} {d:Nat}
theorem Ox {t e:TypeId}{dd:TypeDesc}(h:Y6 P t=some (dd,e)):∃ k,P.underlying t=some (.map k e)/\P.underlying k=some dd:=by
 grind [Y6,Option.map_eq_some_iff]
theorem Q3 {m:Operand}{b:Nat}{kvs:List (Value×Value)}(h:Inv w0 G0 st (fun t=>a.tmps.getD t Go.undef) w G)(he:XI st m=some (b,kvs)) :
 ∃ r es c,G.φ[b]?=some r/\st.σ[b]?=some [.mp kvs]/\a.eval m=.map (some r)/\w.heap[r]?=some (.map es c)/\es.toList.map (fun e=>(e.key,e.val))=kvs/\Stp es c:=by
 have hm:=B1 (a:=a) h.env m
 unfold XI at he
 split at he
 . rename_i b' hb
   rw [hb] at hm
   split at he
   . rename_i kvs' hs
     simp only [Â,È] at he
     obtain⟨rfl,rfl⟩:=he
     revert hm
     generalize a.eval m=z
     intro hm
     cases hm with
     |mref _ _ r hr =>
      obtain⟨⟨o',arr,h3,⟨hl,_⟩,_⟩,_⟩:=h.store.blk b' r _ hr hs
      rcases hl with⟨_,hl2⟩|⟨kvs2,es,c,e1,rfl,e2⟩|e1
      . exact absurd (hl2 (.mp kvs') (List.mem_singleton.2 rfl)) (by simp [PV.isM])
      rotate_left
      . simp at e1
      . obtain rfl:kvs'=kvs2:=by simpa using e1
        exact⟨r,es,c,hr,hs,rfl,h3,e2⟩
   . cases he
 . cases he
theorem Ww {m:Operand}{kvs:List (Value×Value)}(h:Inv w0 G0 st (fun t=>a.tmps.getD t Go.undef) w G)(he:XH st m=some kvs) :
 ∃ r es c,a.eval m=.map (some r)/\w.heap[r]?=some (.map es c)/\es.toList.map (fun e=>(e.key,e.val))=kvs:=by
 have hm:=B1 (a:=a) h.env m
 unfold XH at he
 split at he
 . rename_i kvs' hb
   rw [hb] at hm
   obtain rfl:=Af he
   revert hm
   generalize a.eval m=z
   intro hm
   cases hm with
   |vmp _ _ b es c hU hw hk hs=>exact⟨b,es,c,rfl,hw,hk⟩
 . obtain⟨⟨b,kvs'⟩,h1,rfl⟩:=Option.map_eq_some_iff.1 he
   obtain⟨r,es,c,_,_,h3,h4,h5,_⟩:=Q3 h h1
   exact⟨r,es,c,h3,h4,h5⟩
theorem TA {t:TypeId}{m k:Operand}{ok:Bool}(h:Inv w0 G0 st (fun t=>a.tmps.getD t Go.undef) w G)(he:NF P t m k ok st=some (true,p)) :
 ∃ v,(Instr.lookup t (a.eval m) (a.eval k) ok).run P w=.ok v w/\V w G.U G.φ p v/\(plain p=true∨∃ x b,p=.tup [Ge x,.lit b]):=by
 unfold NF at he
 have hk:=B1 (a:=a) h.env k
 split at he
 . rename_i dd e kvs kv hmt hma hok
   rw [hok] at hk
   obtain⟨r,es,c,h3,h4,h5⟩:=Ww h hma
   obtain⟨kt,u1,u2⟩:=Ox hmt
   have hkv:a.eval k=kv:=by
    revert hk;generalize a.eval k=z;intro hk
    cases hk;rfl
   rw [h3,hkv]
   have habs:∀ x,plain (Ge x)=true:=fun x=>by unfold Ge;split<;>(try split)<;>rfl
   have fin:∀ (x:Value) (b:Bool),V w G.U G.φ (if ok then .tup [Ge x,.lit (.bool b)] else Ge x) (if ok then .tuple #[x,.bool b] else x)/\(plain (if ok then .tup [Ge x,.lit (.bool b)] else Ge x)=true∨∃ y c,(if ok then .tup [Ge x,.lit (.bool b)] else Ge x)=PV.tup [Ge y,.lit c]):=fun x b=>by
    cases ok with
    |true =>
     refine⟨.tup _ _ _ rfl fun i hi=>?_,.inr ⟨x,.bool b,rfl⟩⟩
     match i,hi with
     |0,_=>exact LQ x
     |1,_=>exact .lit _ _
    |false=>exact⟨LQ x,.inl (habs x)⟩
   split at he
   . rename_i i v hf
     simp only [Â,È] at he
     obtain⟨hkey,rfl⟩:=he
     rw [<- h5,JG] at hf
     refine⟨_,?_,fin v true⟩
     simp only [Instr.lookup,Ñ,Ý u1,Ê,MapKept.run_getObj_map h4,Ö,run_checkKey u2 (FN hkey),run_findKey u2 hf]
     all_goals (cases ok<;>rfl)
   . rename_i hf
     obtain⟨z,hz,he2⟩:=Option.map_eq_some_iff.1 he
     simp only [È] at he2
     obtain⟨hkey,rfl⟩:=he2
     rw [<- h5,JG] at hf
     refine⟨_,?_,fin z false⟩
     simp only [Instr.lookup,Ñ,Ý u1,Ê,MapKept.run_getObj_map h4,Ö,run_checkKey u2 (FN hkey),run_findKey u2 hf,PE hz]
     all_goals (cases ok<;>rfl)
   . cases he
 . cases he
theorem Inv.newMap (h:Inv w0 G0 st (fun t=>a.tmps.getD t Go.undef) w G) :
 ∃ G',Inv w0 G0 (({ st with σ:=st.σ++[[.mp []]] }:St).put (some d) (.mref st.σ.length)) (GG (fun t=>a.tmps.getD t Go.undef) d (.map (some w.heap.size))) (w.alloc (.map #[] 0)) G':=by
 obtain⟨h1,h2⟩:=Inv.newObj (cs:=[.mp []]) (arr:=#[.bool false]) (o:=.map #[] 0) (.inr (.inl ⟨[],#[],0,rfl,rfl,rfl,by simp [Stp]⟩)) h ⟨rfl,fun i hi=>by
  match i,hi with
  |0,_=>exact⟨.mp _ _ _,rfl⟩⟩ (fun j c hj=>by
  match j,hj with
  |0,hj=>cases hj;trivial)
 exact⟨_,h1.putPlain d (.mref _ _ _ h2) rfl⟩
theorem RL {t:TypeId}{r:Option Operand}(h:Inv w0 G0 st (fun t=>a.tmps.getD t Go.undef) w G)(he:O8 P t r st d=some (true,st')) :
 ∃ v w' G',(Instr.makeMap t (r.map a.eval)).run P w=.ok v w'/\Inv w0 G0 st' (GG (fun t=>a.tmps.getD t Go.undef) d v) w' G'/\∀ b∈G.φ,w'.heap[b]?=w.heap[b]?:=by
 obtain⟨G',hG⟩:=Inv.newMap (d:=d) h
 have hkeep:∀ b∈G.φ,(w.alloc (.map #[] 0)).heap[b]?=w.heap[b]?:=fun b hb=>ê _ _ _ (h.store.lt hb)
 unfold O8 at he
 split at he
 . simp only [Â,È,õ] at he
   subst he
   refine⟨.map (some w.heap.size),_,G',?_,hG,hkeep⟩
   simp only [Option.map_none,Instr.makeMap,Ñ,Ö,run_newObj,Ê]
   rfl
 . rename_i y x hmt
   split at he
   . rename_i ik n hx
     simp only [Â,È,õ] at he
     subst he
     have hv:=B1 (a:=a) h.env x
     rw [hx] at hv
     have hxe:a.eval x=.int ik n:=by
      revert hv;generalize a.eval x=z;intro hv
      cases hv;rfl
     obtain⟨dd,e⟩:=y
     obtain⟨kt,u1,_⟩:=Ox hmt
     refine⟨.map (some w.heap.size),_,G',?_,hG,hkeep⟩
     simp only [ä,hxe,Instr.makeMap,Ñ,Ö,Ý u1,asInt,run_newObj,Ê]
     try rfl
   . cases he
 . cases he
theorem Abl {es:Array MapEntry}{c:Nat}{k v:Value}(h:Stp es c):Stp (es.push { key:=k,val:=v,born:=c }) (c+1):=by
 refine⟨fun x hx=>?_,?_⟩
 . rw [Array.toList_push,List.mem_append] at hx
   rcases hx with hx|hx
   . have:=h.1 x hx;omega
   . obtain rfl:=List.mem_singleton.1 hx;show c<c+1;omega
 . rw [Array.toList_push,Ć,Ĕ]
   refine⟨h.2,by simp,fun a ha b hb e=>?_⟩
   obtain⟨x,hx,rfl⟩:=List.mem_map.1 ha
   have:=h.1 x hx
   simp at hb
   omega
theorem Xp {es:Array MapEntry}{c i:Nat}{k v:Value}(h:Stp es c):Stp (es.modify i fun e=>{ e with key:=k,val:=v }) c:=by
 have e:(es.modify i fun e=>{ e with key:=k,val:=v }).toList.map (·.born)=es.toList.map (·.born):=by
  rw [Array.toList_modify]
  refine List.ext_getElem? fun j=>?_
  simp only [æ,List.getElem?_modify]
  split<;>cases es.toList[j]?<;>rfl
 refine⟨fun x hx=>?_,by rw [e];exact h.2⟩
 have:x.born∈(es.modify i fun e=>{ e with key:=k,val:=v }).toList.map (·.born):=List.mem_map.2 ⟨x,hx,rfl⟩
 rw [e] at this
 obtain⟨y,hy,e2⟩:=List.mem_map.1 this
 rw [<- e2];exact h.1 y hy
theorem Inv.setMap {b r:Nat}{kvs kvs':List (Value×Value)}{es es':Array MapEntry}{c c':Nat}(h:Inv w0 G0 st (fun t=>a.tmps.getD t Go.undef) w G)(h1:G.φ[b]?=some r)(h2:st.σ[b]?=some [.mp kvs])(h3:w.heap[r]?=some (.map es c))
 (h4:es'.toList.map (fun e=>(e.key,e.val))=kvs') (h5:Stp es' c') :
 Inv w0 G0 { st with σ:=st.σ.set b [.mp kvs'] } (fun t=>a.tmps.getD t Go.undef) { w with heap:=w.heap.setIfInBounds r (.map es' c') } G:=by
 obtain⟨k1,k2⟩:=MapKept.heap_set (o':=.map es' c') h3
 refine h.setObj (o:=.map es c) (o':=.map es' c') (arr':=#[.bool false]) h1 h2 h3 k1 (.inr (.inl ⟨kvs',es',c',rfl,rfl,h4,h5⟩)) k2 rfl rfl rfl ⟨rfl,fun i hi=>?_⟩ (fun j q hj=>?_) (fun t xs j v _ hj _=>?_)
 . match i,hi with
   |0,_=>exact⟨.mp _ _ _,rfl⟩
 . match j,hj with
   |0,hj=>cases hj;trivial
 . match j,hj with
   |0,hj=>cases hj
theorem NC {t:TypeId}{m k x:Operand}(h:Inv w0 G0 st (fun t=>a.tmps.getD t Go.undef) w G)(he:ND P t m k x st=some (true,st')) :
 ∃ w' G',(Instr.mapUpdate t (a.eval m) (a.eval k) (a.eval x)).run P w=.ok () w'/\Inv w0 G0 st' (fun t=>a.tmps.getD t Go.undef) w' G':=by
 unfold ND at he
 have hk:=B1 (a:=a) h.env k
 have hx:=B1 (a:=a) h.env x
 split at he
 . rename_i dd e b kvs kv vv hmt hma hok hlv
   rw [hok] at hk
   obtain⟨r,es,c,h1,h2,h3,h4,h5,h6⟩:=Q3 h hma
   obtain⟨kt,u1,u2⟩:=Ox hmt
   have hkv:a.eval k=kv:=by
    revert hk;generalize a.eval k=z;intro hk
    cases hk;rfl
   rw [h3,hkv,MO hx hlv]
   split at he
   . rename_i hf
     simp only [Â,È] at he
     obtain⟨hkey,rfl⟩:=he
     rw [<- h5,JG] at hf
     refine⟨_,G,?_,h.setMap (es':=es.push { key:=kv,val:=vv,born:=c }) (c':=c+1) h1 h2 h4 (by rw [Array.toList_push,Ć,h5];rfl) (Abl h6)⟩
     simp only [Instr.mapUpdate,Ñ,Ý u1,Ê,MapKept.run_getObj_map h4,run_checkKey u2 (FN hkey),run_findKey u2 hf,MapKept.run_setObj_map _ h4]
   . rename_i i v0 hf
     simp only [Â,È,Å] at he
     obtain⟨⟨hkey,hall⟩,rfl⟩:=he
     rw [<- h5,JG] at hf
     have hks:∀ x∈es.toList,IsKey dd x.key:=fun x hx=>by
      rw [Û] at hall
      exact FN (hall (x.key,x.val) (by rw [<- h5];exact List.mem_map.2 ⟨x,hx,rfl⟩))
     rcases findNow_spec (FN hkey) es.toList 0 hks with⟨g1,_⟩|⟨j,e0,g1,g2,g3⟩
     . rw [hf] at g1;cases g1
     . rw [hf] at g1
       simp only [Â,È,ñ] at g1
       obtain⟨rfl,rfl⟩:=g1
       have hj:es[i]?=some e0:=by simpa using g2
       refine⟨_,G,?_,h.setMap (es':=es.modify i fun e=>{ e with key:=kv,val:=vv }) (c':=c) h1 h2 h4 ?_ (Xp h6)⟩
       . simp [Instr.mapUpdate,Ý u1,MapKept.run_getObj_map h4,run_checkKey u2 (FN hkey),run_findKey u2 hf,hj,g3,run_keyThatStays (FN hkey),MapKept.run_setObj_map _ h4,Result.andThen]
       . rw [<- h5,Array.toList_modify]
         refine List.ext_getElem? fun j=>?_
         simp only [æ,List.getElem?_modify,List.getElem?_set]
         by_cases hij:i=j
         . subst hij
           simp [g2]
           exact (Array.getElem?_eq_some_iff.1 hj).1
         . simp [hij]
   . cases he
 . cases he
end
end Go.Vl
namespace Go.Vl
open Go Go.RowKit
def KY:Value->PV
 |.func (.func f) ⟨[]⟩ ⟨[]⟩=>.fno true f []
 |v=>Ge v
theorem TZ {w:World}{U:Nat->Nat->Prop}{φ:List Nat}(v:Value):V w U φ (KY v) v:=by
 unfold KY
 split
 . exact .fno _ _ _ _ rfl (fun i hi=>by simp at hi)
 . exact LQ v
theorem Abc (v:Value)(xs:List (List PV)):KY v≠.sl xs .own:=by
 unfold KY
 split
 . simp
 . unfold Ge
   split<;>(try split)<;>simp
def T8 (P:Program)(t:TypeId)(x:Operand)(st:St)(d:Nat):Option (Bool×St) :=
 match P.underlying t,Cu st x with
 |some (.map _ _),.vmp kvs=>some (true,({ st with σ:=st.σ++[[.mit kvs []]] }:St).put (some d) (.ptr st.σ.length 0))
 |_,_=>none
def L6 (st:St)(x:Operand):Option (Nat×List (Value×Value)×List Nat) :=
 match Cu st x with
 |.ptr k 0=>match st.σ[k]? with
  |some [.mit kvs seen]=>some (k,kvs,seen)
  |_=>none
 |_=>none
def P5 (x:Operand)(st:St)(d:Nat):Option (Bool×St) :=
 match L6 st x with
 |some (_,kvs,seen)=>(seen.getLast?.bind fun i=>kvs[i]?).map fun e=>(true,st.put (some d) (.tup [KY e.1,KY e.2]))
 |_=>none
section
variable {w w' w0:World} {G G' G0:Gh} {P:Program} {p q:PV} {v u:Value} {st st':St} {a:Act} {o:Oper} {d:Nat}
theorem Ext.drew (h:Ext w0 G0 w G):Ext w0 G0 w.drew G:=⟨h.os,h.tape,h.output,h.size,h.frame,h.cells,h.newU,h.newΩ,h.phi⟩
theorem Ext.drew0 (_:Ext w0 G0 w G):Ext w G w.drew G:=(Ext.refl w G).drew
theorem Inv.drew {tm:Nat->Value}(h:Inv w0 G0 st tm w G):Inv w0 G0 st tm w.drew G:=by
 have hV:∀ {φ p v},V w G.U φ p v->V w.drew G.U φ p v:=fun h=>h.mono (w':=w.drew) (U':=G.U) (fun _ _ h=>⟨h,rfl,fun _ _ e=>e⟩) (fun _ _ h=>h)
 refine⟨h.ext.drew,⟨h.store.len,h.store.nodup,fun k b cs h1 h2=>?_,h.store.ub,h.store.ob⟩,fun t=>hV (h.env.v t),fun t=>?_⟩
 . obtain⟨⟨T,arr,h3,h4,h5⟩,h6⟩:=h.store.blk k b cs h1 h2
   refine⟨⟨T,arr,h3,⟨h4.1.mono (w':=w.drew) (U':=G.U) (fun _ _ h=>⟨h,rfl,fun _ _ e=>e⟩),h4.2⟩,fun j c hc=>?_⟩,h6⟩
   obtain⟨v,h7,h8,h9,h10⟩:=h5 j c hc
   refine⟨v,h7,h8,hV h9,?_⟩
   unfold Ck at h10 ⊢
   split
   . exact h10
   . exact h10
   . trivial
 . have ht:=h.env.tag t
   revert ht
   generalize st.get t=q
   intro ht
   cases q with
   |sl xs g =>
    cases g with
    |view m=>cases m<;>exact ht
    |_=>exact ht
   |_=>exact ht
theorem Afo {w:World}{G:Gh}{st:St}{tm:Nat->Value}{t:Nat}(x y:Value)(l:List PV)(r:Value)(hl:∀ p∈l,∀ xs,p≠.sl xs .own):DV w G st tm t (.tup (l++[KY x,KY y])) r:=by
 intro i xs hi
 all_goals grind [List.mem_of_getElem?,Abc]
theorem Vs {t:TypeId}{x:Operand}(h:Inv w0 G0 st (fun t=>a.tmps.getD t Go.undef) w G)(he:T8 P t x st d=some (true,st')) :
 ∃ v w' G',(Instr.range t (a.eval x)).run P w=.ok v w'/\Inv w0 G0 st' (GG (fun t=>a.tmps.getD t Go.undef) d v) w' G'/\∀ b∈G.φ,w'.heap[b]?=w.heap[b]?:=by
 have hx:=B1 (a:=a) h.env x
 unfold T8 at he
 split at he
 . rename_i kt et kvs hu hb
   simp only [Â,È,õ] at he
   subst he
   rw [hb] at hx
   revert hx
   generalize a.eval x=z
   intro hx
   cases hx with
   |vmp _ _ bm es c hU hw hk hs =>
   obtain⟨h1,h2⟩:=Inv.newObj (cs:=[.mit kvs []]) (arr:=#[.bool false]) (o:=.mapIter (some bm) c #[] c) (.inr (.inr ⟨kvs,[],rfl,bm,es,c,#[],rfl,hU,hw,hk,hs,rfl,by simp⟩)) h ⟨rfl,fun i hi=>by
    match i,hi with
    |0,_=>exact⟨.mit _ _ _ _,rfl⟩⟩ (fun j c hj=>by
    match j,hj with
    |0,hj=>cases hj;trivial)
   refine⟨.pointer (some ⟨w.heap.size,0,none⟩),_,_,?_,h1.putPlain d (.ptr _ _ _ _ h2) rfl,fun b hb=>ê _ _ _ (h.store.lt hb)⟩
   exact run_range_map w t kt et bm es c hu hw
 . cases he
theorem Pc {x:Operand}{k:Nat}{kvs:List (Value×Value)}{seen:List Nat}(h:Inv w0 G0 st (fun t=>a.tmps.getD t Go.undef) w G)(he:L6 st x=some (k,kvs,seen)) :
 ∃ r bm es c sn,G.φ[k]?=some r/\st.σ[k]?=some [.mit kvs seen]/\a.eval x=.pointer (some ⟨r,0,none⟩)/\w.heap[r]?=some (.mapIter (some bm) c sn c)/\G.U bm 0/\w.heap[bm]?=some (.map es c)/\es.toList.map (fun e=>(e.key,e.val))=kvs/\Stp es c /\
  sn.toList=seen.map (fun i=>(es.toList.map (·.born)).getD i 0)/\∀ j∈seen,j<kvs.length:=by
 have hm:=B1 (a:=a) h.env x
 unfold L6 at he
 split at he
 . rename_i k' hb
   rw [hb] at hm
   split at he
   . rename_i kvs' seen' hs
     simp only [Â,È] at he
     obtain⟨rfl,rfl,rfl⟩:=he
     revert hm
     generalize a.eval x=z
     intro hm
     cases hm with
     |ptr _ _ _ r hr =>
      obtain⟨⟨o',arr,h3,⟨hl,_⟩,_⟩,_⟩:=h.store.blk k' r _ hr hs
      rcases hl with⟨_,hl2⟩|⟨kvs2,es,c,e1,rfl,e2⟩|⟨kvs2,seen2,e1,bm,es,c,sn,e2,e3,e4,e5,e6,e7,e8⟩
      . exact absurd (hl2 (.mit kvs' seen') (List.mem_singleton.2 rfl)) (by simp [PV.isM])
      . simp at e1
      . grind [L6]
   . cases he
 . cases he
theorem Ac1 {es:Array MapEntry}{i:Nat}{x:Value×Value}(hx:(es.toList.map fun e=>(e.key,e.val))[i]?=some x):∃ e∈es.toList,(e.key,e.val)=x/\(es.toList.map (·.born)).getD i 0=e.born:=by
 grind
theorem Vw {x:Operand}(h:Inv w0 G0 st (fun t=>a.tmps.getD t Go.undef) w G)(he:P5 x st d=some (true,st')) :
 ∃ v,(Instr.entry (a.eval x)).run P w=.ok v w/\Inv w0 G0 st' (GG (fun t=>a.tmps.getD t Go.undef) d v) w G:=by
 unfold P5 at he
 split at he
 . rename_i k kvs seen hi
   obtain⟨r,bm,es,c,sn,h1,h2,h3,h4,h5,h6,h7,h8,h9,h10⟩:=Pc h hi
   obtain⟨⟨k1,v1⟩,he1,he2⟩:=Option.map_eq_some_iff.1 he
   simp only [È,õ] at he2
   subst he2
   obtain⟨i,g1,g2⟩:=Option.bind_eq_some_iff.1 he1
   rw [<- h7] at g2
   obtain⟨e,e1,e2,e3⟩:=Ac1 g2
   obtain⟨l,rfl⟩:∃ l,seen=l++[i]:=List.getLast?_eq_some_iff.1 g1
   have hsn:sn=(l.map fun i=>(es.toList.map (·.born)).getD i 0).toArray.push e.born:=by
    apply Array.ext'
    rw [h9,Ć,Array.toList_push,Þ,e3];rfl
   simp only [È] at e2
   refine⟨.tuple #[k1,v1],?_,?_⟩
   . rw [h3,<- e2.1,<- e2.2]
     exact run_entry_at w r bm c _ es c e (by rw [h4,hsn]) h6 e1 h8.2
   . refine h.put d (.tup _ _ _ rfl (fun j hj=>?_)) (Afo k1 v1 [] _ (by simp))
     match j,hj with
     |0,_=>exact TZ _
     |1,_=>exact TZ _
 . cases he
theorem ZG {x:Operand}{k:Nat}{kvs:List (Value×Value)}{seen:List Nat}(ty:TypeId)(h:Inv w0 G0 st (fun t=>a.tmps.getD t Go.undef) w G)(hi:L6 st x=some (k,kvs,seen)) :
 ((∀ i,i<kvs.length->i∈seen)/\(Instr.next (a.eval x) false ty).run P w=.ok (.tuple #[.bool false]) w/\Inv w0 G0 (st.put (some d) (.tup [.lit (.bool false)])) (GG (fun t=>a.tmps.getD t Go.undef) d (.tuple #[.bool false])) w G) ∨
 ∃ i,∃ hl:i<kvs.length,∃ w',i∉seen/\(Instr.next (a.eval x) false ty).run P w=.ok (.tuple #[.bool true,kvs[i].1,kvs[i].2]) w' /\
  Inv w0 G0 (({ st with σ:=st.σ.set k [.mit kvs (seen++[i])] }:St).put (some d) (.tup [.lit (.bool true),KY kvs[i].1,KY kvs[i].2])) (GG (fun t=>a.tmps.getD t Go.undef) d (.tuple #[.bool true,kvs[i].1,kvs[i].2])) w' G:=by
 obtain⟨r,bm,es,c,sn,h1,h2,h3,h4,h5,h6,h7,h8,h9,h10⟩:=Pc h hi
 have hborn:∀ i e,es.toList[i]?=some e->(es.toList.map (·.born)).getD i 0=e.born:=fun i e he=>by rw [List.getD,æ,he];rfl
 have hlen:es.toList.length=kvs.length:=by rw [<- h7,Í]
 rw [h3]
 rcases run_next_at (P:=P) w ty r bm c c sn es c h4 h6 (fun x hx=>h8.1 x hx) (à _) with⟨k1,k2⟩|⟨e,k1,w1,k2,k3⟩
 . left
   refine⟨fun i hi=>?_,k2,h.put d (.tup _ _ _ rfl (fun j hj=>?_)) ?_⟩
   . have hi2:i<es.toList.length:=by rw [hlen];exact hi
     have hmem:=Ú hi2
     have hc:sn.contains (es.toList[i]).born=true:=by
      by_cases hcc:sn.contains (es.toList[i]).born=true
      . exact hcc
      . exfalso
        have:(leftOf es sn) = #[]:=ĩ k1
        unfold leftOf at this
        rw [Array.filter_eq_empty_iff] at this
        exact this _ (Array.mem_toList_iff.1 hmem) (by rw [Bool.not_eq_true] at hcc;rw [hcc];rfl)
     have hm2:(es.toList[i]).born∈sn.toList:=by simpa using hc
     rw [h9] at hm2
     obtain⟨j,j1,j2⟩:=List.mem_map.1 hm2
     have hj3:j<es.toList.length:=by rw [hlen];exact h10 j j1
     rw [hborn j _ (Ã hj3)] at j2
     have hnd:=h8.2
     have:j=i:=by
      have a1:(es.toList.map (·.born))[j]'(by simpa using hj3)=(es.toList.map (·.born))[i]'(by simpa using hi2):=by simpa using j2
      exact (List.getElem_inj hnd).1 a1
     exact this ▸ j1
   . match j,hj with
     |0,_=>exact .lit _ _
   . intro i xs hi
     match i,hi with
     |0,hi=>cases hi
 . right
   have hmem:e∈es.toList:=by
    grind [leftOf]
   have hnot:e.born∉sn.toList:=by
    grind [leftOf]
   obtain⟨i,hi,he⟩:=ø hmem
   have hi2:i<kvs.length:=by rw [<- hlen];exact hi
   have hkv:kvs[i]=(e.key,e.val):=by
    grind [leftOf]
   have hb:=hborn i e (by rw [Ã hi,he])
   have hns:i∉seen:=fun hm=>hnot (by rw [h9];exact List.mem_map.2 ⟨i,hm,hb⟩)
   have hw1:w1.heap=w.heap:=by rcases k2 with rfl|rfl<;>rfl
   have hI1:Inv w0 G0 st (fun t=>a.tmps.getD t Go.undef) w1 G:=by
    rcases k2 with rfl|rfl
    . exact h
    . exact h.drew
   have hr1:w1.heap[r]?=some (.mapIter (some bm) c sn c):=by rw [hw1];exact h4
   obtain⟨s1,s2⟩:=MapKept.heap_set (o':=.mapIter (some bm) c (sn.push e.born) c) hr1
   have hI2:=hI1.setObj (cs':=[.mit kvs (seen++[i])]) (o:=.mapIter (some bm) c sn c) (o':=.mapIter (some bm) c (sn.push e.born) c) (arr':=#[.bool false]) (w':=ChangeMaps.setBlock w1 r (.mapIter (some bm) c (sn.push e.born) c)) h1 h2 hr1 s1
    (.inr (.inr ⟨kvs,seen++[i],rfl,bm,es,c,sn.push e.born,rfl,h5,by rw [hw1];exact h6,h7,h8,by rw [Array.toList_push,h9,Ć,Þ,hb];rfl,fun j hj=>by
     rcases List.mem_append.1 hj with hj|hj
     . exact h10 j hj
     . obtain rfl:=List.mem_singleton.1 hj;exact hi2⟩)) s2 rfl rfl rfl ⟨rfl,fun i hi=>by
     match i,hi with
     |0,_=>exact⟨.mit _ _ _ _,rfl⟩⟩ (fun j q hj=>by
     match j,hj with
     |0,hj=>cases hj;trivial) (fun t xs j v _ hj _=>by
     match j,hj with
     |0,hj=>cases hj)
   refine⟨i,hi2,ChangeMaps.setBlock w1 r (.mapIter (some bm) c (sn.push e.born) c),hns,?_,?_⟩
   . rw [hkv];exact k3
   . refine hI2.put d (.tup _ _ _ rfl (fun j hj=>?_)) (Afo _ _ [.lit (.bool true)] _ (by simp))
     match j,hj with
     |0,_=>exact .lit _ _
     |1,_=>exact TZ _
     |2,_=>exact TZ _
end
end Go.Vl
namespace Go.Vl
open Go Go.RowKit
def Ko:List (List PV)->Option (List (List Value))
 | []=>some []
 |r::rs=>match MN r,Ko rs with
  |some a,some b=>some (a::b)
  |_,_=>none
def OB (P:Program)(c:Call)(st:St)(d:Nat):Option (Bool×St) :=
 match c.callee,c.args.toList,c.argTypes.toList with
 |.builtin .append,[.tmp s,y],[t,t'] =>
  match apT P t,st.get s with
  |some (sz,bytes),.prv xs =>
   match (HK P t' sz st y).bind Ko with
   |some ys=>some (decide ((xs.length+ys.length)*max bytes 1<=140737488355328)&&(!ys.isEmpty&&(xs.all (fun x=>x.length == sz)&&ys.all (fun x=>x.length == sz))),(st.put (some s) .undef).put (some d) (.prv (xs++ys)))
   |none=>none
  |_,_=>none
 |_,_,_=>none
def Afk:PV->Bool
 |.mit [] [77]=>true
 |_=>false
def K1 (P:Program)(t len:Nat)(parts:List (Nat×PV))(st:St)(d:Nat):Option (Bool×St) :=
 if Afk (st.get d)=true then match apT P t,Ko (parts.map fun p=>rowOf p.2) with
  |some (sz,_),some xs=>some (decide (parts.map (·.1)=List.range len/\len*sz<=16777216/\len≠0)&&parts.all (fun p=>Je sz p.2),st.put (some d) (.prv xs))
  |_,_=>none
 else Gj P t len parts st d
def LG (P:Program)(t:TypeId)(st:St)(d:Nat)(x:Operand):Option St :=
 match Cu st x with
 |.ptr b o=>match LP P t,Na st.σ[b]? with
  |some false,some cs=>match cs[o]? with
   |some (.prv xs)=>some (({ st with σ:=st.σ.set b (cs.set o .undef) }:St).put (some d) (.prv xs))
   |_=>none
  |_,_=>none
 |_=>none
section
variable {w w' w0:World} {G G' G0:Gh} {P:Program} {p q:PV} {v u:Value} {st st':St} {a:Act} {o:Oper} {d:Nat} {U:Nat->Nat->Prop} {φ:List Nat}
theorem Jf:∀ {rs:List (List PV)} {ls:List (List Value)},Ko rs=some ls->ls.length=rs.length/\∀ i (h:i<rs.length) (h':i<ls.length),MN rs[i]=some ls[i]
 | [],ls,h=>by
  simp only [Ko,Â] at h
  subst h
  exact⟨rfl,fun i hi=>by simp at hi⟩
 |r::rs,ls,h=>by
  simp only [Ko] at h
  split at h
  . rename_i x y h1 h2
    simp only [Â] at h
    subst h
    obtain⟨k1,k2⟩:=Jf h2
    refine⟨by simp [k1],fun i hi hi'=>?_⟩
    cases i with
    |zero=>exact h1
    |succ i=>exact k2 i (by simpa using hi) (by simpa using hi')
  . cases h
theorem N2 {rs:List (List PV)}{ls:List (List Value)}{sz:Nat}{vs:List Value}(h:Ko rs=some ls)(hf:Flat w U rs sz vs):vs=ls.flatten/\(∀ x∈ls,x.length=sz):=by
 obtain⟨h1,h2⟩:=Jf h
 have hrow:∀ x∈ls,x.length=sz:=fun x hx=>by
  obtain⟨i,hi,rfl⟩:=ø hx
  rw [(IH (h2 i (by omega) hi)).1]
  exact hf.row _ (Ú _)
 refine⟨List.ext_getElem? fun q=>?_,hrow⟩
 by_cases hq:q<rs.length*sz
 . have hsz:0<sz:=by
    rcases Nat.eq_zero_or_pos sz with e|e
    . rw [e] at hq;omega
    . exact e
   have hi:q / sz<rs.length:=(Nat.div_lt_iff_lt_mul hsz).2 hq
   have hj:q % sz<sz:=Nat.mod_lt _ hsz
   have e:q=q / sz*sz+q % sz:=by rw [Nat.mul_comm,Nat.div_add_mod]
   have hi':q / sz<ls.length:=by omega
   have hjr:q % sz<(rs[q / sz]).length:=by rw [hf.row _ (Ú hi)];exact hj
   have hjl:q % sz<(ls[q / sz]).length:=by rw [hrow _ (Ú hi')];exact hj
   have h3:=FQ ls hrow (q / sz) hi' (q % sz) hjl
   rw [<- e] at h3
   obtain⟨v,k1,k2⟩:=(IH (h2 _ hi hi')).2 _ hjr
   rw [Ã hjl] at k1
   have h4:=MO (hf.v _ hi _ hjr) k2
   rw [<- e] at h4
   rw [h3,k1,<- h4]
   have:q<vs.length:=by rw [hf.len];exact hq
   simp [List.getD,this]
 . rw [List.getElem?_eq_none (by rw [hf.len];omega),List.getElem?_eq_none (by rw [Ei ls hrow,h1];omega)]
theorem Inv.newPrv {sz cap:Nat}{xs:List (List Value)}{rest:Array Value}{T:TypeId}{tm:Nat->Value}(h:Inv w0 G0 st tm w G)(hrow:∀ x∈xs,x.length=sz)(h1:∀ u∈xs.flatten,u.oneCell'=true)(hne:xs≠[])
 (hrest:rest.size=(cap-xs.length)*sz) (h2:∀ u∈rest.toList,u.oneCell'=true) (hcap:xs.length<=cap/\cap<=9223372036854775807) (dr:Bool) :
 ∃ G',Inv w0 G0 (st.put (some d) (.prv xs)) (GG tm d (.slice (some ⟨w.heap.size,0,none⟩) xs.length cap)) ((if dr then w.drew else w).alloc (.cells (xs.flatten.toArray++rest) T)) G':=by
 have hnφ:w.heap.size∉G.φ:=fun hm=>by
  obtain⟨k,hk⟩:=List.getElem?_of_mem hm
  have:=h.store.lt hm
  omega
 have hh:(if dr then w.drew else w).heap=w.heap:=by cases dr<;>rfl
 have hold:∀ k,k<w.heap.size->((if dr then w.drew else w).alloc (.cells (xs.flatten.toArray++rest) T)).heap[k]?=w.heap[k]?:=fun k hk=>by
  rw [ê _ _ _ (by rw [hh];exact hk),hh]
 have hnew:((if dr then w.drew else w).alloc (.cells (xs.flatten.toArray++rest) T)).heap[w.heap.size]?=some (.cells (xs.flatten.toArray++rest) T (0,0)):=by
  have:=heap_alloc_new (if dr then w.drew else w) (.cells (xs.flatten.toArray++rest) T)
  rw [hh] at this;exact this
 have hΩ:∀ l,G.Ω w.heap.size≠some l:=fun l hl=>by have:=(h.store.ob w.heap.size (by rw [hl];simp)).1;omega
 have hfl:=Ei xs hrow
 refine h.ownP (b:=w.heap.size) (sz:=sz) (cap:=cap) (arr:=xs.flatten.toArray++rest) (T:=T) hnφ (.inl (à _)) (fun l hl=>absurd hl (hΩ l)) (fun l hl=>absurd hl (hΩ l)) (by cases dr<;>rfl) (by cases dr<;>rfl) (by cases dr<;>rfl) (by simp [hh]) (fun k hk _=>hold k hk) (fun i hu=>by have:=h.store.ub _ _ hu;omega) hnew hne hcap hrow ⟨?_,fun i hi=>?_,fun i hi j hj=>?_⟩
 . simp only [Array.size_append,List.size_toArray,hrest,hfl]
   rw [<- ó];congr 1;omega
 . have:(xs.flatten.toArray++rest).getD i Go.undef∈(xs.flatten.toArray++rest).toList:=by
    rw [É,ã hi];exact Array.mem_toList_iff.2 (Array.getElem_mem hi)
   rw [Array.toList_append,List.mem_append] at this
   rcases this with h3|h3
   . exact h1 _ (by simpa using h3)
   . exact h2 _ h3
 . have e:=FQ xs hrow i hi j hj
   have hlt:=(List.getElem?_eq_some_iff.1 e).1
   simp only [É]
   rw [ö (by simpa using hlt)]
   simp [e]
theorem RO {c:Call}(h:Inv w0 G0 st (fun t=>a.tmps.getD t Go.undef) w G)(hop:o.op=.call c)(he:OB P c st d=some (true,st')) :
 ∃ v w' G',(execOp a.eval o).run P w=.ok (.value v) w'/\Inv w0 G0 st' (GG (fun t=>a.tmps.getD t Go.undef) d v) w' G'/\∀ b∈G.φ,w'.heap[b]?=w.heap[b]?:=by
 obtain⟨callee,args,ats⟩:=c
 unfold OB at he
 simp only at he
 split at he
 . rename_i s y t t' hx ht
   have e1:args = #[.tmp s,y]:=by rw [<- ì (xs:=args),hx]
   have e2:ats = #[t,t']:=by rw [<- ì (xs:=ats),ht]
   subst e1;subst e2
   have hex:∀ {v w'},(Builtin.append_ #[t,t'] o.type #[a.eval (.tmp s),a.eval y]).run P w=.ok v w'->(execOp a.eval o).run P w=.ok (.value v) w':=by
    intro v w' hr
    unfold execOp
    rw [hop]
    simp [resolve,invoke,builtin,hr]
   split at he
   . rename_i sz bytes xs hap hg
     split at he
     . rename_i ys hys
       simp only [Â,È,Å,Î,ç,List.isEmpty_eq_false_iff] at he
       obtain⟨⟨hbound,hyne,hxall,hyall⟩,rfl⟩:=he
       obtain⟨e,i,z,hu,hi,hz,rfl,rfl,hzs,hpos,hzo⟩:=LO hap
       obtain⟨ys0,hsrc,hlit⟩:=Option.bind_eq_some_iff.1 hys
       obtain⟨hyl,hyr⟩:=Jf hlit
       have hy0:ys0.all (fun x=>x.length == i.size)=true:=by
        rw [Û] at hyall ⊢
        intro x hx
        obtain⟨k,hk,rfl⟩:=ø hx
        have:=hyall _ (Ú (show k<ys.length by omega))
        rw [ā] at this ⊢
        rw [<- this,(IH (hyr k hk (by omega))).1]
       obtain⟨vs,hfy,hsr⟩:=Jz h.env hsrc hpos hy0
       obtain⟨rfl,hyrow⟩:=N2 hlit hfy
       rw [<- hyl] at hsr
       have hxrow:∀ x∈xs,x.length=i.size:=by
        rw [Û] at hxall
        intro x hx;simpa using hxall x hx
       have hmul:(xs.length+ys.length)*i.bytes<=140737488355328/\(xs.length+ys.length)<=140737488355328:=Wu hbound
       have hT:BC w G (.tmp s) xs (a.tmps.getD s Go.undef):=by have:=h.env.tag s;rw [hg] at this;exact this
       have hinv:Inv w0 G0 (st.put (some s) .undef) (fun t=>a.tmps.getD t Go.undef) w G:=by
        have:=h.put s (p:=.undef) (.undef _ (a.tmps.getD s Go.undef)) trivial
        rwa [HC] at this
       have hrow2:∀ x∈xs++ys,x.length=i.size:=fun x hx=>(List.mem_append.1 hx).elim (hxrow x) (hyrow x)
       have hyl0:0<ys.length:=List.length_pos_iff.2 hyne
       have grow:∀ (base:Option Addr) (cap:Nat),a.tmps.getD s Go.undef=.slice base xs.length cap->(∀ u∈xs.flatten,u.oneCell'=true)->(Builtin.firstCells i.size xs.length (.slice base xs.length cap)).run P w.drew=.ok xs.flatten.toArray w.drew->cap<xs.length+ys.length ->
        ∃ v w' G',(execOp a.eval o).run P w=.ok (.value v) w'/\Inv w0 G0 ((st.put (some s) .undef).put (some d) (.prv (xs++ys))) (GG (fun t=>a.tmps.getD t Go.undef) d v) w' G'/\∀ b∈G.φ,w'.heap[b]?=w.heap[b]?:=by
        intro base cap hbx hone hold hlt
        have hr:=run_append_grow_src (P:=P) w t t' o.type e i z hu hi hz base xs.length cap xs.flatten hold (a.eval y) ys.length ys.flatten hsr hlt (by omega) (growslice_fits hlt (by omega))
        rw [<- hbx] at hr
        obtain⟨G',hG⟩:=hinv.newPrv (d:=d) (sz:=i.size) (xs:=xs++ys) (cap:=grownCap w (xs.length+ys.length) cap e) (rest:=Builtin.zeroCells z.cells (grownCap w (xs.length+ys.length) cap e-(xs.length+ys.length))) (T:=e) hrow2 (fun u hu=>by
         rw [List.flatten_append,List.mem_append] at hu
         exact hu.elim (hone u) (hfy.one u)) (by simp [hyne]) (by rw [size_zeroCells,hzs,Õ]) (fun u hu=>by
         simp only [Builtin.zeroCells,Array.toList_map,List.mem_map] at hu
         obtain⟨q,_,rfl⟩:=hu
         exact Pg _ _ hzo (Nat.mod_lt _ (by omega))) ⟨by rw [Õ];exact grownCap_ge _ _ _ _,by have:=grownCap_le_maxLen w (xs.length+ys.length) cap e (by unfold maxLen;omega);unfold maxLen at this;exact this⟩ true
        rw [Õ,List.flatten_append] at hG
        exact⟨_,_,G',hex hr,hG,fun b hb=>ê w.drew _ _ (h.store.lt hb)⟩
       rcases hT with⟨rfl,hnil⟩|⟨b,cap,sz',T,arr,h1,h2,⟨h8,h9⟩,h3,h4,h5,⟨h6,h10,h11⟩,h7⟩
       . exact grow none 0 hnil (by simp) (ī _ _ _ _ _) (by simpa using hyl0)
       . have hsz:sz'=i.size:=by
          have h0:0<xs.length:=List.length_pos_iff.2 h2
          rw [<- h3 _ (Ú h0)];exact hxrow _ (Ú h0)
         subst hsz
         have hfx:=Ei xs hxrow
         have hle:xs.length*i.size<=arr.size:=by rw [h6];exact ð _ h8
         have hcell:∀ q,q<xs.length*i.size->xs.flatten[q]?=arr[q]?:=fun q hq=>by
          have hqi:q / i.size<xs.length:=(Nat.div_lt_iff_lt_mul hpos).2 hq
          have hqj:q % i.size<(xs[q / i.size]).length:=by rw [hxrow _ (Ú hqi)];exact Nat.mod_lt _ hpos
          have e:q=q / i.size*i.size+q % i.size:=by rw [Nat.mul_comm,Nat.div_add_mod]
          have k1:=FQ xs hxrow _ hqi _ hqj
          have k2:=h11 _ hqi _ hqj
          rw [<- e] at k1 k2
          rw [k1,<- k2,ã (by omega)]
          simp [show q<arr.size by omega]
         have hone:∀ u∈xs.flatten,u.oneCell'=true:=fun u hu=>by
          obtain⟨q,hq,rfl⟩:=ø hu
          have k1:=hcell q (by omega)
          rw [Ã hq,ã (by omega)] at k1
          have k2:=h10 q (by omega)
          rw [Af k1]
          simpa [show q<arr.size by omega] using k2
         by_cases hroom:xs.length+ys.length<=cap
         . obtain⟨arr',k1,k2,k3,k4,k5,k6,k7,k8⟩:=CS b T ys.flatten (0+xs.length*i.size) w arr h5
           have hyf:=Ei ys hyrow
           have hfit:xs.length*i.size+ys.length*i.size<=arr.size:=by rw [h6,<- ó];exact ð _ hroom
           have hr:=run_append_room_src (P:=P) w t t' o.type e i hu hi b 0 xs.length cap (a.eval y) ys.length ys.flatten hsr hroom (fun j hj=>by
            have:xs.length*i.size+j<arr.size:=by omega
            simp [World.cell?,h5,this]) (fun j hj=>by simp only [World.frozen?,h5];simp)
           rw [<- h1] at hr
           have hbφ:=(hinv.store.ob b (by rw [h4];simp)).2
           have n1:∀ q,q<arr'.size->(arr'.getD q Go.undef).oneCell'=true:=fun q hq=>by
            rw [É,k3 q]
            split
            . rename_i hc
              have hlt:q-(0+xs.length*i.size)<ys.flatten.length:=by omega
              rw [Ã hlt]
              exact hfy.one _ (Ú hlt)
            . rw [<- É];exact h10 q (by omega)
           have n2:∀ q (hq:q<(xs++ys).length) j (hj:j<((xs++ys)[q]).length),arr'.getD (q*i.size+j) Go.undef=(xs++ys)[q][j]:=fun q hq j hj=>by
            have hj':j<i.size:=by rw [<- hrow2 _ (Ú hq)];exact hj
            have e0:=FQ (xs++ys) hrow2 q hq j hj
            have hlt:=Jy hq hj'
            rw [Õ,ó] at hlt
            rw [É,k3 (q*i.size+j)]
            rw [List.flatten_append] at e0
            by_cases hc:0+xs.length*i.size<=q*i.size+j
            . rw [Ç (by omega)]
              rw [â (by omega)] at e0
              rw [show q*i.size+j-(0+xs.length*i.size)=q*i.size+j-xs.flatten.length by omega,e0];rfl
            . rw [Ä (by omega)]
              rw [Ô (by omega),hcell _ (by omega)] at e0
              rw [e0];rfl
           obtain⟨G',hO⟩:=hinv.ownP (d:=d) (b:=b) (sz:=i.size) (cap:=cap) (xs:=xs++ys) (arr:=arr') (T:=T) (w':=w.setCells b (0+xs.length*i.size) ys.flatten) hbφ (.inr (by rw [h4];simp)) (fun l' hl' ys'=>by
            rw [h4] at hl'
            obtain rfl:=Af hl'
            rw [AU,BA,Ç rfl];simp) (fun l' hl' ys'=>by
            rw [h4] at hl'
            obtain rfl:=Af hl'
            rw [AU,BA,Ç rfl];simp) k6 k7 k8 (by rw [k5];exact à _) (fun k _ hk=>k4 k hk) h7 k1 (by simp [hyne]) ⟨by rw [Õ];exact hroom,h9⟩ hrow2 ⟨by rw [k2,h6],n1,n2⟩
           rw [Õ] at hO
           exact⟨_,_,_,hex hr,hO,fun b' hb=>k4 b' (fun e=>hbφ (e ▸ hb))⟩
         . exact grow _ cap h1 hone (Ī _ _ _ _ _ _ xs.flatten hfx (fun j u hj=>by
            have hq:=(List.getElem?_eq_some_iff.1 hj).1
            rw [hcell j (by omega)] at hj
            rw [addr_add]
            show w.cell? _=_
            simpa [World.cell?,h5] using hj)) (by omega)
     . cases he
   . cases he
 . cases he
theorem OA {t len:Nat}{parts:List (Nat×PV)}{vals:Array (Nat×Value)}(h:Inv w0 G0 st (fun t=>a.tmps.getD t Go.undef) w G)(hl:parts.length=vals.size)
 (hv:∀ (j:Nat) (p:Nat×PV) (v:Nat×Value),parts[j]?=some p->vals[j]?=some v->p.1=v.1/\V w G.U G.φ p.2 v.2) (he:K1 P t len parts st d=some (true,st')) :
 ∃ v w' G',(Instr.buildSlice t len vals).run P w=.ok v w'/\Inv w0 G0 st' (GG (fun t=>a.tmps.getD t Go.undef) d v) w' G'/\∀ b∈G.φ,w'.heap[b]?=w.heap[b]?:=by
 unfold K1 at he
 split at he
 . split at he
   . rename_i sz bytes xs hap hlit
     simp only [Â,È,Å,Î] at he
     obtain⟨⟨⟨hidx,hbig,h0⟩,hok⟩,rfl⟩:=he
     obtain⟨arr',e,hrun,hflat,hne,hlen,hpos⟩:=Rm hl hv hap hidx hbig hok h0
     obtain⟨e1,hrow⟩:=N2 hlit hflat
     have hxl:xs.length=len:=by rw [(Jf hlit).1,Í];exact hlen
     obtain⟨G',hG⟩:=h.newPrv (d:=d) (sz:=sz) (cap:=len) (xs:=xs) (rest:=#[]) (T:=e) hrow (fun u hu=>hflat.one u (by rw [e1];exact hu)) (by intro e;rw [e] at hxl;exact h0 hxl.symm) (by simp [hxl]) (by simp) ⟨by omega,ď (Nat.le_mul_of_pos_right len hpos) (ď hbig (by decide))⟩ false
     rw [<- e1,hxl] at hG
     simp only [è,Ā,Array.append_empty,ì] at hG
     exact⟨_,_,G',hrun,hG,fun b hb=>ê _ _ _ (h.store.lt hb)⟩
   . cases he
 . exact NG h hl hv he
theorem TC {t:TypeId}{x:Operand}(h:Inv w0 G0 st (fun t=>a.tmps.getD t Go.undef) w G)(he:LG P t st d x=some st') :
 ∃ v G',(∀ w',K4 w G (rdB (Cu st x)) w'->(Instr.loadAt t (a.eval x)).run P w'=.ok v w')/\(G'.U=G.U/\G'.φ=G.φ)/\Inv w0 G0 st' (GG (fun t=>a.tmps.getD t Go.undef) d v) w G':=by
 have hx:=B1 (a:=a) h.env x
 unfold LG at he
 split at he
 . rename_i b o hxp
   rw [hxp] at hx ⊢
   revert hx
   generalize a.eval x=xv
   intro hx
   cases hx with
   |ptr _ _ _ k hk =>
   split at he
   . rename_i cs ha hcs
     obtain⟨hcs,hnm⟩:=HM hcs
     split at he
     . rename_i xs hj
       obtain rfl:=Af he
       obtain⟨⟨o',arr,hh,⟨hlay,hsz⟩,hcell⟩,hnoU⟩:=h.store.blk b k cs hk hcs
       have hno:∀ p∈cs,p.isM=false:=by
        rcases hlay with hl2|⟨kvs,_,_,e,_⟩|⟨_,_,e,_⟩
        . exact hl2.2
        . exact absurd (hnm _ e) (by simp [PV.isM])
        . exact absurd (hnm _ e) (by simp [PV.isM])
       obtain⟨T,rfl⟩:=hlay.cells hnm
       obtain⟨u,hu,h1,h2,h3⟩:=hcell o _ hj
       have hjl:=(List.getElem?_eq_some_iff.1 hj).1
       have hcu:w.cell? ⟨k,o,none⟩=some u:=by simp only [World.cell?,hh];simpa using hu
       have hget:∀ i,(cs.set o PV.undef)[i]?=if i=o then some .undef else cs[i]?:=fun i=>by
        rw [List.getElem?_set]
        by_cases e:o=i
        . subst e;simp [hjl]
        . rw [Ä e,Ä (fun e2=>e e2.symm)]
       have hget2:∀ i c,(cs.set o PV.undef)[i]?=some c->∃ u,arr[i]?=some u/\u.oneCell'=true/\V w G.U G.φ c u/\Ck w G (.cell b i) c u:=by
        intro i c hi
        rw [hget i] at hi
        by_cases e:i=o
        . subst e
          rw [Ç rfl] at hi
          obtain rfl:=Af hi
          exact⟨u,hu,h1,.undef _ _,trivial⟩
        . rw [Ä e] at hi
          exact hcell i c hi
       have hI1:=h.setBlock (cs:=cs) (cs':=cs.set o .undef) hk hcs hh hh (fun kvs hm=>by
        rcases List.mem_or_eq_of_mem_set hm with h1|h1
        . exact hno kvs h1
        . rw [h1];rfl) (fun _ _=>rfl) rfl rfl rfl ⟨by simpa using hsz,fun i hi=>by
        obtain⟨u,h1,h2,h3,_⟩:=hget2 i _ (Ã hi)
        have:arr.getD i Go.undef=u:=by simp [h1]
        rw [this];exact⟨h3,h2⟩⟩ (fun i c hi=>by
        obtain⟨u,h1,h2,h3,h4⟩:=hget2 i c hi
        have:arr.getD i Go.undef=u:=by simp [h1]
        rw [this];exact h4) (fun t ys i hi=>by
        have ht:=h.env.tag t
        rw [hi] at ht
        obtain⟨cs2,b2,e1,e2,_,_⟩:=ht
        obtain rfl:=Af (hcs.symm.trans e1)
        have hne:i≠o:=by
         rintro rfl
         rw [hj] at e2;cases e2
        exact⟨by rw [hget i,Ä hne],rfl⟩)
       have hbl:=(List.getElem?_eq_some_iff.1 hcs).1
       have hcl:AU { st with σ:=st.σ.set b (cs.set o .undef) } (.cell b o)=.undef:=by
        simp [AU,List.getD,hbl,hjl]
       have hI2:=hI1.rel (.cell b o) (.tmp d) (fun ys e=>by rw [hcl] at e;cases e) (fun ys e=>by rw [hcl] at e;cases e)
       refine⟨u,G.rel (.cell b o) (.tmp d),fun w' hr=>I9 ha ((Č (w:=w) (hr.2 b rfl k hk)).trans hcu),⟨rfl,rfl⟩,?_⟩
       exact hI2.put d h2 (BC.to h3 rfl FU)
     . cases he
   . cases he
 . cases he
end
end Go.Vl
namespace Go.Vl
open Go Go.RowKit
def F7 (o:Oper):Nat :=
 match o.op with
 |.move _|.assign _|.extract _ _|.pick _ _ _|.build _ _|.nilCheck _|.binOp _ _ _ _ _|.unOp _ _ _|.makeFunc _ _ _|.slice _ _ _ _ _|.fieldAddr _ _ _|.field _ _ _|.indexAddr _ _ _|.index _ _ _=>0
 |.load _ _|.convert _ _ _=>1
 |.call c=>match c.callee with
  |.builtin .len=>0
  |.builtin .min=>0
  |.builtin .max=>0
  |_=>2
 |_=>2
def P4 (P:Program)(o:Oper)(st:St)(d:Nat):Option (Bool×St) :=
 match o.op with
 |.move x=>match WN st d x with
  |some st'=>some (true,st')
  |none=>(Mg st d x).map fun st'=>(true,st')
 |.assign x=>(LJ st d x).map fun st'=>(true,st')
 |.extract x i=>(Mh st d i x).map fun st'=>(true,st')
 |.load t x=>match LG P t st d x with
  |some st'=>some (true,st')
  |none=>(QU P o st).map fun r=>(r.1,st.put (some d) r.2)
 |_=>(QU P o st).map fun r=>(r.1,st.put (some d) r.2)
def Kx (P:Program)(o:Oper)(st:St):Option (Bool×St) :=
 match o.op,o.dst with
 |.alloc T,some d=>(P6 P T st d).map fun st'=>(true,st')
 |.box _ x,some d=>(XW st d x).map fun st'=>(true,st')
 |.buildSlice t len parts,some d=>K1 P t len (parts.toList.map fun x=>(x.1,Cu st x.2)) st d
 |.store T x y,none=>H7 P T st x y
 |.call c,some d=>match QX P c st d with
  |some r=>some r
  |none=>OB P c st d
 |.makeMap t r,some d=>O8 P t r st d
 |.mapUpdate t m k v,none=>ND P t m k v st
 |.insert t m k v,none=>ND P t m k v st
 |.lookup t m k ok,some d=>(NF P t m k ok st).map fun r=>(r.1,st.put (some d) r.2)
 |.range t x,some d=>T8 P t x st d
 |.entry x,some d=>P5 x st d
 |.makeInterface T x,some d=>(Mx (Cu st x)).map fun v=>(S9 P T,st.put (some d) (.lit (.iface T v)))
 |.typeAssert x _ T true,some d=>match Cu st x with
  |.lit (.iface t v)=>some (decide (t=T)&&S9 P T,st.put (some d) (.tup [Vc v,.lit (.bool true)]))
  |_=>none
 |_,_=>none
def Mz (o:Oper)(st:St):Option Value :=
 match o.op with
 |.panic x=>match Cu st x with
  |.lit (.iface t v)=>some (.iface t v)
  |_=>none
 |_=>none
def UY (o:Oper):Bool:=match o.op with|.panic _=>true|.next _ _=>true|.binOp .eql _ _ (.const (.slice none 0 0)) _=>true|_=>false
def RN (P:Program)(o:Oper)(st:St)(X:St->Prop):Prop :=
 match o.op,o.dst with
 |.next x false,some d=>match L6 st x with
  |some (k,kvs,seen)=>((∀ i,i<kvs.length->i∈seen)->X (st.put (some d) (.tup [.lit (.bool false)]))) /\
   ∀ i (h:i<kvs.length),i∉seen->X (({ st with σ:=st.σ.set k [.mit kvs (seen++[i])] }:St).put (some d) (.tup [.lit (.bool true),KY kvs[i].1,KY kvs[i].2]))
  |none=>False
 |.binOp .eql t x (.const (.slice none 0 0)) _,some d=>match Cu st x with
  |.sl [] _=>Wd P t=true/\X (st.put (some d) (.lit (.bool true)))/\X (st.put (some d) (.lit (.bool false)))
  |_=>False
 |_,_=>False
theorem YO {P:Program}{o:Oper}{st:St}{X X':St->Prop}(hX:∀ st,X st->X' st)(h:RN P o st X):RN P o st X':=by
 unfold RN at h ⊢
 split at h
 . split at h
   . exact⟨fun k=>hX _ (h.1 k),fun i hi hn=>hX _ (h.2 i hi hn)⟩
   . exact h
 . split at h
   . exact⟨h.1,hX _ h.2.1,hX _ h.2.2⟩
   . exact h
 . exact h
def HX (P:Program)(o:Oper)(st:St):Option (Bool×St) :=
 if F7 o=2 then Kx P o st else match o.dst with
  |some d=>P4 P o st d
  |none=>none
def Il (o:Oper):Bool:=match o.op with|.store _ _ _=>true|.mapUpdate _ _ _ _=>true|.insert _ _ _ _=>true|_=>false
def AH (a:Act)(t:Nat):Value:=a.tmps.getD t Go.undef
section
variable {w w' w0:World} {G G' G0:Gh} {P:Program} {p q:PV} {v u:Value} {st st':St} {a:Act} {o:Oper} {d:Nat}
theorem Bq (hd:d<a.tmps.size)(v:Value):AH (a.put (some d) v)=GG (AH a) d v:=by
 funext t
 show (a.tmps.setIfInBounds d v).getD t Go.undef=_
 unfold GG
 split
 . rename_i e;subst e;simp [hd]
 . rename_i e
   rw [É,Ģ e]
   simp [AH]
theorem Pl (h:Inv w0 G0 st (AH a) w G)(hd:d<a.tmps.size)(he:(QU P o st).map (fun r=>(r.1,st.put (some d) r.2))=some (true,st')) :
 ∃ v G',(∀ w',(F7 o=1->K4 w G (MJ o st) w')->(execOp a.eval o).run P w'=.ok (.value v) w')/\(G'.U=G.U/\G'.φ=G.φ)/\Inv w0 G0 st' (AH (a.put (some d) v)) w G':=by
 cases hm:QU P o st with
 |none=>rw [hm] at he;cases he
 |some r =>
  rw [hm] at he
  obtain⟨c,p⟩:=r
  simp only [ä,Â,È] at he
  obtain⟨rfl,rfl⟩:=he
  obtain⟨v,h1,h2,h3⟩:=YL (a:=a) h.store h.env hm
  refine⟨v,G,fun w' hr=>h3 w' (fun hrd=>hr ?_),⟨rfl,rfl⟩,?_⟩
  . grind [QC,F7]
  . rw [Bq hd]
    exact h.put d h1 (h2.tmp (Ly _ _ _) _ _)
theorem Ji (h:Inv w0 G0 st (AH a) w G)(hd:d<a.tmps.size)(ho:o.dst=some d)(he:P4 P o st d=some (true,st')) :
 ∃ v G',(∀ w',(F7 o=1->K4 w G (MJ o st) w')->(execOp a.eval o).run P w'=.ok (.value v) w')/\(G'.U=G.U/\G'.φ=G.φ)/\Inv w0 G0 st' (AH (a.put o.dst v)) w G':=by
 rw [ho]
 unfold P4 at he
 split at he
 . rename_i x hop
   have key:∀ st',(∃ G',(G'.U=G.U/\G'.φ=G.φ)/\Inv w0 G0 st' (GG (AH a) d (a.eval x)) w G')->∃ v G',(∀ w',(F7 o=1->K4 w G (MJ o st) w')->(execOp a.eval o).run P w'=.ok (.value v) w')/\(G'.U=G.U/\G'.φ=G.φ)/\Inv w0 G0 st' (AH (a.put (some d) v)) w G':=by
    rintro st' ⟨G',hsame,hG⟩
    refine⟨a.eval x,G',fun w' _=>by unfold execOp;rw [hop];rfl,hsame,?_⟩
    rw [Bq hd];exact hG
   split at he
   . rename_i st2 hm
     simp only [Â,È,õ] at he
     subst he
     exact key _ (WM h hm)
   . cases hm:Mg st d x with
     |none=>rw [hm] at he;cases he
     |some st2 =>
      rw [hm] at he
      simp only [ä,Â,È,õ] at he
      subst he
      exact key _ (RI h hm)
 . rename_i x hop
   cases hm:LJ st d x with
   |none=>rw [hm] at he;cases he
   |some st2 =>
    rw [hm] at he
    simp only [ä,Â,È,õ] at he
    subst he
    obtain⟨G',hsame,hG⟩:=TK h hm
    refine⟨a.eval x,G',fun w' _=>by unfold execOp;rw [hop];rfl,hsame,?_⟩
    rw [Bq hd];exact hG
 . rename_i x i hop
   cases hm:Mh st d i x with
   |none=>rw [hm] at he;cases he
   |some st2 =>
    rw [hm] at he
    simp only [ä,Â,È,õ] at he
    subst he
    obtain⟨v,G',hr,hsame,hG⟩:=RM (P:=P) h hm
    refine⟨v,G',fun w' _=>by unfold execOp;rw [hop];simp [hr],hsame,?_⟩
    rw [Bq hd];exact hG
 . rename_i t x hop
   split at he
   . rename_i st2 hm
     simp only [Â,È,õ] at he
     subst he
     obtain⟨v,G',hr,hsame,hG⟩:=TC h hm
     refine⟨v,G',fun w' hrd=>?_,hsame,?_⟩
     . have:=hr w' (by have:=hrd (by simp [F7,hop]);simpa [MJ,hop] using this)
       unfold execOp
       rw [hop]
       simp [this]
     . rw [Bq hd];exact hG
   . exact Pl h hd he
 . exact Pl h hd he
theorem Kw (h:Inv w0 G0 st (AH a) w G)(hd:∀ d,o.dst=some d->d<a.tmps.size)(he:Kx P o st=some (true,st')) :
 ∃ nx v w' G',(execOp a.eval o).run P w=.ok nx w'/\(nx=.value v∨(nx=.skip/\v=Go.undef))/\Inv w0 G0 st' (AH (a.put o.dst v)) w' G'/\(Il o=false->∀ b∈G.φ,w'.heap[b]?=w.heap[b]?):=by
 unfold Kx at he
 split at he
 . rename_i T d hop hdst
   cases hm:P6 P T st d with
   |none=>rw [hm] at he;cases he
   |some st2 =>
    rw [hm] at he
    simp only [ä,Â,È,õ] at he
    subst he
    obtain⟨v,w',G',h1,h2,hk⟩:=Vy h hm
    refine⟨_,v,w',G',by unfold execOp;rw [hop];simp only [Ñ,h1,Ê,Ö],.inl rfl,?_,fun _=>hk⟩
    rw [hdst,Bq (hd d hdst)];exact h2
 . rename_i T x d hop hdst
   cases hm:XW st d x with
   |none=>rw [hm] at he;cases he
   |some st2 =>
    rw [hm] at he
    simp only [ä,Â,È,õ] at he
    subst he
    obtain⟨v,w',G',h1,h2,hk⟩:=YP (P:=P) (T:=T) h hm
    refine⟨_,v,w',G',by unfold execOp;rw [hop];simp only [Ñ,h1,Ê,Ö],.inl rfl,?_,fun _=>hk⟩
    rw [hdst,Bq (hd d hdst)];exact h2
 . rename_i t len parts d hop hdst
   obtain⟨v,w',G',h1,h2,hk⟩:=OA (vals:=parts.map fun x=>(x.1,a.eval x.2)) h (by simp) (fun j p v hp hv=>by
    simp only [æ,ĉ] at hp
    simp only [Array.getElem?_map] at hv
    cases hj:parts[j]? with
    |none=>rw [hj] at hp;cases hp
    |some z =>
     rw [hj] at hp hv
     simp only [ä,Â] at hp hv
     subst hp;subst hv
     exact⟨rfl,B1 h.env _⟩) he
   refine⟨_,v,w',G',by unfold execOp;rw [hop];simp only [Ñ,h1,Ê,Ö],.inl rfl,?_,fun _=>hk⟩
   rw [hdst,Bq (hd d hdst)];exact h2
 . rename_i T x y hop hdst
   obtain⟨w',G',h1,h2,_⟩:=LF (a:=a) h he
   refine⟨.skip,Go.undef,w',G',by unfold execOp;rw [hop];simp only [Ñ,h1,Ê,Ö],.inr ⟨rfl,rfl⟩,?_,fun hs=>by simp [Il,hop] at hs⟩
   rw [hdst];exact h2
 . rename_i c d hop hdst
   split at he
   . rename_i r hr
     obtain rfl:=Af he
     obtain⟨v,w',G',h1,h2,hk⟩:=TL h hop hr
     refine⟨_,v,w',G',h1,.inl rfl,?_,fun _=>hk⟩
     rw [hdst,Bq (hd d hdst)];exact h2
   . obtain⟨v,w',G',h1,h2,hk⟩:=RO h hop he
     refine⟨_,v,w',G',h1,.inl rfl,?_,fun _=>hk⟩
     rw [hdst,Bq (hd d hdst)];exact h2
 . rename_i t r d hop hdst
   obtain⟨v,w',G',h1,h2,hk⟩:=RL (a:=a) h he
   refine⟨_,v,w',G',by unfold execOp;rw [hop];simp only [Ñ,h1,Ê,Ö],.inl rfl,?_,fun _=>hk⟩
   rw [hdst,Bq (hd d hdst)];exact h2
 . rename_i t m k x hop hdst
   obtain⟨w',G',h1,h2⟩:=NC (a:=a) h he
   refine⟨.skip,Go.undef,w',G',by unfold execOp;rw [hop];simp only [Ñ,h1,Ê,Ö],.inr ⟨rfl,rfl⟩,?_,fun hs=>by simp [Il,hop] at hs⟩
   rw [hdst];exact h2
 . rename_i t m k x hop hdst
   obtain⟨w',G',h1,h2⟩:=NC (a:=a) h he
   refine⟨.skip,Go.undef,w',G',by unfold execOp;rw [hop];simp only [Ñ,h1,Ê,Ö],.inr ⟨rfl,rfl⟩,?_,fun hs=>by simp [Il,hop] at hs⟩
   rw [hdst];exact h2
 . rename_i t m k ok d hop hdst
   obtain⟨⟨c,p⟩,hm,he2⟩:=Option.map_eq_some_iff.1 he
   simp only [È] at he2
   obtain⟨rfl,rfl⟩:=he2
   obtain⟨v,h1,h2,h3⟩:=TA (a:=a) h hm
   refine⟨_,v,w,G,by unfold execOp;rw [hop];simp only [Ñ,h1,Ê,Ö],.inl rfl,?_,fun _ _ _=>rfl⟩
   rw [hdst,Bq (hd d hdst)]
   refine h.put d h2 ?_
   rcases h3 with h3|⟨x,b,rfl⟩
   . exact E9 h3 _ _ _ _
   . intro i xs hi
     exfalso
     match i,hi with
     |0,hi =>
      have:Ge x=.sl xs .own:=by simpa using hi
      unfold Ge at this
      split at this<;>(try split at this)<;>cases this
     |1,hi=>cases hi
 . rename_i t x d hop hdst
   obtain⟨v,w',G',h1,h2,hk⟩:=Vs (a:=a) h he
   refine⟨_,v,w',G',by unfold execOp;rw [hop];simp only [Ñ,h1,Ê,Ö],.inl rfl,?_,fun _=>hk⟩
   rw [hdst,Bq (hd d hdst)];exact h2
 . rename_i x d hop hdst
   obtain⟨v,h1,h2⟩:=Vw (P:=P) (a:=a) h he
   refine⟨_,v,w,G,by unfold execOp;rw [hop];simp only [Ñ,h1,Ê,Ö],.inl rfl,?_,fun _ _ _=>rfl⟩
   rw [hdst,Bq (hd d hdst)];exact h2
 . rename_i T x d hop hdst
   obtain⟨v,hm,he2⟩:=Option.map_eq_some_iff.1 he
   simp only [È] at he2
   obtain⟨hc,rfl⟩:=he2
   have hx:=MO (B1 (a:=a) h.env x) hm
   refine⟨_,.iface T v,w,G,by unfold execOp;rw [hop];simp only [Ñ,hx,run_makeInterface hc,Ê,Ö],.inl rfl,?_,fun _ _ _=>rfl⟩
   rw [hdst,Bq (hd d hdst)]
   exact h.putPlain d (.lit _ _) rfl
 . rename_i x xt T d hop hdst
   split at he
   . rename_i t v hx
     simp only [Â,È,Å,Î] at he
     obtain⟨⟨rfl,hc⟩,rfl⟩:=he
     have hxv:=B1 (a:=a) h.env x
     rw [hx] at hxv
     have hxe:a.eval x=.iface t v:=by
      revert hxv;generalize a.eval x=z;intro hxv
      cases hxv;rfl
     refine⟨_,.tuple #[v,.bool true],w,G,by unfold execOp;rw [hop];simp only [Ñ,hxe,Qj hc,Ê,Ö],.inl rfl,?_,fun _ _ _=>rfl⟩
     rw [hdst,Bq (hd d hdst)]
     refine h.put d (.tup _ _ _ rfl (fun i hi=>?_)) ?_
     . match i,hi with
       |0,_=>exact Adc v
       |1,_=>exact .lit _ _
     . intro i xs hi
       exfalso
       match i,hi with
       |0,hi=>exact YE v xs (by simpa using hi)
       |1,hi=>cases hi
   . cases he
 . cases he
theorem ON {nx:Next}{w':World}{T:TypeId}{x y:Operand}(h:Inv w0 G0 st (AH a) w G)(hop:o.op=.store T x y)(he:Kx P o st=some (true,st'))(hr:(execOp a.eval o).run P w=.ok nx w'){k off kb:Nat}(hx:Cu st x=.ptr k off)(hk:G.φ[k]?=some kb){b:Nat}(hb:b≠kb):w'.heap[b]?=w.heap[b]?:=by
 unfold Kx at he
 rw [hop] at he
 cases hd:o.dst with
 |some d=>rw [hd] at he;cases he
 |none =>
  rw [hd] at he
  obtain⟨w2,G2,h1,_,h3⟩:=LF (a:=a) h he
  unfold execOp at hr
  rw [hop] at hr
  simp only [Ñ,h1,Ê,Ö] at hr
  cases hr
  exact h3 k off kb hx hk b hb
theorem JK (o:Oper):F7 o=0∨F7 o=1∨F7 o=2:=by
 unfold F7
 repeat' split
 all_goals simp
end
end Go.Vl
namespace Go.Vl
open Go Go.RowKit
def Jk (P:Program)(f:FuncId):Bool :=
 match P.funcs[f]? with
 |some fn=>fn.body.isSome&&(fn.name != "runtime.NumGoroutine")
 |none=>false
def EU (P:Program)(o:Oper)(st:St):Option (FuncId×List PV) :=
 match o.op with
 |.call c=>match c.callee with
  |.value f=>match Cu st f with
   |.fn f caps=>if Jk P f then some (f,c.args.toList.map (fun x=>Bg (Cu st x))++caps) else none
   |.fno true f caps=>if Jk P f then some (f,c.args.toList.map (fun x=>Bg (Cu st x))++caps) else none
   |.fnb f first=>if Jk P f then some (f,first++c.args.toList.map (fun x=>Bg (Cu st x))) else none
   |_=>none
  |_=>none
 |_=>none
def EN:PV->PV
 |.sl xs (.view (.cell _ _))=>.sl xs .shared
 |p=>p
def St.aft (st:St)(σ:List (List PV)):St:={ env:=st.env.map fun x=>(x.1,EN x.2),σ }
def Kg (keep:Nat->Bool):PV->PV
 |.sl xs (.view (.cell k j))=>if keep k=true then .sl xs (.view (.cell k j)) else .sl xs .shared
 |p=>p
def St.aftK (st:St)(keep:Nat->Bool)(σ:List (List PV)):St:={ env:=st.env.map fun x=>(x.1,Kg keep x.2),σ }
def Gh.inner (G:Gh):Gh:={ G with Ω:=fun b=>match G.Ω b with|some (.cell k j)=>some (.cell k j)|_=>none }
def Lw (tup:Bool)(d:Nat):Loc->Loc
 |.ret i=>if tup then .tcomp d i else .tmp d
 |l=>l
def QB:PV->Bool
 |.tup _=>true
 |_=>false
def Jq:Option Loc->Option Loc
 |some (.cell _ _)=>none
 |x=>x
def Gh.outer (G G':Gh)(tup:Bool)(d:Nat):Gh:={ G' with Ω:=fun b=>match G'.Ω b with|some l=>some (Lw tup d l)|none=>Jq (G.Ω b) }
section
variable {w w' w0:World} {G G' G0:Gh} {P:Program} {p q r:PV} {v u:Value} {st st':St} {a:Act} {o:Oper} {d:Nat} {σ σ':List (List PV)}
theorem JN {f:FuncId}(h:Jk P f=true)(vs:Array Value)(w:World):(callFunc f vs).run P w=.ok (.enter f vs) w:=by
 unfold Jk at h
 split at h
 . rename_i fn hf
   simp only [Å,bne_iff_ne] at h
   have h1:fn.body≠none:=by have:=h.1;intro e;rw [e] at this;cases this
   simp [callFunc,hf,h1,h.2]
 . cases h
theorem K0 {f:FuncId}{args:List PV}(h:Ib w G st (AH a))(he:EU P o st=some (f,args)) :
 ∃ vs:Array Value,vs.size=args.length/\(∀ i (hi:i<args.length),V w G.U G.φ args[i] (vs.getD i Go.undef))/\∀ w',(execOp a.eval o).run P w'=.ok (.enter f vs) w':=by
 unfold EU at he
 split at he
 . rename_i c hop
   obtain⟨callee,cargs,ats⟩:=c
   simp only at he
   split at he
   . rename_i fo
     have hv:=B1 (a:=a) h fo
     split at he
     . rename_i f' caps hf
       rw [hf] at hv
       split at he
       . rename_i hc
         simp only [Â,È] at he
         obtain⟨rfl,rfl⟩:=he
         obtain⟨arr,hz,hn,hcaps⟩:∃ arr:Array Value,a.eval fo=.func (.func f') #[] arr/\arr.size=caps.length/\∀ i (h:i<caps.length),V w G.U G.φ caps[i] (arr.getD i Go.undef):=by
          generalize hz:a.eval fo=z at hv
          cases hv with
          |fn _ _ _ arr hn hcaps=>exact⟨arr,rfl,hn,hcaps⟩
         refine⟨cargs.map a.eval++arr,by simp [hn],fun i hi=>?_,fun w'=>?_⟩
         . by_cases hlt:i<cargs.size
           . have e1:(cargs.toList.map (fun x=>Bg (Cu st x))++caps)[i]=Bg (Cu st cargs[i]):=by
              rw [Ċ (by simpa using hlt)];simp
             have e2:(cargs.map a.eval++arr).getD i Go.undef=a.eval cargs[i]:=by
              rw [É,ö (by simpa using hlt)];simp [hlt]
             rw [e1,e2];exact C2 (B1 h _)
           . have hi2:i-cargs.size<caps.length:=by simp at hi;omega
             have e1:(cargs.toList.map (fun x=>Bg (Cu st x))++caps)[i]=caps[i-cargs.size]:=by
              rw [đ (by simp;omega)];simp
             have e2:(cargs.map a.eval++arr).getD i Go.undef=arr.getD (i-cargs.size) Go.undef:=by
              rw [É,Array.getElem?_append_right (by simp;omega),É];simp
             rw [e1,e2];exact hcaps _ hi2
         . unfold execOp
           rw [hop]
           simp only [Ñ,resolve,hz,Deferred.ofValue,Ö,Ê,invoke]
           rw [JN hc];simp
       . cases he
     . rename_i f' caps hf
       rw [hf] at hv
       split at he
       . rename_i hc
         simp only [Â,È] at he
         obtain⟨rfl,rfl⟩:=he
         obtain⟨arr,hz,hn,hcaps⟩:∃ arr:Array Value,a.eval fo=.func (.func f') #[] arr/\arr.size=caps.length/\∀ i (h:i<caps.length),V w G.U G.φ caps[i] (arr.getD i Go.undef):=by
          generalize hz:a.eval fo=z at hv
          cases hv with
          |fno _ _ _ arr hn hcaps=>exact⟨arr,rfl,hn,fun i hi=>(hcaps i hi).mono (fun _ _ h=>⟨h,Kp.refl⟩) (fun k x hk=>by simp at hk)⟩
         refine⟨cargs.map a.eval++arr,by simp [hn],fun i hi=>?_,fun w'=>?_⟩
         . by_cases hlt:i<cargs.size
           . have e1:(cargs.toList.map (fun x=>Bg (Cu st x))++caps)[i]=Bg (Cu st cargs[i]):=by
              rw [Ċ (by simpa using hlt)];simp
             have e2:(cargs.map a.eval++arr).getD i Go.undef=a.eval cargs[i]:=by
              rw [É,ö (by simpa using hlt)];simp [hlt]
             rw [e1,e2];exact C2 (B1 h _)
           . have hi2:i-cargs.size<caps.length:=by simp at hi;omega
             have e1:(cargs.toList.map (fun x=>Bg (Cu st x))++caps)[i]=caps[i-cargs.size]:=by
              rw [đ (by simp;omega)];simp
             have e2:(cargs.map a.eval++arr).getD i Go.undef=arr.getD (i-cargs.size) Go.undef:=by
              rw [É,Array.getElem?_append_right (by simp;omega),É];simp
             rw [e1,e2];exact hcaps _ hi2
         . unfold execOp
           rw [hop]
           simp only [Ñ,resolve,hz,Deferred.ofValue,Ö,Ê,invoke]
           rw [JN hc];simp
       . cases he
     . rename_i f' first hf
       rw [hf] at hv
       split at he
       . rename_i hc
         simp only [Â,È] at he
         obtain⟨rfl,rfl⟩:=he
         obtain⟨arr,hz,hn,hcaps⟩:∃ arr:Array Value,a.eval fo=.func (.func f') arr #[]/\arr.size=first.length/\∀ i (h:i<first.length),V w G.U G.φ first[i] (arr.getD i Go.undef):=by
          generalize hz:a.eval fo=z at hv
          cases hv with
          |fnb _ _ _ arr hn hcaps=>exact⟨arr,rfl,hn,fun i hi=>(hcaps i hi).mono (fun _ _ h=>⟨h,Kp.refl⟩) (fun k x hk=>by simp at hk)⟩
         refine⟨arr++cargs.map a.eval,by simp [hn],fun i hi=>?_,fun w'=>?_⟩
         . by_cases hlt:i<first.length
           . have e1:(first++cargs.toList.map (fun x=>Bg (Cu st x)))[i]=first[i]:=Ċ hlt
             have e2:(arr++cargs.map a.eval).getD i Go.undef=arr.getD i Go.undef:=by
              rw [É,ö (by omega),É]
             rw [e1,e2];exact hcaps _ hlt
           . have hi2:i-first.length<cargs.size:=by simp at hi;omega
             have e1:(first++cargs.toList.map (fun x=>Bg (Cu st x)))[i]=Bg (Cu st cargs[i-first.length]):=by
              rw [đ (by omega)];simp
             have e2:(arr++cargs.map a.eval).getD i Go.undef=a.eval cargs[i-first.length]:=by
              rw [É,Array.getElem?_append_right (by omega)];simp [hn,hi2]
             rw [e1,e2];exact C2 (B1 h _)
         . unfold execOp
           rw [hop]
           simp only [Ñ,resolve,hz,Deferred.ofValue,Ö,Ê,invoke]
           rw [JN hc];simp
       . cases he
     . cases he
   . cases he
 . cases he
theorem Ks (st:St)(σ:List (List PV))(t:Nat):(st.aft σ).get t=EN (st.get t):=by
 show Cs (st.env.map fun x=>(x.1,EN x.2)) t=EN (Cs st.env t)
 generalize st.env=env
 induction env with
 |nil=>rfl
 |cons x r ih =>
  show (if x.1=t then EN x.2 else Cs (r.map fun x=>(x.1,EN x.2)) t)=EN (if x.1=t then x.2 else Cs r t)
  split
  . rfl
  . exact ih
theorem IJ {b k j:Nat}:G.inner.Ω b=some (.cell k j)↔G.Ω b=some (.cell k j):=by
 show (match G.Ω b with|some (.cell k j)=>some (Loc.cell k j)|_=>none)=_↔_
 split<;>simp_all
theorem MS {b:Nat}(h:G.Ω b=none):G.inner.Ω b=none:=by
 show (match G.Ω b with|some (.cell k j)=>some (Loc.cell k j)|_=>none)=none
 rw [h]
theorem Kr {b:Nat}(h:G.inner.Ω b≠none):G.Ω b≠none:=fun e=>h (MS e)
theorem Az.inner (h:Az w G σ):Az w G.inner σ:=by
 refine⟨h.len,h.nodup,fun k b cs h1 h2=>?_,h.ub,fun b hb=>h.ob b (Kr hb)⟩
 obtain⟨⟨T,arr,h3,h4,h5⟩,h6⟩:=h.blk k b cs h1 h2
 refine⟨⟨T,arr,h3,h4,fun j c hc=>?_⟩,h6⟩
 obtain⟨v,h7,h8,h9,h10⟩:=h5 j c hc
 refine⟨v,h7,h8,h9,?_⟩
 unfold Ck at h10 ⊢
 split
 . exact A0.to h10 rfl (fun b hb=>IJ.2 hb)
 . exact BC.to h10 rfl (fun b hb=>IJ.2 hb)
 . trivial
theorem Yk {b:Nat}(h:G.inner.Ω b=none):Jq (G.Ω b)=G.Ω b:=by
 cases e:G.Ω b with
 |none=>rfl
 |some l =>
  cases l with
  |cell k j=>rw [IJ.2 e] at h;cases h
  |_=>rfl
theorem QE {b:Nat}(h:Jq (G.Ω b)≠none):G.inner.Ω b=none/\G.Ω b≠none:=by
 cases e:G.Ω b with
 |none=>rw [e] at h;exact absurd rfl h
 |some l =>
  cases l with
  |cell k j=>rw [e] at h;exact absurd rfl h
  |_=>exact⟨by show (match G.Ω b with|some (.cell k j)=>some (Loc.cell k j)|_=>none)=none;rw [e],by simp⟩
theorem FO (G:Gh):∀ b l,G.inner.Ω b=some l->∃ k j,l=.cell k j:=by
 intro b l h
 have:(match G.Ω b with|some (.cell k j)=>some (Loc.cell k j)|_=>none)=some l:=h
 all_goals grind
theorem Inv.call {tup:Bool}(h:Inv w0 G0 st (AH a) w G)(hs:Az w' G' σ')(hx:Ext w G.inner w' G')(d:Nat) :
 Inv w0 G0 (st.aft σ') (AH a) w' (G.outer G' tup d):=by
 have hΩ:∀ b,G.inner.Ω b=none->b<w.heap.size->(G.outer G' tup d).Ω b=G.Ω b:=by
  intro b h1 h2
  show (match G'.Ω b with|some l=>some (Lw tup d l)|none=>Jq (G.Ω b))=G.Ω b
  cases e:G'.Ω b with
  |none=>exact Yk h1
  |some l =>
   rcases hx.newΩ b (by rw [e];simp) with h3|h3
   . omega
   . exact absurd h1 h3
 have hext:Ext w G w' (G.outer G' tup d):=by
  refine⟨hx.os,hx.tape,hx.output,hx.size,fun k h1 h2 h3=>hx.frame k h1 h2 (MS h3),hx.cells,fun b i hu=>?_,fun b hb=>?_,?_⟩
  . rcases hx.newU b i hu with h1|h1|h1
    . exact .inl h1
    . exact .inr (.inl h1)
    . exact .inr (.inr (Kr h1))
  . have hb:(match G'.Ω b with|some l=>some (Lw tup d l)|none=>Jq (G.Ω b))≠none:=hb
    cases e:G'.Ω b with
    |some l =>
     rcases hx.newΩ b (by rw [e];simp) with h1|h1
     . exact .inl h1
     . exact .inr (Kr h1)
    |none=>rw [e] at hb;exact .inr (QE hb).2
  . obtain⟨ψ,h1,h2⟩:=hx.phi
    exact⟨ψ,h1,fun b hb=>(h2 b hb).imp_right Kr⟩
 have ownK:∀ l xs v,(∀ k j,l≠.cell k j)->A0 w G l xs v->A0 w' (G.outer G' tup d) l xs v:=by
  intro l xs v hl ho
  refine ho.keep fun b hb=>?_
  have hin:G.inner.Ω b=none:=by
   cases e:G.inner.Ω b with
   |none=>rfl
   |some l' =>
    obtain⟨k,j,rfl⟩:=FO G b l' e
    rw [IJ] at e
    rw [hb] at e
    exact absurd (Af e) (hl k j)
  have hob:=h.store.ob b (by rw [hb];simp)
  refine⟨by rw [hΩ b hin hob.1];exact hb,hx.frame b hob.1 hob.2 hin,fun i hu=>?_⟩
  rcases hx.newU b i hu with h1|h1|h1
  . exact h1
  . omega
  . exact absurd hin h1
 have prvK:∀ l xs v,(∀ k j,l≠.cell k j)->BC w G l xs v->BC w' (G.outer G' tup d) l xs v:=by
  intro l xs v hl ho
  refine ho.keep fun b hb=>?_
  have hin:G.inner.Ω b=none:=by
   cases e:G.inner.Ω b with
   |none=>rfl
   |some l' =>
    obtain⟨k,j,rfl⟩:=FO G b l' e
    rw [IJ] at e
    rw [hb] at e
    exact absurd (Af e) (hl k j)
  have hob:=h.store.ob b (by rw [hb];simp)
  refine⟨by rw [hΩ b hin hob.1];exact hb,hx.frame b hob.1 hob.2 hin,fun i hu=>?_⟩
  rcases hx.newU b i hu with h1|h1|h1
  . exact h1
  . omega
  . exact absurd hin h1
 refine⟨h.ext.trans hext,?_,⟨fun t=>?_,fun t=>?_⟩⟩
 . refine⟨hs.len,hs.nodup,fun k b cs h1 h2=>?_,hs.ub,fun b hb=>?_⟩
   . obtain⟨⟨T,arr,h3,h4,h5⟩,h6⟩:=hs.blk k b cs h1 h2
     refine⟨⟨T,arr,h3,h4,fun j c hc=>?_⟩,h6⟩
     obtain⟨v,h7,h8,h9,h10⟩:=h5 j c hc
     refine⟨v,h7,h8,h9,?_⟩
     unfold Ck at h10 ⊢
     split
     . refine A0.to h10 rfl (fun b hb=>?_)
       show (match G'.Ω b with|some l=>some (Lw tup d l)|none=>Jq (G.Ω b))=_
       rw [hb];rfl
     . refine BC.to h10 rfl (fun b hb=>?_)
       show (match G'.Ω b with|some l=>some (Lw tup d l)|none=>Jq (G.Ω b))=_
       rw [hb];rfl
     . trivial
   . have h2:(match G'.Ω b with|some l=>some (Lw tup d l)|none=>Jq (G.Ω b))≠none:=hb
     cases e:G'.Ω b with
     |some l=>exact hs.ob b (by rw [e];simp)
     |none =>
      rw [e] at h2
      have h3:=h.store.ob b (QE h2).2
      refine⟨ò h3.1 hx.size,?_⟩
      obtain⟨ψ,hφ,hψ⟩:=hx.phi
      show b∉G'.φ
      rw [hφ]
      intro hm
      rcases List.mem_append.1 hm with hm|hm
      . exact h3.2 hm
      . rcases hψ b hm with h4|h4
        . omega
        . exact h4 (QE h2).1
 . rw [Ks]
   have hv:=hext.V (h.env.v t)
   revert hv
   generalize st.get t=q
   intro hv
   unfold EN
   split
   . exact hv.tag (by simp) (by simp)
   . exact hv
 . rw [Ks]
   have ht:=h.env.tag t
   revert ht
   generalize st.get t=q
   intro ht
   cases q with
   |prv xs=>exact prvK _ _ _ (by simp) ht
   |sl xs g =>
    cases g with
    |own=>exact ownK _ _ _ (by simp) ht
    |view m =>
     cases m with
     |tmp s=>exact⟨by rw [Ks,ht.1];rfl,ht.2⟩
     |cell k j=>trivial
     |_=>exact ht
    |_=>trivial
   |tup cs =>
    intro i xs hi
    obtain⟨arr,u,h1,h2,h3⟩:=ht i xs hi
    exact⟨arr,u,h1,h2,ownK _ _ _ (by simp) h3⟩
   |_=>trivial
theorem QJ (keep:Nat->Bool)(st:St)(σ:List (List PV))(t:Nat):(st.aftK keep σ).get t=Kg keep (st.get t):=by
 show Cs (st.env.map fun x=>(x.1,Kg keep x.2)) t=Kg keep (Cs st.env t)
 generalize st.env=env
 induction env with
 |nil=>rfl
 |cons x r ih =>
  show (if x.1=t then Kg keep x.2 else Cs (r.map fun x=>(x.1,Kg keep x.2)) t)=Kg keep (if x.1=t then x.2 else Cs r t)
  split
  . rfl
  . exact ih
theorem Inv.callK {tup:Bool}(h:Inv w0 G0 st (AH a) w G)(hs:Az w' G' σ')(hx:Ext w G.inner w' G')(d:Nat)(keep:Nat->Bool)
 (hk:∀ k b,keep k=true->G.φ[k]?=some b->σ'[k]?=st.σ[k]?/\w'.heap[b]?=w.heap[b]?):Inv w0 G0 (st.aftK keep σ') (AH a) w' (G.outer G' tup d):=by
 have h1:=h.call (tup:=tup) hs hx d
 refine⟨h1.ext,h1.store,⟨fun t=>?_,fun t=>?_⟩⟩
 . have hv:=h1.env.v t
   rw [Ks] at hv
   rw [QJ]
   revert hv
   generalize st.get t=q
   intro hv
   unfold Kg
   split
   . split
     . exact V.tag (g:=.shared) hv (by simp) (by simp)
     . exact hv
   . grind [EN]
 . have ht:=h1.env.tag t
   have ht0:=h.env.tag t
   rw [Ks] at ht
   rw [QJ]
   revert ht ht0
   generalize st.get t=q
   intro ht ht0
   cases q with
   |sl xs g =>
    cases g with
    |own=>exact ht
    |view m =>
     cases m with
     |tmp s =>
      obtain⟨e1,e2⟩:=ht0
      exact⟨by rw [QJ,e1];rfl,e2⟩
     |cell k j =>
      obtain⟨cs,b,e1,e2,e3,e4⟩:=ht0
      rw [show Kg keep (.sl xs (.view (.cell k j)))=(if keep k=true then PV.sl xs (.view (.cell k j)) else .sl xs .shared) from rfl]
      by_cases hkk:keep k=true
      . rw [Ç hkk]
        obtain⟨f1,f2⟩:=hk k b hkk e3
        refine⟨cs,b,by show σ'[k]?=_;rw [f1];exact e1,e2,?_,?_⟩
        . obtain⟨ψ,hφ,_⟩:=hx.phi
          show G'.φ[k]?=some b
          have hφ2:G'.φ=G.φ++ψ:=hφ
          rw [hφ2,Ô (List.getElem?_eq_some_iff.1 e3).1];exact e3
        . show w'.cell? ⟨b,j,none⟩=_
          rw [<- e4];unfold World.cell?;rw [f2]
      . rw [Ä hkk];trivial
     |_=>exact ht
    |_=>trivial
   |tup cs=>exact ht
   |_=>trivial
theorem Inv.putRet (h:Inv w0 G0 st (AH a) w' (G.outer G' (QB r) d))(hv:V w' G'.U G'.φ r v)(ht:Hg w' G' r v) :
 Inv w0 G0 (st.put (some d) r) (GG (AH a) d v) w' (G.outer G' (QB r) d):=by
 refine h.put d hv ?_
 cases r with
 |sl xs g =>
  cases g with
  |own =>
   exact A0.to (l:=.ret 0) ht rfl (fun b hb=>by
    show (match G'.Ω b with|some l=>some (Lw _ d l)|none=>Jq (G.Ω b))=_
    rw [hb];rfl)
  |view m=>exact ht.elim
  |_=>trivial
 |tup cs =>
  intro i xs hi
  obtain⟨arr,u,h1,h2,h3⟩:=ht i xs hi
  refine⟨arr,u,h1,h2,h3.to rfl (fun b hb=>?_)⟩
  show (match G'.Ω b with|some l=>some (Lw _ d l)|none=>Jq (G.Ω b))=_
  rw [hb];rfl
 |_=>trivial
end
end Go.Vl
namespace Go.Vl
open Go Go.RowKit
inductive AX where
 |normal
 |exit (id:Nat)
 |ret
 |pan (c:List PanicEntry)
def CG (ds:List Deferred)(w0:World)(G0:Gh)(n:Nat)(K:AX->St->Prop):Exit->Act->World->Prop
 |.normal,a,w=>a.tmps.size=n/\a.defers=ds/\∃ st G,K .normal st/\Inv w0 G0 st (AH a) w G
 |.exit id,a,w=>a.tmps.size=n/\a.defers=ds/\∃ st G,K (.exit id) st/\Inv w0 G0 st (AH a) w G
 |.ret,a,w=>a.tmps.size=n/\a.defers=ds/\∃ st G,K .ret st/\Inv w0 G0 st (AH a) w G
 |.panic c,a,w=>a.defers=ds/\∃ st G,K (.pan c) st/\Ext w0 G0 w G/\Az w G st.σ
 |_,_,_=>False
def CD (ops:Array Oper)(st:St)(o:Oper):Option Bool :=
 match o.guard with
 |none=>some true
 |some (j,want) =>
  match (ops[j]?).bind (·.dst) with
  |some d=>match st.get d with
   |.lit (.bool b)=>some (b == want)
   |.lit (.tuple _)=>some false
   |_=>none
  |none=>none
def B5 (P:Program)(ops:Array Oper)(K:AX->St->Prop):List Oper->St->Prop
 | [],st=>K .normal st
 |o::rest,st =>
  match CD ops st o with
  |none=>False
  |some false=>B5 P ops K rest (st.put o.dst (.lit (.tuple #[])))
  |some true =>
   match HX P o st with
   |some (c,st')=>c=true/\B5 P ops K rest st'
   |none =>
    match EU P o st with
    |some (f,args)=>VC P f args st.σ fun x σ'=>match x with
     |.ret r=>B5 P ops K rest ((st.aft σ').put o.dst r)
     |.pan c=>K (.pan c) { st with σ:=σ' }
    |none=>match Mz o st with
     |some v=>K (.pan [{ v,recovered:=false }]) st
     |none=>RN P o st fun st2=>B5 P ops K rest st2
section
variable {w w' w0:World} {G G' G0:Gh} {P:Program} {st st':St} {a:Act} {o:Oper} {n:Nat} {ops:Array Oper} {K:AX->St->Prop} {ds:List Deferred}
theorem D8 {b:Bool}(h:Ib w G st (AH a))(hg:CD ops st o=some b):Region.wanted o (yielded ops a.tmps)=b:=by
 unfold CD at hg
 unfold Region.wanted
 split at hg
 . rename_i hn;rw [hn];simpa using hg
 . rename_i j want hn
   rw [hn]
   split at hg
   . rename_i d hd
     split at hg
     . rename_i b' hb
       have hv:=h.v d
       rw [hb] at hv
       have ht:a.tmps.getD d Go.undef=.bool b':=by
        have:AH a d=.bool b':=by
         revert hv;generalize AH a d=z;intro hv
         cases hv with
         |lit _ _=>rfl
        exact this
       have hds:a.tmps[d]?=some (.bool b'):=by
        rw [É] at ht
        cases e:a.tmps[d]? with
        |none=>rw [e] at ht;cases ht
        |some z=>rw [e] at ht;rw [<- ht];rfl
       have hy:yielded ops a.tmps j=some b':=by
        unfold yielded
        rw [hd]
        simp [hds]
       simp only [hy]
       simp only [Â] at hg
       subst hg
       cases b'<;>cases want<;>rfl
     . rename_i u hb
       have hv:=h.v d
       rw [hb] at hv
       have ht:a.tmps.getD d Go.undef=.tuple u:=by
        have:AH a d=.tuple u:=by
         revert hv;generalize AH a d=z;intro hv
         cases hv with
         |lit _ _=>rfl
        exact this
       have hy:yielded ops a.tmps j=none:=by
        unfold yielded
        rw [hd]
        rw [É] at ht
        cases e:a.tmps[d]? with
        |none=>simp [e]
        |some z=>rw [e] at ht;obtain rfl:z=.tuple u:=ht;simp [e]
       simp only [hy]
       simp only [Â] at hg
       subst hg
       rfl
     . cases hg
   . cases hg
theorem B0 (a:Act)(d:Option Tmp)(v:Value):(a.put d v).tmps.size=a.tmps.size:=by cases d<;>simp [Act.put]
theorem put_defers (a:Act)(d:Option Tmp)(v:Value):(a.put d v).defers=a.defers:=by cases d<;>rfl
theorem Inv.skipPut {d:Option Tmp}(h:Inv w0 G0 st (AH a) w G)(hd:∀ x,d=some x->x<a.tmps.size):Inv w0 G0 (st.put d (.lit (.tuple #[]))) (AH (a.put d Go.undef)) w G:=by
 cases d with
 |none=>exact h
 |some x=>rw [Bq (hd x rfl)];exact h.putPlain x (.lit _ _) rfl
theorem T9 {next:Act->World->Prop}{Q:Exit->Act->World->Prop}(h:Inv w0 G0 st (AH a) w G)(hd:∀ d,o.dst=some d->d<a.tmps.size)(he:HX P o st=some (true,st'))
 (hn:∀ v w' G',Inv w0 G0 st' (AH (a.put o.dst v)) w' G'->next (a.put o.dst v) w'):o.wp P a w next Q:=by
 unfold HX at he
 unfold Oper.wp
 split at he
 . obtain⟨nx,v,w',G',h1,h2,h3,_⟩:=Kw h hd he
   rw [h1]
   rcases h2 with rfl|⟨rfl,rfl⟩
   . exact hn v w' G' h3
   . exact hn Go.undef w' G' h3
 . split at he
   . rename_i d hdst
     obtain⟨v,G',h1,_,h2⟩:=Ji h (hd d hdst) hdst he
     rw [h1 w (fun _=>(Reads.refl _ _).one _)]
     exact hn v w G' h2
   . cases he
theorem C8.inner (h:C8 w G):C8 w G.inner:=⟨h.1,fun b hb=>⟨(h.2 b hb).1,(h.2 b hb).2.1,MS (h.2 b hb).2.2⟩⟩
theorem O9 {f:FuncId}{args:List PV}{next:Act->World->Prop}{Q:Exit->Act->World->Prop}{KR:PV->List (List PV)->Prop}{KP:List PanicEntry->List (List PV)->Prop}
 (hgl:C8 w0 G0) (h:Inv w0 G0 st (AH a) w G) (hd:∀ d,o.dst=some d->d<a.tmps.size) (hdef:a.defers=ds) (he:EU P o st=some (f,args))
 (hc:VC P f args st.σ fun x σ'=>match x with|.ret r=>KR r σ'|.pan c=>KP c σ')
 (hn:∀ r σ' v w' G',KR r σ'->Inv w0 G0 ((st.aft σ').put o.dst r) (AH (a.put o.dst v)) w' G'->next (a.put o.dst v) w')
 (hp:∀ c σ' w' G',KP c σ'->a.defers=ds->Ext w0 G0 w' G'->Az w' G' σ'->Q (.panic c) a w'):o.wp P a w next Q:=by
 obtain⟨vs,h1,h2,h3⟩:=K0 h.env he
 unfold Oper.wp
 rw [h3 w]
 refine (hc w G.inner vs h.store.inner h1 h2 (FO G) (hgl.ext h.ext).inner).mono fun e w' hpost=>?_
 obtain⟨x,σ',G',hq,hend,hs,hx⟩:=hpost
 cases x with
 |ret r =>
  obtain⟨v,rfl,hv,ht⟩:=hend
  show next (a.put o.dst v) w'
  cases hdst:o.dst with
  |none =>
   have hI:=h.call (tup:=false) hs hx 0
   have:=hn r σ' v w' _ hq (by rw [hdst];exact hI)
   rw [hdst] at this;exact this
  |some d =>
   have hI:=(h.call (tup:=QB r) hs hx d).putRet hv ht
   have:=hn r σ' v w' _ hq (by rw [hdst,Bq (hd d hdst)];exact hI)
   rw [hdst] at this;exact this
 |pan c =>
  obtain rfl:e=.panicked c:=hend
  have hI:=h.call (tup:=false) hs hx 0
  exact hp c σ' w' _ hq hdef hI.ext hI.store
theorem O7 {v:Value}(h:Ib w G st (AH a))(he:Mz o st=some v)(w1:World):(execOp a.eval o).run P w1=.halt (.panic v) w1:=by
 unfold Mz at he
 split at he
 . rename_i x hop
   have hx:=B1 (a:=a) h x
   split at he
   . rename_i t u hu
     rw [hu] at hx
     simp only [Â] at he
     subst he
     have hxe:a.eval x=.iface t u:=by
      revert hx;generalize a.eval x=z;intro hx
      cases hx;rfl
     unfold execOp
     rw [hop]
     simp only [Ñ,hxe,Instr.panic]
     rfl
   . cases he
 . cases he
theorem TJ {X:St->Prop}{next:Act->World->Prop}{Q:Exit->Act->World->Prop}(h:Inv w0 G0 st (AH a) w G)(hd:∀ d,o.dst=some d->d<a.tmps.size)(he:RN P o st X)
 (hn:∀ st' v w' G',Inv w0 G0 st' (AH (a.put o.dst v)) w' G'->X st'->next (a.put o.dst v) w'):o.wp P a w next Q:=by
 unfold RN at he
 split at he
 . rename_i x d hop hdst
   split at he
   . rename_i k kvs seen hit
     unfold Oper.wp
     rcases ZG (P:=P) (d:=d) o.type h hit with⟨k1,k2,k3⟩|⟨i,hl,w',k1,k2,k3⟩
     . have e:(execOp a.eval o).run P w=.ok (.value (.tuple #[.bool false])) w:=by unfold execOp;rw [hop];simp only [Ñ,k2,Ê,Ö]
       rw [e]
       exact hn _ _ w G (by rw [hdst,Bq (hd d hdst)];exact k3) (he.1 k1)
     . have e:(execOp a.eval o).run P w=.ok (.value (.tuple #[.bool true,kvs[i].1,kvs[i].2])) w':=by unfold execOp;rw [hop];simp only [Ñ,k2,Ê,Ö]
       rw [e]
       exact hn _ _ w' G (by rw [hdst,Bq (hd d hdst)];exact k3) (he.2 i hl k1)
   . exact he.elim
 . rename_i t x q d hop hdst
   have hv:=B1 (a:=a) h.env x
   split at he
   . rename_i g hx
     rw [hx] at hv
     obtain⟨A,n,c,hA⟩:∃ A n c,a.eval x=.slice A n c:=by
      revert hv
      generalize a.eval x=z
      intro hv
      cases hv<;>exact⟨_,_,_,rfl⟩
     have hB:a.eval (.const (.slice none 0 0))=.slice none 0 0:=rfl
     obtain⟨ht,h1,h2⟩:=he
     unfold Wd at ht
     split at ht
     . rename_i e hs
       have h0:∃ b,(binOp .eql t (.slice A n c) (.slice none 0 0)).run P w=.ok (.bool b) w:=⟨_,Lib.run_eql_slice_nil w t e A n c 0 0 hs⟩
       have hr:∃ b,(execOp a.eval o).run P w=.ok (.value (.bool b)) w:=by
        obtain⟨b,h0⟩:=h0
        refine⟨b,?_⟩
        unfold execOp
        rw [hop]
        simp only [Ñ,hA,hB]
        rw [show (eqGuard .eql t x (.const (.slice none 0 0)) (.slice A n c) (.slice none 0 0)).run P w=.ok () w by rw [eqGuard_at_slice];rfl]
        simp only [Ê]
        rw [h0]
        rfl
       obtain⟨b,hb⟩:=hr
       unfold Oper.wp
       rw [hb]
       refine hn (st.put (some d) (.lit (.bool b))) _ w G ?_ (by cases b<;>assumption)
       rw [hdst,Bq (hd d hdst)]
       exact h.put d (.lit _ _) trivial
     . cases ht
   . exact he.elim
 . exact he.elim
theorem EI (hgl:C8 w0 G0):∀ (l:List Oper) (st:St) (a:Act) (w:World) (G:Gh),Inv w0 G0 st (AH a) w G->a.defers=ds->a.tmps.size=n->(∀ o∈l,∀ d,o.dst=some d->d<n)->B5 P ops K l st ->
 wpList P ops (CG ds w0 G0 n K) l a w
 | [],st,a,w,G,h,hdef,hsz,_,he=>⟨hsz,hdef,st,G,he,h⟩
 |o::rest,st,a,w,G,h,hdef,hsz,hd,he=>by
  have hdo:∀ d,o.dst=some d->d<a.tmps.size:=fun d hdd=>by rw [hsz];exact hd o (by simp) d hdd
  have hdr:∀ o∈rest,∀ d,o.dst=some d->d<n:=fun o ho=>hd o (by simp [ho])
  unfold B5 at he
  unfold wpList
  split at he
  . exact he.elim
  . rename_i hg
    rw [D8 h.env hg]
    simp only [è,Ā]
    exact EI hgl rest _ _ w G (h.skipPut hdo) (by rw [put_defers];exact hdef) (by rw [B0];exact hsz) hdr he
  . rename_i hg
    rw [D8 h.env hg]
    simp only [ù]
    left
    split at he
    . rename_i c st2 hop
      obtain⟨rfl,he2⟩:=he
      exact T9 h hdo hop (fun v w' G' hI=>EI hgl rest _ _ w' G' hI (by rw [put_defers];exact hdef) (by rw [B0];exact hsz) hdr he2)
    . split at he
      . rename_i f args hcall
        exact O9 (KR:=fun r σ'=>B5 P ops K rest ((st.aft σ').put o.dst r)) (KP:=fun c σ'=>K (.pan c) { st with σ:=σ' }) hgl h hdo hdef hcall he
         (fun r σ' v w' G' hK hI=>EI hgl rest _ _ w' G' hI (by rw [put_defers];exact hdef) (by rw [B0];exact hsz) hdr hK)
         (fun c σ' w' G' hK hdf hE hS=>⟨hdf,_,G',hK,hE,hS⟩)
      . split at he
        . rename_i v hpan
          unfold Oper.wp
          rw [O7 h.env hpan w]
          exact⟨hdef,st,G,he,h.ext,h.store⟩
        . exact TJ h hdo he fun st2 v w' G' hI hX=>EI hgl rest _ _ w' G' hI (by rw [put_defers];exact hdef) (by rw [B0];exact hsz) hdr hX
end
end Go.Vl
namespace Go.Vl
open Go Go.RowKit Go.Q
def FZ (r:Option Nat):Fence:={ Fence.wide with round:=r }
def JC (o:Oper):Bool:=match o.op with|.defer _=>false|_=>true
theorem RG {o:Oper}(h:JC o=true)(c):o.op≠.defer c:=by
 intro e;unfold JC at h;rw [e] at h;cases h
def Dh:Code->Bool
 |.region _ ops _=>ops.toList.all JC
 |.seq a b=>Dh a&&Dh b
 |.cond _ a b=>Dh a&&Dh b
 |.block _ b=>Dh b
 |.loop b=>Dh b
 |_=>true
section
variable {P:Program} {ops:Array Oper} {Q Q':Exit->Act->World->Prop} {a:Act} {w:World} {r:Option Nat} {n:Nat}
theorem RC {m m':Machine}:StepsIn (Machine.fenced P (FZ r)) P m m'↔Steps P m m':=stepsIn_wide
theorem M0 {f:FuncId}{args:Array Value}{R:Ending->World->Prop}(h:Calls P f args w R):CallsIn (FZ r) n P f args w R:=(callsIn_wide (n:=n)).2 h
theorem Td {row:String}{args:Array Value}{R:Value->World->Prop}(h:Rows P row args w R):RowsIn (FZ r) n P row args w R :=
 fun c cs _=>let ⟨v,w',k,s⟩:=h c cs;⟨v,w',k,RC.2 s⟩
theorem La:(FZ r).depth.isSome=true->1<=n:=fun h=>by simp [FZ,Fence.wide] at h
theorem PI {o:Oper}{K:Act->World->Prop}(hd:JC o=true)(h:o.wp P a w K Q):o.wpIn (FZ r) n P a w K Q:=by
 refine⟨fun _ _=>trivial,?_⟩
 rw [Oper.semAt_eq _ _ _ (RG hd)]
 unfold Oper.wp at h
 generalize (execOp a.eval o).run P w=z at h
 cases z with
 |ok x w' =>
  cases x with
  |value v=>exact h
  |skip=>exact h
  |defer d=>exact h
  |enter f args=>exact⟨La,M0 h⟩
  |row row args=>exact⟨La,Td h⟩
  |_=>exact h.elim
 |halt x w' =>
  cases x<;>exact h
theorem OK (hQ:¬ LetsOut Q):∀ (l:List Oper) (a:Act) (w:World),(∀ o∈l,JC o=true)->wpList P ops Q l a w->wpListIn (FZ r) n P ops Q l a w
 | [],_,_,_,h=>h
 |o::rest,a,w,hd,h=>by
  unfold wpList at h
  unfold wpListIn
  have ih:=fun a w=>OK hQ rest a w (fun o ho=>hd o (by simp [ho]))
  split
  . rename_i hw
    rw [Ç hw] at h
    rcases h with h|h
    . exact PI (hd o (by simp)) (Oper.wp_mono (fun a w h=>ih a w h) h)
    . exact absurd h.2 hQ
  . rename_i hw
    rw [Ä hw] at h
    exact⟨fun _ _=>trivial,ih _ _ h⟩
theorem PL (hQ:¬ LetsOut Q)(hd:∀ o∈ops.toList,JC o=true){md:Region.Mode}:∀ (fuel:Nat) (listed:Array Bool) (a:Act) (w:World),wpAny P md ops Q fuel listed a w->wpAnyIn (FZ r) n P md ops Q fuel listed a w
 |0,_,_,_,h=>h
 |fuel+1,listed,a,w,h=>by
  refine⟨h.1,fun i hi=>?_⟩
  have h:=h.2 i hi
  unfold wpOp at h
  unfold wpOpIn
  have ih:=fun a w=>PL hQ hd (md:=md) fuel (listed.setIfInBounds i true) a w
  split
  . rename_i ho
    rw [ho] at h
    exact ih _ _ h
  . rename_i o ho
    rw [ho] at h
    simp only at h
    split
    . rename_i hw
      rw [Ç hw] at h
      rcases h with h|h
      . exact PI (hd o (by have:=Ò (l:=ops.toList) (i:=i) (a:=o) (by simpa using ho);exact this)) (Oper.wp_mono (fun a w h=>ih a w h) h)
      . exact absurd h.2 hQ
    . rename_i hw
      rw [Ä hw] at h
      exact⟨fun _ _=>trivial,ih _ _ h⟩
def RW (P:Program)(c:Code)(Q:Exit->Act->World->Prop)(a:Act)(w:World):Prop:=∀ r:Option Nat,(r≠none->Dh c=true/\¬ LetsOut Q)->c.wpIn (FZ r) 0 P Q a w
theorem RW.mono {c:Code}(h:RW P c Q a w)(hq:∀ e a w,Q e a w->Q' e a w):RW P c Q' a w :=
 fun r hr=>wpIn_mono (h r fun hn=>⟨(hr hn).1,fun ⟨a,w,k⟩=>(hr hn).2 ⟨a,w,hq _ _ _ k⟩⟩) hq
theorem X9 {id:Nat}(h:wpList P ops Q ops.toList a w):RW P (Code.region id ops false) Q a w:=by
 intro r hr
 cases r with
 |none=>exact (wpIn_wide (n:=0)).2 (wp_region_list h)
 |some l =>
  obtain⟨h1,h2⟩:=hr (by simp)
  exact wpIn_region_list (OK h2 _ _ _ (by simp only [Dh,Û] at h1;exact h1) h)
theorem rw_any {id:Nat}(hm:P.follows .mixedOrders=true)(h:wpAny P .any ops Q ops.size (Array.replicate ops.size false) a { w with drawn:=w.drawn+1 }):RW P (Code.region id ops true) Q a w:=by
 intro r hr
 cases r with
 |none=>exact (wpIn_wide (n:=0)).2 (wp_region_any hm h)
 |some l =>
  obtain⟨h1,h2⟩:=hr (by simp)
  exact wpIn_region_any hm (PL h2 (by simp only [Dh,Û] at h1;exact h1) _ _ _ _ h)
theorem Qi {id:Nat}{l:List Oper}(c t:List Nat)(S:World->Prop)(hm:P.follows .mixedOrders=true)(hsel:Region.noSelect l.toArray=true)
 (hlen:t.length=l.length) (hok:ZD l.toArray c t (Array.replicate l.toArray.size false)=true) (hQ:∀ c d v a w,Q (.panic c) (a.put d v) w->Q (.panic c) a w)
 (hS:S w.drew) (h:K6 P l.toArray Q S c t a w.drew):RW P (Code.region id l.toArray true) Q a w:=by
 refine rw_any hm ?_
 rw [show l.toArray.size=t.length by simp [hlen]]
 refine PJ _ _ _ _ (JP (S:=S) (c:=c) hsel hQ t _ a _ ?_ (fun _=>hS) ?_ h)
 . intro j oj _ hl
   rw [getD_replicate_false] at hl
   cases hl
 . rw [show t.length=l.toArray.size by simp [hlen]];exact hok
theorem R4 {F:Fence}{c:Code}(X:Nat->Act->World->Prop){m:Nat}(h₀:X m a w)
 (round:∀ m a w,X m a w->c.wpIn F n P (Exit.then (fun a' w'=>∃ m',m'<m/\X m' a' w') Q) a w):(Code.loop c).wpIn F n P Q a w:=by
 intro b k cs hro hb hr
 have key:∀ m a w,X m a w->∃ e a' w',Q e a' w'/\ArrivesIn (Machine.fenced P F) P (lone (b.atR a (.code c::.inLoop c::k)) cs w) b k cs e a' w':=by
  intro m
  induction m using Nat.strongRecOn with
  |_ m ih =>
   intro a w hI
   obtain⟨e,a₁,w₁,hq,harr⟩:=round m a w hI b (.inLoop c::k) cs hro hb hr
   cases e with
   |normal =>
    obtain⟨m',hlt,hI₁⟩:=hq
    obtain⟨e₂,a₂,w₂,hq₂,harr₂⟩:=ih m' hlt a₁ w₁ hI₁
    exact⟨e₂,a₂,w₂,hq₂,.of_steps (StepsIn.trans harr (.one (fenced_calm hb hr rfl) stepR_inLoop)) harr₂⟩
   |exit id=>exact⟨_,a₁,w₁,hq,.pass (x:=.inLoop c) rfl (fun _ _=>.inl (by simp)) harr⟩
   |goto l=>exact⟨_,a₁,w₁,hq,.pass (x:=.inLoop c) rfl (fun _ _=>.inl (by simp)) harr⟩
   |ret=>exact⟨_,a₁,w₁,hq,.pass (x:=.inLoop c) rfl (fun _ _=>.inl (by simp)) harr⟩
   |panic ch=>exact⟨_,a₁,w₁,hq,.pass (x:=.inLoop c) rfl (fun _ _=>.inl (by simp)) harr⟩
   |outgrown=>exact⟨_,a₁,w₁,hq,.pass (x:=.inLoop c) rfl (fun _ _=>.inl (by simp)) harr⟩
 obtain⟨e,a',w',hq,harr⟩:=key m a w h₀
 exact⟨e,a',w',hq,.of_steps (.one (fenced_calm hb hr rfl) stepR_loop) harr⟩
end
end Go.Vl
