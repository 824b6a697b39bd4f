/-
  Blocks written; blocks that are appended to. No program. Variables made and stored into. No program. Slices made and appended to. No program. Slices written out. No program. One operation. No program. Calls. No program. Statements: operations in the order of the text. No program.
-/
import Derived.MapKept
import Derived.Maps.RangeRun
import Derived.Deep.AppendSrc
import Derived.Test.YtkcfmlfkfagejaaGreatDoorU2
set_option linter.unusedVariables false
set_option linter.unusedSimpArgs false
namespace Go.Vl
open Go Go.RowKit
def stripC (k o n:Nat):PV->PV
 |.sl xs (.view (.cell k' j))=>if k'=k/\o<=j/\j<o+n then .sl xs .shared else .sl xs (.view (.cell k' j))
 |p=>p
def St.stripC (st:St)(k o n:Nat):St:={ st with env:=st.env.map fun x=>(x.1,Vl.stripC k o n x.2) }
section
variable {w w' w0:World} {G G' G0:Gh} {P:Program} {p q:PV} {v u:Value} {st:St} {tm:Nat->Value}
theorem Hz (st:St)(k o n t:Nat):(st.stripC k o n).get t=stripC k o n (st.get t):=by
 show E4 (st.env.map fun x=>(x.1,Vl.stripC k o n x.2)) t=stripC k o n (E4 st.env t)
 generalize st.env=env
 induction env with
 |nil=>rfl
 |cons x r ih =>
  show (if x.1=t then stripC k o n x.2 else E4 (r.map fun x=>(x.1,Vl.stripC k o n x.2)) t)=stripC k o n (if x.1=t then x.2 else E4 r t)
  split
  . rfl
  . exact ih
theorem Wz {k o n:Nat}{xs:List (List PV)}:stripC k o n p=.sl xs .own↔p=.sl xs .own:=by
 unfold stripC
 split
 . split<;>simp
 . rfl
theorem Inv.stripC (h:Inv w0 G0 st tm w G)(k o n:Nat):Inv w0 G0 (st.stripC k o n) tm w G:=by
 refine⟨h.ext,h.store,⟨fun t=>?_,fun t=>?_⟩⟩
 . rw [Hz]
   have hv:=h.env.v t
   revert hv
   generalize st.get t=q
   intro hv
   unfold Vl.stripC
   split
   . split
     . exact hv.tag (by simp) (by simp)
     . exact hv
   . exact hv
 . rw [Hz]
   have ht:=h.env.tag t
   revert ht
   generalize st.get t=q
   intro ht
   unfold Vl.stripC
   split
   . rename_i xs k' j
     split
     . trivial
     . exact ht
   . rename_i hno
     cases q with
     |sl xs g =>
      cases g with
      |view l =>
       cases l with
       |tmp s=>exact⟨by rw [Hz];exact Wz.2 ht.1,ht.2⟩
       |cell k' j=>exact absurd rfl (hno xs k' j)
       |_=>exact ht
      |_=>exact ht
     |_=>exact ht
theorem AB.keep {l:Loc}{xs:List (List PV)}(h:AB w G l xs v)(hk:∀ b,G.Ω b=some l->G'.Ω b=some l/\w'.heap[b]?=w.heap[b]?/\∀ i,G'.U b i->G.U b i):AB w' G' l xs v:=by
 rcases h with h|⟨b,cap,sz,T,arr,h1,h2,h3,h4,h5,h6,h7⟩
 . exact .inl h
 . obtain⟨k1,k2,k3⟩:=hk b h4
   exact .inr ⟨b,cap,sz,T,arr,h1,h2,h3,k1,k2.trans h5,h6,fun i hi=>h7 i (k3 i hi)⟩
theorem Inv.setObj {k b:Nat}{cs cs':List PV}{arr':Array Value}{o o':Obj}(h:Inv w0 G0 st tm w G)(hk:G.φ[k]?=some b)(hcs:st.σ[k]?=some cs)(hb:w.heap[b]?=some o)
 (hb':w'.heap[b]?=some o') (hlay:Lay w G.U o' arr' cs') (hold:∀ i,i≠b->w'.heap[i]?=w.heap[i]?) (hos:w'.os=w.os) (htp:w'.tape=w.tape) (hout:w'.output=w.output)
 (hc:E9 w G cs' arr') (ht:∀ j c,cs'[j]?=some c->Df w G (.cell k j) c (arr'.getD j Go.undef))
 (hvw:∀ t xs j v,st.get t=.sl xs (.view (.cell k j))->cs[j]?=some (.sl xs .own)->w.cell? ⟨b,j,none⟩=some v->cs'[j]?=some (.sl xs .own)/\w'.cell? ⟨b,j,none⟩=some v) :
 Inv w0 G0 { st with σ:=st.σ.set k cs' } tm w' G:=by
 have hkl:k<st.σ.length:=(List.getElem?_eq_some_iff.1 hcs).1
 have hbφ:b∈G.φ:=Þ hk
 have hsz:w'.heap.size=w.heap.size:=by
  have h1:b<w'.heap.size:=(Array.getElem?_eq_some_iff.1 hb').1
  have h2:b<w.heap.size:=(Array.getElem?_eq_some_iff.1 hb).1
  rcases Nat.lt_trichotomy w'.heap.size w.heap.size with h3|h3|h3
  . have h4:=hold w'.heap.size (by omega)
    rw [Array.getElem?_eq_none (by omega),ý (by omega)] at h4;cases h4
  . exact h3
  . have h4:=hold w.heap.size (by omega)
    rw [Array.getElem?_eq_none (xs:=w.heap) (by omega),ý (by omega)] at h4;cases h4
 have hcell:∀ b' i,G.U b' i->G.U b' i/\Kp w w' b' i:=fun b' i hu=>by
  refine⟨hu,Kp.of (hold b' ?_)⟩
  rintro rfl
  exact (h.store.blk k b' cs hk hcs).noU i hu
 have ownK:∀ l xs v,AB w G l xs v->AB w' G l xs v:=fun l xs v ho=>ho.keep fun b2 hb2=>⟨hb2,hold b2 (by rintro rfl;exact (h.store.ob b2 (by rw [hb2];simp)).2 hbφ),fun i hi=>hi⟩
 have tagK:∀ l c v,Df w G l c v->Df w' G l c v:=by
  intro l c v ht
  unfold Df at ht ⊢
  split
  . exact ownK _ _ _ ht
  . trivial
 have hnd:=h.store.nodup
 refine⟨?_,?_,?_⟩
 . refine h.ext.trans ⟨hos,htp,hout,by omega,fun i _ h1 _=>hold i (by rintro rfl;exact h1 hbφ),hcell,fun b i hu=>.inl hu,fun b hb=>.inr hb,[],by simp,by simp⟩
 . refine⟨by simp [h.store.len],hnd,fun k2 b2 cs2 h1 h2=>?_,fun b i hu=>by rw [hsz];exact h.store.ub b i hu,fun b hb=>by rw [hsz];exact h.store.ob b hb⟩
   by_cases e:k2=k
   . subst e
     rw [hk] at h1
     obtain rfl:=Ac h1
     rw [ī hkl] at h2
     obtain rfl:=Ac h2
     refine⟨⟨o',arr',hb',⟨hlay.mono hcell,hc.size⟩,fun j c hj=>?_⟩,(h.store.blk k2 b cs hk hcs).noU⟩
     have hjl:=List.getElem?_eq_some_iff.1 hj
     obtain⟨h3,h4⟩:=hc.v j hjl.1
     rw [hjl.2] at h3
     have hja:j<arr'.size:=by rw [hc.size];exact hjl.1
     exact⟨arr'.getD j Go.undef,by simp [hja],h4,h3.mono hcell (fun _ _ h=>h),tagK _ _ _ (ht j c hj)⟩
   . rw [List.getElem?_set_ne (fun e2=>e e2.symm)] at h2
     have hne:b2≠b:=by
      grind [List.getElem?_eq_some_iff,List.getElem_inj]
     obtain⟨⟨T2,arr2,h3,h4,h5⟩,h6⟩:=h.store.blk k2 b2 cs2 h1 h2
     refine⟨⟨T2,arr2,(hold b2 hne).trans h3,⟨h4.1.mono hcell,h4.2⟩,fun j c hj=>?_⟩,h6⟩
     obtain⟨v,h7,h8,h9,h10⟩:=h5 j c hj
     exact⟨v,h7,h8,h9.mono hcell (fun _ _ h=>h),tagK _ _ _ h10⟩
 . refine⟨fun t=>(h.env.v t).mono hcell (fun _ _ h=>h),fun t=>?_⟩
   have ht':=h.env.tag t
   have hvt:=hvw t
   show Gj _ _ _ _ _ (st.get t) _
   revert ht' hvt
   generalize st.get t=q
   intro ht' hvt
   cases q with
   |sl xs g =>
    cases g with
    |own=>exact ownK _ _ _ ht'
    |view m =>
     cases m with
     |tmp s=>exact ht'
     |cell k2 j =>
      obtain⟨cs2,b2,h1,h2,h3,h4⟩:=ht'
      by_cases e:k2=k
      . subst e
        rw [hk] at h3
        obtain rfl:=Ac h3
        rw [hcs] at h1
        obtain rfl:=Ac h1
        obtain⟨e1,e2⟩:=hvt xs j _ rfl h2 h4
        exact⟨cs',b,ī hkl,e1,hk,e2⟩
      . have hne:b2≠b:=by
         rintro rfl
         have h5:=(List.getElem?_eq_some_iff.1 h3)
         have h6:=(List.getElem?_eq_some_iff.1 hk)
         exact e ((List.getElem_inj hnd).1 (h5.2.trans h6.2.symm))
        refine⟨cs2,b2,?_,h2,h3,?_⟩
        . grind [Df]
        . rw [Ĥ (w:=w) (hold b2 hne)];exact h4
     |_=>exact ht'
    |_=>trivial
   |tup cs2 =>
    intro i xs hi
    obtain⟨arr2,u,h1,h2,h3⟩:=ht' i xs hi
    exact⟨arr2,u,h1,h2,ownK _ _ _ h3⟩
   |_=>trivial
theorem Inv.setBlock {k b:Nat}{cs cs':List PV}{arr arr':Array Value}{T:TypeId}(h:Inv w0 G0 st tm w G)(hk:G.φ[k]?=some b)(hcs:st.σ[k]?=some cs)(hb:w.heap[b]?=some (.cells arr T (0,0)))
 (hb':w'.heap[b]?=some (.cells arr' T (0,0))) (hm:∀ p∈cs',p.isM=false) (hold:∀ i,i≠b->w'.heap[i]?=w.heap[i]?) (hos:w'.os=w.os) (htp:w'.tape=w.tape) (hout:w'.output=w.output)
 (hc:E9 w G cs' arr') (ht:∀ j c,cs'[j]?=some c->Df w G (.cell k j) c (arr'.getD j Go.undef))
 (hvw:∀ t xs j,st.get t=.sl xs (.view (.cell k j))->cs'[j]?=cs[j]?/\arr'[j]?=arr[j]?) :
 Inv w0 G0 { st with σ:=st.σ.set k cs' } tm w' G:=by
 refine h.setObj hk hcs hb hb' (.inl ⟨⟨T,rfl⟩,hm⟩) hold hos htp hout hc ht fun t xs j v h1 h2 h4=>?_
 obtain⟨e1,e2⟩:=hvw t xs j h1
 refine⟨by rw [e1];exact h2,?_⟩
 simp only [World.cell?,hb] at h4
 simp only [World.cell?,hb']
 simpa [e2] using h4
theorem Inv.own {b d sz cap:Nat}{xs:List (List PV)}{arr:Array Value}{T:TypeId}(h:Inv w0 G0 st tm w G)(hb:b∉G.φ)(hfree:w.heap.size<=b∨G.Ω b≠none)
 (hno:∀ l,G.Ω b=some l->∀ ys,Gr st l≠.sl ys .own) (hos:w'.os=w.os) (htp:w'.tape=w.tape) (hout:w'.output=w.output) (hsize:w.heap.size<=w'.heap.size)
 (hold:∀ k,k<w.heap.size->k≠b->w'.heap[k]?=w.heap[k]?) (hU:∀ i,G.U b i->Kp w w' b i/\i<xs.length*sz)
 (hb':w'.heap[b]?=some (.cells arr T (0,0))) (hsz:arr.size=cap*sz) (hne:xs≠[]) (hrow:∀ x∈xs,x.length=sz) (hcap:xs.length<=cap) (hcap2:cap<=9223372036854775807)
 (hv:∀ i (hi:i<xs.length) j (hj:j<(xs[i]).length),V w G.U [] xs[i][j] (arr.getD (i*sz+j) Go.undef)/\(arr.getD (i*sz+j) Go.undef).oneCell'=true) :
 Inv w0 G0 (st.put (some d) (.sl xs .own)) (H6 tm d (.slice (some ⟨b,0,none⟩) xs.length cap)) w' { U:=fun b' i=>G.U b' i∨(b'=b/\i<xs.length*sz),φ:=G.φ,Ω:=fun b'=>if b'=b then some (.tmp d) else G.Ω b' }:=by
 have hcell:∀ b' i,G.U b' i->(G.U b' i∨(b'=b/\i<xs.length*sz))/\Kp w w' b' i:=fun b' i hu=>by
  refine⟨.inl hu,?_⟩
  by_cases e:b'=b
  . subst e;exact (hU i hu).1
  . exact Kp.of (hold b' (h.store.ub b' i hu) e)
 have hne2:∀ b2 l ys,G.Ω b2=some l->Gr st l=.sl ys .own->b2≠b:=by
  rintro b2 l ys h1 h2 rfl;exact hno l h1 ys h2
 have ownK:∀ l ys v,Gr st l=.sl ys .own->AB w G l ys v->AB w' { U:=fun b' i=>G.U b' i∨(b'=b/\i<xs.length*sz),φ:=G.φ,Ω:=fun b'=>if b'=b then some (.tmp d) else G.Ω b' } l ys v:=by
  intro l ys v hcl ho
  refine ho.keep fun b2 hb2=>?_
  have hn:=hne2 b2 l ys hb2 hcl
  refine⟨by show (if b2=b then _ else _)=_;rw [È hn];exact hb2,hold b2 (h.store.ob b2 (by rw [hb2];simp)).1 hn,fun i hi=>?_⟩
  rcases hi with hi|hi
  . exact hi
  . exact absurd hi.1 hn
 have hφlt:∀ (k x:Nat),G.φ[k]?=some x->x<w.heap.size/\x≠b:=by
  intro k x hk
  have hkl:k<st.σ.length:=by rw [<- h.store.len];exact (List.getElem?_eq_some_iff.1 hk).1
  obtain⟨⟨T2,arr2,h3,_⟩,_⟩:=h.store.blk k x _ hk (Ë hkl)
  exact⟨(Array.getElem?_eq_some_iff.1 h3).1,by rintro rfl;exact hb (Þ hk)⟩
 have hext:Ext w G w' { U:=fun b' i=>G.U b' i∨(b'=b/\i<xs.length*sz),φ:=G.φ,Ω:=fun b'=>if b'=b then some (.tmp d) else G.Ω b' }:=by
  refine⟨hos,htp,hout,hsize,fun k hk h1 h2=>hold k hk ?_,hcell,fun b' i hu=>?_,fun b' hb2=>?_,[],by simp,by simp⟩
  . rintro rfl
    rcases hfree with h3|h3
    . omega
    . exact h3 h2
  . rcases hu with hu|⟨rfl,_⟩
    . exact .inl hu
    . exact .inr hfree
  . grind [Df]
 refine⟨h.ext.trans hext,?_,?_⟩
 . rw [N9]
   refine⟨h.store.len,h.store.nodup,fun k x cs h1 h2=>?_,fun b' i hu=>?_,fun b' hb2=>?_⟩
   . obtain⟨hx1,hx2⟩:=hφlt k x h1
     obtain⟨⟨T2,arr2,h3,h4,h5⟩,h6⟩:=h.store.blk k x cs h1 h2
     refine⟨⟨T2,arr2,(hold x hx1 hx2).trans h3,⟨h4.1.mono hcell,h4.2⟩,fun j c hj=>?_⟩,fun i hu=>?_⟩
     . obtain⟨v,h7,h8,h9,h10⟩:=h5 j c hj
       refine⟨v,h7,h8,h9.mono hcell (fun _ _ h=>h),?_⟩
       unfold Df at h10 ⊢
       split
       . exact ownK _ _ _ (by simp [Gr,List.getD,h2,hj]) h10
       . trivial
     . rcases hu with hu|hu
       . exact h6 i hu
       . exact hx2 hu.1
   . rcases hu with hu|⟨rfl,_⟩
     . exact Đ (h.store.ub b' i hu) hsize
     . exact (Array.getElem?_eq_some_iff.1 hb').1
   . by_cases e:b'=b
     . subst e;exact⟨(Array.getElem?_eq_some_iff.1 hb').1,hb⟩
     . have:(if b'=b then some (.tmp d) else G.Ω b')≠none:=hb2
       rw [È e] at this
       have:=h.store.ob b' this
       exact⟨Đ this.1 hsize,this.2⟩
 . have henv:KO w' { U:=fun b' i=>G.U b' i∨(b'=b/\i<xs.length*sz),φ:=G.φ,Ω:=fun b'=>if b'=b then some (.tmp d) else G.Ω b' } st tm:=by
    refine⟨fun t=>(h.env.v t).mono hcell (fun _ _ h=>h),fun t=>?_⟩
    have ht':=h.env.tag t
    have hclm:∀ ys,st.get t=.sl ys .own->Gr st (.tmp t)=.sl ys .own:=fun ys e=>e
    have hclt:∀ cs i ys,st.get t=.tup cs->cs[i]?=some (.sl ys .own)->Gr st (.tcomp t i)=.sl ys .own:=fun cs i ys e e2=>by simp [Gr,e,List.getD,e2]
    revert ht' hclm hclt
    generalize st.get t=q
    intro ht' hclm hclt
    cases q with
    |sl ys g =>
     cases g with
     |own=>exact ownK _ _ _ (hclm ys rfl) ht'
     |view m =>
      cases m with
      |tmp s=>exact ht'
      |cell k j =>
       obtain⟨cs,x,h1,h2,h3,h4⟩:=ht'
       obtain⟨hx1,hx2⟩:=hφlt k x h3
       exact⟨cs,x,h1,h2,h3,by rw [Ĥ (w:=w) (hold x hx1 hx2)];exact h4⟩
      |_=>exact ht'
     |_=>trivial
    |tup cs =>
     intro i ys hi
     obtain⟨arr2,u,h1,h2,h3⟩:=ht' i ys hi
     exact⟨arr2,u,h1,h2,ownK _ _ _ (hclt cs i ys rfl hi) h3⟩
    |_=>trivial
   have hbnd:∀ i j,i<xs.length->j<sz->i*sz+j<xs.length*sz:=by
    intro i j hi hj
    calc i*sz+j<i*sz+sz:=by omega
     _=(i+1)*sz:=by rw [þ,Nat.one_mul]
     _<=xs.length*sz:=Ĉ _ hi
   have hle:xs.length*sz<=arr.size:=by rw [hsz];exact Ĉ _ hcap
   refine henv.put d ?_ ?_
   . refine .sl _ _ _ b 0 sz cap (fun i j=>arr.getD (i*sz+j) Go.undef) hcap hcap2 (fun i hi=>hrow _ (Ú hi)) (fun i j hi hj=>.inr ⟨rfl,by have:=hbnd i j hi hj;omega⟩) (fun i j hi hj=>?_) (fun i j hi hj=>?_) (fun i hi j hj=>?_) (by simp) (by simp)
     . have:=hbnd i j hi hj
       simp only [World.cell?,hb',ă]
       have h5:i*sz+j<arr.size:=by omega
       simp [h5]
     . have h6:=hrow _ (Ú hi)
       exact (hv i hi j (by rw [h6];exact hj)).2
     . exact (hv i hi j hj).1.mono hcell (fun _ _ h=>h)
   . exact .inr ⟨b,cap,sz,T,arr,rfl,hne,hrow,Ê rfl,hb',hsz,fun i hi=>by
      rcases hi with hi|hi
      . exact (hU i hi).2
      . exact hi.2⟩
end
end Go.Vl
namespace Go.Vl
open Go Go.RowKit
section
variable {w w' w0:World} {G G' G0:Gh} {P:Program} {p q:PV} {v u:Value} {st st':St} {a:Act} {o:Oper} {d:Nat}
theorem DM (b:Nat)(T:TypeId):∀ (vs:List Value) (o:Nat) (w:World) (arr:Array Value),w.heap[b]?=some (.cells arr T (0,0)) ->
 ∃ arr',(w.setCells b o vs).heap[b]?=some (.cells arr' T (0,0))/\arr'.size=arr.size/\(∀ i,arr'[i]?=if o<=i/\i<o+vs.length/\i<arr.size then vs[i-o]? else arr[i]?) /\
  (∀ i,i≠b->(w.setCells b o vs).heap[i]?=w.heap[i]?)/\(w.setCells b o vs).heap.size=w.heap.size/\(w.setCells b o vs).os=w.os/\(w.setCells b o vs).tape=w.tape/\(w.setCells b o vs).output=w.output
 | [],o,w,arr,h=>⟨arr,h,rfl,fun i=>by rw [È (by simp;omega)],fun _ _=>rfl,rfl,rfl,rfl,rfl⟩
 |x::vs,o,w,arr,h=>by
  have h1:=Go.Q.heap_setCell_same w b o x arr T h
  obtain⟨arr',k1,k2,k3,k4,k5,k6,k7,k8⟩:=DM b T vs (o+1) _ _ h1
  refine⟨arr',k1,by rw [k2];simp,fun i=>?_,fun i hi=>(k4 i hi).trans (Below.heap_setCell _ _ _ _ hi),by rw [World.setCells,k5];simp [World.setCell],by rw [World.setCells,k6];rfl,by rw [World.setCells,k7];rfl,by rw [World.setCells,k8];rfl⟩
  rw [k3 i]
  simp only [Array.size_setIfInBounds,Æ]
  by_cases e:i=o
  . subst e
    rw [È (by omega)]
    by_cases hs:i<arr.size
    . rw [Ê (by omega)];simp [hs]
    . rw [È (by omega)];simp [hs]
  . by_cases hc:o+1<=i/\i<o+1+vs.length/\i<arr.size
    . rw [Ê hc,Ê (by omega)]
      have:i-o=(i-(o+1))+1:=by omega
      rw [this,List.getElem?_cons_succ]
    . rw [È hc,È (by omega),ĥ (fun e2=>e e2.symm)]
theorem PL (T:TypeId)(arr:Array Value)(w:World):(newRow T arr).run P w=.ok ⟨w.heap.size,0,none⟩ (w.alloc (.cells arr T)):=by
 simp only [newRow,Ô,run_newObj,Ì,Ù];rfl
def zeroV (P:Program)(T:TypeId):Option (List PV):=(U1 P T).map fun z=>z.map Hv
def PS (P:Program)(T:TypeId)(st:St)(d:Nat):Option St :=
 (zeroV P T).map fun z=>({ st with σ:=st.σ++[z] }:St).put (some d) (.ptr st.σ.length 0)
theorem AN.lt {σ:List (List PV)}(h:AN w G σ){b:Nat}(hb:b∈G.φ):b<w.heap.size:=by
 obtain⟨k,hk,rfl⟩:=Č hb
 have hk2:k<σ.length:=by rw [<- h.len];exact hk
 obtain⟨⟨T,arr,h3,_⟩,_⟩:=h.blk k _ _ (Ë hk) (Ë hk2)
 all_goals grind
theorem VZ {T:TypeId}(h:Inv w0 G0 st (fun t=>a.tmps.getD t Go.undef) w G)(he:PS P T st d=some st') :
 ∃ v w' G',(Instr.alloc T true (.tuple #[])).run P w=.ok v w'/\Inv w0 G0 st' (H6 (fun t=>a.tmps.getD t Go.undef) d v) w' G'/\∀ b∈G.φ,w'.heap[b]?=w.heap[b]?:=by
 unfold PS zeroV at he
 cases hz:U1 P T with
 |none=>rw [hz] at he;cases he
 |some z =>
  rw [hz] at he
  obtain rfl:=Ac he
  obtain⟨zv,hz1,hz2⟩:=PY (w:=w) (G:=G) hz
  have hc:E9 w G (z.map Hv) zv.cells:=⟨by rw [hz2.size];simp,fun i hi=>by
   have hi':i<z.length:=by simpa using hi
   simp only [ï]
   exact⟨RC (hz2.v i hi').1,(hz2.v i hi').2⟩⟩
  obtain⟨h1,h2⟩:=h.newBlock (T:=T) (O1 z) hc (fun j c hj=>by
   rw [â] at hj
   cases hzj:z[j]? with
   |none=>rw [hzj] at hj;cases hj
   |some y =>
    rw [hzj] at hj
    obtain rfl:=Ac hj
    have hjl:=List.getElem?_eq_some_iff.1 hzj
    have:=(hz2.v j hjl.1).1
    rw [hjl.2] at this
    exact Nc this _)
  refine⟨.pointer (some ⟨w.heap.size,0,none⟩),w.alloc (.cells zv.cells T),_,?_,h1.putPlain d (.ptr _ _ _ _ h2) rfl,?_⟩
  . simp only [Instr.alloc,Ô,PX hz1,Ì,newVar,PL,Ù]
  . exact fun b hb=>ô _ _ _ (h.store.lt hb)
def Nb (st:St):Operand->Option (Nat×List (List PV))
 |.tmp s=>match st.get s with|.sl xs .own=>some (s,xs)|_=>none
 |_=>none
theorem Pg {x:Operand}{s:Nat}{xs:List (List PV)}(h:Nb st x=some (s,xs)):x=.tmp s/\st.get s=.sl xs .own:=by
 unfold Nb at h
 all_goals grind [Nb]
theorem Px (h:(IM p||OB p)=true):IM p=true∨∃ cs,p=.agg cs:=by
 rw [õ] at h
 rcases h with h|h
 . exact .inl h
 . cases p with
   |agg cs=>exact .inr ⟨cs,rfl⟩
   |_=>cases h
theorem Sv {xs:List (List PV)}{g:Grow}{φ:List Nat}{U:Nat->Nat->Prop}(h:V w U φ (.sl xs g) v):v.cells = #[v]:=by
 cases h<;>rfl
def Yv (st:St)(d:Nat)(x:Operand):Option St :=
 match Nb st x with
 |some (s,xs)=>some (({ (st.put (some s) (.sl xs .shared)) with σ:=st.σ++[[.sl xs .own]] }:St).put (some d) (.ptr st.σ.length 0))
 |none=>if IM (Dh st x)||OB (Dh st x) then some (({ st with σ:=st.σ++[(CN (Dh st x)).map Hv] }:St).put (some d) (.ptr st.σ.length 0)) else none
theorem Zn {T:TypeId}{x:Operand}(h:Inv w0 G0 st (fun t=>a.tmps.getD t Go.undef) w G)(he:Yv st d x=some st') :
 ∃ v w' G',(Instr.box T (a.eval x)).run P w=.ok v w'/\Inv w0 G0 st' (H6 (fun t=>a.tmps.getD t Go.undef) d v) w' G'/\∀ b∈G.φ,w'.heap[b]?=w.heap[b]?:=by
 have run:∀ v:Value,(Instr.box T v).run P w=.ok (.pointer (some ⟨w.heap.size,0,none⟩)) (w.alloc (.cells v.cells T)):=fun v=>by
  simp only [Instr.box,Ô,newVar,PL,Ì,Ù]
 have hv:=BO (a:=a) h.env x
 unfold Yv at he
 split at he
 . rename_i s xs hot
   obtain⟨rfl,hg'⟩:=Pg hot
   obtain rfl:=Ac he
   have hO:AB w G (.tmp s) xs (a.tmps.getD s Go.undef):=by have:=h.env.tag s;rw [hg'] at this;exact this
   have hg:Dh st (.tmp s)=.sl xs .own:=hg'
   rw [hg] at hv
   have h1:=(h.share hg').rel (.tmp s) (.cell st.σ.length 0) (fun ys e=>by rw [Gr,DS,Ê rfl] at e;cases e)
   have hc:E9 w (G.rel (.tmp s) (.cell st.σ.length 0)) [.sl xs .own] (a.eval (.tmp s)).cells:=by
    have:=hv.cells (.inl rfl)
    exact⟨this.1,fun i hi=>this.2 i hi⟩
   have hcells:=Sv hv
   obtain⟨h2,h3⟩:=h1.newBlock (T:=T) (cs:=[.sl xs .own]) (by simp [PV.isM]) hc (fun j c hj=>by
    have hj':=List.getElem?_eq_some_iff.1 hj
    have hj0:j=0:=by have:=hj'.1;simp at this;exact this
    subst hj0
    obtain rfl:PV.sl xs .own=c:=by simpa using hj
    rw [hcells,N9]
    exact hO.to rfl Iy)
   rw [N9] at h2 h3
   exact⟨_,_,_,run _,h2.putPlain d (.ptr _ _ _ _ h3) rfl,fun b hb=>ô _ _ _ (h.store.lt hb)⟩
 . split at he
   . rename_i hp
     obtain rfl:=Ac he
     have hcl:=hv.cells (Px hp)
     have hc:E9 w G ((CN (Dh st x)).map Hv) (a.eval x).cells:=⟨by rw [hcl.1];simp,fun i hi=>by
      have hi':i<(CN (Dh st x)).length:=by simpa using hi
      simp only [ï]
      exact⟨RC (hcl.2 i hi').1,(hcl.2 i hi').2⟩⟩
     obtain⟨h2,h3⟩:=h.newBlock (T:=T) (O1 _) hc (fun j c hj=>by
      rw [â] at hj
      cases hzj:(CN (Dh st x))[j]? with
      |none=>rw [hzj] at hj;cases hj
      |some y =>
       rw [hzj] at hj
       obtain rfl:=Ac hj
       have hjl:=List.getElem?_eq_some_iff.1 hzj
       have:=(hcl.2 j hjl.1).1
       rw [hjl.2] at this
       exact Nc this _)
     exact⟨_,_,_,run _,h2.putPlain d (.ptr _ _ _ _ h3) rfl,fun b hb=>ô _ _ _ (h.store.lt hb)⟩
   . cases he
def splice (cs:List PV)(o:Nat)(ns:List PV):List PV:=cs.take o++ns++cs.drop (o+ns.length)
def Jr (P:Program)(T:TypeId)(st:St)(x y:Operand):Option (Bool×St) :=
 match Dh st x,PH P T with
 |.ptr b o,some n =>
  match Ul st.σ[b]? with
  |some cs =>
   match Nb st y with
   |some (s,xs)=>some (decide (n=1/\o<cs.length),{ ((st.put (some s) (.sl xs .shared)).stripC b o 1) with σ:=st.σ.set b (splice cs o [.sl xs .own]) })
   |none=>if IM (Dh st y)||OB (Dh st y) then some (decide ((CN (Dh st y)).length=n/\o+n<=cs.length),{ (st.stripC b o n) with σ:=st.σ.set b (splice cs o ((CN (Dh st y)).map Hv)) }) else none
  |none=>none
 |_,_=>none
theorem W3 {cs ns:List PV}{o:Nat}(h:o+ns.length<=cs.length)(i:Nat):(splice cs o ns)[i]?=if o<=i/\i<o+ns.length then ns[i-o]? else cs[i]?:=by
 unfold splice
 have hl:(cs.take o).length=o:=by simp;omega
 all_goals grind [splice]
theorem Qq {cs ns:List PV}{o:Nat}(h:o+ns.length<=cs.length):(splice cs o ns).length=cs.length:=by
 unfold splice;simp;omega
theorem Sd {k b o:Nat}{cs ns:List PV}{vs:List Value}(h:Inv w0 G0 st (fun t=>a.tmps.getD t Go.undef) w G)(hk:G.φ[k]?=some b)(hcs:st.σ[k]?=some cs)(hnm:NM cs)(hns:∀ p∈ns,p.isM=false)(hl:o+ns.length<=cs.length)(hlen:vs.length=ns.length)
 (hv:∀ i (hi:i<ns.length),V w G.U G.φ ns[i] (vs.getD i Go.undef)/\(vs.getD i Go.undef).oneCell'=true) (ht:∀ i (hi:i<ns.length),Df w G (.cell k (o+i)) ns[i] (vs.getD i Go.undef))
 (hvw:∀ t xs j,st.get t=.sl xs (.view (.cell k j))->j<o∨o+ns.length<=j) :
 (storeCells ⟨b,o,none⟩ vs).run P w=.ok () (w.setCells b o vs)/\Inv w0 G0 { st with σ:=st.σ.set k (splice cs o ns) } (fun t=>a.tmps.getD t Go.undef) (w.setCells b o vs) G:=by
 obtain⟨⟨o',arr,hb,⟨hlay,hsz⟩,hcell⟩,hnoU⟩:=h.store.blk k b cs hk hcs
 obtain⟨T,rfl⟩:=hlay.cells hnm
 have hno:∀ p∈cs,p.isM=false:=by
  rcases hlay with hl2|⟨kvs,_,_,e,_⟩|⟨_,_,e,_⟩
  . exact hl2.2
  . exact absurd (hnm _ e) (by simp [PV.isM])
  . exact absurd (hnm _ e) (by simp [PV.isM])
 obtain⟨arr',k1,k2,k3,k4,k5,k6,k7,k8⟩:=DM b T vs o w arr hb
 have hin:∀ j,j<vs.length->(w.cell? ⟨b,o+0+j,none⟩).isSome=true:=by
  intro j hj
  have:o+j<arr.size:=by omega
  simp [World.cell?,hb,this]
 have hrun:=run_storeCells_cells (P:=P) b o vs 0 w hin (fun j hj=>by simp only [World.frozen?,hb];simp) (fun u hu=>by
  obtain⟨i,hi,rfl⟩:=Č hu
  have:=(hv i (by omega)).2
  simpa [hi] using this)
 refine⟨by simpa using hrun,?_⟩
 have hgd:∀ i,arr'.getD i Go.undef=if o<=i/\i<o+vs.length/\i<arr.size then vs.getD (i-o) Go.undef else arr.getD i Go.undef:=by
  intro i
  rw [Ò,k3 i]
  split
  . simp [List.getD]
  . simp
 have hspl:=W3 (cs:=cs) (ns:=ns) (o:=o) hl
 refine h.setBlock hk hcs hb k1 (fun kvs hm=>?_) k4 k6 k7 k8 ⟨by rw [k2,hsz,Qq hl],fun i hi=>?_⟩ (fun j c hj=>?_) (fun t xs j hj=>?_)
 . grind [splice]
 . have hi':i<cs.length:=by rw [<- Qq hl];exact hi
   have e:=hspl i
   rw [Ë hi] at e
   rw [hgd i]
   by_cases hc:o<=i/\i<o+ns.length
   . grind [splice]
   . rw [È hc,Ë hi'] at e
     rw [È (by omega),Ac e]
     obtain⟨v,h1,h2,h3,_⟩:=hcell i cs[i] (Ë hi')
     have:arr.getD i Go.undef=v:=by simp [h1]
     rw [this];exact⟨h3,h2⟩
 . rw [hspl j] at hj
   rw [hgd j]
   by_cases hc:o<=j/\j<o+ns.length
   . grind [splice]
   . rw [È hc] at hj
     have hj':=(List.getElem?_eq_some_iff.1 hj).1
     rw [È (by omega)]
     obtain⟨v,h1,h2,h3,h4⟩:=hcell j c hj
     have:arr.getD j Go.undef=v:=by simp [h1]
     rw [this];exact h4
 . grind [splice]
theorem Lz {b i:Nat}(hi:i≠b):∀ (vs:List Value) (o:Nat) (w:World),(w.setCells b o vs).heap[i]?=w.heap[i]?
 | [],_,_=>rfl
 |v::vs,o,w=>by
  show ((w.setCell ⟨b,o,none⟩ v).setCells b (o+1) vs).heap[i]?=_
  rw [Lz hi vs];exact Below.heap_setCell _ _ _ _ hi
theorem LQ {T:TypeId}{x y:Operand}(h:Inv w0 G0 st (fun t=>a.tmps.getD t Go.undef) w G)(he:Jr P T st x y=some (true,st')) :
 ∃ w' G',(Instr.storeAt T (a.eval x) (a.eval y)).run P w=.ok () w'/\Inv w0 G0 st' (fun t=>a.tmps.getD t Go.undef) w' G' /\
  ∀ k o kb,Dh st x=.ptr k o->G.φ[k]?=some kb->∀ b,b≠kb->w'.heap[b]?=w.heap[b]?:=by
 unfold Jr at he
 have hx:=BO (a:=a) h.env x
 have hy:=BO (a:=a) h.env y
 split at he
 . rename_i k o n hxp hn
   rw [hxp] at hx
   revert hx
   generalize a.eval x=xv
   intro hx
   cases hx with
   |ptr _ _ _ b hk =>
   have run:∀ (v:Value),v.cells.size=n->∀ w',(storeCells ⟨b,o,none⟩ v.cells.toList).run P w=.ok () w'->(Instr.storeAt T (.pointer (some ⟨b,o,none⟩)) v).run P w=.ok () w':=by
    intro v hv w' hr
    simp only [Instr.storeAt,Instr.sureAddr,storeVar,Ô,Ù,Ì,FX hn,ĭ]
    rw [È (by simp [hv])]
    simp only [hr]
   split at he
   . rename_i cs hcs
     obtain⟨hcs,hnm⟩:=Jt hcs
     split at he
     . rename_i s xs hot
       obtain⟨rfl,hg'⟩:=Pg hot
       simp only [Å,Ï,Í] at he
       obtain⟨⟨rfl,ho⟩,rfl⟩:=he
       have hO:AB w G (.tmp s) xs (a.tmps.getD s Go.undef):=by have:=h.env.tag s;rw [hg'] at this;exact this
       have hg:Dh st (.tmp s)=.sl xs .own:=hg'
       rw [hg] at hy
       have hcells:=Sv hy
       have h1:=(h.share hg').rel (.tmp s) (.cell k o) (fun ys e=>by rw [Gr,DS,Ê rfl] at e;cases e)
       have hst:=Sd (P:=P) (h1.stripC k o 1) (o:=o) (cs:=cs) (ns:=[.sl xs .own]) (vs:=(a.eval (.tmp s)).cells.toList) hk (by show (st.put _ _).σ[k]?=_;rw [N9];exact hcs) hnm (by simp [PV.isM]) (by simp;omega) (by rw [hcells];rfl)
        (fun i hi=>by
         have hi0:i=0:=by simpa using hi
         subst hi0
         rw [hcells]
         exact⟨hy,hy.oneCell rfl⟩)
        (fun i hi=>by
         have hi0:i=0:=by simpa using hi
         subst hi0
         rw [hcells]
         exact hO.to rfl Iy)
        (fun t ys j hj=>by
         rw [Hz] at hj
         revert hj
         generalize (st.put (some s) (.sl xs .shared)).get t=q
         intro hj
         unfold stripC at hj
         split at hj
         . grind [Jr,stripC]
         . rename_i hno;exact absurd hj (hno ys k j))
       refine⟨_,G.rel (.tmp s) (.cell k o),run _ (by rw [hcells];rfl) _ hst.1,?_,fun k2 o2 kb e1 e2 b hb=>?_⟩
       rotate_left
       . grind [Lz]
       have:=hst.2
       have e:((st.put (some s) (.sl xs .shared)).stripC k o 1).σ=st.σ:=N9 _ _ _
       rw [e] at this;exact this
     . split at he
       . rename_i hp
         simp only [Å,Ï,Í] at he
         obtain⟨⟨hln,ho⟩,rfl⟩:=he
         have hcl:=hy.cells (Px hp)
         have hst:=Sd (P:=P) (h.stripC k o n) (o:=o) (cs:=cs) (ns:=(CN (Dh st y)).map Hv) (vs:=(a.eval y).cells.toList) hk hcs hnm (O1 _) (by simp;omega) (by simp [hcl.1])
          (fun i hi=>by
           have hi':i<(CN (Dh st y)).length:=by simpa using hi
           simp only [ï]
           have h3:=hcl.2 i hi'
           have e:(a.eval y).cells.toList.getD i Go.undef=(a.eval y).cells.getD i Go.undef:=by simp [List.getD]
           rw [e]
           exact⟨RC h3.1,h3.2⟩)
          (fun i hi=>by
           have hi':i<(CN (Dh st y)).length:=by simpa using hi
           simp only [ï]
           have h3:=hcl.2 i hi'
           have e:(a.eval y).cells.toList.getD i Go.undef=(a.eval y).cells.getD i Go.undef:=by simp [List.getD]
           rw [e]
           exact Nc h3.1 _)
          (fun t xs j hj=>by
           rw [Hz] at hj
           revert hj
           generalize st.get t=q
           intro hj
           unfold stripC at hj
           split at hj
           . grind [Jr,stripC]
           . rename_i hno;exact absurd hj (hno xs k j))
         refine⟨_,G,run _ (by rw [hcl.1,hln]) _ hst.1,hst.2,fun k2 o2 kb e1 e2 b hb=>?_⟩
         obtain⟨rfl,rfl⟩:=PV.ptr.inj (hxp.symm.trans e1)
         obtain rfl:=Ac (hk.symm.trans e2)
         exact Lz hb _ _ _
       . cases he
   . cases he
 . cases he
end
end Go.Vl
namespace Go.Vl
open Go Go.RowKit
def apT (P:Program)(t:TypeId):Option (Nat×Nat) :=
 match P.underlying t with
 |some (.slice e)=>match P.info? e with
  |some i=>match i.zero with
   |some z=>if z.cells.size=i.size/\0<i.size/\z.cells.toList.all Value.oneCell'=true then some (i.size,i.bytes) else none
   |none=>none
  |none=>none
 |_=>none
section
variable {w w' w0:World} {G G' G0:Gh} {P:Program} {p q:PV} {v u:Value} {st st':St} {a:Act} {o:Oper} {d:Nat} {U:Nat->Nat->Prop} {φ:List Nat}
theorem R5 {t sz bytes:Nat}(h:apT P t=some (sz,bytes)):∃ e i z,P.underlying t=some (.slice e)/\P.info? e=some i/\i.zero=some z/\i.size=sz/\i.bytes=bytes/\z.cells.size=sz/\0<sz/\z.cells.toList.all Value.oneCell'=true:=by
 grind [apT]
structure Flat (w:World) (U:Nat->Nat->Prop) (xs:List (List PV)) (sz:Nat) (vs:List Value):Prop where
 len:vs.length=xs.length*sz
 row:∀ x∈xs,x.length=sz
 v:∀ i (hi:i<xs.length) j (hj:j<(xs[i]).length),V w U [] xs[i][j] (vs.getD (i*sz+j) Go.undef)
 one:∀ u∈vs,u.oneCell'=true
theorem Nj {n sz i j:Nat}(hi:i<n)(hj:j<sz):i*sz+j<n*sz:=by
 calc i*sz+j<i*sz+sz:=by omega
  _=(i+1)*sz:=by rw [þ,Nat.one_mul]
  _<=n*sz:=Ĉ _ hi
theorem Aee {sz i j:Nat}(hj:j<sz):(i*sz+j) / sz=i/\(i*sz+j) % sz=j:=by
 constructor
 . rw [Nat.mul_comm,Nat.mul_add_div (by omega),Nat.div_eq_of_lt hj,Nat.add_zero]
 . rw [Nat.mul_comm,Nat.mul_add_mod,Nat.mod_eq_of_lt hj]
theorem SN {P:Program}(sz:Nat)(A:Option Addr)(w:World):(Builtin.firstCells sz 0 (.slice A 0 0)).run P w=.ok #[] w:=by
 cases A with
 |none=>exact run_firstCells_none _ _ _ _ _
 |some A=>exact run_firstCells_some _ _ _ _ _ _ [] (by simp) (fun j u hj=>by cases hj)
theorem NT {xs:List (List PV)}{g:Grow}{sz:Nat}(h:V w U φ (.sl xs g) v)(hsz:0<sz)(hrow:xs.all (fun x=>x.length == sz)=true) :
 ∃ vs,Flat w U xs sz vs/\(((∃ A,v=.slice A 0 0)/\xs=[])∨∃ b o cap,v=.slice (some ⟨b,o,none⟩) xs.length cap/\xs.length<=cap/\cap<=9223372036854775807/\(g=.full->cap=xs.length)/\∀ j u,vs[j]?=some u->w.cell? ⟨b,o+j,none⟩=some u/\U b (o+j)):=by
 have hr:∀ x∈xs,x.length=sz:=by
  rw [Ü] at hrow
  intro x hx;simpa using hrow x hx
 cases h with
 |nil=>exact⟨[],⟨by simp,by simp,by simp,by simp⟩,.inl ⟨⟨_,rfl⟩,rfl⟩⟩
 |emp=>exact⟨[],⟨by simp,by simp,by simp,by simp⟩,.inl ⟨⟨_,rfl⟩,rfl⟩⟩
 |sl _ _ _ b o sz' cap us hc hm hs hU hw h1 hv hf hg =>
  have key:∀ i,i<xs.length->sz'=sz:=fun i hi=>by rw [<- hs i hi];exact hr _ (Ú hi)
  refine⟨(List.range (xs.length*sz)).map fun q=>us (q / sz) (q % sz),⟨by simp,hr,fun i hi j hj=>?_,fun u hu=>?_⟩,.inr ⟨b,o,cap,rfl,hc,hm,hf,fun j u hj=>?_⟩⟩
  . grind [List.getElem_mem,Nj,List.range,List.getD,Aee]
  . grind [Nat.div_lt_iff_lt_mul,Nat.mod_lt]
  . obtain⟨hq,rfl⟩:=Rz j u hj
    have hi:j / sz<xs.length:=(Nat.div_lt_iff_lt_mul hsz).2 hq
    have e:=key _ hi
    subst e
    have hj2:=Nat.mod_lt j hsz
    have e2:o+j / sz'*sz'+j % sz'=o+j:=by rw [Nat.add_assoc,Nat.mul_comm,Nat.div_add_mod]
    have:=hw _ _ hi hj2
    have h3:=hU _ _ hi hj2
    rw [e2] at this h3
    exact⟨this,h3⟩
theorem Flat.app {xs ys:List (List PV)}{sz:Nat}{us vs:List Value}(h:Flat w U xs sz us)(k:Flat w U ys sz vs):Flat w U (xs++ys) sz (us++vs):=by
 refine⟨by rw [Ç,Ç,h.len,k.len,þ],fun x hx=>?_,fun i hi j hj=>?_,fun u hu=>?_⟩
 . rcases List.mem_append.1 hx with hx|hx
   . exact h.row x hx
   . exact k.row x hx
 . have hrow:((xs++ys)[i]).length=sz:=by
    rcases List.mem_append.1 (Ú hi) with hx|hx
    . exact h.row _ hx
    . exact k.row _ hx
   have hj':j<sz:=by rw [<- hrow];exact hj
   by_cases hix:i<xs.length
   . have hlt:=Nj hix hj'
     have e1:(xs++ys)[i]=xs[i]:=ģ hix
     have e2:(us++vs).getD (i*sz+j) Go.undef=us.getD (i*sz+j) Go.undef:=by
      simp only [List.getD];rw [æ (by rw [h.len];exact hlt)]
     rw [e2]
     have:=h.v i hix j (by rw [<- e1];exact hj)
     simp only [e1];exact this
   . have hiy:i-xs.length<ys.length:=by simp at hi;omega
     have e1:(xs++ys)[i]=ys[i-xs.length]:=List.getElem_append_right (by omega)
     have e3:i*sz+j-us.length=(i-xs.length)*sz+j:=by
      rw [h.len,Nat.sub_mul]
      have:=Ĉ sz (show xs.length<=i by omega)
      omega
     have e2:(us++vs).getD (i*sz+j) Go.undef=vs.getD ((i-xs.length)*sz+j) Go.undef:=by
      simp only [List.getD]
      rw [ð (by rw [h.len];have:=Ĉ sz (show xs.length<=i by omega);omega),e3]
     rw [e2]
     have:=k.v (i-xs.length) hiy j (by rw [<- e1];exact hj)
     simp only [e1];exact this
 . rcases List.mem_append.1 hu with hu|hu
   . exact h.one u hu
   . exact k.one u hu
theorem Inv.newOwn {sz cap:Nat}{xs:List (List PV)}{vs:List Value}{rest:Array Value}{T:TypeId}(h:Inv w0 G0 st (fun t=>a.tmps.getD t Go.undef) w G)(hf:Flat w G.U xs sz vs)(hne:xs≠[])(hrest:rest.size=(cap-xs.length)*sz)(hcap:xs.length<=cap)(hcap2:cap<=9223372036854775807)(dr:Bool) :
 ∃ G',Inv w0 G0 (st.put (some d) (.sl xs .own)) (H6 (fun t=>a.tmps.getD t Go.undef) d (.slice (some ⟨w.heap.size,0,none⟩) xs.length cap)) ((if dr then w.drew else w).alloc (.cells (vs.toArray++rest) T)) G':=by
 have hnφ:w.heap.size∉G.φ:=by
  intro hm
  obtain⟨k,hk,he⟩:=Č hm
  have hk2:k<st.σ.length:=by rw [<- h.store.len];exact hk
  obtain⟨⟨T',arr',h3,_⟩,_⟩:=h.store.blk k _ _ (Ë hk) (Ë hk2)
  have:=(Array.getElem?_eq_some_iff.1 h3).1
  omega
 have hh:(if dr then w.drew else w).heap=w.heap:=by cases dr<;>rfl
 have hold:∀ k,k<w.heap.size->((if dr then w.drew else w).alloc (.cells (vs.toArray++rest) T)).heap[k]?=w.heap[k]?:=fun k hk=>by
  rw [ô _ _ _ (by rw [hh];exact hk),hh]
 have hnew:((if dr then w.drew else w).alloc (.cells (vs.toArray++rest) T)).heap[w.heap.size]?=some (.cells (vs.toArray++rest) T (0,0)):=by
  have:=heap_alloc_new (if dr then w.drew else w) (.cells (vs.toArray++rest) T)
  rw [hh] at this;exact this
 refine⟨_,h.own (b:=w.heap.size) (sz:=sz) (cap:=cap) (arr:=vs.toArray++rest) (T:=T) hnφ (.inl (Õ _)) (fun l hl=>?_) ?_ ?_ ?_ ?_ (fun k hk _=>hold k hk) (fun i hu=>?_) hnew ?_ hne hf.row hcap hcap2 (fun i hi j hj=>?_)⟩
 . have:=(h.store.ob w.heap.size (by rw [hl];simp)).1;omega
 . cases dr<;>rfl
 . cases dr<;>rfl
 . cases dr<;>rfl
 . simp [hh]
 . have:=h.store.ub _ _ hu;omega
 . have h1:=hf.len
   simp only [Array.size_append,List.size_toArray,hrest,h1]
   rw [<- þ];congr 1;omega
 . have hj':j<sz:=by rw [<- hf.row _ (Ú hi)];exact hj
   have hlt:=Nj hi hj'
   rw [<- hf.len] at hlt
   have e:(vs.toArray++rest).getD (i*sz+j) Go.undef=vs.getD (i*sz+j) Go.undef:=by
    simp [Ò,Array.getElem?_append,hlt,List.getD]
   rw [e]
   refine⟨hf.v i hi j hj,?_⟩
   have:vs.getD (i*sz+j) Go.undef=vs[i*sz+j]:=by simp [List.getD,hlt]
   rw [this];exact hf.one _ (Ú hlt)
end
def Gc (st:St)(x:Operand):Option (List (List PV)×Bool×St) :=
 match x with
 |.tmp s =>
  match st.get s with
  |.sl xs .own=>some (xs,false,st.put (some s) (.sl xs .shared))
  |.sl xs (.view (.tmp r))=>some (xs,false,st.put (some r) (.sl xs .shared))
  |.sl xs (.view (.cell k j))=>some (xs,false,{ (st.stripC k j 1) with σ:=st.σ.set k ((st.σ.getD k []).set j (.sl xs .shared)) })
  |.sl xs .nil=>some (xs,false,st)
  |.sl xs .full=>some (xs,true,st)
  |_=>none
 |.const c=>match Gi c with
  |.sl xs .nil=>some (xs,false,st)
  |_=>none
 |_=>none
def CO (s:Â):List (List PV):=s.data.toList.map fun b=>[.lit (.int .u8 b.toNat)]
def IT (P:Program)(t sz:Nat)(st:St)(y:Operand):Option (List (List PV)) :=
 match Dh st y with
 |.sl ys _=>match slT P t with|some _=>some ys|none=>none
 |.lit (.string s)=>if Lt P t&&sz == 1 then some (CO s) else none
 |_=>none
def Ro (P:Program)(c:Call)(st:St)(d:Nat):Option (Bool×St) :=
 match c.callee,c.args.toList,c.argTypes.toList with
 |.builtin .append,[x,y],[t,t'] =>
  match apT P t,Gc st x with
  |some (sz,bytes),some (xs,full,st1) =>
   (IT P t' sz st y).map fun ys=>(decide ((xs.length+ys.length)*(bytes+1)<=140737488355328)&&(xs.all (fun x=>x.length == sz)&&(ys.all (fun x=>x.length == sz)&&(!full||true))),st1.put (some d) (.sl (xs++ys) (match full with|false=>.own|true=>if ys.isEmpty=true then .full else .own)))
  |_,_=>none
 |_,_,_=>none
section
variable {w w' w0:World} {G G' G0:Gh} {P:Program} {p q:PV} {v u:Value} {st st':St} {a:Act} {o:Oper} {d:Nat} {U:Nat->Nat->Prop} {φ:List Nat}
theorem Inv.shareCell {k j:Nat}{xs:List (List PV)}{cs:List PV}{tm:Nat->Value}(h:Inv w0 G0 st tm w G)(hcs:st.σ[k]?=some cs)(hj:cs[j]?=some (.sl xs .own)) :
 Inv w0 G0 { (st.stripC k j 1) with σ:=st.σ.set k (cs.set j (.sl xs .shared)) } tm w G:=by
 have hkl:k<G.φ.length:=by rw [h.store.len];exact (List.getElem?_eq_some_iff.1 hcs).1
 have hk:G.φ[k]?=some G.φ[k]:=Ë hkl
 obtain⟨⟨o',arr,hb,⟨hlay,hsz⟩,hcell⟩,hnoU⟩:=h.store.blk k _ cs hk hcs
 have hnm:NM cs:=fun kvs e=>by
  subst e
  match j,hj with
  |0,hj=>cases hj;rfl
 obtain⟨T,rfl⟩:=hlay.cells hnm
 have hno:∀ p∈cs,p.isM=false:=by
  rcases hlay with hl2|⟨kvs,_,_,e,_⟩|⟨_,_,e,_⟩
  . exact hl2.2
  . exact absurd (hnm _ e) (by simp [PV.isM])
  . exact absurd (hnm _ e) (by simp [PV.isM])
 have hjl:=(List.getElem?_eq_some_iff.1 hj).1
 have hget:∀ i,(cs.set j (.sl xs .shared))[i]?=if i=j then some (.sl xs .shared) else cs[i]?:=by
  grind [Vl.stripC]
 have hget2:∀ i c,(cs.set j (.sl xs .shared))[i]?=some c->∃ u,arr[i]?=some u/\u.oneCell'=true/\V w G.U G.φ c u/\Df w G (.cell k i) c u:=by
  intro i c hi
  rw [hget i] at hi
  by_cases e:i=j
  . subst e
    rw [Ê rfl] at hi
    obtain rfl:=Ac hi
    obtain⟨u,h1,h2,h3,_⟩:=hcell i _ hj
    exact⟨u,h1,h2,h3.tag (by simp) (by simp),trivial⟩
  . rw [È e] at hi
    exact hcell i c hi
 refine (h.stripC k j 1).setBlock (cs:=cs) (cs':=cs.set j (.sl xs .shared)) hk hcs hb hb (fun kvs hm=>by
  rcases List.mem_or_eq_of_mem_set hm with h1|h1
  . exact hno kvs h1
  . rw [h1];rfl) (fun _ _=>rfl) rfl rfl rfl ⟨by simpa using hsz,fun i hi=>?_⟩ (fun i c hi=>?_) (fun t ys i hi=>?_)
 . obtain⟨u,h1,h2,h3,_⟩:=hget2 i _ (Ë hi)
   have:arr.getD i Go.undef=u:=by simp [h1]
   rw [this];exact⟨h3,h2⟩
 . obtain⟨u,h1,h2,h3,h4⟩:=hget2 i c hi
   have:arr.getD i Go.undef=u:=by simp [h1]
   rw [this];exact h4
 . rw [Hz] at hi
   have hne:i≠j:=by
    rintro rfl
    revert hi
    generalize st.get t=q
    intro hi
    unfold Vl.stripC at hi
    split at hi
    . grind [Vl.stripC]
    . rename_i hno;exact absurd hi (hno ys k i)
   rw [hget i,È hne]
   exact⟨rfl,rfl⟩
theorem LX {x:Operand}{xs:List (List PV)}{full:Bool}{st1:St}(h:Inv w0 G0 st (fun t=>a.tmps.getD t Go.undef) w G)(he:Gc st x=some (xs,full,st1)) :
 Inv w0 G0 st1 (fun t=>a.tmps.getD t Go.undef) w G /\
 ((full=true/\V w G.U G.φ (.sl xs .full) (a.eval x))∨(full=false/\V w G.U G.φ (.sl xs .shared) (a.eval x)/\((xs=[]/\a.eval x=.slice none 0 0)∨∃ l,AB w G l xs (a.eval x)/\∀ ys,Gr st1 l≠.sl ys .own))):=by
 have ntag:∀ {v:Value},V w G.U G.φ (.sl xs .nil) v->V w G.U G.φ (.sl xs .shared) v/\xs=[]/\v=.slice none 0 0:=by
  intro v hv
  obtain⟨h1,h2⟩:=Mo hv
  exact⟨by rw [h1,h2];exact .nil _ _,h1,h2⟩
 unfold Gc at he
 split at he
 . rename_i s
   have hv:V w G.U G.φ (st.get s) (a.eval (.tmp s)):=h.env.v s
   have ht:Gj w G st (fun t=>a.tmps.getD t Go.undef) s (st.get s) (a.eval (.tmp s)):=h.env.tag s
   split at he
   . rename_i xs' hg
     simp only [Å,Ï] at he
     obtain⟨rfl,rfl,rfl⟩:=he
     rw [hg] at hv ht
     refine⟨h.share hg,.inr ⟨rfl,hv.tag (by simp) (by simp),.inr ⟨_,ht,fun ys e=>?_⟩⟩⟩
     rw [Gr,DS,Ê rfl] at e;cases e
   . rename_i xs' r hg
     simp only [Å,Ï] at he
     obtain⟨rfl,rfl,rfl⟩:=he
     rw [hg] at hv ht
     have htr:=h.env.tag r
     rw [ht.1] at htr
     refine⟨h.share ht.1,.inr ⟨rfl,hv.tag (by simp) (by simp),.inr ⟨.tmp r,?_,fun ys e=>?_⟩⟩⟩
     . have e2:a.eval (.tmp s)=a.tmps.getD r Go.undef:=ht.2.symm
       rw [e2];exact htr
     . rw [Gr,DS,Ê rfl] at e;cases e
   . rename_i xs' k j hg
     simp only [Å,Ï] at he
     obtain⟨rfl,rfl,rfl⟩:=he
     rw [hg] at hv ht
     obtain⟨cs,b,h1,h2,h3,h4⟩:=ht
     have e1:st.σ.getD k []=cs:=by simp [List.getD,h1]
     rw [e1]
     obtain⟨⟨o',arr,hb,⟨hlay,hsz⟩,hcell⟩,hnoU⟩:=h.store.blk k b cs h3 h1
     obtain⟨T,rfl⟩:=hlay.cells fun kvs e=>by
      subst e
      match j,h2 with
      |0,h2=>cases h2;rfl
     obtain⟨u,k1,k2,k3,k4⟩:=hcell j _ h2
     have e2:a.eval (.tmp s)=u:=by
      simp only [World.cell?,hb] at h4
      have:arr[j]?=some (a.eval (.tmp s)):=by simpa using h4
      rw [k1] at this;exact (Ac this).symm
     refine⟨h.shareCell h1 h2,.inr ⟨rfl,hv.tag (by simp) (by simp),.inr ⟨.cell k j,by rw [e2];exact k4,fun ys e=>?_⟩⟩⟩
     have hkl:=(List.getElem?_eq_some_iff.1 h1).1
     have hjl:=(List.getElem?_eq_some_iff.1 h2).1
     simp [Gr,List.getD,hkl,hjl] at e
   . grind [Gc]
   . grind [Gc]
   . cases he
 . rename_i c
   have hv:V w G.U G.φ (Gi c) (a.eval (.const c)):=Me c
   split at he
   . grind [Gc]
   . cases he
 . cases he
theorem RV (s:Â):Flat w U (CO s) 1 (byteCells s):=by
 refine⟨by simp [CO,byteCells],fun x hx=>?_,fun i hi j hj=>?_,fun u hu=>?_⟩
 . obtain⟨b,_,rfl⟩:=List.mem_map.1 hx;rfl
 . have hi':i<s.data.toList.length:=by simpa [CO] using hi
   have e1:(CO s)[i]=[.lit (.int .u8 (s.data.toList[i]).toNat)]:=by simp [CO]
   have hj0:j=0:=by rw [e1] at hj;simpa using hj
   subst hj0
   have e2:(byteCells s).getD (i*1+0) Go.undef=.int .u8 (s.data.toList[i]).toNat:=by
    grind [byteCells]
   rw [e2];simp only [e1];exact .lit _ _
 . unfold byteCells at hu
   obtain⟨b,_,rfl⟩:=List.mem_map.1 hu;rfl
theorem MJ {t:TypeId}{y:Operand}{ys:List (List PV)}{sz:Nat}(h:KO w G st fun t=>a.tmps.getD t Go.undef)(he:IT P t sz st y=some ys)(hsz:0<sz)(hall:ys.all (fun x=>x.length == sz)=true) :
 ∃ vs,Flat w G.U ys sz vs/\Src P sz t (a.eval y) ys.length vs w:=by
 have hv:=BO (a:=a) h y
 unfold IT at he
 split at he
 . rename_i ys' g hg
   split at he
   . rename_i nn hs
     obtain rfl:=Ac he
     obtain⟨e',_,hu,_⟩:=Lw (n:=nn.1) (m:=nn.2) hs
     rw [hg] at hv
     obtain⟨vs,h1,h2⟩:=NT hv hsz hall
     refine⟨vs,h1,?_⟩
     rcases h2 with⟨⟨A,h3⟩,h4⟩|⟨b,o,cap,h3,h4,h5,_,h6⟩
     . subst h4
       have:vs=[]:=ä (by rw [h1.len];simp)
       subst this
       rw [h3]
       cases A with
       |none=>exact Src.ofNil w hu 0
       |some A=>exact Src.ofSlice w hu A 0 0 [] (by simp) (fun j u hj=>by cases hj) (by simp)
     . rw [h3]
       exact Src.ofSlice w hu ⟨b,o,none⟩ _ cap vs h1.len (fun j u hj=>by rw [addr_add];exact (h6 j u hj).1) h1.one
   . cases he
 . rename_i s hg
   split at he
   . rename_i hs
     obtain rfl:=Ac he
     simp only [Ã,ó] at hs
     obtain⟨hs,rfl⟩:=hs
     have hu:P.underlying t=some .string:=by unfold Lt at hs;split at hs<;>simp_all
     rw [hg] at hv
     have ev:a.eval y=.string s:=by
      revert hv;generalize a.eval y=z;intro hv
      cases hv with
      |lit _ _=>rfl
     have hlen:(CO s).length=s.size:=by simp [CO]
     refine⟨_,RV s,?_⟩
     rw [ev,hlen]
     exact Src.ofString w hu s
   . cases he
 . cases he
theorem Uc {c:Call}(h:Inv w0 G0 st (fun t=>a.tmps.getD t Go.undef) w G)(hop:o.op=.call c)(he:Ro P c st d=some (true,st')) :
 ∃ v w' G',(execOp a.eval o).run P w=.ok (.value v) w'/\Inv w0 G0 st' (H6 (fun t=>a.tmps.getD t Go.undef) d v) w' G'/\∀ b∈G.φ,w'.heap[b]?=w.heap[b]?:=by
 obtain⟨callee,args,ats⟩:=c
 unfold Ro at he
 simp only at he
 split at he
 . rename_i x y t t' hx ht
   have e1:args = #[x,y]:=by rw [<- ò (xs:=args),hx]
   have e2:ats = #[t,t']:=by rw [<- ò (xs:=ats),ht]
   subst e1;subst e2
   have hex:∀ {v w'},(Builtin.append_ #[t,t'] o.type #[a.eval x,a.eval y]).run P w=.ok v w'->(execOp a.eval o).run P w=.ok (.value v) w':=by
    intro v w' hr
    unfold execOp
    rw [hop]
    simp [resolve,invoke,builtin,hr]
   split at he
   . rename_i sz bytes xs full st1 hap hbase
     cases hsrc:IT P t' sz st y with
     |none=>rw [hsrc] at he;cases he
     |some ys =>
     rw [hsrc] at he
     simp only [ì,Å,Ï,Ã,Í] at he
     obtain⟨⟨hbound,hxall,hyall,_⟩,rfl⟩:=he
     obtain⟨e,i,z,hu,hi,hz,rfl,rfl,hzs,hpos,_⟩:=R5 hap
     obtain⟨vs,hfy,hsr⟩:=MJ h.env hsrc hpos hyall
     obtain⟨hinv,hcase⟩:=LX h hbase
     have hmul:(xs.length+ys.length)*i.bytes+(xs.length+ys.length)<=140737488355328:=by rw [Nat.mul_add,Nat.mul_one] at hbound;exact hbound
     -- a new block
     have grow:∀ (base:Option Addr) (cap:Nat) (us:List Value),a.eval x=.slice base xs.length cap->Flat w G.U xs i.size us->(Builtin.firstCells i.size xs.length (.slice base xs.length cap)).run P w.drew=.ok us.toArray w.drew->cap<xs.length+ys.length->xs++ys≠[] ->
      ∃ v w' G',(execOp a.eval o).run P w=.ok (.value v) w'/\Inv w0 G0 (st1.put (some d) (.sl (xs++ys) .own)) (H6 (fun t=>a.tmps.getD t Go.undef) d v) w' G'/\∀ b∈G.φ,w'.heap[b]?=w.heap[b]?:=by
      intro base cap us hbx hfx hold hlt hne
      have hr:=run_append_grow_src (P:=P) w t t' o.type e i z hu hi hz base xs.length cap us hold (a.eval y) ys.length vs hsr hlt (by omega) (growslice_fits hlt (by omega))
      rw [<- hbx] at hr
      obtain⟨G',hG⟩:=hinv.newOwn (d:=d) (cap:=grownCap w (xs.length+ys.length) cap e) (rest:=Builtin.zeroCells z.cells (grownCap w (xs.length+ys.length) cap e-(xs.length+ys.length))) (T:=e) (hfx.app hfy) hne
       (by rw [size_zeroCells,hzs,Ç]) (by rw [Ç];exact grownCap_ge _ _ _ _)
       (by have:=grownCap_le_maxLen w (xs.length+ys.length) cap e (by unfold maxLen;omega);unfold maxLen at this;exact this) true
      rw [Ç] at hG
      exact⟨_,_,G',hex hr,hG,fun b hb=>ô w.drew _ _ (h.store.lt hb)⟩
     -- in place
     rcases hcase with⟨rfl,hvx⟩|⟨rfl,hvx,hown⟩
     . obtain⟨us,hfx,hcx⟩:=NT hvx hpos hxall
       by_cases hyne:ys=[]
       . subst hyne
         have hvs:vs=[]:=ä (by rw [hfy.len];simp)
         subst hvs
         refine⟨a.eval x,w,G,hex ?_,?_,fun _ _=>rfl⟩
         . rcases hcx with⟨⟨A,h1⟩,_⟩|⟨b,off,cap,h1,h2,_⟩
           . rw [h1]
             have hk:=hsr.kind
             have hcc:=hsr.cells
             simp only [Î] at hcc
             cases A<;>rcases hk with⟨e',hk⟩|hk<;>simp [Builtin.append_,á hu,á hk,sizeOf,typeInfo,hi,hsr.len,hcc]
             all_goals rfl
           . rw [h1]
             exact run_append_room_src (P:=P) w t t' o.type e i hu hi b off xs.length cap (a.eval y) 0 [] hsr h2 (fun j hj=>by cases hj) (fun j hj=>by cases hj)
         . simp only [ç,List.isEmpty_nil,ë]
           exact hinv.putPlain d hvx rfl
       rw [show (match true with|false=>Grow.own|true=>if ys.isEmpty=true then Grow.full else Grow.own)=Grow.own from È (by simpa using hyne)]
       have hylen:0<ys.length:=List.length_pos_iff.2 hyne
       rcases hcx with⟨⟨A,h1⟩,h2⟩|⟨b,off,cap,h1,h2,h3,h4,h5⟩
       . subst h2
         have:us=[]:=ä (by rw [hfx.len];simp)
         subst this
         exact grow A 0 [] h1 hfx (SN _ _ _) (by simpa using hylen) (by simpa using hyne)
       . have hcap:=h4 rfl
         exact grow (some ⟨b,off,none⟩) cap us h1 hfx (run_firstCells_some _ _ _ _ _ _ us hfx.len (fun j u hj=>by rw [addr_add];exact (h5 j u hj).1)) (by omega) (by simp [hyne])
     . obtain⟨us,hfx,hcx⟩:=NT hvx hpos hxall
       rcases hown with⟨rfl,hnil⟩|⟨l,ho,hno⟩
       . have:us=[]:=ä (by rw [hfx.len];simp)
         subst this
         by_cases hyne:ys=[]
         . subst hyne
           have hvs:vs=[]:=ä (by rw [hfy.len];simp)
           subst hvs
           refine⟨.slice none 0 0,w,G,hex ?_,?_,fun _ _=>rfl⟩
           . rw [hnil]
             have hk:=hsr.kind
             have hcc:=hsr.cells
             simp only [Î] at hcc
             rcases hk with⟨e',hk⟩|hk<;>simp [Builtin.append_,á hu,á hk,sizeOf,typeInfo,hi,hsr.len,hcc]
           . exact hinv.put d (.nil _ _) (.inl ⟨rfl,rfl⟩)
         . exact grow none 0 [] hnil hfx (run_firstCells_none _ _ _ _ _) (by simpa using List.length_pos_iff.2 hyne) (by simpa using hyne)
       . rcases ho with⟨rfl,hnil⟩|⟨b,cap,sz',T,arr,h1,h2,h3,h4,h5,h6,h7⟩
         . have:us=[]:=ä (by rw [hfx.len];simp)
           subst this
           by_cases hyne:ys=[]
           . subst hyne
             have hvs:vs=[]:=ä (by rw [hfy.len];simp)
             subst hvs
             refine⟨.slice none 0 0,w,G,hex ?_,?_,fun _ _=>rfl⟩
             . rw [hnil]
               have hk:=hsr.kind
               have hcc:=hsr.cells
               simp only [Î] at hcc
               rcases hk with⟨e',hk⟩|hk<;>simp [Builtin.append_,á hu,á hk,sizeOf,typeInfo,hi,hsr.len,hcc]
             . exact hinv.put d (.nil _ _) (.inl ⟨rfl,rfl⟩)
           . exact grow none 0 [] hnil hfx (run_firstCells_none _ _ _ _ _) (by simpa using List.length_pos_iff.2 hyne) (by simpa using hyne)
         . have hsz:sz'=i.size:=by
            have h0:0<xs.length:=List.length_pos_iff.2 h2
            rw [<- h3 _ (Ú h0)];exact hfx.row _ (Ú h0)
           subst hsz
           rcases hcx with⟨h8,h9⟩|⟨b2,off,cap2,h8,h9,h10,_,h12⟩
           . exact absurd h9 h2
           . rw [h8] at h1
             simp only [Value.slice.injEq,Å,Addr.mk.injEq,and_true,ÿ] at h1
             obtain⟨⟨rfl,rfl⟩,rfl⟩:=h1
             by_cases hroom:xs.length+ys.length<=cap2
             . obtain⟨arr',k1,k2,k3,k4,k5,k6,k7,k8⟩:=DM b2 T vs (0+xs.length*i.size) w arr h5
               have hfit:xs.length*i.size+ys.length*i.size<=arr.size:=by rw [h6,<- þ];exact Ĉ _ hroom
               have hvl:=hfy.len
               have hr:=run_append_room_src (P:=P) w t t' o.type e i hu hi b2 0 xs.length cap2 (a.eval y) ys.length vs hsr hroom (fun j hj=>by
                have:xs.length*i.size+j<arr.size:=by omega
                simp [World.cell?,h5,this]) (fun j hj=>by simp only [World.frozen?,h5];simp)
               rw [<- h8] at hr
               have hul:=hfx.len
               have hfl:=hfx.app hfy
               have hbφ:=(hinv.store.ob b2 (by rw [h4];simp)).2
               have hO:=hinv.own (d:=d) (b:=b2) (sz:=i.size) (cap:=cap2) (xs:=xs++ys) (arr:=arr') (T:=T) (w':=w.setCells b2 (0+xs.length*i.size) vs) hbφ (.inr (by rw [h4];simp)) (fun l' hl' ys'=>by
                rw [h4] at hl'
                obtain rfl:=Ac hl'
                exact hno ys') k6 k7 k8 (by rw [k5];exact Õ _) (fun k _ hk=>k4 k hk) (fun q hq=>by
                have h13:=h7 q hq
                refine⟨Kp.ofCells ?_ h5,by rw [Ç,þ];omega⟩
                simp only [World.cell?,k1,h5]
                simp only [Option.isSome_none,ß,í]
                rw [k3 q,È (by omega)]) k1 (by rw [k2,h6]) (by simp [h2]) hfl.row (by rw [Ç];exact hroom) h10 (fun q hq j hj=>by
                have hj':j<i.size:=by rw [<- hfl.row _ (Ú hq)];exact hj
                have hlt:=Nj hq hj'
                rw [Ç,þ] at hlt
                have hlt2:q*i.size+j<(us++vs).length:=by rw [Ç];omega
                have e:arr'.getD (q*i.size+j) Go.undef=(us++vs).getD (q*i.size+j) Go.undef:=by
                 rw [Ò,k3 (q*i.size+j),List.getD]
                 by_cases hc:0+xs.length*i.size<=q*i.size+j
                 . rw [Ê (by omega),ð (by omega)]
                   congr 2;omega
                 . rw [È (by omega),æ (by omega)]
                   have h14:=h12 (q*i.size+j) _ (Ë (show q*i.size+j<us.length by omega))
                   have h15:=h14.1
                   simp only [World.cell?,h5,ă] at h15
                   rw [Ë (show q*i.size+j<us.length by omega)]
                   simpa using ü (fun o=>Option.getD o Go.undef) h15
                rw [e]
                refine⟨hfl.v q hq j hj,?_⟩
                have:(us++vs).getD (q*i.size+j) Go.undef=(us++vs)[q*i.size+j]:=by simp only [List.getD];rw [Ë hlt2];rfl
                rw [this];exact hfl.one _ (Ú hlt2))
               rw [Ç] at hO
               exact⟨_,_,_,hex hr,hO,fun b hb=>k4 b (fun e=>hbφ (e ▸ hb))⟩
             . exact grow _ cap2 us h8 hfx (run_firstCells_some _ _ _ _ _ _ us hfx.len (fun j u hj=>by rw [addr_add];exact (h12 j u hj).1)) (by omega) (by simp [h2])
   . cases he
 . cases he
end
end Go.Vl
namespace Go.Vl
open Go Go.RowKit
def rowOf (p:PV):List PV:=(CN p).map B1
def KK (sz:Nat)(p:PV):Bool:=(CN p).length == sz&&((IM p||OB p)&&PV.fitsL 0 (CN p))
def Ff (P:Program)(t len:Nat)(parts:List (Nat×PV))(st:St)(d:Nat):Option (Bool×St) :=
 match apT P t with
 |some (sz,_)=>some (decide (parts.map (·.1)=List.range len/\len*sz<=16777216)&&parts.all (fun p=>KK sz p.2),st.put (some d) (if len=0 then .sl [] .full else .sl (parts.map fun p=>rowOf p.2) .own))
 |none=>none
def Hd (P:Program)(t len:Nat)(parts:List (Nat×PV))(st:St)(d:Nat):Option (Bool×St) :=
 match apT P t with
 |some (sz,_)=>some (decide (parts.map (·.1)=List.range len/\len*sz<=16777216)&&parts.all (fun p=>KK sz p.2),if t=Aiw then (if len=0 then st.put (some d) (.sl [] .full) else (st.put (some d) (.sl (parts.map fun p=>rowOf p.2) .own)).put (some d) (.sl (parts.map fun p=>rowOf p.2) .full)) else st.put (some d) (if len=0 then .sl [] .full else .sl (parts.map fun p=>rowOf p.2) .own))
 |none=>none
section
variable {w w' w0:World} {G G' G0:Gh} {P:Program} {p q:PV} {v u:Value} {st st':St} {a:Act} {o:Oper} {d:Nat} {U:Nat->Nat->Prop} {φ:List Nat}
theorem Ut (h:V w U φ (LG p) v):V w U φ (B1 p) v:=by
 unfold LG at h
 split at h
 . obtain⟨rfl,rfl⟩:=Mo h
   exact .nil _ _
 . exact h.tag (by simp) (by simp)
 . exact h
theorem Re {N:Nat}(h:p.fits N=true):(B1 p).fits N=true:=by
 cases p<;>first|exact h|rfl
theorem SO (sz:Nat):∀ (parts:List (Nat×PV)) (k:Nat) (done:List PV),done.length=k*sz->parts.map (·.1)=List.range' k parts.length->parts.all (fun p=>KK sz p.2)=true ->
 NX (fun i=>some (i*sz,sz)) (done++List.replicate (parts.length*sz) .undef) parts=some (done++(parts.map fun p=>(CN p.2).map LG).flatten)
 | [],k,done,_,_,_=>by simp [NX]
 |(i,p)::parts,k,done,hd,hi,hok=>by
  simp only [ã,Æ,List.range'_succ,List.cons.injEq] at hi
  obtain⟨rfl,hi2⟩:=hi
  simp only [ĉ,Ã,KK,ó] at hok
  obtain⟨⟨h1,h2,h3⟩,h4⟩:=hok
  have hbnd:i*sz+sz<=(done++List.replicate ((parts.length+1)*sz) PV.undef).length:=by
   simp [hd,þ]
  simp only [NX,Æ]
  rw [Ê ⟨h1,hbnd,by simpa using h2⟩]
  have e1:(done++List.replicate ((parts.length+1)*sz) PV.undef).take (i*sz)=done:=by
   rw [<- hd];simp
  have e2:(done++List.replicate ((parts.length+1)*sz) PV.undef).drop (i*sz+sz)=List.replicate (parts.length*sz) PV.undef:=by
   rw [List.drop_append,Ă (by omega),ö,hd,List.drop_replicate]
   congr 1
   rw [þ];omega
  rw [e1,e2]
  have hd2:(done++(CN p).map LG).length=(i+1)*sz:=by
   rw [Ç,hd,Ó,h1,þ,Nat.one_mul]
  have ih:=SO sz parts (i+1) (done++(CN p).map LG) hd2 hi2 (by simpa [KK] using h4)
  rw [ih]
  simp
theorem Ps {sz:Nat}:∀ (rows:List (List PV)),(∀ x∈rows,x.length=sz)->∀ i (hi:i<rows.length) j (hj:j<(rows[i]).length),(rows.flatten)[i*sz+j]?=some rows[i][j]
 | [],_,i,hi,_,_=>by simp at hi
 |x::rows,h,i,hi,j,hj=>by
  have hx:=h x (by simp)
  rw [List.flatten_cons]
  cases i with
  |zero =>
   simp only [Nat.zero_mul,ă]
   have hj':j<x.length:=hj
   rw [æ hj',Ë hj'];rfl
  |succ i =>
   have hi':i<rows.length:=by simpa using hi
   have hj':j<(rows[i]).length:=by simpa using hj
   rw [ð (by rw [hx,þ];omega),hx]
   have:=Ps rows (fun y hy=>h y (by simp [hy])) i hi' j hj'
   rw [show (i+1)*sz+j-sz=i*sz+j by rw [þ];omega,this];rfl
theorem Pr {sz:Nat}:∀ (rows:List (List PV)),(∀ x∈rows,x.length=sz)->rows.flatten.length=rows.length*sz
 | [],_=>by simp
 |x::rows,h=>by
  rw [List.flatten_cons,Ç,h x (by simp),Pr rows (fun y hy=>h y (by simp [hy])),Æ,þ];omega
theorem VI (z:Array Value)(i:Nat)(hall:z.toList.all Value.oneCell'=true)(hi:i<z.size):(z[i]!).oneCell'=true:=by
 rw [Ü] at hall
 rw [getElem!_pos z i hi]
 exact hall _ (by simp)
theorem V.fullOf {xs:List (List PV)}{A:Option Addr}(h:V w U φ (.sl xs .own) (.slice A xs.length xs.length)):V w U φ (.sl xs .full) (.slice A xs.length xs.length):=by
 generalize hn:xs.length=n at h
 generalize hv:Value.slice A n n=v at h
 cases h with
 |nil=>exact .nil _ _
 |emp _ _ b o k hg=>exact .emp _ _ _ _ _ (by simp)
 |sl _ _ _ b o sz cap us hc hm hs hU hw h1 hvv hf hg =>
  simp only [Value.slice.injEq] at hv
  obtain⟨_,h2,h3⟩:=hv
  exact .sl _ _ _ b o sz cap us hc hm hs hU hw h1 hvv (fun _=>by omega) (by simp)
theorem Ob {t len:Nat}{parts:List (Nat×PV)}{vals:Array (Nat×Value)}(h:Inv w0 G0 st (fun t=>a.tmps.getD t Go.undef) w G)(hl:parts.length=vals.size)
 (hv:∀ (j:Nat) (p:Nat×PV) (v:Nat×Value),parts[j]?=some p->vals[j]?=some v->p.1=v.1/\V w G.U G.φ p.2 v.2) (he:Ff P t len parts st d=some (true,st')) :
 ∃ v w' G',((Instr.buildSlice t len vals).run P w=.ok v w'/\(len≠0->∃ A,v=.slice A parts.length parts.length))/\Inv w0 G0 st' (H6 (fun t=>a.tmps.getD t Go.undef) d v) w' G'/\∀ b∈G.φ,w'.heap[b]?=w.heap[b]?:=by
 unfold Ff at he
 split at he
 . rename_i sz bytes hap
   simp only [Å,Ï,Ã,Í] at he
   obtain⟨⟨⟨hidx,hbig⟩,hok⟩,rfl⟩:=he
   obtain⟨e,i,z,hu,hi,hz,rfl,rfl,hzs,hpos,hone⟩:=R5 hap
   have hlen:parts.length=len:=by have:=ü List.length hidx;simpa using this
   have hzero:(P.info? e).bind (·.zero)=some z:=by rw [hi];exact hz
   have hszr:PH P e=some i.size:=by simp [PH,hi]
   by_cases h0:len=0
   . subst h0
     rw [Ê rfl]
     have hv0:vals = #[]:=by
      have:vals.size=0:=by omega
      exact ĩ this
     subst hv0
     refine⟨.slice (some ⟨w.heap.size,0,none⟩) 0 0,w.alloc (.cells #[] e),G,⟨?_,fun hne=>absurd rfl hne⟩,?_,fun b hb=>ô _ _ _ (h.store.lt hb)⟩
     . simp only [Instr.buildSlice,Ô,á hu,Ì,FX hszr,Nat.zero_mul,ĭ]
       simp [Instr.fill,PL,Array.range_zero']
     . have h1:Inv w0 G0 st (fun t=>a.tmps.getD t Go.undef) (w.alloc (.cells #[] e)) G:=by
        have hb:Below w.heap.size w (w.alloc (.cells #[] e)):=(Below.refl _ _).alloc (Õ _) _
        have hnb:=h.newBlock (cs:=[]) (arr:=#[]) (T:=e) (by simp) ⟨rfl,fun i hi=>by simp at hi⟩ (fun j c hj=>by simp at hj)
        have hcell:∀ b i,G.U b i->G.U b i/\Kp w (w.alloc (.cells #[] e)) b i:=fun b i hu=>⟨hu,Kp.of (ô _ _ _ (h.store.ub b i hu))⟩
        have hext:Ext w G (w.alloc (.cells #[] e)) G:=⟨rfl,rfl,rfl,by simp,fun k hk _ _=>ô _ _ _ hk,hcell,fun b i hu=>.inl hu,fun b hb=>.inr hb,[],by simp,by simp⟩
        have ownK:∀ l xs v,AB w G l xs v->AB (w.alloc (.cells #[] e)) G l xs v:=fun l xs v ho=>ho.alloc _ rfl rfl
        refine⟨h.ext.trans hext,⟨h.store.len,h.store.nodup,fun k b cs h1 h2=>?_,fun b i hu=>by have:=h.store.ub b i hu;simp;omega,fun b hb=>by have:=h.store.ob b hb;exact⟨by simp;omega,this.2⟩⟩,fun t=>(h.env.v t).mono hcell (fun _ _ h=>h),fun t=>?_⟩
        . obtain⟨⟨T2,arr2,h3,h4,h5⟩,h6⟩:=h.store.blk k b cs h1 h2
          refine⟨⟨T2,arr2,(ô _ _ _ (Array.getElem?_eq_some_iff.1 h3).1).trans h3,⟨h4.1.mono hcell,h4.2⟩,fun j c hj=>?_⟩,h6⟩
          obtain⟨v,h7,h8,h9,h10⟩:=h5 j c hj
          refine⟨v,h7,h8,h9.mono hcell (fun _ _ h=>h),?_⟩
          unfold Df at h10 ⊢
          split
          . exact ownK _ _ _ h10
          . trivial
        . have ht:=h.env.tag t
          revert ht
          generalize st.get t=q
          intro ht
          cases q with
          |sl xs g =>
           cases g with
           |own=>exact ownK _ _ _ ht
           |view m =>
            cases m with
            |cell k j =>
             obtain⟨cs,b,h1,h2,h3,h4⟩:=ht
             obtain⟨⟨T',arr',h5,_⟩,_⟩:=h.store.blk k b cs h3 h1
             exact⟨cs,b,h1,h2,h3,by rw [R0 (Array.getElem?_eq_some_iff.1 h5).1];exact h4⟩
            |_=>exact ht
           |_=>trivial
          |tup cs =>
           intro i xs hi
           obtain⟨arr,u,h1,h2,h3⟩:=ht i xs hi
           exact⟨arr,u,h1,h2,ownK _ _ _ h3⟩
          |_=>trivial
       exact h1.putPlain d (.sl _ [] .full w.heap.size 0 i.size 0 (fun _ _=>Go.undef) (by simp) (by omega) (by simp) (by simp) (by simp) (by simp) (by simp) (by simp) (by simp)) rfl
   . rw [È h0]
     have hlen0:0<parts.length:=by omega
     have hfill:=SO i.size parts 0 [] (by simp) (by rw [hidx,List.range_eq_range',hlen]) hok
     simp only [ö] at hfill
     -- the cells as they begin
     have hstart:E9 w G (List.replicate (parts.length*i.size) .undef) ((Array.range (len*i.size)).map (z.cells[· % z.cells.size]!)):=by
      refine⟨by simp [hlen],fun q hq=>?_⟩
      have hq':q<len*i.size:=by simpa [hlen] using hq
      refine⟨by simp only [List.getElem_replicate];exact .undef _ _,?_⟩
      have e1:((Array.range (len*i.size)).map (z.cells[· % z.cells.size]!)).getD q Go.undef=z.cells[q % z.cells.size]!:=by simp [hq']
      rw [e1]
      exact VI _ _ hone (Nat.mod_lt _ (by omega))
     obtain⟨arr',ha,hc⟩:=Rg parts vals.toList _ _ _ hstart (by simpa using hl) (fun j p v h1 h2=>hv j p v h1 (by simpa using h2)) hfill
     have hrun:(Instr.buildSlice t len vals).run P w=.ok (.slice (some ⟨w.heap.size,0,none⟩) len len) (w.alloc (.cells arr' e)):=by
      have hn0:¬ len*i.size=0:=by
       have:=Nat.mul_pos (show 0<len by omega) hpos
       omega
      simp only [Instr.buildSlice,Ô,á hu,Ì,FX hszr,ĭ]
      rw [È (by omega)]
      simp only [Ù,Ì,hn0,í,PX hzero]
      rw [ha]
      simp only [Ô,PL,Ì,Ù]
     have hrowlen:∀ x∈parts.map (fun p=>(CN p.2).map LG),x.length=i.size:=by
      intro x hx
      obtain⟨p,hp,rfl⟩:=List.mem_map.1 hx
      rw [Ü] at hok
      have:=hok p hp
      simp only [KK,Ã,ó] at this
      simpa using this.1
     have hflat:Flat w G.U (parts.map fun p=>rowOf p.2) i.size arr'.toList:=by
      refine⟨by simp [hc.size,Pr _ hrowlen],fun x hx=>?_,fun q hq j hj=>?_,fun u hu=>?_⟩
      . obtain⟨p,hp,rfl⟩:=List.mem_map.1 hx
        rw [Ü] at hok
        have:=hok p hp
        simp only [KK,Ã,ó] at this
        simpa [rowOf] using this.1
      . have hq':q<parts.length:=by simpa using hq
        have e1:(parts.map fun p=>rowOf p.2)[q]=rowOf (parts[q]).2:=by simp
        rw [e1] at hj
        have hj2:j<(CN (parts[q]).2).length:=by simpa [rowOf] using hj
        have e2:=Ps _ hrowlen q (by simpa using hq') j (by simpa using hj2)
        have hlt:=(List.getElem?_eq_some_iff.1 e2)
        have h5:=hc.v _ hlt.1
        rw [hlt.2] at h5
        have e3:arr'.toList.getD (q*i.size+j) Go.undef=arr'.getD (q*i.size+j) Go.undef:=by simp [List.getD]
        rw [e3]
        simp only [e1]
        have e4:(rowOf (parts[q]).2)[j]=B1 ((CN (parts[q]).2)[j]):=by simp [rowOf]
        rw [e4]
        have h6:=h5.1
        simp only [ï] at h6
        have hok2:=hok
        rw [Ü] at hok2
        have h7:=hok2 _ (Ú hq')
        simp only [KK,Ã] at h7
        exact (Ut h6).pure (Re (Eb h7.2.2 j hj2))
      . obtain⟨q,hq,rfl⟩:=Č hu
        have hq':q<arr'.size:=by simpa using hq
        have:=(hc.v q (by rw [<- hc.size];exact hq')).2
        simpa [hq'] using this
     have hnerow:(parts.map fun p=>rowOf p.2)≠[]:=by
      grind [rowOf,List.length_map]
     obtain⟨G',hG⟩:=h.newOwn (d:=d) (cap:=len) (rest:=#[]) (T:=e) hflat hnerow (by simp [hlen]) (by simp [hlen]) (Nat.le_trans (Nat.le_mul_of_pos_right len hpos) (Nat.le_trans hbig (by decide))) false
     simp only [Ó,hlen] at hG
     simp only [ß,í,Array.append_empty,ò] at hG
     exact⟨_,_,G',⟨hrun,fun _=>⟨_,by rw [hlen]⟩⟩,hG,fun b hb=>ô _ _ _ (h.store.lt hb)⟩
 . cases he
theorem OI {t len:Nat}{parts:List (Nat×PV)}{vals:Array (Nat×Value)}(h:Inv w0 G0 st (fun t=>a.tmps.getD t Go.undef) w G)(hl:parts.length=vals.size)
 (hv:∀ (j:Nat) (p:Nat×PV) (v:Nat×Value),parts[j]?=some p->vals[j]?=some v->p.1=v.1/\V w G.U G.φ p.2 v.2) (he:Hd P t len parts st d=some (true,st')) :
 ∃ v w' G',(Instr.buildSlice t len vals).run P w=.ok v w'/\Inv w0 G0 st' (H6 (fun t=>a.tmps.getD t Go.undef) d v) w' G'/\∀ b∈G.φ,w'.heap[b]?=w.heap[b]?:=by
 cases h0:Ff P t len parts st d with
 |none=>unfold Ff at h0;unfold Hd at he;split at h0<;>rename_i hh<;>simp_all
 |some r =>
  obtain⟨c,st0⟩:=r
  unfold Hd at he
  have e0:=h0
  unfold Ff at e0
  split at he
  . rename_i sz bytes hap
    rw [hap] at e0
    simp only [Å,Ï] at he e0
    obtain⟨hc,he⟩:=he
    rw [hc] at e0
    obtain⟨rfl,e0⟩:=e0
    obtain⟨v,w',G',⟨h1,h2⟩,h3,h4⟩:=Ob h hl hv h0
    split at he
    . split at he
      . grind [Ff,Hd,H6]
      rename_i hf
      rw [È hf] at e0
      obtain⟨A,rfl⟩:=h2 hf
      refine⟨_,w',G',h1,?_,h4⟩
      rw [<- e0] at h3
      have hvd:=h3.env.v d
      rw [DS,Ê rfl] at hvd
      have hu:H6 (fun t=>a.tmps.getD t Go.undef) d (.slice A parts.length parts.length) d=.slice A parts.length parts.length:=Ê rfl
      rw [hu] at hvd
      have hlm:(parts.map fun p=>rowOf p.2).length=parts.length:=by simp
      rw [<- hlm] at hvd
      have h5:=h3.putPlain d (V.fullOf hvd) rfl
      rw [<- he]
      have e9:H6 (H6 (fun t=>a.tmps.getD t Go.undef) d (.slice A parts.length parts.length)) d (.slice A (parts.map fun p=>rowOf p.2).length (parts.map fun p=>rowOf p.2).length)=H6 (fun t=>a.tmps.getD t Go.undef) d (.slice A parts.length parts.length):=by
       funext x
       unfold H6
       rw [hlm]
       split<;>rfl
      rw [e9] at h5
      exact h5
    . rw [<- he,e0]
      exact⟨v,w',G',h1,h3,h4⟩
  . cases he
end
end Go.Vl
namespace Go.Vl
open Go Go.RowKit Go.MapKept
mutual
def MI:PV->Option Value
 |.lit v=>some v
 |.agg cs=>(QH cs).map fun l=>.agg l.toArray
 |.fno true f []=>some (.func (.func f) #[] #[])
 |_=>none
def QH:List PV->Option (List Value)
 | []=>some []
 |p::ps=>match MI p,QH ps with
  |some v,some l=>some (v::l)
  |_,_=>none
end
theorem QG:∀ {cs:List PV} {l:List Value},QH cs=some l->l.length=cs.length/\∀ i (h:i<cs.length),∃ v,l[i]?=some v/\MI cs[i]=some v
 | [],l,h=>by
  simp only [QH,Å] at h
  subst h
  exact⟨rfl,fun i hi=>by simp at hi⟩
 |p::ps,l,h=>by
  simp only [QH] at h
  split at h
  . rename_i v l2 h1 h2
    simp only [Å] at h
    subst h
    obtain⟨k1,k2⟩:=QG h2
    refine⟨by simp [k1],fun i hi=>?_⟩
    cases i with
    |zero=>exact⟨v,rfl,h1⟩
    |succ i=>exact k2 i (by simpa using hi)
  . cases h
theorem QI {w:World}{U:Nat->Nat->Prop}{φ:List Nat}{p:PV}{u:Value}(h:V w U φ p u):∀ {v:Value},MI p=some v->u=v:=by
 induction h with
 |lit φ v=>intro v' e;simp only [MI,Å] at e;exact e
 |agg φ cs arr hn h h1 ih =>
  intro v e
  simp only [MI,Option.map_eq_some_iff] at e
  obtain⟨l,e1,rfl⟩:=e
  obtain⟨k1,k2⟩:=QG e1
  congr 1
  refine Array.ext (by simp [hn,k1]) fun i hi1 hi2=>?_
  have hi:i<cs.length:=by rw [<- hn];exact hi1
  obtain⟨v,g1,g2⟩:=k2 i hi
  have:=ih i hi g2
  have e3:arr.getD i Go.undef=arr[i]:=by simp [hi1]
  rw [e3] at this
  rw [this]
  have:=(List.getElem?_eq_some_iff.1 g1).2
  simp [this]
 |fno φ f caps arr hn h ih =>
  intro v e
  cases caps with
  |nil =>
   simp only [MI,Å] at e
   have:arr = #[]:=ĩ hn
   rw [this];exact e
  |cons a r=>simp [MI] at e
 |_=>intro v e;simp [MI] at e
def SU (P:Program)(t:TypeId):Bool :=
 match P.underlying t with
 |some (.interface _)=>false
 |some _=>true
 |none=>false
theorem run_makeInterface {P:Program}{t:TypeId}(h:SU P t=true)(v:Value)(w:World):(Instr.makeInterface t v).run P w=.ok (.iface t v) w:=by
 unfold SU at h
 cases hu:P.underlying t with
 |none=>rw [hu] at h;cases h
 |some d =>
  rw [hu] at h
  simp only [Instr.makeInterface,Ô,á hu,Ì]
  cases d<;>first|rfl|cases h
theorem Qv {P:Program}{t x:TypeId}(h:SU P t=true)(v:Value)(w:World):(Instr.typeAssert (.iface t v) x t true).run P w=.ok (.tuple #[v,.bool true]) w:=by
 unfold SU at h
 cases hu:P.underlying t with
 |none=>rw [hu] at h;cases h
 |some d =>
  rw [hu] at h
  simp only [Instr.typeAssert,Ô,á hu,Ì]
  cases d<;>first|(simp;done)|cases h
def VD:Value->PV
 |.agg arr=>if arr.toList.all Value.oneCell'=true then .agg (arr.toList.map Gi) else .undef
 |v=>Gi v
theorem Ae7 {w:World}{U:Nat->Nat->Prop}{φ:List Nat}(v:Value):V w U φ (VD v) v:=by
 unfold VD
 split
 . rename_i arr
   split
   . rename_i h
     rw [Ü] at h
     refine .agg _ _ arr (by simp) (fun i hi=>?_) (fun i hi=>?_)
     . have hi2:i<arr.size:=by simpa using hi
       simp only [ï,Array.getElem_toList]
       rw [Ò,ý hi2]
       exact Me _
     . rw [Ò,ý hi]
       exact h _ (by simp)
   . exact .undef _ _
 . exact Me _
theorem Za (v:Value)(xs:List (List PV)):VD v≠.sl xs .own:=by
 unfold VD
 split
 . split<;>simp
 . unfold Gi
   split<;>(try split)<;>simp
def YS (P:Program)(t:TypeId):Option (TypeDesc×TypeId) :=
 match P.underlying t with
 |some (.map k e)=>(P.underlying k).map fun d=>(d,e)
 |_=>none
def LM:TypeDesc->Value->Bool
 |.bool,.bool _=>true
 |.int k,.int k' _=>k' == k
 |.string,.string _=>true
 |_,_=>false
theorem FO {d:TypeDesc}{v:Value}(h:LM d v=true):IsKey d v:=by
 unfold LM at h
 split at h
 . trivial
 . simpa [IsKey] using h
 . trivial
 . cases h
def Jq (d:TypeDesc)(k:Value):List (Value×Value)->Nat->Option (Option (Nat×Value))
 | [],_=>some none
 |e::es,i=>match Instr.sameNow d k e.1 with
  |some true=>some (some (i,e.2))
  |some false=>Jq d k es (i+1)
  |none=>none
theorem JN (d:TypeDesc)(k:Value):∀ (es:List MapEntry) (i:Nat),Jq d k (es.map fun e=>(e.key,e.val)) i=Instr.findNow d k es i
 | [],_=>rfl
 |e::es,i=>by
  simp only [ã,Jq,Instr.findNow]
  rw [JN d k es (i+1)]
  cases Instr.sameNow d k e.key with
  |none=>rfl
  |some b=>cases b<;>rfl
def Z8 (P:Program)(e:TypeId):Option Value:=(P.info? e).bind (·.zero)
def XY (st:St)(m:Operand):Option (Nat×List (Value×Value)) :=
 match Dh st m with
 |.mref b=>match st.σ[b]? with
  |some [.mp kvs]=>some (b,kvs)
  |_=>none
 |_=>none
def XX (st:St)(m:Operand):Option (List (Value×Value)) :=
 match Dh st m with
 |.vmp kvs=>some kvs
 |_=>(XY st m).map (·.2)
def Oa (P:Program)(t:TypeId)(m k:Operand)(ok:Bool)(st:St):Option (Bool×PV) :=
 match YS P t,XX st m,Dh st k with
 |some (d,e),some kvs,.lit kv =>
  match Jq d kv kvs 0 with
  |some (some (_,v))=>some (LM d kv,if ok then .tup [Gi v,.lit (.bool true)] else Gi v)
  |some none=>(Z8 P e).map fun z=>(LM d kv,if ok then .tup [Gi z,.lit (.bool false)] else Gi z)
  |none=>none
 |_,_,_=>none
def NZ (P:Program)(t:TypeId)(m k v:Operand)(st:St):Option (Bool×St) :=
 match YS P t,XY st m,Dh st k,MI (Dh st v) with
 |some (d,_),some (b,kvs),.lit kv,some vv =>
  match Jq d kv kvs 0 with
  |some none=>some (LM d kv,{ st with σ:=st.σ.set b [.mp (kvs++[(kv,vv)])] })
  |some (some (i,_))=>some (LM d kv&&kvs.all (fun e=>LM d e.1),{ st with σ:=st.σ.set b [.mp (kvs.set i (kv,vv))] })
  |none=>none
 |_,_,_,_=>none
def OG (P:Program)(t:TypeId)(r:Option Operand)(st:St)(d:Nat):Option (Bool×St) :=
 match YS P t,r with
 |some _,none=>some (true,({ st with σ:=st.σ++[[.mp []]] }:St).put (some d) (.mref st.σ.length))
 |some _,some x=>match Dh st x with
  |.lit (.int _ _)=>some (true,({ st with σ:=st.σ++[[.mp []]] }:St).put (some d) (.mref st.σ.length))
  |_=>none
 |_,_=>none
section
variable {w w' w0:World} {G G' G0:Gh} {P:Program} {p q:PV} {v u:Value} {st st':St} {a:Act} {o:Oper} {d:Nat}
theorem O7 {t e:TypeId}{dd:TypeDesc}(h:YS P t=some (dd,e)):∃ k,P.underlying t=some (.map k e)/\P.underlying k=some dd:=by
 grind [YS,Option.map_eq_some_iff]
theorem QF {m:Operand}{b:Nat}{kvs:List (Value×Value)}(h:Inv w0 G0 st (fun t=>a.tmps.getD t Go.undef) w G)(he:XY st m=some (b,kvs)) :
 ∃ r es c,G.φ[b]?=some r/\st.σ[b]?=some [.mp kvs]/\a.eval m=.map (some r)/\w.heap[r]?=some (.map es c)/\es.toList.map (fun e=>(e.key,e.val))=kvs/\Stp es c:=by
 have hm:=BO (a:=a) h.env m
 unfold XY at he
 split at he
 . rename_i b' hb
   rw [hb] at hm
   split at he
   . rename_i kvs' hs
     simp only [Å,Ï] at he
     obtain⟨rfl,rfl⟩:=he
     revert hm
     generalize a.eval m=z
     intro hm
     cases hm with
     |mref _ _ r hr =>
      obtain⟨⟨o',arr,h3,⟨hl,_⟩,_⟩,_⟩:=h.store.blk b' r _ hr hs
      rcases hl with⟨_,hl2⟩|⟨kvs2,es,c,e1,rfl,e2⟩|e1
      . exact absurd (hl2 (.mp kvs') (List.mem_singleton.2 rfl)) (by simp [PV.isM])
      rotate_left
      . simp at e1
      . obtain rfl:kvs'=kvs2:=by simpa using e1
        exact⟨r,es,c,hr,hs,rfl,h3,e2⟩
   . cases he
 . cases he
theorem WO {m:Operand}{kvs:List (Value×Value)}(h:Inv w0 G0 st (fun t=>a.tmps.getD t Go.undef) w G)(he:XX st m=some kvs) :
 ∃ r es c,a.eval m=.map (some r)/\w.heap[r]?=some (.map es c)/\es.toList.map (fun e=>(e.key,e.val))=kvs:=by
 have hm:=BO (a:=a) h.env m
 unfold XX at he
 split at he
 . rename_i kvs' hb
   rw [hb] at hm
   obtain rfl:=Ac he
   revert hm
   generalize a.eval m=z
   intro hm
   cases hm with
   |vmp _ _ b es c hU hw hk hs=>exact⟨b,es,c,rfl,hw,hk⟩
 . obtain⟨⟨b,kvs'⟩,h1,rfl⟩:=Option.map_eq_some_iff.1 he
   obtain⟨r,es,c,_,_,h3,h4,h5,_⟩:=QF h h1
   exact⟨r,es,c,h3,h4,h5⟩
theorem TT {t:TypeId}{m k:Operand}{ok:Bool}(h:Inv w0 G0 st (fun t=>a.tmps.getD t Go.undef) w G)(he:Oa P t m k ok st=some (true,p)) :
 ∃ v,(Instr.lookup t (a.eval m) (a.eval k) ok).run P w=.ok v w/\V w G.U G.φ p v/\(plain p=true∨∃ x b,p=.tup [Gi x,.lit b]):=by
 unfold Oa at he
 have hk:=BO (a:=a) h.env k
 split at he
 . rename_i dd e kvs kv hmt hma hok
   rw [hok] at hk
   obtain⟨r,es,c,h3,h4,h5⟩:=WO h hma
   obtain⟨kt,u1,u2⟩:=O7 hmt
   have hkv:a.eval k=kv:=by
    revert hk;generalize a.eval k=z;intro hk
    cases hk;rfl
   rw [h3,hkv]
   have habs:∀ x,plain (Gi x)=true:=fun x=>by unfold Gi;split<;>(try split)<;>rfl
   have fin:∀ (x:Value) (b:Bool),V w G.U G.φ (if ok then .tup [Gi x,.lit (.bool b)] else Gi x) (if ok then .tuple #[x,.bool b] else x)/\(plain (if ok then .tup [Gi x,.lit (.bool b)] else Gi x)=true∨∃ y c,(if ok then .tup [Gi x,.lit (.bool b)] else Gi x)=PV.tup [Gi y,.lit c]):=fun x b=>by
    cases ok with
    |true =>
     refine⟨.tup _ _ _ rfl fun i hi=>?_,.inr ⟨x,.bool b,rfl⟩⟩
     match i,hi with
     |0,_=>exact Me x
     |1,_=>exact .lit _ _
    |false=>exact⟨Me x,.inl (habs x)⟩
   split at he
   . rename_i i v hf
     simp only [Å,Ï] at he
     obtain⟨hkey,rfl⟩:=he
     rw [<- h5,JN] at hf
     refine⟨_,?_,fin v true⟩
     simp only [Instr.lookup,Ô,á u1,Ì,MapKept.run_getObj_map h4,Ù,run_checkKey u2 (FO hkey),run_findKey u2 hf]
     all_goals (cases ok<;>rfl)
   . rename_i hf
     obtain⟨z,hz,he2⟩:=Option.map_eq_some_iff.1 he
     simp only [Ï] at he2
     obtain⟨hkey,rfl⟩:=he2
     rw [<- h5,JN] at hf
     refine⟨_,?_,fin z false⟩
     simp only [Instr.lookup,Ô,á u1,Ì,MapKept.run_getObj_map h4,Ù,run_checkKey u2 (FO hkey),run_findKey u2 hf,PX hz]
     all_goals (cases ok<;>rfl)
   . cases he
 . cases he
theorem Inv.newMap (h:Inv w0 G0 st (fun t=>a.tmps.getD t Go.undef) w G) :
 ∃ G',Inv w0 G0 (({ st with σ:=st.σ++[[.mp []]] }:St).put (some d) (.mref st.σ.length)) (H6 (fun t=>a.tmps.getD t Go.undef) d (.map (some w.heap.size))) (w.alloc (.map #[] 0)) G':=by
 obtain⟨h1,h2⟩:=Inv.newObj (cs:=[.mp []]) (arr:=#[.bool false]) (o:=.map #[] 0) (.inr (.inl ⟨[],#[],0,rfl,rfl,rfl,by simp [Stp]⟩)) h ⟨rfl,fun i hi=>by
  match i,hi with
  |0,_=>exact⟨.mp _ _ _,rfl⟩⟩ (fun j c hj=>by
  match j,hj with
  |0,hj=>cases hj;trivial)
 exact⟨_,h1.putPlain d (.mref _ _ _ h2) rfl⟩
theorem RQ {t:TypeId}{r:Option Operand}(h:Inv w0 G0 st (fun t=>a.tmps.getD t Go.undef) w G)(he:OG P t r st d=some (true,st')) :
 ∃ v w' G',(Instr.makeMap t (r.map a.eval)).run P w=.ok v w'/\Inv w0 G0 st' (H6 (fun t=>a.tmps.getD t Go.undef) d v) w' G'/\∀ b∈G.φ,w'.heap[b]?=w.heap[b]?:=by
 obtain⟨G',hG⟩:=Inv.newMap (d:=d) h
 have hkeep:∀ b∈G.φ,(w.alloc (.map #[] 0)).heap[b]?=w.heap[b]?:=fun b hb=>ô _ _ _ (h.store.lt hb)
 unfold OG at he
 split at he
 . simp only [Å,Ï,ÿ] at he
   subst he
   refine⟨.map (some w.heap.size),_,G',?_,hG,hkeep⟩
   simp only [Option.map_none,Instr.makeMap,Ô,Ù,run_newObj,Ì]
   rfl
 . rename_i y x hmt
   split at he
   . rename_i ik n hx
     simp only [Å,Ï,ÿ] at he
     subst he
     have hv:=BO (a:=a) h.env x
     rw [hx] at hv
     have hxe:a.eval x=.int ik n:=by
      revert hv;generalize a.eval x=z;intro hv
      cases hv;rfl
     obtain⟨dd,e⟩:=y
     obtain⟨kt,u1,_⟩:=O7 hmt
     refine⟨.map (some w.heap.size),_,G',?_,hG,hkeep⟩
     simp only [ì,hxe,Instr.makeMap,Ô,Ù,á u1,asInt,run_newObj,Ì]
     try rfl
   . cases he
 . cases he
theorem Ac2 {es:Array MapEntry}{c:Nat}{k v:Value}(h:Stp es c):Stp (es.push { key:=k,val:=v,born:=c }) (c+1):=by
 refine⟨fun x hx=>?_,?_⟩
 . rw [Array.toList_push,List.mem_append] at hx
   rcases hx with hx|hx
   . have:=h.1 x hx;omega
   . obtain rfl:=List.mem_singleton.1 hx;show c<c+1;omega
 . rw [Array.toList_push,Ě,Ģ]
   refine⟨h.2,by simp,fun a ha b hb e=>?_⟩
   obtain⟨x,hx,rfl⟩:=List.mem_map.1 ha
   have:=h.1 x hx
   simp at hb
   omega
theorem X8 {es:Array MapEntry}{c i:Nat}{k v:Value}(h:Stp es c):Stp (es.modify i fun e=>{ e with key:=k,val:=v }) c:=by
 have e:(es.modify i fun e=>{ e with key:=k,val:=v }).toList.map (·.born)=es.toList.map (·.born):=by
  rw [Array.toList_modify]
  refine List.ext_getElem? fun j=>?_
  simp only [â,List.getElem?_modify]
  split<;>cases es.toList[j]?<;>rfl
 refine⟨fun x hx=>?_,by rw [e];exact h.2⟩
 have:x.born∈(es.modify i fun e=>{ e with key:=k,val:=v }).toList.map (·.born):=List.mem_map.2 ⟨x,hx,rfl⟩
 rw [e] at this
 obtain⟨y,hy,e2⟩:=List.mem_map.1 this
 rw [<- e2];exact h.1 y hy
theorem Inv.setMap {b r:Nat}{kvs kvs':List (Value×Value)}{es es':Array MapEntry}{c c':Nat}(h:Inv w0 G0 st (fun t=>a.tmps.getD t Go.undef) w G)(h1:G.φ[b]?=some r)(h2:st.σ[b]?=some [.mp kvs])(h3:w.heap[r]?=some (.map es c))
 (h4:es'.toList.map (fun e=>(e.key,e.val))=kvs') (h5:Stp es' c') :
 Inv w0 G0 { st with σ:=st.σ.set b [.mp kvs'] } (fun t=>a.tmps.getD t Go.undef) { w with heap:=w.heap.setIfInBounds r (.map es' c') } G:=by
 obtain⟨k1,k2⟩:=MapKept.heap_set (o':=.map es' c') h3
 refine h.setObj (o:=.map es c) (o':=.map es' c') (arr':=#[.bool false]) h1 h2 h3 k1 (.inr (.inl ⟨kvs',es',c',rfl,rfl,h4,h5⟩)) k2 rfl rfl rfl ⟨rfl,fun i hi=>?_⟩ (fun j q hj=>?_) (fun t xs j v _ hj _=>?_)
 . match i,hi with
   |0,_=>exact⟨.mp _ _ _,rfl⟩
 . match j,hj with
   |0,hj=>cases hj;trivial
 . match j,hj with
   |0,hj=>cases hj
theorem NY {t:TypeId}{m k x:Operand}(h:Inv w0 G0 st (fun t=>a.tmps.getD t Go.undef) w G)(he:NZ P t m k x st=some (true,st')) :
 ∃ w' G',(Instr.mapUpdate t (a.eval m) (a.eval k) (a.eval x)).run P w=.ok () w'/\Inv w0 G0 st' (fun t=>a.tmps.getD t Go.undef) w' G':=by
 unfold NZ at he
 have hk:=BO (a:=a) h.env k
 have hx:=BO (a:=a) h.env x
 split at he
 . rename_i dd e b kvs kv vv hmt hma hok hlv
   rw [hok] at hk
   obtain⟨r,es,c,h1,h2,h3,h4,h5,h6⟩:=QF h hma
   obtain⟨kt,u1,u2⟩:=O7 hmt
   have hkv:a.eval k=kv:=by
    revert hk;generalize a.eval k=z;intro hk
    cases hk;rfl
   rw [h3,hkv,QI hx hlv]
   split at he
   . rename_i hf
     simp only [Å,Ï] at he
     obtain⟨hkey,rfl⟩:=he
     rw [<- h5,JN] at hf
     refine⟨_,G,?_,h.setMap (es':=es.push { key:=kv,val:=vv,born:=c }) (c':=c+1) h1 h2 h4 (by rw [Array.toList_push,Ě,h5];rfl) (Ac2 h6)⟩
     simp only [Instr.mapUpdate,Ô,á u1,Ì,MapKept.run_getObj_map h4,run_checkKey u2 (FO hkey),run_findKey u2 hf,MapKept.run_setObj_map _ h4]
   . rename_i i v0 hf
     simp only [Å,Ï,Ã] at he
     obtain⟨⟨hkey,hall⟩,rfl⟩:=he
     rw [<- h5,JN] at hf
     have hks:∀ x∈es.toList,IsKey dd x.key:=fun x hx=>by
      rw [Ü] at hall
      exact FO (hall (x.key,x.val) (by rw [<- h5];exact List.mem_map.2 ⟨x,hx,rfl⟩))
     rcases findNow_spec (FO hkey) es.toList 0 hks with⟨g1,_⟩|⟨j,e0,g1,g2,g3⟩
     . rw [hf] at g1;cases g1
     . rw [hf] at g1
       simp only [Å,Ï,ă] at g1
       obtain⟨rfl,rfl⟩:=g1
       have hj:es[i]?=some e0:=by simpa using g2
       refine⟨_,G,?_,h.setMap (es':=es.modify i fun e=>{ e with key:=kv,val:=vv }) (c':=c) h1 h2 h4 ?_ (X8 h6)⟩
       . simp [Instr.mapUpdate,á u1,MapKept.run_getObj_map h4,run_checkKey u2 (FO hkey),run_findKey u2 hf,hj,g3,run_keyThatStays (FO hkey),MapKept.run_setObj_map _ h4,Result.andThen]
       . rw [<- h5,Array.toList_modify]
         refine List.ext_getElem? fun j=>?_
         simp only [â,List.getElem?_modify,List.getElem?_set]
         by_cases hij:i=j
         . subst hij
           simp [g2]
           exact (Array.getElem?_eq_some_iff.1 hj).1
         . simp [hij]
   . cases he
 . cases he
end
end Go.Vl
namespace Go.Vl
open Go Go.RowKit
def Lg:Value->PV
 |.func (.func f) ⟨[]⟩ ⟨[]⟩=>.fno true f []
 |v=>Gi v
theorem Uu {w:World}{U:Nat->Nat->Prop}{φ:List Nat}(v:Value):V w U φ (Lg v) v:=by
 unfold Lg
 split
 . exact .fno _ _ _ _ rfl (fun i hi=>by simp at hi)
 . exact Me v
theorem Acs (v:Value)(xs:List (List PV)):Lg v≠.sl xs .own:=by
 unfold Lg
 split
 . simp
 . unfold Gi
   split<;>(try split)<;>simp
def TQ (P:Program)(t:TypeId)(x:Operand)(st:St)(d:Nat):Option (Bool×St) :=
 match P.underlying t,Dh st x with
 |some (.map _ _),.vmp kvs=>some (true,({ st with σ:=st.σ++[[.mit kvs []]] }:St).put (some d) (.ptr st.σ.length 0))
 |_,_=>none
def LL (st:St)(x:Operand):Option (Nat×List (Value×Value)×List Nat) :=
 match Dh st x with
 |.ptr k 0=>match st.σ[k]? with
  |some [.mit kvs seen]=>some (k,kvs,seen)
  |_=>none
 |_=>none
def PR (x:Operand)(st:St)(d:Nat):Option (Bool×St) :=
 match LL st x with
 |some (_,kvs,seen)=>(seen.getLast?.bind fun i=>kvs[i]?).map fun e=>(true,st.put (some d) (.tup [Lg e.1,Lg e.2]))
 |_=>none
section
variable {w w' w0:World} {G G' G0:Gh} {P:Program} {p q:PV} {v u:Value} {st st':St} {a:Act} {o:Oper} {d:Nat}
theorem Ext.drew (h:Ext w0 G0 w G):Ext w0 G0 w.drew G:=⟨h.os,h.tape,h.output,h.size,h.frame,h.cells,h.newU,h.newΩ,h.phi⟩
theorem Ext.drew0 (_:Ext w0 G0 w G):Ext w G w.drew G:=(Ext.refl w G).drew
theorem Inv.drew {tm:Nat->Value}(h:Inv w0 G0 st tm w G):Inv w0 G0 st tm w.drew G:=by
 have hV:∀ {φ p v},V w G.U φ p v->V w.drew G.U φ p v:=fun h=>h.mono (w':=w.drew) (U':=G.U) (fun _ _ h=>⟨h,rfl,fun _ _ e=>e⟩) (fun _ _ h=>h)
 refine⟨h.ext.drew,⟨h.store.len,h.store.nodup,fun k b cs h1 h2=>?_,h.store.ub,h.store.ob⟩,fun t=>hV (h.env.v t),fun t=>?_⟩
 . obtain⟨⟨T,arr,h3,h4,h5⟩,h6⟩:=h.store.blk k b cs h1 h2
   refine⟨⟨T,arr,h3,⟨h4.1.mono (w':=w.drew) (U':=G.U) (fun _ _ h=>⟨h,rfl,fun _ _ e=>e⟩),h4.2⟩,fun j c hc=>?_⟩,h6⟩
   obtain⟨v,h7,h8,h9,h10⟩:=h5 j c hc
   refine⟨v,h7,h8,hV h9,?_⟩
   unfold Df at h10 ⊢
   split
   . exact h10
   . trivial
 . have ht:=h.env.tag t
   revert ht
   generalize st.get t=q
   intro ht
   cases q with
   |sl xs g =>
    cases g with
    |view m=>cases m<;>exact ht
    |_=>exact ht
   |_=>exact ht
theorem Ahx {w:World}{G:Gh}{st:St}{tm:Nat->Value}{t:Nat}(x y:Value)(l:List PV)(r:Value)(hl:∀ p∈l,∀ xs,p≠.sl xs .own):Gj w G st tm t (.tup (l++[Lg x,Lg y])) r:=by
 intro i xs hi
 all_goals grind [List.mem_of_getElem?,Acs]
theorem VT {t:TypeId}{x:Operand}(h:Inv w0 G0 st (fun t=>a.tmps.getD t Go.undef) w G)(he:TQ P t x st d=some (true,st')) :
 ∃ v w' G',(Instr.range t (a.eval x)).run P w=.ok v w'/\Inv w0 G0 st' (H6 (fun t=>a.tmps.getD t Go.undef) d v) w' G'/\∀ b∈G.φ,w'.heap[b]?=w.heap[b]?:=by
 have hx:=BO (a:=a) h.env x
 unfold TQ at he
 split at he
 . rename_i kt et kvs hu hb
   simp only [Å,Ï,ÿ] at he
   subst he
   rw [hb] at hx
   revert hx
   generalize a.eval x=z
   intro hx
   cases hx with
   |vmp _ _ bm es c hU hw hk hs =>
   obtain⟨h1,h2⟩:=Inv.newObj (cs:=[.mit kvs []]) (arr:=#[.bool false]) (o:=.mapIter (some bm) c #[] c) (.inr (.inr ⟨kvs,[],rfl,bm,es,c,#[],rfl,hU,hw,hk,hs,rfl,by simp⟩)) h ⟨rfl,fun i hi=>by
    match i,hi with
    |0,_=>exact⟨.mit _ _ _ _,rfl⟩⟩ (fun j c hj=>by
    match j,hj with
    |0,hj=>cases hj;trivial)
   refine⟨.pointer (some ⟨w.heap.size,0,none⟩),_,_,?_,h1.putPlain d (.ptr _ _ _ _ h2) rfl,fun b hb=>ô _ _ _ (h.store.lt hb)⟩
   exact run_range_map w t kt et bm es c hu hw
 . cases he
theorem Po {x:Operand}{k:Nat}{kvs:List (Value×Value)}{seen:List Nat}(h:Inv w0 G0 st (fun t=>a.tmps.getD t Go.undef) w G)(he:LL st x=some (k,kvs,seen)) :
 ∃ r bm es c sn,G.φ[k]?=some r/\st.σ[k]?=some [.mit kvs seen]/\a.eval x=.pointer (some ⟨r,0,none⟩)/\w.heap[r]?=some (.mapIter (some bm) c sn c)/\G.U bm 0/\w.heap[bm]?=some (.map es c)/\es.toList.map (fun e=>(e.key,e.val))=kvs/\Stp es c /\
  sn.toList=seen.map (fun i=>(es.toList.map (·.born)).getD i 0)/\∀ j∈seen,j<kvs.length:=by
 have hm:=BO (a:=a) h.env x
 unfold LL at he
 split at he
 . rename_i k' hb
   rw [hb] at hm
   split at he
   . rename_i kvs' seen' hs
     simp only [Å,Ï] at he
     obtain⟨rfl,rfl,rfl⟩:=he
     revert hm
     generalize a.eval x=z
     intro hm
     cases hm with
     |ptr _ _ _ r hr =>
      obtain⟨⟨o',arr,h3,⟨hl,_⟩,_⟩,_⟩:=h.store.blk k' r _ hr hs
      rcases hl with⟨_,hl2⟩|⟨kvs2,es,c,e1,rfl,e2⟩|⟨kvs2,seen2,e1,bm,es,c,sn,e2,e3,e4,e5,e6,e7,e8⟩
      . exact absurd (hl2 (.mit kvs' seen') (List.mem_singleton.2 rfl)) (by simp [PV.isM])
      . simp at e1
      . grind [LL]
   . cases he
 . cases he
theorem TN {es:Array MapEntry}{i:Nat}{x:Value×Value}(hx:(es.toList.map fun e=>(e.key,e.val))[i]?=some x):∃ e∈es.toList,(e.key,e.val)=x/\(es.toList.map (·.born)).getD i 0=e.born:=by
 grind
theorem VX {x:Operand}(h:Inv w0 G0 st (fun t=>a.tmps.getD t Go.undef) w G)(he:PR x st d=some (true,st')) :
 ∃ v,(Instr.entry (a.eval x)).run P w=.ok v w/\Inv w0 G0 st' (H6 (fun t=>a.tmps.getD t Go.undef) d v) w G:=by
 unfold PR at he
 split at he
 . rename_i k kvs seen hi
   obtain⟨r,bm,es,c,sn,h1,h2,h3,h4,h5,h6,h7,h8,h9,h10⟩:=Po h hi
   obtain⟨⟨k1,v1⟩,he1,he2⟩:=Option.map_eq_some_iff.1 he
   simp only [Ï,ÿ] at he2
   subst he2
   obtain⟨i,g1,g2⟩:=Option.bind_eq_some_iff.1 he1
   rw [<- h7] at g2
   obtain⟨e,e1,e2,e3⟩:=TN g2
   obtain⟨l,rfl⟩:∃ l,seen=l++[i]:=List.getLast?_eq_some_iff.1 g1
   have hsn:sn=(l.map fun i=>(es.toList.map (·.born)).getD i 0).toArray.push e.born:=by
    apply Array.ext'
    rw [h9,Ě,Array.toList_push,ã,e3];rfl
   simp only [Ï] at e2
   refine⟨.tuple #[k1,v1],?_,?_⟩
   . rw [h3,<- e2.1,<- e2.2]
     exact run_entry_at w r bm c _ es c e (by rw [h4,hsn]) h6 e1 h8.2
   . refine h.put d (.tup _ _ _ rfl (fun j hj=>?_)) (Ahx k1 v1 [] _ (by simp))
     match j,hj with
     |0,_=>exact Uu _
     |1,_=>exact Uu _
 . cases he
theorem Aaw {x:Operand}{k:Nat}{kvs:List (Value×Value)}{seen:List Nat}(ty:TypeId)(h:Inv w0 G0 st (fun t=>a.tmps.getD t Go.undef) w G)(hi:LL st x=some (k,kvs,seen)) :
 ((∀ i,i<kvs.length->i∈seen)/\(Instr.next (a.eval x) false ty).run P w=.ok (.tuple #[.bool false]) w/\Inv w0 G0 (st.put (some d) (.tup [.lit (.bool false)])) (H6 (fun t=>a.tmps.getD t Go.undef) d (.tuple #[.bool false])) w G) ∨
 ∃ i,∃ hl:i<kvs.length,∃ w',i∉seen/\(Instr.next (a.eval x) false ty).run P w=.ok (.tuple #[.bool true,kvs[i].1,kvs[i].2]) w' /\
  Inv w0 G0 (({ st with σ:=st.σ.set k [.mit kvs (seen++[i])] }:St).put (some d) (.tup [.lit (.bool true),Lg kvs[i].1,Lg kvs[i].2])) (H6 (fun t=>a.tmps.getD t Go.undef) d (.tuple #[.bool true,kvs[i].1,kvs[i].2])) w' G:=by
 obtain⟨r,bm,es,c,sn,h1,h2,h3,h4,h5,h6,h7,h8,h9,h10⟩:=Po h hi
 have hborn:∀ i e,es.toList[i]?=some e->(es.toList.map (·.born)).getD i 0=e.born:=fun i e he=>by rw [List.getD,â,he];rfl
 have hlen:es.toList.length=kvs.length:=by rw [<- h7,Ó]
 rw [h3]
 rcases run_next_at (P:=P) w ty r bm c c sn es c h4 h6 (fun x hx=>h8.1 x hx) (Õ _) with⟨k1,k2⟩|⟨e,k1,w1,k2,k3⟩
 . left
   refine⟨fun i hi=>?_,k2,h.put d (.tup _ _ _ rfl (fun j hj=>?_)) ?_⟩
   . have hi2:i<es.toList.length:=by rw [hlen];exact hi
     have hmem:=Ú hi2
     have hc:sn.contains (es.toList[i]).born=true:=by
      by_cases hcc:sn.contains (es.toList[i]).born=true
      . exact hcc
      . exfalso
        have:(leftOf es sn) = #[]:=ĩ k1
        unfold leftOf at this
        rw [Array.filter_eq_empty_iff] at this
        exact this _ (Array.mem_toList_iff.1 hmem) (by rw [Bool.not_eq_true] at hcc;rw [hcc];rfl)
     have hm2:(es.toList[i]).born∈sn.toList:=by simpa using hc
     rw [h9] at hm2
     obtain⟨j,j1,j2⟩:=List.mem_map.1 hm2
     have hj3:j<es.toList.length:=by rw [hlen];exact h10 j j1
     rw [hborn j _ (Ë hj3)] at j2
     have hnd:=h8.2
     have:j=i:=by
      have a1:(es.toList.map (·.born))[j]'(by simpa using hj3)=(es.toList.map (·.born))[i]'(by simpa using hi2):=by simpa using j2
      exact (List.getElem_inj hnd).1 a1
     exact this ▸ j1
   . match j,hj with
     |0,_=>exact .lit _ _
   . intro i xs hi
     match i,hi with
     |0,hi=>cases hi
 . right
   have hmem:e∈es.toList:=by
    grind [leftOf]
   have hnot:e.born∉sn.toList:=by
    grind [leftOf]
   obtain⟨i,hi,he⟩:=Č hmem
   have hi2:i<kvs.length:=by rw [<- hlen];exact hi
   have hkv:kvs[i]=(e.key,e.val):=by
    grind [leftOf]
   have hb:=hborn i e (by rw [Ë hi,he])
   have hns:i∉seen:=fun hm=>hnot (by rw [h9];exact List.mem_map.2 ⟨i,hm,hb⟩)
   have hw1:w1.heap=w.heap:=by rcases k2 with rfl|rfl<;>rfl
   have hI1:Inv w0 G0 st (fun t=>a.tmps.getD t Go.undef) w1 G:=by
    rcases k2 with rfl|rfl
    . exact h
    . exact h.drew
   have hr1:w1.heap[r]?=some (.mapIter (some bm) c sn c):=by rw [hw1];exact h4
   obtain⟨s1,s2⟩:=MapKept.heap_set (o':=.mapIter (some bm) c (sn.push e.born) c) hr1
   have hI2:=hI1.setObj (cs':=[.mit kvs (seen++[i])]) (o:=.mapIter (some bm) c sn c) (o':=.mapIter (some bm) c (sn.push e.born) c) (arr':=#[.bool false]) (w':=ChangeMaps.setBlock w1 r (.mapIter (some bm) c (sn.push e.born) c)) h1 h2 hr1 s1
    (.inr (.inr ⟨kvs,seen++[i],rfl,bm,es,c,sn.push e.born,rfl,h5,by rw [hw1];exact h6,h7,h8,by rw [Array.toList_push,h9,Ě,ã,hb];rfl,fun j hj=>by
     rcases List.mem_append.1 hj with hj|hj
     . exact h10 j hj
     . obtain rfl:=List.mem_singleton.1 hj;exact hi2⟩)) s2 rfl rfl rfl ⟨rfl,fun i hi=>by
     match i,hi with
     |0,_=>exact⟨.mit _ _ _ _,rfl⟩⟩ (fun j q hj=>by
     match j,hj with
     |0,hj=>cases hj;trivial) (fun t xs j v _ hj _=>by
     match j,hj with
     |0,hj=>cases hj)
   refine⟨i,hi2,ChangeMaps.setBlock w1 r (.mapIter (some bm) c (sn.push e.born) c),hns,?_,?_⟩
   . rw [hkv];exact k3
   . refine hI2.put d (.tup _ _ _ rfl (fun j hj=>?_)) (Ahx _ _ [.lit (.bool true)] _ (by simp))
     match j,hj with
     |0,_=>exact .lit _ _
     |1,_=>exact Uu _
     |2,_=>exact Uu _
end
end Go.Vl
namespace Go.Vl
open Go Go.RowKit
def GK (o:Oper):Nat :=
 match o.op with
 |.move _|.assign _|.extract _ _|.pick _ _ _|.build _ _|.nilCheck _|.binOp _ _ _ _ _|.unOp _ _ _|.makeFunc _ _ _|.slice _ _ _ _ _|.fieldAddr _ _ _|.field _ _ _|.indexAddr _ _ _|.index _ _ _=>0
 |.load _ _|.convert _ _ _=>1
 |.call c=>match c.callee with
  |.builtin .len=>0
  |.builtin .min=>0
  |.builtin .max=>0
  |_=>2
 |_=>2
def TR (P:Program)(o:Oper)(st:St)(d:Nat):Option (Bool×St) :=
 match o.op with
 |.move x=>match Xo st d x with
  |some st'=>some (true,st')
  |none=>(Mw st d x).map fun st'=>(true,st')
 |.assign x=>(LW st d x).map fun st'=>(true,st')
 |.extract x i=>(Mx st d i x).map fun st'=>(true,st')
 |_=>(Ys P o st).map fun r=>(r.1,st.put (some d) r.2)
def LR (P:Program)(o:Oper)(st:St):Option (Bool×St) :=
 match o.op,o.dst with
 |.alloc T,some d=>(PS P T st d).map fun st'=>(true,st')
 |.box _ x,some d=>(Yv st d x).map fun st'=>(true,st')
 |.buildSlice t len parts,some d=>Hd P t len (parts.toList.map fun x=>(x.1,Dh st x.2)) st d
 |.store T x y,none=>Jr P T st x y
 |.call c,some d=>Ro P c st d
 |.makeMap t r,some d=>OG P t r st d
 |.mapUpdate t m k v,none=>NZ P t m k v st
 |.insert t m k v,none=>NZ P t m k v st
 |.lookup t m k ok,some d=>(Oa P t m k ok st).map fun r=>(r.1,st.put (some d) r.2)
 |.range t x,some d=>TQ P t x st d
 |.entry x,some d=>PR x st d
 |.makeInterface T x,some d=>(MI (Dh st x)).map fun v=>(SU P T,st.put (some d) (.lit (.iface T v)))
 |.typeAssert x _ T true,some d=>match Dh st x with
  |.lit (.iface t v)=>some (decide (t=T)&&SU P T,st.put (some d) (.tup [VD v,.lit (.bool true)]))
  |_=>none
 |_,_=>none
def Pw (o:Oper)(st:St):Option Value :=
 match o.op with
 |.panic x=>match Dh st x with
  |.lit (.iface t v)=>some (.iface t v)
  |_=>none
 |_=>none
def V9 (o:Oper):Bool:=match o.op with|.panic _=>true|.next _ _=>true|_=>false
def Ua (o:Oper)(st:St)(X:St->Prop):Prop :=
 match o.op,o.dst with
 |.next x false,some d=>match LL st x with
  |some (k,kvs,seen)=>((∀ i,i<kvs.length->i∈seen)->X (st.put (some d) (.tup [.lit (.bool false)]))) /\
   ∀ i (h:i<kvs.length),i∉seen->X (({ st with σ:=st.σ.set k [.mit kvs (seen++[i])] }:St).put (some d) (.tup [.lit (.bool true),Lg kvs[i].1,Lg kvs[i].2]))
  |none=>False
 |_,_=>False
theorem Zm {o:Oper}{st:St}{X X':St->Prop}(hX:∀ st,X st->X' st)(h:Ua o st X):Ua o st X':=by
 unfold Ua at h ⊢
 split at h
 . split at h
   . exact⟨fun k=>hX _ (h.1 k),fun i hi hn=>hX _ (h.2 i hi hn)⟩
   . exact h
 . exact h
def K6 (P:Program)(o:Oper)(st:St):Option (Bool×St) :=
 if GK o=2 then LR P o st else match o.dst with
  |some d=>TR P o st d
  |none=>none
def Ir (o:Oper):Bool:=match o.op with|.store _ _ _=>true|.mapUpdate _ _ _ _=>true|.insert _ _ _ _=>true|_=>false
def Bm (a:Act)(t:Nat):Value:=a.tmps.getD t Go.undef
section
variable {w w' w0:World} {G G' G0:Gh} {P:Program} {p q:PV} {v u:Value} {st st':St} {a:Act} {o:Oper} {d:Nat}
theorem BI (hd:d<a.tmps.size)(v:Value):Bm (a.put (some d) v)=H6 (Bm a) d v:=by
 funext t
 show (a.tmps.setIfInBounds d v).getD t Go.undef=_
 unfold H6
 split
 . rename_i e;subst e;simp [hd]
 . rename_i e
   rw [Ò,ĥ e]
   simp [Bm]
theorem Js (h:Inv w0 G0 st (Bm a) w G)(hd:d<a.tmps.size)(ho:o.dst=some d)(he:TR P o st d=some (true,st')) :
 ∃ v G',(∀ w',(GK o=1->Nq w G (N8 o st) w')->(execOp a.eval o).run P w'=.ok (.value v) w')/\(G'.U=G.U/\G'.φ=G.φ)/\Inv w0 G0 st' (Bm (a.put o.dst v)) w G':=by
 rw [ho]
 unfold TR at he
 split at he
 . rename_i x hop
   have key:∀ st',(∃ G',(G'.U=G.U/\G'.φ=G.φ)/\Inv w0 G0 st' (H6 (Bm a) d (a.eval x)) w G')->∃ v G',(∀ w',(GK o=1->Nq w G (N8 o st) w')->(execOp a.eval o).run P w'=.ok (.value v) w')/\(G'.U=G.U/\G'.φ=G.φ)/\Inv w0 G0 st' (Bm (a.put (some d) v)) w G':=by
    rintro st' ⟨G',hsame,hG⟩
    refine⟨a.eval x,G',fun w' _=>by unfold execOp;rw [hop];rfl,hsame,?_⟩
    rw [BI hd];exact hG
   split at he
   . rename_i st2 hm
     simp only [Å,Ï,ÿ] at he
     subst he
     exact key _ (Xn h hm)
   . cases hm:Mw st d x with
     |none=>rw [hm] at he;cases he
     |some st2 =>
      rw [hm] at he
      simp only [ì,Å,Ï,ÿ] at he
      subst he
      exact key _ (RO h hm)
 . rename_i x hop
   cases hm:LW st d x with
   |none=>rw [hm] at he;cases he
   |some st2 =>
    rw [hm] at he
    simp only [ì,Å,Ï,ÿ] at he
    subst he
    obtain⟨G',hsame,hG⟩:=Ub h hm
    refine⟨a.eval x,G',fun w' _=>by unfold execOp;rw [hop];rfl,hsame,?_⟩
    rw [BI hd];exact hG
 . rename_i x i hop
   cases hm:Mx st d i x with
   |none=>rw [hm] at he;cases he
   |some st2 =>
    rw [hm] at he
    simp only [ì,Å,Ï,ÿ] at he
    subst he
    obtain⟨v,G',hr,hsame,hG⟩:=RS (P:=P) h hm
    refine⟨v,G',fun w' _=>by unfold execOp;rw [hop];simp [hr],hsame,?_⟩
    rw [BI hd];exact hG
 . cases hm:Ys P o st with
   |none=>rw [hm] at he;cases he
   |some r =>
    rw [hm] at he
    obtain⟨c,p⟩:=r
    simp only [ì,Å,Ï] at he
    obtain⟨rfl,rfl⟩:=he
    obtain⟨v,h1,h2,h3⟩:=Zj (a:=a) h.store h.env hm
    refine⟨v,G,fun w' hr=>h3 w' (fun hrd=>hr ?_),⟨rfl,rfl⟩,?_⟩
    . grind [QO,GK]
    . rw [BI hd]
      exact h.put d h1 (h2.tmp (N9 _ _ _) _ _)
theorem K7 (h:Inv w0 G0 st (Bm a) w G)(hd:∀ d,o.dst=some d->d<a.tmps.size)(he:LR P o st=some (true,st')) :
 ∃ nx v w' G',(execOp a.eval o).run P w=.ok nx w'/\(nx=.value v∨(nx=.skip/\v=Go.undef))/\Inv w0 G0 st' (Bm (a.put o.dst v)) w' G'/\(Ir o=false->∀ b∈G.φ,w'.heap[b]?=w.heap[b]?):=by
 unfold LR at he
 split at he
 . rename_i T d hop hdst
   cases hm:PS P T st d with
   |none=>rw [hm] at he;cases he
   |some st2 =>
    rw [hm] at he
    simp only [ì,Å,Ï,ÿ] at he
    subst he
    obtain⟨v,w',G',h1,h2,hk⟩:=VZ h hm
    refine⟨_,v,w',G',by unfold execOp;rw [hop];simp only [Ô,h1,Ì,Ù],.inl rfl,?_,fun _=>hk⟩
    rw [hdst,BI (hd d hdst)];exact h2
 . rename_i T x d hop hdst
   cases hm:Yv st d x with
   |none=>rw [hm] at he;cases he
   |some st2 =>
    rw [hm] at he
    simp only [ì,Å,Ï,ÿ] at he
    subst he
    obtain⟨v,w',G',h1,h2,hk⟩:=Zn (P:=P) (T:=T) h hm
    refine⟨_,v,w',G',by unfold execOp;rw [hop];simp only [Ô,h1,Ì,Ù],.inl rfl,?_,fun _=>hk⟩
    rw [hdst,BI (hd d hdst)];exact h2
 . rename_i t len parts d hop hdst
   obtain⟨v,w',G',h1,h2,hk⟩:=OI (vals:=parts.map fun x=>(x.1,a.eval x.2)) h (by simp) (fun j p v hp hv=>by
    simp only [â,Array.getElem?_toList] at hp
    simp only [Array.getElem?_map] at hv
    cases hj:parts[j]? with
    |none=>rw [hj] at hp;cases hp
    |some z =>
     rw [hj] at hp hv
     simp only [ì,Å] at hp hv
     subst hp;subst hv
     exact⟨rfl,BO h.env _⟩) he
   refine⟨_,v,w',G',by unfold execOp;rw [hop];simp only [Ô,h1,Ì,Ù],.inl rfl,?_,fun _=>hk⟩
   rw [hdst,BI (hd d hdst)];exact h2
 . rename_i T x y hop hdst
   obtain⟨w',G',h1,h2,_⟩:=LQ (a:=a) h he
   refine⟨.skip,Go.undef,w',G',by unfold execOp;rw [hop];simp only [Ô,h1,Ì,Ù],.inr ⟨rfl,rfl⟩,?_,fun hs=>by simp [Ir,hop] at hs⟩
   rw [hdst];exact h2
 . rename_i c d hop hdst
   obtain⟨v,w',G',h1,h2,hk⟩:=Uc h hop he
   refine⟨_,v,w',G',h1,.inl rfl,?_,fun _=>hk⟩
   rw [hdst,BI (hd d hdst)];exact h2
 . rename_i t r d hop hdst
   obtain⟨v,w',G',h1,h2,hk⟩:=RQ (a:=a) h he
   refine⟨_,v,w',G',by unfold execOp;rw [hop];simp only [Ô,h1,Ì,Ù],.inl rfl,?_,fun _=>hk⟩
   rw [hdst,BI (hd d hdst)];exact h2
 . rename_i t m k x hop hdst
   obtain⟨w',G',h1,h2⟩:=NY (a:=a) h he
   refine⟨.skip,Go.undef,w',G',by unfold execOp;rw [hop];simp only [Ô,h1,Ì,Ù],.inr ⟨rfl,rfl⟩,?_,fun hs=>by simp [Ir,hop] at hs⟩
   rw [hdst];exact h2
 . rename_i t m k x hop hdst
   obtain⟨w',G',h1,h2⟩:=NY (a:=a) h he
   refine⟨.skip,Go.undef,w',G',by unfold execOp;rw [hop];simp only [Ô,h1,Ì,Ù],.inr ⟨rfl,rfl⟩,?_,fun hs=>by simp [Ir,hop] at hs⟩
   rw [hdst];exact h2
 . rename_i t m k ok d hop hdst
   obtain⟨⟨c,p⟩,hm,he2⟩:=Option.map_eq_some_iff.1 he
   simp only [Ï] at he2
   obtain⟨rfl,rfl⟩:=he2
   obtain⟨v,h1,h2,h3⟩:=TT (a:=a) h hm
   refine⟨_,v,w,G,by unfold execOp;rw [hop];simp only [Ô,h1,Ì,Ù],.inl rfl,?_,fun _ _ _=>rfl⟩
   rw [hdst,BI (hd d hdst)]
   refine h.put d h2 ?_
   rcases h3 with h3|⟨x,b,rfl⟩
   . exact Hu h3 _ _ _ _
   . intro i xs hi
     exfalso
     match i,hi with
     |0,hi =>
      have:Gi x=.sl xs .own:=by simpa using hi
      unfold Gi at this
      split at this<;>(try split at this)<;>cases this
     |1,hi=>cases hi
 . rename_i t x d hop hdst
   obtain⟨v,w',G',h1,h2,hk⟩:=VT (a:=a) h he
   refine⟨_,v,w',G',by unfold execOp;rw [hop];simp only [Ô,h1,Ì,Ù],.inl rfl,?_,fun _=>hk⟩
   rw [hdst,BI (hd d hdst)];exact h2
 . rename_i x d hop hdst
   obtain⟨v,h1,h2⟩:=VX (P:=P) (a:=a) h he
   refine⟨_,v,w,G,by unfold execOp;rw [hop];simp only [Ô,h1,Ì,Ù],.inl rfl,?_,fun _ _ _=>rfl⟩
   rw [hdst,BI (hd d hdst)];exact h2
 . rename_i T x d hop hdst
   obtain⟨v,hm,he2⟩:=Option.map_eq_some_iff.1 he
   simp only [Ï] at he2
   obtain⟨hc,rfl⟩:=he2
   have hx:=QI (BO (a:=a) h.env x) hm
   refine⟨_,.iface T v,w,G,by unfold execOp;rw [hop];simp only [Ô,hx,run_makeInterface hc,Ì,Ù],.inl rfl,?_,fun _ _ _=>rfl⟩
   rw [hdst,BI (hd d hdst)]
   exact h.putPlain d (.lit _ _) rfl
 . rename_i x xt T d hop hdst
   split at he
   . rename_i t v hx
     simp only [Å,Ï,Ã,Í] at he
     obtain⟨⟨rfl,hc⟩,rfl⟩:=he
     have hxv:=BO (a:=a) h.env x
     rw [hx] at hxv
     have hxe:a.eval x=.iface t v:=by
      revert hxv;generalize a.eval x=z;intro hxv
      cases hxv;rfl
     refine⟨_,.tuple #[v,.bool true],w,G,by unfold execOp;rw [hop];simp only [Ô,hxe,Qv hc,Ì,Ù],.inl rfl,?_,fun _ _ _=>rfl⟩
     rw [hdst,BI (hd d hdst)]
     refine h.put d (.tup _ _ _ rfl (fun i hi=>?_)) ?_
     . match i,hi with
       |0,_=>exact Ae7 v
       |1,_=>exact .lit _ _
     . intro i xs hi
       exfalso
       match i,hi with
       |0,hi=>exact Za v xs (by simpa using hi)
       |1,hi=>cases hi
   . cases he
 . cases he
theorem OZ {nx:Next}{w':World}{T:TypeId}{x y:Operand}(h:Inv w0 G0 st (Bm a) w G)(hop:o.op=.store T x y)(he:LR P o st=some (true,st'))(hr:(execOp a.eval o).run P w=.ok nx w'){k off kb:Nat}(hx:Dh st x=.ptr k off)(hk:G.φ[k]?=some kb){b:Nat}(hb:b≠kb):w'.heap[b]?=w.heap[b]?:=by
 unfold LR at he
 rw [hop] at he
 cases hd:o.dst with
 |some d=>rw [hd] at he;cases he
 |none =>
  rw [hd] at he
  obtain⟨w2,G2,h1,_,h3⟩:=LQ (a:=a) h he
  unfold execOp at hr
  rw [hop] at hr
  simp only [Ô,h1,Ì,Ù] at hr
  cases hr
  exact h3 k off kb hx hk b hb
theorem JS (o:Oper):GK o=0∨GK o=1∨GK o=2:=by
 unfold GK
 repeat' split
 all_goals simp
end
end Go.Vl
namespace Go.Vl
open Go Go.RowKit
def LZ (P:Program)(f:FuncId):Bool :=
 match P.funcs[f]? with
 |some fn=>fn.body.isSome&&(fn.name != "runtime.NumGoroutine")
 |none=>false
def FR (P:Program)(o:Oper)(st:St):Option (FuncId×List PV) :=
 match o.op with
 |.call c=>match c.callee with
  |.value f=>match Dh st f with
   |.fn f caps=>if LZ P f then some (f,c.args.toList.map (fun x=>B1 (Dh st x))++caps) else none
   |.fno true f caps=>if LZ P f then some (f,c.args.toList.map (fun x=>B1 (Dh st x))++caps) else none
   |_=>none
  |_=>none
 |_=>none
def ER:PV->PV
 |.sl xs (.view (.cell _ _))=>.sl xs .shared
 |p=>p
def St.aft (st:St)(σ:List (List PV)):St:={ env:=st.env.map fun x=>(x.1,ER x.2),σ }
def Kr (keep:Nat->Bool):PV->PV
 |.sl xs (.view (.cell k j))=>if keep k=true then .sl xs (.view (.cell k j)) else .sl xs .shared
 |p=>p
def St.aftK (st:St)(keep:Nat->Bool)(σ:List (List PV)):St:={ env:=st.env.map fun x=>(x.1,Kr keep x.2),σ }
def Gh.inner (G:Gh):Gh:={ G with Ω:=fun b=>match G.Ω b with|some (.cell k j)=>some (.cell k j)|_=>none }
def LC (tup:Bool)(d:Nat):Loc->Loc
 |.ret i=>if tup then .tcomp d i else .tmp d
 |l=>l
def QN:PV->Bool
 |.tup _=>true
 |_=>false
def Gh.outer (G G':Gh)(tup:Bool)(d:Nat):Gh:={ G' with Ω:=fun b=>match G'.Ω b with|some l=>some (LC tup d l)|none=>G.Ω b }
section
variable {w w' w0:World} {G G' G0:Gh} {P:Program} {p q r:PV} {v u:Value} {st st':St} {a:Act} {o:Oper} {d:Nat} {σ σ':List (List PV)}
theorem ON {f:FuncId}(h:LZ P f=true)(vs:Array Value)(w:World):(callFunc f vs).run P w=.ok (.enter f vs) w:=by
 unfold LZ at h
 split at h
 . rename_i fn hf
   simp only [Ã,bne_iff_ne] at h
   have h1:fn.body≠none:=by have:=h.1;intro e;rw [e] at this;cases this
   simp [callFunc,hf,h1,h.2]
 . cases h
theorem KA {f:FuncId}{args:List PV}(h:KO w G st (Bm a))(he:FR P o st=some (f,args)) :
 ∃ vs:Array Value,vs.size=args.length/\(∀ i (hi:i<args.length),V w G.U G.φ args[i] (vs.getD i Go.undef))/\∀ w',(execOp a.eval o).run P w'=.ok (.enter f vs) w':=by
 unfold FR at he
 split at he
 . rename_i c hop
   obtain⟨callee,cargs,ats⟩:=c
   simp only at he
   split at he
   . rename_i fo
     have hv:=BO (a:=a) h fo
     split at he
     . rename_i f' caps hf
       rw [hf] at hv
       split at he
       . rename_i hc
         simp only [Å,Ï] at he
         obtain⟨rfl,rfl⟩:=he
         obtain⟨arr,hz,hn,hcaps⟩:∃ arr:Array Value,a.eval fo=.func (.func f') #[] arr/\arr.size=caps.length/\∀ i (h:i<caps.length),V w G.U G.φ caps[i] (arr.getD i Go.undef):=by
          generalize hz:a.eval fo=z at hv
          cases hv with
          |fn _ _ _ arr hn hcaps=>exact⟨arr,rfl,hn,hcaps⟩
         refine⟨cargs.map a.eval++arr,by simp [hn],fun i hi=>?_,fun w'=>?_⟩
         . by_cases hlt:i<cargs.size
           . have e1:(cargs.toList.map (fun x=>B1 (Dh st x))++caps)[i]=B1 (Dh st cargs[i]):=by
              rw [ģ (by simpa using hlt)];simp
             have e2:(cargs.map a.eval++arr).getD i Go.undef=a.eval cargs[i]:=by
              rw [Ò,ć (by simpa using hlt)];simp [hlt]
             rw [e1,e2];exact Dv (BO h _)
           . have hi2:i-cargs.size<caps.length:=by simp at hi;omega
             have e1:(cargs.toList.map (fun x=>B1 (Dh st x))++caps)[i]=caps[i-cargs.size]:=by
              rw [List.getElem_append_right (by simp;omega)];simp
             have e2:(cargs.map a.eval++arr).getD i Go.undef=arr.getD (i-cargs.size) Go.undef:=by
              rw [Ò,Array.getElem?_append_right (by simp;omega),Ò];simp
             rw [e1,e2];exact hcaps _ hi2
         . unfold execOp
           rw [hop]
           simp only [Ô,resolve,hz,Deferred.ofValue,Ù,Ì,invoke]
           rw [ON hc];simp
       . cases he
     . rename_i f' caps hf
       rw [hf] at hv
       split at he
       . rename_i hc
         simp only [Å,Ï] at he
         obtain⟨rfl,rfl⟩:=he
         obtain⟨arr,hz,hn,hcaps⟩:∃ arr:Array Value,a.eval fo=.func (.func f') #[] arr/\arr.size=caps.length/\∀ i (h:i<caps.length),V w G.U G.φ caps[i] (arr.getD i Go.undef):=by
          generalize hz:a.eval fo=z at hv
          cases hv with
          |fno _ _ _ arr hn hcaps=>exact⟨arr,rfl,hn,fun i hi=>(hcaps i hi).mono (fun _ _ h=>⟨h,Kp.refl⟩) (fun k x hk=>by simp at hk)⟩
         refine⟨cargs.map a.eval++arr,by simp [hn],fun i hi=>?_,fun w'=>?_⟩
         . by_cases hlt:i<cargs.size
           . have e1:(cargs.toList.map (fun x=>B1 (Dh st x))++caps)[i]=B1 (Dh st cargs[i]):=by
              rw [ģ (by simpa using hlt)];simp
             have e2:(cargs.map a.eval++arr).getD i Go.undef=a.eval cargs[i]:=by
              rw [Ò,ć (by simpa using hlt)];simp [hlt]
             rw [e1,e2];exact Dv (BO h _)
           . have hi2:i-cargs.size<caps.length:=by simp at hi;omega
             have e1:(cargs.toList.map (fun x=>B1 (Dh st x))++caps)[i]=caps[i-cargs.size]:=by
              rw [List.getElem_append_right (by simp;omega)];simp
             have e2:(cargs.map a.eval++arr).getD i Go.undef=arr.getD (i-cargs.size) Go.undef:=by
              rw [Ò,Array.getElem?_append_right (by simp;omega),Ò];simp
             rw [e1,e2];exact hcaps _ hi2
         . unfold execOp
           rw [hop]
           simp only [Ô,resolve,hz,Deferred.ofValue,Ù,Ì,invoke]
           rw [ON hc];simp
       . cases he
     . cases he
   . cases he
 . cases he
theorem K3 (st:St)(σ:List (List PV))(t:Nat):(st.aft σ).get t=ER (st.get t):=by
 show E4 (st.env.map fun x=>(x.1,ER x.2)) t=ER (E4 st.env t)
 generalize st.env=env
 induction env with
 |nil=>rfl
 |cons x r ih =>
  show (if x.1=t then ER x.2 else E4 (r.map fun x=>(x.1,ER x.2)) t)=ER (if x.1=t then x.2 else E4 r t)
  split
  . rfl
  . exact ih
theorem QP {b k j:Nat}:G.inner.Ω b=some (.cell k j)↔G.Ω b=some (.cell k j):=by
 show (match G.Ω b with|some (.cell k j)=>some (Loc.cell k j)|_=>none)=_↔_
 split<;>simp_all
theorem Ni {b:Nat}(h:G.Ω b=none):G.inner.Ω b=none:=by
 show (match G.Ω b with|some (.cell k j)=>some (Loc.cell k j)|_=>none)=none
 rw [h]
theorem Nh {b:Nat}(h:G.inner.Ω b≠none):G.Ω b≠none:=fun e=>h (Ni e)
theorem AN.inner (h:AN w G σ):AN w G.inner σ:=by
 refine⟨h.len,h.nodup,fun k b cs h1 h2=>?_,h.ub,fun b hb=>h.ob b (Nh hb)⟩
 obtain⟨⟨T,arr,h3,h4,h5⟩,h6⟩:=h.blk k b cs h1 h2
 refine⟨⟨T,arr,h3,h4,fun j c hc=>?_⟩,h6⟩
 obtain⟨v,h7,h8,h9,h10⟩:=h5 j c hc
 refine⟨v,h7,h8,h9,?_⟩
 unfold Df at h10 ⊢
 split
 . exact AB.to h10 rfl (fun b hb=>QP.2 hb)
 . trivial
theorem GJ (G:Gh):∀ b l,G.inner.Ω b=some l->∃ k j,l=.cell k j:=by
 intro b l h
 have:(match G.Ω b with|some (.cell k j)=>some (Loc.cell k j)|_=>none)=some l:=h
 all_goals grind
theorem Inv.call {tup:Bool}(h:Inv w0 G0 st (Bm a) w G)(hs:AN w' G' σ')(hx:Ext w G.inner w' G')(d:Nat) :
 Inv w0 G0 (st.aft σ') (Bm a) w' (G.outer G' tup d):=by
 have hΩ:∀ b,G.inner.Ω b=none->b<w.heap.size->(G.outer G' tup d).Ω b=G.Ω b:=by
  intro b h1 h2
  show (match G'.Ω b with|some l=>some (LC tup d l)|none=>G.Ω b)=G.Ω b
  cases e:G'.Ω b with
  |none=>rfl
  |some l =>
   rcases hx.newΩ b (by rw [e];simp) with h3|h3
   . omega
   . exact absurd h1 h3
 have hext:Ext w G w' (G.outer G' tup d):=by
  refine⟨hx.os,hx.tape,hx.output,hx.size,fun k h1 h2 h3=>hx.frame k h1 h2 (Ni h3),hx.cells,fun b i hu=>?_,fun b hb=>?_,hx.phi⟩
  . rcases hx.newU b i hu with h1|h1|h1
    . exact .inl h1
    . exact .inr (.inl h1)
    . exact .inr (.inr (Nh h1))
  . grind [LC,Nh]
 have ownK:∀ l xs v,(∀ k j,l≠.cell k j)->AB w G l xs v->AB w' (G.outer G' tup d) l xs v:=by
  intro l xs v hl ho
  refine ho.keep fun b hb=>?_
  have hin:G.inner.Ω b=none:=by
   cases e:G.inner.Ω b with
   |none=>rfl
   |some l' =>
    obtain⟨k,j,rfl⟩:=GJ G b l' e
    rw [QP] at e
    rw [hb] at e
    exact absurd (Ac e) (hl k j)
  have hob:=h.store.ob b (by rw [hb];simp)
  refine⟨by rw [hΩ b hin hob.1];exact hb,hx.frame b hob.1 hob.2 hin,fun i hu=>?_⟩
  rcases hx.newU b i hu with h1|h1|h1
  . exact h1
  . omega
  . exact absurd hin h1
 refine⟨h.ext.trans hext,?_,⟨fun t=>?_,fun t=>?_⟩⟩
 . refine⟨hs.len,hs.nodup,fun k b cs h1 h2=>?_,hs.ub,fun b hb=>?_⟩
   . obtain⟨⟨T,arr,h3,h4,h5⟩,h6⟩:=hs.blk k b cs h1 h2
     refine⟨⟨T,arr,h3,h4,fun j c hc=>?_⟩,h6⟩
     obtain⟨v,h7,h8,h9,h10⟩:=h5 j c hc
     refine⟨v,h7,h8,h9,?_⟩
     unfold Df at h10 ⊢
     split
     . refine AB.to h10 rfl (fun b hb=>?_)
       show (match G'.Ω b with|some l=>some (LC tup d l)|none=>G.Ω b)=_
       rw [hb];rfl
     . trivial
   . have h2:(match G'.Ω b with|some l=>some (LC tup d l)|none=>G.Ω b)≠none:=hb
     cases e:G'.Ω b with
     |some l=>exact hs.ob b (by rw [e];simp)
     |none =>
      rw [e] at h2
      have h3:=h.store.ob b h2
      refine⟨Đ h3.1 hx.size,?_⟩
      obtain⟨ψ,hφ,hψ⟩:=hx.phi
      show b∉G'.φ
      rw [hφ]
      intro hm
      rcases List.mem_append.1 hm with hm|hm
      . exact h3.2 hm
      . have:=hψ b hm;omega
 . rw [K3]
   have hv:=hext.V (h.env.v t)
   revert hv
   generalize st.get t=q
   intro hv
   unfold ER
   split
   . exact hv.tag (by simp) (by simp)
   . exact hv
 . rw [K3]
   have ht:=h.env.tag t
   revert ht
   generalize st.get t=q
   intro ht
   cases q with
   |sl xs g =>
    cases g with
    |own=>exact ownK _ _ _ (by simp) ht
    |view m =>
     cases m with
     |tmp s=>exact⟨by rw [K3,ht.1];rfl,ht.2⟩
     |cell k j=>trivial
     |_=>exact ht
    |_=>trivial
   |tup cs =>
    intro i xs hi
    obtain⟨arr,u,h1,h2,h3⟩:=ht i xs hi
    exact⟨arr,u,h1,h2,ownK _ _ _ (by simp) h3⟩
   |_=>trivial
theorem QU (keep:Nat->Bool)(st:St)(σ:List (List PV))(t:Nat):(st.aftK keep σ).get t=Kr keep (st.get t):=by
 show E4 (st.env.map fun x=>(x.1,Kr keep x.2)) t=Kr keep (E4 st.env t)
 generalize st.env=env
 induction env with
 |nil=>rfl
 |cons x r ih =>
  show (if x.1=t then Kr keep x.2 else E4 (r.map fun x=>(x.1,Kr keep x.2)) t)=Kr keep (if x.1=t then x.2 else E4 r t)
  split
  . rfl
  . exact ih
theorem Inv.callK {tup:Bool}(h:Inv w0 G0 st (Bm a) w G)(hs:AN w' G' σ')(hx:Ext w G.inner w' G')(d:Nat)(keep:Nat->Bool)
 (hk:∀ k b,keep k=true->G.φ[k]?=some b->σ'[k]?=st.σ[k]?/\w'.heap[b]?=w.heap[b]?):Inv w0 G0 (st.aftK keep σ') (Bm a) w' (G.outer G' tup d):=by
 have h1:=h.call (tup:=tup) hs hx d
 refine⟨h1.ext,h1.store,⟨fun t=>?_,fun t=>?_⟩⟩
 . have hv:=h1.env.v t
   rw [K3] at hv
   rw [QU]
   revert hv
   generalize st.get t=q
   intro hv
   unfold Kr
   split
   . split
     . exact V.tag (g:=.shared) hv (by simp) (by simp)
     . exact hv
   . grind [ER]
 . have ht:=h1.env.tag t
   have ht0:=h.env.tag t
   rw [K3] at ht
   rw [QU]
   revert ht ht0
   generalize st.get t=q
   intro ht ht0
   cases q with
   |sl xs g =>
    cases g with
    |own=>exact ht
    |view m =>
     cases m with
     |tmp s =>
      obtain⟨e1,e2⟩:=ht0
      exact⟨by rw [QU,e1];rfl,e2⟩
     |cell k j =>
      obtain⟨cs,b,e1,e2,e3,e4⟩:=ht0
      rw [show Kr keep (.sl xs (.view (.cell k j)))=(if keep k=true then PV.sl xs (.view (.cell k j)) else .sl xs .shared) from rfl]
      by_cases hkk:keep k=true
      . rw [Ê hkk]
        obtain⟨f1,f2⟩:=hk k b hkk e3
        refine⟨cs,b,by show σ'[k]?=_;rw [f1];exact e1,e2,?_,?_⟩
        . obtain⟨ψ,hφ,_⟩:=hx.phi
          show G'.φ[k]?=some b
          have hφ2:G'.φ=G.φ++ψ:=hφ
          rw [hφ2,æ (List.getElem?_eq_some_iff.1 e3).1];exact e3
        . show w'.cell? ⟨b,j,none⟩=_
          rw [<- e4];unfold World.cell?;rw [f2]
      . rw [È hkk];trivial
     |_=>exact ht
    |_=>trivial
   |tup cs=>exact ht
   |_=>trivial
theorem Inv.putRet (h:Inv w0 G0 st (Bm a) w' (G.outer G' (QN r) d))(hv:V w' G'.U G'.φ r v)(ht:Hh w' G' r v) :
 Inv w0 G0 (st.put (some d) r) (H6 (Bm a) d v) w' (G.outer G' (QN r) d):=by
 refine h.put d hv ?_
 cases r with
 |sl xs g =>
  cases g with
  |own =>
   exact AB.to (l:=.ret 0) ht rfl (fun b hb=>by
    show (match G'.Ω b with|some l=>some (LC _ d l)|none=>G.Ω b)=_
    rw [hb];rfl)
  |view m=>exact ht.elim
  |_=>trivial
 |tup cs =>
  intro i xs hi
  obtain⟨arr,u,h1,h2,h3⟩:=ht i xs hi
  refine⟨arr,u,h1,h2,h3.to rfl (fun b hb=>?_)⟩
  show (match G'.Ω b with|some l=>some (LC _ d l)|none=>G.Ω b)=_
  rw [hb];rfl
 |_=>trivial
end
end Go.Vl
namespace Go.Vl
open Go Go.RowKit
inductive AX where
 |normal
 |exit (id:Nat)
 |ret
 |pan (c:List PanicEntry)
def Dd (ds:List Deferred)(w0:World)(G0:Gh)(n:Nat)(K:AX->St->Prop):Exit->Act->World->Prop
 |.normal,a,w=>a.tmps.size=n/\a.defers=ds/\∃ st G,K .normal st/\Inv w0 G0 st (Bm a) w G
 |.exit id,a,w=>a.tmps.size=n/\a.defers=ds/\∃ st G,K (.exit id) st/\Inv w0 G0 st (Bm a) w G
 |.ret,a,w=>a.tmps.size=n/\a.defers=ds/\∃ st G,K .ret st/\Inv w0 G0 st (Bm a) w G
 |.panic c,a,w=>a.defers=ds/\∃ st G,K (.pan c) st/\Ext w0 G0 w G/\AN w G st.σ
 |_,_,_=>False
def F4 (ops:Array Oper)(st:St)(o:Oper):Option Bool :=
 match o.guard with
 |none=>some true
 |some (j,want) =>
  match (ops[j]?).bind (·.dst) with
  |some d=>match st.get d with
   |.lit (.bool b)=>some (b == want)
   |.lit (.tuple _)=>some false
   |_=>none
  |none=>none
def BR (P:Program)(ops:Array Oper)(K:AX->St->Prop):List Oper->St->Prop
 | [],st=>K .normal st
 |o::rest,st =>
  match F4 ops st o with
  |none=>False
  |some false=>BR P ops K rest (st.put o.dst (.lit (.tuple #[])))
  |some true =>
   match K6 P o st with
   |some (c,st')=>c=true/\BR P ops K rest st'
   |none =>
    match FR P o st with
    |some (f,args)=>VC P f args st.σ fun x σ'=>match x with
     |.ret r=>BR P ops K rest ((st.aft σ').put o.dst r)
     |.pan c=>K (.pan c) { st with σ:=σ' }
    |none=>match Pw o st with
     |some v=>K (.pan [{ v,recovered:=false }]) st
     |none=>Ua o st fun st2=>BR P ops K rest st2
section
variable {w w' w0:World} {G G' G0:Gh} {P:Program} {st st':St} {a:Act} {o:Oper} {n:Nat} {ops:Array Oper} {K:AX->St->Prop} {ds:List Deferred}
theorem DH {b:Bool}(h:KO w G st (Bm a))(hg:F4 ops st o=some b):Region.wanted o (yielded ops a.tmps)=b:=by
 unfold F4 at hg
 unfold Region.wanted
 split at hg
 . rename_i hn;rw [hn];simpa using hg
 . rename_i j want hn
   rw [hn]
   split at hg
   . rename_i d hd
     split at hg
     . rename_i b' hb
       have hv:=h.v d
       rw [hb] at hv
       have ht:a.tmps.getD d Go.undef=.bool b':=by
        have:Bm a d=.bool b':=by
         revert hv;generalize Bm a d=z;intro hv
         cases hv with
         |lit _ _=>rfl
        exact this
       have hds:a.tmps[d]?=some (.bool b'):=by
        rw [Ò] at ht
        cases e:a.tmps[d]? with
        |none=>rw [e] at ht;cases ht
        |some z=>rw [e] at ht;rw [<- ht];rfl
       have hy:yielded ops a.tmps j=some b':=by
        unfold yielded
        rw [hd]
        simp [hds]
       simp only [hy]
       simp only [Å] at hg
       subst hg
       cases b'<;>cases want<;>rfl
     . rename_i u hb
       have hv:=h.v d
       rw [hb] at hv
       have ht:a.tmps.getD d Go.undef=.tuple u:=by
        have:Bm a d=.tuple u:=by
         revert hv;generalize Bm a d=z;intro hv
         cases hv with
         |lit _ _=>rfl
        exact this
       have hy:yielded ops a.tmps j=none:=by
        unfold yielded
        rw [hd]
        rw [Ò] at ht
        cases e:a.tmps[d]? with
        |none=>simp [e]
        |some z=>rw [e] at ht;obtain rfl:z=.tuple u:=ht;simp [e]
       simp only [hy]
       simp only [Å] at hg
       subst hg
       rfl
     . cases hg
   . cases hg
theorem BE (a:Act)(d:Option Tmp)(v:Value):(a.put d v).tmps.size=a.tmps.size:=by cases d<;>simp [Act.put]
theorem put_defers (a:Act)(d:Option Tmp)(v:Value):(a.put d v).defers=a.defers:=by cases d<;>rfl
theorem Inv.skipPut {d:Option Tmp}(h:Inv w0 G0 st (Bm a) w G)(hd:∀ x,d=some x->x<a.tmps.size):Inv w0 G0 (st.put d (.lit (.tuple #[]))) (Bm (a.put d Go.undef)) w G:=by
 cases d with
 |none=>exact h
 |some x=>rw [BI (hd x rfl)];exact h.putPlain x (.lit _ _) rfl
theorem TS {next:Act->World->Prop}{Q:Exit->Act->World->Prop}(h:Inv w0 G0 st (Bm a) w G)(hd:∀ d,o.dst=some d->d<a.tmps.size)(he:K6 P o st=some (true,st'))
 (hn:∀ v w' G',Inv w0 G0 st' (Bm (a.put o.dst v)) w' G'->next (a.put o.dst v) w'):o.wp P a w next Q:=by
 unfold K6 at he
 unfold Oper.wp
 split at he
 . obtain⟨nx,v,w',G',h1,h2,h3,_⟩:=K7 h hd he
   rw [h1]
   rcases h2 with rfl|⟨rfl,rfl⟩
   . exact hn v w' G' h3
   . exact hn Go.undef w' G' h3
 . split at he
   . rename_i d hdst
     obtain⟨v,G',h1,_,h2⟩:=Js h (hd d hdst) hdst he
     rw [h1 w (fun _=>(Reads.refl _ _).one _)]
     exact hn v w G' h2
   . cases he
theorem D4.inner (h:D4 w G):D4 w G.inner:=⟨h.1,fun b hb=>⟨(h.2 b hb).1,(h.2 b hb).2.1,Ni (h.2 b hb).2.2⟩⟩
theorem OH {f:FuncId}{args:List PV}{next:Act->World->Prop}{Q:Exit->Act->World->Prop}{KR:PV->List (List PV)->Prop}{KP:List PanicEntry->List (List PV)->Prop}
 (hgl:D4 w0 G0) (h:Inv w0 G0 st (Bm a) w G) (hd:∀ d,o.dst=some d->d<a.tmps.size) (hdef:a.defers=ds) (he:FR P o st=some (f,args))
 (hc:VC P f args st.σ fun x σ'=>match x with|.ret r=>KR r σ'|.pan c=>KP c σ')
 (hn:∀ r σ' v w' G',KR r σ'->Inv w0 G0 ((st.aft σ').put o.dst r) (Bm (a.put o.dst v)) w' G'->next (a.put o.dst v) w')
 (hp:∀ c σ' w' G',KP c σ'->a.defers=ds->Ext w0 G0 w' G'->AN w' G' σ'->Q (.panic c) a w'):o.wp P a w next Q:=by
 obtain⟨vs,h1,h2,h3⟩:=KA h.env he
 unfold Oper.wp
 rw [h3 w]
 refine (hc w G.inner vs h.store.inner h1 h2 (GJ G) (hgl.ext h.ext).inner).mono fun e w' hpost=>?_
 obtain⟨x,σ',G',hq,hend,hs,hx⟩:=hpost
 cases x with
 |ret r =>
  obtain⟨v,rfl,hv,ht⟩:=hend
  show next (a.put o.dst v) w'
  cases hdst:o.dst with
  |none =>
   have hI:=h.call (tup:=false) hs hx 0
   have:=hn r σ' v w' _ hq (by rw [hdst];exact hI)
   rw [hdst] at this;exact this
  |some d =>
   have hI:=(h.call (tup:=QN r) hs hx d).putRet hv ht
   have:=hn r σ' v w' _ hq (by rw [hdst,BI (hd d hdst)];exact hI)
   rw [hdst] at this;exact this
 |pan c =>
  obtain rfl:e=.panicked c:=hend
  have hI:=h.call (tup:=false) hs hx 0
  exact hp c σ' w' _ hq hdef hI.ext hI.store
theorem OF {v:Value}(h:KO w G st (Bm a))(he:Pw o st=some v)(w1:World):(execOp a.eval o).run P w1=.halt (.panic v) w1:=by
 unfold Pw at he
 split at he
 . rename_i x hop
   have hx:=BO (a:=a) h x
   split at he
   . rename_i t u hu
     rw [hu] at hx
     simp only [Å] at he
     subst he
     have hxe:a.eval x=.iface t u:=by
      revert hx;generalize a.eval x=z;intro hx
      cases hx;rfl
     unfold execOp
     rw [hop]
     simp only [Ô,hxe,Instr.panic]
     rfl
   . cases he
 . cases he
theorem TZ {X:St->Prop}{next:Act->World->Prop}{Q:Exit->Act->World->Prop}(h:Inv w0 G0 st (Bm a) w G)(hd:∀ d,o.dst=some d->d<a.tmps.size)(he:Ua o st X)
 (hn:∀ st' v w' G',Inv w0 G0 st' (Bm (a.put o.dst v)) w' G'->X st'->next (a.put o.dst v) w'):o.wp P a w next Q:=by
 unfold Ua at he
 split at he
 . rename_i x d hop hdst
   split at he
   . rename_i k kvs seen hit
     unfold Oper.wp
     rcases Aaw (P:=P) (d:=d) o.type h hit with⟨k1,k2,k3⟩|⟨i,hl,w',k1,k2,k3⟩
     . have e:(execOp a.eval o).run P w=.ok (.value (.tuple #[.bool false])) w:=by unfold execOp;rw [hop];simp only [Ô,k2,Ì,Ù]
       rw [e]
       exact hn _ _ w G (by rw [hdst,BI (hd d hdst)];exact k3) (he.1 k1)
     . have e:(execOp a.eval o).run P w=.ok (.value (.tuple #[.bool true,kvs[i].1,kvs[i].2])) w':=by unfold execOp;rw [hop];simp only [Ô,k2,Ì,Ù]
       rw [e]
       exact hn _ _ w' G (by rw [hdst,BI (hd d hdst)];exact k3) (he.2 i hl k1)
   . exact he.elim
 . exact he.elim
theorem EN (hgl:D4 w0 G0):∀ (l:List Oper) (st:St) (a:Act) (w:World) (G:Gh),Inv w0 G0 st (Bm a) w G->a.defers=ds->a.tmps.size=n->(∀ o∈l,∀ d,o.dst=some d->d<n)->BR P ops K l st ->
 wpList P ops (Dd ds w0 G0 n K) l a w
 | [],st,a,w,G,h,hdef,hsz,_,he=>⟨hsz,hdef,st,G,he,h⟩
 |o::rest,st,a,w,G,h,hdef,hsz,hd,he=>by
  have hdo:∀ d,o.dst=some d->d<a.tmps.size:=fun d hdd=>by rw [hsz];exact hd o (by simp) d hdd
  have hdr:∀ o∈rest,∀ d,o.dst=some d->d<n:=fun o ho=>hd o (by simp [ho])
  unfold BR at he
  unfold wpList
  split at he
  . exact he.elim
  . rename_i hg
    rw [DH h.env hg]
    simp only [ß,í]
    exact EN hgl rest _ _ w G (h.skipPut hdo) (by rw [put_defers];exact hdef) (by rw [BE];exact hsz) hdr he
  . rename_i hg
    rw [DH h.env hg]
    simp only [ë]
    left
    split at he
    . rename_i c st2 hop
      obtain⟨rfl,he2⟩:=he
      exact TS h hdo hop (fun v w' G' hI=>EN hgl rest _ _ w' G' hI (by rw [put_defers];exact hdef) (by rw [BE];exact hsz) hdr he2)
    . split at he
      . rename_i f args hcall
        exact OH (KR:=fun r σ'=>BR P ops K rest ((st.aft σ').put o.dst r)) (KP:=fun c σ'=>K (.pan c) { st with σ:=σ' }) hgl h hdo hdef hcall he
         (fun r σ' v w' G' hK hI=>EN hgl rest _ _ w' G' hI (by rw [put_defers];exact hdef) (by rw [BE];exact hsz) hdr hK)
         (fun c σ' w' G' hK hdf hE hS=>⟨hdf,_,G',hK,hE,hS⟩)
      . split at he
        . rename_i v hpan
          unfold Oper.wp
          rw [OF h.env hpan w]
          exact⟨hdef,st,G,he,h.ext,h.store⟩
        . exact TZ h hdo he fun st2 v w' G' hI hX=>EN hgl rest _ _ w' G' hI (by rw [put_defers];exact hdef) (by rw [BE];exact hsz) hdr hX
end
end Go.Vl
