/-
  A place that is written no more becomes cells that never turn: pointers to it become views. No program.
-/
import Derived.Test.YtehfpameijkafaaGreatDoorW4
set_option linter.unusedVariables false
set_option linter.unusedSimpArgs false
namespace Go.Vl
open Go Go.RowKit
mutual
def frz (n:Nat)(fp:Nat->PV)(fm:PV):PV->PV
 |.ptr b o=>if b=n then fp o else .ptr b o
 |.agg l=>.agg (WE n fp fm l)
 |.tup l=>.tup (WE n fp fm l)
 |.fn f l=>.fn f (WE n fp fm l)
 |.fno b f l=>.fno b f l
 |.fnb f l=>.fnb f l
 |.lit v=>.lit v
 |.sl xs g=>.sl xs g
 |.vptr l o=>.vptr l o
 |.ifc=>.ifc
 |.mref b=>if b=n then fm else .mref b
 |.mp kvs=>.mp kvs
 |.vmp kvs=>.vmp kvs
 |.mit kvs seen=>.mit kvs seen
 |.dis f=>.dis f
 |.asl b o m cap=>.asl b o m cap
 |.prv xs=>.prv xs
 |.undef=>.undef
def WE (n:Nat)(fp:Nat->PV)(fm:PV):List PV->List PV
 | []=>[]
 |p::l=>frz n fp fm p::WE n fp fm l
end
theorem FP (n:Nat)(fp:Nat->PV)(fm:PV):∀ l,WE n fp fm l=l.map (frz n fp fm)
 | []=>by rw [WE];rfl
 |p::l=>by rw [WE,FP n fp fm l];rfl
def QA:PV->Bool
 |.vptr _ _=>true
 |.vmp _=>true
 |.undef=>true
 |_=>false
section
variable {w w0:World} {U U':Nat->Nat->Prop} {φ:List Nat} {p:PV} {v:Value} {n b:Nat} {cs:List PV} {fp:Nat->PV} {fm:PV}
theorem Acn {φ φ0:List Nat}{k x b n:Nat}(e:φ=φ0++[b])(el:φ0.length=n)(hk:k<n)(hx:φ[k]?=some x):φ0[k]?=some x:=by
 rw [e,Ô (by omega)] at hx;exact hx
theorem V.frz (h:V w U φ p v):∀ {φ0:List Nat},φ=φ0++[b]->φ0.length=n->(Vl.frz n fp fm p).fits n=true->(∀ b i,U b i->U' b i) ->
 (∀ (o:Nat) (φ1:List Nat),V w U' φ1 (fp o) (.pointer (some ⟨b,o,none⟩)))/\(∀ φ1:List Nat,V w U' φ1 fm (.map (some b)))->V w U' φ0 (Vl.frz n fp fm p) v:=by
 induction h with
 |lit φ v=>intro φ0 _ _ _ _ _;rw [Vl.frz];exact .lit _ _
 |agg φ l arr hn h h1 ih =>
  intro φ0 e el hf hU hv
  rw [Vl.frz,PV.fits] at hf
  rw [Vl.frz]
  refine .agg _ _ _ (by rw [FP,Í];exact hn) (fun i hi=>?_) h1
  have hi2:i<l.length:=by rw [FP,Í] at hi;exact hi
  have g:=DY hf i hi
  simp only [FP,é] at g ⊢
  exact ih i hi2 e el g hU hv
 |tup φ l arr hn h ih =>
  intro φ0 e el hf hU hv
  rw [Vl.frz,PV.fits] at hf
  rw [Vl.frz]
  refine .tup _ _ _ (by rw [FP,Í];exact hn) (fun i hi=>?_)
  have hi2:i<l.length:=by rw [FP,Í] at hi;exact hi
  have g:=DY hf i hi
  simp only [FP,é] at g ⊢
  exact ih i hi2 e el g hU hv
 |nil φ g=>intro φ0 _ _ _ _ _;rw [Vl.frz];exact .nil _ _
 |sl φ xs g b o sz cap us hc hm hs hU' hw h1 hv hf hg ih =>
  intro φ0 _ _ _ hU _
  rw [Vl.frz]
  exact .sl _ _ _ b o sz cap us hc hm hs (fun i j hi hj=>hU _ _ (hU' i j hi hj)) hw h1 (fun i hi j hj=>(hv i hi j hj).mono (fun b i h=>⟨hU b i h,Kp.refl⟩) (fun k x hk=>hk)) hf hg
 |ptr φ k o c h =>
  intro φ0 e el hf hU hv
  rw [Vl.frz] at hf ⊢
  split
  . rename_i hk
    subst hk
    have:c=b:=by
     rw [e,â (by omega),el,Nat.sub_self] at h
     simpa using h.symm
    subst this
    exact hv.1 o φ0
  . rename_i hk
    rw [Ä hk,PV.fits] at hf
    exact .ptr _ _ _ _ (Acn e el (by simpa using hf) h)
 |vptr φ l b o' o us hU' hw h1 hv ih =>
  intro φ0 _ _ _ hU _
  rw [Vl.frz]
  exact .vptr _ _ _ _ _ us (fun j hj=>hU _ _ (hU' j hj)) hw h1 (fun j hj=>(hv j hj).mono (fun b i h=>⟨hU b i h,Kp.refl⟩) (fun k x hk=>hk))
 |fn φ f l arr hn h ih =>
  intro φ0 e el hf hU hv
  rw [Vl.frz,PV.fits] at hf
  rw [Vl.frz]
  refine .fn _ _ _ _ (by rw [FP,Í];exact hn) (fun i hi=>?_)
  have hi2:i<l.length:=by rw [FP,Í] at hi;exact hi
  have g:=DY hf i hi
  simp only [FP,é] at g ⊢
  exact ih i hi2 e el g hU hv
 |fno φ f l arr hn h ih=>intro φ0 _ _ _ hU _;rw [Vl.frz];exact .fno _ _ _ _ hn (fun i hi=>(h i hi).mono (fun b i h=>⟨hU b i h,Kp.refl⟩) (fun k x hk=>hk))
 |fnb φ f l arr hn h ih=>intro φ0 _ _ _ hU _;rw [Vl.frz];exact .fnb _ _ _ _ hn (fun i hi=>(h i hi).mono (fun b i h=>⟨hU b i h,Kp.refl⟩) (fun k x hk=>hk))
 |nof φ f l=>intro φ0 _ _ _ _ _;rw [Vl.frz];exact .nof _ _ _
 |ifc φ t v=>intro φ0 _ _ _ _ _;rw [Vl.frz];exact .ifc _ _ _
 |mref φ k c h =>
  intro φ0 e el hf hU hv
  rw [Vl.frz] at hf ⊢
  split
  . rename_i hk
    subst hk
    have:c=b:=by
     rw [e,â (by omega),el,Nat.sub_self] at h
     simpa using h.symm
    subst this
    exact hv.2 φ0
  . rename_i hk
    rw [Ä hk,PV.fits] at hf
    exact .mref _ _ _ (Acn e el (by simpa using hf) h)
 |vmp φ kvs b es c hu hw hk hs=>intro φ0 _ _ _ hU _;rw [Vl.frz];exact .vmp _ _ b es c (hU _ _ hu) hw hk hs
 |mit φ kvs seen v=>intro φ0 _ _ _ _ _;rw [Vl.frz];exact .mit _ _ _ _
 |dis φ f i v h ih=>intro φ0 e el hf hU hv;rw [Vl.frz];exact .dis _ _ i _ (by have:=ih e el (by rw [Vl.frz,PV.fits]) hU hv;rw [Vl.frz] at this;exact this)
 |mp φ kvs v=>intro φ0 _ _ _ _ _;rw [Vl.frz];exact .mp _ _ _
 |undef φ v=>intro φ0 _ _ _ _ _;rw [Vl.frz];exact .undef _ _
 |emp φ g b o k hg=>intro φ0 _ _ _ _ _;rw [Vl.frz];exact .emp _ _ _ _ _ hg
 |prv φ xs A cap=>intro φ0 _ _ _ _ _;rw [Vl.frz];exact .prv _ _ _ _
 |asl φ k o m cap c h hc hm =>
  intro φ0 e el hf hU hv
  rw [Vl.frz] at hf ⊢
  rw [PV.fits] at hf
  exact .asl _ _ _ _ _ _ (Acn e el (by simpa using hf) h) hc hm
theorem WD {q:PV}{xs:List (List PV)}{g:Grow}(hp:∀ o,QA (fp o)=true)(hm:QA fm=true)(h:frz n fp fm q=.sl xs g):q=.sl xs g:=by
 cases q with
 |ptr k o =>
  rw [frz] at h
  split at h
  . have:=hp o;rw [h] at this;cases this
  . cases h
 |mref k =>
  rw [frz] at h
  split at h
  . rw [h] at hm;cases hm
  . cases h
 |_=>rw [frz] at h;first|exact h|cases h
theorem XR {q:PV}{xs:List (List Value)}(hp:∀ o,QA (fp o)=true)(hm:QA fm=true)(h:frz n fp fm q=.prv xs):q=.prv xs:=by
 cases q with
 |ptr k o =>
  rw [frz] at h
  split at h
  . have:=hp o;rw [h] at this;cases this
  . cases h
 |mref k =>
  rw [frz] at h
  split at h
  . rw [h] at hm;cases hm
  . cases h
 |_=>rw [frz] at h;first|exact h|cases h
theorem Acy {q:PV}(hp:∀ o,QA (fp o)=true)(hm:QA fm=true)(h:q.isM=false):(frz n fp fm q).isM=false:=by
 have key:∀ r,QA r=true->r.isM=false:=fun r hr=>by cases r<;>first|rfl|cases hr
 cases q with
 |ptr k o =>
  rw [frz]
  split
  . exact key _ (hp o)
  . rfl
 |mref k =>
  rw [frz]
  split
  . exact key _ hm
  . rfl
 |_=>rw [frz];first|exact h|rfl
theorem Acx {q:PV}{l:List PV}(hp:∀ o,QA (fp o)=true)(hm:QA fm=true)(h:frz n fp fm q=.tup l):∃ l2,q=.tup l2/\l=l2.map (frz n fp fm):=by
 cases q with
 |ptr k o =>
  rw [frz] at h
  split at h
  . have:=hp o;rw [h] at this;cases this
  . cases h
 |mref k =>
  rw [frz] at h
  split at h
  . rw [h] at hm;cases hm
  . cases h
 |tup l2=>rw [frz,FP] at h;exact⟨l2,rfl,(PV.tup.inj h).symm⟩
 |_=>rw [frz] at h;cases h
theorem Ve (n:Nat)(fp:Nat->PV)(fm:PV):∀ (env:List (Nat×PV)) (t:Nat),Cs (env.map fun x=>(x.1,frz n fp fm x.2)) t=frz n fp fm (Cs env t)
 | [],_=>by show PV.undef=frz n fp fm .undef;rw [frz]
 |(k,v)::r,t=>by
  show (if k=t then frz n fp fm v else Cs (r.map fun x=>(x.1,frz n fp fm x.2)) t)=frz n fp fm (if k=t then v else Cs r t)
  split
  . rfl
  . exact Ve n fp fm r t
theorem Vg {q:PV->Bool}(hu:q .undef=true):∀ {env:List (Nat×PV)},(env.all fun x=>q x.2)=true->∀ t,q (Cs env t)=true
 | [],_,_=>hu
 |(k,v)::r,h,t=>by
  simp only [Ď,Å] at h
  show q (if k=t then v else Cs r t)=true
  split
  . exact h.1
  . exact Vg hu h.2 t
def okF (p:PV):Bool:=p.fits 0&&(match p with|.sl _ .own=>false|.mp _=>false|.mit _ _=>false|_=>true)
theorem Ach {cs:List PV}(h:cs.all okF=true){j:Nat}{xs:List (List PV)}(hj:cs[j]?=some (.sl xs .own)):False:=by
 rw [Û] at h
 have:=h _ (Ò hj)
 simp [okF] at this
theorem XG {cs:List PV}(h:cs.all okF=true){p:PV}(hj:p∈cs):p.isM=false:=by
 rw [Û] at h
 have:=h _ hj
 cases p<;>first|rfl|(simp [okF] at this)
theorem Wk.frz {N:Nat}{st:St}{σ0:List (List PV)}{cs:List PV}{fp:Nat->PV}{fm:PV}(hσ:st.σ=σ0++[cs])(hN:N<=σ0.length)(hok:(cs.all okF=true/\fp=.vptr cs/\fm=.undef)∨∃ kvs,cs=[.mp kvs]/\fp=(fun _=>.undef)/\fm=.vmp kvs)
 (he:(st.env.all fun x=>(Vl.frz σ0.length fp fm x.2).fits σ0.length)=true) (hs:(σ0.all fun l=>l.all fun p=>(Vl.frz σ0.length fp fm p).fits σ0.length)=true) :
 Wk N st ⟨st.env.map fun x=>(x.1,Vl.frz σ0.length fp fm x.2),σ0.map fun l=>l.map (Vl.frz σ0.length fp fm)⟩:=by
 have hvp0:∀ o,QA (fp o)=true:=fun o=>by rcases hok with⟨_,rfl,_⟩|⟨_,_,rfl,_⟩<;>rfl
 have hvm0:QA fm=true:=by rcases hok with⟨_,_,rfl⟩|⟨_,_,_,rfl⟩<;>rfl
 intro w0 G0 tm w G hN0 h
 obtain⟨n,hn⟩:∃ n,n=σ0.length:=⟨_,rfl⟩
 rw [<- hn] at hN he hs ⊢
 have hlen:G.φ.length=n+1:=by rw [h.store.len,hσ,Õ,hn];rfl
 obtain⟨φ0,b,hφ⟩:∃ φ0 b,G.φ=φ0++[b]:=⟨G.φ.dropLast,G.φ.getLast (by intro e;rw [e] at hlen;cases hlen),(List.dropLast_concat_getLast _).symm⟩
 have hl0:φ0.length=n:=by rw [hφ,Õ] at hlen;simpa using hlen
 have hb:G.φ[n]?=some b:=by rw [hφ,â (by omega),hl0,Nat.sub_self];rfl
 have hcn:st.σ[n]?=some cs:=by rw [hσ,â (by omega),hn,Nat.sub_self];rfl
 obtain⟨⟨o,arr,hheap,⟨hlay,hsz⟩,hcell⟩,hnoU⟩:=h.store.blk n b cs hb hcn
 have hbφ0:b∉φ0:=fun hm=>by
  have:=h.store.nodup
  rw [hφ,Ĕ] at this
  exact this.2.2 b hm b (by simp) rfl
 let U':Nat->Nat->Prop:=fun b' i=>G.U b' i∨(b'=b/\i<cs.length)
 have hU:∀ b i,G.U b i->U' b i:=fun _ _ h=>.inl h
 have hvp:(∀ (o:Nat) (φ1:List Nat),V w U' φ1 (fp o) (.pointer (some ⟨b,o,none⟩)))/\∀ φ1:List Nat,V w U' φ1 fm (.map (some b)):=by
  rcases hok with⟨hcs,rfl,rfl⟩|⟨kvs,rfl,rfl,rfl⟩
  rotate_left
  . refine⟨fun _ _=>.undef _ _,fun φ1=>?_⟩
    rcases hlay with⟨_,h1⟩|⟨kvs',es,c,h1,rfl,h2,h3⟩|⟨_,_,h1,_⟩
    . have:=h1 (.mp kvs) (by simp);cases this
    . obtain rfl:kvs=kvs':=by simpa using h1
      exact .vmp _ _ b es c (.inr ⟨rfl,by simp⟩) hheap h2 h3
    . simp at h1
  obtain⟨T,rfl⟩:∃ T,o=.cells arr T (0,0):=by
   rcases hlay with⟨h1,_⟩|⟨kvs,es,c,rfl,_⟩|⟨_,_,rfl,_⟩
   . exact h1
   . have:=XG hcs (List.mem_singleton.2 rfl);cases this
   . have:=XG hcs (List.mem_singleton.2 rfl);cases this
  have hwc:∀ j,j<cs.length->w.cell? ⟨b,j,none⟩=some (arr.getD j Go.undef):=fun j hj=>by
   have:j<arr.size:=by omega
   simp [World.cell?,hheap,this]
  refine⟨fun o φ1=>?_,fun _=>.undef _ _⟩
  have:=V.vptr (w:=w) (U:=U') φ1 cs b 0 o (fun j=>arr.getD j Go.undef) (fun j hj=>.inr ⟨rfl,by omega⟩) (fun j hj=>by rw [ñ];exact hwc j hj)
   (fun j hj=>by
    obtain⟨v,h1,h2,_⟩:=hcell j _ (Ã hj)
    have:arr.getD j Go.undef=v:=by rw [É,h1];rfl
    rw [this];exact h2)
   (fun j hj=>by
    obtain⟨v,h1,_,h3,_⟩:=hcell j _ (Ã hj)
    have:arr.getD j Go.undef=v:=by rw [É,h1];rfl
    rw [this]
    have hp:(cs[j]).fits 0=true:=by
     rw [Û] at hcs
     have:=hcs _ (Ú hj)
     unfold okF at this
     simp only [Å] at this
     exact this.1
    exact (h3.pure (φ':=[]) hp).mono (fun b i h=>⟨hU b i h,Kp.refl⟩) (fun k x hk=>hk))
  rw [ñ] at this;exact this
 have hown:∀ {l:Loc} {xs:List (List PV)} {v:Value},A0 w G l xs v->A0 w ⟨U',φ0,G.Ω⟩ l xs v:=fun h1=>by
  rcases h1 with h1|⟨b2,cap,sz,T2,arr2,h1,h2,h3,h4,h5,h6,h7⟩
  . exact .inl h1
  . refine .inr ⟨b2,cap,sz,T2,arr2,h1,h2,h3,h4,h5,h6,fun i hi=>?_⟩
    rcases hi with hi|⟨rfl,_⟩
    . exact h7 i hi
    . exact absurd (Ò hb) (h.store.ob _ (by rw [h4];simp)).2
 have hownP:∀ {l:Loc} {xs:List (List Value)} {v:Value},BC w G l xs v->BC w ⟨U',φ0,G.Ω⟩ l xs v:=fun h1=>by
  rcases h1 with h1|⟨b2,cap,sz,T2,arr2,h1,h2,h0,h3,h4,h5,h6,h7⟩
  . exact .inl h1
  . refine .inr ⟨b2,cap,sz,T2,arr2,h1,h2,h0,h3,h4,h5,h6,fun i hi=>?_⟩
    rcases hi with hi|⟨rfl,_⟩
    . exact h7 i hi
    . exact absurd (Ò hb) (h.store.ob _ (by rw [h4];simp)).2
 have hV:∀ {p:PV} {v:Value},V w G.U G.φ p v->(Vl.frz n fp fm p).fits n=true->V w U' φ0 (Vl.frz n fp fm p) v:=fun hv hf=>hv.frz hφ hl0 hf hU hvp
 obtain⟨ψ,hψ,hψb⟩:=h.ext.phi
 have hbnew:w0.heap.size<=b∨G0.Ω b≠none:=by
  refine hψb b ?_
  rw [hψ,â (by omega)] at hb
  exact Ò hb
 have hget:∀ t,St.get ⟨st.env.map fun x=>(x.1,Vl.frz n fp fm x.2),σ0.map fun l=>l.map (Vl.frz n fp fm)⟩ t=Vl.frz n fp fm (st.get t):=fun t=>Ve n fp fm st.env t
 have hσk:∀ k cs2,(σ0.map fun l=>l.map (Vl.frz n fp fm))[k]?=some cs2->∃ l,σ0[k]?=some l/\cs2=l.map (Vl.frz n fp fm)/\st.σ[k]?=some l/\k<n:=fun k cs2 hk=>by
  rw [æ] at hk
  cases e:σ0[k]? with
  |none=>rw [e] at hk;cases hk
  |some l =>
   rw [e] at hk
   have hkl:=(List.getElem?_eq_some_iff.1 e).1
   exact⟨l,rfl,(Af hk).symm,by rw [hσ,Ô hkl];exact e,by omega⟩
 refine⟨⟨U',φ0,G.Ω⟩,⟨h.ext.os,h.ext.tape,h.ext.output,h.ext.size,h.ext.frame,fun b i hu=>⟨.inl (h.ext.cells b i hu).1,(h.ext.cells b i hu).2⟩,fun b' i hu=>?_,h.ext.newΩ,?_⟩,⟨?_,?_,fun k b' cs2 hk hc2=>?_,fun b' i hu=>?_,fun b' hb'=>?_⟩,⟨fun t=>?_,fun t=>?_⟩⟩
 . rcases hu with hu|⟨rfl,_⟩
   . exact h.ext.newU b' i hu
   . exact .inr hbnew
 . refine⟨φ0.drop G0.φ.length,?_,fun c hc=>?_⟩
   . have:φ0.take G0.φ.length=G0.φ:=by
      have e1:(φ0++[b]).take G0.φ.length=G0.φ:=by rw [<- hφ,hψ,List.take_left'];rfl
      rw [Ĭ (by omega)] at e1
      exact e1
     show φ0=G0.φ++φ0.drop G0.φ.length
     conv=>rhs;rw [<- this]
     rw [List.length_take_of_le (by omega),Ĉ]
   . refine hψb c ?_
     have e1:(φ0++[b]).drop G0.φ.length=ψ:=by rw [<- hφ,hψ,List.drop_left'];rfl
     rw [ĭ (by omega)] at e1
     rw [<- e1];exact ă _ hc
 . show φ0.length=_;rw [Í];omega
 . have:=h.store.nodup
   rw [hφ,Ĕ] at this
   exact this.1
 . obtain⟨l,h1,rfl,h3,hkn⟩:=hσk k cs2 hc2
   have hk':G.φ[k]?=some b':=by rw [hφ];exact (Ô (by omega)).trans hk
   obtain⟨⟨o',arr',g1,⟨g2,g3⟩,g4⟩,g5⟩:=h.store.blk k b' l hk' h3
   have hne:b'≠b:=fun e=>hbφ0 (e ▸ Ò hk)
   refine⟨⟨o',arr',g1,⟨?_,by rw [Í];exact g3⟩,fun j c hj=>?_⟩,fun i hu=>?_⟩
   . rcases g2.mono (fun b i hu=>⟨hU b i hu,Kp.refl⟩) with⟨k1,k2⟩|⟨kvs,es,c,rfl,k2,k3⟩|⟨kvs,seen,rfl,k2⟩
     . refine .inl ⟨k1,fun p hm=>?_⟩
       obtain⟨q,hq,rfl⟩:=List.mem_map.1 hm
       exact Acy hvp0 hvm0 (k2 q hq)
     . exact .inr (.inl ⟨kvs,es,c,by simp [Vl.frz],k2,k3⟩)
     . exact .inr (.inr ⟨kvs,seen,by simp [Vl.frz],k2⟩)
   . rw [æ] at hj
     cases e:l[j]? with
     |none=>rw [e] at hj;cases hj
     |some q =>
      rw [e] at hj
      obtain rfl:=Af hj
      obtain⟨v,k1,k2,k3,k4⟩:=g4 j q e
      refine⟨v,k1,k2,hV k3 ?_,?_⟩
      . rw [Û] at hs
        have:=hs l (Ò h1)
        rw [Û] at this
        exact this q (Ò e)
      . cases e2:Vl.frz n fp fm q with
        |prv xs =>
         have e3:=XR hvp0 hvm0 e2
         subst e3
         exact hownP k4
        |sl xs g =>
         have e3:=WD hvp0 hvm0 e2
         subst e3
         cases g with
         |own=>exact hown k4
         |_=>trivial
        |_=>trivial
   . rcases hu with hu|⟨e,_⟩
     . exact g5 i hu
     . exact hne e
 . rcases hu with hu|⟨rfl,_⟩
   . exact h.store.ub b' i hu
   . exact (Array.getElem?_eq_some_iff.1 hheap).1
 . obtain⟨k1,k2⟩:=h.store.ob b' hb'
   exact⟨k1,fun hm=>k2 (by rw [hφ];exact ă _ hm)⟩
 . rw [hget]
   exact hV (h.env.v t) (Vg (q:=fun p=>(Vl.frz n fp fm p).fits n) (by simp [Vl.frz,PV.fits]) he t)
 . rw [hget]
   have ht:=h.env.tag t
   cases e:Vl.frz n fp fm (st.get t) with
   |prv xs =>
    have e3:=XR hvp0 hvm0 e
    rw [e3] at ht
    exact hownP ht
   |sl xs g =>
    have e3:=WD hvp0 hvm0 e
    rw [e3] at ht
    cases g with
    |own=>exact hown ht
    |view l =>
     cases l with
     |tmp s=>exact⟨by rw [hget,ht.1,Vl.frz],ht.2⟩
     |cell k j =>
      obtain⟨l,b',h1,h2,h3,h4⟩:=ht
      by_cases hkn:k=n
      . subst hkn
        rw [hcn] at h1
        obtain rfl:=Af h1
        rcases hok with⟨hcs,_⟩|⟨kvs,rfl,_⟩
        . exact (Ach hcs h2).elim
        . match j,h2 with
          |0,h2=>cases h2
      . have hkl:k<n:=by
         have:=(List.getElem?_eq_some_iff.1 h1).1
         rw [hσ,Õ] at this
         simp at this;omega
        refine⟨l.map (Vl.frz n fp fm),b',?_,?_,Acn hφ hl0 hkl h3,h4⟩
        . show (σ0.map fun l=>l.map (Vl.frz n fp fm))[k]?=_
          rw [hσ,Ô (by omega)] at h1
          rw [æ,h1];rfl
        . rw [æ,h2,ä,Vl.frz]
     |tcomp _ _=>exact ht.elim
     |ret _=>exact ht.elim
    |_=>trivial
   |tup l =>
    obtain⟨l2,e4,rfl⟩:=Acx hvp0 hvm0 e
    rw [e4] at ht
    intro i xs hi
    rw [æ] at hi
    cases e5:l2[i]? with
    |none=>rw [e5] at hi;cases hi
    |some q =>
     rw [e5] at hi
     have e6:=WD hvp0 hvm0 (Af hi)
     obtain⟨a1,u1,g1,g2,g3⟩:=ht i xs (by rw [e5,e6])
     exact⟨a1,u1,g1,g2,hown g3⟩
   |_=>trivial
theorem OI {P:Program}{L:Cf}{N:Nat}{k:List TI}{Q:AX->St->Prop}{st:St}(σ0:List (List PV))(cs:List PV)(st2:St)(hk:UF k=true)(hσ:st.σ=σ0++[cs])(hN:N<=σ0.length)(hcs:cs.all okF=true)
 (he:(st.env.all fun x=>(frz σ0.length (.vptr cs) .undef x.2).fits σ0.length)=true) (hs:(σ0.all fun l=>l.all fun p=>(frz σ0.length (.vptr cs) .undef p).fits σ0.length)=true)
 (e:(⟨st.env.map fun x=>(x.1,frz σ0.length (.vptr cs) .undef x.2),σ0.map fun l=>l.map (frz σ0.length (.vptr cs) .undef)⟩:St)=st2) (h:WS P L N k Q st2):WS P L N k Q st :=
 Ry hk (Wk.frz hσ hN (.inl ⟨hcs,rfl,rfl⟩) he hs) (by rw [e];exact h)
theorem Xo {P:Program}{L:Cf}{N:Nat}{k:List TI}{Q:AX->St->Prop}{st:St}(σ0:List (List PV))(kvs:List (Value×Value))(st2:St)(hk:UF k=true)(hσ:st.σ=σ0++[[.mp kvs]])(hN:N<=σ0.length)
 (he:(st.env.all fun x=>(frz σ0.length (fun _=>.undef) (.vmp kvs) x.2).fits σ0.length)=true) (hs:(σ0.all fun l=>l.all fun p=>(frz σ0.length (fun _=>.undef) (.vmp kvs) p).fits σ0.length)=true)
 (e:(⟨st.env.map fun x=>(x.1,frz σ0.length (fun _=>.undef) (.vmp kvs) x.2),σ0.map fun l=>l.map (frz σ0.length (fun _=>.undef) (.vmp kvs))⟩:St)=st2) (h:WS P L N k Q st2):WS P L N k Q st :=
 Ry hk (Wk.frz hσ hN (.inr ⟨kvs,rfl,rfl,rfl⟩) he hs) (by rw [e];exact h)
theorem VC.dis {P:Program}{f:FuncId}{g:List Nat->List (List PV)}{q:PV}{rest:List PV}{σ:List (List PV)}{Q:Cl->List (List PV)->Prop}(h:∀ i,VC P f (.agg [.sl (g i) .shared,q]::rest) σ Q):VC P f (.agg [.dis g,q]::rest) σ Q:=by
 intro w G vs hs hvs hv hΩ hgl
 have h0:=hv 0 (by simp)
 simp only [Ė] at h0
 obtain⟨i,hi⟩:∃ i,V w G.U G.φ (.agg [.sl (g i) .shared,q]) (vs.getD 0 Go.undef):=by
  revert h0
  generalize vs.getD 0 Go.undef=z
  intro h0
  cases h0 with
  |agg _ _ arr hn hc h1 =>
   have c0:=hc 0 (by simp)
   simp only [Ė] at c0
   cases c0 with
   |dis _ _ i _ hd =>
    refine⟨i,.agg _ _ _ hn (fun j hj=>?_) h1⟩
    match j,hj with
    |0,_=>exact hd
    |1,_=>exact hc 1 (by simp)
 refine h i w G vs hs (by simpa using hvs) (fun j hj=>?_) hΩ hgl
 match j,hj with
 |0,_=>exact hi
 |j+1,hj=>exact hv (j+1) (by simpa using hj)
end
end Go.Vl
