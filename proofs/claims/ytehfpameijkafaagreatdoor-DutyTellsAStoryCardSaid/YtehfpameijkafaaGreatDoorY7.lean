/-
  A place that is written no more becomes cells that never turn: pointers to it become views. No program.
-/
import Derived.Test.YtehfpameijkafaaGreatDoorY4
set_option linter.unusedVariables false
set_option linter.unusedSimpArgs false
namespace Go.Vl
open Go Go.RowKit
mutual
def frz (n:Nat)(fp:Nat->PV)(fm:PV):PV->PV
 |.ptr b o=>if b=n then fp o else .ptr b o
 |.agg l=>.agg (Vm n fp fm l)
 |.tup l=>.tup (Vm n fp fm l)
 |.fn f l=>.fn f (Vm n fp fm l)
 |.fno b f l=>.fno b f l
 |.fnb f l=>.fnb f l
 |.lit v=>.lit v
 |.sl xs g=>.sl xs g
 |.vptr l o=>.vptr l o
 |.ifc=>.ifc
 |.mref b=>if b=n then fm else .mref b
 |.mp kvs=>.mp kvs
 |.vmp kvs=>.vmp kvs
 |.mit kvs seen=>.mit kvs seen
 |.dis f=>.dis f
 |.asl b o m cap=>.asl b o m cap
 |.prv xs=>.prv xs
 |.undef=>.undef
def Vm (n:Nat)(fp:Nat->PV)(fm:PV):List PV->List PV
 | []=>[]
 |p::l=>frz n fp fm p::Vm n fp fm l
end
theorem Fm (n:Nat)(fp:Nat->PV)(fm:PV):∀ l,Vm n fp fm l=l.map (frz n fp fm)
 | []=>by rw [Vm];rfl
 |p::l=>by rw [Vm,Fm n fp fm l];rfl
def P4:PV->Bool
 |.vptr _ _=>true
 |.vmp _=>true
 |.undef=>true
 |_=>false
section
variable {w w0:World} {U U':Nat->Nat->Prop} {φ:List Nat} {p:PV} {v:Value} {n b:Nat} {cs:List PV} {fp:Nat->PV} {fm:PV}
theorem Aat {φ φ0:List Nat}{k x b n:Nat}(e:φ=φ0++[b])(el:φ0.length=n)(hk:k<n)(hx:φ[k]?=some x):φ0[k]?=some x:=by
 rw [e,Õ (by omega)] at hx;exact hx
theorem V.frz (h:V w U φ p v):∀ {φ0:List Nat},φ=φ0++[b]->φ0.length=n->(Vl.frz n fp fm p).fits n=true->(∀ b i,U b i->U' b i) ->
 (∀ (o:Nat) (φ1:List Nat),V w U' φ1 (fp o) (.pointer (some ⟨b,o,none⟩)))/\(∀ φ1:List Nat,V w U' φ1 fm (.map (some b)))->V w U' φ0 (Vl.frz n fp fm p) v:=by
 induction h with
 |lit φ v=>intro φ0 _ _ _ _ _;rw [Vl.frz];exact .lit _ _
 |agg φ l arr y h C ih =>
  intro φ0 e el a d s
  rw [Vl.frz,PV.fits] at a
  rw [Vl.frz]
  refine .agg _ _ _ (by rw [Fm,Î];exact y) (fun i q=>?_) C
  have u:i<l.length:=by rw [Fm,Î] at q;exact q
  have g:=D5 a i q
  simp only [Fm,é] at g ⊢
  exact ih i u e el g d s
 |tup φ l arr y h ih =>
  intro φ0 e el a d s
  rw [Vl.frz,PV.fits] at a
  rw [Vl.frz]
  refine .tup _ _ _ (by rw [Fm,Î];exact y) (fun i q=>?_)
  have u:i<l.length:=by rw [Fm,Î] at q;exact q
  have g:=D5 a i q
  simp only [Fm,é] at g ⊢
  exact ih i u e el g d s
 |nil φ g=>intro φ0 _ _ _ _ _;rw [Vl.frz];exact .nil _ _
 |sl φ xs g b o sz cap us E F hs z D C s a G ih =>
  intro φ0 _ _ _ d _
  rw [Vl.frz]
  exact .sl _ _ _ b o sz cap us E F hs (fun i j q B=>d _ _ (z i j q B)) D C (fun i q j B=>(s i q j B).mono (fun b i h=>⟨d b i h,Kp.refl⟩) (fun k x r=>r)) a G
 |ptr φ k o c h =>
  intro φ0 e el a d s
  rw [Vl.frz] at a ⊢
  split
  . rename_i r
    subst r
    have:c=b:=by
     rw [e,ß (by omega),el,Nat.sub_self] at h
     simpa using h.symm
    subst this
    exact s.1 o φ0
  . rename_i r
    rw [Ä r,PV.fits] at a
    exact .ptr _ _ _ _ (Aat e el (by simpa using a) h)
 |vptr φ l b o' o us z D C s ih =>
  intro φ0 _ _ _ d _
  rw [Vl.frz]
  exact .vptr _ _ _ _ _ us (fun j B=>d _ _ (z j B)) D C (fun j B=>(s j B).mono (fun b i h=>⟨d b i h,Kp.refl⟩) (fun k x r=>r))
 |fn φ f l arr y h ih =>
  intro φ0 e el a d s
  rw [Vl.frz,PV.fits] at a
  rw [Vl.frz]
  refine .fn _ _ _ _ (by rw [Fm,Î];exact y) (fun i q=>?_)
  have u:i<l.length:=by rw [Fm,Î] at q;exact q
  have g:=D5 a i q
  simp only [Fm,é] at g ⊢
  exact ih i u e el g d s
 |fno φ f l arr y h ih=>intro φ0 _ _ _ d _;rw [Vl.frz];exact .fno _ _ _ _ y (fun i q=>(h i q).mono (fun b i h=>⟨d b i h,Kp.refl⟩) (fun k x r=>r))
 |fnb φ f l arr y h ih=>intro φ0 _ _ _ d _;rw [Vl.frz];exact .fnb _ _ _ _ y (fun i q=>(h i q).mono (fun b i h=>⟨d b i h,Kp.refl⟩) (fun k x r=>r))
 |nof φ f l=>intro φ0 _ _ _ _ _;rw [Vl.frz];exact .nof _ _ _
 |ifc φ t v=>intro φ0 _ _ _ _ _;rw [Vl.frz];exact .ifc _ _ _
 |mref φ k c h =>
  intro φ0 e el a d s
  rw [Vl.frz] at a ⊢
  split
  . rename_i r
    subst r
    have:c=b:=by
     rw [e,ß (by omega),el,Nat.sub_self] at h
     simpa using h.symm
    subst this
    exact s.2 φ0
  . rename_i r
    rw [Ä r,PV.fits] at a
    exact .mref _ _ _ (Aat e el (by simpa using a) h)
 |vmp φ kvs b es c H D r hs=>intro φ0 _ _ _ d _;rw [Vl.frz];exact .vmp _ _ b es c (d _ _ H) D r hs
 |mit φ kvs seen v=>intro φ0 _ _ _ _ _;rw [Vl.frz];exact .mit _ _ _ _
 |dis φ f i v h ih=>intro φ0 e el a d s;rw [Vl.frz];exact .dis _ _ i _ (by have:=ih e el (by rw [Vl.frz,PV.fits]) d s;rw [Vl.frz] at this;exact this)
 |mp φ kvs v=>intro φ0 _ _ _ _ _;rw [Vl.frz];exact .mp _ _ _
 |undef φ v=>intro φ0 _ _ _ _ _;rw [Vl.frz];exact .undef _ _
 |emp φ g b o k G=>intro φ0 _ _ _ _ _;rw [Vl.frz];exact .emp _ _ _ _ _ G
 |prv φ xs A cap=>intro φ0 _ _ _ _ _;rw [Vl.frz];exact .prv _ _ _ _
 |asl φ k o m cap c h E F =>
  intro φ0 e el a d s
  rw [Vl.frz] at a ⊢
  rw [PV.fits] at a
  exact .asl _ _ _ _ _ _ (Aat e el (by simpa using a) h) E F
theorem Vk {q:PV}{xs:List (List PV)}{g:Grow}(hp:∀ o,P4 (fp o)=true)(hm:P4 fm=true)(h:frz n fp fm q=.sl xs g):q=.sl xs g:=by
 cases q with
 |ptr k o =>
  rw [frz] at h
  split at h
  . have:=hp o;rw [h] at this;cases this
  . cases h
 |mref k =>
  rw [frz] at h
  split at h
  . rw [h] at hm;cases hm
  . cases h
 |_=>rw [frz] at h;first|exact h|cases h
theorem Wu {q:PV}{xs:List (List Value)}(hp:∀ o,P4 (fp o)=true)(hm:P4 fm=true)(h:frz n fp fm q=.prv xs):q=.prv xs:=by
 cases q with
 |ptr k o =>
  rw [frz] at h
  split at h
  . have:=hp o;rw [h] at this;cases this
  . cases h
 |mref k =>
  rw [frz] at h
  split at h
  . rw [h] at hm;cases hm
  . cases h
 |_=>rw [frz] at h;first|exact h|cases h
theorem Aa3 {q:PV}(hp:∀ o,P4 (fp o)=true)(hm:P4 fm=true)(h:q.isM=false):(frz n fp fm q).isM=false:=by
 have key:∀ r,P4 r=true->r.isM=false:=fun r a=>by cases r<;>first|rfl|cases a
 cases q with
 |ptr k o =>
  rw [frz]
  split
  . exact key _ (hp o)
  . rfl
 |mref k =>
  rw [frz]
  split
  . exact key _ hm
  . rfl
 |_=>rw [frz];first|exact h|rfl
theorem Aa2 {q:PV}{l:List PV}(hp:∀ o,P4 (fp o)=true)(hm:P4 fm=true)(h:frz n fp fm q=.tup l):∃ l2,q=.tup l2/\l=l2.map (frz n fp fm):=by
 cases q with
 |ptr k o =>
  rw [frz] at h
  split at h
  . have:=hp o;rw [h] at this;cases this
  . cases h
 |mref k =>
  rw [frz] at h
  split at h
  . rw [h] at hm;cases hm
  . cases h
 |tup l2=>rw [frz,Fm] at h;exact⟨l2,rfl,(PV.tup.inj h).symm⟩
 |_=>rw [frz] at h;cases h
theorem TN (n:Nat)(fp:Nat->PV)(fm:PV):∀ (env:List (Nat×PV)) (t:Nat),Cj (env.map fun x=>(x.1,frz n fp fm x.2)) t=frz n fp fm (Cj env t)
 | [],_=>by show PV.undef=frz n fp fm .undef;rw [frz]
 |(k,v)::r,t=>by
  show (if k=t then frz n fp fm v else Cj (r.map fun x=>(x.1,frz n fp fm x.2)) t)=frz n fp fm (if k=t then v else Cj r t)
  split
  . rfl
  . exact TN n fp fm r t
theorem TP {q:PV->Bool}(hu:q .undef=true):∀ {env:List (Nat×PV)},(env.all fun x=>q x.2)=true->∀ t,q (Cj env t)=true
 | [],_,_=>hu
 |(k,v)::r,h,t=>by
  simp only [ą,Æ] at h
  show q (if k=t then v else Cj r t)=true
  split
  . exact h.1
  . exact TP hu h.2 t
def okF (p:PV):Bool:=p.fits 0&&(match p with|.sl _ .own=>false|.mp _=>false|.mit _ _=>false|_=>true)
theorem Aam {cs:List PV}(h:cs.all okF=true){j:Nat}{xs:List (List PV)}(hj:cs[j]?=some (.sl xs .own)):False:=by
 rw [Ú] at h
 have:=h _ (Ò hj)
 simp [okF] at this
theorem Wj {cs:List PV}(h:cs.all okF=true){p:PV}(hj:p∈cs):p.isM=false:=by
 rw [Ú] at h
 have:=h _ hj
 cases p<;>first|rfl|(simp [okF] at this)
theorem Wk.frz {N:Nat}{st:St}{σ0:List (List PV)}{cs:List PV}{fp:Nat->PV}{fm:PV}(hσ:st.σ=σ0++[cs])(hN:N<=σ0.length)(hok:(cs.all okF=true/\fp=.vptr cs/\fm=.undef)∨∃ kvs,cs=[.mp kvs]/\fp=(fun _=>.undef)/\fm=.vmp kvs)
 (he:(st.env.all fun x=>(Vl.frz σ0.length fp fm x.2).fits σ0.length)=true) (hs:(σ0.all fun l=>l.all fun p=>(Vl.frz σ0.length fp fm p).fits σ0.length)=true) :
 Wk N st ⟨st.env.map fun x=>(x.1,Vl.frz σ0.length fp fm x.2),σ0.map fun l=>l.map (Vl.frz σ0.length fp fm)⟩:=by
 have d:∀ o,P4 (fp o)=true:=fun o=>by rcases hok with⟨_,rfl,_⟩|⟨_,_,rfl,_⟩<;>rfl
 have f:P4 fm=true:=by rcases hok with⟨_,_,rfl⟩|⟨_,_,_,rfl⟩<;>rfl
 intro w0 G0 tm w G hN0 h
 obtain⟨n,hn⟩:∃ n,n=σ0.length:=⟨_,rfl⟩
 rw [<- hn] at hN he hs ⊢
 have u:G.φ.length=n+1:=by rw [h.store.len,hσ,Ô,hn];rfl
 obtain⟨φ0,b,J⟩:∃ φ0 b,G.φ=φ0++[b]:=⟨G.φ.dropLast,G.φ.getLast (by intro e;rw [e] at u;cases u),(List.dropLast_concat_getLast _).symm⟩
 have M:φ0.length=n:=by rw [J,Ô] at u;simpa using u
 have hb:G.φ[n]?=some b:=by rw [J,ß (by omega),M,Nat.sub_self];rfl
 have S:st.σ[n]?=some cs:=by rw [hσ,ß (by omega),hn,Nat.sub_self];rfl
 obtain⟨⟨o,arr,r,⟨L,hsz⟩,C⟩,hnoU⟩:=h.store.blk n b cs hb S
 have W:b∉φ0:=fun X=>by
  have:=h.store.nodup
  rw [J,ď] at this
  exact this.2.2 b X b (by simp) rfl
 let U':Nat->Nat->Prop:=fun b' i=>G.U b' i∨(b'=b/\i<cs.length)
 have hU:∀ b i,G.U b i->U' b i:=fun _ _ h=>.inl h
 have hvp:(∀ (o:Nat) (φ1:List Nat),V w U' φ1 (fp o) (.pointer (some ⟨b,o,none⟩)))/\∀ φ1:List Nat,V w U' φ1 fm (.map (some b)):=by
  rcases hok with⟨z,rfl,rfl⟩|⟨kvs,rfl,rfl,rfl⟩
  rotate_left
  . refine⟨fun _ _=>.undef _ _,fun φ1=>?_⟩
    rcases L with⟨_,a⟩|⟨kvs',es,c,a,rfl,A,D⟩|⟨_,_,a,_⟩
    . have:=a (.mp kvs) (by simp);cases this
    . obtain rfl:kvs=kvs':=by simpa using a
      exact .vmp _ _ b es c (.inr ⟨rfl,by simp⟩) r A D
    . simp at a
  obtain⟨T,rfl⟩:∃ T,o=.cells arr T (0,0):=by
   rcases L with⟨a,_⟩|⟨kvs,es,c,rfl,_⟩|⟨_,_,rfl,_⟩
   . exact a
   . have:=Wj z (List.mem_singleton.2 rfl);cases this
   . have:=Wj z (List.mem_singleton.2 rfl);cases this
  have hwc:∀ j,j<cs.length->w.cell? ⟨b,j,none⟩=some (arr.getD j Go.undef):=fun j y=>by
   have:j<arr.size:=by omega
   simp [World.cell?,r,this]
  refine⟨fun o φ1=>?_,fun _=>.undef _ _⟩
  have:=V.vptr (w:=w) (U:=U') φ1 cs b 0 o (fun j=>arr.getD j Go.undef) (fun j y=>.inr ⟨rfl,by omega⟩) (fun j y=>by rw [ò];exact hwc j y)
   (fun j y=>by
    obtain⟨v,a,A,_⟩:=C j _ (Ã y)
    have:arr.getD j Go.undef=v:=by rw [É,a];rfl
    rw [this];exact A)
   (fun j y=>by
    obtain⟨v,a,_,D,_⟩:=C j _ (Ã y)
    have:arr.getD j Go.undef=v:=by rw [É,a];rfl
    rw [this]
    have hp:(cs[j]).fits 0=true:=by
     rw [Ú] at z
     have:=z _ (Ù y)
     unfold okF at this
     simp only [Æ] at this
     exact this.1
    exact (D.pure (φ':=[]) hp).mono (fun b i h=>⟨hU b i h,Kp.refl⟩) (fun k x K=>K))
  rw [ò] at this;exact this
 have E:∀ {l:Loc} {xs:List (List PV)} {v:Value},Az w G l xs v->Az w ⟨U',φ0,G.Ω⟩ l xs v:=fun a=>by
  rcases a with a|⟨b2,cap,sz,T2,arr2,a,A,D,O,h5,h6,h7⟩
  . exact .inl a
  . refine .inr ⟨b2,cap,sz,T2,arr2,a,A,D,O,h5,h6,fun i B=>?_⟩
    rcases B with B|⟨rfl,_⟩
    . exact h7 i B
    . exact absurd (Ò hb) (h.store.ob _ (by rw [O];simp)).2
 have F:∀ {l:Loc} {xs:List (List Value)} {v:Value},B9 w G l xs v->B9 w ⟨U',φ0,G.Ω⟩ l xs v:=fun a=>by
  rcases a with a|⟨b2,cap,sz,T2,arr2,a,A,h0,D,O,h5,h6,h7⟩
  . exact .inl a
  . refine .inr ⟨b2,cap,sz,T2,arr2,a,A,h0,D,O,h5,h6,fun i B=>?_⟩
    rcases B with B|⟨rfl,_⟩
    . exact h7 i B
    . exact absurd (Ò hb) (h.store.ob _ (by rw [O];simp)).2
 have hV:∀ {p:PV} {v:Value},V w G.U G.φ p v->(Vl.frz n fp fm p).fits n=true->V w U' φ0 (Vl.frz n fp fm p) v:=fun hv hf=>hv.frz J M hf hU hvp
 obtain⟨ψ,hψ,Y⟩:=h.ext.phi
 have P:w0.heap.size<=b∨G0.Ω b≠none:=by
  refine Y b ?_
  rw [hψ,ß (by omega)] at hb
  exact Ò hb
 have H:∀ t,St.get ⟨st.env.map fun x=>(x.1,Vl.frz n fp fm x.2),σ0.map fun l=>l.map (Vl.frz n fp fm)⟩ t=Vl.frz n fp fm (st.get t):=fun t=>TN n fp fm st.env t
 have hσk:∀ k cs2,(σ0.map fun l=>l.map (Vl.frz n fp fm))[k]?=some cs2->∃ l,σ0[k]?=some l/\cs2=l.map (Vl.frz n fp fm)/\st.σ[k]?=some l/\k<n:=fun k cs2 K=>by
  rw [ç] at K
  cases e:σ0[k]? with
  |none=>rw [e] at K;cases K
  |some l =>
   rw [e] at K
   have R:=(List.getElem?_eq_some_iff.1 e).1
   exact⟨l,rfl,(Af K).symm,by rw [hσ,Õ R];exact e,by omega⟩
 refine⟨⟨U',φ0,G.Ω⟩,⟨h.ext.os,h.ext.tape,h.ext.output,h.ext.size,h.ext.frame,fun b i m=>⟨.inl (h.ext.cells b i m).1,(h.ext.cells b i m).2⟩,fun b' i m=>?_,h.ext.newΩ,?_⟩,⟨?_,?_,fun k b' cs2 K hc2=>?_,fun b' i m=>?_,fun b' hb'=>?_⟩,⟨fun t=>?_,fun t=>?_⟩⟩
 . rcases m with m|⟨rfl,_⟩
   . exact h.ext.newU b' i m
   . exact .inr P
 . refine⟨φ0.drop G0.φ.length,?_,fun c hc=>?_⟩
   . have:φ0.take G0.φ.length=G0.φ:=by
      have e1:(φ0++[b]).take G0.φ.length=G0.φ:=by rw [<- J,hψ,List.take_left'];rfl
      rw [Ĩ (by omega)] at e1
      exact e1
     show φ0=G0.φ++φ0.drop G0.φ.length
     conv=>rhs;rw [<- this]
     rw [List.length_take_of_le (by omega),ă]
   . refine Y c ?_
     have e1:(φ0++[b]).drop G0.φ.length=ψ:=by rw [<- J,hψ,List.drop_left'];rfl
     rw [ĩ (by omega)] at e1
     rw [<- e1];exact ĉ _ hc
 . show φ0.length=_;rw [Î];omega
 . have:=h.store.nodup
   rw [J,ď] at this
   exact this.1
 . obtain⟨l,a,rfl,D,Z⟩:=hσk k cs2 hc2
   have hk':G.φ[k]?=some b':=by rw [J];exact (Õ (by omega)).trans K
   obtain⟨⟨o',arr',g1,⟨g2,g3⟩,g4⟩,g5⟩:=h.store.blk k b' l hk' D
   have hne:b'≠b:=fun e=>W (e ▸ Ò K)
   refine⟨⟨o',arr',g1,⟨?_,by rw [Î];exact g3⟩,fun j c y=>?_⟩,fun i m=>?_⟩
   . rcases g2.mono (fun b i m=>⟨hU b i m,Kp.refl⟩) with⟨k1,k2⟩|⟨kvs,es,c,rfl,k2,k3⟩|⟨kvs,seen,rfl,k2⟩
     . refine .inl ⟨k1,fun p X=>?_⟩
       obtain⟨q,hq,rfl⟩:=List.mem_map.1 X
       exact Aa3 d f (k2 q hq)
     . exact .inr (.inl ⟨kvs,es,c,by simp [Vl.frz],k2,k3⟩)
     . exact .inr (.inr ⟨kvs,seen,by simp [Vl.frz],k2⟩)
   . rw [ç] at y
     cases e:l[j]? with
     |none=>rw [e] at y;cases y
     |some q =>
      rw [e] at y
      obtain rfl:=Af y
      obtain⟨v,k1,k2,k3,k4⟩:=g4 j q e
      refine⟨v,k1,k2,hV k3 ?_,?_⟩
      . rw [Ú] at hs
        have:=hs l (Ò a)
        rw [Ú] at this
        exact this q (Ò e)
      . cases e2:Vl.frz n fp fm q with
        |prv xs =>
         have e3:=Wu d f e2
         subst e3
         exact F k4
        |sl xs g =>
         have e3:=Vk d f e2
         subst e3
         cases g with
         |own=>exact E k4
         |_=>trivial
        |_=>trivial
   . rcases m with m|⟨e,_⟩
     . exact g5 i m
     . exact hne e
 . rcases m with m|⟨rfl,_⟩
   . exact h.store.ub b' i m
   . exact (Array.getElem?_eq_some_iff.1 r).1
 . obtain⟨k1,k2⟩:=h.store.ob b' hb'
   exact⟨k1,fun X=>k2 (by rw [J];exact ĉ _ X)⟩
 . rw [H]
   exact hV (h.env.v t) (TP (q:=fun p=>(Vl.frz n fp fm p).fits n) (by simp [Vl.frz,PV.fits]) he t)
 . rw [H]
   have I:=h.env.tag t
   cases e:Vl.frz n fp fm (st.get t) with
   |prv xs =>
    have e3:=Wu d f e
    rw [e3] at I
    exact F I
   |sl xs g =>
    have e3:=Vk d f e
    rw [e3] at I
    cases g with
    |own=>exact E I
    |view l =>
     cases l with
     |tmp s=>exact⟨by rw [H,I.1,Vl.frz],I.2⟩
     |cell k j =>
      obtain⟨l,b',a,A,D,O⟩:=I
      by_cases Z:k=n
      . subst Z
        rw [S] at a
        obtain rfl:=Af a
        rcases hok with⟨z,_⟩|⟨kvs,rfl,_⟩
        . exact (Aam z A).elim
        . match j,A with
          |0,A=>cases A
      . have R:k<n:=by
         have:=(List.getElem?_eq_some_iff.1 a).1
         rw [hσ,Ô] at this
         simp at this;omega
        refine⟨l.map (Vl.frz n fp fm),b',?_,?_,Aat J M R D,O⟩
        . show (σ0.map fun l=>l.map (Vl.frz n fp fm))[k]?=_
          rw [hσ,Õ (by omega)] at a
          rw [ç,a];rfl
        . rw [ç,A,ä,Vl.frz]
     |tcomp _ _=>exact I.elim
     |ret _=>exact I.elim
    |_=>trivial
   |tup l =>
    obtain⟨l2,e4,rfl⟩:=Aa2 d f e
    rw [e4] at I
    intro i xs B
    rw [ç] at B
    cases e5:l2[i]? with
    |none=>rw [e5] at B;cases B
    |some q =>
     rw [e5] at B
     have e6:=Vk d f (Af B)
     obtain⟨a1,u1,g1,g2,g3⟩:=I i xs (by rw [e5,e6])
     exact⟨a1,u1,g1,g2,E g3⟩
   |_=>trivial
theorem NK {P:Program}{L:Cf}{N:Nat}{k:List TI}{Q:AX->St->Prop}{st:St}(σ0:List (List PV))(cs:List PV)(st2:St)(hk:Tz k=true)(hσ:st.σ=σ0++[cs])(hN:N<=σ0.length)(hcs:cs.all okF=true)
 (he:(st.env.all fun x=>(frz σ0.length (.vptr cs) .undef x.2).fits σ0.length)=true) (hs:(σ0.all fun l=>l.all fun p=>(frz σ0.length (.vptr cs) .undef p).fits σ0.length)=true)
 (e:(⟨st.env.map fun x=>(x.1,frz σ0.length (.vptr cs) .undef x.2),σ0.map fun l=>l.map (frz σ0.length (.vptr cs) .undef)⟩:St)=st2) (h:WS P L N k Q st2):WS P L N k Q st :=
 Qo hk (Wk.frz hσ hN (.inl ⟨hcs,rfl,rfl⟩) he hs) (by rw [e];exact h)
theorem VF {P:Program}{L:Cf}{N:Nat}{k:List TI}{Q:AX->St->Prop}{st:St}(σ0:List (List PV))(kvs:List (Value×Value))(st2:St)(hk:Tz k=true)(hσ:st.σ=σ0++[[.mp kvs]])(hN:N<=σ0.length)
 (he:(st.env.all fun x=>(frz σ0.length (fun _=>.undef) (.vmp kvs) x.2).fits σ0.length)=true) (hs:(σ0.all fun l=>l.all fun p=>(frz σ0.length (fun _=>.undef) (.vmp kvs) p).fits σ0.length)=true)
 (e:(⟨st.env.map fun x=>(x.1,frz σ0.length (fun _=>.undef) (.vmp kvs) x.2),σ0.map fun l=>l.map (frz σ0.length (fun _=>.undef) (.vmp kvs))⟩:St)=st2) (h:WS P L N k Q st2):WS P L N k Q st :=
 Qo hk (Wk.frz hσ hN (.inr ⟨kvs,rfl,rfl,rfl⟩) he hs) (by rw [e];exact h)
theorem VC.dis {P:Program}{f:FuncId}{g:List Nat->List (List PV)}{q:PV}{rest:List PV}{σ:List (List PV)}{Q:Cb->List (List PV)->Prop}(h:∀ i,VC P f (.agg [.sl (g i) .shared,q]::rest) σ Q):VC P f (.agg [.dis g,q]::rest) σ Q:=by
 intro w G vs hs c e l d
 have b:=e 0 (by simp)
 simp only [ĕ] at b
 obtain⟨i,m⟩:∃ i,V w G.U G.φ (.agg [.sl (g i) .shared,q]) (vs.getD 0 Go.undef):=by
  revert b
  generalize vs.getD 0 Go.undef=z
  intro b
  cases b with
  |agg _ _ arr n k o =>
   have c0:=k 0 (by simp)
   simp only [ĕ] at c0
   cases c0 with
   |dis _ _ i _ p =>
    refine⟨i,.agg _ _ _ n (fun j a=>?_) o⟩
    match j,a with
    |0,_=>exact p
    |1,_=>exact k 1 (by simp)
 refine h i w G vs hs (by simpa using c) (fun j a=>?_) l d
 match j,a with
 |0,_=>exact m
 |j+1,a=>exact e (j+1) (by simpa using a)
end
end Go.Vl
