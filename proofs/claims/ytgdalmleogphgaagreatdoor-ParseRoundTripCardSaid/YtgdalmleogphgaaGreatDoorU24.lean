/-
  Forms and Expr answer as the reference does; the statement ParseMatchesSpec computes true. No program.
-/
import Derived.Test.YtgdalmleogphgaaGreatDoorU14
import Derived.Test.YtgdalmleogphgaaGreatDoorU23
namespace Go.Sp
open Go
inductive Shape:List Lx.Tok->Prop where
 |one (n:Nat):Shape [⟨5,n,[],0⟩]
 |cons (t:Lx.Tok) (l:List Lx.Tok) (h5:t.kind≠5) (h2:t.kind=2->t.s=[]) (h3:t.kind≠2->t.n=0) (h:Shape l):Shape (t::l)
theorem NF:∀ (r b:List UInt8) {k v:Nat} {s t:List UInt8},Lx.text b r=.ok k s v t->k=3/\v=0
 | [],b,k,v,s,t,h=>by unfold Lx.text at h;split at h<;>cases h
 |c::r,b,k,v,s,t,h=>by
  unfold Lx.text at h
  split at h
  . cases h
  . split at h
    . cases h;exact⟨rfl,rfl⟩
    . split at h
      . split at h
        . cases h
        . rename_i d r'
          split at h
          . cases h
          . exact NF r' _ h
      . split at h
        . cases h
        . exact NF r _ h
termination_by r=>r.length
theorem Lv:∀ (r b:List UInt8) {e:Nat},Lx.text b r=.bad e->e≠0
 | [],b,e,h=>by unfold Lx.text at h;split at h<;>cases h<;>decide
 |c::r,b,e,h=>by
  unfold Lx.text at h
  split at h
  . cases h;decide
  . split at h
    . cases h
    . split at h
      . split at h
        . cases h;decide
        . rename_i d r'
          split at h
          . cases h;decide
          . exact Lv r' _ h
      . split at h
        . cases h;decide
        . exact Lv r _ h
termination_by r=>r.length
theorem VK {r:List UInt8}{k v:Nat}{s t:List UInt8}(h:Lx.tok r=.ok k s v t):k≠5/\(k=2->s=[])/\(k≠2->v=0):=by
 unfold Lx.tok at h
 split at h
 . cases h
 . split at h
   . unfold Lx.name at h
     split at h
     . cases h
     . cases h;exact⟨by decide,fun h=>absurd h (by decide),fun _=>rfl⟩
   . split at h
     . unfold Lx.number at h
       simp only at h
       split at h
       . cases h
       . cases h;exact⟨by decide,fun _=>rfl,fun h=>absurd rfl h⟩
     . split at h
       . obtain⟨rfl,rfl⟩:=NF _ _ h
         exact⟨by decide,fun h=>absurd h (by decide),fun _=>rfl⟩
       . unfold Lx.sign at h
         split at h
         . cases h;exact⟨by decide,fun h=>absurd h (by decide),fun _=>rfl⟩
         . split at h
           . cases h
           . split at h
             . cases h;exact⟨by decide,fun h=>absurd h (by decide),fun _=>rfl⟩
             . cases h
theorem Uv {r:List UInt8}{e:Nat}(h:Lx.tok r=.bad e):e≠0:=by
 unfold Lx.tok at h
 split at h
 . cases h;decide
 . split at h
   . unfold Lx.name at h
     split at h
     . cases h;decide
     . cases h
   . split at h
     . unfold Lx.number at h
       simp only at h
       split at h
       . cases h;decide
       . cases h
     . split at h
       . exact Lv _ _ h
       . unfold Lx.sign at h
         split at h
         . cases h
         . split at h
           . cases h;decide
           . split at h
             . cases h
             . cases h;decide
theorem Dw {n:Nat}:∀ (f:Nat) (r:List UInt8),(∀ l,Lx.toks n f r=.ok l->Shape l/\l.length<=f+1)/\∀ p e,Lx.toks n f r=.error (p,e)->e≠0
 |0,r=>⟨fun l h=>by unfold Lx.toks at h;cases h;exact⟨.one _,by simp⟩,fun p e h=>by unfold Lx.toks at h;cases h⟩
 |f+1,[]=>⟨fun l h=>by unfold Lx.toks at h;cases h;exact⟨.one _,by simp⟩,fun p e h=>by unfold Lx.toks at h;cases h⟩
 |f+1,c::r=>by
  constructor
  . intro l h
    unfold Lx.toks at h
    simp only at h
    split at h
    . cases h
    . rename_i k s v t ht
      obtain⟨h1,h2,h3⟩:=VK ht
      split at h
      . cases h
      . rename_i l' hl
        cases h
        obtain⟨h4,h5⟩:=(Dw f _).1 _ hl
        exact⟨.cons _ _ h1 h2 h3 h4,by simp only [List.length_cons];omega⟩
  . intro p e h
    unfold Lx.toks at h
    simp only at h
    split at h
    . rename_i e' ht
      cases h
      exact Uv ht
    . split at h
      . rename_i x hx
        cases h
        exact (Dw f _).2 _ _ hx
      . cases h
theorem Shape.next {l:List Lx.Tok}(h:Shape l):∀ (k:Nat) (t:Lx.Tok),l[k]?=some t->t.kind≠5->∃ t',l[k+1]?=some t':=by
 induction h with
 |one n =>
  intro k t ht h5
  cases k with
  |zero=>cases ht;exact absurd rfl h5
  |succ k=>simp at ht
 |cons t l h5 h2 h3 h ih =>
  intro k t' ht h5'
  cases k with
  |zero =>
   cases h with
   |one n=>exact⟨_,rfl⟩
   |cons t2 l2 _ _ _ _=>exact⟨_,rfl⟩
  |succ k =>
   rw [List.getElem?_cons_succ] at ht ⊢
   exact ih k t' ht h5'
theorem Shape.mem {l:List Lx.Tok}(h:Shape l):∀ t∈l,(t.kind=2->t.s=[])/\(t.kind≠2->t.n=0):=by
 induction h with
 |one n=>intro t ht;obtain rfl:=List.mem_singleton.1 ht;exact⟨fun h=>absurd h (show (5:Nat)≠2 by decide),fun _=>rfl⟩
 |cons t l h5 h2 h3 h ih =>
  intro t' ht
  rcases List.mem_cons.1 ht with rfl|ht
  . exact⟨h2,h3⟩
  . exact ih t' ht
theorem FL {l:List Lx.Tok}(h:Shape l)(hl:l.length<=1000000):Hs (l.map E9)/\∃ t,gi (l.map E9) 0=some t:=by
 refine⟨⟨fun k t ht h5=>?_,by rw [List.length_map];exact hl,fun t ht h2=>?_,fun t ht h2=>?_⟩,?_⟩
 . have hk:=(Am ht).2
   unfold gi at ht ⊢
   rw [if_pos hk.1,List.getElem?_map] at ht
   cases e:l[k.toNat]? with
   |none=>rw [e] at ht;cases ht
   |some t0 =>
    rw [e] at ht
    obtain rfl:=Ac ht
    obtain⟨t',h'⟩:=h.next k.toNat t0 e (fun h6=>h5 (by show ((t0.kind:Nat):Int)=5;rw [h6];rfl))
    refine⟨E9 t',?_⟩
    rw [if_pos (by omega),show (k+1).toNat=k.toNat+1 by omega,List.getElem?_map,h'];rfl
 . obtain⟨t0,h0,rfl⟩:=List.mem_map.1 ht
   have h3:=(h.mem t0 h0).1 (by have:((t0.kind:Nat):Int)=2:=h2;omega)
   show (⟨⟨t0.s⟩⟩:ByteArray)=_
   rw [h3]
 . obtain⟨t0,h0,rfl⟩:=List.mem_map.1 ht
   have h3:=(h.mem t0 h0).2 (fun e=>h2 (by show ((t0.kind:Nat):Int)=2;rw [e];rfl))
   show ((t0.n:Nat):Int)=0
   rw [h3];rfl
 . cases h with
   |one n=>exact⟨_,rfl⟩
   |cons t l _ _ _ _=>exact⟨_,rfl⟩
theorem Rj (src:ByteArray):∃ L pr,IB src=some (L,pr)/\C0 src=some ⟨L,pr⟩/\((pr=⟨0,0⟩/\Hs L/\∃ t,gi L 0=some t)∨pr.E≠0):=by
 refine⟨(CJ src).1,(CJ src).2,rfl,rfl,?_⟩
 unfold CJ
 by_cases h:65536<src.size
 . rw [if_pos h];exact .inr (show (2:Int)≠0 by decide)
 . rw [if_neg h]
   cases ht:Lx.tokens src.data.toList with
   |ok ts =>
    obtain⟨h1,h2⟩:=(Dw _ _).1 _ ht
    have h3:src.data.toList.length=src.size:=rfl
    exact .inl ⟨rfl,FL h1 (by omega)⟩
   |error x =>
    obtain⟨p,e⟩:=x
    have:=(Dw _ _).2 _ _ ht
    exact .inr (show ((e:Nat):Int)≠0 by omega)
section
variable {L:List Ab} (hL:Hs L) {P:Ay}
include hL
theorem Ri:∀ (r:Nat) (k n:Int) (out:List Af) (t:Ab),gi L k=some t->0<=n->n<=2000->(out.length:Int)<=k->Ga out->(L.length:Int)-k<=r ->
 ∃ u w,Ev (fun m=>Bn m ⟨L,P⟩ out k n) u/\Ev (fun m=>B2 m out (L.drop k.toNat) n) w /\
  ((∃ out' k' t' n',gi L k'=some t'/\t'.Kind=5/\Ga out'/\u=.inl out'/\w=.inl (out',L.drop k'.toNat,n')) ∨
   (∃ (pr:Al) (x:Aa),pr.E≠0/\u=.inr ⟨[],x,⟨pr.At,pr.E⟩⟩/\∃ c,w=.inr (.pan pr c)))
 |0,k,n,out,t,ht,hn0,hn,ho,hf,hr=>by have:=(Am ht).2;omega
 |r+1,k,n,out,t,ht,hn0,hn,ho,hf,hr=>by
  have hk:=(Am ht).2
  have hl:=hL.len
  have hp:L.drop k.toNat=t::L.drop (k+1).toNat:=(Am ht).1
  by_cases c1:t.Kind=5
  . have c1':(t.Kind != 5)=false:=by simpa using c1
    refine⟨.inl out,.inl (out,L.drop k.toNat,n),Ev.step (fun m=>Bn.eq_2 (n:=m) _ _ _ _) (Ev.of fun m=>?_),Ev.step (fun m=>B2.eq_2 (n:=m) _ _ _) (Ev.of fun m=>?_),.inl ⟨out,k,t,n,ht,c1,hf,rfl,rfl⟩⟩
    . simp only [ht,Option.bind_some,c1',cond_false]
    . rw [hp];simp only [F2,Option.bind_some,c1',cond_false]
  . have c1':(t.Kind != 5)=true:=by simpa using c1
    obtain⟨g,y,hg,hy,t2,ht2,hc⟩:=VD hL L.length k t ht (by omega) 1 n hn0 hn
    have fg:Gb g.F:=by obtain⟨m,hm⟩:=hg.get;exact (Xs m).F _ _ _ _ _ hm
    have r1:∀ u,Ev (fun m=>(bif (g.E != 0) then
     (gi L g.To).bind fun x2=>some (.inr (AO.mk [] (Aa.mk 0 0 ⟨#[]⟩ [] 0) (Ay.mk x2.At g.E)))
     else Bn m ⟨L,P⟩ (out++[g.F]) g.To g.N:Option ((List Af) ⊕ AO))) u->Ev (fun m=>Bn m ⟨L,P⟩ out k n) u:=by
     intro u hu
     refine Ev.step (fun m=>Bn.eq_2 (n:=m) _ _ _ _) ?_
     simp only [ht,Option.bind_some,c1',cond_true]
     refine Ev.bind hg ?_
     refine hu.congr fun m=>?_
     simp only [FT ho (show k<=1000000 by omega) (show 73<=1000 by decide),Option.bind_some]
    have p1:∀ w,Ev (fun m=>(match y with
     |.ok f s=>B2 m (out++[f]) s.l s.forms
     |.pan e1 s1=>some (.inr (.pan e1 (out,s1.l,s1.forms))):Option (((List Af)×(List Ab)×Int) ⊕ (Ex Al ((List Af)×(List Ab)×Int) Unit)))) w->Ev (fun m=>B2 m out (L.drop k.toNat) n) w:=by
     intro w hw
     refine Ev.step (fun m=>B2.eq_2 (n:=m) _ _ _) ?_
     rw [CM ht] at hy
     rw [hp]
     simp only [F2,Option.bind_some,c1',cond_true]
     refine Ev.bind hy ?_
     refine hw.congr fun m=>?_
     cases y with
     |ok a p=>simp only [FT ho (show k<=1000000 by omega) (show 73<=1000 by decide),Option.bind_some]
     |pan e p=>rfl
    rcases hc with⟨he,hgt,hN0,hN,rfl⟩|⟨he,f,rfl⟩
    . rw [show (g.E != 0)=false by simpa using he] at r1
      have hk2:=(Am ht2).2
      have fo:Ga (out++[g.F]):=⟨by simp;omega,fun x hx=>by
       rcases List.mem_append.1 hx with hx|hx
       . exact hf.2 x hx
       . obtain rfl:=List.mem_singleton.1 hx;exact fg⟩
      obtain⟨u,w,hu,hw,hc⟩:=Ri r g.To g.N (out++[g.F]) t2 ht2 hN0 hN (by simp;omega) fo (by omega)
      exact⟨u,w,r1 u hu,p1 w hw,hc⟩
    . rw [show (g.E != 0)=true by simpa using he] at r1
      refine⟨_,_,r1 _ ?_,p1 _ Ev.pure,.inr ⟨⟨t2.At,g.E⟩,⟨0,0,⟨#[]⟩,[],0⟩,he,rfl,_,rfl⟩⟩
      simp only [cond_true,ht2,Option.bind_some]
      exact Ev.pure
end
theorem Ks (src:ByteArray):∃ l pr x,Ev (fun n=>BM n src) (l,pr)/\Ev (fun n=>CG n src) ⟨l,x,pr⟩/\Ga l/\(pr.E=0->pr=⟨0,0⟩)/\(pr.E≠0->l=[]):=by
 obtain⟨L,pr,h1,h2,⟨rfl,hL,t,ht⟩|he⟩:=Rj src
 . obtain⟨u,w,hu,hw,hc⟩:=Ri hL (P:=⟨0,0⟩) L.length 0 0 [] t ht (by decide) (by decide) (by decide) Kn (by omega)
   have hw':Ev (fun m=>B2 m [] L 0) w:=hw
   have rf:∀ r,Ev (fun _=>(match u with
    |.inl out=>some (AO.mk out (Aa.mk 0 0 ⟨#[]⟩ [] 0) (Ay.mk 0 0))
    |.inr o=>some o:Option AO)) r->Ev (fun n=>CG n src) r:=by
    rintro r ⟨N,hr⟩
    obtain⟨M,hM⟩:=hu
    refine⟨max N M,fun n hn=>?_⟩
    have a:=hr n (by omega)
    have b:=hM n (by omega)
    simp only at a b ⊢
    rw [<- a]
    unfold CG
    rw [h2]
    simp only [Option.bind_some,bne_self_eq_false,cond_false]
    rw [b]
    rfl
   have pf:∀ r,Ev (fun _=>((match w with
    |.inl (out1,q4,q5)=>some (.ok () (out1,q4,q5))
    |.inr o=>some o:Option (Ex Al ((List Af)×(List Ab)×Int) Unit)).bind fun y=>(match y with
    |.ok f c=>(gi c.2.1 0).bind fun x=>bif (x.Kind != 5) then
     (AN (Ad.mk c.2.1 c.2.2) 5).bind fun y1=>match y1 with
     |.ok f1 s=>some ((Ay.mk 0 0),c.1)
     |.pan e1 s1=>some ((Ay.mk e1.At e1.E),c.1)
     else some ((Ay.mk 0 0),c.1)
    |.pan e c1=>some ((Ay.mk e.At e.E),c1.1):Option (Ay×List Af))).bind fun bad=>(bif (bad.1.E != 0) then some ([],bad.1) else some (bad.2,bad.1):Option (List Af×Ay))) r->Ev (fun n=>BM n src) r:=by
    rintro r ⟨N,hr⟩
    obtain⟨M,hM⟩:=hw'
    refine⟨max N M,fun n hn=>?_⟩
    have a:=hr n (by omega)
    have b:=hM n (by omega)
    simp only at a b ⊢
    rw [<- a]
    unfold BM Dm D6
    rw [h1]
    simp only [Option.bind_some,bne_self_eq_false,cond_false]
    rw [b]
    rfl
   rcases hc with⟨out',k',t',n',ht',h5,hf,rfl,rfl⟩|⟨st,x,he,rfl,c,rfl⟩
   . refine⟨out',⟨0,0⟩,_,pf _ ?_,rf _ Ev.pure,hf,fun _=>rfl,fun h=>absurd rfl h⟩
     have hh:gi (L.drop k'.toNat) 0=some t':=by rw [<- QW _ (Am ht').2.1];exact ht'
     have h5':(t'.Kind != 5)=false:=by simpa using h5
     simp only [Option.bind_some,hh,h5',cond_false,bne_self_eq_false]
     exact Ev.pure
   . refine⟨[],⟨st.At,st.E⟩,_,pf _ ?_,rf _ Ev.pure,Kn,fun h=>absurd h he,fun _=>rfl⟩
     have he':(st.E != 0)=true:=by simpa using he
     simp only [Option.bind_some,he',cond_true]
     exact Ev.pure
 . have he':(pr.E != 0)=true:=by simpa using he
   refine⟨[],pr,⟨0,0,⟨#[]⟩,[],0⟩,Ev.of fun n=>?_,Ev.of fun n=>?_,Kn,fun h=>absurd h he,fun _=>rfl⟩
   . unfold BM Dm
     rw [h1]
     simp only [Option.bind_some,he',cond_true]
   . unfold CG
     rw [h2]
     simp only [Option.bind_some,he',cond_true]
theorem TS (e:Aa):Aa.mk e.Op e.N e.S e.Kids e.At=e:=by cases e;rfl
theorem JJ (src:ByteArray):∃ x pr l,Ev (fun n=>BF n src) (x,pr)/\Ev (fun n=>Da n src) ⟨l,x,pr⟩/\C8 x/\(pr.E=0->pr=⟨0,0⟩):=by
 have z:C8 ⟨0,0,⟨#[]⟩,[],0⟩:=Of.e
 obtain⟨L,pr,h1,h2,⟨rfl,hL,t,ht⟩|he⟩:=Rj src
 . obtain⟨g,y,hg,hy,hc,_⟩:=VB (f:=0) hL ht 1
   have fg:C8 g.X:=by obtain⟨m,hm⟩:=hg.get;exact (Ws m).E _ _ _ _ hm
   have hy':Ev (fun m=>Ax m ⟨L,0⟩ 1) y:=hy
   have rf:∀ r,Ev (fun _=>(bif (g.E != 0) then
    (gi L g.To).bind fun x1=>some (AO.mk [] (Aa.mk 0 0 ⟨#[]⟩ [] 0) (Ay.mk x1.At g.E))
    else (gi L g.To).bind fun x2=>bif (x2.Kind != 5) then some (AO.mk [] (Aa.mk 0 0 ⟨#[]⟩ [] 0) (Ay.mk x2.At 5)) else some (AO.mk [] g.X (Ay.mk 0 0)):Option AO)) r->Ev (fun n=>Da n src) r:=by
    rintro r ⟨N,hr⟩
    obtain⟨M,hM⟩:=hg
    refine⟨max N M,fun n hn=>?_⟩
    have a:=hr n (by omega)
    have b:=hM n (by omega)
    simp only at a b ⊢
    rw [<- a]
    unfold Da
    rw [h2]
    simp only [Option.bind_some,bne_self_eq_false,cond_false]
    rw [b]
    rfl
   have pf:∀ r,Ev (fun _=>((match y with
    |.ok e s=>some (.ok () (e.Op,e.N,e.S,e.Kids,e.At,s.l,s.forms))
    |.pan e1 s1=>some (.pan e1 (0,0,⟨#[]⟩,[],0,s1.l,s1.forms)):Option (Ex Al (Int×Int×ByteArray×(List Aa)×Int×(List Ab)×Int) Unit)).bind fun y=>(match y with
    |.ok e c=>(gi c.2.2.2.2.2.1 0).bind fun x=>bif (x.Kind != 5) then
     (AN (Ad.mk c.2.2.2.2.2.1 c.2.2.2.2.2.2) 5).bind fun y1=>match y1 with
     |.ok f s=>some ((Ay.mk 0 0),c.1,c.2.1,c.2.2.1,c.2.2.2.1,c.2.2.2.2.1)
     |.pan e2 s1=>some ((Ay.mk e2.At e2.E),c.1,c.2.1,c.2.2.1,c.2.2.2.1,c.2.2.2.2.1)
     else some ((Ay.mk 0 0),c.1,c.2.1,c.2.2.1,c.2.2.2.1,c.2.2.2.2.1)
    |.pan e1 c1=>some ((Ay.mk e1.At e1.E),c1.1,c1.2.1,c1.2.2.1,c1.2.2.2.1,c1.2.2.2.2.1):Option (Ay×Int×Int×ByteArray×(List Aa)×Int))).bind fun bad =>
     (bif (bad.1.E != 0) then some ((Aa.mk 0 0 ⟨#[]⟩ [] 0),bad.1) else some ((Aa.mk bad.2.1 bad.2.2.1 bad.2.2.2.1 bad.2.2.2.2.1 bad.2.2.2.2.2),bad.1):Option (Aa×Ay))) r->Ev (fun n=>BF n src) r:=by
    rintro r ⟨N,hr⟩
    obtain⟨M,hM⟩:=hy'
    refine⟨max N M,fun n hn=>?_⟩
    have a:=hr n (by omega)
    have b:=hM n (by omega)
    simp only at a b ⊢
    rw [<- a]
    unfold BF Dl DC
    rw [h1]
    simp only [Option.bind_some,bne_self_eq_false,cond_false]
    rw [b]
    rfl
   obtain⟨t2,ht2,⟨he,rfl⟩|⟨he,rfl⟩⟩:=hc
   . have he':(g.E != 0)=false:=by simpa using he
     have hh:gi (L.drop g.To.toNat) 0=some t2:=by rw [<- QW _ (Am ht2).2.1];exact ht2
     by_cases h5:t2.Kind=5
     . have h5':(t2.Kind != 5)=false:=by simpa using h5
       refine⟨g.X,⟨0,0⟩,[],pf _ ?_,rf _ ?_,fg,fun _=>rfl⟩
       . simp only [Option.bind_some,hh,h5',cond_false,bne_self_eq_false,TS]
         exact Ev.pure
       . simp only [he',cond_false,ht2,Option.bind_some,h5']
         exact Ev.pure
     . have h5':(t2.Kind != 5)=true:=by simpa using h5
       refine⟨_,⟨t2.At,5⟩,[],pf _ ?_,rf _ ?_,z,fun h=>absurd h (show (5:Int)≠0 by decide)⟩
       . have hd:L.drop g.To.toNat=t2::L.drop (g.To+1).toNat:=(Am ht2).1
         simp only [Option.bind_some,hd,F2,h5',cond_true,E7,show ((5:Int) != 0)=true from rfl]
         exact Ev.pure
       . simp only [he',cond_false,ht2,Option.bind_some,h5',cond_true]
         exact Ev.pure
   . have he':(g.E != 0)=true:=by simpa using he
     refine⟨_,⟨t2.At,g.E⟩,[],pf _ ?_,rf _ ?_,z,fun h=>absurd h he⟩
     . simp only [Option.bind_some,he',cond_true]
       exact Ev.pure
     . simp only [he',cond_true,ht2,Option.bind_some]
       exact Ev.pure
 . have he':(pr.E != 0)=true:=by simpa using he
   refine⟨⟨0,0,⟨#[]⟩,[],0⟩,pr,[],Ev.of fun n=>?_,Ev.of fun n=>?_,z,fun h=>absurd h he⟩
   . unfold BF Dl
     rw [h1]
     simp only [Option.bind_some,he',cond_true]
   . unfold Da
     rw [h2]
     simp only [Option.bind_some,he',cond_true]
end Go.Sp
