/-
  An operator between two expressions in parentheses. No program. A call of two expressions. No program. A form with one expression in parentheses. No program. ParseNests: what is computed is true. No program. What ParseJoins' shifted computes: forms with greater offsets. No program. Two sources with a line feed between are read as one after the other. No program. What is printed is read as the same, if it is read. No program.
-/
import Derived.Test.YtgdalmleogphgaaGreatDoorU14
import Derived.Test.YtgdalmleogphgaaGreatDoorU32





namespace Go.Sp
open Go
theorem TF {src:ByteArray}(hs:src.size<=1000){ts:List Lx.Tok}(h:Lx.tokens src.data.toList=.ok ts)(n:Nat):CG n src=(Bn n ⟨ts.map E9,⟨0,0⟩⟩ [] 0 0).bind fun y=>match y with
 |.inl out=>some (AO.mk out (Aa.mk 0 0 ⟨#[]⟩ [] 0) (Ay.mk 0 0))
 |.inr o=>some o:=by
 have hT:C0 src=some ⟨ts.map E9,⟨0,0⟩⟩:=by
  unfold C0 CJ
  rw [if_neg (by omega),h]
 unfold CG
 rw [hT];rfl
theorem RW {src:ByteArray}(hs:src.size<=1000){p e:Nat}(h:Lx.tokens src.data.toList=.error (p,e))(n:Nat):CG n src=some ⟨[],⟨0,0,⟨#[]⟩,[],0⟩,⟨(p:Int),(e:Int)⟩⟩:=by
 have hT:C0 src=some ⟨[],⟨(p:Int),(e:Int)⟩⟩:=by
  unfold C0 CJ
  rw [if_neg (by omega),h]
 have he:(e:Int)≠0:=by have:=(Dw _ _).2 _ _ h;omega
 unfold CG
 rw [hT,Option.bind_some,show ((e:Int) != 0)=true by simpa using he];rfl
theorem V7 {t:Jf}:∀ (n:Nat) (out:List Af) (k c:Int) (o:AO),Bn n t out k c=some (.inr o)->o.P.E≠0/\o.L=[]/\∃ x k',gi t.L k'=some x/\o.P.At=x.At
 |0,out,k,c,o,h=>by cases (Bn.eq_1 _ _ _ _).symm.trans h
 |n+1,out,k,c,o,h=>by
  replace h:=(Bn.eq_2 (n:=n) _ _ _ _).symm.trans h
  obtain⟨x,hx,h⟩:=Ae h
  rcases Ak h with⟨q5,h⟩|⟨q5,h⟩
  . obtain⟨p,hp,h⟩:=Ae h
    rcases Ak h with⟨qe,h⟩|⟨qe,h⟩
    . obtain⟨x2,hx2,h⟩:=Ae h
      cases Ac h
      exact⟨by simpa using qe,rfl,x2,_,hx2,rfl⟩
    . obtain⟨l1,_,h⟩:=Ae h
      obtain⟨l2,_,h⟩:=Ae h
      exact V7 n _ _ _ o h
  . cases Ac h
end Go.Sp
namespace Go.Sp
open Go
theorem O9 {src:ByteArray}(hs:src.size<=65536){ts:List Lx.Tok}(h:Lx.tokens src.data.toList=.ok ts):Hs (ts.map E9):=by
 obtain⟨h1,h2⟩:=(Dw _ _).1 _ h
 have h3:src.data.toList.length=src.size:=rfl
 exact (FL h1 (by omega)).1
theorem PZ {M:List Ab}:∀ {a b:List Ab} {pre r:List Ab},a.map (fun t=>(t.Kind,t.S,t.N))=b.map (fun t=>(t.Kind,t.S,t.N))->M=pre++(a++r)->Has M (pre.length:Int) b
 | [],[],pre,r,_,_=>trivial
 | [],y::b,pre,r,h,_=>by simp at h
 |x::a,[],pre,r,h,_=>by simp at h
 |x::a,y::b,pre,r,h,e=>by
  simp only [List.map_cons,List.cons.injEq,Prod.mk.injEq] at h
  refine⟨⟨x,?_,h.1.1,h.1.2.1,h.1.2.2⟩,?_⟩
  . rw [e,Ip];simp
  . have:=PZ (M:=M) (a:=a) (b:=b) (pre:=pre++[x]) (r:=r) h.2 (by rw [e];simp)
    rw [List.length_append] at this
    exact this
theorem QR {src:ByteArray}(h:65536<src.size):(CJ src)=([],⟨0,2⟩):=by
 unfold CJ;rw [if_pos h]
theorem TP {src:ByteArray}(hs:src.size<=65536){ts:List Lx.Tok}(h:Lx.tokens src.data.toList=.ok ts){c:Prop}{z:Int}{X:Aa}(hE:Eh c (fun n=>AI n (ts.map E9) 0 1) z X){u:Ab}(hu:gi (ts.map E9) z=some u)(h5:u.Kind=5) :
 ∃ y q,Ev (fun n=>BF n src) (y,q)/\(q.E=2/\¬c∨q=⟨0,0⟩/\DY y=DY X):=by
 have hT:C0 src=some ⟨ts.map E9,⟨0,0⟩⟩:=by
  unfold C0 CJ
  rw [if_neg (by omega),h]
 obtain⟨x,pr,l,h1,⟨N1,h2⟩,f,_⟩:=JJ src
 refine⟨x,pr,h1,?_⟩
 obtain⟨g,⟨N2,hg⟩,hh⟩:=hE
 have q:Da (max N1 N2) src=_:=h2 (max N1 N2) (Nat.le_max_left _ _)
 have hg:AI (max N1 N2) (ts.map E9) 0 1=some g:=hg _ (Nat.le_max_right _ _)
 unfold Da at q
 rw [hT] at q
 simp only [Option.bind_some,bne_self_eq_false,cond_false,hg] at q
 rcases hh with⟨h3,hc⟩|⟨h3,h4,h6⟩
 . rw [show (g.E != 0)=true by rw [h3];rfl] at q
   obtain⟨t,_,q⟩:=Ae q
   have q2:pr=⟨t.At,g.E⟩:=(congrArg AO.P (Ac q)).symm
   exact .inl ⟨by rw [q2];exact h3,hc⟩
 . rw [show (g.E != 0)=false by rw [h3];rfl] at q
   simp only [cond_false,h4,hu,Option.bind_some,show (u.Kind != 5)=false by rw [h5];rfl] at q
   have q:=Ac q
   have qx:g.X=x:=congrArg AO.X q
   exact .inr ⟨(congrArg AO.P q).symm,by rw [<- qx];exact h6⟩
theorem T5 {a r:List Ab}{u:Ab}(n:Nat)(h:n=a.length):gi (a++u::r) (0+(n:Int))=some u:=by
 rw [Int.zero_add,h,Ip];simp
theorem VT {x:Aa}(hw:Wf x)(ht:∀ t∈BB x,EJ t)(c:Prop)(hc:c->CK x 1/\(CE (BB x)).size<=65536) :
 ∃ y q,Ev (fun n=>BF n (CE (BB x))) (y,q)/\(q.E≠0/\¬c∨q=⟨0,0⟩/\DY y=nE x):=by
 by_cases hs:65536<(CE (BB x)).size
 . obtain⟨y,q,l,h1,h2,_,_⟩:=JJ (CE (BB x))
   refine⟨y,q,h1,.inl ⟨?_,fun q=>by have:=(hc q).2;omega⟩⟩
   obtain⟨n,hn⟩:=h2.get
   unfold Da C0 at hn
   rw [QR hs] at hn
   have:=congrArg (fun r:AO=>r.P.E) (Ac hn)
   have:(2:Int)=q.E:=this
   omega
 . obtain⟨l0,t1,t2⟩:=MH ht
   have hM:=O9 (by omega) t1
   have hl:(BB x).length=(l0.map E9).length:=by have:=congrArg List.length t2;simpa using this.symm
   have e:(l0++[Jr (CE (BB x)).data.toList.length]).map E9=l0.map E9++[E9 (Jr (CE (BB x)).data.toList.length)]:=by simp
   have hH:Has ((l0++[Jr (CE (BB x)).data.toList.length]).map E9) 0 (BB x):=PZ (pre:=[]) (r:=[E9 (Jr (CE (BB x)).data.toList.length)]) t2 (by rw [e];rfl)
   have hu:gi ((l0++[Jr (CE (BB x)).data.toList.length]).map E9) (0+((BB x).length:Int))=some (E9 (Jr (CE (BB x)).data.toList.length)):=by
    rw [e];exact T5 _ hl
   have n4:(E9 (Jr (CE (BB x)).data.toList.length)).Kind≠4:=by show (5:Int)≠4;decide
   have hE:=(main hw c _ 0 1 _ hM (by decide) (by decide) hH hu (E6 n4 _) fun q=>(hc q).1).e (by rw [UG n4]) (E6 n4 _) (fun _=>by decide)
   obtain⟨y,q,h1,h2⟩:=TP (by omega) t1 hE hu rfl
   refine⟨y,q,h1,h2.imp (fun h=>⟨by omega,h.2⟩) fun h=>⟨h.1,by rw [h.2,PK]⟩⟩
theorem S5 {c:Prop}{M:List Ab}{P:Ay}(hM:Hs M):∀ (fs out:List Af) (p n_:Int) (u:Ab),(∀ f∈fs,Qx f)->0<=n_->n_<=2000->(out.length:Int)<=n_ ->
 (c->GO fs 1/\n_+Dc fs<=2000)->Has M p (Dj fs)->gi M (p+((Dj fs).length:Int))=some u->u.Kind=5 ->
 ∃ N,∀ n,N<=n->∀ y,Bn n ⟨M,P⟩ out p n_=some y->((∃ r,y=.inr r/\r.P.E=2/\¬c)∨∃ o,y=.inl o/\DL o=DL out++I7 fs):=by
 intro fs
 induction fs with
 |nil =>
  intro out p n_ u _ n0 n1 ho hc h hu h5
  refine⟨1,fun n hn y hy=>?_⟩
  obtain⟨n,rfl⟩:∃ m,n=m+1:=⟨n-1,by omega⟩
  replace hy:=(Bn.eq_2 (n:=n) _ _ _ _).symm.trans hy
  have hu:gi M (p+((0:Nat):Int))=some u:=hu
  rw [show p+((0:Nat):Int)=p by omega] at hu
  simp only [hu,Option.bind_some,show (u.Kind != 5)=false by rw [h5];rfl,cond_false] at hy
  cases Ac hy
  exact .inr ⟨out,rfl,(List.append_nil _).symm⟩
 |cons f fs ih =>
  intro out p n_ u hf n0 n1 ho hc h hu h5
  have h:Has M p (pF f++Dj fs):=h
  obtain⟨h1,h2⟩:=DJ h
  have hu:gi M (p+((pF f++Dj fs).length:Int))=some u:=hu
  rw [UH] at hu
  obtain⟨t,ht,k1⟩:=OX h1
  have cf:=Iu f
  have cfs:=GS fs
  obtain⟨g,⟨N1,hg⟩,hh⟩:=Xi (hf f (.head _)) c M p 1 n_ hM (by decide) (by decide) n0 n1 h1 fun q=>by
   obtain⟨q1,q2⟩:=hc q
   have q2:n_+(cntF f+Dc fs)<=2000:=q2
   exact⟨q1.1,by omega⟩
  rcases hh with⟨e1,e2⟩|⟨e1,e2,e3,e4,e5⟩
  . refine⟨N1+1,fun n hn y hy=>?_⟩
    obtain⟨n,rfl⟩:∃ m,n=m+1:=⟨n-1,by omega⟩
    replace hy:=(Bn.eq_2 (n:=n) _ _ _ _).symm.trans hy
    have hg:BU n M p 1 n_=some g:=hg n (by omega)
    simp only [ht,Option.bind_some,show (t.Kind != 5)=true by rw [k1];rfl,cond_true,hg,show (g.E != 0)=true by rw [e1];rfl] at hy
    obtain⟨x2,_,hy⟩:=Ae hy
    cases Ac hy
    exact .inl ⟨_,rfl,e1,e2⟩
  . obtain⟨F,z,N,w⟩:=g
    obtain rfl:w=0:=e1
    obtain rfl:z=p+((pF f).length:Int):=e2
    obtain rfl:N=n_+cntF f:=e4
    have e5:n_+cntF f<=2000:=e5
    have e3:Q9 F=nF f:=e3
    obtain⟨N2,h3⟩:=ih (out++[F]) (p+((pF f).length:Int)) (n_+cntF f) u (fun f h=>hf f (.tail _ h)) (by omega) e5 (by simp only [List.length_append,List.length_cons,List.length_nil];omega)
     (fun q=>by
      obtain⟨q1,q2⟩:=hc q
      have q2:n_+(cntF f+Dc fs)<=2000:=q2
      exact⟨q1.2,by omega⟩) h2 hu h5
    refine⟨N1+N2+1,fun n hn y hy=>?_⟩
    obtain⟨n,rfl⟩:∃ m,n=m+1:=⟨n-1,by omega⟩
    replace hy:=(Bn.eq_2 (n:=n) _ _ _ _).symm.trans hy
    have hg:BU n M p 1 n_=some ⟨F,p+((pF f).length:Int),n_+cntF f,0⟩:=hg n (by omega)
    have g5:CO 73 out [F]=some (out++[F]):=by unfold CO;rw [if_pos (by simp only [List.length_cons,List.length_nil];omega)]
    simp only [ht,Option.bind_some,show (t.Kind != 5)=true by rw [k1];rfl,cond_true,hg,bne_self_eq_false,cond_false,g5] at hy
    rcases h3 n (by omega) y hy with h|⟨o,rfl,ho⟩
    . exact .inl h
    . refine .inr ⟨o,rfl,?_⟩
      rw [ho,L5,List.append_assoc]
      show _=DL out++(nF f::I7 fs)
      rw [<- e3];rfl
theorem VS {l:List Af}(hw:∀ f∈l,Qx f)(ht:∀ t∈Dj l,EJ t)(c:Prop)(hc:c->GO l 1/\Dc l<=2000/\(CE (Dj l)).size<=65536) :
 ∃ m q,Ev (fun n=>BM n (CE (Dj l))) (m,q)/\Ga m/\(q.E≠0/\¬c∨q=⟨0,0⟩/\DL m=I7 l):=by
 obtain⟨m,q,x,h1,h2,fm,_,_⟩:=Ks (CE (Dj l))
 refine⟨m,q,h1,fm,?_⟩
 by_cases hs:65536<(CE (Dj l)).size
 . refine .inl ⟨?_,fun q=>by have:=(hc q).2.2;omega⟩
   obtain⟨n,hn⟩:=h2.get
   unfold CG C0 at hn
   rw [QR hs] at hn
   have:=congrArg (fun r:AO=>r.P.E) (Ac hn)
   have:(2:Int)=q.E:=this
   omega
 . obtain⟨l0,t1,t2⟩:=MH ht
   have hM:=O9 (by omega) t1
   have hl:(Dj l).length=(l0.map E9).length:=by have:=congrArg List.length t2;simpa using this.symm
   have e:(l0++[Jr (CE (Dj l)).data.toList.length]).map E9=l0.map E9++[E9 (Jr (CE (Dj l)).data.toList.length)]:=by simp
   have hH:Has ((l0++[Jr (CE (Dj l)).data.toList.length]).map E9) 0 (Dj l):=PZ (pre:=[]) (r:=[E9 (Jr (CE (Dj l)).data.toList.length)]) t2 (by rw [e];rfl)
   have hu:gi ((l0++[Jr (CE (Dj l)).data.toList.length]).map E9) (0+((Dj l).length:Int))=some (E9 (Jr (CE (Dj l)).data.toList.length)):=by
    rw [e];exact T5 _ hl
   obtain⟨N1,h3⟩:=S5 (c:=c) (P:=⟨0,0⟩) hM l [] 0 0 _ hw (by decide) (by decide) (by decide) (fun q=>⟨(hc q).1,by have:=(hc q).2.1;omega⟩) hH hu rfl
   obtain⟨N2,h2⟩:=h2
   have h2:CG (max N1 N2) (CE (Dj l))=some ⟨m,x,q⟩:=h2 _ (Nat.le_max_right _ _)
   have hT:C0 (CE (Dj l))=some ⟨(l0++[Jr (CE (Dj l)).data.toList.length]).map E9,⟨0,0⟩⟩:=by
    unfold C0 CJ
    rw [if_neg hs,t1]
   unfold CG at h2
   rw [hT] at h2
   simp only [Option.bind_some,bne_self_eq_false,cond_false] at h2
   obtain⟨y,hy,h2⟩:=Ae h2
   rcases h3 _ (Nat.le_max_left _ _) y hy with⟨r,rfl,r1,r2⟩|⟨o,rfl,ho⟩
   . have h2:r=⟨m,x,q⟩:=Ac h2
     refine .inl ⟨?_,r2⟩
     rw [h2] at r1
     have r1:q.E=2:=r1
     omega
   . have h2:=Ac h2
     refine .inr ⟨(congrArg AO.P h2).symm,?_⟩
     have e:o=m:=congrArg AO.L h2
     rw [<- e,ho];rfl
theorem SP {a b:As}(hw:Vd a)(hz:C8 a.E)(e:Hx b=nA a):Ev (fun n=>DE n a b) true:=by
 have hk:=hw.k
 unfold Hx nA at e
 unfold DE
 by_cases q1:a.Kind=1
 . rw [if_pos q1] at e
   have e1:b.Kind=1:=congrArg As.Kind e
   have e2:b.S=a.S:=by have:=congrArg As.S e;exact this
   simp only [q1,e1,e2,bne_self_eq_false,cond_false,show ((1:Int) == 1)=true from rfl,cond_true,Option.bind_some,decide_true]
   exact Ev.pure
 rw [if_neg q1] at e
 by_cases q2:a.Kind=2
 . rw [if_pos q2] at e
   have e1:b.Kind=2:=congrArg As.Kind e
   have e2:b.N=a.N:=by have:=congrArg As.N e;exact this
   simp only [q2,e1,e2,bne_self_eq_false,cond_false,show ((2:Int) == 1)=false from rfl,show ((2:Int) == 3)=false from rfl,show ((2:Int) == 2)=true from rfl,cond_true,Option.bind_some,beq_self_eq_true]
   exact Ev.pure
 rw [if_neg q2] at e
 by_cases q3:a.Kind=3
 . rw [if_pos q3] at e
   have e1:b.Kind=3:=congrArg As.Kind e
   have e2:b.S=a.S:=by have:=congrArg As.S e;exact this
   simp only [q3,e1,e2,bne_self_eq_false,cond_false,show ((3:Int) == 1)=false from rfl,show ((3:Int) == 3)=true from rfl,cond_true,Option.bind_some,decide_true]
   exact Ev.pure
 rw [if_neg q3] at e
 by_cases q4:a.Kind=4
 . rw [if_pos q4] at e
   have e1:b.Kind=4:=congrArg As.Kind e
   simp only [q4,e1,bne_self_eq_false,cond_false,show ((4:Int) == 1)=false from rfl,show ((4:Int) == 3)=false from rfl,show ((4:Int) == 2)=false from rfl,show ((4:Int) == 5)=false from rfl,Option.bind_some]
   exact Ev.pure
 rw [if_neg q4] at e
 have q5:a.Kind=5:=by omega
 have e1:b.Kind=5:=congrArg As.Kind e
 have e2:DY b.E=nE a.E:=congrArg As.E e
 simp only [q5,e1,bne_self_eq_false,cond_false,show ((5:Int) == 1)=false from rfl,show ((5:Int) == 3)=false from rfl,show ((5:Int) == 2)=false from rfl,show ((5:Int) == 5)=true from rfl,cond_true,Option.bind_some]
 exact Ev.bind (SL hz _ e2) Ev.pure
theorem R1 {l l':List As}(hw:∀ a∈l,Vd a/\C8 a.E)(hl:l.length<=140737488355328)(e:l'.map Hx=l.map nA):Ev (fun n=>Cj n l l') true:=by
 have hlen:l.length=l'.length:=by have:=congrArg List.length e;simpa using this.symm
 have at_:∀ {j:Nat} (h1:j<l.length) (h2:j<l'.length),Hx l'[j]=nA l[j]:=by
  intro j h1 h2
  have h:(l'.map Hx)[j]?=(l.map nA)[j]?:=by rw [e]
  rw [List.getElem?_map,List.getElem?_map,List.getElem?_eq_getElem h1,List.getElem?_eq_getElem h2] at h
  exact Ac h
 have loop:∀ (r j:Nat),l.length-j<=r->j<=l.length->Ev (fun n=>Bk n l l' (j:Int)) (.inl ()):=by
  intro r
  induction r with
  |zero =>
   intro j h1 h2
   refine Ev.step (fun n=>Bk.eq_2 (n:=n) _ _ _) (Ev.of fun n=>?_)
   rw [decide_eq_false (by omega)];rfl
  |succ r ihr =>
   intro j h1 h2
   by_cases h3:j<l.length
   . refine Ev.step (fun n=>Bk.eq_2 (n:=n) _ _ _) ?_
     simp only [decide_eq_true (show (j:Int)<(l.length:Int) by omega),cond_true,ED h3,ED (show j<l'.length by omega),Option.bind_some,Sv h3 (show l.length<=140737488355328 by omega)]
     have hw2:=hw _ (List.getElem_mem h3)
     refine Ev.bind (SP hw2.1 hw2.2 (at_ h3 (by omega))) ?_
     simp only [Bool.not_true,cond_false];exact ihr (j+1) (by omega) (by omega)
   . refine Ev.step (fun n=>Bk.eq_2 (n:=n) _ _ _) (Ev.of fun n=>?_)
     rw [decide_eq_false (by omega)];rfl
 unfold Cj
 simp only [hlen,bne_self_eq_false,cond_false]
 exact Ev.bind (loop l.length 0 (by omega) (by omega)) Ev.pure
theorem QO:∀ l:List Af,(I7 l).length=l.length
 | []=>rfl
 |x::l=>by show (I7 l).length+1=_;rw [QO l];rfl
theorem Tl:∀ {l l':List Af},DL l'=I7 l->∀ {j:Nat} (h1:j<l'.length) (h2:j<l.length),Q9 l'[j]=nF l[j]
 | [],l',h,j,h1,h2=>by simp at h2
 |x::l,[],h,j,h1,h2=>by simp at h1
 |x::l,y::l',h,0,h1,h2=>by
  have h:Q9 y::DL l'=nF x::I7 l:=h
  exact (List.cons.inj h).1
 |x::l,y::l',h,j+1,h1,h2=>by
  have h:Q9 y::DL l'=nF x::I7 l:=h
  exact Tl (List.cons.inj h).2 (by simpa using h1) (by simpa using h2)
theorem ML {l:List Af}(hl:l.length<=140737488355328)(hw:∀ f∈l,Qx f)(hf:∀ f∈l,Gb f/\(Qx f->∀ b',DL b'=I7 f.Body->Ev (fun n=>BO n f.Body b') true)):∀ l',DL l'=I7 l->Ev (fun n=>BO n l l') true:=by
 intro l' e
 have hlen:l.length=l'.length:=by rw [<- QO l,<- e,OI]
 have one:∀ (f f':Af),Gb f->Qx f->(∀ b',DL b'=I7 f.Body->Ev (fun n=>BO n f.Body b') true)->Q9 f'=nF f->Ev (fun n=>C3 n f f') true:=by
  intro f f' hf hw hB e
  cases hw with
  |mk w ags b p ha hb =>
   cases hf with
   |mk _ hal hx _ _ =>
    obtain⟨w',ags',b',p'⟩:=f'
    have e:Af.mk w' (ags'.map Hx) (DL b') 0=.mk w (ags.map nA) (I7 b) 0:=e
    have e1:w'=w:=congrArg Af.Word e
    have e2:ags'.map Hx=ags.map nA:=congrArg Af.Args e
    have e3:DL b'=I7 b:=congrArg Af.Body e
    subst e1
    have hal:ags.length<=1340357031955:=hal
    refine Ev.step (fun n=>C3.eq_2 (n:=n) _ _) ?_
    simp only [decide_true,cond_true]
    refine Ev.bind (Ev.bind (R1 (fun a h=>⟨ha a h,hx a h⟩) (by omega) e2) ?_) Ev.pure
    simp only [cond_true]
    exact Ev.bind (hB b' e3) Ev.pure
 have loop:∀ (r j:Nat),l.length-j<=r->j<=l.length->Ev (fun n=>Bl n l l' (j:Int)) (.inl ()):=by
  intro r
  induction r with
  |zero =>
   intro j h1 h2
   refine Ev.step (fun n=>Bl.eq_2 (n:=n) _ _ _) (Ev.of fun n=>?_)
   rw [decide_eq_false (by omega)];rfl
  |succ r ihr =>
   intro j h1 h2
   by_cases h3:j<l.length
   . refine Ev.step (fun n=>Bl.eq_2 (n:=n) _ _ _) ?_
     simp only [decide_eq_true (show (j:Int)<(l.length:Int) by omega),cond_true,ED h3,ED (show j<l'.length by omega),Option.bind_some,Sv h3 hl]
     have hw1:=hw _ (List.getElem_mem h3)
     obtain⟨hf1,hf2⟩:=hf _ (List.getElem_mem h3)
     refine Ev.bind (one _ _ hf1 hw1 (hf2 hw1) (Tl e (by omega) h3)) ?_
     simp only [Bool.not_true,cond_false];exact ihr (j+1) (by omega) (by omega)
   . refine Ev.step (fun n=>Bl.eq_2 (n:=n) _ _ _) (Ev.of fun n=>?_)
     rw [decide_eq_false (by omega)];rfl
 refine Ev.step (fun n=>BO.eq_2 (n:=n) _ _) (Ev.bind (Ev.step (fun n=>Bs.eq_2 (n:=n) _ _) ?_) Ev.pure)
 simp only [hlen,bne_self_eq_false,cond_false]
 exact Ev.bind (loop l.length 0 (by omega) (by omega)) Ev.pure
theorem SO {f:Af}(h:Gb f):Qx f->∀ b',DL b'=I7 f.Body->Ev (fun n=>BO n f.Body b') true:=by
 induction h with
 |mk f ha hx hb h ih =>
  intro hw
  cases hw with
  |mk w ags b p ha2 hb2=>exact ML (by have hb:b.length<=1927910799388:=hb;omega) hb2 fun x hx=>⟨h x hx,ih x hx⟩
theorem SN {l:List Af}(h:Ga l)(hw:∀ f∈l,Qx f):∀ l',DL l'=I7 l->Ev (fun n=>BO n l l') true :=
 ML (Nat.le_trans h.1 (by decide)) hw fun f hf=>⟨h.2 f hf,SO (h.2 f hf)⟩
theorem NI:∀ {l:List Af} {f:Af},f∈l->Uo f<=Ka l:=by
 intro l f hf
 induction l with
 |nil=>cases hf
 |cons g l ih =>
  simp only [Ka]
  rcases List.mem_cons.1 hf with rfl|hf
  . omega
  . have:=ih hf;omega
theorem Pt:∀ (N:Nat) (f:Af),Uo f<=N->Uo f<=1000000->Gb f
 |0,.mk _ _ _ _,h,_=>by simp only [Uo] at h;omega
 |N+1,.mk w ags b p,h,hz=>by
  simp only [Uo] at h hz
  have h1:=Lz ags
  have h2:=HL b
  exact .mk _ (by show ags.length<=_;omega) (fun a (ha:a∈ags)=>Mf _ _ (Nat.le_refl _) (by have:=Ly ha;omega)) (by show b.length<=_;omega) fun x (hx:x∈b)=>Pt N x (by have:=NI hx;omega) (by have:=NI hx;omega)
end Go.Sp
