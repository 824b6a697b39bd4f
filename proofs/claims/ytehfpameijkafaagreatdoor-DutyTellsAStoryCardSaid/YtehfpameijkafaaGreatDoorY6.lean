/-
  Functions that defer a function which recovers, walked on plain values. No program.
-/
import Derived.Recover
import Derived.Test.YtehfpameijkafaaGreatDoorY5
set_option linter.unusedVariables false
set_option linter.unusedSimpArgs false
namespace Go.Vl
open Go Go.RowKit Go.Q
def Ab6 (ds:List Deferred)(w0:World)(G0:Gh)(n:Nat)(K:AX->St->Prop):Exit->Act->World->Prop
 |.panic c,a,w=>a.defers=ds/\∃ st G,K (.pan c) st/\Ext w0 G0 w G/\Ay w G st.σ/\∀ t k o,st.get t=.ptr k o->V w G.U G.φ (.ptr k o) (AG a t)
 |e,a,w=>C3 ds w0 G0 n K e a w
section
variable {w w' w0:World} {G G' G0:Gh} {P:Program} {st st':St} {a:Act} {o:Oper} {n N:Nat} {ops:Array Oper} {K:AX->St->Prop} {ds:List Deferred} {L:Cf}
theorem Vx {f:FuncId}{args:List PV}{next:Act->World->Prop}{Q:Exit->Act->World->Prop}{KR:PV->List (List PV)->Prop}{KP:List PanicEntry->List (List PV)->Prop}
 (hgl:Cu w0 G0) (h:Inv w0 G0 st (AG a) w G) (hd:∀ d,o.dst=some d->d<a.tmps.size) (hdef:a.defers=ds) (he:Eo P o st=some (f,args))
 (hc:VC P f args st.σ fun x σ'=>match x with|.ret r=>KR r σ'|.pan c=>KP c σ')
 (hn:∀ r σ' v w' G',KR r σ'->Inv w0 G0 ((st.aft σ').put o.dst r) (AG (a.put o.dst v)) w' G'->next (a.put o.dst v) w')
 (hp:∀ c σ' w' G',KP c σ'->a.defers=ds->Ext w0 G0 w' G'->Ay w' G' σ'->(∀ t k o,st.get t=.ptr k o->V w' G'.U G'.φ (.ptr k o) (AG a t))->Q (.panic c) a w'):o.wp P a w next Q:=by
 obtain⟨vs,n,p,q⟩:=J5 h.env he
 unfold Oper.wp
 rw [q w]
 refine (hc w G.inner vs h.store.inner n p (Fl G) (hgl.ext h.ext).inner).mono fun e w' i=>?_
 obtain⟨x,σ',G',j,g,hs,l⟩:=i
 cases x with
 |ret r =>
  obtain⟨v,rfl,s,m⟩:=g
  show next (a.put o.dst v) w'
  cases b:o.dst with
  |none =>
   have hI:=h.call (tup:=false) hs l 0
   have:=hn r σ' v w' _ j (by rw [b];exact hI)
   rw [b] at this;exact this
  |some d =>
   have hI:=(h.call (tup:=P5 r) hs l d).putRet s m
   have:=hn r σ' v w' _ j (by rw [b,Bm (hd d b)];exact hI)
   rw [b] at this;exact this
 |pan c =>
  obtain rfl:e=.panicked c:=g
  have hI:=h.call (tup:=false) hs l 0
  refine hp c σ' w' _ j hdef hI.ext hI.store fun t k o m=>?_
  have:=hI.env.v t
  rw [Jy,m] at this
  exact this
theorem Gd (hgl:Cu w0 G0):∀ (l:List Oper) (st:St) (a:Act) (w:World) (G:Gh),Inv w0 G0 st (AG a) w G->a.defers=ds->a.tmps.size=n->(∀ o∈l,∀ d,o.dst=some d->d<n)->B1 P ops K l st ->
 wpList P ops (Ab6 ds w0 G0 n K) l a w
 | [],st,a,w,G,h,hdef,hsz,_,he=>⟨hsz,hdef,st,G,he,h⟩
 |o::rest,st,a,w,G,h,hdef,hsz,hd,he=>by
  have hdo:∀ d,o.dst=some d->d<a.tmps.size:=fun d hdd=>by rw [hsz];exact hd o (by simp) d hdd
  have hdr:∀ o∈rest,∀ d,o.dst=some d->d<n:=fun o ho=>hd o (by simp [ho])
  unfold B1 at he
  unfold wpList
  split at he
  . exact he.elim
  . rename_i hg
    rw [Dd h.env hg]
    simp only [â,û]
    exact Gd hgl rest _ _ w G (h.skipPut hdo) (by rw [put_defers];exact hdef) (by rw [Bw];exact hsz) hdr he
  . rename_i hg
    rw [Dd h.env hg]
    simp only [ø]
    left
    split at he
    . rename_i c st2 hop
      obtain⟨rfl,he2⟩:=he
      exact Sv h hdo hop (fun v w' G' hI=>Gd hgl rest _ _ w' G' hI (by rw [put_defers];exact hdef) (by rw [Bw];exact hsz) hdr he2)
    . split at he
      . rename_i f args hcall
        exact Vx (KR:=fun r σ'=>B1 P ops K rest ((st.aft σ').put o.dst r)) (KP:=fun c σ'=>K (.pan c) { st with σ:=σ' }) hgl h hdo hdef hcall he
         (fun r σ' v w' G' hK hI=>Gd hgl rest _ _ w' G' hI (by rw [put_defers];exact hdef) (by rw [Bw];exact hsz) hdr hK)
         (fun c σ' w' G' hK hdf hE hS hV=>⟨hdf,{ st with σ:=σ' },G',hK,hE,hS,hV⟩)
      . split at he
        . rename_i v hpan
          unfold Oper.wp
          rw [NA h.env hpan w]
          refine⟨hdef,st,G,he,h.ext,h.store,fun t k o ht=>?_⟩
          have:=h.env.v t
          rw [ht] at this;exact this
        . exact S5 h hdo he fun st2 v w' G' hI hX=>Gd hgl rest _ _ w' G' hI (by rw [put_defers];exact hdef) (by rw [Bw];exact hsz) hdr hX
def Ht (pl:List (Nat×List Nat)):Code->Bool
 |.region id _ draw=>!draw&&(Di pl id).isNone
 |.seq a b=>Ht pl a&&Ht pl b
 |.cond _ a b=>Ht pl a&&Ht pl b
 |.skip=>true
 |.ret=>true
 |_=>false
theorem Zt (hgl:Cu w0 G0)(hN:G0.φ.length<=N):∀ (c:Code) (K:AX->St->Prop) (st:St) (a:Act) (w:World) (G:Gh),Cc L.pl n c=true->Ht L.pl c=true->Inv w0 G0 st (AG a) w G->a.defers=ds->a.tmps.size=n->W P L N c K st->c.wp P (Ab6 ds w0 G0 n K) a w:=by
 intro c
 induction c with
 |skip=>intro K st a w G _ _ h j hs g;exact wp_skip ⟨hs,j,st,G,g,h⟩
 |ret=>intro K st a w G _ _ h j hs g;exact wp_ret ⟨hs,j,st,G,g,h⟩
 |region id ops draw =>
  intro K st a w G f b h j hs g
  simp only [Cc,Æ,Ú] at f
  simp only [Ht,Æ,å,Option.isNone_iff_eq_none] at b
  obtain⟨p,F⟩:=f
  obtain⟨rfl,s⟩:=b
  have u:∀ o∈ops.toList,∀ d,o.dst=some d->d<n:=fun o H d v=>by have:=p o H;rw [v] at this;simpa using this
  unfold W at g
  rw [s] at g
  refine wp_mono (wp_region_list (Gd hgl _ st a w G h j hs u g)) fun e a' w' i=>?_
  cases e with
  |normal=>obtain⟨A,B,st2,G2,C,D⟩:=i;exact⟨A,B,_,G2,C,D.clr L.L⟩
  |exit id=>exact i
  |ret=>exact i
  |panic c=>exact i
  |goto l=>exact i
  |outgrown=>exact i
 |seq x y k m =>
  intro K st a w G f b h j hs g
  simp only [Cc,Æ] at f
  simp only [Ht,Æ] at b
  refine wp_seq (wp_mono (k _ st a w G f.1 b.1 h j hs g) fun e a' w' i=>?_)
  cases e with
  |normal =>
   obtain⟨A,B,st2,G2,E,D⟩:=i
   obtain⟨st3,G3,C,q⟩:=E w0 G0 _ w' G2 hN D
   exact m K st3 a' w' G3 f.2 b.2 q B A C
  |exit id=>exact i
  |ret=>exact i
  |panic c=>exact i
  |goto l=>exact i
  |outgrown=>exact i
 |cond c x y k m =>
  intro K st a w G f b h j hs g
  simp only [Cc,Æ] at f
  simp only [Ht,Æ] at b
  unfold W at g
  have r:=Bz (a:=a) h.env c
  split at g
  . rename_i t I
    rw [I] at r
    have J:a.eval c=.bool t:=by
     revert r;generalize a.eval c=z;intro r
     cases r with
     |lit _ _=>rfl
    refine wp_cond J ?_
    cases t with
    |true =>
     simp only [ø] at g ⊢
     obtain⟨st3,G3,g,q⟩:=g w0 G0 _ w G hN h
     exact k K st3 a w G3 f.1 b.1 q j hs g
    |false =>
     simp only [â,û] at g ⊢
     obtain⟨st3,G3,g,q⟩:=g w0 G0 _ w G hN h
     exact m K st3 a w G3 f.2 b.2 q j hs g
  . exact g.elim
 |_=>intro K st a w G f b h j hs g;cases b
end
structure Bx (p:Prop):Prop where
 h:p
def R6 (P:Program)(f:FuncId)(args:List PV)(σ:List (List PV))(u:FrameMode)(Q:Cb->FrameMode->List (List PV)->Prop):Prop :=
 ∀ (w:World) (G:Gh) (vs:Array Value),Ay w G σ->vs.size=args.length->(∀ i (h:i<args.length),V w G.U G.φ args[i] (vs.getD i Go.undef)) ->
  (∀ b l,G.Ω b=some l->∃ k j,l=.cell k j)->Cu w G ->
  CallsD P f vs u w fun e u' w'=>∃ x σ' G',Q x u' σ'/\CT w' G' x e/\Ay w' G' σ'/\Ext w G w' G'
def OB (ops:Array Oper):Option (Nat×FuncId×List Operand) :=
 match ops.toList with
 | [mk,df]=>match mk.op,mk.dst,mk.guard,df.op,df.dst,df.guard with
  |.makeFunc (.func fd) first caps,some d1,none,.defer c,none,none=>match c.callee,c.args.toList with
   |.value (.tmp t),[]=>if t=d1/\first = #[] then some (d1,fd,caps.toList) else none
   |_,_=>none
  |_,_,_,_,_,_=>none
 |_=>none
def LL:Code->Option (List Code×Nat×Array Oper×Code)
 |.seq (.region id ops false) b=>if (OB ops).isSome then some ([],id,ops,b) else (LL b).map fun x=>(.region id ops false::x.1,x.2)
 |.seq x y=>(LL y).map fun r=>(x::r.1,r.2)
 |_=>none
def XO (P:Program)(Q:Exit->Act->World->Prop):List Code->(Act->World->Prop)->Act->World->Prop
 | [],next=>next
 |c::l,next=>fun a w=>c.wp P (Exit.then (XO P Q l next) Q) a w
theorem WQ {P:Program}{Q:Exit->Act->World->Prop}:∀ {c:Code} {ags:List Code} {id:Nat} {ops:Array Oper} {b:Code},LL c=some (ags,id,ops,b)->∀ {a:Act} {w:World},
 XO P Q ags (fun a w=>(Code.region id ops false).wp P (Exit.then (b.wp P Q) Q) a w) a w->c.wp P Q a w:=by
 intro c
 induction c with
 |seq x y _ d =>
  intro ags id ops b hs a w h
  have gen:∀ {ags'},(LL y=some (ags',id,ops,b))->ags=x::ags'->(Code.seq x y).wp P Q a w:=by
   intro ags' g i
   subst i
   refine wp_seq (wp_mono (show x.wp P (Exit.then (XO P Q ags' _) Q) a w from h) fun e a' w' f=>?_)
   cases e with
   |normal=>exact d g f
   |_=>exact f
  unfold LL at hs
  split at hs
  . rename_i c' id' ops' b' e
    obtain⟨rfl,rfl⟩:=Code.seq.inj e
    split at hs
    . obtain⟨rfl,rfl,rfl,rfl⟩:ags=[]/\id=id'/\ops=ops'/\b=y:=by
       have:=Af hs
       simp only [È] at this
       exact⟨this.1.symm,this.2.1.symm,this.2.2.1.symm,this.2.2.2.symm⟩
      exact wp_seq h
    . grind [Option.map_eq_some_iff,Prod.mk.injEq]
  . grind [Option.map_eq_some_iff,Prod.mk.injEq]
  . cases hs
 |_=>intro ags id ops b hs;simp [LL] at hs
theorem V1 {P:Program}{Q:Exit->Act->World->Prop}{ops:Array Oper}{d1 fd:Nat}{caps:List Operand}{id:Nat}{a:Act}{w:World}(h:OB ops=some (d1,fd,caps))
 (hq:Q .normal { a.put (some d1) (.func (.func fd) #[] (caps.toArray.map a.eval)) with defers:={ target:=.fn (.func fd) (caps.toArray.map a.eval),args:=#[] }::a.defers } w) (hd1:d1<a.tmps.size):(Code.region id ops false).wp P Q a w:=by
 unfold OB at h
 split at h
 . rename_i mk df f
   split at h
   . rename_i fd' first caps' d1' c g i j k l m
     split at h
     . rename_i t d e
       split at h
       . rename_i n
         obtain⟨rfl,rfl⟩:=n
         simp only [Â,È] at h
         obtain⟨rfl,rfl,rfl⟩:=h
         refine wp_region_list ?_
         rw [f]
         obtain⟨callee,cargs,ats⟩:=c
         simp only at d e
         subst d
         have b:cargs = #[]:=by simpa using e
         subst b
         have e1:(execOp a.eval mk).run P w=.ok (.value (.func (.func fd') #[] (caps'.map a.eval))) w:=by
          unfold execOp;rw [g];simp [Instr.makeFunc]
         have e2:Region.wanted mk (yielded ops a.tmps)=true:=by unfold Region.wanted;rw [j]
         have e3:∀ a':Act,Region.wanted df (yielded ops a'.tmps)=true:=fun a'=>by unfold Region.wanted;rw [m]
         have e4:AG (a.put (some t) (.func (.func fd') #[] (caps'.map a.eval))) t=.func (.func fd') #[] (caps'.map a.eval):=by
          rw [Bm hd1];unfold FN;rw [Ç rfl]
         have e5:(execOp (a.put (some t) (.func (.func fd') #[] (caps'.map a.eval))).eval df).run P w=.ok (.defer { target:=.fn (.func fd') (caps'.map a.eval),args:=#[] }) w:=by
          unfold execOp;rw [k]
          simp only [Ð,resolve]
          have e6:(a.put (some t) (.func (.func fd') #[] (caps'.map a.eval))).eval (.tmp t)=.func (.func fd') #[] (caps'.map a.eval):=e4
          simp [Deferred.ofValue,e6]
         unfold wpList
         rw [e2,Ç rfl]
         left
         unfold Oper.wp
         rw [e1]
         show wpList P ops Q [df] (a.put mk.dst _) w
         rw [i]
         unfold wpList
         rw [e3,Ç rfl]
         left
         unfold Oper.wp
         rw [e5]
         show wpList P ops Q [] (Act.put _ df.dst _) w
         rw [l]
         have e7:caps'.toList.toArray=caps':=by simp
         rw [e7] at hq
         exact hq
       . cases h
     . cases h
   . cases h
 . cases h
def Ld:PV->PV
 |.ptr k o=>.ptr k o
 |_=>.undef
def Hu (M:List Nat)(st:St)(σ:List (List PV)):St:={ env:=M.map fun t=>(t,Ld (st.get t)),σ }
theorem IJ (M:List Nat)(st:St)(σ:List (List PV))(t:Nat):(Hu M st σ).get t=if t∈M then Ld (st.get t) else .undef:=by
 show Cj (M.map fun t=>(t,Ld (st.get t))) t=_
 induction M with
 |nil=>rfl
 |cons x r ih =>
  show (if x=t then Ld (st.get x) else Cj (r.map fun t=>(t,Ld (st.get t))) t)=_
  by_cases e:x=t
  . subst e;simp
  . grind
theorem Ym (M:List Nat)(st:St)(σ σ':List (List PV)):Hu M (Hu M st σ) σ'=Hu M st σ':=by
 unfold Hu
 congr 1
 refine List.map_congr_left fun t a=>?_
 have h:=IJ M st σ t
 unfold Hu at h
 rw [h,Ç a]
 cases st.get t<;>rfl
theorem Inv.ptrs {w w0:World}{G G0:Gh}{st:St}{tm:Nat->Value}(M:List Nat)(h1:Ext w0 G0 w G)(h2:Ay w G st.σ)(h3:∀ t k o,st.get t=.ptr k o->V w G.U G.φ (.ptr k o) (tm t)):Inv w0 G0 (Hu M st st.σ) tm w G:=by
 refine⟨h1,h2,⟨fun t=>?_,fun t=>?_⟩⟩
 . rw [IJ]
   split
   . cases e:st.get t with
     |ptr k o=>exact h3 t k o e
     |_=>exact .undef _ _
   . exact .undef _ _
 . rw [IJ]
   split
   . cases e:st.get t<;>trivial
   . trivial
theorem Zp (M:List Nat)(st:St)(σ σ':List (List PV))(t:Nat):((Hu M st σ).aft σ').get t=(Hu M st σ').get t:=by
 rw [Jy,IJ,IJ]
 split
 . cases st.get t<;>rfl
 . rfl
def V2 (M:List Nat)(P:Program)(fn:Func)(N:Nat)(fd:FuncId)(caps:List PV)(Q:Cb->List (List PV)->Prop)(x:AX)(st:St):Prop :=
 match x with
 |.normal=>R6 P fd caps st.σ .returning fun y u' σ'=>u'=.returning/\(∃ r,y=.ret r)/\C6 P fn N Q .ret (Hu M st σ')
 |.ret=>R6 P fd caps st.σ .returning fun y u' σ'=>u'=.returning/\(∃ r,y=.ret r)/\C6 P fn N Q .ret (Hu M st σ')
 |.pan c=>R6 P fd caps st.σ (.panicking c) fun y u' σ'=>settle u'=.returning/\(∃ r,y=.ret r)/\C6 P fn N Q .ret (Hu M st σ')
 |.exit _=>False
section
variable {w w' w0:World} {G G' G0:Gh} {P:Program} {st st':St} {a:Act} {n N:Nat} {L:Cf}
theorem KQ {ds:List Deferred}{Q:AX->St->Prop}{next:Act->World->Prop}{R:Exit->Act->World->Prop}(hgl:Cu w0 G0)(hm:P.follows .mixedOrders=true)(hN:G0.φ.length<=N)
 (hnext:∀ a w st G,a.tmps.size=n->a.defers=ds->Inv w0 G0 st (AG a) w G->Q .normal st->next a w)
 (hR:∀ e a w,e≠.normal->C3 ds w0 G0 n Q e a w->R e a w):∀ (ags:List Code) (st:St) (a:Act) (w:World) (G:Gh),ags.all (Cc L.pl n)=true->Inv w0 G0 st (AG a) w G->a.defers=ds->a.tmps.size=n ->
  WS P L N (ags.map TI.code++[.code .skip]) Q st->XO P R ags next a w
 | [],st,a,w,G,_,h,hd,hs,hw=>by
  obtain⟨st2,G2,hq,h2⟩:=hw w0 G0 _ w G hN h
  exact hnext a w st2 G2 hs hd h2 hq
 |c::ags,st,a,w,G,hok,h,hd,hs,hw=>by
  rw [ą,Æ] at hok
  obtain⟨st2,G2,hq,h2⟩:=hw w0 G0 _ w G hN h
  refine wp_mono (SJ hgl hm hN c _ st2 a w G2 hok.1 h2 hd hs hq) fun e a' w' hp=>?_
  have pass:∀ {x:AX} {st'},x≠.normal->KT P L N (ags.map TI.code++[.code .skip]) Q x st'->Q x st':=by
   intro x st' i
   have key:∀ l:List Code,KT P L N (l.map TI.code++[.code .skip]) Q x st'->Q x st':=by
    intro l
    induction l with
    |nil=>intro h;cases x<;>first|exact absurd rfl i|exact h
    |cons c l ih=>intro h;cases x<;>first|exact absurd rfl i|exact ih h
   exact key ags
  cases e with
  |normal =>
   obtain⟨b,g,st3,G3,d,f⟩:=hp
   exact KQ hgl hm hN hnext hR ags st3 a' w' G3 hok.2 f g b d
  |exit id=>obtain⟨b,g,st3,G3,d,f⟩:=hp;exact hR _ _ _ (by simp) ⟨b,g,st3,G3,pass (by simp) d,f⟩
  |ret=>obtain⟨b,g,st3,G3,d,f⟩:=hp;exact hR _ _ _ (by simp) ⟨b,g,st3,G3,pass (by simp) d,f⟩
  |panic c=>obtain⟨b,st3,G3,d,f⟩:=hp;exact hR _ _ _ (by simp) ⟨b,st3,G3,pass (by simp) d,f⟩
  |goto l=>exact hp.elim
  |outgrown=>exact hp.elim
theorem KW {fn:Func}{Q:Cb->List (List PV)->Prop}(hN:G.φ.length=N)(hI:Inv w G st (AG a) w' G')(hq:C6 P fn N Q .ret st) :
 ∃ v,(results fn a.tmps).run P w'=.ok v w'/\∃ x σ' G',Q x σ'/\CT w' G' x (.returned v)/\Ay w' G' σ'/\Ext w G w' G':=by
 unfold C6 at hq
 simp only at hq
 split at hq
 . rename_i c ps st' j
   obtain⟨rfl,hq⟩:=hq
   obtain⟨us,G2,k1,k2,k3,k4,_,_,_⟩:=Mb (a:=a) fn.results.toList 0 st G' ps st' hI j
   refine⟨_,NT k1,Md (p:=L3 ps) k4.ext k4.store hN hq ?_ (fun r e=>by cases e;rfl)⟩
   match ps,us,k2,k3 with
   | [p],[u],_,k3 =>
    obtain⟨k,l,f⟩:=k3 0 p u rfl rfl
    refine⟨u,rfl,k,?_⟩
    show Gm w' G2 p u
    unfold Gm
    split
    . exact l _ rfl
    . exact absurd rfl (f.2.2 _)
    . exact absurd rfl (f.1 _ _)
    . exact absurd rfl (f.2.1 _)
    . trivial
   | [],[],_,k3 =>
    refine⟨.tuple #[],rfl,.tup _ _ _ rfl (fun i d=>by simp at d),fun i xs d=>by simp at d⟩
   |p::q::ps,u::x::us,k2,k3 =>
    refine⟨.tuple (u::x::us).toArray,rfl,.tup _ _ _ (by simp at k2;simp [k2]) (fun i d=>?_),fun i xs d=>?_⟩
    . have b:i<(u::x::us).length:=by rw [k2];exact d
      have:=(k3 i _ _ (Ã d) (Ã b)).1
      have e:(u::x::us).toArray.getD i Go.undef=(u::x::us)[i]:=by
       rw [É,List.getElem?_toArray,Ã b];rfl
      rw [e];exact this
    . have g:=(List.getElem?_eq_some_iff.1 d).1
      have b:i<(u::x::us).length:=by rw [k2];exact g
      have:=(k3 i _ _ d (Ã b)).2.1 xs rfl
      rw [ò] at this
      exact⟨_,_,rfl,by rw [List.getElem?_toArray,Ã b],this⟩
 . exact hq.elim
theorem Inv.getEq {w w0:World}{G G0:Gh}{st st2:St}{tm:Nat->Value}(h:Inv w0 G0 st tm w G)(hσ:st2.σ=st.σ)(hp:∀ t,(st2.get t=st.get t)/\(st.get t=.undef∨∃ k o,st.get t=.ptr k o)):Inv w0 G0 st2 tm w G:=by
 refine⟨h.ext,by rw [hσ];exact h.store,⟨fun t=>?_,fun t=>?_⟩⟩
 . rw [(hp t).1];exact h.env.v t
 . obtain⟨b,a⟩:=hp t
   rw [b]
   rcases a with a|⟨k,o,a⟩<;>rw [a]<;>trivial
theorem Xl {M:List Nat}{fn:Func}{Q:Cb->List (List PV)->Prop}{R:Ending->World->Prop}{fd:FuncId}{caps:List PV}{capsV:Array Value}{u:FrameMode}{w1:World}{G1:Gh}
 (hR:∀ e w',(∃ x σ' G',Q x σ'/\CT w' G' x e/\Ay w' G' σ'/\Ext w0 G0 w' G')->R e w')
 (hgl:Cu w0 G0) (hN:G0.φ.length=N) (hct:Im P fd=true) (h01:Ext w0 G0 w1 G1) (hI:Inv w1 G1 (Hu M st st.σ) (AG a) w' G') (hcs:capsV.size=caps.length) (hcv:∀ i (h:i<caps.length),V w1 G1.U G1.φ caps[i] (capsV.getD i Go.undef))
 (hu:u≠.run) (h:R6 P fd caps st.σ u fun y u' σ'=>settle u'=.returning/\(∃ r,y=.ret r)/\C6 P fn N Q .ret (Hu M st σ')) :
 Leaves P fn a.tmps R [{ target:=.fn (.func fd) capsV,args:=#[] }] u w':=by
 refine leaves_cons hu (f:=fd) (args:=capsV) (by show (callFunc fd (#[]++capsV)).run P w'=_;rw [IQ hct];simp) ?_
 have j:Ext w0 G0 w' G':=h01.trans hI.ext
 refine (h w' G'.inner capsV hI.store.inner hcs (fun i m=>hI.ext.V (hcv i m)) (Fl G') (hgl.ext j).inner).mono fun e u' w2 b=>?_
 obtain⟨x,σ',G2,⟨d,⟨r,rfl⟩,g⟩,⟨v,rfl,_,_⟩,hs,n⟩:=b
 show Leaves P fn a.tmps R [] (settle u') w2
 rw [d]
 have k:=hI.call (tup:=false) hs n 0
 have c:Inv w1 G1 (Hu M st σ') (AG a) w2 _:=k.getEq (st2:=Hu M st σ') rfl fun t=>by
  rw [Zp,IJ]
  refine⟨rfl,?_⟩
  split
  . cases st.get t<;>simp [Ld]
  . exact .inl rfl
 have l:Inv w0 G0 (Hu M st σ') (AG a) w2 _:=⟨h01.trans c.ext,c.store,c.env⟩
 obtain⟨v,o,p⟩:=KW hN l g
 exact⟨v,o,hR _ _ p⟩
theorem VC.introD (M:List Nat){f:FuncId}{fn:Func}{c b:Code}{ags:List Code}{id:Nat}{ops:Array Oper}{d1 fd:Nat}{caps:List Operand}{args:List PV}{σ:List (List PV)}{Q:Cb->List (List PV)->Prop}(L:Cf)
 (hf:P.funcs[f]?=some fn) (hb:fn.body=some c) (hm:P.follows .mixedOrders=true) (hs:LL c=some (ags,id,ops,b)) (hd:OB ops=some (d1,fd,caps))
 (hok:(ags.all (Cc L.pl fn.ntmps)&&(Cc L.pl fn.ntmps b&&(Ht L.pl b&&(Im P fd&&(decide (d1<fn.ntmps)&&decide (args.length<=fn.ntmps))))))=true)
 (h:WS P L σ.length (ags.map TI.code++[.code .skip]) (fun x st=>match x with
  |.normal=>Bx (WS P L st.σ.length [.code b,.code .ret] (V2 M P fn σ.length fd (caps.map fun x=>Bf (Ck st x)) Q) (st.put (some d1) (TA fd (caps.map fun x=>Bf (Ck st x)))))
  |x=>C6 P fn σ.length Q x st) (HR args σ)):VC P f args σ Q:=by
 simp only [Æ,Í] at hok
 obtain⟨F,H,I,X,J,hn⟩:=hok
 intro w G vs K Y hv hΩ q
 refine calls_of_wp_defers hf hb (WQ hs ?_)
 have Z:(vs++Array.replicate (fn.ntmps-vs.size) Go.undef).size=fn.ntmps:=by simp;omega
 have n:∀ t,(HR args σ).get t=match args[t]? with|some p=>Bf p|none=>.undef:=by
  intro t
  show Cj (args.zipIdx.map fun x=>(x.2,Bf x.1)) t=_
  rw [K5 args 0 t];simp;rfl
 have N:Inv w G (HR args σ) (AG { tmps:=vs++Array.replicate (fn.ntmps-vs.size) Go.undef,defers:=[] }) w G:=by
  refine⟨Ext.refl _ _,K,⟨fun t=>?_,fun t=>?_⟩⟩
  . rw [n]
    cases e:args[t]? with
    |none=>exact .undef _ _
    |some p =>
     have O:=List.getElem?_eq_some_iff.1 e
     have:=hv t O.1
     rw [O.2] at this
     have e2:AG { tmps:=vs++Array.replicate (fn.ntmps-vs.size) Go.undef,defers:=[] } t=vs.getD t Go.undef:=by
      show (vs++_).getD t Go.undef=_
      rw [É,ô (by rw [Y];exact O.1),É]
     rw [e2];exact Cp this
  . rw [n]
    cases e:args[t]? with
    |none=>trivial
    |some p=>exact DX (Bp p) _ _ _ _
 have hN:G.φ.length=σ.length:=K.len
 have hRR:∀ e w',(∃ x σ' G',Q x σ'/\CT w' G' x e/\Ay w' G' σ'/\Ext w G w' G')->(fun e w'=>∃ x σ' G',Q x σ'/\CT w' G' x e/\Ay w' G' σ'/\Ext w G w' G') e w':=fun _ _ h=>h
 refine KQ (ds:=[]) q hm (ÿ hN) ?_ ?_ ags _ _ w G F N rfl Z h
 . intro a1 w1 st1 G1 s R a hq
   refine V1 hd ?_ (by rw [s];exact J)
   rw [R]
   have S:∀ i (hi:i<(caps.map fun x=>Bf (Ck st1 x)).length),V w1 G1.U G1.φ (caps.map fun x=>Bf (Ck st1 x))[i] ((caps.toArray.map a1.eval).getD i Go.undef):=fun i hi=>by
    have hi':i<caps.length:=by simpa using hi
    have e1:(caps.toArray.map a1.eval).getD i Go.undef=a1.eval caps[i]:=by simp [hi']
    rw [e1,é]
    exact Cp (Bz a.env _)
   have T:(caps.toArray.map a1.eval).size=(caps.map fun x=>Bf (Ck st1 x)).length:=by simp
   have hV:V w1 G1.U G1.φ (TA fd (caps.map fun x=>Bf (Ck st1 x))) (.func (.func fd) #[] (caps.toArray.map a1.eval)):=Zz T S
   have hI2:Inv w1 G1 (st1.put (some d1) (TA fd (caps.map fun x=>Bf (Ck st1 x)))) (AG { a1.put (some d1) (.func (.func fd) #[] (caps.toArray.map a1.eval)) with defers:=[{ target:=.fn (.func fd) (caps.toArray.map a1.eval),args:=#[] }] }) w1 G1:=by
    have e:AG { a1.put (some d1) (.func (.func fd) #[] (caps.toArray.map a1.eval)) with defers:=[{ target:=.fn (.func fd) (caps.toArray.map a1.eval),args:=#[] }] } = FN (AG a1) d1 (.func (.func fd) #[] (caps.toArray.map a1.eval)):=by
     rw [<- Bm (by rw [s];exact J)];rfl
    rw [e]
    have h0:Inv w1 G1 st1 (AG a1) w1 G1:=⟨Ext.refl _ _,a.store,a.env⟩
    exact h0.put d1 hV (DX (Px _ _) _ _ _ _)
   obtain⟨hq⟩:=hq
   have z:G1.φ.length<=st1.σ.length:=ÿ a.store.len
   obtain⟨st2,G2,hq2,hI3⟩:=hq w1 G1 _ w1 G1 z hI2
   have W:=q.ext a.ext
   show b.wp P _ _ w1
   refine wp_mono (Zt (P:=P) (L:=L) W z b _ st2 _ w1 G2 H I hI3 rfl (by rw [<- s];exact Bw _ _ _) hq2) fun e a' w' g=>?_
   have fin:∀ (u:FrameMode) (st':St) (G':Gh),u≠.run->a'.defers=[{ target:=.fn (.func fd) (caps.toArray.map a1.eval),args:=#[] }]->Inv w1 G1 (Hu M st' st'.σ) (AG a') w' G' ->
    (R6 P fd (caps.map fun x=>Bf (Ck st1 x)) st'.σ u fun y u' σ'=>settle u'=.returning/\(∃ r,y=.ret r)/\C6 P fn σ.length Q .ret (Hu M st' σ')) ->
    Leaves P fn a'.tmps (fun e w'=>∃ x σ' G',Q x σ'/\CT w' G' x e/\Ay w' G' σ'/\Ext w G w' G') a'.defers u w':=by
    intro u st' G' hu A hI B
    rw [A]
    exact Xl hRR q hN X a.ext hI T S hu B
   have ends:∀ st' G',Inv w1 G1 st' (AG a') w' G'->a'.defers=[{ target:=.fn (.func fd) (caps.toArray.map a1.eval),args:=#[] }] ->
    (R6 P fd (caps.map fun x=>Bf (Ck st1 x)) st'.σ .returning fun y u' σ'=>u'=.returning/\(∃ r,y=.ret r)/\C6 P fn σ.length Q .ret (Hu M st' σ')) ->
    Leaves P fn a'.tmps (fun e w'=>∃ x σ' G',Q x σ'/\CT w' G' x e/\Ay w' G' σ'/\Ext w G w' G') a'.defers .returning w':=by
    intro st' G' hI A B
    refine fin .returning st' G' (by simp) A (Inv.ptrs M hI.ext hI.store fun t k o O=>?_) ?_
    . have:=hI.env.v t;rw [O] at this;exact this
    . intro w0 G0 vs a1 a2 a3 a4 a5
      refine (B w0 G0 vs a1 a2 a3 a4 a5).mono fun e u' w' C=>?_
      obtain⟨x,σ',G',⟨rfl,hr,hk⟩,D⟩:=C
      exact⟨x,σ',G',⟨rfl,hr,hk⟩,D⟩
   cases e with
   |normal =>
    obtain⟨E,j,st',G',hk3,m⟩:=g
    obtain⟨st3,G3,d,h5⟩:=hk3 w1 G1 _ w' G' z m
    exact ends st3 G3 h5 j d
   |ret =>
    obtain⟨E,j,st',G',d,m⟩:=g
    exact ends st' G' m j d
   |exit id=>obtain⟨_,_,_,_,d,_⟩:=g;exact d
   |panic c =>
    obtain⟨E,st',G',j,d,m,h5⟩:=g
    exact fin (.panicking c) st' G' (by simp) E (Inv.ptrs M d m h5) j
   |goto l=>exact g
   |outgrown=>exact g.elim
 . intro e a' w' hne g
   cases e with
   |normal=>exact absurd rfl hne
   |ret =>
    obtain⟨E,j,st',G',d,m⟩:=g
    show Leaves P fn a'.tmps _ a'.defers .returning w'
    rw [j]
    exact KW hN m d
   |exit id=>obtain⟨_,_,_,_,d,_⟩:=g;exact d
   |panic c =>
    obtain⟨E,st',G',j,d,m⟩:=g
    show Leaves P fn a'.tmps _ a'.defers (.panicking c) w'
    rw [E]
    exact Md (p:=.undef) d m hN j rfl (fun r e=>by cases e)
   |goto l=>exact g
   |outgrown=>exact g.elim
theorem OW {o:Oper}{next:Act->World->Prop}{Q:Exit->Act->World->Prop}{next':Act->World->Prop}{Q':Exit->Act->World->Prop}(hn:∀ a w,next a w->next' a w)(hq:∀ e a w,Q e a w->Q' e a w){r:Result Next}
 (h:o.upon P a next Q r):o.upon P a next' Q' r:=by
 unfold Oper.upon at h ⊢
 split at h
 . exact hn _ _ h
 . exact hn _ _ h
 . exact hn _ _ h
 . refine Calls.mono h fun e w' h=>?_
   cases e with
   |returned v=>exact hn _ _ h
   |panicked c=>exact hq _ _ _ h
   |outgrown=>obtain⟨a,w,h⟩:=h;exact⟨a,w,hq _ _ _ h⟩
 . exact Rows.mono h fun v w' h=>hn _ _ h
 . exact hq _ _ _ h
 . exact h.elim
theorem NL {ops:Array Oper}{Q Q':Exit->Act->List Frame->World->Prop}(hq:∀ e a cs w,Q e a cs w->Q' e a cs w):∀ (l:List Nat) (a:Act) (cs:List Frame) (w:World),wpOpsS P ops Q l a cs w->wpOpsS P ops Q' l a cs w
 | [],a,cs,w,h=>by unfold wpOpsS at h ⊢;exact hq _ _ _ _ h
 |i::l,a,cs,w,h=>by
  have ih:=fun a cs w=>NL (ops:=ops) hq l a cs w
  unfold wpOpsS at h ⊢
  split at h
  . exact ih _ _ _ h
  . split at h
    . rename_i hw
      rw [Ç hw]
      split at h
      . split at h
        . exact ih _ _ _ h
        . exact ih _ _ _ h
      . exact OW (fun a w h=>ih a cs w h) (fun e a w h=>hq _ _ _ _ h) h
    . rename_i hw
      rw [Ä hw]
      exact ih _ _ _ h
theorem QK {ops:Array Oper}{Q:Exit->Act->World->Prop}(hQ:¬ LetsOut Q)(cs:List Frame):∀ (l:List Oper) (k:Nat) (a:Act) (w:World),(∀ j,l[j]?=ops[k+j]?)->wpList P ops Q l a w->wpOpsS P ops (fun e a' cs' w'=>cs'=cs/\Q e a' w') (List.range' k l.length) a cs w
 | [],k,a,w,_,h=>by
  show wpOpsS P ops _ [] a cs w
  unfold wpOpsS
  exact⟨rfl,h⟩
 |o::l,k,a,w,hj,h=>by
  have h0:ops[k]?=some o:=by simpa using (hj 0).symm
  have b:∀ j,l[j]?=ops[k+1+j]?:=fun j=>by have:=hj (j+1);simpa [ī,Nat.add_comm 1 j] using this
  have ih:=fun a w=>QK hQ cs l (k+1) a w b
  rw [æ,List.range'_succ]
  unfold wpOpsS
  unfold wpList at h
  simp only [h0]
  split at h
  . rename_i c
    rw [Ç c]
    rcases h with h|⟨_,h⟩
    . unfold Oper.wp at h
      split
      . rename_i w' d
        rw [d] at h;exact h.elim
      . exact OW (Q':=fun e a' w'=>True/\Q e a' w') (fun a w h=>ih a w h) (fun e a w h=>⟨trivial,h⟩) h
    . exact absurd h hQ
  . rename_i c
    rw [Ä c]
    exact ih _ _ h
theorem R6.intro {f:FuncId}{fn:Func}{b:Code}{id:Nat}{ops:Array Oper}{ro:Oper}{rest:List Oper}{d1:Nat}{args:List PV}{σ:List (List PV)}{u u1:FrameMode}{rv:Value}{Q:Cb->FrameMode->List (List PV)->Prop}(L:Cf)
 (hf:P.funcs[f]?=some fn) (hb:fn.body=some (.seq (.region id ops false) b)) (hm:P.follows .mixedOrders=true) (hops:ops.toList=ro::rest) (hrun:∀ (ρ:Operand->Value) (w:World),(execOp ρ ro).run P w=.ok .recover w)
 (hrd:ro.dst=some d1) (hrg:ro.guard=none)
 (hu:(u=.returning/\rv=.nilIface/\u1=u)∨∃ older,u=.panicking ({ v:=rv,recovered:=false,goexit:=false }::older)/\u1=.panicking ({ v:=rv,recovered:=true }::older))
 (hok:(Cc L.pl fn.ntmps b&&(Cc [] fn.ntmps (.region id ops false)&&(decide (d1<fn.ntmps)&&decide (args.length<=fn.ntmps))))=true)
 (h:B1 P ops (fun x st=>match x with
  |.normal=>WS P L σ.length [.code b,.code .ret] (C6 P fn σ.length (fun y σ'=>Q y u1 σ')) st
  |x=>C6 P fn σ.length (fun y σ'=>Q y u1 σ') x st) rest ((HR args σ).put (some d1) (.lit rv))):R6 P f args σ u Q:=by
 simp only [Æ,Í] at hok
 obtain⟨F,z,R,hn⟩:=hok
 intro w G vs H S hv hΩ I
 refine callsD_of_wpS hf hb fun c₀ cs C=>wpS_seq (wpS_region ?_)
 have T:(vs++Array.replicate (fn.ntmps-vs.size) Go.undef).size=fn.ntmps:=by simp;omega
 have A:∀ t,(HR args σ).get t=match args[t]? with|some p=>Bf p|none=>.undef:=by
  intro t
  show Cj (args.zipIdx.map fun x=>(x.2,Bf x.1)) t=_
  rw [K5 args 0 t];simp;rfl
 have B:Inv w G (HR args σ) (AG { tmps:=vs++Array.replicate (fn.ntmps-vs.size) Go.undef,defers:=[] }) w G:=by
  refine⟨Ext.refl _ _,H,⟨fun t=>?_,fun t=>?_⟩⟩
  . rw [A]
    cases e:args[t]? with
    |none=>exact .undef _ _
    |some p =>
     have U:=List.getElem?_eq_some_iff.1 e
     have:=hv t U.1
     rw [U.2] at this
     have e2:AG { tmps:=vs++Array.replicate (fn.ntmps-vs.size) Go.undef,defers:=[] } t=vs.getD t Go.undef:=by
      show (vs++_).getD t Go.undef=_
      rw [É,ô (by rw [S];exact U.1),É]
     rw [e2];exact Cp this
  . rw [A]
    cases e:args[t]? with
    |none=>trivial
    |some p=>exact DX (Bp p) _ _ _ _
 have hN:G.φ.length=σ.length:=H.len
 generalize hA:({ tmps:=vs++Array.replicate (fn.ntmps-vs.size) Go.undef,defers:=[] }:Act)=a0 at B ⊢
 have J:a0.tmps.size=fn.ntmps:=by rw [<- hA];exact T
 have V:a0.defers=[]:=by rw [<- hA]
 have D:ops.size=rest.length+1:=by rw [<- Array.length_toList,hops];rfl
 have K:ops[0]?=some ro:=by rw [<- Ą,hops];rfl
 have M:∀ j,rest[j]?=ops[1+j]?:=fun j=>by rw [<- Ą,hops,Nat.add_comm];rfl
 have W:∀ o∈rest,∀ d,o.dst=some d->d<fn.ntmps:=fun o ho d X=>by
  simp only [Cc,Æ,Ú] at z
  have:=z.1 o (by rw [hops];simp [ho]);rw [X] at this;simpa using this
 have hI:Inv w G ((HR args σ).put (some d1) (.lit rv)) (AG (a0.put (some d1) rv)) w G:=by
  rw [Bm (by rw [J];exact R)];exact B.putPlain d1 (.lit _ _) rfl
 have hl:=Eg (P:=P) (ops:=ops) (n:=fn.ntmps) (ds:=[]) I rest _ (a0.put (some d1) rv) w G hI (by rw [put_defers];exact V) (by rw [Bw];exact J) W h
 rw [D,List.range_eq_range',List.range'_succ]
 unfold wpOpsS
 simp only [K]
 have E:Region.wanted ro (yielded ops a0.tmps)=true:=by unfold Region.wanted;rw [hrg]
 rw [Ç E,hrun]
 simp only
 have key:wpOpsS P ops (Exit.thenS (b.wpS P (bodyPostS P fn c₀ cs fun e u' w'=>∃ x σ' G',Q x u' σ'/\CT w' G' x e/\Ay w' G' σ'/\Ext w G w' G')) (bodyPostS P fn c₀ cs fun e u' w'=>∃ x σ' G',Q x u' σ'/\CT w' G' x e/\Ay w' G' σ'/\Ext w G w' G'))
  (List.range' (0+1) rest.length) (a0.put (some d1) rv) ({ c₀ with mode:=u1 }::cs) w:=by
  have N:¬ LetsOut (C3 [] w G fn.ntmps fun x st=>match x with
   |.normal=>WS P L σ.length [.code b,.code .ret] (C6 P fn σ.length (fun y σ'=>Q y u1 σ')) st
   |x=>C6 P fn σ.length (fun y σ'=>Q y u1 σ') x st):=fun ⟨_,_,h⟩=>h
  have hS:=QK (P:=P) (ops:=ops) N ({ c₀ with mode:=u1 }::cs) rest 1 _ w M hl
  have ends:∀ e a' w',e≠.normal∨True->C3 [] w G fn.ntmps (wkK σ.length (C6 P fn σ.length (fun y σ'=>Q y u1 σ'))) e a' w' ->
   bodyPostS P fn c₀ cs (fun e u' w'=>∃ x σ' G',Q x u' σ'/\CT w' G' x e/\Ay w' G' σ'/\Ext w G w' G') e a' ({ c₀ with mode:=u1 }::cs) w':=by
   intro e a' w' _ g
   cases e with
   |normal =>
    obtain⟨s,i,st',G',k,q⟩:=g
    obtain⟨st3,G3,a,O⟩:=k w G _ w' G' (ÿ hN) q
    exact⟨i,u1,rfl,KW hN O a⟩
   |ret =>
    obtain⟨s,i,st',G',k,q⟩:=g
    obtain⟨st3,G3,a,O⟩:=k w G _ w' G' (ÿ hN) q
    exact⟨i,u1,rfl,KW hN O a⟩
   |exit id =>
    obtain⟨s,i,st',G',k,q⟩:=g
    obtain⟨_,_,a,_⟩:=k w G _ w' G' (ÿ hN) q
    exact a
   |panic c =>
    obtain⟨s,st',G',i,a,q⟩:=g
    exact⟨s,u1,rfl,Md (p:=.undef) a q hN i rfl (fun r e=>by cases e)⟩
   |goto l=>exact g
   |outgrown=>exact g.elim
  refine NL ?_ _ _ _ _ hS
  rintro e a' cs' w' ⟨rfl,g⟩
  cases e with
  |normal =>
   obtain⟨s,i,st',G',hq,q⟩:=g
   obtain⟨st3,G3,a,O⟩:=Qp hq w G _ w' G' (ÿ hN) q
   refine wpS_of_wp (wp_mono (SJ I hm (ÿ hN) b _ st3 a' w' G3 F O i s a) fun e a2 w2 Y=>ends e a2 w2 (.inr trivial) Y)
  |exit id=>obtain⟨_,_,_,_,a,_⟩:=g;exact a.elim
  |ret=>obtain⟨s,i,st',G',a,q⟩:=g;exact ends .ret a' w' (.inr trivial) ⟨s,i,st',G',U1 .ret st' a,q⟩
  |panic c=>obtain⟨s,st',G',i,a⟩:=g;exact ends (.panic c) a' w' (.inr trivial) ⟨s,st',G',i,a⟩
  |goto l=>exact g.elim
  |outgrown=>exact g.elim
 have Z:∀ m,c₀.mode=m->({ c₀ with mode:=m }:Frame)=c₀:=fun m e=>by subst e;rfl
 rcases hu with⟨rfl,rfl,rfl⟩|⟨older,rfl,rfl⟩
 . have e:recoverD (c₀::cs)=none:=by simp [recoverD,C]
   rw [e]
   simp only
   rw [hrd]
   rw [Z _ C] at key
   exact key
 . have e:recoverD (c₀::cs)=some (rv,{ c₀ with mode:=.panicking ({ v:=rv,recovered:=true }::older) }::cs):=by simp [recoverD,C]
   rw [e]
   simp only
   rw [hrd]
   exact key
theorem R6.mono {f:FuncId}{args:List PV}{σ:List (List PV)}{u:FrameMode}{Q Q':Cb->FrameMode->List (List PV)->Prop}(h:R6 P f args σ u Q)(hq:∀ x u' σ',Q x u' σ'->Q' x u' σ'):R6 P f args σ u Q' :=
 fun w G vs h1 h2 h3 h4 h5=>(h w G vs h1 h2 h3 h4 h5).mono fun _ _ _ ⟨x,σ',G',q,r⟩=>⟨x,σ',G',hq _ _ _ q,r⟩
end
end Go.Vl
namespace Go.Sp
open Go Go.RowKit Go.Q Go.Vl
def Aae (M:List Nat):Option (Prop×Rn)->Option (Prop×(List PanicEntry×St))
 |some (p,.pan c st)=>some (p,(c,Hu M st st.σ))
 |_=>none
theorem Xb {M:List Nat}{x:Option (Prop×Rn)}{p:Prop}{c:List PanicEntry}{S:St}(h:Aae M x=some (p,(c,S))):∃ st,x=some (p,.pan c st)/\Hu M st st.σ=S:=by
 unfold Aae at h
 all_goals grind [Aae]
theorem Ut {P:Program}{L:Cf}{N N0:Nat}{k:List TI}{fn:Func}{fd:FuncId}{caps:List PV}{Q:Cb->List (List PV)->Prop}{st:St}{i:Nat}{ops:Array Oper}{d:Bool}(M:List Nat)(qs:List H4){c:List PanicEntry}(S:St){p:Prop}(hp:p)
 (he:Aae M (Pj P ops ops.toList qs st)=some (p,(c,S))) (hn:Di L.pl i=none) (h:V2 M P fn N0 fd caps Q (.pan c) S):WS P L N (.code (.region i ops d)::k) (V2 M P fn N0 fd caps Q) st:=by
 obtain⟨st1,e,rfl⟩:=Xb he
 refine H3 hn ?_
 intro K' _ hP
 refine FJ e hp (hP _ _ ?_)
 have h:R6 P fd caps st1.σ (.panicking c) fun y u' σ'=>settle u'=.returning/\(∃ r,y=.ret r)/\C6 P fn N0 Q .ret (Hu M (Hu M st1 st1.σ) σ'):=h
 exact h.mono fun x u' σ' a=>by rw [Ym] at a;exact a
theorem I2.finP {P:Program}{f:FuncId}{args:List PV}{σ σ1:List (List PV)}{c:List PanicEntry}(h:∀ Q:Cb->List (List PV)->Prop,Q (.pan c) σ1->VC P f args σ Q):I2 P f args σ (.pan c) σ1:=h _ ⟨rfl,rfl⟩
theorem Aec {P:Program}{L:Cf}{N:Nat}{c1 c2:Code}{Q:AX->St->Prop}{l:List Oper}{ops:Array Oper}{st:St}(L0 M:List Nat)(qs:List H4)(S:St){p:Prop}(hp:p)
 (he:(TV M st.σ.length L0 (Pj P ops l qs st),Nat.ble N st.σ.length)=(some (p,S),true)) (h:WS P L N [.code c1,.code c2] Q S):B1 P ops (fun x st=>match x with
  |.normal=>WS P L N [.code c1,.code c2] Q st
  |x=>Q x st) l st:=by
 obtain⟨a,b⟩:=Ó he
 obtain⟨st1,e,rfl⟩:=Lf a
 refine FJ e hp ?_
 exact Qo rfl (Wk.trans (Wk.clr N L0 st1) (Wk.low (Ø b))) h
end Go.Sp
