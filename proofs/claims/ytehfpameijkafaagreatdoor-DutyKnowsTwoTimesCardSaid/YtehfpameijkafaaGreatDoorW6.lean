/-
  Functions that defer a function which recovers, walked on plain values. No program.
-/
import Derived.Recover
import Derived.Test.YtehfpameijkafaaGreatDoorW5
set_option linter.unusedVariables false
set_option linter.unusedSimpArgs false
namespace Go.Vl
open Go Go.RowKit Go.Q
def Adx (ds:List Deferred)(w0:World)(G0:Gh)(n:Nat)(K:AX->St->Prop):Exit->Act->World->Prop
 |.panic c,a,w=>a.defers=ds/\∃ st G,K (.pan c) st/\Ext w0 G0 w G/\Az w G st.σ/\∀ t k o,st.get t=.ptr k o->V w G.U G.φ (.ptr k o) (AH a t)
 |e,a,w=>CG ds w0 G0 n K e a w
section
variable {w w' w0:World} {G G' G0:Gh} {P:Program} {st st':St} {a:Act} {o:Oper} {n N:Nat} {ops:Array Oper} {K:AX->St->Prop} {ds:List Deferred} {L:Cf}
theorem WT {f:FuncId}{args:List PV}{next:Act->World->Prop}{Q:Exit->Act->World->Prop}{KR:PV->List (List PV)->Prop}{KP:List PanicEntry->List (List PV)->Prop}
 (hgl:C8 w0 G0) (h:Inv w0 G0 st (AH a) w G) (hd:∀ d,o.dst=some d->d<a.tmps.size) (hdef:a.defers=ds) (he:EU P o st=some (f,args))
 (hc:VC P f args st.σ fun x σ'=>match x with|.ret r=>KR r σ'|.pan c=>KP c σ')
 (hn:∀ r σ' v w' G',KR r σ'->Inv w0 G0 ((st.aft σ').put o.dst r) (AH (a.put o.dst v)) w' G'->next (a.put o.dst v) w')
 (hp:∀ c σ' w' G',KP c σ'->a.defers=ds->Ext w0 G0 w' G'->Az w' G' σ'->(∀ t k o,st.get t=.ptr k o->V w' G'.U G'.φ (.ptr k o) (AH a t))->Q (.panic c) a w'):o.wp P a w next Q:=by
 obtain⟨vs,h1,h2,h3⟩:=K0 h.env he
 unfold Oper.wp
 rw [h3 w]
 refine (hc w G.inner vs h.store.inner h1 h2 (FO G) (hgl.ext h.ext).inner).mono fun e w' hpost=>?_
 obtain⟨x,σ',G',hq,hend,hs,hx⟩:=hpost
 cases x with
 |ret r =>
  obtain⟨v,rfl,hv,ht⟩:=hend
  show next (a.put o.dst v) w'
  cases hdst:o.dst with
  |none =>
   have hI:=h.call (tup:=false) hs hx 0
   have:=hn r σ' v w' _ hq (by rw [hdst];exact hI)
   rw [hdst] at this;exact this
  |some d =>
   have hI:=(h.call (tup:=QB r) hs hx d).putRet hv ht
   have:=hn r σ' v w' _ hq (by rw [hdst,Bq (hd d hdst)];exact hI)
   rw [hdst] at this;exact this
 |pan c =>
  obtain rfl:e=.panicked c:=hend
  have hI:=h.call (tup:=false) hs hx 0
  refine hp c σ' w' _ hq hdef hI.ext hI.store fun t k o ht=>?_
  have:=hI.env.v t
  rw [Ks,ht] at this
  exact this
theorem Ha (hgl:C8 w0 G0):∀ (l:List Oper) (st:St) (a:Act) (w:World) (G:Gh),Inv w0 G0 st (AH a) w G->a.defers=ds->a.tmps.size=n->(∀ o∈l,∀ d,o.dst=some d->d<n)->B5 P ops K l st ->
 wpList P ops (Adx ds w0 G0 n K) l a w
 | [],st,a,w,G,h,hdef,hsz,_,he=>⟨hsz,hdef,st,G,he,h⟩
 |o::rest,st,a,w,G,h,hdef,hsz,hd,he=>by
  have hdo:∀ d,o.dst=some d->d<a.tmps.size:=fun d hdd=>by rw [hsz];exact hd o (by simp) d hdd
  have hdr:∀ o∈rest,∀ d,o.dst=some d->d<n:=fun o ho=>hd o (by simp [ho])
  unfold B5 at he
  unfold wpList
  split at he
  . exact he.elim
  . rename_i hg
    rw [D8 h.env hg]
    simp only [è,Ā]
    exact Ha hgl rest _ _ w G (h.skipPut hdo) (by rw [put_defers];exact hdef) (by rw [B0];exact hsz) hdr he
  . rename_i hg
    rw [D8 h.env hg]
    simp only [ù]
    left
    split at he
    . rename_i c st2 hop
      obtain⟨rfl,he2⟩:=he
      exact T9 h hdo hop (fun v w' G' hI=>Ha hgl rest _ _ w' G' hI (by rw [put_defers];exact hdef) (by rw [B0];exact hsz) hdr he2)
    . split at he
      . rename_i f args hcall
        exact WT (KR:=fun r σ'=>B5 P ops K rest ((st.aft σ').put o.dst r)) (KP:=fun c σ'=>K (.pan c) { st with σ:=σ' }) hgl h hdo hdef hcall he
         (fun r σ' v w' G' hK hI=>Ha hgl rest _ _ w' G' hI (by rw [put_defers];exact hdef) (by rw [B0];exact hsz) hdr hK)
         (fun c σ' w' G' hK hdf hE hS hV=>⟨hdf,{ st with σ:=σ' },G',hK,hE,hS,hV⟩)
      . split at he
        . rename_i v hpan
          unfold Oper.wp
          rw [O7 h.env hpan w]
          refine⟨hdef,st,G,he,h.ext,h.store,fun t k o ht=>?_⟩
          have:=h.env.v t
          rw [ht] at this;exact this
        . exact TJ h hdo he fun st2 v w' G' hI hX=>Ha hgl rest _ _ w' G' hI (by rw [put_defers];exact hdef) (by rw [B0];exact hsz) hdr hX
def Ih (pl:List (Nat×List Nat)):Code->Bool
 |.region id _ draw=>!draw&&(DH pl id).isNone
 |.seq a b=>Ih pl a&&Ih pl b
 |.cond _ a b=>Ih pl a&&Ih pl b
 |.skip=>true
 |.ret=>true
 |_=>false
theorem Abe (hgl:C8 w0 G0)(hN:G0.φ.length<=N):∀ (c:Code) (K:AX->St->Prop) (st:St) (a:Act) (w:World) (G:Gh),Cn L.pl n c=true->Ih L.pl c=true->Inv w0 G0 st (AH a) w G->a.defers=ds->a.tmps.size=n->W P L N c K st->c.wp P (Adx ds w0 G0 n K) a w:=by
 intro c
 induction c with
 |skip=>intro K st a w G _ _ h hd hs hw;exact wp_skip ⟨hs,hd,st,G,hw,h⟩
 |ret=>intro K st a w G _ _ h hd hs hw;exact wp_ret ⟨hs,hd,st,G,hw,h⟩
 |region id ops draw =>
  intro K st a w G hok hseq h hd hs hw
  simp only [Cn,Å,Û] at hok
  simp only [Ih,Å,ç,Option.isNone_iff_eq_none] at hseq
  obtain⟨hok1,hok2⟩:=hok
  obtain⟨rfl,hpl⟩:=hseq
  have hd2:∀ o∈ops.toList,∀ d,o.dst=some d->d<n:=fun o ho d hdd=>by have:=hok1 o ho;rw [hdd] at this;simpa using this
  unfold W at hw
  rw [hpl] at hw
  refine wp_mono (wp_region_list (Ha hgl _ st a w G h hd hs hd2 hw)) fun e a' w' hp=>?_
  cases e with
  |normal=>obtain⟨h1,h2,st2,G2,h3,h4⟩:=hp;exact⟨h1,h2,_,G2,h3,h4.clr L.L⟩
  |exit id=>exact hp
  |ret=>exact hp
  |panic c=>exact hp
  |goto l=>exact hp
  |outgrown=>exact hp
 |seq x y ihx ihy =>
  intro K st a w G hok hseq h hd hs hw
  simp only [Cn,Å] at hok
  simp only [Ih,Å] at hseq
  refine wp_seq (wp_mono (ihx _ st a w G hok.1 hseq.1 h hd hs hw) fun e a' w' hp=>?_)
  cases e with
  |normal =>
   obtain⟨h1,h2,st2,G2,hk3,h4⟩:=hp
   obtain⟨st3,G3,h3,h5⟩:=hk3 w0 G0 _ w' G2 hN h4
   exact ihy K st3 a' w' G3 hok.2 hseq.2 h5 h2 h1 h3
  |exit id=>exact hp
  |ret=>exact hp
  |panic c=>exact hp
  |goto l=>exact hp
  |outgrown=>exact hp
 |cond c x y ihx ihy =>
  intro K st a w G hok hseq h hd hs hw
  simp only [Cn,Å] at hok
  simp only [Ih,Å] at hseq
  unfold W at hw
  have hv:=B1 (a:=a) h.env c
  split at hw
  . rename_i t ht
    rw [ht] at hv
    have hc:a.eval c=.bool t:=by
     revert hv;generalize a.eval c=z;intro hv
     cases hv with
     |lit _ _=>rfl
    refine wp_cond hc ?_
    cases t with
    |true =>
     simp only [ù] at hw ⊢
     obtain⟨st3,G3,hw,h5⟩:=hw w0 G0 _ w G hN h
     exact ihx K st3 a w G3 hok.1 hseq.1 h5 hd hs hw
    |false =>
     simp only [è,Ā] at hw ⊢
     obtain⟨st3,G3,hw,h5⟩:=hw w0 G0 _ w G hN h
     exact ihy K st3 a w G3 hok.2 hseq.2 h5 hd hs hw
  . exact hw.elim
 |_=>intro K st a w G hok hseq h hd hs hw;cases hseq
end
structure Bx (p:Prop):Prop where
 h:p
def SH (P:Program)(f:FuncId)(args:List PV)(σ:List (List PV))(u:FrameMode)(Q:Cl->FrameMode->List (List PV)->Prop):Prop :=
 ∀ (w:World) (G:Gh) (vs:Array Value),Az w G σ->vs.size=args.length->(∀ i (h:i<args.length),V w G.U G.φ args[i] (vs.getD i Go.undef)) ->
  (∀ b l,G.Ω b=some l->∃ k j,l=.cell k j)->C8 w G ->
  CallsD P f vs u w fun e u' w'=>∃ x σ' G',Q x u' σ'/\Dq w' G' x e/\Az w' G' σ'/\Ext w G w' G'
def P7 (ops:Array Oper):Option (Nat×FuncId×List Operand) :=
 match ops.toList with
 | [mk,df]=>match mk.op,mk.dst,mk.guard,df.op,df.dst,df.guard with
  |.makeFunc (.func fd) first caps,some d1,none,.defer c,none,none=>match c.callee,c.args.toList with
   |.value (.tmp t),[]=>if t=d1/\first = #[] then some (d1,fd,caps.toList) else none
   |_,_=>none
  |_,_,_,_,_,_=>none
 |_=>none
def MD:Code->Option (List Code×Nat×Array Oper×Code)
 |.seq (.region id ops false) b=>if (P7 ops).isSome then some ([],id,ops,b) else (MD b).map fun x=>(.region id ops false::x.1,x.2)
 |.seq x y=>(MD y).map fun r=>(x::r.1,r.2)
 |_=>none
def Ze (P:Program)(Q:Exit->Act->World->Prop):List Code->(Act->World->Prop)->Act->World->Prop
 | [],next=>next
 |c::l,next=>fun a w=>c.wp P (Exit.then (Ze P Q l next) Q) a w
theorem Yq {P:Program}{Q:Exit->Act->World->Prop}:∀ {c:Code} {ags:List Code} {id:Nat} {ops:Array Oper} {b:Code},MD c=some (ags,id,ops,b)->∀ {a:Act} {w:World},
 Ze P Q ags (fun a w=>(Code.region id ops false).wp P (Exit.then (b.wp P Q) Q) a w) a w->c.wp P Q a w:=by
 intro c
 induction c with
 |seq x y _ ihy =>
  intro ags id ops b hs a w h
  have gen:∀ {ags'},(MD y=some (ags',id,ops,b))->ags=x::ags'->(Code.seq x y).wp P Q a w:=by
   intro ags' h1 h2
   subst h2
   refine wp_seq (wp_mono (show x.wp P (Exit.then (Ze P Q ags' _) Q) a w from h) fun e a' w' hp=>?_)
   cases e with
   |normal=>exact ihy h1 hp
   |_=>exact hp
  unfold MD at hs
  split at hs
  . rename_i c' id' ops' b' e
    obtain⟨rfl,rfl⟩:=Code.seq.inj e
    split at hs
    . obtain⟨rfl,rfl,rfl,rfl⟩:ags=[]/\id=id'/\ops=ops'/\b=y:=by
       have:=Af hs
       simp only [È] at this
       exact⟨this.1.symm,this.2.1.symm,this.2.2.1.symm,this.2.2.2.symm⟩
      exact wp_seq h
    . grind [Option.map_eq_some_iff,Prod.mk.injEq]
  . grind [Option.map_eq_some_iff,Prod.mk.injEq]
  . cases hs
 |_=>intro ags id ops b hs;simp [MD] at hs
theorem WY {P:Program}{Q:Exit->Act->World->Prop}{ops:Array Oper}{d1 fd:Nat}{caps:List Operand}{id:Nat}{a:Act}{w:World}(h:P7 ops=some (d1,fd,caps))
 (hq:Q .normal { a.put (some d1) (.func (.func fd) #[] (caps.toArray.map a.eval)) with defers:={ target:=.fn (.func fd) (caps.toArray.map a.eval),args:=#[] }::a.defers } w) (hd1:d1<a.tmps.size):(Code.region id ops false).wp P Q a w:=by
 unfold P7 at h
 split at h
 . rename_i mk df hl
   split at h
   . rename_i fd' first caps' d1' c h1 h2 h3 h4 h5 h6
     split at h
     . rename_i t h7 h8
       split at h
       . rename_i h9
         obtain⟨rfl,rfl⟩:=h9
         simp only [Â,È] at h
         obtain⟨rfl,rfl,rfl⟩:=h
         refine wp_region_list ?_
         rw [hl]
         obtain⟨callee,cargs,ats⟩:=c
         simp only at h7 h8
         subst h7
         have h8':cargs = #[]:=by simpa using h8
         subst h8'
         have e1:(execOp a.eval mk).run P w=.ok (.value (.func (.func fd') #[] (caps'.map a.eval))) w:=by
          unfold execOp;rw [h1];simp [Instr.makeFunc]
         have e2:Region.wanted mk (yielded ops a.tmps)=true:=by unfold Region.wanted;rw [h3]
         have e3:∀ a':Act,Region.wanted df (yielded ops a'.tmps)=true:=fun a'=>by unfold Region.wanted;rw [h6]
         have e4:AH (a.put (some t) (.func (.func fd') #[] (caps'.map a.eval))) t=.func (.func fd') #[] (caps'.map a.eval):=by
          rw [Bq hd1];unfold GG;rw [Ç rfl]
         have e5:(execOp (a.put (some t) (.func (.func fd') #[] (caps'.map a.eval))).eval df).run P w=.ok (.defer { target:=.fn (.func fd') (caps'.map a.eval),args:=#[] }) w:=by
          unfold execOp;rw [h4]
          simp only [Ñ,resolve]
          have e6:(a.put (some t) (.func (.func fd') #[] (caps'.map a.eval))).eval (.tmp t)=.func (.func fd') #[] (caps'.map a.eval):=e4
          simp [Deferred.ofValue,e6]
         unfold wpList
         rw [e2,Ç rfl]
         left
         unfold Oper.wp
         rw [e1]
         show wpList P ops Q [df] (a.put mk.dst _) w
         rw [h2]
         unfold wpList
         rw [e3,Ç rfl]
         left
         unfold Oper.wp
         rw [e5]
         show wpList P ops Q [] (Act.put _ df.dst _) w
         rw [h5]
         have e7:caps'.toList.toArray=caps':=by simp
         rw [e7] at hq
         exact hq
       . cases h
     . cases h
   . cases h
 . cases h
def Md:PV->PV
 |.ptr k o=>.ptr k o
 |_=>.undef
def Ii (M:List Nat)(st:St)(σ:List (List PV)):St:={ env:=M.map fun t=>(t,Md (st.get t)),σ }
theorem JF (M:List Nat)(st:St)(σ:List (List PV))(t:Nat):(Ii M st σ).get t=if t∈M then Md (st.get t) else .undef:=by
 show Cs (M.map fun t=>(t,Md (st.get t))) t=_
 induction M with
 |nil=>rfl
 |cons x r ih =>
  show (if x=t then Md (st.get x) else Cs (r.map fun t=>(t,Md (st.get t))) t)=_
  by_cases e:x=t
  . subst e;simp
  . grind
theorem Z1 (M:List Nat)(st:St)(σ σ':List (List PV)):Ii M (Ii M st σ) σ'=Ii M st σ':=by
 unfold Ii
 congr 1
 refine List.map_congr_left fun t ht=>?_
 have h:=JF M st σ t
 unfold Ii at h
 rw [h,Ç ht]
 cases st.get t<;>rfl
theorem Inv.ptrs {w w0:World}{G G0:Gh}{st:St}{tm:Nat->Value}(M:List Nat)(h1:Ext w0 G0 w G)(h2:Az w G st.σ)(h3:∀ t k o,st.get t=.ptr k o->V w G.U G.φ (.ptr k o) (tm t)):Inv w0 G0 (Ii M st st.σ) tm w G:=by
 refine⟨h1,h2,⟨fun t=>?_,fun t=>?_⟩⟩
 . rw [JF]
   split
   . cases e:st.get t with
     |ptr k o=>exact h3 t k o e
     |_=>exact .undef _ _
   . exact .undef _ _
 . rw [JF]
   split
   . cases e:st.get t<;>trivial
   . trivial
theorem Aba (M:List Nat)(st:St)(σ σ':List (List PV))(t:Nat):((Ii M st σ).aft σ').get t=(Ii M st σ').get t:=by
 rw [Ks,JF,JF]
 split
 . cases st.get t<;>rfl
 . rfl
def WZ (M:List Nat)(P:Program)(fn:Func)(N:Nat)(fd:FuncId)(caps:List PV)(Q:Cl->List (List PV)->Prop)(x:AX)(st:St):Prop :=
 match x with
 |.normal=>SH P fd caps st.σ .returning fun y u' σ'=>u'=.returning/\(∃ r,y=.ret r)/\CI P fn N Q .ret (Ii M st σ')
 |.ret=>SH P fd caps st.σ .returning fun y u' σ'=>u'=.returning/\(∃ r,y=.ret r)/\CI P fn N Q .ret (Ii M st σ')
 |.pan c=>SH P fd caps st.σ (.panicking c) fun y u' σ'=>settle u'=.returning/\(∃ r,y=.ret r)/\CI P fn N Q .ret (Ii M st σ')
 |.exit _=>False
section
variable {w w' w0:World} {G G' G0:Gh} {P:Program} {st st':St} {a:Act} {n N:Nat} {L:Cf}
theorem LS {ds:List Deferred}{Q:AX->St->Prop}{next:Act->World->Prop}{R:Exit->Act->World->Prop}(hgl:C8 w0 G0)(hm:P.follows .mixedOrders=true)(hN:G0.φ.length<=N)
 (hnext:∀ a w st G,a.tmps.size=n->a.defers=ds->Inv w0 G0 st (AH a) w G->Q .normal st->next a w)
 (hR:∀ e a w,e≠.normal->CG ds w0 G0 n Q e a w->R e a w):∀ (ags:List Code) (st:St) (a:Act) (w:World) (G:Gh),ags.all (Cn L.pl n)=true->Inv w0 G0 st (AH a) w G->a.defers=ds->a.tmps.size=n ->
  WS P L N (ags.map TI.code++[.code .skip]) Q st->Ze P R ags next a w
 | [],st,a,w,G,_,h,hd,hs,hw=>by
  obtain⟨st2,G2,hq,h2⟩:=hw w0 G0 _ w G hN h
  exact hnext a w st2 G2 hs hd h2 hq
 |c::ags,st,a,w,G,hok,h,hd,hs,hw=>by
  rw [Ď,Å] at hok
  obtain⟨st2,G2,hq,h2⟩:=hw w0 G0 _ w G hN h
  refine wp_mono (TW hgl hm hN c _ st2 a w G2 hok.1 h2 hd hs hq) fun e a' w' hp=>?_
  have pass:∀ {x:AX} {st'},x≠.normal->KT P L N (ags.map TI.code++[.code .skip]) Q x st'->Q x st':=by
   intro x st' hx
   have key:∀ l:List Code,KT P L N (l.map TI.code++[.code .skip]) Q x st'->Q x st':=by
    intro l
    induction l with
    |nil=>intro h;cases x<;>first|exact absurd rfl hx|exact h
    |cons c l ih=>intro h;cases x<;>first|exact absurd rfl hx|exact ih h
   exact key ags
  cases e with
  |normal =>
   obtain⟨h1,h3,st3,G3,h4,h5⟩:=hp
   exact LS hgl hm hN hnext hR ags st3 a' w' G3 hok.2 h5 h3 h1 h4
  |exit id=>obtain⟨h1,h3,st3,G3,h4,h5⟩:=hp;exact hR _ _ _ (by simp) ⟨h1,h3,st3,G3,pass (by simp) h4,h5⟩
  |ret=>obtain⟨h1,h3,st3,G3,h4,h5⟩:=hp;exact hR _ _ _ (by simp) ⟨h1,h3,st3,G3,pass (by simp) h4,h5⟩
  |panic c=>obtain⟨h1,st3,G3,h4,h5⟩:=hp;exact hR _ _ _ (by simp) ⟨h1,st3,G3,pass (by simp) h4,h5⟩
  |goto l=>exact hp.elim
  |outgrown=>exact hp.elim
theorem LX {fn:Func}{Q:Cl->List (List PV)->Prop}(hN:G.φ.length=N)(hI:Inv w G st (AH a) w' G')(hq:CI P fn N Q .ret st) :
 ∃ v,(results fn a.tmps).run P w'=.ok v w'/\∃ x σ' G',Q x σ'/\Dq w' G' x (.returned v)/\Az w' G' σ'/\Ext w G w' G':=by
 unfold CI at hq
 simp only at hq
 split at hq
 . rename_i c ps st' hr
   obtain⟨rfl,hq⟩:=hq
   obtain⟨us,G2,k1,k2,k3,k4,_,_,_⟩:=MV (a:=a) fn.results.toList 0 st G' ps st' hI hr
   refine⟨_,OR k1,MX (p:=Mw ps) k4.ext k4.store hN hq ?_ (fun r e=>by cases e;rfl)⟩
   match ps,us,k2,k3 with
   | [p],[u],_,k3 =>
    obtain⟨h1,h2,h3⟩:=k3 0 p u rfl rfl
    refine⟨u,rfl,h1,?_⟩
    show Hg w' G2 p u
    unfold Hg
    split
    . exact h2 _ rfl
    . exact absurd rfl (h3.2.2 _)
    . exact absurd rfl (h3.1 _ _)
    . exact absurd rfl (h3.2.1 _)
    . trivial
   | [],[],_,k3 =>
    refine⟨.tuple #[],rfl,.tup _ _ _ rfl (fun i hi=>by simp at hi),fun i xs hi=>by simp at hi⟩
   |p::q::ps,u::x::us,k2,k3 =>
    refine⟨.tuple (u::x::us).toArray,rfl,.tup _ _ _ (by simp at k2;simp [k2]) (fun i hi=>?_),fun i xs hi=>?_⟩
    . have hi2:i<(u::x::us).length:=by rw [k2];exact hi
      have:=(k3 i _ _ (Ã hi) (Ã hi2)).1
      have e:(u::x::us).toArray.getD i Go.undef=(u::x::us)[i]:=by
       rw [É,List.getElem?_toArray,Ã hi2];rfl
      rw [e];exact this
    . have hi1:=(List.getElem?_eq_some_iff.1 hi).1
      have hi2:i<(u::x::us).length:=by rw [k2];exact hi1
      have:=(k3 i _ _ hi (Ã hi2)).2.1 xs rfl
      rw [ñ] at this
      exact⟨_,_,rfl,by rw [List.getElem?_toArray,Ã hi2],this⟩
 . exact hq.elim
theorem Inv.getEq {w w0:World}{G G0:Gh}{st st2:St}{tm:Nat->Value}(h:Inv w0 G0 st tm w G)(hσ:st2.σ=st.σ)(hp:∀ t,(st2.get t=st.get t)/\(st.get t=.undef∨∃ k o,st.get t=.ptr k o)):Inv w0 G0 st2 tm w G:=by
 refine⟨h.ext,by rw [hσ];exact h.store,⟨fun t=>?_,fun t=>?_⟩⟩
 . rw [(hp t).1];exact h.env.v t
 . obtain⟨h1,h2⟩:=hp t
   rw [h1]
   rcases h2 with h2|⟨k,o,h2⟩<;>rw [h2]<;>trivial
theorem Y7 {M:List Nat}{fn:Func}{Q:Cl->List (List PV)->Prop}{R:Ending->World->Prop}{fd:FuncId}{caps:List PV}{capsV:Array Value}{u:FrameMode}{w1:World}{G1:Gh}
 (hR:∀ e w',(∃ x σ' G',Q x σ'/\Dq w' G' x e/\Az w' G' σ'/\Ext w0 G0 w' G')->R e w')
 (hgl:C8 w0 G0) (hN:G0.φ.length=N) (hct:Jk P fd=true) (h01:Ext w0 G0 w1 G1) (hI:Inv w1 G1 (Ii M st st.σ) (AH a) w' G') (hcs:capsV.size=caps.length) (hcv:∀ i (h:i<caps.length),V w1 G1.U G1.φ caps[i] (capsV.getD i Go.undef))
 (hu:u≠.run) (h:SH P fd caps st.σ u fun y u' σ'=>settle u'=.returning/\(∃ r,y=.ret r)/\CI P fn N Q .ret (Ii M st σ')) :
 Leaves P fn a.tmps R [{ target:=.fn (.func fd) capsV,args:=#[] }] u w':=by
 refine leaves_cons hu (f:=fd) (args:=capsV) (by show (callFunc fd (#[]++capsV)).run P w'=_;rw [JN hct];simp) ?_
 have h02:Ext w0 G0 w' G':=h01.trans hI.ext
 refine (h w' G'.inner capsV hI.store.inner hcs (fun i hi=>hI.ext.V (hcv i hi)) (FO G') (hgl.ext h02).inner).mono fun e u' w2 hpost=>?_
 obtain⟨x,σ',G2,⟨hset,⟨r,rfl⟩,hret⟩,⟨v,rfl,_,_⟩,hs,hx⟩:=hpost
 show Leaves P fn a.tmps R [] (settle u') w2
 rw [hset]
 have hI2:=hI.call (tup:=false) hs hx 0
 have hI3:Inv w1 G1 (Ii M st σ') (AH a) w2 _:=hI2.getEq (st2:=Ii M st σ') rfl fun t=>by
  rw [Aba,JF]
  refine⟨rfl,?_⟩
  split
  . cases st.get t<;>simp [Md]
  . exact .inl rfl
 have hI4:Inv w0 G0 (Ii M st σ') (AH a) w2 _:=⟨h01.trans hI3.ext,hI3.store,hI3.env⟩
 obtain⟨v,h1,h2⟩:=LX hN hI4 hret
 exact⟨v,h1,hR _ _ h2⟩
theorem VC.introD (M:List Nat){f:FuncId}{fn:Func}{c b:Code}{ags:List Code}{id:Nat}{ops:Array Oper}{d1 fd:Nat}{caps:List Operand}{args:List PV}{σ:List (List PV)}{Q:Cl->List (List PV)->Prop}(L:Cf)
 (hf:P.funcs[f]?=some fn) (hb:fn.body=some c) (hm:P.follows .mixedOrders=true) (hs:MD c=some (ags,id,ops,b)) (hd:P7 ops=some (d1,fd,caps))
 (hok:(ags.all (Cn L.pl fn.ntmps)&&(Cn L.pl fn.ntmps b&&(Ih L.pl b&&(Jk P fd&&(decide (d1<fn.ntmps)&&decide (args.length<=fn.ntmps))))))=true)
 (h:WS P L σ.length (ags.map TI.code++[.code .skip]) (fun x st=>match x with
  |.normal=>Bx (WS P L st.σ.length [.code b,.code .ret] (WZ M P fn σ.length fd (caps.map fun x=>Bg (Cu st x)) Q) (st.put (some d1) (UN fd (caps.map fun x=>Bg (Cu st x)))))
  |x=>CI P fn σ.length Q x st) (IQ args σ)):VC P f args σ Q:=by
 simp only [Å,Î] at hok
 obtain⟨hoka,hokb,hseq,hct,hd1,hn⟩:=hok
 intro w G vs hst hvs hv hΩ hgl
 refine calls_of_wp_defers hf hb (Yq hs ?_)
 have hsz:(vs++Array.replicate (fn.ntmps-vs.size) Go.undef).size=fn.ntmps:=by simp;omega
 have hget:∀ t,(IQ args σ).get t=match args[t]? with|some p=>Bg p|none=>.undef:=by
  intro t
  show Cs (args.zipIdx.map fun x=>(x.2,Bg x.1)) t=_
  rw [L9 args 0 t];simp;rfl
 have hinv:Inv w G (IQ args σ) (AH { tmps:=vs++Array.replicate (fn.ntmps-vs.size) Go.undef,defers:=[] }) w G:=by
  refine⟨Ext.refl _ _,hst,⟨fun t=>?_,fun t=>?_⟩⟩
  . rw [hget]
    cases e:args[t]? with
    |none=>exact .undef _ _
    |some p =>
     have ht:=List.getElem?_eq_some_iff.1 e
     have:=hv t ht.1
     rw [ht.2] at this
     have e2:AH { tmps:=vs++Array.replicate (fn.ntmps-vs.size) Go.undef,defers:=[] } t=vs.getD t Go.undef:=by
      show (vs++_).getD t Go.undef=_
      rw [É,ö (by rw [hvs];exact ht.1),É]
     rw [e2];exact C2 this
  . rw [hget]
    cases e:args[t]? with
    |none=>trivial
    |some p=>exact E9 (Br p) _ _ _ _
 have hN:G.φ.length=σ.length:=hst.len
 have hRR:∀ e w',(∃ x σ' G',Q x σ'/\Dq w' G' x e/\Az w' G' σ'/\Ext w G w' G')->(fun e w'=>∃ x σ' G',Q x σ'/\Dq w' G' x e/\Az w' G' σ'/\Ext w G w' G') e w':=fun _ _ h=>h
 refine LS (ds:=[]) hgl hm (Ă hN) ?_ ?_ ags _ _ w G hoka hinv rfl hsz h
 . intro a1 w1 st1 G1 hs1 hd1' hI1 hq
   refine WY hd ?_ (by rw [hs1];exact hd1)
   rw [hd1']
   have hcv:∀ i (hi:i<(caps.map fun x=>Bg (Cu st1 x)).length),V w1 G1.U G1.φ (caps.map fun x=>Bg (Cu st1 x))[i] ((caps.toArray.map a1.eval).getD i Go.undef):=fun i hi=>by
    have hi':i<caps.length:=by simpa using hi
    have e1:(caps.toArray.map a1.eval).getD i Go.undef=a1.eval caps[i]:=by simp [hi']
    rw [e1,é]
    exact C2 (B1 hI1.env _)
   have hcs:(caps.toArray.map a1.eval).size=(caps.map fun x=>Bg (Cu st1 x)).length:=by simp
   have hV:V w1 G1.U G1.φ (UN fd (caps.map fun x=>Bg (Cu st1 x))) (.func (.func fd) #[] (caps.toArray.map a1.eval)):=Abk hcs hcv
   have hI2:Inv w1 G1 (st1.put (some d1) (UN fd (caps.map fun x=>Bg (Cu st1 x)))) (AH { a1.put (some d1) (.func (.func fd) #[] (caps.toArray.map a1.eval)) with defers:=[{ target:=.fn (.func fd) (caps.toArray.map a1.eval),args:=#[] }] }) w1 G1:=by
    have e:AH { a1.put (some d1) (.func (.func fd) #[] (caps.toArray.map a1.eval)) with defers:=[{ target:=.fn (.func fd) (caps.toArray.map a1.eval),args:=#[] }] } = GG (AH a1) d1 (.func (.func fd) #[] (caps.toArray.map a1.eval)):=by
     rw [<- Bq (by rw [hs1];exact hd1)];rfl
    rw [e]
    have h0:Inv w1 G1 st1 (AH a1) w1 G1:=⟨Ext.refl _ _,hI1.store,hI1.env⟩
    exact h0.put d1 hV (E9 (Q1 _ _) _ _ _ _)
   obtain⟨hq⟩:=hq
   have hN2:G1.φ.length<=st1.σ.length:=Ă hI1.store.len
   obtain⟨st2,G2,hq2,hI3⟩:=hq w1 G1 _ w1 G1 hN2 hI2
   have hgl1:=hgl.ext hI1.ext
   show b.wp P _ _ w1
   refine wp_mono (Abe (P:=P) (L:=L) hgl1 hN2 b _ st2 _ w1 G2 hokb hseq hI3 rfl (by rw [<- hs1];exact B0 _ _ _) hq2) fun e a' w' hp=>?_
   have fin:∀ (u:FrameMode) (st':St) (G':Gh),u≠.run->a'.defers=[{ target:=.fn (.func fd) (caps.toArray.map a1.eval),args:=#[] }]->Inv w1 G1 (Ii M st' st'.σ) (AH a') w' G' ->
    (SH P fd (caps.map fun x=>Bg (Cu st1 x)) st'.σ u fun y u' σ'=>settle u'=.returning/\(∃ r,y=.ret r)/\CI P fn σ.length Q .ret (Ii M st' σ')) ->
    Leaves P fn a'.tmps (fun e w'=>∃ x σ' G',Q x σ'/\Dq w' G' x e/\Az w' G' σ'/\Ext w G w' G') a'.defers u w':=by
    intro u st' G' hu hdf hI hvc
    rw [hdf]
    exact Y7 hRR hgl hN hct hI1.ext hI hcs hcv hu hvc
   have ends:∀ st' G',Inv w1 G1 st' (AH a') w' G'->a'.defers=[{ target:=.fn (.func fd) (caps.toArray.map a1.eval),args:=#[] }] ->
    (SH P fd (caps.map fun x=>Bg (Cu st1 x)) st'.σ .returning fun y u' σ'=>u'=.returning/\(∃ r,y=.ret r)/\CI P fn σ.length Q .ret (Ii M st' σ')) ->
    Leaves P fn a'.tmps (fun e w'=>∃ x σ' G',Q x σ'/\Dq w' G' x e/\Az w' G' σ'/\Ext w G w' G') a'.defers .returning w':=by
    intro st' G' hI hdf hvc
    refine fin .returning st' G' (by simp) hdf (Inv.ptrs M hI.ext hI.store fun t k o ht=>?_) ?_
    . have:=hI.env.v t;rw [ht] at this;exact this
    . intro w0 G0 vs a1 a2 a3 a4 a5
      refine (hvc w0 G0 vs a1 a2 a3 a4 a5).mono fun e u' w' hpost=>?_
      obtain⟨x,σ',G',⟨rfl,hr,hk⟩,hrest⟩:=hpost
      exact⟨x,σ',G',⟨rfl,hr,hk⟩,hrest⟩
   cases e with
   |normal =>
    obtain⟨h1,h2,st',G',hk3,h4⟩:=hp
    obtain⟨st3,G3,h3,h5⟩:=hk3 w1 G1 _ w' G' hN2 h4
    exact ends st3 G3 h5 h2 h3
   |ret =>
    obtain⟨h1,h2,st',G',h3,h4⟩:=hp
    exact ends st' G' h4 h2 h3
   |exit id=>obtain⟨_,_,_,_,h3,_⟩:=hp;exact h3
   |panic c =>
    obtain⟨h1,st',G',h2,h3,h4,h5⟩:=hp
    exact fin (.panicking c) st' G' (by simp) h1 (Inv.ptrs M h3 h4 h5) h2
   |goto l=>exact hp
   |outgrown=>exact hp.elim
 . intro e a' w' hne hp
   cases e with
   |normal=>exact absurd rfl hne
   |ret =>
    obtain⟨h1,h2,st',G',h3,h4⟩:=hp
    show Leaves P fn a'.tmps _ a'.defers .returning w'
    rw [h2]
    exact LX hN h4 h3
   |exit id=>obtain⟨_,_,_,_,h3,_⟩:=hp;exact h3
   |panic c =>
    obtain⟨h1,st',G',h2,h3,h4⟩:=hp
    show Leaves P fn a'.tmps _ a'.defers (.panicking c) w'
    rw [h1]
    exact MX (p:=.undef) h3 h4 hN h2 rfl (fun r e=>by cases e)
   |goto l=>exact hp
   |outgrown=>exact hp.elim
theorem PS {o:Oper}{next:Act->World->Prop}{Q:Exit->Act->World->Prop}{next':Act->World->Prop}{Q':Exit->Act->World->Prop}(hn:∀ a w,next a w->next' a w)(hq:∀ e a w,Q e a w->Q' e a w){r:Result Next}
 (h:o.upon P a next Q r):o.upon P a next' Q' r:=by
 unfold Oper.upon at h ⊢
 split at h
 . exact hn _ _ h
 . exact hn _ _ h
 . exact hn _ _ h
 . refine Calls.mono h fun e w' h=>?_
   cases e with
   |returned v=>exact hn _ _ h
   |panicked c=>exact hq _ _ _ h
   |outgrown=>obtain⟨a,w,h⟩:=h;exact⟨a,w,hq _ _ _ h⟩
 . exact Rows.mono h fun v w' h=>hn _ _ h
 . exact hq _ _ _ h
 . exact h.elim
theorem OJ {ops:Array Oper}{Q Q':Exit->Act->List Frame->World->Prop}(hq:∀ e a cs w,Q e a cs w->Q' e a cs w):∀ (l:List Nat) (a:Act) (cs:List Frame) (w:World),wpOpsS P ops Q l a cs w->wpOpsS P ops Q' l a cs w
 | [],a,cs,w,h=>by unfold wpOpsS at h ⊢;exact hq _ _ _ _ h
 |i::l,a,cs,w,h=>by
  have ih:=fun a cs w=>OJ (ops:=ops) hq l a cs w
  unfold wpOpsS at h ⊢
  split at h
  . exact ih _ _ _ h
  . split at h
    . rename_i hw
      rw [Ç hw]
      split at h
      . split at h
        . exact ih _ _ _ h
        . exact ih _ _ _ h
      . exact PS (fun a w h=>ih a cs w h) (fun e a w h=>hq _ _ _ _ h) h
    . rename_i hw
      rw [Ä hw]
      exact ih _ _ _ h
theorem RU {ops:Array Oper}{Q:Exit->Act->World->Prop}(hQ:¬ LetsOut Q)(cs:List Frame):∀ (l:List Oper) (k:Nat) (a:Act) (w:World),(∀ j,l[j]?=ops[k+j]?)->wpList P ops Q l a w->wpOpsS P ops (fun e a' cs' w'=>cs'=cs/\Q e a' w') (List.range' k l.length) a cs w
 | [],k,a,w,_,h=>by
  show wpOpsS P ops _ [] a cs w
  unfold wpOpsS
  exact⟨rfl,h⟩
 |o::l,k,a,w,hj,h=>by
  have h0:ops[k]?=some o:=by simpa using (hj 0).symm
  have hj':∀ j,l[j]?=ops[k+1+j]?:=fun j=>by have:=hj (j+1);simpa [Ĳ,Nat.add_comm 1 j] using this
  have ih:=fun a w=>RU hQ cs l (k+1) a w hj'
  rw [ß,List.range'_succ]
  unfold wpOpsS
  unfold wpList at h
  simp only [h0]
  split at h
  . rename_i hw
    rw [Ç hw]
    rcases h with h|⟨_,h⟩
    . unfold Oper.wp at h
      split
      . rename_i w' hr
        rw [hr] at h;exact h.elim
      . exact PS (Q':=fun e a' w'=>True/\Q e a' w') (fun a w h=>ih a w h) (fun e a w h=>⟨trivial,h⟩) h
    . exact absurd h hQ
  . rename_i hw
    rw [Ä hw]
    exact ih _ _ h
theorem SH.intro {f:FuncId}{fn:Func}{b:Code}{id:Nat}{ops:Array Oper}{ro:Oper}{rest:List Oper}{d1:Nat}{args:List PV}{σ:List (List PV)}{u u1:FrameMode}{rv:Value}{Q:Cl->FrameMode->List (List PV)->Prop}(L:Cf)
 (hf:P.funcs[f]?=some fn) (hb:fn.body=some (.seq (.region id ops false) b)) (hm:P.follows .mixedOrders=true) (hops:ops.toList=ro::rest) (hrun:∀ (ρ:Operand->Value) (w:World),(execOp ρ ro).run P w=.ok .recover w)
 (hrd:ro.dst=some d1) (hrg:ro.guard=none)
 (hu:(u=.returning/\rv=.nilIface/\u1=u)∨∃ older,u=.panicking ({ v:=rv,recovered:=false,goexit:=false }::older)/\u1=.panicking ({ v:=rv,recovered:=true }::older))
 (hok:(Cn L.pl fn.ntmps b&&(Cn [] fn.ntmps (.region id ops false)&&(decide (d1<fn.ntmps)&&decide (args.length<=fn.ntmps))))=true)
 (h:B5 P ops (fun x st=>match x with
  |.normal=>WS P L σ.length [.code b,.code .ret] (CI P fn σ.length (fun y σ'=>Q y u1 σ')) st
  |x=>CI P fn σ.length (fun y σ'=>Q y u1 σ') x st) rest ((IQ args σ).put (some d1) (.lit rv))):SH P f args σ u Q:=by
 simp only [Å,Î] at hok
 obtain⟨hokb,hokr,hd1,hn⟩:=hok
 intro w G vs hst hvs hv hΩ hgl
 refine callsD_of_wpS hf hb fun c₀ cs hc₀=>wpS_seq (wpS_region ?_)
 have hsz:(vs++Array.replicate (fn.ntmps-vs.size) Go.undef).size=fn.ntmps:=by simp;omega
 have hget:∀ t,(IQ args σ).get t=match args[t]? with|some p=>Bg p|none=>.undef:=by
  intro t
  show Cs (args.zipIdx.map fun x=>(x.2,Bg x.1)) t=_
  rw [L9 args 0 t];simp;rfl
 have hinv:Inv w G (IQ args σ) (AH { tmps:=vs++Array.replicate (fn.ntmps-vs.size) Go.undef,defers:=[] }) w G:=by
  refine⟨Ext.refl _ _,hst,⟨fun t=>?_,fun t=>?_⟩⟩
  . rw [hget]
    cases e:args[t]? with
    |none=>exact .undef _ _
    |some p =>
     have ht:=List.getElem?_eq_some_iff.1 e
     have:=hv t ht.1
     rw [ht.2] at this
     have e2:AH { tmps:=vs++Array.replicate (fn.ntmps-vs.size) Go.undef,defers:=[] } t=vs.getD t Go.undef:=by
      show (vs++_).getD t Go.undef=_
      rw [É,ö (by rw [hvs];exact ht.1),É]
     rw [e2];exact C2 this
  . rw [hget]
    cases e:args[t]? with
    |none=>trivial
    |some p=>exact E9 (Br p) _ _ _ _
 have hN:G.φ.length=σ.length:=hst.len
 generalize hA:({ tmps:=vs++Array.replicate (fn.ntmps-vs.size) Go.undef,defers:=[] }:Act)=a0 at hinv ⊢
 have ha0:a0.tmps.size=fn.ntmps:=by rw [<- hA];exact hsz
 have had:a0.defers=[]:=by rw [<- hA]
 have hsize:ops.size=rest.length+1:=by rw [<- Array.length_toList,hops];rfl
 have hop0:ops[0]?=some ro:=by rw [<- ĉ,hops];rfl
 have hopj:∀ j,rest[j]?=ops[1+j]?:=fun j=>by rw [<- ĉ,hops,Nat.add_comm];rfl
 have hd2:∀ o∈rest,∀ d,o.dst=some d->d<fn.ntmps:=fun o ho d hdd=>by
  simp only [Cn,Å,Û] at hokr
  have:=hokr.1 o (by rw [hops];simp [ho]);rw [hdd] at this;simpa using this
 have hI:Inv w G ((IQ args σ).put (some d1) (.lit rv)) (AH (a0.put (some d1) rv)) w G:=by
  rw [Bq (by rw [ha0];exact hd1)];exact hinv.putPlain d1 (.lit _ _) rfl
 have hl:=EI (P:=P) (ops:=ops) (n:=fn.ntmps) (ds:=[]) hgl rest _ (a0.put (some d1) rv) w G hI (by rw [put_defers];exact had) (by rw [B0];exact ha0) hd2 h
 rw [hsize,List.range_eq_range',List.range'_succ]
 unfold wpOpsS
 simp only [hop0]
 have hwant:Region.wanted ro (yielded ops a0.tmps)=true:=by unfold Region.wanted;rw [hrg]
 rw [Ç hwant,hrun]
 simp only
 have key:wpOpsS P ops (Exit.thenS (b.wpS P (bodyPostS P fn c₀ cs fun e u' w'=>∃ x σ' G',Q x u' σ'/\Dq w' G' x e/\Az w' G' σ'/\Ext w G w' G')) (bodyPostS P fn c₀ cs fun e u' w'=>∃ x σ' G',Q x u' σ'/\Dq w' G' x e/\Az w' G' σ'/\Ext w G w' G'))
  (List.range' (0+1) rest.length) (a0.put (some d1) rv) ({ c₀ with mode:=u1 }::cs) w:=by
  have hout:¬ LetsOut (CG [] w G fn.ntmps fun x st=>match x with
   |.normal=>WS P L σ.length [.code b,.code .ret] (CI P fn σ.length (fun y σ'=>Q y u1 σ')) st
   |x=>CI P fn σ.length (fun y σ'=>Q y u1 σ') x st):=fun ⟨_,_,h⟩=>h
  have hS:=RU (P:=P) (ops:=ops) hout ({ c₀ with mode:=u1 }::cs) rest 1 _ w hopj hl
  have ends:∀ e a' w',e≠.normal∨True->CG [] w G fn.ntmps (wkK σ.length (CI P fn σ.length (fun y σ'=>Q y u1 σ'))) e a' w' ->
   bodyPostS P fn c₀ cs (fun e u' w'=>∃ x σ' G',Q x u' σ'/\Dq w' G' x e/\Az w' G' σ'/\Ext w G w' G') e a' ({ c₀ with mode:=u1 }::cs) w':=by
   intro e a' w' _ hp
   cases e with
   |normal =>
    obtain⟨h1,h2,st',G',hk3,h4⟩:=hp
    obtain⟨st3,G3,h3,h5⟩:=hk3 w G _ w' G' (Ă hN) h4
    exact⟨h2,u1,rfl,LX hN h5 h3⟩
   |ret =>
    obtain⟨h1,h2,st',G',hk3,h4⟩:=hp
    obtain⟨st3,G3,h3,h5⟩:=hk3 w G _ w' G' (Ă hN) h4
    exact⟨h2,u1,rfl,LX hN h5 h3⟩
   |exit id =>
    obtain⟨h1,h2,st',G',hk3,h4⟩:=hp
    obtain⟨_,_,h3,_⟩:=hk3 w G _ w' G' (Ă hN) h4
    exact h3
   |panic c =>
    obtain⟨h1,st',G',h2,h3,h4⟩:=hp
    exact⟨h1,u1,rfl,MX (p:=.undef) h3 h4 hN h2 rfl (fun r e=>by cases e)⟩
   |goto l=>exact hp
   |outgrown=>exact hp.elim
  refine OJ ?_ _ _ _ _ hS
  rintro e a' cs' w' ⟨rfl,hp⟩
  cases e with
  |normal =>
   obtain⟨h1,h2,st',G',hq,h4⟩:=hp
   obtain⟨st3,G3,h3,h5⟩:=Rz hq w G _ w' G' (Ă hN) h4
   refine wpS_of_wp (wp_mono (TW hgl hm (Ă hN) b _ st3 a' w' G3 hokb h5 h2 h1 h3) fun e a2 w2 hp2=>ends e a2 w2 (.inr trivial) hp2)
  |exit id=>obtain⟨_,_,_,_,h3,_⟩:=hp;exact h3.elim
  |ret=>obtain⟨h1,h2,st',G',h3,h4⟩:=hp;exact ends .ret a' w' (.inr trivial) ⟨h1,h2,st',G',VN .ret st' h3,h4⟩
  |panic c=>obtain⟨h1,st',G',h2,h3⟩:=hp;exact ends (.panic c) a' w' (.inr trivial) ⟨h1,st',G',h2,h3⟩
  |goto l=>exact hp.elim
  |outgrown=>exact hp.elim
 have hcs:∀ m,c₀.mode=m->({ c₀ with mode:=m }:Frame)=c₀:=fun m e=>by subst e;rfl
 rcases hu with⟨rfl,rfl,rfl⟩|⟨older,rfl,rfl⟩
 . have e:recoverD (c₀::cs)=none:=by simp [recoverD,hc₀]
   rw [e]
   simp only
   rw [hrd]
   rw [hcs _ hc₀] at key
   exact key
 . have e:recoverD (c₀::cs)=some (rv,{ c₀ with mode:=.panicking ({ v:=rv,recovered:=true }::older) }::cs):=by simp [recoverD,hc₀]
   rw [e]
   simp only
   rw [hrd]
   exact key
theorem SH.mono {f:FuncId}{args:List PV}{σ:List (List PV)}{u:FrameMode}{Q Q':Cl->FrameMode->List (List PV)->Prop}(h:SH P f args σ u Q)(hq:∀ x u' σ',Q x u' σ'->Q' x u' σ'):SH P f args σ u Q' :=
 fun w G vs h1 h2 h3 h4 h5=>(h w G vs h1 h2 h3 h4 h5).mono fun _ _ _ ⟨x,σ',G',q,r⟩=>⟨x,σ',G',hq _ _ _ q,r⟩
end
end Go.Vl
namespace Go.Sp
open Go Go.RowKit Go.Q Go.Vl
def Ab8 (M:List Nat):Option (Prop×Rn)->Option (Prop×(List PanicEntry×St))
 |some (p,.pan c st)=>some (p,(c,Ii M st st.σ))
 |_=>none
theorem Yy {M:List Nat}{x:Option (Prop×Rn)}{p:Prop}{c:List PanicEntry}{S:St}(h:Ab8 M x=some (p,(c,S))):∃ st,x=some (p,.pan c st)/\Ii M st st.σ=S:=by
 unfold Ab8 at h
 all_goals grind [Ab8]
theorem VF {P:Program}{L:Cf}{N N0:Nat}{k:List TI}{fn:Func}{fd:FuncId}{caps:List PV}{Q:Cl->List (List PV)->Prop}{st:St}{i:Nat}{ops:Array Oper}{d:Bool}(M:List Nat)(qs:List Ir){c:List PanicEntry}(S:St){p:Prop}(hp:p)
 (he:Ab8 M (Qk P ops ops.toList qs st)=some (p,(c,S))) (hn:DH L.pl i=none) (h:WZ M P fn N0 fd caps Q (.pan c) S):WS P L N (.code (.region i ops d)::k) (WZ M P fn N0 fd caps Q) st:=by
 obtain⟨st1,e,rfl⟩:=Yy he
 refine Iq hn ?_
 intro K' _ hP
 refine G9 e hp (hP _ _ ?_)
 have h:SH P fd caps st1.σ (.panicking c) fun y u' σ'=>settle u'=.returning/\(∃ r,y=.ret r)/\CI P fn N0 Q .ret (Ii M (Ii M st1 st1.σ) σ'):=h
 exact h.mono fun x u' σ' hx=>by rw [Z1] at hx;exact hx
theorem J1.finP {P:Program}{f:FuncId}{args:List PV}{σ σ1:List (List PV)}{c:List PanicEntry}(h:∀ Q:Cl->List (List PV)->Prop,Q (.pan c) σ1->VC P f args σ Q):J1 P f args σ (.pan c) σ1:=h _ ⟨rfl,rfl⟩
theorem Aft {P:Program}{L:Cf}{N:Nat}{c1 c2:Code}{Q:AX->St->Prop}{l:List Oper}{ops:Array Oper}{st:St}(L0 M:List Nat)(qs:List Ir)(S:St){p:Prop}(hp:p)
 (he:(Vn M st.σ.length L0 (Qk P ops l qs st),Nat.ble N st.σ.length)=(some (p,S),true)) (h:WS P L N [.code c1,.code c2] Q S):B5 P ops (fun x st=>match x with
  |.normal=>WS P L N [.code c1,.code c2] Q st
  |x=>Q x st) l st:=by
 obtain⟨h1,h2⟩:=Ó he
 obtain⟨st1,e,rfl⟩:=Mf h1
 refine G9 e hp ?_
 exact Ry rfl (Wk.trans (Wk.clr N L0 st1) (Wk.low (Ø h2))) h
end Go.Sp
