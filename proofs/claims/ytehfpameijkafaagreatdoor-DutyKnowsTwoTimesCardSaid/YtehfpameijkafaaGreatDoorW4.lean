/-
  Statements whose order Go leaves open. No program. Code, and whole functions. No program. Whole functions. No program. Walking code, in plain values: what is left is a list. No program. What the walks rewrite by. No program. Library calls, as calls in plain values. No program. A method proved at one place, used at a place among more. No program. Library calls that answer by a struct of literals; contracts that say less. No program. From calls in plain values back to calls in memory. No program. What the rows' condition says of the program's own variables; the rows' common parts.
-/
import Derived.Laws.IdiomStrings
import Derived.Test.YtehfpameijkafaaGreatDoorRows
import Derived.Test.YtehfpameijkafaaGreatDoorChecked
import Derived.Stop.LaidErr
import Derived.Lib.LaidTab
import Derived.Test.YtehfpameijkafaaGreatDoorW1
import Derived.Test.YtehfpameijkafaaGreatDoorW3
set_option linter.unusedVariables false
set_option linter.unusedSimpArgs false
namespace Go.Vl
open Go Go.RowKit Go.Q
def SA (ops:Array Oper)(i:Nat):Nat:=((ops[i]?).map F7).getD 2
def late (ops:Array Oper)(m:List Nat)(i:Nat):Bool:=(List.range ops.size).any fun j=>(m.getD i 0).testBit j&&SA ops j == 2
def Im (ops:Array Oper):List Nat:=(List.range ops.size).map fun i=>if SA ops i=1/\late ops (Sn ops) i=true then 2 else SA ops i
def UZ (o:Oper):Bool :=
 match o.op with
 |.store _ _ _=>true
 |.mapUpdate _ _ _ _=>true
 |.insert _ _ _ _=>true
 |.call c=>match c.callee with
  |.builtin .append=>false
  |.builtin .len=>false
  |.builtin .min=>false
  |.builtin .max=>false
  |_=>true
 |_=>false
def Mv (ops:Array Oper)(i:Nat):Bool:=((ops[i]?).map UZ).getD true
def Mj (ops:Array Oper):Bool :=
 Region.noSelect ops&&(ZD ops (Im ops) (List.range ops.size) (Array.replicate ops.size false) &&
  ((List.range ops.size).all (fun i=>cl (Im ops) i != 1||(List.range i).all fun j=>cl (Im ops) j != 2) &&
   (List.range ops.size).all fun j=>cl (Im ops) j != 2||(!Ep ops (Im ops) j||(!Mv ops j&&(List.range j).all fun k=>!Mv ops k))))
def WW (ops:Array Oper):Bool:=Mj ops&&ops.toList.all fun o=>!UY o
theorem Qu {P:Program}{o:Oper}{st:St}{X:Value->Prop}{Y:St->Prop}(hp:UY o=false)(he:match Mz o st with|some v=>X v|none=>RN P o st Y):False:=by
 grind [UY,Mz,RN]
section
variable {w w' w0 ws:World} {G G' G0 Gs:Gh} {P:Program} {st st':St} {a:Act} {o:Oper} {n:Nat} {ops:Array Oper} {K:AX->St->Prop} {ds:List Deferred}
theorem Re {i:Nat}(hi:i<ops.size)(ho:ops[i]?=some o):cl (Im ops) i=2∨cl (Im ops) i=F7 o:=by
 grind [cl,Im,List.range,SA,late,Sn,List.getD]
theorem MW {x:FuncId×List PV}(h:EU P o st=some x):F7 o=2:=by
 grind [EU,F7]
theorem Inv.at_ (h:Inv w0 G0 st (AH a) w G):Inv w G st (AH a) w G:=⟨Ext.refl _ _,h.store,h.env⟩
theorem Inv.since (h:Inv ws Gs st (AH a) w G)(hx:Ext w0 G0 ws Gs):Inv w0 G0 st (AH a) w G:=⟨hx.trans h.ext,h.store,h.env⟩
theorem CG.since {e:Exit}(h:CG ds ws Gs n K e a w)(hx:Ext w0 G0 ws Gs):CG ds w0 G0 n K e a w:=by
 cases e with
 |normal=>obtain⟨h1,h2,st,G,h3,h4⟩:=h;exact⟨h1,h2,st,G,h3,h4.since hx⟩
 |exit id=>obtain⟨h1,h2,st,G,h3,h4⟩:=h;exact⟨h1,h2,st,G,h3,h4.since hx⟩
 |ret=>obtain⟨h1,h2,st,G,h3,h4⟩:=h;exact⟨h1,h2,st,G,h3,h4.since hx⟩
 |panic c=>obtain⟨h1,st,G,h2,h3,h4⟩:=h;exact⟨h1,st,G,h2,hx.trans h3,h4⟩
 |_=>exact h
theorem Qo (h:Ext ws Gs w G)(hk:∀ b∈Gs.φ,w.heap[b]?=ws.heap[b]?):Reads ws Gs w:=⟨fun b i hu=>(h.cells b i hu).2,hk⟩
def F5 (l:List PV):Bool:=l.all PV.pure
def Gn:Cl->Bool
 |.ret r=>r.pure
 |.pan _=>true
theorem Yw {f:FuncId}{args:List PV}{σ:List (List PV)}{Q:Cl->Prop}{vs:Array Value}(hc:VC P f args [] fun x _=>Gn x=true/\Q x)(hp:F5 args=true)(hs:Az w G σ)(hgl:C8 w G)(hvs:vs.size=args.length)(hv:∀ i (h:i<args.length),V w G.U G.φ args[i] (vs.getD i Go.undef)) :
 Calls P f vs w fun e w'=>∃ x G',Q x/\Dq w' G' x e/\Az w' G' σ/\Ext w G w' G'/\∀ k,k<w.heap.size->w'.heap[k]?=w.heap[k]?:=by
 have hargs:∀ i (h:i<args.length),V w G.U [] args[i] (vs.getD i Go.undef):=fun i h=>(hv i h).pure (by
  unfold F5 at hp
  rw [Û] at hp
  exact hp _ (Ú h))
 refine (hc w { U:=G.U,φ:=[],Ω:=fun _=>none } vs ⟨rfl,by simp,fun k b cs h1=>by simp at h1,hs.ub,fun b hb=>absurd rfl hb⟩ hvs hargs (fun b l h=>by cases h) ⟨hgl.1,fun b hb=>⟨(hgl.2 b hb).1,by simp,rfl⟩⟩).mono fun e w' hpost=>?_
 obtain⟨x,σ',G',⟨hpe,hq⟩,hend,hs',hx⟩:=hpost
 have hall:∀ k,k<w.heap.size->w'.heap[k]?=w.heap[k]?:=fun k hk=>hx.frame k hk (by simp) rfl
 have hcell:∀ b i,G.U b i->G'.U b i/\Kp w w' b i:=hx.cells
 have hnewU:∀ b i,G'.U b i->G.U b i∨w.heap.size<=b:=fun b i hu=>by
  rcases hx.newU b i hu with h|h|h
  . exact .inl h
  . exact .inr h
  . exact absurd rfl h
 have hnewΩ:∀ b,G'.Ω b≠none->w.heap.size<=b:=fun b hb=>by
  rcases hx.newΩ b hb with h|h
  . exact h
  . exact absurd rfl h
 refine⟨x,{ U:=G'.U,φ:=G.φ,Ω:=fun b=>if b<w.heap.size then G.Ω b else G'.Ω b },hq,?_,⟨hs.len,hs.nodup,fun k b cs h1 h2=>?_,fun b i hu=>hs'.ub b i hu,fun b hb=>?_⟩,?_,hall⟩
 . cases x with
   |ret r =>
    obtain⟨v,h1,h2,h3⟩:=hend
    refine⟨v,h1,h2.pure hpe,?_⟩
    have to:∀ i xs u,A0 w' G' (.ret i) xs u->A0 w' { U:=G'.U,φ:=G.φ,Ω:=fun b=>if b<w.heap.size then G.Ω b else G'.Ω b } (.ret i) xs u:=fun i xs u ho=>ho.to rfl (fun b hb=>by
     have:=hnewΩ b (by rw [hb];simp)
     show (if b<w.heap.size then G.Ω b else G'.Ω b)=_
     rw [Ä (by omega)];exact hb)
    unfold Hg at h3 ⊢
    split
    . exact to _ _ _ h3
    . exact h3
    . exact h3
    . grind [F5,Hg,Ck]
    . trivial
   |pan c=>exact hend
 . obtain⟨⟨T,arr,h3,h4,h5⟩,h6⟩:=hs.blk k b cs h1 h2
   have hb:b<w.heap.size:=(Array.getElem?_eq_some_iff.1 h3).1
   refine⟨⟨T,arr,(hall b hb).trans h3,⟨h4.1.mono hcell,h4.2⟩,fun j c hc=>?_⟩,fun i hu=>?_⟩
   . obtain⟨v,h7,h8,h9,h10⟩:=h5 j c hc
     refine⟨v,h7,h8,h9.mono hcell (fun _ _ h=>h),?_⟩
     unfold Ck at h10 ⊢
     split
     . refine A0.keep h10 fun b2 hb2=>?_
       have hlt:=(hs.ob b2 (by rw [hb2];simp)).1
       refine⟨by show (if b2<w.heap.size then G.Ω b2 else G'.Ω b2)=_;rw [Ç hlt];exact hb2,hall b2 hlt,fun i hu=>?_⟩
       rcases hnewU b2 i hu with h|h
       . exact h
       . omega
     . refine BC.keep h10 fun b2 hb2=>?_
       have hlt:=(hs.ob b2 (by rw [hb2];simp)).1
       refine⟨by show (if b2<w.heap.size then G.Ω b2 else G'.Ω b2)=_;rw [Ç hlt];exact hb2,hall b2 hlt,fun i hu=>?_⟩
       rcases hnewU b2 i hu with h|h
       . exact h
       . omega
     . trivial
   . rcases hnewU b i hu with h|h
     . exact h6 i h
     . omega
 . have h2:(if b<w.heap.size then G.Ω b else G'.Ω b)≠none:=hb
   by_cases hlt:b<w.heap.size
   . rw [Ç hlt] at h2
     have:=hs.ob b h2
     exact⟨ò this.1 hx.size,this.2⟩
   . rw [Ä hlt] at h2
     exact⟨(hs'.ob b h2).1,fun hm=>hlt (hs.lt hm)⟩
 . refine⟨hx.os,hx.tape,hx.output,hx.size,fun k hk _ _=>hall k hk,hcell,fun b i hu=>?_,fun b hb=>?_,[],by simp,by simp⟩
   . rcases hnewU b i hu with h|h
     . exact .inl h
     . exact .inr (.inl h)
   . grind [F5,Hg,Ck]
theorem VC.pure {f:FuncId}{args:List PV}{σ:List (List PV)}{Q:Cl->Prop}(hc:VC P f args [] fun x _=>Gn x=true/\Q x)(hp:F5 args=true):VC P f args σ fun x σ'=>Q x/\σ'=σ:=by
 intro w G vs hs hvs hv _ hgl
 exact (Yw hc hp hs hgl hvs hv).mono fun e w' ⟨x,G',h1,h2,h3,h4,_⟩=>⟨x,σ,G',⟨h1,rfl⟩,h2,h3,h4⟩
end
def Qy:Grow->Grow
 |.view _=>.shared
 |g=>g
mutual
def PV.shift (n:Nat):PV->PV
 |.lit v=>.lit v
 |.agg cs=>.agg (PV.shiftL n cs)
 |.tup cs=>.tup (PV.shiftL n cs)
 |.sl xs g=>.sl xs (Qy g)
 |.ptr b o=>.ptr (b+n) o
 |.vptr cs o=>.vptr cs o
 |.fn f caps=>.fn f (PV.shiftL n caps)
 |.fno b f caps=>.fno b f caps
 |.fnb f caps=>.fnb f caps
 |.ifc=>.ifc
 |.mref b=>.mref (b+n)
 |.mp kvs=>.mp kvs
 |.vmp kvs=>.vmp kvs
 |.mit kvs seen=>.mit kvs seen
 |.dis f=>.dis f
 |.asl b o m cap=>.asl (b+n) o m cap
 |.prv xs=>.prv xs
 |.undef=>.undef
def PV.shiftL (n:Nat):List PV->List PV
 | []=>[]
 |p::ps=>p.shift n::PV.shiftL n ps
end
theorem Em (n:Nat):∀ cs:List PV,(PV.shiftL n cs).length=cs.length
 | []=>rfl
 |p::ps=>by rw [PV.shiftL,ß,ß,Em n ps]
theorem shiftL_get? (n:Nat):∀ (cs:List PV) (i:Nat),(PV.shiftL n cs)[i]?=(cs[i]?).map (PV.shift n)
 | [],i=>by simp [PV.shiftL]
 |p::ps,0=>by simp [PV.shiftL]
 |p::ps,i+1=>by simp only [PV.shiftL,List.getElem?_cons_succ];exact shiftL_get? n ps i
theorem Kk (n:Nat)(cs:List PV)(i:Nat)(h:i<(PV.shiftL n cs).length):(PV.shiftL n cs)[i]=(cs[i]'(by rw [<- Em n];exact h)).shift n:=by
 have h1:=shiftL_get? n cs i
 rw [Ã h,Ã (by rw [<- Em n];exact h)] at h1
 exact Af h1
theorem Sa {n:Nat}{p:PV}{xs:List (List PV)}(h:p.shift n=.sl xs .own):p=.sl xs .own:=by
 cases p with
 |sl ys g =>
  rw [PV.shift] at h
  injection h with h1 h2
  subst h1
  cases g<;>simp_all [Qy]
 |_=>rw [PV.shift] at h;cases h
theorem Ys {n:Nat}{p:PV}{xs:List (List Value)}(h:p.shift n=.prv xs):p=.prv xs:=by
 cases p with
 |prv ys=>rw [PV.shift] at h;exact h
 |_=>rw [PV.shift] at h;cases h
def FK (n:Nat):Loc->Loc
 |.cell k j=>.cell (k+n) j
 |l=>l
def Cl.shift (n:Nat):Cl->Cl
 |.ret r=>.ret (r.shift n)
 |.pan c=>.pan c
section
variable {w w':World} {U:Nat->Nat->Prop} {φ:List Nat} {p:PV} {v:Value} {n:Nat} {G G':Gh} {P:Program}
theorem V.shift (h:V w U φ p v):∀ {φ':List Nat},(∀ (k x:Nat),φ[k]?=some x->φ'[k+n]?=some x)->V w U φ' (p.shift n) v:=by
 induction h with
 |lit φ v=>intro φ' _;exact .lit _ _
 |agg φ cs arr hn h h1 ih=>intro φ' hφ;rw [PV.shift];exact .agg _ _ _ (by rw [Em];exact hn) (fun i hi=>by rw [Kk];exact ih i (by rw [<- Em n];exact hi) hφ) h1
 |tup φ cs arr hn h ih=>intro φ' hφ;rw [PV.shift];exact .tup _ _ _ (by rw [Em];exact hn) (fun i hi=>by rw [Kk];exact ih i (by rw [<- Em n];exact hi) hφ)
 |nil φ g=>intro φ' _;exact .nil _ _
 |emp φ g b o k hg=>intro φ' _;exact .emp _ _ _ _ _ (fun e=>hg (by cases g<;>simp_all [Qy]))
 |sl φ xs g b o sz cap us hc hm hs hU' hw h1 hv hf hg ih=>intro φ' _;rw [PV.shift];exact .sl _ _ _ b o sz cap us hc hm hs hU' hw h1 hv (fun e=>hf (by cases g<;>simp_all [Qy])) (fun e=>hg (by cases g<;>simp_all [Qy]))
 |ptr φ b o k h=>intro φ' hφ;rw [PV.shift];exact .ptr _ _ _ _ (hφ _ _ h)
 |prv φ xs A cap=>intro φ' _;rw [PV.shift];exact .prv _ _ _ _
 |asl φ b o m cap k h hc hm=>intro φ' hφ;rw [PV.shift];exact .asl _ _ _ _ _ _ (hφ _ _ h) hc hm
 |vptr φ cs b o' o us hU' hw h1 hv ih=>intro φ' _;rw [PV.shift];exact .vptr _ _ _ _ _ us hU' hw h1 hv
 |fn φ f caps arr hn h ih=>intro φ' hφ;rw [PV.shift];exact .fn _ _ _ _ (by rw [Em];exact hn) (fun i hi=>by rw [Kk];exact ih i (by rw [<- Em n];exact hi) hφ)
 |fno φ f caps arr hn h ih=>intro φ' _;rw [PV.shift];exact .fno _ _ _ _ hn h
 |fnb φ f caps arr hn h ih=>intro φ' _;rw [PV.shift];exact .fnb _ _ _ _ hn h
 |nof φ f caps=>intro φ' _;rw [PV.shift];exact .nof _ _ _
 |ifc φ t v=>intro φ' _;exact .ifc _ _ _
 |mref φ b k h=>intro φ' hφ;rw [PV.shift];exact .mref _ _ _ (hφ _ _ h)
 |mp φ kvs v=>intro φ' _;exact .mp _ _ _
 |vmp φ kvs b es c hu hw hk hs=>intro φ' _;exact .vmp _ _ b es c hu hw hk hs
 |mit φ kvs seen v=>intro φ' _;exact .mit _ _ _ _
 |dis φ f i v h ih=>intro φ' hφ;exact .dis _ _ i _ (by have:=ih hφ;rw [PV.shift] at this;exact this)
 |undef φ v=>intro φ' _;exact .undef _ _
theorem YD (n:Nat)(p:PV):(p.shift n).isM=p.isM:=by
 cases p<;>rw [PV.shift]<;>rfl
theorem Lay.shift {o:Obj}{arr:Array Value}{cs:List PV}(h:Lay w U o arr cs)(n:Nat):Lay w U o arr (PV.shiftL n cs):=by
 rcases h with⟨h1,h2⟩|⟨kvs,es,c,rfl,h2,h3⟩|⟨kvs,seen,rfl,h2⟩
 . refine .inl ⟨h1,fun p hp=>?_⟩
   obtain⟨i,hi,rfl⟩:=ø hp
   rw [Kk,YD]
   exact h2 _ (Ú _)
 . exact .inr (.inl ⟨kvs,es,c,by simp [PV.shiftL,PV.shift],h2,h3⟩)
 . exact .inr (.inr ⟨kvs,seen,by simp [PV.shiftL,PV.shift],h2⟩)
theorem O4 {f:FuncId}{args:List PV}{σ:List (List PV)}{Q:Cl->List (List PV)->Prop}{vs:Array Value}(hc:VC P f args [] Q)(hp:F5 args=true)(hs:Az w G σ)(hgl:C8 w G)(hvs:vs.size=args.length)(hv:∀ i (h:i<args.length),V w G.U G.φ args[i] (vs.getD i Go.undef)) :
 Calls P f vs w fun e w'=>∃ x σ' G',Q x σ'/\Dq w' G' (x.shift σ.length) e/\Az w' G' (σ++σ'.map (PV.shiftL σ.length))/\Ext w G w' G'/\∀ k,k<w.heap.size->w'.heap[k]?=w.heap[k]?:=by
 have hargs:∀ i (h:i<args.length),V w G.U [] args[i] (vs.getD i Go.undef):=fun i h=>(hv i h).pure (by
  unfold F5 at hp
  rw [Û] at hp
  exact hp _ (Ú h))
 refine (hc w { U:=G.U,φ:=[],Ω:=fun _=>none } vs ⟨rfl,by simp,fun k b cs h1=>by simp at h1,hs.ub,fun b hb=>absurd rfl hb⟩ hvs hargs (fun b l h=>by cases h) ⟨hgl.1,fun b hb=>⟨(hgl.2 b hb).1,by simp,rfl⟩⟩).mono fun e w' hpost=>?_
 obtain⟨x,σ',G',hq,hend,hs',hx⟩:=hpost
 have hall:∀ k,k<w.heap.size->w'.heap[k]?=w.heap[k]?:=fun k hk=>hx.frame k hk (by simp) rfl
 have hcell:∀ b i,G.U b i->G'.U b i/\Kp w w' b i:=hx.cells
 have hnewU:∀ b i,G'.U b i->G.U b i∨w.heap.size<=b:=fun b i hu=>by
  rcases hx.newU b i hu with h|h|h
  . exact .inl h
  . exact .inr h
  . exact absurd rfl h
 have hnewΩ:∀ b,G'.Ω b≠none->w.heap.size<=b:=fun b hb=>by
  rcases hx.newΩ b hb with h|h
  . exact h
  . exact absurd rfl h
 have hnewφ:∀ b∈G'.φ,w.heap.size<=b:=fun b hb=>by
  obtain⟨ψ,h1,h2⟩:=hx.phi
  rw [h1,þ] at hb
  exact (h2 b hb).resolve_right fun h=>h rfl
 have hget:∀ (k x:Nat),G'.φ[k]?=some x->(G.φ++G'.φ)[k+σ.length]?=some x:=fun k x hk=>by
  rw [<- hs.len,â (Nat.le_add_left _ _),Nat.add_sub_cancel];exact hk
 have hold:∀ (k x:Nat),G.φ[k]?=some x->(G.φ++G'.φ)[k]?=some x:=fun k x hk=>by
  rw [Ô (List.getElem?_eq_some_iff.1 hk).1];exact hk
 have toNew:∀ (l:Loc) xs u,A0 w' G' l xs u->A0 w' { U:=G'.U,φ:=G.φ++G'.φ,Ω:=fun b=>if b<w.heap.size then G.Ω b else (G'.Ω b).map (FK σ.length) } (FK σ.length l) xs u:=fun l xs u ho=>ho.to rfl (fun b hb=>by
  have:=hnewΩ b (by rw [hb];simp)
  show (if b<w.heap.size then G.Ω b else (G'.Ω b).map (FK σ.length))=_
  rw [Ä (by omega),hb];rfl)
 have toNewP:∀ (l:Loc) xs u,BC w' G' l xs u->BC w' { U:=G'.U,φ:=G.φ++G'.φ,Ω:=fun b=>if b<w.heap.size then G.Ω b else (G'.Ω b).map (FK σ.length) } (FK σ.length l) xs u:=fun l xs u ho=>ho.to rfl (fun b hb=>by
  have:=hnewΩ b (by rw [hb];simp)
  show (if b<w.heap.size then G.Ω b else (G'.Ω b).map (FK σ.length))=_
  rw [Ä (by omega),hb];rfl)
 refine⟨x,σ',{ U:=G'.U,φ:=G.φ++G'.φ,Ω:=fun b=>if b<w.heap.size then G.Ω b else (G'.Ω b).map (FK σ.length) },hq,?_,⟨?_,?_,fun k b cs h1 h2=>?_,fun b i hu=>hs'.ub b i hu,fun b hb=>?_⟩,?_,hall⟩
 . cases x with
   |ret r =>
    obtain⟨v,h1,h2,h3⟩:=hend
    refine⟨v,h1,h2.shift hget,?_⟩
    cases r with
    |sl xs g =>
     cases g with
     |own=>exact toNew (.ret 0) _ _ h3
     |view l=>exact h3.elim
     |_=>trivial
    |tup cs =>
     intro i xs hi
     have hi2:(PV.shiftL σ.length cs)[i]?=some (.sl xs .own):=hi
     rw [shiftL_get?] at hi2
     obtain⟨c,hc1,hc2⟩:=Option.map_eq_some_iff.1 hi2
     obtain rfl:=Sa hc2
     obtain⟨arr,u,k1,k2,k3⟩:=h3 i xs hc1
     exact⟨arr,u,k1,k2,toNew (.ret i) _ _ k3⟩
    |_=>trivial
   |pan c=>exact hend
 . show (G.φ++G'.φ).length=(σ++σ'.map (PV.shiftL σ.length)).length
   rw [Õ,Õ,Í,hs.len,hs'.len]
 . show (G.φ++G'.φ).Nodup
   rw [Ĕ]
   refine⟨hs.nodup,hs'.nodup,fun a ha b hb=>?_⟩
   have h1:=hs.lt ha
   have h2:=hnewφ b hb
   rintro rfl;omega
 . by_cases hk:k<σ.length
   . have h1':G.φ[k]?=some b:=by
      have:(G.φ++G'.φ)[k]?=some b:=h1
      rwa [Ô (by rw [hs.len];exact hk)] at this
     rw [Ô hk] at h2
     obtain⟨⟨T,arr,h3,h4,h5⟩,h6⟩:=hs.blk k b cs h1' h2
     have hb:b<w.heap.size:=(Array.getElem?_eq_some_iff.1 h3).1
     refine⟨⟨T,arr,(hall b hb).trans h3,⟨h4.1.mono hcell,h4.2⟩,fun j c hc=>?_⟩,fun i hu=>?_⟩
     . obtain⟨v,h7,h8,h9,h10⟩:=h5 j c hc
       refine⟨v,h7,h8,h9.mono hcell hold,?_⟩
       unfold Ck at h10 ⊢
       split
       . refine A0.keep h10 fun b2 hb2=>?_
         have hlt:=(hs.ob b2 (by rw [hb2];simp)).1
         refine⟨by show (if b2<w.heap.size then G.Ω b2 else (G'.Ω b2).map (FK σ.length))=_;rw [Ç hlt];exact hb2,hall b2 hlt,fun i hu=>?_⟩
         rcases hnewU b2 i hu with h|h
         . exact h
         . omega
       . refine BC.keep h10 fun b2 hb2=>?_
         have hlt:=(hs.ob b2 (by rw [hb2];simp)).1
         refine⟨by show (if b2<w.heap.size then G.Ω b2 else (G'.Ω b2).map (FK σ.length))=_;rw [Ç hlt];exact hb2,hall b2 hlt,fun i hu=>?_⟩
         rcases hnewU b2 i hu with h|h
         . exact h
         . omega
       . trivial
     . rcases hnewU b i hu with h|h
       . exact h6 i h
       . omega
   . obtain⟨m,rfl⟩:∃ m,k=m+σ.length:=⟨k-σ.length,by omega⟩
     have h1':G'.φ[m]?=some b:=by
      have:(G.φ++G'.φ)[m+σ.length]?=some b:=h1
      rwa [<- hs.len,â (Nat.le_add_left _ _),Nat.add_sub_cancel] at this
     rw [â (Nat.le_add_left _ _),Nat.add_sub_cancel,æ] at h2
     obtain⟨cs0,h2',rfl⟩:=Option.map_eq_some_iff.1 h2
     obtain⟨⟨T,arr,h3,h4,h5⟩,h6⟩:=hs'.blk m b cs0 h1' h2'
     refine⟨⟨T,arr,h3,⟨h4.1.shift _,by rw [Em];exact h4.2⟩,fun j c hc=>?_⟩,h6⟩
     rw [shiftL_get?] at hc
     obtain⟨c0,hc1,rfl⟩:=Option.map_eq_some_iff.1 hc
     obtain⟨v,h7,h8,h9,h10⟩:=h5 j c0 hc1
     refine⟨v,h7,h8,h9.shift hget,?_⟩
     unfold Ck
     split
     . rename_i xs hxs
       obtain rfl:=Sa hxs
       exact toNew (.cell m j) _ _ h10
     . rename_i xs hxs
       obtain rfl:=Ys hxs
       exact toNewP (.cell m j) _ _ h10
     . trivial
 . have h2:(if b<w.heap.size then G.Ω b else (G'.Ω b).map (FK σ.length))≠none:=hb
   by_cases hlt:b<w.heap.size
   . rw [Ç hlt] at h2
     have:=hs.ob b h2
     refine⟨ò this.1 hx.size,fun hm=>?_⟩
     rcases List.mem_append.1 hm with hm|hm
     . exact this.2 hm
     . have:=hnewφ b hm;omega
   . rw [Ä hlt] at h2
     have h3:=hs'.ob b (fun e=>h2 (by rw [e];rfl))
     refine⟨h3.1,fun hm=>?_⟩
     rcases List.mem_append.1 hm with hm|hm
     . exact hlt (hs.lt hm)
     . exact h3.2 hm
 . refine⟨hx.os,hx.tape,hx.output,hx.size,fun k hk _ _=>hall k hk,hcell,fun b i hu=>?_,fun b hb=>?_,G'.φ,rfl,fun b hb=>.inl (hnewφ b hb)⟩
   . rcases hnewU b i hu with h|h
     . exact .inl h
     . exact .inr (.inl h)
   . grind [FK]
theorem VC.grow {f:FuncId}{args:List PV}{σ:List (List PV)}{Q:Cl->List (List PV)->Prop}(hc:VC P f args [] Q)(hp:F5 args=true):VC P f args σ fun x σ'=>∃ y τ,Q y τ/\x=y.shift σ.length/\σ'=σ++τ.map (PV.shiftL σ.length):=by
 intro w G vs hs hvs hv _ hgl
 exact (O4 hc hp hs hgl hvs hv).mono fun e w' ⟨x,σ',G',h1,h2,h3,h4,_⟩=>⟨_,_,G',⟨x,σ',h1,rfl,rfl⟩,h2,h3,h4⟩
end
section
variable {w w' w0 ws:World} {G G' G0 Gs:Gh} {P:Program} {st st':St} {a:Act} {o:Oper} {n:Nat} {ops:Array Oper} {K:AX->St->Prop} {ds:List Deferred}
theorem Ra (hgl:C8 ws Gs)(hok:Mj ops=true)(hpan:∀ o∈ops.toList,UY o=false)(hdst:∀ o∈ops.toList,∀ d,o.dst=some d->d<n):∀ (l:List Oper) (i:Nat) (st:St) (a:Act) (w:World) (G:Gh),l=ops.toList.drop i->Inv ws Gs st (AH a) w G->a.defers=ds->a.tmps.size=n ->
 ((∃ k,i<=k/\k<ops.size/\cl (Im ops) k=1)->w=ws/\G.U=Gs.U/\G.φ=Gs.φ)->((∀ k,k<i->Mv ops k=false)->∀ b∈Gs.φ,w.heap[b]?=ws.heap[b]?) ->
 B5 P ops K l st->K6 P ops (CG ds ws Gs n K) (Reads ws Gs) (Im ops) (List.range' i l.length) a w
 | [],i,st,a,w,G,_,h,hdef,hsz,_,_,he=>⟨hsz,hdef,st,G,he,h⟩
 |o::rest,i,st,a,w,G,hl,h,hdef,hsz,hone,hkeep,he=>by
  have hi:i<ops.size:=by
   rcases Nat.lt_or_ge i ops.size with h1|h1
   . exact h1
   . rw [Đ (by simpa using h1)] at hl;cases hl
  have hil:i<ops.toList.length:=by simpa using hi
  rw [Ğ hil] at hl
  obtain⟨ho1,hrest⟩:=Ġ hl
  have ho:ops[i]?=some o:=by rw [ho1];simp [hi]
  have hmem:o∈ops.toList:=by rw [ho1];exact Ú hil
  have hdo:∀ d,o.dst=some d->d<a.tmps.size:=fun d hdd=>by rw [hsz];exact hdst o hmem d hdd
  simp only [Mj,Å,Û,List.mem_range,ú,bne_iff_ne,ç] at hok
  obtain⟨hsel,hokT,hord,hmut⟩:=hok
  have hok':Mj ops=true:=by
   simp only [Mj,Å,Û,List.mem_range,ú,bne_iff_ne,ç]
   exact⟨hsel,hokT,hord,hmut⟩
  have hmuti:Mv ops i=UZ o:=by simp [Mv,ho]
  have go:∀ (st2:St) (a2:Act) (w2:World) (G2:Gh),Inv ws Gs st2 (AH a2) w2 G2->a2.defers=ds->a2.tmps.size=n->((∃ k,i+1<=k/\k<ops.size/\cl (Im ops) k=1)->w2=ws/\G2.U=Gs.U/\G2.φ=Gs.φ)->((∀ k,k<i+1->Mv ops k=false)->∀ b∈Gs.φ,w2.heap[b]?=ws.heap[b]?) ->
   B5 P ops K rest st2->K6 P ops (CG ds ws Gs n K) (Reads ws Gs) (Im ops) (List.range' (i+1) rest.length) a2 w2 :=
   fun st2 a2 w2 G2 h1 h2 h3 h4 h5 h6=>Ra hgl hok' hpan hdst rest (i+1) st2 a2 w2 G2 hrest h1 h2 h3 h4 h5 h6
  have hone1:(∃ k,i+1<=k/\k<ops.size/\cl (Im ops) k=1)->w=ws/\G.U=Gs.U/\G.φ=Gs.φ:=fun ⟨k,h1,h2⟩=>hone ⟨k,by omega,h2⟩
  have hkeep1:(∀ k,k<i+1->Mv ops k=false)->∀ b∈Gs.φ,w.heap[b]?=ws.heap[b]?:=fun hk=>hkeep fun k hki=>hk k (by omega)
  have hlate:cl (Im ops) i=2->¬ ∃ k,i+1<=k/\k<ops.size/\cl (Im ops) k=1:=by
   grind [K6,B5,wpOp,HX,Oper.wp,Il,EU,Reads]
  have hneed:cl (Im ops) i=2->Ep ops (Im ops) i=true->Mv ops i=false/\∀ k,k<i->Mv ops k=false:=by
   grind [K6,B5,wpOp,HX,Oper.wp,Il,EU,Reads]
  rw [ß,List.range'_succ]
  unfold K6
  simp only [ho]
  unfold B5 at he
  have hc3:cl (Im ops) i=0∨cl (Im ops) i=1∨cl (Im ops) i=2:=by
   rcases Re hi ho with h1|h1
   . exact .inr (.inr h1)
   . rw [h1];exact JK o
  split at he
  . first|exact he.elim|exact (Qu (hpan o hmem) he).elim
  . rename_i hg
    have hw:=D8 h.env hg
    have hS:=h.skipPut hdo
    have hnext:=go _ _ w G hS (by rw [put_defers];exact hdef) (by rw [B0];exact hsz) hone1 hkeep1 he
    rcases hc3 with h0|h0|h0
    . rw [Ç h0]
      exact⟨Go.undef,.inr ⟨hw,rfl⟩,hnext⟩
    . rw [Ä (by omega),Ç h0]
      exact⟨Go.undef,.inr ⟨hw,rfl⟩,hnext⟩
    . rw [Ä (by omega),Ä (by omega)]
      unfold wpOp
      simp only [ho,hw]
      refine⟨fun hn=>?_,hnext⟩
      exact Qo h.ext (hkeep (hneed h0 hn).2)
  . rename_i hg
    have hw:=D8 h.env hg
    by_cases hquiet:F7 o=2
    . -- it may write
      have h0:cl (Im ops) i=2:=by
       rcases Re hi ho with h1|h1
       . exact h1
       . rw [h1];exact hquiet
      rw [Ä (by omega),Ä (by omega)]
      unfold wpOp
      simp only [ho,hw,ù]
      left
      have fin:∀ (st2:St) (v:Value) (w2:World) (G2:Gh),Inv ws Gs st2 (AH (a.put o.dst v)) w2 G2->(UZ o=false->(∀ k,k<i->Mv ops k=false)->∀ b∈Gs.φ,w2.heap[b]?=ws.heap[b]?)->B5 P ops K rest st2 ->
       (Ep ops (Im ops) i=true->Reads ws Gs w2)/\K6 P ops (CG ds ws Gs n K) (Reads ws Gs) (Im ops) (List.range' (i+1) rest.length) (a.put o.dst v) w2:=by
       intro st2 v w2 G2 hI hk hev
       refine⟨fun hn=>?_,go st2 _ w2 G2 hI (by rw [put_defers];exact hdef) (by rw [B0];exact hsz) (fun hx=>absurd hx (hlate h0)) (fun hk2=>hk ?_ (fun k hki=>hk2 k (by omega))) hev⟩
       . obtain⟨h1,h2⟩:=hneed h0 hn
         exact Qo hI.ext (hk (by rw [<- hmuti];exact h1) h2)
       . rw [<- hmuti];exact hk2 i (by omega)
      split at he
      . rename_i c st2 hop
        obtain⟨rfl,he2⟩:=he
        unfold HX at hop
        rw [Ç hquiet] at hop
        obtain⟨nx,v,w2,G2,h1,h2,h3,h4⟩:=Kw h hdo hop
        unfold Oper.wp
        rw [h1]
        have hfin:=fin st2 v w2 G2 h3 (fun hm hk b hb=>by
         have hst:Il o=false:=by
          grind [Il,UZ]
         obtain⟨ψ,hφ,_⟩:=h.ext.phi
         rw [h4 hst b (by rw [hφ];exact ă _ hb)]
         exact hkeep hk b hb) he2
        rcases h2 with rfl|⟨rfl,rfl⟩
        . exact hfin
        . exact hfin
      . split at he
        . rename_i f args hcall
          refine O9 (KR:=fun r σ'=>B5 P ops K rest ((st.aft σ').put o.dst r)) (KP:=fun c σ'=>K (.pan c) { st with σ:=σ' }) hgl h hdo hdef hcall he (fun r σ' v w2 G2 hK hI=>?_) (fun c σ' w2 G2 hK hdf hE hS=>⟨hdf,_,G2,hK,hE,hS⟩)
          refine fin _ v w2 G2 hI (fun hm=>?_) hK
          exfalso
          unfold EU at hcall
          split at hcall
          . rename_i cc hopc
            split at hcall
            . rename_i ff hff
              simp [UZ,hopc,hff] at hm
            . cases hcall
          . cases hcall
        . first|exact he.elim|exact (Qu (hpan o hmem) he).elim
    . split at he
      . rename_i c st2 hop
        obtain⟨rfl,he2⟩:=he
        unfold HX at hop
        rw [Ä hquiet] at hop
        split at hop
        . rename_i d hdd
          obtain⟨v,G2,h1,hsame,h2⟩:=Ji h (hdo d hdd) hdd hop
          have hnext:=go st2 _ w G2 h2 (by rw [put_defers];exact hdef) (by rw [B0];exact hsz) (fun hx=>by obtain⟨k1,k2,k3⟩:=hone1 hx;exact⟨k1,hsame.1.trans k2,hsame.2.trans k3⟩) hkeep1 he2
          rcases hc3 with h0|h0|h0
          . rw [Ç h0]
            have hcls:F7 o=0:=by
             rcases Re hi ho with h5|h5
             . omega
             . omega
            exact⟨v,.inl ⟨hw,fun w2 _=>.inl (h1 w2 (fun e=>by omega))⟩,hnext⟩
          . rw [Ä (by omega),Ç h0]
            obtain⟨k1,k2,k3⟩:=hone ⟨i,à _,hi,h0⟩
            refine⟨v,.inl ⟨hw,fun w2 hr=>.inl (h1 w2 (fun _=>Reads.one ?_ _))⟩,hnext⟩
            unfold Reads
            rw [k1,k2,k3];exact hr
          . rw [Ä (by omega),Ä (by omega)]
            unfold wpOp
            simp only [ho,hw,ù]
            left
            unfold Oper.wp
            rw [h1 w (fun _=>(Reads.refl _ _).one _)]
            exact⟨fun hn=>Qo h.ext (hkeep (hneed h0 hn).2),hnext⟩
        . cases hop
      . split at he
        . rename_i f args hcall
          exact absurd (MW hcall) hquiet
        . first|exact he.elim|exact (Qu (hpan o hmem) he).elim
end
section
variable {w w' w0 ws:World} {G G' G0 Gs:Gh} {P:Program} {st st':St} {a:Act} {o:Oper} {n:Nat} {ops:Array Oper} {K:AX->St->Prop} {ds:List Deferred}
theorem Tf {id:Nat}{draw:Bool}(hgl:C8 w0 G0)(hm:P.follows .mixedOrders=true)(hdst:∀ o∈ops.toList,∀ d,o.dst=some d->d<n)(hdraw:draw=true->WW ops=true)(h:Inv w0 G0 st (AH a) w G)(hdef:a.defers=ds)(hsz:a.tmps.size=n)(he:B5 P ops K ops.toList st) :
 RW P (Code.region id ops draw) (CG ds w0 G0 n K) a w:=by
 cases draw with
 |false=>exact X9 (EI hgl _ st a w G h hdef hsz hdst he)
 |true =>
  have hok0:=hdraw rfl
  unfold WW at hok0
  rw [Å,Û] at hok0
  obtain⟨hok,hpan0⟩:=hok0
  have hpan:∀ o∈ops.toList,UY o=false:=fun o ho=>by simpa using hpan0 o ho
  have hok2:=hok
  simp only [Mj,Å] at hok2
  have hd:=h.drew.at_
  have hw:=Ra (P:=P) (K:=K) (ws:=w.drew) (Gs:=G) ((hgl.ext h.ext).ext h.ext.drew0) hok hpan hdst ops.toList 0 st a w.drew G (by simp) hd hdef hsz (fun _=>⟨rfl,rfl,rfl⟩) (fun _ _ _=>rfl) he
  have hreg:RW P (Code.region id ops.toList.toArray true) (CG ds w.drew G n K) a w:=by
   refine Qi (Im ops) (List.range ops.size) (Reads w.drew G) hm (by simpa using hok2.1) (by simp) (by simpa using hok2.2.1) ?_ (Reads.refl _ _) ?_
   . rintro c d v a' w' ⟨h1,h2⟩
     exact⟨by rw [put_defers] at h1;exact h1,h2⟩
   . rw [Array.length_toList,<- List.range_eq_range'] at hw
     simpa using hw
  rw [ì] at hreg
  exact hreg.mono fun e a' w' hp=>hp.since h.ext.drew
end
end Go.Vl
namespace Go.Vl
open Go Go.RowKit
def L3 (k:Nat):Option Loc->Option Loc
 |some (.cell 0 j)=>some (.cell k j)
 |l=>l
def Gh.one (G:Gh)(k b:Nat):Gh:={ U:=G.U,φ:=[b],Ω:=fun c=>match G.Ω c with|some (.cell k' j)=>if k'=k then some (.cell 0 j) else none|_=>none }
def Gh.many (G G':Gh)(k:Nat):Gh:={ U:=G'.U,φ:=G.φ,Ω:=fun c=>match G.Ω c with|some (.cell k' j)=>if k'=k then L3 k (G'.Ω c) else some (.cell k' j)|_=>L3 k (G'.Ω c) }
section
variable {w w':World} {G G':Gh} {P:Program} {f:FuncId} {σ:List (List PV)} {k b:Nat} {cs:List PV}
theorem one_cell {c j:Nat}(h:G.Ω c=some (.cell k j)):(G.one k b).Ω c=some (.cell 0 j):=by
 show (match G.Ω c with|some (.cell k' j)=>if k'=k then some (Loc.cell 0 j) else none|_=>none)=_
 rw [h];simp
theorem UE {c:Nat}(h:∀ j,G.Ω c≠some (.cell k j)):(G.one k b).Ω c=none:=by
 show (match G.Ω c with|some (.cell k' j)=>if k'=k then some (Loc.cell 0 j) else none|_=>none)=_
 all_goals grind
theorem Nz {c:Nat}{l:Loc}(h:(G.one k b).Ω c=some l):∃ j,G.Ω c=some (.cell k j)/\l=.cell 0 j:=by
 have h2:(match G.Ω c with|some (.cell k' j)=>if k'=k then some (Loc.cell 0 j) else none|_=>none)=some l:=h
 all_goals grind
theorem Oy {c:Nat}{l:Loc}(h:∀ k' j,G.Ω c=some (.cell k' j)->k'=k)(hl:L3 k (G'.Ω c)=some l):(G.many G' k).Ω c=some l:=by
 show (match G.Ω c with|some (.cell k' j)=>if k'=k then L3 k (G'.Ω c) else some (.cell k' j)|_=>L3 k (G'.Ω c))=_
 all_goals grind
theorem Q4 {c k' j:Nat}(h:G.Ω c=some (.cell k' j))(hk:k'≠k):(G.many G' k).Ω c=some (.cell k' j):=by
 show (match G.Ω c with|some (.cell k' j)=>if k'=k then L3 k (G'.Ω c) else some (.cell k' j)|_=>L3 k (G'.Ω c))=_
 rw [h];simp [hk]
theorem Sq {c:Nat}(h:(G.many G' k).Ω c≠none):G.Ω c≠none∨G'.Ω c≠none:=by
 have h:(match G.Ω c with|some (.cell k' j)=>if k'=k then L3 k (G'.Ω c) else some (.cell k' j)|_=>L3 k (G'.Ω c))≠none:=h
 all_goals grind [L3]
theorem Az.one (hs:Az w G σ)(hk:G.φ[k]?=some b)(hc:σ[k]?=some cs)(hp:PV.fitsL 0 cs=true):Az w (G.one k b) [cs]:=by
 refine⟨rfl,by simp [Gh.one],fun k2 b2 cs2 h1 h2=>?_,hs.ub,fun c hB=>?_⟩
 . have hk2:k2=0:=by
    have:=(List.getElem?_eq_some_iff.1 h2).1
    simp at this;omega
   subst hk2
   have h1':b=b2:=by simpa [Gh.one] using h1
   have h2':cs=cs2:=by simpa using h2
   subst h1' h2'
   obtain⟨⟨T,arr,h3,h4,h5⟩,h6⟩:=hs.blk k b cs hk hc
   refine⟨⟨T,arr,h3,h4,fun j c hcj=>?_⟩,h6⟩
   obtain⟨v,h7,h8,h9,h10⟩:=h5 j c hcj
   have hjl:=List.getElem?_eq_some_iff.1 hcj
   refine⟨v,h7,h8,h9.pure (by rw [<- hjl.2];exact DY hp j hjl.1),?_⟩
   unfold Ck at h10 ⊢
   split
   . exact A0.to h10 rfl (fun c hc=>one_cell hc)
   . exact BC.to h10 rfl (fun c hc=>one_cell hc)
   . trivial
 . cases e:(G.one k b).Ω c with
   |none=>exact absurd e hB
   |some l =>
    obtain⟨j,h1,_⟩:=Nz e
    have:=hs.ob c (by rw [h1];simp)
    refine⟨this.1,fun hm=>this.2 ?_⟩
    have:c=b:=by simpa [Gh.one] using hm
    subst this;exact Ò hk
theorem TP {args:List PV}{Q:Cl->List PV->Prop}{vs:Array Value}(hc:σ[k]?=some cs)(hcs:PV.fitsL 0 cs=true)(hargs:F5 args=true)
 (h:VC P f (.ptr 0 0::args) [cs] fun x σ'=>∃ cs',σ'=[cs']/\PV.fitsL 0 cs'=true/\Gn x=true/\Q x cs')
 (hs:Az w G σ) (hgl:C8 w G) (hvs:vs.size=(PV.ptr k 0::args).length) (hv:∀ i (h:i<(PV.ptr k 0::args).length),V w G.U G.φ (PV.ptr k 0::args)[i] (vs.getD i Go.undef)) :
 Calls P f vs w fun e w'=>∃ x cs' G',Gn x=true/\Q x cs'/\Dq w' G' x e/\Az w' G' (σ.set k cs')/\Ext w G w' G'/\∀ k2 b2,G.φ[k2]?=some b2->k2≠k->w'.heap[b2]?=w.heap[b2]?:=by
 have hkl:k<σ.length:=(List.getElem?_eq_some_iff.1 hc).1
 have hkφ:k<G.φ.length:=by rw [hs.len];exact hkl
 obtain⟨b,hb⟩:∃ b,G.φ[k]?=some b:=⟨_,Ã hkφ⟩
 have hargs':∀ i (hi:i<(PV.ptr 0 0::args).length),V w (G.one k b).U (G.one k b).φ (PV.ptr 0 0::args)[i] (vs.getD i Go.undef):=by
  intro i hi
  cases i with
  |zero =>
   have h0:=hv 0 (by simp)
   simp only [Ė] at h0 ⊢
   revert h0
   generalize vs.getD 0 Go.undef=z
   intro h0
   cases h0 with
   |ptr _ _ _ k2 hk2 =>
    rw [hb] at hk2
    obtain rfl:=Af hk2
    exact .ptr _ _ _ _ rfl
  |succ i =>
   have h0:=hv (i+1) (by simpa using hi)
   simp only [List.getElem_cons_succ] at h0 ⊢
   refine h0.pure ?_
   unfold F5 at hargs
   rw [Û] at hargs
   exact hargs _ (Ú _)
 have hgl1:C8 w (G.one k b):=⟨hgl.1,fun c hcg=>⟨(hgl.2 c hcg).1,fun hm=>(hgl.2 c hcg).2.1 (by
  have:c=b:=by simpa [Gh.one] using hm
  subst this;exact Ò hb),UE fun j e=>by rw [(hgl.2 c hcg).2.2] at e;cases e⟩⟩
 refine (h w (G.one k b) vs (hs.one hb hc hcs) hvs hargs' (fun c l e=>by obtain⟨j,_,e2⟩:=Nz e;exact⟨0,j,e2⟩) hgl1).mono fun e w' hpost=>?_
 obtain⟨x,_,G',⟨cs',rfl,hcs',hpe,hq⟩,hend,hs',hx⟩:=hpost
 have hφ':G'.φ=[b]:=by
  obtain⟨ψ,h1,_⟩:=hx.phi
  have h2:=hs'.len
  rw [h1] at h2 ⊢
  have:ψ=[]:=by
   have h3:([b]++ψ).length=1:=h2
   simp at h3;exact h3
  rw [this];rfl
 -- what is old and not the place's own keeps
 have hnew:∀ c,G'.Ω c≠none->w.heap.size<=c∨∃ j,G.Ω c=some (.cell k j):=fun c hB=>by
  rcases hx.newΩ c hB with h1|h1
  . exact .inl h1
  . cases e:(G.one k b).Ω c with
    |none=>exact absurd e h1
    |some l=>obtain⟨j,h2,_⟩:=Nz e;exact .inr ⟨j,h2⟩
 have hmine:∀ c,G'.Ω c≠none->∀ k' j,G.Ω c=some (.cell k' j)->k'=k:=fun c hB k' j e=>by
  rcases hnew c hB with h1|⟨j2,h1⟩
  . have:=(hs.ob c (by rw [e];simp)).1;omega
  . rw [e] at h1;cases h1;rfl
 have hkeep:∀ c,c<w.heap.size->c≠b->(∀ j,G.Ω c≠some (.cell k j))->w'.heap[c]?=w.heap[c]?:=fun c h1 h2 h3=>hx.frame c h1 (by simpa [Gh.one] using h2) (UE h3)
 have hnewU:∀ c i,G'.U c i->G.U c i∨w.heap.size<=c∨∃ j,G.Ω c=some (.cell k j):=fun c i hu=>by
  rcases hx.newU c i hu with h1|h1|h1
  . exact .inl h1
  . exact .inr (.inl h1)
  . cases e:(G.one k b).Ω c with
    |none=>exact absurd e h1
    |some l=>obtain⟨j,h2,_⟩:=Nz e;exact .inr (.inr ⟨j,h2⟩)
 have lift:∀ {l:Loc} {c:Nat},G'.Ω c=some l->L3 k (some l)=some l->(G.many G' k).Ω c=some l:=fun {l c} e e2=>Oy (hmine c (by rw [e];simp)) (by rw [e];exact e2)
 refine⟨x,cs',G.many G' k,hpe,hq,?_,⟨by simp [Gh.many,hs.len],hs.nodup,fun k2 b2 cs2 h1 h2=>?_,hs'.ub,fun c hB=>?_⟩,⟨hx.os,hx.tape,hx.output,hx.size,fun c h1 h2 h3=>?_,hx.cells,fun c i hu=>?_,fun c hB=>?_,[],by simp [Gh.many],by simp⟩,fun k2 b2 hk2 hne=>?_⟩
 . cases x with
   |ret r =>
    obtain⟨v,h1,h2,h3⟩:=hend
    refine⟨v,h1,h2.pure hpe,?_⟩
    unfold Hg at h3 ⊢
    split
    . exact A0.to h3 rfl (fun c e=>lift e rfl)
    . exact h3
    . exact h3
    . intro i xs hi
      obtain⟨arr,u,k1,k2,k3⟩:=h3 i xs hi
      exact⟨arr,u,k1,k2,A0.to k3 rfl (fun c e=>lift e rfl)⟩
    . trivial
   |pan c=>exact hend
 . have h1g:G.φ[k2]?=some b2:=h1
   by_cases e:k2=k
   . subst e
     rw [hb] at h1g
     obtain rfl:=Af h1g
     rw [ė hkl] at h2
     obtain rfl:=Af h2
     obtain⟨⟨T,arr,h3,h4,h5⟩,h6⟩:=hs'.blk 0 b cs' (by rw [hφ'];rfl) rfl
     refine⟨⟨T,arr,h3,h4,fun j c hcj=>?_⟩,h6⟩
     obtain⟨v,h7,h8,h9,h10⟩:=h5 j c hcj
     have hjl:=List.getElem?_eq_some_iff.1 hcj
     refine⟨v,h7,h8,h9.pure (by rw [<- hjl.2];exact DY hcs' j hjl.1),?_⟩
     unfold Ck at h10 ⊢
     split
     . exact A0.to h10 rfl (fun c e=>Oy (hmine c (by rw [e];simp)) (by rw [e];rfl))
     . exact BC.to h10 rfl (fun c e=>Oy (hmine c (by rw [e];simp)) (by rw [e];rfl))
     . trivial
   . rw [List.getElem?_set_ne (fun e2=>e e2.symm)] at h2
     obtain⟨⟨T,arr,h3,h4,h5⟩,h6⟩:=hs.blk k2 b2 cs2 h1g h2
     have hlt:b2<w.heap.size:=(Array.getElem?_eq_some_iff.1 h3).1
     have hne:b2≠b:=fun e2=>by
      subst e2
      have i1:=List.getElem?_eq_some_iff.1 h1g
      have i2:=List.getElem?_eq_some_iff.1 hb
      exact e ((List.getElem_inj hs.nodup).1 (i1.2.trans i2.2.symm))
     have hno:∀ j,G.Ω b2≠some (.cell k j):=fun j e2=>(hs.ob b2 (by rw [e2];simp)).2 (Ò h1g)
     refine⟨⟨T,arr,(hkeep b2 hlt hne hno).trans h3,⟨h4.1.mono hx.cells,h4.2⟩,fun j c hcj=>?_⟩,fun i hu=>?_⟩
     . obtain⟨v,h7,h8,h9,h10⟩:=h5 j c hcj
       refine⟨v,h7,h8,h9.mono hx.cells (fun _ _ h=>h),?_⟩
       unfold Ck at h10 ⊢
       split
       . refine A0.keep h10 fun b3 hb3=>?_
         have hob:=hs.ob b3 (by rw [hb3];simp)
         have hno3:∀ j,G.Ω b3≠some (.cell k j):=fun j e2=>by rw [hb3] at e2;cases e2;exact e rfl
         refine⟨Q4 hb3 e,hkeep b3 hob.1 (fun e2=>hob.2 (by subst e2;exact Ò hb)) hno3,fun i hu=>?_⟩
         rcases hnewU b3 i hu with h|h|⟨j2,h⟩
         . exact h
         . omega
         . exact absurd h (hno3 j2)
       . refine BC.keep h10 fun b3 hb3=>?_
         have hob:=hs.ob b3 (by rw [hb3];simp)
         have hno3:∀ j,G.Ω b3≠some (.cell k j):=fun j e2=>by rw [hb3] at e2;cases e2;exact e rfl
         refine⟨Q4 hb3 e,hkeep b3 hob.1 (fun e2=>hob.2 (by subst e2;exact Ò hb)) hno3,fun i hu=>?_⟩
         rcases hnewU b3 i hu with h|h|⟨j2,h⟩
         . exact h
         . omega
         . exact absurd h (hno3 j2)
       . trivial
     . rcases hnewU b2 i hu with h|h|⟨j2,h⟩
       . exact h6 i h
       . omega
       . exact hno j2 h
 . by_cases hg:G.Ω c=none
   . have h1:G'.Ω c≠none:=by
      rcases Sq hB with h1|h1
      . exact absurd hg h1
      . exact h1
     refine⟨(hs'.ob c h1).1,fun hm=>?_⟩
     rcases hnew c h1 with h2|⟨j,h2⟩
     . have:=hs.lt hm;omega
     . rw [hg] at h2;cases h2
   . have:=hs.ob c hg
     exact⟨ò this.1 hx.size,this.2⟩
 . grind [F5,Hg,Ck]
 . rcases hnewU c i hu with h|h|⟨j,h⟩
   . exact .inl h
   . exact .inr (.inl h)
   . exact .inr (.inr (by rw [h];simp))
 . rcases Sq hB with h1|h1
   . exact .inr h1
   . rcases hnew c h1 with h2|⟨j,h2⟩
     . exact .inl h2
     . exact .inr (by rw [h2];simp)
 . refine hkeep b2 (hs.lt (Ò hk2)) (fun e=>?_) (fun j e2=>(hs.ob b2 (by rw [e2];simp)).2 (Ò hk2))
   subst e
   have i1:=List.getElem?_eq_some_iff.1 hk2
   have i2:=List.getElem?_eq_some_iff.1 hb
   exact hne ((List.getElem_inj hs.nodup).1 (i1.2.trans i2.2.symm))
theorem VC.at {args:List PV}{Q:Cl->List PV->Prop}(hc:σ[k]?=some cs)(hcs:PV.fitsL 0 cs=true)(hargs:F5 args=true)
 (h:VC P f (.ptr 0 0::args) [cs] fun x σ'=>∃ cs',σ'=[cs']/\PV.fitsL 0 cs'=true/\Gn x=true/\Q x cs'):VC P f (.ptr k 0::args) σ fun x σ'=>∃ cs',Q x cs'/\σ'=σ.set k cs':=by
 intro w G vs hs hvs hv hΩ hgl
 exact (TP hc hcs hargs h hs hgl hvs hv).mono fun e w' ⟨x,cs',G',_,h2,h3,h4,h5,_⟩=>⟨x,σ.set k cs',G',⟨cs',h2,rfl⟩,h3,h4,h5⟩
end
end Go.Vl
namespace Go.Q
open Go
section
variable {P:Program} {ops:Array Oper} {Q:Exit->Act->World->Prop}
def F8 (ops:Array Oper)(S S':World->Prop)(c:List Nat)(j:Nat)(w w':World):Prop:=if cl c j=0∨cl c j=1 then w'=w/\S'=S else S' w'/\(Ep ops c j=true->∀ w,S' w->S w)
def DA (P:Program)(ops:Array Oper)(Q:Exit->Act->World->Prop)(c:List Nat):Nat->(World->Prop)->Array Bool->Act->World->Prop
 |0,_,D,a,w=>Region.ready .any ops D=[]/\Q .normal a w
 |fuel+1,S,D,a,w =>
  (Region.ready .any ops D=[]->Q .normal a w) /\
  ∀ i∈Region.ready .any ops D,wpOp P ops Q i (fun a' w'=>∃ S',F8 ops S S' c i w w'/\DA P ops Q c fuel S' (D.setIfInBounds i true) a' w') a w
theorem It {c:List Nat}:∀ (fuel:Nat) (S:World->Prop) (D:Array Bool) (a:Act) (w:World),DA P ops Q c fuel S D a w->wpAny P .any ops Q fuel D a w
 |0,_,_,_,_,h=>h
 |fuel+1,_,_,_,_,h=>⟨h.1,fun i hi=>wpOp_mono (fun a' w' ⟨S',_,h'⟩=>It fuel S' _ a' w' h') (h.2 i hi)⟩
theorem GL {c:List Nat}{T:World->Prop}{i:Nat}{oi:Oper}{v:Value}(hi:ops[i]?=some oi)(hsel:∀ (j:Nat) (o:Oper) cs b,ops[j]?=some o->o.op≠.select cs b)
 (hQ:∀ c a w,Q (.panic c) (a.put oi.dst v) w->Q (.panic c) a w) (hci:cl c i=0∨cl c i=1) (hT:(∀ w,T w)∨cl c i=1) :
 ∀ (fuel:Nat) (S:World->Prop) (D:Array Bool) (a:Act) (w:World),ED ops D->S w->(∀ w,S w->T w) ->
  (∀ j oj,ops[j]?=some oj->j≠i->D.getD j true=false->(∀ e∈oj.after,Region.binds .any e=true->e.on≠i)->oi.apart ops oj=true) ->
  i∈Region.ready .any ops D->YieldsIn P ops T oi v a ->
  DA P ops Q c fuel S (D.setIfInBounds i true) (a.put oi.dst v) w->DA P ops Q c (fuel+1) S D a w:=by
 have hcond:∀ S w,F8 ops S S c i w w:=fun S w=>by unfold F8;rw [Ç hci];exact⟨rfl,rfl⟩
 intro fuel
 induction fuel with
 |zero =>
  intro S D a w hD hSw hST _ hr hy H
  refine⟨fun h=>(by rw [h] at hr;cases hr),fun j hj=>?_⟩
  by_cases hji:j=i
  . subst hji;exact hy.wpOp hi (hST w hSw) ⟨S,hcond S w,H⟩
  . have:=ready_mono hj hji
    rw [H.1] at this
    cases this
 |succ fuel ih =>
  intro S D a w hD hSw hST hfree hr hy H
  refine⟨fun h=>(by rw [h] at hr;cases hr),fun j hj=>?_⟩
  by_cases hji:j=i
  . subst hji;exact hy.wpOp hi (hST w hSw) ⟨S,hcond S w,H⟩
  . have h1:=H.2 j (ready_mono hj hji)
    obtain⟨hjun,oj,hoj,hall⟩:=mem_ready.1 hj
    have hnot:∀ e∈oj.after,Region.binds .any e=true->e.on≠i:=fun e he hb heq=>by
     have h1:=hall e he hb
     rw [heq,(Ea hr).1] at h1
     cases h1
    have h2:=M1 hoj (hfree j oj hoj hji hjun hnot) (fun cs b=>hsel i oi cs b hi) (fun cs b=>hsel j oj cs b hoj) hQ hy h1
    have hfree':∀ k ok,ops[k]?=some ok->k≠i->(D.setIfInBounds j true).getD k true=false ->
     (∀ e∈ok.after,Region.binds .any e=true->e.on≠i)->oi.apart ops ok=true:=fun k ok hk hki hun hno=>by
     refine hfree k ok hk hki ?_ hno
     by_cases hjk:j=k
     . subst hjk;exact hjun
     . rw [getD_set_ne true hjk] at hun;exact hun
    refine wpOp_mono (fun a' w' h3=>?_) h2
    obtain⟨hy',S',hc,hK⟩:=h3
    have hS':S' w'/\∀ w,S' w->T w:=by
     unfold F8 at hc
     split at hc
     . obtain⟨rfl,rfl⟩:=hc;exact⟨hSw,hST⟩
     . refine⟨hc.1,fun w2 hw2=>?_⟩
       rcases hT with hT|hT
       . exact hT w2
       . exact hST w2 (hc.2 (Q0 hD hj (Ea hr).2 (Ea hr).1 hT (ě hji)) w2 hw2)
    refine⟨S',hc,ih S' (D.setIfInBounds j true) a' w' (hD.set hj) hS'.1 hS'.2 hfree' (ready_mono hr (ě hji)) hy' ?_⟩
    rw [Array.setIfInBounds_comm _ _ hji]
    exact hK
def Wl (ops:Array Oper)(c:List Nat)(i:Nat):Bool:=(List.range ops.size).all fun j=>cl c j == 0||cl c j == 1||((Sn ops).getD j 0).testBit i
theorem Ab6 {c:List Nat}{i j:Nat}{D:Array Bool}(hp:Wl ops c i=true)(hD:ED ops D)(hj:j∈Region.ready .any ops D)(hun:D.getD i false=false):cl c j=0∨cl c j=1:=by
 unfold Wl at hp
 rw [Û] at hp
 have h:=hp j (List.mem_range.2 (Ea hj).2)
 rw [ú,ú,ā,ā] at h
 rcases h with (h|h)|h
 . exact .inl h
 . exact .inr h
 . obtain⟨_,oj,hoj,hall⟩:=mem_ready.1 hj
   have:=Q2 j i h D hD (fun o' ho' e he hb=>by
    have:o'=oj:=Af (ho'.symm.trans hoj)
    subst this
    exact hall e he hb) ⟨oj,hoj⟩
   rw [hun] at this
   cases this
theorem R5 {c:List Nat}{i:Nat}{oi:Oper}{v:Value}{w:World}(hi:ops[i]?=some oi)(hsel:∀ (j:Nat) (o:Oper) cs b,ops[j]?=some o->o.op≠.select cs b)
 (hQ:∀ c a w,Q (.panic c) (a.put oi.dst v) w->Q (.panic c) a w) (hci:cl c i=0∨cl c i=1) (hpre:Wl ops c i=true) :
 ∀ (fuel:Nat) (S:World->Prop) (D:Array Bool) (a:Act),ED ops D->S w ->
  (∀ j oj,ops[j]?=some oj->j≠i->D.getD j true=false->(∀ e∈oj.after,Region.binds .any e=true->e.on≠i)->oi.apart ops oj=true) ->
  i∈Region.ready .any ops D->YieldsIn P ops (fun w'=>w'=w) oi v a ->
  DA P ops Q c fuel S (D.setIfInBounds i true) (a.put oi.dst v) w->DA P ops Q c (fuel+1) S D a w:=by
 have hcond:∀ S w,F8 ops S S c i w w:=fun S w=>by unfold F8;rw [Ç hci];exact⟨rfl,rfl⟩
 intro fuel
 induction fuel with
 |zero =>
  intro S D a hD hSw _ hr hy H
  refine⟨fun h=>(by rw [h] at hr;cases hr),fun j hj=>?_⟩
  by_cases hji:j=i
  . subst hji;exact hy.wpOp hi rfl ⟨S,hcond S w,H⟩
  . have:=ready_mono hj hji
    rw [H.1] at this
    cases this
 |succ fuel ih =>
  intro S D a hD hSw hfree hr hy H
  refine⟨fun h=>(by rw [h] at hr;cases hr),fun j hj=>?_⟩
  by_cases hji:j=i
  . subst hji;exact hy.wpOp hi rfl ⟨S,hcond S w,H⟩
  . have h1:=H.2 j (ready_mono hj hji)
    obtain⟨hjun,oj,hoj,hall⟩:=mem_ready.1 hj
    have hnot:∀ e∈oj.after,Region.binds .any e=true->e.on≠i:=fun e he hb heq=>by
     have h1:=hall e he hb
     rw [heq,(Ea hr).1] at h1
     cases h1
    have h2:=M1 hoj (hfree j oj hoj hji hjun hnot) (fun cs b=>hsel i oi cs b hi) (fun cs b=>hsel j oj cs b hoj) hQ hy h1
    have hfree':∀ k ok,ops[k]?=some ok->k≠i->(D.setIfInBounds j true).getD k true=false ->
     (∀ e∈ok.after,Region.binds .any e=true->e.on≠i)->oi.apart ops ok=true:=fun k ok hk hki hun hno=>by
     refine hfree k ok hk hki ?_ hno
     by_cases hjk:j=k
     . subst hjk;exact hjun
     . rw [getD_set_ne true hjk] at hun;exact hun
    refine wpOp_mono (fun a' w' h3=>?_) h2
    obtain⟨hy',S',hc,hK⟩:=h3
    have hc2:=hc
    unfold F8 at hc2
    rw [Ç (Ab6 hpre hD hj (Ea hr).1)] at hc2
    obtain⟨rfl,rfl⟩:=hc2
    refine⟨S',hc,ih S' (D.setIfInBounds j true) a' (hD.set hj) hSw hfree' (ready_mono hr (ě hji)) hy' ?_⟩
    rw [Array.setIfInBounds_comm _ _ hji]
    exact hK
def TV (P:Program)(ops:Array Oper)(c:List Nat)(S:World->Prop)(i:Nat)(o:Oper)(v:Value)(a:Act)(w:World):Prop :=
 YieldsIn P ops S o v a∨(Wl ops c i=true/\YieldsIn P ops (fun w'=>w'=w) o v a)
theorem Hw {c:List Nat}{i:Nat}{oi:Oper}{v:Value}(hi:ops[i]?=some oi)(hsel:∀ (j:Nat) (o:Oper) cs b,ops[j]?=some o->o.op≠.select cs b)
 (hQ:∀ c a w,Q (.panic c) (a.put oi.dst v) w->Q (.panic c) a w) (hci:cl c i=1) (fuel:Nat) (S:World->Prop) (D:Array Bool) (a:Act) (w:World) (hD:ED ops D) (hS:S w)
 (hf:∀ j oj,ops[j]?=some oj->j≠i->D.getD j true=false->(∀ e∈oj.after,Region.binds .any e=true->e.on≠i)->oi.apart ops oj=true)
 (hr:i∈Region.ready .any ops D) (hy:TV P ops c S i oi v a w) (h:DA P ops Q c fuel S (D.setIfInBounds i true) (a.put oi.dst v) w):DA P ops Q c (fuel+1) S D a w:=by
 rcases hy with hy|⟨hp,hy⟩
 . exact GL (T:=S) hi hsel hQ (.inr hci) (.inr hci) fuel S D a w hD hS (fun _ h=>h) hf hr hy h
 . exact R5 hi hsel hQ (.inr hci) hp fuel S D a hD hS hf hr hy h
def HY (P:Program)(ops:Array Oper)(Q:Exit->Act->World->Prop)(c:List Nat):(World->Prop)->List Nat->Act->World->Prop
 |_,[],a,w=>Q .normal a w
 |S,i::t,a,w=>match ops[i]? with
  |none=>False
  |some o =>
   if cl c i=0 then ∃ v,YieldsIn P ops (fun _=>True) o v a/\HY P ops Q c S t (a.put o.dst v) w
   else if cl c i=1 then ∃ v,TV P ops c S i o v a w/\HY P ops Q c S t (a.put o.dst v) w
   else wpOp P ops Q i (fun a' w'=>∃ S':World->Prop,S' w'/\(Ep ops c i=true->∀ w,S' w->S w)/\HY P ops Q c S' t a' w') a w
theorem IW {c:List Nat}(hsel:Region.noSelect ops=true)(hQ:∀ c d v a w,Q (.panic c) (a.put d v) w->Q (.panic c) a w):∀ (t:List Nat) (S:World->Prop) (D:Array Bool) (a:Act) (w:World),ED ops D ->
 S w->ZD ops c t D=true->HY P ops Q c S t a w->DA P ops Q c t.length S D a w
 | [],S,D,a,w,_,_,hok,h=>⟨by simpa [ZD] using hok,h⟩
 |i::t,S,D,a,w,hD,hS,hok,h=>by
  simp only [ZD,Å] at hok
  obtain⟨⟨hr,hf⟩,hok'⟩:=hok
  have hr':i∈Region.ready .any ops D:=by simpa using hr
  obtain⟨_,oi,hoi,_⟩:=mem_ready.1 hr'
  unfold HY at h
  simp only [hoi] at h
  by_cases h0:cl c i=0
  . rw [Ç h0] at h
    rw [Ç (.inl h0)] at hf
    obtain⟨v,hy,hw⟩:=h
    exact GL (T:=fun _=>True) hoi (č hsel) (fun _ a w h=>hQ _ _ _ a w h) (.inl h0) (.inl fun _=>trivial) t.length S D a w hD hS (fun _ _=>trivial) (Ĝ hoi hf) hr' hy
     (IW hsel hQ t S _ _ w (hD.set hr') hS hok' hw)
  . rw [Ä h0] at h
    by_cases h1:cl c i=1
    . rw [Ç h1] at h
      rw [Ç (.inr h1)] at hf
      obtain⟨v,hy,hw⟩:=h
      exact Hw hoi (č hsel) (fun _ a w h=>hQ _ _ _ a w h) h1 t.length S D a w hD hS (Ĝ hoi hf) hr' hy
       (IW hsel hQ t S _ _ w (hD.set hr') hS hok' hw)
    . rw [Ä h1] at h
      rw [Ä (by simp [h0,h1])] at hf
      have hf':Region.ready .any ops D=[i]:=by simpa using hf
      refine⟨fun h=>(by rw [h] at hr';cases hr'),fun j hj=>?_⟩
      rw [hf'] at hj
      obtain rfl:j=i:=by simpa using hj
      refine wpOp_mono (fun a' w' h3=>?_) h
      obtain⟨S',k1,k2,k3⟩:=h3
      exact⟨S',by unfold F8;rw [Ä (by simp [h0,h1])];exact⟨k1,k2⟩,IW hsel hQ t S' _ a' w' (hD.set hr') k1 hok' k3⟩
theorem Pp {id:Nat}{l:List Oper}{a:Act}{w:World}(c t:List Nat)(S:World->Prop)(hm:P.follows .mixedOrders=true)(hsel:Region.noSelect l.toArray=true)
 (hlen:t.length=l.length) (hok:ZD l.toArray c t (Array.replicate l.toArray.size false)=true) (hQ:∀ c d v a w,Q (.panic c) (a.put d v) w->Q (.panic c) a w)
 (hS:S w.drew) (h:HY P l.toArray Q c S t a w.drew):Go.Vl.RW P (Code.region id l.toArray true) Q a w:=by
 refine Go.Vl.rw_any hm ?_
 rw [show l.toArray.size=t.length by simp [hlen]]
 refine It _ S _ _ _ (IW (c:=c) hsel hQ t S _ a _ ?_ hS ?_ h)
 . intro j oj _ hl
   rw [getD_replicate_false] at hl
   cases hl
 . rw [show t.length=l.toArray.size by simp [hlen]];exact hok
end
end Go.Q
namespace Go.Vl
open Go Go.RowKit Go.Q
def Tu (b:Nat):List Nat->Bool
 | []=>false
 |x::r=>if x=b then true else Tu b r
theorem Hu {b:Nat}:∀ {M:List Nat},Tu b M=true↔b∈M
 | []=>by simp [Tu]
 |x::r=>by
  unfold Tu
  split
  . rename_i e;simp [e]
  . rename_i e
    rw [Hu,Ę]
    exact⟨.inr,fun h=>h.elim (fun h=>absurd h.symm e) id⟩
def Z0 (M:List Nat)(o:Oper)(st:St):Bool :=
 match o.op with
 |.load _ x=>match Cu st x with
  |.ptr b _=>!Tu b M
  |_=>true
 |_=>true
def Yv (_:List Nat)(_:Oper)(_:St):Bool:=true
def C1 (ops:Array Oper):List Nat:=(List.range ops.size).map (SA ops)
def Ae1 (o:Oper):Bool:=match o.op with|.store _ _ _=>true|_=>false
def RD (ops:Array Oper)(M:List Nat)(i:Nat)(o:Oper)(st:St):Bool :=
 match o.op with
 |.store _ x _=>if Ep ops (C1 ops) i=true then (match Cu st x with|.ptr k _=>Tu k M|_=>false) else true
 |.load _ _=>Z0 M o st||Wl ops (C1 ops) i
 |_=>true
def E8 (ops:Array Oper):List Nat->Bool
 | []=>true
 |i::t=>(match ops[i]? with
  |none=>false
  |some o=>!(Ep ops (C1 ops) i)||(!Il o||Ae1 o))&&E8 ops t
def Tm (ops:Array Oper)(t:List Nat):Bool :=
 Region.noSelect ops&&(t.length == ops.size&&(ZD ops (C1 ops) t (Array.replicate ops.size false)&&E8 ops t))
def BK (P:Program)(ops:Array Oper)(M:List Nat)(K:AX->St->Prop):List Nat->St->Prop
 | [],st=>K .normal st
 |i::t,st =>
  match ops[i]? with
  |none=>False
  |some o =>
   match CD ops st o with
   |none=>False
   |some false=>BK P ops M K t (st.put o.dst (.lit (.tuple #[])))
   |some true =>
    match HX P o st with
    |some (c,st')=>c=true/\(Yv M o st&&RD ops M i o st)=true/\BK P ops M K t st'
    |none =>
     match EU P o st with
     |some (f,args) =>
      if Ep ops (C1 ops) i=true then
       match args with
       |.ptr k 0::more=>Tu k M=true/\PV.fitsL 0 (st.σ.getD k [])=true/\F5 more=true/\k<st.σ.length /\
        VC P f (.ptr 0 0::more) [st.σ.getD k []] fun x σ'=>∃ cs',σ'=[cs']/\PV.fitsL 0 cs'=true/\Gn x=true/\match x with
         |.ret r=>BK P ops M K t ((st.aftK (fun q=>q != k) (st.σ.set k cs')).put o.dst r)
         |.pan c=>K (.pan c) { st with σ:=st.σ.set k cs' }
       |args=>F5 args=true/\VC P f args [] fun x σ'=>match x with
        |.ret r=>BK P ops M K t ((st.aftK (fun _=>true) (st.σ++σ'.map (PV.shiftL st.σ.length))).put o.dst (r.shift st.σ.length))
        |.pan c=>K (.pan c) { st with σ:=st.σ++σ'.map (PV.shiftL st.σ.length) }
      else VC P f args st.σ fun x σ'=>match x with
       |.ret r=>BK P ops M K t ((st.aft σ').put o.dst r)
       |.pan c=>K (.pan c) { st with σ:=σ' }
     |none=>False
def BD (M:List Nat)(w:World)(U:Nat->Nat->Prop)(φ:List Nat)(w':World):Prop :=
 (∀ b i,U b i->Kp w w' b i)/\∀ k b,φ[k]?=some b->k∉M->w'.heap[b]?=w.heap[b]?
theorem BD.refl (M:List Nat)(w:World)(U:Nat->Nat->Prop)(φ:List Nat):BD M w U φ w:=⟨fun _ _ _=>Kp.refl,fun _ _ _ _=>rfl⟩
section
variable {w w' w0 ws w2:World} {G G' G0 Gs G2:Gh} {P:Program} {st st':St} {a:Act} {o:Oper} {n:Nat} {ops:Array Oper} {K:AX->St->Prop} {ds:List Deferred} {M:List Nat}
theorem BD.mono (hx:Ext w G w2 G2)(hk:∀ k b,G.φ[k]?=some b->k∉M->w2.heap[b]?=w.heap[b]?){w1:World}(h:BD M w2 G2.U G2.φ w1):BD M w G.U G.φ w1 :=
 ⟨fun b i hu=>(hx.cells b i hu).2.trans (h.1 b i (hx.cells b i hu).1),fun k b hb hm=>(h.2 k b (hx.phiGet k b hb) hm).trans (hk k b hb hm)⟩
theorem V5 {i:Nat}(ho:ops[i]?=some o):cl (C1 ops) i=F7 o:=by
 grind [Array.getElem?_eq_some_iff,cl,C1,List.range,SA,List.getD]
theorem EG (hgl:C8 ws Gs)(hdst:∀ o∈ops.toList,∀ d,o.dst=some d->d<n):∀ (l:List Nat) (st:St) (a:Act) (w:World) (G:Gh),E8 ops l=true->Inv ws Gs st (AH a) w G->a.defers=ds->a.tmps.size=n ->
 BK P ops M K l st->HY P ops (CG ds ws Gs n K) (C1 ops) (BD M w G.U G.φ) l a w
 | [],st,a,w,G,_,h,hdef,hsz,he=>⟨hsz,hdef,st,G,he,h⟩
 |i::rest,st,a,w,G,hchk,h,hdef,hsz,he=>by
  unfold BK at he
  unfold E8 at hchk
  unfold HY
  cases ho:ops[i]? with
  |none=>rw [ho] at he;exact he.elim
  |some o =>
  rw [ho] at he hchk
  simp only [Å,ú,ç] at he hchk ⊢
  obtain⟨hst,hrest⟩:=hchk
  have hmem:o∈ops.toList:=by
   have:=Array.mem_of_getElem? ho
   simpa using this
  have hdo:∀ d,o.dst=some d->d<a.tmps.size:=fun d hdd=>by rw [hsz];exact hdst o hmem d hdd
  have hcl:=V5 ho
  rw [hcl]
  split at he
  . exact he.elim
  . rename_i hg
    have hw:=D8 h.env hg
    have hS:=h.skipPut hdo
    have ih:=EG hgl hdst rest _ _ w G hrest hS (by rw [put_defers];exact hdef) (by rw [B0];exact hsz) he
    rcases JK o with h0|h0|h0
    . rw [Ç h0];exact⟨Go.undef,.inr ⟨hw,rfl⟩,ih⟩
    . rw [Ä (by omega),Ç h0];exact⟨Go.undef,.inl (.inr ⟨hw,rfl⟩),ih⟩
    . grind [BD.refl,wpOp]
  . rename_i hg
    have hw:=D8 h.env hg
    split at he
    . rename_i c st2 hop
      obtain⟨rfl,⟨hrd,hso⟩,he2⟩:=he
      unfold HX at hop
      by_cases hquiet:F7 o=2
      . rw [Ä (by omega),Ä (by omega)]
        rw [Ç hquiet] at hop
        unfold wpOp
        simp only [ho,hw,ù]
        left
        obtain⟨nx,v,w2,G2,h1,h2,h3,h4⟩:=Kw h.at_ hdo hop
        unfold Oper.wp
        rw [h1]
        have hfin:∃ S':World->Prop,S' w2/\(Ep ops (C1 ops) i=true->∀ w1,S' w1->BD M w G.U G.φ w1)/\HY P ops (CG ds ws Gs n K) (C1 ops) S' rest (a.put o.dst v) w2:=by
         refine⟨_,BD.refl M w2 G2.U G2.φ,fun hn w1 hw1=>BD.mono h3.ext (fun k b hb hkM=>?_) hw1,EG hgl hdst rest _ _ w2 G2 hrest (h3.since h.ext) (by rw [put_defers];exact hdef) (by rw [B0];exact hsz) he2⟩
         rcases hst with hst|hst|hst
         . rw [hst] at hn;cases hn
         . exact h4 hst b (Ò hb)
         . unfold Ae1 at hst
           split at hst
           . rename_i T x y hopn
             unfold RD at hso
             rw [hopn] at hso
             simp only [hn,ù] at hso
             split at hso
             . rename_i k2 o2 hx
               have hkm:k2∈M:=Hu.1 hso
               obtain⟨kb,hkb⟩:∃ kb,G.φ[k2]?=some kb:=by
                have hv:=B1 (a:=a) h.env x
                rw [hx] at hv
                revert hv;generalize a.eval x=z;intro hv
                cases hv with
                |ptr _ _ _ kb hk=>exact⟨kb,hk⟩
               refine ON h.at_ hopn hop h1 hx hkb ?_
               rintro rfl
               exact hkM (by
                have:=(List.getElem?_inj (List.getElem?_eq_some_iff.1 hb).1 h.store.nodup).1 (hb.trans hkb.symm)
                rw [this];exact hkm)
             . cases hso
           . cases hst
        rcases h2 with rfl|⟨rfl,rfl⟩
        . exact hfin
        . exact hfin
      . rw [Ä hquiet] at hop
        split at hop
        . rename_i d hdd
          obtain⟨v,G2,h1,hsame,h2⟩:=Ji h (hdo d hdd) hdd hop
          have ih:=EG hgl hdst rest _ _ w G2 hrest h2 (by rw [put_defers];exact hdef) (by rw [B0];exact hsz) he2
          rw [hsame.1,hsame.2] at ih
          rcases JK o with h0|h0|h0
          . rw [Ç h0]
            exact⟨v,.inl ⟨hw,fun w2 _=>.inl (h1 w2 (fun e=>by omega))⟩,ih⟩
          . rw [Ä (by omega),Ç h0]
            by_cases hpc:Wl ops (C1 ops) i=true
            . exact⟨v,.inr ⟨hpc,.inl ⟨hw,fun w2 e=>.inl (h1 w2 (fun _=>by subst e;exact⟨fun _ _ _=>Kp.refl,fun b _ k _=>rfl⟩))⟩⟩,ih⟩
            refine⟨v,.inl (.inl ⟨hw,fun w2 hr=>.inl (h1 w2 (fun _=>⟨hr.1,fun b hb k hk=>hr.2 b k hk ?_⟩))⟩),ih⟩
            unfold MJ at hb
            split at hb
            . rename_i x hx
              unfold RD at hso
              rw [hx] at hso
              simp only [Bool.eq_false_iff.2 hpc,Bool.or_false] at hso
              have hrd:=hso
              unfold Z0 at hrd
              rw [hx] at hrd
              simp only at hrd
              unfold rdB at hb
              split at hb
              . grind [Option.some.injEq,Hu]
              . cases hb
            . cases hb
          . exact absurd h0 hquiet
        . cases hop
    . split at he
      . rename_i f args hcall
        have h0:=MW hcall
        rw [Ä (by omega),Ä (by omega)]
        unfold wpOp
        simp only [ho,hw,ù]
        left
        obtain⟨vs,g1,g2,g3⟩:=K0 h.env hcall
        have fin:∀ (stA:St) (r:PV) (v:Value) (w2:World) (G2:Gh),(∀ tup d,Inv w G stA (AH a) w2 (G.outer G2 tup d))->V w2 G2.U G2.φ r v->Hg w2 G2 r v ->
         (Ep ops (C1 ops) i=true->∀ k b,G.φ[k]?=some b->k∉M->w2.heap[b]?=w.heap[b]?)->BK P ops M K rest (stA.put o.dst r) ->
         ∃ S':World->Prop,S' w2/\(Ep ops (C1 ops) i=true->∀ w1,S' w1->BD M w G.U G.φ w1)/\HY P ops (CG ds ws Gs n K) (C1 ops) S' rest (a.put o.dst v) w2:=by
         intro stA r v w2 G2 hA hv ht hk hq
         have key:∀ G3,Inv w G (stA.put o.dst r) (AH (a.put o.dst v)) w2 G3->∃ S':World->Prop,S' w2/\(Ep ops (C1 ops) i=true->∀ w1,S' w1->BD M w G.U G.φ w1)/\HY P ops (CG ds ws Gs n K) (C1 ops) S' rest (a.put o.dst v) w2:=fun G3 hI =>
          ⟨_,BD.refl M w2 G3.U G3.φ,fun hn w1 hw1=>BD.mono hI.ext (hk hn) hw1,EG hgl hdst rest _ _ w2 G3 hrest (hI.since h.ext) (by rw [put_defers];exact hdef) (by rw [B0];exact hsz) hq⟩
         cases hdd:o.dst with
         |none =>
          have hI:=hA false 0
          have:=key _ (by rw [hdd];exact hI)
          rw [hdd] at this;exact this
         |some d =>
          have hI:=(hA (QB r) d).putRet hv ht
          have:=key _ (by rw [hdd,Bq (hdo d hdd)];exact hI)
          rw [hdd] at this;exact this
        have pan:∀ (c:List PanicEntry) (σ2:List (List PV)) (w2:World) (G2:Gh),Az w2 G2 σ2->Ext w G.inner w2 G2->K (.pan c) { st with σ:=σ2 }->CG ds ws Gs n K (.panic c) a w2:=by
         intro c σ2 w2 G2 hs2 hx2 hq
         have hI:=h.call (tup:=false) hs2 hx2 0
         exact⟨hdef,_,_,hq,hI.ext,hI.store⟩
        unfold Oper.wp
        rw [g3 w]
        by_cases hn:Ep ops (C1 ops) i=true
        . rw [Ç hn] at he
          split at he
          . rename_i k more
            obtain⟨hkM,hfit,hpl,hkl,hvc⟩:=he
            have hgk:st.σ[k]?=some (st.σ.getD k []):=by simp [List.getD,hkl]
            refine (TP hgk hfit hpl hvc h.store.inner (hgl.ext h.ext).inner g1 g2).mono fun e w2 hpost=>?_
            obtain⟨x,cs',G2,hpe,hq,hend,hs2,hx2,hkeep⟩:=hpost
            cases x with
            |ret r =>
             obtain⟨v,rfl,hv,ht⟩:=hend
             exact fin _ r v w2 G2 (fun tup d=>h.at_.callK hs2 hx2 d (fun q=>q != k) (fun k2 b2 hk2 hb2=>by
              have hne:k2≠k:=by simpa using hk2
              exact⟨by rw [List.getElem?_set_ne (ě hne)],hkeep k2 b2 hb2 hne⟩)) hv ht (fun _ k2 b2 hb hm=>hkeep k2 b2 hb (by rintro rfl;exact hm (Hu.1 hkM))) hq
            |pan c =>
             obtain rfl:e=.panicked c:=hend
             exact pan c _ w2 G2 hs2 hx2 hq
          . obtain⟨hpl,hvc⟩:=he
            refine (O4 hvc hpl h.store.inner (hgl.ext h.ext).inner g1 g2).mono fun e w2 hpost=>?_
            obtain⟨x,σ',G2,hq,hend,hs2,hx2,hall⟩:=hpost
            cases x with
            |ret r =>
             obtain⟨v,rfl,hv,ht⟩:=hend
             exact fin _ _ v w2 G2 (fun tup d=>h.at_.callK hs2 hx2 d (fun _=>true) (fun k2 b2 _ hb2=>by
              have hl2:k2<st.σ.length:=by rw [<- h.store.len];exact (List.getElem?_eq_some_iff.1 hb2).1
              exact⟨Ô hl2,hall b2 (h.store.lt (Ò hb2))⟩)) hv ht (fun _ k2 b2 hb _=>hall b2 (h.store.lt (Ò hb))) hq
            |pan c =>
             obtain rfl:e=.panicked c:=hend
             exact pan c _ w2 G2 hs2 hx2 hq
        . rw [Ä hn] at he
          refine (he w G.inner vs h.store.inner g1 g2 (FO G) (hgl.ext h.ext).inner).mono fun e w2 hpost=>?_
          obtain⟨x,σ',G2,hq,hend,hs2,hx2⟩:=hpost
          cases x with
          |ret r =>
           obtain⟨v,rfl,hv,ht⟩:=hend
           exact fin _ r v w2 G2 (fun tup d=>h.at_.call hs2 hx2 d) hv ht (fun hn2=>absurd hn2 hn) hq
          |pan c =>
           obtain rfl:e=.panicked c:=hend
           exact pan c _ w2 G2 hs2 hx2 hq
      . exact he.elim
theorem Tl {id:Nat}{t:List Nat}(hgl:C8 w0 G0)(hm:P.follows .mixedOrders=true)(hdst:∀ o∈ops.toList,∀ d,o.dst=some d->d<n)(hok:Tm ops t=true)(h:Inv w0 G0 st (AH a) w G)(hdef:a.defers=ds)(hsz:a.tmps.size=n)(he:BK P ops M K t st) :
 RW P (Code.region id ops true) (CG ds w0 G0 n K) a w:=by
 unfold Tm at hok
 simp only [Å,ā] at hok
 obtain⟨h1,h2,h3,h4⟩:=hok
 have hw:=EG (P:=P) (K:=K) (M:=M) (ws:=w.drew) (Gs:=G) ((hgl.ext h.ext).ext h.ext.drew0) hdst t st a w.drew G h4 h.drew.at_ hdef hsz he
 have hreg:RW P (Code.region id ops.toList.toArray true) (CG ds w.drew G n K) a w:=by
  refine Pp (C1 ops) t (BD M w.drew G.U G.φ) hm (by simpa using h1) (by simpa using h2) (by simpa using h3) ?_ (BD.refl _ _ _ _) (by simpa using hw)
  rintro c d v a' w' ⟨h1,h2⟩
  exact⟨by rw [put_defers] at h1;exact h1,h2⟩
 rw [ì] at hreg
 exact hreg.mono fun e a' w' hp=>hp.since h.ext.drew
end
end Go.Vl
namespace Go.Vl
open Go Go.RowKit
section
variable {w w' w0:World} {G G' G0:Gh} {P:Program} {p q:PV} {v u:Value} {st st' st1:St} {a:Act} {o:Oper} {d:Nat} {U:Nat->Nat->Prop} {φ:List Nat}
structure Adf (w w1:World) (G:Gh) (st1:St) (xs:List (List PV)) (sz b cap:Nat) (T:TypeId) (arr:Array Value):Prop where
 hb:b∉G.φ
 free:w.heap.size<=b∨G.Ω b≠none
 no:∀ l,G.Ω b=some l->∀ ys,AU st1 l≠.sl ys .own
 nop:∀ l,G.Ω b=some l->∀ ys,AU st1 l≠.prv ys
 os:w1.os=w.os
 tape:w1.tape=w.tape
 output:w1.output=w.output
 size:w.heap.size<=w1.heap.size
 old:∀ k,k<w.heap.size->k≠b->w1.heap[k]?=w.heap[k]?
 keepU:∀ i,G.U b i->Kp w w1 b i/\i<xs.length*sz
 blk:w1.heap[b]?=some (.cells arr T (0,0))
 asz:arr.size=cap*sz
 room:xs.length+1<=cap
 max:cap<=9223372036854775807
 pos:0<sz
 row:∀ x∈xs,x.length=sz
 v:∀ i (hi:i<xs.length) j (hj:j<(xs[i]).length),V w G.U [] xs[i][j] (arr.getD (i*sz+j) Go.undef)/\(arr.getD (i*sz+j) Go.undef).oneCell'=true
theorem Xk {x y:Operand}{t t':TypeId}{sz bytes:Nat}{xs:List (List PV)}{full:Bool}{zr:List PV}(h:Inv w0 G0 st (fun t=>a.tmps.getD t Go.undef) w G)
 (hop:∃ callee args ats,o.op=.call ⟨callee,args,ats⟩/\callee=.builtin .append/\args = #[x,y]/\ats = #[t,t']) (hap:apT P t=some (sz,bytes)) (hbase:FW st x=some (xs,full,st1)) (hsrc:HK P t' sz st y=some [zr])
 (hbound:(xs.length+1)*max bytes 1<=140737488355328) (hxall:xs.all (fun x=>x.length == sz)=true) (hz:zr.length=sz) :
 ∃ b cap w1 arr T,(execOp a.eval o).run P w=.ok (.value (.slice (some ⟨b,0,none⟩) (xs.length+1) cap)) w1/\Inv w0 G0 st1 (fun t=>a.tmps.getD t Go.undef) w G/\Adf w w1 G st1 xs sz b cap T arr:=by
 obtain⟨callee,args,ats,hop,rfl,rfl,rfl⟩:=hop
 have hyall:([zr]:List (List PV)).all (fun x=>x.length == sz)=true:=by simp [hz]
 have hex:∀ {v w'},(Builtin.append_ #[t,t'] o.type #[a.eval x,a.eval y]).run P w=.ok v w'->(execOp a.eval o).run P w=.ok (.value v) w':=by
  intro v w' hr
  unfold execOp
  rw [hop]
  simp [resolve,invoke,builtin,hr]
 obtain⟨e,i,z,hu,hi,hzz,rfl,rfl,hzs,hpos,_⟩:=LO hap
 obtain⟨vs,hfy,hsr⟩:=Jz h.env hsrc hpos hyall
 obtain⟨hinv,hcase⟩:=LK h hbase
 have hmul:(xs.length+1)*i.bytes<=140737488355328/\(xs.length+1)<=140737488355328:=Wu hbound
 have hrow:∀ x∈xs,x.length=i.size:=by
  rw [Û] at hxall
  intro x hx;simpa using hxall x hx
 have hnφ:w.heap.size∉G.φ:=by
  intro hm
  have:=h.store.lt hm
  omega
 -- a new block
 have grow:∀ (base:Option Addr) (cap:Nat) (us:List Value),a.eval x=.slice base xs.length cap->Flat w G.U xs i.size us->(Builtin.firstCells i.size xs.length (.slice base xs.length cap)).run P w.drew=.ok us.toArray w.drew->cap<xs.length+1 ->
  ∃ b cap w1 arr T,(execOp a.eval o).run P w=.ok (.value (.slice (some ⟨b,0,none⟩) (xs.length+1) cap)) w1/\Inv w0 G0 st1 (fun t=>a.tmps.getD t Go.undef) w G/\Adf w w1 G st1 xs i.size b cap T arr:=by
  intro base cap us hbx hfx hold hlt
  have hr:=run_append_grow_src (P:=P) w t t' o.type e i z hu hi hzz base xs.length cap us hold (a.eval y) 1 vs hsr hlt (by omega) (growslice_fits hlt (by omega))
  rw [<- hbx] at hr
  have hcapge:=grownCap_ge w (xs.length+1) cap e
  have hul:=hfx.len
  have hvl:=hfy.len
  simp only [ß,í,ñ,ğ] at hvl
  refine⟨_,_,_,_,_,hex hr,hinv,hnφ,.inl (à _),fun l hl=>?_,fun l hl=>?_,rfl,rfl,rfl,?_,fun k hk _=>?_,fun q hq=>?_,heap_alloc_new w.drew _,?_,hcapge,?_,hpos,hrow,fun q hq j hj=>?_⟩
  . have:=(h.store.ob w.heap.size (by rw [hl];simp)).1;omega
  . have:=(h.store.ob w.heap.size (by rw [hl];simp)).1;omega
  . show w.heap.size<=(w.heap.push _).size
    simp
  . rw [ê _ _ _ (show k<w.drew.heap.size from hk)];rfl
  . have:=h.store.ub _ _ hq;omega
  . simp only [Array.size_append,List.size_toArray,Õ,hul,hvl,size_zeroCells,hzs]
    have:xs.length*i.size+i.size=(xs.length+1)*i.size:=by rw [ó,ğ]
    rw [this,<- ó];congr 1;omega
  . have:=grownCap_le_maxLen w (xs.length+1) cap e (by unfold maxLen;omega)
    unfold maxLen at this;exact this
  . have hj':j<i.size:=by rw [<- hfx.row _ (Ú hq)];exact hj
    have hlt2:=Jy hq hj'
    rw [<- hfx.len] at hlt2
    have e1:((us++vs).toArray++Builtin.zeroCells z.cells (grownCap w (xs.length+1) cap e-(xs.length+1))).getD (q*i.size+j) Go.undef=us.getD (q*i.size+j) Go.undef:=by
     rw [É,ö (by simp;omega),List.getElem?_toArray,Ô hlt2]
     rfl
    rw [e1]
    refine⟨hfx.v q hq j hj,?_⟩
    have:us.getD (q*i.size+j) Go.undef=us[q*i.size+j]:=by simp [List.getD,hlt2]
    rw [this];exact hfx.one _ (Ú hlt2)
 rcases hcase with⟨rfl,hvx⟩|⟨rfl,hvx,hown⟩
 . obtain⟨us,hfx,hcx⟩:=N9 hvx hpos hxall
   rcases hcx with⟨⟨A,h1⟩,h2⟩|⟨b,off,cap,h1,h2,h3,h4,h5⟩
   . subst h2
     have:us=[]:=å (by rw [hfx.len];simp)
     subst this
     exact grow A 0 [] h1 hfx (S3 _ _ _) (by simp)
   . have hcap:=h4 rfl
     exact grow (some ⟨b,off,none⟩) cap us h1 hfx (Ī _ _ _ _ _ _ us hfx.len (fun j u hj=>by rw [addr_add];exact (h5 j u hj).1)) (by omega)
 . obtain⟨us,hfx,hcx⟩:=N9 hvx hpos hxall
   rcases hown with⟨rfl,hnil⟩|⟨l,ho,hno,hnp⟩
   . have:us=[]:=å (by rw [hfx.len];simp)
     subst this
     exact grow none 0 [] hnil hfx (ī _ _ _ _ _) (by simp)
   . rcases ho with⟨rfl,hnil⟩|⟨b,cap,sz',T,arr,h1,h2,h3,h4,h5,h6,h7⟩
     . have:us=[]:=å (by rw [hfx.len];simp)
       subst this
       exact grow none 0 [] hnil hfx (ī _ _ _ _ _) (by simp)
     . have hsz:sz'=i.size:=by
        have h0:0<xs.length:=List.length_pos_iff.2 h2
        rw [<- h3 _ (Ú h0)];exact hfx.row _ (Ú h0)
       subst hsz
       rcases hcx with⟨h8,h9⟩|⟨b2,off,cap2,h8,h9,h10,_,h12⟩
       . exact absurd h9 h2
       . rw [h8] at h1
         simp only [Value.slice.injEq,Â,Addr.mk.injEq,and_true,õ] at h1
         obtain⟨⟨rfl,rfl⟩,rfl⟩:=h1
         by_cases hroom:xs.length+1<=cap2
         . obtain⟨arr',k1,k2,k3,k4,k5,k6,k7,k8⟩:=CS b2 T vs (0+xs.length*i.size) w arr h5
           have hvl:=hfy.len
           simp only [ß,í,ñ,ğ] at hvl
           have hfit:xs.length*i.size+i.size<=arr.size:=by
            have:=ð i.size hroom
            rw [ó,ğ] at this
            rw [h6];exact this
           have hr:=run_append_room_src (P:=P) w t t' o.type e i hu hi b2 0 xs.length cap2 (a.eval y) 1 vs hsr hroom (fun j hj=>by
            have:xs.length*i.size+j<arr.size:=by omega
            simp [World.cell?,h5,this]) (fun j hj=>by simp only [World.frozen?,h5];simp)
           rw [<- h8] at hr
           have hul:=hfx.len
           have hbφ:=(hinv.store.ob b2 (by rw [h4];simp)).2
           refine⟨_,_,_,arr',T,hex hr,hinv,hbφ,.inr (by rw [h4];simp),fun l' hl' ys'=>?_,fun l' hl' ys'=>?_,k6,k7,k8,by rw [k5];exact à _,fun k _ hk=>k4 k hk,fun q hq=>?_,k1,by rw [k2,h6],hroom,h10,hpos,hrow,fun q hq j hj=>?_⟩
           . rw [h4] at hl'
             obtain rfl:=Af hl'
             exact hno ys'
           . rw [h4] at hl'
             obtain rfl:=Af hl'
             exact hnp ys'
           . have h13:=h7 q hq
             refine⟨Kp.ofCells ?_ h5,h13⟩
             simp only [World.cell?,k1,h5]
             simp only [Option.isSome_none,è,Ā]
             rw [k3 q,Ä (by omega)]
           . have hj':j<i.size:=by rw [<- hfx.row _ (Ú hq)];exact hj
             have hlt:=Jy hq hj'
             have e:arr'.getD (q*i.size+j) Go.undef=us.getD (q*i.size+j) Go.undef:=by
              rw [É,k3 (q*i.size+j),List.getD,Ä (by omega)]
              have h14:=h12 (q*i.size+j) _ (Ã (show q*i.size+j<us.length by omega))
              have h15:=h14.1
              simp only [World.cell?,h5,ñ] at h15
              rw [Ã (show q*i.size+j<us.length by omega)]
              simpa using congrArg (fun o=>Option.getD o Go.undef) h15
             rw [e]
             refine⟨hfx.v q hq j hj,?_⟩
             have hlt2:q*i.size+j<us.length:=by omega
             have:us.getD (q*i.size+j) Go.undef=us[q*i.size+j]:=by simp only [List.getD];rw [Ã hlt2];rfl
             rw [this];exact hfx.one _ (Ú hlt2)
         . exact grow _ cap2 us h8 hfx (Ī _ _ _ _ _ _ us hfx.len (fun j u hj=>by rw [addr_add];exact (h12 j u hj).1)) (by omega)
theorem Adf.row_inv {w1:World}{xs:List (List PV)}{sz b cap:Nat}{T:TypeId}{arr:Array Value}{r:List PV}{rvs:List Value}{tm:Nat->Value}(h:Inv w0 G0 st1 tm w G)(k:Adf w w1 G st1 xs sz b cap T arr)
 (hr:r.length=sz) (hl:rvs.length=sz) (hv:∀ i (hi:i<r.length),V w G.U [] r[i] (rvs.getD i Go.undef)/\(rvs.getD i Go.undef).oneCell'=true) :
 ∃ G',G'.φ=G.φ/\Inv w0 G0 (st1.put (some d) (.sl (xs++[r]) .own)) (GG tm d (.slice (some ⟨b,0,none⟩) (xs.length+1) cap)) (w1.setCells b (xs.length*sz) rvs) G':=by
 obtain⟨arr',k1,k2,k3,k4,k5,k6,k7,k8⟩:=CS b T rvs (xs.length*sz) w1 arr k.blk
 have hlen:(xs++[r]).length=xs.length+1:=by simp
 have hfit:xs.length*sz+sz<=arr.size:=by
  have:=ð sz k.room
  rw [ó,ğ] at this
  rw [k.asz];exact this
 have hO:=h.own (d:=d) (b:=b) (sz:=sz) (cap:=cap) (xs:=xs++[r]) (arr:=arr') (T:=T) (w':=w1.setCells b (xs.length*sz) rvs) k.hb k.free k.no k.nop (k6.trans k.os) (k7.trans k.tape) (k8.trans k.output)
  (by rw [k5];exact k.size) (fun q hq hne=>(k4 q hne).trans (k.old q hq hne)) (fun q hq=>by
   obtain⟨e1,e2⟩:=k.keepU q hq
   refine⟨e1.trans (Kp.ofCells ?_ k.blk),by rw [hlen,ó];omega⟩
   simp only [World.cell?,k1,k.blk]
   simp only [Option.isSome_none,è,Ā]
   rw [k3 q,Ä (by omega)]) k1 (by rw [k2,k.asz]) (by simp) (fun x hx=>by
   rcases List.mem_append.1 hx with hx|hx
   . exact k.row x hx
   . rw [List.mem_singleton.1 hx];exact hr) (by rw [hlen];exact k.room) k.max (fun q hq j hj=>by
   rw [hlen] at hq
   by_cases hc:q<xs.length
   . have e1:(xs++[r])[q]'(by rw [hlen];exact hq)=xs[q]:=Ċ hc
     simp only [e1] at hj ⊢
     have hj':j<sz:=by rw [<- k.row _ (Ú hc)];exact hj
     have hlt:=Jy hc hj'
     have e2:arr'.getD (q*sz+j) Go.undef=arr.getD (q*sz+j) Go.undef:=by
      rw [É,k3,Ä (by omega),<- É]
     rw [e2];exact k.v q hc j hj
   . have hq2:q=xs.length:=by omega
     subst hq2
     have e1:(xs++[r])[xs.length]'(by rw [hlen];exact hq)=r:=by simp
     simp only [e1] at hj ⊢
     have e2:arr'.getD (xs.length*sz+j) Go.undef=rvs.getD j Go.undef:=by
      rw [É,k3,Ç (by omega),List.getD]
      congr 2;omega
     rw [e2];exact hv j hj)
 rw [hlen] at hO
 refine⟨_,?_,hO⟩
 rfl
theorem Tb (w:World){b g:Nat}(hne:b≠g)(o p:Nat)(u v:Value):(w.setCell ⟨b,o,none⟩ u).setCell ⟨g,p,none⟩ v=(w.setCell ⟨g,p,none⟩ v).setCell ⟨b,o,none⟩ u:=by
 unfold World.setCell
 congr 1
 all_goals grind [World.setCell]
theorem Lo {b g:Nat}(hne:b≠g)(p:Nat)(v:Value):∀ (vs:List Value) (o:Nat) (w:World),(w.setCells b o vs).setCell ⟨g,p,none⟩ v=(w.setCell ⟨g,p,none⟩ v).setCells b o vs
 | [],_,_=>rfl
 |u::r,o,w=>by
  rw [World.setCells,World.setCells,Lo hne p v r,Tb w hne]
theorem Mt {b g:Nat}(hne:b≠g)(o:Nat)(vs:List Value):∀ (us:List Value) (p:Nat) (w:World),(w.setCells b o vs).setCells g p us=(w.setCells g p us).setCells b o vs
 | [],_,_=>rfl
 |u::r,p,w=>by
  rw [World.setCells,World.setCells,Lo hne p u,Mt hne o vs r]
theorem OO {T T':TypeId}{b off:Nat}{arr:Array Value}{f:Nat×Nat}(hf:f=(0,0))(hn:Ms P T=some v.cells.size)(hb:w.heap[b]?=some (.cells arr T' f))(hl:off+v.cells.size<=arr.size)(h1:∀ u∈v.cells.toList,u.oneCell'=true) :
 (Instr.storeAt T (.pointer (some ⟨b,off,none⟩)) v).run P w=.ok () (w.setCells b off v.cells.toList):=by
 subst hf
 have hrun:=run_storeCells_cells (P:=P) b off v.cells.toList 0 w (fun j hj=>by
  have:off+j<arr.size:=by simp at hj;omega
  simp [World.cell?,hb,this]) (fun j hj=>by simp only [World.frozen?,hb];simp) h1
 rw [Nat.add_zero] at hrun
 simp only [Instr.storeAt,Instr.sureAddr,storeVar,Ñ,Ö,Ê,EM hn,ġ]
 rw [Ä (by simp)]
 simp only [hrun]
theorem T1 {t:TypeId}{n m b k cap len:Nat}{ik:IntKind}(hs:X6 P t=some (n,m))(hk:k<len):(Instr.indexAt t (.slice (some ⟨b,0,none⟩) len cap) (.int ik k)).run P w=.ok (.pointer (some ⟨b,k*n,none⟩)) w:=by
 obtain⟨e,inf,h1,h2,h3,h4⟩:=GS hs
 have hsz:Ms P e=some n:=by simp [Ms,h2,h3]
 simp only [Instr.indexAt,asIntOf,Ñ,Ö,Ê,Ý h1,ġ]
 rw [Ç ⟨by omega,by omega⟩]
 simp only [EM hsz,Ê,addr_add,ñ,Int.toNat_natCast]
theorem Ad4 {sz:Nat}(h:V w U φ p v)(hok:Je sz p=true):v.cells.size=sz/\(rowOf p).length=sz/\(∀ i (hi:i<(rowOf p).length),V w U [] (rowOf p)[i] (v.cells.toList.getD i Go.undef)/\(v.cells.toList.getD i Go.undef).oneCell'=true):=by
 simp only [Je,Å,ú,ā] at hok
 obtain⟨h1,h2,h3⟩:=hok
 have hp:HW p=true∨∃ cs,p=.agg cs:=by
  rcases h2 with h2|h2
  . exact .inl h2
  . right
    cases p with
    |agg cs=>exact⟨cs,rfl⟩
    |_=>cases h2
 obtain⟨hs,hc⟩:=h.cells hp
 refine⟨hs.trans h1,by simp [rowOf,h1],fun i hi=>?_⟩
 have hi2:i<(Cx p).length:=by simpa [rowOf] using hi
 have e:(rowOf p)[i]=Bg (Cx p)[i]:=by simp [rowOf]
 have e2:v.cells.toList.getD i Go.undef=v.cells.getD i Go.undef:=by simp [List.getD,É]
 rw [e,e2]
 obtain⟨k1,k2⟩:=hc i hi2
 exact⟨(C2 k1).pure (QP (DY h3 i hi2)),k2⟩
def Pw (x:Operand)(d:Nat):Bool:=match x with
 |.tmp t=>!(t == d)
 |_=>true
theorem JB {x:Operand}{d:Nat}(h:Pw x d=true):x≠.tmp d:=by
 rintro rfl
 simp [Pw] at h
def four (P:Program)(oi oj ok ol:Oper)(st:St):Option (Bool×St) :=
 match oi.op,oi.dst,oj.op,oj.dst,ok.op,ok.dst,ol.op,ol.dst with
 |.call c,some d1,.indexAddr T (.tmp e1) ix,some d2,.store T3 (.tmp e2) z,none,.store T4 xl (.tmp e3),none =>
  match c.callee,c.args.toList,c.argTypes.toList with
  |.builtin .append,[x,y],[t,t'] =>
   match apT P t,FW st x with
   |some (sz,bytes),some (xs,_,st1) =>
    match HK P t' sz st y,Cu st ix,X6 P T with
    |some [zr],.lit (.int _ n),some (sz2,_) =>
     match H7 P T4 ((st1.put (some d1) (.sl (xs++[rowOf (Cu st z)]) .own)).put (some d2) .undef) xl (.tmp d1) with
     |some (c,st3)=>some (c&&(decide (e1=d1/\e2=d2/\e3=d1/\d1≠d2/\sz2=sz/\Ms P T3=some sz/\zr.length=sz)&&((Pw ix d1&&(Pw z d1&&(Pw z d2&&(Pw xl d1&&Pw xl d2)))) &&
      (Je sz (Cu st z)&&(decide (n=(xs.length:Int))&&(decide ((xs.length+1)*max bytes 1<=140737488355328)&&xs.all (fun x=>x.length == sz)))))),st3)
     |none=>none
    |_,_,_=>none
   |_,_=>none
  |_,_,_=>none
 |_,_,_,_,_,_,_,_=>none
theorem eval_put {a:Act}{d:Nat}{v:Value}{x:Operand}(h:x≠.tmp d):(a.put (some d) v).eval x=a.eval x:=by
 cases x with
 |tmp t =>
  have hne:d≠t:=fun e=>h (by rw [e])
  show (a.tmps.setIfInBounds d v).getD t Go.undef=a.tmps.getD t Go.undef
  rw [É,Ģ hne,<- É]
 |_=>rfl
theorem H6 {a:Act}{d:Nat}{v:Value}(h:d<a.tmps.size):(a.put (some d) v).eval (.tmp d)=v:=by
 show (a.tmps.setIfInBounds d v).getD d Go.undef=v
 simp [h]
theorem Nt {a:Act}{d:Option Tmp}{v:Value}:(a.put d v).tmps.size=a.tmps.size:=by
 cases d with
 |none=>rfl
 |some d=>show (a.tmps.setIfInBounds d v).size=_;simp
theorem ZY {oi oj ok ol:Oper}{d1 d2:Nat}(h:Inv w0 G0 st (AH a) w G)(h1:oi.dst=some d1)(h2:oj.dst=some d2)(hd1:d1<a.tmps.size)(hd2:d2<a.tmps.size)(he:four P oi oj ok ol st=some (true,st')) :
 ∃ v p w1 wk wl w3 G',(execOp a.eval oi).run P w=.ok (.value v) w1 /\
  (∀ w',(execOp (a.put (some d1) v).eval oj).run P w'=.ok (.value p) w') /\
  (execOp (a.put (some d1) v).eval ol).run P w1=.ok .skip wl /\
  (execOp ((a.put (some d1) v).put (some d2) p).eval ol).run P w1=.ok .skip wl /\
  (execOp ((a.put (some d1) v).put (some d2) p).eval ok).run P w1=.ok .skip wk /\
  (execOp ((a.put (some d1) v).put (some d2) p).eval ok).run P wl=.ok .skip w3 /\
  (execOp ((a.put (some d1) v).put (some d2) p).eval ol).run P wk=.ok .skip w3 /\
  ok.dst=none/\ol.dst=none /\
  Inv w0 G0 st' (AH ((a.put (some d1) v).put (some d2) p)) w3 G':=by
 unfold four at he
 split at he
 . rename_i c d1' T e1 ix d2' T3 e2 z T4 xl e3 hopi hdi hopj hdj hopk hdk hopl hdl
   obtain rfl:d1'=d1:=Af (hdi.symm.trans h1)
   obtain rfl:d2'=d2:=Af (hdj.symm.trans h2)
   split at he
   . rename_i x y t t' hcal hx ht
     split at he
     . rename_i sz bytes xs full st1 hap hbase
       split at he
       . rename_i zr ik n sz2 m hsrc hix hsl
         split at he
         . rename_i c2 st3 hst
           simp only [Â,È,Å,Î] at he
           obtain⟨⟨rfl,⟨rfl,rfl,rfl,hne,rfl,hT3,hzl⟩,⟨hi1,hz1,hz2,hx1,hx2⟩,hrow,rfl,hbound,hall⟩,rfl⟩:=he
           have hi1:=JB hi1
           have hz1:=JB hz1
           have hz2:=JB hz2
           have hx1:=JB hx1
           have hx2:=JB hx2
           obtain⟨callee,args,ats⟩:=c
           have ea:args = #[x,y]:=by rw [<- ì (xs:=args)];exact congrArg _ hx
           have et:ats = #[t,t']:=by rw [<- ì (xs:=ats)];exact congrArg _ ht
           obtain⟨b,cap,w1,arr,TB,hrun,hinv,hA⟩:=Xk (o:=oi) h ⟨callee,args,ats,hopi,hcal,ea,et⟩ hap hbase hsrc hbound hall hzl
           have hzV:=B1 (a:=a) h.env z
           obtain⟨r1,r2,r3⟩:=Ad4 hzV hrow
           obtain⟨G2,hφ2,hI2⟩:=hA.row_inv (d:=e3) (rvs:=(a.eval z).cells.toList) hinv r2 (by simpa using r1) r3
           have hn:X6 P T=some (sz2,m):=hsl
           refine⟨.slice (some ⟨b,0,none⟩) (xs.length+1) cap,.pointer (some ⟨b,xs.length*sz2,none⟩),w1,w1.setCells b (xs.length*sz2) (a.eval z).cells.toList,?_⟩
           have hv1:AH (a.put (some e3) (.slice (some ⟨b,0,none⟩) (xs.length+1) cap))=GG (AH a) e3 (.slice (some ⟨b,0,none⟩) (xs.length+1) cap):=Bq hd1 _
           generalize hvdef:Value.slice (some ⟨b,0,none⟩) (xs.length+1) cap=v at *
           have hI3:=hI2.putPlain e2 (v:=.pointer (some ⟨b,xs.length*sz2,none⟩)) (.undef _ _) rfl
           have hv2:AH ((a.put (some e3) v).put (some e2) (.pointer (some ⟨b,xs.length*sz2,none⟩)))=GG (GG (AH a) e3 v) e2 (.pointer (some ⟨b,xs.length*sz2,none⟩)):=by
            rw [Bq (by rw [Nt];exact hd2),hv1]
           have hev:((a.put (some e3) v).put (some e2) (.pointer (some ⟨b,xs.length*sz2,none⟩))).eval (.tmp e3)=v:=by
            rw [eval_put (by intro e;cases e;exact hne rfl),H6 hd1]
           have hevx:((a.put (some e3) v).put (some e2) (.pointer (some ⟨b,xs.length*sz2,none⟩))).eval xl=a.eval xl:=by
            rw [eval_put hx2,eval_put hx1]
           have hevz:((a.put (some e3) v).put (some e2) (.pointer (some ⟨b,xs.length*sz2,none⟩))).eval z=a.eval z:=by
            rw [eval_put hz2,eval_put hz1]
           have hevp:((a.put (some e3) v).put (some e2) (.pointer (some ⟨b,xs.length*sz2,none⟩))).eval (.tmp e2)=.pointer (some ⟨b,xs.length*sz2,none⟩):=H6 (by rw [Nt];exact hd2)
           have hI4:Inv w0 G0 ((st1.put (some e3) (.sl (xs++[rowOf (Cu st z)]) .own)).put (some e2) .undef) (AH ((a.put (some e3) v).put (some e2) (.pointer (some ⟨b,xs.length*sz2,none⟩)))) (w1.setCells b (xs.length*sz2) (a.eval z).cells.toList) G2:=by
            rw [hv2];exact hI3
           obtain⟨w3,G3,hrun3,hI5,_⟩:=LF (a:=(a.put (some e3) v).put (some e2) (.pointer (some ⟨b,xs.length*sz2,none⟩))) hI4 hst
           rw [hev,hevx] at hrun3
           obtain⟨k0,off,b0,arr0,T0,hxl,hb0,hblk0,hoff,hsz4⟩:∃ (k0 off b0:Nat) (arr0:Array Value) (T0:TypeId),a.eval xl=.pointer (some ⟨b0,off,none⟩)/\G2.φ[k0]?=some b0/\(w1.setCells b (xs.length*sz2) (a.eval z).cells.toList).heap[b0]?=some (.cells arr0 T0 (0,0))/\off+1<=arr0.size/\Ms P T4=some 1:=by
            have hg:((st1.put (some e3) (.sl (xs++[rowOf (Cu st z)]) .own)).put (some e2) .undef).get e3=.sl (xs++[rowOf (Cu st z)]) .own:=by
             have hg0:(st1.put (some e3) (.sl (xs++[rowOf (Cu st z)]) .own)).get e3=.sl (xs++[rowOf (Cu st z)]) .own:=by rw [BA,Ç rfl]
             rw [BA,Ä (ě hne),hg0]
             split<;>rfl
            have hot:L2 ((st1.put (some e3) (.sl (xs++[rowOf (Cu st z)]) .own)).put (some e2) .undef) (.tmp e3)=some (e3,xs++[rowOf (Cu st z)]):=by
             unfold L2;simp only [hg]
            have hxV:=B1 (a:=(a.put (some e3) v).put (some e2) (.pointer (some ⟨b,xs.length*sz2,none⟩))) hI4.env xl
            rw [hevx] at hxV
            unfold H7 at hst
            split at hst
            . rename_i k0 off n hxp hn4
              rw [hxp] at hxV
              split at hst
              . rename_i cs hcs
                obtain⟨hcs,hnm⟩:=HM hcs
                rw [hot] at hst
                simp only [Â,È,Î] at hst
                obtain⟨⟨rfl,ho⟩,_⟩:=hst
                generalize a.eval xl=xv at hxV
                cases hxV with
                |ptr _ _ _ b0 hk =>
                 obtain⟨⟨o',arr0,hb,⟨hlay,hsz⟩,hcell⟩,hnoU⟩:=hI4.store.blk k0 b0 cs hk hcs
                 obtain⟨T0,rfl⟩:=hlay.cells hnm
                 exact⟨k0,off,b0,arr0,T0,rfl,hk,hb,by omega,hn4⟩
              . cases hst
            . cases hst
           have hvc:v.cells = #[v]:=by rw [<- hvdef];rfl
           have hv1c:v.oneCell'=true:=by rw [<- hvdef];rfl
           have hbne:b≠b0:=by
            rintro rfl
            exact hA.hb (by rw [<- hφ2];exact Ò hb0)
           obtain⟨arr',k1,k2,k3,k4,_⟩:=CS b TB (a.eval z).cells.toList (xs.length*sz2) w1 arr hA.blk
           have hblk1:w1.heap[b0]?=some (.cells arr0 T0 (0,0)):=by rw [<- k4 b0 hbne.symm];exact hblk0
           have sl:∀ w',w'.heap[b0]?=some (.cells arr0 T0 (0,0))->(Instr.storeAt T4 (a.eval xl) v).run P w'=.ok () (w'.setCells b0 off [v]):=by
            grind [OO]
           have hfit:xs.length*sz2+(a.eval z).cells.size<=arr.size:=by
            rw [r1]
            have:=ð sz2 hA.room
            rw [ó,ğ] at this
            rw [hA.asz];exact this
           have hone:∀ u∈(a.eval z).cells.toList,u.oneCell'=true:=by
            grind [List.getElem_of_mem,List.getD]
           have sk:∀ w',w'.heap[b]?=some (.cells arr TB (0,0))->(Instr.storeAt T3 (.pointer (some ⟨b,xs.length*sz2,none⟩)) (a.eval z)).run P w'=.ok () (w'.setCells b (xs.length*sz2) (a.eval z).cells.toList):=fun w' hb' =>
            OO (P:=P) rfl (by rw [r1];exact hT3) hb' hfit hone
           have hw3:w3=(w1.setCells b (xs.length*sz2) (a.eval z).cells.toList).setCells b0 off [v]:=by
            have:=sl _ hblk0
            rw [hrun3] at this
            cases this;rfl
           have hwlb:(w1.setCells b0 off [v]).heap[b]?=some (.cells arr TB (0,0)):=by
            obtain⟨_,_,_,_,q4,_⟩:=CS b0 T0 [v] off w1 arr0 hblk1
            rw [q4 b hbne];exact hA.blk
           have ex:∀ {a':Act} {w' w''},(Instr.storeAt T4 (a'.eval xl) (a'.eval (.tmp e3))).run P w'=.ok () w''->(execOp a'.eval ol).run P w'=.ok .skip w'':=by
            grind [Sem.run_bind,Result.andThen_ok,Sem.run_pure,execOp]
           have exk:∀ {a':Act} {w' w''},(Instr.storeAt T3 (a'.eval (.tmp e2)) (a'.eval z)).run P w'=.ok () w''->(execOp a'.eval ok).run P w'=.ok .skip w'':=by
            grind [Sem.run_bind,Result.andThen_ok,Sem.run_pure,execOp]
           refine⟨w1.setCells b0 off [v],w3,G3,hrun,fun w'=>?_,ex ?_,ex ?_,exk ?_,exk ?_,ex ?_,hdk,hdl,hI5⟩
           . have hixV:=B1 (a:=a) h.env ix
             rw [hix] at hixV
             have hixe:a.eval ix=.int ik (xs.length:Int):=by
              revert hixV;generalize a.eval ix=q;intro hixV
              cases hixV;rfl
             unfold execOp;rw [hopj]
             have hr:=T1 (P:=P) (w:=w') (t:=T) (n:=sz2) (m:=m) (b:=b) (k:=xs.length) (cap:=cap) (len:=xs.length+1) (ik:=ik) hn (by omega)
             rw [hvdef] at hr
             simp only [H6 hd1,eval_put hi1,hixe,Ñ,hr,Ê,Ö]
           . rw [eval_put hx1,H6 hd1];exact sl _ hblk1
           . rw [hev,hevx];exact sl _ hblk1
           . rw [hevp,hevz];exact sk _ hA.blk
           . rw [hevp,hevz,hw3,Mt hbne];exact sk _ hwlb
           . rw [hev,hevx,hw3];exact sl _ hblk0
         . cases he
       . cases he
     . cases he
   . cases he
 . cases he
end
end Go.Vl
namespace Go.Q
open Go
section
variable {P:Program} {ops:Array Oper} {Q Q':Exit->Act->World->Prop}
theorem PH {i:Nat}{a:Act}{w:World}{K K':Act->World->Prop}(hQ:∀ e a w,e≠.normal->Q e a w->Q' e a w)(h:∀ a w,K a w->K' a w)(hh:wpOp P ops Q i K a w):wpOp P ops Q' i K' a w:=by
 have hL:LetsOut Q->LetsOut Q':=fun ⟨a,w,h⟩=>⟨a,w,hQ _ _ _ (by simp) h⟩
 unfold wpOp at *
 split
 . exact h _ _ (by simpa [*] using hh)
 . rename_i o ho
   simp only [ho] at hh
   split
   . rename_i hw
     simp only [hw,ù] at hh
     refine hh.imp (fun hh=>?_) (fun hh=>⟨hh.1,hL hh.2⟩)
     unfold Oper.wp at *
     generalize (execOp a.eval o).run P w=r at *
     cases r with
     |ok n w' =>
      cases n<;>simp only [Oper.upon] at hh ⊢ <;>
       first
        |exact h _ _ hh
        |exact Calls.mono hh (fun e w'' he=>by cases e<;>first|exact h _ _ he|exact hQ _ _ _ (by simp) he|exact hL he)
        |exact Rows.mono hh (fun _ _ he=>h _ _ he)
     |halt x w'=>cases x<;>simp only [Oper.upon] at hh ⊢<;>first|exact hQ _ _ _ (by simp) hh|exact hh
   . rename_i hw;simp only [hw] at hh;exact h _ _ hh
def Oq (ops:Array Oper)(c:List Nat)(i:Nat)(D:Array Bool):Bool:=(Region.ready .any ops D).contains i&&(if cl c i=0∨cl c i=1 then Region.free .any ops D i else decide (Region.ready .any ops D=[i]))
def Wq (ops:Array Oper)(c:List Nat):List Nat->Array Bool->Option (Array Bool)
 | [],D=>some D
 |i::t,D=>if Oq ops c i D=true then Wq ops c t (D.setIfInBounds i true) else none
theorem GM {c:List Nat}{m:Nat}{D':Array Bool}(hsel:Region.noSelect ops=true)(hQ:∀ c d v a w,Q (.panic c) (a.put d v) w->Q (.panic c) a w)(hQQ:∀ e a w,e≠.normal->Q' e a w->Q e a w)
 (hrest:∀ (S:World->Prop) a w,S w->Q' .normal a w->DA P ops Q c m S D' a w):∀ (t:List Nat) (S:World->Prop) (D:Array Bool) (a:Act) (w:World),ED ops D ->
 S w->Wq ops c t D=some D'->HY P ops Q' c S t a w->DA P ops Q c (t.length+m) S D a w
 | [],S,D,a,w,_,hS,hok,h=>by
  obtain rfl:=Af hok
  rw [í,ñ]
  exact hrest S a w hS h
 |i::t,S,D,a,w,hD,hS,hok,h=>by
  rw [show (i::t).length+m=(t.length+m)+1 by simp;omega]
  unfold Wq at hok
  split at hok
  . rename_i hg
    unfold Oq at hg
    simp only [Å] at hg
    obtain⟨hr,hf⟩:=hg
    have hr':i∈Region.ready .any ops D:=by simpa using hr
    obtain⟨_,oi,hoi,_⟩:=mem_ready.1 hr'
    unfold HY at h
    simp only [hoi] at h
    by_cases h0:cl c i=0
    . rw [Ç h0] at h
      rw [Ç (.inl h0)] at hf
      obtain⟨v,hy,hw⟩:=h
      exact GL (T:=fun _=>True) hoi (č hsel) (fun _ a w h=>hQ _ _ _ a w h) (.inl h0) (.inl fun _=>trivial) (t.length+m) S D a w hD hS (fun _ _=>trivial) (Ĝ hoi hf) hr' hy
       (GM hsel hQ hQQ hrest t S _ _ w (hD.set hr') hS hok hw)
    . rw [Ä h0] at h
      by_cases h1:cl c i=1
      . rw [Ç h1] at h
        rw [Ç (.inr h1)] at hf
        obtain⟨v,hy,hw⟩:=h
        exact Hw hoi (č hsel) (fun _ a w h=>hQ _ _ _ a w h) h1 (t.length+m) S D a w hD hS (Ĝ hoi hf) hr' hy
         (GM hsel hQ hQQ hrest t S _ _ w (hD.set hr') hS hok hw)
      . rw [Ä h1] at h
        rw [Ä (by simp [h0,h1])] at hf
        have hf':Region.ready .any ops D=[i]:=by simpa using hf
        refine⟨fun h=>(by rw [h] at hr';cases hr'),fun j hj=>?_⟩
        rw [hf'] at hj
        obtain rfl:j=i:=by simpa using hj
        refine PH hQQ (fun a' w' h3=>?_) h
        obtain⟨S',k1,k2,k3⟩:=h3
        exact⟨S',by unfold F8;rw [Ä (by simp [h0,h1])];exact⟨k1,k2⟩,GM hsel hQ hQQ hrest t S' _ a' w' (hD.set hr') k1 hok k3⟩
  . cases hok
theorem Ld {c:List Nat}{m:Nat}{D':Array Bool}{S:World->Prop}{w:World}(hsel:Region.noSelect ops=true)(hQ:∀ c d v a w,Q (.panic c) (a.put d v) w->Q (.panic c) a w)
 (hrest:∀ a,Q' .normal a w->DA P ops Q c m S D' a w):∀ (t:List Nat) (D:Array Bool) (a:Act),t.all (fun i=>cl c i == 0||cl c i == 1)=true->ED ops D ->
 S w->Wq ops c t D=some D'->HY P ops Q' c S t a w->DA P ops Q c (t.length+m) S D a w
 | [],D,a,_,hD,hS,hok,h=>by
  obtain rfl:=Af hok
  rw [í,ñ]
  exact hrest a h
 |i::t,D,a,hq,hD,hS,hok,h=>by
  rw [show (i::t).length+m=(t.length+m)+1 by simp;omega]
  rw [Ď,Å,ú,ā,ā] at hq
  unfold Wq at hok
  split at hok
  . rename_i hg
    unfold Oq at hg
    simp only [Å] at hg
    obtain⟨hr,hf⟩:=hg
    have hr':i∈Region.ready .any ops D:=by simpa using hr
    obtain⟨_,oi,hoi,_⟩:=mem_ready.1 hr'
    unfold HY at h
    simp only [hoi] at h
    rcases hq.1 with h0|h1
    . rw [Ç h0] at h
      rw [Ç (.inl h0)] at hf
      obtain⟨v,hy,hw⟩:=h
      exact GL (T:=fun _=>True) hoi (č hsel) (fun _ a w h=>hQ _ _ _ a w h) (.inl h0) (.inl fun _=>trivial) (t.length+m) S D a w hD hS (fun _ _=>trivial) (Ĝ hoi hf) hr' hy
       (Ld hsel hQ hrest t _ _ hq.2 (hD.set hr') hS hok hw)
    . have h0:¬ cl c i=0:=by omega
      rw [Ä h0,Ç h1] at h
      rw [Ç (.inr h1)] at hf
      obtain⟨v,hy,hw⟩:=h
      exact Hw hoi (č hsel) (fun _ a w h=>hQ _ _ _ a w h) h1 (t.length+m) S D a w hD hS (Ĝ hoi hf) hr' hy
       (Ld hsel hQ hrest t _ _ hq.2 (hD.set hr') hS hok hw)
  . cases hok
theorem El {c:List Nat}{fuel x y:Nat}{S:World->Prop}{D:Array Bool}{a:Act}{w:World}(hr:(Region.ready .any ops D).all (fun z=>z == x||z == y)=true)(hne:(Region.ready .any ops D).isEmpty=false)
 (hx:wpOp P ops Q x (fun a' w'=>∃ S',F8 ops S S' c x w w'/\DA P ops Q c fuel S' (D.setIfInBounds x true) a' w') a w)
 (hy:wpOp P ops Q y (fun a' w'=>∃ S',F8 ops S S' c y w w'/\DA P ops Q c fuel S' (D.setIfInBounds y true) a' w') a w):DA P ops Q c (fuel+1) S D a w:=by
 refine⟨fun h=>(by rw [h] at hne;cases hne),fun z hz=>?_⟩
 all_goals grind
theorem PG {i:Nat}{o:Oper}{K:Act->World->Prop}{a:Act}{w w':World}{v:Value}(ho:ops[i]?=some o)(hg:o.guard=none)(hr:(execOp a.eval o).run P w=.ok (.value v) w')(hk:K (a.put o.dst v) w'):wpOp P ops Q i K a w:=by
 unfold wpOp
 have hw:Region.wanted o (yielded ops a.tmps)=true:=by unfold Region.wanted;rw [hg]
 simp only [ho,hw,ù]
 left
 unfold Oper.wp
 rw [hr];exact hk
theorem Io {i:Nat}{o:Oper}{K:Act->World->Prop}{a:Act}{w w':World}(ho:ops[i]?=some o)(hg:o.guard=none)(hd:o.dst=none)(hr:(execOp a.eval o).run P w=.ok .skip w')(hk:K a w'):wpOp P ops Q i K a w:=by
 unfold wpOp
 have hw:Region.wanted o (yielded ops a.tmps)=true:=by unfold Region.wanted;rw [hg]
 simp only [ho,hw,ù]
 left
 unfold Oper.wp
 rw [hr]
 show K (a.put o.dst Go.undef) w'
 rw [hd];exact hk
end
end Go.Q
namespace Go.Vl
open Go Go.RowKit Go.Q
def Pv (ops:Array Oper)(D:Array Bool)(x y:Nat):Bool:=(Region.ready .any ops D).all (fun z=>z == x||z == y)&&!(Region.ready .any ops D).isEmpty
def GU (D:Array Bool)(x:Nat):Array Bool:=D.setIfInBounds x true
def Ot (ops:Array Oper)(i j k l:Nat)(D:Array Bool):Bool :=
 (cl (C1 ops) i == 2&&(cl (C1 ops) j == 0&&(cl (C1 ops) k == 2&&cl (C1 ops) l == 2)))&&((!Ep ops (C1 ops) i&&(!Ep ops (C1 ops) k&&!Ep ops (C1 ops) l)) &&
 ((Pv ops D i i&&(Pv ops (GU D i) j l&&(Pv ops (GU (GU D i) j) k l&&(Pv ops (GU (GU D i) l) j j&&(Pv ops (GU (GU (GU D i) j) k) l l&&(Pv ops (GU (GU (GU D i) j) l) k k&&Pv ops (GU (GU (GU D i) l) j) k k)))))) &&
 ((Region.ready .any ops (GU (GU (GU (GU D i) j) k) l)).isEmpty&&((Region.ready .any ops (GU (GU (GU (GU D i) j) l) k)).isEmpty&&(Region.ready .any ops (GU (GU (GU (GU D i) l) j) k)).isEmpty))))
def H4 (o:Oper):Bool:=match o.guard with|none=>true|some _=>false
def Kz (P:Program)(ops:Array Oper)(K:AX->St->Prop)(t:List Nat)(st:St):Prop :=
 match t with
 | [i,j,k,l]=>match ops[i]?,ops[j]?,ops[k]?,ops[l]? with
  |some oi,some oj,some ok,some ol=>match four P oi oj ok ol st with
   |some (c,st')=>(c&&(H4 oi&&(H4 oj&&(H4 ok&&H4 ol))))=true/\K .normal st'
   |none=>False
  |_,_,_,_=>False
 |_=>False
def EL (P:Program)(ops:Array Oper)(K:AX->St->Prop)(t:List Nat)(x:AX)(st:St):Prop:=match x with
 |.normal=>Kz P ops K t st
 |x=>K x st
def Ti (ops:Array Oper)(pre t:List Nat):Bool :=
 Region.noSelect ops&&(pre.length+4 == ops.size&&(E8 ops pre&&(match t with
  | [i,j,k,l]=>match Wq ops (C1 ops) pre (Array.replicate ops.size false) with
   |some D=>Ot ops i j k l D
   |none=>false
  |_=>false)))
section
variable {w w' w0 ws w2:World} {G G' G0 Gs G2:Gh} {P:Program} {st st':St} {a:Act} {n:Nat} {ops:Array Oper} {K:AX->St->Prop} {ds:List Deferred} {M:List Nat}
theorem ZZ {oi oj ok ol:Oper}{r:Bool×St}(h:four P oi oj ok ol st=some r):∃ d1 d2,oi.dst=some d1/\oj.dst=some d2:=by
 grind [four]
theorem Ij {o:Oper}(h:H4 o=true):o.guard=none:=by
 unfold H4 at h
 split at h
 . assumption
 . cases h
theorem Vh {i j k l:Nat}{D:Array Bool}{S:World->Prop}(hdst:∀ o∈ops.toList,∀ d,o.dst=some d->d<n)(h:Inv ws Gs st (AH a) w G)(hdef:a.defers=ds)(hsz:a.tmps.size=n)(hok:Ot ops i j k l D=true)
 (he:Kz P ops K [i,j,k,l] st):DA P ops (CG ds ws Gs n K) (C1 ops) 4 S D a w:=by
 simp only [Ot,Å,ā,ç,Pv] at hok
 obtain⟨⟨ci,cj,ck,cl'⟩,⟨ni,nk,nl⟩,⟨⟨a1,b1⟩,⟨a2,b2⟩,⟨a3,b3⟩,⟨a4,b4⟩,⟨a5,b5⟩,⟨a6,b6⟩,⟨a7,b7⟩⟩,e1,e2,e3⟩:=hok
 unfold Kz at he
 simp only at he
 split at he
 . rename_i oi oj ok ol hi hj hk hl
   split at he
   . rename_i c st' hf
     simp only [Å] at he
     obtain⟨⟨rfl,gi,gj,gk,gl⟩,hK⟩:=he
     have gi:=Ij gi
     have gj:=Ij gj
     have gk:=Ij gk
     have gl:=Ij gl
     obtain⟨d1,d2,hd1,hd2⟩:=ZZ hf
     have mem:∀ {x o},ops[x]?=some o->o∈ops.toList:=fun h=>by simpa using Array.mem_of_getElem? h
     obtain⟨v,p,w1,wk,wl,w3,G3,r1,r2,r3,r4,r5,r6,r7,r8,r9,hI⟩:=ZY h hd1 hd2 (by rw [hsz];exact hdst _ (mem hi) _ hd1) (by rw [hsz];exact hdst _ (mem hj) _ hd2) hf
     have loud:∀ {x:Nat} {w w':World} {S:World->Prop},cl (C1 ops) x=2->Ep ops (C1 ops) x=false->F8 ops S (fun _=>True) (C1 ops) x w w':=by
      grind [F8]
     have quiet:∀ {w:World} {S:World->Prop},F8 ops S S (C1 ops) j w w:=by
      intro w S
      unfold F8
      rw [Ç (.inl cj)]
      exact⟨rfl,rfl⟩
     have post:CG ds ws Gs n K .normal ((a.put (some d1) v).put (some d2) p) w3:=⟨by rw [B0,B0];exact hsz,by rw [put_defers,put_defers];exact hdef,st',G3,hK,hI⟩
     have emp:∀ {D:Array Bool},(Region.ready .any ops D).isEmpty=true->Region.ready .any ops D=[]:=fun h=>by simpa using h
     have s1:=El (P:=P) (Q:=CG ds ws Gs n K) (c:=C1 ops) (fuel:=3) (S:=S) (a:=a) (w:=w) a1 b1
     have begin:wpOp P ops (CG ds ws Gs n K) i (fun a' w'=>∃ S',F8 ops S S' (C1 ops) i w w'/\DA P ops (CG ds ws Gs n K) (C1 ops) 3 S' (D.setIfInBounds i true) a' w') a w:=by
      refine PG hi gi r1 ⟨_,loud ci ni,?_⟩
      rw [hd1]
      refine El a2 b2 ?_ ?_
      . -- the address
        refine PG hj gj (r2 w1) ⟨_,quiet,?_⟩
        rw [hd2]
        refine El a3 b3 ?_ ?_
        . refine Io hk gk r8 r5 ⟨_,loud ck nk,?_⟩
          refine El a5 b5 ?_ ?_ <;>
          . refine Io hl gl r9 r7 ⟨_,loud cl' nl,?_⟩
            exact⟨emp e1,post⟩
        . refine Io hl gl r9 r4 ⟨_,loud cl' nl,?_⟩
          refine El a6 b6 ?_ ?_ <;>
          . refine Io hk gk r8 r6 ⟨_,loud ck nk,?_⟩
            exact⟨emp e2,post⟩
      . refine Io hl gl r9 r3 ⟨_,loud cl' nl,?_⟩
        refine El a4 b4 ?_ ?_ <;>
        . refine PG hj gj (r2 wl) ⟨_,quiet,?_⟩
          rw [hd2]
          refine El a7 b7 ?_ ?_ <;>
          . refine Io hk gk r8 r6 ⟨_,loud ck nk,?_⟩
            exact⟨emp e3,post⟩
     exact s1 begin begin
   . exact he.elim
 . exact he.elim
theorem Th {id:Nat}{pre t4:List Nat}(hgl:C8 w0 G0)(hm:P.follows .mixedOrders=true)(hdst:∀ o∈ops.toList,∀ d,o.dst=some d->d<n)(hok:Ti ops pre t4=true)(h:Inv w0 G0 st (AH a) w G)(hdef:a.defers=ds)(hsz:a.tmps.size=n)
 (he:BK P ops M (EL P ops K t4) pre st):RW P (Code.region id ops true) (CG ds w0 G0 n K) a w:=by
 unfold Ti at hok
 simp only [Å,ā] at hok
 obtain⟨h1,h2,h3,h4⟩:=hok
 split at h4
 . rename_i i j k l
   split at h4
   . rename_i D' hD
     have hw:=EG (P:=P) (K:=EL P ops K [i,j,k,l]) (M:=M) (ws:=w.drew) (Gs:=G) ((hgl.ext h.ext).ext h.ext.drew0) hdst pre st a w.drew G h3 h.drew.at_ hdef hsz he
     have hQ:∀ c d v a w1,CG ds w.drew G n K (.panic c) (a.put d v) w1->CG ds w.drew G n K (.panic c) a w1:=by
      rintro c d v a' w' ⟨h1,h2⟩
      exact⟨by rw [put_defers] at h1;exact h1,h2⟩
     have hreg:RW P (Code.region id ops.toList.toArray true) (CG ds w.drew G n K) a w:=by
      rw [ì]
      refine rw_any hm ?_
      rw [<- h2]
      refine It (c:=C1 ops) _ (BD M w.drew G.U G.φ) _ _ _ (GM (D':=D') h1 hQ (Q':=CG ds w.drew G n (EL P ops K [i,j,k,l])) ?_ ?_ pre _ _ a _ ?_ (BD.refl _ _ _ _) ?_ hw)
      . intro e a w hne hp
        cases e with
        |normal=>exact absurd rfl hne
        |_=>exact hp
      . rintro S a' w' _ ⟨k1,k2,st2,G2,k3,k4⟩
        exact Vh hdst k4 k2 k1 h4 k3
      . intro j oj _ hl
        rw [Go.getD_replicate_false] at hl
        cases hl
      . rw [h2];exact hD
     rw [ì] at hreg
     exact hreg.mono fun e a' w' hp=>hp.since h.ext.drew
   . cases h4
 . cases h4
end
end Go.Vl
namespace Go.Vl
open Go Go.RowKit Go.Q
def Tr (ops:Array Oper)(l t:List Nat)(D:Array Bool):Bool :=
 match l,t with
 | [x,y],[i,j,k,m]=>(cl (C1 ops) x == 2&&cl (C1 ops) y == 2)&&(Pv ops D x y&&(E8 ops [x,y]&&(E8 ops [y,x]&&(D.size == ops.size&&(match Wq ops (C1 ops) [y] (GU D x),Wq ops (C1 ops) [x] (GU D y) with
  |some D1,some D2=>Ot ops i j k m D1&&Ot ops i j k m D2
  |_,_=>false)))))
 |_,_=>false
def Jr (P:Program)(ops:Array Oper)(M:List Nat)(K:AX->St->Prop)(l:List Nat)(x:AX)(st:St):Prop:=match x with
 |.normal=>match l with
  | [x,y]=>BK P ops M K [x,y] st/\BK P ops M K [y,x] st
  |_=>False
 |x=>K x st
def Nv (ops:Array Oper)(pre l t:List Nat):Bool :=
 Region.noSelect ops&&(pre.length+6 == ops.size&&(E8 ops pre&&(pre.all (fun i=>cl (C1 ops) i == 0||cl (C1 ops) i == 1)&&(match Wq ops (C1 ops) pre (Array.replicate ops.size false) with
  |some D=>Tr ops l t D
  |none=>false))))
section
variable {w w' w0 ws w2:World} {G G' G0 Gs G2:Gh} {P:Program} {st st':St} {a:Act} {n:Nat} {ops:Array Oper} {K:AX->St->Prop} {ds:List Deferred} {M:List Nat}
theorem Qw {c:List Nat}:∀ {t:List Nat} {D D':Array Bool},ED ops D->Wq ops c t D=some D'->ED ops D'
 | [],D,D',h,e=>by obtain rfl:=Af e;exact h
 |i::t,D,D',h,e=>by
  unfold Wq at e
  split at e
  . rename_i hg
    unfold Oq at hg
    simp only [Å] at hg
    have hr':i∈Region.ready .any ops D:=by simpa using hg.1
    exact Qw (h.set hr') e
  . cases e
theorem IG {x y i j k l:Nat}{D D1:Array Bool}(hsel:Region.noSelect ops=true)(hgl:C8 ws Gs)(hdst:∀ o∈ops.toList,∀ d,o.dst=some d->d<n)(hD:ED ops D)(h:Inv ws Gs st (AH a) ws G)(hdef:a.defers=ds)(hsz:a.tmps.size=n)
 (hx:cl (C1 ops) x=2) (hrx:x∈Region.ready .any ops D) (hchk:E8 ops [x,y]=true) (hok:Wq ops (C1 ops) [y] (GU D x)=some D1) (h4:Ot ops i j k l D1=true)
 (he:BK P ops M (EL P ops K [i,j,k,l]) [x,y] st) :
 wpOp P ops (CG ds ws Gs n K) x (fun a' w'=>∃ S',F8 ops (BD M ws Gs.U Gs.φ) S' (C1 ops) x ws w'/\DA P ops (CG ds ws Gs n K) (C1 ops) 5 S' (D.setIfInBounds x true) a' w') a ws:=by
 have hw:=EG (P:=P) (K:=EL P ops K [i,j,k,l]) (M:=M) hgl hdst [x,y] st a ws G hchk h hdef hsz he
 have hQ:∀ c d v a w1,CG ds ws Gs n K (.panic c) (a.put d v) w1->CG ds ws Gs n K (.panic c) a w1:=by
  rintro c d v a' w' ⟨h1,h2⟩
  exact⟨by rw [put_defers] at h1;exact h1,h2⟩
 obtain⟨_,oi,hoi,_⟩:=mem_ready.1 hrx
 unfold HY at hw
 simp only [hoi] at hw
 rw [Ä (by omega),Ä (by omega)] at hw
 have hQQ:∀ e a w,e≠.normal->CG ds ws Gs n (EL P ops K [i,j,k,l]) e a w->CG ds ws Gs n K e a w:=by
  intro e a w hne hp
  cases e with
  |normal=>exact absurd rfl hne
  |_=>exact hp
 refine PH hQQ (fun a' w' h3=>?_) hw
 obtain⟨S',k1,k2,k3⟩:=h3
 refine⟨S',?_,GM (m:=4) (D':=D1) hsel hQ (Q':=CG ds ws Gs n (EL P ops K [i,j,k,l])) hQQ ?_ [y] S' _ a' w' (hD.set hrx) k1 hok k3⟩
 . unfold F8
   rw [Ä (by omega)]
   exact⟨k1,fun hn w1 h1=>BD.mono h.ext (fun _ _ _ _=>rfl) (k2 hn w1 h1)⟩
 . rintro S a' w' _ ⟨k1,k2,st2,G2,k3,k4⟩
   exact Vh hdst k4 k2 k1 h4 k3
theorem Tg {id:Nat}{pre l t4:List Nat}(hgl:C8 w0 G0)(hm:P.follows .mixedOrders=true)(hdst:∀ o∈ops.toList,∀ d,o.dst=some d->d<n)(hok:Nv ops pre l t4=true)(h:Inv w0 G0 st (AH a) w G)(hdef:a.defers=ds)(hsz:a.tmps.size=n)
 (he:BK P ops M (Jr P ops M (EL P ops K t4) l) pre st):RW P (Code.region id ops true) (CG ds w0 G0 n K) a w:=by
 unfold Nv at hok
 simp only [Å,ā] at hok
 obtain⟨h1,h2,h3,h5,h4⟩:=hok
 split at h4
 . rename_i D' hD
   unfold Tr at h4
   split at h4
   . rename_i x y i j k m
     simp only [Å,ā] at h4
     obtain⟨⟨cx,cy⟩,h12,hc1,hc2,hDs,h4⟩:=h4
     split at h4
     . rename_i D1 D2 hD1 hD2
       simp only [Å] at h4
       have hgl1:C8 w.drew G:=(hgl.ext h.ext).ext h.ext.drew0
       have hw:=EG (P:=P) (K:=Jr P ops M (EL P ops K [i,j,k,m]) [x,y]) (M:=M) (ws:=w.drew) (Gs:=G) hgl1 hdst pre st a w.drew G h3 h.drew.at_ hdef hsz he
       have hQ:∀ c d v a w1,CG ds w.drew G n K (.panic c) (a.put d v) w1->CG ds w.drew G n K (.panic c) a w1:=by
        rintro c d v a' w' ⟨h1,h2⟩
        exact⟨by rw [put_defers] at h1;exact h1,h2⟩
       have hcl0:ED ops (Array.replicate ops.size false):=by
        intro j oj _ hl
        rw [Go.getD_replicate_false] at hl
        cases hl
       have hcl:=Qw hcl0 hD
       unfold Pv at h12
       simp only [Å,ç] at h12
       have hmem:∀ {z:Nat} {D:Array Bool},(Wq ops (C1 ops) [z] D).isSome=true->z∈Region.ready .any ops D:=by
        grind [Nv,Tr,Pv,Wq,Oq]
       have hreg:RW P (Code.region id ops.toList.toArray true) (CG ds w.drew G n K) a w:=by
        rw [ì]
        refine rw_any hm ?_
        rw [<- h2]
        refine It (c:=C1 ops) _ (BD M w.drew G.U G.φ) _ _ _ (Ld (D':=D') h1 hQ (Q':=CG ds w.drew G n (Jr P ops M (EL P ops K [i,j,k,m]) [x,y])) ?_ pre _ a h5 (by rw [h2];exact hcl0) (BD.refl _ _ _ _) (by rw [h2];exact hD) hw)
        rintro a' ⟨k1,k2,st2,G2,⟨k3,k3'⟩,k4⟩
        by_cases hrx:x∈Region.ready .any ops D'
        . by_cases hry:y∈Region.ready .any ops D'
          . exact El h12.1 h12.2 (IG h1 hgl1 hdst hcl k4 k2 k1 cx hrx hc1 hD1 h4.1 k3) (IG h1 hgl1 hdst hcl k4 k2 k1 cy hry hc2 hD2 h4.2 k3')
          . refine El (x:=x) (y:=x) ?_ h12.2 (IG h1 hgl1 hdst hcl k4 k2 k1 cx hrx hc1 hD1 h4.1 k3) (IG h1 hgl1 hdst hcl k4 k2 k1 cx hrx hc1 hD1 h4.1 k3)
            have h12a:=h12.1
            rw [Û] at h12a ⊢
            intro z hz
            have:=h12a z hz
            simp only [ú,ā] at this ⊢
            rcases this with e|e
            . exact .inl e
            . exact absurd (e ▸ hz) hry
        . refine El (x:=y) (y:=y) ?_ h12.2 ?_ ?_
          . grind [Nv,Tr,Pv,Wq,Oq]
          all_goals
           have hry:y∈Region.ready .any ops D':=by
            cases hl:Region.ready .any ops D' with
            |nil=>rw [hl] at h12;cases h12.2
            |cons z r =>
             have h12a:=h12.1
             rw [Û] at h12a
             have:=h12a z (by rw [hl];simp)
             simp only [ú,ā] at this
             rcases this with e|e
             . exact absurd (by rw [hl,e];simp) hrx
             . rw [e];simp
           exact IG h1 hgl1 hdst hcl k4 k2 k1 cy hry hc2 hD2 h4.2 k3'
       rw [ì] at hreg
       exact hreg.mono fun e a' w' hp=>hp.since h.ext.drew
     . cases h4
   . cases h4
 . cases h4
end
end Go.Vl
namespace Go.Q
open Go
inductive OT where
 |done
 |one (i:Nat) (t:OT)
 |or (i:Nat) (sw:Bool) (t r:OT)
 |no
section
variable {P:Program} {ops:Array Oper} {Q:Exit->Act->World->Prop}
def UG (ops:Array Oper)(c:List Nat):OT->Nat->Array Bool->Option (List Nat)->Bool
 |.done,0,D,none=>(Region.ready .any ops D).isEmpty
 |.one i t,n+1,D,none=>(Region.ready .any ops D).contains i&&(if cl c i=0∨cl c i=1 then Region.free .any ops D i else decide (Region.ready .any ops D=[i]))&&UG ops c t n (D.setIfInBounds i true) none
 |.or i _ t r,n+1,D,hs=>match hs.getD (Region.ready .any ops D) with
  |j::hs'=>decide (j=i)&&(cl c i != 0&&cl c i != 1)&&UG ops c t n (D.setIfInBounds i true) none&&UG ops c r (n+1) D (some hs')
  | []=>false
 |.no,_,_,some hs=>hs.isEmpty
 |_,_,_,_=>false
def PW (P:Program)(ops:Array Oper)(Q:Exit->Act->World->Prop)(c:List Nat)(Y:(World->Prop)->Act->World->Prop)(S:World->Prop)(i:Nat)(a:Act)(w:World):Prop :=
 match ops[i]? with
  |none=>False
  |some o =>
   if cl c i=0 then ∃ v,YieldsIn P ops (fun _=>True) o v a/\Y S (a.put o.dst v) w
   else if cl c i=1 then ∃ v,TV P ops c S i o v a w/\Y S (a.put o.dst v) w
   else wpOp P ops Q i (fun a' w'=>∃ S':World->Prop,S' w'/\(Ep ops c i=true->∀ w,S' w->S w)/\Y S' a' w') a w
def Lc (P:Program)(ops:Array Oper)(Q:Exit->Act->World->Prop)(c:List Nat):OT->(World->Prop)->Act->World->Prop
 |.done,_,a,w=>Q .normal a w
 |.one i t,S,a,w=>PW P ops Q c (fun S a w=>Lc P ops Q c t S a w) S i a w
 |.or i _ t r,S,a,w=>PW P ops Q c (fun S a w=>Lc P ops Q c t S a w) S i a w/\Lc P ops Q c r S a w
 |.no,_,_,_=>True
theorem G6 {c:List Nat}(hsel:Region.noSelect ops=true)(hQ:∀ c d v a w,Q (.panic c) (a.put d v) w->Q (.panic c) a w):∀ (t:OT) (n:Nat) (S:World->Prop) (D:Array Bool) (a:Act) (w:World) (hs:Option (List Nat)),ED ops D ->
 S w->(∀ l,hs=some l->∀ i∈l,i∈Region.ready .any ops D)->UG ops c t n D hs=true->Lc P ops Q c t S a w ->
 (hs=none->DA P ops Q c n S D a w)/\∀ l,hs=some l->∀ m,n=m+1->∀ i∈l,wpOp P ops Q i (fun a' w'=>∃ S',F8 ops S S' c i w w'/\DA P ops Q c m S' (D.setIfInBounds i true) a' w') a w
 |.done,n,S,D,a,w,hs,_,_,_,hok,h=>by
  match n,hs,hok with
  |0,none,hok=>exact⟨fun _=>⟨by simpa [UG] using hok,h⟩,fun l e=>by cases e⟩
  |_+1,none,hok=>simp [UG] at hok
  |0,some _,hok=>simp [UG] at hok
  |_+1,some _,hok=>simp [UG] at hok
 |.one i t,0,S,D,a,w,hs,_,_,_,hok,h=>by simp [UG] at hok
 |.one i t,n+1,S,D,a,w,some _,_,_,_,hok,h=>by simp [UG] at hok
 |.one i t,n+1,S,D,a,w,none,hD,hS,_,hok,h=>by
  refine⟨fun _=>?_,fun l e=>by cases e⟩
  simp only [UG,Å] at hok
  obtain⟨⟨hr,hf⟩,hok'⟩:=hok
  have hr':i∈Region.ready .any ops D:=by simpa using hr
  obtain⟨_,oi,hoi,_⟩:=mem_ready.1 hr'
  unfold Lc PW at h
  simp only [hoi] at h
  by_cases h0:cl c i=0
  . rw [Ç h0] at h
    rw [Ç (.inl h0)] at hf
    obtain⟨v,hy,hw⟩:=h
    exact GL (T:=fun _=>True) hoi (č hsel) (fun _ a w h=>hQ _ _ _ a w h) (.inl h0) (.inl fun _=>trivial) n S D a w hD hS (fun _ _=>trivial) (Ĝ hoi hf) hr' hy
     ((G6 hsel hQ t n S _ _ w none (hD.set hr') hS (fun _ e=>by cases e) hok' hw).1 rfl)
  . rw [Ä h0] at h
    by_cases h1:cl c i=1
    . rw [Ç h1] at h
      rw [Ç (.inr h1)] at hf
      obtain⟨v,hy,hw⟩:=h
      exact Hw hoi (č hsel) (fun _ a w h=>hQ _ _ _ a w h) h1 n S D a w hD hS (Ĝ hoi hf) hr' hy
       ((G6 hsel hQ t n S _ _ w none (hD.set hr') hS (fun _ e=>by cases e) hok' hw).1 rfl)
    . rw [Ä h1] at h
      rw [Ä (by simp [h0,h1])] at hf
      have hf':Region.ready .any ops D=[i]:=by simpa using hf
      refine⟨fun h=>(by rw [h] at hr';cases hr'),fun j hj=>?_⟩
      rw [hf'] at hj
      obtain rfl:j=i:=by simpa using hj
      refine wpOp_mono (fun a' w' h3=>?_) h
      obtain⟨S',k1,k2,k3⟩:=h3
      exact⟨S',by unfold F8;rw [Ä (by simp [h0,h1])];exact⟨k1,k2⟩,(G6 hsel hQ t n S' _ a' w' none (hD.set hr') k1 (fun _ e=>by cases e) hok' k3).1 rfl⟩
 |.or i sw t r,0,S,D,a,w,hs,_,_,_,hok,h=>by simp [UG] at hok
 |.or i sw t r,n+1,S,D,a,w,hs,hD,hS,hsub,hok,h=>by
  unfold UG at hok
  cases hl:hs.getD (Region.ready .any ops D) with
  |nil=>rw [hl] at hok;cases hok
  |cons j hs' =>
   rw [hl] at hok
   simp only [Å,Î,bne_iff_ne,ne_eq] at hok
   obtain⟨⟨⟨rfl,h0,h1⟩,hokt⟩,hokr⟩:=hok
   have hall:∀ k∈j::hs',k∈Region.ready .any ops D:=by
    intro k hk
    cases hs with
    |none=>rw [<- hl] at hk;exact hk
    |some l=>exact hsub l rfl k (by rw [<- hl] at hk;exact hk)
   have hr':=hall j (by simp)
   obtain⟨_,oi,hoi,_⟩:=mem_ready.1 hr'
   unfold Lc at h
   obtain⟨hst,hrest⟩:=h
   unfold PW at hst
   simp only [hoi] at hst
   rw [Ä h0,Ä h1] at hst
   have hj:wpOp P ops Q j (fun a' w'=>∃ S',F8 ops S S' c j w w'/\DA P ops Q c n S' (D.setIfInBounds j true) a' w') a w:=by
    refine wpOp_mono (fun a' w' h3=>?_) hst
    obtain⟨S',k1,k2,k3⟩:=h3
    exact⟨S',by unfold F8;rw [Ä (by simp [h0,h1])];exact⟨k1,k2⟩,(G6 hsel hQ t n S' _ a' w' none (hD.set hr') k1 (fun _ e=>by cases e) hokt k3).1 rfl⟩
   have hr:=(G6 hsel hQ r (n+1) S D a w (some hs') hD hS (fun l e k hk=>by cases e;exact hall k (á _ hk)) hokr hrest).2 hs' rfl n rfl
   have hboth:∀ k∈j::hs',wpOp P ops Q k (fun a' w'=>∃ S',F8 ops S S' c k w w'/\DA P ops Q c n S' (D.setIfInBounds k true) a' w') a w:=by
    grind
   refine⟨fun e=>?_,fun l e m hm=>?_⟩
   . subst e
     have hl:Region.ready .any ops D=j::hs':=hl
     refine⟨fun e=>(by rw [hl] at e;cases e),fun k hk=>hboth k (by rw [<- hl];exact hk)⟩
   . grind [Lc,PW,F8]
 |.no,n,S,D,a,w,none,_,_,_,hok,h=>by simp [UG] at hok
 |.no,n,S,D,a,w,some l,_,_,_,hok,h=>by
  grind [UG]
theorem Po {id:Nat}{l:List Oper}{a:Act}{w:World}(c:List Nat)(t:OT)(S:World->Prop)(hm:P.follows .mixedOrders=true)(hsel:Region.noSelect l.toArray=true)
 (hok:UG l.toArray c t l.length (Array.replicate l.toArray.size false) none=true) (hQ:∀ c d v a w,Q (.panic c) (a.put d v) w->Q (.panic c) a w)
 (hS:S w.drew) (h:Lc P l.toArray Q c t S a w.drew):Go.Vl.RW P (Code.region id l.toArray true) Q a w:=by
 refine Go.Vl.rw_any hm ?_
 rw [show l.toArray.size=l.length by simp]
 refine It _ S _ _ _ ((G6 (c:=c) hsel hQ t l.length S _ a _ none ?_ hS (fun _ e=>by cases e) ?_ h).1 rfl)
 . intro j oj _ hl
   rw [getD_replicate_false] at hl
   cases hl
 . rw [show l.length=l.toArray.size by simp] at hok ⊢;exact hok
end
end Go.Q
namespace Go.Vl
open Go Go.RowKit Go.Q
def KX (K:AX->St->Prop)(X:St->Prop):AX->St->Prop
 |.normal,st=>X st
 |x,st=>K x st
section
variable {w w' w0 ws w2:World} {G G' G0 Gs G2:Gh} {P:Program} {st st':St} {a:Act} {o:Oper} {n:Nat} {ops:Array Oper} {K:AX->St->Prop} {ds:List Deferred} {M:List Nat}
theorem OP (hgl:C8 ws Gs)(hdst:∀ o∈ops.toList,∀ d,o.dst=some d->d<n){X:St->Prop}{Y:(World->Prop)->Act->World->Prop}
 (hY:∀ (st':St) (a':Act) (w':World) (G':Gh),Inv ws Gs st' (AH a') w' G'->a'.defers=ds->a'.tmps.size=n->X st'->Y (BD M w' G'.U G'.φ) a' w') (i:Nat) (st:St) (a:Act) (w:World) (G:Gh) (hchk:E8 ops [i]=true) (h:Inv ws Gs st (AH a) w G) (hdef:a.defers=ds) (hsz:a.tmps.size=n)
 (he:BK P ops M (KX K X) [i] st):PW P ops (CG ds ws Gs n K) (C1 ops) Y (BD M w G.U G.φ) i a w:=by
 unfold BK at he
 unfold E8 at hchk
 unfold PW
 cases ho:ops[i]? with
 |none=>rw [ho] at he;exact he.elim
 |some o =>
 rw [ho] at he hchk
 simp only [Å,ú,ç] at he hchk ⊢
 obtain⟨hst,hrest⟩:=hchk
 have hmem:o∈ops.toList:=by
  have:=Array.mem_of_getElem? ho
  simpa using this
 have hdo:∀ d,o.dst=some d->d<a.tmps.size:=fun d hdd=>by rw [hsz];exact hdst o hmem d hdd
 have hcl:=V5 ho
 rw [hcl]
 split at he
 . exact he.elim
 . rename_i hg
   have hw:=D8 h.env hg
   have hS:=h.skipPut hdo
   have ih:=hY _ _ w G hS (by rw [put_defers];exact hdef) (by rw [B0];exact hsz) he
   rcases JK o with h0|h0|h0
   . rw [Ç h0];exact⟨Go.undef,.inr ⟨hw,rfl⟩,ih⟩
   . rw [Ä (by omega),Ç h0];exact⟨Go.undef,.inl (.inr ⟨hw,rfl⟩),ih⟩
   . grind [BD.refl,wpOp]
 . rename_i hg
   have hw:=D8 h.env hg
   split at he
   . rename_i c st2 hop
     obtain⟨rfl,⟨hrd,hso⟩,he2⟩:=he
     unfold HX at hop
     by_cases hquiet:F7 o=2
     . rw [Ä (by omega),Ä (by omega)]
       rw [Ç hquiet] at hop
       unfold wpOp
       simp only [ho,hw,ù]
       left
       obtain⟨nx,v,w2,G2,h1,h2,h3,h4⟩:=Kw h.at_ hdo hop
       unfold Oper.wp
       rw [h1]
       have hfin:∃ S':World->Prop,S' w2/\(Ep ops (C1 ops) i=true->∀ w1,S' w1->BD M w G.U G.φ w1)/\Y S' (a.put o.dst v) w2:=by
        refine⟨_,BD.refl M w2 G2.U G2.φ,fun hn w1 hw1=>BD.mono h3.ext (fun k b hb hkM=>?_) hw1,hY _ _ w2 G2 (h3.since h.ext) (by rw [put_defers];exact hdef) (by rw [B0];exact hsz) he2⟩
        rcases hst with hst|hst|hst
        . rw [hst] at hn;cases hn
        . exact h4 hst b (Ò hb)
        . unfold Ae1 at hst
          split at hst
          . rename_i T x y hopn
            unfold RD at hso
            rw [hopn] at hso
            simp only [hn,ù] at hso
            split at hso
            . rename_i k2 o2 hx
              have hkm:k2∈M:=Hu.1 hso
              obtain⟨kb,hkb⟩:∃ kb,G.φ[k2]?=some kb:=by
               have hv:=B1 (a:=a) h.env x
               rw [hx] at hv
               revert hv;generalize a.eval x=z;intro hv
               cases hv with
               |ptr _ _ _ kb hk=>exact⟨kb,hk⟩
              refine ON h.at_ hopn hop h1 hx hkb ?_
              rintro rfl
              exact hkM (by
               have:=(List.getElem?_inj (List.getElem?_eq_some_iff.1 hb).1 h.store.nodup).1 (hb.trans hkb.symm)
               rw [this];exact hkm)
            . cases hso
          . cases hst
       rcases h2 with rfl|⟨rfl,rfl⟩
       . exact hfin
       . exact hfin
     . rw [Ä hquiet] at hop
       split at hop
       . rename_i d hdd
         obtain⟨v,G2,h1,hsame,h2⟩:=Ji h (hdo d hdd) hdd hop
         have ih:=hY _ _ w G2 h2 (by rw [put_defers];exact hdef) (by rw [B0];exact hsz) he2
         rw [hsame.1,hsame.2] at ih
         rcases JK o with h0|h0|h0
         . rw [Ç h0]
           exact⟨v,.inl ⟨hw,fun w2 _=>.inl (h1 w2 (fun e=>by omega))⟩,ih⟩
         . rw [Ä (by omega),Ç h0]
           by_cases hpc:Wl ops (C1 ops) i=true
           . exact⟨v,.inr ⟨hpc,.inl ⟨hw,fun w2 e=>.inl (h1 w2 (fun _=>by subst e;exact⟨fun _ _ _=>Kp.refl,fun b _ k _=>rfl⟩))⟩⟩,ih⟩
           refine⟨v,.inl (.inl ⟨hw,fun w2 hr=>.inl (h1 w2 (fun _=>⟨hr.1,fun b hb k hk=>hr.2 b k hk ?_⟩))⟩),ih⟩
           unfold MJ at hb
           split at hb
           . rename_i x hx
             unfold RD at hso
             rw [hx] at hso
             simp only [Bool.eq_false_iff.2 hpc,Bool.or_false] at hso
             have hrd:=hso
             unfold Z0 at hrd
             rw [hx] at hrd
             simp only at hrd
             unfold rdB at hb
             split at hb
             . grind [Option.some.injEq,Hu]
             . cases hb
           . cases hb
         . exact absurd h0 hquiet
       . cases hop
   . split at he
     . rename_i f args hcall
       have h0:=MW hcall
       rw [Ä (by omega),Ä (by omega)]
       unfold wpOp
       simp only [ho,hw,ù]
       left
       obtain⟨vs,g1,g2,g3⟩:=K0 h.env hcall
       have fin:∀ (stA:St) (r:PV) (v:Value) (w2:World) (G2:Gh),(∀ tup d,Inv w G stA (AH a) w2 (G.outer G2 tup d))->V w2 G2.U G2.φ r v->Hg w2 G2 r v ->
        (Ep ops (C1 ops) i=true->∀ k b,G.φ[k]?=some b->k∉M->w2.heap[b]?=w.heap[b]?)->X (stA.put o.dst r) ->
        ∃ S':World->Prop,S' w2/\(Ep ops (C1 ops) i=true->∀ w1,S' w1->BD M w G.U G.φ w1)/\Y S' (a.put o.dst v) w2:=by
        intro stA r v w2 G2 hA hv ht hk hq
        have key:∀ G3,Inv w G (stA.put o.dst r) (AH (a.put o.dst v)) w2 G3->∃ S':World->Prop,S' w2/\(Ep ops (C1 ops) i=true->∀ w1,S' w1->BD M w G.U G.φ w1)/\Y S' (a.put o.dst v) w2:=fun G3 hI =>
         ⟨_,BD.refl M w2 G3.U G3.φ,fun hn w1 hw1=>BD.mono hI.ext (hk hn) hw1,hY _ _ w2 G3 (hI.since h.ext) (by rw [put_defers];exact hdef) (by rw [B0];exact hsz) hq⟩
        cases hdd:o.dst with
        |none =>
         have hI:=hA false 0
         have:=key _ (by rw [hdd];exact hI)
         rw [hdd] at this;exact this
        |some d =>
         have hI:=(hA (QB r) d).putRet hv ht
         have:=key _ (by rw [hdd,Bq (hdo d hdd)];exact hI)
         rw [hdd] at this;exact this
       have pan:∀ (c:List PanicEntry) (σ2:List (List PV)) (w2:World) (G2:Gh),Az w2 G2 σ2->Ext w G.inner w2 G2->K (.pan c) { st with σ:=σ2 }->CG ds ws Gs n K (.panic c) a w2:=by
        intro c σ2 w2 G2 hs2 hx2 hq
        have hI:=h.call (tup:=false) hs2 hx2 0
        exact⟨hdef,_,_,hq,hI.ext,hI.store⟩
       unfold Oper.wp
       rw [g3 w]
       by_cases hn:Ep ops (C1 ops) i=true
       . rw [Ç hn] at he
         split at he
         . rename_i k more
           obtain⟨hkM,hfit,hpl,hkl,hvc⟩:=he
           have hgk:st.σ[k]?=some (st.σ.getD k []):=by simp [List.getD,hkl]
           refine (TP hgk hfit hpl hvc h.store.inner (hgl.ext h.ext).inner g1 g2).mono fun e w2 hpost=>?_
           obtain⟨x,cs',G2,hpe,hq,hend,hs2,hx2,hkeep⟩:=hpost
           cases x with
           |ret r =>
            obtain⟨v,rfl,hv,ht⟩:=hend
            exact fin _ r v w2 G2 (fun tup d=>h.at_.callK hs2 hx2 d (fun q=>q != k) (fun k2 b2 hk2 hb2=>by
             have hne:k2≠k:=by simpa using hk2
             exact⟨by rw [List.getElem?_set_ne (ě hne)],hkeep k2 b2 hb2 hne⟩)) hv ht (fun _ k2 b2 hb hm=>hkeep k2 b2 hb (by rintro rfl;exact hm (Hu.1 hkM))) hq
           |pan c =>
            obtain rfl:e=.panicked c:=hend
            exact pan c _ w2 G2 hs2 hx2 hq
         . obtain⟨hpl,hvc⟩:=he
           refine (O4 hvc hpl h.store.inner (hgl.ext h.ext).inner g1 g2).mono fun e w2 hpost=>?_
           obtain⟨x,σ',G2,hq,hend,hs2,hx2,hall⟩:=hpost
           cases x with
           |ret r =>
            obtain⟨v,rfl,hv,ht⟩:=hend
            exact fin _ _ v w2 G2 (fun tup d=>h.at_.callK hs2 hx2 d (fun _=>true) (fun k2 b2 _ hb2=>by
             have hl2:k2<st.σ.length:=by rw [<- h.store.len];exact (List.getElem?_eq_some_iff.1 hb2).1
             exact⟨Ô hl2,hall b2 (h.store.lt (Ò hb2))⟩)) hv ht (fun _ k2 b2 hb _=>hall b2 (h.store.lt (Ò hb))) hq
           |pan c =>
            obtain rfl:e=.panicked c:=hend
            exact pan c _ w2 G2 hs2 hx2 hq
       . rw [Ä hn] at he
         refine (he w G.inner vs h.store.inner g1 g2 (FO G) (hgl.ext h.ext).inner).mono fun e w2 hpost=>?_
         obtain⟨x,σ',G2,hq,hend,hs2,hx2⟩:=hpost
         cases x with
         |ret r =>
          obtain⟨v,rfl,hv,ht⟩:=hend
          exact fin _ r v w2 G2 (fun tup d=>h.at_.call hs2 hx2 d) hv ht (fun hn2=>absurd hn2 hn) hq
         |pan c =>
          obtain rfl:e=.panicked c:=hend
          exact pan c _ w2 G2 hs2 hx2 hq
     . exact he.elim
def Ps (n k:Nat):Nat:=if k=n then n+1 else if k=n+1 then n else k
theorem Nq (n k:Nat):Ps n (Ps n k)=k:=by unfold Ps;split<;>split<;>(try split)<;>omega
def swG (n:Nat):Grow->Grow
 |.view (.cell k j)=>.view (.cell (Ps n k) j)
 |g=>g
mutual
def HD (n:Nat):PV->PV
 |.ptr b o=>.ptr (Ps n b) o
 |.agg l=>.agg (swL n l)
 |.tup l=>.tup (swL n l)
 |.fn f l=>.fn f (swL n l)
 |.fno b f l=>.fno b f l
 |.fnb f l=>.fnb f l
 |.lit v=>.lit v
 |.sl xs g=>.sl xs (swG n g)
 |.vptr l o=>.vptr l o
 |.ifc=>.ifc
 |.mref b=>.mref (Ps n b)
 |.mp kvs=>.mp kvs
 |.vmp kvs=>.vmp kvs
 |.mit kvs seen=>.mit kvs seen
 |.dis f=>.dis f
 |.asl b o m cap=>.asl (Ps n b) o m cap
 |.prv xs=>.prv xs
 |.undef=>.undef
def swL (n:Nat):List PV->List PV
 | []=>[]
 |p::l=>HD n p::swL n l
end
theorem GP (n:Nat):∀ l,swL n l=l.map (HD n)
 | []=>by rw [swL];rfl
 |p::l=>by rw [swL,GP n l];rfl
def RY {α:Type}(n:Nat)(l:List α):List α:=l.take n++(l.drop n).reverse
def swS (n:Nat)(st:St):St:=⟨st.env.map fun x=>(x.1,HD n x.2),(RY n st.σ).map fun l=>l.map (HD n)⟩
theorem P0 {α:Type}{n:Nat}{l:List α}(hl:l.length=n+2)(k:Nat):(RY n l)[Ps n k]?=l[k]?:=by
 grind [RY,Ps]
theorem Np {α:Type}(n:Nat)(l:List α):(RY n l).Perm l:=by
 unfold RY
 have h:=(List.reverse_perm (l.drop n)).append_left (l.take n)
 rw [Ĉ] at h
 exact h
theorem Abx (n:Nat)(p:PV):(HD n p).isM=p.isM:=by cases p<;>rw [HD]<;>rfl
theorem Ahb {U:Nat->Nat->Prop}{φ:List Nat}{p:PV}{v:Value}{n:Nat}(h:V w U φ p v):∀ {φ':List Nat},(∀ (k x:Nat),φ[k]?=some x->φ'[Ps n k]?=some x)->V w U φ' (HD n p) v:=by
 induction h with
 |lit φ v=>intro φ' _;rw [HD];exact .lit _ _
 |agg φ l arr hn h h1 ih =>
  intro φ' hφ
  rw [HD]
  refine .agg _ _ _ (by rw [GP,Í];exact hn) (fun i hi=>?_) h1
  have hi2:i<l.length:=by rw [GP,Í] at hi;exact hi
  simp only [GP,é]
  exact ih i hi2 hφ
 |tup φ l arr hn h ih =>
  intro φ' hφ
  rw [HD]
  refine .tup _ _ _ (by rw [GP,Í];exact hn) (fun i hi=>?_)
  have hi2:i<l.length:=by rw [GP,Í] at hi;exact hi
  simp only [GP,é]
  exact ih i hi2 hφ
 |nil φ g=>intro φ' _;rw [HD];exact .nil _ _
 |sl φ xs g b o sz cap us hc hm hs hU' hw h1 hv hf hg ih =>
  intro φ' _
  rw [HD]
  exact .sl _ _ _ b o sz cap us hc hm hs hU' hw h1 hv (fun e=>hf (by cases g with|view l=>cases l<;>cases e|_=>first|rfl|cases e)) (fun e=>hg (by cases g with|view l=>cases l<;>cases e|_=>first|rfl|cases e))
 |ptr φ b o k h=>intro φ' hφ;rw [HD];exact .ptr _ _ _ _ (hφ _ _ h)
 |prv φ xs A cap=>intro φ' _;rw [HD];exact .prv _ _ _ _
 |asl φ b o m cap k h hc hm=>intro φ' hφ;rw [HD];exact .asl _ _ _ _ _ _ (hφ _ _ h) hc hm
 |vptr φ cs b o' o us hU' hw h1 hv ih=>intro φ' _;rw [HD];exact .vptr _ _ _ _ _ us hU' hw h1 hv
 |fn φ f l arr hn h ih =>
  intro φ' hφ
  rw [HD]
  refine .fn _ _ _ _ (by rw [GP,Í];exact hn) (fun i hi=>?_)
  have hi2:i<l.length:=by rw [GP,Í] at hi;exact hi
  simp only [GP,é]
  exact ih i hi2 hφ
 |fno φ f caps arr hn h ih=>intro φ' _;rw [HD];exact .fno _ _ _ _ hn h
 |fnb φ f caps arr hn h ih=>intro φ' _;rw [HD];exact .fnb _ _ _ _ hn h
 |nof φ f caps=>intro φ' _;rw [HD];exact .nof _ _ _
 |ifc φ t v=>intro φ' _;rw [HD];exact .ifc _ _ _
 |mref φ b k h=>intro φ' hφ;rw [HD];exact .mref _ _ _ (hφ _ _ h)
 |mp φ kvs v=>intro φ' _;rw [HD];exact .mp _ _ _
 |vmp φ kvs b es c hu hw hk hs=>intro φ' _;rw [HD];exact .vmp _ _ b es c hu hw hk hs
 |mit φ kvs seen v=>intro φ' _;rw [HD];exact .mit _ _ _ _
 |dis φ f i v h ih=>intro φ' hφ;rw [HD];refine .dis _ _ i _ ?_;have:=ih hφ;rw [HD] at this;exact this
 |undef φ v=>intro φ' _;rw [HD];exact .undef _ _
 |emp φ g b o k hg=>intro φ' _;rw [HD];exact .emp _ _ _ _ _ (fun e=>hg (by cases g with|view l=>cases l<;>cases e|_=>first|rfl|cases e))
theorem XQ (n:Nat):∀ (env:List (Nat×PV)) (t:Nat),Cs (env.map fun x=>(x.1,HD n x.2)) t=HD n (Cs env t)
 | [],_=>by show PV.undef=HD n .undef;rw [HD]
 |(k,v)::r,t=>by
  show (if k=t then HD n v else Cs (r.map fun x=>(x.1,HD n x.2)) t)=HD n (if k=t then v else Cs r t)
  split
  . rfl
  . exact XQ n r t
def Nr (n:Nat):Loc->Loc
 |.cell k j=>.cell (Ps n k) j
 |l=>l
theorem Inv.sw {st:St}{tm:Nat->Value}{n:Nat}(h:Inv w0 G0 st tm w G)(hl:st.σ.length=n+2)(hn:G0.φ.length<=n):Inv w0 G0 (swS n st) tm w ⟨G.U,RY n G.φ,fun b=>(G.Ω b).map (Nr n)⟩:=by
 have hlen:G.φ.length=n+2:=by rw [h.store.len,hl]
 have hφ:∀ (k x:Nat),G.φ[k]?=some x->(RY n G.φ)[Ps n k]?=some x:=fun k x e=>(P0 hlen k).trans e
 have hV:∀ {p:PV} {v:Value},V w G.U G.φ p v->V w G.U (RY n G.φ) (HD n p) v:=fun hv=>Ahb hv hφ
 have hown:∀ {l:Loc} {xs:List (List PV)} {v:Value},A0 w G l xs v->A0 w ⟨G.U,RY n G.φ,fun b=>(G.Ω b).map (Nr n)⟩ (Nr n l) xs v:=fun h1=>h1.to rfl (fun b hb=>by show (G.Ω b).map _=_;rw [hb];rfl)
 have hownP:∀ {l:Loc} {xs:List (List Value)} {v:Value},BC w G l xs v->BC w ⟨G.U,RY n G.φ,fun b=>(G.Ω b).map (Nr n)⟩ (Nr n l) xs v:=fun h1=>h1.to rfl (fun b hb=>by show (G.Ω b).map _=_;rw [hb];rfl)
 have hget:∀ t,(swS n st).get t=HD n (st.get t):=fun t=>XQ n st.env t
 have hmem:∀ b,b∈RY n G.φ↔b∈G.φ:=fun b=>(Np n G.φ).mem_iff
 have hσ:∀ k,(swS n st).σ[Ps n k]?=(st.σ[k]?).map fun l=>l.map (HD n):=fun k=>by
  show ((RY n st.σ).map _)[Ps n k]?=_
  rw [æ,P0 hl]
 obtain⟨ψ,hψ,hψb⟩:=h.ext.phi
 refine⟨⟨h.ext.os,h.ext.tape,h.ext.output,h.ext.size,h.ext.frame,h.ext.cells,h.ext.newU,fun b hb=>h.ext.newΩ b (fun e=>hb (by show (G.Ω b).map _=none;rw [e];rfl)),?_⟩,⟨?_,?_,fun k b cs hk hc=>?_,h.store.ub,fun b hb=>?_⟩,⟨fun t=>?_,fun t=>?_⟩⟩
 . refine⟨(RY n G.φ).drop G0.φ.length,?_,fun c hc=>?_⟩
   . have e1:(RY n G.φ).take G0.φ.length=G0.φ:=by
      unfold RY
      rw [Ĭ (by rw [List.length_take];omega),List.take_take,Nat.min_eq_left hn,hψ,List.take_left']
      rfl
     show RY n G.φ=G0.φ++_
     conv=>rhs;lhs;rw [<- e1]
     rw [Ĉ]
   . refine hψb c ?_
     unfold RY at hc
     rw [ĭ (by rw [List.length_take];omega)] at hc
     have e2:ψ=G.φ.drop G0.φ.length:=by rw [hψ,List.drop_left'];rfl
     rw [e2]
     rcases List.mem_append.1 hc with hc|hc
     . rw [List.drop_take] at hc
       exact ÿ hc
     . have:=List.mem_reverse.1 hc
       rw [show n=G0.φ.length+(n-G0.φ.length) by omega,<- Ħ] at this
       exact ë this
 . show (RY n G.φ).length=((RY n st.σ).map _).length
   rw [Í,(Np n G.φ).length_eq,(Np n st.σ).length_eq];exact h.store.len
 . exact (Np n G.φ).nodup_iff.2 h.store.nodup
 . have hk2:G.φ[Ps n k]?=some b:=by
    have:=P0 hlen (Ps n k)
    rw [Nq] at this
    exact this.symm.trans hk
   have hc2:=hσ (Ps n k)
   rw [Nq,hc] at hc2
   cases e:st.σ[Ps n k]? with
   |none=>rw [e] at hc2;cases hc2
   |some l =>
    rw [e] at hc2
    obtain rfl:=Af hc2
    obtain⟨⟨o',arr',g1,⟨g2,g3⟩,g4⟩,g5⟩:=h.store.blk (Ps n k) b l hk2 e
    refine⟨⟨o',arr',g1,⟨?_,by rw [Í];exact g3⟩,fun j c hj=>?_⟩,g5⟩
    . rcases g2 with⟨k1,k2⟩|⟨kvs,es,c,rfl,k2,k3⟩|⟨kvs,seen,rfl,k2⟩
      . refine .inl ⟨k1,fun p hm=>?_⟩
        obtain⟨q,hq,rfl⟩:=List.mem_map.1 hm
        rw [Abx];exact k2 q hq
      . exact .inr (.inl ⟨kvs,es,c,by simp [HD],k2,k3⟩)
      . exact .inr (.inr ⟨kvs,seen,by simp [HD],k2⟩)
    . rw [æ] at hj
      cases e:l[j]? with
      |none=>rw [e] at hj;cases hj
      |some q =>
       rw [e] at hj
       obtain rfl:=Af hj
       obtain⟨v,k1,k2,k3,k4⟩:=g4 j q e
       refine⟨v,k1,k2,hV k3,?_⟩
       cases q with
       |prv xs =>
        rw [HD]
        have:=hownP k4
        rw [show Nr n (.cell (Ps n k) j)=.cell k j by unfold Nr;simp only [Nq]] at this
        exact this
       |sl xs g =>
        rw [HD]
        cases g with
        |own =>
         have:=hown k4
         rw [show Nr n (.cell (Ps n k) j)=.cell k j by unfold Nr;simp only [Nq]] at this
         exact this
        |view l=>cases l<;>trivial
        |_=>trivial
       |_=>rw [HD];trivial
 . have:=h.store.ob b (fun e=>hb (by show (G.Ω b).map _=none;rw [e];rfl))
   exact⟨this.1,fun hm=>this.2 ((hmem b).1 hm)⟩
 . rw [hget];exact hV (h.env.v t)
 . rw [hget]
   have ht:=h.env.tag t
   cases e:st.get t with
   |prv xs =>
    rw [e] at ht
    rw [HD]
    exact hownP ht
   |sl xs g =>
    rw [e] at ht
    rw [HD]
    cases g with
    |own=>exact hown ht
    |view l =>
     cases l with
     |tmp s=>exact⟨by rw [hget,ht.1,HD];rfl,ht.2⟩
     |cell k j =>
      obtain⟨cs,b,h1,h2,h3,h4⟩:=ht
      exact⟨cs.map (HD n),b,by rw [hσ,h1];rfl,by rw [æ,h2,ä,HD];rfl,hφ _ _ h3,h4⟩
     |tcomp _ _=>exact ht.elim
     |ret _=>exact ht.elim
    |_=>trivial
   |tup l =>
    rw [e] at ht
    rw [HD,GP]
    intro i xs hi
    rw [æ] at hi
    cases e5:l[i]? with
    |none=>rw [e5] at hi;cases hi
    |some q =>
     rw [e5] at hi
     have e6:q=.sl xs .own:=by
      have e7:=Af hi
      cases q with
      |sl ys g =>
       rw [HD] at e7
       cases g with
       |view l=>cases l<;>cases e7
       |_=>exact e7
      |_=>rw [HD] at e7;cases e7
     obtain⟨a1,u1,g1,g2,g3⟩:=ht i xs (by rw [e5,e6])
     exact⟨a1,u1,g1,g2,hown g3⟩
   |_=>rw [HD];trivial
def XV (P:Program)(ops:Array Oper)(N:Nat)(K:AX->St->Prop):OT->St->Prop
 |.done,st=>K .normal st
 |.one i t,st=>BK P ops [N,N+1] (KX K fun st'=>XV P ops N K t st') [i] st
 |.or i sw t r,st=>BK P ops [N,N+1] (KX K fun st'=>match sw with
  |true=>st'.σ.length=N+2/\XV P ops N K t (swS N st')
  |false=>XV P ops N K t st') [i] st/\XV P ops N K r st
 |.no,_=>True
def Xc (ops:Array Oper):OT->Bool
 |.done=>true
 |.one i t=>E8 ops [i]&&Xc ops t
 |.or i _ t r=>E8 ops [i]&&(Xc ops t&&Xc ops r)
 |.no=>true
theorem Zc {U:Nat->Nat->Prop}{φ:List Nat}{n:Nat}(hl:φ.length=n+2):BD [n,n+1] w U φ=BD [n,n+1] w U (RY n φ):=by
 funext w1
 have key:∀ {φ φ':List Nat},(∀ (k b:Nat),φ'[k]?=some b->φ[Ps n k]?=some b)->BD [n,n+1] w U φ w1->BD [n,n+1] w U φ' w1:=fun hp h=>by
  refine⟨h.1,fun k b hb hk=>h.2 (Ps n k) b (hp k b hb) ?_⟩
  simp only [Ę,List.not_mem_nil,or_false] at hk ⊢
  unfold Ps
  split<;>(try split)<;>omega
 all_goals grind [Ps,BD,P0,Nq]
theorem JH {N:Nat}(hgl:C8 ws Gs)(hdst:∀ o∈ops.toList,∀ d,o.dst=some d->d<n)(hN:Gs.φ.length<=N):∀ (t:OT) (st:St) (a:Act) (w:World) (G:Gh),Xc ops t=true->Inv ws Gs st (AH a) w G->a.defers=ds->a.tmps.size=n->XV P ops N K t st ->
 Lc P ops (CG ds ws Gs n K) (C1 ops) t (BD [N,N+1] w G.U G.φ) a w
 |.done,st,a,w,G,_,h,hdef,hsz,he=>⟨hsz,hdef,st,G,he,h⟩
 |.one i t,st,a,w,G,hc,h,hdef,hsz,he=>by
  unfold Xc at hc
  rw [Å] at hc
  exact OP hgl hdst (X:=fun st'=>XV P ops N K t st') (Y:=fun S a w=>Lc P ops (CG ds ws Gs n K) (C1 ops) t S a w) (fun st' a' w' G' hI hd hs hx=>JH hgl hdst hN t st' a' w' G' hc.2 hI hd hs hx) i st a w G hc.1 h hdef hsz he
 |.or i sw t r,st,a,w,G,hc,h,hdef,hsz,he=>by
  unfold Xc at hc
  rw [Å,Å] at hc
  refine⟨OP hgl hdst (Y:=fun S a w=>Lc P ops (CG ds ws Gs n K) (C1 ops) t S a w) (fun st' a' w' G' hI hd hs hx=>?_) i st a w G hc.1 h hdef hsz he.1,JH hgl hdst hN r st a w G hc.2.2 h hdef hsz he.2⟩
  cases sw with
  |false=>exact JH hgl hdst hN t st' a' w' G' hc.2.1 hI hd hs hx
  |true =>
   obtain⟨hl,hx⟩:=hx
   have hI2:=hI.sw (n:=N) hl hN
   have:=JH hgl hdst hN t _ a' w' _ hc.2.1 hI2 hd hs hx
   rw [Zc (hI.store.len.trans hl)]
   exact this
 |.no,_,_,_,_,_,_,_,_,_=>trivial
def Tk (ops:Array Oper)(t:OT):Bool:=Region.noSelect ops&&(UG ops (C1 ops) t ops.size (Array.replicate ops.size false) none&&Xc ops t)
theorem Tj {id:Nat}{t:OT}(hgl:C8 w0 G0)(hm:P.follows .mixedOrders=true)(hdst:∀ o∈ops.toList,∀ d,o.dst=some d->d<n)(hok:Tk ops t=true)(h:Inv w0 G0 st (AH a) w G)(hdef:a.defers=ds)(hsz:a.tmps.size=n)(he:XV P ops st.σ.length K t st) :
 RW P (Code.region id ops true) (CG ds w0 G0 n K) a w:=by
 unfold Tk at hok
 simp only [Å] at hok
 obtain⟨h1,h3,h4⟩:=hok
 have hw:=JH (P:=P) (K:=K) (ws:=w.drew) (Gs:=G) ((hgl.ext h.ext).ext h.ext.drew0) hdst (N:=st.σ.length) (Ă h.store.len) t st a w.drew G h4 h.drew.at_ hdef hsz he
 have hreg:RW P (Code.region id ops.toList.toArray true) (CG ds w.drew G n K) a w:=by
  refine Po (C1 ops) t (BD [st.σ.length,st.σ.length+1] w.drew G.U G.φ) hm (by simpa using h1) (by simpa using h3) ?_ (BD.refl _ _ _ _) (by simpa using hw)
  rintro c d v a' w' ⟨h1,h2⟩
  exact⟨by rw [put_defers] at h1;exact h1,h2⟩
 rw [ì] at hreg
 exact hreg.mono fun e a' w' hp=>hp.since h.ext.drew
def Acr (ops:Array Oper)(i:Nat):Bool:=match ops[i]? with
 |some o=>match o.op with
  |.alloc _=>true
  |.box _ _=>true
  |_=>false
 |none=>false
def mkE (ops:Array Oper)(c:List Nat):Nat->Array Bool->List Nat->OT
 |0,_,_=>.done
 |n+1,D,done =>
  let rdy:=Region.ready .any ops D
  match rdy.find? (fun i=>(cl c i == 0||cl c i == 1)&&Region.free .any ops D i) with
  |some i=>.one i (mkE ops c n (D.setIfInBounds i true) done)
  |none=>match rdy with
   | []=>.done
   | [i]=>if Acr ops i&&done.any (fun j=>decide (i<j)) then .or i true (mkE ops c n (D.setIfInBounds i true) (i::done)) .no else .one i (mkE ops c n (D.setIfInBounds i true) (if Acr ops i then i::done else done))
   |l=>l.foldr (fun i r=>.or i (Acr ops i&&done.any (fun j=>decide (i<j))) (mkE ops c n (D.setIfInBounds i true) (if Acr ops i then i::done else done)) r) .no
def Uq (ops:Array Oper):OT:=mkE ops (C1 ops) ops.size (Array.replicate ops.size false) []
end
end Go.Vl
namespace Go.Vl
open Go Go.RowKit
def Kv (P:Program)(ops:Array Oper)(K:AX->St->Prop)(t:List Nat)(st:St):Prop :=
 if t.headD 0=9999 then BK P ops ((t.drop 2).take (t.getD 1 0)) K ((t.drop 2).drop (t.getD 1 0)) st
 else if t.headD 0=9998 then BK P ops ((t.drop 2).take (t.getD 1 0)) (EL P ops K (t.drop (t.length-4))) (((t.drop 2).drop (t.getD 1 0)).take (t.length-6-t.getD 1 0)) st
 else if t.headD 0=9997 then BK P ops ((t.drop 2).take (t.getD 1 0)) (Jr P ops ((t.drop 2).take (t.getD 1 0)) (EL P ops K (t.drop (t.length-4))) ((t.drop (t.length-6)).take 2)) (((t.drop 2).drop (t.getD 1 0)).take (t.length-8-t.getD 1 0)) st
 else if t.headD 0=9995 then XV P ops st.σ.length K (Uq ops) st
 else False
def Tn (ops:Array Oper)(t:List Nat):Bool:=if t.headD 0=9999 then Tm ops ((t.drop 2).drop (t.getD 1 0))
 else if t.headD 0=9998 then Ti ops (((t.drop 2).drop (t.getD 1 0)).take (t.length-6-t.getD 1 0)) (t.drop (t.length-4))
 else if t.headD 0=9997 then Nv ops (((t.drop 2).drop (t.getD 1 0)).take (t.length-8-t.getD 1 0)) ((t.drop (t.length-6)).take 2) (t.drop (t.length-4))
 else if t.headD 0=9995 then Tk ops (Uq ops)
 else false
section
variable {w w' w0 ws:World} {G G' G0 Gs:Gh} {P:Program} {st st':St} {a:Act} {o:Oper} {n:Nat} {ops:Array Oper} {K K':AX->St->Prop} {ds:List Deferred} {M:List Nat}
theorem RJ {id:Nat}{t:List Nat}(hgl:C8 w0 G0)(hm:P.follows .mixedOrders=true)(hdst:∀ o∈ops.toList,∀ d,o.dst=some d->d<n)(hok:Tn ops t=true)(h:Inv w0 G0 st (AH a) w G)(hdef:a.defers=ds)(hsz:a.tmps.size=n)(he:Kv P ops K t st) :
 RW P (Code.region id ops true) (CG ds w0 G0 n K) a w:=by
 grind [Kv,Tn,Tl,Th,Tg,Tj]
theorem Ut {t:List Nat}{x:AX}(hk:∀ x st,K x st->K' x st)(h:EL P ops K t x st):EL P ops K' t x st:=by
 unfold EL at h ⊢
 cases x with
 |normal =>
  have h:Kz P ops K t st:=h
  show Kz P ops K' t st
  unfold Kz at h ⊢
  split at h
  . grind [EL,Kz]
  . exact h.elim
 |_=>exact hk _ _ h
theorem D6 (hk:∀ x st,K x st->K' x st):∀ (l:List Nat) (st:St),BK P ops M K l st->BK P ops M K' l st
 | [],st,h=>hk _ _ h
 |i::rest,st,h=>by
  unfold BK at h ⊢
  split at h
  . exact h.elim
  . split at h
    . exact h.elim
    . exact D6 hk rest _ h
    . split at h
      . exact⟨h.1,h.2.1,D6 hk rest _ h.2.2⟩
      . split at h
        . split at h
          . rename_i hn
            rw [Ç hn]
            split at h
            . refine⟨h.1,h.2.1,h.2.2.1,h.2.2.2.1,h.2.2.2.2.mono fun x σ' hx=>?_⟩
              obtain⟨cs',e1,e2,e3,e4⟩:=hx
              refine⟨cs',e1,e2,e3,?_⟩
              cases x with
              |ret r=>exact D6 hk rest _ e4
              |pan c=>exact hk _ _ e4
            . refine⟨h.1,h.2.mono fun x σ' hx=>?_⟩
              cases x with
              |ret r=>exact D6 hk rest _ hx
              |pan c=>exact hk _ _ hx
          . rename_i hn
            rw [Ä hn]
            refine h.mono fun x σ' hx=>?_
            cases x with
            |ret r=>exact D6 hk rest _ hx
            |pan c=>exact hk _ _ hx
        . exact h.elim
theorem LI {N:Nat}{K':AX->St->Prop}(hk:∀ x st,K x st->K' x st):∀ (t:Go.Q.OT) (st:St),XV P ops N K t st->XV P ops N K' t st
 |.done,st,h=>hk _ _ h
 |.one i t,st,h=>D6 (fun x st h=>by
  cases x with
  |normal=>exact LI hk t _ h
  |_=>exact hk _ _ h) _ _ h
 |.or i sw t r,st,h=>⟨D6 (fun x st h=>by
  cases x with
  |normal =>
   cases sw with
   |true=>exact⟨h.1,LI hk t _ h.2⟩
   |false=>exact LI hk t _ h
  |_=>exact hk _ _ h) _ _ h.1,LI hk r st h.2⟩
 |.no,_,_=>trivial
theorem Us {l:List Nat}{x:AX}(hk:∀ x st,K x st->K' x st)(h:Jr P ops M K l x st):Jr P ops M K' l x st:=by
 unfold Jr at h ⊢
 all_goals grind [Jr,D6]
end
end Go.Vl
namespace Go.Vl
open Go Go.RowKit
def Wk (N:Nat)(st st':St):Prop:=∀ (w0:World) (G0:Gh) (tm:Nat->Value) (w:World) (G:Gh),G0.φ.length<=N->Inv w0 G0 st tm w G->∃ G',Inv w0 G0 st' tm w G'
def GK (N:Nat)(st:St)(X:St->Prop):Prop:=∀ (w0:World) (G0:Gh) (tm:Nat->Value) (w:World) (G:Gh),G0.φ.length<=N->Inv w0 G0 st tm w G->∃ st2 G',X st2/\Inv w0 G0 st2 tm w G'
theorem GK.of {N:Nat}{st st2:St}{X:St->Prop}(h:Wk N st st2)(hx:X st2):GK N st X:=fun w0 G0 tm w G hN h1=>by
 obtain⟨G',h2⟩:=h w0 G0 tm w G hN h1
 exact⟨st2,G',hx,h2⟩
theorem GK.rfl {N:Nat}{st:St}{X:St->Prop}(hx:X st):GK N st X:=fun _ _ _ _ G _ h=>⟨st,G,hx,h⟩
theorem GK.mono {N:Nat}{st:St}{X Y:St->Prop}(h:GK N st X)(hk:∀ st,X st->Y st):GK N st Y:=fun w0 G0 tm w G hN h1=>by
 obtain⟨st2,G',h2,h3⟩:=h w0 G0 tm w G hN h1
 exact⟨st2,G',hk _ h2,h3⟩
theorem GK.bind {N:Nat}{st:St}{X Y:St->Prop}(h:GK N st X)(hk:∀ st,X st->GK N st Y):GK N st Y:=fun w0 G0 tm w G hN h1=>by
 obtain⟨st2,G',h2,h3⟩:=h w0 G0 tm w G hN h1
 exact hk _ h2 w0 G0 tm w G' hN h3
theorem GK.pre {N:Nat}{st st0:St}{Y:St->Prop}(h:Wk N st st0)(hk:GK N st0 Y):GK N st Y:=fun w0 G0 tm w G hN h1=>by
 obtain⟨G',h2⟩:=h w0 G0 tm w G hN h1
 exact hk w0 G0 tm w G' hN h2
def N6 (L:List Nat):PV->PV
 |.sl xs (.view (.tmp s))=>if L.contains s then .sl xs (.view (.tmp s)) else .sl xs .shared
 |p=>p
def clr (L:List Nat)(st:St):St:={ st with env:=L.map fun t=>(t,N6 L (st.get t)) }
structure Cf where
 L:List Nat
 pl:List (Nat×List Nat):=[]
def DH:List (Nat×List Nat)->Nat->Option (List Nat)
 | [],_=>none
 |(k,t)::r,i=>if k=i then some t else DH r i
end Go.Vl
namespace Go.Vl
open Go Go.RowKit
section
variable {w w':World} {G:Gh} {P:Program} {f:FuncId} {σ:List (List PV)}
theorem Az.below {U':Nat->Nat->Prop}(h:Az w G σ)(hb:Below w.heap.size w w')(hU:∀ b i,U' b i->G.U b i∨w.heap.size<=b/\b<w'.heap.size)(hU2:∀ b i,G.U b i->U' b i):Az w' { G with U:=U' } σ:=by
 have hsz:=hb.size
 refine⟨h.len,h.nodup,fun k b cs h1 h2=>?_,fun b i hu=>?_,fun b hB=>?_⟩
 . obtain⟨⟨T,arr,h3,h4,h5⟩,h6⟩:=h.blk k b cs h1 h2
   have hlt:b<w.heap.size:=(Array.getElem?_eq_some_iff.1 h3).1
   refine⟨⟨T,arr,(hb.block b hlt).trans h3,⟨h4.1.mono (fun b i hu=>⟨hU2 b i hu,Kp.of (hb.block b (h.ub b i hu))⟩),h4.2⟩,fun j c hc=>?_⟩,fun i hu=>?_⟩
   . obtain⟨v,h7,h8,h9,h10⟩:=h5 j c hc
     refine⟨v,h7,h8,h9.mono (fun b i hu=>⟨hU2 b i hu,Kp.of (hb.block b (h.ub b i hu))⟩) (fun _ _ h=>h),?_⟩
     unfold Ck at h10 ⊢
     split
     . refine A0.keep h10 fun b2 hb2=>?_
       have hlt2:=(h.ob b2 (by rw [hb2];simp)).1
       refine⟨hb2,hb.block b2 hlt2,fun i hu=>?_⟩
       rcases hU b2 i hu with h|h
       . exact h
       . omega
     . refine BC.keep h10 fun b2 hb2=>?_
       have hlt2:=(h.ob b2 (by rw [hb2];simp)).1
       refine⟨hb2,hb.block b2 hlt2,fun i hu=>?_⟩
       rcases hU b2 i hu with h|h
       . exact h
       . omega
     . trivial
   . rcases hU b i hu with h|h
     . exact h6 i h
     . omega
 . rcases hU b i hu with h1|h1
   . exact ò (h.ub b i h1) hsz
   . exact h1.2
 . have:=h.ob b hB
   exact⟨ò this.1 hsz,this.2⟩
theorem Ext.ofBelow {U':Nat->Nat->Prop}(h:Az w G σ)(hb:Below w.heap.size w w')(hU:∀ b i,U' b i->G.U b i∨w.heap.size<=b/\b<w'.heap.size)(hU2:∀ b i,G.U b i->U' b i):Ext w G w' { G with U:=U' }:=by
 refine⟨hb.os,hb.tape,hb.output,hb.size,fun k hk _ _=>hb.block k hk,fun b i hu=>⟨hU2 b i hu,Kp.of (hb.block b (h.ub b i hu))⟩,fun b i hu=>?_,fun b hB=>.inr hB,[],by simp,by simp⟩
 all_goals grind
end
def Mi (P:Program)(o:Oper)(st:St)(X:St->Prop):Prop :=
 match o.op,o.dst,o.guard with
 |.convert s d x,some t,none=>match Cu st x with
  |.lit (.string bs)=>Ll P s=true/\u8T P d=true/\bs.size<=140737488355328/\X ((st.aft st.σ).put (some t) (.sl (C7 bs) .shared))
  |_=>False
 |_,_,_=>False
def Ac6 (P:Program)(N:Nat)(ops:Array Oper)(K:AX->St->Prop)(l2:List Oper):AX->St->Prop
 |.normal,st=>(∃ st2,Wk N st st2/\B5 P ops K l2 st2)∨∃ o rest,l2=o::rest/\Mi P o st fun st2=>B5 P ops K rest st2
 |x,st=>K x st
def W (P:Program)(L:Cf)(N:Nat):Code->(AX->St->Prop)->St->Prop
 |.skip,K,st=>K .normal st
 |.label _,K,st=>K .normal st
 |.region id ops _,K,st=>match DH L.pl id with
  |none=>B5 P ops (fun x st'=>K x (match x with|.normal=>clr L.L st'|_=>st')) ops.toList st
  |some t=>if t.headD 0=9996 then B5 P ops (Ac6 P N ops (fun x st'=>K x (match x with|.normal=>clr L.L st'|_=>st')) (ops.toList.drop (t.getD 1 0))) (ops.toList.take (t.getD 1 0)) st
   else Kv P ops (fun x st'=>K x (match x with|.normal=>clr L.L st'|_=>st')) t st
 |.seq a b,K,st=>W P L N a (fun x st'=>match x with|.normal=>GK N st' (W P L N b K)|x=>K x st') st
 |.cond c a b,K,st=>match Cu st c with
  |.lit (.bool t)=>if t=true then GK N st (W P L N a K) else GK N st (W P L N b K)
  |_=>False
 |.block id b,K,st=>W P L N b (fun x st'=>match x with|.exit i=>if i=id then K .normal st' else K (.exit i) st'|x=>K x st') st
 |.loop b,K,st=>∃ I:Nat->St->Prop,(∃ m st0,Wk N st st0/\I m st0)/\∀ m st1,I m st1->GK N st1 (W P L N b (fun x st'=>match x with|.normal=>∃ m' st2,Wk N st' st2/\I m' st2/\m'<m|x=>K x st'))
 |.exit id,K,st=>K (.exit id) st
 |.ret,K,st=>K .ret st
 |_,_,_=>False
def Cn (pl:List (Nat×List Nat))(n:Nat):Code->Bool
 |.region id ops draw=>ops.toList.all (fun o=>match o.dst with|some d=>decide (d<n)|none=>true)&&match DH pl id with
  |none=>!draw||WW ops
  |some t=>if t.headD 0=9996 then !draw else draw&&Tn ops t
 |.seq a b=>Cn pl n a&&Cn pl n b
 |.cond _ a b=>Cn pl n a&&Cn pl n b
 |.block _ b=>Cn pl n b
 |.loop b=>Cn pl n b
 |_=>true
section
variable {w w' w0:World} {G G' G0:Gh} {P:Program} {st st':St} {a:Act} {n N:Nat} {K:AX->St->Prop} {ds:List Deferred} {L:Cf} {tm:Nat->Value}
theorem T5 (L:List Nat)(st:St)(t:Nat):(clr L st).get t=if t∈L then N6 L (st.get t) else .undef:=by
 show Cs (L.map fun t=>(t,N6 L (st.get t))) t=_
 have key:∀ (M:List Nat),Cs (M.map fun t=>(t,N6 L (st.get t))) t=if t∈M then N6 L (st.get t) else .undef:=by
  intro M
  induction M with
  |nil=>rfl
  |cons x r ih =>
   show (if x=t then N6 L (st.get x) else Cs (r.map fun t=>(t,N6 L (st.get t))) t)=_
   by_cases e:x=t
   . subst e;simp
   . grind
 exact key L
theorem Inv.clr (h:Inv w0 G0 st tm w G)(L:List Nat):Inv w0 G0 (clr L st) tm w G:=by
 refine⟨h.ext,h.store,⟨fun t=>?_,fun t=>?_⟩⟩
 . rw [T5]
   split
   . have hv:=h.env.v t
     revert hv
     generalize st.get t=q
     intro hv
     unfold N6
     split
     . split
       . exact hv
       . exact hv.tag (by simp) (by simp)
     . exact hv
   . exact .undef _ _
 . rw [T5]
   split
   . have ht:=h.env.tag t
     revert ht
     generalize st.get t=q
     intro ht
     unfold N6
     split
     . rename_i xs s
       split
       . rename_i hs
         refine⟨?_,ht.2⟩
         rw [T5,Ç (by simpa using hs),ht.1];rfl
       . trivial
     . rename_i hno
       cases q with
       |sl xs g =>
        cases g with
        |view m =>
         cases m with
         |tmp s=>exact absurd rfl (hno xs s)
         |cell k j=>exact ht
         |_=>exact ht
        |_=>exact ht
       |_=>exact ht
   . trivial
theorem Wk.refl (N:Nat)(st:St):Wk N st st:=fun _ _ _ _ G _ h=>⟨G,h⟩
theorem Wk.trans {a b c:St}(h:Wk N a b)(k:Wk N b c):Wk N a c:=fun w0 G0 tm w G hN h1=>by
 obtain⟨G',h2⟩:=h w0 G0 tm w G hN h1
 exact k w0 G0 tm w G' hN h2
theorem Wk.clr (N:Nat)(L:List Nat)(st:St):Wk N st (Vl.clr L st):=fun _ _ _ _ G _ h=>⟨G,h.clr L⟩
theorem WQ {o:Oper}{X:St->Prop}{next:Act->World->Prop}{Q:Exit->Act->World->Prop}(h:Inv w0 G0 st (AH a) w G)(hd:∀ d,o.dst=some d->d<a.tmps.size)(he:Mi P o st X)
 (hn:∀ st' v w' G',Inv w0 G0 st' (AH (a.put o.dst v)) w' G'->X st'->next (a.put o.dst v) w'):o.wp P a w next Q:=by
 unfold Mi at he
 split at he
 . rename_i s d x t hop hdst hg
   split at he
   . rename_i bs hx
     obtain⟨hs,hd8,hsz,hX⟩:=he
     have hxv:=B1 (a:=a) h.env x
     rw [hx] at hxv
     have hxe:a.eval x=.string bs:=by
      revert hxv;generalize a.eval x=z;intro hxv
      cases hxv;rfl
     have h1:P.underlying s=some .string:=by unfold Ll at hs;split at hs<;>simp_all
     obtain⟨e,h2,h3⟩:∃ e,P.underlying d=some (.slice e)/\P.underlying e=some (.int .u8):=by
      grind [u8T]
     have hrun:=run_bytes_of_string (P:=P) w s d e bs h1 h2 h3
     have hcap:=grownCap_le_maxLen w bs.size 0 e (by unfold maxLen;omega)
     have hge:=grownCap_ge w bs.size 0 e
     unfold maxLen at hcap
     generalize grownCap w bs.size 0 e=cap at hrun hcap hge
     let ob:Obj:=.cells (bytesRow bs cap) e ((bytesRow bs cap).size,(bytesRow bs cap).size+1)
     have hb:Below w.heap.size w (w.drew.alloc ob):=Below.alloc (⟨rfl,rfl,rfl,à _,fun _ _=>rfl⟩:Below w.heap.size w w.drew) (à _) _
     have hnew:(w.drew.alloc ob).heap[w.heap.size]?=some ob:=by show (w.heap.push ob)[w.heap.size]?=_;simp
     have hsz2:(w.drew.alloc ob).heap.size=w.heap.size+1:=by show (w.heap.push ob).size=_;simp
     let U':Nat->Nat->Prop:=fun b i=>G.U b i∨(b=w.heap.size/\i<bs.size)
     have hU1:∀ b i,U' b i->G.inner.U b i∨w.heap.size<=b/\b<(w.drew.alloc ob).heap.size:=fun b i hu=>by
      rcases hu with hu|⟨rfl,_⟩
      . exact .inl hu
      . exact .inr ⟨à _,by omega⟩
     have hU2:∀ b i,G.inner.U b i->U' b i:=fun _ _ hu=>.inl hu
     have hS:=h.store.inner.below hb hU1 hU2
     have hE:=Ext.ofBelow h.store.inner hb hU1 hU2
     have hV:V (w.drew.alloc ob) U' G.φ (.sl (C7 bs) .shared) (.slice (some ⟨w.heap.size,0,none⟩) bs.size cap):=by
      have hl:(C7 bs).length=bs.size:=by
       show (bs.data.toList.map _).length=bs.data.size
       rw [Í,Array.length_toList]
      rw [<- hl]
      refine .sl _ _ _ w.heap.size 0 1 cap (fun i _=>.int .u8 ((bs.data.toList.getD i 0).toNat:Int)) (by rw [hl];exact hge) hcap (fun i hi=>by simp [C7]) (fun i j hi hj=>.inr ⟨rfl,by rw [<- hl];omega⟩) (fun i j hi hj=>?_) (fun _ _ _ _=>rfl) (fun i hi j hj=>?_) (by simp) (by simp)
      . have hi2:i<bs.data.size:=by rw [hl] at hi;exact hi
        have hj0:0+i*1+j=i:=by omega
        rw [hj0]
        have hby:=bytesRow_at bs cap i hi2
        have hgd:bs.data.toList.getD i 0=bs.data[i]:=by rw [List.getD,ĉ,ã hi2];rfl
        rw [hgd]
        unfold World.cell?
        rw [hnew]
        show (if (none:Option Nat).isSome=true then none else (bytesRow bs cap)[i]?)=_
        rw [Ä (by simp)]
        exact hby
      . have hi2:i<bs.data.toList.length:=by rw [hl] at hi;rw [Array.length_toList];exact hi
        have hj0:j=0:=by simp [C7] at hj;omega
        subst hj0
        simp only [C7,é,Ė]
        have:bs.data.toList.getD i 0=bs.data.toList[i]:=by rw [List.getD,Ã hi2];rfl
        rw [this]
        exact .lit _ _
     have hI:=(h.call (tup:=QB (.sl (C7 bs) .shared)) hS hE t).putRet (r:=.sl (C7 bs) .shared) (v:=.slice (some ⟨w.heap.size,0,none⟩) bs.size cap) hV trivial
     unfold Oper.wp
     have er:(execOp a.eval o).run P w=.ok (.value (.slice (some ⟨w.heap.size,0,none⟩) bs.size cap)) (w.drew.alloc ob):=by unfold execOp;rw [hop];simp only [Ñ,hxe,hrun,Ê,Ö];rfl
     rw [er]
     exact hn _ _ _ _ (by rw [hdst,Bq (hd t hdst)];exact hI) hX
   . exact he.elim
 . exact he.elim
theorem Hb {ops:Array Oper}(hgl:C8 w0 G0)(hN:G0.φ.length<=N)(l2:List Oper)(hd2:∀ o∈l2,∀ d,o.dst=some d->d<n):∀ (l:List Oper) (st:St) (a:Act) (w:World) (G:Gh),Inv w0 G0 st (AH a) w G->a.defers=ds->a.tmps.size=n->(∀ o∈l,∀ d,o.dst=some d->d<n)->B5 P ops (Ac6 P N ops K l2) l st ->
 wpList P ops (CG ds w0 G0 n K) (l++l2) a w
 | [],st,a,w,G,h,hdef,hsz,_,he=>by
  rcases he with⟨st2,k1,k2⟩|⟨o,rest,rfl,k2⟩
  . obtain⟨G2,h2⟩:=k1 w0 G0 _ w G hN h
    exact EI hgl l2 st2 a w G2 h2 hdef hsz hd2 k2
  . have hdo:∀ d,o.dst=some d->d<a.tmps.size:=fun d hdd=>by rw [hsz];exact hd2 o (by simp) d hdd
    show wpList P ops _ (o::rest) a w
    unfold wpList
    have hgn:o.guard=none:=by
     unfold Mi at k2
     split at k2
     . rename_i hg;exact hg
     . exact k2.elim
    rw [show Region.wanted o (yielded ops a.tmps)=true from D8 (b:=true) h.env (by unfold CD;rw [hgn])]
    simp only [ù]
    left
    exact WQ h hdo k2 fun st2 v w' G' hI hX=>EI hgl rest _ _ w' G' hI (by rw [put_defers];exact hdef) (by rw [B0];exact hsz) (fun o ho=>hd2 o (by simp [ho])) hX
 |o::rest,st,a,w,G,h,hdef,hsz,hd,he=>by
  have hdo:∀ d,o.dst=some d->d<a.tmps.size:=fun d hdd=>by rw [hsz];exact hd o (by simp) d hdd
  have hdr:∀ o∈rest,∀ d,o.dst=some d->d<n:=fun o ho=>hd o (by simp [ho])
  unfold B5 at he
  rw [List.cons_append]
  unfold wpList
  split at he
  . exact he.elim
  . rename_i hg
    rw [D8 h.env hg]
    simp only [è,Ā]
    exact Hb hgl hN l2 hd2 rest _ _ w G (h.skipPut hdo) (by rw [put_defers];exact hdef) (by rw [B0];exact hsz) hdr he
  . rename_i hg
    rw [D8 h.env hg]
    simp only [ù]
    left
    split at he
    . rename_i c st2 hop
      obtain⟨rfl,he2⟩:=he
      exact T9 h hdo hop (fun v w' G' hI=>Hb hgl hN l2 hd2 rest _ _ w' G' hI (by rw [put_defers];exact hdef) (by rw [B0];exact hsz) hdr he2)
    . split at he
      . rename_i f args hcall
        exact O9 (KR:=fun r σ'=>B5 P ops (Ac6 P N ops K l2) rest ((st.aft σ').put o.dst r)) (KP:=fun c σ'=>K (.pan c) { st with σ:=σ' }) hgl h hdo hdef hcall he
         (fun r σ' v w' G' hK hI=>Hb hgl hN l2 hd2 rest _ _ w' G' hI (by rw [put_defers];exact hdef) (by rw [B0];exact hsz) hdr hK)
         (fun c σ' w' G' hK hdf hE hS=>⟨hdf,_,G',hK,hE,hS⟩)
      . split at he
        . rename_i v hpan
          unfold Oper.wp
          rw [O7 h.env hpan w]
          exact⟨hdef,st,G,he,h.ext,h.store⟩
        . exact TJ h hdo he fun st2 v w' G' hI hX=>Hb hgl hN l2 hd2 rest _ _ w' G' hI (by rw [put_defers];exact hdef) (by rw [B0];exact hsz) hdr hX
theorem Rx {r:Option Nat}(hgl:C8 w0 G0)(hm:P.follows .mixedOrders=true)(hN:G0.φ.length<=N):∀ (c:Code) (K:AX->St->Prop) (st:St) (a:Act) (w:World) (G:Gh),Cn L.pl n c=true->(r≠none->Dh c=true)->Inv w0 G0 st (AH a) w G->a.defers=ds->a.tmps.size=n->W P L N c K st->c.wpIn (FZ r) 0 P (CG ds w0 G0 n K) a w:=by
 intro c
 induction c with
 |skip=>intro K st a w G _ _ h hd hs hw;exact wpIn_skip ⟨hs,hd,st,G,hw,h⟩
 |label l=>intro K st a w G _ _ h hd hs hw;exact wpIn_label ⟨hs,hd,st,G,hw,h⟩
 |exit id=>intro K st a w G _ _ h hd hs hw;exact wpIn_exit ⟨hs,hd,st,G,hw,h⟩
 |ret=>intro K st a w G _ _ h hd hs hw;exact wpIn_ret ⟨hs,hd,st,G,hw,h⟩
 |region id ops draw =>
  intro K st a w G hok hnd h hd hs hw
  simp only [Cn,Å,Û] at hok
  obtain⟨hok1,hok2⟩:=hok
  have hd2:∀ o∈ops.toList,∀ d,o.dst=some d->d<n:=fun o ho d hdd=>by have:=hok1 o ho;rw [hdd] at this;simpa using this
  have hreg:RW P (Code.region id ops draw) (CG ds w0 G0 n (fun x st'=>K x (match x with|.normal=>clr L.L st'|_=>st'))) a w:=by
   unfold W at hw
   split at hw
   . grind [Tf]
   . rename_i t hp
     rw [hp] at hok2
     simp only at hok2
     split at hw
     . rename_i hh
       rw [Ç hh] at hok2
       obtain rfl:draw=false:=by simpa using hok2
       have:=Hb (P:=P) hgl hN (ops.toList.drop (t.getD 1 0)) (fun o ho=>hd2 o (ë ho)) _ st a w G h hd hs (fun o ho=>hd2 o (ÿ ho)) hw
       rw [Ĉ] at this
       exact X9 this
     . rename_i hh
       rw [Ä hh,Å] at hok2
       rw [hok2.1]
       exact RJ hgl hm hd2 hok2.2 h hd hs hw
  refine wpIn_mono (hreg r fun hn=>⟨hnd hn,fun ⟨_,_,k⟩=>k⟩) fun e a' w' hp=>?_
  cases e with
  |normal=>obtain⟨h1,h2,st2,G2,h3,h4⟩:=hp;exact⟨h1,h2,_,G2,h3,h4.clr L.L⟩
  |exit id=>exact hp
  |ret=>exact hp
  |panic c=>exact hp
  |goto l=>exact hp
  |outgrown=>exact hp
 |seq x y ihx ihy =>
  intro K st a w G hok hnd h hd hs hw
  simp only [Cn,Å] at hok
  have hndx:r≠none->Dh x=true/\Dh y=true:=fun hn=>by have:=hnd hn;simpa [Dh] using this
  refine wpIn_seq (wpIn_mono (ihx _ st a w G hok.1 (fun hn=>(hndx hn).1) h hd hs hw) fun e a' w' hp=>?_)
  cases e with
  |normal =>
   obtain⟨h1,h2,st2,G2,hk3,h4⟩:=hp
   obtain⟨st3,G3,h3,h5⟩:=hk3 w0 G0 _ w' G2 hN h4
   exact ihy K st3 a' w' G3 hok.2 (fun hn=>(hndx hn).2) h5 h2 h1 h3
  |exit id=>exact hp
  |ret=>exact hp
  |panic c=>exact hp
  |goto l=>exact hp
  |outgrown=>exact hp
 |cond c x y ihx ihy =>
  intro K st a w G hok hnd h hd hs hw
  simp only [Cn,Å] at hok
  unfold W at hw
  have hv:=B1 (a:=a) h.env c
  split at hw
  . rename_i t ht
    rw [ht] at hv
    have hc:a.eval c=.bool t:=by
     revert hv;generalize a.eval c=z;intro hv
     cases hv with
     |lit _ _=>rfl
    have hndx:r≠none->Dh x=true/\Dh y=true:=fun hn=>by have:=hnd hn;simpa [Dh] using this
    refine wpIn_cond hc ?_
    cases t with
    |true =>
     simp only [ù] at hw ⊢
     obtain⟨st3,G3,hw,h5⟩:=hw w0 G0 _ w G hN h
     exact ihx K st3 a w G3 hok.1 (fun hn=>(hndx hn).1) h5 hd hs hw
    |false =>
     simp only [è,Ā] at hw ⊢
     obtain⟨st3,G3,hw,h5⟩:=hw w0 G0 _ w G hN h
     exact ihy K st3 a w G3 hok.2 (fun hn=>(hndx hn).2) h5 hd hs hw
  . exact hw.elim
 |block id b ih =>
  intro K st a w G hok hnd h hd hs hw
  refine wpIn_block (wpIn_mono (ih _ st a w G hok hnd h hd hs hw) fun e a' w' hp=>?_)
  cases e with
  |normal=>exact hp
  |exit i =>
   obtain⟨h1,h2,st2,G2,h3,h4⟩:=hp
   have h5:(if i=id then K .normal st2 else K (.exit i) st2):=h3
   show (if i=id then CG ds w0 G0 n K .normal a' w' else CG ds w0 G0 n K (.exit i) a' w')
   by_cases e:i=id
   . rw [Ç e] at h5 ⊢;exact⟨h1,h2,st2,G2,h5,h4⟩
   . rw [Ä e] at h5 ⊢;exact⟨h1,h2,st2,G2,h5,h4⟩
  |ret=>exact hp
  |panic c=>exact hp
  |goto l=>exact hp
  |outgrown=>exact hp
 |loop b ih =>
  intro K st a w G hok hnd h hd hs hw
  obtain⟨I,⟨m,st0,hwk,hI⟩,hround⟩:=hw
  obtain⟨G1,h1⟩:=hwk w0 G0 _ w G hN h
  refine R4 (fun m a w=>a.tmps.size=n/\a.defers=ds/\∃ st G,I m st/\Inv w0 G0 st (AH a) w G) (m:=m) ⟨hs,hd,st0,G1,hI,h1⟩ ?_
  rintro m a w ⟨hs,hd,st1,G,hI,h⟩
  obtain⟨st4,G4,hr4,h⟩:=hround m st1 hI w0 G0 _ w G hN h
  refine wpIn_mono (ih _ st4 a w G4 hok hnd h hd hs hr4) fun e a' w' hp=>?_
  cases e with
  |normal =>
   obtain⟨h1,h2,st2,G2,⟨m',st3,hwk,h3,h4⟩,h5⟩:=hp
   obtain⟨G3,h6⟩:=hwk w0 G0 _ w' G2 hN h5
   exact⟨m',h4,h1,h2,st3,G3,h3,h6⟩
  |exit id=>exact hp
  |ret=>exact hp
  |panic c=>exact hp
  |goto l=>exact hp
  |outgrown=>exact hp
 |_=>intro K st a w G hok hnd h hd hs hw;exact hw.elim
theorem TW (hgl:C8 w0 G0)(hm:P.follows .mixedOrders=true)(hN:G0.φ.length<=N)(c:Code)(K:AX->St->Prop)(st:St)(a:Act)(w:World)(G:Gh)(hok:Cn L.pl n c=true)(h:Inv w0 G0 st (AH a) w G)(hd:a.defers=ds)(hs:a.tmps.size=n)(hw:W P L N c K st):c.wp P (CG ds w0 G0 n K) a w :=
 (wpIn_wide (n:=0)).1 (Rx (r:=none) hgl hm hN c K st a w G hok (fun hn=>absurd rfl hn) h hd hs hw)
end
end Go.Vl
namespace Go.Vl
open Go Go.RowKit
def Hy (st:St)(t:Nat):PV×St :=
 match st.get t with
 |.sl xs .own=>(.sl xs .own,st.put (some t) (.sl xs .shared))
 |.sl xs (.view (.tmp s))=>(.sl xs .own,st.put (some s) (.sl xs .shared))
 |.sl [] .nil=>(.sl [] .own,st)
 |.sl xs .full=>(.sl xs .full,st)
 |.agg cs=>(.agg (cs.map Bg),st)
 |p=>(Bg p,st)
def Aal (P:Program)(st:St):ResultVar->Option (Bool×PV×St)
 |.tmp t=>some (true,Hy st t)
 |.cell a t=>(Ky P t st.σ (st.get a)).map fun r=>(r.1,Bg r.2,st)
def Ku (P:Program):List ResultVar->St->Option (Bool×List PV×St)
 | [],st=>some (true,[],st)
 |r::rs,st=>match Aal P st r with
  |some (c,p,st1)=>(Ku P rs st1).map fun x=>(c&&x.1,p::x.2.1,x.2.2)
  |none=>none
def Mw:List PV->PV
 | [p]=>p
 |ps=>.tup ps
def Ej (N:Nat):List (List PV)->Bool
 | []=>true
 |cs::r=>PV.fitsL N cs&&Ej N r
def IZ (N:Nat)(p:PV)(σ:List (List PV)):List (List PV):=if Nat.ble σ.length N=true then σ else if p.fits N&&Ej N (σ.take N) then σ.take N else σ
def CI (P:Program)(fn:Func)(N:Nat)(Q:Cl->List (List PV)->Prop)(x:AX)(st:St):Prop :=
 match x with
 |.normal=>match Ku P fn.results.toList st with
  |some (c,ps,st')=>c=true/\Q (.ret (Mw ps)) (IZ N (Mw ps) st'.σ)
  |none=>False
 |.ret=>match Ku P fn.results.toList st with
  |some (c,ps,st')=>c=true/\Q (.ret (Mw ps)) (IZ N (Mw ps) st'.σ)
  |none=>False
 |.pan c=>Q (.pan c) (IZ N .undef st.σ)
 |.exit _=>False
def wkK (N:Nat)(Q:AX->St->Prop)(x:AX)(st:St):Prop :=
 match x with
 |.pan c=>Q (.pan c) st
 |x=>GK N st (Q x)
theorem VN {N:Nat}{Q:AX->St->Prop}(x:AX)(st:St)(h:Q x st):wkK N Q x st:=by
 cases x with
 |pan c=>exact h
 |_=>exact GK.rfl h
def IQ (args:List PV)(σ:List (List PV)):St:={ env:=args.zipIdx.map fun x=>(x.2,Bg x.1),σ }
section
variable {w w' w0:World} {G G' G0:Gh} {P:Program} {st st':St} {a:Act} {n N:Nat} {p:PV} {v:Value}
theorem Uw {t i:Nat}(h:Inv w0 G0 st (AH a) w G):∃ G',V w G'.U G'.φ (Hy st t).1 (AH a t)/\(∀ xs,(Hy st t).1=.sl xs .own->A0 w G' (.ret i) xs (AH a t))/\((∀ xs l,(Hy st t).1≠.sl xs (.view l))/\(∀ cs,(Hy st t).1≠.tup cs)/\∀ xs,(Hy st t).1≠.prv xs) /\
 Inv w0 G0 (Hy st t).2 (AH a) w G'/\(∀ b k,G.Ω b=some (.ret k)->G'.Ω b=some (.ret k))/\G'.U=G.U/\G'.φ=G.φ:=by
 have hv:=h.env.v t
 have ht:=h.env.tag t
 unfold Hy
 split
 . rename_i xs hg
   rw [hg] at hv ht
   have h1:=(h.share hg).rel (.tmp t) (.ret i) (fun ys e=>by rw [AU,BA,Ç rfl] at e;cases e) (fun ys e=>by rw [AU,BA,Ç rfl] at e;cases e)
   refine⟨G.rel (.tmp t) (.ret i),hv,fun ys e=>?_,⟨fun _ _ e=>?_,fun _ e=>?_,fun _ e=>?_⟩,h1,fun b k hb=>ID (by simp) b hb,rfl,rfl⟩
   . cases e;exact A0.to ht rfl FU
   . cases e
   . cases e
   . cases e
 . rename_i xs s hg
   rw [hg] at hv ht
   have hts:=h.env.tag s
   rw [ht.1] at hts
   have h1:=(h.share ht.1).rel (.tmp s) (.ret i) (fun ys e=>by rw [AU,BA,Ç rfl] at e;cases e) (fun ys e=>by rw [AU,BA,Ç rfl] at e;cases e)
   refine⟨G.rel (.tmp s) (.ret i),hv.tag (by simp) (by simp),fun ys e=>?_,⟨fun _ _ e=>?_,fun _ e=>?_,fun _ e=>?_⟩,h1,fun b k hb=>ID (by simp) b hb,rfl,rfl⟩
   . cases e;rw [<- ht.2];exact A0.to hts rfl FU
   . cases e
   . cases e
   . cases e
 . rename_i hg
   rw [hg] at hv
   obtain⟨_,hv2⟩:=LZ hv
   rw [hv2]
   refine⟨G,.nil _ _,fun ys e=>?_,⟨fun _ _ e=>?_,fun _ e=>?_,fun _ e=>?_⟩,h,fun b k hb=>hb,rfl,rfl⟩
   . cases e;exact .inl ⟨rfl,rfl⟩
   . cases e
   . cases e
   . cases e
 . rename_i xs hg
   rw [hg] at hv
   refine⟨G,hv,fun ys e=>?_,⟨fun _ _ e=>?_,fun _ e=>?_,fun _ e=>?_⟩,h,fun b k hb=>hb,rfl,rfl⟩<;>cases e
 . rename_i cs hg
   rw [hg] at hv
   refine⟨G,?_,fun ys e=>?_,⟨fun _ _ e=>?_,fun _ e=>?_,fun _ e=>?_⟩,h,fun b k hb=>hb,rfl,rfl⟩
   . revert hv
     generalize AH a t=z
     intro hv
     cases hv with
     |agg _ _ arr hn hh h1=>exact .agg _ _ arr (by simpa using hn) (fun i hi=>by simp only [é];exact C2 (hh i (by simpa using hi))) h1
   . cases e
   . cases e
   . cases e
   . cases e
 . refine⟨G,C2 hv,fun ys e=>?_,⟨fun ys l e=>?_,fun cs e=>?_,fun xs e=>?_⟩,h,fun b k hb=>hb,rfl,rfl⟩
   . have e:Bg (st.get t)=_:=e
     have:=Br (st.get t);rw [e] at this;cases this
   . have e:Bg (st.get t)=_:=e
     have:=Br (st.get t);rw [e] at this;cases this
   . have e:Bg (st.get t)=_:=e
     have:=Br (st.get t);rw [e] at this;cases this
   . have e:Bg (st.get t)=_:=e
     have:=Br (st.get t);rw [e] at this;cases this
def U1 (tmps:Array Value):ResultVar->Sem Value
 |.tmp t=>pure (tmps.getD t Go.undef)
 |.cell a t=>do loadVar t (<- asAddr (tmps.getD a Go.undef))
theorem MV:∀ (rs:List ResultVar) (i:Nat) (st:St) (G:Gh) (ps:List PV) (st':St),Inv w0 G0 st (AH a) w G->Ku P rs st=some (true,ps,st') ->
 ∃ vs G',(rs.mapM (U1 a.tmps)).run P w=.ok vs w/\vs.length=ps.length/\(∀ (j:Nat) (p:PV) (v:Value),ps[j]?=some p->vs[j]?=some v->V w G'.U G'.φ p v/\(∀ xs,p=.sl xs .own->A0 w G' (.ret (i+j)) xs v)/\((∀ xs l,p≠.sl xs (.view l))/\(∀ cs,p≠.tup cs)/\∀ xs,p≠.prv xs)) /\
  Inv w0 G0 st' (AH a) w G'/\(∀ b k,G.Ω b=some (.ret k)->G'.Ω b=some (.ret k))/\G'.U=G.U/\G'.φ=G.φ
 | [],i,st,G,ps,st',h,he=>by
  simp only [Ku,Â,È,õ] at he
  obtain⟨rfl,rfl⟩:=he
  exact⟨[],G,rfl,rfl,fun j p v hp=>by simp at hp,h,fun b k hb=>hb,rfl,rfl⟩
 |r::rs,i,st,G,ps,st',h,he=>by
  unfold Ku at he
  split at he
  . rename_i c p st1 hr
    cases hrs:Ku P rs st1 with
    |none=>rw [hrs] at he;cases he
    |some x =>
     obtain⟨c2,ps2,st2⟩:=x
     rw [hrs] at he
     simp only [ä,Â,È,Å] at he
     obtain⟨⟨rfl,rfl⟩,rfl,rfl⟩:=he
     have step:∃ v G1,(U1 a.tmps r).run P w=.ok v w/\V w G1.U G1.φ p v/\(∀ xs,p=.sl xs .own->A0 w G1 (.ret i) xs v)/\((∀ xs l,p≠.sl xs (.view l))/\(∀ cs,p≠.tup cs)/\∀ xs,p≠.prv xs)/\Inv w0 G0 st1 (AH a) w G1/\(∀ b k,G.Ω b=some (.ret k)->G1.Ω b=some (.ret k))/\G1.U=G.U/\G1.φ=G.φ:=by
      unfold Aal at hr
      split at hr
      . rename_i t
        simp only [Â,È,õ] at hr
        obtain⟨G1,k1,k2,k3,k4,k5,k6,k7⟩:=Uw (t:=t) (i:=i) h
        have e1:(Hy st t).1=p:=by rw [hr]
        have e2:(Hy st t).2=st1:=by rw [hr]
        rw [e1] at k1 k2 k3
        rw [e2] at k4
        exact⟨AH a t,G1,rfl,k1,k2,k3,k4,k5,k6,k7⟩
      . rename_i at_ t
        cases hl:Ky P t st.σ (st.get at_) with
        |none=>rw [hl] at hr;cases hr
        |some y =>
         obtain⟨c3,p3⟩:=y
         rw [hl] at hr
         simp only [ä,Â,È] at hr
         obtain⟨rfl,rfl,rfl⟩:=hr
         obtain⟨u,k1,k2,k3⟩:=QV h.store (h.env.v at_) hl
         have k4:=k3 w ((Reads.refl _ _).one _)
         refine⟨u,G,?_,C2 k1,fun xs e=>?_,⟨fun xs l e=>?_,fun cs e=>?_,fun ys e=>?_⟩,h,fun b k hb=>hb,rfl,rfl⟩
         . have hpt:∃ ad,AH a at_=.pointer (some ad):=by
            have hv:=h.env.v at_
            revert hl hv
            generalize st.get at_=q
            intro hl hv
            cases q with
            |ptr b o =>
             revert hv;generalize AH a at_=z;intro hv
             cases hv with
             |ptr _ _ _ k hk=>exact⟨_,rfl⟩
            |vptr cs o =>
             revert hv;generalize AH a at_=z;intro hv
             cases hv with
             |vptr _ _ b o' _ us hU hw h1 hvs=>exact⟨_,rfl⟩
            |_=>simp [Ky] at hl
           obtain⟨ad,had⟩:=hpt
           have had2:a.tmps.getD at_ Go.undef=.pointer (some ad):=had
           have k5:(Instr.loadAt t (.pointer (some ad))).run P w=.ok u w:=by
            grind [Aal]
           simp only [U1,had2,asAddr,Ñ,Ö,Ê]
           simpa [Instr.loadAt,Instr.sureAddr] using k5
         . have:=Br p3;rw [e] at this;cases this
         . have:=Br p3;rw [e] at this;cases this
         . have:=Br p3;rw [e] at this;cases this
         . have:=Br p3;rw [e] at this;cases this
     obtain⟨v,G1,s1,s2,s3,s4,s5,s6,s7,s8⟩:=step
     obtain⟨vs,G2,t1,t2,t3,t4,t5,t6,t7⟩:=MV rs (i+1) st1 G1 ps2 st2 s5 hrs
     refine⟨v::vs,G2,?_,by simp [t2],?_,t4,fun b k hb=>t5 b k (s6 b k hb),t6.trans s7,t7.trans s8⟩
     . rw [List.mapM_cons]
       simp only [Ñ,s1,Ê,t1,Ö]
     . grind [A0.to]
  . cases he
theorem Pk:∀ {σ:List (List PV)},Ej N σ=true->∀ cs∈σ,PV.fitsL N cs=true
 | [],_,cs,h=>by simp at h
 |c::r,h,cs,hm=>by
  simp only [Ej,Å] at h
  rcases List.mem_cons.1 hm with rfl|hm
  . exact h.1
  . exact Pk h.2 cs hm
theorem Az.take {σ:List (List PV)}(h:Az w G σ)(hfit:Ej N (σ.take N)=true):Az w { G with φ:=G.φ.take N } (σ.take N):=by
 refine⟨by simp [h.len],List.Nodup.sublist (List.take_sublist _ _) h.nodup,fun k b cs h1 h2=>?_,h.ub,fun b hb=>⟨(h.ob b hb).1,fun hm=>(h.ob b hb).2 (ÿ hm)⟩⟩
 have hcs:=Pk hfit cs (Ò h2)
 have hkN:k<N:=by
  have:=(List.getElem?_eq_some_iff.1 h1).1
  simp at this;omega
 have h1':G.φ[k]?=some b:=by have:(G.φ.take N)[k]?=some b:=h1;rw [Ą,Ç hkN] at this;exact this
 have h2':σ[k]?=some cs:=by rw [Ą,Ç hkN] at h2;exact h2
 obtain⟨⟨T,arr,h3,h4,h5⟩,h6⟩:=h.blk k b cs h1' h2'
 refine⟨⟨T,arr,h3,h4,fun j c hc=>?_⟩,h6⟩
 obtain⟨v,h7,h8,h9,h10⟩:=h5 j c hc
 have hjl:=List.getElem?_eq_some_iff.1 hc
 refine⟨v,h7,h8,h9.fits (by rw [<- hjl.2];exact DY hcs j hjl.1),?_⟩
 unfold Ck at h10 ⊢
 split
 . exact A0.to h10 rfl (fun b hb=>hb)
 . exact BC.to h10 rfl (fun b hb=>hb)
 . trivial
theorem Ext.take (h:Ext w0 G0 w G)(hN:G0.φ.length=N):Ext w0 G0 w { G with φ:=G.φ.take N }:=by
 refine⟨h.os,h.tape,h.output,h.size,h.frame,h.cells,h.newU,h.newΩ,[],?_,by simp⟩
 obtain⟨ψ,hφ,_⟩:=h.phi
 all_goals grind
theorem MX {x:Cl}{e:Ending}{σ:List (List PV)}{p:PV}{Q:Cl->List (List PV)->Prop}(hx:Ext w0 G0 w G)(hs:Az w G σ)(hN:G0.φ.length=N)(hq:Q x (IZ N p σ))(hend:Dq w G x e)(hp:∀ r,x=.ret r->r=p) :
 ∃ x σ' G',Q x σ'/\Dq w G' x e/\Az w G' σ'/\Ext w0 G0 w G':=by
 unfold IZ at hq
 split at hq
 . exact⟨x,σ,G,hq,hend,hs,hx⟩
 split at hq
 . rename_i hf
   simp only [Å] at hf
   refine⟨x,_,{ G with φ:=G.φ.take N },hq,?_,hs.take hf.2,hx.take hN⟩
   cases x with
   |ret r =>
    obtain⟨v,h1,h2,h3⟩:=hend
    obtain rfl:=hp r rfl
    refine⟨v,h1,h2.fits hf.1,?_⟩
    unfold Hg at h3 ⊢
    split
    . exact A0.to h3 rfl (fun b hb=>hb)
    . exact h3
    . exact h3
    . intro i xs hi
      obtain⟨arr,u,k1,k2,k3⟩:=h3 i xs hi
      exact⟨arr,u,k1,k2,k3.to rfl (fun b hb=>hb)⟩
    . trivial
   |pan c=>exact hend
 . exact⟨x,σ,G,hq,hend,hs,hx⟩
theorem OR {fn:Func}{vs:List Value}(h:(fn.results.toList.mapM (U1 a.tmps)).run P w=.ok vs w):(results fn a.tmps).run P w=.ok (if hs:vs.length=1 then vs[0] else .tuple vs.toArray) w:=by
 have e:results fn a.tmps=(do
  let vs <- fn.results.mapM (U1 a.tmps)
  pure (if h:vs.size=1 then vs[0] else .tuple vs)):=rfl
 rw [e,Array.mapM_eq_mapM_toList]
 simp [h]
theorem L9:∀ (args:List PV) (k t:Nat),Cs ((args.zipIdx k).map fun x=>(x.2,Bg x.1)) t=if k<=t then (match args[t-k]? with|some p=>Bg p|none=>.undef) else .undef
 | [],k,t=>by simp [Cs]
 |p::args,k,t=>by
  rw [List.zipIdx_cons,Þ]
  show (if k=t then Bg p else Cs ((args.zipIdx (k+1)).map fun x=>(x.2,Bg x.1)) t)=_
  rw [L9 args (k+1) t]
  by_cases e:k=t
  . subst e;simp
  . rw [Ä e]
    by_cases h:k<=t
    . rw [Ç h,Ç (by omega)]
      have:t-k=(t-(k+1))+1:=by omega
      rw [this,List.getElem?_cons_succ]
    . rw [Ä h,Ä (by omega)]
theorem VC.intro {f:FuncId}{fn:Func}{c:Code}{args:List PV}{σ:List (List PV)}{Q:Cl->List (List PV)->Prop}(L:Cf)(hf:P.funcs[f]?=some fn)(hb:fn.body=some c)(hm:P.follows .mixedOrders=true)(hok:Cn L.pl fn.ntmps c=true)(hn:args.length<=fn.ntmps)
 (h:GK σ.length (IQ args σ) (W P L σ.length c (wkK σ.length (CI P fn σ.length Q)))):VC P f args σ Q:=by
 intro w G vs hs hvs hv hΩ hgl
 refine calls_of_wp hf hb ?_
 have hsz:(vs++Array.replicate (fn.ntmps-vs.size) Go.undef).size=fn.ntmps:=by simp;omega
 have hget:∀ t,(IQ args σ).get t=match args[t]? with|some p=>Bg p|none=>.undef:=by
  intro t
  show Cs (args.zipIdx.map fun x=>(x.2,Bg x.1)) t=_
  rw [L9 args 0 t];simp
 have hinv:Inv w G (IQ args σ) (AH { tmps:=vs++Array.replicate (fn.ntmps-vs.size) Go.undef,defers:=[] }) w G:=by
  refine⟨Ext.refl _ _,hs,⟨fun t=>?_,fun t=>?_⟩⟩
  . rw [hget]
    cases e:args[t]? with
    |none=>exact .undef _ _
    |some p =>
     have ht:=List.getElem?_eq_some_iff.1 e
     have:=hv t ht.1
     rw [ht.2] at this
     have e2:AH { tmps:=vs++Array.replicate (fn.ntmps-vs.size) Go.undef,defers:=[] } t=vs.getD t Go.undef:=by
      show (vs++_).getD t Go.undef=_
      rw [É,ö (by rw [hvs];exact ht.1),É]
     rw [e2];exact C2 this
  . rw [hget]
    cases e:args[t]? with
    |none=>trivial
    |some p=>exact E9 (Br p) _ _ _ _
 have hN:G.φ.length=σ.length:=hs.len
 obtain⟨st2,G2,h,hinv⟩:=h w G _ w G (Ă hN) hinv
 refine wp_mono (TW hgl hm (Ă hN) c _ st2 _ w G2 hok hinv rfl hsz h) fun e a w' hp=>?_
 have ret:∀ (a:Act) (st:St) (G':Gh),Inv w G st (AH a) w' G'->(match Ku P fn.results.toList st with|some (c,ps,st')=>c=true/\Q (.ret (Mw ps)) (IZ σ.length (Mw ps) st'.σ)|none=>False) ->
  ∃ v,(results fn a.tmps).run P w'=.ok v w'/\∃ x σ' G',Q x σ'/\Dq w' G' x (.returned v)/\Az w' G' σ'/\Ext w G w' G':=by
  intro a st G' hI hq
  split at hq
  . rename_i c ps st' hr
    obtain⟨rfl,hq⟩:=hq
    obtain⟨us,G2,k1,k2,k3,k4,_,_,_⟩:=MV (a:=a) fn.results.toList 0 st G' ps st' hI hr
    refine⟨_,OR k1,MX (p:=Mw ps) k4.ext k4.store hN hq ?_ (fun r e=>by cases e;rfl)⟩
    match ps,us,k2,k3 with
    | [p],[u],_,k3 =>
     obtain⟨h1,h2,h3⟩:=k3 0 p u rfl rfl
     refine⟨u,rfl,h1,?_⟩
     show Hg w' G2 p u
     unfold Hg
     split
     . exact h2 _ rfl
     . exact absurd rfl (h3.2.2 _)
     . exact absurd rfl (h3.1 _ _)
     . exact absurd rfl (h3.2.1 _)
     . trivial
    | [],[],_,k3 =>
     refine⟨.tuple #[],rfl,.tup _ _ _ rfl (fun i hi=>by simp at hi),fun i xs hi=>by simp at hi⟩
    |p::q::ps,u::x::us,k2,k3 =>
     refine⟨.tuple (u::x::us).toArray,rfl,.tup _ _ _ (by simp at k2;simp [k2]) (fun i hi=>?_),fun i xs hi=>?_⟩
     . have hi2:i<(u::x::us).length:=by rw [k2];exact hi
       have:=(k3 i _ _ (Ã hi) (Ã hi2)).1
       have e:(u::x::us).toArray.getD i Go.undef=(u::x::us)[i]:=by
        rw [É,List.getElem?_toArray,Ã hi2];rfl
       rw [e];exact this
     . have hi1:=(List.getElem?_eq_some_iff.1 hi).1
       have hi2:i<(u::x::us).length:=by rw [k2];exact hi1
       have:=(k3 i _ _ hi (Ã hi2)).2.1 xs rfl
       rw [ñ] at this
       exact⟨_,_,rfl,by rw [List.getElem?_toArray,Ã hi2],this⟩
  . exact hq.elim
 cases e with
 |normal =>
  obtain⟨h1,h2,st,G',hk3,h4⟩:=hp
  obtain⟨st3,G3,h3,h5⟩:=hk3 w G _ w' G' (Ă hN) h4
  exact⟨h2,ret a st3 G3 h5 h3⟩
 |ret =>
  obtain⟨h1,h2,st,G',hk3,h4⟩:=hp
  obtain⟨st3,G3,h3,h5⟩:=hk3 w G _ w' G' (Ă hN) h4
  exact⟨h2,ret a st3 G3 h5 h3⟩
 |exit id =>
  obtain⟨h1,h2,st,G',hk3,h4⟩:=hp
  obtain⟨_,_,h3,_⟩:=hk3 w G _ w' G' (Ă hN) h4
  exact h3
 |panic c =>
  obtain⟨h1,st,G',h2,h3,h4⟩:=hp
  exact⟨h1,MX (p:=.undef) h3 h4 hN h2 rfl (fun r e=>by cases e)⟩
 |goto l=>exact hp
 |outgrown=>exact hp.elim
end
end Go.Vl
namespace Go.Vl
open Go Go.RowKit
inductive TI where
 |code (c:Code)
 |blk (id:Nat)
 |lp (I:Nat->St->Prop) (m:Nat)
def KT (P:Program)(L:Cf)(N:Nat):List TI->(AX->St->Prop)->AX->St->Prop
 | [],Q,x,st=>Q x st
 |.code c::k,Q,x,st=>match x with
  |.normal=>GK N st (W P L N c (KT P L N k Q))
  |x=>KT P L N k Q x st
 |.blk id::k,Q,x,st=>match x with
  |.exit i=>if i=id then KT P L N k Q .normal st else KT P L N k Q (.exit i) st
  |x=>KT P L N k Q x st
 |.lp I m::k,Q,x,st=>match x with
  |.normal=>∃ m' st2,Wk N st st2/\I m' st2/\m'<m
  |x=>KT P L N k Q x st
def WS (P:Program)(L:Cf)(N:Nat)(k:List TI)(Q:AX->St->Prop)(st:St):Prop:=KT P L N k Q .normal st
def Sh (id:Nat):List TI->Option (List TI)
 | []=>none
 |.blk i::k=>if i=id then some k else Sh id k
 |_::k=>Sh id k
section
variable {P:Program} {L:Cf} {N:Nat} {k k':List TI} {Q:AX->St->Prop} {st:St} {a b:Code} {id:Nat}
theorem Afi (h:Q .normal st):WS P L N [] Q st:=h
theorem Ye (h:WS P L N k Q st):WS P L N (.code .skip::k) Q st:=GK.rfl h
theorem Abh {l:Nat}(h:WS P L N k Q st):WS P L N (.code (.label l)::k) Q st:=GK.rfl h
theorem Afg (h:WS P L N (.code a::.code b::k) Q st):WS P L N (.code (.seq a b)::k) Q st:=by
 show GK N st (W P L N a (fun x st'=>match x with|.normal=>GK N st' (W P L N b (KT P L N k Q))|x=>KT P L N k Q x st'))
 have e:(fun x st'=>match x with|.normal=>GK N st' (W P L N b (KT P L N k Q))|x=>KT P L N k Q x st')=KT P L N (.code b::k) Q:=by
  funext x st';cases x<;>rfl
 rw [e];exact h
theorem Hf (h:WS P L N (.code b::.blk id::k) Q st):WS P L N (.code (.block id b)::k) Q st:=by
 show GK N st (W P L N b (fun x st'=>match x with|.exit i=>if i=id then KT P L N k Q .normal st' else KT P L N k Q (.exit i) st'|x=>KT P L N k Q x st'))
 have e:(fun x st'=>match x with|.exit i=>if i=id then KT P L N k Q .normal st' else KT P L N k Q (.exit i) st'|x=>KT P L N k Q x st')=KT P L N (.blk id::k) Q:=by
  funext x st';cases x<;>rfl
 rw [e];exact h
theorem Yh {c:Operand}{t:Bool}(hc:Cu st c=.lit (.bool t))(ht:t=true->WS P L N (.code a::k) Q st)(hf:t=false->WS P L N (.code b::k) Q st):WS P L N (.code (.cond c a b)::k) Q st:=by
 refine GK.rfl ?_
 unfold W
 rw [hc]
 cases t with
 |true=>simp only [ù];exact ht rfl
 |false=>simp only [è,Ā];exact hf rfl
theorem Gr {c:Operand}(hc:Cu st c=.lit (.bool true))(h:WS P L N (.code a::k) Q st):WS P L N (.code (.cond c a b)::k) Q st:=Yh hc (fun _=>h) (fun e=>by cases e)
theorem Fb {c:Operand}(hc:Cu st c=.lit (.bool false))(h:WS P L N (.code b::k) Q st):WS P L N (.code (.cond c a b)::k) Q st:=Yh hc (fun e=>by cases e) (fun _=>h)
theorem PD:∀ (k:List TI),KT P L N k Q (.exit id) st=match Sh id k with|some k'=>WS P L N k' Q st|none=>Q (.exit id) st
 | []=>rfl
 |.code _::k=>PD k
 |.lp _ _::k=>PD k
 |.blk i::k=>by
  show (if id=i then KT P L N k Q .normal st else KT P L N k Q (.exit id) st)=_
  rw [PD k]
  show _=match (if i=id then some k else Sh id k) with|some k'=>WS P L N k' Q st|none=>Q (.exit id) st
  by_cases e:i=id
  . subst e;rw [Ç rfl,Ç rfl];rfl
  . rw [Ä (fun e2=>e e2.symm),Ä e]
theorem Ac9 (hp:Sh id k=some k')(h:WS P L N k' Q st):WS P L N (.code (.exit id)::k) Q st:=by
 refine GK.rfl ?_
 show KT P L N k Q (.exit id) st
 rw [PD,hp];exact h
theorem R2:∀ (k:List TI),KT P L N k Q .ret st=Q .ret st
 | []=>rfl
 |.code _::k=>R2 k
 |.lp _ _::k=>R2 k
 |.blk _::k=>R2 k
theorem IS (h:Q .ret st):WS P L N (.code .ret::k) Q st:=by
 refine GK.rfl ?_
 show KT P L N k Q .ret st
 rw [R2];exact h
theorem LR (c:List PanicEntry):∀ (k:List TI),KT P L N k Q (.pan c) st=Q (.pan c) st
 | []=>rfl
 |.code _::k=>LR c k
 |.lp _ _::k=>LR c k
 |.blk _::k=>LR c k
theorem Iq {i:Nat}{ops:Array Oper}{d:Bool}(hn:DH L.pl i=none)(h:∀ K':AX->St->Prop,(∀ st1 st2,clr L.L st1=st2->WS P L N k Q st2->K' .normal st1)->(∀ c st1,Q (.pan c) st1->K' (.pan c) st1)->B5 P ops K' ops.toList st) :
 WS P L N (.code (.region i ops d)::k) Q st:=by
 refine GK.rfl ?_
 show W P L N (.region i ops d) (KT P L N k Q) st
 unfold W
 rw [hn]
 refine h (fun x st'=>KT P L N k Q x (match x with|.normal=>clr L.L st'|_=>st')) (fun st1 st2 e h2=>?_) (fun c st1 h2=>?_)
 . subst e;exact h2
 . show KT P L N k Q (.pan c) st1
   rw [LR];exact h2
theorem Yg {i m:Nat}{ops:Array Oper}{d:Bool}(hn:DH L.pl i=some [9996,m])(h:∀ K':AX->St->Prop,(∀ st1 st2,clr L.L st1=st2->WS P L N k Q st2->K' .normal st1)->(∀ c st1,Q (.pan c) st1->K' (.pan c) st1)->B5 P ops (Ac6 P N ops K' (ops.toList.drop m)) (ops.toList.take m) st) :
 WS P L N (.code (.region i ops d)::k) Q st:=by
 refine GK.rfl ?_
 show W P L N (.region i ops d) (KT P L N k Q) st
 unfold W
 rw [hn]
 simp only
 rw [Ç (show ([9996,m]:List Nat).headD 0=9996 from rfl)]
 refine h (fun x st'=>KT P L N k Q x (match x with|.normal=>clr L.L st'|_=>st')) (fun st1 st2 e h2=>?_) (fun c st1 h2=>?_)
 . subst e;exact h2
 . show KT P L N k Q (.pan c) st1
   rw [LR];exact h2
theorem VH {i:Nat}{ops:Array Oper}{d:Bool}(M t:List Nat)(x y i1 i2 i3 i4:Nat)(hn:DH L.pl i=some (9997::M.length::(M++(t++[x,y,i1,i2,i3,i4]))))(h:∀ K':AX->St->Prop,(∀ st1 st2,clr L.L st1=st2->WS P L N k Q st2->K' .normal st1)->(∀ c st1,Q (.pan c) st1->K' (.pan c) st1)->BK P ops M (Jr P ops M (EL P ops K' [i1,i2,i3,i4]) [x,y]) t st) :
 WS P L N (.code (.region i ops d)::k) Q st:=by
 refine GK.rfl ?_
 show W P L N (.region i ops d) (KT P L N k Q) st
 unfold W
 rw [hn]
 simp only
 rw [Ä (show ¬ (9997::M.length::(M++(t++[x,y,i1,i2,i3,i4]))).headD 0=9996 by simp)]
 unfold Kv
 have hl:(9997::M.length::(M++(t++[x,y,i1,i2,i3,i4]))).length=M.length+t.length+8:=by simp;omega
 rw [Ä (show ¬ (9997::M.length::(M++(t++[x,y,i1,i2,i3,i4]))).headD 0=9999 by simp),Ä (show ¬ (9997::M.length::(M++(t++[x,y,i1,i2,i3,i4]))).headD 0=9998 by simp),Ç (show (9997::M.length::(M++(t++[x,y,i1,i2,i3,i4]))).headD 0=9997 from rfl)]
 have e1:(((9997::M.length::(M++(t++[x,y,i1,i2,i3,i4]))).drop 2).take ((9997::M.length::(M++(t++[x,y,i1,i2,i3,i4]))).getD 1 0))=M:=by simp
 have e2:(((9997::M.length::(M++(t++[x,y,i1,i2,i3,i4]))).drop 2).drop ((9997::M.length::(M++(t++[x,y,i1,i2,i3,i4]))).getD 1 0))=t++[x,y,i1,i2,i3,i4]:=by simp
 have e3:(9997::M.length::(M++(t++[x,y,i1,i2,i3,i4]))).drop ((9997::M.length::(M++(t++[x,y,i1,i2,i3,i4]))).length-4)=[i1,i2,i3,i4]:=by
  rw [hl,show M.length+t.length+8-4=(M.length+(t.length+2))+2 by omega]
  show (M++(t++[x,y,i1,i2,i3,i4])).drop (M.length+(t.length+2))=_
  rw [<- Ħ,List.drop_left,<- Ħ,List.drop_left];rfl
 have e5:((9997::M.length::(M++(t++[x,y,i1,i2,i3,i4]))).drop ((9997::M.length::(M++(t++[x,y,i1,i2,i3,i4]))).length-6)).take 2=[x,y]:=by
  grind [W,Kv]
 have e4:(t++[x,y,i1,i2,i3,i4]).take ((9997::M.length::(M++(t++[x,y,i1,i2,i3,i4]))).length-8-(9997::M.length::(M++(t++[x,y,i1,i2,i3,i4]))).getD 1 0)=t:=by
  grind [W,Kv]
 rw [e1,e2,e3,e4,e5]
 refine h (fun x st'=>KT P L N k Q x (match x with|.normal=>clr L.L st'|_=>st')) (fun st1 st2 e h2=>?_) (fun c st1 h2=>?_)
 . subst e;exact h2
 . show KT P L N k Q (.pan c) st1
   rw [LR];exact h2
theorem Abg {i:Nat}{ops:Array Oper}{d:Bool}(M t:List Nat)(hn:DH L.pl i=some (9999::M.length::(M++t)))(h:∀ K':AX->St->Prop,(∀ st1 st2,clr L.L st1=st2->WS P L N k Q st2->K' .normal st1)->(∀ c st1,Q (.pan c) st1->K' (.pan c) st1)->BK P ops M K' t st) :
 WS P L N (.code (.region i ops d)::k) Q st:=by
 refine GK.rfl ?_
 show W P L N (.region i ops d) (KT P L N k Q) st
 unfold W
 rw [hn]
 simp only
 rw [Ä (show ¬ (9999::M.length::(M++t)).headD 0=9996 by simp)]
 unfold Kv
 rw [Ç (show (9999::M.length::(M++t)).headD 0=9999 from rfl)]
 have e1:(((9999::M.length::(M++t)).drop 2).take ((9999::M.length::(M++t)).getD 1 0))=M:=by simp
 have e2:(((9999::M.length::(M++t)).drop 2).drop ((9999::M.length::(M++t)).getD 1 0))=t:=by simp
 rw [e1,e2]
 refine h (fun x st'=>KT P L N k Q x (match x with|.normal=>clr L.L st'|_=>st')) (fun st1 st2 e h2=>?_) (fun c st1 h2=>?_)
 . subst e;exact h2
 . show KT P L N k Q (.pan c) st1
   rw [LR];exact h2
theorem Abf {i:Nat}{ops:Array Oper}{d:Bool}(hn:DH L.pl i=some [9995])(h:∀ K':AX->St->Prop,(∀ st1 st2,clr L.L st1=st2->WS P L N k Q st2->K' .normal st1)->(∀ c st1,Q (.pan c) st1->K' (.pan c) st1)->XV P ops st.σ.length K' (Uq ops) st) :
 WS P L N (.code (.region i ops d)::k) Q st:=by
 refine GK.rfl ?_
 show W P L N (.region i ops d) (KT P L N k Q) st
 unfold W
 rw [hn]
 simp only
 rw [Ä (show ¬ ([9995]:List Nat).headD 0=9996 by simp)]
 unfold Kv
 rw [Ä (show ¬ ([9995]:List Nat).headD 0=9999 by simp),Ä (show ¬ ([9995]:List Nat).headD 0=9998 by simp),Ä (show ¬ ([9995]:List Nat).headD 0=9997 by simp),Ç (show ([9995]:List Nat).headD 0=9995 from rfl)]
 refine h (fun x st'=>KT P L N k Q x (match x with|.normal=>clr L.L st'|_=>st')) (fun st1 st2 e h2=>?_) (fun c st1 h2=>?_)
 . subst e;exact h2
 . show KT P L N k Q (.pan c) st1
   rw [LR];exact h2
theorem FR {ops:Array Oper}{K K':AX->St->Prop}(hk:∀ x st,K x st->K' x st):∀ (l:List Oper) (st:St),B5 P ops K l st->B5 P ops K' l st
 | [],st,h=>hk _ _ h
 |o::rest,st,h=>by
  unfold B5 at h ⊢
  split at h
  . exact h.elim
  . exact FR hk rest _ h
  . split at h
    . exact⟨h.1,FR hk rest _ h.2⟩
    . split at h
      . refine h.mono fun x σ' hx=>?_
        cases x with
        |ret r=>exact FR hk rest _ hx
        |pan c=>exact hk _ _ hx
      . split at h
        . exact hk _ _ h
        . exact YO (fun st hx=>FR hk rest st hx) h
theorem PC:∀ (c:Code) {K K':AX->St->Prop},(∀ x st,K x st->K' x st)->∀ (st:St),W P L N c K st->W P L N c K' st:=by
 intro c
 induction c with
 |skip=>intro K K' hk st h;exact hk _ _ h
 |label l=>intro K K' hk st h;exact hk _ _ h
 |exit id=>intro K K' hk st h;exact hk _ _ h
 |ret=>intro K K' hk st h;exact hk _ _ h
 |region id ops d =>
  intro K K' hk st h
  unfold W at h ⊢
  split at h
  . exact FR (fun x st h=>hk _ _ h) _ _ h
  . split at h
    . rename_i hz
      rw [Ç hz]
      refine FR (fun x st h=>?_) _ _ h
      cases x with
      |normal =>
       rcases h with⟨st2,k1,k2⟩|⟨o,rest,k1,k2⟩
       . exact .inl ⟨st2,k1,FR (fun x st h=>hk _ _ h) _ _ k2⟩
       . refine .inr ⟨o,rest,k1,?_⟩
         unfold Mi at k2 ⊢
         split at k2
         . grind [FR]
         . exact k2
      |_=>exact hk _ _ h
    rename_i hz
    rw [Ä hz]
    unfold Kv at h ⊢
    split at h
    . rename_i hh
      rw [Ç hh];exact D6 (fun x st h=>hk _ _ h) _ _ h
    . grind [D6,Ut,Us,LI]
 |seq x y ihx ihy =>
  intro K K' hk st h
  refine ihx (fun x st h=>?_) st h
  cases x with
  |normal=>exact h.mono fun st2 h2=>ihy hk st2 h2
  |_=>exact hk _ _ h
 |cond c x y ihx ihy =>
  intro K K' hk st h
  unfold W at h ⊢
  split at h
  . split at h
    . rename_i hx ht;simp only [ht,ù];exact GK.mono h fun st h=>ihx hk st h
    . rename_i hx ht;rw [Ä ht];exact GK.mono h fun st h=>ihy hk st h
  . exact h
 |block id b ih =>
  intro K K' hk st h
  refine ih (fun x st h=>?_) st h
  cases x with
  |exit i =>
   have h5:(if i=id then K .normal st else K (.exit i) st):=h
   show (if i=id then K' .normal st else K' (.exit i) st)
   by_cases e:i=id
   . rw [Ç e] at h5 ⊢;exact hk _ _ h5
   . rw [Ä e] at h5 ⊢;exact hk _ _ h5
  |_=>exact hk _ _ h
 |loop b ih =>
  intro K K' hk st h
  obtain⟨I,h1,h2⟩:=h
  refine⟨I,h1,fun m st1 hI=>?_⟩
  refine (h2 m st1 hI).mono fun st3 h4=>ih (fun x st h=>?_) st3 h4
  cases x with
  |normal=>exact h
  |_=>exact hk _ _ h
 |_=>intro K K' hk st h;exact h.elim
theorem Rz {fn:Func}{Q:Cl->List (List PV)->Prop}(h:WS P L N [.code a,.code .ret] (CI P fn N Q) st):GK N st (W P L N a (wkK N (CI P fn N Q))):=by
 refine GK.mono h fun st2 h=>PC a (fun x st h=>?_) st2 h
 cases x with
 |normal=>exact h
 |pan c=>exact h
 |exit id=>exact VN (.exit id) st h
 |ret=>exact VN .ret st h
theorem Yf {I:Nat->St->Prop}{m:Nat}{st0:St}(hw:Wk N st st0)(h0:I m st0)(hr:∀ m st1,I m st1->WS P L N (.code b::.lp I m::k) Q st1):WS P L N (.code (.loop b)::k) Q st:=by
 refine GK.rfl ?_
 refine⟨I,⟨m,st0,hw,h0⟩,fun m st1 h1=>?_⟩
 have e:(fun x st'=>match x with|.normal=>∃ m' st2,Wk N st' st2/\I m' st2/\m'<m|x=>KT P L N k Q x st')=KT P L N (.lp I m::k) Q:=by
  funext x st';cases x<;>rfl
 show GK N st1 (W P L N b (fun x st'=>match x with|.normal=>∃ m' st2,Wk N st' st2/\I m' st2/\m'<m|x=>KT P L N k Q x st'))
 rw [e];exact hr m st1 h1
theorem VG {I:Nat->St->Prop}{m m':Nat}{st2:St}(hw:Wk N st st2)(h:I m' st2)(hm:m'<m):WS P L N (.lp I m::k) Q st:=⟨m',st2,hw,h,hm⟩
def Nl (c:Nat):PV->Bool
 |.sl _ (.view (.cell k _))=>decide (k<c)
 |_=>true
def low (M:List Nat)(c:Nat)(st:St):St :=
 if Nat.ble st.σ.length c=true then clr M st else if (clr M st).env.all (fun x=>x.2.fits c&&Nl c x.2)&&Ej c (st.σ.take c) then { clr M st with σ:=st.σ.take c } else clr M st
theorem Vf {p:PV->Bool}(hu:p .undef=true):∀ (l:List (Nat×PV)),l.all (fun x=>p x.2)=true->∀ t,p (Cs l t)=true
 | [],_,t=>hu
 |(k,v)::r,h,t=>by
  simp only [Ď,Å] at h
  show p (if k=t then v else Cs r t)=true
  split
  . exact h.1
  . exact Vf hu r h.2 t
theorem Inv.take0 {w0 w:World}{G0 G:Gh}{tm:Nat->Value}{c:Nat}(h:Inv w0 G0 st tm w G)(hN:G0.φ.length<=c)(hf:(∀ t,((st.get t).fits c&&Nl c (st.get t))=true)/\Ej c (st.σ.take c)=true):Inv w0 G0 { st with σ:=st.σ.take c } tm w { G with φ:=G.φ.take c }:=by
 have hall:=hf.1
 refine⟨?_,h.store.take hf.2,⟨fun t=>?_,fun t=>?_⟩⟩
 . have hx:=h.ext
   refine⟨hx.os,hx.tape,hx.output,hx.size,hx.frame,hx.cells,hx.newU,hx.newΩ,?_⟩
   obtain⟨ψ,hφ,hψ⟩:=hx.phi
   refine⟨ψ.take (c-G0.φ.length),?_,fun b hb=>hψ b (ÿ hb)⟩
   show G.φ.take c=_
   rw [hφ,List.take_append,List.take_of_length_le (by omega)]
 . have:=hall t
   simp only [Å] at this
   exact (h.env.v t).fits this.1
 . have ha:=hall t
   have ht:=h.env.tag t
   show DV w { G with φ:=G.φ.take c } { st with σ:=st.σ.take c } tm t (st.get t) (tm t)
   revert ha ht
   generalize st.get t=q
   intro ha ht
   cases q with
   |sl xs g =>
    cases g with
    |own=>exact A0.to ht rfl (fun b hb=>hb)
    |view m =>
     cases m with
     |tmp s=>exact ht
     |cell k j =>
      obtain⟨cs,b,h2,h3,h4,h5⟩:=ht
      have hk:k<c:=by simpa [Nl,PV.fits] using ha
      exact⟨cs,b,by show (st.σ.take c)[k]?=_;rw [Ą,Ç hk];exact h2,h3,by show (G.φ.take c)[k]?=_;rw [Ą,Ç hk];exact h4,h5⟩
     |_=>exact ht
    |_=>trivial
   |tup cs =>
    intro i xs hi
    obtain⟨arr,u,k1,k2,k3⟩:=ht i xs hi
    exact⟨arr,u,k1,k2,A0.to k3 rfl (fun b hb=>hb)⟩
   |_=>trivial
theorem Inv.take {w0 w:World}{G0 G:Gh}{tm:Nat->Value}{c:Nat}(h:Inv w0 G0 st tm w G)(hN:G0.φ.length<=c)(hf:st.env.all (fun x=>x.2.fits c&&Nl c x.2)=true/\Ej c (st.σ.take c)=true):Inv w0 G0 { st with σ:=st.σ.take c } tm w { G with φ:=G.φ.take c } :=
 h.take0 hN ⟨Vf (p:=fun q=>q.fits c&&Nl c q) rfl _ hf.1,hf.2⟩
theorem YH {p:PV->Bool}(hu:p .undef=true)(l:List (Nat×PV))(h:l.all (fun x=>p (Cs l x.1))=true)(t:Nat):p (Cs l t)=true:=by
 by_cases hm:∃ x∈l,x.1=t
 . obtain⟨x,hx,rfl⟩:=hm
   exact List.all_eq_true.1 h x hx
 . have:Cs l t=.undef:=by
    clear h
    induction l with
    |nil=>rfl
    |cons y r ih =>
     obtain⟨k,v⟩:=y
     show (if k=t then v else Cs r t)=_
     rw [Ä (fun e=>hm ⟨(k,v),by simp,e⟩)]
     exact ih fun ⟨x,hx,e⟩=>hm ⟨x,by simp [hx],e⟩
   rw [this];exact hu
theorem Wk.low {M:List Nat}{c:Nat}(hc:N<=c):Wk N st (Vl.low M c st):=by
 intro w0 G0 tm w G hN h
 unfold Vl.low
 split
 . exact⟨G,h.clr M⟩
 split
 . rename_i hf
   simp only [Å] at hf
   exact⟨_,(h.clr M).take (ď hN hc) hf⟩
 . exact⟨G,h.clr M⟩
def Afx {A:Type}(M:List Nat)(c:Nat)(p:A->Prop)(μ:A->Nat)(S:A->St)(m:Nat)(st:St):Prop:=∃ a,p a/\μ a=m/\low M c st=S a
theorem TX {A:Type}(M:List Nat)(c:Nat)(p:A->Prop)(μ:A->Nat)(S:A->St)(a0:A)(hc:N<=c)(e0:low M c st=S a0)(h0:p a0)
 (hr:∀ a,p a->WS P L N (.code b::.lp (Afx M c p μ S) (μ a)::k) Q (S a)):WS P L N (.code (.loop b)::k) Q st:=by
 refine Yf (I:=fun m st=>∃ a,p a/\μ a=m/\st=S a) (m:=μ a0) (Wk.low (M:=M) hc) ⟨a0,h0,rfl,e0⟩ ?_
 rintro m _ ⟨a,h1,rfl,rfl⟩
 have key:∀ (I J:Nat->St->Prop),(∀ m st,J m st->∃ st2,Wk N st st2/\I m st2)->∀ (c:Code) (st:St),WS P L N (.code c::.lp J (μ a)::k) Q st->WS P L N (.code c::.lp I (μ a)::k) Q st:=by
  intro I J hJ c st h
  refine GK.mono h fun st3 h=>PC c (fun x st h=>?_) st3 h
  cases x with
  |normal =>
   obtain⟨m',st2,h2,h3,h4⟩:=h
   obtain⟨st3,h5,h6⟩:=hJ m' st2 h3
   exact⟨m',st3,h2.trans h5,h6,h4⟩
  |_=>exact h
 refine key _ _ (fun m st h=>?_) b _ (hr a h1)
 obtain⟨a',h2,h3,h4⟩:=h
 exact⟨_,Wk.low (M:=M) hc,a',h2,h3,h4⟩
theorem JO {A:Type}{M:List Nat}{c:Nat}{p:A->Prop}{μ:A->Nat}{S:A->St}{m:Nat}(a:A)(e:low M c st=S a)(h:p a)(hm:μ a<m):WS P L N (.lp (Afx M c p μ S) m::k) Q st:=⟨μ a,st,Wk.refl N st,⟨a,h,rfl,e⟩,hm⟩
def UF:List TI->Bool
 | []=>false
 |.code _::_=>true
 |.lp _ _::_=>true
 |.blk _::k=>UF k
theorem Ry:∀ {k:List TI},UF k=true->∀ {st st0:St},Wk N st st0->WS P L N k Q st0->WS P L N k Q st
 |.code _::_,_,_,_,hw,h=>GK.pre hw h
 |.lp _ _::_,_,_,_,hw,⟨m',st2,h2,h⟩=>⟨m',st2,hw.trans h2,h⟩
 |.blk _::k,hk,_,_,hw,h=>Ry (k:=k) hk hw h
theorem KG {st0:St}(M:List Nat)(c:Nat)(hk:UF k=true)(hc:N<=c)(e:low M c st=st0)(h:WS P L N k Q st0):WS P L N k Q st:=Ry hk (Wk.low (M:=M) hc) (by rw [e];exact h)
theorem NS {X:TI}{A:Type}(p:A->Prop)(S:A->St)(h2:∀ v,p v->WS P L N k Q (S v))(h1:(∀ v,p v->WS P L N k Q (S v))->WS P L N (X::k) Q st):WS P L N (X::k) Q st:=h1 h2
end
end Go.Vl
namespace Go.Vl
open Go Go.RowKit
section
variable {w w':World} {G:Gh} {P:Program} {f:FuncId} {σ:List (List PV)}
theorem Mb {ls:List Value}{vs:Array Value}{U:Nat->Nat->Prop}{φ:List Nat}(hvs:vs.size=(ls.map PV.lit).length)(hv:∀ i (h:i<(ls.map PV.lit).length),V w U φ (ls.map PV.lit)[i] (vs.getD i Go.undef)):vs=ls.toArray:=by
 apply Array.ext
 . simpa using hvs
 . intro i h1 h2
   have:=hv i (by rw [<- hvs];exact h1)
   rw [é] at this
   have e:vs.getD i Go.undef=vs[i]:=by simp [h1]
   rw [e] at this
   have key:∀ {p:PV} {a b:Value},V w U φ p b->p=.lit a->b=a:=fun h e=>by
    cases h with
    |lit _ _=>injection e
    |_=>cases e
   rw [key this rfl];simp
theorem VC.lits (ls:List Value)(r:Value)(h:∀ w,QI w->Calls P f ls.toArray w fun e w'=>e=.returned r/\Below w.heap.size w w'):VC P f (ls.map .lit) σ fun x σ'=>x=.ret (.lit r)/\σ'=σ:=by
 intro w G vs hs hvs hv _ hgl
 rw [Mb hvs hv]
 refine (h w hgl.1).mono fun e w' ⟨he,hb⟩=>?_
 exact⟨_,_,{ G with U:=G.U },⟨rfl,rfl⟩,⟨r,he,.lit _ _,trivial⟩,hs.below hb (fun _ _ h=>.inl h) (fun _ _ h=>h),Ext.ofBelow hs hb (fun _ _ h=>.inl h) (fun _ _ h=>h)⟩
theorem VC.litErr (ls:List Value)(r:Value)(h:∀ w,QI w->Calls P f ls.toArray w fun e w'=>(∃ t v,e=.returned (.tuple #[r,.iface t v]))/\Below w.heap.size w w'):VC P f (ls.map .lit) σ fun x σ'=>x=.ret (.tup [.lit r,.ifc])/\σ'=σ:=by
 intro w G vs hs hvs hv _ hgl
 rw [Mb hvs hv]
 refine (h w hgl.1).mono fun e w' ⟨⟨t,v,he⟩,hb⟩=>?_
 refine⟨_,_,{ G with U:=G.U },⟨rfl,rfl⟩,⟨_,he,.tup _ _ _ rfl fun i hi=>?_,fun i xs hi=>?_⟩,hs.below hb (fun _ _ h=>.inl h) (fun _ _ h=>h),Ext.ofBelow hs hb (fun _ _ h=>.inl h) (fun _ _ h=>h)⟩
 . match i,hi with
   |0,_=>exact .lit _ _
   |1,_=>exact .ifc _ _ _
 . match i with
   |0=>cases hi
   |1=>cases hi
   |i+2=>simp at hi
theorem VC.litNil (ls:List Value)(r:Value)(h:∀ w,QI w->Calls P f ls.toArray w fun e w'=>e=.returned (.tuple #[r,.nilIface])/\Below w.heap.size w w'):VC P f (ls.map .lit) σ fun x σ'=>x=.ret (.tup [.lit r,.lit .nilIface])/\σ'=σ:=by
 intro w G vs hs hvs hv _ hgl
 rw [Mb hvs hv]
 refine (h w hgl.1).mono fun e w' ⟨he,hb⟩=>?_
 refine⟨_,_,{ G with U:=G.U },⟨rfl,rfl⟩,⟨_,he,.tup _ _ _ rfl fun i hi=>?_,fun i xs hi=>?_⟩,hs.below hb (fun _ _ h=>.inl h) (fun _ _ h=>h),Ext.ofBelow hs hb (fun _ _ h=>.inl h) (fun _ _ h=>h)⟩
 . match i,hi with
   |0,_=>exact .lit _ _
   |1,_=>exact .lit _ _
 . match i with
   |0=>cases hi
   |1=>cases hi
   |i+2=>simp at hi
theorem VC.freshSl (ls us:List Value)(T:TypeId)(h1:∀ v∈us,v.oneCell'=true)(hmax:us.length<=9223372036854775807)
 (h:∀ w,QI w->Calls P f ls.toArray w fun e w'=>e=.returned (.slice (some ⟨w.heap.size,0,none⟩) us.length us.length)/\w'=w.alloc (.cells us.toArray T)) :
 VC P f (ls.map .lit) σ fun x σ'=>x=.ret (.sl (us.map fun v=>[.lit v]) .full)/\σ'=σ:=by
 intro w G vs hs hvs hv _ hgl
 rw [Mb hvs hv]
 refine (h w hgl.1).mono fun e w' ⟨he,hw⟩=>?_
 subst hw
 have hb:Below w.heap.size w (w.alloc (.cells us.toArray T)):=Below.alloc (Below.refl _ _) (à _) _
 have hsz:(w.alloc (.cells us.toArray T)).heap.size=w.heap.size+1:=by simp
 have hU:∀ b i,(G.U b i∨b=w.heap.size)->G.U b i∨w.heap.size<=b/\b<(w.alloc (.cells us.toArray T)).heap.size:=fun b i h=>by
  rcases h with h|h
  . exact .inl h
  . exact .inr (by omega)
 refine⟨_,_,{ G with U:=fun b i=>G.U b i∨b=w.heap.size },⟨rfl,rfl⟩,⟨_,he,?_,trivial⟩,hs.below hb hU (fun _ _ h=>.inl h),Ext.ofBelow hs hb hU (fun _ _ h=>.inl h)⟩
 have hl:us.length=(us.map fun v=>[PV.lit v]).length:=by simp
 have key:=V.sl (w:=w.alloc (.cells us.toArray T)) (U:=fun b i=>G.U b i∨b=w.heap.size) G.φ (us.map fun v=>[PV.lit v]) .full w.heap.size 0 1 us.length (fun i _=>us.getD i Go.undef) (by simp) hmax (by simp) (fun i j _ _=>.inr rfl)
  (fun i j hi hj=>by
   have hi2:i<us.length:=by simpa using hi
   have hj0:j=0:=by omega
   subst hj0
   have e:(w.alloc (.cells us.toArray T)).heap[w.heap.size]?=some (.cells us.toArray T (0,0)):=by show (w.heap.push _)[w.heap.size]?=_;simp
   unfold World.cell?
   simp only [e]
   simp [hi2])
  (fun i j hi hj=>by
   have hi2:i<us.length:=by simpa using hi
   have:us.getD i Go.undef=us[i]:=by simp [hi2]
   rw [this];exact h1 _ (Ú hi2))
  (fun i hi j hj=>by
   have hi2:i<us.length:=by simpa using hi
   have e1:us.getD i Go.undef=us[i]:=by simp [hi2]
   have hj0:j=0:=by simp at hj;omega
   subst hj0
   rw [e1]
   simp only [é,Ė]
   exact .lit _ _)
  (fun _=>by simp) (by simp)
 rw [<- hl] at key
 exact key
end
end Go.Vl
namespace Go.Vl
open Go Go.RowKit
section
variable {P:Program} {f:FuncId} {σ:List (List PV)}
theorem VC.less {args:List PV}{Q Q':Cl->List (List PV)->Prop}(h:VC P f args σ Q)(hq:∀ x σ',Q x σ'->∃ x',Q' x' σ'/\∀ w G e,Dq w G x e->Dq w G x' e):VC P f args σ Q' :=
 fun w G vs h1 h2 h3 h4 h5=>(h w G vs h1 h2 h3 h4 h5).mono fun _ _ ⟨x,σ',G',q,he,r⟩=>by
  obtain⟨x',q',hx⟩:=hq _ _ q
  exact⟨x',σ',G',q',hx _ _ _ he,r⟩
end
end Go.Vl
namespace Go.Vl
open Go Go.RowKit
section
variable {P:Program} {f:FuncId} {w:World} {U:Nat->Nat->Prop}
theorem VC.out {args:List PV}{vs:Array Value}{Q:Cl->List (List PV)->Prop}(h:VC P f args [] Q)(hg:QI w)(hb:∀ b∈WC,b<w.heap.size)(hU:∀ b i,U b i->b<w.heap.size)(hsz:vs.size=args.length)
 (hv:∀ i (h:i<args.length),V w U [] args[i] (vs.getD i Go.undef)):Calls P f vs w fun e w'=>(∃ x σ' G',Q x σ'/\Dq w' G' x e)/\Below w.heap.size w w':=by
 refine (h w { U:=U,φ:=[],Ω:=fun _=>none } vs ⟨rfl,by simp,fun k b cs h1=>by simp at h1,hU,fun b hB=>absurd rfl hB⟩ hsz hv (fun b l e=>by cases e) ⟨hg,fun b hB=>⟨hb b hB,by simp,rfl⟩⟩).mono fun e w' hpost=>?_
 obtain⟨x,σ',G',hq,hend,_,hx⟩:=hpost
 exact⟨⟨x,σ',G',hq,hend⟩,hx.below rfl (fun _=>rfl)⟩
end
end Go.Vl
namespace Go.Proofs.YtehfpameijkafaaGreatDoor
open Go.ChangeShapes Go.WideShapes Go.ChangeAt Go.RowKit Go.Q Go.Vl
theorem Tryz.own:ownKnob Tryz.prog.godebug=none:=by kernel_rfl
theorem Tryz.laidOut:laidOutB Tryz.prog=true:=by kernel_rfl
abbrev Lp:List (String×DataW Unit) :=
 [("math/bits.deBruijn32tab",Rows.laid_math_bits_deBruijn32tab),("math/bits.deBruijn64tab",Rows.laid_math_bits_deBruijn64tab),("internal/strconv.uint64pow10",Rows.laid_internal_strconv_uint64pow10),("strconv.ErrRange",Rows.laid_strconv_ErrRange),
  ("strconv.ErrSyntax",Rows.laid_strconv_ErrSyntax),("unicode.White_Space",Rows.laid_unicode_White_Space),("strings.asciiSpace",Rows.laid_strings_asciiSpace)]
theorem Ab7:(Rows.laid_internal_strconv_uint64pow10:DataW Unit)=Lib.tabData .u64 Lib.pow10Tab:=by kernel_rfl
theorem Yr:(Rows.laid_strings_asciiSpace:DataW Unit)=Lib.tabData .u8 Lib.asciiSpaceTab:=by kernel_rfl
theorem Uy : "*"++ "errors.errorString" = "*errors.errorString":=by decide
theorem Zy (u:TypeId)(h:Tryz.prog.typeName? 3 u=some "*errors.errorString"):u=284 :=
 typeName_ptr_named (nm:= "errors.errorString") (by rw [Uy];kernel_rfl) (by kernel_rfl) (by decide) u (by rw [Uy];exact h)
theorem Un {W:World}{n:String}{g:Nat}{cs:Array Value}(hg:Tryz.prog.globalNamed n=some g)(h:W.var? Tryz.prog n=some cs):∃ T o,W.heap[g]?=some (.cells cs T o):=by
 unfold World.var? at h
 rw [hg] at h
 simp only [Á] at h
 cases hh:W.heap[g]? with
 |none=>rw [hh] at h;cases h
 |some o =>
  rw [hh] at h
  cases o<;>simp at h
  subst h
  exact⟨_,_,rfl⟩
theorem ZX:Tryz.prog.globalNamed "strings.asciiSpace" = some 0:=by kernel_rfl
theorem Agk:Tryz.prog.globalNamed "internal/strconv.uint64pow10" = some 5:=by kernel_rfl
theorem Agi:Tryz.prog.globalNamed "strconv.ErrSyntax" = some 3:=by kernel_rfl
theorem Agj:Tryz.prog.globalNamed "strconv.ErrRange" = some 4:=by kernel_rfl
theorem Pf {W:World}(h:laidMetH Tryz.prog Lp W):QI W/\∀ b∈WC,b<W.heap.size:=by
 rw [MakeChecks.laidMetH_plain _ _ _ (by kernel_rfl)] at h
 have h3:=h.tail.tail
 have h4:=h3.tail
 have h5:=h4.tail
 have h7:=h5.tail.tail
 rw [Ab7] at h3
 rw [Yr] at h7
 have t3:=Lib.tabIs_of_head Agk (by kernel_rfl) Tryz.underlying296 Tryz.underlying205 (by kernel_rfl) (by kernel_rfl) h3
 have t0:=Lib.tabIs_of_head ZX (by kernel_rfl) Tryz.underlying251 Tryz.underlying5 (by kernel_rfl) (by kernel_rfl) h7
 obtain⟨T0,o0,b0⟩:=Un ZX t0
 obtain⟨T3,o3,b3⟩:=Un Agk t3
 obtain⟨a5,_,v5,_⟩:=laid_sentinel h4 Agj (by kernel_rfl) Tryz.underlying239 Zy Tryz.underlying284 Tryz.underlying286 rfl rfl Tryz.underlying9 (by kernel_rfl) (by kernel_rfl)
 obtain⟨a4,_,v4,_⟩:=laid_sentinel h5 Agi (by kernel_rfl) Tryz.underlying239 Zy Tryz.underlying284 Tryz.underlying286 rfl rfl Tryz.underlying9 (by kernel_rfl) (by kernel_rfl)
 have c4:=World.var?_cell Agi v4 0
 have c5:=World.var?_cell Agj v5 0
 refine⟨⟨⟨⟨T0,o0,b0⟩,T3,o3,b3⟩,⟨_,c4,.inr ⟨_,_,rfl⟩⟩,_,c5,.inr ⟨_,_,rfl⟩⟩,fun b hb=>?_⟩
 simp only [WC,Ę,List.not_mem_nil,or_false] at hb
 rcases hb with rfl|rfl|rfl|rfl
 . exact (Array.getElem?_eq_some_iff.1 b0).1
 . exact (Array.getElem?_eq_some_iff.1 b3).1
 . exact World.block_lt_of_cell? _ _ c4
 . exact World.block_lt_of_cell? _ _ c5
theorem Aat (os:Os)(args:Array Value):laidMetH Tryz.prog Lp ((World.doorLaid Tryz.prog 400 os).forCall (fun _ _=>0) ⟨#[],args,[]⟩).memory:=by
 rw [MakeChecks.laidMetH_plain _ _ _ (by kernel_rfl)]
 exact laidMet_of_run' 8 (by kernel_rfl) (by kernel_rfl)
end Go.Proofs.YtehfpameijkafaaGreatDoor
