/-
  Statements whose order Go leaves open. No program. Code, and whole functions. No program. Whole functions. No program. Walking code, in plain values: what is left is a list. No program. What the walks rewrite by. No program. Library calls, as calls in plain values. No program. A method proved at one place, used at a place among more. No program. Library calls that answer by a struct of literals; contracts that say less. No program. From calls in plain values back to calls in memory. No program. What the rows' condition says of the program's own variables; the rows' common parts.
-/
import Derived.Laws.IdiomStrings
import Derived.Test.YtehfpameijkafaaGreatDoorRows
import Derived.Test.YtehfpameijkafaaGreatDoorChecked
import Derived.Stop.LaidErr
import Derived.Lib.LaidTab
import Derived.Test.YtehfpameijkafaaGreatDoorY1
import Derived.Test.YtehfpameijkafaaGreatDoorY3
set_option linter.unusedVariables false
set_option linter.unusedSimpArgs false
namespace Go.Vl
open Go Go.RowKit Go.Q
def R0 (ops:Array Oper)(i:Nat):Nat:=((ops[i]?).map EP).getD 2
def late (ops:Array Oper)(m:List Nat)(i:Nat):Bool:=(List.range ops.size).any fun j=>(m.getD i 0).testBit j&&R0 ops j == 2
def Hz (ops:Array Oper):List Nat:=(List.range ops.size).map fun i=>if R0 ops i=1/\late ops (Rh ops) i=true then 2 else R0 ops i
def TJ (o:Oper):Bool :=
 match o.op with
 |.store _ _ _=>true
 |.mapUpdate _ _ _ _=>true
 |.insert _ _ _ _=>true
 |.call c=>match c.callee with
  |.builtin .append=>false
  |.builtin .len=>false
  |.builtin .min=>false
  |.builtin .max=>false
  |_=>true
 |_=>false
def L2 (ops:Array Oper)(i:Nat):Bool:=((ops[i]?).map TJ).getD true
def Lj (ops:Array Oper):Bool :=
 Region.noSelect ops&&(Yv ops (Hz ops) (List.range ops.size) (Array.replicate ops.size false) &&
  ((List.range ops.size).all (fun i=>cl (Hz ops) i != 1||(List.range i).all fun j=>cl (Hz ops) j != 2) &&
   (List.range ops.size).all fun j=>cl (Hz ops) j != 2||(!DM ops (Hz ops) j||(!L2 ops j&&(List.range j).all fun k=>!L2 ops k))))
def V0 (ops:Array Oper):Bool:=Lj ops&&ops.toList.all fun o=>!TH o
theorem Pr {P:Program}{o:Oper}{st:St}{X:Value->Prop}{Y:St->Prop}(hp:TH o=false)(he:match L6 o st with|some v=>X v|none=>QF P o st Y):False:=by
 grind [TH,L6,QF]
section
variable {w w' w0 ws:World} {G G' G0 Gs:Gh} {P:Program} {st st':St} {a:Act} {o:Oper} {n:Nat} {ops:Array Oper} {K:AX->St->Prop} {ds:List Deferred}
theorem PY {i:Nat}(hi:i<ops.size)(ho:ops[i]?=some o):cl (Hz ops) i=2∨cl (Hz ops) i=EP o:=by
 grind [cl,Hz,List.range,R0,late,Rh,List.getD]
theorem Mc {x:FuncId×List PV}(h:Eo P o st=some x):EP o=2:=by
 grind [Eo,EP]
theorem Inv.at_ (h:Inv w0 G0 st (AG a) w G):Inv w G st (AG a) w G:=⟨Ext.refl _ _,h.store,h.env⟩
theorem Inv.since (h:Inv ws Gs st (AG a) w G)(hx:Ext w0 G0 ws Gs):Inv w0 G0 st (AG a) w G:=⟨hx.trans h.ext,h.store,h.env⟩
theorem C3.since {e:Exit}(h:C3 ds ws Gs n K e a w)(hx:Ext w0 G0 ws Gs):C3 ds w0 G0 n K e a w:=by
 cases e with
 |normal=>obtain⟨b,d,st,G,f,g⟩:=h;exact⟨b,d,st,G,f,g.since hx⟩
 |exit id=>obtain⟨b,d,st,G,f,g⟩:=h;exact⟨b,d,st,G,f,g.since hx⟩
 |ret=>obtain⟨b,d,st,G,f,g⟩:=h;exact⟨b,d,st,G,f,g.since hx⟩
 |panic c=>obtain⟨b,st,G,d,f,g⟩:=h;exact⟨b,st,G,d,hx.trans f,g⟩
 |_=>exact h
theorem Pn (h:Ext ws Gs w G)(hk:∀ b∈Gs.φ,w.heap[b]?=ws.heap[b]?):Reads ws Gs w:=⟨fun b i hu=>(h.cells b i hu).2,hk⟩
def EO (l:List PV):Bool:=l.all PV.pure
def FC:Cb->Bool
 |.ret r=>r.pure
 |.pan _=>true
theorem WZ {f:FuncId}{args:List PV}{σ:List (List PV)}{Q:Cb->Prop}{vs:Array Value}(hc:VC P f args [] fun x _=>FC x=true/\Q x)(hp:EO args=true)(hs:Ay w G σ)(hgl:Cu w G)(hvs:vs.size=args.length)(hv:∀ i (h:i<args.length),V w G.U G.φ args[i] (vs.getD i Go.undef)) :
 Calls P f vs w fun e w'=>∃ x G',Q x/\CT w' G' x e/\Ay w' G' σ/\Ext w G w' G'/\∀ k,k<w.heap.size->w'.heap[k]?=w.heap[k]?:=by
 have t:∀ i (h:i<args.length),V w G.U [] args[i] (vs.getD i Go.undef):=fun i h=>(hv i h).pure (by
  unfold EO at hp
  rw [Ú] at hp
  exact hp _ (Ù h))
 refine (hc w { U:=G.U,φ:=[],Ω:=fun _=>none } vs ⟨rfl,by simp,fun k b cs D=>by simp at D,hs.ub,fun b hb=>absurd rfl hb⟩ hvs t (fun b l h=>by cases h) ⟨hgl.1,fun b hb=>⟨(hgl.2 b hb).1,by simp,rfl⟩⟩).mono fun e w' y=>?_
 obtain⟨x,σ',G',⟨F,J⟩,q,E,p⟩:=y
 have g:∀ k,k<w.heap.size->w'.heap[k]?=w.heap[k]?:=fun k H=>p.frame k H (by simp) rfl
 have m:∀ b i,G.U b i->G'.U b i/\Kp w w' b i:=p.cells
 have a:∀ b i,G'.U b i->G.U b i∨w.heap.size<=b:=fun b i n=>by
  rcases p.newU b i n with h|h|h
  . exact .inl h
  . exact .inr h
  . exact absurd rfl h
 have z:∀ b,G'.Ω b≠none->w.heap.size<=b:=fun b hb=>by
  rcases p.newΩ b hb with h|h
  . exact h
  . exact absurd rfl h
 refine⟨x,{ U:=G'.U,φ:=G.φ,Ω:=fun b=>if b<w.heap.size then G.Ω b else G'.Ω b },J,?_,⟨hs.len,hs.nodup,fun k b cs D s=>?_,fun b i n=>E.ub b i n,fun b hb=>?_⟩,?_,g⟩
 . cases x with
   |ret r =>
    obtain⟨v,D,s,B⟩:=q
    refine⟨v,D,s.pure F,?_⟩
    have to:∀ i xs u,Az w' G' (.ret i) xs u->Az w' { U:=G'.U,φ:=G.φ,Ω:=fun b=>if b<w.heap.size then G.Ω b else G'.Ω b } (.ret i) xs u:=fun i xs u K=>K.to rfl (fun b hb=>by
     have:=z b (by rw [hb];simp)
     show (if b<w.heap.size then G.Ω b else G'.Ω b)=_
     rw [Ä (by omega)];exact hb)
    unfold Gm at B ⊢
    split
    . exact to _ _ _ B
    . exact B
    . exact B
    . grind [EO,Gm,Ca]
    . trivial
   |pan c=>exact q
 . obtain⟨⟨T,arr,B,I,L⟩,M⟩:=hs.blk k b cs D s
   have hb:b<w.heap.size:=(Array.getElem?_eq_some_iff.1 B).1
   refine⟨⟨T,arr,(g b hb).trans B,⟨I.1.mono m,I.2⟩,fun j c hc=>?_⟩,fun i n=>?_⟩
   . obtain⟨v,N,O,R,C⟩:=L j c hc
     refine⟨v,N,O,R.mono m (fun _ _ h=>h),?_⟩
     unfold Ca at C ⊢
     split
     . refine Az.keep C fun b2 o=>?_
       have d:=(hs.ob b2 (by rw [o];simp)).1
       refine⟨by show (if b2<w.heap.size then G.Ω b2 else G'.Ω b2)=_;rw [Ç d];exact o,g b2 d,fun i n=>?_⟩
       rcases a b2 i n with h|h
       . exact h
       . omega
     . refine B9.keep C fun b2 o=>?_
       have d:=(hs.ob b2 (by rw [o];simp)).1
       refine⟨by show (if b2<w.heap.size then G.Ω b2 else G'.Ω b2)=_;rw [Ç d];exact o,g b2 d,fun i n=>?_⟩
       rcases a b2 i n with h|h
       . exact h
       . omega
     . trivial
   . rcases a b i n with h|h
     . exact M i h
     . omega
 . have s:(if b<w.heap.size then G.Ω b else G'.Ω b)≠none:=hb
   by_cases d:b<w.heap.size
   . rw [Ç d] at s
     have:=hs.ob b s
     exact⟨ñ this.1 p.size,this.2⟩
   . rw [Ä d] at s
     exact⟨(E.ob b s).1,fun S=>d (hs.lt S)⟩
 . refine⟨p.os,p.tape,p.output,p.size,fun k H _ _=>g k H,m,fun b i n=>?_,fun b hb=>?_,[],by simp,by simp⟩
   . rcases a b i n with h|h
     . exact .inl h
     . exact .inr (.inl h)
   . grind [EO,Gm,Ca]
theorem VC.pure {f:FuncId}{args:List PV}{σ:List (List PV)}{Q:Cb->Prop}(hc:VC P f args [] fun x _=>FC x=true/\Q x)(hp:EO args=true):VC P f args σ fun x σ'=>Q x/\σ'=σ:=by
 intro w G vs hs a c _ b
 exact (WZ hc hp hs b a c).mono fun e w' ⟨x,G',d,g,i,j,_⟩=>⟨x,σ,G',⟨d,rfl⟩,g,i,j⟩
end
def Pu:Grow->Grow
 |.view _=>.shared
 |g=>g
mutual
def PV.shift (n:Nat):PV->PV
 |.lit v=>.lit v
 |.agg cs=>.agg (PV.shiftL n cs)
 |.tup cs=>.tup (PV.shiftL n cs)
 |.sl xs g=>.sl xs (Pu g)
 |.ptr b o=>.ptr (b+n) o
 |.vptr cs o=>.vptr cs o
 |.fn f caps=>.fn f (PV.shiftL n caps)
 |.fno b f caps=>.fno b f caps
 |.fnb f caps=>.fnb f caps
 |.ifc=>.ifc
 |.mref b=>.mref (b+n)
 |.mp kvs=>.mp kvs
 |.vmp kvs=>.vmp kvs
 |.mit kvs seen=>.mit kvs seen
 |.dis f=>.dis f
 |.asl b o m cap=>.asl (b+n) o m cap
 |.prv xs=>.prv xs
 |.undef=>.undef
def PV.shiftL (n:Nat):List PV->List PV
 | []=>[]
 |p::ps=>p.shift n::PV.shiftL n ps
end
theorem DK (n:Nat):∀ cs:List PV,(PV.shiftL n cs).length=cs.length
 | []=>rfl
 |p::ps=>by rw [PV.shiftL,æ,æ,DK n ps]
theorem shiftL_get? (n:Nat):∀ (cs:List PV) (i:Nat),(PV.shiftL n cs)[i]?=(cs[i]?).map (PV.shift n)
 | [],i=>by simp [PV.shiftL]
 |p::ps,0=>by simp [PV.shiftL]
 |p::ps,i+1=>by simp only [PV.shiftL,List.getElem?_cons_succ];exact shiftL_get? n ps i
theorem Jn (n:Nat)(cs:List PV)(i:Nat)(h:i<(PV.shiftL n cs).length):(PV.shiftL n cs)[i]=(cs[i]'(by rw [<- DK n];exact h)).shift n:=by
 have a:=shiftL_get? n cs i
 rw [Ã h,Ã (by rw [<- DK n];exact h)] at a
 exact Af a
theorem QP {n:Nat}{p:PV}{xs:List (List PV)}(h:p.shift n=.sl xs .own):p=.sl xs .own:=by
 cases p with
 |sl ys g =>
  rw [PV.shift] at h
  injection h with a b
  subst a
  cases g<;>simp_all [Pu]
 |_=>rw [PV.shift] at h;cases h
theorem WU {n:Nat}{p:PV}{xs:List (List Value)}(h:p.shift n=.prv xs):p=.prv xs:=by
 cases p with
 |prv ys=>rw [PV.shift] at h;exact h
 |_=>rw [PV.shift] at h;cases h
def Fh (n:Nat):Loc->Loc
 |.cell k j=>.cell (k+n) j
 |l=>l
def Cb.shift (n:Nat):Cb->Cb
 |.ret r=>.ret (r.shift n)
 |.pan c=>.pan c
section
variable {w w':World} {U:Nat->Nat->Prop} {φ:List Nat} {p:PV} {v:Value} {n:Nat} {G G':Gh} {P:Program}
theorem V.shift (h:V w U φ p v):∀ {φ':List Nat},(∀ (k x:Nat),φ[k]?=some x->φ'[k+n]?=some x)->V w U φ' (p.shift n) v:=by
 induction h with
 |lit φ v=>intro φ' _;exact .lit _ _
 |agg φ cs arr d h l ih=>intro φ' a;rw [PV.shift];exact .agg _ _ _ (by rw [DK];exact d) (fun i q=>by rw [Jn];exact ih i (by rw [<- DK n];exact q) a) l
 |tup φ cs arr d h ih=>intro φ' a;rw [PV.shift];exact .tup _ _ _ (by rw [DK];exact d) (fun i q=>by rw [Jn];exact ih i (by rw [<- DK n];exact q) a)
 |nil φ g=>intro φ' _;exact .nil _ _
 |emp φ g b o k s=>intro φ' _;exact .emp _ _ _ _ _ (fun e=>s (by cases g<;>simp_all [Pu]))
 |sl φ xs g b o sz cap us u y hs j r l z B s ih=>intro φ' _;rw [PV.shift];exact .sl _ _ _ b o sz cap us u y hs j r l z (fun e=>B (by cases g<;>simp_all [Pu])) (fun e=>s (by cases g<;>simp_all [Pu]))
 |ptr φ b o k h=>intro φ' a;rw [PV.shift];exact .ptr _ _ _ _ (a _ _ h)
 |prv φ xs A cap=>intro φ' _;rw [PV.shift];exact .prv _ _ _ _
 |asl φ b o m cap k h u y=>intro φ' a;rw [PV.shift];exact .asl _ _ _ _ _ _ (a _ _ h) u y
 |vptr φ cs b o' o us j r l z ih=>intro φ' _;rw [PV.shift];exact .vptr _ _ _ _ _ us j r l z
 |fn φ f caps arr d h ih=>intro φ' a;rw [PV.shift];exact .fn _ _ _ _ (by rw [DK];exact d) (fun i q=>by rw [Jn];exact ih i (by rw [<- DK n];exact q) a)
 |fno φ f caps arr d h ih=>intro φ' _;rw [PV.shift];exact .fno _ _ _ _ d h
 |fnb φ f caps arr d h ih=>intro φ' _;rw [PV.shift];exact .fnb _ _ _ _ d h
 |nof φ f caps=>intro φ' _;rw [PV.shift];exact .nof _ _ _
 |ifc φ t v=>intro φ' _;exact .ifc _ _ _
 |mref φ b k h=>intro φ' a;rw [PV.shift];exact .mref _ _ _ (a _ _ h)
 |mp φ kvs v=>intro φ' _;exact .mp _ _ _
 |vmp φ kvs b es c C r D hs=>intro φ' _;exact .vmp _ _ b es c C r D hs
 |mit φ kvs seen v=>intro φ' _;exact .mit _ _ _ _
 |dis φ f i v h ih=>intro φ' a;exact .dis _ _ i _ (by have:=ih a;rw [PV.shift] at this;exact this)
 |undef φ v=>intro φ' _;exact .undef _ _
theorem Xq (n:Nat)(p:PV):(p.shift n).isM=p.isM:=by
 cases p<;>rw [PV.shift]<;>rfl
theorem Z5.shift {o:Obj}{arr:Array Value}{cs:List PV}(h:Z5 w U o arr cs)(n:Nat):Z5 w U o arr (PV.shiftL n cs):=by
 rcases h with⟨b,a⟩|⟨kvs,es,c,rfl,a,d⟩|⟨kvs,seen,rfl,a⟩
 . refine .inl ⟨b,fun p e=>?_⟩
   obtain⟨i,f,rfl⟩:=ö e
   rw [Jn,Xq]
   exact a _ (Ù _)
 . exact .inr (.inl ⟨kvs,es,c,by simp [PV.shiftL,PV.shift],a,d⟩)
 . exact .inr (.inr ⟨kvs,seen,by simp [PV.shiftL,PV.shift],a⟩)
theorem N8 {f:FuncId}{args:List PV}{σ:List (List PV)}{Q:Cb->List (List PV)->Prop}{vs:Array Value}(hc:VC P f args [] Q)(hp:EO args=true)(hs:Ay w G σ)(hgl:Cu w G)(hvs:vs.size=args.length)(hv:∀ i (h:i<args.length),V w G.U G.φ args[i] (vs.getD i Go.undef)) :
 Calls P f vs w fun e w'=>∃ x σ' G',Q x σ'/\CT w' G' (x.shift σ.length) e/\Ay w' G' (σ++σ'.map (PV.shiftL σ.length))/\Ext w G w' G'/\∀ k,k<w.heap.size->w'.heap[k]?=w.heap[k]?:=by
 have K:∀ i (h:i<args.length),V w G.U [] args[i] (vs.getD i Go.undef):=fun i h=>(hv i h).pure (by
  unfold EO at hp
  rw [Ú] at hp
  exact hp _ (Ù h))
 refine (hc w { U:=G.U,φ:=[],Ω:=fun _=>none } vs ⟨rfl,by simp,fun k b cs H=>by simp at H,hs.ub,fun b hb=>absurd rfl hb⟩ hvs K (fun b l h=>by cases h) ⟨hgl.1,fun b hb=>⟨(hgl.2 b hb).1,by simp,rfl⟩⟩).mono fun e w' L=>?_
 obtain⟨x,σ',G',hq,I,y,F⟩:=L
 have o:∀ k,k<w.heap.size->w'.heap[k]?=w.heap[k]?:=fun k z=>F.frame k z (by simp) rfl
 have p:∀ b i,G.U b i->G'.U b i/\Kp w w' b i:=F.cells
 have d:∀ b i,G'.U b i->G.U b i∨w.heap.size<=b:=fun b i B=>by
  rcases F.newU b i B with h|h|h
  . exact .inl h
  . exact .inr h
  . exact absurd rfl h
 have C:∀ b,G'.Ω b≠none->w.heap.size<=b:=fun b hb=>by
  rcases F.newΩ b hb with h|h
  . exact h
  . exact absurd rfl h
 have q:∀ b∈G'.φ,w.heap.size<=b:=fun b hb=>by
  obtain⟨ψ,H,s⟩:=F.phi
  rw [H,ć] at hb
  exact (s b hb).resolve_right fun h=>h rfl
 have J:∀ (k x:Nat),G'.φ[k]?=some x->(G.φ++G'.φ)[k+σ.length]?=some x:=fun k x z=>by
  rw [<- hs.len,ß (Nat.le_add_left _ _),Nat.add_sub_cancel];exact z
 have R:∀ (k x:Nat),G.φ[k]?=some x->(G.φ++G'.φ)[k]?=some x:=fun k x z=>by
  rw [Õ (List.getElem?_eq_some_iff.1 z).1];exact z
 have toNew:∀ (l:Loc) xs u,Az w' G' l xs u->Az w' { U:=G'.U,φ:=G.φ++G'.φ,Ω:=fun b=>if b<w.heap.size then G.Ω b else (G'.Ω b).map (Fh σ.length) } (Fh σ.length l) xs u:=fun l xs u X=>X.to rfl (fun b hb=>by
  have:=C b (by rw [hb];simp)
  show (if b<w.heap.size then G.Ω b else (G'.Ω b).map (Fh σ.length))=_
  rw [Ä (by omega),hb];rfl)
 have toNewP:∀ (l:Loc) xs u,B9 w' G' l xs u->B9 w' { U:=G'.U,φ:=G.φ++G'.φ,Ω:=fun b=>if b<w.heap.size then G.Ω b else (G'.Ω b).map (Fh σ.length) } (Fh σ.length l) xs u:=fun l xs u X=>X.to rfl (fun b hb=>by
  have:=C b (by rw [hb];simp)
  show (if b<w.heap.size then G.Ω b else (G'.Ω b).map (Fh σ.length))=_
  rw [Ä (by omega),hb];rfl)
 refine⟨x,σ',{ U:=G'.U,φ:=G.φ++G'.φ,Ω:=fun b=>if b<w.heap.size then G.Ω b else (G'.Ω b).map (Fh σ.length) },hq,?_,⟨?_,?_,fun k b cs H s=>?_,fun b i B=>y.ub b i B,fun b hb=>?_⟩,?_,o⟩
 . cases x with
   |ret r =>
    obtain⟨v,H,s,D⟩:=I
    refine⟨v,H,s.shift J,?_⟩
    cases r with
    |sl xs g =>
     cases g with
     |own=>exact toNew (.ret 0) _ _ D
     |view l=>exact D.elim
     |_=>trivial
    |tup cs =>
     intro i xs hi
     have S:(PV.shiftL σ.length cs)[i]?=some (.sl xs .own):=hi
     rw [shiftL_get?] at S
     obtain⟨c,M,Y⟩:=Option.map_eq_some_iff.1 S
     obtain rfl:=QP Y
     obtain⟨arr,u,k1,k2,k3⟩:=D i xs M
     exact⟨arr,u,k1,k2,toNew (.ret i) _ _ k3⟩
    |_=>trivial
   |pan c=>exact I
 . show (G.φ++G'.φ).length=(σ++σ'.map (PV.shiftL σ.length)).length
   rw [Ô,Ô,Î,hs.len,y.len]
 . show (G.φ++G'.φ).Nodup
   rw [ď]
   refine⟨hs.nodup,y.nodup,fun a ha b hb=>?_⟩
   have H:=hs.lt ha
   have s:=q b hb
   rintro rfl;omega
 . by_cases z:k<σ.length
   . have N:G.φ[k]?=some b:=by
      have:(G.φ++G'.φ)[k]?=some b:=H
      rwa [Õ (by rw [hs.len];exact z)] at this
     rw [Õ z] at s
     obtain⟨⟨T,arr,D,W,Z⟩,h6⟩:=hs.blk k b cs N s
     have hb:b<w.heap.size:=(Array.getElem?_eq_some_iff.1 D).1
     refine⟨⟨T,arr,(o b hb).trans D,⟨W.1.mono p,W.2⟩,fun j c hc=>?_⟩,fun i B=>?_⟩
     . obtain⟨v,h7,h8,h9,t⟩:=Z j c hc
       refine⟨v,h7,h8,h9.mono p R,?_⟩
       unfold Ca at t ⊢
       split
       . refine Az.keep t fun b2 E=>?_
         have n:=(hs.ob b2 (by rw [E];simp)).1
         refine⟨by show (if b2<w.heap.size then G.Ω b2 else (G'.Ω b2).map (Fh σ.length))=_;rw [Ç n];exact E,o b2 n,fun i B=>?_⟩
         rcases d b2 i B with h|h
         . exact h
         . omega
       . refine B9.keep t fun b2 E=>?_
         have n:=(hs.ob b2 (by rw [E];simp)).1
         refine⟨by show (if b2<w.heap.size then G.Ω b2 else (G'.Ω b2).map (Fh σ.length))=_;rw [Ç n];exact E,o b2 n,fun i B=>?_⟩
         rcases d b2 i B with h|h
         . exact h
         . omega
       . trivial
     . rcases d b i B with h|h
       . exact h6 i h
       . omega
   . obtain⟨m,rfl⟩:∃ m,k=m+σ.length:=⟨k-σ.length,by omega⟩
     have N:G'.φ[m]?=some b:=by
      have:(G.φ++G'.φ)[m+σ.length]?=some b:=H
      rwa [<- hs.len,ß (Nat.le_add_left _ _),Nat.add_sub_cancel] at this
     rw [ß (Nat.le_add_left _ _),Nat.add_sub_cancel,ç] at s
     obtain⟨cs0,h2',rfl⟩:=Option.map_eq_some_iff.1 s
     obtain⟨⟨T,arr,D,W,Z⟩,h6⟩:=y.blk m b cs0 N h2'
     refine⟨⟨T,arr,D,⟨W.1.shift _,by rw [DK];exact W.2⟩,fun j c hc=>?_⟩,h6⟩
     rw [shiftL_get?] at hc
     obtain⟨c0,M,rfl⟩:=Option.map_eq_some_iff.1 hc
     obtain⟨v,h7,h8,h9,t⟩:=Z j c0 M
     refine⟨v,h7,h8,h9.shift J,?_⟩
     unfold Ca
     split
     . rename_i xs O
       obtain rfl:=QP O
       exact toNew (.cell m j) _ _ t
     . rename_i xs O
       obtain rfl:=WU O
       exact toNewP (.cell m j) _ _ t
     . trivial
 . have s:(if b<w.heap.size then G.Ω b else (G'.Ω b).map (Fh σ.length))≠none:=hb
   by_cases n:b<w.heap.size
   . rw [Ç n] at s
     have:=hs.ob b s
     refine⟨ñ this.1 F.size,fun hm=>?_⟩
     rcases List.mem_append.1 hm with hm|hm
     . exact this.2 hm
     . have:=q b hm;omega
   . rw [Ä n] at s
     have D:=y.ob b (fun e=>s (by rw [e];rfl))
     refine⟨D.1,fun hm=>?_⟩
     rcases List.mem_append.1 hm with hm|hm
     . exact n (hs.lt hm)
     . exact D.2 hm
 . refine⟨F.os,F.tape,F.output,F.size,fun k z _ _=>o k z,p,fun b i B=>?_,fun b hb=>?_,G'.φ,rfl,fun b hb=>.inl (q b hb)⟩
   . rcases d b i B with h|h
     . exact .inl h
     . exact .inr (.inl h)
   . grind [Fh]
theorem VC.grow {f:FuncId}{args:List PV}{σ:List (List PV)}{Q:Cb->List (List PV)->Prop}(hc:VC P f args [] Q)(hp:EO args=true):VC P f args σ fun x σ'=>∃ y τ,Q y τ/\x=y.shift σ.length/\σ'=σ++τ.map (PV.shiftL σ.length):=by
 intro w G vs hs a c _ b
 exact (N8 hc hp hs b a c).mono fun e w' ⟨x,σ',G',d,g,i,j,_⟩=>⟨_,_,G',⟨x,σ',d,rfl,rfl⟩,g,i,j⟩
end
section
variable {w w' w0 ws:World} {G G' G0 Gs:Gh} {P:Program} {st st':St} {a:Act} {o:Oper} {n:Nat} {ops:Array Oper} {K:AX->St->Prop} {ds:List Deferred}
theorem PS (hgl:Cu ws Gs)(hok:Lj ops=true)(hpan:∀ o∈ops.toList,TH o=false)(hdst:∀ o∈ops.toList,∀ d,o.dst=some d->d<n):∀ (l:List Oper) (i:Nat) (st:St) (a:Act) (w:World) (G:Gh),l=ops.toList.drop i->Inv ws Gs st (AG a) w G->a.defers=ds->a.tmps.size=n ->
 ((∃ k,i<=k/\k<ops.size/\cl (Hz ops) k=1)->w=ws/\G.U=Gs.U/\G.φ=Gs.φ)->((∀ k,k<i->L2 ops k=false)->∀ b∈Gs.φ,w.heap[b]?=ws.heap[b]?) ->
 B1 P ops K l st->JA P ops (C3 ds ws Gs n K) (Reads ws Gs) (Hz ops) (List.range' i l.length) a w
 | [],i,st,a,w,G,_,h,hdef,hsz,_,_,he=>⟨hsz,hdef,st,G,he,h⟩
 |o::rest,i,st,a,w,G,hl,h,hdef,hsz,hone,hkeep,he=>by
  have hi:i<ops.size:=by
   rcases Nat.lt_or_ge i ops.size with h1|h1
   . exact h1
   . rw [č (by simpa using h1)] at hl;cases hl
  have L:i<ops.toList.length:=by simpa using hi
  rw [ě L] at hl
  obtain⟨M,F⟩:=ĭ hl
  have C:ops[i]?=some o:=by rw [M];simp [hi]
  have s:o∈ops.toList:=by rw [M];exact Ù L
  have z:∀ d,o.dst=some d->d<a.tmps.size:=fun d A=>by rw [hsz];exact hdst o s d A
  simp only [Lj,Æ,Ú,List.mem_range,ú,bne_iff_ne,å] at hok
  obtain⟨N,O,R,S⟩:=hok
  have T:Lj ops=true:=by
   simp only [Lj,Æ,Ú,List.mem_range,ú,bne_iff_ne,å]
   exact⟨N,O,R,S⟩
  have u:L2 ops i=TJ o:=by simp [L2,C]
  have go:∀ (st2:St) (a2:Act) (w2:World) (G2:Gh),Inv ws Gs st2 (AG a2) w2 G2->a2.defers=ds->a2.tmps.size=n->((∃ k,i+1<=k/\k<ops.size/\cl (Hz ops) k=1)->w2=ws/\G2.U=Gs.U/\G2.φ=Gs.φ)->((∀ k,k<i+1->L2 ops k=false)->∀ b∈Gs.φ,w2.heap[b]?=ws.heap[b]?) ->
   B1 P ops K rest st2->JA P ops (C3 ds ws Gs n K) (Reads ws Gs) (Hz ops) (List.range' (i+1) rest.length) a2 w2 :=
   fun st2 a2 w2 G2 h1 B Z h4 h5 h6=>PS hgl T hpan hdst rest (i+1) st2 a2 w2 G2 F h1 B Z h4 h5 h6
  have x:(∃ k,i+1<=k/\k<ops.size/\cl (Hz ops) k=1)->w=ws/\G.U=Gs.U/\G.φ=Gs.φ:=fun ⟨k,h1,B⟩=>hone ⟨k,by omega,B⟩
  have t:(∀ k,k<i+1->L2 ops k=false)->∀ b∈Gs.φ,w.heap[b]?=ws.heap[b]?:=fun J=>hkeep fun k hki=>J k (by omega)
  have H:cl (Hz ops) i=2->¬ ∃ k,i+1<=k/\k<ops.size/\cl (Hz ops) k=1:=by
   grind [JA,B1,wpOp,Hl,Oper.wp,Hx,Eo,Reads]
  have q:cl (Hz ops) i=2->DM ops (Hz ops) i=true->L2 ops i=false/\∀ k,k<i->L2 ops k=false:=by
   grind [JA,B1,wpOp,Hl,Oper.wp,Hx,Eo,Reads]
  rw [æ,List.range'_succ]
  unfold JA
  simp only [C]
  unfold B1 at he
  have V:cl (Hz ops) i=0∨cl (Hz ops) i=1∨cl (Hz ops) i=2:=by
   rcases PY hi C with h1|h1
   . exact .inr (.inr h1)
   . rw [h1];exact IM o
  split at he
  . first|exact he.elim|exact (Pr (hpan o s) he).elim
  . rename_i hg
    have D:=Dd h.env hg
    have hS:=h.skipPut z
    have j:=go _ _ w G hS (by rw [put_defers];exact hdef) (by rw [Bw];exact hsz) x t he
    rcases V with h0|h0|h0
    . rw [Ç h0]
      exact⟨Go.undef,.inr ⟨D,rfl⟩,j⟩
    . rw [Ä (by omega),Ç h0]
      exact⟨Go.undef,.inr ⟨D,rfl⟩,j⟩
    . rw [Ä (by omega),Ä (by omega)]
      unfold wpOp
      simp only [C,D]
      refine⟨fun W=>?_,j⟩
      exact Pn h.ext (hkeep (q h0 W).2)
  . rename_i hg
    have D:=Dd h.env hg
    by_cases m:EP o=2
    . -- it may write
      have h0:cl (Hz ops) i=2:=by
       rcases PY hi C with h1|h1
       . exact h1
       . rw [h1];exact m
      rw [Ä (by omega),Ä (by omega)]
      unfold wpOp
      simp only [C,D,ø]
      left
      have fin:∀ (st2:St) (v:Value) (w2:World) (G2:Gh),Inv ws Gs st2 (AG (a.put o.dst v)) w2 G2->(TJ o=false->(∀ k,k<i->L2 ops k=false)->∀ b∈Gs.φ,w2.heap[b]?=ws.heap[b]?)->B1 P ops K rest st2 ->
       (DM ops (Hz ops) i=true->Reads ws Gs w2)/\JA P ops (C3 ds ws Gs n K) (Reads ws Gs) (Hz ops) (List.range' (i+1) rest.length) (a.put o.dst v) w2:=by
       intro st2 v w2 G2 hI J hev
       refine⟨fun W=>?_,go st2 _ w2 G2 hI (by rw [put_defers];exact hdef) (by rw [Bw];exact hsz) (fun hx=>absurd hx (H h0)) (fun X=>J ?_ (fun k hki=>X k (by omega))) hev⟩
       . obtain⟨h1,B⟩:=q h0 W
         exact Pn hI.ext (J (by rw [<- u];exact h1) B)
       . rw [<- u];exact X i (by omega)
      split at he
      . rename_i c st2 p
        obtain⟨rfl,I⟩:=he
        unfold Hl at p
        rw [Ç m] at p
        obtain⟨nx,v,w2,G2,h1,B,Z,h4⟩:=J1 h z p
        unfold Oper.wp
        rw [h1]
        have E:=fin st2 v w2 G2 Z (fun hm J b hb=>by
         have hst:Hx o=false:=by
          grind [Hx,TJ]
         obtain⟨ψ,hφ,_⟩:=h.ext.phi
         rw [h4 hst b (by rw [hφ];exact ĉ _ hb)]
         exact hkeep J b hb) I
        rcases B with rfl|⟨rfl,rfl⟩
        . exact E
        . exact E
      . split at he
        . rename_i f args g
          refine NC (KR:=fun r σ'=>B1 P ops K rest ((st.aft σ').put o.dst r)) (KP:=fun c σ'=>K (.pan c) { st with σ:=σ' }) hgl h z hdef g he (fun r σ' v w2 G2 hK hI=>?_) (fun c σ' w2 G2 hK hdf hE hS=>⟨hdf,_,G2,hK,hE,hS⟩)
          refine fin _ v w2 G2 hI (fun hm=>?_) hK
          exfalso
          unfold Eo at g
          split at g
          . rename_i cc Y
            split at g
            . rename_i ff hff
              simp [TJ,Y,hff] at hm
            . cases g
          . cases g
        . first|exact he.elim|exact (Pr (hpan o s) he).elim
    . split at he
      . rename_i c st2 p
        obtain⟨rfl,I⟩:=he
        unfold Hl at p
        rw [Ä m] at p
        split at p
        . rename_i d A
          obtain⟨v,G2,h1,y,B⟩:=Ij h (z d A) A p
          have j:=go st2 _ w G2 B (by rw [put_defers];exact hdef) (by rw [Bw];exact hsz) (fun hx=>by obtain⟨k1,k2,k3⟩:=x hx;exact⟨k1,y.1.trans k2,y.2.trans k3⟩) t I
          rcases V with h0|h0|h0
          . rw [Ç h0]
            have hcls:EP o=0:=by
             rcases PY hi C with h5|h5
             . omega
             . omega
            exact⟨v,.inl ⟨D,fun w2 _=>.inl (h1 w2 (fun e=>by omega))⟩,j⟩
          . rw [Ä (by omega),Ç h0]
            obtain⟨k1,k2,k3⟩:=hone ⟨i,Ü _,hi,h0⟩
            refine⟨v,.inl ⟨D,fun w2 hr=>.inl (h1 w2 (fun _=>Reads.one ?_ _))⟩,j⟩
            unfold Reads
            rw [k1,k2,k3];exact hr
          . rw [Ä (by omega),Ä (by omega)]
            unfold wpOp
            simp only [C,D,ø]
            left
            unfold Oper.wp
            rw [h1 w (fun _=>(Reads.refl _ _).one _)]
            exact⟨fun W=>Pn h.ext (hkeep (q h0 W).2),j⟩
        . cases p
      . split at he
        . rename_i f args g
          exact absurd (Mc g) m
        . first|exact he.elim|exact (Pr (hpan o s) he).elim
end
section
variable {w w' w0 ws:World} {G G' G0 Gs:Gh} {P:Program} {st st':St} {a:Act} {o:Oper} {n:Nat} {ops:Array Oper} {K:AX->St->Prop} {ds:List Deferred}
theorem RT {id:Nat}{draw:Bool}(hgl:Cu w0 G0)(hm:P.follows .mixedOrders=true)(hdst:∀ o∈ops.toList,∀ d,o.dst=some d->d<n)(hdraw:draw=true->V0 ops=true)(h:Inv w0 G0 st (AG a) w G)(hdef:a.defers=ds)(hsz:a.tmps.size=n)(he:B1 P ops K ops.toList st) :
 RW P (Code.region id ops draw) (C3 ds w0 G0 n K) a w:=by
 cases draw with
 |false=>exact Wa (Eg hgl _ st a w G h hdef hsz hdst he)
 |true =>
  have b:=hdraw rfl
  unfold V0 at b
  rw [Æ,Ú] at b
  obtain⟨j,i⟩:=b
  have k:∀ o∈ops.toList,TH o=false:=fun o p=>by simpa using i o p
  have f:=j
  simp only [Lj,Æ] at f
  have q:=h.drew.at_
  have l:=PS (P:=P) (K:=K) (ws:=w.drew) (Gs:=G) ((hgl.ext h.ext).ext h.ext.drew0) j k hdst ops.toList 0 st a w.drew G (by simp) q hdef hsz (fun _=>⟨rfl,rfl,rfl⟩) (fun _ _ _=>rfl) he
  have g:RW P (Code.region id ops.toList.toArray true) (C3 ds w.drew G n K) a w:=by
   refine Pg (Hz ops) (List.range ops.size) (Reads w.drew G) hm (by simpa using f.1) (by simp) (by simpa using f.2.1) ?_ (Reads.refl _ _) ?_
   . rintro c d v a' w' ⟨m,r⟩
     exact⟨by rw [put_defers] at m;exact m,r⟩
   . rw [Array.length_toList,<- List.range_eq_range'] at l
     simpa using l
  rw [ë] at g
  exact g.mono fun e a' w' s=>s.since h.ext.drew
end
end Go.Vl
namespace Go.Vl
open Go Go.RowKit
def K0 (k:Nat):Option Loc->Option Loc
 |some (.cell 0 j)=>some (.cell k j)
 |l=>l
def Gh.one (G:Gh)(k b:Nat):Gh:={ U:=G.U,φ:=[b],Ω:=fun c=>match G.Ω c with|some (.cell k' j)=>if k'=k then some (.cell 0 j) else none|_=>none }
def Gh.many (G G':Gh)(k:Nat):Gh:={ U:=G'.U,φ:=G.φ,Ω:=fun c=>match G.Ω c with|some (.cell k' j)=>if k'=k then K0 k (G'.Ω c) else some (.cell k' j)|_=>K0 k (G'.Ω c) }
section
variable {w w':World} {G G':Gh} {P:Program} {f:FuncId} {σ:List (List PV)} {k b:Nat} {cs:List PV}
theorem one_cell {c j:Nat}(h:G.Ω c=some (.cell k j)):(G.one k b).Ω c=some (.cell 0 j):=by
 show (match G.Ω c with|some (.cell k' j)=>if k'=k then some (Loc.cell 0 j) else none|_=>none)=_
 rw [h];simp
theorem Ty {c:Nat}(h:∀ j,G.Ω c≠some (.cell k j)):(G.one k b).Ω c=none:=by
 show (match G.Ω c with|some (.cell k' j)=>if k'=k then some (Loc.cell 0 j) else none|_=>none)=_
 all_goals grind
theorem M4 {c:Nat}{l:Loc}(h:(G.one k b).Ω c=some l):∃ j,G.Ω c=some (.cell k j)/\l=.cell 0 j:=by
 have a:(match G.Ω c with|some (.cell k' j)=>if k'=k then some (Loc.cell 0 j) else none|_=>none)=some l:=h
 all_goals grind
theorem N2 {c:Nat}{l:Loc}(h:∀ k' j,G.Ω c=some (.cell k' j)->k'=k)(hl:K0 k (G'.Ω c)=some l):(G.many G' k).Ω c=some l:=by
 show (match G.Ω c with|some (.cell k' j)=>if k'=k then K0 k (G'.Ω c) else some (.cell k' j)|_=>K0 k (G'.Ω c))=_
 all_goals grind
theorem P0 {c k' j:Nat}(h:G.Ω c=some (.cell k' j))(hk:k'≠k):(G.many G' k).Ω c=some (.cell k' j):=by
 show (match G.Ω c with|some (.cell k' j)=>if k'=k then K0 k (G'.Ω c) else some (.cell k' j)|_=>K0 k (G'.Ω c))=_
 rw [h];simp [hk]
theorem Ri {c:Nat}(h:(G.many G' k).Ω c≠none):G.Ω c≠none∨G'.Ω c≠none:=by
 have h:(match G.Ω c with|some (.cell k' j)=>if k'=k then K0 k (G'.Ω c) else some (.cell k' j)|_=>K0 k (G'.Ω c))≠none:=h
 all_goals grind [K0]
theorem Ay.one (hs:Ay w G σ)(hk:G.φ[k]?=some b)(hc:σ[k]?=some cs)(hp:PV.fitsL 0 cs=true):Ay w (G.one k b) [cs]:=by
 refine⟨rfl,by simp [Gh.one],fun k2 b2 cs2 g o=>?_,hs.ub,fun c hB=>?_⟩
 . have i:k2=0:=by
    have:=(List.getElem?_eq_some_iff.1 o).1
    simp at this;omega
   subst i
   have m:b=b2:=by simpa [Gh.one] using g
   have n:cs=cs2:=by simpa using o
   subst m n
   obtain⟨⟨T,arr,p,q,r⟩,s⟩:=hs.blk k b cs hk hc
   refine⟨⟨T,arr,p,q,fun j c d=>?_⟩,s⟩
   obtain⟨v,t,u,x,a⟩:=r j c d
   have f:=List.getElem?_eq_some_iff.1 d
   refine⟨v,t,u,x.pure (by rw [<- f.2];exact D5 hp j f.1),?_⟩
   unfold Ca at a ⊢
   split
   . exact Az.to a rfl (fun c hc=>one_cell hc)
   . exact B9.to a rfl (fun c hc=>one_cell hc)
   . trivial
 . cases e:(G.one k b).Ω c with
   |none=>exact absurd e hB
   |some l =>
    obtain⟨j,g,_⟩:=M4 e
    have:=hs.ob c (by rw [g];simp)
    refine⟨this.1,fun y=>this.2 ?_⟩
    have:c=b:=by simpa [Gh.one] using y
    subst this;exact Ò hk
theorem SB {args:List PV}{Q:Cb->List PV->Prop}{vs:Array Value}(hc:σ[k]?=some cs)(hcs:PV.fitsL 0 cs=true)(hargs:EO args=true)
 (h:VC P f (.ptr 0 0::args) [cs] fun x σ'=>∃ cs',σ'=[cs']/\PV.fitsL 0 cs'=true/\FC x=true/\Q x cs')
 (hs:Ay w G σ) (hgl:Cu w G) (hvs:vs.size=(PV.ptr k 0::args).length) (hv:∀ i (h:i<(PV.ptr k 0::args).length),V w G.U G.φ (PV.ptr k 0::args)[i] (vs.getD i Go.undef)) :
 Calls P f vs w fun e w'=>∃ x cs' G',FC x=true/\Q x cs'/\CT w' G' x e/\Ay w' G' (σ.set k cs')/\Ext w G w' G'/\∀ k2 b2,G.φ[k2]?=some b2->k2≠k->w'.heap[b2]?=w.heap[b2]?:=by
 have N:k<σ.length:=(List.getElem?_eq_some_iff.1 hc).1
 have hkφ:k<G.φ.length:=by rw [hs.len];exact N
 obtain⟨b,hb⟩:∃ b,G.φ[k]?=some b:=⟨_,Ã hkφ⟩
 have D:∀ i (Y:i<(PV.ptr 0 0::args).length),V w (G.one k b).U (G.one k b).φ (PV.ptr 0 0::args)[i] (vs.getD i Go.undef):=by
  intro i Y
  cases i with
  |zero =>
   have J:=hv 0 (by simp)
   simp only [ĕ] at J ⊢
   revert J
   generalize vs.getD 0 Go.undef=z
   intro J
   cases J with
   |ptr _ _ _ k2 s =>
    rw [hb] at s
    obtain rfl:=Af s
    exact .ptr _ _ _ _ rfl
  |succ i =>
   have J:=hv (i+1) (by simpa using Y)
   simp only [List.getElem_cons_succ] at J ⊢
   refine J.pure ?_
   unfold EO at hargs
   rw [Ú] at hargs
   exact hargs _ (Ù _)
 have O:Cu w (G.one k b):=⟨hgl.1,fun c K=>⟨(hgl.2 c K).1,fun hm=>(hgl.2 c K).2.1 (by
  have:c=b:=by simpa [Gh.one] using hm
  subst this;exact Ò hb),Ty fun j e=>by rw [(hgl.2 c K).2.2] at e;cases e⟩⟩
 refine (h w (G.one k b) vs (hs.one hb hc hcs) hvs D (fun c l e=>by obtain⟨j,_,e2⟩:=M4 e;exact⟨0,j,e2⟩) O).mono fun e w' L=>?_
 obtain⟨x,_,G',⟨cs',rfl,R,S,hq⟩,I,E,t⟩:=L
 have hφ':G'.φ=[b]:=by
  obtain⟨ψ,h1,_⟩:=t.phi
  have a:=E.len
  rw [h1] at a ⊢
  have:ψ=[]:=by
   have n:([b]++ψ).length=1:=a
   simp at n;exact n
  rw [this];rfl
 -- what is old and not the place's own keeps
 have y:∀ c,G'.Ω c≠none->w.heap.size<=c∨∃ j,G.Ω c=some (.cell k j):=fun c hB=>by
  rcases t.newΩ c hB with h1|h1
  . exact .inl h1
  . cases e:(G.one k b).Ω c with
    |none=>exact absurd e h1
    |some l=>obtain⟨j,a,_⟩:=M4 e;exact .inr ⟨j,a⟩
 have o:∀ c,G'.Ω c≠none->∀ k' j,G.Ω c=some (.cell k' j)->k'=k:=fun c hB k' j e=>by
  rcases y c hB with h1|⟨j2,h1⟩
  . have:=(hs.ob c (by rw [e];simp)).1;omega
  . rw [e] at h1;cases h1;rfl
 have d:∀ c,c<w.heap.size->c≠b->(∀ j,G.Ω c≠some (.cell k j))->w'.heap[c]?=w.heap[c]?:=fun c h1 a n=>t.frame c h1 (by simpa [Gh.one] using a) (Ty n)
 have g:∀ c i,G'.U c i->G.U c i∨w.heap.size<=c∨∃ j,G.Ω c=some (.cell k j):=fun c i F=>by
  rcases t.newU c i F with h1|h1|h1
  . exact .inl h1
  . exact .inr (.inl h1)
  . cases e:(G.one k b).Ω c with
    |none=>exact absurd e h1
    |some l=>obtain⟨j,a,_⟩:=M4 e;exact .inr (.inr ⟨j,a⟩)
 have lift:∀ {l:Loc} {c:Nat},G'.Ω c=some l->K0 k (some l)=some l->(G.many G' k).Ω c=some l:=fun {l c} e e2=>N2 (o c (by rw [e];simp)) (by rw [e];exact e2)
 refine⟨x,cs',G.many G' k,S,hq,?_,⟨by simp [Gh.many,hs.len],hs.nodup,fun k2 b2 cs2 h1 a=>?_,E.ub,fun c hB=>?_⟩,⟨t.os,t.tape,t.output,t.size,fun c h1 a n=>?_,t.cells,fun c i F=>?_,fun c hB=>?_,[],by simp [Gh.many],by simp⟩,fun k2 b2 s M=>?_⟩
 . cases x with
   |ret r =>
    obtain⟨v,h1,a,n⟩:=I
    refine⟨v,h1,a.pure S,?_⟩
    unfold Gm at n ⊢
    split
    . exact Az.to n rfl (fun c e=>lift e rfl)
    . exact n
    . exact n
    . intro i xs Y
      obtain⟨arr,u,k1,k2,k3⟩:=n i xs Y
      exact⟨arr,u,k1,k2,Az.to k3 rfl (fun c e=>lift e rfl)⟩
    . trivial
   |pan c=>exact I
 . have B:G.φ[k2]?=some b2:=h1
   by_cases e:k2=k
   . subst e
     rw [hb] at B
     obtain rfl:=Af B
     rw [ē N] at a
     obtain rfl:=Af a
     obtain⟨⟨T,arr,n,Z,h5⟩,h6⟩:=E.blk 0 b cs' (by rw [hφ'];rfl) rfl
     refine⟨⟨T,arr,n,Z,fun j c H=>?_⟩,h6⟩
     obtain⟨v,h7,h8,h9,p⟩:=h5 j c H
     have W:=List.getElem?_eq_some_iff.1 H
     refine⟨v,h7,h8,h9.pure (by rw [<- W.2];exact D5 R j W.1),?_⟩
     unfold Ca at p ⊢
     split
     . exact Az.to p rfl (fun c e=>N2 (o c (by rw [e];simp)) (by rw [e];rfl))
     . exact B9.to p rfl (fun c e=>N2 (o c (by rw [e];simp)) (by rw [e];rfl))
     . trivial
   . rw [List.getElem?_set_ne (fun e2=>e e2.symm)] at a
     obtain⟨⟨T,arr,n,Z,h5⟩,h6⟩:=hs.blk k2 b2 cs2 B a
     have hlt:b2<w.heap.size:=(Array.getElem?_eq_some_iff.1 n).1
     have M:b2≠b:=fun e2=>by
      subst e2
      have i1:=List.getElem?_eq_some_iff.1 B
      have i2:=List.getElem?_eq_some_iff.1 hb
      exact e ((List.getElem_inj hs.nodup).1 (i1.2.trans i2.2.symm))
     have X:∀ j,G.Ω b2≠some (.cell k j):=fun j e2=>(hs.ob b2 (by rw [e2];simp)).2 (Ò B)
     refine⟨⟨T,arr,(d b2 hlt M X).trans n,⟨Z.1.mono t.cells,Z.2⟩,fun j c H=>?_⟩,fun i F=>?_⟩
     . obtain⟨v,h7,h8,h9,p⟩:=h5 j c H
       refine⟨v,h7,h8,h9.mono t.cells (fun _ _ h=>h),?_⟩
       unfold Ca at p ⊢
       split
       . refine Az.keep p fun b3 q=>?_
         have C:=hs.ob b3 (by rw [q];simp)
         have m:∀ j,G.Ω b3≠some (.cell k j):=fun j e2=>by rw [q] at e2;cases e2;exact e rfl
         refine⟨P0 q e,d b3 C.1 (fun e2=>C.2 (by subst e2;exact Ò hb)) m,fun i F=>?_⟩
         rcases g b3 i F with h|h|⟨j2,h⟩
         . exact h
         . omega
         . exact absurd h (m j2)
       . refine B9.keep p fun b3 q=>?_
         have C:=hs.ob b3 (by rw [q];simp)
         have m:∀ j,G.Ω b3≠some (.cell k j):=fun j e2=>by rw [q] at e2;cases e2;exact e rfl
         refine⟨P0 q e,d b3 C.1 (fun e2=>C.2 (by subst e2;exact Ò hb)) m,fun i F=>?_⟩
         rcases g b3 i F with h|h|⟨j2,h⟩
         . exact h
         . omega
         . exact absurd h (m j2)
       . trivial
     . rcases g b2 i F with h|h|⟨j2,h⟩
       . exact h6 i h
       . omega
       . exact X j2 h
 . by_cases hg:G.Ω c=none
   . have h1:G'.Ω c≠none:=by
      rcases Ri hB with h1|h1
      . exact absurd hg h1
      . exact h1
     refine⟨(E.ob c h1).1,fun hm=>?_⟩
     rcases y c h1 with a|⟨j,a⟩
     . have:=hs.lt hm;omega
     . rw [hg] at a;cases a
   . have:=hs.ob c hg
     exact⟨ñ this.1 t.size,this.2⟩
 . grind [EO,Gm,Ca]
 . rcases g c i F with h|h|⟨j,h⟩
   . exact .inl h
   . exact .inr (.inl h)
   . exact .inr (.inr (by rw [h];simp))
 . rcases Ri hB with h1|h1
   . exact .inr h1
   . rcases y c h1 with a|⟨j,a⟩
     . exact .inl a
     . exact .inr (by rw [a];simp)
 . refine d b2 (hs.lt (Ò s)) (fun e=>?_) (fun j e2=>(hs.ob b2 (by rw [e2];simp)).2 (Ò s))
   subst e
   have i1:=List.getElem?_eq_some_iff.1 s
   have i2:=List.getElem?_eq_some_iff.1 hb
   exact M ((List.getElem_inj hs.nodup).1 (i1.2.trans i2.2.symm))
theorem VC.at {args:List PV}{Q:Cb->List PV->Prop}(hc:σ[k]?=some cs)(hcs:PV.fitsL 0 cs=true)(hargs:EO args=true)
 (h:VC P f (.ptr 0 0::args) [cs] fun x σ'=>∃ cs',σ'=[cs']/\PV.fitsL 0 cs'=true/\FC x=true/\Q x cs'):VC P f (.ptr k 0::args) σ fun x σ'=>∃ cs',Q x cs'/\σ'=σ.set k cs':=by
 intro w G vs hs a c l b
 exact (SB hc hcs hargs h hs b a c).mono fun e w' ⟨x,cs',G',_,d,g,i,j,_⟩=>⟨x,σ.set k cs',G',⟨cs',d,rfl⟩,g,i,j⟩
end
end Go.Vl
namespace Go.Q
open Go
section
variable {P:Program} {ops:Array Oper} {Q:Exit->Act->World->Prop}
def ER (ops:Array Oper)(S S':World->Prop)(c:List Nat)(j:Nat)(w w':World):Prop:=if cl c j=0∨cl c j=1 then w'=w/\S'=S else S' w'/\(DM ops c j=true->∀ w,S' w->S w)
def Dg (P:Program)(ops:Array Oper)(Q:Exit->Act->World->Prop)(c:List Nat):Nat->(World->Prop)->Array Bool->Act->World->Prop
 |0,_,D,a,w=>Region.ready .any ops D=[]/\Q .normal a w
 |fuel+1,S,D,a,w =>
  (Region.ready .any ops D=[]->Q .normal a w) /\
  ∀ i∈Region.ready .any ops D,wpOp P ops Q i (fun a' w'=>∃ S',ER ops S S' c i w w'/\Dg P ops Q c fuel S' (D.setIfInBounds i true) a' w') a w
theorem H5 {c:List Nat}:∀ (fuel:Nat) (S:World->Prop) (D:Array Bool) (a:Act) (w:World),Dg P ops Q c fuel S D a w->wpAny P .any ops Q fuel D a w
 |0,_,_,_,_,h=>h
 |fuel+1,_,_,_,_,h=>⟨h.1,fun i hi=>wpOp_mono (fun a' w' ⟨S',_,h'⟩=>H5 fuel S' _ a' w' h') (h.2 i hi)⟩
theorem FR {c:List Nat}{T:World->Prop}{i:Nat}{oi:Oper}{v:Value}(hi:ops[i]?=some oi)(hsel:∀ (j:Nat) (o:Oper) cs b,ops[j]?=some o->o.op≠.select cs b)
 (hQ:∀ c a w,Q (.panic c) (a.put oi.dst v) w->Q (.panic c) a w) (hci:cl c i=0∨cl c i=1) (hT:(∀ w,T w)∨cl c i=1) :
 ∀ (fuel:Nat) (S:World->Prop) (D:Array Bool) (a:Act) (w:World),Ea ops D->S w->(∀ w,S w->T w) ->
  (∀ j oj,ops[j]?=some oj->j≠i->D.getD j true=false->(∀ e∈oj.after,Region.binds .any e=true->e.on≠i)->oi.apart ops oj=true) ->
  i∈Region.ready .any ops D->YieldsIn P ops T oi v a ->
  Dg P ops Q c fuel S (D.setIfInBounds i true) (a.put oi.dst v) w->Dg P ops Q c (fuel+1) S D a w:=by
 have f:∀ S w,ER ops S S c i w w:=fun S w=>by unfold ER;rw [Ç hci];exact⟨rfl,rfl⟩
 intro fuel
 induction fuel with
 |zero =>
  intro S D a w hD m g _ n B H
  refine⟨fun h=>(by rw [h] at n;cases n),fun j s=>?_⟩
  by_cases d:j=i
  . subst d;exact B.wpOp hi (g w m) ⟨S,f S w,H⟩
  . have:=ready_mono s d
    rw [H.1] at this
    cases this
 |succ fuel ih =>
  intro S D a w hD m g l n B H
  refine⟨fun h=>(by rw [h] at n;cases n),fun j s=>?_⟩
  by_cases d:j=i
  . subst d;exact B.wpOp hi (g w m) ⟨S,f S w,H⟩
  . have C:=H.2 j (ready_mono s d)
    obtain⟨q,oj,r,u⟩:=mem_ready.1 s
    have x:∀ e∈oj.after,Region.binds .any e=true->e.on≠i:=fun e K hb E=>by
     have C:=u e K hb
     rw [E,(D8 n).1] at C
     cases C
    have L:=L8 r (l j oj r d q x) (fun cs b=>hsel i oi cs b hi) (fun cs b=>hsel j oj cs b r) hQ B C
    have p:∀ k ok,ops[k]?=some ok->k≠i->(D.setIfInBounds j true).getD k true=false ->
     (∀ e∈ok.after,Region.binds .any e=true->e.on≠i)->oi.apart ops ok=true:=fun k ok M F y G=>by
     refine l k ok M F ?_ G
     by_cases z:j=k
     . subst z;exact q
     . rw [getD_set_ne true z] at y;exact y
    refine wpOp_mono (fun a' w' N=>?_) L
    obtain⟨I,S',t,O⟩:=N
    have A:S' w'/\∀ w,S' w->T w:=by
     unfold ER at t
     split at t
     . obtain⟨rfl,rfl⟩:=t;exact⟨m,g⟩
     . refine⟨t.1,fun w2 J=>?_⟩
       rcases hT with hT|hT
       . exact hT w2
       . exact g w2 (t.2 (Pw hD s (D8 n).2 (D8 n).1 hT (Ę d)) w2 J)
    refine⟨S',t,ih S' (D.setIfInBounds j true) a' w' (hD.set s) A.1 A.2 p (ready_mono n (Ę d)) I ?_⟩
    rw [Array.setIfInBounds_comm _ _ d]
    exact O
def UM (ops:Array Oper)(c:List Nat)(i:Nat):Bool:=(List.range ops.size).all fun j=>cl c j == 0||cl c j == 1||((Rh ops).getD j 0).testBit i
theorem Aac {c:List Nat}{i j:Nat}{D:Array Bool}(hp:UM ops c i=true)(hD:Ea ops D)(hj:j∈Region.ready .any ops D)(hun:D.getD i false=false):cl c j=0∨cl c j=1:=by
 unfold UM at hp
 rw [Ú] at hp
 have h:=hp j (List.mem_range.2 (D8 hj).2)
 rw [ú,ú,ý,ý] at h
 rcases h with (h|h)|h
 . exact .inl h
 . exact .inr h
 . obtain⟨_,oj,a,b⟩:=mem_ready.1 hj
   have:=Py j i h D hD (fun o' d e f hb=>by
    have:o'=oj:=Af (d.symm.trans a)
    subst this
    exact b e f hb) ⟨oj,a⟩
   rw [hun] at this
   cases this
theorem Qy {c:List Nat}{i:Nat}{oi:Oper}{v:Value}{w:World}(hi:ops[i]?=some oi)(hsel:∀ (j:Nat) (o:Oper) cs b,ops[j]?=some o->o.op≠.select cs b)
 (hQ:∀ c a w,Q (.panic c) (a.put oi.dst v) w->Q (.panic c) a w) (hci:cl c i=0∨cl c i=1) (hpre:UM ops c i=true) :
 ∀ (fuel:Nat) (S:World->Prop) (D:Array Bool) (a:Act),Ea ops D->S w ->
  (∀ j oj,ops[j]?=some oj->j≠i->D.getD j true=false->(∀ e∈oj.after,Region.binds .any e=true->e.on≠i)->oi.apart ops oj=true) ->
  i∈Region.ready .any ops D->YieldsIn P ops (fun w'=>w'=w) oi v a ->
  Dg P ops Q c fuel S (D.setIfInBounds i true) (a.put oi.dst v) w->Dg P ops Q c (fuel+1) S D a w:=by
 have f:∀ S w,ER ops S S c i w w:=fun S w=>by unfold ER;rw [Ç hci];exact⟨rfl,rfl⟩
 intro fuel
 induction fuel with
 |zero =>
  intro S D a hD s _ m z H
  refine⟨fun h=>(by rw [h] at m;cases m),fun j r=>?_⟩
  by_cases d:j=i
  . subst d;exact z.wpOp hi rfl ⟨S,f S w,H⟩
  . have:=ready_mono r d
    rw [H.1] at this
    cases this
 |succ fuel ih =>
  intro S D a hD s g m z H
  refine⟨fun h=>(by rw [h] at m;cases m),fun j r=>?_⟩
  by_cases d:j=i
  . subst d;exact z.wpOp hi rfl ⟨S,f S w,H⟩
  . have A:=H.2 j (ready_mono r d)
    obtain⟨n,oj,p,t⟩:=mem_ready.1 r
    have u:∀ e∈oj.after,Region.binds .any e=true->e.on≠i:=fun e I hb B=>by
     have A:=t e I hb
     rw [B,(D8 m).1] at A
     cases A
    have J:=L8 p (g j oj p d n u) (fun cs b=>hsel i oi cs b hi) (fun cs b=>hsel j oj cs b p) hQ z A
    have l:∀ k ok,ops[k]?=some ok->k≠i->(D.setIfInBounds j true).getD k true=false ->
     (∀ e∈ok.after,Region.binds .any e=true->e.on≠i)->oi.apart ops ok=true:=fun k ok K C x E=>by
     refine g k ok K C ?_ E
     by_cases y:j=k
     . subst y;exact n
     . rw [getD_set_ne true y] at x;exact x
    refine wpOp_mono (fun a' w' L=>?_) J
    obtain⟨F,S',G,M⟩:=L
    have q:=G
    unfold ER at q
    rw [Ç (Aac hpre hD r (D8 m).1)] at q
    obtain⟨rfl,rfl⟩:=q
    refine⟨S',G,ih S' (D.setIfInBounds j true) a' (hD.set r) s l (ready_mono m (Ę d)) F ?_⟩
    rw [Array.setIfInBounds_comm _ _ d]
    exact M
def SH (P:Program)(ops:Array Oper)(c:List Nat)(S:World->Prop)(i:Nat)(o:Oper)(v:Value)(a:Act)(w:World):Prop :=
 YieldsIn P ops S o v a∨(UM ops c i=true/\YieldsIn P ops (fun w'=>w'=w) o v a)
theorem G8 {c:List Nat}{i:Nat}{oi:Oper}{v:Value}(hi:ops[i]?=some oi)(hsel:∀ (j:Nat) (o:Oper) cs b,ops[j]?=some o->o.op≠.select cs b)
 (hQ:∀ c a w,Q (.panic c) (a.put oi.dst v) w->Q (.panic c) a w) (hci:cl c i=1) (fuel:Nat) (S:World->Prop) (D:Array Bool) (a:Act) (w:World) (hD:Ea ops D) (hS:S w)
 (hf:∀ j oj,ops[j]?=some oj->j≠i->D.getD j true=false->(∀ e∈oj.after,Region.binds .any e=true->e.on≠i)->oi.apart ops oj=true)
 (hr:i∈Region.ready .any ops D) (hy:SH P ops c S i oi v a w) (h:Dg P ops Q c fuel S (D.setIfInBounds i true) (a.put oi.dst v) w):Dg P ops Q c (fuel+1) S D a w:=by
 rcases hy with hy|⟨d,hy⟩
 . exact FR (T:=S) hi hsel hQ (.inr hci) (.inr hci) fuel S D a w hD hS (fun _ h=>h) hf hr hy h
 . exact Qy hi hsel hQ (.inr hci) d fuel S D a hD hS hf hr hy h
def Hm (P:Program)(ops:Array Oper)(Q:Exit->Act->World->Prop)(c:List Nat):(World->Prop)->List Nat->Act->World->Prop
 |_,[],a,w=>Q .normal a w
 |S,i::t,a,w=>match ops[i]? with
  |none=>False
  |some o =>
   if cl c i=0 then ∃ v,YieldsIn P ops (fun _=>True) o v a/\Hm P ops Q c S t (a.put o.dst v) w
   else if cl c i=1 then ∃ v,SH P ops c S i o v a w/\Hm P ops Q c S t (a.put o.dst v) w
   else wpOp P ops Q i (fun a' w'=>∃ S':World->Prop,S' w'/\(DM ops c i=true->∀ w,S' w->S w)/\Hm P ops Q c S' t a' w') a w
theorem HV {c:List Nat}(hsel:Region.noSelect ops=true)(hQ:∀ c d v a w,Q (.panic c) (a.put d v) w->Q (.panic c) a w):∀ (t:List Nat) (S:World->Prop) (D:Array Bool) (a:Act) (w:World),Ea ops D ->
 S w->Yv ops c t D=true->Hm P ops Q c S t a w->Dg P ops Q c t.length S D a w
 | [],S,D,a,w,_,_,hok,h=>⟨by simpa [Yv] using hok,h⟩
 |i::t,S,D,a,w,hD,hS,hok,h=>by
  simp only [Yv,Æ] at hok
  obtain⟨⟨hr,hf⟩,hok'⟩:=hok
  have hr':i∈Region.ready .any ops D:=by simpa using hr
  obtain⟨_,oi,b,_⟩:=mem_ready.1 hr'
  unfold Hm at h
  simp only [b] at h
  by_cases e:cl c i=0
  . rw [Ç e] at h
    rw [Ç (.inl e)] at hf
    obtain⟨v,g,k⟩:=h
    exact FR (T:=fun _=>True) b (ċ hsel) (fun _ a w h=>hQ _ _ _ a w h) (.inl e) (.inl fun _=>trivial) t.length S D a w hD hS (fun _ _=>trivial) (ę b hf) hr' g
     (HV hsel hQ t S _ _ w (hD.set hr') hS hok' k)
  . rw [Ä e] at h
    by_cases f:cl c i=1
    . rw [Ç f] at h
      rw [Ç (.inr f)] at hf
      obtain⟨v,g,k⟩:=h
      exact G8 b (ċ hsel) (fun _ a w h=>hQ _ _ _ a w h) f t.length S D a w hD hS (ę b hf) hr' g
       (HV hsel hQ t S _ _ w (hD.set hr') hS hok' k)
    . rw [Ä f] at h
      rw [Ä (by simp [e,f])] at hf
      have l:Region.ready .any ops D=[i]:=by simpa using hf
      refine⟨fun h=>(by rw [h] at hr';cases hr'),fun j m=>?_⟩
      rw [l] at m
      obtain rfl:j=i:=by simpa using m
      refine wpOp_mono (fun a' w' n=>?_) h
      obtain⟨S',k1,k2,k3⟩:=n
      exact⟨S',by unfold ER;rw [Ä (by simp [e,f])];exact⟨k1,k2⟩,HV hsel hQ t S' _ a' w' (hD.set hr') k1 hok' k3⟩
theorem Oo {id:Nat}{l:List Oper}{a:Act}{w:World}(c t:List Nat)(S:World->Prop)(hm:P.follows .mixedOrders=true)(hsel:Region.noSelect l.toArray=true)
 (hlen:t.length=l.length) (hok:Yv l.toArray c t (Array.replicate l.toArray.size false)=true) (hQ:∀ c d v a w,Q (.panic c) (a.put d v) w->Q (.panic c) a w)
 (hS:S w.drew) (h:Hm P l.toArray Q c S t a w.drew):Go.Vl.RW P (Code.region id l.toArray true) Q a w:=by
 refine Go.Vl.rw_any hm ?_
 rw [show l.toArray.size=t.length by simp [hlen]]
 refine H5 _ S _ _ _ (HV (c:=c) hsel hQ t S _ a _ ?_ hS ?_ h)
 . intro j oj _ b
   rw [getD_replicate_false] at b
   cases b
 . rw [show t.length=l.toArray.size by simp [hlen]];exact hok
end
end Go.Q
namespace Go.Vl
open Go Go.RowKit Go.Q
def Sh (b:Nat):List Nat->Bool
 | []=>false
 |x::r=>if x=b then true else Sh b r
theorem Gz {b:Nat}:∀ {M:List Nat},Sh b M=true↔b∈M
 | []=>by simp [Sh]
 |x::r=>by
  unfold Sh
  split
  . rename_i e;simp [e]
  . rename_i e
    rw [Gz,List.mem_cons]
    exact⟨.inr,fun h=>h.elim (fun h=>absurd h.symm e) id⟩
def Yl (M:List Nat)(o:Oper)(st:St):Bool :=
 match o.op with
 |.load _ x=>match Ck st x with
  |.ptr b _=>!Sh b M
  |_=>true
 |_=>true
def WY (_:List Nat)(_:Oper)(_:St):Bool:=true
def Co (ops:Array Oper):List Nat:=(List.range ops.size).map (R0 ops)
def Adf (o:Oper):Bool:=match o.op with|.store _ _ _=>true|_=>false
def Q7 (ops:Array Oper)(M:List Nat)(i:Nat)(o:Oper)(st:St):Bool :=
 match o.op with
 |.store _ x _=>if DM ops (Co ops) i=true then (match Ck st x with|.ptr k _=>Sh k M|_=>false) else true
 |.load _ _=>Yl M o st||UM ops (Co ops) i
 |_=>true
def DW (ops:Array Oper):List Nat->Bool
 | []=>true
 |i::t=>(match ops[i]? with
  |none=>false
  |some o=>!(DM ops (Co ops) i)||(!Hx o||Adf o))&&DW ops t
def Sb (ops:Array Oper)(t:List Nat):Bool :=
 Region.noSelect ops&&(t.length == ops.size&&(Yv ops (Co ops) t (Array.replicate ops.size false)&&DW ops t))
def BH (P:Program)(ops:Array Oper)(M:List Nat)(K:AX->St->Prop):List Nat->St->Prop
 | [],st=>K .normal st
 |i::t,st =>
  match ops[i]? with
  |none=>False
  |some o =>
   match Cy ops st o with
   |none=>False
   |some false=>BH P ops M K t (st.put o.dst (.lit (.tuple #[])))
   |some true =>
    match Hl P o st with
    |some (c,st')=>c=true/\(WY M o st&&Q7 ops M i o st)=true/\BH P ops M K t st'
    |none =>
     match Eo P o st with
     |some (f,args) =>
      if DM ops (Co ops) i=true then
       match args with
       |.ptr k 0::more=>Sh k M=true/\PV.fitsL 0 (st.σ.getD k [])=true/\EO more=true/\k<st.σ.length /\
        VC P f (.ptr 0 0::more) [st.σ.getD k []] fun x σ'=>∃ cs',σ'=[cs']/\PV.fitsL 0 cs'=true/\FC x=true/\match x with
         |.ret r=>BH P ops M K t ((st.aftK (fun q=>q != k) (st.σ.set k cs')).put o.dst r)
         |.pan c=>K (.pan c) { st with σ:=st.σ.set k cs' }
       |args=>EO args=true/\VC P f args [] fun x σ'=>match x with
        |.ret r=>BH P ops M K t ((st.aftK (fun _=>true) (st.σ++σ'.map (PV.shiftL st.σ.length))).put o.dst (r.shift st.σ.length))
        |.pan c=>K (.pan c) { st with σ:=st.σ++σ'.map (PV.shiftL st.σ.length) }
      else VC P f args st.σ fun x σ'=>match x with
       |.ret r=>BH P ops M K t ((st.aft σ').put o.dst r)
       |.pan c=>K (.pan c) { st with σ:=σ' }
     |none=>False
def BA (M:List Nat)(w:World)(U:Nat->Nat->Prop)(φ:List Nat)(w':World):Prop :=
 (∀ b i,U b i->Kp w w' b i)/\∀ k b,φ[k]?=some b->k∉M->w'.heap[b]?=w.heap[b]?
theorem BA.refl (M:List Nat)(w:World)(U:Nat->Nat->Prop)(φ:List Nat):BA M w U φ w:=⟨fun _ _ _=>Kp.refl,fun _ _ _ _=>rfl⟩
section
variable {w w' w0 ws w2:World} {G G' G0 Gs G2:Gh} {P:Program} {st st':St} {a:Act} {o:Oper} {n:Nat} {ops:Array Oper} {K:AX->St->Prop} {ds:List Deferred} {M:List Nat}
theorem BA.mono (hx:Ext w G w2 G2)(hk:∀ k b,G.φ[k]?=some b->k∉M->w2.heap[b]?=w.heap[b]?){w1:World}(h:BA M w2 G2.U G2.φ w1):BA M w G.U G.φ w1 :=
 ⟨fun b i hu=>(hx.cells b i hu).2.trans (h.1 b i (hx.cells b i hu).1),fun k b hb hm=>(h.2 k b (hx.phiGet k b hb) hm).trans (hk k b hb hm)⟩
theorem Um {i:Nat}(ho:ops[i]?=some o):cl (Co ops) i=EP o:=by
 grind [Array.getElem?_eq_some_iff,cl,Co,List.range,R0,List.getD]
theorem Ed (hgl:Cu ws Gs)(hdst:∀ o∈ops.toList,∀ d,o.dst=some d->d<n):∀ (l:List Nat) (st:St) (a:Act) (w:World) (G:Gh),DW ops l=true->Inv ws Gs st (AG a) w G->a.defers=ds->a.tmps.size=n ->
 BH P ops M K l st->Hm P ops (C3 ds ws Gs n K) (Co ops) (BA M w G.U G.φ) l a w
 | [],st,a,w,G,_,h,hdef,hsz,he=>⟨hsz,hdef,st,G,he,h⟩
 |i::rest,st,a,w,G,hchk,h,hdef,hsz,he=>by
  unfold BH at he
  unfold DW at hchk
  unfold Hm
  cases ho:ops[i]? with
  |none=>rw [ho] at he;exact he.elim
  |some o =>
  rw [ho] at he hchk
  simp only [Æ,ú,å] at he hchk ⊢
  obtain⟨hst,hrest⟩:=hchk
  have hmem:o∈ops.toList:=by
   have:=Array.mem_of_getElem? ho
   simpa using this
  have H:∀ d,o.dst=some d->d<a.tmps.size:=fun d m=>by rw [hsz];exact hdst o hmem d m
  have hcl:=Um ho
  rw [hcl]
  split at he
  . exact he.elim
  . rename_i hg
    have N:=Dd h.env hg
    have hS:=h.skipPut H
    have ih:=Ed hgl hdst rest _ _ w G hrest hS (by rw [put_defers];exact hdef) (by rw [Bw];exact hsz) he
    rcases IM o with h0|h0|h0
    . rw [Ç h0];exact⟨Go.undef,.inr ⟨N,rfl⟩,ih⟩
    . rw [Ä (by omega),Ç h0];exact⟨Go.undef,.inl (.inr ⟨N,rfl⟩),ih⟩
    . grind [BA.refl,wpOp]
  . rename_i hg
    have N:=Dd h.env hg
    split at he
    . rename_i c st2 A
      obtain⟨rfl,⟨I,p⟩,he2⟩:=he
      unfold Hl at A
      by_cases u:EP o=2
      . rw [Ä (by omega),Ä (by omega)]
        rw [Ç u] at A
        unfold wpOp
        simp only [ho,N,ø]
        left
        obtain⟨nx,v,w2,G2,h1,h2,h3,h4⟩:=J1 h.at_ H A
        unfold Oper.wp
        rw [h1]
        have O:∃ S':World->Prop,S' w2/\(DM ops (Co ops) i=true->∀ w1,S' w1->BA M w G.U G.φ w1)/\Hm P ops (C3 ds ws Gs n K) (Co ops) S' rest (a.put o.dst v) w2:=by
         refine⟨_,BA.refl M w2 G2.U G2.φ,fun J w1 W=>BA.mono h3.ext (fun k b hb X=>?_) W,Ed hgl hdst rest _ _ w2 G2 hrest (h3.since h.ext) (by rw [put_defers];exact hdef) (by rw [Bw];exact hsz) he2⟩
         rcases hst with hst|hst|hst
         . rw [hst] at J;cases J
         . exact h4 hst b (Ò hb)
         . unfold Adf at hst
           split at hst
           . rename_i T x y R
             unfold Q7 at p
             rw [R] at p
             simp only [J,ø] at p
             split at p
             . rename_i k2 o2 hx
               have hkm:k2∈M:=Gz.1 p
               obtain⟨kb,hkb⟩:∃ kb,G.φ[k2]?=some kb:=by
                have B:=Bz (a:=a) h.env x
                rw [hx] at B
                revert B;generalize a.eval x=z;intro B
                cases B with
                |ptr _ _ _ kb hk=>exact⟨kb,hk⟩
               refine NQ h.at_ R A h1 hx hkb ?_
               rintro rfl
               exact X (by
                have:=(List.getElem?_inj (List.getElem?_eq_some_iff.1 hb).1 h.store.nodup).1 (hb.trans hkb.symm)
                rw [this];exact hkm)
             . cases p
           . cases hst
        rcases h2 with rfl|⟨rfl,rfl⟩
        . exact O
        . exact O
      . rw [Ä u] at A
        split at A
        . rename_i d m
          obtain⟨v,G2,h1,D,h2⟩:=Ij h (H d m) m A
          have ih:=Ed hgl hdst rest _ _ w G2 hrest h2 (by rw [put_defers];exact hdef) (by rw [Bw];exact hsz) he2
          rw [D.1,D.2] at ih
          rcases IM o with h0|h0|h0
          . rw [Ç h0]
            exact⟨v,.inl ⟨N,fun w2 _=>.inl (h1 w2 (fun e=>by omega))⟩,ih⟩
          . rw [Ä (by omega),Ç h0]
            by_cases hpc:UM ops (Co ops) i=true
            . exact⟨v,.inr ⟨hpc,.inl ⟨N,fun w2 e=>.inl (h1 w2 (fun _=>by subst e;exact⟨fun _ _ _=>Kp.refl,fun b _ k _=>rfl⟩))⟩⟩,ih⟩
            refine⟨v,.inl (.inl ⟨N,fun w2 hr=>.inl (h1 w2 (fun _=>⟨hr.1,fun b hb k hk=>hr.2 b k hk ?_⟩))⟩),ih⟩
            unfold LR at hb
            split at hb
            . rename_i x hx
              unfold Q7 at p
              rw [hx] at p
              simp only [Bool.eq_false_iff.2 hpc,Bool.or_false] at p
              have I:=p
              unfold Yl at I
              rw [hx] at I
              simp only at I
              unfold rdB at hb
              split at hb
              . grind [Option.some.injEq,Gz]
              . cases hb
            . cases hb
          . exact absurd h0 u
        . cases A
    . split at he
      . rename_i f args E
        have h0:=Mc E
        rw [Ä (by omega),Ä (by omega)]
        unfold wpOp
        simp only [ho,N,ø]
        left
        obtain⟨vs,g1,g2,g3⟩:=J5 h.env E
        have fin:∀ (stA:St) (r:PV) (v:Value) (w2:World) (G2:Gh),(∀ tup d,Inv w G stA (AG a) w2 (G.outer G2 tup d))->V w2 G2.U G2.φ r v->Gm w2 G2 r v ->
         (DM ops (Co ops) i=true->∀ k b,G.φ[k]?=some b->k∉M->w2.heap[b]?=w.heap[b]?)->BH P ops M K rest (stA.put o.dst r) ->
         ∃ S':World->Prop,S' w2/\(DM ops (Co ops) i=true->∀ w1,S' w1->BA M w G.U G.φ w1)/\Hm P ops (C3 ds ws Gs n K) (Co ops) S' rest (a.put o.dst v) w2:=by
         intro stA r v w2 G2 hA B Y hk C
         have key:∀ G3,Inv w G (stA.put o.dst r) (AG (a.put o.dst v)) w2 G3->∃ S':World->Prop,S' w2/\(DM ops (Co ops) i=true->∀ w1,S' w1->BA M w G.U G.φ w1)/\Hm P ops (C3 ds ws Gs n K) (Co ops) S' rest (a.put o.dst v) w2:=fun G3 hI =>
          ⟨_,BA.refl M w2 G3.U G3.φ,fun J w1 W=>BA.mono hI.ext (hk J) W,Ed hgl hdst rest _ _ w2 G3 hrest (hI.since h.ext) (by rw [put_defers];exact hdef) (by rw [Bw];exact hsz) C⟩
         cases m:o.dst with
         |none =>
          have hI:=hA false 0
          have:=key _ (by rw [m];exact hI)
          rw [m] at this;exact this
         |some d =>
          have hI:=(hA (P5 r) d).putRet B Y
          have:=key _ (by rw [m,Bm (H d m)];exact hI)
          rw [m] at this;exact this
        have pan:∀ (c:List PanicEntry) (σ2:List (List PV)) (w2:World) (G2:Gh),Ay w2 G2 σ2->Ext w G.inner w2 G2->K (.pan c) { st with σ:=σ2 }->C3 ds ws Gs n K (.panic c) a w2:=by
         intro c σ2 w2 G2 s t C
         have hI:=h.call (tup:=false) s t 0
         exact⟨hdef,_,_,C,hI.ext,hI.store⟩
        unfold Oper.wp
        rw [g3 w]
        by_cases J:DM ops (Co ops) i=true
        . rw [Ç J] at he
          split at he
          . rename_i k more
            obtain⟨X,hfit,Z,hkl,hvc⟩:=he
            have hgk:st.σ[k]?=some (st.σ.getD k []):=by simp [List.getD,hkl]
            refine (SB hgk hfit Z hvc h.store.inner (hgl.ext h.ext).inner g1 g2).mono fun e w2 j=>?_
            obtain⟨x,cs',G2,hpe,C,g,s,t,F⟩:=j
            cases x with
            |ret r =>
             obtain⟨v,rfl,B,Y⟩:=g
             exact fin _ r v w2 G2 (fun tup d=>h.at_.callK s t d (fun q=>q != k) (fun k2 b2 hk2 L=>by
              have hne:k2≠k:=by simpa using hk2
              exact⟨by rw [List.getElem?_set_ne (Ę hne)],F k2 b2 L hne⟩)) B Y (fun _ k2 b2 hb hm=>F k2 b2 hb (by rintro rfl;exact hm (Gz.1 X))) C
            |pan c =>
             obtain rfl:e=.panicked c:=g
             exact pan c _ w2 G2 s t C
          . obtain⟨Z,hvc⟩:=he
            refine (N8 hvc Z h.store.inner (hgl.ext h.ext).inner g1 g2).mono fun e w2 j=>?_
            obtain⟨x,σ',G2,C,g,s,t,S⟩:=j
            cases x with
            |ret r =>
             obtain⟨v,rfl,B,Y⟩:=g
             exact fin _ _ v w2 G2 (fun tup d=>h.at_.callK s t d (fun _=>true) (fun k2 b2 _ L=>by
              have hl2:k2<st.σ.length:=by rw [<- h.store.len];exact (List.getElem?_eq_some_iff.1 L).1
              exact⟨Õ hl2,S b2 (h.store.lt (Ò L))⟩)) B Y (fun _ k2 b2 hb _=>S b2 (h.store.lt (Ò hb))) C
            |pan c =>
             obtain rfl:e=.panicked c:=g
             exact pan c _ w2 G2 s t C
        . rw [Ä J] at he
          refine (he w G.inner vs h.store.inner g1 g2 (Fl G) (hgl.ext h.ext).inner).mono fun e w2 j=>?_
          obtain⟨x,σ',G2,C,g,s,t⟩:=j
          cases x with
          |ret r =>
           obtain⟨v,rfl,B,Y⟩:=g
           exact fin _ r v w2 G2 (fun tup d=>h.at_.call s t d) B Y (fun hn2=>absurd hn2 J) C
          |pan c =>
           obtain rfl:e=.panicked c:=g
           exact pan c _ w2 G2 s t C
      . exact he.elim
theorem Sa {id:Nat}{t:List Nat}(hgl:Cu w0 G0)(hm:P.follows .mixedOrders=true)(hdst:∀ o∈ops.toList,∀ d,o.dst=some d->d<n)(hok:Sb ops t=true)(h:Inv w0 G0 st (AG a) w G)(hdef:a.defers=ds)(hsz:a.tmps.size=n)(he:BH P ops M K t st) :
 RW P (Code.region id ops true) (C3 ds w0 G0 n K) a w:=by
 unfold Sb at hok
 simp only [Æ,ý] at hok
 obtain⟨f,g,i,j⟩:=hok
 have k:=Ed (P:=P) (K:=K) (M:=M) (ws:=w.drew) (Gs:=G) ((hgl.ext h.ext).ext h.ext.drew0) hdst t st a w.drew G j h.drew.at_ hdef hsz he
 have b:RW P (Code.region id ops.toList.toArray true) (C3 ds w.drew G n K) a w:=by
  refine Oo (Co ops) t (BA M w.drew G.U G.φ) hm (by simpa using f) (by simpa using g) (by simpa using i) ?_ (BA.refl _ _ _ _) (by simpa using k)
  rintro c d v a' w' ⟨f,g⟩
  exact⟨by rw [put_defers] at f;exact f,g⟩
 rw [ë] at b
 exact b.mono fun e a' w' l=>l.since h.ext.drew
end
end Go.Vl
namespace Go.Vl
open Go Go.RowKit
section
variable {w w' w0:World} {G G' G0:Gh} {P:Program} {p q:PV} {v u:Value} {st st' st1:St} {a:Act} {o:Oper} {d:Nat} {U:Nat->Nat->Prop} {φ:List Nat}
structure Abn (w w1:World) (G:Gh) (st1:St) (xs:List (List PV)) (sz b cap:Nat) (T:TypeId) (arr:Array Value):Prop where
 hb:b∉G.φ
 free:w.heap.size<=b∨G.Ω b≠none
 no:∀ l,G.Ω b=some l->∀ ys,AP st1 l≠.sl ys .own
 nop:∀ l,G.Ω b=some l->∀ ys,AP st1 l≠.prv ys
 os:w1.os=w.os
 tape:w1.tape=w.tape
 output:w1.output=w.output
 size:w.heap.size<=w1.heap.size
 old:∀ k,k<w.heap.size->k≠b->w1.heap[k]?=w.heap[k]?
 keepU:∀ i,G.U b i->Kp w w1 b i/\i<xs.length*sz
 blk:w1.heap[b]?=some (.cells arr T (0,0))
 asz:arr.size=cap*sz
 room:xs.length+1<=cap
 max:cap<=9223372036854775807
 pos:0<sz
 row:∀ x∈xs,x.length=sz
 v:∀ i (hi:i<xs.length) j (hj:j<(xs[i]).length),V w G.U [] xs[i][j] (arr.getD (i*sz+j) Go.undef)/\(arr.getD (i*sz+j) Go.undef).oneCell'=true
theorem VA {x y:Operand}{t t':TypeId}{sz bytes:Nat}{xs:List (List PV)}{full:Bool}{zr:List PV}(h:Inv w0 G0 st (fun t=>a.tmps.getD t Go.undef) w G)
 (hop:∃ callee args ats,o.op=.call ⟨callee,args,ats⟩/\callee=.builtin .append/\args = #[x,y]/\ats = #[t,t']) (hap:Zk P t=some (sz,bytes)) (hbase:Fy st x=some (xs,full,st1)) (hsrc:GY P t' sz st y=some [zr])
 (hbound:(xs.length+1)*max bytes 1<=140737488355328) (hxall:xs.all (fun x=>x.length == sz)=true) (hz:zr.length=sz) :
 ∃ b cap w1 arr T,(execOp a.eval o).run P w=.ok (.value (.slice (some ⟨b,0,none⟩) (xs.length+1) cap)) w1/\Inv w0 G0 st1 (fun t=>a.tmps.getD t Go.undef) w G/\Abn w w1 G st1 xs sz b cap T arr:=by
 obtain⟨callee,args,ats,hop,rfl,rfl,rfl⟩:=hop
 have F:([zr]:List (List PV)).all (fun x=>x.length == sz)=true:=by simp [hz]
 have R:∀ {v w'},(Builtin.append_ #[t,t'] o.type #[a.eval x,a.eval y]).run P w=.ok v w'->(execOp a.eval o).run P w=.ok (.value v) w':=by
  intro v w' H
  unfold execOp
  rw [hop]
  simp [resolve,invoke,builtin,H]
 obtain⟨e,i,z,hu,hi,hzz,rfl,rfl,hzs,f,_⟩:=KK hap
 obtain⟨vs,S,V⟩:=I0 h.env hsrc f F
 obtain⟨m,I⟩:=KE h hbase
 have hmul:(xs.length+1)*i.bytes<=140737488355328/\(xs.length+1)<=140737488355328:=UY hbound
 have D:∀ x∈xs,x.length=i.size:=by
  rw [Ú] at hxall
  intro x hx;simpa using hxall x hx
 have hnφ:w.heap.size∉G.φ:=by
  intro hm
  have:=h.store.lt hm
  omega
 -- a new block
 have grow:∀ (base:Option Addr) (cap:Nat) (us:List Value),a.eval x=.slice base xs.length cap->Flat w G.U xs i.size us->(Builtin.firstCells i.size xs.length (.slice base xs.length cap)).run P w.drew=.ok us.toArray w.drew->cap<xs.length+1 ->
  ∃ b cap w1 arr T,(execOp a.eval o).run P w=.ok (.value (.slice (some ⟨b,0,none⟩) (xs.length+1) cap)) w1/\Inv w0 G0 st1 (fun t=>a.tmps.getD t Go.undef) w G/\Abn w w1 G st1 xs i.size b cap T arr:=by
  intro base cap us hbx c W J
  have H:=run_append_grow_src (P:=P) w t t' o.type e i z hu hi hzz base xs.length cap us W (a.eval y) 1 vs V J (by omega) (growslice_fits J (by omega))
  rw [<- hbx] at H
  have B:=grownCap_ge w (xs.length+1) cap e
  have X:=c.len
  have C:=S.len
  simp only [æ,ì,ò,ĝ] at C
  refine⟨_,_,_,_,_,R H,m,hnφ,.inl (Ü _),fun l hl=>?_,fun l hl=>?_,rfl,rfl,rfl,?_,fun k hk _=>?_,fun q n=>?_,heap_alloc_new w.drew _,?_,B,?_,f,D,fun q n j p=>?_⟩
  . have:=(h.store.ob w.heap.size (by rw [hl];simp)).1;omega
  . have:=(h.store.ob w.heap.size (by rw [hl];simp)).1;omega
  . show w.heap.size<=(w.heap.push _).size
    simp
  . rw [ê _ _ _ (show k<w.drew.heap.size from hk)];rfl
  . have:=h.store.ub _ _ n;omega
  . simp only [Array.size_append,List.size_toArray,Ô,X,C,size_zeroCells,hzs]
    have:xs.length*i.size+i.size=(xs.length+1)*i.size:=by rw [ó,ĝ]
    rw [this,<- ó];congr 1;omega
  . have:=grownCap_le_maxLen w (xs.length+1) cap e (by unfold maxLen;omega)
    unfold maxLen at this;exact this
  . have K:j<i.size:=by rw [<- c.row _ (Ù n)];exact p
    have d:=Iz n K
    rw [<- c.len] at d
    have e1:((us++vs).toArray++Builtin.zeroCells z.cells (grownCap w (xs.length+1) cap e-(xs.length+1))).getD (q*i.size+j) Go.undef=us.getD (q*i.size+j) Go.undef:=by
     rw [É,ô (by simp;omega),List.getElem?_toArray,Õ d]
     rfl
    rw [e1]
    refine⟨c.v q n j p,?_⟩
    have:us.getD (q*i.size+j) Go.undef=us[q*i.size+j]:=by simp [List.getD,d]
    rw [this];exact c.one _ (Ù d)
 rcases I with⟨rfl,L⟩|⟨rfl,L,Y⟩
 . obtain⟨us,c,M⟩:=ME L f hxall
   rcases M with⟨⟨A,N⟩,Z⟩|⟨b,off,cap,N,Z,h3,O,E⟩
   . subst Z
     have:us=[]:=ã (by rw [c.len];simp)
     subst this
     exact grow A 0 [] N c (Rt _ _ _) (by simp)
   . have hcap:=O rfl
     exact grow (some ⟨b,off,none⟩) cap us N c (ħ _ _ _ _ _ _ us c.len (fun j u p=>by rw [addr_add];exact (E j u p).1)) (by omega)
 . obtain⟨us,c,M⟩:=ME L f hxall
   rcases Y with⟨rfl,r⟩|⟨l,ho,hno,hnp⟩
   . have:us=[]:=ã (by rw [c.len];simp)
     subst this
     exact grow none 0 [] r c (Ħ _ _ _ _ _) (by simp)
   . rcases ho with⟨rfl,r⟩|⟨b,cap,sz',T,arr,N,Z,h3,O,E,h6,h7⟩
     . have:us=[]:=ã (by rw [c.len];simp)
       subst this
       exact grow none 0 [] r c (Ħ _ _ _ _ _) (by simp)
     . have hsz:sz'=i.size:=by
        have h0:0<xs.length:=List.length_pos_iff.2 Z
        rw [<- h3 _ (Ù h0)];exact c.row _ (Ù h0)
       subst hsz
       rcases M with⟨h8,h9⟩|⟨b2,off,cap2,h8,h9,h10,_,h12⟩
       . exact absurd h9 Z
       . rw [h8] at N
         simp only [Value.slice.injEq,Â,Addr.mk.injEq,and_true,õ] at N
         obtain⟨⟨rfl,rfl⟩,rfl⟩:=N
         by_cases g:xs.length+1<=cap2
         . obtain⟨arr',k1,k2,k3,k4,k5,k6,k7,k8⟩:=CC b2 T vs (0+xs.length*i.size) w arr E
           have C:=S.len
           simp only [æ,ì,ò,ĝ] at C
           have hfit:xs.length*i.size+i.size<=arr.size:=by
            have:=î i.size g
            rw [ó,ĝ] at this
            rw [h6];exact this
           have H:=run_append_room_src (P:=P) w t t' o.type e i hu hi b2 0 xs.length cap2 (a.eval y) 1 vs V g (fun j p=>by
            have:xs.length*i.size+j<arr.size:=by omega
            simp [World.cell?,E,this]) (fun j p=>by simp only [World.frozen?,E];simp)
           rw [<- h8] at H
           have X:=c.len
           have hbφ:=(m.store.ob b2 (by rw [O];simp)).2
           refine⟨_,_,_,arr',T,R H,m,hbφ,.inr (by rw [O];simp),fun l' s ys'=>?_,fun l' s ys'=>?_,k6,k7,k8,by rw [k5];exact Ü _,fun k _ hk=>k4 k hk,fun q n=>?_,k1,by rw [k2,h6],g,h10,f,D,fun q n j p=>?_⟩
           . rw [O] at s
             obtain rfl:=Af s
             exact hno ys'
           . rw [O] at s
             obtain rfl:=Af s
             exact hnp ys'
           . have h13:=h7 q n
             refine⟨Kp.ofCells ?_ E,h13⟩
             simp only [World.cell?,k1,E]
             simp only [Option.isSome_none,â,û]
             rw [k3 q,Ä (by omega)]
           . have K:j<i.size:=by rw [<- c.row _ (Ù n)];exact p
             have J:=Iz n K
             have e:arr'.getD (q*i.size+j) Go.undef=us.getD (q*i.size+j) Go.undef:=by
              rw [É,k3 (q*i.size+j),List.getD,Ä (by omega)]
              have h14:=h12 (q*i.size+j) _ (Ã (show q*i.size+j<us.length by omega))
              have h15:=h14.1
              simp only [World.cell?,E,ò] at h15
              rw [Ã (show q*i.size+j<us.length by omega)]
              simpa using congrArg (fun o=>Option.getD o Go.undef) h15
             rw [e]
             refine⟨c.v q n j p,?_⟩
             have d:q*i.size+j<us.length:=by omega
             have:us.getD (q*i.size+j) Go.undef=us[q*i.size+j]:=by simp only [List.getD];rw [Ã d];rfl
             rw [this];exact c.one _ (Ù d)
         . exact grow _ cap2 us h8 c (ħ _ _ _ _ _ _ us c.len (fun j u p=>by rw [addr_add];exact (h12 j u p).1)) (by omega)
theorem Abn.row_inv {w1:World}{xs:List (List PV)}{sz b cap:Nat}{T:TypeId}{arr:Array Value}{r:List PV}{rvs:List Value}{tm:Nat->Value}(h:Inv w0 G0 st1 tm w G)(k:Abn w w1 G st1 xs sz b cap T arr)
 (hr:r.length=sz) (hl:rvs.length=sz) (hv:∀ i (hi:i<r.length),V w G.U [] r[i] (rvs.getD i Go.undef)/\(rvs.getD i Go.undef).oneCell'=true) :
 ∃ G',G'.φ=G.φ/\Inv w0 G0 (st1.put (some d) (.sl (xs++[r]) .own)) (FN tm d (.slice (some ⟨b,0,none⟩) (xs.length+1) cap)) (w1.setCells b (xs.length*sz) rvs) G':=by
 obtain⟨arr',k1,k2,k3,k4,k5,k6,k7,k8⟩:=CC b T rvs (xs.length*sz) w1 arr k.blk
 have a:(xs++[r]).length=xs.length+1:=by simp
 have n:xs.length*sz+sz<=arr.size:=by
  have:=î sz k.room
  rw [ó,ĝ] at this
  rw [k.asz];exact this
 have hO:=h.own (d:=d) (b:=b) (sz:=sz) (cap:=cap) (xs:=xs++[r]) (arr:=arr') (T:=T) (w':=w1.setCells b (xs.length*sz) rvs) k.hb k.free k.no k.nop (k6.trans k.os) (k7.trans k.tape) (k8.trans k.output)
  (by rw [k5];exact k.size) (fun q c e=>(k4 q e).trans (k.old q c e)) (fun q c=>by
   obtain⟨e1,e2⟩:=k.keepU q c
   refine⟨e1.trans (Kp.ofCells ?_ k.blk),by rw [a,ó];omega⟩
   simp only [World.cell?,k1,k.blk]
   simp only [Option.isSome_none,â,û]
   rw [k3 q,Ä (by omega)]) k1 (by rw [k2,k.asz]) (by simp) (fun x hx=>by
   rcases List.mem_append.1 hx with hx|hx
   . exact k.row x hx
   . rw [List.mem_singleton.1 hx];exact hr) (by rw [a];exact k.room) k.max (fun q c j f=>by
   rw [a] at c
   by_cases g:q<xs.length
   . have e1:(xs++[r])[q]'(by rw [a];exact c)=xs[q]:=Ć g
     simp only [e1] at f ⊢
     have l:j<sz:=by rw [<- k.row _ (Ù g)];exact f
     have o:=Iz g l
     have e2:arr'.getD (q*sz+j) Go.undef=arr.getD (q*sz+j) Go.undef:=by
      rw [É,k3,Ä (by omega),<- É]
     rw [e2];exact k.v q g j f
   . have m:q=xs.length:=by omega
     subst m
     have e1:(xs++[r])[xs.length]'(by rw [a];exact c)=r:=by simp
     simp only [e1] at f ⊢
     have e2:arr'.getD (xs.length*sz+j) Go.undef=rvs.getD j Go.undef:=by
      rw [É,k3,Ç (by omega),List.getD]
      congr 2;omega
     rw [e2];exact hv j f)
 rw [a] at hO
 refine⟨_,?_,hO⟩
 rfl
theorem RN (w:World){b g:Nat}(hne:b≠g)(o p:Nat)(u v:Value):(w.setCell ⟨b,o,none⟩ u).setCell ⟨g,p,none⟩ v=(w.setCell ⟨g,p,none⟩ v).setCell ⟨b,o,none⟩ u:=by
 unfold World.setCell
 congr 1
 all_goals grind [World.setCell]
theorem Ko {b g:Nat}(hne:b≠g)(p:Nat)(v:Value):∀ (vs:List Value) (o:Nat) (w:World),(w.setCells b o vs).setCell ⟨g,p,none⟩ v=(w.setCell ⟨g,p,none⟩ v).setCells b o vs
 | [],_,_=>rfl
 |u::r,o,w=>by
  rw [World.setCells,World.setCells,Ko hne p v r,RN w hne]
theorem Lw {b g:Nat}(hne:b≠g)(o:Nat)(vs:List Value):∀ (us:List Value) (p:Nat) (w:World),(w.setCells b o vs).setCells g p us=(w.setCells g p us).setCells b o vs
 | [],_,_=>rfl
 |u::r,p,w=>by
  rw [World.setCells,World.setCells,Ko hne p u,Lw hne o vs r]
theorem NR {T T':TypeId}{b off:Nat}{arr:Array Value}{f:Nat×Nat}(hf:f=(0,0))(hn:Lv P T=some v.cells.size)(hb:w.heap[b]?=some (.cells arr T' f))(hl:off+v.cells.size<=arr.size)(h1:∀ u∈v.cells.toList,u.oneCell'=true) :
 (Instr.storeAt T (.pointer (some ⟨b,off,none⟩)) v).run P w=.ok () (w.setCells b off v.cells.toList):=by
 subst hf
 have a:=run_storeCells_cells (P:=P) b off v.cells.toList 0 w (fun j c=>by
  have:off+j<arr.size:=by simp at c;omega
  simp [World.cell?,hb,this]) (fun j c=>by simp only [World.frozen?,hb];simp) h1
 rw [Nat.add_zero] at a
 simp only [Instr.storeAt,Instr.sureAddr,storeVar,Ð,Ö,Ê,Ej hn,Ġ]
 rw [Ä (by simp)]
 simp only [a]
theorem Sm {t:TypeId}{n m b k cap len:Nat}{ik:IntKind}(hs:VX P t=some (n,m))(hk:k<len):(Instr.indexAt t (.slice (some ⟨b,0,none⟩) len cap) (.int ik k)).run P w=.ok (.pointer (some ⟨b,k*n,none⟩)) w:=by
 obtain⟨e,inf,c,d,f,g⟩:=FY hs
 have a:Lv P e=some n:=by simp [Lv,d,f]
 simp only [Instr.indexAt,asIntOf,Ð,Ö,Ê,Ý c,Ġ]
 rw [Ç ⟨by omega,by omega⟩]
 simp only [Ej a,Ê,addr_add,ò,Int.toNat_natCast]
theorem Acf {sz:Nat}(h:V w U φ p v)(hok:Ig sz p=true):v.cells.size=sz/\(rowOf p).length=sz/\(∀ i (hi:i<(rowOf p).length),V w U [] (rowOf p)[i] (v.cells.toList.getD i Go.undef)/\(v.cells.toList.getD i Go.undef).oneCell'=true):=by
 simp only [Ig,Æ,ú,ý] at hok
 obtain⟨b,h2,c⟩:=hok
 have d:Hk p=true∨∃ cs,p=.agg cs:=by
  rcases h2 with h2|h2
  . exact .inl h2
  . right
    cases p with
    |agg cs=>exact⟨cs,rfl⟩
    |_=>cases h2
 obtain⟨hs,f⟩:=h.cells d
 refine⟨hs.trans b,by simp [rowOf,b],fun i hi=>?_⟩
 have a:i<(Cm p).length:=by simpa [rowOf] using hi
 have e:(rowOf p)[i]=Bf (Cm p)[i]:=by simp [rowOf]
 have e2:v.cells.toList.getD i Go.undef=v.cells.getD i Go.undef:=by simp [List.getD,É]
 rw [e,e2]
 obtain⟨k1,k2⟩:=f i a
 exact⟨(Cp k1).pure (PJ (D5 c i a)),k2⟩
def Oz (x:Operand)(d:Nat):Bool:=match x with
 |.tmp t=>!(t == d)
 |_=>true
theorem ID {x:Operand}{d:Nat}(h:Oz x d=true):x≠.tmp d:=by
 rintro rfl
 simp [Oz] at h
def four (P:Program)(oi oj ok ol:Oper)(st:St):Option (Bool×St) :=
 match oi.op,oi.dst,oj.op,oj.dst,ok.op,ok.dst,ol.op,ol.dst with
 |.call c,some d1,.indexAddr T (.tmp e1) ix,some d2,.store T3 (.tmp e2) z,none,.store T4 xl (.tmp e3),none =>
  match c.callee,c.args.toList,c.argTypes.toList with
  |.builtin .append,[x,y],[t,t'] =>
   match Zk P t,Fy st x with
   |some (sz,bytes),some (xs,_,st1) =>
    match GY P t' sz st y,Ck st ix,VX P T with
    |some [zr],.lit (.int _ n),some (sz2,_) =>
     match GM P T4 ((st1.put (some d1) (.sl (xs++[rowOf (Ck st z)]) .own)).put (some d2) .undef) xl (.tmp d1) with
     |some (c,st3)=>some (c&&(decide (e1=d1/\e2=d2/\e3=d1/\d1≠d2/\sz2=sz/\Lv P T3=some sz/\zr.length=sz)&&((Oz ix d1&&(Oz z d1&&(Oz z d2&&(Oz xl d1&&Oz xl d2)))) &&
      (Ig sz (Ck st z)&&(decide (n=(xs.length:Int))&&(decide ((xs.length+1)*max bytes 1<=140737488355328)&&xs.all (fun x=>x.length == sz)))))),st3)
     |none=>none
    |_,_,_=>none
   |_,_=>none
  |_,_,_=>none
 |_,_,_,_,_,_,_,_=>none
theorem eval_put {a:Act}{d:Nat}{v:Value}{x:Operand}(h:x≠.tmp d):(a.put (some d) v).eval x=a.eval x:=by
 cases x with
 |tmp t =>
  have b:d≠t:=fun e=>h (by rw [e])
  show (a.tmps.setIfInBounds d v).getD t Go.undef=a.tmps.getD t Go.undef
  rw [É,ğ b,<- É]
 |_=>rfl
theorem GL {a:Act}{d:Nat}{v:Value}(h:d<a.tmps.size):(a.put (some d) v).eval (.tmp d)=v:=by
 show (a.tmps.setIfInBounds d v).getD d Go.undef=v
 simp [h]
theorem My {a:Act}{d:Option Tmp}{v:Value}:(a.put d v).tmps.size=a.tmps.size:=by
 cases d with
 |none=>rfl
 |some d=>show (a.tmps.setIfInBounds d v).size=_;simp
theorem YG {oi oj ok ol:Oper}{d1 d2:Nat}(h:Inv w0 G0 st (AG a) w G)(h1:oi.dst=some d1)(h2:oj.dst=some d2)(hd1:d1<a.tmps.size)(hd2:d2<a.tmps.size)(he:four P oi oj ok ol st=some (true,st')) :
 ∃ v p w1 wk wl w3 G',(execOp a.eval oi).run P w=.ok (.value v) w1 /\
  (∀ w',(execOp (a.put (some d1) v).eval oj).run P w'=.ok (.value p) w') /\
  (execOp (a.put (some d1) v).eval ol).run P w1=.ok .skip wl /\
  (execOp ((a.put (some d1) v).put (some d2) p).eval ol).run P w1=.ok .skip wl /\
  (execOp ((a.put (some d1) v).put (some d2) p).eval ok).run P w1=.ok .skip wk /\
  (execOp ((a.put (some d1) v).put (some d2) p).eval ok).run P wl=.ok .skip w3 /\
  (execOp ((a.put (some d1) v).put (some d2) p).eval ol).run P wk=.ok .skip w3 /\
  ok.dst=none/\ol.dst=none /\
  Inv w0 G0 st' (AG ((a.put (some d1) v).put (some d2) p)) w3 G':=by
 unfold four at he
 split at he
 . rename_i c d1' T e1 ix d2' T3 e2 z T4 xl e3 O hdi R hdj hopk hdk hopl hdl
   obtain rfl:d1'=d1:=Af (hdi.symm.trans h1)
   obtain rfl:d2'=d2:=Af (hdj.symm.trans h2)
   split at he
   . rename_i x y t t' S hx ht
     split at he
     . rename_i sz bytes xs full st1 hap F
       split at he
       . rename_i zr ik n sz2 m U hix hsl
         split at he
         . rename_i c2 st3 f
           simp only [Â,È,Æ,Í] at he
           obtain⟨⟨rfl,⟨rfl,rfl,rfl,V,rfl,hT3,hzl⟩,⟨H,I,J,B,K⟩,W,rfl,hbound,X⟩,rfl⟩:=he
           have H:=ID H
           have I:=ID I
           have J:=ID J
           have B:=ID B
           have K:=ID K
           obtain⟨callee,args,ats⟩:=c
           have ea:args = #[x,y]:=by rw [<- ë (xs:=args)];exact congrArg _ hx
           have et:ats = #[t,t']:=by rw [<- ë (xs:=ats)];exact congrArg _ ht
           obtain⟨b,cap,w1,arr,TB,Y,Z,hA⟩:=VA (o:=oi) h ⟨callee,args,ats,O,S,ea,et⟩ hap F U hbound X hzl
           have hzV:=Bz (a:=a) h.env z
           obtain⟨r1,r2,r3⟩:=Acf hzV W
           obtain⟨G2,hφ2,hI2⟩:=hA.row_inv (d:=e3) (rvs:=(a.eval z).cells.toList) Z r2 (by simpa using r1) r3
           have hn:VX P T=some (sz2,m):=hsl
           refine⟨.slice (some ⟨b,0,none⟩) (xs.length+1) cap,.pointer (some ⟨b,xs.length*sz2,none⟩),w1,w1.setCells b (xs.length*sz2) (a.eval z).cells.toList,?_⟩
           have hv1:AG (a.put (some e3) (.slice (some ⟨b,0,none⟩) (xs.length+1) cap))=FN (AG a) e3 (.slice (some ⟨b,0,none⟩) (xs.length+1) cap):=Bm hd1 _
           generalize g:Value.slice (some ⟨b,0,none⟩) (xs.length+1) cap=v at *
           have hI3:=hI2.putPlain e2 (v:=.pointer (some ⟨b,xs.length*sz2,none⟩)) (.undef _ _) rfl
           have hv2:AG ((a.put (some e3) v).put (some e2) (.pointer (some ⟨b,xs.length*sz2,none⟩)))=FN (FN (AG a) e3 v) e2 (.pointer (some ⟨b,xs.length*sz2,none⟩)):=by
            rw [Bm (by rw [My];exact hd2),hv1]
           have L:((a.put (some e3) v).put (some e2) (.pointer (some ⟨b,xs.length*sz2,none⟩))).eval (.tmp e3)=v:=by
            rw [eval_put (by intro e;cases e;exact V rfl),GL hd1]
           have l:((a.put (some e3) v).put (some e2) (.pointer (some ⟨b,xs.length*sz2,none⟩))).eval xl=a.eval xl:=by
            rw [eval_put K,eval_put B]
           have D:((a.put (some e3) v).put (some e2) (.pointer (some ⟨b,xs.length*sz2,none⟩))).eval z=a.eval z:=by
            rw [eval_put J,eval_put I]
           have E:((a.put (some e3) v).put (some e2) (.pointer (some ⟨b,xs.length*sz2,none⟩))).eval (.tmp e2)=.pointer (some ⟨b,xs.length*sz2,none⟩):=GL (by rw [My];exact hd2)
           have M:Inv w0 G0 ((st1.put (some e3) (.sl (xs++[rowOf (Ck st z)]) .own)).put (some e2) .undef) (AG ((a.put (some e3) v).put (some e2) (.pointer (some ⟨b,xs.length*sz2,none⟩)))) (w1.setCells b (xs.length*sz2) (a.eval z).cells.toList) G2:=by
            rw [hv2];exact hI3
           obtain⟨w3,G3,s,hI5,_⟩:=K8 (a:=(a.put (some e3) v).put (some e2) (.pointer (some ⟨b,xs.length*sz2,none⟩))) M f
           rw [L,l] at s
           obtain⟨k0,off,b0,arr0,T0,hxl,hb0,i,hoff,hsz4⟩:∃ (k0 off b0:Nat) (arr0:Array Value) (T0:TypeId),a.eval xl=.pointer (some ⟨b0,off,none⟩)/\G2.φ[k0]?=some b0/\(w1.setCells b (xs.length*sz2) (a.eval z).cells.toList).heap[b0]?=some (.cells arr0 T0 (0,0))/\off+1<=arr0.size/\Lv P T4=some 1:=by
            have hg:((st1.put (some e3) (.sl (xs++[rowOf (Ck st z)]) .own)).put (some e2) .undef).get e3=.sl (xs++[rowOf (Ck st z)]) .own:=by
             have hg0:(st1.put (some e3) (.sl (xs++[rowOf (Ck st z)]) .own)).get e3=.sl (xs++[rowOf (Ck st z)]) .own:=by rw [B7,Ç rfl]
             rw [B7,Ä (Ę V),hg0]
             split<;>rfl
            have hot:Kz ((st1.put (some e3) (.sl (xs++[rowOf (Ck st z)]) .own)).put (some e2) .undef) (.tmp e3)=some (e3,xs++[rowOf (Ck st z)]):=by
             unfold Kz;simp only [hg]
            have C:=Bz (a:=(a.put (some e3) v).put (some e2) (.pointer (some ⟨b,xs.length*sz2,none⟩))) M.env xl
            rw [l] at C
            unfold GM at f
            split at f
            . rename_i k0 off n hxp hn4
              rw [hxp] at C
              split at f
              . rename_i cs N
                obtain⟨N,hnm⟩:=Hb N
                rw [hot] at f
                simp only [Â,È,Í] at f
                obtain⟨⟨rfl,ho⟩,_⟩:=f
                generalize a.eval xl=xv at C
                cases C with
                |ptr _ _ _ b0 hk =>
                 obtain⟨⟨o',arr0,hb,⟨hlay,hsz⟩,hcell⟩,hnoU⟩:=M.store.blk k0 b0 cs hk N
                 obtain⟨T0,rfl⟩:=hlay.cells hnm
                 exact⟨k0,off,b0,arr0,T0,rfl,hk,hb,by omega,hn4⟩
              . cases f
            . cases f
           have hvc:v.cells = #[v]:=by rw [<- g];rfl
           have hv1c:v.oneCell'=true:=by rw [<- g];rfl
           have A:b≠b0:=by
            rintro rfl
            exact hA.hb (by rw [<- hφ2];exact Ò hb0)
           obtain⟨arr',k1,k2,k3,k4,_⟩:=CC b TB (a.eval z).cells.toList (xs.length*sz2) w1 arr hA.blk
           have j:w1.heap[b0]?=some (.cells arr0 T0 (0,0)):=by rw [<- k4 b0 A.symm];exact i
           have sl:∀ w',w'.heap[b0]?=some (.cells arr0 T0 (0,0))->(Instr.storeAt T4 (a.eval xl) v).run P w'=.ok () (w'.setCells b0 off [v]):=by
            grind [NR]
           have hfit:xs.length*sz2+(a.eval z).cells.size<=arr.size:=by
            rw [r1]
            have:=î sz2 hA.room
            rw [ó,ĝ] at this
            rw [hA.asz];exact this
           have hone:∀ u∈(a.eval z).cells.toList,u.oneCell'=true:=by
            grind [List.getElem_of_mem,List.getD]
           have sk:∀ w',w'.heap[b]?=some (.cells arr TB (0,0))->(Instr.storeAt T3 (.pointer (some ⟨b,xs.length*sz2,none⟩)) (a.eval z)).run P w'=.ok () (w'.setCells b (xs.length*sz2) (a.eval z).cells.toList):=fun w' hb' =>
            NR (P:=P) rfl (by rw [r1];exact hT3) hb' hfit hone
           have hw3:w3=(w1.setCells b (xs.length*sz2) (a.eval z).cells.toList).setCells b0 off [v]:=by
            have:=sl _ i
            rw [s] at this
            cases this;rfl
           have hwlb:(w1.setCells b0 off [v]).heap[b]?=some (.cells arr TB (0,0)):=by
            obtain⟨_,_,_,_,q4,_⟩:=CC b0 T0 [v] off w1 arr0 j
            rw [q4 b A];exact hA.blk
           have ex:∀ {a':Act} {w' w''},(Instr.storeAt T4 (a'.eval xl) (a'.eval (.tmp e3))).run P w'=.ok () w''->(execOp a'.eval ol).run P w'=.ok .skip w'':=by
            grind [Sem.run_bind,Result.andThen_ok,Sem.run_pure,execOp]
           have exk:∀ {a':Act} {w' w''},(Instr.storeAt T3 (a'.eval (.tmp e2)) (a'.eval z)).run P w'=.ok () w''->(execOp a'.eval ok).run P w'=.ok .skip w'':=by
            grind [Sem.run_bind,Result.andThen_ok,Sem.run_pure,execOp]
           refine⟨w1.setCells b0 off [v],w3,G3,Y,fun w'=>?_,ex ?_,ex ?_,exk ?_,exk ?_,ex ?_,hdk,hdl,hI5⟩
           . have r:=Bz (a:=a) h.env ix
             rw [hix] at r
             have hixe:a.eval ix=.int ik (xs.length:Int):=by
              revert r;generalize a.eval ix=q;intro r
              cases r;rfl
             unfold execOp;rw [R]
             have hr:=Sm (P:=P) (w:=w') (t:=T) (n:=sz2) (m:=m) (b:=b) (k:=xs.length) (cap:=cap) (len:=xs.length+1) (ik:=ik) hn (by omega)
             rw [g] at hr
             simp only [GL hd1,eval_put H,hixe,Ð,hr,Ê,Ö]
           . rw [eval_put B,GL hd1];exact sl _ j
           . rw [L,l];exact sl _ j
           . rw [E,D];exact sk _ hA.blk
           . rw [E,D,hw3,Lw A];exact sk _ hwlb
           . rw [L,l,hw3];exact sl _ i
         . cases he
       . cases he
     . cases he
   . cases he
 . cases he
end
end Go.Vl
namespace Go.Q
open Go
section
variable {P:Program} {ops:Array Oper} {Q Q':Exit->Act->World->Prop}
theorem OL {i:Nat}{a:Act}{w:World}{K K':Act->World->Prop}(hQ:∀ e a w,e≠.normal->Q e a w->Q' e a w)(h:∀ a w,K a w->K' a w)(hh:wpOp P ops Q i K a w):wpOp P ops Q' i K' a w:=by
 have hL:LetsOut Q->LetsOut Q':=fun ⟨a,w,h⟩=>⟨a,w,hQ _ _ _ (by simp) h⟩
 unfold wpOp at *
 split
 . exact h _ _ (by simpa [*] using hh)
 . rename_i o d
   simp only [d] at hh
   split
   . rename_i c
     simp only [c,ø] at hh
     refine hh.imp (fun hh=>?_) (fun hh=>⟨hh.1,hL hh.2⟩)
     unfold Oper.wp at *
     generalize (execOp a.eval o).run P w=r at *
     cases r with
     |ok n w' =>
      cases n<;>simp only [Oper.upon] at hh ⊢ <;>
       first
        |exact h _ _ hh
        |exact Calls.mono hh (fun e w'' b=>by cases e<;>first|exact h _ _ b|exact hQ _ _ _ (by simp) b|exact hL b)
        |exact Rows.mono hh (fun _ _ b=>h _ _ b)
     |halt x w'=>cases x<;>simp only [Oper.upon] at hh ⊢<;>first|exact hQ _ _ _ (by simp) hh|exact hh
   . rename_i c;simp only [c] at hh;exact h _ _ hh
def Nw (ops:Array Oper)(c:List Nat)(i:Nat)(D:Array Bool):Bool:=(Region.ready .any ops D).contains i&&(if cl c i=0∨cl c i=1 then Region.free .any ops D i else decide (Region.ready .any ops D=[i]))
def UR (ops:Array Oper)(c:List Nat):List Nat->Array Bool->Option (Array Bool)
 | [],D=>some D
 |i::t,D=>if Nw ops c i D=true then UR ops c t (D.setIfInBounds i true) else none
theorem FT {c:List Nat}{m:Nat}{D':Array Bool}(hsel:Region.noSelect ops=true)(hQ:∀ c d v a w,Q (.panic c) (a.put d v) w->Q (.panic c) a w)(hQQ:∀ e a w,e≠.normal->Q' e a w->Q e a w)
 (hrest:∀ (S:World->Prop) a w,S w->Q' .normal a w->Dg P ops Q c m S D' a w):∀ (t:List Nat) (S:World->Prop) (D:Array Bool) (a:Act) (w:World),Ea ops D ->
 S w->UR ops c t D=some D'->Hm P ops Q' c S t a w->Dg P ops Q c (t.length+m) S D a w
 | [],S,D,a,w,_,hS,hok,h=>by
  obtain rfl:=Af hok
  rw [ì,ò]
  exact hrest S a w hS h
 |i::t,S,D,a,w,hD,hS,hok,h=>by
  rw [show (i::t).length+m=(t.length+m)+1 by simp;omega]
  unfold UR at hok
  split at hok
  . rename_i hg
    unfold Nw at hg
    simp only [Æ] at hg
    obtain⟨hr,hf⟩:=hg
    have hr':i∈Region.ready .any ops D:=by simpa using hr
    obtain⟨_,oi,b,_⟩:=mem_ready.1 hr'
    unfold Hm at h
    simp only [b] at h
    by_cases f:cl c i=0
    . rw [Ç f] at h
      rw [Ç (.inl f)] at hf
      obtain⟨v,k,l⟩:=h
      exact FR (T:=fun _=>True) b (ċ hsel) (fun _ a w h=>hQ _ _ _ a w h) (.inl f) (.inl fun _=>trivial) (t.length+m) S D a w hD hS (fun _ _=>trivial) (ę b hf) hr' k
       (FT hsel hQ hQQ hrest t S _ _ w (hD.set hr') hS hok l)
    . rw [Ä f] at h
      by_cases g:cl c i=1
      . rw [Ç g] at h
        rw [Ç (.inr g)] at hf
        obtain⟨v,k,l⟩:=h
        exact G8 b (ċ hsel) (fun _ a w h=>hQ _ _ _ a w h) g (t.length+m) S D a w hD hS (ę b hf) hr' k
         (FT hsel hQ hQQ hrest t S _ _ w (hD.set hr') hS hok l)
      . rw [Ä g] at h
        rw [Ä (by simp [f,g])] at hf
        have n:Region.ready .any ops D=[i]:=by simpa using hf
        refine⟨fun h=>(by rw [h] at hr';cases hr'),fun j o=>?_⟩
        rw [n] at o
        obtain rfl:j=i:=by simpa using o
        refine OL hQQ (fun a' w' p=>?_) h
        obtain⟨S',k1,k2,k3⟩:=p
        exact⟨S',by unfold ER;rw [Ä (by simp [f,g])];exact⟨k1,k2⟩,FT hsel hQ hQQ hrest t S' _ a' w' (hD.set hr') k1 hok k3⟩
  . cases hok
theorem Kd {c:List Nat}{m:Nat}{D':Array Bool}{S:World->Prop}{w:World}(hsel:Region.noSelect ops=true)(hQ:∀ c d v a w,Q (.panic c) (a.put d v) w->Q (.panic c) a w)
 (hrest:∀ a,Q' .normal a w->Dg P ops Q c m S D' a w):∀ (t:List Nat) (D:Array Bool) (a:Act),t.all (fun i=>cl c i == 0||cl c i == 1)=true->Ea ops D ->
 S w->UR ops c t D=some D'->Hm P ops Q' c S t a w->Dg P ops Q c (t.length+m) S D a w
 | [],D,a,_,hD,hS,hok,h=>by
  obtain rfl:=Af hok
  rw [ì,ò]
  exact hrest a h
 |i::t,D,a,hq,hD,hS,hok,h=>by
  rw [show (i::t).length+m=(t.length+m)+1 by simp;omega]
  rw [ą,Æ,ú,ý,ý] at hq
  unfold UR at hok
  split at hok
  . rename_i hg
    unfold Nw at hg
    simp only [Æ] at hg
    obtain⟨hr,hf⟩:=hg
    have hr':i∈Region.ready .any ops D:=by simpa using hr
    obtain⟨_,oi,b,_⟩:=mem_ready.1 hr'
    unfold Hm at h
    simp only [b] at h
    rcases hq.1 with e|h1
    . rw [Ç e] at h
      rw [Ç (.inl e)] at hf
      obtain⟨v,f,g⟩:=h
      exact FR (T:=fun _=>True) b (ċ hsel) (fun _ a w h=>hQ _ _ _ a w h) (.inl e) (.inl fun _=>trivial) (t.length+m) S D a w hD hS (fun _ _=>trivial) (ę b hf) hr' f
       (Kd hsel hQ hrest t _ _ hq.2 (hD.set hr') hS hok g)
    . have e:¬ cl c i=0:=by omega
      rw [Ä e,Ç h1] at h
      rw [Ç (.inr h1)] at hf
      obtain⟨v,f,g⟩:=h
      exact G8 b (ċ hsel) (fun _ a w h=>hQ _ _ _ a w h) h1 (t.length+m) S D a w hD hS (ę b hf) hr' f
       (Kd hsel hQ hrest t _ _ hq.2 (hD.set hr') hS hok g)
  . cases hok
theorem DI {c:List Nat}{fuel x y:Nat}{S:World->Prop}{D:Array Bool}{a:Act}{w:World}(hr:(Region.ready .any ops D).all (fun z=>z == x||z == y)=true)(hne:(Region.ready .any ops D).isEmpty=false)
 (hx:wpOp P ops Q x (fun a' w'=>∃ S',ER ops S S' c x w w'/\Dg P ops Q c fuel S' (D.setIfInBounds x true) a' w') a w)
 (hy:wpOp P ops Q y (fun a' w'=>∃ S',ER ops S S' c y w w'/\Dg P ops Q c fuel S' (D.setIfInBounds y true) a' w') a w):Dg P ops Q c (fuel+1) S D a w:=by
 refine⟨fun h=>(by rw [h] at hne;cases hne),fun z b=>?_⟩
 all_goals grind
theorem OK {i:Nat}{o:Oper}{K:Act->World->Prop}{a:Act}{w w':World}{v:Value}(ho:ops[i]?=some o)(hg:o.guard=none)(hr:(execOp a.eval o).run P w=.ok (.value v) w')(hk:K (a.put o.dst v) w'):wpOp P ops Q i K a w:=by
 unfold wpOp
 have b:Region.wanted o (yielded ops a.tmps)=true:=by unfold Region.wanted;rw [hg]
 simp only [ho,b,ø]
 left
 unfold Oper.wp
 rw [hr];exact hk
theorem H0 {i:Nat}{o:Oper}{K:Act->World->Prop}{a:Act}{w w':World}(ho:ops[i]?=some o)(hg:o.guard=none)(hd:o.dst=none)(hr:(execOp a.eval o).run P w=.ok .skip w')(hk:K a w'):wpOp P ops Q i K a w:=by
 unfold wpOp
 have b:Region.wanted o (yielded ops a.tmps)=true:=by unfold Region.wanted;rw [hg]
 simp only [ho,b,ø]
 left
 unfold Oper.wp
 rw [hr]
 show K (a.put o.dst Go.undef) w'
 rw [hd];exact hk
end
end Go.Q
namespace Go.Vl
open Go Go.RowKit Go.Q
def Oy (ops:Array Oper)(D:Array Bool)(x y:Nat):Bool:=(Region.ready .any ops D).all (fun z=>z == x||z == y)&&!(Region.ready .any ops D).isEmpty
def Ga (D:Array Bool)(x:Nat):Array Bool:=D.setIfInBounds x true
def Nx (ops:Array Oper)(i j k l:Nat)(D:Array Bool):Bool :=
 (cl (Co ops) i == 2&&(cl (Co ops) j == 0&&(cl (Co ops) k == 2&&cl (Co ops) l == 2)))&&((!DM ops (Co ops) i&&(!DM ops (Co ops) k&&!DM ops (Co ops) l)) &&
 ((Oy ops D i i&&(Oy ops (Ga D i) j l&&(Oy ops (Ga (Ga D i) j) k l&&(Oy ops (Ga (Ga D i) l) j j&&(Oy ops (Ga (Ga (Ga D i) j) k) l l&&(Oy ops (Ga (Ga (Ga D i) j) l) k k&&Oy ops (Ga (Ga (Ga D i) l) j) k k)))))) &&
 ((Region.ready .any ops (Ga (Ga (Ga (Ga D i) j) k) l)).isEmpty&&((Region.ready .any ops (Ga (Ga (Ga (Ga D i) j) l) k)).isEmpty&&(Region.ready .any ops (Ga (Ga (Ga (Ga D i) l) j) k)).isEmpty))))
def GI (o:Oper):Bool:=match o.guard with|none=>true|some _=>false
def J4 (P:Program)(ops:Array Oper)(K:AX->St->Prop)(t:List Nat)(st:St):Prop :=
 match t with
 | [i,j,k,l]=>match ops[i]?,ops[j]?,ops[k]?,ops[l]? with
  |some oi,some oj,some ok,some ol=>match four P oi oj ok ol st with
   |some (c,st')=>(c&&(GI oi&&(GI oj&&(GI ok&&GI ol))))=true/\K .normal st'
   |none=>False
  |_,_,_,_=>False
 |_=>False
def Ei (P:Program)(ops:Array Oper)(K:AX->St->Prop)(t:List Nat)(x:AX)(st:St):Prop:=match x with
 |.normal=>J4 P ops K t st
 |x=>K x st
def RX (ops:Array Oper)(pre t:List Nat):Bool :=
 Region.noSelect ops&&(pre.length+4 == ops.size&&(DW ops pre&&(match t with
  | [i,j,k,l]=>match UR ops (Co ops) pre (Array.replicate ops.size false) with
   |some D=>Nx ops i j k l D
   |none=>false
  |_=>false)))
section
variable {w w' w0 ws w2:World} {G G' G0 Gs G2:Gh} {P:Program} {st st':St} {a:Act} {n:Nat} {ops:Array Oper} {K:AX->St->Prop} {ds:List Deferred} {M:List Nat}
theorem YH {oi oj ok ol:Oper}{r:Bool×St}(h:four P oi oj ok ol st=some r):∃ d1 d2,oi.dst=some d1/\oj.dst=some d2:=by
 grind [four]
theorem Hv {o:Oper}(h:GI o=true):o.guard=none:=by
 unfold GI at h
 split at h
 . assumption
 . cases h
theorem TQ {i j k l:Nat}{D:Array Bool}{S:World->Prop}(hdst:∀ o∈ops.toList,∀ d,o.dst=some d->d<n)(h:Inv ws Gs st (AG a) w G)(hdef:a.defers=ds)(hsz:a.tmps.size=n)(hok:Nx ops i j k l D=true)
 (he:J4 P ops K [i,j,k,l] st):Dg P ops (C3 ds ws Gs n K) (Co ops) 4 S D a w:=by
 simp only [Nx,Æ,ý,å,Oy] at hok
 obtain⟨⟨ci,cj,ck,cl'⟩,⟨ni,nk,nl⟩,⟨⟨a1,b1⟩,⟨a2,b2⟩,⟨a3,b3⟩,⟨a4,b4⟩,⟨a5,b5⟩,⟨a6,b6⟩,⟨a7,b7⟩⟩,e1,e2,e3⟩:=hok
 unfold J4 at he
 simp only at he
 split at he
 . rename_i oi oj ok ol q f g m
   split at he
   . rename_i c st' r
     simp only [Æ] at he
     obtain⟨⟨rfl,gi,gj,gk,gl⟩,s⟩:=he
     have gi:=Hv gi
     have gj:=Hv gj
     have gk:=Hv gk
     have gl:=Hv gl
     obtain⟨d1,d2,e,b⟩:=YH r
     have mem:∀ {x o},ops[x]?=some o->o∈ops.toList:=fun h=>by simpa using Array.mem_of_getElem? h
     obtain⟨v,p,w1,wk,wl,w3,G3,r1,r2,r3,r4,r5,r6,r7,r8,r9,hI⟩:=YG h e b (by rw [hsz];exact hdst _ (mem q) _ e) (by rw [hsz];exact hdst _ (mem f) _ b) r
     have loud:∀ {x:Nat} {w w':World} {S:World->Prop},cl (Co ops) x=2->DM ops (Co ops) x=false->ER ops S (fun _=>True) (Co ops) x w w':=by
      grind [ER]
     have quiet:∀ {w:World} {S:World->Prop},ER ops S S (Co ops) j w w:=by
      intro w S
      unfold ER
      rw [Ç (.inl cj)]
      exact⟨rfl,rfl⟩
     have post:C3 ds ws Gs n K .normal ((a.put (some d1) v).put (some d2) p) w3:=⟨by rw [Bw,Bw];exact hsz,by rw [put_defers,put_defers];exact hdef,st',G3,s,hI⟩
     have emp:∀ {D:Array Bool},(Region.ready .any ops D).isEmpty=true->Region.ready .any ops D=[]:=fun h=>by simpa using h
     have s1:=DI (P:=P) (Q:=C3 ds ws Gs n K) (c:=Co ops) (fuel:=3) (S:=S) (a:=a) (w:=w) a1 b1
     have begin:wpOp P ops (C3 ds ws Gs n K) i (fun a' w'=>∃ S',ER ops S S' (Co ops) i w w'/\Dg P ops (C3 ds ws Gs n K) (Co ops) 3 S' (D.setIfInBounds i true) a' w') a w:=by
      refine OK q gi r1 ⟨_,loud ci ni,?_⟩
      rw [e]
      refine DI a2 b2 ?_ ?_
      . -- the address
        refine OK f gj (r2 w1) ⟨_,quiet,?_⟩
        rw [b]
        refine DI a3 b3 ?_ ?_
        . refine H0 g gk r8 r5 ⟨_,loud ck nk,?_⟩
          refine DI a5 b5 ?_ ?_ <;>
          . refine H0 m gl r9 r7 ⟨_,loud cl' nl,?_⟩
            exact⟨emp e1,post⟩
        . refine H0 m gl r9 r4 ⟨_,loud cl' nl,?_⟩
          refine DI a6 b6 ?_ ?_ <;>
          . refine H0 g gk r8 r6 ⟨_,loud ck nk,?_⟩
            exact⟨emp e2,post⟩
      . refine H0 m gl r9 r3 ⟨_,loud cl' nl,?_⟩
        refine DI a4 b4 ?_ ?_ <;>
        . refine OK f gj (r2 wl) ⟨_,quiet,?_⟩
          rw [b]
          refine DI a7 b7 ?_ ?_ <;>
          . refine H0 g gk r8 r6 ⟨_,loud ck nk,?_⟩
            exact⟨emp e3,post⟩
     exact s1 begin begin
   . exact he.elim
 . exact he.elim
theorem RV {id:Nat}{pre t4:List Nat}(hgl:Cu w0 G0)(hm:P.follows .mixedOrders=true)(hdst:∀ o∈ops.toList,∀ d,o.dst=some d->d<n)(hok:RX ops pre t4=true)(h:Inv w0 G0 st (AG a) w G)(hdef:a.defers=ds)(hsz:a.tmps.size=n)
 (he:BH P ops M (Ei P ops K t4) pre st):RW P (Code.region id ops true) (C3 ds w0 G0 n K) a w:=by
 unfold RX at hok
 simp only [Æ,ý] at hok
 obtain⟨g,m,s,f⟩:=hok
 split at f
 . rename_i i j k l
   split at f
   . rename_i D' hD
     have t:=Ed (P:=P) (K:=Ei P ops K [i,j,k,l]) (M:=M) (ws:=w.drew) (Gs:=G) ((hgl.ext h.ext).ext h.ext.drew0) hdst pre st a w.drew G s h.drew.at_ hdef hsz he
     have u:∀ c d v a w1,C3 ds w.drew G n K (.panic c) (a.put d v) w1->C3 ds w.drew G n K (.panic c) a w1:=by
      rintro c d v a' w' ⟨g,m⟩
      exact⟨by rw [put_defers] at g;exact g,m⟩
     have b:RW P (Code.region id ops.toList.toArray true) (C3 ds w.drew G n K) a w:=by
      rw [ë]
      refine rw_any hm ?_
      rw [<- m]
      refine H5 (c:=Co ops) _ (BA M w.drew G.U G.φ) _ _ _ (FT (D':=D') g u (Q':=C3 ds w.drew G n (Ei P ops K [i,j,k,l])) ?_ ?_ pre _ _ a _ ?_ (BA.refl _ _ _ _) ?_ t)
      . intro e a w p q
        cases e with
        |normal=>exact absurd rfl p
        |_=>exact q
      . rintro S a' w' _ ⟨k1,k2,st2,G2,k3,k4⟩
        exact TQ hdst k4 k2 k1 f k3
      . intro j oj _ r
        rw [Go.getD_replicate_false] at r
        cases r
      . rw [m];exact hD
     rw [ë] at b
     exact b.mono fun e a' w' q=>q.since h.ext.drew
   . cases f
 . cases f
end
end Go.Vl
namespace Go.Vl
open Go Go.RowKit Go.Q
def Sg (ops:Array Oper)(l t:List Nat)(D:Array Bool):Bool :=
 match l,t with
 | [x,y],[i,j,k,m]=>(cl (Co ops) x == 2&&cl (Co ops) y == 2)&&(Oy ops D x y&&(DW ops [x,y]&&(DW ops [y,x]&&(D.size == ops.size&&(match UR ops (Co ops) [y] (Ga D x),UR ops (Co ops) [x] (Ga D y) with
  |some D1,some D2=>Nx ops i j k m D1&&Nx ops i j k m D2
  |_,_=>false)))))
 |_,_=>false
def Ir (P:Program)(ops:Array Oper)(M:List Nat)(K:AX->St->Prop)(l:List Nat)(x:AX)(st:St):Prop:=match x with
 |.normal=>match l with
  | [x,y]=>BH P ops M K [x,y] st/\BH P ops M K [y,x] st
  |_=>False
 |x=>K x st
def M0 (ops:Array Oper)(pre l t:List Nat):Bool :=
 Region.noSelect ops&&(pre.length+6 == ops.size&&(DW ops pre&&(pre.all (fun i=>cl (Co ops) i == 0||cl (Co ops) i == 1)&&(match UR ops (Co ops) pre (Array.replicate ops.size false) with
  |some D=>Sg ops l t D
  |none=>false))))
section
variable {w w' w0 ws w2:World} {G G' G0 Gs G2:Gh} {P:Program} {st st':St} {a:Act} {n:Nat} {ops:Array Oper} {K:AX->St->Prop} {ds:List Deferred} {M:List Nat}
theorem Ps {c:List Nat}:∀ {t:List Nat} {D D':Array Bool},Ea ops D->UR ops c t D=some D'->Ea ops D'
 | [],D,D',h,e=>by obtain rfl:=Af e;exact h
 |i::t,D,D',h,e=>by
  unfold UR at e
  split at e
  . rename_i hg
    unfold Nw at hg
    simp only [Æ] at hg
    have hr':i∈Region.ready .any ops D:=by simpa using hg.1
    exact Ps (h.set hr') e
  . cases e
theorem HK {x y i j k l:Nat}{D D1:Array Bool}(hsel:Region.noSelect ops=true)(hgl:Cu ws Gs)(hdst:∀ o∈ops.toList,∀ d,o.dst=some d->d<n)(hD:Ea ops D)(h:Inv ws Gs st (AG a) ws G)(hdef:a.defers=ds)(hsz:a.tmps.size=n)
 (hx:cl (Co ops) x=2) (hrx:x∈Region.ready .any ops D) (hchk:DW ops [x,y]=true) (hok:UR ops (Co ops) [y] (Ga D x)=some D1) (h4:Nx ops i j k l D1=true)
 (he:BH P ops M (Ei P ops K [i,j,k,l]) [x,y] st) :
 wpOp P ops (C3 ds ws Gs n K) x (fun a' w'=>∃ S',ER ops (BA M ws Gs.U Gs.φ) S' (Co ops) x ws w'/\Dg P ops (C3 ds ws Gs n K) (Co ops) 5 S' (D.setIfInBounds x true) a' w') a ws:=by
 have f:=Ed (P:=P) (K:=Ei P ops K [i,j,k,l]) (M:=M) hgl hdst [x,y] st a ws G hchk h hdef hsz he
 have r:∀ c d v a w1,C3 ds ws Gs n K (.panic c) (a.put d v) w1->C3 ds ws Gs n K (.panic c) a w1:=by
  rintro c d v a' w' ⟨g,s⟩
  exact⟨by rw [put_defers] at g;exact g,s⟩
 obtain⟨_,oi,p,_⟩:=mem_ready.1 hrx
 unfold Hm at f
 simp only [p] at f
 rw [Ä (by omega),Ä (by omega)] at f
 have b:∀ e a w,e≠.normal->C3 ds ws Gs n (Ei P ops K [i,j,k,l]) e a w->C3 ds ws Gs n K e a w:=by
  intro e a w q t
  cases e with
  |normal=>exact absurd rfl q
  |_=>exact t
 refine OL b (fun a' w' u=>?_) f
 obtain⟨S',k1,k2,k3⟩:=u
 refine⟨S',?_,FT (m:=4) (D':=D1) hsel r (Q':=C3 ds ws Gs n (Ei P ops K [i,j,k,l])) b ?_ [y] S' _ a' w' (hD.set hrx) k1 hok k3⟩
 . unfold ER
   rw [Ä (by omega)]
   exact⟨k1,fun z w1 g=>BA.mono h.ext (fun _ _ _ _=>rfl) (k2 z w1 g)⟩
 . rintro S a' w' _ ⟨k1,k2,st2,G2,k3,k4⟩
   exact TQ hdst k4 k2 k1 h4 k3
theorem RU {id:Nat}{pre l t4:List Nat}(hgl:Cu w0 G0)(hm:P.follows .mixedOrders=true)(hdst:∀ o∈ops.toList,∀ d,o.dst=some d->d<n)(hok:M0 ops pre l t4=true)(h:Inv w0 G0 st (AG a) w G)(hdef:a.defers=ds)(hsz:a.tmps.size=n)
 (he:BH P ops M (Ir P ops M (Ei P ops K t4) l) pre st):RW P (Code.region id ops true) (C3 ds w0 G0 n K) a w:=by
 unfold M0 at hok
 simp only [Æ,ý] at hok
 obtain⟨s,H,O,R,p⟩:=hok
 split at p
 . rename_i D' hD
   unfold Sg at p
   split at p
   . rename_i x y i j k m
     simp only [Æ,ý] at p
     obtain⟨⟨cx,cy⟩,b,C,I,S,p⟩:=p
     split at p
     . rename_i D1 D2 E J
       simp only [Æ] at p
       have f:Cu w.drew G:=(hgl.ext h.ext).ext h.ext.drew0
       have T:=Ed (P:=P) (K:=Ir P ops M (Ei P ops K [i,j,k,m]) [x,y]) (M:=M) (ws:=w.drew) (Gs:=G) f hdst pre st a w.drew G O h.drew.at_ hdef hsz he
       have V:∀ c d v a w1,C3 ds w.drew G n K (.panic c) (a.put d v) w1->C3 ds w.drew G n K (.panic c) a w1:=by
        rintro c d v a' w' ⟨s,H⟩
        exact⟨by rw [put_defers] at s;exact s,H⟩
       have A:Ea ops (Array.replicate ops.size false):=by
        intro j oj _ F
        rw [Go.getD_replicate_false] at F
        cases F
       have q:=Ps A hD
       unfold Oy at b
       simp only [Æ,å] at b
       have L:∀ {z:Nat} {D:Array Bool},(UR ops (Co ops) [z] D).isSome=true->z∈Region.ready .any ops D:=by
        grind [M0,Sg,Oy,UR,Nw]
       have B:RW P (Code.region id ops.toList.toArray true) (C3 ds w.drew G n K) a w:=by
        rw [ë]
        refine rw_any hm ?_
        rw [<- H]
        refine H5 (c:=Co ops) _ (BA M w.drew G.U G.φ) _ _ _ (Kd (D':=D') s V (Q':=C3 ds w.drew G n (Ir P ops M (Ei P ops K [i,j,k,m]) [x,y])) ?_ pre _ a R (by rw [H];exact A) (BA.refl _ _ _ _) (by rw [H];exact hD) T)
        rintro a' ⟨k1,k2,st2,G2,⟨k3,k3'⟩,k4⟩
        by_cases t:x∈Region.ready .any ops D'
        . by_cases u:y∈Region.ready .any ops D'
          . exact DI b.1 b.2 (HK s f hdst q k4 k2 k1 cx t C E p.1 k3) (HK s f hdst q k4 k2 k1 cy u I J p.2 k3')
          . refine DI (x:=x) (y:=x) ?_ b.2 (HK s f hdst q k4 k2 k1 cx t C E p.1 k3) (HK s f hdst q k4 k2 k1 cx t C E p.1 k3)
            have g:=b.1
            rw [Ú] at g ⊢
            intro z N
            have:=g z N
            simp only [ú,ý] at this ⊢
            rcases this with e|e
            . exact .inl e
            . exact absurd (e ▸ N) u
        . refine DI (x:=y) (y:=y) ?_ b.2 ?_ ?_
          . grind [M0,Sg,Oy,UR,Nw]
          all_goals
           have u:y∈Region.ready .any ops D':=by
            cases F:Region.ready .any ops D' with
            |nil=>rw [F] at b;cases b.2
            |cons z r =>
             have g:=b.1
             rw [Ú] at g
             have:=g z (by rw [F];simp)
             simp only [ú,ý] at this
             rcases this with e|e
             . exact absurd (by rw [F,e];simp) t
             . rw [e];simp
           exact HK s f hdst q k4 k2 k1 cy u I J p.2 k3'
       rw [ë] at B
       exact B.mono fun e a' w' W=>W.since h.ext.drew
     . cases p
   . cases p
 . cases p
end
end Go.Vl
namespace Go.Q
open Go
inductive OT where
 |done
 |one (i:Nat) (t:OT)
 |or (i:Nat) (sw:Bool) (t r:OT)
 |no
section
variable {P:Program} {ops:Array Oper} {Q:Exit->Act->World->Prop}
def T1 (ops:Array Oper)(c:List Nat):OT->Nat->Array Bool->Option (List Nat)->Bool
 |.done,0,D,none=>(Region.ready .any ops D).isEmpty
 |.one i t,n+1,D,none=>(Region.ready .any ops D).contains i&&(if cl c i=0∨cl c i=1 then Region.free .any ops D i else decide (Region.ready .any ops D=[i]))&&T1 ops c t n (D.setIfInBounds i true) none
 |.or i _ t r,n+1,D,hs=>match hs.getD (Region.ready .any ops D) with
  |j::hs'=>decide (j=i)&&(cl c i != 0&&cl c i != 1)&&T1 ops c t n (D.setIfInBounds i true) none&&T1 ops c r (n+1) D (some hs')
  | []=>false
 |.no,_,_,some hs=>hs.isEmpty
 |_,_,_,_=>false
def OY (P:Program)(ops:Array Oper)(Q:Exit->Act->World->Prop)(c:List Nat)(Y:(World->Prop)->Act->World->Prop)(S:World->Prop)(i:Nat)(a:Act)(w:World):Prop :=
 match ops[i]? with
  |none=>False
  |some o =>
   if cl c i=0 then ∃ v,YieldsIn P ops (fun _=>True) o v a/\Y S (a.put o.dst v) w
   else if cl c i=1 then ∃ v,SH P ops c S i o v a w/\Y S (a.put o.dst v) w
   else wpOp P ops Q i (fun a' w'=>∃ S':World->Prop,S' w'/\(DM ops c i=true->∀ w,S' w->S w)/\Y S' a' w') a w
def Kc (P:Program)(ops:Array Oper)(Q:Exit->Act->World->Prop)(c:List Nat):OT->(World->Prop)->Act->World->Prop
 |.done,_,a,w=>Q .normal a w
 |.one i t,S,a,w=>OY P ops Q c (fun S a w=>Kc P ops Q c t S a w) S i a w
 |.or i _ t r,S,a,w=>OY P ops Q c (fun S a w=>Kc P ops Q c t S a w) S i a w/\Kc P ops Q c r S a w
 |.no,_,_,_=>True
theorem FH {c:List Nat}(hsel:Region.noSelect ops=true)(hQ:∀ c d v a w,Q (.panic c) (a.put d v) w->Q (.panic c) a w):∀ (t:OT) (n:Nat) (S:World->Prop) (D:Array Bool) (a:Act) (w:World) (hs:Option (List Nat)),Ea ops D ->
 S w->(∀ l,hs=some l->∀ i∈l,i∈Region.ready .any ops D)->T1 ops c t n D hs=true->Kc P ops Q c t S a w ->
 (hs=none->Dg P ops Q c n S D a w)/\∀ l,hs=some l->∀ m,n=m+1->∀ i∈l,wpOp P ops Q i (fun a' w'=>∃ S',ER ops S S' c i w w'/\Dg P ops Q c m S' (D.setIfInBounds i true) a' w') a w
 |.done,n,S,D,a,w,hs,_,_,_,hok,h=>by
  match n,hs,hok with
  |0,none,hok=>exact⟨fun _=>⟨by simpa [T1] using hok,h⟩,fun l e=>by cases e⟩
  |_+1,none,hok=>simp [T1] at hok
  |0,some _,hok=>simp [T1] at hok
  |_+1,some _,hok=>simp [T1] at hok
 |.one i t,0,S,D,a,w,hs,_,_,_,hok,h=>by simp [T1] at hok
 |.one i t,n+1,S,D,a,w,some _,_,_,_,hok,h=>by simp [T1] at hok
 |.one i t,n+1,S,D,a,w,none,hD,hS,_,hok,h=>by
  refine⟨fun _=>?_,fun l e=>by cases e⟩
  simp only [T1,Æ] at hok
  obtain⟨⟨hr,hf⟩,hok'⟩:=hok
  have hr':i∈Region.ready .any ops D:=by simpa using hr
  obtain⟨_,oi,b,_⟩:=mem_ready.1 hr'
  unfold Kc OY at h
  simp only [b] at h
  by_cases g:cl c i=0
  . rw [Ç g] at h
    rw [Ç (.inl g)] at hf
    obtain⟨v,C,E⟩:=h
    exact FR (T:=fun _=>True) b (ċ hsel) (fun _ a w h=>hQ _ _ _ a w h) (.inl g) (.inl fun _=>trivial) n S D a w hD hS (fun _ _=>trivial) (ę b hf) hr' C
     ((FH hsel hQ t n S _ _ w none (hD.set hr') hS (fun _ e=>by cases e) hok' E).1 rfl)
  . rw [Ä g] at h
    by_cases o:cl c i=1
    . rw [Ç o] at h
      rw [Ç (.inr o)] at hf
      obtain⟨v,C,E⟩:=h
      exact G8 b (ċ hsel) (fun _ a w h=>hQ _ _ _ a w h) o n S D a w hD hS (ę b hf) hr' C
       ((FH hsel hQ t n S _ _ w none (hD.set hr') hS (fun _ e=>by cases e) hok' E).1 rfl)
    . rw [Ä o] at h
      rw [Ä (by simp [g,o])] at hf
      have F:Region.ready .any ops D=[i]:=by simpa using hf
      refine⟨fun h=>(by rw [h] at hr';cases hr'),fun j G=>?_⟩
      rw [F] at G
      obtain rfl:j=i:=by simpa using G
      refine wpOp_mono (fun a' w' H=>?_) h
      obtain⟨S',k1,k2,k3⟩:=H
      exact⟨S',by unfold ER;rw [Ä (by simp [g,o])];exact⟨k1,k2⟩,(FH hsel hQ t n S' _ a' w' none (hD.set hr') k1 (fun _ e=>by cases e) hok' k3).1 rfl⟩
 |.or i sw t r,0,S,D,a,w,hs,_,_,_,hok,h=>by simp [T1] at hok
 |.or i sw t r,n+1,S,D,a,w,hs,hD,hS,z,hok,h=>by
  unfold T1 at hok
  cases q:hs.getD (Region.ready .any ops D) with
  |nil=>rw [q] at hok;cases hok
  |cons j f =>
   rw [q] at hok
   simp only [Æ,Í,bne_iff_ne,ne_eq] at hok
   obtain⟨⟨⟨rfl,g,o⟩,A⟩,B⟩:=hok
   have s:∀ k∈j::f,k∈Region.ready .any ops D:=by
    intro k u
    cases hs with
    |none=>rw [<- q] at u;exact u
    |some l=>exact z l rfl k (by rw [<- q] at u;exact u)
   have hr':=s j (by simp)
   obtain⟨_,oi,b,_⟩:=mem_ready.1 hr'
   unfold Kc at h
   obtain⟨p,x⟩:=h
   unfold OY at p
   simp only [b] at p
   rw [Ä g,Ä o] at p
   have G:wpOp P ops Q j (fun a' w'=>∃ S',ER ops S S' c j w w'/\Dg P ops Q c n S' (D.setIfInBounds j true) a' w') a w:=by
    refine wpOp_mono (fun a' w' H=>?_) p
    obtain⟨S',k1,k2,k3⟩:=H
    exact⟨S',by unfold ER;rw [Ä (by simp [g,o])];exact⟨k1,k2⟩,(FH hsel hQ t n S' _ a' w' none (hD.set hr') k1 (fun _ e=>by cases e) A k3).1 rfl⟩
   have hr:=(FH hsel hQ r (n+1) S D a w (some f) hD hS (fun l e k u=>by cases e;exact s k (è _ u)) B x).2 f rfl n rfl
   have y:∀ k∈j::f,wpOp P ops Q k (fun a' w'=>∃ S',ER ops S S' c k w w'/\Dg P ops Q c n S' (D.setIfInBounds k true) a' w') a w:=by
    grind
   refine⟨fun e=>?_,fun l e m I=>?_⟩
   . subst e
     have q:Region.ready .any ops D=j::f:=q
     refine⟨fun e=>(by rw [q] at e;cases e),fun k u=>y k (by rw [<- q];exact u)⟩
   . grind [Kc,OY,ER]
 |.no,n,S,D,a,w,none,_,_,_,hok,h=>by simp [T1] at hok
 |.no,n,S,D,a,w,some l,_,_,_,hok,h=>by
  grind [T1]
theorem On {id:Nat}{l:List Oper}{a:Act}{w:World}(c:List Nat)(t:OT)(S:World->Prop)(hm:P.follows .mixedOrders=true)(hsel:Region.noSelect l.toArray=true)
 (hok:T1 l.toArray c t l.length (Array.replicate l.toArray.size false) none=true) (hQ:∀ c d v a w,Q (.panic c) (a.put d v) w->Q (.panic c) a w)
 (hS:S w.drew) (h:Kc P l.toArray Q c t S a w.drew):Go.Vl.RW P (Code.region id l.toArray true) Q a w:=by
 refine Go.Vl.rw_any hm ?_
 rw [show l.toArray.size=l.length by simp]
 refine H5 _ S _ _ _ ((FH (c:=c) hsel hQ t l.length S _ a _ none ?_ hS (fun _ e=>by cases e) ?_ h).1 rfl)
 . intro j oj _ b
   rw [getD_replicate_false] at b
   cases b
 . rw [show l.length=l.toArray.size by simp] at hok ⊢;exact hok
end
end Go.Q
namespace Go.Vl
open Go Go.RowKit Go.Q
def KX (K:AX->St->Prop)(X:St->Prop):AX->St->Prop
 |.normal,st=>X st
 |x,st=>K x st
section
variable {w w' w0 ws w2:World} {G G' G0 Gs G2:Gh} {P:Program} {st st':St} {a:Act} {o:Oper} {n:Nat} {ops:Array Oper} {K:AX->St->Prop} {ds:List Deferred} {M:List Nat}
theorem NS (hgl:Cu ws Gs)(hdst:∀ o∈ops.toList,∀ d,o.dst=some d->d<n){X:St->Prop}{Y:(World->Prop)->Act->World->Prop}
 (hY:∀ (st':St) (a':Act) (w':World) (G':Gh),Inv ws Gs st' (AG a') w' G'->a'.defers=ds->a'.tmps.size=n->X st'->Y (BA M w' G'.U G'.φ) a' w') (i:Nat) (st:St) (a:Act) (w:World) (G:Gh) (hchk:DW ops [i]=true) (h:Inv ws Gs st (AG a) w G) (hdef:a.defers=ds) (hsz:a.tmps.size=n)
 (he:BH P ops M (KX K X) [i] st):OY P ops (C3 ds ws Gs n K) (Co ops) Y (BA M w G.U G.φ) i a w:=by
 unfold BH at he
 unfold DW at hchk
 unfold OY
 cases ho:ops[i]? with
 |none=>rw [ho] at he;exact he.elim
 |some o =>
 rw [ho] at he hchk
 simp only [Æ,ú,å] at he hchk ⊢
 obtain⟨hst,hrest⟩:=hchk
 have hmem:o∈ops.toList:=by
  have:=Array.mem_of_getElem? ho
  simpa using this
 have F:∀ d,o.dst=some d->d<a.tmps.size:=fun d l=>by rw [hsz];exact hdst o hmem d l
 have hcl:=Um ho
 rw [hcl]
 split at he
 . exact he.elim
 . rename_i hg
   have L:=Dd h.env hg
   have hS:=h.skipPut F
   have ih:=hY _ _ w G hS (by rw [put_defers];exact hdef) (by rw [Bw];exact hsz) he
   rcases IM o with h0|h0|h0
   . rw [Ç h0];exact⟨Go.undef,.inr ⟨L,rfl⟩,ih⟩
   . rw [Ä (by omega),Ç h0];exact⟨Go.undef,.inl (.inr ⟨L,rfl⟩),ih⟩
   . grind [BA.refl,wpOp]
 . rename_i hg
   have L:=Dd h.env hg
   split at he
   . rename_i c st2 u
     obtain⟨rfl,⟨H,m⟩,he2⟩:=he
     unfold Hl at u
     by_cases t:EP o=2
     . rw [Ä (by omega),Ä (by omega)]
       rw [Ç t] at u
       unfold wpOp
       simp only [ho,L,ø]
       left
       obtain⟨nx,v,w2,G2,h1,h2,h3,h4⟩:=J1 h.at_ F u
       unfold Oper.wp
       rw [h1]
       have N:∃ S':World->Prop,S' w2/\(DM ops (Co ops) i=true->∀ w1,S' w1->BA M w G.U G.φ w1)/\Y S' (a.put o.dst v) w2:=by
        refine⟨_,BA.refl M w2 G2.U G2.φ,fun I w1 S=>BA.mono h3.ext (fun k b hb W=>?_) S,hY _ _ w2 G2 (h3.since h.ext) (by rw [put_defers];exact hdef) (by rw [Bw];exact hsz) he2⟩
        rcases hst with hst|hst|hst
        . rw [hst] at I;cases I
        . exact h4 hst b (Ò hb)
        . unfold Adf at hst
          split at hst
          . rename_i T x y O
            unfold Q7 at m
            rw [O] at m
            simp only [I,ø] at m
            split at m
            . rename_i k2 o2 hx
              have hkm:k2∈M:=Gz.1 m
              obtain⟨kb,hkb⟩:∃ kb,G.φ[k2]?=some kb:=by
               have A:=Bz (a:=a) h.env x
               rw [hx] at A
               revert A;generalize a.eval x=z;intro A
               cases A with
               |ptr _ _ _ kb hk=>exact⟨kb,hk⟩
              refine NQ h.at_ O u h1 hx hkb ?_
              rintro rfl
              exact W (by
               have:=(List.getElem?_inj (List.getElem?_eq_some_iff.1 hb).1 h.store.nodup).1 (hb.trans hkb.symm)
               rw [this];exact hkm)
            . cases m
          . cases hst
       rcases h2 with rfl|⟨rfl,rfl⟩
       . exact N
       . exact N
     . rw [Ä t] at u
       split at u
       . rename_i d l
         obtain⟨v,G2,h1,C,h2⟩:=Ij h (F d l) l u
         have ih:=hY _ _ w G2 h2 (by rw [put_defers];exact hdef) (by rw [Bw];exact hsz) he2
         rw [C.1,C.2] at ih
         rcases IM o with h0|h0|h0
         . rw [Ç h0]
           exact⟨v,.inl ⟨L,fun w2 _=>.inl (h1 w2 (fun e=>by omega))⟩,ih⟩
         . rw [Ä (by omega),Ç h0]
           by_cases hpc:UM ops (Co ops) i=true
           . exact⟨v,.inr ⟨hpc,.inl ⟨L,fun w2 e=>.inl (h1 w2 (fun _=>by subst e;exact⟨fun _ _ _=>Kp.refl,fun b _ k _=>rfl⟩))⟩⟩,ih⟩
           refine⟨v,.inl (.inl ⟨L,fun w2 hr=>.inl (h1 w2 (fun _=>⟨hr.1,fun b hb k hk=>hr.2 b k hk ?_⟩))⟩),ih⟩
           unfold LR at hb
           split at hb
           . rename_i x hx
             unfold Q7 at m
             rw [hx] at m
             simp only [Bool.eq_false_iff.2 hpc,Bool.or_false] at m
             have H:=m
             unfold Yl at H
             rw [hx] at H
             simp only at H
             unfold rdB at hb
             split at hb
             . grind [Option.some.injEq,Gz]
             . cases hb
           . cases hb
         . exact absurd h0 t
       . cases u
   . split at he
     . rename_i f args D
       have h0:=Mc D
       rw [Ä (by omega),Ä (by omega)]
       unfold wpOp
       simp only [ho,L,ø]
       left
       obtain⟨vs,g1,g2,g3⟩:=J5 h.env D
       have fin:∀ (stA:St) (r:PV) (v:Value) (w2:World) (G2:Gh),(∀ tup d,Inv w G stA (AG a) w2 (G.outer G2 tup d))->V w2 G2.U G2.φ r v->Gm w2 G2 r v ->
        (DM ops (Co ops) i=true->∀ k b,G.φ[k]?=some b->k∉M->w2.heap[b]?=w.heap[b]?)->X (stA.put o.dst r) ->
        ∃ S':World->Prop,S' w2/\(DM ops (Co ops) i=true->∀ w1,S' w1->BA M w G.U G.φ w1)/\Y S' (a.put o.dst v) w2:=by
        intro stA r v w2 G2 hA A Z hk B
        have key:∀ G3,Inv w G (stA.put o.dst r) (AG (a.put o.dst v)) w2 G3->∃ S':World->Prop,S' w2/\(DM ops (Co ops) i=true->∀ w1,S' w1->BA M w G.U G.φ w1)/\Y S' (a.put o.dst v) w2:=fun G3 hI =>
         ⟨_,BA.refl M w2 G3.U G3.φ,fun I w1 S=>BA.mono hI.ext (hk I) S,hY _ _ w2 G3 (hI.since h.ext) (by rw [put_defers];exact hdef) (by rw [Bw];exact hsz) B⟩
        cases l:o.dst with
        |none =>
         have hI:=hA false 0
         have:=key _ (by rw [l];exact hI)
         rw [l] at this;exact this
        |some d =>
         have hI:=(hA (P5 r) d).putRet A Z
         have:=key _ (by rw [l,Bm (F d l)];exact hI)
         rw [l] at this;exact this
       have pan:∀ (c:List PanicEntry) (σ2:List (List PV)) (w2:World) (G2:Gh),Ay w2 G2 σ2->Ext w G.inner w2 G2->K (.pan c) { st with σ:=σ2 }->C3 ds ws Gs n K (.panic c) a w2:=by
        intro c σ2 w2 G2 p s B
        have hI:=h.call (tup:=false) p s 0
        exact⟨hdef,_,_,B,hI.ext,hI.store⟩
       unfold Oper.wp
       rw [g3 w]
       by_cases I:DM ops (Co ops) i=true
       . rw [Ç I] at he
         split at he
         . rename_i k more
           obtain⟨W,hfit,hpl,hkl,hvc⟩:=he
           have hgk:st.σ[k]?=some (st.σ.getD k []):=by simp [List.getD,hkl]
           refine (SB hgk hfit hpl hvc h.store.inner (hgl.ext h.ext).inner g1 g2).mono fun e w2 j=>?_
           obtain⟨x,cs',G2,hpe,B,g,p,s,E⟩:=j
           cases x with
           |ret r =>
            obtain⟨v,rfl,A,Z⟩:=g
            exact fin _ r v w2 G2 (fun tup d=>h.at_.callK p s d (fun q=>q != k) (fun k2 b2 hk2 J=>by
             have hne:k2≠k:=by simpa using hk2
             exact⟨by rw [List.getElem?_set_ne (Ę hne)],E k2 b2 J hne⟩)) A Z (fun _ k2 b2 hb hm=>E k2 b2 hb (by rintro rfl;exact hm (Gz.1 W))) B
           |pan c =>
            obtain rfl:e=.panicked c:=g
            exact pan c _ w2 G2 p s B
         . obtain⟨hpl,hvc⟩:=he
           refine (N8 hvc hpl h.store.inner (hgl.ext h.ext).inner g1 g2).mono fun e w2 j=>?_
           obtain⟨x,σ',G2,B,g,p,s,R⟩:=j
           cases x with
           |ret r =>
            obtain⟨v,rfl,A,Z⟩:=g
            exact fin _ _ v w2 G2 (fun tup d=>h.at_.callK p s d (fun _=>true) (fun k2 b2 _ J=>by
             have hl2:k2<st.σ.length:=by rw [<- h.store.len];exact (List.getElem?_eq_some_iff.1 J).1
             exact⟨Õ hl2,R b2 (h.store.lt (Ò J))⟩)) A Z (fun _ k2 b2 hb _=>R b2 (h.store.lt (Ò hb))) B
           |pan c =>
            obtain rfl:e=.panicked c:=g
            exact pan c _ w2 G2 p s B
       . rw [Ä I] at he
         refine (he w G.inner vs h.store.inner g1 g2 (Fl G) (hgl.ext h.ext).inner).mono fun e w2 j=>?_
         obtain⟨x,σ',G2,B,g,p,s⟩:=j
         cases x with
         |ret r =>
          obtain⟨v,rfl,A,Z⟩:=g
          exact fin _ r v w2 G2 (fun tup d=>h.at_.call p s d) A Z (fun hn2=>absurd hn2 I) B
         |pan c =>
          obtain rfl:e=.panicked c:=g
          exact pan c _ w2 G2 p s B
     . exact he.elim
def Ov (n k:Nat):Nat:=if k=n then n+1 else if k=n+1 then n else k
theorem Mu (n k:Nat):Ov n (Ov n k)=k:=by unfold Ov;split<;>split<;>(try split)<;>omega
def swG (n:Nat):Grow->Grow
 |.view (.cell k j)=>.view (.cell (Ov n k) j)
 |g=>g
mutual
def GR (n:Nat):PV->PV
 |.ptr b o=>.ptr (Ov n b) o
 |.agg l=>.agg (swL n l)
 |.tup l=>.tup (swL n l)
 |.fn f l=>.fn f (swL n l)
 |.fno b f l=>.fno b f l
 |.fnb f l=>.fnb f l
 |.lit v=>.lit v
 |.sl xs g=>.sl xs (swG n g)
 |.vptr l o=>.vptr l o
 |.ifc=>.ifc
 |.mref b=>.mref (Ov n b)
 |.mp kvs=>.mp kvs
 |.vmp kvs=>.vmp kvs
 |.mit kvs seen=>.mit kvs seen
 |.dis f=>.dis f
 |.asl b o m cap=>.asl (Ov n b) o m cap
 |.prv xs=>.prv xs
 |.undef=>.undef
def swL (n:Nat):List PV->List PV
 | []=>[]
 |p::l=>GR n p::swL n l
end
theorem FW (n:Nat):∀ l,swL n l=l.map (GR n)
 | []=>by rw [swL];rfl
 |p::l=>by rw [swL,FW n l];rfl
def QN {α:Type}(n:Nat)(l:List α):List α:=l.take n++(l.drop n).reverse
def swS (n:Nat)(st:St):St:=⟨st.env.map fun x=>(x.1,GR n x.2),(QN n st.σ).map fun l=>l.map (GR n)⟩
theorem O5 {α:Type}{n:Nat}{l:List α}(hl:l.length=n+2)(k:Nat):(QN n l)[Ov n k]?=l[k]?:=by
 grind [QN,Ov]
theorem Mt {α:Type}(n:Nat)(l:List α):(QN n l).Perm l:=by
 unfold QN
 have h:=(List.reverse_perm (l.drop n)).append_left (l.take n)
 rw [ă] at h
 exact h
theorem ZT (n:Nat)(p:PV):(GR n p).isM=p.isM:=by cases p<;>rw [GR]<;>rfl
theorem Afy {U:Nat->Nat->Prop}{φ:List Nat}{p:PV}{v:Value}{n:Nat}(h:V w U φ p v):∀ {φ':List Nat},(∀ (k x:Nat),φ[k]?=some x->φ'[Ov n k]?=some x)->V w U φ' (GR n p) v:=by
 induction h with
 |lit φ v=>intro φ' _;rw [GR];exact .lit _ _
 |agg φ l arr j h s ih =>
  intro φ' a
  rw [GR]
  refine .agg _ _ _ (by rw [FW,Î];exact j) (fun i q=>?_) s
  have d:i<l.length:=by rw [FW,Î] at q;exact q
  simp only [FW,é]
  exact ih i d a
 |tup φ l arr j h ih =>
  intro φ' a
  rw [GR]
  refine .tup _ _ _ (by rw [FW,Î];exact j) (fun i q=>?_)
  have d:i<l.length:=by rw [FW,Î] at q;exact q
  simp only [FW,é]
  exact ih i d a
 |nil φ g=>intro φ' _;rw [GR];exact .nil _ _
 |sl φ xs g b o sz cap us y z hs r u s B D C ih =>
  intro φ' _
  rw [GR]
  exact .sl _ _ _ b o sz cap us y z hs r u s B (fun e=>D (by cases g with|view l=>cases l<;>cases e|_=>first|rfl|cases e)) (fun e=>C (by cases g with|view l=>cases l<;>cases e|_=>first|rfl|cases e))
 |ptr φ b o k h=>intro φ' a;rw [GR];exact .ptr _ _ _ _ (a _ _ h)
 |prv φ xs A cap=>intro φ' _;rw [GR];exact .prv _ _ _ _
 |asl φ b o m cap k h y z=>intro φ' a;rw [GR];exact .asl _ _ _ _ _ _ (a _ _ h) y z
 |vptr φ cs b o' o us r u s B ih=>intro φ' _;rw [GR];exact .vptr _ _ _ _ _ us r u s B
 |fn φ f l arr j h ih =>
  intro φ' a
  rw [GR]
  refine .fn _ _ _ _ (by rw [FW,Î];exact j) (fun i q=>?_)
  have d:i<l.length:=by rw [FW,Î] at q;exact q
  simp only [FW,é]
  exact ih i d a
 |fno φ f caps arr j h ih=>intro φ' _;rw [GR];exact .fno _ _ _ _ j h
 |fnb φ f caps arr j h ih=>intro φ' _;rw [GR];exact .fnb _ _ _ _ j h
 |nof φ f caps=>intro φ' _;rw [GR];exact .nof _ _ _
 |ifc φ t v=>intro φ' _;rw [GR];exact .ifc _ _ _
 |mref φ b k h=>intro φ' a;rw [GR];exact .mref _ _ _ (a _ _ h)
 |mp φ kvs v=>intro φ' _;rw [GR];exact .mp _ _ _
 |vmp φ kvs b es c E u F hs=>intro φ' _;rw [GR];exact .vmp _ _ b es c E u F hs
 |mit φ kvs seen v=>intro φ' _;rw [GR];exact .mit _ _ _ _
 |dis φ f i v h ih=>intro φ' a;rw [GR];refine .dis _ _ i _ ?_;have:=ih a;rw [GR] at this;exact this
 |undef φ v=>intro φ' _;rw [GR];exact .undef _ _
 |emp φ g b o k C=>intro φ' _;rw [GR];exact .emp _ _ _ _ _ (fun e=>C (by cases g with|view l=>cases l<;>cases e|_=>first|rfl|cases e))
theorem Wt (n:Nat):∀ (env:List (Nat×PV)) (t:Nat),Cj (env.map fun x=>(x.1,GR n x.2)) t=GR n (Cj env t)
 | [],_=>by show PV.undef=GR n .undef;rw [GR]
 |(k,v)::r,t=>by
  show (if k=t then GR n v else Cj (r.map fun x=>(x.1,GR n x.2)) t)=GR n (if k=t then v else Cj r t)
  split
  . rfl
  . exact Wt n r t
def Mv (n:Nat):Loc->Loc
 |.cell k j=>.cell (Ov n k) j
 |l=>l
theorem Inv.sw {st:St}{tm:Nat->Value}{n:Nat}(h:Inv w0 G0 st tm w G)(hl:st.σ.length=n+2)(hn:G0.φ.length<=n):Inv w0 G0 (swS n st) tm w ⟨G.U,QN n G.φ,fun b=>(G.Ω b).map (Mv n)⟩:=by
 have r:G.φ.length=n+2:=by rw [h.store.len,hl]
 have F:∀ (k x:Nat),G.φ[k]?=some x->(QN n G.φ)[Ov n k]?=some x:=fun k x e=>(O5 r k).trans e
 have H:∀ {p:PV} {v:Value},V w G.U G.φ p v->V w G.U (QN n G.φ) (GR n p) v:=fun K=>Afy K F
 have a:∀ {l:Loc} {xs:List (List PV)} {v:Value},Az w G l xs v->Az w ⟨G.U,QN n G.φ,fun b=>(G.Ω b).map (Mv n)⟩ (Mv n l) xs v:=fun u=>u.to rfl (fun b hb=>by show (G.Ω b).map _=_;rw [hb];rfl)
 have d:∀ {l:Loc} {xs:List (List Value)} {v:Value},B9 w G l xs v->B9 w ⟨G.U,QN n G.φ,fun b=>(G.Ω b).map (Mv n)⟩ (Mv n l) xs v:=fun u=>u.to rfl (fun b hb=>by show (G.Ω b).map _=_;rw [hb];rfl)
 have f:∀ t,(swS n st).get t=GR n (st.get t):=fun t=>Wt n st.env t
 have y:∀ b,b∈QN n G.φ↔b∈G.φ:=fun b=>(Mt n G.φ).mem_iff
 have I:∀ k,(swS n st).σ[Ov n k]?=(st.σ[k]?).map fun l=>l.map (GR n):=fun k=>by
  show ((QN n st.σ).map _)[Ov n k]?=_
  rw [ç,O5 hl]
 obtain⟨ψ,J,C⟩:=h.ext.phi
 refine⟨⟨h.ext.os,h.ext.tape,h.ext.output,h.ext.size,h.ext.frame,h.ext.cells,h.ext.newU,fun b hb=>h.ext.newΩ b (fun e=>hb (by show (G.Ω b).map _=none;rw [e];rfl)),?_⟩,⟨?_,?_,fun k b cs L hc=>?_,h.store.ub,fun b hb=>?_⟩,⟨fun t=>?_,fun t=>?_⟩⟩
 . refine⟨(QN n G.φ).drop G0.φ.length,?_,fun c hc=>?_⟩
   . have e1:(QN n G.φ).take G0.φ.length=G0.φ:=by
      unfold QN
      rw [Ĩ (by rw [List.length_take];omega),List.take_take,Nat.min_eq_left hn,J,List.take_left']
      rfl
     show QN n G.φ=G0.φ++_
     conv=>rhs;lhs;rw [<- e1]
     rw [ă]
   . refine C c ?_
     unfold QN at hc
     rw [ĩ (by rw [List.length_take];omega)] at hc
     have e2:ψ=G.φ.drop G0.φ.length:=by rw [J,List.drop_left'];rfl
     rw [e2]
     rcases List.mem_append.1 hc with hc|hc
     . rw [List.drop_take] at hc
       exact ü hc
     . have:=List.mem_reverse.1 hc
       rw [show n=G0.φ.length+(n-G0.φ.length) by omega,<- ĥ] at this
       exact í this
 . show (QN n G.φ).length=((QN n st.σ).map _).length
   rw [Î,(Mt n G.φ).length_eq,(Mt n st.σ).length_eq];exact h.store.len
 . exact (Mt n G.φ).nodup_iff.2 h.store.nodup
 . have D:G.φ[Ov n k]?=some b:=by
    have:=O5 r (Ov n k)
    rw [Mu] at this
    exact this.symm.trans L
   have m:=I (Ov n k)
   rw [Mu,hc] at m
   cases e:st.σ[Ov n k]? with
   |none=>rw [e] at m;cases m
   |some l =>
    rw [e] at m
    obtain rfl:=Af m
    obtain⟨⟨o',arr',g1,⟨g2,g3⟩,g4⟩,g5⟩:=h.store.blk (Ov n k) b l D e
    refine⟨⟨o',arr',g1,⟨?_,by rw [Î];exact g3⟩,fun j c z=>?_⟩,g5⟩
    . rcases g2 with⟨k1,k2⟩|⟨kvs,es,c,rfl,k2,k3⟩|⟨kvs,seen,rfl,k2⟩
      . refine .inl ⟨k1,fun p E=>?_⟩
        obtain⟨q,M,rfl⟩:=List.mem_map.1 E
        rw [ZT];exact k2 q M
      . exact .inr (.inl ⟨kvs,es,c,by simp [GR],k2,k3⟩)
      . exact .inr (.inr ⟨kvs,seen,by simp [GR],k2⟩)
    . rw [ç] at z
      cases e:l[j]? with
      |none=>rw [e] at z;cases z
      |some q =>
       rw [e] at z
       obtain rfl:=Af z
       obtain⟨v,k1,k2,k3,k4⟩:=g4 j q e
       refine⟨v,k1,k2,H k3,?_⟩
       cases q with
       |prv xs =>
        rw [GR]
        have:=d k4
        rw [show Mv n (.cell (Ov n k) j)=.cell k j by unfold Mv;simp only [Mu]] at this
        exact this
       |sl xs g =>
        rw [GR]
        cases g with
        |own =>
         have:=a k4
         rw [show Mv n (.cell (Ov n k) j)=.cell k j by unfold Mv;simp only [Mu]] at this
         exact this
        |view l=>cases l<;>trivial
        |_=>trivial
       |_=>rw [GR];trivial
 . have:=h.store.ob b (fun e=>hb (by show (G.Ω b).map _=none;rw [e];rfl))
   exact⟨this.1,fun E=>this.2 ((y b).1 E)⟩
 . rw [f];exact H (h.env.v t)
 . rw [f]
   have o:=h.env.tag t
   cases e:st.get t with
   |prv xs =>
    rw [e] at o
    rw [GR]
    exact d o
   |sl xs g =>
    rw [e] at o
    rw [GR]
    cases g with
    |own=>exact a o
    |view l =>
     cases l with
     |tmp s=>exact⟨by rw [f,o.1,GR];rfl,o.2⟩
     |cell k j =>
      obtain⟨cs,b,u,N,O,P⟩:=o
      exact⟨cs.map (GR n),b,by rw [I,u];rfl,by rw [ç,N,ä,GR];rfl,F _ _ O,P⟩
     |tcomp _ _=>exact o.elim
     |ret _=>exact o.elim
    |_=>trivial
   |tup l =>
    rw [e] at o
    rw [GR,FW]
    intro i xs B
    rw [ç] at B
    cases e5:l[i]? with
    |none=>rw [e5] at B;cases B
    |some q =>
     rw [e5] at B
     have e6:q=.sl xs .own:=by
      have e7:=Af B
      cases q with
      |sl ys g =>
       rw [GR] at e7
       cases g with
       |view l=>cases l<;>cases e7
       |_=>exact e7
      |_=>rw [GR] at e7;cases e7
     obtain⟨a1,u1,g1,g2,g3⟩:=o i xs (by rw [e5,e6])
     exact⟨a1,u1,g1,g2,a g3⟩
   |_=>rw [GR];trivial
def Wx (P:Program)(ops:Array Oper)(N:Nat)(K:AX->St->Prop):OT->St->Prop
 |.done,st=>K .normal st
 |.one i t,st=>BH P ops [N,N+1] (KX K fun st'=>Wx P ops N K t st') [i] st
 |.or i sw t r,st=>BH P ops [N,N+1] (KX K fun st'=>match sw with
  |true=>st'.σ.length=N+2/\Wx P ops N K t (swS N st')
  |false=>Wx P ops N K t st') [i] st/\Wx P ops N K r st
 |.no,_=>True
def V4 (ops:Array Oper):OT->Bool
 |.done=>true
 |.one i t=>DW ops [i]&&V4 ops t
 |.or i _ t r=>DW ops [i]&&(V4 ops t&&V4 ops r)
 |.no=>true
theorem XM {U:Nat->Nat->Prop}{φ:List Nat}{n:Nat}(hl:φ.length=n+2):BA [n,n+1] w U φ=BA [n,n+1] w U (QN n φ):=by
 funext w1
 have key:∀ {φ φ':List Nat},(∀ (k b:Nat),φ'[k]?=some b->φ[Ov n k]?=some b)->BA [n,n+1] w U φ w1->BA [n,n+1] w U φ' w1:=fun a h=>by
  refine⟨h.1,fun k b hb c=>h.2 (Ov n k) b (a k b hb) ?_⟩
  simp only [List.mem_cons,List.not_mem_nil,or_false] at c ⊢
  unfold Ov
  split<;>(try split)<;>omega
 all_goals grind [Ov,BA,O5,Mu]
theorem IL {N:Nat}(hgl:Cu ws Gs)(hdst:∀ o∈ops.toList,∀ d,o.dst=some d->d<n)(hN:Gs.φ.length<=N):∀ (t:OT) (st:St) (a:Act) (w:World) (G:Gh),V4 ops t=true->Inv ws Gs st (AG a) w G->a.defers=ds->a.tmps.size=n->Wx P ops N K t st ->
 Kc P ops (C3 ds ws Gs n K) (Co ops) t (BA [N,N+1] w G.U G.φ) a w
 |.done,st,a,w,G,_,h,hdef,hsz,he=>⟨hsz,hdef,st,G,he,h⟩
 |.one i t,st,a,w,G,hc,h,hdef,hsz,he=>by
  unfold V4 at hc
  rw [Æ] at hc
  exact NS hgl hdst (X:=fun st'=>Wx P ops N K t st') (Y:=fun S a w=>Kc P ops (C3 ds ws Gs n K) (Co ops) t S a w) (fun st' a' w' G' hI hd hs hx=>IL hgl hdst hN t st' a' w' G' hc.2 hI hd hs hx) i st a w G hc.1 h hdef hsz he
 |.or i sw t r,st,a,w,G,hc,h,hdef,hsz,he=>by
  unfold V4 at hc
  rw [Æ,Æ] at hc
  refine⟨NS hgl hdst (Y:=fun S a w=>Kc P ops (C3 ds ws Gs n K) (Co ops) t S a w) (fun st' a' w' G' hI hd hs hx=>?_) i st a w G hc.1 h hdef hsz he.1,IL hgl hdst hN r st a w G hc.2.2 h hdef hsz he.2⟩
  cases sw with
  |false=>exact IL hgl hdst hN t st' a' w' G' hc.2.1 hI hd hs hx
  |true =>
   obtain⟨hl,hx⟩:=hx
   have hI2:=hI.sw (n:=N) hl hN
   have:=IL hgl hdst hN t _ a' w' _ hc.2.1 hI2 hd hs hx
   rw [XM (hI.store.len.trans hl)]
   exact this
 |.no,_,_,_,_,_,_,_,_,_=>trivial
def RZ (ops:Array Oper)(t:OT):Bool:=Region.noSelect ops&&(T1 ops (Co ops) t ops.size (Array.replicate ops.size false) none&&V4 ops t)
theorem RY {id:Nat}{t:OT}(hgl:Cu w0 G0)(hm:P.follows .mixedOrders=true)(hdst:∀ o∈ops.toList,∀ d,o.dst=some d->d<n)(hok:RZ ops t=true)(h:Inv w0 G0 st (AG a) w G)(hdef:a.defers=ds)(hsz:a.tmps.size=n)(he:Wx P ops st.σ.length K t st) :
 RW P (Code.region id ops true) (C3 ds w0 G0 n K) a w:=by
 unfold RZ at hok
 simp only [Æ] at hok
 obtain⟨f,g,i⟩:=hok
 have j:=IL (P:=P) (K:=K) (ws:=w.drew) (Gs:=G) ((hgl.ext h.ext).ext h.ext.drew0) hdst (N:=st.σ.length) (ÿ h.store.len) t st a w.drew G i h.drew.at_ hdef hsz he
 have b:RW P (Code.region id ops.toList.toArray true) (C3 ds w.drew G n K) a w:=by
  refine On (Co ops) t (BA [st.σ.length,st.σ.length+1] w.drew G.U G.φ) hm (by simpa using f) (by simpa using g) ?_ (BA.refl _ _ _ _) (by simpa using j)
  rintro c d v a' w' ⟨f,k⟩
  exact⟨by rw [put_defers] at f;exact f,k⟩
 rw [ë] at b
 exact b.mono fun e a' w' l=>l.since h.ext.drew
def Aax (ops:Array Oper)(i:Nat):Bool:=match ops[i]? with
 |some o=>match o.op with
  |.alloc _=>true
  |.box _ _=>true
  |_=>false
 |none=>false
def mkE (ops:Array Oper)(c:List Nat):Nat->Array Bool->List Nat->OT
 |0,_,_=>.done
 |n+1,D,done =>
  let rdy:=Region.ready .any ops D
  match rdy.find? (fun i=>(cl c i == 0||cl c i == 1)&&Region.free .any ops D i) with
  |some i=>.one i (mkE ops c n (D.setIfInBounds i true) done)
  |none=>match rdy with
   | []=>.done
   | [i]=>if Aax ops i&&done.any (fun j=>decide (i<j)) then .or i true (mkE ops c n (D.setIfInBounds i true) (i::done)) .no else .one i (mkE ops c n (D.setIfInBounds i true) (if Aax ops i then i::done else done))
   |l=>l.foldr (fun i r=>.or i (Aax ops i&&done.any (fun j=>decide (i<j))) (mkE ops c n (D.setIfInBounds i true) (if Aax ops i then i::done else done)) r) .no
def Td (ops:Array Oper):OT:=mkE ops (Co ops) ops.size (Array.replicate ops.size false) []
end
end Go.Vl
namespace Go.Vl
open Go Go.RowKit
def J0 (P:Program)(ops:Array Oper)(K:AX->St->Prop)(t:List Nat)(st:St):Prop :=
 if t.headD 0=9999 then BH P ops ((t.drop 2).take (t.getD 1 0)) K ((t.drop 2).drop (t.getD 1 0)) st
 else if t.headD 0=9998 then BH P ops ((t.drop 2).take (t.getD 1 0)) (Ei P ops K (t.drop (t.length-4))) (((t.drop 2).drop (t.getD 1 0)).take (t.length-6-t.getD 1 0)) st
 else if t.headD 0=9997 then BH P ops ((t.drop 2).take (t.getD 1 0)) (Ir P ops ((t.drop 2).take (t.getD 1 0)) (Ei P ops K (t.drop (t.length-4))) ((t.drop (t.length-6)).take 2)) (((t.drop 2).drop (t.getD 1 0)).take (t.length-8-t.getD 1 0)) st
 else if t.headD 0=9995 then Wx P ops st.σ.length K (Td ops) st
 else False
def Sc (ops:Array Oper)(t:List Nat):Bool:=if t.headD 0=9999 then Sb ops ((t.drop 2).drop (t.getD 1 0))
 else if t.headD 0=9998 then RX ops (((t.drop 2).drop (t.getD 1 0)).take (t.length-6-t.getD 1 0)) (t.drop (t.length-4))
 else if t.headD 0=9997 then M0 ops (((t.drop 2).drop (t.getD 1 0)).take (t.length-8-t.getD 1 0)) ((t.drop (t.length-6)).take 2) (t.drop (t.length-4))
 else if t.headD 0=9995 then RZ ops (Td ops)
 else false
section
variable {w w' w0 ws:World} {G G' G0 Gs:Gh} {P:Program} {st st':St} {a:Act} {o:Oper} {n:Nat} {ops:Array Oper} {K K':AX->St->Prop} {ds:List Deferred} {M:List Nat}
theorem QC {id:Nat}{t:List Nat}(hgl:Cu w0 G0)(hm:P.follows .mixedOrders=true)(hdst:∀ o∈ops.toList,∀ d,o.dst=some d->d<n)(hok:Sc ops t=true)(h:Inv w0 G0 st (AG a) w G)(hdef:a.defers=ds)(hsz:a.tmps.size=n)(he:J0 P ops K t st) :
 RW P (Code.region id ops true) (C3 ds w0 G0 n K) a w:=by
 grind [J0,Sc,Sa,RV,RU,RY]
theorem Tf {t:List Nat}{x:AX}(hk:∀ x st,K x st->K' x st)(h:Ei P ops K t x st):Ei P ops K' t x st:=by
 unfold Ei at h ⊢
 cases x with
 |normal =>
  have h:J4 P ops K t st:=h
  show J4 P ops K' t st
  unfold J4 at h ⊢
  split at h
  . grind [Ei,J4]
  . exact h.elim
 |_=>exact hk _ _ h
theorem Dc (hk:∀ x st,K x st->K' x st):∀ (l:List Nat) (st:St),BH P ops M K l st->BH P ops M K' l st
 | [],st,h=>hk _ _ h
 |i::rest,st,h=>by
  unfold BH at h ⊢
  split at h
  . exact h.elim
  . split at h
    . exact h.elim
    . exact Dc hk rest _ h
    . split at h
      . exact⟨h.1,h.2.1,Dc hk rest _ h.2.2⟩
      . split at h
        . split at h
          . rename_i hn
            rw [Ç hn]
            split at h
            . refine⟨h.1,h.2.1,h.2.2.1,h.2.2.2.1,h.2.2.2.2.mono fun x σ' hx=>?_⟩
              obtain⟨cs',e1,e2,e3,e4⟩:=hx
              refine⟨cs',e1,e2,e3,?_⟩
              cases x with
              |ret r=>exact Dc hk rest _ e4
              |pan c=>exact hk _ _ e4
            . refine⟨h.1,h.2.mono fun x σ' hx=>?_⟩
              cases x with
              |ret r=>exact Dc hk rest _ hx
              |pan c=>exact hk _ _ hx
          . rename_i hn
            rw [Ä hn]
            refine h.mono fun x σ' hx=>?_
            cases x with
            |ret r=>exact Dc hk rest _ hx
            |pan c=>exact hk _ _ hx
        . exact h.elim
theorem KC {N:Nat}{K':AX->St->Prop}(hk:∀ x st,K x st->K' x st):∀ (t:Go.Q.OT) (st:St),Wx P ops N K t st->Wx P ops N K' t st
 |.done,st,h=>hk _ _ h
 |.one i t,st,h=>Dc (fun x st h=>by
  cases x with
  |normal=>exact KC hk t _ h
  |_=>exact hk _ _ h) _ _ h
 |.or i sw t r,st,h=>⟨Dc (fun x st h=>by
  cases x with
  |normal =>
   cases sw with
   |true=>exact⟨h.1,KC hk t _ h.2⟩
   |false=>exact KC hk t _ h
  |_=>exact hk _ _ h) _ _ h.1,KC hk r st h.2⟩
 |.no,_,_=>trivial
theorem Te {l:List Nat}{x:AX}(hk:∀ x st,K x st->K' x st)(h:Ir P ops M K l x st):Ir P ops M K' l x st:=by
 unfold Ir at h ⊢
 all_goals grind [Ir,Dc]
end
end Go.Vl
namespace Go.Vl
open Go Go.RowKit
def Wk (N:Nat)(st st':St):Prop:=∀ (w0:World) (G0:Gh) (tm:Nat->Value) (w:World) (G:Gh),G0.φ.length<=N->Inv w0 G0 st tm w G->∃ G',Inv w0 G0 st' tm w G'
def FQ (N:Nat)(st:St)(X:St->Prop):Prop:=∀ (w0:World) (G0:Gh) (tm:Nat->Value) (w:World) (G:Gh),G0.φ.length<=N->Inv w0 G0 st tm w G->∃ st2 G',X st2/\Inv w0 G0 st2 tm w G'
theorem FQ.of {N:Nat}{st st2:St}{X:St->Prop}(h:Wk N st st2)(hx:X st2):FQ N st X:=fun w0 G0 tm w G hN h1=>by
 obtain⟨G',h2⟩:=h w0 G0 tm w G hN h1
 exact⟨st2,G',hx,h2⟩
theorem FQ.rfl {N:Nat}{st:St}{X:St->Prop}(hx:X st):FQ N st X:=fun _ _ _ _ G _ h=>⟨st,G,hx,h⟩
theorem FQ.mono {N:Nat}{st:St}{X Y:St->Prop}(h:FQ N st X)(hk:∀ st,X st->Y st):FQ N st Y:=fun w0 G0 tm w G hN h1=>by
 obtain⟨st2,G',h2,h3⟩:=h w0 G0 tm w G hN h1
 exact⟨st2,G',hk _ h2,h3⟩
theorem FQ.bind {N:Nat}{st:St}{X Y:St->Prop}(h:FQ N st X)(hk:∀ st,X st->FQ N st Y):FQ N st Y:=fun w0 G0 tm w G hN h1=>by
 obtain⟨st2,G',h2,h3⟩:=h w0 G0 tm w G hN h1
 exact hk _ h2 w0 G0 tm w G' hN h3
theorem FQ.pre {N:Nat}{st st0:St}{Y:St->Prop}(h:Wk N st st0)(hk:FQ N st0 Y):FQ N st Y:=fun w0 G0 tm w G hN h1=>by
 obtain⟨G',h2⟩:=h w0 G0 tm w G hN h1
 exact hk w0 G0 tm w G' hN h2
def MA (L:List Nat):PV->PV
 |.sl xs (.view (.tmp s))=>if L.contains s then .sl xs (.view (.tmp s)) else .sl xs .shared
 |p=>p
def clr (L:List Nat)(st:St):St:={ st with env:=L.map fun t=>(t,MA L (st.get t)) }
structure Cf where
 L:List Nat
 pl:List (Nat×List Nat):=[]
def Di:List (Nat×List Nat)->Nat->Option (List Nat)
 | [],_=>none
 |(k,t)::r,i=>if k=i then some t else Di r i
end Go.Vl
namespace Go.Vl
open Go Go.RowKit
section
variable {w w':World} {G:Gh} {P:Program} {f:FuncId} {σ:List (List PV)}
theorem Ay.below {U':Nat->Nat->Prop}(h:Ay w G σ)(hb:Below w.heap.size w w')(hU:∀ b i,U' b i->G.U b i∨w.heap.size<=b/\b<w'.heap.size)(hU2:∀ b i,G.U b i->U' b i):Ay w' { G with U:=U' } σ:=by
 have g:=hb.size
 refine⟨h.len,h.nodup,fun k b cs h1 o=>?_,fun b i a=>?_,fun b hB=>?_⟩
 . obtain⟨⟨T,arr,m,n,p⟩,q⟩:=h.blk k b cs h1 o
   have l:b<w.heap.size:=(Array.getElem?_eq_some_iff.1 m).1
   refine⟨⟨T,arr,(hb.block b l).trans m,⟨n.1.mono (fun b i a=>⟨hU2 b i a,Kp.of (hb.block b (h.ub b i a))⟩),n.2⟩,fun j c r=>?_⟩,fun i a=>?_⟩
   . obtain⟨v,s,t,u,f⟩:=p j c r
     refine⟨v,s,t,u.mono (fun b i a=>⟨hU2 b i a,Kp.of (hb.block b (h.ub b i a))⟩) (fun _ _ h=>h),?_⟩
     unfold Ca at f ⊢
     split
     . refine Az.keep f fun b2 d=>?_
       have e:=(h.ob b2 (by rw [d];simp)).1
       refine⟨d,hb.block b2 e,fun i a=>?_⟩
       rcases hU b2 i a with h|h
       . exact h
       . omega
     . refine B9.keep f fun b2 d=>?_
       have e:=(h.ob b2 (by rw [d];simp)).1
       refine⟨d,hb.block b2 e,fun i a=>?_⟩
       rcases hU b2 i a with h|h
       . exact h
       . omega
     . trivial
   . rcases hU b i a with h|h
     . exact q i h
     . omega
 . rcases hU b i a with h1|h1
   . exact ñ (h.ub b i h1) g
   . exact h1.2
 . have:=h.ob b hB
   exact⟨ñ this.1 g,this.2⟩
theorem Ext.ofBelow {U':Nat->Nat->Prop}(h:Ay w G σ)(hb:Below w.heap.size w w')(hU:∀ b i,U' b i->G.U b i∨w.heap.size<=b/\b<w'.heap.size)(hU2:∀ b i,G.U b i->U' b i):Ext w G w' { G with U:=U' }:=by
 refine⟨hb.os,hb.tape,hb.output,hb.size,fun k c _ _=>hb.block k c,fun b i a=>⟨hU2 b i a,Kp.of (hb.block b (h.ub b i a))⟩,fun b i a=>?_,fun b hB=>.inr hB,[],by simp,by simp⟩
 all_goals grind
end
def Li (P:Program)(o:Oper)(st:St)(X:St->Prop):Prop :=
 match o.op,o.dst,o.guard with
 |.convert s d x,some t,none=>match Ck st x with
  |.lit (.string bs)=>Km P s=true/\u8T P d=true/\bs.size<=140737488355328/\X ((st.aft st.σ).put (some t) (.sl (Ct bs) .shared))
  |_=>False
 |_,_,_=>False
def Abc (P:Program)(N:Nat)(ops:Array Oper)(K:AX->St->Prop)(l2:List Oper):AX->St->Prop
 |.normal,st=>(∃ st2,Wk N st st2/\B1 P ops K l2 st2)∨∃ o rest,l2=o::rest/\Li P o st fun st2=>B1 P ops K rest st2
 |x,st=>K x st
def W (P:Program)(L:Cf)(N:Nat):Code->(AX->St->Prop)->St->Prop
 |.skip,K,st=>K .normal st
 |.label _,K,st=>K .normal st
 |.region id ops _,K,st=>match Di L.pl id with
  |none=>B1 P ops (fun x st'=>K x (match x with|.normal=>clr L.L st'|_=>st')) ops.toList st
  |some t=>if t.headD 0=9996 then B1 P ops (Abc P N ops (fun x st'=>K x (match x with|.normal=>clr L.L st'|_=>st')) (ops.toList.drop (t.getD 1 0))) (ops.toList.take (t.getD 1 0)) st
   else J0 P ops (fun x st'=>K x (match x with|.normal=>clr L.L st'|_=>st')) t st
 |.seq a b,K,st=>W P L N a (fun x st'=>match x with|.normal=>FQ N st' (W P L N b K)|x=>K x st') st
 |.cond c a b,K,st=>match Ck st c with
  |.lit (.bool t)=>if t=true then FQ N st (W P L N a K) else FQ N st (W P L N b K)
  |_=>False
 |.block id b,K,st=>W P L N b (fun x st'=>match x with|.exit i=>if i=id then K .normal st' else K (.exit i) st'|x=>K x st') st
 |.loop b,K,st=>∃ I:Nat->St->Prop,(∃ m st0,Wk N st st0/\I m st0)/\∀ m st1,I m st1->FQ N st1 (W P L N b (fun x st'=>match x with|.normal=>∃ m' st2,Wk N st' st2/\I m' st2/\m'<m|x=>K x st'))
 |.exit id,K,st=>K (.exit id) st
 |.ret,K,st=>K .ret st
 |_,_,_=>False
def Cc (pl:List (Nat×List Nat))(n:Nat):Code->Bool
 |.region id ops draw=>ops.toList.all (fun o=>match o.dst with|some d=>decide (d<n)|none=>true)&&match Di pl id with
  |none=>!draw||V0 ops
  |some t=>if t.headD 0=9996 then !draw else draw&&Sc ops t
 |.seq a b=>Cc pl n a&&Cc pl n b
 |.cond _ a b=>Cc pl n a&&Cc pl n b
 |.block _ b=>Cc pl n b
 |.loop b=>Cc pl n b
 |_=>true
section
variable {w w' w0:World} {G G' G0:Gh} {P:Program} {st st':St} {a:Act} {n N:Nat} {K:AX->St->Prop} {ds:List Deferred} {L:Cf} {tm:Nat->Value}
theorem Sq (L:List Nat)(st:St)(t:Nat):(clr L st).get t=if t∈L then MA L (st.get t) else .undef:=by
 show Cj (L.map fun t=>(t,MA L (st.get t))) t=_
 have key:∀ (M:List Nat),Cj (M.map fun t=>(t,MA L (st.get t))) t=if t∈M then MA L (st.get t) else .undef:=by
  intro M
  induction M with
  |nil=>rfl
  |cons x r ih =>
   show (if x=t then MA L (st.get x) else Cj (r.map fun t=>(t,MA L (st.get t))) t)=_
   by_cases e:x=t
   . subst e;simp
   . grind
 exact key L
theorem Inv.clr (h:Inv w0 G0 st tm w G)(L:List Nat):Inv w0 G0 (clr L st) tm w G:=by
 refine⟨h.ext,h.store,⟨fun t=>?_,fun t=>?_⟩⟩
 . rw [Sq]
   split
   . have b:=h.env.v t
     revert b
     generalize st.get t=q
     intro b
     unfold MA
     split
     . split
       . exact b
       . exact b.tag (by simp) (by simp)
     . exact b
   . exact .undef _ _
 . rw [Sq]
   split
   . have a:=h.env.tag t
     revert a
     generalize st.get t=q
     intro a
     unfold MA
     split
     . rename_i xs s
       split
       . rename_i hs
         refine⟨?_,a.2⟩
         rw [Sq,Ç (by simpa using hs),a.1];rfl
       . trivial
     . rename_i c
       cases q with
       |sl xs g =>
        cases g with
        |view m =>
         cases m with
         |tmp s=>exact absurd rfl (c xs s)
         |cell k j=>exact a
         |_=>exact a
        |_=>exact a
       |_=>exact a
   . trivial
theorem Wk.refl (N:Nat)(st:St):Wk N st st:=fun _ _ _ _ G _ h=>⟨G,h⟩
theorem Wk.trans {a b c:St}(h:Wk N a b)(k:Wk N b c):Wk N a c:=fun w0 G0 tm w G hN h1=>by
 obtain⟨G',h2⟩:=h w0 G0 tm w G hN h1
 exact k w0 G0 tm w G' hN h2
theorem Wk.clr (N:Nat)(L:List Nat)(st:St):Wk N st (Vl.clr L st):=fun _ _ _ _ G _ h=>⟨G,h.clr L⟩
theorem Vv {o:Oper}{X:St->Prop}{next:Act->World->Prop}{Q:Exit->Act->World->Prop}(h:Inv w0 G0 st (AG a) w G)(hd:∀ d,o.dst=some d->d<a.tmps.size)(he:Li P o st X)
 (hn:∀ st' v w' G',Inv w0 G0 st' (AG (a.put o.dst v)) w' G'->X st'->next (a.put o.dst v) w'):o.wp P a w next Q:=by
 unfold Li at he
 split at he
 . rename_i s d x t C k S
   split at he
   . rename_i bs J
     obtain⟨hs,K,L,hX⟩:=he
     have f:=Bz (a:=a) h.env x
     rw [J] at f
     have D:a.eval x=.string bs:=by
      revert f;generalize a.eval x=z;intro f
      cases f;rfl
     have M:P.underlying s=some .string:=by unfold Km at hs;split at hs<;>simp_all
     obtain⟨e,N,O⟩:∃ e,P.underlying d=some (.slice e)/\P.underlying e=some (.int .u8):=by
      grind [u8T]
     have l:=run_bytes_of_string (P:=P) w s d e bs M N O
     have c:=grownCap_le_maxLen w bs.size 0 e (by unfold maxLen;omega)
     have p:=grownCap_ge w bs.size 0 e
     unfold maxLen at c
     generalize grownCap w bs.size 0 e=cap at l c p
     let ob:Obj:=.cells (bytesRow bs cap) e ((bytesRow bs cap).size,(bytesRow bs cap).size+1)
     have hb:Below w.heap.size w (w.drew.alloc ob):=Below.alloc (⟨rfl,rfl,rfl,Ü _,fun _ _=>rfl⟩:Below w.heap.size w w.drew) (Ü _) _
     have q:(w.drew.alloc ob).heap[w.heap.size]?=some ob:=by show (w.heap.push ob)[w.heap.size]?=_;simp
     have I:(w.drew.alloc ob).heap.size=w.heap.size+1:=by show (w.heap.push ob).size=_;simp
     let U':Nat->Nat->Prop:=fun b i=>G.U b i∨(b=w.heap.size/\i<bs.size)
     have u:∀ b i,U' b i->G.inner.U b i∨w.heap.size<=b/\b<(w.drew.alloc ob).heap.size:=fun b i y=>by
      rcases y with y|⟨rfl,_⟩
      . exact .inl y
      . exact .inr ⟨Ü _,by omega⟩
     have A:∀ b i,G.inner.U b i->U' b i:=fun _ _ y=>.inl y
     have hS:=h.store.inner.below hb u A
     have hE:=Ext.ofBelow h.store.inner hb u A
     have R:V (w.drew.alloc ob) U' G.φ (.sl (Ct bs) .shared) (.slice (some ⟨w.heap.size,0,none⟩) bs.size cap):=by
      have B:(Ct bs).length=bs.size:=by
       show (bs.data.toList.map _).length=bs.data.size
       rw [Î,Array.length_toList]
      rw [<- B]
      refine .sl _ _ _ w.heap.size 0 1 cap (fun i _=>.int .u8 ((bs.data.toList.getD i 0).toNat:Int)) (by rw [B];exact p) c (fun i m=>by simp [Ct]) (fun i j m E=>.inr ⟨rfl,by rw [<- B];omega⟩) (fun i j m E=>?_) (fun _ _ _ _=>rfl) (fun i m j E=>?_) (by simp) (by simp)
      . have g:i<bs.data.size:=by rw [B] at m;exact m
        have n:0+i*1+j=i:=by omega
        rw [n]
        have F:=bytesRow_at bs cap i g
        have H:bs.data.toList.getD i 0=bs.data[i]:=by rw [List.getD,Ą,à g];rfl
        rw [H]
        unfold World.cell?
        rw [q]
        show (if (none:Option Nat).isSome=true then none else (bytesRow bs cap)[i]?)=_
        rw [Ä (by simp)]
        exact F
      . have g:i<bs.data.toList.length:=by rw [B] at m;rw [Array.length_toList];exact m
        have n:j=0:=by simp [Ct] at E;omega
        subst n
        simp only [Ct,é,ĕ]
        have:bs.data.toList.getD i 0=bs.data.toList[i]:=by rw [List.getD,Ã g];rfl
        rw [this]
        exact .lit _ _
     have hI:=(h.call (tup:=P5 (.sl (Ct bs) .shared)) hS hE t).putRet (r:=.sl (Ct bs) .shared) (v:=.slice (some ⟨w.heap.size,0,none⟩) bs.size cap) R trivial
     unfold Oper.wp
     have er:(execOp a.eval o).run P w=.ok (.value (.slice (some ⟨w.heap.size,0,none⟩) bs.size cap)) (w.drew.alloc ob):=by unfold execOp;rw [C];simp only [Ð,D,l,Ê,Ö];rfl
     rw [er]
     exact hn _ _ _ _ (by rw [k,Bm (hd t k)];exact hI) hX
   . exact he.elim
 . exact he.elim
theorem Ge {ops:Array Oper}(hgl:Cu w0 G0)(hN:G0.φ.length<=N)(l2:List Oper)(hd2:∀ o∈l2,∀ d,o.dst=some d->d<n):∀ (l:List Oper) (st:St) (a:Act) (w:World) (G:Gh),Inv w0 G0 st (AG a) w G->a.defers=ds->a.tmps.size=n->(∀ o∈l,∀ d,o.dst=some d->d<n)->B1 P ops (Abc P N ops K l2) l st ->
 wpList P ops (C3 ds w0 G0 n K) (l++l2) a w
 | [],st,a,w,G,h,hdef,hsz,_,he=>by
  rcases he with⟨st2,k1,k2⟩|⟨o,rest,rfl,k2⟩
  . obtain⟨G2,h2⟩:=k1 w0 G0 _ w G hN h
    exact Eg hgl l2 st2 a w G2 h2 hdef hsz hd2 k2
  . have hdo:∀ d,o.dst=some d->d<a.tmps.size:=fun d hdd=>by rw [hsz];exact hd2 o (by simp) d hdd
    show wpList P ops _ (o::rest) a w
    unfold wpList
    have hgn:o.guard=none:=by
     unfold Li at k2
     split at k2
     . rename_i i;exact i
     . exact k2.elim
    rw [show Region.wanted o (yielded ops a.tmps)=true from Dd (b:=true) h.env (by unfold Cy;rw [hgn])]
    simp only [ø]
    left
    exact Vv h hdo k2 fun st2 v w' G' hI hX=>Eg hgl rest _ _ w' G' hI (by rw [put_defers];exact hdef) (by rw [Bw];exact hsz) (fun o k=>hd2 o (by simp [k])) hX
 |o::rest,st,a,w,G,h,hdef,hsz,t,he=>by
  have hdo:∀ d,o.dst=some d->d<a.tmps.size:=fun d hdd=>by rw [hsz];exact t o (by simp) d hdd
  have e:∀ o∈rest,∀ d,o.dst=some d->d<n:=fun o k=>t o (by simp [k])
  unfold B1 at he
  rw [List.cons_append]
  unfold wpList
  split at he
  . exact he.elim
  . rename_i i
    rw [Dd h.env i]
    simp only [â,û]
    exact Ge hgl hN l2 hd2 rest _ _ w G (h.skipPut hdo) (by rw [put_defers];exact hdef) (by rw [Bw];exact hsz) e he
  . rename_i i
    rw [Dd h.env i]
    simp only [ø]
    left
    split at he
    . rename_i c st2 m
      obtain⟨rfl,p⟩:=he
      exact Sv h hdo m (fun v w' G' hI=>Ge hgl hN l2 hd2 rest _ _ w' G' hI (by rw [put_defers];exact hdef) (by rw [Bw];exact hsz) e p)
    . split at he
      . rename_i f args g
        exact NC (KR:=fun r σ'=>B1 P ops (Abc P N ops K l2) rest ((st.aft σ').put o.dst r)) (KP:=fun c σ'=>K (.pan c) { st with σ:=σ' }) hgl h hdo hdef g he
         (fun r σ' v w' G' q hI=>Ge hgl hN l2 hd2 rest _ _ w' G' hI (by rw [put_defers];exact hdef) (by rw [Bw];exact hsz) e q)
         (fun c σ' w' G' q s hE hS=>⟨s,_,G',q,hE,hS⟩)
      . split at he
        . rename_i v j
          unfold Oper.wp
          rw [NA h.env j w]
          exact⟨hdef,st,G,he,h.ext,h.store⟩
        . exact S5 h hdo he fun st2 v w' G' hI hX=>Ge hgl hN l2 hd2 rest _ _ w' G' hI (by rw [put_defers];exact hdef) (by rw [Bw];exact hsz) e hX
theorem Qn {r:Option Nat}(hgl:Cu w0 G0)(hm:P.follows .mixedOrders=true)(hN:G0.φ.length<=N):∀ (c:Code) (K:AX->St->Prop) (st:St) (a:Act) (w:World) (G:Gh),Cc L.pl n c=true->(r≠none->CN c=true)->Inv w0 G0 st (AG a) w G->a.defers=ds->a.tmps.size=n->W P L N c K st->c.wpIn (F0 r) 0 P (C3 ds w0 G0 n K) a w:=by
 intro c
 induction c with
 |skip=>intro K st a w G _ _ h q hs f;exact wpIn_skip ⟨hs,q,st,G,f,h⟩
 |label l=>intro K st a w G _ _ h q hs f;exact wpIn_label ⟨hs,q,st,G,f,h⟩
 |exit id=>intro K st a w G _ _ h q hs f;exact wpIn_exit ⟨hs,q,st,G,f,h⟩
 |ret=>intro K st a w G _ _ h q hs f;exact wpIn_ret ⟨hs,q,st,G,f,h⟩
 |region id ops draw =>
  intro K st a w G g s h q hs f
  simp only [Cc,Æ,Ú] at g
  obtain⟨R,p⟩:=g
  have F:∀ o∈ops.toList,∀ d,o.dst=some d->d<n:=fun o S d V=>by have:=R o S;rw [V] at this;simpa using this
  have T:RW P (Code.region id ops draw) (C3 ds w0 G0 n (fun x st'=>K x (match x with|.normal=>clr L.L st'|_=>st'))) a w:=by
   unfold W at f
   split at f
   . grind [RT]
   . rename_i t j
     rw [j] at p
     simp only at p
     split at f
     . rename_i X
       rw [Ç X] at p
       obtain rfl:draw=false:=by simpa using p
       have:=Ge (P:=P) hgl hN (ops.toList.drop (t.getD 1 0)) (fun o S=>F o (í S)) _ st a w G h q hs (fun o S=>F o (ü S)) f
       rw [ă] at this
       exact Wa this
     . rename_i X
       rw [Ä X,Æ] at p
       rw [p.1]
       exact QC hgl hm F p.2 h q hs f
  refine wpIn_mono (T r fun v=>⟨s v,fun ⟨_,_,k⟩=>k⟩) fun e a' w' j=>?_
  cases e with
  |normal=>obtain⟨B,D,st2,G2,H,E⟩:=j;exact⟨B,D,_,G2,H,E.clr L.L⟩
  |exit id=>exact j
  |ret=>exact j
  |panic c=>exact j
  |goto l=>exact j
  |outgrown=>exact j
 |seq x y J M =>
  intro K st a w G g s h q hs f
  simp only [Cc,Æ] at g
  have u:r≠none->CN x=true/\CN y=true:=fun v=>by have:=s v;simpa [CN] using this
  refine wpIn_seq (wpIn_mono (J _ st a w G g.1 (fun v=>(u v).1) h q hs f) fun e a' w' j=>?_)
  cases e with
  |normal =>
   obtain⟨B,D,st2,G2,Y,E⟩:=j
   obtain⟨st3,G3,H,A⟩:=Y w0 G0 _ w' G2 hN E
   exact M K st3 a' w' G3 g.2 (fun v=>(u v).2) A D B H
  |exit id=>exact j
  |ret=>exact j
  |panic c=>exact j
  |goto l=>exact j
  |outgrown=>exact j
 |cond c x y J M =>
  intro K st a w G g s h q hs f
  simp only [Cc,Æ] at g
  unfold W at f
  have U:=Bz (a:=a) h.env c
  split at f
  . rename_i t ht
    rw [ht] at U
    have hc:a.eval c=.bool t:=by
     revert U;generalize a.eval c=z;intro U
     cases U with
     |lit _ _=>rfl
    have u:r≠none->CN x=true/\CN y=true:=fun v=>by have:=s v;simpa [CN] using this
    refine wpIn_cond hc ?_
    cases t with
    |true =>
     simp only [ø] at f ⊢
     obtain⟨st3,G3,f,A⟩:=f w0 G0 _ w G hN h
     exact J K st3 a w G3 g.1 (fun v=>(u v).1) A q hs f
    |false =>
     simp only [â,û] at f ⊢
     obtain⟨st3,G3,f,A⟩:=f w0 G0 _ w G hN h
     exact M K st3 a w G3 g.2 (fun v=>(u v).2) A q hs f
  . exact f.elim
 |block id b ih =>
  intro K st a w G g s h q hs f
  refine wpIn_block (wpIn_mono (ih _ st a w G g s h q hs f) fun e a' w' j=>?_)
  cases e with
  |normal=>exact j
  |exit i =>
   obtain⟨B,D,st2,G2,H,E⟩:=j
   have A:(if i=id then K .normal st2 else K (.exit i) st2):=H
   show (if i=id then C3 ds w0 G0 n K .normal a' w' else C3 ds w0 G0 n K (.exit i) a' w')
   by_cases e:i=id
   . rw [Ç e] at A ⊢;exact⟨B,D,st2,G2,A,E⟩
   . rw [Ä e] at A ⊢;exact⟨B,D,st2,G2,A,E⟩
  |ret=>exact j
  |panic c=>exact j
  |goto l=>exact j
  |outgrown=>exact j
 |loop b ih =>
  intro K st a w G g s h q hs f
  obtain⟨I,⟨m,st0,O,hI⟩,C⟩:=f
  obtain⟨G1,B⟩:=O w0 G0 _ w G hN h
  refine Qx (fun m a w=>a.tmps.size=n/\a.defers=ds/\∃ st G,I m st/\Inv w0 G0 st (AG a) w G) (m:=m) ⟨hs,q,st0,G1,hI,B⟩ ?_
  rintro m a w ⟨hs,q,st1,G,hI,h⟩
  obtain⟨st4,G4,Z,h⟩:=C m st1 hI w0 G0 _ w G hN h
  refine wpIn_mono (ih _ st4 a w G4 g s h q hs Z) fun e a' w' j=>?_
  cases e with
  |normal =>
   obtain⟨B,D,st2,G2,⟨m',st3,O,H,E⟩,A⟩:=j
   obtain⟨G3,h6⟩:=O w0 G0 _ w' G2 hN A
   exact⟨m',E,B,D,st3,G3,H,h6⟩
  |exit id=>exact j
  |ret=>exact j
  |panic c=>exact j
  |goto l=>exact j
  |outgrown=>exact j
 |_=>intro K st a w G g s h q hs f;exact f.elim
theorem SJ (hgl:Cu w0 G0)(hm:P.follows .mixedOrders=true)(hN:G0.φ.length<=N)(c:Code)(K:AX->St->Prop)(st:St)(a:Act)(w:World)(G:Gh)(hok:Cc L.pl n c=true)(h:Inv w0 G0 st (AG a) w G)(hd:a.defers=ds)(hs:a.tmps.size=n)(hw:W P L N c K st):c.wp P (C3 ds w0 G0 n K) a w :=
 (wpIn_wide (n:=0)).1 (Qn (r:=none) hgl hm hN c K st a w G hok (fun hn=>absurd rfl hn) h hd hs hw)
end
end Go.Vl
namespace Go.Vl
open Go Go.RowKit
def GC (st:St)(t:Nat):PV×St :=
 match st.get t with
 |.sl xs .own=>(.sl xs .own,st.put (some t) (.sl xs .shared))
 |.sl xs (.view (.tmp s))=>(.sl xs .own,st.put (some s) (.sl xs .shared))
 |.sl [] .nil=>(.sl [] .own,st)
 |.sl xs .full=>(.sl xs .full,st)
 |.agg cs=>(.agg (cs.map Bf),st)
 |p=>(Bf p,st)
def YS (P:Program)(st:St):ResultVar->Option (Bool×PV×St)
 |.tmp t=>some (true,GC st t)
 |.cell a t=>(J3 P t st.σ (st.get a)).map fun r=>(r.1,Bf r.2,st)
def Jz (P:Program):List ResultVar->St->Option (Bool×List PV×St)
 | [],st=>some (true,[],st)
 |r::rs,st=>match YS P st r with
  |some (c,p,st1)=>(Jz P rs st1).map fun x=>(c&&x.1,p::x.2.1,x.2.2)
  |none=>none
def L3:List PV->PV
 | [p]=>p
 |ps=>.tup ps
def DH (N:Nat):List (List PV)->Bool
 | []=>true
 |cs::r=>PV.fitsL N cs&&DH N r
def HY (N:Nat)(p:PV)(σ:List (List PV)):List (List PV):=if Nat.ble σ.length N=true then σ else if p.fits N&&DH N (σ.take N) then σ.take N else σ
def C6 (P:Program)(fn:Func)(N:Nat)(Q:Cb->List (List PV)->Prop)(x:AX)(st:St):Prop :=
 match x with
 |.normal=>match Jz P fn.results.toList st with
  |some (c,ps,st')=>c=true/\Q (.ret (L3 ps)) (HY N (L3 ps) st'.σ)
  |none=>False
 |.ret=>match Jz P fn.results.toList st with
  |some (c,ps,st')=>c=true/\Q (.ret (L3 ps)) (HY N (L3 ps) st'.σ)
  |none=>False
 |.pan c=>Q (.pan c) (HY N .undef st.σ)
 |.exit _=>False
def wkK (N:Nat)(Q:AX->St->Prop)(x:AX)(st:St):Prop :=
 match x with
 |.pan c=>Q (.pan c) st
 |x=>FQ N st (Q x)
theorem U1 {N:Nat}{Q:AX->St->Prop}(x:AX)(st:St)(h:Q x st):wkK N Q x st:=by
 cases x with
 |pan c=>exact h
 |_=>exact FQ.rfl h
def HR (args:List PV)(σ:List (List PV)):St:={ env:=args.zipIdx.map fun x=>(x.2,Bf x.1),σ }
section
variable {w w' w0:World} {G G' G0:Gh} {P:Program} {st st':St} {a:Act} {n N:Nat} {p:PV} {v:Value}
theorem Ti {t i:Nat}(h:Inv w0 G0 st (AG a) w G):∃ G',V w G'.U G'.φ (GC st t).1 (AG a t)/\(∀ xs,(GC st t).1=.sl xs .own->Az w G' (.ret i) xs (AG a t))/\((∀ xs l,(GC st t).1≠.sl xs (.view l))/\(∀ cs,(GC st t).1≠.tup cs)/\∀ xs,(GC st t).1≠.prv xs) /\
 Inv w0 G0 (GC st t).2 (AG a) w G'/\(∀ b k,G.Ω b=some (.ret k)->G'.Ω b=some (.ret k))/\G'.U=G.U/\G'.φ=G.φ:=by
 have c:=h.env.v t
 have f:=h.env.tag t
 unfold GC
 split
 . rename_i xs d
   rw [d] at c f
   have g:=(h.share d).rel (.tmp t) (.ret i) (fun ys e=>by rw [AP,B7,Ç rfl] at e;cases e) (fun ys e=>by rw [AP,B7,Ç rfl] at e;cases e)
   refine⟨G.rel (.tmp t) (.ret i),c,fun ys e=>?_,⟨fun _ _ e=>?_,fun _ e=>?_,fun _ e=>?_⟩,g,fun b k hb=>HJ (by simp) b hb,rfl,rfl⟩
   . cases e;exact Az.to f rfl Fv
   . cases e
   . cases e
   . cases e
 . rename_i xs s d
   rw [d] at c f
   have j:=h.env.tag s
   rw [f.1] at j
   have g:=(h.share f.1).rel (.tmp s) (.ret i) (fun ys e=>by rw [AP,B7,Ç rfl] at e;cases e) (fun ys e=>by rw [AP,B7,Ç rfl] at e;cases e)
   refine⟨G.rel (.tmp s) (.ret i),c.tag (by simp) (by simp),fun ys e=>?_,⟨fun _ _ e=>?_,fun _ e=>?_,fun _ e=>?_⟩,g,fun b k hb=>HJ (by simp) b hb,rfl,rfl⟩
   . cases e;rw [<- f.2];exact Az.to j rfl Fv
   . cases e
   . cases e
   . cases e
 . rename_i d
   rw [d] at c
   obtain⟨_,m⟩:=KZ c
   rw [m]
   refine⟨G,.nil _ _,fun ys e=>?_,⟨fun _ _ e=>?_,fun _ e=>?_,fun _ e=>?_⟩,h,fun b k hb=>hb,rfl,rfl⟩
   . cases e;exact .inl ⟨rfl,rfl⟩
   . cases e
   . cases e
   . cases e
 . rename_i xs d
   rw [d] at c
   refine⟨G,c,fun ys e=>?_,⟨fun _ _ e=>?_,fun _ e=>?_,fun _ e=>?_⟩,h,fun b k hb=>hb,rfl,rfl⟩<;>cases e
 . rename_i cs d
   rw [d] at c
   refine⟨G,?_,fun ys e=>?_,⟨fun _ _ e=>?_,fun _ e=>?_,fun _ e=>?_⟩,h,fun b k hb=>hb,rfl,rfl⟩
   . revert c
     generalize AG a t=z
     intro c
     cases c with
     |agg _ _ arr n o g=>exact .agg _ _ arr (by simpa using n) (fun i p=>by simp only [é];exact Cp (o i (by simpa using p))) g
   . cases e
   . cases e
   . cases e
   . cases e
 . refine⟨G,Cp c,fun ys e=>?_,⟨fun ys l e=>?_,fun cs e=>?_,fun xs e=>?_⟩,h,fun b k hb=>hb,rfl,rfl⟩
   . have e:Bf (st.get t)=_:=e
     have:=Bp (st.get t);rw [e] at this;cases this
   . have e:Bf (st.get t)=_:=e
     have:=Bp (st.get t);rw [e] at this;cases this
   . have e:Bf (st.get t)=_:=e
     have:=Bp (st.get t);rw [e] at this;cases this
   . have e:Bf (st.get t)=_:=e
     have:=Bp (st.get t);rw [e] at this;cases this
def Tp (tmps:Array Value):ResultVar->Sem Value
 |.tmp t=>pure (tmps.getD t Go.undef)
 |.cell a t=>do loadVar t (<- asAddr (tmps.getD a Go.undef))
theorem Mb:∀ (rs:List ResultVar) (i:Nat) (st:St) (G:Gh) (ps:List PV) (st':St),Inv w0 G0 st (AG a) w G->Jz P rs st=some (true,ps,st') ->
 ∃ vs G',(rs.mapM (Tp a.tmps)).run P w=.ok vs w/\vs.length=ps.length/\(∀ (j:Nat) (p:PV) (v:Value),ps[j]?=some p->vs[j]?=some v->V w G'.U G'.φ p v/\(∀ xs,p=.sl xs .own->Az w G' (.ret (i+j)) xs v)/\((∀ xs l,p≠.sl xs (.view l))/\(∀ cs,p≠.tup cs)/\∀ xs,p≠.prv xs)) /\
  Inv w0 G0 st' (AG a) w G'/\(∀ b k,G.Ω b=some (.ret k)->G'.Ω b=some (.ret k))/\G'.U=G.U/\G'.φ=G.φ
 | [],i,st,G,ps,st',h,he=>by
  simp only [Jz,Â,È,õ] at he
  obtain⟨rfl,rfl⟩:=he
  exact⟨[],G,rfl,rfl,fun j p v hp=>by simp at hp,h,fun b k hb=>hb,rfl,rfl⟩
 |r::rs,i,st,G,ps,st',h,he=>by
  unfold Jz at he
  split at he
  . rename_i c p st1 hr
    cases hrs:Jz P rs st1 with
    |none=>rw [hrs] at he;cases he
    |some x =>
     obtain⟨c2,ps2,st2⟩:=x
     rw [hrs] at he
     simp only [ä,Â,È,Æ] at he
     obtain⟨⟨rfl,rfl⟩,rfl,rfl⟩:=he
     have step:∃ v G1,(Tp a.tmps r).run P w=.ok v w/\V w G1.U G1.φ p v/\(∀ xs,p=.sl xs .own->Az w G1 (.ret i) xs v)/\((∀ xs l,p≠.sl xs (.view l))/\(∀ cs,p≠.tup cs)/\∀ xs,p≠.prv xs)/\Inv w0 G0 st1 (AG a) w G1/\(∀ b k,G.Ω b=some (.ret k)->G1.Ω b=some (.ret k))/\G1.U=G.U/\G1.φ=G.φ:=by
      unfold YS at hr
      split at hr
      . rename_i t
        simp only [Â,È,õ] at hr
        obtain⟨G1,k1,k2,k3,k4,k5,k6,k7⟩:=Ti (t:=t) (i:=i) h
        have e1:(GC st t).1=p:=by rw [hr]
        have e2:(GC st t).2=st1:=by rw [hr]
        rw [e1] at k1 k2 k3
        rw [e2] at k4
        exact⟨AG a t,G1,rfl,k1,k2,k3,k4,k5,k6,k7⟩
      . rename_i at_ t
        cases f:J3 P t st.σ (st.get at_) with
        |none=>rw [f] at hr;cases hr
        |some y =>
         obtain⟨c3,p3⟩:=y
         rw [f] at hr
         simp only [ä,Â,È] at hr
         obtain⟨rfl,rfl,rfl⟩:=hr
         obtain⟨u,k1,k2,k3⟩:=PO h.store (h.env.v at_) f
         have k4:=k3 w ((Reads.refl _ _).one _)
         refine⟨u,G,?_,Cp k1,fun xs e=>?_,⟨fun xs l e=>?_,fun cs e=>?_,fun ys e=>?_⟩,h,fun b k hb=>hb,rfl,rfl⟩
         . have m:∃ ad,AG a at_=.pointer (some ad):=by
            have d:=h.env.v at_
            revert f d
            generalize st.get at_=q
            intro f d
            cases q with
            |ptr b o =>
             revert d;generalize AG a at_=z;intro d
             cases d with
             |ptr _ _ _ k A=>exact⟨_,rfl⟩
            |vptr cs o =>
             revert d;generalize AG a at_=z;intro d
             cases d with
             |vptr _ _ b o' _ us B C D s=>exact⟨_,rfl⟩
            |_=>simp [J3] at f
           obtain⟨ad,n⟩:=m
           have g:a.tmps.getD at_ Go.undef=.pointer (some ad):=n
           have k5:(Instr.loadAt t (.pointer (some ad))).run P w=.ok u w:=by
            grind [YS]
           simp only [Tp,g,asAddr,Ð,Ö,Ê]
           simpa [Instr.loadAt,Instr.sureAddr] using k5
         . have:=Bp p3;rw [e] at this;cases this
         . have:=Bp p3;rw [e] at this;cases this
         . have:=Bp p3;rw [e] at this;cases this
         . have:=Bp p3;rw [e] at this;cases this
     obtain⟨v,G1,s1,s2,s3,s4,s5,s6,s7,s8⟩:=step
     obtain⟨vs,G2,t1,t2,t3,t4,t5,t6,t7⟩:=Mb rs (i+1) st1 G1 ps2 st2 s5 hrs
     refine⟨v::vs,G2,?_,by simp [t2],?_,t4,fun b k hb=>t5 b k (s6 b k hb),t6.trans s7,t7.trans s8⟩
     . rw [List.mapM_cons]
       simp only [Ð,s1,Ê,t1,Ö]
     . grind [Az.to]
  . cases he
theorem Oi:∀ {σ:List (List PV)},DH N σ=true->∀ cs∈σ,PV.fitsL N cs=true
 | [],_,cs,h=>by simp at h
 |c::r,h,cs,hm=>by
  simp only [DH,Æ] at h
  rcases List.mem_cons.1 hm with rfl|hm
  . exact h.1
  . exact Oi h.2 cs hm
theorem Ay.take {σ:List (List PV)}(h:Ay w G σ)(hfit:DH N (σ.take N)=true):Ay w { G with φ:=G.φ.take N } (σ.take N):=by
 refine⟨by simp [h.len],List.Nodup.sublist (List.take_sublist _ _) h.nodup,fun k b cs m f=>?_,h.ub,fun b hb=>⟨(h.ob b hb).1,fun o=>(h.ob b hb).2 (ü o)⟩⟩
 have g:=Oi hfit cs (Ò f)
 have d:k<N:=by
  have:=(List.getElem?_eq_some_iff.1 m).1
  simp at this;omega
 have i:G.φ[k]?=some b:=by have:(G.φ.take N)[k]?=some b:=m;rw [Ā,Ç d] at this;exact this
 have l:σ[k]?=some cs:=by rw [Ā,Ç d] at f;exact f
 obtain⟨⟨T,arr,p,q,r⟩,s⟩:=h.blk k b cs i l
 refine⟨⟨T,arr,p,q,fun j c n=>?_⟩,s⟩
 obtain⟨v,t,u,x,a⟩:=r j c n
 have e:=List.getElem?_eq_some_iff.1 n
 refine⟨v,t,u,x.fits (by rw [<- e.2];exact D5 g j e.1),?_⟩
 unfold Ca at a ⊢
 split
 . exact Az.to a rfl (fun b hb=>hb)
 . exact B9.to a rfl (fun b hb=>hb)
 . trivial
theorem Ext.take (h:Ext w0 G0 w G)(hN:G0.φ.length=N):Ext w0 G0 w { G with φ:=G.φ.take N }:=by
 refine⟨h.os,h.tape,h.output,h.size,h.frame,h.cells,h.newU,h.newΩ,[],?_,by simp⟩
 obtain⟨ψ,b,_⟩:=h.phi
 all_goals grind
theorem Md {x:Cb}{e:Ending}{σ:List (List PV)}{p:PV}{Q:Cb->List (List PV)->Prop}(hx:Ext w0 G0 w G)(hs:Ay w G σ)(hN:G0.φ.length=N)(hq:Q x (HY N p σ))(hend:CT w G x e)(hp:∀ r,x=.ret r->r=p) :
 ∃ x σ' G',Q x σ'/\CT w G' x e/\Ay w G' σ'/\Ext w0 G0 w G':=by
 unfold HY at hq
 split at hq
 . exact⟨x,σ,G,hq,hend,hs,hx⟩
 split at hq
 . rename_i d
   simp only [Æ] at d
   refine⟨x,_,{ G with φ:=G.φ.take N },hq,?_,hs.take d.2,hx.take hN⟩
   cases x with
   |ret r =>
    obtain⟨v,f,g,a⟩:=hend
    obtain rfl:=hp r rfl
    refine⟨v,f,g.fits d.1,?_⟩
    unfold Gm at a ⊢
    split
    . exact Az.to a rfl (fun b hb=>hb)
    . exact a
    . exact a
    . intro i xs j
      obtain⟨arr,u,k1,k2,k3⟩:=a i xs j
      exact⟨arr,u,k1,k2,k3.to rfl (fun b hb=>hb)⟩
    . trivial
   |pan c=>exact hend
 . exact⟨x,σ,G,hq,hend,hs,hx⟩
theorem NT {fn:Func}{vs:List Value}(h:(fn.results.toList.mapM (Tp a.tmps)).run P w=.ok vs w):(results fn a.tmps).run P w=.ok (if hs:vs.length=1 then vs[0] else .tuple vs.toArray) w:=by
 have e:results fn a.tmps=(do
  let vs <- fn.results.mapM (Tp a.tmps)
  pure (if h:vs.size=1 then vs[0] else .tuple vs)):=rfl
 rw [e,Array.mapM_eq_mapM_toList]
 simp [h]
theorem K5:∀ (args:List PV) (k t:Nat),Cj ((args.zipIdx k).map fun x=>(x.2,Bf x.1)) t=if k<=t then (match args[t-k]? with|some p=>Bf p|none=>.undef) else .undef
 | [],k,t=>by simp [Cj]
 |p::args,k,t=>by
  rw [List.zipIdx_cons,Þ]
  show (if k=t then Bf p else Cj ((args.zipIdx (k+1)).map fun x=>(x.2,Bf x.1)) t)=_
  rw [K5 args (k+1) t]
  by_cases e:k=t
  . subst e;simp
  . rw [Ä e]
    by_cases h:k<=t
    . rw [Ç h,Ç (by omega)]
      have:t-k=(t-(k+1))+1:=by omega
      rw [this,List.getElem?_cons_succ]
    . rw [Ä h,Ä (by omega)]
theorem VC.intro {f:FuncId}{fn:Func}{c:Code}{args:List PV}{σ:List (List PV)}{Q:Cb->List (List PV)->Prop}(L:Cf)(hf:P.funcs[f]?=some fn)(hb:fn.body=some c)(hm:P.follows .mixedOrders=true)(hok:Cc L.pl fn.ntmps c=true)(hn:args.length<=fn.ntmps)
 (h:FQ σ.length (HR args σ) (W P L σ.length c (wkK σ.length (C6 P fn σ.length Q)))):VC P f args σ Q:=by
 intro w G vs hs A H J B
 refine calls_of_wp hf hb ?_
 have C:(vs++Array.replicate (fn.ntmps-vs.size) Go.undef).size=fn.ntmps:=by simp;omega
 have m:∀ t,(HR args σ).get t=match args[t]? with|some p=>Bf p|none=>.undef:=by
  intro t
  show Cj (args.zipIdx.map fun x=>(x.2,Bf x.1)) t=_
  rw [K5 args 0 t];simp
 have b:Inv w G (HR args σ) (AG { tmps:=vs++Array.replicate (fn.ntmps-vs.size) Go.undef,defers:=[] }) w G:=by
  refine⟨Ext.refl _ _,hs,⟨fun t=>?_,fun t=>?_⟩⟩
  . rw [m]
    cases e:args[t]? with
    |none=>exact .undef _ _
    |some p =>
     have D:=List.getElem?_eq_some_iff.1 e
     have:=H t D.1
     rw [D.2] at this
     have e2:AG { tmps:=vs++Array.replicate (fn.ntmps-vs.size) Go.undef,defers:=[] } t=vs.getD t Go.undef:=by
      show (vs++_).getD t Go.undef=_
      rw [É,ô (by rw [A];exact D.1),É]
     rw [e2];exact Cp this
  . rw [m]
    cases e:args[t]? with
    |none=>trivial
    |some p=>exact DX (Bp p) _ _ _ _
 have hN:G.φ.length=σ.length:=hs.len
 obtain⟨st2,G2,h,b⟩:=h w G _ w G (ÿ hN) b
 refine wp_mono (SJ B hm (ÿ hN) c _ st2 _ w G2 hok b rfl C h) fun e a w' s=>?_
 have ret:∀ (a:Act) (st:St) (G':Gh),Inv w G st (AG a) w' G'->(match Jz P fn.results.toList st with|some (c,ps,st')=>c=true/\Q (.ret (L3 ps)) (HY σ.length (L3 ps) st'.σ)|none=>False) ->
  ∃ v,(results fn a.tmps).run P w'=.ok v w'/\∃ x σ' G',Q x σ'/\CT w' G' x (.returned v)/\Ay w' G' σ'/\Ext w G w' G':=by
  intro a st G' hI z
  split at z
  . rename_i c ps st' I
    obtain⟨rfl,z⟩:=z
    obtain⟨us,G2,k1,k2,k3,k4,_,_,_⟩:=Mb (a:=a) fn.results.toList 0 st G' ps st' hI I
    refine⟨_,NT k1,Md (p:=L3 ps) k4.ext k4.store hN z ?_ (fun r e=>by cases e;rfl)⟩
    match ps,us,k2,k3 with
    | [p],[u],_,k3 =>
     obtain⟨y,n,d⟩:=k3 0 p u rfl rfl
     refine⟨u,rfl,y,?_⟩
     show Gm w' G2 p u
     unfold Gm
     split
     . exact n _ rfl
     . exact absurd rfl (d.2.2 _)
     . exact absurd rfl (d.1 _ _)
     . exact absurd rfl (d.2.1 _)
     . trivial
    | [],[],_,k3 =>
     refine⟨.tuple #[],rfl,.tup _ _ _ rfl (fun i k=>by simp at k),fun i xs k=>by simp at k⟩
    |p::q::ps,u::x::us,k2,k3 =>
     refine⟨.tuple (u::x::us).toArray,rfl,.tup _ _ _ (by simp at k2;simp [k2]) (fun i k=>?_),fun i xs k=>?_⟩
     . have g:i<(u::x::us).length:=by rw [k2];exact k
       have:=(k3 i _ _ (Ã k) (Ã g)).1
       have e:(u::x::us).toArray.getD i Go.undef=(u::x::us)[i]:=by
        rw [É,List.getElem?_toArray,Ã g];rfl
       rw [e];exact this
     . have E:=(List.getElem?_eq_some_iff.1 k).1
       have g:i<(u::x::us).length:=by rw [k2];exact E
       have:=(k3 i _ _ k (Ã g)).2.1 xs rfl
       rw [ò] at this
       exact⟨_,_,rfl,by rw [List.getElem?_toArray,Ã g],this⟩
  . exact z.elim
 cases e with
 |normal =>
  obtain⟨y,n,st,G',j,o⟩:=s
  obtain⟨st3,G3,d,F⟩:=j w G _ w' G' (ÿ hN) o
  exact⟨n,ret a st3 G3 F d⟩
 |ret =>
  obtain⟨y,n,st,G',j,o⟩:=s
  obtain⟨st3,G3,d,F⟩:=j w G _ w' G' (ÿ hN) o
  exact⟨n,ret a st3 G3 F d⟩
 |exit id =>
  obtain⟨y,n,st,G',j,o⟩:=s
  obtain⟨_,_,d,_⟩:=j w G _ w' G' (ÿ hN) o
  exact d
 |panic c =>
  obtain⟨y,st,G',n,d,o⟩:=s
  exact⟨y,Md (p:=.undef) d o hN n rfl (fun r e=>by cases e)⟩
 |goto l=>exact s
 |outgrown=>exact s.elim
end
end Go.Vl
namespace Go.Vl
open Go Go.RowKit
inductive TI where
 |code (c:Code)
 |blk (id:Nat)
 |lp (I:Nat->St->Prop) (m:Nat)
def KT (P:Program)(L:Cf)(N:Nat):List TI->(AX->St->Prop)->AX->St->Prop
 | [],Q,x,st=>Q x st
 |.code c::k,Q,x,st=>match x with
  |.normal=>FQ N st (W P L N c (KT P L N k Q))
  |x=>KT P L N k Q x st
 |.blk id::k,Q,x,st=>match x with
  |.exit i=>if i=id then KT P L N k Q .normal st else KT P L N k Q (.exit i) st
  |x=>KT P L N k Q x st
 |.lp I m::k,Q,x,st=>match x with
  |.normal=>∃ m' st2,Wk N st st2/\I m' st2/\m'<m
  |x=>KT P L N k Q x st
def WS (P:Program)(L:Cf)(N:Nat)(k:List TI)(Q:AX->St->Prop)(st:St):Prop:=KT P L N k Q .normal st
def QW (id:Nat):List TI->Option (List TI)
 | []=>none
 |.blk i::k=>if i=id then some k else QW id k
 |_::k=>QW id k
section
variable {P:Program} {L:Cf} {N:Nat} {k k':List TI} {Q:AX->St->Prop} {st:St} {a b:Code} {id:Nat}
theorem Ad1 (h:Q .normal st):WS P L N [] Q st:=h
theorem WA (h:WS P L N k Q st):WS P L N (.code .skip::k) Q st:=FQ.rfl h
theorem Zw {l:Nat}(h:WS P L N k Q st):WS P L N (.code (.label l)::k) Q st:=FQ.rfl h
theorem Adz (h:WS P L N (.code a::.code b::k) Q st):WS P L N (.code (.seq a b)::k) Q st:=by
 show FQ N st (W P L N a (fun x st'=>match x with|.normal=>FQ N st' (W P L N b (KT P L N k Q))|x=>KT P L N k Q x st'))
 have e:(fun x st'=>match x with|.normal=>FQ N st' (W P L N b (KT P L N k Q))|x=>KT P L N k Q x st')=KT P L N (.code b::k) Q:=by
  funext x st';cases x<;>rfl
 rw [e];exact h
theorem Gl (h:WS P L N (.code b::.blk id::k) Q st):WS P L N (.code (.block id b)::k) Q st:=by
 show FQ N st (W P L N b (fun x st'=>match x with|.exit i=>if i=id then KT P L N k Q .normal st' else KT P L N k Q (.exit i) st'|x=>KT P L N k Q x st'))
 have e:(fun x st'=>match x with|.exit i=>if i=id then KT P L N k Q .normal st' else KT P L N k Q (.exit i) st'|x=>KT P L N k Q x st')=KT P L N (.blk id::k) Q:=by
  funext x st';cases x<;>rfl
 rw [e];exact h
theorem WD {c:Operand}{t:Bool}(hc:Ck st c=.lit (.bool t))(ht:t=true->WS P L N (.code a::k) Q st)(hf:t=false->WS P L N (.code b::k) Q st):WS P L N (.code (.cond c a b)::k) Q st:=by
 refine FQ.rfl ?_
 unfold W
 rw [hc]
 cases t with
 |true=>simp only [ø];exact ht rfl
 |false=>simp only [â,û];exact hf rfl
theorem FE {c:Operand}(hc:Ck st c=.lit (.bool true))(h:WS P L N (.code a::k) Q st):WS P L N (.code (.cond c a b)::k) Q st:=WD hc (fun _=>h) (fun e=>by cases e)
theorem Ew {c:Operand}(hc:Ck st c=.lit (.bool false))(h:WS P L N (.code b::k) Q st):WS P L N (.code (.cond c a b)::k) Q st:=WD hc (fun e=>by cases e) (fun _=>h)
theorem OH:∀ (k:List TI),KT P L N k Q (.exit id) st=match QW id k with|some k'=>WS P L N k' Q st|none=>Q (.exit id) st
 | []=>rfl
 |.code _::k=>OH k
 |.lp _ _::k=>OH k
 |.blk i::k=>by
  show (if id=i then KT P L N k Q .normal st else KT P L N k Q (.exit id) st)=_
  rw [OH k]
  show _=match (if i=id then some k else QW id k) with|some k'=>WS P L N k' Q st|none=>Q (.exit id) st
  by_cases e:i=id
  . subst e;rw [Ç rfl,Ç rfl];rfl
  . rw [Ä (fun e2=>e e2.symm),Ä e]
theorem Abi (hp:QW id k=some k')(h:WS P L N k' Q st):WS P L N (.code (.exit id)::k) Q st:=by
 refine FQ.rfl ?_
 show KT P L N k Q (.exit id) st
 rw [OH,hp];exact h
theorem Qt:∀ (k:List TI),KT P L N k Q .ret st=Q .ret st
 | []=>rfl
 |.code _::k=>Qt k
 |.lp _ _::k=>Qt k
 |.blk _::k=>Qt k
theorem HS (h:Q .ret st):WS P L N (.code .ret::k) Q st:=by
 refine FQ.rfl ?_
 show KT P L N k Q .ret st
 rw [Qt];exact h
theorem KO (c:List PanicEntry):∀ (k:List TI),KT P L N k Q (.pan c) st=Q (.pan c) st
 | []=>rfl
 |.code _::k=>KO c k
 |.lp _ _::k=>KO c k
 |.blk _::k=>KO c k
theorem H3 {i:Nat}{ops:Array Oper}{d:Bool}(hn:Di L.pl i=none)(h:∀ K':AX->St->Prop,(∀ st1 st2,clr L.L st1=st2->WS P L N k Q st2->K' .normal st1)->(∀ c st1,Q (.pan c) st1->K' (.pan c) st1)->B1 P ops K' ops.toList st) :
 WS P L N (.code (.region i ops d)::k) Q st:=by
 refine FQ.rfl ?_
 show W P L N (.region i ops d) (KT P L N k Q) st
 unfold W
 rw [hn]
 refine h (fun x st'=>KT P L N k Q x (match x with|.normal=>clr L.L st'|_=>st')) (fun st1 st2 e a=>?_) (fun c st1 a=>?_)
 . subst e;exact a
 . show KT P L N k Q (.pan c) st1
   rw [KO];exact a
theorem WC {i m:Nat}{ops:Array Oper}{d:Bool}(hn:Di L.pl i=some [9996,m])(h:∀ K':AX->St->Prop,(∀ st1 st2,clr L.L st1=st2->WS P L N k Q st2->K' .normal st1)->(∀ c st1,Q (.pan c) st1->K' (.pan c) st1)->B1 P ops (Abc P N ops K' (ops.toList.drop m)) (ops.toList.take m) st) :
 WS P L N (.code (.region i ops d)::k) Q st:=by
 refine FQ.rfl ?_
 show W P L N (.region i ops d) (KT P L N k Q) st
 unfold W
 rw [hn]
 simp only
 rw [Ç (show ([9996,m]:List Nat).headD 0=9996 from rfl)]
 refine h (fun x st'=>KT P L N k Q x (match x with|.normal=>clr L.L st'|_=>st')) (fun st1 st2 e b=>?_) (fun c st1 b=>?_)
 . subst e;exact b
 . show KT P L N k Q (.pan c) st1
   rw [KO];exact b
theorem Uv {i:Nat}{ops:Array Oper}{d:Bool}(M t:List Nat)(x y i1 i2 i3 i4:Nat)(hn:Di L.pl i=some (9997::M.length::(M++(t++[x,y,i1,i2,i3,i4]))))(h:∀ K':AX->St->Prop,(∀ st1 st2,clr L.L st1=st2->WS P L N k Q st2->K' .normal st1)->(∀ c st1,Q (.pan c) st1->K' (.pan c) st1)->BH P ops M (Ir P ops M (Ei P ops K' [i1,i2,i3,i4]) [x,y]) t st) :
 WS P L N (.code (.region i ops d)::k) Q st:=by
 refine FQ.rfl ?_
 show W P L N (.region i ops d) (KT P L N k Q) st
 unfold W
 rw [hn]
 simp only
 rw [Ä (show ¬ (9997::M.length::(M++(t++[x,y,i1,i2,i3,i4]))).headD 0=9996 by simp)]
 unfold J0
 have b:(9997::M.length::(M++(t++[x,y,i1,i2,i3,i4]))).length=M.length+t.length+8:=by simp;omega
 rw [Ä (show ¬ (9997::M.length::(M++(t++[x,y,i1,i2,i3,i4]))).headD 0=9999 by simp),Ä (show ¬ (9997::M.length::(M++(t++[x,y,i1,i2,i3,i4]))).headD 0=9998 by simp),Ç (show (9997::M.length::(M++(t++[x,y,i1,i2,i3,i4]))).headD 0=9997 from rfl)]
 have e1:(((9997::M.length::(M++(t++[x,y,i1,i2,i3,i4]))).drop 2).take ((9997::M.length::(M++(t++[x,y,i1,i2,i3,i4]))).getD 1 0))=M:=by simp
 have e2:(((9997::M.length::(M++(t++[x,y,i1,i2,i3,i4]))).drop 2).drop ((9997::M.length::(M++(t++[x,y,i1,i2,i3,i4]))).getD 1 0))=t++[x,y,i1,i2,i3,i4]:=by simp
 have e3:(9997::M.length::(M++(t++[x,y,i1,i2,i3,i4]))).drop ((9997::M.length::(M++(t++[x,y,i1,i2,i3,i4]))).length-4)=[i1,i2,i3,i4]:=by
  rw [b,show M.length+t.length+8-4=(M.length+(t.length+2))+2 by omega]
  show (M++(t++[x,y,i1,i2,i3,i4])).drop (M.length+(t.length+2))=_
  rw [<- ĥ,List.drop_left,<- ĥ,List.drop_left];rfl
 have e5:((9997::M.length::(M++(t++[x,y,i1,i2,i3,i4]))).drop ((9997::M.length::(M++(t++[x,y,i1,i2,i3,i4]))).length-6)).take 2=[x,y]:=by
  grind [W,J0]
 have e4:(t++[x,y,i1,i2,i3,i4]).take ((9997::M.length::(M++(t++[x,y,i1,i2,i3,i4]))).length-8-(9997::M.length::(M++(t++[x,y,i1,i2,i3,i4]))).getD 1 0)=t:=by
  grind [W,J0]
 rw [e1,e2,e3,e4,e5]
 refine h (fun x st'=>KT P L N k Q x (match x with|.normal=>clr L.L st'|_=>st')) (fun st1 st2 e a=>?_) (fun c st1 a=>?_)
 . subst e;exact a
 . show KT P L N k Q (.pan c) st1
   rw [KO];exact a
theorem Zv {i:Nat}{ops:Array Oper}{d:Bool}(M t:List Nat)(hn:Di L.pl i=some (9999::M.length::(M++t)))(h:∀ K':AX->St->Prop,(∀ st1 st2,clr L.L st1=st2->WS P L N k Q st2->K' .normal st1)->(∀ c st1,Q (.pan c) st1->K' (.pan c) st1)->BH P ops M K' t st) :
 WS P L N (.code (.region i ops d)::k) Q st:=by
 refine FQ.rfl ?_
 show W P L N (.region i ops d) (KT P L N k Q) st
 unfold W
 rw [hn]
 simp only
 rw [Ä (show ¬ (9999::M.length::(M++t)).headD 0=9996 by simp)]
 unfold J0
 rw [Ç (show (9999::M.length::(M++t)).headD 0=9999 from rfl)]
 have e1:(((9999::M.length::(M++t)).drop 2).take ((9999::M.length::(M++t)).getD 1 0))=M:=by simp
 have e2:(((9999::M.length::(M++t)).drop 2).drop ((9999::M.length::(M++t)).getD 1 0))=t:=by simp
 rw [e1,e2]
 refine h (fun x st'=>KT P L N k Q x (match x with|.normal=>clr L.L st'|_=>st')) (fun st1 st2 e a=>?_) (fun c st1 a=>?_)
 . subst e;exact a
 . show KT P L N k Q (.pan c) st1
   rw [KO];exact a
theorem Zu {i:Nat}{ops:Array Oper}{d:Bool}(hn:Di L.pl i=some [9995])(h:∀ K':AX->St->Prop,(∀ st1 st2,clr L.L st1=st2->WS P L N k Q st2->K' .normal st1)->(∀ c st1,Q (.pan c) st1->K' (.pan c) st1)->Wx P ops st.σ.length K' (Td ops) st) :
 WS P L N (.code (.region i ops d)::k) Q st:=by
 refine FQ.rfl ?_
 show W P L N (.region i ops d) (KT P L N k Q) st
 unfold W
 rw [hn]
 simp only
 rw [Ä (show ¬ ([9995]:List Nat).headD 0=9996 by simp)]
 unfold J0
 rw [Ä (show ¬ ([9995]:List Nat).headD 0=9999 by simp),Ä (show ¬ ([9995]:List Nat).headD 0=9998 by simp),Ä (show ¬ ([9995]:List Nat).headD 0=9997 by simp),Ç (show ([9995]:List Nat).headD 0=9995 from rfl)]
 refine h (fun x st'=>KT P L N k Q x (match x with|.normal=>clr L.L st'|_=>st')) (fun st1 st2 e a=>?_) (fun c st1 a=>?_)
 . subst e;exact a
 . show KT P L N k Q (.pan c) st1
   rw [KO];exact a
theorem Fp {ops:Array Oper}{K K':AX->St->Prop}(hk:∀ x st,K x st->K' x st):∀ (l:List Oper) (st:St),B1 P ops K l st->B1 P ops K' l st
 | [],st,h=>hk _ _ h
 |o::rest,st,h=>by
  unfold B1 at h ⊢
  split at h
  . exact h.elim
  . exact Fp hk rest _ h
  . split at h
    . exact⟨h.1,Fp hk rest _ h.2⟩
    . split at h
      . refine h.mono fun x σ' hx=>?_
        cases x with
        |ret r=>exact Fp hk rest _ hx
        |pan c=>exact hk _ _ hx
      . split at h
        . exact hk _ _ h
        . exact X2 (fun st hx=>Fp hk rest st hx) h
theorem OG:∀ (c:Code) {K K':AX->St->Prop},(∀ x st,K x st->K' x st)->∀ (st:St),W P L N c K st->W P L N c K' st:=by
 intro c
 induction c with
 |skip=>intro K K' a st h;exact a _ _ h
 |label l=>intro K K' a st h;exact a _ _ h
 |exit id=>intro K K' a st h;exact a _ _ h
 |ret=>intro K K' a st h;exact a _ _ h
 |region id ops d =>
  intro K K' a st h
  unfold W at h ⊢
  split at h
  . exact Fp (fun x st h=>a _ _ h) _ _ h
  . split at h
    . rename_i k
      rw [Ç k]
      refine Fp (fun x st h=>?_) _ _ h
      cases x with
      |normal =>
       rcases h with⟨st2,k1,k2⟩|⟨o,rest,k1,k2⟩
       . exact .inl ⟨st2,k1,Fp (fun x st h=>a _ _ h) _ _ k2⟩
       . refine .inr ⟨o,rest,k1,?_⟩
         unfold Li at k2 ⊢
         split at k2
         . grind [Fp]
         . exact k2
      |_=>exact a _ _ h
    rename_i k
    rw [Ä k]
    unfold J0 at h ⊢
    split at h
    . rename_i q
      rw [Ç q];exact Dc (fun x st h=>a _ _ h) _ _ h
    . grind [Dc,Tf,Te,KC]
 |seq x y f g =>
  intro K K' a st h
  refine f (fun x st h=>?_) st h
  cases x with
  |normal=>exact h.mono fun st2 n=>g a st2 n
  |_=>exact a _ _ h
 |cond c x y f g =>
  intro K K' a st h
  unfold W at h ⊢
  split at h
  . split at h
    . rename_i r p;simp only [p,ø];exact FQ.mono h fun st h=>f a st h
    . rename_i r p;rw [Ä p];exact FQ.mono h fun st h=>g a st h
  . exact h
 |block id b ih =>
  intro K K' a st h
  refine ih (fun x st h=>?_) st h
  cases x with
  |exit i =>
   have j:(if i=id then K .normal st else K (.exit i) st):=h
   show (if i=id then K' .normal st else K' (.exit i) st)
   by_cases e:i=id
   . rw [Ç e] at j ⊢;exact a _ _ j
   . rw [Ä e] at j ⊢;exact a _ _ j
  |_=>exact a _ _ h
 |loop b ih =>
  intro K K' a st h
  obtain⟨I,s,n⟩:=h
  refine⟨I,s,fun m st1 hI=>?_⟩
  refine (n m st1 hI).mono fun st3 t=>ih (fun x st h=>?_) st3 t
  cases x with
  |normal=>exact h
  |_=>exact a _ _ h
 |_=>intro K K' a st h;exact h.elim
theorem Qp {fn:Func}{Q:Cb->List (List PV)->Prop}(h:WS P L N [.code a,.code .ret] (C6 P fn N Q) st):FQ N st (W P L N a (wkK N (C6 P fn N Q))):=by
 refine FQ.mono h fun st2 h=>OG a (fun x st h=>?_) st2 h
 cases x with
 |normal=>exact h
 |pan c=>exact h
 |exit id=>exact U1 (.exit id) st h
 |ret=>exact U1 .ret st h
theorem WB {I:Nat->St->Prop}{m:Nat}{st0:St}(hw:Wk N st st0)(h0:I m st0)(hr:∀ m st1,I m st1->WS P L N (.code b::.lp I m::k) Q st1):WS P L N (.code (.loop b)::k) Q st:=by
 refine FQ.rfl ?_
 refine⟨I,⟨m,st0,hw,h0⟩,fun m st1 a=>?_⟩
 have e:(fun x st'=>match x with|.normal=>∃ m' st2,Wk N st' st2/\I m' st2/\m'<m|x=>KT P L N k Q x st')=KT P L N (.lp I m::k) Q:=by
  funext x st';cases x<;>rfl
 show FQ N st1 (W P L N b (fun x st'=>match x with|.normal=>∃ m' st2,Wk N st' st2/\I m' st2/\m'<m|x=>KT P L N k Q x st'))
 rw [e];exact hr m st1 a
theorem Uu {I:Nat->St->Prop}{m m':Nat}{st2:St}(hw:Wk N st st2)(h:I m' st2)(hm:m'<m):WS P L N (.lp I m::k) Q st:=⟨m',st2,hw,h,hm⟩
def Mr (c:Nat):PV->Bool
 |.sl _ (.view (.cell k _))=>decide (k<c)
 |_=>true
def low (M:List Nat)(c:Nat)(st:St):St :=
 if Nat.ble st.σ.length c=true then clr M st else if (clr M st).env.all (fun x=>x.2.fits c&&Mr c x.2)&&DH c (st.σ.take c) then { clr M st with σ:=st.σ.take c } else clr M st
theorem TO {p:PV->Bool}(hu:p .undef=true):∀ (l:List (Nat×PV)),l.all (fun x=>p x.2)=true->∀ t,p (Cj l t)=true
 | [],_,t=>hu
 |(k,v)::r,h,t=>by
  simp only [ą,Æ] at h
  show p (if k=t then v else Cj r t)=true
  split
  . exact h.1
  . exact TO hu r h.2 t
theorem Inv.take0 {w0 w:World}{G0 G:Gh}{tm:Nat->Value}{c:Nat}(h:Inv w0 G0 st tm w G)(hN:G0.φ.length<=c)(hf:(∀ t,((st.get t).fits c&&Mr c (st.get t))=true)/\DH c (st.σ.take c)=true):Inv w0 G0 { st with σ:=st.σ.take c } tm w { G with φ:=G.φ.take c }:=by
 have d:=hf.1
 refine⟨?_,h.store.take hf.2,⟨fun t=>?_,fun t=>?_⟩⟩
 . have a:=h.ext
   refine⟨a.os,a.tape,a.output,a.size,a.frame,a.cells,a.newU,a.newΩ,?_⟩
   obtain⟨ψ,n,o⟩:=a.phi
   refine⟨ψ.take (c-G0.φ.length),?_,fun b hb=>o b (ü hb)⟩
   show G.φ.take c=_
   rw [n,List.take_append,List.take_of_length_le (by omega)]
 . have:=d t
   simp only [Æ] at this
   exact (h.env.v t).fits this.1
 . have f:=d t
   have e:=h.env.tag t
   show Dz w { G with φ:=G.φ.take c } { st with σ:=st.σ.take c } tm t (st.get t) (tm t)
   revert f e
   generalize st.get t=q
   intro f e
   cases q with
   |sl xs g =>
    cases g with
    |own=>exact Az.to e rfl (fun b hb=>hb)
    |view m =>
     cases m with
     |tmp s=>exact e
     |cell k j =>
      obtain⟨cs,b,p,r,x,y⟩:=e
      have l:k<c:=by simpa [Mr,PV.fits] using f
      exact⟨cs,b,by show (st.σ.take c)[k]?=_;rw [Ā,Ç l];exact p,r,by show (G.φ.take c)[k]?=_;rw [Ā,Ç l];exact x,y⟩
     |_=>exact e
    |_=>trivial
   |tup cs =>
    intro i xs z
    obtain⟨arr,u,k1,k2,k3⟩:=e i xs z
    exact⟨arr,u,k1,k2,Az.to k3 rfl (fun b hb=>hb)⟩
   |_=>trivial
theorem Inv.take {w0 w:World}{G0 G:Gh}{tm:Nat->Value}{c:Nat}(h:Inv w0 G0 st tm w G)(hN:G0.φ.length<=c)(hf:st.env.all (fun x=>x.2.fits c&&Mr c x.2)=true/\DH c (st.σ.take c)=true):Inv w0 G0 { st with σ:=st.σ.take c } tm w { G with φ:=G.φ.take c } :=
 h.take0 hN ⟨TO (p:=fun q=>q.fits c&&Mr c q) rfl _ hf.1,hf.2⟩
theorem Xv {p:PV->Bool}(hu:p .undef=true)(l:List (Nat×PV))(h:l.all (fun x=>p (Cj l x.1))=true)(t:Nat):p (Cj l t)=true:=by
 by_cases a:∃ x∈l,x.1=t
 . obtain⟨x,b,rfl⟩:=a
   exact List.all_eq_true.1 h x b
 . have:Cj l t=.undef:=by
    clear h
    induction l with
    |nil=>rfl
    |cons y r ih =>
     obtain⟨k,v⟩:=y
     show (if k=t then v else Cj r t)=_
     rw [Ä (fun e=>a ⟨(k,v),by simp,e⟩)]
     exact ih fun ⟨x,b,e⟩=>a ⟨x,by simp [b],e⟩
   rw [this];exact hu
theorem Wk.low {M:List Nat}{c:Nat}(hc:N<=c):Wk N st (Vl.low M c st):=by
 intro w0 G0 tm w G hN h
 unfold Vl.low
 split
 . exact⟨G,h.clr M⟩
 split
 . rename_i b
   simp only [Æ] at b
   exact⟨_,(h.clr M).take (Ĕ hN hc) b⟩
 . exact⟨G,h.clr M⟩
def Aeg {A:Type}(M:List Nat)(c:Nat)(p:A->Prop)(μ:A->Nat)(S:A->St)(m:Nat)(st:St):Prop:=∃ a,p a/\μ a=m/\low M c st=S a
theorem SK {A:Type}(M:List Nat)(c:Nat)(p:A->Prop)(μ:A->Nat)(S:A->St)(a0:A)(hc:N<=c)(e0:low M c st=S a0)(h0:p a0)
 (hr:∀ a,p a->WS P L N (.code b::.lp (Aeg M c p μ S) (μ a)::k) Q (S a)):WS P L N (.code (.loop b)::k) Q st:=by
 refine WB (I:=fun m st=>∃ a,p a/\μ a=m/\st=S a) (m:=μ a0) (Wk.low (M:=M) hc) ⟨a0,h0,rfl,e0⟩ ?_
 rintro m _ ⟨a,g,rfl,rfl⟩
 have key:∀ (I J:Nat->St->Prop),(∀ m st,J m st->∃ st2,Wk N st st2/\I m st2)->∀ (c:Code) (st:St),WS P L N (.code c::.lp J (μ a)::k) Q st->WS P L N (.code c::.lp I (μ a)::k) Q st:=by
  intro I J hJ c st h
  refine FQ.mono h fun st3 h=>OG c (fun x st h=>?_) st3 h
  cases x with
  |normal =>
   obtain⟨m',st2,d,e,f⟩:=h
   obtain⟨st3,i,j⟩:=hJ m' st2 e
   exact⟨m',st3,d.trans i,j,f⟩
  |_=>exact h
 refine key _ _ (fun m st h=>?_) b _ (hr a g)
 obtain⟨a',d,e,f⟩:=h
 exact⟨_,Wk.low (M:=M) hc,a',d,e,f⟩
theorem IS {A:Type}{M:List Nat}{c:Nat}{p:A->Prop}{μ:A->Nat}{S:A->St}{m:Nat}(a:A)(e:low M c st=S a)(h:p a)(hm:μ a<m):WS P L N (.lp (Aeg M c p μ S) m::k) Q st:=⟨μ a,st,Wk.refl N st,⟨a,h,rfl,e⟩,hm⟩
def Tz:List TI->Bool
 | []=>false
 |.code _::_=>true
 |.lp _ _::_=>true
 |.blk _::k=>Tz k
theorem Qo:∀ {k:List TI},Tz k=true->∀ {st st0:St},Wk N st st0->WS P L N k Q st0->WS P L N k Q st
 |.code _::_,_,_,_,hw,h=>FQ.pre hw h
 |.lp _ _::_,_,_,_,hw,⟨m',st2,h2,h⟩=>⟨m',st2,hw.trans h2,h⟩
 |.blk _::k,hk,_,_,hw,h=>Qo (k:=k) hk hw h
theorem JJ {st0:St}(M:List Nat)(c:Nat)(hk:Tz k=true)(hc:N<=c)(e:low M c st=st0)(h:WS P L N k Q st0):WS P L N k Q st:=Qo hk (Wk.low (M:=M) hc) (by rw [e];exact h)
theorem MW {X:TI}{A:Type}(p:A->Prop)(S:A->St)(h2:∀ v,p v->WS P L N k Q (S v))(h1:(∀ v,p v->WS P L N k Q (S v))->WS P L N (X::k) Q st):WS P L N (X::k) Q st:=h1 h2
end
end Go.Vl
namespace Go.Vl
open Go Go.RowKit
section
variable {w w':World} {G:Gh} {P:Program} {f:FuncId} {σ:List (List PV)}
theorem Lb {ls:List Value}{vs:Array Value}{U:Nat->Nat->Prop}{φ:List Nat}(hvs:vs.size=(ls.map PV.lit).length)(hv:∀ i (h:i<(ls.map PV.lit).length),V w U φ (ls.map PV.lit)[i] (vs.getD i Go.undef)):vs=ls.toArray:=by
 apply Array.ext
 . simpa using hvs
 . intro i c d
   have:=hv i (by rw [<- hvs];exact c)
   rw [é] at this
   have e:vs.getD i Go.undef=vs[i]:=by simp [c]
   rw [e] at this
   have key:∀ {p:PV} {a b:Value},V w U φ p b->p=.lit a->b=a:=fun h e=>by
    cases h with
    |lit _ _=>injection e
    |_=>cases e
   rw [key this rfl];simp
theorem VC.lits (ls:List Value)(r:Value)(h:∀ w,PC w->Calls P f ls.toArray w fun e w'=>e=.returned r/\Below w.heap.size w w'):VC P f (ls.map .lit) σ fun x σ'=>x=.ret (.lit r)/\σ'=σ:=by
 intro w G vs hs b d _ c
 rw [Lb b d]
 refine (h w c.1).mono fun e w' ⟨g,hb⟩=>?_
 exact⟨_,_,{ G with U:=G.U },⟨rfl,rfl⟩,⟨r,g,.lit _ _,trivial⟩,hs.below hb (fun _ _ h=>.inl h) (fun _ _ h=>h),Ext.ofBelow hs hb (fun _ _ h=>.inl h) (fun _ _ h=>h)⟩
theorem VC.litErr (ls:List Value)(r:Value)(h:∀ w,PC w->Calls P f ls.toArray w fun e w'=>(∃ t v,e=.returned (.tuple #[r,.iface t v]))/\Below w.heap.size w w'):VC P f (ls.map .lit) σ fun x σ'=>x=.ret (.tup [.lit r,.ifc])/\σ'=σ:=by
 intro w G vs hs b d _ c
 rw [Lb b d]
 refine (h w c.1).mono fun e w' ⟨⟨t,v,g⟩,hb⟩=>?_
 refine⟨_,_,{ G with U:=G.U },⟨rfl,rfl⟩,⟨_,g,.tup _ _ _ rfl fun i a=>?_,fun i xs a=>?_⟩,hs.below hb (fun _ _ h=>.inl h) (fun _ _ h=>h),Ext.ofBelow hs hb (fun _ _ h=>.inl h) (fun _ _ h=>h)⟩
 . match i,a with
   |0,_=>exact .lit _ _
   |1,_=>exact .ifc _ _ _
 . match i with
   |0=>cases a
   |1=>cases a
   |i+2=>simp at a
theorem VC.litNil (ls:List Value)(r:Value)(h:∀ w,PC w->Calls P f ls.toArray w fun e w'=>e=.returned (.tuple #[r,.nilIface])/\Below w.heap.size w w'):VC P f (ls.map .lit) σ fun x σ'=>x=.ret (.tup [.lit r,.lit .nilIface])/\σ'=σ:=by
 intro w G vs hs c g _ d
 rw [Lb c g]
 refine (h w d.1).mono fun e w' ⟨j,hb⟩=>?_
 refine⟨_,_,{ G with U:=G.U },⟨rfl,rfl⟩,⟨_,j,.tup _ _ _ rfl fun i b=>?_,fun i xs b=>?_⟩,hs.below hb (fun _ _ h=>.inl h) (fun _ _ h=>h),Ext.ofBelow hs hb (fun _ _ h=>.inl h) (fun _ _ h=>h)⟩
 . match i,b with
   |0,_=>exact .lit _ _
   |1,_=>exact .lit _ _
 . match i with
   |0=>cases b
   |1=>cases b
   |i+2=>simp at b
theorem VC.freshSl (ls us:List Value)(T:TypeId)(h1:∀ v∈us,v.oneCell'=true)(hmax:us.length<=9223372036854775807)
 (h:∀ w,PC w->Calls P f ls.toArray w fun e w'=>e=.returned (.slice (some ⟨w.heap.size,0,none⟩) us.length us.length)/\w'=w.alloc (.cells us.toArray T)) :
 VC P f (ls.map .lit) σ fun x σ'=>x=.ret (.sl (us.map fun v=>[.lit v]) .full)/\σ'=σ:=by
 intro w G vs hs g n _ k
 rw [Lb g n]
 refine (h w k.1).mono fun e w' ⟨o,p⟩=>?_
 subst p
 have hb:Below w.heap.size w (w.alloc (.cells us.toArray T)):=Below.alloc (Below.refl _ _) (Ü _) _
 have q:(w.alloc (.cells us.toArray T)).heap.size=w.heap.size+1:=by simp
 have m:∀ b i,(G.U b i∨b=w.heap.size)->G.U b i∨w.heap.size<=b/\b<(w.alloc (.cells us.toArray T)).heap.size:=fun b i h=>by
  rcases h with h|h
  . exact .inl h
  . exact .inr (by omega)
 refine⟨_,_,{ G with U:=fun b i=>G.U b i∨b=w.heap.size },⟨rfl,rfl⟩,⟨_,o,?_,trivial⟩,hs.below hb m (fun _ _ h=>.inl h),Ext.ofBelow hs hb m (fun _ _ h=>.inl h)⟩
 have r:us.length=(us.map fun v=>[PV.lit v]).length:=by simp
 have key:=V.sl (w:=w.alloc (.cells us.toArray T)) (U:=fun b i=>G.U b i∨b=w.heap.size) G.φ (us.map fun v=>[PV.lit v]) .full w.heap.size 0 1 us.length (fun i _=>us.getD i Go.undef) (by simp) hmax (by simp) (fun i j _ _=>.inr rfl)
  (fun i j d l=>by
   have a:i<us.length:=by simpa using d
   have c:j=0:=by omega
   subst c
   have e:(w.alloc (.cells us.toArray T)).heap[w.heap.size]?=some (.cells us.toArray T (0,0)):=by show (w.heap.push _)[w.heap.size]?=_;simp
   unfold World.cell?
   simp only [e]
   simp [a])
  (fun i j d l=>by
   have a:i<us.length:=by simpa using d
   have:us.getD i Go.undef=us[i]:=by simp [a]
   rw [this];exact h1 _ (Ù a))
  (fun i d j l=>by
   have a:i<us.length:=by simpa using d
   have e1:us.getD i Go.undef=us[i]:=by simp [a]
   have c:j=0:=by simp at l;omega
   subst c
   rw [e1]
   simp only [é,ĕ]
   exact .lit _ _)
  (fun _=>by simp) (by simp)
 rw [<- r] at key
 exact key
end
end Go.Vl
namespace Go.Vl
open Go Go.RowKit
section
variable {P:Program} {f:FuncId} {σ:List (List PV)}
theorem VC.less {args:List PV}{Q Q':Cb->List (List PV)->Prop}(h:VC P f args σ Q)(hq:∀ x σ',Q x σ'->∃ x',Q' x' σ'/\∀ w G e,CT w G x e->CT w G x' e):VC P f args σ Q' :=
 fun w G vs h1 h2 h3 h4 h5=>(h w G vs h1 h2 h3 h4 h5).mono fun _ _ ⟨x,σ',G',q,he,r⟩=>by
  obtain⟨x',q',hx⟩:=hq _ _ q
  exact⟨x',σ',G',q',hx _ _ _ he,r⟩
end
end Go.Vl
namespace Go.Vl
open Go Go.RowKit
section
variable {P:Program} {f:FuncId} {w:World} {U:Nat->Nat->Prop}
theorem VC.out {args:List PV}{vs:Array Value}{Q:Cb->List (List PV)->Prop}(h:VC P f args [] Q)(hg:PC w)(hb:∀ b∈Vj,b<w.heap.size)(hU:∀ b i,U b i->b<w.heap.size)(hsz:vs.size=args.length)
 (hv:∀ i (h:i<args.length),V w U [] args[i] (vs.getD i Go.undef)):Calls P f vs w fun e w'=>(∃ x σ' G',Q x σ'/\CT w' G' x e)/\Below w.heap.size w w':=by
 refine (h w { U:=U,φ:=[],Ω:=fun _=>none } vs ⟨rfl,by simp,fun k b cs g=>by simp at g,hU,fun b hB=>absurd rfl hB⟩ hsz hv (fun b l e=>by cases e) ⟨hg,fun b hB=>⟨hb b hB,by simp,rfl⟩⟩).mono fun e w' c=>?_
 obtain⟨x,σ',G',j,d,_,m⟩:=c
 exact⟨⟨x,σ',G',j,d⟩,m.below rfl (fun _=>rfl)⟩
end
end Go.Vl
namespace Go.Proofs.YtehfpameijkafaaGreatDoor
open Go.ChangeShapes Go.WideShapes Go.ChangeAt Go.RowKit Go.Q Go.Vl
theorem Tryz.own:ownKnob Tryz.prog.godebug=none:=by kernel_rfl
theorem Tryz.laidOut:laidOutB Tryz.prog=true:=by kernel_rfl
abbrev Kq:List (String×DataW Unit) :=
 [("math/bits.deBruijn32tab",Rows.laid_math_bits_deBruijn32tab),("math/bits.deBruijn64tab",Rows.laid_math_bits_deBruijn64tab),("internal/strconv.uint64pow10",Rows.laid_internal_strconv_uint64pow10),("strconv.ErrRange",Rows.laid_strconv_ErrRange),
  ("strconv.ErrSyntax",Rows.laid_strconv_ErrSyntax),("unicode.White_Space",Rows.laid_unicode_White_Space),("strings.asciiSpace",Rows.laid_strings_asciiSpace)]
theorem Aad:(Rows.laid_internal_strconv_uint64pow10:DataW Unit)=Lib.tabData .u64 Lib.pow10Tab:=by kernel_rfl
theorem WR:(Rows.laid_strings_asciiSpace:DataW Unit)=Lib.tabData .u8 Lib.asciiSpaceTab:=by kernel_rfl
theorem Tk : "*"++ "errors.errorString" = "*errors.errorString":=by decide
theorem Yj (u:TypeId)(h:Tryz.prog.typeName? 3 u=some "*errors.errorString"):u=284 :=
 typeName_ptr_named (nm:= "errors.errorString") (by rw [Tk];kernel_rfl) (by kernel_rfl) (by decide) u (by rw [Tk];exact h)
theorem SZ {W:World}{n:String}{g:Nat}{cs:Array Value}(hg:Tryz.prog.globalNamed n=some g)(h:W.var? Tryz.prog n=some cs):∃ T o,W.heap[g]?=some (.cells cs T o):=by
 unfold World.var? at h
 rw [hg] at h
 simp only [Á] at h
 cases a:W.heap[g]? with
 |none=>rw [a] at h;cases h
 |some o =>
  rw [a] at h
  cases o<;>simp at h
  subst h
  exact⟨_,_,rfl⟩
theorem YF:Tryz.prog.globalNamed "strings.asciiSpace" = some 0:=by kernel_rfl
theorem Ae4:Tryz.prog.globalNamed "internal/strconv.uint64pow10" = some 5:=by kernel_rfl
theorem Ae2:Tryz.prog.globalNamed "strconv.ErrSyntax" = some 3:=by kernel_rfl
theorem Ae3:Tryz.prog.globalNamed "strconv.ErrRange" = some 4:=by kernel_rfl
theorem Of {W:World}(h:laidMetH Tryz.prog Kq W):PC W/\∀ b∈Vj,b<W.heap.size:=by
 rw [MakeChecks.laidMetH_plain _ _ _ (by kernel_rfl)] at h
 have a:=h.tail.tail
 have c:=a.tail
 have d:=c.tail
 have e:=d.tail.tail
 rw [Aad] at a
 rw [WR] at e
 have t3:=Lib.tabIs_of_head Ae4 (by kernel_rfl) Tryz.underlying296 Tryz.underlying205 (by kernel_rfl) (by kernel_rfl) a
 have t0:=Lib.tabIs_of_head YF (by kernel_rfl) Tryz.underlying251 Tryz.underlying5 (by kernel_rfl) (by kernel_rfl) e
 obtain⟨T0,o0,b0⟩:=SZ YF t0
 obtain⟨T3,o3,b3⟩:=SZ Ae4 t3
 obtain⟨a5,_,v5,_⟩:=laid_sentinel c Ae3 (by kernel_rfl) Tryz.underlying239 Yj Tryz.underlying284 Tryz.underlying286 rfl rfl Tryz.underlying9 (by kernel_rfl) (by kernel_rfl)
 obtain⟨a4,_,v4,_⟩:=laid_sentinel d Ae2 (by kernel_rfl) Tryz.underlying239 Yj Tryz.underlying284 Tryz.underlying286 rfl rfl Tryz.underlying9 (by kernel_rfl) (by kernel_rfl)
 have c4:=World.var?_cell Ae2 v4 0
 have c5:=World.var?_cell Ae3 v5 0
 refine⟨⟨⟨⟨T0,o0,b0⟩,T3,o3,b3⟩,⟨_,c4,.inr ⟨_,_,rfl⟩⟩,_,c5,.inr ⟨_,_,rfl⟩⟩,fun b hb=>?_⟩
 simp only [Vj,List.mem_cons,List.not_mem_nil,or_false] at hb
 rcases hb with rfl|rfl|rfl|rfl
 . exact (Array.getElem?_eq_some_iff.1 b0).1
 . exact (Array.getElem?_eq_some_iff.1 b3).1
 . exact World.block_lt_of_cell? _ _ c4
 . exact World.block_lt_of_cell? _ _ c5
theorem Zb (os:Os)(args:Array Value):laidMetH Tryz.prog Kq ((World.doorLaid Tryz.prog 400 os).forCall (fun _ _=>0) ⟨#[],args,[]⟩).memory:=by
 rw [MakeChecks.laidMetH_plain _ _ _ (by kernel_rfl)]
 exact laidMet_of_run' 8 (by kernel_rfl) (by kernel_rfl)
end Go.Proofs.YtehfpameijkafaaGreatDoor
