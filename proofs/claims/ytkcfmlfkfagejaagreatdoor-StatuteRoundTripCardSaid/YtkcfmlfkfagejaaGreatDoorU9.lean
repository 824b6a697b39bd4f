/-
  Statements that step an iterator, or that weaken the state between their operations, in plain values. No program. The function values of the table of operations, as plain values; lookups in maps known by a list. No program.
-/
import Derived.Test.YtkcfmlfkfagejaaGreatDoorU6
import Derived.Test.YtkcfmlfkfagejaaGreatDoorU8
set_option linter.unusedVariables false
set_option linter.unusedSimpArgs false
namespace Go.Sp
open Go Go.RowKit Go.Vl
section
variable {P:Program} {L:Cf} {N:Nat} {k:List TI} {Q:AX->St->Prop} {st:St} {ops:Array Oper} {K':AX->St->Prop}
theorem wrT {l:List Oper}(M:List Nat)(c:Nat)(qs:List I1)(S:St){p:Prop}(hp:p)(he:(VR M c L.L (Qw P ops l qs st),Vp k,Nat.ble N c)=(some (p,S),true,true))(h:WS P L N k Q S)
 (hK:∀ st1 st2,clr L.L st1=st2->WS P L N k Q st2->K' .normal st1):BR P ops K' l st:=by
 obtain⟨h1,h2⟩:=Ø he
 obtain⟨h2,h3⟩:=Ø h2
 obtain⟨st1,e1,e2⟩:=Mv h1
 exact GC e1 hp (hK st1 _ rfl (Md M c h2 (Û h3) e2 h))
def Aid (M:List Nat)(c:Nat):Option (Prop×Rn)->Option (Prop×St)
 |some (p,.at_ st)=>some (p,low M c st)
 |_=>none
theorem Ahs {i m:Nat}{d:Bool}(M:List Nat)(c:Nat)(qs:List I1)(S S2:St){p:Prop}(hp:p)(he:(Aid M c (Qw P ops (ops.toList.take m) qs st),DZ L.pl i,Nat.ble N c)=(some (p,S),some [9996,m],true))(hw:Wk N S S2)
 (h:∀ K':AX->St->Prop,(∀ st1 st2,clr L.L st1=st2->WS P L N k Q st2->K' .normal st1)->BR P ops K' (ops.toList.drop m) S2):WS P L N (.code (.region i ops d)::k) Q st:=by
 obtain⟨h1,h2⟩:=Ø he
 obtain⟨h2,h3⟩:=Ø h2
 refine Y4 h2 fun K' hK _=>?_
 unfold Aid at h1
 split at h1
 . rename_i p' st1 e1
   obtain⟨rfl,rfl⟩:=Ø (Ac h1)
   exact GC e1 hp (.inl ⟨S2,Wk.trans (Wk.low (M:=M) (Û h3)) hw,h K' hK⟩)
 . cases h1
theorem Xm {o:Oper}{rest:List Oper}{x:Operand}{d k:Nat}{kvs:List (Value×Value)}{seen:List Nat}(hop:o.op=.next x false)(hd:o.dst=some d)(hg:o.guard=none)(hi:LL st x=some (k,kvs,seen))
 (h1:(∀ i,i<kvs.length->i∈seen)->BR P ops K' rest (st.put (some d) (.tup [.lit (.bool false)])))
 (h2:∀ i (h:i<kvs.length),i∉seen->BR P ops K' rest (({ st with σ:=st.σ.set k [.mit kvs (seen++[i])] }:St).put (some d) (.tup [.lit (.bool true),Lg kvs[i].1,Lg kvs[i].2]))):BR P ops K' (o::rest) st:=by
 unfold BR
 rw [show F4 ops st o=some true by unfold F4;rw [hg]]
 simp only
 rw [show K6 P o st=none by unfold K6 GK LR;rw [hop,hd];rfl]
 simp only
 rw [show FR P o st=none by unfold FR;rw [hop]]
 simp only
 rw [show Pw o st=none by unfold Pw;rw [hop]]
 simp only
 unfold Ua
 rw [hop,hd]
 simp only
 rw [hi]
 exact⟨h1,h2⟩
theorem VU {o:Oper}{rest:List Oper}{x:Operand}{d k i:Nat}{kvs:List (Value×Value)}{seen:List Nat}{e:Value×Value}(hop:o.op=.entry x)(hd:o.dst=some d)(hg:o.guard=none)(hi:LL st x=some (k,kvs,seen++[i]))(he:kvs[i]?=some e)
 (h:BR P ops K' rest (st.put (some d) (.tup [Lg e.1,Lg e.2]))):BR P ops K' (o::rest) st:=by
 unfold BR
 rw [show F4 ops st o=some true by unfold F4;rw [hg]]
 simp only
 rw [show K6 P o st=some (true,st.put (some d) (.tup [Lg e.1,Lg e.2])) by
  unfold K6 GK LR
  rw [hop,hd]
  simp only [ë]
  unfold PR
  rw [hi]
  simp only [List.getLast?_concat,Á,he,ì]]
 exact⟨rfl,h⟩
def Ug (P:Program)(ops:Array Oper)(m:Nat)(qs1:List I1)(pv:PV)(qs2:List I1)(st:St):Option (Prop×Rn) :=
 match Qw P ops (ops.toList.take m) qs1 st,ops.toList.drop m with
 |some (p1,.at_ st1),o::rest=>match o.op,o.dst,o.guard with
  |.convert s d x,some t,none=>match Dh st1 x,okB (Lt P s&&u8T P d) with
   |.lit (.string bs),some _=>match Qw P ops rest qs2 ((st1.aft st1.σ).put (some t) pv) with
    |some (p2,r)=>some (p1/\(bs.size<=140737488355328/\.sl (CO bs) .shared=pv)/\p2,r)
    |none=>none
   |_,_=>none
  |_,_,_=>none
 |_,_=>none
theorem Afy {i:Nat}{d:Bool}(m:Nat)(M:List Nat)(c:Nat)(qs1:List I1)(pv:PV)(qs2:List I1)(S:St){p:Prop}(hp:p)(he:(VR M c L.L (Ug P ops m qs1 pv qs2 st),DZ L.pl i,Vp k,Nat.ble N c)=(some (p,S),some [9996,m],true,true))
 (h:WS P L N k Q S):WS P L N (.code (.region i ops d)::k) Q st:=by
 obtain⟨h1,h2⟩:=Ø he
 obtain⟨h2,h3⟩:=Ø h2
 obtain⟨h3,h4⟩:=Ø h3
 obtain⟨st2,e1,e2⟩:=Mv h1
 refine Y4 h2 fun K' hK _=>?_
 unfold Ug at e1
 split at e1
 . rename_i p1 st1 o rest r1 r2
   split at e1
   . rename_i s dd x t g1 g2 g3
     split at e1
     . rename_i bs _ g4 g5
       split at e1
       . rename_i p2 r g6
         obtain⟨rfl,rfl⟩:=Ø (Ac e1)
         obtain⟨k1,⟨k2,k3⟩,k4⟩:=hp
         have g5:=Eg g5
         rw [Ã] at g5
         refine GC r1 k1 (.inr ⟨o,rest,r2,?_⟩)
         unfold K9
         rw [g1,g2,g3]
         simp only
         rw [g4]
         refine⟨g5.1,g5.2,k2,?_⟩
         rw [k3]
         exact GC g6 k4 (hK _ _ rfl (Md M c h3 (Û h4) e2 h))
       . cases e1
     . cases e1
   . cases e1
 . cases e1
def QW (s:Â):Option (List Int):=if s.size<=140737488355328 then some (s.data.toList.map fun b=>(b.toNat:Int)) else none
theorem Agg {s:Â}{v:List Int}{row:Int->List PV}(h:QW s=some v)(hr:∀ x,row x=[.lit (.int .u8 x)]):s.size<=140737488355328/\PV.sl (CO s) .shared=.sl (v.map row) .shared:=by
 unfold QW at h
 split at h
 . rename_i hs
   refine⟨hs,?_⟩
   rw [<- Ac h,ġ]
   congr 1
   unfold CO
   refine Ħ fun b _=>?_
   exact (hr _).symm
 . cases h
theorem oai {α:Type}{l:List α}{f:α->PV}{m:Nat}{i:Int}{x:α}(h:gi l i=some x)(hm:l.length=m)(hf:∀ x,B1 (f x)=f x) :
 decide (0<=i/\i<(m:Int)/\i.toNat*1+1<=(l.map f).length/\0<1)=true/\Sq (l.map f) (i.toNat*1) 1 false=f x:=by
 unfold gi at h
 split at h
 . rename_i h0
   have hl:=(List.getElem?_eq_some_iff.1 h)
   refine⟨?_,?_⟩
   . rw [Í,Ó]
     have:=hl.1
     omega
   . unfold Sq
     rw [È (by simp),Nat.mul_one,List.getD,â,h]
     exact hf x
 . cases h
section
open Go.Q
def IE (P:Program)(ops:Array Oper)(N:Nat)(fin:St->St)(qs:List I1):OT->St->Option (Prop×List St)
 |.done,st=>some (True,[fin st])
 |.one i t,st=>match ops[i]? with
  |some o=>match Oq P ops [N,N+1] st i o (qs.getD i .no) with
   |some (p,.at_ st1)=>match IE P ops N fin qs t st1 with
    |some (p2,l)=>some (Wm p p2,l)
    |none=>none
   |_=>none
  |none=>none
 |.or i sw t r,st=>match ops[i]? with
  |some o=>match Oq P ops [N,N+1] st i o (qs.getD i .no) with
   |some (p,.at_ st1)=>match sw with
    |false=>match IE P ops N fin qs t st1,IE P ops N fin qs r st with
     |some (p2,l),some (p3,l3)=>some (Wm p p2/\p3,l++l3)
     |_,_=>none
    |true=>match Nat.beq st1.σ.length (N+2) with
     |true=>match IE P ops N fin qs t (swS N st1),IE P ops N fin qs r st with
      |some (p2,l),some (p3,l3)=>some (Wm p p2/\p3,l++l3)
      |_,_=>none
     |false=>none
   |_=>none
  |none=>none
 |.no,_=>some (True,[])
theorem GD {P:Program}{ops:Array Oper}{N:Nat}{fin:St->St}{qs:List I1}{K:AX->St->Prop}:∀ (t:OT) (st:St) {p:Prop} {l:List St},IE P ops N fin qs t st=some (p,l)->p->(∀ st1,fin st1∈l->K .normal st1)->Yu P ops N K t st
 |.done,st,p,l,h,hp,hK=>by
  unfold IE at h
  obtain⟨_,rfl⟩:=Ø (Ac h)
  exact hK st (by simp)
 |.one i t,st,p,l,h,hp,hK=>by
  unfold IE at h
  unfold Yu
  split at h
  . rename_i o ho
    split at h
    . rename_i p1 st1 e
      split at h
      . rename_i p2 l2 e2
        obtain⟨rfl,rfl⟩:=Ø (Ac h)
        obtain⟨h1,h2⟩:=H2 hp
        exact FA ho e h1 (GD t st1 e2 h2 hK)
      . cases h
    . cases h
  . cases h
 |.or i sw t r,st,p,l,h,hp,hK=>by
  unfold IE at h
  unfold Yu
  split at h
  . rename_i o ho
    split at h
    . rename_i p1 st1 e
      split at h
      . split at h
        . rename_i p2 l2 p3 l3 e2 e3
          obtain⟨rfl,rfl⟩:=Ø (Ac h)
          obtain⟨hp,hp3⟩:=hp
          obtain⟨h1,h2⟩:=H2 hp
          exact⟨FA ho e h1 (GD t st1 e2 h2 fun s hs=>hK s (Ę _ hs)),GD r st e3 hp3 fun s hs=>hK s (List.mem_append_right _ hs)⟩
        . cases h
      . split at h
        . rename_i hb
          split at h
          . rename_i p2 l2 p3 l3 e2 e3
            obtain⟨rfl,rfl⟩:=Ø (Ac h)
            obtain⟨hp,hp3⟩:=hp
            obtain⟨h1,h2⟩:=H2 hp
            exact⟨FA ho e h1 ⟨Nat.eq_of_beq_eq_true hb,GD t _ e2 h2 fun s hs=>hK s (Ę _ hs)⟩,GD r st e3 hp3 fun s hs=>hK s (List.mem_append_right _ hs)⟩
          . cases h
        . cases h
    . cases h
  . cases h
 |.no,_,_,_,_,_,_=>trivial
theorem wrE {P:Program}{L:Cf}{N:Nat}{k:List TI}{Q:AX->St->Prop}{st:St}{i:Nat}{ops:Array Oper}{d:Bool}(m:Nat)(M:List Nat)(c:Nat)(qs:List I1)(S:St){p:Prop}(hp:p)
 (he:(IE P ops st.σ.length (fun s=>low M c (clr L.L s)) qs (UD ops) st,DZ L.pl i,Vp k,Nat.ble N c)=(some (p,List.replicate m S),some [9995],true,true)) (h:WS P L N k Q S):WS P L N (.code (.region i ops d)::k) Q st:=by
 obtain⟨h1,h2⟩:=Ø he
 obtain⟨h2,h3⟩:=Ø h2
 obtain⟨h3,h4⟩:=Ø h3
 refine Acw h2 ?_
 intro K' hK _
 refine GD _ st h1 hp fun st1 hs=>hK _ _ rfl (Md M c h3 (Û h4) rfl ?_)
 rw [List.eq_of_mem_replicate hs];exact h
end
end
end Go.Sp
namespace Go.Sp
open Go Go.Vl
inductive Do where
 |nil
 |c (f:Nat)
 |k (n:Int)
 |is (f:Nat)
deriving DecidableEq
def LO:Do->Bool
 |.nil=>false
 |_=>true
def K4:Do->Nat
 |.nil=>0
 |.c f=>f
 |.k _=>93
 |.is _=>101
def KM:Do->List PV
 |.k n=>[.vptr [iP n] 0]
 |.is f=>[.vptr [.fno true f []] 0]
 |_=>[]
def gfn:Do->Option Do
 |.nil=>none
 |d=>some d
theorem ofn {e d:Do}(h:gfn e=some d):true=true/\PV.fno (LO e) (K4 e) (KM e)=.fno true (K4 d) (KM d):=by
 cases e<;>simp only [gfn,Å,reduceCtorEq] at h<;>subst h<;>exact⟨rfl,rfl⟩
theorem Mb {a b:Int}(h:(a == b)=true):a=b:=by simpa using h
theorem Yo (k:Â):∀ (l:List (ByteArray×Int)) (i:Nat),match Jq .string (.string k) (NL l) i with|some (some (_,v))=>C5 l k=((match v with|.int _ n=>n|_=>0),true)/\v=.int .i64 (C5 l k).1|some none=>C5 l k=(0,false)|none=>False
 | [],i=>by simp [NL,Jq,C5]
 |(a,v)::r,i=>by
  have ih:=Yo k r (i+1)
  show match Jq .string (.string k) ((.string a,.int .i64 v)::NL r) i with|some (some (_,v))=>_|some none=>_|none=>_
  unfold Jq C5
  have e:Instr.sameNow .string (.string k) (.string a)=some (decide (k=a)):=by
   show some (k.data == a.data)=_
   by_cases h:k=a
   . subst h;simp
   . have:k.data≠a.data:=fun e=>h (by cases k;cases a;simp_all)
     simp [h,this]
  simp only [e]
  by_cases hk:k=a
  . subst hk;simp
  . simp only [hk,decide_false,í];exact ih
theorem Agd (l:List (ByteArray×Int))(k:Â):S5 .string (NL l) (.string k) (some (.int .i64 0))=some (.int .i64 (C5 l k).1,(C5 l k).2):=by
 unfold S5
 have h:=Yo k l 0
 split
 . rename_i e;rw [e] at h;rw [h.2];simp [h.1]
 . rename_i e;rw [e] at h;simp only at h;rw [h];rfl
 . rename_i e;rw [e] at h;exact h.elim
end Go.Sp
