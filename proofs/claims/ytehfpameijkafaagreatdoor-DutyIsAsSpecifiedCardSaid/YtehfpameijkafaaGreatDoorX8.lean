/-
  Statements that step an iterator, or that weaken the state between their operations, in plain values. No program. The function values of the table of operations, as plain values; lookups in maps known by a list. No program.
-/
import Derived.Test.YtehfpameijkafaaGreatDoorX5
import Derived.Test.YtehfpameijkafaaGreatDoorX7
set_option linter.unusedVariables false
set_option linter.unusedSimpArgs false
namespace Go.Sp
open Go Go.RowKit Go.Vl
section
variable {P:Program} {L:Cf} {N:Nat} {k:List TI} {Q:AX->St->Prop} {st:St} {ops:Array Oper} {K':AX->St->Prop}
theorem wrT {l:List Oper}(M:List Nat)(c:Nat)(qs:List IS)(S:St){p:Prop}(hp:p)(he:(Wb M c L.L (QN P ops l qs st),V9 k,Nat.ble N c)=(some (p,S),true,true))(h:WS P L N k Q S)
 (hK:∀ st1 st2,clr L.L st1=st2->WS P L N k Q st2->K' .normal st1):B5 P ops K' l st:=by
 obtain⟨b,a⟩:=Ô he
 obtain⟨a,d⟩:=Ô a
 obtain⟨st1,e1,e2⟩:=MH b
 exact GY e1 hp (hK st1 _ rfl (Li M c a (Ö d) e2 h))
def Ahp (M:List Nat)(c:Nat):Option (Prop×Rn)->Option (Prop×St)
 |some (p,.at_ st)=>some (p,low M c st)
 |_=>none
theorem Ag7 {i m:Nat}{d:Bool}(M:List Nat)(c:Nat)(qs:List IS)(S S2:St){p:Prop}(hp:p)(he:(Ahp M c (QN P ops (ops.toList.take m) qs st),Eb L.pl i,Nat.ble N c)=(some (p,S),some [9996,m],true))(hw:Wk N S S2)
 (h:∀ K':AX->St->Prop,(∀ st1 st2,clr L.L st1=st2->WS P L N k Q st2->K' .normal st1)->B5 P ops K' (ops.toList.drop m) S2):WS P L N (.code (.region i ops d)::k) Q st:=by
 obtain⟨a,b⟩:=Ô he
 obtain⟨b,e⟩:=Ô b
 refine YJ b fun K' f _=>?_
 unfold Ahp at a
 split at a
 . rename_i p' st1 e1
   obtain⟨rfl,rfl⟩:=Ô (Ag a)
   exact GY e1 hp (.inl ⟨S2,Wk.trans (Wk.low (M:=M) (Ö e)) hw,h K' f⟩)
 . cases a
theorem X6 {o:Oper}{rest:List Oper}{x:Operand}{d k:Nat}{kvs:List (Value×Value)}{seen:List Nat}(hop:o.op=.next x false)(hd:o.dst=some d)(hg:o.guard=none)(hi:Mi st x=some (k,kvs,seen))
 (h1:(∀ i,i<kvs.length->i∈seen)->B5 P ops K' rest (st.put (some d) (.tup [.lit (.bool false)])))
 (h2:∀ i (h:i<kvs.length),i∉seen->B5 P ops K' rest (({ st with σ:=st.σ.set k [.mit kvs (seen++[i])] }:St).put (some d) (.tup [.lit (.bool true),L1 kvs[i].1,L1 kvs[i].2]))):B5 P ops K' (o::rest) st:=by
 unfold B5
 rw [show CS ops st o=some true by unfold CS;rw [hg]]
 simp only
 rw [show I3 P o st=none by unfold I3 FM KU;rw [hop,hd];rfl]
 simp only
 rw [show Fm P o st=none by unfold Fm;rw [hop]]
 simp only
 rw [show Ng o st=none by unfold Ng;rw [hop]]
 simp only
 unfold S9
 rw [hop,hd]
 simp only
 rw [hi]
 exact⟨h1,h2⟩
theorem Wi {o:Oper}{rest:List Oper}{x:Operand}{d k i:Nat}{kvs:List (Value×Value)}{seen:List Nat}{e:Value×Value}(hop:o.op=.entry x)(hd:o.dst=some d)(hg:o.guard=none)(hi:Mi st x=some (k,kvs,seen++[i]))(he:kvs[i]?=some e)
 (h:B5 P ops K' rest (st.put (some d) (.tup [L1 e.1,L1 e.2]))):B5 P ops K' (o::rest) st:=by
 unfold B5
 rw [show CS ops st o=some true by unfold CS;rw [hg]]
 simp only
 rw [show I3 P o st=some (true,st.put (some d) (.tup [L1 e.1,L1 e.2])) by
  unfold I3 FM KU
  rw [hop,hd]
  simp only [ñ]
  unfold Ql
  rw [hi]
  simp only [List.getLast?_concat,Á,he,ç]]
 exact⟨rfl,h⟩
def U9 (P:Program)(ops:Array Oper)(m:Nat)(qs1:List IS)(pv:PV)(qs2:List IS)(st:St):Option (Prop×Rn) :=
 match QN P ops (ops.toList.take m) qs1 st,ops.toList.drop m with
 |some (p1,.at_ st1),o::rest=>match o.op,o.dst,o.guard with
  |.convert s d x,some t,none=>match C5 st1 x,okB (LK P s&&u8T P d) with
   |.lit (.string bs),some _=>match QN P ops rest qs2 ((st1.aft st1.σ).put (some t) pv) with
    |some (p2,r)=>some (p1/\(bs.size<=140737488355328/\.sl (CJ bs) .shared=pv)/\p2,r)
    |none=>none
   |_,_=>none
  |_,_,_=>none
 |_,_=>none
theorem Ae2 {i:Nat}{d:Bool}(m:Nat)(M:List Nat)(c:Nat)(qs1:List IS)(pv:PV)(qs2:List IS)(S:St){p:Prop}(hp:p)(he:(Wb M c L.L (U9 P ops m qs1 pv qs2 st),Eb L.pl i,V9 k,Nat.ble N c)=(some (p,S),some [9996,m],true,true))
 (h:WS P L N k Q S):WS P L N (.code (.region i ops d)::k) Q st:=by
 obtain⟨f,b⟩:=Ô he
 obtain⟨b,e⟩:=Ô b
 obtain⟨e,g⟩:=Ô e
 obtain⟨st2,e1,e2⟩:=MH f
 refine YJ b fun K' j _=>?_
 unfold U9 at e1
 split at e1
 . rename_i p1 st1 o rest r1 r2
   split at e1
   . rename_i s dd x t g1 g2 g3
     split at e1
     . rename_i bs _ g4 g5
       split at e1
       . rename_i p2 r g6
         obtain⟨rfl,rfl⟩:=Ô (Ag e1)
         obtain⟨k1,⟨k2,k3⟩,k4⟩:=hp
         have g5:=Ds g5
         rw [Å] at g5
         refine GY r1 k1 (.inr ⟨o,rest,r2,?_⟩)
         unfold MK
         rw [g1,g2,g3]
         simp only
         rw [g4]
         refine⟨g5.1,g5.2,k2,?_⟩
         rw [k3]
         exact GY g6 k4 (j _ _ rfl (Li M c e (Ö g) e2 h))
       . cases e1
     . cases e1
   . cases e1
 . cases e1
def R2 (s:Æ):Option (List Int):=if s.size<=140737488355328 then some (s.data.toList.map fun b=>(b.toNat:Int)) else none
theorem Afj {s:Æ}{v:List Int}{row:Int->List PV}(h:R2 s=some v)(hr:∀ x,row x=[.lit (.int .u8 x)]):s.size<=140737488355328/\PV.sl (CJ s) .shared=.sl (v.map row) .shared:=by
 unfold R2 at h
 split at h
 . rename_i hs
   refine⟨hs,?_⟩
   rw [<- Ag h,List.map_map]
   congr 1
   unfold CJ
   refine List.map_congr_left fun b _=>?_
   exact (hr _).symm
 . cases h
section
open Go.Q
def Jh (P:Program)(ops:Array Oper)(N:Nat)(fin:St->St)(qs:List IS):OT->St->Option (Prop×List St)
 |.done,st=>some (True,[fin st])
 |.one i t,st=>match ops[i]? with
  |some o=>match OP P ops [N,N+1] st i o (qs.getD i .no) with
   |some (p,.at_ st1)=>match Jh P ops N fin qs t st1 with
    |some (p2,l)=>some (W6 p p2,l)
    |none=>none
   |_=>none
  |none=>none
 |.or i sw t r,st=>match ops[i]? with
  |some o=>match OP P ops [N,N+1] st i o (qs.getD i .no) with
   |some (p,.at_ st1)=>match sw with
    |false=>match Jh P ops N fin qs t st1,Jh P ops N fin qs r st with
     |some (p2,l),some (p3,l3)=>some (W6 p p2/\p3,l++l3)
     |_,_=>none
    |true=>match Nat.beq st1.σ.length (N+2) with
     |true=>match Jh P ops N fin qs t (swS N st1),Jh P ops N fin qs r st with
      |some (p2,l),some (p3,l3)=>some (W6 p p2/\p3,l++l3)
      |_,_=>none
     |false=>none
   |_=>none
  |none=>none
 |.no,_=>some (True,[])
theorem GZ {P:Program}{ops:Array Oper}{N:Nat}{fin:St->St}{qs:List IS}{K:AX->St->Prop}:∀ (t:OT) (st:St) {p:Prop} {l:List St},Jh P ops N fin qs t st=some (p,l)->p->(∀ st1,fin st1∈l->K .normal st1)->Y7 P ops N K t st
 |.done,st,p,l,h,hp,hK=>by
  unfold Jh at h
  obtain⟨_,rfl⟩:=Ô (Ag h)
  exact hK st (by simp)
 |.one i t,st,p,l,h,hp,hK=>by
  unfold Jh at h
  unfold Y7
  split at h
  . rename_i o ho
    split at h
    . rename_i p1 st1 e
      split at h
      . rename_i p2 l2 e2
        obtain⟨rfl,rfl⟩:=Ô (Ag h)
        obtain⟨h1,h2⟩:=HP hp
        exact FO ho e h1 (GZ t st1 e2 h2 hK)
      . cases h
    . cases h
  . cases h
 |.or i sw t r,st,p,l,h,hp,hK=>by
  unfold Jh at h
  unfold Y7
  split at h
  . rename_i o ho
    split at h
    . rename_i p1 st1 e
      split at h
      . split at h
        . rename_i p2 l2 p3 l3 e2 e3
          obtain⟨rfl,rfl⟩:=Ô (Ag h)
          obtain⟨hp,hp3⟩:=hp
          obtain⟨h1,h2⟩:=HP hp
          exact⟨FO ho e h1 (GZ t st1 e2 h2 fun s hs=>hK s (ā _ hs)),GZ r st e3 hp3 fun s hs=>hK s (Č _ hs)⟩
        . cases h
      . split at h
        . rename_i hb
          split at h
          . rename_i p2 l2 p3 l3 e2 e3
            obtain⟨rfl,rfl⟩:=Ô (Ag h)
            obtain⟨hp,hp3⟩:=hp
            obtain⟨h1,h2⟩:=HP hp
            exact⟨FO ho e h1 ⟨Nat.eq_of_beq_eq_true hb,GZ t _ e2 h2 fun s hs=>hK s (ā _ hs)⟩,GZ r st e3 hp3 fun s hs=>hK s (Č _ hs)⟩
          . cases h
        . cases h
    . cases h
  . cases h
 |.no,_,_,_,_,_,_=>trivial
theorem wrE {P:Program}{L:Cf}{N:Nat}{k:List TI}{Q:AX->St->Prop}{st:St}{i:Nat}{ops:Array Oper}{d:Bool}(m:Nat)(M:List Nat)(c:Nat)(qs:List IS)(S:St){p:Prop}(hp:p)
 (he:(Jh P ops st.σ.length (fun s=>low M c (clr L.L s)) qs (Vi ops) st,Eb L.pl i,V9 k,Nat.ble N c)=(some (p,List.replicate m S),some [9995],true,true)) (h:WS P L N k Q S):WS P L N (.code (.region i ops d)::k) Q st:=by
 obtain⟨e,a⟩:=Ô he
 obtain⟨a,b⟩:=Ô a
 obtain⟨b,f⟩:=Ô b
 refine Ach a ?_
 intro K' g _
 refine GZ _ st e hp fun st1 hs=>g _ _ rfl (Li M c b (Ö f) rfl ?_)
 rw [List.eq_of_mem_replicate hs];exact h
end
end
end Go.Sp
namespace Go.Sp
open Go Go.Vl
inductive Do where
 |nil
 |c (f:Nat)
 |k (n:Int)
 |is (f:Nat)
deriving DecidableEq
def MG:Do->Bool
 |.nil=>false
 |_=>true
def Lh:Do->Nat
 |.nil=>0
 |.c f=>f
 |.k _=>98
 |.is _=>106
def Lw:Do->List PV
 |.k n=>[.vptr [iP n] 0]
 |.is f=>[.vptr [.fno true f []] 0]
 |_=>[]
def gfn:Do->Option Do
 |.nil=>none
 |d=>some d
theorem ofn {e d:Do}(h:gfn e=some d):true=true/\PV.fno (MG e) (Lh e) (Lw e)=.fno true (Lh d) (Lw d):=by
 cases e<;>simp only [gfn,Â,reduceCtorEq] at h<;>subst h<;>exact⟨rfl,rfl⟩
theorem Pp {a b:Int}(h:(a == b)=true):a=b:=by simpa using h
theorem Y4 (k:Æ):∀ (l:List (ByteArray×Int)) (i:Nat),match J8 .string (.string k) (Oo l) i with|some (some (_,v))=>B1 l k=((match v with|.int _ n=>n|_=>0),true)/\v=.int .i64 (B1 l k).1|some none=>B1 l k=(0,false)|none=>False
 | [],i=>by simp [Oo,J8,B1]
 |(a,v)::r,i=>by
  have ih:=Y4 k r (i+1)
  show match J8 .string (.string k) ((.string a,.int .i64 v)::Oo r) i with|some (some (_,v))=>_|some none=>_|none=>_
  unfold J8 B1
  have e:Instr.sameNow .string (.string k) (.string a)=some (decide (k=a)):=by
   show some (k.data == a.data)=_
   by_cases h:k=a
   . subst h;simp
   . have:k.data≠a.data:=fun e=>h (by cases k;cases a;simp_all)
     simp [h,this]
  simp only [e]
  by_cases b:k=a
  . subst b;simp
  . simp only [b,decide_false,ó];exact ih
theorem Afg (l:List (ByteArray×Int))(k:Æ):Yt .string (Oo l) (.string k) (some (.int .i64 0))=some (.int .i64 (B1 l k).1,(B1 l k).2):=by
 unfold Yt
 have h:=Y4 k l 0
 split
 . rename_i e;rw [e] at h;rw [h.2];simp [h.1]
 . rename_i e;rw [e] at h;simp only at h;rw [h];rfl
 . rename_i e;rw [e] at h;exact h.elim
end Go.Sp
