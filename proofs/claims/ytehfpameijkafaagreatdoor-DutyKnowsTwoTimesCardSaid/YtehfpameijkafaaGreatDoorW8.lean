/-
  Statements that step an iterator, or that weaken the state between their operations, in plain values. No program. The function values of the table of operations, as plain values; lookups in maps known by a list. No program.
-/
import Derived.Test.YtehfpameijkafaaGreatDoorW5
import Derived.Test.YtehfpameijkafaaGreatDoorW7
set_option linter.unusedVariables false
set_option linter.unusedSimpArgs false
namespace Go.Sp
open Go Go.RowKit Go.Vl
section
variable {P:Program} {L:Cf} {N:Nat} {k:List TI} {Q:AX->St->Prop} {st:St} {ops:Array Oper} {K':AX->St->Prop}
theorem wrT {l:List Oper}(M:List Nat)(c:Nat)(qs:List Ir)(S:St){p:Prop}(hp:p)(he:(Vn M c L.L (Qk P ops l qs st),UF k,Nat.ble N c)=(some (p,S),true,true))(h:WS P L N k Q S)
 (hK:∀ st1 st2,clr L.L st1=st2->WS P L N k Q st2->K' .normal st1):B5 P ops K' l st:=by
 obtain⟨h1,h2⟩:=Ó he
 obtain⟨h2,h3⟩:=Ó h2
 obtain⟨st1,e1,e2⟩:=Mf h1
 exact G9 e1 hp (hK st1 _ rfl (KG M c h2 (Ø h3) e2 h))
def Afy (M:List Nat)(c:Nat):Option (Prop×Rn)->Option (Prop×St)
 |some (p,.at_ st)=>some (p,low M c st)
 |_=>none
theorem Afj {i m:Nat}{d:Bool}(M:List Nat)(c:Nat)(qs:List Ir)(S S2:St){p:Prop}(hp:p)(he:(Afy M c (Qk P ops (ops.toList.take m) qs st),DH L.pl i,Nat.ble N c)=(some (p,S),some [9996,m],true))(hw:Wk N S S2)
 (h:∀ K':AX->St->Prop,(∀ st1 st2,clr L.L st1=st2->WS P L N k Q st2->K' .normal st1)->B5 P ops K' (ops.toList.drop m) S2):WS P L N (.code (.region i ops d)::k) Q st:=by
 obtain⟨h1,h2⟩:=Ó he
 obtain⟨h2,h3⟩:=Ó h2
 refine Yg h2 fun K' hK _=>?_
 unfold Afy at h1
 split at h1
 . rename_i p' st1 e1
   obtain⟨rfl,rfl⟩:=Ó (Af h1)
   exact G9 e1 hp (.inl ⟨S2,Wk.trans (Wk.low (M:=M) (Ø h3)) hw,h K' hK⟩)
 . cases h1
theorem WL {o:Oper}{rest:List Oper}{x:Operand}{d k:Nat}{kvs:List (Value×Value)}{seen:List Nat}(hop:o.op=.next x false)(hd:o.dst=some d)(hg:o.guard=none)(hi:L6 st x=some (k,kvs,seen))
 (h1:(∀ i,i<kvs.length->i∈seen)->B5 P ops K' rest (st.put (some d) (.tup [.lit (.bool false)])))
 (h2:∀ i (h:i<kvs.length),i∉seen->B5 P ops K' rest (({ st with σ:=st.σ.set k [.mit kvs (seen++[i])] }:St).put (some d) (.tup [.lit (.bool true),KY kvs[i].1,KY kvs[i].2]))):B5 P ops K' (o::rest) st:=by
 unfold B5
 rw [show CD ops st o=some true by unfold CD;rw [hg]]
 simp only
 rw [show HX P o st=none by unfold HX F7 Kx;rw [hop,hd];rfl]
 simp only
 rw [show EU P o st=none by unfold EU;rw [hop]]
 simp only
 rw [show Mz o st=none by unfold Mz;rw [hop]]
 simp only
 unfold RN
 rw [hop,hd]
 simp only
 rw [hi]
 exact⟨h1,h2⟩
theorem Vt {o:Oper}{rest:List Oper}{x:Operand}{d k i:Nat}{kvs:List (Value×Value)}{seen:List Nat}{e:Value×Value}(hop:o.op=.entry x)(hd:o.dst=some d)(hg:o.guard=none)(hi:L6 st x=some (k,kvs,seen++[i]))(he:kvs[i]?=some e)
 (h:B5 P ops K' rest (st.put (some d) (.tup [KY e.1,KY e.2]))):B5 P ops K' (o::rest) st:=by
 unfold B5
 rw [show CD ops st o=some true by unfold CD;rw [hg]]
 simp only
 rw [show HX P o st=some (true,st.put (some d) (.tup [KY e.1,KY e.2])) by
  unfold HX F7 Kx
  rw [hop,hd]
  simp only [ù]
  unfold P5
  rw [hi]
  simp only [List.getLast?_concat,Á,he,ä]]
 exact⟨rfl,h⟩
def TM (P:Program)(ops:Array Oper)(m:Nat)(qs1:List Ir)(pv:PV)(qs2:List Ir)(st:St):Option (Prop×Rn) :=
 match Qk P ops (ops.toList.take m) qs1 st,ops.toList.drop m with
 |some (p1,.at_ st1),o::rest=>match o.op,o.dst,o.guard with
  |.convert s d x,some t,none=>match Cu st1 x,okB (Ll P s&&u8T P d) with
   |.lit (.string bs),some _=>match Qk P ops rest qs2 ((st1.aft st1.σ).put (some t) pv) with
    |some (p2,r)=>some (p1/\(bs.size<=140737488355328/\.sl (C7 bs) .shared=pv)/\p2,r)
    |none=>none
   |_,_=>none
  |_,_,_=>none
 |_,_=>none
theorem Adz {i:Nat}{d:Bool}(m:Nat)(M:List Nat)(c:Nat)(qs1:List Ir)(pv:PV)(qs2:List Ir)(S:St){p:Prop}(hp:p)(he:(Vn M c L.L (TM P ops m qs1 pv qs2 st),DH L.pl i,UF k,Nat.ble N c)=(some (p,S),some [9996,m],true,true))
 (h:WS P L N k Q S):WS P L N (.code (.region i ops d)::k) Q st:=by
 obtain⟨h1,h2⟩:=Ó he
 obtain⟨h2,h3⟩:=Ó h2
 obtain⟨h3,h4⟩:=Ó h3
 obtain⟨st2,e1,e2⟩:=Mf h1
 refine Yg h2 fun K' hK _=>?_
 unfold TM at e1
 split at e1
 . rename_i p1 st1 o rest r1 r2
   split at e1
   . rename_i s dd x t g1 g2 g3
     split at e1
     . rename_i bs _ g4 g5
       split at e1
       . rename_i p2 r g6
         obtain⟨rfl,rfl⟩:=Ó (Af e1)
         obtain⟨k1,⟨k2,k3⟩,k4⟩:=hp
         have g5:=CW g5
         rw [Å] at g5
         refine G9 r1 k1 (.inr ⟨o,rest,r2,?_⟩)
         unfold Mi
         rw [g1,g2,g3]
         simp only
         rw [g4]
         refine⟨g5.1,g5.2,k2,?_⟩
         rw [k3]
         exact G9 g6 k4 (hK _ _ rfl (KG M c h3 (Ø h4) e2 h))
       . cases e1
     . cases e1
   . cases e1
 . cases e1
def QL (s:Æ):Option (List Int):=if s.size<=140737488355328 then some (s.data.toList.map fun b=>(b.toNat:Int)) else none
theorem Aec {s:Æ}{v:List Int}{row:Int->List PV}(h:QL s=some v)(hr:∀ x,row x=[.lit (.int .u8 x)]):s.size<=140737488355328/\PV.sl (C7 s) .shared=.sl (v.map row) .shared:=by
 unfold QL at h
 split at h
 . rename_i hs
   refine⟨hs,?_⟩
   rw [<- Af h,List.map_map]
   congr 1
   unfold C7
   refine List.map_congr_left fun b _=>?_
   exact (hr _).symm
 . cases h
section
open Go.Q
def IA (P:Program)(ops:Array Oper)(N:Nat)(fin:St->St)(qs:List Ir):OT->St->Option (Prop×List St)
 |.done,st=>some (True,[fin st])
 |.one i t,st=>match ops[i]? with
  |some o=>match Of P ops [N,N+1] st i o (qs.getD i .no) with
   |some (p,.at_ st1)=>match IA P ops N fin qs t st1 with
    |some (p2,l)=>some (VD p p2,l)
    |none=>none
   |_=>none
  |none=>none
 |.or i sw t r,st=>match ops[i]? with
  |some o=>match Of P ops [N,N+1] st i o (qs.getD i .no) with
   |some (p,.at_ st1)=>match sw with
    |false=>match IA P ops N fin qs t st1,IA P ops N fin qs r st with
     |some (p2,l),some (p3,l3)=>some (VD p p2/\p3,l++l3)
     |_,_=>none
    |true=>match Nat.beq st1.σ.length (N+2) with
     |true=>match IA P ops N fin qs t (swS N st1),IA P ops N fin qs r st with
      |some (p2,l),some (p3,l3)=>some (VD p p2/\p3,l++l3)
      |_,_=>none
     |false=>none
   |_=>none
  |none=>none
 |.no,_=>some (True,[])
theorem GC {P:Program}{ops:Array Oper}{N:Nat}{fin:St->St}{qs:List Ir}{K:AX->St->Prop}:∀ (t:OT) (st:St) {p:Prop} {l:List St},IA P ops N fin qs t st=some (p,l)->p->(∀ st1,fin st1∈l->K .normal st1)->XV P ops N K t st
 |.done,st,p,l,h,hp,hK=>by
  unfold IA at h
  obtain⟨_,rfl⟩:=Ó (Af h)
  exact hK st (by simp)
 |.one i t,st,p,l,h,hp,hK=>by
  unfold IA at h
  unfold XV
  split at h
  . rename_i o ho
    split at h
    . rename_i p1 st1 e
      split at h
      . rename_i p2 l2 e2
        obtain⟨rfl,rfl⟩:=Ó (Af h)
        obtain⟨h1,h2⟩:=Hv hp
        exact F9 ho e h1 (GC t st1 e2 h2 hK)
      . cases h
    . cases h
  . cases h
 |.or i sw t r,st,p,l,h,hp,hK=>by
  unfold IA at h
  unfold XV
  split at h
  . rename_i o ho
    split at h
    . rename_i p1 st1 e
      split at h
      . split at h
        . rename_i p2 l2 p3 l3 e2 e3
          obtain⟨rfl,rfl⟩:=Ó (Af h)
          obtain⟨hp,hp3⟩:=hp
          obtain⟨h1,h2⟩:=Hv hp
          exact⟨F9 ho e h1 (GC t st1 e2 h2 fun s hs=>hK s (ă _ hs)),GC r st e3 hp3 fun s hs=>hK s (Ě _ hs)⟩
        . cases h
      . split at h
        . rename_i hb
          split at h
          . rename_i p2 l2 p3 l3 e2 e3
            obtain⟨rfl,rfl⟩:=Ó (Af h)
            obtain⟨hp,hp3⟩:=hp
            obtain⟨h1,h2⟩:=Hv hp
            exact⟨F9 ho e h1 ⟨Nat.eq_of_beq_eq_true hb,GC t _ e2 h2 fun s hs=>hK s (ă _ hs)⟩,GC r st e3 hp3 fun s hs=>hK s (Ě _ hs)⟩
          . cases h
        . cases h
    . cases h
  . cases h
 |.no,_,_,_,_,_,_=>trivial
theorem wrE {P:Program}{L:Cf}{N:Nat}{k:List TI}{Q:AX->St->Prop}{st:St}{i:Nat}{ops:Array Oper}{d:Bool}(m:Nat)(M:List Nat)(c:Nat)(qs:List Ir)(S:St){p:Prop}(hp:p)
 (he:(IA P ops st.σ.length (fun s=>low M c (clr L.L s)) qs (Uq ops) st,DH L.pl i,UF k,Nat.ble N c)=(some (p,List.replicate m S),some [9995],true,true)) (h:WS P L N k Q S):WS P L N (.code (.region i ops d)::k) Q st:=by
 obtain⟨h1,h2⟩:=Ó he
 obtain⟨h2,h3⟩:=Ó h2
 obtain⟨h3,h4⟩:=Ó h3
 refine Abf h2 ?_
 intro K' hK _
 refine GC _ st h1 hp fun st1 hs=>hK _ _ rfl (KG M c h3 (Ø h4) rfl ?_)
 rw [List.eq_of_mem_replicate hs];exact h
end
end
end Go.Sp
namespace Go.Sp
open Go Go.Vl
inductive Do where
 |nil
 |c (f:Nat)
 |k (n:Int)
 |is (f:Nat)
deriving DecidableEq
def LB:Do->Bool
 |.nil=>false
 |_=>true
def Kt:Do->Nat
 |.nil=>0
 |.c f=>f
 |.k _=>98
 |.is _=>106
def KE:Do->List PV
 |.k n=>[.vptr [iP n] 0]
 |.is f=>[.vptr [.fno true f []] 0]
 |_=>[]
def gfn:Do->Option Do
 |.nil=>none
 |d=>some d
theorem ofn {e d:Do}(h:gfn e=some d):true=true/\PV.fno (LB e) (Kt e) (KE e)=.fno true (Kt d) (KE d):=by
 cases e<;>simp only [gfn,Â,reduceCtorEq] at h<;>subst h<;>exact⟨rfl,rfl⟩
theorem OH {a b:Int}(h:(a == b)=true):a=b:=by simpa using h
theorem XS (k:Æ):∀ (l:List (ByteArray×Int)) (i:Nat),match Jh .string (.string k) (N3 l) i with|some (some (_,v))=>Dz l k=((match v with|.int _ n=>n|_=>0),true)/\v=.int .i64 (Dz l k).1|some none=>Dz l k=(0,false)|none=>False
 | [],i=>by simp [N3,Jh,Dz]
 |(a,v)::r,i=>by
  have ih:=XS k r (i+1)
  show match Jh .string (.string k) ((.string a,.int .i64 v)::N3 r) i with|some (some (_,v))=>_|some none=>_|none=>_
  unfold Jh Dz
  have e:Instr.sameNow .string (.string k) (.string a)=some (decide (k=a)):=by
   show some (k.data == a.data)=_
   by_cases h:k=a
   . subst h;simp
   . have:k.data≠a.data:=fun e=>h (by cases k;cases a;simp_all)
     simp [h,this]
  simp only [e]
  by_cases hk:k=a
  . subst hk;simp
  . simp only [hk,decide_false,Ā];exact ih
theorem Aea (l:List (ByteArray×Int))(k:Æ):XJ .string (N3 l) (.string k) (some (.int .i64 0))=some (.int .i64 (Dz l k).1,(Dz l k).2):=by
 unfold XJ
 have h:=XS k l 0
 split
 . rename_i e;rw [e] at h;rw [h.2];simp [h.1]
 . rename_i e;rw [e] at h;simp only at h;rw [h];rfl
 . rename_i e;rw [e] at h;exact h.elim
end Go.Sp
