/-
  Statements that step an iterator, or that weaken the state between their operations, in plain values. No program. The function values of the table of operations, as plain values; lookups in maps known by a list. No program.
-/
import Derived.Test.YtehfpameijkafaaGreatDoorU5
import Derived.Test.YtehfpameijkafaaGreatDoorU7
set_option linter.unusedVariables false
set_option linter.unusedSimpArgs false
namespace Go.Sp
open Go Go.RowKit Go.Vl
section
variable {P:Program} {L:Cf} {N:Nat} {k:List TI} {Q:AX->St->Prop} {st:St} {ops:Array Oper} {K':AX->St->Prop}
theorem wrT {l:List Oper}(M:List Nat)(c:Nat)(qs:List Ip)(S:St){p:Prop}(hp:p)(he:(UZ M c L.L (Qb P ops l qs st),U2 k,Nat.ble N c)=(some (p,S),true,true))(h:WS P L N k Q S)
 (hK:∀ st1 st2,clr L.L st1=st2->WS P L N k Q st2->K' .normal st1):B4 P ops K' l st:=by
 obtain⟨h1,h2⟩:=Ó he
 obtain⟨h2,h3⟩:=Ó h2
 obtain⟨st1,e1,e2⟩:=Mc h1
 exact G7 e1 hp (hK st1 _ rfl (KC M c h2 (Ø h3) e2 h))
def Aff (M:List Nat)(c:Nat):Option (Prop×Rn)->Option (Prop×St)
 |some (p,.at_ st)=>some (p,low M c st)
 |_=>none
theorem Ae2 {i m:Nat}{d:Bool}(M:List Nat)(c:Nat)(qs:List Ip)(S S2:St){p:Prop}(hp:p)(he:(Aff M c (Qb P ops (ops.toList.take m) qs st),DC L.pl i,Nat.ble N c)=(some (p,S),some [9996,m],true))(hw:Wk N S S2)
 (h:∀ K':AX->St->Prop,(∀ st1 st2,clr L.L st1=st2->WS P L N k Q st2->K' .normal st1)->B4 P ops K' (ops.toList.drop m) S2):WS P L N (.code (.region i ops d)::k) Q st:=by
 obtain⟨h1,h2⟩:=Ó he
 obtain⟨h2,h3⟩:=Ó h2
 refine XM h2 fun K' hK _=>?_
 unfold Aff at h1
 split at h1
 . rename_i p' st1 e1
   obtain⟨rfl,rfl⟩:=Ó (Af h1)
   exact G7 e1 hp (.inl ⟨S2,Wk.trans (Wk.low (M:=M) (Ø h3)) hw,h K' hK⟩)
 . cases h1
theorem Wy {o:Oper}{rest:List Oper}{x:Operand}{d k:Nat}{kvs:List (Value×Value)}{seen:List Nat}(hop:o.op=.next x false)(hd:o.dst=some d)(hg:o.guard=none)(hi:Lz st x=some (k,kvs,seen))
 (h1:(∀ i,i<kvs.length->i∈seen)->B4 P ops K' rest (st.put (some d) (.tup [.lit (.bool false)])))
 (h2:∀ i (h:i<kvs.length),i∉seen->B4 P ops K' rest (({ st with σ:=st.σ.set k [.mit kvs (seen++[i])] }:St).put (some d) (.tup [.lit (.bool true),KQ kvs[i].1,KQ kvs[i].2]))):B4 P ops K' (o::rest) st:=by
 unfold B4
 rw [show CD ops st o=some true by unfold CD;rw [hg]]
 simp only
 rw [show HU P o st=none by unfold HU F3 Ks;rw [hop,hd];rfl]
 simp only
 rw [show EP P o st=none by unfold EP;rw [hop]]
 simp only
 rw [show Mz o st=none by unfold Mz;rw [hop]]
 simp only
 unfold RD
 rw [hop,hd]
 simp only
 rw [hi]
 exact⟨h1,h2⟩
theorem Ve {o:Oper}{rest:List Oper}{x:Operand}{d k i:Nat}{kvs:List (Value×Value)}{seen:List Nat}{e:Value×Value}(hop:o.op=.entry x)(hd:o.dst=some d)(hg:o.guard=none)(hi:Lz st x=some (k,kvs,seen++[i]))(he:kvs[i]?=some e)
 (h:B4 P ops K' rest (st.put (some d) (.tup [KQ e.1,KQ e.2]))):B4 P ops K' (o::rest) st:=by
 unfold B4
 rw [show CD ops st o=some true by unfold CD;rw [hg]]
 simp only
 rw [show HU P o st=some (true,st.put (some d) (.tup [KQ e.1,KQ e.2])) by
  unfold HU F3 Ks
  rw [hop,hd]
  simp only [ø]
  unfold Py
  rw [hi]
  simp only [List.getLast?_concat,Á,he,ä]]
 exact⟨rfl,h⟩
def T5 (P:Program)(ops:Array Oper)(m:Nat)(qs1:List Ip)(pv:PV)(qs2:List Ip)(st:St):Option (Prop×Rn) :=
 match Qb P ops (ops.toList.take m) qs1 st,ops.toList.drop m with
 |some (p1,.at_ st1),o::rest=>match o.op,o.dst,o.guard with
  |.convert s d x,some t,none=>match Ct st1 x,okB (Lf P s&&u8T P d) with
   |.lit (.string bs),some _=>match Qb P ops rest qs2 ((st1.aft st1.σ).put (some t) pv) with
    |some (p2,r)=>some (p1/\(bs.size<=140737488355328/\.sl (C7 bs) .shared=pv)/\p2,r)
    |none=>none
   |_,_=>none
  |_,_,_=>none
 |_,_=>none
theorem Adh {i:Nat}{d:Bool}(m:Nat)(M:List Nat)(c:Nat)(qs1:List Ip)(pv:PV)(qs2:List Ip)(S:St){p:Prop}(hp:p)(he:(UZ M c L.L (T5 P ops m qs1 pv qs2 st),DC L.pl i,U2 k,Nat.ble N c)=(some (p,S),some [9996,m],true,true))
 (h:WS P L N k Q S):WS P L N (.code (.region i ops d)::k) Q st:=by
 obtain⟨h1,h2⟩:=Ó he
 obtain⟨h2,h3⟩:=Ó h2
 obtain⟨h3,h4⟩:=Ó h3
 obtain⟨st2,e1,e2⟩:=Mc h1
 refine XM h2 fun K' hK _=>?_
 unfold T5 at e1
 split at e1
 . rename_i p1 st1 o rest r1 r2
   split at e1
   . rename_i s dd x t g1 g2 g3
     split at e1
     . rename_i bs _ g4 g5
       split at e1
       . rename_i p2 r g6
         obtain⟨rfl,rfl⟩:=Ó (Af e1)
         obtain⟨k1,⟨k2,k3⟩,k4⟩:=hp
         have g5:=CV g5
         rw [Ä] at g5
         refine G7 r1 k1 (.inr ⟨o,rest,r2,?_⟩)
         unfold Mg
         rw [g1,g2,g3]
         simp only
         rw [g4]
         refine⟨g5.1,g5.2,k2,?_⟩
         rw [k3]
         exact G7 g6 k4 (hK _ _ rfl (KC M c h3 (Ø h4) e2 h))
       . cases e1
     . cases e1
   . cases e1
 . cases e1
def QE (s:Æ):Option (List Int):=if s.size<=140737488355328 then some (s.data.toList.map fun b=>(b.toNat:Int)) else none
theorem Adv {s:Æ}{v:List Int}{row:Int->List PV}(h:QE s=some v)(hr:∀ x,row x=[.lit (.int .u8 x)]):s.size<=140737488355328/\PV.sl (C7 s) .shared=.sl (v.map row) .shared:=by
 unfold QE at h
 split at h
 . rename_i hs
   refine⟨hs,?_⟩
   rw [<- Af h,List.map_map]
   congr 1
   unfold C7
   refine List.map_congr_left fun b _=>?_
   exact (hr _).symm
 . cases h
section
open Go.Q
def I7 (P:Program)(ops:Array Oper)(N:Nat)(fin:St->St)(qs:List Ip):OT->St->Option (Prop×List St)
 |.done,st=>some (True,[fin st])
 |.one i t,st=>match ops[i]? with
  |some o=>match NY P ops [N,N+1] st i o (qs.getD i .no) with
   |some (p,.at_ st1)=>match I7 P ops N fin qs t st1 with
    |some (p2,l)=>some (Vy p p2,l)
    |none=>none
   |_=>none
  |none=>none
 |.or i sw t r,st=>match ops[i]? with
  |some o=>match NY P ops [N,N+1] st i o (qs.getD i .no) with
   |some (p,.at_ st1)=>match sw with
    |false=>match I7 P ops N fin qs t st1,I7 P ops N fin qs r st with
     |some (p2,l),some (p3,l3)=>some (Vy p p2/\p3,l++l3)
     |_,_=>none
    |true=>match Nat.beq st1.σ.length (N+2) with
     |true=>match I7 P ops N fin qs t (swS N st1),I7 P ops N fin qs r st with
      |some (p2,l),some (p3,l3)=>some (Vy p p2/\p3,l++l3)
      |_,_=>none
     |false=>none
   |_=>none
  |none=>none
 |.no,_=>some (True,[])
theorem G8 {P:Program}{ops:Array Oper}{N:Nat}{fin:St->St}{qs:List Ip}{K:AX->St->Prop}:∀ (t:OT) (st:St) {p:Prop} {l:List St},I7 P ops N fin qs t st=some (p,l)->p->(∀ st1,fin st1∈l->K .normal st1)->XB P ops N K t st
 |.done,st,p,l,h,hp,hK=>by
  unfold I7 at h
  obtain⟨_,rfl⟩:=Ó (Af h)
  exact hK st (by simp)
 |.one i t,st,p,l,h,hp,hK=>by
  unfold I7 at h
  unfold XB
  split at h
  . rename_i o ho
    split at h
    . rename_i p1 st1 e
      split at h
      . rename_i p2 l2 e2
        obtain⟨rfl,rfl⟩:=Ó (Af h)
        obtain⟨h1,h2⟩:=Hs hp
        exact F5 ho e h1 (G8 t st1 e2 h2 hK)
      . cases h
    . cases h
  . cases h
 |.or i sw t r,st,p,l,h,hp,hK=>by
  unfold I7 at h
  unfold XB
  split at h
  . rename_i o ho
    split at h
    . rename_i p1 st1 e
      split at h
      . split at h
        . rename_i p2 l2 p3 l3 e2 e3
          obtain⟨rfl,rfl⟩:=Ó (Af h)
          obtain⟨hp,hp3⟩:=hp
          obtain⟨h1,h2⟩:=Hs hp
          exact⟨F5 ho e h1 (G8 t st1 e2 h2 fun s hs=>hK s (Ĉ _ hs)),G8 r st e3 hp3 fun s hs=>hK s (Ē _ hs)⟩
        . cases h
      . split at h
        . rename_i hb
          split at h
          . rename_i p2 l2 p3 l3 e2 e3
            obtain⟨rfl,rfl⟩:=Ó (Af h)
            obtain⟨hp,hp3⟩:=hp
            obtain⟨h1,h2⟩:=Hs hp
            exact⟨F5 ho e h1 ⟨Nat.eq_of_beq_eq_true hb,G8 t _ e2 h2 fun s hs=>hK s (Ĉ _ hs)⟩,G8 r st e3 hp3 fun s hs=>hK s (Ē _ hs)⟩
          . cases h
        . cases h
    . cases h
  . cases h
 |.no,_,_,_,_,_,_=>trivial
theorem wrE {P:Program}{L:Cf}{N:Nat}{k:List TI}{Q:AX->St->Prop}{st:St}{i:Nat}{ops:Array Oper}{d:Bool}(m:Nat)(M:List Nat)(c:Nat)(qs:List Ip)(S:St){p:Prop}(hp:p)
 (he:(I7 P ops st.σ.length (fun s=>low M c (clr L.L s)) qs (Ub ops) st,DC L.pl i,U2 k,Nat.ble N c)=(some (p,List.replicate m S),some [9995],true,true)) (h:WS P L N k Q S):WS P L N (.code (.region i ops d)::k) Q st:=by
 obtain⟨h1,h2⟩:=Ó he
 obtain⟨h2,h3⟩:=Ó h2
 obtain⟨h3,h4⟩:=Ó h3
 refine Aax h2 ?_
 intro K' hK _
 refine G8 _ st h1 hp fun st1 hs=>hK _ _ rfl (KC M c h3 (Ø h4) rfl ?_)
 rw [List.eq_of_mem_replicate hs];exact h
end
end
end Go.Sp
namespace Go.Sp
open Go Go.Vl
inductive Do where
 |nil
 |c (f:Nat)
 |k (n:Int)
 |is (f:Nat)
deriving DecidableEq
def L4:Do->Bool
 |.nil=>false
 |_=>true
def Kn:Do->Nat
 |.nil=>0
 |.c f=>f
 |.k _=>98
 |.is _=>106
def K9:Do->List PV
 |.k n=>[.vptr [iP n] 0]
 |.is f=>[.vptr [.fno true f []] 0]
 |_=>[]
def gfn:Do->Option Do
 |.nil=>none
 |d=>some d
theorem ofn {e d:Do}(h:gfn e=some d):true=true/\PV.fno (L4 e) (Kn e) (K9 e)=.fno true (Kn d) (K9 d):=by
 cases e<;>simp only [gfn,Â,reduceCtorEq] at h<;>subst h<;>exact⟨rfl,rfl⟩
theorem O7 {a b:Int}(h:(a == b)=true):a=b:=by simpa using h
theorem X8 (k:Æ):∀ (l:List (ByteArray×Int)) (i:Nat),match Jc .string (.string k) (Nx l) i with|some (some (_,v))=>Du l k=((match v with|.int _ n=>n|_=>0),true)/\v=.int .i64 (Du l k).1|some none=>Du l k=(0,false)|none=>False
 | [],i=>by simp [Nx,Jc,Du]
 |(a,v)::r,i=>by
  have ih:=X8 k r (i+1)
  show match Jc .string (.string k) ((.string a,.int .i64 v)::Nx r) i with|some (some (_,v))=>_|some none=>_|none=>_
  unfold Jc Du
  have e:Instr.sameNow .string (.string k) (.string a)=some (decide (k=a)):=by
   show some (k.data == a.data)=_
   by_cases h:k=a
   . subst h;simp
   . have:k.data≠a.data:=fun e=>h (by cases k;cases a;simp_all)
     simp [h,this]
  simp only [e]
  by_cases hk:k=a
  . subst hk;simp
  . simp only [hk,decide_false,Ā];exact ih
theorem Adt (l:List (ByteArray×Int))(k:Æ):X0 .string (Nx l) (.string k) (some (.int .i64 0))=some (.int .i64 (Du l k).1,(Du l k).2):=by
 unfold X0
 have h:=X8 k l 0
 split
 . rename_i e;rw [e] at h;rw [h.2];simp [h.1]
 . rename_i e;rw [e] at h;simp only at h;rw [h];rfl
 . rename_i e;rw [e] at h;exact h.elim
end Go.Sp
