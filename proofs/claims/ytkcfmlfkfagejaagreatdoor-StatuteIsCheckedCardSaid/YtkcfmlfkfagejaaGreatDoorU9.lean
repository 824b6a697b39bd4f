/-
  Statements that step an iterator, or that weaken the state between their operations, in plain values. No program. The function values of the table of operations, as plain values; lookups in maps known by a list. No program.
-/
import Derived.Test.YtkcfmlfkfagejaaGreatDoorU6
import Derived.Test.YtkcfmlfkfagejaaGreatDoorU8
set_option linter.unusedVariables false
set_option linter.unusedSimpArgs false
namespace Go.Sp
open Go Go.RowKit Go.Vl
section
variable {P:Program} {L:Cf} {N:Nat} {k:List TI} {Q:AX->St->Prop} {st:St} {ops:Array Oper} {K':AX->St->Prop}
theorem wrT {l:List Oper}(M:List Nat)(c:Nat)(qs:List Hs)(S:St){p:Prop}(hp:p)(he:(RX M c L.L (ND P ops l qs st),Rx k,Nat.ble N c)=(some (p,S),true,true))(h:WS P L N k Q S)
 (hK:∀ st1 st2,clr L.L st1=st2->WS P L N k Q st2->K' .normal st1):evOps P ops K' l st:=by
 obtain⟨h1,h2⟩:=Prod.mk.inj he
 obtain⟨h2,h3⟩:=Prod.mk.inj h2
 obtain⟨st1,e1,e2⟩:=Ku h1
 exact FH e1 hp (hK st1 _ rfl (Kh M c h2 (Nat.le_of_ble_eq_true h3) e2 h))
def Aba (M:List Nat)(c:Nat):Option (Prop×Rn)->Option (Prop×St)
 |some (p,.at_ st)=>some (p,low M c st)
 |_=>none
theorem ZT {i m:Nat}{d:Bool}(M:List Nat)(c:Nat)(qs:List Hs)(S S2:St){p:Prop}(hp:p)(he:(Aba M c (ND P ops (ops.toList.take m) qs st),Dp L.pl i,Nat.ble N c)=(some (p,S),some [9996,m],true))(hw:Wk N S S2)
 (h:∀ K':AX->St->Prop,(∀ st1 st2,clr L.L st1=st2->WS P L N k Q st2->K' .normal st1)->evOps P ops K' (ops.toList.drop m) S2):WS P L N (.code (.region i ops d)::k) Q st:=by
 obtain⟨h1,h2⟩:=Prod.mk.inj he
 obtain⟨h2,h3⟩:=Prod.mk.inj h2
 refine Up h2 fun K' hK _=>?_
 unfold Aba at h1
 split at h1
 . rename_i p' st1 e1
   obtain⟨rfl,rfl⟩:=Prod.mk.inj (Aa h1)
   exact FH e1 hp (.inl ⟨S2,Wk.trans (Wk.low (M:=M) (Nat.le_of_ble_eq_true h3)) hw,h K' hK⟩)
 . cases h1
theorem Tp {o:Oper}{rest:List Oper}{x:Operand}{d k:Nat}{kvs:List (Value×Value)}{seen:List Nat}(hop:o.op=.next x false)(hd:o.dst=some d)(hg:o.guard=none)(hi:iterAt st x=some (k,kvs,seen))
 (h1:(∀ i,i<kvs.length->i∈seen)->evOps P ops K' rest (st.put (some d) (.tup [.lit (.bool false)])))
 (h2:∀ i (h:i<kvs.length),i∉seen->evOps P ops K' rest (({ st with σ:=st.σ.set k [.mit kvs (seen++[i])] }:St).put (some d) (.tup [.lit (.bool true),absV kvs[i].1,absV kvs[i].2]))):evOps P ops K' (o::rest) st:=by
 unfold evOps
 rw [show evGuard ops st o=some true by unfold evGuard;rw [hg]]
 simp only
 rw [show evOp P o st=none by unfold evOp clsOf evLoud;rw [hop,hd];rfl]
 simp only
 rw [show evCall P o st=none by unfold evCall;rw [hop]]
 simp only
 rw [show evPan o st=none by unfold evPan;rw [hop]]
 simp only
 unfold evBr
 rw [hop,hd]
 simp only
 rw [hi]
 exact⟨h1,h2⟩
theorem Sa {o:Oper}{rest:List Oper}{x:Operand}{d k i:Nat}{kvs:List (Value×Value)}{seen:List Nat}{e:Value×Value}(hop:o.op=.entry x)(hd:o.dst=some d)(hg:o.guard=none)(hi:iterAt st x=some (k,kvs,seen++[i]))(he:kvs[i]?=some e)
 (h:evOps P ops K' rest (st.put (some d) (.tup [absV e.1,absV e.2]))):evOps P ops K' (o::rest) st:=by
 unfold evOps
 rw [show evGuard ops st o=some true by unfold evGuard;rw [hg]]
 simp only
 rw [show evOp P o st=some (true,st.put (some d) (.tup [absV e.1,absV e.2])) by
  unfold evOp clsOf evLoud
  rw [hop,hd]
  simp only [if_true]
  unfold evEntry
  rw [hi]
  simp only [List.getLast?_concat,Option.bind_some,he,Option.map_some]]
 exact⟨rfl,h⟩
def Q6 (P:Program)(ops:Array Oper)(m:Nat)(qs1:List Hs)(pv:PV)(qs2:List Hs)(st:St):Option (Prop×Rn) :=
 match ND P ops (ops.toList.take m) qs1 st,ops.toList.drop m with
 |some (p1,.at_ st1),o::rest=>match o.op,o.dst,o.guard with
  |.convert s d x,some t,none=>match opd st1 x,okB (Hc P s&&ZL P d) with
   |.lit (.string bs),some _=>match ND P ops rest qs2 ((st1.aft st1.σ).put (some t) pv) with
    |some (p2,r)=>some (p1/\(bs.size<=140737488355328/\.sl (C5 bs) .shared=pv)/\p2,r)
    |none=>none
   |_,_=>none
  |_,_,_=>none
 |_,_=>none
theorem YG {i:Nat}{d:Bool}(m:Nat)(M:List Nat)(c:Nat)(qs1:List Hs)(pv:PV)(qs2:List Hs)(S:St){p:Prop}(hp:p)(he:(RX M c L.L (Q6 P ops m qs1 pv qs2 st),Dp L.pl i,Rx k,Nat.ble N c)=(some (p,S),some [9996,m],true,true))
 (h:WS P L N k Q S):WS P L N (.code (.region i ops d)::k) Q st:=by
 obtain⟨h1,h2⟩:=Prod.mk.inj he
 obtain⟨h2,h3⟩:=Prod.mk.inj h2
 obtain⟨h3,h4⟩:=Prod.mk.inj h3
 obtain⟨st2,e1,e2⟩:=Ku h1
 refine Up h2 fun K' hK _=>?_
 unfold Q6 at e1
 split at e1
 . rename_i p1 st1 o rest r1 r2
   split at e1
   . rename_i s dd x t g1 g2 g3
     split at e1
     . rename_i bs _ g4 g5
       split at e1
       . rename_i p2 r g6
         obtain⟨rfl,rfl⟩:=Prod.mk.inj (Aa e1)
         obtain⟨k1,⟨k2,k3⟩,k4⟩:=hp
         have g5:=DG g5
         rw [Bool.and_eq_true] at g5
         refine FH r1 k1 (.inr ⟨o,rest,r2,?_⟩)
         unfold Kv
         rw [g1,g2,g3]
         simp only
         rw [g4]
         refine⟨g5.1,g5.2,k2,?_⟩
         rw [k3]
         exact FH g6 k4 (hK _ _ rfl (Kh M c h3 (Nat.le_of_ble_eq_true h4) e2 h))
       . cases e1
     . cases e1
   . cases e1
 . cases e1
def Og (s:ByteArray):Option (List Int):=if s.size<=140737488355328 then some (s.data.toList.map fun b=>(b.toNat:Int)) else none
theorem Ze {s:ByteArray}{v:List Int}{row:Int->List PV}(h:Og s=some v)(hr:∀ x,row x=[.lit (.int .u8 x)]):s.size<=140737488355328/\PV.sl (C5 s) .shared=.sl (v.map row) .shared:=by
 unfold Og at h
 split at h
 . rename_i hs
   refine⟨hs,?_⟩
   rw [<- Aa h,List.map_map]
   congr 1
   unfold C5
   refine List.map_congr_left fun b _=>?_
   exact (hr _).symm
 . cases h
theorem oai {α:Type}{l:List α}{f:α->PV}{m:Nat}{i:Int}{x:α}(h:gi l i=some x)(hm:l.length=m)(hf:∀ x,unown (f x)=f x) :
 decide (0<=i/\i<(m:Int)/\i.toNat*1+1<=(l.map f).length/\0<1)=true/\partP (l.map f) (i.toNat*1) 1 false=f x:=by
 unfold gi at h
 split at h
 . rename_i h0
   have hl:=(List.getElem?_eq_some_iff.1 h)
   refine⟨?_,?_⟩
   . rw [decide_eq_true_eq,List.length_map]
     have:=hl.1
     omega
   . unfold partP
     rw [if_neg (by simp),Nat.mul_one,List.getD,List.getElem?_map,h]
     exact hf x
 . cases h
section
open Go.Q
def H7 (P:Program)(ops:Array Oper)(N:Nat)(fin:St->St)(qs:List Hs):OT->St->Option (Prop×List St)
 |.done,st=>some (True,[fin st])
 |.one i t,st=>match ops[i]? with
  |some o=>match LX P ops [N,N+1] st i o (qs.getD i .no) with
   |some (p,.at_ st1)=>match H7 P ops N fin qs t st1 with
    |some (p2,l)=>some (Sr p p2,l)
    |none=>none
   |_=>none
  |none=>none
 |.or i sw t r,st=>match ops[i]? with
  |some o=>match LX P ops [N,N+1] st i o (qs.getD i .no) with
   |some (p,.at_ st1)=>match sw with
    |false=>match H7 P ops N fin qs t st1,H7 P ops N fin qs r st with
     |some (p2,l),some (p3,l3)=>some (Sr p p2/\p3,l++l3)
     |_,_=>none
    |true=>match Nat.beq st1.σ.length (N+2) with
     |true=>match H7 P ops N fin qs t (swS N st1),H7 P ops N fin qs r st with
      |some (p2,l),some (p3,l3)=>some (Sr p p2/\p3,l++l3)
      |_,_=>none
     |false=>none
   |_=>none
  |none=>none
 |.no,_=>some (True,[])
theorem FI {P:Program}{ops:Array Oper}{N:Nat}{fin:St->St}{qs:List Hs}{K:AX->St->Prop}:∀ (t:OT) (st:St) {p:Prop} {l:List St},H7 P ops N fin qs t st=some (p,l)->p->(∀ st1,fin st1∈l->K .normal st1)->Ui P ops N K t st
 |.done,st,p,l,h,hp,hK=>by
  unfold H7 at h
  obtain⟨_,rfl⟩:=Prod.mk.inj (Aa h)
  exact hK st (by simp)
 |.one i t,st,p,l,h,hp,hK=>by
  unfold H7 at h
  unfold Ui
  split at h
  . rename_i o ho
    split at h
    . rename_i p1 st1 e
      split at h
      . rename_i p2 l2 e2
        obtain⟨rfl,rfl⟩:=Prod.mk.inj (Aa h)
        obtain⟨h1,h2⟩:=G7 hp
        exact ES ho e h1 (FI t st1 e2 h2 hK)
      . cases h
    . cases h
  . cases h
 |.or i sw t r,st,p,l,h,hp,hK=>by
  unfold H7 at h
  unfold Ui
  split at h
  . rename_i o ho
    split at h
    . rename_i p1 st1 e
      split at h
      . split at h
        . rename_i p2 l2 p3 l3 e2 e3
          obtain⟨rfl,rfl⟩:=Prod.mk.inj (Aa h)
          obtain⟨hp,hp3⟩:=hp
          obtain⟨h1,h2⟩:=G7 hp
          exact⟨ES ho e h1 (FI t st1 e2 h2 fun s hs=>hK s (List.mem_append_left _ hs)),FI r st e3 hp3 fun s hs=>hK s (List.mem_append_right _ hs)⟩
        . cases h
      . split at h
        . rename_i hb
          split at h
          . rename_i p2 l2 p3 l3 e2 e3
            obtain⟨rfl,rfl⟩:=Prod.mk.inj (Aa h)
            obtain⟨hp,hp3⟩:=hp
            obtain⟨h1,h2⟩:=G7 hp
            exact⟨ES ho e h1 ⟨Nat.eq_of_beq_eq_true hb,FI t _ e2 h2 fun s hs=>hK s (List.mem_append_left _ hs)⟩,FI r st e3 hp3 fun s hs=>hK s (List.mem_append_right _ hs)⟩
          . cases h
        . cases h
    . cases h
  . cases h
 |.no,_,_,_,_,_,_=>trivial
theorem wrE {P:Program}{L:Cf}{N:Nat}{k:List TI}{Q:AX->St->Prop}{st:St}{i:Nat}{ops:Array Oper}{d:Bool}(m:Nat)(M:List Nat)(c:Nat)(qs:List Hs)(S:St){p:Prop}(hp:p)
 (he:(H7 P ops st.σ.length (fun s=>low M c (clr L.L s)) qs (QV ops) st,Dp L.pl i,Rx k,Nat.ble N c)=(some (p,List.replicate m S),some [9995],true,true)) (h:WS P L N k Q S):WS P L N (.code (.region i ops d)::k) Q st:=by
 obtain⟨h1,h2⟩:=Prod.mk.inj he
 obtain⟨h2,h3⟩:=Prod.mk.inj h2
 obtain⟨h3,h4⟩:=Prod.mk.inj h3
 refine WL h2 ?_
 intro K' hK _
 refine FI _ st h1 hp fun st1 hs=>hK _ _ rfl (Kh M c h3 (Nat.le_of_ble_eq_true h4) rfl ?_)
 rw [List.eq_of_mem_replicate hs];exact h
end
end
end Go.Sp
namespace Go.Sp
open Go Go.Vl
inductive Do where
 |nil
 |c (f:Nat)
 |k (n:Int)
 |is (f:Nat)
deriving DecidableEq
def JZ:Do->Bool
 |.nil=>false
 |_=>true
def Jb:Do->Nat
 |.nil=>0
 |.c f=>f
 |.k _=>93
 |.is _=>101
def Jn:Do->List PV
 |.k n=>[.vptr [iP n] 0]
 |.is f=>[.vptr [.fno true f []] 0]
 |_=>[]
def ZB:Do->Option Do
 |.nil=>none
 |d=>some d
theorem ofn {e d:Do}(h:ZB e=some d):true=true/\PV.fno (JZ e) (Jb e) (Jn e)=.fno true (Jb d) (Jn d):=by
 cases e<;>simp only [ZB,Option.some.injEq,reduceCtorEq] at h<;>subst h<;>exact⟨rfl,rfl⟩
theorem Nh {a b:Int}(h:(a == b)=true):a=b:=by simpa using h
theorem Ug (k:ByteArray):∀ (l:List (ByteArray×Int)) (i:Nat),match findK .string (.string k) (L6 l) i with|some (some (_,v))=>CJ l k=((match v with|.int _ n=>n|_=>0),true)/\v=.int .i64 (CJ l k).1|some none=>CJ l k=(0,false)|none=>False
 | [],i=>by simp [L6,findK,CJ]
 |(a,v)::r,i=>by
  have ih:=Ug k r (i+1)
  show match findK .string (.string k) ((.string a,.int .i64 v)::L6 r) i with|some (some (_,v))=>_|some none=>_|none=>_
  unfold findK CJ
  have e:Instr.sameNow .string (.string k) (.string a)=some (decide (k=a)):=by
   show some (k.data == a.data)=_
   by_cases h:k=a
   . subst h;simp
   . have:k.data≠a.data:=fun e=>h (by cases k;cases a;simp_all)
     simp [h,this]
  simp only [e]
  by_cases hk:k=a
  . subst hk;simp
  . simp only [hk,decide_false,if_false];exact ih
theorem Za (l:List (ByteArray×Int))(k:ByteArray):P2 .string (L6 l) (.string k) (some (.int .i64 0))=some (.int .i64 (CJ l k).1,(CJ l k).2):=by
 unfold P2
 have h:=Ug k l 0
 split
 . rename_i e;rw [e] at h;rw [h.2];simp [h.1]
 . rename_i e;rw [e] at h;simp only at h;rw [h];rfl
 . rename_i e;rw [e] at h;exact h.elim
end Go.Sp
