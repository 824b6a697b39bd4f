/-
  Statements that step an iterator, or that weaken the state between their operations, in plain values. No program. The function values of the table of operations, as plain values; lookups in maps known by a list. No program.
-/
import Derived.Test.YtehfpameijkafaaGreatDoorY5
import Derived.Test.YtehfpameijkafaaGreatDoorY7
set_option linter.unusedVariables false
set_option linter.unusedSimpArgs false
namespace Go.Sp
open Go Go.RowKit Go.Vl
section
variable {P:Program} {L:Cf} {N:Nat} {k:List TI} {Q:AX->St->Prop} {st:St} {ops:Array Oper} {K':AX->St->Prop}
theorem wrT {l:List Oper}(M:List Nat)(c:Nat)(qs:List H4)(S:St){p:Prop}(hp:p)(he:(TV M c L.L (Pj P ops l qs st),Tz k,Nat.ble N c)=(some (p,S),true,true))(h:WS P L N k Q S)
 (hK:∀ st1 st2,clr L.L st1=st2->WS P L N k Q st2->K' .normal st1):B1 P ops K' l st:=by
 obtain⟨b,a⟩:=Ó he
 obtain⟨a,d⟩:=Ó a
 obtain⟨st1,e1,e2⟩:=Lf b
 exact FJ e1 hp (hK st1 _ rfl (JJ M c a (Ø d) e2 h))
def Aeh (M:List Nat)(c:Nat):Option (Prop×Rn)->Option (Prop×St)
 |some (p,.at_ st)=>some (p,low M c st)
 |_=>none
theorem Ad2 {i m:Nat}{d:Bool}(M:List Nat)(c:Nat)(qs:List H4)(S S2:St){p:Prop}(hp:p)(he:(Aeh M c (Pj P ops (ops.toList.take m) qs st),Di L.pl i,Nat.ble N c)=(some (p,S),some [9996,m],true))(hw:Wk N S S2)
 (h:∀ K':AX->St->Prop,(∀ st1 st2,clr L.L st1=st2->WS P L N k Q st2->K' .normal st1)->B1 P ops K' (ops.toList.drop m) S2):WS P L N (.code (.region i ops d)::k) Q st:=by
 obtain⟨a,b⟩:=Ó he
 obtain⟨b,e⟩:=Ó b
 refine WC b fun K' f _=>?_
 unfold Aeh at a
 split at a
 . rename_i p' st1 e1
   obtain⟨rfl,rfl⟩:=Ó (Af a)
   exact FJ e1 hp (.inl ⟨S2,Wk.trans (Wk.low (M:=M) (Ø e)) hw,h K' f⟩)
 . cases a
theorem Vr {o:Oper}{rest:List Oper}{x:Operand}{d k:Nat}{kvs:List (Value×Value)}{seen:List Nat}(hop:o.op=.next x false)(hd:o.dst=some d)(hg:o.guard=none)(hi:K2 st x=some (k,kvs,seen))
 (h1:(∀ i,i<kvs.length->i∈seen)->B1 P ops K' rest (st.put (some d) (.tup [.lit (.bool false)])))
 (h2:∀ i (h:i<kvs.length),i∉seen->B1 P ops K' rest (({ st with σ:=st.σ.set k [.mit kvs (seen++[i])] }:St).put (some d) (.tup [.lit (.bool true),JY kvs[i].1,JY kvs[i].2]))):B1 P ops K' (o::rest) st:=by
 unfold B1
 rw [show Cy ops st o=some true by unfold Cy;rw [hg]]
 simp only
 rw [show Hl P o st=none by unfold Hl EP J2;rw [hop,hd];rfl]
 simp only
 rw [show Eo P o st=none by unfold Eo;rw [hop]]
 simp only
 rw [show L6 o st=none by unfold L6;rw [hop]]
 simp only
 unfold QF
 rw [hop,hd]
 simp only
 rw [hi]
 exact⟨h1,h2⟩
theorem TZ {o:Oper}{rest:List Oper}{x:Operand}{d k i:Nat}{kvs:List (Value×Value)}{seen:List Nat}{e:Value×Value}(hop:o.op=.entry x)(hd:o.dst=some d)(hg:o.guard=none)(hi:K2 st x=some (k,kvs,seen++[i]))(he:kvs[i]?=some e)
 (h:B1 P ops K' rest (st.put (some d) (.tup [JY e.1,JY e.2]))):B1 P ops K' (o::rest) st:=by
 unfold B1
 rw [show Cy ops st o=some true by unfold Cy;rw [hg]]
 simp only
 rw [show Hl P o st=some (true,st.put (some d) (.tup [JY e.1,JY e.2])) by
  unfold Hl EP J2
  rw [hop,hd]
  simp only [ø]
  unfold O9
  rw [hi]
  simp only [List.getLast?_concat,Á,he,ä]]
 exact⟨rfl,h⟩
def S8 (P:Program)(ops:Array Oper)(m:Nat)(qs1:List H4)(pv:PV)(qs2:List H4)(st:St):Option (Prop×Rn) :=
 match Pj P ops (ops.toList.take m) qs1 st,ops.toList.drop m with
 |some (p1,.at_ st1),o::rest=>match o.op,o.dst,o.guard with
  |.convert s d x,some t,none=>match Ck st1 x,okB (Km P s&&u8T P d) with
   |.lit (.string bs),some _=>match Pj P ops rest qs2 ((st1.aft st1.σ).put (some t) pv) with
    |some (p2,r)=>some (p1/\(bs.size<=140737488355328/\.sl (Ct bs) .shared=pv)/\p2,r)
    |none=>none
   |_,_=>none
  |_,_,_=>none
 |_,_=>none
theorem Ab8 {i:Nat}{d:Bool}(m:Nat)(M:List Nat)(c:Nat)(qs1:List H4)(pv:PV)(qs2:List H4)(S:St){p:Prop}(hp:p)(he:(TV M c L.L (S8 P ops m qs1 pv qs2 st),Di L.pl i,Tz k,Nat.ble N c)=(some (p,S),some [9996,m],true,true))
 (h:WS P L N k Q S):WS P L N (.code (.region i ops d)::k) Q st:=by
 obtain⟨f,b⟩:=Ó he
 obtain⟨b,e⟩:=Ó b
 obtain⟨e,g⟩:=Ó e
 obtain⟨st2,e1,e2⟩:=Lf f
 refine WC b fun K' j _=>?_
 unfold S8 at e1
 split at e1
 . rename_i p1 st1 o rest r1 r2
   split at e1
   . rename_i s dd x t g1 g2 g3
     split at e1
     . rename_i bs _ g4 g5
       split at e1
       . rename_i p2 r g6
         obtain⟨rfl,rfl⟩:=Ó (Af e1)
         obtain⟨k1,⟨k2,k3⟩,k4⟩:=hp
         have g5:=CG g5
         rw [Æ] at g5
         refine FJ r1 k1 (.inr ⟨o,rest,r2,?_⟩)
         unfold Li
         rw [g1,g2,g3]
         simp only
         rw [g4]
         refine⟨g5.1,g5.2,k2,?_⟩
         rw [k3]
         exact FJ g6 k4 (j _ _ rfl (JJ M c e (Ø g) e2 h))
       . cases e1
     . cases e1
   . cases e1
 . cases e1
def PF (s:Å):Option (List Int):=if s.size<=140737488355328 then some (s.data.toList.map fun b=>(b.toNat:Int)) else none
theorem Acp {s:Å}{v:List Int}{row:Int->List PV}(h:PF s=some v)(hr:∀ x,row x=[.lit (.int .u8 x)]):s.size<=140737488355328/\PV.sl (Ct s) .shared=.sl (v.map row) .shared:=by
 unfold PF at h
 split at h
 . rename_i hs
   refine⟨hs,?_⟩
   rw [<- Af h,List.map_map]
   congr 1
   unfold Ct
   refine List.map_congr_left fun b _=>?_
   exact (hr _).symm
 . cases h
section
open Go.Q
def HI (P:Program)(ops:Array Oper)(N:Nat)(fin:St->St)(qs:List H4):OT->St->Option (Prop×List St)
 |.done,st=>some (True,[fin st])
 |.one i t,st=>match ops[i]? with
  |some o=>match Ni P ops [N,N+1] st i o (qs.getD i .no) with
   |some (p,.at_ st1)=>match HI P ops N fin qs t st1 with
    |some (p2,l)=>some (Us p p2,l)
    |none=>none
   |_=>none
  |none=>none
 |.or i sw t r,st=>match ops[i]? with
  |some o=>match Ni P ops [N,N+1] st i o (qs.getD i .no) with
   |some (p,.at_ st1)=>match sw with
    |false=>match HI P ops N fin qs t st1,HI P ops N fin qs r st with
     |some (p2,l),some (p3,l3)=>some (Us p p2/\p3,l++l3)
     |_,_=>none
    |true=>match Nat.beq st1.σ.length (N+2) with
     |true=>match HI P ops N fin qs t (swS N st1),HI P ops N fin qs r st with
      |some (p2,l),some (p3,l3)=>some (Us p p2/\p3,l++l3)
      |_,_=>none
     |false=>none
   |_=>none
  |none=>none
 |.no,_=>some (True,[])
theorem FK {P:Program}{ops:Array Oper}{N:Nat}{fin:St->St}{qs:List H4}{K:AX->St->Prop}:∀ (t:OT) (st:St) {p:Prop} {l:List St},HI P ops N fin qs t st=some (p,l)->p->(∀ st1,fin st1∈l->K .normal st1)->Wx P ops N K t st
 |.done,st,p,l,h,hp,hK=>by
  unfold HI at h
  obtain⟨_,rfl⟩:=Ó (Af h)
  exact hK st (by simp)
 |.one i t,st,p,l,h,hp,hK=>by
  unfold HI at h
  unfold Wx
  split at h
  . rename_i o ho
    split at h
    . rename_i p1 st1 e
      split at h
      . rename_i p2 l2 e2
        obtain⟨rfl,rfl⟩:=Ó (Af h)
        obtain⟨h1,h2⟩:=G6 hp
        exact ES ho e h1 (FK t st1 e2 h2 hK)
      . cases h
    . cases h
  . cases h
 |.or i sw t r,st,p,l,h,hp,hK=>by
  unfold HI at h
  unfold Wx
  split at h
  . rename_i o ho
    split at h
    . rename_i p1 st1 e
      split at h
      . split at h
        . rename_i p2 l2 p3 l3 e2 e3
          obtain⟨rfl,rfl⟩:=Ó (Af h)
          obtain⟨hp,hp3⟩:=hp
          obtain⟨h1,h2⟩:=G6 hp
          exact⟨ES ho e h1 (FK t st1 e2 h2 fun s hs=>hK s (ĉ _ hs)),FK r st e3 hp3 fun s hs=>hK s (List.mem_append_right _ hs)⟩
        . cases h
      . split at h
        . rename_i hb
          split at h
          . rename_i p2 l2 p3 l3 e2 e3
            obtain⟨rfl,rfl⟩:=Ó (Af h)
            obtain⟨hp,hp3⟩:=hp
            obtain⟨h1,h2⟩:=G6 hp
            exact⟨ES ho e h1 ⟨Nat.eq_of_beq_eq_true hb,FK t _ e2 h2 fun s hs=>hK s (ĉ _ hs)⟩,FK r st e3 hp3 fun s hs=>hK s (List.mem_append_right _ hs)⟩
          . cases h
        . cases h
    . cases h
  . cases h
 |.no,_,_,_,_,_,_=>trivial
theorem wrE {P:Program}{L:Cf}{N:Nat}{k:List TI}{Q:AX->St->Prop}{st:St}{i:Nat}{ops:Array Oper}{d:Bool}(m:Nat)(M:List Nat)(c:Nat)(qs:List H4)(S:St){p:Prop}(hp:p)
 (he:(HI P ops st.σ.length (fun s=>low M c (clr L.L s)) qs (Td ops) st,Di L.pl i,Tz k,Nat.ble N c)=(some (p,List.replicate m S),some [9995],true,true)) (h:WS P L N k Q S):WS P L N (.code (.region i ops d)::k) Q st:=by
 obtain⟨e,a⟩:=Ó he
 obtain⟨a,b⟩:=Ó a
 obtain⟨b,f⟩:=Ó b
 refine Zu a ?_
 intro K' g _
 refine FK _ st e hp fun st1 hs=>g _ _ rfl (JJ M c b (Ø f) rfl ?_)
 rw [List.eq_of_mem_replicate hs];exact h
end
end
end Go.Sp
namespace Go.Sp
open Go Go.Vl
inductive Do where
 |nil
 |c (f:Nat)
 |k (n:Int)
 |is (f:Nat)
deriving DecidableEq
def Le:Do->Bool
 |.nil=>false
 |_=>true
def JH:Do->Nat
 |.nil=>0
 |.c f=>f
 |.k _=>98
 |.is _=>106
def JX:Do->List PV
 |.k n=>[.vptr [iP n] 0]
 |.is f=>[.vptr [.fno true f []] 0]
 |_=>[]
def gfn:Do->Option Do
 |.nil=>none
 |d=>some d
theorem ofn {e d:Do}(h:gfn e=some d):true=true/\PV.fno (Le e) (JH e) (JX e)=.fno true (JH d) (JX d):=by
 cases e<;>simp only [gfn,Â,reduceCtorEq] at h<;>subst h<;>exact⟨rfl,rfl⟩
theorem NJ {a b:Int}(h:(a == b)=true):a=b:=by simpa using h
theorem Wv (k:Å):∀ (l:List (ByteArray×Int)) (i:Nat),match Ii .string (.string k) (M7 l) i with|some (some (_,v))=>Dl l k=((match v with|.int _ n=>n|_=>0),true)/\v=.int .i64 (Dl l k).1|some none=>Dl l k=(0,false)|none=>False
 | [],i=>by simp [M7,Ii,Dl]
 |(a,v)::r,i=>by
  have ih:=Wv k r (i+1)
  show match Ii .string (.string k) ((.string a,.int .i64 v)::M7 r) i with|some (some (_,v))=>_|some none=>_|none=>_
  unfold Ii Dl
  have e:Instr.sameNow .string (.string k) (.string a)=some (decide (k=a)):=by
   show some (k.data == a.data)=_
   by_cases h:k=a
   . subst h;simp
   . have:k.data≠a.data:=fun e=>h (by cases k;cases a;simp_all)
     simp [h,this]
  simp only [e]
  by_cases b:k=a
  . subst b;simp
  . simp only [b,decide_false,û];exact ih
theorem Acn (l:List (ByteArray×Int))(k:Å):Wn .string (M7 l) (.string k) (some (.int .i64 0))=some (.int .i64 (Dl l k).1,(Dl l k).2):=by
 unfold Wn
 have h:=Wv k l 0
 split
 . rename_i e;rw [e] at h;rw [h.2];simp [h.1]
 . rename_i e;rw [e] at h;simp only at h;rw [h];rfl
 . rename_i e;rw [e] at h;exact h.elim
end Go.Sp
