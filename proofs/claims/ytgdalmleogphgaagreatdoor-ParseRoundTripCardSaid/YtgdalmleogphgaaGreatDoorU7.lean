/-
  The binary operator that a token is, in the program and in the reference. No program.
-/
import Derived.Test.YtgdalmleogphgaaGreatDoorU6
namespace Go.Sp
open Go
def isS (t:Ab)(s:ByteArray):Bool:=t.Kind == 4&&decide (t.S=s)
def Er (t:Ab):List (ByteArray×Int)->Nat->BH
 | [],_=>⟨0,0⟩
 |(s,lv)::r,j=>if isS t s=true then ⟨lv,7+(j:Int)⟩ else Er t r (j+1)
theorem Ip {α:Type}(l:List α)(j:Nat):gi l (j:Int)=l[j]?:=by
 unfold gi;rw [if_pos (by omega)];rfl
theorem LR {L:List Ab}{k:Int}{t:Ab}(hk:gi L k=some t)(z:List (ByteArray×Int))(hz:z.length<=100) :
 ∀ (m j:Nat),j+m=z.length->∃ N,∀ n,N<=n ->
  (Cr n (z.map (·.1)) L k (z.map (·.2)) (j:Int)).bind (fun y=>match y with|.inl _=>some (⟨0,0⟩:BH)|.inr o=>some o)=some (Er t (z.drop j) j)
 |0,j,hj=>by
  refine⟨1,fun n hn=>?_⟩
  obtain⟨n,rfl⟩:∃ m,n=m+1:=⟨n-1,by omega⟩
  have e:z.drop j=[]:=List.drop_eq_nil_of_le (by omega)
  have d:decide ((j:Int)<((z.map (·.1)).length:Int))=false:=by rw [decide_eq_false_iff_not,List.length_map];omega
  rw [Cr.eq_2,d,e];rfl
 |m+1,j,hj=>by
  obtain⟨N,ih⟩:=LR hk z hz m (j+1) (by omega)
  refine⟨N+1,fun n hn=>?_⟩
  obtain⟨n,rfl⟩:∃ m,n=m+1:=⟨n-1,by omega⟩
  have hj2:j<z.length:=by omega
  have d:decide ((j:Int)<((z.map (·.1)).length:Int))=true:=by rw [decide_eq_true_eq,List.length_map];omega
  have g1:gi (z.map (·.1)) (j:Int)=some (z[j].1):=by rw [Ip,List.getElem?_map,List.getElem?_eq_getElem hj2];rfl
  have g2:gi (z.map (·.2)) (j:Int)=some (z[j].2):=by rw [Ip,List.getElem?_map,List.getElem?_eq_getElem hj2];rfl
  have w1:IntKind.i64.wrap ((j:Int)+1)=((j+1:Nat):Int):=by rw [A3]<;>omega
  have w2:IntKind.i64.wrap (7+(j:Int))=7+(j:Int):=by rw [A3]<;>omega
  have e:z.drop j=z[j]::z.drop (j+1):=by rw [List.drop_eq_getElem_cons hj2]
  rw [Cr.eq_2,d,e]
  simp only [cond_true,g1,Option.bind_some,AG hk,g2,w1,w2]
  show ((bif isS t z[j].1 then _ else _:Option (Unit ⊕ BH)).bind _)=some (if isS t z[j].1=true then _ else _)
  cases isS t z[j].1 with
  |true=>rfl
  |false=>exact ih n (by omega)
def SZ:List (ByteArray×Int):=[(⟨#[42]⟩,6),(⟨#[47]⟩,6),(⟨#[37]⟩,6),(⟨#[43]⟩,5),(⟨#[45]⟩,5),(⟨#[61,61]⟩,4),(⟨#[33,61]⟩,4),(⟨#[60]⟩,4),(⟨#[60,61]⟩,4),(⟨#[62]⟩,4),(⟨#[62,61]⟩,4),(⟨#[38,38]⟩,2),(⟨#[124,124]⟩,1)]
def EO (t:Ab):BH:=Er t SZ 0
theorem LS {L:List Ab}{k:Int}{t:Ab}(hk:gi L k=some t):Ev (fun n=>EZ n L k) (EO t):=by
 obtain⟨N,h⟩:=LR hk SZ (by decide) 13 0 rfl
 exact⟨N,fun n hn=>h n hn⟩
theorem Io {L:List Ab}{k:Int}{t:Ab}(hk:gi L k=some t)(z:List (ByteArray×Int))(hz:z.length<=100) :
 ∀ (n j:Nat) (r:BH),j<=z.length->(Cr n (z.map (·.1)) L k (z.map (·.2)) (j:Int)).bind (fun y=>match y with|.inl _=>some (⟨0,0⟩:BH)|.inr o=>some o)=some r->r=Er t (z.drop j) j
 |0,j,r,_,h=>by cases h
 |n+1,j,r,hj,h=>by
  by_cases hj2:j<z.length
  . have d:decide ((j:Int)<((z.map (·.1)).length:Int))=true:=by rw [decide_eq_true_eq,List.length_map];omega
    have g1:gi (z.map (·.1)) (j:Int)=some (z[j].1):=by rw [Ip,List.getElem?_map,List.getElem?_eq_getElem hj2];rfl
    have g2:gi (z.map (·.2)) (j:Int)=some (z[j].2):=by rw [Ip,List.getElem?_map,List.getElem?_eq_getElem hj2];rfl
    have w1:IntKind.i64.wrap ((j:Int)+1)=((j+1:Nat):Int):=by rw [A3]<;>omega
    have w2:IntKind.i64.wrap (7+(j:Int))=7+(j:Int):=by rw [A3]<;>omega
    have e:z.drop j=z[j]::z.drop (j+1):=by rw [List.drop_eq_getElem_cons hj2]
    rw [Cr.eq_2,d] at h
    rw [e]
    simp only [cond_true,g1,Option.bind_some,AG hk,g2,w1,w2] at h
    show r=if isS t z[j].1=true then _ else _
    have h':((bif isS t z[j].1 then some (.inr ⟨z[j].2,7+(j:Int)⟩) else Cr n (z.map (·.1)) L k (z.map (·.2)) ((j+1:Nat):Int):Option (Unit ⊕ BH)).bind (fun y=>match y with|.inl _=>some (⟨0,0⟩:BH)|.inr o=>some o))=some r:=h
    cases hi:isS t z[j].1 with
    |true=>rw [hi] at h';exact (Ac h').symm
    |false=>rw [hi] at h';exact Io hk z hz n (j+1) r (by omega) h'
  . have e:z.drop j=[]:=List.drop_eq_nil_of_le (by omega)
    have d:decide ((j:Int)<((z.map (·.1)).length:Int))=false:=by rw [decide_eq_false_iff_not,List.length_map];omega
    rw [Cr.eq_2,d] at h
    rw [e];exact (Ac h).symm
theorem Nd {L:List Ab}{k:Int}{t:Ab}(hk:gi L k=some t){n:Nat}{r:BH}(h:EZ n L k=some r):r=EO t :=
 Io hk SZ (by decide) n 0 r (Nat.zero_le _) h
def FV (t:Ab)(n:Int):List Aq->Nat->Int
 | [],_=>-1
 |b::r,j=>if (b.level == n&&isS t b.sign)=true then (j:Int) else FV t n r (j+1)
theorem LW {t:Ab}{r:List Ab}{f lv:Int}(q q1:Int)(q2:ByteArray)(q3:List Aa)(q4 e e1:Int)(e2:ByteArray)(e3:List Aa)(e4:Int)(z:List Aq)(hz:z.length<=100) :
 ∀ (m j:Nat),j+m=z.length->∃ N,∀ n,N<=n ->
  (Bj n z (t::r) f lv q q1 q2 q3 q4 e e1 e2 e3 e4 (j:Int)).bind (fun y=>match y with|.inl _=>some (-1)|.inr o=>some o)=some (FV t lv (z.drop j) j)
 |0,j,hj=>by
  refine⟨1,fun n hn=>?_⟩
  obtain⟨n,rfl⟩:∃ m,n=m+1:=⟨n-1,by omega⟩
  have e:z.drop j=[]:=List.drop_eq_nil_of_le (by omega)
  have d:decide ((j:Int)<(z.length:Int))=false:=by rw [decide_eq_false_iff_not];omega
  rw [Bj.eq_2,d,e];rfl
 |m+1,j,hj=>by
  obtain⟨N,ih⟩:=LW (t:=t) (r:=r) (f:=f) (lv:=lv) q q1 q2 q3 q4 e e1 e2 e3 e4 z hz m (j+1) (by omega)
  refine⟨N+1,fun n hn=>?_⟩
  obtain⟨n,rfl⟩:∃ m,n=m+1:=⟨n-1,by omega⟩
  have hj2:j<z.length:=by omega
  have d:decide ((j:Int)<(z.length:Int))=true:=by rw [decide_eq_true_eq];omega
  have g1:gi z (j:Int)=some z[j]:=by rw [Ip,List.getElem?_eq_getElem hj2]
  have w1:IntKind.i64.wrap ((j:Int)+1)=((j+1:Nat):Int):=by rw [A3]<;>omega
  have e':z.drop j=z[j]::z.drop (j+1):=by rw [List.drop_eq_getElem_cons hj2]
  have l1:Cc (t::r) f lv q q1 q2 q3 q4 e e1 e2 e3 e4 z[j]=some (z[j].level == lv&&isS t z[j].sign):=by
   unfold Cc
   rw [Ng]
   cases z[j].level == lv<;>rfl
  rw [Bj.eq_2,d,e']
  simp only [cond_true,g1,Option.bind_some,l1,w1]
  show ((bif (z[j].level == lv&&isS t z[j].sign) then _ else _:Option (Unit ⊕ Int)).bind _)=some (if (z[j].level == lv&&isS t z[j].sign)=true then _ else _)
  cases (z[j].level == lv&&isS t z[j].sign) with
  |true=>rfl
  |false=>exact ih n (by omega)
def Ec:List Aq:=[(Aq.mk ⟨#[42]⟩ 7 6),(Aq.mk ⟨#[47]⟩ 8 6),(Aq.mk ⟨#[37]⟩ 9 6),(Aq.mk ⟨#[43]⟩ 10 5),(Aq.mk ⟨#[45]⟩ 11 5),(Aq.mk ⟨#[61,61]⟩ 12 4),(Aq.mk ⟨#[33,61]⟩ 13 4),(Aq.mk ⟨#[60]⟩ 14 4),(Aq.mk ⟨#[60,61]⟩ 15 4),(Aq.mk ⟨#[62]⟩ 16 4),(Aq.mk ⟨#[62,61]⟩ 17 4),(Aq.mk ⟨#[38,38]⟩ 18 2),(Aq.mk ⟨#[124,124]⟩ 19 1)]
theorem Hg:Cv=some Ec:=rfl
theorem Tx {t:Ab}{r:List Ab}{f lv:Int}(q q1:Int)(q2:ByteArray)(q3:List Aa)(q4 e e1:Int)(e2:ByteArray)(e3:List Aa)(e4:Int) :
 Ev (fun n=>Cm n (t::r) f lv q q1 q2 q3 q4 e e1 e2 e3 e4 Ec) (FV t lv Ec 0):=by
 obtain⟨N,h⟩:=LW (t:=t) (r:=r) (f:=f) (lv:=lv) q q1 q2 q3 q4 e e1 e2 e3 e4 Ec (by decide) 13 0 rfl
 exact⟨N,fun n hn=>h n hn⟩
theorem TM (t:Ab)(n:Int)(hn:0<n):(∃ b,0<=FV t n Ec 0/\gi Ec (FV t n Ec 0)=some b/\(EO t).N=n/\b.op=(EO t).Op)∨(FV t n Ec 0 = -1/\(EO t).N≠n):=by
 have key:∀ (z:List (ByteArray×Int)) (o:List Aq) (j:Nat),o=z.zipIdx.map (fun x=>⟨x.1.1,7+((j+x.2:Nat):Int),x.1.2⟩)->z.Pairwise (fun a b=>a.1≠b.1) ->
  (∃ i:Nat,∃ b,FV t n o j=((j+i:Nat):Int)/\o[i]?=some b/\(Er t z j).N=n/\b.op=(Er t z j).Op)∨(FV t n o j = -1/\(Er t z j).N≠n):=by
  intro z
  induction z with
  |nil =>
   intro o j ho _
   subst ho
   exact .inr ⟨rfl,by show (0:Int)≠n;omega⟩
  |cons x z ih =>
   intro o j ho hp
   subst ho
   obtain⟨s,lv⟩:=x
   rw [List.pairwise_cons] at hp
   simp only [List.zipIdx_cons,List.map_cons,Nat.zero_add]
   have hrec:=ih (List.map (fun x=>⟨x.1.1,7+((j+1+x.2:Nat):Int),x.1.2⟩) z.zipIdx) (j+1) rfl hp.2
   have etail:List.map (fun x:(ByteArray×Int)×Nat=>(⟨x.1.1,7+((j+x.2:Nat):Int),x.1.2⟩:Aq)) (z.zipIdx 1)=List.map (fun x=>⟨x.1.1,7+((j+1+x.2:Nat):Int),x.1.2⟩) z.zipIdx:=by
    rw [List.zipIdx_succ,List.map_map]
    refine List.map_congr_left fun x _=>?_
    simp only [Function.comp]
    congr 2;omega
   rw [etail]
   show (∃ i:Nat,∃ b:Aq,(if (lv == n&&isS t s)=true then (j:Int) else FV t n _ (j+1))=_/\_/\(if isS t s=true then (⟨lv,7+(j:Int)⟩:BH) else Er t z (j+1)).N=n/\b.op=(if isS t s=true then (⟨lv,7+(j:Int)⟩:BH) else Er t z (j+1)).Op)∨((if (lv == n&&isS t s)=true then (j:Int) else FV t n _ (j+1)) = -1/\(if isS t s=true then (⟨lv,7+(j:Int)⟩:BH) else Er t z (j+1)).N≠n)
   by_cases hs:isS t s=true
   . by_cases hl:lv=n
     . left
       refine⟨0,⟨s,7+((j+0:Nat):Int),lv⟩,?_,rfl,?_,?_⟩
       . rw [if_pos (by simp [hl,hs])];rfl
       . rw [if_pos hs];exact hl
       . rw [if_pos hs];rfl
     . right
       rw [if_neg (by simp [hl]),if_pos hs]
       refine⟨?_,hl⟩
       have hnone:∀ (o:List Aq) (i:Nat),(∀ b∈o,isS t b.sign=false)->FV t n o i = -1:=by
        intro o
        induction o with
        |nil=>intro i _;rfl
        |cons b o ih=>intro i h;show (if _ then _ else _)=_;rw [if_neg (by simp [h b (by simp)])];exact ih _ fun c hc=>h c (by simp [hc])
       refine hnone _ _ fun b hb=>?_
       obtain⟨y,hy,rfl⟩:=List.mem_map.1 hb
       have hy1:y.1∈z:=by
        have:=List.mem_zipIdx' hy
        rw [this.2];exact List.getElem_mem this.1
       have hne:=hp.1 y.1 hy1
       cases hh:isS t y.1.1 with
       |false=>rfl
       |true =>
        unfold isS at hs hh
        simp only [Bool.and_eq_true,decide_eq_true_eq] at hs hh
        exact absurd (hs.2.symm.trans hh.2) hne
   . rw [if_neg (by simp [hs]),if_neg hs]
     rcases hrec with⟨i,b,h1,h2,h3,h4⟩|h
     . left
       exact⟨i+1,b,by rw [h1];congr 1;omega,by simpa using h2,h3,h4⟩
     . exact .inr h
 rcases key SZ Ec 0 rfl (by decide) with⟨i,b,h1,h2,h3,h4⟩|h
 . left
   rw [Nat.zero_add] at h1
   exact⟨b,by rw [h1];omega,by rw [h1,Ip];exact h2,h3,h4⟩
 . exact .inr h
end Go.Sp
