/-
  What the program's printer answers for names, texts, numbers, signs, and the level of an operation. No program.
-/
import Derived.Test.YtgdalmleogphgaaGreatDoorU13
import Derived.Test.YtgdalmleogphgaaGreatDoorU14
import Derived.Test.YtgdalmleogphgaaGreatDoorU15
namespace Go.Sp
open Go
def B8 (s:ByteArray):Bool:=decide (0<s.size/\s.size<=32)&&(Lx.headIs Lx.isLetter s.data.toList&&s.data.toList.all Lx.isWord)
def Fo (c:UInt8):Bool:=c == 10||(decide (32<=c)&&decide (c<=126))
def Ew (s:ByteArray):Bool:=decide (s.size<=200)&&s.data.toList.all Fo
def EC (n:Int):Bool:=decide (0<=n/\n<=999999999999999)
theorem Nf:∀ c:UInt8,BS (c.toNat:Int)=some (Lx.isLetter c):=by
 have:∀ k:Fin 256,BS ((k.val:Nat):Int)=some (Lx.isLetter (UInt8.ofNat k.val)):=by decide +kernel
 intro c
 have h:=this ⟨c.toNat,c.toNat_lt⟩
 rw [show UInt8.ofNat c.toNat=c from UInt8.ofNat_toNat] at h
 exact h
theorem T6 {s:ByteArray}{j:Nat}(h:j<s.data.toList.length):gb s (j:Int)=some ((s.data.toList[j].toNat:Nat):Int):=by
 have hs:s.data.toList.length=s.size:=rfl
 unfold gb
 rw [if_pos (by omega),Int.toNat_natCast]
 simp [List.getD,List.getElem?_eq_getElem h]
theorem GQ (c:UInt8):(decide (48<=(c.toNat:Int))&&decide ((c.toNat:Int)<=57))=Lx.isDigit c:=by
 have:∀ k:Fin 256,(decide (48<=((k.val:Nat):Int))&&decide (((k.val:Nat):Int)<=57))=Lx.isDigit (UInt8.ofNat k.val):=by decide +kernel
 have h:=this ⟨c.toNat,c.toNat_lt⟩
 rw [show UInt8.ofNat c.toNat=c from UInt8.ofNat_toNat] at h
 exact h
theorem MX {s:ByteArray}(hs:s.size<=140737488355328):∀ (m j:Nat) (ok:Bool),1<=j->j+m=s.data.toList.length->Ev (fun n=>Bz n s ok (j:Int)) (ok&&(s.data.toList.drop j).all Lx.isWord)
 |0,j,ok,h1,h=>by
  have hs:s.data.toList.length=s.size:=rfl
  refine Ev.step (fun n=>Bz.eq_2 (n:=n) _ _ _) (Ev.of fun n=>?_)
  rw [decide_eq_false (by omega),List.drop_of_length_le (by omega)];simp
 |m+1,j,ok,h1,h=>by
  have hs2:s.data.toList.length=s.size:=rfl
  have hj:j<s.data.toList.length:=by omega
  have w1:IntKind.i64.wrap ((j:Int)+1)=((j+1:Nat):Int):=by rw [A3]<;>omega
  refine Ev.step (fun n=>Bz.eq_2 (n:=n) _ _ _) ?_
  have hd:=List.drop_eq_getElem_cons hj
  have e1:(bif ok then (gb s (j:Int)).bind fun c=>(BS c).bind fun n_=>bif n_ then some true else bif decide (0<(j:Int)) then (bif decide (48<=c) then some (decide (c<=57)) else some false) else some false else some false:Option Bool)=some (ok&&Lx.isWord s.data.toList[j]):=by
   cases ok with
   |false=>rfl
   |true =>
    simp only [cond_true,T6 hj,Option.bind_some,Nf,decide_eq_true (show (0:Int)<(j:Int) by omega),Bool.true_and]
    unfold Lx.isWord
    rw [<- GQ]
    cases Lx.isLetter s.data.toList[j]<;>cases decide (48<=((s.data.toList[j].toNat:Nat):Int))<;>rfl
  simp only [decide_eq_true (show (j:Int)<(s.size:Int) by omega),cond_true,e1,Option.bind_some,w1]
  have:=MX hs m (j+1) (ok&&Lx.isWord s.data.toList[j]) (by omega) (by omega)
  rw [hd,List.all_cons,<- Bool.and_assoc]
  exact this
theorem KX {p:Ag}{s:ByteArray}(hs:s.size<=140737488355328)(hp:p.l.length<=1000000):Ev (fun n=>BW n p s) ((),⟨p.l++[⟨1,0,s,0⟩],p.bad||!B8 s⟩):=by
 have hs2:s.data.toList.length=s.size:=rfl
 have g1:CO 41 p.l [⟨1,0,s,0⟩]=some (p.l++[⟨1,0,s,0⟩]):=by unfold CO;rw [if_pos (by simp only [List.length_cons,List.length_nil];omega)]
 have fin:∀ v,(bif p.bad then some true else some (!v):Option Bool)=some (p.bad||!v):=fun v=>by cases p.bad<;>rfl
 unfold BW
 have e0:(bif decide (0<(s.size:Int)) then some (decide ((s.size:Int)<=32)) else some false:Option Bool)=some (decide (0<s.size/\s.size<=32)):=by
  by_cases h:0<s.size
  . simp [h];omega
  . simp [h]
 refine Ev.bind (Ev.const e0) ?_
 refine Ev.bind (a:=B8 s) ?_ ?_
 . cases hl:s.data.toList with
   |nil =>
    refine Ev.step (fun n=>Bz.eq_2 (n:=n) _ _ _) (Ev.of fun n=>?_)
    have:s.size=0:=by rw [<- hs2,hl];rfl
    unfold B8
    rw [decide_eq_false (show ¬ (0:Int)<(s.size:Int) by omega),decide_eq_false (show ¬ (0<s.size/\s.size<=32) by omega)];rfl
   |cons c r =>
    have hlen:s.data.toList.length=r.length+1:=by rw [hl];rfl
    have hj:0<s.data.toList.length:=by omega
    have h0:s.data.toList[0]=c:=by simp [hl]
    refine Ev.step (fun n=>Bz.eq_2 (n:=n) _ _ _) ?_
    have gz:=T6 (s:=s) (j:=0) hj
    rw [h0] at gz
    have gz:gb s 0=some ((c.toNat:Nat):Int):=gz
    have e1:(bif decide (0<s.size/\s.size<=32) then (gb s 0).bind fun c=>(BS c).bind fun n_=>bif n_ then some true else bif decide (0<(0:Int)) then (bif decide (48<=c) then some (decide (c<=57)) else some false) else some false else some false:Option Bool)=some (decide (0<s.size/\s.size<=32)&&Lx.isLetter c):=by
     cases decide (0<s.size/\s.size<=32) with
     |false=>rfl
     |true =>
      simp only [cond_true,gz,Option.bind_some,Nf,show decide ((0:Int)<0)=false from rfl,cond_false,Bool.true_and]
      cases Lx.isLetter c<;>rfl
    simp only [decide_eq_true (show (0:Int)<(s.size:Int) by omega),cond_true,e1,Option.bind_some,show IntKind.i64.wrap (0+1)=((1:Nat):Int) from rfl]
    have:=MX hs r.length 1 (decide (0<s.size/\s.size<=32)&&Lx.isLetter c) (by omega) (by omega)
    rw [hl] at this
    unfold B8
    rw [hl,show Lx.headIs Lx.isLetter (c::r)=Lx.isLetter c from rfl,List.all_cons]
    have hw:(Lx.isLetter c&&(Lx.isWord c&&r.all Lx.isWord))=(Lx.isLetter c&&r.all Lx.isWord):=by
     unfold Lx.isWord;cases Lx.isLetter c<;>simp
    rw [hw,<- Bool.and_assoc]
    exact this
 . refine Ev.bind (Ev.const (fin _)) ?_
   exact Ev.bind (Ev.const (a:=[⟨1,0,s,0⟩]) rfl) (Ev.bind (Ev.const g1) Ev.pure)
theorem TZ (c:UInt8):(bif (((c.toNat:Nat):Int) != 10) then bif decide (((c.toNat:Nat):Int)<32) then some true else some (decide (126<((c.toNat:Nat):Int))) else some false:Option Bool)=some (!Fo c):=by
 have:∀ k:Fin 256,(bif (((k.val:Nat):Int) != 10) then bif decide (((k.val:Nat):Int)<32) then some true else some (decide (126<((k.val:Nat):Int))) else some false:Option Bool)=some (!Fo (UInt8.ofNat k.val)):=by decide +kernel
 have h:=this ⟨c.toNat,c.toNat_lt⟩
 rw [show UInt8.ofNat c.toNat=c from UInt8.ofNat_toNat] at h
 exact h
theorem MI {s:ByteArray}(hs:s.size<=140737488355328):∀ (m j:Nat) (bad:Bool),j+m=s.data.toList.length->Ev (fun n=>BK n s (j:Int) bad) (bad||!(s.data.toList.drop j).all Fo)
 |0,j,ok,h=>by
  have hs:s.data.toList.length=s.size:=rfl
  refine Ev.step (fun n=>BK.eq_2 (n:=n) _ _ _) (Ev.of fun n=>?_)
  rw [decide_eq_false (by omega),List.drop_of_length_le (by omega)];simp
 |m+1,j,bad,h=>by
  have hs2:s.data.toList.length=s.size:=rfl
  have hj:j<s.data.toList.length:=by omega
  have w1:IntKind.i64.wrap ((j:Int)+1)=((j+1:Nat):Int):=by rw [A3]<;>omega
  refine Ev.step (fun n=>BK.eq_2 (n:=n) _ _ _) ?_
  have hd:=List.drop_eq_getElem_cons hj
  have e1:(bif bad then some true else (gb s (j:Int)).bind fun c=>bif (c != 10) then bif decide (c<32) then some true else some (decide (126<c)) else some false:Option Bool)=some (bad||!Fo s.data.toList[j]):=by
   cases bad with
   |true=>rfl
   |false=>simp only [cond_false,T6 hj,Option.bind_some,TZ,Bool.false_or]
  simp only [decide_eq_true (show (j:Int)<(s.size:Int) by omega),cond_true,e1,Option.bind_some,w1]
  have:=MI hs m (j+1) (bad||!Fo s.data.toList[j]) (by omega)
  rw [hd,List.all_cons,Bool.not_and,<- Bool.or_assoc]
  exact this
theorem Q5 {p:Ag}{s:ByteArray}(hs:s.size<=140737488355328)(hp:p.l.length<=1000000):Ev (fun n=>Cx n p s) ((),⟨p.l++[⟨3,0,s,0⟩],p.bad||!Ew s⟩):=by
 have g1:CO 41 p.l [⟨3,0,s,0⟩]=some (p.l++[⟨3,0,s,0⟩]):=by unfold CO;rw [if_pos (by simp only [List.length_cons,List.length_nil];omega)]
 unfold Cx
 have e0:(bif p.bad then some true else some (decide (200<(s.size:Int))):Option Bool)=some (p.bad||!decide (s.size<=200)):=by
  cases p.bad with
  |true=>rfl
  |false =>
   by_cases h:s.size<=200
   . simp [h];omega
   . simp [h];omega
 refine Ev.bind (Ev.const e0) ?_
 have:=MI hs s.data.toList.length 0 (p.bad||!decide (s.size<=200)) (by omega)
 refine Ev.bind this ?_
 refine Ev.bind (Ev.const (a:=[⟨3,0,s,0⟩]) rfl) (Ev.bind (Ev.const g1) (Ev.of fun _=>?_))
 rw [List.drop_zero,Bool.or_assoc,<- Bool.not_and];rfl
theorem Kk {p:Ag}{v:Int}(hp:p.l.length<=1000000):BR p v=some ((),⟨p.l++[⟨2,0,⟨#[]⟩,v⟩],p.bad||!EC v⟩):=by
 have g1:CO 41 p.l [⟨2,0,⟨#[]⟩,v⟩]=some (p.l++[⟨2,0,⟨#[]⟩,v⟩]):=by unfold CO;rw [if_pos (by simp only [List.length_cons,List.length_nil];omega)]
 have e0:(bif p.bad then some true else bif decide (v<0) then some true else some (decide (999999999999999<v)):Option Bool)=some (p.bad||!EC v):=by
  cases p.bad with
  |true=>rfl
  |false =>
   unfold EC
   by_cases h:v<0
   . simp [h]
   . by_cases h2:999999999999999<v
     . simp [h,h2]
     . simp [h,h2];omega
 unfold BR
 rw [e0]
 simp only [Option.bind_some,g1]
theorem CF {p:Ag}{s:ByteArray}(hp:p.l.length<=1000000):Ev (fun n=>A9 n p [s]) ((),⟨p.l++[tS s],p.bad⟩):=by
 have g1:CO 41 p.l [⟨4,0,s,0⟩]=some (p.l++[⟨4,0,s,0⟩]):=by unfold CO;rw [if_pos (by simp only [List.length_cons,List.length_nil];omega)]
 unfold A9
 refine Ev.bind (a:=p.l++[tS s]) ?_ Ev.pure
 refine Ev.step (fun n=>BV.eq_2 (n:=n) _ _ _) ?_
 simp only [List.length_singleton,show decide ((0:Int)<((1:Nat):Int))=true from rfl,cond_true,show gi [s] 0=some s from rfl,Option.bind_some,g1,show IntKind.i64.wrap (0+1)=1 from rfl]
 refine Ev.step (fun n=>BV.eq_2 (n:=n) _ _ _) (Ev.of fun n=>?_)
 rfl
theorem K8 {e:Aa}:∀ (m j:Nat),j+m=Ec.length->Ev (fun n=>CH n Ec e (j:Int)) (match Oq e.Op (Ec.drop j) with|some b=>.inr b.level|none=>.inl ())
 |0,j,h=>by
  refine Ev.step (fun n=>CH.eq_2 (n:=n) _ _ _) (Ev.of fun n=>?_)
  rw [decide_eq_false (by omega),List.drop_of_length_le (by omega)];rfl
 |m+1,j,h=>by
  have hj:j<Ec.length:=by omega
  have hl:Ec.length=13:=rfl
  have w1:IntKind.i64.wrap ((j:Int)+1)=((j+1:Nat):Int):=by rw [A3]<;>omega
  refine Ev.step (fun n=>CH.eq_2 (n:=n) _ _ _) ?_
  rw [List.drop_eq_getElem_cons hj]
  simp only [decide_eq_true (show (j:Int)<(Ec.length:Int) by omega),cond_true,ED hj,Option.bind_some,w1]
  unfold Oq
  by_cases q:Ec[j].op=e.Op
  . rw [if_pos q,show (Ec[j].op == e.Op)=true by simpa using q]
    exact Ev.pure
  . rw [if_neg q,show (Ec[j].op == e.Op)=false by simpa using q]
    exact K8 m (j+1) (by omega)
theorem RN (e:Aa):Ev (fun n=>Ep n e) (lvl e.Op):=by
 unfold Ep lvl
 by_cases h20:e.Op=20
 . rw [if_pos h20,show (e.Op == 20)=true by simpa using h20];exact Ev.pure
 by_cases h5:e.Op=5
 . rw [if_neg h20,if_pos h5,show (e.Op == 20)=false by simpa using h20,show (e.Op == 5)=true by simpa using h5];exact Ev.pure
 by_cases h6:e.Op=6
 . rw [if_neg h20,if_neg h5,if_pos h6,show (e.Op == 20)=false by simpa using h20,show (e.Op == 5)=false by simpa using h5,show (e.Op == 6)=true by simpa using h6];exact Ev.pure
 rw [if_neg h20,if_neg h5,if_neg h6,show (e.Op == 20)=false by simpa using h20,show (e.Op == 5)=false by simpa using h5,show (e.Op == 6)=false by simpa using h6]
 simp only [cond_false,Hg,Option.bind_some]
 have:=K8 (e:=e) 13 0 rfl
 rw [List.drop_zero] at this
 refine Ev.bind this ?_
 cases Oq e.Op Ec<;>exact Ev.pure
theorem K9 {q:List Ab}{q1:Bool}{e e1:Int}{e2:ByteArray}{e3:List Aa}{e4:Int}:∀ (m j:Nat),j+m=Ec.length ->
 ∃ y,Ev (fun n=>AT n Ec q q1 e e1 e2 e3 e4 (j:Int)) y/\(y=.inl ()/\Oq e (Ec.drop j)=none∨∃ i:Nat,y=.inr (i:Int)/\∃ h:i<Ec.length,Oq e (Ec.drop j)=some Ec[i])
 |0,j,h=>by
  refine⟨.inl (),Ev.step (fun n=>AT.eq_2 (n:=n) _ _ _ _ _ _ _ _ _) (Ev.of fun n=>?_),.inl ⟨rfl,?_⟩⟩
  . rw [decide_eq_false (by omega)];rfl
  . rw [List.drop_of_length_le (by omega)];rfl
 |m+1,j,h=>by
  have hj:j<Ec.length:=by omega
  have hl:Ec.length=13:=rfl
  have w1:IntKind.i64.wrap ((j:Int)+1)=((j+1:Nat):Int):=by rw [A3]<;>omega
  rw [List.drop_eq_getElem_cons hj]
  have st:∀ y,Ev (fun n=>(bif (Ec[j].op == e) then some (.inr (j:Int)) else AT n Ec q q1 e e1 e2 e3 e4 ((j+1:Nat):Int):Option (Unit ⊕ Int))) y->Ev (fun n=>AT n Ec q q1 e e1 e2 e3 e4 (j:Int)) y:=by
   intro y hy
   refine Ev.step (fun n=>AT.eq_2 (n:=n) _ _ _ _ _ _ _ _ _) ?_
   simp only [decide_eq_true (show (j:Int)<(Ec.length:Int) by omega),cond_true,ED hj,Option.bind_some,w1,C1]
   exact hy
  unfold Oq
  by_cases q':Ec[j].op=e
  . rw [if_pos q']
    refine⟨.inr (j:Int),st _ ?_,.inr ⟨j,rfl,hj,rfl⟩⟩
    rw [show (Ec[j].op == e)=true by simpa using q'];exact Ev.pure
  . rw [if_neg q']
    obtain⟨y,hy,hh⟩:=K9 (q:=q) (q1:=q1) (e:=e) (e1:=e1) (e2:=e2) (e3:=e3) (e4:=e4) m (j+1) (by omega)
    refine⟨y,st y ?_,hh⟩
    rw [show (Ec[j].op == e)=false by simpa using q'];exact hy
theorem RR (q:List Ab)(q1:Bool)(e e1:Int)(e2:ByteArray)(e3:List Aa)(e4:Int) :
 (Oq e Ec=none/\Ev (fun n=>BC n q q1 e e1 e2 e3 e4 Ec) (-1))∨∃ (i:Nat) (b:Aq),Ev (fun n=>BC n q q1 e e1 e2 e3 e4 Ec) (i:Int)/\gi Ec (i:Int)=some b/\Oq e Ec=some b:=by
 obtain⟨y,hy,hh⟩:=K9 (q:=q) (q1:=q1) (e:=e) (e1:=e1) (e2:=e2) (e3:=e3) (e4:=e4) 13 0 rfl
 rw [List.drop_zero] at hh
 unfold BC
 rcases hh with⟨rfl,h⟩|⟨i,rfl,hi,h⟩
 . exact .inl ⟨h,Ev.bind hy Ev.pure⟩
 . exact .inr ⟨i,_,Ev.bind hy Ev.pure,ED hi,h⟩
end Go.Sp
