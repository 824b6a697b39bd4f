/-
  Plain facts on blanks and single tokens. No program. Plain facts on sources: joined, cut, with blanks put in, printed and read again. No program. A matrix of bytes that a call made itself and writes into: its rows lie in blocks of their own. No program. More of lists in memory: appending any list, an empty one and nil too; regions whose end is named. No program. Tokens in memory, the reader's state, strings as lists of bytes. No program. Plain facts of sources, as bytes. No program. What strconv.Atoi does with a word that begins with a digit. No program. Plain facts that the walks of the lexer use. Plain facts of what is left of a source. Plain facts for examples: what is read by running; line feeds and wide characters. No program. The lifted lexer reads as the plain one. What the lexer's functions answer, in the form that lifted walks use: Tokens, the reference's Tokens, Text. The walks of statute: Forms: the program computes the plain functions. (Printed by lift.py.) The walks of statute: Compile: the program computes the plain functions. (Printed by lift.py.) The walks of statute: the reference of statute: the program computes the plain functions. (Printed by lift.py.) The walks of duty: what the laws share. (Printed by lift.py.) The walks of duty: DutyRanksDecide. (Printed by lift.py.)
-/
import Derived.Laws.CopyOwn
import Derived.Lib.Strings
import Derived.Lib.AtoiAll
import Derived.Laws.RangeAny
import Derived.Test.YtehfpameijkafaaGreatDoorU1
import Derived.Test.YtehfpameijkafaaGreatDoorU2
import Derived.Test.YtehfpameijkafaaGreatDoorU6
import Derived.Test.YtehfpameijkafaaGreatDoorU10
import Derived.Test.YtehfpameijkafaaGreatDoorU11
import Derived.Test.YtehfpameijkafaaGreatDoorU12
import Derived.Test.YtehfpameijkafaaGreatDoorU13
import Derived.Test.YtehfpameijkafaaGreatDoorU14
set_option linter.unusedVariables false
set_option linter.unusedSimpArgs false
namespace Go.Lx
theorem K7 (c:UInt8)(r:List UInt8):skip false (c::r)=if EO c then skip false r else if c=35 then skip true r else c::r:=rfl
theorem Lh (c:UInt8)(r:List UInt8):skip true (c::r)=if c=10 then skip false r else skip true r:=rfl
theorem HB:∀ (m:Bool) (r:List UInt8),(skip m r).length<=r.length
 |_,[]=>by cases ‹Bool›<;>exact Nat.le_refl _
 |false,c::r=>by
  unfold skip
  split
  . have:=HB false r;simp only [List.length_cons];omega
  . split
    . have:=HB true r;simp only [List.length_cons];omega
    . exact Nat.le_refl _
 |true,c::r=>by
  unfold skip
  split
  . have:=HB false r;simp only [List.length_cons];omega
  . have:=HB true r;simp only [List.length_cons];omega
theorem HA:∀ (m:Bool) (a:List UInt8),∃ u,a=u++skip m a
 |m,[]=>⟨[],by cases m<;>rfl⟩
 |false,d::a=>by
  unfold skip
  split
  . obtain⟨u,h⟩:=HA false a;exact⟨d::u,by rw [List.cons_append,<- h]⟩
  . split
    . obtain⟨u,h⟩:=HA true a;exact⟨d::u,by rw [List.cons_append,<- h]⟩
    . exact⟨[],rfl⟩
 |true,d::a=>by
  unfold skip
  split
  . obtain⟨u,h⟩:=HA false a;exact⟨d::u,by rw [List.cons_append,<- h]⟩
  . obtain⟨u,h⟩:=HA true a;exact⟨d::u,by rw [List.cons_append,<- h]⟩
def Sep (t x:List UInt8):Prop:=x=[]∨(∃ c r,x=c::r/\(EO c=true∨c=35))∨(∃ c r r',x=c::r/\t=c::r')
theorem Gd (p:UInt8->Bool):∀ (u x:List UInt8),(∀ c∈u,p c=true)->Cu p x=false->(u++x).takeWhile p=u/\(u++x).dropWhile p=x
 | [],x,_,h=>by
  cases x with
  |nil=>exact⟨rfl,rfl⟩
  |cons c r=>have:p c=false:=h;simp [this]
 |d::u,x,hu,h=>by
  obtain⟨h1,h2⟩:=Gd p u x (fun c hc=>hu c (List.mem_cons_of_mem _ hc)) h
  have hd:=hu d (List.mem_cons_self ..)
  simp [hd,h1,h2]
theorem HM (p:UInt8->Bool):∀ (r:List UInt8),(∀ c∈r.takeWhile p,p c=true)/\Cu p (r.dropWhile p)=false/\r=r.takeWhile p++r.dropWhile p
 | []=>⟨by simp,rfl,rfl⟩
 |d::r=>by
  obtain⟨h1,h2,h3⟩:=HM p r
  by_cases hd:p d=true
  . simp only [List.takeWhile_cons,List.dropWhile_cons,hd,if_true]
    refine⟨fun c hc=>?_,h2,by rw [List.cons_append,<- h3]⟩
    rcases List.mem_cons.1 hc with rfl|h
    . exact hd
    . exact h1 c h
  . simp only [List.takeWhile_cons,List.dropWhile_cons,if_neg hd]
    exact⟨by simp,by show p d=false;simpa using hd,rfl⟩
theorem Hd {c:UInt8}(h:EO c=true∨c=35):isWord c=false/\isDigit c=false/\BT c=false:=by
 have:c=32∨c=9∨c=10∨c=13∨c=35:=by
  rcases h with h|h
  . simp only [EO,Bool.or_eq_true,beq_iff_eq] at h
    rcases h with ((h|h)|h)|h<;>simp [h]
  . simp [h]
 rcases this with rfl|rfl|rfl|rfl|rfl<;>decide
theorem PY {p:UInt8->Bool}{t x:List UInt8}(h:Sep t x)(ht:Cu p t=false)(hb:∀ c,(EO c=true∨c=35)->p c=false):Cu p x=false:=by
 rcases h with rfl|⟨c,r,rfl,hc⟩|⟨c,r,r',rfl,rfl⟩
 . rfl
 . exact hb c hc
 . exact ht
theorem We {r s t:List UInt8}{k v:Nat}(h:name r=.ok k s v t):k=1/\v=0/\r=s++t/\(∀ c∈s,isWord c=true)/\Cu isWord t=false/\s.length<=32:=by
 unfold name at h
 split at h
 . cases h
 . cases h
   obtain⟨h1,h2,h3⟩:=HM isWord r
   exact⟨rfl,rfl,h3,h1,h2,by omega⟩
theorem Ab0 {s x:List UInt8}(h1:∀ c∈s,isWord c=true)(h2:Cu isWord x=false)(h3:s.length<=32):name (s++x)=.ok 1 s 0 x:=by
 obtain⟨e1,e2⟩:=Gd isWord s x h1 h2
 unfold name
 rw [e1,e2,if_neg (by omega)]
end Go.Lx
namespace Go.Lx
theorem U8 (d:List UInt8)(c:UInt8):E6 (d++[c])=10*E6 d+(c.toNat-48):=by
 unfold E6;rw [List.foldl_append];rfl
def dec (n:Nat):List UInt8:=if h:n<10 then [UInt8.ofNat (48+n)] else dec (n / 10)++[UInt8.ofNat (48+n % 10)]
termination_by n
decreasing_by omega
theorem Kx {c:UInt8}(h:isDigit c=true):48<=c.toNat/\c.toNat<=57:=by
 simp only [isDigit,Bool.and_eq_true,decide_eq_true_eq,UInt8.le_iff_toNat_le] at h
 exact⟨h.1,h.2⟩
theorem OP {c:UInt8}(h:isDigit c=true):UInt8.ofNat (48+(c.toNat-48))=c:=by
 have:=Kx h
 rw [show 48+(c.toNat-48)=c.toNat by omega]
 exact UInt8.ofNat_toNat
theorem Wc:∀ (d:List UInt8) (c:UInt8),isDigit c=true->c≠48->(∀ x∈d,isDigit x=true)->1<=E6 (c::d):=by
 intro d c hc h48 hd
 have hb:=Kx hc
 have hne:c.toNat≠48:=fun e=>h48 (UInt8.toNat_inj.1 (by rw [e];rfl))
 have key:∀ (l:List UInt8) (a:Nat),1<=a->1<=l.foldl (fun n c=>10*n+(c.toNat-48)) a:=by
  intro l
  induction l with
  |nil=>intro a h;exact h
  |cons x l ih=>intro a h;exact ih _ (show 1<=10*a+(x.toNat-48) by omega)
 exact key d _ (show 1<=10*0+(c.toNat-48) by omega)
theorem QT:∀ (n:Nat) (d:List UInt8),d.length=n->d≠[]->(∀ c∈d,isDigit c=true)->(1<d.length->Cu (· == 48) d=false)->dec (E6 d)=d
 |0,d,hl,hne,_,_=>absurd (List.eq_nil_of_length_eq_zero hl) hne
 |n+1,d,hl,hne,hd,hz=>by
  obtain⟨d',c,rfl⟩:∃ d' c,d=d'++[c]:=⟨d.dropLast,d.getLast hne,(List.dropLast_concat_getLast hne).symm⟩
  have hc:=hd c (by simp)
  have hb:=Kx hc
  rw [U8]
  by_cases h0:d'=[]
  . subst h0
    have e:E6 []=0:=rfl
    rw [e,dec,dif_pos (by omega)]
    simp only [Nat.mul_zero,Nat.zero_add,OP hc,List.nil_append]
  . have hd':∀ x∈d',isDigit x=true:=fun x hx=>hd x (by simp [hx])
    obtain⟨a,r,rfl⟩:∃ a r,d'=a::r:=by cases d' with|nil=>exact absurd rfl h0|cons a r=>exact⟨a,r,rfl⟩
    have ha:a≠48:=by
     have:=hz (by simp)
     have h2:(a == 48)=false:=this
     simpa using h2
    have hp:=Wc r a (hd' a (by simp)) ha (fun x hx=>hd' x (by simp [hx]))
    have ih:=QT n (a::r) (by simp at hl ⊢;omega) (by simp) hd' (fun _=>by show (a == 48)=false;simpa using ha)
    rw [dec,dif_neg (by omega)]
    rw [show (10*E6 (a::r)+(c.toNat-48)) / 10=E6 (a::r) by omega,show (10*E6 (a::r)+(c.toNat-48)) % 10=c.toNat-48 by omega,ih,OP hc]
theorem Nv {r s t:List UInt8}{k v:Nat}(h:number r=.ok k s v t):∃ d,k=2/\s=[]/\v=E6 d/\r=d++t/\(∀ c∈d,isDigit c=true)/\Cu isDigit t=false/\Cu BT t=false/\d.length<=15/\(1<d.length->Cu (· == 48) r=false):=by
 unfold number at h
 simp only at h
 split at h
 . cases h
 . rename_i hn
   cases h
   obtain⟨h1,h2,h3⟩:=HM isDigit r
   simp only [Bool.or_eq_true,Bool.and_eq_true,decide_eq_true_eq,not_or,not_and] at hn
   obtain⟨⟨hn1,hn2⟩,hn3⟩:=hn
   exact⟨_,rfl,rfl,rfl,h3,h1,h2,by simpa using hn3,by omega,fun h=>by simpa using hn2 h⟩
theorem Yi {d x:List UInt8}(h1:∀ c∈d,isDigit c=true)(h2:Cu isDigit x=false)(h3:Cu BT x=false)(h4:d.length<=15)(h5:1<d.length->Cu (· == 48) (d++x)=false):number (d++x)=.ok 2 [] (E6 d) x:=by
 obtain⟨e1,e2⟩:=Gd isDigit d x h1 h2
 unfold number
 simp only
 rw [e1,e2,if_neg]
 simp only [Bool.or_eq_true,Bool.and_eq_true,decide_eq_true_eq,not_or,not_and]
 exact⟨⟨by omega,fun h=>by simpa using h5 h⟩,by simpa using h3⟩
theorem Hz (a b:List UInt8):quoted (a++b)=quoted a++quoted b:=List.flatMap_append
theorem OL {d:UInt8}(h:pair d≠0):quoted [pair d]=[92,d]:=by
 unfold pair at h ⊢
 by_cases h1:d=34∨d=92
 . rw [if_pos h1]
   rcases h1 with rfl|rfl<;>decide
 . rw [if_neg h1] at h ⊢
   by_cases h2:d=110
   . subst h2;decide
   . rw [if_neg h2] at h;exact absurd rfl h
theorem Nr {c:UInt8}(h1:c≠34)(h2:c≠92)(h3:¬ (c<32∨126<c)):quoted [c]=[c]:=by
 have h4:c≠10:=fun e=>h3 (.inl (by rw [e];decide))
 simp [quoted,h1,h2,h4]
theorem VD:∀ (n:Nat) (r b:List UInt8),r.length<=n->∀ {s t:List UInt8} {k v:Nat},text b r=.ok k s v t ->
 ∃ body,k=3/\v=0/\s=b++body/\r=quoted body++34::t/\∀ x,text b (quoted body++34::x)=.ok 3 s 0 x:=by
 intro n
 induction n with
 |zero =>
  intro r b hr s t k v h
  obtain rfl:=List.eq_nil_of_length_eq_zero (Nat.le_zero.1 hr)
  unfold text at h
  split at h<;>cases h
 |succ n ih =>
  intro r b hr s t k v h
  cases r with
  |nil=>unfold text at h;split at h<;>cases h
  |cons c r =>
   unfold text at h
   by_cases hb:200<b.length
   . rw [if_pos hb] at h;cases h
   rw [if_neg hb] at h
   by_cases h34:c=34
   . rw [if_pos h34] at h
     cases h
     refine⟨[],rfl,rfl,by simp,by rw [h34];rfl,fun x=>?_⟩
     show text b (34::x)=_
     unfold text
     rw [if_neg hb,if_pos rfl]
   rw [if_neg h34] at h
   by_cases h92:c=92
   . rw [if_pos h92] at h
     cases r with
     |nil=>cases h
     |cons d r' =>
      simp only at h
      by_cases hp:pair d=0
      . rw [if_pos hp] at h;cases h
      . rw [if_neg hp] at h
        obtain⟨body,e1,e2,e3,e4,e5⟩:=ih r' _ (by simp at hr;omega) h
        refine⟨pair d::body,e1,e2,by rw [e3];simp,?_,fun x=>?_⟩
        . rw [show pair d::body=[pair d]++body from rfl,Hz,OL hp,e4,h92];rfl
        . rw [show pair d::body=[pair d]++body from rfl,Hz,OL hp]
          show text b (92::d::(quoted body++34::x))=_
          unfold text
          rw [if_neg hb,if_neg (by decide),if_pos rfl]
          simp only
          rw [if_neg hp]
          exact e5 x
   . rw [if_neg h92] at h
     by_cases hr2:c<32∨126<c
     . rw [if_pos hr2] at h;cases h
     . rw [if_neg hr2] at h
       obtain⟨body,e1,e2,e3,e4,e5⟩:=ih r _ (by simp at hr;omega) h
       refine⟨c::body,e1,e2,by rw [e3];simp,?_,fun x=>?_⟩
       . rw [show c::body=[c]++body from rfl,Hz,Nr h34 h92 hr2,e4];rfl
       . rw [show c::body=[c]++body from rfl,Hz,Nr h34 h92 hr2]
         show text b (c::(quoted body++34::x))=_
         unfold text
         rw [if_neg hb,if_neg h34,if_neg h92,if_neg hr2]
         exact e5 x
theorem Qv {l:List UInt8}(h:l∈long):l.length=2:=by
 have:∀ l∈long,l.length=2:=by decide
 exact this l h
theorem UE {a b:UInt8}(h:[a,b]∈long):EO b=false/\b≠35:=by
 have:∀ l∈long,∀ b,l[1]?=some b->EO b=false/\b≠35:=by
  intro l hl b hb
  simp only [long,List.mem_cons,List.not_mem_nil,or_false] at hl
  rcases hl with rfl|rfl|rfl|rfl|rfl|rfl|rfl|rfl|rfl<;>(simp at hb;subst hb;decide)
 exact this _ h b rfl
theorem VP {r s t:List UInt8}{k v:Nat}(h:sign r=.ok k s v t):k=4/\v=0/\r=s++t/\((s∈long)∨(∃ c,s=[c]/\c∈short/\r.take 2∉long)):=by
 unfold sign at h
 by_cases hl:r.take 2∈long
 . rw [if_pos hl] at h;cases h;exact⟨rfl,rfl,(List.take_append_drop 2 r).symm,.inl hl⟩
 . rw [if_neg hl] at h
   cases r with
   |nil=>cases h
   |cons c r' =>
    simp only at h
    by_cases hs:c∈short
    . rw [if_pos hs] at h;cases h;exact⟨rfl,rfl,rfl,.inr ⟨c,rfl,hs,hl⟩⟩
    . rw [if_neg hs] at h;cases h
theorem Abk {s t x:List UInt8}(h:(s∈long)∨(∃ c,s=[c]/\c∈short/\(s++t).take 2∉long))(hx:Sep t x):sign (s++x)=.ok 4 s 0 x:=by
 unfold sign
 rcases h with h|⟨c,rfl,hc,hn⟩
 . have hl:=Qv h
   have e1:(s++x).take 2=s:=by rw [<- hl];exact List.take_left
   have e2:(s++x).drop 2=x:=by rw [<- hl];exact List.drop_left
   rw [e1,e2,if_pos h]
 . have hno:([c]++x).take 2∉long:=by
    rcases hx with rfl|⟨d,r,rfl,hd⟩|⟨d,r,r',rfl,rfl⟩
    . intro h;have:=Qv h;simp at this
    . intro h
      have h2:[c,d]∈long:=h
      obtain⟨h3,h4⟩:=UE h2
      rcases hd with hd|hd
      . rw [hd] at h3;cases h3
      . exact h4 hd
    . exact hn
   rw [if_neg hno]
   simp only [List.singleton_append]
   rw [if_pos hc]
def word (k:Nat)(s:List UInt8)(v:Nat):List UInt8:=if k=1∨k=4 then s else if k=2 then dec v else if k=3 then 34::quoted s++[34] else []
theorem RL {r s t:List UInt8}{k v:Nat}(h:tok r=.ok k s v t) :
 word k s v≠[]/\r=word k s v++t/\(∀ x,Sep t x->tok (word k s v++x)=.ok k s v x)/\1<=k/\k<=4:=by
 unfold tok at h
 cases r with
 |nil=>cases h
 |cons c r' =>
  simp only at h
  by_cases hl:BT c=true
  . rw [if_pos hl] at h
    obtain⟨rfl,rfl,e,h1,h2,h3⟩:=We h
    have hw:word 1 s 0=s:=rfl
    have hs:s≠[]:=by
     rintro rfl
     rw [List.nil_append] at e
     rw [<- e] at h2
     have:isWord c=false:=h2
     simp [isWord,hl] at this
    obtain⟨d,s',rfl⟩:∃ d s',s=d::s':=by cases s with|nil=>exact absurd rfl hs|cons d s'=>exact⟨d,s',rfl⟩
    have hd:d=c:=by simp at e;exact e.1.symm
    subst hd
    rw [hw]
    refine⟨hs,e,fun x hx=>?_,by omega,by omega⟩
    rw [List.cons_append]
    unfold tok
    simp only
    rw [if_pos hl,<- List.cons_append]
    exact Ab0 h1 (PY hx h2 fun c hc=>(Hd hc).1) h3
  rw [if_neg hl] at h
  by_cases hd:isDigit c=true
  . rw [if_pos hd] at h
    obtain⟨d,rfl,rfl,rfl,e,h1,h2,h3,h4,h5⟩:=Nv h
    have hdn:d≠[]:=by
     rintro rfl
     rw [List.nil_append] at e
     rw [<- e] at h2
     have:isDigit c=false:=h2
     rw [hd] at this;cases this
    obtain⟨a,d',rfl⟩:∃ a d',d=a::d':=by cases d with|nil=>exact absurd rfl hdn|cons a d'=>exact⟨a,d',rfl⟩
    have ha:a=c:=by simp at e;exact e.1.symm
    subst ha
    have h6:1<(a::d').length->Cu (· == 48) (a::d')=false:=fun h=>by have:=h5 h;exact this
    have hw:word 2 [] (E6 (a::d'))=a::d':=by
     show dec _=_
     exact QT _ _ rfl hdn h1 h6
    rw [hw]
    refine⟨hdn,e,fun x hx=>?_,by omega,by omega⟩
    rw [List.cons_append]
    unfold tok
    simp only
    rw [if_neg hl,if_pos hd,<- List.cons_append]
    exact Yi h1 (PY hx h2 fun c hc=>(Hd hc).2.1) (PY hx h3 fun c hc=>(Hd hc).2.2) h4 (fun h=>h6 h)
  rw [if_neg hd] at h
  by_cases hq:c=34
  . rw [if_pos hq] at h
    obtain⟨body,rfl,rfl,e3,e4,e5⟩:=VD _ _ _ (Nat.le_refl _) h
    rw [List.nil_append] at e3
    subst e3
    have hw:word 3 s 0=34::quoted s++[34]:=rfl
    rw [hw]
    refine⟨by simp,by rw [hq,e4];simp,fun x _=>?_,by omega,by omega⟩
    rw [List.append_assoc]
    show tok (34::(quoted s++34::x))=_
    unfold tok
    simp only
    rw [if_neg (by decide),if_neg (by decide),if_pos trivial]
    exact e5 x
  rw [if_neg hq] at h
  obtain⟨rfl,rfl,e,h1⟩:=VP h
  have hw:word 4 s 0=s:=rfl
  rw [hw]
  have hs:s≠[]:=by
   rcases h1 with h1|⟨c,rfl,_⟩
   . have:=Qv h1;rintro rfl;simp at this
   . simp
  obtain⟨a,s',rfl⟩:∃ a s',s=a::s':=by cases s with|nil=>exact absurd rfl hs|cons a s'=>exact⟨a,s',rfl⟩
  have ha:a=c:=by simp at e;exact e.1.symm
  subst ha
  refine⟨hs,e,fun x hx=>?_,by omega,by omega⟩
  rw [List.cons_append]
  unfold tok
  simp only
  rw [if_neg hl,if_neg hd,if_neg hq,<- List.cons_append]
  exact Abk (t:=t) (by rw [<- e];exact h1) hx
end Go.Lx
namespace Go.Lx
inductive Good (n:Nat):List UInt8->List Tok->Prop
 |fin:Good n [] [⟨5,n,[],0⟩]
 |cons {r s t:List UInt8} {k v:Nat} {l:List Tok}:tok r=.ok k s v t->Good n (skip false t) l->Good n r (⟨k,n-r.length,s,v⟩::l)
inductive Bad (n:Nat):List UInt8->Nat->Nat->Prop
 |here {r:List UInt8} {e:Nat}:r≠[]->tok r=.bad e->Bad n r (n-r.length) e
 |later {r s t:List UInt8} {k v p e:Nat}:tok r=.ok k s v t->Bad n (skip false t) p e->Bad n r p e
theorem Xc {r s t:List UInt8}{k v:Nat}(h:tok r=.ok k s v t):t.length<r.length:=by
 obtain⟨h1,h2,_⟩:=RL h
 have:0<(word k s v).length:=List.length_pos_iff.2 h1
 rw [h2,List.length_append];omega
theorem Good.unique {n:Nat}{r:List UInt8}{l l':List Tok}(h:Good n r l)(h':Good n r l'):l=l':=by
 induction h generalizing l' with
 |fin=>cases h' with|fin=>rfl|cons h _=>cases h
 |cons ht _ ih =>
  cases h' with
  |fin=>cases ht
  |cons ht' hg'=>rw [ht] at ht';cases ht';rw [ih hg']
theorem Good.notBad {n p e:Nat}{r:List UInt8}{l:List Tok}(h:Good n r l)(h':Bad n r p e):False:=by
 induction h with
 |fin=>cases h' with|here h _=>exact h rfl|later h _=>cases h
 |cons ht _ ih =>
  cases h' with
  |here _ hb=>rw [ht] at hb;cases hb
  |later ht' hb=>rw [ht] at ht';cases ht';exact ih hb
theorem Bad.unique {n p e p' e':Nat}{r:List UInt8}(h:Bad n r p e)(h':Bad n r p' e'):p=p'/\e=e':=by
 induction h with
 |here _ hb=>cases h' with|here _ hb'=>rw [hb] at hb';cases hb';exact⟨rfl,rfl⟩|later ht _=>rw [hb] at ht;cases ht
 |later ht _ ih=>cases h' with|here _ hb'=>rw [ht] at hb';cases hb'|later ht' hb=>rw [ht] at ht';cases ht';exact ih hb
end Go.Lx



namespace Go.Proofs.YtehfpameijkafaaGreatDoor
open Go.RowKit Go.Q Go.Lx
variable {w:World}
def cls (c:UInt8):Nat:=if BT c then 3 else if isDigit c then 2 else if EO c then 1 else 0
theorem Wj (c:UInt8):BT c=true↔((97<=(c.toNat:Int)/\(c.toNat:Int)<=122)∨(65<=(c.toNat:Int)/\(c.toNat:Int)<=90)∨(c.toNat:Int)=95):=by
 have e:c=95↔c.toNat=95:=by rw [<- UInt8.toNat_inj];rfl
 simp only [BT,û,Ä,Î,UInt8.le_iff_toNat_le,Ă,e]
 have a1:(97:UInt8).toNat=97:=rfl
 have a2:(122:UInt8).toNat=122:=rfl
 have a3:(65:UInt8).toNat=65:=rfl
 have a4:(90:UInt8).toNat=90:=rfl
 rw [a1,a2,a3,a4];omega
theorem Y9 (c:UInt8):isDigit c=true↔(48<=(c.toNat:Int)/\(c.toNat:Int)<=57):=by
 simp only [isDigit,Ä,Î,UInt8.le_iff_toNat_le]
 have a1:(48:UInt8).toNat=48:=rfl
 have a2:(57:UInt8).toNat=57:=rfl
 rw [a1,a2];omega
theorem eq_iff (c d:UInt8):c=d↔(c.toNat:Int)=(d.toNat:Int):=by rw [<- UInt8.toNat_inj];omega
end Go.Proofs.YtehfpameijkafaaGreatDoor
namespace Go.Proofs.YtehfpameijkafaaGreatDoor
open Go.RowKit Go.Q Go.Lx
variable {w:World}
abbrev bl (s:Æ):List UInt8:=s.data.toList
theorem Fx (s:Æ):(bl s).length=s.size:=(Lib.size_eq s).symm
theorem FV (s:Æ)(i:Nat)(h:i<s.size):(bl s).drop i=s[i]::(bl s).drop (i+1):=by
 rw [ğ (by rw [Fx];exact h)];rfl
theorem MY (s:Æ):(bl s).drop s.size=[]:=by rw [<- Fx];exact List.drop_length
theorem WK (s:Æ)(a b:Nat):bl (s.extract a b)=((bl s).drop a).take (b-a):=Lib.extract_data s a b
theorem Oc {c:UInt8}{r:List UInt8}(h:EO c=true):skip false (c::r)=skip false r:=by rw [K7,Ç h]
theorem Ob {c:UInt8}{r:List UInt8}(h:c=35):skip false (c::r)=skip true r:=by subst h;rfl
theorem PX {c:UInt8}{r:List UInt8}(h:¬ c=10):skip true (c::r)=skip true r:=by rw [Lh,Å h]
end Go.Proofs.YtehfpameijkafaaGreatDoor
namespace Go.Proofs.YtehfpameijkafaaGreatDoor
open Go.RowKit Go.Q Go.Lx
variable {w:World} {S:Reg} {A:Option Addr} {cap:Nat}
def IN (p:UInt8->Bool)(s:Æ)(a b:Nat):Prop:=∀ c∈((bl s).drop a).take (b-a),p c=true
theorem IN.nil (p:UInt8->Bool)(s:Æ)(a:Nat):IN p s a a:=by intro c hc;rw [Nat.sub_self] at hc;simp at hc
theorem IN.succ {p:UInt8->Bool}{s:Æ}{a b:Nat}(h:IN p s a b)(hab:a<=b)(hb:b<s.size)(hp:p s[b]=true):IN p s a (b+1):=by
 intro c hc
 have e:b+1-a=(b-a)+1:=by omega
 rw [e,List.take_add_one,List.getElem?_drop,show a+(b-a)=b by omega] at hc
 rcases List.mem_append.1 hc with hc|hc
 . exact h c hc
 . rw [Ã (by rw [Fx];exact hb)] at hc
   simp only [Option.toList_some,ē] at hc
   rw [hc];exact hp
theorem IN.while {p:UInt8->Bool}{s:Æ}{a b:Nat}(h:IN p s a b)(hab:a<=b)(hb:Cu p ((bl s).drop b)=false) :
 ((bl s).drop a).takeWhile p=((bl s).drop a).take (b-a)/\((bl s).drop a).dropWhile p=(bl s).drop b:=by
 have e:(bl s).drop a=((bl s).drop a).take (b-a)++(bl s).drop b:=by
  have:=(ċ (b-a) ((bl s).drop a)).symm
  rw [Ħ,show a+(b-a)=b by omega] at this
  exact this
 have:=Gd p _ _ h hb
 rw [<- e] at this
 exact this
theorem X5 {p:UInt8->Bool}(s:Æ)(b:Nat)(hb:b<=s.size)(h:∀ hlt:b<s.size,p s[b]=false):Cu p ((bl s).drop b)=false:=by
 by_cases hlt:b<s.size
 . rw [FV s b hlt];exact h hlt
 . obtain rfl:b=s.size:=by omega
   rw [MY];rfl
theorem Ni (s:Æ)(a b:Nat)(hab:a<=b)(hb:b<=s.size):(((bl s).drop a).take (b-a)).length=b-a:=by
 rw [List.length_take,ú,Fx];omega
end Go.Proofs.YtehfpameijkafaaGreatDoor
namespace Go.Proofs.YtehfpameijkafaaGreatDoor
open Go.RowKit Go.Q Go.Lx
variable {w:World} {S:Reg} {A:Option Addr} {cap:Nat}
theorem Qm {s:Æ}{p j:Nat}(hw:((bl s).drop p).takeWhile isDigit=((bl s).drop p).take (j-p)/\((bl s).drop p).dropWhile isDigit=(bl s).drop j)(hlen:(((bl s).drop p).take (j-p)).length=j-p)
 (h:15<j-p∨(1<j-p/\Cu (· == 48) ((bl s).drop p)=true)∨Cu BT ((bl s).drop j)=true):number ((bl s).drop p)=.bad 27:=by
 unfold number
 simp only
 rw [hw.1,hw.2,hlen,Ç]
 simp only [û,Ä,Î]
 rcases h with h|h|h
 . exact .inl (.inl h)
 . exact .inl (.inr h)
 . exact .inr h
theorem U6 {s:Æ}{p j:Nat}(hpj:p<=j)(hj:j<=s.size)(h15:j-p<=15)(hd:IN isDigit s p j)(hn:Cu isDigit ((bl s).drop j)=false)(hl:Cu BT ((bl s).drop j)=false)(hz:1<j-p->Cu (· == 48) ((bl s).drop p)=false) :
 number ((bl s).drop p)=.ok 2 [] (E6 (((bl s).drop p).take (j-p))) ((bl s).drop j):=by
 have hw:=hd.while hpj hn
 unfold number
 simp only
 rw [hw.1,hw.2,Ni s p j hpj hj,Å]
 simp only [û,Ä,Î,not_or,not_and]
 exact⟨⟨by omega,fun h=>by simpa using hz h⟩,by simpa using hl⟩
end Go.Proofs.YtehfpameijkafaaGreatDoor
namespace Go.Lx
open Go
theorem II {c:UInt8}:isDigit c=true↔(48<=c.toNat/\c.toNat<=57):=by
 simp only [isDigit,Bool.and_eq_true,decide_eq_true_eq,UInt8.le_iff_toNat_le]
 exact Iff.rfl
theorem Nt:∀ (l:List UInt8) (acc u:Nat),Lib.parseUint10 acc l=.ok u->∀ c∈l,isDigit c=true
 | [],_,_,_,c,h=>by cases h
 |d::r,acc,u,h,c,hc=>by
  unfold Lib.parseUint10 at h
  by_cases hd:48<=d.toNat/\d.toNat<=57
  . rw [if_pos hd] at h
    split at h
    . cases h
    . split at h
      . cases h
      . rcases List.mem_cons.1 hc with rfl|hc
        . exact II.2 hd
        . exact Nt r _ u h c hc
  . rw [if_neg hd] at h;cases h
theorem Uw:∀ (d:List UInt8) (acc:Nat),(∀ c∈d,isDigit c=true)->(acc+1)*10 ^ d.length<=10 ^ 18->Lib.parseUint10 acc d=.ok (d.foldl (fun n c=>10*n+(c.toNat-48)) acc)
 | [],_,_,_=>rfl
 |c::r,acc,hd,hb=>by
  have hc:=II.1 (hd c (by simp))
  have hp:1<=10 ^ r.length:=Nat.pow_pos (by decide:0<10)
  have e:(acc+1)*10 ^ (c::r).length=((acc+1)*10)*10 ^ r.length:=by rw [List.length_cons,Nat.pow_succ,Nat.mul_assoc,Nat.mul_comm (10 ^ r.length) 10]
  rw [e] at hb
  have h10:(acc+1)*10<=10 ^ 18:=Nat.le_trans (Nat.le_mul_of_pos_right _ hp) hb
  have h18:(10:Nat) ^ 18=1000000000000000000:=by decide
  rw [h18] at h10
  unfold Lib.parseUint10
  rw [if_pos hc,if_neg (by omega),if_neg (by omega)]
  have:=Uw r (acc*10+(c.toNat-48)) (fun x hx=>hd x (by simp [hx])) (Nat.le_trans (Nat.mul_le_mul_right _ (by omega)) hb)
  rw [this,List.foldl_cons,Nat.mul_comm acc 10]
theorem XH {c:UInt8}{r:List UInt8}(hd:∀ x∈c::r,isDigit x=true)(hl:(c::r).length<=15):Lib.atoiAll (c::r)=.ok (E6 (c::r):Int):=by
 have hc:=II.1 (hd c (by simp))
 have hp:=Uw (c::r) 0 hd (by
  have:10 ^ (c::r).length<=10 ^ 15:=Nat.pow_le_pow_right (by omega) hl
  have h18:(10:Nat) ^ 18=1000*10 ^ 15:=by decide
  omega)
 have hlt:E6 (c::r)<10 ^ 18:=by
  have key:∀ (d:List UInt8) (a:Nat),(∀ x∈d,isDigit x=true)->d.foldl (fun n c=>10*n+(c.toNat-48)) a<(a+1)*10 ^ d.length:=by
   intro d
   induction d with
   |nil=>intro a _;simp
   |cons x d ih =>
    intro a hx
    have h1:=II.1 (hx x (by simp))
    have h2:=ih (10*a+(x.toNat-48)) (fun y hy=>hx y (by simp [hy]))
    rw [List.foldl_cons,List.length_cons,Nat.pow_succ]
    have h3:(10*a+(x.toNat-48)+1)*10 ^ d.length<=((a+1)*10)*10 ^ d.length:=Nat.mul_le_mul_right _ (by omega)
    have h4:((a+1)*10)*10 ^ d.length=(a+1)*(10 ^ d.length*10):=by rw [Nat.mul_assoc,Nat.mul_comm 10]
    omega
  have h1:=key (c::r) 0 hd
  have h2:10 ^ (c::r).length<=10 ^ 18:=Nat.pow_le_pow_right (by omega) (by omega)
  unfold E6;omega
 have h18:(10:Nat) ^ 18=1000000000000000000:=by decide
 rw [h18] at hlt
 unfold Lib.atoiAll
 simp only
 rw [if_neg (by omega)]
 unfold Lib.parseMag
 rw [if_neg (by simp),hp]
 simp only
 have e:List.foldl (fun n c=>10*n+(c.toNat-48)) 0 (c::r)=E6 (c::r):=rfl
 rw [e,if_neg (by omega),if_neg (by omega),if_neg (by omega)]
theorem Vw {c:UInt8}{r:List UInt8}{v:Int}(hc:isDigit c=true)(h:Lib.atoiAll (c::r)=.ok v):∀ x∈c::r,isDigit x=true:=by
 have hb:=II.1 hc
 unfold Lib.atoiAll at h
 simp only at h
 rw [if_neg (by omega)] at h
 cases hm:Lib.parseMag (c::r) with
 | «syntax»=>rw [hm] at h;cases h
 |range=>rw [hm] at h;cases h
 |ok u =>
  unfold Lib.parseMag at hm
  rw [if_neg (by simp)] at hm
  exact Nt _ _ _ hm
end Go.Lx
namespace Go.Proofs.YtehfpameijkafaaGreatDoor
open Go.RowKit Go.Q Go.Lx
theorem Aai (c:UInt8):isWord c=decide ((2:Int)<=(cls c:Int)):=by
 unfold cls isWord
 cases h1:BT c<;>cases h2:isDigit c<;>simp
 split<;>decide
theorem getD_at (s:Æ)(j:Nat)(h:j<s.size):s[j]=s.data.toList.getD j 0:=by
 have h2:j<s.data.size:=h
 rw [List.getD_eq_getElem?_getD,Ã (by simpa using h2)]
 simp [ByteArray.getElem_eq_getElem_data]
theorem TR {x:Int}{n:Nat}(h:x=n)(hn:n<=4611686018427387904):À x=(n:Int):=by
 subst h;unfold À;rw [IntKind.wrap_i64];omega
theorem Aej {r:List UInt8}:Lib.indexByte (35::r) 10≠0:=by
 have h:=Lib.indexByte_ge r 10
 show (if ((35:UInt8) == 10)=true then (0:Int) else _)≠0
 rw [Å (by decide)]
 split
 . decide
 . rename_i h2;simp only [Ă] at h2;omega
theorem UO:∀ (r:List UInt8),(Lib.indexByte r 10<0->skip true r=[])/\(∀ k:Nat,Lib.indexByte r 10=(k:Int)->k<=r.length/\skip true r=skip false (r.drop k))
 | []=>⟨fun _=>rfl,fun k h=>by have:(-1:Int)=k:=h;omega⟩
 |b::l=>by
  have ih:=UO l
  have hge:=Lib.indexByte_ge l 10
  have e:Lib.indexByte (b::l) 10=if (b == 10)=true then 0 else if (Lib.indexByte l 10 == -1)=true then -1 else Lib.indexByte l 10+1:=rfl
  rw [e,Lh]
  by_cases hb:b=10
  . rw [Ç (by rw [hb];rfl),Ç hb]
    refine⟨fun h=>absurd h (by decide),fun k h=>?_⟩
    obtain rfl:k=0:=by omega
    exact⟨by simp,by rw [hb];rfl⟩
  . rw [Å (by simpa using hb),Å hb]
    by_cases hn:Lib.indexByte l 10 = -1
    . rw [Ç (by rw [hn];rfl)]
      exact⟨fun _=>ih.1 (by omega),fun k h=>by omega⟩
    . rw [Å (by simpa using hn)]
      refine⟨fun h=>by omega,fun k h=>?_⟩
      obtain⟨h1,h2⟩:=ih.2 (k-1) (by omega)
      have hk:k=(k-1)+1:=by omega
      refine⟨by simp;omega,?_⟩
      rw [hk,List.drop_succ_cons];exact h2
theorem YE (c:UInt8)(h:EO c=true):cls c=1:=by
 have h2:=Hd (.inl h)
 unfold cls;rw [h2.2.2,h2.2.1,h];rfl
theorem RG (c:UInt8)(h:EO c=false):((cls c:Int) == 1)=false:=by
 unfold cls;rw [h];cases BT c<;>cases isDigit c<;>rfl
theorem O4 {c:UInt8}(h:isDigit c=true):BT c=false:=by
 cases hl:BT c with
 |false=>rfl
 |true=>rw [Wj] at hl;rw [Y9] at h;omega
theorem Ul {s:Æ}{p j:Nat}(hp:p<s.size)(hpj:p<=j)(hall:IN isWord s p j)(hhd:Cu isWord ((bl s).drop j)=false)(hw:isWord s[p]=true):p<j:=by
 rcases Nat.lt_or_ge p j with h|h
 . exact h
 . obtain rfl:p=j:=by omega
   rw [FV s p hp] at hhd
   have:isWord s[p]=false:=hhd
   rw [hw] at this;cases this
theorem ZQ {s x:Æ}{p n:Nat}(h:bl x=((bl s).drop p).take n)(hx:0<x.size)(hp:p<s.size):x[0]=s[p]:=by
 have h1:=FV x 0 hx
 rw [List.drop_zero,h,FV s p hp] at h1
 cases n with
 |zero=>simp at h1
 |succ n=>rw [Ĥ] at h1;exact (İ h1).1.symm
theorem U7 (r:List UInt8):number r=.bad 27∨∃ v t,number r=.ok 2 [] v t:=by
 unfold number;simp only;split
 . exact .inl rfl
 . exact .inr ⟨_,_,rfl⟩
theorem Qo {x:List UInt8}(h:Cu isWord x=false):Cu isDigit x=false/\Cu BT x=false:=by
 cases x with
 |nil=>exact⟨rfl,rfl⟩
 |cons c r =>
  have h2:isWord c=false:=h
  simp only [isWord,Bool.or_eq_false_iff] at h2
  exact⟨h2.2,h2.1⟩
theorem U5 {s:Æ}{p j:Nat}(hp:p<s.size)(hpj:p<=j)(hj:j<=s.size)(hall:IN isWord s p j)(hhd:Cu isWord ((bl s).drop j)=false)(hd:isDigit s[p]=true) :
 ((∀ v,Lib.atoiAll (((bl s).drop p).take (j-p))≠.ok v)->number ((bl s).drop p)=.bad 27) /\
 (∀ v,Lib.atoiAll (((bl s).drop p).take (j-p))=.ok v->(15<j-p∨(1<j-p/\s[p]=48)->number ((bl s).drop p)=.bad 27) /\
  (¬ 15<j-p->¬ (1<j-p/\s[p]=48)->number ((bl s).drop p)=.ok 2 [] v.toNat ((bl s).drop j)/\v=(v.toNat:Int))):=by
 have hlt:=Ul hp hpj hall hhd (by simp [isWord,hd])
 obtain⟨hn1,hn2⟩:=Qo hhd
 have hW:((bl s).drop p).take (j-p)=s[p]::((bl s).drop (p+1)).take (j-p-1):=by
  rw [FV s p hp,show j-p=(j-p-1)+1 by omega,Ĥ];simp
 refine⟨fun hno=>?_,fun v hv=>?_⟩
 . rcases U7 ((bl s).drop p) with h|⟨v,t,h⟩
   . exact h
   . exfalso
     obtain⟨d,_,_,hv,e,h1,h2,h3,h4,_⟩:=Nv h
     have hw:=hall.while hpj hhd
     have ht:Cu isWord t=false:=by
      cases t with
      |nil=>rfl
      |cons c r=>show isWord c=false;simp only [isWord,Bool.or_eq_false_iff];exact⟨h3,h2⟩
     have hw2:=Gd isWord d t (fun c hc=>by simp [isWord,h1 c hc]) ht
     rw [<- e] at hw2
     have hdW:d=((bl s).drop p).take (j-p):=by rw [<- hw.1,hw2.1]
     rw [hdW] at h1 h4
     rw [hW] at h1 h4
     exact hno _ (by rw [hW];exact XH h1 h4)
 . have hdig:=by rw [hW] at hv;exact Vw hd hv
   have hdig2:IN isDigit s p j:=by intro c hc;rw [hW] at hc;exact hdig c hc
   have hw:=hdig2.while hpj hn1
   have hlen:=Ni s p j hpj hj
   refine⟨fun hbad=>?_,fun h15 hz=>?_⟩
   . rcases hbad with h|⟨h1,h2⟩
     . exact Qm hw hlen (.inl h)
     . exact Qm hw hlen (.inr (.inl ⟨h1,by rw [FV s p hp];exact beq_iff_eq.2 h2⟩))
   . have hok:Lib.atoiAll (((bl s).drop p).take (j-p))=.ok (E6 (((bl s).drop p).take (j-p)):Int):=by
      rw [hW]
      refine XH hdig ?_
      rw [<- hW,hlen];omega
     rw [hok] at hv
     have hvv:(E6 (((bl s).drop p).take (j-p)):Int)=v:=by injection hv
     subst hvv
     exact⟨U6 hpj hj (by omega) hdig2 hn1 hn2 (fun h=>by rw [FV s p hp];exact beq_eq_false_iff_ne.2 fun e=>hz ⟨h,e⟩),rfl⟩
end Go.Proofs.YtehfpameijkafaaGreatDoor
namespace Go.Proofs.YtehfpameijkafaaGreatDoor
open Go.RowKit Go.Q Go.Lx
theorem R2:∀ (n:Nat) (r b:List UInt8),r.length<=n->∀ {e:Nat},text b r=.bad e->e=2∨e=28:=by
 intro n
 induction n with
 |zero =>
  intro r b hr e h
  obtain rfl:=á (Nat.le_zero.1 hr)
  unfold text at h;split at h<;>(cases h;simp)
 |succ n ih =>
  intro r b hr e h
  cases r with
  |nil=>unfold text at h;split at h<;>(cases h;simp)
  |cons c r =>
   unfold text at h
   split at h
   . cases h;simp
   . split at h
     . cases h
     . split at h
       . cases r with
         |nil=>cases h;simp
         |cons d r' =>
          simp only at h
          split at h
          . cases h;simp
          . exact ih r' _ (by simp at hr;omega) h
       . split at h
         . cases h;simp
         . exact ih r _ (by simp at hr;omega) h
theorem SB {r:List UInt8}{e:Nat}(h:Lx.tok r=.bad e):e≠0:=by
 unfold Lx.tok at h
 cases r with
 |nil=>cases h;decide
 |cons c r' =>
  simp only at h
  split at h
  . unfold name at h;split at h<;>cases h;decide
  . split at h
    . unfold number at h;simp only at h;split at h<;>cases h;decide
    . split at h
      . rcases R2 _ _ _ (Þ _) h with rfl|rfl<;>decide
      . unfold sign at h
        split at h
        . cases h
        . simp only at h
          split at h<;>cases h;decide
theorem Y8 {l u t:List UInt8}(h:l=u++t):l.drop (l.length-t.length)=t/\l.length-t.length<=l.length:=by
 subst h
 rw [Õ,show u.length+t.length-t.length=u.length by omega,List.drop_left]
 exact⟨rfl,by omega⟩
theorem Xr (s:Æ)(i:Nat){u t:List UInt8}(h:(bl s).drop i=u++t):(bl s).drop (s.size-t.length)=t/\s.size-t.length<=s.size:=by
 have e:bl s=((bl s).take i++u)++t:=by rw [ï,<- h,ċ]
 have:=Y8 e
 rw [Fx] at this
 exact this
theorem Xp (s:Æ)(i:Nat):(bl s).drop (s.size-(skip false ((bl s).drop i)).length)=skip false ((bl s).drop i)/\s.size-(skip false ((bl s).drop i)).length<=s.size:=by
 obtain⟨u,hu⟩:=HA false ((bl s).drop i)
 exact Xr s i hu
def Rr (n:Nat)(r0:List UInt8)(l:List Tok)(r:List UInt8):Prop:=(∀ l',Lx.Good n r l'->Lx.Good n r0 (l++l'))/\∀ q e,Lx.Bad n r q e->Lx.Bad n r0 q e
theorem Rr.nil (n:Nat)(r0:List UInt8):Rr n r0 [] r0:=⟨fun _ h=>h,fun _ _ h=>h⟩
theorem Rr.cons {n:Nat}{r0 r s t:List UInt8}{l:List Tok}{k v:Nat}(h:Rr n r0 l r)(ht:Lx.tok r=.ok k s v t):Rr n r0 (l++[⟨k,n-r.length,s,v⟩]) (skip false t) :=
 ⟨fun l' hg=>by rw [ï];exact h.1 _ (.cons ht hg),fun q e hb=>h.2 q e (.later ht hb)⟩
end Go.Proofs.YtehfpameijkafaaGreatDoor
namespace Go.Lx
theorem PL (n:Nat):∀ (f:Nat) (r:List UInt8),r.length<=f->(∀ l,R1 n f r=.ok l->Good n r l)/\∀ p e,R1 n f r=.error (p,e)->Bad n r p e
 |0,r,h=>by
  obtain rfl:=á (Nat.le_zero.1 h)
  refine⟨fun l hl=>?_,fun p e he=>?_⟩
  . unfold R1 at hl;cases hl;exact .fin
  . unfold R1 at he;cases he
 |f+1,r,h=>by
  cases r with
  |nil =>
   refine⟨fun l hl=>?_,fun p e he=>?_⟩
   . unfold R1 at hl;cases hl;exact .fin
   . unfold R1 at he;cases he
  |cons c r0 =>
   unfold R1
   simp only
   cases ht:tok (c::r0) with
   |bad e1 =>
    refine⟨fun l hl=>(by cases hl),fun p e he=>?_⟩
    cases he;exact .here (by simp) ht
   |ok k s v t =>
    have h1:=Xc ht
    have h2:=HB false t
    have ih:=PL n f (skip false t) (by omega)
    simp only
    cases hx:R1 n f (skip false t) with
    |error x =>
     refine⟨fun l hl=>(by cases hl),fun p e he=>?_⟩
     obtain⟨p1,e1⟩:=x
     cases he;exact .later ht (ih.2 _ _ hx)
    |ok l1 =>
     refine⟨fun l hl=>?_,fun p e he=>(by cases he)⟩
     cases hl;exact .cons ht (ih.1 _ hx)
theorem OB {l:List UInt8}{ts:List Tok}(h:tokens l=.ok ts):Good l.length (skip false l) ts:=(PL _ _ _ (HB false l)).1 _ h
theorem PN {l:List UInt8}{p e:Nat}(h:tokens l=.error (p,e)):Bad l.length (skip false l) p e:=(PL _ _ _ (HB false l)).2 _ _ h
end Go.Lx
namespace Go.Proofs.YtehfpameijkafaaGreatDoor
open Go.RowKit Go.Q Go.Lx
end Go.Proofs.YtehfpameijkafaaGreatDoor
namespace Go.Proofs.YtehfpameijkafaaGreatDoor
open Go Go.Sp Go.Lx Go.Q
set_option maxRecDepth 100000
theorem JF (c:UInt8):ED (c.toNat:Int)=some (cls c:Int):=by
 have key:∀ k:Fin 256,ED (k.val:Int)=some (cls (UInt8.ofNat k.val):Int):=by decide +kernel
 have:=key ⟨c.toNat,c.toNat_lt⟩
 simp only [UInt8.ofNat_toNat] at this
 exact this
theorem Hk {s:Æ}{j:Nat}(h:j<s.size):gb s (j:Int)=some (s[j].toNat:Int):=by
 unfold gb
 rw [Ç ⟨by omega,by omega⟩,Int.toNat_natCast,<- getD_at s j h]
theorem Acp (c:UInt8):((cls c:Int) != 2) = !isDigit c:=by
 have:=@O4 c
 unfold cls
 cases h1:BT c<;>cases h2:isDigit c<;>cases EO c<;>first|rfl|simp_all
theorem YD (c:UInt8):((cls c:Int) != 3) = !BT c:=by
 unfold cls
 cases BT c<;>cases isDigit c<;>cases EO c<;>rfl
theorem UQ {src:Æ}{j:Nat}(hj:j<=src.size):N3 src (j:Int) (src.size:Int)=some (src.extract j src.size)/\(src.extract j src.size).data.toList=(bl src).drop j:=by
 refine⟨?_,?_⟩
 . unfold N3
   rw [Ç (by omega)];rfl
 . show bl (src.extract j src.size)=_
   rw [WK,List.take_of_length_le (by rw [ú,Fx];exact Þ _)]
theorem Of {out:List Aq}(hl:out.length<=1000000)(src:Æ)(p k q:Int)(s:Æ)(v:Int):B7 ⟨src,p,out⟩ k q s v=some (0,⟨src,q,out++[⟨k,p,s,v⟩]⟩):=by
 unfold B7 Cn
 rw [Á,Ç (by simp only [à,ì];omega)];rfl
theorem ZU {src:Æ}{p j:Nat}:src.extract p j=⟨⟨((bl src).drop p).take (j-p)⟩⟩:=by
 rw [<- WK src p j]
theorem Q9 {src:Æ}{a b:Nat}(h1:a<=b)(h2:b<=src.size):N3 src (a:Int) (b:Int)=some (src.extract a b):=by
 unfold N3
 rw [Ç (by omega)];rfl
theorem WJ (b:List UInt8):ZB (b.map fun c=>(c.toNat:Int))=⟨⟨b⟩⟩:=by
 unfold ZB
 rw [List.map_map]
 have:((fun n:Int=>UInt8.ofNat n.toNat)∘fun c:UInt8=>(c.toNat:Int))=id:=by funext c;simp
 rw [this,List.map_id]
theorem Z9 (c:UInt8):(Lib.indexByte [34,92,110] c = -1/\pair c=0)∨∃ i:Nat,Lib.indexByte [34,92,110] c=(i:Int)/\pair c≠0/\gb ⟨#[34,92,10]⟩ (i:Int)=some ((pair c).toNat:Int):=by
 have e:∀ (b:UInt8) (l:List UInt8),Lib.indexByte (b::l) c=if (b == c)=true then 0 else if (Lib.indexByte l c == -1)=true then -1 else Lib.indexByte l c+1:=fun _ _=>rfl
 have e0:Lib.indexByte [] c = -1:=rfl
 unfold pair
 by_cases h1:c=34
 . subst h1;exact .inr ⟨0,rfl,by decide,by decide⟩
 . by_cases h2:c=92
   . subst h2;exact .inr ⟨1,rfl,by decide,by decide⟩
   . by_cases h3:c=110
     . subst h3;exact .inr ⟨2,rfl,by decide,by decide⟩
     . left
       have n1:((34:UInt8) == c)=false:=beq_eq_false_iff_ne.2 fun h=>h1 h.symm
       have n2:((92:UInt8) == c)=false:=beq_eq_false_iff_ne.2 fun h=>h2 h.symm
       have n3:((110:UInt8) == c)=false:=beq_eq_false_iff_ne.2 fun h=>h3 h.symm
       have i3:Lib.indexByte [110] c = -1:=by rw [e,e0,n3];rfl
       have i2:Lib.indexByte [92,110] c = -1:=by rw [e,i3,n2];rfl
       exact⟨by rw [e,i2,n1];rfl,by simp [h1,h2,h3]⟩
theorem Uh {b r:List UInt8}{c d:UInt8}(h:b.length<=200)(h34:¬ c=34)(h92:c=92):text b (c::d::r)=if pair d=0 then .bad 28 else text (b++[pair d]) r:=by
 conv=>lhs;unfold text
 rw [Å (by omega),Å h34,Ç h92]
theorem Ug {b r:List UInt8}{c:UInt8}(h:b.length<=200)(h34:¬ c=34)(h92:¬ c=92):text b (c::r)=if c<32∨126<c then .bad 28 else text (b++[c]) r:=by
 conv=>lhs;unfold text
 rw [Å (by omega),Å h34,Å h92]
def Ge (r:List UInt8):Option Out:=match sign r with|.bad _=>none|x=>some x
theorem X3 (c:UInt8):∀ (l:List UInt8),decide (0<=Lib.indexByte l c)=decide (c∈l)
 | []=>rfl
 |b::l=>by
  have ih:=X3 c l
  have hge:=Lib.indexByte_ge l c
  have e:Lib.indexByte (b::l) c=if (b == c)=true then 0 else if (Lib.indexByte l c == -1)=true then -1 else Lib.indexByte l c+1:=rfl
  rw [e]
  by_cases hb:b=c
  . subst hb;simp
  . rw [Å (by simpa using hb)]
    have hm:(c∈b::l)↔c∈l:=⟨fun h=>(List.mem_cons.1 h).resolve_left fun e=>hb e.symm,è _⟩
    rw [decide_eq_decide] at ih ⊢
    rw [hm,<- ih]
    by_cases hn:Lib.indexByte l c = -1
    . rw [Ç (by rw [hn];rfl),hn]
    . rw [Å (by simpa using hn)];omega
theorem Zk {r l:List UInt8}(h:l.length=2):Lib.hasPrefix r l=decide (r.take 2=l):=by
 unfold Lib.hasPrefix
 rw [Bool.eq_iff_iff,List.isPrefixOf_iff_prefix,List.prefix_iff_eq_take,h,Î]
 exact⟨fun e=>e.symm,fun e=>e.symm⟩
section
variable (src:Æ) (p:Nat) (out:List Aq) (hs:src.size<=1000000)
include hs
theorem Acz:∀ (m j:Nat),j+m=src.size->p<=j->IN isWord src p j->∃ j':Nat,Ev (fun n=>BF n ⟨src,(p:Int),out⟩ 2 (j:Int)) (j':Int)/\p<=j'/\j'<=src.size/\IN isWord src p j'/\Cu isWord ((bl src).drop j')=false
 |0,j,hj,hp,ha=>by
  obtain rfl:j=src.size:=by omega
  refine⟨src.size,Ev.step (fun n=>BF.eq_2 ..) (Ev.of fun n=>?_),hp,Þ _,ha,X5 src _ (Þ _) fun h=>absurd h (Nat.lt_irrefl _)⟩
  simp only [Ë (Int.lt_irrefl _),Ï,Á]
 |m+1,j,hj,hp,ha=>by
  have hlt:j<src.size:=by omega
  have hcw:=Aai src[j]
  cases hw:isWord src[j] with
  |true =>
   rw [hw] at hcw
   obtain⟨j',h1,h2⟩:=Acz m (j+1) (by omega) (by omega) (ha.succ hp hlt hw)
   refine⟨j',Ev.step (fun n=>BF.eq_2 ..) ?_,h2⟩
   simp only [Í (show (j:Int)<src.size by omega),Ð,Hk hlt,JF,Á,<- hcw,Pe (show j<4611686018427387904 by omega)]
   exact h1
  |false =>
   rw [hw] at hcw
   refine⟨j,Ev.step (fun n=>BF.eq_2 ..) (Ev.of fun n=>?_),hp,by omega,ha,X5 src j (by omega) fun _=>hw⟩
   simp only [Í (show (j:Int)<src.size by omega),Ð,Hk hlt,JF,Á,<- hcw,Ï]
theorem Xl (hp:p<=src.size):∃ j:Nat,Ev (fun n=>Ed n ⟨src,(p:Int),out⟩ 2) (j:Int)/\p<=j/\j<=src.size/\IN isWord src p j/\Cu isWord ((bl src).drop j)=false:=by
 obtain⟨j,h1,h2⟩:=Acz src p out hs (src.size-p) p (by omega) (Þ _) (IN.nil _ _ _)
 exact⟨j,Ev.bind h1 Ev.pure,h2⟩
def Od (src:Æ)(j:Nat):Nat:=src.size-(skip false ((bl src).drop j)).length
def skR (src:Æ)(out:List Aq):Int ⊕ (Unit×Ak)->Unit×Ak
 |.inl q=>((),⟨src,q,out⟩)
 |.inr o=>o
theorem Zb:∀ (m j:Nat),src.size-j<=m->j<=src.size->∃ y,Ev (fun n=>AQ n ⟨src,(p:Int),out⟩ (j:Int)) y/\skR src out y=((),⟨src,(Od src j:Int),out⟩)
 |m,j,hm,hj=>by
  by_cases hlt:j<src.size
  rotate_left
  . obtain rfl:j=src.size:=by omega
    refine⟨.inl (src.size:Int),Ev.step (fun n=>AQ.eq_2 ..) (Ev.of fun n=>?_),?_⟩
    . simp only [Ë (Int.lt_irrefl _),Ï]
    . unfold Od;rw [MY];rfl
  have hdr:=FV src j hlt
  have d1:decide ((j:Int)<src.size)=true:=Í (by omega)
  obtain⟨m,rfl⟩:∃ m',m=m'+1:=⟨m-1,by omega⟩
  by_cases h35:(src[j].toNat:Int)=35
  . have c35:=(eq_iff src[j] 35).2 h35
    have hR1:skip true ((bl src).drop j)=skip false ((bl src).drop j):=by rw [hdr,Ob c35,PX (by rw [c35];decide)]
    have hix:=UO ((bl src).drop j)
    have hz0:Lib.indexByte ((bl src).drop j) 10≠0:=by rw [hdr,c35];exact Aej
    have hge:=Lib.indexByte_ge ((bl src).drop j) 10
    obtain⟨g1,g2⟩:=UQ hj
    have e:∀ q:Nat,skip false ((bl src).drop q)=skip false ((bl src).drop j)->j<q->q<=src.size->∃ y,Ev (fun n=>AQ n ⟨src,(p:Int),out⟩ (q:Int)) y/\skR src out y=((),⟨src,(Od src j:Int),out⟩):=by
     intro q h1 h2 h3
     have:=Zb m q (by omega) h3
     unfold Od at this ⊢
     rwa [h1] at this
    by_cases hzn:Lib.indexByte ((bl src).drop j) 10<0
    . obtain⟨y,h1,h2⟩:=e src.size (by rw [<- hR1,hix.1 hzn,MY];rfl) hlt (Þ _)
      refine⟨y,Ev.step (fun n=>AQ.eq_2 ..) ?_,h2⟩
      have w1:À ((src.size:Int)-(j:Int))=((src.size-j:Nat):Int):=TR (by omega) (by omega)
      have w2:À ((j:Int)+((src.size-j:Nat):Int))=(src.size:Int):=TR (by omega) (by omega)
      simp only [d1,Ð,Hk hlt,Á,h35,ĉ,g1,MN,g2,Í hzn,w1,w2,show (10:Int).toNat.toUInt8=10 from rfl]
      exact h1
    . obtain⟨k,hk⟩:∃ k:Nat,Lib.indexByte ((bl src).drop j) 10=(k:Int):=⟨_,(Int.toNat_of_nonneg (by omega)).symm⟩
      obtain⟨hk1,hk2⟩:=hix.2 k hk
      rw [ú,Fx] at hk1
      obtain⟨y,h1,h2⟩:=e (j+k) (by rw [<- hR1,hk2,Ħ]) (by omega) (by omega)
      refine⟨y,Ev.step (fun n=>AQ.eq_2 ..) ?_,h2⟩
      have w1:À ((j:Int)+(k:Int))=((j+k:Nat):Int):=TR (by omega) (by omega)
      simp only [d1,Ð,Hk hlt,Á,h35,ĉ,g1,MN,g2,hk,Ë (show ¬ (k:Int)<0 by omega),Ï,w1,show (10:Int).toNat.toUInt8=10 from rfl]
      exact h1
  . have b35:((src[j].toNat:Int) == 35)=false:=by simpa using h35
    cases hb:EO src[j] with
    |true =>
     obtain⟨y,h1,h2⟩:=Zb m (j+1) (by omega) (by omega)
     refine⟨y,Ev.step (fun n=>AQ.eq_2 ..) ?_,?_⟩
     . simp only [d1,Ð,Hk hlt,Á,b35,Ï,JF,YE _ hb,show ((1:Nat):Int) == 1 from rfl,Pe (show j<4611686018427387904 by omega)]
       exact h1
     . rw [h2];unfold Od;rw [hdr,Oc hb]
    |false =>
     refine⟨.inr ((),⟨src,(j:Int),out⟩),Ev.step (fun n=>AQ.eq_2 ..) (Ev.of fun n=>?_),?_⟩
     . simp only [d1,Ð,Hk hlt,Á,b35,Ï,JF,RG _ hb]
     . have e:Od src j=j:=by
        unfold Od
        rw [hdr,K7,hb,Å (by simp),Å (fun h=>h35 ((eq_iff src[j] 35).1 h)),<- hdr,ú,Fx];omega
       rw [e];rfl
theorem Xo (hp:p<=src.size):Ev (fun n=>Ee n ⟨src,(p:Int),out⟩) ((),⟨src,(Od src p:Int),out⟩):=by
 obtain⟨y,h1,h2⟩:=Zb src p out hs _ p (Þ _) hp
 refine Ev.bind h1 ?_
 cases y<;>(rw [<- h2];exact Ev.pure)
def MH (src:Æ)(p:Nat)(out:List Aq):Option Out->(Bool×Int)×Ak
 |none=>((false,0),⟨src,(p:Int),out⟩)
 |some (.bad e)=>((true,(e:Int)),⟨src,(p:Int),out⟩)
 |some (.ok k s v t)=>((true,0),⟨src,((src.size-t.length:Nat):Int),out++[⟨(k:Int),(p:Int),⟨⟨s⟩⟩,(v:Int)⟩]⟩)
variable (hl:out.length<=1000000)
include hl
theorem Ab2 (hp:p<src.size):Ev (fun n=>Eh n ⟨src,(p:Int),out⟩) (MH src p out (if BT src[p] then some (name ((bl src).drop p)) else none)):=by
 unfold Eh
 simp only [Hk hp,JF,Á,YD]
 cases hL:BT src[p] with
 |false=>exact Ev.pure
 |true =>
  simp only [ě,Ï,ø]
  obtain⟨j,h0,h1,h2,h3,h4⟩:=Xl src p out hs (Nat.le_of_lt hp)
  refine Ev.bind h0 ?_
  have hw:=h3.while h1 h4
  have hlen:=Ni src p j h1 h2
  have w1:À ((j:Int)-(p:Int))=((j-p:Nat):Int):=TR (by omega) (by omega)
  rw [w1]
  by_cases h32:32<j-p
  . have hr:name ((bl src).drop p)=.bad 2:=by unfold name;rw [hw.1,hlen,Ç h32]
    rw [hr,Í (by omega)];exact Ev.pure
  . have hr:name ((bl src).drop p)=.ok 1 (((bl src).drop p).take (j-p)) 0 ((bl src).drop j):=by unfold name;rw [hw.1,hw.2,hlen,Å h32]
    have hq:src.size-((bl src).drop j).length=j:=by rw [ú,Fx];omega
    rw [hr,Ë (by omega)]
    simp only [Ï,Q9 h1 h2,Á,Of hl,MH,hq,ZU]
    exact Ev.pure
theorem Yj (hp:p<src.size):Ev (fun n=>Dk n ⟨src,(p:Int),out⟩) (MH src p out (if isDigit src[p] then some (number ((bl src).drop p)) else none)):=by
 unfold Dk
 simp only [Hk hp,JF,Á,Acp]
 cases hL:isDigit src[p] with
 |false=>exact Ev.pure
 |true =>
  simp only [ě,Ï,ø]
  obtain⟨j,h0,h1,h2,h3,h4⟩:=Xl src p out hs (Nat.le_of_lt hp)
  refine Ev.bind h0 ?_
  have hlen:=Ni src p j h1 h2
  have hnw:=U5 hp h1 h2 h3 h4 hL
  obtain⟨x,hxe⟩:∃ x,x=src.extract p j:=⟨_,rfl⟩
  have hbx:bl x=((bl src).drop p).take (j-p):=by rw [hxe,WK]
  have hxs:x.size=j-p:=by rw [<- Fx,hbx,hlen]
  have hjp:=Ul hp h1 h3 h4 (by simp [isWord,hL])
  rw [<- hbx] at hnw
  have hq:src.size-((bl src).drop j).length=j:=by rw [ú,Fx];omega
  have hfit:MO x=some ():=by unfold MO;rw [Ç (by omega)]
  rw [Q9 h1 h2,Á,<- hxe,hfit,Á]
  unfold Ot Lw
  have bad:number ((bl src).drop p)=.bad 27->MH src p out (some (number ((bl src).drop p)))=((true,27),⟨src,(p:Int),out⟩):=fun h=>by rw [h];rfl
  cases hat:Lib.atoiAll x.data.toList with
  |ok v =>
   have hv:=hnw.2 v hat
   have hx0:0<x.size:=by omega
   have hf:=ZQ hbx hx0 hp
   simp only [Ï]
   have good:¬ 15<j-p->¬ (1<j-p/\src[p]=48)->Ev (fun _:Nat=>(B7 ⟨src,(p:Int),out⟩ 2 (j:Int) ⟨#[]⟩ v).bind fun p=>some ((true,p.1),p.2)) (MH src p out (some (number ((bl src).drop p)))):=by
    intro q1 q2
    have hn:=hv.2 q1 q2
    rw [hn.1,Of hl]
    have e:(v.toNat:Int)=v:=hn.2.symm
    simp only [MH,hq,Á,e]
    exact Ev.pure
   by_cases h15:15<x.size
   . rw [Í (show (15:Int)<(x.size:Int) by omega),bad (hv.1 (.inl (by omega)))]
     exact Ev.pure
   . rw [Ë (show ¬ (15:Int)<(x.size:Int) by omega)]
     simp only [Ï]
     by_cases h1s:1<x.size
     . rw [Í (show (1:Int)<(x.size:Int) by omega)]
       have g:=Hk hx0
       rw [Int.natCast_zero] at g
       simp only [Ð,g,Á]
       by_cases hz:x[0]=48
       . rw [show ((x[0].toNat:Int) == 48)=true by rw [hz];rfl,bad (hv.1 (.inr ⟨by omega,by rw [<- hf];exact hz⟩))]
         exact Ev.pure
       . rw [show ((x[0].toNat:Int) == 48)=false from beq_eq_false_iff_ne.2 fun h=>hz ((eq_iff _ 48).2 h)]
         exact good (by omega) (fun h=>hz (by rw [hf];exact h.2))
     . rw [Ë (show ¬ (1:Int)<(x.size:Int) by omega)]
       exact good (by omega) (fun h=>by omega)
  |_ =>
   rw [bad (hnw.1 fun v=>by rw [show bl x=x.data.toList from rfl,hat];simp)]
   exact Ev.pure
def txR (r:Ak):Unit ⊕ ((Bool×Int)×Ak)->(Bool×Int)×Ak
 |.inl _=>((true,2),r)
 |.inr o=>o
theorem YV:∀ (m:Nat) (b:List UInt8) (k:Nat),src.size-k<=m->k<=src.size->b.length<=201 ->
 ∃ y,Ev (fun n=>AB n ⟨src,(p:Int),out⟩ (b.map fun c=>(c.toNat:Int)) (k:Int)) y/\txR ⟨src,(p:Int),out⟩ y=MH src p out (some (text b ((bl src).drop k)))
 |m,b,k,hm,hk,hb=>by
  have fin:∀ {y R},Ev (fun n=>AB (n+1) ⟨src,(p:Int),out⟩ (b.map fun c=>(c.toNat:Int)) (k:Int)) y->text b ((bl src).drop k)=R->txR ⟨src,(p:Int),out⟩ y=MH src p out (some R) ->
   ∃ y,Ev (fun n=>AB n ⟨src,(p:Int),out⟩ (b.map fun c=>(c.toNat:Int)) (k:Int)) y/\txR ⟨src,(p:Int),out⟩ y=MH src p out (some (text b ((bl src).drop k))):=by
   rintro y R h1 rfl h2
   exact⟨y,Ev.step (fun n=>rfl) h1,h2⟩
  by_cases h200:b.length<=200
  rotate_left
  . refine fin (y:=.inl ()) (R:=.bad 2) (Ev.of fun n=>?_) ?_ rfl
    . rw [AB.eq_2,Ì,Ë (by omega)];rfl
    . cases (bl src).drop k with
      |nil=>unfold text;rw [Ç (by omega)]
      |cons c r=>unfold text;rw [Ç (by omega)]
  have d1:decide ((b.length:Int)<=200)=true:=Í (by omega)
  by_cases hlt:k<src.size
  rotate_left
  . obtain rfl:k=src.size:=by omega
    refine fin (y:=.inr ((true,28),⟨src,(p:Int),out⟩)) (R:=.bad 28) (Ev.of fun n=>?_) ?_ rfl
    . rw [AB.eq_2,Ì,d1,Í (Int.le_refl _)];rfl
    . rw [MY];unfold text;rw [Å (by omega)]
  have hdr:=FV src k hlt
  have d2:decide ((src.size:Int)<=(k:Int))=false:=Ë (by omega)
  have w2:=Pe (show k<4611686018427387904 by omega)
  obtain⟨m,rfl⟩:∃ m',m=m'+1:=⟨m-1,by omega⟩
  have app:∀ c:UInt8,Cn 1 (b.map fun c=>(c.toNat:Int)) [(c.toNat:Int)]=some ((b++[c]).map fun c=>(c.toNat:Int)):=fun c=>by
   unfold Cn
   rw [Ç (by simp only [Ì,à,ì];omega),ü];rfl
  by_cases c34:src[k]=34
  . refine fin (y:=.inr ((true,0),⟨src,((k+1:Nat):Int),out++[⟨3,(p:Int),⟨⟨b⟩⟩,0⟩]⟩)) (R:=.ok 3 b 0 ((bl src).drop (k+1))) (Ev.of fun n=>?_) ?_ ?_
    . rw [AB.eq_2]
      simp only [Ì,d1,d2,Ð,Ï,Hk hlt,Á,show ((src[k].toNat:Int) == 34)=true by rw [c34];rfl,w2,WJ,Of hl]
    . rw [hdr];unfold text;rw [Å (by omega),Ç c34]
    . simp only [MH,txR]
      rw [ú,Fx,show src.size-(src.size-(k+1))=k+1 by omega];rfl
  have b1:((src[k].toNat:Int) == 34)=false:=beq_eq_false_iff_ne.2 fun h=>c34 ((eq_iff _ 34).2 h)
  by_cases c92:src[k]=92
  . have b2:((src[k].toNat:Int) == 92)=true:=by rw [c92];rfl
    by_cases hk2:k+1<src.size
    . have hdr2:=FV src (k+1) hk2
      have d3:decide (((k+1:Nat):Int)<(src.size:Int))=true:=Í (by omega)
      have w3:=Pe (show k+1<4611686018427387904 by omega)
      have hi:MN ⟨#[34,92,110]⟩ (src[k+1].toNat:Int)=some (Lib.indexByte [34,92,110] src[k+1]):=by
       unfold MN
       congr 2
       simp
      rcases Z9 src[k+1] with⟨hz,hpr⟩|⟨i,hz,hpr,hpi⟩
      . refine fin (y:=.inr ((true,28),⟨src,(p:Int),out⟩)) (R:=.bad 28) (Ev.of fun n=>?_) ?_ rfl
        . rw [AB.eq_2]
          simp only [Ì,d1,d2,Ð,Ï,Hk hlt,Á,b1,b2,w2,d3,Hk hk2,hi,hz];rfl
        . rw [hdr,hdr2,Uh h200 c34 c92,Ç hpr]
      . obtain⟨y,h1,h2⟩:=YV m (b++[pair src[k+1]]) (k+2) (by omega) (by omega) (by simp only [Õ,à,ì];omega)
        refine fin (y:=y) ?_ (by rw [hdr,hdr2,Uh h200 c34 c92,Å hpr]) h2
        refine Ev.congr h1 fun n=>?_
        rw [AB.eq_2]
        simp only [Ì,d1,d2,Ð,Ï,Hk hlt,Á,b1,b2,w2,d3,Hk hk2,hi,hz,Ë (show ¬ (i:Int)<0 by omega),hpi,app,w3]
    . refine fin (y:=.inr ((true,28),⟨src,(p:Int),out⟩)) (R:=.bad 28) (Ev.of fun n=>?_) ?_ rfl
      . rw [AB.eq_2]
        simp only [Ì,d1,d2,Ð,Ï,Hk hlt,Á,b1,b2,w2,Ë (show ¬ ((k+1:Nat):Int)<(src.size:Int) by omega)];rfl
      . rw [hdr,show (bl src).drop (k+1)=[] from by rw [show k+1=src.size by omega];exact MY src]
        unfold text;rw [Å (by omega),Å c34,Ç c92]
  have b2:((src[k].toNat:Int) == 92)=false:=beq_eq_false_iff_ne.2 fun h=>c92 ((eq_iff _ 92).2 h)
  have ev:((bif decide ((src[k].toNat:Int)<32) then some true else some (decide (126<(src[k].toNat:Int)))):Option Bool)=some (decide (src[k]<32∨126<src[k])):=by
   have e1:src[k]<32↔(src[k].toNat:Int)<32:=by rw [UInt8.lt_iff_toNat_lt];exact⟨fun h=>by have:(32:UInt8).toNat=32:=rfl;omega,fun h=>by have:(32:UInt8).toNat=32:=rfl;omega⟩
   have e2:126<src[k]↔(126:Int)<(src[k].toNat:Int):=by rw [UInt8.lt_iff_toNat_lt];exact⟨fun h=>by have:(126:UInt8).toNat=126:=rfl;omega,fun h=>by have:(126:UInt8).toNat=126:=rfl;omega⟩
   rw [show decide (src[k]<32∨126<src[k])=decide ((src[k].toNat:Int)<32∨(126:Int)<(src[k].toNat:Int)) from decide_eq_decide.2 (or_congr e1 e2)]
   by_cases q:(src[k].toNat:Int)<32<;>simp [q]
  by_cases ho:src[k]<32∨126<src[k]
  . refine fin (y:=.inr ((true,28),⟨src,(p:Int),out⟩)) (R:=.bad 28) (Ev.of fun n=>?_) ?_ rfl
    . rw [AB.eq_2]
      simp only [Ì,d1,d2,Ð,Ï,Hk hlt,Á,b1,b2,ev,Í ho]
    . rw [hdr,Ug h200 c34 c92,Ç ho]
  . obtain⟨y,h1,h2⟩:=YV m (b++[src[k]]) (k+1) (by omega) (by omega) (by simp only [Õ,à,ì];omega)
    refine fin (y:=y) ?_ (by rw [hdr,Ug h200 c34 c92,Å ho]) h2
    refine Ev.congr h1 fun n=>?_
    rw [AB.eq_2]
    simp only [Ì,d1,d2,Ð,Ï,Hk hlt,Á,b1,b2,ev,Ë ho,app,w2]
theorem Abf (hp:p<src.size):Ev (fun n=>Ec n ⟨src,(p:Int),out⟩) (MH src p out (if src[p]=34 then some (text [] ((bl src).drop (p+1))) else none)):=by
 unfold Ec
 simp only [Hk hp,Á]
 by_cases h34:src[p]=34
 . rw [Ç h34,show ((src[p].toNat:Int) != 34)=false by rw [h34];rfl,Pe (show p<4611686018427387904 by omega)]
   obtain⟨y,h1,h2⟩:=YV src p out hs hl _ [] (p+1) (Þ _) (by omega) (by simp)
   refine Ev.bind h1 ?_
   rw [<- h2]
   cases y<;>exact Ev.pure
 . rw [Å h34,show ((src[p].toNat:Int) != 34)=true from bne_iff_ne.2 fun h=>h34 ((eq_iff _ 34).2 h)]
   exact Ev.pure
theorem Ac0 {x:Æ}(hx:bl x=(bl src).drop p):∀ (r:List (List UInt8)) (i:Nat),Lx.long.drop i=r->i<=9 ->
 Ev (fun n=>BW n (Lx.long.map fun l=>⟨⟨l⟩⟩) x ⟨src,(p:Int),out⟩ (i:Int)) (if ((bl src).drop p).take 2∈r then .inr ((true,0),⟨src,((p+2:Nat):Int),out++[⟨4,(p:Int),⟨⟨((bl src).drop p).take 2⟩⟩,0⟩]⟩) else .inl ())
 | [],i,hr,hi=>by
  have:=LF hr hi
  refine Ev.step (fun n=>BW.eq_2 ..) (Ev.of fun n=>?_)
  rw [Ì,Ë (by omega)];rfl
 |l::r,i,hr,hi=>by
  obtain⟨h1,h2⟩:=GC hr
  have hm:l∈Lx.long:=í (by rw [hr];simp)
  have h22:l.length=2:=(show ∀ l∈Lx.long,l.length=2 by decide) l hm
  have h29:i<9:=h2
  have hg:gi (Lx.long.map fun l=>(⟨⟨l⟩⟩:Æ)) (i:Int)=some ⟨⟨l⟩⟩:=QB (r:=r.map fun l=>⟨⟨l⟩⟩) (by rw [<- List.map_drop,hr];rfl)
  refine Ev.step (fun n=>BW.eq_2 ..) ?_
  simp only [Ì,R7 h2,Ð,hg,Á,Wi,show x.data.toList=(bl src).drop p from hx,Zk h22,Pe (show i<4611686018427387904 by omega)]
  by_cases hp2:((bl src).drop p).take 2=l
  . have w2:À ((p:Int)+2)=((p+2:Nat):Int):=TR (by omega) (by
     have:=congrArg List.length hp2
     rw [List.length_take,ú,Fx,h22] at this
     omega)
    rw [Í hp2,Ç (by rw [hp2];simp)]
    simp only [Ð,Of hl,Á,w2,hp2]
    exact Ev.pure
  . rw [Ë hp2]
    have e:(if ((bl src).drop p).take 2∈l::r then Sum.inr ((true,0),(⟨src,((p+2:Nat):Int),out++[⟨4,(p:Int),⟨⟨((bl src).drop p).take 2⟩⟩,0⟩]⟩:Ak)) else Sum.inl ():Unit ⊕ ((Bool×Int)×Ak))=if ((bl src).drop p).take 2∈r then .inr ((true,0),⟨src,((p+2:Nat):Int),out++[⟨4,(p:Int),⟨⟨((bl src).drop p).take 2⟩⟩,0⟩]⟩) else .inl ():=by
     simp only [List.mem_cons,hp2,false_or]
    rw [e]
    exact Ac0 hx r (i+1) h1 (by omega)
theorem Abl (hp:p<src.size):Ev (fun n=>Ef n ⟨src,(p:Int),out⟩) (MH src p out (Ge ((bl src).drop p))):=by
 unfold Ef
 obtain⟨g1,g2⟩:=UQ (src:=src) (j:=p) (by omega)
 obtain⟨X,hX⟩:∃ X,X=src.extract p src.size:=⟨_,rfl⟩
 rw [<- hX] at g1 g2
 have hbX:bl X=(bl src).drop p:=g2
 simp only [g1,Á,show LZ ⟨#[45,62,32,58,61,32,61,61,32,33,61,32,60,61,32,62,61,32,38,38,32,124,124,32,46,46]⟩=some (Lx.long.map fun l=>⟨⟨l⟩⟩) from rfl]
 refine Ev.bind (Ac0 src p out hs hl hbX Lx.long 0 rfl (by decide)) ?_
 have hdr:=FV src p hp
 have hlen:((bl src).drop p).length=src.size-p:=by rw [ú,Fx]
 by_cases hm:((bl src).drop p).take 2∈Lx.long
 . rw [Ç hm]
   have h2l:2<=src.size-p:=by
    have h22:(((bl src).drop p).take 2).length=2:=(show ∀ l∈Lx.long,l.length=2 by decide) _ hm
    rw [List.length_take] at h22;omega
   have hr:Ge ((bl src).drop p)=some (.ok 4 (((bl src).drop p).take 2) 0 ((bl src).drop (p+2))):=by
    unfold Ge sign;rw [Ç hm,Ħ]
   rw [hr]
   simp only [MH,ú,Fx,show src.size-(src.size-(p+2))=p+2 by omega]
   exact Ev.pure
 . rw [Å hm]
   have hXs:1<=X.size:=by rw [<- Fx,hbX,hlen];omega
   have hX1:X.extract 0 1=⟨#[src[p]]⟩:=by
    rw [ZU,List.drop_zero,hbX,hdr];rfl
   have g3:N3 X 0 1=some ⟨#[src[p]]⟩:=by
    have:=Q9 (src:=X) (a:=0) (b:=1) (by omega) hXs
    rw [hX1] at this
    exact this
   have hh:Te ⟨#[40,41,123,125,91,93,44,59,58,46,43,45,42,47,37,60,62,61,33,38,124,64,63,94,126]⟩ ⟨#[src[p]]⟩=some (decide (src[p]∈Lx.short)):=by
    show some (decide (0<=Lib.indexByte Lx.short src[p]))=_
    rw [X3]
   simp only [g3,hh,Á]
   by_cases hs1:src[p]∈Lx.short
   . have hr:Ge ((bl src).drop p)=some (.ok 4 [src[p]] 0 ((bl src).drop (p+1))):=by
      unfold Ge sign;rw [Å hm,hdr];simp only;rw [Ç hs1]
     rw [hr,Í hs1]
     simp only [ě,Ï,Of hl,Á,Pe (show p<4611686018427387904 by omega),MH,ú,Fx,show src.size-(src.size-(p+1))=p+1 by omega]
     exact Ev.pure
   . have hr:Ge ((bl src).drop p)=none:=by
      unfold Ge sign;rw [Å hm,hdr];simp only;rw [Å hs1]
     rw [hr,Ë hs1]
     exact Ev.pure
def nxO (src:Æ)(p:Nat)(out:List Aq)(o:Out):Int×Ak:=((MH src p out (some o)).1.2,(MH src p out (some o)).2)
theorem Abz (hp:p<src.size):Ev (fun n=>Eg n ⟨src,(p:Int),out⟩) (nxO src p out (Lx.tok ((bl src).drop p))):=by
 have hdr:=FV src p hp
 have t1:=Ab2 src p out hs hl hp
 have t2:=Yj src p out hs hl hp
 have t3:=Abf src p out hs hl hp
 have t4:=Abl src p out hs hl hp
 have htok:Lx.tok ((bl src).drop p)=if BT src[p] then name ((bl src).drop p) else if isDigit src[p] then number ((bl src).drop p) else if src[p]=34 then text [] ((bl src).drop (p+1)) else sign ((bl src).drop p):=by
  rw [hdr];rfl
 have rd1:∀ o:Out,(MH src p out (some o)).1.1=true:=fun o=>by cases o<;>rfl
 have rd0:MH src p out none=((false,0),⟨src,(p:Int),out⟩):=rfl
 unfold Eg
 have key:∃ y,Ev (fun n=>Au n 0 src (p:Int) out) y/\(match y with|.inl (r_1,r_2,r_3)=>(26,Ak.mk r_1 r_2 r_3)|.inr o=>o)=nxO src p out (Lx.tok ((bl src).drop p)):=by
  by_cases h1:BT src[p]=true
  . rw [Ç h1] at t1 htok
    refine⟨.inr _,Ev.step (fun n=>Au.eq_2 ..) (Ev.bind t1 ?_),by rw [htok]⟩
    simp only [rd1,Ð];exact Ev.pure
  rw [Å h1] at t1 htok
  have s1:∀ {y},Ev (fun n=>Au n 1 src (p:Int) out) y->Ev (fun n=>Au n 0 src (p:Int) out) y:=fun h=>Ev.step (fun n=>Au.eq_2 ..) (Ev.bind t1 (by simp only [rd0,Ï];exact h))
  by_cases h2:isDigit src[p]=true
  . rw [Ç h2] at t2 htok
    refine⟨.inr _,s1 (Ev.step (fun n=>Au.eq_2 ..) (Ev.bind t2 ?_)),by rw [htok]⟩
    simp only [rd1,Ð];exact Ev.pure
  rw [Å h2] at t2 htok
  have s2:∀ {y},Ev (fun n=>Au n 2 src (p:Int) out) y->Ev (fun n=>Au n 0 src (p:Int) out) y:=fun h=>s1 (Ev.step (fun n=>Au.eq_2 ..) (Ev.bind t2 (by simp only [rd0,Ï];exact h)))
  by_cases h3:src[p]=34
  . rw [Ç h3] at t3 htok
    refine⟨.inr _,s2 (Ev.step (fun n=>Au.eq_2 ..) (Ev.bind t3 ?_)),by rw [htok]⟩
    simp only [rd1,Ð];exact Ev.pure
  rw [Å h3] at t3 htok
  have s3:∀ {y},Ev (fun n=>Au n 3 src (p:Int) out) y->Ev (fun n=>Au n 0 src (p:Int) out) y:=fun h=>s2 (Ev.step (fun n=>Au.eq_2 ..) (Ev.bind t3 (by simp only [rd0,Ï];exact h)))
  cases h4:Ge ((bl src).drop p) with
  |some o =>
   rw [h4] at t4
   have ho:sign ((bl src).drop p)=o:=by
    unfold Ge at h4
    split at h4
    . cases h4
    . exact Af h4
   refine⟨.inr _,s3 (Ev.step (fun n=>Au.eq_2 ..) (Ev.bind t4 ?_)),by rw [htok,ho]⟩
   simp only [rd1,Ð];exact Ev.pure
  |none =>
   rw [h4] at t4
   have hb:sign ((bl src).drop p)=.bad 26:=by
    unfold Ge at h4
    split at h4
    . rename_i e he
      unfold sign at he ⊢
      split at he
      . cases he
      . rename_i hn
        rw [Å hn]
        split at he
        . rfl
        . split at he
          . cases he
          . rename_i hs;rw [Å hs]
    . cases h4
   refine⟨.inl (src,(p:Int),out),s3 (Ev.step (fun n=>Au.eq_2 ..) (Ev.bind t4 ?_)),by rw [htok,hb];rfl⟩
   simp only [rd0,Ï]
   exact Ev.step (fun n=>Au.eq_2 ..) (Ev.of fun n=>rfl)
 obtain⟨y,h1,h2⟩:=key
 refine Ev.bind h1 ?_
 rw [<- h2]
 rcases y with⟨r_1,r_2,r_3⟩|o<;>exact Ev.pure
end
theorem XS (src:Æ):Ev (fun n=>Ig n src) (Qw src):=by
 unfold Ig Qw
 by_cases h64:65536<src.size
 . rw [Ç h64,Í (by omega)];exact Ev.pure
 rw [Å h64,Ë (by omega)]
 have hs:src.size<=1000000:=by omega
 have hp0:=Xp src 0
 rw [List.drop_zero] at hp0
 have loop:∀ (m p:Nat) (L:List Tok),src.size-p<=m->p<=src.size->L.length<=p->Rr src.size (skip false (bl src)) L ((bl src).drop p) ->
  ∃ y,Ev (fun n=>Cq n src src (p:Int) (L.map tkT)) y/\((∃ L',y=.inl (src,(src.size:Int),L'.map tkT)/\L'.length<=src.size/\Lx.Good src.size (skip false (bl src)) (L'++[⟨5,src.size,[],0⟩]))∨∃ q e:Nat,y=.inr ([],⟨(q:Int),(e:Int)⟩)/\Lx.Bad src.size (skip false (bl src)) q e):=by
  intro m
  induction m with
  |zero =>
   intro p L hm hp hL hso
   obtain rfl:p=src.size:=by omega
   refine⟨_,Ev.step (fun n=>Cq.eq_2 ..) (Ev.of fun n=>by rw [Ë (Int.lt_irrefl _)];rfl),.inl ⟨L,rfl,hL,hso.1 _ ?_⟩⟩
   rw [MY];exact .fin
  |succ m ih =>
   intro p L hm hp hL hso
   by_cases hlt:p<src.size
   rotate_left
   . obtain rfl:p=src.size:=by omega
     refine⟨_,Ev.step (fun n=>Cq.eq_2 ..) (Ev.of fun n=>by rw [Ë (Int.lt_irrefl _)];rfl),.inl ⟨L,rfl,hL,hso.1 _ ?_⟩⟩
     rw [MY];exact .fin
   have hne:(bl src).drop p≠[]:=by rw [FV src p hlt];simp
   have hlr:((bl src).drop p).length=src.size-p:=by rw [ú,Fx]
   have hn:=Abz src p (L.map tkT) hs (by rw [Ì];omega) hlt
   cases ht:Lx.tok ((bl src).drop p) with
   |bad e =>
    rw [ht] at hn
    have he0:=SB ht
    refine⟨_,Ev.step (fun n=>Cq.eq_2 ..) ?_,.inr ⟨p,e,rfl,?_⟩⟩
    . simp only [Í (show (p:Int)<src.size by omega),Ð]
      refine Ev.bind hn ?_
      simp only [nxO,MH,show ((e:Int) != 0)=true from bne_iff_ne.2 (by omega),Ð]
      exact Ev.pure
    . have hb:=hso.2 _ _ (Lx.Bad.here hne ht)
      rwa [hlr,show src.size-(src.size-p)=p by omega] at hb
   |ok k s v t =>
    rw [ht] at hn
    have hq:=Xr src p (RL ht).2.1
    have htl:=Xc ht
    have hsk:=Xp src (src.size-t.length)
    rw [hq.1] at hsk
    have hkl:=HB false t
    have hso2:=hso.cons ht
    rw [hlr,show src.size-(src.size-p)=p by omega] at hso2
    obtain⟨y,h1,h2⟩:=ih (src.size-(skip false t).length) (L++[⟨k,p,s,v⟩]) (by omega) hsk.2 (by simp only [Õ,à,ì];omega) (by rw [hsk.1];exact hso2)
    refine⟨y,Ev.step (fun n=>Cq.eq_2 ..) ?_,h2⟩
    simp only [Í (show (p:Int)<src.size by omega),Ð]
    refine Ev.bind hn ?_
    simp only [nxO,MH,ù,Ï]
    refine Ev.bind (Xo src _ _ hs hq.2) ?_
    have e:(Od src (src.size-t.length))=src.size-(skip false t).length:=by unfold Od;rw [hq.1]
    rw [e]
    rw [ü] at h1
    exact h1
 simp only [Ï]
 refine Ev.bind (Xo src 0 [] hs (Ą _)) ?_
 have e0:Od src 0=src.size-(skip false (bl src)).length:=by unfold Od;rw [List.drop_zero]
 obtain⟨y,h1,h2⟩:=loop _ (Od src 0) [] (Þ _) (by rw [e0];exact hp0.2) (Ą _) (by rw [e0,hp0.1];exact Rr.nil _ _)
 refine Ev.bind h1 ?_
 rcases h2 with⟨L',rfl,hl,hg⟩|⟨q,e,rfl,hb⟩
 . cases ht:Lx.tokens src.data.toList with
   |ok ts =>
    have hg2:Lx.Good src.size (skip false (bl src)) ts:=OB ht
    have:=hg2.unique hg
    subst this
    simp only [Of (show (L'.map tkT).length<=1000000 by rw [Ì];omega),Á,ü]
    exact Ev.pure
   |error x =>
    obtain⟨q,e⟩:=x
    have hb:Lx.Bad src.size (skip false (bl src)) q e:=PN ht
    exact (hg.notBad hb).elim
 . cases ht:Lx.tokens src.data.toList with
   |ok ts =>
    have hg:Lx.Good src.size (skip false (bl src)) ts:=OB ht
    exact (hg.notBad hb).elim
   |error x =>
    obtain⟨q',e'⟩:=x
    have hb2:Lx.Bad src.size (skip false (bl src)) q' e':=PN ht
    obtain⟨rfl,rfl⟩:=hb2.unique hb
    exact Ev.pure
end Go.Proofs.YtehfpameijkafaaGreatDoor
namespace Go.Proofs.YtehfpameijkafaaGreatDoor
open Go.RowKit Go.Q Go.Vl Go.Sp Go.Lx
theorem YR (src:Æ)(t:List Aq×An)(h:Sh src=some t):C9 Tryz.prog 112 [tP src] (.tup [hP t.1 Fb,.agg [iP t.2.At,iP t.2.E]]):=by
 obtain rfl:=Af h
 obtain⟨n,hn⟩:=(XS src).get
 exact Rz n src _ hn
end Go.Proofs.YtehfpameijkafaaGreatDoor
namespace Go.Proofs.YtehfpameijkafaaGreatDoor
open Go.RowKit Go.Q Go.Vl Go.Sp
set_option maxRecDepth 100000
set_option linter.unusedSimpArgs false
set_option maxHeartbeats 4000000
set_option linter.unusedVariables false
theorem IT (n:Nat)(q:Int)(q1:Int)(out:(List Az))(bad:Int)(bad1:Int)(q2:(List Aq))(q3:Int)(r:(Ex Ao ((List Az)×(List Aq)×Int) Unit))(h:Hq n q q1 out bad bad1 q2 q3=some r):K1 r (fun v0 s0=>Jv Tryz.prog 69 [.ptr 3 0,.ptr 1 0] [[iP q,iP q1],[oF out],[iP bad,iP bad1],[hT q2,iP q3]] (.ret (.tup [])) [[iP q,iP q1],[oF s0.1],[iP bad,iP bad1],[hT s0.2.1,iP s0.2.2]]) (fun e0 s0=>Jv Tryz.prog 69 [.ptr 3 0,.ptr 1 0] [[iP q,iP q1],[oF out],[iP bad,iP bad1],[hT q2,iP q3]] (.pan [{ v:=.iface 188 (.agg #[(.int .i64 e0.At),(.int .i64 e0.E)]),recovered:=false }]) [[iP q,iP q1],[oF s0.1],[iP bad,iP bad1],[hT s0.2.1,iP s0.2.2]]):=by
 unfold Hq at h
 refine vSx ⟨[0,1,10],[(1,[9997,1,3,0,1,3,2,4,5,6,7,8])]⟩ Tryz.func69 follows fun Q hQ=>?_
 refine mI 0 [] h (fun (out1,q4,q5)=>⟨[],[[iP q,iP q1],[oF out1],[iP bad,iP bad1],[hT q4,iP q5]]⟩) ?_ fun y e h hJ=>?_
 rintro⟨out1,q4,q5⟩ h
 cases h
 exact rt 0 [] hQ
 refine lF 1 [] (A:=((List Az)×(List Aq)×Int)) (fun n (out2,q6,q7)=>Es n out2 q6 q7) (fun (out2,q6,q7)=>⟨[(0,.ptr 3 0),(1,.ptr 1 0)],[[iP q,iP q1],[oF out2],[iP bad,iP bad1],[hT q6,iP q7]]⟩) (out,q2,q3) e (fun _=>rfl) ?_
 rintro n ⟨out2,q6,q7⟩ e ih
 replace e:=(Es.eq_2 ..).symm.trans e
 obtain⟨x,hx,e⟩:=Ae e
 refine cD 1 [(4,fi Co hx)] e (fun hc e=>?_) fun hc e=>?_
 refine wl 1 [] ?_
 refine yE e (fun f s hy1 e=>?_) fun e1 s1 hy1 e=>?_
 obtain⟨out3,hout3,e⟩:=Ae e
 refine xG [3] [0,1,3] 2 4 5 6 7 8 [.no,.no,.val (iP (out2.length:Int))] (.meth (.agg [tP f.Word,hA f.Args,hF f.Body,iP f.At]) [hT s.l,iP s.forms]) .no (out3.map Cp) ⟨[(0,.ptr 3 0),(1,.ptr 1 0)],[[iP q,iP q1],[oF out3],[iP bad,iP bad1],[hT s.l,iP s.forms]]⟩ (And.intro (And.intro (Yg out2 Cp) True.intro) (And.intro (And.intro (And.intro (EH n (Ad.mk q6 q7) 1 (.ok f s) hy1) True.intro) (Ac2 hout3 Hp (Gj f))) (And.intro (And.intro (EH n (Ad.mk q6 q7) 1 (.ok f s) hy1) True.intro) (Ac2 hout3 Hp (Gj f))))) ?_
 exact mJ 0 [] (ih (_,_,_) e)
 cases e
 cases h
 exact xGP [3] [0,1,3] 2 4 5 6 7 8 [.no,.no,.val (iP (out2.length:Int))] (.mpan [{ v:=.iface 188 (.agg #[(.int .i64 e1.At),(.int .i64 e1.E)]),recovered:=false }] [hT s1.l,iP s1.forms]) .no (And.intro (And.intro (Yg out2 Cp) True.intro) (And.intro (And.intro (EH n (Ad.mk q6 q7) 1 (.pan e1 s1) hy1) True.intro) (And.intro (EH n (Ad.mk q6 q7) 1 (.pan e1 s1) hy1) True.intro))) hQ
 exact mJ 1 [] (hJ _ (oj e))
theorem K6 (d0:Int)(d1:Int)(d2:(List Az))(d3:Int)(d4:Int)(d5:(List Aq))(d6:Int):S5 Tryz.prog 113 [.ptr 2 0] [[iP d0,iP d1],[oF d2],[iP d3,iP d4],[hT d5,iP d6]] .returning (fun y u' σ'=>u'=.returning/\y=.ret (.tup [])/\σ'=[[iP d0,iP d1],[oF d2],[iP d3,iP d4],[hT d5,iP d6]]):=by
 refine S5.intro (rv:=.nilIface) ⟨[0,1,2,3,6,13],[]⟩ Tryz.func113 rfl follows rfl (fun _ _=>rfl) rfl rfl (.inl ⟨rfl,rfl,rfl⟩) (by kernel_rfl) ?_
 refine Afc [0,1,2,3,6,13] [0,1] [.no] ⟨[(0,.ptr 2 0),(1,.lit .nilIface)],[[iP d0,iP d1],[oF d2],[iP d3,iP d4],[hT d5,iP d6]]⟩ True.intro (by kernel_rfl) ?_
 repeat first|apply z1|apply z2|apply z3|apply z4
 refine wr [0,1,6] 4 (Et 2 []) ⟨[(0,.ptr 2 0),(1,.lit .nilIface),(6,bP false)],[[iP d0,iP d1],[oF d2],[iP d3,iP d4],[hT d5,iP d6]]⟩ True.intro (by kernel_rfl) ?_
 repeat first|apply z1|apply z2|apply z3|apply z4
 refine EX rfl ?_
 repeat first|apply z1|apply z2|apply z3|apply z4
 exact IM (Uq (by rintro y rfl;exact⟨rfl,rfl,rfl⟩) (by kernel_rfl)).1
theorem K5 (d0:Int)(d1:Int)(d2:(List Az))(d3:Int)(d4:Int)(d5:(List Aq))(d6:Int)(e0:Ao):S5 Tryz.prog 113 [.ptr 2 0] [[iP d0,iP d1],[oF d2],[iP d3,iP d4],[hT d5,iP d6]] (.panicking [{ v:=.iface 188 (.agg #[(.int .i64 e0.At),(.int .i64 e0.E)]),recovered:=false }]) (fun y u' σ'=>settle u'=.returning/\y=.ret (.tup [])/\σ'=[[iP d0,iP d1],[oF d2],[iP e0.At,iP e0.E],[hT d5,iP d6]]):=by
 refine S5.intro (rv:=(.iface 188 (.agg #[(.int .i64 e0.At),(.int .i64 e0.E)]))) ⟨[0,1,2,3,6,13],[]⟩ Tryz.func113 rfl follows rfl (fun _ _=>rfl) rfl rfl (.inr ⟨[],rfl,rfl⟩) (by kernel_rfl) ?_
 refine Afc [0,1,2,3,6,13] [0,1] [.no] ⟨[(0,.ptr 2 0),(1,.lit (.iface 188 (.agg #[(.int .i64 e0.At),(.int .i64 e0.E)])))],[[iP d0,iP d1],[oF d2],[iP d3,iP d4],[hT d5,iP d6]]⟩ True.intro (by kernel_rfl) ?_
 repeat first|apply z1|apply z2|apply z3|apply z4
 refine wr [0,1,6] 4 (Et 2 []) ⟨[(0,.ptr 2 0),(1,.lit (.iface 188 (.agg #[(.int .i64 e0.At),(.int .i64 e0.E)]))),(6,bP true)],[[iP d0,iP d1],[oF d2],[iP d3,iP d4],[hT d5,iP d6]]⟩ True.intro (by kernel_rfl) ?_
 repeat first|apply z1|apply z2|apply z3|apply z4
 refine Gp rfl ?_
 repeat first|apply z1|apply z2|apply z3|apply z4
 refine wr [0,1,2,3] 5 (Et 8 []) ⟨[(0,.ptr 2 0),(1,.lit (.iface 188 (.agg #[(.int .i64 e0.At),(.int .i64 e0.E)]))),(2,.ptr 4 0),(3,bP true)],[[iP d0,iP d1],[oF d2],[iP d3,iP d4],[hT d5,iP d6],[iP e0.At,iP e0.E]]⟩ True.intro (by kernel_rfl) ?_
 repeat first|apply z1|apply z2|apply z3|apply z4
 refine wr [0,1,2,13] 5 (Et 2 []) ⟨[(0,.ptr 2 0),(1,.lit (.iface 188 (.agg #[(.int .i64 e0.At),(.int .i64 e0.E)]))),(2,.ptr 4 0),(13,bP false)],[[iP d0,iP d1],[oF d2],[iP d3,iP d4],[hT d5,iP d6],[iP e0.At,iP e0.E]]⟩ True.intro (by kernel_rfl) ?_
 repeat first|apply z1|apply z2|apply z3|apply z4
 refine EX rfl ?_
 repeat first|apply z1|apply z2|apply z3|apply z4
 refine wr [] 5 (Et 2 []) ⟨[],[[iP d0,iP d1],[oF d2],[iP e0.At,iP e0.E],[hT d5,iP d6],[iP e0.At,iP e0.E]]⟩ True.intro (by kernel_rfl) ?_
 repeat first|apply z1|apply z2|apply z3|apply z4
 exact IM (Uq (by rintro y rfl;exact⟨rfl,rfl,rfl⟩) (by kernel_rfl)).1
theorem M7 (n:Nat)(q:Int)(q1:Int)(out:(List Az))(src:Æ)(r:(An×(List Az)))(h:Gm n q q1 out src=some r)(Q:Ck->List (List PV)->Prop)(hQ:∀ y,shareP y=.agg [iP r.1.At,iP r.1.E]->Q (.ret y) [[iP q,iP q1],[oF r.2]]) :
 VC Tryz.prog 68 [tP src,.fn 69 [.ptr 1 0]] [[iP q,iP q1],[oF out]] Q:=by
 unfold Gm at h
 refine VC.introD [4] ⟨[0,1,4,5,6,14,30],[]⟩ Tryz.func68 rfl follows rfl rfl (by kernel_rfl) ?_
 show WS _ _ _ (_::_) _ _
 repeat first|apply z1|apply z2|apply z3|apply z4
 refine wr [0,1,4] 3 (Et 1 []) ⟨[(0,tP src),(1,.fn 69 [.ptr 1 0]),(4,.ptr 2 0)],[[iP q,iP q1],[oF out],[iP 0,iP 0]]⟩ True.intro (by kernel_rfl) ?_
 repeat first|apply z1|apply z2|apply z3|apply z4
 obtain⟨t,ht,h⟩:=Ae h
 refine wr [0,1,4,5] 3 (Et 1 (.call (.tup [hT t.1,.agg [iP t.2.At,iP t.2.E]])::(Et 5 []))) ⟨[(0,tP src),(1,.fn 69 [.ptr 1 0]),(4,.ptr 2 0),(5,hT t.1)],[[iP q,iP q1],[oF out],[iP t.2.At,iP t.2.E]]⟩ (And.intro (YR src t ht) True.intro) (by kernel_rfl) ?_
 repeat first|apply z1|apply z2|apply z3|apply z4
 refine wr [0,1,4,5,14] 3 (Et 3 []) ⟨[(0,tP src),(1,.fn 69 [.ptr 1 0]),(4,.ptr 2 0),(5,hT t.1),(14,bP (t.2.E != 0))],[[iP q,iP q1],[oF out],[iP t.2.At,iP t.2.E]]⟩ True.intro (by kernel_rfl) ?_
 repeat first|apply z1|apply z2|apply z3|apply z4
 rcases Aj h with⟨hc1,h⟩|⟨hc1,h⟩
 . refine Gp (test hc1) ?_
   repeat first|apply z1|apply z2|apply z3|apply z4
   refine wr [0,1,4,5,14] 3 (Et 2 []) ⟨[(0,tP src),(1,.fn 69 [.ptr 1 0]),(4,.ptr 2 0),(5,hT t.1),(14,bP (t.2.E != 0))],[[iP q,iP q1],[oF out],[iP t.2.At,iP t.2.E]]⟩ True.intro (by kernel_rfl) ?_
   repeat first|apply z1|apply z2|apply z3|apply z4
   obtain rfl:=Af h
   exact IM (HD hQ (by kernel_rfl)).1
 . refine EX (test hc1) ?_
   repeat first|apply z3|apply z2|apply z1|apply z4
   refine Ae1 (Bx.mk ?_)
   show WS _ _ _ _ _ ⟨(16,.fn 113 [.ptr 2 0])::[(0,tP src),(1,.fn 69 [.ptr 1 0]),(4,.ptr 2 0),(5,hT t.1),(14,bP (t.2.E != 0))],[[iP q,iP q1],[oF out],[iP t.2.At,iP t.2.E]]⟩
   repeat first|apply z1|apply z2|apply z3|apply z4
   refine wr [1,4,6] 4 (Et 4 []) ⟨[(1,.fn 69 [.ptr 1 0]),(4,.ptr 2 0),(6,.ptr 3 0)],[[iP q,iP q1],[oF out],[iP t.2.At,iP t.2.E],[hT t.1,iP 0]]⟩ True.intro (by kernel_rfl) ?_
   repeat first|apply z1|apply z2|apply z3|apply z4
   obtain⟨y,hy,h⟩:=Ae h
   rcases y with⟨f,c⟩|⟨e,c1⟩
   . refine wr [4,6] 4 (Et 2 (.site (.tup []) [[iP q,iP q1],[oF c.1],[iP t.2.At,iP t.2.E],[hT c.2.1,iP c.2.2]]::[])) ⟨[(4,.ptr 2 0),(6,.ptr 3 0)],[[iP q,iP q1],[oF c.1],[iP t.2.At,iP t.2.E],[hT c.2.1,iP c.2.2]]⟩ (And.intro (IT n q q1 out t.2.At t.2.E t.1 0 (.ok f c) hy) True.intro) (by kernel_rfl) ?_
     repeat first|apply z1|apply z2|apply z3|apply z4
     obtain⟨x,hx,h⟩:=Ae h
     refine wr [4,6,30] 4 (Et 4 (.val (.vptr [iP x.Kind,iP x.At,tP x.S,iP x.N] 0)::(Et 3 []))) ⟨[(4,.ptr 2 0),(6,.ptr 3 0),(30,bP (x.Kind != 5))],[[iP q,iP q1],[oF c.1],[iP t.2.At,iP t.2.E],[hT c.2.1,iP c.2.2]]⟩ (And.intro (oi hx IY (J0 x)) True.intro) (by kernel_rfl) ?_
     repeat first|apply z1|apply z2|apply z3|apply z4
     rcases Aj h with⟨hc,h⟩|⟨hc,h⟩
     . refine Gp (test hc) ?_
       repeat first|apply z1|apply z2|apply z3|apply z4
       obtain⟨y1,hy1,h⟩:=Ae h
       rcases y1 with⟨f1,s⟩|⟨e1,s1⟩
       . refine wr [4] 4 (Et 1 (.meth (.tup []) [hT s.l,iP s.forms]::[])) ⟨[(4,.ptr 2 0)],[[iP q,iP q1],[oF c.1],[iP t.2.At,iP t.2.E],[hT s.l,iP s.forms]]⟩ (And.intro (A0 (Ad.mk c.2.1 c.2.2) 5 (.ok f1 s) hy1) True.intro) (by kernel_rfl) ?_
         repeat first|apply z1|apply z2|apply z3|apply z4
         refine wr [4] 4 (Et 2 []) ⟨[(4,.ptr 2 0)],[[iP q,iP q1],[oF c.1],[iP 0,iP 0],[hT s.l,iP s.forms]]⟩ True.intro (by kernel_rfl) ?_
         repeat first|apply z1|apply z2|apply z3|apply z4
         obtain rfl:=Af h
         exact IM (S5.mono (K6 q q1 c.1 0 0 s.l s.forms) fun y u' σ' hx=>⟨hx.1,⟨_,hx.2.1⟩,by rw [hx.2.2];exact (HD hQ (by kernel_rfl)).1⟩)
       . repeat first|apply z1|apply z2|apply z3|apply z4
         obtain rfl:=Af h
         exact V0 [4] (Et 1 (.mpan [{ v:=.iface 188 (.agg #[(.int .i64 e1.At),(.int .i64 e1.E)]),recovered:=false }] [hT s1.l,iP s1.forms]::[])) ⟨[(4,.ptr 2 0)],[[iP q,iP q1],[oF c.1],[iP t.2.At,iP t.2.E],[hT s1.l,iP s1.forms]]⟩ (And.intro (A0 (Ad.mk c.2.1 c.2.2) 5 (.pan e1 s1) hy1) True.intro) (by kernel_rfl) rfl (S5.mono (K5 q q1 c.1 t.2.At t.2.E s1.l s1.forms e1) fun y u' σ' hx=>⟨hx.1,⟨_,hx.2.1⟩,by rw [hx.2.2];exact (HD hQ (by kernel_rfl)).1⟩)
     . refine EX (test hc) ?_
       repeat first|apply z1|apply z2|apply z3|apply z4
       refine wr [4] 4 (Et 2 []) ⟨[(4,.ptr 2 0)],[[iP q,iP q1],[oF c.1],[iP 0,iP 0],[hT c.2.1,iP c.2.2]]⟩ True.intro (by kernel_rfl) ?_
       repeat first|apply z1|apply z2|apply z3|apply z4
       obtain rfl:=Af h
       exact IM (S5.mono (K6 q q1 c.1 0 0 c.2.1 c.2.2) fun y u' σ' hx=>⟨hx.1,⟨_,hx.2.1⟩,by rw [hx.2.2];exact (HD hQ (by kernel_rfl)).1⟩)
   . repeat first|apply z1|apply z2|apply z3|apply z4
     obtain rfl:=Af h
     exact V0 [4] (Et 2 (.sitep [{ v:=.iface 188 (.agg #[(.int .i64 e.At),(.int .i64 e.E)]),recovered:=false }] [[iP q,iP q1],[oF c1.1],[iP t.2.At,iP t.2.E],[hT c1.2.1,iP c1.2.2]]::[])) ⟨[(4,.ptr 2 0)],[[iP q,iP q1],[oF c1.1],[iP t.2.At,iP t.2.E],[hT c1.2.1,iP c1.2.2]]⟩ (And.intro (IT n q q1 out t.2.At t.2.E t.1 0 (.pan e c1) hy) True.intro) (by kernel_rfl) rfl (S5.mono (K5 q q1 c1.1 t.2.At t.2.E c1.2.1 c1.2.2 e) fun y u' σ' hx=>⟨hx.1,⟨_,hx.2.1⟩,by rw [hx.2.2];exact (HD hQ (by kernel_rfl)).1⟩)
theorem NV (n:Nat)(q:Int)(q1:Int)(out:(List Az))(src:Æ)(r:(An×(List Az)))(h:Gm n q q1 out src=some r):Jv Tryz.prog 68 [tP src,.fn 69 [.ptr 1 0]] [[iP q,iP q1],[oF out]] (.ret (.agg [iP r.1.At,iP r.1.E])) [[iP q,iP q1],[oF r.2]]:=Jv.fin (fun Q hQ=>M7 n q q1 out src _ h Q hQ)
theorem S8 (n:Nat)(src:Æ)(r:((List Az)×An))(h:Lt n src=some r):C9 Tryz.prog 43 [tP src] (.tup [hF r.1,.agg [iP r.2.At,iP r.2.E]]):=by
 unfold Lt at h
 refine vP ⟨[0,2,3,4,5,11],[]⟩ Tryz.func43 follows fun Q hQ=>?_
 obtain⟨bad,hbad,h⟩:=Ae h
 refine cD 4 [(5,fs (NV _ _ _ _ _ _ hbad))] h (fun hc h=>?_) fun hc h=>?_
 cases h
 exact rt 1 [] hQ
 cases h
 exact rt 1 [] hQ
end Go.Proofs.YtehfpameijkafaaGreatDoor
namespace Go.Proofs.YtehfpameijkafaaGreatDoor
open Go.RowKit Go.Q Go.Vl Go.Sp
set_option maxRecDepth 100000
set_option linter.unusedSimpArgs false
set_option maxHeartbeats 4000000
set_option linter.unusedVariables false
theorem PF (r:(ByteArray×ByteArray×ByteArray×ByteArray))(h:Jm=some r):C9 Tryz.prog 71 [] (.agg [tP r.1,tP r.2.1,tP r.2.2.1,tP r.2.2.2]):=by
 unfold Jm at h
 refine vP ⟨[0],[]⟩ Tryz.func71 follows fun Q hQ=>?_
 cases h
 exact rt 2 [] hQ
theorem NT (n:Nat)(s:(List Æ))(v_:Æ)(r:Int)(h:HP n s v_=some r):C9 Tryz.prog 72 [hS s,tP v_] (iP r):=by
 unfold HP at h
 refine vP ⟨[0,1,4,5,7,8,9,16],[]⟩ Tryz.func72 follows fun Q hQ=>?_
 refine mI 2 [(2,fl LR s)] h (fun _=>⟨[(4,iP 0)],[]⟩) ?_ fun y e h hJ=>?_
 rintro _ h
 cases h
 exact rt 1 [] hQ
 refine lF 1 [] (A:=Int) (fun n v8=>EN n s v_ v8) (fun v8=>⟨[(0,hS s),(1,tP v_),(4,iP 0),(7,iP (s.length:Int)),(8,iP v8)],[]⟩) 0 e (fun _=>rfl) ?_
 rintro n v8 e ih
 replace e:=(EN.eq_2 ..).symm.trans e
 refine cD 1 [] e (fun hc1 e=>?_) fun hc1 e=>?_
 obtain⟨x,hx,e⟩:=Ae e
 refine cD 3 [(5,fi LR hx)] e (fun hc e=>?_) fun hc e=>?_
 cases e
 cases h
 exact rt 1 [] hQ
 exact mJ 1 [] (ih _ e)
 exact mJ 1 [] (hJ _ (oj e))
theorem Ph (n:Nat)(f:Az)(r:(Int×Bool))(h:I4 n f=some r):C9 Tryz.prog 44 [.agg [tP f.Word,hA f.Args,hF f.Body,iP f.At]] (.tup [iP r.1,bP r.2]):=by
 unfold I4 at h
 refine vP ⟨[0,1,2,3,4,5,6,7,8,17,48,50,51,52,53,67],[(2,[9999,0,0,1,2,3,4,5]),(11,[9999,0,0,1,2,3,4,5,6,7,8,9,10])]⟩ Tryz.func44 follows fun Q hQ=>?_
 obtain⟨l,hl,h⟩:=Ae h
 refine xZ 2 [(3,fk (PF _ hl))] ?_
 obtain⟨i,hi,h⟩:=Ae h
 obtain⟨l1,hl1,h⟩:=Ae h
 refine mE 3 [(3,fk (NT _ _ _ _ hi)),(2,fB Ar hl1)] h (fun want=>⟨[(1,.ptr 0 0),(2,iP 0),(3,bP false),(5,iP (À (i+1))),(6,oI want)],[[tP f.Word,hA f.Args,hF f.Body,iP f.At]]⟩) ?_ fun y e hJ=>?_
 rintro want h
 refine mE 0 [] h (fun v48=>⟨[(1,.ptr 0 0),(2,iP 0),(3,bP false),(5,iP (À (i+1))),(6,oI want),(48,bP v48)],[[tP f.Word,hA f.Args,hF f.Body,iP f.At]]⟩) ?_ fun y1 e1 hJ1=>?_
 rintro v48 h
 refine cD 0 [] h (fun hc2 h=>?_) fun hc2 h=>?_
 cases h
 exact rt 1 [] hQ
 refine mI 1 [(2,fl Bo f.Args)] h (fun _=>⟨[(2,iP 0),(3,bP false),(5,iP (À (i+1)))],[[tP f.Word,hA f.Args,hF f.Body,iP f.At]]⟩) ?_ fun y2 e2 h hJ2=>?_
 rintro _ h
 cases h
 exact rt 1 [] hQ
 refine lF 1 [] (A:=Int) (fun n v52=>F1 n f want v52) (fun v52=>⟨[(2,iP 0),(3,bP false),(5,iP (À (i+1))),(6,oI want),(50,hA f.Args),(51,iP (f.Args.length:Int)),(52,iP v52)],[[tP f.Word,hA f.Args,hF f.Body,iP f.At]]⟩) 0 e2 (fun _=>rfl) ?_
 rintro n v52 e2 ih
 replace e2:=(F1.eq_2 ..).symm.trans e2
 refine cD 1 [] e2 (fun hc1 e2=>?_) fun hc1 e2=>?_
 obtain⟨x,hx,e2⟩:=Ae e2
 obtain⟨x1,hx1,e2⟩:=Ae e2
 refine cD 3 [(1,fi Bo hx),(9,fl Ar want),(2,fi Ar hx1)] e2 (fun hc e2=>?_) fun hc e2=>?_
 cases e2
 cases h
 exact rt 1 [] hQ
 exact mJ 1 [] (ih _ e2)
 exact mJ 1 [] (hJ2 _ (oj e2))
 rcases Aj e1 with⟨hc3,e1⟩|⟨hc3,e1⟩
 exact mJ 1 [(2,fo hc3)] (hJ1 _ (oj e1))
 rcases Aj e1 with⟨hc4,e1⟩|⟨hc4,e1⟩
 exact mJ 1 [(2,fo hc3),(2,fl EB f.Body),(2,fo hc4)] (hJ1 _ (oj e1))
 rcases Aj e1 with⟨hc5,e1⟩|⟨hc5,e1⟩
 exact mJ 1 [(2,fo hc3),(2,fl EB f.Body),(2,fo hc4),(2,fl Bo f.Args),(1,fl Ar want),(2,fo hc5)] (hJ1 _ (oj e1))
 rcases Aj e1 with⟨hc6,e1⟩|⟨hc6,e1⟩
 exact mJ 1 [(2,fo hc3),(2,fl EB f.Body),(2,fo hc4),(2,fl Bo f.Args),(1,fl Ar want),(2,fo hc5),(2,fo hc6),(2,fl Bo f.Args),(1,fl Ar want)] (hJ1 _ (oj e1))
 exact mJ 1 [(2,fo hc3),(2,fl EB f.Body),(2,fo hc4),(2,fl Bo f.Args),(1,fl Ar want),(2,fo hc5),(2,fo hc6)] (hJ1 _ (oj e1))
 refine cD 0 [] e (fun hc7 e=>?_) fun hc7 e=>?_
 obtain⟨l2,hl2,e⟩:=Ae e
 obtain⟨l3,hl3,e⟩:=Ae e
 exact mJ 1 [(1,fB Ar hl2),(0,fa Ar hl3)] (hJ _ (oj e))
 exact mJ 0 [] (hJ _ (oj e))
theorem JX (q:Int)(q1:Int)(p:Int)(p1:Int)(f:Æ)(f1:(List BB))(f2:(List Az))(f3:Int)(c:Aa)(r:Bool)(h:Fu q q1 p p1 f f1 f2 f3 c=some r):Jv Tryz.prog 45 [.agg [tP c.Name,iP c.Kind,iP c.Rank,iP c.Known,iP c.From.Op,iP c.From.N,tP c.From.S,hX c.From.Kids,iP c.From.At,iP c.To.Op,iP c.To.N,tP c.To.S,hX c.To.Kids,iP c.To.At,iP c.When.Op,iP c.When.N,tP c.When.S,hX c.When.Kids,iP c.When.At,iP c.Houses],.ptr 3 0] [[iP q,iP q1],[iP p,iP p1],[Bi,Dg],[tP f,hA f1,hF f2,iP f3]] (.ret (bP r)) [[iP q,iP q1],[iP p,iP p1],[Bi,Dg],[tP f,hA f1,hF f2,iP f3]]:=by
 unfold Fu at h
 refine vS ⟨[0,1,2,3],[(1,[9999,0,0,1,2,3,4,5,6,7,8])]⟩ Tryz.func45 follows fun Q hQ=>?_
 obtain⟨x,hx,h⟩:=Ae h
 cases h
 exact rt 2 [(6,fi Bo hx)] hQ
theorem HZ (n:Nat)(q:Int)(q1:Int)(p:Int)(p1:Int)(f:Æ)(f1:(List BB))(f2:(List Az))(f3:Int)(s:(List Aa))(r:Int)(h:DB n q q1 p p1 f f1 f2 f3 s=some r):Jv Tryz.prog 64 [hC s,.fn 45 [.ptr 3 0]] [[iP q,iP q1],[iP p,iP p1],[Bi,Dg],[tP f,hA f1,hF f2,iP f3]] (.ret (iP r)) [[iP q,iP q1],[iP p,iP p1],[Bi,Dg],[tP f,hA f1,hF f2,iP f3]]:=by
 unfold DB at h
 refine vS ⟨[0,1,4,5,7,8,9,16],[]⟩ Tryz.func64 follows fun Q hQ=>?_
 refine mI 2 [(2,fl Ap s)] h (fun _=>⟨[(4,iP 0)],[[iP q,iP q1],[iP p,iP p1],[Bi,Dg],[tP f,hA f1,hF f2,iP f3]]⟩) ?_ fun y e h hJ=>?_
 rintro _ h
 cases h
 exact rt 1 [] hQ
 refine lF 1 [] (A:=Int) (fun n v8=>Cg n s q q1 p p1 f f1 f2 f3 v8) (fun v8=>⟨[(0,hC s),(1,.fn 45 [.ptr 3 0]),(4,iP 0),(7,iP (s.length:Int)),(8,iP v8)],[[iP q,iP q1],[iP p,iP p1],[Bi,Dg],[tP f,hA f1,hF f2,iP f3]]⟩) 0 e (fun _=>rfl) ?_
 rintro n v8 e ih
 replace e:=(Cg.eq_2 ..).symm.trans e
 refine cD 1 [] e (fun hc2 e=>?_) fun hc2 e=>?_
 obtain⟨x,hx,e⟩:=Ae e
 obtain⟨c,hc,e⟩:=Ae e
 refine cD 3 [(5,fi Ap hx),(1,fs (JX _ _ _ _ _ _ _ _ _ _ hc))] e (fun hc1 e=>?_) fun hc1 e=>?_
 cases e
 cases h
 exact rt 1 [] hQ
 exact mJ 1 [] (ih _ e)
 exact mJ 1 [] (hJ _ (oj e))
theorem Hm (n:Nat)(q:Int)(q1:Int)(p:Int)(p1:Int)(f:Æ)(f1:(List BB))(f2:(List Az))(f3:Int)(s:(List Aa))(r:Bool)(h:CQ n q q1 p p1 f f1 f2 f3 s=some r):Jv Tryz.prog 37 [hC s,.fn 45 [.ptr 3 0]] [[iP q,iP q1],[iP p,iP p1],[Bi,Dg],[tP f,hA f1,hF f2,iP f3]] (.ret (bP r)) [[iP q,iP q1],[iP p,iP p1],[Bi,Dg],[tP f,hA f1,hF f2,iP f3]]:=by
 unfold CQ at h
 refine vS ⟨[0,1,4],[]⟩ Tryz.func37 follows fun Q hQ=>?_
 obtain⟨c,hc,h⟩:=Ae h
 cases h
 exact rt 2 [(3,fs (HZ _ _ _ _ _ _ _ _ _ _ _ hc))] hQ
theorem M5 (q:Int)(q1:Int)(p:Int)(p1:Int)(f:Æ)(f1:(List BB))(f2:(List Az))(f3:Int)(c:Æ)(c1:Int)(c2:Int)(c3:Int)(c4:Int)(c5:Int)(c6:Æ)(c7:(List Ag))(c8:Int)(c9:Int)(c10:Int)(c11:Æ)(c12:(List Ag))(c13:Int)(c14:Int)(c15:Int)(c16:Æ)(c17:(List Ag))(c18:Int)(c19:Int)(r:Unit)(h:GO q q1 p p1 f f1 f2 f3 c c1 c2 c3 c4 c5 c6 c7 c8 c9 c10 c11 c12 c13 c14 c15 c16 c17 c18 c19=some r):Jv Tryz.prog 39 [.ptr 4 0] [[iP q,iP q1],[iP p,iP p1],[Bi,Dg],[tP f,hA f1,hF f2,iP f3],[tP c,iP c1,iP c2,iP c3,iP c4,iP c5,tP c6,hX c7,iP c8,iP c9,iP c10,tP c11,hX c12,iP c13,iP c14,iP c15,tP c16,hX c17,iP c18,iP c19]] (.ret (.tup [.agg [.ptr 4 4,.ptr 4 9,.ptr 4 14],.agg [iP 2,iP 2,iP 3]])) [[iP q,iP q1],[iP p,iP p1],[Bi,Dg],[tP f,hA f1,hF f2,iP f3],[tP c,iP c1,iP c2,iP c3,iP c4,iP c5,tP c6,hX c7,iP c8,iP c9,iP c10,tP c11,hX c12,iP c13,iP c14,iP c15,tP c16,hX c17,iP c18,iP c19]]:=by
 unfold GO at h
 refine vS ⟨[0,2,3],[(1,[9999,0,0,1,2,3,4,5,6,7,8,9,10,11,12])]⟩ Tryz.func39 follows fun Q hQ=>?_
 cases h
 exact rt 2 [] hQ
theorem NS (n:Nat)(src:Æ)(r:((List Aa)×An))(h:HN n src=some r):C9 Tryz.prog 22 [tP src] (.tup [hC r.1,.agg [iP r.2.At,iP r.2.E]]):=by
 unfold HN at h
 refine vP ⟨[0,2,3,4,5,6,7,9,10,11,12,13,14,15,16,17,18,19,20,21,23,31,34,35,36,37,45,51,58,101,102,103,104,149,154,169,170,171,185,191],[(3,[9999,0,0,1,2]),(11,[9999,0,0,1,2,3,4]),(13,[9999,0,0,1,2,3,4]),(15,[9999,0,0,1,2,3,4,5,6,7]),(16,[9999,0,0,1,2,3,4,5,6,7,8,9,10,11,12,13,14,15,16,17,18,19,20,21,22,23,24,25,26,27,28,29,30,31,32,33]),(23,[9999,0,0,1,2,3,4]),(25,[9999,1,4,0,1,2,3,4,5,6,7,8,9,10]),(31,[9995]),(33,[9999,0,0,1,2]),(35,[9999,0,0,1,2,3,4,5,6,7,8,9])]⟩ Tryz.func22 follows fun Q hQ=>?_
 obtain⟨f,hf,h⟩:=Ae h
 refine cD 3 [(3,fk (S8 _ _ _ hf))] h (fun hc35 h=>?_) fun hc35 h=>?_
 cases h
 exact rt 1 [] hQ
 obtain⟨u,hu,h⟩:=Ae h
 refine mI 3 [(0,fk PH),(4,fl EB f.1)] h (fun out=>⟨[(2,.sl [] .own),(3,.ptr 0 0),(7,oC out)],[[iP 0,iP 0],[iP f.2.At,iP f.2.E],[Bi,Dg]]⟩) ?_ fun y e h hJ=>?_
 rintro out h
 cases h
 exact rt 1 [] hQ
 refine lF 1 [] (A:=((List Aa)×Int)) (fun n (out1,v36)=>EL n f out1 v36) (fun (out1,v36)=>⟨[(2,.sl [] .own),(3,.ptr 0 0),(6,.ptr 2 0),(7,oC out1),(34,hF f.1),(35,iP (f.1.length:Int)),(36,iP v36)],[[iP 0,iP 0],[iP f.2.At,iP f.2.E],[Bi,Dg]]⟩) ([],0) e (fun _=>rfl) ?_
 rintro n ⟨out1,v36⟩ e ih
 replace e:=(EL.eq_2 ..).symm.trans e
 refine cD 1 [] e (fun hc34 e=>?_) fun hc34 e=>?_
 obtain⟨x,hx,e⟩:=Ae e
 obtain⟨s,hs,e⟩:=Ae e
 refine cD 5 [(0,fi EB hx),(4,fk (Ph _ _ _ hs))] e (fun hc33 e=>?_) fun hc33 e=>?_
 cases e
 cases h
 exact rt 1 [] hQ
 refine cD 1 [(1,fl Ap out1)] e (fun hc32 e=>?_) fun hc32 e=>?_
 cases e
 cases h
 exact rt 1 [] hQ
 obtain⟨c,hc,e⟩:=Ae e
 refine cD 1 [(2,fs (Hm _ _ _ _ _ _ _ _ _ _ _ hc))] e (fun hc31 e=>?_) fun hc31 e=>?_
 obtain⟨x1,hx1,e⟩:=Ae e
 cases e
 cases h
 exact rt 1 [(2,fi Bo hx1)] hQ
 obtain⟨x2,hx2,e⟩:=Ae e
 obtain⟨x3,hx3,e⟩:=Ae e
 obtain⟨x4,hx4,e⟩:=Ae e
 obtain⟨x5,hx5,e⟩:=Ae e
 obtain⟨x6,hx6,e⟩:=Ae e
 obtain⟨x7,hx7,e⟩:=Ae e
 refine mI 3 [(2,fi Bo hx2),(5,fi Bo hx3),(4,fi Bo hx4),(4,fi Bo hx5),(4,fi Bo hx6),(4,fi Bo hx7),(8,fl Bo x.Args)] e (fun c1=>⟨[(2,.sl [] .own),(3,.ptr 0 0),(6,.ptr 2 0),(7,oC out1),(9,.ptr 3 0),(12,.ptr 4 0),(34,hF f.1),(35,iP (f.1.length:Int)),(36,iP v36)],[[iP 0,iP 0],[iP f.2.At,iP f.2.E],[Bi,Dg],[tP x.Word,hA x.Args,hF x.Body,iP x.At],[tP x2.S,iP s.1,iP x3.N,iP x4.N,iP x5.E.Op,iP x5.E.N,tP x5.E.S,hX x5.E.Kids,iP x5.E.At,iP x6.E.Op,iP x6.E.N,tP x6.E.S,hX x6.E.Kids,iP x6.E.At,iP x7.E.Op,iP x7.E.N,tP x7.E.S,hX x7.E.Kids,iP x7.E.At,iP c1]]⟩) ?_ fun y1 e1 e hJ1=>?_
 rintro c1 e
 obtain⟨w,hw,e⟩:=Ae e
 refine mI 2 [(0,fs (M5 _ _ _ _ _ _ _ _ _ _ _ _ _ _ _ _ _ _ _ _ _ _ _ _ _ _ _ _ _ hw))] e (fun _=>⟨[(2,.sl [] .own),(3,.ptr 0 0),(6,.ptr 2 0),(7,oC out1),(12,.ptr 4 0),(34,hF f.1),(35,iP (f.1.length:Int)),(36,iP v36)],[[iP 0,iP 0],[iP f.2.At,iP f.2.E],[Bi,Dg],[tP x.Word,hA x.Args,hF x.Body,iP x.At],[tP x2.S,iP s.1,iP x3.N,iP x4.N,iP x5.E.Op,iP x5.E.N,tP x5.E.S,hX x5.E.Kids,iP x5.E.At,iP x6.E.Op,iP x6.E.N,tP x6.E.S,hX x6.E.Kids,iP x6.E.At,iP x7.E.Op,iP x7.E.N,tP x7.E.S,hX x7.E.Kids,iP x7.E.At,iP c1],[.ptr 4 4,.ptr 4 9,.ptr 4 14],[iP 2,iP 2,iP 3]]⟩) ?_ fun y2 e2 e hJ2=>?_
 rintro _ e
 obtain⟨l,hl,e⟩:=Ae e
 obtain⟨l1,hl1,e⟩:=Ae e
 exact mJ 2 [(2,fB Ap hl),(0,fa Ap hl1)] (ih (_,_) e)
 refine lF 1 [] (A:=Int) (fun n v170=>CI n x5 x6 x7 v170) (fun v170=>⟨[(2,.sl [] .own),(3,.ptr 0 0),(6,.ptr 2 0),(7,oC out1),(9,.ptr 3 0),(12,.ptr 4 0),(18,.ptr 6 0),(34,hF f.1),(35,iP (f.1.length:Int)),(36,iP v36),(169,.agg [.ptr 4 4,.ptr 4 9,.ptr 4 14]),(170,iP v170)],[[iP 0,iP 0],[iP f.2.At,iP f.2.E],[Bi,Dg],[tP x.Word,hA x.Args,hF x.Body,iP x.At],[tP x2.S,iP s.1,iP x3.N,iP x4.N,iP x5.E.Op,iP x5.E.N,tP x5.E.S,hX x5.E.Kids,iP x5.E.At,iP x6.E.Op,iP x6.E.N,tP x6.E.S,hX x6.E.Kids,iP x6.E.At,iP x7.E.Op,iP x7.E.N,tP x7.E.S,hX x7.E.Kids,iP x7.E.At,iP c1],[.ptr 4 4,.ptr 4 9,.ptr 4 14],[iP 2,iP 2,iP 3]]⟩) 0 e2 (fun _=>rfl) ?_
 rintro n v170 e2 ih1
 replace e2:=(CI.eq_2 ..).symm.trans e2
 replace e2:=Aj e2
 rcases e2 with⟨hc8,e2⟩|⟨hc8,e2⟩
 obtain rfl:=O7 hc8
 obtain⟨f3,hf3,e2⟩:=Ae e2
 refine wl 4 [] ?_
 refine xE 6 [.no,.no,.no,.no,.call (.tup [iP f3.1,.agg [iP f3.2.1.op,tP f3.2.1.name,hI f3.2.1.args,iP f3.2.1.kind,.fno (L4 f3.2.1.do_) (Kn f3.2.1.do_) (K9 f3.2.1.do_)],.agg [iP f3.2.2.At,iP f3.2.2.E]]),.no,.no,.no,.no,.no,.no,.no,.no,.no] ⟨[(2,.sl [] .own),(3,.ptr 0 0),(6,.ptr 2 0),(7,oC out1),(9,.ptr 3 0),(12,.ptr 4 0),(18,.ptr 6 0),(19,iP 0),(21,iP f3.1),(23,.ptr 8 0),(34,hF f.1),(35,iP (f.1.length:Int)),(36,iP v36),(169,.agg [.ptr 4 4,.ptr 4 9,.ptr 4 14]),(170,iP 0)],[[iP 0,iP 0],[iP f.2.At,iP f.2.E],[Bi,Dg],[tP x.Word,hA x.Args,hF x.Body,iP x.At],[tP x2.S,iP s.1,iP x3.N,iP x4.N,iP x5.E.Op,iP x5.E.N,tP x5.E.S,hX x5.E.Kids,iP x5.E.At,iP x6.E.Op,iP x6.E.N,tP x6.E.S,hX x6.E.Kids,iP x6.E.At,iP x7.E.Op,iP x7.E.N,tP x7.E.S,hX x7.E.Kids,iP x7.E.At,iP c1],[.ptr 4 4,.ptr 4 9,.ptr 4 14],[iP 2,iP 2,iP 3],[iP f3.2.1.op,tP f3.2.1.name,hI f3.2.1.args,iP f3.2.1.kind,.fno (L4 f3.2.1.do_) (Kn f3.2.1.do_) (K9 f3.2.1.do_)],[iP f3.2.2.At,iP f3.2.2.E]]⟩ (And.intro (And.intro (C1 x5.E f3 hf3) (And.intro True.intro (And.intro (And.intro True.intro True.intro) True.intro))) (And.intro (And.intro (And.intro (C1 x5.E f3 hf3) True.intro) (And.intro (And.intro (C1 x5.E f3 hf3) True.intro) True.intro)) (And.intro (And.intro (And.intro (C1 x5.E f3 hf3) (And.intro True.intro True.intro)) (And.intro (And.intro (C1 x5.E f3 hf3) True.intro) True.intro)) True.intro))) ?_
 refine cD 1 [] e2 (fun hc10 e2=>?_) fun hc10 e2=>?_
 cases e2
 cases e
 cases h
 exact rt 1 [] hQ
 refine cD 1 [] e2 (fun hc9 e2=>?_) fun hc9 e2=>?_
 cases e2
 cases e
 cases h
 exact rt 1 [(4,fi Bo hx5)] hQ
 exact mJ 1 [] (ih1 _ e2)
 replace e2:=Aj e2
 rcases e2 with⟨hc5,e2⟩|⟨hc5,e2⟩
 obtain rfl:=O7 hc5
 obtain⟨f2,hf2,e2⟩:=Ae e2
 refine wl 4 [] ?_
 refine xE 6 [.no,.no,.no,.no,.call (.tup [iP f2.1,.agg [iP f2.2.1.op,tP f2.2.1.name,hI f2.2.1.args,iP f2.2.1.kind,.fno (L4 f2.2.1.do_) (Kn f2.2.1.do_) (K9 f2.2.1.do_)],.agg [iP f2.2.2.At,iP f2.2.2.E]]),.no,.no,.no,.no,.no,.no,.no,.no,.no] ⟨[(2,.sl [] .own),(3,.ptr 0 0),(6,.ptr 2 0),(7,oC out1),(9,.ptr 3 0),(12,.ptr 4 0),(18,.ptr 6 0),(19,iP 1),(21,iP f2.1),(23,.ptr 8 0),(34,hF f.1),(35,iP (f.1.length:Int)),(36,iP v36),(169,.agg [.ptr 4 4,.ptr 4 9,.ptr 4 14]),(170,iP 1)],[[iP 0,iP 0],[iP f.2.At,iP f.2.E],[Bi,Dg],[tP x.Word,hA x.Args,hF x.Body,iP x.At],[tP x2.S,iP s.1,iP x3.N,iP x4.N,iP x5.E.Op,iP x5.E.N,tP x5.E.S,hX x5.E.Kids,iP x5.E.At,iP x6.E.Op,iP x6.E.N,tP x6.E.S,hX x6.E.Kids,iP x6.E.At,iP x7.E.Op,iP x7.E.N,tP x7.E.S,hX x7.E.Kids,iP x7.E.At,iP c1],[.ptr 4 4,.ptr 4 9,.ptr 4 14],[iP 2,iP 2,iP 3],[iP f2.2.1.op,tP f2.2.1.name,hI f2.2.1.args,iP f2.2.1.kind,.fno (L4 f2.2.1.do_) (Kn f2.2.1.do_) (K9 f2.2.1.do_)],[iP f2.2.2.At,iP f2.2.2.E]]⟩ (And.intro (And.intro (C1 x6.E f2 hf2) (And.intro True.intro (And.intro (And.intro True.intro True.intro) True.intro))) (And.intro (And.intro (And.intro (C1 x6.E f2 hf2) True.intro) (And.intro (And.intro (C1 x6.E f2 hf2) True.intro) True.intro)) (And.intro (And.intro (And.intro (C1 x6.E f2 hf2) (And.intro True.intro True.intro)) (And.intro (And.intro (C1 x6.E f2 hf2) True.intro) True.intro)) True.intro))) ?_
 refine cD 1 [] e2 (fun hc7 e2=>?_) fun hc7 e2=>?_
 cases e2
 cases e
 cases h
 exact rt 1 [] hQ
 refine cD 1 [] e2 (fun hc6 e2=>?_) fun hc6 e2=>?_
 cases e2
 cases e
 cases h
 exact rt 1 [(4,fi Bo hx6)] hQ
 exact mJ 1 [] (ih1 _ e2)
 replace e2:=Aj e2
 rcases e2 with⟨hc2,e2⟩|⟨hc2,e2⟩
 obtain rfl:=O7 hc2
 obtain⟨f1,hf1,e2⟩:=Ae e2
 refine wl 4 [] ?_
 refine xE 6 [.no,.no,.no,.no,.call (.tup [iP f1.1,.agg [iP f1.2.1.op,tP f1.2.1.name,hI f1.2.1.args,iP f1.2.1.kind,.fno (L4 f1.2.1.do_) (Kn f1.2.1.do_) (K9 f1.2.1.do_)],.agg [iP f1.2.2.At,iP f1.2.2.E]]),.no,.no,.no,.no,.no,.no,.no,.no,.no] ⟨[(2,.sl [] .own),(3,.ptr 0 0),(6,.ptr 2 0),(7,oC out1),(9,.ptr 3 0),(12,.ptr 4 0),(18,.ptr 6 0),(19,iP 2),(21,iP f1.1),(23,.ptr 8 0),(34,hF f.1),(35,iP (f.1.length:Int)),(36,iP v36),(169,.agg [.ptr 4 4,.ptr 4 9,.ptr 4 14]),(170,iP 2)],[[iP 0,iP 0],[iP f.2.At,iP f.2.E],[Bi,Dg],[tP x.Word,hA x.Args,hF x.Body,iP x.At],[tP x2.S,iP s.1,iP x3.N,iP x4.N,iP x5.E.Op,iP x5.E.N,tP x5.E.S,hX x5.E.Kids,iP x5.E.At,iP x6.E.Op,iP x6.E.N,tP x6.E.S,hX x6.E.Kids,iP x6.E.At,iP x7.E.Op,iP x7.E.N,tP x7.E.S,hX x7.E.Kids,iP x7.E.At,iP c1],[.ptr 4 4,.ptr 4 9,.ptr 4 14],[iP 2,iP 2,iP 3],[iP f1.2.1.op,tP f1.2.1.name,hI f1.2.1.args,iP f1.2.1.kind,.fno (L4 f1.2.1.do_) (Kn f1.2.1.do_) (K9 f1.2.1.do_)],[iP f1.2.2.At,iP f1.2.2.E]]⟩ (And.intro (And.intro (C1 x7.E f1 hf1) (And.intro True.intro (And.intro (And.intro True.intro True.intro) True.intro))) (And.intro (And.intro (And.intro (C1 x7.E f1 hf1) True.intro) (And.intro (And.intro (C1 x7.E f1 hf1) True.intro) True.intro)) (And.intro (And.intro (And.intro (C1 x7.E f1 hf1) (And.intro True.intro True.intro)) (And.intro (And.intro (C1 x7.E f1 hf1) True.intro) True.intro)) True.intro))) ?_
 refine cD 1 [] e2 (fun hc4 e2=>?_) fun hc4 e2=>?_
 cases e2
 cases e
 cases h
 exact rt 1 [] hQ
 refine cD 1 [] e2 (fun hc3 e2=>?_) fun hc3 e2=>?_
 cases e2
 cases e
 cases h
 exact rt 1 [(4,fi Bo hx7)] hQ
 exact mJ 1 [] (ih1 _ e2)
 replace e2:=Aj e2
 rcases e2 with⟨hc1,e2⟩|⟨hc1,e2⟩
 obtain rfl:=O7 hc1
 exact mJ 3 [] (hJ2 _ (oj e2))
 cases e2
 refine lF 1 [] (A:=(Int×Int×Int)) (fun n (v103,last,c2)=>D6 n x v103 last c2) (fun (v103,last,c2)=>⟨[(2,.sl [] .own),(3,.ptr 0 0),(6,.ptr 2 0),(7,oC out1),(9,.ptr 3 0),(12,.ptr 4 0),(13,iP last),(34,hF f.1),(35,iP (f.1.length:Int)),(36,iP v36),(101,hA x.Args),(102,iP (x.Args.length:Int)),(103,iP v103)],[[iP 0,iP 0],[iP f.2.At,iP f.2.E],[Bi,Dg],[tP x.Word,hA x.Args,hF x.Body,iP x.At],[tP x2.S,iP s.1,iP x3.N,iP x4.N,iP x5.E.Op,iP x5.E.N,tP x5.E.S,hX x5.E.Kids,iP x5.E.At,iP x6.E.Op,iP x6.E.N,tP x6.E.S,hX x6.E.Kids,iP x6.E.At,iP x7.E.Op,iP x7.E.N,tP x7.E.S,hX x7.E.Kids,iP x7.E.At,iP c2]]⟩) (0,-1,0) e1 (fun _=>rfl) ?_
 rintro n ⟨v103,last,c2⟩ e1 ih2
 replace e1:=(D6.eq_2 ..).symm.trans e1
 refine cD 1 [] e1 (fun hc30 e1=>?_) fun hc30 e1=>?_
 obtain⟨x8,hx8,e1⟩:=Ae e1
 refine mE 2 [(1,fi Bo hx8)] e1 (fun odd=>⟨[(2,.sl [] .own),(3,.ptr 0 0),(6,.ptr 2 0),(7,oC out1),(9,.ptr 3 0),(12,.ptr 4 0),(13,iP last),(14,iP v103),(15,.ptr 5 0),(16,bP odd),(34,hF f.1),(35,iP (f.1.length:Int)),(36,iP v36),(101,hA x.Args),(102,iP (x.Args.length:Int)),(103,iP v103)],[[iP 0,iP 0],[iP f.2.At,iP f.2.E],[Bi,Dg],[tP x.Word,hA x.Args,hF x.Body,iP x.At],[tP x2.S,iP s.1,iP x3.N,iP x4.N,iP x5.E.Op,iP x5.E.N,tP x5.E.S,hX x5.E.Kids,iP x5.E.At,iP x6.E.Op,iP x6.E.N,tP x6.E.S,hX x6.E.Kids,iP x6.E.At,iP x7.E.Op,iP x7.E.N,tP x7.E.S,hX x7.E.Kids,iP x7.E.At,iP c2],[iP x8.Kind,iP x8.N,tP x8.S,iP x8.E.Op,iP x8.E.N,tP x8.E.S,hX x8.E.Kids,iP x8.E.At,iP x8.At]]⟩) ?_ fun y3 e3 hJ3=>?_
 rintro odd e1
 refine cD 1 [] e1 (fun hc12 e1=>?_) fun hc12 e1=>?_
 cases e1
 cases e
 cases h
 exact rt 1 [] hQ
 refine cD 1 [] e1 (fun hc11 e1=>?_) fun hc11 e1=>?_
 obtain⟨q,hq,e1⟩:=Ae e1
 exact mJ 2 [(4,fN .i64 hq)] (ih2 (_,_,_) e1)
 exact mJ 1 [] (ih2 (_,_,_) e1)
 rcases Aj e3 with⟨hc13,e3⟩|⟨hc13,e3⟩
 rcases Aj e3 with⟨hc14,e3⟩|⟨hc14,e3⟩
 exact mJ 1 [(2,fo hc13),(3,fo hc14)] (hJ3 _ (oj e3))
 rcases Aj e3 with⟨hc15,e3⟩|⟨hc15,e3⟩
 exact mJ 1 [(2,fo hc13),(3,fo hc14),(5,fo hc15)] (hJ3 _ (oj e3))
 rcases Aj e3 with⟨hc16,e3⟩|⟨hc16,e3⟩
 rcases Aj e3 with⟨hc17,e3⟩|⟨hc17,e3⟩
 exact mJ 1 [(2,fo hc13),(3,fo hc14),(5,fo hc15),(2,fo hc16),(3,fo hc17)] (hJ3 _ (oj e3))
 rcases Aj e3 with⟨hc18,e3⟩|⟨hc18,e3⟩
 exact mJ 1 [(2,fo hc13),(3,fo hc14),(5,fo hc15),(2,fo hc16),(3,fo hc17),(6,fo hc18)] (hJ3 _ (oj e3))
 rcases Aj e3 with⟨hc19,e3⟩|⟨hc19,e3⟩
 rcases Aj e3 with⟨hc20,e3⟩|⟨hc20,e3⟩
 exact mJ 1 [(2,fo hc13),(3,fo hc14),(5,fo hc15),(2,fo hc16),(3,fo hc17),(6,fo hc18),(2,fo hc19),(4,fo hc20)] (hJ3 _ (oj e3))
 exact mJ 1 [(2,fo hc13),(3,fo hc14),(5,fo hc15),(2,fo hc16),(3,fo hc17),(6,fo hc18),(2,fo hc19),(4,fo hc20)] (hJ3 _ (oj e3))
 exact mJ 1 [(2,fo hc13),(3,fo hc14),(5,fo hc15),(2,fo hc16),(3,fo hc17),(6,fo hc18),(2,fo hc19)] (hJ3 _ (oj e3))
 rcases Aj e3 with⟨hc21,e3⟩|⟨hc21,e3⟩
 rcases Aj e3 with⟨hc22,e3⟩|⟨hc22,e3⟩
 exact mJ 1 [(2,fo hc13),(3,fo hc14),(5,fo hc15),(2,fo hc16),(13,fo hc21),(4,fo hc22)] (hJ3 _ (oj e3))
 exact mJ 1 [(2,fo hc13),(3,fo hc14),(5,fo hc15),(2,fo hc16),(13,fo hc21),(4,fo hc22)] (hJ3 _ (oj e3))
 exact mJ 1 [(2,fo hc13),(3,fo hc14),(5,fo hc15),(2,fo hc16),(13,fo hc21)] (hJ3 _ (oj e3))
 rcases Aj e3 with⟨hc23,e3⟩|⟨hc23,e3⟩
 rcases Aj e3 with⟨hc24,e3⟩|⟨hc24,e3⟩
 exact mJ 1 [(2,fo hc13),(12,fo hc23),(3,fo hc24)] (hJ3 _ (oj e3))
 rcases Aj e3 with⟨hc25,e3⟩|⟨hc25,e3⟩
 exact mJ 1 [(2,fo hc13),(12,fo hc23),(3,fo hc24),(6,fo hc25)] (hJ3 _ (oj e3))
 rcases Aj e3 with⟨hc26,e3⟩|⟨hc26,e3⟩
 rcases Aj e3 with⟨hc27,e3⟩|⟨hc27,e3⟩
 exact mJ 1 [(2,fo hc13),(12,fo hc23),(3,fo hc24),(6,fo hc25),(2,fo hc26),(4,fo hc27)] (hJ3 _ (oj e3))
 exact mJ 1 [(2,fo hc13),(12,fo hc23),(3,fo hc24),(6,fo hc25),(2,fo hc26),(4,fo hc27)] (hJ3 _ (oj e3))
 exact mJ 1 [(2,fo hc13),(12,fo hc23),(3,fo hc24),(6,fo hc25),(2,fo hc26)] (hJ3 _ (oj e3))
 rcases Aj e3 with⟨hc28,e3⟩|⟨hc28,e3⟩
 rcases Aj e3 with⟨hc29,e3⟩|⟨hc29,e3⟩
 exact mJ 1 [(2,fo hc13),(12,fo hc23),(13,fo hc28),(4,fo hc29)] (hJ3 _ (oj e3))
 exact mJ 1 [(2,fo hc13),(12,fo hc23),(13,fo hc28),(4,fo hc29)] (hJ3 _ (oj e3))
 exact mJ 1 [(2,fo hc13),(12,fo hc23),(13,fo hc28)] (hJ3 _ (oj e3))
 exact mJ 1 [] (hJ1 _ (oj e1))
 exact mJ 1 [] (hJ _ (oj e))
end Go.Proofs.YtehfpameijkafaaGreatDoor
namespace Go.Proofs.YtehfpameijkafaaGreatDoor
open Go.RowKit Go.Q Go.Vl Go.Sp
set_option maxRecDepth 100000
set_option linter.unusedSimpArgs false
set_option maxHeartbeats 4000000
set_option linter.unusedVariables false
theorem TV (c:Aa)(k:Int)(r:Ag)(h:IA c k=some r):C9 Tryz.prog 47 [.agg [tP c.Name,iP c.Kind,iP c.Rank,iP c.Known,iP c.From.Op,iP c.From.N,tP c.From.S,hX c.From.Kids,iP c.From.At,iP c.To.Op,iP c.To.N,tP c.To.S,hX c.To.Kids,iP c.To.At,iP c.When.Op,iP c.When.N,tP c.When.S,hX c.When.Kids,iP c.When.At,iP c.Houses],iP k] (.agg [iP r.Op,iP r.N,tP r.S,hX r.Kids,iP r.At]):=by
 unfold IA at h
 refine vP ⟨[0,1,2,4,6,10],[]⟩ Tryz.func47 follows fun Q hQ=>?_
 refine cD 2 [] h (fun hc1 h=>?_) fun hc1 h=>?_
 cases h
 exact rt 1 [] hQ
 refine cD 1 [] h (fun hc h=>?_) fun hc h=>?_
 cases h
 exact rt 1 [] hQ
 cases h
 exact rt 1 [] hQ
theorem Ry (n0:Nat)
 (ih_ref33_left:∀ m,m<=n0->∀ (e:Ag) (n_:Int) (r:Int),BP m e n_=some r->C9 Tryz.prog 46 [.agg [iP e.Op,iP e.N,tP e.S,hX e.Kids,iP e.At],iP n_] (iP r))
 (n:Nat) (hn:n<=n0) (e:Ag) (n_:Int) (r:Int) (h:BP (n+1) e n_=some r):C9 Tryz.prog 46 [.agg [iP e.Op,iP e.N,tP e.S,hX e.Kids,iP e.At],iP n_] (iP r):=by
 replace h:=(BP.eq_2 ..).symm.trans h
 refine vP ⟨[0,1,2,4,5,16],[]⟩ Tryz.func46 follows fun Q hQ=>?_
 refine mE 3 [] h (fun n_1=>⟨[(1,iP n_1),(4,iP 0)],[[iP e.Op,iP e.N,tP e.S,hX e.Kids,iP e.At]]⟩) ?_ fun y e1 hJ=>?_
 rintro n_1 h
 cases h
 exact rt 1 [] hQ
 refine lR 1 [] (A:=(Int×Int)) (fun n (n_2,k)=>C2 n e n_2 k) (fun (n_2,k)=>⟨[(1,iP n_2),(2,.ptr 0 0),(4,iP 0),(5,iP k)],[[iP e.Op,iP e.N,tP e.S,hX e.Kids,iP e.At]]⟩) ((À (n_-1)),0) hn e1 (fun _=>rfl) ?_
 rintro n ⟨n_2,k⟩ hn e1 ih
 replace e1:=(C2.eq_2 ..).symm.trans e1
 refine mE 0 [] e1 (fun v16=>⟨[(1,iP n_2),(2,.ptr 0 0),(4,iP 0),(5,iP k),(16,bP v16)],[[iP e.Op,iP e.N,tP e.S,hX e.Kids,iP e.At]]⟩) ?_ fun y1 e2 hJ1=>?_
 rintro v16 e1
 refine cD 0 [] e1 (fun hc e1=>?_) fun hc e1=>?_
 obtain⟨x,hx,e1⟩:=Ae e1
 obtain⟨n_3,hn_3,e1⟩:=Ae e1
 exact mJ 3 [(3,fi B2 hx),(2,fk (ih_ref33_left _ hn _ _ _ hn_3))] (ih (_,_) e1)
 exact mJ 1 [] (hJ _ (oj e1))
 rcases Aj e2 with⟨hc1,e2⟩|⟨hc1,e2⟩
 exact mJ 1 [(3,fl B2 e.Kids),(1,fo hc1)] (hJ1 _ (oj e2))
 exact mJ 1 [(3,fl B2 e.Kids),(1,fo hc1)] (hJ1 _ (oj e2))
theorem Lk:∀ n:Nat,(∀ m,m<=n->∀ (e:Ag) (n_:Int) (r:Int),BP m e n_=some r->C9 Tryz.prog 46 [.agg [iP e.Op,iP e.N,tP e.S,hX e.Kids,iP e.At],iP n_] (iP r))
 |0=>(fun m hm e n_ r h=>by
  obtain rfl:m=0:=by omega
  exact absurd h (by simp [BP]))
 |n+1=>by
  have ih:=Lk n
  exact fun m hm e n_ r h=>by
   cases m with
   |zero=>exact absurd h (by simp [BP])
   |succ m=>exact Ry n (ih) m (by omega) e n_ _ h
theorem TW (n:Nat)(e:Ag)(n_:Int)(r:Int)(h:BP n e n_=some r):C9 Tryz.prog 46 [.agg [iP e.Op,iP e.N,tP e.S,hX e.Kids,iP e.At],iP n_] (iP r) :=
 (Lk n) n (Þ _) e n_ r h
theorem JY (n:Nat)(l:(List Aa))(n_:Int)(r:Bool)(h:J5 n l n_=some r):C9 Tryz.prog 25 [hC l,iP n_] (bP r):=by
 unfold J5 at h
 refine vP ⟨[0,1,4,5,6,9,17,25],[]⟩ Tryz.func25 follows fun Q hQ=>?_
 refine cD 2 [(2,fl Ap l)] h (fun hc4 h=>?_) fun hc4 h=>?_
 cases h
 exact rt 1 [] hQ
 refine mE 1 [] h (fun n_1=>⟨[(1,iP n_1),(4,bP false)],[]⟩) ?_ fun y e hJ=>?_
 rintro n_1 h
 cases h
 exact rt 1 [] hQ
 refine lF 1 [] (A:=(Int×Int)) (fun n (n_2,i)=>Dt n l n_2 i) (fun (n_2,i)=>⟨[(0,hC l),(1,iP n_2),(4,bP false),(5,iP i)],[]⟩) (n_,0) e (fun _=>rfl) ?_
 rintro n ⟨n_2,i⟩ e ih
 replace e:=(Dt.eq_2 ..).symm.trans e
 refine mE 0 [] e (fun v17=>⟨[(0,hC l),(1,iP n_2),(4,bP false),(5,iP i),(17,bP v17)],[]⟩) ?_ fun y1 e1 hJ1=>?_
 rintro v17 e
 refine cD 0 [] e (fun hc2 e=>?_) fun hc2 e=>?_
 refine mE 2 [] e (fun n_3=>⟨[(0,hC l),(1,iP n_3),(4,bP false),(5,iP i)],[]⟩) ?_ fun y2 e2 hJ2=>?_
 rintro n_3 e
 exact mJ 1 [] (ih (_,_) e)
 refine lF 1 [] (A:=(Int×Int)) (fun n (n_4,k)=>BR n l i n_4 k) (fun (n_4,k)=>⟨[(0,hC l),(1,iP n_4),(4,bP false),(5,iP i),(6,iP k)],[]⟩) (n_2,0) e2 (fun _=>rfl) ?_
 rintro n ⟨n_4,k⟩ e2 ih1
 replace e2:=(BR.eq_2 ..).symm.trans e2
 refine mE 0 [] e2 (fun v25=>⟨[(0,hC l),(1,iP n_4),(4,bP false),(5,iP i),(6,iP k),(25,bP v25)],[]⟩) ?_ fun y3 e3 hJ3=>?_
 rintro v25 e2
 refine cD 0 [] e2 (fun hc e2=>?_) fun hc e2=>?_
 obtain⟨x,hx,e2⟩:=Ae e2
 obtain⟨p,hp,e2⟩:=Ae e2
 obtain⟨n_5,hn_5,e2⟩:=Ae e2
 exact mJ 3 [(2,fi Ap hx),(2,fk (TV _ _ _ hp)),(1,fk (TW _ _ _ _ hn_5))] (ih1 (_,_) e2)
 exact mJ 1 [] (hJ2 _ (oj e2))
 rcases Aj e3 with⟨hc1,e3⟩|⟨hc1,e3⟩
 exact mJ 1 [(2,fo hc1)] (hJ3 _ (oj e3))
 exact mJ 1 [(2,fo hc1)] (hJ3 _ (oj e3))
 exact mJ 1 [] (hJ _ (oj e))
 rcases Aj e1 with⟨hc3,e1⟩|⟨hc3,e1⟩
 exact mJ 1 [(2,fl Ap l),(1,fo hc3)] (hJ1 _ (oj e1))
 exact mJ 1 [(2,fl Ap l),(1,fo hc3)] (hJ1 _ (oj e1))
end Go.Proofs.YtehfpameijkafaaGreatDoor
namespace Go.Proofs.YtehfpameijkafaaGreatDoor
open Go.RowKit Go.Q Go.Vl Go.Sp
set_option maxRecDepth 100000
set_option linter.unusedSimpArgs false
set_option maxHeartbeats 4000000
set_option linter.unusedVariables false
theorem TU (n:Nat)(a_:Bq)(b:Bq)(r:Bool)(h:MG n a_ b=some r):C9 Tryz.prog 18 [.agg [iP a_.State,iP a_.Houses,hI a_.By],.agg [iP b.State,iP b.Houses,hI b.By]] (bP r):=by
 unfold MG at h
 refine vP ⟨[0,1,2,3,4,5,26,31,44],[(6,[9999,0,0,1,2,3,4,5,6,7,8,9,10])]⟩ Tryz.func18 follows fun Q hQ=>?_
 refine mE 1 [] h (fun v26=>⟨[(2,.ptr 0 0),(3,.ptr 1 0),(4,bP false),(26,bP v26)],[[iP a_.State,iP a_.Houses,hI a_.By],[iP b.State,iP b.Houses,hI b.By]]⟩) ?_ fun y e hJ=>?_
 rintro v26 h
 refine cD 0 [] h (fun hc2 h=>?_) fun hc2 h=>?_
 cases h
 exact rt 1 [] hQ
 refine mI 1 [] h (fun _=>⟨[(4,bP false)],[[iP a_.State,iP a_.Houses,hI a_.By],[iP b.State,iP b.Houses,hI b.By]]⟩) ?_ fun y1 e1 h hJ1=>?_
 rintro _ h
 cases h
 exact rt 1 [] hQ
 refine lF 1 [] (A:=Int) (fun n k=>Hy n a_ b k) (fun k=>⟨[(2,.ptr 0 0),(3,.ptr 1 0),(4,bP false),(5,iP k)],[[iP a_.State,iP a_.Houses,hI a_.By],[iP b.State,iP b.Houses,hI b.By]]⟩) 0 e1 (fun _=>rfl) ?_
 rintro n k e1 ih
 replace e1:=(Hy.eq_2 ..).symm.trans e1
 refine cD 1 [(3,fl Ar a_.By)] e1 (fun hc1 e1=>?_) fun hc1 e1=>?_
 obtain⟨x,hx,e1⟩:=Ae e1
 obtain⟨x1,hx1,e1⟩:=Ae e1
 refine cD 2 [(3,fi Ar hx),(4,fi Ar hx1)] e1 (fun hc e1=>?_) fun hc e1=>?_
 cases e1
 cases h
 exact rt 1 [] hQ
 exact mJ 1 [] (ih _ e1)
 exact mJ 1 [] (hJ1 _ (oj e1))
 rcases Aj e with⟨hc3,e⟩|⟨hc3,e⟩
 exact mJ 1 [(5,fo hc3)] (hJ _ (oj e))
 rcases Aj e with⟨hc4,e⟩|⟨hc4,e⟩
 exact mJ 1 [(5,fo hc3),(6,fo hc4)] (hJ _ (oj e))
 exact mJ 1 [(5,fo hc3),(6,fo hc4),(2,fl Ar a_.By),(2,fl Ar b.By)] (hJ _ (oj e))
theorem BE (n:Nat)(a_:(List Bb))(b:(List Bb))(r:Bool)(h:Ga n a_ b=some r):C9 Tryz.prog 19 [hX8 a_,hX8 b] (bP r):=by
 unfold Ga at h
 refine vP ⟨[0,1,4,5,10,14,25],[(6,[9999,0,0,1,2,3,4,5,6,7,8])]⟩ Tryz.func19 follows fun Q hQ=>?_
 refine cD 2 [(2,fl CS a_),(1,fl CS b)] h (fun hc2 h=>?_) fun hc2 h=>?_
 cases h
 exact rt 1 [] hQ
 refine mI 1 [] h (fun _=>⟨[(4,bP false)],[]⟩) ?_ fun y e h hJ=>?_
 rintro _ h
 cases h
 exact rt 1 [] hQ
 refine lF 1 [] (A:=Int) (fun n k=>Ds n a_ b k) (fun k=>⟨[(0,hX8 a_),(1,hX8 b),(4,bP false),(5,iP k)],[]⟩) 0 e (fun _=>rfl) ?_
 rintro n k e ih
 replace e:=(Ds.eq_2 ..).symm.trans e
 refine cD 1 [(2,fl CS a_)] e (fun hc1 e=>?_) fun hc1 e=>?_
 obtain⟨x,hx,e⟩:=Ae e
 obtain⟨x1,hx1,e⟩:=Ae e
 refine cD 2 [(2,fi CS hx),(3,fi CS hx1)] e (fun hc e=>?_) fun hc e=>?_
 cases e
 cases h
 exact rt 1 [] hQ
 exact mJ 1 [] (ih _ e)
 exact mJ 1 [] (hJ _ (oj e))
theorem JZ (n:Nat)(l:(List Aa))(d:Am)(r:Bool)(h:Il n l d=some r):C9 Tryz.prog 8 [hC l,.agg [hZ d.Facts,iP d.Stored,iP d.Owner]] (bP r):=by
 unfold Il at h
 refine vP ⟨[0,1,3,4],[]⟩ Tryz.func8 follows fun Q hQ=>?_
 refine mE 1 [] h (fun v4=>⟨[(4,bP v4)],[[hZ d.Facts,iP d.Stored,iP d.Owner]]⟩) ?_ fun y e hJ=>?_
 rintro v4 h
 cases h
 exact rt 0 [] hQ
 obtain⟨f,hf,e⟩:=Ae e
 rcases Aj e with⟨hc,e⟩|⟨hc,e⟩
 rcases Aj e with⟨hc1,e⟩|⟨hc1,e⟩
 exact mJ 1 [(1,fk (JY _ _ _ _ hf)),(0,fo hc),(2,fl Ch d.Facts),(1,fo hc1)] (hJ _ (oj e))
 rcases Aj e with⟨hc2,e⟩|⟨hc2,e⟩
 exact mJ 1 [(1,fk (JY _ _ _ _ hf)),(0,fo hc),(2,fl Ch d.Facts),(1,fo hc1),(2,fl Ch d.Facts),(1,fo hc2),(2,fl Ch d.Facts)] (hJ _ (oj e))
 exact mJ 1 [(1,fk (JY _ _ _ _ hf)),(0,fo hc),(2,fl Ch d.Facts),(1,fo hc1),(2,fl Ch d.Facts),(1,fo hc2)] (hJ _ (oj e))
 exact mJ 1 [(1,fk (JY _ _ _ _ hf)),(0,fo hc)] (hJ _ (oj e))
theorem Ey (n:Nat)(l:(List Aa))(d:Am)(day:Int)(known:Int)(want:Bq)(r:Bool)(h:GX n l d day known want=some r):C9 Tryz.prog 26 [hC l,.agg [hZ d.Facts,iP d.Stored,iP d.Owner],iP day,iP known,.agg [iP want.State,iP want.Houses,hI want.By]] (bP r):=by
 unfold GX at h
 refine vP ⟨[0,1,2,3,4,6,9,10,11,12],[]⟩ Tryz.func26 follows fun Q hQ=>?_
 obtain⟨a_,ha_,h⟩:=Ae h
 refine mE 2 [(7,fk (I3 _ _ _ _ _ _ ha_))] h (fun v10=>⟨[(10,bP v10)],[[hZ d.Facts,iP d.Stored,iP d.Owner],[iP want.State,iP want.Houses,hI want.By],[iP a_.1.State,iP a_.1.Houses,hI a_.1.By]]⟩) ?_ fun y e hJ=>?_
 rintro v10 h
 cases h
 exact rt 0 [] hQ
 rcases Aj e with⟨hc,e⟩|⟨hc,e⟩
 obtain⟨s,hs,e⟩:=Ae e
 exact mJ 1 [(2,fo hc),(2,fk (TU _ _ _ _ hs))] (hJ _ (oj e))
 exact mJ 1 [(2,fo hc)] (hJ _ (oj e))
theorem Mp (n:Nat)(l:(List Aa))(d:Am)(day:Int)(known:Int)(want:Bq)(r:Bool)(h:GX n l d day known want=some r)(hw:want.By=[]):C9 Tryz.prog 26 [hC l,.agg [hZ d.Facts,iP d.Stored,iP d.Owner],iP day,iP known,.agg [iP want.State,iP want.Houses,.sl [] .nil]] (bP r):=by
 have h0:=Ey n l d day known want r h
 rw [hw] at h0
 intro σ w G vs h1 h2 h3 h4 h5
 refine h0 σ w G vs h1 h2 (fun i hi=>?_) h4 h5
 have h6:=h3 i hi
 match i,hi,h6 with
 |0,_,h6=>exact h6
 |1,_,h6=>exact h6
 |2,_,h6=>exact h6
 |3,_,h6=>exact h6
 |4,_,h6 =>
  revert h6
  show V w G.U G.φ (.agg [iP want.State,iP want.Houses,.sl [] .nil]) _->V w G.U G.φ (.agg [iP want.State,iP want.Houses,.sl [] .shared]) _
  generalize vs.getD 4 Go.undef=z
  intro h6
  cases h6 with
  |agg _ _ arr hn hh h1 =>
   refine .agg _ _ arr hn (fun j hj=>?_) h1
   have:=hh j hj
   match j,hj,this with
   |0,_,k=>exact k
   |1,_,k=>exact k
   |2,_,k=>exact C0 (p:=.sl [] .nil) k
theorem R0 (n:Nat)(r:Bool)(h:Kj n=some r):C9 Tryz.prog 9 [] (bP r):=by
 unfold Kj at h
 refine vP ⟨[0,1,2,3,4,5,6,7,8,9,10,11,12,13,14,15],[]⟩ Tryz.func9 follows fun Q hQ=>?_
 obtain⟨c,hc,h⟩:=Ae h
 obtain⟨l,hl,h⟩:=Ae h
 refine mE 3 [(1,fk (NS _ _ _ hc)),(7,fB Ch hl)] h (fun one=>⟨[(0,bP false),(1,hC c.1),(3,.ptr 1 0),(4,bP one)],[[iP c.2.At,iP c.2.E],[hZ l,iP 10,iP 4]]⟩) ?_ fun y e hJ=>?_
 rintro one h
 refine mE 0 [] h (fun two=>⟨[(0,bP false),(1,hC c.1),(3,.ptr 1 0),(4,bP one),(5,bP two)],[[iP c.2.At,iP c.2.E],[hZ l,iP 10,iP 4]]⟩) ?_ fun y1 e1 hJ1=>?_
 rintro two h
 obtain⟨s,hs,h⟩:=Ae h
 obtain⟨b,hb,h⟩:=Ae h
 obtain⟨l1,hl1,h⟩:=Ae h
 obtain⟨l2,hl2,h⟩:=Ae h
 obtain⟨l3,hl3,h⟩:=Ae h
 refine mE 5 [(2,fk (K4 _ _ _ _ _ hs)),(7,fk (SA _ _ _ _ _ hb)),(9,fk (Mq _ _ _ _ _ _ hl1)),(7,fk (Mq _ _ _ _ _ _ hl2)),(10,fB CS hl3)] h (fun v0_=>⟨[(0,bP v0_)],[[iP c.2.At,iP c.2.E],[hZ l,iP 10,iP 4]]⟩) ?_ fun y2 e2 hJ2=>?_
 rintro v0_ h
 cases h
 exact rt 0 [] hQ
 rcases Aj e2 with⟨hc1,e2⟩|⟨hc1,e2⟩
 rcases Aj e2 with⟨hc2,e2⟩|⟨hc2,e2⟩
 rcases Aj e2 with⟨hc3,e2⟩|⟨hc3,e2⟩
 obtain⟨s1,hs1,e2⟩:=Ae e2
 rcases Aj e2 with⟨hc4,e2⟩|⟨hc4,e2⟩
 rcases Aj e2 with⟨hc5,e2⟩|⟨hc5,e2⟩
 rcases Aj e2 with⟨hc6,e2⟩|⟨hc6,e2⟩
 rcases Aj e2 with⟨hc7,e2⟩|⟨hc7,e2⟩
 rcases Aj e2 with⟨hc8,e2⟩|⟨hc8,e2⟩
 rcases Aj e2 with⟨hc9,e2⟩|⟨hc9,e2⟩
 rcases Aj e2 with⟨hc10,e2⟩|⟨hc10,e2⟩
 exact mJ 1 [(1,fo hc1),(2,fo hc2),(3,fo hc3),(2,fk (BE _ _ _ _ hs1)),(1,fo hc4),(3,fo hc5),(3,fo hc6),(3,fo hc7),(3,fo hc8),(3,fo hc9),(3,fo hc10)] (hJ2 _ (oj e2))
 exact mJ 1 [(1,fo hc1),(2,fo hc2),(3,fo hc3),(2,fk (BE _ _ _ _ hs1)),(1,fo hc4),(3,fo hc5),(3,fo hc6),(3,fo hc7),(3,fo hc8),(3,fo hc9),(3,fo hc10)] (hJ2 _ (oj e2))
 exact mJ 1 [(1,fo hc1),(2,fo hc2),(3,fo hc3),(2,fk (BE _ _ _ _ hs1)),(1,fo hc4),(3,fo hc5),(3,fo hc6),(3,fo hc7),(3,fo hc8),(3,fo hc9)] (hJ2 _ (oj e2))
 exact mJ 1 [(1,fo hc1),(2,fo hc2),(3,fo hc3),(2,fk (BE _ _ _ _ hs1)),(1,fo hc4),(3,fo hc5),(3,fo hc6),(3,fo hc7),(3,fo hc8)] (hJ2 _ (oj e2))
 exact mJ 1 [(1,fo hc1),(2,fo hc2),(3,fo hc3),(2,fk (BE _ _ _ _ hs1)),(1,fo hc4),(3,fo hc5),(3,fo hc6),(3,fo hc7)] (hJ2 _ (oj e2))
 exact mJ 1 [(1,fo hc1),(2,fo hc2),(3,fo hc3),(2,fk (BE _ _ _ _ hs1)),(1,fo hc4),(3,fo hc5),(3,fo hc6)] (hJ2 _ (oj e2))
 exact mJ 1 [(1,fo hc1),(2,fo hc2),(3,fo hc3),(2,fk (BE _ _ _ _ hs1)),(1,fo hc4),(3,fo hc5)] (hJ2 _ (oj e2))
 exact mJ 1 [(1,fo hc1),(2,fo hc2),(3,fo hc3),(2,fk (BE _ _ _ _ hs1)),(1,fo hc4)] (hJ2 _ (oj e2))
 exact mJ 1 [(1,fo hc1),(2,fo hc2),(3,fo hc3)] (hJ2 _ (oj e2))
 exact mJ 1 [(1,fo hc1),(2,fo hc2)] (hJ2 _ (oj e2))
 exact mJ 1 [(1,fo hc1)] (hJ2 _ (oj e2))
 obtain⟨l4,hl4,e1⟩:=Ae e1
 obtain⟨i,hi,e1⟩:=Ae e1
 rcases Aj e1 with⟨hc11,e1⟩|⟨hc11,e1⟩
 obtain⟨l5,hl5,e1⟩:=Ae e1
 obtain⟨i1,hi1,e1⟩:=Ae e1
 rcases Aj e1 with⟨hc12,e1⟩|⟨hc12,e1⟩
 obtain⟨l6,hl6,e1⟩:=Ae e1
 obtain⟨i2,hi2,e1⟩:=Ae e1
 exact mJ 1 [(2,fB Ar hl4),(1,fk (Ey _ _ _ _ _ _ _ hi)),(0,fo hc11),(2,fB Ar hl5),(1,fk (Ey _ _ _ _ _ _ _ hi1)),(1,fo hc12),(2,fB Ar hl6),(1,fk (Ey _ _ _ _ _ _ _ hi2))] (hJ1 _ (oj e1))
 exact mJ 1 [(2,fB Ar hl4),(1,fk (Ey _ _ _ _ _ _ _ hi)),(0,fo hc11),(2,fB Ar hl5),(1,fk (Ey _ _ _ _ _ _ _ hi1)),(1,fo hc12)] (hJ1 _ (oj e1))
 exact mJ 1 [(2,fB Ar hl4),(1,fk (Ey _ _ _ _ _ _ _ hi)),(0,fo hc11)] (hJ1 _ (oj e1))
 rcases Aj e with⟨hc13,e⟩|⟨hc13,e⟩
 obtain⟨l7,hl7,e⟩:=Ae e
 obtain⟨i3,hi3,e⟩:=Ae e
 rcases Aj e with⟨hc14,e⟩|⟨hc14,e⟩
 obtain⟨i4,hi4,e⟩:=Ae e
 rcases Aj e with⟨hc15,e⟩|⟨hc15,e⟩
 obtain⟨l8,hl8,e⟩:=Ae e
 obtain⟨i5,hi5,e⟩:=Ae e
 exact mJ 1 [(3,fo hc13),(2,fB Ar hl7),(1,fk (Ey _ _ _ _ _ _ _ hi3)),(1,fo hc14),(3,fk (Mp _ _ _ _ _ _ _ hi4 rfl)),(1,fo hc15),(2,fB Ar hl8),(1,fk (Ey _ _ _ _ _ _ _ hi5))] (hJ _ (oj e))
 exact mJ 1 [(3,fo hc13),(2,fB Ar hl7),(1,fk (Ey _ _ _ _ _ _ _ hi3)),(1,fo hc14),(3,fk (Mp _ _ _ _ _ _ _ hi4 rfl)),(1,fo hc15)] (hJ _ (oj e))
 exact mJ 1 [(3,fo hc13),(2,fB Ar hl7),(1,fk (Ey _ _ _ _ _ _ _ hi3)),(1,fo hc14)] (hJ _ (oj e))
 exact mJ 1 [(3,fo hc13)] (hJ _ (oj e))
theorem La (r:Bool)(h:Un=some r):C9 Tryz.prog 9 [] (bP r):=R0 60 r h
end Go.Proofs.YtehfpameijkafaaGreatDoor
namespace Go.Proofs.YtehfpameijkafaaGreatDoor
open Go.RowKit Go.Q Go.Vl Go.Sp
set_option maxRecDepth 100000
set_option linter.unusedSimpArgs false
set_option maxHeartbeats 4000000
set_option linter.unusedVariables false
theorem Ka (n:Nat)(l:(List Aa))(more:Aa)(d:Am)(days:(Int×Int))(r:Bool)(h:DH n l more d days=some r):C9 Tryz.prog 5 [hC l,.agg [tP more.Name,iP more.Kind,iP more.Rank,iP more.Known,iP more.From.Op,iP more.From.N,tP more.From.S,hX more.From.Kids,iP more.From.At,iP more.To.Op,iP more.To.N,tP more.To.S,hX more.To.Kids,iP more.To.At,iP more.When.Op,iP more.When.N,tP more.When.S,hX more.When.Kids,iP more.When.At,iP more.Houses],.agg [hZ d.Facts,iP d.Stored,iP d.Owner],.agg [iP days.1,iP days.2]] (bP r):=by
 unfold DH at h
 refine vP ⟨[0,1,2,3,5,6,7,8,9,10,11,12,13,14,15,16,17,18,19,20,21,22,23,24,39,77,85,102,139,173,207,212,256,259,260,261,282],[(1,[9995]),(32,[9999,0,0,1,2,3,4,5,6,7,8,9,10,11,12,13,14,15,16,17,18,19])]⟩ Tryz.func5 follows fun Q hQ=>?_
 refine wl 1 [] ?_
 rcases Z1 l with he|he
 obtain⟨l1,hl1,h⟩:=Ae h
 obtain⟨l2,hl2,h⟩:=Ae h
 obtain⟨l3,hl3,h⟩:=Ae h
 refine xE 3 [.no,.no,.val (.sl (l1.map Bg) .full),.no,.val (oC l2),.val (oC l3),.no] ⟨[(0,hC l),(5,.ptr 0 0),(6,.ptr 1 0),(7,.ptr 2 0),(8,bP false),(9,oC l3)],[[tP more.Name,iP more.Kind,iP more.Rank,iP more.Known,iP more.From.Op,iP more.From.N,tP more.From.S,hX more.From.Kids,iP more.From.At,iP more.To.Op,iP more.To.N,tP more.To.S,hX more.To.Kids,iP more.To.At,iP more.When.Op,iP more.When.N,tP more.When.S,hX more.When.Kids,iP more.When.At,iP more.Houses],[hZ d.Facts,iP d.Stored,iP d.Owner],[iP days.1,iP days.2]]⟩ (And.intro (And.intro (And.intro (Xx hl1 AZ he) (And.intro (fB Ap hl2).h (And.intro (Ql hl3 AZ (by intro e0;rw [e0] at hl2;cases hl2)) True.intro))) (And.intro (And.intro (fB Ap hl2).h (And.intro (Xx hl1 AZ he) (And.intro (Ql hl3 AZ (by intro e0;rw [e0] at hl2;cases hl2)) True.intro))) True.intro)) (And.intro (And.intro (fB Ap hl2).h (And.intro (Xx hl1 AZ he) (And.intro (Ql hl3 AZ (by intro e0;rw [e0] at hl2;cases hl2)) True.intro))) True.intro)) ?_
 refine mE 0 [] h (fun v39=>⟨[(0,hC l),(5,.ptr 0 0),(6,.ptr 1 0),(7,.ptr 2 0),(8,bP false),(9,oC l3),(39,bP v39)],[[tP more.Name,iP more.Kind,iP more.Rank,iP more.Known,iP more.From.Op,iP more.From.N,tP more.From.S,hX more.From.Kids,iP more.From.At,iP more.To.Op,iP more.To.N,tP more.To.S,hX more.To.Kids,iP more.To.At,iP more.When.Op,iP more.When.N,tP more.When.S,hX more.When.Kids,iP more.When.At,iP more.Houses],[hZ d.Facts,iP d.Stored,iP d.Owner],[iP days.1,iP days.2]]⟩) ?_ fun y e hJ=>?_
 rintro v39 h
 refine cD 0 [] h (fun hc33 h=>?_) fun hc33 h=>?_
 obtain⟨s,hs,h⟩:=Ae h
 cases h
 exact rt 1 [(0,fk (La _ hs))] hQ
 obtain⟨a_,ha_,h⟩:=Ae h
 obtain⟨a_1,ha_1,h⟩:=Ae h
 obtain⟨s1,hs1,h⟩:=Ae h
 refine mE 3 [(6,fk (I3 _ _ _ _ _ _ ha_)),(12,fk (I3 _ _ _ _ _ _ ha_1)),(10,fk (Jh _ _ _ _ _ hs1))] h (fun v77=>⟨[(0,hC l),(5,.ptr 0 0),(6,.ptr 1 0),(7,.ptr 2 0),(8,bP false),(9,oC l3),(10,.ptr 3 0),(11,iP a_.2),(12,.ptr 4 0),(13,iP a_1.2),(14,iP s1.1),(15,iP s1.2.1),(16,bP s1.2.2.1),(17,iP s1.2.2.2),(77,bP v77)],[[tP more.Name,iP more.Kind,iP more.Rank,iP more.Known,iP more.From.Op,iP more.From.N,tP more.From.S,hX more.From.Kids,iP more.From.At,iP more.To.Op,iP more.To.N,tP more.To.S,hX more.To.Kids,iP more.To.At,iP more.When.Op,iP more.When.N,tP more.When.S,hX more.When.Kids,iP more.When.At,iP more.Houses],[hZ d.Facts,iP d.Stored,iP d.Owner],[iP days.1,iP days.2],[iP a_.1.State,iP a_.1.Houses,hI a_.1.By],[iP a_1.1.State,iP a_1.1.Houses,hI a_1.1.By]]⟩) ?_ fun y1 e1 hJ1=>?_
 rintro v77 h
 refine cD 0 [] h (fun hc31 h=>?_) fun hc31 h=>?_
 refine mE 0 [] h (fun v8=>⟨[(0,hC l),(5,.ptr 0 0),(6,.ptr 1 0),(7,.ptr 2 0),(8,bP v8),(9,oC l3),(10,.ptr 3 0),(12,.ptr 4 0),(14,iP s1.1),(15,iP s1.2.1),(16,bP s1.2.2.1),(17,iP s1.2.2.2)],[[tP more.Name,iP more.Kind,iP more.Rank,iP more.Known,iP more.From.Op,iP more.From.N,tP more.From.S,hX more.From.Kids,iP more.From.At,iP more.To.Op,iP more.To.N,tP more.To.S,hX more.To.Kids,iP more.To.At,iP more.When.Op,iP more.When.N,tP more.When.S,hX more.When.Kids,iP more.When.At,iP more.Houses],[hZ d.Facts,iP d.Stored,iP d.Owner],[iP days.1,iP days.2],[iP a_.1.State,iP a_.1.Houses,hI a_.1.By],[iP a_1.1.State,iP a_1.1.Houses,hI a_1.1.By]]⟩) ?_ fun y2 e2 hJ2=>?_
 rintro v8 h
 cases h
 exact rt 0 [] hQ
 obtain⟨s2,hs2,e2⟩:=Ae e2
 rcases Aj e2 with⟨hc,e2⟩|⟨hc,e2⟩
 exact mJ 1 [(0,fk (La _ hs2)),(0,fo hc)] (hJ2 _ (oj e2))
 exact mJ 1 [(0,fk (La _ hs2)),(0,fo hc)] (hJ2 _ (oj e2))
 refine cD 1 [] h (fun hc30 h=>?_) fun hc30 h=>?_
 cases h
 exact rt 1 [] hQ
 refine mE 0 [] h (fun active=>⟨[(0,hC l),(5,.ptr 0 0),(6,.ptr 1 0),(7,.ptr 2 0),(8,bP false),(9,oC l3),(10,.ptr 3 0),(12,.ptr 4 0),(18,bP active)],[[tP more.Name,iP more.Kind,iP more.Rank,iP more.Known,iP more.From.Op,iP more.From.N,tP more.From.S,hX more.From.Kids,iP more.From.At,iP more.To.Op,iP more.To.N,tP more.To.S,hX more.To.Kids,iP more.To.At,iP more.When.Op,iP more.When.N,tP more.When.S,hX more.When.Kids,iP more.When.At,iP more.Houses],[hZ d.Facts,iP d.Stored,iP d.Owner],[iP days.1,iP days.2],[iP a_.1.State,iP a_.1.Houses,hI a_.1.By],[iP a_1.1.State,iP a_1.1.Houses,hI a_1.1.By]]⟩) ?_ fun y3 e3 hJ3=>?_
 rintro active h
 refine mE 2 [(3,fl Ar a_.1.By)] h (fun rank=>⟨[(0,hC l),(5,.ptr 0 0),(6,.ptr 1 0),(7,.ptr 2 0),(8,bP false),(9,oC l3),(10,.ptr 3 0),(12,.ptr 4 0),(18,bP active),(19,iP rank)],[[tP more.Name,iP more.Kind,iP more.Rank,iP more.Known,iP more.From.Op,iP more.From.N,tP more.From.S,hX more.From.Kids,iP more.From.At,iP more.To.Op,iP more.To.N,tP more.To.S,hX more.To.Kids,iP more.To.At,iP more.When.Op,iP more.When.N,tP more.When.S,hX more.When.Kids,iP more.When.At,iP more.Houses],[hZ d.Facts,iP d.Stored,iP d.Owner],[iP days.1,iP days.2],[iP a_.1.State,iP a_.1.Houses,hI a_.1.By],[iP a_1.1.State,iP a_1.1.Houses,hI a_1.1.By]]⟩) ?_ fun y4 e4 hJ4=>?_
 rintro rank h
 refine mE 0 [] h (fun v139=>⟨[(0,hC l),(5,.ptr 0 0),(6,.ptr 1 0),(7,.ptr 2 0),(8,bP false),(9,oC l3),(10,.ptr 3 0),(12,.ptr 4 0),(18,bP active),(19,iP rank),(139,bP v139)],[[tP more.Name,iP more.Kind,iP more.Rank,iP more.Known,iP more.From.Op,iP more.From.N,tP more.From.S,hX more.From.Kids,iP more.From.At,iP more.To.Op,iP more.To.N,tP more.To.S,hX more.To.Kids,iP more.To.At,iP more.When.Op,iP more.When.N,tP more.When.S,hX more.When.Kids,iP more.When.At,iP more.Houses],[hZ d.Facts,iP d.Stored,iP d.Owner],[iP days.1,iP days.2],[iP a_.1.State,iP a_.1.Houses,hI a_.1.By],[iP a_1.1.State,iP a_1.1.Houses,hI a_1.1.By]]⟩) ?_ fun y5 e5 hJ5=>?_
 rintro v139 h
 refine cD 0 [] h (fun hc20 h=>?_) fun hc20 h=>?_
 cases h
 exact rt 1 [] hQ
 refine mE 0 [] h (fun v173=>⟨[(5,.ptr 0 0),(6,.ptr 1 0),(7,.ptr 2 0),(8,bP false),(9,oC l3),(10,.ptr 3 0),(12,.ptr 4 0),(18,bP active),(19,iP rank),(173,bP v173)],[[tP more.Name,iP more.Kind,iP more.Rank,iP more.Known,iP more.From.Op,iP more.From.N,tP more.From.S,hX more.From.Kids,iP more.From.At,iP more.To.Op,iP more.To.N,tP more.To.S,hX more.To.Kids,iP more.To.At,iP more.When.Op,iP more.When.N,tP more.When.S,hX more.When.Kids,iP more.When.At,iP more.Houses],[hZ d.Facts,iP d.Stored,iP d.Owner],[iP days.1,iP days.2],[iP a_.1.State,iP a_.1.Houses,hI a_.1.By],[iP a_1.1.State,iP a_1.1.Houses,hI a_1.1.By]]⟩) ?_ fun y6 e6 hJ6=>?_
 rintro v173 h
 refine cD 0 [] h (fun hc14 h=>?_) fun hc14 h=>?_
 cases h
 exact rt 1 [] hQ
 refine mE 0 [] h (fun v207=>⟨[(6,.ptr 1 0),(7,.ptr 2 0),(8,bP false),(9,oC l3),(12,.ptr 4 0),(207,bP v207)],[[tP more.Name,iP more.Kind,iP more.Rank,iP more.Known,iP more.From.Op,iP more.From.N,tP more.From.S,hX more.From.Kids,iP more.From.At,iP more.To.Op,iP more.To.N,tP more.To.S,hX more.To.Kids,iP more.To.At,iP more.When.Op,iP more.When.N,tP more.When.S,hX more.When.Kids,iP more.When.At,iP more.Houses],[hZ d.Facts,iP d.Stored,iP d.Owner],[iP days.1,iP days.2],[iP a_.1.State,iP a_.1.Houses,hI a_.1.By],[iP a_1.1.State,iP a_1.1.Houses,hI a_1.1.By]]⟩) ?_ fun y7 e7 hJ7=>?_
 rintro v207 h
 refine cD 0 [] h (fun hc8 h=>?_) fun hc8 h=>?_
 cases h
 exact rt 1 [] hQ
 refine mE 2 [(2,fl Ap l3)] h (fun turned=>⟨[(6,.ptr 1 0),(7,.ptr 2 0),(8,bP false),(9,oC l3),(12,.ptr 4 0),(20,oC turned)],[[tP more.Name,iP more.Kind,iP more.Rank,iP more.Known,iP more.From.Op,iP more.From.N,tP more.From.S,hX more.From.Kids,iP more.From.At,iP more.To.Op,iP more.To.N,tP more.To.S,hX more.To.Kids,iP more.To.At,iP more.When.Op,iP more.When.N,tP more.When.S,hX more.When.Kids,iP more.When.At,iP more.Houses],[hZ d.Facts,iP d.Stored,iP d.Owner],[iP days.1,iP days.2],[iP a_.1.State,iP a_.1.Houses,hI a_.1.By],[iP a_1.1.State,iP a_1.1.Houses,hI a_1.1.By]]⟩) ?_ fun y8 e8 hJ8=>?_
 rintro turned h
 obtain⟨a_2,ha_2,h⟩:=Ae h
 refine mE 1 [(6,fk (I3 _ _ _ _ _ _ ha_2))] h (fun v256=>⟨[(8,bP false),(9,oC l3),(12,.ptr 4 0),(22,.ptr 5 0),(256,bP v256)],[[tP more.Name,iP more.Kind,iP more.Rank,iP more.Known,iP more.From.Op,iP more.From.N,tP more.From.S,hX more.From.Kids,iP more.From.At,iP more.To.Op,iP more.To.N,tP more.To.S,hX more.To.Kids,iP more.To.At,iP more.When.Op,iP more.When.N,tP more.When.S,hX more.When.Kids,iP more.When.At,iP more.Houses],[hZ d.Facts,iP d.Stored,iP d.Owner],[iP days.1,iP days.2],[iP a_.1.State,iP a_.1.Houses,hI a_.1.By],[iP a_1.1.State,iP a_1.1.Houses,hI a_1.1.By],[iP a_2.1.State,iP a_2.1.Houses,hI a_2.1.By]]⟩) ?_ fun y9 e9 hJ9=>?_
 rintro v256 h
 refine cD 0 [] h (fun hc3 h=>?_) fun hc3 h=>?_
 cases h
 exact rt 1 [] hQ
 refine mI 1 [(2,fl Ar a_2.1.By)] h (fun _=>⟨[(8,bP false)],[[tP more.Name,iP more.Kind,iP more.Rank,iP more.Known,iP more.From.Op,iP more.From.N,tP more.From.S,hX more.From.Kids,iP more.From.At,iP more.To.Op,iP more.To.N,tP more.To.S,hX more.To.Kids,iP more.To.At,iP more.When.Op,iP more.When.N,tP more.When.S,hX more.When.Kids,iP more.When.At,iP more.Houses],[hZ d.Facts,iP d.Stored,iP d.Owner],[iP days.1,iP days.2],[iP a_.1.State,iP a_.1.Houses,hI a_.1.By],[iP a_1.1.State,iP a_1.1.Houses,hI a_1.1.By],[iP a_2.1.State,iP a_2.1.Houses,hI a_2.1.By]]⟩) ?_ fun y10 e10 h hJ10=>?_
 rintro _ h
 obtain⟨s3,hs3,h⟩:=Ae h
 cases h
 exact rt 1 [(0,fk (La _ hs3))] hQ
 refine lF 1 [] (A:=Int) (fun n v260=>AV n a_2 a_1 l3 v260) (fun v260=>⟨[(8,bP false),(9,oC l3),(12,.ptr 4 0),(22,.ptr 5 0),(259,iP (a_2.1.By.length:Int)),(260,iP v260)],[[tP more.Name,iP more.Kind,iP more.Rank,iP more.Known,iP more.From.Op,iP more.From.N,tP more.From.S,hX more.From.Kids,iP more.From.At,iP more.To.Op,iP more.To.N,tP more.To.S,hX more.To.Kids,iP more.To.At,iP more.When.Op,iP more.When.N,tP more.When.S,hX more.When.Kids,iP more.When.At,iP more.Houses],[hZ d.Facts,iP d.Stored,iP d.Owner],[iP days.1,iP days.2],[iP a_.1.State,iP a_.1.Houses,hI a_.1.By],[iP a_1.1.State,iP a_1.1.Houses,hI a_1.1.By],[iP a_2.1.State,iP a_2.1.Houses,hI a_2.1.By]]⟩) 0 e10 (fun _=>rfl) ?_
 rintro n v260 e10 ih
 replace e10:=(AV.eq_2 ..).symm.trans e10
 refine cD 1 [] e10 (fun hc2 e10=>?_) fun hc2 e10=>?_
 obtain⟨x,hx,e10⟩:=Ae e10
 obtain⟨x1,hx1,e10⟩:=Ae e10
 refine cD 3 [(5,fi Ar hx),(2,fl Ap l3),(5,fl Ar a_1.1.By),(3,fi Ar hx1)] e10 (fun hc1 e10=>?_) fun hc1 e10=>?_
 cases e10
 cases h
 exact rt 1 [] hQ
 exact mJ 1 [] (ih _ e10)
 exact mJ 1 [] (hJ10 _ (oj e10))
 rcases Aj e9 with⟨hc4,e9⟩|⟨hc4,e9⟩
 exact mJ 1 [(2,fo hc4)] (hJ9 _ (oj e9))
 rcases Aj e9 with⟨hc5,e9⟩|⟨hc5,e9⟩
 exact mJ 1 [(2,fo hc4),(6,fo hc5)] (hJ9 _ (oj e9))
 rcases Aj e9 with⟨hc6,e9⟩|⟨hc6,e9⟩
 exact mJ 1 [(2,fo hc4),(6,fo hc5),(6,fo hc6)] (hJ9 _ (oj e9))
 exact mJ 1 [(2,fo hc4),(6,fo hc5),(6,fo hc6),(2,fl Ar a_2.1.By),(2,fl Ar a_1.1.By)] (hJ9 _ (oj e9))
 refine lF 1 [] (A:=((List Aa)×Int)) (fun n (turned1,k)=>AU n l3 turned1 k) (fun (turned1,k)=>⟨[(6,.ptr 1 0),(7,.ptr 2 0),(8,bP false),(9,oC l3),(12,.ptr 4 0),(20,oC turned1),(21,iP k)],[[tP more.Name,iP more.Kind,iP more.Rank,iP more.Known,iP more.From.Op,iP more.From.N,tP more.From.S,hX more.From.Kids,iP more.From.At,iP more.To.Op,iP more.To.N,tP more.To.S,hX more.To.Kids,iP more.To.At,iP more.When.Op,iP more.When.N,tP more.When.S,hX more.When.Kids,iP more.When.At,iP more.Houses],[hZ d.Facts,iP d.Stored,iP d.Owner],[iP days.1,iP days.2],[iP a_.1.State,iP a_.1.Houses,hI a_.1.By],[iP a_1.1.State,iP a_1.1.Houses,hI a_1.1.By]]⟩) ([],(À ((l3.length:Int)-1))) e8 (fun _=>rfl) ?_
 rintro n ⟨turned1,k⟩ e8 ih1
 replace e8:=(AU.eq_2 ..).symm.trans e8
 refine cD 1 [] e8 (fun hc7 e8=>?_) fun hc7 e8=>?_
 obtain⟨x2,hx2,e8⟩:=Ae e8
 obtain⟨l4,hl4,e8⟩:=Ae e8
 obtain⟨l5,hl5,e8⟩:=Ae e8
 exact mJ 3 [(3,fi Ap hx2),(1,fB Ap hl4),(0,fa Ap hl5)] (ih1 (_,_) e8)
 exact mJ 1 [] (hJ8 _ (oj e8))
 rcases Aj e7 with⟨hc9,e7⟩|⟨hc9,e7⟩
 rcases Aj e7 with⟨hc10,e7⟩|⟨hc10,e7⟩
 rcases Aj e7 with⟨hc11,e7⟩|⟨hc11,e7⟩
 rcases Aj e7 with⟨hc12,e7⟩|⟨hc12,e7⟩
 exact mJ 1 [(1,fo hc9),(4,fo hc10),(5,fo hc11),(2,fl Ar a_1.1.By),(2,fl Ar a_.1.By),(2,fo hc12)] (hJ7 _ (oj e7))
 rcases Aj e7 with⟨hc13,e7⟩|⟨hc13,e7⟩
 exact mJ 1 [(1,fo hc9),(4,fo hc10),(5,fo hc11),(2,fl Ar a_1.1.By),(2,fl Ar a_.1.By),(2,fo hc12),(5,fo hc13)] (hJ7 _ (oj e7))
 exact mJ 1 [(1,fo hc9),(4,fo hc10),(5,fo hc11),(2,fl Ar a_1.1.By),(2,fl Ar a_.1.By),(2,fo hc12),(5,fo hc13)] (hJ7 _ (oj e7))
 exact mJ 1 [(1,fo hc9),(4,fo hc10),(5,fo hc11)] (hJ7 _ (oj e7))
 exact mJ 1 [(1,fo hc9),(4,fo hc10)] (hJ7 _ (oj e7))
 exact mJ 1 [(1,fo hc9)] (hJ7 _ (oj e7))
 rcases Aj e6 with⟨hc15,e6⟩|⟨hc15,e6⟩
 rcases Aj e6 with⟨hc16,e6⟩|⟨hc16,e6⟩
 rcases Aj e6 with⟨hc17,e6⟩|⟨hc17,e6⟩
 rcases Aj e6 with⟨hc18,e6⟩|⟨hc18,e6⟩
 exact mJ 1 [(1,fo hc15),(4,fo hc16),(5,fo hc17),(5,fo hc18)] (hJ6 _ (oj e6))
 rcases Aj e6 with⟨hc19,e6⟩|⟨hc19,e6⟩
 exact mJ 1 [(1,fo hc15),(4,fo hc16),(5,fo hc17),(5,fo hc18),(2,fl Ar a_1.1.By),(2,fo hc19)] (hJ6 _ (oj e6))
 obtain⟨x3,hx3,e6⟩:=Ae e6
 exact mJ 1 [(1,fo hc15),(4,fo hc16),(5,fo hc17),(5,fo hc18),(2,fl Ar a_1.1.By),(2,fo hc19),(2,fi Ar hx3),(2,fl Ap l)] (hJ6 _ (oj e6))
 exact mJ 1 [(1,fo hc15),(4,fo hc16),(5,fo hc17)] (hJ6 _ (oj e6))
 exact mJ 1 [(1,fo hc15),(4,fo hc16)] (hJ6 _ (oj e6))
 exact mJ 1 [(1,fo hc15)] (hJ6 _ (oj e6))
 rcases Aj e5 with⟨hc21,e5⟩|⟨hc21,e5⟩
 rcases Aj e5 with⟨hc22,e5⟩|⟨hc22,e5⟩
 exact mJ 1 [(2,fo hc21),(16,fo hc22)] (hJ5 _ (oj e5))
 exact mJ 1 [(2,fo hc21),(16,fo hc22),(2,fl Ar a_1.1.By),(2,fl Ar a_.1.By)] (hJ5 _ (oj e5))
 rcases Aj e5 with⟨hc23,e5⟩|⟨hc23,e5⟩
 rcases Aj e5 with⟨hc24,e5⟩|⟨hc24,e5⟩
 exact mJ 1 [(2,fo hc21),(4,fo hc23),(11,fo hc24)] (hJ5 _ (oj e5))
 exact mJ 1 [(2,fo hc21),(4,fo hc23),(11,fo hc24),(2,fl Ar a_1.1.By),(2,fl Ar a_.1.By)] (hJ5 _ (oj e5))
 rcases Aj e5 with⟨hc25,e5⟩|⟨hc25,e5⟩
 rcases Aj e5 with⟨hc26,e5⟩|⟨hc26,e5⟩
 exact mJ 1 [(2,fo hc21),(4,fo hc23),(5,fo hc25),(5,fo hc26)] (hJ5 _ (oj e5))
 exact mJ 1 [(2,fo hc21),(4,fo hc23),(5,fo hc25),(5,fo hc26),(2,fl Ar a_1.1.By),(2,fl Ar a_.1.By)] (hJ5 _ (oj e5))
 exact mJ 1 [(2,fo hc21),(4,fo hc23),(5,fo hc25)] (hJ5 _ (oj e5))
 refine cD 0 [] e4 (fun hc27 e4=>?_) fun hc27 e4=>?_
 obtain⟨x4,hx4,e4⟩:=Ae e4
 obtain⟨x5,hx5,e4⟩:=Ae e4
 exact mJ 1 [(3,fi Ar hx4),(1,fi Ap hx5)] (hJ4 _ (oj e4))
 exact mJ 0 [] (hJ4 _ (oj e4))
 rcases Aj e3 with⟨hc28,e3⟩|⟨hc28,e3⟩
 rcases Aj e3 with⟨hc29,e3⟩|⟨hc29,e3⟩
 exact mJ 1 [(1,fo hc28),(5,fo hc29)] (hJ3 _ (oj e3))
 exact mJ 1 [(1,fo hc28),(5,fo hc29)] (hJ3 _ (oj e3))
 exact mJ 1 [(1,fo hc28)] (hJ3 _ (oj e3))
 rcases Aj e1 with⟨hc32,e1⟩|⟨hc32,e1⟩
 exact mJ 1 [(3,fo hc32)] (hJ1 _ (oj e1))
 exact mJ 1 [(3,fo hc32)] (hJ1 _ (oj e1))
 obtain⟨f,hf,e⟩:=Ae e
 rcases Aj e with⟨hc34,e⟩|⟨hc34,e⟩
 exact mJ 1 [(2,fk (JZ _ _ _ _ hf)),(1,fo hc34)] (hJ _ (oj e))
 obtain⟨c,hc35,e⟩:=Ae e
 exact mJ 1 [(2,fk (JZ _ _ _ _ hf)),(1,fo hc34),(1,fk (GJ _ _ _ hc35))] (hJ _ (oj e))
 obtain⟨l1,hl1,h⟩:=Ae h
 obtain⟨l2,hl2,h⟩:=Ae h
 obtain⟨l3,hl3,h⟩:=Ae h
 refine xE 3 [.no,.no,.val (oC l1),.no,.val (oC l2),.val (oC l3),.no] ⟨[(0,hC l),(5,.ptr 0 0),(6,.ptr 1 0),(7,.ptr 2 0),(8,bP false),(9,oC l3)],[[tP more.Name,iP more.Kind,iP more.Rank,iP more.Known,iP more.From.Op,iP more.From.N,tP more.From.S,hX more.From.Kids,iP more.From.At,iP more.To.Op,iP more.To.N,tP more.To.S,hX more.To.Kids,iP more.To.At,iP more.When.Op,iP more.When.N,tP more.When.S,hX more.When.Kids,iP more.When.At,iP more.Houses],[hZ d.Facts,iP d.Stored,iP d.Owner],[iP days.1,iP days.2]]⟩ (And.intro (And.intro (And.intro (Ql hl1 AZ he) (And.intro (fB Ap hl2).h (And.intro (U4 hl3 AZ) True.intro))) (And.intro (And.intro (fB Ap hl2).h (And.intro (Ql hl1 AZ he) (And.intro (U4 hl3 AZ) True.intro))) True.intro)) (And.intro (And.intro (fB Ap hl2).h (And.intro (Ql hl1 AZ he) (And.intro (U4 hl3 AZ) True.intro))) True.intro)) ?_
 refine mE 0 [] h (fun v39=>⟨[(0,hC l),(5,.ptr 0 0),(6,.ptr 1 0),(7,.ptr 2 0),(8,bP false),(9,oC l3),(39,bP v39)],[[tP more.Name,iP more.Kind,iP more.Rank,iP more.Known,iP more.From.Op,iP more.From.N,tP more.From.S,hX more.From.Kids,iP more.From.At,iP more.To.Op,iP more.To.N,tP more.To.S,hX more.To.Kids,iP more.To.At,iP more.When.Op,iP more.When.N,tP more.When.S,hX more.When.Kids,iP more.When.At,iP more.Houses],[hZ d.Facts,iP d.Stored,iP d.Owner],[iP days.1,iP days.2]]⟩) ?_ fun y e hJ=>?_
 rintro v39 h
 refine cD 0 [] h (fun hc33 h=>?_) fun hc33 h=>?_
 obtain⟨s,hs,h⟩:=Ae h
 cases h
 exact rt 1 [(0,fk (La _ hs))] hQ
 obtain⟨a_,ha_,h⟩:=Ae h
 obtain⟨a_1,ha_1,h⟩:=Ae h
 obtain⟨s1,hs1,h⟩:=Ae h
 refine mE 3 [(6,fk (I3 _ _ _ _ _ _ ha_)),(12,fk (I3 _ _ _ _ _ _ ha_1)),(10,fk (Jh _ _ _ _ _ hs1))] h (fun v77=>⟨[(0,hC l),(5,.ptr 0 0),(6,.ptr 1 0),(7,.ptr 2 0),(8,bP false),(9,oC l3),(10,.ptr 3 0),(11,iP a_.2),(12,.ptr 4 0),(13,iP a_1.2),(14,iP s1.1),(15,iP s1.2.1),(16,bP s1.2.2.1),(17,iP s1.2.2.2),(77,bP v77)],[[tP more.Name,iP more.Kind,iP more.Rank,iP more.Known,iP more.From.Op,iP more.From.N,tP more.From.S,hX more.From.Kids,iP more.From.At,iP more.To.Op,iP more.To.N,tP more.To.S,hX more.To.Kids,iP more.To.At,iP more.When.Op,iP more.When.N,tP more.When.S,hX more.When.Kids,iP more.When.At,iP more.Houses],[hZ d.Facts,iP d.Stored,iP d.Owner],[iP days.1,iP days.2],[iP a_.1.State,iP a_.1.Houses,hI a_.1.By],[iP a_1.1.State,iP a_1.1.Houses,hI a_1.1.By]]⟩) ?_ fun y1 e1 hJ1=>?_
 rintro v77 h
 refine cD 0 [] h (fun hc31 h=>?_) fun hc31 h=>?_
 refine mE 0 [] h (fun v8=>⟨[(0,hC l),(5,.ptr 0 0),(6,.ptr 1 0),(7,.ptr 2 0),(8,bP v8),(9,oC l3),(10,.ptr 3 0),(12,.ptr 4 0),(14,iP s1.1),(15,iP s1.2.1),(16,bP s1.2.2.1),(17,iP s1.2.2.2)],[[tP more.Name,iP more.Kind,iP more.Rank,iP more.Known,iP more.From.Op,iP more.From.N,tP more.From.S,hX more.From.Kids,iP more.From.At,iP more.To.Op,iP more.To.N,tP more.To.S,hX more.To.Kids,iP more.To.At,iP more.When.Op,iP more.When.N,tP more.When.S,hX more.When.Kids,iP more.When.At,iP more.Houses],[hZ d.Facts,iP d.Stored,iP d.Owner],[iP days.1,iP days.2],[iP a_.1.State,iP a_.1.Houses,hI a_.1.By],[iP a_1.1.State,iP a_1.1.Houses,hI a_1.1.By]]⟩) ?_ fun y2 e2 hJ2=>?_
 rintro v8 h
 cases h
 exact rt 0 [] hQ
 obtain⟨s2,hs2,e2⟩:=Ae e2
 rcases Aj e2 with⟨hc,e2⟩|⟨hc,e2⟩
 exact mJ 1 [(0,fk (La _ hs2)),(0,fo hc)] (hJ2 _ (oj e2))
 exact mJ 1 [(0,fk (La _ hs2)),(0,fo hc)] (hJ2 _ (oj e2))
 refine cD 1 [] h (fun hc30 h=>?_) fun hc30 h=>?_
 cases h
 exact rt 1 [] hQ
 refine mE 0 [] h (fun active=>⟨[(0,hC l),(5,.ptr 0 0),(6,.ptr 1 0),(7,.ptr 2 0),(8,bP false),(9,oC l3),(10,.ptr 3 0),(12,.ptr 4 0),(18,bP active)],[[tP more.Name,iP more.Kind,iP more.Rank,iP more.Known,iP more.From.Op,iP more.From.N,tP more.From.S,hX more.From.Kids,iP more.From.At,iP more.To.Op,iP more.To.N,tP more.To.S,hX more.To.Kids,iP more.To.At,iP more.When.Op,iP more.When.N,tP more.When.S,hX more.When.Kids,iP more.When.At,iP more.Houses],[hZ d.Facts,iP d.Stored,iP d.Owner],[iP days.1,iP days.2],[iP a_.1.State,iP a_.1.Houses,hI a_.1.By],[iP a_1.1.State,iP a_1.1.Houses,hI a_1.1.By]]⟩) ?_ fun y3 e3 hJ3=>?_
 rintro active h
 refine mE 2 [(3,fl Ar a_.1.By)] h (fun rank=>⟨[(0,hC l),(5,.ptr 0 0),(6,.ptr 1 0),(7,.ptr 2 0),(8,bP false),(9,oC l3),(10,.ptr 3 0),(12,.ptr 4 0),(18,bP active),(19,iP rank)],[[tP more.Name,iP more.Kind,iP more.Rank,iP more.Known,iP more.From.Op,iP more.From.N,tP more.From.S,hX more.From.Kids,iP more.From.At,iP more.To.Op,iP more.To.N,tP more.To.S,hX more.To.Kids,iP more.To.At,iP more.When.Op,iP more.When.N,tP more.When.S,hX more.When.Kids,iP more.When.At,iP more.Houses],[hZ d.Facts,iP d.Stored,iP d.Owner],[iP days.1,iP days.2],[iP a_.1.State,iP a_.1.Houses,hI a_.1.By],[iP a_1.1.State,iP a_1.1.Houses,hI a_1.1.By]]⟩) ?_ fun y4 e4 hJ4=>?_
 rintro rank h
 refine mE 0 [] h (fun v139=>⟨[(0,hC l),(5,.ptr 0 0),(6,.ptr 1 0),(7,.ptr 2 0),(8,bP false),(9,oC l3),(10,.ptr 3 0),(12,.ptr 4 0),(18,bP active),(19,iP rank),(139,bP v139)],[[tP more.Name,iP more.Kind,iP more.Rank,iP more.Known,iP more.From.Op,iP more.From.N,tP more.From.S,hX more.From.Kids,iP more.From.At,iP more.To.Op,iP more.To.N,tP more.To.S,hX more.To.Kids,iP more.To.At,iP more.When.Op,iP more.When.N,tP more.When.S,hX more.When.Kids,iP more.When.At,iP more.Houses],[hZ d.Facts,iP d.Stored,iP d.Owner],[iP days.1,iP days.2],[iP a_.1.State,iP a_.1.Houses,hI a_.1.By],[iP a_1.1.State,iP a_1.1.Houses,hI a_1.1.By]]⟩) ?_ fun y5 e5 hJ5=>?_
 rintro v139 h
 refine cD 0 [] h (fun hc20 h=>?_) fun hc20 h=>?_
 cases h
 exact rt 1 [] hQ
 refine mE 0 [] h (fun v173=>⟨[(5,.ptr 0 0),(6,.ptr 1 0),(7,.ptr 2 0),(8,bP false),(9,oC l3),(10,.ptr 3 0),(12,.ptr 4 0),(18,bP active),(19,iP rank),(173,bP v173)],[[tP more.Name,iP more.Kind,iP more.Rank,iP more.Known,iP more.From.Op,iP more.From.N,tP more.From.S,hX more.From.Kids,iP more.From.At,iP more.To.Op,iP more.To.N,tP more.To.S,hX more.To.Kids,iP more.To.At,iP more.When.Op,iP more.When.N,tP more.When.S,hX more.When.Kids,iP more.When.At,iP more.Houses],[hZ d.Facts,iP d.Stored,iP d.Owner],[iP days.1,iP days.2],[iP a_.1.State,iP a_.1.Houses,hI a_.1.By],[iP a_1.1.State,iP a_1.1.Houses,hI a_1.1.By]]⟩) ?_ fun y6 e6 hJ6=>?_
 rintro v173 h
 refine cD 0 [] h (fun hc14 h=>?_) fun hc14 h=>?_
 cases h
 exact rt 1 [] hQ
 refine mE 0 [] h (fun v207=>⟨[(6,.ptr 1 0),(7,.ptr 2 0),(8,bP false),(9,oC l3),(12,.ptr 4 0),(207,bP v207)],[[tP more.Name,iP more.Kind,iP more.Rank,iP more.Known,iP more.From.Op,iP more.From.N,tP more.From.S,hX more.From.Kids,iP more.From.At,iP more.To.Op,iP more.To.N,tP more.To.S,hX more.To.Kids,iP more.To.At,iP more.When.Op,iP more.When.N,tP more.When.S,hX more.When.Kids,iP more.When.At,iP more.Houses],[hZ d.Facts,iP d.Stored,iP d.Owner],[iP days.1,iP days.2],[iP a_.1.State,iP a_.1.Houses,hI a_.1.By],[iP a_1.1.State,iP a_1.1.Houses,hI a_1.1.By]]⟩) ?_ fun y7 e7 hJ7=>?_
 rintro v207 h
 refine cD 0 [] h (fun hc8 h=>?_) fun hc8 h=>?_
 cases h
 exact rt 1 [] hQ
 refine mE 2 [(2,fl Ap l3)] h (fun turned=>⟨[(6,.ptr 1 0),(7,.ptr 2 0),(8,bP false),(9,oC l3),(12,.ptr 4 0),(20,oC turned)],[[tP more.Name,iP more.Kind,iP more.Rank,iP more.Known,iP more.From.Op,iP more.From.N,tP more.From.S,hX more.From.Kids,iP more.From.At,iP more.To.Op,iP more.To.N,tP more.To.S,hX more.To.Kids,iP more.To.At,iP more.When.Op,iP more.When.N,tP more.When.S,hX more.When.Kids,iP more.When.At,iP more.Houses],[hZ d.Facts,iP d.Stored,iP d.Owner],[iP days.1,iP days.2],[iP a_.1.State,iP a_.1.Houses,hI a_.1.By],[iP a_1.1.State,iP a_1.1.Houses,hI a_1.1.By]]⟩) ?_ fun y8 e8 hJ8=>?_
 rintro turned h
 obtain⟨a_2,ha_2,h⟩:=Ae h
 refine mE 1 [(6,fk (I3 _ _ _ _ _ _ ha_2))] h (fun v256=>⟨[(8,bP false),(9,oC l3),(12,.ptr 4 0),(22,.ptr 5 0),(256,bP v256)],[[tP more.Name,iP more.Kind,iP more.Rank,iP more.Known,iP more.From.Op,iP more.From.N,tP more.From.S,hX more.From.Kids,iP more.From.At,iP more.To.Op,iP more.To.N,tP more.To.S,hX more.To.Kids,iP more.To.At,iP more.When.Op,iP more.When.N,tP more.When.S,hX more.When.Kids,iP more.When.At,iP more.Houses],[hZ d.Facts,iP d.Stored,iP d.Owner],[iP days.1,iP days.2],[iP a_.1.State,iP a_.1.Houses,hI a_.1.By],[iP a_1.1.State,iP a_1.1.Houses,hI a_1.1.By],[iP a_2.1.State,iP a_2.1.Houses,hI a_2.1.By]]⟩) ?_ fun y9 e9 hJ9=>?_
 rintro v256 h
 refine cD 0 [] h (fun hc3 h=>?_) fun hc3 h=>?_
 cases h
 exact rt 1 [] hQ
 refine mI 1 [(2,fl Ar a_2.1.By)] h (fun _=>⟨[(8,bP false)],[[tP more.Name,iP more.Kind,iP more.Rank,iP more.Known,iP more.From.Op,iP more.From.N,tP more.From.S,hX more.From.Kids,iP more.From.At,iP more.To.Op,iP more.To.N,tP more.To.S,hX more.To.Kids,iP more.To.At,iP more.When.Op,iP more.When.N,tP more.When.S,hX more.When.Kids,iP more.When.At,iP more.Houses],[hZ d.Facts,iP d.Stored,iP d.Owner],[iP days.1,iP days.2],[iP a_.1.State,iP a_.1.Houses,hI a_.1.By],[iP a_1.1.State,iP a_1.1.Houses,hI a_1.1.By],[iP a_2.1.State,iP a_2.1.Houses,hI a_2.1.By]]⟩) ?_ fun y10 e10 h hJ10=>?_
 rintro _ h
 obtain⟨s3,hs3,h⟩:=Ae h
 cases h
 exact rt 1 [(0,fk (La _ hs3))] hQ
 refine lF 1 [] (A:=Int) (fun n v260=>AV n a_2 a_1 l3 v260) (fun v260=>⟨[(8,bP false),(9,oC l3),(12,.ptr 4 0),(22,.ptr 5 0),(259,iP (a_2.1.By.length:Int)),(260,iP v260)],[[tP more.Name,iP more.Kind,iP more.Rank,iP more.Known,iP more.From.Op,iP more.From.N,tP more.From.S,hX more.From.Kids,iP more.From.At,iP more.To.Op,iP more.To.N,tP more.To.S,hX more.To.Kids,iP more.To.At,iP more.When.Op,iP more.When.N,tP more.When.S,hX more.When.Kids,iP more.When.At,iP more.Houses],[hZ d.Facts,iP d.Stored,iP d.Owner],[iP days.1,iP days.2],[iP a_.1.State,iP a_.1.Houses,hI a_.1.By],[iP a_1.1.State,iP a_1.1.Houses,hI a_1.1.By],[iP a_2.1.State,iP a_2.1.Houses,hI a_2.1.By]]⟩) 0 e10 (fun _=>rfl) ?_
 rintro n v260 e10 ih
 replace e10:=(AV.eq_2 ..).symm.trans e10
 refine cD 1 [] e10 (fun hc2 e10=>?_) fun hc2 e10=>?_
 obtain⟨x,hx,e10⟩:=Ae e10
 obtain⟨x1,hx1,e10⟩:=Ae e10
 refine cD 3 [(5,fi Ar hx),(2,fl Ap l3),(5,fl Ar a_1.1.By),(3,fi Ar hx1)] e10 (fun hc1 e10=>?_) fun hc1 e10=>?_
 cases e10
 cases h
 exact rt 1 [] hQ
 exact mJ 1 [] (ih _ e10)
 exact mJ 1 [] (hJ10 _ (oj e10))
 rcases Aj e9 with⟨hc4,e9⟩|⟨hc4,e9⟩
 exact mJ 1 [(2,fo hc4)] (hJ9 _ (oj e9))
 rcases Aj e9 with⟨hc5,e9⟩|⟨hc5,e9⟩
 exact mJ 1 [(2,fo hc4),(6,fo hc5)] (hJ9 _ (oj e9))
 rcases Aj e9 with⟨hc6,e9⟩|⟨hc6,e9⟩
 exact mJ 1 [(2,fo hc4),(6,fo hc5),(6,fo hc6)] (hJ9 _ (oj e9))
 exact mJ 1 [(2,fo hc4),(6,fo hc5),(6,fo hc6),(2,fl Ar a_2.1.By),(2,fl Ar a_1.1.By)] (hJ9 _ (oj e9))
 refine lF 1 [] (A:=((List Aa)×Int)) (fun n (turned1,k)=>AU n l3 turned1 k) (fun (turned1,k)=>⟨[(6,.ptr 1 0),(7,.ptr 2 0),(8,bP false),(9,oC l3),(12,.ptr 4 0),(20,oC turned1),(21,iP k)],[[tP more.Name,iP more.Kind,iP more.Rank,iP more.Known,iP more.From.Op,iP more.From.N,tP more.From.S,hX more.From.Kids,iP more.From.At,iP more.To.Op,iP more.To.N,tP more.To.S,hX more.To.Kids,iP more.To.At,iP more.When.Op,iP more.When.N,tP more.When.S,hX more.When.Kids,iP more.When.At,iP more.Houses],[hZ d.Facts,iP d.Stored,iP d.Owner],[iP days.1,iP days.2],[iP a_.1.State,iP a_.1.Houses,hI a_.1.By],[iP a_1.1.State,iP a_1.1.Houses,hI a_1.1.By]]⟩) ([],(À ((l3.length:Int)-1))) e8 (fun _=>rfl) ?_
 rintro n ⟨turned1,k⟩ e8 ih1
 replace e8:=(AU.eq_2 ..).symm.trans e8
 refine cD 1 [] e8 (fun hc7 e8=>?_) fun hc7 e8=>?_
 obtain⟨x2,hx2,e8⟩:=Ae e8
 obtain⟨l4,hl4,e8⟩:=Ae e8
 obtain⟨l5,hl5,e8⟩:=Ae e8
 exact mJ 3 [(3,fi Ap hx2),(1,fB Ap hl4),(0,fa Ap hl5)] (ih1 (_,_) e8)
 exact mJ 1 [] (hJ8 _ (oj e8))
 rcases Aj e7 with⟨hc9,e7⟩|⟨hc9,e7⟩
 rcases Aj e7 with⟨hc10,e7⟩|⟨hc10,e7⟩
 rcases Aj e7 with⟨hc11,e7⟩|⟨hc11,e7⟩
 rcases Aj e7 with⟨hc12,e7⟩|⟨hc12,e7⟩
 exact mJ 1 [(1,fo hc9),(4,fo hc10),(5,fo hc11),(2,fl Ar a_1.1.By),(2,fl Ar a_.1.By),(2,fo hc12)] (hJ7 _ (oj e7))
 rcases Aj e7 with⟨hc13,e7⟩|⟨hc13,e7⟩
 exact mJ 1 [(1,fo hc9),(4,fo hc10),(5,fo hc11),(2,fl Ar a_1.1.By),(2,fl Ar a_.1.By),(2,fo hc12),(5,fo hc13)] (hJ7 _ (oj e7))
 exact mJ 1 [(1,fo hc9),(4,fo hc10),(5,fo hc11),(2,fl Ar a_1.1.By),(2,fl Ar a_.1.By),(2,fo hc12),(5,fo hc13)] (hJ7 _ (oj e7))
 exact mJ 1 [(1,fo hc9),(4,fo hc10),(5,fo hc11)] (hJ7 _ (oj e7))
 exact mJ 1 [(1,fo hc9),(4,fo hc10)] (hJ7 _ (oj e7))
 exact mJ 1 [(1,fo hc9)] (hJ7 _ (oj e7))
 rcases Aj e6 with⟨hc15,e6⟩|⟨hc15,e6⟩
 rcases Aj e6 with⟨hc16,e6⟩|⟨hc16,e6⟩
 rcases Aj e6 with⟨hc17,e6⟩|⟨hc17,e6⟩
 rcases Aj e6 with⟨hc18,e6⟩|⟨hc18,e6⟩
 exact mJ 1 [(1,fo hc15),(4,fo hc16),(5,fo hc17),(5,fo hc18)] (hJ6 _ (oj e6))
 rcases Aj e6 with⟨hc19,e6⟩|⟨hc19,e6⟩
 exact mJ 1 [(1,fo hc15),(4,fo hc16),(5,fo hc17),(5,fo hc18),(2,fl Ar a_1.1.By),(2,fo hc19)] (hJ6 _ (oj e6))
 obtain⟨x3,hx3,e6⟩:=Ae e6
 exact mJ 1 [(1,fo hc15),(4,fo hc16),(5,fo hc17),(5,fo hc18),(2,fl Ar a_1.1.By),(2,fo hc19),(2,fi Ar hx3),(2,fl Ap l)] (hJ6 _ (oj e6))
 exact mJ 1 [(1,fo hc15),(4,fo hc16),(5,fo hc17)] (hJ6 _ (oj e6))
 exact mJ 1 [(1,fo hc15),(4,fo hc16)] (hJ6 _ (oj e6))
 exact mJ 1 [(1,fo hc15)] (hJ6 _ (oj e6))
 rcases Aj e5 with⟨hc21,e5⟩|⟨hc21,e5⟩
 rcases Aj e5 with⟨hc22,e5⟩|⟨hc22,e5⟩
 exact mJ 1 [(2,fo hc21),(16,fo hc22)] (hJ5 _ (oj e5))
 exact mJ 1 [(2,fo hc21),(16,fo hc22),(2,fl Ar a_1.1.By),(2,fl Ar a_.1.By)] (hJ5 _ (oj e5))
 rcases Aj e5 with⟨hc23,e5⟩|⟨hc23,e5⟩
 rcases Aj e5 with⟨hc24,e5⟩|⟨hc24,e5⟩
 exact mJ 1 [(2,fo hc21),(4,fo hc23),(11,fo hc24)] (hJ5 _ (oj e5))
 exact mJ 1 [(2,fo hc21),(4,fo hc23),(11,fo hc24),(2,fl Ar a_1.1.By),(2,fl Ar a_.1.By)] (hJ5 _ (oj e5))
 rcases Aj e5 with⟨hc25,e5⟩|⟨hc25,e5⟩
 rcases Aj e5 with⟨hc26,e5⟩|⟨hc26,e5⟩
 exact mJ 1 [(2,fo hc21),(4,fo hc23),(5,fo hc25),(5,fo hc26)] (hJ5 _ (oj e5))
 exact mJ 1 [(2,fo hc21),(4,fo hc23),(5,fo hc25),(5,fo hc26),(2,fl Ar a_1.1.By),(2,fl Ar a_.1.By)] (hJ5 _ (oj e5))
 exact mJ 1 [(2,fo hc21),(4,fo hc23),(5,fo hc25)] (hJ5 _ (oj e5))
 refine cD 0 [] e4 (fun hc27 e4=>?_) fun hc27 e4=>?_
 obtain⟨x4,hx4,e4⟩:=Ae e4
 obtain⟨x5,hx5,e4⟩:=Ae e4
 exact mJ 1 [(3,fi Ar hx4),(1,fi Ap hx5)] (hJ4 _ (oj e4))
 exact mJ 0 [] (hJ4 _ (oj e4))
 rcases Aj e3 with⟨hc28,e3⟩|⟨hc28,e3⟩
 rcases Aj e3 with⟨hc29,e3⟩|⟨hc29,e3⟩
 exact mJ 1 [(1,fo hc28),(5,fo hc29)] (hJ3 _ (oj e3))
 exact mJ 1 [(1,fo hc28),(5,fo hc29)] (hJ3 _ (oj e3))
 exact mJ 1 [(1,fo hc28)] (hJ3 _ (oj e3))
 rcases Aj e1 with⟨hc32,e1⟩|⟨hc32,e1⟩
 exact mJ 1 [(3,fo hc32)] (hJ1 _ (oj e1))
 exact mJ 1 [(3,fo hc32)] (hJ1 _ (oj e1))
 obtain⟨f,hf,e⟩:=Ae e
 rcases Aj e with⟨hc34,e⟩|⟨hc34,e⟩
 exact mJ 1 [(2,fk (JZ _ _ _ _ hf)),(1,fo hc34)] (hJ _ (oj e))
 obtain⟨c,hc35,e⟩:=Ae e
 exact mJ 1 [(2,fk (JZ _ _ _ _ hf)),(1,fo hc34),(1,fk (GJ _ _ _ hc35))] (hJ _ (oj e))
end Go.Proofs.YtehfpameijkafaaGreatDoor
