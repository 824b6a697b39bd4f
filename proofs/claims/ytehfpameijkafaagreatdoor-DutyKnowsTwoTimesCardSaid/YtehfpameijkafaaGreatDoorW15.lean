/-
  Plain facts on blanks and single tokens. No program. Plain facts on sources: joined, cut, with blanks put in, printed and read again. No program. A matrix of bytes that a call made itself and writes into: its rows lie in blocks of their own. No program. More of lists in memory: appending any list, an empty one and nil too; regions whose end is named. No program. Tokens in memory, the reader's state, strings as lists of bytes. No program. Plain facts of sources, as bytes. No program. What strconv.Atoi does with a word that begins with a digit. No program. Plain facts that the walks of the lexer use. Plain facts of what is left of a source. Plain facts for examples: what is read by running; line feeds and wide characters. No program. The lifted lexer reads as the plain one. What the lexer's functions answer, in the form that lifted walks use: Tokens, the reference's Tokens, Text. The walks of statute: Forms: the program computes the plain functions. (Printed by lift.py.) The walks of statute: Compile: the program computes the plain functions. (Printed by lift.py.) The walks of statute: the reference of statute: the program computes the plain functions. (Printed by lift.py.) The walks of duty: what the laws share. (Printed by lift.py.) The walks of duty: DutyKnowsTwoTimes. (Printed by lift.py.)
-/
import Derived.Laws.CopyOwn
import Derived.Lib.Strings
import Derived.Lib.AtoiAll
import Derived.Laws.RangeAny
import Derived.Test.YtehfpameijkafaaGreatDoorW1
import Derived.Test.YtehfpameijkafaaGreatDoorW2
import Derived.Test.YtehfpameijkafaaGreatDoorW6
import Derived.Test.YtehfpameijkafaaGreatDoorW10
import Derived.Test.YtehfpameijkafaaGreatDoorW11
import Derived.Test.YtehfpameijkafaaGreatDoorW12
import Derived.Test.YtehfpameijkafaaGreatDoorW13
import Derived.Test.YtehfpameijkafaaGreatDoorW14
set_option linter.unusedVariables false
set_option linter.unusedSimpArgs false
namespace Go.Lx
theorem KC (c:UInt8)(r:List UInt8):skip false (c::r)=if ET c then skip false r else if c=35 then skip true r else c::r:=rfl
theorem Ln (c:UInt8)(r:List UInt8):skip true (c::r)=if c=10 then skip false r else skip true r:=rfl
theorem HF:∀ (m:Bool) (r:List UInt8),(skip m r).length<=r.length
 |_,[]=>by cases ‹Bool›<;>exact Nat.le_refl _
 |false,c::r=>by
  unfold skip
  split
  . have:=HF false r;simp only [List.length_cons];omega
  . split
    . have:=HF true r;simp only [List.length_cons];omega
    . exact Nat.le_refl _
 |true,c::r=>by
  unfold skip
  split
  . have:=HF false r;simp only [List.length_cons];omega
  . have:=HF true r;simp only [List.length_cons];omega
theorem HE:∀ (m:Bool) (a:List UInt8),∃ u,a=u++skip m a
 |m,[]=>⟨[],by cases m<;>rfl⟩
 |false,d::a=>by
  unfold skip
  split
  . obtain⟨u,h⟩:=HE false a;exact⟨d::u,by rw [List.cons_append,<- h]⟩
  . split
    . obtain⟨u,h⟩:=HE true a;exact⟨d::u,by rw [List.cons_append,<- h]⟩
    . exact⟨[],rfl⟩
 |true,d::a=>by
  unfold skip
  split
  . obtain⟨u,h⟩:=HE false a;exact⟨d::u,by rw [List.cons_append,<- h]⟩
  . obtain⟨u,h⟩:=HE true a;exact⟨d::u,by rw [List.cons_append,<- h]⟩
def Sep (t x:List UInt8):Prop:=x=[]∨(∃ c r,x=c::r/\(ET c=true∨c=35))∨(∃ c r r',x=c::r/\t=c::r')
theorem Gf (p:UInt8->Bool):∀ (u x:List UInt8),(∀ c∈u,p c=true)->Cw p x=false->(u++x).takeWhile p=u/\(u++x).dropWhile p=x
 | [],x,_,h=>by
  cases x with
  |nil=>exact⟨rfl,rfl⟩
  |cons c r=>have:p c=false:=h;simp [this]
 |d::u,x,hu,h=>by
  obtain⟨h1,h2⟩:=Gf p u x (fun c hc=>hu c (List.mem_cons_of_mem _ hc)) h
  have hd:=hu d (List.mem_cons_self ..)
  simp [hd,h1,h2]
theorem HQ (p:UInt8->Bool):∀ (r:List UInt8),(∀ c∈r.takeWhile p,p c=true)/\Cw p (r.dropWhile p)=false/\r=r.takeWhile p++r.dropWhile p
 | []=>⟨by simp,rfl,rfl⟩
 |d::r=>by
  obtain⟨h1,h2,h3⟩:=HQ p r
  by_cases hd:p d=true
  . simp only [List.takeWhile_cons,List.dropWhile_cons,hd,if_true]
    refine⟨fun c hc=>?_,h2,by rw [List.cons_append,<- h3]⟩
    rcases List.mem_cons.1 hc with rfl|h
    . exact hd
    . exact h1 c h
  . simp only [List.takeWhile_cons,List.dropWhile_cons,if_neg hd]
    exact⟨by simp,by show p d=false;simpa using hd,rfl⟩
theorem He {c:UInt8}(h:ET c=true∨c=35):isWord c=false/\isDigit c=false/\BU c=false:=by
 have:c=32∨c=9∨c=10∨c=13∨c=35:=by
  rcases h with h|h
  . simp only [ET,Bool.or_eq_true,beq_iff_eq] at h
    rcases h with ((h|h)|h)|h<;>simp [h]
  . simp [h]
 rcases this with rfl|rfl|rfl|rfl|rfl<;>decide
theorem Qg {p:UInt8->Bool}{t x:List UInt8}(h:Sep t x)(ht:Cw p t=false)(hb:∀ c,(ET c=true∨c=35)->p c=false):Cw p x=false:=by
 rcases h with rfl|⟨c,r,rfl,hc⟩|⟨c,r,r',rfl,rfl⟩
 . rfl
 . exact hb c hc
 . exact ht
theorem Wt {r s t:List UInt8}{k v:Nat}(h:name r=.ok k s v t):k=1/\v=0/\r=s++t/\(∀ c∈s,isWord c=true)/\Cw isWord t=false/\s.length<=32:=by
 unfold name at h
 split at h
 . cases h
 . cases h
   obtain⟨h1,h2,h3⟩:=HQ isWord r
   exact⟨rfl,rfl,h3,h1,h2,by omega⟩
theorem Acj {s x:List UInt8}(h1:∀ c∈s,isWord c=true)(h2:Cw isWord x=false)(h3:s.length<=32):name (s++x)=.ok 1 s 0 x:=by
 obtain⟨e1,e2⟩:=Gf isWord s x h1 h2
 unfold name
 rw [e1,e2,if_neg (by omega)]
end Go.Lx
namespace Go.Lx
theorem UK (d:List UInt8)(c:UInt8):EB (d++[c])=10*EB d+(c.toNat-48):=by
 unfold EB;rw [List.foldl_append];rfl
def dec (n:Nat):List UInt8:=if h:n<10 then [UInt8.ofNat (48+n)] else dec (n / 10)++[UInt8.ofNat (48+n % 10)]
termination_by n
decreasing_by omega
theorem K2 {c:UInt8}(h:isDigit c=true):48<=c.toNat/\c.toNat<=57:=by
 simp only [isDigit,Bool.and_eq_true,decide_eq_true_eq,UInt8.le_iff_toNat_le] at h
 exact⟨h.1,h.2⟩
theorem OZ {c:UInt8}(h:isDigit c=true):UInt8.ofNat (48+(c.toNat-48))=c:=by
 have:=K2 h
 rw [show 48+(c.toNat-48)=c.toNat by omega]
 exact UInt8.ofNat_toNat
theorem Wr:∀ (d:List UInt8) (c:UInt8),isDigit c=true->c≠48->(∀ x∈d,isDigit x=true)->1<=EB (c::d):=by
 intro d c hc h48 hd
 have hb:=K2 hc
 have hne:c.toNat≠48:=fun e=>h48 (UInt8.toNat_inj.1 (by rw [e];rfl))
 have key:∀ (l:List UInt8) (a:Nat),1<=a->1<=l.foldl (fun n c=>10*n+(c.toNat-48)) a:=by
  intro l
  induction l with
  |nil=>intro a h;exact h
  |cons x l ih=>intro a h;exact ih _ (show 1<=10*a+(x.toNat-48) by omega)
 exact key d _ (show 1<=10*0+(c.toNat-48) by omega)
theorem Rb:∀ (n:Nat) (d:List UInt8),d.length=n->d≠[]->(∀ c∈d,isDigit c=true)->(1<d.length->Cw (· == 48) d=false)->dec (EB d)=d
 |0,d,hl,hne,_,_=>absurd (List.eq_nil_of_length_eq_zero hl) hne
 |n+1,d,hl,hne,hd,hz=>by
  obtain⟨d',c,rfl⟩:∃ d' c,d=d'++[c]:=⟨d.dropLast,d.getLast hne,(List.dropLast_concat_getLast hne).symm⟩
  have hc:=hd c (by simp)
  have hb:=K2 hc
  rw [UK]
  by_cases h0:d'=[]
  . subst h0
    have e:EB []=0:=rfl
    rw [e,dec,dif_pos (by omega)]
    simp only [Nat.mul_zero,Nat.zero_add,OZ hc,List.nil_append]
  . have hd':∀ x∈d',isDigit x=true:=fun x hx=>hd x (by simp [hx])
    obtain⟨a,r,rfl⟩:∃ a r,d'=a::r:=by cases d' with|nil=>exact absurd rfl h0|cons a r=>exact⟨a,r,rfl⟩
    have ha:a≠48:=by
     have:=hz (by simp)
     have h2:(a == 48)=false:=this
     simpa using h2
    have hp:=Wr r a (hd' a (by simp)) ha (fun x hx=>hd' x (by simp [hx]))
    have ih:=Rb n (a::r) (by simp at hl ⊢;omega) (by simp) hd' (fun _=>by show (a == 48)=false;simpa using ha)
    rw [dec,dif_neg (by omega)]
    rw [show (10*EB (a::r)+(c.toNat-48)) / 10=EB (a::r) by omega,show (10*EB (a::r)+(c.toNat-48)) % 10=c.toNat-48 by omega,ih,OZ hc]
theorem N1 {r s t:List UInt8}{k v:Nat}(h:number r=.ok k s v t):∃ d,k=2/\s=[]/\v=EB d/\r=d++t/\(∀ c∈d,isDigit c=true)/\Cw isDigit t=false/\Cw BU t=false/\d.length<=15/\(1<d.length->Cw (· == 48) r=false):=by
 unfold number at h
 simp only at h
 split at h
 . cases h
 . rename_i hn
   cases h
   obtain⟨h1,h2,h3⟩:=HQ isDigit r
   simp only [Bool.or_eq_true,Bool.and_eq_true,decide_eq_true_eq,not_or,not_and] at hn
   obtain⟨⟨hn1,hn2⟩,hn3⟩:=hn
   exact⟨_,rfl,rfl,rfl,h3,h1,h2,by simpa using hn3,by omega,fun h=>by simpa using hn2 h⟩
theorem Y3 {d x:List UInt8}(h1:∀ c∈d,isDigit c=true)(h2:Cw isDigit x=false)(h3:Cw BU x=false)(h4:d.length<=15)(h5:1<d.length->Cw (· == 48) (d++x)=false):number (d++x)=.ok 2 [] (EB d) x:=by
 obtain⟨e1,e2⟩:=Gf isDigit d x h1 h2
 unfold number
 simp only
 rw [e1,e2,if_neg]
 simp only [Bool.or_eq_true,Bool.and_eq_true,decide_eq_true_eq,not_or,not_and]
 exact⟨⟨by omega,fun h=>by simpa using h5 h⟩,by simpa using h3⟩
theorem H3 (a b:List UInt8):quoted (a++b)=quoted a++quoted b:=List.flatMap_append
theorem OW {d:UInt8}(h:pair d≠0):quoted [pair d]=[92,d]:=by
 unfold pair at h ⊢
 by_cases h1:d=34∨d=92
 . rw [if_pos h1]
   rcases h1 with rfl|rfl<;>decide
 . rw [if_neg h1] at h ⊢
   by_cases h2:d=110
   . subst h2;decide
   . rw [if_neg h2] at h;exact absurd rfl h
theorem Nw {c:UInt8}(h1:c≠34)(h2:c≠92)(h3:¬ (c<32∨126<c)):quoted [c]=[c]:=by
 have h4:c≠10:=fun e=>h3 (.inl (by rw [e];decide))
 simp [quoted,h1,h2,h4]
theorem VU:∀ (n:Nat) (r b:List UInt8),r.length<=n->∀ {s t:List UInt8} {k v:Nat},text b r=.ok k s v t ->
 ∃ body,k=3/\v=0/\s=b++body/\r=quoted body++34::t/\∀ x,text b (quoted body++34::x)=.ok 3 s 0 x:=by
 intro n
 induction n with
 |zero =>
  intro r b hr s t k v h
  obtain rfl:=List.eq_nil_of_length_eq_zero (Nat.le_zero.1 hr)
  unfold text at h
  split at h<;>cases h
 |succ n ih =>
  intro r b hr s t k v h
  cases r with
  |nil=>unfold text at h;split at h<;>cases h
  |cons c r =>
   unfold text at h
   by_cases hb:200<b.length
   . rw [if_pos hb] at h;cases h
   rw [if_neg hb] at h
   by_cases h34:c=34
   . rw [if_pos h34] at h
     cases h
     refine⟨[],rfl,rfl,by simp,by rw [h34];rfl,fun x=>?_⟩
     show text b (34::x)=_
     unfold text
     rw [if_neg hb,if_pos rfl]
   rw [if_neg h34] at h
   by_cases h92:c=92
   . rw [if_pos h92] at h
     cases r with
     |nil=>cases h
     |cons d r' =>
      simp only at h
      by_cases hp:pair d=0
      . rw [if_pos hp] at h;cases h
      . rw [if_neg hp] at h
        obtain⟨body,e1,e2,e3,e4,e5⟩:=ih r' _ (by simp at hr;omega) h
        refine⟨pair d::body,e1,e2,by rw [e3];simp,?_,fun x=>?_⟩
        . rw [show pair d::body=[pair d]++body from rfl,H3,OW hp,e4,h92];rfl
        . rw [show pair d::body=[pair d]++body from rfl,H3,OW hp]
          show text b (92::d::(quoted body++34::x))=_
          unfold text
          rw [if_neg hb,if_neg (by decide),if_pos rfl]
          simp only
          rw [if_neg hp]
          exact e5 x
   . rw [if_neg h92] at h
     by_cases hr2:c<32∨126<c
     . rw [if_pos hr2] at h;cases h
     . rw [if_neg hr2] at h
       obtain⟨body,e1,e2,e3,e4,e5⟩:=ih r _ (by simp at hr;omega) h
       refine⟨c::body,e1,e2,by rw [e3];simp,?_,fun x=>?_⟩
       . rw [show c::body=[c]++body from rfl,H3,Nw h34 h92 hr2,e4];rfl
       . rw [show c::body=[c]++body from rfl,H3,Nw h34 h92 hr2]
         show text b (c::(quoted body++34::x))=_
         unfold text
         rw [if_neg hb,if_neg h34,if_neg h92,if_neg hr2]
         exact e5 x
theorem Q5 {l:List UInt8}(h:l∈long):l.length=2:=by
 have:∀ l∈long,l.length=2:=by decide
 exact this l h
theorem UP {a b:UInt8}(h:[a,b]∈long):ET b=false/\b≠35:=by
 have:∀ l∈long,∀ b,l[1]?=some b->ET b=false/\b≠35:=by
  intro l hl b hb
  simp only [long,List.mem_cons,List.not_mem_nil,or_false] at hl
  rcases hl with rfl|rfl|rfl|rfl|rfl|rfl|rfl|rfl|rfl<;>(simp at hb;subst hb;decide)
 exact this _ h b rfl
theorem We {r s t:List UInt8}{k v:Nat}(h:sign r=.ok k s v t):k=4/\v=0/\r=s++t/\((s∈long)∨(∃ c,s=[c]/\c∈short/\r.take 2∉long)):=by
 unfold sign at h
 by_cases hl:r.take 2∈long
 . rw [if_pos hl] at h;cases h;exact⟨rfl,rfl,(List.take_append_drop 2 r).symm,.inl hl⟩
 . rw [if_neg hl] at h
   cases r with
   |nil=>cases h
   |cons c r' =>
    simp only at h
    by_cases hs:c∈short
    . rw [if_pos hs] at h;cases h;exact⟨rfl,rfl,rfl,.inr ⟨c,rfl,hs,hl⟩⟩
    . rw [if_neg hs] at h;cases h
theorem Ab2 {s t x:List UInt8}(h:(s∈long)∨(∃ c,s=[c]/\c∈short/\(s++t).take 2∉long))(hx:Sep t x):sign (s++x)=.ok 4 s 0 x:=by
 unfold sign
 rcases h with h|⟨c,rfl,hc,hn⟩
 . have hl:=Q5 h
   have e1:(s++x).take 2=s:=by rw [<- hl];exact List.take_left
   have e2:(s++x).drop 2=x:=by rw [<- hl];exact List.drop_left
   rw [e1,e2,if_pos h]
 . have hno:([c]++x).take 2∉long:=by
    rcases hx with rfl|⟨d,r,rfl,hd⟩|⟨d,r,r',rfl,rfl⟩
    . intro h;have:=Q5 h;simp at this
    . intro h
      have h2:[c,d]∈long:=h
      obtain⟨h3,h4⟩:=UP h2
      rcases hd with hd|hd
      . rw [hd] at h3;cases h3
      . exact h4 hd
    . exact hn
   rw [if_neg hno]
   simp only [List.singleton_append]
   rw [if_pos hc]
def word (k:Nat)(s:List UInt8)(v:Nat):List UInt8:=if k=1∨k=4 then s else if k=2 then dec v else if k=3 then 34::quoted s++[34] else []
theorem RX {r s t:List UInt8}{k v:Nat}(h:tok r=.ok k s v t) :
 word k s v≠[]/\r=word k s v++t/\(∀ x,Sep t x->tok (word k s v++x)=.ok k s v x)/\1<=k/\k<=4:=by
 unfold tok at h
 cases r with
 |nil=>cases h
 |cons c r' =>
  simp only at h
  by_cases hl:BU c=true
  . rw [if_pos hl] at h
    obtain⟨rfl,rfl,e,h1,h2,h3⟩:=Wt h
    have hw:word 1 s 0=s:=rfl
    have hs:s≠[]:=by
     rintro rfl
     rw [List.nil_append] at e
     rw [<- e] at h2
     have:isWord c=false:=h2
     simp [isWord,hl] at this
    obtain⟨d,s',rfl⟩:∃ d s',s=d::s':=by cases s with|nil=>exact absurd rfl hs|cons d s'=>exact⟨d,s',rfl⟩
    have hd:d=c:=by simp at e;exact e.1.symm
    subst hd
    rw [hw]
    refine⟨hs,e,fun x hx=>?_,by omega,by omega⟩
    rw [List.cons_append]
    unfold tok
    simp only
    rw [if_pos hl,<- List.cons_append]
    exact Acj h1 (Qg hx h2 fun c hc=>(He hc).1) h3
  rw [if_neg hl] at h
  by_cases hd:isDigit c=true
  . rw [if_pos hd] at h
    obtain⟨d,rfl,rfl,rfl,e,h1,h2,h3,h4,h5⟩:=N1 h
    have hdn:d≠[]:=by
     rintro rfl
     rw [List.nil_append] at e
     rw [<- e] at h2
     have:isDigit c=false:=h2
     rw [hd] at this;cases this
    obtain⟨a,d',rfl⟩:∃ a d',d=a::d':=by cases d with|nil=>exact absurd rfl hdn|cons a d'=>exact⟨a,d',rfl⟩
    have ha:a=c:=by simp at e;exact e.1.symm
    subst ha
    have h6:1<(a::d').length->Cw (· == 48) (a::d')=false:=fun h=>by have:=h5 h;exact this
    have hw:word 2 [] (EB (a::d'))=a::d':=by
     show dec _=_
     exact Rb _ _ rfl hdn h1 h6
    rw [hw]
    refine⟨hdn,e,fun x hx=>?_,by omega,by omega⟩
    rw [List.cons_append]
    unfold tok
    simp only
    rw [if_neg hl,if_pos hd,<- List.cons_append]
    exact Y3 h1 (Qg hx h2 fun c hc=>(He hc).2.1) (Qg hx h3 fun c hc=>(He hc).2.2) h4 (fun h=>h6 h)
  rw [if_neg hd] at h
  by_cases hq:c=34
  . rw [if_pos hq] at h
    obtain⟨body,rfl,rfl,e3,e4,e5⟩:=VU _ _ _ (Nat.le_refl _) h
    rw [List.nil_append] at e3
    subst e3
    have hw:word 3 s 0=34::quoted s++[34]:=rfl
    rw [hw]
    refine⟨by simp,by rw [hq,e4];simp,fun x _=>?_,by omega,by omega⟩
    rw [List.append_assoc]
    show tok (34::(quoted s++34::x))=_
    unfold tok
    simp only
    rw [if_neg (by decide),if_neg (by decide),if_pos trivial]
    exact e5 x
  rw [if_neg hq] at h
  obtain⟨rfl,rfl,e,h1⟩:=We h
  have hw:word 4 s 0=s:=rfl
  rw [hw]
  have hs:s≠[]:=by
   rcases h1 with h1|⟨c,rfl,_⟩
   . have:=Q5 h1;rintro rfl;simp at this
   . simp
  obtain⟨a,s',rfl⟩:∃ a s',s=a::s':=by cases s with|nil=>exact absurd rfl hs|cons a s'=>exact⟨a,s',rfl⟩
  have ha:a=c:=by simp at e;exact e.1.symm
  subst ha
  refine⟨hs,e,fun x hx=>?_,by omega,by omega⟩
  rw [List.cons_append]
  unfold tok
  simp only
  rw [if_neg hl,if_neg hd,if_neg hq,<- List.cons_append]
  exact Ab2 (t:=t) (by rw [<- e];exact h1) hx
end Go.Lx
namespace Go.Lx
inductive Good (n:Nat):List UInt8->List Tok->Prop
 |fin:Good n [] [⟨5,n,[],0⟩]
 |cons {r s t:List UInt8} {k v:Nat} {l:List Tok}:tok r=.ok k s v t->Good n (skip false t) l->Good n r (⟨k,n-r.length,s,v⟩::l)
inductive Bad (n:Nat):List UInt8->Nat->Nat->Prop
 |here {r:List UInt8} {e:Nat}:r≠[]->tok r=.bad e->Bad n r (n-r.length) e
 |later {r s t:List UInt8} {k v p e:Nat}:tok r=.ok k s v t->Bad n (skip false t) p e->Bad n r p e
theorem Xw {r s t:List UInt8}{k v:Nat}(h:tok r=.ok k s v t):t.length<r.length:=by
 obtain⟨h1,h2,_⟩:=RX h
 have:0<(word k s v).length:=List.length_pos_iff.2 h1
 rw [h2,List.length_append];omega
theorem Good.unique {n:Nat}{r:List UInt8}{l l':List Tok}(h:Good n r l)(h':Good n r l'):l=l':=by
 induction h generalizing l' with
 |fin=>cases h' with|fin=>rfl|cons h _=>cases h
 |cons ht _ ih =>
  cases h' with
  |fin=>cases ht
  |cons ht' hg'=>rw [ht] at ht';cases ht';rw [ih hg']
theorem Good.notBad {n p e:Nat}{r:List UInt8}{l:List Tok}(h:Good n r l)(h':Bad n r p e):False:=by
 induction h with
 |fin=>cases h' with|here h _=>exact h rfl|later h _=>cases h
 |cons ht _ ih =>
  cases h' with
  |here _ hb=>rw [ht] at hb;cases hb
  |later ht' hb=>rw [ht] at ht';cases ht';exact ih hb
theorem Bad.unique {n p e p' e':Nat}{r:List UInt8}(h:Bad n r p e)(h':Bad n r p' e'):p=p'/\e=e':=by
 induction h with
 |here _ hb=>cases h' with|here _ hb'=>rw [hb] at hb';cases hb';exact⟨rfl,rfl⟩|later ht _=>rw [hb] at ht;cases ht
 |later ht _ ih=>cases h' with|here _ hb'=>rw [ht] at hb';cases hb'|later ht' hb=>rw [ht] at ht';cases ht';exact ih hb
end Go.Lx



namespace Go.Proofs.YtehfpameijkafaaGreatDoor
open Go.RowKit Go.Q Go.Lx
variable {w:World}
def cls (c:UInt8):Nat:=if BU c then 3 else if isDigit c then 2 else if ET c then 1 else 0
theorem Wy (c:UInt8):BU c=true↔((97<=(c.toNat:Int)/\(c.toNat:Int)<=122)∨(65<=(c.toNat:Int)/\(c.toNat:Int)<=90)∨(c.toNat:Int)=95):=by
 have e:c=95↔c.toNat=95:=by rw [<- UInt8.toNat_inj];rfl
 simp only [BU,ú,Å,Î,UInt8.le_iff_toNat_le,ā,e]
 have a1:(97:UInt8).toNat=97:=rfl
 have a2:(122:UInt8).toNat=122:=rfl
 have a3:(65:UInt8).toNat=65:=rfl
 have a4:(90:UInt8).toNat=90:=rfl
 rw [a1,a2,a3,a4];omega
theorem YU (c:UInt8):isDigit c=true↔(48<=(c.toNat:Int)/\(c.toNat:Int)<=57):=by
 simp only [isDigit,Å,Î,UInt8.le_iff_toNat_le]
 have a1:(48:UInt8).toNat=48:=rfl
 have a2:(57:UInt8).toNat=57:=rfl
 rw [a1,a2];omega
theorem eq_iff (c d:UInt8):c=d↔(c.toNat:Int)=(d.toNat:Int):=by rw [<- UInt8.toNat_inj];omega
end Go.Proofs.YtehfpameijkafaaGreatDoor
namespace Go.Proofs.YtehfpameijkafaaGreatDoor
open Go.RowKit Go.Q Go.Lx
variable {w:World}
abbrev bl (s:Æ):List UInt8:=s.data.toList
theorem F0 (s:Æ):(bl s).length=s.size:=(Lib.size_eq s).symm
theorem FY (s:Æ)(i:Nat)(h:i<s.size):(bl s).drop i=s[i]::(bl s).drop (i+1):=by
 rw [Ğ (by rw [F0];exact h)];rfl
theorem Nc (s:Æ):(bl s).drop s.size=[]:=by rw [<- F0];exact List.drop_length
theorem Xf (s:Æ)(a b:Nat):bl (s.extract a b)=((bl s).drop a).take (b-a):=Lib.extract_data s a b
theorem Oi {c:UInt8}{r:List UInt8}(h:ET c=true):skip false (c::r)=skip false r:=by rw [KC,Ç h]
theorem Oh {c:UInt8}{r:List UInt8}(h:c=35):skip false (c::r)=skip true r:=by subst h;rfl
theorem Qe {c:UInt8}{r:List UInt8}(h:¬ c=10):skip true (c::r)=skip true r:=by rw [Ln,Ä h]
end Go.Proofs.YtehfpameijkafaaGreatDoor
namespace Go.Proofs.YtehfpameijkafaaGreatDoor
open Go.RowKit Go.Q Go.Lx
variable {w:World} {S:Reg} {A:Option Addr} {cap:Nat}
def IT (p:UInt8->Bool)(s:Æ)(a b:Nat):Prop:=∀ c∈((bl s).drop a).take (b-a),p c=true
theorem IT.nil (p:UInt8->Bool)(s:Æ)(a:Nat):IT p s a a:=by intro c hc;rw [Nat.sub_self] at hc;simp at hc
theorem IT.succ {p:UInt8->Bool}{s:Æ}{a b:Nat}(h:IT p s a b)(hab:a<=b)(hb:b<s.size)(hp:p s[b]=true):IT p s a (b+1):=by
 intro c hc
 have e:b+1-a=(b-a)+1:=by omega
 rw [e,List.take_add_one,List.getElem?_drop,show a+(b-a)=b by omega] at hc
 rcases List.mem_append.1 hc with hc|hc
 . exact h c hc
 . rw [Ã (by rw [F0];exact hb)] at hc
   simp only [Option.toList_some,List.mem_singleton] at hc
   rw [hc];exact hp
theorem IT.while {p:UInt8->Bool}{s:Æ}{a b:Nat}(h:IT p s a b)(hab:a<=b)(hb:Cw p ((bl s).drop b)=false) :
 ((bl s).drop a).takeWhile p=((bl s).drop a).take (b-a)/\((bl s).drop a).dropWhile p=(bl s).drop b:=by
 have e:(bl s).drop a=((bl s).drop a).take (b-a)++(bl s).drop b:=by
  have:=(Ĉ (b-a) ((bl s).drop a)).symm
  rw [Ħ,show a+(b-a)=b by omega] at this
  exact this
 have:=Gf p _ _ h hb
 rw [<- e] at this
 exact this
theorem XP {p:UInt8->Bool}(s:Æ)(b:Nat)(hb:b<=s.size)(h:∀ hlt:b<s.size,p s[b]=false):Cw p ((bl s).drop b)=false:=by
 by_cases hlt:b<s.size
 . rw [FY s b hlt];exact h hlt
 . obtain rfl:b=s.size:=by omega
   rw [Nc];rfl
theorem No (s:Æ)(a b:Nat)(hab:a<=b)(hb:b<=s.size):(((bl s).drop a).take (b-a)).length=b-a:=by
 rw [List.length_take,û,F0];omega
end Go.Proofs.YtehfpameijkafaaGreatDoor
namespace Go.Proofs.YtehfpameijkafaaGreatDoor
open Go.RowKit Go.Q Go.Lx
variable {w:World} {S:Reg} {A:Option Addr} {cap:Nat}
theorem Qx {s:Æ}{p j:Nat}(hw:((bl s).drop p).takeWhile isDigit=((bl s).drop p).take (j-p)/\((bl s).drop p).dropWhile isDigit=(bl s).drop j)(hlen:(((bl s).drop p).take (j-p)).length=j-p)
 (h:15<j-p∨(1<j-p/\Cw (· == 48) ((bl s).drop p)=true)∨Cw BU ((bl s).drop j)=true):number ((bl s).drop p)=.bad 27:=by
 unfold number
 simp only
 rw [hw.1,hw.2,hlen,Ç]
 simp only [ú,Å,Î]
 rcases h with h|h|h
 . exact .inl (.inl h)
 . exact .inl (.inr h)
 . exact .inr h
theorem UI {s:Æ}{p j:Nat}(hpj:p<=j)(hj:j<=s.size)(h15:j-p<=15)(hd:IT isDigit s p j)(hn:Cw isDigit ((bl s).drop j)=false)(hl:Cw BU ((bl s).drop j)=false)(hz:1<j-p->Cw (· == 48) ((bl s).drop p)=false) :
 number ((bl s).drop p)=.ok 2 [] (EB (((bl s).drop p).take (j-p))) ((bl s).drop j):=by
 have hw:=hd.while hpj hn
 unfold number
 simp only
 rw [hw.1,hw.2,No s p j hpj hj,Ä]
 simp only [ú,Å,Î,not_or,not_and]
 exact⟨⟨by omega,fun h=>by simpa using hz h⟩,by simpa using hl⟩
end Go.Proofs.YtehfpameijkafaaGreatDoor
namespace Go.Lx
open Go
theorem IN {c:UInt8}:isDigit c=true↔(48<=c.toNat/\c.toNat<=57):=by
 simp only [isDigit,Bool.and_eq_true,decide_eq_true_eq,UInt8.le_iff_toNat_le]
 exact Iff.rfl
theorem Ny:∀ (l:List UInt8) (acc u:Nat),Lib.parseUint10 acc l=.ok u->∀ c∈l,isDigit c=true
 | [],_,_,_,c,h=>by cases h
 |d::r,acc,u,h,c,hc=>by
  unfold Lib.parseUint10 at h
  by_cases hd:48<=d.toNat/\d.toNat<=57
  . rw [if_pos hd] at h
    split at h
    . cases h
    . split at h
      . cases h
      . rcases List.mem_cons.1 hc with rfl|hc
        . exact IN.2 hd
        . exact Ny r _ u h c hc
  . rw [if_neg hd] at h;cases h
theorem U8:∀ (d:List UInt8) (acc:Nat),(∀ c∈d,isDigit c=true)->(acc+1)*10 ^ d.length<=10 ^ 18->Lib.parseUint10 acc d=.ok (d.foldl (fun n c=>10*n+(c.toNat-48)) acc)
 | [],_,_,_=>rfl
 |c::r,acc,hd,hb=>by
  have hc:=IN.1 (hd c (by simp))
  have hp:1<=10 ^ r.length:=Nat.pow_pos (by decide:0<10)
  have e:(acc+1)*10 ^ (c::r).length=((acc+1)*10)*10 ^ r.length:=by rw [List.length_cons,Nat.pow_succ,Nat.mul_assoc,Nat.mul_comm (10 ^ r.length) 10]
  rw [e] at hb
  have h10:(acc+1)*10<=10 ^ 18:=Nat.le_trans (Nat.le_mul_of_pos_right _ hp) hb
  have h18:(10:Nat) ^ 18=1000000000000000000:=by decide
  rw [h18] at h10
  unfold Lib.parseUint10
  rw [if_pos hc,if_neg (by omega),if_neg (by omega)]
  have:=U8 r (acc*10+(c.toNat-48)) (fun x hx=>hd x (by simp [hx])) (Nat.le_trans (Nat.mul_le_mul_right _ (by omega)) hb)
  rw [this,List.foldl_cons,Nat.mul_comm acc 10]
theorem Yb {c:UInt8}{r:List UInt8}(hd:∀ x∈c::r,isDigit x=true)(hl:(c::r).length<=15):Lib.atoiAll (c::r)=.ok (EB (c::r):Int):=by
 have hc:=IN.1 (hd c (by simp))
 have hp:=U8 (c::r) 0 hd (by
  have:10 ^ (c::r).length<=10 ^ 15:=Nat.pow_le_pow_right (by omega) hl
  have h18:(10:Nat) ^ 18=1000*10 ^ 15:=by decide
  omega)
 have hlt:EB (c::r)<10 ^ 18:=by
  have key:∀ (d:List UInt8) (a:Nat),(∀ x∈d,isDigit x=true)->d.foldl (fun n c=>10*n+(c.toNat-48)) a<(a+1)*10 ^ d.length:=by
   intro d
   induction d with
   |nil=>intro a _;simp
   |cons x d ih =>
    intro a hx
    have h1:=IN.1 (hx x (by simp))
    have h2:=ih (10*a+(x.toNat-48)) (fun y hy=>hx y (by simp [hy]))
    rw [List.foldl_cons,List.length_cons,Nat.pow_succ]
    have h3:(10*a+(x.toNat-48)+1)*10 ^ d.length<=((a+1)*10)*10 ^ d.length:=Nat.mul_le_mul_right _ (by omega)
    have h4:((a+1)*10)*10 ^ d.length=(a+1)*(10 ^ d.length*10):=by rw [Nat.mul_assoc,Nat.mul_comm 10]
    omega
  have h1:=key (c::r) 0 hd
  have h2:10 ^ (c::r).length<=10 ^ 18:=Nat.pow_le_pow_right (by omega) (by omega)
  unfold EB;omega
 have h18:(10:Nat) ^ 18=1000000000000000000:=by decide
 rw [h18] at hlt
 unfold Lib.atoiAll
 simp only
 rw [if_neg (by omega)]
 unfold Lib.parseMag
 rw [if_neg (by simp),hp]
 simp only
 have e:List.foldl (fun n c=>10*n+(c.toNat-48)) 0 (c::r)=EB (c::r):=rfl
 rw [e,if_neg (by omega),if_neg (by omega),if_neg (by omega)]
theorem V9 {c:UInt8}{r:List UInt8}{v:Int}(hc:isDigit c=true)(h:Lib.atoiAll (c::r)=.ok v):∀ x∈c::r,isDigit x=true:=by
 have hb:=IN.1 hc
 unfold Lib.atoiAll at h
 simp only at h
 rw [if_neg (by omega)] at h
 cases hm:Lib.parseMag (c::r) with
 | «syntax»=>rw [hm] at h;cases h
 |range=>rw [hm] at h;cases h
 |ok u =>
  unfold Lib.parseMag at hm
  rw [if_neg (by simp)] at hm
  exact Ny _ _ _ hm
end Go.Lx
namespace Go.Proofs.YtehfpameijkafaaGreatDoor
open Go.RowKit Go.Q Go.Lx
theorem Aax (c:UInt8):isWord c=decide ((2:Int)<=(cls c:Int)):=by
 unfold cls isWord
 cases h1:BU c<;>cases h2:isDigit c<;>simp
 split<;>decide
theorem getD_at (s:Æ)(j:Nat)(h:j<s.size):s[j]=s.data.toList.getD j 0:=by
 have h2:j<s.data.size:=h
 rw [List.getD_eq_getElem?_getD,Ã (by simpa using h2)]
 simp [ByteArray.getElem_eq_getElem_data]
theorem Ug {x:Int}{n:Nat}(h:x=n)(hn:n<=4611686018427387904):À x=(n:Int):=by
 subst h;unfold À;rw [IntKind.wrap_i64];omega
theorem Ae2 {r:List UInt8}:Lib.indexByte (35::r) 10≠0:=by
 have h:=Lib.indexByte_ge r 10
 show (if ((35:UInt8) == 10)=true then (0:Int) else _)≠0
 rw [Ä (by decide)]
 split
 . decide
 . rename_i h2;simp only [ā] at h2;omega
theorem Va:∀ (r:List UInt8),(Lib.indexByte r 10<0->skip true r=[])/\(∀ k:Nat,Lib.indexByte r 10=(k:Int)->k<=r.length/\skip true r=skip false (r.drop k))
 | []=>⟨fun _=>rfl,fun k h=>by have:(-1:Int)=k:=h;omega⟩
 |b::l=>by
  have ih:=Va l
  have hge:=Lib.indexByte_ge l 10
  have e:Lib.indexByte (b::l) 10=if (b == 10)=true then 0 else if (Lib.indexByte l 10 == -1)=true then -1 else Lib.indexByte l 10+1:=rfl
  rw [e,Ln]
  by_cases hb:b=10
  . rw [Ç (by rw [hb];rfl),Ç hb]
    refine⟨fun h=>absurd h (by decide),fun k h=>?_⟩
    obtain rfl:k=0:=by omega
    exact⟨by simp,by rw [hb];rfl⟩
  . rw [Ä (by simpa using hb),Ä hb]
    by_cases hn:Lib.indexByte l 10 = -1
    . rw [Ç (by rw [hn];rfl)]
      exact⟨fun _=>ih.1 (by omega),fun k h=>by omega⟩
    . rw [Ä (by simpa using hn)]
      refine⟨fun h=>by omega,fun k h=>?_⟩
      obtain⟨h1,h2⟩:=ih.2 (k-1) (by omega)
      have hk:k=(k-1)+1:=by omega
      refine⟨by simp;omega,?_⟩
      rw [hk,List.drop_succ_cons];exact h2
theorem YX (c:UInt8)(h:ET c=true):cls c=1:=by
 have h2:=He (.inl h)
 unfold cls;rw [h2.2.2,h2.2.1,h];rfl
theorem RS (c:UInt8)(h:ET c=false):((cls c:Int) == 1)=false:=by
 unfold cls;rw [h];cases BU c<;>cases isDigit c<;>rfl
theorem OD {c:UInt8}(h:isDigit c=true):BU c=false:=by
 cases hl:BU c with
 |false=>rfl
 |true=>rw [Wy] at hl;rw [YU] at h;omega
theorem Uz {s:Æ}{p j:Nat}(hp:p<s.size)(hpj:p<=j)(hall:IT isWord s p j)(hhd:Cw isWord ((bl s).drop j)=false)(hw:isWord s[p]=true):p<j:=by
 rcases Nat.lt_or_ge p j with h|h
 . exact h
 . obtain rfl:p=j:=by omega
   rw [FY s p hp] at hhd
   have:isWord s[p]=false:=hhd
   rw [hw] at this;cases this
theorem Aaf {s x:Æ}{p n:Nat}(h:bl x=((bl s).drop p).take n)(hx:0<x.size)(hp:p<s.size):x[0]=s[p]:=by
 have h1:=FY x 0 hx
 rw [List.drop_zero,h,FY s p hp] at h1
 cases n with
 |zero=>simp at h1
 |succ n=>rw [ģ] at h1;exact (Ġ h1).1.symm
theorem UJ (r:List UInt8):number r=.bad 27∨∃ v t,number r=.ok 2 [] v t:=by
 unfold number;simp only;split
 . exact .inl rfl
 . exact .inr ⟨_,_,rfl⟩
theorem Qz {x:List UInt8}(h:Cw isWord x=false):Cw isDigit x=false/\Cw BU x=false:=by
 cases x with
 |nil=>exact⟨rfl,rfl⟩
 |cons c r =>
  have h2:isWord c=false:=h
  simp only [isWord,Bool.or_eq_false_iff] at h2
  exact⟨h2.2,h2.1⟩
theorem UH {s:Æ}{p j:Nat}(hp:p<s.size)(hpj:p<=j)(hj:j<=s.size)(hall:IT isWord s p j)(hhd:Cw isWord ((bl s).drop j)=false)(hd:isDigit s[p]=true) :
 ((∀ v,Lib.atoiAll (((bl s).drop p).take (j-p))≠.ok v)->number ((bl s).drop p)=.bad 27) /\
 (∀ v,Lib.atoiAll (((bl s).drop p).take (j-p))=.ok v->(15<j-p∨(1<j-p/\s[p]=48)->number ((bl s).drop p)=.bad 27) /\
  (¬ 15<j-p->¬ (1<j-p/\s[p]=48)->number ((bl s).drop p)=.ok 2 [] v.toNat ((bl s).drop j)/\v=(v.toNat:Int))):=by
 have hlt:=Uz hp hpj hall hhd (by simp [isWord,hd])
 obtain⟨hn1,hn2⟩:=Qz hhd
 have hW:((bl s).drop p).take (j-p)=s[p]::((bl s).drop (p+1)).take (j-p-1):=by
  rw [FY s p hp,show j-p=(j-p-1)+1 by omega,ģ];simp
 refine⟨fun hno=>?_,fun v hv=>?_⟩
 . rcases UJ ((bl s).drop p) with h|⟨v,t,h⟩
   . exact h
   . exfalso
     obtain⟨d,_,_,hv,e,h1,h2,h3,h4,_⟩:=N1 h
     have hw:=hall.while hpj hhd
     have ht:Cw isWord t=false:=by
      cases t with
      |nil=>rfl
      |cons c r=>show isWord c=false;simp only [isWord,Bool.or_eq_false_iff];exact⟨h3,h2⟩
     have hw2:=Gf isWord d t (fun c hc=>by simp [isWord,h1 c hc]) ht
     rw [<- e] at hw2
     have hdW:d=((bl s).drop p).take (j-p):=by rw [<- hw.1,hw2.1]
     rw [hdW] at h1 h4
     rw [hW] at h1 h4
     exact hno _ (by rw [hW];exact Yb h1 h4)
 . have hdig:=by rw [hW] at hv;exact V9 hd hv
   have hdig2:IT isDigit s p j:=by intro c hc;rw [hW] at hc;exact hdig c hc
   have hw:=hdig2.while hpj hn1
   have hlen:=No s p j hpj hj
   refine⟨fun hbad=>?_,fun h15 hz=>?_⟩
   . rcases hbad with h|⟨h1,h2⟩
     . exact Qx hw hlen (.inl h)
     . exact Qx hw hlen (.inr (.inl ⟨h1,by rw [FY s p hp];exact beq_iff_eq.2 h2⟩))
   . have hok:Lib.atoiAll (((bl s).drop p).take (j-p))=.ok (EB (((bl s).drop p).take (j-p)):Int):=by
      rw [hW]
      refine Yb hdig ?_
      rw [<- hW,hlen];omega
     rw [hok] at hv
     have hvv:(EB (((bl s).drop p).take (j-p)):Int)=v:=by injection hv
     subst hvv
     exact⟨UI hpj hj (by omega) hdig2 hn1 hn2 (fun h=>by rw [FY s p hp];exact beq_eq_false_iff_ne.2 fun e=>hz ⟨h,e⟩),rfl⟩
end Go.Proofs.YtehfpameijkafaaGreatDoor
namespace Go.Proofs.YtehfpameijkafaaGreatDoor
open Go.RowKit Go.Q Go.Lx
theorem RB:∀ (n:Nat) (r b:List UInt8),r.length<=n->∀ {e:Nat},text b r=.bad e->e=2∨e=28:=by
 intro n
 induction n with
 |zero =>
  intro r b hr e h
  obtain rfl:=å (Nat.le_zero.1 hr)
  unfold text at h;split at h<;>(cases h;simp)
 |succ n ih =>
  intro r b hr e h
  cases r with
  |nil=>unfold text at h;split at h<;>(cases h;simp)
  |cons c r =>
   unfold text at h
   split at h
   . cases h;simp
   . split at h
     . cases h
     . split at h
       . cases r with
         |nil=>cases h;simp
         |cons d r' =>
          simp only at h
          split at h
          . cases h;simp
          . exact ih r' _ (by simp at hr;omega) h
       . split at h
         . cases h;simp
         . exact ih r _ (by simp at hr;omega) h
theorem SS {r:List UInt8}{e:Nat}(h:Lx.tok r=.bad e):e≠0:=by
 unfold Lx.tok at h
 cases r with
 |nil=>cases h;decide
 |cons c r' =>
  simp only at h
  split at h
  . unfold name at h;split at h<;>cases h;decide
  . split at h
    . unfold number at h;simp only at h;split at h<;>cases h;decide
    . split at h
      . rcases RB _ _ _ (à _) h with rfl|rfl<;>decide
      . unfold sign at h
        split at h
        . cases h
        . simp only at h
          split at h<;>cases h;decide
theorem YT {l u t:List UInt8}(h:l=u++t):l.drop (l.length-t.length)=t/\l.length-t.length<=l.length:=by
 subst h
 rw [Õ,show u.length+t.length-t.length=u.length by omega,List.drop_left]
 exact⟨rfl,by omega⟩
theorem XA (s:Æ)(i:Nat){u t:List UInt8}(h:(bl s).drop i=u++t):(bl s).drop (s.size-t.length)=t/\s.size-t.length<=s.size:=by
 have e:bl s=((bl s).take i++u)++t:=by rw [î,<- h,Ĉ]
 have:=YT e
 rw [F0] at this
 exact this
theorem X8 (s:Æ)(i:Nat):(bl s).drop (s.size-(skip false ((bl s).drop i)).length)=skip false ((bl s).drop i)/\s.size-(skip false ((bl s).drop i)).length<=s.size:=by
 obtain⟨u,hu⟩:=HE false ((bl s).drop i)
 exact XA s i hu
def R1 (n:Nat)(r0:List UInt8)(l:List Tok)(r:List UInt8):Prop:=(∀ l',Lx.Good n r l'->Lx.Good n r0 (l++l'))/\∀ q e,Lx.Bad n r q e->Lx.Bad n r0 q e
theorem R1.nil (n:Nat)(r0:List UInt8):R1 n r0 [] r0:=⟨fun _ h=>h,fun _ _ h=>h⟩
theorem R1.cons {n:Nat}{r0 r s t:List UInt8}{l:List Tok}{k v:Nat}(h:R1 n r0 l r)(ht:Lx.tok r=.ok k s v t):R1 n r0 (l++[⟨k,n-r.length,s,v⟩]) (skip false t) :=
 ⟨fun l' hg=>by rw [î];exact h.1 _ (.cons ht hg),fun q e hb=>h.2 q e (.later ht hb)⟩
end Go.Proofs.YtehfpameijkafaaGreatDoor
namespace Go.Lx
theorem PT (n:Nat):∀ (f:Nat) (r:List UInt8),r.length<=f->(∀ l,RA n f r=.ok l->Good n r l)/\∀ p e,RA n f r=.error (p,e)->Bad n r p e
 |0,r,h=>by
  obtain rfl:=å (Nat.le_zero.1 h)
  refine⟨fun l hl=>?_,fun p e he=>?_⟩
  . unfold RA at hl;cases hl;exact .fin
  . unfold RA at he;cases he
 |f+1,r,h=>by
  cases r with
  |nil =>
   refine⟨fun l hl=>?_,fun p e he=>?_⟩
   . unfold RA at hl;cases hl;exact .fin
   . unfold RA at he;cases he
  |cons c r0 =>
   unfold RA
   simp only
   cases ht:tok (c::r0) with
   |bad e1 =>
    refine⟨fun l hl=>(by cases hl),fun p e he=>?_⟩
    cases he;exact .here (by simp) ht
   |ok k s v t =>
    have h1:=Xw ht
    have h2:=HF false t
    have ih:=PT n f (skip false t) (by omega)
    simp only
    cases hx:RA n f (skip false t) with
    |error x =>
     refine⟨fun l hl=>(by cases hl),fun p e he=>?_⟩
     obtain⟨p1,e1⟩:=x
     cases he;exact .later ht (ih.2 _ _ hx)
    |ok l1 =>
     refine⟨fun l hl=>?_,fun p e he=>(by cases he)⟩
     cases hl;exact .cons ht (ih.1 _ hx)
theorem OL {l:List UInt8}{ts:List Tok}(h:tokens l=.ok ts):Good l.length (skip false l) ts:=(PT _ _ _ (HF false l)).1 _ h
theorem PU {l:List UInt8}{p e:Nat}(h:tokens l=.error (p,e)):Bad l.length (skip false l) p e:=(PT _ _ _ (HF false l)).2 _ _ h
end Go.Lx
namespace Go.Proofs.YtehfpameijkafaaGreatDoor
open Go.RowKit Go.Q Go.Lx
end Go.Proofs.YtehfpameijkafaaGreatDoor
namespace Go.Proofs.YtehfpameijkafaaGreatDoor
open Go Go.Sp Go.Lx Go.Q
set_option maxRecDepth 100000
theorem JL (c:UInt8):EH (c.toNat:Int)=some (cls c:Int):=by
 have key:∀ k:Fin 256,EH (k.val:Int)=some (cls (UInt8.ofNat k.val):Int):=by decide +kernel
 have:=key ⟨c.toNat,c.toNat_lt⟩
 simp only [UInt8.ofNat_toNat] at this
 exact this
theorem Hn {s:Æ}{j:Nat}(h:j<s.size):gb s (j:Int)=some (s[j].toNat:Int):=by
 unfold gb
 rw [Ç ⟨by omega,by omega⟩,Int.toNat_natCast,<- getD_at s j h]
theorem Ac7 (c:UInt8):((cls c:Int) != 2) = !isDigit c:=by
 have:=@OD c
 unfold cls
 cases h1:BU c<;>cases h2:isDigit c<;>cases ET c<;>first|rfl|simp_all
theorem YW (c:UInt8):((cls c:Int) != 3) = !BU c:=by
 unfold cls
 cases BU c<;>cases isDigit c<;>cases ET c<;>rfl
theorem Vd {src:Æ}{j:Nat}(hj:j<=src.size):N8 src (j:Int) (src.size:Int)=some (src.extract j src.size)/\(src.extract j src.size).data.toList=(bl src).drop j:=by
 refine⟨?_,?_⟩
 . unfold N8
   rw [Ç (by omega)];rfl
 . show bl (src.extract j src.size)=_
   rw [Xf,List.take_of_length_le (by rw [û,F0];exact à _)]
theorem Om {out:List Ap}(hl:out.length<=1000000)(src:Æ)(p k q:Int)(s:Æ)(v:Int):B8 ⟨src,p,out⟩ k q s v=some (0,⟨src,q,out++[⟨k,p,s,v⟩]⟩):=by
 unfold B8 Ca
 rw [Á,Ç (by simp only [ß,í];omega)];rfl
theorem Aaj {src:Æ}{p j:Nat}:src.extract p j=⟨⟨((bl src).drop p).take (j-p)⟩⟩:=by
 rw [<- Xf src p j]
theorem QH {src:Æ}{a b:Nat}(h1:a<=b)(h2:b<=src.size):N8 src (a:Int) (b:Int)=some (src.extract a b):=by
 unfold N8
 rw [Ç (by omega)];rfl
theorem Xe (b:List UInt8):ZR (b.map fun c=>(c.toNat:Int))=⟨⟨b⟩⟩:=by
 unfold ZR
 rw [List.map_map]
 have:((fun n:Int=>UInt8.ofNat n.toNat)∘fun c:UInt8=>(c.toNat:Int))=id:=by funext c;simp
 rw [this,List.map_id]
theorem ZP (c:UInt8):(Lib.indexByte [34,92,110] c = -1/\pair c=0)∨∃ i:Nat,Lib.indexByte [34,92,110] c=(i:Int)/\pair c≠0/\gb ⟨#[34,92,10]⟩ (i:Int)=some ((pair c).toNat:Int):=by
 have e:∀ (b:UInt8) (l:List UInt8),Lib.indexByte (b::l) c=if (b == c)=true then 0 else if (Lib.indexByte l c == -1)=true then -1 else Lib.indexByte l c+1:=fun _ _=>rfl
 have e0:Lib.indexByte [] c = -1:=rfl
 unfold pair
 by_cases h1:c=34
 . subst h1;exact .inr ⟨0,rfl,by decide,by decide⟩
 . by_cases h2:c=92
   . subst h2;exact .inr ⟨1,rfl,by decide,by decide⟩
   . by_cases h3:c=110
     . subst h3;exact .inr ⟨2,rfl,by decide,by decide⟩
     . left
       have n1:((34:UInt8) == c)=false:=beq_eq_false_iff_ne.2 fun h=>h1 h.symm
       have n2:((92:UInt8) == c)=false:=beq_eq_false_iff_ne.2 fun h=>h2 h.symm
       have n3:((110:UInt8) == c)=false:=beq_eq_false_iff_ne.2 fun h=>h3 h.symm
       have i3:Lib.indexByte [110] c = -1:=by rw [e,e0,n3];rfl
       have i2:Lib.indexByte [92,110] c = -1:=by rw [e,i3,n2];rfl
       exact⟨by rw [e,i2,n1];rfl,by simp [h1,h2,h3]⟩
theorem Uv {b r:List UInt8}{c d:UInt8}(h:b.length<=200)(h34:¬ c=34)(h92:c=92):text b (c::d::r)=if pair d=0 then .bad 28 else text (b++[pair d]) r:=by
 conv=>lhs;unfold text
 rw [Ä (by omega),Ä h34,Ç h92]
theorem Uu {b r:List UInt8}{c:UInt8}(h:b.length<=200)(h34:¬ c=34)(h92:¬ c=92):text b (c::r)=if c<32∨126<c then .bad 28 else text (b++[c]) r:=by
 conv=>lhs;unfold text
 rw [Ä (by omega),Ä h34,Ä h92]
def Gg (r:List UInt8):Option Out:=match sign r with|.bad _=>none|x=>some x
theorem XN (c:UInt8):∀ (l:List UInt8),decide (0<=Lib.indexByte l c)=decide (c∈l)
 | []=>rfl
 |b::l=>by
  have ih:=XN c l
  have hge:=Lib.indexByte_ge l c
  have e:Lib.indexByte (b::l) c=if (b == c)=true then 0 else if (Lib.indexByte l c == -1)=true then -1 else Lib.indexByte l c+1:=rfl
  rw [e]
  by_cases hb:b=c
  . subst hb;simp
  . rw [Ä (by simpa using hb)]
    have hm:(c∈b::l)↔c∈l:=⟨fun h=>(List.mem_cons.1 h).resolve_left fun e=>hb e.symm,á _⟩
    rw [decide_eq_decide] at ih ⊢
    rw [hm,<- ih]
    by_cases hn:Lib.indexByte l c = -1
    . rw [Ç (by rw [hn];rfl),hn]
    . rw [Ä (by simpa using hn)];omega
theorem Z2 {r l:List UInt8}(h:l.length=2):Lib.hasPrefix r l=decide (r.take 2=l):=by
 unfold Lib.hasPrefix
 rw [Bool.eq_iff_iff,List.isPrefixOf_iff_prefix,List.prefix_iff_eq_take,h,Î]
 exact⟨fun e=>e.symm,fun e=>e.symm⟩
section
variable (src:Æ) (p:Nat) (out:List Ap) (hs:src.size<=1000000)
include hs
theorem Adh:∀ (m j:Nat),j+m=src.size->p<=j->IT isWord src p j->∃ j':Nat,Ev (fun n=>BF n ⟨src,(p:Int),out⟩ 2 (j:Int)) (j':Int)/\p<=j'/\j'<=src.size/\IT isWord src p j'/\Cw isWord ((bl src).drop j')=false
 |0,j,hj,hp,ha=>by
  obtain rfl:j=src.size:=by omega
  refine⟨src.size,Ev.step (fun n=>BF.eq_2 ..) (Ev.of fun n=>?_),hp,à _,ha,XP src _ (à _) fun h=>absurd h (Nat.lt_irrefl _)⟩
  simp only [Ë (Int.lt_irrefl _),Ï,Á]
 |m+1,j,hj,hp,ha=>by
  have hlt:j<src.size:=by omega
  have hcw:=Aax src[j]
  cases hw:isWord src[j] with
  |true =>
   rw [hw] at hcw
   obtain⟨j',h1,h2⟩:=Adh m (j+1) (by omega) (by omega) (ha.succ hp hlt hw)
   refine⟨j',Ev.step (fun n=>BF.eq_2 ..) ?_,h2⟩
   simp only [Ì (show (j:Int)<src.size by omega),Ð,Hn hlt,JL,Á,<- hcw,NU (show j<4611686018427387904 by omega)]
   exact h1
  |false =>
   rw [hw] at hcw
   refine⟨j,Ev.step (fun n=>BF.eq_2 ..) (Ev.of fun n=>?_),hp,by omega,ha,XP src j (by omega) fun _=>hw⟩
   simp only [Ì (show (j:Int)<src.size by omega),Ð,Hn hlt,JL,Á,<- hcw,Ï]
theorem X4 (hp:p<=src.size):∃ j:Nat,Ev (fun n=>Ed n ⟨src,(p:Int),out⟩ 2) (j:Int)/\p<=j/\j<=src.size/\IT isWord src p j/\Cw isWord ((bl src).drop j)=false:=by
 obtain⟨j,h1,h2⟩:=Adh src p out hs (src.size-p) p (by omega) (à _) (IT.nil _ _ _)
 exact⟨j,Ev.bind h1 Ev.pure,h2⟩
def Oj (src:Æ)(j:Nat):Nat:=src.size-(skip false ((bl src).drop j)).length
def skR (src:Æ)(out:List Ap):Int ⊕ (Unit×Ak)->Unit×Ak
 |.inl q=>((),⟨src,q,out⟩)
 |.inr o=>o
theorem Zu:∀ (m j:Nat),src.size-j<=m->j<=src.size->∃ y,Ev (fun n=>AS n ⟨src,(p:Int),out⟩ (j:Int)) y/\skR src out y=((),⟨src,(Oj src j:Int),out⟩)
 |m,j,hm,hj=>by
  by_cases hlt:j<src.size
  rotate_left
  . obtain rfl:j=src.size:=by omega
    refine⟨.inl (src.size:Int),Ev.step (fun n=>AS.eq_2 ..) (Ev.of fun n=>?_),?_⟩
    . simp only [Ë (Int.lt_irrefl _),Ï]
    . unfold Oj;rw [Nc];rfl
  have hdr:=FY src j hlt
  have d1:decide ((j:Int)<src.size)=true:=Ì (by omega)
  obtain⟨m,rfl⟩:∃ m',m=m'+1:=⟨m-1,by omega⟩
  by_cases h35:(src[j].toNat:Int)=35
  . have c35:=(eq_iff src[j] 35).2 h35
    have hR1:skip true ((bl src).drop j)=skip false ((bl src).drop j):=by rw [hdr,Oh c35,Qe (by rw [c35];decide)]
    have hix:=Va ((bl src).drop j)
    have hz0:Lib.indexByte ((bl src).drop j) 10≠0:=by rw [hdr,c35];exact Ae2
    have hge:=Lib.indexByte_ge ((bl src).drop j) 10
    obtain⟨g1,g2⟩:=Vd hj
    have e:∀ q:Nat,skip false ((bl src).drop q)=skip false ((bl src).drop j)->j<q->q<=src.size->∃ y,Ev (fun n=>AS n ⟨src,(p:Int),out⟩ (q:Int)) y/\skR src out y=((),⟨src,(Oj src j:Int),out⟩):=by
     intro q h1 h2 h3
     have:=Zu m q (by omega) h3
     unfold Oj at this ⊢
     rwa [h1] at this
    by_cases hzn:Lib.indexByte ((bl src).drop j) 10<0
    . obtain⟨y,h1,h2⟩:=e src.size (by rw [<- hR1,hix.1 hzn,Nc];rfl) hlt (à _)
      refine⟨y,Ev.step (fun n=>AS.eq_2 ..) ?_,h2⟩
      have w1:À ((src.size:Int)-(j:Int))=((src.size-j:Nat):Int):=Ug (by omega) (by omega)
      have w2:À ((j:Int)+((src.size-j:Nat):Int))=(src.size:Int):=Ug (by omega) (by omega)
      simp only [d1,Ð,Hn hlt,Á,h35,ċ,g1,MP,g2,Ì hzn,w1,w2,show (10:Int).toNat.toUInt8=10 from rfl]
      exact h1
    . obtain⟨k,hk⟩:∃ k:Nat,Lib.indexByte ((bl src).drop j) 10=(k:Int):=⟨_,(Int.toNat_of_nonneg (by omega)).symm⟩
      obtain⟨hk1,hk2⟩:=hix.2 k hk
      rw [û,F0] at hk1
      obtain⟨y,h1,h2⟩:=e (j+k) (by rw [<- hR1,hk2,Ħ]) (by omega) (by omega)
      refine⟨y,Ev.step (fun n=>AS.eq_2 ..) ?_,h2⟩
      have w1:À ((j:Int)+(k:Int))=((j+k:Nat):Int):=Ug (by omega) (by omega)
      simp only [d1,Ð,Hn hlt,Á,h35,ċ,g1,MP,g2,hk,Ë (show ¬ (k:Int)<0 by omega),Ï,w1,show (10:Int).toNat.toUInt8=10 from rfl]
      exact h1
  . have b35:((src[j].toNat:Int) == 35)=false:=by simpa using h35
    cases hb:ET src[j] with
    |true =>
     obtain⟨y,h1,h2⟩:=Zu m (j+1) (by omega) (by omega)
     refine⟨y,Ev.step (fun n=>AS.eq_2 ..) ?_,?_⟩
     . simp only [d1,Ð,Hn hlt,Á,b35,Ï,JL,YX _ hb,show ((1:Nat):Int) == 1 from rfl,NU (show j<4611686018427387904 by omega)]
       exact h1
     . rw [h2];unfold Oj;rw [hdr,Oi hb]
    |false =>
     refine⟨.inr ((),⟨src,(j:Int),out⟩),Ev.step (fun n=>AS.eq_2 ..) (Ev.of fun n=>?_),?_⟩
     . simp only [d1,Ð,Hn hlt,Á,b35,Ï,JL,RS _ hb]
     . have e:Oj src j=j:=by
        unfold Oj
        rw [hdr,KC,hb,Ä (by simp),Ä (fun h=>h35 ((eq_iff src[j] 35).1 h)),<- hdr,û,F0];omega
       rw [e];rfl
theorem X7 (hp:p<=src.size):Ev (fun n=>Ee n ⟨src,(p:Int),out⟩) ((),⟨src,(Oj src p:Int),out⟩):=by
 obtain⟨y,h1,h2⟩:=Zu src p out hs _ p (à _) hp
 refine Ev.bind h1 ?_
 cases y<;>(rw [<- h2];exact Ev.pure)
def MJ (src:Æ)(p:Nat)(out:List Ap):Option Out->(Bool×Int)×Ak
 |none=>((false,0),⟨src,(p:Int),out⟩)
 |some (.bad e)=>((true,(e:Int)),⟨src,(p:Int),out⟩)
 |some (.ok k s v t)=>((true,0),⟨src,((src.size-t.length:Nat):Int),out++[⟨(k:Int),(p:Int),⟨⟨s⟩⟩,(v:Int)⟩]⟩)
variable (hl:out.length<=1000000)
include hl
theorem Acl (hp:p<src.size):Ev (fun n=>Eh n ⟨src,(p:Int),out⟩) (MJ src p out (if BU src[p] then some (name ((bl src).drop p)) else none)):=by
 unfold Eh
 simp only [Hn hp,JL,Á,YW]
 cases hL:BU src[p] with
 |false=>exact Ev.pure
 |true =>
  simp only [ē,Ï,ù]
  obtain⟨j,h0,h1,h2,h3,h4⟩:=X4 src p out hs (Nat.le_of_lt hp)
  refine Ev.bind h0 ?_
  have hw:=h3.while h1 h4
  have hlen:=No src p j h1 h2
  have w1:À ((j:Int)-(p:Int))=((j-p:Nat):Int):=Ug (by omega) (by omega)
  rw [w1]
  by_cases h32:32<j-p
  . have hr:name ((bl src).drop p)=.bad 2:=by unfold name;rw [hw.1,hlen,Ç h32]
    rw [hr,Ì (by omega)];exact Ev.pure
  . have hr:name ((bl src).drop p)=.ok 1 (((bl src).drop p).take (j-p)) 0 ((bl src).drop j):=by unfold name;rw [hw.1,hw.2,hlen,Ä h32]
    have hq:src.size-((bl src).drop j).length=j:=by rw [û,F0];omega
    rw [hr,Ë (by omega)]
    simp only [Ï,QH h1 h2,Á,Om hl,MJ,hq,Aaj]
    exact Ev.pure
theorem Y4 (hp:p<src.size):Ev (fun n=>Dp n ⟨src,(p:Int),out⟩) (MJ src p out (if isDigit src[p] then some (number ((bl src).drop p)) else none)):=by
 unfold Dp
 simp only [Hn hp,JL,Á,Ac7]
 cases hL:isDigit src[p] with
 |false=>exact Ev.pure
 |true =>
  simp only [ē,Ï,ù]
  obtain⟨j,h0,h1,h2,h3,h4⟩:=X4 src p out hs (Nat.le_of_lt hp)
  refine Ev.bind h0 ?_
  have hlen:=No src p j h1 h2
  have hnw:=UH hp h1 h2 h3 h4 hL
  obtain⟨x,hxe⟩:∃ x,x=src.extract p j:=⟨_,rfl⟩
  have hbx:bl x=((bl src).drop p).take (j-p):=by rw [hxe,Xf]
  have hxs:x.size=j-p:=by rw [<- F0,hbx,hlen]
  have hjp:=Uz hp h1 h3 h4 (by simp [isWord,hL])
  rw [<- hbx] at hnw
  have hq:src.size-((bl src).drop j).length=j:=by rw [û,F0];omega
  have hfit:MQ x=some ():=by unfold MQ;rw [Ç (by omega)]
  rw [QH h1 h2,Á,<- hxe,hfit,Á]
  unfold O0 L4
  have bad:number ((bl src).drop p)=.bad 27->MJ src p out (some (number ((bl src).drop p)))=((true,27),⟨src,(p:Int),out⟩):=fun h=>by rw [h];rfl
  cases hat:Lib.atoiAll x.data.toList with
  |ok v =>
   have hv:=hnw.2 v hat
   have hx0:0<x.size:=by omega
   have hf:=Aaf hbx hx0 hp
   simp only [Ï]
   have good:¬ 15<j-p->¬ (1<j-p/\src[p]=48)->Ev (fun _:Nat=>(B8 ⟨src,(p:Int),out⟩ 2 (j:Int) ⟨#[]⟩ v).bind fun p=>some ((true,p.1),p.2)) (MJ src p out (some (number ((bl src).drop p)))):=by
    intro q1 q2
    have hn:=hv.2 q1 q2
    rw [hn.1,Om hl]
    have e:(v.toNat:Int)=v:=hn.2.symm
    simp only [MJ,hq,Á,e]
    exact Ev.pure
   by_cases h15:15<x.size
   . rw [Ì (show (15:Int)<(x.size:Int) by omega),bad (hv.1 (.inl (by omega)))]
     exact Ev.pure
   . rw [Ë (show ¬ (15:Int)<(x.size:Int) by omega)]
     simp only [Ï]
     by_cases h1s:1<x.size
     . rw [Ì (show (1:Int)<(x.size:Int) by omega)]
       have g:=Hn hx0
       rw [Int.natCast_zero] at g
       simp only [Ð,g,Á]
       by_cases hz:x[0]=48
       . rw [show ((x[0].toNat:Int) == 48)=true by rw [hz];rfl,bad (hv.1 (.inr ⟨by omega,by rw [<- hf];exact hz⟩))]
         exact Ev.pure
       . rw [show ((x[0].toNat:Int) == 48)=false from beq_eq_false_iff_ne.2 fun h=>hz ((eq_iff _ 48).2 h)]
         exact good (by omega) (fun h=>hz (by rw [hf];exact h.2))
     . rw [Ë (show ¬ (1:Int)<(x.size:Int) by omega)]
       exact good (by omega) (fun h=>by omega)
  |_ =>
   rw [bad (hnw.1 fun v=>by rw [show bl x=x.data.toList from rfl,hat];simp)]
   exact Ev.pure
def txR (r:Ak):Unit ⊕ ((Bool×Int)×Ak)->(Bool×Int)×Ak
 |.inl _=>((true,2),r)
 |.inr o=>o
theorem Zo:∀ (m:Nat) (b:List UInt8) (k:Nat),src.size-k<=m->k<=src.size->b.length<=201 ->
 ∃ y,Ev (fun n=>AB n ⟨src,(p:Int),out⟩ (b.map fun c=>(c.toNat:Int)) (k:Int)) y/\txR ⟨src,(p:Int),out⟩ y=MJ src p out (some (text b ((bl src).drop k)))
 |m,b,k,hm,hk,hb=>by
  have fin:∀ {y R},Ev (fun n=>AB (n+1) ⟨src,(p:Int),out⟩ (b.map fun c=>(c.toNat:Int)) (k:Int)) y->text b ((bl src).drop k)=R->txR ⟨src,(p:Int),out⟩ y=MJ src p out (some R) ->
   ∃ y,Ev (fun n=>AB n ⟨src,(p:Int),out⟩ (b.map fun c=>(c.toNat:Int)) (k:Int)) y/\txR ⟨src,(p:Int),out⟩ y=MJ src p out (some (text b ((bl src).drop k))):=by
   rintro y R h1 rfl h2
   exact⟨y,Ev.step (fun n=>rfl) h1,h2⟩
  by_cases h200:b.length<=200
  rotate_left
  . refine fin (y:=.inl ()) (R:=.bad 2) (Ev.of fun n=>?_) ?_ rfl
    . rw [AB.eq_2,Í,Ë (by omega)];rfl
    . cases (bl src).drop k with
      |nil=>unfold text;rw [Ç (by omega)]
      |cons c r=>unfold text;rw [Ç (by omega)]
  have d1:decide ((b.length:Int)<=200)=true:=Ì (by omega)
  by_cases hlt:k<src.size
  rotate_left
  . obtain rfl:k=src.size:=by omega
    refine fin (y:=.inr ((true,28),⟨src,(p:Int),out⟩)) (R:=.bad 28) (Ev.of fun n=>?_) ?_ rfl
    . rw [AB.eq_2,Í,d1,Ì (Į _)];rfl
    . rw [Nc];unfold text;rw [Ä (by omega)]
  have hdr:=FY src k hlt
  have d2:decide ((src.size:Int)<=(k:Int))=false:=Ë (by omega)
  have w2:=NU (show k<4611686018427387904 by omega)
  obtain⟨m,rfl⟩:∃ m',m=m'+1:=⟨m-1,by omega⟩
  have app:∀ c:UInt8,Ca 1 (b.map fun c=>(c.toNat:Int)) [(c.toNat:Int)]=some ((b++[c]).map fun c=>(c.toNat:Int)):=fun c=>by
   unfold Ca
   rw [Ç (by simp only [Í,ß,í];omega),Ć];rfl
  by_cases c34:src[k]=34
  . refine fin (y:=.inr ((true,0),⟨src,((k+1:Nat):Int),out++[⟨3,(p:Int),⟨⟨b⟩⟩,0⟩]⟩)) (R:=.ok 3 b 0 ((bl src).drop (k+1))) (Ev.of fun n=>?_) ?_ ?_
    . rw [AB.eq_2]
      simp only [Í,d1,d2,Ð,Ï,Hn hlt,Á,show ((src[k].toNat:Int) == 34)=true by rw [c34];rfl,w2,Xe,Om hl]
    . rw [hdr];unfold text;rw [Ä (by omega),Ç c34]
    . simp only [MJ,txR]
      rw [û,F0,show src.size-(src.size-(k+1))=k+1 by omega];rfl
  have b1:((src[k].toNat:Int) == 34)=false:=beq_eq_false_iff_ne.2 fun h=>c34 ((eq_iff _ 34).2 h)
  by_cases c92:src[k]=92
  . have b2:((src[k].toNat:Int) == 92)=true:=by rw [c92];rfl
    by_cases hk2:k+1<src.size
    . have hdr2:=FY src (k+1) hk2
      have d3:decide (((k+1:Nat):Int)<(src.size:Int))=true:=Ì (by omega)
      have w3:=NU (show k+1<4611686018427387904 by omega)
      have hi:MP ⟨#[34,92,110]⟩ (src[k+1].toNat:Int)=some (Lib.indexByte [34,92,110] src[k+1]):=by
       unfold MP
       congr 2
       simp
      rcases ZP src[k+1] with⟨hz,hpr⟩|⟨i,hz,hpr,hpi⟩
      . refine fin (y:=.inr ((true,28),⟨src,(p:Int),out⟩)) (R:=.bad 28) (Ev.of fun n=>?_) ?_ rfl
        . rw [AB.eq_2]
          simp only [Í,d1,d2,Ð,Ï,Hn hlt,Á,b1,b2,w2,d3,Hn hk2,hi,hz];rfl
        . rw [hdr,hdr2,Uv h200 c34 c92,Ç hpr]
      . obtain⟨y,h1,h2⟩:=Zo m (b++[pair src[k+1]]) (k+2) (by omega) (by omega) (by simp only [Õ,ß,í];omega)
        refine fin (y:=y) ?_ (by rw [hdr,hdr2,Uv h200 c34 c92,Ä hpr]) h2
        refine Ev.congr h1 fun n=>?_
        rw [AB.eq_2]
        simp only [Í,d1,d2,Ð,Ï,Hn hlt,Á,b1,b2,w2,d3,Hn hk2,hi,hz,Ë (show ¬ (i:Int)<0 by omega),hpi,app,w3]
    . refine fin (y:=.inr ((true,28),⟨src,(p:Int),out⟩)) (R:=.bad 28) (Ev.of fun n=>?_) ?_ rfl
      . rw [AB.eq_2]
        simp only [Í,d1,d2,Ð,Ï,Hn hlt,Á,b1,b2,w2,Ë (show ¬ ((k+1:Nat):Int)<(src.size:Int) by omega)];rfl
      . rw [hdr,show (bl src).drop (k+1)=[] from by rw [show k+1=src.size by omega];exact Nc src]
        unfold text;rw [Ä (by omega),Ä c34,Ç c92]
  have b2:((src[k].toNat:Int) == 92)=false:=beq_eq_false_iff_ne.2 fun h=>c92 ((eq_iff _ 92).2 h)
  have ev:((bif decide ((src[k].toNat:Int)<32) then some true else some (decide (126<(src[k].toNat:Int)))):Option Bool)=some (decide (src[k]<32∨126<src[k])):=by
   have e1:src[k]<32↔(src[k].toNat:Int)<32:=by rw [UInt8.lt_iff_toNat_lt];exact⟨fun h=>by have:(32:UInt8).toNat=32:=rfl;omega,fun h=>by have:(32:UInt8).toNat=32:=rfl;omega⟩
   have e2:126<src[k]↔(126:Int)<(src[k].toNat:Int):=by rw [UInt8.lt_iff_toNat_lt];exact⟨fun h=>by have:(126:UInt8).toNat=126:=rfl;omega,fun h=>by have:(126:UInt8).toNat=126:=rfl;omega⟩
   rw [show decide (src[k]<32∨126<src[k])=decide ((src[k].toNat:Int)<32∨(126:Int)<(src[k].toNat:Int)) from decide_eq_decide.2 (or_congr e1 e2)]
   by_cases q:(src[k].toNat:Int)<32<;>simp [q]
  by_cases ho:src[k]<32∨126<src[k]
  . refine fin (y:=.inr ((true,28),⟨src,(p:Int),out⟩)) (R:=.bad 28) (Ev.of fun n=>?_) ?_ rfl
    . rw [AB.eq_2]
      simp only [Í,d1,d2,Ð,Ï,Hn hlt,Á,b1,b2,ev,Ì ho]
    . rw [hdr,Uu h200 c34 c92,Ç ho]
  . obtain⟨y,h1,h2⟩:=Zo m (b++[src[k]]) (k+1) (by omega) (by omega) (by simp only [Õ,ß,í];omega)
    refine fin (y:=y) ?_ (by rw [hdr,Uu h200 c34 c92,Ä ho]) h2
    refine Ev.congr h1 fun n=>?_
    rw [AB.eq_2]
    simp only [Í,d1,d2,Ð,Ï,Hn hlt,Á,b1,b2,ev,Ë ho,app,w2]
theorem Abw (hp:p<src.size):Ev (fun n=>Ec n ⟨src,(p:Int),out⟩) (MJ src p out (if src[p]=34 then some (text [] ((bl src).drop (p+1))) else none)):=by
 unfold Ec
 simp only [Hn hp,Á]
 by_cases h34:src[p]=34
 . rw [Ç h34,show ((src[p].toNat:Int) != 34)=false by rw [h34];rfl,NU (show p<4611686018427387904 by omega)]
   obtain⟨y,h1,h2⟩:=Zo src p out hs hl _ [] (p+1) (à _) (by omega) (by simp)
   refine Ev.bind h1 ?_
   rw [<- h2]
   cases y<;>exact Ev.pure
 . rw [Ä h34,show ((src[p].toNat:Int) != 34)=true from bne_iff_ne.2 fun h=>h34 ((eq_iff _ 34).2 h)]
   exact Ev.pure
theorem Adi {x:Æ}(hx:bl x=(bl src).drop p):∀ (r:List (List UInt8)) (i:Nat),Lx.long.drop i=r->i<=9 ->
 Ev (fun n=>BX n (Lx.long.map fun l=>⟨⟨l⟩⟩) x ⟨src,(p:Int),out⟩ (i:Int)) (if ((bl src).drop p).take 2∈r then .inr ((true,0),⟨src,((p+2:Nat):Int),out++[⟨4,(p:Int),⟨⟨((bl src).drop p).take 2⟩⟩,0⟩]⟩) else .inl ())
 | [],i,hr,hi=>by
  have:=JI hr hi
  refine Ev.step (fun n=>BX.eq_2 ..) (Ev.of fun n=>?_)
  rw [Í,Ë (by omega)];rfl
 |l::r,i,hr,hi=>by
  obtain⟨h1,h2⟩:=F6 hr
  have hm:l∈Lx.long:=ë (by rw [hr];simp)
  have h22:l.length=2:=(show ∀ l∈Lx.long,l.length=2 by decide) l hm
  have h29:i<9:=h2
  have hg:gi (Lx.long.map fun l=>(⟨⟨l⟩⟩:Æ)) (i:Int)=some ⟨⟨l⟩⟩:=O5 (r:=r.map fun l=>⟨⟨l⟩⟩) (by rw [<- List.map_drop,hr];rfl)
  refine Ev.step (fun n=>BX.eq_2 ..) ?_
  simp only [Í,P2 h2,Ð,hg,Á,Wx,show x.data.toList=(bl src).drop p from hx,Z2 h22,NU (show i<4611686018427387904 by omega)]
  by_cases hp2:((bl src).drop p).take 2=l
  . have w2:À ((p:Int)+2)=((p+2:Nat):Int):=Ug (by omega) (by
     have:=congrArg List.length hp2
     rw [List.length_take,û,F0,h22] at this
     omega)
    rw [Ì hp2,Ç (by rw [hp2];simp)]
    simp only [Ð,Om hl,Á,w2,hp2]
    exact Ev.pure
  . rw [Ë hp2]
    have e:(if ((bl src).drop p).take 2∈l::r then Sum.inr ((true,0),(⟨src,((p+2:Nat):Int),out++[⟨4,(p:Int),⟨⟨((bl src).drop p).take 2⟩⟩,0⟩]⟩:Ak)) else Sum.inl ():Unit ⊕ ((Bool×Int)×Ak))=if ((bl src).drop p).take 2∈r then .inr ((true,0),⟨src,((p+2:Nat):Int),out++[⟨4,(p:Int),⟨⟨((bl src).drop p).take 2⟩⟩,0⟩]⟩) else .inl ():=by
     simp only [Ę,hp2,false_or]
    rw [e]
    exact Adi hx r (i+1) h1 (by omega)
theorem Ab3 (hp:p<src.size):Ev (fun n=>Ef n ⟨src,(p:Int),out⟩) (MJ src p out (Gg ((bl src).drop p))):=by
 unfold Ef
 obtain⟨g1,g2⟩:=Vd (src:=src) (j:=p) (by omega)
 obtain⟨X,hX⟩:∃ X,X=src.extract p src.size:=⟨_,rfl⟩
 rw [<- hX] at g1 g2
 have hbX:bl X=(bl src).drop p:=g2
 simp only [g1,Á,show Mc ⟨#[45,62,32,58,61,32,61,61,32,33,61,32,60,61,32,62,61,32,38,38,32,124,124,32,46,46]⟩=some (Lx.long.map fun l=>⟨⟨l⟩⟩) from rfl]
 refine Ev.bind (Adi src p out hs hl hbX Lx.long 0 rfl (by decide)) ?_
 have hdr:=FY src p hp
 have hlen:((bl src).drop p).length=src.size-p:=by rw [û,F0]
 by_cases hm:((bl src).drop p).take 2∈Lx.long
 . rw [Ç hm]
   have h2l:2<=src.size-p:=by
    have h22:(((bl src).drop p).take 2).length=2:=(show ∀ l∈Lx.long,l.length=2 by decide) _ hm
    rw [List.length_take] at h22;omega
   have hr:Gg ((bl src).drop p)=some (.ok 4 (((bl src).drop p).take 2) 0 ((bl src).drop (p+2))):=by
    unfold Gg sign;rw [Ç hm,Ħ]
   rw [hr]
   simp only [MJ,û,F0,show src.size-(src.size-(p+2))=p+2 by omega]
   exact Ev.pure
 . rw [Ä hm]
   have hXs:1<=X.size:=by rw [<- F0,hbX,hlen];omega
   have hX1:X.extract 0 1=⟨#[src[p]]⟩:=by
    rw [Aaj,List.drop_zero,hbX,hdr];rfl
   have g3:N8 X 0 1=some ⟨#[src[p]]⟩:=by
    have:=QH (src:=X) (a:=0) (b:=1) (by omega) hXs
    rw [hX1] at this
    exact this
   have hh:Tv ⟨#[40,41,123,125,91,93,44,59,58,46,43,45,42,47,37,60,62,61,33,38,124,64,63,94,126]⟩ ⟨#[src[p]]⟩=some (decide (src[p]∈Lx.short)):=by
    show some (decide (0<=Lib.indexByte Lx.short src[p]))=_
    rw [XN]
   simp only [g3,hh,Á]
   by_cases hs1:src[p]∈Lx.short
   . have hr:Gg ((bl src).drop p)=some (.ok 4 [src[p]] 0 ((bl src).drop (p+1))):=by
      unfold Gg sign;rw [Ä hm,hdr];simp only;rw [Ç hs1]
     rw [hr,Ì hs1]
     simp only [ē,Ï,Om hl,Á,NU (show p<4611686018427387904 by omega),MJ,û,F0,show src.size-(src.size-(p+1))=p+1 by omega]
     exact Ev.pure
   . have hr:Gg ((bl src).drop p)=none:=by
      unfold Gg sign;rw [Ä hm,hdr];simp only;rw [Ä hs1]
     rw [hr,Ë hs1]
     exact Ev.pure
def nxO (src:Æ)(p:Nat)(out:List Ap)(o:Out):Int×Ak:=((MJ src p out (some o)).1.2,(MJ src p out (some o)).2)
theorem Aci (hp:p<src.size):Ev (fun n=>Eg n ⟨src,(p:Int),out⟩) (nxO src p out (Lx.tok ((bl src).drop p))):=by
 have hdr:=FY src p hp
 have t1:=Acl src p out hs hl hp
 have t2:=Y4 src p out hs hl hp
 have t3:=Abw src p out hs hl hp
 have t4:=Ab3 src p out hs hl hp
 have htok:Lx.tok ((bl src).drop p)=if BU src[p] then name ((bl src).drop p) else if isDigit src[p] then number ((bl src).drop p) else if src[p]=34 then text [] ((bl src).drop (p+1)) else sign ((bl src).drop p):=by
  rw [hdr];rfl
 have rd1:∀ o:Out,(MJ src p out (some o)).1.1=true:=fun o=>by cases o<;>rfl
 have rd0:MJ src p out none=((false,0),⟨src,(p:Int),out⟩):=rfl
 unfold Eg
 have key:∃ y,Ev (fun n=>Ar n 0 src (p:Int) out) y/\(match y with|.inl (r_1,r_2,r_3)=>(26,Ak.mk r_1 r_2 r_3)|.inr o=>o)=nxO src p out (Lx.tok ((bl src).drop p)):=by
  by_cases h1:BU src[p]=true
  . rw [Ç h1] at t1 htok
    refine⟨.inr _,Ev.step (fun n=>Ar.eq_2 ..) (Ev.bind t1 ?_),by rw [htok]⟩
    simp only [rd1,Ð];exact Ev.pure
  rw [Ä h1] at t1 htok
  have s1:∀ {y},Ev (fun n=>Ar n 1 src (p:Int) out) y->Ev (fun n=>Ar n 0 src (p:Int) out) y:=fun h=>Ev.step (fun n=>Ar.eq_2 ..) (Ev.bind t1 (by simp only [rd0,Ï];exact h))
  by_cases h2:isDigit src[p]=true
  . rw [Ç h2] at t2 htok
    refine⟨.inr _,s1 (Ev.step (fun n=>Ar.eq_2 ..) (Ev.bind t2 ?_)),by rw [htok]⟩
    simp only [rd1,Ð];exact Ev.pure
  rw [Ä h2] at t2 htok
  have s2:∀ {y},Ev (fun n=>Ar n 2 src (p:Int) out) y->Ev (fun n=>Ar n 0 src (p:Int) out) y:=fun h=>s1 (Ev.step (fun n=>Ar.eq_2 ..) (Ev.bind t2 (by simp only [rd0,Ï];exact h)))
  by_cases h3:src[p]=34
  . rw [Ç h3] at t3 htok
    refine⟨.inr _,s2 (Ev.step (fun n=>Ar.eq_2 ..) (Ev.bind t3 ?_)),by rw [htok]⟩
    simp only [rd1,Ð];exact Ev.pure
  rw [Ä h3] at t3 htok
  have s3:∀ {y},Ev (fun n=>Ar n 3 src (p:Int) out) y->Ev (fun n=>Ar n 0 src (p:Int) out) y:=fun h=>s2 (Ev.step (fun n=>Ar.eq_2 ..) (Ev.bind t3 (by simp only [rd0,Ï];exact h)))
  cases h4:Gg ((bl src).drop p) with
  |some o =>
   rw [h4] at t4
   have ho:sign ((bl src).drop p)=o:=by
    unfold Gg at h4
    split at h4
    . cases h4
    . exact Af h4
   refine⟨.inr _,s3 (Ev.step (fun n=>Ar.eq_2 ..) (Ev.bind t4 ?_)),by rw [htok,ho]⟩
   simp only [rd1,Ð];exact Ev.pure
  |none =>
   rw [h4] at t4
   have hb:sign ((bl src).drop p)=.bad 26:=by
    unfold Gg at h4
    split at h4
    . rename_i e he
      unfold sign at he ⊢
      split at he
      . cases he
      . rename_i hn
        rw [Ä hn]
        split at he
        . rfl
        . split at he
          . cases he
          . rename_i hs;rw [Ä hs]
    . cases h4
   refine⟨.inl (src,(p:Int),out),s3 (Ev.step (fun n=>Ar.eq_2 ..) (Ev.bind t4 ?_)),by rw [htok,hb];rfl⟩
   simp only [rd0,Ï]
   exact Ev.step (fun n=>Ar.eq_2 ..) (Ev.of fun n=>rfl)
 obtain⟨y,h1,h2⟩:=key
 refine Ev.bind h1 ?_
 rw [<- h2]
 rcases y with⟨r_1,r_2,r_3⟩|o<;>exact Ev.pure
end
theorem Ym (src:Æ):Ev (fun n=>Ik n src) (Q6 src):=by
 unfold Ik Q6
 by_cases h64:65536<src.size
 . rw [Ç h64,Ì (by omega)];exact Ev.pure
 rw [Ä h64,Ë (by omega)]
 have hs:src.size<=1000000:=by omega
 have hp0:=X8 src 0
 rw [List.drop_zero] at hp0
 have loop:∀ (m p:Nat) (L:List Tok),src.size-p<=m->p<=src.size->L.length<=p->R1 src.size (skip false (bl src)) L ((bl src).drop p) ->
  ∃ y,Ev (fun n=>Cr n src src (p:Int) (L.map tkT)) y/\((∃ L',y=.inl (src,(src.size:Int),L'.map tkT)/\L'.length<=src.size/\Lx.Good src.size (skip false (bl src)) (L'++[⟨5,src.size,[],0⟩]))∨∃ q e:Nat,y=.inr ([],⟨(q:Int),(e:Int)⟩)/\Lx.Bad src.size (skip false (bl src)) q e):=by
  intro m
  induction m with
  |zero =>
   intro p L hm hp hL hso
   obtain rfl:p=src.size:=by omega
   refine⟨_,Ev.step (fun n=>Cr.eq_2 ..) (Ev.of fun n=>by rw [Ë (Int.lt_irrefl _)];rfl),.inl ⟨L,rfl,hL,hso.1 _ ?_⟩⟩
   rw [Nc];exact .fin
  |succ m ih =>
   intro p L hm hp hL hso
   by_cases hlt:p<src.size
   rotate_left
   . obtain rfl:p=src.size:=by omega
     refine⟨_,Ev.step (fun n=>Cr.eq_2 ..) (Ev.of fun n=>by rw [Ë (Int.lt_irrefl _)];rfl),.inl ⟨L,rfl,hL,hso.1 _ ?_⟩⟩
     rw [Nc];exact .fin
   have hne:(bl src).drop p≠[]:=by rw [FY src p hlt];simp
   have hlr:((bl src).drop p).length=src.size-p:=by rw [û,F0]
   have hn:=Aci src p (L.map tkT) hs (by rw [Í];omega) hlt
   cases ht:Lx.tok ((bl src).drop p) with
   |bad e =>
    rw [ht] at hn
    have he0:=SS ht
    refine⟨_,Ev.step (fun n=>Cr.eq_2 ..) ?_,.inr ⟨p,e,rfl,?_⟩⟩
    . simp only [Ì (show (p:Int)<src.size by omega),Ð]
      refine Ev.bind hn ?_
      simp only [nxO,MJ,show ((e:Int) != 0)=true from bne_iff_ne.2 (by omega),Ð]
      exact Ev.pure
    . have hb:=hso.2 _ _ (Lx.Bad.here hne ht)
      rwa [hlr,show src.size-(src.size-p)=p by omega] at hb
   |ok k s v t =>
    rw [ht] at hn
    have hq:=XA src p (RX ht).2.1
    have htl:=Xw ht
    have hsk:=X8 src (src.size-t.length)
    rw [hq.1] at hsk
    have hkl:=HF false t
    have hso2:=hso.cons ht
    rw [hlr,show src.size-(src.size-p)=p by omega] at hso2
    obtain⟨y,h1,h2⟩:=ih (src.size-(skip false t).length) (L++[⟨k,p,s,v⟩]) (by omega) hsk.2 (by simp only [Õ,ß,í];omega) (by rw [hsk.1];exact hso2)
    refine⟨y,Ev.step (fun n=>Cr.eq_2 ..) ?_,h2⟩
    simp only [Ì (show (p:Int)<src.size by omega),Ð]
    refine Ev.bind hn ?_
    simp only [nxO,MJ,ô,Ï]
    refine Ev.bind (X7 src _ _ hs hq.2) ?_
    have e:(Oj src (src.size-t.length))=src.size-(skip false t).length:=by unfold Oj;rw [hq.1]
    rw [e]
    rw [Ć] at h1
    exact h1
 simp only [Ï]
 refine Ev.bind (X7 src 0 [] hs (ü _)) ?_
 have e0:Oj src 0=src.size-(skip false (bl src)).length:=by unfold Oj;rw [List.drop_zero]
 obtain⟨y,h1,h2⟩:=loop _ (Oj src 0) [] (à _) (by rw [e0];exact hp0.2) (ü _) (by rw [e0,hp0.1];exact R1.nil _ _)
 refine Ev.bind h1 ?_
 rcases h2 with⟨L',rfl,hl,hg⟩|⟨q,e,rfl,hb⟩
 . cases ht:Lx.tokens src.data.toList with
   |ok ts =>
    have hg2:Lx.Good src.size (skip false (bl src)) ts:=OL ht
    have:=hg2.unique hg
    subst this
    simp only [Om (show (L'.map tkT).length<=1000000 by rw [Í];omega),Á,Ć]
    exact Ev.pure
   |error x =>
    obtain⟨q,e⟩:=x
    have hb:Lx.Bad src.size (skip false (bl src)) q e:=PU ht
    exact (hg.notBad hb).elim
 . cases ht:Lx.tokens src.data.toList with
   |ok ts =>
    have hg:Lx.Good src.size (skip false (bl src)) ts:=OL ht
    exact (hg.notBad hb).elim
   |error x =>
    obtain⟨q',e'⟩:=x
    have hb2:Lx.Bad src.size (skip false (bl src)) q' e':=PU ht
    obtain⟨rfl,rfl⟩:=hb2.unique hb
    exact Ev.pure
end Go.Proofs.YtehfpameijkafaaGreatDoor
namespace Go.Proofs.YtehfpameijkafaaGreatDoor
open Go.RowKit Go.Q Go.Vl Go.Sp Go.Lx
theorem Zk (src:Æ)(t:List Ap×An)(h:Ss src=some t):CA Tryz.prog 112 [tP src] (.tup [hP t.1 Fg,.agg [iP t.2.At,iP t.2.E]]):=by
 obtain rfl:=Af h
 obtain⟨n,hn⟩:=(Ym src).get
 exact R8 n src _ hn
end Go.Proofs.YtehfpameijkafaaGreatDoor
namespace Go.Proofs.YtehfpameijkafaaGreatDoor
open Go.RowKit Go.Q Go.Vl Go.Sp
set_option maxRecDepth 100000
set_option linter.unusedSimpArgs false
set_option maxHeartbeats 4000000
set_option linter.unusedVariables false
theorem IX (n:Nat)(q:Int)(q1:Int)(out:(List Ax))(bad:Int)(bad1:Int)(q2:(List Ap))(q3:Int)(r:(Ex Ao ((List Ax)×(List Ap)×Int) Unit))(h:Ht n q q1 out bad bad1 q2 q3=some r):K5 r (fun v0 s0=>J1 Tryz.prog 69 [.ptr 3 0,.ptr 1 0] [[iP q,iP q1],[oF out],[iP bad,iP bad1],[hT q2,iP q3]] (.ret (.tup [])) [[iP q,iP q1],[oF s0.1],[iP bad,iP bad1],[hT s0.2.1,iP s0.2.2]]) (fun e0 s0=>J1 Tryz.prog 69 [.ptr 3 0,.ptr 1 0] [[iP q,iP q1],[oF out],[iP bad,iP bad1],[hT q2,iP q3]] (.pan [{ v:=.iface 188 (.agg #[(.int .i64 e0.At),(.int .i64 e0.E)]),recovered:=false }]) [[iP q,iP q1],[oF s0.1],[iP bad,iP bad1],[hT s0.2.1,iP s0.2.2]]):=by
 unfold Ht at h
 refine vSx ⟨[0,1,10],[(1,[9997,1,3,0,1,3,2,4,5,6,7,8])]⟩ Tryz.func69 follows fun Q hQ=>?_
 refine mI 0 [] h (fun (out1,q4,q5)=>⟨[],[[iP q,iP q1],[oF out1],[iP bad,iP bad1],[hT q4,iP q5]]⟩) ?_ fun y e h hJ=>?_
 rintro⟨out1,q4,q5⟩ h
 cases h
 exact rt 0 [] hQ
 refine lF 1 [] (A:=((List Ax)×(List Ap)×Int)) (fun n (out2,q6,q7)=>Ey n out2 q6 q7) (fun (out2,q6,q7)=>⟨[(0,.ptr 3 0),(1,.ptr 1 0)],[[iP q,iP q1],[oF out2],[iP bad,iP bad1],[hT q6,iP q7]]⟩) (out,q2,q3) e (fun _=>rfl) ?_
 rintro n ⟨out2,q6,q7⟩ e ih
 replace e:=(Ey.eq_2 ..).symm.trans e
 obtain⟨x,hx,e⟩:=Ae e
 refine cD 1 [(4,fi Cp hx)] e (fun hc e=>?_) fun hc e=>?_
 refine wl 1 [] ?_
 refine yE e (fun f s hy1 e=>?_) fun e1 s1 hy1 e=>?_
 obtain⟨out3,hout3,e⟩:=Ae e
 refine xG [3] [0,1,3] 2 4 5 6 7 8 [.no,.no,.val (iP (out2.length:Int))] (.meth (.agg [tP f.Word,hA f.Args,hF f.Body,iP f.At]) [hT s.l,iP s.forms]) .no (out3.map Cq) ⟨[(0,.ptr 3 0),(1,.ptr 1 0)],[[iP q,iP q1],[oF out3],[iP bad,iP bad1],[hT s.l,iP s.forms]]⟩ (And.intro (And.intro (Y1 out2 Cq) True.intro) (And.intro (And.intro (And.intro (EK n (Ad.mk q6 q7) 1 (.ok f s) hy1) True.intro) (Adk hout3 Hs (Gl f))) (And.intro (And.intro (EK n (Ad.mk q6 q7) 1 (.ok f s) hy1) True.intro) (Adk hout3 Hs (Gl f))))) ?_
 exact mJ 0 [] (ih (_,_,_) e)
 cases e
 cases h
 exact xGP [3] [0,1,3] 2 4 5 6 7 8 [.no,.no,.val (iP (out2.length:Int))] (.mpan [{ v:=.iface 188 (.agg #[(.int .i64 e1.At),(.int .i64 e1.E)]),recovered:=false }] [hT s1.l,iP s1.forms]) .no (And.intro (And.intro (Y1 out2 Cq) True.intro) (And.intro (And.intro (EK n (Ad.mk q6 q7) 1 (.pan e1 s1) hy1) True.intro) (And.intro (EK n (Ad.mk q6 q7) 1 (.pan e1 s1) hy1) True.intro))) hQ
 exact mJ 1 [] (hJ _ (oj e))
theorem KB (d0:Int)(d1:Int)(d2:(List Ax))(d3:Int)(d4:Int)(d5:(List Ap))(d6:Int):SH Tryz.prog 113 [.ptr 2 0] [[iP d0,iP d1],[oF d2],[iP d3,iP d4],[hT d5,iP d6]] .returning (fun y u' σ'=>u'=.returning/\y=.ret (.tup [])/\σ'=[[iP d0,iP d1],[oF d2],[iP d3,iP d4],[hT d5,iP d6]]):=by
 refine SH.intro (rv:=.nilIface) ⟨[0,1,2,3,6,13],[]⟩ Tryz.func113 rfl follows rfl (fun _ _=>rfl) rfl rfl (.inl ⟨rfl,rfl,rfl⟩) (by kernel_rfl) ?_
 refine Aft [0,1,2,3,6,13] [0,1] [.no] ⟨[(0,.ptr 2 0),(1,.lit .nilIface)],[[iP d0,iP d1],[oF d2],[iP d3,iP d4],[hT d5,iP d6]]⟩ True.intro (by kernel_rfl) ?_
 repeat first|apply z1|apply z2|apply z3|apply z4
 refine wr [0,1,6] 4 (Ez 2 []) ⟨[(0,.ptr 2 0),(1,.lit .nilIface),(6,bP false)],[[iP d0,iP d1],[oF d2],[iP d3,iP d4],[hT d5,iP d6]]⟩ True.intro (by kernel_rfl) ?_
 repeat first|apply z1|apply z2|apply z3|apply z4
 refine Fb rfl ?_
 repeat first|apply z1|apply z2|apply z3|apply z4
 exact IS (U2 (by rintro y rfl;exact⟨rfl,rfl,rfl⟩) (by kernel_rfl)).1
theorem K9 (d0:Int)(d1:Int)(d2:(List Ax))(d3:Int)(d4:Int)(d5:(List Ap))(d6:Int)(e0:Ao):SH Tryz.prog 113 [.ptr 2 0] [[iP d0,iP d1],[oF d2],[iP d3,iP d4],[hT d5,iP d6]] (.panicking [{ v:=.iface 188 (.agg #[(.int .i64 e0.At),(.int .i64 e0.E)]),recovered:=false }]) (fun y u' σ'=>settle u'=.returning/\y=.ret (.tup [])/\σ'=[[iP d0,iP d1],[oF d2],[iP e0.At,iP e0.E],[hT d5,iP d6]]):=by
 refine SH.intro (rv:=(.iface 188 (.agg #[(.int .i64 e0.At),(.int .i64 e0.E)]))) ⟨[0,1,2,3,6,13],[]⟩ Tryz.func113 rfl follows rfl (fun _ _=>rfl) rfl rfl (.inr ⟨[],rfl,rfl⟩) (by kernel_rfl) ?_
 refine Aft [0,1,2,3,6,13] [0,1] [.no] ⟨[(0,.ptr 2 0),(1,.lit (.iface 188 (.agg #[(.int .i64 e0.At),(.int .i64 e0.E)])))],[[iP d0,iP d1],[oF d2],[iP d3,iP d4],[hT d5,iP d6]]⟩ True.intro (by kernel_rfl) ?_
 repeat first|apply z1|apply z2|apply z3|apply z4
 refine wr [0,1,6] 4 (Ez 2 []) ⟨[(0,.ptr 2 0),(1,.lit (.iface 188 (.agg #[(.int .i64 e0.At),(.int .i64 e0.E)]))),(6,bP true)],[[iP d0,iP d1],[oF d2],[iP d3,iP d4],[hT d5,iP d6]]⟩ True.intro (by kernel_rfl) ?_
 repeat first|apply z1|apply z2|apply z3|apply z4
 refine Gr rfl ?_
 repeat first|apply z1|apply z2|apply z3|apply z4
 refine wr [0,1,2,3] 5 (Ez 8 []) ⟨[(0,.ptr 2 0),(1,.lit (.iface 188 (.agg #[(.int .i64 e0.At),(.int .i64 e0.E)]))),(2,.ptr 4 0),(3,bP true)],[[iP d0,iP d1],[oF d2],[iP d3,iP d4],[hT d5,iP d6],[iP e0.At,iP e0.E]]⟩ True.intro (by kernel_rfl) ?_
 repeat first|apply z1|apply z2|apply z3|apply z4
 refine wr [0,1,2,13] 5 (Ez 2 []) ⟨[(0,.ptr 2 0),(1,.lit (.iface 188 (.agg #[(.int .i64 e0.At),(.int .i64 e0.E)]))),(2,.ptr 4 0),(13,bP false)],[[iP d0,iP d1],[oF d2],[iP d3,iP d4],[hT d5,iP d6],[iP e0.At,iP e0.E]]⟩ True.intro (by kernel_rfl) ?_
 repeat first|apply z1|apply z2|apply z3|apply z4
 refine Fb rfl ?_
 repeat first|apply z1|apply z2|apply z3|apply z4
 refine wr [] 5 (Ez 2 []) ⟨[],[[iP d0,iP d1],[oF d2],[iP e0.At,iP e0.E],[hT d5,iP d6],[iP e0.At,iP e0.E]]⟩ True.intro (by kernel_rfl) ?_
 repeat first|apply z1|apply z2|apply z3|apply z4
 exact IS (U2 (by rintro y rfl;exact⟨rfl,rfl,rfl⟩) (by kernel_rfl)).1
theorem M7 (n:Nat)(q:Int)(q1:Int)(out:(List Ax))(src:Æ)(r:(An×(List Ax)))(h:Gp n q q1 out src=some r)(Q:Cl->List (List PV)->Prop)(hQ:∀ y,shareP y=.agg [iP r.1.At,iP r.1.E]->Q (.ret y) [[iP q,iP q1],[oF r.2]]) :
 VC Tryz.prog 68 [tP src,.fn 69 [.ptr 1 0]] [[iP q,iP q1],[oF out]] Q:=by
 unfold Gp at h
 refine VC.introD [4] ⟨[0,1,4,5,6,14,30],[]⟩ Tryz.func68 rfl follows rfl rfl (by kernel_rfl) ?_
 show WS _ _ _ (_::_) _ _
 repeat first|apply z1|apply z2|apply z3|apply z4
 refine wr [0,1,4] 3 (Ez 1 []) ⟨[(0,tP src),(1,.fn 69 [.ptr 1 0]),(4,.ptr 2 0)],[[iP q,iP q1],[oF out],[iP 0,iP 0]]⟩ True.intro (by kernel_rfl) ?_
 repeat first|apply z1|apply z2|apply z3|apply z4
 obtain⟨t,ht,h⟩:=Ae h
 refine wr [0,1,4,5] 3 (Ez 1 (.call (.tup [hT t.1,.agg [iP t.2.At,iP t.2.E]])::(Ez 5 []))) ⟨[(0,tP src),(1,.fn 69 [.ptr 1 0]),(4,.ptr 2 0),(5,hT t.1)],[[iP q,iP q1],[oF out],[iP t.2.At,iP t.2.E]]⟩ (And.intro (Zk src t ht) True.intro) (by kernel_rfl) ?_
 repeat first|apply z1|apply z2|apply z3|apply z4
 refine wr [0,1,4,5,14] 3 (Ez 3 []) ⟨[(0,tP src),(1,.fn 69 [.ptr 1 0]),(4,.ptr 2 0),(5,hT t.1),(14,bP (t.2.E != 0))],[[iP q,iP q1],[oF out],[iP t.2.At,iP t.2.E]]⟩ True.intro (by kernel_rfl) ?_
 repeat first|apply z1|apply z2|apply z3|apply z4
 rcases Am h with⟨hc1,h⟩|⟨hc1,h⟩
 . refine Gr (test hc1) ?_
   repeat first|apply z1|apply z2|apply z3|apply z4
   refine wr [0,1,4,5,14] 3 (Ez 2 []) ⟨[(0,tP src),(1,.fn 69 [.ptr 1 0]),(4,.ptr 2 0),(5,hT t.1),(14,bP (t.2.E != 0))],[[iP q,iP q1],[oF out],[iP t.2.At,iP t.2.E]]⟩ True.intro (by kernel_rfl) ?_
   repeat first|apply z1|apply z2|apply z3|apply z4
   obtain rfl:=Af h
   exact IS (HH hQ (by kernel_rfl)).1
 . refine Fb (test hc1) ?_
   repeat first|apply z3|apply z2|apply z1|apply z4
   refine Afi (Bx.mk ?_)
   show WS _ _ _ _ _ ⟨(16,.fn 113 [.ptr 2 0])::[(0,tP src),(1,.fn 69 [.ptr 1 0]),(4,.ptr 2 0),(5,hT t.1),(14,bP (t.2.E != 0))],[[iP q,iP q1],[oF out],[iP t.2.At,iP t.2.E]]⟩
   repeat first|apply z1|apply z2|apply z3|apply z4
   refine wr [1,4,6] 4 (Ez 4 []) ⟨[(1,.fn 69 [.ptr 1 0]),(4,.ptr 2 0),(6,.ptr 3 0)],[[iP q,iP q1],[oF out],[iP t.2.At,iP t.2.E],[hT t.1,iP 0]]⟩ True.intro (by kernel_rfl) ?_
   repeat first|apply z1|apply z2|apply z3|apply z4
   obtain⟨y,hy,h⟩:=Ae h
   rcases y with⟨f,c⟩|⟨e,c1⟩
   . refine wr [4,6] 4 (Ez 2 (.site (.tup []) [[iP q,iP q1],[oF c.1],[iP t.2.At,iP t.2.E],[hT c.2.1,iP c.2.2]]::[])) ⟨[(4,.ptr 2 0),(6,.ptr 3 0)],[[iP q,iP q1],[oF c.1],[iP t.2.At,iP t.2.E],[hT c.2.1,iP c.2.2]]⟩ (And.intro (IX n q q1 out t.2.At t.2.E t.1 0 (.ok f c) hy) True.intro) (by kernel_rfl) ?_
     repeat first|apply z1|apply z2|apply z3|apply z4
     obtain⟨x,hx,h⟩:=Ae h
     refine wr [4,6,30] 4 (Ez 4 (.val (.vptr [iP x.Kind,iP x.At,tP x.S,iP x.N] 0)::(Ez 3 []))) ⟨[(4,.ptr 2 0),(6,.ptr 3 0),(30,bP (x.Kind != 5))],[[iP q,iP q1],[oF c.1],[iP t.2.At,iP t.2.E],[hT c.2.1,iP c.2.2]]⟩ (And.intro (oi hx Jc (J5 x)) True.intro) (by kernel_rfl) ?_
     repeat first|apply z1|apply z2|apply z3|apply z4
     rcases Am h with⟨hc,h⟩|⟨hc,h⟩
     . refine Gr (test hc) ?_
       repeat first|apply z1|apply z2|apply z3|apply z4
       obtain⟨y1,hy1,h⟩:=Ae h
       rcases y1 with⟨f1,s⟩|⟨e1,s1⟩
       . refine wr [4] 4 (Ez 1 (.meth (.tup []) [hT s.l,iP s.forms]::[])) ⟨[(4,.ptr 2 0)],[[iP q,iP q1],[oF c.1],[iP t.2.At,iP t.2.E],[hT s.l,iP s.forms]]⟩ (And.intro (Ay (Ad.mk c.2.1 c.2.2) 5 (.ok f1 s) hy1) True.intro) (by kernel_rfl) ?_
         repeat first|apply z1|apply z2|apply z3|apply z4
         refine wr [4] 4 (Ez 2 []) ⟨[(4,.ptr 2 0)],[[iP q,iP q1],[oF c.1],[iP 0,iP 0],[hT s.l,iP s.forms]]⟩ True.intro (by kernel_rfl) ?_
         repeat first|apply z1|apply z2|apply z3|apply z4
         obtain rfl:=Af h
         exact IS (SH.mono (KB q q1 c.1 0 0 s.l s.forms) fun y u' σ' hx=>⟨hx.1,⟨_,hx.2.1⟩,by rw [hx.2.2];exact (HH hQ (by kernel_rfl)).1⟩)
       . repeat first|apply z1|apply z2|apply z3|apply z4
         obtain rfl:=Af h
         exact VF [4] (Ez 1 (.mpan [{ v:=.iface 188 (.agg #[(.int .i64 e1.At),(.int .i64 e1.E)]),recovered:=false }] [hT s1.l,iP s1.forms]::[])) ⟨[(4,.ptr 2 0)],[[iP q,iP q1],[oF c.1],[iP t.2.At,iP t.2.E],[hT s1.l,iP s1.forms]]⟩ (And.intro (Ay (Ad.mk c.2.1 c.2.2) 5 (.pan e1 s1) hy1) True.intro) (by kernel_rfl) rfl (SH.mono (K9 q q1 c.1 t.2.At t.2.E s1.l s1.forms e1) fun y u' σ' hx=>⟨hx.1,⟨_,hx.2.1⟩,by rw [hx.2.2];exact (HH hQ (by kernel_rfl)).1⟩)
     . refine Fb (test hc) ?_
       repeat first|apply z1|apply z2|apply z3|apply z4
       refine wr [4] 4 (Ez 2 []) ⟨[(4,.ptr 2 0)],[[iP q,iP q1],[oF c.1],[iP 0,iP 0],[hT c.2.1,iP c.2.2]]⟩ True.intro (by kernel_rfl) ?_
       repeat first|apply z1|apply z2|apply z3|apply z4
       obtain rfl:=Af h
       exact IS (SH.mono (KB q q1 c.1 0 0 c.2.1 c.2.2) fun y u' σ' hx=>⟨hx.1,⟨_,hx.2.1⟩,by rw [hx.2.2];exact (HH hQ (by kernel_rfl)).1⟩)
   . repeat first|apply z1|apply z2|apply z3|apply z4
     obtain rfl:=Af h
     exact VF [4] (Ez 2 (.sitep [{ v:=.iface 188 (.agg #[(.int .i64 e.At),(.int .i64 e.E)]),recovered:=false }] [[iP q,iP q1],[oF c1.1],[iP t.2.At,iP t.2.E],[hT c1.2.1,iP c1.2.2]]::[])) ⟨[(4,.ptr 2 0)],[[iP q,iP q1],[oF c1.1],[iP t.2.At,iP t.2.E],[hT c1.2.1,iP c1.2.2]]⟩ (And.intro (IX n q q1 out t.2.At t.2.E t.1 0 (.pan e c1) hy) True.intro) (by kernel_rfl) rfl (SH.mono (K9 q q1 c1.1 t.2.At t.2.E c1.2.1 c1.2.2 e) fun y u' σ' hx=>⟨hx.1,⟨_,hx.2.1⟩,by rw [hx.2.2];exact (HH hQ (by kernel_rfl)).1⟩)
theorem Oc (n:Nat)(q:Int)(q1:Int)(out:(List Ax))(src:Æ)(r:(An×(List Ax)))(h:Gp n q q1 out src=some r):J1 Tryz.prog 68 [tP src,.fn 69 [.ptr 1 0]] [[iP q,iP q1],[oF out]] (.ret (.agg [iP r.1.At,iP r.1.E])) [[iP q,iP q1],[oF r.2]]:=J1.fin (fun Q hQ=>M7 n q q1 out src _ h Q hQ)
theorem SM (n:Nat)(src:Æ)(r:((List Ax)×An))(h:L1 n src=some r):CA Tryz.prog 43 [tP src] (.tup [hF r.1,.agg [iP r.2.At,iP r.2.E]]):=by
 unfold L1 at h
 refine vP ⟨[0,2,3,4,5,11],[]⟩ Tryz.func43 follows fun Q hQ=>?_
 obtain⟨bad,hbad,h⟩:=Ae h
 refine cD 4 [(5,fs (Oc _ _ _ _ _ _ hbad))] h (fun hc h=>?_) fun hc h=>?_
 cases h
 exact rt 1 [] hQ
 cases h
 exact rt 1 [] hQ
end Go.Proofs.YtehfpameijkafaaGreatDoor
namespace Go.Proofs.YtehfpameijkafaaGreatDoor
open Go.RowKit Go.Q Go.Vl Go.Sp
set_option maxRecDepth 100000
set_option linter.unusedSimpArgs false
set_option maxHeartbeats 4000000
set_option linter.unusedVariables false
theorem PN (r:(ByteArray×ByteArray×ByteArray×ByteArray))(h:Js=some r):CA Tryz.prog 71 [] (.agg [tP r.1,tP r.2.1,tP r.2.2.1,tP r.2.2.2]):=by
 unfold Js at h
 refine vP ⟨[0],[]⟩ Tryz.func71 follows fun Q hQ=>?_
 cases h
 exact rt 2 [] hQ
theorem Oa (n:Nat)(s:(List Æ))(v_:Æ)(r:Int)(h:HS n s v_=some r):CA Tryz.prog 72 [hS s,tP v_] (iP r):=by
 unfold HS at h
 refine vP ⟨[0,1,4,5,7,8,9,16],[]⟩ Tryz.func72 follows fun Q hQ=>?_
 refine mI 2 [(2,fl LV s)] h (fun _=>⟨[(4,iP 0)],[]⟩) ?_ fun y e h hJ=>?_
 rintro _ h
 cases h
 exact rt 1 [] hQ
 refine lF 1 [] (A:=Int) (fun n v8=>ES n s v_ v8) (fun v8=>⟨[(0,hS s),(1,tP v_),(4,iP 0),(7,iP (s.length:Int)),(8,iP v8)],[]⟩) 0 e (fun _=>rfl) ?_
 rintro n v8 e ih
 replace e:=(ES.eq_2 ..).symm.trans e
 refine cD 1 [] e (fun hc1 e=>?_) fun hc1 e=>?_
 obtain⟨x,hx,e⟩:=Ae e
 refine cD 3 [(5,fi LV hx)] e (fun hc e=>?_) fun hc e=>?_
 cases e
 cases h
 exact rt 1 [] hQ
 exact mJ 1 [] (ih _ e)
 exact mJ 1 [] (hJ _ (oj e))
theorem Pq (n:Nat)(f:Ax)(r:(Int×Bool))(h:I5 n f=some r):CA Tryz.prog 44 [.agg [tP f.Word,hA f.Args,hF f.Body,iP f.At]] (.tup [iP r.1,bP r.2]):=by
 unfold I5 at h
 refine vP ⟨[0,1,2,3,4,5,6,7,8,17,48,50,51,52,53,67],[(2,[9999,0,0,1,2,3,4,5]),(11,[9999,0,0,1,2,3,4,5,6,7,8,9,10])]⟩ Tryz.func44 follows fun Q hQ=>?_
 obtain⟨l,hl,h⟩:=Ae h
 refine xZ 2 [(3,fk (PN _ hl))] ?_
 obtain⟨i,hi,h⟩:=Ae h
 obtain⟨l1,hl1,h⟩:=Ae h
 refine mE 3 [(3,fk (Oa _ _ _ _ hi)),(2,fB A2 hl1)] h (fun want=>⟨[(1,.ptr 0 0),(2,iP 0),(3,bP false),(5,iP (À (i+1))),(6,oI want)],[[tP f.Word,hA f.Args,hF f.Body,iP f.At]]⟩) ?_ fun y e hJ=>?_
 rintro want h
 refine mE 0 [] h (fun v48=>⟨[(1,.ptr 0 0),(2,iP 0),(3,bP false),(5,iP (À (i+1))),(6,oI want),(48,bP v48)],[[tP f.Word,hA f.Args,hF f.Body,iP f.At]]⟩) ?_ fun y1 e1 hJ1=>?_
 rintro v48 h
 refine cD 0 [] h (fun hc2 h=>?_) fun hc2 h=>?_
 cases h
 exact rt 1 [] hQ
 refine mI 1 [(2,fl Bo f.Args)] h (fun _=>⟨[(2,iP 0),(3,bP false),(5,iP (À (i+1)))],[[tP f.Word,hA f.Args,hF f.Body,iP f.At]]⟩) ?_ fun y2 e2 h hJ2=>?_
 rintro _ h
 cases h
 exact rt 1 [] hQ
 refine lF 1 [] (A:=Int) (fun n v52=>F4 n f want v52) (fun v52=>⟨[(2,iP 0),(3,bP false),(5,iP (À (i+1))),(6,oI want),(50,hA f.Args),(51,iP (f.Args.length:Int)),(52,iP v52)],[[tP f.Word,hA f.Args,hF f.Body,iP f.At]]⟩) 0 e2 (fun _=>rfl) ?_
 rintro n v52 e2 ih
 replace e2:=(F4.eq_2 ..).symm.trans e2
 refine cD 1 [] e2 (fun hc1 e2=>?_) fun hc1 e2=>?_
 obtain⟨x,hx,e2⟩:=Ae e2
 obtain⟨x1,hx1,e2⟩:=Ae e2
 refine cD 3 [(1,fi Bo hx),(9,fl A2 want),(2,fi A2 hx1)] e2 (fun hc e2=>?_) fun hc e2=>?_
 cases e2
 cases h
 exact rt 1 [] hQ
 exact mJ 1 [] (ih _ e2)
 exact mJ 1 [] (hJ2 _ (oj e2))
 rcases Am e1 with⟨hc3,e1⟩|⟨hc3,e1⟩
 exact mJ 1 [(2,fo hc3)] (hJ1 _ (oj e1))
 rcases Am e1 with⟨hc4,e1⟩|⟨hc4,e1⟩
 exact mJ 1 [(2,fo hc3),(2,fl EF f.Body),(2,fo hc4)] (hJ1 _ (oj e1))
 rcases Am e1 with⟨hc5,e1⟩|⟨hc5,e1⟩
 exact mJ 1 [(2,fo hc3),(2,fl EF f.Body),(2,fo hc4),(2,fl Bo f.Args),(1,fl A2 want),(2,fo hc5)] (hJ1 _ (oj e1))
 rcases Am e1 with⟨hc6,e1⟩|⟨hc6,e1⟩
 exact mJ 1 [(2,fo hc3),(2,fl EF f.Body),(2,fo hc4),(2,fl Bo f.Args),(1,fl A2 want),(2,fo hc5),(2,fo hc6),(2,fl Bo f.Args),(1,fl A2 want)] (hJ1 _ (oj e1))
 exact mJ 1 [(2,fo hc3),(2,fl EF f.Body),(2,fo hc4),(2,fl Bo f.Args),(1,fl A2 want),(2,fo hc5),(2,fo hc6)] (hJ1 _ (oj e1))
 refine cD 0 [] e (fun hc7 e=>?_) fun hc7 e=>?_
 obtain⟨l2,hl2,e⟩:=Ae e
 obtain⟨l3,hl3,e⟩:=Ae e
 exact mJ 1 [(1,fB A2 hl2),(0,fa A2 hl3)] (hJ _ (oj e))
 exact mJ 0 [] (hJ _ (oj e))
theorem Ke (q:Int)(q1:Int)(p:Int)(p1:Int)(f:Æ)(f1:(List BB))(f2:(List Ax))(f3:Int)(c:Aa)(r:Bool)(h:Fx q q1 p p1 f f1 f2 f3 c=some r):J1 Tryz.prog 45 [.agg [tP c.Name,iP c.Kind,iP c.Rank,iP c.Known,iP c.From.Op,iP c.From.N,tP c.From.S,hX c.From.Kids,iP c.From.At,iP c.To.Op,iP c.To.N,tP c.To.S,hX c.To.Kids,iP c.To.At,iP c.When.Op,iP c.When.N,tP c.When.S,hX c.When.Kids,iP c.When.At,iP c.Houses],.ptr 3 0] [[iP q,iP q1],[iP p,iP p1],[Bj,Dk],[tP f,hA f1,hF f2,iP f3]] (.ret (bP r)) [[iP q,iP q1],[iP p,iP p1],[Bj,Dk],[tP f,hA f1,hF f2,iP f3]]:=by
 unfold Fx at h
 refine vS ⟨[0,1,2,3],[(1,[9999,0,0,1,2,3,4,5,6,7,8])]⟩ Tryz.func45 follows fun Q hQ=>?_
 obtain⟨x,hx,h⟩:=Ae h
 cases h
 exact rt 2 [(6,fi Bo hx)] hQ
theorem Ie (n:Nat)(q:Int)(q1:Int)(p:Int)(p1:Int)(f:Æ)(f1:(List BB))(f2:(List Ax))(f3:Int)(s:(List Aa))(r:Int)(h:DG n q q1 p p1 f f1 f2 f3 s=some r):J1 Tryz.prog 64 [hC s,.fn 45 [.ptr 3 0]] [[iP q,iP q1],[iP p,iP p1],[Bj,Dk],[tP f,hA f1,hF f2,iP f3]] (.ret (iP r)) [[iP q,iP q1],[iP p,iP p1],[Bj,Dk],[tP f,hA f1,hF f2,iP f3]]:=by
 unfold DG at h
 refine vS ⟨[0,1,4,5,7,8,9,16],[]⟩ Tryz.func64 follows fun Q hQ=>?_
 refine mI 2 [(2,fl A7 s)] h (fun _=>⟨[(4,iP 0)],[[iP q,iP q1],[iP p,iP p1],[Bj,Dk],[tP f,hA f1,hF f2,iP f3]]⟩) ?_ fun y e h hJ=>?_
 rintro _ h
 cases h
 exact rt 1 [] hQ
 refine lF 1 [] (A:=Int) (fun n v8=>Ci n s q q1 p p1 f f1 f2 f3 v8) (fun v8=>⟨[(0,hC s),(1,.fn 45 [.ptr 3 0]),(4,iP 0),(7,iP (s.length:Int)),(8,iP v8)],[[iP q,iP q1],[iP p,iP p1],[Bj,Dk],[tP f,hA f1,hF f2,iP f3]]⟩) 0 e (fun _=>rfl) ?_
 rintro n v8 e ih
 replace e:=(Ci.eq_2 ..).symm.trans e
 refine cD 1 [] e (fun hc2 e=>?_) fun hc2 e=>?_
 obtain⟨x,hx,e⟩:=Ae e
 obtain⟨c,hc,e⟩:=Ae e
 refine cD 3 [(5,fi A7 hx),(1,fs (Ke _ _ _ _ _ _ _ _ _ _ hc))] e (fun hc1 e=>?_) fun hc1 e=>?_
 cases e
 cases h
 exact rt 1 [] hQ
 exact mJ 1 [] (ih _ e)
 exact mJ 1 [] (hJ _ (oj e))
theorem Hp (n:Nat)(q:Int)(q1:Int)(p:Int)(p1:Int)(f:Æ)(f1:(List BB))(f2:(List Ax))(f3:Int)(s:(List Aa))(r:Bool)(h:CR n q q1 p p1 f f1 f2 f3 s=some r):J1 Tryz.prog 37 [hC s,.fn 45 [.ptr 3 0]] [[iP q,iP q1],[iP p,iP p1],[Bj,Dk],[tP f,hA f1,hF f2,iP f3]] (.ret (bP r)) [[iP q,iP q1],[iP p,iP p1],[Bj,Dk],[tP f,hA f1,hF f2,iP f3]]:=by
 unfold CR at h
 refine vS ⟨[0,1,4],[]⟩ Tryz.func37 follows fun Q hQ=>?_
 obtain⟨c,hc,h⟩:=Ae h
 cases h
 exact rt 2 [(3,fs (Ie _ _ _ _ _ _ _ _ _ _ _ hc))] hQ
theorem M5 (q:Int)(q1:Int)(p:Int)(p1:Int)(f:Æ)(f1:(List BB))(f2:(List Ax))(f3:Int)(c:Æ)(c1:Int)(c2:Int)(c3:Int)(c4:Int)(c5:Int)(c6:Æ)(c7:(List Ag))(c8:Int)(c9:Int)(c10:Int)(c11:Æ)(c12:(List Ag))(c13:Int)(c14:Int)(c15:Int)(c16:Æ)(c17:(List Ag))(c18:Int)(c19:Int)(r:Unit)(h:GR q q1 p p1 f f1 f2 f3 c c1 c2 c3 c4 c5 c6 c7 c8 c9 c10 c11 c12 c13 c14 c15 c16 c17 c18 c19=some r):J1 Tryz.prog 39 [.ptr 4 0] [[iP q,iP q1],[iP p,iP p1],[Bj,Dk],[tP f,hA f1,hF f2,iP f3],[tP c,iP c1,iP c2,iP c3,iP c4,iP c5,tP c6,hX c7,iP c8,iP c9,iP c10,tP c11,hX c12,iP c13,iP c14,iP c15,tP c16,hX c17,iP c18,iP c19]] (.ret (.tup [.agg [.ptr 4 4,.ptr 4 9,.ptr 4 14],.agg [iP 2,iP 2,iP 3]])) [[iP q,iP q1],[iP p,iP p1],[Bj,Dk],[tP f,hA f1,hF f2,iP f3],[tP c,iP c1,iP c2,iP c3,iP c4,iP c5,tP c6,hX c7,iP c8,iP c9,iP c10,tP c11,hX c12,iP c13,iP c14,iP c15,tP c16,hX c17,iP c18,iP c19]]:=by
 unfold GR at h
 refine vS ⟨[0,2,3],[(1,[9999,0,0,1,2,3,4,5,6,7,8,9,10,11,12])]⟩ Tryz.func39 follows fun Q hQ=>?_
 cases h
 exact rt 2 [] hQ
theorem NZ (n:Nat)(src:Æ)(r:((List Aa)×An))(h:HR n src=some r):CA Tryz.prog 22 [tP src] (.tup [hC r.1,.agg [iP r.2.At,iP r.2.E]]):=by
 unfold HR at h
 refine vP ⟨[0,2,3,4,5,6,7,9,10,11,12,13,14,15,16,17,18,19,20,21,23,31,34,35,36,37,45,51,58,101,102,103,104,149,154,169,170,171,185,191],[(3,[9999,0,0,1,2]),(11,[9999,0,0,1,2,3,4]),(13,[9999,0,0,1,2,3,4]),(15,[9999,0,0,1,2,3,4,5,6,7]),(16,[9999,0,0,1,2,3,4,5,6,7,8,9,10,11,12,13,14,15,16,17,18,19,20,21,22,23,24,25,26,27,28,29,30,31,32,33]),(23,[9999,0,0,1,2,3,4]),(25,[9999,1,4,0,1,2,3,4,5,6,7,8,9,10]),(31,[9995]),(33,[9999,0,0,1,2]),(35,[9999,0,0,1,2,3,4,5,6,7,8,9])]⟩ Tryz.func22 follows fun Q hQ=>?_
 obtain⟨f,hf,h⟩:=Ae h
 refine cD 3 [(3,fk (SM _ _ _ hf))] h (fun hc35 h=>?_) fun hc35 h=>?_
 cases h
 exact rt 1 [] hQ
 obtain⟨u,hu,h⟩:=Ae h
 refine mI 3 [(0,fk PQ),(4,fl EF f.1)] h (fun out=>⟨[(2,.sl [] .own),(3,.ptr 0 0),(7,oC out)],[[iP 0,iP 0],[iP f.2.At,iP f.2.E],[Bj,Dk]]⟩) ?_ fun y e h hJ=>?_
 rintro out h
 cases h
 exact rt 1 [] hQ
 refine lF 1 [] (A:=((List Aa)×Int)) (fun n (out1,v36)=>EP n f out1 v36) (fun (out1,v36)=>⟨[(2,.sl [] .own),(3,.ptr 0 0),(6,.ptr 2 0),(7,oC out1),(34,hF f.1),(35,iP (f.1.length:Int)),(36,iP v36)],[[iP 0,iP 0],[iP f.2.At,iP f.2.E],[Bj,Dk]]⟩) ([],0) e (fun _=>rfl) ?_
 rintro n ⟨out1,v36⟩ e ih
 replace e:=(EP.eq_2 ..).symm.trans e
 refine cD 1 [] e (fun hc34 e=>?_) fun hc34 e=>?_
 obtain⟨x,hx,e⟩:=Ae e
 obtain⟨s,hs,e⟩:=Ae e
 refine cD 5 [(0,fi EF hx),(4,fk (Pq _ _ _ hs))] e (fun hc33 e=>?_) fun hc33 e=>?_
 cases e
 cases h
 exact rt 1 [] hQ
 refine cD 1 [(1,fl A7 out1)] e (fun hc32 e=>?_) fun hc32 e=>?_
 cases e
 cases h
 exact rt 1 [] hQ
 obtain⟨c,hc,e⟩:=Ae e
 refine cD 1 [(2,fs (Hp _ _ _ _ _ _ _ _ _ _ _ hc))] e (fun hc31 e=>?_) fun hc31 e=>?_
 obtain⟨x1,hx1,e⟩:=Ae e
 cases e
 cases h
 exact rt 1 [(2,fi Bo hx1)] hQ
 obtain⟨x2,hx2,e⟩:=Ae e
 obtain⟨x3,hx3,e⟩:=Ae e
 obtain⟨x4,hx4,e⟩:=Ae e
 obtain⟨x5,hx5,e⟩:=Ae e
 obtain⟨x6,hx6,e⟩:=Ae e
 obtain⟨x7,hx7,e⟩:=Ae e
 refine mI 3 [(2,fi Bo hx2),(5,fi Bo hx3),(4,fi Bo hx4),(4,fi Bo hx5),(4,fi Bo hx6),(4,fi Bo hx7),(8,fl Bo x.Args)] e (fun c1=>⟨[(2,.sl [] .own),(3,.ptr 0 0),(6,.ptr 2 0),(7,oC out1),(9,.ptr 3 0),(12,.ptr 4 0),(34,hF f.1),(35,iP (f.1.length:Int)),(36,iP v36)],[[iP 0,iP 0],[iP f.2.At,iP f.2.E],[Bj,Dk],[tP x.Word,hA x.Args,hF x.Body,iP x.At],[tP x2.S,iP s.1,iP x3.N,iP x4.N,iP x5.E.Op,iP x5.E.N,tP x5.E.S,hX x5.E.Kids,iP x5.E.At,iP x6.E.Op,iP x6.E.N,tP x6.E.S,hX x6.E.Kids,iP x6.E.At,iP x7.E.Op,iP x7.E.N,tP x7.E.S,hX x7.E.Kids,iP x7.E.At,iP c1]]⟩) ?_ fun y1 e1 e hJ1=>?_
 rintro c1 e
 obtain⟨w,hw,e⟩:=Ae e
 refine mI 2 [(0,fs (M5 _ _ _ _ _ _ _ _ _ _ _ _ _ _ _ _ _ _ _ _ _ _ _ _ _ _ _ _ _ hw))] e (fun _=>⟨[(2,.sl [] .own),(3,.ptr 0 0),(6,.ptr 2 0),(7,oC out1),(12,.ptr 4 0),(34,hF f.1),(35,iP (f.1.length:Int)),(36,iP v36)],[[iP 0,iP 0],[iP f.2.At,iP f.2.E],[Bj,Dk],[tP x.Word,hA x.Args,hF x.Body,iP x.At],[tP x2.S,iP s.1,iP x3.N,iP x4.N,iP x5.E.Op,iP x5.E.N,tP x5.E.S,hX x5.E.Kids,iP x5.E.At,iP x6.E.Op,iP x6.E.N,tP x6.E.S,hX x6.E.Kids,iP x6.E.At,iP x7.E.Op,iP x7.E.N,tP x7.E.S,hX x7.E.Kids,iP x7.E.At,iP c1],[.ptr 4 4,.ptr 4 9,.ptr 4 14],[iP 2,iP 2,iP 3]]⟩) ?_ fun y2 e2 e hJ2=>?_
 rintro _ e
 obtain⟨l,hl,e⟩:=Ae e
 obtain⟨l1,hl1,e⟩:=Ae e
 exact mJ 2 [(2,fB A7 hl),(0,fa A7 hl1)] (ih (_,_) e)
 refine lF 1 [] (A:=Int) (fun n v170=>CH n x5 x6 x7 v170) (fun v170=>⟨[(2,.sl [] .own),(3,.ptr 0 0),(6,.ptr 2 0),(7,oC out1),(9,.ptr 3 0),(12,.ptr 4 0),(18,.ptr 6 0),(34,hF f.1),(35,iP (f.1.length:Int)),(36,iP v36),(169,.agg [.ptr 4 4,.ptr 4 9,.ptr 4 14]),(170,iP v170)],[[iP 0,iP 0],[iP f.2.At,iP f.2.E],[Bj,Dk],[tP x.Word,hA x.Args,hF x.Body,iP x.At],[tP x2.S,iP s.1,iP x3.N,iP x4.N,iP x5.E.Op,iP x5.E.N,tP x5.E.S,hX x5.E.Kids,iP x5.E.At,iP x6.E.Op,iP x6.E.N,tP x6.E.S,hX x6.E.Kids,iP x6.E.At,iP x7.E.Op,iP x7.E.N,tP x7.E.S,hX x7.E.Kids,iP x7.E.At,iP c1],[.ptr 4 4,.ptr 4 9,.ptr 4 14],[iP 2,iP 2,iP 3]]⟩) 0 e2 (fun _=>rfl) ?_
 rintro n v170 e2 ih1
 replace e2:=(CH.eq_2 ..).symm.trans e2
 replace e2:=Am e2
 rcases e2 with⟨hc8,e2⟩|⟨hc8,e2⟩
 obtain rfl:=OH hc8
 obtain⟨f3,hf3,e2⟩:=Ae e2
 refine wl 4 [] ?_
 refine xE 6 [.no,.no,.no,.no,.call (.tup [iP f3.1,.agg [iP f3.2.1.op,tP f3.2.1.name,hI f3.2.1.args,iP f3.2.1.kind,.fno (LB f3.2.1.do_) (Kt f3.2.1.do_) (KE f3.2.1.do_)],.agg [iP f3.2.2.At,iP f3.2.2.E]]),.no,.no,.no,.no,.no,.no,.no,.no,.no] ⟨[(2,.sl [] .own),(3,.ptr 0 0),(6,.ptr 2 0),(7,oC out1),(9,.ptr 3 0),(12,.ptr 4 0),(18,.ptr 6 0),(19,iP 0),(21,iP f3.1),(23,.ptr 8 0),(34,hF f.1),(35,iP (f.1.length:Int)),(36,iP v36),(169,.agg [.ptr 4 4,.ptr 4 9,.ptr 4 14]),(170,iP 0)],[[iP 0,iP 0],[iP f.2.At,iP f.2.E],[Bj,Dk],[tP x.Word,hA x.Args,hF x.Body,iP x.At],[tP x2.S,iP s.1,iP x3.N,iP x4.N,iP x5.E.Op,iP x5.E.N,tP x5.E.S,hX x5.E.Kids,iP x5.E.At,iP x6.E.Op,iP x6.E.N,tP x6.E.S,hX x6.E.Kids,iP x6.E.At,iP x7.E.Op,iP x7.E.N,tP x7.E.S,hX x7.E.Kids,iP x7.E.At,iP c1],[.ptr 4 4,.ptr 4 9,.ptr 4 14],[iP 2,iP 2,iP 3],[iP f3.2.1.op,tP f3.2.1.name,hI f3.2.1.args,iP f3.2.1.kind,.fno (LB f3.2.1.do_) (Kt f3.2.1.do_) (KE f3.2.1.do_)],[iP f3.2.2.At,iP f3.2.2.E]]⟩ (And.intro (And.intro (C3 x5.E f3 hf3) (And.intro True.intro (And.intro (And.intro True.intro True.intro) True.intro))) (And.intro (And.intro (And.intro (C3 x5.E f3 hf3) True.intro) (And.intro (And.intro (C3 x5.E f3 hf3) True.intro) True.intro)) (And.intro (And.intro (And.intro (C3 x5.E f3 hf3) (And.intro True.intro True.intro)) (And.intro (And.intro (C3 x5.E f3 hf3) True.intro) True.intro)) True.intro))) ?_
 refine cD 1 [] e2 (fun hc10 e2=>?_) fun hc10 e2=>?_
 cases e2
 cases e
 cases h
 exact rt 1 [] hQ
 refine cD 1 [] e2 (fun hc9 e2=>?_) fun hc9 e2=>?_
 cases e2
 cases e
 cases h
 exact rt 1 [(4,fi Bo hx5)] hQ
 exact mJ 1 [] (ih1 _ e2)
 replace e2:=Am e2
 rcases e2 with⟨hc5,e2⟩|⟨hc5,e2⟩
 obtain rfl:=OH hc5
 obtain⟨f2,hf2,e2⟩:=Ae e2
 refine wl 4 [] ?_
 refine xE 6 [.no,.no,.no,.no,.call (.tup [iP f2.1,.agg [iP f2.2.1.op,tP f2.2.1.name,hI f2.2.1.args,iP f2.2.1.kind,.fno (LB f2.2.1.do_) (Kt f2.2.1.do_) (KE f2.2.1.do_)],.agg [iP f2.2.2.At,iP f2.2.2.E]]),.no,.no,.no,.no,.no,.no,.no,.no,.no] ⟨[(2,.sl [] .own),(3,.ptr 0 0),(6,.ptr 2 0),(7,oC out1),(9,.ptr 3 0),(12,.ptr 4 0),(18,.ptr 6 0),(19,iP 1),(21,iP f2.1),(23,.ptr 8 0),(34,hF f.1),(35,iP (f.1.length:Int)),(36,iP v36),(169,.agg [.ptr 4 4,.ptr 4 9,.ptr 4 14]),(170,iP 1)],[[iP 0,iP 0],[iP f.2.At,iP f.2.E],[Bj,Dk],[tP x.Word,hA x.Args,hF x.Body,iP x.At],[tP x2.S,iP s.1,iP x3.N,iP x4.N,iP x5.E.Op,iP x5.E.N,tP x5.E.S,hX x5.E.Kids,iP x5.E.At,iP x6.E.Op,iP x6.E.N,tP x6.E.S,hX x6.E.Kids,iP x6.E.At,iP x7.E.Op,iP x7.E.N,tP x7.E.S,hX x7.E.Kids,iP x7.E.At,iP c1],[.ptr 4 4,.ptr 4 9,.ptr 4 14],[iP 2,iP 2,iP 3],[iP f2.2.1.op,tP f2.2.1.name,hI f2.2.1.args,iP f2.2.1.kind,.fno (LB f2.2.1.do_) (Kt f2.2.1.do_) (KE f2.2.1.do_)],[iP f2.2.2.At,iP f2.2.2.E]]⟩ (And.intro (And.intro (C3 x6.E f2 hf2) (And.intro True.intro (And.intro (And.intro True.intro True.intro) True.intro))) (And.intro (And.intro (And.intro (C3 x6.E f2 hf2) True.intro) (And.intro (And.intro (C3 x6.E f2 hf2) True.intro) True.intro)) (And.intro (And.intro (And.intro (C3 x6.E f2 hf2) (And.intro True.intro True.intro)) (And.intro (And.intro (C3 x6.E f2 hf2) True.intro) True.intro)) True.intro))) ?_
 refine cD 1 [] e2 (fun hc7 e2=>?_) fun hc7 e2=>?_
 cases e2
 cases e
 cases h
 exact rt 1 [] hQ
 refine cD 1 [] e2 (fun hc6 e2=>?_) fun hc6 e2=>?_
 cases e2
 cases e
 cases h
 exact rt 1 [(4,fi Bo hx6)] hQ
 exact mJ 1 [] (ih1 _ e2)
 replace e2:=Am e2
 rcases e2 with⟨hc2,e2⟩|⟨hc2,e2⟩
 obtain rfl:=OH hc2
 obtain⟨f1,hf1,e2⟩:=Ae e2
 refine wl 4 [] ?_
 refine xE 6 [.no,.no,.no,.no,.call (.tup [iP f1.1,.agg [iP f1.2.1.op,tP f1.2.1.name,hI f1.2.1.args,iP f1.2.1.kind,.fno (LB f1.2.1.do_) (Kt f1.2.1.do_) (KE f1.2.1.do_)],.agg [iP f1.2.2.At,iP f1.2.2.E]]),.no,.no,.no,.no,.no,.no,.no,.no,.no] ⟨[(2,.sl [] .own),(3,.ptr 0 0),(6,.ptr 2 0),(7,oC out1),(9,.ptr 3 0),(12,.ptr 4 0),(18,.ptr 6 0),(19,iP 2),(21,iP f1.1),(23,.ptr 8 0),(34,hF f.1),(35,iP (f.1.length:Int)),(36,iP v36),(169,.agg [.ptr 4 4,.ptr 4 9,.ptr 4 14]),(170,iP 2)],[[iP 0,iP 0],[iP f.2.At,iP f.2.E],[Bj,Dk],[tP x.Word,hA x.Args,hF x.Body,iP x.At],[tP x2.S,iP s.1,iP x3.N,iP x4.N,iP x5.E.Op,iP x5.E.N,tP x5.E.S,hX x5.E.Kids,iP x5.E.At,iP x6.E.Op,iP x6.E.N,tP x6.E.S,hX x6.E.Kids,iP x6.E.At,iP x7.E.Op,iP x7.E.N,tP x7.E.S,hX x7.E.Kids,iP x7.E.At,iP c1],[.ptr 4 4,.ptr 4 9,.ptr 4 14],[iP 2,iP 2,iP 3],[iP f1.2.1.op,tP f1.2.1.name,hI f1.2.1.args,iP f1.2.1.kind,.fno (LB f1.2.1.do_) (Kt f1.2.1.do_) (KE f1.2.1.do_)],[iP f1.2.2.At,iP f1.2.2.E]]⟩ (And.intro (And.intro (C3 x7.E f1 hf1) (And.intro True.intro (And.intro (And.intro True.intro True.intro) True.intro))) (And.intro (And.intro (And.intro (C3 x7.E f1 hf1) True.intro) (And.intro (And.intro (C3 x7.E f1 hf1) True.intro) True.intro)) (And.intro (And.intro (And.intro (C3 x7.E f1 hf1) (And.intro True.intro True.intro)) (And.intro (And.intro (C3 x7.E f1 hf1) True.intro) True.intro)) True.intro))) ?_
 refine cD 1 [] e2 (fun hc4 e2=>?_) fun hc4 e2=>?_
 cases e2
 cases e
 cases h
 exact rt 1 [] hQ
 refine cD 1 [] e2 (fun hc3 e2=>?_) fun hc3 e2=>?_
 cases e2
 cases e
 cases h
 exact rt 1 [(4,fi Bo hx7)] hQ
 exact mJ 1 [] (ih1 _ e2)
 replace e2:=Am e2
 rcases e2 with⟨hc1,e2⟩|⟨hc1,e2⟩
 obtain rfl:=OH hc1
 exact mJ 3 [] (hJ2 _ (oj e2))
 cases e2
 refine lF 1 [] (A:=(Int×Int×Int)) (fun n (v103,last,c2)=>DB n x v103 last c2) (fun (v103,last,c2)=>⟨[(2,.sl [] .own),(3,.ptr 0 0),(6,.ptr 2 0),(7,oC out1),(9,.ptr 3 0),(12,.ptr 4 0),(13,iP last),(34,hF f.1),(35,iP (f.1.length:Int)),(36,iP v36),(101,hA x.Args),(102,iP (x.Args.length:Int)),(103,iP v103)],[[iP 0,iP 0],[iP f.2.At,iP f.2.E],[Bj,Dk],[tP x.Word,hA x.Args,hF x.Body,iP x.At],[tP x2.S,iP s.1,iP x3.N,iP x4.N,iP x5.E.Op,iP x5.E.N,tP x5.E.S,hX x5.E.Kids,iP x5.E.At,iP x6.E.Op,iP x6.E.N,tP x6.E.S,hX x6.E.Kids,iP x6.E.At,iP x7.E.Op,iP x7.E.N,tP x7.E.S,hX x7.E.Kids,iP x7.E.At,iP c2]]⟩) (0,-1,0) e1 (fun _=>rfl) ?_
 rintro n ⟨v103,last,c2⟩ e1 ih2
 replace e1:=(DB.eq_2 ..).symm.trans e1
 refine cD 1 [] e1 (fun hc30 e1=>?_) fun hc30 e1=>?_
 obtain⟨x8,hx8,e1⟩:=Ae e1
 refine mE 2 [(1,fi Bo hx8)] e1 (fun odd=>⟨[(2,.sl [] .own),(3,.ptr 0 0),(6,.ptr 2 0),(7,oC out1),(9,.ptr 3 0),(12,.ptr 4 0),(13,iP last),(14,iP v103),(15,.ptr 5 0),(16,bP odd),(34,hF f.1),(35,iP (f.1.length:Int)),(36,iP v36),(101,hA x.Args),(102,iP (x.Args.length:Int)),(103,iP v103)],[[iP 0,iP 0],[iP f.2.At,iP f.2.E],[Bj,Dk],[tP x.Word,hA x.Args,hF x.Body,iP x.At],[tP x2.S,iP s.1,iP x3.N,iP x4.N,iP x5.E.Op,iP x5.E.N,tP x5.E.S,hX x5.E.Kids,iP x5.E.At,iP x6.E.Op,iP x6.E.N,tP x6.E.S,hX x6.E.Kids,iP x6.E.At,iP x7.E.Op,iP x7.E.N,tP x7.E.S,hX x7.E.Kids,iP x7.E.At,iP c2],[iP x8.Kind,iP x8.N,tP x8.S,iP x8.E.Op,iP x8.E.N,tP x8.E.S,hX x8.E.Kids,iP x8.E.At,iP x8.At]]⟩) ?_ fun y3 e3 hJ3=>?_
 rintro odd e1
 refine cD 1 [] e1 (fun hc12 e1=>?_) fun hc12 e1=>?_
 cases e1
 cases e
 cases h
 exact rt 1 [] hQ
 refine cD 1 [] e1 (fun hc11 e1=>?_) fun hc11 e1=>?_
 obtain⟨q,hq,e1⟩:=Ae e1
 exact mJ 2 [(4,fN .i64 hq)] (ih2 (_,_,_) e1)
 exact mJ 1 [] (ih2 (_,_,_) e1)
 rcases Am e3 with⟨hc13,e3⟩|⟨hc13,e3⟩
 rcases Am e3 with⟨hc14,e3⟩|⟨hc14,e3⟩
 exact mJ 1 [(2,fo hc13),(3,fo hc14)] (hJ3 _ (oj e3))
 rcases Am e3 with⟨hc15,e3⟩|⟨hc15,e3⟩
 exact mJ 1 [(2,fo hc13),(3,fo hc14),(5,fo hc15)] (hJ3 _ (oj e3))
 rcases Am e3 with⟨hc16,e3⟩|⟨hc16,e3⟩
 rcases Am e3 with⟨hc17,e3⟩|⟨hc17,e3⟩
 exact mJ 1 [(2,fo hc13),(3,fo hc14),(5,fo hc15),(2,fo hc16),(3,fo hc17)] (hJ3 _ (oj e3))
 rcases Am e3 with⟨hc18,e3⟩|⟨hc18,e3⟩
 exact mJ 1 [(2,fo hc13),(3,fo hc14),(5,fo hc15),(2,fo hc16),(3,fo hc17),(6,fo hc18)] (hJ3 _ (oj e3))
 rcases Am e3 with⟨hc19,e3⟩|⟨hc19,e3⟩
 rcases Am e3 with⟨hc20,e3⟩|⟨hc20,e3⟩
 exact mJ 1 [(2,fo hc13),(3,fo hc14),(5,fo hc15),(2,fo hc16),(3,fo hc17),(6,fo hc18),(2,fo hc19),(4,fo hc20)] (hJ3 _ (oj e3))
 exact mJ 1 [(2,fo hc13),(3,fo hc14),(5,fo hc15),(2,fo hc16),(3,fo hc17),(6,fo hc18),(2,fo hc19),(4,fo hc20)] (hJ3 _ (oj e3))
 exact mJ 1 [(2,fo hc13),(3,fo hc14),(5,fo hc15),(2,fo hc16),(3,fo hc17),(6,fo hc18),(2,fo hc19)] (hJ3 _ (oj e3))
 rcases Am e3 with⟨hc21,e3⟩|⟨hc21,e3⟩
 rcases Am e3 with⟨hc22,e3⟩|⟨hc22,e3⟩
 exact mJ 1 [(2,fo hc13),(3,fo hc14),(5,fo hc15),(2,fo hc16),(13,fo hc21),(4,fo hc22)] (hJ3 _ (oj e3))
 exact mJ 1 [(2,fo hc13),(3,fo hc14),(5,fo hc15),(2,fo hc16),(13,fo hc21),(4,fo hc22)] (hJ3 _ (oj e3))
 exact mJ 1 [(2,fo hc13),(3,fo hc14),(5,fo hc15),(2,fo hc16),(13,fo hc21)] (hJ3 _ (oj e3))
 rcases Am e3 with⟨hc23,e3⟩|⟨hc23,e3⟩
 rcases Am e3 with⟨hc24,e3⟩|⟨hc24,e3⟩
 exact mJ 1 [(2,fo hc13),(12,fo hc23),(3,fo hc24)] (hJ3 _ (oj e3))
 rcases Am e3 with⟨hc25,e3⟩|⟨hc25,e3⟩
 exact mJ 1 [(2,fo hc13),(12,fo hc23),(3,fo hc24),(6,fo hc25)] (hJ3 _ (oj e3))
 rcases Am e3 with⟨hc26,e3⟩|⟨hc26,e3⟩
 rcases Am e3 with⟨hc27,e3⟩|⟨hc27,e3⟩
 exact mJ 1 [(2,fo hc13),(12,fo hc23),(3,fo hc24),(6,fo hc25),(2,fo hc26),(4,fo hc27)] (hJ3 _ (oj e3))
 exact mJ 1 [(2,fo hc13),(12,fo hc23),(3,fo hc24),(6,fo hc25),(2,fo hc26),(4,fo hc27)] (hJ3 _ (oj e3))
 exact mJ 1 [(2,fo hc13),(12,fo hc23),(3,fo hc24),(6,fo hc25),(2,fo hc26)] (hJ3 _ (oj e3))
 rcases Am e3 with⟨hc28,e3⟩|⟨hc28,e3⟩
 rcases Am e3 with⟨hc29,e3⟩|⟨hc29,e3⟩
 exact mJ 1 [(2,fo hc13),(12,fo hc23),(13,fo hc28),(4,fo hc29)] (hJ3 _ (oj e3))
 exact mJ 1 [(2,fo hc13),(12,fo hc23),(13,fo hc28),(4,fo hc29)] (hJ3 _ (oj e3))
 exact mJ 1 [(2,fo hc13),(12,fo hc23),(13,fo hc28)] (hJ3 _ (oj e3))
 exact mJ 1 [] (hJ1 _ (oj e1))
 exact mJ 1 [] (hJ _ (oj e))
end Go.Proofs.YtehfpameijkafaaGreatDoor
namespace Go.Proofs.YtehfpameijkafaaGreatDoor
open Go.RowKit Go.Q Go.Vl Go.Sp
set_option maxRecDepth 100000
set_option linter.unusedSimpArgs false
set_option maxHeartbeats 4000000
set_option linter.unusedVariables false
theorem Uk (c:Aa)(k:Int)(r:Ag)(h:IE c k=some r):CA Tryz.prog 47 [.agg [tP c.Name,iP c.Kind,iP c.Rank,iP c.Known,iP c.From.Op,iP c.From.N,tP c.From.S,hX c.From.Kids,iP c.From.At,iP c.To.Op,iP c.To.N,tP c.To.S,hX c.To.Kids,iP c.To.At,iP c.When.Op,iP c.When.N,tP c.When.S,hX c.When.Kids,iP c.When.At,iP c.Houses],iP k] (.agg [iP r.Op,iP r.N,tP r.S,hX r.Kids,iP r.At]):=by
 unfold IE at h
 refine vP ⟨[0,1,2,4,6,10],[]⟩ Tryz.func47 follows fun Q hQ=>?_
 refine cD 2 [] h (fun hc1 h=>?_) fun hc1 h=>?_
 cases h
 exact rt 1 [] hQ
 refine cD 1 [] h (fun hc h=>?_) fun hc h=>?_
 cases h
 exact rt 1 [] hQ
 cases h
 exact rt 1 [] hQ
theorem R7 (n0:Nat)
 (ih_ref33_left:∀ m,m<=n0->∀ (e:Ag) (n_:Int) (r:Int),BQ m e n_=some r->CA Tryz.prog 46 [.agg [iP e.Op,iP e.N,tP e.S,hX e.Kids,iP e.At],iP n_] (iP r))
 (n:Nat) (hn:n<=n0) (e:Ag) (n_:Int) (r:Int) (h:BQ (n+1) e n_=some r):CA Tryz.prog 46 [.agg [iP e.Op,iP e.N,tP e.S,hX e.Kids,iP e.At],iP n_] (iP r):=by
 replace h:=(BQ.eq_2 ..).symm.trans h
 refine vP ⟨[0,1,2,4,5,16],[]⟩ Tryz.func46 follows fun Q hQ=>?_
 refine mE 3 [] h (fun n_1=>⟨[(1,iP n_1),(4,iP 0)],[[iP e.Op,iP e.N,tP e.S,hX e.Kids,iP e.At]]⟩) ?_ fun y e1 hJ=>?_
 rintro n_1 h
 cases h
 exact rt 1 [] hQ
 refine lR 1 [] (A:=(Int×Int)) (fun n (n_2,k)=>C4 n e n_2 k) (fun (n_2,k)=>⟨[(1,iP n_2),(2,.ptr 0 0),(4,iP 0),(5,iP k)],[[iP e.Op,iP e.N,tP e.S,hX e.Kids,iP e.At]]⟩) ((À (n_-1)),0) hn e1 (fun _=>rfl) ?_
 rintro n ⟨n_2,k⟩ hn e1 ih
 replace e1:=(C4.eq_2 ..).symm.trans e1
 refine mE 0 [] e1 (fun v16=>⟨[(1,iP n_2),(2,.ptr 0 0),(4,iP 0),(5,iP k),(16,bP v16)],[[iP e.Op,iP e.N,tP e.S,hX e.Kids,iP e.At]]⟩) ?_ fun y1 e2 hJ1=>?_
 rintro v16 e1
 refine cD 0 [] e1 (fun hc e1=>?_) fun hc e1=>?_
 obtain⟨x,hx,e1⟩:=Ae e1
 obtain⟨n_3,hn_3,e1⟩:=Ae e1
 exact mJ 3 [(3,fi B3 hx),(2,fk (ih_ref33_left _ hn _ _ _ hn_3))] (ih (_,_) e1)
 exact mJ 1 [] (hJ _ (oj e1))
 rcases Am e2 with⟨hc1,e2⟩|⟨hc1,e2⟩
 exact mJ 1 [(3,fl B3 e.Kids),(1,fo hc1)] (hJ1 _ (oj e2))
 exact mJ 1 [(3,fl B3 e.Kids),(1,fo hc1)] (hJ1 _ (oj e2))
theorem Lq:∀ n:Nat,(∀ m,m<=n->∀ (e:Ag) (n_:Int) (r:Int),BQ m e n_=some r->CA Tryz.prog 46 [.agg [iP e.Op,iP e.N,tP e.S,hX e.Kids,iP e.At],iP n_] (iP r))
 |0=>(fun m hm e n_ r h=>by
  obtain rfl:m=0:=by omega
  exact absurd h (by simp [BQ]))
 |n+1=>by
  have ih:=Lq n
  exact fun m hm e n_ r h=>by
   cases m with
   |zero=>exact absurd h (by simp [BQ])
   |succ m=>exact R7 n (ih) m (by omega) e n_ _ h
theorem Ul (n:Nat)(e:Ag)(n_:Int)(r:Int)(h:BQ n e n_=some r):CA Tryz.prog 46 [.agg [iP e.Op,iP e.N,tP e.S,hX e.Kids,iP e.At],iP n_] (iP r) :=
 (Lq n) n (à _) e n_ r h
theorem Kf (n:Nat)(l:(List Aa))(n_:Int)(r:Bool)(h:JA n l n_=some r):CA Tryz.prog 25 [hC l,iP n_] (bP r):=by
 unfold JA at h
 refine vP ⟨[0,1,4,5,6,9,17,25],[]⟩ Tryz.func25 follows fun Q hQ=>?_
 refine cD 2 [(2,fl A7 l)] h (fun hc4 h=>?_) fun hc4 h=>?_
 cases h
 exact rt 1 [] hQ
 refine mE 1 [] h (fun n_1=>⟨[(1,iP n_1),(4,bP false)],[]⟩) ?_ fun y e hJ=>?_
 rintro n_1 h
 cases h
 exact rt 1 [] hQ
 refine lF 1 [] (A:=(Int×Int)) (fun n (n_2,i)=>Dw n l n_2 i) (fun (n_2,i)=>⟨[(0,hC l),(1,iP n_2),(4,bP false),(5,iP i)],[]⟩) (n_,0) e (fun _=>rfl) ?_
 rintro n ⟨n_2,i⟩ e ih
 replace e:=(Dw.eq_2 ..).symm.trans e
 refine mE 0 [] e (fun v17=>⟨[(0,hC l),(1,iP n_2),(4,bP false),(5,iP i),(17,bP v17)],[]⟩) ?_ fun y1 e1 hJ1=>?_
 rintro v17 e
 refine cD 0 [] e (fun hc2 e=>?_) fun hc2 e=>?_
 refine mE 2 [] e (fun n_3=>⟨[(0,hC l),(1,iP n_3),(4,bP false),(5,iP i)],[]⟩) ?_ fun y2 e2 hJ2=>?_
 rintro n_3 e
 exact mJ 1 [] (ih (_,_) e)
 refine lF 1 [] (A:=(Int×Int)) (fun n (n_4,k)=>BS n l i n_4 k) (fun (n_4,k)=>⟨[(0,hC l),(1,iP n_4),(4,bP false),(5,iP i),(6,iP k)],[]⟩) (n_2,0) e2 (fun _=>rfl) ?_
 rintro n ⟨n_4,k⟩ e2 ih1
 replace e2:=(BS.eq_2 ..).symm.trans e2
 refine mE 0 [] e2 (fun v25=>⟨[(0,hC l),(1,iP n_4),(4,bP false),(5,iP i),(6,iP k),(25,bP v25)],[]⟩) ?_ fun y3 e3 hJ3=>?_
 rintro v25 e2
 refine cD 0 [] e2 (fun hc e2=>?_) fun hc e2=>?_
 obtain⟨x,hx,e2⟩:=Ae e2
 obtain⟨p,hp,e2⟩:=Ae e2
 obtain⟨n_5,hn_5,e2⟩:=Ae e2
 exact mJ 3 [(2,fi A7 hx),(2,fk (Uk _ _ _ hp)),(1,fk (Ul _ _ _ _ hn_5))] (ih1 (_,_) e2)
 exact mJ 1 [] (hJ2 _ (oj e2))
 rcases Am e3 with⟨hc1,e3⟩|⟨hc1,e3⟩
 exact mJ 1 [(2,fo hc1)] (hJ3 _ (oj e3))
 exact mJ 1 [(2,fo hc1)] (hJ3 _ (oj e3))
 exact mJ 1 [] (hJ _ (oj e))
 rcases Am e1 with⟨hc3,e1⟩|⟨hc3,e1⟩
 exact mJ 1 [(2,fl A7 l),(1,fo hc3)] (hJ1 _ (oj e1))
 exact mJ 1 [(2,fl A7 l),(1,fo hc3)] (hJ1 _ (oj e1))
end Go.Proofs.YtehfpameijkafaaGreatDoor
namespace Go.Proofs.YtehfpameijkafaaGreatDoor
open Go.RowKit Go.Q Go.Vl Go.Sp
set_option maxRecDepth 100000
set_option linter.unusedSimpArgs false
set_option maxHeartbeats 4000000
set_option linter.unusedVariables false
theorem Uj (n:Nat)(a_:Bd)(b:Bd)(r:Bool)(h:MI n a_ b=some r):CA Tryz.prog 18 [.agg [iP a_.State,iP a_.Houses,hI a_.By],.agg [iP b.State,iP b.Houses,hI b.By]] (bP r):=by
 unfold MI at h
 refine vP ⟨[0,1,2,3,4,5,26,31,44],[(6,[9999,0,0,1,2,3,4,5,6,7,8,9,10])]⟩ Tryz.func18 follows fun Q hQ=>?_
 refine mE 1 [] h (fun v26=>⟨[(2,.ptr 0 0),(3,.ptr 1 0),(4,bP false),(26,bP v26)],[[iP a_.State,iP a_.Houses,hI a_.By],[iP b.State,iP b.Houses,hI b.By]]⟩) ?_ fun y e hJ=>?_
 rintro v26 h
 refine cD 0 [] h (fun hc2 h=>?_) fun hc2 h=>?_
 cases h
 exact rt 1 [] hQ
 refine mI 1 [] h (fun _=>⟨[(4,bP false)],[[iP a_.State,iP a_.Houses,hI a_.By],[iP b.State,iP b.Houses,hI b.By]]⟩) ?_ fun y1 e1 h hJ1=>?_
 rintro _ h
 cases h
 exact rt 1 [] hQ
 refine lF 1 [] (A:=Int) (fun n k=>H2 n a_ b k) (fun k=>⟨[(2,.ptr 0 0),(3,.ptr 1 0),(4,bP false),(5,iP k)],[[iP a_.State,iP a_.Houses,hI a_.By],[iP b.State,iP b.Houses,hI b.By]]⟩) 0 e1 (fun _=>rfl) ?_
 rintro n k e1 ih
 replace e1:=(H2.eq_2 ..).symm.trans e1
 refine cD 1 [(3,fl A2 a_.By)] e1 (fun hc1 e1=>?_) fun hc1 e1=>?_
 obtain⟨x,hx,e1⟩:=Ae e1
 obtain⟨x1,hx1,e1⟩:=Ae e1
 refine cD 2 [(3,fi A2 hx),(4,fi A2 hx1)] e1 (fun hc e1=>?_) fun hc e1=>?_
 cases e1
 cases h
 exact rt 1 [] hQ
 exact mJ 1 [] (ih _ e1)
 exact mJ 1 [] (hJ1 _ (oj e1))
 rcases Am e with⟨hc3,e⟩|⟨hc3,e⟩
 exact mJ 1 [(5,fo hc3)] (hJ _ (oj e))
 rcases Am e with⟨hc4,e⟩|⟨hc4,e⟩
 exact mJ 1 [(5,fo hc3),(6,fo hc4)] (hJ _ (oj e))
 exact mJ 1 [(5,fo hc3),(6,fo hc4),(2,fl A2 a_.By),(2,fl A2 b.By)] (hJ _ (oj e))
theorem BE (n:Nat)(a_:(List Ba))(b:(List Ba))(r:Bool)(h:Gc n a_ b=some r):CA Tryz.prog 19 [hX8 a_,hX8 b] (bP r):=by
 unfold Gc at h
 refine vP ⟨[0,1,4,5,10,14,25],[(6,[9999,0,0,1,2,3,4,5,6,7,8])]⟩ Tryz.func19 follows fun Q hQ=>?_
 refine cD 2 [(2,fl CT a_),(1,fl CT b)] h (fun hc2 h=>?_) fun hc2 h=>?_
 cases h
 exact rt 1 [] hQ
 refine mI 1 [] h (fun _=>⟨[(4,bP false)],[]⟩) ?_ fun y e h hJ=>?_
 rintro _ h
 cases h
 exact rt 1 [] hQ
 refine lF 1 [] (A:=Int) (fun n k=>Dv n a_ b k) (fun k=>⟨[(0,hX8 a_),(1,hX8 b),(4,bP false),(5,iP k)],[]⟩) 0 e (fun _=>rfl) ?_
 rintro n k e ih
 replace e:=(Dv.eq_2 ..).symm.trans e
 refine cD 1 [(2,fl CT a_)] e (fun hc1 e=>?_) fun hc1 e=>?_
 obtain⟨x,hx,e⟩:=Ae e
 obtain⟨x1,hx1,e⟩:=Ae e
 refine cD 2 [(2,fi CT hx),(3,fi CT hx1)] e (fun hc e=>?_) fun hc e=>?_
 cases e
 cases h
 exact rt 1 [] hQ
 exact mJ 1 [] (ih _ e)
 exact mJ 1 [] (hJ _ (oj e))
theorem VP (n:Nat)(l:(List Aa))(d:Aj)(r:Bool)(h:Ip n l d=some r):CA Tryz.prog 8 [hC l,.agg [hZ d.Facts,iP d.Stored,iP d.Owner]] (bP r):=by
 unfold Ip at h
 refine vP ⟨[0,1,3,4],[]⟩ Tryz.func8 follows fun Q hQ=>?_
 refine mE 1 [] h (fun v4=>⟨[(4,bP v4)],[[hZ d.Facts,iP d.Stored,iP d.Owner]]⟩) ?_ fun y e hJ=>?_
 rintro v4 h
 cases h
 exact rt 0 [] hQ
 obtain⟨f,hf,e⟩:=Ae e
 rcases Am e with⟨hc,e⟩|⟨hc,e⟩
 rcases Am e with⟨hc1,e⟩|⟨hc1,e⟩
 exact mJ 1 [(1,fk (Kf _ _ _ _ hf)),(0,fo hc),(2,fl B2 d.Facts),(1,fo hc1)] (hJ _ (oj e))
 rcases Am e with⟨hc2,e⟩|⟨hc2,e⟩
 exact mJ 1 [(1,fk (Kf _ _ _ _ hf)),(0,fo hc),(2,fl B2 d.Facts),(1,fo hc1),(2,fl B2 d.Facts),(1,fo hc2),(2,fl B2 d.Facts)] (hJ _ (oj e))
 exact mJ 1 [(1,fk (Kf _ _ _ _ hf)),(0,fo hc),(2,fl B2 d.Facts),(1,fo hc1),(2,fl B2 d.Facts),(1,fo hc2)] (hJ _ (oj e))
 exact mJ 1 [(1,fk (Kf _ _ _ _ hf)),(0,fo hc)] (hJ _ (oj e))
theorem E2 (n:Nat)(l:(List Aa))(d:Aj)(day:Int)(known:Int)(want:Bd)(r:Bool)(h:GZ n l d day known want=some r):CA Tryz.prog 26 [hC l,.agg [hZ d.Facts,iP d.Stored,iP d.Owner],iP day,iP known,.agg [iP want.State,iP want.Houses,hI want.By]] (bP r):=by
 unfold GZ at h
 refine vP ⟨[0,1,2,3,4,6,9,10,11,12],[]⟩ Tryz.func26 follows fun Q hQ=>?_
 obtain⟨a_,ha_,h⟩:=Ae h
 refine mE 2 [(7,fk (Nn _ _ _ _ _ _ ha_))] h (fun v10=>⟨[(10,bP v10)],[[hZ d.Facts,iP d.Stored,iP d.Owner],[iP want.State,iP want.Houses,hI want.By],[iP a_.1.State,iP a_.1.Houses,hI a_.1.By]]⟩) ?_ fun y e hJ=>?_
 rintro v10 h
 cases h
 exact rt 0 [] hQ
 rcases Am e with⟨hc,e⟩|⟨hc,e⟩
 obtain⟨s,hs,e⟩:=Ae e
 exact mJ 1 [(2,fo hc),(2,fk (Uj _ _ _ _ hs))] (hJ _ (oj e))
 exact mJ 1 [(2,fo hc)] (hJ _ (oj e))
theorem Mq (n:Nat)(l:(List Aa))(d:Aj)(day:Int)(known:Int)(want:Bd)(r:Bool)(h:GZ n l d day known want=some r)(hw:want.By=[]):CA Tryz.prog 26 [hC l,.agg [hZ d.Facts,iP d.Stored,iP d.Owner],iP day,iP known,.agg [iP want.State,iP want.Houses,.sl [] .nil]] (bP r):=by
 have h0:=E2 n l d day known want r h
 rw [hw] at h0
 intro σ w G vs h1 h2 h3 h4 h5
 refine h0 σ w G vs h1 h2 (fun i hi=>?_) h4 h5
 have h6:=h3 i hi
 match i,hi,h6 with
 |0,_,h6=>exact h6
 |1,_,h6=>exact h6
 |2,_,h6=>exact h6
 |3,_,h6=>exact h6
 |4,_,h6 =>
  revert h6
  show V w G.U G.φ (.agg [iP want.State,iP want.Houses,.sl [] .nil]) _->V w G.U G.φ (.agg [iP want.State,iP want.Houses,.sl [] .shared]) _
  generalize vs.getD 4 Go.undef=z
  intro h6
  cases h6 with
  |agg _ _ arr hn hh h1 =>
   refine .agg _ _ arr hn (fun j hj=>?_) h1
   have:=hh j hj
   match j,hj,this with
   |0,_,k=>exact k
   |1,_,k=>exact k
   |2,_,k=>exact C2 (p:=.sl [] .nil) k
theorem R9 (n:Nat)(r:Bool)(h:Kq n=some r):CA Tryz.prog 9 [] (bP r):=by
 unfold Kq at h
 refine vP ⟨[0,1,2,3,4,5,6,7,8,9,10,11,12,13,14,15],[]⟩ Tryz.func9 follows fun Q hQ=>?_
 obtain⟨c,hc,h⟩:=Ae h
 obtain⟨l,hl,h⟩:=Ae h
 refine mE 3 [(1,fk (NZ _ _ _ hc)),(7,fB B2 hl)] h (fun one=>⟨[(0,bP false),(1,hC c.1),(3,.ptr 1 0),(4,bP one)],[[iP c.2.At,iP c.2.E],[hZ l,iP 10,iP 4]]⟩) ?_ fun y e hJ=>?_
 rintro one h
 refine mE 0 [] h (fun two=>⟨[(0,bP false),(1,hC c.1),(3,.ptr 1 0),(4,bP one),(5,bP two)],[[iP c.2.At,iP c.2.E],[hZ l,iP 10,iP 4]]⟩) ?_ fun y1 e1 hJ1=>?_
 rintro two h
 obtain⟨s,hs,h⟩:=Ae h
 obtain⟨b,hb,h⟩:=Ae h
 obtain⟨l1,hl1,h⟩:=Ae h
 obtain⟨l2,hl2,h⟩:=Ae h
 obtain⟨l3,hl3,h⟩:=Ae h
 refine mE 5 [(2,fk (K8 _ _ _ _ _ hs)),(7,fk (SO _ _ _ _ _ hb)),(9,fk (Jp _ _ _ _ _ _ hl1)),(7,fk (Jp _ _ _ _ _ _ hl2)),(10,fB CT hl3)] h (fun v0_=>⟨[(0,bP v0_)],[[iP c.2.At,iP c.2.E],[hZ l,iP 10,iP 4]]⟩) ?_ fun y2 e2 hJ2=>?_
 rintro v0_ h
 cases h
 exact rt 0 [] hQ
 rcases Am e2 with⟨hc1,e2⟩|⟨hc1,e2⟩
 rcases Am e2 with⟨hc2,e2⟩|⟨hc2,e2⟩
 rcases Am e2 with⟨hc3,e2⟩|⟨hc3,e2⟩
 obtain⟨s1,hs1,e2⟩:=Ae e2
 rcases Am e2 with⟨hc4,e2⟩|⟨hc4,e2⟩
 rcases Am e2 with⟨hc5,e2⟩|⟨hc5,e2⟩
 rcases Am e2 with⟨hc6,e2⟩|⟨hc6,e2⟩
 rcases Am e2 with⟨hc7,e2⟩|⟨hc7,e2⟩
 rcases Am e2 with⟨hc8,e2⟩|⟨hc8,e2⟩
 rcases Am e2 with⟨hc9,e2⟩|⟨hc9,e2⟩
 rcases Am e2 with⟨hc10,e2⟩|⟨hc10,e2⟩
 exact mJ 1 [(1,fo hc1),(2,fo hc2),(3,fo hc3),(2,fk (BE _ _ _ _ hs1)),(1,fo hc4),(3,fo hc5),(3,fo hc6),(3,fo hc7),(3,fo hc8),(3,fo hc9),(3,fo hc10)] (hJ2 _ (oj e2))
 exact mJ 1 [(1,fo hc1),(2,fo hc2),(3,fo hc3),(2,fk (BE _ _ _ _ hs1)),(1,fo hc4),(3,fo hc5),(3,fo hc6),(3,fo hc7),(3,fo hc8),(3,fo hc9),(3,fo hc10)] (hJ2 _ (oj e2))
 exact mJ 1 [(1,fo hc1),(2,fo hc2),(3,fo hc3),(2,fk (BE _ _ _ _ hs1)),(1,fo hc4),(3,fo hc5),(3,fo hc6),(3,fo hc7),(3,fo hc8),(3,fo hc9)] (hJ2 _ (oj e2))
 exact mJ 1 [(1,fo hc1),(2,fo hc2),(3,fo hc3),(2,fk (BE _ _ _ _ hs1)),(1,fo hc4),(3,fo hc5),(3,fo hc6),(3,fo hc7),(3,fo hc8)] (hJ2 _ (oj e2))
 exact mJ 1 [(1,fo hc1),(2,fo hc2),(3,fo hc3),(2,fk (BE _ _ _ _ hs1)),(1,fo hc4),(3,fo hc5),(3,fo hc6),(3,fo hc7)] (hJ2 _ (oj e2))
 exact mJ 1 [(1,fo hc1),(2,fo hc2),(3,fo hc3),(2,fk (BE _ _ _ _ hs1)),(1,fo hc4),(3,fo hc5),(3,fo hc6)] (hJ2 _ (oj e2))
 exact mJ 1 [(1,fo hc1),(2,fo hc2),(3,fo hc3),(2,fk (BE _ _ _ _ hs1)),(1,fo hc4),(3,fo hc5)] (hJ2 _ (oj e2))
 exact mJ 1 [(1,fo hc1),(2,fo hc2),(3,fo hc3),(2,fk (BE _ _ _ _ hs1)),(1,fo hc4)] (hJ2 _ (oj e2))
 exact mJ 1 [(1,fo hc1),(2,fo hc2),(3,fo hc3)] (hJ2 _ (oj e2))
 exact mJ 1 [(1,fo hc1),(2,fo hc2)] (hJ2 _ (oj e2))
 exact mJ 1 [(1,fo hc1)] (hJ2 _ (oj e2))
 obtain⟨l4,hl4,e1⟩:=Ae e1
 obtain⟨i,hi,e1⟩:=Ae e1
 rcases Am e1 with⟨hc11,e1⟩|⟨hc11,e1⟩
 obtain⟨l5,hl5,e1⟩:=Ae e1
 obtain⟨i1,hi1,e1⟩:=Ae e1
 rcases Am e1 with⟨hc12,e1⟩|⟨hc12,e1⟩
 obtain⟨l6,hl6,e1⟩:=Ae e1
 obtain⟨i2,hi2,e1⟩:=Ae e1
 exact mJ 1 [(2,fB A2 hl4),(1,fk (E2 _ _ _ _ _ _ _ hi)),(0,fo hc11),(2,fB A2 hl5),(1,fk (E2 _ _ _ _ _ _ _ hi1)),(1,fo hc12),(2,fB A2 hl6),(1,fk (E2 _ _ _ _ _ _ _ hi2))] (hJ1 _ (oj e1))
 exact mJ 1 [(2,fB A2 hl4),(1,fk (E2 _ _ _ _ _ _ _ hi)),(0,fo hc11),(2,fB A2 hl5),(1,fk (E2 _ _ _ _ _ _ _ hi1)),(1,fo hc12)] (hJ1 _ (oj e1))
 exact mJ 1 [(2,fB A2 hl4),(1,fk (E2 _ _ _ _ _ _ _ hi)),(0,fo hc11)] (hJ1 _ (oj e1))
 rcases Am e with⟨hc13,e⟩|⟨hc13,e⟩
 obtain⟨l7,hl7,e⟩:=Ae e
 obtain⟨i3,hi3,e⟩:=Ae e
 rcases Am e with⟨hc14,e⟩|⟨hc14,e⟩
 obtain⟨i4,hi4,e⟩:=Ae e
 rcases Am e with⟨hc15,e⟩|⟨hc15,e⟩
 obtain⟨l8,hl8,e⟩:=Ae e
 obtain⟨i5,hi5,e⟩:=Ae e
 exact mJ 1 [(3,fo hc13),(2,fB A2 hl7),(1,fk (E2 _ _ _ _ _ _ _ hi3)),(1,fo hc14),(3,fk (Mq _ _ _ _ _ _ _ hi4 rfl)),(1,fo hc15),(2,fB A2 hl8),(1,fk (E2 _ _ _ _ _ _ _ hi5))] (hJ _ (oj e))
 exact mJ 1 [(3,fo hc13),(2,fB A2 hl7),(1,fk (E2 _ _ _ _ _ _ _ hi3)),(1,fo hc14),(3,fk (Mq _ _ _ _ _ _ _ hi4 rfl)),(1,fo hc15)] (hJ _ (oj e))
 exact mJ 1 [(3,fo hc13),(2,fB A2 hl7),(1,fk (E2 _ _ _ _ _ _ _ hi3)),(1,fo hc14)] (hJ _ (oj e))
 exact mJ 1 [(3,fo hc13)] (hJ _ (oj e))
theorem SL (r:Bool)(h:Sb=some r):CA Tryz.prog 9 [] (bP r):=R9 60 r h
end Go.Proofs.YtehfpameijkafaaGreatDoor
namespace Go.Proofs.YtehfpameijkafaaGreatDoor
open Go.RowKit Go.Q Go.Vl Go.Sp
set_option maxRecDepth 100000
set_option linter.unusedSimpArgs false
set_option maxHeartbeats 4000000
set_option linter.unusedVariables false
theorem Jo (n:Nat)(l:(List Aa))(d:Aj)(days:(Int×Int×Int))(r:Bool)(h:Di n l d days=some r):CA Tryz.prog 6 [hC l,.agg [hZ d.Facts,iP d.Stored,iP d.Owner],.agg [iP days.1,iP days.2.1,iP days.2.2]] (bP r):=by
 unfold Di at h
 refine vP ⟨[0,1,2,4,5,6,7,8,9,10,11,12,13,15,16,17,18,19,20,21,22,26,39,41,42,43,44,52,68,69,70,71,78,120,123,124,125,158,171,224],[(27,[9999,0,0,1,2,3,4,5,6,7,8,9,10,11,12,13,14,15,16,17,18,19,20,21,22,23,24,25,26,27,28,29,30,31])]⟩ Tryz.func6 follows fun Q hQ=>?_
 obtain⟨f,hf,h⟩:=Ae h
 refine cD 2 [(5,fk (VP _ _ _ _ hf))] h (fun hc23 h=>?_) fun hc23 h=>?_
 obtain⟨s,hs,h⟩:=Ae h
 cases h
 exact rt 1 [(0,fk (SL _ hs))] hQ
 obtain⟨a_,ha_,h⟩:=Ae h
 refine cD 2 [(6,fk (Nn _ _ _ _ _ _ ha_))] h (fun hc22 h=>?_) fun hc22 h=>?_
 obtain⟨s1,hs1,h⟩:=Ae h
 cases h
 exact rt 1 [(0,fk (SL _ hs1))] hQ
 refine mE 3 [(3,fl A7 l)] h (fun (early,place)=>⟨[(0,hC l),(4,.ptr 0 0),(5,.ptr 1 0),(6,bP false),(7,.ptr 2 0),(9,oC early),(10,oI place)],[[hZ d.Facts,iP d.Stored,iP d.Owner],[iP days.1,iP days.2.1,iP days.2.2],[iP a_.1.State,iP a_.1.Houses,hI a_.1.By]]⟩) ?_ fun y e hJ=>?_
 rintro⟨early,place⟩ h
 refine mE 2 [(9,fl B2 d.Facts)] h (fun short=>⟨[(0,hC l),(4,.ptr 0 0),(5,.ptr 1 0),(6,bP false),(7,.ptr 2 0),(9,oC early),(10,oI place),(13,.ptr 3 0)],[[hZ d.Facts,iP d.Stored,iP d.Owner],[iP days.1,iP days.2.1,iP days.2.2],[iP a_.1.State,iP a_.1.Houses,hI a_.1.By],[oZ short,iP d.Stored,iP d.Owner]]⟩) ?_ fun y1 e1 hJ1=>?_
 rintro short h
 obtain⟨a_1,ha_1,h⟩:=Ae h
 refine mE 1 [(6,fk (Nn _ _ _ _ _ _ ha_1))] h (fun v120=>⟨[(0,hC l),(4,.ptr 0 0),(5,.ptr 1 0),(6,bP false),(7,.ptr 2 0),(10,oI place),(16,.ptr 4 0),(120,bP v120)],[[hZ d.Facts,iP d.Stored,iP d.Owner],[iP days.1,iP days.2.1,iP days.2.2],[iP a_.1.State,iP a_.1.Houses,hI a_.1.By],[oZ short,iP d.Stored,iP d.Owner],[iP a_1.1.State,iP a_1.1.Houses,hI a_1.1.By]]⟩) ?_ fun y2 e2 hJ2=>?_
 rintro v120 h
 refine cD 0 [] h (fun hc14 h=>?_) fun hc14 h=>?_
 cases h
 exact rt 1 [] hQ
 refine mI 1 [(2,fl A2 a_1.1.By)] h (fun _=>⟨[(0,hC l),(4,.ptr 0 0),(5,.ptr 1 0),(6,bP false),(7,.ptr 2 0)],[[hZ d.Facts,iP d.Stored,iP d.Owner],[iP days.1,iP days.2.1,iP days.2.2],[iP a_.1.State,iP a_.1.Houses,hI a_.1.By],[oZ short,iP d.Stored,iP d.Owner],[iP a_1.1.State,iP a_1.1.Houses,hI a_1.1.By]]⟩) ?_ fun y3 e3 h hJ3=>?_
 rintro _ h
 obtain⟨l1,hl1,h⟩:=Ae h
 refine cD 2 [(6,fk (Jp _ _ _ _ _ _ hl1))] h (fun hc9 h=>?_) fun hc9 h=>?_
 obtain⟨s2,hs2,h⟩:=Ae h
 cases h
 exact rt 1 [(0,fk (SL _ hs2))] hQ
 obtain⟨a_2,ha_2,h⟩:=Ae h
 refine mE 1 [(6,fk (Nn _ _ _ _ _ _ ha_2))] h (fun v224=>⟨[(6,bP false),(224,bP v224)],[[hZ d.Facts,iP d.Stored,iP d.Owner],[iP days.1,iP days.2.1,iP days.2.2],[iP a_.1.State,iP a_.1.Houses,hI a_.1.By],[oZ short,iP d.Stored,iP d.Owner],[iP a_1.1.State,iP a_1.1.Houses,hI a_1.1.By],[iP a_2.1.State,iP a_2.1.Houses,hI a_2.1.By]]⟩) ?_ fun y4 e4 hJ4=>?_
 rintro v224 h
 refine cD 0 [] h (fun hc h=>?_) fun hc h=>?_
 cases h
 exact rt 1 [] hQ
 obtain⟨s3,hs3,h⟩:=Ae h
 cases h
 exact rt 1 [(0,fk (SL _ hs3))] hQ
 rcases Am e4 with⟨hc1,e4⟩|⟨hc1,e4⟩
 exact mJ 1 [(2,fo hc1)] (hJ4 _ (oj e4))
 rcases Am e4 with⟨hc2,e4⟩|⟨hc2,e4⟩
 rcases Am e4 with⟨hc3,e4⟩|⟨hc3,e4⟩
 exact mJ 1 [(2,fo hc1),(4,fo hc2),(5,fo hc3)] (hJ4 _ (oj e4))
 rcases Am e4 with⟨hc4,e4⟩|⟨hc4,e4⟩
 exact mJ 1 [(2,fo hc1),(4,fo hc2),(5,fo hc3),(8,fo hc4)] (hJ4 _ (oj e4))
 rcases Am e4 with⟨hc5,e4⟩|⟨hc5,e4⟩
 rcases Am e4 with⟨hc6,e4⟩|⟨hc6,e4⟩
 exact mJ 1 [(2,fo hc1),(4,fo hc2),(5,fo hc3),(8,fo hc4),(4,fo hc5),(6,fo hc6)] (hJ4 _ (oj e4))
 exact mJ 1 [(2,fo hc1),(4,fo hc2),(5,fo hc3),(8,fo hc4),(4,fo hc5),(6,fo hc6)] (hJ4 _ (oj e4))
 exact mJ 1 [(2,fo hc1),(4,fo hc2),(5,fo hc3),(8,fo hc4),(4,fo hc5)] (hJ4 _ (oj e4))
 rcases Am e4 with⟨hc7,e4⟩|⟨hc7,e4⟩
 rcases Am e4 with⟨hc8,e4⟩|⟨hc8,e4⟩
 exact mJ 1 [(2,fo hc1),(4,fo hc2),(19,fo hc7),(6,fo hc8)] (hJ4 _ (oj e4))
 exact mJ 1 [(2,fo hc1),(4,fo hc2),(19,fo hc7),(6,fo hc8)] (hJ4 _ (oj e4))
 exact mJ 1 [(2,fo hc1),(4,fo hc2),(19,fo hc7)] (hJ4 _ (oj e4))
 refine lF 1 [] (A:=Int) (fun n v124=>Bh n a_1 place a_ v124) (fun v124=>⟨[(0,hC l),(4,.ptr 0 0),(5,.ptr 1 0),(6,bP false),(7,.ptr 2 0),(10,oI place),(16,.ptr 4 0),(123,iP (a_1.1.By.length:Int)),(124,iP v124)],[[hZ d.Facts,iP d.Stored,iP d.Owner],[iP days.1,iP days.2.1,iP days.2.2],[iP a_.1.State,iP a_.1.Houses,hI a_.1.By],[oZ short,iP d.Stored,iP d.Owner],[iP a_1.1.State,iP a_1.1.Houses,hI a_1.1.By]]⟩) 0 e3 (fun _=>rfl) ?_
 rintro n v124 e3 ih
 replace e3:=(Bh.eq_2 ..).symm.trans e3
 refine cD 1 [] e3 (fun hc13 e3=>?_) fun hc13 e3=>?_
 refine mE 2 [] e3 (fun v158=>⟨[(0,hC l),(4,.ptr 0 0),(5,.ptr 1 0),(6,bP false),(7,.ptr 2 0),(10,oI place),(16,.ptr 4 0),(123,iP (a_1.1.By.length:Int)),(124,iP v124),(158,bP v158)],[[hZ d.Facts,iP d.Stored,iP d.Owner],[iP days.1,iP days.2.1,iP days.2.2],[iP a_.1.State,iP a_.1.Houses,hI a_.1.By],[oZ short,iP d.Stored,iP d.Owner],[iP a_1.1.State,iP a_1.1.Houses,hI a_1.1.By]]⟩) ?_ fun y5 e5 hJ5=>?_
 rintro v158 e3
 refine cD 0 [] e3 (fun hc10 e3=>?_) fun hc10 e3=>?_
 cases e3
 cases h
 exact rt 1 [] hQ
 exact mJ 1 [] (ih _ e3)
 obtain⟨x,hx,e5⟩:=Ae e5
 rcases Am e5 with⟨hc11,e5⟩|⟨hc11,e5⟩
 exact mJ 1 [(3,fi A2 hx),(2,fo hc11)] (hJ5 _ (oj e5))
 rcases Am e5 with⟨hc12,e5⟩|⟨hc12,e5⟩
 exact mJ 1 [(3,fi A2 hx),(2,fo hc11),(3,fi A2 hx),(2,fl A2 place),(2,fo hc12)] (hJ5 _ (oj e5))
 obtain⟨x1,hx1,e5⟩:=Ae e5
 obtain⟨x2,hx2,e5⟩:=Ae e5
 exact mJ 1 [(3,fi A2 hx),(2,fo hc11),(3,fi A2 hx),(2,fl A2 place),(2,fo hc12),(4,fi A2 hx),(1,fi A2 hx1),(4,fi A2 hx2)] (hJ5 _ (oj e5))
 exact mJ 1 [] (hJ3 _ (oj e3))
 rcases Am e2 with⟨hc15,e2⟩|⟨hc15,e2⟩
 exact mJ 1 [(2,fo hc15)] (hJ2 _ (oj e2))
 rcases Am e2 with⟨hc16,e2⟩|⟨hc16,e2⟩
 exact mJ 1 [(2,fo hc15),(6,fo hc16)] (hJ2 _ (oj e2))
 rcases Am e2 with⟨hc17,e2⟩|⟨hc17,e2⟩
 exact mJ 1 [(2,fo hc15),(6,fo hc16),(6,fo hc17)] (hJ2 _ (oj e2))
 exact mJ 1 [(2,fo hc15),(6,fo hc16),(6,fo hc17),(2,fl A2 a_1.1.By),(2,fl A2 a_.1.By)] (hJ2 _ (oj e2))
 refine lF 1 [] (A:=(Int×(List Bb))) (fun n (v70,short1)=>AM n d days v70 short1) (fun (v70,short1)=>⟨[(0,hC l),(4,.ptr 0 0),(5,.ptr 1 0),(6,bP false),(7,.ptr 2 0),(9,oC early),(10,oI place),(13,.ptr 3 0),(68,hZ d.Facts),(69,iP (d.Facts.length:Int)),(70,iP v70)],[[hZ d.Facts,iP d.Stored,iP d.Owner],[iP days.1,iP days.2.1,iP days.2.2],[iP a_.1.State,iP a_.1.Houses,hI a_.1.By],[oZ short1,iP d.Stored,iP d.Owner]]⟩) (0,[]) e1 (fun _=>rfl) ?_
 rintro n ⟨v70,short1⟩ e1 ih1
 replace e1:=(AM.eq_2 ..).symm.trans e1
 refine cD 1 [] e1 (fun hc19 e1=>?_) fun hc19 e1=>?_
 obtain⟨x3,hx3,e1⟩:=Ae e1
 refine cD 3 [(0,fi B2 hx3)] e1 (fun hc18 e1=>?_) fun hc18 e1=>?_
 obtain⟨l2,hl2,e1⟩:=Ae e1
 obtain⟨l3,hl3,e1⟩:=Ae e1
 exact mJ 2 [(3,fB B2 hl2),(0,fa B2 hl3)] (ih1 (_,_) e1)
 exact mJ 1 [] (ih1 (_,_) e1)
 exact mJ 1 [] (hJ1 _ (oj e1))
 refine lF 1 [] (A:=((List Aa)×(List Int)×Int)) (fun n (early1,place1,v43)=>AL n l days early1 place1 v43) (fun (early1,place1,v43)=>⟨[(0,hC l),(4,.ptr 0 0),(5,.ptr 1 0),(6,bP false),(7,.ptr 2 0),(9,oC early1),(10,oI place1),(41,hC l),(42,iP (l.length:Int)),(43,iP v43)],[[hZ d.Facts,iP d.Stored,iP d.Owner],[iP days.1,iP days.2.1,iP days.2.2],[iP a_.1.State,iP a_.1.Houses,hI a_.1.By]]⟩) ([],[],0) e (fun _=>rfl) ?_
 rintro n ⟨early1,place1,v43⟩ e ih2
 replace e:=(AL.eq_2 ..).symm.trans e
 refine cD 1 [] e (fun hc21 e=>?_) fun hc21 e=>?_
 obtain⟨x4,hx4,e⟩:=Ae e
 refine cD 3 [(1,fi A7 hx4)] e (fun hc20 e=>?_) fun hc20 e=>?_
 obtain⟨l4,hl4,e⟩:=Ae e
 obtain⟨l5,hl5,e⟩:=Ae e
 obtain⟨l6,hl6,e⟩:=Ae e
 obtain⟨l7,hl7,e⟩:=Ae e
 exact mJ 2 [(2,fB A7 hl4),(0,fa A7 hl5),(2,fB A2 hl6),(0,fa A2 hl7)] (ih2 (_,_,_) e)
 exact mJ 1 [] (ih2 (_,_,_) e)
 exact mJ 1 [] (hJ _ (oj e))
end Go.Proofs.YtehfpameijkafaaGreatDoor
