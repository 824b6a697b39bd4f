/-
  Plain facts on blanks and single tokens. No program. Plain facts on sources: joined, cut, with blanks put in, printed and read again. No program. A matrix of bytes that a call made itself and writes into: its rows lie in blocks of their own. No program. More of lists in memory: appending any list, an empty one and nil too; regions whose end is named. No program. Tokens in memory, the reader's state, strings as lists of bytes. No program.
-/
import Derived.Laws.CopyOwn
import Derived.Lib.Strings
import Derived.Test.YtkcfmlfkfagejaaGreatDoorU1
import Derived.Test.YtkcfmlfkfagejaaGreatDoorU2
import Derived.Test.YtkcfmlfkfagejaaGreatDoorU11
set_option linter.unusedVariables false
set_option linter.unusedSimpArgs false
namespace Go.Lx
theorem KJ (c:UInt8)(r:List UInt8):skip false (c::r)=if isBlank c then skip false r else if c=35 then skip true r else c::r:=rfl
theorem Ly (c:UInt8)(r:List UInt8):skip true (c::r)=if c=10 then skip false r else skip true r:=rfl
theorem HK:∀ (m:Bool) (r:List UInt8),(skip m r).length<=r.length
 |_,[]=>by cases ‹Bool›<;>exact Nat.le_refl _
 |false,c::r=>by
  unfold skip
  split
  . have:=HK false r;simp only [List.length_cons];omega
  . split
    . have:=HK true r;simp only [List.length_cons];omega
    . exact Nat.le_refl _
 |true,c::r=>by
  unfold skip
  split
  . have:=HK false r;simp only [List.length_cons];omega
  . have:=HK true r;simp only [List.length_cons];omega
theorem skip_stay {c:UInt8}{r:List UInt8}(h:isBlank c=false)(h2:c≠35):skip false (c::r)=c::r:=by
 unfold skip;rw [if_neg (by simp [h]),if_neg h2]
theorem HJ:∀ (m:Bool) (a:List UInt8),∃ u,a=u++skip m a
 |m,[]=>⟨[],by cases m<;>rfl⟩
 |false,d::a=>by
  unfold skip
  split
  . obtain⟨u,h⟩:=HJ false a;exact⟨d::u,by rw [List.cons_append,<- h]⟩
  . split
    . obtain⟨u,h⟩:=HJ true a;exact⟨d::u,by rw [List.cons_append,<- h]⟩
    . exact⟨[],rfl⟩
 |true,d::a=>by
  unfold skip
  split
  . obtain⟨u,h⟩:=HJ false a;exact⟨d::u,by rw [List.cons_append,<- h]⟩
  . obtain⟨u,h⟩:=HJ true a;exact⟨d::u,by rw [List.cons_append,<- h]⟩
def Sep (t x:List UInt8):Prop:=x=[]∨(∃ c r,x=c::r/\(isBlank c=true∨c=35))∨(∃ c r r',x=c::r/\t=c::r')
theorem Gk (p:UInt8->Bool):∀ (u x:List UInt8),(∀ c∈u,p c=true)->headIs p x=false->(u++x).takeWhile p=u/\(u++x).dropWhile p=x
 | [],x,_,h=>by
  cases x with
  |nil=>exact⟨rfl,rfl⟩
  |cons c r=>have:p c=false:=h;simp [this]
 |d::u,x,hu,h=>by
  obtain⟨h1,h2⟩:=Gk p u x (fun c hc=>hu c (List.mem_cons_of_mem _ hc)) h
  have hd:=hu d (List.mem_cons_self ..)
  simp [hd,h1,h2]
theorem HY (p:UInt8->Bool):∀ (r:List UInt8),(∀ c∈r.takeWhile p,p c=true)/\headIs p (r.dropWhile p)=false/\r=r.takeWhile p++r.dropWhile p
 | []=>⟨by simp,rfl,rfl⟩
 |d::r=>by
  obtain⟨h1,h2,h3⟩:=HY p r
  by_cases hd:p d=true
  . simp only [List.takeWhile_cons,List.dropWhile_cons,hd,if_true]
    refine⟨fun c hc=>?_,h2,by rw [List.cons_append,<- h3]⟩
    rcases List.mem_cons.1 hc with rfl|h
    . exact hd
    . exact h1 c h
  . simp only [List.takeWhile_cons,List.dropWhile_cons,if_neg hd]
    exact⟨by simp,by show p d=false;simpa using hd,rfl⟩
theorem blank_not_word {c:UInt8}(h:isBlank c=true∨c=35):isWord c=false/\isDigit c=false/\isLetter c=false:=by
 have:c=32∨c=9∨c=10∨c=13∨c=35:=by
  rcases h with h|h
  . simp only [isBlank,Bool.or_eq_true,beq_iff_eq] at h
    rcases h with ((h|h)|h)|h<;>simp [h]
  . simp [h]
 rcases this with rfl|rfl|rfl|rfl|rfl<;>decide
theorem Qu {p:UInt8->Bool}{t x:List UInt8}(h:Sep t x)(ht:headIs p t=false)(hb:∀ c,(isBlank c=true∨c=35)->p c=false):headIs p x=false:=by
 rcases h with rfl|⟨c,r,rfl,hc⟩|⟨c,r,r',rfl,rfl⟩
 . rfl
 . exact hb c hc
 . exact ht
theorem name_parts {r s t:List UInt8}{k v:Nat}(h:name r=.ok k s v t):k=1/\v=0/\r=s++t/\(∀ c∈s,isWord c=true)/\headIs isWord t=false/\s.length<=32:=by
 unfold name at h
 split at h
 . cases h
 . cases h
   obtain⟨h1,h2,h3⟩:=HY isWord r
   exact⟨rfl,rfl,h3,h1,h2,by omega⟩
theorem name_of {s x:List UInt8}(h1:∀ c∈s,isWord c=true)(h2:headIs isWord x=false)(h3:s.length<=32):name (s++x)=.ok 1 s 0 x:=by
 obtain⟨e1,e2⟩:=Gk isWord s x h1 h2
 unfold name
 rw [e1,e2,if_neg (by omega)]
end Go.Lx
namespace Go.Lx
theorem numVal_snoc (d:List UInt8)(c:UInt8):numVal (d++[c])=10*numVal d+(c.toNat-48):=by
 unfold numVal;rw [List.foldl_append];rfl
def dec (n:Nat):List UInt8:=if h:n<10 then [UInt8.ofNat (48+n)] else dec (n / 10)++[UInt8.ofNat (48+n % 10)]
termination_by n
decreasing_by omega
theorem digit_bounds {c:UInt8}(h:isDigit c=true):48<=c.toNat/\c.toNat<=57:=by
 simp only [isDigit,Bool.and_eq_true,decide_eq_true_eq,UInt8.le_iff_toNat_le] at h
 exact⟨h.1,h.2⟩
theorem Pj {c:UInt8}(h:isDigit c=true):UInt8.ofNat (48+(c.toNat-48))=c:=by
 have:=digit_bounds h
 rw [show 48+(c.toNat-48)=c.toNat by omega]
 exact UInt8.ofNat_toNat
theorem WK:∀ (d:List UInt8) (c:UInt8),isDigit c=true->c≠48->(∀ x∈d,isDigit x=true)->1<=numVal (c::d):=by
 intro d c hc h48 hd
 have hb:=digit_bounds hc
 have hne:c.toNat≠48:=fun e=>h48 (UInt8.toNat_inj.1 (by rw [e];rfl))
 have key:∀ (l:List UInt8) (a:Nat),1<=a->1<=l.foldl (fun n c=>10*n+(c.toNat-48)) a:=by
  intro l
  induction l with
  |nil=>intro a h;exact h
  |cons x l ih=>intro a h;exact ih _ (show 1<=10*a+(x.toNat-48) by omega)
 exact key d _ (show 1<=10*0+(c.toNat-48) by omega)
theorem Rs:∀ (n:Nat) (d:List UInt8),d.length=n->d≠[]->(∀ c∈d,isDigit c=true)->(1<d.length->headIs (· == 48) d=false)->dec (numVal d)=d
 |0,d,hl,hne,_,_=>absurd (List.eq_nil_of_length_eq_zero hl) hne
 |n+1,d,hl,hne,hd,hz=>by
  obtain⟨d',c,rfl⟩:∃ d' c,d=d'++[c]:=⟨d.dropLast,d.getLast hne,(List.dropLast_concat_getLast hne).symm⟩
  have hc:=hd c (by simp)
  have hb:=digit_bounds hc
  rw [numVal_snoc]
  by_cases h0:d'=[]
  . subst h0
    have e:numVal []=0:=rfl
    rw [e,dec,dif_pos (by omega)]
    simp only [Nat.mul_zero,Nat.zero_add,Pj hc,List.nil_append]
  . have hd':∀ x∈d',isDigit x=true:=fun x hx=>hd x (by simp [hx])
    obtain⟨a,r,rfl⟩:∃ a r,d'=a::r:=by cases d' with|nil=>exact absurd rfl h0|cons a r=>exact⟨a,r,rfl⟩
    have ha:a≠48:=by
     have:=hz (by simp)
     have h2:(a == 48)=false:=this
     simpa using h2
    have hp:=WK r a (hd' a (by simp)) ha (fun x hx=>hd' x (by simp [hx]))
    have ih:=Rs n (a::r) (by simp at hl ⊢;omega) (by simp) hd' (fun _=>by show (a == 48)=false;simpa using ha)
    rw [dec,dif_neg (by omega)]
    rw [show (10*numVal (a::r)+(c.toNat-48)) / 10=numVal (a::r) by omega,show (10*numVal (a::r)+(c.toNat-48)) % 10=c.toNat-48 by omega,ih,Pj hc]
theorem number_parts {r s t:List UInt8}{k v:Nat}(h:number r=.ok k s v t):∃ d,k=2/\s=[]/\v=numVal d/\r=d++t/\(∀ c∈d,isDigit c=true)/\headIs isDigit t=false/\headIs isLetter t=false/\d.length<=15/\(1<d.length->headIs (· == 48) r=false):=by
 unfold number at h
 simp only at h
 split at h
 . cases h
 . rename_i hn
   cases h
   obtain⟨h1,h2,h3⟩:=HY isDigit r
   simp only [Bool.or_eq_true,Bool.and_eq_true,decide_eq_true_eq,not_or,not_and] at hn
   obtain⟨⟨hn1,hn2⟩,hn3⟩:=hn
   exact⟨_,rfl,rfl,rfl,h3,h1,h2,by simpa using hn3,by omega,fun h=>by simpa using hn2 h⟩
theorem number_of {d x:List UInt8}(h1:∀ c∈d,isDigit c=true)(h2:headIs isDigit x=false)(h3:headIs isLetter x=false)(h4:d.length<=15)(h5:1<d.length->headIs (· == 48) (d++x)=false):number (d++x)=.ok 2 [] (numVal d) x:=by
 obtain⟨e1,e2⟩:=Gk isDigit d x h1 h2
 unfold number
 simp only
 rw [e1,e2,if_neg]
 simp only [Bool.or_eq_true,Bool.and_eq_true,decide_eq_true_eq,not_or,not_and]
 exact⟨⟨by omega,fun h=>by simpa using h5 h⟩,by simpa using h3⟩
theorem HB (a b:List UInt8):quoted (a++b)=quoted a++quoted b:=List.flatMap_append
theorem Pf {d:UInt8}(h:pair d≠0):quoted [pair d]=[92,d]:=by
 unfold pair at h ⊢
 by_cases h1:d=34∨d=92
 . rw [if_pos h1]
   rcases h1 with rfl|rfl<;>decide
 . rw [if_neg h1] at h ⊢
   by_cases h2:d=110
   . subst h2;decide
   . rw [if_neg h2] at h;exact absurd rfl h
theorem NC {c:UInt8}(h1:c≠34)(h2:c≠92)(h3:¬ (c<32∨126<c)):quoted [c]=[c]:=by
 have h4:c≠10:=fun e=>h3 (.inl (by rw [e];decide))
 simp [quoted,h1,h2,h4]
theorem text_parts:∀ (n:Nat) (r b:List UInt8),r.length<=n->∀ {s t:List UInt8} {k v:Nat},text b r=.ok k s v t ->
 ∃ body,k=3/\v=0/\s=b++body/\r=quoted body++34::t/\∀ x,text b (quoted body++34::x)=.ok 3 s 0 x:=by
 intro n
 induction n with
 |zero =>
  intro r b hr s t k v h
  obtain rfl:=List.eq_nil_of_length_eq_zero (Nat.le_zero.1 hr)
  unfold text at h
  split at h<;>cases h
 |succ n ih =>
  intro r b hr s t k v h
  cases r with
  |nil=>unfold text at h;split at h<;>cases h
  |cons c r =>
   unfold text at h
   by_cases hb:200<b.length
   . rw [if_pos hb] at h;cases h
   rw [if_neg hb] at h
   by_cases h34:c=34
   . rw [if_pos h34] at h
     cases h
     refine⟨[],rfl,rfl,by simp,by rw [h34];rfl,fun x=>?_⟩
     show text b (34::x)=_
     unfold text
     rw [if_neg hb,if_pos rfl]
   rw [if_neg h34] at h
   by_cases h92:c=92
   . rw [if_pos h92] at h
     cases r with
     |nil=>cases h
     |cons d r' =>
      simp only at h
      by_cases hp:pair d=0
      . rw [if_pos hp] at h;cases h
      . rw [if_neg hp] at h
        obtain⟨body,e1,e2,e3,e4,e5⟩:=ih r' _ (by simp at hr;omega) h
        refine⟨pair d::body,e1,e2,by rw [e3];simp,?_,fun x=>?_⟩
        . rw [show pair d::body=[pair d]++body from rfl,HB,Pf hp,e4,h92];rfl
        . rw [show pair d::body=[pair d]++body from rfl,HB,Pf hp]
          show text b (92::d::(quoted body++34::x))=_
          unfold text
          rw [if_neg hb,if_neg (by decide),if_pos rfl]
          simp only
          rw [if_neg hp]
          exact e5 x
   . rw [if_neg h92] at h
     by_cases hr2:c<32∨126<c
     . rw [if_pos hr2] at h;cases h
     . rw [if_neg hr2] at h
       obtain⟨body,e1,e2,e3,e4,e5⟩:=ih r _ (by simp at hr;omega) h
       refine⟨c::body,e1,e2,by rw [e3];simp,?_,fun x=>?_⟩
       . rw [show c::body=[c]++body from rfl,HB,NC h34 h92 hr2,e4];rfl
       . rw [show c::body=[c]++body from rfl,HB,NC h34 h92 hr2]
         show text b (c::(quoted body++34::x))=_
         unfold text
         rw [if_neg hb,if_neg h34,if_neg h92,if_neg hr2]
         exact e5 x
theorem long_len {l:List UInt8}(h:l∈long):l.length=2:=by
 have:∀ l∈long,l.length=2:=by decide
 exact this l h
theorem V1 {a b:UInt8}(h:[a,b]∈long):isBlank b=false/\b≠35:=by
 have:∀ l∈long,∀ b,l[1]?=some b->isBlank b=false/\b≠35:=by
  intro l hl b hb
  simp only [long,List.mem_cons,List.not_mem_nil,or_false] at hl
  rcases hl with rfl|rfl|rfl|rfl|rfl|rfl|rfl|rfl|rfl<;>(simp at hb;subst hb;decide)
 exact this _ h b rfl
theorem sign_parts {r s t:List UInt8}{k v:Nat}(h:sign r=.ok k s v t):k=4/\v=0/\r=s++t/\((s∈long)∨(∃ c,s=[c]/\c∈short/\r.take 2∉long)):=by
 unfold sign at h
 by_cases hl:r.take 2∈long
 . rw [if_pos hl] at h;cases h;exact⟨rfl,rfl,(List.take_append_drop 2 r).symm,.inl hl⟩
 . rw [if_neg hl] at h
   cases r with
   |nil=>cases h
   |cons c r' =>
    simp only at h
    by_cases hs:c∈short
    . rw [if_pos hs] at h;cases h;exact⟨rfl,rfl,rfl,.inr ⟨c,rfl,hs,hl⟩⟩
    . rw [if_neg hs] at h;cases h
theorem A6 {s t x:List UInt8}(h:(s∈long)∨(∃ c,s=[c]/\c∈short/\(s++t).take 2∉long))(hx:Sep t x):sign (s++x)=.ok 4 s 0 x:=by
 unfold sign
 rcases h with h|⟨c,rfl,hc,hn⟩
 . have hl:=long_len h
   have e1:(s++x).take 2=s:=by rw [<- hl];exact List.take_left
   have e2:(s++x).drop 2=x:=by rw [<- hl];exact List.drop_left
   rw [e1,e2,if_pos h]
 . have hno:([c]++x).take 2∉long:=by
    rcases hx with rfl|⟨d,r,rfl,hd⟩|⟨d,r,r',rfl,rfl⟩
    . intro h;have:=long_len h;simp at this
    . intro h
      have h2:[c,d]∈long:=h
      obtain⟨h3,h4⟩:=V1 h2
      rcases hd with hd|hd
      . rw [hd] at h3;cases h3
      . exact h4 hd
    . exact hn
   rw [if_neg hno]
   simp only [List.singleton_append]
   rw [if_pos hc]
def word (k:Nat)(s:List UInt8)(v:Nat):List UInt8:=if k=1∨k=4 then s else if k=2 then dec v else if k=3 then 34::quoted s++[34] else []
theorem tok_parts {r s t:List UInt8}{k v:Nat}(h:tok r=.ok k s v t) :
 word k s v≠[]/\r=word k s v++t/\(∀ x,Sep t x->tok (word k s v++x)=.ok k s v x)/\1<=k/\k<=4:=by
 unfold tok at h
 cases r with
 |nil=>cases h
 |cons c r' =>
  simp only at h
  by_cases hl:isLetter c=true
  . rw [if_pos hl] at h
    obtain⟨rfl,rfl,e,h1,h2,h3⟩:=name_parts h
    have hw:word 1 s 0=s:=rfl
    have hs:s≠[]:=by
     rintro rfl
     rw [List.nil_append] at e
     rw [<- e] at h2
     have:isWord c=false:=h2
     simp [isWord,hl] at this
    obtain⟨d,s',rfl⟩:∃ d s',s=d::s':=by cases s with|nil=>exact absurd rfl hs|cons d s'=>exact⟨d,s',rfl⟩
    have hd:d=c:=by simp at e;exact e.1.symm
    subst hd
    rw [hw]
    refine⟨hs,e,fun x hx=>?_,by omega,by omega⟩
    rw [List.cons_append]
    unfold tok
    simp only
    rw [if_pos hl,<- List.cons_append]
    exact name_of h1 (Qu hx h2 fun c hc=>(blank_not_word hc).1) h3
  rw [if_neg hl] at h
  by_cases hd:isDigit c=true
  . rw [if_pos hd] at h
    obtain⟨d,rfl,rfl,rfl,e,h1,h2,h3,h4,h5⟩:=number_parts h
    have hdn:d≠[]:=by
     rintro rfl
     rw [List.nil_append] at e
     rw [<- e] at h2
     have:isDigit c=false:=h2
     rw [hd] at this;cases this
    obtain⟨a,d',rfl⟩:∃ a d',d=a::d':=by cases d with|nil=>exact absurd rfl hdn|cons a d'=>exact⟨a,d',rfl⟩
    have ha:a=c:=by simp at e;exact e.1.symm
    subst ha
    have h6:1<(a::d').length->headIs (· == 48) (a::d')=false:=fun h=>by have:=h5 h;exact this
    have hw:word 2 [] (numVal (a::d'))=a::d':=by
     show dec _=_
     exact Rs _ _ rfl hdn h1 h6
    rw [hw]
    refine⟨hdn,e,fun x hx=>?_,by omega,by omega⟩
    rw [List.cons_append]
    unfold tok
    simp only
    rw [if_neg hl,if_pos hd,<- List.cons_append]
    exact number_of h1 (Qu hx h2 fun c hc=>(blank_not_word hc).2.1) (Qu hx h3 fun c hc=>(blank_not_word hc).2.2) h4 (fun h=>h6 h)
  rw [if_neg hd] at h
  by_cases hq:c=34
  . rw [if_pos hq] at h
    obtain⟨body,rfl,rfl,e3,e4,e5⟩:=text_parts _ _ _ (Nat.le_refl _) h
    rw [List.nil_append] at e3
    subst e3
    have hw:word 3 s 0=34::quoted s++[34]:=rfl
    rw [hw]
    refine⟨by simp,by rw [hq,e4];simp,fun x _=>?_,by omega,by omega⟩
    rw [List.append_assoc]
    show tok (34::(quoted s++34::x))=_
    unfold tok
    simp only
    rw [if_neg (by decide),if_neg (by decide),if_pos trivial]
    exact e5 x
  rw [if_neg hq] at h
  obtain⟨rfl,rfl,e,h1⟩:=sign_parts h
  have hw:word 4 s 0=s:=rfl
  rw [hw]
  have hs:s≠[]:=by
   rcases h1 with h1|⟨c,rfl,_⟩
   . have:=long_len h1;rintro rfl;simp at this
   . simp
  obtain⟨a,s',rfl⟩:∃ a s',s=a::s':=by cases s with|nil=>exact absurd rfl hs|cons a s'=>exact⟨a,s',rfl⟩
  have ha:a=c:=by simp at e;exact e.1.symm
  subst ha
  refine⟨hs,e,fun x hx=>?_,by omega,by omega⟩
  rw [List.cons_append]
  unfold tok
  simp only
  rw [if_neg hl,if_neg hd,if_neg hq,<- List.cons_append]
  exact A6 (t:=t) (by rw [<- e];exact h1) hx
end Go.Lx
namespace Go.Lx
inductive Good (n:Nat):List UInt8->List Tok->Prop
 |fin:Good n [] [⟨5,n,[],0⟩]
 |cons {r s t:List UInt8} {k v:Nat} {l:List Tok}:tok r=.ok k s v t->Good n (skip false t) l->Good n r (⟨k,n-r.length,s,v⟩::l)
inductive Bad (n:Nat):List UInt8->Nat->Nat->Prop
 |here {r:List UInt8} {e:Nat}:r≠[]->tok r=.bad e->Bad n r (n-r.length) e
 |later {r s t:List UInt8} {k v p e:Nat}:tok r=.ok k s v t->Bad n (skip false t) p e->Bad n r p e
theorem tok_len {r s t:List UInt8}{k v:Nat}(h:tok r=.ok k s v t):t.length<r.length:=by
 obtain⟨h1,h2,_⟩:=tok_parts h
 have:0<(word k s v).length:=List.length_pos_iff.2 h1
 rw [h2,List.length_append];omega
theorem Good.unique {n:Nat}{r:List UInt8}{l l':List Tok}(h:Good n r l)(h':Good n r l'):l=l':=by
 induction h generalizing l' with
 |fin=>cases h' with|fin=>rfl|cons h _=>cases h
 |cons ht _ ih =>
  cases h' with
  |fin=>cases ht
  |cons ht' hg'=>rw [ht] at ht';cases ht';rw [ih hg']
theorem Good.notBad {n p e:Nat}{r:List UInt8}{l:List Tok}(h:Good n r l)(h':Bad n r p e):False:=by
 induction h with
 |fin=>cases h' with|here h _=>exact h rfl|later h _=>cases h
 |cons ht _ ih =>
  cases h' with
  |here _ hb=>rw [ht] at hb;cases hb
  |later ht' hb=>rw [ht] at ht';cases ht';exact ih hb
theorem Bad.unique {n p e p' e':Nat}{r:List UInt8}(h:Bad n r p e)(h':Bad n r p' e'):p=p'/\e=e':=by
 induction h with
 |here _ hb=>cases h' with|here _ hb'=>rw [hb] at hb';cases hb';exact⟨rfl,rfl⟩|later ht _=>rw [hb] at ht;cases ht
 |later ht _ ih=>cases h' with|here _ hb'=>rw [ht] at hb';cases hb'|later ht' hb=>rw [ht] at ht';cases ht';exact ih hb
def Tok.core (x:Tok):Nat×List UInt8×Nat:=(x.kind,x.s,x.n)
def Tok.word (x:Tok):List UInt8:=Lx.word x.kind x.s x.n
def joinSp:List (List UInt8)->List UInt8
 | []=>[]
 | [w]=>w
 |w::v::r=>w++32::joinSp (v::r)
end Go.Lx



