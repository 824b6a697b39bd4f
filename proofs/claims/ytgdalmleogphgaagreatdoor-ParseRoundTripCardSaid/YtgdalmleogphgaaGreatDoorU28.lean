/-
  Plain facts on blanks and single tokens. No program. Plain facts on sources: joined, cut, with blanks put in, printed and read again. No program. A matrix of bytes that a call made itself and writes into: its rows lie in blocks of their own. No program. More of lists in memory: appending any list, an empty one and nil too; regions whose end is named. No program. Tokens in memory, the reader's state, strings as lists of bytes. No program. The walks of the lexer's and of the reference's small functions: class, letter, digit, pair. Strings as lists of bytes, at an offset; the walk of the reference's Blank. The walks of the reference's name and number. The walk of the reference's number. What strconv.Atoi does with a word that begins with a digit. No program. The contracts of library functions that the lexer calls, laid at this program (written by the kit's own tools, in plain words). Plain facts that the walks of the lexer use. Plain facts of what is left of a source. Plain facts for examples: what is read by running; line feeds and wide characters. No program.
-/
import Derived.Laws.CopyOwn
import Derived.Lib.Strings
import Derived.Test.YtgdalmleogphgaaGreatDoorChecked
import Derived.WalkKit
import Derived.Lib.AtoiAll
import Derived.Shelf.Small.Strs
import Derived.Shelf.Strings.Search3
import Derived.Shelf.Strings.Prefix
import Derived.Shelf.Strings.Fields
import Derived.Shelf.LaysC
import Derived.Shelf.Strconv.AtoiAll
import Derived.Test.YtgdalmleogphgaaGreatDoorProg
import Derived.Laws.RangeAny
import Derived.Test.YtgdalmleogphgaaGreatDoorU1
import Derived.Test.YtgdalmleogphgaaGreatDoorU15
namespace Go.Lx
theorem Hy (c:UInt8)(r:List UInt8):skip false (c::r)=if isBlank c then skip false r else if c=35 then skip true r else c::r:=rfl
theorem HO (c:UInt8)(r:List UInt8):skip true (c::r)=if c=10 then skip false r else skip true r:=rfl
theorem skip_len:∀ (m:Bool) (r:List UInt8),(skip m r).length<=r.length
 |_,[]=>by cases ‹Bool›<;>exact Nat.le_refl _
 |false,c::r=>by
  unfold skip
  split
  . have:=skip_len false r;simp only [List.length_cons];omega
  . split
    . have:=skip_len true r;simp only [List.length_cons];omega
    . exact Nat.le_refl _
 |true,c::r=>by
  unfold skip
  split
  . have:=skip_len false r;simp only [List.length_cons];omega
  . have:=skip_len true r;simp only [List.length_cons];omega
theorem skip_stay {c:UInt8}{r:List UInt8}(h:isBlank c=false)(h2:c≠35):skip false (c::r)=c::r:=by
 unfold skip;rw [if_neg (by simp [h]),if_neg h2]
theorem EY:∀ (m:Bool) (a:List UInt8),∃ u,a=u++skip m a
 |m,[]=>⟨[],by cases m<;>rfl⟩
 |false,d::a=>by
  unfold skip
  split
  . obtain⟨u,h⟩:=EY false a;exact⟨d::u,by rw [List.cons_append,<- h]⟩
  . split
    . obtain⟨u,h⟩:=EY true a;exact⟨d::u,by rw [List.cons_append,<- h]⟩
    . exact⟨[],rfl⟩
 |true,d::a=>by
  unfold skip
  split
  . obtain⟨u,h⟩:=EY false a;exact⟨d::u,by rw [List.cons_append,<- h]⟩
  . obtain⟨u,h⟩:=EY true a;exact⟨d::u,by rw [List.cons_append,<- h]⟩
def Sep (t x:List UInt8):Prop:=x=[]∨(∃ c r,x=c::r/\(isBlank c=true∨c=35))∨(∃ c r r',x=c::r/\t=c::r')
theorem Ed (p:UInt8->Bool):∀ (u x:List UInt8),(∀ c∈u,p c=true)->headIs p x=false->(u++x).takeWhile p=u/\(u++x).dropWhile p=x
 | [],x,_,h=>by
  cases x with
  |nil=>exact⟨rfl,rfl⟩
  |cons c r=>have:p c=false:=h;simp [this]
 |d::u,x,hu,h=>by
  obtain⟨h1,h2⟩:=Ed p u x (fun c hc=>hu c (List.mem_cons_of_mem _ hc)) h
  have hd:=hu d (List.mem_cons_self ..)
  simp [hd,h1,h2]
theorem Fl (p:UInt8->Bool):∀ (r:List UInt8),(∀ c∈r.takeWhile p,p c=true)/\headIs p (r.dropWhile p)=false/\r=r.takeWhile p++r.dropWhile p
 | []=>⟨by simp,rfl,rfl⟩
 |d::r=>by
  obtain⟨h1,h2,h3⟩:=Fl p r
  by_cases hd:p d=true
  . simp only [List.takeWhile_cons,List.dropWhile_cons,hd,if_true]
    refine⟨fun c hc=>?_,h2,by rw [List.cons_append,<- h3]⟩
    rcases List.mem_cons.1 hc with rfl|h
    . exact hd
    . exact h1 c h
  . simp only [List.takeWhile_cons,List.dropWhile_cons,if_neg hd]
    exact⟨by simp,by show p d=false;simpa using hd,rfl⟩
theorem blank_not_word {c:UInt8}(h:isBlank c=true∨c=35):isWord c=false/\isDigit c=false/\isLetter c=false:=by
 have:c=32∨c=9∨c=10∨c=13∨c=35:=by
  rcases h with h|h
  . simp only [isBlank,Bool.or_eq_true,beq_iff_eq] at h
    rcases h with ((h|h)|h)|h<;>simp [h]
  . simp [h]
 rcases this with rfl|rfl|rfl|rfl|rfl<;>decide
theorem L9 {p:UInt8->Bool}{t x:List UInt8}(h:Sep t x)(ht:headIs p t=false)(hb:∀ c,(isBlank c=true∨c=35)->p c=false):headIs p x=false:=by
 rcases h with rfl|⟨c,r,rfl,hc⟩|⟨c,r,r',rfl,rfl⟩
 . rfl
 . exact hb c hc
 . exact ht
theorem name_parts {r s t:List UInt8}{k v:Nat}(h:name r=.ok k s v t):k=1/\v=0/\r=s++t/\(∀ c∈s,isWord c=true)/\headIs isWord t=false/\s.length<=32:=by
 unfold name at h
 split at h
 . cases h
 . cases h
   obtain⟨h1,h2,h3⟩:=Fl isWord r
   exact⟨rfl,rfl,h3,h1,h2,by omega⟩
theorem name_of {s x:List UInt8}(h1:∀ c∈s,isWord c=true)(h2:headIs isWord x=false)(h3:s.length<=32):name (s++x)=.ok 1 s 0 x:=by
 obtain⟨e1,e2⟩:=Ed isWord s x h1 h2
 unfold name
 rw [e1,e2,if_neg (by omega)]
end Go.Lx
namespace Go.Lx
theorem numVal_snoc (d:List UInt8)(c:UInt8):numVal (d++[c])=10*numVal d+(c.toNat-48):=by
 unfold numVal;rw [List.foldl_append];rfl
def dec (n:Nat):List UInt8:=if h:n<10 then [UInt8.ofNat (48+n)] else dec (n / 10)++[UInt8.ofNat (48+n % 10)]
termination_by n
decreasing_by omega
theorem digit_bounds {c:UInt8}(h:isDigit c=true):48<=c.toNat/\c.toNat<=57:=by
 simp only [isDigit,Bool.and_eq_true,decide_eq_true_eq,UInt8.le_iff_toNat_le] at h
 exact⟨h.1,h.2⟩
theorem K6 {c:UInt8}(h:isDigit c=true):UInt8.ofNat (48+(c.toNat-48))=c:=by
 have:=digit_bounds h
 rw [show 48+(c.toNat-48)=c.toNat by omega]
 exact UInt8.ofNat_toNat
theorem PU:∀ (d:List UInt8) (c:UInt8),isDigit c=true->c≠48->(∀ x∈d,isDigit x=true)->1<=numVal (c::d):=by
 intro d c hc h48 hd
 have hb:=digit_bounds hc
 have hne:c.toNat≠48:=fun e=>h48 (UInt8.toNat_inj.1 (by rw [e];rfl))
 have key:∀ (l:List UInt8) (a:Nat),1<=a->1<=l.foldl (fun n c=>10*n+(c.toNat-48)) a:=by
  intro l
  induction l with
  |nil=>intro a h;exact h
  |cons x l ih=>intro a h;exact ih _ (show 1<=10*a+(x.toNat-48) by omega)
 exact key d _ (show 1<=10*0+(c.toNat-48) by omega)
theorem Ml:∀ (n:Nat) (d:List UInt8),d.length=n->d≠[]->(∀ c∈d,isDigit c=true)->(1<d.length->headIs (· == 48) d=false)->dec (numVal d)=d
 |0,d,hl,hne,_,_=>absurd (List.eq_nil_of_length_eq_zero hl) hne
 |n+1,d,hl,hne,hd,hz=>by
  obtain⟨d',c,rfl⟩:∃ d' c,d=d'++[c]:=⟨d.dropLast,d.getLast hne,(List.dropLast_concat_getLast hne).symm⟩
  have hc:=hd c (by simp)
  have hb:=digit_bounds hc
  rw [numVal_snoc]
  by_cases h0:d'=[]
  . subst h0
    have e:numVal []=0:=rfl
    rw [e,dec,dif_pos (by omega)]
    simp only [Nat.mul_zero,Nat.zero_add,K6 hc,List.nil_append]
  . have hd':∀ x∈d',isDigit x=true:=fun x hx=>hd x (by simp [hx])
    obtain⟨a,r,rfl⟩:∃ a r,d'=a::r:=by cases d' with|nil=>exact absurd rfl h0|cons a r=>exact⟨a,r,rfl⟩
    have ha:a≠48:=by
     have:=hz (by simp)
     have h2:(a == 48)=false:=this
     simpa using h2
    have hp:=PU r a (hd' a (by simp)) ha (fun x hx=>hd' x (by simp [hx]))
    have ih:=Ml n (a::r) (by simp at hl ⊢;omega) (by simp) hd' (fun _=>by show (a == 48)=false;simpa using ha)
    rw [dec,dif_neg (by omega)]
    rw [show (10*numVal (a::r)+(c.toNat-48)) / 10=numVal (a::r) by omega,show (10*numVal (a::r)+(c.toNat-48)) % 10=c.toNat-48 by omega,ih,K6 hc]
theorem number_parts {r s t:List UInt8}{k v:Nat}(h:number r=.ok k s v t):∃ d,k=2/\s=[]/\v=numVal d/\r=d++t/\(∀ c∈d,isDigit c=true)/\headIs isDigit t=false/\headIs isLetter t=false/\d.length<=15/\(1<d.length->headIs (· == 48) r=false):=by
 unfold number at h
 simp only at h
 split at h
 . cases h
 . rename_i hn
   cases h
   obtain⟨h1,h2,h3⟩:=Fl isDigit r
   simp only [Bool.or_eq_true,Bool.and_eq_true,decide_eq_true_eq,not_or,not_and] at hn
   obtain⟨⟨hn1,hn2⟩,hn3⟩:=hn
   exact⟨_,rfl,rfl,rfl,h3,h1,h2,by simpa using hn3,by omega,fun h=>by simpa using hn2 h⟩
theorem number_of {d x:List UInt8}(h1:∀ c∈d,isDigit c=true)(h2:headIs isDigit x=false)(h3:headIs isLetter x=false)(h4:d.length<=15)(h5:1<d.length->headIs (· == 48) (d++x)=false):number (d++x)=.ok 2 [] (numVal d) x:=by
 obtain⟨e1,e2⟩:=Ed isDigit d x h1 h2
 unfold number
 simp only
 rw [e1,e2,if_neg]
 simp only [Bool.or_eq_true,Bool.and_eq_true,decide_eq_true_eq,not_or,not_and]
 exact⟨⟨by omega,fun h=>by simpa using h5 h⟩,by simpa using h3⟩
theorem EM (a b:List UInt8):quoted (a++b)=quoted a++quoted b:=List.flatMap_append
theorem K4 {d:UInt8}(h:pair d≠0):quoted [pair d]=[92,d]:=by
 unfold pair at h ⊢
 by_cases h1:d=34∨d=92
 . rw [if_pos h1]
   rcases h1 with rfl|rfl<;>decide
 . rw [if_neg h1] at h ⊢
   by_cases h2:d=110
   . subst h2;decide
   . rw [if_neg h2] at h;exact absurd rfl h
theorem J7 {c:UInt8}(h1:c≠34)(h2:c≠92)(h3:¬ (c<32∨126<c)):quoted [c]=[c]:=by
 have h4:c≠10:=fun e=>h3 (.inl (by rw [e];decide))
 simp [quoted,h1,h2,h4]
theorem text_parts:∀ (n:Nat) (r b:List UInt8),r.length<=n->∀ {s t:List UInt8} {k v:Nat},text b r=.ok k s v t ->
 ∃ body,k=3/\v=0/\s=b++body/\r=quoted body++34::t/\∀ x,text b (quoted body++34::x)=.ok 3 s 0 x:=by
 intro n
 induction n with
 |zero =>
  intro r b hr s t k v h
  obtain rfl:=List.eq_nil_of_length_eq_zero (Nat.le_zero.1 hr)
  unfold text at h
  split at h<;>cases h
 |succ n ih =>
  intro r b hr s t k v h
  cases r with
  |nil=>unfold text at h;split at h<;>cases h
  |cons c r =>
   unfold text at h
   by_cases hb:200<b.length
   . rw [if_pos hb] at h;cases h
   rw [if_neg hb] at h
   by_cases h34:c=34
   . rw [if_pos h34] at h
     cases h
     refine⟨[],rfl,rfl,by simp,by rw [h34];rfl,fun x=>?_⟩
     show text b (34::x)=_
     unfold text
     rw [if_neg hb,if_pos rfl]
   rw [if_neg h34] at h
   by_cases h92:c=92
   . rw [if_pos h92] at h
     cases r with
     |nil=>cases h
     |cons d r' =>
      simp only at h
      by_cases hp:pair d=0
      . rw [if_pos hp] at h;cases h
      . rw [if_neg hp] at h
        obtain⟨body,e1,e2,e3,e4,e5⟩:=ih r' _ (by simp at hr;omega) h
        refine⟨pair d::body,e1,e2,by rw [e3];simp,?_,fun x=>?_⟩
        . rw [show pair d::body=[pair d]++body from rfl,EM,K4 hp,e4,h92];rfl
        . rw [show pair d::body=[pair d]++body from rfl,EM,K4 hp]
          show text b (92::d::(quoted body++34::x))=_
          unfold text
          rw [if_neg hb,if_neg (by decide),if_pos rfl]
          simp only
          rw [if_neg hp]
          exact e5 x
   . rw [if_neg h92] at h
     by_cases hr2:c<32∨126<c
     . rw [if_pos hr2] at h;cases h
     . rw [if_neg hr2] at h
       obtain⟨body,e1,e2,e3,e4,e5⟩:=ih r _ (by simp at hr;omega) h
       refine⟨c::body,e1,e2,by rw [e3];simp,?_,fun x=>?_⟩
       . rw [show c::body=[c]++body from rfl,EM,J7 h34 h92 hr2,e4];rfl
       . rw [show c::body=[c]++body from rfl,EM,J7 h34 h92 hr2]
         show text b (c::(quoted body++34::x))=_
         unfold text
         rw [if_neg hb,if_neg h34,if_neg h92,if_neg hr2]
         exact e5 x
theorem long_len {l:List UInt8}(h:l∈long):l.length=2:=by
 have:∀ l∈long,l.length=2:=by decide
 exact this l h
theorem Pj {a b:UInt8}(h:[a,b]∈long):isBlank b=false/\b≠35:=by
 have:∀ l∈long,∀ b,l[1]?=some b->isBlank b=false/\b≠35:=by
  intro l hl b hb
  simp only [long,List.mem_cons,List.not_mem_nil,or_false] at hl
  rcases hl with rfl|rfl|rfl|rfl|rfl|rfl|rfl|rfl|rfl<;>(simp at hb;subst hb;decide)
 exact this _ h b rfl
theorem sign_parts {r s t:List UInt8}{k v:Nat}(h:sign r=.ok k s v t):k=4/\v=0/\r=s++t/\((s∈long)∨(∃ c,s=[c]/\c∈short/\r.take 2∉long)):=by
 unfold sign at h
 by_cases hl:r.take 2∈long
 . rw [if_pos hl] at h;cases h;exact⟨rfl,rfl,(List.take_append_drop 2 r).symm,.inl hl⟩
 . rw [if_neg hl] at h
   cases r with
   |nil=>cases h
   |cons c r' =>
    simp only at h
    by_cases hs:c∈short
    . rw [if_pos hs] at h;cases h;exact⟨rfl,rfl,rfl,.inr ⟨c,rfl,hs,hl⟩⟩
    . rw [if_neg hs] at h;cases h
theorem AG {s t x:List UInt8}(h:(s∈long)∨(∃ c,s=[c]/\c∈short/\(s++t).take 2∉long))(hx:Sep t x):sign (s++x)=.ok 4 s 0 x:=by
 unfold sign
 rcases h with h|⟨c,rfl,hc,hn⟩
 . have hl:=long_len h
   have e1:(s++x).take 2=s:=by rw [<- hl];exact List.take_left
   have e2:(s++x).drop 2=x:=by rw [<- hl];exact List.drop_left
   rw [e1,e2,if_pos h]
 . have hno:([c]++x).take 2∉long:=by
    rcases hx with rfl|⟨d,r,rfl,hd⟩|⟨d,r,r',rfl,rfl⟩
    . intro h;have:=long_len h;simp at this
    . intro h
      have h2:[c,d]∈long:=h
      obtain⟨h3,h4⟩:=Pj h2
      rcases hd with hd|hd
      . rw [hd] at h3;cases h3
      . exact h4 hd
    . exact hn
   rw [if_neg hno]
   simp only [List.singleton_append]
   rw [if_pos hc]
def word (k:Nat)(s:List UInt8)(v:Nat):List UInt8:=if k=1∨k=4 then s else if k=2 then dec v else if k=3 then 34::quoted s++[34] else []
theorem tok_parts {r s t:List UInt8}{k v:Nat}(h:tok r=.ok k s v t) :
 word k s v≠[]/\r=word k s v++t/\(∀ x,Sep t x->tok (word k s v++x)=.ok k s v x)/\1<=k/\k<=4:=by
 unfold tok at h
 cases r with
 |nil=>cases h
 |cons c r' =>
  simp only at h
  by_cases hl:isLetter c=true
  . rw [if_pos hl] at h
    obtain⟨rfl,rfl,e,h1,h2,h3⟩:=name_parts h
    have hw:word 1 s 0=s:=rfl
    have hs:s≠[]:=by
     rintro rfl
     rw [List.nil_append] at e
     rw [<- e] at h2
     have:isWord c=false:=h2
     simp [isWord,hl] at this
    obtain⟨d,s',rfl⟩:∃ d s',s=d::s':=by cases s with|nil=>exact absurd rfl hs|cons d s'=>exact⟨d,s',rfl⟩
    have hd:d=c:=by simp at e;exact e.1.symm
    subst hd
    rw [hw]
    refine⟨hs,e,fun x hx=>?_,by omega,by omega⟩
    rw [List.cons_append]
    unfold tok
    simp only
    rw [if_pos hl,<- List.cons_append]
    exact name_of h1 (L9 hx h2 fun c hc=>(blank_not_word hc).1) h3
  rw [if_neg hl] at h
  by_cases hd:isDigit c=true
  . rw [if_pos hd] at h
    obtain⟨d,rfl,rfl,rfl,e,h1,h2,h3,h4,h5⟩:=number_parts h
    have hdn:d≠[]:=by
     rintro rfl
     rw [List.nil_append] at e
     rw [<- e] at h2
     have:isDigit c=false:=h2
     rw [hd] at this;cases this
    obtain⟨a,d',rfl⟩:∃ a d',d=a::d':=by cases d with|nil=>exact absurd rfl hdn|cons a d'=>exact⟨a,d',rfl⟩
    have ha:a=c:=by simp at e;exact e.1.symm
    subst ha
    have h6:1<(a::d').length->headIs (· == 48) (a::d')=false:=fun h=>by have:=h5 h;exact this
    have hw:word 2 [] (numVal (a::d'))=a::d':=by
     show dec _=_
     exact Ml _ _ rfl hdn h1 h6
    rw [hw]
    refine⟨hdn,e,fun x hx=>?_,by omega,by omega⟩
    rw [List.cons_append]
    unfold tok
    simp only
    rw [if_neg hl,if_pos hd,<- List.cons_append]
    exact number_of h1 (L9 hx h2 fun c hc=>(blank_not_word hc).2.1) (L9 hx h3 fun c hc=>(blank_not_word hc).2.2) h4 (fun h=>h6 h)
  rw [if_neg hd] at h
  by_cases hq:c=34
  . rw [if_pos hq] at h
    obtain⟨body,rfl,rfl,e3,e4,e5⟩:=text_parts _ _ _ (Nat.le_refl _) h
    rw [List.nil_append] at e3
    subst e3
    have hw:word 3 s 0=34::quoted s++[34]:=rfl
    rw [hw]
    refine⟨by simp,by rw [hq,e4];simp,fun x _=>?_,by omega,by omega⟩
    rw [List.append_assoc]
    show tok (34::(quoted s++34::x))=_
    unfold tok
    simp only
    rw [if_neg (by decide),if_neg (by decide),if_pos trivial]
    exact e5 x
  rw [if_neg hq] at h
  obtain⟨rfl,rfl,e,h1⟩:=sign_parts h
  have hw:word 4 s 0=s:=rfl
  rw [hw]
  have hs:s≠[]:=by
   rcases h1 with h1|⟨c,rfl,_⟩
   . have:=long_len h1;rintro rfl;simp at this
   . simp
  obtain⟨a,s',rfl⟩:∃ a s',s=a::s':=by cases s with|nil=>exact absurd rfl hs|cons a s'=>exact⟨a,s',rfl⟩
  have ha:a=c:=by simp at e;exact e.1.symm
  subst ha
  refine⟨hs,e,fun x hx=>?_,by omega,by omega⟩
  rw [List.cons_append]
  unfold tok
  simp only
  rw [if_neg hl,if_neg hd,if_neg hq,<- List.cons_append]
  exact AG (t:=t) (by rw [<- e];exact h1) hx
end Go.Lx
namespace Go.Lx
inductive Good (n:Nat):List UInt8->List Tok->Prop
 |fin:Good n [] [⟨5,n,[],0⟩]
 |cons {r s t:List UInt8} {k v:Nat} {l:List Tok}:tok r=.ok k s v t->Good n (skip false t) l->Good n r (⟨k,n-r.length,s,v⟩::l)
inductive Bad (n:Nat):List UInt8->Nat->Nat->Prop
 |here {r:List UInt8} {e:Nat}:r≠[]->tok r=.bad e->Bad n r (n-r.length) e
 |later {r s t:List UInt8} {k v p e:Nat}:tok r=.ok k s v t->Bad n (skip false t) p e->Bad n r p e
theorem tok_len {r s t:List UInt8}{k v:Nat}(h:tok r=.ok k s v t):t.length<r.length:=by
 obtain⟨h1,h2,_⟩:=tok_parts h
 have:0<(word k s v).length:=List.length_pos_iff.2 h1
 rw [h2,List.length_append];omega
theorem Good.unique {n:Nat}{r:List UInt8}{l l':List Tok}(h:Good n r l)(h':Good n r l'):l=l':=by
 induction h generalizing l' with
 |fin=>cases h' with|fin=>rfl|cons h _=>cases h
 |cons ht _ ih =>
  cases h' with
  |fin=>cases ht
  |cons ht' hg'=>rw [ht] at ht';cases ht';rw [ih hg']
theorem Good.notBad {n p e:Nat}{r:List UInt8}{l:List Tok}(h:Good n r l)(h':Bad n r p e):False:=by
 induction h with
 |fin=>cases h' with|here h _=>exact h rfl|later h _=>cases h
 |cons ht _ ih =>
  cases h' with
  |here _ hb=>rw [ht] at hb;cases hb
  |later ht' hb=>rw [ht] at ht';cases ht';exact ih hb
theorem Bad.unique {n p e p' e':Nat}{r:List UInt8}(h:Bad n r p e)(h':Bad n r p' e'):p=p'/\e=e':=by
 induction h with
 |here _ hb=>cases h' with|here _ hb'=>rw [hb] at hb';cases hb';exact⟨rfl,rfl⟩|later ht _=>rw [hb] at ht;cases ht
 |later ht _ ih=>cases h' with|here _ hb'=>rw [ht] at hb';cases hb'|later ht' hb=>rw [ht] at ht';cases ht';exact ih hb
theorem Good.last {n:Nat}{r:List UInt8}{l:List Tok}(h:Good n r l):∃ l0,l=l0++[⟨5,n,[],0⟩]/\(∀ x∈l0,1<=x.kind/\x.kind<=4):=by
 induction h with
 |fin=>exact⟨[],rfl,by simp⟩
 |cons ht _ ih =>
  obtain⟨l0,rfl,h2⟩:=ih
  obtain⟨_,_,_,hk1,hk2⟩:=tok_parts ht
  exact⟨_::l0,rfl,fun x hx=>by
   rcases List.mem_cons.1 hx with rfl|h
   . exact⟨hk1,hk2⟩
   . exact h2 x h⟩
def Tok.core (x:Tok):Nat×List UInt8×Nat:=(x.kind,x.s,x.n)
theorem Good.re {n:Nat}{r:List UInt8}{l:List Tok}(h:Good n r l)(n':Nat):∃ l',Good n' r l'/\l'.map Tok.core=l.map Tok.core:=by
 induction h with
 |fin=>exact⟨_,.fin,rfl⟩
 |cons ht _ ih =>
  obtain⟨l',h1,h2⟩:=ih
  exact⟨_,.cons ht h1,by rw [List.map_cons,List.map_cons,h2];rfl⟩
def Tok.word (x:Tok):List UInt8:=Lx.word x.kind x.s x.n
def joinSp:List (List UInt8)->List UInt8
 | []=>[]
 | [w]=>w
 |w::v::r=>w++32::joinSp (v::r)
end Go.Lx
namespace Go.Q
open Go Go.RowKit
abbrev NA (x:UInt8):Value:=.int .u8 (x.toNat:Int)
end Go.Q


namespace Go.Proofs.YtgdalmleogphgaaGreatDoor
open Go.RowKit Go.Q Go.Lx
variable {w:World}
def cls (c:UInt8):Nat:=if isLetter c then 3 else if isDigit c then 2 else if isBlank c then 1 else 0
theorem Jj (c:UInt8):isLetter c=true↔((97<=(c.toNat:Int)/\(c.toNat:Int)<=122)∨(65<=(c.toNat:Int)/\(c.toNat:Int)<=90)∨(c.toNat:Int)=95):=by
 have e:c=95↔c.toNat=95:=by rw [<- UInt8.toNat_inj];rfl
 simp only [isLetter,Bool.or_eq_true,Bool.and_eq_true,decide_eq_true_eq,UInt8.le_iff_toNat_le,beq_iff_eq,e]
 have a1:(97:UInt8).toNat=97:=rfl
 have a2:(122:UInt8).toNat=122:=rfl
 have a3:(65:UInt8).toNat=65:=rfl
 have a4:(90:UInt8).toNat=90:=rfl
 rw [a1,a2,a3,a4];omega
theorem GQ (c:UInt8):isDigit c=true↔(48<=(c.toNat:Int)/\(c.toNat:Int)<=57):=by
 simp only [isDigit,Bool.and_eq_true,decide_eq_true_eq,UInt8.le_iff_toNat_le]
 have a1:(48:UInt8).toNat=48:=rfl
 have a2:(57:UInt8).toNat=57:=rfl
 rw [a1,a2];omega
theorem eq_iff (c d:UInt8):c=d↔(c.toNat:Int)=(d.toNat:Int):=by rw [<- UInt8.toNat_inj];omega
theorem Sl (c:UInt8):isBlank c=true↔((c.toNat:Int)=32∨(c.toNat:Int)=9∨(c.toNat:Int)=10∨(c.toNat:Int)=13):=by
 simp only [isBlank,Bool.or_eq_true,beq_iff_eq,eq_iff]
 have a1:((32:UInt8).toNat:Int)=32:=rfl
 have a2:((9:UInt8).toNat:Int)=9:=rfl
 have a3:((10:UInt8).toNat:Int)=10:=rfl
 have a4:((13:UInt8).toNat:Int)=13:=rfl
 rw [a1,a2,a3,a4];omega
theorem WU (c:UInt8):Calls Tryz.prog 80 #[.int .u8 (c.toNat:Int)] w fun e w'=>e=.returned (.bool (isDigit c))/\w'=w:=by
 go_enter Tryz.func80,Tryz.ntmps80
 go_wp2
 all_goals
  go_ret
  refine⟨OO ?_,rfl⟩
  rw [Bool.eq_iff_iff]
  simp only [GQ,decide_eq_true_eq,reduceCtorEq,false_iff]
  omega
theorem W4 (c:UInt8):Calls Tryz.prog 78 #[.int .u8 (c.toNat:Int)] w fun e w'=>e=.returned (.bool (isLetter c))/\w'=w:=by
 go_enter Tryz.func78,Tryz.ntmps78
 go_wp2
 all_goals
  go_ret
  refine⟨OO ?_,rfl⟩
  rw [Bool.eq_iff_iff]
  simp only [Jj,Bool.or_eq_true,decide_eq_true_eq,beq_iff_eq,true_iff]
  omega
theorem UX (c:UInt8):(cls c:Int)=if ((97<=(c.toNat:Int)/\(c.toNat:Int)<=122)∨(65<=(c.toNat:Int)/\(c.toNat:Int)<=90)∨(c.toNat:Int)=95) then 3 else if (48<=(c.toNat:Int)/\(c.toNat:Int)<=57) then 2 else if ((c.toNat:Int)=32∨(c.toNat:Int)=9∨(c.toNat:Int)=10∨(c.toNat:Int)=13) then 1 else 0:=by
 unfold cls
 simp only [Jj,GQ,Sl]
 repeat' split
 all_goals rfl
theorem Tp (c:UInt8):Calls Tryz.prog 96 #[.int .u8 (c.toNat:Int)] w fun e w'=>e=.returned (.int .i64 (cls c:Int))/\w'=w:=by
 have Hp:=Lib.hid (UX c)
 go_enter Tryz.func96,Tryz.ntmps96
 go_wp2
 all_goals
  go_ret
  refine⟨U5 ?_,rfl⟩
  rw [Hp.out]
  clear Hp
  simp only [beq_iff_eq,beq_eq_false_iff_ne] at *
  repeat' split
  all_goals first|rfl|(exfalso;omega)
end Go.Proofs.YtgdalmleogphgaaGreatDoor
namespace Go.Proofs.YtgdalmleogphgaaGreatDoor
open Go.RowKit Go.Q Go.Lx
variable {w:World}
abbrev bl (s:ByteArray):List UInt8:=s.data.toList
theorem CL (s:ByteArray):(bl s).length=s.size:=(Lib.size_eq s).symm
theorem DK (s:ByteArray)(i:Nat)(h:i<s.size):(bl s).drop i=s[i]::(bl s).drop (i+1):=by
 rw [List.drop_eq_getElem_cons (by rw [CL];exact h)];rfl
theorem Kt (s:ByteArray):(bl s).drop s.size=[]:=by rw [<- CL];exact List.drop_length
theorem Mo (s:ByteArray)(a b:Nat):bl (s.extract a b)=((bl s).drop a).take (b-a):=Lib.extract_data s a b
theorem Kd {c:UInt8}{r:List UInt8}(h:isBlank c=true):skip false (c::r)=skip false r:=by rw [Hy,if_pos h]
theorem Kc {c:UInt8}{r:List UInt8}(h:c=35):skip false (c::r)=skip true r:=by subst h;rfl
theorem L7 {c:UInt8}{r:List UInt8}(h:¬ c=10):skip true (c::r)=skip true r:=by rw [HO,if_neg h]
end Go.Proofs.YtgdalmleogphgaaGreatDoor
namespace Go.Proofs.YtgdalmleogphgaaGreatDoor
open Go.RowKit Go.Q Go.Lx
variable {w:World} {S:W8} {A:Option Addr} {cap:Nat}
def Gw (p:UInt8->Bool)(s:ByteArray)(a b:Nat):Prop:=∀ c∈((bl s).drop a).take (b-a),p c=true
theorem Gw.nil (p:UInt8->Bool)(s:ByteArray)(a:Nat):Gw p s a a:=by intro c hc;rw [Nat.sub_self] at hc;simp at hc
theorem Gw.succ {p:UInt8->Bool}{s:ByteArray}{a b:Nat}(h:Gw p s a b)(hab:a<=b)(hb:b<s.size)(hp:p s[b]=true):Gw p s a (b+1):=by
 intro c hc
 have e:b+1-a=(b-a)+1:=by omega
 rw [e,List.take_add_one,List.getElem?_drop,show a+(b-a)=b by omega] at hc
 rcases List.mem_append.1 hc with hc|hc
 . exact h c hc
 . rw [List.getElem?_eq_getElem (by rw [CL];exact hb)] at hc
   simp only [Option.toList_some,List.mem_singleton] at hc
   rw [hc];exact hp
theorem Gw.while {p:UInt8->Bool}{s:ByteArray}{a b:Nat}(h:Gw p s a b)(hab:a<=b)(hb:headIs p ((bl s).drop b)=false) :
 ((bl s).drop a).takeWhile p=((bl s).drop a).take (b-a)/\((bl s).drop a).dropWhile p=(bl s).drop b:=by
 have e:(bl s).drop a=((bl s).drop a).take (b-a)++(bl s).drop b:=by
  have:=(List.take_append_drop (b-a) ((bl s).drop a)).symm
  rw [List.drop_drop,show a+(b-a)=b by omega] at this
  exact this
 have:=Ed p _ _ h hb
 rw [<- e] at this
 exact this
theorem QV {p:UInt8->Bool}(s:ByteArray)(b:Nat)(hb:b<=s.size)(h:∀ hlt:b<s.size,p s[b]=false):headIs p ((bl s).drop b)=false:=by
 by_cases hlt:b<s.size
 . rw [DK s b hlt];exact h hlt
 . obtain rfl:b=s.size:=by omega
   rw [Kt];rfl
theorem J1 (s:ByteArray)(a b:Nat)(hab:a<=b)(hb:b<=s.size):(((bl s).drop a).take (b-a)).length=b-a:=by
 rw [List.length_take,List.length_drop,CL];omega
end Go.Proofs.YtgdalmleogphgaaGreatDoor
namespace Go.Proofs.YtgdalmleogphgaaGreatDoor
open Go.RowKit Go.Q Go.Lx
variable {w:World} {S:W8} {A:Option Addr} {cap:Nat}
theorem I5:∀ (n:Nat) (d:List UInt8),d.length=n->(∀ c∈d,isDigit c=true)->numVal d<10 ^ n
 |0,d,hl,_=>by obtain rfl:=List.eq_nil_of_length_eq_zero hl;exact Nat.one_pos
 |n+1,d,hl,hd=>by
  have hne:d≠[]:=by rintro rfl;simp at hl
  obtain⟨d',c,rfl⟩:∃ d' c,d=d'++[c]:=⟨d.dropLast,d.getLast hne,(List.dropLast_concat_getLast hne).symm⟩
  have hb:=digit_bounds (hd c (by simp))
  have ih:=I5 n d' (by simpa using hl) (fun x hx=>hd x (by simp [hx]))
  rw [numVal_snoc,Nat.pow_succ];omega
theorem LK {s:ByteArray}{p j:Nat}(hw:((bl s).drop p).takeWhile isDigit=((bl s).drop p).take (j-p)/\((bl s).drop p).dropWhile isDigit=(bl s).drop j)(hlen:(((bl s).drop p).take (j-p)).length=j-p)
 (h:15<j-p∨(1<j-p/\headIs (· == 48) ((bl s).drop p)=true)∨headIs isLetter ((bl s).drop j)=true):number ((bl s).drop p)=.bad 27:=by
 unfold number
 simp only
 rw [hw.1,hw.2,hlen,if_pos]
 simp only [Bool.or_eq_true,Bool.and_eq_true,decide_eq_true_eq]
 rcases h with h|h|h
 . exact .inl (.inl h)
 . exact .inl (.inr h)
 . exact .inr h
theorem Pf {s:ByteArray}{p j:Nat}(hpj:p<=j)(hj:j<=s.size)(h15:j-p<=15)(hd:Gw isDigit s p j)(hn:headIs isDigit ((bl s).drop j)=false)(hl:headIs isLetter ((bl s).drop j)=false)(hz:1<j-p->headIs (· == 48) ((bl s).drop p)=false) :
 number ((bl s).drop p)=.ok 2 [] (numVal (((bl s).drop p).take (j-p))) ((bl s).drop j):=by
 have hw:=hd.while hpj hn
 unfold number
 simp only
 rw [hw.1,hw.2,J1 s p j hpj hj,if_neg]
 simp only [Bool.or_eq_true,Bool.and_eq_true,decide_eq_true_eq,not_or,not_and]
 exact⟨⟨by omega,fun h=>by simpa using hz h⟩,by simpa using hl⟩
end Go.Proofs.YtgdalmleogphgaaGreatDoor
namespace Go.Lx
open Go
theorem FW {c:UInt8}:isDigit c=true↔(48<=c.toNat/\c.toNat<=57):=by
 simp only [isDigit,Bool.and_eq_true,decide_eq_true_eq,UInt8.le_iff_toNat_le]
 exact Iff.rfl
theorem J8:∀ (l:List UInt8) (acc u:Nat),Lib.parseUint10 acc l=.ok u->∀ c∈l,isDigit c=true
 | [],_,_,_,c,h=>by cases h
 |d::r,acc,u,h,c,hc=>by
  unfold Lib.parseUint10 at h
  by_cases hd:48<=d.toNat/\d.toNat<=57
  . rw [if_pos hd] at h
    split at h
    . cases h
    . split at h
      . cases h
      . rcases List.mem_cons.1 hc with rfl|hc
        . exact FW.2 hd
        . exact J8 r _ u h c hc
  . rw [if_neg hd] at h;cases h
theorem OW:∀ (d:List UInt8) (acc:Nat),(∀ c∈d,isDigit c=true)->(acc+1)*10 ^ d.length<=10 ^ 18->Lib.parseUint10 acc d=.ok (d.foldl (fun n c=>10*n+(c.toNat-48)) acc)
 | [],_,_,_=>rfl
 |c::r,acc,hd,hb=>by
  have hc:=FW.1 (hd c (by simp))
  have hp:1<=10 ^ r.length:=Nat.pow_pos (by decide:0<10)
  have e:(acc+1)*10 ^ (c::r).length=((acc+1)*10)*10 ^ r.length:=by rw [List.length_cons,Nat.pow_succ,Nat.mul_assoc,Nat.mul_comm (10 ^ r.length) 10]
  rw [e] at hb
  have h10:(acc+1)*10<=10 ^ 18:=Nat.le_trans (Nat.le_mul_of_pos_right _ hp) hb
  have h18:(10:Nat) ^ 18=1000000000000000000:=by decide
  rw [h18] at h10
  unfold Lib.parseUint10
  rw [if_pos hc,if_neg (by omega),if_neg (by omega)]
  have:=OW r (acc*10+(c.toNat-48)) (fun x hx=>hd x (by simp [hx])) (Nat.le_trans (Nat.mul_le_mul_right _ (by omega)) hb)
  rw [this,List.foldl_cons,Nat.mul_comm acc 10]
theorem Rl {c:UInt8}{r:List UInt8}(hd:∀ x∈c::r,isDigit x=true)(hl:(c::r).length<=15):Lib.atoiAll (c::r)=.ok (numVal (c::r):Int):=by
 have hc:=FW.1 (hd c (by simp))
 have hp:=OW (c::r) 0 hd (by
  have:10 ^ (c::r).length<=10 ^ 15:=Nat.pow_le_pow_right (by omega) hl
  have h18:(10:Nat) ^ 18=1000*10 ^ 15:=by decide
  omega)
 have hlt:numVal (c::r)<10 ^ 18:=by
  have key:∀ (d:List UInt8) (a:Nat),(∀ x∈d,isDigit x=true)->d.foldl (fun n c=>10*n+(c.toNat-48)) a<(a+1)*10 ^ d.length:=by
   intro d
   induction d with
   |nil=>intro a _;simp
   |cons x d ih =>
    intro a hx
    have h1:=FW.1 (hx x (by simp))
    have h2:=ih (10*a+(x.toNat-48)) (fun y hy=>hx y (by simp [hy]))
    rw [List.foldl_cons,List.length_cons,Nat.pow_succ]
    have h3:(10*a+(x.toNat-48)+1)*10 ^ d.length<=((a+1)*10)*10 ^ d.length:=Nat.mul_le_mul_right _ (by omega)
    have h4:((a+1)*10)*10 ^ d.length=(a+1)*(10 ^ d.length*10):=by rw [Nat.mul_assoc,Nat.mul_comm 10]
    omega
  have h1:=key (c::r) 0 hd
  have h2:10 ^ (c::r).length<=10 ^ 18:=Nat.pow_le_pow_right (by omega) (by omega)
  unfold numVal;omega
 have h18:(10:Nat) ^ 18=1000000000000000000:=by decide
 rw [h18] at hlt
 unfold Lib.atoiAll
 simp only
 rw [if_neg (by omega)]
 unfold Lib.parseMag
 rw [if_neg (by simp),hp]
 simp only
 have e:List.foldl (fun n c=>10*n+(c.toNat-48)) 0 (c::r)=numVal (c::r):=rfl
 rw [e,if_neg (by omega),if_neg (by omega),if_neg (by omega)]
theorem P2 {c:UInt8}{r:List UInt8}{v:Int}(hc:isDigit c=true)(h:Lib.atoiAll (c::r)=.ok v):∀ x∈c::r,isDigit x=true:=by
 have hb:=FW.1 hc
 unfold Lib.atoiAll at h
 simp only at h
 rw [if_neg (by omega)] at h
 cases hm:Lib.parseMag (c::r) with
 | «syntax»=>rw [hm] at h;cases h
 |range=>rw [hm] at h;cases h
 |ok u =>
  unfold Lib.parseMag at hm
  rw [if_neg (by simp)] at hm
  exact J8 _ _ _ hm
end Go.Lx
namespace Go.Proofs
open Go.Shelf
def Tryz.lays137_ren:Go.Shelf.Ren:=⟨fun|137=>95|217=>111|266=>130|n=>n,fun|9=>9|5=>5|3=>3|n=>n,fun|n=>n⟩
theorem Tryz.lays137:Go.Proofs.Lays.n137 Tryz.prog Tryz.lays137_ren:={
 mixed:=by kernel_rfl
 f137:=Tryz.func95.trans (congrArg some (by kernel_rfl))
 f217:=Tryz.func111.trans (congrArg some (by kernel_rfl))
 f266:=Tryz.func130.trans (congrArg some (by kernel_rfl))
 t3:=Tryz.underlying3
 a3:=Tryz.isAgg3
 z3:=Tryz.sizeOf3
 v3:=Tryz.zeroValue3
 t5:=Tryz.underlying5
 a5:=Tryz.isAgg5
 z5:=Tryz.sizeOf5
 v5:=Tryz.zeroValue5
 t9:=Tryz.underlying9
 a9:=Tryz.isAgg9
 z9:=Tryz.sizeOf9
 v9:=Tryz.zeroValue9 }
open Go.RowKit in
theorem Tryz.strings_IndexByte (s:ByteArray)(c:Int)(w:World) :
 Calls Tryz.prog 95 #[.string s,.int .u8 c] w fun e w'=>e=.returned (.int .i64 (Lib.indexByte s.data.toList c.toNat.toUInt8))/\w'=w:=Any.strings_IndexByte Tryz.lays137 s c w
def Tryz.laysC172_ren:Go.Shelf.Ren:=⟨fun|172=>113|244=>131|245=>132|247=>148|279=>149|280=>150|281=>151|282=>152|287=>166|316=>167|171=>64|205=>168|321=>181|322=>182|243=>88|246=>105|283=>118|284=>119|285=>120|286=>121|129=>138|317=>137|318=>139|319=>140|320=>141|337=>155|338=>156|n=>n,fun|9=>9|3=>3|75=>161|76=>162|4=>4|5=>5|167=>229|37=>157|0=>0|85=>230|2=>2|168=>232|53=>182|175=>250|46=>213|210=>253|127=>178|145=>272|143=>270|21=>21|171=>181|173=>185|212=>210|51=>142|20=>20|213=>211|232=>266|233=>267|80=>164|n=>n,fun|15=>4|16=>5|17=>1|18=>6|19=>7|n=>n⟩
theorem Tryz.laysC172:Go.Proofs.LaysC.n172 Tryz.prog Tryz.laysC172_ren:={
 mixed:=by kernel_rfl
 f129:=Tryz.func138.trans (congrArg some (by kernel_rfl))
 f171:=Tryz.func64.trans (congrArg some (by kernel_rfl))
 f172:=Tryz.func113.trans (congrArg some (by kernel_rfl))
 f205:=Tryz.func168.trans (congrArg some (by kernel_rfl))
 f243:=Tryz.func88.trans (congrArg some (by kernel_rfl))
 f244:=Tryz.func131.trans (congrArg some (by kernel_rfl))
 f245:=Tryz.func132.trans (congrArg some (by kernel_rfl))
 f246:=Tryz.func105.trans (congrArg some (by kernel_rfl))
 f247:=Tryz.func148.trans (congrArg some (by kernel_rfl))
 f279:=Tryz.func149.trans (congrArg some (by kernel_rfl))
 f280:=Tryz.func150.trans (congrArg some (by kernel_rfl))
 f281:=Tryz.func151.trans (congrArg some (by kernel_rfl))
 f282:=Tryz.func152.trans (congrArg some (by kernel_rfl))
 f283:=Tryz.func118.trans (congrArg some (by kernel_rfl))
 f284:=Tryz.func119.trans (congrArg some (by kernel_rfl))
 f285:=Tryz.func120.trans (congrArg some (by kernel_rfl))
 f286:=Tryz.func121.trans (congrArg some (by kernel_rfl))
 f287:=Tryz.func166.trans (congrArg some (by kernel_rfl))
 f316:=Tryz.func167.trans (congrArg some (by kernel_rfl))
 f317:=Tryz.func137.trans (congrArg some (by kernel_rfl))
 f318:=Tryz.func139.trans (congrArg some (by kernel_rfl))
 f319:=Tryz.func140.trans (congrArg some (by kernel_rfl))
 f320:=Tryz.func141.trans (congrArg some (by kernel_rfl))
 f321:=Tryz.func181.trans (congrArg some (by kernel_rfl))
 f322:=Tryz.func182.trans (congrArg some (by kernel_rfl))
 f337:=Tryz.func155.trans (congrArg some (by kernel_rfl))
 f338:=Tryz.func156.trans (congrArg some (by kernel_rfl))
 t0:=Tryz.underlying0
 a0:=Tryz.isAgg0
 z0:=Tryz.sizeOf0
 v0:=Tryz.zeroValue0
 t2:=Tryz.underlying2
 a2:=Tryz.isAgg2
 z2:=Tryz.sizeOf2
 v2:=Tryz.zeroValue2
 t3:=Tryz.underlying3
 a3:=Tryz.isAgg3
 z3:=Tryz.sizeOf3
 v3:=Tryz.zeroValue3
 t4:=Tryz.underlying4
 a4:=Tryz.isAgg4
 z4:=Tryz.sizeOf4
 v4:=Tryz.zeroValue4
 t5:=Tryz.underlying5
 a5:=Tryz.isAgg5
 z5:=Tryz.sizeOf5
 v5:=Tryz.zeroValue5
 t9:=Tryz.underlying9
 a9:=Tryz.isAgg9
 z9:=Tryz.sizeOf9
 v9:=Tryz.zeroValue9
 t20:=Tryz.underlying20
 a20:=Tryz.isAgg20
 z20:=Tryz.sizeOf20
 v20:=Tryz.zeroValue20
 t21:=Tryz.underlying21
 a21:=Tryz.isAgg21
 z21:=Tryz.sizeOf21
 v21:=Tryz.zeroValue21
 t37:=Tryz.underlying157
 a37:=Tryz.isAgg157
 z37:=Tryz.sizeOf157
 v37:=Tryz.zeroValue157
 t46:=Tryz.underlying213
 a46:=Tryz.isAgg213
 z46:=Tryz.sizeOf213
 v46:=Tryz.zeroValue213
 t51:=Tryz.underlying142
 a51:=Tryz.isAgg142
 z51:=Tryz.sizeOf142
 v51:=Tryz.zeroValue142
 t53:=Tryz.underlying182
 a53:=Tryz.isAgg182
 z53:=Tryz.sizeOf182
 v53:=Tryz.zeroValue182
 t75:=Tryz.underlying161
 a75:=Tryz.isAgg161
 z75:=Tryz.sizeOf161
 v75:=Tryz.zeroValue161
 t76:=Tryz.underlying162
 a76:=Tryz.isAgg162
 z76:=Tryz.sizeOf162
 v76:=Tryz.zeroValue162
 t85:=Tryz.underlying230
 a85:=Tryz.isAgg230
 z85:=Tryz.sizeOf230
 v85:=Tryz.zeroValue230
 t127:=Tryz.underlying178
 a127:=Tryz.isAgg178
 z127:=Tryz.sizeOf178
 v127:=Tryz.zeroValue178
 t143:=Tryz.underlying270
 a143:=Tryz.isAgg270
 z143:=Tryz.sizeOf270
 v143:=Tryz.zeroValue270
 t145:=Tryz.underlying272
 a145:=Tryz.isAgg272
 z145:=Tryz.sizeOf272
 v145:=Tryz.zeroValue272
 t167:=Tryz.underlying229
 a167:=Tryz.isAgg229
 z167:=Tryz.sizeOf229
 v167:=Tryz.zeroValue229
 t168:=Tryz.underlying232
 a168:=Tryz.isAgg232
 z168:=Tryz.sizeOf232
 v168:=Tryz.zeroValue232
 t171:=Tryz.underlying181
 a171:=Tryz.isAgg181
 z171:=Tryz.sizeOf181
 v171:=Tryz.zeroValue181
 t173:=Tryz.underlying185
 a173:=Tryz.isAgg185
 z173:=Tryz.sizeOf185
 v173:=Tryz.zeroValue185
 t175:=Tryz.underlying250
 a175:=Tryz.isAgg250
 z175:=Tryz.sizeOf250
 v175:=Tryz.zeroValue250
 t210:=Tryz.underlying253
 a210:=Tryz.isAgg253
 z210:=Tryz.sizeOf253
 v210:=Tryz.zeroValue253
 t212:=Tryz.underlying210
 a212:=Tryz.isAgg210
 z212:=Tryz.sizeOf210
 v212:=Tryz.zeroValue210
 t213:=Tryz.underlying211
 a213:=Tryz.isAgg211
 z213:=Tryz.sizeOf211
 t232:=Tryz.underlying266
 a232:=Tryz.isAgg266
 z232:=Tryz.sizeOf266
 v232:=Tryz.zeroValue266
 t233:=Tryz.underlying267
 a233:=Tryz.isAgg267
 z233:=Tryz.sizeOf267
 v233:=Tryz.zeroValue267
 g15:=by kernel_rfl
 g16:=by kernel_rfl
 g17:=by kernel_rfl
 g18:=by kernel_rfl
 g19:=by kernel_rfl
 t80:=Tryz.underlying164
 a80:=Tryz.isAgg164
 z80:=Tryz.sizeOf164
 v80:=Tryz.zeroValue164
 i0:=by kernel_rfl
 i2:=by kernel_rfl
 i3:=by kernel_rfl
 i4:=by kernel_rfl
 i5:=by kernel_rfl
 i9:=by kernel_rfl
 i20:=by kernel_rfl
 i21:=by kernel_rfl
 i37:=by kernel_rfl
 i46:=by kernel_rfl
 i51:=by kernel_rfl
 i53:=by kernel_rfl
 i75:=by kernel_rfl
 i76:=by kernel_rfl
 i80:=by kernel_rfl
 i85:=by kernel_rfl
 i127:=by kernel_rfl
 i143:=by kernel_rfl
 i145:=by kernel_rfl
 i167:=by kernel_rfl
 i168:=by kernel_rfl
 i171:=by kernel_rfl
 i173:=by kernel_rfl
 i175:=by kernel_rfl
 i210:=by kernel_rfl
 i212:=by kernel_rfl
 i232:=by kernel_rfl
 i233:=by kernel_rfl
 m15:=by kernel_rfl
 m16:=by kernel_rfl
 m17:=by kernel_rfl
 m18:=by kernel_rfl
 m19:=by kernel_rfl
 c0:=by kernel_rfl
 c2:=by kernel_rfl
 c3:=by kernel_rfl
 c4:=by kernel_rfl
 c5:=by kernel_rfl
 c9:=by kernel_rfl
 c20:=by kernel_rfl
 c21:=by kernel_rfl
 c37:=by kernel_rfl
 c46:=by kernel_rfl
 c51:=by kernel_rfl
 c53:=by kernel_rfl
 c75:=by kernel_rfl
 c76:=by kernel_rfl
 c80:=by kernel_rfl
 c85:=by kernel_rfl
 c127:=by kernel_rfl
 c143:=by kernel_rfl
 c145:=by kernel_rfl
 c167:=by kernel_rfl
 c168:=by kernel_rfl
 c171:=by kernel_rfl
 c173:=by kernel_rfl
 c175:=by kernel_rfl
 c210:=by kernel_rfl
 c212:=by kernel_rfl
 c213:=by kernel_rfl
 c232:=by kernel_rfl
 c233:=by kernel_rfl }
open Go.RowKit in
theorem Tryz.strconv_Atoi_ok (s:ByteArray)(hmax:s.size<=9223372036854775806)(v:Int)(h:Lib.atoiAll s.data.toList=.ok v)(w:World) :
 Calls Tryz.prog 113 #[.string s] w fun e w'=>e=.returned (.tuple #[.int .i64 v,.nilIface])/\(w'=w∨∃ t,w'=Lib.bytesWorld w 5 t):=Any.strconv_Atoi_ok Tryz.laysC172 s hmax v h w
open Go.RowKit in
theorem Tryz.strconv_Atoi_syntax (s:ByteArray)(hlim:s.size<=281474976710656)(h:Lib.atoiAll s.data.toList=.«syntax»)(ev:Value)(w:World)(hv:w.cell? ⟨4,0,none⟩=some ev)(hev:ev=.nilIface∨∃ te pe,ev=.iface te pe) :
 Calls Tryz.prog 113 #[.string s] w fun e w'=>∃ N,e=.returned (.tuple #[.int .i64 (0),.iface 232 (.pointer (some ⟨N,0,none⟩))])/\w.heap.size<=N/\w'.heap[N]?=some (.cells #[.string ⟨#[65,116,111,105]⟩,.string s,ev] 253 (0,0))/\Below w.heap.size w w':=Any.strconv_Atoi_syntax Tryz.laysC172 s hlim h ev w hv hev
open Go.RowKit in
theorem Tryz.strconv_Atoi_range (s:ByteArray)(hlim:s.size<=281474976710656)(h:Lib.atoiAll s.data.toList=.range)(ev:Value)(w:World)(hv:w.cell? ⟨5,0,none⟩=some ev)(hev:ev=.nilIface∨∃ te pe,ev=.iface te pe) :
 Calls Tryz.prog 113 #[.string s] w fun e w'=>∃ N,e=.returned (.tuple #[.int .i64 (Lib.atoiSat s.data.toList),.iface 232 (.pointer (some ⟨N,0,none⟩))])/\w.heap.size<=N/\w'.heap[N]?=some (.cells #[.string ⟨#[65,116,111,105]⟩,.string s,ev] 253 (0,0))/\Below w.heap.size w w':=Any.strconv_Atoi_range Tryz.laysC172 s hlim h ev w hv hev
def Tryz.lays144_ren:Go.Shelf.Ren:=⟨fun|144=>116|143=>136|219=>154|217=>111|225=>171|224=>172|267=>173|266=>130|314=>183|n=>n,fun|9=>9|4=>4|3=>3|5=>5|46=>213|146=>275|51=>142|n=>n,fun|1=>2|n=>n⟩
theorem Tryz.lays144:Go.Proofs.Lays.n144 Tryz.prog Tryz.lays144_ren:={
 mixed:=by kernel_rfl
 f143:=Tryz.func136.trans (congrArg some (by kernel_rfl))
 f144:=Tryz.func116.trans (congrArg some (by kernel_rfl))
 f217:=Tryz.func111.trans (congrArg some (by kernel_rfl))
 f219:=Tryz.func154.trans (congrArg some (by kernel_rfl))
 f224:=Tryz.func172.trans (congrArg some (by kernel_rfl))
 f225:=Tryz.func171.trans (congrArg some (by kernel_rfl))
 f266:=Tryz.func130.trans (congrArg some (by kernel_rfl))
 f267:=Tryz.func173.trans (congrArg some (by kernel_rfl))
 f314:=Tryz.func183.trans (congrArg some (by kernel_rfl))
 t3:=Tryz.underlying3
 a3:=Tryz.isAgg3
 z3:=Tryz.sizeOf3
 v3:=Tryz.zeroValue3
 t4:=Tryz.underlying4
 a4:=Tryz.isAgg4
 z4:=Tryz.sizeOf4
 v4:=Tryz.zeroValue4
 t5:=Tryz.underlying5
 a5:=Tryz.isAgg5
 z5:=Tryz.sizeOf5
 v5:=Tryz.zeroValue5
 t9:=Tryz.underlying9
 a9:=Tryz.isAgg9
 z9:=Tryz.sizeOf9
 v9:=Tryz.zeroValue9
 t46:=Tryz.underlying213
 a46:=Tryz.isAgg213
 z46:=Tryz.sizeOf213
 v46:=Tryz.zeroValue213
 t51:=Tryz.underlying142
 a51:=Tryz.isAgg142
 z51:=Tryz.sizeOf142
 v51:=Tryz.zeroValue142
 t146:=Tryz.underlying275
 a146:=Tryz.isAgg275
 z146:=Tryz.sizeOf275
 v146:=Tryz.zeroValue275
 g1:=by kernel_rfl }
open Go.RowKit Go.Lib in
theorem Tryz.strings_Contains_one (s:ByteArray)(c:UInt8)(w:World) :
 Calls Tryz.prog 116 #[.string s,.string ⟨#[c]⟩] w fun e w'=>e=.returned (.bool (decide (0<=Lib.indexByte s.data.toList c)))/\w'=w:=Any.strings_Contains_one Tryz.lays144 s c w
def Tryz.lays99_ren:Go.Shelf.Ren:=⟨fun|99=>115|206=>135|n=>n,fun|9=>9|4=>4|3=>3|n=>n,fun|n=>n⟩
theorem Tryz.lays99:Go.Proofs.Lays.n99 Tryz.prog Tryz.lays99_ren:={
 mixed:=by kernel_rfl
 f99:=Tryz.func115.trans (congrArg some (by kernel_rfl))
 f206:=Tryz.func135.trans (congrArg some (by kernel_rfl))
 t3:=Tryz.underlying3
 a3:=Tryz.isAgg3
 z3:=Tryz.sizeOf3
 v3:=Tryz.zeroValue3
 t4:=Tryz.underlying4
 a4:=Tryz.isAgg4
 z4:=Tryz.sizeOf4
 v4:=Tryz.zeroValue4
 t9:=Tryz.underlying9
 a9:=Tryz.isAgg9
 z9:=Tryz.sizeOf9
 v9:=Tryz.zeroValue9 }
open Go.RowKit Go.Lib in
theorem Tryz.strings_HasPrefix (s p:ByteArray)(w:World) :
 Calls Tryz.prog 115 #[.string s,.string p] w fun e w'=>e=.returned (.bool (Lib.hasPrefix s.data.toList p.data.toList))/\w'=w:=Any.strings_HasPrefix Tryz.lays99 s p w
def Tryz.lays157_ren:Go.Shelf.Ren:=⟨fun|157=>114|229=>133|199=>134|261=>153|311=>169|312=>170|n=>n,fun|9=>9|31=>42|3=>3|5=>5|4=>4|119=>195|0=>0|40=>207|152=>235|21=>21|154=>237|51=>142|141=>239|196=>258|193=>255|198=>261|49=>259|194=>256|201=>264|226=>273|46=>213|227=>274|n=>n,fun|0=>0|6=>3|n=>n⟩
theorem Tryz.lays157:Go.Proofs.Lays.n157 Tryz.prog Tryz.lays157_ren:={
 mixed:=by kernel_rfl
 f157:=Tryz.func114.trans (congrArg some (by kernel_rfl))
 f199:=Tryz.func134.trans (congrArg some (by kernel_rfl))
 f229:=Tryz.func133.trans (congrArg some (by kernel_rfl))
 f261:=Tryz.func153.trans (congrArg some (by kernel_rfl))
 f311:=Tryz.func169.trans (congrArg some (by kernel_rfl))
 f312:=Tryz.func170.trans (congrArg some (by kernel_rfl))
 t0:=Tryz.underlying0
 a0:=Tryz.isAgg0
 z0:=Tryz.sizeOf0
 v0:=Tryz.zeroValue0
 t3:=Tryz.underlying3
 a3:=Tryz.isAgg3
 z3:=Tryz.sizeOf3
 v3:=Tryz.zeroValue3
 t4:=Tryz.underlying4
 a4:=Tryz.isAgg4
 z4:=Tryz.sizeOf4
 v4:=Tryz.zeroValue4
 t5:=Tryz.underlying5
 a5:=Tryz.isAgg5
 z5:=Tryz.sizeOf5
 v5:=Tryz.zeroValue5
 t9:=Tryz.underlying9
 a9:=Tryz.isAgg9
 z9:=Tryz.sizeOf9
 v9:=Tryz.zeroValue9
 t21:=Tryz.underlying21
 a21:=Tryz.isAgg21
 z21:=Tryz.sizeOf21
 v21:=Tryz.zeroValue21
 t31:=Tryz.underlying42
 a31:=Tryz.isAgg42
 z31:=Tryz.sizeOf42
 v31:=Tryz.zeroValue42
 t40:=Tryz.underlying207
 a40:=Tryz.isAgg207
 z40:=Tryz.sizeOf207
 v40:=Tryz.zeroValue207
 t46:=Tryz.underlying213
 a46:=Tryz.isAgg213
 z46:=Tryz.sizeOf213
 v46:=Tryz.zeroValue213
 t49:=Tryz.underlying259
 a49:=Tryz.isAgg259
 z49:=Tryz.sizeOf259
 v49:=Tryz.zeroValue259
 t51:=Tryz.underlying142
 a51:=Tryz.isAgg142
 z51:=Tryz.sizeOf142
 v51:=Tryz.zeroValue142
 t119:=Tryz.underlying195
 a119:=Tryz.isAgg195
 z119:=Tryz.sizeOf195
 t141:=Tryz.underlying239
 a141:=Tryz.isAgg239
 z141:=Tryz.sizeOf239
 v141:=Tryz.zeroValue239
 t152:=Tryz.underlying235
 a152:=Tryz.isAgg235
 z152:=Tryz.sizeOf235
 v152:=Tryz.zeroValue235
 t154:=Tryz.underlying237
 a154:=Tryz.isAgg237
 z154:=Tryz.sizeOf237
 v154:=Tryz.zeroValue237
 t193:=Tryz.underlying255
 a193:=Tryz.isAgg255
 z193:=Tryz.sizeOf255
 v193:=Tryz.zeroValue255
 t194:=Tryz.underlying256
 a194:=Tryz.isAgg256
 z194:=Tryz.sizeOf256
 v194:=Tryz.zeroValue256
 t196:=Tryz.underlying258
 a196:=Tryz.isAgg258
 z196:=Tryz.sizeOf258
 v196:=Tryz.zeroValue258
 t198:=Tryz.underlying261
 a198:=Tryz.isAgg261
 z198:=Tryz.sizeOf261
 v198:=Tryz.zeroValue261
 t201:=Tryz.underlying264
 a201:=Tryz.isAgg264
 z201:=Tryz.sizeOf264
 v201:=Tryz.zeroValue264
 t226:=Tryz.underlying273
 a226:=Tryz.isAgg273
 z226:=Tryz.sizeOf273
 v226:=Tryz.zeroValue273
 t227:=Tryz.underlying274
 a227:=Tryz.isAgg274
 z227:=Tryz.sizeOf274
 v227:=Tryz.zeroValue274
 g0:=by kernel_rfl
 g6:=by kernel_rfl }
open Go.RowKit Go.Lib in
theorem Tryz.strings_Fields (s:ByteArray)(w:World)(hs:s.size<4294967281)(hascii:∀ (j:Nat) b,s.data.toList[j]?=some b->b.toNat<128)(htab:Lib.TabIs Tryz.prog w "strings.asciiSpace" .u8 Lib.asciiSpaceTab) :
 Calls Tryz.prog 114 #[.string s] w fun e w' =>
  e=.returned (.slice (some ⟨w.heap.size,0,none⟩) (Lib.fields s.data.toList).length (Lib.fields s.data.toList).length)/\w'=w.alloc (.cells ((Lib.fields s.data.toList).map fun l=>Value.string ⟨l.toArray⟩).toArray 9):=Any.strings_Fields Tryz.lays157 (by kernel_rfl) (by kernel_rfl) s w hs hascii htab
end Go.Proofs
namespace Go.Proofs.YtgdalmleogphgaaGreatDoor
open Go.RowKit Go.Q Go.Lx
theorem TX (c:UInt8):isWord c=decide ((2:Int)<=(cls c:Int)):=by
 unfold cls isWord
 cases h1:isLetter c<;>cases h2:isDigit c<;>simp
 split<;>decide
theorem getD_at (s:ByteArray)(j:Nat)(h:j<s.size):s[j]=s.data.toList.getD j 0:=by
 have h2:j<s.data.size:=h
 rw [List.getD_eq_getElem?_getD,List.getElem?_eq_getElem (by simpa using h2)]
 simp [ByteArray.getElem_eq_getElem_data]
theorem FD {x:Int}{n:Nat}(h:x=n)(hn:n<=4611686018427387904):IntKind.i64.wrap x=(n:Int):=by
 subst h;rw [IntKind.wrap_i64];omega
theorem Wm {r:List UInt8}:Lib.indexByte (35::r) 10≠0:=by
 have h:=Lib.indexByte_ge r 10
 show (if ((35:UInt8) == 10)=true then (0:Int) else _)≠0
 rw [if_neg (by decide)]
 split
 . decide
 . rename_i h2;simp only [beq_iff_eq] at h2;omega
theorem Pn:∀ (r:List UInt8),(Lib.indexByte r 10<0->skip true r=[])/\(∀ k:Nat,Lib.indexByte r 10=(k:Int)->k<=r.length/\skip true r=skip false (r.drop k))
 | []=>⟨fun _=>rfl,fun k h=>by have:(-1:Int)=k:=h;omega⟩
 |b::l=>by
  have ih:=Pn l
  have hge:=Lib.indexByte_ge l 10
  have e:Lib.indexByte (b::l) 10=if (b == 10)=true then 0 else if (Lib.indexByte l 10 == -1)=true then -1 else Lib.indexByte l 10+1:=rfl
  rw [e,HO]
  by_cases hb:b=10
  . rw [if_pos (by rw [hb];rfl),if_pos hb]
    refine⟨fun h=>absurd h (by decide),fun k h=>?_⟩
    obtain rfl:k=0:=by omega
    exact⟨by simp,by rw [hb];rfl⟩
  . rw [if_neg (by simpa using hb),if_neg hb]
    by_cases hn:Lib.indexByte l 10 = -1
    . rw [if_pos (by rw [hn];rfl)]
      exact⟨fun _=>ih.1 (by omega),fun k h=>by omega⟩
    . rw [if_neg (by simpa using hn)]
      refine⟨fun h=>by omega,fun k h=>?_⟩
      obtain⟨h1,h2⟩:=ih.2 (k-1) (by omega)
      have hk:k=(k-1)+1:=by omega
      refine⟨by simp;omega,?_⟩
      rw [hk,List.drop_succ_cons];exact h2
theorem Si (c:UInt8)(h:isBlank c=true):cls c=1:=by
 have h2:=blank_not_word (.inl h)
 unfold cls;rw [h2.2.2,h2.2.1,h];rfl
theorem MB (c:UInt8)(h:isBlank c=false):((cls c:Int) == 1)=false:=by
 unfold cls;rw [h];cases isLetter c<;>cases isDigit c<;>rfl
theorem Kr {c:UInt8}(h:isDigit c=true):isLetter c=false:=by
 cases hl:isLetter c with
 |false=>rfl
 |true=>rw [Jj] at hl;rw [GQ] at h;omega
theorem OJ {s:ByteArray}{p j:Nat}(hp:p<s.size)(hpj:p<=j)(hall:Gw isWord s p j)(hhd:headIs isWord ((bl s).drop j)=false)(hw:isWord s[p]=true):p<j:=by
 rcases Nat.lt_or_ge p j with h|h
 . exact h
 . obtain rfl:p=j:=by omega
   rw [DK s p hp] at hhd
   have:isWord s[p]=false:=hhd
   rw [hw] at this;cases this
theorem TJ {s x:ByteArray}{p n:Nat}(h:bl x=((bl s).drop p).take n)(hx:0<x.size)(hp:p<s.size):x[0]=s[p]:=by
 have h1:=DK x 0 hx
 rw [List.drop_zero,h,DK s p hp] at h1
 cases n with
 |zero=>simp at h1
 |succ n=>rw [List.take_succ_cons] at h1;exact (List.cons.inj h1).1.symm
theorem Pg (r:List UInt8):number r=.bad 27∨∃ v t,number r=.ok 2 [] v t:=by
 unfold number;simp only;split
 . exact .inl rfl
 . exact .inr ⟨_,_,rfl⟩
theorem LL {x:List UInt8}(h:headIs isWord x=false):headIs isDigit x=false/\headIs isLetter x=false:=by
 cases x with
 |nil=>exact⟨rfl,rfl⟩
 |cons c r =>
  have h2:isWord c=false:=h
  simp only [isWord,Bool.or_eq_false_iff] at h2
  exact⟨h2.2,h2.1⟩
theorem Pe {s:ByteArray}{p j:Nat}(hp:p<s.size)(hpj:p<=j)(hj:j<=s.size)(hall:Gw isWord s p j)(hhd:headIs isWord ((bl s).drop j)=false)(hd:isDigit s[p]=true) :
 ((∀ v,Lib.atoiAll (((bl s).drop p).take (j-p))≠.ok v)->number ((bl s).drop p)=.bad 27) /\
 (∀ v,Lib.atoiAll (((bl s).drop p).take (j-p))=.ok v->(15<j-p∨(1<j-p/\s[p]=48)->number ((bl s).drop p)=.bad 27) /\
  (¬ 15<j-p->¬ (1<j-p/\s[p]=48)->number ((bl s).drop p)=.ok 2 [] v.toNat ((bl s).drop j)/\v=(v.toNat:Int))):=by
 have hlt:=OJ hp hpj hall hhd (by simp [isWord,hd])
 obtain⟨hn1,hn2⟩:=LL hhd
 have hW:((bl s).drop p).take (j-p)=s[p]::((bl s).drop (p+1)).take (j-p-1):=by
  rw [DK s p hp,show j-p=(j-p-1)+1 by omega,List.take_succ_cons];simp
 refine⟨fun hno=>?_,fun v hv=>?_⟩
 . rcases Pg ((bl s).drop p) with h|⟨v,t,h⟩
   . exact h
   . exfalso
     obtain⟨d,_,_,hv,e,h1,h2,h3,h4,_⟩:=number_parts h
     have hw:=hall.while hpj hhd
     have ht:headIs isWord t=false:=by
      cases t with
      |nil=>rfl
      |cons c r=>show isWord c=false;simp only [isWord,Bool.or_eq_false_iff];exact⟨h3,h2⟩
     have hw2:=Ed isWord d t (fun c hc=>by simp [isWord,h1 c hc]) ht
     rw [<- e] at hw2
     have hdW:d=((bl s).drop p).take (j-p):=by rw [<- hw.1,hw2.1]
     rw [hdW] at h1 h4
     rw [hW] at h1 h4
     exact hno _ (by rw [hW];exact Rl h1 h4)
 . have hdig:=by rw [hW] at hv;exact P2 hd hv
   have hdig2:Gw isDigit s p j:=by intro c hc;rw [hW] at hc;exact hdig c hc
   have hw:=hdig2.while hpj hn1
   have hlen:=J1 s p j hpj hj
   refine⟨fun hbad=>?_,fun h15 hz=>?_⟩
   . rcases hbad with h|⟨h1,h2⟩
     . exact LK hw hlen (.inl h)
     . exact LK hw hlen (.inr (.inl ⟨h1,by rw [DK s p hp];exact beq_iff_eq.2 h2⟩))
   . have hok:Lib.atoiAll (((bl s).drop p).take (j-p))=.ok (numVal (((bl s).drop p).take (j-p)):Int):=by
      rw [hW]
      refine Rl hdig ?_
      rw [<- hW,hlen];omega
     rw [hok] at hv
     have hvv:(numVal (((bl s).drop p).take (j-p)):Int)=v:=by injection hv
     subst hvv
     exact⟨Pf hpj hj (by omega) hdig2 hn1 hn2 (fun h=>by rw [DK s p hp];exact beq_eq_false_iff_ne.2 fun e=>hz ⟨h,e⟩),rfl⟩
end Go.Proofs.YtgdalmleogphgaaGreatDoor
namespace Go.Proofs.YtgdalmleogphgaaGreatDoor
open Go.RowKit Go.Q Go.Lx
theorem M3:∀ (n:Nat) (r b:List UInt8),r.length<=n->∀ {e:Nat},text b r=.bad e->e=2∨e=28:=by
 intro n
 induction n with
 |zero =>
  intro r b hr e h
  obtain rfl:=List.eq_nil_of_length_eq_zero (Nat.le_zero.1 hr)
  unfold text at h;split at h<;>(cases h;simp)
 |succ n ih =>
  intro r b hr e h
  cases r with
  |nil=>unfold text at h;split at h<;>(cases h;simp)
  |cons c r =>
   unfold text at h
   split at h
   . cases h;simp
   . split at h
     . cases h
     . split at h
       . cases r with
         |nil=>cases h;simp
         |cons d r' =>
          simp only at h
          split at h
          . cases h;simp
          . exact ih r' _ (by simp at hr;omega) h
       . split at h
         . cases h;simp
         . exact ih r _ (by simp at hr;omega) h
theorem ND {r:List UInt8}{e:Nat}(h:Lx.tok r=.bad e):e≠0:=by
 unfold Lx.tok at h
 cases r with
 |nil=>cases h;decide
 |cons c r' =>
  simp only at h
  split at h
  . unfold name at h;split at h<;>cases h;decide
  . split at h
    . unfold number at h;simp only at h;split at h<;>cases h;decide
    . split at h
      . rcases M3 _ _ _ (Nat.le_refl _) h with rfl|rfl<;>decide
      . unfold sign at h
        split at h
        . cases h
        . simp only at h
          split at h<;>cases h;decide
theorem Sf {l u t:List UInt8}(h:l=u++t):l.drop (l.length-t.length)=t/\l.length-t.length<=l.length:=by
 subst h
 rw [List.length_append,show u.length+t.length-t.length=u.length by omega,List.drop_left]
 exact⟨rfl,by omega⟩
theorem QD (s:ByteArray)(i:Nat){u t:List UInt8}(h:(bl s).drop i=u++t):(bl s).drop (s.size-t.length)=t/\s.size-t.length<=s.size:=by
 have e:bl s=((bl s).take i++u)++t:=by rw [List.append_assoc,<- h,List.take_append_drop]
 have:=Sf e
 rw [CL] at this
 exact this
theorem QB (s:ByteArray)(i:Nat):(bl s).drop (s.size-(skip false ((bl s).drop i)).length)=skip false ((bl s).drop i)/\s.size-(skip false ((bl s).drop i)).length<=s.size:=by
 obtain⟨u,hu⟩:=EY false ((bl s).drop i)
 exact QD s i hu
def Mx (n:Nat)(r0:List UInt8)(l:List Tok)(r:List UInt8):Prop:=(∀ l',Lx.Good n r l'->Lx.Good n r0 (l++l'))/\∀ q e,Lx.Bad n r q e->Lx.Bad n r0 q e
theorem Mx.nil (n:Nat)(r0:List UInt8):Mx n r0 [] r0:=⟨fun _ h=>h,fun _ _ h=>h⟩
theorem Mx.cons {n:Nat}{r0 r s t:List UInt8}{l:List Tok}{k v:Nat}(h:Mx n r0 l r)(ht:Lx.tok r=.ok k s v t):Mx n r0 (l++[⟨k,n-r.length,s,v⟩]) (skip false t) :=
 ⟨fun l' hg=>by rw [List.append_assoc];exact h.1 _ (.cons ht hg),fun q e hb=>h.2 q e (.later ht hb)⟩
end Go.Proofs.YtgdalmleogphgaaGreatDoor
namespace Go.Lx
theorem Lt (n:Nat):∀ (f:Nat) (r:List UInt8),r.length<=f->(∀ l,toks n f r=.ok l->Good n r l)/\∀ p e,toks n f r=.error (p,e)->Bad n r p e
 |0,r,h=>by
  obtain rfl:=List.eq_nil_of_length_eq_zero (Nat.le_zero.1 h)
  refine⟨fun l hl=>?_,fun p e he=>?_⟩
  . unfold toks at hl;cases hl;exact .fin
  . unfold toks at he;cases he
 |f+1,r,h=>by
  cases r with
  |nil =>
   refine⟨fun l hl=>?_,fun p e he=>?_⟩
   . unfold toks at hl;cases hl;exact .fin
   . unfold toks at he;cases he
  |cons c r0 =>
   unfold toks
   simp only
   cases ht:tok (c::r0) with
   |bad e1 =>
    refine⟨fun l hl=>(by cases hl),fun p e he=>?_⟩
    cases he;exact .here (by simp) ht
   |ok k s v t =>
    have h1:=tok_len ht
    have h2:=skip_len false t
    have ih:=Lt n f (skip false t) (by omega)
    simp only
    cases hx:toks n f (skip false t) with
    |error x =>
     refine⟨fun l hl=>(by cases hl),fun p e he=>?_⟩
     obtain⟨p1,e1⟩:=x
     cases he;exact .later ht (ih.2 _ _ hx)
    |ok l1 =>
     refine⟨fun l hl=>?_,fun p e he=>(by cases he)⟩
     cases hl;exact .cons ht (ih.1 _ hx)
theorem tokens_good {l:List UInt8}{ts:List Tok}(h:tokens l=.ok ts):Good l.length (skip false l) ts:=(Lt _ _ _ (skip_len false l)).1 _ h
theorem tokens_bad {l:List UInt8}{p e:Nat}(h:tokens l=.error (p,e)):Bad l.length (skip false l) p e:=(Lt _ _ _ (skip_len false l)).2 _ _ h
end Go.Lx
namespace Go.Proofs.YtgdalmleogphgaaGreatDoor
open Go.RowKit Go.Q Go.Lx
end Go.Proofs.YtgdalmleogphgaaGreatDoor
