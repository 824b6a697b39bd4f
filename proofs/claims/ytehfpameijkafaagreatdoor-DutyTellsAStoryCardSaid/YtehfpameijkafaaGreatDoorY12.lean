/-
  Plain facts on blanks and single tokens. No program. Plain facts on sources: joined, cut, with blanks put in, printed and read again. No program. A matrix of bytes that a call made itself and writes into: its rows lie in blocks of their own. No program. More of lists in memory: appending any list, an empty one and nil too; regions whose end is named. No program. Tokens in memory, the reader's state, strings as lists of bytes. No program.
-/
import Derived.Laws.CopyOwn
import Derived.Lib.Strings
import Derived.Test.YtehfpameijkafaaGreatDoorY1
import Derived.Test.YtehfpameijkafaaGreatDoorY2
import Derived.Test.YtehfpameijkafaaGreatDoorY10
set_option linter.unusedVariables false
set_option linter.unusedSimpArgs false
namespace Go.Lx
theorem JF (c:UInt8)(r:List UInt8):skip false (c::r)=if Dr c then skip false r else if c=35 then skip true r else c::r:=rfl
theorem Kn (c:UInt8)(r:List UInt8):skip true (c::r)=if c=10 then skip false r else skip true r:=rfl
theorem FZ:∀ (m:Bool) (r:List UInt8),(skip m r).length<=r.length
 |_,[]=>by cases ‹Bool›<;>exact Nat.le_refl _
 |false,c::r=>by
  unfold skip
  split
  . have:=FZ false r;simp only [List.length_cons];omega
  . split
    . have:=FZ true r;simp only [List.length_cons];omega
    . exact Nat.le_refl _
 |true,c::r=>by
  unfold skip
  split
  . have:=FZ false r;simp only [List.length_cons];omega
  . have:=FZ true r;simp only [List.length_cons];omega
theorem WT {c:UInt8}{r:List UInt8}(h:Dr c=false)(h2:c≠35):skip false (c::r)=c::r:=by
 unfold skip;rw [if_neg (by simp [h]),if_neg h2]
theorem GS:∀ (m:Bool) (a:List UInt8),∃ u,a=u++skip m a
 |m,[]=>⟨[],by cases m<;>rfl⟩
 |false,d::a=>by
  unfold skip
  split
  . obtain⟨u,h⟩:=GS false a;exact⟨d::u,by rw [List.cons_append,<- h]⟩
  . split
    . obtain⟨u,h⟩:=GS true a;exact⟨d::u,by rw [List.cons_append,<- h]⟩
    . exact⟨[],rfl⟩
 |true,d::a=>by
  unfold skip
  split
  . obtain⟨u,h⟩:=GS false a;exact⟨d::u,by rw [List.cons_append,<- h]⟩
  . obtain⟨u,h⟩:=GS true a;exact⟨d::u,by rw [List.cons_append,<- h]⟩
def Sep (t x:List UInt8):Prop:=x=[]∨(∃ c r,x=c::r/\(Dr c=true∨c=35))∨(∃ c r r',x=c::r/\t=c::r')
theorem F6 (p:UInt8->Bool):∀ (u x:List UInt8),(∀ c∈u,p c=true)->Cl p x=false->(u++x).takeWhile p=u/\(u++x).dropWhile p=x
 | [],x,_,h=>by
  cases x with
  |nil=>exact⟨rfl,rfl⟩
  |cons c r=>have:p c=false:=h;simp [this]
 |d::u,x,hu,h=>by
  obtain⟨h1,h2⟩:=F6 p u x (fun c hc=>hu c (List.mem_cons_of_mem _ hc)) h
  have hd:=hu d (List.mem_cons_self ..)
  simp [hd,h1,h2]
theorem Hf (p:UInt8->Bool):∀ (r:List UInt8),(∀ c∈r.takeWhile p,p c=true)/\Cl p (r.dropWhile p)=false/\r=r.takeWhile p++r.dropWhile p
 | []=>⟨by simp,rfl,rfl⟩
 |d::r=>by
  obtain⟨h1,h2,h3⟩:=Hf p r
  by_cases hd:p d=true
  . simp only [List.takeWhile_cons,List.dropWhile_cons,hd,if_true]
    refine⟨fun c hc=>?_,h2,by rw [List.cons_append,<- h3]⟩
    rcases List.mem_cons.1 hc with rfl|h
    . exact hd
    . exact h1 c h
  . simp only [List.takeWhile_cons,List.dropWhile_cons,if_neg hd]
    exact⟨by simp,by show p d=false;simpa using hd,rfl⟩
theorem Gk {c:UInt8}(h:Dr c=true∨c=35):isWord c=false/\isDigit c=false/\BE c=false:=by
 have:c=32∨c=9∨c=10∨c=13∨c=35:=by
  rcases h with h|h
  . simp only [Dr,Bool.or_eq_true,beq_iff_eq] at h
    rcases h with ((h|h)|h)|h<;>simp [h]
  . simp [h]
 rcases this with rfl|rfl|rfl|rfl|rfl<;>decide
theorem Pf {p:UInt8->Bool}{t x:List UInt8}(h:Sep t x)(ht:Cl p t=false)(hb:∀ c,(Dr c=true∨c=35)->p c=false):Cl p x=false:=by
 rcases h with rfl|⟨c,r,rfl,a⟩|⟨c,r,r',rfl,rfl⟩
 . rfl
 . exact hb c a
 . exact ht
theorem UX {r s t:List UInt8}{k v:Nat}(h:name r=.ok k s v t):k=1/\v=0/\r=s++t/\(∀ c∈s,isWord c=true)/\Cl isWord t=false/\s.length<=32:=by
 unfold name at h
 split at h
 . cases h
 . cases h
   obtain⟨a,b,d⟩:=Hf isWord r
   exact⟨rfl,rfl,d,a,b,by omega⟩
theorem Aap {s x:List UInt8}(h1:∀ c∈s,isWord c=true)(h2:Cl isWord x=false)(h3:s.length<=32):name (s++x)=.ok 1 s 0 x:=by
 obtain⟨e1,e2⟩:=F6 isWord s x h1 h2
 unfold name
 rw [e1,e2,if_neg (by omega)]
end Go.Lx
namespace Go.Lx
theorem Ob (d:List UInt8)(c:UInt8):Dj (d++[c])=10*Dj d+(c.toNat-48):=by
 unfold Dj;rw [List.foldl_append];rfl
def dec (n:Nat):List UInt8:=if h:n<10 then [UInt8.ofNat (48+n)] else dec (n / 10)++[UInt8.ofNat (48+n % 10)]
termination_by n
decreasing_by omega
theorem J7 {c:UInt8}(h:isDigit c=true):48<=c.toNat/\c.toNat<=57:=by
 simp only [isDigit,Bool.and_eq_true,decide_eq_true_eq,UInt8.le_iff_toNat_le] at h
 exact⟨h.1,h.2⟩
theorem Oa {c:UInt8}(h:isDigit c=true):UInt8.ofNat (48+(c.toNat-48))=c:=by
 have:=J7 h
 rw [show 48+(c.toNat-48)=c.toNat by omega]
 exact UInt8.ofNat_toNat
theorem US:∀ (d:List UInt8) (c:UInt8),isDigit c=true->c≠48->(∀ x∈d,isDigit x=true)->1<=Dj (c::d):=by
 intro d c f b i
 have hb:=J7 f
 have g:c.toNat≠48:=fun e=>b (UInt8.toNat_inj.1 (by rw [e];rfl))
 have key:∀ (l:List UInt8) (a:Nat),1<=a->1<=l.foldl (fun n c=>10*n+(c.toNat-48)) a:=by
  intro l
  induction l with
  |nil=>intro a h;exact h
  |cons x l ih=>intro a h;exact ih _ (show 1<=10*a+(x.toNat-48) by omega)
 exact key d _ (show 1<=10*0+(c.toNat-48) by omega)
theorem PT:∀ (n:Nat) (d:List UInt8),d.length=n->d≠[]->(∀ c∈d,isDigit c=true)->(1<d.length->Cl (· == 48) d=false)->dec (Dj d)=d
 |0,d,hl,hne,_,_=>absurd (List.eq_nil_of_length_eq_zero hl) hne
 |n+1,d,hl,hne,hd,hz=>by
  obtain⟨d',c,rfl⟩:∃ d' c,d=d'++[c]:=⟨d.dropLast,d.getLast hne,(List.dropLast_concat_getLast hne).symm⟩
  have hc:=hd c (by simp)
  have hb:=J7 hc
  rw [Ob]
  by_cases h0:d'=[]
  . subst h0
    have e:Dj []=0:=rfl
    rw [e,dec,dif_pos (by omega)]
    simp only [Nat.mul_zero,Nat.zero_add,Oa hc,List.nil_append]
  . have hd':∀ x∈d',isDigit x=true:=fun x hx=>hd x (by simp [hx])
    obtain⟨a,r,rfl⟩:∃ a r,d'=a::r:=by cases d' with|nil=>exact absurd rfl h0|cons a r=>exact⟨a,r,rfl⟩
    have b:a≠48:=by
     have:=hz (by simp)
     have f:(a == 48)=false:=this
     simpa using f
    have g:=US r a (hd' a (by simp)) b (fun x hx=>hd' x (by simp [hx]))
    have ih:=PT n (a::r) (by simp at hl ⊢;omega) (by simp) hd' (fun _=>by show (a == 48)=false;simpa using b)
    rw [dec,dif_neg (by omega)]
    rw [show (10*Dj (a::r)+(c.toNat-48)) / 10=Dj (a::r) by omega,show (10*Dj (a::r)+(c.toNat-48)) % 10=c.toNat-48 by omega,ih,Oa hc]
theorem M5 {r s t:List UInt8}{k v:Nat}(h:number r=.ok k s v t):∃ d,k=2/\s=[]/\v=Dj d/\r=d++t/\(∀ c∈d,isDigit c=true)/\Cl isDigit t=false/\Cl BE t=false/\d.length<=15/\(1<d.length->Cl (· == 48) r=false):=by
 unfold number at h
 simp only at h
 split at h
 . cases h
 . rename_i e
   cases h
   obtain⟨f,g,i⟩:=Hf isDigit r
   simp only [Bool.or_eq_true,Bool.and_eq_true,decide_eq_true_eq,not_or,not_and] at e
   obtain⟨⟨j,a⟩,b⟩:=e
   exact⟨_,rfl,rfl,rfl,i,f,g,by simpa using b,by omega,fun h=>by simpa using a h⟩
theorem Re {d x:List UInt8}(h1:∀ c∈d,isDigit c=true)(h2:Cl isDigit x=false)(h3:Cl BE x=false)(h4:d.length<=15)(h5:1<d.length->Cl (· == 48) (d++x)=false):number (d++x)=.ok 2 [] (Dj d) x:=by
 obtain⟨e1,e2⟩:=F6 isDigit d x h1 h2
 unfold number
 simp only
 rw [e1,e2,if_neg]
 simp only [Bool.or_eq_true,Bool.and_eq_true,decide_eq_true_eq,not_or,not_and]
 exact⟨⟨by omega,fun h=>by simpa using h5 h⟩,by simpa using h3⟩
theorem GH (a b:List UInt8):quoted (a++b)=quoted a++quoted b:=List.flatMap_append
theorem NX {d:UInt8}(h:pair d≠0):quoted [pair d]=[92,d]:=by
 unfold pair at h ⊢
 by_cases a:d=34∨d=92
 . rw [if_pos a]
   rcases a with rfl|rfl<;>decide
 . rw [if_neg a] at h ⊢
   by_cases b:d=110
   . subst b;decide
   . rw [if_neg b] at h;exact absurd rfl h
theorem M1 {c:UInt8}(h1:c≠34)(h2:c≠92)(h3:¬ (c<32∨126<c)):quoted [c]=[c]:=by
 have a:c≠10:=fun e=>h3 (.inl (by rw [e];decide))
 simp [quoted,h1,h2,a]
theorem U6:∀ (n:Nat) (r b:List UInt8),r.length<=n->∀ {s t:List UInt8} {k v:Nat},text b r=.ok k s v t ->
 ∃ body,k=3/\v=0/\s=b++body/\r=quoted body++34::t/\∀ x,text b (quoted body++34::x)=.ok 3 s 0 x:=by
 intro n
 induction n with
 |zero =>
  intro r b i s t k v h
  obtain rfl:=List.eq_nil_of_length_eq_zero (Nat.le_zero.1 i)
  unfold text at h
  split at h<;>cases h
 |succ n ih =>
  intro r b i s t k v h
  cases r with
  |nil=>unfold text at h;split at h<;>cases h
  |cons c r =>
   unfold text at h
   by_cases hb:200<b.length
   . rw [if_pos hb] at h;cases h
   rw [if_neg hb] at h
   by_cases a:c=34
   . rw [if_pos a] at h
     cases h
     refine⟨[],rfl,rfl,by simp,by rw [a];rfl,fun x=>?_⟩
     show text b (34::x)=_
     unfold text
     rw [if_neg hb,if_pos rfl]
   rw [if_neg a] at h
   by_cases e:c=92
   . rw [if_pos e] at h
     cases r with
     |nil=>cases h
     |cons d r' =>
      simp only at h
      by_cases g:pair d=0
      . rw [if_pos g] at h;cases h
      . rw [if_neg g] at h
        obtain⟨body,e1,e2,e3,e4,e5⟩:=ih r' _ (by simp at i;omega) h
        refine⟨pair d::body,e1,e2,by rw [e3];simp,?_,fun x=>?_⟩
        . rw [show pair d::body=[pair d]++body from rfl,GH,NX g,e4,e];rfl
        . rw [show pair d::body=[pair d]++body from rfl,GH,NX g]
          show text b (92::d::(quoted body++34::x))=_
          unfold text
          rw [if_neg hb,if_neg (by decide),if_pos rfl]
          simp only
          rw [if_neg g]
          exact e5 x
   . rw [if_neg e] at h
     by_cases f:c<32∨126<c
     . rw [if_pos f] at h;cases h
     . rw [if_neg f] at h
       obtain⟨body,e1,e2,e3,e4,e5⟩:=ih r _ (by simp at i;omega) h
       refine⟨c::body,e1,e2,by rw [e3];simp,?_,fun x=>?_⟩
       . rw [show c::body=[c]++body from rfl,GH,M1 a e f,e4];rfl
       . rw [show c::body=[c]++body from rfl,GH,M1 a e f]
         show text b (c::(quoted body++34::x))=_
         unfold text
         rw [if_neg hb,if_neg a,if_neg e,if_neg f]
         exact e5 x
theorem P1 {l:List UInt8}(h:l∈long):l.length=2:=by
 have:∀ l∈long,l.length=2:=by decide
 exact this l h
theorem TD {a b:UInt8}(h:[a,b]∈long):Dr b=false/\b≠35:=by
 have:∀ l∈long,∀ b,l[1]?=some b->Dr b=false/\b≠35:=by
  intro l c b hb
  simp only [long,List.mem_cons,List.not_mem_nil,or_false] at c
  rcases c with rfl|rfl|rfl|rfl|rfl|rfl|rfl|rfl|rfl<;>(simp at hb;subst hb;decide)
 exact this _ h b rfl
theorem UG {r s t:List UInt8}{k v:Nat}(h:sign r=.ok k s v t):k=4/\v=0/\r=s++t/\((s∈long)∨(∃ c,s=[c]/\c∈short/\r.take 2∉long)):=by
 unfold sign at h
 by_cases a:r.take 2∈long
 . rw [if_pos a] at h;cases h;exact⟨rfl,rfl,(List.take_append_drop 2 r).symm,.inl a⟩
 . rw [if_neg a] at h
   cases r with
   |nil=>cases h
   |cons c r' =>
    simp only at h
    by_cases hs:c∈short
    . rw [if_pos hs] at h;cases h;exact⟨rfl,rfl,rfl,.inr ⟨c,rfl,hs,a⟩⟩
    . rw [if_neg hs] at h;cases h
theorem ZY {s t x:List UInt8}(h:(s∈long)∨(∃ c,s=[c]/\c∈short/\(s++t).take 2∉long))(hx:Sep t x):sign (s++x)=.ok 4 s 0 x:=by
 unfold sign
 rcases h with h|⟨c,rfl,f,g⟩
 . have b:=P1 h
   have e1:(s++x).take 2=s:=by rw [<- b];exact List.take_left
   have e2:(s++x).drop 2=x:=by rw [<- b];exact List.drop_left
   rw [e1,e2,if_pos h]
 . have a:([c]++x).take 2∉long:=by
    rcases hx with rfl|⟨d,r,rfl,hd⟩|⟨d,r,r',rfl,rfl⟩
    . intro h;have:=P1 h;simp at this
    . intro h
      have i:[c,d]∈long:=h
      obtain⟨e,j⟩:=TD i
      rcases hd with hd|hd
      . rw [hd] at e;cases e
      . exact j hd
    . exact g
   rw [if_neg a]
   simp only [List.singleton_append]
   rw [if_pos f]
def word (k:Nat)(s:List UInt8)(v:Nat):List UInt8:=if k=1∨k=4 then s else if k=2 then dec v else if k=3 then 34::quoted s++[34] else []
theorem QM {r s t:List UInt8}{k v:Nat}(h:tok r=.ok k s v t) :
 word k s v≠[]/\r=word k s v++t/\(∀ x,Sep t x->tok (word k s v++x)=.ok k s v x)/\1<=k/\k<=4:=by
 unfold tok at h
 cases r with
 |nil=>cases h
 |cons c r' =>
  simp only at h
  by_cases l:BE c=true
  . rw [if_pos l] at h
    obtain⟨rfl,rfl,e,b,f,p⟩:=UX h
    have g:word 1 s 0=s:=rfl
    have hs:s≠[]:=by
     rintro rfl
     rw [List.nil_append] at e
     rw [<- e] at f
     have:isWord c=false:=f
     simp [isWord,l] at this
    obtain⟨d,s',rfl⟩:∃ d s',s=d::s':=by cases s with|nil=>exact absurd rfl hs|cons d s'=>exact⟨d,s',rfl⟩
    have i:d=c:=by simp at e;exact e.1.symm
    subst i
    rw [g]
    refine⟨hs,e,fun x m=>?_,by omega,by omega⟩
    rw [List.cons_append]
    unfold tok
    simp only
    rw [if_pos l,<- List.cons_append]
    exact Aap b (Pf m f fun c n=>(Gk n).1) p
  rw [if_neg l] at h
  by_cases i:isDigit c=true
  . rw [if_pos i] at h
    obtain⟨d,rfl,rfl,rfl,e,b,f,p,w,y⟩:=M5 h
    have j:d≠[]:=by
     rintro rfl
     rw [List.nil_append] at e
     rw [<- e] at f
     have:isDigit c=false:=f
     rw [i] at this;cases this
    obtain⟨a,d',rfl⟩:∃ a d',d=a::d':=by cases d with|nil=>exact absurd rfl j|cons a d'=>exact⟨a,d',rfl⟩
    have q:a=c:=by simp at e;exact e.1.symm
    subst q
    have u:1<(a::d').length->Cl (· == 48) (a::d')=false:=fun h=>by have:=y h;exact this
    have g:word 2 [] (Dj (a::d'))=a::d':=by
     show dec _=_
     exact PT _ _ rfl j b u
    rw [g]
    refine⟨j,e,fun x m=>?_,by omega,by omega⟩
    rw [List.cons_append]
    unfold tok
    simp only
    rw [if_neg l,if_pos i,<- List.cons_append]
    exact Re b (Pf m f fun c n=>(Gk n).2.1) (Pf m p fun c n=>(Gk n).2.2) w (fun h=>u h)
  rw [if_neg i] at h
  by_cases o:c=34
  . rw [if_pos o] at h
    obtain⟨body,rfl,rfl,e3,e4,e5⟩:=U6 _ _ _ (Nat.le_refl _) h
    rw [List.nil_append] at e3
    subst e3
    have g:word 3 s 0=34::quoted s++[34]:=rfl
    rw [g]
    refine⟨by simp,by rw [o,e4];simp,fun x _=>?_,by omega,by omega⟩
    rw [List.append_assoc]
    show tok (34::(quoted s++34::x))=_
    unfold tok
    simp only
    rw [if_neg (by decide),if_neg (by decide),if_pos trivial]
    exact e5 x
  rw [if_neg o] at h
  obtain⟨rfl,rfl,e,b⟩:=UG h
  have g:word 4 s 0=s:=rfl
  rw [g]
  have hs:s≠[]:=by
   rcases b with b|⟨c,rfl,_⟩
   . have:=P1 b;rintro rfl;simp at this
   . simp
  obtain⟨a,s',rfl⟩:∃ a s',s=a::s':=by cases s with|nil=>exact absurd rfl hs|cons a s'=>exact⟨a,s',rfl⟩
  have q:a=c:=by simp at e;exact e.1.symm
  subst q
  refine⟨hs,e,fun x m=>?_,by omega,by omega⟩
  rw [List.cons_append]
  unfold tok
  simp only
  rw [if_neg l,if_neg i,if_neg o,<- List.cons_append]
  exact ZY (t:=t) (by rw [<- e];exact b) m
end Go.Lx
namespace Go.Lx
inductive Good (n:Nat):List UInt8->List Tok->Prop
 |fin:Good n [] [⟨5,n,[],0⟩]
 |cons {r s t:List UInt8} {k v:Nat} {l:List Tok}:tok r=.ok k s v t->Good n (skip false t) l->Good n r (⟨k,n-r.length,s,v⟩::l)
inductive Bad (n:Nat):List UInt8->Nat->Nat->Prop
 |here {r:List UInt8} {e:Nat}:r≠[]->tok r=.bad e->Bad n r (n-r.length) e
 |later {r s t:List UInt8} {k v p e:Nat}:tok r=.ok k s v t->Bad n (skip false t) p e->Bad n r p e
theorem RE {r s t:List UInt8}{k v:Nat}(h:tok r=.ok k s v t):t.length<r.length:=by
 obtain⟨a,b,_⟩:=QM h
 have:0<(word k s v).length:=List.length_pos_iff.2 a
 rw [b,List.length_append];omega
theorem Good.unique {n:Nat}{r:List UInt8}{l l':List Tok}(h:Good n r l)(h':Good n r l'):l=l':=by
 induction h generalizing l' with
 |fin=>cases h' with|fin=>rfl|cons h _=>cases h
 |cons c _ ih =>
  cases h' with
  |fin=>cases c
  |cons a b=>rw [c] at a;cases a;rw [ih b]
theorem Good.notBad {n p e:Nat}{r:List UInt8}{l:List Tok}(h:Good n r l)(h':Bad n r p e):False:=by
 induction h with
 |fin=>cases h' with|here h _=>exact h rfl|later h _=>cases h
 |cons b _ ih =>
  cases h' with
  |here _ hb=>rw [b] at hb;cases hb
  |later a hb=>rw [b] at a;cases a;exact ih hb
theorem Bad.unique {n p e p' e':Nat}{r:List UInt8}(h:Bad n r p e)(h':Bad n r p' e'):p=p'/\e=e':=by
 induction h with
 |here _ hb=>cases h' with|here _ a=>rw [hb] at a;cases a;exact⟨rfl,rfl⟩|later b _=>rw [hb] at b;cases b
 |later b _ ih=>cases h' with|here _ a=>rw [b] at a;cases a|later c hb=>rw [b] at c;cases c;exact ih hb
def shift (d:Nat)(x:Tok):Tok:={ x with at_:=x.at_+d }
theorem Good.shift {n d:Nat}{r:List UInt8}{l:List Tok}(h:Good n r l)(hr:r.length<=n):Good (n+d) r (l.map (Lx.shift d)):=by
 induction h with
 |fin=>exact .fin
 | @cons r s t k v l a _ ih =>
  have c:=RE a
  have f:=FZ false t
  have b:=ih (by omega)
  have e:n-r.length+d=n+d-r.length:=by omega
  rw [List.map_cons]
  show Good _ _ (⟨k,n-r.length+d,s,v⟩::_)
  rw [e]
  exact .cons a b
end Go.Lx



