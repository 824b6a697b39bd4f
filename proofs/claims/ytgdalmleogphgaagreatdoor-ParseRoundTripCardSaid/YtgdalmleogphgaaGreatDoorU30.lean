/-
  The text of tokens is read as these tokens again. No program.
-/
import Derived.Lib.Join
import Derived.Lib.ItoaNum
import Derived.Test.YtgdalmleogphgaaGreatDoorU16
import Derived.Test.YtgdalmleogphgaaGreatDoorU29
namespace Go.Sp
open Go
theorem GR {n:Nat}(h:n<10):Lx.dec n=[UInt8.ofNat (48+n)]:=by rw [Lx.dec,dif_pos h]
theorem Re {n:Nat}(h:¬ n<10):Lx.dec n=Lx.dec (n / 10)++[UInt8.ofNat (48+n % 10)]:=by rw [Lx.dec,dif_neg h]
theorem Nu:∀ k:Nat,k<10->Lx.isDigit (UInt8.ofNat (48+k))=true/\(UInt8.ofNat (48+k)).toNat=48+k/\(1<=k->UInt8.ofNat (48+k)≠48):=by decide
theorem Nt:∀ (N n:Nat),n<=N->(∀ c∈Lx.dec n,Lx.isDigit c=true)/\Lx.numVal (Lx.dec n)=n/\Lx.dec n≠[]/\(1<=n->Lx.headIs (· == 48) (Lx.dec n)=false)/\∀ k,1<=k->n<10 ^ k->(Lx.dec n).length<=k:=by
 intro N
 induction N with
 |zero =>
  intro n h
  obtain rfl:n=0:=by omega
  rw [GR (by omega)]
  exact⟨by decide,rfl,by simp,fun h=>by omega,fun k hk _=>by simpa using hk⟩
 |succ N ih =>
  intro n h
  by_cases h10:n<10
  . rw [GR h10]
    obtain⟨d1,d2,d3⟩:=Nu n h10
    refine⟨fun c hc=>by rw [List.mem_singleton.1 hc];exact d1,?_,by simp,fun h1=>?_,fun k hk _=>by simpa using hk⟩
    . show 10*0+((UInt8.ofNat (48+n)).toNat-48)=n
      rw [d2];omega
    . show (UInt8.ofNat (48+n) == 48)=false
      rw [beq_eq_false_iff_ne];exact d3 h1
  . rw [Re h10]
    obtain⟨i1,i2,i3,i4,i5⟩:=ih (n / 10) (by omega)
    obtain⟨d1,d2,d3⟩:=Nu (n % 10) (by omega)
    refine⟨fun c hc=>?_,?_,by simp,fun _=>?_,fun k hk hn=>?_⟩
    . rcases List.mem_append.1 hc with hc|hc
      . exact i1 c hc
      . rw [List.mem_singleton.1 hc];exact d1
    . rw [Lx.numVal_snoc,i2,d2];omega
    . have:=i4 (by omega)
      cases hd:Lx.dec (n / 10) with
      |nil=>exact absurd hd i3
      |cons c r=>rw [hd] at this;exact this
    . rw [List.length_append]
      have hk2:2<=k:=by
       by_cases q:k=1
       . subst q;simp at hn;omega
       . omega
      have:=i5 (k-1) (by omega) (by
       have e:10 ^ k=10 ^ (k-1)*10:=by rw [<- Nat.pow_succ];congr 1;omega
       rw [e] at hn
       omega)
      simp only [List.length_cons,List.length_nil];omega
theorem Tv:∀ (N n:Nat),n<=N->Lib.itoa (n:Int)=Lx.dec n:=by
 have small:∀ n:Nat,n<10->Lib.itoa (n:Int)=Lx.dec n:=by
  intro n h
  rw [GR h]
  unfold Lib.itoa
  rw [if_neg (by omega),Int.toNat_natCast,Lib.decDigits_one h]
 intro N
 induction N with
 |zero=>intro n h;exact small n (by omega)
 |succ N ih =>
  intro n h
  by_cases h10:n<10
  . exact small n h10
  . rw [Re h10,<- ih (n / 10) (by omega),<- GR (show n % 10<10 by omega),<- small (n % 10) (by omega)]
    unfold Lib.itoa
    rw [if_neg (by omega),if_neg (by omega),if_neg (by omega),Int.toNat_natCast,Int.toNat_natCast,Int.toNat_natCast,Lib.decDigits_one (i:=n % 10) (by omega)]
    conv=>lhs;rw [Lib.decDigits,dif_neg h10]
theorem Oc:∀ ws:List (List UInt8),Lib.join ws [32]=Lx.joinSp ws
 | []=>rfl
 | [w]=>Lib.join_one w [32]
 |w::v::r=>by
  have ih:=Oc (v::r)
  rw [Lib.join_cons] at ih ⊢
  show w++Lib.joinTail [32] (v::r)=w++32::Lx.joinSp (v::r)
  rw [<- ih];rfl
def Mw (y:Lx.Tok):Prop:=∃ r u,Lx.tok r=.ok y.kind y.s y.n u
def EJ (t:Ab):Prop:=∃ y:Lx.Tok,Mw y/\t.Kind=(y.kind:Int)/\t.S=⟨⟨y.s⟩⟩/\t.N=(y.n:Int)
theorem OA {r:List UInt8}{k v:Nat}{s u:List UInt8}(h:Lx.tok r=.ok k s v u):Lx.skip false r=r:=by
 cases r with
 |nil=>rfl
 |cons c r =>
  by_cases hb:Lx.isBlank c=true∨c=35
  . exfalso
    obtain⟨_,b2,b3⟩:=Lx.blank_not_word hb
    have hl:∀ d:UInt8,([c,d]:List UInt8)∉Lx.long:=by
     intro d hd
     simp only [Lx.long,List.mem_cons,List.cons.injEq,List.not_mem_nil,or_false,and_true] at hd
     rcases hd with h|h|h|h|h|h|h|h|h<;>(obtain⟨rfl,_⟩:=h;revert hb;decide)
    have hs:c∉Lx.short:=by
     intro hd
     have all:∀ x∈Lx.short,¬ (Lx.isBlank x=true∨x=35):=by decide
     exact all c hd hb
    have h34:c≠34:=by rintro rfl;revert hb;decide
    unfold Lx.tok at h
    simp only [b2,b3,h34,Bool.false_eq_true,if_false] at h
    unfold Lx.sign at h
    have ht:(c::r).take 2∉Lx.long:=by
     cases r with
     |nil=>exact fun hd=>by have:=Lx.long_len hd;simp at this
     |cons d r=>exact hl d
    rw [if_neg ht] at h
    simp only [hs,if_false] at h
    cases h
  . simp only [not_or,Bool.not_eq_true] at hb
    exact Lx.skip_stay hb.1 hb.2
theorem OR:∀ (ys:List Lx.Tok),(∀ y∈ys,Mw y)->Rd (Lx.joinSp (ys.map Lx.Tok.word)) (ys.map Lx.Tok.core)
 | [],_=>SS
 | [y],h=>by
  obtain⟨r,u,hr⟩:=h y (.head _)
  obtain⟨t1,t2,t3,_⟩:=Lx.tok_parts hr
  have h0:=t3 [] (.inl rfl)
  rw [List.append_nil] at h0
  exact SR (t:=[]) h0 (OA h0) SS
 |y::z::ys,h=>by
  obtain⟨r,u,hr⟩:=h y (.head _)
  obtain⟨t1,t2,t3,_⟩:=Lx.tok_parts hr
  have ih:=OR (z::ys) fun y hy=>h y (.tail _ hy)
  have h0:=t3 (32::Lx.joinSp ((z::ys).map Lx.Tok.word)) (.inr (.inl ⟨32,_,rfl,.inl (by decide)⟩))
  exact SR h0 (OA h0) (SU ih)
theorem N4 {t:Ab}{y:Lx.Tok}(hy:Mw y)(h1:t.Kind=(y.kind:Int))(h2:t.S=⟨⟨y.s⟩⟩)(h3:t.N=(y.n:Int)):Em t=[y.word]:=by
 obtain⟨r,u,hr⟩:=hy
 obtain⟨_,_,_,k1,k4⟩:=Lx.tok_parts hr
 unfold Em Lx.Tok.word Lx.word
 rw [h1,h2,h3]
 by_cases q1:y.kind=1∨y.kind=4
 . rw [if_pos q1,if_pos (by omega)]
 . rw [if_neg q1,if_neg (by omega)]
   by_cases q2:y.kind=2
   . rw [if_pos q2,if_pos (by omega),Tv _ _ (Nat.le_refl _)]
   . rw [if_neg q2,if_neg (by omega)]
     have q3:y.kind=3:=by omega
     rw [if_pos q3,if_pos (by omega)]
theorem Kw:∀ {l:List Ab},(∀ t∈l,EJ t)->∃ ys:List Lx.Tok,(∀ y∈ys,Mw y)/\l.flatMap Em=ys.map Lx.Tok.word/\(ys.map E9).map (fun t=>(t.Kind,t.S,t.N))=l.map (fun t=>(t.Kind,t.S,t.N))
 | [],_=>⟨[],(fun y h=>by cases h),rfl,rfl⟩
 |t::l,h=>by
  obtain⟨ys,h1,h2,h3⟩:=Kw fun t ht=>h t (.tail _ ht)
  obtain⟨y,hy,e1,e2,e3⟩:=h t (.head _)
  refine⟨y::ys,fun z hz=>?_,?_,?_⟩
  . rcases List.mem_cons.1 hz with rfl|hz
    . exact hy
    . exact h1 z hz
  . rw [List.flatMap_cons,N4 hy e1 e2 e3,h2];rfl
  . rw [List.map_cons,List.map_cons,List.map_cons,h3,e1,e2,e3];rfl
theorem MH {l:List Ab}(h:∀ t∈l,EJ t):∃ l0,Lx.tokens (CE l).data.toList=.ok (l0++[Jr (CE l).data.toList.length])/\(l0.map E9).map (fun t=>(t.Kind,t.S,t.N))=l.map (fun t=>(t.Kind,t.S,t.N)):=by
 obtain⟨ys,h1,h2,h3⟩:=Kw h
 have hr:=OR ys h1
 have e:(CE l).data.toList=Lx.joinSp (ys.map Lx.Tok.word):=by
  show Lib.join (l.flatMap Em) [32]=_
  rw [h2,Oc]
 rw [<- e] at hr
 obtain⟨l0,t1,t2⟩:=R7 hr
 exact⟨l0,t1,by rw [<- h3];exact P0 t2⟩
theorem KU {s:ByteArray}(h:B8 s=true):EJ ⟨1,0,s,0⟩:=by
 unfold B8 at h
 simp only [Bool.and_eq_true,decide_eq_true_eq,List.all_eq_true] at h
 obtain⟨⟨h1,h2⟩,h3,h4⟩:=h
 have hl:s.data.toList.length=s.size:=rfl
 refine⟨⟨1,0,s.data.toList,0⟩,⟨s.data.toList,[],?_⟩,rfl,rfl,rfl⟩
 have hn:=Lx.name_of (x:=[]) h4 rfl (by omega)
 rw [List.append_nil] at hn
 cases hs:s.data.toList with
 |nil=>rw [hs] at h3;cases h3
 |cons c r =>
  rw [hs] at h3 hn
  unfold Lx.tok
  have h3:Lx.isLetter c=true:=h3
  simp only [h3,if_true]
  exact hn
theorem PC {v:Int}(h:EC v=true):EJ ⟨2,0,⟨#[]⟩,v⟩:=by
 unfold EC at h
 simp only [decide_eq_true_eq] at h
 obtain⟨m,rfl⟩:∃ m:Nat,v=(m:Int):=⟨v.toNat,by omega⟩
 obtain⟨d1,d2,d3,d4,d5⟩:=Nt m m (Nat.le_refl _)
 have hlen:=d5 15 (by omega) (by omega)
 have hn:=Lx.number_of (x:=[]) d1 rfl rfl hlen (fun h1=>by
  rw [List.append_nil]
  by_cases q:1<=m
  . exact d4 q
  . obtain rfl:m=0:=by omega
    rw [GR (by omega)] at h1
    simp at h1)
 rw [List.append_nil,d2] at hn
 refine⟨⟨2,0,[],m⟩,⟨Lx.dec m,[],?_⟩,rfl,rfl,rfl⟩
 cases hs:Lx.dec m with
 |nil=>exact absurd hs d3
 |cons c r =>
  rw [hs] at hn
  have hc:=d1 c (by rw [hs];exact .head _)
  have hnl:Lx.isLetter c=false:=by
   have all:∀ k:Fin 256,Lx.isDigit (UInt8.ofNat k.val)=true->Lx.isLetter (UInt8.ofNat k.val)=false:=by decide +kernel
   have:=all ⟨c.toNat,c.toNat_lt⟩
   rw [show UInt8.ofNat c.toNat=c from UInt8.ofNat_toNat] at this
   exact this hc
  unfold Lx.tok
  simp only [hnl,hc,Bool.false_eq_true,if_false,if_true]
  exact hn
theorem Ky:∀ (l b x:List UInt8),l.all Fo=true->(b++l).length<=200->Lx.text b (Lx.quoted l++34::x)=.ok 3 (b++l) 0 x
 | [],b,x,_,h=>by
  show Lx.text b (34::x)=_
  rw [List.append_nil] at h ⊢
  unfold Lx.text
  rw [if_neg (by omega),if_pos rfl]
 |c::l,b,x,h,hl=>by
  rw [List.all_cons,Bool.and_eq_true] at h
  have hb:(b++[c]++l)=b++c::l:=by simp
  have ih:=Ky l (b++[c]) x h.2 (by rw [hb];exact hl)
  rw [hb] at ih
  have hbl:b.length<=200:=by rw [List.length_append] at hl;omega
  have e:Lx.quoted (c::l)++34::x=(if c=34∨c=92 then [92,c] else if c=10 then [92,110] else [c])++(Lx.quoted l++34::x):=by
   unfold Lx.quoted;rw [List.flatMap_cons,List.append_assoc]
  rw [e]
  by_cases q1:c=34∨c=92
  . rw [if_pos q1]
    show Lx.text b (92::c::(Lx.quoted l++34::x))=_
    have hp:Lx.pair c=c:=by unfold Lx.pair;rw [if_pos q1]
    have hp0:¬ c=0:=by rintro rfl;revert q1;decide
    rw [Lx.text,if_neg (by omega),if_neg (by decide),if_pos rfl]
    simp only [hp,hp0,if_false]
    exact ih
  . rw [if_neg q1]
    by_cases q2:c=10
    . rw [if_pos q2]
      subst q2
      show Lx.text b (92::110::(Lx.quoted l++34::x))=_
      rw [Lx.text,if_neg (by omega),if_neg (by decide),if_pos rfl]
      have hp:Lx.pair 110=10:=rfl
      simp only [hp,show ¬ ((10:UInt8)=0) by decide,if_false]
      exact ih
    . rw [if_neg q2]
      show Lx.text b (c::(Lx.quoted l++34::x))=_
      have h32:¬ (c<32∨126<c):=by
       have h1:=h.1
       unfold Fo at h1
       have q3:(c == 10)=false:=by simpa using q2
       rw [q3,Bool.false_or,Bool.and_eq_true,decide_eq_true_eq,decide_eq_true_eq,UInt8.le_iff_toNat_le,UInt8.le_iff_toNat_le] at h1
       rw [UInt8.lt_iff_toNat_lt,UInt8.lt_iff_toNat_lt];omega
      unfold Lx.text
      rw [if_neg (by omega),if_neg (fun h=>q1 (.inl h)),if_neg (fun h=>q1 (.inr h)),if_neg h32]
      exact ih
theorem Q3 {s:ByteArray}(h:Ew s=true):EJ ⟨3,0,s,0⟩:=by
 unfold Ew at h
 rw [Bool.and_eq_true,decide_eq_true_eq] at h
 have hl:s.data.toList.length=s.size:=rfl
 refine⟨⟨3,0,s.data.toList,0⟩,⟨34::(Lx.quoted s.data.toList++[34]),[],?_⟩,rfl,rfl,rfl⟩
 have:=Ky s.data.toList [] [] h.2 (by rw [List.nil_append];omega)
 unfold Lx.tok
 simp only [show Lx.isLetter 34=false from rfl,show Lx.isDigit 34=false from rfl,Bool.false_eq_true,if_false,if_true]
 exact this
theorem Q4 {s:ByteArray}(h:s.data.toList∈Lx.long∨∃ c,s.data.toList=[c]/\c∈Lx.short):EJ (tS s):=by
 rcases h with h|⟨c,h,hc⟩
 . obtain⟨a,b,e⟩:∃ a b,s.data.toList=[a,b]:=by
    have:=Lx.long_len h
    match hs:s.data.toList,this with
    | [a,b],_=>exact⟨a,b,rfl⟩
   refine⟨⟨4,0,s.data.toList,0⟩,⟨s.data.toList,[],?_⟩,rfl,rfl,rfl⟩
   rw [e] at h ⊢
   have hb:∀ x∈Lx.long,Lx.tok x=.ok 4 x 0 []:=by decide
   exact hb _ h
 . refine⟨⟨4,0,s.data.toList,0⟩,⟨s.data.toList,[],?_⟩,rfl,rfl,rfl⟩
   rw [h]
   have hb:∀ x∈Lx.short,Lx.tok [x]=.ok 4 [x] 0 []:=by decide
   exact hb _ hc
end Go.Sp
