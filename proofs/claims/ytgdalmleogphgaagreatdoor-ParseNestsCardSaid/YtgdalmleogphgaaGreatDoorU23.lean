/-
  What tokens a source has, but for offsets: sources put together. No program. From the tokens' reading to the program's Expr, and back. No program. A source in parentheses is an atom, at depth 1. No program. From an atom up to a whole expression, past all levels of operators. No program. The first of ParseNests' sources: an expression in parentheses. No program. Signs and names ahead of a parenthesis. No program. A source within another: its tokens, and what surrounds them. No program. An expression in parentheses behind a minus sign, and behind a not. No program.
-/
import Derived.Test.YtgdalmleogphgaaGreatDoorU21
import Derived.Test.YtgdalmleogphgaaGreatDoorU22
namespace Go.Sp
open Go
def Rd (r:List UInt8)(cs:List (Nat×List UInt8×Nat)):Prop :=
 ∀ n,r.length<=n->∃ l0,Lx.Good n (Lx.skip false r) (l0++[⟨5,n,[],0⟩])/\l0.map Lx.Tok.core=cs
theorem rd_nil:Rd [] []:=fun _ _=>⟨[],.fin,rfl⟩
theorem rd_good {n:Nat}{r:List UInt8}{l0:List Lx.Tok}{u:Lx.Tok}(h:Lx.Good n (Lx.skip false r) (l0++[u])):Rd r (l0.map Lx.Tok.core):=by
 intro n' _
 obtain⟨l',h1,h2⟩:=h.re n'
 obtain⟨l1,rfl,h3⟩:=h1.last
 refine⟨l1,h1,?_⟩
 rw [List.map_append,List.map_append] at h2
 exact (List.append_inj' h2 rfl).1
theorem rd_join {a b:List UInt8}{cs ds:List (Nat×List UInt8×Nat)}(ha:Rd a cs)(hb:Rd b ds):Rd (a++10::b) (cs++ds):=by
 intro n hn
 simp only [List.length_append,List.length_cons] at hn
 have hs:=Lx.skip_len false a
 obtain⟨l0,g0,rfl⟩:=ha (n-1-b.length) (by omega)
 obtain⟨l1,g1,rfl⟩:=hb n (by omega)
 obtain⟨l2,e2,h2,_⟩:=Lx.join_good (N:=n) (b:=b) g0 (Lx.skip_idem false a) (by omega) (by omega)
 obtain⟨rfl,_⟩:=List.append_inj' e2 rfl
 have:=h2 _ g1
 rw [<- Lx.skip_feed,<- List.append_assoc] at this
 exact⟨_,this,List.map_append⟩
theorem rd_tok {r t s:List UInt8}{k v:Nat}{cs:List (Nat×List UInt8×Nat)}(h:Lx.tok r=.ok k s v t)(hs:Lx.skip false r=r)(ht:Rd t cs):Rd r ((k,s,v)::cs):=by
 intro n hn
 have:=Lx.tok_len h
 obtain⟨l0,g0,rfl⟩:=ht n (by omega)
 rw [hs]
 exact⟨⟨k,n-r.length,s,v⟩::l0,.cons h g0,rfl⟩
theorem rd_tokens {r:List UInt8}{cs:List (Nat×List UInt8×Nat)}(h:Rd r cs):∃ l0,Lx.tokens r=.ok (l0++[⟨5,r.length,[],0⟩])/\l0.map Lx.Tok.core=cs:=by
 obtain⟨l0,g0,h0⟩:=h r.length (Nat.le_refl _)
 cases e:Lx.tokens r with
 |ok ts=>rw [(Lx.tokens_good e).unique g0];exact⟨l0,rfl,h0⟩
 |error x=>obtain⟨p,q⟩:=x;exact (g0.notBad (Lx.tokens_bad e)).elim
theorem rd_of {r:List UInt8}{ts:List Lx.Tok}(h:Lx.tokens r=.ok ts):∃ l0,ts=l0++[⟨5,r.length,[],0⟩]/\Rd r (l0.map Lx.Tok.core):=by
 have g:=Lx.tokens_good h
 obtain⟨l0,rfl,_⟩:=g.last
 exact⟨l0,rfl,rd_good g⟩
theorem rd_open {r:List UInt8}{cs:List (Nat×List UInt8×Nat)}(h:Rd r cs):Rd (40::r) ((4,[40],0)::cs):=rd_tok (t:=r) (by
 cases r with
 |nil=>rfl
 |cons c r =>
  show Lx.sign (40::c::r)=_
  unfold Lx.sign
  rw [if_neg (by intro h;simp [Lx.long] at h)]
  rfl) rfl h
theorem rd_shut {r:List UInt8}{cs:List (Nat×List UInt8×Nat)}(h:Rd r cs):Rd (41::r) ((4,[41],0)::cs):=rd_tok (t:=r) (by
 cases r with
 |nil=>rfl
 |cons c r =>
  show Lx.sign (41::c::r)=_
  unfold Lx.sign
  rw [if_neg (by intro h;simp [Lx.long] at h)]
  rfl) rfl h
theorem rd_comma {r:List UInt8}{cs:List (Nat×List UInt8×Nat)}(h:Rd r cs):Rd (44::r) ((4,[44],0)::cs):=rd_tok (t:=r) (by
 cases r with
 |nil=>rfl
 |cons c r =>
  show Lx.sign (44::c::r)=_
  unfold Lx.sign
  rw [if_neg (by intro h;simp [Lx.long] at h)]
  rfl) rfl h
end Go.Sp
namespace Go.Sp
open Go
theorem expr_eq {src:ByteArray}(hs:src.size<=1000){ts:List Lx.Tok}(h:Lx.tokens src.data.toList=.ok ts)(n:Nat):ref32_Expr n src=(ref32_expr n (ts.map tkT) 0 1).bind fun x =>
 bif (x.E != 0) then (gi (ts.map tkT) x.To).bind fun x1=>some (ref32_Read.mk [] (api_Expr.mk 0 0 ⟨#[]⟩ [] 0) (api_Problem.mk x1.At x.E))
 else (gi (ts.map tkT) x.To).bind fun x2=>bif (x2.Kind != 5) then some (ref32_Read.mk [] (api_Expr.mk 0 0 ⟨#[]⟩ [] 0) (api_Problem.mk x2.At 5)) else some (ref32_Read.mk [] x.X (api_Problem.mk 0 0)):=by
 have hT:refTokens src=some ⟨ts.map tkT,⟨0,0⟩⟩:=by
  unfold refTokens lexPlain
  rw [if_neg (by omega),h]
 unfold ref32_Expr
 rw [hT];rfl
theorem expr_of {src:ByteArray}(hs:src.size<=1000){ts:List Lx.Tok}(h:Lx.tokens src.data.toList=.ok ts){z0:Int}{X:api_Expr}(hE:EH (fun n=>ref32_expr n (ts.map tkT) 0 1) z0 X){u:api_Token}(hu:gi (ts.map tkT) z0=some u)(hu5:u.Kind=5) :
 ∃ x pr,Ev (fun n=>parse_Expr n src) (x,pr)/\FineE x/\(pr.E=2∨pr.E=0/\stE x=stE X):=by
 obtain⟨x,pr,l,h1,h2,f,_⟩:=bothExpr src
 refine⟨x,pr,h1,f,?_⟩
 obtain⟨g,⟨N2,hg⟩,hh⟩:=hE
 obtain⟨N1,hN⟩:=h2
 have q:ref32_Expr (max N1 N2) src=_:=hN (max N1 N2) (Nat.le_max_left _ _)
 rw [expr_eq hs h,show ref32_expr (max N1 N2) (ts.map tkT) 0 1=some g from hg _ (Nat.le_max_right _ _),Option.bind_some] at q
 rcases hh with h3|⟨h3,h4,h5⟩
 . rw [show (g.E != 0)=true by rw [h3];rfl] at q
   obtain⟨t,_,q⟩:=bindS q
   have q:=Option.some.inj q
   have q2:pr=⟨t.At,g.E⟩:=(congrArg ref32_Read.P q).symm
   exact .inl (by rw [q2];exact h3)
 . rw [show (g.E != 0)=false by rw [h3];rfl,cond_false,h4,hu,Option.bind_some,hu5] at q
   have q:=Option.some.inj q
   have q2:pr=⟨0,0⟩:=(congrArg ref32_Read.P q).symm
   have q3:x=g.X:=(congrArg ref32_Read.X q).symm
   exact .inr ⟨by rw [q2],by rw [q3];exact h5⟩
theorem expr_parts {src:ByteArray}(hs:src.size<=1000){x:api_Expr}{pr:api_Problem}(h:Ev (fun n=>parse_Expr n src) (x,pr))(h0:pr.E=0) :
 ∃ l0:List Lx.Tok,Lx.tokens src.data.toList=.ok (l0++[⟨5,src.data.toList.length,[],0⟩])/\Rd src.data.toList (l0.map Lx.Tok.core) /\
  ∃ g,Ev (fun n=>ref32_expr n ((l0++[(⟨5,src.data.toList.length,[],0⟩:Lx.Tok)]).map tkT) 0 1) g/\g.E=0/\g.X=x/\(∃ u,gi ((l0++[(⟨5,src.data.toList.length,[],0⟩:Lx.Tok)]).map tkT) g.To=some u/\u.Kind=5)/\FineE x:=by
 obtain⟨x',pr',l,h1,h2,f,_⟩:=bothExpr src
 have e:=h.uniq h1
 cases e
 cases ht:Lx.tokens src.data.toList with
 |error p =>
  exfalso
  obtain⟨p,q⟩:=p
  have hT:refTokens src=some ⟨[],⟨(p:Int),(q:Int)⟩⟩:=by
   unfold refTokens lexPlain
   rw [if_neg (by omega),ht]
  have hq:(q:Int)≠0:=by have:=(toks_shape _ _).2 _ _ ht;omega
  obtain⟨n,hn⟩:=h2.get
  unfold ref32_Expr at hn
  rw [hT,Option.bind_some,show ((q:Int) != 0)=true by simpa using hq] at hn
  have:=congrArg (fun r:ref32_Read=>r.P.E) (Option.some.inj hn)
  exact hq (this.trans h0)
 |ok ts =>
  obtain⟨l0,rfl,hr⟩:=rd_of ht
  refine⟨l0,rfl,hr,?_⟩
  have hS:=toks_shape (n:=src.data.toList.length) _ _ |>.1 _ ht
  have h3:src.data.toList.length=src.size:=rfl
  obtain⟨_,t,ht0⟩:=shape_toks hS.1 (by have:=hS.2;omega)
  obtain⟨g,hg,_⟩:=totX (shape_toks hS.1 (by have:=hS.2;omega)).1 ht0 1
  obtain⟨N2,hg2⟩:=hg
  obtain⟨N1,hN⟩:=h2
  have q:ref32_Expr (max N1 N2) src=_:=hN (max N1 N2) (Nat.le_max_left _ _)
  rw [expr_eq hs ht,show ref32_expr (max N1 N2) _ 0 1=some g from hg2 _ (Nat.le_max_right _ _),Option.bind_some] at q
  rcases condS q with⟨q1,q⟩|⟨q1,q⟩
  . exfalso
    obtain⟨t,_,q⟩:=bindS q
    have:=congrArg (fun r:ref32_Read=>r.P.E) (Option.some.inj q)
    rw [show g.E=0 from this.trans h0] at q1;cases q1
  . obtain⟨u,hu,q⟩:=bindS q
    rcases condS q with⟨q2,q⟩|⟨q2,q⟩
    . exfalso
      have:=congrArg (fun r:ref32_Read=>r.P.E) (Option.some.inj q)
      exact absurd (show (5:Int)=0 from this.trans h0) (by decide)
    . refine⟨g,⟨N2,hg2⟩,by simpa using q1,congrArg ref32_Read.X (Option.some.inj q),⟨u,hu,by simpa using q2⟩,f⟩
end Go.Sp
namespace Go.Sp
open Go
theorem neu_shut {M:List api_Token}{k:Int}{t:api_Token}(h:gi M k=some t)(h4:t.Kind=4)(hs:t.S=⟨#[41]⟩):Neu M k:=by
 refine⟨t,h,fun x hx=>?_⟩
 unfold isS
 rw [h4,hs]
 have all:∀ y∈stops,decide ((⟨#[41]⟩:ByteArray)=y)=false:=by decide
 rw [all x hx];rfl
theorem neu_comma {M:List api_Token}{k:Int}{t:api_Token}(h:gi M k=some t)(h4:t.Kind=4)(hs:t.S=⟨#[44]⟩):Neu M k:=by
 refine⟨t,h,fun x hx=>?_⟩
 unfold isS
 rw [h4,hs]
 have all:∀ y∈stops,decide ((⟨#[44]⟩:ByteArray)=y)=false:=by decide
 rw [all x hx];rfl
theorem paren_atom {L M:List api_Token}{p e d:Int}(hM:Toks M)(S:Sh L M (p+1) e){g:ref32_Got}(hg:Ev (fun n=>ref32_expr n L 0 1) g)(g0:g.E=0)(ge:g.To=e){t tt:api_Token}
 (hk:gi M p=some t) (h1:isS t ⟨#[40]⟩=true) (ht:gi M (e+(p+1))=some tt) (h4:tt.Kind=4) (hs:tt.S=⟨#[41]⟩) (hd:1<=d/\d<=9):EH (fun n=>ref32_atom n M p d) (e+(p+1)+1) g.X:=by
 have h:=sim_eh S (c:=d) (by omega) hM (by decide) hg g0 (.inr (neu_shut ht h4 hs))
 rw [ge,Int.zero_add,Int.add_comm 1 d] at h
 exact eh_paren hM.len hk (by omega) h1 h ht (by unfold isS;rw [h4,hs];rfl)
end Go.Sp
namespace Go.Sp
open Go
theorem isS_kind5 {t:api_Token}(h:t.Kind≠4)(s:ByteArray):isS t s=false:=by
 unfold isS
 rw [show (t.Kind == 4)=false by simpa using h];rfl
theorem lev_end {t:api_Token}(h:t.Kind≠4):lev t=⟨0,0⟩:=by
 unfold lev opz
 simp only [findS,isS_kind5 h,Bool.false_eq_true,if_false]
section
variable {M:List api_Token} {k d z:Int} {t tt:api_Token} {X:api_Expr} (hk:gi M k=some t) (ht:gi M z=some tt)
include hk ht
omit ht in
theorem eh_to7 (hm:isS t ⟨#[45]⟩=false)(h:EH (fun n=>ref32_atom n M k d) z X):EH (fun n=>ref32_binary n M k 7 d) z X:=eh_7 (eh_minus hk hm h)
omit hk in
theorem eh_to6 (hn:(lev tt).N≠6)(h:EH (fun n=>ref32_binary n M k 7 d) z X):EH (fun n=>ref32_binary n M k 6 d) z X:=eh_up (by decide) h ht hn
omit hk in
theorem eh_to5 (hn:(lev tt).N≠5)(h:EH (fun n=>ref32_binary n M k 6 d) z X):EH (fun n=>ref32_binary n M k 5 d) z X:=eh_up (by decide) h ht hn
omit hk in
theorem eh_to4 (hn:(lev tt).N≠4)(h:EH (fun n=>ref32_binary n M k 5 d) z X):EH (fun n=>ref32_binary n M k 4 d) z X:=eh_up (by decide) h ht hn
theorem eh_to2 (hb:isS t ⟨#[33]⟩=false)(hn:(lev tt).N≠2)(h:EH (fun n=>ref32_binary n M k 4 d) z X):EH (fun n=>ref32_binary n M k 2 d) z X:=eh_up (by decide) (eh_3 hk hb h) ht hn
omit hk in
theorem eh_to1 (hn:(lev tt).N≠1)(h:EH (fun n=>ref32_binary n M k 2 d) z X):EH (fun n=>ref32_binary n M k 1 d) z X:=eh_up (by decide) h ht hn
theorem eh_all (h4:tt.Kind≠4)(hm:isS t ⟨#[45]⟩=false)(hb:isS t ⟨#[33]⟩=false)(hf:fst t d true=0)(h:EH (fun n=>ref32_atom n M k d) z X):EH (fun n=>ref32_expr n M k d) z X:=by
 have l0:∀ v:Int,1<=v->(lev tt).N≠v:=by intro v hv;rw [lev_end h4];show (0:Int)≠v;omega
 exact eh_expr hk hf (eh_to1 ht (l0 1 (by decide)) (eh_to2 hk ht hb (l0 2 (by decide)) (eh_to4 ht (l0 4 (by decide)) (eh_to5 ht (l0 5 (by decide)) (eh_to6 ht (l0 6 (by decide)) (eh_to7 hk hm h)))))) ht (isS_kind5 h4 _)
end
end Go.Sp
namespace Go.Sp
open Go
theorem place {l1 l0:List Lx.Tok}{pc qc:List (Nat×List UInt8×Nat)}(h:l1.map Lx.Tok.core=pc++(l0.map Lx.Tok.core++qc)) :
 ∃ pre mid post,l1=pre++(mid++post)/\pre.map Lx.Tok.core=pc/\mid.map Lx.Tok.core=l0.map Lx.Tok.core/\post.map Lx.Tok.core=qc:=by
 obtain⟨pre,r,rfl,h1,h2⟩:=List.map_eq_append_iff.1 h
 obtain⟨mid,post,rfl,h3,h4⟩:=List.map_eq_append_iff.1 h2
 exact⟨pre,mid,post,rfl,h1,h3,h4⟩
theorem core_tk {x y:Lx.Tok}(h:x.core=y.core):((tkT x).Kind,(tkT x).S,(tkT x).N)=((tkT y).Kind,(tkT y).S,(tkT y).N):=by
 simp only [Lx.Tok.core,Prod.mk.injEq] at h
 simp only [tkT,h.1,h.2.1,h.2.2]
theorem cores_tk:∀ {l l':List Lx.Tok},l.map Lx.Tok.core=l'.map Lx.Tok.core->(l.map tkT).map (fun t=>(t.Kind,t.S,t.N))=(l'.map tkT).map (fun t=>(t.Kind,t.S,t.N))
 | [],[],_=>rfl
 |x::l,y::l',h=>by
  simp only [List.map_cons,List.cons.injEq] at h ⊢
  exact⟨core_tk h.1,cores_tk h.2⟩
 | [],y::l',h=>by simp at h
 |x::l,[],h=>by simp at h
theorem toks_of {src:ByteArray}(hs:src.size<=1000){ts:List Lx.Tok}(h:Lx.tokens src.data.toList=.ok ts):Toks (ts.map tkT):=by
 obtain⟨h1,h2⟩:=(toks_shape _ _).1 _ h
 have h3:src.data.toList.length=src.size:=rfl
 exact (shape_toks h1 (by omega)).1
theorem nest_paren {a src:ByteArray}(hs:src.size<=1000){l0:List Lx.Tok}{m:Nat}(hr:Rd a.data.toList (l0.map Lx.Tok.core)){g:ref32_Got}
 (hg:Ev (fun n=>ref32_expr n ((l0++[(⟨5,m,[],0⟩:Lx.Tok)]).map tkT) 0 1) g) (g0:g.E=0) (gt:g.To=(l0.length:Int)) (he:src.data.toList=40::(a.data.toList++10::[41])) :
 ∃ x pr,Ev (fun n=>parse_Expr n src) (x,pr)/\FineE x/\(pr.E=2∨pr.E=0/\stE x=stE g.X):=by
 have hrd:=rd_open (rd_join hr (rd_shut rd_nil))
 rw [<- he] at hrd
 obtain⟨l1,ht,hc⟩:=rd_tokens hrd
 obtain⟨pre,mid,post,rfl,h1,h2,h3⟩:=place (pc:=[(4,[40],0)]) (qc:=[(4,[41],0)]) hc
 obtain⟨o,rfl,ho⟩:=List.map_eq_singleton_iff.1 h1
 obtain⟨u,rfl,hu⟩:=List.map_eq_singleton_iff.1 h3
 have hM:=toks_of hs ht
 have hMe:(([o]++(mid++[u]))++[(⟨5,src.data.toList.length,[],0⟩:Lx.Tok)]).map tkT=[tkT o]++(mid.map tkT++[tkT u,tkT ⟨5,src.data.toList.length,[],0⟩]):=by simp
 have hl:mid.length=l0.length:=by have:=congrArg List.length h2;simpa using this
 have S:Sh ((l0++[(⟨5,m,[],0⟩:Lx.Tok)]).map tkT) ((([o]++(mid++[u]))++[(⟨5,src.data.toList.length,[],0⟩:Lx.Tok)]).map tkT) (0+1) (l0.length:Int):=by
  have:=sh_of (pre:=[tkT o]) (l0:=l0.map tkT) (mid:=mid.map tkT) (post:=[tkT u,tkT ⟨5,src.data.toList.length,[],0⟩]) (u:=tkT ⟨5,m,[],0⟩) rfl (cores_tk h2) (by rw [<- hMe];exact hM.len)
  rw [hMe,List.map_append,List.map_singleton]
  rw [List.length_map] at this
  exact this
 simp only [Lx.Tok.core,Prod.mk.injEq] at ho hu
 have k0:gi ((([o]++(mid++[u]))++[(⟨5,src.data.toList.length,[],0⟩:Lx.Tok)]).map tkT) 0=some (tkT o):=by rw [hMe];rfl
 have ku:gi ((([o]++(mid++[u]))++[(⟨5,src.data.toList.length,[],0⟩:Lx.Tok)]).map tkT) ((l0.length:Int)+(0+1))=some (tkT u):=by
  rw [hMe,show ((l0.length:Int)+(0+1))=((l0.length+1:Nat):Int) by omega,gi_nat,<- hl]
  simp
 have ke:gi ((([o]++(mid++[u]))++[(⟨5,src.data.toList.length,[],0⟩:Lx.Tok)]).map tkT) ((l0.length:Int)+(0+1)+1)=some (tkT ⟨5,src.data.toList.length,[],0⟩):=by
  rw [hMe,show ((l0.length:Int)+(0+1)+1)=((l0.length+2:Nat):Int) by omega,gi_nat,<- hl]
  simp
 have o1:(tkT o).Kind=4:=by show (o.kind:Int)=4;rw [ho.1];rfl
 have o2:(tkT o).S=⟨#[40]⟩:=by show (⟨⟨o.s⟩⟩:ByteArray)=_;rw [ho.2.1]
 have u1:(tkT u).Kind=4:=by show (u.kind:Int)=4;rw [hu.1];rfl
 have u2:(tkT u).S=⟨#[41]⟩:=by show (⟨⟨u.s⟩⟩:ByteArray)=_;rw [hu.2.1]
 have hA:=paren_atom (d:=1) hM S hg g0 gt k0 (by unfold isS;rw [o1,o2];rfl) ku u1 u2 (by decide)
 exact expr_of hs ht (eh_all k0 ke (show (5:Int)≠4 by decide) (by unfold isS;rw [o1,o2];rfl) (by unfold isS;rw [o1,o2];rfl) (by unfold fst beg;rw [o1,o2];rfl) hA) ke rfl
end Go.Sp
namespace Go.Sp
open Go
theorem rd_sign1 {c:UInt8}{r:List UInt8}{cs:List (Nat×List UInt8×Nat)}(h1:([c,40]:List UInt8)∉Lx.long)(h2:c∈Lx.short)(h:Rd (40::r) cs):Rd (c::40::r) ((4,[c],0)::cs):=by
 have hb:∀ c∈Lx.short,Lx.isLetter c=false/\Lx.isDigit c=false/\c≠34/\Lx.skip false [c,40]=[c,40]:=by decide
 obtain⟨b1,b2,b3,b4⟩:=hb c h2
 have hs:Lx.skip false (c::40::r)=c::40::r:=by
  have:=Lx.skip_self_app b4 (by simp) r
  simpa using this
 refine rd_tok (t:=40::r) ?_ hs h
 unfold Lx.tok
 simp only [b1,b2,b3,Bool.false_eq_true,if_false]
 unfold Lx.sign
 rw [if_neg (by simpa using h1)]
 simp only [h2,if_true]
theorem rd_sign2 {c e:UInt8}{r:List UInt8}{cs:List (Nat×List UInt8×Nat)}(h1:([c,e]:List UInt8)∈Lx.long)(h:Rd r cs):Rd (c::e::r) ((4,[c,e],0)::cs):=by
 have hb:∀ x∈Lx.long,∀ c e,x=[c,e]->Lx.isLetter c=false/\Lx.isDigit c=false/\c≠34/\Lx.isBlank c=false/\c≠35:=by
  intro x hx c e he
  subst he
  simp only [Lx.long,List.mem_cons,List.cons.injEq,List.not_mem_nil,or_false,and_true] at hx
  rcases hx with h|h|h|h|h|h|h|h|h<;>(obtain⟨rfl,_⟩:=h;decide)
 obtain⟨b1,b2,b3,b4,b5⟩:=hb _ h1 c e rfl
 have hs:Lx.skip false (c::e::r)=c::e::r:=by
  rw [Lx.skip]
  simp only [b4,b5,Bool.false_eq_true,if_false]
 refine rd_tok (t:=r) ?_ hs h
 unfold Lx.tok
 simp only [b1,b2,b3,Bool.false_eq_true,if_false]
 unfold Lx.sign
 rw [if_pos (by simpa using h1)]
 rfl
theorem rd_semi:Rd [59] [(4,[59],0)]:=rd_tok (t:=[]) rfl rfl rd_nil
theorem rd_blank {r:List UInt8}{cs:List (Nat×List UInt8×Nat)}(h:Rd r cs):Rd (32::r) cs:=by
 intro n hn
 simp only [List.length_cons] at hn
 exact h n (by omega)
theorem rd_f {r:List UInt8}{cs:List (Nat×List UInt8×Nat)}(h:Rd (40::r) cs):Rd (102::40::r) ((1,[102],0)::cs):=rd_tok (t:=40::r) rfl rfl h
theorem rd_w {r:List UInt8}{cs:List (Nat×List UInt8×Nat)}(h:Rd (40::r) cs):Rd (119::32::40::r) ((1,[119],0)::cs):=rd_tok (t:=32::40::r) rfl rfl (rd_blank h)
end Go.Sp
namespace Go.Sp
open Go
def endT (n:Nat):Lx.Tok:=⟨5,n,[],0⟩
theorem setup {src:ByteArray}(hs:src.size<=1000){l0:List Lx.Tok}{m:Nat}{pc qc:List (Nat×List UInt8×Nat)}(hrd:Rd src.data.toList (pc++(l0.map Lx.Tok.core++qc))) :
 ∃ (pre mid post ts:List Lx.Tok),Lx.tokens src.data.toList=.ok ts/\pre.map Lx.Tok.core=pc/\mid.map Lx.Tok.core=l0.map Lx.Tok.core/\post.map Lx.Tok.core=qc /\
  ts.map tkT=pre.map tkT++(mid.map tkT++(post.map tkT++[tkT (endT src.data.toList.length)]))/\Toks (ts.map tkT)/\Sh ((l0++[endT m]).map tkT) (ts.map tkT) (pre.length:Int) (l0.length:Int):=by
 obtain⟨l1,ht,hc⟩:=rd_tokens hrd
 obtain⟨pre,mid,post,rfl,h1,h2,h3⟩:=place hc
 have hM:=toks_of hs ht
 have hMe:((pre++(mid++post))++[endT src.data.toList.length]).map tkT=pre.map tkT++(mid.map tkT++(post.map tkT++[tkT (endT src.data.toList.length)])):=by simp
 refine⟨pre,mid,post,_,ht,h1,h2,h3,hMe,hM,?_⟩
 have:=sh_of (pre:=pre.map tkT) (l0:=l0.map tkT) (mid:=mid.map tkT) (post:=post.map tkT++[tkT (endT src.data.toList.length)]) (u:=tkT (endT m)) rfl (cores_tk h2) (by rw [<- hMe];exact hM.len)
 rw [List.length_map,List.length_map] at this
 rw [List.map_append,List.map_singleton]
 have e:((pre++(mid++post))++[(⟨5,src.data.toList.length,[],0⟩:Lx.Tok)]).map tkT=_:=hMe
 rw [e]
 exact this
end Go.Sp
namespace Go.Sp
open Go
theorem tk_of {o:Lx.Tok}{k n:Nat}{s:List UInt8}(h:o.core=(k,s,n)):(tkT o).Kind=(k:Int)/\(tkT o).S=⟨⟨s⟩⟩:=by
 simp only [Lx.Tok.core,Prod.mk.injEq] at h
 exact⟨by show ((o.kind:Nat):Int)=_;rw [h.1],by show (⟨⟨o.s⟩⟩:ByteArray)=_;rw [h.2.1]⟩
theorem isS_tk {o:Lx.Tok}{n:Nat}{s:List UInt8}(h:o.core=(4,s,n))(x:ByteArray):isS (tkT o) x=decide ((⟨⟨s⟩⟩:ByteArray)=x):=by
 unfold isS
 rw [(tk_of h).1,(tk_of h).2];rfl
theorem core2 {l:List Lx.Tok}{a b:Nat×List UInt8×Nat}(h:l.map Lx.Tok.core=[a,b]):∃ x y,l=[x,y]/\x.core=a/\y.core=b:=by
 match l,h with
 | [x,y],h =>
  simp only [List.map_cons,List.map_nil,List.cons.injEq,and_true] at h
  exact⟨x,y,rfl,h.1,h.2⟩
theorem nest_sign {a src:ByteArray}(hs:src.size<=1000){l0:List Lx.Tok}{m:Nat}(hr:Rd a.data.toList (l0.map Lx.Tok.core)){g:ref32_Got}(neg:Bool)
 (hg:Ev (fun n=>ref32_expr n ((l0++[endT m]).map tkT) 0 1) g) (g0:g.E=0) (gt:g.To=(l0.length:Int)) (he:src.data.toList=(bif neg then 45 else 33)::40::(a.data.toList++10::[41])) :
 ∃ x pr,Ev (fun n=>parse_Expr n src) (x,pr)/\FineE x/\(pr.E=2∨pr.E=0/\stE x=stE ⟨bif neg then 6 else 5,0,⟨#[]⟩,[g.X],0⟩):=by
 have hrd:Rd src.data.toList ([(4,[bif neg then 45 else 33],0),(4,[40],0)]++(l0.map Lx.Tok.core++[(4,[41],0)])):=by
  rw [he]
  cases neg with
  |true =>
   show Rd _ ((4,[45],0)::(4,[40],0)::(l0.map Lx.Tok.core++[(4,[41],0)]))
   exact rd_sign1 (by decide) (by decide) (rd_open (rd_join hr (rd_shut rd_nil)))
  |false =>
   show Rd _ ((4,[33],0)::(4,[40],0)::(l0.map Lx.Tok.core++[(4,[41],0)]))
   exact rd_sign1 (by decide) (by decide) (rd_open (rd_join hr (rd_shut rd_nil)))
 obtain⟨pre,mid,post,ts,ht,h1,h2,h3,hMe,hM,S⟩:=setup (m:=m) hs hrd
 obtain⟨q,o,rfl,hq,ho⟩:=core2 h1
 obtain⟨u,rfl,hu⟩:=List.map_eq_singleton_iff.1 h3
 have hl:mid.length=l0.length:=by have:=congrArg List.length h2;simpa using this
 have kq:gi (ts.map tkT) 0=some (tkT q):=by rw [hMe];rfl
 have ko:gi (ts.map tkT) 1=some (tkT o):=by rw [hMe];rfl
 have ku:gi (ts.map tkT) ((l0.length:Int)+(1+1))=some (tkT u):=by
  rw [hMe,show ((l0.length:Int)+(1+1))=((l0.length+2:Nat):Int) by omega,gi_nat,<- hl]
  simp
 have ke:gi (ts.map tkT) ((l0.length:Int)+(1+1)+1)=some (tkT (endT src.data.toList.length)):=by
  rw [hMe,show ((l0.length:Int)+(1+1)+1)=((l0.length+3:Nat):Int) by omega,gi_nat,<- hl]
  simp
 have hA:=paren_atom (d:=2) (p:=1) hM S hg g0 gt ko (isS_tk ho _) ku (tk_of hu).1 (tk_of hu).2 (by decide)
 have m2:=eh_minus ko (by rw [isS_tk ho];rfl) hA
 have fo:∀ no,fst (tkT o) 2 no=0:=by intro no;unfold fst beg;rw [(tk_of ho).1,(tk_of ho).2];cases no<;>rfl
 have l0':∀ v:Int,1<=v->(lev (tkT (endT src.data.toList.length))).N≠v:=by intro v hv;rw [lev_end (show (5:Int)≠4 by decide)];show (0:Int)≠v;omega
 have h5:isS (tkT (endT src.data.toList.length)) ⟨#[63]⟩=false:=isS_kind5 (show (5:Int)≠4 by decide) _
 cases neg with
 |true =>
  have m1:=eh_neg hM.len kq (d:=1) (by decide) (isS_tk hq _) ko (fo _) m2
  have b4:=eh_to4 ke (l0' 4 (by decide)) (eh_to5 ke (l0' 5 (by decide)) (eh_to6 ke (l0' 6 (by decide)) (eh_7 m1)))
  exact expr_of hs ht (eh_expr kq (by unfold fst beg;rw [(tk_of hq).1,(tk_of hq).2];rfl) (eh_to1 ke (l0' 1 (by decide)) (eh_to2 kq ke (by rw [isS_tk hq];rfl) (l0' 2 (by decide)) b4)) ke h5) ke rfl
 |false =>
  have b4:=eh_to4 ke (l0' 4 (by decide)) (eh_to5 ke (l0' 5 (by decide)) (eh_to6 ke (l0' 6 (by decide)) (eh_7 m2)))
  have hb:EH (fun n=>ref32_bang n (ts.map tkT) (0+1) (1+1)) ((l0.length:Int)+(1+1)+1) g.X:=by
   refine EH.step (fun n=>ref32_bang.eq_2 (n:=n) _ _ _) ?_
   have e:ref32_sign (ts.map tkT) 1 ⟨#[33]⟩=some (isS (tkT o) ⟨#[33]⟩):=sign_of ko
   have e2:isS (tkT o) ⟨#[33]⟩=false:=by rw [isS_tk ho];rfl
   simp only [Int.zero_add,e,e2,Option.bind_some,Bool.not_false,cond_true]
   exact b4.id
  have g1:=eh_not hM.len kq (d:=1) (by decide) (isS_tk hq _) ko (fo _) hb
  have b3:EH (fun n=>ref32_binary n (ts.map tkT) 0 3 1) ((l0.length:Int)+(1+1)+1) ⟨5,0,⟨#[]⟩,[g.X],0⟩:=EH.step (fun n=>ref32_binary.eq_2 (n:=n) _ _ _ _) g1.id
  exact expr_of hs ht (eh_expr kq (by unfold fst beg;rw [(tk_of hq).1,(tk_of hq).2];rfl) (eh_to1 ke (l0' 1 (by decide)) (eh_up (by decide) b3 ke (l0' 2 (by decide)))) ke h5) ke rfl
end Go.Sp
