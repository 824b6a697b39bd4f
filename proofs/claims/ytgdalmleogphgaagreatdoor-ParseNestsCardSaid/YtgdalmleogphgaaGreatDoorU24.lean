/-
  An operator between two expressions in parentheses. No program. A call of two expressions. No program. A form with one expression in parentheses. No program. ParseNests: what is computed is true. No program.
-/
import Derived.Test.YtgdalmleogphgaaGreatDoorU23
namespace Go.Sp
open Go
theorem eh_span {M:List api_Token}{k d z:Int}{t tt:api_Token}{X:api_Expr}(hk:gi M k=some t)(ht:gi M z=some tt)(hb:isS t ⟨#[33]⟩=false) :
 ∀ (m:Nat) (v w:Int),1<=v->w<=7->v+(m:Int)=w->(∀ u,v<=u->u<w->(lev tt).N≠u)->EH (fun n=>ref32_binary n M k w d) z X->EH (fun n=>ref32_binary n M k v d) z X
 |0,v,w,_,_,e,_,h=>by
  obtain rfl:v=w:=by omega
  exact h
 |m+1,v,w,h1,h2,e,hn,h=>by
  have h':=eh_span hk ht hb m (v+1) w (by omega) h2 (by omega) (fun u a b=>hn u (by omega) b) h
  by_cases h3:v=3
  . cases h3;exact eh_3 hk hb h'
  . exact eh_up (by omega) h' ht (hn v (by omega) (by omega))
theorem find_tk {o:Lx.Tok}{n:Nat}{s:List UInt8}(h:o.core=(4,s,n)):∀ (z:List (ByteArray×Int)) (j:Nat),findS (tkT o) z j=findS ⟨4,0,⟨⟨s⟩⟩,0⟩ z j
 | [],_=>rfl
 |(x,v)::r,j=>by
  have ih:=find_tk h r (j+1)
  unfold findS
  rw [isS_tk h,ih];rfl
theorem lev_tk {o:Lx.Tok}{n:Nat}{s:List UInt8}(h:o.core=(4,s,n)):lev (tkT o)=lev ⟨4,0,⟨⟨s⟩⟩,0⟩:=find_tk h _ _
def opw:List (List UInt8):=[[42],[47],[37],[43],[45],[61,61],[33,61],[60],[60,61],[62],[62,61],[38,38],[124,124]]
theorem op_lev:∀ q,(h:q<opw.length)->lev ⟨4,0,⟨⟨opw[q]⟩⟩,0⟩=⟨(lev ⟨4,0,⟨⟨opw[q]⟩⟩,0⟩).N,7+(q:Int)⟩/\1<=(lev ⟨4,0,⟨⟨opw[q]⟩⟩,0⟩).N/\(lev ⟨4,0,⟨⟨opw[q]⟩⟩,0⟩).N<=6/\(lev ⟨4,0,⟨⟨opw[q]⟩⟩,0⟩).N≠3
 |0,_|1,_|2,_|3,_|4,_|5,_|6,_|7,_|8,_|9,_|10,_|11,_|12,_=>⟨rfl,of_decide_eq_true rfl,of_decide_eq_true rfl,of_decide_eq_true rfl⟩
 |q+13,h=>absurd h (by show ¬ q+13<13;omega)
theorem op_rd {s:List UInt8}(hs:s∈opw){r:List UInt8}{cs:List (Nat×List UInt8×Nat)}(h:Rd (40::r) cs):Rd (s++40::r) ((4,s,0)::cs):=by
 simp only [opw,List.mem_cons,List.not_mem_nil,or_false] at hs
 rcases hs with rfl|rfl|rfl|rfl|rfl|rfl|rfl|rfl|rfl|rfl|rfl|rfl|rfl
 all_goals first
  |exact rd_sign1 (by decide) (by decide) h
  |exact rd_sign2 (by decide) h
theorem core3 {l:List Lx.Tok}{a b c:Nat×List UInt8×Nat}(h:l.map Lx.Tok.core=[a,b,c]):∃ x y z,l=[x,y,z]/\x.core=a/\y.core=b/\z.core=c:=by
 match l,h with
 | [x,y,z],h =>
  simp only [List.map_cons,List.map_nil,List.cons.injEq,and_true] at h
  exact⟨x,y,z,rfl,h.1,h.2.1,h.2.2⟩
theorem gi_mid {α:Type}{M:List α}{i:Int}(x y:List α)(t:α)(h:M=x++t::y)(hi:i=(x.length:Int)):gi M i=some t:=by
 rw [h,hi,gi_nat];simp
theorem nest_op {a b src:ByteArray}(hs:src.size<=1000){la lb:List Lx.Tok}{ma mb:Nat}(ra:Rd a.data.toList (la.map Lx.Tok.core))(rb:Rd b.data.toList (lb.map Lx.Tok.core)){ga gb:ref32_Got}
 (ha:Ev (fun n=>ref32_expr n ((la++[endT ma]).map tkT) 0 1) ga) (a0:ga.E=0) (at':ga.To=(la.length:Int)) (hb:Ev (fun n=>ref32_expr n ((lb++[endT mb]).map tkT) 0 1) gb) (b0:gb.E=0) (bt:gb.To=(lb.length:Int))
 {q:Nat} (hq:q<opw.length) (he:src.data.toList=40::(a.data.toList++10::41::(opw[q]++40::(b.data.toList++10::[41])))) :
 ∃ x pr,Ev (fun n=>parse_Expr n src) (x,pr)/\FineE x/\(pr.E=2∨pr.E=0/\stE x=stE ⟨7+(q:Int),0,⟨#[]⟩,[ga.X,gb.X],0⟩):=by
 have hrd0:Rd src.data.toList ((4,[40],0)::(la.map Lx.Tok.core++((4,[41],0)::(4,opw[q],0)::(4,[40],0)::(lb.map Lx.Tok.core++[(4,[41],0)])))):=by
  rw [he]
  exact rd_open (rd_join ra (rd_shut (op_rd (List.getElem_mem _) (rd_open (rd_join rb (rd_shut rd_nil))))))
 have h1:Rd src.data.toList ([(4,[40],0)]++(la.map Lx.Tok.core++([(4,[41],0),(4,opw[q],0),(4,[40],0)]++(lb.map Lx.Tok.core++[(4,[41],0)])))):=hrd0
 have h2:Rd src.data.toList (([(4,[40],0)]++(la.map Lx.Tok.core++[(4,[41],0),(4,opw[q],0),(4,[40],0)]))++(lb.map Lx.Tok.core++[(4,[41],0)])):=by
  have e:=hrd0
  simp only [List.cons_append,List.nil_append,List.append_assoc] at e ⊢
  exact e
 obtain⟨pre,mid,post,ts,ht,p1,p2,p3,hMe,hM,S⟩:=setup (m:=ma) hs h1
 obtain⟨pre',mid',post',ts',ht',q1,q2,q3,hMe',hM',S'⟩:=setup (m:=mb) hs h2
 have ets:ts'=ts:=Except.ok.inj (ht'.symm.trans ht)
 rw [ets] at S'
 clear hMe' hM' ht'
 obtain⟨o,rfl,ho⟩:=List.map_eq_singleton_iff.1 p1
 obtain⟨r1,r2,rfl,hr1,hr2⟩:=List.map_eq_append_iff.1 p3
 obtain⟨u,v,w,rfl,hu,hv,hw⟩:=core3 hr1
 obtain⟨mid2,r3,rfl,hm2,hr3⟩:=List.map_eq_append_iff.1 hr2
 obtain⟨y,rfl,hy⟩:=List.map_eq_singleton_iff.1 hr3
 have hl:mid.length=la.length:=by have:=congrArg List.length p2;simpa using this
 have hl2:mid2.length=lb.length:=by have:=congrArg List.length hm2;simpa using this
 have hl3:(pre'.length:Int)=(la.length:Int)+4:=by
  have:=congrArg List.length q1
  simp only [List.length_map,List.length_append,List.length_cons,List.length_nil] at this
  omega
 rw [hl3] at S'
 have k0:gi (ts.map tkT) 0=some (tkT o):=by rw [hMe];rfl
 have ku:gi (ts.map tkT) ((la.length:Int)+(0+1))=some (tkT u):=by
  rw [hMe,show ((la.length:Int)+(0+1))=((la.length+1:Nat):Int) by omega,gi_nat,<- hl]
  simp
 have kv:gi (ts.map tkT) ((la.length:Int)+(0+1)+1)=some (tkT v):=by
  rw [hMe,show ((la.length:Int)+(0+1)+1)=((la.length+2:Nat):Int) by omega,gi_nat,<- hl]
  simp
 have kw:gi (ts.map tkT) ((la.length:Int)+(0+1)+1+1)=some (tkT w):=by
  rw [hMe,show ((la.length:Int)+(0+1)+1+1)=((la.length+3:Nat):Int) by omega,gi_nat,<- hl]
  simp
 have ky:gi (ts.map tkT) ((lb.length:Int)+((la.length:Int)+(0+1)+1+1+1))=some (tkT y):=by
  exact gi_mid (tkT o::(mid.map tkT++tkT u::tkT v::tkT w::mid2.map tkT)) [tkT (endT src.data.toList.length)] (tkT y) (by rw [hMe];simp) (by simp only [List.length_cons,List.length_append,List.length_map];omega)
 have ke:gi (ts.map tkT) ((lb.length:Int)+((la.length:Int)+(0+1)+1+1+1)+1)=some (tkT (endT src.data.toList.length)):=by
  exact gi_mid (tkT o::(mid.map tkT++tkT u::tkT v::tkT w::(mid2.map tkT++[tkT y]))) [] (tkT (endT src.data.toList.length)) (by rw [hMe];simp) (by simp only [List.length_cons,List.length_append,List.length_map,List.length_nil];omega)
 have hA:=paren_atom (d:=1) hM S ha a0 at' k0 (isS_tk ho _) ku (tk_of hu).1 (tk_of hu).2 (by decide)
 have hB:=paren_atom (p:=(la.length:Int)+(0+1)+1+1) (d:=1) hM (by rw [show ((la.length:Int)+(0+1)+1+1+1)=(la.length:Int)+4 by omega];exact S') hb b0 bt kw (isS_tk hw _) ky (tk_of hy).1 (tk_of hy).2 (by decide)
 have l0:(lev (tkT (endT src.data.toList.length))).N=0:=by rw [lev_end (show (5:Int)≠4 by decide)]
 have h5:isS (tkT (endT src.data.toList.length)) ⟨#[63]⟩=false:=isS_kind5 (show (5:Int)≠4 by decide) _
 have lo:=op_lev q hq
 rw [<- lev_tk hv] at lo
 obtain⟨l1,l2,l3,l4⟩:=lo
 generalize hlv:(lev (tkT v)).N=lv at *
 have no33:∀ {x:Lx.Tok},x.core=(4,[40],0)->isS (tkT x) ⟨#[33]⟩=false:=fun h=>by rw [isS_tk h];rfl
 have no45:∀ {x:Lx.Tok},x.core=(4,[40],0)->isS (tkT x) ⟨#[45]⟩=false:=fun h=>by rw [isS_tk h];rfl
 have h7:=eh_span k0 kv (no33 ho) (6-lv).toNat (lv+1) 7 (by omega) (by omega) (by omega) (fun u a _=>by rw [hlv];omega) (eh_to7 k0 (no45 ho) hA)
 have g7:=eh_span kw ke (no33 hw) (6-lv).toNat (lv+1) 7 (by omega) (by omega) (by omega) (fun u a _=>by rw [l0];omega) (eh_to7 kw (no45 hw) hB)
 have hE:=eh_bin hM.len ⟨l2,l3,l4⟩ h7 kv hlv g7 ke (by rw [l0];omega)
 rw [show (lev (tkT v)).Op=7+(q:Int) by rw [l1]] at hE
 have h1:=eh_span k0 ke (no33 ho) (lv-1).toNat 1 lv (by omega) (by omega) (by omega) (fun u a _=>by rw [l0];omega) hE
 exact expr_of hs ht (eh_expr k0 (by unfold fst beg;rw [(tk_of ho).1,(tk_of ho).2];rfl) h1 ke h5) ke rfl
end Go.Sp
namespace Go.Sp
open Go
theorem first_in {L M:List api_Token}{s e c:Int}(S:Sh L M s e)(hc:0<=c/\c<=9)(hM:Toks M){g:ref32_Got}(hg:Ev (fun n=>ref32_expr n L 0 1) g)(g0:g.E=0)(ge:g.To=e)(hn:Neu M (e+s)) :
 ∃ t,gi M s=some t/\fst t (1+c) true=0:=by
 obtain⟨r1,_,_⟩:=sim_ev S hc hM (by decide) hg g0 (.inr hn)
 obtain⟨n,h⟩:=hg.get
 obtain⟨t,ht,hf⟩:=fst_some (expr_first h g0)
 obtain⟨t',h',k1,k2,_⟩:=S.same 0 t (by omega) ht
 rw [Int.zero_add] at h'
 refine⟨t',h',?_⟩
 have hf:fst t 1 true=0:=hf.symm
 unfold fst beg at hf ⊢
 rw [k1,k2]
 split at hf
 . cases hf
 . rename_i h3
   rw [if_neg h3,if_neg (by omega)]
theorem nest_call {a b src:ByteArray}(hs:src.size<=1000){la lb:List Lx.Tok}{ma mb:Nat}(ra:Rd a.data.toList (la.map Lx.Tok.core))(rb:Rd b.data.toList (lb.map Lx.Tok.core)){ga gb:ref32_Got}
 (ha:Ev (fun n=>ref32_expr n ((la++[endT ma]).map tkT) 0 1) ga) (a0:ga.E=0) (at':ga.To=(la.length:Int)) (hb:Ev (fun n=>ref32_expr n ((lb++[endT mb]).map tkT) 0 1) gb) (b0:gb.E=0) (bt:gb.To=(lb.length:Int))
 (he:src.data.toList=102::40::(a.data.toList++10::44::(b.data.toList++10::[41]))) :
 ∃ x pr,Ev (fun n=>parse_Expr n src) (x,pr)/\FineE x/\(pr.E=2∨pr.E=0/\stE x=stE ⟨4,0,⟨#[102]⟩,[ga.X,gb.X],0⟩):=by
 have hrd0:Rd src.data.toList ((1,[102],0)::(4,[40],0)::(la.map Lx.Tok.core++((4,[44],0)::(lb.map Lx.Tok.core++[(4,[41],0)])))):=by
  rw [he]
  exact rd_f (rd_open (rd_join ra (rd_comma (rd_join rb (rd_shut rd_nil)))))
 have h1:Rd src.data.toList ([(1,[102],0),(4,[40],0)]++(la.map Lx.Tok.core++([(4,[44],0)]++(lb.map Lx.Tok.core++[(4,[41],0)])))):=hrd0
 have h2:Rd src.data.toList (([(1,[102],0),(4,[40],0)]++(la.map Lx.Tok.core++[(4,[44],0)]))++(lb.map Lx.Tok.core++[(4,[41],0)])):=by
  have e:=hrd0
  simp only [List.cons_append,List.nil_append,List.append_assoc] at e ⊢
  exact e
 obtain⟨pre,mid,post,ts,ht,p1,p2,p3,hMe,hM,S⟩:=setup (m:=ma) hs h1
 obtain⟨pre',mid',post',ts',ht',q1,q2,q3,hMe',hM',S'⟩:=setup (m:=mb) hs h2
 have ets:ts'=ts:=Except.ok.inj (ht'.symm.trans ht)
 rw [ets] at S'
 clear hMe' hM' ht'
 obtain⟨f,o,rfl,hf,ho⟩:=core2 p1
 obtain⟨r1,r2,rfl,hr1,hr2⟩:=List.map_eq_append_iff.1 p3
 obtain⟨u,rfl,hu⟩:=List.map_eq_singleton_iff.1 hr1
 obtain⟨mid2,r3,rfl,hm2,hr3⟩:=List.map_eq_append_iff.1 hr2
 obtain⟨y,rfl,hy⟩:=List.map_eq_singleton_iff.1 hr3
 have hl:mid.length=la.length:=by have:=congrArg List.length p2;simpa using this
 have hl2:mid2.length=lb.length:=by have:=congrArg List.length hm2;simpa using this
 have hl3:(pre'.length:Int)=(la.length:Int)+3:=by
  have:=congrArg List.length q1
  simp only [List.length_map,List.length_append,List.length_cons,List.length_nil] at this
  omega
 rw [hl3] at S'
 have S2:Sh ((la++[endT ma]).map tkT) (ts.map tkT) 2 (la.length:Int):=S
 have k0:gi (ts.map tkT) 0=some (tkT f):=by rw [hMe];rfl
 have k1:gi (ts.map tkT) (0+1)=some (tkT o):=by rw [hMe];rfl
 have ku:gi (ts.map tkT) ((la.length:Int)+2)=some (tkT u):=by
  rw [hMe,show ((la.length:Int)+2)=((la.length+2:Nat):Int) by omega,gi_nat,<- hl]
  simp
 have ky:gi (ts.map tkT) ((lb.length:Int)+((la.length:Int)+3))=some (tkT y):=by
  exact gi_mid (tkT f::tkT o::(mid.map tkT++tkT u::mid2.map tkT)) [tkT (endT src.data.toList.length)] (tkT y) (by rw [hMe];simp) (by simp only [List.length_cons,List.length_append,List.length_map];omega)
 have ke:gi (ts.map tkT) ((lb.length:Int)+((la.length:Int)+3)+1)=some (tkT (endT src.data.toList.length)):=by
  exact gi_mid (tkT f::tkT o::(mid.map tkT++tkT u::(mid2.map tkT++[tkT y]))) [] (tkT (endT src.data.toList.length)) (by rw [hMe];simp) (by simp only [List.length_cons,List.length_append,List.length_map,List.length_nil];omega)
 have nu:=neu_comma ku (tk_of hu).1 (tk_of hu).2
 have ny:=neu_shut ky (tk_of hy).1 (tk_of hy).2
 obtain⟨ta,kta,fta⟩:=first_in S2 (c:=1) (by decide) hM ha a0 at' nu
 obtain⟨tb,ktb,ftb⟩:=first_in S' (c:=1) (by decide) hM hb b0 bt ny
 have hA:=sim_eh S2 (c:=1) (by decide) hM (by decide) ha a0 (.inr nu)
 have hB:=sim_eh S' (c:=1) (by decide) hM (by decide) hb b0 (.inr ny)
 rw [at',Int.zero_add] at hA
 rw [bt,Int.zero_add] at hB
 have e3:(la.length:Int)+3=(la.length:Int)+2+1:=by omega
 have hC:=eh_call (d:=1) hM.len k0 (by decide) (tk_of hf).1 k1 (isS_tk ho _) kta fta hA ku (isS_tk hu _) (by rw [<- e3];exact ktb) ftb (by rw [<- e3];exact hB) ky (isS_tk hy _)
 rw [(tk_of hf).2] at hC
 have nk:∀ s,isS (tkT f) s=false:=isS_kind5 (by rw [(tk_of hf).1];decide)
 exact expr_of hs ht (eh_all k0 ke (show (5:Int)≠4 by decide) (nk _) (nk _) (by unfold fst beg;rw [(tk_of hf).1];rfl) hC) ke rfl
end Go.Sp
namespace Go.Sp
open Go
theorem isS_eqS {t:api_Token}{s:ByteArray}(h4:t.Kind=4)(hs:t.S=s)(x:ByteArray):isS t x=decide (s=x):=by
 unfold isS;rw [h4,hs];rfl
theorem arg_ev {L M:List api_Token}{k e:Int}(hM:Toks M)(S:Sh L M (k+1) e){g:ref32_Got}(hg:Ev (fun n=>ref32_expr n L 0 1) g)(g0:g.E=0)(ge:g.To=e){t tt:api_Token}
 (hk:gi M k=some t) (h4:t.Kind=4) (hs:t.S=⟨#[40]⟩) (ht:gi M (e+(k+1))=some tt) (t4:tt.Kind=4) (ts:tt.S=⟨#[41]⟩) :
 ∃ X,stE X=stE g.X/\Ev (fun n=>ref32_arg n M k) ⟨⟨5,0,⟨#[]⟩,X,t.At⟩,e+(k+1)+1,0⟩:=by
 have hr:=(drop_of_gi hk).2
 have hr2:=(drop_of_gi ht).2
 have hl:=hM.len
 have w1:IntKind.i64.wrap (k+1)=k+1:=by rw [wrap_id]<;>omega
 have w2:IntKind.i64.wrap (e+(k+1)+1)=e+(k+1)+1:=by rw [wrap_id]<;>omega
 obtain⟨_,_,⟨X,z,u⟩,h1,h2⟩:=sim_ev S (c:=0) (by decide) hM (by decide) hg g0 (.inr (neu_shut ht t4 ts))
 rcases h2 with⟨_,h⟩|⟨e1,e2,e3⟩
 . exact absurd rfl h
 obtain rfl:u=0:=e1
 obtain rfl:z=e+(k+1):=by have:z=g.To+(k+1):=e2;rw [this,ge]
 rw [Int.zero_add,Int.add_zero] at h1
 refine⟨X,e3,?_⟩
 unfold ref32_arg
 have e1:ref32_sign M k ⟨#[45,62]⟩=some (isS t ⟨#[45,62]⟩):=sign_of hk
 have e2:ref32_sign M k ⟨#[45]⟩=some (isS t ⟨#[45]⟩):=sign_of hk
 have e4:ref32_sign M (e+(k+1)) ⟨#[41]⟩=some (isS tt ⟨#[41]⟩):=sign_of ht
 rw [isS_eqS h4 hs] at e1 e2
 rw [isS_eqS t4 ts] at e4
 simp only [hk,Option.bind_some,h4,e1,e2,w1,show decide ((1:Int)<=4)=true from rfl,show decide ((4:Int)<=3)=false from rfl,show decide ((⟨#[40]⟩:ByteArray)=⟨#[45,62]⟩)=false from rfl,show decide ((⟨#[40]⟩:ByteArray)=⟨#[45]⟩)=false from rfl,cond_true,cond_false]
 refine Ev.bind h1 (Ev.of fun n=>?_)
 simp only [e4,bne_self_eq_false,cond_false,Option.bind_some,decide_true,Bool.not_true,w2]
theorem form_ev {M:List api_Token}(hM:Toks M){t o s:api_Token}{A:api_Arg}{z:Int}(hk:gi M 0=some t)(h1:t.Kind=1)(ho:gi M 1=some o)(o4:o.Kind=4)(os:o.S=⟨#[40]⟩)
 (hA:Ev (fun n=>ref32_arg n M 1) ⟨A,z,0⟩) (hz:gi M z=some s) (s4:s.Kind=4) (ss:s.S=⟨#[59]⟩):Ev (fun n=>ref32_form n M 0 1 0) ⟨⟨t.S,[A],[],t.At⟩,z+1,1,0⟩:=by
 have hr:=(drop_of_gi hz).2
 have hl:=hM.len
 have w1:IntKind.i64.wrap (0+1)=1:=rfl
 have w2:IntKind.i64.wrap (z+1)=z+1:=by rw [wrap_id]<;>omega
 refine Ev.step (fun n=>ref32_form.eq_2 (n:=n) _ _ _ _) ?_
 simp only [hk,Option.bind_some,h1,show ((1:Int) != 1)=false from rfl,cond_false,show decide ((30:Int)<1)=false from rfl,show decide ((2000:Int)<=0)=false from rfl,w1]
 refine Ev.bind (a:=.inr ⟨⟨t.S,[A],[],t.At⟩,z+1,1,0⟩) ?_ ?_
 rotate_left
 . exact Ev.pure
 refine Ev.step (fun n=>ref32_form_l2.eq_2 (n:=n) _ _ _ _ _) ?_
 have e1:ref32_sign M 1 ⟨#[59]⟩=some (isS o ⟨#[59]⟩):=sign_of ho
 have e2:ref32_sign M 1 ⟨#[123]⟩=some (isS o ⟨#[123]⟩):=sign_of ho
 have e3:ref32_sign M 1 ⟨#[45,62]⟩=some (isS o ⟨#[45,62]⟩):=sign_of ho
 have e4:ref32_begins M 1=some (beg o):=rbegins_of ho
 have e5:beg o=true:=by unfold beg;rw [o4,os];rfl
 have e6:ref32_sign M z ⟨#[59]⟩=some (isS s ⟨#[59]⟩):=sign_of hz
 rw [isS_eqS o4 os] at e1 e2 e3
 rw [isS_eqS s4 ss] at e6
 simp only [e1,e2,e3,e4,e5,Option.bind_some,show decide ((⟨#[40]⟩:ByteArray)=⟨#[59]⟩)=false from rfl,show decide ((⟨#[40]⟩:ByteArray)=⟨#[123]⟩)=false from rfl,cond_false,Bool.not_true,List.length_nil,show (((0:Nat):Int) == 40)=false from rfl]
 refine Ev.bind hA ?_
 simp only [bne_self_eq_false,cond_false,Option.bind_some,show gapp 105 ([]:List api_Arg) [A]=some [A] from rfl]
 refine Ev.step (fun n=>ref32_form_l2.eq_2 (n:=n) _ _ _ _ _) ?_
 simp only [e6,Option.bind_some,decide_true,cond_true,w1,w2]
 exact Ev.pure
theorem nest_form {a src:ByteArray}(hs:src.size<=1000){l0:List Lx.Tok}{m:Nat}(hr:Rd a.data.toList (l0.map Lx.Tok.core)){g:ref32_Got}
 (hg:Ev (fun n=>ref32_expr n ((l0++[endT m]).map tkT) 0 1) g) (g0:g.E=0) (gt:g.To=(l0.length:Int)) (he:src.data.toList=119::32::40::(a.data.toList++10::41::[59])) :
 ∃ f x pr,Ev (fun n=>parse_Forms n src) ([f],pr)/\pr.E=0/\f.Args=[x]/\FineE x.E/\stE x.E=stE g.X:=by
 have hrd:Rd src.data.toList ([(1,[119],0),(4,[40],0)]++(l0.map Lx.Tok.core++[(4,[41],0),(4,[59],0)])):=by
  rw [he]
  show Rd _ ((1,[119],0)::(4,[40],0)::(l0.map Lx.Tok.core++[(4,[41],0),(4,[59],0)]))
  exact rd_w (rd_open (rd_join hr (rd_shut rd_semi)))
 obtain⟨pre,mid,post,ts,ht,h1,h2,h3,hMe,hM,S⟩:=setup (m:=m) hs hrd
 obtain⟨w,o,rfl,hw,ho⟩:=core2 h1
 obtain⟨u,v,rfl,hu,hv⟩:=core2 h3
 have S2:Sh ((l0++[endT m]).map tkT) (ts.map tkT) (1+1) (l0.length:Int):=S
 have hl:mid.length=l0.length:=by have:=congrArg List.length h2;simpa using this
 have k0:gi (ts.map tkT) 0=some (tkT w):=by rw [hMe];rfl
 have k1:gi (ts.map tkT) 1=some (tkT o):=by rw [hMe];rfl
 have ku:gi (ts.map tkT) ((l0.length:Int)+(1+1))=some (tkT u):=by
  rw [hMe,show ((l0.length:Int)+(1+1))=((l0.length+2:Nat):Int) by omega,gi_nat,<- hl]
  simp
 have kv:gi (ts.map tkT) ((l0.length:Int)+(1+1)+1)=some (tkT v):=by
  rw [hMe,show ((l0.length:Int)+(1+1)+1)=((l0.length+3:Nat):Int) by omega,gi_nat,<- hl]
  simp
 have ke:gi (ts.map tkT) ((l0.length:Int)+(1+1)+1+1)=some (tkT (endT src.data.toList.length)):=by
  rw [hMe,show ((l0.length:Int)+(1+1)+1+1)=((l0.length+4:Nat):Int) by omega,gi_nat,<- hl]
  simp
 obtain⟨X,hX,hA⟩:=arg_ev hM S2 hg g0 gt k1 (tk_of ho).1 (tk_of ho).2 ku (tk_of hu).1 (tk_of hu).2
 have hF:=form_ev hM k0 (tk_of hw).1 k1 (tk_of ho).1 (tk_of ho).2 hA kv (tk_of hv).1 (tk_of hv).2
 have hT:refTokens src=some ⟨ts.map tkT,⟨0,0⟩⟩:=by
  have h3:src.data.toList.length=src.size:=rfl
  unfold refTokens lexPlain
  rw [if_neg (by omega),ht]
 have hR:Ev (fun n=>ref32_Forms n src) ⟨[⟨(tkT w).S,[⟨5,0,⟨#[]⟩,X,(tkT o).At⟩],[],(tkT w).At⟩],⟨0,0,⟨#[]⟩,[],0⟩,⟨0,0⟩⟩:=by
  unfold ref32_Forms
  simp only [hT,Option.bind_some,bne_self_eq_false,cond_false]
  refine Ev.bind (a:=.inl [⟨(tkT w).S,[⟨5,0,⟨#[]⟩,X,(tkT o).At⟩],[],(tkT w).At⟩]) ?_ ?_
  rotate_left
  . exact Ev.pure
  refine Ev.step (fun n=>ref32_Forms_l1.eq_2 (n:=n) _ _ _ _) ?_
  simp only [k0,Option.bind_some,show ((tkT w).Kind != 5)=true by rw [(tk_of hw).1];rfl,cond_true]
  refine Ev.bind hF ?_
  simp only [bne_self_eq_false,cond_false,Option.bind_some,show ∀ y:api_Form,gapp 73 ([]:List api_Form) [y]=some [y] from fun _=>rfl]
  refine Ev.step (fun n=>ref32_Forms_l1.eq_2 (n:=n) _ _ _ _) ?_
  simp only [ke,Option.bind_some,show ((tkT (endT src.data.toList.length)).Kind != 5)=false from rfl,cond_false]
  exact Ev.pure
 obtain⟨l,pr,x,b1,b2,fl,_,_⟩:=bothForms src
 have e:=b2.uniq hR
 have e1:l=_:=congrArg ref32_Read.L e
 have e2:pr=_:=congrArg ref32_Read.P e
 subst e1 e2
 refine⟨_,_,_,b1,rfl,rfl,?_,hX⟩
 cases fl.2 _ (List.mem_singleton.2 rfl) with
 |mk f ha hx hb hh=>exact hx _ (List.mem_singleton.2 rfl)
end Go.Sp
namespace Go.Sp
open Go
theorem gcat_le {x y:ByteArray}{m n:Nat}(hx:x.size<=m)(hy:y.size<=n)(h:m+n<=1000):∃ z,gcat x y=some z/\z.size<=m+n/\z.data.toList=x.data.toList++y.data.toList:=by
 refine⟨x++y,by unfold gcat;rw [if_pos (by omega)],by rw [ByteArray.size_append];omega,?_⟩
 rw [ByteArray.data_append,Array.toList_append]
theorem last5:∀ {l:List Lx.Tok},Shape l->∀ (j:Nat) (t:Lx.Tok),l[j]?=some t->t.kind=5->j+1=l.length
 |_,.one n,j,t,h,_=>by
  cases j with
  |zero=>rfl
  |succ j=>cases h
 |_,.cons u l h5 _ _ h',j,t,h,k5=>by
  cases j with
  |zero=>cases h;exact absurd k5 h5
  |succ j =>
   have:=last5 h' j t h k5
   rw [List.length_cons];omega
theorem to_end {src:ByteArray}{l0:List Lx.Tok}{n:Nat}{g:ref32_Got}(h:Lx.tokens src.data.toList=.ok (l0++[⟨5,n,[],0⟩]))(hu:∃ u,gi ((l0++[(⟨5,n,[],0⟩:Lx.Tok)]).map tkT) g.To=some u/\u.Kind=5):g.To=(l0.length:Int):=by
 obtain⟨u,hu,h5⟩:=hu
 obtain⟨j,hj,h2,_⟩:=gi_nn hu
 rw [List.getElem?_map] at h2
 obtain⟨t,ht,rfl⟩:=Option.map_eq_some_iff.1 h2
 have:=last5 ((toks_shape _ _).1 _ h).1 j t ht (by have:(t.kind:Int)=5:=h5;omega)
 rw [List.length_append] at this
 simp only [List.length_cons,List.length_nil] at this
 rw [hj];omega
def opB:List ByteArray:=[⟨#[42]⟩,⟨#[47]⟩,⟨#[37]⟩,⟨#[43]⟩,⟨#[45]⟩,⟨#[61,61]⟩,⟨#[33,61]⟩,⟨#[60]⟩,⟨#[60,61]⟩,⟨#[62]⟩,⟨#[62,61]⟩,⟨#[38,38]⟩,⟨#[124,124]⟩]
theorem opB_at {q:Nat}(hq:q<opw.length):gi opB (q:Int)=some ⟨⟨opw[q]⟩⟩:=by
 rw [show opB=opw.map (fun s=>(⟨⟨s⟩⟩:ByteArray)) from rfl,gi_nat,List.getElem?_map,List.getElem?_eq_getElem hq];rfl
theorem opw_len:∀ q,(h:q<opw.length)->opw[q].length<=2:=by decide
theorem nests_law (a b:ByteArray)(op:Int)(hop:0<=op/\op<=255):∃ n,law32_ParseNests n a b op=some true:=by
 suffices h:Ev (fun n=>law32_ParseNests n a b op) true from h.get
 obtain⟨x,pr,_,hx,_,fx,_⟩:=bothExpr a
 obtain⟨y,qr,_,hy,_,fy,_⟩:=bothExpr b
 unfold law32_ParseNests
 refine Ev.bind hx (Ev.bind hy ?_)
 by_cases c:pr.E=0/\qr.E=0/\a.size<=300/\b.size<=300
 . obtain⟨c1,c2,c3,c4⟩:=c
   refine Ev.bind (a:=false) (Ev.const ?_) ?_
   . simp only [c1,c2,bne_self_eq_false,cond_false,decide_eq_false (show ¬ (300:Int)<(a.size:Int) by omega),decide_eq_false (show ¬ (300:Int)<(b.size:Int) by omega)]
   simp only [cond_false]
   obtain⟨la,ta,ra,ga,ha,a0,ax,ae,_⟩:=expr_parts (by omega) hx c1
   obtain⟨lb,tb,rb,gb,hb,b0,bx,be,_⟩:=expr_parts (by omega) hy c2
   have at':=to_end ta ae
   have bt:=to_end tb be
   subst ax bx
   have e1:(⟨#[40]⟩:ByteArray).size<=1:=Nat.le_refl 1
   have e2:(⟨#[10,41]⟩:ByteArray).size<=2:=Nat.le_refl 2
   obtain⟨s1,g1,z1,v1⟩:=gcat_le e1 c3 (by decide)
   obtain⟨s2,g2,z2,v2⟩:=gcat_le z1 e2 (by decide)
   obtain⟨q,hq,hq2⟩:∃ q:Nat,q<opw.length/\(IntKind.i64.wrap op).tmod 13=(q:Int):=by
    refine⟨op.toNat % 13,Nat.mod_lt _ (by decide),?_⟩
    rw [wrap_id (by omega) (by omega),Int.tmod_eq_emod_of_nonneg hop.1]
    omega
   have w7:IntKind.i64.wrap (7+(q:Int))=7+(q:Int):=by
    have:opw.length=13:=rfl
    rw [wrap_id]<;>omega
   have e3:(⟨⟨opw[q]⟩⟩:ByteArray).size<=2:=opw_len q hq
   obtain⟨s3,g3,z3,v3⟩:=gcat_le z2 e3 (by decide)
   obtain⟨s4,g4,z4,v4⟩:=gcat_le z3 e1 (by decide)
   obtain⟨s5,g5,z5,v5⟩:=gcat_le z4 c4 (by decide)
   obtain⟨s6,g6,z6,v6⟩:=gcat_le z5 e2 (by decide)
   obtain⟨s7,g7,z7,v7⟩:=gcat_le (x:=⟨#[102,40]⟩) (m:=2) (Nat.le_refl 2) c3 (by decide)
   obtain⟨s8,g8,z8,v8⟩:=gcat_le (y:=⟨#[10,44]⟩) (n:=2) z7 (Nat.le_refl 2) (by decide)
   obtain⟨s9,g9,z9,v9⟩:=gcat_le z8 c4 (by decide)
   obtain⟨s10,g10,z10,v10⟩:=gcat_le z9 e2 (by decide)
   obtain⟨s11,g11,z11,v11⟩:=gcat_le (x:=⟨#[45,40]⟩) (m:=2) (Nat.le_refl 2) c3 (by decide)
   obtain⟨s12,g12,z12,v12⟩:=gcat_le z11 e2 (by decide)
   obtain⟨s13,g13,z13,v13⟩:=gcat_le (x:=⟨#[33,40]⟩) (m:=2) (Nat.le_refl 2) c3 (by decide)
   obtain⟨s14,g14,z14,v14⟩:=gcat_le z13 e2 (by decide)
   obtain⟨s15,g15,z15,v15⟩:=gcat_le (x:=⟨#[119,32,40]⟩) (m:=3) (Nat.le_refl 3) c3 (by decide)
   obtain⟨s16,g16,z16,v16⟩:=gcat_le (y:=⟨#[10,41,59]⟩) (n:=3) z15 (Nat.le_refl 3) (by decide)
   obtain⟨x3,p3,h3,f3,r3⟩:=nest_paren (src:=s2) (by omega) ra ha a0 at' (by rw [v2,v1];simp)
   obtain⟨x4,p4,h4,f4,r4⟩:=nest_op (src:=s6) (by omega) ra rb ha a0 at' hb b0 bt hq (by rw [v6,v5,v4,v3,v2,v1];simp)
   obtain⟨x5,p5,h5,f5,r5⟩:=nest_call (src:=s10) (by omega) ra rb ha a0 at' hb b0 bt (by rw [v10,v9,v8,v7];simp)
   obtain⟨x6,p6,h6,f6,r6⟩:=nest_sign (src:=s12) (by omega) ra true ha a0 at' (by rw [v12,v11];simp)
   obtain⟨x7,p7,h7,f7,r7⟩:=nest_sign (src:=s14) (by omega) ra false ha a0 at' (by rw [v14,v13];simp)
   obtain⟨f,x8,p8,h8,c8,l8,f8,r8⟩:=nest_form (src:=s16) (by omega) ra ha a0 at' (by rw [v16,v15];simp)
   refine Ev.bind (Ev.const (a:=opB) rfl) ?_
   refine Ev.bind (Ev.const (a:=(q:Int)) (by unfold gnz;rw [if_pos (by decide)];exact congrArg some hq2)) ?_
   refine Ev.bind (Ev.const g1) (Ev.bind (Ev.const g2) (Ev.bind h3 (Ev.bind (Ev.const (opB_at hq)) ?_)))
   refine Ev.bind (Ev.const g3) (Ev.bind (Ev.const g4) (Ev.bind (Ev.const g5) (Ev.bind (Ev.const g6) (Ev.bind h4 ?_))))
   refine Ev.bind (Ev.const g7) (Ev.bind (Ev.const g8) (Ev.bind (Ev.const g9) (Ev.bind (Ev.const g10) (Ev.bind h5 ?_))))
   refine Ev.bind (Ev.const g11) (Ev.bind (Ev.const g12) (Ev.bind h6 (Ev.bind (Ev.const g13) (Ev.bind (Ev.const g14) (Ev.bind h7 ?_)))))
   refine Ev.bind (Ev.const g15) (Ev.bind (Ev.const g16) (Ev.bind h8 ?_))
   refine Ev.bind (a:=false) ?_ ?_
   . simp only [c8,bne_self_eq_false,cond_false,List.length_singleton,show (((1:Nat):Int) != 1)=false from rfl,show gi [f] 0=some f from rfl,Option.bind_some,l8,show gi [x8] 0=some x8 from rfl]
     exact Ev.bind (psame f8 _ r8) Ev.pure
   simp only [cond_false]
   refine Ev.bind (a:=false) ?_ ?_
   . refine Ev.bind (fits_ev f3 r3) ?_
     simp only [Bool.not_true,cond_false,Option.bind_some,w7]
     refine Ev.bind (fits_ev f4 r4) ?_
     simp only [Bool.not_true,cond_false]
     exact Ev.bind (fits_ev f5 r5) Ev.pure
   simp only [cond_false,sane,Option.bind_some,cond_true]
   refine Ev.bind (Ev.bind (fits_ev f6 r6) ?_) Ev.pure
   simp only [cond_true]
   exact Ev.bind (fits_ev f7 r7) Ev.pure
 . refine Ev.bind (a:=true) (Ev.const ?_) ?_
   . by_cases c1:pr.E=0
     . by_cases c2:qr.E=0
       . by_cases c3:a.size<=300
         . have c4:¬ b.size<=300:=fun c4=>c ⟨c1,c2,c3,c4⟩
           simp only [c1,c2,bne_self_eq_false,cond_false,decide_eq_false (show ¬ (300:Int)<(a.size:Int) by omega),decide_eq_true (show (300:Int)<(b.size:Int) by omega)]
         . simp only [c1,c2,bne_self_eq_false,cond_false,decide_eq_true (show (300:Int)<(a.size:Int) by omega),cond_true]
       . simp only [c1,bne_self_eq_false,cond_false,show (qr.E != 0)=true by simpa using c2,cond_true]
     . simp only [show (pr.E != 0)=true by simpa using c1,cond_true]
   simp only [cond_true,sane,Option.bind_some]
   exact Ev.pure
end Go.Sp
