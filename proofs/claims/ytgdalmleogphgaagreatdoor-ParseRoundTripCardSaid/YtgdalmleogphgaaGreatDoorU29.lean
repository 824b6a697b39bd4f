/-
  What tokens a source has, but for offsets: sources put together. No program. From the tokens' reading to the program's Expr, and back. No program. A source in parentheses is an atom, at depth 1. No program. From an atom up to a whole expression, past all levels of operators. No program. The first of ParseNests' sources: an expression in parentheses. No program. Signs and names ahead of a parenthesis. No program. A source within another: its tokens, and what surrounds them. No program.
-/
import Derived.Test.YtgdalmleogphgaaGreatDoorU27
import Derived.Test.YtgdalmleogphgaaGreatDoorU28
namespace Go.Sp
open Go
def Rd (r:List UInt8)(cs:List (Nat×List UInt8×Nat)):Prop :=
 ∀ n,r.length<=n->∃ l0,Lx.Good n (Lx.skip false r) (l0++[⟨5,n,[],0⟩])/\l0.map Lx.Tok.core=cs
theorem SS:Rd [] []:=fun _ _=>⟨[],.fin,rfl⟩
theorem U6 {n:Nat}{r:List UInt8}{l0:List Lx.Tok}{u:Lx.Tok}(h:Lx.Good n (Lx.skip false r) (l0++[u])):Rd r (l0.map Lx.Tok.core):=by
 intro n' _
 obtain⟨l',h1,h2⟩:=h.re n'
 obtain⟨l1,rfl,h3⟩:=h1.last
 refine⟨l1,h1,?_⟩
 rw [List.map_append,List.map_append] at h2
 exact (List.append_inj' h2 rfl).1
theorem SR {r t s:List UInt8}{k v:Nat}{cs:List (Nat×List UInt8×Nat)}(h:Lx.tok r=.ok k s v t)(hs:Lx.skip false r=r)(ht:Rd t cs):Rd r ((k,s,v)::cs):=by
 intro n hn
 have:=Lx.tok_len h
 obtain⟨l0,g0,rfl⟩:=ht n (by omega)
 rw [hs]
 exact⟨⟨k,n-r.length,s,v⟩::l0,.cons h g0,rfl⟩
theorem R7 {r:List UInt8}{cs:List (Nat×List UInt8×Nat)}(h:Rd r cs):∃ l0,Lx.tokens r=.ok (l0++[⟨5,r.length,[],0⟩])/\l0.map Lx.Tok.core=cs:=by
 obtain⟨l0,g0,h0⟩:=h r.length (Nat.le_refl _)
 cases e:Lx.tokens r with
 |ok ts=>rw [(Lx.tokens_good e).unique g0];exact⟨l0,rfl,h0⟩
 |error x=>obtain⟨p,q⟩:=x;exact (g0.notBad (Lx.tokens_bad e)).elim
theorem WV {r:List UInt8}{ts:List Lx.Tok}(h:Lx.tokens r=.ok ts):∃ l0,ts=l0++[⟨5,r.length,[],0⟩]/\Rd r (l0.map Lx.Tok.core):=by
 have g:=Lx.tokens_good h
 obtain⟨l0,rfl,_⟩:=g.last
 exact⟨l0,rfl,U6 g⟩
end Go.Sp
namespace Go.Sp
open Go
theorem UN {src:ByteArray}(hs:src.size<=1000){ts:List Lx.Tok}(h:Lx.tokens src.data.toList=.ok ts)(n:Nat):Da n src=(AI n (ts.map E9) 0 1).bind fun x =>
 bif (x.E != 0) then (gi (ts.map E9) x.To).bind fun x1=>some (AO.mk [] (Aa.mk 0 0 ⟨#[]⟩ [] 0) (Ay.mk x1.At x.E))
 else (gi (ts.map E9) x.To).bind fun x2=>bif (x2.Kind != 5) then some (AO.mk [] (Aa.mk 0 0 ⟨#[]⟩ [] 0) (Ay.mk x2.At 5)) else some (AO.mk [] x.X (Ay.mk 0 0)):=by
 have hT:C0 src=some ⟨ts.map E9,⟨0,0⟩⟩:=by
  unfold C0 CJ
  rw [if_neg (by omega),h]
 unfold Da
 rw [hT];rfl
theorem Qh {src:ByteArray}(hs:src.size<=1000){x:Aa}{pr:Ay}(h:Ev (fun n=>BF n src) (x,pr))(h0:pr.E=0) :
 ∃ l0:List Lx.Tok,Lx.tokens src.data.toList=.ok (l0++[⟨5,src.data.toList.length,[],0⟩])/\Rd src.data.toList (l0.map Lx.Tok.core) /\
  ∃ g,Ev (fun n=>AI n ((l0++[(⟨5,src.data.toList.length,[],0⟩:Lx.Tok)]).map E9) 0 1) g/\g.E=0/\g.X=x/\(∃ u,gi ((l0++[(⟨5,src.data.toList.length,[],0⟩:Lx.Tok)]).map E9) g.To=some u/\u.Kind=5)/\C8 x:=by
 obtain⟨x',pr',l,h1,h2,f,_⟩:=JJ src
 have e:=h.uniq h1
 cases e
 cases ht:Lx.tokens src.data.toList with
 |error p =>
  exfalso
  obtain⟨p,q⟩:=p
  have hT:C0 src=some ⟨[],⟨(p:Int),(q:Int)⟩⟩:=by
   unfold C0 CJ
   rw [if_neg (by omega),ht]
  have hq:(q:Int)≠0:=by have:=(Dw _ _).2 _ _ ht;omega
  obtain⟨n,hn⟩:=h2.get
  unfold Da at hn
  rw [hT,Option.bind_some,show ((q:Int) != 0)=true by simpa using hq] at hn
  have:=congrArg (fun r:AO=>r.P.E) (Ac hn)
  exact hq (this.trans h0)
 |ok ts =>
  obtain⟨l0,rfl,hr⟩:=WV ht
  refine⟨l0,rfl,hr,?_⟩
  have hS:=Dw (n:=src.data.toList.length) _ _ |>.1 _ ht
  have h3:src.data.toList.length=src.size:=rfl
  obtain⟨_,t,ht0⟩:=FL hS.1 (by have:=hS.2;omega)
  obtain⟨g,hg,_⟩:=WI (FL hS.1 (by have:=hS.2;omega)).1 ht0 1
  obtain⟨N2,hg2⟩:=hg
  obtain⟨N1,hN⟩:=h2
  have q:Da (max N1 N2) src=_:=hN (max N1 N2) (Nat.le_max_left _ _)
  rw [UN hs ht,show AI (max N1 N2) _ 0 1=some g from hg2 _ (Nat.le_max_right _ _),Option.bind_some] at q
  rcases Ak q with⟨q1,q⟩|⟨q1,q⟩
  . exfalso
    obtain⟨t,_,q⟩:=Ae q
    have:=congrArg (fun r:AO=>r.P.E) (Ac q)
    rw [show g.E=0 from this.trans h0] at q1;cases q1
  . obtain⟨u,hu,q⟩:=Ae q
    rcases Ak q with⟨q2,q⟩|⟨q2,q⟩
    . exfalso
      have:=congrArg (fun r:AO=>r.P.E) (Ac q)
      exact absurd (show (5:Int)=0 from this.trans h0) (by decide)
    . refine⟨g,⟨N2,hg2⟩,by simpa using q1,congrArg AO.X (Ac q),⟨u,hu,by simpa using q2⟩,f⟩
end Go.Sp

namespace Go.Sp
open Go
theorem RP {t:Ab}(h:t.Kind≠4)(s:ByteArray):isS t s=false:=by
 unfold isS
 rw [show (t.Kind == 4)=false by simpa using h];rfl
theorem UG {t:Ab}(h:t.Kind≠4):EO t=⟨0,0⟩:=by
 unfold EO SZ
 simp only [Er,RP h,Bool.false_eq_true,if_false]
end Go.Sp
namespace Go.Sp
open Go
theorem UU {x y:Lx.Tok}(h:x.core=y.core):((E9 x).Kind,(E9 x).S,(E9 x).N)=((E9 y).Kind,(E9 y).S,(E9 y).N):=by
 simp only [Lx.Tok.core,Prod.mk.injEq] at h
 simp only [E9,h.1,h.2.1,h.2.2]
theorem P0:∀ {l l':List Lx.Tok},l.map Lx.Tok.core=l'.map Lx.Tok.core->(l.map E9).map (fun t=>(t.Kind,t.S,t.N))=(l'.map E9).map (fun t=>(t.Kind,t.S,t.N))
 | [],[],_=>rfl
 |x::l,y::l',h=>by
  simp only [List.map_cons,List.cons.injEq] at h ⊢
  exact⟨UU h.1,P0 h.2⟩
 | [],y::l',h=>by simp at h
 |x::l,[],h=>by simp at h
theorem Q2 {src:ByteArray}(hs:src.size<=1000){ts:List Lx.Tok}(h:Lx.tokens src.data.toList=.ok ts):Hs (ts.map E9):=by
 obtain⟨h1,h2⟩:=(Dw _ _).1 _ h
 have h3:src.data.toList.length=src.size:=rfl
 exact (FL h1 (by omega)).1
end Go.Sp
namespace Go.Sp
open Go
theorem SU {r:List UInt8}{cs:List (Nat×List UInt8×Nat)}(h:Rd r cs):Rd (32::r) cs:=by
 intro n hn
 simp only [List.length_cons] at hn
 exact h n (by omega)
end Go.Sp
namespace Go.Sp
open Go
def Jr (n:Nat):Lx.Tok:=⟨5,n,[],0⟩
end Go.Sp
