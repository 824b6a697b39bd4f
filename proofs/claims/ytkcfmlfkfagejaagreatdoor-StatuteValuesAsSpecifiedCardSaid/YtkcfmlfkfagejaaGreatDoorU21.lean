/-
  The specification's values are those that value computes. No program. Few nodes, in plain words. No program. The examples of the documentation hold. No program. Value in plain words; StatuteIsTyped, the plain law. No program. Names: what the program and the specification call one. No program. Whether a clause of a list has a name. No program. Check, in plain words: the program's and the specification's. No program. Check of clauses: the program's and the specification's answer alike. No program. StatuteValuesAsSpecified, the plain law. No program.
-/
import Derived.KernelRfl
import Derived.Test.YtkcfmlfkfagejaaGreatDoorU16
import Derived.Test.YtkcfmlfkfagejaaGreatDoorU20
set_option linter.unusedVariables false
set_option linter.unusedSimpArgs false
namespace Go.Sp
open Go
set_option maxRecDepth 100000
def El (n:Nat)(e:Aa)(d:Au)(known:Int)(x:List Int):Option Int :=
 bif (e.Op == 1) then
  some e.N
 else
  bif (e.Op == 3) then
   bif (decide (e.S=⟨#[121,101,97,114]⟩)) then
    some 365
   else
    bif (decide (e.S=⟨#[115,116,111,114,101,100]⟩)) then
     some d.Stored
    else
     bif (decide (e.S=⟨#[111,119,110,101,114]⟩)) then
      some d.Owner
     else
      some 41667
  else
   bif (e.Op == 4) then
    bif (decide (e.S=⟨#[100,97,121]⟩)) then
     (gi x 0).bind fun x1 =>
     some (if (if 41667<x1 then 41667 else x1) > 0 then (if 41667<x1 then 41667 else x1) else 0)
    else
     bif (decide (e.S=⟨#[112,101,114,115,111,110]⟩)) then
      (gi x 0).bind fun x2 =>
      some (if (if 1000<x2 then 1000 else x2) > 0 then (if 1000<x2 then 1000 else x2) else 0)
     else
      bif (decide (e.S=⟨#[109,105,110]⟩)) then
       (gi x 0).bind fun x3 =>
       (gi x 1).bind fun x4 =>
       some (if x4<x3 then x4 else x3)
      else
       bif (decide (e.S=⟨#[109,97,120]⟩)) then
        (gi x 0).bind fun x5 =>
        (gi x 1).bind fun x6 =>
        some (if x6 > x5 then x6 else x5)
       else
        (gi x 0).bind fun x7 =>
        (DC e.S).bind fun f =>
        (CR n d known f x7).bind fun l =>
        some l
   else
    bif (e.Op == 5) then
     (gi x 0).bind fun x8 =>
     some (IntKind.i64.wrap (1-x8))
    else
     bif (e.Op == 6) then
      (gi x 0).bind fun x9 =>
      some (IntKind.i64.wrap (0-x9))
     else
      bif (e.Op == 7) then
       (gi x 0).bind fun x10 =>
       (gi x 1).bind fun x11 =>
       (Dg x10 x11).bind fun p =>
       some p
      else
       ((bif (e.Op == 10) then
        some (e.Op == 10)
       else
        some (e.Op == 11)
       ):Option Bool).bind fun v116 =>
        bif v116 then
         (gi x 1).bind fun x12 =>
         ((bif (e.Op == 11) then
          some (IntKind.i64.wrap (0-x12))
         else
          some x12
         ):Option Int).bind fun n_ =>
          (gi e.Kids 0).bind fun x13 =>
          (AT n x13).bind fun left =>
          (gi e.Kids 1).bind fun x14 =>
          (AT n x14).bind fun right =>
          ((bif (left.T == 2) then
           some (right.T == 1)
          else
           some false
          ):Option Bool).bind fun v144 =>
           bif v144 then
            (gi x 0).bind fun x15 =>
            (DB x15 n_).bind fun m_ =>
            some m_
           else
            (gi x 0).bind fun x16 =>
            (C4 (IntKind.i64.wrap (x16+n_))).bind fun n_1 =>
            some n_1
        else
         bif (e.Op == 18) then
          (gi x 0).bind fun x17 =>
          (gi x 1).bind fun x18 =>
          some (IntKind.i64.wrap (x17*x18))
         else
          bif (e.Op == 19) then
           (gi x 0).bind fun x19 =>
           (gi x 1).bind fun x20 =>
           some (if x20 > x19 then x20 else x19)
          else
           bif (e.Op == 20) then
            (gi x 0).bind fun x21 =>
            bif (x21 == 1) then
             (gi x 1).bind fun x22 =>
             some x22
            else
             (gi x 2).bind fun x23 =>
             some x23
           else
            (gi x 0).bind fun x24 =>
            (gi x 1).bind fun x25 =>
            (F6 e.Op x24 x25).bind fun c =>
            some c
theorem Xp (n:Nat)(e:Aa)(d:Au)(known:Int):Bo (n+1) e d known=(BV n e d known [] 0).bind fun x=>El n e d known x:=by
 rw [NS];rfl
section
variable (n:Nat) (num at0:Int) (s:ByteArray) (kids:List Aa) (m:Ag)
def Hf (m:Ag)(o:Ab):Prop:=∀ (num at0:Int) (s:ByteArray) (kids:List Aa) (xs:List Int),(o.op=4->s=o.name)->NV o.args xs->BB kids=.inl o.args->F0 kids=true->Ev (fun n=>El n (.mk o.op num s kids at0) m.d m.known xs) (PH m o.do_ xs)
theorem Tp (n:Int):(if (if 999999999999999<n then 999999999999999 else n) > (-999999999999999) then (if 999999999999999<n then 999999999999999 else n) else (-999999999999999))=Fp n:=by
 unfold Fp
 repeat' split
 all_goals omega
theorem NB (n:Int):(if (if 41667<n then 41667 else n) > 0 then (if 41667<n then 41667 else n) else 0)=KL n:=by
 unfold KL
 repeat' split
 all_goals omega
theorem Tn (n:Int):(if (if 1000<n then 1000 else n) > 0 then (if 1000<n then 1000 else n) else 0)=LQ n:=by
 unfold LQ
 repeat' split
 all_goals omega
theorem Mi (n:Int):C4 n=some (Fp n):=by
 unfold C4;rw [Tp]
theorem Sl {d n:Int}(h : -1000000000000000<=n/\n<=1000000000000000)(h2:0<=d/\d<=41667):DB d n=some (J4 d n):=by
 unfold DB J4
 by_cases c:d=41667
 . rw [if_pos c,show (d == 41667)=true by simpa using c];rfl
 . rw [if_neg c,show (d == 41667)=false by simpa using c,cond_false,Ck (by omega) (by omega),NB]
theorem Zd {kids:List Aa}{t u:Int}(h:BB kids=.inl [t,u]):∃ a b,kids=[a,b]/\(AN a).1=t/\(AN b).1=u:=by
 have hl:=(Ov h).2
 match kids,h,hl with
 | [a,b],h,_ =>
  refine⟨a,b,rfl,?_⟩
  rw [BB] at h
  split at h
  . cases h
  . rw [BB] at h
    split at h
    . rename_i h2;split at h2<;>cases h2<;>cases h<;>exact⟨rfl,rfl⟩
    . cases h
theorem Aaf (op:Int)(hop:op=10∨op=11)(n:Nat)(num at0:Int)(s:ByteArray)(p q:Aa)(d:Au)(known a b:Int):El n (.mk op num s [p,q] at0) d known [a,b] =
 (AT n p).bind fun left=>(AT n q).bind fun right=>((bif (left.T == 2) then some (right.T == 1) else some false):Option Bool).bind fun v=>bif v then (DB a (if op=11 then IntKind.i64.wrap (0-b) else b)).bind (fun m_=>some m_) else (C4 (IntKind.i64.wrap (a+(if op=11 then IntKind.i64.wrap (0-b) else b)))).bind fun n_1=>some n_1:=by
 rcases hop with rfl|rfl<;>kernel_rfl
theorem add_eq (m:Ag)(op t u k:Int)(dd:Do)(hop:op=10∨op=11)(hd:∀ a b,H2 t a->H2 u b->PH m dd [a,b]=(if t=2/\u=1 then J4 a (if op=11 then -b else b) else Fp (a+(if op=11 then -b else b))))
 (ht:(t=1/\u=1)∨(t=2/\u=1)∨(t=2/\u=2)):Hf m ⟨op,⟨#[]⟩,[t,u],k,dd⟩:=by
 intro num at0 s kids xs _ hx hk hs
 obtain⟨a,b,rfl,ha,hb⟩:=SU hx
 obtain⟨p,q,rfl,hp,hq⟩:=Zd hk
 simp only [Aaf op hop]
 rw [F0,F0,Bool.and_eq_true,Bool.and_eq_true] at hs
 refine Ev.bind (Md p hs.1) (Ev.bind (Md q hs.2.1) ?_)
 have e1:(GV p).T=t:=hp
 have e2:(GV q).T=u:=hq
 rw [e1,e2]
 have ra : -999999999999999<=a/\a<=999999999999999:=by unfold H2 at ha;omega
 have rb : -999999999999999<=b/\b<=999999999999999:=by unfold H2 at hb;omega
 have hw:(if op=11 then IntKind.i64.wrap (0-b) else b)=(if op=11 then -b else b):=by
  split
  . rw [Ck (by omega) (by omega)];omega
  . rfl
 rw [hw,hd a b ha hb]
 have hr : -999999999999999<=(if op=11 then -b else b)/\(if op=11 then -b else b)<=999999999999999:=by split<;>omega
 generalize (if op=11 then -b else b)=c at *
 rcases ht with⟨rfl,rfl⟩|⟨rfl,rfl⟩|⟨rfl,rfl⟩
 . rw [if_neg (by decide)]
   show Ev (fun n=>(C4 (IntKind.i64.wrap (a+c))).bind fun n_1=>some n_1) _
   rw [Ck (by omega) (by omega),Mi];exact Ev.pure
 . rw [if_pos (by decide)]
   show Ev (fun n=>(DB a c).bind fun n_1=>some n_1) _
   rw [Sl (by omega) (Ys ha)];exact Ev.pure
 . rw [if_neg (by decide)]
   show Ev (fun n=>(C4 (IntKind.i64.wrap (a+c))).bind fun n_1=>some n_1) _
   rw [Ck (by omega) (by omega),Mi];exact Ev.pure
theorem Ab5 (m:Ag)(hm:LS m):Hf m ⟨6,⟨#[]⟩,[1],1,.c 77⟩:=by
 intro num at0 s kids xs _ hx _ _
 obtain⟨a,rfl,ha⟩:=PL hx
 have e:∀ n,El n (.mk 6 num s kids at0) m.d m.known [a]=some (IntKind.i64.wrap (0-a)):=fun n=>by kernel_rfl
 have h1:=Wt ha
 refine Ev.of fun n=>(e n).trans ?_
 rw [Ck (by omega) (by omega)]
 show some (0-a)=some (-a)
 congr 1;omega
theorem Ab4 (m:Ag)(hm:LS m):Hf m ⟨7,⟨#[]⟩,[1,1],1,.c 78⟩:=by
 intro num at0 s kids xs _ hx _ _
 obtain⟨a,b,rfl,ha,hb⟩:=SU hx
 have e:∀ n,El n (.mk 7 num s kids at0) m.d m.known [a,b]=(Dg a b).bind fun p=>some p:=fun n=>by kernel_rfl
 refine Ev.of fun n=>(e n).trans ?_
 rw [TQ a b (Wt ha) (Wt hb)];rfl
theorem Ab3 (m:Ag)(hm:LS m):Hf m ⟨10,⟨#[]⟩,[1,1],1,.c 80⟩:=add_eq m 10 1 1 1 _ (.inl rfl) (fun a b _ _=>by simp only [show ¬ ((1:Int)=2/\(1:Int)=1) by decide,if_false,show ¬ ((10:Int)=11) by decide];rfl) (.inl ⟨rfl,rfl⟩)
theorem Ab2 (m:Ag)(hm:LS m):Hf m ⟨10,⟨#[]⟩,[2,1],2,.c 82⟩:=add_eq m 10 2 1 2 _ (.inl rfl) (fun a b _ _=>by simp only [and_self,if_true,show ¬ ((10:Int)=11) by decide,if_false];rfl) (.inr (.inl ⟨rfl,rfl⟩))
theorem Ab1 (m:Ag)(hm:LS m):Hf m ⟨11,⟨#[]⟩,[1,1],1,.c 84⟩:=add_eq m 11 1 1 1 _ (.inr rfl) (fun a b _ _=>by simp only [show ¬ ((1:Int)=2/\(1:Int)=1) by decide,if_false,if_true,<- Int.sub_eq_add_neg];rfl) (.inl ⟨rfl,rfl⟩)
theorem Ab0 (m:Ag)(hm:LS m):Hf m ⟨11,⟨#[]⟩,[2,1],2,.c 85⟩:=add_eq m 11 2 1 2 _ (.inr rfl) (fun a b _ _=>by simp only [and_self,if_true];rfl) (.inr (.inl ⟨rfl,rfl⟩))
theorem Abz (m:Ag)(hm:LS m):Hf m ⟨11,⟨#[]⟩,[2,2],1,.c 86⟩:=add_eq m 11 2 2 1 _ (.inr rfl) (fun a b ha hb=>by
 have h1:=Ys ha
 have h2:=Ys hb
 simp only [show ¬ ((2:Int)=2/\(2:Int)=1) by decide,if_false,if_true,<- Int.sub_eq_add_neg]
 have:Fp (a-b)=a-b:=by unfold Fp;rw [if_neg (by omega),if_neg (by omega)]
 rw [this];rfl) (.inr (.inr ⟨rfl,rfl⟩))
theorem Aby (m:Ag)(hm:LS m):Hf m ⟨5,⟨#[]⟩,[3],3,.c 87⟩:=by
 intro num at0 s kids xs _ hx _ _
 obtain⟨a,rfl,ha⟩:=PL hx
 have e:∀ n,El n (.mk 5 num s kids at0) m.d m.known [a]=some (IntKind.i64.wrap (1-a)):=fun n=>by kernel_rfl
 have h1:=UL ha
 refine Ev.of fun n=>(e n).trans ?_
 rw [Ck (by omega) (by omega)];rfl
theorem Abx (m:Ag)(hm:LS m):Hf m ⟨18,⟨#[]⟩,[3,3],3,.c 88⟩:=by
 intro num at0 s kids xs _ hx _ _
 obtain⟨a,b,rfl,ha,hb⟩:=SU hx
 have e:∀ n,El n (.mk 18 num s kids at0) m.d m.known [a,b]=some (IntKind.i64.wrap (a*b)):=fun n=>by kernel_rfl
 refine Ev.of fun n=>(e n).trans ?_
 have h1:a=0∨a=1:=by have:=UL ha;omega
 have h2:b=0∨b=1:=by have:=UL hb;omega
 rcases h1 with rfl|rfl<;>rcases h2 with rfl|rfl<;>rfl
theorem Abw (m:Ag)(hm:LS m):Hf m ⟨19,⟨#[]⟩,[3,3],3,.c 89⟩:=by
 intro num at0 s kids xs _ hx _ _
 obtain⟨a,b,rfl,ha,hb⟩:=SU hx
 have e:∀ n,El n (.mk 19 num s kids at0) m.d m.known [a,b]=some (if b > a then b else a):=fun n=>by kernel_rfl
 refine Ev.of fun n=>(e n).trans ?_
 show some (if b > a then b else a)=some (max a b)
 congr 1
 split<;>omega
theorem Aab (m:Ag)(hm:LS m):Hf m ⟨4,⟨#[100,97,121]⟩,[1],2,.c 90⟩:=by
 intro num at0 s kids xs hs hx _ _
 obtain⟨a,rfl,ha⟩:=PL hx
 have e:∀ n,El n (.mk 4 num ⟨#[100,97,121]⟩ kids at0) m.d m.known [a]=some (if (if 41667<a then 41667 else a) > 0 then (if 41667<a then 41667 else a) else 0):=fun n=>by kernel_rfl
 obtain rfl:=hs rfl
 refine Ev.of fun n=>(e n).trans ?_
 rw [NB];rfl
theorem Aaa (m:Ag)(hm:LS m):Hf m ⟨4,⟨#[112,101,114,115,111,110]⟩,[1],4,.c 92⟩:=by
 intro num at0 s kids xs hs hx _ _
 obtain⟨a,rfl,ha⟩:=PL hx
 have e:∀ n,El n (.mk 4 num ⟨#[112,101,114,115,111,110]⟩ kids at0) m.d m.known [a]=some (if (if 1000<a then 1000 else a) > 0 then (if 1000<a then 1000 else a) else 0):=fun n=>by kernel_rfl
 obtain rfl:=hs rfl
 refine Ev.of fun n=>(e n).trans ?_
 rw [Tn];rfl
theorem ZZ (m:Ag)(hm:LS m):Hf m ⟨4,⟨#[98,111,114,110]⟩,[4],2,.k 0⟩:=by
 intro num at0 s kids xs hs hx _ _
 obtain⟨a,rfl,ha⟩:=PL hx
 have e:∀ n,El n (.mk 4 num ⟨#[98,111,114,110]⟩ kids at0) m.d m.known [a]=(CR n m.d m.known 1 a).bind fun l=>some l:=fun n=>by kernel_rfl
 obtain rfl:=hs rfl
 exact Ev.congr (Ev.bind (Mt m hm 1 a) Ev.pure) e
theorem ZY (m:Ag)(hm:LS m):Hf m ⟨4,⟨#[100,105,101,100]⟩,[4],2,.k 1⟩:=by
 intro num at0 s kids xs hs hx _ _
 obtain⟨a,rfl,ha⟩:=PL hx
 have e:∀ n,El n (.mk 4 num ⟨#[100,105,101,100]⟩ kids at0) m.d m.known [a]=(CR n m.d m.known 2 a).bind fun l=>some l:=fun n=>by kernel_rfl
 obtain rfl:=hs rfl
 exact Ev.congr (Ev.bind (Mt m hm 2 a) Ev.pure) e
theorem ZX (m:Ag)(hm:LS m):Hf m ⟨4,⟨#[97,115,107,101,100]⟩,[4],2,.k 2⟩:=by
 intro num at0 s kids xs hs hx _ _
 obtain⟨a,rfl,ha⟩:=PL hx
 have e:∀ n,El n (.mk 4 num ⟨#[97,115,107,101,100]⟩ kids at0) m.d m.known [a]=(CR n m.d m.known 3 a).bind fun l=>some l:=fun n=>by kernel_rfl
 obtain rfl:=hs rfl
 exact Ev.congr (Ev.bind (Mt m hm 3 a) Ev.pure) e
theorem ZW (m:Ag)(hm:LS m):Hf m ⟨4,⟨#[104,101,108,100]⟩,[4],2,.k 3⟩:=by
 intro num at0 s kids xs hs hx _ _
 obtain⟨a,rfl,ha⟩:=PL hx
 have e:∀ n,El n (.mk 4 num ⟨#[104,101,108,100]⟩ kids at0) m.d m.known [a]=(CR n m.d m.known 4 a).bind fun l=>some l:=fun n=>by kernel_rfl
 obtain rfl:=hs rfl
 exact Ev.congr (Ev.bind (Mt m hm 4 a) Ev.pure) e
theorem ZV (m:Ag)(hm:LS m):Hf m ⟨4,⟨#[108,105,102,116,101,100]⟩,[4],2,.k 4⟩:=by
 intro num at0 s kids xs hs hx _ _
 obtain⟨a,rfl,ha⟩:=PL hx
 have e:∀ n,El n (.mk 4 num ⟨#[108,105,102,116,101,100]⟩ kids at0) m.d m.known [a]=(CR n m.d m.known 5 a).bind fun l=>some l:=fun n=>by kernel_rfl
 obtain rfl:=hs rfl
 exact Ev.congr (Ev.bind (Mt m hm 5 a) Ev.pure) e
theorem Y2 (m:Ag)(hm:LS m):∀ o∈Eu,Hf m o:=by
 unfold Eu
 simp only [List.forall_mem_cons,List.not_mem_nil,false_imp_iff,implies_true,and_true]
 exact⟨Ab5 m hm,Ab4 m hm,Ab3 m hm,Ab2 m hm,Ab1 m hm,Ab0 m hm,Abz m hm,Aby m hm,Abx m hm,Abw m hm,Aab m hm,Aaa m hm,ZZ m hm,ZY m hm,ZX m hm,ZW m hm,ZV m hm⟩
theorem ZU (m:Ag)(i:Nat):∀ o∈FU i,Hf m o:=by
 have tr:∀ b:Bool,(BH b).bind (fun t=>some t)=some (My b):=fun b=>by cases b<;>rfl
 have cmp:∀ (p:Int×Nat),p∈Zo->∀ t:Int,Hf m ⟨p.1,⟨#[]⟩,[t,t],3,.is p.2⟩:=by
  intro p hp t num at0 s kids xs _ hx _ _
  obtain⟨a,b,rfl,_,_⟩:=SU hx
  unfold Zo at hp
  simp only [List.mem_cons,List.not_mem_nil,or_false] at hp
  rcases hp with rfl|rfl|rfl|rfl|rfl|rfl
  . have e:∀ n,El n (.mk 14 num s kids at0) m.d m.known [a,b]=((BH (decide (a<b))).bind fun t=>some t).bind (fun c=>some c):=fun n=>by kernel_rfl
    refine Ev.of fun n=>(e n).trans ?_
    rw [tr];rfl
  . have e:∀ n,El n (.mk 15 num s kids at0) m.d m.known [a,b]=((BH (decide (a<=b))).bind fun t=>some t).bind (fun c=>some c):=fun n=>by kernel_rfl
    refine Ev.of fun n=>(e n).trans ?_
    rw [tr];rfl
  . have e:∀ n,El n (.mk 16 num s kids at0) m.d m.known [a,b]=((BH (decide (b<a))).bind fun t=>some t).bind (fun c=>some c):=fun n=>by kernel_rfl
    refine Ev.of fun n=>(e n).trans ?_
    rw [tr];rfl
  . have e:∀ n,El n (.mk 17 num s kids at0) m.d m.known [a,b]=((BH (decide (b<=a))).bind fun t=>some t).bind (fun c=>some c):=fun n=>by kernel_rfl
    refine Ev.of fun n=>(e n).trans ?_
    rw [tr];rfl
  . have e:∀ n,El n (.mk 12 num s kids at0) m.d m.known [a,b]=((BH (a == b)).bind fun t=>some t).bind (fun c=>some c):=fun n=>by kernel_rfl
    refine Ev.of fun n=>(e n).trans ?_
    rw [tr];rfl
  . have e:∀ n,El n (.mk 13 num s kids at0) m.d m.known [a,b]=((BH (a != b)).bind fun t=>some t).bind (fun c=>some c):=fun n=>by kernel_rfl
    refine Ev.of fun n=>(e n).trans ?_
    rw [tr];rfl
 intro o ho
 unfold FU at ho
 split at ho
 . rename_i op f e
   have hp:=List.mem_of_getElem? e
   unfold Iu at ho
   split at ho<;>simp at ho
   . rcases ho with rfl|rfl|rfl<;>exact cmp (op,f) hp _
   . rcases ho with rfl|rfl<;>exact cmp (op,f) hp _
 . simp at ho
theorem Y1 (m:Ag):∀ o∈No,Hf m o:=by
 have ite:∀ t:Int,Hf m ⟨20,⟨#[]⟩,[3,t,t],t,.c 103⟩:=by
  intro t num at0 s kids xs _ hx _ _
  obtain⟨a,b,c,rfl,ha,_,_⟩:=Abv hx
  have e:∀ n,El n (.mk 20 num s kids at0) m.d m.known [a,b,c]=bif (a == 1) then some b else some c:=fun n=>by kernel_rfl
  refine Ev.of fun n=>(e n).trans ?_
  have h1:a=0∨a=1:=by have:=UL ha;omega
  rcases h1 with rfl|rfl<;>rfl
 have minc:∀ t:Int,Hf m ⟨4,⟨#[109,105,110]⟩,[t,t],t,.c 104⟩:=by
  intro t num at0 s kids xs hs hx _ _
  obtain⟨a,b,rfl,_,_⟩:=SU hx
  have e:∀ n,El n (.mk 4 num ⟨#[109,105,110]⟩ kids at0) m.d m.known [a,b]=some (if b<a then b else a):=fun n=>by kernel_rfl
  obtain rfl:=hs rfl
  refine Ev.of fun n=>(e n).trans ?_
  show some (if b<a then b else a)=some (min a b)
  congr 1
  split<;>omega
 have maxc:∀ t:Int,Hf m ⟨4,⟨#[109,97,120]⟩,[t,t],t,.c 105⟩:=by
  intro t num at0 s kids xs hs hx _ _
  obtain⟨a,b,rfl,_,_⟩:=SU hx
  have e:∀ n,El n (.mk 4 num ⟨#[109,97,120]⟩ kids at0) m.d m.known [a,b]=some (if b > a then b else a):=fun n=>by kernel_rfl
  obtain rfl:=hs rfl
  refine Ev.of fun n=>(e n).trans ?_
  show some (if b > a then b else a)=some (max a b)
  congr 1
  split<;>omega
 unfold No
 simp only [List.forall_mem_cons,List.not_mem_nil,false_imp_iff,implies_true,and_true]
 exact⟨ite 1,minc 1,maxc 1,ite 2,minc 2,maxc 2,ite 3,ite 4⟩
theorem ZT (m:Ag)(hm:LS m)(os:List Nat):∀ o∈opsOf os,Hf m o:=by
 intro o ho
 unfold opsOf at ho
 rcases List.mem_append.1 ho with ho|ho
 . rcases List.mem_append.1 ho with ho|ho
   . exact Y2 m hm o ho
   . obtain⟨i,_,h2⟩:=List.mem_flatMap.1 ho
     exact ZU m i o h2
 . exact Y1 m o ho
theorem Ta (m:Ag)(e:Aa)(hk:e.Kids.length<=1000000)(hf:∀ x∈e.Kids,Ev (fun n=>Bo n x m.d m.known) (La m x)) :
 ∀ (r:List Aa) (k:Nat) (vs:List Int),e.Kids.drop k=r->k<=e.Kids.length->vs.length=k->Ev (fun n=>BV n e m.d m.known vs (k:Int)) (vs++KE m r)
 | [],k,vs,hr,hkl,_=>by
  have he:=KK hr hkl
  refine Ev.step (f:=fun n=>some vs) (fun n=>?_) ?_
  . rw [Ih,show (decide ((k:Int)<(e.Kids.length:Int)))=false by rw [decide_eq_false_iff_not];omega];rfl
  . rw [KE,List.append_nil];exact Ev.pure
 |x::r,k,vs,hr,hkl,hvs=>by
  obtain⟨h1,h2⟩:=G5 hr
  have hmem:x∈e.Kids:=List.mem_of_mem_drop (by rw [hr];simp)
  refine Ev.step (f:=fun n=>(Bo n x m.d m.known).bind fun v=>BV n e m.d m.known (vs++[v]) ((k+1:Nat):Int)) (fun n=>?_) ?_
  . rw [Ih,PK h2,cond_true,Rk hr,Option.bind_some]
    congr 1
    funext v
    rw [Option.bind_some,UR (by omega) (by simp),Option.bind_some,P4 (by omega)]
  . refine Ev.bind (hf x hmem) ?_
    have ih:=Ta m e hk hf r (k+1) (vs++[La m x]) h1 (by omega) (by simp [hvs])
    rw [KE]
    simpa [List.append_assoc] using ih
theorem VA (m:Ag)(s:ByteArray)(h:(Bh B8 s).2=true):(bif (decide (s=⟨#[121,101,97,114]⟩)) then some (365:Int) else bif (decide (s=⟨#[115,116,111,114,101,100]⟩)) then some m.d.Stored else bif (decide (s=⟨#[111,119,110,101,114]⟩)) then some m.d.Owner else some 41667) =
 some (Bh [(⟨#[121,101,97,114]⟩,365),(⟨#[115,116,111,114,101,100]⟩,m.d.Stored),(⟨#[110,101,118,101,114]⟩,41667),(⟨#[111,119,110,101,114]⟩,m.d.Owner)] s).1:=by
 by_cases c1:s=⟨#[121,101,97,114]⟩
 . subst c1;rfl
 by_cases c2:s=⟨#[115,116,111,114,101,100]⟩
 . subst c2;rfl
 by_cases c3:s=⟨#[110,101,118,101,114]⟩
 . subst c3;rfl
 by_cases c4:s=⟨#[111,119,110,101,114]⟩
 . subst c4;rfl
 exfalso
 unfold B8 at h
 unfold Bh at h;rw [if_neg c1] at h
 unfold Bh at h;rw [if_neg c2] at h
 unfold Bh at h;rw [if_neg c3] at h
 unfold Bh at h;rw [if_neg c4] at h
 cases h
theorem VR (m:Ag)(hm:LS m)(op num at0:Int)(str:ByteArray)(kids:List Aa)(hs:Cs (.mk op num str kids at0)=true)(ht:(AN (.mk op num str kids at0)).2.2.E=0)
 (hkids:∀ x∈kids,Ev (fun n=>Bo n x m.d m.known) (La m x)):Ev (fun n=>Bo n (.mk op num str kids at0) m.d m.known) (La m (.mk op num str kids at0)):=by
 have hs2:=hs
 rw [Cs,Bool.and_eq_true,decide_eq_true_eq] at hs2
 obtain⟨ts,h1,h2⟩:=Mz ht
 have loop:=Ta m (.mk op num str kids at0) hs2.1 hkids kids 0 [] rfl (Nat.zero_le _) rfl
 refine Ev.step (fun n=>Xp n (.mk op num str kids at0) m.d m.known) (Ev.bind loop ?_)
 rw [List.nil_append]
 rcases h2 with⟨rfl,n1,n2,_,hf⟩|⟨rfl,n1,_,hf⟩|⟨c1,c3,o,ho1,ho2,ho3,hf⟩
 . have e:∀ n,El n (.mk 1 num str kids at0) m.d m.known (KE m kids)=some num:=fun n=>by kernel_rfl
   rw [La,if_pos rfl]
   exact Ev.of e
 . rw [La,if_neg (by decide),if_pos rfl]
   refine Ev.of fun n=>?_
   have e:El n (.mk 3 num str kids at0) m.d m.known (KE m kids)=(bif (decide (str=⟨#[121,101,97,114]⟩)) then some (365:Int) else bif (decide (str=⟨#[115,116,111,114,101,100]⟩)) then some m.d.Stored else bif (decide (str=⟨#[111,119,110,101,114]⟩)) then some m.d.Owner else some 41667):=by kernel_rfl
   rw [e,VA m str n1]
 . have hv:La m (.mk op num str kids at0)=PH m o.do_ (KE m kids):=by rw [La,if_neg c1,if_neg c3,hf]
   have hp:=ho2
   unfold pick at hp
   have hh:=List.find?_some hp
   rw [Bool.and_eq_true] at hh
   have hop:o.op=op:=by have:=Rj hh.1;simpa using this
   have hnm:o.op=4->str=o.name:=fun h4=>by
    have:=hh.1
    unfold hit at this
    rw [Bool.and_eq_true] at this
    have h5:=this.2
    rw [h4] at h5
    have:o.name=str:=by simpa using h5
    exact this.symm
   have hfit:NV o.args (KE m kids):=by rw [ho3];exact (MJ UF m hm kids ts hs2.2 h1).1
   have:=ZT m hm _ o ho1 num at0 str kids (KE m kids) hnm hfit (by rw [ho3];exact h1) hs2.2
   rw [hop] at this
   rw [hv];exact this
theorem PZ:∀ {l:List Aa} {ts:List Int},BB l=.inl ts->∀ e∈l,(AN e).2.2.E=0
 | [],_,_,e,he=>by simp at he
 |x::l,ts,h,e,he=>by
  rw [BB] at h
  by_cases c:(AN x).2.2.E=0
  . rw [if_neg (by simpa using c)] at h
    cases h2:BB l with
    |inr o=>rw [h2] at h;cases h
    |inl us =>
     rcases List.mem_cons.1 he with rfl|he
     . exact c
     . exact PZ h2 e he
  . rw [if_pos c] at h;cases h
mutual
theorem M0 (m:Ag)(hm:LS m):∀ (e:Aa),Cs e=true->(AN e).2.2.E=0->Ev (fun n=>Bo n e m.d m.known) (La m e)
 |.mk op num str kids at0,hs,ht=>by
  have hs2:=hs
  rw [Cs,Bool.and_eq_true] at hs2
  obtain⟨ts,h1,_⟩:=Mz ht
  exact VR m hm op num at0 str kids hs ht (SZ m hm kids hs2.2 (PZ h1))
theorem SZ (m:Ag)(hm:LS m):∀ (l:List Aa),F0 l=true->(∀ e∈l,(AN e).2.2.E=0)->∀ x∈l,Ev (fun n=>Bo n x m.d m.known) (La m x)
 | [],_,_,x,hx=>by simp at hx
 |e::l,hs,ht,x,hx=>by
  rw [F0,Bool.and_eq_true] at hs
  rcases List.mem_cons.1 hx with hx|hx
  . rw [hx];exact M0 m hm e hs.1 (ht e (by simp))
  . exact SZ m hm l hs.2 (fun e he=>ht e (by simp [he])) x hx
end
end
end Go.Sp
namespace Go.Sp
open Go
mutual
def Hv:Aa->Int->Int
 |.mk _ _ _ kids _,n=>Gn kids (n-1)
def Gn:List Aa->Int->Int
 | [],n=>n
 |e::l,n=>if n<0 then n else Gn l (Hv e n)
end
mutual
theorem K8:∀ (e:Aa) (n:Int),Hv e n<=n-1
 |.mk _ _ _ kids _,n=>by rw [Hv];exact MX kids (n-1)
theorem MX:∀ (l:List Aa) (n:Int),Gn l n<=n
 | [],n=>by rw [Gn];omega
 |e::l,n=>by
  rw [Gn]
  split
  . omega
  . have h1:=K8 e n
    have h2:=MX l (Hv e n)
    omega
end
theorem OP:∀ (l:List Aa) (n:Int),0<=Gn l n->(l.length:Int)<=n
 | [],n,h=>by rw [Gn] at h;simpa using h
 |e::l,n,h=>by
  rw [Gn] at h
  split at h
  . omega
  . have h1:=K8 e n
    have h2:=OP l _ h
    simp only [List.length_cons]
    omega
mutual
theorem OQ:∀ (e:Aa) (n:Int),0<=Hv e n->n<=1000000->Cs e=true
 |.mk _ _ _ kids _,n,h,hn=>by
  rw [Hv] at h
  have:=OP kids (n-1) h
  rw [Cs,Bool.and_eq_true,decide_eq_true_eq]
  exact⟨by omega,N3 kids (n-1) h (by omega)⟩
theorem N3:∀ (l:List Aa) (n:Int),0<=Gn l n->n<=1000000->F0 l=true
 | [],_,_,_=>by rw [F0]
 |e::l,n,h,hn=>by
  rw [Gn] at h
  split at h
  . omega
  . have h1:=K8 e n
    have h2:=MX l (Hv e n)
    rw [F0,Bool.and_eq_true]
    exact⟨OQ e n (by omega) hn,N3 l _ h (by omega)⟩
end
theorem SH (e:Aa)(hf:∀ x∈e.Kids,∀ n,0<=n->n<=1000->Ev (fun k=>B7 k x n) (Hv x n)/\-1<=Hv x n) :
 ∀ (r:List Aa) (k:Nat) (n:Int),e.Kids.drop k=r->k<=e.Kids.length->-1<=n->(k:Int)+n<=1000->Ev (fun m=>Ci m e n (k:Int)) (Gn r n)/\-1<=Gn r n
 | [],k,n,hr,hkl,hn,_=>by
  have he:=KK hr hkl
  rw [Gn]
  refine⟨Ev.step (f:=fun _=>some n) (fun m=>?_) Ev.pure,hn⟩
  rw [FF,show (decide ((k:Int)<(e.Kids.length:Int)))=false by rw [decide_eq_false_iff_not];omega];rfl
 |x::r,k,n,hr,hkl,hn,hb=>by
  obtain⟨h1,h2⟩:=G5 hr
  rw [Gn]
  by_cases c:n<0
  . rw [if_pos c]
    refine⟨Ev.step (f:=fun _=>some n) (fun m=>?_) Ev.pure,hn⟩
    rw [FF,PK h2,cond_true,decide_eq_false (by omega)];rfl
  . rw [if_neg c]
    have hmem:x∈e.Kids:=List.mem_of_mem_drop (by rw [hr];simp)
    obtain⟨f1,f2⟩:=hf x hmem n (by omega) (by omega)
    have f3:=K8 x n
    obtain⟨i1,i2⟩:=SH e hf r (k+1) (Hv x n) h1 (by omega) f2 (by omega)
    refine⟨Ev.step (f:=fun m=>(B7 m x n).bind fun n3=>Ci m e n3 ((k+1:Nat):Int)) (fun m=>?_) (Ev.bind f1 i1),i2⟩
    rw [FF,PK h2,cond_true,decide_eq_true (by omega),Option.bind_some,cond_true,Rk hr,Option.bind_some,P4 (by omega)]
mutual
theorem Rf:∀ (e:Aa) (n:Int),0<=n->n<=1000->Ev (fun k=>B7 k e n) (Hv e n)/\-1<=Hv e n
 |.mk op num s kids at0,n,h0,h1=>by
  have h:=SH (.mk op num s kids at0) (SG kids) kids 0 (n-1) rfl (Nat.zero_le _) (by omega) (by simp;omega)
  rw [Hv]
  refine⟨Ev.step (fun k=>NQ k (.mk op num s kids at0) n) (Ev.bind ?_ Ev.pure),h.2⟩
  rw [Ck (by omega) (by omega)]
  exact h.1
theorem SG:∀ (l:List Aa),∀ x∈l,∀ n,0<=n->n<=1000->Ev (fun k=>B7 k x n) (Hv x n)/\-1<=Hv x n
 | [],x,hx=>by simp at hx
 |e::l,x,hx=>by
  rcases List.mem_cons.1 hx with hx|hx
  . rw [hx];exact Rf e
  . exact SG l x hx
end
def Fy (e:Aa)(n:Int):Int:=if n<0 then n else Hv e n
def Et (c:Aj)(n:Int):Int:=Fy c.When (Fy c.To (Fy c.From n))
def KD:List Aj->Int->Int
 | [],n=>n
 |c::l,n=>if n<0 then n else KD l (Et c n)
theorem FY (e:Aa)(n:Int):Fy e n<=n:=by
 unfold Fy
 split
 . omega
 . have:=K8 e n;omega
theorem Kj {e:Aa}{n:Int}(h : -1<=n)(h1:n<=1000) : -1<=Fy e n:=by
 unfold Fy
 split
 . omega
 . exact (Rf e n (by omega) h1).2
theorem LP (c:Aj)(n:Int):Et c n<=n:=by
 unfold Et
 have h1:=FY c.From n
 have h2:=FY c.To (Fy c.From n)
 have h3:=FY c.When (Fy c.To (Fy c.From n))
 omega
theorem SY:∀ (l:List Aj) (n:Int),KD l n<=n
 | [],n=>by rw [KD];omega
 |c::l,n=>by
  rw [KD]
  split
  . omega
  . have h1:=LP c n
    have h2:=SY l (Et c n)
    omega
theorem Ph (l:List Aj)(i:Int)(c:Aj)(hi:gi l i=some c)(p:Aa)(k:Nat)(hp:Fj c (k:Int)=some p)(hk:k<3)(n:Int)(h0 : -1<=n)(h1:n<=1000){v:Int}
 (h:Ev (fun m=>B9 m l i (Fy p n) ((k+1:Nat):Int)) v) (hv:n<0->v=n):Ev (fun m=>B9 m l i n (k:Int)) v:=by
 by_cases c0:n<0
 . rw [hv c0]
   refine Ev.step (f:=fun _=>some n) (fun m=>?_) Ev.pure
   rw [Gg,decide_eq_true (show (k:Int)<3 by omega),cond_true,decide_eq_false (by omega)];rfl
 . refine Ev.step (f:=fun m=>(B7 m p n).bind fun n3=>B9 m l i n3 ((k+1:Nat):Int)) (fun m=>?_) (Ev.bind (Rf p n (by omega) h1).1 ?_)
   . rw [Gg,decide_eq_true (show (k:Int)<3 by omega),cond_true,decide_eq_true (by omega),Option.bind_some,cond_true,hi,Option.bind_some,hp,Option.bind_some,P4 (by omega)]
   . unfold Fy at h
     rw [if_neg c0] at h
     exact h
theorem Um (l:List Aj)(i:Int)(c:Aj)(hi:gi l i=some c)(n:Int)(h0 : -1<=n)(h1:n<=1000):Ev (fun m=>B9 m l i n 0) (Et c n):=by
 have g1:=Kj (e:=c.From) h0 h1
 have g2:=FY c.From n
 have g3:=Kj (e:=c.To) g1 (by omega)
 have g4:=FY c.To (Fy c.From n)
 have hend:Ev (fun m=>B9 m l i (Et c n) ((2+1:Nat):Int)) (Et c n):=by
  refine Ev.step (f:=fun _=>some (Et c n)) (fun m=>?_) Ev.pure
  rw [Gg];rfl
 have neg:∀ {e:Aa} {n:Int},n<0->Fy e n=n:=fun h=>by unfold Fy;rw [if_pos h]
 have s2:=Ph l i c hi c.When 2 rfl (by decide) (Fy c.To (Fy c.From n)) g3 (by omega) hend (fun h=>by unfold Et;exact neg h)
 have s1:=Ph l i c hi c.To 1 rfl (by decide) (Fy c.From n) g1 (by omega) s2 (fun h=>by unfold Et;rw [neg (e:=c.To) h,neg h])
 exact Ph l i c hi c.From 0 rfl (by decide) n h0 h1 s1 (fun h=>by unfold Et;rw [neg (e:=c.From) h,neg (e:=c.To) h,neg h])
theorem UU (l:List Aj)(hl:l.length<=50):∀ (r:List Aj) (k:Nat) (n:Int),l.drop k=r->k<=l.length->-1<=n->n<=1000->Ev (fun m=>Dd m l n (k:Int)) (KD r n)
 | [],k,n,hr,hkl,_,_=>by
  have he:=KK hr hkl
  rw [KD]
  refine Ev.step (f:=fun _=>some n) (fun m=>?_) Ev.pure
  rw [Gi,show (decide ((k:Int)<(l.length:Int)))=false by rw [decide_eq_false_iff_not];omega];rfl
 |c::r,k,n,hr,hkl,h0,h1=>by
  obtain⟨d1,d2⟩:=G5 hr
  rw [KD]
  by_cases c0:n<0
  . rw [if_pos c0]
    refine Ev.step (f:=fun _=>some n) (fun m=>?_) Ev.pure
    rw [Gi,PK d2,cond_true,decide_eq_false (by omega)];rfl
  . rw [if_neg c0]
    have g1 : -1<=Et c n:=by
     have a1:=Kj (e:=c.From) h0 h1
     have a2:=FY c.From n
     have a3:=Kj (e:=c.To) a1 (by omega)
     have a4:=FY c.To (Fy c.From n)
     exact Kj (e:=c.When) a3 (by omega)
    have g2:=LP c n
    refine Ev.step (f:=fun m=>(B9 m l (k:Int) n 0).bind fun n3=>Dd m l n3 ((k+1:Nat):Int)) (fun m=>?_) (Ev.bind (Um l (k:Int) c (Rk hr) n h0 h1) (UU l hl r (k+1) _ d1 (by omega) g1 (by omega)))
    rw [Gi,PK d2,cond_true,decide_eq_true (by omega),Option.bind_some,cond_true,P4 (by omega)]
theorem ZR (l:List Aj)(n:Int)(h0:0<=n)(h1:n<=1000):Ev (fun m=>IW m l n) (decide (l.length<=50/\0<=KD l n)):=by
 unfold IW
 by_cases c:l.length<=50
 . rw [decide_eq_false (show ¬ (50:Int)<(l.length:Int) by omega)]
   simp only [cond_false]
   refine Ev.bind (UU l c l 0 n rfl (Nat.zero_le _) (by omega) h1) ?_
   simp only [c,true_and]
   exact Ev.pure
 . rw [decide_eq_true (show (50:Int)<(l.length:Int) by omega),decide_eq_false (fun h=>c h.1)]
   exact Ev.pure
def HU (c:Aj):Prop:=Cs c.From=true/\Cs c.To=true/\Cs c.When=true
theorem L4 {e:Aa}{n:Int}(h:0<=Fy e n)(hn:n<=1000000):Cs e=true/\0<=n:=by
 unfold Fy at h
 split at h
 . omega
 . exact⟨OQ e n h hn,by omega⟩
theorem R0 {c:Aj}{n:Int}(h:0<=Et c n)(hn:n<=1000):HU c/\0<=n:=by
 unfold Et at h
 have g2:=FY c.From n
 have g4:=FY c.To (Fy c.From n)
 obtain⟨a1,a2⟩:=L4 h (by omega)
 obtain⟨b1,b2⟩:=L4 a2 (by omega)
 obtain⟨c1,c2⟩:=L4 b2 (by omega)
 exact⟨⟨c1,b1,a1⟩,c2⟩
theorem Pg:∀ (l:List Aj) (n:Int),0<=KD l n->n<=1000->∀ c∈l,HU c
 | [],_,_,_,c,hc=>by simp at hc
 |x::l,n,h,hn,c,hc=>by
  rw [KD] at h
  split at h
  . omega
  . have g:=LP x n
    have g2:=SY l (Et x n)
    rcases List.mem_cons.1 hc with rfl|hc
    . exact (R0 (by omega) hn).1
    . exact Pg l _ h (by omega) c hc
end Go.Sp
namespace Go.Sp
open Go
set_option maxRecDepth 100000
theorem WB:UA=some true:=by kernel_rfl
end Go.Sp
namespace Go.Sp
open Go
set_option maxRecDepth 100000
theorem eta (e:Aa):Aa.mk e.Op e.N e.S e.Kids e.At=e:=by cases e;rfl
def On (e:Aa)(m:Ag):Int×Int :=
 if (AN e).2.2.E≠0 then (0,(AN e).2.2.E) else if DQ m.d m.known≠0 then (0,DQ m.d m.known) else (La m e,0)
theorem SW {e:Aa}(h:Cs e=true):Ip e=some (AN e):=by unfold Ip;rw [if_pos h]
theorem Vj (e:Aa)(d:Au)(known:Int)(hs:Cs e=true):Ev (fun n=>C1 n e d known) (On e ⟨d,known⟩):=by
 unfold C1 On
 simp only [eta,SW hs,Option.bind_some]
 by_cases c:(AN e).2.2.E=0
 . rw [show ((AN e).2.2.E != 0)=false by simpa using c,if_neg (by simpa using c)]
   simp only [cond_false]
   refine Ev.bind (K9 d known) ?_
   by_cases c2:DQ d known=0
   . have hv:PE e ⟨d,known⟩=some (La ⟨d,known⟩ e):=by unfold PE;rw [if_pos ⟨hs,c,c2⟩]
     rw [show (DQ d known != 0)=false by simpa using c2,if_neg (by simpa using c2)]
     simp only [cond_false,hv,Option.bind_some]
     exact Ev.pure
   . rw [show (DQ d known != 0)=true by simpa using c2,if_pos c2]
     exact Ev.pure
 . rw [show ((AN e).2.2.E != 0)=true by simpa using c,if_pos c]
   exact Ev.pure
end Go.Sp
namespace Go.Sp
open Go
def Cn (c:Int):Bool:=decide ((97<=c/\c<=122)∨(65<=c/\c<=90)∨c=95)
def Cz (c:Int):Bool:=decide (48<=c/\c<=57)
def Iw (s:ByteArray):List Int:=s.data.toList.map fun b=>(b.toNat:Int)
def J8 (s:ByteArray):Bool:=decide (1<=s.size/\s.size<=32)&&(Iw s).all (fun c=>Cn c||Cz c)&&!Cz ((Iw s).getD 0 0)
theorem Iv (s:ByteArray):(Iw s).length=s.size:=by
 unfold Iw
 rw [List.length_map];rfl
theorem YR {s:ByteArray}{k:Nat}{x:Int}{r:List Int}(h:(Iw s).drop k=x::r):gb s (k:Int)=some x:=by
 obtain⟨_,h2⟩:=G5 h
 rw [Iv] at h2
 unfold gb
 rw [if_pos (by omega)]
 have h3:=Rk h
 unfold gi at h3
 rw [if_pos (by omega)] at h3
 unfold Iw at h3
 rw [List.getElem?_map] at h3
 rw [Int.toNat_natCast] at h3 ⊢
 cases e:s.data.toList[k]? with
 |none=>rw [e] at h3;cases h3
 |some b =>
  rw [e] at h3
  rw [List.getD_eq_getElem?_getD,e]
  exact h3
theorem Uf (c:Int):Di c=some (!(Cn c||Cz c)):=by
 unfold Di Cn Cz
 by_cases h1:97<=c<;>by_cases h2:c<=122<;>by_cases h3:65<=c<;>by_cases h4:c<=90<;>by_cases h5:c=95<;>by_cases h6:48<=c<;>by_cases h7:c<=57<;>(have h5b:=h5;rw [<- beq_iff_eq (a:=c) (b:=95)] at h5b;simp [h1,h2,h3,h4,h5,h6,h7,h5b])
theorem Q2 (l:List Int)(hl:l.length<=1000000):∀ (r:List Int) (k:Nat),l.drop k=r->k<=l.length->∃ v,Ev (fun n=>AI n l (k:Int)) v/\(match v with|.inl _=>r.all (fun c=>Cn c||Cz c)=true|.inr i=>0<=i/\r.all (fun c=>Cn c||Cz c)=false)
 | [],k,hr,hk=>by
  have he:=KK hr hk
  refine⟨.inl (),Ev.step (f:=fun _=>some (.inl ())) (fun n=>?_) Ev.pure,rfl⟩
  rw [DT,show (decide ((k:Int)<(l.length:Int)))=false by rw [decide_eq_false_iff_not];omega];rfl
 |x::r,k,hr,hk=>by
  obtain⟨h1,h2⟩:=G5 hr
  have e:∀ n,AI (n+1) l (k:Int)=bif !(Cn x||Cz x) then some (.inr (k:Int)) else AI n l ((k+1:Nat):Int):=fun n=>by
   rw [DT,PK h2,cond_true,Rk hr,Option.bind_some,Uf,Option.bind_some,P4 (by omega)]
  cases hx:(Cn x||Cz x) with
  |false =>
   refine⟨.inr (k:Int),Ev.step e ?_,by omega,by rw [List.all_cons,hx];rfl⟩
   rw [hx];exact Ev.pure
  |true =>
   obtain⟨v,k1,k2⟩:=Q2 l hl r (k+1) h1 (by omega)
   refine⟨v,Ev.step e ?_,?_⟩
   . rw [hx];exact k1
   . cases v with
     |inl _=>simp only at k2 ⊢;rw [List.all_cons,hx,k2];rfl
     |inr i=>simp only at k2 ⊢;rw [List.all_cons,hx,k2.2];exact⟨k2.1,rfl⟩
theorem Tj (l:List Int)(hl:l.length<=1000000):Ev (fun n=>BQ n l) (!(l.all fun c=>Cn c||Cz c)):=by
 obtain⟨v,h1,h2⟩:=Q2 l hl l 0 rfl (Nat.zero_le _)
 unfold BQ CJ
 cases v with
 |inl _ =>
  have h2:l.all (fun c=>Cn c||Cz c)=true:=h2
  rw [h2]
  exact Ev.bind (Ev.bind h1 Ev.pure) Ev.pure
 |inr i =>
  have h2:0<=i/\l.all (fun c=>Cn c||Cz c)=false:=h2
  rw [h2.2]
  refine Ev.bind (Ev.bind h1 Ev.pure) ?_
  rw [decide_eq_true h2.1];exact Ev.pure
theorem VH (s:ByteArray):Ev (fun n=>Eb n s) (J8 s):=by
 unfold Eb J8
 by_cases h0:s.size=0
 . have:s=⟨#[]⟩:=by
    cases s with
    |mk d=>congr 1;exact Array.eq_empty_of_size_eq_zero h0
   rw [decide_eq_true this,decide_eq_false (show ¬ (1<=s.size/\s.size<=32) by omega)]
   exact Ev.pure
 have hne:¬ s=⟨#[]⟩:=fun e=>h0 (by rw [e];rfl)
 rw [decide_eq_false hne]
 simp only [cond_false]
 by_cases h32:s.size<=32
 . rw [decide_eq_false (show ¬ (32:Int)<(s.size:Int) by omega),decide_eq_true (show 1<=s.size/\s.size<=32 by omega)]
   simp only [cond_false]
   have hl:=Iv s
   cases hb:Iw s with
   |nil=>rw [hb] at hl;simp at hl;omega
   |cons x r =>
    have hg:gb s 0=some x:=YR (k:=0) hb
    have hd:(bif (decide (48<=x)) then some (decide (x<=57)) else some false:Option Bool)=some (Cz x):=by
     unfold Cz
     by_cases a1:48<=x
     . rw [decide_eq_true a1,cond_true];congr 1;rw [decide_eq_decide];omega
     . rw [decide_eq_false a1,cond_false];congr 1;symm;rw [decide_eq_false_iff_not];omega
    simp only [hg,Option.bind_some,hd]
    have hgb:OZ s=some (x::r):=by
     unfold OZ
     rw [if_pos (by omega)]
     exact congrArg some hb
    simp only [List.getD_cons_zero,Bool.true_and]
    cases hx:Cz x with
    |true=>simp only [cond_true,Bool.not_true,Bool.and_false];exact Ev.pure
    |false =>
     simp only [cond_false,hgb,Option.bind_some,Bool.not_false,Bool.and_true]
     refine Ev.bind (Tj (x::r) (by rw [<- hb,hl];omega)) ?_
     rw [Bool.not_not]
     exact Ev.pure
 . rw [decide_eq_true (show (32:Int)<(s.size:Int) by omega),decide_eq_false (show ¬ (1<=s.size/\s.size<=32) by omega)]
   exact Ev.pure
theorem VF (c:Int):((bif (decide (97<=c)) then
 bif (decide (c<=122)) then
  some true
 else
  bif (decide (65<=c)) then
   bif (decide (c<=90)) then
    some true
   else
    some (c == 95)
  else
   some (c == 95)
 else
  bif (decide (65<=c)) then
   bif (decide (c<=90)) then
    some true
   else
    some (c == 95)
  else
   some (c == 95)
 ):Option Bool)=some (Cn c):=by
 unfold Cn
 by_cases h1:97<=c<;>by_cases h2:c<=122<;>by_cases h3:65<=c<;>by_cases h4:c<=90<;>by_cases h5:c=95<;>(have h5b:=h5;rw [<- beq_iff_eq (a:=c) (b:=95)] at h5b;simp [h1,h2,h3,h4,h5,h5b])
theorem Zt (c:Int)(k:Nat):((bif (!Cn c) then
 bif ((k:Int) == 0) then
  some true
 else
  bif (decide (c<48)) then
   some true
  else
   some (decide (57<c))
 else
  some false
 ):Option Bool)=some (!(Cn c||(decide (k≠0)&&Cz c))):=by
 cases Cn c with
 |true=>rfl
 |false =>
  rw [Bool.not_false,cond_true,Bool.false_or]
  cases k with
  |zero=>rfl
  |succ k =>
   rw [show (((k+1:Nat):Int) == 0)=false by simp;omega,cond_false,decide_eq_true (show k+1≠0 by omega),Bool.true_and]
   unfold Cz
   by_cases a1:c<48
   . rw [decide_eq_true a1,cond_true];congr 1;symm;rw [Bool.not_eq_true',decide_eq_false_iff_not];omega
   . rw [decide_eq_false a1,cond_false]
     by_cases a2:57<c
     . rw [decide_eq_true a2];congr 1;symm;rw [Bool.not_eq_true',decide_eq_false_iff_not];omega
     . rw [decide_eq_false a2];congr 1;symm;rw [Bool.not_eq_false',decide_eq_true_eq];omega
def LI:Nat->List Int->Bool
 |_,[]=>true
 |k,c::r=>(Cn c||(decide (k≠0)&&Cz c))&&LI (k+1) r
theorem Nz:∀ (r:List Int) (k:Nat),LI (k+1) r=r.all (fun c=>Cn c||Cz c)
 | [],_=>rfl
 |c::r,k=>by rw [LI,Nz r (k+1),decide_eq_true (show k+1≠0 by omega),Bool.true_and,List.all_cons]
theorem Nt (s:ByteArray)(hs:s.size<=32):∀ (r:List Int) (k:Nat),(Iw s).drop k=r->k<=(Iw s).length->Ev (fun n=>BM n s (k:Int)) (if LI k r=true then .inl () else .inr false)
 | [],k,hr,hk=>by
  have he:=KK hr hk
  rw [Iv] at he
  refine Ev.step (f:=fun _=>some (.inl ())) (fun n=>?_) Ev.pure
  rw [Ha,show (decide ((k:Int)<(s.size:Int)))=false by rw [decide_eq_false_iff_not];omega];rfl
 |c::r,k,hr,hk=>by
  obtain⟨h1,h2⟩:=G5 hr
  have h2b:k<s.size:=by rw [Iv] at h2;exact h2
  have e:∀ n,BM (n+1) s (k:Int)=bif !(Cn c||(decide (k≠0)&&Cz c)) then some (.inr false) else BM n s ((k+1:Nat):Int):=fun n=>by
   rw [Ha,PK h2b,cond_true,YR hr,Option.bind_some,VF,Option.bind_some,Zt,Option.bind_some,P4 (by omega)]
  refine Ev.step e ?_
  rw [LI]
  cases (Cn c||(decide (k≠0)&&Cz c)) with
  |false=>exact Ev.pure
  |true =>
   simp only [Bool.not_true,cond_false,Bool.true_and]
   exact Nt s hs r (k+1) h1 (by omega)
theorem QS (s:ByteArray):Ev (fun n=>Fv n s) (J8 s):=by
 unfold Fv J8
 by_cases h0:s.size=0
 . rw [decide_eq_true (show (s.size:Int)<1 by omega),decide_eq_false (show ¬ (1<=s.size/\s.size<=32) by omega)]
   exact Ev.pure
 rw [decide_eq_false (show ¬ (s.size:Int)<1 by omega)]
 simp only [cond_false,Option.bind_some]
 by_cases h32:s.size<=32
 . rw [decide_eq_false (show ¬ (32:Int)<(s.size:Int) by omega),decide_eq_true (show 1<=s.size/\s.size<=32 by omega)]
   simp only [cond_false]
   refine Ev.bind (Nt s h32 (Iw s) 0 rfl (Nat.zero_le _)) ?_
   have hl:=Iv s
   cases hb:Iw s with
   |nil=>rw [hb] at hl;simp at hl;omega
   |cons x r =>
    have:LI 0 (x::r)=((x::r).all (fun c=>Cn c||Cz c)&&!Cz x):=by
     rw [LI,Nz,List.all_cons]
     have hd:Cz x=true->Cn x=false:=fun h=>by
      unfold Cz at h
      unfold Cn
      rw [decide_eq_true_eq] at h
      rw [decide_eq_false_iff_not];omega
     cases h1:Cz x with
     |true=>rw [hd h1];simp
     |false=>simp
    rw [this]
    simp only [List.getD_cons_zero,Bool.true_and]
    cases ((x::r).all (fun c=>Cn c||Cz c)&&!Cz x) with
    |true=>exact Ev.pure
    |false=>exact Ev.pure
 . rw [decide_eq_true (show (32:Int)<(s.size:Int) by omega),decide_eq_false (show ¬ (1<=s.size/\s.size<=32) by omega)]
   exact Ev.pure
end Go.Sp
namespace Go.Sp
open Go
def FG (l:List Aj)(s:ByteArray):Bool:=l.any fun c=>decide (c.Name=s)
theorem Mj (l:List Aj)(s:ByteArray)(hl:l.length<=1000000):∀ (r:List Aj) (k:Nat),l.drop k=r->k<=l.length->Ev (fun n=>BU n l s (k:Int)) (if FG r s=true then .inr true else .inl ())
 | [],k,hr,hk=>by
  have he:=KK hr hk
  refine Ev.step (f:=fun _=>some (.inl ())) (fun n=>?_) Ev.pure
  rw [Hr,show (decide ((k:Int)<(l.length:Int)))=false by rw [decide_eq_false_iff_not];omega];rfl
 |c::r,k,hr,hk=>by
  obtain⟨h1,h2⟩:=G5 hr
  have e:∀ n,BU (n+1) l s (k:Int)=bif decide (c.Name=s) then some (.inr true) else BU n l s ((k+1:Nat):Int):=fun n=>by
   rw [Hr,PK h2,cond_true,Rk hr,Option.bind_some,P4 (by omega)]
  refine Ev.step e ?_
  unfold FG
  rw [List.any_cons]
  cases (decide (c.Name=s)) with
  |true=>exact Ev.pure
  |false =>
   simp only [cond_false,Bool.false_or]
   exact Mj l s hl r (k+1) h1 (by omega)
theorem Sk (l:List Aj)(s:ByteArray)(hl:l.length<=1000000):Ev (fun n=>FQ n l s) (FG l s):=by
 unfold FQ
 refine Ev.bind (Mj l s hl l 0 rfl (Nat.zero_le _)) ?_
 cases FG l s with
 |true=>exact Ev.pure
 |false=>exact Ev.pure
section
variable (c:ByteArray) (c1 c2 c3 c4 c5:Int) (c6:ByteArray) (c7:List Aa) (c8 c9 c10:Int) (c11:ByteArray) (c12:List Aa) (c13 c14 c15:Int) (c16:ByteArray) (c17:List Aa) (c18 c19:Int)
theorem OW (l:List Aj)(hl:l.length<=1000000):∀ (r:List Aj) (k:Nat),l.drop k=r->k<=l.length ->
 ∃ v,Ev (fun n=>AF n l c c1 c2 c3 c4 c5 c6 c7 c8 c9 c10 c11 c12 c13 c14 c15 c16 c17 c18 c19 (k:Int)) v/\(match v with|.inl _=>FG r c=false|.inr i=>0<=i/\FG r c=true)
 | [],k,hr,hk=>by
  have he:=KK hr hk
  refine⟨.inl (),Ev.step (f:=fun _=>some (.inl ())) (fun n=>?_) Ev.pure,rfl⟩
  rw [Dz,show (decide ((k:Int)<(l.length:Int)))=false by rw [decide_eq_false_iff_not];omega];rfl
 |x::r,k,hr,hk=>by
  obtain⟨h1,h2⟩:=G5 hr
  have e:∀ n,AF (n+1) l c c1 c2 c3 c4 c5 c6 c7 c8 c9 c10 c11 c12 c13 c14 c15 c16 c17 c18 c19 (k:Int)=bif decide (x.Name=c) then some (.inr (k:Int)) else AF n l c c1 c2 c3 c4 c5 c6 c7 c8 c9 c10 c11 c12 c13 c14 c15 c16 c17 c18 c19 ((k+1:Nat):Int):=fun n=>by
   rw [Dz,PK h2,cond_true,Rk hr,Option.bind_some]
   unfold Dm
   rw [Option.bind_some,P4 (by omega)]
  have hc:FG (x::r) c=(decide (x.Name=c)||FG r c):=by unfold FG;rw [List.any_cons]
  rw [hc]
  cases hx:(decide (x.Name=c)) with
  |true =>
   refine⟨.inr (k:Int),Ev.step e ?_,by omega,rfl⟩
   rw [hx];exact Ev.pure
  |false =>
   obtain⟨v,k1,k2⟩:=OW l hl r (k+1) h1 (by omega)
   refine⟨v,Ev.step e ?_,?_⟩
   . rw [hx];exact k1
   . rw [Bool.false_or];exact k2
theorem Rz (l:List Aj)(hl:l.length<=1000000):Ev (fun n=>Bk n c c1 c2 c3 c4 c5 c6 c7 c8 c9 c10 c11 c12 c13 c14 c15 c16 c17 c18 c19 l) (FG l c):=by
 obtain⟨v,h1,h2⟩:=OW c c1 c2 c3 c4 c5 c6 c7 c8 c9 c10 c11 c12 c13 c14 c15 c16 c17 c18 c19 l hl l 0 rfl (Nat.zero_le _)
 unfold Bk Ct
 cases v with
 |inl _ =>
  have h2:FG l c=false:=h2
  rw [h2]
  exact Ev.bind (Ev.bind h1 Ev.pure) Ev.pure
 |inr i =>
  have h2:0<=i/\FG l c=true:=h2
  rw [h2.2]
  refine Ev.bind (Ev.bind h1 Ev.pure) ?_
  rw [decide_eq_true h2.1];exact Ev.pure
end
end Go.Sp
namespace Go.Sp
open Go
set_option maxRecDepth 100000
def Ij (x:Aj):Bool:=decide (x.Rank<0∨9<x.Rank∨x.Known<0∨41666<x.Known∨(x.Kind<3/\x.Houses≠0)∨(x.Kind=3/\(x.Houses<1∨4095<x.Houses)))
def DY (e:Aa)(t:Int):Int:=if (AN e).2.2.E≠0 then (AN e).2.2.E else if (AN e).1≠t then 7 else 0
def DI (x:Aj):Int:=if DY x.From 2≠0 then DY x.From 2 else if DY x.To 2≠0 then DY x.To 2 else DY x.When 3
def Ce (l:List Aj)(x:Aj):Int :=
 if J8 x.Name=false then 6 else if FG l x.Name=true then 9 else if x.Kind<1∨3<x.Kind then 1 else if Ij x=true then 3 else DI x
theorem TO (x:Aj)(hk:1<=x.Kind/\x.Kind<=3):((bif (decide (x.Rank<0)) then
 some true
 else
  bif (decide (9<x.Rank)) then
   some true
  else
   bif (decide (x.Known<0)) then
    some true
   else
    bif (decide (41666<x.Known)) then
     some true
    else
     bif (!(x.Kind == 3)) then
      bif (x.Houses != 0) then
       some true
      else
       bif (x.Kind == 3) then
        bif (decide (x.Houses<1)) then
         some true
        else
         some (decide (4096<=x.Houses))
       else
        some false
     else
      bif (x.Kind == 3) then
       bif (decide (x.Houses<1)) then
        some true
       else
        some (decide (4096<=x.Houses))
      else
       some false
 ):Option Bool)=some (Ij x):=by
 unfold Ij
 by_cases h1:x.Rank<0
 . simp [h1]
 by_cases h2:9<x.Rank
 . simp [h1,h2]
 by_cases h3:x.Known<0
 . simp [h1,h2,h3]
 by_cases h4:41666<x.Known
 . simp [h1,h2,h3,h4]
 by_cases h5:x.Kind=3
 . by_cases h6:x.Houses<1
   . simp [h1,h2,h3,h4,h5,h6]
   . have:(4096<=x.Houses)↔(4095<x.Houses):=by omega
     simp [h1,h2,h3,h4,h5,h6,this]
 . have h7:x.Kind<3:=by omega
   have b:(x.Kind == 3)=false:=by simpa using h5
   by_cases h6:x.Houses=0
   . simp [h1,h2,h3,h4,h5,h6,h7,b]
   . have b2:(x.Houses != 0)=true:=by simpa using h6
     simp [h1,h2,h3,h4,h5,h6,h7,b,b2]
theorem V0 (x:Aj)(hk:1<=x.Kind/\x.Kind<=3):((bif (decide (x.Rank<0)) then
 some true
 else
  bif (decide (9<x.Rank)) then
   some true
  else
   bif (decide (x.Known<0)) then
    some true
   else
    bif (decide (41666<x.Known)) then
     some true
    else
     bif (decide (x.Kind<3)) then
      bif (x.Houses != 0) then
       some true
      else
       bif (x.Kind == 3) then
        bif (decide (x.Houses<1)) then
         some true
        else
         some (decide (4095<x.Houses))
       else
        some false
     else
      bif (x.Kind == 3) then
       bif (decide (x.Houses<1)) then
        some true
       else
        some (decide (4095<x.Houses))
      else
       some false
 ):Option Bool)=some (Ij x):=by
 unfold Ij
 by_cases h1:x.Rank<0
 . simp [h1]
 by_cases h2:9<x.Rank
 . simp [h1,h2]
 by_cases h3:x.Known<0
 . simp [h1,h2,h3]
 by_cases h4:41666<x.Known
 . simp [h1,h2,h3,h4]
 by_cases h5:x.Kind=3
 . by_cases h6:x.Houses<1
   . simp [h1,h2,h3,h4,h5,h6]
   . simp [h1,h2,h3,h4,h5,h6]
 . have h7:x.Kind<3:=by omega
   have b:(x.Kind == 3)=false:=by simpa using h5
   by_cases h6:x.Houses=0
   . simp [h1,h2,h3,h4,h5,h6,h7,b]
   . have b2:(x.Houses != 0)=true:=by simpa using h6
     simp [h1,h2,h3,h4,h5,h6,h7,b,b2]
theorem MB {n:Nat}{e:Aa}{t:Int}(hs:Cs e=true)(r:Option (Unit ⊕ Int)):((Ip e).bind fun f=>bif (f.2.2.E != 0) then some (.inr f.2.2.E) else bif (f.1 != t) then some (.inr 7) else r)=if DY e t≠0 then some (.inr (DY e t)) else r:=by
 rw [SW hs,Option.bind_some]
 unfold DY
 by_cases c:(AN e).2.2.E=0
 . rw [show ((AN e).2.2.E != 0)=false by simpa using c,cond_false,if_neg (show ¬ (AN e).2.2.E≠0 by simpa using c)]
   by_cases c2:(AN e).1=t
   . rw [show ((AN e).1 != t)=false by simpa using c2,if_neg (show ¬ (AN e).1≠t by simpa using c2)];rfl
   . rw [show ((AN e).1 != t)=true by simpa using c2,if_pos c2];rfl
 . rw [show ((AN e).2.2.E != 0)=true by simpa using c,if_pos (show (AN e).2.2.E≠0 from c),if_pos (show (AN e).2.2.E≠0 from c)];rfl
theorem TA (x:Aj)(hs:HU x)(n:Nat):AD (n+4) x 0=if DI x=0 then some (.inl ()) else some (.inr (DI x)):=by
 obtain⟨s1,s2,s3⟩:=hs
 have e3:AD (n+1) x 3=some (.inl ()):=by rw [Dt];rfl
 have e2:AD (n+2) x 2=if DY x.When 3≠0 then some (.inr (DY x.When 3)) else some (.inl ()):=by
  rw [Dt,<- e3,<- MB (n:=n) (t:=3) s3];rfl
 have e1:AD (n+3) x 1=if DY x.To 2≠0 then some (.inr (DY x.To 2)) else AD (n+2) x 2:=by
  rw [Dt,<- MB (n:=n) (t:=2) s2];rfl
 have e0:AD (n+4) x 0=if DY x.From 2≠0 then some (.inr (DY x.From 2)) else AD (n+3) x 1:=by
  rw [Dt,<- MB (n:=n) (t:=2) s1];rfl
 rw [e0,e1,e2]
 unfold DI
 by_cases a:DY x.From 2=0
 . by_cases b:DY x.To 2=0
   . by_cases c:DY x.When 3=0
     . simp [a,b,c]
     . simp [a,b,c]
   . simp [a,b]
 . simp [a]
theorem O7 (x:Aj)(p:Aa)(k:Nat)(t:Int)(hp:Fj x (k:Int)=some p)(hk:(k<2/\t=2)∨(k=2/\t=3))(hs:Cs p=true){v:Unit ⊕ Int}(h:Ev (fun n=>Bp n x ((k+1:Nat):Int)) v) :
 Ev (fun n=>Bp n x (k:Int)) (if DY p t≠0 then .inr (DY p t) else v):=by
 have hc:∀ T:Int,((bif (decide ((k:Int)<2)) then
  bif (T != 2) then
   some true
  else
   bif ((k:Int) == 2) then
    some (T != 3)
   else
    some false
  else
   bif ((k:Int) == 2) then
    some (T != 3)
   else
    some false
  ):Option Bool)=some (T != t):=fun T=>by
  rcases hk with⟨h1,rfl⟩|⟨rfl,rfl⟩
  . rw [decide_eq_true (show (k:Int)<2 by omega),show ((k:Int) == 2)=false by simp;omega]
    cases (T != 2)<;>rfl
  . rfl
 have e:∀ n,Bp (n+1) x (k:Int)=(AT n p).bind fun tt=>bif (tt.P.E != 0) then some (.inr tt.P.E) else bif (tt.T != t) then some (.inr 7) else Bp n x ((k+1:Nat):Int):=fun n=>by
  rw [Hs,decide_eq_true (show (k:Int)<3 by omega),cond_true,hp,Option.bind_some]
  congr 1
  funext tt
  rw [hc,Option.bind_some,P4 (by omega)]
 refine Ev.step e (Ev.bind (Md p hs) ?_)
 unfold DY GV
 simp only
 by_cases c:(AN p).2.2.E=0
 . rw [show ((AN p).2.2.E != 0)=false by simpa using c,if_neg (show ¬ (AN p).2.2.E≠0 by simpa using c)]
   simp only [cond_false]
   by_cases c2:(AN p).1=t
   . rw [show ((AN p).1 != t)=false by simpa using c2,if_neg (show ¬ (AN p).1≠t by simpa using c2)]
     simp only [cond_false,ne_eq,not_true_eq_false,if_false]
     exact h
   . rw [show ((AN p).1 != t)=true by simpa using c2,if_pos c2]
     exact Ev.pure
 . rw [show ((AN p).2.2.E != 0)=true by simpa using c,if_pos (show (AN p).2.2.E≠0 from c),if_pos (show (AN p).2.2.E≠0 from c)]
   exact Ev.pure
theorem Vn (x:Aj)(hs:HU x):Ev (fun n=>Bp n x 0) (if DI x=0 then .inl () else .inr (DI x)):=by
 obtain⟨s1,s2,s3⟩:=hs
 have e3:Ev (fun n=>Bp n x ((2+1:Nat):Int)) (.inl ()):=Ev.step (f:=fun _=>some (.inl ())) (fun n=>by rw [Hs];rfl) Ev.pure
 have h:=O7 x x.From 0 2 rfl (.inl ⟨by decide,rfl⟩) s1 (O7 x x.To 1 2 rfl (.inl ⟨by decide,rfl⟩) s2 (O7 x x.When 2 3 rfl (.inr ⟨rfl,rfl⟩) s3 e3))
 unfold DI
 by_cases a:DY x.From 2=0
 . by_cases b:DY x.To 2=0
   . by_cases c:DY x.When 3=0
     . simpa [a,b,c] using h
     . simpa [a,b,c] using h
   . simpa [a,b] using h
 . simpa [a] using h
end Go.Sp
namespace Go.Sp
open Go
set_option maxRecDepth 100000
def Fx (l:List Aj):List Aj->Nat->Int
 | [],_=>0
 |x::r,k=>if Ce (l.take k) x≠0 then Ce (l.take k) x else Fx l r (k+1)
def FH (l:List Aj):Int:=if 40<l.length then 2 else Fx l l 0
def Sv (e:Int):Unit ⊕ Int:=if e=0 then .inl () else .inr e
theorem Abp {l:List Aj}{k:Nat}(h:k<=l.length):VM l 0 (k:Int)=some (l.take k):=by
 unfold VM
 rw [if_pos (by omega)];simp
theorem Q1 (x:Aj):((bif (decide (x.Kind<1)) then some true else some (decide (3<x.Kind))):Option Bool)=some (decide (x.Kind<1∨3<x.Kind)):=by
 by_cases h:x.Kind<1
 . simp [h]
 . simp [h]
theorem So (l:List Aj)(hl:l.length<=40)(hs:∀ c∈l,HU c):∀ (r:List Aj) (k:Nat),l.drop k=r->k<=l.length->Ev (fun n=>Cb n l (k:Int)) (Sv (Fx l r k))
 | [],k,hr,hk=>by
  have he:=KK hr hk
  refine Ev.step (f:=fun _=>some (.inl ())) (fun n=>?_) Ev.pure
  rw [Gx,show (decide ((k:Int)<(l.length:Int)))=false by rw [decide_eq_false_iff_not];omega];rfl
 |x::r,k,hr,hk=>by
  obtain⟨h1,h2⟩:=G5 hr
  have hmem:x∈l:=List.mem_of_mem_drop (by rw [hr];simp)
  have ih:=So l hl hs r (k+1) h1 (by omega)
  refine Ev.step (fun n=>Gx n l (k:Int)) ?_
  simp only [PK h2,cond_true,Rk hr,Option.bind_some,Abp hk,Q1,P4 (show k<4611686018427387904 by omega)]
  rw [Fx]
  refine Ev.bind (VH x.Name) ?_
  cases hn:J8 x.Name with
  |false =>
   have:Ce (l.take k) x=6:=by unfold Ce;rw [if_pos hn]
   rw [this,if_pos (by decide)]
   exact Ev.pure
  |true =>
   simp only [Bool.not_true,cond_false]
   refine Ev.bind (Rz _ _ _ _ _ _ _ _ _ _ _ _ _ _ _ _ _ _ _ _ (l.take k) (by rw [List.length_take];omega)) ?_
   cases hm:FG (l.take k) x.Name with
   |true =>
    have:Ce (l.take k) x=9:=by unfold Ce;rw [if_neg (by rw [hn];simp),if_pos hm]
    rw [this,if_pos (by decide)]
    exact Ev.pure
   |false =>
    simp only [cond_false]
    by_cases hkd:x.Kind<1∨3<x.Kind
    . have:Ce (l.take k) x=1:=by unfold Ce;rw [if_neg (by rw [hn];simp),if_neg (by rw [hm];simp),if_pos hkd]
      rw [this,if_pos (by decide),decide_eq_true hkd]
      exact Ev.pure
    . rw [decide_eq_false hkd]
      simp only [cond_false,TO x (by omega),Option.bind_some]
      cases hrg:Ij x with
      |true =>
       have:Ce (l.take k) x=3:=by unfold Ce;rw [if_neg (by rw [hn];simp),if_neg (by rw [hm];simp),if_neg hkd,if_pos hrg]
       rw [this,if_pos (by decide)]
       exact Ev.pure
      |false =>
       have hce:Ce (l.take k) x=DI x:=by unfold Ce;rw [if_neg (by rw [hn];simp),if_neg (by rw [hm];simp),if_neg hkd,if_neg (by rw [hrg];simp)]
       rw [hce]
       simp only [cond_false]
       have hw:∀ n,D9 x.Name x.Kind x.Rank x.Known x.From.Op x.From.N x.From.S x.From.Kids x.From.At x.To.Op x.To.N x.To.S x.To.Kids x.To.At x.When.Op x.When.N x.When.S x.When.Kids x.When.At x.Houses=some n:=fun n=>rfl
       simp only [hw (),Option.bind_some]
       have ht:Ev (fun n=>AD n x 0) (if DI x=0 then .inl () else .inr (DI x)):=⟨4,fun n hn=>by
        obtain⟨m,rfl⟩:∃ m,n=m+4:=⟨n-4,by omega⟩
        show AD (m+4) x 0=_
        rw [TA x (hs x hmem) m];split<;>rfl⟩
       refine Ev.bind ht ?_
       by_cases c:DI x=0
       . rw [if_pos c,if_neg (show ¬ DI x≠0 by simpa using c)]
         exact ih
       . rw [if_neg c,if_pos c]
         have:Sv (DI x)=.inr (DI x):=by unfold Sv;rw [if_neg c]
         rw [this]
         exact Ev.pure
theorem Pp (l:List Aj)(hs:∀ c∈l,HU c):Ev (fun n=>DO n l) (FH l):=by
 unfold DO FH
 by_cases h:40<l.length
 . rw [decide_eq_true (show (40:Int)<(l.length:Int) by omega),if_pos h];exact Ev.pure
 . rw [decide_eq_false (show ¬ (40:Int)<(l.length:Int) by omega),if_neg h]
   simp only [cond_false,Option.bind_some]
   refine Ev.bind (So l (by omega) hs l 0 rfl (Nat.zero_le _)) ?_
   unfold Sv
   by_cases c:Fx l l 0=0
   . rw [if_pos c,c];exact Ev.pure
   . rw [if_neg c];exact Ev.pure
theorem UE (l:List Aj)(hl:l.length<=40)(hs:∀ c∈l,HU c):∀ (r:List Aj) (k:Nat),l.drop k=r->k<=l.length->Ev (fun n=>CA n l (k:Int)) (Sv (Fx l r k))
 | [],k,hr,hk=>by
  have he:=KK hr hk
  refine Ev.step (f:=fun _=>some (.inl ())) (fun n=>?_) Ev.pure
  rw [Ht,show (decide ((k:Int)<(l.length:Int)))=false by rw [decide_eq_false_iff_not];omega];rfl
 |x::r,k,hr,hk=>by
  obtain⟨h1,h2⟩:=G5 hr
  have hmem:x∈l:=List.mem_of_mem_drop (by rw [hr];simp)
  have ih:=UE l hl hs r (k+1) h1 (by omega)
  refine Ev.step (fun n=>Ht n l (k:Int)) ?_
  simp only [PK h2,cond_true,Rk hr,Option.bind_some,Abp hk,Q1,P4 (show k<4611686018427387904 by omega)]
  rw [Fx]
  refine Ev.bind (QS x.Name) ?_
  cases hn:J8 x.Name with
  |false =>
   have:Ce (l.take k) x=6:=by unfold Ce;rw [if_pos hn]
   rw [this,if_pos (by decide)]
   exact Ev.pure
  |true =>
   simp only [Bool.not_true,cond_false]
   refine Ev.bind (Sk (l.take k) x.Name (by rw [List.length_take];omega)) ?_
   cases hm:FG (l.take k) x.Name with
   |true =>
    have:Ce (l.take k) x=9:=by unfold Ce;rw [if_neg (by rw [hn];simp),if_pos hm]
    rw [this,if_pos (by decide)]
    exact Ev.pure
   |false =>
    simp only [cond_false]
    by_cases hkd:x.Kind<1∨3<x.Kind
    . have:Ce (l.take k) x=1:=by unfold Ce;rw [if_neg (by rw [hn];simp),if_neg (by rw [hm];simp),if_pos hkd]
      rw [this,if_pos (by decide),decide_eq_true hkd]
      exact Ev.pure
    . rw [decide_eq_false hkd]
      simp only [cond_false,V0 x (by omega),Option.bind_some]
      cases hrg:Ij x with
      |true =>
       have:Ce (l.take k) x=3:=by unfold Ce;rw [if_neg (by rw [hn];simp),if_neg (by rw [hm];simp),if_neg hkd,if_pos hrg]
       rw [this,if_pos (by decide)]
       exact Ev.pure
      |false =>
       have hce:Ce (l.take k) x=DI x:=by unfold Ce;rw [if_neg (by rw [hn];simp),if_neg (by rw [hm];simp),if_neg hkd,if_neg (by rw [hrg];simp)]
       rw [hce]
       simp only [cond_false]
       have ht:=Vn x (hs x hmem)
       refine Ev.bind ht ?_
       by_cases c:DI x=0
       . rw [if_pos c,if_neg (show ¬ DI x≠0 by simpa using c)]
         exact ih
       . rw [if_neg c,if_pos c]
         have:Sv (DI x)=.inr (DI x):=by unfold Sv;rw [if_neg c]
         rw [this]
         exact Ev.pure
theorem K2 (l:List Aj)(hs:∀ c∈l,HU c):Ev (fun n=>Hb n l) (FH l):=by
 unfold Hb FH
 by_cases h:40<l.length
 . rw [decide_eq_true (show (40:Int)<(l.length:Int) by omega),if_pos h];exact Ev.pure
 . rw [decide_eq_false (show ¬ (40:Int)<(l.length:Int) by omega),if_neg h]
   simp only [cond_false]
   refine Ev.bind (UE l (by omega) hs l 0 rfl (Nat.zero_le _)) ?_
   unfold Sv
   by_cases c:Fx l l 0=0
   . rw [if_pos c,c];exact Ev.pure
   . rw [if_neg c];exact Ev.pure
end Go.Sp
namespace Go.Sp
open Go
set_option maxRecDepth 100000
theorem Sj (e:Aa)(d:Au)(known:Int)(hs:Cs e=true):Ev (fun n=>FR n e d known) ⟨(On e ⟨d,known⟩).1,(On e ⟨d,known⟩).2⟩:=by
 unfold FR On
 simp only [eta]
 refine Ev.bind (Md e hs) ?_
 unfold GV
 simp only
 by_cases c:(AN e).2.2.E=0
 . rw [show ((AN e).2.2.E != 0)=false by simpa using c,if_neg (show ¬ (AN e).2.2.E≠0 by simpa using c)]
   simp only [cond_false]
   refine Ev.bind (IA d known) ?_
   by_cases c2:DQ d known=0
   . rw [show (DQ d known != 0)=false by simpa using c2,if_neg (by simpa using c2)]
     simp only [cond_false]
     exact Ev.bind (M0 ⟨d,known⟩ (TX c2) e hs c) Ev.pure
   . rw [show (DQ d known != 0)=true by simpa using c2,if_pos c2]
     exact Ev.pure
 . rw [show ((AN e).2.2.E != 0)=true by simpa using c,if_pos c]
   exact Ev.pure
def Qf (c:Aj)(d:Au)(known:Int):Int×Int×Bool×Int :=
 if FH [c]≠0 then (0,0,false,FH [c]) else if DQ d known≠0 then (0,0,false,DQ d known)
 else (La ⟨d,known⟩ c.From,La ⟨d,known⟩ c.To,decide (c.Known<=known)&&(La ⟨d,known⟩ c.When == 1),0)
theorem Wx {e:Aa}{t:Int}(h:DY e t=0):(AN e).2.2.E=0:=by
 unfold DY at h
 by_cases c:(AN e).2.2.E=0
 . exact c
 . rw [if_pos c] at h;exact absurd h c
theorem Aac {c:Aj}(h:FH [c]=0):(AN c.From).2.2.E=0/\(AN c.To).2.2.E=0/\(AN c.When).2.2.E=0:=by
 unfold FH at h
 rw [if_neg (by simp),Fx] at h
 by_cases h1:Ce (List.take 0 [c]) c=0
 . have h2:DI c=0:=by
    unfold Ce at h1
    split at h1
    . cases h1
    . split at h1
      . cases h1
      . split at h1
        . cases h1
        . split at h1
          . cases h1
          . exact h1
   unfold DI at h2
   by_cases a:DY c.From 2=0
   . rw [if_neg (by simpa using a)] at h2
     by_cases b:DY c.To 2=0
     . rw [if_neg (by simpa using b)] at h2
       exact⟨Wx a,Wx b,Wx h2⟩
     . rw [if_pos b] at h2;exact absurd h2 b
   . rw [if_pos a] at h2;exact absurd h2 a
 . rw [if_pos h1] at h;exact absurd h h1
theorem XR (c:Aj)(d:Au)(known:Int)(hs:HU c):Ev (fun n=>CZ n c d known) (Qf c d known)/\Ev (fun n=>Ie n c d known) ⟨(Qf c d known).1,(Qf c d known).2.1,(Qf c d known).2.2.1,(Qf c d known).2.2.2⟩:=by
 have hall:∀ x∈[c],HU x:=fun x hx=>by rw [List.mem_singleton.1 hx];exact hs
 unfold CZ Ie Qf
 simp only [Option.bind_some]
 by_cases h1:FH [c]=0
 . obtain⟨f1,f2,f3⟩:=Aac h1
   by_cases h2:DQ d known=0
   . have v1:∀ e,Cs e=true->(AN e).2.2.E=0->PE e ⟨d,known⟩=some (La ⟨d,known⟩ e):=fun e a b=>by unfold PE;rw [if_pos ⟨a,b,h2⟩]
     rw [if_neg (by simpa using h1),if_neg (by simpa using h2)]
     constructor
     . refine Ev.bind (Pp [c] hall) ?_
       rw [show (FH [c] != 0)=false by simpa using h1]
       simp only [cond_false]
       refine Ev.bind (K9 d known) ?_
       rw [show (DQ d known != 0)=false by simpa using h2]
       simp only [cond_false,v1 _ hs.1 f1,v1 _ hs.2.1 f2,v1 _ hs.2.2 f3,Option.bind_some]
       cases decide (c.Known<=known)<;>exact Ev.pure
     . refine Ev.bind (K2 [c] hall) ?_
       rw [show (FH [c] != 0)=false by simpa using h1]
       simp only [cond_false]
       refine Ev.bind (IA d known) ?_
       rw [show (DQ d known != 0)=false by simpa using h2]
       simp only [cond_false]
       have hm:=TX (m:=⟨d,known⟩) h2
       refine Ev.bind (a:=(La ⟨d,known⟩ c.From,La ⟨d,known⟩ c.To,decide (c.Known<=known)&&(La ⟨d,known⟩ c.When == 1))) (Ev.bind (M0 ⟨d,known⟩ hm c.From hs.1 f1) (Ev.bind (M0 ⟨d,known⟩ hm c.To hs.2.1 f2) ?_)) Ev.pure
       cases decide (c.Known<=known) with
       |true=>exact Ev.bind (M0 ⟨d,known⟩ hm c.When hs.2.2 f3) Ev.pure
       |false=>exact Ev.pure
   . rw [if_neg (by simpa using h1),if_pos h2]
     constructor
     . refine Ev.bind (Pp [c] hall) ?_
       rw [show (FH [c] != 0)=false by simpa using h1]
       refine Ev.bind (K9 d known) ?_
       rw [show (DQ d known != 0)=true by simpa using h2]
       exact Ev.pure
     . refine Ev.bind (K2 [c] hall) ?_
       rw [show (FH [c] != 0)=false by simpa using h1]
       refine Ev.bind (IA d known) ?_
       rw [show (DQ d known != 0)=true by simpa using h2]
       exact Ev.pure
 . rw [if_pos h1]
   constructor
   . refine Ev.bind (Pp [c] hall) ?_
     rw [show (FH [c] != 0)=true by simpa using h1]
     exact Ev.pure
   . refine Ev.bind (K2 [c] hall) ?_
     rw [show (FH [c] != 0)=true by simpa using h1]
     exact Ev.pure
theorem Ki (l:List Aa)(d:Au)(known:Int)(k:Nat)(e:Aa)(he:gi l (k:Int)=some e)(hk:k<3)(hs:Cs e=true)(h:Ev (fun n=>A4 n l d known ((k+1:Nat):Int)) (.inl ())):Ev (fun n=>A4 n l d known (k:Int)) (.inl ()):=by
 refine Ev.step (fun n=>CE n l d known (k:Int)) ?_
 simp only [decide_eq_true (show (k:Int)<3 by omega),cond_true,he,Option.bind_some,P4 (show k<4611686018427387904 by omega)]
 refine Ev.bind (Vj e d known hs) (Ev.bind (Sj e d known hs) ?_)
 simp only [bne_self_eq_false,cond_false,Option.bind_some]
 exact h
theorem T6 (c:Aj)(d:Au)(known:Int):Ev (fun n=>BP n c d known) true:=by
 unfold BP
 simp only [WB,Option.bind_some]
 refine Ev.bind (ZR [c] 150 (by decide) (by decide)) ?_
 by_cases hfew:([c]:List Aj).length<=50/\0<=KD [c] 150
 rotate_left
 . simp only [decide_eq_false hfew,Bool.not_false,cond_true,Option.bind_some];exact Ev.pure
 simp only [decide_eq_true hfew,Bool.not_true,cond_false,Option.bind_some]
 by_cases h250:(250:Int)<(d.Facts.length:Int)
 . simp only [decide_eq_true h250,cond_true];exact Ev.pure
 simp only [decide_eq_false h250,cond_false]
 have hs:HU c:=Pg [c] 150 hfew.2 (by decide) c (by simp)
 have hend:Ev (fun n=>A4 n [c.From,c.To,c.When] d known ((2+1:Nat):Int)) (.inl ()):=by
  refine Ev.step (f:=fun _=>some (.inl ())) (fun n=>?_) Ev.pure
  rw [CE];rfl
 have loop:=Ki [c.From,c.To,c.When] d known 0 c.From rfl (by decide) hs.1 (Ki [c.From,c.To,c.When] d known 1 c.To rfl (by decide) hs.2.1 (Ki [c.From,c.To,c.When] d known 2 c.When rfl (by decide) hs.2.2 hend))
 refine Ev.bind loop ?_
 obtain⟨s1,s2⟩:=XR c d known hs
 refine Ev.bind s1 (Ev.bind s2 ?_)
 simp only [cond_true]
 refine Ev.bind (a:=true) (Ev.bind (K9 d known) (Ev.bind (IA d known) ?_)) Ev.pure
 simp only [beq_self_eq_true,cond_true]
 exact Ev.pure
end Go.Sp
