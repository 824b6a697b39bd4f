/-
  The table of operations, as a plain list for every order of the map of comparisons. (The pieces printed by lift.py.) The table of operations: what its pieces compute. The names' types; the table as one of many lists. No program.
-/
import Derived.Test.YtkcfmlfkfagejaaGreatDoorU12
set_option linter.unusedVariables false
set_option linter.unusedSimpArgs false
namespace Go.Sp
open Go Go.Vl
set_option linter.unusedVariables false
def Bd:Nat->(List Int)->(List Af)->Int->Option (List Af)
 |0,_,_,_=>none
 |n+1,l1,l3,v86 =>
  bif (decide (v86<(l1.length:Int))) then
   (gi l1 v86).bind fun x =>
   (some [3,x,x]).bind fun l4 =>
   (some [(Af.mk 20 ⟨#[]⟩ l4 x (Do.c 103))]).bind fun l5 =>
   (Cp 65 l3 l5).bind fun l6 =>
   ((bif (x == 1) then
    some true
   else
    some (x == 2)
   ):Option Bool).bind fun v103 =>
    bif v103 then
     (some [x,x]).bind fun l7 =>
     (some [x,x]).bind fun l8 =>
     (some [(Af.mk 4 ⟨#[109,105,110]⟩ l7 x (Do.c 104)),(Af.mk 4 ⟨#[109,97,120]⟩ l8 x (Do.c 105))]).bind fun l9 =>
     (Cp 65 l6 l9).bind fun l10 =>
     Bd n l1 l10 (IntKind.i64.wrap (v86+1))
    else
     Bd n l1 l6 (IntKind.i64.wrap (v86+1))
  else
   some l3
theorem Db (n:Nat)(l1:(List Int))(l3:(List Af))(v86:Int):Bd (n+1) l1 l3 v86 =
 bif (decide (v86<(l1.length:Int))) then
  (gi l1 v86).bind fun x =>
  (some [3,x,x]).bind fun l4 =>
  (some [(Af.mk 20 ⟨#[]⟩ l4 x (Do.c 103))]).bind fun l5 =>
  (Cp 65 l3 l5).bind fun l6 =>
  ((bif (x == 1) then
   some true
  else
   some (x == 2)
  ):Option Bool).bind fun v103 =>
   bif v103 then
    (some [x,x]).bind fun l7 =>
    (some [x,x]).bind fun l8 =>
    (some [(Af.mk 4 ⟨#[109,105,110]⟩ l7 x (Do.c 104)),(Af.mk 4 ⟨#[109,97,120]⟩ l8 x (Do.c 105))]).bind fun l9 =>
    (Cp 65 l6 l9).bind fun l10 =>
    Bd n l1 l10 (IntKind.i64.wrap (v86+1))
   else
    Bd n l1 l6 (IntKind.i64.wrap (v86+1))
 else
  some l3:=by rw [Bd]
def VI (n:Nat)(l:(List Af)):Option (List Af) :=
 (some [1,2,3,4]).bind fun l1 =>
 ((Bd n l1 l 0
 ):Option (List Af)).bind fun l2 =>
  some l2
def Bt:Nat->(List Int)->Int->Nat->(List Af)->Int->Option ((List Af)×Int×Bool)
 |0,_,_,_,_,_=>none
 |n+1,l1,op,f,l3,v601 =>
  bif (decide (v601<(l1.length:Int))) then
   (gi l1 v601).bind fun x =>
   ((bif (x != 4) then
    some true
   else
    bif (op == 12) then
     some true
    else
     some (op == 13)
   ):Option Bool).bind fun v73 =>
    bif v73 then
     (some [x,x]).bind fun l4 =>
     (some [(Af.mk op ⟨#[]⟩ l4 3 (Do.is f))]).bind fun l5 =>
     (Cp 65 l3 l5).bind fun l6 =>
     Bt n l1 op f l6 (IntKind.i64.wrap (v601+1))
    else
     Bt n l1 op f l3 (IntKind.i64.wrap (v601+1))
  else
   some (l3,v601,(decide (v601<(l1.length:Int))))
theorem B9 (n:Nat)(l1:(List Int))(op:Int)(f:Nat)(l3:(List Af))(v601:Int):Bt (n+1) l1 op f l3 v601 =
 bif (decide (v601<(l1.length:Int))) then
  (gi l1 v601).bind fun x =>
  ((bif (x != 4) then
   some true
  else
   bif (op == 12) then
    some true
   else
    some (op == 13)
  ):Option Bool).bind fun v73 =>
   bif v73 then
    (some [x,x]).bind fun l4 =>
    (some [(Af.mk op ⟨#[]⟩ l4 3 (Do.is f))]).bind fun l5 =>
    (Cp 65 l3 l5).bind fun l6 =>
    Bt n l1 op f l6 (IntKind.i64.wrap (v601+1))
   else
    Bt n l1 op f l3 (IntKind.i64.wrap (v601+1))
 else
  some (l3,v601,(decide (v601<(l1.length:Int)))):=by rw [Bt]
def X8 (n:Nat)(l:(List Af))(op:Int)(f:Nat):Option (List Af) :=
 (some [1,2,4]).bind fun l1 =>
 ((Bt n l1 op f l 0
 ):Option ((List Af)×Int×Bool)).bind fun y=>match y with
 |(l2,v60,v61) =>
  some l2
def BO:Nat->(List ByteArray)->(List Af)->Int->Option ((List Af)×Int×Bool)
 |0,_,_,_=>none
 |n+1,l13,l15,v371 =>
  bif (decide (v371<(l13.length:Int))) then
   (gi l13 v371).bind fun x =>
   (some [4]).bind fun l16 =>
   (some [(Af.mk 4 x l16 2 (Do.k v371))]).bind fun l17 =>
   (Cp 65 l15 l17).bind fun l18 =>
   BO n l13 l18 (IntKind.i64.wrap (v371+1))
  else
   some (l15,v371,(decide (v371<(l13.length:Int))))
theorem H3 (n:Nat)(l13:(List ByteArray))(l15:(List Af))(v371:Int):BO (n+1) l13 l15 v371 =
 bif (decide (v371<(l13.length:Int))) then
  (gi l13 v371).bind fun x =>
  (some [4]).bind fun l16 =>
  (some [(Af.mk 4 x l16 2 (Do.k v371))]).bind fun l17 =>
  (Cp 65 l15 l17).bind fun l18 =>
  BO n l13 l18 (IntKind.i64.wrap (v371+1))
 else
  some (l15,v371,(decide (v371<(l13.length:Int)))):=by rw [BO]
def YY (n:Nat):Option (List Af) :=
 (some [1]).bind fun l =>
 (some [1,1]).bind fun l1 =>
 (some [1,1]).bind fun l2 =>
 (some [2,1]).bind fun l3 =>
 (some [1,1]).bind fun l4 =>
 (some [2,1]).bind fun l5 =>
 (some [2,2]).bind fun l6 =>
 (some [3]).bind fun l7 =>
 (some [3,3]).bind fun l8 =>
 (some [3,3]).bind fun l9 =>
 (some [1]).bind fun l10 =>
 (some [1]).bind fun l11 =>
 (some [(Af.mk 6 ⟨#[]⟩ l 1 (Do.c 77)),(Af.mk 7 ⟨#[]⟩ l1 1 (Do.c 78)),(Af.mk 10 ⟨#[]⟩ l2 1 (Do.c 80)),(Af.mk 10 ⟨#[]⟩ l3 2 (Do.c 82)),(Af.mk 11 ⟨#[]⟩ l4 1 (Do.c 84)),(Af.mk 11 ⟨#[]⟩ l5 2 (Do.c 85)),(Af.mk 11 ⟨#[]⟩ l6 1 (Do.c 86)),(Af.mk 5 ⟨#[]⟩ l7 3 (Do.c 87)),(Af.mk 18 ⟨#[]⟩ l8 3 (Do.c 88)),(Af.mk 19 ⟨#[]⟩ l9 3 (Do.c 89)),(Af.mk 4 ⟨#[100,97,121]⟩ l10 2 (Do.c 90)),(Af.mk 4 ⟨#[112,101,114,115,111,110]⟩ l11 4 (Do.c 92))]).bind fun l12 =>
 (some [⟨#[98,111,114,110]⟩,⟨#[100,105,101,100]⟩,⟨#[97,115,107,101,100]⟩,⟨#[104,101,108,100]⟩,⟨#[108,105,102,116,101,100]⟩]).bind fun l13 =>
 ((BO n l13 l12 0
 ):Option ((List Af)×Int×Bool)).bind fun y=>match y with
 |(l14,v37,v38) =>
  some l14
def CK:List (Value×Value):=[(.int .i64 14,.func (.func 95) #[] #[]),(.int .i64 15,.func (.func 96) #[] #[]),(.int .i64 16,.func (.func 97) #[] #[]),(.int .i64 17,.func (.func 98) #[] #[]),(.int .i64 12,.func (.func 99) #[] #[]),(.int .i64 13,.func (.func 100) #[] #[])]
def opk:List (Int×Nat):=[(14,95),(15,96),(16,97),(17,98),(12,99),(13,100)]
end Go.Sp
namespace Go.Sp
open Go Go.Vl
def Fm:List Af :=
 [⟨6,⟨#[]⟩,[1],1,.c 77⟩,⟨7,⟨#[]⟩,[1,1],1,.c 78⟩,⟨10,⟨#[]⟩,[1,1],1,.c 80⟩,⟨10,⟨#[]⟩,[2,1],2,.c 82⟩,⟨11,⟨#[]⟩,[1,1],1,.c 84⟩,⟨11,⟨#[]⟩,[2,1],2,.c 85⟩,
  ⟨11,⟨#[]⟩,[2,2],1,.c 86⟩,⟨5,⟨#[]⟩,[3],3,.c 87⟩,⟨18,⟨#[]⟩,[3,3],3,.c 88⟩,⟨19,⟨#[]⟩,[3,3],3,.c 89⟩,⟨4,⟨#[100,97,121]⟩,[1],2,.c 90⟩,⟨4,⟨#[112,101,114,115,111,110]⟩,[1],4,.c 92⟩,
  ⟨4,⟨#[98,111,114,110]⟩,[4],2,.k 0⟩,⟨4,⟨#[100,105,101,100]⟩,[4],2,.k 1⟩,⟨4,⟨#[97,115,107,101,100]⟩,[4],2,.k 2⟩,⟨4,⟨#[104,101,108,100]⟩,[4],2,.k 3⟩,⟨4,⟨#[108,105,102,116,101,100]⟩,[4],2,.k 4⟩]
def Il (op:Int)(f:Nat):List Af :=
 [⟨op,⟨#[]⟩,[1,1],3,.is f⟩,⟨op,⟨#[]⟩,[2,2],3,.is f⟩]++if op=12∨op=13 then [⟨op,⟨#[]⟩,[4,4],3,.is f⟩] else []
def Gt (i:Nat):List Af:=match opk[i]? with
 |some (op,f)=>Il op f
 |none=>[]
def Pe:List Af :=
 [⟨20,⟨#[]⟩,[3,1,1],1,.c 103⟩,⟨4,⟨#[109,105,110]⟩,[1,1],1,.c 104⟩,⟨4,⟨#[109,97,120]⟩,[1,1],1,.c 105⟩,⟨20,⟨#[]⟩,[3,2,2],2,.c 103⟩,⟨4,⟨#[109,105,110]⟩,[2,2],2,.c 104⟩,⟨4,⟨#[109,97,120]⟩,[2,2],2,.c 105⟩,
  ⟨20,⟨#[]⟩,[3,3,3],3,.c 103⟩,⟨20,⟨#[]⟩,[3,4,4],4,.c 103⟩]
def Ord (os:List Nat):Prop:=os.Nodup/\(∀ i∈os,i<6)/\∀ i,i<6->i∈os
theorem X9:YY 20=some Fm:=by kernel_rfl
theorem Wl {l ys:List Af}(h1:l.length<=100)(h2:ys.length<=100):Cp 65 l ys=some (l++ys):=by
 unfold Cp
 rw [if_pos (by omega)]
theorem X7 (l:List Af)(op:Int)(f:Nat)(hl:l.length<=40):X8 20 l op f=some (l++Il op f):=by
 unfold X8
 rw [Option.bind_some]
 rw [B9]
 rw [show (decide ((0:Int)<(([1,2,4]:List Int).length:Int)))=true from rfl,cond_true,show gi ([1,2,4]:List Int) 0=some 1 from rfl,Option.bind_some]
 rw [show ((1:Int) != 4)=true from rfl,cond_true,Option.bind_some,cond_true,Option.bind_some,Option.bind_some,Wl (by omega) (by simp),Option.bind_some]
 rw [B9]
 rw [show (decide (IntKind.i64.wrap (0+1)<(([1,2,4]:List Int).length:Int)))=true from rfl,cond_true,show gi ([1,2,4]:List Int) (IntKind.i64.wrap (0+1))=some 2 from rfl,Option.bind_some]
 rw [show ((2:Int) != 4)=true from rfl,cond_true,Option.bind_some,cond_true,Option.bind_some,Option.bind_some,Wl (by simp;omega) (by simp),Option.bind_some]
 rw [B9]
 rw [show (decide (IntKind.i64.wrap (IntKind.i64.wrap (0+1)+1)<(([1,2,4]:List Int).length:Int)))=true from rfl,cond_true,show gi ([1,2,4]:List Int) (IntKind.i64.wrap (IntKind.i64.wrap (0+1)+1))=some 4 from rfl,Option.bind_some]
 rw [show ((4:Int) != 4)=false from rfl,cond_false]
 by_cases h:op=12∨op=13
 . have e:((bif (op == 12) then some true else some (op == 13)):Option Bool)=some true:=by
    rcases h with h|h<;>subst h<;>rfl
   rw [e,Option.bind_some,cond_true,Option.bind_some,Option.bind_some,Wl (by simp;omega) (by simp),Option.bind_some,B9]
   rw [show (decide (IntKind.i64.wrap (IntKind.i64.wrap (IntKind.i64.wrap (0+1)+1)+1)<(([1,2,4]:List Int).length:Int)))=false from rfl,cond_false,Option.bind_some]
   unfold Il
   rw [if_pos h]
   simp only [List.append_assoc]
   rfl
 . have e:((bif (op == 12) then some true else some (op == 13)):Option Bool)=some false:=by
    have h1:(op == 12)=false:=by simpa using fun e=>h (.inl e)
    have h2:(op == 13)=false:=by simpa using fun e=>h (.inr e)
    rw [h1,h2];rfl
   rw [e,Option.bind_some,cond_false,B9]
   rw [show (decide (IntKind.i64.wrap (IntKind.i64.wrap (IntKind.i64.wrap (0+1)+1)+1)<(([1,2,4]:List Int).length:Int)))=false from rfl,cond_false,Option.bind_some]
   unfold Il
   rw [if_neg h]
   simp only [List.append_assoc]
   rfl
theorem TS (l:List Af)(hl:l.length<=40):VI 20 l=some (l++Pe):=by
 unfold VI
 rw [Option.bind_some]
 have step:∀ (n:Nat) (v x:Int) (m:List Af),m.length<=60->(decide (v<(([1,2,3,4]:List Int).length:Int)))=true->gi [1,2,3,4] v=some x ->
  Bd (n+1) [1,2,3,4] m v=Bd n [1,2,3,4] (m++(⟨20,⟨#[]⟩,[3,x,x],x,.c 103⟩::if x=1∨x=2 then [⟨4,⟨#[109,105,110]⟩,[x,x],x,.c 104⟩,⟨4,⟨#[109,97,120]⟩,[x,x],x,.c 105⟩] else [])) (IntKind.i64.wrap (v+1)):=by
  intro n v x m hm h1 h2
  rw [Db,h1,cond_true,h2,Option.bind_some,Option.bind_some,Option.bind_some,Wl (by omega) (by simp),Option.bind_some]
  by_cases h:x=1∨x=2
  . have e:((bif (x == 1) then some true else some (x == 2)):Option Bool)=some true:=by
     rcases h with h|h<;>subst h<;>rfl
    rw [e,Option.bind_some,cond_true,Option.bind_some,Option.bind_some,Option.bind_some,Wl (by simp;omega) (by simp),Option.bind_some,if_pos h,List.append_assoc]
    rfl
  . have e:((bif (x == 1) then some true else some (x == 2)):Option Bool)=some false:=by
     have h1:(x == 1)=false:=by simpa using fun e=>h (.inl e)
     have h2:(x == 2)=false:=by simpa using fun e=>h (.inr e)
     rw [h1,h2];rfl
    rw [e,Option.bind_some,cond_false,if_neg h]
 rw [step 19 0 1 l (by omega) rfl rfl,step 18 _ 2 _ (by simp;omega) rfl rfl,step 17 _ 3 _ (by simp;omega) rfl rfl,step 16 _ 4 _ (by simp;omega) rfl rfl,Db,
  show (decide (IntKind.i64.wrap (IntKind.i64.wrap (IntKind.i64.wrap (IntKind.i64.wrap (0+1)+1)+1)+1)<(([1,2,3,4]:List Int).length:Int)))=false from rfl,cond_false,Option.bind_some]
 simp only [List.append_assoc]
 rfl
theorem X6 (l:List Af)(hl:l.length<=40):∃ r,VI 20 l=some r:=⟨_,TS l hl⟩
theorem ndl:∀ (n:Nat) (l:List Nat),l.Nodup->(∀ i∈l,i<n)->l.length<=n
 |0,l,_,h=>by
  cases l with
  |nil=>simp
  |cons a r=>exact absurd (h a (by simp)) (by omega)
 |n+1,l,hn,h=>by
  have h1:=ndl n (l.erase n) (hn.erase n) (fun i hi=>by
   have h2:=h i (List.mem_of_mem_erase hi)
   have h3:i≠n:=fun e=>by
    subst e
    exact (List.Nodup.not_mem_erase hn) hi
   omega)
  rw [List.length_erase] at h1
  split at h1<;>omega
theorem Va (i:Nat):(Gt i).length<=3:=by
 unfold Gt
 split
 . unfold Il;split<;>simp
 . simp
theorem Ok:∀ (s:List Nat),(s.flatMap Gt).length<=3*s.length
 | []=>by simp
 |a::r=>by
  have h1:=Ok r
  have h2:=Va a
  rw [List.flatMap_cons,List.length_append,List.length_cons]
  omega
section
variable {seen:List Nat} {i:Nat} {l l' r:List Af} {op:Int} {f:Nat}
theorem SW (hlen:seen.length<=6)(hl:l=Fm++seen.flatMap Gt):l.length<=40:=by
 have:=Ok seen
 rw [hl,List.length_append]
 have e:Fm.length=17:=rfl
 omega
theorem Acf (i:Nat)(h:i<CK.length):∃ op f,CK[i]?=some (.int .i64 op,.func (.func f) #[] #[])/\opk[i]?=some (op,f):=by
 have h6:i<6:=h
 match i,h6 with
 |0,_=>exact⟨14,95,rfl,rfl⟩
 |1,_=>exact⟨15,96,rfl,rfl⟩
 |2,_=>exact⟨16,97,rfl,rfl⟩
 |3,_=>exact⟨17,98,rfl,rfl⟩
 |4,_=>exact⟨12,99,rfl,rfl⟩
 |5,_=>exact⟨13,100,rfl,rfl⟩
theorem YW (hnd:seen.Nodup)(hlt:∀ i∈seen,i<6)(hall:∀ i,i<CK.length->i∈seen):Ord seen:=⟨hnd,hlt,fun i hi=>hall i hi⟩
theorem nd1 (hnd:seen.Nodup)(hn:i∉seen):(seen++[i]).Nodup:=by
 rw [List.nodup_append]
 refine⟨hnd,by simp,fun a ha b hb=>?_⟩
 rw [List.mem_singleton.1 hb]
 rintro rfl;exact hn ha
theorem lt1 (hlt:∀ i∈seen,i<6)(hi:i<CK.length):∀ j∈seen++[i],j<6:=fun j hj=>by
 rcases List.mem_append.1 hj with h|h
 . exact hlt j h
 . rw [List.mem_singleton.1 h];exact hi
theorem Ab9 (hnd:seen.Nodup)(hlt:∀ i∈seen,i<6)(hn:i∉seen)(hi:i<CK.length):6-(seen++[i]).length<6-seen.length:=by
 have:=ndl 6 _ (nd1 hnd hn) (lt1 hlt hi)
 rw [List.length_append,List.length_singleton] at this ⊢
 omega
theorem Aca (hnd:seen.Nodup)(hlt:∀ i∈seen,i<6)(hl:l=Fm++seen.flatMap Gt)(hn:i∉seen)(hi:i<CK.length)(hop:opk[i]?=some (op,f))(hB:r=l++Il op f)(h:some l'=some r) :
 (seen++[i]).Nodup/\(∀ j∈seen++[i],j<6)/\(seen++[i]).length<=6/\l'=Fm++(seen++[i]).flatMap Gt:=by
 refine⟨nd1 hnd hn,lt1 hlt hi,ndl 6 _ (nd1 hnd hn) (lt1 hlt hi),?_⟩
 rw [Aa h,hB,hl,List.flatMap_append,List.append_assoc]
 congr 2
 rw [List.flatMap_cons,List.flatMap_nil,List.append_nil]
 unfold Gt
 rw [hop]
end
def opsOf (os:List Nat):List Af:=Fm++os.flatMap Gt++Pe
end Go.Sp
namespace Go.Sp
open Go Go.Vl
def CH:List (ByteArray×Int):=[(⟨#[121,101,97,114]⟩,1),(⟨#[115,116,111,114,101,100]⟩,2),(⟨#[110,101,118,101,114]⟩,2),(⟨#[111,119,110,101,114]⟩,4)]
instance (os:List Nat):Decidable (Ord os):=by unfold Ord;exact inferInstance
def Pu (os:List Nat):List Nat:=if Ord os then os else [0,1,2,3,4,5]
theorem Pt (os:List Nat):Ord (Pu os):=by
 unfold Pu
 split
 . assumption
 . decide
theorem VG {os:List Nat}(h:Ord os):Pu os=os:=if_pos h
abbrev Br:PV:=.dis fun os=>(opsOf (Pu os)).map Ag
abbrev CW:PV:=.vmp (L6 CH)
end Go.Sp
