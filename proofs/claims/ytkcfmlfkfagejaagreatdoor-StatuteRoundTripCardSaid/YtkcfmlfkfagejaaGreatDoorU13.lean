/-
  The table of operations, as a plain list for every order of the map of comparisons. (The pieces printed by lift.py.) The table of operations: what its pieces compute. The names' types; the table as one of many lists. No program.
-/
import Derived.Test.YtkcfmlfkfagejaaGreatDoorU12
set_option linter.unusedVariables false
set_option linter.unusedSimpArgs false
namespace Go.Sp
open Go Go.Vl
set_option linter.unusedVariables false
def Bb:Nat->(List Int)->(List Af)->Int->Option (List Af)
 |0,_,_,_=>none
 |n+1,l1,l3,v86 =>
  bif (decide (v86<(l1.length:Int))) then
   (gi l1 v86).bind fun x =>
   (some [3,x,x]).bind fun l4 =>
   (some [(Af.mk 20 ⟨#[]⟩ l4 x (Do.c 103))]).bind fun l5 =>
   (B4 65 l3 l5).bind fun l6 =>
   ((bif (x == 1) then
    some true
   else
    some (x == 2)
   ):Option Bool).bind fun v103 =>
    bif v103 then
     (some [x,x]).bind fun l7 =>
     (some [x,x]).bind fun l8 =>
     (some [(Af.mk 4 ⟨#[109,105,110]⟩ l7 x (Do.c 104)),(Af.mk 4 ⟨#[109,97,120]⟩ l8 x (Do.c 105))]).bind fun l9 =>
     (B4 65 l6 l9).bind fun l10 =>
     Bb n l1 l10 (À (v86+1))
    else
     Bb n l1 l6 (À (v86+1))
  else
   some l3
theorem D6 (n:Nat)(l1:(List Int))(l3:(List Af))(v86:Int):Bb (n+1) l1 l3 v86 =
 bif (decide (v86<(l1.length:Int))) then
  (gi l1 v86).bind fun x =>
  (some [3,x,x]).bind fun l4 =>
  (some [(Af.mk 20 ⟨#[]⟩ l4 x (Do.c 103))]).bind fun l5 =>
  (B4 65 l3 l5).bind fun l6 =>
  ((bif (x == 1) then
   some true
  else
   some (x == 2)
  ):Option Bool).bind fun v103 =>
   bif v103 then
    (some [x,x]).bind fun l7 =>
    (some [x,x]).bind fun l8 =>
    (some [(Af.mk 4 ⟨#[109,105,110]⟩ l7 x (Do.c 104)),(Af.mk 4 ⟨#[109,97,120]⟩ l8 x (Do.c 105))]).bind fun l9 =>
    (B4 65 l6 l9).bind fun l10 =>
    Bb n l1 l10 (À (v86+1))
   else
    Bb n l1 l6 (À (v86+1))
 else
  some l3:=by rw [Bb]
def Aam (n:Nat)(l:(List Af)):Option (List Af) :=
 (some [1,2,3,4]).bind fun l1 =>
 ((Bb n l1 l 0
 ):Option (List Af)).bind fun l2 =>
  some l2
def Br:Nat->(List Int)->Int->Nat->(List Af)->Int->Option ((List Af)×Int×Bool)
 |0,_,_,_,_,_=>none
 |n+1,l1,op,f,l3,v601 =>
  bif (decide (v601<(l1.length:Int))) then
   (gi l1 v601).bind fun x =>
   ((bif (x != 4) then
    some true
   else
    bif (op == 12) then
     some true
    else
     some (op == 13)
   ):Option Bool).bind fun v73 =>
    bif v73 then
     (some [x,x]).bind fun l4 =>
     (some [(Af.mk op ⟨#[]⟩ l4 3 (Do.is f))]).bind fun l5 =>
     (B4 65 l3 l5).bind fun l6 =>
     Br n l1 op f l6 (À (v601+1))
    else
     Br n l1 op f l3 (À (v601+1))
  else
   some (l3,v601,(decide (v601<(l1.length:Int))))
theorem BC (n:Nat)(l1:(List Int))(op:Int)(f:Nat)(l3:(List Af))(v601:Int):Br (n+1) l1 op f l3 v601 =
 bif (decide (v601<(l1.length:Int))) then
  (gi l1 v601).bind fun x =>
  ((bif (x != 4) then
   some true
  else
   bif (op == 12) then
    some true
   else
    some (op == 13)
  ):Option Bool).bind fun v73 =>
   bif v73 then
    (some [x,x]).bind fun l4 =>
    (some [(Af.mk op ⟨#[]⟩ l4 3 (Do.is f))]).bind fun l5 =>
    (B4 65 l3 l5).bind fun l6 =>
    Br n l1 op f l6 (À (v601+1))
   else
    Br n l1 op f l3 (À (v601+1))
 else
  some (l3,v601,(decide (v601<(l1.length:Int)))):=by rw [Br]
def Adv (n:Nat)(l:(List Af))(op:Int)(f:Nat):Option (List Af) :=
 (some [1,2,4]).bind fun l1 =>
 ((Br n l1 op f l 0
 ):Option ((List Af)×Int×Bool)).bind fun y=>match y with
 |(l2,v60,v61) =>
  some l2
def BY:Nat->(List Â)->(List Af)->Int->Option ((List Af)×Int×Bool)
 |0,_,_,_=>none
 |n+1,l13,l15,v371 =>
  bif (decide (v371<(l13.length:Int))) then
   (gi l13 v371).bind fun x =>
   (some [4]).bind fun l16 =>
   (some [(Af.mk 4 x l16 2 (Do.k v371))]).bind fun l17 =>
   (B4 65 l15 l17).bind fun l18 =>
   BY n l13 l18 (À (v371+1))
  else
   some (l15,v371,(decide (v371<(l13.length:Int))))
theorem IA (n:Nat)(l13:(List Â))(l15:(List Af))(v371:Int):BY (n+1) l13 l15 v371 =
 bif (decide (v371<(l13.length:Int))) then
  (gi l13 v371).bind fun x =>
  (some [4]).bind fun l16 =>
  (some [(Af.mk 4 x l16 2 (Do.k v371))]).bind fun l17 =>
  (B4 65 l15 l17).bind fun l18 =>
  BY n l13 l18 (À (v371+1))
 else
  some (l15,v371,(decide (v371<(l13.length:Int)))):=by rw [BY]
def Agc (n:Nat):Option (List Af) :=
 (some [1]).bind fun l =>
 (some [1,1]).bind fun l1 =>
 (some [1,1]).bind fun l2 =>
 (some [2,1]).bind fun l3 =>
 (some [1,1]).bind fun l4 =>
 (some [2,1]).bind fun l5 =>
 (some [2,2]).bind fun l6 =>
 (some [3]).bind fun l7 =>
 (some [3,3]).bind fun l8 =>
 (some [3,3]).bind fun l9 =>
 (some [1]).bind fun l10 =>
 (some [1]).bind fun l11 =>
 (some [(Af.mk 6 ⟨#[]⟩ l 1 (Do.c 77)),(Af.mk 7 ⟨#[]⟩ l1 1 (Do.c 78)),(Af.mk 10 ⟨#[]⟩ l2 1 (Do.c 80)),(Af.mk 10 ⟨#[]⟩ l3 2 (Do.c 82)),(Af.mk 11 ⟨#[]⟩ l4 1 (Do.c 84)),(Af.mk 11 ⟨#[]⟩ l5 2 (Do.c 85)),(Af.mk 11 ⟨#[]⟩ l6 1 (Do.c 86)),(Af.mk 5 ⟨#[]⟩ l7 3 (Do.c 87)),(Af.mk 18 ⟨#[]⟩ l8 3 (Do.c 88)),(Af.mk 19 ⟨#[]⟩ l9 3 (Do.c 89)),(Af.mk 4 ⟨#[100,97,121]⟩ l10 2 (Do.c 90)),(Af.mk 4 ⟨#[112,101,114,115,111,110]⟩ l11 4 (Do.c 92))]).bind fun l12 =>
 (some [⟨#[98,111,114,110]⟩,⟨#[100,105,101,100]⟩,⟨#[97,115,107,101,100]⟩,⟨#[104,101,108,100]⟩,⟨#[108,105,102,116,101,100]⟩]).bind fun l13 =>
 ((BY n l13 l12 0
 ):Option ((List Af)×Int×Bool)).bind fun y=>match y with
 |(l14,v37,v38) =>
  some l14
def De:List (Value×Value):=[(.int .i64 14,.func (.func 95) #[] #[]),(.int .i64 15,.func (.func 96) #[] #[]),(.int .i64 16,.func (.func 97) #[] #[]),(.int .i64 17,.func (.func 98) #[] #[]),(.int .i64 12,.func (.func 99) #[] #[]),(.int .i64 13,.func (.func 100) #[] #[])]
def opk:List (Int×Nat):=[(14,95),(15,96),(16,97),(17,98),(12,99),(13,100)]
end Go.Sp
namespace Go.Sp
open Go Go.Vl
def FT:List Af :=
 [⟨6,⟨#[]⟩,[1],1,.c 77⟩,⟨7,⟨#[]⟩,[1,1],1,.c 78⟩,⟨10,⟨#[]⟩,[1,1],1,.c 80⟩,⟨10,⟨#[]⟩,[2,1],2,.c 82⟩,⟨11,⟨#[]⟩,[1,1],1,.c 84⟩,⟨11,⟨#[]⟩,[2,1],2,.c 85⟩,
  ⟨11,⟨#[]⟩,[2,2],1,.c 86⟩,⟨5,⟨#[]⟩,[3],3,.c 87⟩,⟨18,⟨#[]⟩,[3,3],3,.c 88⟩,⟨19,⟨#[]⟩,[3,3],3,.c 89⟩,⟨4,⟨#[100,97,121]⟩,[1],2,.c 90⟩,⟨4,⟨#[112,101,114,115,111,110]⟩,[1],4,.c 92⟩,
  ⟨4,⟨#[98,111,114,110]⟩,[4],2,.k 0⟩,⟨4,⟨#[100,105,101,100]⟩,[4],2,.k 1⟩,⟨4,⟨#[97,115,107,101,100]⟩,[4],2,.k 2⟩,⟨4,⟨#[104,101,108,100]⟩,[4],2,.k 3⟩,⟨4,⟨#[108,105,102,116,101,100]⟩,[4],2,.k 4⟩]
def J4 (op:Int)(f:Nat):List Af :=
 [⟨op,⟨#[]⟩,[1,1],3,.is f⟩,⟨op,⟨#[]⟩,[2,2],3,.is f⟩]++if op=12∨op=13 then [⟨op,⟨#[]⟩,[4,4],3,.is f⟩] else []
def Hm (i:Nat):List Af:=match opk[i]? with
 |some (op,f)=>J4 op f
 |none=>[]
def OY:List Af :=
 [⟨20,⟨#[]⟩,[3,1,1],1,.c 103⟩,⟨4,⟨#[109,105,110]⟩,[1,1],1,.c 104⟩,⟨4,⟨#[109,97,120]⟩,[1,1],1,.c 105⟩,⟨20,⟨#[]⟩,[3,2,2],2,.c 103⟩,⟨4,⟨#[109,105,110]⟩,[2,2],2,.c 104⟩,⟨4,⟨#[109,97,120]⟩,[2,2],2,.c 105⟩,
  ⟨20,⟨#[]⟩,[3,3,3],3,.c 103⟩,⟨20,⟨#[]⟩,[3,4,4],4,.c 103⟩]
def Ord (os:List Nat):Prop:=os.Nodup/\(∀ i∈os,i<6)/\∀ i,i<6->i∈os
theorem Adw:Agc 20=some FT:=by kernel_rfl
theorem Abj {l ys:List Af}(h1:l.length<=100)(h2:ys.length<=100):B4 65 l ys=some (l++ys):=by
 unfold B4
 rw [Ê (by omega)]
theorem Adu (l:List Af)(op:Int)(f:Nat)(hl:l.length<=40):Adv 20 l op f=some (l++J4 op f):=by
 unfold Adv
 rw [Á]
 rw [BC]
 rw [show (decide ((0:Int)<(([1,2,4]:List Int).length:Int)))=true from rfl,É,show gi ([1,2,4]:List Int) 0=some 1 from rfl,Á]
 rw [show ((1:Int) != 4)=true from rfl,É,Á,É,Á,Á,Abj (by omega) (by simp),Á]
 rw [BC]
 rw [show (decide (À (0+1)<(([1,2,4]:List Int).length:Int)))=true from rfl,É,show gi ([1,2,4]:List Int) (À (0+1))=some 2 from rfl,Á]
 rw [show ((2:Int) != 4)=true from rfl,É,Á,É,Á,Á,Abj (by simp;omega) (by simp),Á]
 rw [BC]
 rw [show (decide (À (À (0+1)+1)<(([1,2,4]:List Int).length:Int)))=true from rfl,É,show gi ([1,2,4]:List Int) (À (À (0+1)+1))=some 4 from rfl,Á]
 rw [show ((4:Int) != 4)=false from rfl,Ä]
 by_cases h:op=12∨op=13
 . have e:((bif (op == 12) then some true else some (op == 13)):Option Bool)=some true:=by
    rcases h with h|h<;>subst h<;>rfl
   rw [e,Á,É,Á,Á,Abj (by simp;omega) (by simp),Á,BC]
   rw [show (decide (À (À (À (0+1)+1)+1)<(([1,2,4]:List Int).length:Int)))=false from rfl,Ä,Á]
   unfold J4
   rw [Ê h]
   simp only [Ý]
   rfl
 . have e:((bif (op == 12) then some true else some (op == 13)):Option Bool)=some false:=by
    have h1:(op == 12)=false:=by simpa using fun e=>h (.inl e)
    have h2:(op == 13)=false:=by simpa using fun e=>h (.inr e)
    rw [h1,h2];rfl
   rw [e,Á,Ä,BC]
   rw [show (decide (À (À (À (0+1)+1)+1)<(([1,2,4]:List Int).length:Int)))=false from rfl,Ä,Á]
   unfold J4
   rw [È h]
   simp only [Ý]
   rfl
theorem XS (l:List Af)(hl:l.length<=40):Aam 20 l=some (l++OY):=by
 unfold Aam
 rw [Á]
 have step:∀ (n:Nat) (v x:Int) (m:List Af),m.length<=60->(decide (v<(([1,2,3,4]:List Int).length:Int)))=true->gi [1,2,3,4] v=some x ->
  Bb (n+1) [1,2,3,4] m v=Bb n [1,2,3,4] (m++(⟨20,⟨#[]⟩,[3,x,x],x,.c 103⟩::if x=1∨x=2 then [⟨4,⟨#[109,105,110]⟩,[x,x],x,.c 104⟩,⟨4,⟨#[109,97,120]⟩,[x,x],x,.c 105⟩] else [])) (À (v+1)):=by
  intro n v x m hm h1 h2
  rw [D6,h1,É,h2,Á,Á,Á,Abj (by omega) (by simp),Á]
  by_cases h:x=1∨x=2
  . have e:((bif (x == 1) then some true else some (x == 2)):Option Bool)=some true:=by
     rcases h with h|h<;>subst h<;>rfl
    rw [e,Á,É,Á,Á,Á,Abj (by simp;omega) (by simp),Á,Ê h,Ý]
    rfl
  . have e:((bif (x == 1) then some true else some (x == 2)):Option Bool)=some false:=by
     have h1:(x == 1)=false:=by simpa using fun e=>h (.inl e)
     have h2:(x == 2)=false:=by simpa using fun e=>h (.inr e)
     rw [h1,h2];rfl
    rw [e,Á,Ä,È h]
 rw [step 19 0 1 l (by omega) rfl rfl,step 18 _ 2 _ (by simp;omega) rfl rfl,step 17 _ 3 _ (by simp;omega) rfl rfl,step 16 _ 4 _ (by simp;omega) rfl rfl,D6,
  show (decide (À (À (À (À (0+1)+1)+1)+1)<(([1,2,3,4]:List Int).length:Int)))=false from rfl,Ä,Á]
 simp only [Ý]
 rfl
theorem Adt (l:List Af)(hl:l.length<=40):∃ r,Aam 20 l=some r:=⟨_,XS l hl⟩
theorem ndl:∀ (n:Nat) (l:List Nat),l.Nodup->(∀ i∈l,i<n)->l.length<=n
 |0,l,_,h=>by
  cases l with
  |nil=>simp
  |cons a r=>exact absurd (h a (by simp)) (by omega)
 |n+1,l,hn,h=>by
  have h1:=ndl n (l.erase n) (hn.erase n) (fun i hi=>by
   have h2:=h i (List.mem_of_mem_erase hi)
   have h3:i≠n:=fun e=>by
    subst e
    exact (List.Nodup.not_mem_erase hn) hi
   omega)
  rw [List.length_erase] at h1
  split at h1<;>omega
theorem Zr (i:Nat):(Hm i).length<=3:=by
 unfold Hm
 split
 . unfold J4;split<;>simp
 . simp
theorem Rb:∀ (s:List Nat),(s.flatMap Hm).length<=3*s.length
 | []=>by simp
 |a::r=>by
  have h1:=Rb r
  have h2:=Zr a
  rw [ę,Ç,Æ]
  omega
section
variable {seen:List Nat} {i:Nat} {l l' r:List Af} {op:Int} {f:Nat}
theorem WV (hlen:seen.length<=6)(hl:l=FT++seen.flatMap Hm):l.length<=40:=by
 have:=Rb seen
 rw [hl,Ç]
 have e:FT.length=17:=rfl
 omega
theorem Aji (i:Nat)(h:i<De.length):∃ op f,De[i]?=some (.int .i64 op,.func (.func f) #[] #[])/\opk[i]?=some (op,f):=by
 have h6:i<6:=h
 match i,h6 with
 |0,_=>exact⟨14,95,rfl,rfl⟩
 |1,_=>exact⟨15,96,rfl,rfl⟩
 |2,_=>exact⟨16,97,rfl,rfl⟩
 |3,_=>exact⟨17,98,rfl,rfl⟩
 |4,_=>exact⟨12,99,rfl,rfl⟩
 |5,_=>exact⟨13,100,rfl,rfl⟩
theorem Aga (hnd:seen.Nodup)(hlt:∀ i∈seen,i<6)(hall:∀ i,i<De.length->i∈seen):Ord seen:=⟨hnd,hlt,fun i hi=>hall i hi⟩
theorem nd1 (hnd:seen.Nodup)(hn:i∉seen):(seen++[i]).Nodup:=by
 rw [Ģ]
 refine⟨hnd,by simp,fun a ha b hb=>?_⟩
 rw [List.mem_singleton.1 hb]
 rintro rfl;exact hn ha
theorem lt1 (hlt:∀ i∈seen,i<6)(hi:i<De.length):∀ j∈seen++[i],j<6:=fun j hj=>by
 rcases List.mem_append.1 hj with h|h
 . exact hlt j h
 . rw [List.mem_singleton.1 h];exact hi
theorem Ajd (hnd:seen.Nodup)(hlt:∀ i∈seen,i<6)(hn:i∉seen)(hi:i<De.length):6-(seen++[i]).length<6-seen.length:=by
 have:=ndl 6 _ (nd1 hnd hn) (lt1 hlt hi)
 rw [Ç,Ď] at this ⊢
 omega
theorem Aje (hnd:seen.Nodup)(hlt:∀ i∈seen,i<6)(hl:l=FT++seen.flatMap Hm)(hn:i∉seen)(hi:i<De.length)(hop:opk[i]?=some (op,f))(hB:r=l++J4 op f)(h:some l'=some r) :
 (seen++[i]).Nodup/\(∀ j∈seen++[i],j<6)/\(seen++[i]).length<=6/\l'=FT++(seen++[i]).flatMap Hm:=by
 refine⟨nd1 hnd hn,lt1 hlt hi,ndl 6 _ (nd1 hnd hn) (lt1 hlt hi),?_⟩
 rw [Ac h,hB,hl,List.flatMap_append,Ý]
 congr 2
 rw [ę,List.flatMap_nil,ç]
 unfold Hm
 rw [hop]
end
def opsOf (os:List Nat):List Af:=FT++os.flatMap Hm++OY
end Go.Sp
namespace Go.Sp
open Go Go.Vl
def CC:List (ByteArray×Int):=[(⟨#[121,101,97,114]⟩,1),(⟨#[115,116,111,114,101,100]⟩,2),(⟨#[110,101,118,101,114]⟩,2),(⟨#[111,119,110,101,114]⟩,4)]
instance (os:List Nat):Decidable (Ord os):=by unfold Ord;exact inferInstance
def Su (os:List Nat):List Nat:=if Ord os then os else [0,1,2,3,4,5]
theorem Ss (os:List Nat):Ord (Su os):=by
 unfold Su
 split
 . assumption
 . decide
theorem Aal {os:List Nat}(h:Ord os):Su os=os:=Ê h
abbrev Bp:PV:=.dis fun os=>(opsOf (Su os)).map Ah
abbrev Dw:PV:=.vmp (NL CC)
end Go.Sp
