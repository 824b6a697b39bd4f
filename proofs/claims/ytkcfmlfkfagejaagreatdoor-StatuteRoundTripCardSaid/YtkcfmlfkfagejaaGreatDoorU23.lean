/-
  The walks of the lexer's and of the reference's small functions: class, letter, digit, pair. Strings as lists of bytes, at an offset; the walk of the reference's Blank. The walks of the reference's name and number. The walk of the reference's number. What strconv.Atoi does with a word that begins with a digit. No program.
-/
import Derived.Test.YtkcfmlfkfagejaaGreatDoorChecked
import Derived.WalkKit
import Derived.Lib.AtoiAll
import Derived.Test.YtkcfmlfkfagejaaGreatDoorU22
set_option linter.unusedVariables false
set_option linter.unusedSimpArgs false
namespace Go.Proofs.YtkcfmlfkfagejaaGreatDoor
open Go.RowKit Go.Q Go.Lx
variable {w:World}
def cls (c:UInt8):Nat:=if isLetter c then 3 else if isDigit c then 2 else if isBlank c then 1 else 0
theorem WU (c:UInt8):isLetter c=true↔((97<=(c.toNat:Int)/\(c.toNat:Int)<=122)∨(65<=(c.toNat:Int)/\(c.toNat:Int)<=90)∨(c.toNat:Int)=95):=by
 have e:c=95↔c.toNat=95:=by rw [<- UInt8.toNat_inj];rfl
 simp only [isLetter,õ,Ã,Í,Ğ,ó,e]
 have a1:(97:UInt8).toNat=97:=rfl
 have a2:(122:UInt8).toNat=122:=rfl
 have a3:(65:UInt8).toNat=65:=rfl
 have a4:(90:UInt8).toNat=90:=rfl
 rw [a1,a2,a3,a4];omega
theorem OK (c:UInt8):isDigit c=true↔(48<=(c.toNat:Int)/\(c.toNat:Int)<=57):=by
 simp only [isDigit,Ã,Í,Ğ]
 have a1:(48:UInt8).toNat=48:=rfl
 have a2:(57:UInt8).toNat=57:=rfl
 rw [a1,a2];omega
theorem eq_iff (c d:UInt8):c=d↔(c.toNat:Int)=(d.toNat:Int):=by rw [<- UInt8.toNat_inj];omega
end Go.Proofs.YtkcfmlfkfagejaaGreatDoor
namespace Go.Proofs.YtkcfmlfkfagejaaGreatDoor
open Go.RowKit Go.Q Go.Lx
variable {w:World}
abbrev bl (s:Â):List UInt8:=s.data.toList
theorem Fy (s:Â):(bl s).length=s.size:=(Lib.size_eq s).symm
theorem Gd (s:Â)(i:Nat)(h:i<s.size):(bl s).drop i=s[i]::(bl s).drop (i+1):=by
 rw [å (by rw [Fy];exact h)];rfl
theorem No (s:Â):(bl s).drop s.size=[]:=by rw [<- Fy];exact List.drop_length
theorem Xz (s:Â)(a b:Nat):bl (s.extract a b)=((bl s).drop a).take (b-a):=Lib.extract_data s a b
theorem Ou {c:UInt8}{r:List UInt8}(h:isBlank c=true):skip false (c::r)=skip false r:=by rw [KJ,Ê h]
theorem Ot {c:UInt8}{r:List UInt8}(h:c=35):skip false (c::r)=skip true r:=by subst h;rfl
theorem Qs {c:UInt8}{r:List UInt8}(h:¬ c=10):skip true (c::r)=skip true r:=by rw [Ly,È h]
end Go.Proofs.YtkcfmlfkfagejaaGreatDoor
namespace Go.Proofs.YtkcfmlfkfagejaaGreatDoor
open Go.RowKit Go.Q Go.Lx
variable {w:World} {S:Reg} {A:Option Addr} {cap:Nat}
def IX (p:UInt8->Bool)(s:Â)(a b:Nat):Prop:=∀ c∈((bl s).drop a).take (b-a),p c=true
theorem IX.nil (p:UInt8->Bool)(s:Â)(a:Nat):IX p s a a:=by intro c hc;rw [Nat.sub_self] at hc;simp at hc
theorem IX.succ {p:UInt8->Bool}{s:Â}{a b:Nat}(h:IX p s a b)(hab:a<=b)(hb:b<s.size)(hp:p s[b]=true):IX p s a (b+1):=by
 intro c hc
 have e:b+1-a=(b-a)+1:=by omega
 rw [e,List.take_add_one,List.getElem?_drop,show a+(b-a)=b by omega] at hc
 rcases List.mem_append.1 hc with hc|hc
 . exact h c hc
 . rw [Ë (by rw [Fy];exact hb)] at hc
   simp only [Option.toList_some,List.mem_singleton] at hc
   rw [hc];exact hp
theorem IX.while {p:UInt8->Bool}{s:Â}{a b:Nat}(h:IX p s a b)(hab:a<=b)(hb:headIs p ((bl s).drop b)=false) :
 ((bl s).drop a).takeWhile p=((bl s).drop a).take (b-a)/\((bl s).drop a).dropWhile p=(bl s).drop b:=by
 have e:(bl s).drop a=((bl s).drop a).take (b-a)++(bl s).drop b:=by
  have:=(ĕ (b-a) ((bl s).drop a)).symm
  rw [List.drop_drop,show a+(b-a)=b by omega] at this
  exact this
 have:=Gk p _ _ h hb
 rw [<- e] at this
 exact this
theorem Yg {p:UInt8->Bool}(s:Â)(b:Nat)(hb:b<=s.size)(h:∀ hlt:b<s.size,p s[b]=false):headIs p ((bl s).drop b)=false:=by
 by_cases hlt:b<s.size
 . rw [Gd s b hlt];exact h hlt
 . obtain rfl:b=s.size:=by omega
   rw [No];rfl
theorem N5 (s:Â)(a b:Nat)(hab:a<=b)(hb:b<=s.size):(((bl s).drop a).take (b-a)).length=b-a:=by
 rw [List.length_take,Ā,Fy];omega
end Go.Proofs.YtkcfmlfkfagejaaGreatDoor
namespace Go.Proofs.YtkcfmlfkfagejaaGreatDoor
open Go.RowKit Go.Q Go.Lx
variable {w:World} {S:Reg} {A:Option Addr} {cap:Nat}
theorem Mn:∀ (n:Nat) (d:List UInt8),d.length=n->(∀ c∈d,isDigit c=true)->numVal d<10 ^ n
 |0,d,hl,_=>by obtain rfl:=ä hl;exact Nat.one_pos
 |n+1,d,hl,hd=>by
  have hne:d≠[]:=by rintro rfl;simp at hl
  obtain⟨d',c,rfl⟩:∃ d' c,d=d'++[c]:=⟨d.dropLast,d.getLast hne,(Į hne).symm⟩
  have hb:=digit_bounds (hd c (by simp))
  have ih:=Mn n d' (by simpa using hl) (fun x hx=>hd x (by simp [hx]))
  rw [numVal_snoc,Nat.pow_succ];omega
theorem Q8 {s:Â}{p j:Nat}(hw:((bl s).drop p).takeWhile isDigit=((bl s).drop p).take (j-p)/\((bl s).drop p).dropWhile isDigit=(bl s).drop j)(hlen:(((bl s).drop p).take (j-p)).length=j-p)
 (h:15<j-p∨(1<j-p/\headIs (· == 48) ((bl s).drop p)=true)∨headIs isLetter ((bl s).drop j)=true):number ((bl s).drop p)=.bad 27:=by
 unfold number
 simp only
 rw [hw.1,hw.2,hlen,Ê]
 simp only [õ,Ã,Í]
 rcases h with h|h|h
 . exact .inl (.inl h)
 . exact .inl (.inr h)
 . exact .inr h
theorem Vt {s:Â}{p j:Nat}(hpj:p<=j)(hj:j<=s.size)(h15:j-p<=15)(hd:IX isDigit s p j)(hn:headIs isDigit ((bl s).drop j)=false)(hl:headIs isLetter ((bl s).drop j)=false)(hz:1<j-p->headIs (· == 48) ((bl s).drop p)=false) :
 number ((bl s).drop p)=.ok 2 [] (numVal (((bl s).drop p).take (j-p))) ((bl s).drop j):=by
 have hw:=hd.while hpj hn
 unfold number
 simp only
 rw [hw.1,hw.2,N5 s p j hpj hj,È]
 simp only [õ,Ã,Í,not_or,not_and]
 exact⟨⟨by omega,fun h=>by simpa using hz h⟩,by simpa using hl⟩
end Go.Proofs.YtkcfmlfkfagejaaGreatDoor
namespace Go.Lx
open Go
theorem IU {c:UInt8}:isDigit c=true↔(48<=c.toNat/\c.toNat<=57):=by
 simp only [isDigit,Bool.and_eq_true,decide_eq_true_eq,UInt8.le_iff_toNat_le]
 exact Iff.rfl
theorem ND:∀ (l:List UInt8) (acc u:Nat),Lib.parseUint10 acc l=.ok u->∀ c∈l,isDigit c=true
 | [],_,_,_,c,h=>by cases h
 |d::r,acc,u,h,c,hc=>by
  unfold Lib.parseUint10 at h
  by_cases hd:48<=d.toNat/\d.toNat<=57
  . rw [if_pos hd] at h
    split at h
    . cases h
    . split at h
      . cases h
      . rcases List.mem_cons.1 hc with rfl|hc
        . exact IU.2 hd
        . exact ND r _ u h c hc
  . rw [if_neg hd] at h;cases h
theorem Vg:∀ (d:List UInt8) (acc:Nat),(∀ c∈d,isDigit c=true)->(acc+1)*10 ^ d.length<=10 ^ 18->Lib.parseUint10 acc d=.ok (d.foldl (fun n c=>10*n+(c.toNat-48)) acc)
 | [],_,_,_=>rfl
 |c::r,acc,hd,hb=>by
  have hc:=IU.1 (hd c (by simp))
  have hp:1<=10 ^ r.length:=Nat.pow_pos (by decide:0<10)
  have e:(acc+1)*10 ^ (c::r).length=((acc+1)*10)*10 ^ r.length:=by rw [List.length_cons,Nat.pow_succ,Nat.mul_assoc,Nat.mul_comm (10 ^ r.length) 10]
  rw [e] at hb
  have h10:(acc+1)*10<=10 ^ 18:=Nat.le_trans (Nat.le_mul_of_pos_right _ hp) hb
  have h18:(10:Nat) ^ 18=1000000000000000000:=by decide
  rw [h18] at h10
  unfold Lib.parseUint10
  rw [if_pos hc,if_neg (by omega),if_neg (by omega)]
  have:=Vg r (acc*10+(c.toNat-48)) (fun x hx=>hd x (by simp [hx])) (Nat.le_trans (Nat.mul_le_mul_right _ (by omega)) hb)
  rw [this,List.foldl_cons,Nat.mul_comm acc 10]
theorem Yz {c:UInt8}{r:List UInt8}(hd:∀ x∈c::r,isDigit x=true)(hl:(c::r).length<=15):Lib.atoiAll (c::r)=.ok (numVal (c::r):Int):=by
 have hc:=IU.1 (hd c (by simp))
 have hp:=Vg (c::r) 0 hd (by
  have:10 ^ (c::r).length<=10 ^ 15:=Nat.pow_le_pow_right (by omega) hl
  have h18:(10:Nat) ^ 18=1000*10 ^ 15:=by decide
  omega)
 have hlt:numVal (c::r)<10 ^ 18:=by
  have key:∀ (d:List UInt8) (a:Nat),(∀ x∈d,isDigit x=true)->d.foldl (fun n c=>10*n+(c.toNat-48)) a<(a+1)*10 ^ d.length:=by
   intro d
   induction d with
   |nil=>intro a _;simp
   |cons x d ih =>
    intro a hx
    have h1:=IU.1 (hx x (by simp))
    have h2:=ih (10*a+(x.toNat-48)) (fun y hy=>hx y (by simp [hy]))
    rw [List.foldl_cons,List.length_cons,Nat.pow_succ]
    have h3:(10*a+(x.toNat-48)+1)*10 ^ d.length<=((a+1)*10)*10 ^ d.length:=Nat.mul_le_mul_right _ (by omega)
    have h4:((a+1)*10)*10 ^ d.length=(a+1)*(10 ^ d.length*10):=by rw [Nat.mul_assoc,Nat.mul_comm 10]
    omega
  have h1:=key (c::r) 0 hd
  have h2:10 ^ (c::r).length<=10 ^ 18:=Nat.pow_le_pow_right (by omega) (by omega)
  unfold numVal;omega
 have h18:(10:Nat) ^ 18=1000000000000000000:=by decide
 rw [h18] at hlt
 unfold Lib.atoiAll
 simp only
 rw [if_neg (by omega)]
 unfold Lib.parseMag
 rw [if_neg (by simp),hp]
 simp only
 have e:List.foldl (fun n c=>10*n+(c.toNat-48)) 0 (c::r)=numVal (c::r):=rfl
 rw [e,if_neg (by omega),if_neg (by omega),if_neg (by omega)]
theorem Wl {c:UInt8}{r:List UInt8}{v:Int}(hc:isDigit c=true)(h:Lib.atoiAll (c::r)=.ok v):∀ x∈c::r,isDigit x=true:=by
 have hb:=IU.1 hc
 unfold Lib.atoiAll at h
 simp only at h
 rw [if_neg (by omega)] at h
 cases hm:Lib.parseMag (c::r) with
 | «syntax»=>rw [hm] at h;cases h
 |range=>rw [hm] at h;cases h
 |ok u =>
  unfold Lib.parseMag at hm
  rw [if_neg (by simp)] at hm
  exact ND _ _ _ hm
end Go.Lx
