/-
  The specification's values are those that value computes. No program. Few nodes, in plain words. No program. The examples of the documentation hold. No program. Value in plain words; StatuteIsTyped, the plain law. No program. Plain functions with fuel: what holds for all large fuel. The parser's small functions and the reference's. No program. The binary operator that a token is, in the program and in the reference. No program. The program's parser answers as the reference's: expressions. No program. The reference's parser answers: expressions. No program. The program's forms and the reference's: both answer, and alike. No program. What the reference reads is of a size that its comparison can go through: it is the same as itself. No program. The reference's parser on two lists of tokens of which one holds the other, later by s, at a depth greater by c. No program. What is printed of an expression, in plain lists of tokens. No program. The reference's comparison: what is of a fine size is the same as itself; and the forms that the reference reads are of such a size. No program. What the program's printer answers for names, texts, numbers, signs, and the level of an operation. No program. What the reference's parser reads in one list of tokens it reads in the other, too, or it is too deep there. No program. What is read of what is printed: the levels of operators, signs, parentheses. No program. What is printed of an expression is read as it, or is too deep. No program. What is printed of an expression is read as it, or is too deep: all operations. No program. What is printed of an expression is read as it, or is too deep: by induction. No program. What the program prints of an expression: the plain tokens; and whether it is right. No program. What is read of a source can be printed, at the depth at which it was read, with no longer text. No program. What is read of a source can be printed: expressions, by induction. No program. What is printed of forms is read as them, or is too deep, or too much. No program. What is printed of forms is read as them, or is too deep, or too much: whole forms. No program. What the program prints of forms: the plain tokens; and whether they are right. No program. What is read of a source can be printed: forms. No program. Forms and Expr answer as the reference does; the statement ParseMatchesSpec computes true. No program. The program's comparison of expressions: it finds the same what is the same but for offsets. No program. What is read around an expression in parentheses: the levels of operators, a sign before it, a call of two. No program. The simulation for all large fuel; lists of tokens of which one stands in the other. No program.
-/
import Derived.KernelRfl
import Derived.Test.YtkcfmlfkfagejaaGreatDoorU11
import Derived.Test.YtkcfmlfkfagejaaGreatDoorU12
import Derived.Test.YtkcfmlfkfagejaaGreatDoorU16
import Derived.Test.YtkcfmlfkfagejaaGreatDoorU20
set_option linter.unusedVariables false
set_option linter.unusedSimpArgs false

namespace Go.Sp
open Go
mutual
def GH:Aa->Int->Int
 |.mk _ _ _ kids _,n=>Fw kids (n-1)
def Fw:List Aa->Int->Int
 | [],n=>n
 |e::l,n=>if n<0 then n else Fw l (GH e n)
end
mutual
theorem LK:∀ (e:Aa) (n:Int),GH e n<=n-1
 |.mk _ _ _ kids _,n=>by rw [GH];exact Ms kids (n-1)
theorem Ms:∀ (l:List Aa) (n:Int),Fw l n<=n
 | [],n=>by rw [Fw];omega
 |e::l,n=>by
  rw [Fw]
  split
  . omega
  . have h1:=LK e n
    have h2:=Ms l (GH e n)
    omega
end
theorem QL:∀ (l:List Aa) (n:Int),0<=Fw l n->(l.length:Int)<=n
 | [],n,h=>by rw [Fw] at h;simpa using h
 |e::l,n,h=>by
  rw [Fw] at h
  split at h
  . omega
  . have h1:=LK e n
    have h2:=QL l _ h
    simp only [Æ]
    omega
mutual
theorem QM:∀ (e:Aa) (n:Int),0<=GH e n->n<=1000000->Da e=true
 |.mk _ _ _ kids _,n,h,hn=>by
  rw [GH] at h
  have:=QL kids (n-1) h
  rw [Da,Ã,Í]
  exact⟨by omega,Pm kids (n-1) h (by omega)⟩
theorem Pm:∀ (l:List Aa) (n:Int),0<=Fw l n->n<=1000000->GQ l=true
 | [],_,_,_=>by rw [GQ]
 |e::l,n,h,hn=>by
  rw [Fw] at h
  split at h
  . omega
  . have h1:=LK e n
    have h2:=Ms l (GH e n)
    rw [GQ,Ã]
    exact⟨QM e n (by omega) hn,Pm l _ h (by omega)⟩
end
theorem V5 (e:Aa)(hf:∀ x∈e.Kids,∀ n,0<=n->n<=1000->Ev (fun k=>BZ k x n) (GH x n)/\-1<=GH x n) :
 ∀ (r:List Aa) (k:Nat) (n:Int),e.Kids.drop k=r->k<=e.Kids.length->-1<=n->(k:Int)+n<=1000->Ev (fun m=>CJ m e n (k:Int)) (Fw r n)/\-1<=Fw r n
 | [],k,n,hr,hkl,hn,_=>by
  have he:=LY hr hkl
  rw [Fw]
  refine⟨Ev.step (f:=fun _=>some n) (fun m=>?_) Ev.pure,hn⟩
  rw [Gx,show (decide ((k:Int)<(e.Kids.length:Int)))=false by rw [Ö];omega];rfl
 |x::r,k,n,hr,hkl,hn,hb=>by
  obtain⟨h1,h2⟩:=He hr
  rw [Fw]
  by_cases c:n<0
  . rw [Ê c]
    refine⟨Ev.step (f:=fun _=>some n) (fun m=>?_) Ev.pure,hn⟩
    rw [Gx,RE h2,É,Ñ (by omega)];rfl
  . rw [È c]
    have hmem:x∈e.Kids:=ā (by rw [hr];simp)
    obtain⟨f1,f2⟩:=hf x hmem n (by omega) (by omega)
    have f3:=LK x n
    obtain⟨i1,i2⟩:=V5 e hf r (k+1) (GH x n) h1 (by omega) f2 (by omega)
    refine⟨Ev.step (f:=fun m=>(BZ m x n).bind fun n3=>CJ m e n3 ((k+1:Nat):Int)) (fun m=>?_) (Ev.bind f1 i1),i2⟩
    rw [Gx,RE h2,É,Ð (by omega),Á,É,RM hr,Á,OR (by omega)]
mutual
theorem TC:∀ (e:Aa) (n:Int),0<=n->n<=1000->Ev (fun k=>BZ k e n) (GH e n)/\-1<=GH e n
 |.mk op num s kids at0,n,h0,h1=>by
  have h:=V5 (.mk op num s kids at0) (V4 kids) kids 0 (n-1) rfl (ú _) (by omega) (by simp;omega)
  rw [GH]
  refine⟨Ev.step (fun k=>P7 k (.mk op num s kids at0) n) (Ev.bind ?_ Ev.pure),h.2⟩
  rw [A2 (by omega) (by omega)]
  exact h.1
theorem V4:∀ (l:List Aa),∀ x∈l,∀ n,0<=n->n<=1000->Ev (fun k=>BZ k x n) (GH x n)/\-1<=GH x n
 | [],x,hx=>by simp at hx
 |e::l,x,hx=>by
  rcases List.mem_cons.1 hx with hx|hx
  . rw [hx];exact TC e
  . exact V4 l x hx
end
def EU (e:Aa)(n:Int):Int:=if n<0 then n else GH e n
def DT (c:Ag)(n:Int):Int:=EU c.When (EU c.To (EU c.From n))
def JO:List Ag->Int->Int
 | [],n=>n
 |c::l,n=>if n<0 then n else JO l (DT c n)
theorem F9 (e:Aa)(n:Int):EU e n<=n:=by
 unfold EU
 split
 . omega
 . have:=LK e n;omega
theorem Lu {e:Aa}{n:Int}(h : -1<=n)(h1:n<=1000) : -1<=EU e n:=by
 unfold EU
 split
 . omega
 . exact (TC e n (by omega) h1).2
theorem KC (c:Ag)(n:Int):DT c n<=n:=by
 unfold DT
 have h1:=F9 c.From n
 have h2:=F9 c.To (EU c.From n)
 have h3:=F9 c.When (EU c.To (EU c.From n))
 omega
theorem Ri:∀ (l:List Ag) (n:Int),JO l n<=n
 | [],n=>by rw [JO];omega
 |c::l,n=>by
  rw [JO]
  split
  . omega
  . have h1:=KC c n
    have h2:=Ri l (DT c n)
    omega
theorem Rj (l:List Ag)(i:Int)(c:Ag)(hi:gi l i=some c)(p:Aa)(k:Nat)(hp:IG c (k:Int)=some p)(hk:k<3)(n:Int)(h0 : -1<=n)(h1:n<=1000){v:Int}
 (h:Ev (fun m=>Ch m l i (EU p n) ((k+1:Nat):Int)) v) (hv:n<0->v=n):Ev (fun m=>Ch m l i n (k:Int)) v:=by
 by_cases c0:n<0
 . rw [hv c0]
   refine Ev.step (f:=fun _=>some n) (fun m=>?_) Ev.pure
   rw [GX,Ð (show (k:Int)<3 by omega),É,Ñ (by omega)];rfl
 . refine Ev.step (f:=fun m=>(BZ m p n).bind fun n3=>Ch m l i n3 ((k+1:Nat):Int)) (fun m=>?_) (Ev.bind (TC p n (by omega) h1).1 ?_)
   . rw [GX,Ð (show (k:Int)<3 by omega),É,Ð (by omega),Á,É,hi,Á,hp,Á,OR (by omega)]
   . unfold EU at h
     rw [È c0] at h
     exact h
theorem Xk (l:List Ag)(i:Int)(c:Ag)(hi:gi l i=some c)(n:Int)(h0 : -1<=n)(h1:n<=1000):Ev (fun m=>Ch m l i n 0) (DT c n):=by
 have g1:=Lu (e:=c.From) h0 h1
 have g2:=F9 c.From n
 have g3:=Lu (e:=c.To) g1 (by omega)
 have g4:=F9 c.To (EU c.From n)
 have hend:Ev (fun m=>Ch m l i (DT c n) ((2+1:Nat):Int)) (DT c n):=by
  refine Ev.step (f:=fun _=>some (DT c n)) (fun m=>?_) Ev.pure
  rw [GX];rfl
 have neg:∀ {e:Aa} {n:Int},n<0->EU e n=n:=fun h=>by unfold EU;rw [Ê h]
 have s2:=Rj l i c hi c.When 2 rfl (by decide) (EU c.To (EU c.From n)) g3 (by omega) hend (fun h=>by unfold DT;exact neg h)
 have s1:=Rj l i c hi c.To 1 rfl (by decide) (EU c.From n) g1 (by omega) s2 (fun h=>by unfold DT;rw [neg (e:=c.To) h,neg h])
 exact Rj l i c hi c.From 0 rfl (by decide) n h0 h1 s1 (fun h=>by unfold DT;rw [neg (e:=c.From) h,neg (e:=c.To) h,neg h])
theorem Yr (l:List Ag)(hl:l.length<=50):∀ (r:List Ag) (k:Nat) (n:Int),l.drop k=r->k<=l.length->-1<=n->n<=1000->Ev (fun m=>D8 m l n (k:Int)) (JO r n)
 | [],k,n,hr,hkl,_,_=>by
  have he:=LY hr hkl
  rw [JO]
  refine Ev.step (f:=fun _=>some n) (fun m=>?_) Ev.pure
  rw [GY,show (decide ((k:Int)<(l.length:Int)))=false by rw [Ö];omega];rfl
 |c::r,k,n,hr,hkl,h0,h1=>by
  obtain⟨d1,d2⟩:=He hr
  rw [JO]
  by_cases c0:n<0
  . rw [Ê c0]
    refine Ev.step (f:=fun _=>some n) (fun m=>?_) Ev.pure
    rw [GY,RE d2,É,Ñ (by omega)];rfl
  . rw [È c0]
    have g1 : -1<=DT c n:=by
     have a1:=Lu (e:=c.From) h0 h1
     have a2:=F9 c.From n
     have a3:=Lu (e:=c.To) a1 (by omega)
     have a4:=F9 c.To (EU c.From n)
     exact Lu (e:=c.When) a3 (by omega)
    have g2:=KC c n
    refine Ev.step (f:=fun m=>(Ch m l (k:Int) n 0).bind fun n3=>D8 m l n3 ((k+1:Nat):Int)) (fun m=>?_) (Ev.bind (Xk l (k:Int) c (RM hr) n h0 h1) (Yr l hl r (k+1) _ d1 (by omega) g1 (by omega)))
    rw [GY,RE d2,É,Ð (by omega),Á,É,OR (by omega)]
theorem Ahe (l:List Ag)(n:Int)(h0:0<=n)(h1:n<=1000):Ev (fun m=>JF m l n) (decide (l.length<=50/\0<=JO l n)):=by
 unfold JF
 by_cases c:l.length<=50
 . rw [Ñ (show ¬ (50:Int)<(l.length:Int) by omega)]
   simp only [Ä]
   refine Ev.bind (Yr l c l 0 n rfl (ú _) (by omega) h1) ?_
   simp only [c,ÿ]
   exact Ev.pure
 . rw [Ð (show (50:Int)<(l.length:Int) by omega),Ñ (fun h=>c h.1)]
   exact Ev.pure
def Lv (c:Ag):Prop:=Da c.From=true/\Da c.To=true/\Da c.When=true
theorem MX {e:Aa}{n:Int}(h:0<=EU e n)(hn:n<=1000000):Da e=true/\0<=n:=by
 unfold EU at h
 split at h
 . omega
 . exact⟨QM e n h hn,by omega⟩
theorem Ui {c:Ag}{n:Int}(h:0<=DT c n)(hn:n<=1000):Lv c/\0<=n:=by
 unfold DT at h
 have g2:=F9 c.From n
 have g4:=F9 c.To (EU c.From n)
 obtain⟨a1,a2⟩:=MX h (by omega)
 obtain⟨b1,b2⟩:=MX a2 (by omega)
 obtain⟨c1,c2⟩:=MX b2 (by omega)
 exact⟨⟨c1,b1,a1⟩,c2⟩
theorem Rh:∀ (l:List Ag) (n:Int),0<=JO l n->n<=1000->∀ c∈l,Lv c
 | [],_,_,_,c,hc=>by simp at hc
 |x::l,n,h,hn,c,hc=>by
  rw [JO] at h
  split at h
  . omega
  . have g:=KC x n
    have g2:=Ri l (DT x n)
    rcases List.mem_cons.1 hc with rfl|hc
    . exact (Ui (by omega) hn).1
    . exact Rh l _ h (by omega) c hc
end Go.Sp
namespace Go.Sp
open Go
set_option maxRecDepth 100000
theorem UW:UX=some true:=by kernel_rfl
end Go.Sp
namespace Go.Sp
open Go
set_option maxRecDepth 100000
theorem VQ {e:Aa}(h:Da e=true):Ha e=some (Bw e):=by unfold Ha;rw [Ê h]
end Go.Sp
namespace Go.Sp
open Go
abbrev at_ (l:List Ab)(k:Int)(f:Int):Ae:=⟨l.drop k.toNat,f⟩
theorem S9 {t:Ab}{r:List Ab}{f:Int}{s:Â}:AJ ⟨t::r,f⟩ s=some (t.Kind == 4&&decide (t.S=s)):=by
 unfold AJ gi
 simp only [Ġ,ë,Int.toNat_zero,List.getElem?_cons_zero,Á]
 cases h:t.Kind == 4<;>simp
theorem Abh {α:Type}{t:α}{r:List α}:Yh (t::r) 1 ((t::r).length:Int)=some r:=by
 have h:(0:Int)<=1/\(1:Int)<=((t::r).length:Int)/\((t::r).length:Int)<=((t::r).length:Int):=⟨by decide,by rw [Æ];omega,Ġ _⟩
 unfold Yh
 rw [Ê h,Ć,List.take_length];rfl
theorem Jp {α:Type}{t:α}{r:List α}:gi (t::r) 0=some t:=rfl
theorem E7 {t:Ab}{r:List Ab}{f:Int}:A4 ⟨t::r,f⟩=some (t,⟨r,f⟩):=by
 unfold A4
 show (gi (t::r) 0).bind _=_
 rw [Jp]
 show (Yh (t::r) 1 ((t::r).length:Int)).bind _=_
 rw [Abh];rfl
theorem HE {t:Ab}{r:List Ab}{f e:Int}:AL ⟨t::r,f⟩ e=some (.pan ⟨t.At,e⟩ ⟨t::r,f⟩):=by
 unfold AL gi
 simp
theorem I0 {t:Ab}{r:List Ab}{f:Int}:BH ⟨t::r,f⟩=some (t.Kind == 1||(t.Kind == 2||(t.Kind == 3||((t.Kind == 4&&decide (t.S=⟨#[40]⟩))||(t.Kind == 4&&decide (t.S=⟨#[45]⟩)))))):=by
 unfold BH
 rw [S9,S9]
 unfold gi
 simp only [Ġ,ë,Int.toNat_zero,List.getElem?_cons_zero,Á]
 cases t.Kind == 1<;>cases t.Kind == 2<;>cases t.Kind == 3<;>cases t.Kind == 4<;>cases decide (t.S=⟨#[40]⟩)<;>cases decide (t.S=⟨#[45]⟩)<;>rfl
theorem A6 {l:List Ab}{k:Int}{t:Ab}{s:Â}(h:gi l k=some t):Au l k s=some (t.Kind == 4&&decide (t.S=s)):=by
 unfold Au
 rw [h]
 simp only [Á]
 cases t.Kind == 4<;>simp
def DI (t:Ab):Bool:=t.Kind == 1||(t.Kind == 2||(t.Kind == 3||((t.Kind == 4&&decide (t.S=⟨#[40]⟩))||(t.Kind == 4&&decide (t.S=⟨#[45]⟩)))))
theorem IH {l:List Ab}{k:Int}{t:Ab}(h:gi l k=some t):Ga l k=some (DI t):=by
 unfold Ga DI
 rw [A6 h,A6 h,h]
 simp only [Á]
 have e:(t.Kind == 1||(t.Kind == 2||t.Kind == 3))=(decide (1<=t.Kind)&&decide (t.Kind<=3)):=by
  rw [Bool.eq_iff_iff];simp only [õ,ó,Ã,Í];omega
 cases h1:decide (1<=t.Kind)<;>cases h2:decide (t.Kind<=3)<;>rw [h1,h2] at e<;>simp only [Bool.and_self,ē,Bool.and_false,Bool.or_eq_false_iff,õ] at e <;>
  cases t.Kind == 4<;>cases decide (t.S=⟨#[40]⟩)<;>cases decide (t.S=⟨#[45]⟩)<;>simp_all
def fst (t:Ab)(d:Int)(no:Bool):Int:=if (!DI t&&!(no&&(t.Kind == 4&&decide (t.S=⟨#[33]⟩))))=true then 5 else if 30<d then 2 else 0
theorem CY {l:List Ab}{k:Int}{t:Ab}{d:Int}{no:Bool}(h:gi l k=some t):EK l k d no=some (fst t d no):=by
 unfold EK fst
 rw [IH h,A6 h]
 simp only [Á]
 generalize (t.Kind == 4&&decide (t.S=⟨#[33]⟩))=c
 cases DI t<;>cases no<;>cases c<;>by_cases hd:30<d<;>simp [hd]
theorem KB {t:Ab}{r:List Ab}{f d:Int}{no:Bool}:Ci ⟨t::r,f⟩ d no=some (if fst t d no=0 then .ok () ⟨t::r,f⟩ else .pan ⟨t.At,fst t d no⟩ ⟨t::r,f⟩):=by
 unfold Ci fst
 rw [I0,S9]
 show ((((some (DI t)).bind _:Option Bool)).bind _)=_
 simp only [Á,HE]
 generalize (t.Kind == 4&&decide (t.S=⟨#[33]⟩))=c
 cases DI t<;>cases no<;>cases c<;>by_cases hd:30<d<;>simp [hd,HE]
theorem Ad2 {t:Ab}{r:List Ab}{f:Int}{s:Â}:Bj ⟨t::r,f⟩ s=some (if (t.Kind == 4&&decide (t.S=s))=true then .ok () ⟨r,f⟩ else .pan ⟨t.At,5⟩ ⟨t::r,f⟩):=by
 unfold Bj
 rw [S9]
 simp only [Á,HE,E7]
 cases (t.Kind == 4&&decide (t.S=s))<;>simp
end Go.Sp
namespace Go.Sp
open Go
def isS (t:Ab)(s:Â):Bool:=t.Kind == 4&&decide (t.S=s)
def IQ (t:Ab):List (ByteArray×Int)->Nat->BF
 | [],_=>⟨0,0⟩
 |(s,lv)::r,j=>if isS t s=true then ⟨lv,7+(j:Int)⟩ else IQ t r (j+1)
theorem LN {α:Type}(l:List α)(j:Nat):gi l (j:Int)=l[j]?:=by
 unfold gi;rw [Ê (by omega)];rfl
theorem QJ {L:List Ab}{k:Int}{t:Ab}(hk:gi L k=some t)(z:List (ByteArray×Int))(hz:z.length<=100) :
 ∀ (m j:Nat),j+m=z.length->∃ N,∀ n,N<=n ->
  (CM n (z.map (·.1)) L k (z.map (·.2)) (j:Int)).bind (fun y=>match y with|.inl _=>some (⟨0,0⟩:BF)|.inr o=>some o)=some (IQ t (z.drop j) j)
 |0,j,hj=>by
  refine⟨1,fun n hn=>?_⟩
  obtain⟨n,rfl⟩:∃ m,n=m+1:=⟨n-1,by omega⟩
  have e:z.drop j=[]:=Ċ (by omega)
  have d:decide ((j:Int)<((z.map (·.1)).length:Int))=false:=by rw [Ö,Ó];omega
  rw [CM.eq_2,d,e];rfl
 |m+1,j,hj=>by
  obtain⟨N,ih⟩:=QJ hk z hz m (j+1) (by omega)
  refine⟨N+1,fun n hn=>?_⟩
  obtain⟨n,rfl⟩:∃ m,n=m+1:=⟨n-1,by omega⟩
  have hj2:j<z.length:=by omega
  have d:decide ((j:Int)<((z.map (·.1)).length:Int))=true:=by rw [Í,Ó];omega
  have g1:gi (z.map (·.1)) (j:Int)=some (z[j].1):=by rw [LN,â,Ë hj2];rfl
  have g2:gi (z.map (·.2)) (j:Int)=some (z[j].2):=by rw [LN,â,Ë hj2];rfl
  have w1:À ((j:Int)+1)=((j+1:Nat):Int):=by rw [A2]<;>omega
  have w2:À (7+(j:Int))=7+(j:Int):=by rw [A2]<;>omega
  have e:z.drop j=z[j]::z.drop (j+1):=by rw [å hj2]
  rw [CM.eq_2,d,e]
  simp only [É,g1,Á,A6 hk,g2,w1,w2]
  show ((bif isS t z[j].1 then _ else _:Option (Unit ⊕ BF)).bind _)=some (if isS t z[j].1=true then _ else _)
  cases isS t z[j].1 with
  |true=>rfl
  |false=>exact ih n (by omega)
def opz:List (ByteArray×Int):=[(⟨#[42]⟩,6),(⟨#[47]⟩,6),(⟨#[37]⟩,6),(⟨#[43]⟩,5),(⟨#[45]⟩,5),(⟨#[61,61]⟩,4),(⟨#[33,61]⟩,4),(⟨#[60]⟩,4),(⟨#[60,61]⟩,4),(⟨#[62]⟩,4),(⟨#[62,61]⟩,4),(⟨#[38,38]⟩,2),(⟨#[124,124]⟩,1)]
def IK (t:Ab):BF:=IQ t opz 0
theorem QK {L:List Ab}{k:Int}{t:Ab}(hk:gi L k=some t):Ev (fun n=>LF n L k) (IK t):=by
 obtain⟨N,h⟩:=QJ hk opz (by decide) 13 0 rfl
 exact⟨N,fun n hn=>h n hn⟩
theorem LJ {L:List Ab}{k:Int}{t:Ab}(hk:gi L k=some t)(z:List (ByteArray×Int))(hz:z.length<=100) :
 ∀ (n j:Nat) (r:BF),j<=z.length->(CM n (z.map (·.1)) L k (z.map (·.2)) (j:Int)).bind (fun y=>match y with|.inl _=>some (⟨0,0⟩:BF)|.inr o=>some o)=some r->r=IQ t (z.drop j) j
 |0,j,r,_,h=>by cases h
 |n+1,j,r,hj,h=>by
  by_cases hj2:j<z.length
  . have d:decide ((j:Int)<((z.map (·.1)).length:Int))=true:=by rw [Í,Ó];omega
    have g1:gi (z.map (·.1)) (j:Int)=some (z[j].1):=by rw [LN,â,Ë hj2];rfl
    have g2:gi (z.map (·.2)) (j:Int)=some (z[j].2):=by rw [LN,â,Ë hj2];rfl
    have w1:À ((j:Int)+1)=((j+1:Nat):Int):=by rw [A2]<;>omega
    have w2:À (7+(j:Int))=7+(j:Int):=by rw [A2]<;>omega
    have e:z.drop j=z[j]::z.drop (j+1):=by rw [å hj2]
    rw [CM.eq_2,d] at h
    rw [e]
    simp only [É,g1,Á,A6 hk,g2,w1,w2] at h
    show r=if isS t z[j].1=true then _ else _
    have h':((bif isS t z[j].1 then some (.inr ⟨z[j].2,7+(j:Int)⟩) else CM n (z.map (·.1)) L k (z.map (·.2)) ((j+1:Nat):Int):Option (Unit ⊕ BF)).bind (fun y=>match y with|.inl _=>some (⟨0,0⟩:BF)|.inr o=>some o))=some r:=h
    cases hi:isS t z[j].1 with
    |true=>rw [hi] at h';exact (Ac h').symm
    |false=>rw [hi] at h';exact LJ hk z hz n (j+1) r (by omega) h'
  . have e:z.drop j=[]:=Ċ (by omega)
    have d:decide ((j:Int)<((z.map (·.1)).length:Int))=false:=by rw [Ö,Ó];omega
    rw [CM.eq_2,d] at h
    rw [e];exact (Ac h).symm
theorem YU {L:List Ab}{k:Int}{t:Ab}(hk:gi L k=some t){n:Nat}{r:BF}(h:LF n L k=some r):r=IK t :=
 LJ hk opz (by decide) n 0 r (ú _) h
def IS (t:Ab)(n:Int):List Ar->Nat->Int
 | [],_=>-1
 |b::r,j=>if (b.level == n&&isS t b.sign)=true then (j:Int) else IS t n r (j+1)
theorem QQ {t:Ab}{r:List Ab}{f lv:Int}(q q1:Int)(q2:Â)(q3:List Aa)(q4 e e1:Int)(e2:Â)(e3:List Aa)(e4:Int)(z:List Ar)(hz:z.length<=100) :
 ∀ (m j:Nat),j+m=z.length->∃ N,∀ n,N<=n ->
  (Bk n z (t::r) f lv q q1 q2 q3 q4 e e1 e2 e3 e4 (j:Int)).bind (fun y=>match y with|.inl _=>some (-1)|.inr o=>some o)=some (IS t lv (z.drop j) j)
 |0,j,hj=>by
  refine⟨1,fun n hn=>?_⟩
  obtain⟨n,rfl⟩:∃ m,n=m+1:=⟨n-1,by omega⟩
  have e:z.drop j=[]:=Ċ (by omega)
  have d:decide ((j:Int)<(z.length:Int))=false:=by rw [Ö];omega
  rw [Bk.eq_2,d,e];rfl
 |m+1,j,hj=>by
  obtain⟨N,ih⟩:=QQ (t:=t) (r:=r) (f:=f) (lv:=lv) q q1 q2 q3 q4 e e1 e2 e3 e4 z hz m (j+1) (by omega)
  refine⟨N+1,fun n hn=>?_⟩
  obtain⟨n,rfl⟩:∃ m,n=m+1:=⟨n-1,by omega⟩
  have hj2:j<z.length:=by omega
  have d:decide ((j:Int)<(z.length:Int))=true:=by rw [Í];omega
  have g1:gi z (j:Int)=some z[j]:=by rw [LN,Ë hj2]
  have w1:À ((j:Int)+1)=((j+1:Nat):Int):=by rw [A2]<;>omega
  have e':z.drop j=z[j]::z.drop (j+1):=by rw [å hj2]
  have l1:CF (t::r) f lv q q1 q2 q3 q4 e e1 e2 e3 e4 z[j]=some (z[j].level == lv&&isS t z[j].sign):=by
   unfold CF
   rw [S9]
   cases z[j].level == lv<;>rfl
  rw [Bk.eq_2,d,e']
  simp only [É,g1,Á,l1,w1]
  show ((bif (z[j].level == lv&&isS t z[j].sign) then _ else _:Option (Unit ⊕ Int)).bind _)=some (if (z[j].level == lv&&isS t z[j].sign)=true then _ else _)
  cases (z[j].level == lv&&isS t z[j].sign) with
  |true=>rfl
  |false=>exact ih n (by omega)
def GF:List Ar:=[(Ar.mk ⟨#[42]⟩ 7 6),(Ar.mk ⟨#[47]⟩ 8 6),(Ar.mk ⟨#[37]⟩ 9 6),(Ar.mk ⟨#[43]⟩ 10 5),(Ar.mk ⟨#[45]⟩ 11 5),(Ar.mk ⟨#[61,61]⟩ 12 4),(Ar.mk ⟨#[33,61]⟩ 13 4),(Ar.mk ⟨#[60]⟩ 14 4),(Ar.mk ⟨#[60,61]⟩ 15 4),(Ar.mk ⟨#[62]⟩ 16 4),(Ar.mk ⟨#[62,61]⟩ 17 4),(Ar.mk ⟨#[38,38]⟩ 18 2),(Ar.mk ⟨#[124,124]⟩ 19 1)]
theorem Kv:CT=some GF:=rfl
theorem Abb {t:Ab}{r:List Ab}{f lv:Int}(q q1:Int)(q2:Â)(q3:List Aa)(q4 e e1:Int)(e2:Â)(e3:List Aa)(e4:Int) :
 Ev (fun n=>CH n (t::r) f lv q q1 q2 q3 q4 e e1 e2 e3 e4 GF) (IS t lv GF 0):=by
 obtain⟨N,h⟩:=QQ (t:=t) (r:=r) (f:=f) (lv:=lv) q q1 q2 q3 q4 e e1 e2 e3 e4 GF (by decide) 13 0 rfl
 exact⟨N,fun n hn=>h n hn⟩
theorem Aby (t:Ab)(n:Int)(hn:0<n):(∃ b,0<=IS t n GF 0/\gi GF (IS t n GF 0)=some b/\(IK t).N=n/\b.op=(IK t).Op)∨(IS t n GF 0 = -1/\(IK t).N≠n):=by
 have key:∀ (z:List (ByteArray×Int)) (o:List Ar) (j:Nat),o=z.zipIdx.map (fun x=>⟨x.1.1,7+((j+x.2:Nat):Int),x.1.2⟩)->z.Pairwise (fun a b=>a.1≠b.1) ->
  (∃ i:Nat,∃ b,IS t n o j=((j+i:Nat):Int)/\o[i]?=some b/\(IQ t z j).N=n/\b.op=(IQ t z j).Op)∨(IS t n o j = -1/\(IQ t z j).N≠n):=by
  intro z
  induction z with
  |nil =>
   intro o j ho _
   subst ho
   exact .inr ⟨rfl,by show (0:Int)≠n;omega⟩
  |cons x z ih =>
   intro o j ho hp
   subst ho
   obtain⟨s,lv⟩:=x
   rw [List.pairwise_cons] at hp
   simp only [List.zipIdx_cons,ã,ă]
   have hrec:=ih (List.map (fun x=>⟨x.1.1,7+((j+1+x.2:Nat):Int),x.1.2⟩) z.zipIdx) (j+1) rfl hp.2
   have etail:List.map (fun x:(ByteArray×Int)×Nat=>(⟨x.1.1,7+((j+x.2:Nat):Int),x.1.2⟩:Ar)) (z.zipIdx 1)=List.map (fun x=>⟨x.1.1,7+((j+1+x.2:Nat):Int),x.1.2⟩) z.zipIdx:=by
    rw [List.zipIdx_succ,ġ]
    refine Ħ fun x _=>?_
    simp only [Function.comp]
    congr 2;omega
   rw [etail]
   show (∃ i:Nat,∃ b:Ar,(if (lv == n&&isS t s)=true then (j:Int) else IS t n _ (j+1))=_/\_/\(if isS t s=true then (⟨lv,7+(j:Int)⟩:BF) else IQ t z (j+1)).N=n/\b.op=(if isS t s=true then (⟨lv,7+(j:Int)⟩:BF) else IQ t z (j+1)).Op)∨((if (lv == n&&isS t s)=true then (j:Int) else IS t n _ (j+1)) = -1/\(if isS t s=true then (⟨lv,7+(j:Int)⟩:BF) else IQ t z (j+1)).N≠n)
   by_cases hs:isS t s=true
   . by_cases hl:lv=n
     . left
       refine⟨0,⟨s,7+((j+0:Nat):Int),lv⟩,?_,rfl,?_,?_⟩
       . rw [Ê (by simp [hl,hs])];rfl
       . rw [Ê hs];exact hl
       . rw [Ê hs];rfl
     . right
       rw [È (by simp [hl]),Ê hs]
       refine⟨?_,hl⟩
       have hnone:∀ (o:List Ar) (i:Nat),(∀ b∈o,isS t b.sign=false)->IS t n o i = -1:=by
        intro o
        induction o with
        |nil=>intro i _;rfl
        |cons b o ih=>intro i h;show (if _ then _ else _)=_;rw [È (by simp [h b (by simp)])];exact ih _ fun c hc=>h c (by simp [hc])
       refine hnone _ _ fun b hb=>?_
       obtain⟨y,hy,rfl⟩:=List.mem_map.1 hb
       have hy1:y.1∈z:=by
        have:=List.mem_zipIdx' hy
        rw [this.2];exact Ú this.1
       have hne:=hp.1 y.1 hy1
       cases hh:isS t y.1.1 with
       |false=>rfl
       |true =>
        unfold isS at hs hh
        simp only [Ã,Í] at hs hh
        exact absurd (hs.2.symm.trans hh.2) hne
   . rw [È (by simp [hs]),È hs]
     rcases hrec with⟨i,b,h1,h2,h3,h4⟩|h
     . left
       exact⟨i+1,b,by rw [h1];congr 1;omega,by simpa using h2,h3,h4⟩
     . exact .inr h
 rcases key opz GF 0 rfl (by decide) with⟨i,b,h1,h2,h3,h4⟩|h
 . left
   rw [ă] at h1
   exact⟨b,by rw [h1];omega,by rw [h1,LN];exact h2,h3,h4⟩
 . exact .inr h
end Go.Sp
namespace Go.Sp
open Go
set_option linter.unusedSimpArgs false
structure MA (L:List Ab):Prop where
 next:∀ k t,gi L k=some t->t.Kind≠5->∃ t',gi L (k+1)=some t'
 len:L.length<=1000000
 num:∀ t∈L,t.Kind=2->t.S=⟨#[]⟩
 other:∀ t∈L,t.Kind≠2->t.N=0
theorem Sz {α:Type}{l:List α}{k:Int}{x:α}(h:gi l k=some x):x∈l:=by
 unfold gi at h
 split at h
 . exact Þ h
 . cases h
def PD (L:List Ab)(f:Int)(g:Aw)(y:Ex Ap Ae Aa):Prop :=
 ∃ t,gi L g.To=some t/\((g.E=0/\y=.ok g.X (at_ L g.To f))∨(g.E≠0/\y=.pan ⟨t.At,g.E⟩ (at_ L g.To f)))
theorem PD.ok {L:List Ab}{f:Int}{g:Aw}{y:Ex Ap Ae Aa}(h:PD L f g y)(e:g.E=0):∃ t,gi L g.To=some t/\y=.ok g.X (at_ L g.To f):=by
 obtain⟨t,ht,⟨_,hy⟩|⟨h,_⟩⟩:=h
 . exact⟨t,ht,hy⟩
 . exact absurd e h
theorem PD.pan {L:List Ab}{f:Int}{g:Aw}{y:Ex Ap Ae Aa}(h:PD L f g y)(e:g.E≠0):∃ t,gi L g.To=some t/\y=.pan ⟨t.At,g.E⟩ (at_ L g.To f):=by
 obtain⟨t,ht,⟨h,_⟩|⟨_,hy⟩⟩:=h
 . exact absurd h e
 . exact⟨t,ht,hy⟩
theorem Dm {L:List Ab}{k f:Int}{t:Ab}(h:gi L k=some t):at_ L k f=⟨t::L.drop (k+1).toNat,f⟩:=by
 unfold at_;rw [(As h).1]
theorem CI {L:List Ab}(hL:MA L){k:Int}{t:Ab}(h:gi L k=some t):À (k+1)=k+1:=by
 have:=(As h).2
 have:=hL.len
 rw [A2]<;>omega
theorem EG {t:Ab}{s:Â}(h:isS t s=true):t.Kind=4:=by
 unfold isS at h
 simp only [Ã,ó] at h;exact h.1
theorem N7 {L:List Ab}{k:Int}{s:Â}{b:Bool}(h:Au L k s=some b):∃ t,gi L k=some t/\b=isS t s:=by
 cases e:gi L k with
 |none=>unfold Au at h;rw [e] at h;cases h
 |some t=>rw [A6 e] at h;exact⟨t,rfl,(Ac h).symm⟩
theorem Abm {L:List Ab}{k d:Int}{no:Bool}{e:Int}(h:EK L k d no=some e):∃ t,gi L k=some t/\e=fst t d no:=by
 cases e':gi L k with
 |none =>
  unfold EK Ga Au at h
  rw [e'] at h;cases h
 |some t=>rw [CY e'] at h;exact⟨t,rfl,(Ac h).symm⟩
theorem M8 {t:Ab}{r:List Ab}{f:Int}{s:Â}:AJ ⟨t::r,f⟩ s=some (isS t s):=S9
theorem Nd {t:Ab}{r:List Ab}{f:Int}{s:Â}:Bj ⟨t::r,f⟩ s=some (if isS t s=true then .ok () ⟨r,f⟩ else .pan ⟨t.At,5⟩ ⟨t::r,f⟩):=Ad2
theorem Yk {t:Ab}{d:Int}{no:Bool}:fst t d no=0∨fst t d no=5∨fst t d no=2:=by
 unfold fst;split
 . simp
 . split<;>simp
section
variable {L:List Ab} (hL:MA L) (f:Int)
def SE (L:List Ab)(f:Int)(n:Nat):Prop:=∀ k d g,Bl n L k d=some g->∃ y,Ev (fun m=>Av m (at_ L k f) d) y/\PD L f g y
def SB (L:List Ab)(f:Int)(n:Nat):Prop:=∀ k lv d g,1<=lv->lv<=7->Ax n L k lv d=some g->∃ y,Ev (fun m=>A0 m (at_ L k f) lv d) y/\PD L f g y
def SG (L:List Ab)(f:Int)(n:Nat):Prop:=∀ k d g,Ca n L k d=some g->∃ y,Ev (fun m=>A0 m (at_ L k f) 3 d) y/\PD L f g y
def SM (L:List Ab)(f:Int)(n:Nat):Prop:=∀ k d g,B9 n L k d=some g->∃ y,Ev (fun m=>AT m (at_ L k f) d) y/\PD L f g y
def SA (L:List Ab)(f:Int)(n:Nat):Prop:=∀ k d g t,gi L k=some t->isS t ⟨#[45]⟩=false->BB n L k d=some g->∃ y,Ev (fun m=>AR m (at_ L k f) d) y/\PD L f g y
include hL
theorem Ah0 {n:Nat}(hE:SE L f n)(hB:SB L f n):SE L f (n+1):=by
 intro k d g h
 rw [Bl.eq_2] at h
 obtain⟨e,h1,h⟩:=Ad h
 obtain⟨t,ht,rfl⟩:=Abm h1
 rcases An h with⟨c,h⟩|⟨c,h⟩
 . obtain rfl:=Ac h
   have c':fst t d true≠0:=by simpa using c
   refine⟨.pan ⟨t.At,fst t d true⟩ (at_ L k f),?_,t,ht,.inr ⟨c',rfl⟩⟩
   refine Ev.step (fun m=>Av.eq_2 (n:=m) _ _) ?_
   rw [Dm ht]
   simp only [KB,È c',Á]
   exact Ev.pure
 . have c':fst t d true=0:=by simpa using c
   obtain⟨c1,h1,h⟩:=Ad h
   obtain⟨y,hy,hc⟩:=hB k 1 d c1 (by decide) (by decide) h1
   have start:∀ z,Ev (fun m=>match y with
    |.ok e1 p3 =>
     (AJ p3 ⟨#[63]⟩).bind fun i =>
     bif (!i) then
      some (.ok e1 p3)
     else
      (A4 p3).bind fun n_ =>
      (Av m n_.2 (À (d+1))).bind fun y2=>match y2 with
      |.ok a_ p5 =>
       (Bj p5 ⟨#[58]⟩).bind fun y3=>match y3 with
       |.ok n_1 p7 =>
        (Av m p7 (À (d+1))).bind fun y4=>match y4 with
        |.ok e5 p9 =>
         (some [e1,a_,e5]).bind fun l =>
         some (.ok (Aa.mk 20 0 ⟨#[]⟩ l e1.At) p9)
        |.pan e6 p10=>some (.pan e6 p10)
       |.pan e4 p8=>some (.pan e4 p8)
      |.pan e3 p6=>some (.pan e3 p6)
    |.pan e2 p4=>some (.pan e2 p4)) z->Ev (fun m=>Av m (at_ L k f) d) z:=by
    intro z hz
    refine Ev.step (fun m=>Av.eq_2 (n:=m) _ _) ?_
    rw [Dm ht] at hy ⊢
    simp only [KB,Ê c',Á]
    exact Ev.bind hy hz
   rcases An h with⟨c2,h⟩|⟨c2,h⟩
   . obtain rfl:=Ac h
     have c2':c1.E≠0:=by simpa using c2
     obtain⟨t1,ht1,rfl⟩:=hc.pan c2'
     exact⟨_,start _ Ev.pure,t1,ht1,.inr ⟨c2',rfl⟩⟩
   . have c2':c1.E=0:=by simpa using c2
     obtain⟨t1,ht1,rfl⟩:=hc.ok c2'
     obtain⟨a,h2,h⟩:=Ad h
     obtain⟨t2,ht2,rfl⟩:=N7 h2
     obtain rfl:t1=t2:=Ac (ht1.symm.trans ht2)
     rcases An h with⟨c3,h⟩|⟨c3,h⟩
     . obtain rfl:=Ac h
       refine⟨_,start (.ok c1.X (at_ L c1.To f)) ?_,t1,ht1,.inl ⟨c2',rfl⟩⟩
       have c3':isS t1 ⟨#[63]⟩=false:=by simpa using c3
       rw [Dm ht1]
       simp only [M8,c3',Á,é,É]
       exact Ev.pure
     . have c3':isS t1 ⟨#[63]⟩=true:=by simpa using c3
       obtain⟨t3,ht3⟩:=hL.next _ _ ht1 (by rw [EG c3'];decide)
       rw [CI hL ht1] at h
       obtain⟨g2,h3,h⟩:=Ad h
       obtain⟨y2,hy2,hc2⟩:=hE _ _ _ h3
       have e1:∀ z,Ev (fun m=>match y2 with
        |.ok a_ p5 =>
         (Bj p5 ⟨#[58]⟩).bind fun y3=>match y3 with
         |.ok n_1 p7 =>
          (Av m p7 (À (d+1))).bind fun y4=>match y4 with
          |.ok e5 p9 =>
           (some [c1.X,a_,e5]).bind fun l =>
           some (.ok (Aa.mk 20 0 ⟨#[]⟩ l c1.X.At) p9)
          |.pan e6 p10=>some (.pan e6 p10)
         |.pan e4 p8=>some (.pan e4 p8)
        |.pan e3 p6=>some (.pan e3 p6)) z->Ev (fun m=>Av m (at_ L k f) d) z:=by
        intro z hz
        refine start z ?_
        rw [Dm ht1]
        simp only [M8,c3',E7,Á,à,Ä]
        exact Ev.bind hy2 hz
       rcases An h with⟨c4,h⟩|⟨c4,h⟩
       . obtain rfl:=Ac h
         have c4':g2.E≠0:=by simpa using c4
         obtain⟨t4,ht4,rfl⟩:=hc2.pan c4'
         exact⟨_,e1 _ Ev.pure,t4,ht4,.inr ⟨c4',rfl⟩⟩
       . have c4':g2.E=0:=by simpa using c4
         obtain⟨t4,ht4,rfl⟩:=hc2.ok c4'
         obtain⟨a2,h5,h⟩:=Ad h
         obtain⟨t5,ht5,rfl⟩:=N7 h5
         obtain rfl:t4=t5:=Ac (ht4.symm.trans ht5)
         rcases An h with⟨c5,h⟩|⟨c5,h⟩
         . obtain rfl:=Ac h
           have c5':isS t4 ⟨#[58]⟩=false:=by simpa using c5
           refine⟨_,e1 (.pan ⟨t4.At,5⟩ (at_ L g2.To f)) ?_,t4,ht4,.inr ⟨show (5:Int)≠0 by decide,rfl⟩⟩
           rw [Dm ht4]
           simp only [Nd,c5',Á,ß,í]
           exact Ev.pure
         . have c5':isS t4 ⟨#[58]⟩=true:=by simpa using c5
           obtain⟨t6,ht6⟩:=hL.next _ _ ht4 (by rw [EG c5'];decide)
           rw [CI hL ht4] at h
           obtain⟨g3,h6,h⟩:=Ad h
           obtain⟨y3,hy3,hc3⟩:=hE _ _ _ h6
           have e2:∀ z,Ev (fun m=>match y3 with
            |.ok e5 p9 =>
             (some [c1.X,g2.X,e5]).bind fun l =>
             some (.ok (Aa.mk 20 0 ⟨#[]⟩ l c1.X.At) p9)
            |.pan e6 p10=>some (.pan e6 p10)) z->Ev (fun m=>Av m (at_ L k f) d) z:=by
            intro z hz
            refine e1 z ?_
            rw [Dm ht4]
            simp only [Nd,c5',Á,ë]
            exact Ev.bind hy3 hz
           rcases An h with⟨c6,h⟩|⟨c6,h⟩
           . obtain rfl:=Ac h
             have c6':g3.E≠0:=by simpa using c6
             obtain⟨t7,ht7,rfl⟩:=hc3.pan c6'
             exact⟨_,e2 _ Ev.pure,t7,ht7,.inr ⟨c6',rfl⟩⟩
           . have c6':g3.E=0:=by simpa using c6
             obtain⟨t7,ht7,rfl⟩:=hc3.ok c6'
             obtain rfl:=Ac h
             exact⟨_,e2 _ Ev.pure,t7,ht7,.inl ⟨rfl,rfl⟩⟩
theorem Ahz {n:Nat}(hM:SM L f n)(hA:SA L f n):SM L f (n+1):=by
 intro k d g h
 rw [B9.eq_2] at h
 obtain⟨b,h1,h⟩:=Ad h
 obtain⟨t,ht,rfl⟩:=N7 h1
 rcases An h with⟨c,h⟩|⟨c,h⟩
 . have c':isS t ⟨#[45]⟩=false:=by simpa using c
   obtain⟨g1,h2,h⟩:=Ad h
   obtain rfl:=Ac h
   obtain⟨y,hy,hc⟩:=hA _ _ _ t ht c' h2
   refine⟨y,?_,hc⟩
   refine Ev.step (fun m=>AT.eq_2 (n:=m) _ _) ?_
   rw [Dm ht] at hy ⊢
   simp only [M8,c',Á,é,É]
   refine Ev.bind hy ?_
   cases y<;>exact Ev.pure
 . have c':isS t ⟨#[45]⟩=true:=by simpa using c
   obtain⟨t2,ht2⟩:=hL.next _ _ ht (by rw [EG c'];decide)
   rw [CI hL ht] at h
   obtain⟨e,h2,h⟩:=Ad h
   rw [CY ht2] at h2
   obtain rfl:=Ac h2
   have start:∀ z,Ev (fun m=>match (if fst t2 (À (d+1)) false=0 then (.ok () (at_ L (k+1) f):Ex Ap Ae Unit) else .pan ⟨t2.At,fst t2 (À (d+1)) false⟩ (at_ L (k+1) f)) with
    |.ok d1 p3 =>
     (AT m p3 (À (d+1))).bind fun y2=>match y2 with
     |.ok n_1 p5 =>
      (some [n_1]).bind fun l =>
      some (.ok (Aa.mk 6 0 ⟨#[]⟩ l t.At) p5)
     |.pan e2 p6=>some (.pan e2 p6)
    |.pan e1 p4=>some (.pan e1 p4)) z->Ev (fun m=>AT m (at_ L k f) d) z:=by
    intro z hz
    refine Ev.step (fun m=>AT.eq_2 (n:=m) _ _) ?_
    rw [Dm ht]
    rw [Dm ht2] at hz
    have e:(L.drop (k+1).toNat)=t2::L.drop (k+1+1).toNat:=(As ht2).1
    rw [e]
    simp only [M8,c',E7,Á,à,Ä,KB]
    exact hz
   rcases An h with⟨c2,h⟩|⟨c2,h⟩
   . obtain rfl:=Ac h
     have c2':fst t2 (À (d+1)) false≠0:=by simpa using c2
     refine⟨_,start (.pan ⟨t2.At,fst t2 (À (d+1)) false⟩ (at_ L (k+1) f)) ?_,t2,ht2,.inr ⟨c2',rfl⟩⟩
     rw [È c2'];exact Ev.pure
   . have c2':fst t2 (À (d+1)) false=0:=by simpa using c2
     rw [Ê c2'] at start
     obtain⟨g2,h3,h⟩:=Ad h
     obtain⟨y2,hy2,hc2⟩:=hM _ _ _ h3
     have e1:∀ z,Ev (fun m=>match y2 with
      |.ok n_1 p5 =>
       (some [n_1]).bind fun l =>
       some (.ok (Aa.mk 6 0 ⟨#[]⟩ l t.At) p5)
      |.pan e2 p6=>some (.pan e2 p6)) z->Ev (fun m=>AT m (at_ L k f) d) z:=fun z hz=>start z (Ev.bind hy2 hz)
     rcases An h with⟨c3,h⟩|⟨c3,h⟩
     . obtain rfl:=Ac h
       have c3':g2.E≠0:=by simpa using c3
       obtain⟨t3,ht3,rfl⟩:=hc2.pan c3'
       exact⟨_,e1 _ Ev.pure,t3,ht3,.inr ⟨c3',rfl⟩⟩
     . have c3':g2.E=0:=by simpa using c3
       obtain⟨t3,ht3,rfl⟩:=hc2.ok c3'
       rw [ht] at h
       obtain rfl:=Ac h
       exact⟨_,e1 _ Ev.pure,t3,ht3,.inl ⟨rfl,rfl⟩⟩
omit hL in
theorem Ad6 {t:Ab}{r:List Ab}{f d:Int}(h:isS t ⟨#[33]⟩=false)(m:Nat):A0 (m+1) ⟨t::r,f⟩ 3 d=A0 (m+1) ⟨t::r,f⟩ 4 d:=by
 rw [A0.eq_2,A0.eq_2]
 simp only [M8,h,Á,Ä]
 rfl
theorem stepG {n:Nat}(hG:SG L f n)(hB:SB L f n):SG L f (n+1):=by
 intro k d g h
 rw [Ca.eq_2] at h
 obtain⟨b,h1,h⟩:=Ad h
 obtain⟨t,ht,rfl⟩:=N7 h1
 rcases An h with⟨c,h⟩|⟨c,h⟩
 . have c':isS t ⟨#[33]⟩=false:=by simpa using c
   obtain⟨g1,h2,h⟩:=Ad h
   obtain rfl:=Ac h
   obtain⟨y,⟨N,hy⟩,hc⟩:=hB k 4 d _ (by decide) (by decide) h2
   refine⟨y,⟨N+1,fun m hm=>?_⟩,hc⟩
   obtain⟨m,rfl⟩:∃ q,m=q+1:=⟨m-1,by omega⟩
   have:=hy (m+1) (by omega)
   rw [Dm ht] at this ⊢
   exact (Ad6 c' m).trans this
 . have c':isS t ⟨#[33]⟩=true:=by simpa using c
   obtain⟨t2,ht2⟩:=hL.next _ _ ht (by rw [EG c'];decide)
   rw [CI hL ht] at h
   obtain⟨e,h2,h⟩:=Ad h
   rw [CY ht2] at h2
   obtain rfl:=Ac h2
   have start:∀ z,Ev (fun m=>(match (if fst t2 (À (d+1)) true=0 then (.ok () (at_ L (k+1) f):Ex Ap Ae Unit) else .pan ⟨t2.At,fst t2 (À (d+1)) true⟩ (at_ L (k+1) f)) with
    |.ok d1 p9 =>
     (A0 m p9 3 (À (d+1))).bind fun y5=>match y5 with
     |.ok l2 p11 =>
      (some [l2]).bind fun l3 =>
      some (.ok (Aa.mk 5 0 ⟨#[]⟩ l3 t.At) p11)
     |.pan e10 p12=>some (.pan e10 p12)
    |.pan e9 p10=>some (.pan e9 p10))) z->Ev (fun m=>A0 m (at_ L k f) 3 d) z:=by
    intro z hz
    refine Ev.step (fun m=>A0.eq_2 (n:=m) _ _ _) ?_
    rw [Dm ht]
    rw [Dm ht2] at hz
    have e:(L.drop (k+1).toNat)=t2::L.drop (k+1+1).toNat:=(As ht2).1
    rw [e]
    simp only [M8,c',E7,Á,É,KB,è]
    refine Ev.congr hz fun m=>?_
    by_cases h0:fst t2 (À (d+1)) true=0
    . grind
    . simp only [È h0];rfl
   rcases An h with⟨c2,h⟩|⟨c2,h⟩
   . obtain rfl:=Ac h
     have c2':fst t2 (À (d+1)) true≠0:=by simpa using c2
     refine⟨_,start (.pan ⟨t2.At,fst t2 (À (d+1)) true⟩ (at_ L (k+1) f)) ?_,t2,ht2,.inr ⟨c2',rfl⟩⟩
     rw [È c2'];exact Ev.pure
   . have c2':fst t2 (À (d+1)) true=0:=by simpa using c2
     rw [Ê c2'] at start
     obtain⟨g2,h3,h⟩:=Ad h
     obtain⟨y2,hy2,hc2⟩:=hG _ _ _ h3
     have e1:∀ z,Ev (fun m=>match y2 with
      |.ok n_1 p5 =>
       (some [n_1]).bind fun l =>
       some (.ok (Aa.mk 5 0 ⟨#[]⟩ l t.At) p5)
      |.pan e2 p6=>some (.pan e2 p6)) z->Ev (fun m=>A0 m (at_ L k f) 3 d) z:=fun z hz=>start z (Ev.bind hy2 hz)
     rcases An h with⟨c3,h⟩|⟨c3,h⟩
     . obtain rfl:=Ac h
       have c3':g2.E≠0:=by simpa using c3
       obtain⟨t3,ht3,rfl⟩:=hc2.pan c3'
       exact⟨_,e1 _ Ev.pure,t3,ht3,.inr ⟨c3',rfl⟩⟩
     . have c3':g2.E=0:=by simpa using c3
       obtain⟨t3,ht3,rfl⟩:=hc2.ok c3'
       rw [ht] at h
       obtain rfl:=Ac h
       exact⟨_,e1 _ Ev.pure,t3,ht3,.inl ⟨rfl,rfl⟩⟩
theorem Afm {lv d:Int}(hlv:1<=lv/\lv<=6/\lv≠3){x:Aw}{e2:Aa}(hx:e2.At=x.X.At):∀ (n:Nat),(∀ m,m<n->SB L f m)->∀ (a b:Int) (c:Â) (e:List Aa) (to:Int) (t:Ab),gi L to=some t->∀ g,
 (AI n L lv x d a b c e to 0).bind (fun y=>match y with
  |.inl (x1,x2,x3,x4,x5,x6)=>some (Aw.mk (Aa.mk x1 x2 x3 x4 x.X.At) x5 x6)
  |.inr o=>some o)=some g->∃ y,Ev (fun m=>Bi m lv e2 d (L.drop to.toNat) f a b c e) y/\PD L f g y
 |0,_,a,b,c,e,to,t,ht,g,h=>by cases h
 |n+1,hB,a,b,c,e,to,t,ht,g,h=>by
  rw [AI.eq_2] at h
  simp only [è,É] at h
  obtain⟨w,h1,h⟩:=Ad h
  obtain⟨op,h2,h1⟩:=Ad h1
  obtain rfl:op=IK t:=YU ht h2
  have hp:L.drop to.toNat=t::L.drop (to+1).toNat:=(As ht).1
  have start:∀ z,Ev (fun m=>bif (decide (IS t lv GF 0<0)) then
   some (.ok (Aa.mk a b c e e2.At) (Ae.mk (t::L.drop (to+1).toNat) f))
   else
    (gi GF (IS t lv GF 0)).bind fun x =>
    (A0 m (at_ L (to+1) f) (À (lv+1)) d).bind fun y3=>match y3 with
    |.ok l p7 =>
     (some [(Aa.mk a b c e e2.At),l]).bind fun l1 =>
     bif (lv == 4) then
      some (.ok (Aa.mk x.op 0 ⟨#[]⟩ l1 e2.At) p7)
     else
      Bi m lv e2 d p7.l p7.forms x.op 0 ⟨#[]⟩ l1
    |.pan e8 p8=>some (.pan e8 p8)) z->Ev (fun m=>Bi m lv e2 d (L.drop to.toNat) f a b c e) z:=by
   intro z hz
   refine Ev.step (fun m=>Bi.eq_2 (n:=m) _ _ _ _ _ _ _ _ _) ?_
   rw [hp]
   simp only [Kv,Á,E7]
   exact Ev.bind (Abb 0 0 ⟨#[]⟩ [] 0 a b c e e2.At) hz
  rcases Aby t lv (by omega) with⟨bb,f1,f2,f3,f4⟩|⟨f1,f2⟩
  . have d0:decide (IS t lv GF 0<0)=false:=by rw [Ö];omega
    have c1:((IK t).N != lv)=false:=by simp [f3]
    rw [c1] at h1
    simp only [Ä] at h1
    obtain⟨g2,h3,h1⟩:=Ad h1
    rw [CI hL ht] at h3
    have wlT:À (lv+1)=lv+1:=by rw [A2]<;>omega
    rw [wlT] at h3
    obtain⟨y2,hy2,hc2⟩:=hB n (by omega) (to+1) (lv+1) d g2 (by omega) (by omega) h3
    have e1:∀ z,Ev (fun m=>match y2 with
     |.ok l p7 =>
      (some [(Aa.mk a b c e e2.At),l]).bind fun l1 =>
      bif (lv == 4) then
       some (.ok (Aa.mk bb.op 0 ⟨#[]⟩ l1 e2.At) p7)
      else
       Bi m lv e2 d p7.l p7.forms bb.op 0 ⟨#[]⟩ l1
     |.pan e8 p8=>some (.pan e8 p8)) z->Ev (fun m=>Bi m lv e2 d (L.drop to.toNat) f a b c e) z:=by
     intro z hz
     refine start z ?_
     simp only [d0,Ä,f2,Á,wlT]
     exact Ev.bind hy2 hz
    rcases An h1 with⟨c3,h1⟩|⟨c3,h1⟩
    . obtain rfl:=Ac h1
      obtain rfl:=Ac h
      have c3':g2.E≠0:=by simpa using c3
      obtain⟨t3,ht3,rfl⟩:=hc2.pan c3'
      exact⟨_,e1 _ Ev.pure,t3,ht3,.inr ⟨c3',rfl⟩⟩
    . have c3':g2.E=0:=by simpa using c3
      obtain⟨t3,ht3,rfl⟩:=hc2.ok c3'
      simp only [Á] at h1
      rcases An h1 with⟨c4,h1⟩|⟨c4,h1⟩
      . obtain rfl:=Ac h1
        obtain rfl:=Ac h
        refine⟨_,e1 (.ok (Aa.mk bb.op 0 ⟨#[]⟩ [Aa.mk a b c e e2.At,g2.X] e2.At) (at_ L g2.To f)) ?_,t3,ht3,.inl ⟨rfl,?_⟩⟩
        . simp only [Á,c4,É];exact Ev.pure
        . rw [f4,hx]
      . obtain⟨y3,hy3,hc3⟩:=Afm hlv hx n (fun m hm=>hB m (by omega)) _ _ _ _ _ t3 ht3 g (by rw [h1];exact h)
        refine⟨y3,e1 y3 ?_,hc3⟩
        simp only [Á,c4,Ä,f4,hx]
        exact hy3
  . have c1:((IK t).N != lv)=true:=by simpa using f2
    rw [c1] at h1
    obtain rfl:=Ac h1
    obtain rfl:=Ac h
    have d0:decide (IS t lv GF 0<0)=true:=by rw [f1];decide
    refine⟨.ok (Aa.mk a b c e x.X.At) (at_ L to f),start _ ?_,t,ht,.inl ⟨rfl,rfl⟩⟩
    rw [d0,<- hp,hx];exact Ev.pure
theorem Ah1 {n:Nat}(hB:∀ m,m<=n->SB L f m)(hG:SG L f n)(hM:SM L f n):SB L f (n+1):=by
 intro k lv d g l1 l7 h
 rw [Ax.eq_2] at h
 by_cases h6:6<lv
 . obtain rfl:lv=7:=by omega
   simp only [show decide ((6:Int)<7)=true from rfl,É] at h
   obtain⟨g1,h1,h⟩:=Ad h
   obtain rfl:=Ac h
   obtain⟨y,hy,hc⟩:=hM _ _ _ h1
   refine⟨y,?_,hc⟩
   refine Ev.step (fun m=>A0.eq_2 (n:=m) _ _ _) ?_
   simp only [show ((7:Int) == 3)=false from rfl,show ((7:Int) == 7)=true from rfl,É,Ä,Á]
   refine Ev.bind hy ?_
   cases y<;>exact Ev.pure
 . have d6:decide (6<lv)=false:=by rw [Ö];exact h6
   rw [d6] at h
   simp only [Ä] at h
   by_cases h3:lv=3
   . subst h3
     simp only [è,É] at h
     obtain⟨g1,h1,h⟩:=Ad h
     obtain rfl:=Ac h
     exact hG _ _ _ h1
   . have d3:(lv == 3)=false:=by simpa using h3
     rw [d3] at h
     simp only [Ä] at h
     have wlT:À (lv+1)=lv+1:=by rw [A2]<;>omega
     rw [wlT] at h
     obtain⟨x,h1,h⟩:=Ad h
     obtain⟨y,hy,hc⟩:=hB n (Õ n) k (lv+1) d x (by omega) (by omega) h1
     have d7:(lv == 7)=false:=by simp;omega
     have start:∀ z,Ev (fun m=>match y with
      |.ok e2 p3 =>
       Bi m lv e2 d p3.l p3.forms e2.Op e2.N e2.S e2.Kids
      |.pan e3 p4=>some (.pan e3 p4)) z->Ev (fun m=>A0 m (at_ L k f) lv d) z:=by
      intro z hz
      refine Ev.step (fun m=>A0.eq_2 (n:=m) _ _ _) ?_
      simp only [d3,d7,wlT,Ä,Á]
      exact Ev.bind hy hz
     by_cases he:x.E=0
     . obtain⟨t,ht,rfl⟩:=hc.ok he
       rw [he] at h
       obtain⟨z,hz,hcz⟩:=Afm hL f (lv:=lv) (d:=d) ⟨by omega,by omega,h3⟩ (x:=x) (e2:=x.X) rfl n (fun m hm=>hB m (by omega)) x.X.Op x.X.N x.X.S x.X.Kids x.To t ht g h
       exact⟨z,start z hz,hcz⟩
     . obtain⟨t,ht,rfl⟩:=hc.pan he
       refine⟨_,start _ Ev.pure,?_⟩
       obtain⟨w,h2,h⟩:=Ad h
       cases n with
       |zero=>cases h2
       |succ n =>
        rw [AI.eq_2] at h2
        have de:(x.E == 0)=false:=by simpa using he
        rw [de] at h2
        obtain rfl:=Ac h2
        obtain rfl:=Ac h
        exact⟨t,ht,.inr ⟨he,rfl⟩⟩
def Pz (m:Nat)(d:Int)(l:List Ab)(f:Int)(e3:List Aa):Option ((List Ab×Int×List Aa) ⊕ (Ex Ap Ae Aa)) :=
 bif ((e3.length:Int) == 40) then
  (Ci (Ae.mk l f) 0 true).bind fun y3=>match y3 with
  |.ok _ p9 =>
   (AL p9 2).bind fun y4=>match y4 with
   |.ok _ p11 =>
    (Av m p11 (À (d+1))).bind fun y5=>match y5 with
    |.ok e7 p13 =>
     (some [e7]).bind fun l =>
     (B4 65 e3 l).bind fun l1 =>
     AM m d p13.l p13.forms l1
    |.pan e8 p14=>some (.inr (.pan e8 p14))
   |.pan e6 p12=>some (.inr (.pan e6 p12))
  |.pan e5 p10=>some (.inr (.pan e5 p10))
 else
  (Av m (Ae.mk l f) (À (d+1))).bind fun y6=>match y6 with
  |.ok e9 p15 =>
   (some [e9]).bind fun l2 =>
   (B4 65 e3 l2).bind fun l3 =>
   AM m d p15.l p15.forms l3
  |.pan e10 p16=>some (.inr (.pan e10 p16))
omit hL in
theorem IW (m:Nat){t:Ab}{r:List Ab}{f d:Int}{e3:List Aa}:AM (m+1) d (t::r) f e3 =
 if isS t ⟨#[41]⟩=true then some (.inl (t::r,f,e3)) else if 0<e3.length then (if isS t ⟨#[44]⟩=true then Pz m d r f e3 else some (.inr (.pan ⟨t.At,5⟩ ⟨t::r,f⟩))) else Pz m d (t::r) f e3:=by
 rw [AM.eq_2]
 simp only [M8,Nd,Á]
 cases isS t ⟨#[41]⟩ with
 |true=>rfl
 |false =>
  by_cases h0:0<e3.length
  . have d0:decide (0<(e3.length:Int))=true:=by rw [Í];omega
    rw [d0,Ê h0]
    cases isS t ⟨#[44]⟩ with
    |true=>rfl
    |false=>rfl
  . have d0:decide (0<(e3.length:Int))=false:=by rw [Ö];omega
    rw [d0,È h0];rfl
omit hL in
theorem Abl {t:Ab}{d:Int}(h:fst t d true≠5):fst t 0 true=0:=by
 unfold fst at h ⊢
 split at h
 . exact absurd rfl h
 . rename_i hh
   rw [È hh,È (by decide)]
omit hL in
theorem Abn {t:Ab}{d:Int}(h:fst t d true=5):fst t 0 true=5:=by
 unfold fst at h ⊢
 split at h
 . rename_i hh;rw [Ê hh]
 . split at h<;>cases h
omit hL in
theorem Ab2 {t:Ab}{r:List Ab}{f d:Int}(h:fst t d true≠0):Ev (fun m=>Av m ⟨t::r,f⟩ d) (.pan ⟨t.At,fst t d true⟩ ⟨t::r,f⟩):=by
 refine Ev.step (fun m=>Av.eq_2 (n:=m) _ _) ?_
 simp only [KB,È h,Á]
 exact Ev.pure
def Ai3 (L:List Ab)(f:Int)(x:Ab)(g:Aw)(w:(List Ab×Int×List Aa) ⊕ (Ex Ap Ae Aa)):Prop :=
 (g.E=0/\∃ kids k t t',g.To=k+1/\gi L k=some t/\isS t ⟨#[41]⟩=true/\gi L (k+1)=some t'/\w=.inl (L.drop k.toNat,f,kids)/\g.X=⟨4,0,x.S,kids,x.At⟩) ∨
  (g.E≠0/\∃ t,gi L g.To=some t/\w=.inr (.pan ⟨t.At,g.E⟩ (at_ L g.To f)))
theorem Afn {d:Int}{x:Ab}:∀ (n:Nat),(∀ m,m<n->SE L f m)->∀ (k:Int) (out:List Aa) (t:Ab),gi L k=some t->∀ g,BU n L d x k out=some g ->
 ∃ w,Ev (fun m=>Pz m d (L.drop k.toNat) f out) w/\Ai3 L f x g w
 |0,_,k,out,t,ht,g,h=>by cases h
 |n+1,hE,k,out,t,ht,g,h=>by
  rw [BU.eq_2,CY ht] at h
  simp only [Á] at h
  have hp:L.drop k.toNat=t::L.drop (k+1).toNat:=(As ht).1
  obtain⟨v,hv,h⟩:=Ad h
  have hv2:v=(decide (fst t (À (d+1)) true=2)||(decide (fst t (À (d+1)) true=0)&&((out.length:Int) == 40))):=by
   rcases Yk (t:=t) (d:=À (d+1)) (no:=true) with e|e|e<;>rw [e] at hv ⊢
   . cases h40:((out.length:Int) == 40)<;>rw [h40] at hv<;>exact (Ac hv).symm
   . exact (Ac hv).symm
   . exact (Ac hv).symm
  rcases An h with⟨c,h⟩|⟨c,h⟩
  . obtain rfl:=Ac h
    rw [c] at hv2
    refine⟨.inr (.pan ⟨t.At,2⟩ (at_ L k f)),?_,.inr ⟨show (2:Int)≠0 by decide,t,ht,rfl⟩⟩
    rw [hp,Dm ht]
    unfold Pz
    have hn5:fst t (À (d+1)) true≠5:=by
     intro e5;rw [e5] at hv2;cases hv2
    cases h40:((out.length:Int) == 40) with
    |true =>
     simp only [É,KB,Abl hn5,ë,Á,HE]
     exact Ev.pure
    |false =>
     have e2:fst t (À (d+1)) true=2:=by
      rw [h40] at hv2;simpa using hv2.symm
     simp only [Ä]
     have:=Ab2 (t:=t) (r:=L.drop (k+1).toNat) (f:=f) (d:=À (d+1)) (by rw [e2];decide)
     rw [e2] at this
     exact Ev.bind this Ev.pure
  . rw [c] at hv2
    obtain⟨g1,h1,h⟩:=Ad h
    obtain⟨y,hy,hc⟩:=hE n (by omega) _ _ _ h1
    cases h40:((out.length:Int) == 40) with
    |true =>
     -- a problem of syntax
     have e5:fst t (À (d+1)) true=5:=by
      grind [Yk]
     cases n with
     |zero=>cases h1
     |succ n =>
      rw [Bl.eq_2,CY ht,e5] at h1
      obtain rfl:=Ac h1
      obtain rfl:=Ac h
      refine⟨.inr (.pan ⟨t.At,5⟩ (at_ L k f)),?_,.inr ⟨show (5:Int)≠0 by decide,t,ht,rfl⟩⟩
      rw [hp,Dm ht]
      unfold Pz
      rw [h40]
      simp only [É,KB,Abn e5,Á]
      exact Ev.pure
    |false =>
     have start:∀ z,Ev (fun m=>match y with
      |.ok e9 p15 =>
       (some [e9]).bind fun l2 =>
       (B4 65 out l2).bind fun l3 =>
       AM m d p15.l p15.forms l3
      |.pan e10 p16=>some (.inr (.pan e10 p16))) z->Ev (fun m=>Pz m d (L.drop k.toNat) f out) z:=by
      intro z hz
      unfold Pz
      rw [h40]
      exact Ev.bind hy hz
     rcases An h with⟨c2,h⟩|⟨c2,h⟩
     . obtain rfl:=Ac h
       have c2':g1.E≠0:=by simpa using c2
       obtain⟨t1,ht1,rfl⟩:=hc.pan c2'
       exact⟨_,start _ Ev.pure,.inr ⟨c2',t1,ht1,rfl⟩⟩
     . have c2':g1.E=0:=by simpa using c2
       obtain⟨t1,ht1,rfl⟩:=hc.ok c2'
       obtain⟨l2,hl2,h⟩:=Ad (show (B4 65 out [g1.X]).bind _=some g from h)
       rw [A6 ht1] at h
       simp only [Á,A6 ht1] at h
       have hlen:0<l2.length:=by
        grind [B4]
       have hp1:L.drop g1.To.toNat=t1::L.drop (g1.To+1).toNat:=(As ht1).1
       have e1:∀ z,Ev (fun m=>AM m d (L.drop g1.To.toNat) f l2) z->Ev (fun m=>Pz m d (L.drop k.toNat) f out) z:=by
        intro z hz
        refine start z ?_
        simp only [Á,hl2]
        exact hz
       rcases An h with⟨c3,h⟩|⟨c3,h⟩
       . have c3':isS t1 ⟨#[41]⟩=true:=c3
         obtain⟨t2,ht2⟩:=hL.next _ _ ht1 (by rw [EG c3'];decide)
         obtain rfl:=Ac h
         rw [CI hL ht1]
         refine⟨.inl (L.drop g1.To.toNat,f,l2),e1 _ ?_,.inl ⟨rfl,l2,g1.To,t1,t2,rfl,ht1,c3',ht2,rfl,rfl⟩⟩
         rw [hp1]
         refine Ev.step (fun m=>IW m) ?_
         simp only [c3',ë];exact Ev.pure
       . have c3':isS t1 ⟨#[41]⟩=false:=c3
         rcases An h with⟨c4,h⟩|⟨c4,h⟩
         . have c4':isS t1 ⟨#[44]⟩=false:=by
            have:(!isS t1 ⟨#[44]⟩)=true:=c4
            simpa using this
           obtain rfl:=Ac h
           refine⟨.inr (.pan ⟨t1.At,5⟩ (at_ L g1.To f)),e1 _ ?_,.inr ⟨show (5:Int)≠0 by decide,t1,ht1,rfl⟩⟩
           rw [hp1,Dm ht1]
           refine Ev.step (fun m=>IW m) ?_
           simp only [c3',c4',hlen,ë,í,ß];exact Ev.pure
         . have c4':isS t1 ⟨#[44]⟩=true:=by
            have:(!isS t1 ⟨#[44]⟩)=false:=c4
            simpa using this
           obtain⟨t2,ht2⟩:=hL.next _ _ ht1 (by rw [EG c4'];decide)
           rw [CI hL ht1] at h
           obtain⟨w,hw,hcw⟩:=Afn n (fun m hm=>hE m (by omega)) (g1.To+1) l2 t2 ht2 g h
           refine⟨w,e1 w ?_,hcw⟩
           rw [hp1]
           refine Ev.step (fun m=>IW m) ?_
           simp only [c3',c4',hlen,ë,í,ß];exact hw
theorem Ah2 {n:Nat}(hE:∀ m,m<=n->SE L f m):SA L f (n+1):=by
 intro k d g t ht hm h
 rw [BB.eq_2,ht] at h
 simp only [Á] at h
 rw [A6 ht] at h
 simp only [Á] at h
 have hmem:=Sz ht
 have hbeg:DI t=(t.Kind == 1||(t.Kind == 2||(t.Kind == 3||isS t ⟨#[40]⟩))):=by
  unfold DI
  show (t.Kind == 1||(t.Kind == 2||(t.Kind == 3||(isS t ⟨#[40]⟩||isS t ⟨#[45]⟩))))=_
  rw [hm,Ē]
 have hp:L.drop k.toNat=t::L.drop (k+1).toNat:=(As ht).1
 -- behind the first test
 have start:DI t=true->∀ z,Ev (fun m =>
  bif (t.Kind == 2) then
   some (.ok (Aa.mk 1 t.N t.S [] t.At) (at_ L (k+1) f))
  else
   bif (t.Kind == 3) then
    some (.ok (Aa.mk 2 t.N t.S [] t.At) (at_ L (k+1) f))
   else
    bif (t.Kind == 1) then
     (AJ (at_ L (k+1) f) ⟨#[40]⟩).bind fun i =>
     bif (!i) then
      some (.ok (Aa.mk 3 t.N t.S [] t.At) (at_ L (k+1) f))
     else
      (A4 (at_ L (k+1) f)).bind fun n_ =>
      ((AM m d n_.2.l n_.2.forms []
      ):Option (((List Ab)×Int×(List Aa)) ⊕ (Ex Ap Ae Aa))).bind fun y1=>match y1 with
      |.inl (p3,p4,e1) =>
       (A4 (Ae.mk p3 p4)).bind fun n_1 =>
       some (.ok (Aa.mk 4 t.N t.S e1 t.At) n_1.2)
      |.inr o=>some o
    else
     (Av m (at_ L (k+1) f) (À (d+1))).bind fun y8=>match y8 with
     |.ok e12 p19 =>
      (Bj p19 ⟨#[41]⟩).bind fun y9=>match y9 with
      |.ok n_3 p21 =>
       some (.ok e12 p21)
      |.pan e14 p22=>some (.pan e14 p22)
     |.pan e13 p20=>some (.pan e13 p20)) z->Ev (fun m=>AR m (at_ L k f) d) z:=by
  intro hb z hz
  refine Ev.step (fun m=>AR.eq_2 (n:=m) _ _) ?_
  have hb':BH (at_ L k f)=some true:=by rw [Dm ht,I0];exact ü some hb
  rw [hb']
  simp only [Á,à,Ä]
  rw [hp]
  simp only [E7,Á]
  exact hz
 rcases An h with⟨c,h⟩|⟨c,h⟩
 . -- in parentheses
   have c':isS t ⟨#[40]⟩=true:=c
   have hk4:=EG c'
   obtain⟨t2,ht2⟩:=hL.next _ _ ht (by rw [hk4];decide)
   rw [CI hL ht] at h
   obtain⟨g1,h1,h⟩:=Ad h
   obtain⟨y,hy,hc⟩:=hE n (Õ n) _ _ _ h1
   have hb:DI t=true:=by rw [hbeg,c'];simp
   have e1:∀ z,Ev (fun m=>match y with
    |.ok e12 p19 =>
     (Bj p19 ⟨#[41]⟩).bind fun y9=>match y9 with
     |.ok n_3 p21 =>
      some (.ok e12 p21)
     |.pan e14 p22=>some (.pan e14 p22)
    |.pan e13 p20=>some (.pan e13 p20)) z->Ev (fun m=>AR m (at_ L k f) d) z:=by
    intro z hz
    refine start hb z ?_
    simp only [hk4,show ((4:Int) == 2)=false from rfl,show ((4:Int) == 3)=false from rfl,show ((4:Int) == 1)=false from rfl,Ä]
    exact Ev.bind hy hz
   rcases An h with⟨c2,h⟩|⟨c2,h⟩
   . obtain rfl:=Ac h
     have c2':g1.E≠0:=by simpa using c2
     obtain⟨t1,ht1,rfl⟩:=hc.pan c2'
     exact⟨_,e1 _ Ev.pure,t1,ht1,.inr ⟨c2',rfl⟩⟩
   . have c2':g1.E=0:=by simpa using c2
     obtain⟨t1,ht1,rfl⟩:=hc.ok c2'
     rw [A6 ht1] at h
     simp only [Á] at h
     rcases An h with⟨c3,h⟩|⟨c3,h⟩
     . have c3':isS t1 ⟨#[41]⟩=false:=by
        have:(!isS t1 ⟨#[41]⟩)=true:=c3
        simpa using this
       obtain rfl:=Ac h
       refine⟨.pan ⟨t1.At,5⟩ (at_ L g1.To f),e1 _ ?_,t1,ht1,.inr ⟨show (5:Int)≠0 by decide,rfl⟩⟩
       rw [Dm ht1]
       simp only [Nd,c3',Á,ß,í]
       exact Ev.pure
     . have c3':isS t1 ⟨#[41]⟩=true:=by
        have:(!isS t1 ⟨#[41]⟩)=false:=c3
        simpa using this
       obtain⟨t3,ht3⟩:=hL.next _ _ ht1 (by rw [EG c3'];decide)
       rw [CI hL ht1] at h
       obtain rfl:=Ac h
       refine⟨.ok g1.X (at_ L (g1.To+1) f),e1 _ ?_,t3,ht3,.inl ⟨rfl,rfl⟩⟩
       rw [Dm ht1]
       simp only [Nd,c3',Á,ë]
       exact Ev.pure
 . have c':isS t ⟨#[40]⟩=false:=c
   rw [c',Ē] at hbeg
   by_cases k2:t.Kind=2
   . simp only [k2,è,É] at h
     obtain⟨t2,ht2⟩:=hL.next _ _ ht (by rw [k2];decide)
     rw [CI hL ht] at h
     obtain rfl:=Ac h
     refine⟨.ok (Aa.mk 1 t.N ⟨#[]⟩ [] t.At) (at_ L (k+1) f),start (by rw [hbeg,k2];rfl) _ ?_,t2,ht2,.inl ⟨rfl,rfl⟩⟩
     simp only [k2,è,É,hL.num t hmem k2]
     exact Ev.pure
   . have d2:(t.Kind == 2)=false:=by simpa using k2
     have hN:=hL.other t hmem k2
     rw [d2] at h
     simp only [Ä] at h
     by_cases k3:t.Kind=3
     . simp only [k3,è,É] at h
       obtain⟨t2,ht2⟩:=hL.next _ _ ht (by rw [k3];decide)
       rw [CI hL ht] at h
       obtain rfl:=Ac h
       refine⟨.ok (Aa.mk 2 0 t.S [] t.At) (at_ L (k+1) f),start (by rw [hbeg,k3];rfl) _ ?_,t2,ht2,.inl ⟨rfl,rfl⟩⟩
       simp only [d2,k3,è,É,Ä,hN]
       exact Ev.pure
     . have d3:(t.Kind == 3)=false:=by simpa using k3
       rw [d3] at h
       simp only [Ä] at h
       by_cases k1:t.Kind=1
       . have d1:(t.Kind != 1)=false:=by simp [k1]
         rw [d1] at h
         simp only [Ä] at h
         obtain⟨t2,ht2⟩:=hL.next _ _ ht (by rw [k1];decide)
         rw [CI hL ht] at h
         rw [A6 ht2] at h
         simp only [Á] at h
         have hb:DI t=true:=by rw [hbeg,k1];rfl
         have dk1:(t.Kind == 1)=true:=by simp [k1]
         rcases An h with⟨c4,h⟩|⟨c4,h⟩
         . have c4':isS t2 ⟨#[40]⟩=false:=by
            have:(!isS t2 ⟨#[40]⟩)=true:=c4
            simpa using this
           obtain rfl:=Ac h
           refine⟨.ok (Aa.mk 3 0 t.S [] t.At) (at_ L (k+1) f),start hb _ ?_,t2,ht2,.inl ⟨rfl,rfl⟩⟩
           rw [Dm ht2]
           simp only [d2,d3,dk1,M8,c4',É,Ä,Á,é,hN]
           exact Ev.pure
         . have c4':isS t2 ⟨#[40]⟩=true:=by
            have:(!isS t2 ⟨#[40]⟩)=false:=c4
            simpa using this
           obtain⟨t3,ht3⟩:=hL.next _ _ ht2 (by rw [EG c4'];decide)
           have e1:∀ z,Ev (fun m=>((AM m d (L.drop (k+1+1).toNat) f []
            ):Option (((List Ab)×Int×(List Aa)) ⊕ (Ex Ap Ae Aa))).bind fun y1=>match y1 with
            |.inl (p3,p4,e1) =>
             (A4 (Ae.mk p3 p4)).bind fun n_1 =>
             some (.ok (Aa.mk 4 t.N t.S e1 t.At) n_1.2)
            |.inr o=>some o) z->Ev (fun m=>AR m (at_ L k f) d) z:=by
            intro z hz
            refine start hb z ?_
            rw [Dm ht2]
            simp only [d2,d3,dk1,M8,c4',E7,É,Ä,Á,à]
            exact hz
           obtain⟨g1,h1,h⟩:=Ad h
           obtain rfl:=Ac h
           have hk2:À (k+2)=k+1+1:=by
            have:=CI hL ht2
            rw [show k+2=k+1+1 by omega];exact this
           cases n with
           |zero=>cases h1
           |succ n =>
            rw [Dy.eq_2,ht,hk2] at h1
            simp only [Á] at h1
            rw [A6 ht3] at h1
            simp only [Á] at h1
            have hp3:L.drop (k+1+1).toNat=t3::L.drop (k+1+1+1).toNat:=(As ht3).1
            rcases An h1 with⟨c5,h1⟩|⟨c5,h1⟩
            . have c5':isS t3 ⟨#[41]⟩=true:=c5
              obtain⟨t4,ht4⟩:=hL.next _ _ ht3 (by rw [EG c5'];decide)
              rw [CI hL ht3] at h1
              obtain rfl:=Ac h1
              refine⟨.ok (Aa.mk 4 0 t.S [] t.At) (at_ L (k+1+1+1) f),e1 _ ?_,t4,ht4,.inl ⟨rfl,rfl⟩⟩
              rw [hp3]
              refine Ev.bind (a:=.inl (t3::L.drop (k+1+1+1).toNat,f,[])) (Ev.step (fun m=>IW m) ?_) ?_
              . simp only [c5',ë];exact Ev.pure
              . simp only [E7,Á,hN];exact Ev.pure
            . have c5':isS t3 ⟨#[41]⟩=false:=c5
              obtain⟨w,hw,hcw⟩:=Afn hL f (x:=t) n (fun m hm=>hE m (by omega)) (k+1+1) [] t3 ht3 g1 h1
              have hw2:Ev (fun m=>AM m d (L.drop (k+1+1).toNat) f []) w:=by
               rw [hp3] at hw ⊢
               refine Ev.step (fun m=>IW m) ?_
               simp only [c5',Î,Nat.lt_irrefl,í,ß]
               exact hw
              rcases hcw with⟨he,kids,q,t5,t6,hq,ht5,_,ht6,rfl,hX⟩|⟨he,t5,ht5,rfl⟩
              . refine⟨.ok g1.X (at_ L g1.To f),e1 _ (Ev.bind hw2 ?_),t6,by rw [hq];exact ht6,.inl ⟨he,rfl⟩⟩
                have hp5:L.drop q.toNat=t5::L.drop (q+1).toNat:=(As ht5).1
                rw [hX,hq,hp5]
                simp only [E7,Á,hN]
                exact Ev.pure
              . exact⟨_,e1 _ (Ev.bind hw2 Ev.pure),t5,ht5,.inr ⟨he,rfl⟩⟩
       . have d1:(t.Kind != 1)=true:=by simpa using k1
         rw [d1] at h
         obtain rfl:=Ac h
         have hb:DI t=false:=by rw [hbeg,d2,d3];simpa using k1
         refine⟨.pan ⟨t.At,5⟩ (at_ L k f),?_,t,ht,.inr ⟨show (5:Int)≠0 by decide,rfl⟩⟩
         refine Ev.step (fun m=>AR.eq_2 (n:=m) _ _) ?_
         have hb':BH (at_ L k f)=some false:=by rw [Dm ht,I0];exact ü some hb
         rw [hb',Dm ht]
         simp only [Á,é,É,HE]
         exact Ev.pure
theorem Ah4:∀ n,(∀ m,m<=n->SE L f m)/\(∀ m,m<=n->SB L f m)/\(∀ m,m<=n->SG L f m)/\(∀ m,m<=n->SM L f m)/\(∀ m,m<=n->SA L f m)
 |0=>by
  refine⟨fun m hm=>?_,fun m hm=>?_,fun m hm=>?_,fun m hm=>?_,fun m hm=>?_⟩<;>obtain rfl:m=0:=by omega
  . intro k d g h;cases h
  . intro k lv d g _ _ h;cases h
  . intro k d g h;cases h
  . intro k d g h;cases h
  . intro k d g t _ _ h;cases h
 |n+1=>by
  obtain⟨hE,hB,hG,hM,hA⟩:=Ah4 n
  have up:∀ (S:Nat->Prop),(∀ m,m<=n->S m)->S (n+1)->∀ m,m<=n+1->S m:=fun S h1 h2 m hm=>by
   by_cases e:m=n+1
   . rw [e];exact h2
   . exact h1 m (by omega)
  exact⟨up _ hE (Ah0 hL f (hE n (Õ n)) (hB n (Õ n))),up _ hB (Ah1 hL f hB (hG n (Õ n)) (hM n (Õ n))),up _ hG (stepG hL f (hG n (Õ n)) (hB n (Õ n))),
   up _ hM (Ahz hL f (hM n (Õ n)) (hA n (Õ n))),up _ hA (Ah2 hL f hE)⟩
theorem Ajc {n:Nat}{k d:Int}{g:Aw}(h:Bl n L k d=some g):∃ y,Ev (fun m=>Av m (at_ L k f) d) y/\PD L f g y:=(Ah4 hL f n).1 n (Õ n) k d g h
end
end Go.Sp
namespace Go.Sp
open Go
def FU (L:List Ab)(k:Int)(F:Nat->Option Aw):Prop:=∃ g,Ev F g/\(∃ t',gi L g.To=some t')/\(g.E=0->k<g.To)
structure Oi (L:List Ab) (k:Int):Prop where
 E:∀ d,FU L k (fun n=>Bl n L k d)
 B:∀ lv d,1<=lv->lv<=7->FU L k (fun n=>Ax n L k lv d)
 G:∀ d,FU L k (fun n=>Ca n L k d)
 M:∀ d,FU L k (fun n=>B9 n L k d)
theorem FU.fail {L:List Ab}{k:Int}{F:Nat->Option Aw}{g:Aw}{t:Ab}(h:Ev F g)(ht:gi L g.To=some t)(he:g.E≠0):FU L k F:=⟨g,h,⟨t,ht⟩,fun e=>absurd e he⟩
section
variable {L:List Ab} (hL:MA L)
include hL
theorem UE {lv d:Int}(hlv:1<=lv/\lv<=6/\lv≠3){x:Aw}(k0:Int)(hE:∀ k t,gi L k=some t->k0<k->Oi L k) :
 ∀ (r:Nat) (a b:Int) (c:Â) (e:List Aa) (to:Int) (t:Ab),gi L to=some t->k0<to->(L.length:Int)-to<=r ->
  FU L k0 (fun n=>(AI n L lv x d a b c e to 0).bind (fun y=>match y with
   |.inl (x1,x2,x3,x4,x5,x6)=>some (Aw.mk (Aa.mk x1 x2 x3 x4 x.X.At) x5 x6)
   |.inr o=>some o))
 |0,a,b,c,e,to,t,ht,h0,hr=>by
  have:=(As ht).2;omega
 |r+1,a,b,c,e,to,t,ht,h0,hr=>by
  have wlT:À (lv+1)=lv+1:=by rw [A2]<;>omega
  have start:∀ g,Ev (fun n=>((bif ((IK t).N != lv) then
   some (.inr (Aw.mk (Aa.mk a b c e x.X.At) to 0))
   else
    (Ax n L (À (to+1)) (lv+1) d).bind fun y1 =>
    bif (y1.E != 0) then
     some (.inr y1)
    else
     (some [(Aa.mk a b c e x.X.At),y1.X]).bind fun l1 =>
     bif (lv == 4) then
      some (.inr (Aw.mk (Aa.mk (IK t).Op 0 ⟨#[]⟩ l1 x.X.At) y1.To 0))
     else
      AI n L lv x d (IK t).Op 0 ⟨#[]⟩ l1 y1.To 0):Option ((Int×Int×ByteArray×(List Aa)×Int×Int) ⊕ Aw)).bind (fun y=>match y with
   |.inl (x1,x2,x3,x4,x5,x6)=>some (Aw.mk (Aa.mk x1 x2 x3 x4 x.X.At) x5 x6)
   |.inr o=>some o)) g->Ev (fun n=>(AI n L lv x d a b c e to 0).bind (fun y=>match y with
   |.inl (x1,x2,x3,x4,x5,x6)=>some (Aw.mk (Aa.mk x1 x2 x3 x4 x.X.At) x5 x6)
   |.inr o=>some o)) g:=by
   rintro g ⟨N,hg⟩
   obtain⟨M,hM⟩:=QK ht
   refine⟨max N M+1,fun n hn=>?_⟩
   obtain⟨n,rfl⟩:∃ m,n=m+1:=⟨n-1,by omega⟩
   have h1:=hg n (by omega)
   have h2:=hM n (by omega)
   simp only at h1 h2 ⊢
   rw [AI.eq_2,h2]
   simp only [è,É,Á,wlT]
   exact h1
  by_cases hN:(IK t).N=lv
  . have hb:((IK t).N != lv)=false:=by simpa using hN
    have htn:t.Kind≠5:=by
     intro h5
     have:∀ (z:List (ByteArray×Int)) (j:Nat),(IQ t z j).N=0:=by
      intro z
      induction z with
      |nil=>intro j;rfl
      |cons y z ih =>
       intro j
       show (if isS t y.1=true then (⟨y.2,7+(j:Int)⟩:BF) else IQ t z (j+1)).N=0
       rw [È (by unfold isS;rw [h5];simp)];exact ih _
     have:=this opz 0
     have h9:(IK t).N=0:=this
     omega
    obtain⟨t1,ht1⟩:=hL.next _ _ ht htn
    have hk:=As ht
    obtain⟨g1,hg1,⟨t2,ht2⟩,hlt⟩:=(hE (to+1) t1 ht1 (by omega)).B (lv+1) d (by omega) (by omega)
    have e1:∀ g,Ev (fun n=>((bif (g1.E != 0) then
     some (.inr g1)
     else
      (some [(Aa.mk a b c e x.X.At),g1.X]).bind fun l1 =>
      bif (lv == 4) then
       some (.inr (Aw.mk (Aa.mk (IK t).Op 0 ⟨#[]⟩ l1 x.X.At) g1.To 0))
      else
       AI n L lv x d (IK t).Op 0 ⟨#[]⟩ l1 g1.To 0):Option ((Int×Int×ByteArray×(List Aa)×Int×Int) ⊕ Aw)).bind (fun y=>match y with
     |.inl (x1,x2,x3,x4,x5,x6)=>some (Aw.mk (Aa.mk x1 x2 x3 x4 x.X.At) x5 x6)
     |.inr o=>some o)) g->Ev (fun n=>(AI n L lv x d a b c e to 0).bind (fun y=>match y with
     |.inl (x1,x2,x3,x4,x5,x6)=>some (Aw.mk (Aa.mk x1 x2 x3 x4 x.X.At) x5 x6)
     |.inr o=>some o)) g:=by
     rintro g ⟨N,hg⟩
     obtain⟨M,hM⟩:=hg1
     refine start g ⟨max N M,fun n hn=>?_⟩
     have h1:=hg n (by omega)
     have h2:=hM n (by omega)
     simp only at h1 h2 ⊢
     rw [hb,CI hL ht]
     simp only [Ä,h2,Á]
     exact h1
    by_cases he:g1.E=0
    . have hb2:(g1.E != 0)=false:=by simpa using he
      rw [hb2] at e1
      simp only [Ä,Á] at e1
      by_cases h4:lv=4
      . have hb4:(lv == 4)=true:=by simpa using h4
        rw [hb4] at e1
        refine⟨⟨⟨(IK t).Op,0,⟨#[]⟩,[Aa.mk a b c e x.X.At,g1.X],x.X.At⟩,g1.To,0⟩,e1 _ ?_,⟨t2,ht2⟩,fun _=>?_⟩
        . simp only [É,Á];exact Ev.pure
        . have:=hlt he;show k0<g1.To;omega
      . have hb4:(lv == 4)=false:=by simpa using h4
        rw [hb4] at e1
        have:=hlt he
        obtain⟨g2,hg2,hr2⟩:=UE hlv k0 hE r (IK t).Op 0 ⟨#[]⟩ [Aa.mk a b c e x.X.At,g1.X] g1.To t2 ht2 (by omega) (by omega)
        exact⟨g2,e1 g2 (by simp only [Ä];exact hg2),hr2⟩
    . have hb2:(g1.E != 0)=true:=by simpa using he
      rw [hb2] at e1
      exact FU.fail (e1 g1 (by simp only [É,Á];exact Ev.pure)) ht2 he
  . have hb:((IK t).N != lv)=true:=by simpa using hN
    rw [hb] at start
    exact⟨_,start _ (by simp only [É,Á];exact Ev.pure),⟨t,ht⟩,fun _=>h0⟩
omit hL in
theorem FU.step {k:Int}{F G:Nat->Option Aw}(e:∀ n,F (n+1)=G n):FU L k G->FU L k F
 |⟨g,h,r⟩=>⟨g,Ev.step e h,r⟩
omit hL in
theorem FU.pan {k:Int}{g:Aw}{t:Ab}(ht:gi L g.To=some t)(he:g.E≠0):FU L k (fun _=>some g):=FU.fail Ev.pure ht he
omit hL in
theorem FU.ok {k:Int}{g:Aw}{t:Ab}(ht:gi L g.To=some t)(hk:k<g.To):FU L k (fun _=>some g):=⟨g,Ev.pure,⟨t,ht⟩,fun _=>hk⟩
omit hL in
theorem FU.id {k:Int}{F:Nat->Option Aw}(h:FU L k F):FU L k (fun n=>(F n).bind fun x=>some x):=by
 obtain⟨g,h,r⟩:=h
 exact⟨g,Ev.bind h Ev.pure,r⟩
omit hL in
theorem FU.got {k k':Int}{F:Nat->Option Aw}{K:Nat->Aw->Option Aw}(h:FU L k' F)
 (hK:∀ g t,gi L g.To=some t->g.E=0->k'<g.To->FU L k (fun n=>K n g)):FU L k (fun n=>(F n).bind fun g=>bif (g.E != 0) then some g else K n g):=by
 obtain⟨g,h,⟨t,ht⟩,hk⟩:=h
 by_cases he:g.E=0
 . obtain⟨g2,h2,r⟩:=hK g t ht he (hk he)
   refine⟨g2,Ev.bind h ?_,r⟩
   refine h2.congr fun n=>?_
   rw [show (g.E != 0)=false by simpa using he];rfl
 . refine⟨g,Ev.bind h ?_,⟨t,ht⟩,fun e=>absurd e he⟩
   refine Ev.of fun n=>?_
   rw [show (g.E != 0)=true by simpa using he];rfl
theorem nxT {k:Int}{t:Ab}(ht:gi L k=some t)(h5:t.Kind≠5):∃ t',gi L (k+1)=some t':=hL.next _ _ ht h5
theorem XU {k:Int}{t:Ab}{s:Â}(ht:gi L k=some t)(h5:isS t s=true):∃ t',gi L (k+1)=some t':=hL.next _ _ ht (by rw [EG h5];decide)
theorem Ai8 {k:Int}{t:Ab}(ht:gi L k=some t)(hA:∀ d,FU L k (fun n=>BB n L k d))(hE:∀ k' t',gi L k'=some t'->k<k'->Oi L k')(d:Int):FU L k (fun n=>B9 n L k d):=by
 refine FU.step (fun n=>B9.eq_2 (n:=n) _ _ _) ?_
 simp only [A6 ht,Á,CI hL ht]
 by_cases c:isS t ⟨#[45]⟩=true
 . obtain⟨t1,ht1⟩:=XU hL ht c
   have c':(t.Kind == 4&&decide (t.S=⟨#[45]⟩))=true:=c
   simp only [c',à,Ä,CY ht1,Á]
   by_cases c2:fst t1 (À (d+1)) false=0
   . simp only [show (fst t1 (À (d+1)) false != 0)=false by simpa using c2,Ä]
     refine FU.got ((hE _ _ ht1 (by omega)).M _) fun g t2 ht2 _ hk=>?_
     simp only [ht,Á]
     exact FU.ok ht2 (by show k<g.To;omega)
   . simp only [show (fst t1 (À (d+1)) false != 0)=true by simpa using c2,É]
     exact FU.pan ht1 c2
 . have c':(t.Kind == 4&&decide (t.S=⟨#[45]⟩))=false:=by simpa [isS] using c
   simp only [c',é,É]
   exact (hA d).id
theorem Ai9 {k:Int}{t:Ab}(ht:gi L k=some t)(hB:∀ d,FU L k (fun n=>Ax n L k 4 d))(hE:∀ k' t',gi L k'=some t'->k<k'->Oi L k')(d:Int):FU L k (fun n=>Ca n L k d):=by
 refine FU.step (fun n=>Ca.eq_2 (n:=n) _ _ _) ?_
 simp only [A6 ht,Á,CI hL ht]
 by_cases c:isS t ⟨#[33]⟩=true
 . obtain⟨t1,ht1⟩:=XU hL ht c
   have c':(t.Kind == 4&&decide (t.S=⟨#[33]⟩))=true:=c
   simp only [c',à,Ä,CY ht1,Á]
   by_cases c2:fst t1 (À (d+1)) true=0
   . simp only [show (fst t1 (À (d+1)) true != 0)=false by simpa using c2,Ä]
     refine FU.got ((hE _ _ ht1 (by omega)).G _) fun g t2 ht2 _ hk=>?_
     simp only [ht,Á]
     exact FU.ok ht2 (by show k<g.To;omega)
   . simp only [show (fst t1 (À (d+1)) true != 0)=true by simpa using c2,É]
     exact FU.pan ht1 c2
 . have c':(t.Kind == 4&&decide (t.S=⟨#[33]⟩))=false:=by simpa [isS] using c
   simp only [c',é,É]
   exact (hB d).id
theorem ZG {k lv:Int}(hlv:1<=lv/\lv<=6/\lv≠3)(hB:∀ d,FU L k (fun n=>Ax n L k (lv+1) d))(hE:∀ k' t',gi L k'=some t'->k<k'->Oi L k')(d:Int):FU L k (fun n=>Ax n L k lv d):=by
 have wlT:À (lv+1)=lv+1:=by rw [A2]<;>omega
 refine FU.step (fun n=>Ax.eq_2 (n:=n) _ _ _ _) ?_
 simp only [show decide (6<lv)=false by simpa using hlv.2.1,show (lv == 3)=false by simpa using hlv.2.2,Ä,wlT]
 obtain⟨x,hx,⟨t1,ht1⟩,hk⟩:=hB d
 by_cases he:x.E=0
 . obtain⟨g,hg,r⟩:=UE hL (d:=d) (x:=x) hlv k hE (L.length-x.To.toNat) x.X.Op x.X.N x.X.S x.X.Kids x.To t1 ht1 (hk he) (by have:=As ht1;omega)
   rw [<- he] at hg
   exact⟨g,Ev.bind hx hg,r⟩
 . refine⟨⟨⟨x.X.Op,x.X.N,x.X.S,x.X.Kids,x.X.At⟩,x.To,x.E⟩,Ev.bind hx ?_,⟨t1,ht1⟩,fun e=>absurd e he⟩
   refine Ev.step (fun n=>rfl) (f:=fun n=>_) ?_
   simp only [AI.eq_2,show (x.E == 0)=false by simpa using he,Ä,Á]
   exact Ev.pure
theorem Aja {k:Int}{t:Ab}(ht:gi L k=some t)(hB:∀ d,FU L k (fun n=>Ax n L k 1 d))(hE:∀ k' t',gi L k'=some t'->k<k'->Oi L k')(d:Int):FU L k (fun n=>Bl n L k d):=by
 refine FU.step (fun n=>Bl.eq_2 (n:=n) _ _ _) ?_
 simp only [CY ht,Á]
 by_cases c2:fst t d true=0
 . simp only [show (fst t d true != 0)=false by simpa using c2,Ä]
   refine FU.got (hB d) fun c t1 ht1 he hk=>?_
   simp only [A6 ht1,Á,CI hL ht1]
   by_cases c3:isS t1 ⟨#[63]⟩=true
   . have c':(t1.Kind == 4&&decide (t1.S=⟨#[63]⟩))=true:=c3
     simp only [c',à,Ä]
     obtain⟨t2,ht2⟩:=XU hL ht1 c3
     refine FU.got ((hE _ _ ht2 (by omega)).E _) fun a t3 ht3 _ hk2=>?_
     simp only [A6 ht3,Á,CI hL ht3]
     by_cases c4:isS t3 ⟨#[58]⟩=true
     . have c':(t3.Kind == 4&&decide (t3.S=⟨#[58]⟩))=true:=c4
       simp only [c',à,Ä]
       obtain⟨t4,ht4⟩:=XU hL ht3 c4
       refine FU.got ((hE _ _ ht4 (by omega)).E _) fun b t5 ht5 _ hk3=>?_
       exact FU.ok ht5 (by show k<b.To;omega)
     . have c':(t3.Kind == 4&&decide (t3.S=⟨#[58]⟩))=false:=by simpa [isS] using c4
       simp only [c',é,É]
       exact FU.pan ht3 (show (5:Int)≠0 by decide)
   . grind [isS,Bool.not_false,FU.ok]
 . simp only [show (fst t d true != 0)=true by simpa using c2,É]
   exact FU.pan ht c2
omit hL in
theorem IP {α:Type}{b:Nat}{x:List α}{y:α}{m:Int}(h:(x.length:Int)<=m)(hm:m<=1000000)(hb:b<=1000):B4 b x [y]=some (x++[y]):=by
 unfold B4
 rw [Ê]
 have:(x.length+1)*b<=1000001*1000:=Nat.mul_le_mul (by omega) hb
 show (x.length+1)*b<=_
 omega
theorem XC {k0 d:Int}{x:Ab}(hE:∀ k' t',gi L k'=some t'->k0<k'->Oi L k'):∀ (r:Nat) (k:Int) (out:List Aa) (t:Ab),gi L k=some t->k0<k->(out.length:Int)<=k->(L.length:Int)-k<=r->FU L k0 (fun n=>BU n L d x k out)
 |0,k,out,t,ht,h0,ho,hr=>by have:=(As ht).2;omega
 |r+1,k,out,t,ht,h0,ho,hr=>by
  have hk:=(As ht).2
  have hl:=hL.len
  refine FU.step (fun n=>BU.eq_2 (n:=n) _ _ _ _ _) ?_
  simp only [CY ht,Á]
  obtain⟨v,hv⟩:∃ v:Bool,(bif (fst t (À (d+1)) true == 0) then bif ((out.length:Int) == 40) then some true else some (fst t (À (d+1)) true == 2) else some (fst t (À (d+1)) true == 2))=some v:=by
   cases (fst t (À (d+1)) true == 0)<;>cases ((out.length:Int) == 40)<;>exact⟨_,rfl⟩
  simp only [hv,Á]
  cases v with
  |true =>
   simp only [É]
   exact FU.pan ht (show (2:Int)≠0 by decide)
  |false =>
   simp only [Ä]
   refine FU.got ((hE _ _ ht h0).E _) fun g t1 ht1 _ hg=>?_
   have hk1:=(As ht1).2
   simp only [A6 ht1,IP (b:=65) (y:=g.X) ho (by omega) (by decide),Á,CI hL ht1]
   by_cases c:isS t1 ⟨#[41]⟩=true
   . have c':(t1.Kind == 4&&decide (t1.S=⟨#[41]⟩))=true:=c
     obtain⟨t2,ht2⟩:=XU hL ht1 c
     simp only [c',É]
     exact FU.ok ht2 (by show k0<g.To+1;omega)
   . have c':(t1.Kind == 4&&decide (t1.S=⟨#[41]⟩))=false:=by simpa [isS] using c
     simp only [c',Ä]
     by_cases c2:isS t1 ⟨#[44]⟩=true
     . have c2':(t1.Kind == 4&&decide (t1.S=⟨#[44]⟩))=true:=c2
       obtain⟨t2,ht2⟩:=XU hL ht1 c2
       simp only [c2',à,Ä]
       exact XC hE r (g.To+1) _ t2 ht2 (by omega) (by simp;omega) (by omega)
     . have c2':(t1.Kind == 4&&decide (t1.S=⟨#[44]⟩))=false:=by simpa [isS] using c2
       simp only [c2',é,É]
       exact FU.pan ht1 (show (5:Int)≠0 by decide)
theorem Ajb {k:Int}{t:Ab}(ht:gi L k=some t)(hE:∀ k' t',gi L k'=some t'->k<k'->Oi L k')(d:Int):FU L k (fun n=>BB n L k d):=by
 have hk:=(As ht).2
 have hl:=hL.len
 refine FU.step (fun n=>BB.eq_2 (n:=n) _ _ _) ?_
 simp only [ht,A6 ht,Á,CI hL ht]
 by_cases c:isS t ⟨#[40]⟩=true
 . have c':(t.Kind == 4&&decide (t.S=⟨#[40]⟩))=true:=c
   obtain⟨t1,ht1⟩:=XU hL ht c
   simp only [c',É]
   refine FU.got ((hE _ _ ht1 (by omega)).E _) fun g t2 ht2 _ hg=>?_
   simp only [A6 ht2,Á,CI hL ht2]
   by_cases c2:isS t2 ⟨#[41]⟩=true
   . have c2':(t2.Kind == 4&&decide (t2.S=⟨#[41]⟩))=true:=c2
     obtain⟨t3,ht3⟩:=XU hL ht2 c2
     simp only [c2',à,Ä]
     exact FU.ok ht3 (by show k<g.To+1;omega)
   . have c2':(t2.Kind == 4&&decide (t2.S=⟨#[41]⟩))=false:=by simpa [isS] using c2
     simp only [c2',é,É]
     exact FU.pan ht2 (show (5:Int)≠0 by decide)
 . have c':(t.Kind == 4&&decide (t.S=⟨#[40]⟩))=false:=by simpa [isS] using c
   simp only [c',Ä]
   by_cases c2:t.Kind=2
   . obtain⟨t1,ht1⟩:=nxT hL ht (by omega)
     simp only [show (t.Kind == 2)=true by simpa using c2,É]
     exact FU.ok ht1 (by show k<k+1;omega)
   . simp only [show (t.Kind == 2)=false by simpa using c2,Ä]
     by_cases c3:t.Kind=3
     . obtain⟨t1,ht1⟩:=nxT hL ht (by omega)
       simp only [show (t.Kind == 3)=true by simpa using c3,É]
       exact FU.ok ht1 (by show k<k+1;omega)
     . simp only [show (t.Kind == 3)=false by simpa using c3,Ä]
       by_cases c4:t.Kind=1
       . obtain⟨t1,ht1⟩:=nxT hL ht (by omega)
         have hk1:=(As ht1).2
         simp only [show (t.Kind != 1)=false by simpa using c4,Ä,A6 ht1,Á]
         by_cases c5:isS t1 ⟨#[40]⟩=true
         . have c5':(t1.Kind == 4&&decide (t1.S=⟨#[40]⟩))=true:=c5
           obtain⟨t2,ht2⟩:=XU hL ht1 c5
           simp only [c5',à,Ä]
           refine FU.id ?_
           refine FU.step (fun n=>Dy.eq_2 (n:=n) _ _ _) ?_
           have e2:k+1+1=k+2:=by omega
           rw [e2] at ht2
           have w2:À (k+2)=k+2:=by rw [A2]<;>omega
           simp only [ht,Á,w2,A6 ht2,CI hL ht2]
           by_cases c6:isS t2 ⟨#[41]⟩=true
           . have c6':(t2.Kind == 4&&decide (t2.S=⟨#[41]⟩))=true:=c6
             obtain⟨t3,ht3⟩:=XU hL ht2 c6
             simp only [c6',É]
             exact FU.ok ht3 (by show k<k+2+1;omega)
           . have c6':(t2.Kind == 4&&decide (t2.S=⟨#[41]⟩))=false:=by simpa [isS] using c6
             simp only [c6',Ä]
             exact XC hL hE (L.length) (k+2) [] t2 ht2 (by omega) (by simp;omega) (by omega)
         . have c5':(t1.Kind == 4&&decide (t1.S=⟨#[40]⟩))=false:=by simpa [isS] using c5
           simp only [c5',é,É]
           exact FU.ok ht1 (by show k<k+1;omega)
       . simp only [show (t.Kind != 1)=true by simpa using c4,É]
         exact FU.pan ht (show (5:Int)≠0 by decide)
theorem Afc:∀ (r:Nat) (k:Int) (t:Ab),gi L k=some t->(L.length:Int)-k<=r->Oi L k
 |0,k,t,ht,hr=>by have:=(As ht).2;omega
 |r+1,k,t,ht,hr=>by
  have hE:∀ k' t',gi L k'=some t'->k<k'->Oi L k':=fun k' t' ht' hk'=>Afc r k' t' ht' (by omega)
  have hA:=Ajb hL ht hE
  have hM:=Ai8 hL ht hA hE
  have h7:∀ d,FU L k (fun n=>Ax n L k 7 d):=fun d=>FU.step (fun n=>Ax.eq_2 (n:=n) _ _ _ _) (hM d).id
  have h6:=ZG hL (lv:=6) (by decide) h7 hE
  have h5:=ZG hL (lv:=5) (by decide) h6 hE
  have h4:=ZG hL (lv:=4) (by decide) h5 hE
  have hG:=Ai9 hL ht h4 hE
  have h3:∀ d,FU L k (fun n=>Ax n L k 3 d):=fun d=>FU.step (fun n=>Ax.eq_2 (n:=n) _ _ _ _) (hG d).id
  have h2:=ZG hL (lv:=2) (by decide) h3 hE
  have h1:=ZG hL (lv:=1) (by decide) h2 hE
  refine⟨Aja hL ht h1 hE,fun lv d hl1 hl7=>?_,hG,hM⟩
  have:lv=1∨lv=2∨lv=3∨lv=4∨lv=5∨lv=6∨lv=7:=by omega
  rcases this with rfl|rfl|rfl|rfl|rfl|rfl|rfl
  . exact h1 d
  . exact h2 d
  . exact h3 d
  . exact h4 d
  . exact h5 d
  . exact h6 d
  . exact h7 d
theorem Ai7 {k:Int}{t:Ab}(ht:gi L k=some t)(d:Int):FU L k (fun n=>Bl n L k d):=(Afc hL L.length k t ht (by have:=(As ht).2;omega)).E d
end
end Go.Sp
namespace Go.Sp
open Go
section
variable {L:List Ab} (hL:MA L) (f:Int)
include hL
theorem Ai2 {k:Int}{t:Ab}(ht:gi L k=some t)(d:Int):∃ g y,Ev (fun n=>Bl n L k d) g/\Ev (fun n=>Av n (at_ L k f) d) y/\PD L f g y/\(g.E=0->k<g.To):=by
 obtain⟨g,hg,_,hk⟩:=Ai7 hL ht d
 obtain⟨n,hn⟩:=hg.get
 obtain⟨y,hy,hc⟩:=Ajc hL f hn
 exact⟨g,y,hg,hy,hc,hk⟩
def Ahq (L:List Ab)(k f:Int)(g:Cj)(y:Ex Ap Ae Ao):Prop :=
 ∃ t,gi L g.To=some t/\((g.E=0/\k<g.To/\y=.ok g.A (at_ L g.To f))∨(g.E≠0/\y=.pan ⟨t.At,g.E⟩ (at_ L g.To f)))
theorem Aez {k:Int}{t:Ab}(ht:gi L k=some t)(hb:DI t=true∨isS t ⟨#[45,62]⟩=true) :
 ∃ g y,Ev (fun n=>CQ n L k) g/\Ev (fun n=>BV n (at_ L k f)) y/\Ahq L k f g y:=by
 have hk:=(As ht).2
 have hl:=hL.len
 rw [Dm ht]
 by_cases h3:1<=t.Kind/\t.Kind<=3
 . obtain⟨t1,ht1⟩:=nxT hL ht (by omega)
   refine⟨⟨⟨t.Kind,t.N,t.S,⟨0,0,⟨#[]⟩,[],0⟩,t.At⟩,k+1,0⟩,.ok ⟨t.Kind,t.N,t.S,⟨0,0,⟨#[]⟩,[],0⟩,t.At⟩ (at_ L (k+1) f),?_,?_,t1,ht1,.inl ⟨rfl,by show k<k+1;omega,rfl⟩⟩
   . refine Ev.of fun n=>?_
     unfold CQ
     simp only [ht,Á,CI hL ht,show decide (1<=t.Kind)=true by simpa using h3.1,show decide (t.Kind<=3)=true by simpa using h3.2,É]
   . refine Ev.of fun n=>?_
     unfold BV
     simp only [E7,Á]
     have:t.Kind=1∨t.Kind=2∨t.Kind=3:=by omega
     rcases this with e|e|e<;>rw [e]<;>rfl
 . have h4:t.Kind=4:=by
    rcases hb with hb|hb
    . grind [CQ,BV,DI,isS,BX]
    . exact EG hb
   have hs:t.S=⟨#[40]⟩∨t.S=⟨#[45]⟩∨t.S=⟨#[45,62]⟩:=by
    grind [CQ,BV,DI,isS,BX]
   obtain⟨t1,ht1⟩:=nxT hL ht (by omega)
   have hk1:=(As ht1).2
   have pre:∀ n,CQ n L k=(bif decide (t.S=⟨#[45,62]⟩) then
    some (Cj.mk (Ao.mk 4 0 ⟨#[]⟩ (Aa.mk 0 0 ⟨#[]⟩ [] 0) t.At) (k+1) 0)
    else bif decide (t.S=⟨#[45]⟩) then
     (gi L (k+1)).bind fun x1 =>
     bif (x1.Kind != 2) then
      some (Cj.mk (Ao.mk 0 0 ⟨#[]⟩ (Aa.mk 0 0 ⟨#[]⟩ [] 0) 0) (k+1) 5)
     else
      some (Cj.mk (Ao.mk 2 (À (0-x1.N)) ⟨#[]⟩ (Aa.mk 0 0 ⟨#[]⟩ [] 0) t.At) (À (k+2)) 0)
     else
      (Bl n L (k+1) 1).bind fun x2 =>
      bif (x2.E != 0) then
       some (Cj.mk (Ao.mk 0 0 ⟨#[]⟩ (Aa.mk 0 0 ⟨#[]⟩ [] 0) 0) x2.To x2.E)
      else
       (Au L x2.To ⟨#[41]⟩).bind fun shut =>
       bif (!shut) then
        some (Cj.mk (Ao.mk 0 0 ⟨#[]⟩ (Aa.mk 0 0 ⟨#[]⟩ [] 0) 0) x2.To 5)
       else
        some (Cj.mk (Ao.mk 5 0 ⟨#[]⟩ x2.X t.At) (À (x2.To+1)) 0)):=by
    intro n
    unfold CQ
    simp only [ht,A6 ht,Á,CI hL ht,h4,show decide ((1:Int)<=4)=true from rfl,show decide ((4:Int)<=3)=false from rfl,É,Ä,è,ė]
   have hN:t.N=0:=hL.other t (Sz ht) (by omega)
   have pro:∀ n,BV n ⟨t::L.drop (k+1).toNat,f⟩=(bif decide (t.S=⟨#[45]⟩) then
    (BX (at_ L (k+1) f)).bind fun y=>match y with
    |.ok n_ p1 =>
     some (.ok (Ao.mk 2 (À (0-n_)) ⟨#[]⟩ (Aa.mk 0 0 ⟨#[]⟩ [] 0) t.At) p1)
    |.pan e p2=>some (.pan e p2)
    else
     bif decide (t.S=⟨#[45,62]⟩) then
      some (.ok (Ao.mk 4 0 ⟨#[]⟩ (Aa.mk 0 0 ⟨#[]⟩ [] 0) t.At) (at_ L (k+1) f))
     else
      bif decide (t.S=⟨#[40]⟩) then
       (Av n (at_ L (k+1) f) 1).bind fun y1=>match y1 with
       |.ok e1 p3 =>
        (Bj p3 ⟨#[41]⟩).bind fun y2=>match y2 with
        |.ok n_1 p5 =>
         some (.ok (Ao.mk 5 0 ⟨#[]⟩ e1 t.At) p5)
        |.pan e3 p6=>some (.pan e3 p6)
       |.pan e2 p4=>some (.pan e2 p4)
      else
       some (.ok (Ao.mk 0 0 ⟨#[]⟩ (Aa.mk 0 0 ⟨#[]⟩ [] 0) t.At) (at_ L (k+1) f))):=by
    intro n
    unfold BV
    simp only [E7,Á,h4,hN,show ((4:Int) == 1)=false from rfl,show ((4:Int) == 2)=false from rfl,show ((4:Int) == 3)=false from rfl,Ä]
    rfl
   rcases hs with hs|hs|hs
   . -- an expression
     rw [hs] at pre pro
     simp only [show decide ((⟨#[40]⟩:Â)=⟨#[45]⟩)=false by decide,show decide ((⟨#[40]⟩:Â)=⟨#[45,62]⟩)=false by decide,ø,É,Ä] at pre pro
     obtain⟨g,y,hg,hy,hc,hgk⟩:=Ai2 hL f ht1 1
     by_cases he:g.E=0
     . obtain⟨t2,ht2,rfl⟩:=hc.ok he
       have hb0:(g.E != 0)=false:=by simpa using he
       have:=hgk he
       by_cases c:isS t2 ⟨#[41]⟩=true
       . have c':(t2.Kind == 4&&decide (t2.S=⟨#[41]⟩))=true:=c
         obtain⟨t3,ht3⟩:=XU hL ht2 c
         refine⟨⟨⟨5,0,⟨#[]⟩,g.X,t.At⟩,g.To+1,0⟩,.ok ⟨5,0,⟨#[]⟩,g.X,t.At⟩ (at_ L (g.To+1) f),(Ev.bind hg (Ev.of fun n=>?_)).congr pre,(Ev.bind hy (Ev.of fun n=>?_)).congr pro,t3,ht3,.inl ⟨rfl,by show k<g.To+1;omega,rfl⟩⟩
         . simp only [hb0,A6 ht2,c',Ä,Á,à,CI hL ht2]
         . simp only [Dm ht2,Nd,c,ë,Á]
       . have c':(t2.Kind == 4&&decide (t2.S=⟨#[41]⟩))=false:=by simpa [isS] using c
         refine⟨⟨⟨0,0,⟨#[]⟩,⟨0,0,⟨#[]⟩,[],0⟩,0⟩,g.To,5⟩,.pan ⟨t2.At,5⟩ (at_ L g.To f),(Ev.bind hg (Ev.of fun n=>?_)).congr pre,(Ev.bind hy (Ev.of fun n=>?_)).congr pro,t2,ht2,.inr ⟨show (5:Int)≠0 by decide,rfl⟩⟩
         . simp only [hb0,A6 ht2,c',Ä,É,Á,é]
         . simp only [Dm ht2,Nd,c,í,Á,ß]
     . obtain⟨t2,ht2,rfl⟩:=hc.pan he
       have hb1:(g.E != 0)=true:=by simpa using he
       refine⟨⟨⟨0,0,⟨#[]⟩,⟨0,0,⟨#[]⟩,[],0⟩,0⟩,g.To,g.E⟩,.pan ⟨t2.At,g.E⟩ (at_ L g.To f),(Ev.bind hg (Ev.of fun n=>?_)).congr pre,(Ev.bind hy (Ev.of fun n=>?_)).congr pro,t2,ht2,.inr ⟨he,rfl⟩⟩
       . simp only [hb1,É]
       . rfl
   . -- a negative number
     rw [hs] at pre pro
     simp only [ø,show decide ((⟨#[45]⟩:Â)=⟨#[45,62]⟩)=false by decide,É,Ä,ht1,Á] at pre pro
     have e2:k+1+1=k+2:=by omega
     have w2:À (k+2)=k+2:=by rw [A2]<;>omega
     by_cases c:t1.Kind=2
     . have hc:(t1.Kind != 2)=false:=by simpa using c
       obtain⟨t2,ht2⟩:=nxT hL ht1 (by omega)
       rw [e2] at ht2
       refine⟨⟨⟨2,À (0-t1.N),⟨#[]⟩,⟨0,0,⟨#[]⟩,[],0⟩,t.At⟩,k+2,0⟩,.ok ⟨2,À (0-t1.N),⟨#[]⟩,⟨0,0,⟨#[]⟩,[],0⟩,t.At⟩ (at_ L (k+2) f),Ev.of fun n=>?_,Ev.of fun n=>?_,t2,ht2,.inl ⟨rfl,by show k<k+2;omega,rfl⟩⟩
       . simp only [pre,hc,Ä,w2]
       . simp only [pro]
         rw [Dm ht1]
         unfold BX
         simp only [Jp,E7,Á,hc,Ä,e2]
     . have hc:(t1.Kind != 2)=true:=by simpa using c
       refine⟨⟨⟨0,0,⟨#[]⟩,⟨0,0,⟨#[]⟩,[],0⟩,0⟩,k+1,5⟩,.pan ⟨t1.At,5⟩ (at_ L (k+1) f),Ev.of fun n=>?_,Ev.of fun n=>?_,t1,ht1,.inr ⟨show (5:Int)≠0 by decide,rfl⟩⟩
       . simp only [pre,hc,É]
       . simp only [pro]
         rw [Dm ht1]
         unfold BX
         simp only [Jp,HE,Á,hc,É]
   . -- an arrow
     rw [hs] at pre pro
     simp only [show decide ((⟨#[45,62]⟩:Â)=⟨#[45]⟩)=false by decide,ø,É,Ä] at pre pro
     exact⟨_,_,Ev.of pre,Ev.of pro,t1,ht1,.inl ⟨rfl,by show k<k+1;omega,rfl⟩⟩
def Uy (L:List Ab)(k f n:Int)(x:Ab)(u:(List Ao×Int) ⊕ Cb)(w:(List Ab×Int×List Ao) ⊕ Ex Ap Ae Ai):Prop :=
 (∃ out k' t',gi L k'=some t'/\k<=k'/\isS t' ⟨#[59]⟩=true/\u=.inr ⟨⟨x.S,out,[],x.At⟩,k'+1,n+1,0⟩/\w=.inl (L.drop k'.toNat,f,out)) ∨
 (∃ out k' t',gi L k'=some t'/\k<=k'/\isS t' ⟨#[59]⟩=false/\isS t' ⟨#[123]⟩=true/\u=.inl (out,k')/\w=.inl (L.drop k'.toNat,f,out)) ∨
 (∃ g t',gi L g.To=some t'/\g.E≠0/\u=.inr g/\w=.inr (.pan ⟨t'.At,g.E⟩ (at_ L g.To f)))
omit hL in
theorem Uy.le {k k' n:Int}{x:Ab}{u w}(h:Uy L k' f n x u w)(hk:k<=k'):Uy L k f n x u w:=by
 rcases h with⟨o,k2,t,h1,h2,h3⟩|⟨o,k2,t,h1,h2,h3⟩|h
 . exact .inl ⟨o,k2,t,h1,by omega,h3⟩
 . exact .inr (.inl ⟨o,k2,t,h1,by omega,h3⟩)
 . exact .inr (.inr h)
theorem Ack {n:Int}(hn:0<=n/\n<2000){x:Ab}:∀ (r:Nat) (k:Int) (out:List Ao) (t:Ab),gi L k=some t->(out.length:Int)<=k->(L.length:Int)-k<=r ->
 ∃ u w,Ev (fun m=>AZ m L x n out k) u/\Ev (fun m=>AU m (L.drop k.toNat) f out) w/\Uy L k f n x u w
 |0,k,out,t,ht,ho,hr=>by have:=(As ht).2;omega
 |r+1,k,out,t,ht,ho,hr=>by
  have hk:=(As ht).2
  have hl:=hL.len
  have hp:L.drop k.toNat=t::L.drop (k+1).toNat:=(As ht).1
  have wn:À (n+1)=n+1:=by rw [A2]<;>omega
  by_cases c1:isS t ⟨#[59]⟩=true
  . have c1':(t.Kind == 4&&decide (t.S=⟨#[59]⟩))=true:=c1
    refine⟨_,.inl (L.drop k.toNat,f,out),Ev.step (fun m=>AZ.eq_2 (n:=m) _ _ _ _ _) (Ev.of fun m=>?_),Ev.step (fun m=>AU.eq_2 (n:=m) _ _ _) (Ev.of fun m=>?_),.inl ⟨out,k,t,ht,Ġ _,c1,rfl,rfl⟩⟩
    . simp only [A6 ht,c1',Á,É,CI hL ht,wn]
    . rw [hp]
      simp only [M8,c1,Á,à,Ä]
  . have c1:isS t ⟨#[59]⟩=false:=by simpa using c1
    have c1':(t.Kind == 4&&decide (t.S=⟨#[59]⟩))=false:=c1
    by_cases c2:isS t ⟨#[123]⟩=true
    . have c2':(t.Kind == 4&&decide (t.S=⟨#[123]⟩))=true:=c2
      refine⟨_,.inl (L.drop k.toNat,f,out),Ev.step (fun m=>AZ.eq_2 (n:=m) _ _ _ _ _) (Ev.of fun m=>?_),Ev.step (fun m=>AU.eq_2 (n:=m) _ _ _) (Ev.of fun m=>?_),.inr (.inl ⟨out,k,t,ht,Ġ _,c1,c2,rfl,rfl⟩)⟩
      . simp only [A6 ht,c1',c2',Á,É,Ä]
      . rw [hp]
        simp only [M8,c1,c2,Á,à,é,Ä,É]
    . have c2:isS t ⟨#[123]⟩=false:=by simpa using c2
      have c2':(t.Kind == 4&&decide (t.S=⟨#[123]⟩))=false:=c2
      by_cases c3:DI t=true∨isS t ⟨#[45,62]⟩=true
      . have pb:((bif !(DI t) then some (!(isS t ⟨#[45,62]⟩)) else some false):Option Bool)=some false:=by
         rcases c3 with c|c
         . rw [c];rfl
         . rw [c];cases DI t<;>rfl
        have rb:(bif (!(DI t)) then some (!(t.Kind == 4&&decide (t.S=⟨#[45,62]⟩))) else some false)=some false:=pb
        by_cases c4:(out.length:Int)=40
        . have c4':((out.length:Int) == 40)=true:=by simpa using c4
          refine⟨.inr ⟨⟨⟨#[]⟩,[],[],0⟩,k,0,2⟩,.inr (.pan ⟨t.At,2⟩ (at_ L k f)),Ev.step (fun m=>AZ.eq_2 (n:=m) _ _ _ _ _) (Ev.of fun m=>?_),Ev.step (fun m=>AU.eq_2 (n:=m) _ _ _) (Ev.of fun m=>?_),.inr (.inr ⟨_,t,ht,show (2:Int)≠0 by decide,rfl,rfl⟩)⟩
          . grind [A6,IH]
          . rw [hp,Dm ht]
            simp only [M8,I0,c1,c2,Á,é,É]
            show ((bif !(DI t) then some (!(isS t ⟨#[45,62]⟩)) else some false):Option Bool).bind _=_
            rw [pb]
            simp only [Á,Ä,c4',É,HE]
        . have c4':((out.length:Int) == 40)=false:=by simpa using c4
          obtain⟨g,y,hg,hy,t2,ht2,hc⟩:=Aez hL f ht c3
          have r1:∀ u,Ev (fun m=>(bif (g.E != 0) then
           some (.inr (Cb.mk (Ai.mk ⟨#[]⟩ [] [] 0) g.To 0 g.E))
           else
            AZ m L x n (out++[g.A]) g.To)) u->Ev (fun m=>AZ m L x n out k) u:=by
           intro u hu
           refine Ev.step (fun m=>AZ.eq_2 (n:=m) _ _ _ _ _) ?_
           simp only [A6 ht,IH ht,c1',c2',rb,c4',Á,Ä]
           refine Ev.bind hg ?_
           refine hu.congr fun m=>?_
           rw [IP ho (by omega) (by decide)]
           rfl
          have p1:∀ w,Ev (fun m=>(match y with
           |.ok a_1 p21=>AU m p21.l p21.forms (out++[a_1])
           |.pan e11 p22=>some (.inr (.pan e11 p22)):Option ((List Ab×Int×List Ao) ⊕ Ex Ap Ae Ai))) w->Ev (fun m=>AU m (L.drop k.toNat) f out) w:=by
           intro w hw
           refine Ev.step (fun m=>AU.eq_2 (n:=m) _ _ _) ?_
           rw [Dm ht] at hy
           rw [hp]
           simp only [M8,I0,c1,c2,Á,é,É]
           show Ev (fun m=>((bif !(DI t) then some (!(isS t ⟨#[45,62]⟩)) else some false):Option Bool).bind _) w
           rw [pb]
           simp only [Á,Ä,c4']
           refine Ev.bind hy ?_
           refine hw.congr fun m=>?_
           cases y with
           |ok a p=>simp only [IP ho (show k<=1000000 by omega) (show 105<=1000 by decide),Á]
           |pan e p=>rfl
          rcases hc with⟨he,hgt,rfl⟩|⟨he,rfl⟩
          . rw [show (g.E != 0)=false by simpa using he] at r1
            have hk2:=(As ht2).2
            obtain⟨u,w,hu,hw,hc⟩:=Ack hn r g.To (out++[g.A]) t2 ht2 (by simp;omega) (by omega)
            exact⟨u,w,r1 u hu,p1 w hw,hc.le f (by omega)⟩
          . rw [show (g.E != 0)=true by simpa using he] at r1
            exact⟨_,_,r1 _ Ev.pure,p1 _ Ev.pure,.inr (.inr ⟨_,t2,ht2,he,rfl,rfl⟩)⟩
      . have c3a:DI t=false:=by cases h:DI t<;>simp_all
        have c3b:isS t ⟨#[45,62]⟩=false:=by cases h:isS t ⟨#[45,62]⟩<;>simp_all
        have c3b':(t.Kind == 4&&decide (t.S=⟨#[45,62]⟩))=false:=c3b
        refine⟨.inr ⟨⟨⟨#[]⟩,[],[],0⟩,k,0,5⟩,.inr (.pan ⟨t.At,5⟩ (at_ L k f)),Ev.step (fun m=>AZ.eq_2 (n:=m) _ _ _ _ _) (Ev.of fun m=>?_),Ev.step (fun m=>AU.eq_2 (n:=m) _ _ _) (Ev.of fun m=>?_),.inr (.inr ⟨_,t,ht,show (5:Int)≠0 by decide,rfl,rfl⟩)⟩
        . grind [A6,IH,Bool.not_false]
        . rw [hp,Dm ht]
          simp only [M8,I0,c1,c2,c3b,Á,é,É]
          show ((bif !(DI t) then some true else some false):Option Bool).bind _=_
          rw [c3a]
          simp only [Á,é,É,HE]
omit hL f in
def Ac5 (L:List Ab)(k:Int):Prop:=∀ d n,0<=n->n<=2000->∃ g y,Ev (fun m=>C0 m L k d n) g/\Ev (fun m=>Bf m (at_ L k n) d) y /\
 ∃ t,gi L g.To=some t/\((g.E=0/\k<g.To/\0<=g.N/\g.N<=2000/\y=.ok g.F (at_ L g.To g.N))∨(g.E≠0/\∃ f,y=.pan ⟨t.At,g.E⟩ (at_ L g.To f)))
omit f in
theorem Acj {x:Ab}{ags:List Ao}{d k0:Int}(hF:∀ k t,gi L k=some t->k0<k->Ac5 L k):∀ (r:Nat) (k n:Int) (out:List Ai) (t:Ab),gi L k=some t->k0<k->0<=n->n<=2000->(out.length:Int)<=k->(L.length:Int)-k<=r ->
 ∃ g w,Ev (fun m=>Bt m L x ags d out k n) g/\Ev (fun m=>Bu m d (L.drop k.toNat) n out) w /\
  ((∃ out' k' t' n',gi L k'=some t'/\k<=k'/\isS t' ⟨#[125]⟩=true/\0<=n'/\n'<=2000/\g=⟨⟨x.S,ags,out',x.At⟩,k'+1,n',0⟩/\w=.inl (L.drop k'.toNat,n',out')) ∨
   (∃ t',gi L g.To=some t'/\g.E≠0/\∃ f,w=.inr (.pan ⟨t'.At,g.E⟩ (at_ L g.To f))))
 |0,k,n,out,t,ht,h0,hn0,hn,ho,hr=>by have:=(As ht).2;omega
 |r+1,k,n,out,t,ht,h0,hn0,hn,ho,hr=>by
  have hk:=(As ht).2
  have hl:=hL.len
  have hp:L.drop k.toNat=t::L.drop (k+1).toNat:=(As ht).1
  by_cases c1:isS t ⟨#[125]⟩=true
  . have c1':(t.Kind == 4&&decide (t.S=⟨#[125]⟩))=true:=c1
    refine⟨_,.inl (L.drop k.toNat,n,out),Ev.step (fun m=>Bt.eq_2 (n:=m) _ _ _ _ _ _ _) (Ev.of fun m=>?_),Ev.step (fun m=>Bu.eq_2 (n:=m) _ _ _ _) (Ev.of fun m=>?_),.inl ⟨out,k,t,n,ht,Ġ _,c1,hn0,hn,rfl,rfl⟩⟩
    . simp only [A6 ht,c1',Á,É,CI hL ht]
    . rw [hp]
      simp only [M8,c1,Á,à,Ä]
  . have c1:isS t ⟨#[125]⟩=false:=by simpa using c1
    have c1':(t.Kind == 4&&decide (t.S=⟨#[125]⟩))=false:=c1
    obtain⟨g,y,hg,hy,t2,ht2,hc⟩:=hF k t ht h0 (À (d+1)) n hn0 hn
    have r1:∀ u,Ev (fun m=>(bif (g.E != 0) then some g else Bt m L x ags d (out++[g.F]) g.To g.N)) u->Ev (fun m=>Bt m L x ags d out k n) u:=by
     intro u hu
     refine Ev.step (fun m=>Bt.eq_2 (n:=m) _ _ _ _ _ _ _) ?_
     simp only [A6 ht,c1',Á,Ä]
     refine Ev.bind hg ?_
     refine hu.congr fun m=>?_
     rw [IP ho (by omega) (by decide)]
     rfl
    have p1:∀ w,Ev (fun m=>(match y with
     |.ok f3 p11=>Bu m d p11.l p11.forms (out++[f3])
     |.pan e5 p12=>some (.inr (.pan e5 p12)):Option ((List Ab×Int×List Ai) ⊕ Ex Ap Ae Ai))) w->Ev (fun m=>Bu m d (L.drop k.toNat) n out) w:=by
     intro w hw
     refine Ev.step (fun m=>Bu.eq_2 (n:=m) _ _ _ _) ?_
     rw [Dm ht] at hy
     rw [hp]
     simp only [M8,c1,Á,é,É]
     refine Ev.bind hy ?_
     refine hw.congr fun m=>?_
     cases y with
     |ok a p=>simp only [IP ho (show k<=1000000 by omega) (show 73<=1000 by decide),Á]
     |pan e p=>rfl
    rcases hc with⟨he,hgt,hN0,hN,rfl⟩|⟨he,f,rfl⟩
    . rw [show (g.E != 0)=false by simpa using he] at r1
      have hk2:=(As ht2).2
      obtain⟨u,w,hu,hw,hc⟩:=Acj hF r g.To g.N (out++[g.F]) t2 ht2 (by omega) hN0 hN (by simp;omega) (by omega)
      refine⟨u,w,r1 u hu,p1 w hw,?_⟩
      rcases hc with⟨o,k',t',n',h1,h2,h3⟩|hc
      . exact .inl ⟨o,k',t',n',h1,by omega,h3⟩
      . exact .inr hc
    . rw [show (g.E != 0)=true by simpa using he] at r1
      exact⟨_,_,r1 _ Ev.pure,p1 _ Ev.pure,.inr ⟨t2,ht2,he,f,rfl⟩⟩
omit f in
theorem Afs:∀ (r:Nat) (k:Int) (t:Ab),gi L k=some t->(L.length:Int)-k<=r->Ac5 L k
 |0,k,t,ht,hr=>by have:=(As ht).2;omega
 |r+1,k,t,ht,hr=>by
  have hF:∀ k' t',gi L k'=some t'->k<k'->Ac5 L k':=fun k' t' ht' hk'=>Afs r k' t' ht' (by omega)
  intro d n hn0 hn
  have hk:=(As ht).2
  have hl:=hL.len
  have wn:À (n+1)=n+1:=by rw [A2]<;>omega
  rw [Dm ht]
  by_cases c1:t.Kind=1
  . have c1':(t.Kind != 1)=false:=by simpa using c1
    by_cases c2:30<d∨2000<=n
    . have rv:((bif (decide (30<d)) then some true else some (decide (2000<=n))):Option Bool)=some true:=by
       rcases c2 with c|c
       . rw [Ð c];rfl
       . rw [Ð c];cases decide (30<d)<;>rfl
      have pv:((bif (decide (30<d)) then some true else some (decide (2000<n+1))):Option Bool)=some true:=by
       grind [isS]
      refine⟨⟨⟨⟨#[]⟩,[],[],0⟩,k,0,2⟩,.pan ⟨t.At,2⟩ (at_ L k (n+1)),Ev.step (fun m=>C0.eq_2 (n:=m) _ _ _ _) (Ev.of fun m=>?_),Ev.step (fun m=>Bf.eq_2 (n:=m) _ _) (Ev.of fun m=>?_),t,ht,.inr ⟨show (2:Int)≠0 by decide,_,rfl⟩⟩
      . simp only [ht,c1',rv,Á,Ä,É]
      . grind [Jp,HE,Dm]
    . have c2:d<=30/\n<2000:=by omega
      have rv:((bif (decide (30<d)) then some true else some (decide (2000<=n))):Option Bool)=some false:=by
       rw [Ñ (show ¬ 30<d by omega),Ñ (show ¬ 2000<=n by omega)];rfl
      have pv:((bif (decide (30<d)) then some true else some (decide (2000<n+1))):Option Bool)=some false:=by
       grind [isS]
      obtain⟨t1,ht1⟩:=nxT hL ht (by omega)
      have hk1:=(As ht1).2
      obtain⟨u,w,hu,hw,hc⟩:=Ack hL (n+1) (n:=n) ⟨hn0,c2.2⟩ (x:=t) L.length (k+1) [] t1 ht1 (by simp;omega) (by omega)
      have r1:∀ g,Ev (fun m=>(match u with
       |.inl (out,out1)=>Bt m L t out d [] (À (out1+1)) (n+1)
       |.inr o=>some o)) g->Ev (fun m=>C0 m L k d n) g:=by
       intro g hg
       refine Ev.step (fun m=>C0.eq_2 (n:=m) _ _ _ _) ?_
       simp only [ht,c1',rv,Á,Ä,CI hL ht,wn]
       exact Ev.bind hu hg
      have p1:∀ z,Ev (fun m=>(match w with
       |.inl (p5,p6,f) =>
        (A4 (Ae.mk p5 p6)).bind fun n_ =>
        bif (decide (n_.1.S=⟨#[59]⟩)) then
         some (.ok (Ai.mk t.S f [] t.At) n_.2)
        else
         ((Bu m d n_.2.l n_.2.forms []
         ):Option (((List Ab)×Int×(List Ai)) ⊕ (Ex Ap Ae Ai))).bind fun y4=>match y4 with
         |.inl (p7,p8,f1) =>
          (A4 (Ae.mk p7 p8)).bind fun n_1 =>
          some (.ok (Ai.mk t.S f f1 t.At) n_1.2)
         |.inr o=>some o
       |.inr o=>some o:Option (Ex Ap Ae Ai))) z->Ev (fun m=>Bf m ⟨t::L.drop (k+1).toNat,n⟩ d) z:=by
       intro z hz
       refine Ev.step (fun m=>Bf.eq_2 (n:=m) _ _) ?_
       simp only [Jp,c1',wn,pv,E7,Á,Ä]
       exact Ev.bind hw hz
      rcases hc with⟨o,k',t',ht',hk',cs,rfl,rfl⟩|⟨o,k',t',ht',hk',cs0,cs,rfl,rfl⟩|⟨g,t',ht',he,rfl,rfl⟩
      . obtain⟨t3,ht3⟩:=XU hL ht' cs
        refine⟨_,.ok ⟨t.S,o,[],t.At⟩ (at_ L (k'+1) (n+1)),r1 _ Ev.pure,p1 _ ?_,t3,ht3,.inl ⟨rfl,by show k<k'+1;omega,by show 0<=n+1;omega,by show n+1<=2000;omega,rfl⟩⟩
        have hS:decide (t'.S=⟨#[59]⟩)=true:=by
         unfold isS at cs;simp only [Ã] at cs;exact cs.2
        rw [(As ht').1]
        simp only [E7,Á,hS,É]
        exact Ev.pure
      . obtain⟨t3,ht3⟩:=XU hL ht' cs
        have hS:decide (t'.S=⟨#[59]⟩)=false:=by
         unfold isS at cs0;rw [EG cs] at cs0;exact cs0
        have hk2:=(As ht').2
        have hk3:=(As ht3).2
        obtain⟨g,w,hg,hw,hc⟩:=Acj hL (x:=t) (ags:=o) (d:=d) (k0:=k) hF L.length (k'+1) (n+1) [] t3 ht3 (by omega) (by omega) (by omega) (by simp;omega) (by omega)
        have p2:∀ z,Ev (fun m=>(match w with
         |.inl (p7,p8,f1) =>
          (A4 (Ae.mk p7 p8)).bind fun n_1 =>
          some (.ok (Ai.mk t.S o f1 t.At) n_1.2)
         |.inr o=>some o:Option (Ex Ap Ae Ai))) z->Ev (fun m=>Bf m ⟨t::L.drop (k+1).toNat,n⟩ d) z:=by
         intro z hz
         refine p1 z ?_
         rw [(As ht').1]
         simp only [E7,Á,hS,Ä]
         exact Ev.bind hw hz
        have r2:=r1 g (hg.congr fun m=>by simp only [CI hL ht'])
        rcases hc with⟨o2,k2,t4,n2,ht4,hk4,cs4,hn2,hn3,rfl,rfl⟩|⟨t4,ht4,he,f,rfl⟩
        . obtain⟨t5,ht5⟩:=XU hL ht4 cs4
          refine⟨_,.ok ⟨t.S,o,o2,t.At⟩ (at_ L (k2+1) n2),r2,p2 _ ?_,t5,ht5,.inl ⟨rfl,by show k<k2+1;omega,hn2,hn3,rfl⟩⟩
          rw [(As ht4).1]
          simp only [E7,Á]
          exact Ev.pure
        . exact⟨g,_,r2,p2 _ Ev.pure,t4,ht4,.inr ⟨he,f,rfl⟩⟩
      . exact⟨g,_,r1 _ Ev.pure,p1 _ Ev.pure,t',ht',.inr ⟨he,_,rfl⟩⟩
  . have c1':(t.Kind != 1)=true:=by simpa using c1
    refine⟨⟨⟨⟨#[]⟩,[],[],0⟩,k,0,5⟩,.pan ⟨t.At,5⟩ (at_ L k n),Ev.step (fun m=>C0.eq_2 (n:=m) _ _ _ _) (Ev.of fun m=>?_),Ev.step (fun m=>Bf.eq_2 (n:=m) _ _) (Ev.of fun m=>?_),t,ht,.inr ⟨show (5:Int)≠0 by decide,_,rfl⟩⟩
    . simp only [ht,c1',Á,É]
    . simp only [Jp,c1',HE,Á,É]
      rw [Dm ht]
end
end Go.Sp
namespace Go.Sp
open Go
inductive C8:Aa->Prop where
 |mk (e:Aa) (hl:e.Kids.length<=2165192128543) (h:∀ x∈e.Kids,C8 x):C8 e
def Ju (l:List Aa):Prop:=l.length<=2165192128543/\∀ x∈l,C8 x
theorem Ju.e {l:List Aa}(h:Ju l){a b d:Int}{c:Â}:C8 ⟨a,b,c,l,d⟩:=.mk _ h.1 h.2
theorem C8.k {e:Aa}(h:C8 e):Ju e.Kids:=by cases h with|mk _ h1 h2=>exact⟨h1,h2⟩
theorem Xh:Ju []:=⟨by simp,fun x hx=>by cases hx⟩
theorem Xg {a:Aa}(h:C8 a):Ju [a]:=⟨by simp,fun x hx=>by obtain rfl:=List.mem_singleton.1 hx;exact h⟩
theorem Abw {a b:Aa}(h:C8 a)(h2:C8 b):Ju [a,b]:=⟨by simp,fun x hx=>by
 rcases List.mem_cons.1 hx with rfl|hx
 . exact h
 . obtain rfl:=List.mem_singleton.1 hx;exact h2⟩
theorem Ahc {a b c:Aa}(h:C8 a)(h2:C8 b)(h3:C8 c):Ju [a,b,c]:=⟨by simp,fun x hx=>by
 rcases List.mem_cons.1 hx with rfl|hx
 . exact h
 . exact (Abw h2 h3).2 x hx⟩
theorem QY {α:Type}{b:Nat}(hb:1<=b){x y z:List α}(h:B4 b x y=some z):z=x++y/\z.length<=140737488355328:=by
 unfold B4 at h
 split at h
 . rename_i h1
   obtain rfl:=Ac h
   refine⟨rfl,?_⟩
   rw [Ç]
   exact Nat.le_trans (Nat.le_mul_of_pos_right _ hb) h1
 . cases h
theorem QX {α:Type}{b:Nat}{x y z:List α}(h:B4 b x y=some z):z.length*b<=140737488355328:=by
 unfold B4 at h
 split at h
 . rename_i h1
   obtain rfl:=Ac h
   rw [Ç];exact h1
 . cases h
theorem Aem {x y z:List Aa}(h:B4 65 x y=some z)(h1:Ju x)(h2:Ju y):Ju z:=by
 have hm:=QX h
 obtain⟨rfl,_⟩:=QY (by decide) h
 refine⟨by omega,fun e he=>?_⟩
 rcases List.mem_append.1 he with he|he
 . exact h1.2 e he
 . exact h2.2 e he
structure Ajs (n:Nat):Prop where
 E:∀ l k d g,Bl n l k d=some g->C8 g.X
 B:∀ l k v d g,Ax n l k v d=some g->C8 g.X
 L:∀ l v x d a b c e to er r,C8 x.X->Ju e->AI n l v x d a b c e to er=some r->(∀ g,r=.inr g->C8 g.X)/\∀ a b c e to er,r=.inl (a,b,c,e,to,er)->Ju e
 M:∀ l k d g,B9 n l k d=some g->C8 g.X
 A:∀ l k d g,BB n l k d=some g->C8 g.X
 G:∀ l k d g,Ca n l k d=some g->C8 g.X
 S:∀ l k d g,Dy n l k d=some g->C8 g.X
 T:∀ l d x to out g,Ju out->BU n l d x to out=some g->C8 g.X
theorem Aiz:∀ n,Ajs n
 |0=>{
  E:=fun l k d g h=>by simp [Bl] at h
  B:=fun l k v d g h=>by simp [Ax] at h
  L:=fun l v x d a b c e to er r _ _ h=>by simp [AI] at h
  M:=fun l k d g h=>by simp [B9] at h
  A:=fun l k d g h=>by simp [BB] at h
  G:=fun l k d g h=>by simp [Ca] at h
  S:=fun l k d g h=>by simp [Dy] at h
  T:=fun l d x to out g _ h=>by simp [BU] at h }
 |n+1=>by
  have ih:=Aiz n
  have z:∀ {a b d:Int} {c:Â},C8 ⟨a,b,c,[],d⟩:=Xh.e
  refine⟨?_,?_,?_,?_,?_,?_,?_,?_⟩
  . intro l k d g h
    replace h:=(Bl.eq_2 (n:=n) _ _ _).symm.trans h
    obtain⟨_,_,h⟩:=Ad h
    rcases An h with⟨_,h⟩|⟨_,h⟩
    . obtain rfl:=Ac h;exact z
    obtain⟨c,hc,h⟩:=Ad h
    have fc:=ih.B _ _ _ _ _ hc
    rcases An h with⟨_,h⟩|⟨_,h⟩
    . obtain rfl:=Ac h;exact fc
    obtain⟨_,_,h⟩:=Ad h
    rcases An h with⟨_,h⟩|⟨_,h⟩
    . obtain rfl:=Ac h;exact fc
    obtain⟨a,ha,h⟩:=Ad h
    have fa:=ih.E _ _ _ _ ha
    rcases An h with⟨_,h⟩|⟨_,h⟩
    . obtain rfl:=Ac h;exact fa
    obtain⟨_,_,h⟩:=Ad h
    rcases An h with⟨_,h⟩|⟨_,h⟩
    . obtain rfl:=Ac h;exact z
    obtain⟨b,hb,h⟩:=Ad h
    have fb:=ih.E _ _ _ _ hb
    rcases An h with⟨_,h⟩|⟨_,h⟩
    . obtain rfl:=Ac h;exact fb
    obtain⟨l1,hl,h⟩:=Ad h
    obtain rfl:=Ac hl
    obtain rfl:=Ac h
    exact (Ahc fc fa fb).e
  . intro l k v d g h
    replace h:=(Ax.eq_2 (n:=n) _ _ _ _).symm.trans h
    rcases An h with⟨_,h⟩|⟨_,h⟩
    . obtain⟨m,hm,h⟩:=Ad h
      obtain rfl:=Ac h
      exact ih.M _ _ _ _ hm
    rcases An h with⟨_,h⟩|⟨_,h⟩
    . obtain⟨m,hm,h⟩:=Ad h
      obtain rfl:=Ac h
      exact ih.G _ _ _ _ hm
    obtain⟨x,hx,h⟩:=Ad h
    have fx:=ih.B _ _ _ _ _ hx
    obtain⟨y,hy,h⟩:=Ad h
    have hL:=ih.L _ _ _ _ _ _ _ _ _ _ _ fx fx.k hy
    rcases y with⟨a,b,c,e,to,er⟩|o
    . obtain rfl:=Ac h
      exact (hL.2 _ _ _ _ _ _ rfl).e
    . obtain rfl:=Ac h
      exact hL.1 _ rfl
  . intro l v x d a b c e to er r fx fe h
    replace h:=(AI.eq_2 (n:=n) _ _ _ _ _ _ _ _ _ _).symm.trans h
    rcases An h with⟨_,h⟩|⟨_,h⟩
    . obtain⟨op,_,h⟩:=Ad h
      rcases An h with⟨_,h⟩|⟨_,h⟩
      . obtain rfl:=Ac h
        exact⟨fun g e2=>by cases e2;exact fe.e,fun _ _ _ _ _ _ e2=>by cases e2⟩
      obtain⟨y,hy,h⟩:=Ad h
      have fy:=ih.B _ _ _ _ _ hy
      rcases An h with⟨_,h⟩|⟨_,h⟩
      . obtain rfl:=Ac h
        exact⟨fun g e2=>by cases e2;exact fy,fun _ _ _ _ _ _ e2=>by cases e2⟩
      obtain⟨l1,hl,h⟩:=Ad h
      obtain rfl:=Ac hl
      have f2:Ju [Aa.mk a b c e x.X.At,y.X]:=Abw fe.e fy
      rcases An h with⟨_,h⟩|⟨_,h⟩
      . obtain rfl:=Ac h
        exact⟨fun g e2=>by cases e2;exact f2.e,fun _ _ _ _ _ _ e2=>by cases e2⟩
      exact ih.L _ _ _ _ _ _ _ _ _ _ _ fx f2 h
    . obtain rfl:=Ac h
      exact⟨fun g e2=>(by cases e2),fun a' b' c' e' to' er' e2=>by
       have:=Sum.inl.inj e2
       simp only [Ï] at this
       rw [<- this.2.2.2.1];exact fe⟩
  . intro l k d g h
    replace h:=(B9.eq_2 (n:=n) _ _ _).symm.trans h
    obtain⟨_,_,h⟩:=Ad h
    rcases An h with⟨_,h⟩|⟨_,h⟩
    . obtain⟨m,hm,h⟩:=Ad h
      obtain rfl:=Ac h
      exact ih.A _ _ _ _ hm
    obtain⟨_,_,h⟩:=Ad h
    rcases An h with⟨_,h⟩|⟨_,h⟩
    . obtain rfl:=Ac h;exact z
    obtain⟨x,hx,h⟩:=Ad h
    have fx:=ih.M _ _ _ _ hx
    rcases An h with⟨_,h⟩|⟨_,h⟩
    . obtain rfl:=Ac h;exact fx
    obtain⟨_,_,h⟩:=Ad h
    obtain⟨l1,hl,h⟩:=Ad h
    obtain rfl:=Ac hl
    obtain rfl:=Ac h
    exact (Xg fx).e
  . intro l k d g h
    replace h:=(BB.eq_2 (n:=n) _ _ _).symm.trans h
    obtain⟨_,_,h⟩:=Ad h
    obtain⟨_,_,h⟩:=Ad h
    rcases An h with⟨_,h⟩|⟨_,h⟩
    . obtain⟨x,hx,h⟩:=Ad h
      have fx:=ih.E _ _ _ _ hx
      rcases An h with⟨_,h⟩|⟨_,h⟩
      . obtain rfl:=Ac h;exact fx
      obtain⟨_,_,h⟩:=Ad h
      rcases An h with⟨_,h⟩|⟨_,h⟩
      . obtain rfl:=Ac h;exact z
      . obtain rfl:=Ac h;exact fx
    rcases An h with⟨_,h⟩|⟨_,h⟩
    . obtain rfl:=Ac h;exact z
    rcases An h with⟨_,h⟩|⟨_,h⟩
    . obtain rfl:=Ac h;exact z
    rcases An h with⟨_,h⟩|⟨_,h⟩
    . obtain rfl:=Ac h;exact z
    obtain⟨_,_,h⟩:=Ad h
    rcases An h with⟨_,h⟩|⟨_,h⟩
    . obtain rfl:=Ac h;exact z
    obtain⟨m,hm,h⟩:=Ad h
    obtain rfl:=Ac h
    exact ih.S _ _ _ _ hm
  . intro l k d g h
    replace h:=(Ca.eq_2 (n:=n) _ _ _).symm.trans h
    obtain⟨_,_,h⟩:=Ad h
    rcases An h with⟨_,h⟩|⟨_,h⟩
    . obtain⟨m,hm,h⟩:=Ad h
      obtain rfl:=Ac h
      exact ih.B _ _ _ _ _ hm
    obtain⟨_,_,h⟩:=Ad h
    rcases An h with⟨_,h⟩|⟨_,h⟩
    . obtain rfl:=Ac h;exact z
    obtain⟨x,hx,h⟩:=Ad h
    have fx:=ih.G _ _ _ _ hx
    rcases An h with⟨_,h⟩|⟨_,h⟩
    . obtain rfl:=Ac h;exact fx
    obtain⟨_,_,h⟩:=Ad h
    obtain⟨l1,hl,h⟩:=Ad h
    obtain rfl:=Ac hl
    obtain rfl:=Ac h
    exact (Xg fx).e
  . intro l k d g h
    replace h:=(Dy.eq_2 (n:=n) _ _ _).symm.trans h
    obtain⟨_,_,h⟩:=Ad h
    obtain⟨_,_,h⟩:=Ad h
    rcases An h with⟨_,h⟩|⟨_,h⟩
    . obtain rfl:=Ac h;exact z
    . exact ih.T _ _ _ _ _ _ Xh h
  . intro l d x to out g fo h
    replace h:=(BU.eq_2 (n:=n) _ _ _ _ _).symm.trans h
    obtain⟨_,_,h⟩:=Ad h
    obtain⟨_,_,h⟩:=Ad h
    rcases An h with⟨_,h⟩|⟨_,h⟩
    . obtain rfl:=Ac h;exact z
    obtain⟨y,hy,h⟩:=Ad h
    have fy:=ih.E _ _ _ _ hy
    rcases An h with⟨_,h⟩|⟨_,h⟩
    . obtain rfl:=Ac h;exact fy
    obtain⟨l1,hl,h⟩:=Ad h
    obtain rfl:=Ac hl
    obtain⟨l2,hl2,h⟩:=Ad h
    have f2:=Aem hl2 fo (Xg fy)
    obtain⟨_,_,h⟩:=Ad h
    rcases An h with⟨_,h⟩|⟨_,h⟩
    . obtain rfl:=Ac h;exact f2.e
    obtain⟨_,_,h⟩:=Ad h
    rcases An h with⟨_,h⟩|⟨_,h⟩
    . obtain rfl:=Ac h;exact z
    exact ih.T _ _ _ _ _ _ f2 h
end Go.Sp
namespace Go.Sp
open Go
mutual
def ET:Aa->Aa
 |.mk a b c l _=>.mk a b c (JX l) 0
def JX:List Aa->List Aa
 | []=>[]
 |x::l=>ET x::JX l
end
theorem Mi:∀ x y:List Aa,JX (x++y)=JX x++JX y
 | [],y=>rfl
 |a::x,y=>by show ET a::JX (x++y)=_;rw [Mi x y];rfl
theorem XH:∀ x:List Aa,(JX x).length=x.length
 | []=>rfl
 |a::x=>by show (JX x).length+1=_;rw [XH x];rfl
theorem MY {a b d d':Int}{c:Â}{l l':List Aa}(h:JX l'=JX l):ET ⟨a,b,c,l',d'⟩=ET ⟨a,b,c,l,d⟩:=by
 simp only [ET,h]
theorem XI {x x':Aa}(h:ET x'=ET x):JX [x']=JX [x]:=by simp only [JX,h]
theorem Afd {x x' y y':Aa}(h:ET x'=ET x)(h2:ET y'=ET y):JX [x',y']=JX [x,y]:=by simp only [JX,h,h2]
theorem Ah3 {x x' y y' z z':Aa}(h:ET x'=ET x)(h2:ET y'=ET y)(h3:ET z'=ET z):JX [x',y',z']=JX [x,y,z]:=by simp only [JX,h,h2,h3]
structure Sh (L M:List Ab) (s e:Int):Prop where
 hs:0<=s/\s<=1000000
 he:e<=1000000
 same:∀ k t,k<e->gi L k=some t->∃ t',gi M (k+s)=some t'/\t'.Kind=t.Kind/\t'.S=t.S/\t'.N=t.N
 fin:∀ t,gi L e=some t->t.Kind=5
 top:∀ k t,gi L k=some t->k<=e
theorem HP {t t':Ab}(h1:t'.Kind=t.Kind)(h2:t'.S=t.S)(x:Â):isS t' x=isS t x:=by unfold isS;rw [h1,h2]
end Go.Sp
namespace Go.Sp
open Go
def tS (s:Â):Ab:=⟨4,0,s,0⟩
def RW (op:Int):List Ar->Option Ar
 | []=>none
 |b::r=>if b.op=op then some b else RW op r
def lvl (op:Int):Int:=if op=20 then 0 else if op=5 then 3 else if op=6 then 7 else match RW op GF with|some b=>b.level|none=>8
def wrp (need:Int)(p:Int×List Ab):List Ab:=if need<=p.1 then p.2 else tS ⟨#[40]⟩::(p.2++[tS ⟨#[41]⟩])
def lf (lv:Int):Int:=if lv=4 then 5 else lv
def sepR:List (Int×List Ab)->List Ab
 | []=>[]
 |p::r=>tS ⟨#[44]⟩::(wrp 0 p++sepR r)
def sep:List (Int×List Ab)->List Ab
 | []=>[]
 |p::r=>wrp 0 p++sepR r
def Uz (op n:Int)(s:Â)(ks:List (Int×List Ab)):List Ab :=
 if op=1 then [⟨2,0,⟨#[]⟩,n⟩] else if op=2 then [⟨3,0,s,0⟩] else if op=3 then [⟨1,0,s,0⟩]
 else if op=4 then ⟨1,0,s,0⟩::tS ⟨#[40]⟩::(sep ks++[tS ⟨#[41]⟩])
 else if op=5 then (match ks with | [a]=>tS ⟨#[33]⟩::wrp 3 a|_=>[])
 else if op=6 then (match ks with | [a]=>tS ⟨#[45]⟩::wrp 7 a|_=>[])
 else if op=20 then (match ks with | [a,b,c]=>wrp 1 a++(tS ⟨#[63]⟩::(wrp 0 b++(tS ⟨#[58]⟩::wrp 0 c)))|_=>[])
 else match RW op GF,ks with
  |some b,[x,y]=>wrp (lf b.level) x++(tS b.sign::wrp (b.level+1) y)
  |_,_=>[]
mutual
def Cz:Aa->List Ab
 |.mk op n s l _=>Uz op n s (FV l)
def FV:List Aa->List (Int×List Ab)
 | []=>[]
 |x::l=>(lvl x.Op,Cz x)::FV l
end
mutual
def nE:Aa->Aa
 |.mk op n s l _=>if op=1 then ⟨1,n,⟨#[]⟩,[],0⟩ else if op=2 then ⟨2,0,s,[],0⟩ else if op=3 then ⟨3,0,s,[],0⟩ else if op=4 then ⟨4,0,s,nL l,0⟩ else ⟨op,0,⟨#[]⟩,nL l,0⟩
def nL:List Aa->List Aa
 | []=>[]
 |x::l=>nE x::nL l
end
mutual
theorem ZS:∀ x:Aa,ET (nE x)=nE x
 |.mk op n s l p=>by
  simp only [nE]
  split
  . rfl
  split
  . rfl
  split
  . rfl
  split
  . simp only [ET,W2 l]
  . simp only [ET,W2 l]
theorem W2:∀ l:List Aa,JX (nL l)=nL l
 | []=>rfl
 |x::l=>by show ET (nE x)::JX (nL l)=_;rw [ZS x,W2 l];rfl
end
def PE (need:Int)(p:Int×(Int->Prop))(d:Int):Prop:=if need<=p.1 then p.2 d else d+1<=30/\p.2 (d+1)
def fOp (op:Int)(ks:List (Int×(Int->Prop)))(d:Int):Prop :=
 if op=1 then True else if op=2 then True else if op=3 then True
 else if op=4 then ks.length<=40/\∀ p∈ks,d+1<=30/\PE 0 p (d+1)
 else if op=5 then (match ks with | [a]=>d+1<=30/\PE 3 a (d+1)|_=>False)
 else if op=6 then (match ks with | [a]=>d+1<=30/\PE 7 a (d+1)|_=>False)
 else if op=20 then (match ks with | [a,b,c]=>PE 1 a d/\d+1<=30/\PE 0 b (d+1)/\PE 0 c (d+1)|_=>False)
 else match RW op GF,ks with
  |some b,[x,y]=>PE (lf b.level) x d/\PE (b.level+1) y d
  |_,_=>False
mutual
def H0:Aa->Int->Prop
 |.mk op _ _ l _=>fOp op (VN l)
def VN:List Aa->List (Int×(Int->Prop))
 | []=>[]
 |x::l=>(lvl x.Op,H0 x)::VN l
end
inductive Wf:Aa->Prop where
 |num (n:Int) (s:Â) (l:List Aa) (p:Int):Wf ⟨1,n,s,l,p⟩
 |text (n:Int) (s:Â) (l:List Aa) (p:Int):Wf ⟨2,n,s,l,p⟩
 |name (n:Int) (s:Â) (l:List Aa) (p:Int):Wf ⟨3,n,s,l,p⟩
 |call (n:Int) (s:Â) (l:List Aa) (p:Int) (h:∀ x∈l,Wf x):Wf ⟨4,n,s,l,p⟩
 |not (n:Int) (s:Â) (x:Aa) (p:Int) (h:Wf x):Wf ⟨5,n,s,[x],p⟩
 |neg (n:Int) (s:Â) (x:Aa) (p:Int) (h:Wf x):Wf ⟨6,n,s,[x],p⟩
 |ite (n:Int) (s:Â) (x y z:Aa) (p:Int) (hx:Wf x) (hy:Wf y) (hz:Wf z):Wf ⟨20,n,s,[x,y,z],p⟩
 |bin (b:Ar) (hb:b∈GF) (n:Int) (s:Â) (x y:Aa) (p:Int) (hx:Wf x) (hy:Wf y):Wf ⟨b.op,n,s,[x,y],p⟩
theorem Hw {b:Ar}(hb:b∈GF):RW b.op GF=some b/\lvl b.op=b.level/\(b.level=1∨b.level=2∨b.level=4∨b.level=5∨b.level=6)/\b.op≠1/\b.op≠2/\b.op≠3/\b.op≠4/\b.op≠5/\b.op≠6/\b.op≠20/\b.op≠0/\IK (tS b.sign)=⟨b.level,b.op⟩/\isS (tS b.sign) ⟨#[40]⟩=false:=by
 simp only [GF,į,Ĩ,or_false] at hb
 rcases hb with rfl|rfl|rfl|rfl|rfl|rfl|rfl|rfl|rfl|rfl|rfl|rfl|rfl
 all_goals exact⟨rfl,rfl,by decide,by decide,by decide,by decide,by decide,by decide,by decide,by decide,by decide,rfl,rfl⟩
theorem PU {op:Int}{b:Ar}:∀ {l:List Ar},RW op l=some b->b∈l/\b.op=op
 | [],h=>by cases h
 |c::r,h=>by
  unfold RW at h
  split at h
  . rename_i h2
    cases h;exact⟨.head _,h2⟩
  . obtain⟨h1,h2⟩:=PU h
    exact⟨.tail _ h1,h2⟩
theorem O8 (op:Int):0<=lvl op/\lvl op<=8:=by
 unfold lvl
 split
 . omega
 split
 . omega
 split
 . omega
 cases h:RW op GF with
 |none=>simp only;omega
 |some b =>
  have:=(Hw (PU h).1).2.2.1
  simp only;omega
section
variable {b:Ar} (hb:b∈GF) (n p:Int) (s:Â) (x y:Aa)
include hb
theorem XO:Cz ⟨b.op,n,s,[x,y],p⟩=wrp (lf b.level) (lvl x.Op,Cz x)++(tS b.sign::wrp (b.level+1) (lvl y.Op,Cz y)):=by
 obtain⟨f1,f2,f3,h1,h2,h3,h4,h5,h6,h20,_⟩:=Hw hb
 simp only [Cz,FV,Uz,h1,h2,h3,h4,h5,h6,h20,í,f1]
theorem Agj:nE ⟨b.op,n,s,[x,y],p⟩=⟨b.op,0,⟨#[]⟩,[nE x,nE y],0⟩:=by
 obtain⟨f1,f2,f3,h1,h2,h3,h4,h5,h6,h20,_⟩:=Hw hb
 simp only [nE,nL,h1,h2,h3,h4,í]
theorem Ael (d:Int):H0 ⟨b.op,n,s,[x,y],p⟩ d=(PE (lf b.level) (lvl x.Op,H0 x) d/\PE (b.level+1) (lvl y.Op,H0 y) d):=by
 obtain⟨f1,f2,f3,h1,h2,h3,h4,h5,h6,h20,_⟩:=Hw hb
 simp only [H0,VN,fOp,h1,h2,h3,h4,h5,h6,h20,í,f1]
end
def Has (M:List Ab):Int->List Ab->Prop
 |_,[]=>True
 |k,t::r=>(∃ u,gi M k=some u/\u.Kind=t.Kind/\u.S=t.S/\u.N=t.N)/\Has M (k+1) r
theorem F3 {M:List Ab}:∀ {a b:List Ab} {k:Int},Has M k (a++b)->Has M k a/\Has M (k+(a.length:Int)) b
 | [],b,k,h=>⟨trivial,by rw [Î,show k+((0:Nat):Int)=k by omega];exact h⟩
 |t::a,b,k,h=>by
  obtain⟨h1,h2⟩:=F3 (a:=a) (b:=b) h.2
  refine⟨⟨h.1,h1⟩,?_⟩
  rw [Æ,show k+((a.length+1:Nat):Int)=k+1+(a.length:Int) by omega];exact h2
theorem Aa6 {t u:Ab}(h1:u.Kind=t.Kind)(h2:u.S=t.S):IK u=IK t:=by
 unfold IK
 have:∀ (z:List (ByteArray×Int)) (j:Nat),IQ u z j=IQ t z j:=by
  intro z
  induction z with
  |nil=>intro j;rfl
  |cons a z ih=>intro j;obtain⟨a,v⟩:=a;unfold IQ;rw [HP h1 h2,ih]
 exact this _ _
theorem R2 {t u:Ab}(h1:u.Kind=t.Kind)(h2:u.S=t.S):DI u=DI t:=by unfold DI;rw [h1,h2]
theorem Z9 {need:Int}{p:Int×List Ab}{P:Ab->Prop}(h0:P (tS ⟨#[40]⟩))(h:need<=p.1->∃ t r,p.2=t::r/\P t):∃ t r,wrp need p=t::r/\P t:=by
 unfold wrp
 split
 . rename_i h1;exact h h1
 . exact⟨_,_,rfl,h0⟩
theorem YM {x:Aa}(h:Wf x):∃ t r,Cz x=t::r/\(DI t=true∨isS t ⟨#[33]⟩=true)/\(4<=lvl x.Op->isS t ⟨#[33]⟩=false)/\(8<=lvl x.Op->isS t ⟨#[45]⟩=false):=by
 have op:∀ {need v:Int} {x:Aa},(∃ t r,Cz x=t::r/\(DI t=true∨isS t ⟨#[33]⟩=true)/\(4<=lvl x.Op->isS t ⟨#[33]⟩=false)/\(8<=lvl x.Op->isS t ⟨#[45]⟩=false))->(4<=v->4<=need)->v<8 ->
  ∃ t r,wrp need (lvl x.Op,Cz x)=t::r/\(DI t=true∨isS t ⟨#[33]⟩=true)/\(4<=v->isS t ⟨#[33]⟩=false)/\(8<=v->isS t ⟨#[45]⟩=false):=by
  intro need v x hx h1 h2
  refine Z9 ⟨.inl rfl,fun _=>rfl,fun _=>by omega⟩ fun hn=>?_
  obtain⟨t,r,e,a,b,_⟩:=hx
  exact⟨t,r,e,a,fun h=>b (by have:=h1 h;simp only at hn;omega),fun h=>by omega⟩
 have app:∀ {a b:List Ab} {P:Ab->Prop},(∃ t r,a=t::r/\P t)->∃ t r,a++b=t::r/\P t:=by
  rintro a b P ⟨t,r,rfl,h⟩;exact⟨t,r++b,rfl,h⟩
 induction h with
 |num n s l p=>exact⟨_,_,rfl,.inl rfl,fun _=>rfl,fun _=>rfl⟩
 |text n s l p=>exact⟨_,_,rfl,.inl rfl,fun _=>rfl,fun _=>rfl⟩
 |name n s l p=>exact⟨_,_,rfl,.inl rfl,fun _=>rfl,fun _=>rfl⟩
 |call n s l p h ih=>exact⟨_,_,rfl,.inl rfl,fun _=>rfl,fun _=>rfl⟩
 |not n s x p h ih=>exact⟨_,_,rfl,.inr rfl,fun h=>absurd h (by show ¬ (4:Int)<=3;omega),fun h=>absurd h (by show ¬ (8:Int)<=3;omega)⟩
 |neg n s x p h ih=>exact⟨_,_,rfl,.inl rfl,fun _=>rfl,fun h=>absurd h (by show ¬ (8:Int)<=7;omega)⟩
 |ite n s x y z p hx hy hz ihx ihy ihz=>exact app (op (v:=0) ihx (fun h=>by omega) (by omega))
 |bin b hb n s x y p hx hy ihx ihy =>
  rw [XO hb]
  obtain⟨_,f2,f3,_⟩:=Hw hb
  rw [show lvl (Aa.mk b.op n s [x,y] p).Op=b.level from f2]
  exact app (op ihx (fun h=>by unfold lf;split<;>omega) (by omega))
end Go.Sp
namespace Go.Sp
open Go
theorem KL {α:Type}{l:List α}{j:Nat}(h:j<l.length):gi l (j:Int)=some l[j]:=by
 unfold gi
 rw [Ê (by omega),Ć,Ë h]
theorem Ahr {j m:Nat}(h:j<m)(hm:m<=140737488355328):À ((j:Int)+1)=((j+1:Nat):Int):=by
 rw [A2]<;>omega
inductive JW:Ai->Prop where
 |mk (f:Ai) (ha:f.Args.length<=1340357031955) (hx:∀ a∈f.Args,C8 a.E) (hb:f.Body.length<=1927910799388) (h:∀ x∈f.Body,JW x):JW f
def MK (l:List Ai):Prop:=l.length<=1927910799388/\∀ x∈l,JW x
theorem Zf {x y z:List Ai}(h:B4 73 x y=some z)(h1:MK x)(h2:∀ f∈y,JW f):MK z:=by
 have hm:=QX h
 obtain⟨rfl,_⟩:=QY (by decide) h
 refine⟨by omega,fun e he=>?_⟩
 rcases List.mem_append.1 he with he|he
 . exact h1.2 e he
 . exact h2 e he
def Nr (l:List Ao):Prop:=l.length<=1340357031955/\∀ a∈l,C8 a.E
theorem Xi {x y z:List Ao}(h:B4 105 x y=some z)(h1:Nr x)(h2:∀ a∈y,C8 a.E):Nr z:=by
 have hm:=QX h
 obtain⟨rfl,_⟩:=QY (by decide) h
 refine⟨by omega,fun e he=>?_⟩
 rcases List.mem_append.1 he with he|he
 . exact h1.2 e he
 . exact h2 e he
theorem Ahd {n:Nat}{l:List Ab}{k:Int}{g:Cj}(h:CQ n l k=some g):C8 g.A.E:=by
 have z:∀ {a b d:Int} {c:Â},C8 ⟨a,b,c,[],d⟩:=Xh.e
 unfold CQ at h
 obtain⟨_,_,h⟩:=Ad h
 obtain⟨_,_,h⟩:=Ad h
 rcases An h with⟨_,h⟩|⟨_,h⟩
 . obtain rfl:=Ac h;exact z
 obtain⟨_,_,h⟩:=Ad h
 rcases An h with⟨_,h⟩|⟨_,h⟩
 . obtain rfl:=Ac h;exact z
 obtain⟨_,_,h⟩:=Ad h
 rcases An h with⟨_,h⟩|⟨_,h⟩
 . obtain⟨_,_,h⟩:=Ad h
   rcases An h with⟨_,h⟩|⟨_,h⟩
   . obtain rfl:=Ac h;exact z
   . obtain rfl:=Ac h;exact z
 obtain⟨x,hx,h⟩:=Ad h
 have fx:=(Aiz n).E _ _ _ _ hx
 rcases An h with⟨_,h⟩|⟨_,h⟩
 . obtain rfl:=Ac h;exact z
 obtain⟨_,_,h⟩:=Ad h
 rcases An h with⟨_,h⟩|⟨_,h⟩
 . obtain rfl:=Ac h;exact z
 . obtain rfl:=Ac h;exact fx
structure Ajr (n:Nat):Prop where
 F:∀ l k d c g,C0 n l k d c=some g->JW g.F
 L1:∀ l x ags d out to c g,Nr ags->MK out->Bt n l x ags d out to c=some g->JW g.F
 L2:∀ l x c ags to r,Nr ags->AZ n l x c ags to=some r->(∀ g,r=.inr g->JW g.F)/\∀ a to,r=.inl (a,to)->Nr a
theorem Ym:Nr []:=⟨by simp,fun x hx=>by cases hx⟩
theorem OE:MK []:=⟨by simp,fun x hx=>by cases hx⟩
theorem Abx {ags:List Ao}{out:List Ai}(h1:Nr ags)(h2:MK out){s:Â}{i:Int}:JW ⟨s,ags,out,i⟩:=.mk _ h1.1 h1.2 h2.1 h2.2
theorem Aiy:∀ n,Ajr n
 |0=>{
  F:=fun l k d c g h=>by simp [C0] at h
  L1:=fun l x ags d out to c g _ _ h=>by simp [Bt] at h
  L2:=fun l x c ags to r _ h=>by simp [AZ] at h }
 |n+1=>by
  have ih:=Aiy n
  have z:∀ {s:Â} {i:Int},JW ⟨s,[],[],i⟩:=Abx Ym OE
  refine⟨?_,?_,?_⟩
  . intro l k d c g h
    replace h:=(C0.eq_2 (n:=n) _ _ _ _).symm.trans h
    obtain⟨_,_,h⟩:=Ad h
    rcases An h with⟨_,h⟩|⟨_,h⟩
    . obtain rfl:=Ac h;exact z
    obtain⟨_,_,h⟩:=Ad h
    rcases An h with⟨_,h⟩|⟨_,h⟩
    . obtain rfl:=Ac h;exact z
    obtain⟨y,hy,h⟩:=Ad h
    have h2:=ih.L2 _ _ _ _ _ _ Ym hy
    rcases y with⟨a,to⟩|o
    . exact ih.L1 _ _ _ _ _ _ _ _ (h2.2 _ _ rfl) OE h
    . obtain rfl:=Ac h
      exact h2.1 _ rfl
  . intro l x ags d out to c g fa fo h
    replace h:=(Bt.eq_2 (n:=n) _ _ _ _ _ _ _).symm.trans h
    obtain⟨_,_,h⟩:=Ad h
    rcases An h with⟨_,h⟩|⟨_,h⟩
    . obtain rfl:=Ac h;exact Abx fa fo
    obtain⟨y,hy,h⟩:=Ad h
    have fy:=ih.F _ _ _ _ _ hy
    rcases An h with⟨_,h⟩|⟨_,h⟩
    . obtain rfl:=Ac h;exact fy
    obtain⟨l1,hl,h⟩:=Ad h
    obtain rfl:=Ac hl
    obtain⟨l2,hl2,h⟩:=Ad h
    exact ih.L1 _ _ _ _ _ _ _ _ fa (Zf hl2 fo fun f hf=>by obtain rfl:=List.mem_singleton.1 hf;exact fy) h
  . intro l x c ags to r fa h
    replace h:=(AZ.eq_2 (n:=n) _ _ _ _ _).symm.trans h
    obtain⟨_,_,h⟩:=Ad h
    rcases An h with⟨_,h⟩|⟨_,h⟩
    . obtain rfl:=Ac h
      exact⟨fun g e=>by cases e;exact Abx fa OE,fun _ _ e=>by cases e⟩
    obtain⟨_,_,h⟩:=Ad h
    rcases An h with⟨_,h⟩|⟨_,h⟩
    . obtain rfl:=Ac h
      exact⟨fun g e=>(by cases e),fun _ _ e=>by cases e;exact fa⟩
    obtain⟨_,_,h⟩:=Ad h
    obtain⟨_,_,h⟩:=Ad h
    obtain⟨_,_,h⟩:=Ad h
    rcases An h with⟨_,h⟩|⟨_,h⟩
    . obtain rfl:=Ac h
      exact⟨fun g e=>by cases e;exact z,fun _ _ e=>by cases e⟩
    rcases An h with⟨_,h⟩|⟨_,h⟩
    . obtain rfl:=Ac h
      exact⟨fun g e=>by cases e;exact z,fun _ _ e=>by cases e⟩
    obtain⟨y,hy,h⟩:=Ad h
    rcases An h with⟨_,h⟩|⟨_,h⟩
    . obtain rfl:=Ac h
      exact⟨fun g e=>by cases e;exact z,fun _ _ e=>by cases e⟩
    obtain⟨l1,hl,h⟩:=Ad h
    obtain rfl:=Ac hl
    obtain⟨l2,hl2,h⟩:=Ad h
    exact ih.L2 _ _ _ _ _ _ (Xi hl2 fa fun a ha=>by obtain rfl:=List.mem_singleton.1 ha;exact Ahd hy) h
end Go.Sp
namespace Go.Sp
open Go
def BQ (s:Â):Bool:=decide (0<s.size/\s.size<=32)&&(Lx.headIs Lx.isLetter s.data.toList&&s.data.toList.all Lx.isWord)
def Ib (c:UInt8):Bool:=c == 10||(decide (32<=c)&&decide (c<=126))
def H7 (s:Â):Bool:=decide (s.size<=200)&&s.data.toList.all Ib
def Hl (n:Int):Bool:=decide (0<=n/\n<=999999999999999)
theorem S7:∀ c:UInt8,Cr (c.toNat:Int)=some (Lx.isLetter c):=by
 have:∀ k:Fin 256,Cr ((k.val:Nat):Int)=some (Lx.isLetter (UInt8.ofNat k.val)):=by decide +kernel
 intro c
 have h:=this ⟨c.toNat,c.toNat_lt⟩
 rw [show UInt8.ofNat c.toNat=c from UInt8.ofNat_toNat] at h
 exact h
theorem Gf {s:Â}{j:Nat}(h:j<s.data.toList.length):gb s (j:Int)=some ((s.data.toList[j].toNat:Nat):Int):=by
 have hs:s.data.toList.length=s.size:=rfl
 unfold gb
 rw [Ê (by omega),Ć]
 simp [List.getD,Ë h]
theorem OK (c:UInt8):(decide (48<=(c.toNat:Int))&&decide ((c.toNat:Int)<=57))=Lx.isDigit c:=by
 have:∀ k:Fin 256,(decide (48<=((k.val:Nat):Int))&&decide (((k.val:Nat):Int)<=57))=Lx.isDigit (UInt8.ofNat k.val):=by decide +kernel
 have h:=this ⟨c.toNat,c.toNat_lt⟩
 rw [show UInt8.ofNat c.toNat=c from UInt8.ofNat_toNat] at h
 exact h
theorem Sx {s:Â}(hs:s.size<=140737488355328):∀ (m j:Nat) (ok:Bool),1<=j->j+m=s.data.toList.length->Ev (fun n=>B0 n s ok (j:Int)) (ok&&(s.data.toList.drop j).all Lx.isWord)
 |0,j,ok,h1,h=>by
  have hs:s.data.toList.length=s.size:=rfl
  refine Ev.step (fun n=>B0.eq_2 (n:=n) _ _ _) (Ev.of fun n=>?_)
  rw [Ñ (by omega),Ă (by omega)];simp
 |m+1,j,ok,h1,h=>by
  have hs2:s.data.toList.length=s.size:=rfl
  have hj:j<s.data.toList.length:=by omega
  have w1:À ((j:Int)+1)=((j+1:Nat):Int):=by rw [A2]<;>omega
  refine Ev.step (fun n=>B0.eq_2 (n:=n) _ _ _) ?_
  have hd:=å hj
  have e1:(bif ok then (gb s (j:Int)).bind fun c=>(Cr c).bind fun n_=>bif n_ then some true else bif decide (0<(j:Int)) then (bif decide (48<=c) then some (decide (c<=57)) else some false) else some false else some false:Option Bool)=some (ok&&Lx.isWord s.data.toList[j]):=by
   cases ok with
   |false=>rfl
   |true =>
    simp only [É,Gf hj,Á,S7,Ð (show (0:Int)<(j:Int) by omega),ė]
    unfold Lx.isWord
    rw [<- OK]
    cases Lx.isLetter s.data.toList[j]<;>cases decide (48<=((s.data.toList[j].toNat:Nat):Int))<;>rfl
  simp only [Ð (show (j:Int)<(s.size:Int) by omega),É,e1,Á,w1]
  have:=Sx hs m (j+1) (ok&&Lx.isWord s.data.toList[j]) (by omega) (by omega)
  rw [hd,ĉ,<- Bool.and_assoc]
  exact this
theorem Mp {p:Aj}{s:Â}(hs:s.size<=140737488355328)(hp:p.l.length<=1000000):Ev (fun n=>Cs n p s) ((),⟨p.l++[⟨1,0,s,0⟩],p.bad||!BQ s⟩):=by
 have hs2:s.data.toList.length=s.size:=rfl
 have g1:B4 41 p.l [⟨1,0,s,0⟩]=some (p.l++[⟨1,0,s,0⟩]):=by unfold B4;rw [Ê (by simp only [Æ,Î];omega)]
 have fin:∀ v,(bif p.bad then some true else some (!v):Option Bool)=some (p.bad||!v):=fun v=>by cases p.bad<;>rfl
 unfold Cs
 have e0:(bif decide (0<(s.size:Int)) then some (decide ((s.size:Int)<=32)) else some false:Option Bool)=some (decide (0<s.size/\s.size<=32)):=by
  by_cases h:0<s.size
  . simp [h];omega
  . simp [h]
 refine Ev.bind (Ev.const e0) ?_
 refine Ev.bind (a:=BQ s) ?_ ?_
 . cases hl:s.data.toList with
   |nil =>
    refine Ev.step (fun n=>B0.eq_2 (n:=n) _ _ _) (Ev.of fun n=>?_)
    have:s.size=0:=by rw [<- hs2,hl];rfl
    unfold BQ
    rw [Ñ (show ¬ (0:Int)<(s.size:Int) by omega),Ñ (show ¬ (0<s.size/\s.size<=32) by omega)];rfl
   |cons c r =>
    have hlen:s.data.toList.length=r.length+1:=by rw [hl];rfl
    have hj:0<s.data.toList.length:=by omega
    have h0:s.data.toList[0]=c:=by simp [hl]
    refine Ev.step (fun n=>B0.eq_2 (n:=n) _ _ _) ?_
    have gz:=Gf (s:=s) (j:=0) hj
    rw [h0] at gz
    have gz:gb s 0=some ((c.toNat:Nat):Int):=gz
    have e1:(bif decide (0<s.size/\s.size<=32) then (gb s 0).bind fun c=>(Cr c).bind fun n_=>bif n_ then some true else bif decide (0<(0:Int)) then (bif decide (48<=c) then some (decide (c<=57)) else some false) else some false else some false:Option Bool)=some (decide (0<s.size/\s.size<=32)&&Lx.isLetter c):=by
     cases decide (0<s.size/\s.size<=32) with
     |false=>rfl
     |true =>
      simp only [É,gz,Á,S7,show decide ((0:Int)<0)=false from rfl,Ä,ė]
      cases Lx.isLetter c<;>rfl
    simp only [Ð (show (0:Int)<(s.size:Int) by omega),É,e1,Á,show À (0+1)=((1:Nat):Int) from rfl]
    have:=Sx hs r.length 1 (decide (0<s.size/\s.size<=32)&&Lx.isLetter c) (by omega) (by omega)
    rw [hl] at this
    unfold BQ
    rw [hl,show Lx.headIs Lx.isLetter (c::r)=Lx.isLetter c from rfl,ĉ]
    have hw:(Lx.isLetter c&&(Lx.isWord c&&r.all Lx.isWord))=(Lx.isLetter c&&r.all Lx.isWord):=by
     unfold Lx.isWord;cases Lx.isLetter c<;>simp
    rw [hw,<- Bool.and_assoc]
    exact this
 . refine Ev.bind (Ev.const (fin _)) ?_
   exact Ev.bind (Ev.const (a:=[⟨1,0,s,0⟩]) rfl) (Ev.bind (Ev.const g1) Ev.pure)
theorem Aci (c:UInt8):(bif (((c.toNat:Nat):Int) != 10) then bif decide (((c.toNat:Nat):Int)<32) then some true else some (decide (126<((c.toNat:Nat):Int))) else some false:Option Bool)=some (!Ib c):=by
 have:∀ k:Fin 256,(bif (((k.val:Nat):Int) != 10) then bif decide (((k.val:Nat):Int)<32) then some true else some (decide (126<((k.val:Nat):Int))) else some false:Option Bool)=some (!Ib (UInt8.ofNat k.val)):=by decide +kernel
 have h:=this ⟨c.toNat,c.toNat_lt⟩
 rw [show UInt8.ofNat c.toNat=c from UInt8.ofNat_toNat] at h
 exact h
theorem Sc {s:Â}(hs:s.size<=140737488355328):∀ (m j:Nat) (bad:Bool),j+m=s.data.toList.length->Ev (fun n=>Cc n s (j:Int) bad) (bad||!(s.data.toList.drop j).all Ib)
 |0,j,ok,h=>by
  have hs:s.data.toList.length=s.size:=rfl
  refine Ev.step (fun n=>Cc.eq_2 (n:=n) _ _ _) (Ev.of fun n=>?_)
  rw [Ñ (by omega),Ă (by omega)];simp
 |m+1,j,bad,h=>by
  have hs2:s.data.toList.length=s.size:=rfl
  have hj:j<s.data.toList.length:=by omega
  have w1:À ((j:Int)+1)=((j+1:Nat):Int):=by rw [A2]<;>omega
  refine Ev.step (fun n=>Cc.eq_2 (n:=n) _ _ _) ?_
  have hd:=å hj
  have e1:(bif bad then some true else (gb s (j:Int)).bind fun c=>bif (c != 10) then bif decide (c<32) then some true else some (decide (126<c)) else some false:Option Bool)=some (bad||!Ib s.data.toList[j]):=by
   cases bad with
   |true=>rfl
   |false=>simp only [Ä,Gf hj,Á,Aci,Bool.false_or]
  simp only [Ð (show (j:Int)<(s.size:Int) by omega),É,e1,Á,w1]
  have:=Sc hs m (j+1) (bad||!Ib s.data.toList[j]) (by omega)
  rw [hd,ĉ,ď,<- ą]
  exact this
theorem PG {p:Aj}{s:Â}(hs:s.size<=140737488355328)(hp:p.l.length<=1000000):Ev (fun n=>Dc n p s) ((),⟨p.l++[⟨3,0,s,0⟩],p.bad||!H7 s⟩):=by
 have g1:B4 41 p.l [⟨3,0,s,0⟩]=some (p.l++[⟨3,0,s,0⟩]):=by unfold B4;rw [Ê (by simp only [Æ,Î];omega)]
 unfold Dc
 have e0:(bif p.bad then some true else some (decide (200<(s.size:Int))):Option Bool)=some (p.bad||!decide (s.size<=200)):=by
  cases p.bad with
  |true=>rfl
  |false =>
   by_cases h:s.size<=200
   . simp [h];omega
   . simp [h];omega
 refine Ev.bind (Ev.const e0) ?_
 have:=Sc hs s.data.toList.length 0 (p.bad||!decide (s.size<=200)) (by omega)
 refine Ev.bind this ?_
 refine Ev.bind (Ev.const (a:=[⟨3,0,s,0⟩]) rfl) (Ev.bind (Ev.const g1) (Ev.of fun _=>?_))
 rw [Ą,ą,<- ď];rfl
theorem JH {p:Aj}{v:Int}(hp:p.l.length<=1000000):Cq p v=some ((),⟨p.l++[⟨2,0,⟨#[]⟩,v⟩],p.bad||!Hl v⟩):=by
 have g1:B4 41 p.l [⟨2,0,⟨#[]⟩,v⟩]=some (p.l++[⟨2,0,⟨#[]⟩,v⟩]):=by unfold B4;rw [Ê (by simp only [Æ,Î];omega)]
 have e0:(bif p.bad then some true else bif decide (v<0) then some true else some (decide (999999999999999<v)):Option Bool)=some (p.bad||!Hl v):=by
  cases p.bad with
  |true=>rfl
  |false =>
   unfold Hl
   by_cases h:v<0
   . simp [h]
   . by_cases h2:999999999999999<v
     . simp [h,h2]
     . simp [h,h2];omega
 unfold Cq
 rw [e0]
 simp only [Á,g1]
theorem Dj {p:Aj}{s:Â}(hp:p.l.length<=1000000):Ev (fun n=>A3 n p [s]) ((),⟨p.l++[tS s],p.bad⟩):=by
 have g1:B4 41 p.l [⟨4,0,s,0⟩]=some (p.l++[⟨4,0,s,0⟩]):=by unfold B4;rw [Ê (by simp only [Æ,Î];omega)]
 unfold A3
 refine Ev.bind (a:=p.l++[tS s]) ?_ Ev.pure
 refine Ev.step (fun n=>Cw.eq_2 (n:=n) _ _ _) ?_
 simp only [Ď,show decide ((0:Int)<((1:Nat):Int))=true from rfl,É,show gi [s] 0=some s from rfl,Á,g1,show À (0+1)=1 from rfl]
 refine Ev.step (fun n=>Cw.eq_2 (n:=n) _ _ _) (Ev.of fun n=>?_)
 rfl
theorem Pl {e:Aa}:∀ (m j:Nat),j+m=GF.length->Ev (fun n=>DO n GF e (j:Int)) (match RW e.Op (GF.drop j) with|some b=>.inr b.level|none=>.inl ())
 |0,j,h=>by
  refine Ev.step (fun n=>DO.eq_2 (n:=n) _ _ _) (Ev.of fun n=>?_)
  rw [Ñ (by omega),Ă (by omega)];rfl
 |m+1,j,h=>by
  have hj:j<GF.length:=by omega
  have hl:GF.length=13:=rfl
  have w1:À ((j:Int)+1)=((j+1:Nat):Int):=by rw [A2]<;>omega
  refine Ev.step (fun n=>DO.eq_2 (n:=n) _ _ _) ?_
  rw [å hj]
  simp only [Ð (show (j:Int)<(GF.length:Int) by omega),É,KL hj,Á,w1]
  unfold RW
  by_cases q:GF[j].op=e.Op
  . rw [Ê q,show (GF[j].op == e.Op)=true by simpa using q]
    exact Ev.pure
  . rw [È q,show (GF[j].op == e.Op)=false by simpa using q]
    exact Pl m (j+1) (by omega)
theorem YT (e:Aa):Ev (fun n=>HO n e) (lvl e.Op):=by
 unfold HO lvl
 by_cases h20:e.Op=20
 . rw [Ê h20,show (e.Op == 20)=true by simpa using h20];exact Ev.pure
 by_cases h5:e.Op=5
 . rw [È h20,Ê h5,show (e.Op == 20)=false by simpa using h20,show (e.Op == 5)=true by simpa using h5];exact Ev.pure
 by_cases h6:e.Op=6
 . rw [È h20,È h5,Ê h6,show (e.Op == 20)=false by simpa using h20,show (e.Op == 5)=false by simpa using h5,show (e.Op == 6)=true by simpa using h6];exact Ev.pure
 rw [È h20,È h5,È h6,show (e.Op == 20)=false by simpa using h20,show (e.Op == 5)=false by simpa using h5,show (e.Op == 6)=false by simpa using h6]
 simp only [Ä,Kv,Á]
 have:=Pl (e:=e) 13 0 rfl
 rw [Ą] at this
 refine Ev.bind this ?_
 cases RW e.Op GF<;>exact Ev.pure
theorem Pp {q:List Ab}{q1:Bool}{e e1:Int}{e2:Â}{e3:List Aa}{e4:Int}:∀ (m j:Nat),j+m=GF.length ->
 ∃ y,Ev (fun n=>AK n GF q q1 e e1 e2 e3 e4 (j:Int)) y/\(y=.inl ()/\RW e (GF.drop j)=none∨∃ i:Nat,y=.inr (i:Int)/\∃ h:i<GF.length,RW e (GF.drop j)=some GF[i])
 |0,j,h=>by
  refine⟨.inl (),Ev.step (fun n=>AK.eq_2 (n:=n) _ _ _ _ _ _ _ _ _) (Ev.of fun n=>?_),.inl ⟨rfl,?_⟩⟩
  . rw [Ñ (by omega)];rfl
  . rw [Ă (by omega)];rfl
 |m+1,j,h=>by
  have hj:j<GF.length:=by omega
  have hl:GF.length=13:=rfl
  have w1:À ((j:Int)+1)=((j+1:Nat):Int):=by rw [A2]<;>omega
  rw [å hj]
  have st:∀ y,Ev (fun n=>(bif (GF[j].op == e) then some (.inr (j:Int)) else AK n GF q q1 e e1 e2 e3 e4 ((j+1:Nat):Int):Option (Unit ⊕ Int))) y->Ev (fun n=>AK n GF q q1 e e1 e2 e3 e4 (j:Int)) y:=by
   intro y hy
   refine Ev.step (fun n=>AK.eq_2 (n:=n) _ _ _ _ _ _ _ _ _) ?_
   simp only [Ð (show (j:Int)<(GF.length:Int) by omega),É,KL hj,Á,w1,Ds]
   exact hy
  unfold RW
  by_cases q':GF[j].op=e
  . rw [Ê q']
    refine⟨.inr (j:Int),st _ ?_,.inr ⟨j,rfl,hj,rfl⟩⟩
    rw [show (GF[j].op == e)=true by simpa using q'];exact Ev.pure
  . rw [È q']
    obtain⟨y,hy,hh⟩:=Pp (q:=q) (q1:=q1) (e:=e) (e1:=e1) (e2:=e2) (e3:=e3) (e4:=e4) m (j+1) (by omega)
    refine⟨y,st y ?_,hh⟩
    rw [show (GF[j].op == e)=false by simpa using q'];exact hy
theorem YZ (q:List Ab)(q1:Bool)(e e1:Int)(e2:Â)(e3:List Aa)(e4:Int) :
 (RW e GF=none/\Ev (fun n=>BD n q q1 e e1 e2 e3 e4 GF) (-1))∨∃ (i:Nat) (b:Ar),Ev (fun n=>BD n q q1 e e1 e2 e3 e4 GF) (i:Int)/\gi GF (i:Int)=some b/\RW e GF=some b:=by
 obtain⟨y,hy,hh⟩:=Pp (q:=q) (q1:=q1) (e:=e) (e1:=e1) (e2:=e2) (e3:=e3) (e4:=e4) 13 0 rfl
 rw [Ą] at hh
 unfold BD
 rcases hh with⟨rfl,h⟩|⟨i,rfl,hi,h⟩
 . exact .inl ⟨h,Ev.bind hy Ev.pure⟩
 . exact .inr ⟨i,_,Ev.bind hy Ev.pure,KL hi,h⟩
end Go.Sp

namespace Go.Sp
open Go
def Eh (c:Prop)(F:Nat->Option Aw)(to:Int)(X:Aa):Prop:=∃ g,Ev F g/\(g.E=2/\¬c∨g.E=0/\g.To=to/\ET g.X=ET X)
variable {c:Prop}
theorem Eh.deep {g:Aw}{to:Int}{X:Aa}(h:g.E=2)(hc:¬c):Eh c (fun _=>some g) to X:=⟨g,Ev.pure,.inl ⟨h,hc⟩⟩
theorem Eh.ok {Y X:Aa}{to:Int}(h:ET Y=ET X):Eh c (fun _=>some ⟨Y,to,0⟩) to X:=⟨_,Ev.pure,.inr ⟨rfl,rfl,h⟩⟩
theorem Eh.step {F G:Nat->Option Aw}{to:Int}{X:Aa}(e:∀ n,F (n+1)=G n)(h:Eh c G to X):Eh c F to X:=by
 obtain⟨g,h,hg⟩:=h;exact⟨g,Ev.step e h,hg⟩
theorem Eh.id {F:Nat->Option Aw}{to:Int}{X:Aa}(h:Eh c F to X):Eh c (fun n=>(F n).bind fun x=>some x) to X:=by
 obtain⟨g,h,hg⟩:=h;exact⟨g,Ev.bind h Ev.pure,hg⟩
theorem Eh.bind {F:Nat->Option Aw}{K:Nat->Aw->Option Aw}{to MD:Int}{X X2:Aa}(h:Eh c F to X)
 (k:∀ Y,ET Y=ET X->Eh c (fun n=>K n ⟨Y,to,0⟩) MD X2):Eh c (fun n=>(F n).bind fun g=>bif (g.E != 0) then some g else K n g) MD X2:=by
 obtain⟨⟨Y,t,e⟩,h,hg⟩:=h
 rcases hg with h1|⟨h1,h2,h3⟩
 . refine⟨⟨Y,t,e⟩,Ev.bind h (Ev.of fun n=>?_),.inl h1⟩
   cases h1.1;rfl
 . cases h1;cases h2
   obtain⟨g,h4,hg⟩:=k Y h3
   exact⟨g,Ev.bind h h4,hg⟩
section
variable {M:List Ab} {k d to:Int} {t tt:Ab} {X:Aa} (hk:gi M k=some t)
include hk
theorem Rq (hm:isS t ⟨#[45]⟩=false)(h:Eh c (fun n=>BB n M k d) to X):Eh c (fun n=>B9 n M k d) to X:=by
 refine Eh.step (fun n=>B9.eq_2 (n:=n) _ _ _) ?_
 have e:Au M k ⟨#[45]⟩=some (isS t ⟨#[45]⟩):=A6 hk
 simp only [e,hm,Á,é,É]
 exact h.id
theorem Ajo (hm:isS t ⟨#[33]⟩=false)(h:Eh c (fun n=>Ax n M k 4 d) to X):Eh c (fun n=>Ax n M k 3 d) to X:=by
 refine Eh.step (fun n=>Ax.eq_2 (n:=n) _ _ _ _) ?_
 simp only [show decide ((6:Int)<3)=false from rfl,show ((3:Int) == 3)=true from rfl,Ä,É]
 refine Eh.id (Eh.step (fun n=>Ca.eq_2 (n:=n) _ _ _) ?_)
 have e:Au M k ⟨#[33]⟩=some (isS t ⟨#[33]⟩):=A6 hk
 simp only [e,hm,Á,é,É]
 exact h.id
theorem Aes (hf:fst t d true=0)(h:Eh c (fun n=>Ax n M k 1 d) to X)(ht:gi M to=some tt)(hq:isS tt ⟨#[63]⟩=false):Eh c (fun n=>Bl n M k d) to X:=by
 refine Eh.step (fun n=>Bl.eq_2 (n:=n) _ _ _) ?_
 simp only [CY hk,hf,Á,ê,Ä]
 refine Eh.bind h fun Y hY=>?_
 have e:Au M to ⟨#[63]⟩=some (isS tt ⟨#[63]⟩):=A6 ht
 simp only [e,hq,Á,é,É]
 exact Eh.ok hY
end
section
variable {M:List Ab} {k d to:Int} {t tt:Ab} {X:Aa}
theorem Aeu (h:Eh c (fun n=>B9 n M k d) to X):Eh c (fun n=>Ax n M k 7 d) to X:=by
 refine Eh.step (fun n=>Ax.eq_2 (n:=n) _ _ _ _) ?_
 simp only [show decide ((6:Int)<7)=true from rfl,É]
 exact h.id
def Lp (c:Prop)(lv:Int)(M:List Ab)(d:Int)(x:Aw)(Y:Aa)(to MD:Int)(X2:Aa):Prop :=
 ∃ g,Ev (fun n=>AI n M lv x d Y.Op Y.N Y.S Y.Kids to 0) (.inr g)/\(g.E=2/\¬c∨g.E=0/\g.To=MD/\ET g.X=ET X2)
theorem Ue {lv:Int}(hlv:1<=lv/\lv<=6/\lv≠3)(h:Eh c (fun n=>Ax n M k (lv+1) d) to X){MD:Int}{X2:Aa}
 (hl:∀ x Y,ET Y=ET X->Lp c lv M d x Y to MD X2):Eh c (fun n=>Ax n M k lv d) MD X2:=by
 refine Eh.step (fun n=>Ax.eq_2 (n:=n) _ _ _ _) ?_
 have q1:decide (6<lv)=false:=by rw [Ö];omega
 have q2:(lv == 3)=false:=by simpa using hlv.2.2
 have w:À (lv+1)=lv+1:=by rw [A2]<;>omega
 simp only [q1,q2,Ä,w]
 obtain⟨⟨Y,t,e⟩,hg,hh⟩:=h
 rcases hh with⟨h1,hc⟩|⟨h1,h2,h3⟩
 . cases h1
   refine⟨⟨⟨Y.Op,Y.N,Y.S,Y.Kids,Y.At⟩,t,2⟩,Ev.bind hg ?_,.inl ⟨rfl,hc⟩⟩
   exact Ev.bind (Ev.step (fun n=>AI.eq_2 (n:=n) _ _ _ _ _ _ _ _ _ _) (Ev.of fun n=>rfl)) Ev.pure
 . cases h1;cases h2
   obtain⟨g,h4,h5⟩:=hl ⟨Y,t,0⟩ Y h3
   exact⟨g,Ev.bind hg (Ev.bind h4 Ev.pure),h5⟩
theorem XZ {lv:Int}{x:Aw}{Y:Aa}(hY:ET Y=ET X)(ht:gi M to=some tt)(hn:(IK tt).N≠lv):Lp c lv M d x Y to to X:=by
 refine⟨⟨⟨Y.Op,Y.N,Y.S,Y.Kids,x.X.At⟩,to,0⟩,Ev.step (fun n=>AI.eq_2 (n:=n) _ _ _ _ _ _ _ _ _ _) ?_,.inr ⟨rfl,rfl,?_⟩⟩
 . simp only [è,É]
   refine Ev.bind (QK ht) ?_
   simp only [show ((IK tt).N != lv)=true by simpa using hn,É]
   exact Ev.pure
 . rw [<- hY];cases Y;rfl
theorem Afk {lv MD to3:Int}{x:Aw}{Y X2 X3:Aa}(hM:M.length<=1000000)(hlv:1<=lv/\lv<=6)(hY:ET Y=ET X)(ht:gi M to=some tt)(hn:(IK tt).N=lv)
 (h2:Eh c (fun n=>Ax n M (to+1) (lv+1) d) MD X2) (h4:lv=4->to3=MD/\ET X3=ET ⟨(IK tt).Op,0,⟨#[]⟩,[X,X2],0⟩)
 (h3:lv≠4->∀ Z,ET Z=ET ⟨(IK tt).Op,0,⟨#[]⟩,[X,X2],0⟩->Lp c lv M d x Z MD to3 X3):Lp c lv M d x Y to to3 X3:=by
 have hr:=(As ht).2
 have w1:À (to+1)=to+1:=by rw [A2]<;>omega
 have w2:À (lv+1)=lv+1:=by rw [A2]<;>omega
 have hY2:ET (Aa.mk Y.Op Y.N Y.S Y.Kids x.X.At)=ET X:=by rw [<- hY];cases Y;rfl
 obtain⟨⟨Z,z,e⟩,hz,hh⟩:=h2
 have st:∀ g,Ev (fun n=>(bif (e != 0) then some (.inr ⟨Z,z,e⟩) else
  (bif (lv == 4) then some (.inr ⟨⟨(IK tt).Op,0,⟨#[]⟩,[Aa.mk Y.Op Y.N Y.S Y.Kids x.X.At,Z],x.X.At⟩,z,0⟩)
   else AI n M lv x d (IK tt).Op 0 ⟨#[]⟩ [Aa.mk Y.Op Y.N Y.S Y.Kids x.X.At,Z] z 0):Option ((Int×Int×ByteArray×(List Aa)×Int×Int) ⊕ Aw))) (.inr g)->Ev (fun n=>AI n M lv x d Y.Op Y.N Y.S Y.Kids to 0) (.inr g):=by
  intro g hg
  refine Ev.step (fun n=>AI.eq_2 (n:=n) _ _ _ _ _ _ _ _ _ _) ?_
  simp only [è,É]
  refine Ev.bind (QK ht) ?_
  simp only [show ((IK tt).N != lv)=false by simpa using hn,Ä,w1,w2]
  exact Ev.bind hz hg
 rcases hh with⟨h1,hc⟩|⟨h1,h5,h6⟩
 . cases h1
   exact⟨⟨Z,z,2⟩,st _ Ev.pure,.inl ⟨rfl,hc⟩⟩
 . obtain rfl:e=0:=h1
   obtain rfl:z=MD:=h5
   by_cases q:lv=4
   . obtain⟨rfl,e3⟩:=h4 q
     refine⟨⟨⟨(IK tt).Op,0,⟨#[]⟩,[Aa.mk Y.Op Y.N Y.S Y.Kids x.X.At,Z],x.X.At⟩,to3,0⟩,st _ ?_,.inr ⟨rfl,rfl,(MY (Afd hY2 h6)).trans e3.symm⟩⟩
     simp only [ê,Ä,show (lv == 4)=true by simpa using q,É]
     exact Ev.pure
   . obtain⟨g,hg,hh⟩:=h3 q ⟨(IK tt).Op,0,⟨#[]⟩,[Aa.mk Y.Op Y.N Y.S Y.Kids x.X.At,Z],x.X.At⟩ (MY (Afd hY2 h6))
     refine⟨g,st _ ?_,hh⟩
     simp only [ê,Ä,show (lv == 4)=false by simpa using q]
     exact hg
theorem Ai0 {lv:Int}(hlv:1<=lv/\lv<=6/\lv≠3)(h:Eh c (fun n=>Ax n M k (lv+1) d) to X)(ht:gi M to=some tt)(hn:(IK tt).N≠lv):Eh c (fun n=>Ax n M k lv d) to X :=
 Ue hlv h fun _ _ hY=>XZ hY ht hn
end
section
variable {M:List Ab} {k d to:Int} {t tt:Ab} {X:Aa} (hM:M.length<=1000000) (hk:gi M k=some t)
include hM hk
theorem Aca (hd:0<=d/\d<=1000)(h1:isS t ⟨#[40]⟩=true)(h:Eh c (fun n=>Bl n M (k+1) (d+1)) to X)(ht:gi M to=some tt)(h2:isS tt ⟨#[41]⟩=true):Eh c (fun n=>BB n M k d) (to+1) X:=by
 have hr:=(As hk).2
 have hr2:=(As ht).2
 have w1:À (k+1)=k+1:=by rw [A2]<;>omega
 have w2:À (d+1)=d+1:=by rw [A2]<;>omega
 have w3:À (to+1)=to+1:=by rw [A2]<;>omega
 refine Eh.step (fun n=>BB.eq_2 (n:=n) _ _ _) ?_
 have e:Au M k ⟨#[40]⟩=some (isS t ⟨#[40]⟩):=A6 hk
 have e2:Au M to ⟨#[41]⟩=some (isS tt ⟨#[41]⟩):=A6 ht
 simp only [hk,e,h1,Á,É,w1,w2]
 refine Eh.bind h fun Y hY=>?_
 simp only [e2,h2,Á,à,Ä,w3]
 exact Eh.ok hY
theorem Ahj (hd:0<=d/\d<=1000)(h1:isS t ⟨#[45]⟩=true)(ht:gi M (k+1)=some tt)(hf:fst tt (d+1) false=0)(h:Eh c (fun n=>B9 n M (k+1) (d+1)) to X):Eh c (fun n=>B9 n M k d) to ⟨6,0,⟨#[]⟩,[X],0⟩:=by
 have hr:=(As hk).2
 have w1:À (k+1)=k+1:=by rw [A2]<;>omega
 have w2:À (d+1)=d+1:=by rw [A2]<;>omega
 refine Eh.step (fun n=>B9.eq_2 (n:=n) _ _ _) ?_
 have e:Au M k ⟨#[45]⟩=some (isS t ⟨#[45]⟩):=A6 hk
 simp only [e,h1,Á,à,Ä,w1,w2,CY ht,hf,ê]
 refine Eh.bind h fun Y hY=>?_
 simp only [hk,Á]
 exact Eh.ok (MY (XI hY))
theorem Ahi (hd:0<=d/\d<=1000)(h1:isS t ⟨#[33]⟩=true)(ht:gi M (k+1)=some tt)(hf:fst tt (d+1) true=0)(h:Eh c (fun n=>Ca n M (k+1) (d+1)) to X):Eh c (fun n=>Ca n M k d) to ⟨5,0,⟨#[]⟩,[X],0⟩:=by
 have hr:=(As hk).2
 have w1:À (k+1)=k+1:=by rw [A2]<;>omega
 have w2:À (d+1)=d+1:=by rw [A2]<;>omega
 refine Eh.step (fun n=>Ca.eq_2 (n:=n) _ _ _) ?_
 have e:Au M k ⟨#[33]⟩=some (isS t ⟨#[33]⟩):=A6 hk
 simp only [e,h1,Á,à,Ä,w1,w2,CY ht,hf,ê]
 refine Eh.bind h fun Y hY=>?_
 simp only [hk,Á]
 exact Eh.ok (MY (XI hY))
end
end Go.Sp
namespace Go.Sp
open Go
theorem Iu {t:Ab}{d:Int}{no:Bool}(h:DI t=true∨no=true/\isS t ⟨#[33]⟩=true):fst t d no=if 30<d then 2 else 0:=by
 unfold fst
 rw [È]
 rcases h with h|⟨rfl,h⟩
 . rw [h];simp
 . unfold isS at h;rw [h];simp
section
variable {M:List Ab} {k d z:Int} {t u:Ab} {X:Aa} {c:Prop}
theorem Ud (hk:gi M k=some t)(ht:gi M z=some u) :
 ∀ (m:Nat) (v w:Int),1<=v->w<=7->v+(m:Int)=w->(v<=3->3<w->isS t ⟨#[33]⟩=false)->(∀ a,v<=a->a<w->(IK u).N≠a)->Eh c (fun n=>Ax n M k w d) z X->Eh c (fun n=>Ax n M k v d) z X
 |0,v,w,_,_,e,_,_,h=>by
  obtain rfl:v=w:=by omega
  exact h
 |m+1,v,w,h1,h2,e,hb,hn,h=>by
  have h':=Ud hk ht m (v+1) w (by omega) h2 (by omega) (fun a b=>hb (by omega) b) (fun a a1 b=>hn a (by omega) b) h
  by_cases h3:v=3
  . cases h3;exact Ajo hk (hb (by omega) (by omega)) h'
  . exact Ai0 (by omega) h' ht (hn v (by omega) (by omega))
theorem Uf (hk:gi M k=some t)(hbt:DI t=true∨isS t ⟨#[33]⟩=true)(hd:30<d)(hc:¬c):Eh c (fun n=>Bl n M k d) z X:=by
 refine Eh.step (fun n=>Bl.eq_2 (n:=n) _ _ _) ?_
 have hf:fst t d true=2:=by rw [Iu (hbt.imp id fun h=>⟨rfl,h⟩),Ê hd]
 simp only [CY hk,hf,Á,show ((2:Int) != 0)=true from rfl,É]
 exact Eh.deep rfl hc
structure Rd3 (c:Prop) (M:List Ab) (k d z:Int) (u:Ab) (X:Aa) (L:Int):Prop where
 f:∀ w,1<=w->w<=7->w<=L->(IK u).N<w->Eh c (fun n=>Ax n M k w d) z X
 kk:∀ w,1<=w->w<=6->w≠3->w≠4->w<=L->(IK u).N<=w->∀ MD X2,(∀ x0 Y,ET Y=ET X->Lp c w M d x0 Y z MD X2)->Eh c (fun n=>Ax n M k w d) MD X2
 e:(IK u).N=0->isS u ⟨#[63]⟩=false->(c->d<=30)->Eh c (fun n=>Bl n M k d) z X
theorem Rd3.mono {L L':Int}(h:Rd3 c M k d z u X L)(hl:L'<=L):Rd3 c M k d z u X L' :=
 ⟨fun w a b e=>h.f w a b (by omega),fun w a b e1 e2 e=>h.kk w a b e1 e2 (by omega),h.e⟩
theorem Oz {L L':Int}(hk:gi M k=some t)(hu:gi M z=some u)(hL:1<=L/\L<=7)(hL2:L'=L∨L=7/\7<=L')(hbt:DI t=true∨isS t ⟨#[33]⟩=true)(hb:4<=L->isS t ⟨#[33]⟩=false)
 (hF:(IK u).N<L->Eh c (fun n=>Ax n M k L d) z X)
 (hK:L<=6->L≠3->L≠4->(IK u).N<=L->∀ MD X2,(∀ x0 Y,ET Y=ET X->Lp c L M d x0 Y z MD X2)->Eh c (fun n=>Ax n M k L d) MD X2):Rd3 c M k d z u X L':=by
 have f:∀ w,1<=w->w<=7->w<=L'->(IK u).N<w->Eh c (fun n=>Ax n M k w d) z X:=by
  intro w w1 w7 wlT hn
  have wl2:w<=L:=by omega
  exact Ud hk hu (L-w).toNat w L w1 hL.2 (by omega) (fun _ h=>hb (by omega)) (fun a a1 _=>by omega) (hF (by omega))
 refine⟨f,fun w w1 w6 w3 w4 wlT hn MD X2 hc=>?_,fun hn hq hd=>?_⟩
 . by_cases hw:w=L
   . subst hw;exact hK w6 w3 w4 hn MD X2 hc
   . exact Ue ⟨w1,w6,w3⟩ (f (w+1) (by omega) (by omega) (by omega) (by omega)) hc
 . by_cases h30:30<d
   . exact Uf hk hbt h30 fun hc=>by have:=hd hc;omega
   . have f1:Eh c (fun n=>Ax n M k 1 d) z X:=Ud hk hu (L-1).toNat 1 L (by omega) hL.2 (by omega) (fun _ h=>hb (by omega)) (fun a a1 _=>by omega) (hF (by omega))
     exact Aes hk (by rw [Iu (hbt.imp id fun h=>⟨rfl,h⟩),È h30]) f1 hu hq
theorem Ae1 (h:Eh c (fun n=>Ax n M k 3 d) z X):Eh c (fun n=>Ca n M k d) z X:=by
 obtain⟨g,⟨N,hN⟩,hg⟩:=h
 refine⟨g,⟨N,fun n hn=>?_⟩,hg⟩
 have h1:=(Ax.eq_2 (n:=n) M k 3 d).symm.trans (hN (n+1) (by omega))
 simp only [show decide ((6:Int)<3)=false from rfl,show ((3:Int) == 3)=true from rfl,Ä,É] at h1
 obtain⟨b,hb,h1⟩:=Ad h1
 show Ca n M k d=some g
 rw [hb];exact h1
theorem Aa3 (h:Eh c (fun n=>Ax n M k 7 d) z X):Eh c (fun n=>B9 n M k d) z X:=by
 obtain⟨g,⟨N,hN⟩,hg⟩:=h
 refine⟨g,⟨N,fun n hn=>?_⟩,hg⟩
 have h1:=(Ax.eq_2 (n:=n) M k 7 d).symm.trans (hN (n+1) (by omega))
 simp only [show decide ((6:Int)<7)=true from rfl,É] at h1
 obtain⟨b,hb,h1⟩:=Ad h1
 show B9 n M k d=some g
 rw [hb];exact h1
theorem Ae0 (h:Eh c (fun n=>Ca n M k d) z X):Eh c (fun n=>Ax n M k 3 d) z X:=by
 refine Eh.step (fun n=>Ax.eq_2 (n:=n) _ _ _ _) ?_
 simp only [show decide ((6:Int)<3)=false from rfl,show ((3:Int) == 3)=true from rfl,Ä,É]
 exact h.id
end
def Main (x:Aa):Prop:=∀ (c:Prop) (M:List Ab) (k d:Int) (u:Ab),MA M->0<=d->d<=31->Has M k (Cz x)->gi M (k+((Cz x).length:Int))=some u->isS u ⟨#[40]⟩=false->(c->H0 x d) ->
 Rd3 c M k d (k+((Cz x).length:Int)) u (nE x) (lvl x.Op)
theorem CX {M:List Ab}{k:Int}{s:Â}{r:List Ab}(h:Has M k (tS s::r)):∃ t,gi M k=some t/\(∀ x,isS t x=decide (s=x))/\IK t=IK (tS s)/\DI t=DI (tS s)/\Has M (k+1) r:=by
 obtain⟨⟨t,ht,h1,h2,_⟩,h3⟩:=h
 exact⟨t,ht,fun x=>HP h1 h2 x,Aa6 h1 h2,R2 h1 h2,h3⟩
theorem Iz {M:List Ab}{k:Int}{x:Aa}(hw:Wf x)(h:Has M k (Cz x)):∃ t,gi M k=some t/\(DI t=true∨isS t ⟨#[33]⟩=true)/\(4<=lvl x.Op->isS t ⟨#[33]⟩=false)/\(8<=lvl x.Op->isS t ⟨#[45]⟩=false):=by
 obtain⟨t,r,e,h1,h2,h3⟩:=YM hw
 rw [e] at h
 obtain⟨⟨u,hu,e1,e2,_⟩,_⟩:=h
 exact⟨u,hu,by rw [R2 e1 e2,HP e1 e2];exact h1,fun h=>by rw [HP e1 e2];exact h2 h,fun h=>by rw [HP e1 e2];exact h3 h⟩
theorem NV {M:List Ab}{k need:Int}{x:Aa}(hw:Wf x)(h:Has M k (wrp need (lvl x.Op,Cz x))):∃ t,gi M k=some t/\(DI t=true∨isS t ⟨#[33]⟩=true)/\(4<=need->isS t ⟨#[33]⟩=false):=by
 unfold wrp at h
 split at h
 . rename_i hn
   obtain⟨t,ht,h1,h2,_⟩:=Iz hw h
   exact⟨t,ht,h1,fun h=>h2 (by simp only at hn;omega)⟩
 . obtain⟨t,ht,h1,_,h2,_⟩:=CX h
   exact⟨t,ht,.inl (by rw [h2];rfl),fun _=>by rw [h1];rfl⟩
theorem Aan {x:Aa}(hw:Wf x)(hx:Main x){need:Int}(hn:need<=8){c:Prop}{M:List Ab}{k d:Int}{u:Ab}(hM:MA M)(hd:0<=d/\d<=31)(h:Has M k (wrp need (lvl x.Op,Cz x)))
 (hu:gi M (k+((wrp need (lvl x.Op,Cz x)).length:Int))=some u) (h40:isS u ⟨#[40]⟩=false) (hc:c->PE need (lvl x.Op,H0 x) d) :
 Rd3 c M k d (k+((wrp need (lvl x.Op,Cz x)).length:Int)) u (nE x) need:=by
 unfold PE at hc
 unfold wrp at h hu ⊢
 split
 . rename_i h1
   rw [Ê h1] at h hu
   exact (hx c M k d u hM hd.1 hd.2 h hu h40 fun q=>by have:=hc q;rw [Ê h1] at this;exact this).mono h1
 . rename_i h1
   rw [È h1] at h hu
   obtain⟨t,ht,s1,_,s3,h⟩:=CX h
   obtain⟨h,h'⟩:=F3 h
   obtain⟨v,hv,v1,v2,_⟩:=CX h'
   have hc2:c->d+1<=30/\H0 x (d+1):=fun q=>by have:=hc q;rw [È h1] at this;exact this
   have eE:Eh c (fun n=>Bl n M (k+1) (d+1)) (k+1+((Cz x).length:Int)) (nE x):=by
    by_cases h30:30<d+1
    . obtain⟨t1,ht1,b1,_⟩:=Iz hw h
      exact Uf ht1 b1 h30 fun q=>by have:=(hc2 q).1;omega
    . exact (hx c M (k+1) (d+1) v hM (by omega) (by omega) h hv (by rw [v1];rfl) fun q=>(hc2 q).2).e (by rw [v2];rfl) (by rw [v1];rfl) fun q=>(hc2 q).1
   have eA:=Aca hM.len ht (by omega) (by rw [s1];rfl) eE hv (by rw [v1];rfl)
   have e7:=Aeu (Rq ht (by rw [s1];rfl) eA)
   have el:k+((tS ⟨#[40]⟩::(Cz x++[tS ⟨#[41]⟩])).length:Int)=k+1+((Cz x).length:Int)+1:=by
    simp only [Æ,Ç,Î];omega
   simp only at hu ⊢
   rw [el] at hu ⊢
   exact (Oz (L:=7) (L':=8) ht hu (by omega) (.inr ⟨rfl,by omega⟩) (.inl (by rw [s3];rfl)) (fun _=>by rw [s1];rfl) (fun _=>e7) (fun h=>by omega)).mono hn
end Go.Sp
namespace Go.Sp
open Go
theorem It {t:Ab}(h:t.Kind≠4)(s:Â):isS t s=false:=by
 unfold isS
 rw [show (t.Kind == 4)=false by simpa using h];rfl
theorem Eh.to {c:Prop}{F:Nat->Option Aw}{z:Int}{X X':Aa}(h:Eh c F z X)(e:ET X=ET X'):Eh c F z X':=by
 obtain⟨g,hg,hh⟩:=h
 exact⟨g,hg,hh.imp (fun h=>h) fun h=>⟨h.1,h.2.1,h.2.2.trans e⟩⟩
section
variable {M:List Ab} {k d z:Int} {t u:Ab} {X:Aa} {c:Prop} (hM:M.length<=1000000) (hk:gi M k=some t)
include hM hk
theorem Ahh (h:t.Kind=2):Eh c (fun n=>BB n M k d) (k+1) ⟨1,t.N,⟨#[]⟩,[],0⟩:=by
 have hr:=(As hk).2
 have w1:À (k+1)=k+1:=by rw [A2]<;>omega
 refine Eh.step (fun n=>BB.eq_2 (n:=n) _ _ _) ?_
 have e:Au M k ⟨#[40]⟩=some (isS t ⟨#[40]⟩):=A6 hk
 rw [It (by rw [h];decide)] at e
 simp only [hk,e,h,Á,Ä,show ((2:Int) == 2)=true from rfl,É,w1]
 exact Eh.ok rfl
theorem Aeq (h:t.Kind=3):Eh c (fun n=>BB n M k d) (k+1) ⟨2,0,t.S,[],0⟩:=by
 have hr:=(As hk).2
 have w1:À (k+1)=k+1:=by rw [A2]<;>omega
 refine Eh.step (fun n=>BB.eq_2 (n:=n) _ _ _) ?_
 have e:Au M k ⟨#[40]⟩=some (isS t ⟨#[40]⟩):=A6 hk
 rw [It (by rw [h];decide)] at e
 simp only [hk,e,h,Á,Ä,show ((3:Int) == 2)=false from rfl,show ((3:Int) == 3)=true from rfl,É,w1]
 exact Eh.ok rfl
theorem Aer (h:t.Kind=1)(hu:gi M (k+1)=some u)(h40:isS u ⟨#[40]⟩=false):Eh c (fun n=>BB n M k d) (k+1) ⟨3,0,t.S,[],0⟩:=by
 have hr:=(As hk).2
 have w1:À (k+1)=k+1:=by rw [A2]<;>omega
 refine Eh.step (fun n=>BB.eq_2 (n:=n) _ _ _) ?_
 have e:Au M k ⟨#[40]⟩=some (isS t ⟨#[40]⟩):=A6 hk
 have e2:Au M (k+1) ⟨#[40]⟩=some (isS u ⟨#[40]⟩):=A6 hu
 rw [It (by rw [h];decide)] at e
 simp only [hk,e,h,Á,Ä,show ((1:Int) == 2)=false from rfl,show ((1:Int) == 3)=false from rfl,show ((1:Int) != 1)=false from rfl,w1,e2,h40,é,É]
 exact Eh.ok rfl
theorem Aet (h:t.Kind=1)(hu:gi M (k+1)=some u)(h40:isS u ⟨#[40]⟩=true)(ha:Eh c (fun n=>Dy n M k d) z X):Eh c (fun n=>BB n M k d) z X:=by
 have hr:=(As hk).2
 have w1:À (k+1)=k+1:=by rw [A2]<;>omega
 refine Eh.step (fun n=>BB.eq_2 (n:=n) _ _ _) ?_
 have e:Au M k ⟨#[40]⟩=some (isS t ⟨#[40]⟩):=A6 hk
 have e2:Au M (k+1) ⟨#[40]⟩=some (isS u ⟨#[40]⟩):=A6 hu
 rw [It (by rw [h];decide)] at e
 simp only [hk,e,h,Á,Ä,show ((1:Int) == 2)=false from rfl,show ((1:Int) == 3)=false from rfl,show ((1:Int) != 1)=false from rfl,w1,e2,h40,à]
 exact ha.id
theorem Acd (hu:gi M (k+2)=some u)(h41:isS u ⟨#[41]⟩=true):Eh c (fun n=>Dy n M k d) (k+3) ⟨4,0,t.S,[],0⟩:=by
 have hr:=(As hk).2
 have w1:À (k+2)=k+2:=by rw [A2]<;>omega
 have w2:À (k+2+1)=k+3:=by rw [A2]<;>omega
 refine Eh.step (fun n=>Dy.eq_2 (n:=n) _ _ _) ?_
 have e:Au M (k+2) ⟨#[41]⟩=some (isS u ⟨#[41]⟩):=A6 hu
 simp only [hk,Á,w1,e,h41,É,w2]
 exact Eh.ok rfl
theorem Acb (hu:gi M (k+2)=some u)(h41:isS u ⟨#[41]⟩=false)(ha:Eh c (fun n=>BU n M d t (k+2) []) z X):Eh c (fun n=>Dy n M k d) z X:=by
 have hr:=(As hk).2
 have w1:À (k+2)=k+2:=by rw [A2]<;>omega
 refine Eh.step (fun n=>Dy.eq_2 (n:=n) _ _ _) ?_
 have e:Au M (k+2) ⟨#[41]⟩=some (isS u ⟨#[41]⟩):=A6 hu
 simp only [hk,Á,w1,e,h41,Ä]
 exact ha
end
theorem MB (op:Int)(ts:List Ab):wrp 0 (lvl op,ts)=ts:=Ê (O8 op).1
theorem Acm {t:Ab}(h:DI t=true∨isS t ⟨#[33]⟩=true):isS t ⟨#[41]⟩=false:=by
 cases e:isS t ⟨#[41]⟩ with
 |false=>rfl
 |true =>
  unfold isS at e
  simp only [Ã,ó,Í] at e
  unfold DI isS at h
  rw [e.1,e.2] at h
  exact absurd h (by decide)
theorem Z1 {c:Prop}{M:List Ab}{d:Int}{t:Ab}(hM:MA M)(hd:0<=d/\d<=31) :
 ∀ (l:List Aa) (x:Aa) (out:List Aa) (p:Int),(∀ y∈x::l,Wf y/\Main y)->out.length<=40->(c->out.length+(l.length+1)<=40/\d+1<=30/\∀ y∈x::l,H0 y (d+1)) ->
  Has M p (Cz x++(sepR (FV l)++[tS ⟨#[41]⟩]))->Eh c (fun n=>BU n M d t p out) (p+((Cz x).length:Int)+((sepR (FV l)).length:Int)+1) ⟨4,0,t.S,out++nL (x::l),0⟩:=by
 intro l
 induction l with
 |nil =>
  intro x out p hy ho hc h
  obtain⟨wx,mx⟩:=hy x (.head _)
  obtain⟨hx,h⟩:=F3 h
  obtain⟨t0,ht0,b0,_⟩:=Iz wx hx
  obtain⟨v,hv,v1,v2,_⟩:=CX (s:=⟨#[41]⟩) (r:=[]) h
  have hr:=(As hv).2
  have hl:=hM.len
  have w2:À (d+1)=d+1:=by rw [A2]<;>omega
  have w3:À (p+((Cz x).length:Int)+1)=p+((Cz x).length:Int)+1:=by rw [A2]<;>omega
  have e1:Au M (p+((Cz x).length:Int)) ⟨#[41]⟩=some (isS v ⟨#[41]⟩):=A6 hv
  refine Eh.step (fun n=>BU.eq_2 (n:=n) _ _ _ _ _) ?_
  simp only [w2,CY ht0,Á,Iu (no:=true) (b0.imp id fun h=>⟨rfl,h⟩)]
  by_cases h30:30<d+1
  . rw [Ê h30]
    exact Eh.deep rfl fun q=>by have:=(hc q).2.1;omega
  rw [È h30]
  by_cases h40:out.length=40
  . simp only [è,É,h40,show (((40:Nat):Int) == 40)=true from rfl,Á]
    exact Eh.deep rfl fun q=>by have:=(hc q).1;omega
  have g4:((out.length:Int) == 40)=false:=by
   rw [ñ];omega
  simp only [è,É,g4,show ((0:Int) == 2)=false from rfl,Ä,Á]
  refine Eh.bind ((mx c M p (d+1) v hM (by omega) (by omega) hx hv (by rw [v1];rfl) fun q=>(hc q).2.2 x (.head _)).e (by rw [v2];rfl) (by rw [v1];rfl) fun q=>(hc q).2.1) fun Y hY=>?_
  have g5:B4 65 out [Y]=some (out++[Y]):=by unfold B4;rw [Ê (by simp only [Æ,Î];omega)]
  simp only [g5,Á,e1,v1,ø,É,w3]
  rw [show (sepR (FV ([]:List Aa))).length=0 from rfl,show p+((Cz x).length:Int)+((0:Nat):Int)+1=p+((Cz x).length:Int)+1 by omega]
  exact Eh.ok (MY (by rw [Mi,Mi];exact ü (JX out++·) (XI (x:=nE x) hY)))
 |cons x2 l ih =>
  intro x out p hy ho hc h
  obtain⟨wx,mx⟩:=hy x (.head _)
  obtain⟨hx,h⟩:=F3 h
  have h:Has M (p+((Cz x).length:Int)) (tS ⟨#[44]⟩::(wrp 0 (lvl x2.Op,Cz x2)++sepR (FV l)++[tS ⟨#[41]⟩])):=h
  obtain⟨t0,ht0,b0,_⟩:=Iz wx hx
  obtain⟨v,hv,v1,v2,_,h⟩:=CX h
  rw [MB,Ý] at h
  have hr:=(As hv).2
  have hl:=hM.len
  have w2:À (d+1)=d+1:=by rw [A2]<;>omega
  have w3:À (p+((Cz x).length:Int)+1)=p+((Cz x).length:Int)+1:=by rw [A2]<;>omega
  have e1:Au M (p+((Cz x).length:Int)) ⟨#[41]⟩=some (isS v ⟨#[41]⟩):=A6 hv
  have e2:Au M (p+((Cz x).length:Int)) ⟨#[44]⟩=some (isS v ⟨#[44]⟩):=A6 hv
  refine Eh.step (fun n=>BU.eq_2 (n:=n) _ _ _ _ _) ?_
  simp only [w2,CY ht0,Á,Iu (no:=true) (b0.imp id fun h=>⟨rfl,h⟩)]
  by_cases h30:30<d+1
  . rw [Ê h30]
    exact Eh.deep rfl fun q=>by have:=(hc q).2.1;omega
  rw [È h30]
  by_cases h40:out.length=40
  . simp only [è,É,h40,show (((40:Nat):Int) == 40)=true from rfl,Á]
    exact Eh.deep rfl fun q=>by have:=(hc q).1;omega
  have g4:((out.length:Int) == 40)=false:=by
   rw [ñ];omega
  simp only [è,É,g4,show ((0:Int) == 2)=false from rfl,Ä,Á]
  refine Eh.bind ((mx c M p (d+1) v hM (by omega) (by omega) hx hv (by rw [v1];rfl) fun q=>(hc q).2.2 x (.head _)).e (by rw [v2];rfl) (by rw [v1];rfl) fun q=>(hc q).2.1) fun Y hY=>?_
  have g5:B4 65 out [Y]=some (out++[Y]):=by unfold B4;rw [Ê (by simp only [Æ,Î];omega)]
  simp only [g5,Á,e1,e2,v1,show decide ((⟨#[44]⟩:Â)=⟨#[41]⟩)=false from rfl,ø,Ä,à,w3]
  have:=ih x2 (out++[Y]) (p+((Cz x).length:Int)+1) (fun y h=>hy y (.tail _ h)) (by simp only [Ç,Æ,Î];omega)
   (fun q=>by
    obtain⟨q1,q2,q3⟩:=hc q
    simp only [Æ] at q1
    exact⟨by simp only [Ç,Æ,Î];omega,q2,fun y h=>q3 y (.tail _ h)⟩) h
  have el:p+((Cz x).length:Int)+((sepR (FV (x2::l))).length:Int)+1=p+((Cz x).length:Int)+1+((Cz x2).length:Int)+((sepR (FV l)).length:Int)+1:=by
   have:(sepR (FV (x2::l))).length=(Cz x2).length+(sepR (FV l)).length+1:=by
    show (tS ⟨#[44]⟩::(wrp 0 (lvl x2.Op,Cz x2)++sepR (FV l))).length=_
    rw [MB,Æ,Ç]
   omega
  rw [el]
  refine this.to (MY ?_)
  rw [Mi,Mi,Mi,Ý,XI hY];rfl
theorem Mj (x:Aa)(l:List Aa):sep (FV (x::l))=Cz x++sepR (FV l):=by
 show wrp 0 (lvl x.Op,Cz x)++sepR (FV l)=_
 rw [MB]
theorem Abu {l:List Aa}{x:Aa}(h:x∈l):(lvl x.Op,H0 x)∈VN l:=by
 induction l with
 |nil=>cases h
 |cons y l ih =>
  rcases List.mem_cons.1 h with rfl|h
  . exact .head _
  . exact .tail _ (ih h)
theorem VM:∀ l:List Aa,(VN l).length=l.length
 | []=>rfl
 |x::l=>by show (VN l).length+1=_;rw [VM l];rfl
end Go.Sp
namespace Go.Sp
open Go
theorem V2 {α:Type}(a:α)(l:List α)(k:Int):k+((a::l).length:Int)=k+1+(l.length:Int):=by rw [Æ];omega
theorem Ad7 {α:Type}(a b:List α)(k:Int):k+((a++b).length:Int)=k+(a.length:Int)+(b.length:Int):=by rw [Ç];omega
theorem Aav {x:Aa}(n:Int)(s:Â)(p:Int)(hw:Wf x)(hx:Main x):Main ⟨5,n,s,[x],p⟩:=by
 intro c M k d u hM d0 d1 h hu h40 hc
 have h:Has M k (tS ⟨#[33]⟩::wrp 3 (lvl x.Op,Cz x)):=h
 have hc:c->d+1<=30/\PE 3 (lvl x.Op,H0 x) (d+1):=hc
 have hu:gi M (k+((tS ⟨#[33]⟩::wrp 3 (lvl x.Op,Cz x)).length:Int))=some u:=hu
 show Rd3 c M k d (k+((tS ⟨#[33]⟩::wrp 3 (lvl x.Op,Cz x)).length:Int)) u (nE ⟨5,n,s,[x],p⟩) 3
 rw [V2] at hu ⊢
 obtain⟨t,ht,s1,_,_,h⟩:=CX h
 obtain⟨tt,htt,b0,_⟩:=NV hw h
 refine Oz (L:=3) ht hu (by omega) (.inl rfl) (.inr (by rw [s1];rfl)) (fun h=>by omega) (fun hn=>?_) (fun _ h=>absurd rfl h)
 refine Ae0 ?_
 by_cases h30:30<d+1
 . have hr:=(As ht).2
   have hl:=hM.len
   have w1:À (k+1)=k+1:=by rw [A2]<;>omega
   have w2:À (d+1)=d+1:=by rw [A2]<;>omega
   refine Eh.step (fun n=>Ca.eq_2 (n:=n) _ _ _) ?_
   have e:Au M k ⟨#[33]⟩=some (isS t ⟨#[33]⟩):=A6 ht
   simp only [e,s1,ø,Á,à,Ä,w1,w2,CY htt,Iu (no:=true) (b0.imp id fun h=>⟨rfl,h⟩),Ê h30,show ((2:Int) != 0)=true from rfl,É]
   exact Eh.deep rfl fun q=>by have:=(hc q).1;omega
 . refine Ahi hM.len ht (by omega) (by rw [s1];rfl) htt (by rw [Iu (b0.imp id fun h=>⟨rfl,h⟩),È h30]) (Ae1 ?_)
   exact (Aan hw hx (by omega) hM ⟨by omega,by omega⟩ h hu h40 fun q=>(hc q).2).f 3 (by omega) (by omega) (by omega) hn
theorem Aax {x:Aa}(n:Int)(s:Â)(p:Int)(hw:Wf x)(hx:Main x):Main ⟨6,n,s,[x],p⟩:=by
 intro c M k d u hM d0 d1 h hu h40 hc
 have h:Has M k (tS ⟨#[45]⟩::wrp 7 (lvl x.Op,Cz x)):=h
 have hc:c->d+1<=30/\PE 7 (lvl x.Op,H0 x) (d+1):=hc
 have hu:gi M (k+((tS ⟨#[45]⟩::wrp 7 (lvl x.Op,Cz x)).length:Int))=some u:=hu
 show Rd3 c M k d (k+((tS ⟨#[45]⟩::wrp 7 (lvl x.Op,Cz x)).length:Int)) u (nE ⟨6,n,s,[x],p⟩) 7
 rw [V2] at hu ⊢
 obtain⟨t,ht,s1,_,s3,h⟩:=CX h
 obtain⟨tt,htt,b0,b1⟩:=NV hw h
 have b2:DI tt=true:=b0.resolve_right (by rw [b1 (by omega)];decide)
 refine Oz (L:=7) ht hu (by omega) (.inl rfl) (.inl (by rw [s3];rfl)) (fun h=>by rw [s1];rfl) (fun hn=>?_) (fun h=>by omega)
 refine Aeu ?_
 by_cases h30:30<d+1
 . have hr:=(As ht).2
   have hl:=hM.len
   have w1:À (k+1)=k+1:=by rw [A2]<;>omega
   have w2:À (d+1)=d+1:=by rw [A2]<;>omega
   refine Eh.step (fun n=>B9.eq_2 (n:=n) _ _ _) ?_
   have e:Au M k ⟨#[45]⟩=some (isS t ⟨#[45]⟩):=A6 ht
   simp only [e,s1,ø,Á,à,Ä,w1,w2,CY htt,Iu (no:=false) (.inl b2),Ê h30,show ((2:Int) != 0)=true from rfl,É]
   exact Eh.deep rfl fun q=>by have:=(hc q).1;omega
 . refine Ahj hM.len ht (by omega) (by rw [s1];rfl) htt (by rw [Iu (.inl b2),È h30]) (Aa3 ?_)
   exact (Aan hw hx (by omega) hM ⟨by omega,by omega⟩ h hu h40 fun q=>(hc q).2).f 7 (by omega) (by omega) (by omega) hn
theorem Aba {x y z:Aa}(n:Int)(s:Â)(p:Int)(wx:Wf x)(mx:Main x)(wy:Wf y)(my:Main y)(wz:Wf z)(mz:Main z):Main ⟨20,n,s,[x,y,z],p⟩:=by
 intro c M k d u hM d0 d1 h hu h40 hc
 have e0:Cz ⟨20,n,s,[x,y,z],p⟩=wrp 1 (lvl x.Op,Cz x)++(tS ⟨#[63]⟩::(Cz y++(tS ⟨#[58]⟩::Cz z))):=by
  show wrp 1 (lvl x.Op,Cz x)++(tS ⟨#[63]⟩::(wrp 0 (lvl y.Op,Cz y)++(tS ⟨#[58]⟩::wrp 0 (lvl z.Op,Cz z))))=_
  rw [MB,MB]
 have w0:∀ {x:Aa} {d:Int},PE 0 (lvl x.Op,H0 x) d->H0 x d:=fun {x d} h=>by unfold PE at h;rw [Ê (O8 _).1] at h;exact h
 have hc:c->PE 1 (lvl x.Op,H0 x) d/\d+1<=30/\H0 y (d+1)/\H0 z (d+1):=fun q=>by
  have h:PE 1 (lvl x.Op,H0 x) d/\d+1<=30/\PE 0 (lvl y.Op,H0 y) (d+1)/\PE 0 (lvl z.Op,H0 z) (d+1):=hc q
  exact⟨h.1,h.2.1,w0 h.2.2.1,w0 h.2.2.2⟩
 rw [e0] at h hu ⊢
 rw [Ad7,V2,Ad7,V2] at hu ⊢
 obtain⟨hx,h⟩:=F3 h
 obtain⟨t1,ht1,a1,a2,_,h⟩:=CX h
 obtain⟨hy,h⟩:=F3 h
 obtain⟨t2,ht2,c1,c2,_,hz⟩:=CX h
 obtain⟨t,ht,b0,_⟩:=NV wx hx
 refine⟨fun w w1 _ w3=>absurd w3 (by show ¬ w<=0;omega),fun w w1 _ _ _ w3=>absurd w3 (by show ¬ w<=0;omega),fun hn hq hd=>?_⟩
 by_cases h30:30<d
 . exact Uf ht b0 h30 fun q=>by have:=hd q;omega
 have hr1:=(As ht1).2
 have hr2:=(As ht2).2
 have hl:=hM.len
 have w2:À (d+1)=d+1:=by rw [A2]<;>omega
 have w3:À (k+((wrp 1 (lvl x.Op,Cz x)).length:Int)+1)=k+((wrp 1 (lvl x.Op,Cz x)).length:Int)+1:=by rw [A2]<;>omega
 have w4:À (k+((wrp 1 (lvl x.Op,Cz x)).length:Int)+1+((Cz y).length:Int)+1)=k+((wrp 1 (lvl x.Op,Cz x)).length:Int)+1+((Cz y).length:Int)+1:=by rw [A2]<;>omega
 have e1:Au M (k+((wrp 1 (lvl x.Op,Cz x)).length:Int)) ⟨#[63]⟩=some (isS t1 ⟨#[63]⟩):=A6 ht1
 have e2:Au M (k+((wrp 1 (lvl x.Op,Cz x)).length:Int)+1+((Cz y).length:Int)) ⟨#[58]⟩=some (isS t2 ⟨#[58]⟩):=A6 ht2
 refine Eh.step (fun n=>Bl.eq_2 (n:=n) _ _ _) ?_
 simp only [CY ht,Iu (no:=true) (b0.imp id fun h=>⟨rfl,h⟩),È h30,Á,ê,Ä]
 refine Eh.bind ((Aan wx mx (by omega) hM ⟨d0,d1⟩ hx ht1 (by rw [a1];rfl) fun q=>(hc q).1).f 1 (by omega) (by omega) (by omega) (by rw [a2];decide)) fun X hX=>?_
 simp only [e1,a1,ø,Á,à,Ä,w2,w3]
 have sub:∀ {x:Aa} {k:Int} {u:Ab},Wf x->Main x->Has M k (Cz x)->gi M (k+((Cz x).length:Int))=some u->isS u ⟨#[40]⟩=false->(IK u).N=0->isS u ⟨#[63]⟩=false->(c->d+1<=30/\H0 x (d+1)) ->
  Eh c (fun n=>Bl n M k (d+1)) (k+((Cz x).length:Int)) (nE x):=by
  intro x k u wx mx hx hu h40 hl hq hc
  by_cases h31:30<d+1
  . obtain⟨t,ht,b0,_⟩:=Iz wx hx
    exact Uf ht b0 h31 fun q=>by have:=(hc q).1;omega
  . exact (mx c M k (d+1) u hM (by omega) (by omega) hx hu h40 fun q=>(hc q).2).e hl hq fun q=>(hc q).1
 refine Eh.bind (sub wy my hy ht2 (by rw [c1];rfl) (by rw [c2];rfl) (by rw [c1];rfl) fun q=>⟨(hc q).2.1,(hc q).2.2.1⟩) fun Y hY=>?_
 simp only [e2,c1,ø,Á,à,Ä,w4]
 refine Eh.bind (sub wz mz hz hu h40 hn hq fun q=>⟨(hc q).2.1,(hc q).2.2.2⟩) fun Z hZ=>?_
 exact Eh.ok (MY (Ah3 hX hY hZ))
theorem Acl {b:Ar}(hb:b∈GF){x y:Aa}(n:Int)(s:Â)(p:Int)(wx:Wf x)(mx:Main x)(wy:Wf y)(my:Main y):Main ⟨b.op,n,s,[x,y],p⟩:=by
 intro c M k d u hM d0 d1 h hu h40 hc
 obtain⟨_,f2,f3,_,_,_,_,_,_,_,_,f4,f5⟩:=Hw hb
 rw [XO hb] at h hu ⊢
 rw [Agj hb,show lvl (Aa.mk b.op n s [x,y] p).Op=b.level from f2]
 have hc:c->PE (lf b.level) (lvl x.Op,H0 x) d/\PE (b.level+1) (lvl y.Op,H0 y) d:=fun q=>by have:=hc q;rw [Ael hb] at this;exact this
 rw [Ad7,V2] at hu ⊢
 obtain⟨hx,h⟩:=F3 h
 obtain⟨t1,ht1,a1,a2,_,hy⟩:=CX h
 obtain⟨t,ht,b0,b1⟩:=NV wx hx
 have lv1:(IK t1).N=b.level:=by rw [a2,f4]
 have lo1:(IK t1).Op=b.op:=by rw [a2,f4]
 have lfr:lf b.level=b.level/\b.level≠4∨lf b.level=5/\b.level=4:=by unfold lf;split<;>omega
 have L:=Aan wx mx (need:=lf b.level) (by omega) hM ⟨d0,d1⟩ hx ht1 (by rw [a1];rw [<- f5];unfold isS tS;rfl) fun q=>(hc q).1
 have R:=Aan wy my (need:=b.level+1) (by omega) hM ⟨d0,d1⟩ hy hu h40 fun q=>(hc q).2
 have hK:b.level≠4->(IK u).N<=b.level->∀ MD X2,(∀ x0 Y,ET Y=ET ⟨b.op,0,⟨#[]⟩,[nE x,nE y],0⟩->Lp c b.level M d x0 Y (k+((wrp (lf b.level) (lvl x.Op,Cz x)).length:Int)+1+((wrp (b.level+1) (lvl y.Op,Cz y)).length:Int)) MD X2) ->
  Eh c (fun n=>Ax n M k b.level d) MD X2:=by
  intro h4 hn MD X2 cont
  refine L.kk b.level (by omega) (by omega) (by omega) h4 (by omega) (by omega) MD X2 fun x0 Y hY=>?_
  refine Afk hM.len ⟨by omega,by omega⟩ hY ht1 lv1 (R.f (b.level+1) (by omega) (by omega) (by omega) (by omega)) (fun q=>absurd q h4) fun _ Z hZ=>?_
  rw [lo1] at hZ
  exact cont x0 Z hZ
 refine Oz (L:=b.level) ht hu (by omega) (.inl rfl) b0 (fun h=>b1 (by omega)) (fun hn=>?_) fun _ _ h4 hn MD X2 cont=>hK h4 hn MD X2 cont
 by_cases h4:b.level=4
 . have F5:=L.f 5 (by omega) (by omega) (by omega) (by omega)
   refine Ue (lv:=b.level) ⟨by omega,by omega,by omega⟩ (by rw [h4];exact F5) fun x0 Y hY=>?_
   exact Afk hM.len ⟨by omega,by omega⟩ hY ht1 lv1 (R.f (b.level+1) (by omega) (by omega) (by omega) (by omega)) (fun _=>⟨rfl,by rw [lo1]⟩) fun q=>absurd h4 q
 . exact hK h4 (by omega) _ _ fun x0 Y hY=>XZ hY hu (by omega)
theorem Zw (n:Int)(s:Â)(l:List Aa)(p:Int)(hl:∀ x∈l,Wf x/\Main x):Main ⟨4,n,s,l,p⟩:=by
 intro c M k d u hM d0 d1 h hu h40 hc
 have h:Has M k (⟨1,0,s,0⟩::tS ⟨#[40]⟩::(sep (FV l)++[tS ⟨#[41]⟩])):=h
 have hu:gi M (k+((⟨1,0,s,0⟩::tS ⟨#[40]⟩::(sep (FV l)++[tS ⟨#[41]⟩]):List Ab).length:Int))=some u:=hu
 show Rd3 c M k d (k+((⟨1,0,s,0⟩::tS ⟨#[40]⟩::(sep (FV l)++[tS ⟨#[41]⟩]):List Ab).length:Int)) u ⟨4,0,s,nL l,0⟩ 8
 have hc:c->(VN l).length<=40/\∀ p∈VN l,d+1<=30/\PE 0 p (d+1):=hc
 obtain⟨⟨t,ht,k1,k2,_⟩,h⟩:=h
 obtain⟨v,hv,v1,_,_,h⟩:=CX h
 have hs:t.S=s:=k2
 have ea:Eh c (fun n=>Dy n M k d) (k+((⟨1,0,s,0⟩::tS ⟨#[40]⟩::(sep (FV l)++[tS ⟨#[41]⟩]):List Ab).length:Int)) ⟨4,0,s,nL l,0⟩:=by
  cases l with
  |nil =>
   obtain⟨w,hw,w1,_⟩:=CX (s:=⟨#[41]⟩) (r:=[]) h
   rw [show k+1+1=k+2 by omega] at hw
   have:=Acd (d:=d) (c:=c) hM.len ht hw (by rw [w1];rfl)
   rw [hs] at this
   exact this
  |cons x l =>
   rw [Mj,Ý] at h
   obtain⟨t0,ht0,b0,_⟩:=Iz (hl x (.head _)).1 (F3 h).1
   rw [show k+1+1=k+2 by omega] at ht0 h
   have:=Z1 (c:=c) (d:=d) (t:=t) hM ⟨d0,d1⟩ l x [] (k+2) hl (by simp) (fun q=>by
    obtain⟨q1,q2⟩:=hc q
    rw [VM] at q1
    have q3:=fun y hy=>q2 _ (Abu (x:=y) hy)
    refine⟨by simp only [Æ,Î] at q1 ⊢;omega,(q3 x (.head _)).1,fun y hy=>?_⟩
    have:=(q3 y hy).2
    unfold PE at this
    rw [Ê (O8 _).1] at this
    exact this) h
   rw [hs] at this
   have el:k+((⟨1,0,s,0⟩::tS ⟨#[40]⟩::(sep (FV (x::l))++[tS ⟨#[41]⟩]):List Ab).length:Int)=k+2+((Cz x).length:Int)+((sepR (FV l)).length:Int)+1:=by
    rw [Mj];simp only [Æ,Ç,Î];omega
   rw [el]
   exact Acb hM.len ht ht0 (Acm b0) this
 have e7:=Aeu (Rq ht (It (by rw [k1];exact û rfl) _) (Aet hM.len ht k1 hv (by rw [v1];rfl) ea))
 refine Oz (L:=7) ht hu (by omega) (.inr ⟨rfl,by omega⟩) (.inl ?_) (fun _=>It (by rw [k1];exact û rfl) _) (fun _=>e7) (fun h=>by omega)
 unfold DI;rw [k1];rfl
theorem OO {t0:Ab}{x:Aa}(hp:Cz x=[t0])(hl:lvl x.Op=8)(hb:t0.Kind=1∨t0.Kind=2∨t0.Kind=3)
 (ha:∀ (c:Prop) (M:List Ab) (k d:Int) (t u:Ab),M.length<=1000000->gi M k=some t->t.Kind=t0.Kind->t.S=t0.S->t.N=t0.N->gi M (k+1)=some u->isS u ⟨#[40]⟩=false->Eh c (fun n=>BB n M k d) (k+1) (nE x)):Main x:=by
 intro c M k d u hM d0 d1 h hu h40 hc
 rw [hp] at h hu ⊢
 rw [hl]
 obtain⟨⟨t,ht,k1,k2,k3⟩,_⟩:=h
 have hu:gi M (k+1)=some u:=hu
 show Rd3 c M k d (k+1) u (nE x) 8
 have n4:t.Kind≠4:=by omega
 have e7:=Aeu (Rq ht (It n4 _) (ha c M k d t u hM.len ht k1 k2 k3 hu h40))
 refine Oz (L:=7) ht hu (by omega) (.inr ⟨rfl,by omega⟩) (.inl ?_) (fun _=>It n4 _) (fun _=>e7) (fun h=>by omega)
 unfold DI
 rw [k1]
 rcases hb with h|h|h<;>rw [h]<;>rfl
theorem main {x:Aa}(h:Wf x):Main x:=by
 induction h with
 |num n s l p =>
  refine OO (t0:=⟨2,0,⟨#[]⟩,n⟩) rfl rfl (.inr (.inl rfl)) fun c M k d t u hM ht k1 k2 k3 hu h40=>?_
  have:=Ahh (d:=d) (c:=c) hM ht k1
  rw [show t.N=n from k3] at this
  exact this
 |text n s l p =>
  refine OO (t0:=⟨3,0,s,0⟩) rfl rfl (.inr (.inr rfl)) fun c M k d t u hM ht k1 k2 k3 hu h40=>?_
  have:=Aeq (d:=d) (c:=c) hM ht k1
  rw [show t.S=s from k2] at this
  exact this
 |name n s l p =>
  refine OO (t0:=⟨1,0,s,0⟩) rfl rfl (.inl rfl) fun c M k d t u hM ht k1 k2 k3 hu h40=>?_
  have:=Aer (d:=d) (c:=c) hM ht k1 hu h40
  rw [show t.S=s from k2] at this
  exact this
 |call n s l p h ih=>exact Zw n s l p fun x hx=>⟨h x hx,ih x hx⟩
 |not n s x p h ih=>exact Aav n s p h ih
 |neg n s x p h ih=>exact Aax n s p h ih
 |ite n s x y z p hx hy hz ihx ihy ihz=>exact Aba n s p hx ihx hy ihy hz ihz
 |bin b hb n s x y p hx hy ihx ihy=>exact Acl hb n s p hx ihx hy ihy
end Go.Sp
namespace Go.Sp
open Go
def M7 (op n:Int)(s:Â)(ks:List Bool):Bool :=
 if op=1 then Hl n else if op=2 then H7 s else if op=3 then BQ s
 else if op=4 then BQ s&&ks.all id
 else if op=5 then ks.length == 1&&ks.all id
 else if op=6 then ks.length == 1&&ks.all id
 else if op=20 then ks.length == 3&&ks.all id
 else (RW op GF).isSome&&(ks.length == 2&&ks.all id)
mutual
def GG:Aa->Bool
 |.mk op n s l _=>M7 op n s (J6 l)
def J6:List Aa->List Bool
 | []=>[]
 |x::l=>GG x::J6 l
end
mutual
def P4:Aa->Nat
 |.mk _ _ _ l _=>1+Tj l
def Tj:List Aa->Nat
 | []=>0
 |x::l=>P4 x+Tj l
end
theorem Io:∀ l:List Aa,(J6 l).length=l.length
 | []=>rfl
 |x::l=>by show (J6 l).length+1=_;rw [Io l];rfl
theorem PI (x:Aa):1<=P4 x:=by cases x;simp only [P4];omega
theorem XF:∀ l:List Aa,l.length<=Tj l
 | []=>Õ _
 |x::l=>by have:=XF l;have:=PI x;simp only [Tj,Æ];omega
theorem Nt (need:Int)(p:Int×List Ab):(wrp need p).length<=p.2.length+2:=by
 unfold wrp
 split
 . omega
 . simp only [Æ,Ç,Î];omega
theorem ZW (l:List Aa)(h:∀ x∈l,(Cz x).length+3<=6*P4 x):(sepR (FV l)).length+l.length<=6*Tj l:=by
 induction l with
 |nil=>exact Õ _
 |cons x l ih =>
  have h1:=ih fun y hy=>h y (.tail _ hy)
  have h2:=h x (.head _)
  show (tS ⟨#[44]⟩::(wrp 0 (lvl x.Op,Cz x)++sepR (FV l))).length+(x::l).length<=6*(P4 x+Tj l)
  rw [MB]
  simp only [Æ,Ç];omega
theorem PO:∀ (N:Nat) (x:Aa),P4 x<=N->(Cz x).length+3<=6*P4 x
 |0,x,h=>by have:=PI x;omega
 |N+1,.mk op n s l p,h=>by
  simp only [P4] at h ⊢
  have hk:∀ x∈l,(Cz x).length+3<=6*P4 x:=by
   intro x hx
   refine PO N x ?_
   have:∀ {l:List Aa} {x:Aa},x∈l->P4 x<=Tj l:=by
    intro l x hx
    induction l with
    |nil=>cases hx
    |cons y l ih =>
     simp only [Tj]
     rcases List.mem_cons.1 hx with rfl|hx
     . omega
     . have:=ih hx;omega
   have:=this hx;omega
  show (Uz op n s (FV l)).length+3<=6*(1+Tj l)
  unfold Uz
  split
  . simp;omega
  split
  . simp;omega
  split
  . simp;omega
  split
  . cases l with
    |nil=>simp [sep,FV];omega
    |cons x l =>
     rw [Mj]
     have h1:=ZW l fun y hy=>hk y (.tail _ hy)
     have h2:=hk x (.head _)
     simp only [Æ,Ç,Î,Tj];omega
  split
  . match l with
    | []=>simp [FV];omega
    | [x] =>
     have h2:=hk x (.head _)
     have h3:=Nt 3 (lvl x.Op,Cz x)
     simp only [FV,Tj,Æ]
     simp only at h3;omega
    |x::y::l=>simp [FV];omega
  split
  . match l with
    | []=>simp [FV];omega
    | [x] =>
     have h2:=hk x (.head _)
     have h3:=Nt 7 (lvl x.Op,Cz x)
     simp only [FV,Tj,Æ]
     simp only at h3;omega
    |x::y::l=>simp [FV];omega
  split
  . match l with
    | []=>simp [FV];omega
    | [x]=>simp [FV];omega
    | [x,y]=>simp [FV];omega
    | [x,y,z] =>
     have h2:=hk x (.head _)
     have h3:=hk y (.tail _ (.head _))
     have h4:=hk z (.tail _ (.tail _ (.head _)))
     have h5:=Nt 1 (lvl x.Op,Cz x)
     simp only [FV,Tj,Æ,Ç,MB]
     simp only at h5;omega
    |x::y::z::w::l=>simp [FV];omega
  . cases RW op GF with
    |none=>simp;omega
    |some b =>
     match l with
     | []=>simp [FV];omega
     | [x]=>simp [FV];omega
     | [x,y] =>
      have h2:=hk x (.head _)
      have h3:=hk y (.tail _ (.head _))
      have h5:=Nt (lf b.level) (lvl x.Op,Cz x)
      have h6:=Nt (b.level+1) (lvl y.Op,Cz y)
      simp only [FV,Tj,Æ,Ç]
      simp only at h5 h6;omega
     |x::y::z::l=>simp [FV];omega
theorem Wx:∀ {l:List Aa} {x:Aa},x∈l->P4 x<=Tj l:=by
 intro l x hx
 induction l with
 |nil=>cases hx
 |cons y l ih =>
  simp only [Tj]
  rcases List.mem_cons.1 hx with rfl|hx
  . omega
  . have:=ih hx;omega
def PrE (e:Aa):Prop:=∀ p:Aj,p.l.length+(Cz e).length<=900000->Ev (fun n=>Be n p e) ((),⟨p.l++Cz e,p.bad||!GG e⟩)
theorem Kw {e:Aa}(h:PrE e){p:Aj}{need:Int}(hp:p.l.length+(wrp need (lvl e.Op,Cz e)).length<=900000):Ev (fun n=>Az n p e need) ((),⟨p.l++wrp need (lvl e.Op,Cz e),p.bad||!GG e⟩):=by
 refine Ev.step (fun n=>Az.eq_2 (n:=n) _ _ _) (Ev.bind (YT e) ?_)
 unfold wrp at hp ⊢
 by_cases hn:need<=lvl e.Op
 . rw [Ê hn] at hp ⊢
   simp only [Ð hn,É]
   exact Ev.bind (h p hp) Ev.pure
 . rw [È hn] at hp ⊢
   simp only [Æ,Ç,Î] at hp
   simp only [Ñ hn,Ä]
   refine Ev.bind (Ev.const (a:=[⟨#[40]⟩]) rfl) (Ev.bind (Dj (by omega)) (Ev.bind (h _ (by simp only [Ç,Æ,Î];omega)) (Ev.bind (Ev.const (a:=[⟨#[41]⟩]) rfl) (Ev.bind (Dj (by simp only [Ç,Æ,Î];omega)) ?_))))
   simp only [Ý]
   exact Ev.pure
theorem SY {e:Aa}{sg:List Â}(hl:∀ x∈e.Kids,PrE x)(h47:e.Kids.length<=140737488355328):∀ (m j:Nat) (p:Aj),1<=j->j+m=e.Kids.length->p.l.length+(sepR (FV (e.Kids.drop j))).length<=900000 ->
 Ev (fun n=>Bo n e sg (j:Int) p.l p.bad) (p.l++sepR (FV (e.Kids.drop j)),p.bad||!(J6 (e.Kids.drop j)).all id)
 |0,j,p,h1,h,hp=>by
  refine Ev.step (fun n=>Bo.eq_2 (n:=n) _ _ _ _ _) (Ev.of fun n=>?_)
  rw [Ñ (by omega),Ă (by omega)]
  show some (p.l,p.bad)=some (p.l++[],p.bad||false)
  rw [ç,Ē]
 |m+1,j,p,h1,h,hp=>by
  have hj:j<e.Kids.length:=by omega
  have w1:À ((j:Int)+1)=((j+1:Nat):Int):=by rw [A2]<;>omega
  have hd:=å hj
  rw [hd] at hp ⊢
  have hp:p.l.length+(tS ⟨#[44]⟩::(wrp 0 (lvl e.Kids[j].Op,Cz e.Kids[j])++sepR (FV (e.Kids.drop (j+1))))).length<=900000:=hp
  simp only [Æ,Ç] at hp
  refine Ev.step (fun n=>Bo.eq_2 (n:=n) _ _ _ _ _) ?_
  simp only [Ð (show (j:Int)<(e.Kids.length:Int) by omega),Ð (show (0:Int)<(j:Int) by omega),É,KL hj,Á,w1]
  refine Ev.bind (Dj (by show p.l.length<=_;omega)) (Ev.bind (Kw (hl _ (Ú hj)) (by simp only [Ç,Æ,Î];omega)) ?_)
  have:=SY (sg:=sg) hl h47 m (j+1) ⟨p.l++[tS ⟨#[44]⟩]++wrp 0 (lvl e.Kids[j].Op,Cz e.Kids[j]),p.bad||!GG e.Kids[j]⟩ (by omega) (by omega) (by simp only [Ç,Æ,Î];omega)
  have e1:p.l++sepR (FV (e.Kids[j]::e.Kids.drop (j+1)))=p.l++[tS ⟨#[44]⟩]++wrp 0 (lvl e.Kids[j].Op,Cz e.Kids[j])++sepR (FV (e.Kids.drop (j+1))):=by
   show p.l++(tS ⟨#[44]⟩::(wrp 0 (lvl e.Kids[j].Op,Cz e.Kids[j])++sepR (FV (e.Kids.drop (j+1)))))=_
   simp only [Ý,Ė,ö]
  have e2:(p.bad||!(J6 (e.Kids[j]::e.Kids.drop (j+1))).all id)=(p.bad||!GG e.Kids[j]||!(J6 (e.Kids.drop (j+1))).all id):=by
   grind [GG,J6,Bool.not_and,Bool.or_assoc]
  rw [e1,e2]
  exact this
inductive Ac4:Aa->Prop where
 |mk (e:Aa) (hl:e.Kids.length<=140737488355328) (hs:GG e=true∨e.S.size<=140737488355328) (h:e.Op≠1->e.Op≠2->e.Op≠3->∀ x∈e.Kids,Ac4 x):Ac4 e
theorem JJ {s:Â}(h:BQ s=true):s.size<=32:=by
 unfold BQ at h
 rw [Ã,Í] at h
 exact h.1.2
theorem Mh {s:Â}(h:H7 s=true):s.size<=200:=by
 unfold H7 at h
 rw [Ã,Í] at h
 exact h.1
theorem Ah7 {e:Aa}(h:Ac4 e):PrE e:=by
 induction h with
 |mk e hl hs _ ih =>
  obtain⟨op,v,s,l,at_⟩:=e
  intro p hp
  simp only at hl ih
  have hs':M7 op v s (J6 l)=true∨s.size<=140737488355328:=hs
  have hp:p.l.length+(Uz op v s (FV l)).length<=900000:=hp
  show Ev (fun n=>Be n p ⟨op,v,s,l,at_⟩) ((),⟨p.l++Uz op v s (FV l),p.bad||!M7 op v s (J6 l)⟩)
  refine Ev.step (fun n=>Be.eq_2 (n:=n) _ _) ?_
  unfold Uz at hp ⊢
  unfold M7
  by_cases h1:op=1
  . subst h1
    simp only [show ((1:Int) == 1)=true from rfl,É,ë]
    exact Ev.bind (Ev.const (JH (by omega))) Ev.pure
  rw [È h1] at hp ⊢
  rw [È h1]
  simp only [show (op == 1)=false by simpa using h1,Ä]
  by_cases h2:op=2
  . subst h2
    simp only [show ((2:Int) == 2)=true from rfl,É,ë]
    exact Ev.bind (PG (hs'.elim (fun h=>by have:=Mh (show H7 s=true from h);omega) id) (by omega)) Ev.pure
  rw [È h2] at hp ⊢
  rw [È h2]
  simp only [show (op == 2)=false by simpa using h2,Ä]
  by_cases h3:op=3
  . subst h3
    simp only [show ((3:Int) == 3)=true from rfl,É,ë]
    exact Ev.bind (Mp (hs'.elim (fun h=>by have:=JJ (show BQ s=true from h);omega) id) (by omega)) Ev.pure
  have hk:∀ x∈l,PrE x:=ih h1 h2 h3
  rw [È h3] at hp ⊢
  rw [È h3]
  simp only [show (op == 3)=false by simpa using h3,Ä]
  by_cases h4:op=4
  . subst h4
    simp only [ë,Æ,Ç,Î] at hp
    simp only [show ((4:Int) == 4)=true from rfl,É,ë]
    have hl47:l.length<=140737488355328:=hl
    have hs4:s.size<=140737488355328:=hs'.elim (fun h=>by
     have h:(BQ s&&(J6 l).all id)=true:=h
     rw [Ã] at h
     have:=JJ h.1;omega) id
    refine Ev.bind (Mp hs4 (by omega)) (Ev.bind (Ev.const (a:=[⟨#[40]⟩]) rfl) (Ev.bind (Dj (by simp only [Ç,Æ,Î];omega)) ?_))
    simp only [Ý,Ė,ö]
    refine Ev.bind (a:=(p.l++⟨1,0,s,0⟩::tS ⟨#[40]⟩::sep (FV l),p.bad||!BQ s||!(J6 l).all id)) ?_ ?_
    . cases l with
      |nil =>
       refine Ev.step (fun n=>Bo.eq_2 (n:=n) _ _ _ _ _) (Ev.of fun n=>?_)
       show some _=some (_,p.bad||!BQ s||false)
       rw [Ē];rfl
      |cons x l =>
       rw [Mj,Ç] at hp
       refine Ev.step (fun n=>Bo.eq_2 (n:=n) _ _ _ _ _) ?_
       simp only [Æ,Ð (show (0:Int)<((l.length+1:Nat):Int) by omega),É,show gi (x::l) 0=some x from rfl,Á,show decide ((0:Int)<0)=false from rfl,Ä,show À (0+1)=((1:Nat):Int) from rfl]
       have ho:=Kw (hk x (.head _)) (p:=⟨p.l++⟨1,0,s,0⟩::[tS ⟨#[40]⟩],p.bad||!BQ s⟩) (need:=0) (by rw [MB];simp only [Ç,Æ,Î];omega)
       refine Ev.bind ho ?_
       have:=SY (e:=⟨4,v,s,x::l,at_⟩) (sg:=[⟨#[40]⟩]) hk hl47 l.length 1 ⟨p.l++⟨1,0,s,0⟩::[tS ⟨#[40]⟩]++wrp 0 (lvl x.Op,Cz x),p.bad||!BQ s||!GG x⟩ (Õ _) (by simp only [Æ];omega)
        (by rw [MB];simp only [List.drop_succ_cons,Ą,Ç,Æ,Î];omega)
       have e1:p.l++⟨1,0,s,0⟩::tS ⟨#[40]⟩::sep (FV (x::l))=p.l++⟨1,0,s,0⟩::[tS ⟨#[40]⟩]++wrp 0 (lvl x.Op,Cz x)++sepR (FV ((x::l).drop 1)):=by
        rw [Mj,MB];simp
       have e2:(p.bad||!BQ s||!(J6 (x::l)).all id)=(p.bad||!BQ s||!GG x||!(J6 ((x::l).drop 1)).all id):=by
        grind [BQ,GG,J6,Bool.not_and,Bool.or_assoc]
       rw [e1,e2]
       exact this
    . refine Ev.bind (Ev.const (a:=[⟨#[41]⟩]) rfl) (Ev.bind (Dj (by simp only [Ç,Æ];omega)) (Ev.of fun _=>?_))
      rw [ď,ą]
      simp only [Ý,Ė]
  rw [È h4] at hp ⊢
  rw [È h4]
  simp only [show (op == 4)=false by simpa using h4,Ä]
  by_cases h5:op=5
  . subst h5
    simp only [show ((5:Int) == 5)=true from rfl,É,Á,show (Jo [(5,1),(6,1),(20,3)] (5:Int)).1=1 from rfl,ë]
    match l,hk,hp with
    | [],hk,hp =>
     refine Ev.of fun n=>?_
     show some ((),Aj.mk p.l true)=some ((),⟨p.l++[],p.bad||true⟩)
     rw [ç,ċ]
    | [x],hk,hp =>
     have hp:p.l.length+(tS ⟨#[33]⟩::wrp 3 (lvl x.Op,Cz x)).length<=900000:=hp
     simp only [Æ] at hp
     simp only [Ď,show (((1:Nat):Int) != 1)=false from rfl,Ä]
     refine Ev.bind (Dj (s:=⟨#[33]⟩) (by omega)) (Ev.bind (Ev.const (a:=x) rfl) (Ev.bind (Kw (hk x (.head _)) (by simp only [Ç,Æ,Î];omega)) (Ev.of fun n=>?_)))
     show some ((),Aj.mk _ (p.bad||!GG x))=some ((),⟨p.l++(tS ⟨#[33]⟩::wrp 3 (lvl x.Op,Cz x)),p.bad||!(GG x&&true)⟩)
     rw [ē,Ý];rfl
    |x::y::r,hk,hp =>
     refine Ev.of fun n=>?_
     rw [show ((((x::y::r).length:Nat):Int) != 1)=true by simp only [Æ,bne_iff_ne,ne_eq];omega]
     have e:((J6 (x::y::r)).length == 1)=false:=by rw [Io,ñ];simp
     rw [e]
     show some ((),Aj.mk p.l true)=some ((),⟨p.l++[],p.bad||true⟩)
     rw [ç,ċ]
  rw [È h5] at hp ⊢
  rw [È h5]
  simp only [show (op == 5)=false by simpa using h5,Ä]
  by_cases h6:op=6
  . subst h6
    simp only [show ((6:Int) == 6)=true from rfl,É,Á,show (Jo [(5,1),(6,1),(20,3)] (6:Int)).1=1 from rfl,ë]
    match l,hk,hp with
    | [],hk,hp =>
     refine Ev.of fun n=>?_
     show some ((),Aj.mk p.l true)=some ((),⟨p.l++[],p.bad||true⟩)
     rw [ç,ċ]
    | [x],hk,hp =>
     have hp:p.l.length+(tS ⟨#[45]⟩::wrp 7 (lvl x.Op,Cz x)).length<=900000:=hp
     simp only [Æ] at hp
     simp only [Ď,show (((1:Nat):Int) != 1)=false from rfl,Ä]
     refine Ev.bind (Dj (s:=⟨#[45]⟩) (by omega)) (Ev.bind (Ev.const (a:=x) rfl) (Ev.bind (Kw (hk x (.head _)) (by simp only [Ç,Æ,Î];omega)) (Ev.of fun n=>?_)))
     show some ((),Aj.mk _ (p.bad||!GG x))=some ((),⟨p.l++(tS ⟨#[45]⟩::wrp 7 (lvl x.Op,Cz x)),p.bad||!(GG x&&true)⟩)
     rw [ē,Ý];rfl
    |x::y::r,hk,hp =>
     refine Ev.of fun n=>?_
     rw [show ((((x::y::r).length:Nat):Int) != 1)=true by simp only [Æ,bne_iff_ne,ne_eq];omega]
     have e:((J6 (x::y::r)).length == 1)=false:=by rw [Io,ñ];simp
     rw [e]
     show some ((),Aj.mk p.l true)=some ((),⟨p.l++[],p.bad||true⟩)
     rw [ç,ċ]
  rw [È h6] at hp ⊢
  rw [È h6]
  simp only [show (op == 6)=false by simpa using h6,Ä]
  by_cases h20:op=20
  . subst h20
    simp only [show ((20:Int) == 20)=true from rfl,É,Á,show (Jo [(5,1),(6,1),(20,3)] (20:Int)).1=3 from rfl,ë]
    have bad:∀ (ts:List Ab) (b:Bool),((l.length:Nat):Int)≠3->ts=[]->b=true->Ev (fun n=>(bif (((l.length:Nat):Int) != 3) then some ((),Aj.mk p.l true) else (gi l 0).bind fun x3=>(Az n p x3 1).bind fun o_4=>(some [⟨#[63]⟩]).bind fun l5=>(A3 n o_4.2 l5).bind fun s5=>(gi l 1).bind fun x4=>(Az n s5.2 x4 0).bind fun o_5=>(some [⟨#[58]⟩]).bind fun l6=>(A3 n o_5.2 l6).bind fun s6=>(gi l 2).bind fun x5=>(Az n s6.2 x5 0).bind fun o_6=>some ((),o_6.2):Option (Unit×Aj))) ((),⟨p.l++ts,b⟩):=by
     rintro ts b h rfl rfl
     refine Ev.of fun n=>?_
     rw [show ((((l.length:Nat):Int)) != 3)=true by simpa using h,ç];rfl
    match l,hk,hp,bad with
    | [],hk,hp,bad=>exact bad _ _ (û rfl) rfl (by show (p.bad||true)=true;rw [ċ])
    | [x],hk,hp,bad=>exact bad _ _ (û rfl) rfl (by show (p.bad||true)=true;rw [ċ])
    | [x,y],hk,hp,bad=>exact bad _ _ (û rfl) rfl (by show (p.bad||true)=true;rw [ċ])
    | [x,y,z],hk,hp,bad =>
     have hp:p.l.length+(wrp 1 (lvl x.Op,Cz x)++(tS ⟨#[63]⟩::(wrp 0 (lvl y.Op,Cz y)++(tS ⟨#[58]⟩::wrp 0 (lvl z.Op,Cz z))))).length<=900000:=hp
     simp only [Æ,Ç] at hp
     simp only [show ((([x,y,z].length:Nat):Int) != 3)=false from rfl,Ä]
     refine Ev.bind (Ev.const (a:=x) rfl) (Ev.bind (Kw (hk x (.head _)) (by omega)) (Ev.bind (Dj (s:=⟨#[63]⟩) (by simp only [Ç];omega)) (Ev.bind (Ev.const (a:=y) rfl)
      (Ev.bind (Kw (hk y (.tail _ (.head _))) (by simp only [Ç,Æ,Î];omega)) (Ev.bind (Dj (s:=⟨#[58]⟩) (by simp only [Ç,Æ,Î];omega)) (Ev.bind (Ev.const (a:=z) rfl)
       (Ev.bind (Kw (hk z (.tail _ (.tail _ (.head _)))) (by simp only [Ç,Æ,Î];omega)) (Ev.of fun n=>?_))))))))
     show some ((),Aj.mk _ (p.bad||!GG x||!GG y||!GG z))=some ((),⟨p.l++(wrp 1 (lvl x.Op,Cz x)++(tS ⟨#[63]⟩::(wrp 0 (lvl y.Op,Cz y)++(tS ⟨#[58]⟩::wrp 0 (lvl z.Op,Cz z))))),p.bad||!(GG x&&(GG y&&(GG z&&true)))⟩)
     rw [ē,ď,ď,<- ą,<- ą]
     simp only [Ý,Ė,ö]
    |x::y::z::w::r,hk,hp,bad =>
     refine bad _ _ (by simp only [Æ];omega) rfl ?_
     have e:((J6 (x::y::z::w::r)).length == 3)=false:=by rw [Io,ñ];simp
     rw [e]
     show (p.bad||true)=true
     rw [ċ]
  rw [È h20] at hp ⊢
  rw [È h20]
  simp only [show (op == 20)=false by simpa using h20,Ä,Á,Kv]
  rcases YZ p.l p.bad op v s l at_ with⟨hb,hi⟩|⟨i,b,hi,hg,hb⟩
  . rw [hb]
    refine Ev.bind hi (Ev.of fun n=>?_)
    show some ((),Aj.mk p.l true)=some ((),⟨p.l++[],p.bad||true⟩)
    rw [ç,ċ]
  . rw [hb] at hp ⊢
    refine Ev.bind hi ?_
    simp only [Ñ (show ¬ (i:Int)<0 by omega),Ä,Á]
    have f3:=(Hw (PU hb).1).2.2.1
    have w1:À (b.level+1)=b.level+1:=by rw [A2]<;>omega
    have bad:∀ (ts:List Ab) (bb:Bool),((l.length:Nat):Int)≠2->ts=[]->bb=true->Ev (fun n=>(bif (((l.length:Nat):Int) != 2) then some ((),Aj.mk p.l true) else (gi GF (i:Int)).bind fun x6=>(bif (x6.level == 4) then some 5 else some x6.level:Option Int).bind fun left=>(gi l 0).bind fun x7=>(Az n p x7 left).bind fun o_9=>(some [x6.sign]).bind fun l7=>(A3 n o_9.2 l7).bind fun s7=>(gi l 1).bind fun x8 =>
     (Az n s7.2 x8 (if (À (x6.level+1)) > left then (À (x6.level+1)) else left)).bind fun o_10=>some ((),o_10.2):Option (Unit×Aj))) ((),⟨p.l++ts,bb⟩):=by
     rintro ts bb h rfl rfl
     refine Ev.of fun n=>?_
     rw [show ((((l.length:Nat):Int)) != 2)=true by simpa using h,ç];rfl
    match l,hk,hp,bad with
    | [],hk,hp,bad=>exact bad _ _ (û rfl) rfl (by show (p.bad||true)=true;rw [ċ])
    | [x],hk,hp,bad=>exact bad _ _ (û rfl) rfl (by show (p.bad||true)=true;rw [ċ])
    | [x,y],hk,hp,bad =>
     have hp:p.l.length+(wrp (lf b.level) (lvl x.Op,Cz x)++(tS b.sign::wrp (b.level+1) (lvl y.Op,Cz y))).length<=900000:=hp
     simp only [Æ,Ç] at hp
     have eL:(bif (b.level == 4) then some 5 else some b.level:Option Int)=some (lf b.level):=by
      grind [lf]
     have eR:(if b.level+1 > lf b.level then b.level+1 else lf b.level)=b.level+1:=by
      grind [lf]
     simp only [show ((([x,y].length:Nat):Int) != 2)=false from rfl,Ä,hg,Á,eL,w1,eR]
     refine Ev.bind (Ev.const (a:=x) rfl) (Ev.bind (Kw (hk x (.head _)) (by omega)) (Ev.bind (Dj (by simp only [Ç];omega)) (Ev.bind (Ev.const (a:=y) rfl)
      (Ev.bind (Kw (hk y (.tail _ (.head _))) (by simp only [Ç,Æ,Î];omega)) (Ev.of fun n=>?_)))))
     show some ((),Aj.mk _ (p.bad||!GG x||!GG y))=some ((),⟨p.l++(wrp (lf b.level) (lvl x.Op,Cz x)++(tS b.sign::wrp (b.level+1) (lvl y.Op,Cz y))),p.bad||!(true&&(true&&(GG x&&(GG y&&true))))⟩)
     rw [ē,ė,ė,ď,<- ą]
     simp only [Ý,Ė,ö]
    |x::y::z::r,hk,hp,bad =>
     refine bad _ _ (by simp only [Æ];omega) rfl ?_
     have e:((J6 (x::y::z::r)).length == 2)=false:=by rw [Io,ñ];simp
     rw [e]
     show (p.bad||true)=true
     rw [ċ]
end Go.Sp
namespace Go.Sp
open Go
def tw (t:Ab):Nat:=(F7 t).flatten.length+1
def twl:List Ab->Nat
 | []=>0
 |t::l=>tw t+twl l
end Go.Sp

namespace Go.Sp
open Go
def zE:Aa:=⟨0,0,⟨#[]⟩,[],0⟩
def Ns (a:Ao):Ao:=⟨a.Kind,a.N,a.S,ET a.E,0⟩
mutual
def ZR:Ai->Ai
 |.mk w aq b _=>.mk w (aq.map Ns) (IB b) 0
def IB:List Ai->List Ai
 | []=>[]
 |x::l=>ZR x::IB l
end
def ngN (x:Int):Int:=if 0 > À (0-x) then 0 else À (0-x)
theorem Agi {x:Int}(h:x<0)(h2 : -999999999999999<=x):ngN x = -x:=by
 have w:À (0-x) = -x:=by rw [A2]<;>omega
 unfold ngN;rw [w,È (by omega)]
def pA (a:Ao):List Ab :=
 if a.Kind=1 then [⟨1,0,a.S,0⟩] else if a.Kind=2 then (if a.N<0 then [tS ⟨#[45]⟩,⟨2,0,⟨#[]⟩,ngN a.N⟩] else [⟨2,0,⟨#[]⟩,a.N⟩]) else if a.Kind=3 then [⟨3,0,a.S,0⟩]
 else if a.Kind=4 then [tS ⟨#[45,62]⟩] else if a.Kind=5 then tS ⟨#[40]⟩::(Cz a.E++[tS ⟨#[41]⟩]) else []
def nA (a:Ao):Ao :=
 if a.Kind=1 then ⟨1,0,a.S,zE,0⟩ else if a.Kind=2 then ⟨2,a.N,⟨#[]⟩,zE,0⟩ else if a.Kind=3 then ⟨3,0,a.S,zE,0⟩ else if a.Kind=4 then ⟨4,0,⟨#[]⟩,zE,0⟩ else ⟨5,0,⟨#[]⟩,nE a.E,0⟩
def Jm:List Ao->List Ab
 | []=>[]
 |a::l=>pA a++Jm l
mutual
def pF:Ai->List Ab
 |.mk w aq b _=>⟨1,0,w,0⟩::(Jm aq++(if b.isEmpty then [tS ⟨#[59]⟩] else tS ⟨#[123]⟩::(Gp b++[tS ⟨#[125]⟩])))
def Gp:List Ai->List Ab
 | []=>[]
 |x::l=>pF x++Gp l
end
mutual
def nF:Ai->Ai
 |.mk w aq b _=>.mk w (aq.map nA) (WM b) 0
def WM:List Ai->List Ai
 | []=>[]
 |x::l=>nF x::WM l
end
mutual
def cntF:Ai->Int
 |.mk _ _ b _=>1+Ig b
def Ig:List Ai->Int
 | []=>0
 |x::l=>cntF x+Ig l
end
mutual
def Aix:Ai->Int->Prop
 |.mk _ aq b _,d=>d<=30/\aq.length<=40/\(∀ a∈aq,a.Kind=5->H0 a.E 1)/\SL b (d+1)
def SL:List Ai->Int->Prop
 | [],_=>True
 |x::l,d=>Aix x d/\SL l d
end
structure WfA (a:Ao):Prop where
 k:1<=a.Kind/\a.Kind<=5
 n:a.Kind=2->-999999999999999<=a.N/\a.N<=999999999999999
 e:a.Kind=5->Wf a.E
inductive WfF:Ai->Prop where
 |mk (w:Â) (aq:List Ao) (b:List Ai) (p:Int) (ha:∀ a∈aq,WfA a) (hb:∀ x∈b,WfF x):WfF ⟨w,aq,b,p⟩
theorem K2 {M:List Ab}{k:Int}{t:Ab}{r:List Ab}(h:Has M k (t::r)):∃ u,gi M k=some u/\u.Kind=t.Kind/\u.S=t.S/\u.N=t.N:=h.1
theorem Z2 {M:List Ab}{k:Int}{a:Ao}(hw:WfA a)(h:Has M k (pA a)):∃ t,gi M k=some t/\(DI t=true∨isS t ⟨#[45,62]⟩=true)/\isS t ⟨#[59]⟩=false/\isS t ⟨#[123]⟩=false:=by
 have key:∀ (s:Ab) (r:List Ab),Has M k (s::r)->(DI s=true∨isS s ⟨#[45,62]⟩=true)->isS s ⟨#[59]⟩=false->isS s ⟨#[123]⟩=false->∃ t,gi M k=some t/\(DI t=true∨isS t ⟨#[45,62]⟩=true)/\isS t ⟨#[59]⟩=false/\isS t ⟨#[123]⟩=false:=by
  intro s r h h1 h2 h3
  obtain⟨t,ht,e1,e2,_⟩:=K2 h
  exact⟨t,ht,by rw [R2 e1 e2,HP e1 e2];exact h1,by rw [HP e1 e2];exact h2,by rw [HP e1 e2];exact h3⟩
 unfold pA at h
 split at h
 . exact key _ _ h (.inl rfl) rfl rfl
 split at h
 . split at h
   . exact key _ _ h (.inl rfl) rfl rfl
   . exact key _ _ h (.inl rfl) rfl rfl
 split at h
 . exact key _ _ h (.inl rfl) rfl rfl
 split at h
 . exact key _ _ h (.inr rfl) rfl rfl
 split at h
 . exact key _ _ h (.inl rfl) rfl rfl
 . have:=hw.k;omega
theorem Acn {c:Prop}{M:List Ab}{k:Int}{a:Ao}(hM:MA M)(hw:WfA a)(h:Has M k (pA a))(hc:c->a.Kind=5->H0 a.E 1) :
 ∃ r,Ev (fun n=>CQ n M k) r/\(r.E=2/\¬c∨r.E=0/\r.To=k+((pA a).length:Int)/\Ns r.A=nA a):=by
 have hl:=hM.len
 obtain⟨k1,k5⟩:=hw.k
 have small:∀ {t:Ab},gi M k=some t->1<=t.Kind->t.Kind<=3->Ev (fun n=>CQ n M k) ⟨⟨t.Kind,t.N,t.S,zE,t.At⟩,k+1,0⟩:=by
  intro t ht h1 h3
  have hr:=(As ht).2
  have w1:À (k+1)=k+1:=by rw [A2]<;>omega
  refine Ev.of fun n=>?_
  unfold CQ
  simp only [ht,Á,Ð h1,Ð h3,É,w1];rfl
 by_cases q1:a.Kind=1
 . have e:pA a=[⟨1,0,a.S,0⟩]:=by unfold pA;rw [Ê q1]
   rw [e] at h ⊢
   obtain⟨t,ht,e1,e2,e3⟩:=K2 h
   refine⟨_,small ht (by rw [e1];exact û rfl) (by rw [e1];exact û rfl),.inr ⟨rfl,rfl,?_⟩⟩
   unfold nA Ns
   rw [Ê q1,e1,e2,e3];rfl
 by_cases q2:a.Kind=2
 . obtain⟨n1,n2⟩:=hw.n q2
   by_cases qn:a.N<0
   . have e:pA a=[tS ⟨#[45]⟩,⟨2,0,⟨#[]⟩,-a.N⟩]:=by unfold pA;rw [È q1,Ê q2,Ê qn,Agi qn n1]
     rw [e] at h ⊢
     obtain⟨t,ht,s1,_,_,h⟩:=CX h
     obtain⟨u,hu,e1,e2,e3⟩:=K2 h
     have hr:=(As ht).2
     have w1:À (k+1)=k+1:=by rw [A2]<;>omega
     have w2:À (k+2)=k+2:=by rw [A2]<;>omega
     have w3:À (0-u.N)=a.N:=by rw [show u.N = -a.N from e3,A2]<;>omega
     have k4:t.Kind=4:=by have:=s1 ⟨#[45]⟩;unfold isS at this;simp only [ø,Ã,ó] at this;exact this.1
     have f1:Au M k ⟨#[45,62]⟩=some (isS t ⟨#[45,62]⟩):=A6 ht
     have f2:Au M k ⟨#[45]⟩=some (isS t ⟨#[45]⟩):=A6 ht
     refine⟨⟨⟨2,a.N,⟨#[]⟩,zE,t.At⟩,k+2,0⟩,Ev.of fun n=>?_,.inr ⟨rfl,rfl,?_⟩⟩
     . unfold CQ
       simp only [ht,Á,k4,show decide ((1:Int)<=4)=true from rfl,show decide ((4:Int)<=3)=false from rfl,É,Ä,f1,f2,s1,show decide ((⟨#[45]⟩:Â)=⟨#[45,62]⟩)=false from rfl,ø,w1,w2,hu,show (u.Kind != 2)=false by rw [e1];rfl,w3];rfl
     . unfold nA Ns
       rw [È q1,Ê q2];rfl
   . have e:pA a=[⟨2,0,⟨#[]⟩,a.N⟩]:=by unfold pA;rw [È q1,Ê q2,È qn]
     rw [e] at h ⊢
     obtain⟨t,ht,e1,e2,e3⟩:=K2 h
     refine⟨_,small ht (by rw [e1];exact û rfl) (by rw [e1];exact û rfl),.inr ⟨rfl,rfl,?_⟩⟩
     unfold nA Ns
     rw [È q1,Ê q2,e1,e2,e3];rfl
 by_cases q3:a.Kind=3
 . have e:pA a=[⟨3,0,a.S,0⟩]:=by unfold pA;rw [È q1,È q2,Ê q3]
   rw [e] at h ⊢
   obtain⟨t,ht,e1,e2,e3⟩:=K2 h
   refine⟨_,small ht (by rw [e1];exact û rfl) (by rw [e1];exact û rfl),.inr ⟨rfl,rfl,?_⟩⟩
   unfold nA Ns
   rw [È q1,È q2,Ê q3,e1,e2,e3];rfl
 by_cases q4:a.Kind=4
 . have e:pA a=[tS ⟨#[45,62]⟩]:=by unfold pA;rw [È q1,È q2,È q3,Ê q4]
   rw [e] at h ⊢
   obtain⟨t,ht,s1,_,_,_⟩:=CX h
   have hr:=(As ht).2
   have w1:À (k+1)=k+1:=by rw [A2]<;>omega
   have k4:t.Kind=4:=by have:=s1 ⟨#[45,62]⟩;unfold isS at this;simp only [ø,Ã,ó] at this;exact this.1
   have f1:Au M k ⟨#[45,62]⟩=some (isS t ⟨#[45,62]⟩):=A6 ht
   refine⟨⟨⟨4,0,⟨#[]⟩,zE,t.At⟩,k+1,0⟩,Ev.of fun n=>?_,.inr ⟨rfl,rfl,?_⟩⟩
   . unfold CQ
     simp only [ht,Á,k4,show decide ((1:Int)<=4)=true from rfl,show decide ((4:Int)<=3)=false from rfl,É,Ä,f1,s1,ø,w1];rfl
   . unfold nA Ns
     rw [È q1,È q2,È q3,Ê q4];rfl
 have q5:a.Kind=5:=by omega
 have e:pA a=tS ⟨#[40]⟩::(Cz a.E++[tS ⟨#[41]⟩]):=by unfold pA;rw [È q1,È q2,È q3,È q4,Ê q5]
 rw [e] at h ⊢
 obtain⟨t,ht,s1,_,_,h⟩:=CX h
 obtain⟨hx,h⟩:=F3 h
 obtain⟨u,hu,u1,u2,_⟩:=CX h
 have hr:=(As ht).2
 have hr2:=(As hu).2
 have w1:À (k+1)=k+1:=by rw [A2]<;>omega
 have w3:À (k+1+((Cz a.E).length:Int)+1)=k+1+((Cz a.E).length:Int)+1:=by rw [A2]<;>omega
 have k4:t.Kind=4:=by have:=s1 ⟨#[40]⟩;unfold isS at this;simp only [ø,Ã,ó] at this;exact this.1
 have f1:Au M k ⟨#[45,62]⟩=some (isS t ⟨#[45,62]⟩):=A6 ht
 have f2:Au M k ⟨#[45]⟩=some (isS t ⟨#[45]⟩):=A6 ht
 have f3:Au M (k+1+((Cz a.E).length:Int)) ⟨#[41]⟩=some (isS u ⟨#[41]⟩):=A6 hu
 obtain⟨⟨X,z,w⟩,hg,hh⟩:=(main (hw.e q5) c M (k+1) 1 u hM (by decide) (by decide) hx hu (by rw [u1];rfl) (fun q=>hc q q5)).e (by rw [u2];rfl) (by rw [u1];rfl) (fun _=>by decide)
 have el:k+((tS ⟨#[40]⟩::(Cz a.E++[tS ⟨#[41]⟩])).length:Int)=k+1+((Cz a.E).length:Int)+1:=by
  simp only [Æ,Ç,Î];omega
 rw [el]
 have st:∀ r,Ev (fun n=>(bif (w != 0) then some (Cj.mk (Ao.mk 0 0 ⟨#[]⟩ (Aa.mk 0 0 ⟨#[]⟩ [] 0) 0) z w) else
  (Au M z ⟨#[41]⟩).bind fun shut=>bif (!shut) then some (Cj.mk (Ao.mk 0 0 ⟨#[]⟩ (Aa.mk 0 0 ⟨#[]⟩ [] 0) 0) z 5)
   else some (Cj.mk (Ao.mk 5 0 ⟨#[]⟩ X t.At) (À (z+1)) 0):Option Cj)) r->Ev (fun n=>CQ n M k) r:=by
  intro r hr
  unfold CQ
  simp only [ht,Á,k4,show decide ((1:Int)<=4)=true from rfl,show decide ((4:Int)<=3)=false from rfl,É,Ä,f1,f2,s1,show decide ((⟨#[40]⟩:Â)=⟨#[45,62]⟩)=false from rfl,show decide ((⟨#[40]⟩:Â)=⟨#[45]⟩)=false from rfl,w1]
  exact Ev.bind hg hr
 rcases hh with⟨h1,h2⟩|⟨h1,h2,h3⟩
 . obtain rfl:w=2:=h1
   exact⟨_,st _ Ev.pure,.inl ⟨rfl,h2⟩⟩
 . obtain rfl:w=0:=h1
   obtain rfl:z=k+1+((Cz a.E).length:Int):=h2
   refine⟨⟨⟨5,0,⟨#[]⟩,X,t.At⟩,k+1+((Cz a.E).length:Int)+1,0⟩,st _ (Ev.of fun n=>?_),.inr ⟨rfl,rfl,?_⟩⟩
   . simp only [ê,Ä,f3,u1,ø,Á,à,w3]
   . unfold nA Ns
     rw [È q1,È q2,È q3,È q4]
     have h3:ET X=ET (nE a.E):=h3
     rw [ZS] at h3
     simp only [h3]
end Go.Sp
namespace Go.Sp
open Go
theorem Yb {c:Prop}{M:List Ab}{x:Ab}{n_:Int}(hM:MA M)(hn:0<=n_/\n_<=5000){s:Â}(hs:s=⟨#[59]⟩∨s=⟨#[123]⟩):∀ (aq out:List Ao) (p:Int),(∀ a∈aq,WfA a)->out.length<=40 ->
 (c->out.length+aq.length<=40/\∀ a∈aq,a.Kind=5->H0 a.E 1)->Has M p (Jm aq++[tS s]) ->
 ∃ y,Ev (fun n=>AZ n M x n_ out p) y/\((∃ g,y=.inr g/\g.E=2/\¬c)∨∃ out',out'.map Ns=out.map Ns++aq.map nA /\
  (s=⟨#[59]⟩->y=.inr ⟨⟨x.S,out',[],x.At⟩,p+((Jm aq).length:Int)+1,n_+1,0⟩)/\(s=⟨#[123]⟩->y=.inl (out',p+((Jm aq).length:Int)))):=by
 intro aq
 induction aq with
 |nil =>
  intro out p _ ho hc h
  obtain⟨t,ht,s1,_⟩:=CX (r:=[]) h
  have hr:=(As ht).2
  have hl:=hM.len
  have w1:À (p+1)=p+1:=by rw [A2]<;>omega
  have w2:À (n_+1)=n_+1:=by rw [A2]<;>omega
  have f1:Au M p ⟨#[59]⟩=some (isS t ⟨#[59]⟩):=A6 ht
  have f2:Au M p ⟨#[123]⟩=some (isS t ⟨#[123]⟩):=A6 ht
  have e0:p+((Jm ([]:List Ao)).length:Int)=p:=by show p+((0:Nat):Int)=p;omega
  rw [e0]
  rcases hs with rfl|rfl
  . refine⟨_,Ev.step (fun n=>AZ.eq_2 (n:=n) _ _ _ _ _) (Ev.of fun n=>?_),.inr ⟨out,by simp,fun _=>rfl,fun h=>absurd h (by decide)⟩⟩
    simp only [f1,s1,ø,Á,É,w1,w2]
  . refine⟨_,Ev.step (fun n=>AZ.eq_2 (n:=n) _ _ _ _ _) (Ev.of fun n=>?_),.inr ⟨out,by simp,fun h=>absurd h (by decide),fun _=>rfl⟩⟩
    simp only [f1,f2,s1,show decide ((⟨#[123]⟩:Â)=⟨#[59]⟩)=false from rfl,ø,Á,É,Ä]
 |cons a aq ih =>
  intro out p ha ho hc h
  have h:Has M p (pA a++Jm aq++[tS s]):=h
  rw [Ý] at h
  obtain⟨h1,h2⟩:=F3 h
  obtain⟨t,ht,b0,b1,b2⟩:=Z2 (ha a (.head _)) h1
  have f1:Au M p ⟨#[59]⟩=some (isS t ⟨#[59]⟩):=A6 ht
  have f2:Au M p ⟨#[123]⟩=some (isS t ⟨#[123]⟩):=A6 ht
  have f3:Ga M p=some (DI t):=IH ht
  have f4:Au M p ⟨#[45,62]⟩=some (isS t ⟨#[45,62]⟩):=A6 ht
  have b3:(bif (!DI t) then some (!isS t ⟨#[45,62]⟩) else some false:Option Bool)=some false:=by
   rcases b0 with b|b<;>rw [b]
   . rfl
   . cases DI t<;>rfl
  by_cases h40:out.length=40
  . refine⟨.inr ⟨⟨⟨#[]⟩,[],[],0⟩,p,0,2⟩,Ev.step (fun n=>AZ.eq_2 (n:=n) _ _ _ _ _) (Ev.of fun n=>?_),.inl ⟨_,rfl,rfl,fun q=>by have:=(hc q).1;simp only [Æ] at this;omega⟩⟩
    simp only [f1,f2,f3,f4,b1,b2,b3,Á,Ä,h40,show (((40:Nat):Int) == 40)=true from rfl,É]
  have g4:((out.length:Int) == 40)=false:=by rw [ñ];omega
  obtain⟨⟨A,z,w⟩,hr,hh⟩:=Acn hM (ha a (.head _)) h1 fun q=>(hc q).2 a (.head _)
  have st:∀ y,Ev (fun n=>(bif (w != 0) then some (.inr (Cb.mk (Ai.mk ⟨#[]⟩ [] [] 0) z 0 w)) else (some [A]).bind fun l3=>(B4 105 out l3).bind fun l4=>AZ n M x n_ l4 z:Option (((List Ao)×Int) ⊕ Cb))) y->Ev (fun n=>AZ n M x n_ out p) y:=by
   intro y hy
   refine Ev.step (fun n=>AZ.eq_2 (n:=n) _ _ _ _ _) ?_
   simp only [f1,f2,f3,f4,b1,b2,b3,Á,Ä,g4]
   exact Ev.bind hr hy
  rcases hh with⟨e1,e2⟩|⟨e1,e2,e3⟩
  . obtain rfl:w=2:=e1
    exact⟨_,st _ Ev.pure,.inl ⟨_,rfl,rfl,e2⟩⟩
  . obtain rfl:w=0:=e1
    obtain rfl:z=p+((pA a).length:Int):=e2
    have g5:B4 105 out [A]=some (out++[A]):=by unfold B4;rw [Ê (by simp only [Æ,Î];omega)]
    obtain⟨y,hy,hh⟩:=ih (out++[A]) (p+((pA a).length:Int)) (fun a h=>ha a (.tail _ h)) (by simp only [Ç,Æ,Î];omega)
     (fun q=>by
      obtain⟨q1,q2⟩:=hc q
      simp only [Æ] at q1
      exact⟨by simp only [Ç,Æ,Î];omega,fun a h=>q2 a (.tail _ h)⟩) h2
    refine⟨y,st y ?_,hh.imp id ?_⟩
    . simp only [ê,Ä,Á,g5]
      exact hy
    . rintro⟨out',e4,e5,e6⟩
      have el:p+((Jm (a::aq)).length:Int)=p+((pA a).length:Int)+((Jm aq).length:Int):=by
       show p+((pA a++Jm aq).length:Int)=_
       rw [Ç];omega
      rw [el]
      refine⟨out',?_,e5,e6⟩
      have e3:Ns A=nA a:=e3
      rw [e4,Ě,Ý]
      show out.map Ns++(Ns A::aq.map nA)=out.map Ns++(nA a::aq.map nA)
      rw [e3]
def Afw (f:Ai):Prop:=∀ (c:Prop) (M:List Ab) (k d n_:Int),MA M->0<=d->d<=31->0<=n_->n_<=2000->Has M k (pF f)->(c->Aix f d/\n_+cntF f<=2000) ->
 ∃ g,Ev (fun n=>C0 n M k d n_) g/\(g.E=2/\¬c∨g.E=0/\g.To=k+((pF f).length:Int)/\ZR g.F=nF f/\g.N=n_+cntF f/\g.N<=2000)
mutual
theorem Ru:∀ f:Ai,1<=cntF f
 |.mk _ _ b _=>by have:=JR b;show 1<=1+Ig b;omega
theorem JR:∀ l:List Ai,0<=Ig l
 | []=>Ġ _
 |x::l=>by have:=Ru x;have:=JR l;show 0<=cntF x+Ig l;omega
end
theorem Qp:∀ x y:List Ai,IB (x++y)=IB x++IB y
 | [],y=>rfl
 |a::x,y=>by show ZR a::IB (x++y)=_;rw [Qp x y];rfl
theorem UQ:∀ x:List Ai,(IB x).length=x.length
 | []=>rfl
 |a::x=>by show (IB x).length+1=_;rw [UQ x];rfl
theorem Vi {M:List Ab}{k:Int}{f:Ai}(h:Has M k (pF f)):∃ t,gi M k=some t/\t.Kind=1:=by
 cases f with
 |mk w aq b p =>
  obtain⟨t,ht,e1,_⟩:=K2 h
  exact⟨t,ht,e1⟩
theorem Aea {c:Prop}{M:List Ab}{x:Ab}{aq:List Ao}{d:Int}(hM:MA M)(hd:0<=d/\d<=30):∀ (fs out:List Ai) (p n_:Int),(∀ f∈fs,Afw f)->0<=n_->n_<=2000->(out.length:Int)<=n_ ->
 (c->SL fs (d+1)/\n_+Ig fs<=2000)->Has M p (Gp fs++[tS ⟨#[125]⟩]) ->
 ∃ g,Ev (fun n=>Bt n M x aq d out p n_) g/\(g.E=2/\¬c∨g.E=0/\g.To=p+((Gp fs).length:Int)+1/\g.N=n_+Ig fs/\g.N<=2000/\∃ o,g.F=⟨x.S,aq,o,x.At⟩/\IB o=IB out++WM fs):=by
 intro fs
 induction fs with
 |nil =>
  intro out p n_ _ n0 n1 ho hc h
  obtain⟨t,ht,s1,_⟩:=CX (r:=[]) h
  have hr:=(As ht).2
  have hl:=hM.len
  have w1:À (p+1)=p+1:=by rw [A2]<;>omega
  have f1:Au M p ⟨#[125]⟩=some (isS t ⟨#[125]⟩):=A6 ht
  refine⟨⟨⟨x.S,aq,out,x.At⟩,p+1,n_,0⟩,Ev.step (fun n=>Bt.eq_2 (n:=n) _ _ _ _ _ _ _) (Ev.of fun n=>?_),.inr ⟨rfl,?_,?_,n1,out,rfl,?_⟩⟩
  . simp only [f1,s1,ø,Á,É,w1]
  . show p+1=p+((0:Nat):Int)+1;omega
  . show n_=n_+0;omega
  . exact (ç _).symm
 |cons f fs ih =>
  intro out p n_ hf n0 n1 ho hc h
  have h:Has M p (pF f++Gp fs++[tS ⟨#[125]⟩]):=h
  rw [Ý] at h
  obtain⟨h1,h2⟩:=F3 h
  obtain⟨t,ht,k1⟩:=Vi h1
  have w2:À (d+1)=d+1:=by rw [A2]<;>omega
  have f1:Au M p ⟨#[125]⟩=some (isS t ⟨#[125]⟩):=A6 ht
  rw [It (by rw [k1];decide)] at f1
  obtain⟨⟨F,z,N,w⟩,hg,hh⟩:=hf f (.head _) c M p (d+1) n_ hM (by omega) (by omega) n0 n1 h1 fun q=>by
   obtain⟨q1,q2⟩:=hc q
   have q2:n_+(cntF f+Ig fs)<=2000:=q2
   have:=JR fs
   exact⟨q1.1,by omega⟩
  have st:∀ y,Ev (fun n=>(bif (w != 0) then some (Cb.mk F z N w) else (some [F]).bind fun l1=>(B4 73 out l1).bind fun l2=>Bt n M x aq d l2 z N:Option Cb)) y->Ev (fun n=>Bt n M x aq d out p n_) y:=by
   intro y hy
   refine Ev.step (fun n=>Bt.eq_2 (n:=n) _ _ _ _ _ _ _) ?_
   simp only [f1,Á,Ä,w2]
   exact Ev.bind hg hy
  rcases hh with⟨e1,e2⟩|⟨e1,e2,e3,e4,e5⟩
  . obtain rfl:w=2:=e1
    exact⟨_,st _ Ev.pure,.inl ⟨rfl,e2⟩⟩
  . obtain rfl:w=0:=e1
    obtain rfl:z=p+((pF f).length:Int):=e2
    obtain rfl:N=n_+cntF f:=e4
    have e5:n_+cntF f<=2000:=e5
    have e3:ZR F=nF f:=e3
    have:=Ru f
    have g5:B4 73 out [F]=some (out++[F]):=by unfold B4;rw [Ê (by simp only [Æ,Î];omega)]
    obtain⟨g,hg2,hh⟩:=ih (out++[F]) (p+((pF f).length:Int)) (n_+cntF f) (fun f h=>hf f (.tail _ h)) (by omega) e5 (by simp only [Ç,Æ,Î];omega)
     (fun q=>by
      obtain⟨q1,q2⟩:=hc q
      have q2:n_+(cntF f+Ig fs)<=2000:=q2
      exact⟨q1.2,by omega⟩) h2
    refine⟨g,st g ?_,hh.imp id ?_⟩
    . simp only [ê,Ä,Á,g5]
      exact hg2
    . rintro⟨a1,a2,a3,a4,o,a5,a6⟩
      refine⟨a1,?_,?_,a4,o,a5,?_⟩
      . rw [a2]
        show _=p+((pF f++Gp fs).length:Int)+1
        rw [Ç];omega
      . rw [a3]
        show _=n_+(cntF f+Ig fs)
        omega
      . rw [a6,Qp,Ý]
        show _=IB out++(nF f::WM fs)
        rw [<- e3];rfl
theorem Aib {f:Ai}(h:WfF f):Afw f:=by
 induction h with
 |mk w aq b p ha hb ih =>
  intro c M k d n_ hM d0 d1 n0 n1 h hc
  have h:Has M k (⟨1,0,w,0⟩::(Jm aq++(if b.isEmpty then [tS ⟨#[59]⟩] else tS ⟨#[123]⟩::(Gp b++[tS ⟨#[125]⟩])))):=h
  have hc:c->(d<=30/\aq.length<=40/\(∀ a∈aq,a.Kind=5->H0 a.E 1)/\SL b (d+1))/\n_+(1+Ig b)<=2000:=hc
  show ∃ g,Ev (fun n=>C0 n M k d n_) g/\(g.E=2/\¬c∨g.E=0/\g.To=k+((⟨1,0,w,0⟩::(Jm aq++(if b.isEmpty then [tS ⟨#[59]⟩] else tS ⟨#[123]⟩::(Gp b++[tS ⟨#[125]⟩]))):List Ab).length:Int) /\
   ZR g.F=.mk w (aq.map nA) (WM b) 0/\g.N=n_+(1+Ig b)/\g.N<=2000)
  obtain⟨⟨t,ht,e1,e2,_⟩,h⟩:=h
  have e2:t.S=w:=e2
  have hr:=(As ht).2
  have hl:=hM.len
  have cb:=JR b
  have w1:À (k+1)=k+1:=by rw [A2]<;>omega
  have w2:À (n_+1)=n_+1:=by rw [A2]<;>omega
  have st:∀ y,Ev (fun n=>((bif (decide (30<d)) then some true else some (decide (2000<=n_)):Option Bool).bind fun v30=>bif v30 then some (Cb.mk (Ai.mk ⟨#[]⟩ [] [] 0) k 0 2) else
   (AZ n M t n_ [] (k+1)).bind fun y1=>match y1 with
   |.inl (out,out1)=>Bt n M t out d [] (À (out1+1)) (n_+1)
   |.inr o=>some o)) y->Ev (fun n=>C0 n M k d n_) y:=by
   intro y hy
   refine Ev.step (fun n=>C0.eq_2 (n:=n) _ _ _ _) ?_
   simp only [ht,Á,show (t.Kind != 1)=false by rw [e1];rfl,Ä,w1,w2]
   exact hy
  by_cases q:30<d∨2000<=n_
  . refine⟨⟨⟨⟨#[]⟩,[],[],0⟩,k,0,2⟩,st _ (Ev.of fun n=>?_),.inl ⟨rfl,fun q2=>by have:=hc q2;omega⟩⟩
    rcases q with q|q
    . simp only [Ð q,É,Á]
    . cases decide (30<d)<;>simp only [Ð q,É,Ä,Á]
  have q1:¬ 30<d:=fun h=>q (.inl h)
  have q2:¬ 2000<=n_:=fun h=>q (.inr h)
  simp only [Ñ q1,Ñ q2,Ä,Á] at st
  cases b with
  |nil =>
   have h:Has M (k+1) (Jm aq++[tS ⟨#[59]⟩]):=h
   obtain⟨y,hy,hh⟩:=Yb (c:=c) (x:=t) (n_:=n_) hM ⟨n0,by omega⟩ (.inl rfl) aq [] (k+1) ha (by simp) (fun q=>by have:=(hc q).1;exact⟨by simp only [Î];omega,this.2.2.1⟩) h
   rcases hh with⟨g,rfl,h2,h3⟩|⟨o,h2,h3,_⟩
   . exact⟨g,st _ (Ev.bind hy Ev.pure),.inl ⟨h2,h3⟩⟩
   . obtain rfl:=h3 rfl
     refine⟨_,st _ (Ev.bind hy Ev.pure),.inr ⟨rfl,?_,?_,?_,?_⟩⟩
     . show k+1+((Jm aq).length:Int)+1=k+((⟨1,0,w,0⟩::(Jm aq++[tS ⟨#[59]⟩]):List Ab).length:Int)
       simp only [Æ,Ç,Î];omega
     . show Ai.mk t.S (o.map Ns) [] 0=.mk w (aq.map nA) [] 0
       rw [h2,e2];rfl
     . show n_+1=n_+(1+0);omega
     . show n_+1<=2000;omega
  |cons f b =>
   have h:Has M (k+1) (Jm aq++(tS ⟨#[123]⟩::(Gp (f::b)++[tS ⟨#[125]⟩]))):=h
   rw [show Jm aq++(tS ⟨#[123]⟩::(Gp (f::b)++[tS ⟨#[125]⟩]))=(Jm aq++[tS ⟨#[123]⟩])++(Gp (f::b)++[tS ⟨#[125]⟩]) by simp] at h
   obtain⟨h,hB⟩:=F3 h
   obtain⟨y,hy,hh⟩:=Yb (c:=c) (x:=t) (n_:=n_) hM ⟨n0,by omega⟩ (.inr rfl) aq [] (k+1) ha (by simp) (fun q=>by have:=(hc q).1;exact⟨by simp only [Î];omega,this.2.2.1⟩) h
   rcases hh with⟨g,rfl,h2,h3⟩|⟨o,h2,_,h3⟩
   . exact⟨g,st _ (Ev.bind hy Ev.pure),.inl ⟨h2,h3⟩⟩
   . obtain rfl:=h3 rfl
     have eB:k+1+((Jm aq++[tS ⟨#[123]⟩]).length:Int)=k+1+((Jm aq).length:Int)+1:=by
      simp only [Æ,Ç,Î];omega
     rw [eB] at hB
     obtain⟨v,hv,_⟩:=K2 (F3 h).2
     have hr2:=(As hv).2
     have w3:À (k+1+((Jm aq).length:Int)+1)=k+1+((Jm aq).length:Int)+1:=by rw [A2]<;>omega
     obtain⟨g,hg,hh⟩:=Aea (c:=c) (x:=t) (aq:=o) (d:=d) hM ⟨d0,by omega⟩ (f::b) [] (k+1+((Jm aq).length:Int)+1) (n_+1) ih (by omega) (by omega) (by simp;omega)
      (fun q=>by have:=hc q;exact⟨this.1.2.2.2,by omega⟩) hB
     refine⟨g,st g (Ev.bind hy ?_),hh.imp (fun h=>h) ?_⟩
     . simp only [w3];exact hg
     . rintro⟨a1,a2,a3,a4,o2,a5,a6⟩
       refine⟨a1,?_,?_,by omega,a4⟩
       . rw [a2]
         show _=k+((⟨1,0,w,0⟩::(Jm aq++(tS ⟨#[123]⟩::(Gp (f::b)++[tS ⟨#[125]⟩]))):List Ab).length:Int)
         simp only [Æ,Ç,Î];omega
       . rw [a5]
         show Ai.mk t.S (o.map Ns) (IB o2) 0=_
         rw [h2,e2,a6];rfl
end Go.Sp
namespace Go.Sp
open Go
def Q7 (a:Ao):Bool :=
 if a.Kind=1 then BQ a.S else if a.Kind=2 then (if a.N<0 then Hl (ngN a.N)&&!decide (a.N < -999999999999999) else Hl a.N) else if a.Kind=3 then H7 a.S
 else if a.Kind=4 then true else if a.Kind=5 then GG a.E else false
mutual
def Hx:Ai->Bool
 |.mk w l b _=>BQ w&&(l.all Q7&&JG b)
def JG:List Ai->Bool
 | []=>true
 |x::l=>Hx x&&JG l
end
def Ahm (a:Ao):Prop:=(Q7 a=true∨a.S.size<=140737488355328)/\(a.Kind=5->Ac4 a.E)
inductive Ae9:Ai->Prop where
 |mk (w:Â) (l:List Ao) (b:List Ai) (p:Int) (hw:BQ w=true∨w.size<=140737488355328) (hl:l.length<=140737488355328) (ha:∀ a∈l,Ahm a) (h:b.length<=140737488355328) (hb:∀ x∈b,Ae9 x):Ae9 ⟨w,l,b,p⟩
theorem Ae2 {p:Aj}{a:Ao}(hb:Ahm a)(hp:p.l.length+(pA a).length<=900000){f:Ai}{j:Nat}(hj:gi f.Args (j:Int)=some a)(hjl:(j:Int)<(f.Args.length:Int))(hfl:f.Args.length<=140737488355328){r:List Ab×Bool}
 (k:Ev (fun n=>AG n f ((j+1:Nat):Int) (p.l++pA a) (p.bad||!Q7 a)) r):Ev (fun n=>AG n f (j:Int) p.l p.bad) r:=by
 have w1:À ((j:Int)+1)=((j+1:Nat):Int):=by rw [A2]<;>omega
 refine Ev.step (fun n=>AG.eq_2 (n:=n) _ _ _ _) ?_
 simp only [Ð hjl,É,hj,Á,w1]
 have hb1:=hb.1
 unfold pA at hp k
 unfold Q7 at k hb1
 by_cases q1:a.Kind=1
 . simp only [Ê q1,Ď] at hp
   simp only [Ê q1] at k
   simp only [show (a.Kind == 1)=true by simpa using q1,É]
   rw [Ê q1] at hb1
   exact Ev.bind (Mp (hb1.elim (fun h=>by have:=JJ h;omega) id) (by show p.l.length<=_;omega)) k
 simp only [È q1] at hp k
 simp only [show (a.Kind == 1)=false by simpa using q1,Ä]
 by_cases q2:a.Kind=2
 . simp only [Ê q2] at hp k
   simp only [show (a.Kind == 2)=true by simpa using q2,É]
   by_cases qn:a.N<0
   . simp only [Ê qn,Æ,Î] at hp
     simp only [Ê qn] at k
     simp only [Ð qn,É]
     refine Ev.bind (Dj (by show p.l.length<=_;omega)) (Ev.bind (Ev.const (JH (by simp only [Ç,Æ,Î];omega))) ?_)
     refine Ev.bind (a:=(p.bad||!(Hl (ngN a.N)&&!decide (a.N < -999999999999999)))) (Ev.const ?_) ?_
     . show (bif (p.bad||!Hl (ngN a.N)) then some true else some (decide (a.N < -999999999999999)):Option Bool)=_
       cases p.bad<;>cases Hl (ngN a.N)<;>simp
     . have e:p.l++[tS ⟨#[45]⟩]++[⟨2,0,⟨#[]⟩,ngN a.N⟩]=p.l++[tS ⟨#[45]⟩,⟨2,0,⟨#[]⟩,ngN a.N⟩]:=by simp
       rw [<- e] at k
       exact k
   . simp only [È qn,Ď] at hp
     simp only [È qn] at k
     simp only [Ñ qn,Ä]
     exact Ev.bind (Ev.const (JH (by show p.l.length<=_;omega))) k
 simp only [È q2] at hp k
 simp only [show (a.Kind == 2)=false by simpa using q2,Ä]
 by_cases q3:a.Kind=3
 . simp only [Ê q3,Ď] at hp
   simp only [Ê q3] at k
   simp only [show (a.Kind == 3)=true by simpa using q3,É]
   rw [È q1,È q2,Ê q3] at hb1
   exact Ev.bind (PG (hb1.elim (fun h=>by have:=Mh h;omega) id) (by show p.l.length<=_;omega)) k
 simp only [È q3] at hp k
 simp only [show (a.Kind == 3)=false by simpa using q3,Ä]
 by_cases q4:a.Kind=4
 . simp only [Ê q4,Ď] at hp
   simp only [Ê q4,à,Ē] at k
   simp only [show (a.Kind == 4)=true by simpa using q4,É]
   exact Ev.bind (Dj (by show p.l.length<=_;omega)) k
 simp only [È q4] at hp k
 simp only [show (a.Kind == 4)=false by simpa using q4,Ä]
 by_cases q5:a.Kind=5
 . simp only [Ê q5,Æ,Ç,Î] at hp
   simp only [Ê q5] at k
   simp only [show (a.Kind == 5)=true by simpa using q5,É]
   have hE:=Ah7 (hb.2 q5)
   refine Ev.bind (Dj (by show p.l.length<=_;omega)) (Ev.bind (hE _ (by simp only [Ç,Æ,Î];omega)) (Ev.bind (Dj (by simp only [Ç,Æ,Î];omega)) ?_))
   have e:p.l++[tS ⟨#[40]⟩]++Cz a.E++[tS ⟨#[41]⟩]=p.l++(tS ⟨#[40]⟩::(Cz a.E++[tS ⟨#[41]⟩])):=by simp
   rw [<- e] at k
   exact k
 . simp only [È q5,ç,é,ċ] at k
   simp only [show (a.Kind == 5)=false by simpa using q5,Ä]
   exact k
theorem Y0 {f:Ai}(hb:∀ a∈f.Args,Ahm a)(hfl:f.Args.length<=140737488355328):∀ (m j:Nat) (p:Aj),j+m=f.Args.length->p.l.length+(Jm (f.Args.drop j)).length<=900000 ->
 Ev (fun n=>AG n f (j:Int) p.l p.bad) (p.l++Jm (f.Args.drop j),p.bad||!(f.Args.drop j).all Q7)
 |0,j,p,h,hp=>by
  refine Ev.step (fun n=>AG.eq_2 (n:=n) _ _ _ _) (Ev.of fun n=>?_)
  rw [Ñ (by omega),Ă (by omega)]
  show some (p.l,p.bad)=some (p.l++[],p.bad||false)
  rw [ç,Ē]
 |m+1,j,p,h,hp=>by
  have hj:j<f.Args.length:=by omega
  have hd:=å hj
  rw [hd] at hp ⊢
  have hp:p.l.length+(pA f.Args[j]++Jm (f.Args.drop (j+1))).length<=900000:=hp
  rw [Ç] at hp
  refine Ae2 (hb _ (Ú hj)) (by omega) (KL hj) (by omega) hfl ?_
  have:=Y0 hb hfl m (j+1) ⟨p.l++pA f.Args[j],p.bad||!Q7 f.Args[j]⟩ (by omega) (by simp only [Ç];omega)
  have e1:p.l++Jm (f.Args[j]::f.Args.drop (j+1))=p.l++pA f.Args[j]++Jm (f.Args.drop (j+1)):=by
   rw [Ý];rfl
  rw [e1,ĉ,ď,<- ą]
  exact this
def PrF (f:Ai):Prop:=∀ p:Aj,p.l.length+(pF f).length<=900000->Ev (fun n=>Bz n p f) ((),⟨p.l++pF f,p.bad||!Hx f⟩)
theorem Yy {f:Ai}(hb:∀ x∈f.Body,PrF x)(hfl:f.Body.length<=140737488355328):∀ (m j:Nat) (p:Aj),j+m=f.Body.length->p.l.length+(Gp (f.Body.drop j)).length<=900000 ->
 Ev (fun n=>Cd n f (j:Int) p.l p.bad) (p.l++Gp (f.Body.drop j),p.bad||!JG (f.Body.drop j))
 |0,j,p,h,hp=>by
  refine Ev.step (fun n=>Cd.eq_2 (n:=n) _ _ _ _) (Ev.of fun n=>?_)
  rw [Ñ (by omega),Ă (by omega)]
  show some (p.l,p.bad)=some (p.l++[],p.bad||false)
  rw [ç,Ē]
 |m+1,j,p,h,hp=>by
  have hj:j<f.Body.length:=by omega
  have w1:À ((j:Int)+1)=((j+1:Nat):Int):=by rw [A2]<;>omega
  have hd:=å hj
  rw [hd] at hp ⊢
  have hp:p.l.length+(pF f.Body[j]++Gp (f.Body.drop (j+1))).length<=900000:=hp
  rw [Ç] at hp
  refine Ev.step (fun n=>Cd.eq_2 (n:=n) _ _ _ _) ?_
  simp only [Ð (show (j:Int)<(f.Body.length:Int) by omega),É,KL hj,Á,w1]
  refine Ev.bind (hb _ (Ú hj) ⟨p.l,p.bad⟩ (by show p.l.length+_<=_;omega)) ?_
  have:=Yy hb hfl m (j+1) ⟨p.l++pF f.Body[j],p.bad||!Hx f.Body[j]⟩ (by omega) (by simp only [Ç];omega)
  have e1:p.l++Gp (f.Body[j]::f.Body.drop (j+1))=p.l++pF f.Body[j]++Gp (f.Body.drop (j+1)):=by
   rw [Ý];rfl
  have e2:(p.bad||!JG (f.Body[j]::f.Body.drop (j+1)))=(p.bad||!Hx f.Body[j]||!JG (f.Body.drop (j+1))):=by
   show (p.bad||!(Hx f.Body[j]&&JG (f.Body.drop (j+1))))=_
   rw [ď,ą]
  rw [e1,e2]
  exact this
theorem Aej {f:Ai}(h:Ae9 f):PrF f:=by
 induction h with
 |mk w l b at_ hw hl ha h47 hb ih =>
  intro p hp
  have hp:p.l.length+(⟨1,0,w,0⟩::(Jm l++(if b.isEmpty then [tS ⟨#[59]⟩] else tS ⟨#[123]⟩::(Gp b++[tS ⟨#[125]⟩]))):List Ab).length<=900000:=hp
  simp only [Æ,Ç] at hp
  refine Ev.step (fun n=>Bz.eq_2 (n:=n) _ _) ?_
  have hw2:w.size<=140737488355328:=hw.elim (fun h=>by have:=JJ h;omega) id
  refine Ev.bind (Mp hw2 (by omega)) ?_
  have hA:=Y0 (f:=⟨w,l,b,at_⟩) ha hl l.length 0 ⟨p.l++[⟨1,0,w,0⟩],p.bad||!BQ w⟩ (by simp) (by simp only [Ą,Ç,Æ,Î];omega)
  rw [Ą] at hA
  refine Ev.bind hA ?_
  cases b with
  |nil =>
   simp only [Î,show (((0:Nat):Int) == 0)=true from rfl,É,Á]
   simp only [List.isEmpty_nil,ë,Æ,Î] at hp
   refine Ev.bind (Dj (by simp only [Ç,Æ,Î];omega)) (Ev.of fun n=>?_)
   show some ((),Aj.mk (p.l++[⟨1,0,w,0⟩]++Jm l++[tS ⟨#[59]⟩]) (p.bad||!BQ w||!l.all Q7))=some ((),⟨p.l++(⟨1,0,w,0⟩::(Jm l++[tS ⟨#[59]⟩])),p.bad||!(BQ w&&(l.all Q7&&true))⟩)
   rw [ē,ď,<- ą]
   simp only [Ý,Ė,ö]
  |cons x b =>
   have e0:((((x::b).length:Nat):Int) == 0)=false:=by rw [ñ];simp only [Æ];omega
   simp only [e0,Ä,Á]
   simp only [List.isEmpty_cons,ß,í,Æ,Ç,Î] at hp
   refine Ev.bind (Dj (by simp only [Ç,Æ,Î];omega)) ?_
   have hB:=Yy (f:=⟨w,l,x::b,at_⟩) ih h47 (x::b).length 0 ⟨p.l++[⟨1,0,w,0⟩]++Jm l++[tS ⟨#[123]⟩],p.bad||!BQ w||!l.all Q7⟩ (by simp) (by simp only [Ą,Ç,Æ,Î];omega)
   rw [Ą] at hB
   refine Ev.bind hB (Ev.bind (Dj (by simp only [Ç,Æ,Î];omega)) (Ev.of fun n=>?_))
   show some ((),Aj.mk (p.l++[⟨1,0,w,0⟩]++Jm l++[tS ⟨#[123]⟩]++Gp (x::b)++[tS ⟨#[125]⟩]) (p.bad||!BQ w||!l.all Q7||!JG (x::b)))=some ((),⟨p.l++(⟨1,0,w,0⟩::(Jm l++(tS ⟨#[123]⟩::(Gp (x::b)++[tS ⟨#[125]⟩])))),p.bad||!(BQ w&&(l.all Q7&&JG (x::b)))⟩)
   rw [ď,ď,<- ą,<- ą]
   simp only [Ý,Ė,ö]
theorem Q1 {l:List Ai}(hb:∀ x∈l,PrF x)(hfl:l.length<=140737488355328):∀ (m j:Nat) (p:Aj),j+m=l.length->p.l.length+(Gp (l.drop j)).length<=900000 ->
 Ev (fun n=>DP n l (j:Int) p.l p.bad) (p.l++Gp (l.drop j),p.bad||!JG (l.drop j))
 |0,j,p,h,hp=>by
  refine Ev.step (fun n=>DP.eq_2 (n:=n) _ _ _ _) (Ev.of fun n=>?_)
  rw [Ñ (by omega),Ă (by omega)]
  show some (p.l,p.bad)=some (p.l++[],p.bad||false)
  rw [ç,Ē]
 |m+1,j,p,h,hp=>by
  have hj:j<l.length:=by omega
  have w1:À ((j:Int)+1)=((j+1:Nat):Int):=by rw [A2]<;>omega
  have hd:=å hj
  rw [hd] at hp ⊢
  have hp:p.l.length+(pF l[j]++Gp (l.drop (j+1))).length<=900000:=hp
  rw [Ç] at hp
  refine Ev.step (fun n=>DP.eq_2 (n:=n) _ _ _ _) ?_
  simp only [Ð (show (j:Int)<(l.length:Int) by omega),É,KL hj,Á,w1]
  refine Ev.bind (hb _ (Ú hj) ⟨p.l,p.bad⟩ (by show p.l.length+_<=_;omega)) ?_
  have:=Q1 hb hfl m (j+1) ⟨p.l++pF l[j],p.bad||!Hx l[j]⟩ (by omega) (by simp only [Ç];omega)
  have e1:p.l++Gp (l[j]::l.drop (j+1))=p.l++pF l[j]++Gp (l.drop (j+1)):=by
   rw [Ý];rfl
  have e2:(p.bad||!JG (l[j]::l.drop (j+1)))=(p.bad||!Hx l[j]||!JG (l.drop (j+1))):=by
   show (p.bad||!(Hx l[j]&&JG (l.drop (j+1))))=_
   rw [ď,ą]
  rw [e1,e2]
  exact this
end Go.Sp

namespace Go.Sp
open Go
inductive Shape:List Lx.Tok->Prop where
 |one (n:Nat):Shape [⟨5,n,[],0⟩]
 |cons (t:Lx.Tok) (l:List Lx.Tok) (h5:t.kind≠5) (h2:t.kind=2->t.s=[]) (h3:t.kind≠2->t.n=0) (h:Shape l):Shape (t::l)
theorem Ti:∀ (r b:List UInt8) {k v:Nat} {s t:List UInt8},Lx.text b r=.ok k s v t->k=3/\v=0
 | [],b,k,v,s,t,h=>by unfold Lx.text at h;split at h<;>cases h
 |c::r,b,k,v,s,t,h=>by
  unfold Lx.text at h
  split at h
  . cases h
  . split at h
    . cases h;exact⟨rfl,rfl⟩
    . split at h
      . split at h
        . cases h
        . rename_i d r'
          split at h
          . cases h
          . exact Ti r' _ h
      . split at h
        . cases h
        . exact Ti r _ h
termination_by r=>r.length
theorem Ql:∀ (r b:List UInt8) {e:Nat},Lx.text b r=.bad e->e≠0
 | [],b,e,h=>by unfold Lx.text at h;split at h<;>cases h<;>decide
 |c::r,b,e,h=>by
  unfold Lx.text at h
  split at h
  . cases h;decide
  . split at h
    . cases h
    . split at h
      . split at h
        . cases h;decide
        . rename_i d r'
          split at h
          . cases h;decide
          . exact Ql r' _ h
      . split at h
        . cases h;decide
        . exact Ql r _ h
termination_by r=>r.length
theorem Af3 {r:List UInt8}{k v:Nat}{s t:List UInt8}(h:Lx.tok r=.ok k s v t):k≠5/\(k=2->s=[])/\(k≠2->v=0):=by
 unfold Lx.tok at h
 split at h
 . cases h
 . split at h
   . unfold Lx.name at h
     split at h
     . cases h
     . cases h;exact⟨by decide,fun h=>absurd h (by decide),fun _=>rfl⟩
   . split at h
     . unfold Lx.number at h
       simp only at h
       split at h
       . cases h
       . cases h;exact⟨by decide,fun _=>rfl,fun h=>absurd rfl h⟩
     . split at h
       . obtain⟨rfl,rfl⟩:=Ti _ _ h
         exact⟨by decide,fun h=>absurd h (by decide),fun _=>rfl⟩
       . unfold Lx.sign at h
         split at h
         . cases h;exact⟨by decide,fun h=>absurd h (by decide),fun _=>rfl⟩
         . split at h
           . cases h
           . split at h
             . cases h;exact⟨by decide,fun h=>absurd h (by decide),fun _=>rfl⟩
             . cases h
theorem Adf {r:List UInt8}{e:Nat}(h:Lx.tok r=.bad e):e≠0:=by
 unfold Lx.tok at h
 split at h
 . cases h;decide
 . split at h
   . unfold Lx.name at h
     split at h
     . cases h;decide
     . cases h
   . split at h
     . unfold Lx.number at h
       simp only at h
       split at h
       . cases h;decide
       . cases h
     . split at h
       . exact Ql _ _ h
       . unfold Lx.sign at h
         split at h
         . cases h
         . split at h
           . cases h;decide
           . split at h
             . cases h
             . cases h;decide
theorem I9 {n:Nat}:∀ (f:Nat) (r:List UInt8),(∀ l,Lx.toks n f r=.ok l->Shape l/\l.length<=f+1)/\∀ p e,Lx.toks n f r=.error (p,e)->e≠0
 |0,r=>⟨fun l h=>by unfold Lx.toks at h;cases h;exact⟨.one _,by simp⟩,fun p e h=>by unfold Lx.toks at h;cases h⟩
 |f+1,[]=>⟨fun l h=>by unfold Lx.toks at h;cases h;exact⟨.one _,by simp⟩,fun p e h=>by unfold Lx.toks at h;cases h⟩
 |f+1,c::r=>by
  constructor
  . intro l h
    unfold Lx.toks at h
    simp only at h
    split at h
    . cases h
    . rename_i k s v t ht
      obtain⟨h1,h2,h3⟩:=Af3 ht
      split at h
      . cases h
      . rename_i l' hl
        cases h
        obtain⟨h4,h5⟩:=(I9 f _).1 _ hl
        exact⟨.cons _ _ h1 h2 h3 h4,by simp only [Æ];omega⟩
  . intro p e h
    unfold Lx.toks at h
    simp only at h
    split at h
    . rename_i e' ht
      cases h
      exact Adf ht
    . split at h
      . rename_i x hx
        cases h
        exact (I9 f _).2 _ _ hx
      . cases h
theorem Shape.next {l:List Lx.Tok}(h:Shape l):∀ (k:Nat) (t:Lx.Tok),l[k]?=some t->t.kind≠5->∃ t',l[k+1]?=some t':=by
 induction h with
 |one n =>
  intro k t ht h5
  cases k with
  |zero=>cases ht;exact absurd rfl h5
  |succ k=>simp at ht
 |cons t l h5 h2 h3 h ih =>
  intro k t' ht h5'
  cases k with
  |zero =>
   cases h with
   |one n=>exact⟨_,rfl⟩
   |cons t2 l2 _ _ _ _=>exact⟨_,rfl⟩
  |succ k =>
   rw [List.getElem?_cons_succ] at ht ⊢
   exact ih k t' ht h5'
theorem Shape.mem {l:List Lx.Tok}(h:Shape l):∀ t∈l,(t.kind=2->t.s=[])/\(t.kind≠2->t.n=0):=by
 induction h with
 |one n=>intro t ht;obtain rfl:=List.mem_singleton.1 ht;exact⟨fun h=>absurd h (show (5:Nat)≠2 by decide),fun _=>rfl⟩
 |cons t l h5 h2 h3 h ih =>
  intro t' ht
  rcases List.mem_cons.1 ht with rfl|ht
  . exact⟨h2,h3⟩
  . exact ih t' ht
theorem Qt {l:List Lx.Tok}(h:Shape l)(hl:l.length<=1000000):MA (l.map N4)/\∃ t,gi (l.map N4) 0=some t:=by
 refine⟨⟨fun k t ht h5=>?_,by rw [Ó];exact hl,fun t ht h2=>?_,fun t ht h2=>?_⟩,?_⟩
 . have hk:=(As ht).2
   unfold gi at ht ⊢
   rw [Ê hk.1,â] at ht
   cases e:l[k.toNat]? with
   |none=>rw [e] at ht;cases ht
   |some t0 =>
    rw [e] at ht
    obtain rfl:=Ac ht
    obtain⟨t',h'⟩:=h.next k.toNat t0 e (fun h6=>h5 (by show ((t0.kind:Nat):Int)=5;rw [h6];rfl))
    refine⟨N4 t',?_⟩
    rw [Ê (by omega),show (k+1).toNat=k.toNat+1 by omega,â,h'];rfl
 . obtain⟨t0,h0,rfl⟩:=List.mem_map.1 ht
   have h3:=(h.mem t0 h0).1 (by have:((t0.kind:Nat):Int)=2:=h2;omega)
   show (⟨⟨t0.s⟩⟩:Â)=_
   rw [h3]
 . obtain⟨t0,h0,rfl⟩:=List.mem_map.1 ht
   have h3:=(h.mem t0 h0).2 (fun e=>h2 (by show ((t0.kind:Nat):Int)=2;rw [e];rfl))
   show ((t0.n:Nat):Int)=0
   rw [h3];rfl
 . cases h with
   |one n=>exact⟨_,rfl⟩
   |cons t l _ _ _ _=>exact⟨_,rfl⟩
theorem Aey (src:Â):∃ L pr,OA src=some (L,pr)/\JE src=some ⟨L,pr⟩/\((pr=⟨0,0⟩/\MA L/\∃ t,gi L 0=some t)∨pr.E≠0):=by
 refine⟨(FN src).1,(FN src).2,rfl,rfl,?_⟩
 unfold FN
 by_cases h:65536<src.size
 . rw [Ê h];exact .inr (show (2:Int)≠0 by decide)
 . rw [È h]
   cases ht:Lx.tokens src.data.toList with
   |ok ts =>
    obtain⟨h1,h2⟩:=(I9 _ _).1 _ ht
    have h3:src.data.toList.length=src.size:=rfl
    exact .inl ⟨rfl,Qt h1 (by omega)⟩
   |error x =>
    obtain⟨p,e⟩:=x
    have:=(I9 _ _).2 _ _ ht
    exact .inr (show ((e:Nat):Int)≠0 by omega)
section
variable {L:List Ab} (hL:MA L) {P:Am}
include hL
theorem Yx:∀ (r:Nat) (k n:Int) (out:List Ai) (t:Ab),gi L k=some t->0<=n->n<=2000->(out.length:Int)<=k->MK out->(L.length:Int)-k<=r ->
 ∃ u w,Ev (fun m=>Cp m ⟨L,P⟩ out k n) u/\Ev (fun m=>B5 m out (L.drop k.toNat) n) w /\
  ((∃ out' k' t' n',gi L k'=some t'/\t'.Kind=5/\MK out'/\u=.inl out'/\w=.inl (out',L.drop k'.toNat,n')) ∨
   (∃ (pr:Ap) (x:Aa),pr.E≠0/\u=.inr ⟨[],x,⟨pr.At,pr.E⟩⟩/\∃ c,w=.inr (.pan pr c)))
 |0,k,n,out,t,ht,hn0,hn,ho,hf,hr=>by have:=(As ht).2;omega
 |r+1,k,n,out,t,ht,hn0,hn,ho,hf,hr=>by
  have hk:=(As ht).2
  have hl:=hL.len
  have hp:L.drop k.toNat=t::L.drop (k+1).toNat:=(As ht).1
  by_cases c1:t.Kind=5
  . have c1':(t.Kind != 5)=false:=by simpa using c1
    refine⟨.inl out,.inl (out,L.drop k.toNat,n),Ev.step (fun m=>Cp.eq_2 (n:=m) _ _ _ _) (Ev.of fun m=>?_),Ev.step (fun m=>B5.eq_2 (n:=m) _ _ _) (Ev.of fun m=>?_),.inl ⟨out,k,t,n,ht,c1,hf,rfl,rfl⟩⟩
    . simp only [ht,Á,c1',Ä]
    . rw [hp];simp only [Jp,Á,c1',Ä]
  . have c1':(t.Kind != 5)=true:=by simpa using c1
    obtain⟨g,y,hg,hy,t2,ht2,hc⟩:=Afs hL L.length k t ht (by omega) 1 n hn0 hn
    have fg:JW g.F:=by obtain⟨m,hm⟩:=hg.get;exact (Aiy m).F _ _ _ _ _ hm
    have r1:∀ u,Ev (fun m=>(bif (g.E != 0) then
     (gi L g.To).bind fun x2=>some (.inr (Db.mk [] (Aa.mk 0 0 ⟨#[]⟩ [] 0) (Am.mk x2.At g.E)))
     else Cp m ⟨L,P⟩ (out++[g.F]) g.To g.N:Option ((List Ai) ⊕ Db))) u->Ev (fun m=>Cp m ⟨L,P⟩ out k n) u:=by
     intro u hu
     refine Ev.step (fun m=>Cp.eq_2 (n:=m) _ _ _ _) ?_
     simp only [ht,Á,c1',É]
     refine Ev.bind hg ?_
     refine hu.congr fun m=>?_
     simp only [IP ho (show k<=1000000 by omega) (show 73<=1000 by decide),Á]
    have p1:∀ w,Ev (fun m=>(match y with
     |.ok f s=>B5 m (out++[f]) s.l s.forms
     |.pan e1 s1=>some (.inr (.pan e1 (out,s1.l,s1.forms))):Option (((List Ai)×(List Ab)×Int) ⊕ (Ex Ap ((List Ai)×(List Ab)×Int) Unit)))) w->Ev (fun m=>B5 m out (L.drop k.toNat) n) w:=by
     intro w hw
     refine Ev.step (fun m=>B5.eq_2 (n:=m) _ _ _) ?_
     rw [Dm ht] at hy
     rw [hp]
     simp only [Jp,Á,c1',É]
     refine Ev.bind hy ?_
     refine hw.congr fun m=>?_
     cases y with
     |ok a p=>simp only [IP ho (show k<=1000000 by omega) (show 73<=1000 by decide),Á]
     |pan e p=>rfl
    rcases hc with⟨he,hgt,hN0,hN,rfl⟩|⟨he,f,rfl⟩
    . rw [show (g.E != 0)=false by simpa using he] at r1
      have hk2:=(As ht2).2
      have fo:MK (out++[g.F]):=⟨by simp;omega,fun x hx=>by
       rcases List.mem_append.1 hx with hx|hx
       . exact hf.2 x hx
       . obtain rfl:=List.mem_singleton.1 hx;exact fg⟩
      obtain⟨u,w,hu,hw,hc⟩:=Yx r g.To g.N (out++[g.F]) t2 ht2 hN0 hN (by simp;omega) fo (by omega)
      exact⟨u,w,r1 u hu,p1 w hw,hc⟩
    . rw [show (g.E != 0)=true by simpa using he] at r1
      refine⟨_,_,r1 _ ?_,p1 _ Ev.pure,.inr ⟨⟨t2.At,g.E⟩,⟨0,0,⟨#[]⟩,[],0⟩,he,rfl,_,rfl⟩⟩
      simp only [É,ht2,Á]
      exact Ev.pure
end
theorem Zz (src:Â):∃ l pr x,Ev (fun n=>Dk n src) (l,pr)/\Ev (fun n=>FL n src) ⟨l,x,pr⟩/\MK l/\(pr.E=0->pr=⟨0,0⟩)/\(pr.E≠0->l=[]):=by
 obtain⟨L,pr,h1,h2,⟨rfl,hL,t,ht⟩|he⟩:=Aey src
 . obtain⟨u,w,hu,hw,hc⟩:=Yx hL (P:=⟨0,0⟩) L.length 0 0 [] t ht (by decide) (by decide) (by decide) OE (by omega)
   have hw':Ev (fun m=>B5 m [] L 0) w:=hw
   have rf:∀ r,Ev (fun _=>(match u with
    |.inl out=>some (Db.mk out (Aa.mk 0 0 ⟨#[]⟩ [] 0) (Am.mk 0 0))
    |.inr o=>some o:Option Db)) r->Ev (fun n=>FL n src) r:=by
    rintro r ⟨N,hr⟩
    obtain⟨M,hM⟩:=hu
    refine⟨max N M,fun n hn=>?_⟩
    have a:=hr n (by omega)
    have b:=hM n (by omega)
    simp only at a b ⊢
    rw [<- a]
    unfold FL
    rw [h2]
    simp only [Á,ê,Ä]
    rw [b]
    rfl
   have pf:∀ r,Ev (fun _=>((match w with
    |.inl (out1,q4,q5)=>some (.ok () (out1,q4,q5))
    |.inr o=>some o:Option (Ex Ap ((List Ai)×(List Ab)×Int) Unit)).bind fun y=>(match y with
    |.ok f c=>(gi c.2.1 0).bind fun x=>bif (x.Kind != 5) then
     (AL (Ae.mk c.2.1 c.2.2) 5).bind fun y1=>match y1 with
     |.ok f1 s=>some ((Am.mk 0 0),c.1)
     |.pan e1 s1=>some ((Am.mk e1.At e1.E),c.1)
     else some ((Am.mk 0 0),c.1)
    |.pan e c1=>some ((Am.mk e.At e.E),c1.1):Option (Am×List Ai))).bind fun bad=>(bif (bad.1.E != 0) then some ([],bad.1) else some (bad.2,bad.1):Option (List Ai×Am))) r->Ev (fun n=>Dk n src) r:=by
    rintro r ⟨N,hr⟩
    obtain⟨M,hM⟩:=hw'
    refine⟨max N M,fun n hn=>?_⟩
    have a:=hr n (by omega)
    have b:=hM n (by omega)
    simp only at a b ⊢
    rw [<- a]
    unfold Dk Ea Gb
    rw [h1]
    simp only [Á,ê,Ä]
    rw [b]
    rfl
   rcases hc with⟨out',k',t',n',ht',h5,hf,rfl,rfl⟩|⟨st,x,he,rfl,c,rfl⟩
   . refine⟨out',⟨0,0⟩,_,pf _ ?_,rf _ Ev.pure,hf,fun _=>rfl,fun h=>absurd rfl h⟩
     have hh:gi (L.drop k'.toNat) 0=some t':=by rw [<- Aeg _ (As ht').2.1];exact ht'
     have h5':(t'.Kind != 5)=false:=by simpa using h5
     simp only [Á,hh,h5',Ä,ê]
     exact Ev.pure
   . refine⟨[],⟨st.At,st.E⟩,_,pf _ ?_,rf _ Ev.pure,OE,fun h=>absurd h he,fun _=>rfl⟩
     have he':(st.E != 0)=true:=by simpa using he
     simp only [Á,he',É]
     exact Ev.pure
 . have he':(pr.E != 0)=true:=by simpa using he
   refine⟨[],pr,⟨0,0,⟨#[]⟩,[],0⟩,Ev.of fun n=>?_,Ev.of fun n=>?_,OE,fun h=>absurd h he,fun _=>rfl⟩
   . unfold Dk Ea
     rw [h1]
     simp only [Á,he',É]
   . unfold FL
     rw [h2]
     simp only [Á,he',É]
end Go.Sp



