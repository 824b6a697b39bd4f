/-
  Plain functions with fuel: what holds for all large fuel. The parser's small functions and the reference's. No program.
-/
import Derived.Test.YtgdalmleogphgaaGreatDoorU5
namespace Go.Sp
open Go
def Ev {α:Type}(f:Nat->Option α)(a:α):Prop:=∃ N,∀ n,N<=n->f n=some a
namespace Ev
variable {α β:Type} {f:Nat->Option α} {a:α} {b:β}
theorem const {x:Option α}(h:x=some a):Ev (fun _=>x) a:=⟨0,fun _ _=>h⟩
theorem pure:Ev (fun _=>some a) a:=const rfl
theorem of (h:∀ n,f n=some a):Ev f a:=⟨0,fun n _=>h n⟩
theorem bind {g:Nat->α->Option β}(h:Ev f a)(k:Ev (fun n=>g n a) b):Ev (fun n=>(f n).bind (g n)) b:=by
 obtain⟨N,h⟩:=h
 obtain⟨M,k⟩:=k
 exact⟨max N M,fun n hn=>by
  show (f n).bind (g n)=some b
  rw [h n (by omega)];exact k n (by omega)⟩
theorem step {F:Nat->Option α}(e:∀ n,F (n+1)=f n)(h:Ev f a):Ev F a:=by
 obtain⟨N,h⟩:=h
 refine⟨N+1,fun n hn=>?_⟩
 obtain⟨m,rfl⟩:∃ m,n=m+1:=⟨n-1,by omega⟩
 rw [e];exact h m (by omega)
theorem congr {g:Nat->Option α}(h:Ev g a)(e:∀ n,f n=g n):Ev f a:=by
 obtain⟨N,h⟩:=h
 exact⟨N,fun n hn=>(e n).trans (h n hn)⟩
theorem get (h:Ev f a):∃ n,f n=some a:=by
 obtain⟨N,h⟩:=h
 exact⟨N,h N (Nat.le_refl _)⟩
theorem uniq {a':α}(h:Ev f a)(k:Ev f a'):a=a':=by
 obtain⟨N,h⟩:=h
 obtain⟨M,k⟩:=k
 have:=(h (max N M) (by omega)).symm.trans (k (max N M) (by omega))
 exact Ac this
end Ev
theorem A3 {x:Int}(h1 : -9223372036854775808<=x)(h2:x<9223372036854775808):IntKind.i64.wrap x=x:=by
 rw [IntKind.wrap_i64];omega
theorem QW {α:Type}(l:List α){k:Int}(hk:0<=k):gi l k=gi (l.drop k.toNat) 0:=by
 unfold gi
 rw [if_pos hk,if_pos (by decide),List.getElem?_drop];rfl
theorem Am {α:Type}{l:List α}{k:Int}{x:α}(h:gi l k=some x):l.drop k.toNat=x::l.drop (k+1).toNat/\0<=k/\k<(l.length:Int):=by
 unfold gi at h
 split at h
 . rename_i h0
   obtain⟨h1,h2⟩:=List.getElem?_eq_some_iff.1 h
   refine⟨?_,h0,by omega⟩
   rw [List.drop_eq_getElem_cons h1,h2,show (k+1).toNat=k.toNat+1 by omega]
 . cases h
abbrev at_ (l:List Ab)(k:Int)(f:Int):Ad:=⟨l.drop k.toNat,f⟩
theorem Ng {t:Ab}{r:List Ab}{f:Int}{s:ByteArray}:AP ⟨t::r,f⟩ s=some (t.Kind == 4&&decide (t.S=s)):=by
 unfold AP gi
 simp only [Int.le_refl,if_true,Int.toNat_zero,List.getElem?_cons_zero,Option.bind_some]
 cases h:t.Kind == 4<;>simp
theorem Tz {α:Type}{t:α}{r:List α}:V9 (t::r) 1 ((t::r).length:Int)=some r:=by
 have h:(0:Int)<=1/\(1:Int)<=((t::r).length:Int)/\((t::r).length:Int)<=((t::r).length:Int):=⟨by decide,by rw [List.length_cons];omega,Int.le_refl _⟩
 unfold V9
 rw [if_pos h,Int.toNat_natCast,List.take_length];rfl
theorem F2 {α:Type}{t:α}{r:List α}:gi (t::r) 0=some t:=rfl
theorem Dz {t:Ab}{r:List Ab}{f:Int}:AA ⟨t::r,f⟩=some (t,⟨r,f⟩):=by
 unfold AA
 show (gi (t::r) 0).bind _=_
 rw [F2]
 show (V9 (t::r) 1 ((t::r).length:Int)).bind _=_
 rw [Tz];rfl
theorem E7 {t:Ab}{r:List Ab}{f e:Int}:AN ⟨t::r,f⟩ e=some (.pan ⟨t.At,e⟩ ⟨t::r,f⟩):=by
 unfold AN gi
 simp
theorem FB {t:Ab}{r:List Ab}{f:Int}:BA ⟨t::r,f⟩=some (t.Kind == 1||(t.Kind == 2||(t.Kind == 3||((t.Kind == 4&&decide (t.S=⟨#[40]⟩))||(t.Kind == 4&&decide (t.S=⟨#[45]⟩)))))):=by
 unfold BA
 rw [Ng,Ng]
 unfold gi
 simp only [Int.le_refl,if_true,Int.toNat_zero,List.getElem?_cons_zero,Option.bind_some]
 cases t.Kind == 1<;>cases t.Kind == 2<;>cases t.Kind == 3<;>cases t.Kind == 4<;>cases decide (t.S=⟨#[40]⟩)<;>cases decide (t.S=⟨#[45]⟩)<;>rfl
theorem AG {l:List Ab}{k:Int}{t:Ab}{s:ByteArray}(h:gi l k=some t):A2 l k s=some (t.Kind == 4&&decide (t.S=s)):=by
 unfold A2
 rw [h]
 simp only [Option.bind_some]
 cases t.Kind == 4<;>simp
def Fh (t:Ab):Bool:=t.Kind == 1||(t.Kind == 2||(t.Kind == 3||((t.Kind == 4&&decide (t.S=⟨#[40]⟩))||(t.Kind == 4&&decide (t.S=⟨#[45]⟩)))))
theorem EF {l:List Ab}{k:Int}{t:Ab}(h:gi l k=some t):DV l k=some (Fh t):=by
 unfold DV Fh
 rw [AG h,AG h,h]
 simp only [Option.bind_some]
 have e:(t.Kind == 1||(t.Kind == 2||t.Kind == 3))=(decide (1<=t.Kind)&&decide (t.Kind<=3)):=by
  rw [Bool.eq_iff_iff];simp only [Bool.or_eq_true,beq_iff_eq,Bool.and_eq_true,decide_eq_true_eq];omega
 cases h1:decide (1<=t.Kind)<;>cases h2:decide (t.Kind<=3)<;>rw [h1,h2] at e<;>simp only [Bool.and_self,Bool.and_true,Bool.and_false,Bool.or_eq_false_iff,Bool.or_eq_true] at e <;>
  cases t.Kind == 4<;>cases decide (t.S=⟨#[40]⟩)<;>cases decide (t.S=⟨#[45]⟩)<;>simp_all
def fst (t:Ab)(d:Int)(no:Bool):Int:=if (!Fh t&&!(no&&(t.Kind == 4&&decide (t.S=⟨#[33]⟩))))=true then 5 else if 30<d then 2 else 0
theorem CC {l:List Ab}{k:Int}{t:Ab}{d:Int}{no:Bool}(h:gi l k=some t):Dr l k d no=some (fst t d no):=by
 unfold Dr fst
 rw [EF h,AG h]
 simp only [Option.bind_some]
 generalize (t.Kind == 4&&decide (t.S=⟨#[33]⟩))=c
 cases Fh t<;>cases no<;>cases c<;>by_cases hd:30<d<;>simp [hd]
theorem Hq {t:Ab}{r:List Ab}{f d:Int}{no:Bool}:BP ⟨t::r,f⟩ d no=some (if fst t d no=0 then .ok () ⟨t::r,f⟩ else .pan ⟨t.At,fst t d no⟩ ⟨t::r,f⟩):=by
 unfold BP fst
 rw [FB,Ng]
 show ((((some (Fh t)).bind _:Option Bool)).bind _)=_
 simp only [Option.bind_some,E7]
 generalize (t.Kind == 4&&decide (t.S=⟨#[33]⟩))=c
 cases Fh t<;>cases no<;>cases c<;>by_cases hd:30<d<;>simp [hd,E7]
theorem UB {t:Ab}{r:List Ab}{f:Int}{s:ByteArray}:Bg ⟨t::r,f⟩ s=some (if (t.Kind == 4&&decide (t.S=s))=true then .ok () ⟨r,f⟩ else .pan ⟨t.At,5⟩ ⟨t::r,f⟩):=by
 unfold Bg
 rw [Ng]
 simp only [Option.bind_some,E7,Dz]
 cases (t.Kind == 4&&decide (t.S=s))<;>simp
end Go.Sp
