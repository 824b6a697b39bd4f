/-
  Plain functions with fuel: what holds for all large fuel. The parser's small functions and the reference's. No program.
-/
import Derived.Test.YtgdalmleogphgaaGreatDoorU5
namespace Go.Sp
open Go
def Ev {α:Type}(f:Nat->Option α)(a:α):Prop:=∃ N,∀ n,N<=n->f n=some a
namespace Ev
variable {α β:Type} {f:Nat->Option α} {a:α} {b:β}
theorem const {x:Option α}(h:x=some a):Ev (fun _=>x) a:=⟨0,fun _ _=>h⟩
theorem pure:Ev (fun _=>some a) a:=const rfl
theorem of (h:∀ n,f n=some a):Ev f a:=⟨0,fun n _=>h n⟩
theorem bind {g:Nat->α->Option β}(h:Ev f a)(k:Ev (fun n=>g n a) b):Ev (fun n=>(f n).bind (g n)) b:=by
 obtain⟨N,h⟩:=h
 obtain⟨M,k⟩:=k
 exact⟨max N M,fun n hn=>by
  show (f n).bind (g n)=some b
  rw [h n (by omega)];exact k n (by omega)⟩
theorem step {F:Nat->Option α}(e:∀ n,F (n+1)=f n)(h:Ev f a):Ev F a:=by
 obtain⟨N,h⟩:=h
 refine⟨N+1,fun n hn=>?_⟩
 obtain⟨m,rfl⟩:∃ m,n=m+1:=⟨n-1,by omega⟩
 rw [e];exact h m (by omega)
theorem congr {g:Nat->Option α}(h:Ev g a)(e:∀ n,f n=g n):Ev f a:=by
 obtain⟨N,h⟩:=h
 exact⟨N,fun n hn=>(e n).trans (h n hn)⟩
theorem get (h:Ev f a):∃ n,f n=some a:=by
 obtain⟨N,h⟩:=h
 exact⟨N,h N (Nat.le_refl _)⟩
theorem uniq {a':α}(h:Ev f a)(k:Ev f a'):a=a':=by
 obtain⟨N,h⟩:=h
 obtain⟨M,k⟩:=k
 have:=(h (max N M) (by omega)).symm.trans (k (max N M) (by omega))
 exact Option.some.inj this
end Ev
theorem wrap_id {x:Int}(h1 : -9223372036854775808<=x)(h2:x<9223372036854775808):IntKind.i64.wrap x=x:=by
 rw [IntKind.wrap_i64];omega
theorem gi_drop {α:Type}(l:List α){k:Int}(hk:0<=k):gi l k=gi (l.drop k.toNat) 0:=by
 unfold gi
 rw [if_pos hk,if_pos (by decide),List.getElem?_drop];rfl
theorem drop_of_gi {α:Type}{l:List α}{k:Int}{x:α}(h:gi l k=some x):l.drop k.toNat=x::l.drop (k+1).toNat/\0<=k/\k<(l.length:Int):=by
 unfold gi at h
 split at h
 . rename_i h0
   obtain⟨h1,h2⟩:=List.getElem?_eq_some_iff.1 h
   refine⟨?_,h0,by omega⟩
   rw [List.drop_eq_getElem_cons h1,h2,show (k+1).toNat=k.toNat+1 by omega]
 . cases h
abbrev at_ (l:List api_Token)(k:Int)(f:Int):parse_parser:=⟨l.drop k.toNat,f⟩
theorem is_of {t:api_Token}{r:List api_Token}{f:Int}{s:ByteArray}:parse_parser_is ⟨t::r,f⟩ s=some (t.Kind == 4&&decide (t.S=s)):=by
 unfold parse_parser_is gi
 simp only [Int.le_refl,if_true,Int.toNat_zero,List.getElem?_cons_zero,Option.bind_some]
 cases h:t.Kind == 4<;>simp
theorem gsl_tail {α:Type}{t:α}{r:List α}:gsl (t::r) 1 ((t::r).length:Int)=some r:=by
 have h:(0:Int)<=1/\(1:Int)<=((t::r).length:Int)/\((t::r).length:Int)<=((t::r).length:Int):=⟨by decide,by rw [List.length_cons];omega,Int.le_refl _⟩
 unfold gsl
 rw [if_pos h,Int.toNat_natCast,List.take_length];rfl
theorem gi_head {α:Type}{t:α}{r:List α}:gi (t::r) 0=some t:=rfl
theorem next_of {t:api_Token}{r:List api_Token}{f:Int}:parse_parser_next ⟨t::r,f⟩=some (t,⟨r,f⟩):=by
 unfold parse_parser_next
 show (gi (t::r) 0).bind _=_
 rw [gi_head]
 show (gsl (t::r) 1 ((t::r).length:Int)).bind _=_
 rw [gsl_tail];rfl
theorem fail_of {t:api_Token}{r:List api_Token}{f e:Int}:parse_parser_fail ⟨t::r,f⟩ e=some (.pan ⟨t.At,e⟩ ⟨t::r,f⟩):=by
 unfold parse_parser_fail gi
 simp
theorem begins_of {t:api_Token}{r:List api_Token}{f:Int}:parse_parser_begins ⟨t::r,f⟩=some (t.Kind == 1||(t.Kind == 2||(t.Kind == 3||((t.Kind == 4&&decide (t.S=⟨#[40]⟩))||(t.Kind == 4&&decide (t.S=⟨#[45]⟩)))))):=by
 unfold parse_parser_begins
 rw [is_of,is_of]
 unfold gi
 simp only [Int.le_refl,if_true,Int.toNat_zero,List.getElem?_cons_zero,Option.bind_some]
 cases t.Kind == 1<;>cases t.Kind == 2<;>cases t.Kind == 3<;>cases t.Kind == 4<;>cases decide (t.S=⟨#[40]⟩)<;>cases decide (t.S=⟨#[45]⟩)<;>rfl
theorem sign_of {l:List api_Token}{k:Int}{t:api_Token}{s:ByteArray}(h:gi l k=some t):ref32_sign l k s=some (t.Kind == 4&&decide (t.S=s)):=by
 unfold ref32_sign
 rw [h]
 simp only [Option.bind_some]
 cases t.Kind == 4<;>simp
def beg (t:api_Token):Bool:=t.Kind == 1||(t.Kind == 2||(t.Kind == 3||((t.Kind == 4&&decide (t.S=⟨#[40]⟩))||(t.Kind == 4&&decide (t.S=⟨#[45]⟩)))))
theorem rbegins_of {l:List api_Token}{k:Int}{t:api_Token}(h:gi l k=some t):ref32_begins l k=some (beg t):=by
 unfold ref32_begins beg
 rw [sign_of h,sign_of h,h]
 simp only [Option.bind_some]
 have e:(t.Kind == 1||(t.Kind == 2||t.Kind == 3))=(decide (1<=t.Kind)&&decide (t.Kind<=3)):=by
  rw [Bool.eq_iff_iff];simp only [Bool.or_eq_true,beq_iff_eq,Bool.and_eq_true,decide_eq_true_eq];omega
 cases h1:decide (1<=t.Kind)<;>cases h2:decide (t.Kind<=3)<;>rw [h1,h2] at e<;>simp only [Bool.and_self,Bool.and_true,Bool.and_false,Bool.or_eq_false_iff,Bool.or_eq_true] at e <;>
  cases t.Kind == 4<;>cases decide (t.S=⟨#[40]⟩)<;>cases decide (t.S=⟨#[45]⟩)<;>simp_all
def fst (t:api_Token)(d:Int)(no:Bool):Int:=if (!beg t&&!(no&&(t.Kind == 4&&decide (t.S=⟨#[33]⟩))))=true then 5 else if 30<d then 2 else 0
theorem first_of {l:List api_Token}{k:Int}{t:api_Token}{d:Int}{no:Bool}(h:gi l k=some t):ref32_first l k d no=some (fst t d no):=by
 unfold ref32_first fst
 rw [rbegins_of h,sign_of h]
 simp only [Option.bind_some]
 generalize (t.Kind == 4&&decide (t.S=⟨#[33]⟩))=c
 cases beg t<;>cases no<;>cases c<;>by_cases hd:30<d<;>simp [hd]
theorem deep_of {t:api_Token}{r:List api_Token}{f d:Int}{no:Bool}:parse_parser_deep ⟨t::r,f⟩ d no=some (if fst t d no=0 then .ok () ⟨t::r,f⟩ else .pan ⟨t.At,fst t d no⟩ ⟨t::r,f⟩):=by
 unfold parse_parser_deep fst
 rw [begins_of,is_of]
 show ((((some (beg t)).bind _:Option Bool)).bind _)=_
 simp only [Option.bind_some,fail_of]
 generalize (t.Kind == 4&&decide (t.S=⟨#[33]⟩))=c
 cases beg t<;>cases no<;>cases c<;>by_cases hd:30<d<;>simp [hd,fail_of]
theorem need_of {t:api_Token}{r:List api_Token}{f:Int}{s:ByteArray}:parse_parser_need ⟨t::r,f⟩ s=some (if (t.Kind == 4&&decide (t.S=s))=true then .ok () ⟨r,f⟩ else .pan ⟨t.At,5⟩ ⟨t::r,f⟩):=by
 unfold parse_parser_need
 rw [is_of]
 simp only [Option.bind_some,fail_of,next_of]
 cases (t.Kind == 4&&decide (t.S=s))<;>simp
end Go.Sp
