/-
  The program's parser answers as the reference's: expressions. No program.
-/
import Derived.Test.YtgdalmleogphgaaGreatDoorU7
namespace Go.Sp
open Go
set_option linter.unusedSimpArgs false
structure Toks (L:List api_Token):Prop where
 next:∀ k t,gi L k=some t->t.Kind≠5->∃ t',gi L (k+1)=some t'
 len:L.length<=1000000
 num:∀ t∈L,t.Kind=2->t.S=⟨#[]⟩
 other:∀ t∈L,t.Kind≠2->t.N=0
theorem mem_of_gi {α:Type}{l:List α}{k:Int}{x:α}(h:gi l k=some x):x∈l:=by
 unfold gi at h
 split at h
 . exact List.mem_of_getElem? h
 . cases h
def Corr (L:List api_Token)(f:Int)(g:ref32_Got)(y:Ex parse_stop parse_parser api_Expr):Prop :=
 ∃ t,gi L g.To=some t/\((g.E=0/\y=.ok g.X (at_ L g.To f))∨(g.E≠0/\y=.pan ⟨t.At,g.E⟩ (at_ L g.To f)))
theorem Corr.ok {L:List api_Token}{f:Int}{g:ref32_Got}{y:Ex parse_stop parse_parser api_Expr}(h:Corr L f g y)(e:g.E=0):∃ t,gi L g.To=some t/\y=.ok g.X (at_ L g.To f):=by
 obtain⟨t,ht,⟨_,hy⟩|⟨h,_⟩⟩:=h
 . exact⟨t,ht,hy⟩
 . exact absurd e h
theorem Corr.pan {L:List api_Token}{f:Int}{g:ref32_Got}{y:Ex parse_stop parse_parser api_Expr}(h:Corr L f g y)(e:g.E≠0):∃ t,gi L g.To=some t/\y=.pan ⟨t.At,g.E⟩ (at_ L g.To f):=by
 obtain⟨t,ht,⟨h,_⟩|⟨_,hy⟩⟩:=h
 . exact absurd h e
 . exact⟨t,ht,hy⟩
theorem at_of {L:List api_Token}{k f:Int}{t:api_Token}(h:gi L k=some t):at_ L k f=⟨t::L.drop (k+1).toNat,f⟩:=by
 unfold at_;rw [(drop_of_gi h).1]
theorem wrap_k {L:List api_Token}(hL:Toks L){k:Int}{t:api_Token}(h:gi L k=some t):IntKind.i64.wrap (k+1)=k+1:=by
 have:=(drop_of_gi h).2
 have:=hL.len
 rw [wrap_id]<;>omega
theorem isS_kind {t:api_Token}{s:ByteArray}(h:isS t s=true):t.Kind=4:=by
 unfold isS at h
 simp only [Bool.and_eq_true,beq_iff_eq] at h;exact h.1
theorem sgn_some {L:List api_Token}{k:Int}{s:ByteArray}{b:Bool}(h:ref32_sign L k s=some b):∃ t,gi L k=some t/\b=isS t s:=by
 cases e:gi L k with
 |none=>unfold ref32_sign at h;rw [e] at h;cases h
 |some t=>rw [sign_of e] at h;exact⟨t,rfl,(Option.some.inj h).symm⟩
theorem fst_some {L:List api_Token}{k d:Int}{no:Bool}{e:Int}(h:ref32_first L k d no=some e):∃ t,gi L k=some t/\e=fst t d no:=by
 cases e':gi L k with
 |none =>
  unfold ref32_first ref32_begins ref32_sign at h
  rw [e'] at h;cases h
 |some t=>rw [first_of e'] at h;exact⟨t,rfl,(Option.some.inj h).symm⟩
theorem is_S {t:api_Token}{r:List api_Token}{f:Int}{s:ByteArray}:parse_parser_is ⟨t::r,f⟩ s=some (isS t s):=is_of
theorem need_S {t:api_Token}{r:List api_Token}{f:Int}{s:ByteArray}:parse_parser_need ⟨t::r,f⟩ s=some (if isS t s=true then .ok () ⟨r,f⟩ else .pan ⟨t.At,5⟩ ⟨t::r,f⟩):=need_of
theorem fst_err {t:api_Token}{d:Int}{no:Bool}:fst t d no=0∨fst t d no=5∨fst t d no=2:=by
 unfold fst;split
 . simp
 . split<;>simp
section
variable {L:List api_Token} (hL:Toks L) (f:Int)
def SE (L:List api_Token)(f:Int)(n:Nat):Prop:=∀ k d g,ref32_expr n L k d=some g->∃ y,Ev (fun m=>parse_parser_expr m (at_ L k f) d) y/\Corr L f g y
def SB (L:List api_Token)(f:Int)(n:Nat):Prop:=∀ k lv d g,1<=lv->lv<=7->ref32_binary n L k lv d=some g->∃ y,Ev (fun m=>parse_parser_level m (at_ L k f) lv d) y/\Corr L f g y
def SG (L:List api_Token)(f:Int)(n:Nat):Prop:=∀ k d g,ref32_bang n L k d=some g->∃ y,Ev (fun m=>parse_parser_level m (at_ L k f) 3 d) y/\Corr L f g y
def SM (L:List api_Token)(f:Int)(n:Nat):Prop:=∀ k d g,ref32_minus n L k d=some g->∃ y,Ev (fun m=>parse_parser_neg m (at_ L k f) d) y/\Corr L f g y
def SA (L:List api_Token)(f:Int)(n:Nat):Prop:=∀ k d g t,gi L k=some t->isS t ⟨#[45]⟩=false->ref32_atom n L k d=some g->∃ y,Ev (fun m=>parse_parser_atom m (at_ L k f) d) y/\Corr L f g y
include hL
theorem stepE {n:Nat}(hE:SE L f n)(hB:SB L f n):SE L f (n+1):=by
 intro k d g h
 rw [ref32_expr.eq_2] at h
 obtain⟨e,h1,h⟩:=bindS h
 obtain⟨t,ht,rfl⟩:=fst_some h1
 rcases condS h with⟨c,h⟩|⟨c,h⟩
 . obtain rfl:=Option.some.inj h
   have c':fst t d true≠0:=by simpa using c
   refine⟨.pan ⟨t.At,fst t d true⟩ (at_ L k f),?_,t,ht,.inr ⟨c',rfl⟩⟩
   refine Ev.step (fun m=>parse_parser_expr.eq_2 (n:=m) _ _) ?_
   rw [at_of ht]
   simp only [deep_of,if_neg c',Option.bind_some]
   exact Ev.pure
 . have c':fst t d true=0:=by simpa using c
   obtain⟨c1,h1,h⟩:=bindS h
   obtain⟨y,hy,hc⟩:=hB k 1 d c1 (by decide) (by decide) h1
   have start:∀ z,Ev (fun m=>match y with
    |.ok e1 p3 =>
     (parse_parser_is p3 ⟨#[63]⟩).bind fun i =>
     bif (!i) then
      some (.ok e1 p3)
     else
      (parse_parser_next p3).bind fun n_ =>
      (parse_parser_expr m n_.2 (IntKind.i64.wrap (d+1))).bind fun y2=>match y2 with
      |.ok a_ p5 =>
       (parse_parser_need p5 ⟨#[58]⟩).bind fun y3=>match y3 with
       |.ok n_1 p7 =>
        (parse_parser_expr m p7 (IntKind.i64.wrap (d+1))).bind fun y4=>match y4 with
        |.ok e5 p9 =>
         (some [e1,a_,e5]).bind fun l =>
         some (.ok (api_Expr.mk 20 0 ⟨#[]⟩ l e1.At) p9)
        |.pan e6 p10=>some (.pan e6 p10)
       |.pan e4 p8=>some (.pan e4 p8)
      |.pan e3 p6=>some (.pan e3 p6)
    |.pan e2 p4=>some (.pan e2 p4)) z->Ev (fun m=>parse_parser_expr m (at_ L k f) d) z:=by
    intro z hz
    refine Ev.step (fun m=>parse_parser_expr.eq_2 (n:=m) _ _) ?_
    rw [at_of ht] at hy ⊢
    simp only [deep_of,if_pos c',Option.bind_some]
    exact Ev.bind hy hz
   rcases condS h with⟨c2,h⟩|⟨c2,h⟩
   . obtain rfl:=Option.some.inj h
     have c2':c1.E≠0:=by simpa using c2
     obtain⟨t1,ht1,rfl⟩:=hc.pan c2'
     exact⟨_,start _ Ev.pure,t1,ht1,.inr ⟨c2',rfl⟩⟩
   . have c2':c1.E=0:=by simpa using c2
     obtain⟨t1,ht1,rfl⟩:=hc.ok c2'
     obtain⟨a,h2,h⟩:=bindS h
     obtain⟨t2,ht2,rfl⟩:=sgn_some h2
     obtain rfl:t1=t2:=Option.some.inj (ht1.symm.trans ht2)
     rcases condS h with⟨c3,h⟩|⟨c3,h⟩
     . obtain rfl:=Option.some.inj h
       refine⟨_,start (.ok c1.X (at_ L c1.To f)) ?_,t1,ht1,.inl ⟨c2',rfl⟩⟩
       have c3':isS t1 ⟨#[63]⟩=false:=by simpa using c3
       rw [at_of ht1]
       simp only [is_S,c3',Option.bind_some,Bool.not_false,cond_true]
       exact Ev.pure
     . have c3':isS t1 ⟨#[63]⟩=true:=by simpa using c3
       obtain⟨t3,ht3⟩:=hL.next _ _ ht1 (by rw [isS_kind c3'];decide)
       rw [wrap_k hL ht1] at h
       obtain⟨g2,h3,h⟩:=bindS h
       obtain⟨y2,hy2,hc2⟩:=hE _ _ _ h3
       have e1:∀ z,Ev (fun m=>match y2 with
        |.ok a_ p5 =>
         (parse_parser_need p5 ⟨#[58]⟩).bind fun y3=>match y3 with
         |.ok n_1 p7 =>
          (parse_parser_expr m p7 (IntKind.i64.wrap (d+1))).bind fun y4=>match y4 with
          |.ok e5 p9 =>
           (some [c1.X,a_,e5]).bind fun l =>
           some (.ok (api_Expr.mk 20 0 ⟨#[]⟩ l c1.X.At) p9)
          |.pan e6 p10=>some (.pan e6 p10)
         |.pan e4 p8=>some (.pan e4 p8)
        |.pan e3 p6=>some (.pan e3 p6)) z->Ev (fun m=>parse_parser_expr m (at_ L k f) d) z:=by
        intro z hz
        refine start z ?_
        rw [at_of ht1]
        simp only [is_S,c3',next_of,Option.bind_some,Bool.not_true,cond_false]
        exact Ev.bind hy2 hz
       rcases condS h with⟨c4,h⟩|⟨c4,h⟩
       . obtain rfl:=Option.some.inj h
         have c4':g2.E≠0:=by simpa using c4
         obtain⟨t4,ht4,rfl⟩:=hc2.pan c4'
         exact⟨_,e1 _ Ev.pure,t4,ht4,.inr ⟨c4',rfl⟩⟩
       . have c4':g2.E=0:=by simpa using c4
         obtain⟨t4,ht4,rfl⟩:=hc2.ok c4'
         obtain⟨a2,h5,h⟩:=bindS h
         obtain⟨t5,ht5,rfl⟩:=sgn_some h5
         obtain rfl:t4=t5:=Option.some.inj (ht4.symm.trans ht5)
         rcases condS h with⟨c5,h⟩|⟨c5,h⟩
         . obtain rfl:=Option.some.inj h
           have c5':isS t4 ⟨#[58]⟩=false:=by simpa using c5
           refine⟨_,e1 (.pan ⟨t4.At,5⟩ (at_ L g2.To f)) ?_,t4,ht4,.inr ⟨show (5:Int)≠0 by decide,rfl⟩⟩
           rw [at_of ht4]
           simp only [need_S,c5',Option.bind_some,Bool.false_eq_true,if_false]
           exact Ev.pure
         . have c5':isS t4 ⟨#[58]⟩=true:=by simpa using c5
           obtain⟨t6,ht6⟩:=hL.next _ _ ht4 (by rw [isS_kind c5'];decide)
           rw [wrap_k hL ht4] at h
           obtain⟨g3,h6,h⟩:=bindS h
           obtain⟨y3,hy3,hc3⟩:=hE _ _ _ h6
           have e2:∀ z,Ev (fun m=>match y3 with
            |.ok e5 p9 =>
             (some [c1.X,g2.X,e5]).bind fun l =>
             some (.ok (api_Expr.mk 20 0 ⟨#[]⟩ l c1.X.At) p9)
            |.pan e6 p10=>some (.pan e6 p10)) z->Ev (fun m=>parse_parser_expr m (at_ L k f) d) z:=by
            intro z hz
            refine e1 z ?_
            rw [at_of ht4]
            simp only [need_S,c5',Option.bind_some,if_true]
            exact Ev.bind hy3 hz
           rcases condS h with⟨c6,h⟩|⟨c6,h⟩
           . obtain rfl:=Option.some.inj h
             have c6':g3.E≠0:=by simpa using c6
             obtain⟨t7,ht7,rfl⟩:=hc3.pan c6'
             exact⟨_,e2 _ Ev.pure,t7,ht7,.inr ⟨c6',rfl⟩⟩
           . have c6':g3.E=0:=by simpa using c6
             obtain⟨t7,ht7,rfl⟩:=hc3.ok c6'
             obtain rfl:=Option.some.inj h
             exact⟨_,e2 _ Ev.pure,t7,ht7,.inl ⟨rfl,rfl⟩⟩
theorem stepM {n:Nat}(hM:SM L f n)(hA:SA L f n):SM L f (n+1):=by
 intro k d g h
 rw [ref32_minus.eq_2] at h
 obtain⟨b,h1,h⟩:=bindS h
 obtain⟨t,ht,rfl⟩:=sgn_some h1
 rcases condS h with⟨c,h⟩|⟨c,h⟩
 . have c':isS t ⟨#[45]⟩=false:=by simpa using c
   obtain⟨g1,h2,h⟩:=bindS h
   obtain rfl:=Option.some.inj h
   obtain⟨y,hy,hc⟩:=hA _ _ _ t ht c' h2
   refine⟨y,?_,hc⟩
   refine Ev.step (fun m=>parse_parser_neg.eq_2 (n:=m) _ _) ?_
   rw [at_of ht] at hy ⊢
   simp only [is_S,c',Option.bind_some,Bool.not_false,cond_true]
   refine Ev.bind hy ?_
   cases y<;>exact Ev.pure
 . have c':isS t ⟨#[45]⟩=true:=by simpa using c
   obtain⟨t2,ht2⟩:=hL.next _ _ ht (by rw [isS_kind c'];decide)
   rw [wrap_k hL ht] at h
   obtain⟨e,h2,h⟩:=bindS h
   rw [first_of ht2] at h2
   obtain rfl:=Option.some.inj h2
   have start:∀ z,Ev (fun m=>match (if fst t2 (IntKind.i64.wrap (d+1)) false=0 then (.ok () (at_ L (k+1) f):Ex parse_stop parse_parser Unit) else .pan ⟨t2.At,fst t2 (IntKind.i64.wrap (d+1)) false⟩ (at_ L (k+1) f)) with
    |.ok d1 p3 =>
     (parse_parser_neg m p3 (IntKind.i64.wrap (d+1))).bind fun y2=>match y2 with
     |.ok n_1 p5 =>
      (some [n_1]).bind fun l =>
      some (.ok (api_Expr.mk 6 0 ⟨#[]⟩ l t.At) p5)
     |.pan e2 p6=>some (.pan e2 p6)
    |.pan e1 p4=>some (.pan e1 p4)) z->Ev (fun m=>parse_parser_neg m (at_ L k f) d) z:=by
    intro z hz
    refine Ev.step (fun m=>parse_parser_neg.eq_2 (n:=m) _ _) ?_
    rw [at_of ht]
    rw [at_of ht2] at hz
    have e:(L.drop (k+1).toNat)=t2::L.drop (k+1+1).toNat:=(drop_of_gi ht2).1
    rw [e]
    simp only [is_S,c',next_of,Option.bind_some,Bool.not_true,cond_false,deep_of]
    exact hz
   rcases condS h with⟨c2,h⟩|⟨c2,h⟩
   . obtain rfl:=Option.some.inj h
     have c2':fst t2 (IntKind.i64.wrap (d+1)) false≠0:=by simpa using c2
     refine⟨_,start (.pan ⟨t2.At,fst t2 (IntKind.i64.wrap (d+1)) false⟩ (at_ L (k+1) f)) ?_,t2,ht2,.inr ⟨c2',rfl⟩⟩
     rw [if_neg c2'];exact Ev.pure
   . have c2':fst t2 (IntKind.i64.wrap (d+1)) false=0:=by simpa using c2
     rw [if_pos c2'] at start
     obtain⟨g2,h3,h⟩:=bindS h
     obtain⟨y2,hy2,hc2⟩:=hM _ _ _ h3
     have e1:∀ z,Ev (fun m=>match y2 with
      |.ok n_1 p5 =>
       (some [n_1]).bind fun l =>
       some (.ok (api_Expr.mk 6 0 ⟨#[]⟩ l t.At) p5)
      |.pan e2 p6=>some (.pan e2 p6)) z->Ev (fun m=>parse_parser_neg m (at_ L k f) d) z:=fun z hz=>start z (Ev.bind hy2 hz)
     rcases condS h with⟨c3,h⟩|⟨c3,h⟩
     . obtain rfl:=Option.some.inj h
       have c3':g2.E≠0:=by simpa using c3
       obtain⟨t3,ht3,rfl⟩:=hc2.pan c3'
       exact⟨_,e1 _ Ev.pure,t3,ht3,.inr ⟨c3',rfl⟩⟩
     . have c3':g2.E=0:=by simpa using c3
       obtain⟨t3,ht3,rfl⟩:=hc2.ok c3'
       rw [ht] at h
       obtain rfl:=Option.some.inj h
       exact⟨_,e1 _ Ev.pure,t3,ht3,.inl ⟨rfl,rfl⟩⟩
omit hL in
theorem level_3 {t:api_Token}{r:List api_Token}{f d:Int}(h:isS t ⟨#[33]⟩=false)(m:Nat):parse_parser_level (m+1) ⟨t::r,f⟩ 3 d=parse_parser_level (m+1) ⟨t::r,f⟩ 4 d:=by
 rw [parse_parser_level.eq_2,parse_parser_level.eq_2]
 simp only [is_S,h,Option.bind_some,cond_false]
 rfl
theorem stepG {n:Nat}(hG:SG L f n)(hB:SB L f n):SG L f (n+1):=by
 intro k d g h
 rw [ref32_bang.eq_2] at h
 obtain⟨b,h1,h⟩:=bindS h
 obtain⟨t,ht,rfl⟩:=sgn_some h1
 rcases condS h with⟨c,h⟩|⟨c,h⟩
 . have c':isS t ⟨#[33]⟩=false:=by simpa using c
   obtain⟨g1,h2,h⟩:=bindS h
   obtain rfl:=Option.some.inj h
   obtain⟨y,⟨N,hy⟩,hc⟩:=hB k 4 d _ (by decide) (by decide) h2
   refine⟨y,⟨N+1,fun m hm=>?_⟩,hc⟩
   obtain⟨m,rfl⟩:∃ q,m=q+1:=⟨m-1,by omega⟩
   have:=hy (m+1) (by omega)
   rw [at_of ht] at this ⊢
   exact (level_3 c' m).trans this
 . have c':isS t ⟨#[33]⟩=true:=by simpa using c
   obtain⟨t2,ht2⟩:=hL.next _ _ ht (by rw [isS_kind c'];decide)
   rw [wrap_k hL ht] at h
   obtain⟨e,h2,h⟩:=bindS h
   rw [first_of ht2] at h2
   obtain rfl:=Option.some.inj h2
   have start:∀ z,Ev (fun m=>(match (if fst t2 (IntKind.i64.wrap (d+1)) true=0 then (.ok () (at_ L (k+1) f):Ex parse_stop parse_parser Unit) else .pan ⟨t2.At,fst t2 (IntKind.i64.wrap (d+1)) true⟩ (at_ L (k+1) f)) with
    |.ok d1 p9 =>
     (parse_parser_level m p9 3 (IntKind.i64.wrap (d+1))).bind fun y5=>match y5 with
     |.ok l2 p11 =>
      (some [l2]).bind fun l3 =>
      some (.ok (api_Expr.mk 5 0 ⟨#[]⟩ l3 t.At) p11)
     |.pan e10 p12=>some (.pan e10 p12)
    |.pan e9 p10=>some (.pan e9 p10))) z->Ev (fun m=>parse_parser_level m (at_ L k f) 3 d) z:=by
    intro z hz
    refine Ev.step (fun m=>parse_parser_level.eq_2 (n:=m) _ _ _) ?_
    rw [at_of ht]
    rw [at_of ht2] at hz
    have e:(L.drop (k+1).toNat)=t2::L.drop (k+1+1).toNat:=(drop_of_gi ht2).1
    rw [e]
    simp only [is_S,c',next_of,Option.bind_some,cond_true,deep_of,beq_self_eq_true]
    refine Ev.congr hz fun m=>?_
    by_cases h0:fst t2 (IntKind.i64.wrap (d+1)) true=0
    . simp only [if_pos h0]
      cases parse_parser_level m ⟨t2::L.drop (k+1+1).toNat,f⟩ 3 (IntKind.i64.wrap (d+1)) with
      |none=>rfl
      |some y=>cases y<;>rfl
    . simp only [if_neg h0];rfl
   rcases condS h with⟨c2,h⟩|⟨c2,h⟩
   . obtain rfl:=Option.some.inj h
     have c2':fst t2 (IntKind.i64.wrap (d+1)) true≠0:=by simpa using c2
     refine⟨_,start (.pan ⟨t2.At,fst t2 (IntKind.i64.wrap (d+1)) true⟩ (at_ L (k+1) f)) ?_,t2,ht2,.inr ⟨c2',rfl⟩⟩
     rw [if_neg c2'];exact Ev.pure
   . have c2':fst t2 (IntKind.i64.wrap (d+1)) true=0:=by simpa using c2
     rw [if_pos c2'] at start
     obtain⟨g2,h3,h⟩:=bindS h
     obtain⟨y2,hy2,hc2⟩:=hG _ _ _ h3
     have e1:∀ z,Ev (fun m=>match y2 with
      |.ok n_1 p5 =>
       (some [n_1]).bind fun l =>
       some (.ok (api_Expr.mk 5 0 ⟨#[]⟩ l t.At) p5)
      |.pan e2 p6=>some (.pan e2 p6)) z->Ev (fun m=>parse_parser_level m (at_ L k f) 3 d) z:=fun z hz=>start z (Ev.bind hy2 hz)
     rcases condS h with⟨c3,h⟩|⟨c3,h⟩
     . obtain rfl:=Option.some.inj h
       have c3':g2.E≠0:=by simpa using c3
       obtain⟨t3,ht3,rfl⟩:=hc2.pan c3'
       exact⟨_,e1 _ Ev.pure,t3,ht3,.inr ⟨c3',rfl⟩⟩
     . have c3':g2.E=0:=by simpa using c3
       obtain⟨t3,ht3,rfl⟩:=hc2.ok c3'
       rw [ht] at h
       obtain rfl:=Option.some.inj h
       exact⟨_,e1 _ Ev.pure,t3,ht3,.inl ⟨rfl,rfl⟩⟩
theorem loopB {lv d:Int}(hlv:1<=lv/\lv<=6/\lv≠3){x:ref32_Got}{e2:api_Expr}(hx:e2.At=x.X.At):∀ (n:Nat),(∀ m,m<n->SB L f m)->∀ (a b:Int) (c:ByteArray) (e:List api_Expr) (to:Int) (t:api_Token),gi L to=some t->∀ g,
 (ref32_binary_l1 n L lv x d a b c e to 0).bind (fun y=>match y with
  |.inl (x1,x2,x3,x4,x5,x6)=>some (ref32_Got.mk (api_Expr.mk x1 x2 x3 x4 x.X.At) x5 x6)
  |.inr o=>some o)=some g->∃ y,Ev (fun m=>parse_parser_level_l1 m lv e2 d (L.drop to.toNat) f a b c e) y/\Corr L f g y
 |0,_,a,b,c,e,to,t,ht,g,h=>by cases h
 |n+1,hB,a,b,c,e,to,t,ht,g,h=>by
  rw [ref32_binary_l1.eq_2] at h
  simp only [beq_self_eq_true,cond_true] at h
  obtain⟨w,h1,h⟩:=bindS h
  obtain⟨op,h2,h1⟩:=bindS h1
  obtain rfl:op=lev t:=level_det ht h2
  have hp:L.drop to.toNat=t::L.drop (to+1).toNat:=(drop_of_gi ht).1
  have start:∀ z,Ev (fun m=>bif (decide (findI t lv opl 0<0)) then
   some (.ok (api_Expr.mk a b c e e2.At) (parse_parser.mk (t::L.drop (to+1).toNat) f))
   else
    (gi opl (findI t lv opl 0)).bind fun x =>
    (parse_parser_level m (at_ L (to+1) f) (IntKind.i64.wrap (lv+1)) d).bind fun y3=>match y3 with
    |.ok l p7 =>
     (some [(api_Expr.mk a b c e e2.At),l]).bind fun l1 =>
     bif (lv == 4) then
      some (.ok (api_Expr.mk x.op 0 ⟨#[]⟩ l1 e2.At) p7)
     else
      parse_parser_level_l1 m lv e2 d p7.l p7.forms x.op 0 ⟨#[]⟩ l1
    |.pan e8 p8=>some (.pan e8 p8)) z->Ev (fun m=>parse_parser_level_l1 m lv e2 d (L.drop to.toNat) f a b c e) z:=by
   intro z hz
   refine Ev.step (fun m=>parse_parser_level_l1.eq_2 (n:=m) _ _ _ _ _ _ _ _ _) ?_
   rw [hp]
   simp only [operators_eq,Option.bind_some,next_of]
   exact Ev.bind (index_ev 0 0 ⟨#[]⟩ [] 0 a b c e e2.At) hz
  rcases find_lev t lv (by omega) with⟨bb,f1,f2,f3,f4⟩|⟨f1,f2⟩
  . have d0:decide (findI t lv opl 0<0)=false:=by rw [decide_eq_false_iff_not];omega
    have c1:((lev t).N != lv)=false:=by simp [f3]
    rw [c1] at h1
    simp only [cond_false] at h1
    obtain⟨g2,h3,h1⟩:=bindS h1
    rw [wrap_k hL ht] at h3
    have wl:IntKind.i64.wrap (lv+1)=lv+1:=by rw [wrap_id]<;>omega
    rw [wl] at h3
    obtain⟨y2,hy2,hc2⟩:=hB n (by omega) (to+1) (lv+1) d g2 (by omega) (by omega) h3
    have e1:∀ z,Ev (fun m=>match y2 with
     |.ok l p7 =>
      (some [(api_Expr.mk a b c e e2.At),l]).bind fun l1 =>
      bif (lv == 4) then
       some (.ok (api_Expr.mk bb.op 0 ⟨#[]⟩ l1 e2.At) p7)
      else
       parse_parser_level_l1 m lv e2 d p7.l p7.forms bb.op 0 ⟨#[]⟩ l1
     |.pan e8 p8=>some (.pan e8 p8)) z->Ev (fun m=>parse_parser_level_l1 m lv e2 d (L.drop to.toNat) f a b c e) z:=by
     intro z hz
     refine start z ?_
     simp only [d0,cond_false,f2,Option.bind_some,wl]
     exact Ev.bind hy2 hz
    rcases condS h1 with⟨c3,h1⟩|⟨c3,h1⟩
    . obtain rfl:=Option.some.inj h1
      obtain rfl:=Option.some.inj h
      have c3':g2.E≠0:=by simpa using c3
      obtain⟨t3,ht3,rfl⟩:=hc2.pan c3'
      exact⟨_,e1 _ Ev.pure,t3,ht3,.inr ⟨c3',rfl⟩⟩
    . have c3':g2.E=0:=by simpa using c3
      obtain⟨t3,ht3,rfl⟩:=hc2.ok c3'
      simp only [Option.bind_some] at h1
      rcases condS h1 with⟨c4,h1⟩|⟨c4,h1⟩
      . obtain rfl:=Option.some.inj h1
        obtain rfl:=Option.some.inj h
        refine⟨_,e1 (.ok (api_Expr.mk bb.op 0 ⟨#[]⟩ [api_Expr.mk a b c e e2.At,g2.X] e2.At) (at_ L g2.To f)) ?_,t3,ht3,.inl ⟨rfl,?_⟩⟩
        . simp only [Option.bind_some,c4,cond_true];exact Ev.pure
        . rw [f4,hx]
      . obtain⟨y3,hy3,hc3⟩:=loopB hlv hx n (fun m hm=>hB m (by omega)) _ _ _ _ _ t3 ht3 g (by rw [h1];exact h)
        refine⟨y3,e1 y3 ?_,hc3⟩
        simp only [Option.bind_some,c4,cond_false,f4,hx]
        exact hy3
  . have c1:((lev t).N != lv)=true:=by simpa using f2
    rw [c1] at h1
    obtain rfl:=Option.some.inj h1
    obtain rfl:=Option.some.inj h
    have d0:decide (findI t lv opl 0<0)=true:=by rw [f1];decide
    refine⟨.ok (api_Expr.mk a b c e x.X.At) (at_ L to f),start _ ?_,t,ht,.inl ⟨rfl,rfl⟩⟩
    rw [d0,<- hp,hx];exact Ev.pure
theorem stepB {n:Nat}(hB:∀ m,m<=n->SB L f m)(hG:SG L f n)(hM:SM L f n):SB L f (n+1):=by
 intro k lv d g l1 l7 h
 rw [ref32_binary.eq_2] at h
 by_cases h6:6<lv
 . obtain rfl:lv=7:=by omega
   simp only [show decide ((6:Int)<7)=true from rfl,cond_true] at h
   obtain⟨g1,h1,h⟩:=bindS h
   obtain rfl:=Option.some.inj h
   obtain⟨y,hy,hc⟩:=hM _ _ _ h1
   refine⟨y,?_,hc⟩
   refine Ev.step (fun m=>parse_parser_level.eq_2 (n:=m) _ _ _) ?_
   simp only [show ((7:Int) == 3)=false from rfl,show ((7:Int) == 7)=true from rfl,cond_true,cond_false,Option.bind_some]
   refine Ev.bind hy ?_
   cases y<;>exact Ev.pure
 . have d6:decide (6<lv)=false:=by rw [decide_eq_false_iff_not];exact h6
   rw [d6] at h
   simp only [cond_false] at h
   by_cases h3:lv=3
   . subst h3
     simp only [beq_self_eq_true,cond_true] at h
     obtain⟨g1,h1,h⟩:=bindS h
     obtain rfl:=Option.some.inj h
     exact hG _ _ _ h1
   . have d3:(lv == 3)=false:=by simpa using h3
     rw [d3] at h
     simp only [cond_false] at h
     have wl:IntKind.i64.wrap (lv+1)=lv+1:=by rw [wrap_id]<;>omega
     rw [wl] at h
     obtain⟨x,h1,h⟩:=bindS h
     obtain⟨y,hy,hc⟩:=hB n (Nat.le_refl n) k (lv+1) d x (by omega) (by omega) h1
     have d7:(lv == 7)=false:=by simp;omega
     have start:∀ z,Ev (fun m=>match y with
      |.ok e2 p3 =>
       parse_parser_level_l1 m lv e2 d p3.l p3.forms e2.Op e2.N e2.S e2.Kids
      |.pan e3 p4=>some (.pan e3 p4)) z->Ev (fun m=>parse_parser_level m (at_ L k f) lv d) z:=by
      intro z hz
      refine Ev.step (fun m=>parse_parser_level.eq_2 (n:=m) _ _ _) ?_
      simp only [d3,d7,wl,cond_false,Option.bind_some]
      exact Ev.bind hy hz
     by_cases he:x.E=0
     . obtain⟨t,ht,rfl⟩:=hc.ok he
       rw [he] at h
       obtain⟨z,hz,hcz⟩:=loopB hL f (lv:=lv) (d:=d) ⟨by omega,by omega,h3⟩ (x:=x) (e2:=x.X) rfl n (fun m hm=>hB m (by omega)) x.X.Op x.X.N x.X.S x.X.Kids x.To t ht g h
       exact⟨z,start z hz,hcz⟩
     . obtain⟨t,ht,rfl⟩:=hc.pan he
       refine⟨_,start _ Ev.pure,?_⟩
       obtain⟨w,h2,h⟩:=bindS h
       cases n with
       |zero=>cases h2
       |succ n =>
        rw [ref32_binary_l1.eq_2] at h2
        have de:(x.E == 0)=false:=by simpa using he
        rw [de] at h2
        obtain rfl:=Option.some.inj h2
        obtain rfl:=Option.some.inj h
        exact⟨t,ht,.inr ⟨he,rfl⟩⟩
def argIn (m:Nat)(d:Int)(l:List api_Token)(f:Int)(e3:List api_Expr):Option ((List api_Token×Int×List api_Expr) ⊕ (Ex parse_stop parse_parser api_Expr)) :=
 bif ((e3.length:Int) == 40) then
  (parse_parser_deep (parse_parser.mk l f) 0 true).bind fun y3=>match y3 with
  |.ok _ p9 =>
   (parse_parser_fail p9 2).bind fun y4=>match y4 with
   |.ok _ p11 =>
    (parse_parser_expr m p11 (IntKind.i64.wrap (d+1))).bind fun y5=>match y5 with
    |.ok e7 p13 =>
     (some [e7]).bind fun l =>
     (gapp 65 e3 l).bind fun l1 =>
     parse_parser_atom_l1 m d p13.l p13.forms l1
    |.pan e8 p14=>some (.inr (.pan e8 p14))
   |.pan e6 p12=>some (.inr (.pan e6 p12))
  |.pan e5 p10=>some (.inr (.pan e5 p10))
 else
  (parse_parser_expr m (parse_parser.mk l f) (IntKind.i64.wrap (d+1))).bind fun y6=>match y6 with
  |.ok e9 p15 =>
   (some [e9]).bind fun l2 =>
   (gapp 65 e3 l2).bind fun l3 =>
   parse_parser_atom_l1 m d p15.l p15.forms l3
  |.pan e10 p16=>some (.inr (.pan e10 p16))
omit hL in
theorem atom_l1_eq (m:Nat){t:api_Token}{r:List api_Token}{f d:Int}{e3:List api_Expr}:parse_parser_atom_l1 (m+1) d (t::r) f e3 =
 if isS t ⟨#[41]⟩=true then some (.inl (t::r,f,e3)) else if 0<e3.length then (if isS t ⟨#[44]⟩=true then argIn m d r f e3 else some (.inr (.pan ⟨t.At,5⟩ ⟨t::r,f⟩))) else argIn m d (t::r) f e3:=by
 rw [parse_parser_atom_l1.eq_2]
 simp only [is_S,need_S,Option.bind_some]
 cases isS t ⟨#[41]⟩ with
 |true=>rfl
 |false =>
  by_cases h0:0<e3.length
  . have d0:decide (0<(e3.length:Int))=true:=by rw [decide_eq_true_eq];omega
    rw [d0,if_pos h0]
    cases isS t ⟨#[44]⟩ with
    |true=>rfl
    |false=>rfl
  . have d0:decide (0<(e3.length:Int))=false:=by rw [decide_eq_false_iff_not];omega
    rw [d0,if_neg h0];rfl
omit hL in
theorem fst_zero {t:api_Token}{d:Int}(h:fst t d true≠5):fst t 0 true=0:=by
 unfold fst at h ⊢
 split at h
 . exact absurd rfl h
 . rename_i hh
   rw [if_neg hh,if_neg (by decide)]
omit hL in
theorem fst_five {t:api_Token}{d:Int}(h:fst t d true=5):fst t 0 true=5:=by
 unfold fst at h ⊢
 split at h
 . rename_i hh;rw [if_pos hh]
 . split at h<;>cases h
omit hL in
theorem expr_pan {t:api_Token}{r:List api_Token}{f d:Int}(h:fst t d true≠0):Ev (fun m=>parse_parser_expr m ⟨t::r,f⟩ d) (.pan ⟨t.At,fst t d true⟩ ⟨t::r,f⟩):=by
 refine Ev.step (fun m=>parse_parser_expr.eq_2 (n:=m) _ _) ?_
 simp only [deep_of,if_neg h,Option.bind_some]
 exact Ev.pure
def CorrA (L:List api_Token)(f:Int)(x:api_Token)(g:ref32_Got)(w:(List api_Token×Int×List api_Expr) ⊕ (Ex parse_stop parse_parser api_Expr)):Prop :=
 (g.E=0/\∃ kids k t t',g.To=k+1/\gi L k=some t/\isS t ⟨#[41]⟩=true/\gi L (k+1)=some t'/\w=.inl (L.drop k.toNat,f,kids)/\g.X=⟨4,0,x.S,kids,x.At⟩) ∨
  (g.E≠0/\∃ t,gi L g.To=some t/\w=.inr (.pan ⟨t.At,g.E⟩ (at_ L g.To f)))
theorem loopA {d:Int}{x:api_Token}:∀ (n:Nat),(∀ m,m<n->SE L f m)->∀ (k:Int) (out:List api_Expr) (t:api_Token),gi L k=some t->∀ g,ref32_args_l1 n L d x k out=some g ->
 ∃ w,Ev (fun m=>argIn m d (L.drop k.toNat) f out) w/\CorrA L f x g w
 |0,_,k,out,t,ht,g,h=>by cases h
 |n+1,hE,k,out,t,ht,g,h=>by
  rw [ref32_args_l1.eq_2,first_of ht] at h
  simp only [Option.bind_some] at h
  have hp:L.drop k.toNat=t::L.drop (k+1).toNat:=(drop_of_gi ht).1
  obtain⟨v,hv,h⟩:=bindS h
  have hv2:v=(decide (fst t (IntKind.i64.wrap (d+1)) true=2)||(decide (fst t (IntKind.i64.wrap (d+1)) true=0)&&((out.length:Int) == 40))):=by
   rcases fst_err (t:=t) (d:=IntKind.i64.wrap (d+1)) (no:=true) with e|e|e<;>rw [e] at hv ⊢
   . cases h40:((out.length:Int) == 40)<;>rw [h40] at hv<;>exact (Option.some.inj hv).symm
   . exact (Option.some.inj hv).symm
   . exact (Option.some.inj hv).symm
  rcases condS h with⟨c,h⟩|⟨c,h⟩
  . obtain rfl:=Option.some.inj h
    rw [c] at hv2
    refine⟨.inr (.pan ⟨t.At,2⟩ (at_ L k f)),?_,.inr ⟨show (2:Int)≠0 by decide,t,ht,rfl⟩⟩
    rw [hp,at_of ht]
    unfold argIn
    have hn5:fst t (IntKind.i64.wrap (d+1)) true≠5:=by
     intro e5;rw [e5] at hv2;cases hv2
    cases h40:((out.length:Int) == 40) with
    |true =>
     simp only [cond_true,deep_of,fst_zero hn5,if_true,Option.bind_some,fail_of]
     exact Ev.pure
    |false =>
     have e2:fst t (IntKind.i64.wrap (d+1)) true=2:=by
      rw [h40] at hv2;simpa using hv2.symm
     simp only [cond_false]
     have:=expr_pan (t:=t) (r:=L.drop (k+1).toNat) (f:=f) (d:=IntKind.i64.wrap (d+1)) (by rw [e2];decide)
     rw [e2] at this
     exact Ev.bind this Ev.pure
  . rw [c] at hv2
    obtain⟨g1,h1,h⟩:=bindS h
    obtain⟨y,hy,hc⟩:=hE n (by omega) _ _ _ h1
    cases h40:((out.length:Int) == 40) with
    |true =>
     -- a problem of syntax
     have e5:fst t (IntKind.i64.wrap (d+1)) true=5:=by
      rcases fst_err (t:=t) (d:=IntKind.i64.wrap (d+1)) (no:=true) with e|e|e
      . rw [h40,e] at hv2;cases hv2
      . exact e
      . rw [e] at hv2;cases hv2
     cases n with
     |zero=>cases h1
     |succ n =>
      rw [ref32_expr.eq_2,first_of ht,e5] at h1
      obtain rfl:=Option.some.inj h1
      obtain rfl:=Option.some.inj h
      refine⟨.inr (.pan ⟨t.At,5⟩ (at_ L k f)),?_,.inr ⟨show (5:Int)≠0 by decide,t,ht,rfl⟩⟩
      rw [hp,at_of ht]
      unfold argIn
      rw [h40]
      simp only [cond_true,deep_of,fst_five e5,Option.bind_some]
      exact Ev.pure
    |false =>
     have start:∀ z,Ev (fun m=>match y with
      |.ok e9 p15 =>
       (some [e9]).bind fun l2 =>
       (gapp 65 out l2).bind fun l3 =>
       parse_parser_atom_l1 m d p15.l p15.forms l3
      |.pan e10 p16=>some (.inr (.pan e10 p16))) z->Ev (fun m=>argIn m d (L.drop k.toNat) f out) z:=by
      intro z hz
      unfold argIn
      rw [h40]
      exact Ev.bind hy hz
     rcases condS h with⟨c2,h⟩|⟨c2,h⟩
     . obtain rfl:=Option.some.inj h
       have c2':g1.E≠0:=by simpa using c2
       obtain⟨t1,ht1,rfl⟩:=hc.pan c2'
       exact⟨_,start _ Ev.pure,.inr ⟨c2',t1,ht1,rfl⟩⟩
     . have c2':g1.E=0:=by simpa using c2
       obtain⟨t1,ht1,rfl⟩:=hc.ok c2'
       obtain⟨l2,hl2,h⟩:=bindS (show (gapp 65 out [g1.X]).bind _=some g from h)
       rw [sign_of ht1] at h
       simp only [Option.bind_some,sign_of ht1] at h
       have hlen:0<l2.length:=by
        unfold gapp at hl2
        split at hl2
        . obtain rfl:=Option.some.inj hl2;simp
        . cases hl2
       have hp1:L.drop g1.To.toNat=t1::L.drop (g1.To+1).toNat:=(drop_of_gi ht1).1
       have e1:∀ z,Ev (fun m=>parse_parser_atom_l1 m d (L.drop g1.To.toNat) f l2) z->Ev (fun m=>argIn m d (L.drop k.toNat) f out) z:=by
        intro z hz
        refine start z ?_
        simp only [Option.bind_some,hl2]
        exact hz
       rcases condS h with⟨c3,h⟩|⟨c3,h⟩
       . have c3':isS t1 ⟨#[41]⟩=true:=c3
         obtain⟨t2,ht2⟩:=hL.next _ _ ht1 (by rw [isS_kind c3'];decide)
         obtain rfl:=Option.some.inj h
         rw [wrap_k hL ht1]
         refine⟨.inl (L.drop g1.To.toNat,f,l2),e1 _ ?_,.inl ⟨rfl,l2,g1.To,t1,t2,rfl,ht1,c3',ht2,rfl,rfl⟩⟩
         rw [hp1]
         refine Ev.step (fun m=>atom_l1_eq m) ?_
         simp only [c3',if_true];exact Ev.pure
       . have c3':isS t1 ⟨#[41]⟩=false:=c3
         rcases condS h with⟨c4,h⟩|⟨c4,h⟩
         . have c4':isS t1 ⟨#[44]⟩=false:=by
            have:(!isS t1 ⟨#[44]⟩)=true:=c4
            simpa using this
           obtain rfl:=Option.some.inj h
           refine⟨.inr (.pan ⟨t1.At,5⟩ (at_ L g1.To f)),e1 _ ?_,.inr ⟨show (5:Int)≠0 by decide,t1,ht1,rfl⟩⟩
           rw [hp1,at_of ht1]
           refine Ev.step (fun m=>atom_l1_eq m) ?_
           simp only [c3',c4',hlen,if_true,if_false,Bool.false_eq_true];exact Ev.pure
         . have c4':isS t1 ⟨#[44]⟩=true:=by
            have:(!isS t1 ⟨#[44]⟩)=false:=c4
            simpa using this
           obtain⟨t2,ht2⟩:=hL.next _ _ ht1 (by rw [isS_kind c4'];decide)
           rw [wrap_k hL ht1] at h
           obtain⟨w,hw,hcw⟩:=loopA n (fun m hm=>hE m (by omega)) (g1.To+1) l2 t2 ht2 g h
           refine⟨w,e1 w ?_,hcw⟩
           rw [hp1]
           refine Ev.step (fun m=>atom_l1_eq m) ?_
           simp only [c3',c4',hlen,if_true,if_false,Bool.false_eq_true];exact hw
theorem stepA {n:Nat}(hE:∀ m,m<=n->SE L f m):SA L f (n+1):=by
 intro k d g t ht hm h
 rw [ref32_atom.eq_2,ht] at h
 simp only [Option.bind_some] at h
 rw [sign_of ht] at h
 simp only [Option.bind_some] at h
 have hmem:=mem_of_gi ht
 have hbeg:beg t=(t.Kind == 1||(t.Kind == 2||(t.Kind == 3||isS t ⟨#[40]⟩))):=by
  unfold beg
  show (t.Kind == 1||(t.Kind == 2||(t.Kind == 3||(isS t ⟨#[40]⟩||isS t ⟨#[45]⟩))))=_
  rw [hm,Bool.or_false]
 have hp:L.drop k.toNat=t::L.drop (k+1).toNat:=(drop_of_gi ht).1
 -- behind the first test
 have start:beg t=true->∀ z,Ev (fun m =>
  bif (t.Kind == 2) then
   some (.ok (api_Expr.mk 1 t.N t.S [] t.At) (at_ L (k+1) f))
  else
   bif (t.Kind == 3) then
    some (.ok (api_Expr.mk 2 t.N t.S [] t.At) (at_ L (k+1) f))
   else
    bif (t.Kind == 1) then
     (parse_parser_is (at_ L (k+1) f) ⟨#[40]⟩).bind fun i =>
     bif (!i) then
      some (.ok (api_Expr.mk 3 t.N t.S [] t.At) (at_ L (k+1) f))
     else
      (parse_parser_next (at_ L (k+1) f)).bind fun n_ =>
      ((parse_parser_atom_l1 m d n_.2.l n_.2.forms []
      ):Option (((List api_Token)×Int×(List api_Expr)) ⊕ (Ex parse_stop parse_parser api_Expr))).bind fun y1=>match y1 with
      |.inl (p3,p4,e1) =>
       (parse_parser_next (parse_parser.mk p3 p4)).bind fun n_1 =>
       some (.ok (api_Expr.mk 4 t.N t.S e1 t.At) n_1.2)
      |.inr o=>some o
    else
     (parse_parser_expr m (at_ L (k+1) f) (IntKind.i64.wrap (d+1))).bind fun y8=>match y8 with
     |.ok e12 p19 =>
      (parse_parser_need p19 ⟨#[41]⟩).bind fun y9=>match y9 with
      |.ok n_3 p21 =>
       some (.ok e12 p21)
      |.pan e14 p22=>some (.pan e14 p22)
     |.pan e13 p20=>some (.pan e13 p20)) z->Ev (fun m=>parse_parser_atom m (at_ L k f) d) z:=by
  intro hb z hz
  refine Ev.step (fun m=>parse_parser_atom.eq_2 (n:=m) _ _) ?_
  have hb':parse_parser_begins (at_ L k f)=some true:=by rw [at_of ht,begins_of];exact congrArg some hb
  rw [hb']
  simp only [Option.bind_some,Bool.not_true,cond_false]
  rw [hp]
  simp only [next_of,Option.bind_some]
  exact hz
 rcases condS h with⟨c,h⟩|⟨c,h⟩
 . -- in parentheses
   have c':isS t ⟨#[40]⟩=true:=c
   have hk4:=isS_kind c'
   obtain⟨t2,ht2⟩:=hL.next _ _ ht (by rw [hk4];decide)
   rw [wrap_k hL ht] at h
   obtain⟨g1,h1,h⟩:=bindS h
   obtain⟨y,hy,hc⟩:=hE n (Nat.le_refl n) _ _ _ h1
   have hb:beg t=true:=by rw [hbeg,c'];simp
   have e1:∀ z,Ev (fun m=>match y with
    |.ok e12 p19 =>
     (parse_parser_need p19 ⟨#[41]⟩).bind fun y9=>match y9 with
     |.ok n_3 p21 =>
      some (.ok e12 p21)
     |.pan e14 p22=>some (.pan e14 p22)
    |.pan e13 p20=>some (.pan e13 p20)) z->Ev (fun m=>parse_parser_atom m (at_ L k f) d) z:=by
    intro z hz
    refine start hb z ?_
    simp only [hk4,show ((4:Int) == 2)=false from rfl,show ((4:Int) == 3)=false from rfl,show ((4:Int) == 1)=false from rfl,cond_false]
    exact Ev.bind hy hz
   rcases condS h with⟨c2,h⟩|⟨c2,h⟩
   . obtain rfl:=Option.some.inj h
     have c2':g1.E≠0:=by simpa using c2
     obtain⟨t1,ht1,rfl⟩:=hc.pan c2'
     exact⟨_,e1 _ Ev.pure,t1,ht1,.inr ⟨c2',rfl⟩⟩
   . have c2':g1.E=0:=by simpa using c2
     obtain⟨t1,ht1,rfl⟩:=hc.ok c2'
     rw [sign_of ht1] at h
     simp only [Option.bind_some] at h
     rcases condS h with⟨c3,h⟩|⟨c3,h⟩
     . have c3':isS t1 ⟨#[41]⟩=false:=by
        have:(!isS t1 ⟨#[41]⟩)=true:=c3
        simpa using this
       obtain rfl:=Option.some.inj h
       refine⟨.pan ⟨t1.At,5⟩ (at_ L g1.To f),e1 _ ?_,t1,ht1,.inr ⟨show (5:Int)≠0 by decide,rfl⟩⟩
       rw [at_of ht1]
       simp only [need_S,c3',Option.bind_some,Bool.false_eq_true,if_false]
       exact Ev.pure
     . have c3':isS t1 ⟨#[41]⟩=true:=by
        have:(!isS t1 ⟨#[41]⟩)=false:=c3
        simpa using this
       obtain⟨t3,ht3⟩:=hL.next _ _ ht1 (by rw [isS_kind c3'];decide)
       rw [wrap_k hL ht1] at h
       obtain rfl:=Option.some.inj h
       refine⟨.ok g1.X (at_ L (g1.To+1) f),e1 _ ?_,t3,ht3,.inl ⟨rfl,rfl⟩⟩
       rw [at_of ht1]
       simp only [need_S,c3',Option.bind_some,if_true]
       exact Ev.pure
 . have c':isS t ⟨#[40]⟩=false:=c
   rw [c',Bool.or_false] at hbeg
   by_cases k2:t.Kind=2
   . simp only [k2,beq_self_eq_true,cond_true] at h
     obtain⟨t2,ht2⟩:=hL.next _ _ ht (by rw [k2];decide)
     rw [wrap_k hL ht] at h
     obtain rfl:=Option.some.inj h
     refine⟨.ok (api_Expr.mk 1 t.N ⟨#[]⟩ [] t.At) (at_ L (k+1) f),start (by rw [hbeg,k2];rfl) _ ?_,t2,ht2,.inl ⟨rfl,rfl⟩⟩
     simp only [k2,beq_self_eq_true,cond_true,hL.num t hmem k2]
     exact Ev.pure
   . have d2:(t.Kind == 2)=false:=by simpa using k2
     have hN:=hL.other t hmem k2
     rw [d2] at h
     simp only [cond_false] at h
     by_cases k3:t.Kind=3
     . simp only [k3,beq_self_eq_true,cond_true] at h
       obtain⟨t2,ht2⟩:=hL.next _ _ ht (by rw [k3];decide)
       rw [wrap_k hL ht] at h
       obtain rfl:=Option.some.inj h
       refine⟨.ok (api_Expr.mk 2 0 t.S [] t.At) (at_ L (k+1) f),start (by rw [hbeg,k3];rfl) _ ?_,t2,ht2,.inl ⟨rfl,rfl⟩⟩
       simp only [d2,k3,beq_self_eq_true,cond_true,cond_false,hN]
       exact Ev.pure
     . have d3:(t.Kind == 3)=false:=by simpa using k3
       rw [d3] at h
       simp only [cond_false] at h
       by_cases k1:t.Kind=1
       . have d1:(t.Kind != 1)=false:=by simp [k1]
         rw [d1] at h
         simp only [cond_false] at h
         obtain⟨t2,ht2⟩:=hL.next _ _ ht (by rw [k1];decide)
         rw [wrap_k hL ht] at h
         rw [sign_of ht2] at h
         simp only [Option.bind_some] at h
         have hb:beg t=true:=by rw [hbeg,k1];rfl
         have dk1:(t.Kind == 1)=true:=by simp [k1]
         rcases condS h with⟨c4,h⟩|⟨c4,h⟩
         . have c4':isS t2 ⟨#[40]⟩=false:=by
            have:(!isS t2 ⟨#[40]⟩)=true:=c4
            simpa using this
           obtain rfl:=Option.some.inj h
           refine⟨.ok (api_Expr.mk 3 0 t.S [] t.At) (at_ L (k+1) f),start hb _ ?_,t2,ht2,.inl ⟨rfl,rfl⟩⟩
           rw [at_of ht2]
           simp only [d2,d3,dk1,is_S,c4',cond_true,cond_false,Option.bind_some,Bool.not_false,hN]
           exact Ev.pure
         . have c4':isS t2 ⟨#[40]⟩=true:=by
            have:(!isS t2 ⟨#[40]⟩)=false:=c4
            simpa using this
           obtain⟨t3,ht3⟩:=hL.next _ _ ht2 (by rw [isS_kind c4'];decide)
           have e1:∀ z,Ev (fun m=>((parse_parser_atom_l1 m d (L.drop (k+1+1).toNat) f []
            ):Option (((List api_Token)×Int×(List api_Expr)) ⊕ (Ex parse_stop parse_parser api_Expr))).bind fun y1=>match y1 with
            |.inl (p3,p4,e1) =>
             (parse_parser_next (parse_parser.mk p3 p4)).bind fun n_1 =>
             some (.ok (api_Expr.mk 4 t.N t.S e1 t.At) n_1.2)
            |.inr o=>some o) z->Ev (fun m=>parse_parser_atom m (at_ L k f) d) z:=by
            intro z hz
            refine start hb z ?_
            rw [at_of ht2]
            simp only [d2,d3,dk1,is_S,c4',next_of,cond_true,cond_false,Option.bind_some,Bool.not_true]
            exact hz
           obtain⟨g1,h1,h⟩:=bindS h
           obtain rfl:=Option.some.inj h
           have hk2:IntKind.i64.wrap (k+2)=k+1+1:=by
            have:=wrap_k hL ht2
            rw [show k+2=k+1+1 by omega];exact this
           cases n with
           |zero=>cases h1
           |succ n =>
            rw [ref32_args.eq_2,ht,hk2] at h1
            simp only [Option.bind_some] at h1
            rw [sign_of ht3] at h1
            simp only [Option.bind_some] at h1
            have hp3:L.drop (k+1+1).toNat=t3::L.drop (k+1+1+1).toNat:=(drop_of_gi ht3).1
            rcases condS h1 with⟨c5,h1⟩|⟨c5,h1⟩
            . have c5':isS t3 ⟨#[41]⟩=true:=c5
              obtain⟨t4,ht4⟩:=hL.next _ _ ht3 (by rw [isS_kind c5'];decide)
              rw [wrap_k hL ht3] at h1
              obtain rfl:=Option.some.inj h1
              refine⟨.ok (api_Expr.mk 4 0 t.S [] t.At) (at_ L (k+1+1+1) f),e1 _ ?_,t4,ht4,.inl ⟨rfl,rfl⟩⟩
              rw [hp3]
              refine Ev.bind (a:=.inl (t3::L.drop (k+1+1+1).toNat,f,[])) (Ev.step (fun m=>atom_l1_eq m) ?_) ?_
              . simp only [c5',if_true];exact Ev.pure
              . simp only [next_of,Option.bind_some,hN];exact Ev.pure
            . have c5':isS t3 ⟨#[41]⟩=false:=c5
              obtain⟨w,hw,hcw⟩:=loopA hL f (x:=t) n (fun m hm=>hE m (by omega)) (k+1+1) [] t3 ht3 g1 h1
              have hw2:Ev (fun m=>parse_parser_atom_l1 m d (L.drop (k+1+1).toNat) f []) w:=by
               rw [hp3] at hw ⊢
               refine Ev.step (fun m=>atom_l1_eq m) ?_
               simp only [c5',List.length_nil,Nat.lt_irrefl,if_false,Bool.false_eq_true]
               exact hw
              rcases hcw with⟨he,kids,q,t5,t6,hq,ht5,_,ht6,rfl,hX⟩|⟨he,t5,ht5,rfl⟩
              . refine⟨.ok g1.X (at_ L g1.To f),e1 _ (Ev.bind hw2 ?_),t6,by rw [hq];exact ht6,.inl ⟨he,rfl⟩⟩
                have hp5:L.drop q.toNat=t5::L.drop (q+1).toNat:=(drop_of_gi ht5).1
                rw [hX,hq,hp5]
                simp only [next_of,Option.bind_some,hN]
                exact Ev.pure
              . exact⟨_,e1 _ (Ev.bind hw2 Ev.pure),t5,ht5,.inr ⟨he,rfl⟩⟩
       . have d1:(t.Kind != 1)=true:=by simpa using k1
         rw [d1] at h
         obtain rfl:=Option.some.inj h
         have hb:beg t=false:=by rw [hbeg,d2,d3];simpa using k1
         refine⟨.pan ⟨t.At,5⟩ (at_ L k f),?_,t,ht,.inr ⟨show (5:Int)≠0 by decide,rfl⟩⟩
         refine Ev.step (fun m=>parse_parser_atom.eq_2 (n:=m) _ _) ?_
         have hb':parse_parser_begins (at_ L k f)=some false:=by rw [at_of ht,begins_of];exact congrArg some hb
         rw [hb',at_of ht]
         simp only [Option.bind_some,Bool.not_false,cond_true,fail_of]
         exact Ev.pure
theorem simX:∀ n,(∀ m,m<=n->SE L f m)/\(∀ m,m<=n->SB L f m)/\(∀ m,m<=n->SG L f m)/\(∀ m,m<=n->SM L f m)/\(∀ m,m<=n->SA L f m)
 |0=>by
  refine⟨fun m hm=>?_,fun m hm=>?_,fun m hm=>?_,fun m hm=>?_,fun m hm=>?_⟩<;>obtain rfl:m=0:=by omega
  . intro k d g h;cases h
  . intro k lv d g _ _ h;cases h
  . intro k d g h;cases h
  . intro k d g h;cases h
  . intro k d g t _ _ h;cases h
 |n+1=>by
  obtain⟨hE,hB,hG,hM,hA⟩:=simX n
  have up:∀ (S:Nat->Prop),(∀ m,m<=n->S m)->S (n+1)->∀ m,m<=n+1->S m:=fun S h1 h2 m hm=>by
   by_cases e:m=n+1
   . rw [e];exact h2
   . exact h1 m (by omega)
  exact⟨up _ hE (stepE hL f (hE n (Nat.le_refl n)) (hB n (Nat.le_refl n))),up _ hB (stepB hL f hB (hG n (Nat.le_refl n)) (hM n (Nat.le_refl n))),up _ hG (stepG hL f (hG n (Nat.le_refl n)) (hB n (Nat.le_refl n))),
   up _ hM (stepM hL f (hM n (Nat.le_refl n)) (hA n (Nat.le_refl n))),up _ hA (stepA hL f hE)⟩
theorem simE {n:Nat}{k d:Int}{g:ref32_Got}(h:ref32_expr n L k d=some g):∃ y,Ev (fun m=>parse_parser_expr m (at_ L k f) d) y/\Corr L f g y:=(simX hL f n).1 n (Nat.le_refl n) k d g h
end
end Go.Sp
