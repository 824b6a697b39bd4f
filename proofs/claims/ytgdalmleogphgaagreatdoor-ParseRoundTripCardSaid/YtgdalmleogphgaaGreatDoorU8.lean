/-
  The program's parser answers as the reference's: expressions. No program.
-/
import Derived.Test.YtgdalmleogphgaaGreatDoorU7
namespace Go.Sp
open Go
set_option linter.unusedSimpArgs false
structure Hs (L:List Ab):Prop where
 next:∀ k t,gi L k=some t->t.Kind≠5->∃ t',gi L (k+1)=some t'
 len:L.length<=1000000
 num:∀ t∈L,t.Kind=2->t.S=⟨#[]⟩
 other:∀ t∈L,t.Kind≠2->t.N=0
theorem EH {α:Type}{l:List α}{k:Int}{x:α}(h:gi l k=some x):x∈l:=by
 unfold gi at h
 split at h
 . exact List.mem_of_getElem? h
 . cases h
def KS (L:List Ab)(f:Int)(g:A0)(y:Ex Al Ad Aa):Prop :=
 ∃ t,gi L g.To=some t/\((g.E=0/\y=.ok g.X (at_ L g.To f))∨(g.E≠0/\y=.pan ⟨t.At,g.E⟩ (at_ L g.To f)))
theorem KS.ok {L:List Ab}{f:Int}{g:A0}{y:Ex Al Ad Aa}(h:KS L f g y)(e:g.E=0):∃ t,gi L g.To=some t/\y=.ok g.X (at_ L g.To f):=by
 obtain⟨t,ht,⟨_,hy⟩|⟨h,_⟩⟩:=h
 . exact⟨t,ht,hy⟩
 . exact absurd e h
theorem KS.pan {L:List Ab}{f:Int}{g:A0}{y:Ex Al Ad Aa}(h:KS L f g y)(e:g.E≠0):∃ t,gi L g.To=some t/\y=.pan ⟨t.At,g.E⟩ (at_ L g.To f):=by
 obtain⟨t,ht,⟨h,_⟩|⟨_,hy⟩⟩:=h
 . exact absurd h e
 . exact⟨t,ht,hy⟩
theorem CM {L:List Ab}{k f:Int}{t:Ab}(h:gi L k=some t):at_ L k f=⟨t::L.drop (k+1).toNat,f⟩:=by
 unfold at_;rw [(Am h).1]
theorem C2 {L:List Ab}(hL:Hs L){k:Int}{t:Ab}(h:gi L k=some t):IntKind.i64.wrap (k+1)=k+1:=by
 have:=(Am h).2
 have:=hL.len
 rw [A3]<;>omega
theorem D7 {t:Ab}{s:ByteArray}(h:isS t s=true):t.Kind=4:=by
 unfold isS at h
 simp only [Bool.and_eq_true,beq_iff_eq] at h;exact h.1
theorem Cq {L:List Ab}{k:Int}{s:ByteArray}{b:Bool}(h:A2 L k s=some b):∃ t,gi L k=some t/\b=isS t s:=by
 cases e:gi L k with
 |none=>unfold A2 at h;rw [e] at h;cases h
 |some t=>rw [AG e] at h;exact⟨t,rfl,(Ac h).symm⟩
theorem JC {L:List Ab}{k d:Int}{no:Bool}{e:Int}(h:Dr L k d no=some e):∃ t,gi L k=some t/\e=fst t d no:=by
 cases e':gi L k with
 |none =>
  unfold Dr DV A2 at h
  rw [e'] at h;cases h
 |some t=>rw [CC e'] at h;exact⟨t,rfl,(Ac h).symm⟩
theorem II {t:Ab}{r:List Ab}{f:Int}{s:ByteArray}:AP ⟨t::r,f⟩ s=some (isS t s):=Ng
theorem Ji {t:Ab}{r:List Ab}{f:Int}{s:ByteArray}:Bg ⟨t::r,f⟩ s=some (if isS t s=true then .ok () ⟨r,f⟩ else .pan ⟨t.At,5⟩ ⟨t::r,f⟩):=UB
theorem QY {t:Ab}{d:Int}{no:Bool}:fst t d no=0∨fst t d no=5∨fst t d no=2:=by
 unfold fst;split
 . simp
 . split<;>simp
section
variable {L:List Ab} (hL:Hs L) (f:Int)
def SE (L:List Ab)(f:Int)(n:Nat):Prop:=∀ k d g,AI n L k d=some g->∃ y,Ev (fun m=>Ax m (at_ L k f) d) y/\KS L f g y
def SB (L:List Ab)(f:Int)(n:Nat):Prop:=∀ k lv d g,1<=lv->lv<=7->A1 n L k lv d=some g->∃ y,Ev (fun m=>A5 m (at_ L k f) lv d) y/\KS L f g y
def SG (L:List Ab)(f:Int)(n:Nat):Prop:=∀ k d g,BE n L k d=some g->∃ y,Ev (fun m=>A5 m (at_ L k f) 3 d) y/\KS L f g y
def SM (L:List Ab)(f:Int)(n:Nat):Prop:=∀ k d g,Bu n L k d=some g->∃ y,Ev (fun m=>Bc m (at_ L k f) d) y/\KS L f g y
def SA (L:List Ab)(f:Int)(n:Nat):Prop:=∀ k d g t,gi L k=some t->isS t ⟨#[45]⟩=false->B0 n L k d=some g->∃ y,Ev (fun m=>Bb m (at_ L k f) d) y/\KS L f g y
include hL
theorem WL {n:Nat}(hE:SE L f n)(hB:SB L f n):SE L f (n+1):=by
 intro k d g h
 rw [AI.eq_2] at h
 obtain⟨e,h1,h⟩:=Ae h
 obtain⟨t,ht,rfl⟩:=JC h1
 rcases Ak h with⟨c,h⟩|⟨c,h⟩
 . obtain rfl:=Ac h
   have c':fst t d true≠0:=by simpa using c
   refine⟨.pan ⟨t.At,fst t d true⟩ (at_ L k f),?_,t,ht,.inr ⟨c',rfl⟩⟩
   refine Ev.step (fun m=>Ax.eq_2 (n:=m) _ _) ?_
   rw [CM ht]
   simp only [Hq,if_neg c',Option.bind_some]
   exact Ev.pure
 . have c':fst t d true=0:=by simpa using c
   obtain⟨c1,h1,h⟩:=Ae h
   obtain⟨y,hy,hc⟩:=hB k 1 d c1 (by decide) (by decide) h1
   have start:∀ z,Ev (fun m=>match y with
    |.ok e1 p3 =>
     (AP p3 ⟨#[63]⟩).bind fun i =>
     bif (!i) then
      some (.ok e1 p3)
     else
      (AA p3).bind fun n_ =>
      (Ax m n_.2 (IntKind.i64.wrap (d+1))).bind fun y2=>match y2 with
      |.ok a_ p5 =>
       (Bg p5 ⟨#[58]⟩).bind fun y3=>match y3 with
       |.ok n_1 p7 =>
        (Ax m p7 (IntKind.i64.wrap (d+1))).bind fun y4=>match y4 with
        |.ok e5 p9 =>
         (some [e1,a_,e5]).bind fun l =>
         some (.ok (Aa.mk 20 0 ⟨#[]⟩ l e1.At) p9)
        |.pan e6 p10=>some (.pan e6 p10)
       |.pan e4 p8=>some (.pan e4 p8)
      |.pan e3 p6=>some (.pan e3 p6)
    |.pan e2 p4=>some (.pan e2 p4)) z->Ev (fun m=>Ax m (at_ L k f) d) z:=by
    intro z hz
    refine Ev.step (fun m=>Ax.eq_2 (n:=m) _ _) ?_
    rw [CM ht] at hy ⊢
    simp only [Hq,if_pos c',Option.bind_some]
    exact Ev.bind hy hz
   rcases Ak h with⟨c2,h⟩|⟨c2,h⟩
   . obtain rfl:=Ac h
     have c2':c1.E≠0:=by simpa using c2
     obtain⟨t1,ht1,rfl⟩:=hc.pan c2'
     exact⟨_,start _ Ev.pure,t1,ht1,.inr ⟨c2',rfl⟩⟩
   . have c2':c1.E=0:=by simpa using c2
     obtain⟨t1,ht1,rfl⟩:=hc.ok c2'
     obtain⟨a,h2,h⟩:=Ae h
     obtain⟨t2,ht2,rfl⟩:=Cq h2
     obtain rfl:t1=t2:=Ac (ht1.symm.trans ht2)
     rcases Ak h with⟨c3,h⟩|⟨c3,h⟩
     . obtain rfl:=Ac h
       refine⟨_,start (.ok c1.X (at_ L c1.To f)) ?_,t1,ht1,.inl ⟨c2',rfl⟩⟩
       have c3':isS t1 ⟨#[63]⟩=false:=by simpa using c3
       rw [CM ht1]
       simp only [II,c3',Option.bind_some,Bool.not_false,cond_true]
       exact Ev.pure
     . have c3':isS t1 ⟨#[63]⟩=true:=by simpa using c3
       obtain⟨t3,ht3⟩:=hL.next _ _ ht1 (by rw [D7 c3'];decide)
       rw [C2 hL ht1] at h
       obtain⟨g2,h3,h⟩:=Ae h
       obtain⟨y2,hy2,hc2⟩:=hE _ _ _ h3
       have e1:∀ z,Ev (fun m=>match y2 with
        |.ok a_ p5 =>
         (Bg p5 ⟨#[58]⟩).bind fun y3=>match y3 with
         |.ok n_1 p7 =>
          (Ax m p7 (IntKind.i64.wrap (d+1))).bind fun y4=>match y4 with
          |.ok e5 p9 =>
           (some [c1.X,a_,e5]).bind fun l =>
           some (.ok (Aa.mk 20 0 ⟨#[]⟩ l c1.X.At) p9)
          |.pan e6 p10=>some (.pan e6 p10)
         |.pan e4 p8=>some (.pan e4 p8)
        |.pan e3 p6=>some (.pan e3 p6)) z->Ev (fun m=>Ax m (at_ L k f) d) z:=by
        intro z hz
        refine start z ?_
        rw [CM ht1]
        simp only [II,c3',Dz,Option.bind_some,Bool.not_true,cond_false]
        exact Ev.bind hy2 hz
       rcases Ak h with⟨c4,h⟩|⟨c4,h⟩
       . obtain rfl:=Ac h
         have c4':g2.E≠0:=by simpa using c4
         obtain⟨t4,ht4,rfl⟩:=hc2.pan c4'
         exact⟨_,e1 _ Ev.pure,t4,ht4,.inr ⟨c4',rfl⟩⟩
       . have c4':g2.E=0:=by simpa using c4
         obtain⟨t4,ht4,rfl⟩:=hc2.ok c4'
         obtain⟨a2,h5,h⟩:=Ae h
         obtain⟨t5,ht5,rfl⟩:=Cq h5
         obtain rfl:t4=t5:=Ac (ht4.symm.trans ht5)
         rcases Ak h with⟨c5,h⟩|⟨c5,h⟩
         . obtain rfl:=Ac h
           have c5':isS t4 ⟨#[58]⟩=false:=by simpa using c5
           refine⟨_,e1 (.pan ⟨t4.At,5⟩ (at_ L g2.To f)) ?_,t4,ht4,.inr ⟨show (5:Int)≠0 by decide,rfl⟩⟩
           rw [CM ht4]
           simp only [Ji,c5',Option.bind_some,Bool.false_eq_true,if_false]
           exact Ev.pure
         . have c5':isS t4 ⟨#[58]⟩=true:=by simpa using c5
           obtain⟨t6,ht6⟩:=hL.next _ _ ht4 (by rw [D7 c5'];decide)
           rw [C2 hL ht4] at h
           obtain⟨g3,h6,h⟩:=Ae h
           obtain⟨y3,hy3,hc3⟩:=hE _ _ _ h6
           have e2:∀ z,Ev (fun m=>match y3 with
            |.ok e5 p9 =>
             (some [c1.X,g2.X,e5]).bind fun l =>
             some (.ok (Aa.mk 20 0 ⟨#[]⟩ l c1.X.At) p9)
            |.pan e6 p10=>some (.pan e6 p10)) z->Ev (fun m=>Ax m (at_ L k f) d) z:=by
            intro z hz
            refine e1 z ?_
            rw [CM ht4]
            simp only [Ji,c5',Option.bind_some,if_true]
            exact Ev.bind hy3 hz
           rcases Ak h with⟨c6,h⟩|⟨c6,h⟩
           . obtain rfl:=Ac h
             have c6':g3.E≠0:=by simpa using c6
             obtain⟨t7,ht7,rfl⟩:=hc3.pan c6'
             exact⟨_,e2 _ Ev.pure,t7,ht7,.inr ⟨c6',rfl⟩⟩
           . have c6':g3.E=0:=by simpa using c6
             obtain⟨t7,ht7,rfl⟩:=hc3.ok c6'
             obtain rfl:=Ac h
             exact⟨_,e2 _ Ev.pure,t7,ht7,.inl ⟨rfl,rfl⟩⟩
theorem WK {n:Nat}(hM:SM L f n)(hA:SA L f n):SM L f (n+1):=by
 intro k d g h
 rw [Bu.eq_2] at h
 obtain⟨b,h1,h⟩:=Ae h
 obtain⟨t,ht,rfl⟩:=Cq h1
 rcases Ak h with⟨c,h⟩|⟨c,h⟩
 . have c':isS t ⟨#[45]⟩=false:=by simpa using c
   obtain⟨g1,h2,h⟩:=Ae h
   obtain rfl:=Ac h
   obtain⟨y,hy,hc⟩:=hA _ _ _ t ht c' h2
   refine⟨y,?_,hc⟩
   refine Ev.step (fun m=>Bc.eq_2 (n:=m) _ _) ?_
   rw [CM ht] at hy ⊢
   simp only [II,c',Option.bind_some,Bool.not_false,cond_true]
   refine Ev.bind hy ?_
   cases y<;>exact Ev.pure
 . have c':isS t ⟨#[45]⟩=true:=by simpa using c
   obtain⟨t2,ht2⟩:=hL.next _ _ ht (by rw [D7 c'];decide)
   rw [C2 hL ht] at h
   obtain⟨e,h2,h⟩:=Ae h
   rw [CC ht2] at h2
   obtain rfl:=Ac h2
   have start:∀ z,Ev (fun m=>match (if fst t2 (IntKind.i64.wrap (d+1)) false=0 then (.ok () (at_ L (k+1) f):Ex Al Ad Unit) else .pan ⟨t2.At,fst t2 (IntKind.i64.wrap (d+1)) false⟩ (at_ L (k+1) f)) with
    |.ok d1 p3 =>
     (Bc m p3 (IntKind.i64.wrap (d+1))).bind fun y2=>match y2 with
     |.ok n_1 p5 =>
      (some [n_1]).bind fun l =>
      some (.ok (Aa.mk 6 0 ⟨#[]⟩ l t.At) p5)
     |.pan e2 p6=>some (.pan e2 p6)
    |.pan e1 p4=>some (.pan e1 p4)) z->Ev (fun m=>Bc m (at_ L k f) d) z:=by
    intro z hz
    refine Ev.step (fun m=>Bc.eq_2 (n:=m) _ _) ?_
    rw [CM ht]
    rw [CM ht2] at hz
    have e:(L.drop (k+1).toNat)=t2::L.drop (k+1+1).toNat:=(Am ht2).1
    rw [e]
    simp only [II,c',Dz,Option.bind_some,Bool.not_true,cond_false,Hq]
    exact hz
   rcases Ak h with⟨c2,h⟩|⟨c2,h⟩
   . obtain rfl:=Ac h
     have c2':fst t2 (IntKind.i64.wrap (d+1)) false≠0:=by simpa using c2
     refine⟨_,start (.pan ⟨t2.At,fst t2 (IntKind.i64.wrap (d+1)) false⟩ (at_ L (k+1) f)) ?_,t2,ht2,.inr ⟨c2',rfl⟩⟩
     rw [if_neg c2'];exact Ev.pure
   . have c2':fst t2 (IntKind.i64.wrap (d+1)) false=0:=by simpa using c2
     rw [if_pos c2'] at start
     obtain⟨g2,h3,h⟩:=Ae h
     obtain⟨y2,hy2,hc2⟩:=hM _ _ _ h3
     have e1:∀ z,Ev (fun m=>match y2 with
      |.ok n_1 p5 =>
       (some [n_1]).bind fun l =>
       some (.ok (Aa.mk 6 0 ⟨#[]⟩ l t.At) p5)
      |.pan e2 p6=>some (.pan e2 p6)) z->Ev (fun m=>Bc m (at_ L k f) d) z:=fun z hz=>start z (Ev.bind hy2 hz)
     rcases Ak h with⟨c3,h⟩|⟨c3,h⟩
     . obtain rfl:=Ac h
       have c3':g2.E≠0:=by simpa using c3
       obtain⟨t3,ht3,rfl⟩:=hc2.pan c3'
       exact⟨_,e1 _ Ev.pure,t3,ht3,.inr ⟨c3',rfl⟩⟩
     . have c3':g2.E=0:=by simpa using c3
       obtain⟨t3,ht3,rfl⟩:=hc2.ok c3'
       rw [ht] at h
       obtain rfl:=Ac h
       exact⟨_,e1 _ Ev.pure,t3,ht3,.inl ⟨rfl,rfl⟩⟩
omit hL in
theorem UE {t:Ab}{r:List Ab}{f d:Int}(h:isS t ⟨#[33]⟩=false)(m:Nat):A5 (m+1) ⟨t::r,f⟩ 3 d=A5 (m+1) ⟨t::r,f⟩ 4 d:=by
 rw [A5.eq_2,A5.eq_2]
 simp only [II,h,Option.bind_some,cond_false]
 rfl
theorem stepG {n:Nat}(hG:SG L f n)(hB:SB L f n):SG L f (n+1):=by
 intro k d g h
 rw [BE.eq_2] at h
 obtain⟨b,h1,h⟩:=Ae h
 obtain⟨t,ht,rfl⟩:=Cq h1
 rcases Ak h with⟨c,h⟩|⟨c,h⟩
 . have c':isS t ⟨#[33]⟩=false:=by simpa using c
   obtain⟨g1,h2,h⟩:=Ae h
   obtain rfl:=Ac h
   obtain⟨y,⟨N,hy⟩,hc⟩:=hB k 4 d _ (by decide) (by decide) h2
   refine⟨y,⟨N+1,fun m hm=>?_⟩,hc⟩
   obtain⟨m,rfl⟩:∃ q,m=q+1:=⟨m-1,by omega⟩
   have:=hy (m+1) (by omega)
   rw [CM ht] at this ⊢
   exact (UE c' m).trans this
 . have c':isS t ⟨#[33]⟩=true:=by simpa using c
   obtain⟨t2,ht2⟩:=hL.next _ _ ht (by rw [D7 c'];decide)
   rw [C2 hL ht] at h
   obtain⟨e,h2,h⟩:=Ae h
   rw [CC ht2] at h2
   obtain rfl:=Ac h2
   have start:∀ z,Ev (fun m=>(match (if fst t2 (IntKind.i64.wrap (d+1)) true=0 then (.ok () (at_ L (k+1) f):Ex Al Ad Unit) else .pan ⟨t2.At,fst t2 (IntKind.i64.wrap (d+1)) true⟩ (at_ L (k+1) f)) with
    |.ok d1 p9 =>
     (A5 m p9 3 (IntKind.i64.wrap (d+1))).bind fun y5=>match y5 with
     |.ok l2 p11 =>
      (some [l2]).bind fun l3 =>
      some (.ok (Aa.mk 5 0 ⟨#[]⟩ l3 t.At) p11)
     |.pan e10 p12=>some (.pan e10 p12)
    |.pan e9 p10=>some (.pan e9 p10))) z->Ev (fun m=>A5 m (at_ L k f) 3 d) z:=by
    intro z hz
    refine Ev.step (fun m=>A5.eq_2 (n:=m) _ _ _) ?_
    rw [CM ht]
    rw [CM ht2] at hz
    have e:(L.drop (k+1).toNat)=t2::L.drop (k+1+1).toNat:=(Am ht2).1
    rw [e]
    simp only [II,c',Dz,Option.bind_some,cond_true,Hq,beq_self_eq_true]
    refine Ev.congr hz fun m=>?_
    by_cases h0:fst t2 (IntKind.i64.wrap (d+1)) true=0
    . simp only [if_pos h0]
      cases A5 m ⟨t2::L.drop (k+1+1).toNat,f⟩ 3 (IntKind.i64.wrap (d+1)) with
      |none=>rfl
      |some y=>cases y<;>rfl
    . simp only [if_neg h0];rfl
   rcases Ak h with⟨c2,h⟩|⟨c2,h⟩
   . obtain rfl:=Ac h
     have c2':fst t2 (IntKind.i64.wrap (d+1)) true≠0:=by simpa using c2
     refine⟨_,start (.pan ⟨t2.At,fst t2 (IntKind.i64.wrap (d+1)) true⟩ (at_ L (k+1) f)) ?_,t2,ht2,.inr ⟨c2',rfl⟩⟩
     rw [if_neg c2'];exact Ev.pure
   . have c2':fst t2 (IntKind.i64.wrap (d+1)) true=0:=by simpa using c2
     rw [if_pos c2'] at start
     obtain⟨g2,h3,h⟩:=Ae h
     obtain⟨y2,hy2,hc2⟩:=hG _ _ _ h3
     have e1:∀ z,Ev (fun m=>match y2 with
      |.ok n_1 p5 =>
       (some [n_1]).bind fun l =>
       some (.ok (Aa.mk 5 0 ⟨#[]⟩ l t.At) p5)
      |.pan e2 p6=>some (.pan e2 p6)) z->Ev (fun m=>A5 m (at_ L k f) 3 d) z:=fun z hz=>start z (Ev.bind hy2 hz)
     rcases Ak h with⟨c3,h⟩|⟨c3,h⟩
     . obtain rfl:=Ac h
       have c3':g2.E≠0:=by simpa using c3
       obtain⟨t3,ht3,rfl⟩:=hc2.pan c3'
       exact⟨_,e1 _ Ev.pure,t3,ht3,.inr ⟨c3',rfl⟩⟩
     . have c3':g2.E=0:=by simpa using c3
       obtain⟨t3,ht3,rfl⟩:=hc2.ok c3'
       rw [ht] at h
       obtain rfl:=Ac h
       exact⟨_,e1 _ Ev.pure,t3,ht3,.inl ⟨rfl,rfl⟩⟩
theorem V5 {lv d:Int}(hlv:1<=lv/\lv<=6/\lv≠3){x:A0}{e2:Aa}(hx:e2.At=x.X.At):∀ (n:Nat),(∀ m,m<n->SB L f m)->∀ (a b:Int) (c:ByteArray) (e:List Aa) (to:Int) (t:Ab),gi L to=some t->∀ g,
 (AF n L lv x d a b c e to 0).bind (fun y=>match y with
  |.inl (x1,x2,x3,x4,x5,x6)=>some (A0.mk (Aa.mk x1 x2 x3 x4 x.X.At) x5 x6)
  |.inr o=>some o)=some g->∃ y,Ev (fun m=>Bd m lv e2 d (L.drop to.toNat) f a b c e) y/\KS L f g y
 |0,_,a,b,c,e,to,t,ht,g,h=>by cases h
 |n+1,hB,a,b,c,e,to,t,ht,g,h=>by
  rw [AF.eq_2] at h
  simp only [beq_self_eq_true,cond_true] at h
  obtain⟨w,h1,h⟩:=Ae h
  obtain⟨op,h2,h1⟩:=Ae h1
  obtain rfl:op=EO t:=Nd ht h2
  have hp:L.drop to.toNat=t::L.drop (to+1).toNat:=(Am ht).1
  have start:∀ z,Ev (fun m=>bif (decide (FV t lv Ec 0<0)) then
   some (.ok (Aa.mk a b c e e2.At) (Ad.mk (t::L.drop (to+1).toNat) f))
   else
    (gi Ec (FV t lv Ec 0)).bind fun x =>
    (A5 m (at_ L (to+1) f) (IntKind.i64.wrap (lv+1)) d).bind fun y3=>match y3 with
    |.ok l p7 =>
     (some [(Aa.mk a b c e e2.At),l]).bind fun l1 =>
     bif (lv == 4) then
      some (.ok (Aa.mk x.op 0 ⟨#[]⟩ l1 e2.At) p7)
     else
      Bd m lv e2 d p7.l p7.forms x.op 0 ⟨#[]⟩ l1
    |.pan e8 p8=>some (.pan e8 p8)) z->Ev (fun m=>Bd m lv e2 d (L.drop to.toNat) f a b c e) z:=by
   intro z hz
   refine Ev.step (fun m=>Bd.eq_2 (n:=m) _ _ _ _ _ _ _ _ _) ?_
   rw [hp]
   simp only [Hg,Option.bind_some,Dz]
   exact Ev.bind (Tx 0 0 ⟨#[]⟩ [] 0 a b c e e2.At) hz
  rcases TM t lv (by omega) with⟨bb,f1,f2,f3,f4⟩|⟨f1,f2⟩
  . have d0:decide (FV t lv Ec 0<0)=false:=by rw [decide_eq_false_iff_not];omega
    have c1:((EO t).N != lv)=false:=by simp [f3]
    rw [c1] at h1
    simp only [cond_false] at h1
    obtain⟨g2,h3,h1⟩:=Ae h1
    rw [C2 hL ht] at h3
    have wl:IntKind.i64.wrap (lv+1)=lv+1:=by rw [A3]<;>omega
    rw [wl] at h3
    obtain⟨y2,hy2,hc2⟩:=hB n (by omega) (to+1) (lv+1) d g2 (by omega) (by omega) h3
    have e1:∀ z,Ev (fun m=>match y2 with
     |.ok l p7 =>
      (some [(Aa.mk a b c e e2.At),l]).bind fun l1 =>
      bif (lv == 4) then
       some (.ok (Aa.mk bb.op 0 ⟨#[]⟩ l1 e2.At) p7)
      else
       Bd m lv e2 d p7.l p7.forms bb.op 0 ⟨#[]⟩ l1
     |.pan e8 p8=>some (.pan e8 p8)) z->Ev (fun m=>Bd m lv e2 d (L.drop to.toNat) f a b c e) z:=by
     intro z hz
     refine start z ?_
     simp only [d0,cond_false,f2,Option.bind_some,wl]
     exact Ev.bind hy2 hz
    rcases Ak h1 with⟨c3,h1⟩|⟨c3,h1⟩
    . obtain rfl:=Ac h1
      obtain rfl:=Ac h
      have c3':g2.E≠0:=by simpa using c3
      obtain⟨t3,ht3,rfl⟩:=hc2.pan c3'
      exact⟨_,e1 _ Ev.pure,t3,ht3,.inr ⟨c3',rfl⟩⟩
    . have c3':g2.E=0:=by simpa using c3
      obtain⟨t3,ht3,rfl⟩:=hc2.ok c3'
      simp only [Option.bind_some] at h1
      rcases Ak h1 with⟨c4,h1⟩|⟨c4,h1⟩
      . obtain rfl:=Ac h1
        obtain rfl:=Ac h
        refine⟨_,e1 (.ok (Aa.mk bb.op 0 ⟨#[]⟩ [Aa.mk a b c e e2.At,g2.X] e2.At) (at_ L g2.To f)) ?_,t3,ht3,.inl ⟨rfl,?_⟩⟩
        . simp only [Option.bind_some,c4,cond_true];exact Ev.pure
        . rw [f4,hx]
      . obtain⟨y3,hy3,hc3⟩:=V5 hlv hx n (fun m hm=>hB m (by omega)) _ _ _ _ _ t3 ht3 g (by rw [h1];exact h)
        refine⟨y3,e1 y3 ?_,hc3⟩
        simp only [Option.bind_some,c4,cond_false,f4,hx]
        exact hy3
  . have c1:((EO t).N != lv)=true:=by simpa using f2
    rw [c1] at h1
    obtain rfl:=Ac h1
    obtain rfl:=Ac h
    have d0:decide (FV t lv Ec 0<0)=true:=by rw [f1];decide
    refine⟨.ok (Aa.mk a b c e x.X.At) (at_ L to f),start _ ?_,t,ht,.inl ⟨rfl,rfl⟩⟩
    rw [d0,<- hp,hx];exact Ev.pure
theorem WM {n:Nat}(hB:∀ m,m<=n->SB L f m)(hG:SG L f n)(hM:SM L f n):SB L f (n+1):=by
 intro k lv d g l1 l7 h
 rw [A1.eq_2] at h
 by_cases h6:6<lv
 . obtain rfl:lv=7:=by omega
   simp only [show decide ((6:Int)<7)=true from rfl,cond_true] at h
   obtain⟨g1,h1,h⟩:=Ae h
   obtain rfl:=Ac h
   obtain⟨y,hy,hc⟩:=hM _ _ _ h1
   refine⟨y,?_,hc⟩
   refine Ev.step (fun m=>A5.eq_2 (n:=m) _ _ _) ?_
   simp only [show ((7:Int) == 3)=false from rfl,show ((7:Int) == 7)=true from rfl,cond_true,cond_false,Option.bind_some]
   refine Ev.bind hy ?_
   cases y<;>exact Ev.pure
 . have d6:decide (6<lv)=false:=by rw [decide_eq_false_iff_not];exact h6
   rw [d6] at h
   simp only [cond_false] at h
   by_cases h3:lv=3
   . subst h3
     simp only [beq_self_eq_true,cond_true] at h
     obtain⟨g1,h1,h⟩:=Ae h
     obtain rfl:=Ac h
     exact hG _ _ _ h1
   . have d3:(lv == 3)=false:=by simpa using h3
     rw [d3] at h
     simp only [cond_false] at h
     have wl:IntKind.i64.wrap (lv+1)=lv+1:=by rw [A3]<;>omega
     rw [wl] at h
     obtain⟨x,h1,h⟩:=Ae h
     obtain⟨y,hy,hc⟩:=hB n (Nat.le_refl n) k (lv+1) d x (by omega) (by omega) h1
     have d7:(lv == 7)=false:=by simp;omega
     have start:∀ z,Ev (fun m=>match y with
      |.ok e2 p3 =>
       Bd m lv e2 d p3.l p3.forms e2.Op e2.N e2.S e2.Kids
      |.pan e3 p4=>some (.pan e3 p4)) z->Ev (fun m=>A5 m (at_ L k f) lv d) z:=by
      intro z hz
      refine Ev.step (fun m=>A5.eq_2 (n:=m) _ _ _) ?_
      simp only [d3,d7,wl,cond_false,Option.bind_some]
      exact Ev.bind hy hz
     by_cases he:x.E=0
     . obtain⟨t,ht,rfl⟩:=hc.ok he
       rw [he] at h
       obtain⟨z,hz,hcz⟩:=V5 hL f (lv:=lv) (d:=d) ⟨by omega,by omega,h3⟩ (x:=x) (e2:=x.X) rfl n (fun m hm=>hB m (by omega)) x.X.Op x.X.N x.X.S x.X.Kids x.To t ht g h
       exact⟨z,start z hz,hcz⟩
     . obtain⟨t,ht,rfl⟩:=hc.pan he
       refine⟨_,start _ Ev.pure,?_⟩
       obtain⟨w,h2,h⟩:=Ae h
       cases n with
       |zero=>cases h2
       |succ n =>
        rw [AF.eq_2] at h2
        have de:(x.E == 0)=false:=by simpa using he
        rw [de] at h2
        obtain rfl:=Ac h2
        obtain rfl:=Ac h
        exact⟨t,ht,.inr ⟨he,rfl⟩⟩
def KH (m:Nat)(d:Int)(l:List Ab)(f:Int)(e3:List Aa):Option ((List Ab×Int×List Aa) ⊕ (Ex Al Ad Aa)) :=
 bif ((e3.length:Int) == 40) then
  (BP (Ad.mk l f) 0 true).bind fun y3=>match y3 with
  |.ok _ p9 =>
   (AN p9 2).bind fun y4=>match y4 with
   |.ok _ p11 =>
    (Ax m p11 (IntKind.i64.wrap (d+1))).bind fun y5=>match y5 with
    |.ok e7 p13 =>
     (some [e7]).bind fun l =>
     (CO 65 e3 l).bind fun l1 =>
     AS m d p13.l p13.forms l1
    |.pan e8 p14=>some (.inr (.pan e8 p14))
   |.pan e6 p12=>some (.inr (.pan e6 p12))
  |.pan e5 p10=>some (.inr (.pan e5 p10))
 else
  (Ax m (Ad.mk l f) (IntKind.i64.wrap (d+1))).bind fun y6=>match y6 with
  |.ok e9 p15 =>
   (some [e9]).bind fun l2 =>
   (CO 65 e3 l2).bind fun l3 =>
   AS m d p15.l p15.forms l3
  |.pan e10 p16=>some (.inr (.pan e10 p16))
omit hL in
theorem FX (m:Nat){t:Ab}{r:List Ab}{f d:Int}{e3:List Aa}:AS (m+1) d (t::r) f e3 =
 if isS t ⟨#[41]⟩=true then some (.inl (t::r,f,e3)) else if 0<e3.length then (if isS t ⟨#[44]⟩=true then KH m d r f e3 else some (.inr (.pan ⟨t.At,5⟩ ⟨t::r,f⟩))) else KH m d (t::r) f e3:=by
 rw [AS.eq_2]
 simp only [II,Ji,Option.bind_some]
 cases isS t ⟨#[41]⟩ with
 |true=>rfl
 |false =>
  by_cases h0:0<e3.length
  . have d0:decide (0<(e3.length:Int))=true:=by rw [decide_eq_true_eq];omega
    rw [d0,if_pos h0]
    cases isS t ⟨#[44]⟩ with
    |true=>rfl
    |false=>rfl
  . have d0:decide (0<(e3.length:Int))=false:=by rw [decide_eq_false_iff_not];omega
    rw [d0,if_neg h0];rfl
omit hL in
theorem T8 {t:Ab}{d:Int}(h:fst t d true≠5):fst t 0 true=0:=by
 unfold fst at h ⊢
 split at h
 . exact absurd rfl h
 . rename_i hh
   rw [if_neg hh,if_neg (by decide)]
omit hL in
theorem T9 {t:Ab}{d:Int}(h:fst t d true=5):fst t 0 true=5:=by
 unfold fst at h ⊢
 split at h
 . rename_i hh;rw [if_pos hh]
 . split at h<;>cases h
omit hL in
theorem TO {t:Ab}{r:List Ab}{f d:Int}(h:fst t d true≠0):Ev (fun m=>Ax m ⟨t::r,f⟩ d) (.pan ⟨t.At,fst t d true⟩ ⟨t::r,f⟩):=by
 refine Ev.step (fun m=>Ax.eq_2 (n:=m) _ _) ?_
 simp only [Hq,if_neg h,Option.bind_some]
 exact Ev.pure
def Xw (L:List Ab)(f:Int)(x:Ab)(g:A0)(w:(List Ab×Int×List Aa) ⊕ (Ex Al Ad Aa)):Prop :=
 (g.E=0/\∃ kids k t t',g.To=k+1/\gi L k=some t/\isS t ⟨#[41]⟩=true/\gi L (k+1)=some t'/\w=.inl (L.drop k.toNat,f,kids)/\g.X=⟨4,0,x.S,kids,x.At⟩) ∨
  (g.E≠0/\∃ t,gi L g.To=some t/\w=.inr (.pan ⟨t.At,g.E⟩ (at_ L g.To f)))
theorem V6 {d:Int}{x:Ab}:∀ (n:Nat),(∀ m,m<n->SE L f m)->∀ (k:Int) (out:List Aa) (t:Ab),gi L k=some t->∀ g,B3 n L d x k out=some g ->
 ∃ w,Ev (fun m=>KH m d (L.drop k.toNat) f out) w/\Xw L f x g w
 |0,_,k,out,t,ht,g,h=>by cases h
 |n+1,hE,k,out,t,ht,g,h=>by
  rw [B3.eq_2,CC ht] at h
  simp only [Option.bind_some] at h
  have hp:L.drop k.toNat=t::L.drop (k+1).toNat:=(Am ht).1
  obtain⟨v,hv,h⟩:=Ae h
  have hv2:v=(decide (fst t (IntKind.i64.wrap (d+1)) true=2)||(decide (fst t (IntKind.i64.wrap (d+1)) true=0)&&((out.length:Int) == 40))):=by
   rcases QY (t:=t) (d:=IntKind.i64.wrap (d+1)) (no:=true) with e|e|e<;>rw [e] at hv ⊢
   . cases h40:((out.length:Int) == 40)<;>rw [h40] at hv<;>exact (Ac hv).symm
   . exact (Ac hv).symm
   . exact (Ac hv).symm
  rcases Ak h with⟨c,h⟩|⟨c,h⟩
  . obtain rfl:=Ac h
    rw [c] at hv2
    refine⟨.inr (.pan ⟨t.At,2⟩ (at_ L k f)),?_,.inr ⟨show (2:Int)≠0 by decide,t,ht,rfl⟩⟩
    rw [hp,CM ht]
    unfold KH
    have hn5:fst t (IntKind.i64.wrap (d+1)) true≠5:=by
     intro e5;rw [e5] at hv2;cases hv2
    cases h40:((out.length:Int) == 40) with
    |true =>
     simp only [cond_true,Hq,T8 hn5,if_true,Option.bind_some,E7]
     exact Ev.pure
    |false =>
     have e2:fst t (IntKind.i64.wrap (d+1)) true=2:=by
      rw [h40] at hv2;simpa using hv2.symm
     simp only [cond_false]
     have:=TO (t:=t) (r:=L.drop (k+1).toNat) (f:=f) (d:=IntKind.i64.wrap (d+1)) (by rw [e2];decide)
     rw [e2] at this
     exact Ev.bind this Ev.pure
  . rw [c] at hv2
    obtain⟨g1,h1,h⟩:=Ae h
    obtain⟨y,hy,hc⟩:=hE n (by omega) _ _ _ h1
    cases h40:((out.length:Int) == 40) with
    |true =>
     -- a problem of syntax
     have e5:fst t (IntKind.i64.wrap (d+1)) true=5:=by
      rcases QY (t:=t) (d:=IntKind.i64.wrap (d+1)) (no:=true) with e|e|e
      . rw [h40,e] at hv2;cases hv2
      . exact e
      . rw [e] at hv2;cases hv2
     cases n with
     |zero=>cases h1
     |succ n =>
      rw [AI.eq_2,CC ht,e5] at h1
      obtain rfl:=Ac h1
      obtain rfl:=Ac h
      refine⟨.inr (.pan ⟨t.At,5⟩ (at_ L k f)),?_,.inr ⟨show (5:Int)≠0 by decide,t,ht,rfl⟩⟩
      rw [hp,CM ht]
      unfold KH
      rw [h40]
      simp only [cond_true,Hq,T9 e5,Option.bind_some]
      exact Ev.pure
    |false =>
     have start:∀ z,Ev (fun m=>match y with
      |.ok e9 p15 =>
       (some [e9]).bind fun l2 =>
       (CO 65 out l2).bind fun l3 =>
       AS m d p15.l p15.forms l3
      |.pan e10 p16=>some (.inr (.pan e10 p16))) z->Ev (fun m=>KH m d (L.drop k.toNat) f out) z:=by
      intro z hz
      unfold KH
      rw [h40]
      exact Ev.bind hy hz
     rcases Ak h with⟨c2,h⟩|⟨c2,h⟩
     . obtain rfl:=Ac h
       have c2':g1.E≠0:=by simpa using c2
       obtain⟨t1,ht1,rfl⟩:=hc.pan c2'
       exact⟨_,start _ Ev.pure,.inr ⟨c2',t1,ht1,rfl⟩⟩
     . have c2':g1.E=0:=by simpa using c2
       obtain⟨t1,ht1,rfl⟩:=hc.ok c2'
       obtain⟨l2,hl2,h⟩:=Ae (show (CO 65 out [g1.X]).bind _=some g from h)
       rw [AG ht1] at h
       simp only [Option.bind_some,AG ht1] at h
       have hlen:0<l2.length:=by
        unfold CO at hl2
        split at hl2
        . obtain rfl:=Ac hl2;simp
        . cases hl2
       have hp1:L.drop g1.To.toNat=t1::L.drop (g1.To+1).toNat:=(Am ht1).1
       have e1:∀ z,Ev (fun m=>AS m d (L.drop g1.To.toNat) f l2) z->Ev (fun m=>KH m d (L.drop k.toNat) f out) z:=by
        intro z hz
        refine start z ?_
        simp only [Option.bind_some,hl2]
        exact hz
       rcases Ak h with⟨c3,h⟩|⟨c3,h⟩
       . have c3':isS t1 ⟨#[41]⟩=true:=c3
         obtain⟨t2,ht2⟩:=hL.next _ _ ht1 (by rw [D7 c3'];decide)
         obtain rfl:=Ac h
         rw [C2 hL ht1]
         refine⟨.inl (L.drop g1.To.toNat,f,l2),e1 _ ?_,.inl ⟨rfl,l2,g1.To,t1,t2,rfl,ht1,c3',ht2,rfl,rfl⟩⟩
         rw [hp1]
         refine Ev.step (fun m=>FX m) ?_
         simp only [c3',if_true];exact Ev.pure
       . have c3':isS t1 ⟨#[41]⟩=false:=c3
         rcases Ak h with⟨c4,h⟩|⟨c4,h⟩
         . have c4':isS t1 ⟨#[44]⟩=false:=by
            have:(!isS t1 ⟨#[44]⟩)=true:=c4
            simpa using this
           obtain rfl:=Ac h
           refine⟨.inr (.pan ⟨t1.At,5⟩ (at_ L g1.To f)),e1 _ ?_,.inr ⟨show (5:Int)≠0 by decide,t1,ht1,rfl⟩⟩
           rw [hp1,CM ht1]
           refine Ev.step (fun m=>FX m) ?_
           simp only [c3',c4',hlen,if_true,if_false,Bool.false_eq_true];exact Ev.pure
         . have c4':isS t1 ⟨#[44]⟩=true:=by
            have:(!isS t1 ⟨#[44]⟩)=false:=c4
            simpa using this
           obtain⟨t2,ht2⟩:=hL.next _ _ ht1 (by rw [D7 c4'];decide)
           rw [C2 hL ht1] at h
           obtain⟨w,hw,hcw⟩:=V6 n (fun m hm=>hE m (by omega)) (g1.To+1) l2 t2 ht2 g h
           refine⟨w,e1 w ?_,hcw⟩
           rw [hp1]
           refine Ev.step (fun m=>FX m) ?_
           simp only [c3',c4',hlen,if_true,if_false,Bool.false_eq_true];exact hw
theorem WN {n:Nat}(hE:∀ m,m<=n->SE L f m):SA L f (n+1):=by
 intro k d g t ht hm h
 rw [B0.eq_2,ht] at h
 simp only [Option.bind_some] at h
 rw [AG ht] at h
 simp only [Option.bind_some] at h
 have hmem:=EH ht
 have hbeg:Fh t=(t.Kind == 1||(t.Kind == 2||(t.Kind == 3||isS t ⟨#[40]⟩))):=by
  unfold Fh
  show (t.Kind == 1||(t.Kind == 2||(t.Kind == 3||(isS t ⟨#[40]⟩||isS t ⟨#[45]⟩))))=_
  rw [hm,Bool.or_false]
 have hp:L.drop k.toNat=t::L.drop (k+1).toNat:=(Am ht).1
 -- behind the first test
 have start:Fh t=true->∀ z,Ev (fun m =>
  bif (t.Kind == 2) then
   some (.ok (Aa.mk 1 t.N t.S [] t.At) (at_ L (k+1) f))
  else
   bif (t.Kind == 3) then
    some (.ok (Aa.mk 2 t.N t.S [] t.At) (at_ L (k+1) f))
   else
    bif (t.Kind == 1) then
     (AP (at_ L (k+1) f) ⟨#[40]⟩).bind fun i =>
     bif (!i) then
      some (.ok (Aa.mk 3 t.N t.S [] t.At) (at_ L (k+1) f))
     else
      (AA (at_ L (k+1) f)).bind fun n_ =>
      ((AS m d n_.2.l n_.2.forms []
      ):Option (((List Ab)×Int×(List Aa)) ⊕ (Ex Al Ad Aa))).bind fun y1=>match y1 with
      |.inl (p3,p4,e1) =>
       (AA (Ad.mk p3 p4)).bind fun n_1 =>
       some (.ok (Aa.mk 4 t.N t.S e1 t.At) n_1.2)
      |.inr o=>some o
    else
     (Ax m (at_ L (k+1) f) (IntKind.i64.wrap (d+1))).bind fun y8=>match y8 with
     |.ok e12 p19 =>
      (Bg p19 ⟨#[41]⟩).bind fun y9=>match y9 with
      |.ok n_3 p21 =>
       some (.ok e12 p21)
      |.pan e14 p22=>some (.pan e14 p22)
     |.pan e13 p20=>some (.pan e13 p20)) z->Ev (fun m=>Bb m (at_ L k f) d) z:=by
  intro hb z hz
  refine Ev.step (fun m=>Bb.eq_2 (n:=m) _ _) ?_
  have hb':BA (at_ L k f)=some true:=by rw [CM ht,FB];exact congrArg some hb
  rw [hb']
  simp only [Option.bind_some,Bool.not_true,cond_false]
  rw [hp]
  simp only [Dz,Option.bind_some]
  exact hz
 rcases Ak h with⟨c,h⟩|⟨c,h⟩
 . -- in parentheses
   have c':isS t ⟨#[40]⟩=true:=c
   have hk4:=D7 c'
   obtain⟨t2,ht2⟩:=hL.next _ _ ht (by rw [hk4];decide)
   rw [C2 hL ht] at h
   obtain⟨g1,h1,h⟩:=Ae h
   obtain⟨y,hy,hc⟩:=hE n (Nat.le_refl n) _ _ _ h1
   have hb:Fh t=true:=by rw [hbeg,c'];simp
   have e1:∀ z,Ev (fun m=>match y with
    |.ok e12 p19 =>
     (Bg p19 ⟨#[41]⟩).bind fun y9=>match y9 with
     |.ok n_3 p21 =>
      some (.ok e12 p21)
     |.pan e14 p22=>some (.pan e14 p22)
    |.pan e13 p20=>some (.pan e13 p20)) z->Ev (fun m=>Bb m (at_ L k f) d) z:=by
    intro z hz
    refine start hb z ?_
    simp only [hk4,show ((4:Int) == 2)=false from rfl,show ((4:Int) == 3)=false from rfl,show ((4:Int) == 1)=false from rfl,cond_false]
    exact Ev.bind hy hz
   rcases Ak h with⟨c2,h⟩|⟨c2,h⟩
   . obtain rfl:=Ac h
     have c2':g1.E≠0:=by simpa using c2
     obtain⟨t1,ht1,rfl⟩:=hc.pan c2'
     exact⟨_,e1 _ Ev.pure,t1,ht1,.inr ⟨c2',rfl⟩⟩
   . have c2':g1.E=0:=by simpa using c2
     obtain⟨t1,ht1,rfl⟩:=hc.ok c2'
     rw [AG ht1] at h
     simp only [Option.bind_some] at h
     rcases Ak h with⟨c3,h⟩|⟨c3,h⟩
     . have c3':isS t1 ⟨#[41]⟩=false:=by
        have:(!isS t1 ⟨#[41]⟩)=true:=c3
        simpa using this
       obtain rfl:=Ac h
       refine⟨.pan ⟨t1.At,5⟩ (at_ L g1.To f),e1 _ ?_,t1,ht1,.inr ⟨show (5:Int)≠0 by decide,rfl⟩⟩
       rw [CM ht1]
       simp only [Ji,c3',Option.bind_some,Bool.false_eq_true,if_false]
       exact Ev.pure
     . have c3':isS t1 ⟨#[41]⟩=true:=by
        have:(!isS t1 ⟨#[41]⟩)=false:=c3
        simpa using this
       obtain⟨t3,ht3⟩:=hL.next _ _ ht1 (by rw [D7 c3'];decide)
       rw [C2 hL ht1] at h
       obtain rfl:=Ac h
       refine⟨.ok g1.X (at_ L (g1.To+1) f),e1 _ ?_,t3,ht3,.inl ⟨rfl,rfl⟩⟩
       rw [CM ht1]
       simp only [Ji,c3',Option.bind_some,if_true]
       exact Ev.pure
 . have c':isS t ⟨#[40]⟩=false:=c
   rw [c',Bool.or_false] at hbeg
   by_cases k2:t.Kind=2
   . simp only [k2,beq_self_eq_true,cond_true] at h
     obtain⟨t2,ht2⟩:=hL.next _ _ ht (by rw [k2];decide)
     rw [C2 hL ht] at h
     obtain rfl:=Ac h
     refine⟨.ok (Aa.mk 1 t.N ⟨#[]⟩ [] t.At) (at_ L (k+1) f),start (by rw [hbeg,k2];rfl) _ ?_,t2,ht2,.inl ⟨rfl,rfl⟩⟩
     simp only [k2,beq_self_eq_true,cond_true,hL.num t hmem k2]
     exact Ev.pure
   . have d2:(t.Kind == 2)=false:=by simpa using k2
     have hN:=hL.other t hmem k2
     rw [d2] at h
     simp only [cond_false] at h
     by_cases k3:t.Kind=3
     . simp only [k3,beq_self_eq_true,cond_true] at h
       obtain⟨t2,ht2⟩:=hL.next _ _ ht (by rw [k3];decide)
       rw [C2 hL ht] at h
       obtain rfl:=Ac h
       refine⟨.ok (Aa.mk 2 0 t.S [] t.At) (at_ L (k+1) f),start (by rw [hbeg,k3];rfl) _ ?_,t2,ht2,.inl ⟨rfl,rfl⟩⟩
       simp only [d2,k3,beq_self_eq_true,cond_true,cond_false,hN]
       exact Ev.pure
     . have d3:(t.Kind == 3)=false:=by simpa using k3
       rw [d3] at h
       simp only [cond_false] at h
       by_cases k1:t.Kind=1
       . have d1:(t.Kind != 1)=false:=by simp [k1]
         rw [d1] at h
         simp only [cond_false] at h
         obtain⟨t2,ht2⟩:=hL.next _ _ ht (by rw [k1];decide)
         rw [C2 hL ht] at h
         rw [AG ht2] at h
         simp only [Option.bind_some] at h
         have hb:Fh t=true:=by rw [hbeg,k1];rfl
         have dk1:(t.Kind == 1)=true:=by simp [k1]
         rcases Ak h with⟨c4,h⟩|⟨c4,h⟩
         . have c4':isS t2 ⟨#[40]⟩=false:=by
            have:(!isS t2 ⟨#[40]⟩)=true:=c4
            simpa using this
           obtain rfl:=Ac h
           refine⟨.ok (Aa.mk 3 0 t.S [] t.At) (at_ L (k+1) f),start hb _ ?_,t2,ht2,.inl ⟨rfl,rfl⟩⟩
           rw [CM ht2]
           simp only [d2,d3,dk1,II,c4',cond_true,cond_false,Option.bind_some,Bool.not_false,hN]
           exact Ev.pure
         . have c4':isS t2 ⟨#[40]⟩=true:=by
            have:(!isS t2 ⟨#[40]⟩)=false:=c4
            simpa using this
           obtain⟨t3,ht3⟩:=hL.next _ _ ht2 (by rw [D7 c4'];decide)
           have e1:∀ z,Ev (fun m=>((AS m d (L.drop (k+1+1).toNat) f []
            ):Option (((List Ab)×Int×(List Aa)) ⊕ (Ex Al Ad Aa))).bind fun y1=>match y1 with
            |.inl (p3,p4,e1) =>
             (AA (Ad.mk p3 p4)).bind fun n_1 =>
             some (.ok (Aa.mk 4 t.N t.S e1 t.At) n_1.2)
            |.inr o=>some o) z->Ev (fun m=>Bb m (at_ L k f) d) z:=by
            intro z hz
            refine start hb z ?_
            rw [CM ht2]
            simp only [d2,d3,dk1,II,c4',Dz,cond_true,cond_false,Option.bind_some,Bool.not_true]
            exact hz
           obtain⟨g1,h1,h⟩:=Ae h
           obtain rfl:=Ac h
           have hk2:IntKind.i64.wrap (k+2)=k+1+1:=by
            have:=C2 hL ht2
            rw [show k+2=k+1+1 by omega];exact this
           cases n with
           |zero=>cases h1
           |succ n =>
            rw [Co.eq_2,ht,hk2] at h1
            simp only [Option.bind_some] at h1
            rw [AG ht3] at h1
            simp only [Option.bind_some] at h1
            have hp3:L.drop (k+1+1).toNat=t3::L.drop (k+1+1+1).toNat:=(Am ht3).1
            rcases Ak h1 with⟨c5,h1⟩|⟨c5,h1⟩
            . have c5':isS t3 ⟨#[41]⟩=true:=c5
              obtain⟨t4,ht4⟩:=hL.next _ _ ht3 (by rw [D7 c5'];decide)
              rw [C2 hL ht3] at h1
              obtain rfl:=Ac h1
              refine⟨.ok (Aa.mk 4 0 t.S [] t.At) (at_ L (k+1+1+1) f),e1 _ ?_,t4,ht4,.inl ⟨rfl,rfl⟩⟩
              rw [hp3]
              refine Ev.bind (a:=.inl (t3::L.drop (k+1+1+1).toNat,f,[])) (Ev.step (fun m=>FX m) ?_) ?_
              . simp only [c5',if_true];exact Ev.pure
              . simp only [Dz,Option.bind_some,hN];exact Ev.pure
            . have c5':isS t3 ⟨#[41]⟩=false:=c5
              obtain⟨w,hw,hcw⟩:=V6 hL f (x:=t) n (fun m hm=>hE m (by omega)) (k+1+1) [] t3 ht3 g1 h1
              have hw2:Ev (fun m=>AS m d (L.drop (k+1+1).toNat) f []) w:=by
               rw [hp3] at hw ⊢
               refine Ev.step (fun m=>FX m) ?_
               simp only [c5',List.length_nil,Nat.lt_irrefl,if_false,Bool.false_eq_true]
               exact hw
              rcases hcw with⟨he,kids,q,t5,t6,hq,ht5,_,ht6,rfl,hX⟩|⟨he,t5,ht5,rfl⟩
              . refine⟨.ok g1.X (at_ L g1.To f),e1 _ (Ev.bind hw2 ?_),t6,by rw [hq];exact ht6,.inl ⟨he,rfl⟩⟩
                have hp5:L.drop q.toNat=t5::L.drop (q+1).toNat:=(Am ht5).1
                rw [hX,hq,hp5]
                simp only [Dz,Option.bind_some,hN]
                exact Ev.pure
              . exact⟨_,e1 _ (Ev.bind hw2 Ev.pure),t5,ht5,.inr ⟨he,rfl⟩⟩
       . have d1:(t.Kind != 1)=true:=by simpa using k1
         rw [d1] at h
         obtain rfl:=Ac h
         have hb:Fh t=false:=by rw [hbeg,d2,d3];simpa using k1
         refine⟨.pan ⟨t.At,5⟩ (at_ L k f),?_,t,ht,.inr ⟨show (5:Int)≠0 by decide,rfl⟩⟩
         refine Ev.step (fun m=>Bb.eq_2 (n:=m) _ _) ?_
         have hb':BA (at_ L k f)=some false:=by rw [CM ht,FB];exact congrArg some hb
         rw [hb',CM ht]
         simp only [Option.bind_some,Bool.not_false,cond_true,E7]
         exact Ev.pure
theorem WT:∀ n,(∀ m,m<=n->SE L f m)/\(∀ m,m<=n->SB L f m)/\(∀ m,m<=n->SG L f m)/\(∀ m,m<=n->SM L f m)/\(∀ m,m<=n->SA L f m)
 |0=>by
  refine⟨fun m hm=>?_,fun m hm=>?_,fun m hm=>?_,fun m hm=>?_,fun m hm=>?_⟩<;>obtain rfl:m=0:=by omega
  . intro k d g h;cases h
  . intro k lv d g _ _ h;cases h
  . intro k d g h;cases h
  . intro k d g h;cases h
  . intro k d g t _ _ h;cases h
 |n+1=>by
  obtain⟨hE,hB,hG,hM,hA⟩:=WT n
  have up:∀ (S:Nat->Prop),(∀ m,m<=n->S m)->S (n+1)->∀ m,m<=n+1->S m:=fun S h1 h2 m hm=>by
   by_cases e:m=n+1
   . rw [e];exact h2
   . exact h1 m (by omega)
  exact⟨up _ hE (WL hL f (hE n (Nat.le_refl n)) (hB n (Nat.le_refl n))),up _ hB (WM hL f hB (hG n (Nat.le_refl n)) (hM n (Nat.le_refl n))),up _ hG (stepG hL f (hG n (Nat.le_refl n)) (hB n (Nat.le_refl n))),
   up _ hM (WK hL f (hM n (Nat.le_refl n)) (hA n (Nat.le_refl n))),up _ hA (WN hL f hE)⟩
theorem XB {n:Nat}{k d:Int}{g:A0}(h:AI n L k d=some g):∃ y,Ev (fun m=>Ax m (at_ L k f) d) y/\KS L f g y:=(WT hL f n).1 n (Nat.le_refl n) k d g h
end
end Go.Sp
