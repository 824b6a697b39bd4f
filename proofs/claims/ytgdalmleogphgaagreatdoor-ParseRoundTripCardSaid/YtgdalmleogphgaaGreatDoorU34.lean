/-
  The tokens of a source: what can be printed of them, and how long their text is. No program. Printing, then reading: what the program's Print, PrintExpr, Forms and Expr answer together. No program. ParseRoundTrip: what is computed is true. No program.
-/
import Derived.Test.YtgdalmleogphgaaGreatDoorU22
import Derived.Test.YtgdalmleogphgaaGreatDoorU23
import Derived.Test.YtgdalmleogphgaaGreatDoorU33
namespace Go.Sp
open Go
theorem I5:∀ (N:Nat) (d:List UInt8),d.length=N->(∀ c∈d,Lx.isDigit c=true)->Lx.numVal d<10 ^ N
 |0,d,h,_=>by
  obtain rfl:=List.eq_nil_of_length_eq_zero h
  decide
 |N+1,d,h,hd=>by
  have hne:d≠[]:=by rintro rfl;simp at h
  have e:=List.dropLast_concat_getLast hne
  have ih:=I5 N d.dropLast (by rw [List.length_dropLast];omega) fun c hc=>hd c (by rw [<- e];exact List.mem_append.2 (.inl hc))
  rw [<- e,Lx.numVal_snoc]
  have:=Lx.digit_bounds (hd _ (List.getLast_mem hne))
  rw [Nat.pow_succ]
  omega
theorem JX:∀ (n:Nat) (r b:List UInt8),r.length<=n->∀ {s t:List UInt8} {k v:Nat},Lx.text b r=.ok k s v t->b.all Fo=true->s.all Fo=true/\s.length<=200/\v=0
 |0,r,b,h,s,t,k,v,he,hb=>by
  obtain rfl:=List.eq_nil_of_length_eq_zero (Nat.le_zero.1 h)
  unfold Lx.text at he
  split at he<;>cases he
 |n+1,[],b,h,s,t,k,v,he,hb=>by
  unfold Lx.text at he
  split at he<;>cases he
 |n+1,c::r,b,h,s,t,k,v,he,hb=>by
  rw [Lx.text.eq_def] at he
  simp only at he
  simp only [List.length_cons] at h
  split at he
  . cases he
  rename_i h200
  split at he
  . cases he;exact⟨hb,by omega,rfl⟩
  split at he
  . split at he
    . cases he
    . rename_i d r'
      split at he
      . cases he
      . rename_i hp
        refine JX n r' (b++[Lx.pair d]) (by simp only [List.length_cons] at h;omega) he ?_
        rw [List.all_append,hb]
        unfold Lx.pair at hp ⊢
        split
        . rename_i q;rcases q with rfl|rfl<;>rfl
        . rename_i q
          rw [if_neg q] at hp
          split
          . rfl
          . rename_i q2;rw [if_neg q2] at hp;exact absurd rfl hp
  . split at he
    . cases he
    . rename_i h32
      refine JX n r (b++[c]) (by omega) he ?_
      rw [List.all_append,hb]
      have:Fo c=true:=by
       unfold Fo
       rw [UInt8.lt_iff_toNat_lt,UInt8.lt_iff_toNat_lt] at h32
       have h1:decide (32<=c)=true:=by rw [decide_eq_true_eq,UInt8.le_iff_toNat_le];omega
       have h2:decide (c<=126)=true:=by rw [decide_eq_true_eq,UInt8.le_iff_toNat_le];omega
       rw [h1,h2];simp
      simp [this]
theorem OB {r s u:List UInt8}{k v:Nat}(h:Lx.tok r=.ok k s v u):(k=1->B8 ⟨⟨s⟩⟩=true)/\(k=2->EC (v:Int)=true)/\(k=3->Ew ⟨⟨s⟩⟩=true)/\(k≠2->v=0)/\(k=4->s.length<=2):=by
 cases r with
 |nil=>unfold Lx.tok at h;cases h
 |cons c r =>
  unfold Lx.tok at h
  simp only at h
  by_cases h1:Lx.isLetter c=true
  . rw [if_pos h1] at h
    obtain⟨rfl,rfl,e,hw,ht,hl⟩:=Lx.name_parts h
    refine⟨fun _=>?_,(fun h=>by cases h),(fun h=>by cases h),fun _=>rfl,(fun h=>by cases h)⟩
    unfold B8
    cases s with
    |nil =>
     exfalso
     rw [List.nil_append] at e
     rw [<- e] at ht
     have ht:Lx.isWord c=false:=ht
     unfold Lx.isWord at ht
     rw [h1] at ht;cases ht
    |cons d s =>
     have hd:c=d:=(List.cons.inj e).1
     subst hd
     have h2:decide (0<(⟨⟨c::s⟩⟩:ByteArray).size/\(⟨⟨c::s⟩⟩:ByteArray).size<=32)=true:=by
      rw [decide_eq_true_eq]
      show 0<(c::s).length/\(c::s).length<=32
      exact⟨by simp,hl⟩
     rw [h2,Bool.true_and,Bool.and_eq_true]
     exact⟨h1,List.all_eq_true.2 hw⟩
  rw [if_neg h1] at h
  by_cases h2:Lx.isDigit c=true
  . rw [if_pos h2] at h
    obtain⟨d,rfl,rfl,rfl,_,hd,_,_,hl,_⟩:=Lx.number_parts h
    refine⟨(fun h=>by cases h),fun _=>?_,(fun h=>by cases h),fun h=>absurd rfl h,(fun h=>by cases h)⟩
    have:=I5 _ d rfl hd
    have h15:10 ^ d.length<=10 ^ 15:=Nat.pow_le_pow_right (by decide) hl
    unfold EC
    rw [decide_eq_true_eq]
    have e15:(10:Nat) ^ 15=1000000000000000:=by decide
    omega
  rw [if_neg h2] at h
  by_cases h3:c=34
  . rw [if_pos h3] at h
    obtain⟨body,rfl,_⟩:=Lx.text_parts _ r [] (Nat.le_refl _) h
    obtain⟨g1,g2,rfl⟩:=JX _ r [] (Nat.le_refl _) h rfl
    refine⟨(fun h=>by cases h),(fun h=>by cases h),fun _=>?_,fun _=>rfl,(fun h=>by cases h)⟩
    unfold Ew
    rw [Bool.and_eq_true,decide_eq_true_eq]
    exact⟨g2,g1⟩
  . rw [if_neg h3] at h
    obtain⟨rfl,rfl,_,hs⟩:=Lx.sign_parts h
    refine⟨(fun h=>by cases h),(fun h=>by cases h),(fun h=>by cases h),fun _=>rfl,fun _=>?_⟩
    rcases hs with hs|⟨c,rfl,_⟩
    . rw [Lx.long_len hs];exact Nat.le_refl _
    . simp
theorem T1 {n:Nat}{r:List UInt8}{l:List Lx.Tok}(h:Lx.Good n r l):∀ y∈l,Mw y∨y.kind=5:=by
 induction h with
 |fin=>intro y hy;obtain rfl:=List.mem_singleton.1 hy;exact .inr rfl
 |cons ht _ ih =>
  intro y hy
  rcases List.mem_cons.1 hy with rfl|hy
  . exact .inl ⟨_,_,ht⟩
  . exact ih y hy
theorem Vq {l:List UInt8}{ts:List Lx.Tok}(h:Lx.tokens l=.ok ts):∀ t∈ts.map E9,Tg t:=by
 intro t ht
 obtain⟨y,hy,rfl⟩:=List.mem_map.1 ht
 rcases T1 (Lx.tokens_good h) y hy with⟨r,u,hr⟩|h5
 . obtain⟨g1,g2,g3,_⟩:=OB hr
   exact⟨fun h=>g1 (by have h:(y.kind:Int)=1:=h;omega),fun h=>g2 (by have h:(y.kind:Int)=2:=h;omega),fun h=>g3 (by have h:(y.kind:Int)=3:=h;omega)⟩
 . exact⟨fun h=>(by have h:(y.kind:Int)=1:=h;omega),fun h=>(by have h:(y.kind:Int)=2:=h;omega),fun h=>(by have h:(y.kind:Int)=3:=h;omega)⟩
theorem UK {n:Nat}{r:List UInt8}{l:List Lx.Tok}(h:Lx.Good n r l):Dx (l.map E9)<=2*r.length+1:=by
 induction h with
 |fin=>exact Nat.le_refl _
 | @cons r s u k v l ht _ ih =>
  obtain⟨t1,t2,_⟩:=Lx.tok_parts ht
  have hs:=Lx.skip_len false u
  have hw:=N4 (t:=E9 ⟨k,n-r.length,s,v⟩) (y:=⟨k,n-r.length,s,v⟩) ⟨_,_,ht⟩ rfl rfl rfl
  have hlen:r.length=(Lx.word k s v).length+u.length:=by
   have:=congrArg List.length t2
   rw [List.length_append] at this;exact this
  have hpos:1<=(Lx.word k s v).length:=by
   cases hw2:Lx.word k s v with
   |nil=>exact absurd hw2 t1
   |cons a b=>simp
  show tw (E9 ⟨k,n-r.length,s,v⟩)+Dx (l.map E9)<=_
  have e:tw (E9 ⟨k,n-r.length,s,v⟩)=(Lx.word k s v).length+1:=by
   unfold tw
   rw [hw]
   show (Lx.word k s v++[]).length+1=_
   rw [List.append_nil]
  omega
theorem Pl:∀ ws:List (List UInt8),(Lx.joinSp ws).length<=(ws.map fun w=>w.length+1).sum
 | []=>Nat.le_refl _
 | [w]=>by show w.length<=w.length+1+0;omega
 |w::v::r=>by
  have ih:=Pl (v::r)
  show (w++32::Lx.joinSp (v::r)).length<=(w.length+1)+((v::r).map fun w=>w.length+1).sum
  rw [List.length_append,List.length_cons];omega
theorem JY (l:List Ab):(CE l).size<=Dx l:=by
 show (Lib.join (l.flatMap Em) [32]).length<=_
 rw [Oc]
 refine Nat.le_trans (Pl _) ?_
 have one:∀ t:Ab,((Em t).map fun w=>w.length+1).sum<=tw t:=by
  intro t
  unfold tw Em
  split
  . simp
  split
  . simp
  split
  . simp
  . simp
 induction l with
 |nil=>exact Nat.le_refl _
 |cons t l ih =>
  rw [List.flatMap_cons,List.map_append,List.sum_append]
  have:=one t
  show _<=tw t+Dx l
  omega
theorem MS:∀ l:List UInt8,(Lx.quoted l).length<=2*l.length
 | []=>Nat.le_refl _
 |c::l=>by
  have h1:=MS l
  unfold Lx.quoted at h1 ⊢
  rw [List.flatMap_cons,List.length_append,List.length_cons]
  have:(if c=34∨c=92 then [92,c] else if c=10 then [92,110] else [c]).length<=2:=by
   split
   . exact Nat.le_refl _
   . split<;>simp
  omega
theorem Lu {t:Ab}(h:EJ t):tw t<=1000/\0<=t.N/\t.N<=999999999999999/\(t.Kind=3->t.S.size<=200):=by
 obtain⟨y,⟨r,u,hr⟩,e1,e2,e3⟩:=h
 obtain⟨g1,g2,g3,g4,g5⟩:=OB hr
 obtain⟨_,_,_,k1,k4⟩:=Lx.tok_parts hr
 have hw:=N4 (t:=t) ⟨r,u,hr⟩ e1 e2 e3
 have hN:t.N<=999999999999999:=by
  by_cases q:y.kind=2
  . have:=g2 q
    unfold EC at this
    simp only [decide_eq_true_eq] at this
    omega
  . have:=g4 q;omega
 refine⟨?_,by omega,hN,fun h=>?_⟩
 . unfold tw
   rw [hw]
   show (y.word++[]).length+1<=1000
   rw [List.append_nil]
   unfold Lx.Tok.word Lx.word
   by_cases q1:y.kind=1
   . rw [if_pos (.inl q1)]
     have:=GK (g1 q1)
     have:y.s.length<=32:=this
     omega
   by_cases q4:y.kind=4
   . rw [if_pos (.inr q4)]
     have:=g5 q4;omega
   rw [if_neg (by omega)]
   by_cases q2:y.kind=2
   . rw [if_pos q2]
     have:=(Nt y.n y.n (Nat.le_refl _)).2.2.2.2 15 (by decide) (by
      have e15:(10:Nat) ^ 15=1000000000000000:=by decide
      omega)
     omega
   rw [if_neg q2,if_pos (by omega)]
   have:=Ix (g3 (by omega))
   have:y.s.length<=200:=this
   have:=MS y.s
   simp only [List.length_cons,List.length_append,List.length_nil]
   omega
 . have q:y.kind=3:=by omega
   rw [e2];exact Ix (g3 q)
theorem LQ {l:List Ab}(h:∀ t∈l,EJ t)(hl:l.length<=900000):Gr l=some (CE l):=by
 have hs:=JY l
 have ht:∀ l:List Ab,(∀ t∈l,EJ t)->Dx l<=1000*l.length:=by
  intro l
  induction l with
  |nil=>intro _;exact Nat.le_refl _
  |cons t l ih =>
   intro h
   have:=ih fun t ht=>h t (.tail _ ht)
   have:=(Lu (h t (.head _))).1
   show tw t+Dx l<=_
   rw [List.length_cons];omega
 have:=ht l h
 unfold Gr
 rw [if_pos]
 refine⟨by omega,fun t ht=>?_,by omega,fun t ht=>?_⟩
 . have:=Lu (h t ht);omega
 . by_cases q:t.Kind=3
   . exact .inr (by have:=(Lu (h t ht)).2.2.2 q;omega)
   . exact .inl q
end Go.Sp
namespace Go.Sp
open Go
mutual
theorem SX:∀ x:Aa,BB (DY x)=BB x/\Es (DY x)=Es x/\(DY x).Op=x.Op
 |.mk op n s l p=>by
  obtain⟨h1,h2⟩:=SW l
  refine⟨?_,?_,rfl⟩
  . show P8 op n s (D4 (IL l))=P8 op n s (D4 l)
    rw [h1]
  . show IH op n s (Gq (IL l))=IH op n s (Gq l)
    rw [h2]
theorem SW:∀ l:List Aa,D4 (IL l)=D4 l/\Gq (IL l)=Gq l
 | []=>⟨rfl,rfl⟩
 |x::l=>by
  obtain⟨h1,h2,h3⟩:=SX x
  obtain⟨h4,h5⟩:=SW l
  constructor
  . show (lvl (DY x).Op,BB (DY x))::D4 (IL l)=(lvl x.Op,BB x)::D4 l
    rw [h1,h3,h4]
  . show Es (DY x)::Gq (IL l)=Es x::Gq l
    rw [h2,h5]
end
mutual
theorem Vy:∀ x:Aa,BB (nE x)=BB x/\Es (nE x)=Es x/\(nE x).Op=x.Op
 |.mk op n s l p=>by
  obtain⟨h1,h2⟩:=Vx l
  simp only [nE]
  by_cases q1:op=1
  . subst q1;exact⟨rfl,rfl,rfl⟩
  rw [if_neg q1]
  by_cases q2:op=2
  . subst q2;exact⟨rfl,rfl,rfl⟩
  rw [if_neg q2]
  by_cases q3:op=3
  . subst q3;exact⟨rfl,rfl,rfl⟩
  rw [if_neg q3]
  by_cases q4:op=4
  . subst q4
    refine⟨?_,?_,rfl⟩
    . show P8 4 0 s (D4 (nL l))=P8 4 n s (D4 l)
      rw [h1];rfl
    . show IH 4 0 s (Gq (nL l))=IH 4 n s (Gq l)
      rw [h2];rfl
  rw [if_neg q4]
  refine⟨?_,?_,rfl⟩
  . show P8 op 0 ⟨#[]⟩ (D4 (nL l))=P8 op n s (D4 l)
    rw [h1]
    unfold P8
    rw [if_neg q1,if_neg q2,if_neg q3,if_neg q4,if_neg q1,if_neg q2,if_neg q3,if_neg q4]
  . show IH op 0 ⟨#[]⟩ (Gq (nL l))=IH op n s (Gq l)
    rw [h2]
    unfold IH
    rw [if_neg q1,if_neg q2,if_neg q3,if_neg q4,if_neg q1,if_neg q2,if_neg q3,if_neg q4]
theorem Vx:∀ l:List Aa,D4 (nL l)=D4 l/\Gq (nL l)=Gq l
 | []=>⟨rfl,rfl⟩
 |x::l=>by
  obtain⟨h1,h2,h3⟩:=Vy x
  obtain⟨h4,h5⟩:=Vx l
  constructor
  . show (lvl (nE x).Op,BB (nE x))::D4 (nL l)=(lvl x.Op,BB x)::D4 l
    rw [h1,h3,h4]
  . show Es (nE x)::Gq (nL l)=Es x::Gq l
    rw [h2,h5]
end
theorem Xa (a:As):pA (Hx a)=pA a/\G8 (Hx a)=G8 a:=by
 obtain⟨h1,h2,_⟩:=SX a.E
 constructor
 . unfold pA Hx;simp only [h1]
 . unfold G8 Hx;simp only [h2]
theorem XF {a:As}(hw:Vd a):pA (nA a)=pA a/\G8 (nA a)=G8 a:=by
 have hk:=hw.k
 obtain⟨h1,h2,_⟩:=Vy a.E
 unfold nA
 by_cases q1:a.Kind=1
 . rw [if_pos q1];unfold pA G8;rw [q1];exact⟨rfl,rfl⟩
 rw [if_neg q1]
 by_cases q2:a.Kind=2
 . rw [if_pos q2];unfold pA G8;rw [q2];exact⟨rfl,rfl⟩
 rw [if_neg q2]
 by_cases q3:a.Kind=3
 . rw [if_pos q3];unfold pA G8;rw [q3];exact⟨rfl,rfl⟩
 rw [if_neg q3]
 by_cases q4:a.Kind=4
 . rw [if_pos q4];unfold pA G8;rw [q4];exact⟨rfl,rfl⟩
 rw [if_neg q4]
 have q5:a.Kind=5:=by omega
 unfold pA G8
 rw [q5]
 exact⟨by show tS _::(BB (nE a.E)++_)=tS _::(BB a.E++_);rw [h1],by show Es (nE a.E)=Es a.E;rw [h2]⟩
theorem SY:∀ l:List As,Ea (l.map Hx)=Ea l/\(l.map Hx).all G8=l.all G8
 | []=>⟨rfl,rfl⟩
 |a::l=>by
  obtain⟨h1,h2⟩:=Xa a
  obtain⟨h3,h4⟩:=SY l
  rw [List.map_cons]
  exact⟨by show pA (Hx a)++Ea (l.map Hx)=pA a++Ea l;rw [h1,h3],by rw [List.all_cons,List.all_cons,h2,h4]⟩
theorem V0:∀ {l:List As},(∀ a∈l,Vd a)->Ea (l.map nA)=Ea l/\(l.map nA).all G8=l.all G8
 | [],_=>⟨rfl,rfl⟩
 |a::l,h=>by
  obtain⟨h1,h2⟩:=XF (h a (.head _))
  obtain⟨h3,h4⟩:=V0 fun a ha=>h a (.tail _ ha)
  rw [List.map_cons]
  exact⟨by show pA (nA a)++Ea (l.map nA)=pA a++Ea l;rw [h1,h3],by rw [List.all_cons,List.all_cons,h2,h4]⟩
mutual
theorem WZ:∀ f:Af,pF (Q9 f)=pF f/\okF (Q9 f)=okF f
 |.mk w l b p=>by
  obtain⟨h1,h2⟩:=SY l
  obtain⟨h3,h4⟩:=PS b
  have he:(DL b).isEmpty=b.isEmpty:=by cases b<;>rfl
  constructor
  . show ⟨1,0,w,0⟩::(Ea (l.map Hx)++(if (DL b).isEmpty then [tS ⟨#[59]⟩] else tS ⟨#[123]⟩::(Dj (DL b)++[tS ⟨#[125]⟩])))=⟨1,0,w,0⟩::(Ea l++(if b.isEmpty then [tS ⟨#[59]⟩] else tS ⟨#[123]⟩::(Dj b++[tS ⟨#[125]⟩])))
    rw [h1,h3,he]
  . show (B8 w&&((l.map Hx).all G8&&CS (DL b)))=(B8 w&&(l.all G8&&CS b))
    rw [h2,h4]
theorem PS:∀ l:List Af,Dj (DL l)=Dj l/\CS (DL l)=CS l
 | []=>⟨rfl,rfl⟩
 |f::l=>by
  obtain⟨h1,h2⟩:=WZ f
  obtain⟨h3,h4⟩:=PS l
  exact⟨by show pF (Q9 f)++Dj (DL l)=pF f++Dj l;rw [h1,h3],by show (okF (Q9 f)&&CS (DL l))=(okF f&&CS l);rw [h2,h4]⟩
end
theorem XE {f:Af}(h:Qx f):pF (nF f)=pF f/\okF (nF f)=okF f:=by
 induction h with
 |mk w l b p ha hb ih =>
  obtain⟨h1,h2⟩:=V0 ha
  have hB:Dj (I7 b)=Dj b/\CS (I7 b)=CS b:=by
   clear h1 h2 ha
   induction b with
   |nil=>exact⟨rfl,rfl⟩
   |cons f b ihb =>
    obtain⟨h1,h2⟩:=ih f (.head _)
    obtain⟨h3,h4⟩:=ihb (fun x h=>hb x (.tail _ h)) fun x h=>ih x (.tail _ h)
    exact⟨by show pF (nF f)++Dj (I7 b)=pF f++Dj b;rw [h1,h3],by show (okF (nF f)&&CS (I7 b))=(okF f&&CS b);rw [h2,h4]⟩
  obtain⟨h3,h4⟩:=hB
  have he:(I7 b).isEmpty=b.isEmpty:=by cases b<;>rfl
  constructor
  . show ⟨1,0,w,0⟩::(Ea (l.map nA)++(if (I7 b).isEmpty then [tS ⟨#[59]⟩] else tS ⟨#[123]⟩::(Dj (I7 b)++[tS ⟨#[125]⟩])))=⟨1,0,w,0⟩::(Ea l++(if b.isEmpty then [tS ⟨#[59]⟩] else tS ⟨#[123]⟩::(Dj b++[tS ⟨#[125]⟩])))
    rw [h1,h3,he]
  . show (B8 w&&((l.map nA).all G8&&CS (I7 b)))=(B8 w&&(l.all G8&&CS b))
    rw [h2,h4]
theorem Vz:∀ {l:List Af},(∀ f∈l,Qx f)->Dj (I7 l)=Dj l/\CS (I7 l)=CS l
 | [],_=>⟨rfl,rfl⟩
 |f::l,h=>by
  obtain⟨h1,h2⟩:=XE (h f (.head _))
  obtain⟨h3,h4⟩:=Vz fun f hf=>h f (.tail _ hf)
  exact⟨by show pF (nF f)++Dj (I7 l)=pF f++Dj l;rw [h1,h3],by show (okF (nF f)&&CS (I7 l))=(okF f&&CS l);rw [h2,h4]⟩
theorem VY {l m:List Af}(hw:∀ f∈l,Qx f)(e:DL m=I7 l):Dj m=Dj l/\CS m=CS l:=by
 obtain⟨a1,a2⟩:=PS m
 obtain⟨b1,b2⟩:=Vz hw
 rw [e] at a1 a2
 exact⟨a1.symm.trans b1,a2.symm.trans b2⟩
theorem JA:∀ {l:List Af},CS l=true->∀ f∈l,okF f=true
 | [],_,f,hf=>by cases hf
 |x::l,h,f,hf=>by
  have h:(okF x&&CS l)=true:=h
  rw [Bool.and_eq_true] at h
  rcases List.mem_cons.1 hf with rfl|hf
  . exact h.1
  . exact JA h.2 f hf
theorem Nz {f:Af}(h:Gb f):okF f=true->P7 f:=by
 induction h with
 |mk f ha hx hb _ ih =>
  obtain⟨w,l,b,p⟩:=f
  intro ho
  have ho:(B8 w&&(l.all G8&&CS b))=true:=ho
  rw [Bool.and_eq_true,Bool.and_eq_true,List.all_eq_true] at ho
  obtain⟨o1,o2,o3⟩:=ho
  simp only at ha hb
  have ob:=JA o3
  refine .mk w l b p (.inl o1) (by omega) (fun a hal=>⟨.inl (o2 a hal),fun h5=>Np (hx a hal) ?_⟩) (by omega) fun x hxb=>ih x hxb (ob x hxb)
  have:=o2 a hal
  unfold G8 at this
  rw [h5] at this
  exact this
theorem QF {x:Aa}(hP:Qz x)(hF:C8 x)(hlen:(BB x).length<=900000)(C:Prop)(hC:C->Es x=true/\CK x 1/\Dx (BB x)<=65536) :
 ∃ t e,Ev (fun n=>Cw n x) (t,e)/\(e≠0/\¬C∨e=0/\∃ y,Ev (fun n=>BF n t) (y,⟨0,0⟩)/\Ev (fun n=>Bp n x y) true):=by
 have hp:=Vw hP ⟨[],false⟩ (by simpa using hlen)
 have st:∀ r,Ev (fun n=>(bif (!Es x) then some (⟨#[]⟩,1) else (Gr (BB x)).bind fun s=>(BF n s).bind fun e2=>bif (e2.2.E != 0) then some (⟨#[]⟩,2) else some (s,0):Option (ByteArray×Int))) r->Ev (fun n=>Cw n x) r:=by
  intro r hr
  unfold Cw
  rw [Xt]
  exact Ev.bind hp hr
 cases ho:Es x with
 |false =>
  refine⟨⟨#[]⟩,1,st _ ?_,.inl ⟨by decide,fun q=>by rw [(hC q).1] at ho;cases ho⟩⟩
  simp only [ho,Bool.not_false,cond_true];exact Ev.pure
 |true =>
  obtain⟨hw,ht⟩:=LJ _ x (Nat.le_refl _) ho
  have hs:=JY (BB x)
  obtain⟨y,q,h1,h2⟩:=VT hw ht C fun q=>⟨(hC q).2.1,by have:=(hC q).2.2;omega⟩
  simp only [ho,Bool.not_true,cond_false,LQ ht hlen,Option.bind_some] at st
  rcases h2 with⟨h2,h3⟩|⟨rfl,h3⟩
  . refine⟨⟨#[]⟩,2,st _ (Ev.bind h1 ?_),.inl ⟨by decide,h3⟩⟩
    simp only [show (q.E != 0)=true by simpa using h2,cond_true];exact Ev.pure
  . refine⟨CE (BB x),0,st _ (Ev.bind h1 ?_),.inr ⟨rfl,y,h1,SL hF y h3⟩⟩
    simp only [bne_self_eq_false,cond_false];exact Ev.pure
theorem NO {l:List Af}(hB:∀ f∈l,P7 f)(hF:Ga l)(hlen:(Dj l).length<=900000)(C:Prop)(hC:C->CS l=true/\((GO l 1/\Dc l<=2000/\Dx (Dj l)<=65536)∨∃ m,Ev (fun n=>BM n (CE (Dj l))) (m,⟨0,0⟩))) :
 ∃ t e,Ev (fun n=>Ds n l) (t,e)/\(e≠0/\¬C∨e=0/\t=CE (Dj l)/\CS l=true/\∃ m,Ev (fun n=>BM n t) (m,⟨0,0⟩)/\Ga m/\DL m=I7 l/\Ev (fun n=>BO n l m) true):=by
 have hl:=hF.1
 have hp:=LC (fun f hf=>UL (hB f hf)) (by omega) l.length 0 ⟨[],false⟩ (by simp) (by simpa using hlen)
 rw [List.drop_zero] at hp
 have st:∀ r,Ev (fun n=>(bif (!CS l) then some (⟨#[]⟩,1) else (Gr (Dj l)).bind fun s=>(BM n s).bind fun f=>bif (f.2.E != 0) then some (⟨#[]⟩,2) else some (s,0):Option (ByteArray×Int))) r->Ev (fun n=>Ds n l) r:=by
  intro r hr
  unfold Ds
  exact Ev.bind hp hr
 cases ho:CS l with
 |false =>
  refine⟨⟨#[]⟩,1,st _ ?_,.inl ⟨by decide,fun q=>by rw [(hC q).1] at ho;cases ho⟩⟩
  simp only [ho,Bool.not_false,cond_true];exact Ev.pure
 |true =>
  obtain⟨hw,ht⟩:=I4 l ho
  have hs:=JY (Dj l)
  obtain⟨m,q,h1,fm,h2⟩:=VS hw ht (GO l 1/\Dc l<=2000/\Dx (Dj l)<=65536) fun q=>⟨q.1,q.2.1,by have:=q.2.2;omega⟩
  simp only [ho,Bool.not_true,cond_false,LQ ht hlen,Option.bind_some] at st
  rcases h2 with⟨h2,h3⟩|⟨rfl,h3⟩
  . refine⟨⟨#[]⟩,2,st _ (Ev.bind h1 ?_),.inl ⟨by decide,fun c=>?_⟩⟩
    . simp only [show (q.E != 0)=true by simpa using h2,cond_true];exact Ev.pure
    . rcases (hC c).2 with h|⟨m0,h⟩
      . exact h3 h
      . have:=h1.uniq h
        cases this
        exact h2 rfl
  . refine⟨CE (Dj l),0,st _ (Ev.bind h1 ?_),.inr ⟨rfl,rfl,rfl,m,h1,fm,h3,SN hF hw m h3⟩⟩
    simp only [bne_self_eq_false,cond_false];exact Ev.pure
theorem Ls:∀ (L:List Ab) (k:Nat),Dx (L.take k)<=Dx L
 | [],k=>by rw [List.take_nil];exact Nat.le_refl _
 |t::L,0=>Nat.zero_le _
 |t::L,k+1=>by
  rw [List.take_succ_cons]
  have:=Ls L k
  show tw t+Dx (L.take k)<=tw t+Dx L
  omega
theorem NC:∀ l:List Ab,l.length<=Dx l
 | []=>Nat.le_refl _
 |t::l=>by
  have:=NC l
  show l.length+1<=tw t+Dx l
  unfold tw;omega
theorem SF {src:ByteArray}{ts:List Lx.Tok}(h:Lx.tokens src.data.toList=.ok ts):Dx (ts.map E9)<=2*src.size+1:=by
 have h1:=UK (Lx.tokens_good h)
 have h2:=Lx.skip_len false src.data.toList
 have h3:src.data.toList.length=src.size:=rfl
 omega
theorem XA (L:List Ab):sm L 0=0:=rfl
theorem WR {src:ByteArray}(hs:src.size<=500){x:Aa}{pr:Ay}(h:Ev (fun n=>BF n src) (x,pr))(h0:pr.E=0):Es x=true/\CK x 1/\Dx (BB x)<=1001/\C8 x:=by
 obtain⟨l0,ht,_,g,hg,g0,rfl,_,fx⟩:=Qh (by omega) h h0
 obtain⟨n,hn⟩:=hg.get
 obtain⟨R,_⟩:=(SH (Q2 (by omega) ht) (Vq ht) n).fE _ _ _ (by decide) (by decide) hn g0
 have h1:=R.wt
 have h2:=SF ht
 have h3:=Ls ((l0++[(⟨5,src.data.toList.length,[],0⟩:Lx.Tok)]).map E9) g.To.toNat
 have h4:=R.fit
 rw [Fp,XA] at h1
 rw [O5] at h4
 unfold sm at h1
 exact⟨R.ok,h4,by omega,fx⟩
theorem WQ {src:ByteArray}(hs:src.size<=500){l:List Af}{pr:Ay}(h:Ev (fun n=>BM n src) (l,pr))(h0:pr.E=0):CS l=true/\GO l 1/\Dc l<=2000/\Dx (Dj l)<=1001/\Ga l:=by
 obtain⟨l',pr',x,h1,h2,fl,_,_⟩:=Ks src
 cases h.uniq h1
 cases ts:Lx.tokens src.data.toList with
 |error y =>
  obtain⟨q,e⟩:=y
  have h:=h2.uniq (Ev.of (RW (by omega) ts))
  have he:e≠0:=(Dw _ _).2 _ _ ts
  have h2:pr=⟨(q:Int),(e:Int)⟩:=congrArg AO.P h
  rw [h2] at h0
  have h0:(e:Int)=0:=h0
  omega
 |ok tk =>
  obtain⟨n,hn⟩:=h2.get
  rw [TF (by omega) ts] at hn
  obtain⟨y,hy,hn⟩:=Ae hn
  cases y with
  |inr o =>
   have h1:=(V7 _ _ _ _ _ hy).1
   rw [Ac hn] at h1
   exact absurd h0 h1
  |inl o =>
   have e:o=l:=congrArg AO.L (Ac hn)
   subst e
   obtain⟨z,N,R,_⟩:=WW (Q2 (by omega) ts) (Vq ts) n [] 0 0 o hy ⟨rfl,trivial,rfl,by decide,Nat.zero_le _⟩ (by decide)
   have h1:=R.wt
   have h2:=SF ts
   have h3:=Ls (tk.map E9) z.toNat
   have h4:=R.cnt
   have h5:=R.max
   unfold sm at h1
   exact⟨R.ok,R.fit,by omega,by omega,fl⟩
end Go.Sp
namespace Go.Sp
open Go
set_option linter.unusedSimpArgs false
theorem Wg (a:As):(pA a).length<=6*Vs a:=by
 have h:=NP _ a.E (Nat.le_refl _)
 have hp:=Gn a.E
 unfold pA Vs
 split
 . simp;omega
 split
 . split
   . simp;omega
   . simp;omega
 split
 . simp;omega
 split
 . simp;omega
 split
 . simp only [List.length_cons,List.length_append,List.length_nil];omega
 . simp
theorem QJ:∀ l:List As,(Ea l).length<=6*Ja l
 | []=>Nat.le_refl _
 |a::l=>by
  have:=Wg a
  have:=QJ l
  show (pA a++Ea l).length<=6*(Vs a+Ja l)
  rw [List.length_append];omega
mutual
theorem VZ:∀ f:Af,(pF f).length<=6*Uo f
 |.mk w l b _=>by
  have h1:=QJ l
  have h2:=NY b
  show (⟨1,0,w,0⟩::(Ea l++(if b.isEmpty then [tS ⟨#[59]⟩] else tS ⟨#[123]⟩::(Dj b++[tS ⟨#[125]⟩]))):List Ab).length<=6*(1+(Ja l+Ka b))
  simp only [List.length_cons,List.length_append]
  split
  . simp only [List.length_cons,List.length_nil];omega
  . simp only [List.length_cons,List.length_append,List.length_nil];omega
theorem NY:∀ l:List Af,(Dj l).length<=6*Ka l
 | []=>Nat.le_refl _
 |f::l=>by
  have h1:=VZ f
  have h2:=NY l
  show (pF f++Dj l).length<=6*(Uo f+Ka l)
  rw [List.length_append];omega
end
theorem Iw:(((⟨0,0⟩:Ay).At == 0)&&(((⟨0,0⟩:Ay).E == 0)&&true))=true:=rfl
theorem R3 (l:List Af)(x:Aa)(src:ByteArray)(hl:l.length<=9223372036854775807)(hL:∀ f∈l,O0 f):∃ n,BT n l x src=some true:=by
 suffices h:Ev (fun n=>BT n l x src) true from h.get
 obtain⟨r1,a1,a2,a3⟩:=Ps 200 l 200 (by decide) (by decide) (by decide) hl hL
 obtain⟨r2,b1,b2,b3⟩:=Pu 200 x 200 (by decide) (by decide)
 have few:Ev (fun n=>F9 n l 200) (decide (0<=r1)):=by
  unfold F9
  exact Ev.bind a1 Ev.pure
 have early:∀ v:Bool,v=true->Ev (fun n=>(bif (!decide (0<=r1)) then some true else (Ca n x 200).bind fun e11=>bif (decide (e11<0)) then some true else some (decide (500<(src.size:Int))):Option Bool)) v->Ev (fun n=>BT n l x src) true:=by
  rintro _ rfl h
  unfold BT
  refine Ev.bind (Ev.bind few h) ?_
  simp only [cond_true,VQ,Option.bind_some];exact Ev.pure
 by_cases q0:¬ 0<=r1
 . refine early true rfl ?_
   simp only [decide_eq_false q0,Bool.not_false,cond_true];exact Ev.pure
 have q1:0<=r1:=by omega
 by_cases q2:r2<0
 . refine early true rfl ?_
   simp only [decide_eq_true q1,Bool.not_true,cond_false]
   refine Ev.bind b1 ?_
   simp only [decide_eq_true q2,cond_true];exact Ev.pure
 by_cases q3:500<src.size
 . refine early true rfl ?_
   simp only [decide_eq_true q1,Bool.not_true,cond_false]
   refine Ev.bind b1 ?_
   simp only [decide_eq_false q2,cond_false,decide_eq_true (show (500:Int)<(src.size:Int) by omega)];exact Ev.pure
 clear early
 obtain⟨a4,a5⟩:=a3 q1
 obtain⟨b4,b5⟩:=b3 (by omega)
 have fl:Ga l:=⟨by have:=HL l;omega,fun f hf=>Pt _ f (Nat.le_refl _) (by have:=NI hf;omega)⟩
 obtain⟨s,e,p1,p2⟩:=NO a5 fl (by have:=NY l;omega) False False.elim
 obtain⟨t,e',p3,p4⟩:=QF (Og _ x (Nat.le_refl _) (by omega) (by omega)) (Mf _ x (Nat.le_refl _) (by omega)) (by have:=NP _ x (Nat.le_refl _);omega) False False.elim
 obtain⟨fm,fp,_,c1,_,_,c0,_⟩:=Ks src
 obtain⟨y,ep,_,d1,_,_,d0⟩:=JJ src
 unfold BT
 refine Ev.bind (a:=false) (Ev.bind few ?_) ?_
 . simp only [decide_eq_true q1,Bool.not_true,cond_false]
   refine Ev.bind b1 ?_
   simp only [decide_eq_false q2,cond_false,decide_eq_false (show ¬ (500:Int)<(src.size:Int) by omega)];exact Ev.pure
 simp only [cond_false]
 refine Ev.bind p1 ?_
 refine Ev.bind (a:=.inl ()) ?_ ?_
 . rcases p2 with⟨p2,_⟩|⟨rfl,_,_,m,m1,_,_,m2⟩
   . simp only [show (e == 0)=false by simpa using p2,cond_false];exact Ev.pure
   . simp only [beq_self_eq_true,cond_true]
     refine Ev.bind m1 ?_
     simp only [Iw,Bool.not_true,cond_false]
     refine Ev.bind (a:=false) (Ev.bind m2 Ev.pure) ?_
     simp only [cond_false];exact Ev.pure
 refine Ev.bind p3 ?_
 refine Ev.bind (a:=.inl ()) ?_ ?_
 . rcases p4 with⟨p4,_⟩|⟨rfl,z,z1,z2⟩
   . simp only [show (e' == 0)=false by simpa using p4,cond_false];exact Ev.pure
   . simp only [beq_self_eq_true,cond_true]
     refine Ev.bind z1 ?_
     simp only [Iw,Bool.not_true,cond_false]
     refine Ev.bind (a:=false) (Ev.bind z2 Ev.pure) ?_
     simp only [cond_false];exact Ev.pure
 refine Ev.bind c1 ?_
 refine Ev.bind (a:=.inl ()) ?_ ?_
 . by_cases k0:fp.E=0
   . simp only [show (fp.E == 0)=true by simpa using k0,cond_true]
     obtain⟨o1,o2,o3,o4,o5⟩:=WQ (by omega) c1 k0
     have hlen:=NC (Dj fm)
     obtain⟨u,g,u1,u2⟩:=NO (fun f hf=>Nz (o5.2 f hf) (JA o1 f hf)) o5 (by omega) True fun _=>⟨o1,.inl ⟨o2,o3,by omega⟩⟩
     rcases u2 with⟨_,h⟩|⟨rfl,rfl,_,n',n1,n2,n3,n4⟩
     . exact absurd trivial h
     have hw:=(I4 fm o1).1
     obtain⟨e1,e2⟩:=VY hw n3
     have o1':CS n'=true:=by rw [e2];exact o1
     obtain⟨v,g',v1,v2⟩:=NO (l:=n') (fun f hf=>Nz (n2.2 f hf) (JA o1' f hf)) n2 (by rw [e1];omega) True fun _=>⟨o1',.inr ⟨n',by rw [e1];exact n1⟩⟩
     rcases v2 with⟨_,h⟩|⟨rfl,rfl,_⟩
     . exact absurd trivial h
     refine Ev.bind u1 (Ev.bind n1 (Ev.bind v1 ?_))
     simp only [bne_self_eq_false,cond_false,Iw,Bool.not_true,e1,decide_true]
     refine Ev.bind (a:=false) (Ev.bind n4 Ev.pure) ?_
     simp only [cond_false];exact Ev.pure
   . simp only [show (fp.E == 0)=false by simpa using k0,cond_false];exact Ev.pure
 refine Ev.bind d1 ?_
 by_cases k0:ep.E=0
 . simp only [show (ep.E != 0)=false by simpa using k0,cond_false]
   obtain⟨o1,o2,o3,o4⟩:=WR (by omega) d1 k0
   have hlen:=NC (BB y)
   obtain⟨u,g,u1,u2⟩:=QF (Np o4 o1) o4 (by omega) True fun _=>⟨o1,o2,by omega⟩
   rcases u2 with⟨_,h⟩|⟨rfl,z,z1,z2⟩
   . exact absurd trivial h
   refine Ev.bind u1 (Ev.bind z1 ?_)
   simp only [VQ,Option.bind_some,cond_true,beq_self_eq_true,Iw]
   exact Ev.bind (Ev.bind z2 Ev.pure) Ev.pure
 . simp only [show (ep.E != 0)=true by simpa using k0,cond_true,VQ,Option.bind_some]
   exact Ev.pure
end Go.Sp
