/-
  Expressions and dossiers in memory, opened. Lists of clauses in memory, opened.
-/
import Derived.Test.YtkcfmlfkfagejaaGreatDoorU5
import Derived.Test.YtkcfmlfkfagejaaGreatDoorU16
set_option linter.unusedVariables false
set_option linter.unusedSimpArgs false
namespace Go.Proofs.YtkcfmlfkfagejaaGreatDoor
open Go.ChangeShapes Go.WideShapes Go.ChangeAt Go.RowKit Go.Q Go.Vl Go.Sp
set_option maxRecDepth 100000
abbrev UC (w:World):Nat->Nat->Prop:=fun b i=>(w.cell? ⟨b,i,none⟩).isSome=true
def Row (w:World)(r:List PV)(cs:List Value):Prop:=cs.length=r.length/\∀ j (hj:j<r.length),∃ u,cs[j]?=some u/\u.oneCell'=true/\∀ φ,V w (UC w) φ r[j] u
theorem Row.nil {w:World}:Row w [] []:=⟨rfl,fun j hj=>absurd hj (by simp)⟩
theorem Row.cons {w:World}{p:PV}{r:List PV}{u:Value}{cs:List Value}(h1:u.oneCell'=true)(h:∀ φ,V w (UC w) φ p u)(k:Row w r cs):Row w (p::r) (u::cs):=by
 refine⟨by simp [k.1],fun j hj=>?_⟩
 cases j with
 |zero=>exact⟨u,rfl,h1,h⟩
 |succ j=>exact k.2 j (by simpa using hj)
theorem Aao {H:Type}{enc:TypeId×Value->H}{w:World}{held:Bool}{fuel:Nat}{t e:TypeId}{sz:Nat}{cs:List Value}{x:DataW H×List MemPlace}{α:Type}(row:α->List PV)(R:α->Prop)
 (ht:Tryz.prog.underlying t=some (.slice e)) (hsz:Tryz.prog.cellsOf e=sz) (h0:0<sz) (hr:∀ y,(row y).length=sz)
 (hel:∀ n cs x,n<fuel->DataW.trod enc Tryz.prog w 0 (fun _=>true) held n e cs=some x->∃ y,R y/\Row w (row y) cs)
 (h:DataW.trod enc Tryz.prog w 0 (fun _=>true) held fuel t cs=some x) :
 ∃ (l:List α) (v:Value),cs=[v]/\v.oneCell'=true/\(∀ φ,V w (UC w) φ (.sl (l.map row) .shared) v)/\(∀ y∈l,R y)/\l.length<=9223372036854775807:=by
 rcases DataW.trod_slice ht h with⟨e0,_⟩|⟨a,len,cap,elems,rest,n,hn,e0,_,_,hlc,hcm,hel2,hi,hsp,_⟩
 . exact⟨[],_,e0,rfl,fun φ=>.nil _ _,by simp,by simp⟩
 . have hm:cap<=9223372036854775807:=by unfold maxLen at hcm;exact hcm
   rw [hsz] at hi hsp
   obtain⟨b,o,sp⟩:=a
   have key:∀ i,i<len->∃ y,R y/\∃ cs,Row w (row y) cs/\∀ j,j<sz->w.cell? (((Addr.mk b o sp).add (i*sz)).add j)=cs[j]?:=fun i hil=>by
    have h1:=hi i hil
    rw [Ë (by omega)] at h1
    obtain⟨cs,hc,hd⟩:=Option.bind_eq_some_iff.1 h1
    obtain⟨_,_,hcell⟩:=World.cells?_some hc
    obtain⟨y,hy,hrow⟩:=hel n cs _ (by omega) hd
    exact⟨y,hy,cs,hrow,hcell⟩
   have hsp0:0<len->sp=none:=fun hl=>by
    obtain⟨y,_,cs,hrow,hc⟩:=key 0 hl
    obtain⟨u,hu,_⟩:=hrow.2 0 (by rw [hr];exact h0)
    have:=World.cell?_spot ((hc 0 h0).trans hu)
    simpa [Addr.add] using this
   have hsp1:sp≠none->cap=0:=fun hne=>by
    rcases Nat.eq_zero_or_pos cap with e|e
    . exact e
    . exfalso
      rcases Nat.eq_zero_or_pos len with e1|e1
      . subst e1
        obtain⟨k1,k2⟩:=hsp rfl
        have k3:=k2 0 (by omega)
        rw [Ë (by omega)] at k3
        obtain⟨cs,hc,_⟩:=Option.bind_eq_some_iff.1 k3
        obtain⟨_,hlen,hcell⟩:=World.cells?_some hc
        have k4:=hcell 0 h0
        rw [Ë (by omega)] at k4
        have:=World.cell?_spot k4
        exact hne (by simpa [Addr.add] using this)
      . exact hne (hsp0 e1)
   cases sp with
   |some k =>
    have hc0:=hsp1 (by simp)
    have hl0:len=0:=by omega
    subst hc0 hl0
    exact⟨[],_,e0,rfl,fun φ=>.emp _ _ _ _ _ (by simp),by simp,by simp⟩
   |none =>
    have hlen:(List.ofFn (fun i:Fin len=>(key i i.isLt).choose)).length=len:=by simp
    refine⟨List.ofFn (fun i:Fin len=>(key i i.isLt).choose),_,e0,rfl,fun φ=>?_,fun y hy=>?_,by rw [hlen];omega⟩
    . have hget:∀ i (hi:i<((List.ofFn (fun i:Fin len=>(key i i.isLt).choose)).map row).length) (hi2:i<len),((List.ofFn (fun i:Fin len=>(key i i.isLt).choose)).map row)[i]=row (key i hi2).choose:=fun i hi hi2=>by simp
      have hcell:∀ i j (hi:i<len),j<sz->∃ u,w.cell? ⟨b,o+i*sz+j,none⟩=some u/\u.oneCell'=true/\∀ (hj:j<(row (key i hi).choose).length) φ,V w (UC w) φ (row (key i hi).choose)[j] u:=fun i j hi hj=>by
       obtain⟨_,cs,hrow,hc⟩:=(key i hi).choose_spec
       obtain⟨u,hu,h1,hv⟩:=hrow.2 j (by rw [hr];exact hj)
       refine⟨u,?_,h1,fun _=>hv⟩
       have:=(hc j hj).trans hu
       rw [Y1,Y1] at this
       exact this
      have hlm:((List.ofFn (fun i:Fin len=>(key i i.isLt).choose)).map row).length=len:=by simp
      have key2:=V.sl (w:=w) (U:=UC w) φ ((List.ofFn (fun i:Fin len=>(key i i.isLt).choose)).map row) .shared b o sz cap (fun i j=>(w.cell? ⟨b,o+i*sz+j,none⟩).getD Go.undef)
       (by rw [hlm];exact hlc) hm (fun i hi=>by rw [hget i hi (by rw [hlm] at hi;exact hi),hr])
       (fun i j hi hj=>by rw [hlm] at hi;obtain⟨u,hu,_⟩:=hcell i j hi hj;show (w.cell? ⟨b,o+i*sz+j,none⟩).isSome=true;rw [hu];rfl)
       (fun i j hi hj=>by rw [hlm] at hi;obtain⟨u,hu,_⟩:=hcell i j hi hj;rw [hu];rfl)
       (fun i j hi hj=>by rw [hlm] at hi;obtain⟨u,hu,h1,_⟩:=hcell i j hi hj;simp only [hu,Option.getD_some];exact h1)
       (fun i hi j hj=>by
        have hi2:i<len:=by rw [hlm] at hi;exact hi
        have hj2:j<sz:=by rw [hget i hi hi2,hr] at hj;exact hj
        obtain⟨u,hu,_,hv⟩:=hcell i j hi2 hj2
        simp only [hu,Option.getD_some,hget i hi hi2]
        exact hv (by rw [hr];exact hj2) [])
       (by simp) (by simp)
      rw [hlm] at key2
      exact key2
    . obtain⟨i,rfl⟩:=List.mem_ofFn.1 hy
      exact (key i i.isLt).choose_spec.1
theorem Aap {H:Type}{enc:TypeId×Value->H}{w:World}{held:Bool}:∀ (fuel:Nat) {cs:List Value} {x:DataW H×List MemPlace},DataW.trod enc Tryz.prog w 0 (fun _=>true) held fuel 24 cs=some x->∃ y:Aa,Row w (Bn y) cs:=by
 have c24:Tryz.prog.cellsOf 24=5:=by kernel_rfl
 have c3:Tryz.prog.cellsOf 3=1:=by kernel_rfl
 have c9:Tryz.prog.cellsOf 9=1:=by kernel_rfl
 have c22:Tryz.prog.cellsOf 22=1:=by kernel_rfl
 intro fuel
 induction fuel using Nat.strongRecOn with
 |ind fuel ih =>
 intro cs x h
 obtain⟨xs,n,hn,rfl,hl,hxl,hf⟩:=DataW.trod_struct Tryz.underlying24 h
 rw [c24] at hl
 match cs,hl with
 | [v0,v1,v2,v3,v4],_ =>
  have hx4:xs.length=5:=hxl
  have f0:DataW.trod enc Tryz.prog w 0 (fun _=>true) held n 3 (List.take (Tryz.prog.cellsOf 3) [v0,v1,v2,v3,v4])=xs[0]?:=hf 0 _ rfl
  have f1:DataW.trod enc Tryz.prog w 0 (fun _=>true) held n 3 (List.take (Tryz.prog.cellsOf 3) [v1,v2,v3,v4])=xs[1]?:=hf 1 _ rfl
  have f2:DataW.trod enc Tryz.prog w 0 (fun _=>true) held n 9 (List.take (Tryz.prog.cellsOf 9) [v2,v3,v4])=xs[2]?:=hf 2 _ rfl
  have f3:DataW.trod enc Tryz.prog w 0 (fun _=>true) held n 22 (List.take (Tryz.prog.cellsOf 22) [v3,v4])=xs[3]?:=hf 3 _ rfl
  have f4:DataW.trod enc Tryz.prog w 0 (fun _=>true) held n 3 (List.take (Tryz.prog.cellsOf 3) [v4])=xs[4]?:=hf 4 _ rfl
  rw [c3] at f0 f1 f4
  rw [c9] at f2
  rw [c22] at f3
  simp only [List.take_succ_cons,List.take_zero] at f0 f1 f2 f3 f4
  rw [Ë (by omega)] at f0 f1 f2 f3 f4
  obtain⟨k0,e0,_,_⟩:=DataW.trod_int Tryz.underlying3 f0
  obtain⟨k1,e1,_,_⟩:=DataW.trod_int Tryz.underlying3 f1
  obtain⟨s,e2,_,_⟩:=DataW.trod_string Tryz.underlying9 f2
  obtain⟨l,u,e3,hu,hV,_,_⟩:=Aao Bn (fun _=>True) Tryz.underlying22 c24 (by decide) JD (fun m cs x hm h=>by obtain⟨y,hy⟩:=ih m (by omega) h;exact⟨y,trivial,hy⟩) f3
  obtain⟨k4,e4,_,_⟩:=DataW.trod_int Tryz.underlying3 f4
  simp only [List.cons.injEq,and_true] at e0 e1 e2 e3 e4
  subst e0 e1 e2 e3 e4
  refine⟨⟨k0,k1,s,l,k4⟩,?_⟩
  rw [Gv]
  exact .cons rfl (fun φ=>.lit _ _) (.cons rfl (fun φ=>.lit _ _) (.cons rfl (fun φ=>.lit _ _) (.cons hu hV (.cons rfl (fun φ=>.lit _ _) .nil))))
theorem Vn {H:Type}{enc:TypeId×Value->H}{w:World}{held:Bool}{fuel:Nat}{cs:List Value}{x:DataW H×List MemPlace}(h:DataW.trod enc Tryz.prog w 0 (fun _=>true) held fuel 26 cs=some x):∃ y:Ag,Row w (DN y) cs:=by
 have c26:Tryz.prog.cellsOf 26=20:=by kernel_rfl
 have c24:Tryz.prog.cellsOf 24=5:=by kernel_rfl
 have c3:Tryz.prog.cellsOf 3=1:=by kernel_rfl
 have c9:Tryz.prog.cellsOf 9=1:=by kernel_rfl
 obtain⟨xs,n,hn,rfl,hl,hxl,hf⟩:=DataW.trod_struct Tryz.underlying26 h
 rw [c26] at hl
 match cs,hl with
 | [a0,a1,a2,a3,b0,b1,b2,b3,b4,u0,u1,u2,u3,u4,d0,d1,d2,d3,d4,a7],_ =>
  have hx4:xs.length=8:=hxl
  have f0:DataW.trod enc Tryz.prog w 0 (fun _=>true) held n 9 (List.take (Tryz.prog.cellsOf 9) [a0,a1,a2,a3,b0,b1,b2,b3,b4,u0,u1,u2,u3,u4,d0,d1,d2,d3,d4,a7])=xs[0]?:=hf 0 _ rfl
  have f1:DataW.trod enc Tryz.prog w 0 (fun _=>true) held n 3 (List.take (Tryz.prog.cellsOf 3) [a1,a2,a3,b0,b1,b2,b3,b4,u0,u1,u2,u3,u4,d0,d1,d2,d3,d4,a7])=xs[1]?:=hf 1 _ rfl
  have f2:DataW.trod enc Tryz.prog w 0 (fun _=>true) held n 3 (List.take (Tryz.prog.cellsOf 3) [a2,a3,b0,b1,b2,b3,b4,u0,u1,u2,u3,u4,d0,d1,d2,d3,d4,a7])=xs[2]?:=hf 2 _ rfl
  have f3:DataW.trod enc Tryz.prog w 0 (fun _=>true) held n 3 (List.take (Tryz.prog.cellsOf 3) [a3,b0,b1,b2,b3,b4,u0,u1,u2,u3,u4,d0,d1,d2,d3,d4,a7])=xs[3]?:=hf 3 _ rfl
  have f4:DataW.trod enc Tryz.prog w 0 (fun _=>true) held n 24 (List.take (Tryz.prog.cellsOf 24) [b0,b1,b2,b3,b4,u0,u1,u2,u3,u4,d0,d1,d2,d3,d4,a7])=xs[4]?:=hf 4 _ rfl
  have f5:DataW.trod enc Tryz.prog w 0 (fun _=>true) held n 24 (List.take (Tryz.prog.cellsOf 24) [u0,u1,u2,u3,u4,d0,d1,d2,d3,d4,a7])=xs[5]?:=hf 5 _ rfl
  have f6:DataW.trod enc Tryz.prog w 0 (fun _=>true) held n 24 (List.take (Tryz.prog.cellsOf 24) [d0,d1,d2,d3,d4,a7])=xs[6]?:=hf 6 _ rfl
  have f7:DataW.trod enc Tryz.prog w 0 (fun _=>true) held n 3 (List.take (Tryz.prog.cellsOf 3) [a7])=xs[7]?:=hf 7 _ rfl
  rw [c9] at f0
  rw [c3] at f1 f2 f3 f7
  rw [c24] at f4 f5 f6
  simp only [List.take_succ_cons,List.take_zero] at f0 f1 f2 f3 f4 f5 f6 f7
  rw [Ë (by omega)] at f0 f1 f2 f3 f4 f5 f6 f7
  obtain⟨s,e0,_,_⟩:=DataW.trod_string Tryz.underlying9 f0
  obtain⟨k1,e1,_,_⟩:=DataW.trod_int Tryz.underlying3 f1
  obtain⟨k2,e2,_,_⟩:=DataW.trod_int Tryz.underlying3 f2
  obtain⟨k3,e3,_,_⟩:=DataW.trod_int Tryz.underlying3 f3
  obtain⟨y4,r4⟩:=Aap n f4
  obtain⟨y5,r5⟩:=Aap n f5
  obtain⟨y6,r6⟩:=Aap n f6
  obtain⟨k7,e7,_,_⟩:=DataW.trod_int Tryz.underlying3 f7
  simp only [List.cons.injEq,and_true] at e0 e1 e2 e3 e7
  subst e0 e1 e2 e3 e7
  refine⟨⟨s,k1,k2,k3,y4,y5,y6,k7⟩,?_⟩
  rw [Gv] at r4 r5 r6
  rw [Jk]
  have one:∀ {p q r t u:PV} {a b c d e:Value} {R:List PV} {C:List Value},Row w [p,q,r,t,u] [a,b,c,d,e]->Row w R C->Row w (p::q::r::t::u::R) (a::b::c::d::e::C):=fun {p q r t u a b c d e R C} g k=>by
   have g:∀ (j:Nat) (hj:j<5),∃ z,[a,b,c,d,e][j]?=some z/\z.oneCell'=true/\∀ φ,V w (UC w) φ ([p,q,r,t,u][j]'hj) z:=g.2
   obtain⟨_,h0,p0,q0⟩:=g 0 (by decide)
   obtain⟨_,h1,p1,q1⟩:=g 1 (by decide)
   obtain⟨_,h2,p2,q2⟩:=g 2 (by decide)
   obtain⟨_,h3,p3,q3⟩:=g 3 (by decide)
   obtain⟨_,h4,p4,q4⟩:=g 4 (by decide)
   obtain rfl:=Ac h0
   obtain rfl:=Ac h1
   obtain rfl:=Ac h2
   obtain rfl:=Ac h3
   obtain rfl:=Ac h4
   exact .cons p0 q0 (.cons p1 q1 (.cons p2 q2 (.cons p3 q3 (.cons p4 q4 k))))
  exact .cons rfl (fun φ=>.lit _ _) (.cons rfl (fun φ=>.lit _ _) (.cons rfl (fun φ=>.lit _ _) (.cons rfl (fun φ=>.lit _ _) (one r4 (one r5 (one r6 (.cons rfl (fun φ=>.lit _ _) .nil)))))))
theorem Ad8 {w:World}{f:Nat}{ps:List PV}{vs:Array Value}(hvc:VC Tryz.prog f ps [] fun x σ'=>x=.ret (.lit (.bool true))/\σ'=[])(hn:vs.size=ps.length)(hv:∀ i (hi:i<ps.length),V w (UC w) [] ps[i] (vs.getD i Go.undef))(hg:PA w)(hb:∀ b∈Xb,b<w.heap.size) :
 Calls Tryz.prog f vs w fun e w'=>e=.returned (.bool true)/\Below w.heap.size w w':=by
 refine (hvc.out (U:=UC w) (vs:=vs) hg hb (fun b i hu=>?_) hn fun i hi=>hv i hi).mono fun e w' hpost=>?_
 . obtain⟨u,hu⟩:=Option.isSome_iff_exists.1 hu
   exact World.block_lt_of_cell? _ _ hu
 . obtain⟨⟨x,σ',G',⟨rfl,_⟩,v,h1,h2,_⟩,h3⟩:=hpost
   refine⟨?_,h3⟩
   have key:∀ {p:PV} {v:Value},V w' G'.U G'.φ p v->p=.lit (.bool true)->v=.bool true:=fun h e=>by
    cases h with
    |lit _ _=>injection e
    |_=>cases e
   rw [key h2 rfl] at h1;exact h1
end Go.Proofs.YtkcfmlfkfagejaaGreatDoor
namespace Go.Proofs.YtkcfmlfkfagejaaGreatDoor
open Go.ChangeShapes Go.WideShapes Go.ChangeAt Go.RowKit Go.Q Go.Vl Go.Sp
set_option maxRecDepth 100000
theorem Vm {H:Type}{enc:TypeId×Value->H}{w:World}{held:Bool}{fuel:Nat}{v:Value}{x:DataW H×List MemPlace}(hv:v.cells.toList=[v])(h:DataW.trod enc Tryz.prog w 0 (fun _=>true) held fuel 31 v.cells.toList=some x) :
 ∃ l:List Ag,∀ φ,V w (UC w) φ (hC l) v:=by
 have c26:Tryz.prog.cellsOf 26=20:=by kernel_rfl
 rw [hv] at h
 obtain⟨l,u,e,_,q,g,r⟩:=Aao DN (fun _=>True) Tryz.underlying31 c26 (by decide) IF (fun m cs x hm h=>by obtain⟨y,hy⟩:=Vn h;exact⟨y,trivial,hy⟩) h
 obtain rfl:v=u:=by simpa using e
 exact⟨l,q⟩
end Go.Proofs.YtkcfmlfkfagejaaGreatDoor
