/-
  The simulation for all large fuel; lists of tokens of which one stands in the other. No program.
-/
import Derived.Test.YtgdalmleogphgaaGreatDoorU19
import Derived.Test.YtgdalmleogphgaaGreatDoorU20
namespace Go.Sp
open Go
theorem sim_ev {L M:List api_Token}{s e c:Int}(S:Sh L M s e)(hc:0<=c/\c<=9)(hM:Toks M){k d:Int}{g:ref32_Got}(hd:0<=d/\d<=31)(hg:Ev (fun n=>ref32_expr n L k d) g)(g0:g.E=0)(hn:g.To<e∨Neu M (e+s)) :
 k<g.To/\g.To<=e/\∃ g',Ev (fun n=>ref32_expr n M (k+s) (d+c)) g'/\(g'.E=2/\c≠0∨g'.E=0/\g'.To=g.To+s/\stE g'.X=stE g.X):=by
 obtain⟨N,hN⟩:=hg
 obtain⟨r1,r2,r3⟩:=(simA0 S hc N).fE k d g hd.1 hd.2 (hN N (Nat.le_refl _)) g0
 obtain⟨t,ht,_⟩:=fst_some (expr_first (hN N (Nat.le_refl _)) g0)
 obtain⟨t',ht',_⟩:=S.same _ _ (by omega) ht
 obtain⟨g',⟨N',hN'⟩,_⟩:=totX hM ht' (d+c)
 obtain⟨g2,h2,h3⟩:=((simA0 S hc (max N N')).fE k d g hd.1 hd.2 (hN _ (Nat.le_max_left _ _)) g0).2.2 hn
 have e2:g2=g':=Option.some.inj (h2.symm.trans (hN' _ (Nat.le_max_right _ _)))
 subst e2
 exact⟨r1,r2,g2,⟨N',hN'⟩,h3⟩
theorem sim_eh {L M:List api_Token}{s e c:Int}(S:Sh L M s e)(hc:0<=c/\c<=9)(hM:Toks M){k d:Int}{g:ref32_Got}(hd:0<=d/\d<=31)(hg:Ev (fun n=>ref32_expr n L k d) g)(g0:g.E=0)(hn:g.To<e∨Neu M (e+s)) :
 EH (fun n=>ref32_expr n M (k+s) (d+c)) (g.To+s) g.X:=by
 obtain⟨_,_,g',h1,h2⟩:=sim_ev S (c:=c) hc hM hd hg g0 hn
 exact⟨g',h1,h2.imp (fun h=>h.1) id⟩
theorem gi_app {α:Type}(x y:List α){j:Nat}(_h:j<y.length):gi (x++y) ((x.length+j:Nat):Int)=gi y (j:Int):=by
 rw [gi_nat,gi_nat,List.getElem?_append_right (by omega)]
 congr 1;omega
theorem gi_nn {α:Type}{l:List α}{k:Int}{t:α}(h:gi l k=some t):∃ j:Nat,k=(j:Int)/\l[j]?=some t/\j<l.length:=by
 have h2:=(drop_of_gi h).2
 obtain⟨j,rfl⟩:∃ j:Nat,k=(j:Int):=⟨k.toNat,by omega⟩
 exact⟨j,rfl,by rw [<- gi_nat];exact h,by omega⟩
theorem sh_of {pre l0 mid post:List api_Token}{u:api_Token}(hu:u.Kind=5)(hm:mid.map (fun t=>(t.Kind,t.S,t.N))=l0.map (fun t=>(t.Kind,t.S,t.N)))(hlen:(pre++(mid++post)).length<=1000000) :
 Sh (l0++[u]) (pre++(mid++post)) (pre.length:Int) (l0.length:Int):=by
 have hl:mid.length=l0.length:=by have:=congrArg List.length hm;simpa using this
 simp only [List.length_append] at hlen
 refine⟨by omega,by omega,fun k t hk h=>?_,fun t h=>?_,fun k t h=>?_⟩
 . obtain⟨j,rfl,hj,_⟩:=gi_nn h
   have hj2:j<l0.length:=by omega
   rw [List.getElem?_append_left hj2,List.getElem?_eq_getElem hj2] at hj
   have h3:mid[j]?=some mid[j]:=List.getElem?_eq_getElem (by omega)
   refine⟨mid[j],?_,?_⟩
   . rw [show ((j:Int)+(pre.length:Int))=((pre.length+j:Nat):Int) by omega,gi_app _ _ (by simp;omega),gi_nat,List.getElem?_append_left (by omega),h3]
   . have e:(mid.map (fun t=>(t.Kind,t.S,t.N)))[j]?=(l0.map (fun t=>(t.Kind,t.S,t.N)))[j]?:=by rw [hm]
     rw [List.getElem?_map,List.getElem?_map,h3,List.getElem?_eq_getElem hj2,<- Option.some.inj hj] at *
     simp only [Option.map_some,Option.some.injEq,Prod.mk.injEq] at e
     exact e
 . rw [gi_nat,List.getElem?_append_right (Nat.le_refl _),Nat.sub_self] at h
   rw [<- Option.some.inj h];exact hu
 . obtain⟨j,rfl,hj,h2⟩:=gi_nn h
   simp only [List.length_append,List.length_cons,List.length_nil] at h2
   omega
end Go.Sp
