/-
  strconv.Itoa and strings.Join as calls in plain values; what the lexer prints, plainly.
-/
import Derived.Test.YtkcfmlfkfagejaaGreatDoorU38
set_option linter.unusedVariables false
set_option linter.unusedSimpArgs false
namespace Go.Proofs.YtkcfmlfkfagejaaGreatDoor
open Go.RowKit Go.Q Go.Lx Go.Vl
set_option maxRecDepth 100000
variable {σ:List (List PV)}
theorem Aar {w:World}(h:Nd w):Lib.TabIs Tryz.prog w "internal/strconv.uint64pow10" .u64 Lib.pow10Tab:=by
 obtain⟨⟨_,T,o,h0⟩,_⟩:=h
 unfold Lib.TabIs World.var?
 rw [show Tryz.prog.globalNamed "internal/strconv.uint64pow10" = some 0 from by kernel_rfl]
 simp only [Option.bind_some,h0]
theorem T1 (w:World)(k:Nat)(os:Array Obj):Below w.heap.size w (Sort.grow (w.drewN k) os) :=
 ⟨rfl,rfl,rfl,by show w.heap.size<=(w.heap++os).size;rw [Array.size_append];omega,fun j hj=>by show (w.heap++os)[j]?=_;rw [Array.getElem?_append_left hj]⟩
theorem Aad (n:Int)(h0 : -9223372036854775808<=n)(h1:n<=9223372036854775807)(σ:List (List PV)):VC Tryz.prog 112 [.lit (.int .i64 n)] σ fun x σ'=>x=.ret (.lit (.string ⟨⟨Lib.itoa n⟩⟩))/\σ'=σ :=
 VC.lits [.int .i64 n] _ fun w hg=>(Tryz.strconv_Itoa n h0 h1 w (Aar hg)).mono fun e w' ⟨he,k,os,hw⟩=>⟨he,by rw [hw];exact T1 w k os⟩
def CZ (xs:List (List UInt8)):List (List PV):=xs.map fun x=>[.lit (.string ⟨⟨x⟩⟩)]
theorem Aac (xs:List (List UInt8))(g:Grow)(sep:ByteArray)(hN:xs.length<=140737488355328)(hlen:(Lib.join xs sep.data.toList).length<=140737488355328)(σ:List (List PV)) :
 VC Tryz.prog 115 [.sl (CZ xs) g,.lit (.string sep)] σ fun x σ'=>x=.ret (.lit (.string ⟨⟨Lib.join xs sep.data.toList⟩⟩))/\σ'=σ:=by
 intro w G vs hs hvs hv _ _
 have key:Calls Tryz.prog 115 vs w fun e w'=>e=.returned (.string ⟨⟨Lib.join xs sep.data.toList⟩⟩)/\Below w.heap.size w w':=by
  match vs,hvs,hv with
  |⟨[v0,v1]⟩,_,hv =>
   have h0:V w G.U G.φ (.sl (CZ xs) g) v0:=hv 0 (by simp)
   have h1:V w G.U G.φ (.lit (.string sep)) v1:=hv 1 (by simp)
   cases h1 with
   |lit _ _ =>
   obtain⟨rows,hrows⟩:∃ rows,CZ xs=rows:=⟨_,rfl⟩
   rw [hrows] at h0
   cases h0 with
   |nil =>
    have hx:xs=[]:=by cases xs with|nil=>rfl|cons a l=>cases hrows
    subst hx
    exact (Tryz.strings_Join_none none 0 sep w).mono fun e w' ⟨he,hw⟩=>⟨he,by rw [hw];exact Below.refl _ _⟩
   |emp =>
    have hx:xs=[]:=by cases xs with|nil=>rfl|cons a l=>cases hrows
    subst hx
    exact (Tryz.strings_Join_none _ 0 sep w).mono fun e w' ⟨he,hw⟩=>⟨he,by rw [hw];exact Below.refl _ _⟩
   |sl _ _ _ b o sz cap us hc hm hss hU hw h1' hvs hf hg =>
    subst hrows
    have hlen2:(CZ xs).length=xs.length:=by simp [CZ]
    by_cases hx:xs=[]
    . subst hx
      exact (Tryz.strings_Join_none _ cap sep w).mono fun e w' ⟨he,hw⟩=>⟨he,by rw [hw];exact Below.refl _ _⟩
    have h0:0<xs.length:=List.length_pos_iff.2 hx
    have hone:∀ i (h:i<xs.length),sz=1/\us i 0=.string ⟨⟨xs[i]⟩⟩:=by
     intro i hi
     have h2:=hss i (by omega)
     have h3:(CZ xs)[i]'(by omega)=[.lit (.string ⟨⟨xs[i]⟩⟩)]:=by simp [CZ]
     rw [h3] at h2
     have hsz:sz=1:=h2.symm
     refine⟨hsz,?_⟩
     have h4:=hvs i (by omega) 0 (by rw [h3];simp)
     simp only [h3,List.getElem_cons_zero] at h4
     revert h4
     generalize us i 0=z
     intro h4
     cases h4 with
     |lit _ _=>rfl
    obtain⟨rfl,_⟩:=hone 0 h0
    have hj:=Tryz.strings_Join b o cap (xs.map fun x=>⟨⟨x⟩⟩) sep w (fun j x hj=>by
     rw [List.getElem?_map] at hj
     cases hxj:xs[j]? with
     |none=>rw [hxj] at hj;cases hj
     |some y =>
      rw [hxj] at hj
      obtain⟨hjl,hy⟩:=List.getElem?_eq_some_iff.1 hxj
      have h5:=hw j 0 (by omega) (by omega)
      rw [(hone j hjl).2,hy] at h5
      simp only [Nat.mul_one,Nat.add_zero] at h5
      rw [h5]
      simpa using hj) (hs.ub b _ (hU 0 0 (by omega) (by omega))) (by rw [List.length_map];exact hN) (by rw [List.length_map];omega) (by
     rw [List.map_map]
     have e:xs.map ((fun x:ByteArray=>x.data.toList)∘fun x=>(⟨⟨x⟩⟩:ByteArray))=xs:=by simp [Function.comp_def]
     rw [e];exact hlen)
    rw [List.map_map] at hj
    have e:xs.map ((fun x:ByteArray=>x.data.toList)∘fun x=>(⟨⟨x⟩⟩:ByteArray))=xs:=by simp [Function.comp_def]
    rw [e,List.length_map] at hj
    rw [hlen2]
    exact hj
 refine key.mono fun e w' ⟨he,hb⟩=>?_
 exact⟨_,_,{ G with U:=G.U },⟨rfl,rfl⟩,⟨_,he,.lit _ _,trivial⟩,hs.below hb (fun _ _ h=>.inl h) (fun _ _ h=>h),Ext.ofBelow hs hb (fun _ _ h=>.inl h) (fun _ _ h=>h)⟩
end Go.Proofs.YtkcfmlfkfagejaaGreatDoor
