/-
  Expressions and dossiers in memory, opened.
-/
import Derived.Test.YtkcfmlfkfagejaaGreatDoorU5
import Derived.Test.YtkcfmlfkfagejaaGreatDoorU16
set_option linter.unusedVariables false
set_option linter.unusedSimpArgs false
namespace Go.Proofs.YtkcfmlfkfagejaaGreatDoor
open Go.ChangeShapes Go.WideShapes Go.ChangeAt Go.RowKit Go.Q Go.Vl Go.Sp
set_option maxRecDepth 100000
abbrev UC (w:World):Nat->Nat->Prop:=fun b i=>(w.cell? ⟨b,i,none⟩).isSome=true
theorem XL {w:World}{f:Nat}{ps:List PV}{vs:Array Value}(hvc:VC Tryz.prog f ps [] fun x σ'=>x=.ret (.lit (.bool true))/\σ'=[])(hn:vs.size=ps.length)(hv:∀ i (hi:i<ps.length),V w (UC w) [] ps[i] (vs.getD i Go.undef))(hg:Nd w)(hb:∀ b∈Tb,b<w.heap.size) :
 Calls Tryz.prog f vs w fun e w'=>e=.returned (.bool true)/\Below w.heap.size w w':=by
 refine (hvc.out (U:=UC w) (vs:=vs) hg hb (fun b i hu=>?_) hn fun i hi=>hv i hi).mono fun e w' hpost=>?_
 . obtain⟨u,hu⟩:=Option.isSome_iff_exists.1 hu
   exact World.block_lt_of_cell? _ _ hu
 . obtain⟨⟨x,σ',G',⟨rfl,_⟩,v,h1,h2,_⟩,h3⟩:=hpost
   refine⟨?_,h3⟩
   have key:∀ {p:PV} {v:Value},V w' G'.U G'.φ p v->p=.lit (.bool true)->v=.bool true:=fun h e=>by
    cases h with
    |lit _ _=>injection e
    |_=>cases e
   rw [key h2 rfl] at h1;exact h1
end Go.Proofs.YtkcfmlfkfagejaaGreatDoor
