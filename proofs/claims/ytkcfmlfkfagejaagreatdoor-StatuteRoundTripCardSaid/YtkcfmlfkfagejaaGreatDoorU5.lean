/-
  What the rows' condition says of the program's own variables; the rows' common parts.
-/
import Derived.Test.YtkcfmlfkfagejaaGreatDoorRows
import Derived.Test.YtkcfmlfkfagejaaGreatDoorChecked
import Derived.Stop.LaidErr
import Derived.Lib.LaidTab
import Derived.Test.YtkcfmlfkfagejaaGreatDoorU1
import Derived.Test.YtkcfmlfkfagejaaGreatDoorU4
set_option linter.unusedVariables false
set_option linter.unusedSimpArgs false
namespace Go.Proofs.YtkcfmlfkfagejaaGreatDoor
open Go.ChangeShapes Go.WideShapes Go.ChangeAt Go.RowKit Go.Q Go.Vl
theorem Tryz.own:ownKnob Tryz.prog.godebug=none:=by kernel_rfl
theorem Tryz.laidOut:laidOutB Tryz.prog=true:=by kernel_rfl
abbrev L4:List (String×DataW Unit) :=
 [("math/bits.deBruijn32tab",Rows.laid_math_bits_deBruijn32tab),("math/bits.deBruijn64tab",Rows.laid_math_bits_deBruijn64tab),("internal/strconv.uint64pow10",Rows.laid_internal_strconv_uint64pow10),("strconv.ErrRange",Rows.laid_strconv_ErrRange),
  ("strconv.ErrSyntax",Rows.laid_strconv_ErrSyntax),("unicode.White_Space",Rows.laid_unicode_White_Space),("strings.asciiSpace",Rows.laid_strings_asciiSpace)]
theorem Ado:(Rows.laid_internal_strconv_uint64pow10:DataW Unit)=Lib.tabData .u64 Lib.pow10Tab:=by kernel_rfl
theorem YE:(Rows.laid_strings_asciiSpace:DataW Unit)=Lib.tabData .u8 Lib.asciiSpaceTab:=by kernel_rfl
theorem UO : "*"++ "errors.errorString" = "*errors.errorString":=by decide
theorem ZZ (u:TypeId)(h:Tryz.prog.typeName? 3 u=some "*errors.errorString"):u=348 :=
 typeName_ptr_named (nm:= "errors.errorString") (by rw [UO];kernel_rfl) (by kernel_rfl) (by decide) u (by rw [UO];exact h)
theorem U7 {W:World}{n:String}{g:Nat}{cs:Array Value}(hg:Tryz.prog.globalNamed n=some g)(h:W.var? Tryz.prog n=some cs):∃ T o,W.heap[g]?=some (.cells cs T o):=by
 unfold World.var? at h
 rw [hg] at h
 simp only [Á] at h
 cases hh:W.heap[g]? with
 |none=>rw [hh] at h;cases h
 |some o =>
  rw [hh] at h
  cases o<;>simp at h
  subst h
  exact⟨_,_,rfl⟩
theorem Abk:Tryz.prog.globalNamed "strings.asciiSpace" = some 2:=by kernel_rfl
theorem Aiv:Tryz.prog.globalNamed "internal/strconv.uint64pow10" = some 0:=by kernel_rfl
theorem Ait:Tryz.prog.globalNamed "strconv.ErrSyntax" = some 6:=by kernel_rfl
theorem Aiu:Tryz.prog.globalNamed "strconv.ErrRange" = some 7:=by kernel_rfl
theorem Pq {W:World}(h:laidMetH Tryz.prog L4 W):PA W/\∀ b∈Xb,b<W.heap.size:=by
 rw [MakeChecks.laidMetH_plain _ _ _ (by kernel_rfl)] at h
 have h3:=h.tail.tail
 have h4:=h3.tail
 have h5:=h4.tail
 have h7:=h5.tail.tail
 rw [Ado] at h3
 rw [YE] at h7
 have t3:=Lib.tabIs_of_head Aiv (by kernel_rfl) Tryz.underlying282 Tryz.underlying185 (by kernel_rfl) (by kernel_rfl) h3
 have t0:=Lib.tabIs_of_head Abk (by kernel_rfl) Tryz.underlying266 Tryz.underlying5 (by kernel_rfl) (by kernel_rfl) h7
 obtain⟨T0,o0,b0⟩:=U7 Abk t0
 obtain⟨T3,o3,b3⟩:=U7 Aiv t3
 obtain⟨a5,_,v5,_⟩:=laid_sentinel h4 Aiu (by kernel_rfl) Tryz.underlying217 ZZ Tryz.underlying348 Tryz.underlying350 rfl rfl Tryz.underlying9 (by kernel_rfl) (by kernel_rfl)
 obtain⟨a4,_,v4,_⟩:=laid_sentinel h5 Ait (by kernel_rfl) Tryz.underlying217 ZZ Tryz.underlying348 Tryz.underlying350 rfl rfl Tryz.underlying9 (by kernel_rfl) (by kernel_rfl)
 have c4:=World.var?_cell Ait v4 0
 have c5:=World.var?_cell Aiu v5 0
 refine⟨⟨⟨⟨T0,o0,b0⟩,T3,o3,b3⟩,⟨_,c4,.inr ⟨_,_,rfl⟩⟩,_,c5,.inr ⟨_,_,rfl⟩⟩,fun b hb=>?_⟩
 simp only [Xb,į,Ĩ,or_false] at hb
 rcases hb with rfl|rfl|rfl|rfl
 . exact (Array.getElem?_eq_some_iff.1 b0).1
 . exact (Array.getElem?_eq_some_iff.1 b3).1
 . exact World.block_lt_of_cell? _ _ c4
 . exact World.block_lt_of_cell? _ _ c5
theorem Ace (os:Os)(args:Array Value):laidMetH Tryz.prog L4 ((World.doorLaid Tryz.prog 400 os).forCall (fun _ _=>0) ⟨#[],args,[]⟩).memory:=by
 rw [MakeChecks.laidMetH_plain _ _ _ (by kernel_rfl)]
 exact laidMet_of_run' 8 (by kernel_rfl) (by kernel_rfl)
end Go.Proofs.YtkcfmlfkfagejaaGreatDoor
