/- Parts of the proof. -/
import Derived.Test.YtabmahknlebhpaaGreatVmXI
import Derived.BigRegion
import Derived.ChangeAlike
set_option linter.unusedVariables false
namespace Go.Proofs.YtabmahknlebhpaaGreat
section
open Go.RowKit
theorem a29{w:World}{p q:Addr}{x v:Value}(h:w.cell? q=some v):∃v',(w.setCell p x).cell? q=some v':=by
 by_cases e:p=q
 ·subst e;exact⟨x,World.cell?_setCell_same w p x h⟩
 ·exact⟨v,(World.cell?_setCell_other w p q x e).trans h⟩
set_option maxRecDepth 100000 in
theorem a5v(b n cap:Nat)(i j x y:Int)(w:World)(hi0:0≤i)(hi1:i<n)(hj0:0≤j)(hj1:j<n)(hx:w.cell? ⟨b,i.toNat,none⟩=some (.int .i64 x))(hy:w.cell? ⟨b,j.toNat,none⟩=some (.int .i64 y))(fx:w.frozen? ⟨b,i.toNat,none⟩=false)(fy:w.frozen? ⟨b,j.toNat,none⟩=false):Calls Tryz.prog 149 #[.slice (some ⟨b,0,none⟩) n cap,.int .i64 i,.int .i64 j] w fun e w'=>
   e=.returned (.tuple #[])∧w'.heap=((w.setCell ⟨b,i.toNat,none⟩ (.int .i64 y)).setCell ⟨b,j.toNat,none⟩ (.int .i64 x)).heap∧w'.os=w.os∧w'.tape=w.tape∧w'.output=w.output:=by
 obtain⟨v',hy'⟩:=a29 (w:=w) (p:=⟨b,i.toNat,none⟩) (x:=.int .i64 y) (q:=⟨b,j.toNat,none⟩) (v:=.int .i64 y) (by go_simp)
 go_enter Tryz.func149,Tryz.ntmps149
 go_wp2
 go_region
 all_goals(go_end0;exact⟨rfl,rfl,rfl,rfl,rfl⟩)
theorem a74:Pr Tryz.prog 149:=by
 refine⟨by kernel_rfl,fun w b n cap cur ty i j x y vals hw hn hi hj hx hy hv=>?_⟩;subst hv;have fr:∀k,w.frozen? ⟨b,k,none⟩=false:=fun k=>by simp[World.frozen?,hw]
 refine(a5v b n cap i j x y w (by omega) (by omega) (by omega) (by omega) (by rw[cell_of_row w b _ cur ty _ hw];simpa using hx) (by rw[cell_of_row w b _ cur ty _ hw];simpa using hy) (fr _) (fr _)).mono ?_;rintro e w' ⟨rfl,hh,ho,ht,hu⟩;refine⟨rfl,?_,ho,ht,hu⟩;rw[hh,setCell_eq_setRow w b _ cur ty _ _ hw,setCell_eq_setRow _ b _ (cur.setIfInBounds i (.int .i64 y)) ty _ _ (by simpa using setRow_heap w b cur _ ty _ hw),setRow_setRow];simp
end
end Go.Proofs.YtabmahknlebhpaaGreat
