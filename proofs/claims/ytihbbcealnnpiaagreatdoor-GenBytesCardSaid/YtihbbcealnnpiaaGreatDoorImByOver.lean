/- Parts of the proof. -/
import Derived.Test.YtihbbcealnnpiaaGreatDoorImByAx
import Derived.Test.YtihbbcealnnpiaaGreatDoorImLfRb
set_option linter.unusedVariables false
namespace Go.Proofs.YtihbbcealnnpiaaGreatDoor
noncomputable section
open Go.RowKit Classical
def OkC(c:s8):Prop:=(c.On.length<=140737488351232/\∀y∈c.On,(0<=y.Op/\y.Op<=255)/\I64 y.A/\I64 y.Ls)/\(c.As.length<=140737488351232/\∀y∈c.As,I64 y.At/\I64 y.In/\I64 y.Ps/\I64 y.Ss/\I64 y.By)/\(c.Us.length<=140737488351232/\∀y∈c.Us,y.length<=140737488351232)
def toI(x:p8):O6:=(x.Op.toNat,x.A,x.Ls)
def toE(f:D7):H7:=(f.At,f.In,f.Ps,f.Ss,f.By)
def toC(c:s8):K7:=(c.On.map toI,c.As.map toE,c.Us)
def ofC(c:K7):s8:=⟨c.1.map λx=>⟨x.1,x.2.1,x.2.2⟩,c.2.1.map λf=>⟨f.1,f.2.1,f.2.2.1,f.2.2.2.1,f.2.2.2.2⟩,c.2.2⟩
theorem a7m{c:s8}(h:OkC c):GY (toC c):=by
 obtain⟨⟨H,B⟩,⟨J,C⟩,I,G⟩:=h;have K:maxLen=9223372036854775807:=(by decide);refine⟨λx hx=>?_,λf F=>?_,λy z=>by have:=G y z;omega,by simp only[toC,F5];omega,by simp only[toC,F5];omega,by show c.Us.length<=_;omega⟩
 ·obtain⟨y,z,rfl⟩:=List.mem_map.1 hx;obtain⟨a,b,d⟩:=B y z;unfold I64 at b d;unfold Ip I64 toI
  dsimp only
  omega
 ·obtain⟨y,z,rfl⟩:=List.mem_map.1 F;obtain⟨a,b,d,e,g⟩:=C y z;unfold I64 at a b d e g;unfold Fr I64 toE
  dsimp only
  omega
theorem a9M{c:s8}(h:OkC c):(.agg (Cd (toC c)):A)=Ca c:=by
 unfold Ca Zt Cd toC
 dsimp only
 have z:(c.On.map toI).map Qb=c.On.map Ki:=by rw[List.map_map];refine List.map_congr_left λx hx=>?_;have:=(h.1.2 x hx).1;simp only[Function.comp,toI,Qb,Ki];rw[show((x.Op.toNat:Nat):Int)=x.Op by omega]
 have C:(c.As.map toE).map Ya=c.As.map Nr:=(by rw[List.map_map];rfl);have B:c.Us.map vO=c.Us.map Nd:=rfl;rw[z,C,B]
theorem b00{c:s8}(h:OkC c):ofC (toC c)=c:=by
 obtain⟨i,f,s⟩:=c;unfold ofC toC
 dsimp only
 have z:(i.map toI).map (λx:O6=>(⟨x.1,x.2.1,x.2.2⟩:p8))=i:=by rw[List.map_map];refine(List.map_congr_left λx hx=>?_).trans (List.map_id i);have:=(h.1.2 x hx).1;obtain⟨a,b,d⟩:=x;simp only[Function.comp,toI,id];rw[show((a.toNat:Nat):Int)=a by simp at this;omega]
 have B:(f.map toE).map (λf:H7=>(⟨f.1,f.2.1,f.2.2.1,f.2.2.2.1,f.2.2.2.2⟩:D7))=f:=by rw[List.map_map];exact(List.map_congr_left λx hx=>rfl).trans (List.map_id f)
 rw[z,B]
def Ge(l:b6H):List Int:=l.map λb=>(b.toNat:Int)
theorem RK(l:b6H):(Ge l).map Sy=l.map bVl:=by unfold Ge;rw[List.map_map];rfl
theorem a8y(l:b6H):A1 (Ge l)=l:=by unfold A1 Ge;rw[List.map_map];refine(List.map_congr_left λb _=>?_).trans (List.map_id l);simp
theorem a3S(l:b6H):Kf (Ge l):=by intro x hx;obtain⟨b,_,rfl⟩:=List.mem_map.1 hx;have:=b.toNat_lt;omega
def Uc(c:s8):Option (List Int × Int):=if OkC c/\K6 (toC c)=true then some (Ge (Bt (toC c)),0)else none
theorem a3B{z:s8}{r:List Int × Int}(h:Uc z=some r):XI z r:=by unfold Uc at h;obtain⟨⟨B,C⟩,h⟩:=dO h;cases h;have:=a89 (a7m B) C;rw[a9M B]at this;unfold XI;rw[RK];exact this
def Pc(b:List Int):Option (s8 × Int):=if Kf b then some (ofC (Aw (A1 b)).1,((Aw (A1 b)).2:Nat))else none
theorem b1i{b:List Int}(h:Kf b):Ge (A1 b)=b:=by unfold Ge A1;rw[List.map_map];refine(List.map_congr_left λx hx=>?_).trans (List.map_id b);have:=h x hx;simp only[Function.comp,id,UInt8.toNat_ofNat'];omega
theorem a9t(c:K7):(.agg (Cd c):A)=Ca (ofC c):=by
 unfold Ca Zt Cd ofC
 dsimp only
 have z:c.1.map Qb=(c.1.map λx:O6=>(⟨x.1,x.2.1,x.2.2⟩:p8)).map Ki:=(by rw[List.map_map];rfl);have B:c.2.1.map Ya=(c.2.1.map λf:H7=>(⟨f.1,f.2.1,f.2.2.1,f.2.2.2.1,f.2.2.2.2⟩:D7)).map Nr:=(by rw[List.map_map];rfl);rw[z,B];rfl
theorem b4D{z:List Int}{r:s8 × Int}(h:Pc z=some r):JY z r:=by unfold Pc at h;obtain⟨C,h⟩:=dO h;have B:=Option.some.inj h;have:=b0h (A1 z);generalize Aw (A1 z)=X at this B;subst B;unfold JY;rw[<-a9t];have e:z.map Sy=(A1 z).map bVl:=(by rw[<-RK,b1i C]);rw[e];exact this
end
end Go.Proofs.YtihbbcealnnpiaaGreatDoor
