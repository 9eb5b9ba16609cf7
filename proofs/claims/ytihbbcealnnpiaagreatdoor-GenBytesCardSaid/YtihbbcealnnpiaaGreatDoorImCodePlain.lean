/- Parts of the proof. -/
import Derived.Test.YtihbbcealnnpiaaGreatDoorImAl
import Derived.RowKit
set_option linter.unusedVariables false
namespace Go.Proofs.YtihbbcealnnpiaaGreatDoor
section
section
open Go.RowKit
abbrev O6:=Nat × Int × Int
abbrev H7:=Int × Int × Int × Int × Int
abbrev K7:=List O6 × List H7 × List (b6H)
def Ci(f:H7):Bool:=decide (0<=f.2.1/\0<=f.2.2.1/\f.2.2.1<=f.2.2.2.1/\f.2.2.2.1<=200/\0<=f.2.2.2.2/\f.2.2.2.2<=1)
def L9:Int->List H7->Bool
 |_,[]=>true
 |at_,f::r=>decide (f.1=at_)&&Ci f&&L9 (at_+f.2.1) r
def E8:List H7->Int
 | []=>0
 |f::r=>f.2.1+E8 r
def Co(x:O6):Bool:=decide (1<=x.1/\x.1<=26/\0<=x.2.2/\x.2.2<=2147483647)
def O5:List (b6H)->Nat
 | []=>0
 |s::r=>s.length+O5 r
def K6(c:K7):Bool:=
 decide (c.2.1.length<=100)&&decide (c.1.length<=65536)&&decide (c.2.2.length<=65536)&&L9 0 c.2.1&&decide (E8 c.2.1=c.1.length)&&c.1.all Co&&decide (O5 c.2.2<=1048576)
def b8(n:Nat):UInt8:=UInt8.ofNat n
def uvF:Nat->Nat->b6H
 |0,n=>[b8 n]
 |f+1,n=>if n<128 then [b8 n]else b8 (n%128+128)::uvF f (n/128)
def uv(n:Nat):b6H:=uvF n n
theorem a52:∀f g n:Nat,n<=f->n<=g->uvF f n=uvF g n:=by
 intro f
 induction f with
 |zero=>
      intro g n z B;obtain rfl:n=0:=by omega
      cases g<;>simp[uvF]
 |succ f ih=>
         intro g n z B;cases g with
         |zero=>obtain rfl:n=0:=(by omega);simp[uvF]
         |succ g=>
               simp only[uvF];split
               ·rfl
               ·rw[ih g (n/128) (by omega) (by omega)]
theorem aE{n:Nat}(h:n<128):uv n=[b8 n]:=by unfold uv;cases n<;>simp[uvF];omega
theorem qY{n:Nat}(h:128<=n):uv n=b8 (n%128+128)::uv (n/128):=by unfold uv;obtain⟨m,rfl⟩:∃m,n=m+1:=⟨n-1,by omega⟩;rw[uvF,if_neg (by omega),a52 m ((m+1)/128) ((m+1)/128) (by omega) (by omega)]
def zz(a:Int):Nat:=if 0<=a then(2*a).toNat else(-2*a-1).toNat
def Y9(s:b6H):b6H:=uv s.length++s
def Y1(f:H7):b6H:=uv f.2.1.toNat++uv f.2.2.1.toNat++uv f.2.2.2.1.toNat++uv f.2.2.2.2.toNat
def Bb(x:O6):b6H:=b8 x.1::(uv (zz x.2.1)++uv x.2.2.toNat)
def Bt(c:K7):b6H:=uv c.2.2.length++c.2.2.flatMap Y9++uv c.2.1.length++c.2.1.flatMap Y1++c.1.flatMap Bb
def H5:Nat->Nat->b6H->Nat × Nat × b6H
 |_,_,[]=>(15,0,[])
 |i,n,c::r=>
  if(i=9/\1<c.toNat)\/(0<i/\c.toNat=0)then(2,0,[])
  else if c.toNat<128 then(0,n+c.toNat%128*2^(7*i),r)
  else H5 (i+1) (n+c.toNat%128*2^(7*i)) r
abbrev Rd:=Nat × b6H
def I0(r:Rd):Nat × Rd:=
 if r.1≠0 then(0,r)else
 if(H5 0 0 r.2).1=0 then((H5 0 0 r.2).2.1,0,(H5 0 0 r.2).2.2)else(0,(H5 0 0 r.2).1,r.2)
def A2(most:Nat)(r:Rd):Nat × Rd:=
 if most<(I0 r).1 then(0,2,(I0 r).2.2)else I0 r
def Lo(n:Nat):Int:=if n%2=1 then-((n/2:Nat):Int)-1 else((n/2:Nat):Int)
def Hc(r:Rd):Int × Rd:=(Lo (I0 r).1,(I0 r).2)
def Aq(r:Rd):b6H × Rd:=
 if(A2 1048576 r).2.1≠0 then([],(A2 1048576 r).2)else
 if(A2 1048576 r).2.2.length<(A2 1048576 r).1 then([],15,(A2 1048576 r).2.2)else
 ((A2 1048576 r).2.2.take (A2 1048576 r).1,0,(A2 1048576 r).2.2.drop (A2 1048576 r).1)
def rOp(r:Rd):Nat × Rd:=
 if r.1≠0 then(0,r)else
 match r.2 with
 | []=>(0,15,[])
 |c::b=>(c.toNat,if c.toNat<1\/26<c.toNat then 23 else 0,b)
def Ft(at_:Int)(r:Rd):H7 × Rd:=
 ((at_,((A2 1048576 r).1:Int),((A2 1048576 (A2 1048576 r).2).1:Int),((A2 1048576 (A2 1048576 (A2 1048576 r).2).2).1:Int),((A2 1048576 (A2 1048576 (A2 1048576 (A2 1048576 r).2).2).2).1:Int)),
  (A2 1048576 (A2 1048576 (A2 1048576 (A2 1048576 r).2).2).2).2)
def Oj(r:Rd):O6 × Rd:=
 (((rOp r).1,(Hc (rOp r).2).1,((A2 2147483647 (Hc (rOp r).2).2).1:Int)),(A2 2147483647 (Hc (rOp r).2).2).2)
def Aa:Nat->Rd->List (b6H)->List (b6H) × Rd
 |0,r,acc=>(acc,r)
 |n+1,r,acc=>if r.1≠0 then(acc,r)else Aa n (Aq r).2 (acc++[(Aq r).1])
def Z7:Nat->Int->Rd->List H7->Int × List H7 × Rd
 |0,at_,r,acc=>(at_,acc,r)
 |n+1,at_,r,acc=>if r.1≠0 then(at_,acc,r)else Z7 n (at_+(Ft at_ r).1.2.1) (Ft at_ r).2 (acc++[(Ft at_ r).1])
def Y6:Nat->Rd->List O6->List O6 × Rd
 |0,r,acc=>(acc,r)
 |n+1,r,acc=>if r.1≠0 then(acc,r)else Y6 n (Oj r).2 (acc++[(Oj r).1])
def Fw(b:b6H):K7 × Rd:=
 let s:=Aa (A2 1048576 (0,b)).1 (A2 1048576 (0,b)).2 []
 let e:=Z7 (A2 1048576 s.2).1 0 (A2 1048576 s.2).2 []
 let i:=Y6 e.1.toNat e.2.2 []
 ((i.1,e.2.1,s.1),i.2)
def Aw(b:b6H):K7 × Nat:=
 if(Fw b).2.1≠0 then(([],[],[]),(Fw b).2.1)else
 if 0<(Fw b).2.2.length then(([],[],[]),16)else
 if K6 (Fw b).1 then((Fw b).1,0)else(([],[],[]),2)
end
section
open Go.RowKit
theorem vX{n:Nat}(h:n<256):(b8 n).toNat=n:=by unfold b8;rw[UInt8.toNat_ofNat'];omega
theorem ZK(c:UInt8):b8 c.toNat=c:=by apply UInt8.toNat_inj.1;rw[vX (UInt8.toNat_lt c)]
theorem jX(i:Nat):(2:Nat)^(7*(i+1))=2^(7*i)*128:=by rw[show 7*(i+1)=7*i+7 by omega,Nat.pow_add]
theorem b1m:∀n i z:Nat,∀r:b6H,n*2^(7*i)<2^64->i<=9->(0<i->1<=n)->H5 i z (uv n++r)=(0,z+n*2^(7*i),r):=by
 intro n
 induction n using Nat.strongRecOn with
 |_ n ih=>
  intro i z r F hi G;have B:i=9->n<=1:=λe=>by subst e;simp at F;omega
  by_cases h:n<128
  ·rw[aE h];simp only[List.cons_append,U7,H5,vX (show n<256 by omega)];rw[if_neg (by omega),if_pos h,Nat.mod_eq_of_lt h]
  ·rw[qY (by omega)];simp only[List.cons_append,H5,vX (show n%128+128<256 by omega)];have C:i≠9:=λe=>by have:=B e;omega
   rw[if_neg (by omega),if_neg (by omega)];have hd:n/128*2^(7*(i+1))<=n*2^(7*i):=by rw[jX,Nat.mul_comm (2^(7*i)),<-Nat.mul_assoc];exact Nat.mul_le_mul_right _ (Nat.div_mul_le_self n 128)
   rw[ih (n/128) (by omega) (i+1) _ r (by omega) (by omega) (λ_=>by omega)];congr 2;rw[jX,Nat.mul_comm (2^(7*i)) 128,<-Nat.mul_assoc,Nat.add_assoc,<-Nat.add_mul];congr 2;omega
theorem OU:∀(l:b6H) (i B v:Nat) (rest:b6H),i<=9->H5 i B l=(0,v,rest)->∃n,v=B+n*2^(7*i)/\l=uv n++rest/\(0<i->1<=n)/\n*2^(7*i)<2^64:=by
 intro l
 induction l with
 |nil=>intro i B v rest _ h;simp[H5]at h
 |cons c r ih=>
  intro i B v rest hi h;have S:=UInt8.toNat_lt c;simp only[H5]at h;split at h
  ·simp at h
  ·rename_i H;split at h
   ·rename_i z;simp only[Prod.mk.injEq,true_and]at h;obtain⟨rfl,rfl⟩:=h;refine⟨c.toNat,by rw[Nat.mod_eq_of_lt z],by rw[aE z,ZK];rfl,by omega,?_⟩;by_cases Q:i=9
    ·subst Q;have:c.toNat<=1:=(by omega);have:=Nat.mul_le_mul_right (2^63) this;simpa using Nat.lt_of_le_of_lt this (by decide)
    ·have G:(2:Nat)^(7*i)<=2^56:=Nat.pow_le_pow_right (by decide) (by omega);have F:=Nat.mul_le_mul (show c.toNat<=127 by omega) G;exact Nat.lt_of_le_of_lt F (by decide)
   ·rename_i z;have O:i≠9:=(by omega);obtain⟨n,R,M,P,C⟩:=ih (i+1) _ v rest (by omega) h;have I:=P (by omega);refine⟨c.toNat-128+128*n,?_,?_,by omega,?_⟩
    ·rw[R,jX,show c.toNat%128=c.toNat-128 by omega,Nat.add_mul,Nat.mul_comm (2^(7*i)) 128,Nat.mul_comm 128 n,<-Nat.mul_assoc];omega
    ·rw[qY (by omega),show(c.toNat-128+128*n)%128+128=c.toNat by omega,ZK,show(c.toNat-128+128*n)/128=n by omega,List.cons_append,<-M]
    ·have G:c.toNat-128+128*n<128*(n+1):=(by omega);rw[jX]at C;have F:(2:Nat)^(7*i)*128∣2^64:=by rw[show(128:Nat)=2^7 by decide,<-Nat.pow_add];exact Nat.pow_dvd_pow 2 (by omega)
     obtain⟨q,J⟩:=F;rw[J]at C⊢;have N:n<q:=by rw[Nat.mul_comm n]at C;exact Nat.lt_of_mul_lt_mul_left C
     have K:(n+1)*(2^(7*i)*128)<=q*(2^(7*i)*128):=Nat.mul_le_mul_right _ N;have L:(c.toNat-128+128*n)*2^(7*i)<128*(n+1)*2^(7*i):=Nat.mul_lt_mul_of_pos_right G (Nat.pow_pos (by decide));rw[Nat.mul_comm (2^(7*i)*128) q];refine Nat.lt_of_lt_of_le L (G2 (Nat.le_of_eq ?_) K);rw[Nat.mul_comm 128,Nat.mul_assoc,Nat.mul_comm 128]
theorem a0j(n:Nat)(h:n<2^64)(r:b6H):I0 (0,uv n++r)=(n,0,r):=by have:=b1m n 0 0 r (by simpa using h) (by omega) (by omega);simp only[Nat.mul_zero,Nat.pow_zero,Nat.mul_one,Nat.zero_add]at this;simp[I0,this]
theorem b3d{r:Rd}(h:r.1≠0):I0 r=(0,r):=by unfold I0;rw[if_pos h]
theorem Kt{m n:Nat}(z:n<=m)(h:n<2^64)(r:b6H):A2 m (0,uv n++r)=(n,0,r):=by unfold A2;rw[a0j n h,if_neg (by simp;omega)]
theorem a6M(a:Int):Lo (zz a)=a:=by unfold Lo zz;split<;>split<;>omega
theorem b1Z(a:Int)(h0: -9223372036854775808<=a)(z:a<=9223372036854775807):zz a<2^64:=by unfold zz;split<;>omega
theorem a1l{a:Int}(h0: -9223372036854775808<=a)(z:a<=9223372036854775807)(r:b6H):Hc (0,uv (zz a)++r)=(a,0,r):=by unfold Hc;rw[a0j _ (b1Z a h0 z)];simp[a6M]
theorem b03{s:b6H}(h:s.length<=1048576)(r:b6H):Aq (0,Y9 s++r)=(s,0,r):=by unfold Aq Y9;rw[G5,Kt h (by omega)];simp
theorem a7N{n:Nat}(z:1<=n)(B:n<=26)(r:b6H):rOp (0,b8 n::r)=(n,0,r):=by simp[rOp,vX (show n<256 by omega)];omega
theorem a9r(at_:Int){f:H7}(z:f.1=at_)(B:Ci f=true)(C:f.2.1<=1048576)(r:b6H):Ft at_ (0,Y1 f++r)=(f,0,r):=by obtain⟨a,l,p,s,q⟩:=f;simp[Ci]at B;simp only at z C;subst z;unfold Ft Y1;simp only[G5];rw[Kt (by omega) (by omega)];simp only;rw[Kt (by omega) (by omega)];simp only;rw[Kt (by omega) (by omega)];simp only;rw[Kt (by omega) (by omega)];simp;omega
theorem a2V{x:O6}(h:Co x=true)(h0: -9223372036854775808<=x.2.1)(z:x.2.1<=9223372036854775807)(r:b6H):Oj (0,Bb x++r)=(x,0,r):=by obtain⟨op,a,B⟩:=x;simp[Co]at h;simp only at h0 z;unfold Oj Bb;rw[List.cons_append,a7N (by omega) (by omega)];simp only[G5];rw[a1l h0 z];simp only;rw[Kt (by omega) (by omega)];simp;omega
end
section
open Go.RowKit
theorem b3T:∀(l:List (b6H)) (z:List (b6H)) (r:b6H),(∀s∈l,s.length<=1048576)->Aa l.length (0,l.flatMap Y9++r) z=(z++l,0,r):=by
 intro l
 induction l with
 |nil=>intro z r _;simp[Aa]
 |cons s l ih=>intro z r h;simp only[F8,Aa,List.flatMap_cons,G5];rw[if_neg (by simp),b03 (h s (by simp))];simp only;rw[ih _ _ λx hx=>h x (by simp[hx])];simp
theorem a4C:∀(l:List H7) (at_:Int) (z:List H7) (r:b6H),L9 at_ l=true->(∀f∈l,f.2.1<=1048576)->Z7 l.length at_ (0,l.flatMap Y1++r) z=(at_+E8 l,z++l,0,r):=by
 intro l
 induction l with
 |nil=>intro at_ z r _ _;simp[Z7,E8]
 |cons f l ih=>intro at_ z r h B;simp[L9]at h;obtain⟨⟨F,C⟩,G⟩:=h;simp only[F8,Z7,List.flatMap_cons,G5];rw[if_neg (by simp),a9r at_ F C (B f (by simp))];simp only;rw[ih _ _ _ G λx hx=>B x (by simp[hx])];simp[E8,Int.add_assoc]
theorem b6m:∀(l:List O6) (z:List O6) (r:b6H),(∀x∈l,Co x=true/\ -9223372036854775808<=x.2.1/\x.2.1<=9223372036854775807)->Y6 l.length (0,l.flatMap Bb++r) z=(z++l,0,r):=by
 intro l
 induction l with
 |nil=>intro z r _;simp[Y6]
 |cons s l ih=>intro z r h;simp only[F8,Y6,List.flatMap_cons,G5];obtain⟨C,B,F⟩:=h s (by simp);rw[if_neg (by simp),a2V C B F];simp only;rw[ih _ _ λx hx=>h x (by simp[hx])];simp
def VH(c:K7):Prop:=∀x∈c.1, -9223372036854775808<=x.2.1/\x.2.1<=9223372036854775807
theorem WQ:∀(l:List (b6H)) (s:b6H),s∈l->s.length<=O5 l:=by
 intro l
 induction l with
 |nil=>intro s h;cases h
 |cons x l ih=>
  intro s h;simp only[O5];rcases D0.1 h with rfl|h
  ·omega
  ·have:=ih s h;omega
theorem zU:∀(l:List H7) (at_:Int),L9 at_ l=true->0<=E8 l:=by
 intro l
 induction l with
 |nil=>intro _ _;simp[E8]
 |cons f l ih=>intro at_ h;simp[L9]at h;have:=ih _ h.2;have:=h.1.2;simp[Ci]at this;simp only[E8];omega
theorem a6a:∀(l:List H7) (at_:Int),L9 at_ l=true->∀f∈l,f.2.1<=E8 l:=by
 intro l
 induction l with
 |nil=>intro _ _ f h;cases h
 |cons x l ih=>
  intro at_ h f z;have h0:=zU (x::l) at_ h;simp[L9]at h;have C:=zU l _ h.2;have B:=h.1.2;simp[Ci]at B;simp only[E8]at h0⊢;rcases D0.1 z with rfl|z
  ·omega
  ·have:=ih _ h.2 f z;omega
theorem b2P{c:K7}(H:K6 c=true)(K:VH c)(y:b6H):Fw (Bt c++y)=(c,0,y):=by
 obtain⟨C,B,z⟩:=c;simp only[K6,x7,decide_eq_true_eq]at H;obtain⟨⟨⟨⟨⟨⟨P,N⟩,O⟩,I⟩,M⟩,J⟩,L⟩:=H;have G:∀s∈z,s.length<=1048576:=λs G=>G2 (WQ z s G) L;have F:∀f∈B,f.2.1<=1048576:=λf F=>by have:=a6a B 0 I f F;omega
 unfold Fw Bt;simp only[G5];rw[Kt (show z.length<=1048576 by omega) (by omega)];simp only;rw[b3T z [] _ G];simp only;rw[Kt (show B.length<=1048576 by omega) (by omega)];simp only;rw[a4C B 0 [] _ I F];simp only[Int.zero_add,M,F9];rw[b6m C [] _ λx hx=>⟨List.all_eq_true.1 J x hx,K x hx⟩];simp
theorem a6A{c:K7}(z:K6 c=true)(B:VH c):Aw (Bt c)=(c,0):=by have:=b2P z B [];rw[T4]at this;unfold Aw;rw[this];simp[z]
end
end
end Go.Proofs.YtihbbcealnnpiaaGreatDoor
