/- Parts of the proof. -/
import Derived.Test.YtihbbcealnnpiaaGreatDoorImQC
set_option linter.unusedVariables false
set_option linter.unusedSectionVars false
namespace Go.Proofs.YtihbbcealnnpiaaGreatDoor
section
section
def bn(p:l7):Nat:=if p.F.Code=0 then 0 else 1
def iN(p:l7):Nat:=p.I.toNat
def pl(z:Int):Nat:=if 0<=z/\z<=100000 then 0 else 1000000000
def nl(z:Int):Nat:=if-9223372036854775808<=z/\z<=9223372036854775807 then 0 else 1000000000
theorem LP(z:Int):nl (w64 z)=0:=by show nl (IntKind.wrap .i64 z)=0;rw[IntKind.wrap_i64];exact if_pos (by omega)
theorem b3j(z:Int):nl (RowKit.wrap64 z)=0:=if_pos (by unfold RowKit.wrap64;omega)
def E7(x:List d7):Nat:=(x.map λn=>n.Ds.length+(pl n.Ls+nl n.Ns)).sum
def tl(L:List s9)(i:Nat):Nat:=((L.take i).map λt=>t.Ds.length).sum
theorem R2:E7 []=0:=rfl
theorem Om(x y:List d7):E7 (x++y)=E7 x+E7 y:=by unfold E7;rw[I8,bE]
theorem yZ(n:d7)(y:List d7):E7 (n::y)=n.Ds.length+(pl n.Ls+nl n.Ns)+E7 y:=by unfold E7;rw[List.map_cons,List.sum_cons]
theorem PC{L:List s9}{i:Nat}{t:s9}(h:L[i]? =some t):tl L (i+1)=tl L i+t.Ds.length:=by unfold tl;rw[List.take_add_one,h,I8,bE];simp
theorem x5(L:List s9){i j:Nat}(h:i<=j):tl L i<=tl L j:=by obtain⟨d,rfl⟩:=Nat.exists_eq_add_of_le h;unfold tl;rw[List.take_add,I8,bE];omega
structure Tk(L:List s9):Prop where
 last:∀(i:Nat) (t:s9),L[i]? =some t->i+1=L.length->t.Ks=8
 small:L.length<=1000000
structure PI(L:List s9)(p:l7):Prop where
 l:p.L=L
 i:p.I=(iN p:Int)
 lt:iN p<L.length
 ln:∀t∈L,pl t.Ls=0/\nl t.Ns=0
theorem O0{L:List s9}{p:l7}(h:PI L p){i:Nat}{t:s9}(z:L[i]? =some t):pl t.Ls=0:=(h.ln t (O8 z)).1
theorem QZ{L:List s9}{p:l7}(h:PI L p){i:Nat}{t:s9}(z:L[i]? =some t):nl t.Ns=0:=(h.ln t (O8 z)).2
structure Fwd(L:List s9)(p p':l7):Prop where
 pi:PI L p'
 le:iN p<=iN p'
 le1:iN p'<=iN p+1
 mono:bn p<=bn p'
 stay:bn p=1->iN p'=iN p
 go:bn p'=0->iN p<iN p'
theorem u9(p:l7):bn p<=1:=by unfold bn;split<;>omega
theorem N5{α:Type}{b:Nat}{xs z:List α}(B:b<=1000)(h:xs.length+z.length<=100000000):B9 b xs z=some (xs++z):=by unfold B9;rw[if_pos];unfold P9 maxLen;have:=Nat.mul_le_mul h B;omega
theorem Be{L:List s9}{p:l7}(h:PI L p):∃t,W8 d5 p=some ((t,()),())/\L[iN p]? =some t:=by
 have z:iN p<p.L.length:=(by rw[h.l];exact h.lt);refine⟨p.L[iN p],?_,?_⟩
 ·rw[a29,gW,h.i,p9 z];rfl
 ·rw[<-h.l];exact w9 z
theorem Fy(p:l7):Dj d5 p=some ((decide (bn p=1),()),()):=by
 rw[b1u,tY];unfold bn;by_cases c:p.F.Code=0
 ·rw[if_pos c,f6 c];rfl
 ·rw[if_neg c,d9 c];rfl
theorem H4{L:List s9}{p:l7}(h:PI L p)(s:b6H):∃b:Bool,G3 d5 p s=some ((b,()),())/\(b=true->bn p=0/\∃t,L[iN p]? =some t/\(t.Ks=6\/t.Ks=7)):=by
 obtain⟨t,B,z⟩:=Be h;rw[a4f,rJ,B,Fy];have C:=u9 p;by_cases c:bn p=1
 ·rw[f6 c];exact⟨false,rfl,λh=>nomatch h⟩
 ·rw[d9 c];by_cases c6:t.Ks=6
  ·refine⟨decide (t.Ds=s),?_,λ_=>⟨by omega,t,z,.inl c6⟩⟩;simp only[d6,F4,l6,f6 c6]
  ·by_cases c7:t.Ks=7
   ·refine⟨decide (t.Ds=s),?_,λ_=>⟨by omega,t,z,.inr c7⟩⟩;simp only[d6,F4,l6,f6 c7,d9 c6,f9]
   ·refine⟨false,?_,λh=>nomatch h⟩;simp only[d6,F4,l6,d9 c7,d9 c6,f9]
theorem a2h{L:List s9}{p:l7}(h:PI L p)(e:Int)(z:e≠0):∃p',Gd d5 p e=some ((p',()),())/\PI L p'/\iN p'=iN p/\bn p'=1:=by
 rw[b06,mL,Fy];have F:=u9 p;by_cases c:bn p=1
 ·rw[f6 c];exact⟨p,rfl,h,rfl,c⟩
 ·rw[d9 c];obtain⟨t,B,C⟩:=Be h;rw[B];exact⟨_,rfl,⟨h.l,h.i,h.lt,h.ln⟩,rfl,if_neg z⟩
theorem Mf{L:List s9}{p:l7}(h:PI L p)(e:Int)(z:e≠0):∃p',Gd d5 p e=some ((p',()),())/\Fwd L p p'/\bn p'=1:=by obtain⟨p',F,B,G,C⟩:=a2h h e z;have:=u9 p;exact⟨p',F,⟨B,by omega,by omega,by omega,λ_=>G,λh=>by omega⟩,C⟩
theorem GL{L:List s9}(hL:Tk L){p:l7}(h:PI L p){t:s9}(H:L[iN p]? =some t)(G:t.Ks≠8)(N:bn p=0)(d:Int):Fwd L p ⟨p.L,w64 (p.I+1),d,p.F⟩/\w64 (p.I+1)=((iN p+1:Nat):Int)/\iN p+1<L.length:=by
 have B:iN p+1<L.length:=by have:=h.lt;have:iN p+1≠L.length:=λe=>G (hL.last _ _ H e);omega
 have O:=hL.small;have J:=R2;have M:([]:b6H).length=0:=rfl;have z:w64 (p.I+1)=((iN p+1:Nat):Int):=(by rw[h.i,wrap64 (by omega) (by omega)];omega);have C:iN ⟨p.L,w64 (p.I+1),d,p.F⟩=iN p+1:=(by show(w64 (p.I+1)).toNat=_;rw[z];rfl);have K:bn ⟨p.L,w64 (p.I+1),d,p.F⟩=bn p:=rfl;exact⟨⟨⟨h.l,by rw[C];exact z,by rw[C];exact B,h.ln⟩,by omega,by omega,by omega,λh=>by omega,λh=>by omega⟩,z,B⟩
theorem M1{L:List s9}(hL:Tk L){p:l7}(h:PI L p)(s:b6H):∃p',L4 d5 p s=some ((p',()),())/\Fwd L p p':=by
 obtain⟨b,F,C⟩:=H4 h s;rw[a59,oI,F];cases b with
 |false=>obtain⟨p',B,z,_⟩:=Mf h 5 (by decide);rw[d6,F4,l6,B];exact⟨p',rfl,z⟩
 |true=>obtain⟨H,t,G,I⟩:=C rfl;exact⟨_,rfl,(GL hL h G (by omega) H _).1⟩
theorem QH{L:List s9}{p p':l7}(h:Fwd L p p')(d:Int):Fwd L p ⟨p'.L,p'.I,d,p'.F⟩:=⟨⟨h.pi.l,h.pi.i,h.pi.lt,h.pi.ln⟩,h.le,h.le1,h.mono,h.stay,h.go⟩
theorem Gh{L:List s9}(hL:Tk L){p:l7}(h:PI L p)(s:b6H):∃p',Cp d5 p s=some ((p',()),())/\Fwd L p p':=by
 obtain⟨b,F,G⟩:=H4 h s;have z:∃p',qD d5 s p=some ((p',()),())/\Fwd L p p':=by obtain⟨p',C,B⟩:=M1 hL h s;rw[a8e,pJ,C];exact⟨_,rfl,QH B _⟩
 rw[a2L,qL,F];cases b with
 |false=>exact z
 |true=>
  rw[d6,l6];cases decide (p.Is>=40)with
  |false=>exact z
  |true=>obtain⟨p',C,B,_⟩:=Mf h 6 (by decide);rw[l6,C];exact⟨p',rfl,B⟩
theorem Ii{L:List s9}(hL:Tk L){p:l7}(h:PI L p)(s:b6H):∃p',Ea d5 p s=some ((p',()),())/\Fwd L p p':=by obtain⟨p',B,z⟩:=M1 hL h s;rw[a99,qS,B];exact⟨_,rfl,QH z _⟩
theorem Oq{L:List s9}(hL:Tk L){p:l7}(h:PI L p)(k:Int)(P:k≠8):∃t p',Ig d5 p k=some ((t,p',()),())/\Fwd L p p'/\(bn p'=0->t.Ds.length+tl L (iN p)<=tl L (iN p'))/\pl t.Ls=0:=by
 obtain⟨t,J,B⟩:=Be h;have z:∃C p',uN d5 p ((t,()),())=some ((C,p',()),())/\Fwd L p p'/\(bn p'=0->C.Ds.length+tl L (iN p)<=tl L (iN p'))/\pl C.Ls=0:=by obtain⟨p',M,G,R⟩:=Mf h 5 (by decide);rw[a95,vI,M];exact⟨t,p',rfl,G,λh=>by omega,O0 h B⟩
 rw[a2S,pQ,J,Fy];have O:=u9 p;by_cases c:bn p=1
 ·rw[f6 c];exact z
 ·rw[d9 c];simp only[d6,f9];by_cases c2:t.Ks=k
  ·rw[f6 c2];obtain⟨H,N,Q⟩:=GL hL h B (by omega) (by omega) p.Is;refine⟨t,⟨p.L,w64 (p.I+1),p.Is,p.F⟩,rfl,H,λ_=>?_,O0 h B⟩;have K:iN ⟨p.L,w64 (p.I+1),p.Is,p.F⟩=iN p+1:=(by show(w64 (p.I+1)).toNat=_;rw[N];rfl);rw[K,PC B];omega
  ·rw[d9 c2];exact z
theorem M9(k:Int)(t:s9)(s:b6H)(n:Int)(x:List d7)(h:x.length<=50000000)(hl:pl t.Ls=0)(z:nl n=0:=by rfl):∃y,I4 d5 k t s n x=some ((y,()),())/\y.length=x.length+1/\E7 y=s.length+E7 x:=by rw[b3H,tD,N5 (by decide) (by simp;omega)];exact⟨_,rfl,by simp,by rw[Om,yZ,R2,show pl (d7.mk k t.Ls t.Id (x.length:Int) n s).Ls=0 from hl,show nl (d7.mk k t.Ls t.Id (x.length:Int) n s).Ns=0 from z];rfl⟩
theorem Gy(x y:List d7)(h:x.length+y.length<=50000000):∃z,Dk d5 x y=some ((z,()),())/\z.length=x.length+y.length/\E7 z=E7 x+E7 y:=by rw[b6d,uH,N5 (by decide) (by simp;omega),d6,N5 (by decide) (by simp;omega)];exact⟨_,rfl,by simp,by simp[Om]⟩
structure Ok(L:List s9)(b c:Nat)(p:l7)(x:List d7)(p':l7):Prop where
 pi:PI L p'
 le:iN p<=iN p'
 mono:bn p<=bn p'
 stay:bn p=1->iN p'=iN p/\x.length<=c
 go:bn p'=0->iN p<iN p'
 sz:x.length<=10*(iN p'-iN p)+b*bn p'
 ne:1<=x.length
 tx:bn p'=0->E7 x+tl L (iN p)<=tl L (iN p')
def mu(L:List s9)(p:l7):Nat:=if bn p=1 then 0 else 1+(L.length-iN p)
theorem It{L:List s9}{p p':l7}(h:PI L p)(g:Fwd L p p')(G:bn p=0):mu L p'<mu L p:=by have C:=g.go;have z:=g.pi.lt;have F:=h.lt;have B:=u9 p';unfold mu;rw[if_neg (by omega:¬bn p=1)];split<;>omega
theorem LU{L:List s9}{b c:Nat}{p p':l7}{x:List d7}(h:PI L p)(g:Ok L b c p x p')(G:bn p=0):mu L p'<mu L p:=by have C:=g.go;have z:=g.pi.lt;have F:=h.lt;have B:=u9 p';unfold mu;rw[if_neg (by omega:¬bn p=1)];split<;>omega
def Jy:List (b6H):=[([105,110,116]:b6H),([98,111,111,108]:b6H),([115,116,114]:b6H),([99,111,109,112]:b6H)]
theorem iK{L:List s9}(hL:Tk L):∀(m:Nat) (p:l7),PI L p->mu L p=m->∃x p',Mz d5 p=some ((x,p',()),())/\Ok L 3 1 p x p':=by
 intro m
 induction m using Nat.strongRecOn with
 |_ m ih=>
 intro p h hm;have hs:=hL.small;have tn:=R2;have ln:([]:b6H).length=0:=rfl;have aa:=h.lt;obtain⟨t,ht,M⟩:=Be h;have S:∃x p',DO d5 p ((t,()),())=some ((x,p',()),())/\Ok L 3 1 p x p':=by
  rw[a00,kJ];obtain⟨b,P,V⟩:=H4 h [91];rw[P];cases b with
  |true=>obtain⟨hb,_⟩:=V rfl;obtain⟨F,G,B⟩:=Gh hL h [91];obtain⟨x,p2,g2,C⟩:=ih _ (by have:=It h B hb;omega) F B.pi rfl;have zt:=C.tx;have z:=C.sz;have z1:=C.pi.lt;have z2:=u9 p2;obtain⟨y,O,Q,N⟩:=M9 20 t [] 0 x (by have:=C.pi.lt;omega) (O0 h M);obtain⟨U,g4,H⟩:=Ii hL C.pi [93];rw[d6,l6,G,d6,g2,d6,O,d6,g4];have I:=x5 L B.le;have a1:=B.le;have a2:=B.mono;have Z:=B.stay;have a4:=B.go;have a5:=u9 F;have ac:=x5 L C.le;have b1:=C.le;have b2:=C.mono;have b3:=C.stay;have b4:=C.go;have ab:=x5 L H.le;have c1:=H.le;have c2:=H.mono;have c3:=H.stay;have c4:=H.go;have c5:=u9 U;exact⟨y,U,rfl,H.pi,by omega,by omega,λh=>by omega,λh=>by omega,by omega,by omega,λh=>by omega⟩
  |false=>obtain⟨X,F,G,B,ad,R⟩:=Oq hL h 2 (by decide);obtain⟨y,O,Q,N⟩:=M9 19 X X.Ds 0 [] (by simp) R;rw[d6,f9,G,d6,O];have I:=x5 L B.le;have a1:=B.le;have a2:=B.mono;have Z:=B.stay;have a4:=B.go;have a5:=u9 F;simp only[K8]at Q;exact⟨y,F,rfl,B.pi,by omega,by omega,λh=>by omega,λh=>by omega,by omega,by omega,λh=>by omega⟩
 have J:∀(n i:Nat),4-i=n->∃x p',pE d5 (i:Int) p ((t,()),())=some ((x,p',()),())/\Ok L 3 1 p x p':=by
  intro n
  induction n with
  |zero=>intro i hi;rw[a0u,Ul,d9 (by show¬(i:Int)<((4:Nat):Int);omega)];exact S
  |succ n ihn=>
   intro i hi;have e1:w64 ((i:Int)+1)=((i+1:Nat):Int):=(by rw[wrap64 (by omega) (by omega)];omega);have K:i<Jy.length:=(by show i<4;omega);obtain⟨b,P,V⟩:=H4 h Jy[i];obtain⟨F,G,B⟩:=M1 hL h Jy[i];obtain⟨y,O,Q,N⟩:=M9 (IntKind.wrap .u8 (w64 (15+(i:Int)))) t [] 0 [] (by simp) (O0 h M);have Y:f7 Jy (i:Int)=some Jy[i]:=p9 K;have q2:Jy[i]? =some Jy[i]:=w9 K;rw[a0u,Ul,f6 (by show(i:Int)<((4:Nat):Int);omega),l6];unfold Jy at Y q2 P G;rw[Y,d6,F9,q2,d6,P,d6,e1];cases b with
   |false=>exact ihn (i+1) (by omega)
   |true=>rw[l6,O,d6,d6,d6,G];have I:=x5 L B.le;have a1:=B.le;have a2:=B.mono;have Z:=B.stay;have a4:=B.go;have a5:=u9 F;simp only[K8]at Q;exact⟨y,F,rfl,B.pi,by omega,by omega,λh=>by omega,λh=>by omega,by omega,by omega,λh=>by omega⟩
 rw[a86,lK,ht];exact J _ 0 rfl
theorem XP{L:List s9}(hL:Tk L){p:l7}(h:PI L p)(k:Int):∃x p',lM d5 p k=some ((x,p',()),())/\Ok L 4 2 p x p':=by have hs:=hL.small;have tn:=R2;have ln:([]:b6H).length=0:=rfl;obtain⟨t,P,Q,F,U,G⟩:=Oq hL h 1 (by decide);obtain⟨I,M,C⟩:=M1 hL F.pi [58];obtain⟨x,H,S,B⟩:=iK hL _ I C.pi rfl;have Z:=B.tx;have z:=B.sz;have z1:=B.pi.lt;have z2:=u9 H;obtain⟨y,O,hy,R⟩:=M9 k t t.Ds 0 x (by omega) G;rw[b4B,pD,Q,d6,M,d6,S,d6,O];have J:=x5 L F.le;have a1:=F.le;have a2:=F.mono;have a3:=F.stay;have a4:=F.go;have a5:=u9 P;have N:=x5 L C.le;have V:=C.le;have b2:=C.mono;have Y:=C.stay;have b4:=C.go;have X:=u9 I;have K:=x5 L B.le;have c1:=B.le;have c2:=B.mono;have c3:=B.stay;have c4:=B.go;have c5:=B.ne;exact⟨y,H,rfl,B.pi,by omega,by omega,λh=>by omega,λh=>by omega,by omega,by omega,λh=>by omega⟩
theorem b3U{L:List s9}{p p':l7}{y:List d7}(g:Fwd L p p')(C:y.length=1)(I:E7 y+tl L (iN p)<=tl L (iN p')):Ok L 3 1 p y p':=by have z:=g.le;have H:=g.mono;have G:=g.stay;have F:=g.go;have ge:=u9 p';have B:=g.pi.lt;have gt:=x5 L g.le;exact⟨g.pi,by omega,by omega,λh=>by omega,λh=>by omega,by omega,by omega,λh=>by omega⟩
theorem b3s{L:List s9}(hL:Tk L){m:Nat}(hE:∀q,PI L q->mu L q<m->∃x p',O2 d5 q 1=some ((x,p',()),())/\Ok L 3 1 q x p')(F:l7):∀(n:Nat) (q:l7) (c:List d7) (a:Int),mu L q=n->PI L q->n<m->iN F<=iN q->c.length<=10*(iN q-iN F)+3*bn q->(bn q=0->E7 c+tl L (iN F)<=tl L (iN q))->∃x p',lE d5 a q c=some ((x,p',()),())/\PI L p'/\iN q<=iN p'/\bn q<=bn p'/\(bn q=1->iN p'=iN q)/\x.length<=10*(iN p'-iN F)+3*bn p'/\(bn p'=0->E7 x+tl L (iN F)<=tl L (iN p')):=by
 intro n;have hs:=hL.small;have tn:=R2;have ln:([]:b6H).length=0:=rfl
 induction n using Nat.strongRecOn with
 |_ n ih=>
 intro q c a Z h hm h0 hc ag;have aa:=h.lt;have hb:=u9 q;have I:∃x p',jR d5 q c=some ((x,p',()),())/\PI L p'/\iN q<=iN p'/\bn q<=bn p'/\(bn q=1->iN p'=iN q)/\x.length<=10*(iN p'-iN F)+3*bn p'/\(bn p'=0->E7 x+tl L (iN F)<=tl L (iN p')):=by obtain⟨J,Q,z⟩:=Ii hL h [41];rw[b4L,nO,Q];have V:=z.le;have Y:=z.mono;have X:=z.stay;have K:=z.go;have O:=u9 J;have U:=z.pi.lt;have S:=x5 L z.le;exact⟨c,J,rfl,z.pi,by omega,by omega,λh=>by omega,by omega,λh=>by omega⟩
 rw[b3v,rH,Fy];by_cases P:bn q=1
 ·rw[f6 P];exact I
 ·rw[d9 P];simp only[d6,F4,l6];obtain⟨b,h1,h2⟩:=H4 h [41];rw[h1];cases b with
  |true=>exact I
  |false=>
   simp only[d6,F4,l6];have G:∀C,PI L C->iN q<=iN C->bn q<=bn C->(bn C=1\/iN q<=iN C)->mu L C<=n->∃x p',oK d5 a C c=some ((x,p',()),())/\PI L p'/\iN q<=iN p'/\bn q<=bn p'/\(bn q=1->iN p'=iN q)/\x.length<=10*(iN p'-iN F)+3*bn p'/\(bn p'=0->E7 x+tl L (iN F)<=tl L (iN p')):=by
    intro C H k1 k2 k3 k4;obtain⟨x,M,g2,B⟩:=hE C H (by omega);have ab:=B.le;have aj:=B.mono;have ak:=B.stay;have ac:=B.go;have ai:=u9 M;have ah:=B.pi.lt;have af:=B.sz;have ae:=B.ne;have ad:=x5 L B.le;have al:=B.tx;have am:=u9 C;have N:=H.lt;have kt:=x5 L k1;have hz:c.length+x.length<=100000000:=(by omega);rw[b2N,pY,g2,d6,N5 (by decide) hz,d6];have R:mu L M<n:=by unfold mu at Z⊢;rw[if_neg P]at Z;split<;>omega
    obtain⟨x',p',r1,r2,r3,r4,r5,r6,r7⟩:=ih _ R M (c++x) (w64 (a+1)) rfl B.pi (by omega) (by omega) (by rw[t8];omega) (λh=>by rw[Om];omega);exact⟨x',p',r1,r2,by omega,by omega,λh=>by omega,r6,r7⟩
   cases decide (a>0)with
   |false=>exact G q h (l5 _) (l5 _) (by omega) (by omega)
   |true=>obtain⟨J,Q,z⟩:=M1 hL h [44];rw[l6,Q,d6];have V:=z.le;have Y:=z.mono;have X:=z.stay;have K:=z.go;have O:=u9 J;have U:=z.pi.lt;have S:=x5 L z.le;exact G J z.pi (by omega) (by omega) (by omega) (by have:=It h z (by omega);omega)
theorem b5c{L:List s9}(hL:Tk L){m:Nat}(hE:∀q,PI L q->mu L q<m->∃x p',O2 d5 q 1=some ((x,p',()),())/\Ok L 3 1 q x p'){p:l7}(h:PI L p)(hm:mu L p=m):∃x p',EC d5 p=some ((x,p',()),())/\Ok L 3 1 p x p':=by
 have hs:=hL.small;have tn:=R2;have ln:([]:b6H).length=0:=rfl;have bp:=h.lt;have hb:=u9 p;obtain⟨t,ht,K⟩:=Be h;rw[a0X,uD,ht,Fy];by_cases cb:bn p=1
 ·rw[f6 cb];exact⟨_,p,rfl,h,l5 _,l5 _,λ_=>⟨rfl,by simp⟩,λh=>by omega,by simp;omega,by simp,λh=>by omega⟩
 rw[d9 cb];have hg:bn p=0:=(by omega);have eL:p.L.length=L.length:=(by rw[h.l]);have aj:t.Ks≠8->Fwd L p ⟨p.L,(if(w64 ((p.L.length:Int)-1))<(w64 (p.I+1))then(w64 ((p.L.length:Int)-1))else(w64 (p.I+1))),p.Is,p.F⟩/\t.Ds.length+tl L (iN p)<=tl L (iN (⟨p.L,(if(w64 ((p.L.length:Int)-1))<(w64 (p.I+1))then(w64 ((p.L.length:Int)-1))else(w64 (p.I+1))),p.Is,p.F⟩:l7)):=by intro P;obtain⟨q1,q2,q3⟩:=GL hL h K P hg p.Is;rw[if_neg (by rw[q2,eL,wrap64 (by omega) (by omega)];omega)];have e2:iN ⟨p.L,w64 (p.I+1),p.Is,p.F⟩=iN p+1:=(by show(w64 (p.I+1)).toNat=_;rw[q2];rfl);refine⟨q1,?_⟩;rw[e2,PC K];omega
 have b6:bn (⟨p.L,(if(w64 ((p.L.length:Int)-1))<(w64 (p.I+1))then(w64 ((p.L.length:Int)-1))else(w64 (p.I+1))),p.Is,p.F⟩:l7)=bn p:=rfl;have j0:Qh d5 p ((t,()),())=Qh d5 p ((t,()),()):=rfl;have j1:Sk d5 p ((t,()),())=Sk d5 p ((t,()),()):=rfl
 conv at j0=>rhs;rw[b4b,rY]
 conv at j1=>rhs;rw[b3p,lI]
 simp only at j0 j1;generalize (⟨p.L,(if(w64 ((p.L.length:Int)-1))<(w64 (p.I+1))then(w64 ((p.L.length:Int)-1))else(w64 (p.I+1))),p.Is,p.F⟩:l7)=Q at*;have hQ:=λP=>(aj P).1;have a0:=λP=>(aj P).2;have H:∀(k:Int) (s:b6H) (n:Int),(s=[]\/s=t.Ds)->nl n=0->t.Ks≠8->∃y,I4 d5 k t s n []=some ((y,()),())/\Ok L 3 1 p y Q:=by intro k s n a8 bc P;obtain⟨y,g,hy,aa⟩:=M9 k t s n [] (by simp) (O0 h K) bc;have hq:=a0 P;have bl:=x5 L (hQ P).le;refine⟨y,g,b3U (hQ P) hy ?_⟩;rcases a8 with rfl|rfl<;>omega
 have N:∀{s:b6H},G3 d5 p s=some ((true,()),())->t.Ks≠8:=by intro s hi;obtain⟨b,J,R⟩:=H4 h s;rw[J]at hi;cases hi;obtain⟨_,t',q1,q2⟩:=R rfl;rw[K]at q1;cases q1;omega
 have a6:∃x p',IP d5 p=some ((x,p',()),())/\Ok L 3 1 p x p':=by obtain⟨p',U,M,Y⟩:=Mf h 5 (by decide);rw[b0e,iA,U];have bt:=M.le;have bs:=M.mono;have b1:=M.stay;have bv:=M.go;have bh:=u9 p';have bd:=M.pi.lt;have bz:=x5 L M.le;exact⟨_,p',rfl,M.pi,by omega,by omega,λ_=>⟨by omega,by simp⟩,λh=>by omega,by simp;omega,by simp,λh=>by omega⟩
 have X:∃x p',Qh d5 p ((t,()),())=some ((x,p',()),())/\Ok L 3 1 p x p':=by
  rw[j0];obtain⟨b,J,R⟩:=H4 h [109,97,107,101];rw[J];cases b with
  |false=>exact a6
  |true=>have s0:=hQ (N J);obtain⟨t',S,U,B,bw,ba⟩:=Oq hL s0.pi 2 (by decide);obtain⟨y,M,hy,aa⟩:=M9 19 t' t'.Ds 0 [] (by simp) ba;obtain⟨z,Y,hz,bb⟩:=M9 32 t [] 0 y (by rw[hy];simp) (O0 h K);obtain⟨O,g4,G⟩:=Gh hL B.pi [40];obtain⟨Z,g5,C⟩:=Ii hL G.pi [41];simp only[K8]at hy;rw[d6,l6,U,d6,M,d6,Y,d6,g4,d6,g5];have a7:=s0.le;have a1:=s0.mono;have ao:=s0.stay;have aq:=s0.go;have ai:=u9 Q;have au:=s0.pi.lt;have ax:=x5 L s0.le;have ag:=B.le;have ah:=B.mono;have af:=B.stay;have ad:=B.go;have ae:=u9 S;have ab:=B.pi.lt;have ac:=x5 L B.le;have av:=G.le;have az:=G.mono;have ar:=G.stay;have a2:=G.go;have an:=u9 O;have am:=G.pi.lt;have a3:=x5 L G.le;have ay:=C.le;have a5:=C.mono;have ak:=C.stay;have al:=C.go;have ap:=u9 Z;have a4:=C.pi.lt;have aw:=x5 L C.le;exact⟨z,Z,rfl,C.pi,by omega,by omega,λh=>by omega,λh=>by omega,by omega,by omega,λh=>by omega⟩
 have V:∃x p',Sk d5 p ((t,()),())=some ((x,p',()),())/\Ok L 3 1 p x p':=by
  rw[j1];by_cases c1:t.Ks=1
  ·rw[f6 c1,l6];have s0:=hQ (by omega);have b5:=a0 (by omega);have a7:=s0.le;have a1:=s0.mono;have ao:=s0.stay;have aq:=s0.go;have ai:=u9 Q;have au:=s0.pi.lt;have ax:=x5 L s0.le;obtain⟨S,U,B⟩:=Gh hL s0.pi [40];have ag:=B.le;have ah:=B.mono;have af:=B.stay;have ad:=B.go;have ae:=u9 S;have ab:=B.pi.lt;have ac:=x5 L B.le;have m0:=It h s0 hg;have m1:=It s0.pi B (by omega);obtain⟨x,O,M,r2,r3,r4,r5,r6,bk⟩:=b3s hL hE Q _ S [] 0 rfl B.pi (by omega) (by omega) (by simp) (λh=>by omega);have r7:=r2.lt;have r8:=u9 O;obtain⟨y,Y,hy,aa⟩:=M9 27 t t.Ds 0 x (by omega) (O0 h K);rw[a1A,jY,U,d6,M,d6,Y];exact⟨y,O,rfl,r2,by omega,by omega,λh=>by omega,λh=>by omega,by omega,by omega,λh=>by omega⟩
  ·rw[d9 c1,f9];obtain⟨b,J,R⟩:=H4 h [40];rw[J,d6];cases b with
   |true=>obtain⟨S,U,B⟩:=Gh hL h [40];obtain⟨x,O,M,G⟩:=hE S B.pi (by have:=It h B hg;omega);obtain⟨Z,Y,C⟩:=Ii hL G.pi [41];rw[l6,U,d6,M,d6,Y];have ag:=B.le;have ah:=B.mono;have af:=B.stay;have ad:=B.go;have ae:=u9 S;have ab:=B.pi.lt;have ac:=x5 L B.le;have av:=G.le;have az:=G.mono;have ar:=G.stay;have a2:=G.go;have an:=u9 O;have am:=G.pi.lt;have bf:=G.sz;have br:=G.ne;have a3:=x5 L G.le;have bm:=G.tx;have ay:=C.le;have a5:=C.mono;have ak:=C.stay;have al:=C.go;have ap:=u9 Z;have a4:=C.pi.lt;have aw:=x5 L C.le;exact⟨x,Z,rfl,C.pi,by omega,by omega,λh=>by omega,λh=>by omega,by omega,by omega,λh=>by omega⟩
   |false=>
    rw[f9];obtain⟨b,J,R⟩:=H4 h [109,97,107,101];rw[J,d6];cases b with
    |false=>exact X
    |true=>
     have s0:=hQ (N J);have a7:=s0.le;have a1:=s0.mono;have ao:=s0.stay;have aq:=s0.go;have ai:=u9 Q;have au:=s0.pi.lt;have ax:=x5 L s0.le;obtain⟨b,J,R⟩:=H4 s0.pi [91];rw[l6,J,d6];cases b with
     |false=>exact X
     |true=>
      obtain⟨k,S,U,B⟩:=iK hL _ Q s0.pi rfl;have ag:=B.le;have ah:=B.mono;have af:=B.stay;have ad:=B.go;have ae:=u9 S;have ab:=B.pi.lt;have b2:=B.sz;have bj:=B.ne;have ac:=x5 L B.le;have b0:=B.tx;obtain⟨O,M,G⟩:=Gh hL B.pi [40];have av:=G.le;have az:=G.mono;have ar:=G.stay;have a2:=G.go;have an:=u9 O;have am:=G.pi.lt;have a3:=x5 L G.le;have a9:mu L O<m:=by unfold mu at hm⊢;rw[if_neg cb]at hm;split<;>omega
      obtain⟨x,Z,Y,C⟩:=hE O G.pi a9;have ay:=C.le;have a5:=C.mono;have ak:=C.stay;have al:=C.go;have ap:=u9 Z;have a4:=C.pi.lt;have bu:=C.sz;have bq:=C.ne;have aw:=x5 L C.le;have bx:=C.tx;obtain⟨y,g4,hy,aa⟩:=Gy k x (by omega);obtain⟨z,g5,hz,bb⟩:=M9 32 t [] 0 y (by omega) (O0 h K);obtain⟨p4,g6,s4⟩:=Ii hL C.pi [41];have bg:=s4.le;have be:=s4.mono;have b4:=s4.stay;have b3:=s4.go;have b7:=u9 p4;have bo:=s4.pi.lt;have bi:=x5 L s4.le;rw[l6,U,d6,M,d6,Y,d6,g4,d6,g5,d6,g6];exact⟨z,p4,rfl,s4.pi,by omega,by omega,λh=>by omega,λh=>by omega,by omega,by omega,λh=>by omega⟩
 simp only[d6,f9];by_cases c3:t.Ks=3
 ·obtain⟨y,g,o⟩:=H 21 [] t.Ns (.inl rfl) (QZ h K) (by omega);rw[f6 c3,l6,g];exact⟨y,Q,rfl,o⟩
 by_cases c4:t.Ks=4
 ·obtain⟨y,g,o⟩:=H 22 [] t.Ns (.inl rfl) (QZ h K) (by omega);rw[d9 c3,f9,f6 c4,l6,g];exact⟨y,Q,rfl,o⟩
 by_cases c5:t.Ks=5
 ·obtain⟨y,g,o⟩:=H 23 t.Ds 0 (.inr rfl) rfl (by omega);rw[d9 c3,f9,d9 c4,f9,f6 c5,l6,g];exact⟨y,Q,rfl,o⟩
 rw[d9 c3,f9,d9 c4,f9,d9 c5,f9];obtain⟨b,J,R⟩:=H4 h [116,114,117,101];rw[J,d6];cases b with
 |true=>obtain⟨y,g,o⟩:=H 24 [] 1 (.inl rfl) rfl (N J);rw[l6,g];exact⟨y,Q,rfl,o⟩
 |false=>
 rw[f9];obtain⟨b,J,R⟩:=H4 h [102,97,108,115,101];rw[J,d6];cases b with
 |true=>obtain⟨y,g,o⟩:=H 24 [] 0 (.inl rfl) rfl (N J);rw[l6,g];exact⟨y,Q,rfl,o⟩
 |false=>
 rw[f9];obtain⟨b,J,R⟩:=H4 h [110,105,108];rw[J,d6];cases b with
 |true=>obtain⟨y,g,o⟩:=H 25 [] 0 (.inl rfl) rfl (N J);rw[l6,g];exact⟨y,Q,rfl,o⟩
 |false=>
 rw[f9];by_cases c1:t.Ks=1
 ·rw[f6 c1,l6];obtain⟨b,J,R⟩:=H4 (hQ (by omega)).pi [40];rw[J,d6];cases b with
  |false=>obtain⟨y,g,o⟩:=H 26 t.Ds 0 (.inr rfl) rfl (by omega);rw[F4,l6,g];exact⟨y,Q,rfl,o⟩
  |true=>exact V
 ·rw[d9 c1,f9];exact V
structure Lp(L:List s9)(i0:Nat)(q:l7)(x:List d7)(x':List d7)(p':l7):Prop where
 pi:PI L p'
 le:iN q<=iN p'
 mono:bn q<=bn p'
 stay:bn q=1->iN p'=iN q/\x'.length=x.length
 sz:x'.length<=10*(iN p'-i0)+3*bn p'
 ne:1<=x'.length
 tx:bn p'=0->E7 x'+tl L i0<=tl L (iN p')
theorem Fj{L:List s9}{p p':l7}(h:PI L p)(z:PI L p')(G:bn p=0)(H:bn p'=1\/iN p<iN p'):mu L p'<mu L p:=by have B:=z.lt;have F:=h.lt;have C:=u9 p';unfold mu;rw[if_neg (by omega:¬bn p=1)];split<;>omega
theorem a34{L:List s9}(hL:Tk L){m:Nat}(hE:∀q,PI L q->mu L q<m->∃x p',O2 d5 q 1=some ((x,p',()),())/\Ok L 3 1 q x p')(I:Nat):∀(n:Nat) (q:l7) (x:List d7),mu L q=n->PI L q->(bn q=1\/n<m)->I<=iN q->1<=x.length->x.length<=10*(iN q-I)+3*bn q->(bn q=0->E7 x+tl L I<=tl L (iN q))->∃F p',Tw d5 x q=some ((F,p',()),())/\Lp L I q x F p':=by
 intro n;have hs:=hL.small;have tn:=R2;have ln:([]:b6H).length=0:=rfl
 induction n using Nat.strongRecOn with
 |_ n ih=>
 intro q x hn h hm h0 ai hx ae;have au:=h.lt;have hb:=u9 q;have Q:∃F p',xJ d5 x q=some ((F,p',()),())/\Lp L I q x F p':=by rw[a9I,nK];exact⟨x,q,rfl,h,l5 _,l5 _,λ_=>⟨rfl,rfl⟩,hx,ai,ae⟩
 have G:bn q=0->∃F p',fW d5 x q=some ((F,p',()),())/\Lp L I q x F p':=by
  intro R;obtain⟨t,ht,J⟩:=Be h;rw[a39,cG,ht];simp only[d6];by_cases c:t.Ds=([91]:b6H)
  ·rw[f6 c,l6];obtain⟨N,g1,C⟩:=Gh hL h [91];have ak:=C.le;have al:=C.mono;have af:=C.stay;have aa:=C.go;have ac:=u9 N;have P:=C.pi.lt;have X:=x5 L C.le;have m1:=It h C R;obtain⟨y,M,g2,B⟩:=hE N C.pi (by omega);have ab:=B.le;have ad:=B.mono;have Y:=B.stay;have ag:=B.go;have V:=u9 M;have U:=B.pi.lt;have an:=B.sz;have av:=B.ne;have ah:=x5 L B.le;have ar:=B.tx;obtain⟨p3,g3,H⟩:=Ii hL B.pi [93];have ay:=H.le;have a2:=H.mono;have ap:=H.stay;have aq:=H.go;have aw:=u9 p3;have a1:=H.pi.lt;have ax:=x5 L H.le;have O:x.length+y.length<=50000000:=(by omega);obtain⟨z,g4,a0,am⟩:=Gy x y O;have S:z.length<=50000000:=(by omega);obtain⟨w,Z,hw,aj⟩:=M9 28 t [] 0 z S (O0 h J);rw[g1,d6,g2,d6,g3,d6,g4,d6,Z,d6];have K:=Fj h H.pi R (by omega);obtain⟨F,p',r,o⟩:=ih _ (by omega) p3 w rfl H.pi (by omega) (by omega) (by omega) (by omega) (λh=>by omega);have oa:=o.le;have ob:=o.mono;have oc:=o.stay;exact⟨F,p',r,o.pi,by omega,by omega,λh=>by omega,o.sz,o.ne,o.tx⟩
  ·rw[d9 c,f9];obtain⟨N,g1,C⟩:=M1 hL h [46];have ak:=C.le;have al:=C.mono;have af:=C.stay;have aa:=C.go;have ac:=u9 N;have P:=C.pi.lt;have X:=x5 L C.le;obtain⟨t',M,g2,B,az,ao⟩:=Oq hL C.pi 1 (by decide);have ab:=B.le;have ad:=B.mono;have Y:=B.stay;have ag:=B.go;have V:=u9 M;have U:=B.pi.lt;have ah:=x5 L B.le;have O:x.length<=50000000:=(by omega);obtain⟨w,Z,hw,aj⟩:=M9 29 t t'.Ds 0 x O (O0 h J);rw[g1,d6,g2,d6,Z,d6];have K:=Fj h B.pi R (by omega);obtain⟨F,p',r,o⟩:=ih _ (by omega) M w rfl B.pi (by omega) (by omega) (by omega) (by omega) (λh=>by omega);have oa:=o.le;have ob:=o.mono;have oc:=o.stay;exact⟨F,p',r,o.pi,by omega,by omega,λh=>by omega,o.sz,o.ne,o.tx⟩
 rw[b5m,pZ];obtain⟨b,h1,h2⟩:=H4 h [91];rw[h1,d6];cases b with
 |true=>exact G (h2 rfl).1
 |false=>
  obtain⟨b,h1,h2⟩:=H4 h [46];rw[f9,h1,d6];cases b with
  |true=>exact G (h2 rfl).1
  |false=>exact Q
theorem PS{L:List s9}{b c:Nat}{p p':l7}{x:List d7}(h:Ok L b c p x p')(d:Int):Ok L b c p x ⟨p'.L,p'.I,d,p'.F⟩:=⟨⟨h.pi.l,h.pi.i,h.pi.lt,h.pi.ln⟩,h.le,h.mono,h.stay,h.go,h.sz,h.ne,h.tx⟩
theorem a76{L:List s9}(hL:Tk L){m:Nat}(hE:∀q,PI L q->mu L q<m->∃x p',O2 d5 q 1=some ((x,p',()),())/\Ok L 3 1 q x p')(hU:∀q,PI L q->mu L q<m->∃x p',Ql d5 q=some ((x,p',()),())/\Ok L 3 1 q x p'){p:l7}(h:PI L p)(hm:mu L p=m):∃x p',Ql d5 p=some ((x,p',()),())/\Ok L 3 1 p x p':=by
 have hs:=hL.small;have tn:=R2;have ln:([]:b6H).length=0:=rfl;have ab:=h.lt;have hb:=u9 p;obtain⟨t,ht,H⟩:=Be h;have F:bn p=0->∃x p',qR d5 p ((t,()),())=some ((x,p',()),())/\Ok L 3 1 p x p':=by
  intro hg;rw[a2U,qZ];obtain⟨G,R,B⟩:=Gh hL h t.Ds;have I:=B.le;have Y:=B.mono;have X:=B.stay;have J:=B.go;have P:=u9 G;have V:=B.pi.lt;have U:=x5 L B.le;have m1:=It h B hg;obtain⟨x,M,N,C⟩:=hU G B.pi (by omega);have ad:=C.le;have ak:=C.mono;have am:=C.stay;have ac:=C.go;have aj:=u9 M;have ah:=C.pi.lt;have ag:=C.sz;have af:=C.ne;have ae:=x5 L C.le;have an:=C.tx;have hz:x.length<=50000000:=(by omega);obtain⟨y,g3,hy,al⟩:=M9 30 t [] 12 x hz (O0 h H);obtain⟨z,g4,ai,aa⟩:=M9 30 t [] 13 x hz (O0 h H);simp only;rw[R,d6,N,d6,g3,g4];cases decide (t.Ds=([45]:b6H))with
  |true=>exact⟨y,_,rfl,PS (p':=M) ⟨C.pi,by omega,by omega,λh=>by omega,λh=>by omega,by omega,by omega,λh=>by omega⟩ _⟩
  |false=>exact⟨z,_,rfl,PS (p':=M) ⟨C.pi,by omega,by omega,λh=>by omega,λh=>by omega,by omega,by omega,λh=>by omega⟩ _⟩
 rw[b0U,uC,ht,d6];obtain⟨b,O,K⟩:=H4 h [45];rw[O,d6];cases b with
 |true=>exact F (K rfl).1
 |false=>
  obtain⟨b,O,K⟩:=H4 h [33];rw[F4,l6,O,d6];cases b with
  |true=>exact F (K rfl).1
  |false=>
   obtain⟨x,G,R,B⟩:=b5c hL hE h hm;have I:=B.le;have Y:=B.mono;have X:=B.stay;have J:=B.go;have P:=u9 G;have V:=B.pi.lt;have Z:=B.sz;have S:=B.ne;have U:=x5 L B.le;have Q:=B.tx;obtain⟨x',p',N,o⟩:=a34 hL hE (iN p) _ G x rfl B.pi (by
    by_cases c:bn G=1
    ·exact .inl c
    ·right;have:=LU h B (by omega);omega) I S Z Q
   have oa:=o.le;have ob:=o.mono;have oc:=o.stay;have od:=o.sz;have oe:=o.ne;have ot:=o.tx;rw[F4,l6,b2H,pC,R,d6,N];exact⟨x',p',rfl,o.pi,by omega,by omega,λh=>by omega,λh=>by omega,by omega,by omega,λh=>by omega⟩
theorem b2O(B:Nat)(F:1<=B)(C:B<=6):∃e:Ah,BF d5 (B:Int)=some e/\e.1.1.length=e.1.2.1.length/\e.1.1.length<=4/\∀z∈e.1.2.1,nl z=0:=by
 have:B=1\/B=2\/B=3\/B=4\/B=5\/B=6:=(by omega);rw[a4e,dE];rcases this with rfl|rfl|rfl|rfl|rfl|rfl
 all_goals exact⟨_,rfl,rfl,by decide,by decide⟩
theorem a9S{L:List s9}(hL:Tk L){m:Nat}(I:Nat)(aw:I<=6)(e:Ah)(he:e.1.1.length=e.1.2.1.length)(al:e.1.1.length<=4)(U:∀z∈e.1.2.1,nl z=0)(hN:∀q,PI L q->mu L q<m->∃x p',O2 d5 q ((I+1:Nat):Int)=some ((x,p',()),())/\Ok L 3 1 q x p')(N:Nat):∀(n i:Nat) (x:List d7) (c:Bool) (q:l7),e.1.1.length-i=n->PI L q->(bn q=1\/mu L q<m)->N<=iN q->1<=x.length->x.length<=10*(iN q-N)+3*bn q->(bn q=0->E7 x+tl L N<=tl L (iN q))->∃P M H,Ll d5 (I:Int) x c e (i:Int) q=AH d5 (I:Int) P M H e/\Lp L N q x P H/\(c=true->H=q/\M=true)/\(c=false->M=true->mu L H<mu L q):=by
 intro n;have hs:=hL.small;have tn:=R2;have ln:([]:b6H).length=0:=rfl
 induction n with
 |zero=>intro i x c q hi h Y h0 G hx F;rw[UY,Zd,d9 (by omega),f9];exact⟨x,c,q,rfl,⟨h,l5 _,l5 _,λ_=>⟨rfl,rfl⟩,hx,G,F⟩,λhc=>⟨rfl,hc⟩,λS O=>by rw[S]at O;cases O⟩
 |succ n ih=>
  intro i x c q hi h Y h0 G hx F;have ad:=h.lt;have hb:=u9 q;have e1:w64 ((i:Int)+1)=((i+1:Nat):Int):=(by rw[wrap64 (by omega) (by omega)];omega);have e2:w64 ((I:Int)+1)=((I+1:Nat):Int):=(by rw[wrap64 (by omega) (by omega)];omega);have J:i<e.1.1.length:=(by omega);have hi2:i<e.1.2.1.length:=(by omega);have skip:=ih (i+1) x c q (by omega) h Y h0 G hx F;rw[UY,Zd,f6 (by omega),l6,e1,e2];cases c with
  |true=>exact skip
  |false=>
   obtain⟨b,S,O⟩:=H4 h e.1.1[i];rw[F4,l6,p9 J,d6,F9,w9 J,d6,S,d6];cases b with
   |false=>exact skip
   |true=>have X:=(O rfl).1;obtain⟨t,ht,R⟩:=Be h;obtain⟨p1,g1,C⟩:=M1 hL h e.1.1[i];have av:=C.le;have ax:=C.mono;have ao:=C.stay;have aj:=C.go;have am:=u9 p1;have ab:=C.pi.lt;have ah:=x5 L C.le;have m1:=It h C X;obtain⟨y,V,g2,B⟩:=hN p1 C.pi (by omega);have ak:=B.le;have an:=B.mono;have ai:=B.stay;have ap:=B.go;have ag:=u9 V;have af:=B.pi.lt;have aa:=B.sz;have ae:=B.ne;have aq:=x5 L B.le;have ac:=B.tx;have hz:x.length+y.length<=50000000:=(by omega);obtain⟨z,g4,ar,Z⟩:=Gy x y hz;have Q:z.length<=50000000:=(by omega);obtain⟨w,g5,hw,au⟩:=M9 31 t [] e.1.2.1[i] z Q (O0 h R) (U _ (B0 hi2));have K:=Fj h B.pi X (by omega);obtain⟨P,M,H,r,o,k1,k2⟩:=ih (i+1) w true V (by omega) B.pi (by omega) (by omega) (by omega) (by omega) (λh=>by omega);rw[l6,ht,d6,d6,d6,g1,d6,g2,d6,p9 hi2,d6,w9 hi2,d6,g4,d6,g5,d6];have oa:=o.le;have ob:=o.mono;have oc:=o.stay;exact⟨P,M,H,r,⟨o.pi,by omega,by omega,λh=>by omega,o.sz,o.ne,o.tx⟩,(λh=>nomatch h),λ_ _=>by rw[(k1 rfl).1];exact K⟩
theorem b2Q{L:List s9}(hL:Tk L){m:Nat}(G:Nat)(P:G<=6)(e:Ah)(Z:e.1.1.length=e.1.2.1.length)(K:e.1.1.length<=4)(N:∀z∈e.1.2.1,nl z=0)(X:∀q,PI L q->mu L q<m->∃x p',O2 d5 q ((G+1:Nat):Int)=some ((x,p',()),())/\Ok L 3 1 q x p')(H:Nat):∀(n:Nat) (x:List d7) (q:l7),mu L q=n->PI L q->(bn q=1\/n<m)->H<=iN q->1<=x.length->x.length<=10*(iN q-H)+3*bn q->(bn q=0->E7 x+tl L H<=tl L (iN q))->∃C p',qC d5 (G:Int) x true q e=some ((C,p',()),())/\Lp L H q x C p':=by
 intro n
 induction n using Nat.strongRecOn with
 |_ n ih=>
 intro x q hn h hm h0 M hx O;have hb:=u9 q;obtain⟨Q,c1,I,r,o,_,Y⟩:=a9S hL G P e Z K N X H _ 0 x false q rfl h (by omega) h0 M hx O;have B:∃C p',(some ((Q,I,()),()):b6w)=some ((C,p',()),())/\Lp L H q x C p':=⟨Q,I,rfl,o⟩;rw[MG,Uq,l6,show Ll d5 (G:Int) x false e 0 q=_ from r,b1H,fT];by_cases J:(G:Int)=3
 ·rw[f6 J];exact B
 by_cases R:(G:Int)=4
 ·rw[d9 J,f6 R];exact B
 rw[d9 J,d9 R,f9,f9];cases c1 with
 |false=>rw[MG,Uq,f9,a02,dW];exact B
 |true=>
  have U:=Y rfl rfl;have oa:=o.le;have ob:=o.mono;have oc:=o.stay;have S:=u9 I;obtain⟨C,p',V,F⟩:=ih (mu L I) (by omega) Q I rfl o.pi (by
   by_cases cq:bn q=1
   ·exact .inl (by omega)
   ·exact .inr (by omega)) (by omega) o.ne o.sz o.tx
  have pa:=F.le;have pb:=F.mono;have pc:=F.stay;exact⟨C,p',V,F.pi,by omega,by omega,λh=>by omega,F.sz,F.ne,F.tx⟩
theorem b4W{L:List s9}(hL:Tk L):∀(m:Nat) (p:l7),PI L p->mu L p=m->(∃x p',Ql d5 p=some ((x,p',()),())/\Ok L 3 1 p x p')/\∀z:Nat,1<=z->z<=7->∃x p',O2 d5 p (z:Int)=some ((x,p',()),())/\Ok L 3 1 p x p':=by
 intro m
 induction m using Nat.strongRecOn with
 |_ m ih=>
 intro p h hm;have P:∀z:Nat,1<=z->z<=7->∀q,PI L q->mu L q<m->∃x p',O2 d5 q (z:Int)=some ((x,p',()),())/\Ok L 3 1 q x p':=λz a b q C hl=>(ih _ hl q C rfl).2 z a b;have R:=a76 hL (P 1 (by omega) (by omega)) (λq C hl=>(ih _ hl q C rfl).1) h hm;refine⟨R,?_⟩;have G:∀j z:Nat,7-z=j->1<=z->z<=7->∃x p',O2 d5 p (z:Int)=some ((x,p',()),())/\Ok L 3 1 p x p':=by
  intro j
  induction j with
  |zero=>intro z hj Q V;obtain⟨x,p',g,o⟩:=R;rw[PW,Uh,f6 (by omega),l6,g];exact⟨x,p',rfl,o⟩
  |succ j ihj=>
   intro z hj Q V;have Y:w64 ((z:Int)+1)=((z+1:Nat):Int):=(by rw[wrap64 (by omega) (by omega)];omega);obtain⟨x,H,g1,B⟩:=ihj (z+1) (by omega) (by omega) (by omega);have N:=B.le;have ad:=B.mono;have ac:=B.stay;have S:=B.go;have Z:=u9 H;have ab:=B.pi.lt;have O:=B.sz;have K:=B.ne;have aa:=x5 L B.le;have F:=B.tx;obtain⟨e,he,M,J,I⟩:=b2O z Q (by omega);have hb:=u9 p;obtain⟨X,p',U,o⟩:=b2Q hL z (by omega) e M J I (P (z+1) (by omega) (by omega)) (iN p) _ x H rfl B.pi (by
    by_cases c:bn H=1
    ·exact .inl c
    ·right;have:=LU h B (by omega);omega) N K O F
   have oa:=o.le;have ob:=o.mono;have oc:=o.stay;have od:=o.sz;have oe:=o.ne;have ot:=o.tx;rw[PW,Uh,d9 (by omega),f9,Y,g1,d6,he,d6,U];exact⟨X,p',rfl,o.pi,by omega,by omega,λh=>by omega,λh=>by omega,by omega,by omega,λh=>by omega⟩
 exact λz=>G _ z rfl
theorem Lk{L:List s9}(hL:Tk L){p:l7}(h:PI L p):∃x p',O2 d5 p 1=some ((x,p',()),())/\Ok L 3 1 p x p':=(b4W hL _ p h rfl).2 1 (by omega) (by omega)
theorem b5F{L:List s9}(hL:Tk L){m:Nat}(hS:∀q,PI L q->mu L q<m->∃x p',Pg d5 q=some ((x,p',()),())/\Ok L 5 2 q x p')(t:RT5)(H:pl t.1.1.Ls=0)(B:Nat):∀(n:Nat) (q:l7) (c:List d7),mu L q=n->PI L q->(bn q=1\/n<m)->B<=iN q->c.length<=10*(iN q-B)+5*bn q->(bn q=0->E7 c+tl L B<=tl L (iN q))->∃x p',uX d5 q t c=some ((x,p',()),())/\PI L p'/\iN q<=iN p'/\bn q<=bn p'/\(bn q=1->iN p'=iN q/\x.length=c.length+1)/\x.length<=10*(iN p'-B)+5*bn p'+1/\1<=x.length/\(bn p'=0->E7 x+tl L B<=tl L (iN p')):=by
 intro n;have hs:=hL.small;have tn:=R2;have ln:([]:b6H).length=0:=rfl
 induction n using Nat.strongRecOn with
 |_ n ih=>
 intro q c hn h hm h0 hc aa;have U:=h.lt;have hb:=u9 q;have C:∃x p',tM d5 q t c=some ((x,p',()),())/\PI L p'/\iN q<=iN p'/\bn q<=bn p'/\(bn q=1->iN p'=iN q/\x.length=c.length+1)/\x.length<=10*(iN p'-B)+5*bn p'+1/\1<=x.length/\(bn p'=0->E7 x+tl L B<=tl L (iN p')):=by have I:c.length<=50000000:=(by omega);obtain⟨y,Z,hy,ac⟩:=M9 6 t.1.1 [] 0 c I H;obtain⟨F,K,z⟩:=Ii hL h [125];rw[a1I,mQ,Z,d6,K];have O:=z.le;have Q:=z.mono;have P:=z.stay;have G:=z.go;have J:=u9 F;have N:=z.pi.lt;have M:=x5 L z.le;exact⟨y,F,rfl,z.pi,by omega,by omega,λh=>by omega,by omega,by omega,λh=>by omega⟩
 rw[a6t,lB,Fy];by_cases R:bn q=1
 ·rw[f6 R];exact C
 ·rw[d9 R];simp only[d6,F4,l6];obtain⟨b,h1,h2⟩:=H4 h [125];rw[h1,d6];cases b with
  |true=>exact C
  |false=>obtain⟨x,F,K,z⟩:=hS q h (by omega);have O:=z.le;have Q:=z.mono;have P:=z.stay;have G:=z.go;have J:=u9 F;have N:=z.pi.lt;have ae:=z.sz;have ad:=z.ne;have M:=x5 L z.le;have ab:=z.tx;have I:c.length+x.length<=100000000:=(by omega);rw[F4,l6,K,d6,N5 (by decide) I,d6];have S:=Fj h z.pi (by omega) (by omega);obtain⟨x',p',r,V,r2,r3,r4,r5,X,Y⟩:=ih _ (by omega) F (c++x) rfl z.pi (by omega) (by omega) (by rw[t8];omega) (λh=>by rw[Om];omega);exact⟨x',p',r,V,by omega,by omega,λh=>by omega,r5,X,Y⟩
theorem a4Q{L:List s9}(hL:Tk L){m:Nat}(Q:∀q,PI L q->mu L q<m->∃x p',Pg d5 q=some ((x,p',()),())/\Ok L 5 2 q x p'){p:l7}(h:PI L p)(hm:mu L p=m):∃x p',Ij d5 p=some ((x,p',()),())/\Ok L 3 1 p x p':=by
 have hs:=hL.small;have tn:=R2;have ln:([]:b6H).length=0:=rfl;have G:=h.lt;have X:=u9 p;obtain⟨t,I,C⟩:=Be h;obtain⟨B,M,z⟩:=Gh hL h [123];have R:=z.le;have U:=z.mono;have S:=z.stay;have F:=z.go;have K:=u9 B;have P:=z.pi.lt;have N:=x5 L z.le;obtain⟨x,p',r,H,r2,V,J,r5,Y,Z⟩:=b5F hL Q ((t,()),()) (O0 h C) (iN B) _ B [] rfl z.pi (by
  by_cases c:bn B=1
  ·exact .inl c
  ·right;have:=It h z (by omega);omega) (l5 _) (by simp) (λh=>by omega)
 have O:=u9 p';simp only[K8]at J;rw[b1n,pW,I,d6,M,d6];exact⟨x,p',r,H,by omega,by omega,λh=>by omega,λh=>by omega,by omega,by omega,λh=>by omega⟩
set_option maxHeartbeats 2000000 in
theorem a2C{L:List s9}(hL:Tk L){m:Nat}(hB:∀q,PI L q->mu L q<m->∃x p',Ij d5 q=some ((x,p',()),())/\Ok L 3 1 q x p'){p:l7}(h:PI L p)(hm:mu L p=m):∃x p',Pg d5 p=some ((x,p',()),())/\Ok L 5 2 p x p':=by
 have hs:=hL.small;have tn:=R2;have ln:([]:b6H).length=0:=rfl;have bu:=h.lt;have hb:=u9 p;obtain⟨t,ht,M⟩:=Be h;rw[a6w,cA,ht,d6];obtain⟨b,h1,h2⟩:=H4 h [118,97,114];rw[h1,d6];cases b with
 |true=>have hg:=(h2 rfl).1;obtain⟨H,g1,F⟩:=M1 hL h [118,97,114];obtain⟨t',J,g2,B,b5,bo⟩:=Oq hL F.pi 1 (by decide);obtain⟨I,g3,C⟩:=M1 hL B.pi [58];obtain⟨k,p4,g4,G⟩:=iK hL _ I C.pi rfl;obtain⟨p5,g5,N⟩:=M1 hL G.pi [61];obtain⟨x,p6,g6,s6⟩:=Lk hL N.pi;obtain⟨p7,g7,s7⟩:=M1 hL s6.pi [59];have am:=F.le;have an:=F.mono;have al:=F.stay;have aj:=F.go;have ak:=u9 H;have ah:=F.pi.lt;have ai:=x5 L F.le;have S:=B.le;have V:=B.mono;have R:=B.stay;have Y:=B.go;have Q:=u9 J;have P:=B.pi.lt;have Z:=x5 L B.le;have ae:=C.le;have ag:=C.mono;have aa:=C.stay;have ab:=C.go;have ac:=u9 I;have af:=C.pi.lt;have ad:=x5 L C.le;have aw:=G.le;have av:=G.mono;have a4:=G.stay;have a3:=G.go;have a5:=u9 p4;have ay:=G.pi.lt;have cf:=G.sz;have cd:=G.ne;have ax:=x5 L G.le;have b6:=G.tx;have a8:=N.le;have a9:=N.mono;have bb:=N.stay;have be:=N.go;have a7:=u9 p5;have bc:=N.pi.lt;have ba:=x5 L N.le;have bk:=s6.le;have bt:=s6.mono;have bm:=s6.stay;have cb:=s6.go;have b7:=u9 p6;have bi:=s6.pi.lt;have bx:=s6.sz;have ce:=s6.ne;have b0:=x5 L s6.le;have b3:=s6.tx;have bz:=s7.le;have bh:=s7.mono;have bs:=s7.stay;have bj:=s7.go;have bp:=u9 p7;have cg:=s7.pi.lt;have b9:=x5 L s7.le;have hz:k.length+x.length<=50000000:=(by omega);obtain⟨y,k1,hy,bq⟩:=Gy k x hz;have ao:y.length<=50000000:=(by omega);obtain⟨z,k2,O,bg⟩:=M9 7 t t'.Ds 0 y ao (O0 h M);rw[l6,g1,d6,g2,d6,g3,d6,g4,d6,g5,d6,g6,d6,k1,d6,k2,d6,g7];exact⟨z,p7,rfl,s7.pi,by omega,by omega,λh=>by omega,λh=>by omega,by omega,by omega,λh=>by omega⟩
 |false=>
 rw[f9];obtain⟨b,h1,h2⟩:=H4 h [105,102];rw[h1,d6];cases b with
 |true=>
  have hg:=(h2 rfl).1;obtain⟨H,g1,F⟩:=M1 hL h [105,102];have am:=F.le;have an:=F.mono;have al:=F.stay;have aj:=F.go;have ak:=u9 H;have ah:=F.pi.lt;have ai:=x5 L F.le;obtain⟨x,J,g2,B⟩:=Lk hL F.pi;have S:=B.le;have V:=B.mono;have R:=B.stay;have Y:=B.go;have Q:=u9 J;have P:=B.pi.lt;have ap:=B.sz;have ar:=B.ne;have Z:=x5 L B.le;have aq:=B.tx;obtain⟨y,I,g3,C⟩:=hB J B.pi (by have:=Fj h B.pi hg (by omega);omega);have ae:=C.le;have ag:=C.mono;have aa:=C.stay;have ab:=C.go;have ac:=u9 I;have af:=C.pi.lt;have a0:=C.sz;have az:=C.ne;have ad:=x5 L C.le;have a2:=C.tx;have hz:x.length+y.length<=50000000:=(by omega);obtain⟨z,k1,au,a1⟩:=Gy x y hz;obtain⟨b,h3,h4⟩:=H4 C.pi [101,108,115,101];rw[l6,g1,d6,g2,d6,g3,d6,k1,d6,h3,d6];cases b with
  |true=>obtain⟨p4,g4,G⟩:=M1 hL C.pi [101,108,115,101];have aw:=G.le;have av:=G.mono;have a4:=G.stay;have a3:=G.go;have a5:=u9 p4;have ay:=G.pi.lt;have ax:=x5 L G.le;obtain⟨w,p5,g5,N⟩:=hB p4 G.pi (by have:=Fj h G.pi hg (by omega);omega);have a8:=N.le;have a9:=N.mono;have bb:=N.stay;have be:=N.go;have a7:=u9 p5;have bc:=N.pi.lt;have bl:=N.sz;have ch:=N.ne;have ba:=x5 L N.le;have bv:=N.tx;have ao:z.length+w.length<=50000000:=(by omega);obtain⟨u,k2,hu,bw⟩:=Gy z w ao;have O:u.length<=50000000:=(by omega);obtain⟨v,U,hv,X⟩:=M9 9 t [] 0 u O (O0 h M);rw[l6,g4,d6,g5,d6,k2,d6,MZ,Vc,U];exact⟨v,p5,rfl,N.pi,by omega,by omega,λh=>by omega,λh=>by omega,by omega,by omega,λh=>by omega⟩
  |false=>have O:z.length<=50000000:=(by omega);obtain⟨v,U,hv,X⟩:=M9 9 t [] 0 z O (O0 h M);rw[f9,MZ,Vc,U];exact⟨v,I,rfl,C.pi,by omega,by omega,λh=>by omega,λh=>by omega,by omega,by omega,λh=>by omega⟩
 |false=>
 rw[f9];obtain⟨b,h1,h2⟩:=H4 h [119,104,105,108,101];rw[h1,d6];cases b with
 |true=>have hg:=(h2 rfl).1;obtain⟨H,g1,F⟩:=M1 hL h [119,104,105,108,101];have am:=F.le;have an:=F.mono;have al:=F.stay;have aj:=F.go;have ak:=u9 H;have ah:=F.pi.lt;have ai:=x5 L F.le;obtain⟨x,J,g2,B⟩:=Lk hL F.pi;have S:=B.le;have V:=B.mono;have R:=B.stay;have Y:=B.go;have Q:=u9 J;have P:=B.pi.lt;have ap:=B.sz;have ar:=B.ne;have Z:=x5 L B.le;have aq:=B.tx;obtain⟨y,I,g3,C⟩:=hB J B.pi (by have:=Fj h B.pi hg (by omega);omega);have ae:=C.le;have ag:=C.mono;have aa:=C.stay;have ab:=C.go;have ac:=u9 I;have af:=C.pi.lt;have a0:=C.sz;have az:=C.ne;have ad:=x5 L C.le;have a2:=C.tx;have hz:x.length+y.length<=50000000:=(by omega);obtain⟨z,k1,au,a1⟩:=Gy x y hz;have O:z.length<=50000000:=(by omega);obtain⟨v,U,hv,X⟩:=M9 10 t [] 0 z O (O0 h M);rw[l6,g1,d6,g2,d6,g3,d6,k1,d6,U];exact⟨v,I,rfl,C.pi,by omega,by omega,λh=>by omega,λh=>by omega,by omega,by omega,λh=>by omega⟩
 |false=>
 rw[f9];obtain⟨b,h1,h2⟩:=H4 h [114,101,116,117,114,110];rw[h1,d6];cases b with
 |true=>
  have hg:=(h2 rfl).1;obtain⟨H,g1,F⟩:=M1 hL h [114,101,116,117,114,110];have am:=F.le;have an:=F.mono;have al:=F.stay;have aj:=F.go;have ak:=u9 H;have ah:=F.pi.lt;have ai:=x5 L F.le;obtain⟨b,h3,h4⟩:=H4 F.pi [59];rw[l6,g1,d6,h3,d6];cases b with
  |true=>obtain⟨v,U,hv,X⟩:=M9 11 t [] 0 [] (by simp) (O0 h M);obtain⟨J,g2,B⟩:=M1 hL F.pi [59];have S:=B.le;have V:=B.mono;have R:=B.stay;have Y:=B.go;have Q:=u9 J;have P:=B.pi.lt;have Z:=x5 L B.le;simp only[K8]at hv;rw[B8,f9,LY,Yy,U,d6,g2];exact⟨v,J,rfl,B.pi,by omega,by omega,λh=>by omega,λh=>by omega,by omega,by omega,λh=>by omega⟩
  |false=>obtain⟨x,J,g2,B⟩:=Lk hL F.pi;have S:=B.le;have V:=B.mono;have R:=B.stay;have Y:=B.go;have Q:=u9 J;have P:=B.pi.lt;have ap:=B.sz;have ar:=B.ne;have Z:=x5 L B.le;have aq:=B.tx;obtain⟨I,g3,C⟩:=M1 hL B.pi [59];have ae:=C.le;have ag:=C.mono;have aa:=C.stay;have ab:=C.go;have ac:=u9 I;have af:=C.pi.lt;have ad:=x5 L C.le;have hz:x.length<=50000000:=(by omega);obtain⟨v,U,hv,X⟩:=M9 11 t [] 0 x hz (O0 h M);rw[F4,l6,g2,d6,LY,Yy,U,d6,g3];exact⟨v,I,rfl,C.pi,by omega,by omega,λh=>by omega,λh=>by omega,by omega,by omega,λh=>by omega⟩
 |false=>
 rw[f9];obtain⟨b,h1,h2⟩:=H4 h [112,114,105,110,116];rw[h1,d6];cases b with
 |true=>have hg:=(h2 rfl).1;obtain⟨H,g1,F⟩:=M1 hL h [112,114,105,110,116];have am:=F.le;have an:=F.mono;have al:=F.stay;have aj:=F.go;have ak:=u9 H;have ah:=F.pi.lt;have ai:=x5 L F.le;obtain⟨x,J,g2,B⟩:=Lk hL F.pi;have S:=B.le;have V:=B.mono;have R:=B.stay;have Y:=B.go;have Q:=u9 J;have P:=B.pi.lt;have ap:=B.sz;have ar:=B.ne;have Z:=x5 L B.le;have aq:=B.tx;obtain⟨I,g3,C⟩:=M1 hL B.pi [59];have ae:=C.le;have ag:=C.mono;have aa:=C.stay;have ab:=C.go;have ac:=u9 I;have af:=C.pi.lt;have ad:=x5 L C.le;have hz:x.length<=50000000:=(by omega);obtain⟨v,U,hv,X⟩:=M9 12 t [] 0 x hz (O0 h M);rw[l6,g1,d6,g2,d6,U,d6,g3];exact⟨v,I,rfl,C.pi,by omega,by omega,λh=>by omega,λh=>by omega,by omega,by omega,λh=>by omega⟩
 |false=>
 rw[f9];obtain⟨x,H,g1,F⟩:=Lk hL h;have am:=F.le;have an:=F.mono;have al:=F.stay;have aj:=F.go;have ak:=u9 H;have ah:=F.pi.lt;have b4:=F.sz;have br:=F.ne;have ai:=x5 L F.le;have b1:=F.tx;have a6:0<x.length:=(by omega);have bd:f7 x 0=some x[0]:=p9 (i:=0) a6;have hz:x.length<=50000000:=(by omega);have j4:∀q,PI L q->iN H<=iN q->bn H<=bn q->(bn H=1->iN q=iN H)->∃x1 p',Tv d5 ((x,H,()),()) q ((t,()),())=some ((x1,p',()),())/\Ok L 5 2 p x1 p':=by intro q hq e1 e2 e3;have ca:=x5 L e1;obtain⟨v,U,hv,X⟩:=M9 13 t [] 0 x hz (O0 h M);obtain⟨I,g3,C⟩:=M1 hL hq [59];have ae:=C.le;have ag:=C.mono;have aa:=C.stay;have ab:=C.go;have ac:=u9 I;have af:=C.pi.lt;have ad:=x5 L C.le;simp only[b5i,iT];rw[U,d6,g3];exact⟨v,I,rfl,C.pi,by omega,by omega,λh=>by omega,λh=>by omega,by omega,by omega,λh=>by omega⟩
 have j3:∃x1 p',lA d5 ((x,H,()),()) ((t,()),())=some ((x1,p',()),())/\Ok L 5 2 p x1 p':=by obtain⟨J,g2,B,C⟩:=Mf F.pi 5 (by decide);have S:=B.le;have V:=B.mono;have R:=B.stay;have Y:=B.go;have Q:=u9 J;have P:=B.pi.lt;have Z:=x5 L B.le;obtain⟨x1,p',q1,q2⟩:=j4 J B.pi (by omega) (by omega) (λh=>by omega);simp only[a9l,vF];rw[g2,d6];exact⟨x1,p',q1,q2⟩
 have j2:bn H=0->∃x1 p',Wp d5 ((x,H,()),()) ((t,()),())=some ((x1,p',()),())/\Ok L 5 2 p x1 p':=by intro K;obtain⟨J,g2,B⟩:=M1 hL F.pi [61];have S:=B.le;have V:=B.mono;have R:=B.stay;have Y:=B.go;have Q:=u9 J;have P:=B.pi.lt;have Z:=x5 L B.le;obtain⟨y,I,g3,C⟩:=Lk hL B.pi;have ae:=C.le;have ag:=C.mono;have aa:=C.stay;have ab:=C.go;have ac:=u9 I;have af:=C.pi.lt;have a0:=C.sz;have az:=C.ne;have ad:=x5 L C.le;have a2:=C.tx;have au:x.length+y.length<=50000000:=(by omega);obtain⟨z,k1,ao,bf⟩:=Gy x y au;have O:z.length<=50000000:=(by omega);obtain⟨v,U,hv,X⟩:=M9 8 t [] 0 z O (O0 h M);obtain⟨p4,g4,G⟩:=M1 hL C.pi [59];have aw:=G.le;have av:=G.mono;have a4:=G.stay;have a3:=G.go;have a5:=u9 p4;have ay:=G.pi.lt;have ax:=x5 L G.le;simp only[a4o,pU];rw[g2,d6,g3,d6,k1,d6,U,d6,g4];exact⟨v,p4,rfl,G.pi,by omega,by omega,λh=>by omega,λh=>by omega,by omega,by omega,λh=>by omega⟩
 have j5:∃x1 p',fM d5 ((x,H,()),()) x[0] ((t,()),())=some ((x1,p',()),())/\Ok L 5 2 p x1 p':=by
  obtain⟨b,h3,h4⟩:=H4 F.pi [61];obtain⟨b2,h5,h6⟩:=H4 F.pi [59];have e:=j4 H F.pi (l5 _) (l5 _) (λ_=>rfl);simp only[b4g,tG];rw[h3,d6];cases b with
  |true=>exact j3
  |false=>
   rw[f9,h5,d6];cases b2 with
   |false=>exact e
   |true=>
    rw[l6];cases decide (x[0].Ks=27)with
    |true=>exact e
    |false=>exact j3
 obtain⟨b,h3,h4⟩:=H4 F.pi [61];rw[g1,d6,bd,d6,h3,d6];cases b with
 |false=>exact j5
 |true=>
  have K:=(h4 rfl).1;rw[l6];cases decide (x[0].Ks=26)with
  |true=>exact j2 K
  |false=>
   rw[f9];cases decide (x[0].Ks=28)with
   |true=>exact j2 K
   |false=>
    rw[f9];cases decide (x[0].Ks=29)with
    |true=>exact j2 K
    |false=>exact j5
theorem b2S{L:List s9}(hL:Tk L):∀(m:Nat) (p:l7),PI L p->mu L p=m->(∃x p',Pg d5 p=some ((x,p',()),())/\Ok L 5 2 p x p')/\∃x p',Ij d5 p=some ((x,p',()),())/\Ok L 3 1 p x p':=by
 intro m
 induction m using Nat.strongRecOn with
 |_ m ih=>
 intro p h B;exact⟨a2C hL (λq z hl=>(ih _ hl q z rfl).2) h B,a4Q hL (λq z hl=>(ih _ hl q z rfl).1) h B⟩
theorem b1P{L:List s9}(hL:Tk L){p:l7}(h:PI L p):∃x p',Ij d5 p=some ((x,p',()),())/\Ok L 3 1 p x p':=(b2S hL _ p h rfl).2
structure Lq(L:List s9)(i0 k b:Nat)(q:l7)(c:List d7)(x:List d7)(p':l7):Prop where
 pi:PI L p'
 le:iN q<=iN p'
 mono:bn q<=bn p'
 stay:bn q=1->iN p'=iN q/\x.length<=c.length+k
 sz:x.length<=10*(iN p'-i0)+8*bn p'+k
 ne:1<=x.length
 tx:bn p'=0->E7 x+tl L i0<=tl L (iN p')+b
theorem a94{L:List s9}(hL:Tk L)(t:RT5)(w:N3)(I:pl t.1.1.Ls=0)(F:Nat):∀(n:Nat) (q:l7) (c:List d7),mu L q=n->PI L q->F<=iN q->c.length<=10*(iN q-F)+4*bn q->(bn q=0->E7 c+tl L F<=tl L (iN q))->∃x p',cE d5 q t w c=some ((x,p',()),())/\Lq L F 1 w.1.1.Ds.length q c x p':=by
 intro n;have hs:=hL.small;have tn:=R2;have ln:([]:b6H).length=0:=rfl
 induction n using Nat.strongRecOn with
 |_ n ih=>
 intro q c hn h h0 hc ab;have X:=h.lt;have hb:=u9 q;have C:∃x p',pO d5 q t w c=some ((x,p',()),())/\Lq L F 1 w.1.1.Ds.length q c x p':=by have J:c.length<=50000000:=(by omega);obtain⟨y,g0,hy,ag⟩:=M9 2 t.1.1 w.1.1.Ds 0 c J I;obtain⟨G,M,z⟩:=Ii hL h [125];rw[b5J,eY,g0,d6,M];have P:=z.le;have R:=z.mono;have Q:=z.stay;have H:=z.go;have K:=u9 G;have O:=z.pi.lt;have N:=x5 L z.le;exact⟨y,G,rfl,z.pi,by omega,by omega,λh=>by omega,by omega,by omega,λh=>by omega⟩
 rw[b1I,gO,Fy];by_cases U:bn q=1
 ·rw[f6 U];exact C
 ·rw[d9 U];simp only[d6,F4,l6];obtain⟨b,h1,h2⟩:=H4 h [125];rw[h1,d6];cases b with
  |true=>exact C
  |false=>obtain⟨x,G,M,z⟩:=XP hL h 3;have P:=z.le;have R:=z.mono;have Q:=z.stay;have H:=z.go;have K:=u9 G;have O:=z.pi.lt;have aj:=z.sz;have ah:=z.ne;have N:=x5 L z.le;have ae:=z.tx;obtain⟨S,g2,B⟩:=M1 hL z.pi [59];have Y:=B.le;have af:=B.mono;have ai:=B.stay;have Z:=B.go;have ad:=u9 S;have ac:=B.pi.lt;have aa:=x5 L B.le;have J:c.length+x.length<=100000000:=(by omega);rw[F4,l6,M,d6,g2,d6,N5 (by decide) J,d6];have V:=Fj h B.pi (by omega) (by omega);obtain⟨x',p',r,o⟩:=ih _ (by omega) S (c++x) rfl B.pi (by omega) (by rw[t8];omega) (λh=>by rw[Om];omega);have oa:=o.le;have ob:=o.mono;have oc:=o.stay;exact⟨x',p',r,o.pi,by omega,by omega,λh=>by omega,o.sz,o.ne,o.tx⟩
theorem b0l{L:List s9}(hL:Tk L){p:l7}(h:PI L p):∃x p',FG d5 p=some ((x,p',()),())/\Ok L 9 1 p x p':=by have hs:=hL.small;have tn:=R2;have ln:([]:b6H).length=0:=rfl;have J:=h.lt;have hb:=u9 p;obtain⟨t,R,G⟩:=Be h;obtain⟨p1,g1,B⟩:=M1 hL h [114,101,99];obtain⟨w,H,S,z,K,Y⟩:=Oq hL B.pi 2 (by decide);obtain⟨F,g3,C⟩:=Gh hL z.pi [123];have ak:=B.le;have al:=B.mono;have aj:=B.stay;have I:=B.go;have X:=u9 p1;have ah:=B.pi.lt;have ae:=x5 L B.le;have M:=z.le;have ad:=z.mono;have ag:=z.stay;have O:=z.go;have V:=u9 H;have U:=z.pi.lt;have P:=x5 L z.le;have ab:=C.le;have ac:=C.mono;have af:=C.stay;have ai:=C.go;have Z:=u9 F;have aa:=C.pi.lt;have N:=x5 L C.le;obtain⟨x,p',r,o⟩:=a94 hL ((t,()),()) ((w,H,()),()) (O0 h G) (iN F) _ F [] rfl C.pi (l5 _) (by simp) (λh=>by omega);have oa:=o.le;have ob:=o.mono;have Q:=o.stay;have od:=o.sz;have oe:=o.ne;have of:=u9 p';have ot:=o.tx;simp only at ot;simp only[K8]at Q;rw[a6j,dA,R,d6,g1,d6,S,d6,g3,d6];exact⟨x,p',r,o.pi,by omega,by omega,λh=>by omega,λh=>by omega,by omega,by omega,λh=>by omega⟩
theorem MH{L:List s9}(hL:Tk L)(a:Int)(Z:nl a=0)(t:RT5)(w:N3)(C:pl t.1.1.Ls=0){q:l7}(h:PI L q)(e f:List d7)(he:e.length+f.length<=20000000):∃x p',jT d5 a q t w e f=some ((x,p',()),())/\∃y,Ok L 3 1 q y p'/\x.length=e.length+f.length+y.length+1/\E7 x=w.1.1.Ds.length+(E7 e+E7 f+E7 y):=by have hs:=hL.small;have tn:=R2;have ln:([]:b6H).length=0:=rfl;have N:=h.lt;obtain⟨y,I,S,B⟩:=b1P hL h;have aa:=B.le;have ad:=B.mono;have ab:=B.stay;have M:=B.go;have Q:=u9 I;have ac:=B.pi.lt;have ae:=B.sz;have V:=B.ne;have X:=x5 L B.le;have R:=B.tx;have F:e.length+f.length<=50000000:=(by omega);obtain⟨u,J,hu,O⟩:=Gy e f F;have G:u.length+y.length<=50000000:=(by omega);obtain⟨v,Y,hv,K⟩:=Gy u y G;have H:v.length<=50000000:=(by omega);obtain⟨z,P,hz,U⟩:=M9 4 t.1.1 w.1.1.Ds a v H C Z;rw[a1V,nL,S,d6,J,d6,Y,d6,P];exact⟨z,I,rfl,y,B,by omega,by omega⟩
set_option maxHeartbeats 2000000 in
theorem a13{L:List s9}(hL:Tk L)(t:RT5)(w:N3)(P:pl t.1.1.Ls=0)(I:Nat):∀(n:Nat) (a:Int) (q:l7) (c:List d7),nl a=0->mu L q=n->PI L q->I<=iN q->c.length<=10*(iN q-I)+4*bn q->(bn q=0->E7 c+tl L I<=tl L (iN q))->∃x p',uI d5 a q t w c=some ((x,p',()),())/\Lq L I 9 w.1.1.Ds.length q c x p':=by
 intro n;have hs:=hL.small;have tn:=R2;have ln:([]:b6H).length=0:=rfl
 induction n using Nat.strongRecOn with
 |_ n ih=>
 intro a q c ha hn h h0 hc a6;have aq:=h.lt;have hb:=u9 q;have N:∃x p',bW d5 a q t w c=some ((x,p',()),())/\Lq L I 9 w.1.1.Ds.length q c x p':=by
  obtain⟨p1,g1,C⟩:=Ii hL h [41];have a9:=C.le;have bb:=C.mono;have a4:=C.stay;have az:=C.go;have a2:=u9 p1;have an:=C.pi.lt;have ax:=x5 L C.le;obtain⟨b,h1,h2⟩:=H4 C.pi [58];rw[a3t,fF,g1,d6,h1,d6];cases b with
  |true=>obtain⟨K,g2,B⟩:=M1 hL C.pi [58];have Z:=B.le;have ab:=B.mono;have Y:=B.stay;have ae:=B.go;have X:=u9 K;have V:=B.pi.lt;have af:=x5 L B.le;obtain⟨k,p3,g3,F⟩:=iK hL _ K B.pi rfl;have a3:=F.le;have a8:=F.mono;have am:=F.stay;have ao:=F.go;have aw:=u9 p3;have a7:=F.pi.lt;have ay:=F.sz;have ar:=F.ne;have a0:=x5 L F.le;have a1:=F.tx;have M:c.length+k.length<=20000000:=(by omega);obtain⟨x,p',g4,y,z,hy,H⟩:=MH hL a ha t w P F.pi c k M;have R:=z.le;have Q:=z.mono;have ad:=z.stay;have ac:=z.go;have aj:=u9 p';have U:=z.pi.lt;have ai:=z.sz;have ah:=z.ne;have S:=x5 L z.le;have ag:=z.tx;rw[l6,g2,d6,g3,d6];have hg:=(h2 rfl).1;exact⟨x,p',g4,z.pi,by omega,by omega,λh=>by omega,by omega,by omega,λh=>by omega⟩
  |false=>have M:c.length+ [(d7.mk 14 0 0 0 0 ([]:b6H))].length<=20000000:=(by rw[C2];omega);obtain⟨x,p',g4,y,z,hy,H⟩:=MH hL a ha t w P C.pi c [(d7.mk 14 0 0 0 0 ([]:b6H))] M;have R:=z.le;have Q:=z.mono;have ad:=z.stay;have ac:=z.go;have aj:=u9 p';have U:=z.pi.lt;have ai:=z.sz;have ah:=z.ne;have S:=x5 L z.le;have ag:=z.tx;rw[C2]at hy;rw[yZ]at H;simp only at H;have a5:pl 0=0:=if_pos (by decide);have au:nl 0=0:=rfl;rw[f9];exact⟨x,p',g4,z.pi,by omega,by omega,λh=>by omega,by omega,by omega,λh=>by omega⟩
 rw[b3J,qE,Fy];by_cases cb:bn q=1
 ·rw[f6 cb];exact N
 ·rw[d9 cb];simp only[d6,F4,l6];obtain⟨b,h1,h2⟩:=H4 h [41];rw[h1,d6];cases b with
  |true=>exact N
  |false=>
   have G:∀J,PI L J->iN q<=iN J->bn q<=bn J->∃x p',cQ d5 a J t w c=some ((x,p',()),())/\Lq L I 9 w.1.1.Ds.length q c x p':=by intro J O k1 k2;obtain⟨x,K,g2,B⟩:=XP hL O 5;have Z:=B.le;have ab:=B.mono;have Y:=B.stay;have ae:=B.go;have X:=u9 K;have V:=B.pi.lt;have al:=B.sz;have av:=B.ne;have af:=x5 L B.le;have ap:=B.tx;have ba:=u9 J;have aa:=O.lt;have kt:=x5 L k1;have M:c.length+x.length<=100000000:=(by omega);rw[a6s,jV,g2,d6,N5 (by decide) M,d6];have ak:=Fj h B.pi (by omega) (by omega);obtain⟨x',p',r,o⟩:=ih _ (by omega) (w64 (a+1)) K (c++x) (LP _) rfl B.pi (by omega) (by rw[t8];omega) (λh=>by rw[Om];omega);have oa:=o.le;have ob:=o.mono;have oc:=o.stay;exact⟨x',p',r,o.pi,by omega,by omega,λh=>by omega,o.sz,o.ne,o.tx⟩
   rw[F4,l6];cases decide (a>0)with
   |false=>exact G q h (l5 _) (l5 _)
   |true=>obtain⟨p1,g1,C⟩:=M1 hL h [44];rw[l6,g1,d6];exact G p1 C.pi C.le C.mono
theorem a4Y{L:List s9}(hL:Tk L){p:l7}(h:PI L p):∃x p',GE d5 p=some ((x,p',()),())/\Ok L 17 9 p x p':=by have hs:=hL.small;have tn:=R2;have ln:([]:b6H).length=0:=rfl;have J:=h.lt;have hb:=u9 p;obtain⟨t,R,G⟩:=Be h;obtain⟨p1,g1,B⟩:=M1 hL h [102,110];obtain⟨w,H,S,z,K,Y⟩:=Oq hL B.pi 1 (by decide);obtain⟨F,g3,C⟩:=Gh hL z.pi [40];have ak:=B.le;have al:=B.mono;have aj:=B.stay;have I:=B.go;have X:=u9 p1;have ah:=B.pi.lt;have ae:=x5 L B.le;have M:=z.le;have ad:=z.mono;have ag:=z.stay;have O:=z.go;have V:=u9 H;have U:=z.pi.lt;have P:=x5 L z.le;have ab:=C.le;have ac:=C.mono;have af:=C.stay;have ai:=C.go;have Z:=u9 F;have aa:=C.pi.lt;have N:=x5 L C.le;obtain⟨x,p',r,o⟩:=a13 hL ((t,()),()) ((w,H,()),()) (O0 h G) (iN F) _ 0 F [] rfl rfl C.pi (l5 _) (by simp) (λh=>by omega);have oa:=o.le;have ob:=o.mono;have Q:=o.stay;have od:=o.sz;have oe:=o.ne;have of:=u9 p';have ot:=o.tx;simp only at ot;simp only[K8]at Q;rw[a5O,iY,R,d6,g1,d6,S,d6,g3,d6];exact⟨x,p',r,o.pi,by omega,by omega,λh=>by omega,λh=>by omega,by omega,by omega,λh=>by omega⟩
theorem b49{L:List s9}(hL:Tk L):∀(n:Nat) (q:l7) (c:List d7),mu L q=n->PI L q->c.length<=10*iN q+20*bn q->(bn q=0->E7 c<=tl L (iN q))->∃x p',lW d5 q c=some ((x,p',()),())/\PI L p'/\1<=x.length/\x.length<=10*iN p'+21/\(bn p'=0->E7 x<=tl L (iN p')):=by
 intro n;have hs:=hL.small;have tn:=R2;have ln:([]:b6H).length=0:=rfl
 induction n using Nat.strongRecOn with
 |_ n ih=>
 intro q c hn h hc S;have ac:=h.lt;have hb:=u9 q;have I:∃x p',bN d5 q c=some ((x,p',()),())/\PI L p'/\1<=x.length/\x.length<=10*iN p'+21/\(bn p'=0->E7 x<=tl L (iN p')):=by have V:c.length<=50000000:=(by omega);obtain⟨y,g0,hy,ad⟩:=M9 1 (s9.mk 0 1 1 0 ([]:b6H)) [] 0 c V (if_pos (by decide));rw[b4c,kW,g0];exact⟨y,q,rfl,h,by omega,by omega,λh=>by omega⟩
 have C:∀(B:l7) (x:List d7),bn q=0->PI L B->iN q<=iN B->(bn B=1\/iN q<iN B)->x.length<=10*(iN B-iN q)+20*bn B->(bn B=0->E7 x+tl L (iN q)<=tl L (iN B))->∃R p',Wy d5 B c x=some ((R,p',()),())/\PI L p'/\1<=R.length/\R.length<=10*iN p'+21/\(bn p'=0->E7 R<=tl L (iN p')):=by intro B x G X k1 k2 k3 k4;have Z:=u9 B;have af:=X.lt;have V:c.length+x.length<=100000000:=(by omega);rw[a8j,oH,N5 (by decide) V,d6];have ab:=Fj h X G k2;exact ih _ (by omega) B (c++x) rfl X (by rw[t8];omega) (λh=>by rw[Om];have:=S G;have:=k4 h;omega)
 rw[a8S,iZ,Fy];by_cases cb:bn q=1
 ·rw[f6 cb];exact I
 ·have G:bn q=0:=(by omega);obtain⟨t,ht,ae⟩:=Be h;rw[d9 cb];simp only[d6,F4,l6];rw[ht];simp only[d6];by_cases c8:t.Ks=8
  ·rw[f6 c8];exact I
  rw[d9 c8,F4,l6];obtain⟨b,U,h2⟩:=H4 h [114,101,99];rw[U,d6];cases b with
  |true=>obtain⟨x,B,K,z⟩:=b0l hL h;have O:=z.le;have Q:=z.mono;have P:=z.stay;have H:=z.go;have J:=u9 B;have N:=z.pi.lt;have aa:=z.sz;have Y:=z.ne;have M:=x5 L z.le;have F:=z.tx;rw[l6,K,d6];exact C B x G z.pi (by omega) (by omega) (by omega) F
  |false=>
   obtain⟨b,U,h2⟩:=H4 h [102,110];rw[f9,U,d6];cases b with
   |true=>obtain⟨x,B,K,z⟩:=a4Y hL h;have O:=z.le;have Q:=z.mono;have P:=z.stay;have H:=z.go;have J:=u9 B;have N:=z.pi.lt;have aa:=z.sz;have Y:=z.ne;have M:=x5 L z.le;have F:=z.tx;rw[l6,K,d6];exact C B x G z.pi (by omega) (by omega) (by omega) F
   |false=>obtain⟨B,K,z,Z⟩:=Mf h 5 (by decide);have O:=z.le;have Q:=z.mono;have P:=z.stay;have H:=z.go;have J:=u9 B;have N:=z.pi.lt;have M:=x5 L z.le;rw[f9,K,d6];exact C B [] G z.pi (by omega) (by omega) (by simp) (λh=>by omega)
theorem b2p{L:List s9}(x:List d7){p:l7}(h:PI L p):∃y f,BG d5 x p=some ((y,f,()),())/\(y=x/\bn p=0\/y=[]):=by
 obtain⟨t,I,J⟩:=Be h;have z:∀q,bn p<=bn q->∃y f,gK d5 x q=some ((y,f,()),())/\(y=x/\bn p=0\/y=[]):=by
  intro q G;rw[a3P,gX,Fy];have B:=u9 q;by_cases c:bn q=1
  ·rw[f6 c];exact⟨_,_,rfl,.inr rfl⟩
  ·rw[d9 c];exact⟨_,_,rfl,.inl ⟨rfl,by omega⟩⟩
 rw[b3l,pS,I];simp only[d6];cases decide (t.Ks=8)with
 |true=>exact z p (l5 _)
 |false=>obtain⟨C,F,K,H⟩:=Mf h 5 (by decide);rw[F4,l6,F];exact z C K.mono
theorem b3X{s:b6H}{L:List s9}{f:A7}(hT:vP d5 s=some ((L,f,()),()))(hL:f.Code=0->Tk L/\0<L.length/\∀t∈L,pl t.Ls=0/\nl t.Ns=0):∃x C,qJ d5 s=some ((x,C,()),())/\x.length<=10*L.length+21/\E7 x<=tl L L.length:=by
 rw[a8Z,nW,hT];simp only[d6];by_cases c:f.Code=0
 ·rw[f6 c];obtain⟨K,H,O⟩:=hL c;obtain⟨x,p,M,F,hx,G,z⟩:=b49 K _ ⟨L,0,0,⟨0,0,0⟩⟩ [] rfl ⟨rfl,rfl,H,O⟩ (by simp) (λ_=>by rw[R2];exact D2 _);obtain⟨y,C,J,N⟩:=b2p x F;have B:=F.lt;rw[B8,f9,a57,cT,M,d6,J];refine⟨y,C,rfl,?_⟩;have P:=x5 L (Nat.le_of_lt B);rcases N with⟨rfl,I⟩|rfl
  ·exact⟨by omega,by have:=z I;omega⟩
  ·exact⟨by simp,by rw[R2];omega⟩
 ·rw[d9 c];exact⟨_,_,rfl,by simp,by rw[R2];omega⟩
theorem Ak{p:Prop} [Decidable p](h:p):okP p=some ():=if_pos h
theorem B7{i:Nat}(h:i<=1000000000000):w64 ((i:Int)+1)=((i+1:Nat):Int):=by rw[wrap64 (by omega) (by omega)];omega
theorem NC(s:b6H)(K:s.length<=65536):∀(m i:Nat) (c:Bool),s.length-i=m->i<=s.length->∃k:Nat,Fc d5 s (i:Int) c=some (((k:Int),()),())/\i<=k/\k<=s.length:=by
 intro m
 induction m with
 |zero=>intro i c G hi;rw[OP,Qb1,d9 (by omega),a7s,Qb4];exact⟨i,rfl,by omega,by omega⟩
 |succ m ih=>
  intro i c G hi;have B:i<s.length:=(by omega);have next:∀z,∃k:Nat,Fc d5 s ((i+1:Nat):Int) z=some (((k:Int),()),())/\i<=k/\k<=s.length:=λz=>by obtain⟨k,H,J,I⟩:=ih (i+1) z (by omega) (by omega);exact⟨k,H,by omega,I⟩
  have C:∀z,∃k:Nat,eV d5 s (i:Int) z s[i]=some (((k:Int),()),())/\i<=k/\k<=s.length:=by
   intro z;rw[b2F,Qb2,B7 (by omega)];cases z with
   |true=>exact next true
   |false=>
    rw[F4,l6];cases decide ((s[i].toNat:Int)=32)with
    |true=>exact next false
    |false=>
     rw[F4,l6];cases decide ((s[i].toNat:Int)=9)with
     |true=>exact next false
     |false=>
      rw[F4,l6];cases decide ((s[i].toNat:Int)=13)with
      |true=>exact next false
      |false=>
       rw[F4,l6];cases decide ((s[i].toNat:Int)=10)with
       |true=>exact next false
       |false=>exact⟨i,rfl,by omega,by omega⟩
  have F:∀z,∃k:Nat,uL d5 s (i:Int) z s[i]=some (((k:Int),()),())/\i<=k/\k<=s.length:=by
   intro z;rw[a01,Qb3];cases decide ((s[i].toNat:Int)=10)with
   |true=>exact C false
   |false=>exact C z
  rw[OP,Qb1,f6 (by omega),l6,p9 B,d6];cases decide ((s[i].toNat:Int)=35)with
  |true=>exact F true
  |false=>exact F c
theorem a3A(s:b6H)(n:Nat)(I:n<=s.length)(H:s.length<=65536):∀(m i:Nat) (c d:Int),n-i=m->0<=c->c<=i+1->i<=n->∃x y,Sx d5 s (n:Int) c d (i:Int)=some ((x,y,()),())/\0<=x/\x<=(n:Int)+1:=by
 intro m
 induction m with
 |zero=>intro i c d B h0 F C;rw[JU,Qb6,d9 (by omega),b4G,Qb7];exact⟨_,_,rfl,h0,by omega⟩
 |succ m ih=>
  intro i c d B h0 F C;have z:i<s.length:=(by omega);have G:w64 (c+1)=c+1:=wrap64 (by omega) (by omega);rw[JU,Qb6,f6 (by omega),l6,p9 z,d6,B7 (by omega)];cases decide ((s[i].toNat:Int)=10)with
  |true=>exact ih (i+1) _ _ (by omega) (by omega) (by omega) (by omega)
  |false=>exact ih (i+1) _ _ (by omega) (by omega) (by omega) (by omega)
theorem BC(a:Int):∃k:Int,Jt d5 a=some ((k,()),())/\0<=k/\k<=3:=by
 have C:∃k:Int,uV d5=some ((k,()),())/\0<=k/\k<=3:=⟨0,b4m,by omega,by omega⟩;have z:∃k:Int,bM d5 a=some ((k,()),())/\0<=k/\k<=3:=by
  rw[a0W,Qb9];cases decide (a>=48)with
  |false=>exact C
  |true=>
   rw[l6];cases decide (a<=57)with
   |false=>exact C
   |true=>exact⟨3,rfl,by omega,by omega⟩
 have F:∃k:Int,Vz d5 a=some ((k,()),())/\0<=k/\k<=3:=by
  rw[a8V,mY];cases decide (a>=65)with
  |false=>exact z
  |true=>
   rw[l6];cases decide (a<=90)with
   |false=>exact z
   |true=>exact⟨2,rfl,by omega,by omega⟩
 have B:∃k:Int,(cond (decide (a=95)) (some ((1,()),())) ((Vz d5 a)))=some ((k,()),())/\0<=k/\k<=3:=by
  cases decide (a=95)with
  |false=>exact F
  |true=>exact⟨1,rfl,by omega,by omega⟩
 rw[a3U,Qb8];cases decide (a>=97)with
 |false=>exact B
 |true=>
  rw[l6];cases decide (a<=122)with
  |false=>exact B
  |true=>exact⟨1,rfl,by omega,by omega⟩
theorem MX(s:b6H)(J:s.length<=65536):∀(m i:Nat),s.length-i=m->i<=s.length->∃k:Nat,lR d5 s (i:Int)=some (((k:Int),()),())/\i<=k/\k<=s.length/\∀(h:i<s.length) (q:Int),Jt d5 (s[i].toNat:Int)=some ((q,()),())->0<q->i<k:=by
 intro m
 induction m with
 |zero=>intro i F hi;rw[TW,aM,d9 (by omega),MA,Vr];exact⟨i,rfl,by omega,by omega,λh=>by omega⟩
 |succ m ih=>
  intro i F hi;have B:i<s.length:=(by omega);obtain⟨q,C,I,_⟩:=BC (s[i].toNat:Int);rw[TW,aM,f6 (by omega),l6,p9 B,d6,C,d6,B7 (by omega)];by_cases c:q>0
  ·rw[f6 c,l6];obtain⟨k,z,G,H,_⟩:=ih (i+1) (by omega) (by omega);exact⟨k,z,by omega,H,λ_ _ _ _=>by omega⟩
  ·rw[d9 c,f9,MA,Vr];refine⟨i,rfl,by omega,by omega,λ_ K z G=>?_⟩;rw[C]at z;cases z;omega
theorem a3Q(a b:b6H)(C:b.length<=65536):∀(m i:Nat) (c:Int),b.length-i=m->∃x y,pX d5 a b c (i:Int)=some ((x,y,()),())/\nl x=0:=by
 intro m
 induction m with
 |zero=>
  intro i c B;rw[UZ,Xj,d9 (by omega),f9,a3V,eI];cases decide ((a.length:Int)>(b.length:Int))with
  |false=>exact⟨_,_,rfl,LP _⟩
  |true=>rw[l6,b4O,eF,xOf,d6,d6];simp only;rw[b5K,oB,a2B,d6,d6];simp only;rw[a0V,fE,b5B];exact⟨_,_,rfl,b3j _⟩
 |succ m ih=>intro i c B;have z:i<b.length:=(by omega);rw[UZ,Xj,f6 (by omega),l6,p9 z,d6,B7 (by omega)];exact ih (i+1) _ (by omega)
theorem a5g(a b:b6H)(C:b.length<=65536):∃x y,CT d5 a b=some ((x,y,()),())/\nl x=0:=by
 have z:∃x y,qV d5 a b=some ((x,y,()),())/\nl x=0:=by rw[a08,jJ];exact a3Q a b C _ 0 0 rfl
 have B:∀c,∃x y,mU d5 a b c=some ((x,y,()),())/\nl x=0:=by
  intro c;rw[a5A,sZ];cases decide ((b.length:Int)>(c.length:Int))with
  |true=>exact⟨_,_,rfl,rfl⟩
  |false=>
   rw[f9];cases decide ((b.length:Int)=(c.length:Int))with
   |false=>exact z
   |true=>
    rw[l6];cases(!(Op.bytesLess b c||decide (b=c)))with
    |true=>exact⟨_,_,rfl,rfl⟩
    |false=>exact z
 rw[b55,mZ];cases decide ((a.length:Int)>(b.length:Int))with
 |true=>exact B _
 |false=>exact B _
theorem a5o(a b:b6H)(C:b.length<=65536):∀(m i:Nat),b.length-i=m->∃x y,bY d5 a b (i:Int)=some ((x,y,()),())/\nl x=0:=by
 intro m
 induction m with
 |zero=>intro i B;rw[YN,Zg,d9 (by omega),f9];exact a5g a b C
 |succ m ih=>
  intro i B;have z:i<b.length:=(by omega);rw[YN,Zg,f6 (by omega),l6,p9 z,d6,d6,B7 (by omega)];cases decide ((b[i].toNat:Int)<48)with
  |true=>exact⟨_,_,rfl,rfl⟩
  |false=>
   rw[f9];cases decide ((b[i].toNat:Int)>57)with
   |true=>exact⟨_,_,rfl,rfl⟩
   |false=>exact ih (i+1) (by omega)
theorem a1Q(a:b6H)(B:a.length<=65536):∃x y,EZ d5 a=some ((x,y,()),())/\nl x=0:=by
 have z:∀b:b6H,b.length<=65536->∃x y,Tp d5 a b=some ((x,y,()),())/\nl x=0:=by
  intro b F;have C:∃x y,cX d5 a b=some ((x,y,()),())/\nl x=0:=(by rw[a8J,tW];exact a5o a b F _ 0 rfl);rw[b5o,iJ];by_cases c:(b.length:Int)=0
  ·rw[f6 c];exact⟨_,_,rfl,rfl⟩
  ·have h0:0<b.length:=(by omega);rw[d9 c,f9,show f7 b 0=some b[0]from p9 (i:=0) h0,d6];cases decide ((b[0].toNat:Int)=48)with
   |false=>exact C
   |true=>
    rw[l6];cases decide ((a.length:Int)>1)with
    |true=>exact⟨_,_,rfl,rfl⟩
    |false=>exact C
 rw[b2B,iI];by_cases c:(a.length:Int)>0
 ·have h0:0<a.length:=(by omega);rw[f6 c,l6,show f7 a 0=some a[0]from p9 (i:=0) h0,d6];cases decide ((a[0].toNat:Int)=45)with
  |false=>exact z a B
  |true=>rw[l6,Ak (show F1 1 (a.length:Int) (a.length:Int)from⟨by omega,by omega,R4 _⟩),d6];exact z _ (by rw[(Ob a 1 a.length ⟨by omega,by omega,R4 _⟩).1];omega)
 ·rw[d9 c];exact z a B
def Kn(n i:Nat)(r:b6D):Prop:=∃(bs:b6H) (k:Int) (ok:Bool),r=some ((bs,k,ok,()),())/\(ok=true->∃kn:Nat,k=(kn:Int)/\i<kn/\kn<=n/\bs.length<=kn)
theorem Kn.mono{n i j:Nat}{r:b6D}(h:Kn n j r)(I:i<=j):Kn n i r:=by obtain⟨J,k,ok,H,C⟩:=h;exact⟨J,k,ok,H,λh=>by obtain⟨z,B,K,F,G⟩:=C h;exact⟨z,B,by omega,F,G⟩⟩
theorem Eo(n i:Nat)(z:b6H)(k:Int):Kn n i (some ((z,k,false,()),())):=⟨_,_,_,rfl,λh=>nomatch h⟩
theorem WB(a:Int)(h0:0<=a)(F:a<256):∃v,Xe d5 a=some ((v,()),()):=by
 have C:∃v,mE d5=some ((v,()),()):=⟨_,a2b⟩;have B:∃v,jG d5 a=some ((v,()),()):=by
  rw[a5E,kT];cases decide (a>=65)with
  |false=>exact C
  |true=>
   rw[l6];cases decide (a<=70)with
   |false=>exact C
   |true=>exact⟨_,rfl⟩
 have z:∃v,oU d5 a=some ((v,()),()):=by
  rw[a9g,jS];cases decide (a>=97)with
  |false=>exact B
  |true=>
   rw[l6];cases decide (a<=102)with
   |false=>exact B
   |true=>exact⟨_,rfl⟩
 rw[b2U,pR];cases decide (a>=48)with
 |false=>exact z
 |true=>
  rw[l6];cases decide (a<=57)with
  |false=>exact z
  |true=>exact⟨_,rfl⟩
theorem b24(n:Int):0<=IntKind.wrap .u8 n/\IntKind.wrap .u8 n<256:=by have:IntKind.wrap .u8 n=n%256:=rfl;omega
theorem LW{c:List Int}(h:∀x∈c,0<=x/\x<256):Ty c=some ():=if_pos h
theorem a8B{c:List Int}(h:∀x∈c,0<=x/\x<256)(y:Int)(z:0<=y/\y<256):∀x∈c++[y],0<=x/\x<256:=by
 intro x hx;rcases A3.1 hx with hx|hx
 ·exact h x hx
 ·rw[K4.1 hx];exact z
theorem Rg(x:UInt8):0<=(x.toNat:Int)/\(x.toNat:Int)<256:=by have:=x.toNat_lt;omega
theorem a7J(s:b6H)(Q:s.length<=65536):∀(m i:Nat) (c:List Int),s.length-i=m->(∀x∈c,0<=x/\x<256)->c.length<=i->Kn s.length i (tJ d5 s (i:Int) c):=by
 intro m
 induction m using Nat.strongRecOn with
 |_ m ih=>
 intro i c R I hl;rw[b39,oV];by_cases O:i<s.length
 ·have z:=B7 (i:=i) (by omega);have go:∀(j:Nat) (y:Int),i<=j->j<=65600->0<=y/\y<256->Kn s.length i ((B9 1 c ([y]:List Int)).bind λe=>Mk d5 s (j:Int) e):=by
   intro j y K S N;have M:c.length+ [y].length<=100000000:=(by rw[C2];omega);rw[N5 (by decide) M,d6,a7f,bH,B7 (by omega)];by_cases L:s.length-(j+1)<m
   ·exact(ih _ L (j+1) _ rfl (a8B I y N) (by rw[t8,C2];omega)).mono (by omega)
   ·omega
  rw[f6 (by omega),l6,p9 O,d6,z];cases decide ((s[i].toNat:Int)<32)with
  |true=>exact Eo _ _ _ _
  |false=>
  rw[f9];cases decide ((s[i].toNat:Int)>126)with
  |true=>exact Eo _ _ _ _
  |false=>
  rw[f9];cases decide ((s[i].toNat:Int)=34)with
  |true=>rw[l6,LW I];exact⟨_,_,_,rfl,λ_=>⟨i+1,rfl,by omega,by omega,by unfold A1;rw[F5];omega⟩⟩
  |false=>
  rw[f9];cases decide ((s[i].toNat:Int)=92)with
  |false=>exact go i _ (l5 _) (by omega) (Rg _)
  |true=>
  rw[B8,f9];by_cases c1:i+1<s.length
  ·rw[d9 (by omega),f9,p9 c1,d6];have B:Kn s.length i (eD d5 s (i:Int) c):=by rw[a5e,sW,z,p9 c1,d6];exact go (i+1) _ (by omega) (by omega) (Rg _)
   cases decide ((s[i+1].toNat:Int)=34)with
   |true=>exact B
   |false=>
   rw[f9];cases decide ((s[i+1].toNat:Int)=92)with
   |true=>exact B
   |false=>
   rw[f9];cases decide ((s[i+1].toNat:Int)=110)with
   |true=>exact go (i+1) 10 (by omega) (by omega) (by decide)
   |false=>
   rw[f9];cases decide ((s[i+1].toNat:Int)=116)with
   |true=>exact go (i+1) 9 (by omega) (by omega) (by decide)
   |false=>
   rw[f9];cases decide ((s[i+1].toNat:Int)=120)with
   |false=>exact Eo _ _ _ _
   |true=>
    rw[l6];have C:w64 (((i+1:Nat):Int)+1)=((i+2:Nat):Int):=B7 (by omega);have G:w64 (((i+1:Nat):Int)+2)=((i+3:Nat):Int):=(by rw[wrap64 (by omega) (by omega)];omega);have P:w64 ((1:Int)+1)=2:=rfl;have J:w64 ((2:Int)+1)=3:=rfl;rw[wJ,Si,f6 (by decide),l6,z,C,P];by_cases c2:i+2<s.length
    ·obtain⟨v,H⟩:=WB (s[i+2].toNat:Int) (Rg _).1 (Rg _).2;rw[d9 (by omega),f9,p9 c2,d6,H,d6];cases decide (v<0)with
     |true=>exact Eo _ _ _ _
     |false=>
     rw[f9,wJ,Si,f6 (by decide),l6,z,G,J];by_cases c3:i+3<s.length
     ·obtain⟨u,F⟩:=WB (s[i+3].toNat:Int) (Rg _).1 (Rg _).2;rw[d9 (by omega),f9,p9 c3,d6,F,d6];cases decide (u<0)with
      |true=>exact Eo _ _ _ _
      |false=>
      rw[f9,wJ,Si,d9 (by decide),f9,a2W,qI,z,C,G,p9 c2,d6,H,d6,p9 c3,d6,F,d6];exact go (i+3) _ (by omega) (by omega) (b24 _)
     ·rw[f6 (by omega)];exact Eo _ _ _ _
    ·rw[f6 (by omega)];exact Eo _ _ _ _
  ·rw[f6 (by omega)];exact Eo _ _ _ _
 ·rw[d9 (by omega),f9,a7u,gJ];exact Eo _ _ _ _
theorem a9p(s:b6H)(z:s.length<=65536):Kn s.length 0 (IZ d5 s):=by
 rw[a3K,fN];by_cases c:(s.length:Int)=0
 ·rw[f6 c];exact Eo _ _ _ _
 ·have h0:0<s.length:=(by omega);rw[d9 c,f9,show f7 s 0=some s[0]from p9 (i:=0) h0,d6];cases decide ((s[0].toNat:Int)=34)with
  |false=>exact Eo _ _ _ _
  |true=>rw[B8,f9];exact(a7J s z _ 1 [] rfl (λx hx=>nomatch hx) (by simp)).mono (by omega)
def Da(n i:Nat)(r:b6z):Prop:=∃(t:s9) (k e:Int),r=some ((t,k,e,()),())/\(e=0->∃kn:Nat,k=(kn:Int)/\i<kn/\kn<=n/\t.Ds.length+i<=kn/\nl t.Ns=0)
theorem Xh(n i:Nat)(t:s9)(k e:Int)(z:e≠0):Da n i (some ((t,k,e,()),())):=⟨_,_,_,rfl,λh=>absurd h z⟩
theorem Mr(n i k:Nat)(t:s9)(C:i<k)(z:k<=n)(F:t.Ds.length+i<=k)(B:nl t.Ns=0:=by rfl):Da n i (some ((t,(k:Int),0,()),())):=⟨_,_,_,rfl,λ_=>⟨k,rfl,C,z,F,B⟩⟩
theorem AM(s:b6H)(H:s.length<=65536)(i b c d:Nat)(F:b<=c)(I:c<=s.length)(hd:i<d)(B:d<=s.length)(e f:Int):Da s.length i (nF d5 s (b:Int) (c:Int) (((d:Int),()),()) e f):=by
 have z:F1 (b:Int) (c:Int) (s.length:Int):=⟨by omega,by omega,by omega⟩;obtain⟨x,y,G,C⟩:=a1Q (B4 s (b:Int) (c:Int)) (by rw[(Ob s b c z).1];omega);rw[b6c,dR,Ak z,d6,G,d6];cases decide (y=0)with
 |false=>exact Xh _ _ _ _ _ (by decide)
 |true=>
  rw[B8,f9];cases decide (x>e)with
  |true=>exact Xh _ _ _ _ _ (by decide)
  |false=>exact Mr _ _ _ _ hd B (by simp;omega) C
theorem a73(s:b6H)(F:s.length<=65536)(i c d:Nat)(G:c<=s.length)(hd:i<d)(z:d<=s.length)(e f:Int):∀(m b:Nat),c-b=m->b<=c->Da s.length i (dH d5 s (b:Int) (c:Int) (((d:Int),()),()) e f):=by
 intro m
 induction m with
 |zero=>intro b H B;rw[ZZ,Vi,wrap64 (by omega) (by omega),d9 (by omega)];exact AM s F i b c d B G hd z e f
 |succ m ih=>
  intro b H B;rw[ZZ,Vi,wrap64 (n:=(c:Int)-1) (by omega) (by omega)];by_cases c1:(b:Int)<(c:Int)-1
  ·have C:b<s.length:=(by omega);rw[f6 c1,l6,p9 C,d6,B7 (by omega)];cases decide ((s[b].toNat:Int)=48)with
   |true=>exact ih (b+1) (by omega) (by omega)
   |false=>exact AM s F i b c d B G hd z e f
  ·rw[d9 c1];exact AM s F i b c d B G hd z e f
theorem a8b(s:b6H)(J:s.length<=65536)(i:Nat)(hi:i<s.length)(K:Jt d5 (s[i].toNat:Int)=some ((3,()),())):∀(m c:Nat),s.length-c=m->i<=c->c<=s.length->Da s.length i (mK d5 s (i:Int) (c:Int)):=by
 intro m;have G:∀c:Nat,i<c->c<=s.length->Da s.length i (nM d5 s (i:Int) (c:Int)):=by
  intro c C z;obtain⟨k,L,P,O,R⟩:=MX s J _ c rfl z;have H:∀e f:Int,Da s.length i (dT d5 s (i:Int) (c:Int) (((k:Int),()),()) e f):=by intro e f;rw[a8C,fD];exact a73 s J i c k z (by omega) O e f _ i rfl (by omega)
  have I:Da s.length i (tC d5 s (i:Int) (c:Int) (((k:Int),()),())):=by
   rw[b2u,rS];simp only;cases decide ((k:Int)=(c:Int))with
   |false=>exact Xh _ _ _ _ _ (by decide)
   |true=>exact H _ _
  rw[b0k,oD,ZP,Um,L,d6,B7 (by omega)];by_cases Q:k=c+1
  ·have B:c<s.length:=(by omega);rw[f6 (by simp only;omega),l6,p9 B,d6];cases decide ((s[c].toNat:Int)=105)with
   |true=>exact H _ _
   |false=>exact I
  ·rw[d9 (by simp only;omega)];exact I
 induction m with
 |zero=>intro c M C z;rw[SI,Xl,d9 (by omega)];exact G c (by omega) z
 |succ m ih=>
  intro c M C z;have N:c<s.length:=(by omega);obtain⟨q,F,_⟩:=BC (s[c].toNat:Int);rw[SI,Xl,f6 (by omega),l6,p9 N,d6,F,d6,B7 (by omega)];by_cases c3:q=3
  ·rw[f6 c3];exact ih (c+1) (by omega) (by omega) (by omega)
  ·rw[d9 c3];refine G c ?_ z;by_cases e:i=c
   ·subst e;rw[K]at F;cases F;exact absurd rfl c3
   ·omega
theorem a7K(a:b6H)(W:List (b6H))(B:W.length<=1000)(hd:W=([([114,101,99]:b6H),([102,110]:b6H),([118,97,114]:b6H),([105,102]:b6H),([101,108,115,101]:b6H),([119,104,105,108,101]:b6H),([114,101,116,117,114,110]:b6H),([112,114,105,110,116]:b6H),([116,114,117,101]:b6H),([102,97,108,115,101]:b6H),([110,105,108]:b6H),([109,97,107,101]:b6H),([105,110,116]:b6H),([98,111,111,108]:b6H),([115,116,114]:b6H),([99,111,109,112]:b6H)]:List (b6H))):∀(m i:Nat),W.length-i=m->∃b,mR d5 a (i:Int)=some ((b,()),()):=by
 intro m
 induction m with
 |zero=>intro i z;rw[MC,Wd,<-hd,d9 (by omega),a1n,jU];exact⟨_,rfl⟩
 |succ m ih=>
  intro i z;have hi:i<W.length:=(by omega);have e:=ih (i+1) (by omega);rw[MC,Wd,<-hd,f6 (by omega),l6,p9 hi,d6,F9,w9 hi,d6,B7 (by omega)];cases decide (W[i]=a)with
  |true=>exact⟨_,rfl⟩
  |false=>exact e
theorem b29(a:b6H):∃b,FF d5 a=some ((b,()),()):=by rw[b46,iC];exact a7K a _ (by decide) rfl _ 0 rfl
theorem b45(s:b6H)(C:s.length<=65536)(i:Nat)(hi:i<s.length)(G:b6H)(F:G.length<=1000)(hd:G=([43,45,42,47,37,60,62,33,61,40,41,123,125,91,93,44,59,58,46]:b6H)):∀(m c:Nat),G.length-c=m->Da s.length i (qX d5 s (i:Int) (c:Int)):=by
 intro m
 induction m with
 |zero=>intro c z;rw[LA,Ug,<-hd,d9 (by omega),b4p,nQ];exact Xh _ _ _ _ _ (by decide)
 |succ m ih=>
  intro c z;have B:c<G.length:=(by omega);have e:=ih (c+1) (by omega);rw[LA,Ug,<-hd,f6 (by omega),l6,p9 hi,d6,p9 B,d6,B7 (by omega)];cases decide ((s[i].toNat:Int)=(G[c].toNat:Int))with
  |false=>exact e
  |true=>rw[l6,Ak (show F1 (c:Int) ((c+1:Nat):Int) (G.length:Int)from⟨by omega,by omega,by omega⟩),d6,B7 (by omega)];have hl:=(Ob G (c:Int) ((c+1:Nat):Int) ⟨by omega,by omega,by omega⟩).1;exact Mr _ _ _ _ (by omega) (by omega) (by simp only;omega)
theorem a5H(s:b6H)(F:s.length<=65536)(i:Nat)(hi:i<s.length)(V:List (b6H))(hV:V.length<=1000)(z:∀v∈V,v.length<=2)(hd:V=([([38,38]:b6H),([124,124]:b6H),([61,61]:b6H),([33,61]:b6H),([60,61]:b6H),([62,61]:b6H)]:List (b6H))):∀(m c:Nat),V.length-c=m->Da s.length i (Vj d5 s (i:Int) (c:Int)):=by
 have G:w64 ((i:Int)+2)=((i+2:Nat):Int):=(by rw[wrap64 (by omega) (by omega)];omega);intro m
 induction m with
 |zero=>intro c C;rw[JR,Uy,<-hd,d9 (by omega),f9,a8Y,oA];exact b45 s F i hi _ (by decide) rfl _ 0 rfl
 |succ m ih=>
  intro c C;have B:c<V.length:=(by omega);have e:=ih (c+1) (by omega);rw[JR,Uy,<-hd,f6 (by omega),l6,G,B7 (i:=c) (by omega)];by_cases c2:((i+2:Nat):Int)<=(s.length:Int)
  ·rw[f6 c2,l6,Ak (show F1 (i:Int) ((i+2:Nat):Int) (s.length:Int)from⟨by omega,by omega,c2⟩),d6,p9 B,d6,F9,w9 B,d6];cases decide (B4 s (i:Int) ((i+2:Nat):Int)=V[c])with
   |false=>exact e
   |true=>rw[l6,d6,d6];have hl:=z _ (B0 B);exact Mr _ _ _ _ (by omega) (by omega) (by simp only;omega)
  ·rw[d9 c2];exact e
theorem LE(s:b6H)(I:s.length<=65536)(i:Nat)(hi:i<s.length):Da s.length i (bB d5 s (i:Int)):=by
 obtain⟨q,F,N,S⟩:=BC (s[i].toNat:Int);have L:0<q->Da s.length i (cJ d5 s (i:Int)):=by
  intro O;obtain⟨k,Q,V,J,P⟩:=MX s I _ i rfl (by omega);have B:=P hi q F O;have z:F1 (i:Int) (k:Int) (s.length:Int):=⟨by omega,by omega,by omega⟩;obtain⟨b,M⟩:=b29 (B4 s (i:Int) (k:Int));rw[b18,sU,ZP,Um,Q,d6,Ak z,d6,p9 hi,d6,F,d6];have C:=(Ob s (i:Int) (k:Int) z).1;cases decide (q=2)with
  |true=>exact Mr _ _ _ _ B J (by simp only;omega)
  |false=>
   rw[f9,M,d6];cases b with
   |true=>exact Mr _ _ _ _ B J (by simp only;omega)
   |false=>exact Mr _ _ _ _ B J (by simp only;omega)
 rw[a31,oS,p9 hi,d6,F,d6];by_cases c1:q=1
 ·rw[f6 c1];exact L (by omega)
 by_cases c2:q=2
 ·rw[d9 c1,f9,f6 c2];exact L (by omega)
 rw[d9 c1,f9,d9 c2,f9];by_cases c3:q=3
 ·rw[f6 c3,l6,a3c,eB];subst c3;obtain⟨t,k,e,H,G⟩:=a8b s I i hi F _ i rfl (l5 _) (by omega);rw[H];exact⟨t,k,e,rfl,G⟩
 rw[d9 c3,f9,d6];cases decide ((s[i].toNat:Int)=34)with
 |false=>exact a5H s I i hi _ (by decide) (by decide) rfl _ 0 rfl
 |true=>
  have z:F1 (i:Int) (s.length:Int) (s.length:Int):=⟨by omega,by omega,R4 _⟩;have C:=(Ob s (i:Int) (s.length:Int) z).1;obtain⟨U,k,ok,H,G⟩:=a9p (B4 s (i:Int) (s.length:Int)) (by rw[C];omega);rw[l6,Ak z,d6,H,d6];cases ok with
  |false=>exact Xh _ _ _ _ _ (by decide)
  |true=>obtain⟨K,rfl,Y,X,Z⟩:=G rfl;have R:w64 ((i:Int)+(K:Int))=((i+K:Nat):Int):=(by rw[wrap64 (by omega) (by omega)];omega);simp only[B8,f9,R];exact Mr _ _ _ _ (by omega) (by omega) (by simp only;omega)
def ts(l:List s9):Nat:=(l.map λt=>t.Ds.length).sum
theorem NY(l:List s9)(t:s9):ts (l++[t])=ts l+t.Ds.length:=by unfold ts;rw[I8,bE];simp
theorem a43(l:List s9):tl l l.length=ts l:=by unfold tl ts;rw[List.take_length]
def tln(L:List s9):Prop:=∀t∈L,pl t.Ls=0/\nl t.Ns=0
theorem RU{L:List s9}(h:tln L)(t:s9)(B:pl t.Ls=0/\nl t.Ns=0):tln (L++[t]):=λx hx=>by
 rcases A3.1 hx with z|z
 ·exact h x z
 ·rw[K4.1 z];exact B
theorem b4I(s:b6H)(Q:s.length<=65536):∀(m b c:Nat) (d e:Int) (l:List s9),s.length-b=m->b<=s.length->c<=b->l.length<=b->ts l<=b->0<=d->d<=c+1->tln l->∃L f,vS d5 s (b:Int) (c:Int) d e l=some ((L,f,()),())/\(f.Code=0->Tk L/\0<L.length/\tln L)/\L.length<=s.length+1/\ts L<=s.length:=by
 intro m
 induction m using Nat.strongRecOn with
 |_ m ih=>
 intro b c d e l hm hb R hl U z K F;have B:F1 (c:Int) (s.length:Int) (s.length:Int):=⟨by omega,by omega,R4 _⟩;have G:=(Ob s (c:Int) (s.length:Int) B).1;have S:w64 ((b:Int)-(c:Int))=((b-c:Nat):Int):=(by rw[wrap64 (by omega) (by omega)];omega);obtain⟨x,y,Z,x0,x1⟩:=a3A (B4 s (c:Int) (s.length:Int)) (b-c) (by rw[G];omega) (by rw[G];omega) _ 0 1 1 rfl (by omega) (by omega) (by omega);have M:∀d e:Int,0<=d->d<=b+1->∃L f,kZ d5 s (b:Int) d e l=some ((L,f,()),())/\(f.Code=0->Tk L/\0<L.length/\tln L)/\L.length<=s.length+1/\ts L<=s.length:=by
  intro d e z K;have C:pl d=0:=if_pos ⟨z,by omega⟩;rw[a1w,dB];by_cases P:(b:Int)>=(s.length:Int)
  ·have J:l.length+ [(s9.mk 8 d e 0 ([]:b6H))].length<=100000000:=(by rw[C2];omega);rw[f6 P,l6,N5 (by decide) J];refine⟨_,_,rfl,λ_=>⟨⟨λi t hi hi2=>?_,?_⟩,?_,RU F _ ⟨C,rfl⟩⟩,?_,by rw[NY];simp;omega⟩
   ·rw[t8,C2]at hi2;have:i=l.length:=(by omega);subst this;rw[Fb (l5 _),Nat.sub_self]at hi;cases hi;rfl
   all_goals rw[t8,C2];omega
  ·have I:b<s.length:=(by omega);obtain⟨t,k,er,Y,V⟩:=LE s Q b I;rw[d9 P,f9,Y,d6];by_cases H:er=0
   ·obtain⟨X,rfl,k1,k2,k3,k4⟩:=V H;have J:l.length+ [(s9.mk t.Ks d e t.Ns t.Ds)].length<=100000000:=(by rw[C2];omega);obtain⟨j,g1,g2,g3⟩:=NC s Q _ X false rfl k2;rw[f6 H,B8,f9,N5 (by decide) J,d6,PR,Qb0];simp only;rw[g1,d6];exact ih _ (by omega) j b d e _ rfl g3 (by omega) (by rw[t8,C2];omega) (by rw[NY];simp only;omega) z (by omega) (RU F _ ⟨C,k4⟩)
   ·rw[d9 H];exact⟨_,_,rfl,λh=>absurd h H,by simp,by unfold ts;simp⟩
 rw[a8W,iD,Ak B,d6,S,a8n,Qb5,show Sx d5 (B4 s (c:Int) (s.length:Int)) ((b-c:Nat):Int) 1 1 0=_ from Z,d6];have N:w64 (d+w64 (x-1))=d+x-1:=(by rw[wrap64 (n:=x-1) (by omega) (by omega),wrap64 (by omega) (by omega)];omega);by_cases O:x>1
 ·rw[f6 O];exact M _ _ (by show 0<=w64 (d+w64 (x-1));rw[N];omega) (by show w64 (d+w64 (x-1))<=_;rw[N];omega)
 ·rw[d9 O];exact M _ _ z (by omega)
theorem a44(s:b6H):∃L f,vP d5 s=some ((L,f,()),())/\(f.Code=0->Tk L/\0<L.length/\tln L)/\L.length<=s.length+1/\ts L<=s.length:=by
 rw[a7b,uB];by_cases c:(s.length:Int)>65536
 ·rw[f6 c];exact⟨_,_,rfl,λh=>absurd h (by decide),by simp,by unfold ts;simp⟩
 ·have z:s.length<=65536:=(by omega);obtain⟨k,B,G,F⟩:=NC s z _ 0 false rfl (D2 _);rw[d9 c,f9,PR,Qb0,show Fc d5 s 0 false=_ from B,d6];exact b4I s z _ k 0 1 1 [] rfl F (D2 _) (D2 _) (by unfold ts;simp) (by omega) (by omega) (λt C=>nomatch C)
theorem b6i(s:b6H):∃x f,qJ d5 s=some ((x,f,()),())/\x.length<=10*s.length+31/\E7 x<=s.length:=by obtain⟨L,f,C,B,J,I⟩:=a44 s;obtain⟨x,F,z,H,G⟩:=b3X C B;rw[a43]at G;exact⟨x,F,z,by omega,by omega⟩
theorem Yq{x:List d7}{n:d7}(h:n∈x):n.Ds.length+(pl n.Ls+nl n.Ns)<=E7 x:=by
 induction x with
 |nil=>exact nomatch h
 |cons a l ih=>
  rw[yZ];rcases D0.1 h with rfl|h
  ·omega
  ·have:=ih h;omega
theorem a8g{z:Int}(h:nl z<=1000000): -9223372036854775808<=z/\z<=9223372036854775807:=by
 unfold nl at h;by_cases c: -9223372036854775808<=z/\z<=9223372036854775807
 ·exact c
 ·rw[if_neg c]at h;omega
theorem b1D{z:Int}(h:pl z<=1000000):0<=z/\z<=100000:=by
 unfold pl at h;by_cases c:0<=z/\z<=100000
 ·exact c
 ·rw[if_neg c]at h;omega
end
section
inductive WFo(l:List d7):Nat->Nat->Prop
 |nil(i:Nat):WFo l i i
 |cons(i k j:Nat)(x:d7)(hx:l[i]? =some x)(hs:x.Cs=(k:Int)-(i+1))(hk:i+1<=k)(kids:WFo l (i+1) k)(rest:WFo l k j):WFo l i j
theorem WFo.le{l:List d7}{i j:Nat}(h:WFo l i j):i<=j:=by
 induction h with
 |nil=>exact l5 _
 |cons i k j x hx hs hk _ _ _ ih=>omega
theorem WFo.inside{l:List d7}{i j:Nat}(h:WFo l i j):∀p,i<=p->p<j->∃(x:d7) (k:Nat),l[p]? =some x/\x.Cs=(k:Int)-(p+1)/\p+1<=k/\WFo l (p+1) k/\k<=j:=by
 induction h with
 |nil=>intro p F B;omega
 |cons i k j x hx hs hk kids rest ih1 ih2=>
  intro p F B;have z:=rest.le;by_cases e:p=i
  ·subst e;exact⟨x,k,hx,hs,hk,kids,z⟩
  ·by_cases G:p<k
   ·obtain⟨y,q,I,C,J,H,K⟩:=ih1 p (by omega) G;exact⟨y,q,I,C,J,H,by omega⟩
   ·exact ih2 p (by omega) B
inductive Kc(l:List d7):Nat->Nat->List Nat->Prop
 |nil(i:Nat):Kc l i i []
 |cons(i k j:Nat)(x:d7)(ks:List Nat)(hx:l[i]? =some x)(hs:x.Cs=(k:Int)-(i+1))(hk:i+1<=k)(kids:WFo l (i+1) k)(rest:Kc l k j ks):Kc l i j (i::ks)
theorem WFo.kc{l:List d7}{i j:Nat}(h:WFo l i j):∃ks,Kc l i j ks:=by
 induction h with
 |nil i=>exact⟨[],.nil i⟩
 |cons i k j x hx hs hk kids rest ih1 ih2=>obtain⟨ks,h⟩:=ih2;exact⟨i::ks,.cons i k j x ks hx hs hk kids h⟩
theorem Kc.le{l:List d7}{i j:Nat}{ks:List Nat}(h:Kc l i j ks):i+ks.length<=j:=by
 induction h with
 |nil=>simp
 |cons i k j x ks hx hs hk _ _ ih=>rw[F8];omega
theorem Kc.mem{l:List d7}{i j:Nat}{ks:List Nat}(h:Kc l i j ks):∀p∈ks,i<=p/\p<j/\∃(x:d7) (k:Nat),l[p]? =some x/\x.Cs=(k:Int)-(p+1)/\p+1<=k/\k<=j/\WFo l (p+1) k:=by
 induction h with
 |nil=>intro p z;exact absurd z (List.not_mem_nil)
 |cons i k j x ks hx hs hk kids rest ih=>
  have:=rest.le;intro p z;rcases D0.1 z with rfl|z
  ·exact⟨l5 _,by omega,x,k,hx,hs,hk,by omega,kids⟩
  ·obtain⟨F,B,C⟩:=ih p z;exact⟨by omega,B,C⟩
section
variable{l:List d7}(hl:l.length<=100000000)
include hl
theorem b02{a:Nat}{x:d7}{st:Nat}(O:x.Cs=(st:Int)-(a+1))(F:st<=l.length)(S:a<l.length):∀(n k:Nat),l.length-k=n->a<k->k<=l.length->(∀k:Nat,a<k->k<=l.length->∃r:Int,Rz d5 l (k:Int)=some ((r,()),())/\(r= -1\/∃(y:d7) (q:Nat),l[k]? =some y/\y.Cs=(q:Int)-(k+1)/\k+1<=q/\q<=l.length/\r=(q:Int)/\WFo l (k+1) q))->∃r:Int,pN d5 l (a:Int) x (k:Int)=some ((r,()),())/\(r= -1\/r=(st:Int)/\WFo l k st):=by
 have w1:w64 (w64 ((a:Int)+1)+x.Cs)=(st:Int):=(by rw[O,wrap64 (n:=(a:Int)+1) (by omega) (by omega),wrap64 (by omega) (by omega)];omega);intro n
 induction n using Nat.strongRecOn with
 |_ n ih=>
 intro k R z G B;rw[LB,Ye,f6 (by omega),l6,w1];by_cases c:(k:Int)<(st:Int)
 ·rw[f6 c,l6];obtain⟨r,M,H⟩:=B k z G;rw[M,d6];rcases H with rfl|⟨y,q,K,Q,L,N,rfl,I⟩
  ·refine⟨-1,?_,.inl rfl⟩;simp only;rw[LB,Ye,d9 (by omega),f9,NU,Wf,w1,d9 (by omega)];rfl
  ·obtain⟨r,C,P⟩:=ih _ (by omega) q rfl (by omega) N B;simp only;refine⟨r,C,?_⟩;rcases P with rfl|⟨rfl,J⟩
   ·exact .inl rfl
   ·exact .inr ⟨rfl,.cons k q st y K Q L I J⟩
 ·rw[d9 c,f9,NU,Wf,w1];by_cases e:(k:Int)=(st:Int)
  ·rw[f6 e];have:k=st:=(by omega);subst this;exact⟨_,rfl,.inr ⟨rfl,.nil _⟩⟩
  ·rw[d9 e];exact⟨_,rfl,.inl rfl⟩
theorem a3k:∀(n a:Nat),l.length-a=n->a<=l.length->∃r:Int,Rz d5 l (a:Int)=some ((r,()),())/\(r= -1\/∃(y:d7) (q:Nat),l[a]? =some y/\y.Cs=(q:Int)-(a+1)/\a+1<=q/\q<=l.length/\r=(q:Int)/\WFo l (a+1) q):=by
 intro n
 induction n using Nat.strongRecOn with
 |_ n ih=>
 intro a K L;rw[a6F,fY];by_cases c:(a:Int)>=(l.length:Int)
 ·rw[f6 c];exact⟨_,rfl,.inl rfl⟩
 have z:a<l.length:=(by omega);have C:w64 (w64 ((l.length:Int)-1)-(a:Int))=(l.length:Int)-1-a:=(by rw[wrap64 (n:=(l.length:Int)-1) (by omega) (by omega),wrap64 (by omega) (by omega)]);have I:w64 ((a:Int)+1)=((a+1:Nat):Int):=(by rw[wrap64 (by omega) (by omega)];omega);rw[d9 c,f9,p9 z,d6];by_cases c1:l[a].Cs<0
 ·rw[f6 c1];exact⟨_,rfl,.inl rfl⟩
 rw[d9 c1,f9,d6,C];by_cases c2:l[a].Cs>(l.length:Int)-1-a
 ·rw[f6 c2];exact⟨_,rfl,.inl rfl⟩
 rw[d9 c2,f9,d6,I];have B:l[a].Cs=((a+1+l[a].Cs.toNat:Nat):Int)-(a+1):=(by omega);obtain⟨r,H,G⟩:=b02 hl B (by omega) z _ (a+1) rfl (by omega) (by omega) (λk J F=>ih _ (by omega) k rfl F);refine⟨r,H,?_⟩;rcases G with h|⟨h,w⟩
 ·exact .inl h
 ·exact .inr ⟨l[a],_,w9 z,B,by omega,by omega,h,w⟩
theorem RX:∃b,iV d5 l=some ((b,()),())/\(b=true->∃x,l[0]? =some x/\x.Cs=(l.length:Int)-1/\1<=l.length/\WFo l 1 l.length):=by
 rw[a7C,nH];by_cases c:(l.length:Int)>0
 ·obtain⟨r,B,z⟩:=a3k hl _ 0 rfl (D2 _);rw[f6 c,l6,show Rz d5 l 0=_ from B];refine⟨_,rfl,λh=>?_⟩;have h:=F3 h;simp only at h;rcases z with H|⟨y,q,F,J,I,G,K,C⟩
  ·omega
  ·have:q=l.length:=(by omega);subst this;exact⟨y,F,by omega,by omega,C⟩
 ·rw[d9 c];exact⟨_,rfl,λh=>nomatch h⟩
theorem a2x{b:Nat}{x:d7}{st:Nat}(hx:l[b]? =some x)(H:x.Cs=(st:Int)-(b+1))(C:st<=l.length){c:Nat}{ks:List Nat}(h:Kc l c st ks):∀d:List Int,d.length+ks.length<=l.length->jD d5 l (b:Int) (c:Int) d=some ((d++ks.map (λ(k:Nat)=>(k:Int)),()),()):=by
 have z:b<l.length:=(o9.1 hx).1;have B:l[b]=x:=(o9.1 hx).2;have w1:w64 (w64 ((b:Int)+1)+x.Cs)=(st:Int):=by rw[H,wrap64 (n:=(b:Int)+1) (by omega) (by omega),wrap64 (by omega) (by omega)];omega
 induction h with
 |nil c=>intro d hd;rw[a0t,Xb,p9 z,d6,B,w1,d9 (by omega),f9,b3Q,mI,List.map_nil,T4]
 |cons c k j y ks hy hys hk kids rest ih=>intro d hd;have J:=rest.le;have F:c<l.length:=(by omega);have G:l[c]=y:=(o9.1 hy).2;have K:w64 (w64 ((c:Int)+1)+y.Cs)=(k:Int):=(by rw[hys,wrap64 (n:=(c:Int)+1) (by omega) (by omega),wrap64 (by omega) (by omega)];omega);rw[F8]at hd;have I:d.length+ [(c:Int)].length<=100000000:=(by rw[C2];omega);have:=ih H C w1 (d++[(c:Int)]) (by rw[t8,C2];omega);rw[a0t,Xb,p9 z,d6,B,w1,f6 (by omega),l6,N5 (by decide) I,d6,p9 F,d6,G,K,this,List.map_cons,G5];rfl
theorem Z0{b:Nat}{x:d7}{st:Nat}(hx:l[b]? =some x)(C:x.Cs=(st:Int)-(b+1))(z:st<=l.length){ks:List Nat}(h:Kc l (b+1) st ks):Ai d5 l (b:Int)=some ((ks.map (λ(k:Nat)=>(k:Int)),()),()):=by have:=h.le;have B:w64 ((b:Int)+1)=((b+1:Nat):Int):=(by rw[wrap64 (by omega) (by omega)];omega);rw[a7y,kY,B,a2x hl hx C z h [] (by rw[K8];omega),U7]
end
end
section
def sk0(k:Int):Int:=if k=6 then 98 else if k=5 then 112 else if k=3 then 102 else if k=2 then 100 else if k=4 then 100 else 45
def sk1(k:Int):Int:=if 7<=k/\k<=13 then 115 else sk0 k
def sk2(k:Int):Int:=if 21<=k/\k<=32 then 101 else sk1 k
def I3(k:Int):Int:=if k=14 then 48 else if 15<=k/\k<=20 then 116 else sk2 k
theorem AN{α:Type}(k a b:Int)(x y:α):cond (decide (k>=a)) (cond (decide (k<=b)) x y) y=if a<=k/\k<=b then x else y:=by
 by_cases c:k>=a
 ·rw[f6 c,l6];by_cases d:k<=b
  ·rw[f6 d,if_pos ⟨c,d⟩];rfl
  ·rw[d9 d,if_neg (λh=>d h.2)];rfl
 ·rw[d9 c,if_neg (λh=>c h.1)];rfl
theorem a6L(x:d7):FK d5 x=some ((I3 x.Ks,()),()):=by
 generalize z:x.Ks=k;have C:qW d5 x=some ((sk0 k,()),()):=by
  unfold sk0;rw[b0J,oC,b0n,sE,z];simp only[Bool.cond_eq_ite,decide_eq_true_eq]
  repeat' split
  all_goals first|rfl|contradiction
 have B:uM d5 x=some ((sk1 k,()),()):=by unfold sk1;rw[a7a,gI,z,C,AN];split<;>rfl
 have F:nX d5 x=some ((sk2 k,()),()):=by unfold sk2;rw[b0Z,nU,z,B,AN];split<;>rfl
 unfold I3;rw[a7c,fC,z,F,AN];by_cases c:k=14
 ·rw[f6 c,if_pos c];rfl
 ·rw[d9 c,if_neg c,f9];split<;>rfl
theorem b1d(k:Int):0<=I3 k/\I3 k<256:=by
 unfold I3 sk2 sk1 sk0
 repeat' split
 all_goals omega
theorem SP:∀{a b:List Int},(∀x∈a,0<=x/\x<256)->(∀x∈b,0<=x/\x<256)->A1 a=A1 b->a=b
 | [],[],_,_,_=>rfl
 | [],_::_,_,_,h=>by cases h
 |_::_,[],_,_,h=>by cases h
 |x::a,y::b,ha,hb,h=>by
  unfold A1 at h;rw[List.map_cons,List.map_cons]at h;injection h with h1 h2
  have hx:=ha x I2;have C:=hb y I2;have e:x=y:=by have:=congrArg UInt8.toNat h1;rw[UInt8.toNat_ofNat',UInt8.toNat_ofNat']at this;omega
  rw[e,SP (λz B=>ha z (J1 _ B)) (λz B=>hb z (J1 _ B)) h2]
theorem DE{x:Int}(h:0<=x/\x<256):((UInt8.ofNat x.toNat).toNat:Int)=x:=by rw[UInt8.toNat_ofNat'];omega
theorem a27(S:List Int)(K:∀x∈S,0<=x/\x<256)(hl:S.length<=100000000)(c:Int):∀(n i:Nat),S.length-i=n->∃b,dF d5 (A1 S) c (i:Int)=some ((b,()),())/\(b=true->∀s∈S.drop i,s=c):=by
 have z:(A1 S).length=S.length:=(by unfold A1;rw[F5]);intro n
 induction n with
 |zero=>intro i I;rw[KY,Yr,z,d9 (by omega),f9,a4I,iR,R3 (by omega)];exact⟨_,rfl,λ_ s B=>nomatch B⟩
 |succ n ih=>
  intro i I;have hi:i<S.length:=(by omega);have hi2:i<(A1 S).length:=(by omega);have J:w64 ((i:Int)+1)=((i+1:Nat):Int):=(by rw[wrap64 (by omega) (by omega)];omega);have H:((A1 S)[i].toNat:Int)=S[i]:=by have:(A1 S)[i]=UInt8.ofNat S[i].toNat:=(by simp only[A1,List.getElem_map]);rw[this];exact DE (K _ (B0 hi))
  obtain⟨b,G,C⟩:=ih (i+1) (by omega);rw[KY,Yr,z,f6 (by omega),l6,p9 hi2,d6,J,H,P0 hi];by_cases h:S[i]=c
  ·rw[f6 h,B8,f9];refine⟨b,G,λF s B=>?_⟩;rcases D0.1 B with rfl|B
   ·exact h
   ·exact C F s B
  ·rw[d9 h];exact⟨_,rfl,λh=>nomatch h⟩
theorem YB(S:List Int)(z:∀x∈S,0<=x/\x<256)(hl:S.length<=100000000)(c:Int):∃b,Ow d5 (A1 S) c=some ((b,()),())/\(b=true->∀s∈S,s=c):=by rw[b0V,eR];exact a27 S z hl c _ 0 rfl
structure Fam(k num:Int)(i:Nat)(S:List Int)(fk:Int):Prop where
 k1:k=1->i=0/\∀s∈S,s=100
 k2:k=2->∀s∈S,s=102
 k3:k=3\/k=5\/k=20->S=[116]
 k4:k=4->∃(P:List Int) (t:Int),S=P++[t,98]/\num=P.length/\(∀s∈P,s=112)/\(t=116\/t=48)
 k6:k=6->∀s∈S,s=115
 k7:k=7->S=[116,101]
 k8:k=8->S=[101,101]/\(fk=26\/fk=28\/fk=29)
 k9:k=9->S=[101,98]\/S=[101,98,98]
 k10:k=10->S=[101,98]
 k11:k=11->S=[]\/S=[101]
 k12:k=12\/k=29\/k=30->S=[101]
 k13:k=13->S=[101]/\fk=27
 k27:k=27->∀s∈S,s=101
 k28:k=28\/k=31->S=[101,101]
 k32:k=32->S=[116]/\fk=19\/S=[116,101]/\fk=20
 kr:(k<1\/(14<=k/\k<=19)\/(21<=k/\k<=26)\/33<=k)->S=[]/\14<=k/\k<=26
theorem a3h{S:List Int}(B:∀x∈S,0<=x/\x<256)(T:List Int)(hT:∀x∈T,0<=x/\x<256){t:b6H}(z:t=A1 T):decide (A1 S=t)=decide (S=T):=by
 by_cases h:S=T
 ·subst h;rw[z,f6 rfl,f6 rfl]
 ·rw[d9 h,d9 (λe=>h (SP B hT (by rw[e,z])))]
def kd(l:List d7)(i:Nat):Int:=match l[i]? with|some x=>x.Ks|none=>0
theorem x4{l:List d7}{i:Nat}{x:d7}(h:l[i]? =some x):kd l i=x.Ks:=by unfold kd;rw[h]
def fkd(l:List d7):List Nat->Int
 | []=>0
 |k::_=>kd l k
def G8(l:List d7)(ks:List Nat):List Int:=ks.map λk=>I3 (kd l k)
theorem GQ(l:List d7)(ks:List Nat):∀x∈G8 l ks,0<=x/\x<256:=by intro x hx;obtain⟨k,_,rfl⟩:=List.mem_map.1 hx;exact b1d _
theorem OL{l:List d7}{i:Nat}{x:d7}(hx:l[i]? =some x)(hl:l.length<=100000000){S:List Int}(hS:∀y∈S,0<=y/\y<256)(hSl:S.length<=100000000)(d:d7)(G:Int)(hd:S=[]\/d.Ks=G):∃b,eO d5 l (i:Int) S d=some ((b,()),())/\(b=true->Fam x.Ks x.Ns i S G):=by
 have ao:i<l.length:=(o9.1 hx).1;have aj:l[i]=x:=(o9.1 hx).2;have o:=YB S hS hSl;have bl:(A1 S).length=S.length:=(by unfold A1;rw[F5]);have R:∀(T:List Int) (t:b6H),t=A1 T->(∀y∈T,0<=y/\y<256)->decide (A1 S=t)=decide (S=T):=λT t e h=>a3h hS T h e;have ai:=R [116] [116] rfl (by decide);have Q:=R [116,101] [116,101] rfl (by decide);have an:=R [101,101] [101,101] rfl (by decide);have al:=R [101,98] [101,98] rfl (by decide);have ag:=R [101,98,98] [101,98,98] rfl (by decide);have re:=R [101] [101] rfl (by decide);have rn:=R [] [] rfl (by decide);rw[a7H,oY,p9 ao,d6,aj,ai,Q,an,al,ag,re,rn];by_cases h1:x.Ks=1
 ·rw[f6 h1,l6];by_cases af:(i:Int)=0
  ·obtain⟨b,M,L⟩:=o 100;rw[f6 af,l6,M];exact⟨b,rfl,λB=>by constructor<;>intro h<;>first|(exfalso;omega)|exact⟨by omega,L B⟩⟩
  ·rw[d9 af];exact⟨_,rfl,λh=>nomatch h⟩
 by_cases h2:x.Ks=2
 ·obtain⟨b,M,L⟩:=o 102;rw[d9 h1,f9,f6 h2,l6,M];exact⟨b,rfl,λB=>by constructor<;>intro h<;>first|(exfalso;omega)|exact L B⟩
 rw[d9 h1,f9,d9 h2,f9];have c3:∀{r:Option RT0},x.Ks=3\/x.Ks=5\/x.Ks=20->r=some (((decide (S=[116])),()),())->∃b,r=some ((b,()),())/\(b=true->Fam x.Ks x.Ns i S G):=by
  intro r hk I;refine⟨_,I,λB=>?_⟩;have z:=F3 B
  constructor<;>intro h<;>first|(exfalso;omega)|exact z
 by_cases Z:x.Ks=3
 ·rw[f6 Z];exact c3 (.inl Z) rfl
 by_cases h5:x.Ks=5
 ·rw[d9 Z,f9,f6 h5];exact c3 (.inr (.inl h5)) rfl
 by_cases N:x.Ks=20
 ·rw[d9 Z,f9,d9 h5,f9,f6 N];exact c3 (.inr (.inr N)) rfl
 rw[d9 Z,f9,d9 h5,f9,d9 N,f9];by_cases h4:x.Ks=4
 ·rw[f6 h4,l6,bl];by_cases c2:(S.length:Int)>=2
  ·have e2:w64 ((S.length:Int)-2)=((S.length-2:Nat):Int):=(by rw[wrap64 (by omega) (by omega)];omega);have e1:w64 ((S.length:Int)-1)=((S.length-1:Nat):Int):=(by rw[wrap64 (by omega) (by omega)];omega);rw[f6 c2,l6,d6,e2,e1];by_cases cn:((S.length-2:Nat):Int)=x.Ns
   ·have ad:F1 (0:Int) ((S.length-2:Nat):Int) (S.length:Int):=⟨by omega,by omega,by omega⟩;have ap:B4 (A1 S) (0:Int) ((S.length-2:Nat):Int)=A1 (S.take (S.length-2)):=by unfold B4 A1;rw[List.map_take];simp
    have hT:∀y∈S.take (S.length-2),0<=y/\y<256:=λy hy=>hS y (List.mem_of_mem_take hy);obtain⟨b,M,L⟩:=YB (S.take (S.length-2)) hT (by rw[List.length_take];omega) 112;have i1:S.length-2<S.length:=(by omega);have i2:S.length-1<S.length:=(by omega);have v1:f7 (A1 S) ((S.length-2:Nat):Int)=some (UInt8.ofNat (S[S.length-2]).toNat):=by rw[p9 (by rw[bl];exact i1)];simp[A1]
    have v2:f7 (A1 S) ((S.length-1:Nat):Int)=some (UInt8.ofNat (S[S.length-1]).toNat):=by rw[p9 (by rw[bl];exact i2)];simp[A1]
    have u1:=DE (hS _ (B0 i1));have u2:=DE (hS _ (B0 i2));have ae:S=S.take (S.length-2)++[S[S.length-2],S[S.length-1]]:=by
     conv=>lhs;rw[<-List.take_append_drop (S.length-2) S]
     congr 1;rw[P0 i1];congr 1;have:S.length-2+1=S.length-1:=(by omega);rw[this,P0 i2];congr 1;exact R3 (by omega)
    have F:∀{r:Option RT0} (t:Int),S[S.length-2]=t->(t=116\/t=48)->b=true->r=some (((decide (S[S.length-1]=98)),()),())->∃b,r=some ((b,()),())/\(b=true->Fam x.Ks x.Ns i S G):=by
     intro r t ht am B I;refine⟨_,I,λak=>?_⟩;have k2:=F3 ak;have z:∃(P:List Int) (t:Int),S=P++[t,98]/\x.Ns=P.length/\(∀s∈P,s=112)/\(t=116\/t=48):=by refine⟨S.take (S.length-2),t,?_,by rw[List.length_take];omega,L B,am⟩;rw[k2,ht]at ae;exact ae
     constructor<;>intro h<;>first|(exfalso;omega)|exact z
    rw[f6 cn,l6,Ak ad,d6,ap,M,d6];cases b with
    |false=>exact⟨_,rfl,λh=>nomatch h⟩
    |true=>
     rw[l6,v1,d6,u1,v2,d6,d6,u2];by_cases z1:S[S.length-2]=116
     ·rw[f6 z1];exact F 116 z1 (.inl rfl) rfl rfl
     ·rw[d9 z1,f9,u1];by_cases z2:S[S.length-2]=48
      ·rw[f6 z2];exact F 48 z2 (.inr rfl) rfl rfl
      ·rw[d9 z2];exact⟨_,rfl,λh=>nomatch h⟩
   ·rw[d9 cn];exact⟨_,rfl,λh=>nomatch h⟩
  ·rw[d9 c2];exact⟨_,rfl,λh=>nomatch h⟩
 rw[d9 h4,f9];by_cases h6:x.Ks=6
 ·obtain⟨b,M,L⟩:=o 115;rw[f6 h6,l6,M];exact⟨b,rfl,λB=>by constructor<;>intro h<;>first|(exfalso;omega)|exact L B⟩
 rw[d9 h6,f9];by_cases h7:x.Ks=7
 ·rw[f6 h7,l6];exact⟨_,rfl,λB=>by have z:=F3 B;constructor<;>intro h<;>first|(exfalso;omega)|exact z⟩
 rw[d9 h7,f9];by_cases h8:x.Ks=8
 ·rw[f6 h8,l6];by_cases C:S=[101,101]
  ·rw[f6 C,l6];have O:d.Ks=G:=by
                 rcases hd with h|h
                 ·rw[C]at h;cases h
                 ·exact h
   have F:∀{r:Option RT0} {b:Bool},r=some ((b,()),())->(b=true->G=26\/G=28\/G=29)->∃b,r=some ((b,()),())/\(b=true->Fam x.Ks x.Ns i S G):=by
    intro r b I B;refine⟨b,I,λh=>?_⟩;have z:=B h
    constructor<;>intro h<;>first|(exfalso;omega)|exact⟨C,z⟩
   by_cases d1:d.Ks=26
   ·rw[f6 d1];exact F rfl (λ_=>by omega)
   ·rw[d9 d1,f9];by_cases d2:d.Ks=28
    ·rw[f6 d2];exact F rfl (λ_=>by omega)
    ·rw[d9 d2,f9];exact F rfl (λh=>by have:=F3 h;omega)
  ·rw[d9 C];exact⟨_,rfl,λh=>nomatch h⟩
 rw[d9 h8,f9];by_cases h9:x.Ks=9
 ·rw[f6 h9,l6];by_cases C:S=[101,98]
  ·rw[f6 C];exact⟨_,rfl,λB=>by constructor<;>intro h<;>first|(exfalso;omega)|exact .inl C⟩
  ·rw[d9 C];exact⟨_,rfl,λB=>by have z:=F3 B;constructor<;>intro h<;>first|(exfalso;omega)|exact .inr z⟩
 rw[d9 h9,f9];by_cases ab:x.Ks=10
 ·rw[f6 ab,l6];exact⟨_,rfl,λB=>by have z:=F3 B;constructor<;>intro h<;>first|(exfalso;omega)|exact z⟩
 rw[d9 ab,f9];by_cases ah:x.Ks=11
 ·rw[f6 ah,l6];by_cases C:S=[]
  ·rw[f6 C];exact⟨_,rfl,λB=>by constructor<;>intro h<;>first|(exfalso;omega)|exact .inl C⟩
  ·rw[d9 C];exact⟨_,rfl,λB=>by have z:=F3 B;constructor<;>intro h<;>first|(exfalso;omega)|exact .inr z⟩
 rw[d9 ah,f9];have c12:∀{r:Option RT0},x.Ks=12\/x.Ks=29\/x.Ks=30->r=some (((decide (S=[101])),()),())->∃b,r=some ((b,()),())/\(b=true->Fam x.Ks x.Ns i S G):=by
  intro r hk I;refine⟨_,I,λB=>?_⟩;have z:=F3 B
  constructor<;>intro h<;>first|(exfalso;omega)|exact z
 by_cases H:x.Ks=12
 ·rw[f6 H];exact c12 (.inl H) rfl
 by_cases J:x.Ks=29
 ·rw[d9 H,f9,f6 J];exact c12 (.inr (.inl J)) rfl
 by_cases U:x.Ks=30
 ·rw[d9 H,f9,d9 J,f9,f6 U];exact c12 (.inr (.inr U)) rfl
 rw[d9 H,f9,d9 J,f9,d9 U,f9];by_cases X:x.Ks=13
 ·rw[f6 X,l6];by_cases C:S=[101]
  ·have O:d.Ks=G:=by
                 rcases hd with h|h
                 ·rw[C]at h;cases h
                 ·exact h
   rw[f6 C];exact⟨_,rfl,λB=>by have z:=F3 B;constructor<;>intro h<;>first|(exfalso;omega)|exact⟨C,by omega⟩⟩
  ·rw[d9 C];exact⟨_,rfl,λh=>nomatch h⟩
 rw[d9 X,f9];by_cases Y:x.Ks=27
 ·obtain⟨b,M,L⟩:=o 101;rw[f6 Y,l6,M];exact⟨b,rfl,λB=>by constructor<;>intro h<;>first|(exfalso;omega)|exact L B⟩
 rw[d9 Y,f9];have c28:∀{r:Option RT0},x.Ks=28\/x.Ks=31->r=some (((decide (S=[101,101])),()),())->∃b,r=some ((b,()),())/\(b=true->Fam x.Ks x.Ns i S G):=by
  intro r hk I;refine⟨_,I,λB=>?_⟩;have z:=F3 B
  constructor<;>intro h<;>first|(exfalso;omega)|exact z
 by_cases K:x.Ks=28
 ·rw[f6 K];exact c28 (.inl K) rfl
 by_cases V:x.Ks=31
 ·rw[d9 K,f9,f6 V];exact c28 (.inr V) rfl
 rw[d9 K,f9,d9 V,f9];by_cases ac:x.Ks=32
 ·rw[f6 ac,l6];have F:∀{r:Option RT0} {b:Bool},r=some ((b,()),())->(b=true->S=[116]/\G=19\/S=[116,101]/\G=20)->∃b,r=some ((b,()),())/\(b=true->Fam x.Ks x.Ns i S G):=by
   intro r b I B;refine⟨b,I,λh=>?_⟩;have z:=B h
   constructor<;>intro h<;>first|(exfalso;omega)|exact z
  have aa:∃b,(cond (decide (S=[116,101])) (some (((decide (d.Ks=20)),()),())) (some ((false,()),())):Option RT0)=some ((b,()),())/\(b=true->Fam x.Ks x.Ns i S G):=by
   by_cases C:S=[116,101]
   ·have O:d.Ks=G:=by
                  rcases hd with h|h
                  ·rw[C]at h;cases h
                  ·exact h
    rw[f6 C];exact F rfl (λh=>.inr ⟨C,by have:=F3 h;omega⟩)
   ·rw[d9 C];exact⟨_,rfl,λh=>nomatch h⟩
  by_cases C:S=[116]
  ·have O:d.Ks=G:=by
                 rcases hd with h|h
                 ·rw[C]at h;cases h
                 ·exact h
   rw[f6 C,l6];by_cases d1:d.Ks=19
   ·rw[f6 d1];exact F rfl (λ_=>.inl ⟨C,by omega⟩)
   ·rw[d9 d1];exact aa
  ·rw[d9 C];exact aa
 rw[d9 ac,f9];by_cases C:S=[]
 ·rw[f6 C,l6,d6,d6];by_cases c14:x.Ks>=14
  ·rw[f6 c14];exact⟨_,rfl,λB=>by have z:=F3 B;constructor<;>intro h<;>first|(exfalso;omega)|exact⟨C,by omega,z⟩⟩
  ·rw[d9 c14];exact⟨_,rfl,λh=>nomatch h⟩
 ·rw[d9 C];exact⟨_,rfl,λh=>nomatch h⟩
theorem b4t{l:List d7}{i st:Nat}{x:d7}(hl:l.length<=100000000)(hx:l[i]? =some x)(R:x.Cs=(st:Int)-(i+1))(J:st<=l.length){ks:List Nat}(h:Kc l (i+1) st ks):∃b,CA d5 l (i:Int)=some ((b,()),())/\(b=true->Fam x.Ks x.Ns i (G8 l ks) (fkd l ks)):=by
 have P:=h.le;rw[b3i,vE,Z0 hl hx R J h,d6];generalize L:ks.map (λ(k:Nat)=>(k:Int))=ksI;have z:ksI.length=ks.length:=(by rw[<-L,F5]);have G:∀(d:Nat) (hd:d<ks.length),∃y,l[ks[d]]? =some y/\f7 ksI (d:Int)=some ((ks[d]:Nat):Int)/\ksI[d]? =some ((ks[d]:Nat):Int)/\f7 l ((ks[d]:Nat):Int)=some y:=by
  intro d hd;obtain⟨_,_,y,q,B,_⟩:=h.mem _ (B0 hd);have F:=(o9.1 B).1;refine⟨y,B,?_,?_,?_⟩
  ·rw[p9 (by rw[z];exact hd)];simp[<-L]
  ·simp[<-L,hd]
  ·rw[p9 F];exact(w9 F).symm.trans B
 have C:∀(n d:Nat),ks.length-d=n->d<=ks.length->Zz d5 l (i:Int) ((ksI,()),()) (d:Int) (G8 l (ks.take d))=FR d5 l (i:Int) ((ksI,()),()) (G8 l ks):=by
  intro n
  induction n with
  |zero=>intro d S hd;rw[a0P,Zi];simp only[z];rw[d9 (by omega),f9,List.take_of_length_le (by omega)]
  |succ n ih=>
   intro d S hd;have I:d<ks.length:=(by omega);obtain⟨y,B,M,K,N⟩:=G d I;have U:w64 ((d:Int)+1)=((d+1:Nat):Int):=(by rw[wrap64 (by omega) (by omega)];omega);have es:G8 l (ks.take d)++[I3 y.Ks]=G8 l (ks.take (d+1)):=by unfold G8;rw[List.take_add_one,w9 I,I8];simp[x4 B]
   have Q:(G8 l (ks.take d)).length+ [I3 y.Ks].length<=100000000:=by unfold G8;rw[F5,List.length_take,C2];omega
   have:=ih (d+1) (by omega) (by omega);rw[a0P,Zi];simp only[z];rw[f6 (by omega),l6,M,d6,F9,K,d6,N,d6,a6L,d6];simp only;rw[N5 (by decide) Q,d6,es,U,this]
 have O:=C _ 0 rfl (D2 _);rw[List.take_zero]at O;rw[show Zz d5 l (i:Int) ((ksI,()),()) 0 []=_ from O,b58,jB,LW (GQ l ks),d6];have H:(G8 l ks).length<=100000000:=(by unfold G8;rw[F5];omega);simp only[z];cases ks with
 |nil=>rw[d9 (by simp),f9];exact OL hx hl (GQ l []) H _ _ (.inl rfl)
 |cons k ks=>obtain⟨y,B,M,K,N⟩:=G 0 (by simp);rw[f6 (by simp),l6,show f7 ksI 0=_ from M,d6,show ksI[Int.toNat 0]? =_ from K,d6,N,d6];exact OL hx hl (GQ l (k::ks)) H _ _ (.inr (x4 B).symm)
structure Fld(x:d7):Prop where
 n21:x.Ks=21->0<=x.Ns
 n22:x.Ks=22->0<=x.Ns/\x.Ns<8388608
 n24:x.Ks=24->x.Ns=0\/x.Ns=1
 n30:x.Ks=30->x.Ns=12\/x.Ns=13
 n31:x.Ks=31->1<=x.Ns/\x.Ns<=11\/x.Ns=14\/x.Ns=15
theorem KI(s:b6H)(C:s.length<=65536)(k:Int):∃b,rU d5 s k=some ((b,()),()):=by
 rw[a1p,eJ];by_cases c:(s.length:Int)=0
 ·rw[f6 c];exact⟨_,rfl⟩
 have h0:0<s.length:=(by omega);have z:∃b,bJ d5 s k=some ((b,()),()):=by
  obtain⟨t,n,e,B,F⟩:=LE s C 0 h0;rw[b4v,bI,show bB d5 s 0=_ from B,d6];cases decide (e=0)with
  |false=>exact⟨_,rfl⟩
  |true=>
   rw[l6];cases decide (n=(s.length:Int))with
   |false=>exact⟨_,rfl⟩
   |true=>exact⟨_,rfl⟩
 rw[d9 c,f9,show f7 s 0=some s[0]from p9 (i:=0) h0,d6,d6];cases decide ((s[0].toNat:Int)>=48)with
 |false=>exact z
 |true=>
  rw[l6];cases decide ((s[0].toNat:Int)<=57)with
  |false=>exact z
  |true=>exact⟨_,rfl⟩
theorem b47(x:d7)(hs:x.Ds.length<=65536):∃b,FT d5 x=some ((b,()),())/\(b=true->Fld x):=by
 obtain⟨bg,hg⟩:=KI x.Ds hs 2;obtain⟨O,hn⟩:=KI x.Ds hs 1;have hG:AI d5 x.Ds=some ((bg,()),()):=(by rw[a7g,eH,hg];rfl);have hN:eK d5 x.Ds=some ((O,()),()):=(by rw[a8P,cB,hn];rfl);have z:∀{r:Option RT0} {b:Bool},r=some ((b,()),())->(x.Ks<21\/x.Ks=23\/25<=x.Ks/\x.Ks<=29\/32<=x.Ks)->∃b,r=some ((b,()),())/\(b=true->Fld x):=by
  intro r b V X;refine⟨b,V,λ_=>?_⟩
  constructor<;>intro h<;>(exfalso;omega)
 have j0:(x.Ks=2\/x.Ks=19)->∃b,pT d5 x=some ((b,()),())/\(b=true->Fld x):=by
  intro X;rw[b5l,mH,hG,d6];cases bg with
  |true=>exact z rfl (by omega)
  |false=>exact z rfl (by omega)
 have H:(x.Ks=3\/x.Ks=5\/x.Ks=7\/x.Ks=26\/x.Ks=27\/x.Ks=29)->∃b,Ka d5 x=some ((b,()),())/\(b=true->Fld x):=by
  intro X;rw[b4Y,tL,hN,d6];cases O with
  |true=>exact z rfl (by omega)
  |false=>exact z rfl (by omega)
 rw[b4A,rI];by_cases U:x.Ks=2
 ·rw[f6 U];exact j0 (.inl U)
 rw[d9 U,f9];by_cases F:x.Ks=19
 ·rw[f6 F];exact j0 (.inr F)
 rw[d9 F,f9];by_cases h3:x.Ks=3
 ·rw[f6 h3];exact H (by omega)
 rw[d9 h3,f9];by_cases h5:x.Ks=5
 ·rw[f6 h5];exact H (by omega)
 rw[d9 h5,f9];by_cases Z:x.Ks=7
 ·rw[f6 Z];exact H (by omega)
 rw[d9 Z,f9];by_cases P:x.Ks=26
 ·rw[f6 P];exact H (by omega)
 rw[d9 P,f9];by_cases J:x.Ks=27
 ·rw[f6 J];exact H (by omega)
 rw[d9 J,f9];by_cases M:x.Ks=29
 ·rw[f6 M];exact H (by omega)
 rw[d9 M,f9];by_cases Y:x.Ks=4
 ·rw[f6 Y,l6,hN];exact z rfl (by omega)
 rw[d9 Y,f9];by_cases S:x.Ks=23
 ·rw[f6 S];exact z rfl (by omega)
 rw[d9 S,f9];cases decide (x.Ds=([]:b6H))with
 |false=>exact⟨_,rfl,λh=>nomatch h⟩
 |true=>
 rw[B8,f9];by_cases L:x.Ks=21
 ·rw[f6 L];exact⟨_,rfl,λC=>by have B:=F3 C;constructor<;>intro h<;>first|(exfalso;omega)|exact B⟩
 rw[d9 L,f9];by_cases I:x.Ks=22
 ·rw[f6 I,l6];by_cases a:x.Ns>=0
  ·rw[f6 a];exact⟨_,rfl,λC=>by have B:=F3 C;constructor<;>intro h<;>first|(exfalso;omega)|exact⟨a,B⟩⟩
  ·rw[d9 a];exact⟨_,rfl,λh=>nomatch h⟩
 rw[d9 I,f9];by_cases N:x.Ks=24
 ·rw[f6 N,l6];by_cases a:x.Ns=0
  ·rw[f6 a];exact⟨_,rfl,λC=>by constructor<;>intro h<;>first|(exfalso;omega)|exact .inl a⟩
  ·rw[d9 a];exact⟨_,rfl,λC=>by have B:=F3 C;constructor<;>intro h<;>first|(exfalso;omega)|exact .inr B⟩
 rw[d9 N,f9];by_cases K:x.Ks=30
 ·rw[f6 K,l6];by_cases a:x.Ns=12
  ·rw[f6 a];exact⟨_,rfl,λC=>by constructor<;>intro h<;>first|(exfalso;omega)|exact .inl a⟩
  ·rw[d9 a];exact⟨_,rfl,λC=>by have B:=F3 C;constructor<;>intro h<;>first|(exfalso;omega)|exact .inr B⟩
 rw[d9 K,f9];by_cases Q:x.Ks=31
 ·have G:∀{r:Option RT0} {b:Bool},r=some ((b,()),())->(b=true->1<=x.Ns/\x.Ns<=11\/x.Ns=14\/x.Ns=15)->∃b,r=some ((b,()),())/\(b=true->Fld x):=by
   intro r b V C;refine⟨b,V,λh=>?_⟩;have B:=C h
   constructor<;>intro h<;>first|(exfalso;omega)|exact B
  have R:∃b,(cond (decide (x.Ns=14)) (some ((true,()),())) (some (((decide (x.Ns=15)),()),())):Option RT0)=some ((b,()),())/\(b=true->Fld x):=by
   by_cases a:x.Ns=14
   ·rw[f6 a];exact G rfl (λ_=>by omega)
   ·rw[d9 a];exact G rfl (λh=>by have:=F3 h;omega)
  rw[f6 Q,l6];by_cases a:x.Ns>=1
  ·rw[f6 a,l6];by_cases b:x.Ns<=11
   ·rw[f6 b];exact G rfl (λ_=>by omega)
   ·rw[d9 b];exact R
  ·rw[d9 a];exact R
 rw[d9 Q,f9];exact z rfl (by omega)
structure L0(l:List d7):Prop where
 root:∃x,l[0]? =some x/\x.Ks=1/\x.Cs=(l.length:Int)-1/\1<=l.length/\WFo l 1 l.length
 nd:∀(i:Nat) (x:d7),l[i]? =some x->∃(st:Nat) (ks:List Nat),x.Cs=(st:Int)-(i+1)/\i+1<=st/\st<=l.length/\WFo l (i+1) st/\Kc l (i+1) st ks/\Fam x.Ks x.Ns i (G8 l ks) (fkd l ks)/\Fld x
theorem RD{l:List d7}(hl:l.length<=100000000)(ht:∀n∈l,n.Ds.length<=65536):∃b,rC d5 l=some ((b,()),())/\(b=true->L0 l):=by
 obtain⟨b,h1,h2⟩:=RX hl;rw[a4S,nC,h1,d6];cases b with
 |false=>exact⟨_,rfl,λh=>nomatch h⟩
 |true=>
  obtain⟨x,hx,O,h0,J⟩:=h2 rfl;have M:l[0]=x:=(o9.1 hx).2;rw[B8,f9,show f7 l 0=some l[0]from p9 (i:=0) h0,d6,M];by_cases P:x.Ks=1
  ·rw[f6 P,B8,f9];have I:∀(i:Nat) (x:d7),l[i]? =some x->∃(st:Nat) (ks:List Nat),x.Cs=(st:Int)-(i+1)/\i+1<=st/\st<=l.length/\WFo l (i+1) st/\Kc l (i+1) st ks:=by
    intro i y B;have C:=(o9.1 B).1;by_cases e:i=0
    ·subst e;rw[hx]at B;cases B;obtain⟨ks,G⟩:=J.kc;exact⟨l.length,ks,by omega,by omega,l5 _,J,G⟩
    ·obtain⟨z,k,K,Q,g3,U,g5⟩:=J.inside i (by omega) C;rw[B]at K;cases K;obtain⟨ks,G⟩:=U.kc;exact⟨k,ks,Q,g3,g5,U,G⟩
   have H:∀(n i:Nat),l.length-i=n->∃b,mB d5 l (i:Int)=some ((b,()),())/\(b=true->∀(j:Nat) (x:d7),i<=j->l[j]? =some x->∃(st:Nat) (ks:List Nat),x.Cs=(st:Int)-(j+1)/\j+1<=st/\st<=l.length/\WFo l (j+1) st/\Kc l (j+1) st ks/\Fam x.Ks x.Ns j (G8 l ks) (fkd l ks)/\Fld x):=by
    intro n
    induction n with
    |zero=>intro i hi;rw[ZB,Yc,d9 (by omega),f9,b1C,iG];exact⟨_,rfl,λ_ j y hj B=>by have:=(o9.1 B).1;omega⟩
    |succ n ih=>
     intro i hi;have C:i<l.length:=(by omega);have e1:w64 ((i:Int)+1)=((i+1:Nat):Int):=(by rw[wrap64 (by omega) (by omega)];omega);have B:l[i]? =some l[i]:=w9 C;obtain⟨st,ks,V,Y,S,t4,X⟩:=I i _ B;obtain⟨Z,f1,f2⟩:=b47 l[i] (ht _ (B0 C));obtain⟨b2,K,Q⟩:=b4t hl B V S X;obtain⟨b3,L,R⟩:=ih (i+1) (by omega);rw[ZB,Yc,f6 (by omega),l6,p9 C,d6,f1,d6];cases Z with
     |false=>exact⟨_,rfl,λh=>nomatch h⟩
     |true=>
      rw[B8,f9,K,d6];cases b2 with
      |false=>exact⟨_,rfl,λh=>nomatch h⟩
      |true=>
       rw[B8,f9,e1];refine⟨b3,L,λN j y hj F=>?_⟩;by_cases e:i=j
       ·subst e;rw[B]at F;cases F;exact⟨st,ks,V,Y,S,t4,X,Q rfl,f2 rfl⟩
       ·exact R N j y (by omega) F
   obtain⟨b,L,R⟩:=H _ 0 rfl;exact⟨b,L,λN=>⟨⟨x,hx,P,O,h0,J⟩,λi y B=>R N i y (D2 _) B⟩⟩
  ·rw[d9 P];exact⟨_,rfl,λh=>nomatch h⟩
theorem Ao{α:Type}{b:Nat}{xs z:List α}(B:b<=1000)(h:xs.length+z.length<=100000000000):B9 b xs z=some (xs++z):=by unfold B9;rw[if_pos];unfold P9 maxLen;have:=Nat.mul_le_mul h B;omega
structure Cb(nr:Nat)(T:List v7):Prop where
 len:6+nr<=T.length
 base:∀i:Nat,i<6->T[i]? =some ⟨i,0⟩
 recs:∀i:Nat,i<nr->T[6+i]? =some ⟨6,i⟩
 lists:∀(i:Nat) (x:v7),6+nr<=i->T[i]? =some x->x.Ks=7/\1<=x.Of/\x.Of<T.length/\x.Of≠5
def E4(T:List v7)(t:Int):Prop:=1<=t/\t<T.length/\t≠5
theorem E4.ext{T z:List v7}{t:Int}(h:E4 T t)(B:T<+:z):E4 z t:=by have:=B.length_le;exact⟨h.1,by have:=h.2.1;omega,h.2.2⟩
def TKn(T:List v7)(t k:Int):Prop:=∃y,T[t.toNat]? =some y/\y.Ks=k
def TKd(T:List v7)(t K:Int):Prop:=(K=19->TKn T t 6)/\(K=20->TKn T t 7)
theorem TKn.ext{T z:List v7}{t k:Int}(h:TKn T t k)(C:T<+:z):TKn z t k:=by obtain⟨y,B,F⟩:=h;obtain⟨r,rfl⟩:=C;have:=(o9.1 B).1;exact⟨y,by rw[Ae this];exact B,F⟩
theorem TKd.ext{T C:List v7}{t K:Int}(h:TKd T t K)(B:T<+:C):TKd C t K:=⟨λz=>(h.1 z).ext B,λz=>(h.2 z).ext B⟩
theorem a22(T:List v7)(hT:T.length<=90000000000)(k:Int)(I:Nat)(h:Cb I T)(C:E4 T k):∃z t,Mq d5 T k=some ((z,t,()),())/\Cb I z/\E4 z t/\T<+:z/\z.length<=T.length+1/\TKn z t 7:=by
 have H:([]:List v7).length+T.length<=100000000000:=(by rw[K8];omega);have P:=h.len;rw[a2M,rZ,Ao (by decide) H,d6,U7,d9 (by have:=C.1;omega),f9,d9 (by have:=C.2.1;omega),f9,d9 C.2.2,f9];have F:∀(n i:Nat),T.length-i=n->∃z t,Xw d5 T k (i:Int) T=some ((z,t,()),())/\Cb I z/\E4 z t/\T<+:z/\z.length<=T.length+1/\TKn z t 7:=by
  intro n
  induction n with
  |zero=>
   intro i hi;have H:T.length+ [(v7.mk 7 k)].length<=100000000000:=(by rw[C2];omega);rw[PX,Ux,d9 (by omega),f9,a5I,tX,Ao (by decide) H];refine⟨_,_,rfl,⟨?_,λi hi=>?_,λi hi=>?_,λi x hi hx=>?_⟩,⟨by omega,by rw[t8,C2];omega,by omega⟩,List.prefix_append _ _,by simp,⟨_,by rw[F9,Fb (l5 _),Nat.sub_self];rfl,rfl⟩⟩
   ·rw[t8];omega
   ·rw[Ae (by omega)];exact h.base i hi
   ·rw[Ae (by omega)];exact h.recs i hi
   ·by_cases c:i<T.length
    ·rw[Ae c]at hx;obtain⟨M,N,O,L⟩:=h.lists i x hi hx;exact⟨M,N,by rw[t8];omega,L⟩
    ·rw[Fb (by omega)]at hx;have:i-T.length=0:=by have:=(o9.1 hx).1;simpa using this
     rw[this]at hx;cases hx;exact⟨rfl,C.1,by rw[t8];have:=C.2.1;simp only;omega,C.2.2⟩
  |succ n ih=>
   intro i hi;have B:i<T.length:=(by omega);have e:=ih (i+1) (by omega);rw[PX,Ux,f6 (by omega),l6,p9 B,d6,d6,B7 (by omega)];by_cases c7:T[i].Ks=7
   ·rw[f6 c7,l6];by_cases J:T[i].Of=k
    ·rw[f6 J];have K:6<=i:=by
      refine Nat.le_of_not_lt λG=>?_;have:=h.base i G;rw[w9 B]at this;injection this with this
      rw[this]at c7;simp only at c7;omega
     exact⟨T,i,rfl,h,⟨by omega,by omega,by omega⟩,O9 _,by omega,⟨_,by rw[F9];exact w9 B,c7⟩⟩
    ·rw[d9 J];exact e
   ·rw[d9 c7];exact e
 exact F _ 0 rfl
theorem b1b(T:List v7)(z:List (b6H))(J:z.length<=90000000000)(x:d7)(hx:15<=x.Ks/\x.Ks<=19)(I:Nat)(h:Cb I T):∃t,GH d5 T z x=some ((t,()),())/\(t=0\/E4 T t/\(x.Ks=19->TKn T t 6)):=by
 have K:=h.len;rw[a7R,lF];by_cases c:x.Ks<19
 ·rw[f6 c,l6,wrap64 (n:=x.Ks) (by omega) (by omega),wrap64 (by omega) (by omega)];exact⟨_,rfl,.inr ⟨⟨by omega,by omega,by omega⟩,λh=>by omega⟩⟩
 ·rw[d9 c,f9];have B:∀(n i:Nat),z.length-i=n->∃t,qP d5 T z (i:Int) x=some ((t,()),())/\(t=0\/E4 T t/\(x.Ks=19->TKn T t 6)):=by
   intro n
   induction n with
   |zero=>intro i hi;rw[JE,Yl,d9 (by omega),f9,a9V,pP];exact⟨_,rfl,.inl rfl⟩
   |succ n ih=>
    intro i hi;have G:i<z.length:=(by omega);have e:=ih (i+1) (by omega);have H:w64 ((i:Int)+6)=((i+6:Nat):Int):=(by rw[wrap64 (by omega) (by omega)];omega);rw[JE,Yl,f6 (by omega),l6,p9 G,d6,B7 (by omega),H];cases decide (z[i]=x.Ds)with
    |false=>exact e
    |true=>
     rw[l6];by_cases c6:((i+6:Nat):Int)<(T.length:Int)
     ·have C:i+6<T.length:=(by omega);rw[f6 c6,l6,p9 C,d6];by_cases F:T[i+6].Ks=6
      ·rw[f6 F];exact⟨_,rfl,.inr ⟨⟨by omega,by omega,by omega⟩,λ_=>⟨_,by rw[F9];exact w9 C,F⟩⟩⟩
      ·rw[d9 F];exact⟨_,rfl,.inl rfl⟩
     ·rw[d9 c6];exact⟨_,rfl,.inl rfl⟩
  exact B _ 0 rfl
theorem a9W(x:d7)(hx:x.Ds.length<=65536):∃b,GJ d5 [x]=some ((b,()),()):=by
 obtain⟨b,B,_⟩:=RX (l:=[x]) (by simp);rw[a4M,rB,B,d6];cases b with
 |false=>exact⟨_,rfl⟩
 |true=>
  rw[B8,f9,N5 (by decide) (by simp),d6];have C:∀n∈([(d7.mk 1 0 0 (w64 (([x].length:Int)+2)) 0 ([]:b6H)),(d7.mk 2 0 0 (w64 (([x].length:Int)+1)) 0 ([82]:b6H)),(d7.mk 3 0 0 ([x].length:Int) 0 ([102]:b6H))]:List d7)++[x],n.Ds.length<=65536:=by
   intro n z;simp only[List.cons_append,U7,D0,List.not_mem_nil,or_false]at z;rcases z with rfl|rfl|rfl|rfl
   ·simp
   ·simp
   ·simp
   ·exact hx
  obtain⟨b,F,_⟩:=RD (by simp) C;rw[F];exact⟨_,rfl⟩
theorem b42(T:List v7)(hT:T.length<=90000000000)(z:List (b6H))(H:z.length<=90000000000)(x:d7)(hx:15<=x.Ks/\x.Ks<=19)(J:x.Ds.length<=65536)(B:Nat)(h:Cb B T):∃G t,Tb d5 T z [x]=some ((G,t,()),())/\(t=0\/E4 T t/\(x.Ks=19->TKn T t 6)):=by
 obtain⟨b,I⟩:=a9W x J;obtain⟨t,F,K⟩:=b1b T z H x hx B h;have L:([]:List v7).length+T.length<=100000000000:=(by rw[K8];omega);rw[a2s,wB,Ao (by decide) L,d6,I,d6];cases b with
 |false=>exact⟨_,_,rfl,.inl rfl⟩
 |true=>
  rw[B8,f9,show f7 [x] (w64 (([x].length:Int)-1))=some x from rfl,d6,F,d6];by_cases c:t=0
  ·rw[f6 c];exact⟨_,_,rfl,.inl rfl⟩
  ·have C:w64 ((([x]:List d7).length:Int)-1)=0:=rfl;rw[d9 c,f9,a6c,rW,C,d9 (by omega),f9,a1B,gE];exact⟨_,_,rfl,K⟩
def A4(s:d8)(i:Nat)(m:l8):d8:=⟨⟨s.P.No,s.P.Ms.set i m,s.P.To,s.P.Rs,s.P.Hs,s.P.As,s.P.Ss,s.P.Vars,s.P.Do⟩,s.Rs,s.F⟩
theorem Ep(s:d8)(B:s.P.Ms.length<=90000000)(i:Nat)(hi:i<s.P.Ms.length)(m:l8):Jo d5 s (i:Int) m=some ((A4 s i m,()),()):=by have z:([]:List l8).length+s.P.Ms.length<=100000000:=(by rw[K8];omega);rw[nP,Nn,N5 (by decide) z,d6,U7,p9 hi,d6,F9,w9 hi,d6];rfl
theorem RM:Xz d5=Jo d5:=by funext s i m;rw[b5S,gC,nP,Nn]
theorem ID:Rw d5=Jo d5:=by funext s i m;rw[a4t,cZ,nP,Nn]
theorem Sv:Ik d5=Jo d5:=by funext s i m;rw[b0Y,bO,nP,Nn]
theorem NT:gG d5=Dy d5:=by funext s i m;rw[a9L,mC,sC,Og]
theorem DZ:Xx d5=Dy d5:=by funext s i m;rw[b4M,iO,sC,Og]
theorem Pd:Kl d5=Dy d5:=by funext s i m;rw[a7d,uF,sC,Og]
theorem V6(s:d8):Q6 d5 s=some ((!decide (s.F.Code=0),()),()):=a3E s
theorem Bg(s:d8)(e:Int)(z:e≠0)(i:Nat)(hi:i<s.P.No.length):∃f:A7,Dy d5 s e (i:Int)=some (((⟨s.P,s.Rs,f⟩:d8),()),())/\f.Code≠0:=by
 rw[sC,Og,V6,d6];by_cases c:s.F.Code=0
 ·rw[f6 c,B8,F4,l6,p9 hi,d6,d6];exact⟨_,rfl,z⟩
 ·rw[d9 c];exact⟨s.F,rfl,c⟩
end
section
def jQ(l:List d7)(T:List v7)(f:x8):Prop:=∃(k:Nat) (x:d7),f.Gs=(k:Int)/\l[k]? =some x/\x.Ks=4/\f.Ps=x.Ns/\(f.By=0\/E4 T f.By)
def tot(s:d8):Nat:=s.P.To.length+s.P.Do.length+s.P.Vars.length+s.P.Ss.length+s.P.Hs.length+s.P.Rs.length+s.P.As.length+s.Rs.length
structure RI(l:List d7)(nr B:Nat)(s:d8):Prop where
 nodes:s.P.No=l
 marks:s.P.Ms.length=l.length
 big:tot s<=B
 ty:Cb nr s.P.To
 mt:∀m∈s.P.Ms,0<=m.Ts/\m.Ts<s.P.To.length
 fl:s.F.Code=0->∀f∈s.P.Hs,E4 s.P.To f.Ts
 rc:∀r∈s.P.Rs,0<=r.Vs/\0<=r.Ws/\r.Vs+r.Ws<=s.P.Hs.length
 fn:∀f∈s.P.As,jQ l s.P.To f
 sl:s.F.Code=0->∀t∈s.P.Ss,E4 s.P.To t
theorem jQ.ext{l:List d7}{T B:List v7}{f:x8}(h:jQ l T f)(C:T<+:B):jQ l B f:=by
 obtain⟨k,x,H,F,I,G,z⟩:=h;refine⟨k,x,H,F,I,G,?_⟩;rcases z with z|z
 ·exact .inl z
 ·exact .inr (z.ext C)
theorem RI.more{l:List d7}{z B C:Nat}{s:d8}(h:RI l z B s)(F:B<=C):RI l z C s:=⟨h.nodes,h.marks,by have:=h.big;omega,h.ty,h.mt,h.fl,h.rc,h.fn,h.sl⟩
theorem RI.fault{l:List d7}{C B:Nat}{s:d8}(h:RI l C B s)(f:A7)(z:f.Code=0->s.F.Code=0):RI l C B ⟨s.P,s.Rs,f⟩:=⟨h.nodes,h.marks,h.big,h.ty,h.mt,λc=>h.fl (z c),h.rc,h.fn,λc=>h.sl (z c)⟩
theorem RI.types{l:List d7}{G B:Nat}{s:d8}(h:RI l G B s){T:List v7}(hT:Cb G T)(z:s.P.To<+:T)(hl:T.length<=s.P.To.length+1):RI l G (B+1) ⟨⟨s.P.No,s.P.Ms,T,s.P.Rs,s.P.Hs,s.P.As,s.P.Ss,s.P.Vars,s.P.Do⟩,s.Rs,s.F⟩:=by
 have H:=z.length_le;refine⟨h.nodes,h.marks,?_,hT,λm I=>?_,λc f C=>(h.fl c f C).ext z,h.rc,λf C=>(h.fn f C).ext z,λc t J=>(h.sl c t J).ext z⟩
 ·have:=h.big;unfold tot at this⊢;simp only;omega
 ·have:=h.mt m I;exact⟨this.1,by simp only;omega⟩
theorem RI.mark{l:List d7}{z B:Nat}{s:d8}(h:RI l z B s)(i:Nat)(m:l8)(h0:0<=m.Ts)(C:m.Ts<s.P.To.length):RI l z B (A4 s i m):=by
 refine⟨h.nodes,by unfold A4;simp only[Hf];exact h.marks,h.big,h.ty,λx hx=>?_,h.fl,h.rc,h.fn,h.sl⟩;rcases List.mem_or_eq_of_mem_set hx with hx|rfl
 ·exact h.mt x hx
 ·exact⟨h0,C⟩
structure Ex(l:List d7)(s s':d8)(lo hi:Nat):Prop where
 types:s.P.To<+:s'.P.To
 marks:∀i:Nat,(i<lo\/hi<=i)->s'.P.Ms[i]? =s.P.Ms[i]?
 par:∀i:Nat,kd l i=5->s'.P.Ms[i]? =s.P.Ms[i]?
 recs:s'.P.Rs=s.P.Rs
 fields:s'.P.Hs=s.P.Hs
 fns:s'.P.As=s.P.As
 slots:s'.P.Ss=s.P.Ss
 vars:s'.P.Vars=s.P.Vars
 points:s'.P.Do=s.P.Do
 own:s'.Rs=s.Rs
 bad:s.F.Code≠0->s'.F.Code≠0
theorem Ex.refl(l:List d7)(s:d8)(lo hi:Nat):Ex l s s lo hi:=⟨O9 _,λ_ _=>rfl,λ_ _=>rfl,rfl,rfl,rfl,rfl,rfl,rfl,rfl,id⟩
theorem Ex.trans{l:List d7}{s G F:d8}{lo hi B C lo2 hi2:Nat}(h:Ex l s G lo hi)(z:Ex l G F B C)(a:lo2<=lo)(b:hi<=hi2)(c:lo2<=B)(d:C<=hi2):Ex l s F lo2 hi2:=
 ⟨h.types.trans z.types,λi hi=>(z.marks i (by omega)).trans (h.marks i (by omega)),λi hi=>(z.par i hi).trans (h.par i hi),z.recs.trans h.recs,z.fields.trans h.fields,z.fns.trans h.fns,z.slots.trans h.slots,z.vars.trans h.vars,z.points.trans h.points,z.own.trans h.own,λH=>z.bad (h.bad H)⟩
theorem Ex.fault(l:List d7)(s:d8)(f:A7)(z:f.Code≠0)(lo hi:Nat):Ex l s ⟨s.P,s.Rs,f⟩ lo hi:=⟨O9 _,λ_ _=>rfl,λ_ _=>rfl,rfl,rfl,rfl,rfl,rfl,rfl,rfl,λ_=>z⟩
theorem Ex.mark(l:List d7)(s:d8)(i:Nat)(m:l8)(lo hi:Nat)(F:lo<=i)(C:i<hi)(B:kd l i≠5):Ex l s (A4 s i m) lo hi:=⟨O9 _,λj z=>by unfold A4;simp only;rw[Bz (by omega)],λj z=>by unfold A4;simp only;rw[Bz (λe=>B (by rw[e];exact z))],rfl,rfl,rfl,rfl,rfl,rfl,rfl,id⟩
theorem b30{α:Type}{l:List α}{b:Nat}{x:α}(h:l[b]? =some x):B4 l (b:Int) ((b+1:Nat):Int)=[x]:=by have z:=(o9.1 h).1;have hx:=(o9.1 h).2;unfold B4;rw[F9,P0 z,hx];have:(((b+1:Nat):Int)-(b:Int)).toNat=1:=(by omega);rw[this];rfl
theorem J7{l:List d7}{ks:List Nat}{a:List Int}(h:G8 l ks=a):ks.length=a.length/\∀(i:Nat) (B:i<ks.length) (z:i<a.length),I3 (kd l ks[i])=a[i]:=by subst h;exact⟨by unfold G8;rw[F5],λi B z=>by simp[G8]⟩
theorem Z8{k:Int}(h:I3 k=116):15<=k/\k<=20:=by
 unfold I3 sk2 sk1 sk0 at h
 repeat' split at h
 all_goals omega
theorem Kc.first{l:List d7}{i j:Nat}{k:Nat}{ks:List Nat}(h:Kc l i j (k::ks)):k=i/\∃(x:d7) (q:Nat),l[i]? =some x/\x.Cs=(q:Int)-(i+1)/\i+1<=q/\q<=j/\Kc l q j ks:=by
 cases h with
 |cons _ q _ x _ hx hs hk kids rest=>exact⟨rfl,x,q,hx,hs,hk,by have:=rest.le;omega,rest⟩
section
variable{l:List d7}(hM:L0 l)(hl:l.length<=30000)(htx:∀n∈l,n.Ds.length<=65536)
include hM hl htx
theorem DA(K:d8->Int->Option Q9)(hK:∀a b,K a b=((f7 a.P.No b).bind λc=>(cond (decide (c.Ks=14)) (some ((0,a,()),())) ((f7 a.P.No b).bind λd=>(cond (decide (d.Ks=20)) (((K a (w64 (b+1)))).bind λ(e:Q9)=>(((Q6 d5 e.1.2.1)).bind λ(f:RT0)=>(cond f.1.1 (some ((0,e.1.2.1,()),())) (((Mq d5 e.1.2.1.P.To e.1.1)).bind λ(h:An)=>(((Jo d5 (d8.mk (w8.mk e.1.2.1.P.No e.1.2.1.P.Ms h.1.1 e.1.2.1.P.Rs e.1.2.1.P.Hs e.1.2.1.P.As e.1.2.1.P.Ss e.1.2.1.P.Vars e.1.2.1.P.Do) e.1.2.1.Rs e.1.2.1.F) b (l8.mk h.1.2.1 0 0))).bind λ(j:v6)=>(some ((h.1.2.1,j.1.1,()),()))))))) ((okP (F1 b (w64 (b+1)) (a.P.No.length:Int))).bind λ_=>(((Tb d5 a.P.To a.Rs (B4 a.P.No b (w64 (b+1))))).bind λ(k:An)=>(cond (decide (k.1.2.1=0)) (((Dy d5 a 8 b)).bind λ(l:v6)=>(some ((0,l.1.1,()),()))) (((Jo d5 a b (l8.mk k.1.2.1 0 0))).bind λ(m:v6)=>(some ((k.1.2.1,m.1.1,()),()))))))))))):∀(n b:Nat) (x:d7) (st:Nat),l[b]? =some x->x.Cs=(st:Int)-(b+1)->st-b=n->(14<=x.Ks/\x.Ks<=20)->∀(s:d8) (N B:Nat),RI l N B s->B+(st-b)<=80000000000->∃t L,K s (b:Int)=some ((t,L,()),())/\RI l N (B+(st-b)) L/\Ex l s L b st/\(t=0\/E4 L.P.To t)/\(L.F.Code=0->x.Ks=14/\t=0\/(x.Ks≠14/\TKd L.P.To t x.Ks)/\E4 L.P.To t):=by
 intro n
 induction n using Nat.strongRecOn with
 |_ n ih=>
 intro b x st hx hs hn hk s N B G hB;have J:=(o9.1 hx).1;have Y:=(o9.1 hx).2;have C:=G.nodes;have ag:=G.marks;have R:=G.big;unfold tot at R;have h5:kd l b≠5:=(by rw[x4 hx];omega);have gx:f7 s.P.No (b:Int)=some x:=(by rw[C,p9 J,Y]);obtain⟨O,ks,t1,t2,t3,t4,t5,t6,t7⟩:=hM.nd b x hx;have ab:O=st:=(by omega);subst ab;rw[hK,gx,d6,d6];by_cases c14:x.Ks=14
 ·rw[f6 c14];exact⟨0,s,rfl,G.more (by omega),Ex.refl _ _ _ _,.inl rfl,λ_=>.inl ⟨c14,rfl⟩⟩
 rw[d9 c14,f9];by_cases c20:x.Ks=20
 ·rw[f6 c20,l6,B7 (by omega)];obtain⟨e1,e2⟩:=J7 (t6.k3 (.inr (.inr c20)));obtain⟨k,ks,rfl⟩:∃k ae,ks=k::ae:=by
   cases ks with
   |nil=>simp at e1
   |cons k ks=>exact⟨k,ks,rfl⟩
  have ad:=Z8 (e2 0 (by simp) (by simp));obtain⟨rfl,y,q,hy,ac,ah,I,_⟩:=t5.first
  rw[K5,x4 hy]at ad;obtain⟨t,z,g1,M,g3,g4,g5⟩:=ih (q-(b+1)) (by omega) (b+1) y q hy ac rfl (by omega) s N B G (by omega);have H:=M.big;unfold tot at H;rw[g1,d6,V6,d6];by_cases U:z.F.Code=0
  ·rw[f6 U,B8,f9];have hT:E4 z.P.To t:=by
    rcases g5 U with⟨h,_⟩|⟨_,h⟩
    ·omega
    ·exact h
   obtain⟨T',t',k1,X,S,k4,k5,k6⟩:=a22 z.P.To (by omega) t N M.ty hT;have aa:=M.types X k4 k5;have Z:b<(⟨⟨z.P.No,z.P.Ms,T',z.P.Rs,z.P.Hs,z.P.As,z.P.Ss,z.P.Vars,z.P.Do⟩,z.Rs,z.F⟩:d8).P.Ms.length:=by show b<z.P.Ms.length;rw[M.marks];exact J
   have af:z.P.Ms.length=l.length:=M.marks;rw[k1,d6];simp only;rw[Ep _ (by simp only;omega) b Z];refine⟨t',_,rfl,(aa.mark b _ (by have:=S.1;simp only;omega) S.2.1).more (by omega),?_,.inr S,λ_=>.inr ⟨⟨c14,λh=>absurd h (by rw[c20];decide),λ_=>k6⟩,S⟩⟩;have a1:Ex l z (⟨⟨z.P.No,z.P.Ms,T',z.P.Rs,z.P.Hs,z.P.As,z.P.Ss,z.P.Vars,z.P.Do⟩,z.Rs,z.F⟩:d8) (b+1) q:=⟨k4,λ_ _=>rfl,λ_ _=>rfl,rfl,rfl,rfl,rfl,rfl,rfl,rfl,id⟩;exact(g3.trans a1 (l5 _) (l5 _) (l5 _) (l5 _)).trans (Ex.mark l _ b _ b (b+1) (l5 _) (by omega) h5) (by omega) I (by omega) (by omega)
  ·rw[d9 U];exact⟨0,z,rfl,M.more (by omega),g3.trans (Ex.refl l z (b+1) q) (by omega) I (by omega) I,.inl rfl,λh=>absurd h U⟩
 ·have Q:F1 (b:Int) ((b+1:Nat):Int) (s.P.No.length:Int):=(by rw[C];exact⟨by omega,by omega,by omega⟩);obtain⟨T',t,k1,X⟩:=b42 s.P.To (by omega) s.Rs (by omega) x (by omega) (htx x (O8 hx)) N G.ty;rw[d9 c20,f9,B7 (by omega),Ak Q,d6,C,b30 hx,k1,d6];by_cases c0:t=0
  ·obtain⟨f,f1,V⟩:=Bg s 8 (by decide) b (by rw[C];exact J);rw[f6 c0,l6,f1];exact⟨0,_,rfl,(G.fault f (λh=>absurd h V)).more (by omega),Ex.fault l s f V _ _,.inl rfl,λh=>absurd h V⟩
  ·have hT:E4 s.P.To t/\(x.Ks=19->TKn s.P.To t 6):=by
    rcases X with h|h
    ·exact absurd h c0
    ·exact h
   rw[d9 c0,f9];simp only;rw[Ep s (by omega) b (by omega)];exact⟨t,_,rfl,(G.mark b _ (by have:=hT.1.1;simp only;omega) hT.1.2.1).more (by omega),Ex.mark l s b _ b O (l5 _) (by omega) h5,.inr hT.1,λ_=>.inr ⟨⟨c14,hT.2,λh=>absurd h c20⟩,hT.1⟩⟩
end
end
section
def l9(ks:List Nat):List Int:=ks.map λ(k:Nat)=>(k:Int)
theorem C3(ks:List Nat):(l9 ks).length=ks.length:=by unfold l9;rw[F5]
theorem E3{ks:List Nat}{i:Nat}(h:i<ks.length):f7 (l9 ks) (i:Int)=some ((ks[i]:Nat):Int):=by rw[p9 (by rw[C3];exact h)];simp[l9]
theorem F6{ks:List Nat}{i:Nat}(h:i<ks.length):(l9 ks)[i]? =some ((ks[i]:Nat):Int):=by simp[l9,h]
theorem dC(ks:List Nat)(i:Nat):B4 (l9 ks) (0:Int) (i:Int)=l9 (ks.take i):=by unfold B4 l9;rw[List.map_take];simp
theorem Kc.sorted{l:List d7}{i j:Nat}{ks:List Nat}(h:Kc l i j ks):ks.Pairwise (· < ·):=by
 induction h with
 |nil=>exact List.Pairwise.nil
 |cons i k j x ks hx hs hk kids rest ih=>exact List.Pairwise.cons (λp z=>by have:=(rest.mem p z).1;omega) ih
theorem ZJ{l:List d7}(hM:L0 l)(hl:l.length<=30000)(k:Int):∃ts:List Nat,eC d5 l k=some ((l9 ts,()),())/\ts.length<=l.length/\(∀p∈ts,∃x,l[p]? =some x/\x.Ks=k)/\ts.Pairwise (· < ·):=by
 obtain⟨x,hx,U,V,h0,S⟩:=hM.root;obtain⟨ks,z⟩:=S.kc;have O:=z.le;have C:=Z0 (l:=l) (by omega) hx (st:=l.length) (by omega) (l5 _) z;have G:∀(n i:Nat),ks.length-i=n->aA d5 l k ((l9 ks,()),()) (i:Int) (l9 ((ks.take i).filter λp=>decide (kd l p=k)))=some ((l9 (ks.filter λp=>decide (kd l p=k)),()),()):=by
  intro n
  induction n with
  |zero=>intro i hi;rw[a0H,Xk];simp only[C3];rw[d9 (by omega),f9,b33,qA,List.take_of_length_le (by omega)]
  |succ n ih=>
   intro i hi;have B:i<ks.length:=(by omega);obtain⟨_,_,y,q,F,_⟩:=z.mem _ (B0 B);have H:=(o9.1 F).1;have K:=(o9.1 F).2;have g:=E3 B;have M:=F6 B;have I:=List.length_filter_le (λp=>decide (kd l p=k)) (ks.take i);rw[List.length_take]at I;have Q:(l9 ((ks.take i).filter λp=>decide (kd l p=k))).length+ [((ks[i]:Nat):Int)].length<=100000000:=(by rw[C3,C2];omega);have e:=ih (i+1) (by omega);rw[List.take_add_one,w9 B,List.filter_append]at e;rw[a0H,Xk];simp only[C3];rw[f6 (by omega),l6,g,d6,F9,M,d6,p9 H,K,d6,B7 (by omega)];by_cases c:y.Ks=k
   ·have J:l9 ((ks.take i).filter λp=>decide (kd l p=k))++[((ks[i]:Nat):Int)]=l9 ((ks.take i).filter (λp=>decide (kd l p=k))++(Option.toList (some ks[i])).filter λp=>decide (kd l p=k)):=by simp[l9,x4 F,c]
    rw[f6 c,l6,d6,d6,N5 (by decide) Q,d6,J];exact e
   ·have J:(ks.take i).filter (λp=>decide (kd l p=k))++(Option.toList (some ks[i])).filter (λp=>decide (kd l p=k))=(ks.take i).filter λp=>decide (kd l p=k):=by simp[x4 F,c]
    rw[J]at e;rw[d9 c,f9];exact e
 rw[b1s,nB,show Ai d5 l 0=_ from C,d6];have L:=G _ 0 rfl;rw[List.take_zero]at L;refine⟨_,L,?_,λp R=>?_,z.sorted.filter _⟩
 ·have:=List.length_filter_le (λp=>decide (kd l p=k)) ks;omega
 ·obtain⟨P,N⟩:=List.mem_filter.1 R;obtain⟨_,_,y,q,F,_⟩:=z.mem p P;refine⟨y,F,?_⟩;rw[<-x4 F];exact F3 N
theorem kP{l:List d7}(ks:List Nat)(F:∀p∈ks,p<l.length)(G:ks.length<=30000)(s:b6H):∃b,Ph d5 l (l9 ks) s=some ((b,()),()):=by
 have z:∀(n i:Nat),ks.length-i=n->∃b,bT d5 l (l9 ks) s (i:Int)=some ((b,()),()):=by
  intro n
  induction n with
  |zero=>intro i hi;rw[UT,Zu,C3,d9 (by omega),f9,b1f,kS];exact⟨_,rfl⟩
  |succ n ih=>
   intro i hi;have B:i<ks.length:=(by omega);have C:=F _ (B0 B);have e:=ih (i+1) (by omega);rw[UT,Zu,C3,f6 (by omega),l6,E3 B,d6,p9 C,d6,B7 (by omega)];cases decide (l[ks[i]].Ds=s)with
   |true=>exact⟨_,rfl⟩
   |false=>exact e
 rw[a2c,jI];exact z _ 0 rfl
theorem KP(s:b6H):∃n:Int,nJ d5 s=some ((n,()),())/\0<=n/\n<=8:=by
 have z:∀(W:List (b6H)) (hd:W=([([]:b6H),([108,101,110]:b6H),([116,101,120,116]:b6H),([114,101]:b6H),([105,109]:b6H),([112,97,105,114]:b6H),([99,104,114]:b6H),([114,101,97,100]:b6H),([114,97,110,100]:b6H)]:List (b6H))) (C:W.length=9),∀(n i:Nat),W.length-i=n->∃n:Int,kK d5 s (i:Int)=some ((n,()),())/\0<=n/\n<=8:=by
  intro W hd C n
  induction n with
  |zero=>intro i hi;rw[a0I,Xp,<-hd,d9 (by omega),f9,a6H,hH];exact⟨0,rfl,by omega,by omega⟩
  |succ n ih=>
   intro i hi;have B:i<W.length:=(by omega);have e:=ih (i+1) (by omega);rw[a0I,Xp,<-hd,f6 (by omega),l6,p9 B,d6,F9,w9 B,d6,B7 (by omega)];cases decide (W[i]=s)with
   |true=>exact⟨_,rfl,by omega,by omega⟩
   |false=>exact e
 rw[a6l,lU];exact z _ rfl rfl _ 0 rfl
theorem VT(s:d8)(F:s.P.As.length<=100000000000)(z:b6H):∃n:Int,uK d5 s z=some ((n,()),())/\ -1<=n/\n<s.P.As.length:=by
 have B:∀(n i:Nat),s.P.As.length-i=n->∃n:Int,rN d5 z s (i:Int)=some ((n,()),())/\ -1<=n/\n<s.P.As.length:=by
  intro n
  induction n with
  |zero=>intro i hi;rw[NP,Zn,d9 (by omega),f9,b0i,vY];exact⟨-1,rfl,by omega,by omega⟩
  |succ n ih=>
   intro i hi;have C:i<s.P.As.length:=(by omega);have e:=ih (i+1) (by omega);rw[NP,Zn,f6 (by omega),l6,p9 C,d6,B7 (by omega)];cases decide (s.P.As[i].If=z)with
   |true=>exact⟨_,rfl,by omega,by omega⟩
   |false=>exact e
 rw[a3W,nZ];exact B _ 0 rfl
theorem a8l(n:Nat)(H:n<=30000):∃T,FZ d5 (n:Int)=some ((T,()),())/\Cb (min n 100) T/\T.length=6+min n 100:=by
 have z:∀(m i:Nat) (T:List v7),min n 100-i=m->i<=min n 100->Cb i T->T.length=6+i->∃C,dI d5 (n:Int) (i:Int) T=some ((C,()),())/\Cb (min n 100) C/\C.length=6+min n 100:=by
  intro m
  induction m with
  |zero=>
   intro i T hi F h hl;have:i=min n 100:=(by omega);rw[OF,Tt,b3G,fJ,<-this];refine⟨T,?_,h,hl⟩;by_cases c:(i:Int)<(n:Int)
   ·rw[f6 c,d9 (by omega)];rfl
   ·rw[d9 c];rfl
  |succ m ih=>
   intro i T hi F h hl;have G:T.length+ [(v7.mk 6 (i:Int))].length<=100000000:=(by rw[C2];omega);rw[OF,Tt,f6 (by omega),f6 (by omega),l6,l6,N5 (by decide) G,d6,B7 (by omega)];refine ih (i+1) _ (by omega) (by omega) ⟨?_,λj B=>?_,λj B=>?_,λj x B hx=>?_⟩ (by rw[t8,C2];omega)
   ·rw[t8,C2];omega
   ·rw[Ae (by omega)];exact h.base j B
   ·by_cases c:j<i
    ·rw[Ae (by omega)];exact h.recs j c
    ·have:j=i:=(by omega);subst this;rw[Fb (by omega)];have:6+j-T.length=0:=(by omega);rw[this];rfl
   ·have:=(o9.1 hx).1;rw[t8,C2]at this;omega
 rw[a4F,tQ];refine z _ 0 _ rfl (D2 _) ⟨by simp,λi hi=>?_,λi hi=>absurd hi (Nat.not_lt_zero _),λi x hi hx=>?_⟩ rfl
 ·have:i=0\/i=1\/i=2\/i=3\/i=4\/i=5:=(by omega);rcases this with rfl|rfl|rfl|rfl|rfl|rfl<;>rfl
 ·have:=(o9.1 hx).1;simp at this;omega
section
variable{l:List d7}(hM:L0 l)(hl:l.length<=30000)(htx:∀n∈l,n.Ds.length<=65536)
include hM hl htx
theorem a4L(b:Nat)(x:d7)(st:Nat)(hx:l[b]? =some x)(J:x.Cs=(st:Int)-(b+1))(G:14<=x.Ks/\x.Ks<=20)(s:d8)(C B:Nat)(H:RI l C B s)(I:B+(st-b)<=80000000000):∃t z,sM d5 s (b:Int)=some ((t,z,()),())/\RI l C (B+(st-b)) z/\Ex l s z b st/\(t=0\/E4 z.P.To t)/\(z.F.Code=0->x.Ks=14/\t=0\/(x.Ks≠14/\TKd z.P.To t x.Ks)/\E4 z.P.To t):=
 DA hM hl htx _ (λa b=>by rw[a98,eW,RM,DZ]) _ b x st hx J rfl G s C B H I
theorem YD(b:Nat)(x:d7)(st:Nat)(hx:l[b]? =some x)(J:x.Cs=(st:Int)-(b+1))(G:14<=x.Ks/\x.Ks<=20)(s:d8)(C B:Nat)(H:RI l C B s)(I:B+(st-b)<=80000000000):∃t z,aZ d5 s (b:Int)=some ((t,z,()),())/\RI l C (B+(st-b)) z/\Ex l s z b st/\(t=0\/E4 z.P.To t)/\(z.F.Code=0->x.Ks=14/\t=0\/(x.Ks≠14/\TKd z.P.To t x.Ks)/\E4 z.P.To t):=
 DA hM hl htx _ (λa b=>by rw[a3u,oM,ID,Pd]) _ b x st hx J rfl G s C B H I
theorem VP(b:Nat)(x:d7)(st:Nat)(hx:l[b]? =some x)(J:x.Cs=(st:Int)-(b+1))(G:14<=x.Ks/\x.Ks<=20)(s:d8)(C B:Nat)(H:RI l C B s)(I:B+(st-b)<=80000000000):∃t z,Vt d5 s (b:Int)=some ((t,z,()),())/\RI l C (B+(st-b)) z/\Ex l s z b st/\(t=0\/E4 z.P.To t)/\(z.F.Code=0->x.Ks=14/\t=0\/(x.Ks≠14/\TKd z.P.To t x.Ks)/\E4 z.P.To t):=
 DA hM hl htx _ (λa b=>by rw[a3m,nI,Sv]) _ b x st hx J rfl G s C B H I
end
end
section
structure Kp(s s':d8):Prop where
 fns:s'.P.As=s.P.As
 slots:s'.P.Ss=s.P.Ss
 vars:s'.P.Vars=s.P.Vars
 points:s'.P.Do=s.P.Do
 own:s'.Rs=s.Rs
 bad:s.F.Code≠0->s'.F.Code≠0
theorem Kp.refl(s:d8):Kp s s:=⟨rfl,rfl,rfl,rfl,rfl,id⟩
theorem Kp.trans{s C B:d8}(h:Kp s C)(z:Kp C B):Kp s B:=⟨z.fns.trans h.fns,z.slots.trans h.slots,z.vars.trans h.vars,z.points.trans h.points,z.own.trans h.own,λF=>z.bad (h.bad F)⟩
theorem Ex.kp{l:List d7}{s z:d8}{lo hi:Nat}(h:Ex l s z lo hi):Kp s z:=⟨h.fns,h.slots,h.vars,h.points,h.own,h.bad⟩
theorem Kp.fault(s:d8)(f:A7)(z:f.Code≠0):Kp s ⟨s.P,s.Rs,f⟩:=⟨rfl,rfl,rfl,rfl,rfl,λ_=>z⟩
section
variable{l:List d7}(hM:L0 l)(hl:l.length<=30000)(htx:∀n∈l,n.Ds.length<=65536)
include hM hl htx
theorem a1J(a:d8)(Y:a.P.No=l)(ts:List Nat)(L:∀p∈ts,p<l.length)(aa:ts.length<=l.length):∀(n c:Nat) (d:d8) (M:List l8),ts.length-c=n->c<=ts.length->d.P=⟨l,M,[],[],[],[],[],[],[]⟩->M.length=l.length->(∀m∈M,m.Ts=0)->d.Rs.length=c->(100<c->d.F.Code≠0)->∃(B:d8) (M':List l8),Up d5 a ((l9 ts,()),()) (c:Int) d=Tq d5 a ((l9 ts,()),()) B/\B.P=⟨l,M',[],[],[],[],[],[],[]⟩/\M'.length=l.length/\(∀m∈M',m.Ts=0)/\B.Rs.length=ts.length/\(100<ts.length->B.F.Code≠0):=by
 intro n
 induction n with
 |zero=>intro c d M hn hc I H C Z X;have:c=ts.length:=(by omega);rw[TH,aT];simp only[C3];rw[d9 (by omega),f9];exact⟨d,M,rfl,I,H,C,by omega,λh=>X (by omega)⟩
 |succ n ih=>
  intro c d M hn hc I H C Z X;have O:c<ts.length:=(by omega);have J:=L _ (B0 O);have g:=E3 O;have V:∀z:d8,z.P=d.P->z.Rs=d.Rs->(100<=c->z.F.Code≠0)->∃(B:d8) (M':List l8),kG d5 a ((l9 ts,()),()) (c:Int) z=Tq d5 a ((l9 ts,()),()) B/\B.P=⟨l,M',[],[],[],[],[],[],[]⟩/\M'.length=l.length/\(∀m∈M',m.Ts=0)/\B.Rs.length=ts.length/\(100<ts.length->B.F.Code≠0):=by
   intro z G K R;have N:ts[c]<z.P.Ms.length:=(by rw[G,I];simp only;omega);have hz:z.Rs.length+ [l[ts[c]].Ds].length<=100000000:=(by rw[K,C2];omega);rw[b0d,cU];simp only;rw[g,d6,Ep z (by rw[G,I];simp only;omega) _ N,d6,d6,Y,p9 J,d6];have e:((A4 z ts[c] (l8.mk 0 (c:Int) 0),()):d8 × Unit).1.Rs=z.Rs:=rfl;simp only;rw[show(A4 z ts[c] (l8.mk 0 (c:Int) 0)).Rs=z.Rs from rfl,N5 (by decide) hz,d6,b1w,bR,B7 (by omega)];refine ih (c+1) _ (M.set ts[c] (l8.mk 0 (c:Int) 0)) (by omega) (by omega) ?_ (by rw[Hf];exact H) (λm N=>?_) ?_ (λh=>R (by omega))
   ·show(A4 z ts[c] (l8.mk 0 (c:Int) 0)).P=_;unfold A4;simp only[G,I]
   ·rcases List.mem_or_eq_of_mem_set N with N|rfl
    ·exact C m N
    ·rfl
   ·show(z.Rs++_).length=_;rw[K,t8,C2,Z]
  have j2:∀z:d8,z.P=d.P->z.Rs=d.Rs->(100<=c->z.F.Code≠0)->∃(B:d8) (M':List l8),fU d5 a ((l9 ts,()),()) (c:Int) z=Tq d5 a ((l9 ts,()),()) B/\B.P=⟨l,M',[],[],[],[],[],[],[]⟩/\M'.length=l.length/\(∀m∈M',m.Ts=0)/\B.Rs.length=ts.length/\(100<ts.length->B.F.Code≠0):=by
   intro z G K R;obtain⟨b,U⟩:=kP (l:=l) (ts.take c) (λp J=>L p (List.mem_of_mem_take J)) (by rw[List.length_take];omega) l[ts[c]].Ds;rw[a8a,pG];simp only[C3];rw[Ak (show F1 (0:Int) (c:Int) (ts.length:Int)from⟨by omega,by omega,by omega⟩),d6,g,d6,Y,p9 J,d6,dC,U,d6];cases b with
   |false=>exact V z G K R
   |true=>obtain⟨f,Q,S⟩:=Bg z 7 (by decide) ts[c] (by rw[G,I];exact J);rw[l6,d6,NT,Q,d6];exact V ⟨z.P,z.Rs,f⟩ G K (λ_=>S)
  rw[TH,aT];simp only[C3];rw[f6 (by omega),l6];by_cases c100:(c:Int)>=100
  ·obtain⟨f,Q,S⟩:=Bg d 13 (by decide) ts[c] (by rw[I];exact J);rw[f6 c100,l6,g,d6,NT,Q,d6];exact j2 ⟨d.P,d.Rs,f⟩ rfl rfl (λ_=>S)
  ·rw[d9 c100,f9];exact j2 d rfl rfl (λh=>absurd h (by omega))
theorem b35(a:d8)(ha:a.P.No=l)(b:RT3)(I:Int)(ks:List Nat)(az:ks.length<=l.length)(aa:∀p∈ks,kd l p=3)(N:Int)(M st:Nat)(av:st<=l.length):∀(n h c0:Nat) (j:d8) (B:Nat),ks.length-h=n->h<=ks.length->Kc l c0 st (ks.drop h)->RI l M B j->B+(st-c0)<=80000000000->(∃z,Se d5 a b I ((l9 ks,()),()) N I (h:Int) j=some ((z,()),())/\RI l M (B+(st-c0)) z/\Kp j z/\z.F.Code≠0)\/∃z,Se d5 a b I ((l9 ks,()),()) N I (h:Int) j=aR d5 a b I ((l9 ks,()),()) N I z/\RI l M (B+(st-c0)) z/\Kp j z/\z.P.Hs.length=j.P.Hs.length+n/\z.P.Rs=j.P.Rs:=by
 intro n
 induction n with
 |zero=>intro h c0 j B hn hh hK hR hB;rw[a0e,Yg];simp only[C3];rw[d9 (by omega),f9];exact .inr ⟨j,rfl,hR.more (by omega),Kp.refl _,rfl,rfl⟩
 |succ n ih=>
  intro h c0 j B hn hh hK hR hB;have Q:h<ks.length:=(by omega);have g:=E3 Q;rw[P0 Q]at hK;obtain⟨ek,x,q,hx,a0,ay,ax,R⟩:=hK.first
  have al:=aa _ (B0 Q);have S:=(o9.1 hx).1;have hp:ks[h]<l.length:=(by rw[ek];exact S);have ag:x.Ks=3:=(by rw[<-x4 hx,<-ek];exact al);have ab:=hR.nodes;obtain⟨V,kk,t1,t2,t3,t4,t5,t6,t7⟩:=hM.nd c0 x hx;have ai:V=q:=(by omega);subst ai;obtain⟨e1,e2⟩:=J7 (t6.k3 (.inl ag));obtain⟨k0,X,rfl⟩:∃k X,kk=k::X:=by
   cases kk with
   |nil=>simp at e1
   |cons k kk=>exact⟨k,kk,rfl⟩
  have am:=Z8 (e2 0 (by simp) (by simp));obtain⟨rfl,y,q2,hy,ak,ar,au,_⟩:=t5.first
  rw[K5,x4 hy]at am;have j8:∀C:d8,C.P=j.P->C.Rs=j.Rs->(j.F.Code≠0->C.F.Code≠0)->
    (∃z,Vp d5 a b I ((l9 ks,()),()) N (h:Int) I C=some ((z,()),())/\RI l M (B+(st-c0)) z/\Kp j z/\z.F.Code≠0)\/
    ∃z,Vp d5 a b I ((l9 ks,()),()) N (h:Int) I C=aR d5 a b I ((l9 ks,()),()) N I z/\RI l M (B+(st-c0)) z/\Kp j z/\z.P.Hs.length=j.P.Hs.length+(n+1)/\z.P.Rs=j.P.Rs:=by
   intro C L Z h3;have ad:RI l M B C:=by have:=hR.fault C.F (λc=>Y5 λhc=>h3 hc c);rw[<-L,<-Z]at this;exact this
   have J:Kp j C:=⟨by rw[L],by rw[L],by rw[L],by rw[L],Z,h3⟩;rw[a9m,tH,V6,d6];by_cases cb:C.F.Code=0
   ·obtain⟨t,G,k1,k2,k3,k4,k5⟩:=a4L hM hl htx (c0+1) y q2 hy ak (by omega) C M B ad (by omega);have ac:=k2.big;unfold tot at ac;have aw:=k2.marks;rw[f6 cb,B8,f9];simp only;rw[g,d6,B7 (by omega),ek,k1,d6,d6,RM];simp only;rw[Ep G (by omega) c0 (by omega),d6,d6,ha,p9 S,d6];have hz:G.P.Hs.length+ [(U5.mk l[c0].Ds t)].length<=100000000000:=(by rw[C2];omega);have tT:0<=t/\t<G.P.To.length:=by
     have:=k2.ty.len;rcases k4 with rfl|k4
     ·omega
     ·have:=k4.1;have:=k4.2.1;omega
    have H:=k2.mark c0 (l8.mk t 0 0) tT.1 tT.2;simp only;rw[show(A4 G c0 (l8.mk t 0 0)).P.Hs=G.P.Hs from rfl,Ao (by decide) hz,d6,b5T,kQ,B7 (by omega)];simp only;have aq:y.Ks≠14:=(by omega);generalize K:(⟨⟨(A4 G c0 (l8.mk t 0 0)).P.No,(A4 G c0 (l8.mk t 0 0)).P.Ms,(A4 G c0 (l8.mk t 0 0)).P.To,(A4 G c0 (l8.mk t 0 0)).P.Rs,G.P.Hs++[(U5.mk l[c0].Ds t)],(A4 G c0 (l8.mk t 0 0)).P.As,(A4 G c0 (l8.mk t 0 0)).P.Ss,(A4 G c0 (l8.mk t 0 0)).P.Vars,(A4 G c0 (l8.mk t 0 0)).P.Do⟩,(A4 G c0 (l8.mk t 0 0)).Rs,(A4 G c0 (l8.mk t 0 0)).F⟩:d8)=s2;have hF:s2.F=G.F:=(by rw[<-K];rfl);have ah:s2.P.Hs=G.P.Hs++[(U5.mk l[c0].Ds t)]:=(by rw[<-K]);have O:Kp G s2:=(by rw[<-K];exact⟨rfl,rfl,rfl,rfl,rfl,id⟩);have aj:s2.P.Rs=j.P.Rs:=(by rw[<-K];exact k3.recs.trans (by rw[L]));have an:s2.P.Hs.length=j.P.Hs.length+1:=(by rw[ah,t8,C2,k3.fields,L]);have ae:RI l M (B+(q2-(c0+1))+1) s2:=by
     rw[<-K];refine⟨H.nodes,H.marks,?_,H.ty,H.mt,λcg f U=>?_,λr hr=>?_,H.fn,H.sl⟩
     ·have:=H.big;unfold tot at this⊢;simp only[t8,C2];have e:(A4 G c0 (l8.mk t 0 0)).P.Hs=G.P.Hs:=rfl;rw[e]at this;omega
     ·rcases A3.1 U with U|U
      ·exact H.fl cg f U
      ·rw[K4.1 U];rcases k5 cg with⟨h,_⟩|⟨_,h⟩
       ·exact absurd h aq
       ·exact h
     ·have:=H.rc r hr;have e:(A4 G c0 (l8.mk t 0 0)).P.Hs=G.P.Hs:=rfl;rw[e]at this;exact⟨this.1,this.2.1,by simp only[t8,C2];omega⟩
    rcases ih (h+1) V s2 (B+(q2-(c0+1))+1) (by omega) (by omega) R ae (by omega)with⟨z,m1,m2,m3,m4⟩|⟨z,m1,m2,m3,m4,m5⟩
    ·exact .inl ⟨z,m1,m2.more (by omega),(J.trans k3.kp).trans (O.trans m3),m4⟩
    ·exact .inr ⟨z,m1,m2.more (by omega),(J.trans k3.kp).trans (O.trans m3),by omega,m5.trans aj⟩
   ·rw[d9 cb];exact .inl ⟨C,rfl,ad.more (by omega),J,cb⟩
  have j9:∀C:d8,C.P=j.P->C.Rs=j.Rs->(j.F.Code≠0->C.F.Code≠0)->
    (∃z,aU d5 a b I ((l9 ks,()),()) N (h:Int) I C=some ((z,()),())/\RI l M (B+(st-c0)) z/\Kp j z/\z.F.Code≠0)\/
    ∃z,aU d5 a b I ((l9 ks,()),()) N (h:Int) I C=aR d5 a b I ((l9 ks,()),()) N I z/\RI l M (B+(st-c0)) z/\Kp j z/\z.P.Hs.length=j.P.Hs.length+(n+1)/\z.P.Rs=j.P.Rs:=by
   intro C L Z h3;have Y:∀p∈ks.take h,p<l.length:=by
    intro p af;have:=aa p (List.mem_of_mem_take af);unfold kd at this;split at this
    ·rename_i y' ao;exact(o9.1 ao).1
    ·omega
   obtain⟨b',ap⟩:=kP (l:=l) (ks.take h) Y (by rw[List.length_take];omega) l[ks[h]].Ds;rw[a4v,sY];simp only[C3];rw[Ak (show F1 (0:Int) (h:Int) (ks.length:Int)from⟨by omega,by omega,by omega⟩),d6,g,d6,ha,p9 hp,d6,dC,ap,d6];cases b' with
   |false=>exact j8 C L Z h3
   |true=>obtain⟨f,f1,f2⟩:=Bg C 7 (by decide) ks[h] (by rw[L,ab];exact hp);rw[l6,d6,DZ,f1,d6];exact j8 ⟨C.P,C.Rs,f⟩ L Z (λ_=>f2)
  rw[a0e,Yg];simp only[C3];rw[f6 (by omega),l6];by_cases c100:(h:Int)>=100
  ·obtain⟨f,f1,f2⟩:=Bg j 13 (by decide) ks[h] (by rw[ab];exact hp);rw[f6 c100,l6,g,d6,DZ,f1,d6];exact j9 ⟨j.P,j.Rs,f⟩ rfl rfl (λ_=>f2)
  ·rw[d9 c100,f9];exact j9 j rfl rfl id
end
end
section
theorem a1K{k:Int}(h:I3 k=102):k=3:=by
 unfold I3 sk2 sk1 sk0 at h
 repeat' split at h
 all_goals omega
theorem b4r{k:Int}(h:I3 k=112):k=5:=by
 unfold I3 sk2 sk1 sk0 at h
 repeat' split at h
 all_goals omega
theorem Sr{k:Int}(h:I3 k=98):k=6:=by
 unfold I3 sk2 sk1 sk0 at h
 repeat' split at h
 all_goals omega
theorem a1r{k:Int}(h:I3 k=48):k=14:=by
 unfold I3 sk2 sk1 sk0 at h
 repeat' split at h
 all_goals omega
theorem M2{k:Int}(h:I3 k=101):21<=k/\k<=32:=by
 unfold I3 sk2 sk1 sk0 at h
 repeat' split at h
 all_goals omega
theorem fK{k:Int}(h:I3 k=115):7<=k/\k<=13:=by
 unfold I3 sk2 sk1 sk0 at h
 repeat' split at h
 all_goals omega
theorem Qo{l:List d7}{ks:List Nat}{c:Int}(h:∀s∈G8 l ks,s=c):∀p∈ks,I3 (kd l p)=c:=λp z=>h _ (List.mem_map.2 ⟨p,z,rfl⟩)
section
variable{l:List d7}(hM:L0 l)(hl:l.length<=30000)(htx:∀n∈l,n.Ds.length<=65536)
include hM hl htx
theorem a6i(a:d8)(V:a.P.No=l)(ts:List Nat)(U:∀p∈ts,∃x,l[p]? =some x/\x.Ks=2)(ab:ts.length<=l.length)(M:Nat):∀(n c:Nat) (d:d8) (B:Nat),ts.length-c=n->c<=ts.length->RI l M B d->d.P.Rs.length=c->B+(l.length+1)*n<=80000000000->∃G,vD d5 a ((l9 ts,()),()) (c:Int) d=some ((G,()),())/\RI l M (B+(l.length+1)*n) G/\Kp d G/\(G.F.Code=0->G.P.Rs.length=ts.length):=by
 intro n
 induction n with
 |zero=>intro c d B hn hc X Q hB;rw[QB,Zr];simp only[C3];rw[d9 (by omega),f9,a2R,dJ];exact⟨d,rfl,X.more (by omega),Kp.refl _,λ_=>by omega⟩
 |succ n ih=>
  intro c d B hn hc X Q hB;have L:c<ts.length:=(by omega);have g:=E3 L;obtain⟨x,hx,hk⟩:=U _ (B0 L);have N:=(o9.1 hx).1;obtain⟨st,ks,t1,t2,t3,t4,Z,t6,t7⟩:=hM.nd _ x hx;have I:∀p∈ks,kd l p=3:=λp hp=>a1K (Qo (t6.k2 hk) p hp);have aa:=Z.le;have ac:B+(l.length+1)*n+(l.length+1)<=80000000000:=(by rw[Nat.mul_succ]at hB;omega);rw[QB,Zr];simp only[C3];rw[f6 (by omega),l6,g,d6,V,Z0 (by omega) hx t1 t3 Z,d6];have hS:=b35 hM hl htx a V ((l9 ts,()),()) (c:Int) ks (by omega) I (d.P.Hs.length:Int) M st t3 _ 0 (ts[c]+1) d B rfl (D2 _) (by rw[W3];exact Z) X (by omega);rcases hS with⟨z,S,C,O,m4⟩|⟨z,S,C,O,m4,m5⟩
  ·exact⟨z,S,C.more (by rw[Nat.mul_succ];omega),O,λh=>absurd h m4⟩
  ·have K:=C.big;unfold tot at K;have hz:z.P.Rs.length+ [(Q3.mk l[ts[c]].Ds (d.P.Hs.length:Int) ((l9 ks).length:Int))].length<=100000000000:=(by rw[C2];omega);rw[show Se d5 a ((l9 ts,()),()) (c:Int) ((ks.map (λ(k:Nat)=>(k:Int)),()),()) (d.P.Hs.length:Int) (c:Int) 0 d=_ from S,b4l,oQ];simp only;rw[g,d6,V,p9 N,d6,Ao (by decide) hz,d6,b2r,mP,B7 (by omega)];generalize H:(⟨⟨z.P.No,z.P.Ms,z.P.To,z.P.Rs++[(Q3.mk l[ts[c]].Ds (d.P.Hs.length:Int) ((l9 ks).length:Int))],z.P.Hs,z.P.As,z.P.Ss,z.P.Vars,z.P.Do⟩,z.Rs,z.F⟩:d8)=s2;have Y:RI l M (B+(st-(ts[c]+1))+1) s2:=by
    rw[<-H];refine⟨C.nodes,C.marks,?_,C.ty,C.mt,C.fl,λr J=>?_,C.fn,C.sl⟩
    ·have:=C.big;unfold tot at this⊢;simp only[t8,C2];omega
    ·rcases A3.1 J with J|J
     ·exact C.rc r J
     ·rw[K4.1 J,C3];simp only;omega
   have R:Kp z s2:=(by rw[<-H];exact⟨rfl,rfl,rfl,rfl,rfl,id⟩);obtain⟨G,r1,r2,r3,r4⟩:=ih (c+1) s2 _ (by omega) (by omega) Y (by rw[<-H];simp only[t8,C2];rw[m5];omega) (by omega);exact⟨G,r1,r2.more (by rw[Nat.mul_succ];omega),(O.trans R).trans r3,r4⟩
structure VU(l:List d7)(nr:Nat)(s:d8):Prop where
 ri:RI l nr (20*(l.length+10)*(l.length+10)) s
 fns:s.P.As=[]
 slots:s.P.Ss=[]
 vars:s.P.Vars=[]
 points:s.P.Do=[]
 recs:s.F.Code=0->s.P.Rs.length=nr
theorem b5V(M:List l8)(I:M.length=l.length)(K:∀m∈M,m.Ts=0):∃B N,DI d5 ⟨⟨l,M,[],[],[],[],[],[],[]⟩,[],⟨0,0,0⟩⟩=some ((B,()),())/\VU l N B/\N<=100:=by
 obtain⟨ts,Z,G,P,_⟩:=ZJ hM hl 2;have J:∀p∈ts,p<l.length:=λp hp=>by obtain⟨x,hx,_⟩:=P p hp;exact(o9.1 hx).1
 obtain⟨C,M',g1,Y,g3,g4,g5,Q⟩:=a1J hM hl htx ⟨⟨l,M,[],[],[],[],[],[],[]⟩,[],⟨0,0,0⟩⟩ rfl ts J G _ 0 ⟨⟨l,M,[],[],[],[],[],[],[]⟩,[],⟨0,0,0⟩⟩ M rfl (D2 _) rfl I K rfl (λh=>absurd h (by omega));obtain⟨T,S,b2,b3⟩:=a8l ts.length (by omega);rw[a65,nR];simp only;rw[Z,d6,show Up d5 _ ((l9 ts,()),()) 0 _=_ from g1,b5C,lC];simp only[C3];rw[S,d6,Y];have hR:RI l (min ts.length 100) (106+ts.length) ⟨⟨l,M',T,[],[],[],[],[],[]⟩,C.Rs,C.F⟩:=by
  refine⟨rfl,g3,?_,b2,λm hm=>?_,λ_ f H=>(nomatch H),λr hr=>(nomatch hr),λf H=>(nomatch H),λ_ t V=>(nomatch V)⟩
  ·unfold tot;simp only[K8];omega
  ·have:=g4 m hm;simp only;omega
 have R:(l.length+1)*ts.length<=(l.length+1)*l.length:=Nat.mul_le_mul_left _ G;have O:(l.length+1)*l.length<=30001*30000:=Nat.mul_le_mul (by omega) hl;obtain⟨B,U,r2,z,X⟩:=a6i hM hl htx ⟨⟨l,M,[],[],[],[],[],[],[]⟩,[],⟨0,0,0⟩⟩ rfl ts P G (min ts.length 100) _ 0 ⟨⟨l,M',T,[],[],[],[],[],[]⟩,C.Rs,C.F⟩ _ rfl (D2 _) hR rfl (by simp only[Nat.sub_zero];omega);refine⟨B,min ts.length 100,U,⟨r2.more ?_,z.fns,z.slots,z.vars,z.points,λL=>?_⟩,by omega⟩
 ·have e:20*(l.length+10)*(l.length+10)=20*((l.length+10)*(l.length+10)):=Nat.mul_assoc _ _ _;have e2:(l.length+10)*(l.length+10)=(l.length+1)*l.length+(19*l.length+100):=by have:(l.length+10)=(l.length+1)+9:=(by omega);rw[Nat.add_mul,Nat.mul_add];have:10*(l.length+10)=10*l.length+100:=(by omega);rw[this,Nat.add_mul,Nat.one_mul];omega
  simp only[Nat.sub_zero];rw[e,e2];omega
 ·have:=X L;by_cases c:100<ts.length
  ·exact absurd L (z.bad (Q c))
  ·omega
end
end
section
theorem Kc.det{l:List d7}{i j:Nat}{a:List Nat}(h:Kc l i j a):∀{b:List Nat},Kc l i j b->a=b:=by
 induction h with
 |nil i=>
  intro b z;cases b with
  |nil=>rfl
  |cons k b=>
   obtain⟨_,x,q,_,_,H,C,_⟩:=z.first
   omega
 |cons i k j x ks hx hs hk kids rest ih=>
  intro b z;have G:=rest.le;cases b with
  |nil=>cases z;omega
  |cons k' b=>
   obtain⟨rfl,y,q,B,I,H,C,F⟩:=z.first
   rw[hx]at B;cases B;have:q=k:=(by omega);subst this;rw[ih F]
def J5(s:d8)(p:Nat):Prop:=∃m,s.P.Ms[p]? =some m/\E4 s.P.To m.Ts
def PmF(l:List d7)(s:d8)(f:x8):Prop:=∀(k st:Nat) (x:d7) (ks:List Nat),f.Gs=(k:Int)->l[k]? =some x->x.Cs=(st:Int)-(k+1)->Kc l (k+1) st ks->∀p∈ks,kd l p=5->J5 s p
theorem J5.ex{l:List d7}{s z:d8}{lo hi p:Nat}(h:J5 s p)(B:kd l p=5)(e:Ex l s z lo hi):J5 z p:=by obtain⟨m,F,C⟩:=h;exact⟨m,by rw[e.par p B];exact F,C.ext e.types⟩
theorem J5.mark{s:d8}{p:Nat}(h:J5 s p)(i:Nat)(m:l8)(B:i=p->E4 s.P.To m.Ts):J5 (A4 s i m) p:=by
 obtain⟨C,z,F⟩:=h;by_cases e:i=p
 ·subst e;have hl:=(o9.1 z).1;exact⟨m,by unfold A4;simp only;rw[T0 hl],B rfl⟩
 ·exact⟨C,by unfold A4;simp only;rw[Bz e];exact z,F⟩
theorem J5.self{s:d8}{p:Nat}(z:p<s.P.Ms.length)(m:l8)(B:E4 s.P.To m.Ts):J5 (A4 s p m) p:=
 ⟨m,by unfold A4;simp only;rw[T0 z],B⟩
structure Kh(s s':d8):Prop where
 slots:s'.P.Ss=s.P.Ss
 vars:s'.P.Vars=s.P.Vars
 points:s'.P.Do=s.P.Do
 recs:s'.P.Rs=s.P.Rs
 own:s'.Rs=s.Rs
 bad:s.F.Code≠0->s'.F.Code≠0
theorem Kh.refl(s:d8):Kh s s:=⟨rfl,rfl,rfl,rfl,rfl,id⟩
theorem Kh.trans{s C B:d8}(h:Kh s C)(z:Kh C B):Kh s B:=⟨z.slots.trans h.slots,z.vars.trans h.vars,z.points.trans h.points,z.recs.trans h.recs,z.own.trans h.own,λF=>z.bad (h.bad F)⟩
theorem Ex.kh{l:List d7}{s z:d8}{lo hi:Nat}(h:Ex l s z lo hi):Kh s z:=⟨h.slots,h.vars,h.points,h.recs,h.own,h.bad⟩
theorem Kh.mark(s:d8)(i:Nat)(m:l8):Kh s (A4 s i m):=⟨rfl,rfl,rfl,rfl,rfl,id⟩
theorem Qy{l:List d7}{x:d7}{k:Nat}{ks:List Nat}(h:Fam x.Ks x.Ns k (G8 l ks) (fkd l ks))(G:x.Ks=4):∃n:Nat,ks.length=n+2/\x.Ns=(n:Int)/\(∀(i:Nat) (z:i<ks.length),i<n->kd l ks[i]=5)/\(∀z:n<ks.length,14<=kd l ks[n]/\kd l ks[n]<=20)/\∀z:n+1<ks.length,kd l ks[n+1]=6:=by
 obtain⟨P,t,I,H,J,K⟩:=h.k4 G;obtain⟨F,B⟩:=J7 I;rw[t8]at F;refine⟨P.length,F,H,λi z C=>?_,λz=>?_,λz=>?_⟩
 ·have:=B i z (by rw[t8];omega);rw[List.getElem_append_left C]at this;exact b4r (this.trans (J _ (B0 C)))
 ·have:=B P.length z (by rw[t8];simp);rw[List.getElem_append_right (l5 _)]at this;simp only[Nat.sub_self,K5]at this;rcases K with rfl|rfl
  ·have:=Z8 this;omega
  ·have:=a1r this;omega
 ·have:=B (P.length+1) z (by rw[t8];simp);rw[List.getElem_append_right (by omega)]at this;have e:P.length+1-P.length=1:=(by omega);simp only[e,Dp,K5]at this;exact Sr this
section
variable{l:List d7}(hM:L0 l)(hl:l.length<=30000)(htx:∀n∈l,n.Ds.length<=65536)
include hM hl htx
theorem a6U(a:d8)(ha:a.P.No=l)(b:RT3)(I:Int)(H:Int)(ks:List Nat)(J:Nat)(bb:ks.length=J+2)(a0:ks.length<=l.length)(Y:∀(i:Nat) (K:i<ks.length),i<J->kd l ks[i]=5)(U st:Nat)(a7:st<=l.length):∀(n h c0:Nat) (j:d8) (B:Nat),J-h=n->h<=J->Kc l c0 st (ks.drop h)->RI l U B j->(j.F.Code=0->∀f∈j.P.As,PmF l j f)->(j.F.Code=0->∀p∈ks.take h,J5 j p)->(j.F.Code=0->h<=20)->B+(st-c0)<=80000000000->(∃z,Pe d5 a b I H ((l9 ks,()),()) (h:Int) I j=some ((z,()),())/\RI l U (B+(st-c0)) z/\Kh j z/\z.P.As=j.P.As/\z.F.Code≠0)\/∃z c1 M,Pe d5 a b I H ((l9 ks,()),()) (h:Int) I j=Mn d5 a b I H ((l9 ks,()),()) I z/\Kc l c1 st (ks.drop J)/\c0<=c1/\M=B+(c1-c0)/\RI l U M z/\Kh j z/\z.P.As=j.P.As/\(z.F.Code=0->∀f∈z.P.As,PmF l z f)/\(z.F.Code=0->∀p∈ks.take J,J5 z p)/\(z.F.Code=0->J<=20):=by
 intro n;have ew:w64 (((l9 ks).length:Int)-2)=(J:Int):=by rw[C3,wrap64 (by omega) (by omega)];omega
 induction n with
 |zero=>intro h c0 j B hn hh hK hR hP hG ab hB;have:h=J:=(by omega);subst this;rw[LO,aQ];simp only;rw[ew,d9 (by omega),f9];exact .inr ⟨j,c0,B,rfl,hK,l5 _,by omega,hR,Kh.refl _,rfl,hP,hG,ab⟩
 |succ n ih=>
  intro h c0 j B hn hh hK hR hP hG ab hB;have O:h<ks.length:=(by omega);have g:=E3 O;rw[P0 O]at hK;obtain⟨ek,x,q,hx,bc,ba,a9,V⟩:=hK.first
  have ap:=Y h O (by omega);have al:=(o9.1 hx).1;have hp:ks[h]<l.length:=(by rw[ek];exact al);have aj:x.Ks=5:=(by rw[<-x4 hx,<-ek];exact ap);have ag:=hR.nodes;obtain⟨Q,kk,t1,t2,t3,t4,t5,t6,t7⟩:=hM.nd c0 x hx;have ao:Q=q:=(by omega);subst ao;obtain⟨e1,e2⟩:=J7 (t6.k3 (.inr (.inl aj)));obtain⟨k0,ac,rfl⟩:∃k ac,kk=k::ac:=by
   cases kk with
   |nil=>simp at e1
   |cons k kk=>exact⟨k,kk,rfl⟩
  have av:=Z8 (e2 0 (by simp) (by simp));obtain⟨rfl,y,q2,hy,aq,a5,a6,_⟩:=t5.first
  rw[K5,x4 hy]at av;have j4:∀C:d8,C.P=j.P->C.Rs=j.Rs->(j.F.Code≠0->C.F.Code≠0)->(20<=h->C.F.Code≠0)->
    (∃z,Ve d5 a b I H ((l9 ks,()),()) (h:Int) I C=some ((z,()),())/\RI l U (B+(st-c0)) z/\Kh j z/\z.P.As=j.P.As/\z.F.Code≠0)\/
    ∃z c1 M,Ve d5 a b I H ((l9 ks,()),()) (h:Int) I C=Mn d5 a b I H ((l9 ks,()),()) I z/\Kc l c1 st (ks.drop J)/\c0<=c1/\M=B+(c1-c0)/\RI l U M z/\Kh j z/\z.P.As=j.P.As/\(z.F.Code=0->∀f∈z.P.As,PmF l z f)/\(z.F.Code=0->∀p∈ks.take J,J5 z p)/\(z.F.Code=0->J<=20):=by
   intro C K h2 h3 h4;have aa:C.F.Code=0->j.F.Code=0:=λc=>Y5 λhc=>h3 hc c;have ah:RI l U B C:=by have:=hR.fault C.F aa;rw[<-K,<-h2]at this;exact this
   have X:Kh j C:=⟨by rw[K],by rw[K],by rw[K],by rw[K],h2,h3⟩;have an:∀p,J5 j p->J5 C p:=λp h=>by unfold J5 at h⊢;rw[K];exact h
   rw[a9Q,rL,V6,d6];by_cases cb:C.F.Code=0
   ·obtain⟨t,R,k1,k2,Z,k4,k5⟩:=YD hM hl htx (c0+1) y q2 hy aq (by omega) C U B ah (by omega);have a8:=k2.marks;rw[f6 cb,B8,f9];simp only;rw[g,d6,B7 (by omega),ek,k1,d6,d6,ID];simp only;rw[Ep R (by omega) c0 (by omega),d6,a87,pL,B7 (by omega)];simp only;have tT:0<=t/\t<R.P.To.length:=by
     have:=k2.ty.len;rcases k4 with rfl|k4
     ·omega
     ·have:=k4.1;have:=k4.2.1;omega
    have am:=(k2.mark c0 (l8.mk t 0 0) tT.1 tT.2).more (show B+(q2-(c0+1))<=B+(Q-c0) by omega);have az:y.Ks≠14:=(by omega);have tI:R.F.Code=0->E4 R.P.To t:=λN=>by
     rcases k5 N with⟨h,_⟩|⟨_,h⟩
     ·exact absurd h az
     ·exact h
    have L:∀p,kd l p=5->R.F.Code=0->J5 j p->J5 (A4 R c0 (l8.mk t 0 0)) p:=λp S N af=>((an p af).ex S Z).mark c0 _ (λ_=>tI N);have ae:R.F.Code=0->j.F.Code=0:=λc=>aa cb;rcases ih (h+1) Q (A4 R c0 (l8.mk t 0 0)) (B+(Q-c0)) (by omega) (by omega) V am (λN f hf=>by
      have ai:f∈j.P.As:=by have:(A4 R c0 (l8.mk t 0 0)).P.As=j.P.As:=Z.fns.trans (by rw[K]);rw[<-this];exact hf
      intro k0 ar x0 ax a1 a2 a3 a4 p G S;exact L p S N (hP (ae N) f ai k0 ar x0 ax a1 a2 a3 a4 p G S)) (λN p G=>by
      rw[List.take_add_one,w9 O]at G;rcases A3.1 G with G|G
      ·have hi:∃i,∃(hi:i<ks.length),i<J/\ks[i]=p:=by obtain⟨i,hi,rfl⟩:=List.getElem_of_mem G;rw[List.length_take]at hi;exact⟨i,by omega,by omega,by rw[List.getElem_take]⟩
       obtain⟨i,ak,hi2,rfl⟩:=hi;exact L _ (Y i ak hi2) N (hG (ae N) _ G)
      ·have:p=c0:=(by simpa[ek]using G);subst this;exact J5.self (by omega) _ (tI N)) (λ_=>Nat.lt_of_not_le λau=>h4 au cb) (by omega)with⟨z,m1,m2,m3,m4,m5⟩|⟨z,c1,M,m1,m2,m3,m4,m5,m6,m7,m8,m9,m10⟩
    ·exact .inl ⟨z,m1,m2.more (by omega),((X.trans Z.kh).trans (Kh.mark _ _ _)).trans m3,m4.trans (Z.fns.trans (by rw[K])),m5⟩
    ·exact .inr ⟨z,c1,M,m1,m2,by omega,by omega,m5,((X.trans Z.kh).trans (Kh.mark _ _ _)).trans m6,m7.trans (Z.fns.trans (by rw[K])),m8,m9,m10⟩
   ·rw[d9 cb];exact .inl ⟨C,rfl,ah.more (by omega),X,by rw[K],cb⟩
  have j5:∀C:d8,C.P=j.P->C.Rs=j.Rs->(j.F.Code≠0->C.F.Code≠0)->(20<=h->C.F.Code≠0)->
    (∃z,Zc d5 a b I H ((l9 ks,()),()) (h:Int) I C=some ((z,()),())/\RI l U (B+(st-c0)) z/\Kh j z/\z.P.As=j.P.As/\z.F.Code≠0)\/
    ∃z c1 M,Zc d5 a b I H ((l9 ks,()),()) (h:Int) I C=Mn d5 a b I H ((l9 ks,()),()) I z/\Kc l c1 st (ks.drop J)/\c0<=c1/\M=B+(c1-c0)/\RI l U M z/\Kh j z/\z.P.As=j.P.As/\(z.F.Code=0->∀f∈z.P.As,PmF l z f)/\(z.F.Code=0->∀p∈ks.take J,J5 z p)/\(z.F.Code=0->J<=20):=by
   intro C K h2 h3 h4;have ad:∀p∈ks.take h,p<l.length:=by
    intro p G;obtain⟨i,hi,rfl⟩:=List.getElem_of_mem G;rw[List.length_take]at hi;rw[List.getElem_take];have:=Y i (by omega) (by omega);unfold kd at this;split at this
    ·rename_i y' aw;exact(o9.1 aw).1
    ·omega
   obtain⟨b',ay⟩:=kP (l:=l) (ks.take h) ad (by rw[List.length_take];omega) l[ks[h]].Ds;rw[a1Y,uP];simp only[C3];rw[Ak (show F1 (0:Int) (h:Int) (ks.length:Int)from⟨by omega,by omega,by omega⟩),d6,g,d6,ha,p9 hp,d6,dC,ay,d6];cases b' with
   |false=>exact j4 C K h2 h3 h4
   |true=>obtain⟨f,f1,f2⟩:=Bg C 7 (by decide) ks[h] (by rw[K,ag];exact hp);rw[l6,d6,Pd,f1,d6];exact j4 ⟨C.P,C.Rs,f⟩ K h2 (λ_=>f2) (λ_=>f2)
  rw[LO,aQ];simp only;rw[ew,f6 (by omega),l6];by_cases c20:(h:Int)>=20
  ·obtain⟨f,f1,f2⟩:=Bg j 13 (by decide) ks[h] (by rw[ag];exact hp);rw[f6 c20,l6,g,d6,Pd,f1,d6];exact j5 ⟨j.P,j.Rs,f⟩ rfl rfl (λ_=>f2) (λ_=>f2)
  ·rw[d9 c20,f9];exact j5 j rfl rfl id (λh=>absurd h (by omega))
end
end
end
end Go.Proofs.YtihbbcealnnpiaaGreatDoor
