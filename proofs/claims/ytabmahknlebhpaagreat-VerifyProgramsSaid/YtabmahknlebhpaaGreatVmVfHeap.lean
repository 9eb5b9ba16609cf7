/- Parts of the proof. -/
import Derived.Test.YtabmahknlebhpaaGreatVmQA
import Derived.Test.YtabmahknlebhpaaGreatVmVfHp
import Derived.Test.YtabmahknlebhpaaGreatVmVp3
set_option linter.unusedVariables false
set_option linter.unusedSectionVars false
namespace Go.Proofs.YtabmahknlebhpaaGreat
theorem BH{w:List Int}{i j:Nat}(hi:i<w.length)(hj:j<w.length):Up d5 w (i:Int) (j:Int)=some ((decide (at0 w i<at0 w j),()),()):=by rw[a4m,jZ];rw[l7 hi,l7 hj,X5 hi,X5 hj];rfl
theorem b14(a:u9):∀(j:Nat) (w:List Int),j<w.length→w.length≤1000000→Iy w j→∃w',Tv d5 (j:Int) a w=some ((),(⟨a.f_,a.depths_,w'⟩,()))∧w'.Perm w∧P7 w' w'.length:=by
 intro j
 induction j using Nat.strongRecOn with
 |_ j ih=>
  intro w hj hlen hinv;rw[a6n,qR];have e0:(okP ((2:Int)≠0))=some ():=(by rfl);rw[e0];by_cases hz:j=0
  ·subst hz;have e1:w64 (Int.tdiv (w64 (((0:Nat):Int)-1)) 2)=((0:Nat):Int):=(by decide);rw[e1];exact⟨w,rfl,List.Perm.refl _,hinv.done (.inl rfl)⟩
  ·have e1:w64 (Int.tdiv (w64 ((j:Int)-1)) 2)=(((j-1)/2:Nat):Int):=by rw[wrap64 (n:=(j:Int)-1) (by omega) (by omega),show(j:Int)-1=((j-1:Nat):Int) by omega,show Int.tdiv ((j-1:Nat):Int) 2=(((j-1)/2:Nat):Int)from rfl,wrap64 (by omega) (by omega)]
   rw[e1];have hp:(j-1)/2<w.length:=(by omega);have e2:decide ((((j-1)/2:Nat):Int)=(j:Int))=false:=d8 (by omega);rw[e2,BH hj hp];by_cases hl:at0 w j<at0 w ((j-1)/2)
   ·have e3:decide (at0 w j<at0 w ((j-1)/2))=true:=f9 hl;rw[e3,l7 hp,l7 hj,X5 hp,X5 hj];have hstep:=hinv.step (by omega) hj hl;obtain⟨w',h1,h2,h3⟩:=ih ((j-1)/2) (by omega) (V0 w ((j-1)/2) j) (by rw[Fg];exact hp) (by rw[Fg];exact hlen) hstep;exact⟨w',h1,h2.trans (GT hp hj),h3⟩
   ·have e3:decide (at0 w j<at0 w ((j-1)/2))=false:=d8 hl;rw[e3];exact⟨w,rfl,List.Perm.refl _,hinv.done (.inr (by omega))⟩
theorem a8K{w:List Int}{i j k:Nat}(hi:i<w.length)(hj:j<w.length)(h1:k≠i)(h2:k≠j):at0 (V0 w i j) k=at0 w k:=by rw[Ag hi hj,if_neg h2,if_neg h1]
def DK(a:u9)(n:Nat)(w:List Int)(r:Option ((Bool × Unit) × (u9 × Unit))):Prop:=
 ∃b w',r=some ((b,()),(⟨a.f_,a.depths_,w'⟩,()))∧w'.Perm w∧P7 w' n∧∀k,n≤k→at0 w' k=at0 w k
theorem UW(a:u9)(n:Nat)(w:List Int)(i0 i:Int)(h:P7 w n):DK a n w (bL d5 i0 i a w):=by rw[a8r,lD];exact⟨_,w,rfl,List.Perm.refl _,h,fun _ _=>rfl⟩
theorem a9u(a:u9)(i0:Int)(n:Nat):∀(m i:Nat) (w:List Int),n-i=m→n≤w.length→w.length≤1000000→i≤n→Kz w n i→DK a n w (Um d5 i0 (n:Int) (i:Int) a w):=by
 intro m
 induction m using Nat.strongRecOn with
 |_ m ih=>
  intro i w hm hn hlen hi hinv;rw[b3i,cX];have e1:w64 (w64 (2*(i:Int))+1)=((2*i+1:Nat):Int):=(by rw[wrap64 (n:=2*(i:Int)) (by omega) (by omega),wrap64 (by omega) (by omega)];omega);rw[e1];by_cases c1:n≤2*i+1
  ·rw[f9 (by omega:((2*i+1:Nat):Int)≥(n:Int))];exact UW a n w i0 i (hinv.done fun k hk hkn hp=>absurd hkn (by omega))
  ·rw[d8 (by omega:¬((2*i+1:Nat):Int)≥(n:Int)),d8 (by omega:¬((2*i+1:Nat):Int)<0)];have e2:w64 (((2*i+1:Nat):Int)+1)=((2*i+2:Nat):Int):=(by rw[wrap64 (by omega) (by omega)];omega);rw[e2];have hi':i<w.length:=(by omega);have go:∀j:Nat,j<n→0<j→(j-1)/2=i→(∀k,0<k→k<n→(k-1)/2=i→at0 w j≤at0 w k)→DK a n w (Uu d5 i0 (n:Int) (i:Int) (j:Int) a w):=fun j hj h0 hij hmin=>by
    rw[b20,iH];have hj':j<w.length:=(by omega);rw[BH hj' hi'];by_cases hl:at0 w j<at0 w i
    ·rw[f9 hl];simp only[d6,x4,i5];rw[l7 hi',l7 hj',X5 hi',X5 hj'];obtain⟨b,w',h1,h2,h3,h4⟩:=ih (n-j) (by omega) j (V0 w i j) rfl (by rw[Fg];exact hn) (by rw[Fg];exact hlen) (by omega) (hinv.step hn h0 hj hij hmin hl);exact⟨b,w',h1,h2.trans (GT hi' hj'),h3,fun k hk=>by rw[h4 k hk,a8K hi' hj' (by omega) (by omega)]⟩
    ·rw[d8 hl];exact UW a n w i0 i (hinv.done fun k hk hkn hp=>by have:=hmin k hk hkn hp;omega)
   by_cases c2:2*i+2<n
   ·rw[f9 (by omega:((2*i+2:Nat):Int)<(n:Int)),BH (by omega) (by omega)];have two:∀k,0<k→k<n→(k-1)/2=i→k=2*i+1∨k=2*i+2:=fun k _ _ h=>by omega
    by_cases hl:at0 w (2*i+2)<at0 w (2*i+1)
    ·rw[f9 hl];exact go (2*i+2) c2 (by omega) (by omega) fun k h1 h2 h3=>by rcases two k h1 h2 h3 with rfl|rfl<;>omega
    ·rw[d8 hl];exact go (2*i+1) (by omega) (by omega) (by omega) fun k h1 h2 h3=>by rcases two k h1 h2 h3 with rfl|rfl<;>omega
   ·rw[d8 (by omega:¬((2*i+2:Nat):Int)<(n:Int))];exact go (2*i+1) (by omega) (by omega) (by omega) fun k h1 h2 h3=>by rw[show k=2*i+1 by omega];exact N0 _
theorem a9y{w:List Int}{x:Int}(h:(w++[x]).length<2000000):A4 8 w [x]=some (w++[x]):=by unfold A4;rw[if_pos];simp at h;unfold L6 maxLen;simp;omega
theorem b05(a:u9)(x:Int)(h:P7 a.todo_ a.todo_.length)(hl:a.todo_.length<1000000):∃w',xI d5 a x=some ((),(⟨a.f_,a.depths_,w'⟩,()))∧w'.Perm (x::a.todo_)∧P7 w' w'.length:=by rw[a1R,jI];rw[b1W,dY];have e1:A4 8 a.todo_ ([x]:List Int)=some (a.todo_++[x]):=a9y (by simp;omega);rw[e1];simp only[d6];rw[DL,Qr];simp only[d6];have e2:w64 (((a.todo_++[x]).length:Int)-1)=((a.todo_.length:Nat):Int):=(by rw[o5,wrap64 (by simp only[F3,I0];omega) (by simp only[F3,I0];omega)];simp only[F3,I0];omega);rw[e2,a5Q,dM];obtain⟨w',h1,h2,h3⟩:=b14 ⟨a.f_,a.depths_,a.todo_++[x]⟩ a.todo_.length (a.todo_++[x]) (by simp) (by simp;omega) (h.push x);refine⟨w',?_,h2.trans List.perm_append_comm,h3⟩;show(Tv d5 ((a.todo_.length:Nat):Int) ⟨a.f_,a.depths_,a.todo_++[x]⟩ (a.todo_++[x])).bind _=_;rw[h1];rfl
theorem a9T(a:u9)(h:P7 a.todo_ a.todo_.length)(h0:0<a.todo_.length)(hl:a.todo_.length<1000000):∃x w',nM d5 a=some ((x,()),(⟨a.f_,a.depths_,w'⟩,()))∧(x::w').Perm a.todo_∧P7 w' w'.length∧∀y∈w',x≤y:=by
 obtain⟨f,D,w⟩:=a;simp only at h h0 hl;obtain⟨n,hn⟩:∃n,w.length=n+1:=⟨w.length-1,by omega⟩;have e1:w64 ((w.length:Int)-1)=(n:Int):=(by rw[wrap64 (by omega) (by omega)];omega);have hn':n<w.length:=(by omega);rw[b3M,wP];simp only;rw[DL,Qr];simp only[d6];rw[e1,show((0:Int))=((0:Nat):Int)from rfl,l7 h0,l7 hn',X5 h0,X5 hn'];simp only[d6,B8];rw[b0X,vK];have hpop:=h.pop h0;rw[show w.length-1=n by omega]at hpop;obtain⟨b,w',h1,h2,h3,h4⟩:=a9u ⟨f,D,V0 w 0 n⟩ ((0:Nat):Int) n (n-0) 0 (V0 w 0 n) rfl (by rw[Fg];omega) (by rw[Fg];omega) (by omega) hpop;have hw':w'.length=n+1:=(by rw[h2.length_eq,Fg,hn]);have htop:at0 w' n=at0 w 0:=(by rw[h4 n (i8 _),Ag h0 hn',if_pos rfl]);have hsplit:w'=w'.take n++[at0 w 0]:=by
  have:=List.take_append_drop n w';have hd:w'.drop n=[at0 w' n]:=by rw[H5 (by omega),X5 (by omega),J1 (by omega)]
  rw[hd,htop]at this;exact this.symm
 have hperm:(at0 w 0::w'.take n).Perm w:=by have q:=h2.trans (GT h0 hn');rw[hsplit]at q;exact(List.perm_append_comm (l₁:=[at0 w 0]) (l₂:=w'.take n)).trans q
 refine⟨at0 w 0,w'.take n,?_,hperm,?_,fun y hy=>?_⟩
 ·show((Um d5 ((0:Nat):Int) (n:Int) ((0:Nat):Int) ⟨f,D,V0 w 0 n⟩ (V0 w 0 n)).bind _)=_;rw[h1];simp only[d6];rw[b00,wX];simp only[hw'];have e2:w64 (((n+1:Nat):Int)-1)=(n:Int):=(by rw[wrap64 (by omega) (by omega)];omega);have hn2:n<w'.length:=(by omega);have e3:okP (B9 (0:Int) (n:Int) ((n+1:Nat):Int))=some ():=by unfold okP;rw[if_pos];unfold B9;omega
  rw[e2,l7 hn2,X5 hn2,B8,p8 hn2,X5 hn2,htop];simp only[d6,e3];rfl
 ·rw[show(w'.take n).length=n by simp;omega];exact h3.take
 ·have hm:y∈w:=hperm.subset (F7 _ hy);obtain⟨k,hk,rfl⟩:=List.getElem_of_mem hm;rw[X5 hk];exact h.top k hk
theorem Qz{n:Int}(h1:1≤n)(h2:n≤26):n=1∨n=2∨n=3∨n=4∨n=5∨n=6∨n=7∨n=8∨n=9∨n=10∨n=11∨n=12∨n=13∨n=14∨n=15∨n=16∨n=17∨n=18∨n=19∨n=20∨n=21∨n=22∨n=23∨n=24∨n=25∨n=26:=by omega
theorem XI(c:l6)(x:i9)(h1:1≤x.Op)(h2:x.Op≤26):mH d5 c x=aM d5 c x:=by
 rw[LY,Yx,ME,aP];generalize hop:x.Op=op at*;rcases Qz h1 h2 with rfl|rfl|rfl|rfl|rfl|rfl|rfl|rfl|rfl|rfl|rfl|rfl|rfl|rfl|rfl|rfl|rfl|rfl|rfl|rfl|rfl|rfl|rfl|rfl|rfl|rfl
 all_goals simp[ZS,Xu,YI,Rp,hop,i6]
theorem a1j(c:l6)(f:o0)(x:i9)(h1:1≤x.Op)(h2:x.Op≤26):fX d5 c f x=Fc d5 c f x:=by
 rw[a7m,dW,Ua,Ia];generalize hop:x.Op=op at*;rcases Qz h1 h2 with rfl|rfl|rfl|rfl|rfl|rfl|rfl|rfl|rfl|rfl|rfl|rfl|rfl|rfl|rfl|rfl|rfl|rfl|rfl|rfl|rfl|rfl|rfl|rfl|rfl|rfl
 all_goals simp[b2p,qW,a2Z,wF,a8V,eZ,HR,Qh,JV,Pi,mD,Ju,Xe,Lo,qH,Ii,Bool.cond_eq_ite]
 all_goals repeat' split
 all_goals first
  |rfl
  |(exfalso;omega)
  |(simp only[d6];repeat' split)<;>first|rfl|(simp only[decide_eq_false_iff_not]at*;first|omega|(exfalso;omega))
def T7(x:i9):Bool:=decide (1≤x.Op)&&(decide (x.Op≤26)&&(decide (0≤x.Ls)&&decide (x.Ls≤2147483647)))
theorem b4F(c:l6)(hc:c.Is.length≤65536):∀(m i:Nat),c.Is.length-i=m→Zf d5 c (i:Int)=if(c.Is.drop i).all T7=true then JC d5 c else some ((false,()),()):=by
 intro m
 induction m with
 |zero=>intro i hm;rw[XX,Rx,d8 (by omega),J1 (by omega)];rfl
 |succ m ih=>
  intro i hm;have hi:i<c.Is.length:=(by omega);have e1:w64 ((i:Int)+1)=((i+1:Nat):Int):=(by rw[wrap64 (by omega) (by omega)];omega);rw[XX,Rx,f9 (by omega),l7 hi,e1,ih (i+1) (by omega),H5 hi,List.all_cons];generalize c.Is[i]=x at*;generalize (c.Is.drop (i+1)).all T7=z;simp only[d6,T7,Bool.cond_eq_ite,decide_eq_true_eq,w8];cases z<;>simp only[Bool.false_eq_true,and_false,and_true,if_false,if_true]
  all_goals repeat' split
  all_goals first|rfl|(exfalso;omega)
theorem VZ(c:l6)(hc:c.Is.length≤65536)(h8:∀x∈c.Is,0≤x.Op)(a b:Int):∀(m i:Nat),c.Is.length-i=m→Oj d5 a b c (i:Int)=if(c.Is.drop i).all T7=true then CD d5 a b c else some ((false,()),()):=by
 intro m
 induction m with
 |zero=>intro i hm;rw[YC,Xl,d8 (by omega),J1 (by omega)];rfl
 |succ m ih=>
  intro i hm;have hi:i<c.Is.length:=(by omega);have h0:=h8 _ (y5 hi);have e1:w64 ((i:Int)+1)=((i+1:Nat):Int):=(by rw[wrap64 (by omega) (by omega)];omega);rw[YC,Xl,f9 (by omega),l7 hi,e1,ih (i+1) (by omega),H5 hi,List.all_cons];generalize c.Is[i]=x at*;generalize (c.Is.drop (i+1)).all T7=z;simp only[d6,T7,Bool.cond_eq_ite,decide_eq_true_eq,w8];cases z<;>simp only[Bool.false_eq_true,and_false,and_true,if_false,if_true]
  all_goals repeat' split
  all_goals first|rfl|(exfalso;omega)
def O1:List (b5Y)→Int
 | []=>0
 |s::l=>(s.length:Int)+O1 l
theorem Rw(s:b5Y)(l:List (b5Y)):O1 (s::l)=(s.length:Int)+O1 l:=rfl
theorem CK:∀l:List (b5Y),0≤O1 l
 | []=>N0 _
 |s::l=>by have:=CK l;unfold O1;omega
theorem b2f(c:l6)(hc:c.Vs.length≤65536):∀(m i:Nat) (left:Int),c.Vs.length-i=m→0≤left→left≤1048576→Uz d5 left c (i:Int)=some ((decide (O1 (c.Vs.drop i)≤left),()),()):=by
 intro m
 induction m with
 |zero=>intro i left hm h0 h1;rw[MV,Zc,d8 (by omega),J1 (by omega),a2E,cM,f9 (show O1 []≤left from h0)];rfl
 |succ m ih=>
  intro i left hm h0 h1;have hi:i<c.Vs.length:=(by omega);have e1:w64 ((i:Int)+1)=((i+1:Nat):Int):=(by rw[wrap64 (by omega) (by omega)];omega);rw[MV,Zc,f9 (by omega),l7 hi,e1,H5 hi];simp only[i7,d6];have hs:=CK (c.Vs.drop (i+1));by_cases hl:((c.Vs[i]).length:Int)>left
  ·rw[f9 hl,d8 (show¬O1 (c.Vs[i]::c.Vs.drop (i+1))≤left by rw[Rw];omega)];rfl
  ·rw[d8 hl,i5,wrap64 (by omega) (by omega),ih (i+1) _ (by omega) (by omega) (by omega)];congr 4;rw[Rw];exact propext ⟨fun h=>by omega,fun h=>by omega⟩
theorem a7g(c:l6)(hc:c.Vs.length≤65536)(a:Int):∀(m i:Nat) (t:Int),c.Vs.length-i=m→0≤t→t≤1048576*i→Xz d5 a t c (i:Int)=if(c.Vs.drop i).all (fun s=>decide ((s.length:Int)≤1048576))=true then Sz d5 a (t+O1 (c.Vs.drop i)) c else some ((false,()),()):=by
 intro m
 induction m with
 |zero=>intro i t hm h0 h1;rw[a0M,Ti,d8 (by omega),J1 (by omega)];show Sz d5 a t c=Sz d5 a (t+0) c;rw[Int.add_zero]
 |succ m ih=>
  intro i t hm h0 h1;have hi:i<c.Vs.length:=(by omega);have e1:w64 ((i:Int)+1)=((i+1:Nat):Int):=(by rw[wrap64 (by omega) (by omega)];omega);rw[a0M,Ti,f9 (by omega),l7 hi,e1,H5 hi,List.all_cons];simp only[i7,d6];by_cases hl:((c.Vs[i]).length:Int)>1048576
  ·rw[f9 hl,d8 (by omega)];rfl
  ·rw[d8 hl,f9 (by omega),i5,wrap64 (by omega) (by omega),ih (i+1) _ (by omega) (by omega) (by omega)];simp only[Bool.true_and];rw[Rw,Int.add_assoc]
def Cc(f:o0)(a:Int):Prop:=f.At=a∧0≤f.Do∧0≤f.Ps∧f.Ps≤f.Ss∧f.Ss≤200∧0≤f.By∧f.By≤1
instance(f:o0)(a:Int):Decidable (Cc f a):=by unfold Cc;infer_instance
def Cl(n:Int):Int→List o0→Option Int
 |a,[]=>some a
 |a,f::l=>if Cc f a∧f.Do≤n-a then Cl n (a+f.Do) l else none
def Im(n:Int):Int→List o0→Option Int
 |a,[]=>some a
 |a,f::l=>if Cc f a∧f.Do≤n then Im n (a+f.Do) l else none
theorem dV(n a:Int)(f:o0)(l:List o0):Cl n a (f::l)=if Cc f a∧f.Do≤n-a then Cl n (a+f.Do) l else none:=rfl
theorem zM(n a:Int)(f:o0)(l:List o0):Im n a (f::l)=if Cc f a∧f.Do≤n then Im n (a+f.Do) l else none:=rfl
theorem a0s{n:Int}:∀{l:List o0} {a e:Int},Im n a l=some e→a≤e
 | [],a,e,h=>by cases h;exact N0 _
 |f::l,a,e,h=>by
  rw[zM]at h;split at h
  ·rename_i c;have:=a0s h;have:=c.1.2.1;omega
  ·cases h
theorem EK{n:Int}:∀{l:List o0} {a:Int},0≤a→(Cl n a l=some n↔Im n a l=some n)
 | [],a,_=>Iff.rfl
 |f::l,a,h0=>by
  rw[dV,zM];by_cases c:Cc f a
  ·have hl:=c.2.1;by_cases c1:f.Do≤n-a
   ·rw[if_pos ⟨c,c1⟩,if_pos ⟨c,by omega⟩];exact EK (by omega)
   ·rw[if_neg (fun h=>c1 h.2)];refine⟨fun h=>(by cases h),fun h=>?_⟩;split at h
    ·have:=a0s h;omega
    ·cases h
  ·rw[if_neg (fun h=>c h.1),if_neg (fun h=>c h.1)]
theorem a1f(c:l6)(hc:c.As.length≤100)(hn:c.Is.length≤65536):∀(m i:Nat) (a:Int),c.As.length-i=m→0≤a→a≤c.Is.length→Mh d5 a c (i:Int)=match Cl c.Is.length a (c.As.drop i)with|some e=>xF d5 e c|none=>some ((false,()),()):=by
 intro m
 induction m with
 |zero=>intro i a hm h0 h1;rw[LO,Tq,d8 (by omega),J1 (by omega)];rfl
 |succ m ih=>
  intro i a hm h0 h1;have hi:i<c.As.length:=(by omega);have e1:w64 ((i:Int)+1)=((i+1:Nat):Int):=(by rw[wrap64 (by omega) (by omega)];omega);have e2:w64 ((c.Is.length:Int)-a)=(c.Is.length:Int)-a:=wrap64 (by omega) (by omega);rw[LO,Tq,f9 (by omega),l7 hi,e1,e2,H5 hi,dV];generalize c.As[i]=x;simp only[i7,d6];by_cases hx:Cc x a∧x.Do≤(c.Is.length:Int)-a
  ·rw[if_pos hx,←ih (i+1) (a+x.Do) (by omega) (by have:=hx.1.2.1;omega) (by have:=hx.2;omega)];obtain⟨⟨g1,g2,g3,g4,g5,g6,g7⟩,g8⟩:=hx;rw[wrap64 (n:=a+x.Do) (by omega) (by omega)];simp only[Bool.cond_eq_ite,decide_eq_true_eq,Bool.not_eq_true',decide_eq_false_iff_not]
   repeat' split
   all_goals first|rfl|(exfalso;omega)
  ·rw[if_neg hx];unfold Cc at hx;simp only[Bool.cond_eq_ite,decide_eq_true_eq,Bool.not_eq_true',decide_eq_false_iff_not]
   repeat' split
   all_goals first|rfl|(exfalso;omega)
theorem a2z(c:l6)(hc:c.As.length≤100)(hn:c.Is.length≤65536):∀(m i:Nat) (a:Int),c.As.length-i=m→0≤a→a≤65536*i→Mz d5 a c (i:Int)=match Im c.Is.length a (c.As.drop i)with|some e=>dX d5 e c|none=>some ((false,()),()):=by
 intro m
 induction m with
 |zero=>intro i a hm h0 h1;rw[XA,Su,d8 (by omega),J1 (by omega)];rfl
 |succ m ih=>
  intro i a hm h0 h1;have hi:i<c.As.length:=(by omega);have e1:w64 ((i:Int)+1)=((i+1:Nat):Int):=(by rw[wrap64 (by omega) (by omega)];omega);rw[XA,Su,f9 (by omega),l7 hi,e1,H5 hi,zM];generalize c.As[i]=x;simp only[i7,d6];by_cases hx:Cc x a∧x.Do≤(c.Is.length:Int)
  ·rw[if_pos hx,←ih (i+1) (a+x.Do) (by omega) (by have:=hx.1.2.1;omega) (by have:=hx.2;omega)];obtain⟨⟨g1,g2,g3,g4,g5,g6,g7⟩,g8⟩:=hx;rw[wrap64 (n:=a+x.Do) (by omega) (by omega)];simp only[Bool.cond_eq_ite,decide_eq_true_eq,Bool.not_eq_true',decide_eq_false_iff_not]
   repeat' split
   all_goals first|rfl|(exfalso;omega)
  ·rw[if_neg hx];unfold Cc at hx;simp only[Bool.cond_eq_ite,decide_eq_true_eq,Bool.not_eq_true',decide_eq_false_iff_not]
   repeat' split
   all_goals first|rfl|(exfalso;omega)
structure Pj(c:l6):Prop where
 fns:c.As.length≤100
 ins:c.Is.length≤65536
 strs:c.Vs.length≤65536
 lay:Cl c.Is.length 0 c.As=some (c.Is.length:Int)
 ok:c.Is.all T7=true
theorem a30{l:List (b5Y)}(h:O1 l≤1048576):(l.all fun s=>decide ((s.length:Int)≤1048576))=true:=by
 induction l with
 |nil=>rfl
 |cons s l ih=>rw[Rw]at h;have:=CK l;rw[List.all_cons,ih (by omega),f9 (by omega)];rfl
theorem OC(c:l6)(c2:c.Is.length≤65536)(c3:c.Vs.length≤65536)(e:Int):xF d5 e c=some ((decide (e=(c.Is.length:Int))&&(c.Is.all T7&&decide (O1 c.Vs≤1048576)),()),()):=by
 have q1:=b4F c c2 _ 0 rfl;have q2:=b2f c c3 _ 0 1048576 rfl (by omega) (by omega);rw[b3I,lP];by_cases h:e=(c.Is.length:Int)
 ·rw[f9 h];simp only[x4,i5,Bool.true_and];rw[show Zf d5 c 0=_ from q1,L9];cases c.Is.all T7 with
  |true=>rw[if_pos rfl,a4U,pT,show Uz d5 1048576 c 0=_ from q2,L9];rfl
  |false=>rfl
 ·rw[d8 h];rfl
theorem a3a(c:l6)(c2:c.Is.length≤65536)(c3:c.Vs.length≤65536)(h8:∀x∈c.Is,0≤x.Op)(e:Int):dX d5 e c=some ((decide (e=(c.Is.length:Int))&&(c.Is.all T7&&decide (O1 c.Vs≤1048576)),()),()):=by
 have q2:=a7g c c3 e _ 0 0 rfl (by omega) (by omega);rw[a9P,oO,show Xz d5 e 0 c 0=_ from q2,L9,Int.zero_add];by_cases hs:O1 c.Vs≤1048576
 ·rw[a30 hs,if_pos rfl,WS,Yc,show Oj d5 e (O1 c.Vs) c 0=_ from VZ c c2 h8 e (O1 c.Vs) _ 0 rfl,L9,f9 hs];cases c.Is.all T7 with
  |true=>
   rw[if_pos rfl,KV,Zd,f9 hs];by_cases h:e=(c.Is.length:Int)
   ·rw[f9 h];rfl
   ·rw[d8 h];rfl
  |false=>rw[if_neg (by decide)];simp
 ·rw[d8 hs];simp only[Bool.and_false];split
  ·rw[WS,Yc,show Oj d5 e (O1 c.Vs) c 0=_ from VZ c c2 h8 e (O1 c.Vs) _ 0 rfl,L9,KV,Zd,d8 hs];split
   ·cases decide (e=(c.Is.length:Int))<;>rfl
   ·rfl
  ·rfl
theorem a0g(c:l6)(h8:∀x∈c.Is,0≤x.Op):∃b,aA d5 c=some ((b,()),())∧JZ d5 c=some ((b,()),())∧(b=true→Pj c):=by
 rw[TW,Yv,a5O,fE];by_cases c1:c.As.length≤100
 ·rw[d8 (by omega:¬(c.As.length:Int)>100)];by_cases c2:c.Is.length≤65536
  ·rw[d8 (by omega:¬(c.Is.length:Int)>65536)];by_cases c3:c.Vs.length≤65536
   ·rw[d8 (by omega:¬(c.Vs.length:Int)>65536)];simp only[i5];have q1:=a1f c c1 c2 _ 0 0 rfl (by omega) (by omega);have q2:=a2z c c1 c2 _ 0 0 rfl (by omega) (by omega);rw[show Mh d5 0 c 0=_ from q1,show Mz d5 0 c 0=_ from q2];simp only[L9];have e1:=OC c c2 c3;have e2:=a3a c c2 c3 h8;by_cases hF:Cl c.Is.length 0 c.As=some (c.Is.length:Int)
    ·have hR:=(EK (by omega)).1 hF;rw[hF,hR];refine⟨_,e1 _,e2 _,fun h=>⟨c1,c2,c3,hF,?_⟩⟩;simp only[w8]at h;exact h.2.1
    ·have hR:¬Im c.Is.length 0 c.As=some (c.Is.length:Int):=fun h=>hF ((EK (by omega)).2 h);refine⟨false,?_,?_,fun h=>nomatch h⟩
     ·split
      ·rename_i e he;rw[e1,d8 (fun h=>hF (by rw[he,h]))];rfl
      ·rfl
     ·split
      ·rename_i e he;rw[e2,d8 (fun h=>hR (by rw[he,h]))];rfl
      ·rfl
   ·rw[f9 (by omega:(c.Vs.length:Int)>65536)];exact⟨false,rfl,rfl,fun h=>nomatch h⟩
  ·rw[f9 (by omega:(c.Is.length:Int)>65536)];exact⟨false,rfl,rfl,fun h=>nomatch h⟩
 ·rw[f9 (by omega:(c.As.length:Int)>100)];exact⟨false,rfl,rfl,fun h=>nomatch h⟩
structure Rel(k:Nat)(A:u9)(F:x5):Prop where
 e:A.f_=F.E
 d:A.depths_=F.D
 len:(F.D.length:Int)=F.E.Do
 gone:F.On.length=F.D.length
 err:F.Qs=0
 small:F.D.length≤65536
 heap:P7 A.todo_ A.todo_.length
 nodup:A.todo_.Nodup
 todo:∀y:Int,y∈A.todo_↔∃i:Nat,y=i∧∃h:i<F.D.length,0≤F.D[i]∧F.On.getD i true=false
 depth:∀x∈F.D,x≤k
 seen:∀(i:Nat) (h:i<F.D.length),F.On.getD i true=true→0≤F.D[i]
theorem UI:∀{n:Nat} {l:List Int},l.Nodup→(∀y∈l,∃i:Nat,y=i∧i<n)→l.length≤n
 |0,l,_,hm=>by
  cases l with
  |nil=>exact i8 _
  |cons y l=>obtain⟨i,_,hi⟩:=hm y E2;omega
 |n+1,l,h,hm=>by
  have h1:=UI (n:=n) (l:=l.erase (n:Int)) (h.erase _) fun y hy=>by have hy':=(h.mem_erase_iff).1 hy;obtain⟨i,rfl,hi⟩:=hm y hy'.2;exact⟨i,rfl,by have:=hy'.1;omega⟩
  rw[List.length_erase]at h1;split at h1<;>omega
theorem Rel.small'{k:Nat}{A:u9}{F:x5}(h:Rel k A F):A.todo_.length≤65536:=
 Ea (UI h.nodup fun y hy=>by obtain⟨i,e,hi,_⟩:=(h.todo y).1 hy;exact⟨i,e,hi⟩) h.small
theorem zA{k:Nat}{A:u9}{F:x5}(h:Rel k A F)(p dp:Nat)(hd:dp≤k):(∃e:Int,e≠0∧Bn d5 A (p:Int) (dp:Int)=some ((e,()),(A,()))∧V1 d5 F (p:Int) (dp:Int)=some ((⟨F.E,F.D,F.On,e⟩,()),()))∨∃A' F',Bn d5 A (p:Int) (dp:Int)=some ((0,()),(A',()))∧V1 d5 F (p:Int) (dp:Int)=some ((F',()),())∧Rel k A' F'∧F'.On=F.On∧F'.E=F.E∧F'.D.length=F.D.length:=by
 obtain⟨Af,AD,At⟩:=A;obtain⟨FE,FD,FG,Fe⟩:=F;obtain⟨he,hdd,hlen,hgone,herr,hsm,hheap,hnod,htodo,hdep,hseen⟩:=id h;simp only at he hdd hlen hgone herr hsm hheap hnod htodo hdep hseen;subst he hdd herr;rw[a4Y,vY,AZ,Nu];simp only[decide_true,x4,i5];by_cases c1:(p:Int)≥Af.Do
 ·rw[f9 c1];exact .inl ⟨17,by decide,rfl,rfl⟩
 ·have hp:p<AD.length:=(by omega);rw[d8 c1,l7 hp,B8,p8 hp];simp only[i5,d6];by_cases c2:AD[p]<0
  ·rw[f9 c2,d8 (by omega:¬AD[p]≥0)];simp only[i5,i7,d6,G4];rw[xX,Mc];simp only;rw[l7 hp,B8,p8 hp];simp only[d6,G4];have hng:FG.getD p true=false:=by
    cases hg:FG.getD p true with
    |false=>rfl
    |true=>have:=hseen p hp hg;omega
   have hpn:(p:Int)∉At:=fun hm=>by obtain⟨i,e,hi,h0,_⟩:=(htodo p).1 hm;have:i=p:=(by omega);subst this;omega
   obtain⟨w',h1,h2,h3⟩:=b05 ⟨Af,AD.set p dp,At⟩ (p:Int) hheap (by have:=h.small';simp only at this⊢;omega);rw[h1];refine .inr ⟨⟨Af,AD.set p dp,w'⟩,⟨Af,AD.set p dp,FG,0⟩,rfl,rfl,⟨rfl,rfl,by simpa using hlen,by simpa using hgone,rfl,by simpa using hsm,h3,?_,fun y=>?_,fun x hx=>?_,fun i hi hg=>?_⟩,rfl,rfl,by simp⟩
   ·exact h2.nodup_iff.2 (List.nodup_cons.2 ⟨hpn,hnod⟩)
   ·simp only;rw[h2.mem_iff,D4,htodo];simp only[T4,List.getElem_set]
    constructor
    ·rintro(rfl|⟨i,rfl,hi,g1,g2⟩)
     ·exact⟨p,rfl,hp,by simp,hng⟩
     ·exact⟨i,rfl,hi,by split<;>omega,g2⟩
    ·rintro⟨i,rfl,hi,g1,g2⟩;by_cases e:p=i
     ·subst e;exact .inl rfl
     ·rw[if_neg e]at g1;exact .inr ⟨i,rfl,hi,g1,g2⟩
   ·rcases List.mem_or_eq_of_mem_set hx with hx|rfl
    ·exact hdep x hx
    ·omega
   ·simp only[T4]at hi;simp only[List.getElem_set];split
    ·omega
    ·exact hseen i hi hg
  ·rw[d8 c2,f9 (by omega:AD[p]≥0)];simp only[i5,i7];by_cases c3:AD[p]=(dp:Int)
   ·rw[f9 c3];simp only[x4,i5];rw[xX,Mc];simp only;rw[l7 hp,B8,p8 hp];have e1:AD.set p (dp:Int)=AD:=(by rw[←c3];simp);simp only[d6,G4,e1];exact .inr ⟨_,_,rfl,rfl,h,rfl,rfl,rfl⟩
   ·rw[d8 c3];exact .inl ⟨18,by decide,rfl,rfl⟩
theorem zP(F:x5)(hg:F.On.length=F.D.length)(hs:F.D.length≤65536):∀(m i:Nat),F.D.length-i=m→(Cf d5 F (i:Int)=some ((-1,()),())∧∀(j:Nat) (h:j<F.D.length),i≤j→¬(0≤F.D[j]∧F.On.getD j true=false))∨∃(j:Nat) (h:j<F.D.length),i≤j∧Cf d5 F (i:Int)=some (((j:Int),()),())∧(0≤F.D[j]∧F.On.getD j true=false)∧∀(q:Nat) (hq:q<F.D.length),i≤q→q<j→¬(0≤F.D[q]∧F.On.getD q true=false):=by
 intro m
 induction m with
 |zero=>intro i hm;rw[a04,Xa,d8 (by omega),b3v,rF];exact .inl ⟨rfl,fun j h h1=>by omega⟩
 |succ m ih=>
  intro i hm;have hi:i<F.D.length:=(by omega);have e1:w64 ((i:Int)+1)=((i+1:Nat):Int):=(by rw[wrap64 (by omega) (by omega)];omega);have hgd:F.On.getD i true=F.On[i]'(by omega):=(by simp[List.getD_eq_getElem?_getD,hg,hi]);rw[a04,Xa,f9 (by omega),l7 hi,l7 (by omega:i<F.On.length),e1];simp only[i7,d6];have rest:¬(0≤F.D[i]∧F.On.getD i true=false)→(Cf d5 F ((i+1:Nat):Int)=some ((-1,()),())∧∀(j:Nat) (h:j<F.D.length),i≤j→¬(0≤F.D[j]∧F.On.getD j true=false))∨
    ∃(j:Nat) (h:j<F.D.length),i≤j∧Cf d5 F ((i+1:Nat):Int)=some (((j:Int),()),())∧(0≤F.D[j]∧F.On.getD j true=false)∧∀(q:Nat) (hq:q<F.D.length),i≤q→q<j→¬(0≤F.D[q]∧F.On.getD q true=false):=fun hn=>by
   rcases ih (i+1) (by omega)with⟨g1,g2⟩|⟨j,h,g1,g2,g3,g4⟩
   ·refine .inl ⟨g1,fun j h h1=>?_⟩;by_cases e:i=j
    ·subst e;exact hn
    ·exact g2 j h (by omega)
   ·refine .inr ⟨j,h,by omega,g2,g3,fun q hq h1 h2=>?_⟩;by_cases e:i=q
    ·subst e;exact hn
    ·exact g4 q hq (by omega) h2
  by_cases c1:0≤F.D[i]
  ·rw[f9 (by omega:F.D[i]≥0)];simp only[i7];cases hz:F.On[i]'(by omega)with
   |false=>exact .inr ⟨i,hi,i8 _,rfl,⟨c1,by rw[hgd,hz]⟩,fun q hq h1 h2=>by omega⟩
   |true=>exact rest fun h=>by rw[hgd,hz]at h;exact absurd h.2 (by decide)
  ·rw[d8 (by omega:¬F.D[i]≥0)];exact rest fun h=>c1 h.1
theorem KW{k:Nat}{A:u9}{F:x5}(h:Rel k A F):(A.todo_=[]∧nU d5 F=some ((-1,()),()))∨∃(i:Nat) (hi:i<F.D.length) (w':List Int),0<A.todo_.length∧nM d5 A=some (((i:Int),()),(⟨A.f_,A.depths_,w'⟩,()))∧nU d5 F=some (((i:Int),()),())∧0≤F.D[i]∧F.On.getD i true=false∧Rel k ⟨A.f_,A.depths_,w'⟩ ⟨F.E,F.D,F.On.set i true,F.Qs⟩:=by
 rw[BW,Ow];rcases zP F h.gone h.small _ 0 rfl with⟨g1,g2⟩|⟨j,hj,_,g2,g3,g4⟩
 ·refine .inl ⟨?_,g1⟩;cases ht:A.todo_ with
  |nil=>rfl
  |cons y l=>obtain⟨i,rfl,hi,q1,q2⟩:=(h.todo y).1 (by rw[ht];exact E2);exact absurd ⟨q1,q2⟩ (g2 i hi (C8 _))
 ·have hm:(j:Int)∈A.todo_:=(h.todo j).2 ⟨j,rfl,hj,g3.1,g3.2⟩;have hpos:0<A.todo_.length:=List.length_pos_of_mem hm;obtain⟨x,w',p1,p2,p3,p4⟩:=a9T A h.heap hpos (by have:=h.small';omega);have hx:x=(j:Int):=by
   have hxm:x∈A.todo_:=p2.subset E2;obtain⟨i,rfl,hi,q1,q2⟩:=(h.todo x).1 hxm;have h1:¬i<j:=fun hlt=>g4 i hi (C8 _) hlt ⟨q1,q2⟩;have h2:¬j<i:=fun hlt=>by
    have:(j:Int)∈(i:Int)::w':=p2.symm.subset hm;rcases D4.1 this with e|hw
    ·omega
    ·have:=p4 _ hw;omega
   omega
  subst hx;have hnd:((j:Int)::w').Nodup:=p2.symm.nodup_iff.1 h.nodup;have hgj:j<F.On.length:=(by rw[h.gone];exact hj);refine .inr ⟨j,hj,w',hpos,p1,g2,g3.1,g3.2,⟨h.e,h.d,h.len,by simpa using h.gone,h.err,h.small,p3,(List.nodup_cons.1 hnd).2,fun y=>?_,h.depth,fun i hi hg=>?_⟩⟩
  ·constructor
   ·intro hy;obtain⟨i,rfl,hi,q1,q2⟩:=(h.todo y).1 (p2.subset (F7 _ hy));have hne:i≠j:=fun e=>(List.nodup_cons.1 hnd).1 (by rw[←e];exact hy);exact⟨i,rfl,hi,q1,by simpa[List.getD_eq_getElem?_getD,List.getElem?_set,Ne.symm hne]using q2⟩
   ·rintro⟨i,rfl,hi,q1,q2⟩;have hne:i≠j:=fun e=>by subst e;simp[List.getD_eq_getElem?_getD,hgj]at q2
    have:(i:Int)∈(j:Int)::w':=p2.symm.subset ((h.todo i).2 ⟨i,rfl,hi,q1,by simpa[List.getD_eq_getElem?_getD,List.getElem?_set,Ne.symm hne]using q2⟩);rcases D4.1 this with e|hw
    ·omega
    ·exact hw
  ·by_cases e:i=j
   ·subst e;exact g3.1
   ·exact h.seen i hi (by simpa[List.getD_eq_getElem?_getD,List.getElem?_set,Ne.symm e]using hg)
theorem RF(c:l6)(hm:∀f∈c.As,0≤f.Ps∧(f.By=0∨f.By=1))(x:i9)(h1:1≤x.Op)(h2:x.Op≤26)(h19:x.Op=19→0≤x.A∧x.A<c.As.length):∃t p:Nat,p≤1∧mH d5 c x=some (((t:Int),(p:Int),()),()):=by
 rw[LY,Yx];generalize hop:x.Op=op at*;by_cases hc:op=19
 ·subst hc;obtain⟨g0,g1⟩:=h19 rfl;have hlt:x.A.toNat<c.As.length:=(by omega);obtain⟨m1,m2⟩:=hm _ (y5 hlt);refine⟨(c.As[x.A.toNat]).Ps.toNat,(c.As[x.A.toNat]).By.toNat,by omega,?_⟩;simp only[decide_true,i7,Hg g0 (by omega:x.A<c.As.length),d6,Int.toNat_of_nonneg m1,Int.toNat_of_nonneg (by omega:0≤(c.As[x.A.toNat]).By)];rfl
 ·have e:∀t p:Nat,p≤1→∃t' p':Nat,p'≤1∧(some (((t:Int),(p:Int),()),()):b5L)=some (((t':Int),(p':Int),()),()):=fun t p h=>⟨t,p,h,rfl⟩;by_cases h20:op=20
  ·subst h20;by_cases a7:x.A=7
   ·rw[a7];exact e 0 1 (by omega)
   ·by_cases a5:x.A=5
    ·rw[a5];exact e 2 1 (by omega)
    ·simp only[a7,a5,decide_false,decide_true,i7,i5];exact e 1 1 (by omega)
  ·rcases Qz h1 h2 with rfl|rfl|rfl|rfl|rfl|rfl|rfl|rfl|rfl|rfl|rfl|rfl|rfl|rfl|rfl|rfl|rfl|rfl|rfl|rfl|rfl|rfl|rfl|rfl|rfl|rfl
   all_goals first
    |exact e 0 1 (by omega)
    |exact e 1 0 (by omega)
    |exact e 1 1 (by omega)
    |exact e 2 1 (by omega)
    |exact e 3 0 (by omega)
    |exact e 2 0 (by omega)
    |exact e 0 0 (by omega)
    |exact absurd rfl hc
    |exact absurd rfl h20
structure FnR(c:l6)(E:o0):Prop where
 at0:0≤E.At
 len0:0≤E.Do
 fit:E.At+E.Do≤c.Is.length
 big:c.Is.length≤65536
 fns:∀f∈c.As,0≤f.Ps∧(f.By=0∨f.By=1)
 res:E.By=0∨E.By=1
 op:∀x∈c.Is,1≤x.Op∧x.Op≤26
 ok:∀(i:Nat),(i:Int)<E.Do→∀x,c.Is[E.At.toNat+i]? =some x→Fc d5 c E x=some ((0,()),())
theorem PQ{a b c:Int}{n:Int}(hn:n≠0)(h:((V9 d5 a b c).bind fun(r:RT0)=>(cond (!r.1.1) (some ((n,()),())) ((R7 d5))))=some ((0,()),())):b≤a∧a<c:=by
 rw[qH,Ii]at h;by_cases c1:a≥b
 ·rw[f9 c1]at h;by_cases c2:a<c
  ·exact⟨c1,c2⟩
  ·rw[d8 c2]at h;simp only[i7,d6,D3,F8,Rg,and_true]at h;exact absurd h hn
 ·rw[d8 c1]at h;simp only[i7,i5,d6,D3,F8,Rg,and_true]at h;exact absurd h hn
theorem GY{c:l6}{E:o0}{x:i9}(hw:Fc d5 c E x=some ((0,()),()))(h:x.Op=19):0≤x.A∧x.A<c.As.length:=by rw[Ua,Ia,h]at hw;exact PQ (n:=19) (by decide) hw
theorem a4S{c:l6}{E:o0}{x:i9}(hw:Fc d5 c E x=some ((0,()),()))(h:x.Op=11∨x.Op=12∨x.Op=13∨x.Op=14):0≤x.A∧x.A<E.Do:=by
 rw[Ua,Ia]at hw;have h2:Gv d5 E x=some ((0,()),()):=by rcases h with h|h|h|h<;>rw[h]at hw<;>exact hw
 rw[mD,Ju]at h2;exact PQ (n:=17) (by decide) h2
theorem Rel.mono{k k':Nat}{A:u9}{F:x5}(h:Rel k A F)(hk:k≤k'):Rel k' A F:=
 ⟨h.e,h.d,h.len,h.gone,h.err,h.small,h.heap,h.nodup,h.todo,fun x hx=>by have:=h.depth x hx;omega,h.seen⟩
theorem b1L(F:x5)(h:F.Qs≠0)(a b:Int):V1 d5 F a b=some ((F,()),()):=by rw[AZ,Nu,d8 h];rfl
theorem LD{k:Nat}{A:u9}{F:x5}(h:Rel k A F)(hk:k≤100000)(x:i9)(i d t p:Nat)(ht:t≤d)(hp:p≤1)(hd:d+1≤k)(hi:i<65536):(∃e:Int,e≠0∧∃A' F',Cn d5 (i:Int) (d:Int) (((t:Int),(p:Int),()),()) 0 x A=some ((e,()),(A',()))∧Bg d5 (i:Int) (d:Int) (((t:Int),(p:Int),()),()) F x=some ((F',()),())∧F'.Qs=e)∨∃A' F',Cn d5 (i:Int) (d:Int) (((t:Int),(p:Int),()),()) 0 x A=some ((0,()),(A',()))∧Bg d5 (i:Int) (d:Int) (((t:Int),(p:Int),()),()) F x=some ((F',()),())∧Rel k A' F'∧F'.On=F.On∧F'.E=F.E∧F'.D.length=F.D.length:=by
 rw[SU,Vu,JI,Px];by_cases c1:x.Op=11
 ·rw[f9 c1];exact .inr ⟨A,F,rfl,rfl,h,rfl,rfl,rfl⟩
 by_cases c2:x.Op=25
 ·rw[d8 c1,f9 c2];exact .inr ⟨A,F,rfl,rfl,h,rfl,rfl,rfl⟩
 by_cases c3:x.Op=26
 ·rw[d8 c1,d8 c2,f9 c3];exact .inr ⟨A,F,rfl,rfl,h,rfl,rfl,rfl⟩
 have e1:w64 ((i:Int)+1)=((i+1:Nat):Int):=(by rw[wrap64 (by omega) (by omega)];omega);have e2:w64 (w64 ((d:Int)-(t:Int))+(p:Int))=((d-t+p:Nat):Int):=by rw[wrap64 (n:=(d:Int)-t) (by omega) (by omega),wrap64 (by omega) (by omega)];omega
 simp only[d8 c1,d8 c2,d8 c3,i5,decide_true,x4,e1,e2];rcases zA h (i+1) (d-t+p) (by omega)with⟨e,he,g1,g2⟩|⟨A',F',g1,g2,g3⟩
 ·rw[g1,g2];exact .inl ⟨e,he,A,_,rfl,rfl,rfl⟩
 ·rw[g1,g2];exact .inr ⟨A',F',rfl,rfl,g3⟩
theorem a8T{A:u9}{F:x5}{e:Int}(he:e≠0)(hF:F.Qs=e)(x:i9)(a d:Int)(r:A8):Cn d5 a d r e x A=some ((e,()),(A,()))∧Bg d5 a d r F x=some ((F,()),()):=by
 rw[SU,Vu,JI,Px,d8 he];refine⟨rfl,?_⟩;rw[b1L F (by rw[hF];exact he)];by_cases c1:x.Op=11
 ·rw[f9 c1];rfl
 by_cases c2:x.Op=25
 ·rw[d8 c1,f9 c2];rfl
 by_cases c3:x.Op=26
 ·rw[d8 c1,d8 c2,f9 c3];rfl
 simp only[d8 c1,d8 c2,d8 c3,i5,d6]
theorem a1y{k:Nat}{A:u9}{F:x5}(h:Rel k A F)(hk:k≤100000)(x:i9)(i d t p q dp:Nat)(ht:t≤d)(hp:p≤1)(hd:d+1≤k)(hq:dp≤k)(hi:i<65536):(∃e:Int,e≠0∧∃A' F',((Bn d5 A (q:Int) (dp:Int)).bind fun(r:P2)=>(Cn d5 (i:Int) (d:Int) (((t:Int),(p:Int),()),()) r.1.1 x r.2.1))=some ((e,()),(A',()))∧((V1 d5 F (q:Int) (dp:Int)).bind fun(r:RT7)=>Bg d5 (i:Int) (d:Int) (((t:Int),(p:Int),()),()) r.1.1 x)=some ((F',()),())∧F'.Qs=e)∨∃A' F',((Bn d5 A (q:Int) (dp:Int)).bind fun(r:P2)=>(Cn d5 (i:Int) (d:Int) (((t:Int),(p:Int),()),()) r.1.1 x r.2.1))=some ((0,()),(A',()))∧((V1 d5 F (q:Int) (dp:Int)).bind fun(r:RT7)=>Bg d5 (i:Int) (d:Int) (((t:Int),(p:Int),()),()) r.1.1 x)=some ((F',()),())∧Rel k A' F'∧F'.On=F.On∧F'.E=F.E∧F'.D.length=F.D.length:=by
 rcases zA h q dp hq with⟨e,he,g1,g2⟩|⟨A',F',g1,g2,g3,g4,g5,g6⟩
 ·rw[g1,g2];simp only[d6];obtain⟨q1,q2⟩:=a8T (A:=A) (F:=⟨F.E,F.D,F.On,e⟩) he rfl x (i:Int) (d:Int) (((t:Int),(p:Int),()),());exact .inl ⟨e,he,A,_,q1,q2,rfl⟩
 ·rw[g1,g2];simp only[d6];rcases LD g3 hk x i d t p ht hp hd hi with h1|⟨A2,F2,m1,m2,m3,m4,m5,m6⟩
  ·exact .inl h1
  ·exact .inr ⟨A2,F2,m1,m2,m3,m4.trans g4,m5.trans g5,m6.trans g6⟩
theorem a5j{k:Nat}{A:u9}{c:l6}{E:o0}{D:List Int}{G:List Bool}{i:Nat}(hfn:FnR c E)(hi:i<D.length)(hi0:0≤D[i])(h:Rel k A ⟨E,D,G.set i true,0⟩)(hk:k<100000):(∃e:Int,e≠0∧∃A' F',rU d5 A c (i:Int)=some ((e,()),(A',()))∧aD d5 ⟨E,D,G,0⟩ c (i:Int)=some ((F',()),())∧F'.Qs=e)∨∃A' F',rU d5 A c (i:Int)=some ((0,()),(A',()))∧aD d5 ⟨E,D,G,0⟩ c (i:Int)=some ((F',()),())∧Rel (k+1) A' F'∧F'.On=G.set i true∧F'.E=E∧F'.D.length=D.length:=by
 have hA0:A=⟨E,D,A.todo_⟩:=by have h1:=h.e;have h2:=h.d;obtain⟨a1,a2,a3⟩:=A;simp only at h1 h2;rw[h1,h2]
 have hlen:=h.len;have hG:G.length=D.length:=(by simpa using h.gone);simp only at hlen;have hin:E.At.toNat+i<c.Is.length:=(by have:=hfn.at0;have:=hfn.fit;omega);obtain⟨x,hx⟩:∃x,c.Is[E.At.toNat+i]? =some x:=⟨_,p8 hin⟩;have hw:=hfn.ok i (by omega) x hx;have hxm:x∈c.Is:=K8 hx;obtain⟨o1,o2⟩:=hfn.op x hxm;have hcall:=GY hw;have hjump:=a4S hw;obtain⟨t,p,hp,heff⟩:=RF c hfn.fns x o1 o2 hcall;have heff2:aM d5 c x=some (((t:Int),(p:Int),()),()):=(by rw[←XI c x o1 o2];exact heff);have eidx:w64 (E.At+(i:Int))=((E.At.toNat+i:Nat):Int):=by have:=hfn.at0;have:=hfn.fit;have:=hfn.big;rw[wrap64 (by omega) (by omega)];omega
 have hgx:i6 c.Is (w64 (E.At+(i:Int)))=some x:=by rw[eidx,l7 hin];exact(p8 hin).symm.trans hx
 obtain⟨d,hd⟩:∃d:Nat,D[i]=(d:Int):=⟨D[i].toNat,by omega⟩;have hdk:d≤k:=(by have:=h.depth D[i] (y5 hi);omega);have hsm:=h.small;simp only at hsm;rw[hA0]at h⊢;generalize A.todo_=w at*;clear hA0;rw[b2N,fS,PO,Wk];simp only[hgx,d6,l7 hi,B8,p8 hi,hd,heff,heff2,l7 (show i<G.length by omega),p8 (show i<G.length by omega),G4];have err:∀(F':x5),F'.Qs=18→∀{r:b5R} {r':Option RT7},r=some ((18,()),((⟨E,D,w⟩:u9),()))→r'=some ((F',()),())→
   (∃e:Int,e≠0∧∃A' F',r=some ((e,()),(A',()))∧r'=some ((F',()),())∧F'.Qs=e)∨∃A' F',r=some ((0,()),(A',()))∧r'=some ((F',()),())∧Rel (k+1) A' F'∧F'.On=G.set i true∧F'.E=E∧F'.D.length=D.length:=
  fun F' hF r r' h1 h2=>.inl ⟨18,by decide,_,F',h1,h2,hF⟩
 by_cases c1:(t:Int)>(d:Int)
 ·rw[f9 c1];simp only[i7,Pz,lI];exact err _ rfl rfl rfl
 rw[d8 c1];simp only[i5,b4Q,eD];have hres:=hfn.res;have go:∀{r:b5R} {r':Option RT7},r=(cond (decide (x.Op=11)) ((Wx d5 (i:Int) (d:Int) (((t:Int),(p:Int),()),()) x ⟨E,D,w⟩)) (cond (decide (x.Op=12)) ((Wx d5 (i:Int) (d:Int) (((t:Int),(p:Int),()),()) x ⟨E,D,w⟩)) (cond (decide (x.Op=13)) ((bH d5 (i:Int) (d:Int) (((t:Int),(p:Int),()),()) x ⟨E,D,w⟩)) (cond (decide (x.Op=14)) ((bH d5 (i:Int) (d:Int) (((t:Int),(p:Int),()),()) x ⟨E,D,w⟩)) ((Cn d5 (i:Int) (d:Int) (((t:Int),(p:Int),()),()) 0 x ⟨E,D,w⟩))))))→
   r'=Bo d5 (i:Int) (d:Int) (((t:Int),(p:Int),()),()) ⟨E,D,G,0⟩ x (G.set i true)→
   (∃e:Int,e≠0∧∃A' F',r=some ((e,()),(A',()))∧r'=some ((F',()),())∧F'.Qs=e)∨∃A' F',r=some ((0,()),(A',()))∧r'=some ((F',()),())∧Rel (k+1) A' F'∧F'.On=G.set i true∧F'.E=E∧F'.D.length=D.length:=by
  intro r r' hr hr';subst hr hr';have h':Rel (k+1) ⟨E,D,w⟩ ⟨E,D,G.set i true,0⟩:=h.mono (by omega);have e3:w64 ((d:Int)-(t:Int))=((d-t:Nat):Int):=(by rw[wrap64 (by omega) (by omega)];omega);rw[a0x,Tu];have jmp:∀dp:Nat,dp≤k+1→(x.Op=11∨x.Op=12∨x.Op=13∨x.Op=14)→_:=fun dp hdp hop=>a1y h' (by omega) x i d t p x.A.toNat dp (by omega) hp (by omega) hdp (by omega)
  by_cases a1:x.Op=11
  ·rw[f9 a1];simp only[i7];have:=jmp (d-t) (by omega) (.inl a1);rw[Int.toNat_of_nonneg (hjump (.inl a1)).1]at this;rw[QE,Yq,EW,Om,e3];exact this
  by_cases a2:x.Op=12
  ·rw[d8 a1,f9 a2];simp only[i7,i5];have:=jmp (d-t) (by omega) (.inr (.inl a2));rw[Int.toNat_of_nonneg (hjump (.inr (.inl a2))).1]at this;rw[QE,Yq,EW,Om,e3];exact this
  by_cases a3:x.Op=13
  ·rw[d8 a1,d8 a2,f9 a3];simp only[i7,i5];have:=jmp d (by omega) (.inr (.inr (.inl a3)));rw[Int.toNat_of_nonneg (hjump (.inr (.inr (.inl a3)))).1]at this;rw[a1g,Yg,xJ,Og];exact this
  by_cases a4:x.Op=14
  ·rw[d8 a1,d8 a2,d8 a3,f9 a4];simp only[i7,i5];have:=jmp d (by omega) (.inr (.inr (.inr a4)));rw[Int.toNat_of_nonneg (hjump (.inr (.inr (.inr a4)))).1]at this;rw[a1g,Yg,xJ,Og];exact this
  rw[d8 a1,d8 a2,d8 a3,d8 a4];simp only[i5];exact LD h' (by omega) x i d t p (by omega) hp (by omega) (by omega)
 by_cases b1:x.Op=1
 ·rw[b1]at go⊢;by_cases z:(d:Int)=0
  ·rw[f9 z];exact go rfl rfl
  ·rw[d8 z];exact err _ rfl rfl (Pz _ _)
 by_cases b2:x.Op=25
 ·rw[b2]at go⊢;by_cases z:(d:Int)=1
  ·rw[f9 z];rcases hres with z2|z2
   ·simp only[z2];exact err _ rfl rfl (Pz _ _)
   ·simp only[z2];exact go rfl rfl
  ·rw[d8 z];exact err _ rfl rfl (Pz _ _)
 by_cases b3:x.Op=26
 ·rw[b3]at go⊢;by_cases z:(d:Int)=0
  ·rw[f9 z];rcases hres with z2|z2
   ·simp only[z2];exact go rfl rfl
   ·simp only[z2];exact err _ rfl rfl (Pz _ _)
  ·rw[d8 z];exact err _ rfl rfl (Pz _ _)
 rw[d8 b1,d8 b2,d8 b3];exact go rfl rfl
theorem Wv{p:Prop} [Decidable p](h:p):okP p=some ():=if_pos h
theorem count_set{l:List Bool}{i:Nat}(hi:i<l.length)(h:l[i]=false):(l.set i true).count false+1=l.count false:=by have hm:l[i]∈l:=y5 hi;rw[h]at hm;have:=List.count_pos_iff.2 hm;rw[List.count_set hi,h];simp;omega
theorem GI(l:List Int):Wn d5 l=some (((l.length:Int),()),()):=by rw[DL,Qr]
theorem a4f{c:l6}:∀(m k:Nat) (A:u9) (F:x5) (v:Int),F.On.count false=m→k+m≤65536→Rel k A F→FnR c F.E→(∃e:Int,e≠0∧∃(at':Int) (F':x5),Uv d5 c A=some (([],e,at',()),())∧Oq d5 v c F=some ((F',at',()),())∧F'.Qs=e)∨∃F':x5,Uv d5 c A=some ((F'.D,0,0,()),())∧Oq d5 v c F=some ((F',0,()),())∧F'.Qs=0∧F'.D.length=F.D.length:=by
 intro m
 induction m with
 |zero=>
  intro k A F v hc hk h hfn;rcases KW h with⟨g1,g2⟩|⟨i,hi,w',hpos,p1,n1,d0,g0,hrel⟩
  ·rw[CF,Mi,Li,Dn,GI,g1,g2,f9 h.err,RS,Sr,h.d];exact .inr ⟨F,rfl,rfl,h.err,rfl⟩
  ·exfalso;have hl:i<F.On.length:=(by rw[h.gone];exact hi);have:false∈F.On:=by have e:F.On[i]=false:=(by simpa[List.getD_eq_getElem?_getD,hl]using g0);rw[←e];exact y5 hl
   have:=List.count_pos_iff.2 this;omega
 |succ m ih=>
  intro k A F v hc hk h hfn;rcases KW h with⟨g1,g2⟩|⟨i,hi,w',hpos,p1,n1,d0,g0,hrel⟩
  ·rw[CF,Mi,Li,Dn,GI,g1,g2,f9 h.err,RS,Sr,h.d];exact .inr ⟨F,rfl,rfl,h.err,rfl⟩
  ·have hl:i<F.On.length:=(by rw[h.gone];exact hi);have hz:F.On[i]=false:=(by simpa[List.getD_eq_getElem?_getD,hl]using g0);have hcs:=count_set hl hz;rw[CF,Mi,Li,Dn,GI,n1,f9 h.err];simp only[d6,i7];rw[f9 (by omega:(A.todo_.length:Int)>0),p1,d8 (by omega:¬(i:Int)<0)];simp only[d6,i7,i5];have herr:=h.err;obtain⟨FE,FD,FG,Fe⟩:=F;simp only at hi d0 herr hrel hl hz hcs hc hfn;subst herr;rcases a5j hfn hi d0 hrel (by omega)with⟨e,he,A',F',q1,q2,q3⟩|⟨A',F',q1,q2,q3,q4,q5,q6⟩
   ·rw[q1,q2];simp only[d6];rw[d8 he,Li,Dn,d8 (by rw[q3];exact he),PU,Ud];exact .inl ⟨e,he,i,F',rfl,rfl,q3⟩
   ·rw[q1,q2];simp only[d6,decide_true,x4,i5];rcases ih (k+1) A' F' (i:Int) (by rw[q4];omega) (by omega) q3 (by rw[q5];exact hfn)with z|⟨F2,z1,z2,z3,z4⟩
    ·exact .inl z
    ·exact .inr ⟨F2,z1,z2,z3,z4.trans q6⟩
theorem a7r(c:l6)(E:o0)(hE:0≤E.Do)(hE2:E.Do≤65536):∀(m i:Nat) (w:List Int),E.Do.toNat-i=m→w.length=E.Do.toNat→(∀j,j<i→w[j]? =some (-1))→i≤E.Do.toNat→Zk d5 E (i:Int) c w=JO d5 c E (List.replicate E.Do.toNat (-1)):=by
 intro m
 induction m with
 |zero=>
  intro i w hm hw hj hi;rw[VS,Wb,List.length_replicate,d8 (by omega)];have:w=List.replicate E.Do.toNat (-1):=by
   apply List.ext_getElem?
   intro j;by_cases c1:j<E.Do.toNat
   ·rw[hj j (by omega),List.getElem?_replicate,if_pos c1]
   ·rw[List.getElem?_eq_none (by omega),List.getElem?_eq_none (by simpa using c1)]
  rw[this];rfl
 |succ m ih=>
  intro i w hm hw hj hi;have hi':i<w.length:=(by omega);have e1:w64 ((i:Int)+1)=((i+1:Nat):Int):=(by rw[wrap64 (by omega) (by omega)];omega);rw[VS,Wb,List.length_replicate,f9 (by omega),l7 hi',B8,p8 hi',e1];simp only[i7,d6,G4];refine ih (i+1) _ (by omega) (by simpa using hw) (fun j hj'=>?_) (by omega);rw[List.getElem?_set];by_cases e:i=j
  ·subst e;simp[hi']
  ·rw[if_neg e];exact hj j (by omega)
theorem UB(c:l6)(E:o0)(hE:0≤E.Do)(hE2:E.Do≤65536):∀(m i:Nat) (w:List Int),E.Do.toNat-i=m→w.length=E.Do.toNat→(∀j,j<i→w[j]? =some (-1))→i≤E.Do.toNat→Py d5 E (i:Int) c w=BJ d5 c E (List.replicate E.Do.toNat (-1)):=by
 intro m
 induction m with
 |zero=>
  intro i w hm hw hj hi;rw[UQ,Yb,List.length_replicate,d8 (by omega)];have:w=List.replicate E.Do.toNat (-1):=by
   apply List.ext_getElem?
   intro j;by_cases c1:j<E.Do.toNat
   ·rw[hj j (by omega),List.getElem?_replicate,if_pos c1]
   ·rw[List.getElem?_eq_none (by omega),List.getElem?_eq_none (by simpa using c1)]
  rw[this];rfl
 |succ m ih=>
  intro i w hm hw hj hi;have hi':i<w.length:=(by omega);have e1:w64 ((i:Int)+1)=((i+1:Nat):Int):=(by rw[wrap64 (by omega) (by omega)];omega);rw[UQ,Yb,List.length_replicate,f9 (by omega),l7 hi',B8,p8 hi',e1];simp only[i7,d6,G4];refine ih (i+1) _ (by omega) (by simpa using hw) (fun j hj'=>?_) (by omega);rw[List.getElem?_set];by_cases e:i=j
  ·subst e;simp[hi']
  ·rw[if_neg e];exact hj j (by omega)
theorem a7B{c:l6}{E:o0}(hfn:FnR c E):(∃e:Int,e≠0∧∃(at':Int) (F':x5),Io d5 c E=some (([],e,at',()),())∧Kt d5 c E=some ((F',at',()),())∧F'.Qs=e)∨∃F':x5,Io d5 c E=some ((F'.D,0,0,()),())∧Kt d5 c E=some ((F',0,()),())∧F'.Qs=0∧F'.D.length=E.Do.toNat:=by
 have hE:=hfn.len0;have hE2:E.Do≤65536:=(by have:=hfn.at0;have:=hfn.fit;have:=hfn.big;omega);have o8:R2 8 E.Do:=(by unfold R2 maxLen;omega);have o1:R2 1 E.Do:=(by unfold R2 maxLen;omega);rw[a6J,eX,ZB,Xo,Wv o8,Wv o1];simp only[d6];rw[show Zk d5 E 0 c _=_ from a7r c E hE hE2 _ 0 _ rfl (by simp) (fun j hj=>absurd hj (Nat.not_lt_zero _)) (C8 _),show Py d5 E 0 c _=_ from UB c E hE hE2 _ 0 _ rfl (by simp) (fun j hj=>absurd hj (Nat.not_lt_zero _)) (C8 _),b4W,pP,TF,Un];have h0:Rel 0 ⟨E,List.replicate E.Do.toNat (-1),[]⟩ ⟨E,List.replicate E.Do.toNat (-1),List.replicate E.Do.toNat false,0⟩:=by
  refine⟨rfl,rfl,by simp only[List.length_replicate];omega,by simp,rfl,by simp only[List.length_replicate];omega,?_,List.nodup_nil,fun y=>⟨fun h=>(List.not_mem_nil h).elim,?_⟩,fun x hx=>?_,fun i hi hg=>?_⟩
  ·exact fun k h0 h1=>absurd h1 (Nat.not_lt_zero _)
  ·rintro⟨i,_,hi,q1,_⟩;simp only[List.getElem_replicate]at q1;omega
  ·have:=List.eq_of_mem_replicate hx;omega
  ·exfalso;simp only[List.length_replicate]at hi;simp[List.getD_eq_getElem?_getD,hi]at hg
 rcases zA h0 0 0 (i8 _)with⟨e,he,g1,g2⟩|⟨A',F',g1,g2,g3,g4,g5,g6⟩
 ·rw[show Bn d5 _ 0 0=_ from g1,show V1 d5 _ 0 0=_ from g2];simp only[d6];rw[d8 he,Li,Dn,d8 he,PU,Ud];exact .inl ⟨e,he,0,_,rfl,rfl,rfl⟩
 ·rw[show Bn d5 _ 0 0=_ from g1,show V1 d5 _ 0 0=_ from g2];simp only[d6,decide_true,x4,i5];have hc:F'.On.count false≤65536:=by rw[g4];simp only[List.count_replicate];simp;omega
  rcases a4f _ 0 A' F' 0 rfl (by omega) g3 (by rw[g5];exact hfn)with z|⟨F2,z1,z2,z3,z4⟩
  ·exact .inl z
  ·exact .inr ⟨F2,z1,z2,z3,z4.trans (g6.trans (by simp))⟩
theorem b2s(a b c:Int):∃z,V9 d5 a b c=some ((z,()),()):=by rw[qH,Ii];cases decide (a≥b)<;>exact⟨_,rfl⟩
theorem b24(c:l6)(f:o0)(x:i9)(h1:1≤x.Op)(h2:x.Op≤26):∃e,Fc d5 c f x=some ((e,()),()):=by
 have key:∀(a b d n:Int),∃e,((V9 d5 a b d).bind fun(r:RT0)=>(cond (!r.1.1) (some ((n,()),())) ((R7 d5))))=some ((e,()),()):=fun a b d n=>by obtain⟨z,h⟩:=b2s a b d;rw[h,Xe,Lo];cases z<;>exact⟨_,rfl⟩
 have k0:∃e,Hu d5 x=some ((e,()),()):=by rw[HR,Qh,Xe,Lo];cases decide (x.A<0)<;>exact⟨_,rfl⟩
 have k1:∃e,Yn d5 f x=some ((e,()),()):=(by rw[JV,Pi];exact key _ _ _ _);have k2:∃e,Gv d5 f x=some ((e,()),()):=(by rw[mD,Ju];exact key _ _ _ _);have k3:∃e,R7 d5=some ((e,()),()):=(by rw[Xe,Lo];exact⟨_,rfl⟩);rw[Ua,Ia];generalize x.Op=op at*;rcases Qz h1 h2 with rfl|rfl|rfl|rfl|rfl|rfl|rfl|rfl|rfl|rfl|rfl|rfl|rfl|rfl|rfl|rfl|rfl|rfl|rfl|rfl|rfl|rfl|rfl|rfl|rfl|rfl
 all_goals first
  |exact k0
  |exact k1
  |exact k2
  |exact k3
  |exact key _ _ _ _
structure OP(c:l6)(f:o0):Prop where
 at0:0≤f.At
 len0:0≤f.Do
 fit:f.At+f.Do≤c.Is.length
 par:0≤f.Ps
 parS:f.Ps≤f.Ss
 slots:f.Ss≤200
 res:f.By=0∨f.By=1
theorem UA{c:l6}:∀{l:List o0} {a e:Int},0≤a→Cl c.Is.length a l=some e→∀f∈l,OP c f
 | [],_,_,_,_=>fun f hf=>nomatch hf
 |g::l,a,e,h0,h=>by
  rw[dV]at h;split at h
  ·rename_i c1;obtain⟨⟨q1,q2,q3,q4,q5,q6,q7⟩,q8⟩:=c1;intro f hf;rcases D4.1 hf with rfl|hf
   ·exact⟨by omega,q2,by omega,q3,q4,q5,by omega⟩
   ·exact UA (by omega) h f hf
  ·cases h
theorem b2m{c:l6}(hm:Pj c){f:o0}(hf:OP c f)(n:Int):∀(m i:Nat),f.Do.toNat-i=m→i≤f.Do.toNat→(∃e j:Int,e≠0∧Mu d5 n c n f (i:Int)=some ((e,n,j,()),())∧Gp d5 n (i:Int) c n f=some ((e,n,j,()),()))∨(Mu d5 n c n f (i:Int)=zF d5 c n∧Gp d5 n (i:Int) c n f=tO d5 c n∧∀j:Nat,i≤j→(j:Int)<f.Do→∀x,c.Is[f.At.toNat+j]? =some x→Fc d5 c f x=some ((0,()),())):=by
 have a0:=hf.at0;have l0:=hf.len0;have hfit:=hf.fit;have hbig:=hm.ins;have e0:w64 (f.At+f.Do)=f.At+f.Do:=wrap64 (by omega) (by omega);have hcut:=Gb c.Is f.At (f.At+f.Do) ⟨a0,by omega,hfit⟩;intro m
 induction m with
 |zero=>intro i hi hi2;rw[WA,Sn,cT,Ja,e0,hcut.1,d8 (by omega),d8 (by omega)];exact .inr ⟨rfl,rfl,fun j h1 h2=>by omega⟩
 |succ m ih=>
  intro i hi hi2;have hil:i<(x8 c.Is f.At (f.At+f.Do)).length:=(by rw[hcut.1];omega);obtain⟨hb,hg⟩:=hcut.2 i hil;have e1:w64 ((i:Int)+1)=((i+1:Nat):Int):=(by rw[wrap64 (by omega) (by omega)];omega);have e2:w64 (f.At+(i:Int))=((f.At.toNat+i:Nat):Int):=(by rw[wrap64 (by omega) (by omega)];omega);have hok:=List.all_eq_true.1 hm.ok _ (y5 hb);unfold T7 at hok;simp only[w8,decide_eq_true_eq]at hok;obtain⟨w,hw⟩:=b24 c f c.Is[f.At.toNat+i] hok.1 hok.2.1;have hr:fX d5 c f c.Is[f.At.toNat+i]=some ((w,()),()):=(by rw[a1j c f _ hok.1 hok.2.1];exact hw);rw[WA,Sn,cT,Ja,e0,f9 (by omega),f9 (by omega),l7 hil,hg hb,e1,e2,l7 hb];simp only[i7,d6,hr,hw];by_cases hz:w=0
  ·subst hz;simp only[decide_true,x4,i5];rcases ih (i+1) (by omega) (by omega)with g|⟨g1,g2,g3⟩
   ·exact .inl g
   ·refine .inr ⟨g1,g2,fun j h1 h2 x hx=>?_⟩;by_cases e:i=j
    ·subst e;rw[p8 hb]at hx;cases hx;exact hw
    ·exact g3 j (by omega) h2 x hx
  ·rw[d8 hz];exact .inl ⟨w,i,hz,rfl,rfl⟩
theorem a48{c:l6}(hm:Pj c):∀(m i:Nat),c.As.length-i=m→(∃e n j:Int,e≠0∧Nz d5 c (i:Int)=some ((e,n,j,()),())∧Hz d5 c (i:Int)=some ((e,n,j,()),()))∨(Nz d5 c (i:Int)=FO d5 c∧Hz d5 c (i:Int)=uD d5 c∧∀f∈c.As.drop i,FnR c f):=by
 have hlies:=UA (N0 0) hm.lay;have hfns:=hm.fns;intro m
 induction m with
 |zero=>intro i hi;rw[LE,Xb,rG,Ke,d8 (by omega),J1 (by omega)];exact .inr ⟨rfl,rfl,fun f hf=>nomatch hf⟩
 |succ m ih=>
  intro i hi;have hil:i<c.As.length:=(by omega);have hf:=hlies _ (y5 hil);have e1:w64 ((i:Int)+1)=((i+1:Nat):Int):=(by rw[wrap64 (by omega) (by omega)];omega);rw[LE,Xb,rG,Ke,f9 (by omega),l7 hil,H5 hil];generalize c.As[i]=f at*;simp only[i7,d6];have a0:=hf.at0;have l0:=hf.len0;have hfit:=hf.fit;have hbig:=hm.ins;rw[Wv (show B9 f.At (w64 (f.At+f.Do)) c.Is.length by rw[wrap64 (by omega) (by omega)];exact⟨a0,by omega,hfit⟩)];simp only[d6];rcases b2m hm hf (i:Int) _ 0 rfl (C8 _)with⟨e,j,he,g1,g2⟩|⟨g1,g2,g3⟩
  ·exact .inl ⟨e,i,j,he,g1,g2⟩
  ·rw[show Mu d5 i c i f 0=_ from g1,show Gp d5 i 0 c i f=_ from g2,b0k,oP,YP,Ue,e1];rcases ih (i+1) (by omega)with g|⟨k1,k2,k3⟩
   ·exact .inl g
   ·refine .inr ⟨k1,k2,fun f' hf'=>?_⟩;rcases D4.1 hf' with rfl|hf'
    ·refine⟨a0,l0,hfit,hbig,fun f hf=>⟨(hlies f hf).par,(hlies f hf).res⟩,hf.res,fun x hx=>?_,fun j hj x hx=>g3 j (C8 _) hj x hx⟩;have hok:=List.all_eq_true.1 hm.ok _ hx;unfold T7 at hok;simp only[w8,decide_eq_true_eq]at hok;exact⟨hok.1,hok.2.1⟩
    ·exact k3 f' hf'
def a0T(c:l6)(f:o0):Prop:=∃F':x5,Io d5 c f=some ((F'.D,0,0,()),())∧Kt d5 c f=some ((F',0,()),())∧F'.Qs=0∧F'.D.length=f.Do.toNat
theorem b0h{c:l6}(hm:Pj c)(hall:∀f∈c.As,FnR c f):∀(m i:Nat),c.As.length-i=m→∃e n j:Int,eH d5 c (i:Int)=some ((e,n,j,()),())∧Tw d5 c (i:Int)=some ((e,n,j,()),())∧(e=0→∀f∈c.As.drop i,a0T c f):=by
 have hfns:=hm.fns;intro m
 induction m with
 |zero=>intro i hi;rw[PG,Uf,mM,Kl,d8 (by omega),J1 (by omega),b5l,lJ,US,Sj];exact⟨0,0,0,rfl,rfl,fun _ f hf=>nomatch hf⟩
 |succ m ih=>
  intro i hi;have hil:i<c.As.length:=(by omega);have hf:=hall _ (y5 hil);have e1:w64 ((i:Int)+1)=((i+1:Nat):Int):=(by rw[wrap64 (by omega) (by omega)];omega);rw[PG,Uf,mM,Kl,f9 (by omega),l7 hil,e1,H5 hil];generalize c.As[i]=f at*;simp only[i7,d6];rcases a7B hf with⟨e,he,at',F',g1,g2,g3⟩|⟨F',g1,g2,g3,g4⟩
  ·rw[g1,g2];simp only[d6];rw[d8 he,d8 (by rw[g3];exact he),g3];exact⟨e,i,at',rfl,rfl,fun h=>absurd h he⟩
  ·obtain⟨e,n,j,k1,k2,k3⟩:=ih (i+1) (by omega);rw[g1,g2];simp only[d6];rw[f9 g3];refine⟨e,n,j,k1,k2,fun h f' hf'=>?_⟩;rcases D4.1 hf' with rfl|hf'
   ·exact⟨F',g1,g2,g3,g4⟩
   ·exact k3 h f' hf'
theorem b1z(c:l6)(h8:∀x∈c.Is,0≤x.Op):∃e n j:Int,Zi d5 c=some ((e,n,j,()),())∧xQ d5 c=some ((e,n,j,()),())∧(e=0→Pj c∧(∀f∈c.As,FnR c f)∧∀f∈c.As,a0T c f):=by
 obtain⟨b,h1,h2,h3⟩:=a0g c h8;rw[a8A,wE,LC,Sa,h1,h2];cases b with
 |false=>exact⟨1,0,0,rfl,rfl,fun h=>absurd h (by decide)⟩
 |true=>
  have hm:=h3 rfl;simp only[d6,x4,i5];rcases a48 hm _ 0 rfl with⟨e,n,j,he,g1,g2⟩|⟨g1,g2,g3⟩
  ·exact⟨e,n,j,g1,g2,fun h=>absurd h he⟩
  ·rw[L9]at g3;obtain⟨e,n,j,k1,k2,k3⟩:=b0h hm g3 _ 0 rfl;rw[L9]at k3;refine⟨e,n,j,?_,?_,fun h=>⟨hm,g3,k3 h⟩⟩
   ·rw[show Nz d5 c 0=_ from g1,a4I,bZ];exact k1
   ·rw[show Hz d5 c 0=_ from g2,VK,Xy];exact k2
theorem a60(x:i9)(h1:1≤x.Op)(h2:x.Op≤26):kB d5 x=some ((((Ot.getD x.Op.toNat 0:Nat):Int),((Pn.getD x.Op.toNat 0:Nat):Int),()),()):=by
 rw[YI,Rp];obtain⟨op,A,ln⟩:=x;simp only at h1 h2⊢;rcases Qz h1 h2 with rfl|rfl|rfl|rfl|rfl|rfl|rfl|rfl|rfl|rfl|rfl|rfl|rfl|rfl|rfl|rfl|rfl|rfl|rfl|rfl|rfl|rfl|rfl|rfl|rfl|rfl
 all_goals rfl
theorem a4B(c:l6)(hm:∀f∈c.As,0≤f.Ps∧(f.By=0∨f.By=1))(x:i9)(h1:1≤x.Op)(h2:x.Op≤26)(h19:x.Op=19→0≤x.A∧x.A<c.As.length):aM d5 c x=some ((((H3 c.As x).1:Int),((H3 c.As x).2:Int),()),()):=by
 have j0:=a60 x h1 h2;unfold H3;rw[ME,aP];by_cases c19:x.Op=19
 ·obtain⟨g0,g1⟩:=h19 c19;have hl:x.A.toNat<c.As.length:=(by omega);have g:i6 c.As x.A=some c.As[x.A.toNat]:=Hg g0 g1;obtain⟨m1,m2⟩:=hm _ (y5 hl);rw[f9 c19,i7,g,d6,d6,if_pos c19,p8 hl];simp only;rw[Int.toNat_of_nonneg m1,Int.toNat_of_nonneg (by omega)]
 ·rw[d8 c19,i5,if_neg c19];have j1:uJ d5 x=some ((((if x.Op=20∧x.A=5 then(2,1)else(Ot.getD x.Op.toNat 0,Pn.getD x.Op.toNat 0):Nat × Nat).1:Int),(((if x.Op=20∧x.A=5 then(2,1)else(Ot.getD x.Op.toNat 0,Pn.getD x.Op.toNat 0):Nat × Nat).2:Nat):Int),()),()):=by
   rw[ZS,Xu];by_cases c20:x.Op=20
   ·rw[f9 c20,i7];by_cases c5:x.A=5
    ·rw[f9 c5,if_pos ⟨c20,c5⟩];rfl
    ·rw[d8 c5,if_neg (fun h=>c5 h.2),i5,j0]
   ·rw[d8 c20,if_neg (fun h=>c20 h.1),i5,j0]
  by_cases c20:x.Op=20
  ·rw[f9 c20,i7];by_cases c7:x.A=7
   ·rw[f9 c7,if_pos ⟨c20,c7⟩];rfl
   ·rw[d8 c7,if_neg (fun h=>c7 h.2),i5,j1]
  ·rw[d8 c20,if_neg (fun h=>c20 h.1),i5,j1]
structure P5(W:Nat→Option Nat)(f:o0)(k:Nat)(F:x5):Prop where
 e:F.E=f
 len:F.D.length=f.Do.toNat
 gone:F.On.length=F.D.length
 err:F.Qs=0
 ty:∀(i:Nat) (h:i<F.D.length),0≤F.D[i]→W i=some (F.D[i].toNat)
 dp:∀x∈F.D,x≤k
theorem P5.mono{W:Nat→Option Nat}{f:o0}{k k':Nat}{F:x5}(h:P5 W f k F)(hk:k≤k'):P5 W f k' F:=⟨h.e,h.len,h.gone,h.err,h.ty,fun x hx=>by have:=h.dp x hx;omega⟩
theorem BA{W:Nat→Option Nat}{f:o0}{k:Nat}{F:x5}(h:P5 W f k F)(hf:0≤f.Do)(j d:Nat)(hj:j<f.Do.toNat)(hw:W j=some d)(hd:d≤k):∃F',V1 d5 F (j:Int) (d:Int)=some ((F',()),())∧P5 W f k F'∧F'.On=F.On:=by
 have hl:=h.len;have hjl:j<F.D.length:=(by omega);have hE:=h.e;have j0:∃F',tY d5 (j:Int) (d:Int) F=some ((F',()),())∧P5 W f k F'∧F'.On=F.On:=by
  rw[xX,Mc,l7 hjl,d6,B8,p8 hjl,d6];simp only[G4,d6];refine⟨_,rfl,⟨hE,by simp only[T4];exact hl,by simp only[T4];exact h.gone,h.err,fun i hi h0=>?_,fun x hx=>?_⟩,rfl⟩
  ·simp only[T4]at hi;simp only at h0⊢;by_cases e:j=i
   ·subst e;rw[List.getElem_set_self,B8];exact hw
   ·rw[List.getElem_set_ne e]at h0⊢;exact h.ty i hi h0
  ·rcases List.mem_or_eq_of_mem_set hx with hx|rfl
   ·exact h.dp x hx
   ·omega
 rw[AZ,Nu,f9 h.err,x4,i5,hE,d8 (by omega),i5,l7 hjl,d6,B8,p8 hjl,d6];by_cases c0:F.D[j]≥0
 ·have h1:=h.ty j hjl c0;rw[hw]at h1;injection h1 with h1
  rw[f9 c0,i7,d6,d6,f9 (by omega:F.D[j]=(d:Int)),x4,i5];exact j0
 ·rw[d8 c0];exact j0
theorem a3e{W:Nat→Option Nat}{c:l6}{f:o0}(hfn:FnR c f){R:Int}(hR:f.By=R)(hW:∀(i:Nat) (x:i9) (d:Nat),(i:Int)<f.Do→c.Is[f.At.toNat+i]? =some x→W i=some d→Q5 c.As R x d∧∀j d',Suc c.As i x d j d'→∃k:Nat,j=(k:Int)∧(k:Int)<f.Do∧W k=some d'){k:Nat}(hk:k<100000){D:List Int}{G:List Bool}{i:Nat}(h:P5 W f k ⟨f,D,G,0⟩)(hi:i<D.length)(h0:0≤D[i]):∃F',aD d5 ⟨f,D,G,0⟩ c (i:Int)=some ((F',()),())∧P5 W f (k+1) F'∧F'.On=G.set i true:=by
 have hlen:=h.len;have hG:G.length=D.length:=h.gone;simp only at hlen;have l0:=hfn.len0;have hbig:f.Do≤65536:=(by have:=hfn.at0;have:=hfn.fit;have:=hfn.big;omega);have hin:f.At.toNat+i<c.Is.length:=(by have:=hfn.at0;have:=hfn.fit;omega);obtain⟨x,hx⟩:∃x,c.Is[f.At.toNat+i]? =some x:=⟨_,p8 hin⟩;have hw:=hfn.ok i (by omega) x hx;obtain⟨o1,o2⟩:=hfn.op x (K8 hx);have heff:=a4B c hfn.fns x o1 o2 (GY hw);have eidx:w64 (f.At+(i:Int))=((f.At.toNat+i:Nat):Int):=by have:=hfn.at0;have:=hfn.fit;have:=hfn.big;rw[wrap64 (by omega) (by omega)];omega
 have hgx:i6 c.Is (w64 (f.At+(i:Int)))=some x:=by rw[eidx,l7 hin];exact(p8 hin).symm.trans hx
 obtain⟨d,hd⟩:∃d:Nat,D[i]=(d:Int):=⟨D[i].toNat,by omega⟩;have hdk:d≤k:=(by have:=h.dp D[i] (y5 hi);omega);have hWi:=h.ty i hi h0;simp only[hd,B8]at hWi;obtain⟨hS,hsuc⟩:=hW i x d (by omega) hx hWi;have hp1:(H3 c.As x).2≤1:=by obtain⟨t,p,hp,he⟩:=RF c hfn.fns x o1 o2 (GY hw);rw[XI c x o1 o2,heff]at he;simp only[F8,Rg,and_true]at he;omega
 have ht:=hS.t;have hI:P5 W f (k+1) ⟨f,D,G.set i true,0⟩:=P5.mono (k:=k) ⟨rfl,h.len,by simp only[T4];exact hG,rfl,h.ty,h.dp⟩ (by omega);generalize he1:(H3 c.As x).1=t at*;generalize he2:(H3 c.As x).2=p at*;have e3:w64 ((d:Int)-(t:Int))=((d-t:Nat):Int):=(by rw[wrap64 (by omega) (by omega)];omega);have e4:w64 (((d-t:Nat):Int)+(p:Int))=((d-t+p:Nat):Int):=(by rw[wrap64 (by omega) (by omega)];omega);have j4:∀F1:x5,P5 W f (k+1) F1→F1.On=G.set i true→∃F',Bg d5 (i:Int) (d:Int) (((t:Int),(p:Int),()),()) F1 x=some ((F',()),())∧P5 W f (k+1) F'∧F'.On=G.set i true:=by
  intro F1 h1 hg1;rw[JI,Px];by_cases c11:x.Op=11
  ·rw[f9 c11];exact⟨F1,rfl,h1,hg1⟩
  by_cases c25:x.Op=25
  ·rw[d8 c11,f9 c25];exact⟨F1,rfl,h1,hg1⟩
  by_cases c26:x.Op=26
  ·rw[d8 c11,d8 c25,f9 c26];exact⟨F1,rfl,h1,hg1⟩
  obtain⟨kk,k1,k2,k3⟩:=hsuc ((i:Int)+1) (d-t+p) (.inr (.inr ⟨⟨c11,c25,c26⟩,rfl,by rw[he1,he2]⟩));have ekk:kk=i+1:=(by omega);subst ekk;obtain⟨F',r1,r2,r3⟩:=BA h1 l0 (i+1) (d-t+p) (by omega) k3 (by omega);rw[d8 c11,d8 c25,d8 c26,i5,i5,i5];simp only;rw[e3,e4,z8 (by omega),r1];exact⟨F',rfl,r2,r3.trans hg1⟩
 have jump:∀dd:Nat,dd≤d→Suc c.As i x d x.A dd→∃F',((V1 d5 ⟨f,D,G.set i true,0⟩ x.A (dd:Int)).bind fun(h:RT7)=>Bg d5 (i:Int) (d:Int) (((t:Int),(p:Int),()),()) h.1.1 x)=some ((F',()),())∧P5 W f (k+1) F'∧F'.On=G.set i true:=by intro dd hdd hs;obtain⟨kk,k1,k2,k3⟩:=hsuc _ _ hs;obtain⟨F',r1,r2,r3⟩:=BA hI l0 kk dd (by omega) k3 (by omega);rw[k1,r1];simp only[d6];exact j4 F' r2 r3
 have j3:∃F',Bo d5 (i:Int) (d:Int) (((t:Int),(p:Int),()),()) ⟨f,D,G,0⟩ x (G.set i true)=some ((F',()),())∧P5 W f (k+1) F'∧F'.On=G.set i true:=by
  rw[a0x,Tu,EW,Om,xJ,Og];simp only;rw[e3];by_cases c11:x.Op=11
  ·rw[f9 c11,i7];exact jump (d-t) (by omega) (.inl ⟨.inl c11,rfl,by rw[he1]⟩)
  by_cases c12:x.Op=12
  ·rw[d8 c11,f9 c12,i5,i7];exact jump (d-t) (by omega) (.inl ⟨.inr c12,rfl,by rw[he1]⟩)
  by_cases c13:x.Op=13
  ·rw[d8 c11,d8 c12,f9 c13,i5,i5,i7];exact jump d (i8 _) (.inr (.inl ⟨.inl c13,rfl,rfl⟩))
  by_cases c14:x.Op=14
  ·rw[d8 c11,d8 c12,d8 c13,f9 c14,i5,i5,i5,i7];exact jump d (i8 _) (.inr (.inl ⟨.inr c14,rfl,rfl⟩))
  rw[d8 c11,d8 c12,d8 c13,d8 c14,i5,i5,i5,i5];exact j4 _ hI rfl
 rw[PO,Wk];simp only[hgx,d6,l7 hi,B8,p8 hi,hd,heff,l7 (show i<G.length by omega),p8 (show i<G.length by omega),G4];rw[d8 (by omega:¬(t:Int)>(d:Int)),i5];by_cases c1:x.Op=1
 ·have:=hS.p1 c1;rw[f9 c1,i7,f9 (by omega:(d:Int)=0),x4,i5,d8 (by omega:¬x.Op=25),i5,d8 (by omega:¬x.Op=26),i5];exact j3
 by_cases c25:x.Op=25
 ·obtain⟨q1,q2⟩:=hS.p25 c25;rw[d8 c1,i5,f9 c25,i7,f9 (by omega:(d:Int)=1),x4,i5,f9 (by omega:f.By=1),x4,i5,d8 (by omega:¬x.Op=26),i5];exact j3
 by_cases c26:x.Op=26
 ·obtain⟨q1,q2⟩:=hS.p26 c26;rw[d8 c1,i5,d8 c25,i5,f9 c26,i7,f9 (by omega:(d:Int)=0),x4,i5,f9 (by omega:f.By=0),x4,i5];exact j3
 rw[d8 c1,i5,d8 c25,i5,d8 c26,i5];exact j3
theorem b29{W:Nat→Option Nat}{c:l6}{f:o0}(hfn:FnR c f){R:Int}(hR:f.By=R)(hW:∀(i:Nat) (x:i9) (d:Nat),(i:Int)<f.Do→c.Is[f.At.toNat+i]? =some x→W i=some d→Q5 c.As R x d∧∀j d',Suc c.As i x d j d'→∃k:Nat,j=(k:Int)∧(k:Int)<f.Do∧W k=some d'):∀(m k:Nat) (F:x5) (v:Int),F.On.count false=m→k+m≤65536→P5 W f k F→∃F' k',Oq d5 v c F=some ((F',0,()),())∧P5 W f k' F':=by
 have hl0:=hfn.len0;have hbig:f.Do≤65536:=(by have:=hfn.at0;have:=hfn.fit;have:=hfn.big;omega);intro m
 induction m with
 |zero=>
  intro k F v hc hk h;have hlen:=h.len;rw[Li,Dn,f9 h.err,i7,BW,Ow];rcases zP F h.gone (by omega) _ 0 rfl with⟨g1,_⟩|⟨j,hj,_,_,⟨_,g3⟩,_⟩
  ·rw[show Cf d5 F 0=_ from g1];exact⟨F,k,rfl,h⟩
  ·exfalso;have hjl:j<F.On.length:=(by rw[h.gone];exact hj);have e:F.On[j]=false:=(by simpa[List.getD_eq_getElem?_getD,hjl]using g3);have:false∈F.On:=(by rw[←e];exact y5 hjl);have:=List.count_pos_iff.2 this;omega
 |succ m ih=>
  intro k F v hc hk h;have hlen:=h.len;rw[Li,Dn,f9 h.err,i7,BW,Ow];rcases zP F h.gone (by omega) _ 0 rfl with⟨g1,_⟩|⟨j,hj,_,g1,⟨g2,g3⟩,_⟩
  ·rw[show Cf d5 F 0=_ from g1];exact⟨F,k,rfl,h⟩
  ·have hjl:j<F.On.length:=(by rw[h.gone];exact hj);have e:F.On[j]=false:=(by simpa[List.getD_eq_getElem?_getD,hjl]using g3);have hcs:=count_set hjl e;rw[show Cf d5 F 0=_ from g1,d6];simp only;rw[d8 (by omega:¬(j:Int)<0),i5];obtain⟨FE,FD,FG,Fe⟩:=F;have h1:=h.e;have h2:=h.err;simp only at h1 h2 hj g2 hcs hc;subst h1 h2;obtain⟨F',r1,r2,r3⟩:=a3e hfn hR hW (by omega) h hj g2;rw[r1,d6];exact ih (k+1) F' j (by rw[r3];omega) (by omega) r2
theorem a17{W:Nat→Option Nat}{c:l6}{f:o0}(hfn:FnR c f)(hpos:0<f.Do){R:Int}(hR:f.By=R)(h0:W 0=some 0)(hW:∀(i:Nat) (x:i9) (d:Nat),(i:Int)<f.Do→c.Is[f.At.toNat+i]? =some x→W i=some d→Q5 c.As R x d∧∀j d',Suc c.As i x d j d'→∃k:Nat,j=(k:Int)∧(k:Int)<f.Do∧W k=some d'):∃F' k',Kt d5 c f=some ((F',0,()),())∧P5 W f k' F':=by
 have hE:=hfn.len0;have hE2:f.Do≤65536:=(by have:=hfn.at0;have:=hfn.fit;have:=hfn.big;omega);have o8:R2 8 f.Do:=(by unfold R2 maxLen;omega);have o1:R2 1 f.Do:=(by unfold R2 maxLen;omega);rw[ZB,Xo,Wv o8,Wv o1];simp only[d6];rw[show Py d5 f 0 c _=_ from UB c f hE hE2 _ 0 _ rfl (by simp) (fun j hj=>absurd hj (Nat.not_lt_zero _)) (C8 _),TF,Un];have hI:P5 W f 0 ⟨f,List.replicate f.Do.toNat (-1),List.replicate f.Do.toNat false,0⟩:=by
  refine⟨rfl,by simp,by simp,rfl,fun i hi hg=>?_,fun x hx=>?_⟩
  ·simp only[List.getElem_replicate]at hg;omega
  ·have:=List.eq_of_mem_replicate hx;omega
 obtain⟨F1,r1,r2,r3⟩:=BA hI hE 0 0 (by omega) h0 (i8 _);rw[show V1 d5 _ 0 0=_ from r1];simp only[d6];have hc:F1.On.count false≤65536:=by rw[r3];simp only[List.count_replicate];simp;omega
 obtain⟨F',k',z1,z2⟩:=b29 hfn hR hW _ 0 F1 0 rfl (by omega) r2;exact⟨F',k',z1,z2⟩
section
def IR(Sl:Int)(nS nf N:Nat)(op A ln:Int):Prop:=
 (1≤op∧op≤26)∧(0≤ln∧ln≤100000)∧(op=1∨op=17∨op=18∨op=21∨op=22→0≤A)∧(op=7∨op=8→0≤A∧A<Sl)∧(op=5→0≤A∧A<nS)∧(op=19→0≤A∧A<nf)∧(op=3→0≤A∧A<2)∧(op=4→0≤A∧A<8388608)∧
 (op=9→12≤A∧A<14)∧(op=10→1≤A∧A<12)∧(op=20→1≤A∧A<9)∧(op=11∨op=12∨op=13∨op=14→0≤A∧A<N)
def J2(Sl:Int)(nS nf N:Nat)(x:i9):Prop:=IR Sl nS nf N x.Op x.A x.Ls
structure NdF(l:List d7)(M:List l4)(Sl:Int)(nf:Nat)(i:Nat):Prop where
 ln:∀x,l[i]? =some x→0≤x.Ls∧x.Ls≤100000
 k26:kd l i=26→∀m,M[i]? =some m→0≤m.Ds∧m.Ds<Sl
 k27:kd l i=27→∀m,M[i]? =some m→ -8≤m.Ds∧m.Ds<nf
 k29:kd l i=29→∀m,M[i]? =some m→0≤m.Ds
 k7:kd l i=7→∀m,M[i]? =some m→0≤m.Ds∧m.Ds<Sl
 pt:7≤kd l i→kd l i≤13→∀m,M[i]? =some m→0≤m.In
theorem WX(S:List Bs)(t:Bs):0≤(V3 S t).1∧(V3 S t).1<(V3 S t).2.length∧S.length≤(V3 S t).2.length:=by
 unfold V3;split
 ·rename_i i hi;have:=(List.findIdx?_eq_some_iff_getElem.1 hi).1;simp only;omega
 ·simp;omega
section
variable{l:List d7}{M:List l4}{T:List r9}{Sl:Int}{nS nf N:Nat}
theorem a0F{x:d7}{m:l4}{S S2:List Bs}{op arg:Int}(h:W8 T x m S=(op,arg,S2)):S.length≤S2.length:=by
 have e:S2=(W8 T x m S).2.2:=(by rw[h]);have hs:S2=S∨S2=(V3 S x.Gs).2:=by
  rw[e];unfold W8
  repeat' split
  all_goals first|exact .inl rfl|exact .inr rfl
 rcases hs with rfl|rfl
 ·exact i8 _
 ·exact(WX S x.Gs).2.2
theorem GX.mono{o:Nat}{ks:List Nat}{S S':List Bs}{c:List i9}(h:GX l M T o ks S c S'):S.length≤S'.length:=by
 induction h with
 |nil=>exact i8 _
 |log o b st k0 k1 ks x S S1 S2 S3 a c d hx hk hn hs hks h0 h1 h2 i0 i1 i2=>omega
 |oth o b st ks' es ks x m S S1 S2 S3 op arg a d hx hk hn hs hks hes hm h0 hl h2 i0 i2=>have:=a0F hl;omega
theorem GS.mono{o:Nat}{ks:List Nat}{S S':List Bs}{c:List i9}(h:GS l M T o ks S c S'):S.length≤S'.length:=by
 induction h with
 |nil=>exact i8 _
 |smp o b ks es x m S S1 S2 a t d hx hm hTl h0 h2 i2=>have:=h0.mono;omega
 |if2 o b st k1 ks ks1 x m S S1 S2 S3 a c d hx hm hk hs hks hb h0 h1 h2 i1 i2=>have:=h0.mono;omega
 |if3 o b st k1 k2 ks ks1 ks2 x m S S1 S2 S3 S4 a c e d hx hm hk hs hks hb1 hb2 h0 h1 h3 h2 i1 i3 i2=>have:=h0.mono;omega
 |whl o b st k1 ks ks1 x m S S1 S2 S3 a c d hx hm hk hs hks hb h0 h1 h2 i1 i2=>have:=h0.mono;omega
theorem iF(hM:J6 l)(hO:∀y∈T,0≤y.Of){o:Nat}{ks:List Nat}{S S':List Bs}{c:List i9}(h:GX l M T o ks S c S'):∀lo hi,Kc l lo hi ks→(∀i,lo≤i→i<hi→NdF l M Sl nf i)→S'.length≤nS→o+c.length<N→∀x∈c,J2 Sl nS nf N x:=by
 induction h with
 |nil=>intro lo hi _ _ _ _ x hx;exact nomatch hx
 |log o b st k0 k1 ks x S S1 S2 S3 a c d hx hk hn hs hks h0 h1 h2 i0 i1 i2=>
  intro lo hi hK hF hS hN;obtain⟨rfl,y,q,hy,hys,hq1,hq2,hrest⟩:=hK.first
  rw[hx]at hy;cases hy;have:q=st:=(by omega);subst this;obtain⟨st',ks',t1,t2,t3,t4,t5,t6,t7⟩:=hM.nd b x hx;obtain⟨q0,rfl,hq01,K0,hr0⟩:=hks.hd;obtain⟨q1,rfl,hq11,K1,hr1⟩:=hr0.hd;have eq1:q1=q:=(by cases hr1;rfl);subst eq1;have m1:=h1.mono;have m2:=h2.mono;simp only[o5,F3]at hN;have hl:=(hF b (i8 _) (by omega)).ln x hx;have hn31:=t7.n31 hk;intro z hz;simp only[z0,D4]at hz;rcases hz with hz|rfl|hz|hz
  ·exact i0 _ _ K0 (fun i i1 i2=>hF i (by omega) (by omega)) (by omega) (by omega) z hz
  ·unfold J2 IR;simp only;omega
  ·exact i1 _ _ K1 (fun i i1 i2=>hF i (by omega) (by omega)) (by omega) (by omega) z hz
  ·exact i2 _ _ hrest (fun i i1 i2=>hF i (by omega) i2) hS (by omega) z hz
 |oth o b st ks' es ks x m S S1 S2 S3 op arg a d hx hk hn hs hks hes hm h0 hl h2 i0 i2=>
  intro lo hi hK hF hS hN;obtain⟨rfl,y,q,hy,hys,hq1,hq2,hrest⟩:=hK.first
  rw[hx]at hy;cases hy;have:q=st:=(by omega);subst this;obtain⟨st',ks2,t1,t2,t3,t4,t5,t6,t7⟩:=hM.nd b x hx;have est:st'=q:=(by omega);subst est;have:=t5.det hks;subst this;obtain⟨lo',hlo,hKe,hke⟩:=Pg t5 t6 hk;rw[←hes]at hKe;have m1:=a0F hl;have m2:=h2.mono;simp only[o5,F3]at hN;have hNF:=hF b (i8 _) (by omega);have hln:=hNF.ln x hx;have hkd:=u0 hx;intro z hz;simp only[z0,D4]at hz;rcases hz with hz|rfl|hz
  ·exact i0 _ _ hKe (fun i i1 i2=>hF i (by omega) (by omega)) (by omega) (by omega) z hz
  ·show IR Sl nS nf N op arg x.Ls;have fin:∀(o' a':Int) (S'':List Bs),(o',a',S'')=(op,arg,S2)→(S''.length≤nS→IR Sl nS nf N o' a' x.Ls)→IR Sl nS nf N op arg x.Ls:=fun o' a' S'' h h'=>by cases h;exact h' (by omega)
   unfold W8 at hl;by_cases c21:x.Ks=21
   ·rw[if_pos c21]at hl;exact fin _ _ _ hl (fun _=>by unfold IR;omega)
   rw[if_neg c21]at hl;by_cases c22:x.Ks=22
   ·have:=t7.n22 c22;rw[if_pos c22]at hl;exact fin _ _ _ hl (fun _=>by unfold IR;omega)
   rw[if_neg c22]at hl;by_cases c23:x.Ks=23
   ·have:=WX S1 x.Gs;rw[if_pos c23]at hl;exact fin _ _ _ hl (fun _=>by unfold IR;omega)
   rw[if_neg c23]at hl;by_cases c24:x.Ks=24
   ·have:=t7.n24 c24;rw[if_pos c24]at hl;exact fin _ _ _ hl (fun _=>by unfold IR;omega)
   rw[if_neg c24]at hl;by_cases c26:x.Ks=26
   ·have:=hNF.k26 (by rw[hkd];exact c26) m hm;rw[if_pos c26]at hl;exact fin _ _ _ hl (fun _=>by unfold IR;omega)
   rw[if_neg c26]at hl;by_cases c27:x.Ks=27
   ·have:=hNF.k27 (by rw[hkd];exact c27) m hm;rw[if_pos c27]at hl;by_cases c0:m.Ds<0
    ·rw[if_pos c0]at hl;exact fin _ _ _ hl (fun _=>by unfold IR;omega)
    ·rw[if_neg c0]at hl;exact fin _ _ _ hl (fun _=>by unfold IR;omega)
   rw[if_neg c27]at hl;by_cases c28:x.Ks=28
   ·rw[if_pos c28]at hl;exact fin _ _ _ hl (fun _=>by unfold IR;omega)
   rw[if_neg c28]at hl;by_cases c29:x.Ks=29
   ·have:=hNF.k29 (by rw[hkd];exact c29) m hm;rw[if_pos c29]at hl;exact fin _ _ _ hl (fun _=>by unfold IR;omega)
   rw[if_neg c29]at hl;by_cases c30:x.Ks=30
   ·have:=t7.n30 c30;rw[if_pos c30]at hl;exact fin _ _ _ hl (fun _=>by unfold IR;omega)
   rw[if_neg c30]at hl;by_cases c31:x.Ks=31
   ·have:=t7.n31 c31;have:=hn c31;rw[if_pos c31]at hl;exact fin _ _ _ hl (fun _=>by unfold IR;omega)
   rw[if_neg c31]at hl;by_cases c32:x.Ks=32
   ·rw[if_pos c32]at hl;refine fin _ _ _ hl (fun _=>?_);unfold Zt;split
    ·rename_i y hy;have:=hO y (K8 hy);simp only;split<;>(unfold IR;omega)
    ·unfold IR;omega
   ·rw[if_neg c32]at hl;exact fin _ _ _ hl (fun _=>by unfold IR;omega)
  ·exact i2 _ _ hrest (fun i i1 i2=>hF i (by omega) i2) hS (by omega) z hz
theorem a7q(hM:J6 l)(hO:∀y∈T,0≤y.Of){o:Nat}{ks:List Nat}{S S':List Bs}{c:List i9}(h:GS l M T o ks S c S'):∀lo hi,Kc l lo hi ks→(∀i,lo≤i→i<hi→NdF l M Sl nf i)→S'.length≤nS→o+c.length<N→∀x∈c,J2 Sl nS nf N x:=by
 induction h with
 |nil=>intro lo hi _ _ _ _ x hx;exact nomatch hx
 |smp o b ks es x m S S1 S2 a t d hx hm hTl h0 h2 i2=>
  intro lo hi hK hF hS hN;obtain⟨rfl,y,q,hy,hys,hq1,hq2,hrest⟩:=hK.first
  rw[hx]at hy;cases hy;obtain⟨z1,lo',hi',z2,z3,z4⟩:=hTl.kc hys;have m2:=h2.mono;simp only[o5,F3]at hN;have hNF:=hF b (i8 _) (by omega);have hln:=hNF.ln x hx;have hkd:=u0 hx;intro z hz;simp only[z0,D4]at hz;rcases hz with rfl|hz|hz|hz
  ·have hk:7≤x.Ks∧x.Ks≤13:=(by cases hTl<;>omega);have:=hNF.pt (by omega) (by omega) m hm;unfold J2 IR;simp only;omega
  ·exact iF hM hO h0 _ _ z4 (fun i i1 i2=>hF i (by omega) (by omega)) (by omega) (by omega) z hz
  ·cases hTl with
   |var st k0 k1 hk hs hks=>have:=hNF.k7 (by omega) m hm;rw[I2.1 hz];unfold J2 IR;simp only;omega
   |set st k0 k1 y m0 is hk hs hks hy hyk hm0 hi'=>
    obtain⟨q0,rfl,hq01,K0,hr0⟩:=hks.hd;obtain⟨q1,rfl,hq11,K1,hr1⟩:=hr0.hd;have eq1:q1=st:=(by cases hr1;rfl);have hN0:=hF (b+1) (by omega) (by omega);have hl0:=hN0.ln y hy;have hk0:=u0 hy;rw[I2.1 hz];unfold Wu;rcases hyk with h|h|h
    ·have:=hN0.k26 (by omega) m0 hm0;rw[if_pos h];unfold J2 IR;simp only;omega
    ·rw[if_neg (by omega),if_pos h];unfold J2 IR;simp only;omega
    ·have:=hN0.k29 (by omega) m0 hm0;rw[if_neg (by omega),if_neg (by omega)];unfold J2 IR;simp only;omega
   |ret0 hk hs=>rw[I2.1 hz];unfold J2 IR;simp only;omega
   |ret1 st hk hs hks=>rw[I2.1 hz];unfold J2 IR;simp only;omega
   |print st hk hs hks=>rw[I2.1 hz];unfold J2 IR;simp only;omega
   |pop st m0 hk hs hks hm0 ht=>rw[I2.1 hz];unfold J2 IR;simp only;omega
   |run st m0 hk hs hks hm0 ht=>exact nomatch hz
  ·exact i2 _ _ hrest (fun i i1 i2=>hF i (by omega) i2) hS (by omega) z hz
 |if2 o b st k1 ks ks1 x m S S1 S2 S3 a c d hx hm hk hs hks hb h0 h1 h2 i1 i2=>
  intro lo hi hK hF hS hN;obtain⟨rfl,y,q,hy,hys,hq1,hq2,hrest⟩:=hK.first
  rw[hx]at hy;cases hy;have:q=st:=(by omega);subst this;obtain⟨q0,e0,hq0,K0,hr0⟩:=hks.hd;obtain⟨q1,rfl,hq1',K1,hr1⟩:=hr0.hd;have e1:q1=q:=(by cases hr1;rfl);subst e1;obtain⟨y1,st1,b1,b2,b3⟩:=hb;obtain⟨_,rfl,_⟩:=K1.end b1 b2;have m1:=h1.mono;have m2:=h2.mono;simp only[o5,F3]at hN;have hNF:=hF b (i8 _) (by omega);have hln:=hNF.ln x hx;have hkd:=u0 hx;have hpt:=hNF.pt (by omega) (by omega) m hm;intro z hz;simp only[z0,D4]at hz;rcases hz with rfl|hz|rfl|hz|hz
  ·unfold J2 IR;simp only;omega
  ·exact iF hM hO h0 _ _ K0 (fun i i1 i2=>hF i (by omega) (by omega)) (by omega) (by omega) z hz
  ·unfold J2 IR;simp only;omega
  ·exact i1 _ _ b3 (fun i i1 i2=>hF i (by omega) (by omega)) (by omega) (by omega) z hz
  ·exact i2 _ _ hrest (fun i i1 i2=>hF i (by omega) i2) hS (by omega) z hz
 |if3 o b st k1 k2 ks ks1 ks2 x m S S1 S2 S3 S4 a c e d hx hm hk hs hks hb1 hb2 h0 h1 h3 h2 i1 i3 i2=>
  intro lo hi hK hF hS hN;obtain⟨rfl,y,q,hy,hys,hq1,hq2,hrest⟩:=hK.first
  rw[hx]at hy;cases hy;have:q=st:=(by omega);subst this;obtain⟨q0,e0,hq0,K0,hr0⟩:=hks.hd;obtain⟨q1,rfl,hq1',K1,hr1⟩:=hr0.hd;obtain⟨q2,rfl,hq2',K2,hr2⟩:=hr1.hd;have e1:q2=q:=(by cases hr2;rfl);subst e1;obtain⟨y1,st1,b1,b2,b3⟩:=hb1;obtain⟨_,rfl,_⟩:=K1.end b1 b2;obtain⟨y2,st2,d1,d2,d3⟩:=hb2;obtain⟨_,rfl,_⟩:=K2.end d1 d2;have m1:=h1.mono;have m2:=h2.mono;have m3:=h3.mono;simp only[o5,F3]at hN;have hNF:=hF b (i8 _) (by omega);have hln:=hNF.ln x hx;have hkd:=u0 hx;have hpt:=hNF.pt (by omega) (by omega) m hm;intro z hz;simp only[z0,D4]at hz;rcases hz with rfl|hz|rfl|hz|rfl|hz|hz
  ·unfold J2 IR;simp only;omega
  ·exact iF hM hO h0 _ _ K0 (fun i i1 i2=>hF i (by omega) (by omega)) (by omega) (by omega) z hz
  ·unfold J2 IR;simp only;omega
  ·exact i1 _ _ b3 (fun i i1 i2=>hF i (by omega) (by omega)) (by omega) (by omega) z hz
  ·unfold J2 IR;simp only;omega
  ·exact i3 _ _ d3 (fun i i1 i2=>hF i (by omega) (by omega)) (by omega) (by omega) z hz
  ·exact i2 _ _ hrest (fun i i1 i2=>hF i (by omega) i2) hS (by omega) z hz
 |whl o b st k1 ks ks1 x m S S1 S2 S3 a c d hx hm hk hs hks hb h0 h1 h2 i1 i2=>
  intro lo hi hK hF hS hN;obtain⟨rfl,y,q,hy,hys,hq1,hq2,hrest⟩:=hK.first
  rw[hx]at hy;cases hy;have:q=st:=(by omega);subst this;obtain⟨q0,e0,hq0,K0,hr0⟩:=hks.hd;obtain⟨q1,rfl,hq1',K1,hr1⟩:=hr0.hd;have e1:q1=q:=(by cases hr1;rfl);subst e1;obtain⟨y1,st1,b1,b2,b3⟩:=hb;obtain⟨_,rfl,_⟩:=K1.end b1 b2;have m1:=h1.mono;have m2:=h2.mono;simp only[o5,F3]at hN;have hNF:=hF b (i8 _) (by omega);have hln:=hNF.ln x hx;have hkd:=u0 hx;have hpt:=hNF.pt (by omega) (by omega) m hm;intro z hz;simp only[z0,D4]at hz;rcases hz with rfl|hz|rfl|hz|rfl|hz
  ·unfold J2 IR;simp only;omega
  ·exact iF hM hO h0 _ _ K0 (fun i i1 i2=>hF i (by omega) (by omega)) (by omega) (by omega) z hz
  ·unfold J2 IR;simp only;omega
  ·exact i1 _ _ b3 (fun i i1 i2=>hF i (by omega) (by omega)) (by omega) (by omega) z hz
  ·unfold J2 IR;simp only;omega
  ·exact i2 _ _ hrest (fun i i1 i2=>hF i (by omega) i2) hS (by omega) z hz
end
end
section
theorem a8v{a b c:Int}(h1:b≤a)(h2:a<c):V9 d5 a b c=some ((true,()),()):=by rw[qH,Ii,f9 (by omega:a≥b),f9 h2];rfl
theorem a8i(c:l6)(f:o0)(x:i9){N:Nat}(h:J2 f.Ss c.Vs.length c.As.length N x)(hN:(N:Int)=f.Do):Fc d5 c f x=some ((0,()),()):=by
 obtain⟨op,A,ln⟩:=x;unfold J2 IR at h;simp only at h;obtain⟨⟨o1,o2⟩,_,h1,h7,h5,h19,h3,h4,h9,h10,h20,h11⟩:=h;have k3:R7 d5=some ((0,()),()):=Xe;have key:∀(b d n:Int),b≤A→A<d→((V9 d5 A b d).bind fun(r:RT0)=>(cond (!r.1.1) (some ((n,()),())) (R7 d5)))=some ((0,()),()):=fun b d n a1 a2=>by rw[a8v a1 a2,d6];exact k3
 have k0:0≤A→Hu d5 ⟨op,A,ln⟩=some ((0,()),()):=fun h0=>by rw[HR,Qh];simp only;rw[d8 (by omega:¬A<0),i5,k3]
 have k1:0≤A→A<f.Ss→Yn d5 f ⟨op,A,ln⟩=some ((0,()),()):=fun a1 a2=>by rw[JV,Pi];exact key _ _ _ a1 a2
 have k2:0≤A→A<f.Do→Gv d5 f ⟨op,A,ln⟩=some ((0,()),()):=fun a1 a2=>by rw[mD,Ju];exact key _ _ _ a1 a2
 rw[Ua,Ia];rcases Qz o1 o2 with rfl|rfl|rfl|rfl|rfl|rfl|rfl|rfl|rfl|rfl|rfl|rfl|rfl|rfl|rfl|rfl|rfl|rfl|rfl|rfl|rfl|rfl|rfl|rfl|rfl|rfl
 ·exact k0 (h1 (by omega))
 ·exact k3
 ·exact key _ _ _ (h3 (by omega)).1 (h3 (by omega)).2
 ·exact key _ _ _ (h4 (by omega)).1 (h4 (by omega)).2
 ·exact key _ _ _ (h5 (by omega)).1 (h5 (by omega)).2
 ·exact k3
 ·exact k1 (h7 (by omega)).1 (h7 (by omega)).2
 ·exact k1 (h7 (by omega)).1 (h7 (by omega)).2
 ·exact key _ _ _ (h9 (by omega)).1 (h9 (by omega)).2
 ·exact key _ _ _ (h10 (by omega)).1 (h10 (by omega)).2
 ·exact k2 (h11 (by omega)).1 (by have:=(h11 (by omega)).2;omega)
 ·exact k2 (h11 (by omega)).1 (by have:=(h11 (by omega)).2;omega)
 ·exact k2 (h11 (by omega)).1 (by have:=(h11 (by omega)).2;omega)
 ·exact k2 (h11 (by omega)).1 (by have:=(h11 (by omega)).2;omega)
 ·exact k3
 ·exact k3
 ·exact k0 (h1 (by omega))
 ·exact k0 (h1 (by omega))
 ·exact key _ _ _ (h19 (by omega)).1 (h19 (by omega)).2
 ·exact key _ _ _ (h20 (by omega)).1 (h20 (by omega)).2
 ·exact k0 (h1 (by omega))
 ·exact k0 (h1 (by omega))
 ·exact k3
 ·exact k3
 ·exact k3
 ·exact k3
section
variable{l:List d7}{M:List l4}{T:List r9}
theorem GC.mono{A:Nat}{fs:List t9}{S S':List Bs}{I:List i9}{E:List o0}(h:GC l M T A fs S I E S'):S.length≤S'.length:=by
 induction h with
 |nil=>exact i8 _
 |cons A k st bp f fs S S1 S2 x ks ks2 a I E hn hx hs hks hb hbd h0 h2 ih=>have:=h0.mono;omega
structure Lz(l:List d7)(M:List l4)(T:List r9)(A:Nat)(I:List i9)(nS:Nat)(f:t9)(e:o0)(a:List i9):Prop where
 body:∃(k st bp:Nat) (x:d7) (ks ks2:List Nat) (S S1:List Bs),f.Hs=(k:Int)∧l[k]? =some x∧x.Cs=(st:Int)-(k+1)∧Kc l (k+1) st ks∧ks.getLast? =some bp∧Bkd l bp ks2∧GS l M T 0 ks2 S a S1∧S1.length≤nS∧
  ∃B:Nat,e.At=(B:Int)∧A≤B∧(∀j,j<a.length+1→I[B-A+j]? =(a++[⟨26,0,x.Ls⟩])[j]?)∧B-A+a.length+1≤I.length
 len:e.Do=(a.length:Int)+1
 par:e.Ps=f.Ps
 sl:e.Ss=f.Ss
 res:e.By=if f.By=0 then 0 else 1
theorem GC.at{A:Nat}{fs:List t9}{S S':List Bs}{I:List i9}{E:List o0}(h:GC l M T A fs S I E S'):E.length=fs.length∧∀(i:Nat) (f:t9),fs[i]? =some f→∃e a,E[i]? =some e∧Lz l M T A I S'.length f e a:=by
 induction h with
 |nil=>exact⟨rfl,fun i f h=>by simp at h⟩
 |cons A k st bp f fs S S1 S2 x ks ks2 a I E hn hx hs hks hb hbd h0 h2 ih=>
  obtain⟨h3,h4⟩:=ih;refine⟨by simp[h3],fun i g hg=>?_⟩;have hm:=h2.mono;cases i with
  |zero=>simp only[List.getElem?_cons_zero,F8]at hg;subst hg;refine⟨_,a,rfl,⟨⟨k,st,bp,x,ks,ks2,S,S1,hn,hx,hs,hks,hb,hbd,h0,hm,A,rfl,i8 _,fun j hj=>?_,by simp⟩,rfl,rfl,rfl,rfl⟩⟩;rw[Rf,Nat.zero_add,show a++(⟨26,0,x.Ls⟩::I)=(a++[⟨26,0,x.Ls⟩])++I by simp,R3 (by simp;omega)]
  |succ i=>simp only[List.getElem?_cons_succ]at hg;obtain⟨e,a',e1,e2⟩:=h4 i g hg;refine⟨e,a',by simpa using e1,⟨?_,e2.len,e2.par,e2.sl,e2.res⟩⟩;obtain⟨k',st',bp',x',ks',ks2',S',S1',b1,b2,b3,b4,b5,b6,b7,b8,B,b9,b10,b11,b12⟩:=e2.body;refine⟨k',st',bp',x',ks',ks2',S',S1',b1,b2,b3,b4,b5,b6,b7,b8,B,b9,by omega,fun j hj=>?_,by simp;omega⟩;rw[←b11 j hj,show a++(⟨26,0,x.Ls⟩::I)=(a++[⟨26,0,x.Ls⟩])++I by simp,Ci (by simp;omega)];congr 1;simp;omega
theorem GC.lay{A:Nat}{fs:List t9}{S S':List Bs}{I:List i9}{E:List o0}(h:GC l M T A fs S I E S')(hf:∀f∈fs,0≤f.Ps∧f.Ps≤f.Ss∧f.Ss≤200)(n:Nat):A+I.length≤n→Cl n (A:Int) E=some ((A+I.length:Nat):Int):=by
 induction h with
 |nil=>intro _;rfl
 |cons A k st bp f fs S S1 S2 x ks ks2 a I E hn hx hs hks hb hbd h0 h2 ih=>
  intro hA;simp only[o5,F3]at hA⊢;obtain⟨p1,p2,p3⟩:=hf f E2;have:=ih (fun g hg=>hf g (F7 _ hg)) (by omega);rw[dV,if_pos]
  ·simp only;rw[show(A:Int)+((a.length:Int)+1)=((A+a.length+1:Nat):Int) by omega,this];congr 1;omega
  ·refine⟨⟨rfl,by simp only;omega,p1,p2,p3,?_,?_⟩,by simp only;omega⟩
   ·simp only;split<;>omega
   ·simp only;split<;>omega
end
section
variable{l:List d7}{s:d9}{nr:Nat}{M:List l4}{n:Nat}(h:Rc n l s nr M)(hn:n≤2900)
include h hn
theorem a4l:∀(m i A lo:Nat) (S S':List Bs) (I:List i9) (E:List o0),s.P.As.length-i=m→i≤s.P.As.length→GC l M s.P.To A (s.P.As.drop i) S I E S'→lo≤l.length→(∀(j:Nat) (f:t9) (k:Nat),i≤j→s.P.As[j]? =some f→f.Hs=(k:Int)→lo≤k)→I.length+3*lo≤3*l.length+m∧S'.length+lo≤S.length+l.length∧Y6 S'+ps l lo≤Y6 S+ps l l.length:=by
 have hsm:=h.small;have htx:∀n∈l,n.Gs.length≤65536:=fun x hx=>by have:=uU hx;have:=h.txt;omega
 intro m
 induction m with
 |zero=>intro i A lo S S' I E hm hi hC hlo hk;rw[J1 (by omega)]at hC;cases hC;have:=W4 l hlo;simp only[I0];omega
 |succ m ih=>
  intro i A lo S S' I E hm hi hC hlo hk;have hil:i<s.P.As.length:=(by omega);rw[H5 hil]at hC;cases hC with
  |cons _ k st bp _ _ _ S1 _ x ks ks2 a I E hn' hx hs hks hb hbd h0 h2=>have hfi:s.P.As[i]? =some s.P.As[i]:=p8 hil;have hlk:=hk i _ k (i8 _) hfi hn';obtain⟨k2,st2,np,bp2,x2,y2,ks3,b1,b2,b3,b4,b5,b6,b7,b8,b9,b10,b11,b12,b13,_⟩:=xO h hn (y5 hil);have ek:k2=k:=(by omega);subst ek;rw[hx]at b2;cases b2;have est:st2=st:=(by omega);subst est;have:=hks.det b5;subst this;rw[hb]at b7;cases b7;obtain⟨y,sty,c1,c2,c3⟩:=hbd;rw[b9]at c1;cases c1;have esty:sty=st2:=(by omega);subst esty;obtain⟨z1,z2,z3⟩:=h0.len _ _ c3;obtain⟨w1,w2,w3⟩:=ih (i+1) _ sty _ _ _ _ (by omega) (by omega) h2 (by omega) (fun j f kk hj hf hkk=>zG h.res h.may (by omega) htx (i:=i) (j:=j) (by omega) hfi hf hn' hkk hx hs);have:=W4 l (i:=lo) (j:=bp+1) (by omega);simp only[o5,F3];omega
end
theorem b0y{c:l6}(h1:c.As.length≤100)(h2:c.Is.length≤65536)(h3:c.Vs.length≤65536)(h4:Cl c.Is.length 0 c.As=some (c.Is.length:Int))(h5:c.Is.all T7=true)(h6:O1 c.Vs≤1048576):aA d5 c=some ((true,()),()):=by have q1:=a1f c h1 h2 _ 0 0 rfl (by omega) (by omega);rw[TW,Yv,d8 (by omega:¬(c.As.length:Int)>100),d8 (by omega:¬(c.Is.length:Int)>65536),d8 (by omega:¬(c.Vs.length:Int)>65536)];simp only[i5];rw[show Mh d5 0 c 0=_ from q1,L9,h4];simp only;rw[OC c h2 h3,h5,f9 h6];simp
end
section
theorem a6l(l:List d7):ps l l.length≤D1 l:=by
 unfold ps D1;rw[List.take_length]
 induction l with
 |nil=>exact i8 _
 |cons x l ih=>simp only[List.map_cons,List.sum_cons];omega
section
variable{l:List d7}{s:d9}{nr:Nat}{M:List l4}{n:Nat}(h:Rc n l s nr M)(hn:n≤2000)
include h hn
theorem YA:∀x∈l,0≤x.Ls∧x.Ls≤100000:=fun x hx=>a9X (by have:=uU hx;have:=h.txt;omega)
theorem b3J{f:t9}{bp st:Nat}(hN:∀i,bp≤i→i<st→NdE l s f.Ss i∧NdS l s f.Ss i)(hE:∀i,bp≤i→i<st→EF l s.P M i∧SF l M f.By i):∀i,bp≤i→i<st→NdF l M f.Ss s.P.As.length i:=by
 intro i i1 i2;obtain⟨n1,n2⟩:=hN i i1 i2;obtain⟨e1,e2⟩:=hE i i1 i2;obtain⟨d,hI,rfl⟩:=h.ci;refine⟨fun x hx=>YA h hn x (K8 hx),fun hk m hm=>?_,fun hk m hm=>?_,fun hk m hm=>?_,fun hk m hm=>?_,fun k7 k13 m hm=>?_⟩
 ·obtain⟨m0,a1,a2,a3,_⟩:=n1.k26 hk;obtain⟨m1,b1,b2,b3,b4⟩:=hI.rf i m hm;rw[a1]at b1;cases b1;rw[b3 (by omega)];exact⟨a2,a3⟩
 ·obtain⟨m0,a1,a2⟩:=n1.k27 hk;obtain⟨m1,b1,b2,b3,b4⟩:=hI.rf i m hm;rw[a1]at b1;cases b1;rw[b3 (by omega)];omega
 ·obtain⟨m0,a1,a2⟩:=e1.k29 hk;rw[hm]at a1;cases a1;exact a2
 ·obtain⟨m0,a1,a2,a3⟩:=n2 (by omega) (by omega);obtain⟨m1,b1,b2,b3,b4⟩:=hI.rf i m hm;rw[a1]at b1;cases b1;obtain⟨a4,a5,_⟩:=a3 hk;rw[b3 (by omega)];exact⟨a4,a5⟩
 ·obtain⟨m0,a1,a2,a3⟩:=n2 k7 k13;obtain⟨m1,b1,b2,b3,b4⟩:=hI.rf i m hm;rw[a1]at b1;cases b1;rw[b2];exact a2
theorem a86{f:t9}{bp st:Nat}(hN:∀i,bp≤i→i<st→NdE l s f.Ss i∧NdS l s f.Ss i)(hE:∀i,bp≤i→i<st→EF l s.P M i∧SF l M f.By i):∀i,bp≤i→i<st→SG l s.P M s.P.To f.By i:=by
 intro i i1 i2;obtain⟨n1,n2⟩:=hN i i1 i2;obtain⟨e1,e2⟩:=hE i i1 i2;obtain⟨d,hI,rfl⟩:=h.ci;refine⟨⟨e1,fun hk=>?_⟩,e2⟩;obtain⟨m0,a1,a2⟩:=n1.k32t hk;have hil:i<d.M.length:=by rw[hI.len];have:=(l9.1 a1).1;rw[h.res.ri.marks]at this;exact this
 have hm:=p8 hil;obtain⟨m1,b1,b2,b3,b4⟩:=hI.rf i _ hm;rw[a1]at b1;cases b1;exact⟨_,hm,by rw[b4 (.inr hk)];exact a2⟩
theorem a2Y:∀y∈s.P.To,0≤y.Of:=by
 intro y hy;obtain⟨i,hi,rfl⟩:=List.getElem_of_mem hy;have ht:=h.res.ri.ty;by_cases c:i<6
 ·have:=ht.base i c;rw[p8 hi]at this;injection this with this
  rw[this];exact N0 _
 ·by_cases c2:i<6+nr
  ·have:=ht.recs (i-6) (by omega);have e:6+(i-6)=i:=(by omega);rw[e,p8 hi]at this;injection this with this
   rw[this];simp only;omega
  ·have:=(ht.lists i _ (by omega) (p8 hi)).2.1;omega
theorem Uy{A:Nat}{I:List i9}{nS:Nat}{f:t9}{e:o0}{a:List i9}(hf:f∈s.P.As)(hA:Lz l M s.P.To A I nS f e a):∃(st bp:Nat) (x:d7) (ks2:List Nat) (S S1:List Bs) (B:Nat),x∈l∧Kc l (bp+1) st ks2∧GS l M s.P.To 0 ks2 S a S1∧S1.length≤nS∧e.At=(B:Int)∧A≤B∧(∀j,j<a.length+1→I[B-A+j]? =(a++[⟨26,0,x.Ls⟩])[j]?)∧B-A+a.length+1≤I.length∧(∀i,bp+1≤i→i<st→NdF l M f.Ss s.P.As.length i∧SG l s.P M s.P.To f.By i)∧(f.By≠0→LEn l ks2)∧0≤f.Ps∧f.Ps≤f.Ss∧f.Ss≤200:=by obtain⟨k,st,bp,x,ks,ks2,S,S1,b1,b2,b3,b4,b5,b6,b7,b8,B,b9,b10,b11,b12⟩:=hA.body;obtain⟨k2,st2,np,bp2,x2,y2,ks3,c1,c2,c3,c4,c5,c6,c7,c8,c9,c10,c11,c12,c13,c14,c15,c16,c17,c18,d1,d2,d3⟩:=xO h (by omega) hf;have ek:k2=k:=(by omega);subst ek;rw[b2]at c2;cases c2;have est:st2=st:=(by omega);subst est;have:=b4.det c5;subst this;rw[b5]at c7;cases c7;obtain⟨y,sty,z1,z2,z3⟩:=b6;rw[c9]at z1;cases z1;have esty:sty=st2:=(by omega);subst esty;have hN:=b3J h hn d1 d2;have hS:=a86 h hn d1 d2;refine⟨sty,bp,x,ks2,S,S1,B,K8 b2,z3,b7,b8,b9,b10,b11,b12,fun i i1 i2=>⟨hN i (by omega) i2,hS i (by omega) i2⟩,fun hR=>?_,by omega,by omega,c16⟩;obtain⟨x',st',ks',w1,w2,w3,w4⟩:=d3 hR;rw[c9]at w1;cases w1;have:st'=sty:=(by omega);subst this;have:=z3.det w3;subst this;exact w4
theorem UZ{A:Nat}{I:List i9}{nS:Nat}{f:t9}{e:o0}{a:List i9}(hf:f∈s.P.As)(hA:Lz l M s.P.To A I nS f e a){j:Nat}(hj:j<a.length+1){B:Nat}(hB:e.At=(B:Int)){x:i9}(hx:I[B-A+j]? =some x):J2 f.Ss nS s.P.As.length (a.length+1) x:=by
 obtain⟨st,bp,y,ks2,S,S1,B',c1,c2,c3,c4,c5,c6,c7,c8,c9,_⟩:=Uy h hn hf hA;have:B'=B:=(by omega);subst this;rw[c7 j hj]at hx;have hmem:=K8 hx;rcases z0.1 hmem with hm|hm
 ·exact a7q h.may (a2Y h hn) c3 _ _ c2 (fun i i1 i2=>(c9 i i1 i2).1) c4 (by omega) x hm
 ·have:=YA h hn y c1;rw[I2.1 hm];unfold J2 IR;simp only;omega
theorem a59{E:List o0}(hT:Vn l s.P M s.P.To E){A:Nat}{I:List i9}{nS:Nat}{f:t9}{e:o0}{a:List i9}(hf:f∈s.P.As)(hA:Lz l M s.P.To A I nS f e a):∃W:Nat→Option Nat,W 0=some 0∧∀(B:Nat),e.At=(B:Int)→∀(i:Nat) (x:i9) (d:Nat),i<a.length+1→I[B-A+i]? =some x→W i=some d→Q5 E e.By x d∧∀j d',Suc E i x d j d'→∃k:Nat,j=(k:Int)∧k<a.length+1∧W k=some d':=by
 obtain⟨st,bp,y,ks2,S,S1,B',c1,c2,c3,c4,c5,c6,c7,c8,c9,c10,_⟩:=Uy h hn hf hA;obtain⟨g1,g2⟩:=a1X hT hA.res c3 (fun _ _=>False) _ _ c2 (fun i i1 i2=>(c9 i i1 i2).2);have hall:Ty E e.By (fun _ _=>False) 0 (a++[⟨26,0,y.Ls⟩]) 0 none:=by
  by_cases cr:f.By=0
  ·have hR:e.By=0:=(by rw[hA.res,if_pos cr]);exact g1.cat (Ty.stop ⟨by rw[Dp E 26 0 y.Ls (by decide)];exact i8 _,fun h=>absurd h (show¬(26:Int)=1 by decide),fun h=>absurd h (show¬(26:Int)=25 by decide),fun _=>⟨rfl,hR⟩⟩ (.inr (.inr rfl)) (fun h=>absurd h (show¬(26:Int)=11 by decide)))
  ·exact(g2 (c10 cr)).skip _
 obtain⟨W,w1,w2,w3⟩:=hall;refine⟨W,w2,fun B hB i x d hi hx hd=>?_⟩;have:B'=B:=(by omega);subst this;rw[c7 i hi]at hx;obtain⟨q1,q2⟩:=w1 i x d hx (by rw[Nat.zero_add];exact hd);rw[Nat.zero_add]at q2;refine⟨q1,fun j d' hs=>?_⟩;rcases q2 j d' hs with h|⟨k,k1,k2,k3,k4⟩
 ·exact h.elim
 ·refine⟨k,k1,?_,k4⟩;rw[o5,y4]at k3;refine Nat.lt_of_le_of_ne (by omega) fun e=>?_;rw[o5,y4,Nat.zero_add,←e,k4]at w3;cases w3
variable{I:List i9}{E:List o0}{S:List Bs}(hC:GC l M s.P.To 0 s.P.As [] I E S)
include hC
theorem HH{e:o0}(he:e∈E):∃f a,f∈s.P.As∧Lz l M s.P.To 0 I S.length f e a:=by obtain⟨g1,g2⟩:=hC.at;obtain⟨i,hi,rfl⟩:=List.getElem_of_mem he;have hil:i<s.P.As.length:=(by omega);obtain⟨e',a,e1,e2⟩:=g2 i _ (p8 hil);rw[p8 hi]at e1;cases e1;exact⟨_,a,y5 hil,e2⟩
theorem b0s:Vn l s.P M s.P.To E:=by refine⟨h.may,fun i f hf=>?_⟩;obtain⟨e,a,e1,e2⟩:=hC.at.2 i f hf;exact⟨e,e1,e2.par,e2.res⟩
theorem tU:∀{A:Nat} {fs:List t9} {S0 S':List Bs} {I:List i9} {E:List o0},GC l M s.P.To A fs S0 I E S'→(∀f∈fs,f∈s.P.As)→∀x∈I,(1≤x.Op∧x.Op≤26)∧0≤x.Ls∧x.Ls≤100000:=by
 intro A fs S0 S' I E hG
 induction hG with
 |nil=>intro _ x hx;exact nomatch hx
 |cons A k st bp f fs S S1 S2 x ks ks2 a I E hn' hx hs hks hb hbd h0 h2 ih=>
  intro hfs z hz;have hc:GC l M s.P.To A (f::fs) S (a++(⟨26,0,x.Ls⟩::I)) (⟨A,(a.length:Int)+1,f.Ps,f.Ss,if f.By=0 then 0 else 1⟩::E) S2:=.cons A k st bp f fs S S1 S2 x ks ks2 a I E hn' hx hs hks hb hbd h0 h2;obtain⟨e,a',e1,e2⟩:=hc.at.2 0 f rfl;simp only[List.getElem?_cons_zero,F8]at e1;subst e1;have hl:=e2.len;simp only at hl;have hal:a'.length=a.length:=(by omega);rw[show a++(⟨26,0,x.Ls⟩::I)=(a++[⟨26,0,x.Ls⟩])++I by simp]at hz;rcases z0.1 hz with hz|hz
  ·obtain⟨j,hj,rfl⟩:=List.getElem_of_mem hz;have hj':j<a'.length+1:=(by simp at hj;omega);have hI:=UZ h hn (hfs f E2) e2 (j:=j) hj' (B:=A) rfl (x:=(a++[⟨26,0,x.Ls⟩])[j]) (by
    rw[Rf,Nat.zero_add,show a++(⟨26,0,x.Ls⟩::I)=(a++[⟨26,0,x.Ls⟩])++I by simp,R3 hj,p8 hj])
   unfold J2 IR at hI;exact⟨hI.1,hI.2.1⟩
  ·exact ih (fun f hf=>hfs f (F7 _ hf)) z hz
theorem IF:Pj ⟨I,E,S⟩∧aA d5 ⟨I,E,S⟩=some ((true,()),()):=by
 have hsm:=h.small;have hfn:=h.res.fn100;obtain⟨g1,g2⟩:=hC.at;obtain⟨z1,z2,z3⟩:=a4l h (by omega) _ 0 0 0 [] S I E rfl (C8 _) (by rw[L9];exact hC) (C8 _) (fun _ _ _ _ _ _=>C8 _);have hps:=a6l l;have hops:=tU h hn hC hC (fun f hf=>hf);have hok:I.all T7=true:=List.all_eq_true.2 fun x hx=>by obtain⟨⟨a,b⟩,c,d⟩:=hops x hx;unfold T7;rw[f9 a,f9 b,f9 c,f9 (by omega)];rfl
 have hlay:=hC.lay (fun f hf=>by
  obtain⟨e,a,he⟩:∃e a,Lz l M s.P.To 0 I S.length f e a:=by obtain⟨i,hi,rfl⟩:=List.getElem_of_mem hf;obtain⟨e,a,_,e2⟩:=g2 i _ (p8 hi);exact⟨e,a,e2⟩
  obtain⟨_,_,_,_,_,_,_,_,_,_,_,_,_,_,_,_,_,p1,p2,p3⟩:=Uy h hn hf he;exact⟨p1,p2,p3⟩) I.length (by omega)
 rw[Nat.zero_add]at hlay;have hsum:O1 S≤1048576:=by
  have e:∀S:List Bs,O1 S=((Y6 S:Nat):Int):=by
   intro S
   induction S with
   |nil=>rfl
   |cons t S ih=>rw[Rw,ih];simp[Y6]
  rw[e];have h0:Y6 ([]:List Bs)=0:=rfl;have:=h.txt;omega
 have k1:E.length≤100:=(by omega);have k2:I.length≤65536:=(by omega);have k3:S.length≤65536:=(by simp at z2;omega);exact⟨⟨k1,k2,k3,hlay,hok⟩,b0y k1 k2 k3 hlay hok hsum⟩
end
end
section
set_option maxRecDepth 100000
theorem VL:xL d5=some ((true,()),()):=a3H (i:=.l17_awake) (r:=((true,()),())) (by kernel_rfl)
end
end Go.Proofs.YtabmahknlebhpaaGreat
