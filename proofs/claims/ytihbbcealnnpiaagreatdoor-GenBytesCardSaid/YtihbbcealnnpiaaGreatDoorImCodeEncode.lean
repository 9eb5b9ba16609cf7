/- Parts of the proof. -/
import Derived.Test.YtihbbcealnnpiaaGreatDoorImCodeRep
import Derived.Test.YtihbbcealnnpiaaGreatDoorImCodeMay
import Derived.Lib.AppendStr
import Derived.Deep.AppendLies
import Derived.Deep.RegionHeld3
import Derived.Deep.RegionLaw
set_option linter.unusedVariables false
namespace Go.Proofs.YtihbbcealnnpiaaGreatDoor
section
open Go.RowKit Go.Lib
theorem Kj{w w':World}{z:Nat}{e:TypeId}{k:Nat}{v:Value}{n:Nat}{xs:List Value}(h:w.ownsRow z e k v n xs)(J:Below w.heap.size w w'):w'.ownsRow z e k v n xs:=by
 refine⟨h.1,?_⟩;rcases h.2 with h|⟨g,C,B,I,G,F,H⟩
 ·exact .inl h
 ·exact .inr ⟨g,C,B,I,G,(J.block g (lt_of_block F)).trans F,H⟩
theorem Y2.old{B F:Nat}{ob:Option Nat}{G w w':World}{xs:b6H}(h:Y2 B F ob G xs w)(z:Below w.heap.size w w'):Y2 B F ob G xs w':=by obtain⟨a,c,I,H,K,C,J,L⟩:=h;exact⟨a,c,Ev I z,Kj H z,K,C.step (Mod.of_below z) (λi hi hx=>by have:=C.size;omega),G2 J z.size,L⟩
theorem Y2.belowB{B z b:Nat}{C w W:World}{xs:b6H}(h:Y2 B z none C xs w)(G:Below b W C)(F:b<=z):Below b W w:=by
 obtain⟨a,c,K,I,M,H,L,N⟩:=h;refine G.trans (H.below b (λk J hx=>?_) (by omega));rcases hx with rfl|hx
 ·omega
 ·simp at hx
theorem UE{B z:Nat}{K w w1:World}{xs s:b6H}{a:Option Addr}{c:Nat}{P:Value}(X:B=K.heap.size)(R:Has w z #[.slice a xs.length c] 83)(Q:w.ownsRow B 5 1 (.slice a xs.length c) xs.length (xs.map M3))(S:Mod (λk=>k=z\/(none:Option Nat)=some k) K w)(U:B<=w.heap.size)(V:z<K.heap.size)(N:w1.ownsRow B 5 1 P (xs.length+s.length) (xs.map M3++s.map M3))(G:w.grownBy w1 (Value.ownBlock (.slice a xs.length c))):Has w1 z #[.slice a xs.length c] 83/\Y2 B z none K (xs++s) (w1.setCell ⟨z,0,none⟩ P):=by
 have M:=F7 R;have L:some z≠Value.ownBlock (.slice a xs.length c):=λe=>by have:=(Q.lt z e.symm).1;omega
 have I:Has w1 z #[.slice a xs.length c] 83:=(G.block z M L).trans R;obtain⟨H,F,rfl⟩:=SN N;have C:∀g,Value.ownBlock (.slice H (xs.length+s.length) F)=some g->B<=g:=λg G=>(N.lt g G).1;refine⟨I,H,F,?_,?_,?_,?_,?_,V⟩
 ·have:=Iw I 0 (.slice H (xs.length+s.length) F);simpa using this
 ·have:=ownsRow_setCell_other N (a:=⟨z,0,none⟩) (λe=>by have:=C z e;omega) (.slice H (xs.length+s.length) F);simpa using this
 ·intro g O;have J:Value.ownBlock (.slice H (xs.length+s.length) F)=some g:=(by simpa[Value.ownBlock]using O);have:=C g J;exact⟨.inr (by omega),by omega⟩
 ·refine Mod.setCell (S.step (Mod.of_grown G) ?_) _ _ (.inr (.inl rfl));intro i hi hx;have:=(Q.lt i hx.symm).1;omega
 ·rw[World.size_setCell];exact G2 U G.size
theorem a1F(s:b6H):strCells ⟨s.toArray⟩=s.map M3:=by simp[strCells]
def V8(w:World)(bw:Nat)(cs:Array Value)(xs:b6H)(wr:World):Prop:=
 ∃w0,Y2 (bw+1) bw none w0 xs wr/\w0.heap.size=bw+1/\Below w.heap.size w w0/\w.heap.size<bw/\Has w0 w.heap.size cs 41
theorem V8.below{w z:World}{F:Nat}{cs:Array Value}{xs:b6H}(h:V8 w F cs xs z):Below w.heap.size w z:=by obtain⟨I,B,G,C,H,J⟩:=h;exact B.belowB C (by omega)
theorem V8.has{w z:World}{F:Nat}{cs:Array Value}{xs:b6H}(h:V8 w F cs xs z):Has z w.heap.size cs 41:=by
 obtain⟨K,⟨a,c,I,G,L,B,J,M⟩,N,H,O,C⟩:=h;refine Dc C B (λhx=>?_);rcases hx with hx|hx
 ·omega
 ·simp at hx
theorem V8.old{w B z:World}{C:Nat}{cs:Array Value}{xs:b6H}(h:V8 w C cs xs B)(I:Below B.heap.size B z):V8 w C cs xs z:=by obtain⟨H,G,F⟩:=h;exact⟨H,G.old I,F⟩
theorem dL{w B:World}{z:Nat}{cs:Array Value}{xs:b6H}(n:Nat)(I:n<=9223372036854775807)(hx:xs.length<=1099511627776)(h:V8 w z cs xs B):Calls Tryz.prog 25 #[.pointer (some ⟨z,0,none⟩),.int .i64 n] B λe w'=>e=.returned (.tuple #[])/\V8 w z cs (xs++uv n) w':=by obtain⟨F,H,G⟩:=h;refine(QV (z+1) z none F xs n I hx B H).mono ?_;rintro e w1 ⟨rfl,C⟩;exact⟨rfl,F,C,G⟩
theorem b6l{w w1:World}{cs:Array Value}(z:Below (w.heap.size+1) (w.alloc (.cells cs 41)) w1):V8 w w1.heap.size cs [] (w1.alloc (.cells #[.slice none 0 0] 83)):=by
 have B:=z.size;rw[World.size_alloc]at B;have hx:Has w1 w.heap.size cs 41:=XW (Hh w _ cs _ rfl) z (by omega);refine⟨w1.alloc (.cells #[.slice none 0 0] 83),⟨none,0,Hh w1 _ _ _ rfl,?_,λg C=>by simp[Value.ownBlock]at C,Mod.refl _ _,by rw[World.size_alloc];omega,by rw[World.size_alloc];omega⟩,by rw[World.size_alloc],?_,by omega,Bh hx _⟩
 ·exact World.ownsRow_nil _ _ _ _
 ·exact(((Below.refl w.heap.size w).alloc (l5 _) _).trans (z.mono (by omega))).alloc (by omega) _
def Ff(w:World)(bw:Nat)(cs:Array Value)(n:Nat)(w1:World)(xs:b6H)(wr:World):Prop:=
 ∃ob w0,Y2 (bw+1) bw ob w1 xs wr/\(∀g,ob=some g->bw+1<=g/\g<n)/\bw<n/\Mod (λk=>k=bw) w0 w1/\w0.heap.size=bw+1/\Below w.heap.size w w0/\w.heap.size<bw/\Has w0 w.heap.size cs 41
theorem Ff.enter{w C w1:World}{I:Nat}{cs:Array Value}{xs:b6H}(h:V8 w I cs xs C)(z:Below C.heap.size C w1):Ff w I cs C.heap.size w1 xs w1:=by
 obtain⟨N,M,P,J,Q,L⟩:=h;obtain⟨a,c,H,G,O,K,S,V⟩:=M;have F:=F7 H;have U:=z.size;refine⟨Value.ownBlock (.slice a xs.length c),N,⟨a,c,Ev H z,Kj G z,λg B=>⟨.inl B,(O g B).2⟩,Mod.refl _ _,by omega,by omega⟩,λg B=>G.lt g B,F,?_,P,J,Q,L⟩;refine(K.step (Mod.of_below z) (λi hi hx=>by omega)).mono (λk R hx=>?_);rcases hx with hx|hx
 ·exact hx
 ·simp at hx
theorem Ff.leave{w F w1:World}{C n:Nat}{cs:Array Value}{xs:b6H}(h:Ff w C cs n w1 xs F):V8 w C cs xs F:=by
 obtain⟨ob,P,⟨a,c,L,z,Q,K,M,R⟩,H,S,J,G,N,O,I⟩:=h;refine⟨P,⟨a,c,L,z,λg B=>⟨.inr ?_,(Q g B).2⟩,?_,M,by omega⟩,G,N,O,I⟩
 ·rw[G];exact(z.lt g B).1
 ·refine(J.mono (λk _ hx=>Or.inl hx)).step K (λi hi hx=>?_);rcases hx with hx|hx
  ·exact .inl hx
  ·have:=(H i hx).1;omega
theorem Ff.has{w B w1:World}{H n:Nat}{cs:Array Value}{xs:b6H}(h:Ff w H cs n w1 xs B){b:Nat}{z:Array Value}{t:TypeId}(F:Has w1 b z t)(O:n<=b):Has B b z t:=by
 obtain⟨ob,M,⟨a,c,K,I,N,G,L,P⟩,C,Q,J⟩:=h;refine Dc F G (λhx=>?_);rcases hx with hx|hx
 ·omega
 ·have:=(C b hx).2;omega
theorem a1g{w B w1:World}{z k:Nat}{cs:Array Value}{xs:b6H}(n:Nat)(I:n<=9223372036854775807)(hx:xs.length<=1099511627776)(h:Ff w z cs k w1 xs B):Calls Tryz.prog 25 #[.pointer (some ⟨z,0,none⟩),.int .i64 n] B λe w'=>e=.returned (.tuple #[])/\Ff w z cs k w1 (xs++uv n) w':=by obtain⟨ob,H,G,F⟩:=h;refine(QV (z+1) z ob w1 xs n I hx B G).mono ?_;rintro e J ⟨rfl,C⟩;exact⟨rfl,ob,H,C,F⟩
abbrev U0(b1 b2:Nat)(A B:Array Value)(t1 t2:TypeId)(w:World):Prop:=Has w b1 A t1/\Has w b2 B t2/\w.cell? ⟨b1,0,none⟩=A[0]?/\w.cell? ⟨b2,0,none⟩=B[0]?
theorem U0.mk'{C I:Nat}{A B:Array Value}{F z:TypeId}{w:World}(H:Has w C A F)(G:Has w I B z):U0 C I A B F z w:=⟨H,G,J9 H 0,J9 G 0⟩
theorem U0.drew{C G:Nat}{A B:Array Value}{F z:TypeId}{w:World}(h:U0 C G A B F z w):U0 C G A B F z w.drew:=U0.mk' (Hd h.1) (Hd h.2.1)
theorem U0.alloc{C G:Nat}{A B:Array Value}{F z:TypeId}{w:World}(h:U0 C G A B F z w)(o:Obj):U0 C G A B F z (w.alloc o):=U0.mk' (Bh h.1 o) (Bh h.2.1 o)
theorem U0.grown{z C:Nat}{A B:Array Value}{G F:TypeId}{w w':World}(h:U0 z C A B G F w){r:Option Nat}(H:w.grownBy w' r)(J:some z≠r)(I:some C≠r):U0 z C A B G F w':=
 U0.mk' ((H.block z (F7 h.1) J).trans h.1) ((H.block C (F7 h.2.1) I).trans h.2.1)
theorem ZE(W:World)(b:Nat)(V:Value)(t:TypeId)(B:b=W.heap.size):∀j u,[V][j]? =some u->(W.alloc (.cells #[V] t)).cell? ((⟨b,0,none⟩:Addr).add j)=some u:=by
 intro j u z;subst B
 match j,z with
 |0,z=>simp at z;subst z;simp[Addr.add]
 |j+1,z=>simp at z
theorem b6e(W:World)(b:Nat)(V:Value)(t:TypeId)(z:b=W.heap.size):∀j u,[V][j]? =some u->(W.alloc (.cells #[V] t)).drew.cell? ((⟨b,0,none⟩:Addr).add j)=some u:=ZE W b V t z
def Iq(w:World)(bw:Nat)(cs:Array Value)(N:Nat->Prop)(w1:World)(xs:b6H)(wr:World):Prop:=
 ∃ob w0,Y2 (bw+1) bw ob w1 xs wr/\(∀g,ob=some g->bw+1<=g/\¬N g)/\¬N bw/\Mod (λk=>k=bw) w0 w1/\w0.heap.size=bw+1/\Below w.heap.size w w0/\w.heap.size<bw/\Has w0 w.heap.size cs 41
theorem Iq.enter{w w1:World}{B:Nat}{cs:Array Value}{xs:b6H}(N:Nat->Prop)(h:V8 w B cs xs w1)(H:¬N B)(R:∀a c,Has w1 B #[.slice a xs.length c] 83->∀g,Value.ownBlock (.slice a xs.length c)=some g->¬N g):Iq w B cs N w1 xs w1:=by
 obtain⟨M,L,P,I,Q,K⟩:=h;obtain⟨a,c,C,F,O,J,U,V⟩:=L;have G:=F7 C;refine⟨Value.ownBlock (.slice a xs.length c),M,⟨a,c,C,F,λg z=>⟨.inl z,(O g z).2⟩,Mod.refl _ _,by omega,by omega⟩,λg z=>⟨(F.lt g z).1,R a c C g z⟩,H,?_,P,I,Q,K⟩;refine J.mono (λk S hx=>?_);rcases hx with hx|hx
 ·exact hx
 ·simp at hx
theorem Iq.leave{w F w1:World}{C:Nat}{N:Nat->Prop}{cs:Array Value}{xs:b6H}(h:Iq w C cs N w1 xs F):V8 w C cs xs F:=by
 obtain⟨ob,Q,⟨a,c,L,z,R,K,M,S⟩,H,U,J,G,O,P,I⟩:=h;refine⟨Q,⟨a,c,L,z,λg B=>⟨.inr ?_,(R g B).2⟩,?_,M,by omega⟩,G,O,P,I⟩
 ·rw[G];exact(z.lt g B).1
 ·refine(J.mono (λk _ hx=>Or.inl hx)).step K (λi hi hx=>?_);rcases hx with hx|hx
  ·exact .inl hx
  ·have:=(H i hx).1;omega
theorem Iq.has{w B w1:World}{I:Nat}{N:Nat->Prop}{cs:Array Value}{xs:b6H}(h:Iq w I cs N w1 xs B){b:Nat}{z:Array Value}{t:TypeId}(G:Has w1 b z t)(C:N b):Has B b z t:=by
 obtain⟨ob,P,⟨a,c,M,K,Q,H,O,R⟩,F,J,L⟩:=h;refine Dc G H (λhx=>?_);rcases hx with rfl|hx
 ·exact J C
 ·exact(F b hx).2 C
theorem a7l{w B w1:World}{z:Nat}{N:Nat->Prop}{cs:Array Value}{xs:b6H}(a:Int)(h0: -9223372036854775808<=a)(H:a<=9223372036854775807)(hx:xs.length<=1099511627776)(h:Iq w z cs N w1 xs B):Calls Tryz.prog 26 #[.pointer (some ⟨z,0,none⟩),.int .i64 a] B λe w'=>e=.returned (.tuple #[])/\Iq w z cs N w1 (xs++uv (zz a)) w':=by obtain⟨ob,I,F,G⟩:=h;refine(a6h (z+1) z ob w1 xs a h0 H hx B F).mono ?_;rintro e J ⟨rfl,C⟩;exact⟨rfl,ob,I,C,G⟩
theorem a5L{w w':World}{r:Option Nat}{B C:Obj}(z:((w.alloc B).alloc C).drew.grownBy w' r):w.grownBy w' r:=by have G:w.heap.size<=((w.alloc B).alloc C).drew.heap.size:=(by show w.heap.size<=((w.alloc B).alloc C).heap.size;rw[World.size_alloc,World.size_alloc];omega);refine⟨z.os,z.tape,z.output,G2 G z.size,λk F H=>?_⟩;rw[z.block k (Nat.lt_of_lt_of_le F G) H];exact(Jl (w.alloc B) C k (by rw[World.size_alloc];omega)).trans (Jl w B k F)
theorem b2o{w:World}{B z:Nat}{e:TypeId}{k:Nat}{v:Value}{n:Nat}{xs:List Value}(h:w.ownsRow B e k v n xs)(I:z<=B):w.ownsRow z e k v n xs:=by
 refine⟨h.1,?_⟩;rcases h.2 with h|⟨g,F,C,H,G,J⟩
 ·exact .inl h
 ·exact .inr ⟨g,F,C,H,G2 I G,J⟩
theorem Uo{α:Type}(f:α->b6H)(m:Nat):∀l:List α,(∀x∈l,(f x).length<=m)->(l.flatMap f).length<=m*l.length
 | [],_=>by simp
 |x::r,h=>by have C:=Uo f m r (λy z=>h y (by simp[z]));have B:=h x (by simp);simp only[List.flatMap_cons,t8,F8,Nat.mul_add,Nat.mul_one];omega
theorem S8(n:Nat)(h:n<=18446744073709551615):(uv n).length<=10:=yG 9 n (by omega)
theorem JQ:∀(l:List H7) (a:Int),L9 a l=true->∀f∈l,Ci f=true
 |f::r,a,h,g,z=>by
  simp only[L9,x7]at h;rcases D0.1 z with rfl|z
  ·exact h.1.2
  ·exact JQ r _ h.2 g z
theorem a9n{c:K7}(z:K6 c=true):c.2.1.length<=100/\c.1.length<=65536/\c.2.2.length<=65536/\(∀f∈c.2.1,0<=f.2.1/\0<=f.2.2.1/\0<=f.2.2.2.1/\0<=f.2.2.2.2)/\(∀x∈c.1,1<=x.1/\x.1<=26/\0<=x.2.2)/\(∀s∈c.2.2,s.length<=1048576):=by
 simp only[K6,x7,decide_eq_true_eq,List.all_eq_true]at z;obtain⟨⟨⟨⟨⟨⟨H,F⟩,J⟩,G⟩,L⟩,C⟩,I⟩:=z;refine⟨H,F,J,λf B=>?_,λx hx=>?_,λs K=>G2 (WQ _ s K) I⟩
 ·have:=JQ _ _ G f B;simp only[Ci,decide_eq_true_eq]at this;omega
 ·have:=C x hx;simp only[Co,decide_eq_true_eq]at this;omega
theorem b4q(l:List (b6H))(k:Nat)(h:∀s∈l,s.length<=1048576)(C:l.length<=65536):((l.take k).flatMap Y9).length<=68800000000:=by
 have:=Uo Y9 1048586 (l.take k) (λs B=>by
  have H:=h s (List.mem_of_mem_take B);have F:=S8 s.length (by omega);simp only[Y9,t8];omega)
 have z:(l.take k).length<=65536:=(by rw[List.length_take];omega);have G:1048586*(l.take k).length<=1048586*65536:=Nat.mul_le_mul_left _ z;omega
set_option maxHeartbeats 1000000 in
set_option maxRecDepth 100000 in
theorem a5h(v1 v2 v3:Value)(c:K7)(w:World)(hc:Gr w v1 v2 v3 c):Calls Tryz.prog 12 #[.agg #[v1,v2,v3]] w λe w'=>Below w.heap.size w w'/\((K6 c=false/\e=.returned (.tuple #[.slice none 0 0,.int .i64 1]))\/(K6 c=true/\∃a X,e=.returned (.tuple #[.slice a (Bt c).length X,.int .i64 0])/\w'.ownsRow w.heap.size 5 1 (.slice a (Bt c).length X) (Bt c).length ((Bt c).map M3))):=by
 obtain⟨i0,hi,a0,bg,a8⟩:=info_parts PE;have cg:=Lib.hid hc;by_cases hm:K6 c=true
 ·obtain⟨m1,m2,m3,m4,m5,m6⟩:=a9n hm;obtain⟨M,F,G⟩:=c;obtain⟨a1,c1,rfl,n1,r1⟩:=YC hc.ins;obtain⟨a2,c2,rfl,n2,r2⟩:=NN hc.fns;obtain⟨a3,c3,rfl,n3,r3⟩:=PK hc.strs
  dsimp only at*
  have HM:=Lib.hid hm;have H1:=Lib.hid r1;clear r1;have H2:=Lib.hid r2;clear r2;have H3:=Lib.hid r3;clear r3;have HW:=Lib.hid hc;clear hc;have M4:=Lib.hid m4;clear m4;have M5:=Lib.hid m5;clear m5;have M6:=Lib.hid m6;clear m6
  go_enter Tryz.func12,Tryz.ntmps12
  go_wp2_with (first
   |(go_at_call 24;go_must (refine(lJ _ _ _ _ _ (HW.out.below ((Below.refl _ _).alloc (l5 _) _) (l5 _))).mono ?_;rintro e w1 ⟨rfl,bj⟩;(have hS:=b6l (w:=w) (w1:=w1) (by rw[<-World.size_alloc w (.cells #[.slice a1 M.length c1,.slice a2 F.length c2,.slice a3 G.length c3] 41)];exact bj));have hx:=hS.has;have J:=J9 hx;have L:=F7 hx;have HS:=Lib.hid hS;clear hS hx))
   |(go_at_call 25;go_must (refine(dL G.length (by omega) (by simp) HS.out).mono ?_;rintro e w2 ⟨rfl,B⟩;clear J L;have hx:=B.has;have J:=J9 hx;have L:=F7 hx;have Y:=Lib.hid B;clear B hx HS)))
  go_loopw [6,26] (λq i wr=>∃k:Nat,k<=G.length/\i=.int .i64 k/\V8 w w1.heap.size #[.slice a1 M.length c1,.slice a2 F.length c2,.slice a3 G.length c3] (uv G.length++(G.take k).flatMap Y9) wr) (λ_ i _=>G.length-(intOf i).toNat)
  case atStart=>exact⟨0,by omega,rfl,by simpa using Y.out⟩
  case round=>
   clear J L Y;obtain⟨k,hk,rfl,B⟩:=hrel;have hx:=B.has;have J:=J9 hx;have L:=F7 hx;have H:=B.below;have Y:=Lib.hid B;clear B hx;have n5:=S8 G.length (by omega);have n6:=b4q G k M6.out m3;by_cases C:k<G.length
   ·obtain⟨b,ai,rfl,K,g0⟩:=H3.out k C;have cb:=M6.out G[k] (B0 C);have z:(G.take (k+1)).flatMap Y9=(G.take k).flatMap Y9++Y9 G[k]:=(by rw[List.take_succ_eq_append_getElem C,List.flatMap_append];simp);rw[<-H.cell (p:=⟨b,_,none⟩) K]at g0;have a7:b<wr.heap.size:=Nat.lt_of_lt_of_le K H.size;generalize G[k]=s at*;have HN:=Lib.hid z;clear z;generalize (G.take k).flatMap Y9=br at*;have HB:=Lib.hid H;clear H;have HL:=Lib.hid (show G.length<=65536 from m3);have az:(k:Int)<G.length:=(by omega);unfold Al at g0
    go_wp2_with (first
     |(go_at_call 25;go_must (refine(dL s.length (by omega) (by simp only[t8];omega) Y.out).mono ?_;rintro e w2 ⟨rfl,B⟩;clear J L;(obtain⟨I,P⟩:∃I,I=uv G.length++br++uv s.length:=⟨_,rfl⟩);rw[<-P]at B;(have ae:I.length<=137438953472:=by(have:=S8 s.length (by omega));rw[P];simp only[t8];omega);have HY:=Lib.hid P;clear P;have R:=Lib.hid ae;clear ae;obtain⟨w0,⟨a,c,Q,h2,h3,h4,h5,h6⟩,k2⟩:=B;have ag:=J9 Q;have af:=Ay Q;have ad:=F7 Q;have X1:=Lib.hid Q;clear Q;have X2:=Lib.hid h2;clear h2;have X4:=Lib.hid h4;clear h4 h3;have X5:=Lib.hid h5;clear h5;have X6:=Lib.hid h6;clear h6;have KK:=Lib.hid k2;clear k2))
     |(at_builtin;go_must (refine wpList_append_own_string _ rfl _ _ 52 9 rfl (w1.heap.size+1) 5 i0 (by kernel_rfl) (by kernel_rfl) hi a0 bg a8 (.slice a I.length c) I.length (I.map M3) rfl X2.out ⟨s.toArray⟩ rfl (by have:=R.out;show I.length+s.length<=maxLen;unfold maxLen;omega) (by have:=R.out;show I.length+s.length<=_;omega) X5.out ?_;intro v' w3 ho hg aw;clear aw ag af ad;(have ho:w3.ownsRow (w1.heap.size+1) 5 1 v' (I.length+s.length) (I.map M3++s.map M3):=by rw[<-a1F];exact ho);obtain⟨q1,q2⟩:=UE KK.out.1.symm X1.out X2.out X4.out X5.out X6.out ho hg;obtain⟨a',c',rfl⟩:=SN ho;have ag:=J9 q1;have af:=Ay q1;have ad:=F7 q1;have Q2:=Lib.hid q2;clear q1 q2 ho hg)))
    go_roundw
    case rel=>exact⟨k+1,by omega,by go_num,⟨w0,by rw[show uv G.length++(G.take (k+1)).flatMap Y9=I++s by rw[HY.out,HN.out];simp[Y9]];exact Q2.out,KK.out⟩⟩
    case measure=>simp[intOf];omega
   ·obtain rfl:k=G.length:=(by omega);rw[List.take_of_length_le (l5 _)]at Y n6;have ar:(uv G.length++G.flatMap Y9).length<=68900000000:=(by simp only[t8];omega);obtain⟨p1,hP1⟩:∃p1,p1=uv G.length++G.flatMap Y9:=⟨_,rfl⟩;rw[<-hP1]at Y ar;clear n5 n6 C hk H;have b6:=Lib.hid hP1;clear hP1;have ap:=Lib.hid ar;clear ar
    go_wp2_with (go_at_call 25;go_must (refine(dL F.length (by omega) (by have:=ap.out;omega) Y.out).mono ?_;rintro e w2 ⟨rfl,B⟩;clear J L;have hx:=B.has;have J:=J9 hx;have L:=F7 hx;have bh:=Lib.hid B;clear B hx Y))
    go_loopw [8,10,52] (λq q2 i wr=>∃k:Nat,k<=F.length/\i=.int .i64 k/\V8 w w1.heap.size #[.slice a1 M.length c1,.slice a2 F.length c2,.slice a3 G.length c3] (p1++uv F.length++(F.take k).flatMap Y1) wr) (λ_ _ i _=>F.length-(intOf i).toNat)
    case atStart=>exact⟨0,by omega,rfl,by simpa using bh.out⟩
    case round=>
     clear J L bh;obtain⟨k,hk,rfl,B⟩:=hrel;have hx:=B.has;have J:=J9 hx;have L:=F7 hx;have H:=B.below;have Y:=Lib.hid B;clear B hx;by_cases C:k<F.length
     ·obtain⟨b,ai,rfl,K,g0,g1,g2,g3,g4⟩:=H2.out k C;have N:=M4.out F[k] (B0 C);have O:=HW.out.wf F[k] (B0 C);have z:(F.take (k+1)).flatMap Y1=(F.take k).flatMap Y1++Y1 F[k]:=(by rw[List.take_succ_eq_append_getElem C,List.flatMap_append];simp);obtain⟨fa,fl,fp,fs,fr,hf⟩:∃fa fl fp fs fr,F[k]=(fa,fl,fp,fs,fr):=⟨_,_,_,_,_,rfl⟩;rw[hf]at g0 g1 g2 g3 g4 O z N;clear hf;obtain⟨⟨i1,i2⟩,⟨i3,i4⟩,⟨i5,i6⟩,⟨i7,i8⟩,i9,ci⟩:=O;rw[<-H.cell (p:=⟨b,_,none⟩) K]at g0 g1 g2 g3 g4;have HN:=Lib.hid z;clear z;have az:(k:Int)<F.length:=(by omega);have a7:b<wr.heap.size:=Nat.lt_of_lt_of_le K H.size
      dsimp only at*
      obtain⟨y1,y2,y3,y4⟩:=N;obtain⟨nl,rfl⟩:=Int.eq_ofNat_of_zero_le y1;obtain⟨np,rfl⟩:=Int.eq_ofNat_of_zero_le y2;obtain⟨ns,rfl⟩:=Int.eq_ofNat_of_zero_le y3;obtain⟨nr,rfl⟩:=Int.eq_ofNat_of_zero_le y4;generalize aq:(F.take k).flatMap Y1=p2 at*;have ax:p2.length<=4000:=by
       rw[<-aq];have:=Uo Y1 40 (F.take k) (λf hf=>by
        have h:=HW.out.wf f (List.mem_of_mem_take hf);unfold Fr I64 at h;have e1:=S8 f.2.1.toNat (by omega);have e2:=S8 f.2.2.1.toNat (by omega);have e3:=S8 f.2.2.2.1.toNat (by omega);have e4:=S8 f.2.2.2.2.toNat (by omega);simp only[Y1,t8];omega)
       rw[List.length_take]at this;omega
      have e0:=S8 F.length (by omega);have e1:=S8 nl (by omega);have e2:=S8 np (by omega);have e3:=S8 ns (by omega);have e4:=S8 nr (by omega);have cd:=Lib.hid aq;clear aq;generalize an:p1++uv F.length++p2=p3 at*;have am:p3.length<=69000000000:=(by have:=ap.out;rw[<-an];simp only[t8];omega);have bq:=Lib.hid an;clear an;have bf:=Lib.hid (And.intro am (And.intro e1 (And.intro e2 (And.intro e3 e4))));clear am ax e0 e1 e2 e3 e4
      go_wp2_with fail
      go_loopw [10,66] (λq j w4=>∃(m:Nat) (wx:World) (n0:Nat),n0=wr.heap.size/\m<=4/\j=.int .i64 m/\Ff w w1.heap.size #[.slice a1 M.length c1,.slice (some ⟨b,ai,none⟩) F.length c2,.slice a3 G.length c3] n0 wx (p3++([nl,np,ns,nr].take m).flatMap uv) w4/\Has wx (n0+1) #[.int .i64 nl,.int .i64 np,.int .i64 ns,.int .i64 nr] 3) (λ_ j _=>4-(intOf j).toNat)
      case atStart=>exact⟨0,_,_,rfl,by omega,rfl,by rw[show p3++([nl,np,ns,nr].take 0).flatMap uv=p3 by simp];exact Ff.enter Y.out (by repeat' (first|exact Below.refl _ _|assumption|(refine V7 ?_ (by assumption))|(refine X9 ?_ _)|(refine Below.alloc ?_ (by first|simp;done|(simp;omega)|omega) _)|(refine P3 ?_ (by first|simp;done|(simp;omega)|omega) _)|(refine Below.setCell ?_ (by first|simp;done|(simp;omega)|omega) _))),(by repeat' (first|assumption|(refine Xg ?_ _)|(refine Hd ?_)|(refine Hh _ _ _ _ ?_<;>(first|rfl|(simp;done)))|(refine Bh ?_ _)|(refine Kv ?_ _ _ (by first|assumption|(simp;omega)|omega))|(refine Vu ?_ _ _ (by first|assumption|(simp;omega)|omega))|(refine Ev ?_ (by assumption))))⟩
      case round=>
       clear J L H;obtain⟨m,wx,n0,a5,ca,rfl,B,hX⟩:=hrel;have U:=B.has hX (Nat.le_succ _);have aa:=J9 U;have bu:=F7 U;clear U;have bx:=Lib.hid hX;clear hX;by_cases b9:m<4
       ·have ao:∃nv:Nat,nv<=9223372036854775807/\wr.cell? ⟨n0+1,m,none⟩=some (.int .i64 nv)/\([nl,np,ns,nr].take (m+1)).flatMap uv=([nl,np,ns,nr].take m).flatMap uv++uv nv:=by
         rcases(show m=0\/m=1\/m=2\/m=3 by omega)with rfl|rfl|rfl|rfl
         ·exact⟨nl,by omega,(aa 0).trans rfl,by simp⟩
         ·exact⟨np,by omega,(aa 1).trans rfl,by simp⟩
         ·exact⟨ns,by omega,(aa 2).trans rfl,by simp⟩
         ·exact⟨nr,by omega,(aa 3).trans rfl,by simp⟩
        obtain⟨nv,bm,bv,a4⟩:=ao;rw[a5]at bv bu;clear aa;have ak:(([nl,np,ns,nr].take m).flatMap uv).length<=40:=by obtain⟨_,f1,f2,f3,f4⟩:=bf.out;rcases(show m=0\/m=1\/m=2\/m=3 by omega)with rfl|rfl|rfl|rfl<;>simp<;>omega
        generalize ([nl,np,ns,nr].take m).flatMap uv=q4 at*;have bz:=Lib.hid a4;clear a4;have HQ:=Lib.hid ak;clear ak;have aj:=Lib.hid B;clear B;have b7:(m:Int)<4:=by omega
        go_wp2_with (go_at_call 25;go_must (refine(a1g nv bm (by have:=bf.out.1;have:=HQ.out;simp only[t8];omega) aj.out).mono ?_;rintro e w5 ⟨rfl,B⟩;have b1:=Lib.hid B;clear B aj))
        go_roundw
        case rel=>exact⟨m+1,wx,n0,a5,by omega,by go_num,by rw[bz.out,<-G5];exact b1.out,bx.out⟩
        case measure=>simp[intOf];omega
       ·obtain rfl:m=4:=(by omega);clear aa;have aj:=Lib.hid B.leave;clear B
        go_wp2_with fail
        go_roundw
        case rel=>exact⟨k+1,by omega,by go_num,by rw[HN.out,show p1++uv F.length++(p2++Y1 (fa,↑nl,↑np,↑ns,↑nr))=p3++([nl,np,ns,nr].take 4).flatMap uv by rw[<-bq.out];simp[Y1]];exact aj.out⟩
        case measure=>simp[intOf];omega
     ·obtain rfl:k=F.length:=(by omega);rw[List.take_of_length_le (l5 _)]at Y;have au:(p1++uv F.length++F.flatMap Y1).length<=69000000000:=by
       have:=Uo Y1 40 F (λf hf=>by
        have h:=HW.out.wf f hf;unfold Fr I64 at h;have e1:=S8 f.2.1.toNat (by omega);have e2:=S8 f.2.2.1.toNat (by omega);have e3:=S8 f.2.2.2.1.toNat (by omega);have e4:=S8 f.2.2.2.2.toNat (by omega);simp only[Y1,t8];omega)
       have e0:=S8 F.length (by omega);have:=ap.out;simp only[t8];omega
      obtain⟨p5,hP5⟩:∃p5,p5=p1++uv F.length++F.flatMap Y1:=⟨_,rfl⟩;rw[<-hP5]at Y au;clear C hk H;have b3:=Lib.hid hP5;clear hP5;have a6:=Lib.hid au;clear au
      go_wp2_with fail
      go_loopw [12,78] (λq i wr=>∃k:Nat,k<=M.length/\i=.int .i64 k/\V8 w w1.heap.size #[.slice a1 M.length c1,.slice a2 F.length c2,.slice a3 G.length c3] (p5++(M.take k).flatMap Bb) wr) (λ_ i _=>M.length-(intOf i).toNat)
      case atStart=>exact⟨0,by omega,rfl,by simpa using Y.out⟩
      case round=>
       clear J L Y;obtain⟨k,hk,rfl,B⟩:=hrel;have hx:=B.has;have J:=J9 hx;have L:=F7 hx;have H:=B.below;by_cases C:k<M.length
       ·obtain⟨b,ai,rfl,K,g0,g1,g2⟩:=H1.out k C;have N:=M5.out M[k] (B0 C);have O:=HW.out.wi M[k] (B0 C);have z:(M.take (k+1)).flatMap Bb=(M.take k).flatMap Bb++Bb M[k]:=(by rw[List.take_succ_eq_append_getElem C,List.flatMap_append];simp);obtain⟨Z,xa,xl,hf⟩:∃Z xa xl,M[k]=(Z,xa,xl):=⟨_,_,_,rfl⟩;rw[hf]at g0 g1 g2 O z N;clear hf;obtain⟨cf,⟨i1,i2⟩,⟨i3,i4⟩⟩:=O;rw[<-H.cell (p:=⟨b,_,none⟩) K]at g0 g1 g2;have HN:=Lib.hid z;clear z;have az:(k:Int)<M.length:=(by omega);have a7:b<wr.heap.size:=Nat.lt_of_lt_of_le K H.size
        dsimp only at*
        obtain⟨I,P⟩:∃I,I=p5++(M.take k).flatMap Bb:=⟨_,rfl⟩;have ae:I.length<=70000000000:=by
         have h:=Uo Bb 21 (M.take k) (λx hx=>by
          have h:=HW.out.wi x (List.mem_of_mem_take hx);unfold Ip I64 at h;have e1:=S8 (zz x.2.1) (GR h.2.1.1 (by omega));have e2:=S8 x.2.2.toNat (by omega);simp only[Bb,t8,F8];omega)
         rw[List.length_take]at h;have:=a6.out;rw[P,t8];omega
        rw[<-P]at B;have HY:=Lib.hid P;clear P;have R:=Lib.hid ae;clear ae;obtain⟨w0,⟨a,c,Q,h2,h3,h4,h5,h6⟩,k2⟩:=B;have ag:=J9 Q;have af:=Ay Q;have ad:=F7 Q;have X1:=Lib.hid Q;clear Q;have X2:=Lib.hid h2;clear h2;have X4:=Lib.hid h4;clear h4 h3;have X5:=Lib.hid h5;clear h5;have X6:=Lib.hid h6;clear h6;have KK:=Lib.hid k2;clear k2
        go_wp2_with fail
        have hP:U0 w1.heap.size wr.heap.size #[.slice a I.length c] #[.int .u8 Z,.int .i64 xa,.int .i64 xl] 83 47 (wr.alloc (.cells #[.int .u8 Z,.int .i64 xa,.int .i64 xl] 47)):=U0.mk' (Bh X1.out _) (Hh _ _ _ _ rfl);have bl:some w1.heap.size≠Value.ownBlock (.slice a I.length c):=λe=>by have:=(X2.out.lt _ e.symm).1;omega
        have bi:some wr.heap.size≠Value.ownBlock (.slice a I.length c):=λe=>by have:=(X2.out.lt _ e.symm).2;omega
        go_region_law (first|((refine step_append_lies _ (by rfl) _ _ _ (by rfl) (w1.heap.size+1) 5 i0 (.int .u8 0) 1 1 (by kernel_rfl) hi a0 bg a8 rfl (by decide) (.slice a I.length c) _ (I.map M3) (by rfl) (((X2.out.alloc _).alloc _).drew) ⟨wr.heap.size+1,0,none⟩ 1 1 [.int .u8 Z] (by rfl) rfl (b6e _ _ _ _ (by simp)) (by simp[Value.oneCell']) (by decide) (by have:=R.out;unfold maxLen;omega) (by have:=R.out;omega) (by show _<=((wr.alloc _).alloc _).heap.size;have:=X5.out;rw[World.size_alloc,World.size_alloc];omega) (wr.heap.size+2) (by simp) ?_;intro g X wq S V b4 C;(have ab:=U0.grown (U0.alloc (show U0 w1.heap.size wr.heap.size #[.slice a I.length c] #[.int .u8 Z,.int .i64 xa,.int .i64 xl] 83 47 _ from hP) _).drew V bl bi);have bs:=J9 ab.1;have b0:=Ay ab.1;have ak:=F7 ab.1)))
        all_goals
         have ay:=a5L V;have ac:wq.ownsRow (w1.heap.size+1) 5 1 (.slice (some ⟨g,0,none⟩) (I.length+1) X) (I.length+ [b8 Z].length) (I.map M3++[b8 Z].map M3):=by have e:(Value.int .u8 (Z:Int))=M3 (b8 Z):=(by unfold M3 b8;rw[UInt8.toNat_ofNat'];congr 1;omega);rw[e]at S;exact S
         obtain⟨q1,q2⟩:=UE KK.out.1.symm X1.out X2.out X4.out X5.out X6.out ac ay;have ah:=Kv ab.2.1 ⟨w1.heap.size,0,none⟩ (.slice (some ⟨g,0,none⟩) (I.length+1) X) (by show w1.heap.size≠wr.heap.size;have:=F7 X1.out;omega);have ce:g≠wr.heap.size:=by
          rcases b4 with e|e
          ·intro e2;subst e2;exact bi e.symm
          ·omega
         have bd:=Iw ab.1 0 (.slice (some ⟨g,0,none⟩) (I.length+1) X);have a9:V8 w w1.heap.size #[.slice (some ⟨b,ai,none⟩) M.length c1,.slice a2 F.length c2,.slice a3 G.length c3] (I++[b8 Z]) (wq.setCell ⟨w1.heap.size,0,none⟩ (.slice (some ⟨g,0,none⟩) (I.length+1) X)):=⟨w0,q2,KK.out⟩;have bo:w1.heap.size<wr.heap.size:=F7 X1.out;have be:=Iq.enter (λx=>x=wr.heap.size) a9 (by omega) (λa' c' hq g' bp=>by
          have:=hq.symm.trans bd;simp at this;obtain⟨rfl,_⟩:=this;simp[Value.ownBlock]at bp;omega)
         have ba:=J9 ah;have bk:=F7 ah;have b2:=Lib.hid ah;clear ah;have b5:=Lib.hid be;clear be a9 bd q1 q2 S ac V ay;clear bs b0 ak ab ag af ad J hP;obtain⟨nl,rfl⟩:=Int.eq_ofNat_of_zero_le N.2.2;have HI:=Lib.hid i4
         go_wp2_with (first
          |(go_at_call 26;go_must (refine(a7l xa i1 i2 (by have:=R.out;simp only[t8,F8,K8];omega) b5.out).mono ?_;rintro e w3 ⟨rfl,av⟩;clear ba bk;have U:=av.has b2.out rfl;have ba:=J9 U;have bk:=F7 U;have bt:=Lib.hid av.leave;clear av U))
          |(go_at_call 25;go_must (refine(dL nl (by omega) (by have:=R.out;have:=S8 (zz xa) (GR i1 i2);simp only[t8,F8,K8];omega) bt.out).mono ?_;rintro e w4 ⟨rfl,bb⟩;have bw:=Lib.hid bb;clear bb)))
         go_roundw
         case rel=>exact⟨k+1,by omega,by go_num,by rw[HN.out,show p5++((M.take k).flatMap Bb++Bb (Z,xa,↑nl))=I++[b8 Z]++uv (zz xa)++uv nl by rw[HY.out];simp[Bb]];exact bw.out⟩
         case measure=>simp[intOf];omega
       ·obtain rfl:k=M.length:=(by omega);rw[List.take_of_length_le (l5 _)]at B;have al:p5++M.flatMap Bb=Bt (M,F,G):=(by rw[b3.out,b6.out];simp[Bt]);rw[al]at B;clear al;obtain⟨w0,⟨a,c,Q,h2,h3,h4,h5,h6⟩,k2⟩:=B;obtain⟨zs,hz⟩:∃zs,zs=Bt (M,F,G):=⟨_,rfl⟩;rw[<-hz]at Q h2;have HZ:=Lib.hid hz;clear hz;have ag:=J9 Q;have af:=Ay Q;have ad:=F7 Q;have X2:=Lib.hid h2;clear h2
        go_wp2_with fail
        go_ret2
        have ch:=H.size;exact⟨H,.inr ⟨HM.out,a,c,(by first|rfl|((rw[<-HZ.out])<;>rfl)),by rw[<-HZ.out];exact b2o X2.out (by have:=k2.2.2.1;omega)⟩⟩
 ·have bc:K6 c=false:=by simpa using hm
  go_enter Tryz.func12,Tryz.ntmps12
  go_wp2_with (go_at_call 24;go_must (refine(lJ _ _ _ _ _ (hc.below ((Below.refl _ _).alloc (l5 _) _) (l5 _))).mono ?_;rintro e w1 ⟨rfl,bj⟩;rw[bc]))
  go_ret2
  exact⟨(by repeat' (first|exact Below.refl _ _|assumption|(refine V7 ?_ (by assumption))|(refine X9 ?_ _)|(refine Below.alloc ?_ (by first|simp;done|(simp;omega)|omega) _)|(refine P3 ?_ (by first|simp;done|(simp;omega)|omega) _)|(refine Below.setCell ?_ (by first|simp;done|(simp;omega)|omega) _))),.inl ⟨bc,rfl⟩⟩
end
end Go.Proofs.YtihbbcealnnpiaaGreatDoor
