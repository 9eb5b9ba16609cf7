/- Parts of the proof. -/
import Derived.Test.YtihbbcealnnpiaaGreatDoorImGp3
set_option linter.unusedVariables false
set_option linter.unusedSectionVars false
namespace Go.Proofs.YtihbbcealnnpiaaGreatDoor
section
def i64(z:Int):Prop:= -9223372036854775808<=z/\z<=9223372036854775807
def mid(z:Int):Prop:= -100000000000<=z/\z<=100000000000
theorem mid.w{z:Int}(h:mid z):i64 z:=by unfold mid at h;unfold i64;omega
structure RfB(l:List d7)(M:List l8)(i:Nat):Prop where
 rf:kd l i=7\/kd l i=26\/kd l i=27\/kd l i=29->∀m,M[i]? =some m->mid m.Es
 pt:7<=kd l i->kd l i<=13->∀m,M[i]? =some m->mid m.Qs
theorem a41(S:List Bs)(t:Bs):0<=(Ch S t).1/\(Ch S t).1<=S.length:=by
 unfold Ch;split
 ·rename_i i h;have:=(List.findIdx?_eq_some_iff_getElem.1 h).1;omega
 ·exact⟨by omega,R4 _⟩
theorem a04{l:List d7}{M:List l8}{T:List v7}{b:Nat}{x:d7}{m:l8}{S F:List Bs}{op arg:Int}(h:Az T x m S=(op,arg,F))(hx:l[b]? =some x)(I:M[b]? =some m)(H:RfB l M b)(z:i64 x.Ns)(hT:∀y∈T,mid y.Of)(J:S.length<=1000000000):i64 arg:=by
 have C:=x4 hx;have t:=a41 S x.Ds;have B:i64 0:=(by unfold i64;omega);have ref:(x.Ks=26\/x.Ks=27\/x.Ks=29)->mid m.Es:=λc=>H.rf (by rw[C];omega) m I;have e:arg=(Az T x m S).2.1:=(by rw[h]);rw[e];unfold Az;by_cases c21:x.Ks=21
 ·rw[if_pos c21];exact z
 rw[if_neg c21];by_cases c22:x.Ks=22
 ·rw[if_pos c22];exact z
 rw[if_neg c22];by_cases c23:x.Ks=23
 ·rw[if_pos c23];show i64 (Ch S x.Ds).1;unfold i64;omega
 rw[if_neg c23];by_cases c24:x.Ks=24
 ·rw[if_pos c24];exact z
 rw[if_neg c24];by_cases c26:x.Ks=26
 ·rw[if_pos c26];exact(ref (.inl c26)).w
 rw[if_neg c26];by_cases c27:x.Ks=27
 ·rw[if_pos c27];have r:=ref (.inr (.inl c27));split
  ·show i64 (-m.Es);unfold mid at r;unfold i64;omega
  ·exact r.w
 rw[if_neg c27];by_cases c28:x.Ks=28
 ·rw[if_pos c28];exact B
 rw[if_neg c28];by_cases c29:x.Ks=29
 ·rw[if_pos c29];exact(ref (.inr (.inr c29))).w
 rw[if_neg c29];by_cases c30:x.Ks=30
 ·rw[if_pos c30];exact z
 rw[if_neg c30];by_cases c31:x.Ks=31
 ·rw[if_pos c31];exact z
 rw[if_neg c31];by_cases c32:x.Ks=32
 ·rw[if_pos c32];show i64 (Qd T m.Ts).2;unfold Qd;split
  ·rename_i y G;exact(hT y (O8 G)).w
  ·exact B
 rw[if_neg c32];exact B
section
variable{l:List d7}{M:List l8}{T:List v7}(hnum:∀x∈l,i64 x.Ns)(hT:∀y∈T,mid y.Of)
include hnum hT
theorem iE{o:Nat}{ks:List Nat}{S S':List Bs}{c:List p8}(h:GX l M T o ks S c S'):∀lo hi,Kc l lo hi ks->hi<=100000000->(∀i,lo<=i->i<hi->RfB l M i)->o+3*(hi-lo)<=1000000000->S.length+(hi-lo)<=1000000000->∀x∈c,i64 x.A:=by
 induction h with
 |nil o S=>intro lo hi L _ _ _ _ x hx;exact nomatch hx
 |log o b st k0 k1 ks x S S1 S2 S3 a c d hx hk hn hs hks h0 h1 h2 i0 i1 i2=>
  intro lo hi L hh G ho hS z C;obtain⟨rfl,y,q,J,O,N,R,B⟩:=L.first
  rw[hx]at J;cases J;have:q=st:=(by omega);subst this;obtain⟨U,rfl,K,V,F⟩:=hks.hd;obtain⟨q1,rfl,Y,X,P⟩:=F.hd;have e1:q1=q:=(by cases P;rfl);subst e1;obtain⟨p1,p2,p3⟩:=h0.len _ _ V;obtain⟨r1,r2,r3⟩:=h1.len _ _ X;have Q:=B.le;rcases A3.1 C with C|C
  ·exact i0 _ _ V (by omega) (λi a b=>G i (by omega) (by omega)) (by omega) (by omega) z C
  ·rcases D0.1 C with rfl|C
   ·show i64 ((o+a.length+1+c.length:Nat):Int);unfold i64;omega
   ·rcases A3.1 C with C|C
    ·exact i1 _ _ X (by omega) (λi a b=>G i (by omega) (by omega)) (by omega) (by omega) z C
    ·exact i2 _ _ B hh (λi a b=>G i (by omega) (by omega)) (by omega) (by omega) z C
 |oth o b st ks' es ks x m S S1 S2 S3 op arg a d hx hk hn hs hks hes hm h0 hl h2 i0 i2=>
  intro lo hi L hh G ho hS z C;obtain⟨rfl,y,q,J,O,N,R,B⟩:=L.first
  rw[hx]at J;cases J;have:q=st:=(by omega);subst this;have I:∃H,b+1<=H/\Kc l H q es:=by
   by_cases c:x.Ks=32
   ·rw[if_pos c]at hes;cases ks' with
    |nil=>exact⟨b+1,l5 _,by rw[hes];exact hks⟩
    |cons k0 kr=>
     obtain⟨rfl,y0,U,ad,aa,K,Z,F⟩:=hks.first
     exact⟨U,by omega,by rw[hes];exact F⟩
   ·rw[if_neg c]at hes;exact⟨b+1,l5 _,by rw[hes];exact hks⟩
  obtain⟨H,ac,I⟩:=I;obtain⟨p1,p2,p3⟩:=h0.len _ _ I;obtain⟨z1,z2⟩:=MP hl;have Q:=B.le;have ab:=I.le;rcases A3.1 C with C|C
  ·exact i0 _ _ I (by omega) (λi a b=>G i (by omega) (by omega)) (by omega) (by omega) z C
  ·rcases D0.1 C with rfl|C
   ·exact a04 hl hx hm (G b (l5 _) (by omega)) (hnum x (O8 hx)) hT (by omega)
   ·exact i2 _ _ B hh (λi a b=>G i (by omega) (by omega)) (by omega) (by omega) z C
omit hnum hT in
theorem a2H{b st:Nat}{x:d7}{m:l8}{es:List Nat}{t:List p8}(h:Bj l M b x m es t)(hx:l[b]? =some x)(R:x.Cs=(st:Int)-(b+1))(N:M[b]? =some m)(H:∀i,b<=i->i<st->RfB l M i)(J:b<st):∀z∈t,i64 z.A:=by
 have F:i64 0:=(by unfold i64;omega);intro z B;cases h with
 |var st' k0 k1 hk hs' hks=>rw[K4.1 B];exact((H b (l5 _) J).rf (.inl (by rw[x4 hx];exact hk)) m N).w
 |set st' k0 k1 y m0 is hk hs' hks hy hyk hm0 hi=>
  have:st'=st:=(by omega);subst this;obtain⟨rfl,Q,q,L,K,I,P,G⟩:=hks.first
  have O:=G.le;rw[K4.1 B];unfold Ta;have C:kd l (b+1)=y.Ks:=x4 hy;by_cases c26:y.Ks=26
  ·rw[if_pos c26];exact((H (b+1) (by omega) (by omega)).rf (.inr (.inl (by rw[C];exact c26))) m0 hm0).w
  rw[if_neg c26];by_cases c28:y.Ks=28
  ·rw[if_pos c28];exact F
  rw[if_neg c28];exact((H (b+1) (by omega) (by omega)).rf (.inr (.inr (.inr (by rw[C];omega)))) m0 hm0).w
 |ret0 hk hs'=>rw[K4.1 B];exact F
 |ret1 st' hk hs' hks=>rw[K4.1 B];exact F
 |print st' hk hs' hks=>rw[K4.1 B];exact F
 |pop st' m0 hk hs' hks hm0 ht=>rw[K4.1 B];exact F
 |run st' m0 hk hs' hks hm0 ht=>exact nomatch B
theorem a5r{o:Nat}{ks:List Nat}{S S':List Bs}{c:List p8}(h:GS l M T o ks S c S'):∀lo hi,Kc l lo hi ks->hi<=100000000->(∀i,lo<=i->i<hi->RfB l M i)->o+3*(hi-lo)<=1000000000->S.length+(hi-lo)<=1000000000->∀x∈c,i64 x.A:=by
 have pt:∀{b hi:Nat} {x:d7} {m:l8} {lo:Nat},(∀i,lo<=i->i<hi->RfB l M i)->lo<=b->b<hi->l[b]? =some x->M[b]? =some m->7<=x.Ks/\x.Ks<=13->i64 m.Qs:=λF V h2 hx N Z=>((F _ V h2).pt (by rw[x4 hx];exact Z.1) (by rw[x4 hx];exact Z.2) _ N).w
 induction h with
 |nil o S=>intro lo hi P _ _ _ _ z B;exact nomatch B
 |smp o b ks es x m S S1 S2 a t d hx N hT' h0 h2 i2=>
  intro lo hi P hh F ho hS z B;obtain⟨rfl,y,q,J,K,U,R,C⟩:=P.first
  rw[hx]at J;cases J;obtain⟨t1,ai,ag,t2,t3,t4⟩:=hT'.kc K;obtain⟨p1,p2,p3⟩:=h0.len _ _ t4;obtain⟨_,u2⟩:=b0m hT';have aj:=t4.le;have Q:=C.le;rcases D0.1 B with rfl|B
  ·exact pt F (l5 _) (by omega) hx N (by omega)
  ·rcases A3.1 B with B|B
   ·exact iE hnum hT h0 _ _ t4 (by omega) (λi a b=>F i (by omega) (by omega)) (by omega) (by omega) z B
   ·rcases A3.1 B with B|B
    ·exact a2H hT' hx K N (λi a b=>F i (by omega) (by omega)) (by omega) z B
    ·exact i2 _ _ C hh (λi a b=>F i (by omega) (by omega)) (by omega) (by omega) z B
 |if2 o b st k1 ks ks1 x m S S1 S2 S3 a c d hx N Z hs hks hb h0 V h2 i1 i2=>
  intro lo hi P hh F ho hS z B;obtain⟨rfl,y,q,J,K,U,R,C⟩:=P.first
  rw[hx]at J;cases J;have:q=st:=(by omega);subst this;obtain⟨q0,e0,aa,H,L⟩:=hks.hd;obtain⟨q1,rfl,O,K1,I⟩:=L.hd;have X:q1=q:=(by cases I;rfl);subst X;obtain⟨y1,ac,Y,b2,G⟩:=hb;obtain⟨_,rfl,_⟩:=K1.end Y b2;obtain⟨p1,p2,p3⟩:=h0.len _ _ H;obtain⟨r1,r2,r3⟩:=V.len _ _ G;have ab:=G.le;have Q:=C.le;have ad:=H.le;rcases D0.1 B with rfl|B
  ·exact pt F (l5 _) (by omega) hx N (by omega)
  ·rcases A3.1 B with B|B
   ·exact iE hnum hT h0 _ _ H (by omega) (λi a b=>F i (by omega) (by omega)) (by omega) (by omega) z B
   ·rcases D0.1 B with rfl|B
    ·show i64 ((o+a.length+2+c.length:Nat):Int);unfold i64;omega
    ·rcases A3.1 B with B|B
     ·exact i1 _ _ G (by omega) (λi a b=>F i (by omega) (by omega)) (by omega) (by omega) z B
     ·exact i2 _ _ C hh (λi a b=>F i (by omega) (by omega)) (by omega) (by omega) z B
 |if3 o b st k1 k2 ks ks1 ks2 x m S S1 S2 S3 S4 a c e d hx N Z hs hks hb1 hb2 h0 V h3 h2 i1 i3 i2=>
  intro lo hi P hh F ho hS z B;obtain⟨rfl,y,q,J,K,U,R,C⟩:=P.first
  rw[hx]at J;cases J;have:q=st:=(by omega);subst this;obtain⟨q0,e0,aa,H,L⟩:=hks.hd;obtain⟨q1,rfl,O,K1,I⟩:=L.hd;obtain⟨q2,rfl,af,K2,ae⟩:=I.hd;have X:q2=q:=(by cases ae;rfl);subst X;obtain⟨y1,ac,Y,b2,G⟩:=hb1;obtain⟨_,rfl,_⟩:=K1.end Y b2;obtain⟨y2,ak,d1,d2,d3⟩:=hb2;obtain⟨_,rfl,_⟩:=K2.end d1 d2;obtain⟨p1,p2,p3⟩:=h0.len _ _ H;obtain⟨r1,r2,r3⟩:=V.len _ _ G;obtain⟨u1,u2,u3⟩:=h3.len _ _ d3;have ab:=G.le;have ah:=d3.le;have Q:=C.le;have ad:=H.le;rcases D0.1 B with rfl|B
  ·exact pt F (l5 _) (by omega) hx N (by omega)
  ·rcases A3.1 B with B|B
   ·exact iE hnum hT h0 _ _ H (by omega) (λi a b=>F i (by omega) (by omega)) (by omega) (by omega) z B
   ·rcases D0.1 B with rfl|B
    ·show i64 ((o+a.length+c.length+3:Nat):Int);unfold i64;omega
    ·rcases A3.1 B with B|B
     ·exact i1 _ _ G (by omega) (λi a b=>F i (by omega) (by omega)) (by omega) (by omega) z B
     ·rcases D0.1 B with rfl|B
      ·show i64 ((o+a.length+c.length+3+e.length:Nat):Int);unfold i64;omega
      ·rcases A3.1 B with B|B
       ·exact i3 _ _ d3 (by omega) (λi a b=>F i (by omega) (by omega)) (by omega) (by omega) z B
       ·exact i2 _ _ C hh (λi a b=>F i (by omega) (by omega)) (by omega) (by omega) z B
 |whl o b st k1 ks ks1 x m S S1 S2 S3 a c d hx N Z hs hks hb h0 V h2 i1 i2=>
  intro lo hi P hh F ho hS z B;obtain⟨rfl,y,q,J,K,U,R,C⟩:=P.first
  rw[hx]at J;cases J;have:q=st:=(by omega);subst this;obtain⟨q0,e0,aa,H,L⟩:=hks.hd;obtain⟨q1,rfl,O,K1,I⟩:=L.hd;have X:q1=q:=(by cases I;rfl);subst X;obtain⟨y1,ac,Y,b2,G⟩:=hb;obtain⟨_,rfl,_⟩:=K1.end Y b2;obtain⟨p1,p2,p3⟩:=h0.len _ _ H;obtain⟨r1,r2,r3⟩:=V.len _ _ G;have ab:=G.le;have Q:=C.le;have ad:=H.le;rcases D0.1 B with rfl|B
  ·exact pt F (l5 _) (by omega) hx N (by omega)
  ·rcases A3.1 B with B|B
   ·exact iE hnum hT h0 _ _ H (by omega) (λi a b=>F i (by omega) (by omega)) (by omega) (by omega) z B
   ·rcases D0.1 B with rfl|B
    ·show i64 ((o+a.length+c.length+3:Nat):Int);unfold i64;omega
    ·rcases A3.1 B with B|B
     ·exact i1 _ _ G (by omega) (λi a b=>F i (by omega) (by omega)) (by omega) (by omega) z B
     ·rcases D0.1 B with rfl|B
      ·show i64 ((o:Nat):Int);unfold i64;omega
      ·exact i2 _ _ C hh (λi a b=>F i (by omega) (by omega)) (by omega) (by omega) z B
end
end
end Go.Proofs.YtihbbcealnnpiaaGreatDoor
