/- Parts of the proof. -/
import Derived.Test.YtihbbcealnnpiaaGreatDoorImLiBld
import Derived.Test.YtihbbcealnnpiaaGreatDoorImLiName
import Derived.Test.YtihbbcealnnpiaaGreatDoorImLiMay
import Derived.Test.YtihbbcealnnpiaaGreatDoorImValsX
import Derived.Lib.ItoaLen
import Derived.Deep.RegionHeld3
set_option linter.unusedVariables false
namespace Go.Proofs.YtihbbcealnnpiaaGreatDoor
section
section
open Go.RowKit
set_option maxHeartbeats 4000000
set_option maxRecDepth 100000
def a79(w:World)(v:Value){α:Type}(l:List α)(k:Nat)(F:α->Nat->Value):Prop:=∃a cap,v=.slice a l.length cap/\l.length<=cap/\cap<=maxLen/\(l≠ []->∃b off,a=some ⟨b,off,none⟩/\b<w.heap.size/\∀i (hi:i<l.length) j,j<k->w.cell? ⟨b,off+(i*k+j),none⟩=some (F l[i] j))
theorem XU{w:World}{M:Nat->Prop}{α:Type}{k:Nat}{l:List α}{f:α->List T}{v:Value}(h:RepT w M (.sl k (l.map f)) v)(F:α->Nat->Value)(I:∀x j,j<k->(f x)[j]? =some (.v (F x j))):a79 w v l k F:=by
 generalize C:l.map f=xs at h;cases h with
 |nil _ a cap hcm=>have:l=[]:=(by simpa using C);subst this;exact⟨a,cap,rfl,D2 _,hcm,λh=>absurd rfl h⟩
 |sl _ _ b off cap c hb hM hcap hcm hk hc hrr=>subst C;simp only[F5]at hcap hk hc hrr⊢;refine⟨_,_,rfl,by omega,hcm,λ_=>⟨b,off,rfl,hb,λi hi j H=>?_⟩⟩;have G:=I l[i] j H;have z:j<(f l[i]).length:=(o9.1 G).1;have B:=hrr i hi j (by simpa using z);simp only[List.getElem_map]at B;rw[(o9.1 G).2]at B;have J:=D3 (st:=⟨0,λ_=>.dead,λ_=>none,λ_=>false⟩) (L:=λ_=>nol) (.t _ _ B);rw[hc i hi j H,J]
def LF(x:p8):Nat->Value
 |0=>.int .u8 x.Op
 |1=>.int .i64 x.A
 |_=>.int .i64 x.Ls
def RT(x:D7):Nat->Value
 |0=>.int .i64 x.At
 |1=>.int .i64 x.In
 |2=>.int .i64 x.Ps
 |3=>.int .i64 x.Ss
 |_=>.int .i64 x.By
structure Ld(w:World)(X:Nat->Prop)(c:s8)(v1 v2 v3:Value):Prop where
 r1:RepT w X (.sl 3 (c.On.map Ki)) v1
 r2:RepT w X (.sl 5 (c.As.map Nr)) v2
 r3:RepT w X (.sl 1 (c.Us.map Nd)) v3
theorem a1W{w:World}{X:Nat->Prop}{c:s8}{v:Value}(h:D4 w X (Ca c) v):∃C B z,v=.agg #[C,B,z]/\Ld w X c C B z:=by
 unfold Ca Zt at h;cases h with
 |agg cs vs hs h1 hr=>
  obtain⟨vs⟩:=vs
  match vs,hs with
  | [C,B,z],_=>
   refine⟨C,B,z,rfl,?_,?_,?_⟩
   ·have:=hr 0 (by simp);cases this with|t _ _ h=>exact h
   ·have:=hr 1 (by simp);cases this with|t _ _ h=>exact h
   ·have:=hr 2 (by simp);cases this with|t _ _ h=>exact h
theorem Ld.rep{w:World}{X:Nat->Prop}{c:s8}{C B z:Value}(h:Ld w X c C B z):D4 w X (Ca c) (.agg #[C,B,z]):=by
 unfold Ca Zt;refine .agg _ _ rfl (λi hi=>?_) (λi hi=>?_)
 ·match i,hi with
  |0,_=>rfl
  |1,_=>rfl
  |2,_=>rfl
 ·match i,hi with
  |0,_=>exact .t _ _ h.r1
  |1,_=>exact .t _ _ h.r2
  |2,_=>exact .t _ _ h.r3
theorem Ld.to{w w':World}{X:Nat->Prop}{c:s8}{F C B:Value}(h:Ld w X c F C B)(G:Below w.heap.size w w'):Ld w' (λ_=>False) c F C B:=by have z:Ext X w w':=⟨G.size,λk H _=>G.block k H⟩;exact⟨h.r1.ext z (λ_ _ h=>h.elim),h.r2.ext z (λ_ _ h=>h.elim),h.r3.ext z (λ_ _ h=>h.elim)⟩
theorem b3z{w:World}{c:s8}{C B z:Value}(h:Ld w (λ_=>False) c C B z):Calls Tryz.prog 24 #[.agg #[C,B,z]] w λe w'=>e=.returned (.bool (Jq c))/\Below w.heap.size w w':=by
 refine((a62 c).2 w (λ_=>False) #[.agg #[C,B,z]] (λ_ h=>h.elim) rfl (λi hi=>?_)).mono ?_
 ·match i,hi with
  |0,_=>exact h.rep
 ·rintro e w' ⟨v,rfl,G,F⟩;exact⟨by rw[D3 F],G⟩
def Vq:Nat->Nat->b6H
 |0,u=>[UInt8.ofNat (48+u)]
 |f+1,u=>if u<10 then [UInt8.ofNat (48+u)]else Vq f (u/10)++[UInt8.ofNat (48+u%10)]
theorem BP:∀f u,u<10^(f+1)->Vq f u=Lib.decDigits u
 |0,u,h=>by rw[Lib.decDigits,dif_pos (by omega)];rfl
 |f+1,u,h=>by
  rw[Lib.decDigits];unfold Vq;split
  ·rfl
  ·rw[BP f (u/10) (by rw[Nat.pow_succ]at h;omega)]
def Dd(n:Int):b6H:=if n<0 then 45::Vq 20 n.natAbs else Vq 20 n.toNat
theorem UG{n:Int}(h0: -9223372036854775808<=n)(z:n<=9223372036854775807):Dd n=Lib.itoa n:=by
 unfold Dd Lib.itoa;split
 ·rw[BP 20 _ (by omega)]
 ·rw[BP 20 _ (by omega)]
theorem rR{n:Int}(h0: -9223372036854775808<=n)(z:n<=9223372036854775807):(Dd n).length<=21:=by rw[UG h0 z];exact Lib.itoa_length_le n h0 z
def Du(op:Int):Bool:=decide (op=6)||(decide (op=15)||(decide (op=16)||(decide (op=23)||(decide (op=24)||(decide (op=25)||decide (op=26))))))
def Ei(i:Nat)(x:p8):b6H:=Dd i++([32]++(Eg x.Op++((if Du x.Op then []else 32::Dd x.A)++[10])))
def Y4:Nat->List p8->b6H
 |_,[]=>[]
 |i,x::l=>Ei i x++Y4 (i+1) l
theorem TR:∀(l:List p8) (i:Nat) (x:p8),Y4 i (l++[x])=Y4 i l++Ei (i+l.length) x
 | [],i,x=>by show Ei i x++[]=[]++Ei (i+0) x;rw[T4,U7,Nat.add_zero]
 |y::l,i,x=>by show Ei i y++Y4 (i+1) (l++[x])=Ei i y++Y4 (i+1) l++Ei (i+(l.length+1)) x;rw[TR l (i+1) x,G5,show i+1+l.length=i+(l.length+1) by omega]
theorem ZN(op:Int)(h0:0<=op)(z:op<256)(w:World):Calls Tryz.prog 36 #[.int .u8 op] w λe w'=>e=.returned (.bool (Du op))/\w'=w:=by
 unfold Du;by_cases c:op=6\/op=15\/op=16\/op=23\/op=24\/op=25\/op=26
 ·rcases c with rfl|rfl|rfl|rfl|rfl|rfl|rfl
  all_goals
   go_enter Tryz.func36,Tryz.ntmps36
   go_wp2
   go_ret
   exact⟨rfl,rfl⟩
 ·obtain⟨c1,c2,c3,c4,c5,c6,c7⟩:op≠6/\op≠15/\op≠16/\op≠23/\op≠24/\op≠25/\op≠26:=by omega
  go_enter Tryz.func36,Tryz.ntmps36
  go_wp2
  go_ret
  refine⟨?_,rfl⟩;simp[c1,c2,c3,c4,c5,c6,c7]
theorem TM{T e:TypeId}{B b:Nat}{p:Value}{J:List Value}{w w':World}(h:Lib.BuilderAtF T e B b p J w)(K:Below w.heap.size w w'):Lib.BuilderAtF T e B b p J w':=by
 obtain⟨Q,v,N,z,F⟩:=h;have C:∀{k o},w.heap[k]? =some o->w'.heap[k]? =some o:=λ{k o} hko=>(K.block k (Array.getElem?_eq_some_iff.1 hko).1).trans hko;refine⟨Q,v,C N,⟨z.1,?_⟩,F⟩;rcases z.2 with O|⟨g,G,H,M,P,I,L,rest⟩
 ·exact .inl O
 ·exact .inr ⟨g,G,H,M,P,I,C L,rest⟩
theorem yB{T e:TypeId}{B b:Nat}{C:List Value}{w w':World}(h:Lib.IsBuilderF T e B b C w)(z:Below w.heap.size w w'):Lib.IsBuilderF T e B b C w':=h.elim (λx=>.inl (TM x z)) (λx=>.inr (TM x z))
end
section
open Go.RowKit
def Cw(w:World)(n:Int):Prop:=0<=n/\n<100
theorem Cw.below{w w':World}{n:Int}(h:Cw w n)(z:Below w.heap.size w w'):Cw w' n:=h
theorem Cw.range{w:World}{n:Int}(h:Cw w n): -9223372036854775808<=n/\n<=9223372036854775807:=by unfold Cw at h;omega
theorem XA{n:Nat}(h:n<100):Dd (n:Int)=Lib.decDigits n:=by rw[UG (by omega) (by omega)];unfold Lib.itoa;rw[if_neg (by omega),F9]
theorem a5G{w:World}{n:Int}(h:Cw w n):Calls Tryz.prog 34 #[.int .i64 n] w λe w'=>e=.returned (.string (mkS (Dd n)))/\Below w.heap.size w w':=by obtain⟨h0,z⟩:=h;obtain⟨m,rfl⟩:∃m:Nat,n=(m:Int):=⟨n.toNat,by omega⟩;refine(Tryz.strconv_Itoa_small m (by omega) w).mono ?_;rintro e w' ⟨rfl,rfl⟩;exact⟨by rw[XA (by omega)],Below.refl _ _⟩
theorem a1H{w:World}{n:Int}(h:Cw w n):Calls Tryz.prog 37 #[.int .i64 n,.int .i64 10] w λe w'=>e=.returned (.string (mkS (Dd n)))/\Below w.heap.size w w':=by obtain⟨h0,z⟩:=h;obtain⟨m,rfl⟩:∃m:Nat,n=(m:Int):=⟨n.toNat,by omega⟩;refine(Tryz.strconv_FormatInt_10_small m (by omega) w).mono ?_;rintro e w' ⟨rfl,rfl⟩;exact⟨by rw[XA (by omega)],Below.refl _ _⟩
end
section
open Go.RowKit Go.Great
set_option maxHeartbeats 8000000
set_option maxRecDepth 100000
theorem OJ{n:Int}:∀{l:List D7} {a e:Int},Gq n a l=some e->∀{i:Nat} {f:D7},l[i]? =some f->0<=a->0<=f.At/\0<=f.In/\f.At+f.In<=n
 | [],a,e,h,i,f,hf,_=>by simp at hf
 |g::l,a,e,h,i,f,hf,h0=>by
  rw[show Gq n a (g::l)=if Oa g a/\g.In<=n-a then Gq n (a+g.In) l else none from rfl]at h;split at h
  ·rename_i c;obtain⟨⟨c1,c2,_⟩,c3⟩:=c;cases i with
   |zero=>simp at hf;subst hf;omega
   |succ i=>exact OJ h (by simpa using hf) (by omega)
  ·cases h
structure a8h(c:s8):Prop where
 ins:c.On.length<=65536
 at_:∀{i:Nat} {f:D7},c.As[i]? =some f->0<=f.At/\0<=f.In/\f.At+f.In<=c.On.length
 op:∀x∈c.On,1<=x.Op/\x.Op<=26
theorem a4m{c:s8}(h:Jq c=true):a8h c:=by
 unfold Jq at h;simp only[x7]at h;obtain⟨G,F,H,z⟩:=h;cases B:Gq c.On.length 0 c.As with
 |none=>rw[B]at z;cases z
 |some e=>rw[B]at z;simp only[x7]at z;refine⟨F3 F,λC=>OJ B C (R4 _),λx hx=>?_⟩;have:=List.all_eq_true.1 z.2.1 x hx;unfold Nv at this;simp only[x7,decide_eq_true_eq]at this;omega
theorem KO(op:Int):(Eg op).length<=6:=by
 unfold Eg;cases h:Te[op.toNat]? with
 |none=>exact D2 _
 |some s=>have z:=O8 h;have:∀s∈Te,s.length<=6:=(by decide);exact this s z
theorem a8L(i:Nat)(x:p8)(hi:i<=70000)(B:Du x.Op=false-> -9223372036854775808<=x.A/\x.A<=9223372036854775807):(Ei i x).length<=64:=by
 unfold Ei;have F:=rR (n:=(i:Int)) (by omega) (by omega);have C:=KO x.Op;have G:(if Du x.Op then []else 32::Dd x.A:b6H).length<=22:=by
  cases z:Du x.Op with
  |true=>exact D2 _
  |false=>obtain⟨a,b⟩:=B z;have:=rR a b;rw[if_neg (by decide),F8];omega
 simp only[t8,C2];omega
theorem NO:∀(l:List p8) (i:Nat),(∀x∈l,Du x.Op=false-> -9223372036854775808<=x.A/\x.A<=9223372036854775807)->i+l.length<=70000->(Y4 i l).length<=64*l.length
 | [],i,_,_=>D2 _
 |x::l,i,h,hi=>by have C:=NO l (i+1) (λy z=>h y (J1 _ z)) (by rw[F8]at hi;omega);have B:=a8L i x (by omega) (h x I2);show(Ei i x++Y4 (i+1) l).length<=64*(l.length+1);rw[t8];omega
theorem a9B(a b:b6H):Lib.strCells (mkS a++⟨#[32]⟩++mkS b)=Lib.byteCells (a++([32]++b)):=by rw[Lib.strCells_eq];simp[ByteArray.data_append]
theorem a9A(a:b6H):Lib.strCells (⟨#[32]⟩++mkS a)=Lib.byteCells (32::a):=by rw[Lib.strCells_eq];simp[ByteArray.data_append]
theorem a8q{W:World}{q:Nat}{u:Value}{o:Obj}(h:W.cell? ⟨q,0,none⟩=some u/\W.heap[q]? =some o):W.drew.cell? ⟨q,0,none⟩=some u/\W.drew.heap[q]? =some o:=h
theorem a1j{W z:World}{q:Nat}{u:Value}{o:Obj}(h:W.cell? ⟨q,0,none⟩=some u/\W.heap[q]? =some o)(C:Below W.heap.size W z):z.cell? ⟨q,0,none⟩=some u/\z.heap[q]? =some o:=by have B:q<W.heap.size:=(Array.getElem?_eq_some_iff.1 h.2).1;exact⟨(C.cell (p:=⟨q,0,none⟩) B).trans h.1,(C.block q B).trans h.2⟩
theorem a6v{W B:World}{q b:Nat}{u:Value}{c:Array Value}{T:TypeId}(h:W.cell? ⟨q,0,none⟩=some u/\W.heap[q]? =some (.cells c T (0,0)))(F:Lib.OthersKept 5 (some b) W B)(z:q≠b)(hT:T≠5):B.cell? ⟨q,0,none⟩=some u/\B.heap[q]? =some (.cells c T (0,0)):=by have C:=F q _ h.2 (λe=>z (Option.some.inj e)) (λH G e=>hT (by injection e));refine⟨?_,C⟩;rw[Lib.cell_of_heap C,<-Lib.cell_of_heap h.2];exact h.1
theorem a6n(w:World)(c:s8)(v1 v2 v3:Value)(R:Nat)(f:D7)(hv:Ld w (λ_=>False) c v1 v2 v3)(hf:c.As[R]? =some f)(hm:Jq c=true)(az:c.On≠ [])(ae:f.In≠0)(hN:∀i:Nat,(i:Int)<f.In->Cw w i)(hA:∀x∈c.On,Du x.Op=false->Cw w x.A):Calls Tryz.prog 15 #[.agg #[v1,v2,v3],.int .i64 R] w λe w'=>e=.returned (.string (mkS (Y4 0 ((c.On.drop f.At.toNat).take f.In.toNat))))/\Below w.heap.size w w':=by
 have hk:=a4m hm;obtain⟨a1,k1,rfl,n1,m1,r1⟩:=XU hv.r1 LF (λx j hj=>by
  match j,hj with
  |0,_=>rfl
  |1,_=>rfl
  |2,_=>rfl)
 obtain⟨a2,k2,rfl,n2,m2,r2⟩:=XU hv.r2 RT (λx j hj=>by
  match j,hj with
  |0,_=>rfl
  |1,_=>rfl
  |2,_=>rfl
  |3,_=>rfl
  |4,_=>rfl)
 obtain⟨b1,o1,rfl,l1,g1⟩:=r1 az;obtain⟨b2,o2,rfl,l2,g2⟩:=r2 (λh=>by rw[h]at hf;simp at hf);obtain⟨L,bc⟩:=o9.1 hf;have fA:=g2 R L 0 (by omega);have fL:=g2 R L 1 (by omega);have fP:=g2 R L 2 (by omega);have fS:=g2 R L 3 (by omega);have fR:=g2 R L 4 (by omega);rw[bc]at fA fL fP fS fR;unfold RT at fA fL fP fS fR;simp only[Nat.add_zero,<-Nat.add_assoc]at fA fL fP fS fR;obtain⟨p0,p1,p2⟩:=hk.at_ hf;have hi:=hk.ins;have t0:¬(R:Int)<0:=(by omega);have t1:(R:Int)<c.As.length:=(by omega);have G1:=Lib.hid g1;clear g1 r1;have HV:=Lib.hid hv;clear hv r2 g2;have HN:=Lib.hid hN;clear hN;have HA:=Lib.hid hA;clear hA;have HM:=Lib.hid hm;clear hm;have HK:=Lib.hid hk;clear hk;obtain⟨fa,fl,fp,fs,fr⟩:=f;simp only at fA fL fP fS fR p0 p1 p2;obtain⟨z,rfl⟩:∃n:Nat,fa=(n:Int):=⟨fa.toNat,by omega⟩;obtain⟨B,rfl⟩:∃n:Nat,fl=(n:Int):=⟨fl.toNat,by omega⟩;have t2:¬c.As.length<=R:=(by omega);have t3:¬k1=z:=(by simp only at ae;omega);have t4:B≠0:=(by simp only at ae;omega);clear ae
 go_enter Tryz.func15,Tryz.ntmps15
 go_wp2_with (go_at_call 24;go_must (refine(b3z (HV.out.to ((Below.refl _ _).alloc (l5 _) _))).mono ?_;rintro e w1 ⟨rfl,aa⟩;rw[HM.out];(have h1:=(aa.block w.heap.size (by simp)).trans (heap_alloc_last w _));(have af:Below w.heap.size w w1:=((Below.refl _ w).alloc (l5 _) _).trans (aa.mono (by simp)));(have s1:w.heap.size<w1.heap.size:=by have:=aa.size;simp at this;omega);(have q0:=Lib.cell_of_heap h1 0);(have q1:=Lib.cell_of_heap h1 1);simp only[List.getElem?_toArray,List.getElem?_cons_zero,List.getElem?_cons_succ]at q0 q1;rw[<-af.cell (p:=⟨b2,_,none⟩) l2]at fA fL fP fS fR;(have bj:b2<w1.heap.size:=by omega);have HB:=Lib.hid af;clear h1 aa af))
 have e0:((w1.alloc (Obj.cells #[Value.pointer none,Value.slice none 0 0] 98)).alloc (Obj.cells #[Value.int IntKind.i64 (z:Int),Value.int IntKind.i64 (B:Int),Value.int IntKind.i64 fp,Value.int IntKind.i64 fs,Value.int IntKind.i64 fr] 45)).heap.size=w1.heap.size+2:=(by simp);have ao:Lib.IsBuilderF 98 5 w1.heap.size w1.heap.size (Lib.byteCells []) ((w1.alloc (Obj.cells #[Value.pointer none,Value.slice none 0 0] 98)).alloc (Obj.cells #[Value.int IntKind.i64 (z:Int),Value.int IntKind.i64 (B:Int),Value.int IntKind.i64 fp,Value.int IntKind.i64 fs,Value.int IntKind.i64 fr] 45)):=(Lib.IsBuilderF.of (Lib.fresh_isBuilder 98 5 w1)).alloc _;have ap:Below w.heap.size w ((w1.alloc (Obj.cells #[Value.pointer none,Value.slice none 0 0] 98)).alloc (Obj.cells #[Value.int IntKind.i64 (z:Int),Value.int IntKind.i64 (B:Int),Value.int IntKind.i64 fp,Value.int IntKind.i64 fs,Value.int IntKind.i64 fr] 45)):=(HB.out.alloc (by omega) _).alloc (by simp;omega) _;generalize ((w1.alloc (Obj.cells #[Value.pointer none,Value.slice none 0 0] 98)).alloc (Obj.cells #[Value.int IntKind.i64 (z:Int),Value.int IntKind.i64 (B:Int),Value.int IntKind.i64 fp,Value.int IntKind.i64 fs,Value.int IntKind.i64 fr] 45))=W0 at e0 ao ap⊢;generalize bi:w1.heap.size=bk at*;clear q0 q1 fA fL fP fS fR
 go_loopw [7,8,39] (λu7 u8 i wr=>∃k:Nat,k<=B/\i=.int .i64 k/\Lib.IsBuilderF 98 5 bk bk (Lib.byteCells (Y4 0 (((c.On.drop z).take B).take k))) wr/\Below w.heap.size w wr/\bk<=wr.heap.size) (λ_ _ i _=>B-(intOf i).toNat)
 case atStart=>exact⟨0,D2 _,rfl,ao,ap,by omega⟩
 case round=>
  obtain⟨k,bh,rfl,hB,hW,hs⟩:=hrel;by_cases a3:k<B
  ·have I:z+k<c.On.length:=(by omega);have ac:b1<wr.heap.size:=(by have:=hW.size;omega);have x0:=G1.out (z+k) I 0 (by omega);have x1:=G1.out (z+k) I 1 (by omega);have x2:=G1.out (z+k) I 2 (by omega);rw[<-hW.cell (p:=⟨b1,_,none⟩) l1]at x0 x1 x2;have a9:=HK.out.op c.On[z+k] (B0 I);have ai:=HA.out c.On[z+k] (B0 I);have ax:((c.On.drop z).take B).take (k+1)=((c.On.drop z).take B).take k++[c.On[z+k]]:=by rw[List.take_add_one];congr 1;rw[List.getElem?_take_of_lt a3,List.getElem?_drop,w9 I];rfl
   have bd:(Y4 0 (((c.On.drop z).take B).take k)).length<=64*k:=by have h:=NO (((c.On.drop z).take B).take k) 0 (λx hx hb=>(HA.out x (List.mem_of_mem_drop (List.mem_of_mem_take (List.mem_of_mem_take hx))) hb).range) (by simp only[List.length_take,List.length_drop];omega);simp only[List.length_take,List.length_drop]at h;omega
   generalize c.On[z+k]=x at*;obtain⟨op,A,C⟩:=x;unfold LF at x0 x1 x2;simp only at x0 x1 x2 a9 ai;rw[show o1+((z+k)*3+0)=o1+z*3+k*3 by omega]at x0;rw[show o1+((z+k)*3+1)=o1+z*3+k*3+1 by omega]at x1;rw[show o1+((z+k)*3+2)=o1+z*3+k*3+2 by omega]at x2;have am:(k:Int)<B:=(by omega);have V:=Lib.hid hB;clear hB;have X:=Lib.hid hW;clear hW;have a0:=Lib.hid ai;clear ai
   go_wp2_with fail
   have hq:=heap_alloc_last wr (Obj.cells #[Value.int IntKind.u8 op,Value.int IntKind.i64 A,Value.int IntKind.i64 C] 47);have U:(wr.alloc (Obj.cells #[Value.int IntKind.u8 op,Value.int IntKind.i64 A,Value.int IntKind.i64 C] 47)).cell? ⟨wr.heap.size,0,none⟩=some (.int .u8 op):=(by rw[Lib.cell_of_heap hq];rfl);have ar:=Lib.hid (V.out.alloc (Obj.cells #[Value.int IntKind.u8 op,Value.int IntKind.i64 A,Value.int IntKind.i64 C] 47));have O:=Lib.hid (X.out.alloc (by have:=X.out.size;omega) (Obj.cells #[Value.int IntKind.u8 op,Value.int IntKind.i64 A,Value.int IntKind.i64 C] 47));have hz:(wr.alloc (Obj.cells #[Value.int IntKind.u8 op,Value.int IntKind.i64 A,Value.int IntKind.i64 C] 47)).heap.size=wr.heap.size+1:=(by simp);generalize wr.alloc (Obj.cells #[Value.int IntKind.u8 op,Value.int IntKind.i64 A,Value.int IntKind.i64 C] 47)=W1 at hq U ar O hz⊢;have aq:wr.heap.size≠bk:=by
    intro e;obtain⟨_,v,Q,_⟩|⟨_,v,Q,_⟩:=V.out
    ·have:=(Array.getElem?_eq_some_iff.1 Q).1;omega
    ·have:=(Array.getElem?_eq_some_iff.1 Q).1;omega
   generalize be:wr.heap.size=q at hq U hz aq⊢;have ba:W1.cell? ⟨q,0,none⟩=some (.int .u8 op)/\W1.heap[q]? =some (Obj.cells #[Value.int IntKind.u8 op,Value.int IntKind.i64 A,Value.int IntKind.i64 C] 47):=⟨U,hq⟩;clear x0 x1 x2 ac;have ag:=Lib.hid ((HN.out k am).below O.out);obtain⟨sk,hsk⟩:∃s:ByteArray,s=mkS (Dd k):=⟨_,rfl⟩;obtain⟨nm,hnm⟩:∃s:ByteArray,s=mkS (Eg op):=⟨_,rfl⟩;have z1:sk.size<=21:=(by rw[hsk];exact rR ag.out.range.1 ag.out.range.2);have z2:nm.size<=6:=(by rw[hnm];exact KO op);have cI:∀W:World,Cw W k->Calls Tryz.prog 34 #[.int .i64 k] W λe w'=>e=.returned (.string sk)/\Below W.heap.size W w':=λW h=>by rw[hsk];exact a5G h
   have cN:∀W:World,Calls Tryz.prog 35 #[.int .u8 op] W λe w'=>e=.returned (.string nm)/\Below W.heap.size W w':=λW=>by rw[hnm];exact b5X op (by omega) (by omega) W
   have CI:=Lib.hid cI;clear cI;have CN:=Lib.hid cN;clear cN;have H:¬9223372036854775807<sk.size+1:=(by omega);have G:¬9223372036854775807<sk.size+1+nm.size:=(by omega);have M:Hid ((Lib.byteCells (Y4 0 (((c.On.drop z).take B).take k))).length+(sk++⟨#[32]⟩++nm).size<=140737488355328):=Lib.hid (by
    rw[Lib.byteCells_length,ByteArray.size_append,ByteArray.size_append];show _+(sk.size+1+nm.size)<=_;omega)
   have a7:Hid (bk<=W1.heap.size):=Lib.hid (by omega);have Z1:=Lib.hid z1;clear z1;have Z2:=Lib.hid z2;clear z2;have a8:=Lib.hid hsk;clear hsk;have a4:=Lib.hid hnm;clear hnm
   go_region_held3 (λW=>W.cell? ⟨q,0,none⟩=some (.int .u8 op)/\W.heap[q]? =some (Obj.cells #[Value.int IntKind.u8 op,Value.int IntKind.i64 A,Value.int IntKind.i64 C] 47)) (first|assumption|(exact a8q (by assumption))|(exact a1j (by assumption) (by assumption))) (first|(go_at_call 34;refine(CI.out _ (by exact ag.out)).mono ?_;rintro e w2 ⟨rfl,F⟩)|(go_at_call 35;refine(CN.out _).mono ?_;rintro e w3 ⟨rfl,Y⟩)|(go_at_call 33;refine(WX bk bk _ _ _ (yB (by exact(yB (by exact ar.out) F)) Y) M.out (G2 a7.out (G2 (by exact F.size) (by exact Y.size)))).mono ?_;rintro e w4 ⟨rfl,ay,al,av⟩;have Z:=a6v (by assumption) av aq (by decide)))
   have y0:=Z.1;have y1:w4.cell? ⟨q,1,none⟩=some (.int .i64 A):=(by rw[Lib.cell_of_heap Z.2];rfl);have bf:q<w4.heap.size:=(Array.getElem?_eq_some_iff.1 Z.2).1;have S:Hid (Below w.heap.size w w4):=Lib.hid (((O.out.drew.trans (F.mono (by exact O.out.size))).trans (Y.mono (G2 O.out.size (by exact F.size)))).trans (al.mono (by have:=X.out.size;omega)));have au:=Lib.hid ay;have N:bk<=w4.heap.size:=(by omega);have ak:Hid ((Lib.byteCells (Y4 0 (((c.On.drop z).take B).take k))++Lib.strCells (sk++⟨#[32]⟩++nm)).length<=7000000):=Lib.hid (by
    rw[t8,Lib.strCells_length,Lib.byteCells_length,ByteArray.size_append,ByteArray.size_append];show _+(sk.size+1+nm.size)<=_;have:=Z1.out;have:=Z2.out;omega)
   have ab:Hid ((Lib.byteCells (Y4 0 (((c.On.drop z).take B).take k))++Lib.strCells (sk++⟨#[32]⟩++nm)).length<=140737488355328):=Lib.hid (by
    rw[t8,Lib.strCells_length];exact M.out)
   clear Z ay al av F Y hq U ba;have el:(((c.On.drop z).take B).take k).length=k:=by rw[List.length_take,List.length_take,List.length_drop];clear H G M ak ab;omega
   have ad:Lib.byteCells (Y4 0 (((c.On.drop z).take B).take (k+1)))=(Lib.byteCells (Y4 0 (((c.On.drop z).take B).take k))++Lib.strCells (sk++⟨#[32]⟩++nm))++Lib.byteCells ((if Du op then []else 32::Dd A)++[10]):=by rw[ax,TR,a8.out,a4.out,a9B,<-Lib.byteCells_append,<-Lib.byteCells_append];rw[el,Nat.zero_add];unfold Ei;simp only[G5]
   have HF:=Lib.hid ad;clear ad ax;cases K:Du op with
   |true=>
    rw[K]at HF
    go_wp2_with (first|(go_at_call 36;go_must (refine(ZN op (by omega) (by omega) _).mono ?_;rintro e w5 ⟨rfl,rfl⟩;rw[K]))|(go_at_call 38;go_must (refine(XH bk bk _ 10 _ (.inr au.out) (by have:=ab.out;have:=ak.out;omega) N).mono ?_;rintro e w6 ⟨rfl,aj,J,a6⟩)))
    go_roundw
    case rel=>rw[show z+B-z=B by clear H G;omega];refine⟨_,_,_,_,_,_,_,_,_,_,_,_,_,_,_,_,_,_,_,_,_,_,_,_,_,_,⟨k+1,by clear H G;omega,rfl,.inr ?_,S.out.trans (J.mono (by have:=X.out.size;clear H G;omega)),G2 N J.size⟩,rfl⟩;rw[HF.out];exact aj
    case measure=>clear H G;simp[intOf];omega
   |false=>
    rw[K]at HF;have ah:=Lib.hid ((a0.out K).below S.out);obtain⟨sa,hsa⟩:∃s:ByteArray,s=mkS (Dd A):=⟨_,rfl⟩;have z3:sa.size<=21:=(by rw[hsa];exact rR ah.out.range.1 ah.out.range.2);have cF:∀W:World,Cw W A->Calls Tryz.prog 37 #[.int .i64 A,.int .i64 10] W λe w'=>e=.returned (.string sa)/\Below W.heap.size W w':=λW h=>by rw[hsa];exact a1H h
    have CF:=Lib.hid cF;clear cF;have a5:=Lib.hid hsa;clear hsa;have f3:¬9223372036854775807<1+sa.size:=(by clear H G;omega);have an:Hid ((Lib.byteCells (Y4 0 (((c.On.drop z).take B).take k))++Lib.strCells (sk++⟨#[32]⟩++nm)).length+(⟨#[32]⟩++sa).size<=8000000):=Lib.hid (by
     rw[ByteArray.size_append];show _+(1+sa.size)<=_;have:=ak.out;clear H G f3;omega)
    have Z3:=Lib.hid z3;clear z3
    go_wp2_with (first|(go_at_call 36;go_must (refine(ZN op (by omega) (by omega) _).mono ?_;rintro e w5 ⟨rfl,rfl⟩;rw[K]))|(go_at_call 37;go_must (refine(CF.out _ ah.out).mono ?_;rintro e w5 ⟨rfl,P⟩))|(go_at_call 33;go_must (refine(WX bk bk _ _ _ (yB (.inr au.out) P) (by have:=an.out;clear H G f3;omega) (G2 N P.size)).mono ?_;rintro e w6 ⟨rfl,aj,J,a6⟩))|(go_at_call 38;go_must (refine(XH bk bk _ 10 _ (.inr aj) (by rw[t8,Lib.strCells_length];have:=an.out;clear H G f3;omega) (G2 N (G2 P.size J.size))).mono ?_;rintro e w7 ⟨rfl,bb,aw,bg⟩)))
    go_roundw
    case rel=>rw[show z+B-z=B by clear H G f3;omega];refine⟨_,_,_,_,_,_,_,_,_,_,_,_,_,_,_,_,_,_,_,_,_,_,_,_,_,_,⟨k+1,by clear H G f3;omega,rfl,.inr ?_,S.out.trans ((P.mono (by exact S.out.size)).trans ((J.mono (by have:=X.out.size;clear H G f3;omega)).trans (aw.mono (by have:=X.out.size;clear H G f3;omega)))),G2 N (G2 P.size (G2 J.size aw.size))⟩,rfl⟩;rw[HF.out,if_neg (by decide),Lib.byteCells_append,<-a9A,<-a5.out,<-G5];exact bb
    case measure=>clear H G f3;simp[intOf];omega
  ·have am:¬(k:Int)<B:=(by omega);have ac:b1<wr.heap.size:=(by have:=hW.size;omega);have V:=Lib.hid hB;clear hB;have X:=Lib.hid hW;clear hW
   go_wp2_with (go_at_call 39;go_must (refine(Tryz.Builder_String_any_k bk bk _ _ V.out hs).mono ?_;rintro e w2 ⟨rfl,_,F,_⟩))
   go_ret
   have ek:k=B:=(by omega);subst ek;refine⟨?_,X.out.trans (F.mono (by have:=X.out.size;omega))⟩;simp only[F9];have e2:((c.On.drop z).take k).take k=(c.On.drop z).take k:=(by rw[List.take_take,Nat.min_self]);rw[e2];rfl
end
end
end Go.Proofs.YtihbbcealnnpiaaGreatDoor
