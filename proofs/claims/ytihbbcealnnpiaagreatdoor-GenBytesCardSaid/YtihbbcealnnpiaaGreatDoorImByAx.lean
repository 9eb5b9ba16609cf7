/- Parts of the proof. -/
import Derived.Test.YtihbbcealnnpiaaGreatDoorImCodeEncode
import Derived.Test.YtihbbcealnnpiaaGreatDoorImCodeDecode
import Derived.Test.YtihbbcealnnpiaaGreatDoorImXF
set_option linter.unusedVariables false
namespace Go.Proofs.YtihbbcealnnpiaaGreatDoor
section
open Go.RowKit
abbrev bVl(b:UInt8):List T:=[T.v (.int .u8 (b.toNat:Int))]
abbrev bG(l:b6H):T:=.sl 1 (l.map bVl)
def Qb(x:O6):List T:=[.v (.int .u8 x.1),.v (.int .i64 x.2.1),.v (.int .i64 x.2.2)]
def Ya(f:H7):List T:=[.v (.int .i64 f.1),.v (.int .i64 f.2.1),.v (.int .i64 f.2.2.1),.v (.int .i64 f.2.2.2.1),.v (.int .i64 f.2.2.2.2)]
def vO(s:b6H):List T:=[.v (Al s)]
@[go_sem] def Cd (c:K7):List A:=[.t (.sl 3 (c.1.map Qb)),.t (.sl 5 (c.2.1.map Ya)),.t (.sl 1 (c.2.2.map vO))]
structure GY(c:K7):Prop where
 wi:∀x∈c.1,Ip x
 wf:∀f∈c.2.1,Fr f
 ws:∀s∈c.2.2,s.length<=maxLen
 l1:c.1.length<=maxLen
 l2:c.2.1.length<=maxLen
 l3:c.2.2.length<=maxLen
theorem yH{w:World}{M:Nat->Prop}{α:Type}{k:Nat}{l:List α}{f:α->List T}{v:Value}(h:RepT w M (.sl k (l.map f)) v)(F:Nat->Nat->Value)(I:∀i (hi:i<l.length) j,j<k->(f l[i])[j]? =some (.v (F i j))):O4 w k v l.length F:=by
 generalize C:l.map f=xs at h;cases h with
 |nil _ a cap hcm=>have:l=[]:=(by simpa using C);subst this;exact⟨a,cap,rfl,D2 _,λi hi=>by simp at hi⟩
 |sl _ _ b off cap c hb hM hcap hcm hk hc hrr=>subst C;simp only[F5]at hcap hk hc hrr⊢;refine⟨_,_,rfl,by omega,λi hi=>⟨b,off,rfl,hb,λj H=>?_⟩⟩;have G:=I i hi j H;have z:j<(f l[i]).length:=(o9.1 G).1;have B:=hrr i hi j (by simpa using z);simp only[List.getElem_map]at B;rw[(o9.1 G).2]at B;have J:=D3 (st:=⟨0,λ_=>.dead,λ_=>none,λ_=>false⟩) (L:=λ_=>nol) (.t _ _ B);rw[Nat.add_assoc,hc i hi j H,J]
theorem eU{w:World}{M:Nat->Prop}{α:Type}{k:Nat}{l:List α}{f:α->List T}{v:Value}{F:Nat->Nat->Value}{B:Nat}(h:O4 w k v l.length F)(X:Hi w.heap.size B v)(Q:∀b,M b->b<B)(C:∀x,(f x).length=k)(U:∀i (hi:i<l.length) j,j<k->(f l[i])[j]? =some (.v (F i j)))(R:∀i j,i<l.length->j<k->(F i j).oneCell'=true):RepT w M (.sl k (l.map f)) v:=by
 obtain⟨a,S,J,O,Z⟩:=h;rcases X with rfl|⟨g,n,c,rfl,hB,Y,L,K⟩
 ·simp only[Value.slice.injEq]at J;have:l=[]:=List.eq_nil_of_length_eq_zero J.2.1.symm;subst this;exact .nil _ _ _ (D2 _)
 ·simp only[Value.slice.injEq]at J;obtain⟨rfl,rfl,rfl⟩:=J;have:=RepT.sl (w:=w) (M:=M) k (l.map f) g 0 c (λi j=>F i j) Y (λO=>by have:=Q _ O;omega) (by simpa using L) K (λi hi=>by simp[C]) (λi hi j N=>by
   have z:i<l.length:=(by simpa using hi);obtain⟨b,V,H,_,G⟩:=Z i z;simp only[P1,Addr.mk.injEq]at H;obtain⟨rfl,rfl,_⟩:=H;have:=G j N
   rwa [Nat.add_assoc]at this) (λi hi j N=>by
   have z:i<l.length:=(by simpa using hi);have I:j<k:=(by rw[<-C l[i]];simpa using N);have P:=U i z j I;simp only[List.getElem_map];rw[(o9.1 P).2];exact .v _ (R i j z I))
  simpa using this
theorem ZX(l:List O6):∀i (hi:i<l.length) j,j<3->(Qb l[i])[j]? =some (.v (FIn l i j)):=λi hi j z=>by
 unfold FIn;rw[Y0 hi]
 match j,z with
 |0,_=>rfl
 |1,_=>rfl
 |2,_=>rfl
theorem WE(l:List H7):∀i (hi:i<l.length) j,j<5->(Ya l[i])[j]? =some (.v (FE l i j)):=λi hi j z=>by
 unfold FE;rw[Y0 hi]
 match j,z with
 |0,_=>rfl
 |1,_=>rfl
 |2,_=>rfl
 |3,_=>rfl
 |4,_=>rfl
theorem VB(l:List (b6H)):∀i (hi:i<l.length) j,j<1->(vO l[i])[j]? =some (.v (FS l i j)):=λi hi j z=>by
 unfold FS;rw[Y0 hi]
 match j,z with
 |0,_=>rfl
theorem a93{w:World}{M:Nat->Prop}{c:K7}{v:Value}(h:D4 w M (.agg (Cd c)) v)(z:GY c):∃F C B,v=.agg #[F,C,B]/\Gr w F C B c:=by
 cases h with
 |agg _ vs hsz h1 hr=>
  have H:vs.size=3:=(by rw[hsz];rfl);refine⟨vs[0],vs[1],vs[2],?_,yH (Di (hr 0 (by simp[Cd]))) _ (ZX _),yH (Di (hr 1 (by simp[Cd]))) _ (WE _),yH (Di (hr 2 (by simp[Cd]))) _ (VB _),z.wi,z.wf,z.ws⟩;congr 1
  apply Array.ext
  ·simp[H]
  ·intro i hi G
   match i,hi with
   |0,_=>rfl
   |1,_=>rfl
   |2,_=>rfl
   |n+3,h=>omega
theorem b3y{w:World}{M:Nat->Prop}{c:K7}{C F z:Value}{B:Nat}(h:Gr w C F z c)(N:Hi w.heap.size B C)(O:Hi w.heap.size B F)(I:Hi w.heap.size B z)(H:∀b,M b->b<B):D4 w M (.agg (Cd c)) (.agg #[C,F,z]):=by
 have K:RepT w M (.sl 3 (c.1.map Qb)) C:=eU h.ins N H (λ_=>rfl) (ZX _) (λi j hi G=>by unfold FIn;match j,G with|0,_=>rfl|1,_=>rfl|2,_=>rfl);have J:RepT w M (.sl 5 (c.2.1.map Ya)) F:=eU h.fns O H (λ_=>rfl) (WE _) (λi j hi G=>by unfold FE;match j,G with|0,_=>rfl|1,_=>rfl|2,_=>rfl|3,_=>rfl|4,_=>rfl);have L:RepT w M (.sl 1 (c.2.2.map vO)) z:=eU h.strs I H (λ_=>rfl) (VB _) (λi j hi G=>by unfold FS;rfl);refine .agg _ _ rfl (λi hi=>?_) (λi hi=>?_)
 ·match i,hi with
  |0,_=>rfl
  |1,_=>rfl
  |2,_=>rfl
  |n+3,h=>simp[Cd]at h;omega
 ·match i,hi with
  |0,_=>exact .t _ _ K
  |1,_=>exact .t _ _ J
  |2,_=>exact .t _ _ L
  |n+3,h=>simp[Cd]at h;omega
theorem a03{w B:World}{M:Nat->Prop}{a:Option Addr}{c:Nat}{xs:b6H}(h:w.ownsRow B.heap.size 5 1 (.slice a xs.length c) xs.length (xs.map M3))(C:∀b,M b->b<B.heap.size):RepT w M (bG xs) (.slice a xs.length c):=by
 have F:O4 w 1 (.slice a xs.length c) xs.length (λi _=>M3 (xs.getD i 0)):=O4.of_owns h _ (λi j hi z=>by
  have:j=0:=(by omega);subst this;simp[Y0 hi,w9 hi])
 exact eU (f:=bVl) F (cW h (l5 _) (l5 _)) C (λ_=>rfl) (λi hi j z=>by
  have:j=0:=(by omega);subst this;rw[Y0 hi];rfl) (λi j hi z=>rfl)
section
variable{c d:K7}
theorem XF{a:A}{z:Array Value}{w:World}{X:Nat->Prop}(B:z.size=[a].length)(h:∀i (hi:i< [a].length),D4 w X ([a][i]) (z.getD i undef)):∃v,z= #[v]/\D4 w X a v:=by
 obtain⟨v,rfl⟩:∃v,z= #[v]:=by
  refine⟨z[0]'(by simp at B;omega),?_⟩
  apply Array.ext
  ·simpa using B
  ·intro i hi C;have:i=0:=(by simp at C;omega);subst this;rfl
 exact⟨v,rfl,h 0 (by simp)⟩
theorem a89(I:GY c)(K:K6 c=true):FnP Tryz.prog 12 [.agg (Cd c)] (.tup [.t (bG (Bt c)),.v (.int .i64 0)]):=by
 refine⟨by kernel_rfl,λw X B G z L=>?_⟩;obtain⟨v,rfl,h⟩:=XF z L;obtain⟨H,J,C,rfl,M⟩:=a93 h I;refine(a5h H J C c w M).mono ?_;rintro e w' ⟨F,⟨h,_⟩|⟨_,a,cap,rfl,ho⟩⟩
 ·rw[K]at h;exact absurd h (by simp)
 ·refine⟨_,rfl,F,.tup _ _ rfl (λi hi=>?_)⟩
  match i,hi with
  |0,_=>exact .t _ _ (a03 ho G)
  |1,_=>exact .t _ _ (.v _ rfl)
  |n+2,h=>simp at h;omega
theorem a4A{w:World}{M:Nat->Prop}{b:b6H}{v:Value}(h:D4 w M (.t (bG b)) v):∃a z,v=.slice a b.length z/\U9 w a z b:=by
 have h:RepT w M (.sl 1 (b.map bVl)) v:=Di h;generalize F:b.map bVl=xs at h;cases h with
 |nil _ a z hcm=>have:b=[]:=(by simpa using F);subst this;exact⟨a,z,rfl,D2 _,hcm,.inl rfl⟩
 |sl _ _ g off z c hb hM hcap hcm hk hc hrr=>subst F;simp only[F5]at hcap hc hrr⊢;refine⟨_,_,rfl,hcap,hcm,.inr ⟨g,off,rfl,hb,λi hi=>?_⟩⟩;have C:=hc i hi 0 (by omega);have B:=hrr i hi 0 (by simp);simp only[List.getElem_map,K5]at B;have G:=D3 (st:=⟨0,λ_=>.dead,λ_=>none,λ_=>false⟩) (L:=λ_=>nol) (.t _ _ B);rw[Nat.mul_one,Nat.add_zero]at C;rw[C,G]
theorem b0h(b:b6H):FnP Tryz.prog 13 [.t (bG b)] (.tup [.agg (Cd (Aw b).1),.v (.int .i64 ((Aw b).2:Nat))]):=by
 refine⟨by kernel_rfl,λw X F H C I=>?_⟩;obtain⟨v,rfl,h⟩:=XF C I;obtain⟨a,B,rfl,z⟩:=a4A h;refine(b0I a B b w z).mono ?_;rintro e w' ⟨z,N,O,M,rfl,L,J,K,G⟩;refine⟨_,rfl,z,.tup _ _ rfl (λi hi=>?_)⟩
 match i,hi with
 |0,_=>exact b3y L J K G H
 |1,_=>exact .t _ _ (.v _ rfl)
 |n+2,h=>simp at h;omega
end
end
end Go.Proofs.YtihbbcealnnpiaaGreatDoor
