/- Parts of the proof. -/
import Derived.Test.YtihbbcealnnpiaaGreatDoorImBase
import Derived.Test.YtihbbcealnnpiaaGreatDoorImXE
import Derived.Test.YtihbbcealnnpiaaGreatDoorImAxTab
import Derived.Lib.BufferRead
import Derived.Laws.IdiomStrings
import Derived.Laws.StructEq
import Derived.Laws.Cover3
import Derived.Laws.MakeOwn
import Derived.Laws.RangeString
import Derived.Laws.RangeAny
set_option linter.unusedVariables false
namespace Go.Proofs.YtihbbcealnnpiaaGreatDoor
noncomputable section
section
universe u
section
variable{ι:Type}{β:ι->Type}
def P6(B:((i:ι)->Option (β i))->(i:ι)->Option (β i)):Nat->(i:ι)->Option (β i)
 |0,_=>none
 |n+1,i=>B (P6 B n) i
def UX:Nat:=1152921504606846976
open Classical in
def J0(B:((i:ι)->Option (β i))->(i:ι)->Option (β i))(i:ι):Option (β i):=
 match P6 B UX i with
 |some r=>some r
 |none=>if h:∃n,(P6 B n i).isSome=true then P6 B (Classical.choose h) i else none
def J2{γ:Type}(F:((i:ι)->Option (β i))->Option γ):Prop:=
 ∀g r,F g=some r->∃l:List ι,∀g',(∀i∈l,∀x,g i=some x->g' i=some x)->F g'=some r
theorem T5{C:Type}(c:Option C):J2 (β:=β) (λ_=>c):=λg r h=>⟨[],λ_ _=>h⟩
theorem FM(i:ι):J2 (β:=β) (λg=>g i):=λg r h=>⟨[i],λF C=>C i (by simp) r h⟩
theorem CM{I O:Type}{F:((i:ι)->Option (β i))->Option I}{K:I->((i:ι)->Option (β i))->Option O}(M:J2 F)(L:∀x,J2 (K x)):J2 (λg=>(F g).bind λx=>K x g):=λg r h=>by obtain⟨x,hx,N⟩:=Option.bind_eq_some_iff.1 h;obtain⟨S,J⟩:=M g x hx;obtain⟨U,R⟩:=L x g r N;refine⟨S++U,λC H=>?_⟩;show(F C).bind _=_;rw[J C λi hi=>H i (by simp[hi])];exact R C λi hi=>H i (by simp[hi])
variable{B:((i:ι)->Option (β i))->(i:ι)->Option (β i)}
theorem xE{H:Type}{F:((i:ι)->Option (β i))->Option H}(h:J2 F){g C:(i:ι)->Option (β i)}(J:∀i x,g i=some x->C i=some x){r:H}(I:F g=some r):F C=some r:=by obtain⟨l,k⟩:=h g r I;exact k C λi _=>J i
theorem PY(C:∀i,J2 (λg=>B g i)):∀n i r,P6 B n i=some r->P6 B (n+1) i=some r
 |0,i,r,h=>by cases h
 |n+1,i,r,h=>xE (C i) (PY C n) h
theorem dD(F:∀i,J2 (λg=>B g i)){n m:Nat}(C:n<=m){i:ι}{r:β i}(h:P6 B n i=some r):P6 B m i=some r:=by
 induction C with
 |refl=>exact h
 |step _ ih=>exact PY F _ _ _ ih
theorem uT{i:ι}{r:β i}(h:J0 B i=some r):∃n,P6 B n i=some r:=by
 unfold J0 at h;split at h
 ·rename_i x hx;exact⟨UX,hx.trans h⟩
 ·split at h
  ·exact⟨_,h⟩
  ·cases h
theorem OC(I:∀i,J2 (λg=>B g i)){n:Nat}{i:ι}{r:β i}(h:P6 B n i=some r):J0 B i=some r:=by
 have hx:∃n,(P6 B n i).isSome=true:=⟨n,by rw[h];rfl⟩;have same:∀m F,P6 B m i=some F->F=r:=λm F J=>by have K:=dD I (Nat.le_max_left n m) h;have H:=dD I (Nat.le_max_right n m) J;rw[K]at H;cases H;rfl
 unfold J0;split
 ·rename_i x hx;rw[same _ _ hx]
 ·rw[dif_pos hx];obtain⟨F,C⟩:=B5.1 (Classical.choose_spec hx);rw[C,same _ _ C]
theorem JK(H:∀i,J2 (λg=>B g i))(i:ι):J0 B i=B (J0 B) i:=by
 have F:∀r,J0 B i=some r↔B (J0 B) i=some r:=λr=>by
  constructor
  ·intro h;obtain⟨n,J⟩:=uT h;cases n with
   |zero=>cases J
   |succ n=>exact xE (H i) (λj x hx=>OC H hx) J
  ·intro h;obtain⟨l,k⟩:=H i _ _ h;have:∃N,∀j∈l,∀x,J0 B j=some x->P6 B N j=some x:=by
    clear k
    induction l with
    |nil=>exact⟨0,λj C=>by simp at C⟩
    |cons a l ih=>
     obtain⟨N,I⟩:=ih;cases K:J0 B a with
     |none=>
      refine⟨N,λj C x hx=>?_⟩;rcases D0.1 C with rfl|C
      ·rw[K]at hx;cases hx
      ·exact I j C x hx
     |some y=>
      obtain⟨n,J⟩:=uT K;refine⟨max n N,λj C x hx=>?_⟩;rcases D0.1 C with rfl|C
      ·rw[K]at hx;cases hx;exact dD H (Nat.le_max_left _ _) J
      ·exact dD H (Nat.le_max_right _ _) (I j C x hx)
   obtain⟨N,I⟩:=this;exact OC H (n:=N+1) (k _ I)
 cases h:B (J0 B) i with
 |some r=>exact(F r).2 h
 |none=>
  cases L:J0 B i with
  |none=>rfl
  |some r=>rw[(F r).1 L]at h;cases h
attribute [irreducible] J0
end
end
section
open Go.RowKit
variable{P:Program}
abbrev w64(n:Int):Int:=IntKind.wrap .i64 n
abbrev mkS(s:b6H):ByteArray:=ByteArray.mk (Array.mk s)
def f7{α:Type}(xs:List α)(i:Int):Option α:=if 0<=i then xs[i.toNat]? else none
abbrev tI(k:IntKind)(n:Int):T:=.v (.int k n)
abbrev tS(s:b6H):T:=.v (.string (mkS s))
abbrev aI(k:IntKind)(n:Int):A:=.t (.v (.int k n))
abbrev aB(b:Bool):A:=.t (.v (.bool b))
abbrev aS(s:b6H):A:=.t (.v (.string (mkS s)))
instance(b n:Nat):Decidable (P9 b n):=by unfold P9;infer_instance
theorem dO{α:Type}{p:Prop} [Decidable p]{x:Option α}{r:α}(h:(if p then x else none)=some r):p/\x=some r:=by
 split at h
 ·exact⟨‹p›,h⟩
 ·cases h
theorem Oy{α β:Type}{x:Option α}{k:α->Option β}{r:β}(h:x.bind k=some r):∃y,x=some y/\k y=some r:=Option.bind_eq_some_iff.1 h
section
variable{α:Type}{c:α->List T}{xs ys:List α}{i:Int}{x y:α}{b:Nat}
theorem RB(h:f7 xs i=some x):0<=i/\xs[i.toNat]? =some x:=by
 unfold f7 at h;split at h
 ·rename_i h0;exact⟨h0,h⟩
 ·cases h
theorem a17(h:f7 xs i=some x):Ry (xs.map c) i i.toNat (c x):=by obtain⟨h0,C⟩:=RB h;exact⟨by omega,by rw[P2,C];rfl⟩
theorem b2Z{s:b6H}{b:UInt8}(h:f7 s i=some b):Yv (mkS s) i i.toNat b:=by obtain⟨h0,F⟩:=RB h;refine⟨by omega,?_⟩;obtain⟨C,rfl⟩:=o9.1 F;exact getElem?_pos (c:=mkS s) (i:=i.toNat) C
theorem b1K:Z5 (xs.map c++ys.map c) ((xs++ys).map c):=(I8).symm
theorem b2Y(h:P9 b (xs.length+ys.length)):P9 b ((xs.map c).length+(ys.map c).length):=by rw[F5,F5];exact h
theorem b08(h:P9 b ys.length):P9 b (ys.map c).length:=by rw[F5];exact h
theorem a5l(x:List (List T)):Z5 x x:=rfl
theorem b1U(c:α->List T)(h:f7 xs i=some x):Ry (xs.map c) i i.toNat (c x):=a17 h
theorem a6x(c:α->List T)(xs ys:List α):Z5 (xs.map c++ys.map c) ((xs++ys).map c):=b1K
theorem a9X(c:α->List T)(h:P9 b (xs.length+ys.length)):P9 b ((xs.map c).length+(ys.map c).length):=b2Y h
theorem b52(c:α->List T)(h:P9 b ys.length):P9 b (ys.map c).length:=b08 h
end
theorem NM(s:ByteArray):∀(n i:Nat) (r:b6H),n=s.size-i->ByteArray.toList.loop s i r=r.reverse++s.data.toList.drop i
 |0,i,r,h=>by unfold ByteArray.toList.loop;have:s.data.toList.length=s.size:=rfl;rw[if_neg (by omega),R3 (by omega)];simp
 |n+1,i,r,h=>by
  unfold ByteArray.toList.loop;have C:s.data.toList.length=s.size:=rfl;rw[if_pos (by omega),NM s n (i+1) _ (by omega)];have hi:i<s.data.toList.length:=(by omega);rw[<-List.getElem_cons_drop hi];have:s.get! i=s.data.toList[i]:=by show s.data[i]! =_;rw[getElem!_pos s.data i (by simpa using hi)];simp
  rw[this];simp
theorem Cc(s:b6H):(mkS s).toList=s:=by unfold ByteArray.toList;rw[NM _ _ 0 [] rfl];simp
theorem KC(a b:b6H):(a==b)=decide (a=b):=by by_cases h:a=b<;>simp[h]
theorem a8t(C:TypeId)(a b:b6H):Ej P .eql C (.string (mkS a)) (.string (mkS b)) (.bool (decide (a=b))):=by show some (Value.bool ((mkS a).toList==(mkS b).toList))=_;rw[Cc,Cc,KC]
theorem b5g(C:TypeId)(a b:b6H):Ej P .neq C (.string (mkS a)) (.string (mkS b)) (.bool (!decide (a=b))):=by show some (Value.bool (!((mkS a).toList==(mkS b).toList)))=_;rw[Cc,Cc,KC]
theorem a82(C:TypeId)(a b:b6H):Ej P .lss C (.string (mkS a)) (.string (mkS b)) (.bool (Op.bytesLess a b)):=by show some (Value.bool (Op.bytesLess (mkS a).toList (mkS b).toList))=_;rw[Cc,Cc]
abbrev yK(a b:b6H):Prop:=a.length+b.length<=9223372036854775807
theorem b3C(a b:b6H):mkS a++mkS b=mkS (a++b):=by
 apply ByteArray.ext
 apply Array.ext'
 simp
theorem a60(H:TypeId){a b:b6H}(h:yK a b):Ej P .add H (.string (mkS a)) (.string (mkS b)) (.string (mkS (a++b))):=by
 show Gj (Op.stringOp .add (mkS a) (mkS b))=_;unfold Op.stringOp;have:¬((((mkS a).size+(mkS b).size:Nat):Int)>IntKind.i64.max):=by have F:(mkS a).size=a.length:=rfl;have C:(mkS b).size=b.length:=rfl;rw[F,C];have:IntKind.i64.max=9223372036854775807:=rfl;unfold yK at h;omega
 simp only;rw[if_neg this,b3C];rfl
def b2E{σ:Type}(m:Nat)(N:Nat->σ->Prop)(S:σ->St)(Q:Exit->St->Prop):Exit->St->Prop
 |.normal,st=>∃k x',k<=m/\N k x'/\X7 st (S x')
 |e,st=>Q e st
theorem b4w{σ:Type}(N:Nat->σ->Prop)(S:σ->LS){c:Code}{Q:Exit->St->Prop}(h0:∀x,¬N 0 x)(R:∀x y,(S x).n=(S y).n)(h:∀m x,N (m+1) x->W P c (S x).st (b2E m N (λx=>(S x).st) Q))(n:Nat)(x:σ)(hx:N n x):W P (.loop c) (S x).st Q:=by
 refine b5L (σ:=Nat × σ) (λp=>N p.1 p.2) (λp=>p.1) (λp=>(S p.2).st) (n,x) hx (X7.refl _) (λp=>R _ _) ?_;rintro⟨m,x⟩ hx;cases m with
 |zero=>exact(h0 x hx).elim
 |succ m=>
  refine λC a w U O=>wp_mono (h m x hx C a w U O) ?_;rintro e Z w' ⟨F,J,H,M⟩;refine⟨F,J,?_,M⟩;cases e with
  |normal=>obtain⟨k,K,I,V,L⟩:=H;exact⟨(k,K),V,Nat.lt_succ_of_le I,L⟩
  |_=>exact H
theorem b0P{c:Code}{st F:St}{Q:Exit->St->Prop}(H:X7 st F)(h:W P c F Q):W P c st Q:=λC a w I J=>wp_mono (h C a w I (H.2 C a w J)) λe K w' ⟨st'',hn,hq,hs'⟩=>⟨st'',by rw[hn,H.1],hq,hs'⟩
def Vm(P:Program)(f:FuncId):Code:=match P.funcs[f]? with|some fn=>(match fn.body with|some c=>c|none=>.skip)|none=>.skip
end
section
open Go.RowKit
variable{P:Program}
def F1(a b n:Int):Prop:=0<=a/\a<=b/\b<=n
instance(a b n:Int):Decidable (F1 a b n):=by unfold F1;infer_instance
def B4{α:Type}(xs:List α)(a b:Int):List α:=(xs.drop a.toNat).take (b-a).toNat
theorem b0c{α β:Type}(f:α->β)(xs:List α)(a b:Int):(B4 xs a b).map f=B4 (xs.map f) a b:=by unfold B4;rw[List.map_take,List.map_drop]
def J3(k:IntKind)(low:Option Operand)(a:Int):List A:=match low with|some _=>[aI k a]|none=>[]
theorem BT(k:IntKind)(a:Int)(y:Nat)(c:BoundsCode)(w:World)(h:0<=a/\a<=y):(Instr.sliceBound (.int k a) y c).run P w=.ok a.toNat w:=by unfold Instr.sliceBound;simp[asIntOf,h]
theorem KQ{w:World}{M:Nat->Prop}{k:IntKind}{a:Int}{v:Value}(h:D4 w M (aI k a) v):v=.int k a:=D3 h
theorem yY(sl:Bool)(len F:Nat)(H C:Option Value)(ka kb:IntKind)(a b:Int)(w:World)(K:F1 a b len)(N:len<=F)(I:H=none/\a=0\/H=some (.int ka a))(hh:C=none/\b=len\/C=some (.int kb b)):(Instr.sliceBounds sl len F H C none).run P w=.ok (a.toNat,b.toNat,F) w:=by
 obtain⟨J,L,M⟩:=K;unfold Instr.sliceBounds;rcases hh with⟨rfl,rfl⟩|rfl
 ·rcases I with⟨rfl,rfl⟩|rfl
  ·simp
  ·simp[BT (P:=P) ka a len _ w ⟨J,by omega⟩]
 ·rw[Sem.run_bind];simp only[Sem.run_pure,Result.andThen_ok];rw[Sem.run_bind,BT kb b F _ w ⟨by omega,by omega⟩];simp only[Result.andThen_ok];rcases I with⟨rfl,rfl⟩|rfl
  ·simp
  ·simp[BT (P:=P) ka a b.toNat _ w ⟨J,by omega⟩]
theorem PJ{w:World}{M:Nat->Prop}{F:Operand->Value}{C:Option Operand}{k:IntKind}{a:Int}(h0:C=none->a=0)(h:∀x,C=some x->D4 w M (aI k a) (F x)):C.map F=none/\a=0\/C.map F=some (.int k a):=by
 cases C with
 |none=>exact .inl ⟨rfl,h0 rfl⟩
 |some x=>exact .inr (by rw[G6,KQ (h x rfl)])
theorem a0Q{w:World}{M:Nat->Prop}{F:Operand->Value}{C:Option Operand}{k:IntKind}{b:Int}{n:Nat}(h0:C=none->b=n)(h:∀x,C=some x->D4 w M (aI k b) (F x)):C.map F=none/\b=n\/C.map F=some (.int k b):=by
 cases C with
 |none=>exact .inl ⟨rfl,h0 rfl⟩
 |some x=>exact .inr (by rw[G6,KQ (h x rfl)])
theorem UJ{o:Oper}{t:TypeId}{x:Operand}{F C:Option Operand}(N:o.op=.slice t x F C none){w:World}{M:Nat->Prop}{I:Operand->Value}{X:A}{ka kb:IntKind}{a b:Int}(O:(X::(J3 ka F a++J3 kb C b)).length=(opL o.op).length)(h:∀i (hi:i<(X::(J3 ka F a++J3 kb C b)).length) (K:i<(opL o.op).length),D4 w M ((X::(J3 ka F a++J3 kb C b))[i]) (I ((opL o.op)[i]))):D4 w M X (I x)/\(∀y,F=some y->D4 w M (aI ka a) (I y))/\(∀y,C=some y->D4 w M (aI kb b) (I y)):=by
 have H:opL o.op=x::(F.toList++(C.toList++[])):=(by rw[N];rfl);generalize hL:opL o.op=L at O h H;subst H;refine⟨h 0 (by simp) (by simp),λy J=>?_,λy J=>?_⟩
 ·subst J;exact h 1 (by simp[J3]) (by simp)
 ·subst J;cases F with
  |none=>exact h 1 (by simp[J3]) (by simp)
  |some z=>exact h 2 (by simp[J3]) (by simp)
theorem b5u(s:b6H)(a b:Int)(h:F1 a b s.length):(mkS s).extract a.toNat b.toNat=mkS (B4 s a b):=by
 apply ByteArray.ext
 apply Array.ext'
 obtain⟨F,C,H⟩:=h;rw[ByteArray.data_extract];simp only[Array.toList_extract,B4];rw[List.extract_eq_take_drop];congr 1;omega
theorem a4W{o:Oper}{t:TypeId}{x:Operand}{F C:Option Operand}(J:o.op=.slice t x F C none)(R:P.underlying t=some .string){s:b6H}{ka kb:IntKind}{a b:Int}(K:F1 a b s.length)(U:F=none->a=0)(N:C=none->b=s.length):De P o (aS s::(J3 ka F a++J3 kb C b)) (aS (B4 s a b)):=by intro w M I _ V h;obtain⟨O,Z,L⟩:=UJ J V h;refine⟨.string (mkS (B4 s a b)),w,?_,Below.refl _ _,.t _ _ (.v _ rfl)⟩;have e1:I x=.string (mkS s):=D3 O;unfold execOp;simp only[J,e1];unfold Instr.sliceAt Instr.slice;have S:=yY (P:=P) false s.length s.length (F.map I) (C.map I) ka kb a b w K (l5 _) (PJ U Z) (a0Q N L);have H:(mkS s).size=s.length:=rfl;simp only[Sem.run_bind,run_underlying R,Result.andThen_ok,Option.map_none,H,S,Sem.run_pure,Option.isSome_none,Bool.false_eq_true,if_false,b5u s a b K]
theorem Ob{α:Type}(xs:List α)(a b:Int)(h:F1 a b xs.length):(B4 xs a b).length=(b-a).toNat/\∀i (hi:i<(B4 xs a b).length),a.toNat+i<xs.length/\∀(C:a.toNat+i<xs.length),(B4 xs a b)[i]=xs[a.toNat+i]:=by
 obtain⟨I,H,J⟩:=h;have F:(B4 xs a b).length=(b-a).toNat:=(by unfold B4;rw[List.length_take,List.length_drop];omega);refine⟨F,λi hi=>⟨by omega,λC=>?_⟩⟩;have:(B4 xs a b)[i]? =xs[a.toNat+i]? :=by unfold B4;rw[List.getElem?_take,if_pos (by omega),List.getElem?_drop]
 rw[w9 hi,w9 C]at this;exact Option.some.inj this
theorem b1M{o:Oper}{t e:TypeId}{te:TI}{x:Operand}{H F:Option Operand}{k:Nat}(ho:o.op=.slice t x H F none)(ht:P.underlying t=some (.slice e))(aa:x9 P e=some te)(hk:te.size=k){xs:List (List T)}{ka kb:IntKind}{a b:Int}(hR:F1 a b xs.length)(h1:H=none->a=0)(h2:F=none->b=xs.length):De P o (.t (.sl k xs)::(J3 ka H a++J3 kb F b)) (.t (.sl k (B4 xs a b))):=by
 intro w M V _ hl h;obtain⟨r1,r2,r3⟩:=UJ ho hl h;have ac:∀w,(sizeOf e).run P w=.ok k w:=λw=>by obtain⟨ab,d,z,hi,hu,hz,q1,_⟩:=(P5 aa).ex;rw[<-hk,q1];have:=run_sizeOf (P:=P) w hi;rw[show P.cellsOf e=ab.size by simp[Program.cellsOf,hi]]at this;exact this
 obtain⟨U,L⟩:=Ob xs a b hR;have J:=Di r1;generalize hv:V x=v at J;have go:∀(N:Option Addr) (C:Nat),v=.slice N xs.length C->xs.length<=C->(execOp V o).run P w=.ok (.value (.slice (if C=a.toNat then N else N.map (·.add (a.toNat*k))) (b.toNat-a.toNat) (C-a.toNat))) w:=λN C e hc=>by subst e;unfold execOp;simp only[ho,hv];unfold Instr.sliceAt Instr.slice;have Z:=yY (P:=P) true xs.length C (H.map V) (F.map V) ka kb a b w hR hc (PJ h1 r2) (a0Q h2 r3);simp only[Sem.run_bind,run_underlying ht,Result.andThen_ok,Option.map_none,Z,Sem.run_pure,ac]
 obtain⟨c1,c2,c3⟩:=hR;have K:b.toNat-a.toNat=(B4 xs a b).length:=(by rw[U];omega);cases J with
 |nil _ N C hcm=>have:=go N C rfl (D2 _);refine⟨_,w,this,Below.refl _ _,.t _ _ ?_⟩;have e0:B4 ([]:List (List T)) a b=[]:=(by unfold B4;simp);have ea:a.toNat=0:=(by simp at c3;omega);have eb:b.toNat=0:=(by simp at c3;omega);rw[e0,ea,eb];exact .nil _ _ _ (by omega)
 |sl _ _ blk off C c Z hM hcap hcm hkk hc hr=>
  have:=go (some ⟨blk,off,none⟩) C rfl hcap;refine⟨_,w,this,Below.refl _ _,.t _ _ ?_⟩;by_cases O:C=a.toNat
  ·rw[if_pos O];have:(B4 xs a b)=[]:=List.eq_nil_of_length_eq_zero (by rw[U];omega);rw[K,this];exact .nil _ _ _ (by omega)
  ·rw[if_neg O,K];have S:(⟨blk,off,none⟩:Addr).add (a.toNat*k)=⟨blk,off+a.toNat*k,none⟩:=(by unfold Addr.add;split<;>simp_all);rw[G6,S];refine .sl k _ blk (off+a.toNat*k) (C-a.toNat) (λi j=>c (a.toNat+i) j) Z hM (by omega) (by omega) (λi hi=>?_) (λi hi j hj=>?_) (λi hi j hj=>?_)
   ·obtain⟨I,R⟩:=L i hi;rw[R I];exact hkk _ I
   ·obtain⟨I,R⟩:=L i hi;have:=hc (a.toNat+i) I j hj;rw[show off+a.toNat*k+(i*k+j)=off+((a.toNat+i)*k+j) by rw[Nat.add_mul];omega];exact this
   ·obtain⟨I,R⟩:=L i hi;have ae:j<(xs[a.toNat+i]).length:=(by rw[<-R I];exact hj);have:=hr (a.toNat+i) I j ae;simp only[R I];exact this
end
section
open Go.RowKit
variable{P:Program}
theorem z8.seto{C:Ctx}{st:St}{L:Nat->Loc}{a:Act}{w:World}(h:z8 C st L a w)(id:Nat)(old F:Blk)(N:st.mem id=some old)(U:old.alike F)(g:Nat)(hg:(L id).blk=some g){w':World}(os:w'.os=w.os)(R:w'.tape=w.tape)(K:w'.output=w.output)(O:w'.heap.size=w.heap.size)(I:∀q,q≠g->w'.heap[q]? =w.heap[q]?)(Z:Bv (st.setm id F) L w' (Mut C st L) id F):z8 C (st.setm id F) L a w':=by
 have hM:∀b,Mut C (st.setm id F) L b->Mut C st L b:=by
  rintro b (hx|⟨i,M,hli⟩)
  ·exact .inl hx
  ·refine .inr ⟨i,?_,hli⟩;by_cases e:i=id
   ·subst e;rw[N];rfl
   ·simpa[St.setm,upd,e]using M
 have H:∀i,((st.setm id F).mem i).isSome=true->∃x,st.mem i=some x:=λi M=>by
  by_cases e:i=id
  ·exact⟨old,by rw[e];exact N⟩
  ·exact B5.1 (by simpa[St.setm,upd,e]using M)
 refine h.next rfl h.hn h.hd os R K (by rw[O];exact l5 _) (λb Z hm=>I b λe=>hm ⟨id,by rw[N];rfl,by rw[e];exact .inl hg⟩) (λi hi=>hi) (λi hi b' J=>?_) (λi M S b hl=>?_) (λi M S=>?_) (λi j b hi hj V aa _ _=>?_) (λi b' J=>?_) (λt=>.inl ⟨rfl,rfl⟩)
 ·by_cases e:i=id
  ·subst e;have:b'=F:=(by simpa[St.setm,upd]using J.symm);subst this;exact⟨old,N,U,rfl⟩
  ·exact⟨b',by simpa[St.setm,upd,e]using J,b'.alike_refl,rfl⟩
 ·obtain⟨x,hx⟩:=H i M;have:=(h.mem i x hx).1;rw[S]at this;cases this
 ·obtain⟨x,hx⟩:=H i M;have:=(h.mem i x hx).1;rw[S]at this;cases this
 ·obtain⟨x,hx⟩:=H i hi;have:=(h.mem i x hx).1;rw[V]at this;cases this
 ·by_cases e:i=id
  ·subst e;have:b'=F:=(by simpa[St.setm,upd]using J.symm);subst this;refine⟨(h.mem i old N).1,.inr ?_⟩;exact Z.ext (Ext.refl _ _) (λb _ h=>hM b h) (λi h=>h) (aO _ L) rfl (λ_ _=>rfl)
  ·have hx:st.mem i=some b':=(by simpa[St.setm,upd,e]using J);refine⟨(h.mem i b' hx).1,.inl ⟨hx,rfl,λb hl=>I b λeb=>?_⟩⟩;subst eb;exact e (h.inj i id b (by rw[hx];rfl) (by rw[N];rfl) hl (.inl hg))
theorem NX{C:Ctx}{st:St}{L:Nat->Loc}{a:Act}{w:World}(I:z8 C st L a w){x:Operand}{id:Nat}(K:st.ev x=.ob id){od:Od}(H:st.mem id=some (.obj od)):∃g o,(L id).blk=some g/\w.heap[g]? =some o/\Eh w (Mut C st L) (L id).own g od o/\a.eval x=(L id).ob od:=by
 obtain⟨g,o,N,J,M⟩:=(I.mem id _ H).2;have F:=E0 I x;rw[K]at F;generalize O:a.eval x=v at F;cases F with
 |ob _ _ h1 hu hq=>exact⟨g,o,N,J,M,hq od H⟩
theorem a2v{α:Type}{o:Oper}{t e:TypeId}{te:TI}{x:Operand}{H F:Option Operand}(ho:o.op=.slice t x H F none)(ht:P.underlying t=some (.slice e))(aw:x9 P e=some te){k:Nat}(hk:te.size=k)(c:α->List T){xs:List α}{ka kb:IntKind}{b:Int}(hR:F1 0 b xs.length)(h2:F=none->b=xs.length):Qe P o 0 (.row e k (xs.map c)) (.dead::(J3 ka H 0++J3 kb F b)) (.row e k ((B4 xs 0 b).map c)):=by
 intro st id d K N h1 V hm hu hK C a w hP ⟨L,hs⟩ hd next Q hn
 have ae:opL o.op=x::(H.toList++(F.toList++[])):=(by rw[ho];rfl);rw[ae]at h1 V;simp only[List.map_cons,List.getElem?_cons_zero,P1,List.set_cons_zero,List.cons.injEq,true_and]at h1 V;have aa:H.map a.eval=none/\(0:Int)=0\/H.map a.eval=some (.int ka 0):=by
  cases H with
  |none=>exact .inl ⟨rfl,rfl⟩
  |some y=>refine .inr ?_;have:st.ev y=aI ka 0:=(by simp[J3]at V;exact V.1);have h5:=E0 hs y;rw[this]at h5;rw[G6,D3 h5]
 have Z:F.map a.eval=none/\b=xs.length\/F.map a.eval=some (.int kb b):=by
  cases F with
  |none=>exact .inl ⟨rfl,h2 rfl⟩
  |some y=>
   refine .inr ?_;have:st.ev y=aI kb b:=(by cases H<;>(simp[J3]at V;first|exact V|exact V.2))
   have h5:=E0 hs y;rw[this]at h5;rw[G6,D3 h5]
 have am:∀w,(sizeOf e).run P w=.ok k w:=λw=>by obtain⟨al,d,z,hi,hu,hz,q1,_⟩:=(P5 aw).ex;rw[<-hk,q1];have:=run_sizeOf (P:=P) w hi;rw[show P.cellsOf e=al.size by simp[Program.cellsOf,hi]]at this;exact this
 have hr:=E0 hs x;rw[h1]at hr;generalize hv:a.eval x=v at hr;obtain⟨c1,c2,c3⟩:=hR;have S:(B4 xs 0 b).length=b.toNat:=(by unfold B4;rw[List.length_take,List.length_drop];simp;omega);have I:B4 xs 0 b=xs.take b.toNat:=(by unfold B4;simp);cases hr with
 |ref _ _ q1 hus hq=>
  have O:=hq _ _ _ hm;rw[F5]at O;obtain⟨h0,ak,ah⟩:=(hs.mem _ _ hm).2;have az:id≠d:=λe=>by rw[e,hu]at hus;cases hus
  have run:∀(ad:Option Addr) (J:Nat),v=.slice ad xs.length J->xs.length<=J->(execOp a.eval o).run P w=.ok (.value (.slice (if J=0 then ad else ad.map (·.add 0)) b.toNat J)) w:=λad J e hc=>by subst e;unfold execOp;simp only[ho,hv];unfold Instr.sliceAt Instr.slice;have hb:=yY (P:=P) true xs.length J (H.map a.eval) (F.map a.eval) ka kb 0 b w ⟨c1,c2,c3⟩ hc aa Z;simp only[Sem.run_bind,run_underlying ht,Result.andThen_ok,Option.map_none,hb,Sem.run_pure,am];simp
  rcases ah with⟨ay,ab⟩|⟨g,an,R,hw,ar,av,aq,hc⟩
  ·have ai:xs=[]:=(by simpa using ay);subst ai;have ap:b.toNat=0:=(by simp at c3;omega);have:=run none 0 (by rw[O,ab];rfl) (l5 _);rw[if_pos rfl,ap]at this;have e0:(B4 ([]:List α) 0 b)=[]:=(by unfold B4;simp);refine L7 this (hn _ _ _ (by simp[St.new,St.del]) hK ?_);rw[e0];exact dX (hs.del id) d hu e k h0 _ N (hd d N)
  ·have ac:xs.length<=(L id).cap:=(by simpa using ar);have:=run (some ⟨g,0,none⟩) (L id).cap (by rw[O];simp[Loc.slice,R]) ac;have ag:(⟨g,0,none⟩:Addr).add 0=⟨g,0,none⟩:=(by unfold Addr.add;split<;>simp_all);rw[G6,ag,ite_self]at this;have af:=hs.renew id d (.inl (hd d N)) hu (.row e k ((B4 xs 0 b).map c)) _ hm g R (w':=w) rfl rfl rfl rfl (λ_ _=>rfl) (λM hM=>⟨h0,λi hi=>?_,.inr ⟨g,an,by rw[N1];exact R,hw,by rw[N1,F5,S];omega,by rw[N1];exact av,by rw[N1];exact aq,λi hi j hj=>?_⟩⟩)
   ·refine L7 this (hn _ _ _ (by simp[St.new,St.del]) hK ⟨_,af.put _ hd (.ref d _ rfl (by simp[St.new,upd]) λe' k' au ao=>?_)⟩);have:(B4 xs 0 b).map c=au:=by have:=ao;simp only[St.new,N1,P1,Blk.row.injEq]at this;exact this.2.2
    subst this;rw[N1,F5,S];simp[Loc.slice,R]
   ·have U:i<(xs.map c).length:=(by simp[I]at hi;simp;omega);have:((B4 xs 0 b).map c)[i]=(xs.map c)[i]:=(by simp[I]);rw[this];exact ak i U
   ·have U:i<(xs.map c).length:=(by simp[I]at hi;simp;omega);have e3:((B4 xs 0 b).map c)[i]=(xs.map c)[i]:=(by simp[I]);simp only[e3];obtain⟨u,ax,aj⟩:=hc i U j (by rw[e3]at hj;exact hj);exact⟨u,ax,aj.ext (Ext.refl _ _) (λq _=>hM q)⟩
theorem b2m(C:TypeId){k:IntKind}{a b:Int}(h:b≠0):Ej P .quo C (.int k a) (.int k b) (.int k (k.wrap (Int.tdiv a b))):=by show Gj (binOp .quo C (.int k a) (.int k b))=_;simp[binOp,Op.intDiv,h];rfl
theorem a8D(C:TypeId){k:IntKind}{a b:Int}(h:b≠0):Ej P .rem C (.int k a) (.int k b) (.int k (Int.tmod a b)):=by show Gj (binOp .rem C (.int k a) (.int k b))=_;simp[binOp,Op.intDiv,h];rfl
theorem a3J(C:TypeId){k F:IntKind}{a b:Int}(h:0<=b):Ej P .shl C (.int k a) (.int F b) (.int k (k.wrap (a*2^(min b.toNat k.bits)))):=by show Gj (binOp .shl C (.int k a) (.int F b))=_;have:¬b<0:=(by omega);simp[binOp,Op.shift,this];rfl
theorem b2b(C:TypeId){k F:IntKind}{a b:Int}(h:0<=b):Ej P .shr C (.int k a) (.int F b) (.int k (a.fdiv (2^(min b.toNat k.bits)))):=by show Gj (binOp .shr C (.int k a) (.int F b))=_;have:¬b<0:=(by omega);simp[binOp,Op.shift,this];rfl
def Kf(xs:List Int):Prop:=∀x∈xs,0<=x/\x<256
instance(xs:List Int):Decidable (Kf xs):=by unfold Kf;infer_instance
def A1(xs:List Int):b6H:=xs.map λx=>UInt8.ofNat x.toNat
theorem a3I{F C e:TypeId}{x:Operand}{o:Oper}(Z:o.op=.convert F C x)(N:P.underlying F=some (.slice e))(O:P.underlying e=some (.int .u8))(hd:P.underlying C=some .string)(c:Int->List T)(K:c=λn=>[tI .u8 n]){xs:List Int}(S:Kf xs):De P o [.t (.sl 1 (xs.map c))] (aS (A1 xs)):=by
 intro w M ρ _ hl hr;have h0:=hr 0 (by simp) (by rw[<-hl];simp);have h1:(opL o.op)[0]'(by rw[<-hl];simp)=x:=(by simp[Z,opL]);rw[h1]at h0;simp only[K5]at h0;have e0:xs.map c=(A1 xs).map λb:UInt8=>[T.v (.int .u8 (b.toNat:Int))]:=by
  unfold A1;rw[List.map_map,K];refine List.map_congr_left λn hn=>?_;have:=S n hn;simp only[Function.comp];have e1:((UInt8.ofNat n.toNat).toNat:Int)=n:=by rw[UInt8.toNat_ofNat'];omega
  rw[e1]
 rw[e0]at h0;generalize A1 xs=l at h0;refine⟨.string ⟨l.toArray⟩,w,?_,Below.refl _ _,.t _ _ (.v _ rfl)⟩;unfold execOp;simp only[Z];generalize ρ x=v at h0;have R:=Di h0;have run:(convert F C v).run P w=.ok (.string ⟨l.toArray⟩) w:=by
  generalize U:(l.map λb:UInt8=>[T.v (.int .u8 (b.toNat:Int))])=ys at R;cases R with
  |nil _ a cap hcm=>
   have:l=[]:=(by simpa using U);subst this;cases a with
   |none=>exact Go.Lib.run_convert_nil_bytes w F C e cap N O hd
   |some p=>exact run_convert_bytes_back (P:=P) w F C e p cap [] N O hd (λj J=>by simp at J)
  |sl _ _ b off cap c S hM hcap hcm hk hc hrr=>subst U;have H:(l.map λb:UInt8=>[T.v (.int .u8 (b.toNat:Int))]).length=l.length:=(by simp);rw[H];refine run_convert_bytes_back (P:=P) w F C e _ cap l N O hd (λj J=>?_);have I:(⟨b,off,none⟩:Addr).add j=⟨b,off+j,none⟩:=(by unfold Addr.add;split<;>simp_all);rw[I];have h3:=hc j (by simpa using J) 0 (by omega);have V:=hrr j (by simpa using J) 0 (by simp);simp only[List.getElem_map,K5]at V;have h5:=D3 (st:=⟨0,λ_=>.dead,λ_=>none,λ_=>false⟩) (L:=λ_=>nol) (.t _ _ V);rw[Nat.mul_one,Nat.add_zero,h5]at h3;exact h3
 simp only[Sem.run_bind,run,Result.andThen_ok,Sem.run_pure]
end
section
open Go.RowKit
variable{P:Program}
section
variable{α:Type}{o:Oper}{t e:TypeId}{te:TI}{x y z:Operand}{k:Nat}{xs:List α}{ka kb:IntKind}{b:Int}
end
section
variable{α:Type}{o:Oper}{t e:TypeId}{te:TI}{x y z:Operand}{k:Nat}{xs:List α}{ka kb:IntKind}{a b:Int}{s:b6H}
end
def eqV:Value->Value->Bool
 |.int _ a,.int _ b=>decide (a=b)
 |.string s,.string u=>decide (s.data.toList=u.data.toList)
 |.bool a,.bool b=>a==b
 |_,_=>false
def eqL:List Value->List Value->Bool
 | [x],[y]=>eqV x y
 |x::l,y::r=>eqV x y&&eqL l r
 |_,_=>true
def DP(P:Program)(t:TypeId):Value->Value->Bool
 |.int k _,.int k' _=>(match P.underlying t with|some (.int _)=>decide (k=k')|_=>false)
 |.string _,.string _=>(match P.underlying t with|some .string=>true|_=>false)
 |.bool _,.bool _=>(match P.underlying t with|some .bool=>true|_=>false)
 |_,_=>false
def Io(P:Program):Nat->List Field->List Value->List Value->Bool
 |_,[],[],[]=>true
 |i,f::fs,x::l,y::r=>(match decide (f.name≠ "_"),Nat.beq f.offset i,x9 P f.type with
  |true,true,some ti=>(match Nat.beq ti.size 1,ti.agg,DP P f.type x y with
   |true,false,true=>Io P (i+1) fs l r
   |_,_,_=>false)
  |_,_,_=>false)
 |_,_,_,_=>false
def iM(P:Program)(t:TypeId)(xs ys:List Value):Bool:=
 match P.underlying t with
 |some (.struct fs)=>(match P.stoodInHeld t,P.eqGuardType P.depth t,xs with
  |false,false,_::_=>Io P 0 fs.toList xs ys
  |_,_,_=>false)
 |_=>false
theorem zO(a b:b6H):(a==b)=decide (a=b):=by
 by_cases h:a=b
 ·subst h;simp
 ·simp[h]
theorem a1s{t:TypeId}{x y:Value}(h:DP P t x y=true)(d:Nat)(w:World):(Op.equalIn (d+1) t x y).run P w=.ok (eqV x y) w:=by
 unfold DP at h;split at h
 ·split at h
  ·rename_i a I b _ H C;have:_=_:=F3 h;subst this;rw[run_equalIn_int w d t _ _ a b C];rfl
  ·cases h
 ·split at h
  ·rename_i s u _ C;rw[run_equalIn_string w d t s u C];congr 1;show(s.toList==u.toList)=decide (s.data.toList=u.data.toList);have F:∀b:ByteArray,b.toList=b.data.toList:=λb=>Cc b.data.toList;rw[F,F,zO]
  ·cases h
 ·split at h
  ·rename_i a b _ C;exact run_equalIn_bool' w d t a b C
  ·cases h
 ·cases h
theorem a0d{t:TypeId}{C:TI}(F:x9 P t=some C)(L:C.agg=false)(cs:Array Value)(i:Nat)(v:Value)(K:cs[i]? =some v)(w:World):(part t cs i).run P w=.ok v w:=by obtain⟨H,d,z,hi,J,U,R,q2,I,V,S,O,N,Z,M⟩:=(P5 F).ex;unfold part;rw[Sem.run_bind,DQ J w,Result.andThen_ok,<-I,L];simp[K]
theorem TJ(d:Nat)(xs ys:List Value)(w:World):∀(fs:List Field) (l r:List Value) (i:Nat),xs.drop i=l->ys.drop i=r->Io P i fs l r=true->(Op.eqFields (d+1) ⟨xs⟩ ⟨ys⟩ fs).run P w=.ok (eqL l r) w
 | [],l,r,i,hl,hr,h=>by
  cases l with
  |cons=>cases r<;>simp[Io]at h
  |nil=>cases r with
   |cons=>simp[Io]at h
   |nil=>simp[Op.eqFields,eqL]
 |f::fs,l,r,i,hl,hr,h=>by
  cases l with
  |nil=>cases r<;>simp[Io]at h
  |cons x l=>cases r with
   |nil=>simp[Io]at h
   |cons y r=>
    simp only[Io]at h;split at h
    ·rename_i ti hn ho ht;split at h
     ·rename_i hs ha hk;have hoff:f.offset=i:=F2 ho;have hx:(⟨xs⟩:Array Value)[f.offset]? =some x:=by rw[hoff];have:=congrArg (·[0]?) hl;simpa using this
      have hy:(⟨ys⟩:Array Value)[f.offset]? =some y:=by rw[hoff];have:=congrArg (·[0]?) hr;simpa using this
      have hl':xs.drop (i+1)=l:=(by rw[←List.drop_drop,hl];rfl);have hr':ys.drop (i+1)=r:=(by rw[←List.drop_drop,hr];rfl);have ih:=TJ d xs ys w fs l r (i+1) hl' hr' h;have hn':f.name≠ "_" :=F3 hn;simp only[Op.eqFields,if_pos hn',Sem.run_bind,a0d ht ha _ _ _ hx,a0d ht ha _ _ _ hy,Result.andThen_ok,a1s hk];have key:eqL (x::l) (y::r)=(eqV x y&&eqL l r):=by
       cases l with
       |nil=>cases r with
        |nil=>simp[eqL]
        |cons=>cases fs<;>simp[Io]at h
       |cons=>simp[eqL]
      rw[key];cases eqV x y with
      |false=>simp
      |true=>simpa using ih
     ·cases h
    ·cases h
theorem QI{w:World}{M:Nat->Prop}{xs:List Value}{v:Value}(h:D4 w M (.agg (xs.map A.v)) v):v=.agg ⟨xs⟩:=by
 cases h with
 |agg _ vs hs h1 hr=>congr 1;refine Array.ext (by simpa using hs) λi F C=>?_;have:=hr i (by simpa using C);simp only[List.getElem_map]at this;rw[D3 this];simp
theorem b2W{t:TypeId}{xs ys:List Value}(h:iM P t xs ys=true)(w:World):(Op.equalIn 10000 t (.agg ⟨xs⟩) (.agg ⟨ys⟩)).run P w=.ok (eqL xs ys) w/\P.eqGuardType P.depth t=false:=by
 unfold iM at h;split at h
 ·rename_i I H;split at h
  ·rename_i x l C J;have F:P.fieldsOf t=I:=(by simp[Program.fieldsOf,H]);refine⟨?_,J⟩;rw[run_equalIn_struct w 9999 t _ _ (by rw[F];exact H) C,F];exact TJ 9998 _ _ w _ _ _ 0 rfl rfl h
  ·cases h
 ·cases h
theorem a96{o:Oper}{t:TypeId}{x y:Operand}{hh:Option Operand}{ne:Bool}{xs ys:List Value}{e:Bool}(C:∃q,o.op=.binOp (cond ne .neq .eql) t x y q)(h:iM P t xs ys=true)(S:eqL xs ys=e):De P o [.agg (xs.map A.v),.agg (ys.map A.v)] (aB (cond ne (!e) e)):=by
 intro w M K _ U L;obtain⟨q,C⟩:=C;have h0:=L 0 (by simp) (by rw[C];simp[opL]);have I:=L 1 (by simp) (by rw[C];simp[opL]);have O:(opL o.op)[0]'(by rw[C];simp[opL])=x:=(by simp[C,opL]);have R:(opL o.op)[1]'(by rw[C];simp[opL])=y:=(by simp[C,opL]);rw[O]at h0;rw[R]at I;have N:K x=.agg ⟨xs⟩:=QI h0;have J:K y=.agg ⟨ys⟩:=QI I;obtain⟨F,H⟩:=b2W h w;subst S;cases ne with
 |false=>refine⟨.bool (eqL xs ys),w,?_,Below.refl _ _,.t _ _ (.v _ rfl)⟩;unfold execOp;simp only[C,N,J,f9,Sem.run_bind,run_eqGuard_agg w _ t x y _ _ H,Result.andThen_ok,run_eql_struct,F,Sem.run_pure]
 |true=>refine⟨.bool (!eqL xs ys),w,?_,Below.refl _ _,.t _ _ (.v _ rfl)⟩;unfold execOp;simp only[C,N,J,l6,Sem.run_bind,run_eqGuard_agg w _ t x y _ _ H,Result.andThen_ok,run_neq_struct,F,Sem.run_pure]
theorem a0A{o:Oper}{c:Call}{b:Builtin}(H:o.op=.call c)(I:c.callee=.builtin b){x y:Operand}(F:c.args= #[x,y])(C:Operand->Value)(w:World):∃cs,(execOp C o).run P w=(builtin b c.argTypes o.type cs #[C x,C y]).run P w:=by refine⟨c.args.map (λ|.const _=>true|_=>false),?_⟩;unfold execOp;simp only[H,resolve,I,Sem.run_bind,Sem.run_pure,Result.andThen_ok,invoke];rw[F,show(#[x,y]:Array Operand).map C= #[C x,C y] by simp];have e:∀f g:Operand->Bool,(∀z,f z=g z)->f=g:=λf g h=>funext h;refine congrArg (λq=>(builtin b c.argTypes o.type (Array.map q #[x,y]) #[C x,C y]).run P w) (e _ _ λz=>?_);cases z<;>rfl
theorem UL{o:Oper}{c:Call}{b:Builtin}(K:o.op=.call c)(L:c.callee=.builtin b){x y:Operand}(C:c.args= #[x,y]){w:World}{M:Nat->Prop}{F:Operand->Value}{p q:A}(N: [p,q].length=(opL o.op).length)(I:∀i (hi:i< [p,q].length) (J:i<(opL o.op).length),D4 w M ([p,q][i]) (F ((opL o.op)[i]))):D4 w M p (F x)/\D4 w M q (F y):=by have hL:opL o.op=[x,y]:=(by rw[K];simp[opL,L,C]);have h0:=I 0 (by simp) (by rw[hL];simp);have H:=I 1 (by simp) (by rw[hL];simp);simp only[hL]at h0 H;exact⟨h0,H⟩
theorem b37{o:Oper}{k:IntKind}{a b:Int}{c:Call}(F:o.op=.call c)(H:c.callee=.builtin .min){x y:Operand}(C:c.args= #[x,y]):De P o [aI k a,aI k b] (aI k (if b<a then b else a)):=by intro w M J _ K L;obtain⟨h0,I⟩:=UL F H C K L;obtain⟨cs,e⟩:=a0A (P:=P) F H C J w;refine⟨.int k (if b<a then b else a),w,?_,Below.refl _ _,.t _ _ (.v _ rfl)⟩;rw[e,D3 h0,D3 I];simp[builtin,Builtin.min_,Builtin.min2]
theorem a2d{o:Oper}{k:IntKind}{a b:Int}{c:Call}(F:o.op=.call c)(H:c.callee=.builtin .max){x y:Operand}(C:c.args= #[x,y]):De P o [aI k a,aI k b] (aI k (if a<b then b else a)):=by intro w M J _ K L;obtain⟨h0,I⟩:=UL F H C K L;obtain⟨cs,e⟩:=a0A (P:=P) F H C J w;refine⟨.int k (if a<b then b else a),w,?_,Below.refl _ _,.t _ _ (.v _ rfl)⟩;rw[e,D3 h0,D3 I];simp[builtin,Builtin.max_,Builtin.max2]
theorem a4y(C:TypeId)(a b:b6H):Ej P .leq C (.string (mkS a)) (.string (mkS b)) (.bool (Op.bytesLess a b||decide (a=b))):=by show some (Value.bool (Op.bytesLess (mkS a).toList (mkS b).toList||(mkS a).toList==(mkS b).toList))=_;rw[Cc,Cc,zO]
theorem a85(C:TypeId)(a b:b6H):Ej P .gtr C (.string (mkS a)) (.string (mkS b)) (.bool (!(Op.bytesLess a b||decide (a=b)))):=by show some (Value.bool !(Op.bytesLess (mkS a).toList (mkS b).toList||(mkS a).toList==(mkS b).toList))=_;rw[Cc,Cc,zO]
theorem a3g(C:TypeId)(a b:b6H):Ej P .geq C (.string (mkS a)) (.string (mkS b)) (.bool (!(Op.bytesLess a b))):=by show some (Value.bool !(Op.bytesLess (mkS a).toList (mkS b).toList))=_;rw[Cc,Cc]
theorem b3M{o:Oper}{xs:List A}{e:TypeId}{k:Nat}{ys:List (List T)}(h:Jn P o xs e k ys):De P o xs (.t (.sl k ys)):=by
 intro w M ρ hM hl hr;obtain⟨h0,h⟩:=h;obtain⟨C,Z,w1,hh,os,U,F,aa,K,ab,V,hc,R⟩:=h w M ρ hl hr;have I:w1.heap.size=w.heap.size:=(by rw[hh]);have H:∀b,b<w.heap.size->(w1.alloc (.cells C e)).heap[b]? =w.heap[b]? :=λb hb=>by rw[Below.heap_alloc w1 _ _ (by omega),hh]
 have O:(w1.alloc (.cells C e)).heap[w.heap.size]? =some (.cells C e (0,0)):=(by rw[<-I];exact heap_alloc_new w1 _);refine⟨_,_,R,⟨os,U,F,by simp;omega,H⟩,.t _ _ ?_⟩;cases ys with
 |nil=>exact .nil _ _ _ K
 |cons y ys=>
  have N:∀i j,∃c,∀(hi:i<(y::ys).length) (J:j<((y::ys)[i]).length),C[i*k+j]? =some c/\RepT w M ((y::ys)[i][j]) c:=λi j=>by
   by_cases hi:i<(y::ys).length
   ·by_cases J:j<((y::ys)[i]).length
    ·obtain⟨c,h1,h2⟩:=hc i _ (w9 hi) j _ (w9 J);exact⟨c,λ_ _=>⟨h1,h2⟩⟩
    ·exact⟨undef,λ_ h=>absurd h J⟩
   ·exact⟨undef,λh=>absurd h hi⟩
  have S:=λi j=>Classical.choose_spec (N i j);have L:∀i (hi:i<(y::ys).length),((y::ys)[i]).length=k:=λi hi=>V i _ (w9 hi);refine .sl k (y::ys) w.heap.size 0 Z (λi j=>Classical.choose (N i j)) (by simp;omega) (λhm=>Nat.lt_irrefl _ (hM _ hm)) aa K L (λi hi j J=>?_) (λi hi j J=>?_)
  ·rw[Nat.zero_add,cell_of_row _ _ _ _ _ _ O];exact(S i j hi (by rw[L i hi];exact J)).1
  ·exact((S i j hi J).2).ext ⟨by simp;omega,λk V _=>H k V⟩ (λ_ _ h=>h)
def Lu:Nat->List (Nat × Operand)->List A->List (Nat × A)
 |_,[],_=>[]
 |_,_,[]=>[]
 |n,p::l,a::r=>(p.1,a)::Lu n l r
theorem a8M{o:Oper}{t:TypeId}{len:Nat}{C:Array (Nat × Operand)}(ho:o.op=.buildSlice t len C){ti te:TI}{e:TypeId}(ht:x9 P t=some ti)(he:ti.elem=some e)(al:x9 P e=some te)(h0:Nat.blt 0 te.size=true)(F:Nat.beq C.size len=true)(H:Nat.ble (len*te.size) 16777216=true){k:Nat}(hk:te.size=k){U:List A}{xs:List (List T)}(K:U.length=C.toList.length)(N:Dn k 0 (Lu 0 C.toList U)=some xs):Jn P o U e k xs:=by
 subst hk;have h0:0<te.size:=(by simpa using h0);have F:C.size=len:=(by simpa using F);have H:len*te.size<=16777216:=(by simpa using H);refine⟨h0,λw M S hl hr=>?_⟩;obtain⟨i,td,z,hi,ab,hz,h1,h2,h3,h4,h5,h6,h7,h8,h9⟩:=(P5 ht).ex;obtain⟨ie,ap,ze,aa,aq,aj,g1,g2,g3,g4,g5,g6,g7,g8,g9⟩:=(P5 al).ex;have:=h6 e he;subst this;have hL:opL o.op=C.toList.map (·.2):=by rw[ho];rfl
 let I:List (Nat × A × Value):=(C.toList.zip U).map λp=>(p.1.1,p.2,S p.1.2)
 have ad:I.map (λp=>(p.1,p.2.1))=Lu 0 C.toList U:=by
  have:∀(l:List (Nat × Operand)) (r:List A),((l.zip r).map λp=>(p.1.1,p.2,S p.1.2)).map (λp=>(p.1,p.2.1))=Lu 0 l r:=by
   intro l
   induction l with
   |nil=>intro r;rfl
   |cons p l ih=>intro r;cases r with
    |nil=>rfl
    |cons a r=>simp only[List.zip_cons_cons,List.map_cons,Lu,ih]
  exact this _ _
 have R:I.map (λp=>(p.1,p.2.2))=C.toList.map λp=>(p.1,S p.2):=by
  have:∀(l:List (Nat × Operand)) (r:List A),r.length=l.length->((l.zip r).map λp=>(p.1.1,p.2,S p.1.2)).map (λp=>(p.1,p.2.2))=l.map λp=>(p.1,S p.2):=by
   intro l
   induction l with
   |nil=>intro r _;rfl
   |cons p l ih=>intro r hr;cases r with
    |nil=>simp at hr
    |cons a r=>simp only[List.zip_cons_cons,List.map_cons,ih r (by simpa using hr)]
  exact this _ _ K
 obtain⟨Z,ae,ah,ak,_,af⟩:=DS (st:=⟨0,λ_=>.dead,λ_=>none,λ_=>false⟩) (L:=λ_=>nol) (w:=w) (M:=M) te.size h0 I 0 len xs ((Array.range (len*te.size)).map (ze.cells[· %ze.cells.size]!)) (λp hp=>by
  obtain⟨q,hq,rfl⟩:=List.mem_map.1 hp;obtain⟨n,hn,rfl⟩:=List.getElem_of_mem hq;have V:n<C.toList.length:=(by simp at hn;simp;omega);have ao:n<U.length:=(by rw[K];exact V);have:=hr n ao (by rw[hL];simpa using V);simp only[hL,List.getElem_map]at this;simp only[List.getElem_zip];exact this) (by rw[ad];exact N) (by simp[I,K,F]) (by simp)
 have ai:xs.length=len:=(by rw[ak];simp[I,K,F]);have ac:(Instr.buildSlice t len (C.map λ(i,x)=>(i,S x))).run P w=.ok (.slice (some ⟨w.heap.size,0,none⟩) xs.length len) (w.alloc (.cells Z e)):=by
  rw[ai];have J:Instr.fill (λi=>some (i*ie.size,ie.size)) ((Array.range (len*ie.size)).map (ze.cells[· %ze.cells.size]!)) (C.map λ(i,x)=>(i,S x)).toList=some Z:=by rw[<-g1,Array.toList_map];rw[R]at ae;exact ae
  by_cases O:len*ie.size=0
  ·have ag:len=0:=(by rcases Nat.mul_eq_zero.1 O with h|h<;>omega);subst ag;have an:C= #[]:=Array.eq_empty_of_size_eq_zero F;subst an;have e0:∀(f:Nat->Value),(Array.range 0).map f= #[]:=λf=>Array.eq_empty_of_size_eq_zero (by simp);have am:Z= #[]:=by have:=J.symm;simp only[Nat.zero_mul,e0]at this;simpa[Instr.fill]using this
   subst am;simp[Instr.buildSlice,run_underlying ab,sizeOf,typeInfo,aa,Instr.fill,newRow,e0]
   try exact congrArg (λc=>w.alloc (.cells c e)) (Array.eq_empty_of_size_eq_zero (by simp))
  ·exact run_buildSlice w t e len _ Z ie ze ab aa aj (by rw[<-g1];omega) O J
 refine⟨Z,len,w,rfl,rfl,rfl,rfl,by omega,by unfold maxLen;have:=Nat.le_mul_of_pos_right len h0;omega,by rw[ah];simp,λp x hx=>(af p x hx).1,λp x hx j tt ht=>?_,?_⟩
 ·have:=(af p x hx).2 j tt ht
  rwa [Nat.zero_add]at this
 ·unfold execOp;simp only[ho];rw[Sem.run_bind,ac];rfl
end
section
open Go.RowKit
variable{P:Program}
def Li(bytes:Nat)(n:Int):Prop:=0<=n/\bytes*n<=281474976710656/\n<=maxLen
instance(b:Nat)(n:Int):Decidable (Li b n):=by unfold Li;infer_instance
def nD:Value->T->Bool
 |.int k n,.v (.int k' n')=>decide (k=k')&&decide (n=n')
 |.bool a,.v (.bool b)=>a==b
 |.string s,.v (.string u)=>(match s.data.toList,u.data.toList with| [],[]=>true|_,_=>false)
 |.pointer none,.v (.pointer none)=>true
 |.slice none 0 0,.sl _ []=>true
 |_,_=>false
def Ml:List Value->List T->Bool
 | [],[]=>true
 |v::l,t::r=>nD v t&&Ml l r
 |_,_=>false
theorem a1N{w:World}{M:Nat->Prop}{v:Value}{t:T}(h:nD v t=true):RepT w M t v:=by
 unfold nD at h;split at h
 ·simp only[x7,decide_eq_true_eq]at h;obtain⟨rfl,rfl⟩:=h;exact .v _ rfl
 ·rename_i a b;have:a=b:=(by simpa using h);subst this;exact .v _ rfl
 ·rename_i s u;split at h
  ·rename_i F C;have H:s=u:=by obtain⟨⟨a⟩⟩:=s;obtain⟨⟨b⟩⟩:=u;simp only at F C;rw[F,C]
   subst H;exact .v _ rfl
  ·cases h
 ·exact .v _ rfl
 ·exact .nil _ _ _ (D2 _)
 ·cases h
theorem YW:∀{l:List Value} {r:List T},Ml l r=true->l.length=r.length/\∀(j:Nat) (t:T),r[j]? =some t->∃v,l[j]? =some v/\nD v t=true
 | [],[],_=>⟨rfl,λj t h=>by simp at h⟩
 |v::l,t::r,h=>by
  simp only[Ml,x7]at h;obtain⟨H,F⟩:=YW h.2;refine⟨by simp[H],λj u C=>?_⟩;cases j with
  |zero=>simp at C;subst C;exact⟨v,rfl,h.1⟩
  |succ j=>exact F j u (by simpa using C)
 | [],_::_,h=>by simp[Ml]at h
 |_::_,[],h=>by simp[Ml]at h
theorem b5v{α:Type}{o:Oper}{t e:TypeId}{te:TI}{x y:Operand}(ho:o.op=.makeSlice t x y)(ht:P.underlying t=some (.slice e))(S:x9 P e=some te){k b:Nat}(hk:te.size=k)(h0:Nat.blt 0 k=true)(hb:te.bytes=b)(c:α->List T)(z:α)(hz:Ml te.zero (c z)=true){N Z:IntKind}{n:Int}(h:Li b n):Jn P o [aI N n,aI Z n] e k ((List.replicate n.toNat z).map c):=by
 subst hk;subst hb;have h0:0<te.size:=(by simpa using h0);obtain⟨n0,n1,n2⟩:=h;refine⟨h0,λw M ρ hl hr=>?_⟩;obtain⟨ie,ab,I,aa,ac,R,g1,g2,g3,g4,g5,g6,g7,g8,g9⟩:=(P5 S).ex;have hL:opL o.op=[x,y]:=(by rw[ho];rfl);have r0:=hr 0 (by simp) (by rw[hL];simp);have r1:=hr 1 (by simp) (by rw[hL];simp);simp only[hL]at r0 r1;have v0:ρ x=.int N n:=D3 r0;have v1:ρ y=.int Z n:=D3 r1;obtain⟨zl,zg⟩:=YW hz;have J:I.cells.size=te.size:=(by rw[g9,g1]);have K:(c z).length=te.size:=(by rw[<-zl,g4];simpa using J);have C:=run_make (P:=P) w t e ie I ht aa R N Z n n n0 (R4 _) (by rw[<-g2];exact n1) (by unfold maxLen at n2;omega);rw[<-g1]at C;refine⟨madeCells I.cells (n.toNat*te.size),n.toNat,w,rfl,rfl,rfl,rfl,by simp,by omega,size_madeCells _ _,λp u H=>?_,λp u H j tt F=>?_,?_⟩
 ·simp only[List.map_replicate]at H;obtain⟨V,rfl⟩:=o9.1 H;simpa using K
 ·simp only[List.map_replicate]at H;obtain⟨V,rfl⟩:=o9.1 H;simp only[List.getElem_replicate]at F;simp only[List.length_replicate]at V;obtain⟨v,hv,U⟩:=zg j tt F;refine⟨v,?_,a1N U⟩;have hj:j<te.size:=(by rw[<-K];exact(o9.1 F).1);have O:p*te.size+j<n.toNat*te.size:=by have:=Nat.mul_le_mul_right te.size V;rw[Nat.succ_eq_add_one,Nat.add_mul]at this;omega
  rw[g4]at hv;unfold madeCells;rw[Array.getElem?_map,Array.getElem?_range,if_pos O];simp only[G6,J];rw[Nat.add_comm,Nat.add_mul_mod_self_right,Nat.mod_eq_of_lt hj];have L:j<I.cells.size:=(by omega);rw[getElem!_pos I.cells j L];simpa[L]using hv
 ·unfold execOp;simp only[ho,v0,v1];rw[Sem.run_bind,C];simp
end
section
open Go.RowKit
theorem wrap64{n:Int}(h0: -9223372036854775808<=n)(C:n<=9223372036854775807):w64 n=n:=by show IntKind.wrap .i64 n=n;rw[IntKind.wrap_i64];omega
theorem Rf{α:Type}{xs:List α}{i:Int}(h0:0<=i)(h:i<xs.length):f7 xs i=some (xs[i.toNat]'(by omega)):=by unfold f7;rw[if_pos h0,w9]
theorem p9{α:Type}{xs:List α}{i:Nat}(h:i<xs.length):f7 xs (i:Int)=some (xs[i]):=by rw[Rf (by omega) (by omega)];simp
end
section
open Go.RowKit
variable{P:Program}
def ZF(s:LS):List Nat->List (Nat × A)
 | []=>[]
 |t::l=>(t,lkE s.es t)::ZF s l
def FD(s:LS):List (Nat × Option Blk)->List (Nat × Option Blk)
 | []=>[]
 |(i,some b)::l=>(i,some b)::FD s l
 |(i,none)::l=>(i,A6 s.ms i)::FD s l
def LS.e(s:LS)(nw:List (Nat × A))(kp:List Nat)(mm:List (Nat × Option Blk)):LS:=⟨s.n,nw++ZF s kp,FD s mm⟩
def c0(G:List Nat):CV:=⟨G,[],[],[],[],[],[]⟩
def wV(ks:List Nat):List (Nat × A)->List (Nat × A)
 | []=>[]
 |(t,a)::l=>match D9 ks t with|true=>wV ks l|false=>(t,a)::wV ks l
def bS(ks:List Nat):List (Nat × Option Blk)->List (Nat × Option Blk)
 | []=>[]
 |(i,b)::l=>match D9 ks i with|true=>bS ks l|false=>(i,b)::bS ks l
def MV:Nat × Option Blk->Bool
 |(_,some (.box _ _))=>true
 |_=>false
def zX:List (Nat × Option Blk)->List (Nat × Option Blk)
 | []=>[]
 |p::l=>match MV p with|true=>p::zX l|false=>zX l
def xF:List (Nat × Option Blk)->List (Nat × Option Blk)
 | []=>[]
 |p::l=>match MV p with|true=>xF l|false=>p::xF l
def LS.d(s:LS)(nw:List (Nat × A))(dr:List Nat)(nb:List (Nat × Blk))(dm:List Nat):LS:=
 ⟨s.n,nw++wV (nw.map (·.1)++dr) s.es,zX (bS (nb.map (·.1)++dm) s.ms++W5 nb)++xF (bS (nb.map (·.1)++dm) s.ms++W5 nb)⟩
section
variable{α:Type}{p:Prop} [Decidable p]{b:Bool}{X Y:Option α}{r:α}{G:Prop}
variable{st:St}{c:Operand}{x y:Code}{Q:Exit->St->Prop}
end
theorem a14{c:Code}{s:LS}{Q:Exit->St->Prop}(ids:List Nat)(h:W P c (s.frzs ids).st Q):W P c s.st Q:=λC a w F ⟨L,hs⟩=>by rw[EO ids s]at h;refine wp_mono (h C a w F ⟨L,hs.frzs ids⟩) λe H w' ⟨st',hn,hq,hs'⟩=>⟨st',by rw[hn,KG],hq,hs'⟩
def rvF(P:Program)(f:FuncId):List ResultVar:=match P.funcs[f]? with|some fn=>fn.results.toList|none=>[]
def ntF(P:Program)(f:FuncId):Nat:=match P.funcs[f]? with|some fn=>fn.ntmps|none=>0
def Nz(P:Program)(f:FuncId)(n:Nat):Bool:=match P.funcs[f]? with|some fn=>(match fn.body with|some _=>Lg P f&&Nat.ble n fn.ntmps|none=>false)|none=>false
theorem b0p{α:Type}{x y:α}(h:some x=some y):x=y:=Option.some.inj h
section
variable{α:Type}{b:Nat}{xs ys z:List α}{i:Int}{x y:α}
def B9(b:Nat)(xs ys:List α):Option (List α):=if P9 b (xs.length+ys.length)then some (xs++ys)else none
theorem rF(h:B9 b xs ys=some z):P9 b (xs.length+ys.length)/\xs++ys=z:=by
 unfold B9 at h;split at h
 ·rename_i C;exact⟨C,b0p h⟩
 ·cases h
theorem b1F(c:α->List T)(h:B9 b xs ys=some z):P9 b ((xs.map c).length+(ys.map c).length):=a9X c (rF h).1
theorem b2q(c:α->List T)(h:B9 b xs ys=some z):Z5 (xs.map c++ys.map c) (z.map c):=(rF h).2▸a6x c xs ys
theorem a9H(c:α->List T)(h:B9 b [] ys=some z):P9 b (ys.map c).length:=by have C:=(rF h).1;rw[K8,Nat.zero_add]at C;exact b52 c C
theorem a3x(c:α->List T)(h:B9 b [] ys=some z):Z5 (ys.map c) (z.map c):=(rF h).2▸a5l _
end
end
section
open Go.RowKit
set_option maxRecDepth 100000
set_option maxHeartbeats 4000000
def aL(n:Int):List T:=[tI .i64 n]
def Sy(n:Int):List T:=[tI .u8 n]
def Nd(x:b6H):List T:=[tS x]
structure d7 where
 Ks:Int
 Ls:Int
 Id:Int
 Cs:Int
 Ns:Int
 Ds:(b6H)
deriving DecidableEq,Inhabited
def Nw(x:d7):List T:=[tI .u8 x.Ks,tI .i64 x.Ls,tI .i64 x.Id,tI .i64 x.Cs,tI .i64 x.Ns,tS x.Ds]
structure l8 where
 Ts:Int
 Es:Int
 Qs:Int
deriving DecidableEq,Inhabited
def Mp(x:l8):List T:=[tI .i64 x.Ts,tI .i64 x.Es,tI .i64 x.Qs]
structure v7 where
 Ks:Int
 Of:Int
deriving DecidableEq,Inhabited
def Ly(x:v7):List T:=[tI .u8 x.Ks,tI .i64 x.Of]
structure Q3 where
 If:(b6H)
 Vs:Int
 Ws:Int
deriving DecidableEq,Inhabited
def Sb(x:Q3):List T:=[tS x.If,tI .i64 x.Vs,tI .i64 x.Ws]
structure U5 where
 If:(b6H)
 Ts:Int
deriving DecidableEq,Inhabited
def Ox(x:U5):List T:=[tS x.If,tI .i64 x.Ts]
structure x8 where
 If:(b6H)
 Gs:Int
 Ps:Int
 By:Int
 At:Int
 Ss:Int
 Js:Int
 Do:Int
deriving DecidableEq,Inhabited
def Ra(x:x8):List T:=[tS x.If,tI .i64 x.Gs,tI .i64 x.Ps,tI .i64 x.By,tI .i64 x.At,tI .i64 x.Ss,tI .i64 x.Js,tI .i64 x.Do]
structure M8 where
 Fn:Int
 If:(b6H)
 Xs:Int
 Js:Int
 Zs:Int
deriving DecidableEq,Inhabited
def Pn(x:M8):List T:=[tI .i64 x.Fn,tS x.If,tI .i64 x.Xs,tI .i64 x.Js,tI .i64 x.Zs]
structure Q8 where
 Fn:Int
 Gs:Int
 Ls:Int
 Id:Int
deriving DecidableEq,Inhabited
def Pw(x:Q8):List T:=[tI .i64 x.Fn,tI .i64 x.Gs,tI .i64 x.Ls,tI .i64 x.Id]
structure w8 where
 No:(List d7)
 Ms:(List l8)
 To:(List v7)
 Rs:(List Q3)
 Hs:(List U5)
 As:(List x8)
 Ss:(List Int)
 Vars:(List M8)
 Do:(List Q8)
deriving DecidableEq,Inhabited
def b3R(x:w8):List T:=[.sl 6 (x.No.map Nw),.sl 3 (x.Ms.map Mp),.sl 2 (x.To.map Ly),.sl 3 (x.Rs.map Sb),.sl 2 (x.Hs.map Ox),.sl 8 (x.As.map Ra),.sl 1 (x.Ss.map aL),.sl 5 (x.Vars.map Pn),.sl 4 (x.Do.map Pw)]
structure p8 where
 Op:Int
 A:Int
 Ls:Int
deriving DecidableEq,Inhabited
def Ki(x:p8):List T:=[tI .u8 x.Op,tI .i64 x.A,tI .i64 x.Ls]
structure D7 where
 At:Int
 In:Int
 Ps:Int
 Ss:Int
 By:Int
deriving DecidableEq,Inhabited
def Nr(x:D7):List T:=[tI .i64 x.At,tI .i64 x.In,tI .i64 x.Ps,tI .i64 x.Ss,tI .i64 x.By]
structure s8 where
 On:(List p8)
 As:(List D7)
 Us:(List (b6H))
deriving DecidableEq,Inhabited
def b0W(x:s8):List T:=[.sl 3 (x.On.map Ki),.sl 5 (x.As.map Nr),.sl 1 (x.Us.map Nd)]
def Zt(x:s8):List A:=[.t (.sl 3 (x.On.map Ki)),.t (.sl 5 (x.As.map Nr)),.t (.sl 1 (x.Us.map Nd))]
def Ca(x:s8):A:=.agg (Zt x)
structure A7 where
 Code:Int
 Ls:Int
 Id:Int
deriving DecidableEq,Inhabited
def b3E(x:A7):List T:=[tI .i64 x.Code,tI .i64 x.Ls,tI .i64 x.Id]
structure y6 where
 p_:w8
 c_:s8
 from_:Int
 texts_:(List ((b6H) × Int))
def a6S(x:y6):List T:=[.sl 6 (x.p_.No.map Nw),.sl 3 (x.p_.Ms.map Mp),.sl 2 (x.p_.To.map Ly),.sl 3 (x.p_.Rs.map Sb),.sl 2 (x.p_.Hs.map Ox),.sl 8 (x.p_.As.map Ra),.sl 1 (x.p_.Ss.map aL),.sl 5 (x.p_.Vars.map Pn),.sl 4 (x.p_.Do.map Pw),.sl 3 (x.c_.On.map Ki),.sl 5 (x.c_.As.map Nr),.sl 1 (x.c_.Us.map Nd),tI .i64 x.from_,.any]
structure AL where
 P:w8
 Us:(List (b6H))
deriving DecidableEq,Inhabited
def a5Q(x:AL):List T:=[.sl 6 (x.P.No.map Nw),.sl 3 (x.P.Ms.map Mp),.sl 2 (x.P.To.map Ly),.sl 3 (x.P.Rs.map Sb),.sl 2 (x.P.Hs.map Ox),.sl 8 (x.P.As.map Ra),.sl 1 (x.P.Ss.map aL),.sl 5 (x.P.Vars.map Pn),.sl 4 (x.P.Do.map Pw),.sl 1 (x.Us.map Nd)]
structure II where
 b_:(List Int)
deriving DecidableEq,Inhabited
def a6m(x:II):List T:=[.sl 1 (x.b_.map Sy)]
structure IL where
 b_:(List Int)
 e_:Int
deriving DecidableEq,Inhabited
def a1y(x:IL):List T:=[.sl 1 (x.b_.map Sy),tI .i64 x.e_]
structure s9 where
 Ks:Int
 Ls:Int
 Id:Int
 Ns:Int
 Ds:(b6H)
deriving DecidableEq,Inhabited
def QF(x:s9):List T:=[tI .u8 x.Ks,tI .i64 x.Ls,tI .i64 x.Id,tI .i64 x.Ns,tS x.Ds]
structure l7 where
 L:(List s9)
 I:Int
 Is:Int
 F:A7
deriving DecidableEq,Inhabited
def a4K(x:l7):List T:=[.sl 5 (x.L.map QF),tI .i64 x.I,tI .i64 x.Is,tI .i64 x.F.Code,tI .i64 x.F.Ls,tI .i64 x.F.Id]
structure o0 where
 L:(List d7)
 M:(List l8)
 P:w8
 T:(List v7)
 F:A7
 By:Int
deriving DecidableEq,Inhabited
def a8i(x:o0):List T:=[.sl 6 (x.L.map Nw),.sl 3 (x.M.map Mp),.sl 6 (x.P.No.map Nw),.sl 3 (x.P.Ms.map Mp),.sl 2 (x.P.To.map Ly),.sl 3 (x.P.Rs.map Sb),.sl 2 (x.P.Hs.map Ox),.sl 8 (x.P.As.map Ra),.sl 1 (x.P.Ss.map aL),.sl 5 (x.P.Vars.map Pn),.sl 4 (x.P.Do.map Pw),.sl 2 (x.T.map Ly),tI .i64 x.F.Code,tI .i64 x.F.Ls,tI .i64 x.F.Id,tI .i64 x.By]
structure d8 where
 P:w8
 Rs:(List (b6H))
 F:A7
deriving DecidableEq,Inhabited
def a7i(x:d8):List T:=[.sl 6 (x.P.No.map Nw),.sl 3 (x.P.Ms.map Mp),.sl 2 (x.P.To.map Ly),.sl 3 (x.P.Rs.map Sb),.sl 2 (x.P.Hs.map Ox),.sl 8 (x.P.As.map Ra),.sl 1 (x.P.Ss.map aL),.sl 5 (x.P.Vars.map Pn),.sl 4 (x.P.Do.map Pw),.sl 1 (x.Rs.map Nd),tI .i64 x.F.Code,tI .i64 x.F.Ls,tI .i64 x.F.Id]
structure y8 where
 If:(b6H)
 Xs:Int
 Ys:Int
 At:Int
deriving DecidableEq,Inhabited
def a42(x:y8):List T:=[tS x.If,tI .i64 x.Xs,tI .i64 x.Ys,tI .i64 x.At]
structure L5 where
 e0_:Int
 e1_:Int
 e2_:Int
 e3_:Int
 e4_:Int
 e5_:Int
 e6_:Int
 e7_:Int
deriving DecidableEq,Inhabited
def b3V(x:L5):List T:=[tI .i64 x.e0_,tI .i64 x.e1_,tI .i64 x.e2_,tI .i64 x.e3_,tI .i64 x.e4_,tI .i64 x.e5_,tI .i64 x.e6_,tI .i64 x.e7_]
def AO(x:L5):List A:=[aI .i64 x.e0_,aI .i64 x.e1_,aI .i64 x.e2_,aI .i64 x.e3_,aI .i64 x.e4_,aI .i64 x.e5_,aI .i64 x.e6_,aI .i64 x.e7_]
def Jd(x:L5):A:=.agg (AO x)
end
section
open Go.RowKit
set_option maxRecDepth 100000
set_option maxHeartbeats 4000000
def a6Z(a0:Int)(r:L5):Prop:=FnP Tryz.prog 138 [aI .i64 a0] (Jd r)
def a9C(a0:L5)(r:Int):Prop:=FnP Tryz.prog 139 [Jd a0] (aI .i64 r)
def a2o(a0:L5)(r:L5):Prop:=FnP Tryz.prog 137 [Jd a0] (Jd r)
def b0M(a0:s8)(a1:Int)(r:(b6H)):Prop:=FnP Tryz.prog 15 [Ca a0,aI .i64 a1] (aS r)
end
end
end Go.Proofs.YtihbbcealnnpiaaGreatDoor
