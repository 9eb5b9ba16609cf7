/- Parts of the proof. -/
import Derived.Test.YtihbbcealnnpiaaGreatDoorGmBase
import Derived.Test.YtihbbcealnnpiaaGreatDoorGmXE
import Derived.Test.YtihbbcealnnpiaaGreatDoorGmAxTab
import Derived.Lib.BufferRead
import Derived.Laws.IdiomStrings
import Derived.Laws.StructEq
import Derived.Laws.Cover3
import Derived.Laws.MakeOwn
import Derived.Laws.RangeString
import Derived.Laws.RangeAny
set_option linter.unusedVariables false
namespace Go.Proofs.YtihbbcealnnpiaaGreatDoor
noncomputable section
section
universe u
section
variable{ι:Type}{β:ι→Type}
def M5(B:((i:ι)→Option (β i))→(i:ι)→Option (β i)):Nat→(i:ι)→Option (β i)
 |0,_=>none
 |n+1,i=>B (M5 B n) i
def RY:Nat:=1152921504606846976
open Classical in
def H1(B:((i:ι)→Option (β i))→(i:ι)→Option (β i))(i:ι):Option (β i):=
 match M5 B RY i with
 |some r=>some r
 |none=>if h:∃n,(M5 B n i).isSome=true then M5 B (Classical.choose h) i else none
def H2{γ:Type}(F:((i:ι)→Option (β i))→Option γ):Prop:=
 ∀g r,F g=some r→∃l:List ι,∀g',(∀i∈l,∀x,g i=some x→g' i=some x)→F g'=some r
theorem Q1{γ:Type}(c:Option γ):H2 (β:=β) (fun _=>c):=fun g r h=>⟨[],fun _ _=>h⟩
theorem DL(i:ι):H2 (β:=β) (fun g=>g i):=fun g r h=>⟨[i],fun g' hg=>hg i (by simp) r h⟩
theorem AJ{γ δ:Type}{F:((i:ι)→Option (β i))→Option γ}{K:γ→((i:ι)→Option (β i))→Option δ}(h1:H2 F)(h2:∀x,H2 (K x)):H2 (fun g=>(F g).bind fun x=>K x g):=fun g r h=>by obtain⟨x,hx,hr⟩:=Option.bind_eq_some_iff.1 h;obtain⟨l1,k1⟩:=h1 g x hx;obtain⟨l2,k2⟩:=h2 x g r hr;refine⟨l1++l2,fun g' hg=>?_⟩;show(F g').bind _=_;rw[k1 g' fun i hi=>hg i (by simp[hi])];exact k2 g' fun i hi=>hg i (by simp[hi])
variable{B:((i:ι)→Option (β i))→(i:ι)→Option (β i)}
theorem vE{γ:Type}{F:((i:ι)→Option (β i))→Option γ}(h:H2 F){g g':(i:ι)→Option (β i)}(hg:∀i x,g i=some x→g' i=some x){r:γ}(hr:F g=some r):F g'=some r:=by obtain⟨l,k⟩:=h g r hr;exact k g' fun i _=>hg i
theorem NM(hB:∀i,H2 (fun g=>B g i)):∀n i r,M5 B n i=some r→M5 B (n+1) i=some r
 |0,i,r,h=>by cases h
 |n+1,i,r,h=>vE (hB i) (NM hB n) h
theorem aU(hB:∀i,H2 (fun g=>B g i)){n m:Nat}(hnm:n≤m){i:ι}{r:β i}(h:M5 B n i=some r):M5 B m i=some r:=by
 induction hnm with
 |refl=>exact h
 |step _ ih=>exact NM hB _ _ _ ih
theorem sW{i:ι}{r:β i}(h:H1 B i=some r):∃n,M5 B n i=some r:=by
 unfold H1 at h;split at h
 ·rename_i x hx;exact⟨RY,hx.trans h⟩
 ·split at h
  ·exact⟨_,h⟩
  ·cases h
theorem LR(hB:∀i,H2 (fun g=>B g i)){n:Nat}{i:ι}{r:β i}(h:M5 B n i=some r):H1 B i=some r:=by
 have hx:∃n,(M5 B n i).isSome=true:=⟨n,by rw[h];rfl⟩;have same:∀m r',M5 B m i=some r'→r'=r:=fun m r' hm=>by have h1:=aU hB (Nat.le_max_left n m) h;have h2:=aU hB (Nat.le_max_right n m) hm;rw[h1]at h2;cases h2;rfl
 unfold H1;split
 ·rename_i x hx;rw[same _ _ hx]
 ·rw[dif_pos hx];obtain⟨r',hr'⟩:=A2.1 (Classical.choose_spec hx);rw[hr',same _ _ hr']
theorem GH(hB:∀i,H2 (fun g=>B g i))(i:ι):H1 B i=B (H1 B) i:=by
 have main:∀r,H1 B i=some r↔B (H1 B) i=some r:=fun r=>by
  constructor
  ·intro h;obtain⟨n,hn⟩:=sW h;cases n with
   |zero=>cases hn
   |succ n=>exact vE (hB i) (fun j x hx=>LR hB hx) hn
  ·intro h;obtain⟨l,k⟩:=hB i _ _ h;have:∃N,∀j∈l,∀x,H1 B j=some x→M5 B N j=some x:=by
    clear k
    induction l with
    |nil=>exact⟨0,fun j hj=>by simp at hj⟩
    |cons a l ih=>
     obtain⟨N,hN⟩:=ih;cases ha:H1 B a with
     |none=>
      refine⟨N,fun j hj x hx=>?_⟩;rcases F8.1 hj with rfl|hj
      ·rw[ha]at hx;cases hx
      ·exact hN j hj x hx
     |some y=>
      obtain⟨n,hn⟩:=sW ha;refine⟨max n N,fun j hj x hx=>?_⟩;rcases F8.1 hj with rfl|hj
      ·rw[ha]at hx;cases hx;exact aU hB (Nat.le_max_left _ _) hn
      ·exact aU hB (Nat.le_max_right _ _) (hN j hj x hx)
   obtain⟨N,hN⟩:=this;exact LR hB (n:=N+1) (k _ hN)
 cases h:B (H1 B) i with
 |some r=>exact(main r).2 h
 |none=>
  cases h':H1 B i with
  |none=>rfl
  |some r=>rw[(main r).1 h']at h;cases h
attribute [irreducible] H1
end
end
section
open Go.RowKit
variable{P:Program}
abbrev w64(n:Int):Int:=IntKind.wrap .i64 n
abbrev mkS(s:b36):ByteArray:=ByteArray.mk (Array.mk s)
def f5{α:Type}(xs:List α)(i:Int):Option α:=if 0≤i then xs[i.toNat]? else none
abbrev tI(k:IntKind)(n:Int):T:=.v (.int k n)
abbrev tS(s:b36):T:=.v (.string (mkS s))
abbrev aI(k:IntKind)(n:Int):A:=.t (.v (.int k n))
abbrev aB(b:Bool):A:=.t (.v (.bool b))
abbrev aS(s:b36):A:=.t (.v (.string (mkS s)))
instance(b n:Nat):Decidable (M8 b n):=by unfold M8;infer_instance
theorem IW{α:Type}{p:Prop} [Decidable p]{x:Option α}{r:α}(h:(if p then x else none)=some r):p∧x=some r:=by
 split at h
 ·exact⟨‹p›,h⟩
 ·cases h
theorem Yy{α β:Type}{x:Option α}{k:α→Option β}{r:β}(h:x.bind k=some r):∃y,x=some y∧k y=some r:=Option.bind_eq_some_iff.1 h
section
variable{α:Type}{c:α→List T}{xs ys:List α}{i:Int}{x y:α}{b:Nat}
theorem iT(h:f5 xs i=some x):0≤i∧xs[i.toNat]? =some x:=by
 unfold f5 at h;split at h
 ·rename_i h0;exact⟨h0,h⟩
 ·cases h
theorem a0G(h:f5 xs i=some x):Pc (xs.map c) i i.toNat (c x):=by obtain⟨h0,h1⟩:=iT h;exact⟨by omega,by rw[L5,h1];rfl⟩
theorem b0J{s:b36}{b:UInt8}(h:f5 s i=some b):Wk (mkS s) i i.toNat b:=by obtain⟨h0,h1⟩:=iT h;refine⟨by omega,?_⟩;obtain⟨hl,rfl⟩:=l3.1 h1;exact getElem?_pos (c:=mkS s) (i:=i.toNat) hl
theorem a9B:U7 (xs.map c++ys.map c) ((xs++ys).map c):=(G0).symm
theorem b0I(h:M8 b (xs.length+ys.length)):M8 b ((xs.map c).length+(ys.map c).length):=by rw[F9,F9];exact h
theorem a81(h:M8 b ys.length):M8 b (ys.map c).length:=by rw[F9];exact h
theorem a3J(x:List (List T)):U7 x x:=rfl
theorem a9L(c:α→List T)(h:f5 xs i=some x):Pc (xs.map c) i i.toNat (c x):=a0G h
theorem a4N(c:α→List T)(xs ys:List α):U7 (xs.map c++ys.map c) ((xs++ys).map c):=a9B
theorem a7U(c:α→List T)(h:M8 b (xs.length+ys.length)):M8 b ((xs.map c).length+(ys.map c).length):=b0I h
theorem b3v(c:α→List T)(h:M8 b ys.length):M8 b (ys.map c).length:=a81 h
end
theorem LC(s:ByteArray):∀(n i:Nat) (r:b36),n=s.size-i→ByteArray.toList.loop s i r=r.reverse++s.data.toList.drop i
 |0,i,r,h=>by unfold ByteArray.toList.loop;have:s.data.toList.length=s.size:=rfl;rw[if_neg (by omega),N1 (by omega)];simp
 |n+1,i,r,h=>by
  unfold ByteArray.toList.loop;have hl:s.data.toList.length=s.size:=rfl;rw[if_pos (by omega),LC s n (i+1) _ (by omega)];have hi:i<s.data.toList.length:=(by omega);rw[←List.getElem_cons_drop hi];have:s.get! i=s.data.toList[i]:=by show s.data[i]! =_;rw[getElem!_pos s.data i (by simpa using hi)];simp
  rw[this];simp
theorem Z6(s:b36):(mkS s).toList=s:=by unfold ByteArray.toList;rw[LC _ _ 0 [] rfl];simp
theorem GZ(a b:b36):(a==b)=decide (a=b):=by by_cases h:a=b<;>simp[h]
theorem a6D(ty:TypeId)(a b:b36):Bt P .eql ty (.string (mkS a)) (.string (mkS b)) (.bool (decide (a=b))):=by show some (Value.bool ((mkS a).toList==(mkS b).toList))=_;rw[Z6,Z6,GZ]
theorem b2M(ty:TypeId)(a b:b36):Bt P .neq ty (.string (mkS a)) (.string (mkS b)) (.bool (!decide (a=b))):=by show some (Value.bool (!((mkS a).toList==(mkS b).toList)))=_;rw[Z6,Z6,GZ]
theorem a66(ty:TypeId)(a b:b36):Bt P .lss ty (.string (mkS a)) (.string (mkS b)) (.bool (Op.bytesLess a b)):=by show some (Value.bool (Op.bytesLess (mkS a).toList (mkS b).toList))=_;rw[Z6,Z6]
abbrev wJ(a b:b36):Prop:=a.length+b.length≤9223372036854775807
theorem b1i(a b:b36):mkS a++mkS b=mkS (a++b):=by
 apply ByteArray.ext
 apply Array.ext'
 simp
theorem a5f(ty:TypeId){a b:b36}(h:wJ a b):Bt P .add ty (.string (mkS a)) (.string (mkS b)) (.string (mkS (a++b))):=by
 show Di (Op.stringOp .add (mkS a) (mkS b))=_;unfold Op.stringOp;have:¬((((mkS a).size+(mkS b).size:Nat):Int)>IntKind.i64.max):=by have h1:(mkS a).size=a.length:=rfl;have h2:(mkS b).size=b.length:=rfl;rw[h1,h2];have:IntKind.i64.max=9223372036854775807:=rfl;unfold wJ at h;omega
 simp only;rw[if_neg this,b1i];rfl
def b0p{σ:Type}(m:Nat)(N:Nat→σ→Prop)(S:σ→St)(Q:Exit→St→Prop):Exit→St→Prop
 |.normal,st=>∃k x',k≤m∧N k x'∧T7 st (S x')
 |e,st=>Q e st
theorem b15{σ:Type}(N:Nat→σ→Prop)(S:σ→LS){c:Code}{Q:Exit→St→Prop}(h0:∀x,¬N 0 x)(hn:∀x y,(S x).n=(S y).n)(h:∀m x,N (m+1) x→W P c (S x).st (b0p m N (fun x=>(S x).st) Q))(n:Nat)(x:σ)(hx:N n x):W P (.loop c) (S x).st Q:=by
 refine b3e (σ:=Nat × σ) (fun p=>N p.1 p.2) (fun p=>p.1) (fun p=>(S p.2).st) (n,x) hx (T7.refl _) (fun p=>hn _ _) ?_;rintro⟨m,x⟩ hx;cases m with
 |zero=>exact(h0 x hx).elim
 |succ m=>
  refine fun C a w hP hs=>wp_mono (h m x hx C a w hP hs) ?_;rintro e a' w' ⟨st',h1,h2,h3⟩;refine⟨st',h1,?_,h3⟩;cases e with
  |normal=>obtain⟨k,x',hk,hN,hf⟩:=h2;exact⟨(k,x'),hN,Nat.lt_succ_of_le hk,hf⟩
  |_=>exact h2
theorem a8L{c:Code}{st st':St}{Q:Exit→St→Prop}(hf:T7 st st')(h:W P c st' Q):W P c st Q:=fun C a w hP hs=>wp_mono (h C a w hP (hf.2 C a w hs)) fun e a' w' ⟨st'',hn,hq,hs'⟩=>⟨st'',by rw[hn,hf.1],hq,hs'⟩
def Sw(P:Program)(f:FuncId):Code:=match P.funcs[f]? with|some fn=>(match fn.body with|some c=>c|none=>.skip)|none=>.skip
end
section
open Go.RowKit
variable{P:Program}
def D2(a b n:Int):Prop:=0≤a∧a≤b∧b≤n
instance(a b n:Int):Decidable (D2 a b n):=by unfold D2;infer_instance
def y8{α:Type}(xs:List α)(a b:Int):List α:=(xs.drop a.toNat).take (b-a).toNat
theorem a8d{α β:Type}(f:α→β)(xs:List α)(a b:Int):(y8 xs a b).map f=y8 (xs.map f) a b:=by unfold y8;rw[List.map_take,List.map_drop]
def H3(k:IntKind)(low:Option Operand)(a:Int):List A:=match low with|some _=>[aI k a]|none=>[]
theorem zQ(k:IntKind)(a:Int)(y:Nat)(c:BoundsCode)(w:World)(h:0≤a∧a≤y):(Instr.sliceBound (.int k a) y c).run P w=.ok a.toNat w:=by unfold Instr.sliceBound;simp[asIntOf,h]
theorem HT{w:World}{M:Nat→Prop}{k:IntKind}{a:Int}{v:Value}(h:D7 w M (aI k a) v):v=.int k a:=B9 h
theorem wX(sl:Bool)(len cap:Nat)(low high:Option Value)(ka kb:IntKind)(a b:Int)(w:World)(hR:D2 a b len)(hc:len≤cap)(hl:low=none∧a=0∨low=some (.int ka a))(hh:high=none∧b=len∨high=some (.int kb b)):(Instr.sliceBounds sl len cap low high none).run P w=.ok (a.toNat,b.toNat,cap) w:=by
 obtain⟨h1,h2,h3⟩:=hR;unfold Instr.sliceBounds;rcases hh with⟨rfl,rfl⟩|rfl
 ·rcases hl with⟨rfl,rfl⟩|rfl
  ·simp
  ·simp[zQ (P:=P) ka a len _ w ⟨h1,by omega⟩]
 ·rw[Sem.run_bind];simp only[Sem.run_pure,Result.andThen_ok];rw[Sem.run_bind,zQ kb b cap _ w ⟨by omega,by omega⟩];simp only[Result.andThen_ok];rcases hl with⟨rfl,rfl⟩|rfl
  ·simp
  ·simp[zQ (P:=P) ka a b.toNat _ w ⟨h1,by omega⟩]
theorem NA{w:World}{M:Nat→Prop}{ρ:Operand→Value}{low:Option Operand}{k:IntKind}{a:Int}(h0:low=none→a=0)(h:∀x,low=some x→D7 w M (aI k a) (ρ x)):low.map ρ=none∧a=0∨low.map ρ=some (.int k a):=by
 cases low with
 |none=>exact .inl ⟨rfl,h0 rfl⟩
 |some x=>exact .inr (by rw[G2,HT (h x rfl)])
theorem YP{w:World}{M:Nat→Prop}{ρ:Operand→Value}{high:Option Operand}{k:IntKind}{b:Int}{n:Nat}(h0:high=none→b=n)(h:∀x,high=some x→D7 w M (aI k b) (ρ x)):high.map ρ=none∧b=n∨high.map ρ=some (.int k b):=by
 cases high with
 |none=>exact .inl ⟨rfl,h0 rfl⟩
 |some x=>exact .inr (by rw[G2,HT (h x rfl)])
theorem RL{o:Oper}{t:TypeId}{x:Operand}{low high:Option Operand}(ho:o.op=.slice t x low high none){w:World}{M:Nat→Prop}{ρ:Operand→Value}{X:A}{ka kb:IntKind}{a b:Int}(hl:(X::(H3 ka low a++H3 kb high b)).length=(opL o.op).length)(h:∀i (hi:i<(X::(H3 ka low a++H3 kb high b)).length) (hi':i<(opL o.op).length),D7 w M ((X::(H3 ka low a++H3 kb high b))[i]) (ρ ((opL o.op)[i]))):D7 w M X (ρ x)∧(∀y,low=some y→D7 w M (aI ka a) (ρ y))∧(∀y,high=some y→D7 w M (aI kb b) (ρ y)):=by
 have ho':opL o.op=x::(low.toList++(high.toList++[])):=(by rw[ho];rfl);generalize hL:opL o.op=L at hl h ho';subst ho';refine⟨h 0 (by simp) (by simp),fun y hy=>?_,fun y hy=>?_⟩
 ·subst hy;exact h 1 (by simp[H3]) (by simp)
 ·subst hy;cases low with
  |none=>exact h 1 (by simp[H3]) (by simp)
  |some z=>exact h 2 (by simp[H3]) (by simp)
theorem b2Y(s:b36)(a b:Int)(h:D2 a b s.length):(mkS s).extract a.toNat b.toNat=mkS (y8 s a b):=by
 apply ByteArray.ext
 apply Array.ext'
 obtain⟨h1,h2,h3⟩:=h;rw[ByteArray.data_extract];simp only[Array.toList_extract,y8];rw[List.extract_eq_take_drop];congr 1;omega
theorem a3o{o:Oper}{t:TypeId}{x:Operand}{low high:Option Operand}(ho:o.op=.slice t x low high none)(ht:P.underlying t=some .string){s:b36}{ka kb:IntKind}{a b:Int}(hR:D2 a b s.length)(h1:low=none→a=0)(h2:high=none→b=s.length):Aq P o (aS s::(H3 ka low a++H3 kb high b)) (aS (y8 s a b)):=by intro w M ρ _ hl h;obtain⟨r1,r2,r3⟩:=RL ho hl h;refine⟨.string (mkS (y8 s a b)),w,?_,Below.refl _ _,.t _ _ (.v _ rfl)⟩;have e1:ρ x=.string (mkS s):=B9 r1;unfold execOp;simp only[ho,e1];unfold Instr.sliceAt Instr.slice;have hb:=wX (P:=P) false s.length s.length (low.map ρ) (high.map ρ) ka kb a b w hR (i4 _) (NA h1 r2) (YP h2 r3);have hsz:(mkS s).size=s.length:=rfl;simp only[Sem.run_bind,run_underlying ht,Result.andThen_ok,Option.map_none,hsz,hb,Sem.run_pure,Option.isSome_none,Bool.false_eq_true,if_false,b2Y s a b hR]
theorem Lf{α:Type}(xs:List α)(a b:Int)(h:D2 a b xs.length):(y8 xs a b).length=(b-a).toNat∧∀i (hi:i<(y8 xs a b).length),a.toNat+i<xs.length∧∀(h':a.toNat+i<xs.length),(y8 xs a b)[i]=xs[a.toNat+i]:=by
 obtain⟨h1,h2,h3⟩:=h;have hl:(y8 xs a b).length=(b-a).toNat:=(by unfold y8;rw[List.length_take,List.length_drop];omega);refine⟨hl,fun i hi=>⟨by omega,fun h'=>?_⟩⟩;have:(y8 xs a b)[i]? =xs[a.toNat+i]? :=by unfold y8;rw[List.getElem?_take,if_pos (by omega),List.getElem?_drop]
 rw[p9 hi,p9 h']at this;exact Option.some.inj this
theorem a9D{o:Oper}{t e:TypeId}{te:TI}{x:Operand}{low high:Option Operand}{k:Nat}(ho:o.op=.slice t x low high none)(ht:P.underlying t=some (.slice e))(hte:p8 P e=some te)(hk:te.size=k){xs:List (List T)}{ka kb:IntKind}{a b:Int}(hR:D2 a b xs.length)(h1:low=none→a=0)(h2:high=none→b=xs.length):Aq P o (.t (.sl k xs)::(H3 ka low a++H3 kb high b)) (.t (.sl k (y8 xs a b))):=by
 intro w M ρ _ hl h;obtain⟨r1,r2,r3⟩:=RL ho hl h;have hsz:∀w,(sizeOf e).run P w=.ok k w:=fun w=>by obtain⟨inf,d,z,hi,hu,hz,q1,_⟩:=(M4 hte).ex;rw[←hk,q1];have:=run_sizeOf (P:=P) w hi;rw[show P.cellsOf e=inf.size by simp[Program.cellsOf,hi]]at this;exact this
 obtain⟨hcl,hcg⟩:=Lf xs a b hR;have hrep:=Hu r1;generalize hv:ρ x=v at hrep;have go:∀(ad:Option Addr) (cap:Nat),v=.slice ad xs.length cap→xs.length≤cap→(execOp ρ o).run P w=.ok (.value (.slice (if cap=a.toNat then ad else ad.map (·.add (a.toNat*k))) (b.toNat-a.toNat) (cap-a.toNat))) w:=fun ad cap e hc=>by subst e;unfold execOp;simp only[ho,hv];unfold Instr.sliceAt Instr.slice;have hb:=wX (P:=P) true xs.length cap (low.map ρ) (high.map ρ) ka kb a b w hR hc (NA h1 r2) (YP h2 r3);simp only[Sem.run_bind,run_underlying ht,Result.andThen_ok,Option.map_none,hb,Sem.run_pure,hsz]
 obtain⟨c1,c2,c3⟩:=hR;have hsub:b.toNat-a.toNat=(y8 xs a b).length:=(by rw[hcl];omega);cases hrep with
 |nil _ ad cap hcm=>have:=go ad cap rfl (D0 _);refine⟨_,w,this,Below.refl _ _,.t _ _ ?_⟩;have e0:y8 ([]:List (List T)) a b=[]:=(by unfold y8;simp);have ea:a.toNat=0:=(by simp at c3;omega);have eb:b.toNat=0:=(by simp at c3;omega);rw[e0,ea,eb];exact .nil _ _ _ (by omega)
 |sl _ _ blk off cap c hb hM hcap hcm hkk hc hr=>
  have:=go (some ⟨blk,off,none⟩) cap rfl hcap;refine⟨_,w,this,Below.refl _ _,.t _ _ ?_⟩;by_cases hca:cap=a.toNat
  ·rw[if_pos hca];have:(y8 xs a b)=[]:=List.eq_nil_of_length_eq_zero (by rw[hcl];omega);rw[hsub,this];exact .nil _ _ _ (by omega)
  ·rw[if_neg hca,hsub];have hadd:(⟨blk,off,none⟩:Addr).add (a.toNat*k)=⟨blk,off+a.toNat*k,none⟩:=(by unfold Addr.add;split<;>simp_all);rw[G2,hadd];refine .sl k _ blk (off+a.toNat*k) (cap-a.toNat) (fun i j=>c (a.toNat+i) j) hb hM (by omega) (by omega) (fun i hi=>?_) (fun i hi j hj=>?_) (fun i hi j hj=>?_)
   ·obtain⟨g1,g2⟩:=hcg i hi;rw[g2 g1];exact hkk _ g1
   ·obtain⟨g1,g2⟩:=hcg i hi;have:=hc (a.toNat+i) g1 j hj;rw[show off+a.toNat*k+(i*k+j)=off+((a.toNat+i)*k+j) by rw[Nat.add_mul];omega];exact this
   ·obtain⟨g1,g2⟩:=hcg i hi;have hj':j<(xs[a.toNat+i]).length:=(by rw[←g2 g1];exact hj);have:=hr (a.toNat+i) g1 j hj';simp only[g2 g1];exact this
end
section
open Go.RowKit
variable{P:Program}
theorem v8.seto{C:Ctx}{st:St}{L:Nat→Loc}{a:Act}{w:World}(h:v8 C st L a w)(id:Nat)(old blk:Blk)(ho:st.mem id=some old)(hal:old.alike blk)(g:Nat)(hg:(L id).blk=some g){w':World}(os:w'.os=w.os)(tape:w'.tape=w.tape)(output:w'.output=w.output)(size:w'.heap.size=w.heap.size)(block:∀q,q≠g→w'.heap[q]? =w.heap[q]?)(hb:Y7 (st.setm id blk) L w' (Mut C st L) id blk):v8 C (st.setm id blk) L a w':=by
 have hM:∀b,Mut C (st.setm id blk) L b→Mut C st L b:=by
  rintro b (hx|⟨i,hs,hli⟩)
  ·exact .inl hx
  ·refine .inr ⟨i,?_,hli⟩;by_cases e:i=id
   ·subst e;rw[ho];rfl
   ·simpa[St.setm,upd,e]using hs
 have hold:∀i,((st.setm id blk).mem i).isSome=true→∃x,st.mem i=some x:=fun i hs=>by
  by_cases e:i=id
  ·exact⟨old,by rw[e];exact ho⟩
  ·exact A2.1 (by simpa[St.setm,upd,e]using hs)
 refine h.next rfl h.hn h.hd os tape output (by rw[size];exact i4 _) (fun b hb hm=>block b fun e=>hm ⟨id,by rw[ho];rfl,by rw[e];exact .inl hg⟩) (fun i hi=>hi) (fun i hi b' hb'=>?_) (fun i hs hf b hl=>?_) (fun i hs hf=>?_) (fun i j b hi hj hfi hfj _ _=>?_) (fun i b' hb'=>?_) (fun t=>.inl ⟨rfl,rfl⟩)
 ·by_cases e:i=id
  ·subst e;have:b'=blk:=(by simpa[St.setm,upd]using hb'.symm);subst this;exact⟨old,ho,hal,rfl⟩
  ·exact⟨b',by simpa[St.setm,upd,e]using hb',b'.alike_refl,rfl⟩
 ·obtain⟨x,hx⟩:=hold i hs;have:=(h.mem i x hx).1;rw[hf]at this;cases this
 ·obtain⟨x,hx⟩:=hold i hs;have:=(h.mem i x hx).1;rw[hf]at this;cases this
 ·obtain⟨x,hx⟩:=hold i hi;have:=(h.mem i x hx).1;rw[hfi]at this;cases this
 ·by_cases e:i=id
  ·subst e;have:b'=blk:=(by simpa[St.setm,upd]using hb'.symm);subst this;refine⟨(h.mem i old ho).1,.inr ?_⟩;exact hb.ext (Ext.refl _ _) (fun b _ h=>hM b h) (fun i h=>h) (Yh _ L) rfl (fun _ _=>rfl)
  ·have hx:st.mem i=some b':=(by simpa[St.setm,upd,e]using hb');refine⟨(h.mem i b' hx).1,.inl ⟨hx,rfl,fun b hl=>block b fun eb=>?_⟩⟩;subst eb;exact e (h.inj i id b (by rw[hx];rfl) (by rw[ho];rfl) hl (.inl hg))
theorem LM{C:Ctx}{st:St}{L:Nat→Loc}{a:Act}{w:World}(hs:v8 C st L a w){x:Operand}{id:Nat}(hy:st.ev x=.ob id){od:Od}(hm:st.mem id=some (.obj od)):∃g o,(L id).blk=some g∧w.heap[g]? =some o∧Bq w (Mut C st L) (L id).own g od o∧a.eval x=(L id).ob od:=by
 obtain⟨g,o,hg,hw,hr⟩:=(hs.mem id _ hm).2;have hr':=B6 hs x;rw[hy]at hr';generalize hv:a.eval x=v at hr';cases hr' with
 |ob _ _ h1 hu hq=>exact⟨g,o,hg,hw,hr,hq od hm⟩
theorem a02{α:Type}{o:Oper}{t e:TypeId}{te:TI}{x:Operand}{low high:Option Operand}(ho:o.op=.slice t x low high none)(ht:P.underlying t=some (.slice e))(hte:p8 P e=some te){k:Nat}(hk:te.size=k)(c:α→List T){xs:List α}{ka kb:IntKind}{b:Int}(hR:D2 0 b xs.length)(h2:high=none→b=xs.length):Na P o 0 (.row e k (xs.map c)) (.dead::(H3 ka low 0++H3 kb high b)) (.row e k ((y8 xs 0 b).map c)):=by
 intro st id d K hdst h1 h3 hm hu hK C a w hP ⟨L,hs⟩ hd next Q hn
 have hops:opL o.op=x::(low.toList++(high.toList++[])):=(by rw[ho];rfl);rw[hops]at h1 h3;simp only[List.map_cons,List.getElem?_cons_zero,N2,List.set_cons_zero,List.cons.injEq,true_and]at h1 h3;have hlow:low.map a.eval=none∧(0:Int)=0∨low.map a.eval=some (.int ka 0):=by
  cases low with
  |none=>exact .inl ⟨rfl,rfl⟩
  |some y=>refine .inr ?_;have:st.ev y=aI ka 0:=(by simp[H3]at h3;exact h3.1);have h5:=B6 hs y;rw[this]at h5;rw[G2,B9 h5]
 have hhigh:high.map a.eval=none∧b=xs.length∨high.map a.eval=some (.int kb b):=by
  cases high with
  |none=>exact .inl ⟨rfl,h2 rfl⟩
  |some y=>
   refine .inr ?_;have:st.ev y=aI kb b:=(by cases low<;>(simp[H3]at h3;first|exact h3|exact h3.2))
   have h5:=B6 hs y;rw[this]at h5;rw[G2,B9 h5]
 have hsz:∀w,(sizeOf e).run P w=.ok k w:=fun w=>by obtain⟨inf,d,z,hi,hu,hz,q1,_⟩:=(M4 hte).ex;rw[←hk,q1];have:=run_sizeOf (P:=P) w hi;rw[show P.cellsOf e=inf.size by simp[Program.cellsOf,hi]]at this;exact this
 have hr:=B6 hs x;rw[h1]at hr;generalize hv:a.eval x=v at hr;obtain⟨c1,c2,c3⟩:=hR;have hlen:(y8 xs 0 b).length=b.toNat:=(by unfold y8;rw[List.length_take,List.length_drop];simp;omega);have hcut:y8 xs 0 b=xs.take b.toNat:=(by unfold y8;simp);cases hr with
 |ref _ _ q1 hus hq=>
  have hval:=hq _ _ _ hm;rw[F9]at hval;obtain⟨h0,hkk,hrow⟩:=(hs.mem _ _ hm).2;have hidd:id≠d:=fun e=>by rw[e,hu]at hus;cases hus
  have run:∀(ad:Option Addr) (cap:Nat),v=.slice ad xs.length cap→xs.length≤cap→(execOp a.eval o).run P w=.ok (.value (.slice (if cap=0 then ad else ad.map (·.add 0)) b.toNat cap)) w:=fun ad cap e hc=>by subst e;unfold execOp;simp only[ho,hv];unfold Instr.sliceAt Instr.slice;have hb:=wX (P:=P) true xs.length cap (low.map a.eval) (high.map a.eval) ka kb 0 b w ⟨c1,c2,c3⟩ hc hlow hhigh;simp only[Sem.run_bind,run_underlying ht,Result.andThen_ok,Option.map_none,hb,Sem.run_pure,hsz];simp
  rcases hrow with⟨hxs,hnil⟩|⟨g,cur,hgk,hw,hle,hcm,hcs,hc⟩
  ·have hxs':xs=[]:=(by simpa using hxs);subst hxs';have hb0:b.toNat=0:=(by simp at c3;omega);have:=run none 0 (by rw[hval,hnil];rfl) (i4 _);rw[if_pos rfl,hb0]at this;have e0:(y8 ([]:List α) 0 b)=[]:=(by unfold y8;simp);refine H7 this (hn _ _ _ (by simp[St.new,St.del]) hK ?_);rw[e0];exact bM (hs.del id) d hu e k h0 _ hdst (hd d hdst)
  ·have hle':xs.length≤(L id).cap:=(by simpa using hle);have:=run (some ⟨g,0,none⟩) (L id).cap (by rw[hval];simp[Loc.slice,hgk]) hle';have hadd:(⟨g,0,none⟩:Addr).add 0=⟨g,0,none⟩:=(by unfold Addr.add;split<;>simp_all);rw[G2,hadd,ite_self]at this;have hsim:=hs.renew id d (.inl (hd d hdst)) hu (.row e k ((y8 xs 0 b).map c)) _ hm g hgk (w':=w) rfl rfl rfl rfl (fun _ _=>rfl) (fun M hM=>⟨h0,fun i hi=>?_,.inr ⟨g,cur,by rw[J5];exact hgk,hw,by rw[J5,F9,hlen];omega,by rw[J5];exact hcm,by rw[J5];exact hcs,fun i hi j hj=>?_⟩⟩)
   ·refine H7 this (hn _ _ _ (by simp[St.new,St.del]) hK ⟨_,hsim.put _ hd (.ref d _ rfl (by simp[St.new,upd]) fun e' k' xs' hm'=>?_)⟩);have:(y8 xs 0 b).map c=xs':=by have:=hm';simp only[St.new,J5,N2,Blk.row.injEq]at this;exact this.2.2
    subst this;rw[J5,F9,hlen];simp[Loc.slice,hgk]
   ·have hi':i<(xs.map c).length:=(by simp[hcut]at hi;simp;omega);have:((y8 xs 0 b).map c)[i]=(xs.map c)[i]:=(by simp[hcut]);rw[this];exact hkk i hi'
   ·have hi':i<(xs.map c).length:=(by simp[hcut]at hi;simp;omega);have e3:((y8 xs 0 b).map c)[i]=(xs.map c)[i]:=(by simp[hcut]);simp only[e3];obtain⟨u,hu1,hu2⟩:=hc i hi' j (by rw[e3]at hj;exact hj);exact⟨u,hu1,hu2.ext (Ext.refl _ _) (fun q _=>hM q)⟩
theorem a98(ty:TypeId){k:IntKind}{a b:Int}(h:b≠0):Bt P .quo ty (.int k a) (.int k b) (.int k (k.wrap (Int.tdiv a b))):=by show Di (binOp .quo ty (.int k a) (.int k b))=_;simp[binOp,Op.intDiv,h];rfl
theorem a6K(ty:TypeId){k:IntKind}{a b:Int}(h:b≠0):Bt P .rem ty (.int k a) (.int k b) (.int k (Int.tmod a b)):=by show Di (binOp .rem ty (.int k a) (.int k b))=_;simp[binOp,Op.intDiv,h];rfl
theorem a2d(ty:TypeId){k k':IntKind}{a b:Int}(h:0≤b):Bt P .shl ty (.int k a) (.int k' b) (.int k (k.wrap (a*2^(min b.toNat k.bits)))):=by show Di (binOp .shl ty (.int k a) (.int k' b))=_;have:¬b<0:=(by omega);simp[binOp,Op.shift,this];rfl
theorem a9W(ty:TypeId){k k':IntKind}{a b:Int}(h:0≤b):Bt P .shr ty (.int k a) (.int k' b) (.int k (a.fdiv (2^(min b.toNat k.bits)))):=by show Di (binOp .shr ty (.int k a) (.int k' b))=_;have:¬b<0:=(by omega);simp[binOp,Op.shift,this];rfl
def Ud(xs:List Int):Prop:=∀x∈xs,0≤x∧x<256
instance(xs:List Int):Decidable (Ud xs):=by unfold Ud;infer_instance
def y6(xs:List Int):b36:=xs.map fun x=>UInt8.ofNat x.toNat
theorem a2c{src dst e:TypeId}{x:Operand}{o:Oper}(ho:o.op=.convert src dst x)(hs:P.underlying src=some (.slice e))(he:P.underlying e=some (.int .u8))(hd:P.underlying dst=some .string)(c:Int→List T)(hcc:c=fun n=>[tI .u8 n]){xs:List Int}(hb:Ud xs):Aq P o [.t (.sl 1 (xs.map c))] (aS (y6 xs)):=by
 intro w M ρ _ hl hr;have h0:=hr 0 (by simp) (by rw[←hl];simp);have h1:(opL o.op)[0]'(by rw[←hl];simp)=x:=(by simp[ho,opL]);rw[h1]at h0;simp only[E4]at h0;have e0:xs.map c=(y6 xs).map fun b:UInt8=>[T.v (.int .u8 (b.toNat:Int))]:=by
  unfold y6;rw[List.map_map,hcc];refine List.map_congr_left fun n hn=>?_;have:=hb n hn;simp only[Function.comp];have e1:((UInt8.ofNat n.toNat).toNat:Int)=n:=by rw[UInt8.toNat_ofNat'];omega
  rw[e1]
 rw[e0]at h0;generalize y6 xs=l at h0;refine⟨.string ⟨l.toArray⟩,w,?_,Below.refl _ _,.t _ _ (.v _ rfl)⟩;unfold execOp;simp only[ho];generalize ρ x=v at h0;have h2:=Hu h0;have run:(convert src dst v).run P w=.ok (.string ⟨l.toArray⟩) w:=by
  generalize hX:(l.map fun b:UInt8=>[T.v (.int .u8 (b.toNat:Int))])=ys at h2;cases h2 with
  |nil _ a cap hcm=>
   have:l=[]:=(by simpa using hX);subst this;cases a with
   |none=>exact Go.Lib.run_convert_nil_bytes w src dst e cap hs he hd
   |some p=>exact run_convert_bytes_back (P:=P) w src dst e p cap [] hs he hd (fun j hj=>by simp at hj)
  |sl _ _ b off cap c hb hM hcap hcm hk hc hrr=>subst hX;have hlen:(l.map fun b:UInt8=>[T.v (.int .u8 (b.toNat:Int))]).length=l.length:=(by simp);rw[hlen];refine run_convert_bytes_back (P:=P) w src dst e _ cap l hs he hd (fun j hj=>?_);have hadd:(⟨b,off,none⟩:Addr).add j=⟨b,off+j,none⟩:=(by unfold Addr.add;split<;>simp_all);rw[hadd];have h3:=hc j (by simpa using hj) 0 (by omega);have h4:=hrr j (by simpa using hj) 0 (by simp);simp only[List.getElem_map,E4]at h4;have h5:=B9 (st:=⟨0,fun _=>.dead,fun _=>none,fun _=>false⟩) (L:=fun _=>nol) (.t _ _ h4);rw[Nat.mul_one,Nat.add_zero,h5]at h3;exact h3
 simp only[Sem.run_bind,run,Result.andThen_ok,Sem.run_pure]
end
section
open Go.RowKit
variable{P:Program}
section
variable{α:Type}{o:Oper}{t e:TypeId}{te:TI}{x y z:Operand}{k:Nat}{xs:List α}{ka kb:IntKind}{b:Int}
end
section
variable{α:Type}{o:Oper}{t e:TypeId}{te:TI}{x y z:Operand}{k:Nat}{xs:List α}{ka kb:IntKind}{a b:Int}{s:b36}
end
def eqV:Value→Value→Bool
 |.int _ a,.int _ b=>decide (a=b)
 |.string s,.string u=>decide (s.data.toList=u.data.toList)
 |.bool a,.bool b=>a==b
 |_,_=>false
def eqL:List Value→List Value→Bool
 | [x],[y]=>eqV x y
 |x::l,y::r=>eqV x y&&eqL l r
 |_,_=>true
def BM(P:Program)(t:TypeId):Value→Value→Bool
 |.int k _,.int k' _=>(match P.underlying t with|some (.int _)=>decide (k=k')|_=>false)
 |.string _,.string _=>(match P.underlying t with|some .string=>true|_=>false)
 |.bool _,.bool _=>(match P.underlying t with|some .bool=>true|_=>false)
 |_,_=>false
def Fg(P:Program):Nat→List Field→List Value→List Value→Bool
 |_,[],[],[]=>true
 |i,f::fs,x::l,y::r=>(match decide (f.name≠ "_"),Nat.beq f.offset i,p8 P f.type with
  |true,true,some ti=>(match Nat.beq ti.size 1,ti.agg,BM P f.type x y with
   |true,false,true=>Fg P (i+1) fs l r
   |_,_,_=>false)
  |_,_,_=>false)
 |_,_,_,_=>false
def fC(P:Program)(t:TypeId)(xs ys:List Value):Bool:=
 match P.underlying t with
 |some (.struct fs)=>(match P.stoodInHeld t,P.eqGuardType P.depth t,xs with
  |false,false,_::_=>Fg P 0 fs.toList xs ys
  |_,_,_=>false)
 |_=>false
theorem xM(a b:b36):(a==b)=decide (a=b):=by
 by_cases h:a=b
 ·subst h;simp
 ·simp[h]
theorem ZX{t:TypeId}{x y:Value}(h:BM P t x y=true)(d:Nat)(w:World):(Op.equalIn (d+1) t x y).run P w=.ok (eqV x y) w:=by
 unfold BM at h;split at h
 ·split at h
  ·rename_i a k' b _ k'' hu;have:_=_:=E3 h;subst this;rw[run_equalIn_int w d t _ _ a b hu];rfl
  ·cases h
 ·split at h
  ·rename_i s u _ hu;rw[run_equalIn_string w d t s u hu];congr 1;show(s.toList==u.toList)=decide (s.data.toList=u.data.toList);have e1:∀b:ByteArray,b.toList=b.data.toList:=fun b=>Z6 b.data.toList;rw[e1,e1,xM]
  ·cases h
 ·split at h
  ·rename_i a b _ hu;exact run_equalIn_bool' w d t a b hu
  ·cases h
 ·cases h
theorem XD{t:TypeId}{ti:TI}(ht:p8 P t=some ti)(ha:ti.agg=false)(cs:Array Value)(i:Nat)(v:Value)(hv:cs[i]? =some v)(w:World):(part t cs i).run P w=.ok v w:=by obtain⟨inf,d,z,hi,hu,hz,q1,q2,q3,q4,q5,q6,q7,q8,q9⟩:=(M4 ht).ex;unfold part;rw[Sem.run_bind,BN hu w,Result.andThen_ok,←q3,ha];simp[hv]
theorem QN(d:Nat)(xs ys:List Value)(w:World):∀(fs:List Field) (l r:List Value) (i:Nat),xs.drop i=l→ys.drop i=r→Fg P i fs l r=true→(Op.eqFields (d+1) ⟨xs⟩ ⟨ys⟩ fs).run P w=.ok (eqL l r) w
 | [],l,r,i,hl,hr,h=>by
  cases l with
  |cons=>cases r<;>simp[Fg]at h
  |nil=>cases r with
   |cons=>simp[Fg]at h
   |nil=>simp[Op.eqFields,eqL]
 |f::fs,l,r,i,hl,hr,h=>by
  cases l with
  |nil=>cases r<;>simp[Fg]at h
  |cons x l=>cases r with
   |nil=>simp[Fg]at h
   |cons y r=>
    simp only[Fg]at h;split at h
    ·rename_i ti hn ho ht;split at h
     ·rename_i hs ha hk;have hoff:f.offset=i:=D5 ho;have hx:(⟨xs⟩:Array Value)[f.offset]? =some x:=by rw[hoff];have:=congrArg (·[0]?) hl;simpa using this
      have hy:(⟨ys⟩:Array Value)[f.offset]? =some y:=by rw[hoff];have:=congrArg (·[0]?) hr;simpa using this
      have hl':xs.drop (i+1)=l:=(by rw[←List.drop_drop,hl];rfl);have hr':ys.drop (i+1)=r:=(by rw[←List.drop_drop,hr];rfl);have ih:=QN d xs ys w fs l r (i+1) hl' hr' h;have hn':f.name≠ "_" :=E3 hn;simp only[Op.eqFields,if_pos hn',Sem.run_bind,XD ht ha _ _ _ hx,XD ht ha _ _ _ hy,Result.andThen_ok,ZX hk];have key:eqL (x::l) (y::r)=(eqV x y&&eqL l r):=by
       cases l with
       |nil=>cases r with
        |nil=>simp[eqL]
        |cons=>cases fs<;>simp[Fg]at h
       |cons=>simp[eqL]
      rw[key];cases eqV x y with
      |false=>simp
      |true=>simpa using ih
     ·cases h
    ·cases h
theorem NX{w:World}{M:Nat→Prop}{xs:List Value}{v:Value}(h:D7 w M (.agg (xs.map A.v)) v):v=.agg ⟨xs⟩:=by
 cases h with
 |agg _ vs hs h1 hr=>congr 1;refine Array.ext (by simpa using hs) fun i h1' h2'=>?_;have:=hr i (by simpa using h2');simp only[List.getElem_map]at this;rw[B9 this];simp
theorem b0G{t:TypeId}{xs ys:List Value}(h:fC P t xs ys=true)(w:World):(Op.equalIn 10000 t (.agg ⟨xs⟩) (.agg ⟨ys⟩)).run P w=.ok (eqL xs ys) w∧P.eqGuardType P.depth t=false:=by
 unfold fC at h;split at h
 ·rename_i fs hu;split at h
  ·rename_i x l hst hg;have hf:P.fieldsOf t=fs:=(by simp[Program.fieldsOf,hu]);refine⟨?_,hg⟩;rw[run_equalIn_struct w 9999 t _ _ (by rw[hf];exact hu) hst,hf];exact QN 9998 _ _ w _ _ _ 0 rfl rfl h
  ·cases h
 ·cases h
theorem a77{o:Oper}{t:TypeId}{x y:Operand}{hh:Option Operand}{ne:Bool}{xs ys:List Value}{e:Bool}(ho:∃q,o.op=.binOp (cond ne .neq .eql) t x y q)(h:fC P t xs ys=true)(he:eqL xs ys=e):Aq P o [.agg (xs.map A.v),.agg (ys.map A.v)] (aB (cond ne (!e) e)):=by
 intro w M ρ _ hl hr;obtain⟨q,ho⟩:=ho;have h0:=hr 0 (by simp) (by rw[ho];simp[opL]);have h1:=hr 1 (by simp) (by rw[ho];simp[opL]);have e0:(opL o.op)[0]'(by rw[ho];simp[opL])=x:=(by simp[ho,opL]);have e1:(opL o.op)[1]'(by rw[ho];simp[opL])=y:=(by simp[ho,opL]);rw[e0]at h0;rw[e1]at h1;have v0:ρ x=.agg ⟨xs⟩:=NX h0;have v1:ρ y=.agg ⟨ys⟩:=NX h1;obtain⟨hrun,hg⟩:=b0G h w;subst he;cases ne with
 |false=>refine⟨.bool (eqL xs ys),w,?_,Below.refl _ _,.t _ _ (.v _ rfl)⟩;unfold execOp;simp only[ho,v0,v1,f6,Sem.run_bind,run_eqGuard_agg w _ t x y _ _ hg,Result.andThen_ok,run_eql_struct,hrun,Sem.run_pure]
 |true=>refine⟨.bool (!eqL xs ys),w,?_,Below.refl _ _,.t _ _ (.v _ rfl)⟩;unfold execOp;simp only[ho,v0,v1,f9,Sem.run_bind,run_eqGuard_agg w _ t x y _ _ hg,Result.andThen_ok,run_neq_struct,hrun,Sem.run_pure]
theorem XZ{o:Oper}{c:Call}{b:Builtin}(ho:o.op=.call c)(hc:c.callee=.builtin b){x y:Operand}(hxy:c.args= #[x,y])(ρ:Operand→Value)(w:World):∃cs,(execOp ρ o).run P w=(builtin b c.argTypes o.type cs #[ρ x,ρ y]).run P w:=by refine⟨c.args.map (fun|.const _=>true|_=>false),?_⟩;unfold execOp;simp only[ho,resolve,hc,Sem.run_bind,Sem.run_pure,Result.andThen_ok,invoke];rw[hxy,show(#[x,y]:Array Operand).map ρ= #[ρ x,ρ y] by simp];have e:∀f g:Operand→Bool,(∀z,f z=g z)→f=g:=fun f g h=>funext h;refine congrArg (fun q=>(builtin b c.argTypes o.type (Array.map q #[x,y]) #[ρ x,ρ y]).run P w) (e _ _ fun z=>?_);cases z<;>rfl
theorem RN{o:Oper}{c:Call}{b:Builtin}(ho:o.op=.call c)(hc:c.callee=.builtin b){x y:Operand}(hxy:c.args= #[x,y]){w:World}{M:Nat→Prop}{ρ:Operand→Value}{p q:A}(hl: [p,q].length=(opL o.op).length)(hr:∀i (hi:i< [p,q].length) (hi':i<(opL o.op).length),D7 w M ([p,q][i]) (ρ ((opL o.op)[i]))):D7 w M p (ρ x)∧D7 w M q (ρ y):=by have hL:opL o.op=[x,y]:=(by rw[ho];simp[opL,hc,hxy]);have h0:=hr 0 (by simp) (by rw[hL];simp);have h1:=hr 1 (by simp) (by rw[hL];simp);simp only[hL]at h0 h1;exact⟨h0,h1⟩
theorem b1I{o:Oper}{k:IntKind}{a b:Int}{c:Call}(ho:o.op=.call c)(hc:c.callee=.builtin .min){x y:Operand}(hxy:c.args= #[x,y]):Aq P o [aI k a,aI k b] (aI k (if b<a then b else a)):=by intro w M ρ _ hl hr;obtain⟨h0,h1⟩:=RN ho hc hxy hl hr;obtain⟨cs,e⟩:=XZ (P:=P) ho hc hxy ρ w;refine⟨.int k (if b<a then b else a),w,?_,Below.refl _ _,.t _ _ (.v _ rfl)⟩;rw[e,B9 h0,B9 h1];simp[builtin,Builtin.min_,Builtin.min2]
theorem a0M{o:Oper}{k:IntKind}{a b:Int}{c:Call}(ho:o.op=.call c)(hc:c.callee=.builtin .max){x y:Operand}(hxy:c.args= #[x,y]):Aq P o [aI k a,aI k b] (aI k (if a<b then b else a)):=by intro w M ρ _ hl hr;obtain⟨h0,h1⟩:=RN ho hc hxy hl hr;obtain⟨cs,e⟩:=XZ (P:=P) ho hc hxy ρ w;refine⟨.int k (if a<b then b else a),w,?_,Below.refl _ _,.t _ _ (.v _ rfl)⟩;rw[e,B9 h0,B9 h1];simp[builtin,Builtin.max_,Builtin.max2]
theorem a21(ty:TypeId)(a b:b36):Bt P .leq ty (.string (mkS a)) (.string (mkS b)) (.bool (Op.bytesLess a b||decide (a=b))):=by show some (Value.bool (Op.bytesLess (mkS a).toList (mkS b).toList||(mkS a).toList==(mkS b).toList))=_;rw[Z6,Z6,xM]
theorem a69(ty:TypeId)(a b:b36):Bt P .gtr ty (.string (mkS a)) (.string (mkS b)) (.bool (!(Op.bytesLess a b||decide (a=b)))):=by show some (Value.bool !(Op.bytesLess (mkS a).toList (mkS b).toList||(mkS a).toList==(mkS b).toList))=_;rw[Z6,Z6,xM]
theorem a1I(ty:TypeId)(a b:b36):Bt P .geq ty (.string (mkS a)) (.string (mkS b)) (.bool (!(Op.bytesLess a b))):=by show some (Value.bool !(Op.bytesLess (mkS a).toList (mkS b).toList))=_;rw[Z6,Z6]
theorem b1s{o:Oper}{xs:List A}{e:TypeId}{k:Nat}{ys:List (List T)}(h:Gg P o xs e k ys):Aq P o xs (.t (.sl k ys)):=by
 intro w M ρ hM hl hr;obtain⟨h0,h⟩:=h;obtain⟨cur,cap,w1,hh,os,tape,output,hle,hcm,hsz,hk,hc,hrun⟩:=h w M ρ hl hr;have hsize:w1.heap.size=w.heap.size:=(by rw[hh]);have hold:∀b,b<w.heap.size→(w1.alloc (.cells cur e)).heap[b]? =w.heap[b]? :=fun b hb=>by rw[Below.heap_alloc w1 _ _ (by omega),hh]
 have hnew:(w1.alloc (.cells cur e)).heap[w.heap.size]? =some (.cells cur e (0,0)):=(by rw[←hsize];exact heap_alloc_new w1 _);refine⟨_,_,hrun,⟨os,tape,output,by simp;omega,hold⟩,.t _ _ ?_⟩;cases ys with
 |nil=>exact .nil _ _ _ hcm
 |cons y ys=>
  have hcc:∀i j,∃c,∀(hi:i<(y::ys).length) (hj:j<((y::ys)[i]).length),cur[i*k+j]? =some c∧RepT w M ((y::ys)[i][j]) c:=fun i j=>by
   by_cases hi:i<(y::ys).length
   ·by_cases hj:j<((y::ys)[i]).length
    ·obtain⟨c,h1,h2⟩:=hc i _ (p9 hi) j _ (p9 hj);exact⟨c,fun _ _=>⟨h1,h2⟩⟩
    ·exact⟨undef,fun _ h=>absurd h hj⟩
   ·exact⟨undef,fun h=>absurd h hi⟩
  have hcs:=fun i j=>Classical.choose_spec (hcc i j);have hkk:∀i (hi:i<(y::ys).length),((y::ys)[i]).length=k:=fun i hi=>hk i _ (p9 hi);refine .sl k (y::ys) w.heap.size 0 cap (fun i j=>Classical.choose (hcc i j)) (by simp;omega) (fun hm=>Nat.lt_irrefl _ (hM _ hm)) hle hcm hkk (fun i hi j hj=>?_) (fun i hi j hj=>?_)
  ·rw[Nat.zero_add,cell_of_row _ _ _ _ _ _ hnew];exact(hcs i j hi (by rw[hkk i hi];exact hj)).1
  ·exact((hcs i j hi hj).2).ext ⟨by simp;omega,fun k hk _=>hold k hk⟩ (fun _ _ h=>h)
def Ik:Nat→List (Nat × Operand)→List A→List (Nat × A)
 |_,[],_=>[]
 |_,_,[]=>[]
 |n,p::l,a::r=>(p.1,a)::Ik n l r
theorem a6S{o:Oper}{t:TypeId}{len:Nat}{parts:Array (Nat × Operand)}(ho:o.op=.buildSlice t len parts){ti te:TI}{e:TypeId}(ht:p8 P t=some ti)(he:ti.elem=some e)(hte:p8 P e=some te)(h0:Nat.blt 0 te.size=true)(hlen:Nat.beq parts.size len=true)(hsmall:Nat.ble (len*te.size) 16777216=true){k:Nat}(hk:te.size=k){bs:List A}{xs:List (List T)}(hal:bs.length=parts.toList.length)(hparts:Ba k 0 (Ik 0 parts.toList bs)=some xs):Gg P o bs e k xs:=by
 subst hk;have h0:0<te.size:=(by simpa using h0);have hlen:parts.size=len:=(by simpa using hlen);have hsmall:len*te.size≤16777216:=(by simpa using hsmall);refine⟨h0,fun w M ρ hl hr=>?_⟩;obtain⟨i,td,z,hi,hud,hz,h1,h2,h3,h4,h5,h6,h7,h8,h9⟩:=(M4 ht).ex;obtain⟨ie,tde,ze,hie,hue,hze,g1,g2,g3,g4,g5,g6,g7,g8,g9⟩:=(M4 hte).ex;have:=h6 e he;subst this;have hL:opL o.op=parts.toList.map (·.2):=by rw[ho];rfl
 let tri:List (Nat × A × Value):=(parts.toList.zip bs).map fun p=>(p.1.1,p.2,ρ p.1.2)
 have htri:tri.map (fun p=>(p.1,p.2.1))=Ik 0 parts.toList bs:=by
  have:∀(l:List (Nat × Operand)) (r:List A),((l.zip r).map fun p=>(p.1.1,p.2,ρ p.1.2)).map (fun p=>(p.1,p.2.1))=Ik 0 l r:=by
   intro l
   induction l with
   |nil=>intro r;rfl
   |cons p l ih=>intro r;cases r with
    |nil=>rfl
    |cons a r=>simp only[List.zip_cons_cons,List.map_cons,Ik,ih]
  exact this _ _
 have htri2:tri.map (fun p=>(p.1,p.2.2))=parts.toList.map fun p=>(p.1,ρ p.2):=by
  have:∀(l:List (Nat × Operand)) (r:List A),r.length=l.length→((l.zip r).map fun p=>(p.1.1,p.2,ρ p.1.2)).map (fun p=>(p.1,p.2.2))=l.map fun p=>(p.1,ρ p.2):=by
   intro l
   induction l with
   |nil=>intro r _;rfl
   |cons p l ih=>intro r hr;cases r with
    |nil=>simp at hr
    |cons a r=>simp only[List.zip_cons_cons,List.map_cons,ih r (by simpa using hr)]
  exact this _ _ hal
 obtain⟨us,hu1,hu2,hu3,_,hu5⟩:=BP (st:=⟨0,fun _=>.dead,fun _=>none,fun _=>false⟩) (L:=fun _=>nol) (w:=w) (M:=M) te.size h0 tri 0 len xs ((Array.range (len*te.size)).map (ze.cells[· %ze.cells.size]!)) (fun p hp=>by
  obtain⟨q,hq,rfl⟩:=List.mem_map.1 hp;obtain⟨n,hn,rfl⟩:=List.getElem_of_mem hq;have hn1:n<parts.toList.length:=(by simp at hn;simp;omega);have hn2:n<bs.length:=(by rw[hal];exact hn1);have:=hr n hn2 (by rw[hL];simpa using hn1);simp only[hL,List.getElem_map]at this;simp only[List.getElem_zip];exact this) (by rw[htri];exact hparts) (by simp[tri,hal,hlen]) (by simp)
 have hxl:xs.length=len:=(by rw[hu3];simp[tri,hal,hlen]);have hrun:(Instr.buildSlice t len (parts.map fun(i,x)=>(i,ρ x))).run P w=.ok (.slice (some ⟨w.heap.size,0,none⟩) xs.length len) (w.alloc (.cells us e)):=by
  rw[hxl];have hfill:Instr.fill (fun i=>some (i*ie.size,ie.size)) ((Array.range (len*ie.size)).map (ze.cells[· %ze.cells.size]!)) (parts.map fun(i,x)=>(i,ρ x)).toList=some us:=by rw[←g1,Array.toList_map];rw[htri2]at hu1;exact hu1
  by_cases hpos:len*ie.size=0
  ·have hl0:len=0:=(by rcases Nat.mul_eq_zero.1 hpos with h|h<;>omega);subst hl0;have hp0:parts= #[]:=Array.eq_empty_of_size_eq_zero hlen;subst hp0;have e0:∀(f:Nat→Value),(Array.range 0).map f= #[]:=fun f=>Array.eq_empty_of_size_eq_zero (by simp);have hus:us= #[]:=by have:=hfill.symm;simp only[Nat.zero_mul,e0]at this;simpa[Instr.fill]using this
   subst hus;simp[Instr.buildSlice,run_underlying hud,sizeOf,typeInfo,hie,Instr.fill,newRow,e0]
   try exact congrArg (fun c=>w.alloc (.cells c e)) (Array.eq_empty_of_size_eq_zero (by simp))
  ·exact run_buildSlice w t e len _ us ie ze hud hie hze (by rw[←g1];omega) hpos hfill
 refine⟨us,len,w,rfl,rfl,rfl,rfl,by omega,by unfold maxLen;have:=Nat.le_mul_of_pos_right len h0;omega,by rw[hu2];simp,fun p x hx=>(hu5 p x hx).1,fun p x hx j tt ht=>?_,?_⟩
 ·have:=(hu5 p x hx).2 j tt ht
  rwa [Nat.zero_add]at this
 ·unfold execOp;simp only[ho];rw[Sem.run_bind,hrun];rfl
end
section
open Go.RowKit
variable{P:Program}
def Ib(bytes:Nat)(n:Int):Prop:=0≤n∧bytes*n≤281474976710656∧n≤maxLen
instance(b:Nat)(n:Int):Decidable (Ib b n):=by unfold Ib;infer_instance
def kY:Value→T→Bool
 |.int k n,.v (.int k' n')=>decide (k=k')&&decide (n=n')
 |.bool a,.v (.bool b)=>a==b
 |.string s,.v (.string u)=>(match s.data.toList,u.data.toList with| [],[]=>true|_,_=>false)
 |.pointer none,.v (.pointer none)=>true
 |.slice none 0 0,.sl _ []=>true
 |_,_=>false
def Jg:List Value→List T→Bool
 | [],[]=>true
 |v::l,t::r=>kY v t&&Jg l r
 |_,_=>false
theorem a0q{w:World}{M:Nat→Prop}{v:Value}{t:T}(h:kY v t=true):RepT w M t v:=by
 unfold kY at h;split at h
 ·simp only[w9,decide_eq_true_eq]at h;obtain⟨rfl,rfl⟩:=h;exact .v _ rfl
 ·rename_i a b;have:a=b:=(by simpa using h);subst this;exact .v _ rfl
 ·rename_i s u;split at h
  ·rename_i h1 h2;have e1:s=u:=by obtain⟨⟨a⟩⟩:=s;obtain⟨⟨b⟩⟩:=u;simp only at h1 h2;rw[h1,h2]
   subst e1;exact .v _ rfl
  ·cases h
 ·exact .v _ rfl
 ·exact .nil _ _ _ (D0 _)
 ·cases h
theorem VY:∀{l:List Value} {r:List T},Jg l r=true→l.length=r.length∧∀(j:Nat) (t:T),r[j]? =some t→∃v,l[j]? =some v∧kY v t=true
 | [],[],_=>⟨rfl,fun j t h=>by simp at h⟩
 |v::l,t::r,h=>by
  simp only[Jg,w9]at h;obtain⟨h1,h2⟩:=VY h.2;refine⟨by simp[h1],fun j u hj=>?_⟩;cases j with
  |zero=>simp at hj;subst hj;exact⟨v,rfl,h.1⟩
  |succ j=>exact h2 j u (by simpa using hj)
 | [],_::_,h=>by simp[Jg]at h
 |_::_,[],h=>by simp[Jg]at h
theorem b2Z{α:Type}{o:Oper}{t e:TypeId}{te:TI}{x y:Operand}(ho:o.op=.makeSlice t x y)(ht:P.underlying t=some (.slice e))(hte:p8 P e=some te){k b:Nat}(hk:te.size=k)(h0:Nat.blt 0 k=true)(hb:te.bytes=b)(c:α→List T)(z:α)(hz:Jg te.zero (c z)=true){k1 k2:IntKind}{n:Int}(h:Ib b n):Gg P o [aI k1 n,aI k2 n] e k ((List.replicate n.toNat z).map c):=by
 subst hk;subst hb;have h0:0<te.size:=(by simpa using h0);obtain⟨n0,n1,n2⟩:=h;refine⟨h0,fun w M ρ hl hr=>?_⟩;obtain⟨ie,tde,ze,hie,hue,hze,g1,g2,g3,g4,g5,g6,g7,g8,g9⟩:=(M4 hte).ex;have hL:opL o.op=[x,y]:=(by rw[ho];rfl);have r0:=hr 0 (by simp) (by rw[hL];simp);have r1:=hr 1 (by simp) (by rw[hL];simp);simp only[hL]at r0 r1;have v0:ρ x=.int k1 n:=B9 r0;have v1:ρ y=.int k2 n:=B9 r1;obtain⟨zl,zg⟩:=VY hz;have hzs:ze.cells.size=te.size:=(by rw[g9,g1]);have hcl:(c z).length=te.size:=(by rw[←zl,g4];simpa using hzs);have hrun:=run_make (P:=P) w t e ie ze ht hie hze k1 k2 n n n0 (O7 _) (by rw[←g2];exact n1) (by unfold maxLen at n2;omega);rw[←g1]at hrun;refine⟨madeCells ze.cells (n.toNat*te.size),n.toNat,w,rfl,rfl,rfl,rfl,by simp,by omega,size_madeCells _ _,fun p u hu=>?_,fun p u hu j tt ht'=>?_,?_⟩
 ·simp only[List.map_replicate]at hu;obtain⟨hp,rfl⟩:=l3.1 hu;simpa using hcl
 ·simp only[List.map_replicate]at hu;obtain⟨hp,rfl⟩:=l3.1 hu;simp only[List.getElem_replicate]at ht';simp only[List.length_replicate]at hp;obtain⟨v,hv,hzv⟩:=zg j tt ht';refine⟨v,?_,a0q hzv⟩;have hj:j<te.size:=(by rw[←hcl];exact(l3.1 ht').1);have hlt:p*te.size+j<n.toNat*te.size:=by have:=Nat.mul_le_mul_right te.size hp;rw[Nat.succ_eq_add_one,Nat.add_mul]at this;omega
  rw[g4]at hv;unfold madeCells;rw[Array.getElem?_map,Array.getElem?_range,if_pos hlt];simp only[G2,hzs];rw[Nat.add_comm,Nat.add_mul_mod_self_right,Nat.mod_eq_of_lt hj];have hj2:j<ze.cells.size:=(by omega);rw[getElem!_pos ze.cells j hj2];simpa[hj2]using hv
 ·unfold execOp;simp only[ho,v0,v1];rw[Sem.run_bind,hrun];simp
end
section
open Go.RowKit
theorem wrap64{n:Int}(h0: -9223372036854775808≤n)(h1:n≤9223372036854775807):w64 n=n:=by show IntKind.wrap .i64 n=n;rw[IntKind.wrap_i64];omega
theorem a8S{n:Int}(h0:0≤n)(h1:n<256):IntKind.wrap .u8 n=n:=by unfold IntKind.wrap;simp only[IntKind.bits,IntKind.signed];simp;omega
theorem Km{α:Type}{xs:List α}{i:Int}(h0:0≤i)(h:i<xs.length):f5 xs i=some (xs[i.toNat]'(by omega)):=by unfold f5;rw[if_pos h0,p9]
theorem l5{α:Type}{xs:List α}{i:Nat}(h:i<xs.length):f5 xs (i:Int)=some (xs[i]):=by rw[Km (by omega) (by omega)];simp
end
section
open Go.RowKit
variable{P:Program}
def WE(s:LS):List Nat→List (Nat × A)
 | []=>[]
 |t::l=>(t,lkE s.es t)::WE s l
def DE(s:LS):List (Nat × Option Blk)→List (Nat × Option Blk)
 | []=>[]
 |(i,some b)::l=>(i,some b)::DE s l
 |(i,none)::l=>(i,x7 s.ms i)::DE s l
def LS.e(s:LS)(nw:List (Nat × A))(kp:List Nat)(mm:List (Nat × Option Blk)):LS:=⟨s.n,nw++WE s kp,DE s mm⟩
def c0(G:List Nat):CV:=⟨G,[],[],[],[],[],[]⟩
def uU(ks:List Nat):List (Nat × A)→List (Nat × A)
 | []=>[]
 |(t,a)::l=>match B7 ks t with|true=>uU ks l|false=>(t,a)::uU ks l
def Zk(ks:List Nat):List (Nat × Option Blk)→List (Nat × Option Blk)
 | []=>[]
 |(i,b)::l=>match B7 ks i with|true=>Zk ks l|false=>(i,b)::Zk ks l
def KM:Nat × Option Blk→Bool
 |(_,some (.box _ _))=>true
 |_=>false
def xV:List (Nat × Option Blk)→List (Nat × Option Blk)
 | []=>[]
 |p::l=>match KM p with|true=>p::xV l|false=>xV l
def vG:List (Nat × Option Blk)→List (Nat × Option Blk)
 | []=>[]
 |p::l=>match KM p with|true=>vG l|false=>p::vG l
def LS.d(s:LS)(nw:List (Nat × A))(dr:List Nat)(nb:List (Nat × Blk))(dm:List Nat):LS:=
 ⟨s.n,nw++uU (nw.map (·.1)++dr) s.es,xV (Zk (nb.map (·.1)++dm) s.ms++S9 nb)++vG (Zk (nb.map (·.1)++dm) s.ms++S9 nb)⟩
section
variable{α:Type}{p:Prop} [Decidable p]{b:Bool}{X Y:Option α}{r:α}{G:Prop}
variable{st:St}{c:Operand}{x y:Code}{Q:Exit→St→Prop}
end
theorem a0E{c:Code}{s:LS}{Q:Exit→St→Prop}(ids:List Nat)(h:W P c (s.frzs ids).st Q):W P c s.st Q:=fun C a w hP ⟨L,hs⟩=>by rw[CP ids s]at h;refine wp_mono (h C a w hP ⟨L,hs.frzs ids⟩) fun e a' w' ⟨st',hn,hq,hs'⟩=>⟨st',by rw[hn,HG],hq,hs'⟩
def rvF(P:Program)(f:FuncId):List ResultVar:=match P.funcs[f]? with|some fn=>fn.results.toList|none=>[]
def ntF(P:Program)(f:FuncId):Nat:=match P.funcs[f]? with|some fn=>fn.ntmps|none=>0
def Lc(P:Program)(f:FuncId)(n:Nat):Bool:=match P.funcs[f]? with|some fn=>(match fn.body with|some _=>Dx P f&&Nat.ble n fn.ntmps|none=>false)|none=>false
theorem a8o{α:Type}{x y:α}(h:some x=some y):x=y:=Option.some.inj h
section
variable{α:Type}{b:Nat}{xs ys z:List α}{i:Int}{x y:α}
def y9(b:Nat)(xs ys:List α):Option (List α):=if M8 b (xs.length+ys.length)then some (xs++ys)else none
theorem pG(h:y9 b xs ys=some z):M8 b (xs.length+ys.length)∧xs++ys=z:=by
 unfold y9 at h;split at h
 ·rename_i h1;exact⟨h1,a8o h⟩
 ·cases h
theorem a9w(c:α→List T)(h:y9 b xs ys=some z):M8 b ((xs.map c).length+(ys.map c).length):=a7U c (pG h).1
theorem b0b(c:α→List T)(h:y9 b xs ys=some z):U7 (xs.map c++ys.map c) (z.map c):=(pG h).2▸a4N c xs ys
theorem a7G(c:α→List T)(h:y9 b [] ys=some z):M8 b (ys.map c).length:=by have h1:=(pG h).1;rw[I6,Nat.zero_add]at h1;exact b3v c h1
theorem a1Y(c:α→List T)(h:y9 b [] ys=some z):U7 (ys.map c) (z.map c):=(pG h).2▸a3J _
end
end
section
open Go.RowKit
set_option maxRecDepth 100000
set_option maxHeartbeats 4000000
def Ye(n:Int):List T:=[tI .i64 n]
def WM(n:Int):List T:=[tI .u8 n]
def Nm(x:b36):List T:=[tS x]
structure d7 where
 Ks:Int
 Ls:Int
 Id:Int
 Cs:Int
 Ns:Int
 Ds:(b36)
deriving DecidableEq,Inhabited
def Ky(x:d7):List T:=[tI .u8 x.Ks,tI .i64 x.Ls,tI .i64 x.Id,tI .i64 x.Cs,tI .i64 x.Ns,tS x.Ds]
structure i8 where
 Ts:Int
 Do:Int
 If:Int
deriving DecidableEq,Inhabited
def Jm(x:i8):List T:=[tI .i64 x.Ts,tI .i64 x.Do,tI .i64 x.If]
structure o4 where
 Ks:Int
 Of:Int
deriving DecidableEq,Inhabited
def Ir(x:o4):List T:=[tI .u8 x.Ks,tI .i64 x.Of]
structure N3 where
 In:(b36)
 Us:Int
 Vs:Int
deriving DecidableEq,Inhabited
def Pg(x:N3):List T:=[tS x.In,tI .i64 x.Us,tI .i64 x.Vs]
structure R0 where
 In:(b36)
 Ts:Int
deriving DecidableEq,Inhabited
def Lw(x:R0):List T:=[tS x.In,tI .i64 x.Ts]
structure u9 where
 In:(b36)
 Gs:Int
 Es:Int
 By:Int
 At:Int
 Ss:Int
 Or:Int
 Ps:Int
deriving DecidableEq,Inhabited
def Nz(x:u9):List T:=[tS x.In,tI .i64 x.Gs,tI .i64 x.Es,tI .i64 x.By,tI .i64 x.At,tI .i64 x.Ss,tI .i64 x.Or,tI .i64 x.Ps]
structure J1 where
 Fn:Int
 In:(b36)
 Ws:Int
 Or:Int
 Ys:Int
deriving DecidableEq,Inhabited
def Ml(x:J1):List T:=[tI .i64 x.Fn,tS x.In,tI .i64 x.Ws,tI .i64 x.Or,tI .i64 x.Ys]
structure O9 where
 Fn:Int
 Gs:Int
 Ls:Int
 Id:Int
deriving DecidableEq,Inhabited
def Mt(x:O9):List T:=[tI .i64 x.Fn,tI .i64 x.Gs,tI .i64 x.Ls,tI .i64 x.Id]
structure l7 where
 No:(List d7)
 Ms:(List i8)
 To:(List o4)
 Rs:(List N3)
 Hs:(List R0)
 As:(List u9)
 Ss:(List Int)
 Vars:(List J1)
 Ps:(List O9)
deriving DecidableEq,Inhabited
def b1x(x:l7):List T:=[.sl 6 (x.No.map Ky),.sl 3 (x.Ms.map Jm),.sl 2 (x.To.map Ir),.sl 3 (x.Rs.map Pg),.sl 2 (x.Hs.map Lw),.sl 8 (x.As.map Nz),.sl 1 (x.Ss.map Ye),.sl 5 (x.Vars.map Ml),.sl 4 (x.Ps.map Mt)]
structure i5 where
 Op:Int
 A:Int
 Ls:Int
deriving DecidableEq,Inhabited
def Um(x:i5):List T:=[tI .u8 x.Op,tI .i64 x.A,tI .i64 x.Ls]
structure B3 where
 At:Int
 On:Int
 Es:Int
 Ss:Int
 By:Int
deriving DecidableEq,Inhabited
def Vw(x:B3):List T:=[tI .i64 x.At,tI .i64 x.On,tI .i64 x.Es,tI .i64 x.Ss,tI .i64 x.By]
structure o9 where
 Qs:(List i5)
 As:(List B3)
 Is:(List (b36))
deriving DecidableEq,Inhabited
def a8R(x:o9):List T:=[.sl 3 (x.Qs.map Um),.sl 5 (x.As.map Vw),.sl 1 (x.Is.map Nm)]
def EL(x:o9):List A:=[.t (.sl 3 (x.Qs.map Um)),.t (.sl 5 (x.As.map Vw)),.t (.sl 1 (x.Is.map Nm))]
def Ie(x:o9):A:=.agg (EL x)
structure x8 where
 Code:Int
 Ls:Int
 Id:Int
deriving DecidableEq,Inhabited
def b1k(x:x8):List T:=[tI .i64 x.Code,tI .i64 x.Ls,tI .i64 x.Id]
structure v6 where
 p_:l7
 c_:o9
 from_:Int
 texts_:(List ((b36) × Int))
def a45(x:v6):List T:=[.sl 6 (x.p_.No.map Ky),.sl 3 (x.p_.Ms.map Jm),.sl 2 (x.p_.To.map Ir),.sl 3 (x.p_.Rs.map Pg),.sl 2 (x.p_.Hs.map Lw),.sl 8 (x.p_.As.map Nz),.sl 1 (x.p_.Ss.map Ye),.sl 5 (x.p_.Vars.map Ml),.sl 4 (x.p_.Ps.map Mt),.sl 3 (x.c_.Qs.map Um),.sl 5 (x.c_.As.map Vw),.sl 1 (x.c_.Is.map Nm),tI .i64 x.from_,.any]
structure B8 where
 P:l7
 Is:(List (b36))
deriving DecidableEq,Inhabited
def a4f(x:B8):List T:=[.sl 6 (x.P.No.map Ky),.sl 3 (x.P.Ms.map Jm),.sl 2 (x.P.To.map Ir),.sl 3 (x.P.Rs.map Pg),.sl 2 (x.P.Hs.map Lw),.sl 8 (x.P.As.map Nz),.sl 1 (x.P.Ss.map Ye),.sl 5 (x.P.Vars.map Ml),.sl 4 (x.P.Ps.map Mt),.sl 1 (x.Is.map Nm)]
structure FH where
 b_:(List Int)
deriving DecidableEq,Inhabited
def a4D(x:FH):List T:=[.sl 1 (x.b_.map WM)]
structure FL where
 b_:(List Int)
 e_:Int
deriving DecidableEq,Inhabited
def a0c(x:FL):List T:=[.sl 1 (x.b_.map WM),tI .i64 x.e_]
structure l6 where
 Ks:Int
 Ls:Int
 Id:Int
 Ns:Int
 Ds:(b36)
deriving DecidableEq,Inhabited
def NU(x:l6):List T:=[tI .u8 x.Ks,tI .i64 x.Ls,tI .i64 x.Id,tI .i64 x.Ns,tS x.Ds]
structure i6 where
 L:(List l6)
 I:Int
 Js:Int
 F:x8
deriving DecidableEq,Inhabited
def a3a(x:i6):List T:=[.sl 5 (x.L.map NU),tI .i64 x.I,tI .i64 x.Js,tI .i64 x.F.Code,tI .i64 x.F.Ls,tI .i64 x.F.Id]
structure i9 where
 L:(List d7)
 M:(List i8)
 P:l7
 T:(List o4)
 F:x8
 By:Int
deriving DecidableEq,Inhabited
def a6u(x:i9):List T:=[.sl 6 (x.L.map Ky),.sl 3 (x.M.map Jm),.sl 6 (x.P.No.map Ky),.sl 3 (x.P.Ms.map Jm),.sl 2 (x.P.To.map Ir),.sl 3 (x.P.Rs.map Pg),.sl 2 (x.P.Hs.map Lw),.sl 8 (x.P.As.map Nz),.sl 1 (x.P.Ss.map Ye),.sl 5 (x.P.Vars.map Ml),.sl 4 (x.P.Ps.map Mt),.sl 2 (x.T.map Ir),tI .i64 x.F.Code,tI .i64 x.F.Ls,tI .i64 x.F.Id,tI .i64 x.By]
structure d8 where
 P:l7
 Rs:(List (b36))
 F:x8
deriving DecidableEq,Inhabited
def a5x(x:d8):List T:=[.sl 6 (x.P.No.map Ky),.sl 3 (x.P.Ms.map Jm),.sl 2 (x.P.To.map Ir),.sl 3 (x.P.Rs.map Pg),.sl 2 (x.P.Hs.map Lw),.sl 8 (x.P.As.map Nz),.sl 1 (x.P.Ss.map Ye),.sl 5 (x.P.Vars.map Ml),.sl 4 (x.P.Ps.map Mt),.sl 1 (x.Rs.map Nm),tI .i64 x.F.Code,tI .i64 x.F.Ls,tI .i64 x.F.Id]
structure w8 where
 In:(b36)
 Ws:Int
 Xs:Int
 At:Int
deriving DecidableEq,Inhabited
def a3t(x:w8):List T:=[tS x.In,tI .i64 x.Ws,tI .i64 x.Xs,tI .i64 x.At]
structure I4 where
 e0_:Int
 e1_:Int
 e2_:Int
 e3_:Int
 e4_:Int
 e5_:Int
 e6_:Int
 e7_:Int
deriving DecidableEq,Inhabited
def b1z(x:I4):List T:=[tI .i64 x.e0_,tI .i64 x.e1_,tI .i64 x.e2_,tI .i64 x.e3_,tI .i64 x.e4_,tI .i64 x.e5_,tI .i64 x.e6_,tI .i64 x.e7_]
def yK(x:I4):List A:=[aI .i64 x.e0_,aI .i64 x.e1_,aI .i64 x.e2_,aI .i64 x.e3_,aI .i64 x.e4_,aI .i64 x.e5_,aI .i64 x.e6_,aI .i64 x.e7_]
def Ft(x:I4):A:=.agg (yK x)
end
section
open Go.RowKit
set_option maxRecDepth 100000
set_option maxHeartbeats 4000000
def a5e(a0:Int)(r:I4):Prop:=FnP Tryz.prog 138 [aI .i64 a0] (Ft r)
def a7B(a0:I4)(r:Int):Prop:=FnP Tryz.prog 139 [Ft a0] (aI .i64 r)
def a0W(a0:I4)(r:I4):Prop:=FnP Tryz.prog 137 [Ft a0] (Ft r)
def a8I(a0:o9)(a1:Int)(r:(b36)):Prop:=FnP Tryz.prog 15 [Ie a0,aI .i64 a1] (aS r)
end
end
end Go.Proofs.YtihbbcealnnpiaaGreatDoor
