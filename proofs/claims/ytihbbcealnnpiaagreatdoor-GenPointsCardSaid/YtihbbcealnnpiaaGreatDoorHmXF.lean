/- Parts of the proof. -/
import Derived.Test.YtihbbcealnnpiaaGreatDoorHmBase
import Derived.Test.YtihbbcealnnpiaaGreatDoorHmXE
import Derived.Test.YtihbbcealnnpiaaGreatDoorHmAxTab
import Derived.Lib.BufferRead
import Derived.Laws.IdiomStrings
import Derived.Laws.StructEq
import Derived.Laws.Cover3
import Derived.Laws.MakeOwn
import Derived.Laws.RangeString
import Derived.Laws.RangeAny
set_option linter.unusedVariables false
namespace Go.Proofs.YtihbbcealnnpiaaGreatDoor
noncomputable section
section
universe u
section
variable{ι:Type}{β:ι→Type}
def M1(B:((i:ι)→Option (β i))→(i:ι)→Option (β i)):Nat→(i:ι)→Option (β i)
 |0,_=>none
 |n+1,i=>B (M1 B n) i
def RF:Nat:=1152921504606846976
open Classical in
def G4(B:((i:ι)→Option (β i))→(i:ι)→Option (β i))(i:ι):Option (β i):=
 match M1 B RF i with
 |some r=>some r
 |none=>if h:∃n,(M1 B n i).isSome=true then M1 B (Classical.choose h) i else none
def G6{γ:Type}(F:((i:ι)→Option (β i))→Option γ):Prop:=
 ∀g r,F g=some r→∃l:List ι,∀g',(∀i∈l,∀x,g i=some x→g' i=some x)→F g'=some r
theorem P5{γ:Type}(c:Option γ):G6 (β:=β) (fun _=>c):=fun g r h=>⟨[],fun _ _=>h⟩
theorem CH(i:ι):G6 (β:=β) (fun g=>g i):=fun g r h=>⟨[i],fun g' hg=>hg i (by simp) r h⟩
theorem zH{γ δ:Type}{F:((i:ι)→Option (β i))→Option γ}{K:γ→((i:ι)→Option (β i))→Option δ}(h1:G6 F)(h2:∀x,G6 (K x)):G6 (fun g=>(F g).bind fun x=>K x g):=fun g r h=>by obtain⟨x,hx,hr⟩:=Option.bind_eq_some_iff.1 h;obtain⟨l1,k1⟩:=h1 g x hx;obtain⟨l2,k2⟩:=h2 x g r hr;refine⟨l1++l2,fun g' hg=>?_⟩;show(F g').bind _=_;rw[k1 g' fun i hi=>hg i (by simp[hi])];exact k2 g' fun i hi=>hg i (by simp[hi])
variable{B:((i:ι)→Option (β i))→(i:ι)→Option (β i)}
theorem uA{γ:Type}{F:((i:ι)→Option (β i))→Option γ}(h:G6 F){g g':(i:ι)→Option (β i)}(hg:∀i x,g i=some x→g' i=some x){r:γ}(hr:F g=some r):F g'=some r:=by obtain⟨l,k⟩:=h g r hr;exact k g' fun i _=>hg i
theorem MM(hB:∀i,G6 (fun g=>B g i)):∀n i r,M1 B n i=some r→M1 B (n+1) i=some r
 |0,i,r,h=>by cases h
 |n+1,i,r,h=>uA (hB i) (MM hB n) h
theorem Zv(hB:∀i,G6 (fun g=>B g i)){n m:Nat}(hnm:n≤m){i:ι}{r:β i}(h:M1 B n i=some r):M1 B m i=some r:=by
 induction hnm with
 |refl=>exact h
 |step _ ih=>exact MM hB _ _ _ ih
theorem rQ{i:ι}{r:β i}(h:G4 B i=some r):∃n,M1 B n i=some r:=by
 unfold G4 at h;split at h
 ·rename_i x hx;exact⟨RF,hx.trans h⟩
 ·split at h
  ·exact⟨_,h⟩
  ·cases h
theorem KQ(hB:∀i,G6 (fun g=>B g i)){n:Nat}{i:ι}{r:β i}(h:M1 B n i=some r):G4 B i=some r:=by
 have hx:∃n,(M1 B n i).isSome=true:=⟨n,by rw[h];rfl⟩;have same:∀m r',M1 B m i=some r'→r'=r:=fun m r' hm=>by have h1:=Zv hB (Nat.le_max_left n m) h;have h2:=Zv hB (Nat.le_max_right n m) hm;rw[h1]at h2;cases h2;rfl
 unfold G4;split
 ·rename_i x hx;rw[same _ _ hx]
 ·rw[dif_pos hx];obtain⟨r',hr'⟩:=z8.1 (Classical.choose_spec hx);rw[hr',same _ _ hr']
theorem FF(hB:∀i,G6 (fun g=>B g i))(i:ι):G4 B i=B (G4 B) i:=by
 have main:∀r,G4 B i=some r↔B (G4 B) i=some r:=fun r=>by
  constructor
  ·intro h;obtain⟨n,hn⟩:=rQ h;cases n with
   |zero=>cases hn
   |succ n=>exact uA (hB i) (fun j x hx=>KQ hB hx) hn
  ·intro h;obtain⟨l,k⟩:=hB i _ _ h;have:∃N,∀j∈l,∀x,G4 B j=some x→M1 B N j=some x:=by
    clear k
    induction l with
    |nil=>exact⟨0,fun j hj=>by simp at hj⟩
    |cons a l ih=>
     obtain⟨N,hN⟩:=ih;cases ha:G4 B a with
     |none=>
      refine⟨N,fun j hj x hx=>?_⟩;rcases F9.1 hj with rfl|hj
      ·rw[ha]at hx;cases hx
      ·exact hN j hj x hx
     |some y=>
      obtain⟨n,hn⟩:=rQ ha;refine⟨max n N,fun j hj x hx=>?_⟩;rcases F9.1 hj with rfl|hj
      ·rw[ha]at hx;cases hx;exact Zv hB (Nat.le_max_left _ _) hn
      ·exact Zv hB (Nat.le_max_right _ _) (hN j hj x hx)
   obtain⟨N,hN⟩:=this;exact KQ hB (n:=N+1) (k _ hN)
 cases h:B (G4 B) i with
 |some r=>exact(main r).2 h
 |none=>
  cases h':G4 B i with
  |none=>rfl
  |some r=>rw[(main r).1 h']at h;cases h
attribute [irreducible] G4
end
end
section
open Go.RowKit
variable{P:Program}
abbrev w64(n:Int):Int:=IntKind.wrap .i64 n
abbrev mkS(s:b38):ByteArray:=ByteArray.mk (Array.mk s)
def f5{α:Type}(xs:List α)(i:Int):Option α:=if 0≤i then xs[i.toNat]? else none
abbrev tI(k:IntKind)(n:Int):T:=.v (.int k n)
abbrev tS(s:b38):T:=.v (.string (mkS s))
abbrev aI(k:IntKind)(n:Int):A:=.t (.v (.int k n))
abbrev aB(b:Bool):A:=.t (.v (.bool b))
abbrev aS(s:b38):A:=.t (.v (.string (mkS s)))
instance(b n:Nat):Decidable (M4 b n):=by unfold M4;infer_instance
theorem HR{α:Type}{p:Prop} [Decidable p]{x:Option α}{r:α}(h:(if p then x else none)=some r):p∧x=some r:=by
 split at h
 ·exact⟨‹p›,h⟩
 ·cases h
theorem Yb{α β:Type}{x:Option α}{k:α→Option β}{r:β}(h:x.bind k=some r):∃y,x=some y∧k y=some r:=Option.bind_eq_some_iff.1 h
section
variable{α:Type}{c:α→List T}{xs ys:List α}{i:Int}{x y:α}{b:Nat}
theorem gY(h:f5 xs i=some x):0≤i∧xs[i.toNat]? =some x:=by
 unfold f5 at h;split at h
 ·rename_i h0;exact⟨h0,h⟩
 ·cases h
theorem a0A(h:f5 xs i=some x):Oo (xs.map c) i i.toNat (c x):=by obtain⟨h0,h1⟩:=gY h;exact⟨by omega,by rw[I6,h1];rfl⟩
theorem b0J{s:b38}{b:UInt8}(h:f5 s i=some b):Vr (mkS s) i i.toNat b:=by obtain⟨h0,h1⟩:=gY h;refine⟨by omega,?_⟩;obtain⟨hl,rfl⟩:=l3.1 h1;exact getElem?_pos (c:=mkS s) (i:=i.toNat) hl
theorem a9x:U1 (xs.map c++ys.map c) ((xs++ys).map c):=(D9).symm
theorem b0I(h:M4 b (xs.length+ys.length)):M4 b ((xs.map c).length+(ys.map c).length):=by rw[E1,E1];exact h
theorem a8Z(h:M4 b ys.length):M4 b (ys.map c).length:=by rw[E1];exact h
theorem a3L(x:List (List T)):U1 x x:=rfl
theorem a9I(c:α→List T)(h:f5 xs i=some x):Oo (xs.map c) i i.toNat (c x):=a0A h
theorem a4P(c:α→List T)(xs ys:List α):U1 (xs.map c++ys.map c) ((xs++ys).map c):=a9x
theorem a7U(c:α→List T)(h:M4 b (xs.length+ys.length)):M4 b ((xs.map c).length+(ys.map c).length):=b0I h
theorem b3x(c:α→List T)(h:M4 b ys.length):M4 b (ys.map c).length:=a8Z h
end
theorem KC(s:ByteArray):∀(n i:Nat) (r:b38),n=s.size-i→ByteArray.toList.loop s i r=r.reverse++s.data.toList.drop i
 |0,i,r,h=>by unfold ByteArray.toList.loop;have:s.data.toList.length=s.size:=rfl;rw[if_neg (by omega),N3 (by omega)];simp
 |n+1,i,r,h=>by
  unfold ByteArray.toList.loop;have hl:s.data.toList.length=s.size:=rfl;rw[if_pos (by omega),KC s n (i+1) _ (by omega)];have hi:i<s.data.toList.length:=(by omega);rw[←List.getElem_cons_drop hi];have:s.get! i=s.data.toList[i]:=by show s.data[i]! =_;rw[getElem!_pos s.data i (by simpa using hi)];simp
  rw[this];simp
theorem Y4(s:b38):(mkS s).toList=s:=by unfold ByteArray.toList;rw[KC _ _ 0 [] rfl];simp
theorem FX(a b:b38):(a==b)=decide (a=b):=by by_cases h:a=b<;>simp[h]
theorem a6D(ty:TypeId)(a b:b38):Bo P .eql ty (.string (mkS a)) (.string (mkS b)) (.bool (decide (a=b))):=by show some (Value.bool ((mkS a).toList==(mkS b).toList))=_;rw[Y4,Y4,FX]
theorem b2M(ty:TypeId)(a b:b38):Bo P .neq ty (.string (mkS a)) (.string (mkS b)) (.bool (!decide (a=b))):=by show some (Value.bool (!((mkS a).toList==(mkS b).toList)))=_;rw[Y4,Y4,FX]
theorem a68(ty:TypeId)(a b:b38):Bo P .lss ty (.string (mkS a)) (.string (mkS b)) (.bool (Op.bytesLess a b)):=by show some (Value.bool (Op.bytesLess (mkS a).toList (mkS b).toList))=_;rw[Y4,Y4]
abbrev vG(a b:b38):Prop:=a.length+b.length≤9223372036854775807
theorem b1h(a b:b38):mkS a++mkS b=mkS (a++b):=by
 apply ByteArray.ext
 apply Array.ext'
 simp
theorem a5g(ty:TypeId){a b:b38}(h:vG a b):Bo P .add ty (.string (mkS a)) (.string (mkS b)) (.string (mkS (a++b))):=by
 show Dc (Op.stringOp .add (mkS a) (mkS b))=_;unfold Op.stringOp;have:¬((((mkS a).size+(mkS b).size:Nat):Int)>IntKind.i64.max):=by have h1:(mkS a).size=a.length:=rfl;have h2:(mkS b).size=b.length:=rfl;rw[h1,h2];have:IntKind.i64.max=9223372036854775807:=rfl;unfold vG at h;omega
 simp only;rw[if_neg this,b1h];rfl
def b0m{σ:Type}(m:Nat)(N:Nat→σ→Prop)(S:σ→St)(Q:Exit→St→Prop):Exit→St→Prop
 |.normal,st=>∃k x',k≤m∧N k x'∧S0 st (S x')
 |e,st=>Q e st
theorem b12{σ:Type}(N:Nat→σ→Prop)(S:σ→LS){c:Code}{Q:Exit→St→Prop}(h0:∀x,¬N 0 x)(hn:∀x y,(S x).n=(S y).n)(h:∀m x,N (m+1) x→W P c (S x).st (b0m m N (fun x=>(S x).st) Q))(n:Nat)(x:σ)(hx:N n x):W P (.loop c) (S x).st Q:=by
 refine b3g (σ:=Nat × σ) (fun p=>N p.1 p.2) (fun p=>p.1) (fun p=>(S p.2).st) (n,x) hx (S0.refl _) (fun p=>hn _ _) ?_;rintro⟨m,x⟩ hx;cases m with
 |zero=>exact(h0 x hx).elim
 |succ m=>
  refine fun C a w hP hs=>wp_mono (h m x hx C a w hP hs) ?_;rintro e a' w' ⟨st',h1,h2,h3⟩;refine⟨st',h1,?_,h3⟩;cases e with
  |normal=>obtain⟨k,x',hk,hN,hf⟩:=h2;exact⟨(k,x'),hN,Nat.lt_succ_of_le hk,hf⟩
  |_=>exact h2
theorem a8J{c:Code}{st st':St}{Q:Exit→St→Prop}(hf:S0 st st')(h:W P c st' Q):W P c st Q:=fun C a w hP hs=>wp_mono (h C a w hP (hf.2 C a w hs)) fun e a' w' ⟨st'',hn,hq,hs'⟩=>⟨st'',by rw[hn,hf.1],hq,hs'⟩
def Sb(P:Program)(f:FuncId):Code:=match P.funcs[f]? with|some fn=>(match fn.body with|some c=>c|none=>.skip)|none=>.skip
end
section
open Go.RowKit
variable{P:Program}
def C8(a b n:Int):Prop:=0≤a∧a≤b∧b≤n
instance(a b n:Int):Decidable (C8 a b n):=by unfold C8;infer_instance
def x6{α:Type}(xs:List α)(a b:Int):List α:=(xs.drop a.toNat).take (b-a).toNat
theorem a8c{α β:Type}(f:α→β)(xs:List α)(a b:Int):(x6 xs a b).map f=x6 (xs.map f) a b:=by unfold x6;rw[List.map_take,List.map_drop]
def G7(k:IntKind)(low:Option Operand)(a:Int):List A:=match low with|some _=>[aI k a]|none=>[]
theorem yO(k:IntKind)(a:Int)(y:Nat)(c:BoundsCode)(w:World)(h:0≤a∧a≤y):(Instr.sliceBound (.int k a) y c).run P w=.ok a.toNat w:=by unfold Instr.sliceBound;simp[asIntOf,h]
theorem GM{w:World}{M:Nat→Prop}{k:IntKind}{a:Int}{v:Value}(h:D4 w M (aI k a) v):v=.int k a:=B7 h
theorem vW(sl:Bool)(len cap:Nat)(low high:Option Value)(ka kb:IntKind)(a b:Int)(w:World)(hR:C8 a b len)(hc:len≤cap)(hl:low=none∧a=0∨low=some (.int ka a))(hh:high=none∧b=len∨high=some (.int kb b)):(Instr.sliceBounds sl len cap low high none).run P w=.ok (a.toNat,b.toNat,cap) w:=by
 obtain⟨h1,h2,h3⟩:=hR;unfold Instr.sliceBounds;rcases hh with⟨rfl,rfl⟩|rfl
 ·rcases hl with⟨rfl,rfl⟩|rfl
  ·simp
  ·simp[yO (P:=P) ka a len _ w ⟨h1,by omega⟩]
 ·rw[Sem.run_bind];simp only[Sem.run_pure,Result.andThen_ok];rw[Sem.run_bind,yO kb b cap _ w ⟨by omega,by omega⟩];simp only[Result.andThen_ok];rcases hl with⟨rfl,rfl⟩|rfl
  ·simp
  ·simp[yO (P:=P) ka a b.toNat _ w ⟨h1,by omega⟩]
theorem LZ{w:World}{M:Nat→Prop}{ρ:Operand→Value}{low:Option Operand}{k:IntKind}{a:Int}(h0:low=none→a=0)(h:∀x,low=some x→D4 w M (aI k a) (ρ x)):low.map ρ=none∧a=0∨low.map ρ=some (.int k a):=by
 cases low with
 |none=>exact .inl ⟨rfl,h0 rfl⟩
 |some x=>exact .inr (by rw[F4,GM (h x rfl)])
theorem YM{w:World}{M:Nat→Prop}{ρ:Operand→Value}{high:Option Operand}{k:IntKind}{b:Int}{n:Nat}(h0:high=none→b=n)(h:∀x,high=some x→D4 w M (aI k b) (ρ x)):high.map ρ=none∧b=n∨high.map ρ=some (.int k b):=by
 cases high with
 |none=>exact .inl ⟨rfl,h0 rfl⟩
 |some x=>exact .inr (by rw[F4,GM (h x rfl)])
theorem QT{o:Oper}{t:TypeId}{x:Operand}{low high:Option Operand}(ho:o.op=.slice t x low high none){w:World}{M:Nat→Prop}{ρ:Operand→Value}{X:A}{ka kb:IntKind}{a b:Int}(hl:(X::(G7 ka low a++G7 kb high b)).length=(opL o.op).length)(h:∀i (hi:i<(X::(G7 ka low a++G7 kb high b)).length) (hi':i<(opL o.op).length),D4 w M ((X::(G7 ka low a++G7 kb high b))[i]) (ρ ((opL o.op)[i]))):D4 w M X (ρ x)∧(∀y,low=some y→D4 w M (aI ka a) (ρ y))∧(∀y,high=some y→D4 w M (aI kb b) (ρ y)):=by
 have ho':opL o.op=x::(low.toList++(high.toList++[])):=(by rw[ho];rfl);generalize hL:opL o.op=L at hl h ho';subst ho';refine⟨h 0 (by simp) (by simp),fun y hy=>?_,fun y hy=>?_⟩
 ·subst hy;exact h 1 (by simp[G7]) (by simp)
 ·subst hy;cases low with
  |none=>exact h 1 (by simp[G7]) (by simp)
  |some z=>exact h 2 (by simp[G7]) (by simp)
theorem b21(s:b38)(a b:Int)(h:C8 a b s.length):(mkS s).extract a.toNat b.toNat=mkS (x6 s a b):=by
 apply ByteArray.ext
 apply Array.ext'
 obtain⟨h1,h2,h3⟩:=h;rw[ByteArray.data_extract];simp only[Array.toList_extract,x6];rw[List.extract_eq_take_drop];congr 1;omega
theorem a3n{o:Oper}{t:TypeId}{x:Operand}{low high:Option Operand}(ho:o.op=.slice t x low high none)(ht:P.underlying t=some .string){s:b38}{ka kb:IntKind}{a b:Int}(hR:C8 a b s.length)(h1:low=none→a=0)(h2:high=none→b=s.length):Aj P o (aS s::(G7 ka low a++G7 kb high b)) (aS (x6 s a b)):=by intro w M ρ _ hl h;obtain⟨r1,r2,r3⟩:=QT ho hl h;refine⟨.string (mkS (x6 s a b)),w,?_,Below.refl _ _,.t _ _ (.v _ rfl)⟩;have e1:ρ x=.string (mkS s):=B7 r1;unfold execOp;simp only[ho,e1];unfold Instr.sliceAt Instr.slice;have hb:=vW (P:=P) false s.length s.length (low.map ρ) (high.map ρ) ka kb a b w hR (i4 _) (LZ h1 r2) (YM h2 r3);have hsz:(mkS s).size=s.length:=rfl;simp only[Sem.run_bind,run_underlying ht,Result.andThen_ok,Option.map_none,hsz,hb,Sem.run_pure,Option.isSome_none,Bool.false_eq_true,if_false,b21 s a b hR]
theorem Kv{α:Type}(xs:List α)(a b:Int)(h:C8 a b xs.length):(x6 xs a b).length=(b-a).toNat∧∀i (hi:i<(x6 xs a b).length),a.toNat+i<xs.length∧∀(h':a.toNat+i<xs.length),(x6 xs a b)[i]=xs[a.toNat+i]:=by
 obtain⟨h1,h2,h3⟩:=h;have hl:(x6 xs a b).length=(b-a).toNat:=(by unfold x6;rw[List.length_take,List.length_drop];omega);refine⟨hl,fun i hi=>⟨by omega,fun h'=>?_⟩⟩;have:(x6 xs a b)[i]? =xs[a.toNat+i]? :=by unfold x6;rw[List.getElem?_take,if_pos (by omega),List.getElem?_drop]
 rw[o5 hi,o5 h']at this;exact Option.some.inj this
theorem a9z{o:Oper}{t e:TypeId}{te:TI}{x:Operand}{low high:Option Operand}{k:Nat}(ho:o.op=.slice t x low high none)(ht:P.underlying t=some (.slice e))(hte:p8 P e=some te)(hk:te.size=k){xs:List (List T)}{ka kb:IntKind}{a b:Int}(hR:C8 a b xs.length)(h1:low=none→a=0)(h2:high=none→b=xs.length):Aj P o (.t (.sl k xs)::(G7 ka low a++G7 kb high b)) (.t (.sl k (x6 xs a b))):=by
 intro w M ρ _ hl h;obtain⟨r1,r2,r3⟩:=QT ho hl h;have hsz:∀w,(sizeOf e).run P w=.ok k w:=fun w=>by obtain⟨inf,d,z,hi,hu,hz,q1,_⟩:=(L9 hte).ex;rw[←hk,q1];have:=run_sizeOf (P:=P) w hi;rw[show P.cellsOf e=inf.size by simp[Program.cellsOf,hi]]at this;exact this
 obtain⟨hcl,hcg⟩:=Kv xs a b hR;have hrep:=Hr r1;generalize hv:ρ x=v at hrep;have go:∀(ad:Option Addr) (cap:Nat),v=.slice ad xs.length cap→xs.length≤cap→(execOp ρ o).run P w=.ok (.value (.slice (if cap=a.toNat then ad else ad.map (·.add (a.toNat*k))) (b.toNat-a.toNat) (cap-a.toNat))) w:=fun ad cap e hc=>by subst e;unfold execOp;simp only[ho,hv];unfold Instr.sliceAt Instr.slice;have hb:=vW (P:=P) true xs.length cap (low.map ρ) (high.map ρ) ka kb a b w hR hc (LZ h1 r2) (YM h2 r3);simp only[Sem.run_bind,run_underlying ht,Result.andThen_ok,Option.map_none,hb,Sem.run_pure,hsz]
 obtain⟨c1,c2,c3⟩:=hR;have hsub:b.toNat-a.toNat=(x6 xs a b).length:=(by rw[hcl];omega);cases hrep with
 |nil _ ad cap hcm=>have:=go ad cap rfl (C9 _);refine⟨_,w,this,Below.refl _ _,.t _ _ ?_⟩;have e0:x6 ([]:List (List T)) a b=[]:=(by unfold x6;simp);have ea:a.toNat=0:=(by simp at c3;omega);have eb:b.toNat=0:=(by simp at c3;omega);rw[e0,ea,eb];exact .nil _ _ _ (by omega)
 |sl _ _ blk off cap c hb hM hcap hcm hkk hc hr=>
  have:=go (some ⟨blk,off,none⟩) cap rfl hcap;refine⟨_,w,this,Below.refl _ _,.t _ _ ?_⟩;by_cases hca:cap=a.toNat
  ·rw[if_pos hca];have:(x6 xs a b)=[]:=List.eq_nil_of_length_eq_zero (by rw[hcl];omega);rw[hsub,this];exact .nil _ _ _ (by omega)
  ·rw[if_neg hca,hsub];have hadd:(⟨blk,off,none⟩:Addr).add (a.toNat*k)=⟨blk,off+a.toNat*k,none⟩:=(by unfold Addr.add;split<;>simp_all);rw[F4,hadd];refine .sl k _ blk (off+a.toNat*k) (cap-a.toNat) (fun i j=>c (a.toNat+i) j) hb hM (by omega) (by omega) (fun i hi=>?_) (fun i hi j hj=>?_) (fun i hi j hj=>?_)
   ·obtain⟨g1,g2⟩:=hcg i hi;rw[g2 g1];exact hkk _ g1
   ·obtain⟨g1,g2⟩:=hcg i hi;have:=hc (a.toNat+i) g1 j hj;rw[show off+a.toNat*k+(i*k+j)=off+((a.toNat+i)*k+j) by rw[Nat.add_mul];omega];exact this
   ·obtain⟨g1,g2⟩:=hcg i hi;have hj':j<(xs[a.toNat+i]).length:=(by rw[←g2 g1];exact hj);have:=hr (a.toNat+i) g1 j hj';simp only[g2 g1];exact this
end
section
open Go.RowKit
variable{P:Program}
theorem v7.seto{C:Ctx}{st:St}{L:Nat→Loc}{a:Act}{w:World}(h:v7 C st L a w)(id:Nat)(old blk:Blk)(ho:st.mem id=some old)(hal:old.alike blk)(g:Nat)(hg:(L id).blk=some g){w':World}(os:w'.os=w.os)(tape:w'.tape=w.tape)(output:w'.output=w.output)(size:w'.heap.size=w.heap.size)(block:∀q,q≠g→w'.heap[q]? =w.heap[q]?)(hb:X8 (st.setm id blk) L w' (Mut C st L) id blk):v7 C (st.setm id blk) L a w':=by
 have hM:∀b,Mut C (st.setm id blk) L b→Mut C st L b:=by
  rintro b (hx|⟨i,hs,hli⟩)
  ·exact .inl hx
  ·refine .inr ⟨i,?_,hli⟩;by_cases e:i=id
   ·subst e;rw[ho];rfl
   ·simpa[St.setm,upd,e]using hs
 have hold:∀i,((st.setm id blk).mem i).isSome=true→∃x,st.mem i=some x:=fun i hs=>by
  by_cases e:i=id
  ·exact⟨old,by rw[e];exact ho⟩
  ·exact z8.1 (by simpa[St.setm,upd,e]using hs)
 refine h.next rfl h.hn h.hd os tape output (by rw[size];exact i4 _) (fun b hb hm=>block b fun e=>hm ⟨id,by rw[ho];rfl,by rw[e];exact .inl hg⟩) (fun i hi=>hi) (fun i hi b' hb'=>?_) (fun i hs hf b hl=>?_) (fun i hs hf=>?_) (fun i j b hi hj hfi hfj _ _=>?_) (fun i b' hb'=>?_) (fun t=>.inl ⟨rfl,rfl⟩)
 ·by_cases e:i=id
  ·subst e;have:b'=blk:=(by simpa[St.setm,upd]using hb'.symm);subst this;exact⟨old,ho,hal,rfl⟩
  ·exact⟨b',by simpa[St.setm,upd,e]using hb',b'.alike_refl,rfl⟩
 ·obtain⟨x,hx⟩:=hold i hs;have:=(h.mem i x hx).1;rw[hf]at this;cases this
 ·obtain⟨x,hx⟩:=hold i hs;have:=(h.mem i x hx).1;rw[hf]at this;cases this
 ·obtain⟨x,hx⟩:=hold i hi;have:=(h.mem i x hx).1;rw[hfi]at this;cases this
 ·by_cases e:i=id
  ·subst e;have:b'=blk:=(by simpa[St.setm,upd]using hb'.symm);subst this;refine⟨(h.mem i old ho).1,.inr ?_⟩;exact hb.ext (Ext.refl _ _) (fun b _ h=>hM b h) (fun i h=>h) (Xl _ L) rfl (fun _ _=>rfl)
  ·have hx:st.mem i=some b':=(by simpa[St.setm,upd,e]using hb');refine⟨(h.mem i b' hx).1,.inl ⟨hx,rfl,fun b hl=>block b fun eb=>?_⟩⟩;subst eb;exact e (h.inj i id b (by rw[hx];rfl) (by rw[ho];rfl) hl (.inl hg))
theorem KL{C:Ctx}{st:St}{L:Nat→Loc}{a:Act}{w:World}(hs:v7 C st L a w){x:Operand}{id:Nat}(hy:st.ev x=.ob id){od:Od}(hm:st.mem id=some (.obj od)):∃g o,(L id).blk=some g∧w.heap[g]? =some o∧Bm w (Mut C st L) (L id).own g od o∧a.eval x=(L id).ob od:=by
 obtain⟨g,o,hg,hw,hr⟩:=(hs.mem id _ hm).2;have hr':=B4 hs x;rw[hy]at hr';generalize hv:a.eval x=v at hr';cases hr' with
 |ob _ _ h1 hu hq=>exact⟨g,o,hg,hw,hr,hq od hm⟩
theorem a0Y{α:Type}{o:Oper}{t e:TypeId}{te:TI}{x:Operand}{low high:Option Operand}(ho:o.op=.slice t x low high none)(ht:P.underlying t=some (.slice e))(hte:p8 P e=some te){k:Nat}(hk:te.size=k)(c:α→List T){xs:List α}{ka kb:IntKind}{b:Int}(hR:C8 0 b xs.length)(h2:high=none→b=xs.length):Mq P o 0 (.row e k (xs.map c)) (.dead::(G7 ka low 0++G7 kb high b)) (.row e k ((x6 xs 0 b).map c)):=by
 intro st id d K hdst h1 h3 hm hu hK C a w hP ⟨L,hs⟩ hd next Q hn
 have hops:opL o.op=x::(low.toList++(high.toList++[])):=(by rw[ho];rfl);rw[hops]at h1 h3;simp only[List.map_cons,List.getElem?_cons_zero,M8,List.set_cons_zero,List.cons.injEq,true_and]at h1 h3;have hlow:low.map a.eval=none∧(0:Int)=0∨low.map a.eval=some (.int ka 0):=by
  cases low with
  |none=>exact .inl ⟨rfl,rfl⟩
  |some y=>refine .inr ?_;have:st.ev y=aI ka 0:=(by simp[G7]at h3;exact h3.1);have h5:=B4 hs y;rw[this]at h5;rw[F4,B7 h5]
 have hhigh:high.map a.eval=none∧b=xs.length∨high.map a.eval=some (.int kb b):=by
  cases high with
  |none=>exact .inl ⟨rfl,h2 rfl⟩
  |some y=>
   refine .inr ?_;have:st.ev y=aI kb b:=(by cases low<;>(simp[G7]at h3;first|exact h3|exact h3.2))
   have h5:=B4 hs y;rw[this]at h5;rw[F4,B7 h5]
 have hsz:∀w,(sizeOf e).run P w=.ok k w:=fun w=>by obtain⟨inf,d,z,hi,hu,hz,q1,_⟩:=(L9 hte).ex;rw[←hk,q1];have:=run_sizeOf (P:=P) w hi;rw[show P.cellsOf e=inf.size by simp[Program.cellsOf,hi]]at this;exact this
 have hr:=B4 hs x;rw[h1]at hr;generalize hv:a.eval x=v at hr;obtain⟨c1,c2,c3⟩:=hR;have hlen:(x6 xs 0 b).length=b.toNat:=(by unfold x6;rw[List.length_take,List.length_drop];simp;omega);have hcut:x6 xs 0 b=xs.take b.toNat:=(by unfold x6;simp);cases hr with
 |ref _ _ q1 hus hq=>
  have hval:=hq _ _ _ hm;rw[E1]at hval;obtain⟨h0,hkk,hrow⟩:=(hs.mem _ _ hm).2;have hidd:id≠d:=fun e=>by rw[e,hu]at hus;cases hus
  have run:∀(ad:Option Addr) (cap:Nat),v=.slice ad xs.length cap→xs.length≤cap→(execOp a.eval o).run P w=.ok (.value (.slice (if cap=0 then ad else ad.map (·.add 0)) b.toNat cap)) w:=fun ad cap e hc=>by subst e;unfold execOp;simp only[ho,hv];unfold Instr.sliceAt Instr.slice;have hb:=vW (P:=P) true xs.length cap (low.map a.eval) (high.map a.eval) ka kb 0 b w ⟨c1,c2,c3⟩ hc hlow hhigh;simp only[Sem.run_bind,run_underlying ht,Result.andThen_ok,Option.map_none,hb,Sem.run_pure,hsz];simp
  rcases hrow with⟨hxs,hnil⟩|⟨g,cur,hgk,hw,hle,hcm,hcs,hc⟩
  ·have hxs':xs=[]:=(by simpa using hxs);subst hxs';have hb0:b.toNat=0:=(by simp at c3;omega);have:=run none 0 (by rw[hval,hnil];rfl) (i4 _);rw[if_pos rfl,hb0]at this;have e0:(x6 ([]:List α) 0 b)=[]:=(by unfold x6;simp);refine H1 this (hn _ _ _ (by simp[St.new,St.del]) hK ?_);rw[e0];exact aP (hs.del id) d hu e k h0 _ hdst (hd d hdst)
  ·have hle':xs.length≤(L id).cap:=(by simpa using hle);have:=run (some ⟨g,0,none⟩) (L id).cap (by rw[hval];simp[Loc.slice,hgk]) hle';have hadd:(⟨g,0,none⟩:Addr).add 0=⟨g,0,none⟩:=(by unfold Addr.add;split<;>simp_all);rw[F4,hadd,ite_self]at this;have hsim:=hs.renew id d (.inl (hd d hdst)) hu (.row e k ((x6 xs 0 b).map c)) _ hm g hgk (w':=w) rfl rfl rfl rfl (fun _ _=>rfl) (fun M hM=>⟨h0,fun i hi=>?_,.inr ⟨g,cur,by rw[J3];exact hgk,hw,by rw[J3,E1,hlen];omega,by rw[J3];exact hcm,by rw[J3];exact hcs,fun i hi j hj=>?_⟩⟩)
   ·refine H1 this (hn _ _ _ (by simp[St.new,St.del]) hK ⟨_,hsim.put _ hd (.ref d _ rfl (by simp[St.new,upd]) fun e' k' xs' hm'=>?_)⟩);have:(x6 xs 0 b).map c=xs':=by have:=hm';simp only[St.new,J3,M8,Blk.row.injEq]at this;exact this.2.2
    subst this;rw[J3,E1,hlen];simp[Loc.slice,hgk]
   ·have hi':i<(xs.map c).length:=(by simp[hcut]at hi;simp;omega);have:((x6 xs 0 b).map c)[i]=(xs.map c)[i]:=(by simp[hcut]);rw[this];exact hkk i hi'
   ·have hi':i<(xs.map c).length:=(by simp[hcut]at hi;simp;omega);have e3:((x6 xs 0 b).map c)[i]=(xs.map c)[i]:=(by simp[hcut]);simp only[e3];obtain⟨u,hu1,hu2⟩:=hc i hi' j (by rw[e3]at hj;exact hj);exact⟨u,hu1,hu2.ext (Ext.refl _ _) (fun q _=>hM q)⟩
theorem a96(ty:TypeId){k:IntKind}{a b:Int}(h:b≠0):Bo P .quo ty (.int k a) (.int k b) (.int k (k.wrap (Int.tdiv a b))):=by show Dc (binOp .quo ty (.int k a) (.int k b))=_;simp[binOp,Op.intDiv,h];rfl
theorem a6K(ty:TypeId){k:IntKind}{a b:Int}(h:b≠0):Bo P .rem ty (.int k a) (.int k b) (.int k (Int.tmod a b)):=by show Dc (binOp .rem ty (.int k a) (.int k b))=_;simp[binOp,Op.intDiv,h];rfl
theorem a18(ty:TypeId){k k':IntKind}{a b:Int}(h:0≤b):Bo P .shl ty (.int k a) (.int k' b) (.int k (k.wrap (a*2^(min b.toNat k.bits)))):=by show Dc (binOp .shl ty (.int k a) (.int k' b))=_;have:¬b<0:=(by omega);simp[binOp,Op.shift,this];rfl
theorem a9U(ty:TypeId){k k':IntKind}{a b:Int}(h:0≤b):Bo P .shr ty (.int k a) (.int k' b) (.int k (a.fdiv (2^(min b.toNat k.bits)))):=by show Dc (binOp .shr ty (.int k a) (.int k' b))=_;have:¬b<0:=(by omega);simp[binOp,Op.shift,this];rfl
def Ti(xs:List Int):Prop:=∀x∈xs,0≤x∧x<256
instance(xs:List Int):Decidable (Ti xs):=by unfold Ti;infer_instance
def y6(xs:List Int):b38:=xs.map fun x=>UInt8.ofNat x.toNat
theorem a17{src dst e:TypeId}{x:Operand}{o:Oper}(ho:o.op=.convert src dst x)(hs:P.underlying src=some (.slice e))(he:P.underlying e=some (.int .u8))(hd:P.underlying dst=some .string)(c:Int→List T)(hcc:c=fun n=>[tI .u8 n]){xs:List Int}(hb:Ti xs):Aj P o [.t (.sl 1 (xs.map c))] (aS (y6 xs)):=by
 intro w M ρ _ hl hr;have h0:=hr 0 (by simp) (by rw[←hl];simp);have h1:(opL o.op)[0]'(by rw[←hl];simp)=x:=(by simp[ho,opL]);rw[h1]at h0;simp only[H7]at h0;have e0:xs.map c=(y6 xs).map fun b:UInt8=>[T.v (.int .u8 (b.toNat:Int))]:=by
  unfold y6;rw[List.map_map,hcc];refine List.map_congr_left fun n hn=>?_;have:=hb n hn;simp only[Function.comp];have e1:((UInt8.ofNat n.toNat).toNat:Int)=n:=by rw[UInt8.toNat_ofNat'];omega
  rw[e1]
 rw[e0]at h0;generalize y6 xs=l at h0;refine⟨.string ⟨l.toArray⟩,w,?_,Below.refl _ _,.t _ _ (.v _ rfl)⟩;unfold execOp;simp only[ho];generalize ρ x=v at h0;have h2:=Hr h0;have run:(convert src dst v).run P w=.ok (.string ⟨l.toArray⟩) w:=by
  generalize hX:(l.map fun b:UInt8=>[T.v (.int .u8 (b.toNat:Int))])=ys at h2;cases h2 with
  |nil _ a cap hcm=>
   have:l=[]:=(by simpa using hX);subst this;cases a with
   |none=>exact Go.Lib.run_convert_nil_bytes w src dst e cap hs he hd
   |some p=>exact run_convert_bytes_back (P:=P) w src dst e p cap [] hs he hd (fun j hj=>by simp at hj)
  |sl _ _ b off cap c hb hM hcap hcm hk hc hrr=>subst hX;have hlen:(l.map fun b:UInt8=>[T.v (.int .u8 (b.toNat:Int))]).length=l.length:=(by simp);rw[hlen];refine run_convert_bytes_back (P:=P) w src dst e _ cap l hs he hd (fun j hj=>?_);have hadd:(⟨b,off,none⟩:Addr).add j=⟨b,off+j,none⟩:=(by unfold Addr.add;split<;>simp_all);rw[hadd];have h3:=hc j (by simpa using hj) 0 (by omega);have h4:=hrr j (by simpa using hj) 0 (by simp);simp only[List.getElem_map,H7]at h4;have h5:=B7 (st:=⟨0,fun _=>.dead,fun _=>none,fun _=>false⟩) (L:=fun _=>nol) (.t _ _ h4);rw[Nat.mul_one,Nat.add_zero,h5]at h3;exact h3
 simp only[Sem.run_bind,run,Result.andThen_ok,Sem.run_pure]
end
section
open Go.RowKit
variable{P:Program}
section
variable{α:Type}{o:Oper}{t e:TypeId}{te:TI}{x y z:Operand}{k:Nat}{xs:List α}{ka kb:IntKind}{b:Int}
end
section
variable{α:Type}{o:Oper}{t e:TypeId}{te:TI}{x y z:Operand}{k:Nat}{xs:List α}{ka kb:IntKind}{a b:Int}{s:b38}
end
def eqV:Value→Value→Bool
 |.int _ a,.int _ b=>decide (a=b)
 |.string s,.string u=>decide (s.data.toList=u.data.toList)
 |.bool a,.bool b=>a==b
 |_,_=>false
def eqL:List Value→List Value→Bool
 | [x],[y]=>eqV x y
 |x::l,y::r=>eqV x y&&eqL l r
 |_,_=>true
def AJ(P:Program)(t:TypeId):Value→Value→Bool
 |.int k _,.int k' _=>(match P.underlying t with|some (.int _)=>decide (k=k')|_=>false)
 |.string _,.string _=>(match P.underlying t with|some .string=>true|_=>false)
 |.bool _,.bool _=>(match P.underlying t with|some .bool=>true|_=>false)
 |_,_=>false
def Ff(P:Program):Nat→List Field→List Value→List Value→Bool
 |_,[],[],[]=>true
 |i,f::fs,x::l,y::r=>(match decide (f.name≠ "_"),Nat.beq f.offset i,p8 P f.type with
  |true,true,some ti=>(match Nat.beq ti.size 1,ti.agg,AJ P f.type x y with
   |true,false,true=>Ff P (i+1) fs l r
   |_,_,_=>false)
  |_,_,_=>false)
 |_,_,_,_=>false
def dZ(P:Program)(t:TypeId)(xs ys:List Value):Bool:=
 match P.underlying t with
 |some (.struct fs)=>(match P.stoodInHeld t,P.eqGuardType P.depth t,xs with
  |false,false,_::_=>Ff P 0 fs.toList xs ys
  |_,_,_=>false)
 |_=>false
theorem wM(a b:b38):(a==b)=decide (a=b):=by
 by_cases h:a=b
 ·subst h;simp
 ·simp[h]
theorem ZT{t:TypeId}{x y:Value}(h:AJ P t x y=true)(d:Nat)(w:World):(Op.equalIn (d+1) t x y).run P w=.ok (eqV x y) w:=by
 unfold AJ at h;split at h
 ·split at h
  ·rename_i a k' b _ k'' hu;have:_=_:=D3 h;subst this;rw[run_equalIn_int w d t _ _ a b hu];rfl
  ·cases h
 ·split at h
  ·rename_i s u _ hu;rw[run_equalIn_string w d t s u hu];congr 1;show(s.toList==u.toList)=decide (s.data.toList=u.data.toList);have e1:∀b:ByteArray,b.toList=b.data.toList:=fun b=>Y4 b.data.toList;rw[e1,e1,wM]
  ·cases h
 ·split at h
  ·rename_i a b _ hu;exact run_equalIn_bool' w d t a b hu
  ·cases h
 ·cases h
theorem WU{t:TypeId}{ti:TI}(ht:p8 P t=some ti)(ha:ti.agg=false)(cs:Array Value)(i:Nat)(v:Value)(hv:cs[i]? =some v)(w:World):(part t cs i).run P w=.ok v w:=by obtain⟨inf,d,z,hi,hu,hz,q1,q2,q3,q4,q5,q6,q7,q8,q9⟩:=(L9 ht).ex;unfold part;rw[Sem.run_bind,AK hu w,Result.andThen_ok,←q3,ha];simp[hv]
theorem PW(d:Nat)(xs ys:List Value)(w:World):∀(fs:List Field) (l r:List Value) (i:Nat),xs.drop i=l→ys.drop i=r→Ff P i fs l r=true→(Op.eqFields (d+1) ⟨xs⟩ ⟨ys⟩ fs).run P w=.ok (eqL l r) w
 | [],l,r,i,hl,hr,h=>by
  cases l with
  |cons=>cases r<;>simp[Ff]at h
  |nil=>cases r with
   |cons=>simp[Ff]at h
   |nil=>simp[Op.eqFields,eqL]
 |f::fs,l,r,i,hl,hr,h=>by
  cases l with
  |nil=>cases r<;>simp[Ff]at h
  |cons x l=>cases r with
   |nil=>simp[Ff]at h
   |cons y r=>
    simp only[Ff]at h;split at h
    ·rename_i ti hn ho ht;split at h
     ·rename_i hs ha hk;have hoff:f.offset=i:=D2 ho;have hx:(⟨xs⟩:Array Value)[f.offset]? =some x:=by rw[hoff];have:=congrArg (·[0]?) hl;simpa using this
      have hy:(⟨ys⟩:Array Value)[f.offset]? =some y:=by rw[hoff];have:=congrArg (·[0]?) hr;simpa using this
      have hl':xs.drop (i+1)=l:=(by rw[←List.drop_drop,hl];rfl);have hr':ys.drop (i+1)=r:=(by rw[←List.drop_drop,hr];rfl);have ih:=PW d xs ys w fs l r (i+1) hl' hr' h;have hn':f.name≠ "_" :=D3 hn;simp only[Op.eqFields,if_pos hn',Sem.run_bind,WU ht ha _ _ _ hx,WU ht ha _ _ _ hy,Result.andThen_ok,ZT hk];have key:eqL (x::l) (y::r)=(eqV x y&&eqL l r):=by
       cases l with
       |nil=>cases r with
        |nil=>simp[eqL]
        |cons=>cases fs<;>simp[Ff]at h
       |cons=>simp[eqL]
      rw[key];cases eqV x y with
      |false=>simp
      |true=>simpa using ih
     ·cases h
    ·cases h
theorem MX{w:World}{M:Nat→Prop}{xs:List Value}{v:Value}(h:D4 w M (.agg (xs.map A.v)) v):v=.agg ⟨xs⟩:=by
 cases h with
 |agg _ vs hs h1 hr=>congr 1;refine Array.ext (by simpa using hs) fun i h1' h2'=>?_;have:=hr i (by simpa using h2');simp only[List.getElem_map]at this;rw[B7 this];simp
theorem b0F{t:TypeId}{xs ys:List Value}(h:dZ P t xs ys=true)(w:World):(Op.equalIn 10000 t (.agg ⟨xs⟩) (.agg ⟨ys⟩)).run P w=.ok (eqL xs ys) w∧P.eqGuardType P.depth t=false:=by
 unfold dZ at h;split at h
 ·rename_i fs hu;split at h
  ·rename_i x l hst hg;have hf:P.fieldsOf t=fs:=(by simp[Program.fieldsOf,hu]);refine⟨?_,hg⟩;rw[run_equalIn_struct w 9999 t _ _ (by rw[hf];exact hu) hst,hf];exact PW 9998 _ _ w _ _ _ 0 rfl rfl h
  ·cases h
 ·cases h
theorem a76{o:Oper}{t:TypeId}{x y:Operand}{hh:Option Operand}{ne:Bool}{xs ys:List Value}{e:Bool}(ho:∃q,o.op=.binOp (cond ne .neq .eql) t x y q)(h:dZ P t xs ys=true)(he:eqL xs ys=e):Aj P o [.agg (xs.map A.v),.agg (ys.map A.v)] (aB (cond ne (!e) e)):=by
 intro w M ρ _ hl hr;obtain⟨q,ho⟩:=ho;have h0:=hr 0 (by simp) (by rw[ho];simp[opL]);have h1:=hr 1 (by simp) (by rw[ho];simp[opL]);have e0:(opL o.op)[0]'(by rw[ho];simp[opL])=x:=(by simp[ho,opL]);have e1:(opL o.op)[1]'(by rw[ho];simp[opL])=y:=(by simp[ho,opL]);rw[e0]at h0;rw[e1]at h1;have v0:ρ x=.agg ⟨xs⟩:=MX h0;have v1:ρ y=.agg ⟨ys⟩:=MX h1;obtain⟨hrun,hg⟩:=b0F h w;subst he;cases ne with
 |false=>refine⟨.bool (eqL xs ys),w,?_,Below.refl _ _,.t _ _ (.v _ rfl)⟩;unfold execOp;simp only[ho,v0,v1,f8,Sem.run_bind,run_eqGuard_agg w _ t x y _ _ hg,Result.andThen_ok,run_eql_struct,hrun,Sem.run_pure]
 |true=>refine⟨.bool (!eqL xs ys),w,?_,Below.refl _ _,.t _ _ (.v _ rfl)⟩;unfold execOp;simp only[ho,v0,v1,f9,Sem.run_bind,run_eqGuard_agg w _ t x y _ _ hg,Result.andThen_ok,run_neq_struct,hrun,Sem.run_pure]
theorem XR{o:Oper}{c:Call}{b:Builtin}(ho:o.op=.call c)(hc:c.callee=.builtin b){x y:Operand}(hxy:c.args= #[x,y])(ρ:Operand→Value)(w:World):∃cs,(execOp ρ o).run P w=(builtin b c.argTypes o.type cs #[ρ x,ρ y]).run P w:=by refine⟨c.args.map (fun|.const _=>true|_=>false),?_⟩;unfold execOp;simp only[ho,resolve,hc,Sem.run_bind,Sem.run_pure,Result.andThen_ok,invoke];rw[hxy,show(#[x,y]:Array Operand).map ρ= #[ρ x,ρ y] by simp];have e:∀f g:Operand→Bool,(∀z,f z=g z)→f=g:=fun f g h=>funext h;refine congrArg (fun q=>(builtin b c.argTypes o.type (Array.map q #[x,y]) #[ρ x,ρ y]).run P w) (e _ _ fun z=>?_);cases z<;>rfl
theorem QV{o:Oper}{c:Call}{b:Builtin}(ho:o.op=.call c)(hc:c.callee=.builtin b){x y:Operand}(hxy:c.args= #[x,y]){w:World}{M:Nat→Prop}{ρ:Operand→Value}{p q:A}(hl: [p,q].length=(opL o.op).length)(hr:∀i (hi:i< [p,q].length) (hi':i<(opL o.op).length),D4 w M ([p,q][i]) (ρ ((opL o.op)[i]))):D4 w M p (ρ x)∧D4 w M q (ρ y):=by have hL:opL o.op=[x,y]:=(by rw[ho];simp[opL,hc,hxy]);have h0:=hr 0 (by simp) (by rw[hL];simp);have h1:=hr 1 (by simp) (by rw[hL];simp);simp only[hL]at h0 h1;exact⟨h0,h1⟩
theorem b1H{o:Oper}{k:IntKind}{a b:Int}{c:Call}(ho:o.op=.call c)(hc:c.callee=.builtin .min){x y:Operand}(hxy:c.args= #[x,y]):Aj P o [aI k a,aI k b] (aI k (if b<a then b else a)):=by intro w M ρ _ hl hr;obtain⟨h0,h1⟩:=QV ho hc hxy hl hr;obtain⟨cs,e⟩:=XR (P:=P) ho hc hxy ρ w;refine⟨.int k (if b<a then b else a),w,?_,Below.refl _ _,.t _ _ (.v _ rfl)⟩;rw[e,B7 h0,B7 h1];simp[builtin,Builtin.min_,Builtin.min2]
theorem a0H{o:Oper}{k:IntKind}{a b:Int}{c:Call}(ho:o.op=.call c)(hc:c.callee=.builtin .max){x y:Operand}(hxy:c.args= #[x,y]):Aj P o [aI k a,aI k b] (aI k (if a<b then b else a)):=by intro w M ρ _ hl hr;obtain⟨h0,h1⟩:=QV ho hc hxy hl hr;obtain⟨cs,e⟩:=XR (P:=P) ho hc hxy ρ w;refine⟨.int k (if a<b then b else a),w,?_,Below.refl _ _,.t _ _ (.v _ rfl)⟩;rw[e,B7 h0,B7 h1];simp[builtin,Builtin.max_,Builtin.max2]
theorem a2Y(ty:TypeId)(a b:b38):Bo P .leq ty (.string (mkS a)) (.string (mkS b)) (.bool (Op.bytesLess a b||decide (a=b))):=by show some (Value.bool (Op.bytesLess (mkS a).toList (mkS b).toList||(mkS a).toList==(mkS b).toList))=_;rw[Y4,Y4,wM]
theorem a7b(ty:TypeId)(a b:b38):Bo P .gtr ty (.string (mkS a)) (.string (mkS b)) (.bool (!(Op.bytesLess a b||decide (a=b)))):=by show some (Value.bool !(Op.bytesLess (mkS a).toList (mkS b).toList||(mkS a).toList==(mkS b).toList))=_;rw[Y4,Y4,wM]
theorem a1G(ty:TypeId)(a b:b38):Bo P .geq ty (.string (mkS a)) (.string (mkS b)) (.bool (!(Op.bytesLess a b))):=by show some (Value.bool !(Op.bytesLess (mkS a).toList (mkS b).toList))=_;rw[Y4,Y4]
theorem b1r{o:Oper}{xs:List A}{e:TypeId}{k:Nat}{ys:List (List T)}(h:Ge P o xs e k ys):Aj P o xs (.t (.sl k ys)):=by
 intro w M ρ hM hl hr;obtain⟨h0,h⟩:=h;obtain⟨cur,cap,w1,hh,os,tape,output,hle,hcm,hsz,hk,hc,hrun⟩:=h w M ρ hl hr;have hsize:w1.heap.size=w.heap.size:=(by rw[hh]);have hold:∀b,b<w.heap.size→(w1.alloc (.cells cur e)).heap[b]? =w.heap[b]? :=fun b hb=>by rw[Below.heap_alloc w1 _ _ (by omega),hh]
 have hnew:(w1.alloc (.cells cur e)).heap[w.heap.size]? =some (.cells cur e (0,0)):=(by rw[←hsize];exact heap_alloc_new w1 _);refine⟨_,_,hrun,⟨os,tape,output,by simp;omega,hold⟩,.t _ _ ?_⟩;cases ys with
 |nil=>exact .nil _ _ _ hcm
 |cons y ys=>
  have hcc:∀i j,∃c,∀(hi:i<(y::ys).length) (hj:j<((y::ys)[i]).length),cur[i*k+j]? =some c∧RepT w M ((y::ys)[i][j]) c:=fun i j=>by
   by_cases hi:i<(y::ys).length
   ·by_cases hj:j<((y::ys)[i]).length
    ·obtain⟨c,h1,h2⟩:=hc i _ (o5 hi) j _ (o5 hj);exact⟨c,fun _ _=>⟨h1,h2⟩⟩
    ·exact⟨undef,fun _ h=>absurd h hj⟩
   ·exact⟨undef,fun h=>absurd h hi⟩
  have hcs:=fun i j=>Classical.choose_spec (hcc i j);have hkk:∀i (hi:i<(y::ys).length),((y::ys)[i]).length=k:=fun i hi=>hk i _ (o5 hi);refine .sl k (y::ys) w.heap.size 0 cap (fun i j=>Classical.choose (hcc i j)) (by simp;omega) (fun hm=>Nat.lt_irrefl _ (hM _ hm)) hle hcm hkk (fun i hi j hj=>?_) (fun i hi j hj=>?_)
  ·rw[Nat.zero_add,cell_of_row _ _ _ _ _ _ hnew];exact(hcs i j hi (by rw[hkk i hi];exact hj)).1
  ·exact((hcs i j hi hj).2).ext ⟨by simp;omega,fun k hk _=>hold k hk⟩ (fun _ _ h=>h)
def Ij:Nat→List (Nat × Operand)→List A→List (Nat × A)
 |_,[],_=>[]
 |_,_,[]=>[]
 |n,p::l,a::r=>(p.1,a)::Ij n l r
theorem a6S{o:Oper}{t:TypeId}{len:Nat}{parts:Array (Nat × Operand)}(ho:o.op=.buildSlice t len parts){ti te:TI}{e:TypeId}(ht:p8 P t=some ti)(he:ti.elem=some e)(hte:p8 P e=some te)(h0:Nat.blt 0 te.size=true)(hlen:Nat.beq parts.size len=true)(hsmall:Nat.ble (len*te.size) 16777216=true){k:Nat}(hk:te.size=k){bs:List A}{xs:List (List T)}(hal:bs.length=parts.toList.length)(hparts:Au k 0 (Ij 0 parts.toList bs)=some xs):Ge P o bs e k xs:=by
 subst hk;have h0:0<te.size:=(by simpa using h0);have hlen:parts.size=len:=(by simpa using hlen);have hsmall:len*te.size≤16777216:=(by simpa using hsmall);refine⟨h0,fun w M ρ hl hr=>?_⟩;obtain⟨i,td,z,hi,hud,hz,h1,h2,h3,h4,h5,h6,h7,h8,h9⟩:=(L9 ht).ex;obtain⟨ie,tde,ze,hie,hue,hze,g1,g2,g3,g4,g5,g6,g7,g8,g9⟩:=(L9 hte).ex;have:=h6 e he;subst this;have hL:opL o.op=parts.toList.map (·.2):=by rw[ho];rfl
 let tri:List (Nat × A × Value):=(parts.toList.zip bs).map fun p=>(p.1.1,p.2,ρ p.1.2)
 have htri:tri.map (fun p=>(p.1,p.2.1))=Ij 0 parts.toList bs:=by
  have:∀(l:List (Nat × Operand)) (r:List A),((l.zip r).map fun p=>(p.1.1,p.2,ρ p.1.2)).map (fun p=>(p.1,p.2.1))=Ij 0 l r:=by
   intro l
   induction l with
   |nil=>intro r;rfl
   |cons p l ih=>intro r;cases r with
    |nil=>rfl
    |cons a r=>simp only[List.zip_cons_cons,List.map_cons,Ij,ih]
  exact this _ _
 have htri2:tri.map (fun p=>(p.1,p.2.2))=parts.toList.map fun p=>(p.1,ρ p.2):=by
  have:∀(l:List (Nat × Operand)) (r:List A),r.length=l.length→((l.zip r).map fun p=>(p.1.1,p.2,ρ p.1.2)).map (fun p=>(p.1,p.2.2))=l.map fun p=>(p.1,ρ p.2):=by
   intro l
   induction l with
   |nil=>intro r _;rfl
   |cons p l ih=>intro r hr;cases r with
    |nil=>simp at hr
    |cons a r=>simp only[List.zip_cons_cons,List.map_cons,ih r (by simpa using hr)]
  exact this _ _ hal
 obtain⟨us,hu1,hu2,hu3,_,hu5⟩:=AM (st:=⟨0,fun _=>.dead,fun _=>none,fun _=>false⟩) (L:=fun _=>nol) (w:=w) (M:=M) te.size h0 tri 0 len xs ((Array.range (len*te.size)).map (ze.cells[· %ze.cells.size]!)) (fun p hp=>by
  obtain⟨q,hq,rfl⟩:=List.mem_map.1 hp;obtain⟨n,hn,rfl⟩:=List.getElem_of_mem hq;have hn1:n<parts.toList.length:=(by simp at hn;simp;omega);have hn2:n<bs.length:=(by rw[hal];exact hn1);have:=hr n hn2 (by rw[hL];simpa using hn1);simp only[hL,List.getElem_map]at this;simp only[List.getElem_zip];exact this) (by rw[htri];exact hparts) (by simp[tri,hal,hlen]) (by simp)
 have hxl:xs.length=len:=(by rw[hu3];simp[tri,hal,hlen]);have hrun:(Instr.buildSlice t len (parts.map fun(i,x)=>(i,ρ x))).run P w=.ok (.slice (some ⟨w.heap.size,0,none⟩) xs.length len) (w.alloc (.cells us e)):=by
  rw[hxl];have hfill:Instr.fill (fun i=>some (i*ie.size,ie.size)) ((Array.range (len*ie.size)).map (ze.cells[· %ze.cells.size]!)) (parts.map fun(i,x)=>(i,ρ x)).toList=some us:=by rw[←g1,Array.toList_map];rw[htri2]at hu1;exact hu1
  by_cases hpos:len*ie.size=0
  ·have hl0:len=0:=(by rcases Nat.mul_eq_zero.1 hpos with h|h<;>omega);subst hl0;have hp0:parts= #[]:=Array.eq_empty_of_size_eq_zero hlen;subst hp0;have e0:∀(f:Nat→Value),(Array.range 0).map f= #[]:=fun f=>Array.eq_empty_of_size_eq_zero (by simp);have hus:us= #[]:=by have:=hfill.symm;simp only[Nat.zero_mul,e0]at this;simpa[Instr.fill]using this
   subst hus;simp[Instr.buildSlice,run_underlying hud,sizeOf,typeInfo,hie,Instr.fill,newRow,e0]
   try exact congrArg (fun c=>w.alloc (.cells c e)) (Array.eq_empty_of_size_eq_zero (by simp))
  ·exact run_buildSlice w t e len _ us ie ze hud hie hze (by rw[←g1];omega) hpos hfill
 refine⟨us,len,w,rfl,rfl,rfl,rfl,by omega,by unfold maxLen;have:=Nat.le_mul_of_pos_right len h0;omega,by rw[hu2];simp,fun p x hx=>(hu5 p x hx).1,fun p x hx j tt ht=>?_,?_⟩
 ·have:=(hu5 p x hx).2 j tt ht
  rwa [Nat.zero_add]at this
 ·unfold execOp;simp only[ho];rw[Sem.run_bind,hrun];rfl
end
section
open Go.RowKit
variable{P:Program}
def Hz(bytes:Nat)(n:Int):Prop:=0≤n∧bytes*n≤281474976710656∧n≤maxLen
instance(b:Nat)(n:Int):Decidable (Hz b n):=by unfold Hz;infer_instance
def jY:Value→T→Bool
 |.int k n,.v (.int k' n')=>decide (k=k')&&decide (n=n')
 |.bool a,.v (.bool b)=>a==b
 |.string s,.v (.string u)=>(match s.data.toList,u.data.toList with| [],[]=>true|_,_=>false)
 |.pointer none,.v (.pointer none)=>true
 |.slice none 0 0,.sl _ []=>true
 |_,_=>false
def Jc:List Value→List T→Bool
 | [],[]=>true
 |v::l,t::r=>jY v t&&Jc l r
 |_,_=>false
theorem a0l{w:World}{M:Nat→Prop}{v:Value}{t:T}(h:jY v t=true):RepT w M t v:=by
 unfold jY at h;split at h
 ·simp only[w8,decide_eq_true_eq]at h;obtain⟨rfl,rfl⟩:=h;exact .v _ rfl
 ·rename_i a b;have:a=b:=(by simpa using h);subst this;exact .v _ rfl
 ·rename_i s u;split at h
  ·rename_i h1 h2;have e1:s=u:=by obtain⟨⟨a⟩⟩:=s;obtain⟨⟨b⟩⟩:=u;simp only at h1 h2;rw[h1,h2]
   subst e1;exact .v _ rfl
  ·cases h
 ·exact .v _ rfl
 ·exact .nil _ _ _ (C9 _)
 ·cases h
theorem VL:∀{l:List Value} {r:List T},Jc l r=true→l.length=r.length∧∀(j:Nat) (t:T),r[j]? =some t→∃v,l[j]? =some v∧jY v t=true
 | [],[],_=>⟨rfl,fun j t h=>by simp at h⟩
 |v::l,t::r,h=>by
  simp only[Jc,w8]at h;obtain⟨h1,h2⟩:=VL h.2;refine⟨by simp[h1],fun j u hj=>?_⟩;cases j with
  |zero=>simp at hj;subst hj;exact⟨v,rfl,h.1⟩
  |succ j=>exact h2 j u (by simpa using hj)
 | [],_::_,h=>by simp[Jc]at h
 |_::_,[],h=>by simp[Jc]at h
theorem b22{α:Type}{o:Oper}{t e:TypeId}{te:TI}{x y:Operand}(ho:o.op=.makeSlice t x y)(ht:P.underlying t=some (.slice e))(hte:p8 P e=some te){k b:Nat}(hk:te.size=k)(h0:Nat.blt 0 k=true)(hb:te.bytes=b)(c:α→List T)(z:α)(hz:Jc te.zero (c z)=true){k1 k2:IntKind}{n:Int}(h:Hz b n):Ge P o [aI k1 n,aI k2 n] e k ((List.replicate n.toNat z).map c):=by
 subst hk;subst hb;have h0:0<te.size:=(by simpa using h0);obtain⟨n0,n1,n2⟩:=h;refine⟨h0,fun w M ρ hl hr=>?_⟩;obtain⟨ie,tde,ze,hie,hue,hze,g1,g2,g3,g4,g5,g6,g7,g8,g9⟩:=(L9 hte).ex;have hL:opL o.op=[x,y]:=(by rw[ho];rfl);have r0:=hr 0 (by simp) (by rw[hL];simp);have r1:=hr 1 (by simp) (by rw[hL];simp);simp only[hL]at r0 r1;have v0:ρ x=.int k1 n:=B7 r0;have v1:ρ y=.int k2 n:=B7 r1;obtain⟨zl,zg⟩:=VL hz;have hzs:ze.cells.size=te.size:=(by rw[g9,g1]);have hcl:(c z).length=te.size:=(by rw[←zl,g4];simpa using hzs);have hrun:=run_make (P:=P) w t e ie ze ht hie hze k1 k2 n n n0 (P4 _) (by rw[←g2];exact n1) (by unfold maxLen at n2;omega);rw[←g1]at hrun;refine⟨madeCells ze.cells (n.toNat*te.size),n.toNat,w,rfl,rfl,rfl,rfl,by simp,by omega,size_madeCells _ _,fun p u hu=>?_,fun p u hu j tt ht'=>?_,?_⟩
 ·simp only[List.map_replicate]at hu;obtain⟨hp,rfl⟩:=l3.1 hu;simpa using hcl
 ·simp only[List.map_replicate]at hu;obtain⟨hp,rfl⟩:=l3.1 hu;simp only[List.getElem_replicate]at ht';simp only[List.length_replicate]at hp;obtain⟨v,hv,hzv⟩:=zg j tt ht';refine⟨v,?_,a0l hzv⟩;have hj:j<te.size:=(by rw[←hcl];exact(l3.1 ht').1);have hlt:p*te.size+j<n.toNat*te.size:=by have:=Nat.mul_le_mul_right te.size hp;rw[Nat.succ_eq_add_one,Nat.add_mul]at this;omega
  rw[g4]at hv;unfold madeCells;rw[Array.getElem?_map,Array.getElem?_range,if_pos hlt];simp only[F4,hzs];rw[Nat.add_comm,Nat.add_mul_mod_self_right,Nat.mod_eq_of_lt hj];have hj2:j<ze.cells.size:=(by omega);rw[getElem!_pos ze.cells j hj2];simpa[hj2]using hv
 ·unfold execOp;simp only[ho,v0,v1];rw[Sem.run_bind,hrun];simp
end
section
open Go.RowKit
theorem wrap64{n:Int}(h0: -9223372036854775808≤n)(h1:n≤9223372036854775807):w64 n=n:=by show IntKind.wrap .i64 n=n;rw[IntKind.wrap_i64];omega
theorem Jz{α:Type}{xs:List α}{i:Int}(h0:0≤i)(h:i<xs.length):f5 xs i=some (xs[i.toNat]'(by omega)):=by unfold f5;rw[if_pos h0,o5]
theorem l4{α:Type}{xs:List α}{i:Nat}(h:i<xs.length):f5 xs (i:Int)=some (xs[i]):=by rw[Jz (by omega) (by omega)];simp
end
section
open Go.RowKit
variable{P:Program}
def VT(s:LS):List Nat→List (Nat × A)
 | []=>[]
 |t::l=>(t,lkE s.es t)::VT s l
def BY(s:LS):List (Nat × Option Blk)→List (Nat × Option Blk)
 | []=>[]
 |(i,some b)::l=>(i,some b)::BY s l
 |(i,none)::l=>(i,x7 s.ms i)::BY s l
def LS.e(s:LS)(nw:List (Nat × A))(kp:List Nat)(mm:List (Nat × Option Blk)):LS:=⟨s.n,nw++VT s kp,BY s mm⟩
def c0(G:List Nat):CV:=⟨G,[],[],[],[],[],[]⟩
def tN(ks:List Nat):List (Nat × A)→List (Nat × A)
 | []=>[]
 |(t,a)::l=>match B5 ks t with|true=>tN ks l|false=>(t,a)::tN ks l
def Ym(ks:List Nat):List (Nat × Option Blk)→List (Nat × Option Blk)
 | []=>[]
 |(i,b)::l=>match B5 ks i with|true=>Ym ks l|false=>(i,b)::Ym ks l
def JK:Nat × Option Blk→Bool
 |(_,some (.box _ _))=>true
 |_=>false
def wU:List (Nat × Option Blk)→List (Nat × Option Blk)
 | []=>[]
 |p::l=>match JK p with|true=>p::wU l|false=>wU l
def uB:List (Nat × Option Blk)→List (Nat × Option Blk)
 | []=>[]
 |p::l=>match JK p with|true=>uB l|false=>p::uB l
def LS.d(s:LS)(nw:List (Nat × A))(dr:List Nat)(nb:List (Nat × Blk))(dm:List Nat):LS:=
 ⟨s.n,nw++tN (nw.map (·.1)++dr) s.es,wU (Ym (nb.map (·.1)++dm) s.ms++R4 nb)++uB (Ym (nb.map (·.1)++dm) s.ms++R4 nb)⟩
section
variable{α:Type}{p:Prop} [Decidable p]{b:Bool}{X Y:Option α}{r:α}{G:Prop}
variable{st:St}{c:Operand}{x y:Code}{Q:Exit→St→Prop}
end
theorem a0y{c:Code}{s:LS}{Q:Exit→St→Prop}(ids:List Nat)(h:W P c (s.frzs ids).st Q):W P c s.st Q:=fun C a w hP ⟨L,hs⟩=>by rw[BK ids s]at h;refine wp_mono (h C a w hP ⟨L,hs.frzs ids⟩) fun e a' w' ⟨st',hn,hq,hs'⟩=>⟨st',by rw[hn,GB],hq,hs'⟩
def rvF(P:Program)(f:FuncId):List ResultVar:=match P.funcs[f]? with|some fn=>fn.results.toList|none=>[]
def ntF(P:Program)(f:FuncId):Nat:=match P.funcs[f]? with|some fn=>fn.ntmps|none=>0
def Kt(P:Program)(f:FuncId)(n:Nat):Bool:=match P.funcs[f]? with|some fn=>(match fn.body with|some _=>Dr P f&&Nat.ble n fn.ntmps|none=>false)|none=>false
theorem a8n{α:Type}{x y:α}(h:some x=some y):x=y:=Option.some.inj h
section
variable{α:Type}{b:Nat}{xs ys z:List α}{i:Int}{x y:α}
def y8(b:Nat)(xs ys:List α):Option (List α):=if M4 b (xs.length+ys.length)then some (xs++ys)else none
theorem oD(h:y8 b xs ys=some z):M4 b (xs.length+ys.length)∧xs++ys=z:=by
 unfold y8 at h;split at h
 ·rename_i h1;exact⟨h1,a8n h⟩
 ·cases h
theorem a9s(c:α→List T)(h:y8 b xs ys=some z):M4 b ((xs.map c).length+(ys.map c).length):=a7U c (oD h).1
theorem a99(c:α→List T)(h:y8 b xs ys=some z):U1 (xs.map c++ys.map c) (z.map c):=(oD h).2▸a4P c xs ys
theorem a7G(c:α→List T)(h:y8 b [] ys=some z):M4 b (ys.map c).length:=by have h1:=(oD h).1;rw[L6,Nat.zero_add]at h1;exact b3x c h1
theorem a1X(c:α→List T)(h:y8 b [] ys=some z):U1 (ys.map c) (z.map c):=(oD h).2▸a3L _
end
end
section
open Go.RowKit
set_option maxRecDepth 100000
set_option maxHeartbeats 4000000
def Xi(n:Int):List T:=[tI .i64 n]
def WB(n:Int):List T:=[tI .u8 n]
def Ng(x:b38):List T:=[tS x]
structure d7 where
 Ks:Int
 Ls:Int
 Id:Int
 Cs:Int
 Ns:Int
 Ds:(b38)
deriving DecidableEq,Inhabited
def Kn(x:d7):List T:=[tI .u8 x.Ks,tI .i64 x.Ls,tI .i64 x.Id,tI .i64 x.Cs,tI .i64 x.Ns,tS x.Ds]
structure i8 where
 Ts:Int
 Do:Int
 Qs:Int
deriving DecidableEq,Inhabited
def Jh(x:i8):List T:=[tI .i64 x.Ts,tI .i64 x.Do,tI .i64 x.Qs]
structure o0 where
 Ks:Int
 Of:Int
deriving DecidableEq,Inhabited
def Io(x:o0):List T:=[tI .u8 x.Ks,tI .i64 x.Of]
structure M9 where
 In:(b38)
 Us:Int
 Vs:Int
deriving DecidableEq,Inhabited
def Ow(x:M9):List T:=[tS x.In,tI .i64 x.Us,tI .i64 x.Vs]
structure Q3 where
 In:(b38)
 Ts:Int
deriving DecidableEq,Inhabited
def Lm(x:Q3):List T:=[tS x.In,tI .i64 x.Ts]
structure t8 where
 In:(b38)
 Gs:Int
 Es:Int
 By:Int
 At:Int
 Ss:Int
 Or:Int
 Ps:Int
deriving DecidableEq,Inhabited
def Nq(x:t8):List T:=[tS x.In,tI .i64 x.Gs,tI .i64 x.Es,tI .i64 x.By,tI .i64 x.At,tI .i64 x.Ss,tI .i64 x.Or,tI .i64 x.Ps]
structure J0 where
 Fn:Int
 In:(b38)
 Ws:Int
 Or:Int
 Ys:Int
deriving DecidableEq,Inhabited
def Mb(x:J0):List T:=[tI .i64 x.Fn,tS x.In,tI .i64 x.Ws,tI .i64 x.Or,tI .i64 x.Ys]
structure N4 where
 Fn:Int
 Gs:Int
 Ls:Int
 Id:Int
deriving DecidableEq,Inhabited
def Mj(x:N4):List T:=[tI .i64 x.Fn,tI .i64 x.Gs,tI .i64 x.Ls,tI .i64 x.Id]
structure l9 where
 No:(List d7)
 Ms:(List i8)
 To:(List o0)
 Rs:(List M9)
 Hs:(List Q3)
 As:(List t8)
 Ss:(List Int)
 Vars:(List J0)
 Ps:(List N4)
deriving DecidableEq,Inhabited
def b1v(x:l9):List T:=[.sl 6 (x.No.map Kn),.sl 3 (x.Ms.map Jh),.sl 2 (x.To.map Io),.sl 3 (x.Rs.map Ow),.sl 2 (x.Hs.map Lm),.sl 8 (x.As.map Nq),.sl 1 (x.Ss.map Xi),.sl 5 (x.Vars.map Mb),.sl 4 (x.Ps.map Mj)]
structure i6 where
 Op:Int
 A:Int
 Ls:Int
deriving DecidableEq,Inhabited
def Tv(x:i6):List T:=[tI .u8 x.Op,tI .i64 x.A,tI .i64 x.Ls]
structure y7 where
 At:Int
 If:Int
 Es:Int
 Ss:Int
 By:Int
deriving DecidableEq,Inhabited
def Vg(x:y7):List T:=[tI .i64 x.At,tI .i64 x.If,tI .i64 x.Es,tI .i64 x.Ss,tI .i64 x.By]
structure l7 where
 Is:(List i6)
 As:(List y7)
 Js:(List (b38))
deriving DecidableEq,Inhabited
def a8Q(x:l7):List T:=[.sl 3 (x.Is.map Tv),.sl 5 (x.As.map Vg),.sl 1 (x.Js.map Ng)]
def DI(x:l7):List A:=[.t (.sl 3 (x.Is.map Tv)),.t (.sl 5 (x.As.map Vg)),.t (.sl 1 (x.Js.map Ng))]
def Ib(x:l7):A:=.agg (DI x)
structure x8 where
 Code:Int
 Ls:Int
 Id:Int
deriving DecidableEq,Inhabited
def b1j(x:x8):List T:=[tI .i64 x.Code,tI .i64 x.Ls,tI .i64 x.Id]
structure u9 where
 p_:l9
 c_:l7
 from_:Int
 texts_:(List ((b38) × Int))
def a47(x:u9):List T:=[.sl 6 (x.p_.No.map Kn),.sl 3 (x.p_.Ms.map Jh),.sl 2 (x.p_.To.map Io),.sl 3 (x.p_.Rs.map Ow),.sl 2 (x.p_.Hs.map Lm),.sl 8 (x.p_.As.map Nq),.sl 1 (x.p_.Ss.map Xi),.sl 5 (x.p_.Vars.map Mb),.sl 4 (x.p_.Ps.map Mj),.sl 3 (x.c_.Is.map Tv),.sl 5 (x.c_.As.map Vg),.sl 1 (x.c_.Js.map Ng),tI .i64 x.from_,.any]
structure B8 where
 P:l9
 Js:(List (b38))
deriving DecidableEq,Inhabited
def a4d(x:B8):List T:=[.sl 6 (x.P.No.map Kn),.sl 3 (x.P.Ms.map Jh),.sl 2 (x.P.To.map Io),.sl 3 (x.P.Rs.map Ow),.sl 2 (x.P.Hs.map Lm),.sl 8 (x.P.As.map Nq),.sl 1 (x.P.Ss.map Xi),.sl 5 (x.P.Vars.map Mb),.sl 4 (x.P.Ps.map Mj),.sl 1 (x.Js.map Ng)]
structure EC where
 b_:(List Int)
deriving DecidableEq,Inhabited
def a4E(x:EC):List T:=[.sl 1 (x.b_.map WB)]
structure EI where
 b_:(List Int)
 e_:Int
deriving DecidableEq,Inhabited
def ZX(x:EI):List T:=[.sl 1 (x.b_.map WB),tI .i64 x.e_]
structure l5 where
 Ks:Int
 Ls:Int
 Id:Int
 Ns:Int
 Ds:(b38)
deriving DecidableEq,Inhabited
def MU(x:l5):List T:=[tI .u8 x.Ks,tI .i64 x.Ls,tI .i64 x.Id,tI .i64 x.Ns,tS x.Ds]
structure i5 where
 L:(List l5)
 I:Int
 On:Int
 F:x8
deriving DecidableEq,Inhabited
def a29(x:i5):List T:=[.sl 5 (x.L.map MU),tI .i64 x.I,tI .i64 x.On,tI .i64 x.F.Code,tI .i64 x.F.Ls,tI .i64 x.F.Id]
structure i9 where
 L:(List d7)
 M:(List i8)
 P:l9
 T:(List o0)
 F:x8
 By:Int
deriving DecidableEq,Inhabited
def a6u(x:i9):List T:=[.sl 6 (x.L.map Kn),.sl 3 (x.M.map Jh),.sl 6 (x.P.No.map Kn),.sl 3 (x.P.Ms.map Jh),.sl 2 (x.P.To.map Io),.sl 3 (x.P.Rs.map Ow),.sl 2 (x.P.Hs.map Lm),.sl 8 (x.P.As.map Nq),.sl 1 (x.P.Ss.map Xi),.sl 5 (x.P.Vars.map Mb),.sl 4 (x.P.Ps.map Mj),.sl 2 (x.T.map Io),tI .i64 x.F.Code,tI .i64 x.F.Ls,tI .i64 x.F.Id,tI .i64 x.By]
structure d8 where
 P:l9
 Rs:(List (b38))
 F:x8
deriving DecidableEq,Inhabited
def a5x(x:d8):List T:=[.sl 6 (x.P.No.map Kn),.sl 3 (x.P.Ms.map Jh),.sl 2 (x.P.To.map Io),.sl 3 (x.P.Rs.map Ow),.sl 2 (x.P.Hs.map Lm),.sl 8 (x.P.As.map Nq),.sl 1 (x.P.Ss.map Xi),.sl 5 (x.P.Vars.map Mb),.sl 4 (x.P.Ps.map Mj),.sl 1 (x.Rs.map Ng),tI .i64 x.F.Code,tI .i64 x.F.Ls,tI .i64 x.F.Id]
structure v8 where
 In:(b38)
 Ws:Int
 Xs:Int
 At:Int
deriving DecidableEq,Inhabited
def a3u(x:v8):List T:=[tS x.In,tI .i64 x.Ws,tI .i64 x.Xs,tI .i64 x.At]
structure I3 where
 e0_:Int
 e1_:Int
 e2_:Int
 e3_:Int
 e4_:Int
 e5_:Int
 e6_:Int
 e7_:Int
deriving DecidableEq,Inhabited
def b1x(x:I3):List T:=[tI .i64 x.e0_,tI .i64 x.e1_,tI .i64 x.e2_,tI .i64 x.e3_,tI .i64 x.e4_,tI .i64 x.e5_,tI .i64 x.e6_,tI .i64 x.e7_]
def xK(x:I3):List A:=[aI .i64 x.e0_,aI .i64 x.e1_,aI .i64 x.e2_,aI .i64 x.e3_,aI .i64 x.e4_,aI .i64 x.e5_,aI .i64 x.e6_,aI .i64 x.e7_]
def Fq(x:I3):A:=.agg (xK x)
end
section
open Go.RowKit
set_option maxRecDepth 100000
set_option maxHeartbeats 4000000
def a5f(a0:Int)(r:I3):Prop:=FnP Tryz.prog 138 [aI .i64 a0] (Fq r)
def a7C(a0:I3)(r:Int):Prop:=FnP Tryz.prog 139 [Fq a0] (aI .i64 r)
def a0R(a0:I3)(r:I3):Prop:=FnP Tryz.prog 137 [Fq a0] (Fq r)
def a8G(a0:l7)(a1:Int)(r:(b38)):Prop:=FnP Tryz.prog 15 [Ib a0,aI .i64 a1] (aS r)
end
end
end Go.Proofs.YtihbbcealnnpiaaGreatDoor
