/- Parts of the proof. -/
import Derived.Test.YtihbbcealnnpiaaGreatDoorHmLiBld
import Derived.Test.YtihbbcealnnpiaaGreatDoorHmLiName
import Derived.Test.YtihbbcealnnpiaaGreatDoorHmLiMay
import Derived.Test.YtihbbcealnnpiaaGreatDoorHmValsX
import Derived.Lib.ItoaLen
import Derived.Deep.RegionHeld3
set_option linter.unusedVariables false
namespace Go.Proofs.YtihbbcealnnpiaaGreatDoor
section
section
open Go.RowKit
set_option maxHeartbeats 4000000
set_option maxRecDepth 100000
def a6j(w:World)(v:Value){α:Type}(l:List α)(k:Nat)(F:α→Nat→Value):Prop:=∃a cap,v=.slice a l.length cap∧l.length≤cap∧cap≤maxLen∧(l≠ []→∃b off,a=some ⟨b,off,none⟩∧b<w.heap.size∧∀i (hi:i<l.length) j,j<k→w.cell? ⟨b,off+(i*k+j),none⟩=some (F l[i] j))
theorem UK{w:World}{M:Nat→Prop}{α:Type}{k:Nat}{l:List α}{f:α→List T}{v:Value}(h:RepT w M (.sl k (l.map f)) v)(F:α→Nat→Value)(hF:∀x j,j<k→(f x)[j]? =some (.v (F x j))):a6j w v l k F:=by
 generalize hX:l.map f=xs at h;cases h with
 |nil _ a cap hcm=>have:l=[]:=(by simpa using hX);subst this;exact⟨a,cap,rfl,C9 _,hcm,fun h=>absurd rfl h⟩
 |sl _ _ b off cap c hb hM hcap hcm hk hc hrr=>subst hX;simp only[E1]at hcap hk hc hrr⊢;refine⟨_,_,rfl,by omega,hcm,fun _=>⟨b,off,rfl,hb,fun i hi j hj=>?_⟩⟩;have h1:=hF l[i] j hj;have hlt:j<(f l[i]).length:=(l3.1 h1).1;have h2:=hrr i hi j (by simpa using hlt);simp only[List.getElem_map]at h2;rw[(l3.1 h1).2]at h2;have h3:=B7 (st:=⟨0,fun _=>.dead,fun _=>none,fun _=>false⟩) (L:=fun _=>nol) (.t _ _ h2);rw[hc i hi j hj,h3]
def HG(x:i6):Nat→Value
 |0=>.int .u8 x.Op
 |1=>.int .i64 x.A
 |_=>.int .i64 x.Ls
def OH(x:y7):Nat→Value
 |0=>.int .i64 x.At
 |1=>.int .i64 x.If
 |2=>.int .i64 x.Es
 |3=>.int .i64 x.Ss
 |_=>.int .i64 x.By
structure Hu(w:World)(X:Nat→Prop)(c:l7)(v1 v2 v3:Value):Prop where
 r1:RepT w X (.sl 3 (c.Is.map Tv)) v1
 r2:RepT w X (.sl 5 (c.As.map Vg)) v2
 r3:RepT w X (.sl 1 (c.Js.map Ng)) v3
theorem a0u{w:World}{X:Nat→Prop}{c:l7}{v:Value}(h:D4 w X (Ib c) v):∃v1 v2 v3,v=.agg #[v1,v2,v3]∧Hu w X c v1 v2 v3:=by
 unfold Ib DI at h;cases h with
 |agg cs vs hs h1 hr=>
  obtain⟨vs⟩:=vs
  match vs,hs with
  | [v1,v2,v3],_=>
   refine⟨v1,v2,v3,rfl,?_,?_,?_⟩
   ·have:=hr 0 (by simp);cases this with|t _ _ h=>exact h
   ·have:=hr 1 (by simp);cases this with|t _ _ h=>exact h
   ·have:=hr 2 (by simp);cases this with|t _ _ h=>exact h
theorem Hu.rep{w:World}{X:Nat→Prop}{c:l7}{v1 v2 v3:Value}(h:Hu w X c v1 v2 v3):D4 w X (Ib c) (.agg #[v1,v2,v3]):=by
 unfold Ib DI;refine .agg _ _ rfl (fun i hi=>?_) (fun i hi=>?_)
 ·match i,hi with
  |0,_=>rfl
  |1,_=>rfl
  |2,_=>rfl
 ·match i,hi with
  |0,_=>exact .t _ _ h.r1
  |1,_=>exact .t _ _ h.r2
  |2,_=>exact .t _ _ h.r3
theorem Hu.to{w w':World}{X:Nat→Prop}{c:l7}{v1 v2 v3:Value}(h:Hu w X c v1 v2 v3)(hb:Below w.heap.size w w'):Hu w' (fun _=>False) c v1 v2 v3:=by have he:Ext X w w':=⟨hb.size,fun k hk _=>hb.block k hk⟩;exact⟨h.r1.ext he (fun _ _ h=>h.elim),h.r2.ext he (fun _ _ h=>h.elim),h.r3.ext he (fun _ _ h=>h.elim)⟩
theorem b1f{w:World}{c:l7}{v1 v2 v3:Value}(h:Hu w (fun _=>False) c v1 v2 v3):Calls Tryz.prog 24 #[.agg #[v1,v2,v3]] w fun e w'=>e=.returned (.bool (Gh c))∧Below w.heap.size w w':=by
 refine((a5i c).2 w (fun _=>False) #[.agg #[v1,v2,v3]] (fun _ h=>h.elim) rfl (fun i hi=>?_)).mono ?_
 ·match i,hi with
  |0,_=>exact h.rep
 ·rintro e w' ⟨v,rfl,hb,hr⟩;exact⟨by rw[B7 hr],hb⟩
def Sf:Nat→Nat→b38
 |0,u=>[UInt8.ofNat (48+u)]
 |f+1,u=>if u<10 then [UInt8.ofNat (48+u)]else Sf f (u/10)++[UInt8.ofNat (48+u%10)]
theorem yL:∀f u,u<10^(f+1)→Sf f u=Lib.decDigits u
 |0,u,h=>by rw[Lib.decDigits,dif_pos (by omega)];rfl
 |f+1,u,h=>by
  rw[Lib.decDigits];unfold Sf;split
  ·rfl
  ·rw[yL f (u/10) (by rw[Nat.pow_succ]at h;omega)]
def Ai(n:Int):b38:=if n<0 then 45::Sf 20 n.natAbs else Sf 20 n.toNat
theorem QQ{n:Int}(h0: -9223372036854775808≤n)(h1:n≤9223372036854775807):Ai n=Lib.itoa n:=by
 unfold Ai Lib.itoa;split
 ·rw[yL 20 _ (by omega)]
 ·rw[yL 20 _ (by omega)]
theorem oO{n:Int}(h0: -9223372036854775808≤n)(h1:n≤9223372036854775807):(Ai n).length≤21:=by rw[QQ h0 h1];exact Lib.itoa_length_le n h0 h1
def Az(op:Int):Bool:=decide (op=6)||(decide (op=15)||(decide (op=16)||(decide (op=23)||(decide (op=24)||(decide (op=25)||decide (op=26))))))
def Bn(i:Nat)(x:i6):b38:=Ai i++([32]++(Bl x.Op++((if Az x.Op then []else 32::Ai x.A)++[10])))
def S8:Nat→List i6→b38
 |_,[]=>[]
 |i,x::l=>Bn i x++S8 (i+1) l
theorem QE:∀(l:List i6) (i:Nat) (x:i6),S8 i (l++[x])=S8 i l++Bn (i+l.length) x
 | [],i,x=>by show Bn i x++[]=[]++Bn (i+0) x;rw[O1,J4,Nat.add_zero]
 |y::l,i,x=>by show Bn i y++S8 (i+1) (l++[x])=Bn i y++S8 (i+1) l++Bn (i+(l.length+1)) x;rw[QE l (i+1) x,G5,show i+1+l.length=i+(l.length+1) by omega]
theorem WD(op:Int)(h0:0≤op)(h1:op<256)(w:World):Calls Tryz.prog 36 #[.int .u8 op] w fun e w'=>e=.returned (.bool (Az op))∧w'=w:=by
 unfold Az;by_cases c:op=6∨op=15∨op=16∨op=23∨op=24∨op=25∨op=26
 ·rcases c with rfl|rfl|rfl|rfl|rfl|rfl|rfl
  all_goals
   go_enter Tryz.func36,Tryz.ntmps36
   go_wp2
   go_ret
   exact⟨rfl,rfl⟩
 ·obtain⟨c1,c2,c3,c4,c5,c6,c7⟩:op≠6∧op≠15∧op≠16∧op≠23∧op≠24∧op≠25∧op≠26:=by omega
  go_enter Tryz.func36,Tryz.ntmps36
  go_wp2
  go_ret
  refine⟨?_,rfl⟩;simp[c1,c2,c3,c4,c5,c6,c7]
theorem PY{T e:TypeId}{B b:Nat}{p:Value}{bs:List Value}{w w':World}(h:Lib.BuilderAtF T e B b p bs w)(hb:Below w.heap.size w w'):Lib.BuilderAtF T e B b p bs w':=by
 obtain⟨hB,v,hk,hown,hne⟩:=h;have keep:∀{k o},w.heap[k]? =some o→w'.heap[k]? =some o:=fun{k o} hko=>(hb.block k (Array.getElem?_eq_some_iff.1 hko).1).trans hko;refine⟨hB,v,keep hk,⟨hown.1,?_⟩,hne⟩;rcases hown.2 with hn|⟨g,cap,cur,fz,hv,hbg,hg,rest⟩
 ·exact .inl hn
 ·exact .inr ⟨g,cap,cur,fz,hv,hbg,keep hg,rest⟩
theorem uZ{T e:TypeId}{B b:Nat}{bs:List Value}{w w':World}(h:Lib.IsBuilderF T e B b bs w)(hb:Below w.heap.size w w'):Lib.IsBuilderF T e B b bs w':=h.elim (fun x=>.inl (PY x hb)) (fun x=>.inr (PY x hb))
end
section
open Go.RowKit
def Ac(w:World)(n:Int):Prop:=0≤n∧n<100
theorem Ac.below{w w':World}{n:Int}(h:Ac w n)(hb:Below w.heap.size w w'):Ac w' n:=h
theorem Ac.range{w:World}{n:Int}(h:Ac w n): -9223372036854775808≤n∧n≤9223372036854775807:=by unfold Ac at h;omega
theorem TN{n:Nat}(h:n<100):Ai (n:Int)=Lib.decDigits n:=by rw[QQ (by omega) (by omega)];unfold Lib.itoa;rw[if_neg (by omega),E0]
theorem a34{w:World}{n:Int}(h:Ac w n):Calls Tryz.prog 34 #[.int .i64 n] w fun e w'=>e=.returned (.string (mkS (Ai n)))∧Below w.heap.size w w':=by obtain⟨h0,h1⟩:=h;obtain⟨m,rfl⟩:∃m:Nat,n=(m:Int):=⟨n.toNat,by omega⟩;refine(Tryz.strconv_Itoa_small m (by omega) w).mono ?_;rintro e w' ⟨rfl,rfl⟩;exact⟨by rw[TN (by omega)],Below.refl _ _⟩
theorem a0f{w:World}{n:Int}(h:Ac w n):Calls Tryz.prog 37 #[.int .i64 n,.int .i64 10] w fun e w'=>e=.returned (.string (mkS (Ai n)))∧Below w.heap.size w w':=by obtain⟨h0,h1⟩:=h;obtain⟨m,rfl⟩:∃m:Nat,n=(m:Int):=⟨n.toNat,by omega⟩;refine(Tryz.strconv_FormatInt_10_small m (by omega) w).mono ?_;rintro e w' ⟨rfl,rfl⟩;exact⟨by rw[TN (by omega)],Below.refl _ _⟩
end
section
open Go.RowKit Go.Great
set_option maxHeartbeats 8000000
set_option maxRecDepth 100000
theorem KZ{n:Int}:∀{l:List y7} {a e:Int},Di n a l=some e→∀{i:Nat} {f:y7},l[i]? =some f→0≤a→0≤f.At∧0≤f.If∧f.At+f.If≤n
 | [],a,e,h,i,f,hf,_=>by simp at hf
 |g::l,a,e,h,i,f,hf,h0=>by
  rw[show Di n a (g::l)=if Ku g a∧g.If≤n-a then Di n (a+g.If) l else none from rfl]at h;split at h
  ·rename_i c;obtain⟨⟨c1,c2,_⟩,c3⟩:=c;cases i with
   |zero=>simp at hf;subst hf;omega
   |succ i=>exact KZ h (by simpa using hf) (by omega)
  ·cases h
structure a6s(c:l7):Prop where
 ins:c.Is.length≤65536
 at_:∀{i:Nat} {f:y7},c.As[i]? =some f→0≤f.At∧0≤f.If∧f.At+f.If≤c.Is.length
 op:∀x∈c.Is,1≤x.Op∧x.Op≤26
theorem a2K{c:l7}(h:Gh c=true):a6s c:=by
 unfold Gh at h;simp only[w8]at h;obtain⟨h1,h2,h3,h4⟩:=h;cases hm:Di c.Is.length 0 c.As with
 |none=>rw[hm]at h4;cases h4
 |some e=>rw[hm]at h4;simp only[w8]at h4;refine⟨D3 h2,fun hf=>KZ hm hf (P4 _),fun x hx=>?_⟩;have:=List.all_eq_true.1 h4.2.1 x hx;unfold Km at this;simp only[w8,decide_eq_true_eq]at this;omega
theorem GJ(op:Int):(Bl op).length≤6:=by
 unfold Bl;cases h:Pv[op.toNat]? with
 |none=>exact C9 _
 |some s=>have hm:=M7 h;have:∀s∈Pv,s.length≤6:=(by decide);exact this s hm
theorem a6R(i:Nat)(x:i6)(hi:i≤70000)(hA:Az x.Op=false→ -9223372036854775808≤x.A∧x.A≤9223372036854775807):(Bn i x).length≤64:=by
 unfold Bn;have h1:=oO (n:=(i:Int)) (by omega) (by omega);have h2:=GJ x.Op;have h3:(if Az x.Op then []else 32::Ai x.A:b38).length≤22:=by
  cases hb:Az x.Op with
  |true=>exact C9 _
  |false=>obtain⟨a,b⟩:=hA hb;have:=oO a b;rw[if_neg (by decide),I5];omega
 simp only[o9,A3];omega
theorem KD:∀(l:List i6) (i:Nat),(∀x∈l,Az x.Op=false→ -9223372036854775808≤x.A∧x.A≤9223372036854775807)→i+l.length≤70000→(S8 i l).length≤64*l.length
 | [],i,_,_=>C9 _
 |x::l,i,h,hi=>by have h1:=KD l (i+1) (fun y hy=>h y (H6 _ hy)) (by rw[I5]at hi;omega);have h2:=a6R i x (by omega) (h x G0);show(Bn i x++S8 (i+1) l).length≤64*(l.length+1);rw[o9];omega
theorem a7B(a b:b38):Lib.strCells (mkS a++⟨#[32]⟩++mkS b)=Lib.byteCells (a++([32]++b)):=by rw[Lib.strCells_eq];simp[ByteArray.data_append]
theorem a7A(a:b38):Lib.strCells (⟨#[32]⟩++mkS a)=Lib.byteCells (32::a):=by rw[Lib.strCells_eq];simp[ByteArray.data_append]
theorem a6B{W:World}{q:Nat}{u:Value}{o:Obj}(h:W.cell? ⟨q,0,none⟩=some u∧W.heap[q]? =some o):W.drew.cell? ⟨q,0,none⟩=some u∧W.drew.heap[q]? =some o:=h
theorem ZL{W W':World}{q:Nat}{u:Value}{o:Obj}(h:W.cell? ⟨q,0,none⟩=some u∧W.heap[q]? =some o)(hb:Below W.heap.size W W'):W'.cell? ⟨q,0,none⟩=some u∧W'.heap[q]? =some o:=by have hq:q<W.heap.size:=(Array.getElem?_eq_some_iff.1 h.2).1;exact⟨(hb.cell (p:=⟨q,0,none⟩) hq).trans h.1,(hb.block q hq).trans h.2⟩
theorem a4M{W W':World}{q b:Nat}{u:Value}{c:Array Value}{T:TypeId}(h:W.cell? ⟨q,0,none⟩=some u∧W.heap[q]? =some (.cells c T (0,0)))(hk:Lib.OthersKept 5 (some b) W W')(hqb:q≠b)(hT:T≠5):W'.cell? ⟨q,0,none⟩=some u∧W'.heap[q]? =some (.cells c T (0,0)):=by have h2:=hk q _ h.2 (fun e=>hqb (Option.some.inj e)) (fun c' fz e=>hT (by injection e));refine⟨?_,h2⟩;rw[Lib.cell_of_heap h2,←Lib.cell_of_heap h.2];exact h.1
theorem a4F(w:World)(c:l7)(v1 v2 v3:Value)(fn:Nat)(f:y7)(hv:Hu w (fun _=>False) c v1 v2 v3)(hf:c.As[fn]? =some f)(hm:Gh c=true)(hne:c.Is≠ [])(hl0:f.If≠0)(hN:∀i:Nat,(i:Int)<f.If→Ac w i)(hA:∀x∈c.Is,Az x.Op=false→Ac w x.A):Calls Tryz.prog 15 #[.agg #[v1,v2,v3],.int .i64 fn] w fun e w'=>e=.returned (.string (mkS (S8 0 ((c.Is.drop f.At.toNat).take f.If.toNat))))∧Below w.heap.size w w':=by
 have hk:=a2K hm;obtain⟨a1,k1,rfl,n1,m1,r1⟩:=UK hv.r1 HG (fun x j hj=>by
  match j,hj with
  |0,_=>rfl
  |1,_=>rfl
  |2,_=>rfl)
 obtain⟨a2,k2,rfl,n2,m2,r2⟩:=UK hv.r2 OH (fun x j hj=>by
  match j,hj with
  |0,_=>rfl
  |1,_=>rfl
  |2,_=>rfl
  |3,_=>rfl
  |4,_=>rfl)
 obtain⟨b1,o1,rfl,l1,g1⟩:=r1 hne;obtain⟨b2,o2,rfl,l2,g2⟩:=r2 (fun h=>by rw[h]at hf;simp at hf);obtain⟨hfl,hfe⟩:=l3.1 hf;have fA:=g2 fn hfl 0 (by omega);have fL:=g2 fn hfl 1 (by omega);have fP:=g2 fn hfl 2 (by omega);have fS:=g2 fn hfl 3 (by omega);have fR:=g2 fn hfl 4 (by omega);rw[hfe]at fA fL fP fS fR;unfold OH at fA fL fP fS fR;simp only[Nat.add_zero,←Nat.add_assoc]at fA fL fP fS fR;obtain⟨p0,p1,p2⟩:=hk.at_ hf;have hi:=hk.ins;have t0:¬(fn:Int)<0:=(by omega);have t1:(fn:Int)<c.As.length:=(by omega);have G1:=Lib.hid g1;clear g1 r1;have HV:=Lib.hid hv;clear hv r2 g2;have HN:=Lib.hid hN;clear hN;have HA:=Lib.hid hA;clear hA;have HM:=Lib.hid hm;clear hm;have HK:=Lib.hid hk;clear hk;obtain⟨fa,fl,fp,fs,fr⟩:=f;simp only at fA fL fP fS fR p0 p1 p2;obtain⟨at0,rfl⟩:∃n:Nat,fa=(n:Int):=⟨fa.toNat,by omega⟩;obtain⟨ln,rfl⟩:∃n:Nat,fl=(n:Int):=⟨fl.toNat,by omega⟩;have t2:¬c.As.length≤fn:=(by omega);have t3:¬k1=at0:=(by simp only at hl0;omega);have t4:ln≠0:=(by simp only at hl0;omega);clear hl0
 go_enter Tryz.func15,Tryz.ntmps15
 go_wp2_with (go_at_call 24;go_must (refine(b1f (HV.out.to ((Below.refl _ _).alloc (i4 _) _))).mono ?_;rintro e w1 ⟨rfl,hb1⟩;rw[HM.out];(have h1:=(hb1.block w.heap.size (by simp)).trans (heap_alloc_last w _));(have hw1:Below w.heap.size w w1:=((Below.refl _ w).alloc (i4 _) _).trans (hb1.mono (by simp)));(have s1:w.heap.size<w1.heap.size:=by have:=hb1.size;simp at this;omega);(have q0:=Lib.cell_of_heap h1 0);(have q1:=Lib.cell_of_heap h1 1);simp only[List.getElem?_toArray,List.getElem?_cons_zero,List.getElem?_cons_succ]at q0 q1;rw[←hw1.cell (p:=⟨b2,_,none⟩) l2]at fA fL fP fS fR;(have l2':b2<w1.heap.size:=by omega);have HB:=Lib.hid hw1;clear h1 hb1 hw1))
 have e0:((w1.alloc (Obj.cells #[Value.pointer none,Value.slice none 0 0] 98)).alloc (Obj.cells #[Value.int IntKind.i64 (at0:Int),Value.int IntKind.i64 (ln:Int),Value.int IntKind.i64 fp,Value.int IntKind.i64 fs,Value.int IntKind.i64 fr] 45)).heap.size=w1.heap.size+2:=(by simp);have hbl:Lib.IsBuilderF 98 5 w1.heap.size w1.heap.size (Lib.byteCells []) ((w1.alloc (Obj.cells #[Value.pointer none,Value.slice none 0 0] 98)).alloc (Obj.cells #[Value.int IntKind.i64 (at0:Int),Value.int IntKind.i64 (ln:Int),Value.int IntKind.i64 fp,Value.int IntKind.i64 fs,Value.int IntKind.i64 fr] 45)):=(Lib.IsBuilderF.of (Lib.fresh_isBuilder 98 5 w1)).alloc _;have hbw:Below w.heap.size w ((w1.alloc (Obj.cells #[Value.pointer none,Value.slice none 0 0] 98)).alloc (Obj.cells #[Value.int IntKind.i64 (at0:Int),Value.int IntKind.i64 (ln:Int),Value.int IntKind.i64 fp,Value.int IntKind.i64 fs,Value.int IntKind.i64 fr] 45)):=(HB.out.alloc (by omega) _).alloc (by simp;omega) _;generalize ((w1.alloc (Obj.cells #[Value.pointer none,Value.slice none 0 0] 98)).alloc (Obj.cells #[Value.int IntKind.i64 (at0:Int),Value.int IntKind.i64 (ln:Int),Value.int IntKind.i64 fp,Value.int IntKind.i64 fs,Value.int IntKind.i64 fr] 45))=W0 at e0 hbl hbw⊢;generalize hbk:w1.heap.size=bk at*;clear q0 q1 fA fL fP fS fR
 go_loopw [7,8,39] (fun u7 u8 i wr=>∃k:Nat,k≤ln∧i=.int .i64 k∧Lib.IsBuilderF 98 5 bk bk (Lib.byteCells (S8 0 (((c.Is.drop at0).take ln).take k))) wr∧Below w.heap.size w wr∧bk≤wr.heap.size) (fun _ _ i _=>ln-(intOf i).toNat)
 case atStart=>exact⟨0,C9 _,rfl,hbl,hbw,by omega⟩
 case round=>
  obtain⟨k,hkl,rfl,hB,hW,hs⟩:=hrel;by_cases hlt:k<ln
  ·have hkn:at0+k<c.Is.length:=(by omega);have hbl1:b1<wr.heap.size:=(by have:=hW.size;omega);have x0:=G1.out (at0+k) hkn 0 (by omega);have x1:=G1.out (at0+k) hkn 1 (by omega);have x2:=G1.out (at0+k) hkn 2 (by omega);rw[←hW.cell (p:=⟨b1,_,none⟩) l1]at x0 x1 x2;have hop:=HK.out.op c.Is[at0+k] (A4 hkn);have hA1:=HA.out c.Is[at0+k] (A4 hkn);have hLk:((c.Is.drop at0).take ln).take (k+1)=((c.Is.drop at0).take ln).take k++[c.Is[at0+k]]:=by rw[List.take_add_one];congr 1;rw[List.getElem?_take_of_lt hlt,List.getElem?_drop,o5 hkn];rfl
   have hacc:(S8 0 (((c.Is.drop at0).take ln).take k)).length≤64*k:=by have h:=KD (((c.Is.drop at0).take ln).take k) 0 (fun x hx hb=>(HA.out x (List.mem_of_mem_drop (List.mem_of_mem_take (List.mem_of_mem_take hx))) hb).range) (by simp only[List.length_take,List.length_drop];omega);simp only[List.length_take,List.length_drop]at h;omega
   generalize c.Is[at0+k]=x at*;obtain⟨op,A,ln2⟩:=x;unfold HG at x0 x1 x2;simp only at x0 x1 x2 hop hA1;rw[show o1+((at0+k)*3+0)=o1+at0*3+k*3 by omega]at x0;rw[show o1+((at0+k)*3+1)=o1+at0*3+k*3+1 by omega]at x1;rw[show o1+((at0+k)*3+2)=o1+at0*3+k*3+2 by omega]at x2;have hk2:(k:Int)<ln:=(by omega);have HBL:=Lib.hid hB;clear hB;have HW:=Lib.hid hW;clear hW;have HA1:=Lib.hid hA1;clear hA1
   go_wp2_with fail
   have hq:=heap_alloc_last wr (Obj.cells #[Value.int IntKind.u8 op,Value.int IntKind.i64 A,Value.int IntKind.i64 ln2] 47);have hq0:(wr.alloc (Obj.cells #[Value.int IntKind.u8 op,Value.int IntKind.i64 A,Value.int IntKind.i64 ln2] 47)).cell? ⟨wr.heap.size,0,none⟩=some (.int .u8 op):=(by rw[Lib.cell_of_heap hq];rfl);have HB1:=Lib.hid (HBL.out.alloc (Obj.cells #[Value.int IntKind.u8 op,Value.int IntKind.i64 A,Value.int IntKind.i64 ln2] 47));have HW1:=Lib.hid (HW.out.alloc (by have:=HW.out.size;omega) (Obj.cells #[Value.int IntKind.u8 op,Value.int IntKind.i64 A,Value.int IntKind.i64 ln2] 47));have hz:(wr.alloc (Obj.cells #[Value.int IntKind.u8 op,Value.int IntKind.i64 A,Value.int IntKind.i64 ln2] 47)).heap.size=wr.heap.size+1:=(by simp);generalize wr.alloc (Obj.cells #[Value.int IntKind.u8 op,Value.int IntKind.i64 A,Value.int IntKind.i64 ln2] 47)=W1 at hq hq0 HB1 HW1 hz⊢;have hqb:wr.heap.size≠bk:=by
    intro e;obtain⟨_,v,hbk',_⟩|⟨_,v,hbk',_⟩:=HBL.out
    ·have:=(Array.getElem?_eq_some_iff.1 hbk').1;omega
    ·have:=(Array.getElem?_eq_some_iff.1 hbk').1;omega
   generalize hqe:wr.heap.size=q at hq hq0 hz hqb⊢;have hSS:W1.cell? ⟨q,0,none⟩=some (.int .u8 op)∧W1.heap[q]? =some (Obj.cells #[Value.int IntKind.u8 op,Value.int IntKind.i64 A,Value.int IntKind.i64 ln2] 47):=⟨hq0,hq⟩;clear x0 x1 x2 hbl1;have HN1:=Lib.hid ((HN.out k hk2).below HW1.out);obtain⟨sk,hsk⟩:∃s:ByteArray,s=mkS (Ai k):=⟨_,rfl⟩;obtain⟨nm,hnm⟩:∃s:ByteArray,s=mkS (Bl op):=⟨_,rfl⟩;have z1:sk.size≤21:=(by rw[hsk];exact oO HN1.out.range.1 HN1.out.range.2);have z2:nm.size≤6:=(by rw[hnm];exact GJ op);have cI:∀W:World,Ac W k→Calls Tryz.prog 34 #[.int .i64 k] W fun e w'=>e=.returned (.string sk)∧Below W.heap.size W w':=fun W h=>by rw[hsk];exact a34 h
   have cN:∀W:World,Calls Tryz.prog 35 #[.int .u8 op] W fun e w'=>e=.returned (.string nm)∧Below W.heap.size W w':=fun W=>by rw[hnm];exact b3s op (by omega) (by omega) W
   have CI:=Lib.hid cI;clear cI;have CN:=Lib.hid cN;clear cN;have f1:¬9223372036854775807<sk.size+1:=(by omega);have f2:¬9223372036854775807<sk.size+1+nm.size:=(by omega);have HLEN:Hid ((Lib.byteCells (S8 0 (((c.Is.drop at0).take ln).take k))).length+(sk++⟨#[32]⟩++nm).size≤140737488355328):=Lib.hid (by
    rw[Lib.byteCells_length,ByteArray.size_append,ByteArray.size_append];show _+(sk.size+1+nm.size)≤_;omega)
   have HBK:Hid (bk≤W1.heap.size):=Lib.hid (by omega);have Z1:=Lib.hid z1;clear z1;have Z2:=Lib.hid z2;clear z2;have HSK:=Lib.hid hsk;clear hsk;have HNM:=Lib.hid hnm;clear hnm
   go_region_held3 (fun W=>W.cell? ⟨q,0,none⟩=some (.int .u8 op)∧W.heap[q]? =some (Obj.cells #[Value.int IntKind.u8 op,Value.int IntKind.i64 A,Value.int IntKind.i64 ln2] 47)) (first|assumption|(exact a6B (by assumption))|(exact ZL (by assumption) (by assumption))) (first|(go_at_call 34;refine(CI.out _ (by exact HN1.out)).mono ?_;rintro e w2 ⟨rfl,hb2⟩)|(go_at_call 35;refine(CN.out _).mono ?_;rintro e w3 ⟨rfl,hb3⟩)|(go_at_call 33;refine(TK bk bk _ _ _ (uZ (by exact(uZ (by exact HB1.out) hb2)) hb3) HLEN.out (Q4 HBK.out (Q4 (by exact hb2.size) (by exact hb3.size)))).mono ?_;rintro e w4 ⟨rfl,hb4,hw4,ho4⟩;have hS4:=a4M (by assumption) ho4 hqb (by decide)))
   have y0:=hS4.1;have y1:w4.cell? ⟨q,1,none⟩=some (.int .i64 A):=(by rw[Lib.cell_of_heap hS4.2];rfl);have hq4:q<w4.heap.size:=(Array.getElem?_eq_some_iff.1 hS4.2).1;have HW4:Hid (Below w.heap.size w w4):=Lib.hid (((HW1.out.drew.trans (hb2.mono (by exact HW1.out.size))).trans (hb3.mono (Q4 HW1.out.size (by exact hb2.size)))).trans (hw4.mono (by have:=HW.out.size;omega)));have HB4:=Lib.hid hb4;have hs4:bk≤w4.heap.size:=(by omega);have HL5:Hid ((Lib.byteCells (S8 0 (((c.Is.drop at0).take ln).take k))++Lib.strCells (sk++⟨#[32]⟩++nm)).length≤7000000):=Lib.hid (by
    rw[o9,Lib.strCells_length,Lib.byteCells_length,ByteArray.size_append,ByteArray.size_append];show _+(sk.size+1+nm.size)≤_;have:=Z1.out;have:=Z2.out;omega)
   have HB4L:Hid ((Lib.byteCells (S8 0 (((c.Is.drop at0).take ln).take k))++Lib.strCells (sk++⟨#[32]⟩++nm)).length≤140737488355328):=Lib.hid (by
    rw[o9,Lib.strCells_length];exact HLEN.out)
   clear hS4 hb4 hw4 ho4 hb2 hb3 hq hq0 hSS;have el:(((c.Is.drop at0).take ln).take k).length=k:=by rw[List.length_take,List.length_take,List.length_drop];clear f1 f2 HLEN HL5 HB4L;omega
   have hfin:Lib.byteCells (S8 0 (((c.Is.drop at0).take ln).take (k+1)))=(Lib.byteCells (S8 0 (((c.Is.drop at0).take ln).take k))++Lib.strCells (sk++⟨#[32]⟩++nm))++Lib.byteCells ((if Az op then []else 32::Ai A)++[10]):=by rw[hLk,QE,HSK.out,HNM.out,a7B,←Lib.byteCells_append,←Lib.byteCells_append];rw[el,Nat.zero_add];unfold Bn;simp only[G5]
   have HF:=Lib.hid hfin;clear hfin hLk;cases hbb:Az op with
   |true=>
    rw[hbb]at HF
    go_wp2_with (first|(go_at_call 36;go_must (refine(WD op (by omega) (by omega) _).mono ?_;rintro e w5 ⟨rfl,rfl⟩;rw[hbb]))|(go_at_call 38;go_must (refine(TU bk bk _ 10 _ (.inr HB4.out) (by have:=HB4L.out;have:=HL5.out;omega) hs4).mono ?_;rintro e w6 ⟨rfl,hb6,hw6,ho6⟩)))
    go_roundw
    case rel=>rw[show at0+ln-at0=ln by clear f1 f2;omega];refine⟨_,_,_,_,_,_,_,_,_,_,_,_,_,_,_,_,_,_,_,_,_,_,_,_,_,_,⟨k+1,by clear f1 f2;omega,rfl,.inr ?_,HW4.out.trans (hw6.mono (by have:=HW.out.size;clear f1 f2;omega)),Q4 hs4 hw6.size⟩,rfl⟩;rw[HF.out];exact hb6
    case measure=>clear f1 f2;simp[intOf];omega
   |false=>
    rw[hbb]at HF;have HA2:=Lib.hid ((HA1.out hbb).below HW4.out);obtain⟨sa,hsa⟩:∃s:ByteArray,s=mkS (Ai A):=⟨_,rfl⟩;have z3:sa.size≤21:=(by rw[hsa];exact oO HA2.out.range.1 HA2.out.range.2);have cF:∀W:World,Ac W A→Calls Tryz.prog 37 #[.int .i64 A,.int .i64 10] W fun e w'=>e=.returned (.string sa)∧Below W.heap.size W w':=fun W h=>by rw[hsa];exact a0f h
    have CF:=Lib.hid cF;clear cF;have HSA:=Lib.hid hsa;clear hsa;have f3:¬9223372036854775807<1+sa.size:=(by clear f1 f2;omega);have HL6:Hid ((Lib.byteCells (S8 0 (((c.Is.drop at0).take ln).take k))++Lib.strCells (sk++⟨#[32]⟩++nm)).length+(⟨#[32]⟩++sa).size≤8000000):=Lib.hid (by
     rw[ByteArray.size_append];show _+(1+sa.size)≤_;have:=HL5.out;clear f1 f2 f3;omega)
    have Z3:=Lib.hid z3;clear z3
    go_wp2_with (first|(go_at_call 36;go_must (refine(WD op (by omega) (by omega) _).mono ?_;rintro e w5 ⟨rfl,rfl⟩;rw[hbb]))|(go_at_call 37;go_must (refine(CF.out _ HA2.out).mono ?_;rintro e w5 ⟨rfl,hb5⟩))|(go_at_call 33;go_must (refine(TK bk bk _ _ _ (uZ (.inr HB4.out) hb5) (by have:=HL6.out;clear f1 f2 f3;omega) (Q4 hs4 hb5.size)).mono ?_;rintro e w6 ⟨rfl,hb6,hw6,ho6⟩))|(go_at_call 38;go_must (refine(TU bk bk _ 10 _ (.inr hb6) (by rw[o9,Lib.strCells_length];have:=HL6.out;clear f1 f2 f3;omega) (Q4 hs4 (Q4 hb5.size hw6.size))).mono ?_;rintro e w7 ⟨rfl,hb7,hw7,ho7⟩)))
    go_roundw
    case rel=>rw[show at0+ln-at0=ln by clear f1 f2 f3;omega];refine⟨_,_,_,_,_,_,_,_,_,_,_,_,_,_,_,_,_,_,_,_,_,_,_,_,_,_,⟨k+1,by clear f1 f2 f3;omega,rfl,.inr ?_,HW4.out.trans ((hb5.mono (by exact HW4.out.size)).trans ((hw6.mono (by have:=HW.out.size;clear f1 f2 f3;omega)).trans (hw7.mono (by have:=HW.out.size;clear f1 f2 f3;omega)))),Q4 hs4 (Q4 hb5.size (Q4 hw6.size hw7.size))⟩,rfl⟩;rw[HF.out,if_neg (by decide),Lib.byteCells_append,←a7A,←HSA.out,←G5];exact hb7
    case measure=>clear f1 f2 f3;simp[intOf];omega
  ·have hk2:¬(k:Int)<ln:=(by omega);have hbl1:b1<wr.heap.size:=(by have:=hW.size;omega);have HBL:=Lib.hid hB;clear hB;have HW:=Lib.hid hW;clear hW
   go_wp2_with (go_at_call 39;go_must (refine(Tryz.Builder_String_any_k bk bk _ _ HBL.out hs).mono ?_;rintro e w2 ⟨rfl,_,hb2,_⟩))
   go_ret
   have ek:k=ln:=(by omega);subst ek;refine⟨?_,HW.out.trans (hb2.mono (by have:=HW.out.size;omega))⟩;simp only[E0];have e2:((c.Is.drop at0).take k).take k=(c.Is.drop at0).take k:=(by rw[List.take_take,Nat.min_self]);rw[e2];rfl
end
end
end Go.Proofs.YtihbbcealnnpiaaGreatDoor
