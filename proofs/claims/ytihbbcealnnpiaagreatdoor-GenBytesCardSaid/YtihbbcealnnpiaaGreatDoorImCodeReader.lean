/- Parts of the proof. -/
import Derived.Test.YtihbbcealnnpiaaGreatDoorChecked
import Derived.WalkSpells
import Derived.Laws.IdiomStrings
import Derived.Lib.VarintBits
import Derived.Test.YtihbbcealnnpiaaGreatDoorImCodeRep
import Derived.Laws.DeepNot64
import Derived.Laws.Bits64b
import Derived.Lib.BufferRead
set_option linter.unusedVariables false
namespace Go.Proofs.YtihbbcealnnpiaaGreatDoor
section
section
open Go.RowKit
def U9(w:World)(a:Option Addr)(cap:Nat)(l:b6H):Prop:=
 l.length<=cap/\cap<=maxLen/\(l=[]\/∃b off,a=some ⟨b,off,none⟩/\b<w.heap.size/\∀i (hi:i<l.length),w.cell? ⟨b,off+i,none⟩=some (M3 l[i]))
theorem GW{w:World}{a:Option Addr}{B:Nat}{l:b6H}(h:U9 w a B l){i:Nat}(hi:i<l.length):∃b z,a=some ⟨b,z,none⟩/\b<w.heap.size/\w.cell? ⟨b,z+i,none⟩=some (M3 l[i]):=by
 rcases h.2.2 with rfl|⟨b,z,C,F,G⟩
 ·simp at hi
 ·exact⟨b,z,C,F,G i hi⟩
theorem b5A{w:World}{a:Option Addr}{z:Nat}{l:b6H}(h:U9 w a z l){k:Nat}(K:k<=l.length):U9 w (if z=k then a else a.map (·.add (k*1))) (z-k) (l.drop k):=by
 obtain⟨L,J,G⟩:=h;refine⟨by rw[List.length_drop];omega,by omega,?_⟩;by_cases B:k=l.length
 ·exact .inl (by rw[B];simp)
 ·rcases G with rfl|⟨b,C,H,F,I⟩
  ·exact .inl (by simp)
  ·refine .inr ⟨b,C+k,?_,F,?_⟩
   ·rw[if_neg (by omega),H];by_cases h0:k=0
    ·subst h0;simp[Addr.add]
    ·simp[Addr.add,h0]
   ·intro i hi;have:=I (k+i) (by rw[List.length_drop]at hi;omega);rw[Nat.add_assoc,this];simp
theorem a5m{w:World}{a:Option Addr}{z:Nat}{l:b6H}(h:U9 w a z l){k:Nat}(I:k<=l.length):U9 w a z (l.take k):=by
 obtain⟨K,J,F⟩:=h;refine⟨by rw[List.length_take];omega,by omega,?_⟩;rcases F with rfl|⟨b,B,C,G,H⟩
 ·exact .inl (by simp)
 ·refine .inr ⟨b,B,C,G,λi hi=>?_⟩;rw[H i (by rw[List.length_take]at hi;omega)];simp
theorem a3z{w w':World}{a:Option Addr}{z:Nat}{l:b6H}(h:U9 w a z l){B:Nat}(G:Below B w w')(M:w.heap.size<=B):U9 w' a z l:=by
 obtain⟨I,H,J⟩:=h;refine⟨I,H,?_⟩;rcases J with rfl|⟨b,C,K,F,L⟩
 ·exact .inl rfl
 ·exact .inr ⟨b,C,K,Nat.lt_of_lt_of_le F G.size,λi hi=>(G.cell (p:=⟨b,_,none⟩) (by show b<B;omega)).trans (L i hi)⟩
theorem Oz{P:Program}{B:Array Oper}{rest:List Oper}{op:Oper}{act:Act}{w:World}{Q:Exit->Act->World->Prop}(C:op.guard=none)(t:TypeId)(x lo:Operand)(S:op.op=.slice t x (some lo) none none){W:World}{a:Option Addr}{z n:Nat}{l:b6H}(H:U9 W a z l)(U:n=l.length)(hx:act.eval x=.slice a n z)(k:Nat){M:Int}(I:act.eval lo=.int .i64 M)(F:M=(k:Int))(N:k<=l.length)(K:P.underlying t=some (.slice (P.elem t)))(R:∀w,(Go.sizeOf (P.elem t)).run P w=.ok 1 w)(h:∀L J,J=(l.drop k).length->U9 W L (z-k) (l.drop k)->wpList P B Q rest (act.put op.dst (.slice L J (z-k))) w):wpList P B Q (op::rest) act w:=
 wpList_plain C λ_ O=>by subst U;subst F;unfold Oper.wp execOp;have V:=H.1;have G:=run_slice_l (P:=P) w t a l.length z K .i64 (k:Int) (by omega) (by omega);rw[R]at G;simp only[Result.andThen_ok,sliced,F9]at G;simp only[S,hx,I,G6,Option.map_none,run_sliceAt_slice w t _ _ _ _ K,Sem.run_bind,Sem.run_pure,Result.andThen_ok,G];exact O _ _ (h _ (l.length-k) (by simp) (b5A H N))
def P7(W:World)(bw:Nat)(r:Rd)(w:World):Prop:=
 ∃a cap,Has w bw #[.slice a r.2.length cap,.int .i64 r.1] 87/\U9 W a cap r.2/\W.heap.size<=bw/\Below W.heap.size W w
abbrev One(b:Nat)(w w':World):Prop:=Mod (λk=>k=b) w w'
def Fd(k:Nat)(r:Rd):Rd:=if r.1=0 then(k,r.2)else r
theorem Fi(W:World)(B:Nat)(r:Rd)(w:World)(k:Nat)(h:P7 W B r w):Calls Tryz.prog 45 #[.pointer (some ⟨B,0,none⟩),.int .i64 k] w λe w'=>e=.returned (.tuple #[])/\P7 W B (Fd k r) w'/\One B w w':=by
 obtain⟨a,z,hx,I,F,G⟩:=h;have N:=J9 hx;have L:=Ay hx;have M:=F7 hx;have J:=Lib.hid hx;clear hx;have H:=Lib.hid I;clear I;by_cases h0:r.1=0
 ·have K:((r.1:Int)==0)=true:=(by rw[beq_iff_eq];omega);have C:=Lib.hid h0;clear h0
  go_enter Tryz.func45,Tryz.ntmps45
  go_wp2_with fail
  go_end0
  refine⟨rfl,?_,(Mod.refl _ w).setCell _ _ (.inr rfl)⟩;rw[Fd,if_pos C.out];exact⟨a,z,by have:=Iw J.out 1 (.int .i64 k);simpa using this,H.out,F,G.setCell F _⟩
 ·have K:((r.1:Int)==0)=false:=(by rw[beq_eq_false_iff_ne];omega);have C:=Lib.hid h0;clear h0
  go_enter Tryz.func45,Tryz.ntmps45
  go_wp2_with fail
  go_end0
  refine⟨rfl,?_,Mod.refl _ _⟩;rw[Fd,if_neg C.out];exact⟨a,z,J.out,H.out,F,G⟩
theorem b3S{n i c:Nat}(F:n<2^(7*i))(hi:i<=9)(G:c<256)(C:i=9->c<=1):bits .or .u64 (n:Int) (IntKind.u64.wrap (IntKind.u64.wrap (bits .and .u8 (c:Int) 127)*2^(7*i)))=((n+c%128*2^(7*i):Nat):Int)/\n+c%128*2^(7*i)<2^(7*(i+1)):=by
 have B:bits .and .u8 (c:Int) 127=(c:Int)%128:=u8_and127 _ (by omega) (by omega);rw[B,u64_wrap_id ((c:Int)%128) (by omega) (by omega)];rcases(show i=0\/i=1\/i=2\/i=3\/i=4\/i=5\/i=6\/i=7\/i=8\/i=9 by omega)with rfl|rfl|rfl|rfl|rfl|rfl|rfl|rfl|rfl|rfl
 all_goals
  simp only[Nat.reduceMul,Nat.reduceAdd,Nat.reducePow,Int.reducePow]at F⊢;have z:=C;simp only[Nat.reduceEqDiff,false_implies,true_implies]at z;rw[show IntKind.u64.wrap ((c:Int)%128*_)=(c:Int)%128*_ from u64_wrap_id _ (by omega) (by omega)];refine⟨?_,by omega⟩;rw[bits_join_low .u64 64 (by decide) wraps_u64 _ _ _ (by omega) (by first|(show _<(2:Int)^0;omega)|(show _<(2:Int)^7;omega)|(show _<(2:Int)^14;omega)|(show _<(2:Int)^21;omega)|(show _<(2:Int)^28;omega)|(show _<(2:Int)^35;omega)|(show _<(2:Int)^42;omega)|(show _<(2:Int)^49;omega)|(show _<(2:Int)^56;omega)|(show _<(2:Int)^63;omega)) (by omega) (by omega) (by omega) (by omega)]
  omega
theorem wO{z:b6H}{i n:Nat}(B:H5 i n (z.drop i)=H5 0 0 z)(hi:i<z.length):H5 i n (z[i]::z.drop (i+1))=H5 0 0 z:=by rw[<-B,P0 hi]
theorem b4U{z:b6H}{i n:Nat}(B:H5 i n (z.drop i)=H5 0 0 z)(hi:i=z.length):I0 (0,z)=(0,15,z):=by subst hi;rw[List.drop_of_length_le (l5 _)]at B;simp only[H5]at B;simp[I0,<-B]
theorem a6k{z:b6H}{i n:Nat}(B:H5 i n (z.drop i)=H5 0 0 z)(hi:i<z.length)(C:(i=9/\1<z[i].toNat)\/(0<i/\z[i].toNat=0)):I0 (0,z)=(0,2,z):=by have h:=wO B hi;rw[H5,if_pos C]at h;simp[I0,<-h]
theorem a64{z:b6H}{i n:Nat}(B:H5 i n (z.drop i)=H5 0 0 z)(hi:i<z.length)(C:¬((i=9/\1<z[i].toNat)\/(0<i/\z[i].toNat=0)))(F:z[i].toNat<128):I0 (0,z)=(n+z[i].toNat%128*2^(7*i),0,z.drop (i+1)):=by have h:=wO B hi;rw[H5,if_neg C,if_pos F]at h;simp[I0,<-h]
theorem a1v{z:b6H}{i n:Nat}(B:H5 i n (z.drop i)=H5 0 0 z)(hi:i<z.length)(C:¬((i=9/\1<z[i].toNat)\/(0<i/\z[i].toNat=0)))(F:¬z[i].toNat<128):H5 (i+1) (n+z[i].toNat%128*2^(7*i)) (z.drop (i+1))=H5 0 0 z:=by have h:=wO B hi;rw[H5,if_neg C,if_neg F]at h;exact h
theorem Rl{W w:World}{C B F:Nat}{e:Nat}{I z:b6H}{a:Option Addr}(h:P7 W C (e,I) w)(H:U9 W a B z)(L:F=z.length):P7 W C (e,z) (w.setCell ⟨C,0,none⟩ (.slice a F B)):=by obtain⟨M,J,hx,_,G,K⟩:=h;subst L;exact⟨a,B,by have:=Iw hx 0 (.slice a z.length B);simpa using this,H,G,K.setCell G _⟩
set_option maxRecDepth 100000 in
set_option maxHeartbeats 400000 in
theorem xL(W:World)(N:Nat)(r:Rd)(w:World)(h:P7 W N r w):Calls Tryz.prog 44 #[.pointer (some ⟨N,0,none⟩)] w λe w'=>e=.returned (.int .u64 ((I0 r).1:Nat))/\P7 W N (I0 r).2 w'/\One N w w':=by
 obtain⟨re,C⟩:=r;by_cases h0:re=0
 ·subst h0;have R:=Lib.hid h;obtain⟨a,ae,hx,hy,hz,hb⟩:=h
  dsimp only at*
  have hc:=J9 hx;have hf:=Ay hx;have hl:=F7 hx;have h1:=hy.1;have h2:=hy.2.1;unfold maxLen at h2;have HX:=Lib.hid hx;clear hx;have HY:=Lib.hid hy;clear hy;have hg:P7 W N (I0 (0,C)).2=P7 W N (I0 (0,C)).2:=rfl;have HG:=Lib.hid hg;clear hg
  go_enter Tryz.func44,Tryz.ntmps44
  go_wp2_with fail
  go_loop [3,4,5] (λn i c=>∃i0 n0:Nat,n=.int .u64 n0/\i=.int .i64 i0/\H5 i0 n0 (C.drop i0)=H5 0 0 C/\n0<2^(7*i0)/\i0<=9/\i0<=C.length) (λn i _=>C.length-(intOf i).toNat)
  case atStart=>exact⟨0,0,rfl,rfl,by simp,by simp,by omega,by omega⟩
  case round=>
   obtain⟨i,n,rfl,rfl,ht,hn,hi,am⟩:=hrel;have HT:=Lib.hid ht;clear ht;have HN:=Lib.hid hn;clear hn;by_cases ad:i=C.length
   ·have e1:((i:Int)==C.length)=true:=(by rw[beq_iff_eq];omega);have HL:=Lib.hid ad;clear ad
    go_wp2_with (go_at_call 45;go_must (refine(Fi W N (0,C) _ 15 R.out).mono ?_;rintro e w1 ⟨rfl,L,Y⟩;have HR:=Lib.hid L;clear L))
    go_ret
    rw[b4U HT.out HL.out];exact⟨rfl,HR.out,Y⟩
   ·have e1:((i:Int)==C.length)=false:=(by rw[beq_eq_false_iff_ne];omega);have Q:i<C.length:=(by omega);obtain⟨b,ai,rfl,V,g0⟩:=GW HY.out Q;rw[<-hb.cell (p:=⟨b,_,none⟩) V]at g0;have an:b<w.heap.size:=Nat.lt_of_lt_of_le V hb.size;have aa:=UInt8.toNat_lt C[i];have ab:=Lib.hid (a6k HT.out Q);have X:=Lib.hid (a64 HT.out Q);have ac:=Lib.hid (a1v HT.out Q);have al:=Lib.hid (λI=>b3S HN.out hi aa I);unfold M3 at g0;generalize C[i].toNat=c at*;have ao:(i:Int)<C.length:=(by omega);have aj:(i=9/\1<c)\/(i=9/\c=0)\/(i≠9/\0<i/\c=0)\/(i=9/\c<=1/\c≠0)\/(i≠9/\i=0)\/(i≠9/\0<i/\c≠0):=(by omega);have hd:U9 W (some ⟨b,ai,none⟩) ae C:=HY.out;have HD:=Lib.hid hd;clear hd;rcases aj with⟨I,af⟩|⟨I,B⟩|⟨I,G,B⟩|⟨I,af,B⟩|⟨I,G⟩|⟨I,G,B⟩
    ·have e9:((i:Int)==9)=true:=(by rw[beq_iff_eq];omega);have G:(0:Int)<i:=(by omega);have U:(1:Int)<c:=(by omega);have Z:=Lib.hid I;clear I
     go_wp2_with (go_at_call 45;go_must (refine(Fi W N (0,C) _ 2 R.out).mono ?_;rintro e w1 ⟨rfl,L,Y⟩;have HR:=Lib.hid L;clear L))
     go_ret
     rw[ab.out (.inl ⟨Z.out,af⟩)];exact⟨rfl,HR.out,Y⟩
    ·have e9:((i:Int)==9)=true:=(by rw[beq_iff_eq];omega);have e0:((c:Int)==0)=true:=(by rw[beq_iff_eq];omega);have G:(0:Int)<i:=(by omega);have U:¬(1:Int)<c:=(by omega);have Z:=Lib.hid I;clear I;have O:=Lib.hid B;clear B
     go_wp2_with (go_at_call 45;go_must (refine(Fi W N (0,C) _ 2 R.out).mono ?_;rintro e w1 ⟨rfl,L,Y⟩;have HR:=Lib.hid L;clear L))
     go_ret
     rw[ab.out (.inr ⟨by omega,O.out⟩)];exact⟨rfl,HR.out,Y⟩
    ·have e9:((i:Int)==9)=false:=(by rw[beq_eq_false_iff_ne];omega);have e0:((c:Int)==0)=true:=(by rw[beq_iff_eq];omega);have S:(0:Int)<i:=(by omega);have O:=Lib.hid B;clear B
     go_wp2_with (go_at_call 45;go_must (refine(Fi W N (0,C) _ 2 R.out).mono ?_;rintro e w1 ⟨rfl,L,Y⟩;have HR:=Lib.hid L;clear L))
     go_ret
     rw[ab.out (.inr ⟨G,O.out⟩)];exact⟨rfl,HR.out,Y⟩
    all_goals
     have HB:Hid (¬((i=9/\1<c)\/(0<i/\c=0))):=Lib.hid (by omega);have ak:Hid (i=9->c<=1):=Lib.hid (by omega);have z:=Lib.hid (al.out ak.out)
    ·have e9:((i:Int)==9)=true:=(by rw[beq_iff_eq];omega);have e0:((c:Int)==0)=false:=(by rw[beq_eq_false_iff_ne];omega);have G:(0:Int)<i:=(by omega);have U:¬(1:Int)<c:=(by omega);have P:(c:Int)<128:=(by omega);have Z:=Lib.hid I;clear I;have O:=Lib.hid B;clear B
     go_wp2_with (refine Oz rfl _ _ _ rfl HD.out rfl rfl (i+1) rfl (by omega) (by omega) (by kernel_rfl) (λ_=>by kernel_rfl) ?_;intro a' n' F H;have K:=Lib.hid H;have M:=Lib.hid F;clear H F)
     go_ret
     rw[X.out HB.out (by omega)];exact⟨(by first|rfl|((rw[z.out.1])<;>rfl)),Rl R.out K.out M.out,(Mod.refl _ w).setCell _ _ (.inr rfl)⟩
    ·skip
     have e9:((i:Int)==9)=false:=(by rw[beq_eq_false_iff_ne];omega);have S:¬(0:Int)<i:=(by omega);have h0:=G;clear G;have Z:=Lib.hid I;clear I;by_cases J:c<128
     ·have P:(c:Int)<128:=(by omega);have O:=Lib.hid h0;clear h0
      go_wp2_with (refine Oz rfl _ _ _ rfl HD.out rfl rfl (i+1) rfl (by omega) (by omega) (by kernel_rfl) (λ_=>by kernel_rfl) ?_;intro a' n' F H;have K:=Lib.hid H;have M:=Lib.hid F;clear H F)
      go_ret
      rw[X.out HB.out (by omega)];exact⟨(by first|rfl|((rw[z.out.1])<;>rfl)),Rl R.out K.out M.out,(Mod.refl _ w).setCell _ _ (.inr rfl)⟩
     ·have P:¬(c:Int)<128:=(by omega);have ag:=Z.out;have O:=Lib.hid h0;clear h0
      go_wp2_with fail
      go_round
      case rel=>exact⟨i+1,n+c%128*2^(7*i),by rw[z.out.1],by go_num,ac.out HB.out J,z.out.2,by omega,by omega⟩
      case measure=>simp[intOf];omega
    ·skip
     have e9:((i:Int)==9)=false:=(by rw[beq_eq_false_iff_ne];omega);have S:(0:Int)<i:=(by omega);have e0:((c:Int)==0)=false:=(by rw[beq_eq_false_iff_ne];omega);have h0:=B;clear B;have Z:=Lib.hid I;clear I;by_cases J:c<128
     ·have P:(c:Int)<128:=(by omega);have O:=Lib.hid h0;clear h0
      go_wp2_with (refine Oz rfl _ _ _ rfl HD.out rfl rfl (i+1) rfl (by omega) (by omega) (by kernel_rfl) (λ_=>by kernel_rfl) ?_;intro a' n' F H;have K:=Lib.hid H;have M:=Lib.hid F;clear H F)
      go_ret
      rw[X.out HB.out (by omega)];exact⟨(by first|rfl|((rw[z.out.1])<;>rfl)),Rl R.out K.out M.out,(Mod.refl _ w).setCell _ _ (.inr rfl)⟩
     ·have P:¬(c:Int)<128:=(by omega);have ag:=Z.out;have O:=Lib.hid h0;clear h0
      go_wp2_with fail
      go_round
      case rel=>exact⟨i+1,n+c%128*2^(7*i),by rw[z.out.1],by go_num,ac.out HB.out J,z.out.2,by omega,by omega⟩
      case measure=>simp[intOf];omega
 ·have ah:=Lib.hid (b3d (r:=(re,C)) h0);have R:=Lib.hid h;obtain⟨a,ae,hx,hy,hz,hb⟩:=h
  dsimp only at*
  have hc:=J9 hx;have hf:=Ay hx;have hl:=F7 hx;have e1:((re:Int)==0)=false:=(by rw[beq_eq_false_iff_ne];omega);have HX:=Lib.hid hx;clear hx;have HY:=Lib.hid hy;clear hy;have O:=Lib.hid h0;clear h0
  go_enter Tryz.func44,Tryz.ntmps44
  go_wp2_with fail
  go_loop [3,4,5] (λn i c=>n=.int .u64 0/\i=.int .i64 0) (λn i _=>1)
  case atStart=>exact⟨rfl,rfl⟩
  case round=>
   obtain⟨rfl,rfl⟩:=hrel
   go_wp2_with fail
   go_ret
   rw[ah.out];exact⟨rfl,R.out,Mod.refl _ _⟩
theorem PA(r:Rd):(I0 r).1<18446744073709551616:=by
 unfold I0;split
 ·simp
 ·split
  ·rename_i h;obtain⟨n,z,_,_,B⟩:=OU r.2 0 0 (H5 0 0 r.2).2.1 (H5 0 0 r.2).2.2 (by omega) (Prod.ext h rfl);simp only[z];omega
  ·simp
set_option maxHeartbeats 400000 in
theorem Gw(W:World)(C:Nat)(r:Rd)(w:World)(m:Nat)(P:m<=9223372036854775807)(h:P7 W C r w):Calls Tryz.prog 27 #[.pointer (some ⟨C,0,none⟩),.int .u64 m] w λe w'=>e=.returned (.int .i64 ((A2 m r).1:Nat))/\P7 W C (A2 m r).2 w'/\One C w w':=by
 have O:=PA r;by_cases z:m<(I0 r).1
 ·have L:(I0 r).2.1=0:=by unfold I0 at z⊢;split at z<;>split<;>simp_all;split at z<;>simp_all
  have F:A2 m r=(0,2,(I0 r).2.2):=(by unfold A2;rw[if_pos z]);have hF:Fd 2 (I0 r).2=(2,(I0 r).2.2):=(by unfold Fd;rw[if_pos L]);have J:=Lib.hid F;clear F L;have N:=Lib.hid hF;clear hF;have M:(m:Int)<(I0 r).1:=by omega
  go_enter Tryz.func27,Tryz.ntmps27
  go_wp2_with (first
   |(go_at_call 44;go_must (refine(xL W C r _ h).mono ?_;rintro e w1 ⟨rfl,B,I⟩;have H:=Lib.hid B;clear B))
   |(go_at_call 45;go_must (refine(Fi W C (I0 r).2 _ 2 H.out).mono ?_;rintro e Q ⟨rfl,B,K⟩;rw[N.out]at B;have G:=Lib.hid B;clear B)))
  go_ret
  rw[J.out];exact⟨rfl,G.out,I.trans (K.mono (λ_ _ h=>h))⟩
 ·have F:A2 m r=I0 r:=(by unfold A2;rw[if_neg z]);have J:=Lib.hid F;clear F;have M:¬(m:Int)<(I0 r).1:=by omega
  go_enter Tryz.func27,Tryz.ntmps27
  go_wp2_with (go_at_call 44;go_must (refine(xL W C r _ h).mono ?_;rintro e w1 ⟨rfl,B,I⟩;have H:=Lib.hid B;clear B))
  go_ret
  rw[J.out];exact⟨rfl,H.out,I⟩
end
section
open Go.RowKit
theorem a9u(a b:Int):bits .xor .i64 a b=bits .xor .i64 b a:=by show IntKind.i64.wrap ((BitVec.ofInt 64 a^^^BitVec.ofInt 64 b).toNat:Int)=IntKind.i64.wrap ((BitVec.ofInt 64 b^^^BitVec.ofInt 64 a).toNat:Int);rw[BitVec.xor_comm]
theorem b1r(a:Nat)(z:a<9223372036854775808):bits .xor .i64 (a:Int) 0=a:=by show IntKind.i64.wrap ((BitVec.ofInt 64 (a:Int)^^^BitVec.ofInt 64 0).toNat:Int)=_;rw[show BitVec.ofInt 64 0=0#64 from rfl,BitVec.xor_zero,BitVec.ofInt_natCast,BitVec.toNat_ofNat,Nat.mod_eq_of_lt (by omega)];simp[IntKind.wrap,IntKind.bits,IntKind.signed];omega
theorem a3v(n:Nat)(h:n<18446744073709551616):bits .xor .i64 ((n:Int)/2) (wrap64 (-wrap64 (bits .and .u64 (n:Int) 1)))=Lo n:=by
 have z:bits .and .u64 (n:Int) 1=((n&&&1:Nat):Int):=bits_and_u64_nat n 1 h (by omega);rw[z,Nat.and_one_is_mod,show(n:Int)/2=((n/2:Nat):Int) by omega];unfold Lo;rcases Nat.mod_two_eq_zero_or_one n with e|e
 ·rw[e,if_neg (by omega),show wrap64 (-wrap64 ((0:Nat):Int))=0 by unfold wrap64;decide,b1r _ (by omega)]
 ·rw[e,if_pos rfl,show wrap64 (-wrap64 ((1:Nat):Int))= -1 by unfold wrap64;decide,a9u,i64_not _ (by omega)];omega
set_option maxRecDepth 100000 in
set_option maxHeartbeats 400000 in
theorem a9d(W:World)(B:Nat)(r:Rd)(w:World)(h:P7 W B r w):Calls Tryz.prog 30 #[.pointer (some ⟨B,0,none⟩)] w λe w'=>e=.returned (.int .i64 (Hc r).1)/\P7 W B (Hc r).2 w'/\One B w w':=by
 have C:=PA r;have F:((I0 r).1:Int)<18446744073709551616:=(by omega);have I:=Lib.hid (a3v (I0 r).1 C)
 go_enter Tryz.func30,Tryz.ntmps30
 go_wp2_with (go_at_call 44;go_must (refine(xL W B r _ h).mono ?_;rintro e w1 ⟨rfl,G,H⟩;have J:=Lib.hid G;clear G))
 go_ret
 exact⟨congrArg (λz=>Ending.returned (.int .i64 z)) I.out,J.out,H⟩
theorem Qu{W w:World}{B:Nat}{e:Nat}{C:b6H}(h:P7 W B (e,C) w):∃a z,(∀j,w.cell? ⟨B,j,none⟩= #[Value.slice a C.length z,.int .i64 (e:Int)][j]?)/\(∀j,w.frozen? ⟨B,j,none⟩=false)/\B<w.heap.size/\U9 W a z C/\Below W.heap.size W w/\C.length<=z/\z<=9223372036854775807/\W.heap.size<=B:=by obtain⟨a,z,hx,F,I,H⟩:=h;have G:=F.2.1;unfold maxLen at G;exact⟨a,z,J9 hx,Ay hx,F7 hx,F,H,F.1,by omega,I⟩
theorem a1G{z:b6H}(h:0<z.length):rOp (0,z)=(z[0].toNat,if z[0].toNat<1\/26<z[0].toNat then 23 else 0,z.drop 1):=by
 cases z with
 |nil=>simp at h
 |cons c t=>rfl
set_option maxRecDepth 100000 in
set_option maxHeartbeats 400000 in
theorem b21(W:World)(L:Nat)(r:Rd)(w:World)(h:P7 W L r w):Calls Tryz.prog 29 #[.pointer (some ⟨L,0,none⟩)] w λe w'=>e=.returned (.int .u8 ((rOp r).1:Nat))/\P7 W L (rOp r).2 w'/\One L w w':=by
 obtain⟨M,z⟩:=r;have U:=Lib.hid h;obtain⟨a,ag,hc,hf,hl,hy,S,h1,h2,hz⟩:=Qu h;clear h;have HY:=Lib.hid hy;clear hy;by_cases h0:M=0
 ·subst h0;have e0:(((0:Nat):Int) !=0)=false:=(by decide);by_cases hn:z.length=0
  ·have hR:rOp (0,z)=(0,15,z):=(by rw[List.length_eq_zero_iff.1 hn];rfl);have O:=Lib.hid hR;clear hR;have Z:((z.length:Int)==0)=true:=(by rw[beq_iff_eq];omega);have HN:=Lib.hid hn;clear hn
   go_enter Tryz.func29,Tryz.ntmps29
   go_wp2_with (go_at_call 45;go_must (refine(Fi W L (0,z) _ 15 U.out).mono ?_;rintro e w1 ⟨rfl,G,Q⟩;have F:=Lib.hid G;clear G))
   go_ret
   rw[O.out];exact⟨rfl,F.out,Q⟩
  ·have J:0<z.length:=(by omega);have O:=Lib.hid (a1G J);obtain⟨b,ai,rfl,I,Y⟩:=GW HY.out J;rw[<-S.cell (p:=⟨b,_,none⟩) I]at Y;have ae:b<w.heap.size:=Nat.lt_of_lt_of_le I S.size;have Z:((z.length:Int)==0)=false:=(by rw[beq_eq_false_iff_ne];omega);have V:=UInt8.toNat_lt z[0];have aa:(0:Int)<z.length:=(by omega);simp only[Nat.add_zero]at Y;unfold M3 at Y;generalize z[0].toNat=x at*;by_cases B:x<1\/26<x
   ·have hF:Hid (Fd 23 (0,z)=(23,z)):=Lib.hid rfl;have X:Hid (rOp (0,z)=(x,23,z.drop 1)):=Lib.hid (by rw[O.out,if_pos B]);have R:(x:Int)<1\/(26:Int)<x:=(by omega);clear B;rcases R with ab|ab
    all_goals
     go_enter Tryz.func29,Tryz.ntmps29
     go_wp2_with (first
      |(go_at_call 45;go_must (refine(Fi W L (0,z) _ 23 U.out).mono ?_;rintro e w1 ⟨rfl,G,Q⟩;rw[hF.out]at G;have F:=Lib.hid G;clear hc hf hl S;obtain⟨a1,ad,hc,hf,hl,P,S,ah,af, -⟩:=Qu G;have ac:=Lib.hid P;clear G P))
      |(refine Oz rfl _ _ _ rfl ac.out rfl rfl 1 rfl rfl (by omega) (by kernel_rfl) (λ_=>by kernel_rfl) ?_;intro a' n' C H;have K:=Lib.hid H;have N:=Lib.hid C;clear H C))
     go_ret
     rw[X.out];exact⟨rfl,Rl F.out K.out N.out,Q.setCell _ _ (.inr rfl)⟩
   ·have X:Hid (rOp (0,z)=(x,0,z.drop 1)):=Lib.hid (by rw[O.out,if_neg B]);have R:¬(x:Int)<1:=(by omega);have aj:¬(26:Int)<x:=(by omega);clear B
    go_enter Tryz.func29,Tryz.ntmps29
    go_wp2_with (refine Oz rfl _ _ _ rfl HY.out rfl rfl 1 rfl rfl (by omega) (by kernel_rfl) (λ_=>by kernel_rfl) ?_;intro a' n' C H;have K:=Lib.hid H;have N:=Lib.hid C;clear H C)
    go_ret
    rw[X.out];exact⟨rfl,Rl U.out K.out N.out,(Mod.refl _ w).setCell _ _ (.inr rfl)⟩
 ·have e0:((M:Int) !=0)=true:=(by rw[bne_iff_ne];omega);have O:Hid (rOp (M,z)=(0,M,z)):=Lib.hid (by simp[rOp,h0]);have hF:Hid (Fd 15 (M,z)=(M,z)):=Lib.hid (by simp[Fd,h0]);have H0:=Lib.hid h0;clear h0
  go_enter Tryz.func29,Tryz.ntmps29
  go_wp2_with (go_at_call 45;go_must (refine(Fi W L (M,z) _ 15 U.out).mono ?_;rintro e w1 ⟨rfl,G,Q⟩;rw[hF.out]at G;have F:=Lib.hid G;clear G))
  go_ret
  rw[O.out];exact⟨rfl,F.out,Q⟩
end
section
open Go.RowKit
theorem a6P{P:Program}{B:Array Oper}{rest:List Oper}{op:Oper}{act:Act}{w:World}{Q:Exit->Act->World->Prop}(F:op.guard=none)(t:TypeId)(x hi:Operand)(R:op.op=.slice t x none (some hi) none){W:World}{a:Option Addr}{z n:Nat}{l:b6H}(H:U9 W a z l)(S:n=l.length)(hx:act.eval x=.slice a n z)(k:Nat){L:Int}(I:act.eval hi=.int .i64 L)(G:L=(k:Int))(M:k<=l.length)(K:P.underlying t=some (.slice (P.elem t)))(O:∀w,(Go.sizeOf (P.elem t)).run P w=.ok 1 w)(h:U9 W a z (l.take k)->wpList P B Q rest (act.put op.dst (.slice a k z)) w):wpList P B Q (op::rest) act w:=
 wpList_plain F λ_ N=>by subst S;subst G;unfold Oper.wp execOp;have U:=H.1;have J:=run_slice_h (P:=P) w t a l.length z K .i64 (k:Int) (by omega) (by omega);rw[O]at J;have C:(a.map (·.add (0*1)))=a:=(by cases a<;>simp[Addr.add]);simp only[Result.andThen_ok,sliced,F9,Nat.sub_zero,C,ite_self]at J;simp only[R,hx,I,G6,Option.map_none,run_sliceAt_slice w t _ _ _ _ K,Sem.run_bind,Sem.run_pure,Result.andThen_ok,J];exact N _ _ (h (a5m H M))
theorem a3Y{P:Program}{G:Array Oper}{rest:List Oper}{op:Oper}{act:Act}{w:World}{Q:Exit->Act->World->Prop}(J:op.guard=none)(C z e:TypeId)(x:Operand)(O:op.op=.convert C z x){a:Option Addr}{B n:Nat}{l:b6H}(H:U9 w a B l)(U:n=l.length)(hx:act.eval x=.slice a n B)(L:P.underlying C=some (.slice e))(M:P.underlying e=some (.int .u8))(hd:P.underlying z=some .string)(h:wpList P G Q rest (act.put op.dst (Al l)) w):wpList P G Q (op::rest) act w:=
 wpList_plain J λ_ N=>by
  subst U;unfold Oper.wp execOp;have S:(convert C z (.slice a l.length B)).run P w=.ok (Al l) w:=by
   cases a with
   |none=>
    have h0:l=[]:=by
     rcases H.2.2 with h|⟨b,R,h,_⟩
     ·exact h
     ·simp at h
    subst h0;exact Go.Lib.run_convert_nil_bytes w C z e B L M hd
   |some p=>exact run_convert_bytes_back (P:=P) w C z e p B l L M hd (λj V=>by
     obtain⟨b',F,K,_,X⟩:=GW H V;simp at K;subst K;have I:(⟨b',F,none⟩:Addr).add j=⟨b',F+j,none⟩:=(by unfold Addr.add;split<;>simp_all);rw[I];exact X)
  simp only[O,hx,Sem.run_bind,Sem.run_pure,Result.andThen_ok,S];exact N _ _ h
set_option maxRecDepth 100000 in
set_option maxHeartbeats 400000 in
theorem b3Y(W:World)(K:Nat)(r:Rd)(w:World)(h:P7 W K r w):Calls Tryz.prog 28 #[.pointer (some ⟨K,0,none⟩)] w λe w'=>e=.returned (Al (Aq r).1)/\P7 W K (Aq r).2 w'/\One K w w':=by
 have HH:=Lib.hid h;clear h;obtain⟨k,e,C,hk⟩:∃k e C,A2 1048576 r=(k,e,C):=⟨_,_,_,rfl⟩;have ag:k<=1048576:=by have:(A2 1048576 r).1<=1048576:=(by unfold A2;split<;>simp_all);rw[hk]at this;exact this
 have G:(A2 1048576 r).1=k:=(by rw[hk]);have F:(A2 1048576 r).2=(e,C):=(by rw[hk]);by_cases X:e=0
 ·subst X;have ae:(((0:Nat):Int) !=0)=false:=(by decide);by_cases N:C.length<k
  ·have Y:Hid (Aq r=([],15,C)):=Lib.hid (by simp[Aq,hk,N]);have H:=Lib.hid G;have I:=Lib.hid F;clear hk G F;have Z:(C.length:Int)<k:=by omega
   go_enter Tryz.func28,Tryz.ntmps28
   go_wp2_with (first
    |(go_at_call 27;go_must (refine(Gw W K r _ 1048576 (by omega) HH.out).mono ?_;rintro e w1 ⟨rfl,z,V⟩;rw[H.out];rw[I.out]at z;have S:=Lib.hid z;obtain⟨a1,M,hc,hf,hl,B,hb,R,Q, -⟩:=Qu z;have L:=Lib.hid B;clear z B))
    |(go_at_call 45;go_must (refine(Fi W K (0,C) _ 15 S.out).mono ?_;rintro e w2 ⟨rfl,z,P⟩;have O:=Lib.hid z;clear z)))
   go_ret
   rw[Y.out];exact⟨rfl,O.out,V.trans (P.mono (λ_ _ h=>h))⟩
  ·have Y:Hid (Aq r=(C.take k,0,C.drop k)):=Lib.hid (by simp[Aq,hk,N]);have H:=Lib.hid G;have I:=Lib.hid F;clear hk G F;have Z:(k:Int)<=C.length:=(by omega);have ab:Tryz.prog.underlying 52=some (.slice 5):=(by kernel_rfl);have cv2:Tryz.prog.underlying 5=some (.int .u8):=(by kernel_rfl);have ad:Tryz.prog.underlying 9=some .string:=(by kernel_rfl);have HL:Hid ((C.take k).length=k):=Lib.hid (by rw[List.length_take];omega)
   go_enter Tryz.func28,Tryz.ntmps28
   go_wp2_with (first
    |(go_at_call 27;go_must (refine(Gw W K r _ 1048576 (by omega) HH.out).mono ?_;rintro e w1 ⟨rfl,z,V⟩;rw[H.out];rw[I.out]at z;have S:=Lib.hid z;obtain⟨a1,M,hc,hf,hl,B,hb,R,Q, -⟩:=Qu z;have HB:=Lib.hid hb;have L:=Lib.hid B;clear z B))
    |(refine a6P rfl _ _ _ rfl L.out rfl rfl k rfl rfl (by omega) (by kernel_rfl) (λ_=>by kernel_rfl) ?_;intro J;have ac:=Lib.hid J;clear J)
    |(refine Oz rfl _ _ _ rfl L.out rfl rfl k rfl rfl (by omega) (by kernel_rfl) (λ_=>by kernel_rfl) ?_;intro a' n' U J;have aa:=Lib.hid J;have af:=Lib.hid U;clear J U)
    |(refine a3Y rfl _ _ 5 _ rfl (a3z ac.out HB.out (l5 _)) HL.out.symm rfl ab cv2 ad ?_))
   go_ret
   rw[Y.out];exact⟨rfl,Rl S.out aa.out af.out,V.setCell _ _ (.inr rfl)⟩
 ·have ae:((e:Int) !=0)=true:=(by rw[bne_iff_ne];omega);have Y:Hid (Aq r=([],e,C)):=Lib.hid (by simp[Aq,hk,X]);have HF:Hid (Fd 15 (e,C)=(e,C)):=Lib.hid (by simp[Fd,X]);have H:=Lib.hid G;have I:=Lib.hid F;clear hk G F;have H0:=Lib.hid X;clear X
  go_enter Tryz.func28,Tryz.ntmps28
  go_wp2_with (first
   |(go_at_call 27;go_must (refine(Gw W K r _ 1048576 (by omega) HH.out).mono ?_;rintro e w1 ⟨rfl,z,V⟩;rw[H.out];rw[I.out]at z;have S:=Lib.hid z;obtain⟨a1,M,hc,hf,hl,B,hb,R,Q, -⟩:=Qu z;have L:=Lib.hid B;clear z B))
   |(go_at_call 45;go_must (refine(Fi W K (e,C) _ 15 S.out).mono ?_;rintro e w2 ⟨rfl,z,P⟩;rw[HF.out]at z;have O:=Lib.hid z;clear z)))
  go_ret
  rw[Y.out];exact⟨rfl,O.out,V.trans (P.mono (λ_ _ h=>h))⟩
end
end
end Go.Proofs.YtihbbcealnnpiaaGreatDoor
