/- Parts of the proof. -/
import Derived.Test.YtihbbcealnnpiaaGreatDoorImBase
import Derived.Test.YtihbbcealnnpiaaGreatDoorImCodePlain
import Derived.Test.YtihbbcealnnpiaaGreatDoorChecked
import Derived.WalkSpells
set_option linter.unusedVariables false
namespace Go.Proofs.YtihbbcealnnpiaaGreatDoor
section
section
open Go.RowKit
def Al(s:b6H):Value:=.string ⟨s.toArray⟩
def a5U(x:O6):Nat->Value
 |0=>.int .u8 x.1
 |1=>.int .i64 x.2.1
 |_=>.int .i64 x.2.2
def a8x(f:H7):Nat->Value
 |0=>.int .i64 f.1
 |1=>.int .i64 f.2.1
 |2=>.int .i64 f.2.2.1
 |3=>.int .i64 f.2.2.2.1
 |_=>.int .i64 f.2.2.2.2
def FIn(l:List O6)(i j:Nat):Value:=a5U (l.getD i (0,0,0)) j
def FE(l:List H7)(i j:Nat):Value:=a8x (l.getD i (0,0,0,0,0)) j
def FS(l:List (b6H))(i _j:Nat):Value:=Al (l.getD i [])
abbrev I64(a:Int):Prop:= -9223372036854775808<=a/\a<=9223372036854775807
def Ip(x:O6):Prop:=x.1<256/\I64 x.2.1/\I64 x.2.2
def Fr(f:H7):Prop:=I64 f.1/\I64 f.2.1/\I64 f.2.2.1/\I64 f.2.2.2.1/\I64 f.2.2.2.2
structure Gr(w:World)(v1 v2 v3:Value)(c:K7):Prop where
 ins:O4 w 3 v1 c.1.length (FIn c.1)
 fns:O4 w 5 v2 c.2.1.length (FE c.2.1)
 strs:O4 w 1 v3 c.2.2.length (FS c.2.2)
 wi:∀x∈c.1,Ip x
 wf:∀f∈c.2.1,Fr f
 ws:∀s∈c.2.2,s.length<=maxLen
theorem Gr.below{w w':World}{H G F:Value}{c:K7}(h:Gr w H G F c){B:Nat}(C:Below B w w')(z:w.heap.size<=B):Gr w' H G F c:=
 ⟨h.ins.below C z,h.fns.below C z,h.strs.below C z,h.wi,h.wf,h.ws⟩
theorem Y0{α:Type}{l:List α}{k:Nat}(h:k<l.length)(d:α):l.getD k d=l[k]:=by simp[List.getD,w9 h]
theorem YC{w:World}{H:Value}{l:List O6}(h:O4 w 3 H l.length (FIn l)):∃a B,H=.slice a l.length B/\l.length<=maxLen/\∀k (C:k<l.length),∃b z,a=some ⟨b,z,none⟩/\b<w.heap.size/\w.cell? ⟨b,z+k*3,none⟩=some (.int .u8 l[k].1)/\w.cell? ⟨b,z+k*3+1,none⟩=some (.int .i64 l[k].2.1)/\w.cell? ⟨b,z+k*3+2,none⟩=some (.int .i64 l[k].2.2):=by
 obtain⟨a,B,I,L,K⟩:=h;refine⟨a,B,I,L,λk C=>?_⟩;obtain⟨b,z,J,G,F⟩:=K k C;refine⟨b,z,J,G,?_,?_,?_⟩
 ·have:=F 0 (by omega);unfold FIn at this;rw[Y0 C]at this;exact this
 ·have:=F 1 (by omega);unfold FIn at this;rw[Y0 C]at this;exact this
 ·have:=F 2 (by omega);unfold FIn at this;rw[Y0 C]at this;exact this
theorem NN{w:World}{H:Value}{l:List H7}(h:O4 w 5 H l.length (FE l)):∃a C,H=.slice a l.length C/\l.length<=maxLen/\∀k (B:k<l.length),∃b z,a=some ⟨b,z,none⟩/\b<w.heap.size/\w.cell? ⟨b,z+k*5,none⟩=some (.int .i64 l[k].1)/\w.cell? ⟨b,z+k*5+1,none⟩=some (.int .i64 l[k].2.1)/\w.cell? ⟨b,z+k*5+2,none⟩=some (.int .i64 l[k].2.2.1)/\w.cell? ⟨b,z+k*5+3,none⟩=some (.int .i64 l[k].2.2.2.1)/\w.cell? ⟨b,z+k*5+4,none⟩=some (.int .i64 l[k].2.2.2.2):=by
 obtain⟨a,C,I,L,K⟩:=h;refine⟨a,C,I,L,λk B=>?_⟩;obtain⟨b,z,J,G,F⟩:=K k B;refine⟨b,z,J,G,?_,?_,?_,?_,?_⟩
 ·have:=F 0 (by omega);unfold FE at this;rw[Y0 B]at this;exact this
 ·have:=F 1 (by omega);unfold FE at this;rw[Y0 B]at this;exact this
 ·have:=F 2 (by omega);unfold FE at this;rw[Y0 B]at this;exact this
 ·have:=F 3 (by omega);unfold FE at this;rw[Y0 B]at this;exact this
 ·have:=F 4 (by omega);unfold FE at this;rw[Y0 B]at this;exact this
theorem PK{w:World}{G:Value}{l:List (b6H)}(h:O4 w 1 G l.length (FS l)):∃a B,G=.slice a l.length B/\l.length<=maxLen/\∀k (C:k<l.length),∃b z,a=some ⟨b,z,none⟩/\b<w.heap.size/\w.cell? ⟨b,z+k,none⟩=some (Al l[k]):=by obtain⟨a,B,I,L,K⟩:=h;refine⟨a,B,I,L,λk C=>?_⟩;obtain⟨b,z,J,F,H⟩:=K k C;refine⟨b,z,J,F,?_⟩;have:=H 0 (by omega);unfold FS at this;rw[Y0 C,Nat.mul_one]at this;exact this
def OV(c:K7)(at_:Int)(f:H7):Prop:=f.1=at_/\0<=f.2.1/\f.2.1<=c.1.length-at_/\0<=f.2.2.1/\f.2.2.1<=f.2.2.2.1/\f.2.2.2.1<=200/\0<=f.2.2.2.2/\f.2.2.2.2<=1
theorem PQ(l r:List H7):E8 (l++r)=E8 l+E8 r:=by
 induction l with
 |nil=>simp[E8]
 |cons f l ih=>simp[E8,ih,Int.add_assoc]
theorem YY(l r:List H7):∀at_,L9 at_ (l++r)=(L9 at_ l&&L9 (at_+E8 l) r):=by
 induction l with
 |nil=>intro at_;simp[L9,E8]
 |cons f l ih=>intro at_;simp only[List.cons_append,L9,ih,E8,Int.add_assoc,Bool.and_assoc]
theorem a0Z{l:List H7}{k:Nat}(G:k<l.length)(h:L9 0 l=true):l[k].1=E8 (l.take k)/\Ci l[k]=true/\l[k].2.1<=E8 l-E8 (l.take k):=by
 have e:l=l.take k++(l[k]::l.drop (k+1)):=(by rw[List.getElem_cons_drop,List.take_append_drop]);have z:=h;rw[e,YY]at z;simp only[x7,L9,decide_eq_true_eq]at z;obtain⟨I,⟨F,B⟩,C⟩:=z;refine⟨by rw[F];omega,B,?_⟩;have H:=zU _ _ C;have J:E8 l=E8 (l.take k)+(l[k].2.1+E8 (l.drop (k+1))):=by
  conv=>lhs;rw[e]
  rw[PQ];rfl
 omega
theorem b6n{c:K7}(h:c.2.1.length>100\/c.1.length>65536\/c.2.2.length>65536):K6 c=false:=by
 unfold K6;rcases h with h|h|h
 ·rw[d9 (show¬c.2.1.length<=100 by omega)];simp
 ·rw[d9 (show¬c.1.length<=65536 by omega)];simp
 ·rw[d9 (show¬c.2.2.length<=65536 by omega)];simp
theorem uJ{c:K7}(h:K6 c=true):c.2.1.length<=100/\c.1.length<=65536/\c.2.2.length<=65536/\L9 0 c.2.1=true/\E8 c.2.1=c.1.length/\(∀x∈c.1,Co x=true)/\O5 c.2.2<=1048576:=by simp only[K6,x7,decide_eq_true_eq]at h;obtain⟨⟨⟨⟨⟨⟨I,C⟩,F⟩,G⟩,H⟩,z⟩,B⟩:=h;exact⟨I,C,F,G,H,List.all_eq_true.1 z,B⟩
theorem b0v{c:K7}{k:Nat}(B:k<c.2.1.length)(h:¬OV c (E8 (c.2.1.take k)) c.2.1[k]):K6 c=false:=by rw[<-Bool.not_eq_true];intro z;obtain⟨_,_,_,G,H,_,_⟩:=uJ z;obtain⟨F,C,I⟩:=a0Z B G;simp only[Ci,decide_eq_true_eq]at C;exact h ⟨F,by omega,by omega,by omega,by omega,by omega,by omega,by omega⟩
theorem a7O{l:List H7}{k:Nat}(z:k<l.length):E8 (l.take (k+1))=E8 (l.take k)+l[k].2.1:=by rw[List.take_succ_eq_append_getElem z,PQ];simp[E8]
theorem b5p{l:List H7}{k:Nat}(z:k<l.length)(h:L9 0 (l.take k)=true)(C:l[k].1=E8 (l.take k))(B:Ci l[k]=true):L9 0 (l.take (k+1))=true:=by rw[List.take_succ_eq_append_getElem z,YY,h];simp[L9,C,B]
theorem a9J{c:K7}(h:E8 c.2.1≠c.1.length):K6 c=false:=by rw[<-Bool.not_eq_true];intro z;exact h (uJ z).2.2.2.2.1
theorem b2G{c:K7}{k:Nat}(B:k<c.1.length)(h:Co c.1[k]=false):K6 c=false:=by rw[<-Bool.not_eq_true];intro z;have:=(uJ z).2.2.2.2.2.1 _ (B0 B);rw[h]at this;exact absurd this (by decide)
theorem SQ(l r:List (b6H)):O5 (l++r)=O5 l+O5 r:=by
 induction l with
 |nil=>simp[O5]
 |cons f l ih=>simp[O5,ih,Nat.add_assoc]
theorem a0i{l:List (b6H)}{k:Nat}(z:k<l.length):O5 (l.take (k+1))=O5 (l.take k)+l[k].length:=by rw[List.take_succ_eq_append_getElem z,SQ];simp[O5]
theorem a5J(l:List (b6H))(k:Nat):O5 (l.take k)<=O5 l:=by
 conv=>rhs;rw[<-List.take_append_drop k l]
 rw[SQ];omega
theorem b53{c:K7}{k:Nat}(B:k<c.2.2.length)(h:1048576<O5 (c.2.2.take k)+c.2.2[k].length):K6 c=false:=by rw[<-Bool.not_eq_true];intro z;have F:=(uJ z).2.2.2.2.2.2;have C:=a5J c.2.2 (k+1);rw[a0i B]at C;omega
theorem a09{c:K7}(F:c.2.1.length<=100)(B:c.1.length<=65536)(I:c.2.2.length<=65536)(C:L9 0 c.2.1=true)(H:E8 c.2.1=c.1.length)(z:∀x∈c.1,Co x=true)(G:O5 c.2.2<=1048576):K6 c=true:=by simp only[K6,x7,decide_eq_true_eq];exact⟨⟨⟨⟨⟨⟨F,B⟩,I⟩,C⟩,H⟩,List.all_eq_true.2 z⟩,G⟩
end
section
open Go.RowKit
def Y2(B bw:Nat)(ob:Option Nat)(w0:World)(xs:b6H)(w:World):Prop:=
 ∃a c,Has w bw #[.slice a xs.length c] 83/\w.ownsRow B 5 1 (.slice a xs.length c) xs.length (xs.map M3)/\
  (∀g,Value.ownBlock (.slice a xs.length c)=some g->(ob=some g\/w0.heap.size<=g)/\g≠bw)/\Mod (λk=>k=bw\/ob=some k) w0 w/\B<=w.heap.size/\bw<w0.heap.size
theorem PE:(Tryz.prog.info? 5).map (λi=>(i.zero,i.size,i.bytes))=some (some (.int .u8 0),1,1):=by kernel_rfl
theorem UD{B z:Nat}{ob:Option Nat}{J:World}{xs:b6H}{w w1:World}{a:Option Addr}{c:Nat}{F:Option Addr}{C:Nat}(x:UInt8)(P:Has w z #[.slice a xs.length c] 83)(V:w.ownsRow B 5 1 (.slice a xs.length c) xs.length (xs.map M3))(M:∀g,Value.ownBlock (.slice a xs.length c)=some g->(ob=some g\/J.heap.size<=g)/\g≠z)(O:Mod (λk=>k=z\/ob=some k) J w)(R:B<=w.heap.size)(U:z<J.heap.size)(S:w1.ownsRow B 5 1 (.slice F (xs.length+1) C) (xs.length+1) (xs.map M3++[M3 x]))(K:w.grownBy w1 (Value.ownBlock (.slice a xs.length c)))(Q:∀g,Value.ownBlock (.slice F (xs.length+1) C)=some g->Value.ownBlock (.slice a xs.length c)=some g\/w.heap.size<=g):Has w1 z #[.slice a xs.length c] 83/\Y2 B z ob J (xs++[x]) (w1.setCell ⟨z,0,none⟩ (.slice F (xs.length+1) C)):=by
 have L:=F7 P;have G:some z≠Value.ownBlock (.slice a xs.length c):=λe=>(M z e.symm).2 rfl;have H:Has w1 z #[.slice a xs.length c] 83:=(K.block z L G).trans P;refine⟨H,F,C,?_,?_,?_,?_,?_,U⟩
 ·have:=Iw H 0 (.slice F (xs.length+1) C);simpa using this
 ·have:=ownsRow_setCell_other S (a:=⟨z,0,none⟩) (λe=>by
   rcases Q z e with h|h
   ·exact G h.symm
   ·omega) (.slice F (xs.length+1) C)
  simpa using this
 ·intro g N;have I:Value.ownBlock (.slice F (xs.length+1) C)=some g:=(by simpa[Value.ownBlock]using N);rcases Q g I with h|h
  ·exact M g h
  ·exact⟨.inr (G2 O.size h),by omega⟩
 ·refine Mod.setCell (O.step (Mod.of_grown K) ?_) _ _ (.inr (.inl rfl));intro i hi hx;rcases(M i hx.symm).1 with h|h
  ·exact .inr h
  ·omega
 ·rw[World.size_setCell];exact G2 R K.size
theorem yG:∀(k n:Nat),n<128^(k+1)->(uv n).length<=k+1
 |0,n,h=>by rw[aE (by omega)];simp
 |k+1,n,h=>by
  by_cases z:n<128
  ·rw[aE z];simp
  ·rw[qY (by omega)];have:=yG k (n/128) (by rw[Nat.pow_succ]at h;omega);simp;omega
set_option maxRecDepth 100000 in
theorem a7W(m:Nat):bits .or .u8 ((m:Int)%256) 128=((b8 (m%128+128)).toNat:Int):=by have h:∀k:Fin 256,bits .or .u8 (((k:Nat):Int)) 128=((b8 (k%128+128)).toNat:Int):=(by decide);have:=h ⟨m%256,Nat.mod_lt _ (by omega)⟩;have e:m%256%128=m%128:=(by omega);simp only[e]at this;rw[<-this];congr 1
theorem a56{m:Nat}(h:¬128<=m):Value.int .u8 (m:Int)=M3 (b8 m):=by unfold M3 b8;rw[UInt8.toNat_ofNat'];congr 1;omega
theorem a7p(m:Nat):(m:Int)/128=((m/128:Nat):Int):=by omega
set_option maxHeartbeats 400000 in
set_option maxRecDepth 100000 in
theorem yA(B R:Nat)(ob:Option Nat)(Z:World)(xs:b6H)(n:Nat)(hn:n<=18446744073709551615)(hx:xs.length<=1099511627776)(w:World)(hb:Y2 B R ob Z xs w):Calls Tryz.prog 43 #[.pointer (some ⟨R,0,none⟩),.int .u64 n] w λe w'=>e=.returned (.tuple #[])/\Y2 B R ob Z (xs++uv n) w':=by
 obtain⟨i0,hi,I,K,M⟩:=info_parts PE;have F:=yG 9 n (by omega);have ad:=Lib.hid (rfl:xs++uv n=xs++uv n)
 go_enter Tryz.func43,Tryz.ntmps43
 go_wp2_with fail
 go_loopw [1] (λq wr=>∃(m:Nat) (C:b6H),q=.int .u64 m/\m<=n/\C++uv m=xs++uv n/\Y2 B R ob Z C wr) (λq _=>(intOf q).toNat)
 case atStart=>exact⟨n,xs,rfl,l5 _,rfl,hb⟩
 case round=>
  obtain⟨m,C,rfl,hm,G,O⟩:=hrel;obtain⟨a,c,J,h2,h3,h4,Q,h6⟩:=O;have L:C.length<=1099511628000:=(by have:=congrArg List.length G;simp at this;omega);have hc:=J9 J;have hf:=Ay J;have ac:=F7 J;have X1:=Lib.hid J;clear J;have U:=Lib.hid h2;clear h2;have X3:=Lib.hid h3;clear h3;have X4:=Lib.hid h4;clear h4;have X6:=Lib.hid h6;clear h6;have HU:=Lib.hid G;clear G;have HL:=Lib.hid F;clear F;have m0:(0:Int)<=m:=(by omega);have m1:(m:Int)<=18446744073709551615:=(by omega);have HN:=Lib.hid hn;have HM:=Lib.hid hm;clear hm;have ab:=Lib.hid hx;have S:=Lib.hid L;clear L;clear hn hx;have aa:(128:Int)<=m↔128<=m:=(by omega);by_cases H:128<=m
  ·go_wp2_with (at_builtin;go_must (refine FO rfl _ _ 52 rfl B 5 i0 (.int .u8 0) 1 1 (by kernel_rfl) hi I K M rfl (by decide) a c C.length (C.map M3) [_] _ rfl U.out rfl rfl (by simp[Value.oneCell']) (by have:=S.out;simp only[maxLen];omega) (by have:=S.out;omega) Q ?_);go_must (intro a' c' w1 N V Y;rw[a7W]at N;obtain⟨z,P⟩:=UD (b8 (m%128+128)) X1.out U.out X3.out X4.out Q X6.out N V Y;have kc:=J9 z;have kf:=Ay z;have ks:=F7 z;have K1:=Lib.hid z;have X:=Lib.hid P;clear z P))
   exact⟨⟨m/128,C++[b8 (m%128+128)],congrArg (Value.int .u64) (a7p m),by have:=HM.out;omega,by have:=HU.out;rw[qY H]at this;simpa using this,X.out⟩,by simp[intOf];omega⟩
  ·go_wp2_with (at_builtin;go_must (refine FO rfl _ _ 52 rfl B 5 i0 (.int .u8 0) 1 1 (by kernel_rfl) hi I K M rfl (by decide) a c C.length (C.map M3) [_] _ rfl U.out rfl rfl (by simp[Value.oneCell']) (by have:=S.out;simp only[maxLen];omega) (by have:=S.out;omega) Q ?_);go_must (intro a' c' w1 N V Y;rw[a56 H]at N;obtain⟨z,P⟩:=UD (b8 m) X1.out U.out X3.out X4.out Q X6.out N V Y;have kc:=J9 z;have kf:=Ay z;have ks:=F7 z;have K1:=Lib.hid z;have X:=Lib.hid P;clear z P))
   go_end0
   refine⟨rfl,?_⟩;have e:xs++uv n=C++[b8 m]:=(by have:=HU.out;rw[aE (by omega)]at this;exact this.symm);rw[e];exact X.out
end
section
open Go.RowKit
theorem QV(B z:Nat)(ob:Option Nat)(F:World)(xs:b6H)(n:Nat)(J:n<=9223372036854775807)(hx:xs.length<=1099511627776)(w:World)(G:Y2 B z ob F xs w):Calls Tryz.prog 25 #[.pointer (some ⟨z,0,none⟩),.int .i64 n] w λe w'=>e=.returned (.tuple #[])/\Y2 B z ob F (xs++uv n) w':=by
 have I:(0:Int)<=n:=(by omega);have H:(n:Int)<=9223372036854775807:=by omega
 go_enter Tryz.func25,Tryz.ntmps25
 go_wp2_with (go_at_call 43;go_must (refine(yA B z ob F xs n (by omega) hx w G).mono ?_;rintro e w1 ⟨rfl,C⟩))
 go_end0
 exact⟨rfl,C⟩
theorem b01(x:Nat)(h:x<18446744073709551616):x^^^18446744073709551615=18446744073709551615-x:=by have e:(BitVec.ofNat 64 x^^^BitVec.allOnes 64).toNat=(~~~BitVec.ofNat 64 x).toNat:=(by rw[BitVec.xor_allOnes]);rw[BitVec.toNat_xor,BitVec.toNat_not]at e;simp[BitVec.toNat_ofNat,Nat.mod_eq_of_lt h]at e;omega
theorem a2N{a:Int}(B:0<=a)(C:a<=9223372036854775807):bits .xor .u64 (a*2) (a/9223372036854775808)=(zz a:Int):=by have z:zz a=(2*a).toNat:=(by simp[zz,B]);rw[z,show a*2=((2*a).toNat:Int) by omega,show a/9223372036854775808=((0:Nat):Int) by omega,bits_xor_u64_nat _ _ (by omega) (by omega),Nat.xor_zero]
theorem a05{a:Int}(B:¬0<=a)(h0: -9223372036854775808<=a):bits .xor .u64 (IntKind.u64.wrap (IntKind.u64.wrap a*2)) (IntKind.u64.wrap (a/9223372036854775808))=(zz a:Int):=by have z:zz a=(-2*a-1).toNat:=(by simp[zz,B]);rw[IntKind.wrap_u64,IntKind.wrap_u64,IntKind.wrap_u64,z,show(a%18446744073709551616*2)%18446744073709551616=((2*a+18446744073709551616).toNat:Int) by omega,show(a/9223372036854775808)%18446744073709551616=((18446744073709551615:Nat):Int) by omega,bits_xor_u64_nat _ _ (by omega) (by omega),b01 _ (by omega)];omega
theorem GR{a:Int}(h0: -9223372036854775808<=a)(z:a<=9223372036854775807):zz a<=18446744073709551615:=by unfold zz;split<;>omega
theorem a6h(B C:Nat)(ob:Option Nat)(F:World)(xs:b6H)(a:Int)(h0: -9223372036854775808<=a)(G:a<=9223372036854775807)(hx:xs.length<=1099511627776)(w:World)(H:Y2 B C ob F xs w):Calls Tryz.prog 26 #[.pointer (some ⟨C,0,none⟩),.int .i64 a] w λe w'=>e=.returned (.tuple #[])/\Y2 B C ob F (xs++uv (zz a)) w':=by
 have J:=GR h0 G;by_cases I:0<=a
 ·have K:=a2N I G
  go_enter Tryz.func26,Tryz.ntmps26
  go_wp2_with (go_at_call 43;go_must (refine(yA B C ob F xs (zz a) J hx w H).mono ?_;rintro e w1 ⟨rfl,z⟩))
  go_end0
  exact⟨rfl,z⟩
 ·have K:=a05 I h0
  go_enter Tryz.func26,Tryz.ntmps26
  go_wp2_with (go_at_call 43;go_must (refine(yA B C ob F xs (zz a) J hx w H).mono ?_;rintro e w1 ⟨rfl,z⟩))
  go_end0
  exact⟨rfl,z⟩
end
end
end Go.Proofs.YtihbbcealnnpiaaGreatDoor
