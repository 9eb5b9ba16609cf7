/- Parts of the proof. -/
import Derived.Test.YtihbbcealnnpiaaGreatDoorChecked
import Derived.Test.YtihbbcealnnpiaaGreatDoorImCodeRep
import Derived.WalkLawsBesides
set_option linter.unusedVariables false
namespace Go.Proofs.YtihbbcealnnpiaaGreatDoor
section
open Go.RowKit
set_option maxHeartbeats 4000000 in
set_option maxRecDepth 100000 in
theorem lJ(v1 v2 v3:Value)(c:K7)(w:World)(Y:Gr w v1 v2 v3 c):Calls Tryz.prog 24 #[.agg #[v1,v2,v3]] w λe w'=>e=.returned (.bool (K6 c))/\Below w.heap.size w w':=by
 obtain⟨I,H,N⟩:=c;obtain⟨a1,c1,rfl,n1,r1⟩:=YC Y.ins;obtain⟨a2,c2,rfl,n2,r2⟩:=NN Y.fns;obtain⟨a3,c3,rfl,n3,r3⟩:=PK Y.strs
 dsimp only at*
 unfold maxLen at n1 n2 n3;have H1:=Lib.hid r1;clear r1;have H2:=Lib.hid r2;clear r2;have H3:=Lib.hid r3;clear r3;have HW:=Lib.hid Y;clear Y;by_cases hs:H.length>100\/I.length>65536\/N.length>65536
 ·have hm:=Lib.hid (b6n (c:=(I,H,N)) hs);have ag:((100:Int)<H.length)\/(¬(100:Int)<H.length/\(65536:Int)<I.length)\/(¬(100:Int)<H.length/\¬(65536:Int)<I.length/\(65536:Int)<N.length):=(by omega);clear hs;rcases ag with h|⟨h,h'⟩|⟨h,h',aj⟩
  all_goals
   go_enter Tryz.func24,Tryz.ntmps24
   go_wp2_with fail
   go_ret
   exact⟨(by first|rfl|((rw[hm.out])<;>rfl)),(by repeat' (first|exact Below.refl _ _|assumption|(refine V7 ?_ (by assumption))|(refine X9 ?_ _)|(refine Below.alloc ?_ (by first|simp;done|(simp;omega)|omega) _)|(refine P3 ?_ (by first|simp;done|(simp;omega)|omega) _)|(refine Below.setCell ?_ (by first|simp;done|(simp;omega)|omega) _)))⟩
 have s1:(H.length:Int)<=100:=(by omega);have s2:(I.length:Int)<=65536:=(by omega);have s3:(N.length:Int)<=65536:=(by omega);clear hs
 go_enter Tryz.func24,Tryz.ntmps24
 go_wp2_with fail
 go_loopw [3,5,30] (λat_ f i wr=>∃k:Nat,k<=H.length/\i=.int .i64 k/\at_=.int .i64 (E8 (H.take k))/\0<=E8 (H.take k)/\E8 (H.take k)<=I.length/\L9 0 (H.take k)=true/\Below w.heap.size w wr/\Has wr w.heap.size #[.slice a1 I.length c1,.slice a2 H.length c2,.slice a3 N.length c3] 41) (λ_ _ i _=>H.length-(intOf i).toNat)
 case atStart=>exact⟨0,by omega,rfl,rfl,by simp[E8],by simp[E8],by simp[L9],(by repeat' (first|exact Below.refl _ _|assumption|(refine V7 ?_ (by assumption))|(refine X9 ?_ _)|(refine Below.alloc ?_ (by first|simp;done|(simp;omega)|omega) _)|(refine P3 ?_ (by first|simp;done|(simp;omega)|omega) _)|(refine Below.setCell ?_ (by first|simp;done|(simp;omega)|omega) _))),(by repeat' (first|assumption|(refine Xg ?_ _)|(refine Hd ?_)|(refine Hh _ _ _ _ ?_<;>(first|rfl|(simp;done)))|(refine Bh ?_ _)|(refine Kv ?_ _ _ (by first|assumption|(simp;omega)|omega))|(refine Vu ?_ _ _ (by first|assumption|(simp;omega)|omega))|(refine Ev ?_ (by assumption))))⟩
 case round=>
  obtain⟨k,hk,rfl,rfl,l0,l1,he,L,J⟩:=hrel;have S:=Lib.hid J;have Q:=J9 J;have R:=F7 J;clear J;by_cases F:k<H.length
  ·obtain⟨b,ab,rfl,K,V,g1,g2,g3,g4⟩:=H2.out k F;have C:=b0v (c:=(I,H,N)) (k:=k) F;have G:=HW.out.wf H[k] (B0 F);have z:=a7O F;have O:=λh1 h2=>b5p F he h1 h2;clear he
   dsimp only at C
   obtain⟨fa,fl,fp,fs,fr,hf⟩:∃fa fl fp fs fr,H[k]=(fa,fl,fp,fs,fr):=⟨_,_,_,_,_,rfl⟩;rw[hf]at V g1 g2 g3 g4 C G z O;clear hf;have HB:=Lib.hid C;clear C;have HE:=Lib.hid O;clear O;obtain⟨⟨i1,i2⟩,⟨i3,i4⟩,⟨i5,i6⟩,⟨i7,i8⟩,i9,ak⟩:=G;rw[<-L.cell (p:=⟨b,_,none⟩) K]at V g1 g2 g3 g4
   dsimp only at*
   generalize ah:E8 (H.take k)=at_ at*;have U:=Lib.hid z;clear z ah;have Z:(k:Int)<H.length:=(by omega);have ac:b<wr.heap.size:=Nat.lt_of_lt_of_le K L.size
   go_wp2_with fail
   all_goals first
    |(go_roundw
      case rel=>exact⟨k+1,by omega,by go_num,by rw[U.out],by rw[U.out];omega,by rw[U.out];omega,HE.out (by omega) (by unfold Ci;simp;omega),(by repeat' (first|exact Below.refl _ _|assumption|(refine V7 ?_ (by assumption))|(refine X9 ?_ _)|(refine Below.alloc ?_ (by first|simp;done|(simp;omega)|omega) _)|(refine P3 ?_ (by first|simp;done|(simp;omega)|omega) _)|(refine Below.setCell ?_ (by first|simp;done|(simp;omega)|omega) _))),Bh S.out _⟩
      case measure=>simp[intOf];omega)
    |(go_ret
      exact⟨by rw[HB.out (by unfold OV;dsimp only;omega)];rfl,(by repeat' (first|exact Below.refl _ _|assumption|(refine V7 ?_ (by assumption))|(refine X9 ?_ _)|(refine Below.alloc ?_ (by first|simp;done|(simp;omega)|omega) _)|(refine P3 ?_ (by first|simp;done|(simp;omega)|omega) _)|(refine Below.setCell ?_ (by first|simp;done|(simp;omega)|omega) _)))⟩)
  ·obtain rfl:k=H.length:=(by omega);rw[List.take_of_length_le (l5 _)]at he l0 l1⊢;have HE:=Lib.hid he;clear he;by_cases M:E8 H=I.length
   ·have X:(E8 H==(I.length:Int))=true:=(by rw[beq_iff_eq];exact M);have af:(E8 H !=(I.length:Int))=false:=(by rw[bne_eq_false_iff_eq];exact M);have HS:=Lib.hid M;clear M
    go_wp2_with fail
    go_loopw [7,93] (λx i wr=>∃k:Nat,k<=I.length/\i=.int .i64 k/\(∀y∈I.take k,Co y=true)/\Below w.heap.size w wr/\Has wr w.heap.size #[.slice a1 I.length c1,.slice a2 H.length c2,.slice a3 N.length c3] 41) (λ_ i _=>I.length-(intOf i).toNat)
    case atStart=>exact⟨0,by omega,rfl,by simp,L,S.out⟩
    case round=>
     clear L S Q R;obtain⟨k,hk,rfl,P,L,J⟩:=hrel;have S:=Lib.hid J;have Q:=J9 J;have R:=F7 J;clear J;have HO:=Lib.hid P;clear P;by_cases F:k<I.length
     ·obtain⟨b,ab,rfl,K,V,g1,g2⟩:=H1.out k F;have C:=b2G (c:=(I,H,N)) (k:=k) F;have G:=HW.out.wi I[k] (B0 F);have z:∀y∈I.take (k+1),y∈I.take k\/y=I[k]:=λy hy=>by
       rw[List.take_succ_eq_append_getElem F]at hy;rcases A3.1 hy with h|h
       ·exact .inl h
       ·right;simpa using h
      dsimp only at C
      obtain⟨xo,xa,xl,hf⟩:∃xo xa xl,I[k]=(xo,xa,xl):=⟨_,_,_,rfl⟩;rw[hf]at V g1 g2 C G z;clear hf;have HB:=Lib.hid C;clear C;have U:=Lib.hid z;clear z;obtain⟨i0,⟨i1,i2⟩,⟨i3,i4⟩⟩:=G;rw[<-L.cell (p:=⟨b,_,none⟩) K]at V g1 g2
      dsimp only at*
      have Z:(k:Int)<I.length:=(by omega);have ac:b<wr.heap.size:=Nat.lt_of_lt_of_le K L.size
      go_wp2_with fail
      all_goals first
       |(go_roundw
         case rel=>exact⟨k+1,by omega,by go_num,(λy hy=>by
          rcases U.out y hy with h|h
          ·exact HO.out y h
          ·rw[h];unfold Co;simp;omega),(by repeat' (first|exact Below.refl _ _|assumption|(refine V7 ?_ (by assumption))|(refine X9 ?_ _)|(refine Below.alloc ?_ (by first|simp;done|(simp;omega)|omega) _)|(refine P3 ?_ (by first|simp;done|(simp;omega)|omega) _)|(refine Below.setCell ?_ (by first|simp;done|(simp;omega)|omega) _))),Bh S.out _⟩
         case measure=>simp[intOf];omega)
       |(go_ret
         exact⟨by rw[HB.out (by unfold Co;simp;omega)];rfl,(by repeat' (first|exact Below.refl _ _|assumption|(refine V7 ?_ (by assumption))|(refine X9 ?_ _)|(refine Below.alloc ?_ (by first|simp;done|(simp;omega)|omega) _)|(refine P3 ?_ (by first|simp;done|(simp;omega)|omega) _)|(refine Below.setCell ?_ (by first|simp;done|(simp;omega)|omega) _)))⟩)
     ·obtain rfl:k=I.length:=(by omega);have P:=HO.out;rw[List.take_of_length_le (l5 _)]at P;have HK:=Lib.hid P;clear P HO
      go_wp2_with fail
      go_loopw [8,10,119] (λae s i wr=>∃k:Nat,k<=N.length/\i=.int .i64 k/\O5 (N.take k)<=1048576/\ae=.int .i64 (1048576-(O5 (N.take k):Int))/\Below w.heap.size w wr/\Has wr w.heap.size #[.slice a1 I.length c1,.slice a2 H.length c2,.slice a3 N.length c3] 41) (λ_ _ i _=>N.length-(intOf i).toNat)
      case atStart=>exact⟨0,by omega,rfl,by simp[O5],by simp[O5],L,S.out⟩
      case round=>
       clear L S Q R;obtain⟨k,hk,rfl,aa,rfl,L,J⟩:=hrel;have S:=Lib.hid J;have Q:=J9 J;have R:=F7 J;clear J;by_cases F:k<N.length
       ·obtain⟨b,ab,rfl,K,V⟩:=H3.out k F;have C:=b53 (c:=(I,H,N)) (k:=k) F;have z:=a0i F;have G:=HW.out.ws N[k] (B0 F);unfold maxLen at G
        dsimp only at C
        generalize N[k]=s at*;unfold Al at V;have HB:=Lib.hid C;clear C;generalize ad:O5 (N.take k)=B at*;have U:=Lib.hid z;clear z ad;rw[<-L.cell (p:=⟨b,_,none⟩) K]at V;have Z:(k:Int)<N.length:=(by omega);have ac:b<wr.heap.size:=Nat.lt_of_lt_of_le K L.size;by_cases ai:(1048576:Int)-B<s.length
        ·go_wp2_with fail
         go_ret
         exact⟨by rw[HB.out (by omega)];rfl,(by repeat' (first|exact Below.refl _ _|assumption|(refine V7 ?_ (by assumption))|(refine X9 ?_ _)|(refine Below.alloc ?_ (by first|simp;done|(simp;omega)|omega) _)|(refine P3 ?_ (by first|simp;done|(simp;omega)|omega) _)|(refine Below.setCell ?_ (by first|simp;done|(simp;omega)|omega) _)))⟩
        ·go_wp2_with fail
         go_roundw
         case rel=>exact⟨k+1,by omega,by go_num,by rw[U.out];omega,by rw[U.out];go_num,(by repeat' (first|exact Below.refl _ _|assumption|(refine V7 ?_ (by assumption))|(refine X9 ?_ _)|(refine Below.alloc ?_ (by first|simp;done|(simp;omega)|omega) _)|(refine P3 ?_ (by first|simp;done|(simp;omega)|omega) _)|(refine Below.setCell ?_ (by first|simp;done|(simp;omega)|omega) _))),S.out⟩
         case measure=>simp[intOf];omega
       ·obtain rfl:k=N.length:=(by omega);rw[List.take_of_length_le (l5 _)]at aa
        have hm:=Lib.hid (a09 (c:=(I,H,N)) (by dsimp only;omega) (by dsimp only;omega) (by dsimp only;omega) HE.out HS.out HK.out aa)
        go_wp2_with fail
        go_ret
        exact⟨(by first|rfl|((rw[hm.out])<;>rfl)),(by repeat' (first|exact Below.refl _ _|assumption|(refine V7 ?_ (by assumption))|(refine X9 ?_ _)|(refine Below.alloc ?_ (by first|simp;done|(simp;omega)|omega) _)|(refine P3 ?_ (by first|simp;done|(simp;omega)|omega) _)|(refine Below.setCell ?_ (by first|simp;done|(simp;omega)|omega) _)))⟩
   ·have X:(E8 H==(I.length:Int))=false:=(by rw[beq_eq_false_iff_ne];exact M);have hm:=Lib.hid (a9J (c:=(I,H,N)) M);clear M
    go_wp2_with fail
    go_ret
    exact⟨(by first|rfl|((rw[hm.out])<;>rfl)),(by repeat' (first|exact Below.refl _ _|assumption|(refine V7 ?_ (by assumption))|(refine X9 ?_ _)|(refine Below.alloc ?_ (by first|simp;done|(simp;omega)|omega) _)|(refine P3 ?_ (by first|simp;done|(simp;omega)|omega) _)|(refine Below.setCell ?_ (by first|simp;done|(simp;omega)|omega) _)))⟩
end
end Go.Proofs.YtihbbcealnnpiaaGreatDoor
