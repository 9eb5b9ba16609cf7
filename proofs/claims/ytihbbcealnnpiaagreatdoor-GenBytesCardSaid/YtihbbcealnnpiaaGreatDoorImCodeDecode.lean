/- Parts of the proof. -/
import Derived.Test.YtihbbcealnnpiaaGreatDoorImDecState
import Derived.Test.YtihbbcealnnpiaaGreatDoorImCodeWide
import Derived.Deep.CutBlock
import Derived.Deep.RegionLaw
set_option linter.unusedVariables false
namespace Go.Proofs.YtihbbcealnnpiaaGreatDoor
section
open Go.RowKit Go.Lib
def Hi(N B:Nat)(v:Value):Prop:=v=.slice none 0 0\/∃g n c,v=.slice (some ⟨g,0,none⟩) n c/\B<=g/\g<N/\n<=c/\c<=maxLen
theorem Jb(N B:Nat):Hi N B (.slice none 0 0):=.inl rfl
theorem cW{w:World}{z B N:Nat}{e:TypeId}{k:Nat}{v:Value}{n:Nat}{xs:List Value}(h:w.ownsRow z e k v n xs)(M:B<=z)(J:w.heap.size<=N):Hi N B v:=by
 obtain⟨_,⟨C,_⟩|⟨g,F,G,C,L,I,H,K,_⟩⟩:=h
 ·exact .inl C
 ·exact .inr ⟨g,_,_,C,by omega,Nat.lt_of_lt_of_le (lt_of_block I) J,H,K⟩
set_option maxHeartbeats 8000000 in
set_option maxRecDepth 100000 in
theorem b0I(a:Option Addr)(bw:Nat)(b:b6H)(w:World)(hb:U9 w a bw b):Calls Tryz.prog 13 #[.slice a b.length bw] w λe w'=>Below w.heap.size w w'/\∃v1 v2 v3,e=.returned (.tuple #[.agg #[v1,v2,v3],.int .i64 ((Aw b).2:Nat)])/\Gr w' v1 v2 v3 (Aw b).1/\Hi w'.heap.size w.heap.size v1/\Hi w'.heap.size w.heap.size v2/\Hi w'.heap.size w.heap.size v3:=by
 obtain⟨i0,hi,cN,dj,dh⟩:=info_parts b1X;have cz:=Lib.hid hb;have dz:=Lib.hid hb.1;have de:=hb.2.1;unfold maxLen at de;clear hb;obtain⟨n1,e1,b1,hn1⟩:∃n1 e1 b1,A2 1048576 (0,b)=(n1,e1,b1):=⟨_,_,_,rfl⟩;have b4:n1<=1048576:=by have:(A2 1048576 (0,b)).1<=1048576:=(by unfold A2;split<;>simp_all);rw[hn1]at this;exact this
 have br:=Lib.hid hn1;clear hn1
 go_enter Tryz.func13,Tryz.ntmps13
 go_upto_block 0 with(go_at_call 27;go_must (refine(Gw w (w.heap.size+1) (0,b) _ 1048576 (by omega) ⟨a,bw,by exact(by repeat' (first|assumption|(refine Xg ?_ _)|(refine Hd ?_)|(refine Hh _ _ _ _ ?_<;>(first|rfl|(simp;done)))|(refine Bh ?_ _)|(refine Kv ?_ _ _ (by first|assumption|(simp;omega)|omega))|(refine Vu ?_ _ _ (by first|assumption|(simp;omega)|omega))|(refine Ev ?_ (by assumption)))),cz.out,by omega,(by repeat' (first|exact Below.refl _ _|assumption|(refine V7 ?_ (by assumption))|(refine X9 ?_ _)|(refine Below.alloc ?_ (by first|simp;done|(simp;omega)|omega) _)|(refine P3 ?_ (by first|simp;done|(simp;omega)|omega) _)|(refine Below.setCell ?_ (by first|simp;done|(simp;omega)|omega) _)))⟩).mono ?_;rintro e w1 ⟨rfl,J,G⟩;rw[br.out];rw[br.out]at J;have HR:=Lib.hid J;have HO:=Lib.hid G;clear J G))
 have cl:I5 w w1 #[.slice none 0 0,.slice none 0 0,.slice none 0 0] (e1,b1) w1:=by
  have G:=HO.out;refine⟨HR.out,Dc (S:=λk=>k=w.heap.size+1) (by exact(by repeat' (first|assumption|(refine Xg ?_ _)|(refine Hd ?_)|(refine Hh _ _ _ _ ?_<;>(first|rfl|(simp;done)))|(refine Bh ?_ _)|(refine Kv ?_ _ _ (by first|assumption|(simp;omega)|omega))|(refine Vu ?_ _ _ (by first|assumption|(simp;omega)|omega))|(refine Ev ?_ (by assumption))))) G (by omega),Dc (S:=λk=>k=w.heap.size+1) (by exact(by repeat' (first|assumption|(refine Xg ?_ _)|(refine Hd ?_)|(refine Hh _ _ _ _ ?_<;>(first|rfl|(simp;done)))|(refine Bh ?_ _)|(refine Kv ?_ _ _ (by first|assumption|(simp;omega)|omega))|(refine Vu ?_ _ _ (by first|assumption|(simp;omega)|omega))|(refine Ev ?_ (by assumption))))) G (by omega),Mod.refl _ _,?_⟩
  have:=G.size;simp at this;omega
 have bl:=Lib.hid cl;clear cl
 go_cut [6] (λs6 wx=>∃(z:List (b6H)) (r:Rd) (a3:Option Addr) (c3:Nat),(z,r)=Aa n1 (e1,b1) []/\I5 w w1 #[.slice none 0 0,.slice none 0 0,.slice a3 z.length c3] r wx/\wx.ownsRow w1.heap.size 9 1 (.slice a3 z.length c3) z.length (z.map Al))
 case first=>
  go_wp2_with fail
  go_loopw [6] (λq wr=>∃(n:Nat) (z:List (b6H)) (r:Rd) (a3:Option Addr) (c3:Nat),q=.int .i64 n/\z.length+n<=1048576/\Aa n r z=Aa n1 (e1,b1) []/\I5 w w1 #[.slice none 0 0,.slice none 0 0,.slice a3 z.length c3] r wr/\wr.ownsRow w1.heap.size 9 1 (.slice a3 z.length c3) z.length (z.map Al)) (λq _=>(intOf q).toNat)
  case atStart=>exact⟨n1,[],(e1,b1),none,0,rfl,by simpa using b4,rfl,bl.out,World.ownsRow_nil _ _ _ _⟩
  case round=>
   clear HR HO bl;obtain⟨n,z,r,a3,c3,rfl,co,hl,L,M⟩:=hrel;obtain⟨U,Q⟩:=r;have HL:=Lib.hid hl;clear hl;have I:=Lib.hid L;clear L;have P:=Lib.hid M;clear M;obtain⟨ar,av,ai,ah,ad,an⟩:=I.out.open;by_cases a4:n=0
   ·subst a4
    go_wp2_with fail
    go_meet
    exact⟨z,(U,Q),a3,c3,HL.out,I.out,P.out⟩
   ·obtain⟨m,rfl⟩:∃m,n=m+1:=⟨n-1,by omega⟩;have bi:(0:Int)<((m+1:Nat):Int):=(by omega);by_cases Y:U=0
    ·subst Y;have ak:(((0:Nat):Int)==0)=true:=by decide
     go_wp2_with fail
     obtain⟨s,bh,bf,hs⟩:∃s bh bf,Aq (0,Q)=(s,bh,bf):=⟨_,_,_,rfl⟩;have HS:=Lib.hid hs;clear hs;clear ai
     go_region_law
      (first
       |(refine qB (by rfl) 28 _ _ Tryz.func28 (by kernel_rfl) (by kernel_rfl) (by rfl) _ (by rfl) (b3Y w (w.heap.size+1) (0,Q) _ (IT I.out.rd)) ?_;rintro e w2 ⟨rfl,J,G⟩;refine⟨_,rfl,?_⟩;rw[HS.out]at J⊢;unfold Al;have K:=I.out.drew.read J G;have am:=I.out.big;have B:=Bp P.out.drew G (λg hg _ e=>by omega);clear am;obtain⟨dl,bu,a6,aq,ay,aw⟩:=K.open;have O:=Lib.hid K;have N:=Lib.hid B;clear K B J G;have cq:=aq 2)
       |((refine step_append_lies _ (by rfl) _ _ _ (by rfl) w1.heap.size 9 i0 (.string ⟨#[]⟩) 1 16 (by kernel_rfl) hi cN dj dh rfl (by decide) (.slice a3 z.length c3) _ (z.map Al) (by rfl) (N.out.alloc _) ⟨w2.heap.size,0,none⟩ 1 1 [.string ⟨s.toArray⟩] (by rfl) rfl (ZE _ _ _ _ rfl) (by simp[Value.oneCell']) (by decide) (by unfold maxLen;omega) (by omega) (by have:=O.out.mod.size;simp;omega) (w2.heap.size+1) (by simp) ?_;intro g ab wq C F bv bo;obtain⟨az,bc,be⟩:=O.out.grown N.out (uQ F);have dd:wq.cell? ⟨w.heap.size+2,2,none⟩=some (.slice a3 z.length c3):=az 2)))
     all_goals
      have a0:Hid (Aa m (bh,bf) (z++[s])=Aa n1 (e1,b1) []):=Lib.hid (by rw[<-HL.out];simp[Aa,HS.out]);obtain⟨hA,hB⟩:=O.out.add N.out (uQ F) (show wq.ownsRow w1.heap.size 9 1 _ _ (z.map Al++[Al s])from C) 2 #[.slice none 0 0,.slice none 0 0,.slice (some ⟨g,0,none⟩) (z.length+1) ab] (by rfl);have HA:=Lib.hid hA;have HB:=Lib.hid hB;clear hA hB C F bv bo ah ad an aq ay aw a6 cq az bc be dd
      go_wp2_with fail
      go_roundw
      case rel=>exact⟨m,z++[s],(bh,bf),some ⟨g,0,none⟩,ab,by go_num,by simp;omega,a0.out,by simpa using HA.out,by simpa using HB.out⟩
      case measure=>(simp[intOf];try omega)
    ·have ak:((U:Int)==0)=false:=(by rw[beq_eq_false_iff_ne];omega);have H:Hid ((z,(U,Q))=Aa n1 (e1,b1) []):=Lib.hid (by rw[<-HL.out,Aa,if_pos Y]);have HE:=Lib.hid Y;clear Y
     go_wp2_with fail
     go_meet
     exact⟨z,(U,Q),a3,c3,H.out,I.out,P.out⟩
 case rest=>
  clear HR HO bl;obtain⟨ls,r,a3,c3,hl,L,ax⟩:=hcut;obtain⟨n2,e2,b2,hn2⟩:∃n2 e2 b2,A2 1048576 r=(n2,e2,b2):=⟨_,_,_,rfl⟩;have cu:n2<=1048576:=by have:(A2 1048576 r).1<=1048576:=(by unfold A2;split<;>simp_all);rw[hn2]at this;exact this
  have bp:=Lib.hid hn2;clear hn2;have cd:=Lib.hid hl;clear hl;have I:=Lib.hid L;clear L;have V:=Lib.hid ax;clear ax;obtain⟨i1,cL,di,cy,da⟩:=info_parts b1x
  go_upto_block 2 with(go_at_call 27;go_must (refine(Gw w (w.heap.size+1) r _ 1048576 (by omega) I.out.rd).mono ?_;rintro e w2 ⟨rfl,J,G⟩;rw[bp.out];rw[bp.out]at J;have bq:=Lib.hid (I.out.read J G).next;have aj:=Lib.hid (I5.rows V.out G I.out.big);have al:=Lib.hid I.out.big;have dy:=Lib.hid I.out.mod.size;have dp:=Lib.hid G.size;clear J G I V))
  go_cut [7] (λs7 wx=>∃(at_:Int) (z:List H7) (r:Rd) (a2:Option Addr) (c2:Nat),s7=.int .i64 at_/\0<=at_/\at_<=1099511627776/\(at_,z,r)=Z7 n2 0 (e2,b2) []/\I5 w w2 #[.slice none 0 0,.slice a2 z.length c2,.slice a3 ls.length c3] r wx/\wx.ownsRow w2.heap.size 45 5 (.slice a2 z.length c2) z.length (z.flatMap Rj))
  case first=>
   go_wp2_with fail
   go_loopw [7,8] (λq7 q wr=>∃(n:Nat) (at_:Int) (z:List H7) (r:Rd) (a2:Option Addr) (c2:Nat),q=.int .i64 n/\q7=.int .i64 at_/\0<=at_/\at_+n*1048576<=1099511627776/\z.length+n<=1048576/\Z7 n at_ r z=Z7 n2 0 (e2,b2) []/\I5 w w2 #[.slice none 0 0,.slice a2 z.length c2,.slice a3 ls.length c3] r wr/\wr.ownsRow w2.heap.size 45 5 (.slice a2 z.length c2) z.length (z.flatMap Rj)) (λ_ q _=>(intOf q).toNat)
   case atStart=>exact⟨n2,0,[],(e2,b2),none,0,rfl,rfl,by omega,by omega,by simpa using cu,rfl,bq.out,World.ownsRow_nil _ _ _ _⟩
   case round=>
    clear bq aj;obtain⟨n,at_,z,r,a2,c2,rfl,rfl,ct,dt,co,hl,L,M⟩:=hrel;obtain⟨U,Q⟩:=r;have HL:=Lib.hid hl;clear hl;have I:=Lib.hid L;clear L;have P:=Lib.hid M;clear M;obtain⟨ar,av,ai,ah,ad,an⟩:=I.out.open;by_cases a4:n=0
    ·subst a4
     go_wp2_with fail
     go_meet
     exact⟨at_,z,(U,Q),a2,c2,rfl,ct,by omega,HL.out,I.out,P.out⟩
    ·obtain⟨m,rfl⟩:∃m,n=m+1:=⟨n-1,by omega⟩;have bi:(0:Int)<((m+1:Nat):Int):=(by omega);by_cases Y:U=0
     ·subst Y;have ak:(((0:Nat):Int)==0)=true:=(by decide);obtain⟨k1,q1,hk1⟩:∃k1 q1,A2 1048576 (0,Q)=(k1,q1):=⟨_,_,rfl⟩;obtain⟨k2,q2,hk2⟩:∃k2 q2,A2 1048576 q1=(k2,q2):=⟨_,_,rfl⟩;obtain⟨k3,q3,hk3⟩:∃k3 q3,A2 1048576 q2=(k3,q3):=⟨_,_,rfl⟩;obtain⟨k4,q4,hk4⟩:∃k4 q4,A2 1048576 q3=(k4,q4):=⟨_,_,rfl⟩;have dn:k1<=1048576:=(by have:=b4e 1048576 (0,Q);rw[hk1]at this;exact this);have HK:=Lib.hid (And.intro hk1 (And.intro hk2 (And.intro hk3 hk4)));have HE:Hid (Ft at_ (0,Q)=((at_,(k1:Int),(k2:Int),(k3:Int),(k4:Int)),q4)):=Lib.hid (by unfold Ft;simp only[hk1,hk2,hk3,hk4]);clear hk1 hk2 hk3 hk4
      go_wp2_with (first
       |(go_at_call 27;refine(Gw w (w.heap.size+1) (0,Q) _ 1048576 (by omega) I.out.rd).mono ?_;rintro e w3 ⟨rfl,J,G⟩;rw[HK.out.1];rw[HK.out.1]at J;have af:=Lib.hid (I.out.read J G);have au:=Lib.hid (I5.rows P.out G (G2 I.out.big (l5 _)));clear J G I P ai ah ad an)
       |(go_at_call 27;refine(Gw w (w.heap.size+1) q1 _ 1048576 (by omega) af.out.rd).mono ?_;rintro e w4 ⟨rfl,J,G⟩;rw[HK.out.2.1];rw[HK.out.2.1]at J;have O:=Lib.hid (af.out.read J G);have N:=Lib.hid (I5.rows au.out G (G2 af.out.big (l5 _)));clear J G af au)
       |(go_at_call 27;refine(Gw w (w.heap.size+1) q2 _ 1048576 (by omega) O.out.rd).mono ?_;rintro e w5 ⟨rfl,J,G⟩;rw[HK.out.2.2.1];rw[HK.out.2.2.1]at J;have ae:=Lib.hid (O.out.read J G);have bk:=Lib.hid (I5.rows N.out G (G2 O.out.big (l5 _)));clear J G O N)
       |(go_at_call 27;refine(Gw w (w.heap.size+1) q3 _ 1048576 (by omega) ae.out.rd).mono ?_;rintro e w6 ⟨rfl,J,G⟩;rw[HK.out.2.2.2];rw[HK.out.2.2.2]at J;have b6:=Lib.hid (ae.out.read J G);have ap:=Lib.hid (I5.rows bk.out G (G2 ae.out.big (l5 _)));clear J G ae bk;obtain⟨ag,aa⟩:=q4;obtain⟨ar,av,ai,ah,ad,an⟩:=b6.out.open;have bt:=Lib.hid (b6.out.alloc (.cells #[.int .i64 at_,.int .i64 k1,.int .i64 k2,.int .i64 k3,.int .i64 k4] 45)))
       |(at_builtin;go_must (refine b4o rfl _ _ 38 rfl w2.heap.size 45 i1 (.agg #[.int .i64 0,.int .i64 0,.int .i64 0,.int .i64 0,.int .i64 0]) 5 40 (by kernel_rfl) cL di cy da rfl (by decide) a2 c2 z.length (z.flatMap Rj) [.int .i64 at_,.int .i64 k1,.int .i64 k2,.int .i64 k3,.int .i64 k4] _ rfl (ap.out.alloc _) _ rfl (by simp) rfl (by simp[Value.oneCell']) (by simp only[maxLen];omega) (by omega) bt.out.mod.size ?_);intro a' c' wq C F hp;obtain⟨az,bc,be⟩:=bt.out.grown (ap.out.alloc _) F;(have a5:Has wq w6.heap.size #[.int .i64 at_,.int .i64 k1,.int .i64 k2,.int .i64 k3,.int .i64 k4] 45:=Dc (Hh _ _ _ _ rfl) (Mod.of_grown F) (λe=>by have:=(ap.out.lt _ e.symm).2;omega));have dv:=J9 a5;have dw:=F7 a5;(have HA:=Lib.hid (bt.out.add (ap.out.alloc _) F C 1 #[.slice none 0 0,.slice a' (z.length+1) c',.slice a3 ls.length c3] (by rfl)));clear a5 C F hp ai ah ad;(have ds:¬w6.heap.size=w.heap.size+1+1:=by omega);(have dq:¬w.heap.size+1+1=w6.heap.size:=by omega)))
      have a0:Hid (Z7 m (at_+k1) (ag,aa) (z++[(at_,(k1:Int),(k2:Int),(k3:Int),(k4:Int))])=Z7 n2 0 (e2,b2) []):=Lib.hid (by rw[<-HL.out];simp[Z7,HE.out])
      go_roundw
      case rel=>exact⟨m,at_+k1,z++[(at_,(k1:Int),(k2:Int),(k3:Int),(k4:Int))],(ag,aa),a',c',by go_num,rfl,by omega,by omega,by simp;omega,a0.out,by simpa using HA.out.1,by simpa[Rj]using HA.out.2⟩
      case measure=>(simp[intOf];try omega)
     ·have ak:((U:Int)==0)=false:=(by rw[beq_eq_false_iff_ne];omega);have H:Hid ((at_,z,(U,Q))=Z7 n2 0 (e2,b2) []):=Lib.hid (by rw[<-HL.out,Z7,if_pos Y]);have HE:=Lib.hid Y;clear Y
      go_wp2_with fail
      go_meet
      exact⟨at_,z,(U,Q),a2,c2,rfl,ct,by omega,H.out,I.out,P.out⟩
  case rest=>
   clear bq;obtain⟨at_,lf,r2,a2,c2,rfl,b3,dm,cj,L,B⟩:=hcut;obtain⟨n3,rfl⟩:=Int.eq_ofNat_of_zero_le b3;have ch:=Lib.hid cj;clear cj;have dr:w.heap.size+3<=w2.heap.size:=L.big;have ck:=Lib.hid (Bp aj.out L.mod (λg hg _ e=>by have:=al.out;omega));clear aj;have b7:=Lib.hid B;clear B;have I:=Lib.hid L.next;clear L
   obtain⟨i2,hi2,cK,dk,cx⟩:=info_parts a9D
   go_upto_block 4 with fail
   go_cut [10] (λdu wx=>∃(z:List O6) (r:Rd) (a1:Option Addr) (c1:Nat),(z,r)=Y6 n3 r2 []/\I5 w wc #[.slice a1 z.length c1,.slice a2 lf.length c2,.slice a3 ls.length c3] r wx/\wx.ownsRow wc.heap.size 47 3 (.slice a1 z.length c1) z.length (z.flatMap Qn))
   case first=>
    go_wp2_with fail
    go_loopw [10] (λq wr=>∃(n:Nat) (z:List O6) (r:Rd) (a1:Option Addr) (c1:Nat),q=.int .i64 n/\z.length+n<=1099511627776/\Y6 n r z=Y6 n3 r2 []/\I5 w wc #[.slice a1 z.length c1,.slice a2 lf.length c2,.slice a3 ls.length c3] r wr/\wr.ownsRow wc.heap.size 47 3 (.slice a1 z.length c1) z.length (z.flatMap Qn)) (λq _=>(intOf q).toNat)
    case atStart=>exact⟨n3,[],r2,none,0,rfl,by simp;omega,rfl,I.out,World.ownsRow_nil _ _ _ _⟩
    case round=>
     clear I;obtain⟨n,z,r,a1,c1,rfl,co,hl,L,M⟩:=hrel;obtain⟨U,Q⟩:=r;have HL:=Lib.hid hl;clear hl;have I:=Lib.hid L;clear L;have P:=Lib.hid M;clear M;obtain⟨ar,av,ai,ah,ad,an⟩:=I.out.open;by_cases a4:n=0
     ·subst a4
      go_wp2_with fail
      go_meet
      exact⟨z,(U,Q),a1,c1,HL.out,I.out,P.out⟩
     ·obtain⟨m,rfl⟩:∃m,n=m+1:=⟨n-1,by omega⟩;have bi:(0:Int)<((m+1:Nat):Int):=(by omega);by_cases Y:U=0
      ·subst Y;have ak:(((0:Nat):Int)==0)=true:=by decide
       go_wp2_with fail
       obtain⟨o1,a9,bg,hk1⟩:∃o1 a9 bg,rOp (0,Q)=(o1,a9,bg):=⟨_,_,_,rfl⟩;obtain⟨o2,bd,ba,hk2⟩:∃o2 bd ba,Hc (a9,bg)=(o2,bd,ba):=⟨_,_,_,rfl⟩;obtain⟨o3,ag,aa,hk3⟩:∃o3 ag aa,A2 2147483647 (bd,ba)=(o3,ag,aa):=⟨_,_,_,rfl⟩;have HI:Hid (Oj (0,Q)=((o1,o2,(o3:Int)),ag,aa)):=Lib.hid (by unfold Oj;simp only[hk1,hk2,hk3]);have HK:=Lib.hid (And.intro hk1 (And.intro hk2 hk3));clear hk1 hk2 hk3;clear ai
       go_region_law
        (first
         |(refine qB (by rfl) 29 _ _ Tryz.func29 (by kernel_rfl) (by kernel_rfl) (by rfl) _ (by rfl) (b21 w (w.heap.size+1) (0,Q) _ (IT I.out.rd)) ?_;rintro e w3 ⟨rfl,J,G⟩;refine⟨_,rfl,?_⟩;rw[HK.out.1]at J⊢;have K:=I.out.drew.read J G;have am:=I.out.big;have B:=Bp P.out.drew G (λg hg _ e=>by omega);clear am;obtain⟨dx,cF,cn,ci,cv,ca⟩:=K.open;have af:=Lib.hid K;have au:=Lib.hid B;clear K B J G)
         |(refine qB (by rfl) 30 _ _ Tryz.func30 (by kernel_rfl) (by kernel_rfl) (by rfl) _ (by rfl) (a9d w (w.heap.size+1) (a9,bg) _ af.out.rd) ?_;rintro e w4 ⟨rfl,J,G⟩;refine⟨_,rfl,?_⟩;rw[HK.out.2.1]at J⊢;have K:=af.out.read J G;have am:=af.out.big;have B:=Bp au.out G (λg hg _ e=>by omega);clear am;obtain⟨dl,bu,a6,aq,ay,aw⟩:=K.open;have O:=Lib.hid K;have N:=Lib.hid B;clear K B J G)
         |(refine qB (by rfl) 27 _ _ Tryz.func27 (by kernel_rfl) (by kernel_rfl) (by rfl) _ (by rfl) (Gw w (w.heap.size+1) (bd,ba) _ 2147483647 (by omega) O.out.rd) ?_;rintro e w5 ⟨rfl,J,G⟩;refine⟨_,rfl,?_⟩;rw[HK.out.2.2]at J⊢;have K:=O.out.read J G;have am:=O.out.big;have B:=Bp N.out G (λg hg _ e=>by omega);clear am;obtain⟨d0,db,cp,cw,cm,b0⟩:=K.open;have ae:=Lib.hid K;have V:=Lib.hid B;clear K B J G)
         |((refine step_append_lies _ (by rfl) _ _ _ (by rfl) wc.heap.size 47 i2 (.agg #[.int .u8 0,.int .i64 0,.int .i64 0]) 3 24 (by kernel_rfl) hi2 cK dk cx rfl (by decide) (.slice a1 z.length c1) _ (z.flatMap Qn) (by rfl) (V.out.alloc _) ⟨w5.heap.size,0,none⟩ 1 1 [.int .u8 o1,.int .i64 o2,.int .i64 o3] (by rfl) rfl (World.news_of_block (cs:= #[.int .u8 o1,.int .i64 o2,.int .i64 o3]) (t:=47) (fr:=(0,0)) (heap_alloc_new w5 _)) (by simp[Value.oneCell']) (by decide) (by unfold maxLen;omega) (by omega) (by have:=ae.out.mod.size;simp;omega) (w5.heap.size+1) (by simp) ?_;intro g ab wq C F bv bo;obtain⟨az,bc,be⟩:=ae.out.grown V.out (uQ F))))
       all_goals
        have a0:Hid (Y6 m (ag,aa) (z++[(o1,o2,(o3:Int))])=Y6 n3 r2 []):=Lib.hid (by rw[<-HL.out];simp[Y6,HI.out]);obtain⟨hA,hB⟩:=ae.out.add V.out (uQ F) C 0 #[.slice (some ⟨g,0,none⟩) (z.length+1) ab,.slice a2 lf.length c2,.slice a3 ls.length c3] (by rfl);have HA:=Lib.hid hA;have HB:=Lib.hid hB;clear hA hB C F bv bo ah ad an az bc be ci aq cw cv ay cm ca aw b0 cn a6 cp
        go_wp2_with fail
        go_roundw
        case rel=>exact⟨m,z++[(o1,o2,(o3:Int))],(ag,aa),some ⟨g,0,none⟩,ab,by go_num,by simp;omega,a0.out,by simpa using HA.out,by simpa[Qn]using HB.out⟩
        case measure=>(simp[intOf];try omega)
      ·have ak:((U:Int)==0)=false:=(by rw[beq_eq_false_iff_ne];omega);have H:Hid ((z,(U,Q))=Y6 n3 r2 []):=Lib.hid (by rw[<-HL.out,Y6,if_pos Y]);have HE:=Lib.hid Y;clear Y
       go_wp2_with fail
       go_meet
       exact⟨z,(U,Q),a1,c1,H.out,I.out,P.out⟩
   case rest=>
    clear I;obtain⟨li,r3,a1,c1,bs,L,C⟩:=hcut;obtain⟨U,Q⟩:=r3;have cf:=Lib.hid (a2g br.out cd.out bp.out ch.out (by simpa using bs));have wI:∀x∈li,Ip x:=(by have:=a24 n3 r2 [] (by simp);rw[<-bs]at this;exact this);have wE:∀x∈lf,Fr x:=(by have:=b1q n2 0 (e2,b2) [] (by omega) (by omega) (by simp);rw[<-ch.out]at this;exact this);have wS:∀x∈ls,x.length<=1048576:=(by have:=a5f n1 (e1,b1) [] (by simp);rw[<-cd.out]at this;exact this);have b5:=Lib.hid C;have b9:=Lib.hid (Bp b7.out L.mod (λg hg _ e=>by omega));have cr:=Lib.hid (Bp ck.out L.mod (λg hg _ e=>by have:=al.out;omega));have bm:=Lib.hid (And.intro wI (And.intro wE wS));have bj:=L.big;have bb:=Lib.hid bj;clear bj;have ce:=JM C (Bp b7.out L.mod (λg hg _ e=>by omega)) (Bp ck.out L.mod (λg hg _ e=>by have:=al.out;omega)) wI wE wS;clear bs wI wE wS C;have cb:=Lib.hid ce;clear ce;have a8:=Lib.hid (a8v cf.out);have I:=Lib.hid L;have ac:=Lib.hid L.res;have ao:=Lib.hid L.code;have df:∀j,wc.cell? ⟨w.heap.size,j,none⟩= #[Value.slice none 0 0,.slice none 0 0,.slice none 0 0][j]? :=J9 L.res;have dg:=Ay L.res;have dc:=F7 L.res;obtain⟨ar,av,ai,ah,ad,an⟩:=L.open;clear L;by_cases Y:U=0
    ·subst Y;clear df dg dc;have ak:(((0:Nat):Int) !=0)=false:=(by decide);by_cases bx:0<Q.length
     ·have H:Hid (Aw b=(([],[],[]),16)):=Lib.hid (by rw[a8.out];simp[bx]);have cg:(0:Int)<Q.length:=by omega
      go_wp2_with (refine wpList_store_row rfl _ _ _ rfl w.heap.size 41 #[.slice none 0 0,.slice none 0 0,.slice none 0 0] #[.slice none 0 0,.slice none 0 0,.slice none 0 0] rfl rfl ac.out (by kernel_rfl) rfl (by simp[Value.oneCell']) ?_)
      refine eE (p:=2) (u:=3) (by rfl) w.heap.size 41 #[.slice none 0 0,.slice none 0 0,.slice none 0 0] (0,0) _ (by rfl) (setRow_heap _ _ _ _ _ _ ac.out) Tryz.underlying41 rfl (by kernel_rfl) (by rfl) (.int .i64 16) (by rfl) ?_;rw[H.out];exact⟨P3 I.out.out (l5 _) _,_,_,_,rfl,EV _,Jb _ _,Jb _ _,Jb _ _⟩
     ·have cg:¬(0:Int)<Q.length:=(by omega);by_cases hm:K6 (li,lf,ls)=true
      ·have H:Hid (Aw b=((li,lf,ls),0)):=Lib.hid (by rw[a8.out];simp[bx,hm]);have HM:=Lib.hid hm;clear hm
       go_wp2_with (first
        |(refine wpList_load_row rfl _ _ rfl (w.heap.size+2) rfl 41 _ (0,0) _ ao.out Tryz.underlying41 rfl (by kernel_rfl) ?_)
        |(go_at_call 24;refine(lJ _ _ _ _ _ cb.out).mono ?_;rintro e w7 ⟨rfl,Z⟩;rw[HM.out];have a7:=Lib.hid (Ev ao.out Z);have R:=Lib.hid (Ev ac.out Z);have X:=Lib.hid Z;clear Z)
        |(refine wpList_load_row rfl _ _ rfl (w.heap.size+2) rfl 41 _ (0,0) _ a7.out Tryz.underlying41 rfl (by kernel_rfl) ?_)
        |(refine wpList_store_row rfl _ _ _ rfl w.heap.size 41 #[.slice none 0 0,.slice none 0 0,.slice none 0 0] _ rfl rfl R.out (by kernel_rfl) rfl (by simp[Value.oneCell']) ?_))
       refine eE (p:=2) (u:=3) (by rfl) w.heap.size 41 _ (0,0) _ (by rfl) (setRow_heap _ _ _ _ _ _ R.out) Tryz.underlying41 rfl (by kernel_rfl) (by rfl) (.int .i64 0) (by rfl) ?_;rw[H.out];have cI:=I.out.out.trans (X.out.mono I.out.out.size);have bz:=(Mod.refl (λk=>k=w.heap.size) w7).setRow w.heap.size #[.slice a1 li.length c1,.slice a2 lf.length c2,.slice a3 ls.length c3] (.inr rfl);refine⟨P3 cI (l5 _) _,_,_,_,rfl,JM (Bp (Kj b5.out X.out) bz (λg hg _ e=>?_)) (Bp (Kj b9.out X.out) bz (λg hg _ e=>?_)) (Bp (Kj cr.out X.out) bz (λg hg _ e=>?_)) bm.out.1 bm.out.2.1 bm.out.2.2,cW (Kj b5.out X.out) ?_ (Nat.le_of_eq (setRow_size _ _ _).symm),cW (Kj b9.out X.out) ?_ (Nat.le_of_eq (setRow_size _ _ _).symm),cW (Kj cr.out X.out) ?_ (Nat.le_of_eq (setRow_size _ _ _).symm)⟩
       ·have:=bb.out;omega
       ·have:=al.out;omega
       ·have:=al.out;omega
       ·have:=bb.out;omega
       ·have:=bb.out;have:=al.out;omega
       ·have:=bb.out;have:=al.out;omega
      ·have H:Hid (Aw b=(([],[],[]),2)):=Lib.hid (by rw[a8.out];simp[bx,hm]);have HM:=Lib.hid (show K6 (li,lf,ls)=false by simpa using hm);clear hm
       go_wp2_with (first
        |(refine wpList_load_row rfl _ _ rfl (w.heap.size+2) rfl 41 _ (0,0) _ ao.out Tryz.underlying41 rfl (by kernel_rfl) ?_)
        |(go_at_call 24;refine(lJ _ _ _ _ _ cb.out).mono ?_;rintro e w7 ⟨rfl,Z⟩;rw[HM.out];have a7:=Lib.hid (Ev ao.out Z);have R:=Lib.hid (Ev ac.out Z);have X:=Lib.hid Z;clear Z)
        |(refine wpList_store_row rfl _ _ _ rfl w.heap.size 41 #[.slice none 0 0,.slice none 0 0,.slice none 0 0] #[.slice none 0 0,.slice none 0 0,.slice none 0 0] rfl rfl R.out (by kernel_rfl) rfl (by simp[Value.oneCell']) ?_))
       refine eE (p:=2) (u:=3) (by rfl) w.heap.size 41 #[.slice none 0 0,.slice none 0 0,.slice none 0 0] (0,0) _ (by rfl) (setRow_heap _ _ _ _ _ _ R.out) Tryz.underlying41 rfl (by kernel_rfl) (by rfl) (.int .i64 2) (by rfl) ?_;rw[H.out];exact⟨P3 (I.out.out.trans (X.out.mono I.out.out.size)) (l5 _) _,_,_,_,rfl,EV _,Jb _ _,Jb _ _,Jb _ _⟩
    ·have H:Hid (Aw b=(([],[],[]),U)):=Lib.hid (by rw[a8.out];simp[Y]);have ak:((U:Int) !=0)=true:=(by rw[bne_iff_ne];omega);have HE:=Lib.hid Y;clear Y
     go_wp2_with fail
     go_region
     all_goals
      go_wp2_with fail
      refine eE (p:=2) (u:=3) (by rfl) w.heap.size 41 #[.slice none 0 0,.slice none 0 0,.slice none 0 0] (0,0) _ (by rfl) (Hd (a1t (show Has wc w.heap.size #[.slice none 0 0,.slice none 0 0,.slice none 0 0] _ from ac.out) _ _ _)) Tryz.underlying41 rfl (by kernel_rfl) (by rfl) (.int .i64 U) (by rfl) ?_;rw[H.out];exact⟨((((I.out.out.setCell (l5 _) _).setCell (l5 _) _).setCell (l5 _) _)).drew,_,_,_,rfl,EV _,Jb _ _,Jb _ _,Jb _ _⟩
end
end Go.Proofs.YtihbbcealnnpiaaGreatDoor
