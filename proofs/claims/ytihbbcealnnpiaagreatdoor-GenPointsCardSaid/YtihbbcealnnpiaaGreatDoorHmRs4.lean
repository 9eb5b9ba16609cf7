/- Parts of the proof. -/
import Derived.Test.YtihbbcealnnpiaaGreatDoorHmQA
set_option linter.unusedVariables false
set_option linter.unusedSectionVars false
namespace Go.Proofs.YtihbbcealnnpiaaGreatDoor
section
section
structure Kp(s s':d8):Prop where
 fns:s'.P.As=s.P.As
 slots:s'.P.Ss=s.P.Ss
 vars:s'.P.Vars=s.P.Vars
 points:s'.P.Ps=s.P.Ps
 own:s'.Rs=s.Rs
 bad:s.F.Code≠0→s'.F.Code≠0
theorem Kp.refl(s:d8):Kp s s:=⟨rfl,rfl,rfl,rfl,rfl,id⟩
theorem Kp.trans{s s' s'':d8}(h:Kp s s')(h':Kp s' s''):Kp s s'':=⟨h'.fns.trans h.fns,h'.slots.trans h.slots,h'.vars.trans h.vars,h'.points.trans h.points,h'.own.trans h.own,fun hb=>h'.bad (h.bad hb)⟩
theorem Ex.kp{l:List d7}{s s':d8}{lo hi:Nat}(h:Ex l s s' lo hi):Kp s s':=⟨h.fns,h.slots,h.vars,h.points,h.own,h.bad⟩
theorem Kp.fault(s:d8)(f:x8)(hf:f.Code≠0):Kp s ⟨s.P,s.Rs,f⟩:=⟨rfl,rfl,rfl,rfl,rfl,fun _=>hf⟩
section
variable{l:List d7}(hM:J9 l)(hl:l.length≤30000)(htx:∀n∈l,n.Ds.length≤65536)
include hM hl htx
theorem a0h(a:d8)(ha:a.P.No=l)(ts:List Nat)(hts:∀p∈ts,p<l.length)(htl:ts.length≤l.length):∀(n c:Nat) (d:d8) (M:List i8),ts.length-c=n→c≤ts.length→d.P=⟨l,M,[],[],[],[],[],[],[]⟩→M.length=l.length→(∀m∈M,m.Ts=0)→d.Rs.length=c→(100<c→d.F.Code≠0)→∃(d':d8) (M':List i8),Rc d5 a ((i7 ts,()),()) (c:Int) d=Qf d5 a ((i7 ts,()),()) d'∧d'.P=⟨l,M',[],[],[],[],[],[],[]⟩∧M'.length=l.length∧(∀m∈M',m.Ts=0)∧d'.Rs.length=ts.length∧(100<ts.length→d'.F.Code≠0):=by
 intro n
 induction n with
 |zero=>intro c d M hn hc hP hMl hMt hR hb;have:c=ts.length:=(by omega);rw[PV,Xp];simp only[B0];rw[d9 (by omega),f8];exact⟨d,M,rfl,hP,hMl,hMt,by omega,fun h=>hb (by omega)⟩
 |succ n ih=>
  intro c d M hn hc hP hMl hMt hR hb;have hcl:c<ts.length:=(by omega);have hp:=hts _ (A4 hcl);have g:=C6 hcl;have j1:∀d1:d8,d1.P=d.P→d1.Rs=d.Rs→(100≤c→d1.F.Code≠0)→∃(d':d8) (M':List i8),fZ d5 a ((i7 ts,()),()) (c:Int) d1=Qf d5 a ((i7 ts,()),()) d'∧d'.P=⟨l,M',[],[],[],[],[],[],[]⟩∧M'.length=l.length∧(∀m∈M',m.Ts=0)∧d'.Rs.length=ts.length∧(100<ts.length→d'.F.Code≠0):=by
   intro d1 h1 h2 h3;have hm:ts[c]<d1.P.Ms.length:=(by rw[h1,hP];simp only;omega);have hz:d1.Rs.length+ [l[ts[c]].Ds].length≤100000000:=(by rw[h2,A3];omega);rw[a8d,Zk];simp only;rw[g,d6,Bt d1 (by rw[h1,hP];simp only;omega) _ hm,d6,d6,ha,l4 hp,d6];have e:((x5 d1 ts[c] (i8.mk 0 (c:Int) 0),()):d8 × Unit).1.Rs=d1.Rs:=rfl;simp only;rw[show(x5 d1 ts[c] (i8.mk 0 (c:Int) 0)).Rs=d1.Rs from rfl,H8 (by decide) hz,d6,a9l,Yl,y9 (by omega)];refine ih (c+1) _ (M.set ts[c] (i8.mk 0 (c:Int) 0)) (by omega) (by omega) ?_ (by rw[Du];exact hMl) (fun m hm=>?_) ?_ (fun h=>h3 (by omega))
   ·show(x5 d1 ts[c] (i8.mk 0 (c:Int) 0)).P=_;unfold x5;simp only[h1,hP]
   ·rcases List.mem_or_eq_of_mem_set hm with hm|rfl
    ·exact hMt m hm
    ·rfl
   ·show(d1.Rs++_).length=_;rw[h2,o9,A3,hR]
  have j2:∀d1:d8,d1.P=d.P→d1.Rs=d.Rs→(100≤c→d1.F.Code≠0)→∃(d':d8) (M':List i8),cG d5 a ((i7 ts,()),()) (c:Int) d1=Qf d5 a ((i7 ts,()),()) d'∧d'.P=⟨l,M',[],[],[],[],[],[],[]⟩∧M'.length=l.length∧(∀m∈M',m.Ts=0)∧d'.Rs.length=ts.length∧(100<ts.length→d'.F.Code≠0):=by
   intro d1 h1 h2 h3;obtain⟨b,hb1⟩:=gK (l:=l) (ts.take c) (fun p hp=>hts p (List.mem_of_mem_take hp)) (by rw[List.length_take];omega) l[ts[c]].Ds;rw[a6l,mA];simp only[B0];rw[T7 (show C8 (0:Int) (c:Int) (ts.length:Int)from⟨by omega,by omega,by omega⟩),d6,g,d6,ha,l4 hp,d6,Zu,hb1,d6];cases b with
   |false=>exact j1 d1 h1 h2 h3
   |true=>obtain⟨f,f1,f2⟩:=W9 d1 7 (by decide) ts[c] (by rw[h1,hP];exact hp);rw[f9,d6,KI,f1,d6];exact j1 ⟨d1.P,d1.Rs,f⟩ h1 h2 (fun _=>f2)
  rw[PV,Xp];simp only[B0];rw[f6 (by omega),f9];by_cases c100:(c:Int)≥100
  ·obtain⟨f,f1,f2⟩:=W9 d 13 (by decide) ts[c] (by rw[hP];exact hp);rw[f6 c100,f9,g,d6,KI,f1,d6];exact j2 ⟨d.P,d.Rs,f⟩ rfl rfl (fun _=>f2)
  ·rw[d9 c100,f8];exact j2 d rfl rfl (fun h=>absurd h (by omega))
theorem b1F(a:d8)(ha:a.P.No=l)(b:RT3)(ci:Int)(ks:List Nat)(hkl:ks.length≤l.length)(hks:∀p∈ks,kd l p=3)(e0:Int)(nr st:Nat)(hst:st≤l.length):∀(n h c0:Nat) (j:d8) (B:Nat),ks.length-h=n→h≤ks.length→Kc l c0 st (ks.drop h)→RI l nr B j→B+(st-c0)≤80000000000→(∃j',Oz d5 a b ci ((i7 ks,()),()) e0 ci (h:Int) j=some ((j',()),())∧RI l nr (B+(st-c0)) j'∧Kp j j'∧j'.F.Code≠0)∨∃j',Oz d5 a b ci ((i7 ks,()),()) e0 ci (h:Int) j=Xo d5 a b ci ((i7 ks,()),()) e0 ci j'∧RI l nr (B+(st-c0)) j'∧Kp j j'∧j'.P.Hs.length=j.P.Hs.length+n∧j'.P.Rs=j.P.Rs:=by
 intro n
 induction n with
 |zero=>intro h c0 j B hn hh hK hR hB;rw[WV,Vh];simp only[B0];rw[d9 (by omega),f8];exact .inr ⟨j,rfl,hR.more (by omega),Kp.refl _,rfl,rfl⟩
 |succ n ih=>
  intro h c0 j B hn hh hK hR hB;have hhl:h<ks.length:=(by omega);have g:=C6 hhl;rw[J8 hhl]at hK;obtain⟨ek,x,q,hx,hxs,hq1,hq2,hrest⟩:=hK.first
  have hk3:=hks _ (A4 hhl);have hxl:=(l3.1 hx).1;have hp:ks[h]<l.length:=(by rw[ek];exact hxl);have hx3:x.Ks=3:=(by rw[←p9 hx,←ek];exact hk3);have hnd:=hR.nodes;obtain⟨st',kk,t1,t2,t3,t4,t5,t6,t7⟩:=hM.nd c0 x hx;have est:st'=q:=(by omega);subst est;obtain⟨e1,e2⟩:=H2 (t6.k3 (.inl hx3));obtain⟨k0,kk',rfl⟩:∃k kk',kk=k::kk':=by
   cases kk with
   |nil=>simp at e1
   |cons k kk=>exact⟨k,kk,rfl⟩
  have hk1:=S6 (e2 0 (by simp) (by simp));obtain⟨rfl,y,q2,hy,hys,hy1,hy2,_⟩:=t5.first
  rw[H7,p9 hy]at hk1;have j8:∀j1:d8,j1.P=j.P→j1.Rs=j.Rs→(j.F.Code≠0→j1.F.Code≠0)→
    (∃j',Se d5 a b ci ((i7 ks,()),()) e0 (h:Int) ci j1=some ((j',()),())∧RI l nr (B+(st-c0)) j'∧Kp j j'∧j'.F.Code≠0)∨
    ∃j',Se d5 a b ci ((i7 ks,()),()) e0 (h:Int) ci j1=Xo d5 a b ci ((i7 ks,()),()) e0 ci j'∧RI l nr (B+(st-c0)) j'∧Kp j j'∧j'.P.Hs.length=j.P.Hs.length+(n+1)∧j'.P.Rs=j.P.Rs:=by
   intro j1 h1 h2 h3;have hR1:RI l nr B j1:=by have:=hR.fault j1.F (fun c=>S9 fun hc=>h3 hc c);rw[←h1,←h2]at this;exact this
   have hKp1:Kp j j1:=⟨by rw[h1],by rw[h1],by rw[h1],by rw[h1],h2,h3⟩;rw[a7r,qK,R1,d6];by_cases cb:j1.F.Code=0
   ·obtain⟨t,s1,k1,k2,k3,k4,k5⟩:=a3b hM hl htx (c0+1) y q2 hy hys (by omega) j1 nr B hR1 (by omega);have hbig:=k2.big;unfold tot at hbig;have hmk:=k2.marks;rw[f6 cb,A2,f8];simp only;rw[g,d6,y9 (by omega),ek,k1,d6,d6,NZ];simp only;rw[Bt s1 (by omega) c0 (by omega),d6,d6,ha,l4 hxl,d6];have hz:s1.P.Hs.length+ [(Q3.mk l[c0].Ds t)].length≤100000000000:=(by rw[A3];omega);have tT:0≤t∧t<s1.P.To.length:=by
     have:=k2.ty.len;rcases k4 with rfl|k4
     ·omega
     ·have:=k4.1;have:=k4.2.1;omega
    have hR2:=k2.mark c0 (i8.mk t 0 0) tT.1 tT.2;simp only;rw[show(x5 s1 c0 (i8.mk t 0 0)).P.Hs=s1.P.Hs from rfl,V3 (by decide) hz,d6,b3o,gM,y9 (by omega)];simp only;have hyk:y.Ks≠14:=(by omega);generalize hs2:(⟨⟨(x5 s1 c0 (i8.mk t 0 0)).P.No,(x5 s1 c0 (i8.mk t 0 0)).P.Ms,(x5 s1 c0 (i8.mk t 0 0)).P.To,(x5 s1 c0 (i8.mk t 0 0)).P.Rs,s1.P.Hs++[(Q3.mk l[c0].Ds t)],(x5 s1 c0 (i8.mk t 0 0)).P.As,(x5 s1 c0 (i8.mk t 0 0)).P.Ss,(x5 s1 c0 (i8.mk t 0 0)).P.Vars,(x5 s1 c0 (i8.mk t 0 0)).P.Ps⟩,(x5 s1 c0 (i8.mk t 0 0)).Rs,(x5 s1 c0 (i8.mk t 0 0)).F⟩:d8)=s2;have hF:s2.F=s1.F:=(by rw[←hs2];rfl);have hfl:s2.P.Hs=s1.P.Hs++[(Q3.mk l[c0].Ds t)]:=(by rw[←hs2]);have hKp2:Kp s1 s2:=(by rw[←hs2];exact⟨rfl,rfl,rfl,rfl,rfl,id⟩);have hrc:s2.P.Rs=j.P.Rs:=(by rw[←hs2];exact k3.recs.trans (by rw[h1]));have hlenf:s2.P.Hs.length=j.P.Hs.length+1:=(by rw[hfl,o9,A3,k3.fields,h1]);have hR3:RI l nr (B+(q2-(c0+1))+1) s2:=by
     rw[←hs2];refine⟨hR2.nodes,hR2.marks,?_,hR2.ty,hR2.mt,fun cg f hf=>?_,fun r hr=>?_,hR2.fn,hR2.sl⟩
     ·have:=hR2.big;unfold tot at this⊢;simp only[o9,A3];have e:(x5 s1 c0 (i8.mk t 0 0)).P.Hs=s1.P.Hs:=rfl;rw[e]at this;omega
     ·rcases A7.1 hf with hf|hf
      ·exact hR2.fl cg f hf
      ·rw[O0.1 hf];rcases k5 cg with⟨h,_⟩|⟨_,h⟩
       ·exact absurd h hyk
       ·exact h
     ·have:=hR2.rc r hr;have e:(x5 s1 c0 (i8.mk t 0 0)).P.Hs=s1.P.Hs:=rfl;rw[e]at this;exact⟨this.1,this.2.1,by simp only[o9,A3];omega⟩
    rcases ih (h+1) st' s2 (B+(q2-(c0+1))+1) (by omega) (by omega) hrest hR3 (by omega)with⟨j',m1,m2,m3,m4⟩|⟨j',m1,m2,m3,m4,m5⟩
    ·exact .inl ⟨j',m1,m2.more (by omega),(hKp1.trans k3.kp).trans (hKp2.trans m3),m4⟩
    ·exact .inr ⟨j',m1,m2.more (by omega),(hKp1.trans k3.kp).trans (hKp2.trans m3),by omega,m5.trans hrc⟩
   ·rw[d9 cb];exact .inl ⟨j1,rfl,hR1.more (by omega),hKp1,cb⟩
  have j9:∀j1:d8,j1.P=j.P→j1.Rs=j.Rs→(j.F.Code≠0→j1.F.Code≠0)→
    (∃j',Xq d5 a b ci ((i7 ks,()),()) e0 (h:Int) ci j1=some ((j',()),())∧RI l nr (B+(st-c0)) j'∧Kp j j'∧j'.F.Code≠0)∨
    ∃j',Xq d5 a b ci ((i7 ks,()),()) e0 (h:Int) ci j1=Xo d5 a b ci ((i7 ks,()),()) e0 ci j'∧RI l nr (B+(st-c0)) j'∧Kp j j'∧j'.P.Hs.length=j.P.Hs.length+(n+1)∧j'.P.Rs=j.P.Rs:=by
   intro j1 h1 h2 h3;have hall:∀p∈ks.take h,p<l.length:=by
    intro p hp';have:=hks p (List.mem_of_mem_take hp');unfold kd at this;split at this
    ·rename_i y' hy';exact(l3.1 hy').1
    ·omega
   obtain⟨b',hb1⟩:=gK (l:=l) (ks.take h) hall (by rw[List.length_take];omega) l[ks[h]].Ds;rw[a2V,pY];simp only[B0];rw[T7 (show C8 (0:Int) (h:Int) (ks.length:Int)from⟨by omega,by omega,by omega⟩),d6,g,d6,ha,l4 hp,d6,Zu,hb1,d6];cases b' with
   |false=>exact j8 j1 h1 h2 h3
   |true=>obtain⟨f,f1,f2⟩:=W9 j1 7 (by decide) ks[h] (by rw[h1,hnd];exact hp);rw[f9,d6,AT,f1,d6];exact j8 ⟨j1.P,j1.Rs,f⟩ h1 h2 (fun _=>f2)
  rw[WV,Vh];simp only[B0];rw[f6 (by omega),f9];by_cases c100:(h:Int)≥100
  ·obtain⟨f,f1,f2⟩:=W9 j 13 (by decide) ks[h] (by rw[hnd];exact hp);rw[f6 c100,f9,g,d6,AT,f1,d6];exact j9 ⟨j.P,j.Rs,f⟩ rfl rfl (fun _=>f2)
  ·rw[d9 c100,f8];exact j9 j rfl rfl id
end
end
section
theorem a0i{k:Int}(h:E2 k=102):k=3:=by
 unfold E2 sk2 sk1 sk0 at h
 repeat' split at h
 all_goals omega
theorem b1X{k:Int}(h:E2 k=112):k=5:=by
 unfold E2 sk2 sk1 sk0 at h
 repeat' split at h
 all_goals omega
theorem Pl{k:Int}(h:E2 k=98):k=6:=by
 unfold E2 sk2 sk1 sk0 at h
 repeat' split at h
 all_goals omega
theorem ZS{k:Int}(h:E2 k=48):k=14:=by
 unfold E2 sk2 sk1 sk0 at h
 repeat' split at h
 all_goals omega
theorem I0{k:Int}(h:E2 k=101):21≤k∧k≤32:=by
 unfold E2 sk2 sk1 sk0 at h
 repeat' split at h
 all_goals omega
theorem bZ{k:Int}(h:E2 k=115):7≤k∧k≤13:=by
 unfold E2 sk2 sk1 sk0 at h
 repeat' split at h
 all_goals omega
theorem Nb{l:List d7}{ks:List Nat}{c:Int}(h:∀s∈E5 l ks,s=c):∀p∈ks,E2 (kd l p)=c:=fun p hp=>h _ (List.mem_map.2 ⟨p,hp,rfl⟩)
section
variable{l:List d7}(hM:J9 l)(hl:l.length≤30000)(htx:∀n∈l,n.Ds.length≤65536)
include hM hl htx
theorem a4z(a:d8)(ha:a.P.No=l)(ts:List Nat)(hts:∀p∈ts,∃x,l[p]? =some x∧x.Ks=2)(htl:ts.length≤l.length)(nr:Nat):∀(n c:Nat) (d:d8) (B:Nat),ts.length-c=n→c≤ts.length→RI l nr B d→d.P.Rs.length=c→B+(l.length+1)*n≤80000000000→∃d',sB d5 a ((i7 ts,()),()) (c:Int) d=some ((d',()),())∧RI l nr (B+(l.length+1)*n) d'∧Kp d d'∧(d'.F.Code=0→d'.P.Rs.length=ts.length):=by
 intro n
 induction n with
 |zero=>intro c d B hn hc hR hrc hB;rw[MP,Wr];simp only[B0];rw[d9 (by omega),f8,a1k,aC];exact⟨d,rfl,hR.more (by omega),Kp.refl _,fun _=>by omega⟩
 |succ n ih=>
  intro c d B hn hc hR hrc hB;have hcl:c<ts.length:=(by omega);have g:=C6 hcl;obtain⟨x,hx,hk⟩:=hts _ (A4 hcl);have hxl:=(l3.1 hx).1;obtain⟨st,ks,t1,t2,t3,t4,t5,t6,t7⟩:=hM.nd _ x hx;have hks3:∀p∈ks,kd l p=3:=fun p hp=>a0i (Nb (t6.k2 hk) p hp);have hkl:=t5.le;have hBn:B+(l.length+1)*n+(l.length+1)≤80000000000:=(by rw[Nat.mul_succ]at hB;omega);rw[MP,Wr];simp only[B0];rw[f6 (by omega),f9,g,d6,ha,T8 (by omega) hx t1 t3 t5,d6];have hS:=b1F hM hl htx a ha ((i7 ts,()),()) (c:Int) ks (by omega) hks3 (d.P.Hs.length:Int) nr st t3 _ 0 (ts[c]+1) d B rfl (C9 _) (by rw[T4];exact t5) hR (by omega);rcases hS with⟨j',m1,m2,m3,m4⟩|⟨j',m1,m2,m3,m4,m5⟩
  ·exact⟨j',m1,m2.more (by rw[Nat.mul_succ];omega),m3,fun h=>absurd h m4⟩
  ·have hbig:=m2.big;unfold tot at hbig;have hz:j'.P.Rs.length+ [(M9.mk l[ts[c]].Ds (d.P.Hs.length:Int) ((i7 ks).length:Int))].length≤100000000000:=(by rw[A3];omega);rw[show Oz d5 a ((i7 ts,()),()) (c:Int) ((ks.map (fun(k:Nat)=>(k:Int)),()),()) (d.P.Hs.length:Int) (c:Int) 0 d=_ from m1,b1U,lK];simp only;rw[g,d6,ha,l4 hxl,d6,V3 (by decide) hz,d6,b0b,jL,y9 (by omega)];generalize hs2:(⟨⟨j'.P.No,j'.P.Ms,j'.P.To,j'.P.Rs++[(M9.mk l[ts[c]].Ds (d.P.Hs.length:Int) ((i7 ks).length:Int))],j'.P.Hs,j'.P.As,j'.P.Ss,j'.P.Vars,j'.P.Ps⟩,j'.Rs,j'.F⟩:d8)=s2;have hR2:RI l nr (B+(st-(ts[c]+1))+1) s2:=by
    rw[←hs2];refine⟨m2.nodes,m2.marks,?_,m2.ty,m2.mt,m2.fl,fun r hr=>?_,m2.fn,m2.sl⟩
    ·have:=m2.big;unfold tot at this⊢;simp only[o9,A3];omega
    ·rcases A7.1 hr with hr|hr
     ·exact m2.rc r hr
     ·rw[O0.1 hr,B0];simp only;omega
   have hK2:Kp j' s2:=(by rw[←hs2];exact⟨rfl,rfl,rfl,rfl,rfl,id⟩);obtain⟨d',r1,r2,r3,r4⟩:=ih (c+1) s2 _ (by omega) (by omega) hR2 (by rw[←hs2];simp only[o9,A3];rw[m5];omega) (by omega);exact⟨d',r1,r2.more (by rw[Nat.mul_succ];omega),(m3.trans hK2).trans r3,r4⟩
structure SG(l:List d7)(nr:Nat)(s:d8):Prop where
 ri:RI l nr (20*(l.length+10)*(l.length+10)) s
 fns:s.P.As=[]
 slots:s.P.Ss=[]
 vars:s.P.Vars=[]
 points:s.P.Ps=[]
 recs:s.F.Code=0→s.P.Rs.length=nr
theorem b3q(M:List i8)(hMl:M.length=l.length)(hMt:∀m∈M,m.Ts=0):∃s' nr,AB d5 ⟨⟨l,M,[],[],[],[],[],[],[]⟩,[],⟨0,0,0⟩⟩=some ((s',()),())∧SG l nr s'∧nr≤100:=by
 obtain⟨ts,h1,h2,h3,_⟩:=VY hM hl 2;have hts:∀p∈ts,p<l.length:=fun p hp=>by obtain⟨x,hx,_⟩:=h3 p hp;exact(l3.1 hx).1
 obtain⟨d',M',g1,g2,g3,g4,g5,g6⟩:=a0h hM hl htx ⟨⟨l,M,[],[],[],[],[],[],[]⟩,[],⟨0,0,0⟩⟩ rfl ts hts h2 _ 0 ⟨⟨l,M,[],[],[],[],[],[],[]⟩,[],⟨0,0,0⟩⟩ M rfl (C9 _) rfl hMl hMt rfl (fun h=>absurd h (by omega));obtain⟨T,b1,b2,b3⟩:=a6w ts.length (by omega);rw[a5k,kL];simp only;rw[h1,d6,show Rc d5 _ ((i7 ts,()),()) 0 _=_ from g1,b27,iA];simp only[B0];rw[b1,d6,g2];have hR:RI l (min ts.length 100) (106+ts.length) ⟨⟨l,M',T,[],[],[],[],[],[]⟩,d'.Rs,d'.F⟩:=by
  refine⟨rfl,g3,?_,b2,fun m hm=>?_,fun _ f hf=>(nomatch hf),fun r hr=>(nomatch hr),fun f hf=>(nomatch hf),fun _ t ht=>(nomatch ht)⟩
  ·unfold tot;simp only[L6];omega
  ·have:=g4 m hm;simp only;omega
 have hsq:(l.length+1)*ts.length≤(l.length+1)*l.length:=Nat.mul_le_mul_left _ h2;have hsq2:(l.length+1)*l.length≤30001*30000:=Nat.mul_le_mul (by omega) hl;obtain⟨s',r1,r2,r3,r4⟩:=a4z hM hl htx ⟨⟨l,M,[],[],[],[],[],[],[]⟩,[],⟨0,0,0⟩⟩ rfl ts h3 h2 (min ts.length 100) _ 0 ⟨⟨l,M',T,[],[],[],[],[],[]⟩,d'.Rs,d'.F⟩ _ rfl (C9 _) hR rfl (by simp only[Nat.sub_zero];omega);refine⟨s',min ts.length 100,r1,⟨r2.more ?_,r3.fns,r3.slots,r3.vars,r3.points,fun hg=>?_⟩,by omega⟩
 ·have e:20*(l.length+10)*(l.length+10)=20*((l.length+10)*(l.length+10)):=Nat.mul_assoc _ _ _;have e2:(l.length+10)*(l.length+10)=(l.length+1)*l.length+(19*l.length+100):=by have:(l.length+10)=(l.length+1)+9:=(by omega);rw[Nat.add_mul,Nat.mul_add];have:10*(l.length+10)=10*l.length+100:=(by omega);rw[this,Nat.add_mul,Nat.one_mul];omega
  simp only[Nat.sub_zero];rw[e,e2];omega
 ·have:=r4 hg;by_cases c:100<ts.length
  ·exact absurd hg (r3.bad (g6 c))
  ·omega
end
end
section
theorem Kc.det{l:List d7}{i j:Nat}{a:List Nat}(h:Kc l i j a):∀{b:List Nat},Kc l i j b→a=b:=by
 induction h with
 |nil i=>
  intro b hb;cases b with
  |nil=>rfl
  |cons k b=>
   obtain⟨_,x,q,_,_,h1,h2,_⟩:=hb.first
   omega
 |cons i k j x ks hx hs hk kids rest ih=>
  intro b hb;have hkj:=rest.le;cases b with
  |nil=>cases hb;omega
  |cons k' b=>
   obtain⟨rfl,y,q,hy,hys,h1,h2,hr⟩:=hb.first
   rw[hx]at hy;cases hy;have:q=k:=(by omega);subst this;rw[ih hr]
def G9(s:d8)(p:Nat):Prop:=∃m,s.P.Ms[p]? =some m∧C7 s.P.To m.Ts
def PmF(l:List d7)(s:d8)(f:t8):Prop:=∀(k st:Nat) (x:d7) (ks:List Nat),f.Gs=(k:Int)→l[k]? =some x→x.Cs=(st:Int)-(k+1)→Kc l (k+1) st ks→∀p∈ks,kd l p=5→G9 s p
theorem G9.ex{l:List d7}{s s':d8}{lo hi p:Nat}(h:G9 s p)(hp:kd l p=5)(e:Ex l s s' lo hi):G9 s' p:=by obtain⟨m,h1,h2⟩:=h;exact⟨m,by rw[e.par p hp];exact h1,h2.ext e.types⟩
theorem G9.mark{s:d8}{p:Nat}(h:G9 s p)(i:Nat)(m:i8)(hm:i=p→C7 s.P.To m.Ts):G9 (x5 s i m) p:=by
 obtain⟨m0,h1,h2⟩:=h;by_cases e:i=p
 ·subst e;have hl:=(l3.1 h1).1;exact⟨m,by unfold x5;simp only;rw[P3 hl],hm rfl⟩
 ·exact⟨m0,by unfold x5;simp only;rw[Y0 e];exact h1,h2⟩
theorem G9.self{s:d8}{p:Nat}(hp:p<s.P.Ms.length)(m:i8)(hm:C7 s.P.To m.Ts):G9 (x5 s p m) p:=
 ⟨m,by unfold x5;simp only;rw[P3 hp],hm⟩
structure Kh(s s':d8):Prop where
 slots:s'.P.Ss=s.P.Ss
 vars:s'.P.Vars=s.P.Vars
 points:s'.P.Ps=s.P.Ps
 recs:s'.P.Rs=s.P.Rs
 own:s'.Rs=s.Rs
 bad:s.F.Code≠0→s'.F.Code≠0
theorem Kh.refl(s:d8):Kh s s:=⟨rfl,rfl,rfl,rfl,rfl,id⟩
theorem Kh.trans{s s' s'':d8}(h:Kh s s')(h':Kh s' s''):Kh s s'':=⟨h'.slots.trans h.slots,h'.vars.trans h.vars,h'.points.trans h.points,h'.recs.trans h.recs,h'.own.trans h.own,fun hb=>h'.bad (h.bad hb)⟩
theorem Ex.kh{l:List d7}{s s':d8}{lo hi:Nat}(h:Ex l s s' lo hi):Kh s s':=⟨h.slots,h.vars,h.points,h.recs,h.own,h.bad⟩
theorem Kh.mark(s:d8)(i:Nat)(m:i8):Kh s (x5 s i m):=⟨rfl,rfl,rfl,rfl,rfl,id⟩
theorem Ju{l:List d7}{x:d7}{k:Nat}{ks:List Nat}(h:Fam x.Ks x.Ns k (E5 l ks) (fkd l ks))(hk:x.Ks=4):∃n:Nat,ks.length=n+2∧x.Ns=(n:Int)∧(∀(i:Nat) (h1:i<ks.length),i<n→kd l ks[i]=5)∧(∀h1:n<ks.length,14≤kd l ks[n]∧kd l ks[n]≤20)∧∀h1:n+1<ks.length,kd l ks[n+1]=6:=by
 obtain⟨P,t,e1,e2,e3,e4⟩:=h.k4 hk;obtain⟨f1,f2⟩:=H2 e1;rw[o9]at f1;refine⟨P.length,f1,e2,fun i h1 h2=>?_,fun h1=>?_,fun h1=>?_⟩
 ·have:=f2 i h1 (by rw[o9];omega);rw[List.getElem_append_left h2]at this;exact b1X (this.trans (e3 _ (A4 h2)))
 ·have:=f2 P.length h1 (by rw[o9];simp);rw[List.getElem_append_right (i4 _)]at this;simp only[Xz,H7]at this;rcases e4 with rfl|rfl
  ·have:=S6 this;omega
  ·have:=ZS this;omega
 ·have:=f2 (P.length+1) h1 (by rw[o9];simp);rw[List.getElem_append_right (by omega)]at this;have e:P.length+1-P.length=1:=(by omega);simp only[e,Z6,H7]at this;exact Pl this
section
variable{l:List d7}(hM:J9 l)(hl:l.length≤30000)(htx:∀n∈l,n.Ds.length≤65536)
include hM hl htx
theorem a49(a:d8)(ha:a.P.No=l)(b:RT3)(ci:Int)(at':Int)(ks:List Nat)(np:Nat)(hkl:ks.length=np+2)(hkl2:ks.length≤l.length)(hks:∀(i:Nat) (h1:i<ks.length),i<np→kd l ks[i]=5)(nr st:Nat)(hst:st≤l.length):∀(n h c0:Nat) (j:d8) (B:Nat),np-h=n→h≤np→Kc l c0 st (ks.drop h)→RI l nr B j→(j.F.Code=0→∀f∈j.P.As,PmF l j f)→(j.F.Code=0→∀p∈ks.take h,G9 j p)→(j.F.Code=0→h≤20)→B+(st-c0)≤80000000000→(∃j',Lv d5 a b ci at' ((i7 ks,()),()) (h:Int) ci j=some ((j',()),())∧RI l nr (B+(st-c0)) j'∧Kh j j'∧j'.P.As=j.P.As∧j'.F.Code≠0)∨∃j' c1 B',Lv d5 a b ci at' ((i7 ks,()),()) (h:Int) ci j=Jf d5 a b ci at' ((i7 ks,()),()) ci j'∧Kc l c1 st (ks.drop np)∧c0≤c1∧B'=B+(c1-c0)∧RI l nr B' j'∧Kh j j'∧j'.P.As=j.P.As∧(j'.F.Code=0→∀f∈j'.P.As,PmF l j' f)∧(j'.F.Code=0→∀p∈ks.take np,G9 j' p)∧(j'.F.Code=0→np≤20):=by
 intro n;have ew:w64 (((i7 ks).length:Int)-2)=(np:Int):=by rw[B0,wrap64 (by omega) (by omega)];omega
 induction n with
 |zero=>intro h c0 j B hn hh hK hR hP hG h20 hB;have:h=np:=(by omega);subst this;rw[HT,Xn];simp only;rw[ew,d9 (by omega),f8];exact .inr ⟨j,c0,B,rfl,hK,i4 _,by omega,hR,Kh.refl _,rfl,hP,hG,h20⟩
 |succ n ih=>
  intro h c0 j B hn hh hK hR hP hG h20 hB;have hhl:h<ks.length:=(by omega);have g:=C6 hhl;rw[J8 hhl]at hK;obtain⟨ek,x,q,hx,hxs,hq1,hq2,hrest⟩:=hK.first
  have hk5:=hks h hhl (by omega);have hxl:=(l3.1 hx).1;have hp:ks[h]<l.length:=(by rw[ek];exact hxl);have hx5:x.Ks=5:=(by rw[←p9 hx,←ek];exact hk5);have hnd:=hR.nodes;obtain⟨st',kk,t1,t2,t3,t4,t5,t6,t7⟩:=hM.nd c0 x hx;have est:st'=q:=(by omega);subst est;obtain⟨e1,e2⟩:=H2 (t6.k3 (.inr (.inl hx5)));obtain⟨k0,kk',rfl⟩:∃k kk',kk=k::kk':=by
   cases kk with
   |nil=>simp at e1
   |cons k kk=>exact⟨k,kk,rfl⟩
  have hk1:=S6 (e2 0 (by simp) (by simp));obtain⟨rfl,y,q2,hy,hys,hy1,hy2,_⟩:=t5.first
  rw[H7,p9 hy]at hk1;have j4:∀j1:d8,j1.P=j.P→j1.Rs=j.Rs→(j.F.Code≠0→j1.F.Code≠0)→(20≤h→j1.F.Code≠0)→
    (∃j',Ru d5 a b ci at' ((i7 ks,()),()) (h:Int) ci j1=some ((j',()),())∧RI l nr (B+(st-c0)) j'∧Kh j j'∧j'.P.As=j.P.As∧j'.F.Code≠0)∨
    ∃j' c1 B',Ru d5 a b ci at' ((i7 ks,()),()) (h:Int) ci j1=Jf d5 a b ci at' ((i7 ks,()),()) ci j'∧Kc l c1 st (ks.drop np)∧c0≤c1∧B'=B+(c1-c0)∧RI l nr B' j'∧Kh j j'∧j'.P.As=j.P.As∧(j'.F.Code=0→∀f∈j'.P.As,PmF l j' f)∧(j'.F.Code=0→∀p∈ks.take np,G9 j' p)∧(j'.F.Code=0→np≤20):=by
   intro j1 h1 h2 h3 h4;have hg1:j1.F.Code=0→j.F.Code=0:=fun c=>S9 fun hc=>h3 hc c;have hR1:RI l nr B j1:=by have:=hR.fault j1.F hg1;rw[←h1,←h2]at this;exact this
   have hK1:Kh j j1:=⟨by rw[h1],by rw[h1],by rw[h1],by rw[h1],h2,h3⟩;have hgp:∀p,G9 j p→G9 j1 p:=fun p h=>by unfold G9 at h⊢;rw[h1];exact h
   rw[a7N,oK,R1,d6];by_cases cb:j1.F.Code=0
   ·obtain⟨t,s1,k1,k2,k3,k4,k5⟩:=US hM hl htx (c0+1) y q2 hy hys (by omega) j1 nr B hR1 (by omega);have hmk:=k2.marks;rw[f6 cb,A2,f8];simp only;rw[g,d6,y9 (by omega),ek,k1,d6,d6,DY];simp only;rw[Bt s1 (by omega) c0 (by omega),d6,a7e,mH,y9 (by omega)];simp only;have tT:0≤t∧t<s1.P.To.length:=by
     have:=k2.ty.len;rcases k4 with rfl|k4
     ·omega
     ·have:=k4.1;have:=k4.2.1;omega
    have hR2:=(k2.mark c0 (i8.mk t 0 0) tT.1 tT.2).more (show B+(q2-(c0+1))≤B+(st'-c0) by omega);have hyk:y.Ks≠14:=(by omega);have tI:s1.F.Code=0→C7 s1.P.To t:=fun cg=>by
     rcases k5 cg with⟨h,_⟩|⟨_,h⟩
     ·exact absurd h hyk
     ·exact h
    have hgood:∀p,kd l p=5→s1.F.Code=0→G9 j p→G9 (x5 s1 c0 (i8.mk t 0 0)) p:=fun p hp5 cg hgp0=>((hgp p hgp0).ex hp5 k3).mark c0 _ (fun _=>tI cg);have hbg:s1.F.Code=0→j.F.Code=0:=fun c=>hg1 cb;rcases ih (h+1) st' (x5 s1 c0 (i8.mk t 0 0)) (B+(st'-c0)) (by omega) (by omega) hrest hR2 (fun cg f hf=>by
      have hf':f∈j.P.As:=by have:(x5 s1 c0 (i8.mk t 0 0)).P.As=j.P.As:=k3.fns.trans (by rw[h1]);rw[←this];exact hf
      intro k0 st0 x0 ks0 a1 a2 a3 a4 p hp' hp5;exact hgood p hp5 cg (hP (hbg cg) f hf' k0 st0 x0 ks0 a1 a2 a3 a4 p hp' hp5)) (fun cg p hp'=>by
      rw[List.take_add_one,o5 hhl]at hp';rcases A7.1 hp' with hp'|hp'
      ·have hi:∃i,∃(hi:i<ks.length),i<np∧ks[i]=p:=by obtain⟨i,hi,rfl⟩:=List.getElem_of_mem hp';rw[List.length_take]at hi;exact⟨i,by omega,by omega,by rw[List.getElem_take]⟩
       obtain⟨i,hi1,hi2,rfl⟩:=hi;exact hgood _ (hks i hi1 hi2) cg (hG (hbg cg) _ hp')
      ·have:p=c0:=(by simpa[ek]using hp');subst this;exact G9.self (by omega) _ (tI cg)) (fun _=>Nat.lt_of_not_le fun hge=>h4 hge cb) (by omega)with⟨j',m1,m2,m3,m4,m5⟩|⟨j',c1,B',m1,m2,m3,m4,m5,m6,m7,m8,m9,m10⟩
    ·exact .inl ⟨j',m1,m2.more (by omega),((hK1.trans k3.kh).trans (Kh.mark _ _ _)).trans m3,m4.trans (k3.fns.trans (by rw[h1])),m5⟩
    ·exact .inr ⟨j',c1,B',m1,m2,by omega,by omega,m5,((hK1.trans k3.kh).trans (Kh.mark _ _ _)).trans m6,m7.trans (k3.fns.trans (by rw[h1])),m8,m9,m10⟩
   ·rw[d9 cb];exact .inl ⟨j1,rfl,hR1.more (by omega),hK1,by rw[h1],cb⟩
  have j5:∀j1:d8,j1.P=j.P→j1.Rs=j.Rs→(j.F.Code≠0→j1.F.Code≠0)→(20≤h→j1.F.Code≠0)→
    (∃j',Wa d5 a b ci at' ((i7 ks,()),()) (h:Int) ci j1=some ((j',()),())∧RI l nr (B+(st-c0)) j'∧Kh j j'∧j'.P.As=j.P.As∧j'.F.Code≠0)∨
    ∃j' c1 B',Wa d5 a b ci at' ((i7 ks,()),()) (h:Int) ci j1=Jf d5 a b ci at' ((i7 ks,()),()) ci j'∧Kc l c1 st (ks.drop np)∧c0≤c1∧B'=B+(c1-c0)∧RI l nr B' j'∧Kh j j'∧j'.P.As=j.P.As∧(j'.F.Code=0→∀f∈j'.P.As,PmF l j' f)∧(j'.F.Code=0→∀p∈ks.take np,G9 j' p)∧(j'.F.Code=0→np≤20):=by
   intro j1 h1 h2 h3 h4;have hall:∀p∈ks.take h,p<l.length:=by
    intro p hp';obtain⟨i,hi,rfl⟩:=List.getElem_of_mem hp';rw[List.length_take]at hi;rw[List.getElem_take];have:=hks i (by omega) (by omega);unfold kd at this;split at this
    ·rename_i y' hy';exact(l3.1 hy').1
    ·omega
   obtain⟨b',hb1⟩:=gK (l:=l) (ks.take h) hall (by rw[List.length_take];omega) l[ks[h]].Ds;rw[a0w,rN];simp only[B0];rw[T7 (show C8 (0:Int) (h:Int) (ks.length:Int)from⟨by omega,by omega,by omega⟩),d6,g,d6,ha,l4 hp,d6,Zu,hb1,d6];cases b' with
   |false=>exact j4 j1 h1 h2 h3 h4
   |true=>obtain⟨f,f1,f2⟩:=W9 j1 7 (by decide) ks[h] (by rw[h1,hnd];exact hp);rw[f9,d6,Lu,f1,d6];exact j4 ⟨j1.P,j1.Rs,f⟩ h1 h2 (fun _=>f2) (fun _=>f2)
  rw[HT,Xn];simp only;rw[ew,f6 (by omega),f9];by_cases c20:(h:Int)≥20
  ·obtain⟨f,f1,f2⟩:=W9 j 13 (by decide) ks[h] (by rw[hnd];exact hp);rw[f6 c20,f9,g,d6,Lu,f1,d6];exact j5 ⟨j.P,j.Rs,f⟩ rfl rfl (fun _=>f2) (fun _=>f2)
  ·rw[d9 c20,f8];exact j5 j rfl rfl id (fun h=>absurd h (by omega))
end
end
section
theorem a0m{ts:List Nat}{c:Nat}(h:c<ts.length):i7 (ts.take c)++[((ts[c]:Nat):Int)]=i7 (ts.take (c+1)):=by unfold i7;rw[List.take_add_one,o5 h,D9];rfl
section
variable{l:List d7}(hM:J9 l)(hl:l.length≤30000)(htx:∀n∈l,n.Ds.length≤65536)
include hM hl htx
theorem a0k(a:d8)(ha:a.P.No=l)(b:RT3)(ci:Nat)(q0:Nat)(x:d7)(hx:l[q0]? =some x)(hx4:x.Ks=4)(st:Nat)(hxs:x.Cs=(st:Int)-(q0+1))(hst:st≤l.length)(ks:List Nat)(hks:Kc l (q0+1) st ks)(hf:Fam x.Ks x.Ns q0 (E5 l ks) (fkd l ks))(np:Nat)(hkl:ks.length=np+2)(nr c1:Nat)(j:d8)(B:Nat)(hq1:q0+1≤c1)(hK:Kc l c1 st (ks.drop np))(hR:RI l nr B j)(hP:j.F.Code=0→∀f∈j.P.As,PmF l j f)(hG:j.F.Code=0→∀p∈ks.take np,G9 j p)(h20:j.F.Code=0→np≤20)(hZ:∀f∈j.P.As,f.At=0∧f.Ss=0∧f.Es≤20)(hB:B+(st-c1)+1≤80000000000):(∃j',Jf d5 a b (ci:Int) (q0:Int) ((i7 ks,()),()) (ci:Int) j=some ((j',()),())∧RI l nr (B+(st-c1)+1) j'∧Kh j j'∧(∀f∈j'.P.As,f.At=0∧f.Ss=0∧f.Es≤20)∧j'.F.Code≠0)∨∃j',Jf d5 a b (ci:Int) (q0:Int) ((i7 ks,()),()) (ci:Int) j=Vn d5 a b (w64 ((ci:Int)+1)) j'∧RI l nr (B+(st-c1)+1) j'∧Kh j j'∧(∀f∈j'.P.As,f.At=0∧f.Ss=0∧f.Es≤20)∧(j'.F.Code=0→∀f∈j'.P.As,PmF l j' f)∧j'.P.As.map t8.Gs=j.P.As.map t8.Gs++[(q0:Int)]:=by
 have hkle:=hks.le;have ew:w64 (((i7 ks).length:Int)-2)=(np:Int):=(by rw[B0,wrap64 (by omega) (by omega)];omega);obtain⟨n',n1,n2,n3,n4,n5⟩:=Ju hf hx4;have:n'=np:=(by omega);subst this;have hnl:n'<ks.length:=(by omega);have g:=C6 hnl;rw[J8 hnl]at hK;obtain⟨ek,y,q,hy,hys,hy1,hy2,hrest⟩:=hK.first
 have hyk:=n4 hnl;rw[ek,p9 hy]at hyk;have hql:=(l3.1 hx).1;have hyl:=(l3.1 hy).1;rw[a5h,cC,R1,d6];by_cases cb:j.F.Code=0
 ·obtain⟨t,s1,k1,k2,k3,k4,k5⟩:=US hM hl htx c1 y q hy hys (by omega) j nr B hR (by omega);have hmk:=k2.marks;have hbig:=k2.big;unfold tot at hbig;rw[f6 cb,A2,f8];simp only;rw[ew,g,d6,ek,k1,d6,DY];simp only;rw[Bt s1 (by omega) q0 (by omega),d6,ha,l4 hql,d6];have hz:s1.P.As.length+ [(t8.mk l[q0].Ds (q0:Int) (n':Int) t 0 0 0 0)].length≤100000000000:=(by rw[A3];omega);simp only;rw[show(x5 s1 q0 (i8.mk t (ci:Int) 0)).P.As=s1.P.As from rfl,V3 (by decide) hz,d6,a3J,rV];simp only;have tT:0≤t∧t<s1.P.To.length:=by
   have:=k2.ty.len;rcases k4 with rfl|k4
   ·omega
   ·have:=k4.1;have:=k4.2.1;omega
  have hR2:=k2.mark q0 (i8.mk t (ci:Int) 0) tT.1 tT.2;refine .inr ⟨_,rfl,?_,?_,?_,?_,by simp only[D9,k3.fns];rfl⟩
  ·refine RI.more (B:=B+(q-c1)+1) ⟨hR2.nodes,hR2.marks,?_,hR2.ty,hR2.mt,hR2.fl,hR2.rc,fun f hf'=>?_,hR2.sl⟩ (by omega)
   ·have:=hR2.big;unfold tot at this⊢;simp only[o9,A3];have e:(x5 s1 q0 (i8.mk t (ci:Int) 0)).P.As=s1.P.As:=rfl;rw[e]at this;omega
   ·rcases A7.1 hf' with hf'|hf'
    ·exact hR2.fn f hf'
    ·rw[O0.1 hf'];exact⟨q0,x,rfl,hx,hx4,n2.symm,k4⟩
  ·exact⟨k3.slots,k3.vars,k3.points,k3.recs,k3.own,k3.bad⟩
  ·intro f hf';rcases A7.1 hf' with hf'|hf'
   ·rw[k3.fns]at hf';exact hZ f hf'
   ·rw[O0.1 hf'];exact⟨rfl,rfl,by have:=h20 cb;simp only;omega⟩
  ·intro cg f hf';have mk:∀p,kd l p=5→G9 j p→G9 (x5 s1 q0 (i8.mk t (ci:Int) 0)) p:=fun p hp hg=>(hg.ex hp k3).mark q0 _ (fun e=>by
    subst e;rw[p9 hx]at hp;omega)
   have up:∀p,G9 (x5 s1 q0 (i8.mk t (ci:Int) 0)) p→G9 (⟨⟨(x5 s1 q0 (i8.mk t (ci:Int) 0)).P.No,(x5 s1 q0 (i8.mk t (ci:Int) 0)).P.Ms,(x5 s1 q0 (i8.mk t (ci:Int) 0)).P.To,(x5 s1 q0 (i8.mk t (ci:Int) 0)).P.Rs,(x5 s1 q0 (i8.mk t (ci:Int) 0)).P.Hs,s1.P.As++[(t8.mk l[q0].Ds (q0:Int) (n':Int) t 0 0 0 0)],(x5 s1 q0 (i8.mk t (ci:Int) 0)).P.Ss,(x5 s1 q0 (i8.mk t (ci:Int) 0)).P.Vars,(x5 s1 q0 (i8.mk t (ci:Int) 0)).P.Ps⟩,(x5 s1 q0 (i8.mk t (ci:Int) 0)).Rs,(x5 s1 q0 (i8.mk t (ci:Int) 0)).F⟩:d8) p:=fun p h=>h;rcases A7.1 hf' with hf'|hf'
   ·rw[k3.fns]at hf';intro k0 st0 x0 ks0 a1 a2 a3 a4 p hp' hp5;exact up p (mk p hp5 (hP cb f hf' k0 st0 x0 ks0 a1 a2 a3 a4 p hp' hp5))
   ·rw[O0.1 hf'];intro k0 st0 x0 ks0 a1 a2 a3 a4 p hp' hp5;have ek0:q0=k0:=(by simp only at a1;omega);subst ek0;rw[hx]at a2;cases a2;have est:st0=st:=(by omega);subst est;have:=hks.det a4;subst this;refine up p (mk p hp5 (hG cb p ?_));obtain⟨i,hi,rfl⟩:=List.getElem_of_mem hp';have hin:i<n':=by
     refine Nat.lt_of_not_le fun hge=>?_;by_cases e1:i=n'
     ·subst e1;have:=n4 hi;omega
     ·have e2:i=n'+1:=(by omega);subst e2;have:=n5 hi;omega
    exact List.mem_take_iff_getElem.2 ⟨i,by omega,rfl⟩
 ·rw[d9 cb];exact .inl ⟨j,rfl,hR.more (by omega),Kh.refl _,hZ,cb⟩
set_option maxHeartbeats 2000000 in
theorem b0i(a:d8)(ha:a.P.No=l)(ts:List Nat)(hts:∀p∈ts,∃x,l[p]? =some x∧x.Ks=4)(htl:ts.length≤l.length)(nr:Nat):∀(n c:Nat) (d:d8) (B:Nat),ts.length-c=n→c≤ts.length→RI l nr B d→(d.F.Code=0→∀f∈d.P.As,PmF l d f)→(∀f∈d.P.As,f.At=0∧f.Ss=0∧f.Es≤20)→d.P.As.map t8.Gs=i7 (ts.take c)→(100<c→d.F.Code≠0)→B+(l.length+1)*n≤80000000000→∃d',Vn d5 a ((i7 ts,()),()) (c:Int) d=some ((d',()),())∧RI l nr (B+(l.length+1)*n) d'∧Kh d d'∧(∀f∈d'.P.As,f.At=0∧f.Ss=0∧f.Es≤20)∧(d'.F.Code=0→(∀f∈d'.P.As,PmF l d' f)∧d'.P.As.map t8.Gs=i7 ts∧ts.length≤100):=by
 intro n
 induction n with
 |zero=>intro c d B hn hc hR hP hZ hN h100 hB;rw[NS,Wc];simp only[B0];rw[d9 (by omega),f8,a9E,dJ];exact⟨d,rfl,hR.more (by omega),Kh.refl _,hZ,fun hg=>⟨hP hg,by rw[hN,List.take_of_length_le (by omega)],Nat.le_of_not_lt fun h=>h100 (by omega) hg⟩⟩
 |succ n ih=>
  intro c d B hn hc hR hP hZ hN h100 hB;have hcl:c<ts.length:=(by omega);have g:=C6 hcl;obtain⟨x,hx,hk⟩:=hts _ (A4 hcl);have hxl:=(l3.1 hx).1;have hall:∀p∈ts,p<l.length:=fun p hp=>by obtain⟨x,hx,_⟩:=hts p hp;exact(l3.1 hx).1
  obtain⟨st,ks,t1,t2,t3,t4,t5,t6,t7⟩:=hM.nd _ x hx;have hkl:=t5.le;obtain⟨np,n1,n2,n3,n4,n5⟩:=Ju t6 hk;have hnd:=hR.nodes;have hBn:B+(l.length+1)*n+(l.length+1)≤80000000000:=(by rw[Nat.mul_succ]at hB;omega);have j7:∀d1:d8,d1.P=d.P→d1.Rs=d.Rs→(d.F.Code≠0→d1.F.Code≠0)→(100≤c→d1.F.Code≠0)→
    ∃d',nZ d5 a ((i7 ts,()),()) (c:Int) ((ts[c]:Nat):Int) (c:Int) d1=some ((d',()),())∧RI l nr (B+(l.length+1)*(n+1)) d'∧Kh d d'∧(∀f∈d'.P.As,f.At=0∧f.Ss=0∧f.Es≤20)∧(d'.F.Code=0→(∀f∈d'.P.As,PmF l d' f)∧d'.P.As.map t8.Gs=i7 ts∧ts.length≤100):=by
   intro d1 h1 h2 h3 h4;have hg1:d1.F.Code=0→d.F.Code=0:=fun c=>S9 fun hc=>h3 hc c;have hR1:RI l nr B d1:=by have:=hR.fault d1.F hg1;rw[←h1,←h2]at this;exact this
   have hK1:Kh d d1:=⟨by rw[h1],by rw[h1],by rw[h1],by rw[h1],h2,h3⟩;have hgp:∀p,G9 d p→G9 d1 p:=fun p h=>by unfold G9 at h⊢;rw[h1];exact h
   rw[a6n,bI,ha,T8 (by omega) hx t1 t3 t5,d6];rcases a49 hM hl htx a ha ((i7 ts,()),()) (c:Int) ((ts[c]:Nat):Int) ks np n1 (by omega) n3 nr st t3 _ 0 (ts[c]+1) d1 B rfl (C9 _) (by rw[T4];exact t5) hR1
     (fun cg f hf k0 st0 x0 ks0 a1 a2 a3 a4 p hp' hp5=>hgp p (hP (hg1 cg) f (by rw[←h1];exact hf) k0 st0 x0 ks0 a1 a2 a3 a4 p hp' hp5)) (fun _ p hp=>by rw[List.take_zero]at hp;exact nomatch hp) (fun _=>C9 _) (by omega)with⟨j',m1,m2,m3,m4,m5⟩|⟨j',c1,B',m1,m2,m3,m4,m5,m6,m7,m8,m9,m10⟩
   ·exact⟨j',m1,m2.more (by rw[Nat.mul_succ];omega),hK1.trans m3,fun f hf=>by rw[m4,h1]at hf;exact hZ f hf,fun h=>absurd h m5⟩
   ·have hc1:=m2.le;rw[show Lv d5 a ((i7 ts,()),()) (c:Int) ((ts[c]:Nat):Int) ((ks.map (fun(k:Nat)=>(k:Int)),()),()) 0 (c:Int) d1=_ from m1];rcases a0k hM hl htx a ha ((i7 ts,()),()) c ts[c] x hx hk st t1 t3 ks t5 t6 np n1 nr c1 j' B' m3 m2 m5 m8 m9 m10 (fun f hf=>by rw[m7,h1]at hf;exact hZ f hf) (by omega)with⟨j2,r1,r2,r3,r4,r5⟩|⟨j2,r1,r2,r3,r4,r5,r6⟩
    ·exact⟨j2,r1,r2.more (by rw[Nat.mul_succ];omega),(hK1.trans m6).trans r3,r4,fun h=>absurd h r5⟩
    ·rw[r1,y9 (by omega)];obtain⟨d',z1,z2,z3,z4,z5⟩:=ih (c+1) j2 _ (by omega) (by omega) r2 r5 r4 (by rw[r6,m7,h1,hN,a0m hcl]) (fun h=>r3.bad (m6.bad (h4 (by omega)))) (by omega);exact⟨d',z1,z2.more (by rw[Nat.mul_succ];omega),((hK1.trans m6).trans r3).trans z3,z4,z5⟩
  have j2:∀d1:d8,d1.P=d.P→d1.Rs=d.Rs→(d.F.Code≠0→d1.F.Code≠0)→(100≤c→d1.F.Code≠0)→
    ∃d',pH d5 a ((i7 ts,()),()) (c:Int) ((ts[c]:Nat):Int) (c:Int) d1=some ((d',()),())∧RI l nr (B+(l.length+1)*(n+1)) d'∧Kh d d'∧(∀f∈d'.P.As,f.At=0∧f.Ss=0∧f.Es≤20)∧(d'.F.Code=0→(∀f∈d'.P.As,PmF l d' f)∧d'.P.As.map t8.Gs=i7 ts∧ts.length≤100):=by
   intro d1 h1 h2 h3 h4;obtain⟨f,f1,f2⟩:=W9 d1 7 (by decide) ts[c] (by rw[h1,hnd];exact hxl);rw[a4c,pN,Lu,f1,d6];exact j7 ⟨d1.P,d1.Rs,f⟩ h1 h2 (fun _=>f2) (fun _=>f2)
  have j10:∀d1:d8,d1.P=d.P→d1.Rs=d.Rs→(d.F.Code≠0→d1.F.Code≠0)→(100≤c→d1.F.Code≠0)→
    ∃d',iP d5 a ((i7 ts,()),()) (c:Int) ((ts[c]:Nat):Int) d1=some ((d',()),())∧RI l nr (B+(l.length+1)*(n+1)) d'∧Kh d d'∧(∀f∈d'.P.As,f.At=0∧f.Ss=0∧f.Es≤20)∧(d'.F.Code=0→(∀f∈d'.P.As,PmF l d' f)∧d'.P.As.map t8.Gs=i7 ts∧ts.length≤100):=by
   intro d1 h1 h2 h3 h4;obtain⟨b',hb1⟩:=gK (l:=l) (ts.take c) (fun p hp=>hall p (List.mem_of_mem_take hp)) (by rw[List.length_take];omega) l[ts[c]].Ds;obtain⟨bt,hbt,_⟩:=GL l[ts[c]].Ds;rw[b0g,Zi];simp only[B0];rw[T7 (show C8 (0:Int) (c:Int) (ts.length:Int)from⟨by omega,by omega,by omega⟩),d6,ha,l4 hxl,d6,Zu,hb1,d6];cases b' with
   |true=>exact j2 d1 h1 h2 h3 h4
   |false=>
    rw[f8,d6,hbt,d6];cases decide (bt>0)with
    |true=>exact j2 d1 h1 h2 h3 h4
    |false=>exact j7 d1 h1 h2 h3 h4
  rw[NS,Wc];simp only[B0];rw[f6 (by omega),f9,g,d6];by_cases c100:(c:Int)≥100
  ·obtain⟨f,f1,f2⟩:=W9 d 13 (by decide) ts[c] (by rw[hnd];exact hxl);rw[f6 c100,f9,Lu,f1,d6];exact j10 ⟨d.P,d.Rs,f⟩ rfl rfl (fun _=>f2) (fun _=>f2)
  ·rw[d9 c100,f8];exact j10 d rfl rfl id (fun h=>absurd h (by omega))
theorem b1t{nr:Nat}{s:d8}(h:SG l nr s):∃s',uR d5 s=some ((s',()),())∧RI l nr (40*(l.length+10)*(l.length+10)) s'∧Kh s s'∧(∀f∈s'.P.As,f.At=0∧f.Ss=0∧f.Es≤20)∧(s'.F.Code=0→(∀f∈s'.P.As,PmF l s' f)∧(∃ts:List Nat,s'.P.As.map t8.Gs=i7 ts∧ts.Pairwise (· < ·))∧s'.P.As.length≤100):=by
 obtain⟨ts,h1,h2,h3,hsorted⟩:=VY hM hl 4;have e1:20*(l.length+10)*(l.length+10)=20*((l.length+10)*(l.length+10)):=Nat.mul_assoc _ _ _;have e2:40*(l.length+10)*(l.length+10)=40*((l.length+10)*(l.length+10)):=Nat.mul_assoc _ _ _;have hsq:(l.length+1)*ts.length≤(l.length+10)*(l.length+10):=Nat.mul_le_mul (by omega) (by omega);have hsq2:(l.length+10)*(l.length+10)≤30010*30010:=Nat.mul_le_mul (by omega) (by omega);have hnd:=h.ri.nodes;obtain⟨d',r1,r2,r3,r4,r5⟩:=b0i hM hl htx s hnd ts h3 h2 nr _ 0 s _ rfl (C9 _) h.ri (fun _ f hf=>by rw[h.fns]at hf;exact nomatch hf) (fun f hf=>by rw[h.fns]at hf;exact nomatch hf) (by rw[h.fns];rfl) (fun h=>absurd h (by omega)) (by simp only[Nat.sub_zero];omega);rw[b2u,mD,hnd,h1,d6];exact⟨d',r1,r2.more (by simp only[Nat.sub_zero];omega),r3,r4,fun hg=>⟨(r5 hg).1,⟨ts,(r5 hg).2.1,hsorted⟩,by
  have h1:=congrArg List.length (r5 hg).2.1;rw[E1,B0]at h1;have:=(r5 hg).2.2;omega⟩⟩
end
end
section
structure NdE(l:List d7)(s:d8)(slots:Int)(i:Nat):Prop where
 k26:kd l i=26→∃m,s.P.Ms[i]? =some m∧0≤m.Do∧m.Do<slots∧C7 s.P.To m.Ts
 k27:kd l i=27→∃m,s.P.Ms[i]? =some m∧(-8≤m.Do∧m.Do≤ -1∨0≤m.Do∧m.Do<s.P.As.length)
 k32:kd l i=32→∃m,s.P.Ms[i]? =some m∧C7 s.P.To m.Ts
 k32t:kd l i=32→∃m,s.P.Ms[i]? =some m∧TKd s.P.To m.Ts (kd l (i+1))
theorem NdE.ex{l:List d7}{s s':d8}{slots:Int}{i lo hi:Nat}(h:NdE l s slots i)(e:Ex l s s' lo hi)(hi:i<lo∨hi≤i):NdE l s' slots i:=by
 refine⟨fun hk=>?_,fun hk=>?_,fun hk=>?_,fun hk=>?_⟩
 ·obtain⟨m,h1,h2,h3,h4⟩:=h.k26 hk;exact⟨m,by rw[e.marks i hi];exact h1,h2,h3,h4.ext e.types⟩
 ·obtain⟨m,h1,h2⟩:=h.k27 hk;exact⟨m,by rw[e.marks i hi];exact h1,by rw[e.fns];exact h2⟩
 ·obtain⟨m,h1,h2⟩:=h.k32 hk;exact⟨m,by rw[e.marks i hi];exact h1,h2.ext e.types⟩
 ·obtain⟨m,h1,h2⟩:=h.k32t hk;exact⟨m,by rw[e.marks i hi];exact h1,h2.ext e.types⟩
theorem NdE.other{l:List d7}{s:d8}{slots:Int}{i:Nat}(h:kd l i≠26∧kd l i≠27∧kd l i≠32):NdE l s slots i:=⟨fun hk=>absurd hk h.1,fun hk=>absurd hk h.2.1,fun hk=>absurd hk h.2.2,fun hk=>absurd hk h.2.2⟩
structure FI(s:d8)(fi:Nat)(At Sl:Int):Prop where
 f:∃f,s.P.As[fi]? =some f∧f.At=At∧f.Ss=Sl
 at0:0≤At
 sl0:0≤Sl
 sum:At+Sl=s.P.Ss.length
 s2:Sl≤200
theorem FI.ex{l:List d7}{s s':d8}{fi lo hi:Nat}{At Sl:Int}(h:FI s fi At Sl)(e:Ex l s s' lo hi):FI s' fi At Sl:=⟨by rw[e.fns];exact h.f,h.at0,h.sl0,by rw[e.slots];exact h.sum,h.s2⟩
def EOk(env:List v8)(Sl:Int)(vars:Nat):Prop:=∀v∈env,0≤v.Ws∧v.Ws<Sl∧0≤v.At∧v.At<vars
theorem a9y{l:List d7}(hl:l.length≤30000)(a:Int)(env:List v8)(at0:Nat)(s:d8)(hnd:s.P.No=l)(x0:d7)(hx0:l[at0]? =some x0)(en:Nat)(he:x0.Cs=(en:Int)-(at0+1))(hen:en≤l.length)(hg:s.F.Code=0)(q:Nat)(hq:q≤en):∀(n d:Nat),q-d=n→d≤q→(∀j,d≤j→j<q→14≤kd l j∧kd l j≤20)→Iq d5 a env (at0:Int) (d:Int) s=Iq d5 a env (at0:Int) (q:Int) s:=by
 have hl0:=(l3.1 hx0).1;have hxe:=(l3.1 hx0).2;have ew:w64 ((at0:Int)+x0.Cs)=(en:Int)-1:=(by rw[he,wrap64 (by omega) (by omega)];omega);intro n
 induction n with
 |zero=>
      intro d hn hd hk;have:d=q:=by omega
      subst this;rfl
 |succ n ih=>intro d hn hd hk;have hdl:d<l.length:=(by omega);have hkd:=hk d (i4 _) (by omega);have hke:kd l d=l[d].Ks:=p9 (o5 hdl);have e:=ih (d+1) (by omega) (by omega) (fun j h1 h2=>hk j (by omega) h2);rw[xC,Mc,hnd,l4 hl0,d6,hxe,ew,f6 (by omega),f9,R1,d6,f6 hg,A2,f8,l4 hdl,d6,d9 (by omega),f8,d9 (by omega),f8,d9 (by omega),f8,pE,Ip,y9 (by omega)];exact e
theorem b1K(a:Int)(at0 d:Int)(s:d8)(x:d7)(Sl:Int)(vars:Nat)(env:List v8)(hE:EOk env Sl vars)(hel:env.length≤100000000000):∀(n i:Nat) (e:Int),env.length-i=n→(e= -1∨0≤e∧e<Sl)→∃e',Po d5 a env at0 d e (i:Int) s x=ET d5 a env at0 d e' s∧(e'= -1∨0≤e'∧e'<Sl):=by
 intro n
 induction n with
 |zero=>intro i e hi he;rw[LJ,Td,d9 (by omega),f8];exact⟨e,rfl,he⟩
 |succ n ih=>
  intro i e hi he;have hil:i<env.length:=(by omega);obtain⟨v1,v2,_,_⟩:=hE _ (A4 hil);have e1:=ih (i+1) env[i].Ws (by omega) (.inr ⟨v1,v2⟩);have e2:=ih (i+1) e (by omega) he;rw[LJ,Td,f6 (by omega),f9,l4 hil,d6,d6,y9 (by omega)];cases decide (env[i].In=x.Ds)with
  |true=>exact e1
  |false=>exact e2
section
variable{l:List d7}(hM:J9 l)(hl:l.length≤30000)(htx:∀n∈l,n.Ds.length≤65536)
include hM hl htx
theorem Dv:∀(n b:Nat) (x:d7) (q:Nat),l[b]? =some x→x.Cs=(q:Int)-(b+1)→q-b=n→(14≤x.Ks∧x.Ks≤20)→∀j,b≤j→j<q→14≤kd l j∧kd l j≤20:=by
 intro n
 induction n using Nat.strongRecOn with
 |_ n ih=>
 intro b x q hx hs hn hk j h1 h2;obtain⟨st,ks,t1,t2,t3,t4,t5,t6,t7⟩:=hM.nd b x hx;have est:st=q:=(by omega);subst est;by_cases e:j=b
 ·subst e;rw[p9 hx];exact hk
 by_cases c20:x.Ks=20
 ·obtain⟨e1,e2⟩:=H2 (t6.k3 (.inr (.inr c20)));obtain⟨k,ks',rfl⟩:∃k ks',ks=k::ks':=by
   cases ks with
   |nil=>simp at e1
   |cons k ks=>exact⟨k,ks,rfl⟩
  have hk1:=S6 (e2 0 (by simp) (by simp));obtain⟨rfl,y,q2,hy,hys,hq1,hq2,hr⟩:=t5.first
  rw[H7,p9 hy]at hk1;have hnil:ks'=[]:=(by simp at e1;exact e1);subst hnil;have:q2=st:=(by cases hr;rfl);subst this;exact ih _ (by omega) (b+1) y q2 hy hys rfl (by omega) j (by omega) h2
 ·have:=(t6.kr (by omega)).1;have hks:ks=[]:=(by unfold E5 at this;exact List.map_eq_nil_iff.1 this);subst hks;have:st=b+1:=(by cases t5;rfl);omega
theorem a2L(fi:Nat)(At Sl:Int)(env:List v8)(at0:Nat)(x0:d7)(hx0:l[at0]? =some x0)(en:Nat)(he:x0.Cs=(en:Int)-(at0+1))(hen:en≤l.length)(nr:Nat):∀(n d:Nat) (s:d8) (B:Nat),en-d=n→at0≤d→d≤en→RI l nr B s→FI s fi At Sl→EOk env Sl s.P.Vars.length→env.length≤100000000000→B+(en-d)≤80000000000→(∀(j:Nat) (y:d7) (q:Nat),d≤j→j<en→l[j]? =some y→y.Cs=(q:Int)-(j+1)→q≤en)→∃s',Iq d5 (fi:Int) env (at0:Int) (d:Int) s=some ((s',()),())∧RI l nr (B+(en-d)) s'∧Ex l s s' d en∧(s'.F.Code=0→∀i,d≤i→i<en→NdE l s' Sl i):=by
 have hl0:=(l3.1 hx0).1;have hxe:=(l3.1 hx0).2;have ew:w64 ((at0:Int)+x0.Cs)=(en:Int)-1:=(by rw[he,wrap64 (by omega) (by omega)];omega);intro n
 induction n using Nat.strongRecOn with
 |_ n ih=>
 intro d s B hn had hd hR hF hE hel hB hin;have hnd:=hR.nodes;have hmk:=hR.marks;rw[xC,Mc,hnd,l4 hl0,d6,hxe,ew];by_cases cd:d<en
 ·have hdl:d<l.length:=(by omega);have hx:l[d]? =some l[d]:=o5 hdl;have hke:kd l d=l[d].Ks:=p9 hx;rw[f6 (by omega),f9,R1,d6];by_cases cb:s.F.Code=0
  ·rw[f6 cb,A2,f8,l4 hdl,d6];have bad:∀{r:b3U},(∃f:x8,r=some (((⟨s.P,s.Rs,f⟩:d8),()),())∧f.Code≠0)→∃s',r=some ((s',()),())∧RI l nr (B+(en-d)) s'∧Ex l s s' d en∧(s'.F.Code=0→∀i,d≤i→i<en→NdE l s' Sl i):=by rintro r ⟨f,f1,f2⟩;exact⟨_,f1,(hR.fault f (fun h=>absurd h f2)).more (by omega),Ex.fault l s f f2 _ _,fun h=>absurd h f2⟩
   have go:∀(m:i8),0≤m.Ts→m.Ts<s.P.To.length→kd l d≠5→NdE l (x5 s d m) Sl d→∃s',Ly d5 (fi:Int) env (at0:Int) (d:Int) (x5 s d m)=some ((s',()),())∧RI l nr (B+(en-d)) s'∧Ex l s s' d en∧(s'.F.Code=0→∀i,d≤i→i<en→NdE l s' Sl i):=by
    intro m m0 m1 m5 mN;have hx':=Ex.mark l s d m d (d+1) (i4 _) (by omega) m5;obtain⟨s',r1,r2,r3,r4⟩:=ih (en-(d+1)) (by omega) (d+1) (x5 s d m) B rfl (by omega) (by omega) (hR.mark d m m0 m1) (hF.ex hx') hE hel (by omega) (fun j y q h1 h2=>hin j y q (by omega) h2);rw[pE,Ip,y9 (by omega)];refine⟨s',r1,r2.more (by omega),hx'.trans r3 (i4 _) (by omega) (by omega) (i4 _),fun hg i h1 h2=>?_⟩;by_cases e:i=d
    ·subst e;exact mN.ex r3 (by omega)
    ·exact r4 hg i (by omega) h2
   by_cases c26:l[d].Ks=26
   ·rw[f6 c26,f9];obtain⟨e',g1,g2⟩:=b1K (fi:Int) (at0:Int) (d:Int) s l[d] Sl s.P.Vars.length env hE hel _ 0 (-1) rfl (.inl rfl);rw[show Po d5 (fi:Int) env (at0:Int) (d:Int) (-1) 0 s l[d]=_ from g1,a7h,sQ];rcases g2 with rfl|⟨v1,v2⟩
    ·rw[f6 (by omega),f9];obtain⟨f,f1,f2⟩:=W9 s 8 (by decide) d (by rw[hnd];exact hdl);rw[f1];exact bad ⟨f,rfl,f2⟩
    ·obtain⟨f,hf,hfa,hfs⟩:=hF.f;have hfl:=(l3.1 hf).1;have hfe:=(l3.1 hf).2;have hsum:=hF.sum;have hat:=hF.at0;have hbig:=hR.big;unfold tot at hbig;have eslot:w64 (f.At+e')=(((f.At+e').toNat:Nat):Int):=(by rw[hfa,wrap64 (by omega) (by omega)];omega);have hsl:(f.At+e').toNat<s.P.Ss.length:=(by rw[hfa];omega);rw[d9 (by omega),f8,l4 hfl,d6,hfe,eslot,l4 hsl,d6,E0,o5 hsl,d6,Pn,Bt s (by omega) d (by omega),d6];have tI:=hR.sl cb _ (A4 hsl);refine go ⟨s.P.Ss[(f.At+e').toNat],e',0⟩ (by have:=tI.1;simp only;omega) tI.2.1 (by rw[hke,c26];decide) ⟨fun _=>⟨⟨s.P.Ss[(f.At+e').toNat],e',0⟩,?_,v1,v2,tI⟩,fun h=>?_,fun h=>?_,fun h=>?_⟩
     ·unfold x5;simp only;rw[P3 (by omega)]
     ·rw[hke,c26]at h;omega
     ·rw[hke,c26]at h;omega
     ·rw[hke,c26]at h;omega
   rw[d9 c26,f8];by_cases c27:l[d].Ks=27
   ·have hbig:=hR.big;unfold tot at hbig;obtain⟨k,hk,hk1,hk2⟩:=SE s (by omega) l[d].Ds;obtain⟨bt,hbt,hb0,hb8⟩:=GL l[d].Ds;have set:∀m:Int,(-8≤m∧m≤ -1∨0≤m∧m<s.P.As.length)→∃s',fN d5 (fi:Int) env (at0:Int) (d:Int) m s=some ((s',()),())∧RI l nr (B+(en-d)) s'∧Ex l s s' d en∧(s'.F.Code=0→∀i,d≤i→i<en→NdE l s' Sl i):=by
     intro m hm;rw[a5n,iW,Pn,Bt s (by omega) d (by omega),d6];have h6:=hR.ty.len;refine go ⟨0,m,0⟩ (P4 _) (by simp only;omega) (by rw[hke,c27];decide) ⟨fun h=>?_,fun _=>⟨⟨0,m,0⟩,?_,hm⟩,fun h=>?_,fun h=>?_⟩
     ·rw[hke,c27]at h;omega
     ·unfold x5;simp only;rw[P3 (by omega)]
     ·rw[hke,c27]at h;omega
     ·rw[hke,c27]at h;omega
    rw[f6 c27,f9,hk,d6];by_cases ck:k<0
    ·have e0:w64 (0-bt)= -bt:=(by rw[wrap64 (by omega) (by omega)];omega);rw[f6 ck,f9,hbt,d6];simp only;rw[e0];by_cases cz: -bt=0
     ·rw[f6 cz,f9];obtain⟨f,f1,f2⟩:=W9 s 8 (by decide) d (by rw[hnd];exact hdl);rw[f1];exact bad ⟨f,rfl,f2⟩
     ·rw[d9 cz,f8];exact set (-bt) (.inl ⟨by omega,by omega⟩)
    ·rw[d9 ck,f8];exact set k (.inr ⟨by omega,hk2⟩)
   rw[d9 c27,f8];by_cases c32:l[d].Ks=32
   ·rw[f6 c32,f9,y9 (by omega)];obtain⟨st,ks,t1,t2,t3,t4,t5,t6,t7⟩:=hM.nd d _ hx;have hne:ks≠ []:=by rintro rfl;rcases t6.k32 c32 with⟨h,_⟩|⟨h,_⟩<;>exact absurd h (by simp[E5])
    obtain⟨k,ks',rfl⟩:=List.exists_cons_of_ne_nil hne;have hs0:E2 (kd l k)=116:=by
     rcases t6.k32 c32 with⟨h,_⟩|⟨h,_⟩
     ·exact(H2 h).2 0 (by simp) (by simp)
     ·exact(H2 h).2 0 (by simp) (by simp)
    obtain⟨rfl,y,q,hy,hys,hq1,hq2,hr⟩:=t5.first
    have hk1:=S6 hs0;rw[p9 hy]at hk1;have hsten:=hin d _ st (i4 _) cd hx t1;obtain⟨t,s1,k1,k2,k3,k4,k5⟩:=SB hM hl htx (d+1) y q hy hys (by omega) s nr B hR (by omega);have hmk1:=k2.marks;have tT:0≤t∧t<s1.P.To.length:=by
     have:=k2.ty.len;rcases k4 with rfl|k4
     ·omega
     ·have:=k4.1;have:=k4.2.1;omega
    rw[k1,d6];simp only;rw[Pn,Bt s1 (by omega) d (by omega),d6];simp only;have h5:kd l d≠5:=(by rw[hke,c32];decide);have hx':Ex l s (x5 s1 d ⟨t,0,0⟩) d q:=(k3.trans (Ex.refl l s1 (d+1) q) (i4 _) (i4 _) (i4 _) (i4 _)).trans (Ex.mark l s1 d ⟨t,0,0⟩ d (d+1) (i4 _) (by omega) h5) (by omega) (i4 _) (i4 _) (by omega);have hR2:=k2.mark d ⟨t,0,0⟩ tT.1 tT.2;have hF2:=hF.ex hx';have hV:(x5 s1 d ⟨t,0,0⟩).P.Vars=s.P.Vars:=k3.vars;rw[pE,Ip,y9 (by omega)];by_cases cg:s1.F.Code=0
    ·have tI:C7 s1.P.To t:=by
      rcases k5 cg with⟨h,_⟩|⟨_,h⟩
      ·omega
      ·exact h
     have tK:TKd s1.P.To t y.Ks:=by
      rcases k5 cg with⟨h,_⟩|⟨h,_⟩
      ·omega
      ·exact h.2
     have hty:=Dv hM hl htx _ (d+1) y q hy hys rfl (by omega);rw[a9y hl (fi:Int) env at0 (x5 s1 d ⟨t,0,0⟩) hR2.nodes x0 hx0 en he hen cg q (by omega) _ (d+1) rfl (by omega) hty];obtain⟨s',r1,r2,r3,r4⟩:=ih (en-q) (by omega) q (x5 s1 d ⟨t,0,0⟩) (B+(q-(d+1))) rfl (by omega) (by omega) hR2 hF2 (by rw[hV];exact hE) hel (by omega) (fun j y q h1 h2=>hin j y q (by omega) h2);refine⟨s',r1,r2.more (by omega),hx'.trans r3 (i4 _) (by omega) (by omega) (i4 _),fun hg i h1 h2=>?_⟩;by_cases e:i=d
     ·subst e;refine NdE.ex (s:=x5 s1 i ⟨t,0,0⟩) ⟨fun h=>?_,fun h=>?_,fun _=>⟨⟨t,0,0⟩,?_,tI⟩,fun _=>⟨⟨t,0,0⟩,?_,by rw[p9 hy];exact tK⟩⟩ r3 (by omega)
      ·rw[hke,c32]at h;omega
      ·rw[hke,c32]at h;omega
      ·unfold x5;simp only;rw[P3 (by omega)]
      ·unfold x5;simp only;rw[P3 (by omega)]
     ·by_cases e2:i<q
      ·have:=hty i (by omega) e2;exact NdE.other ⟨by omega,by omega,by omega⟩
      ·exact r4 hg i (by omega) h2
    ·have hb2:(x5 s1 d ⟨t,0,0⟩).F.Code≠0:=cg;obtain⟨s',r1,r2,r3,r4⟩:∃s',Iq d5 (fi:Int) env (at0:Int) ((d+1:Nat):Int) (x5 s1 d ⟨t,0,0⟩)=some ((s',()),())∧RI l nr (B+(en-d)) s'∧Ex l s s' d en∧s'.F.Code≠0:=by
      rw[xC,Mc,hR2.nodes,l4 hl0,d6,hxe,ew];by_cases c2:d+1<en
      ·rw[f6 (by omega),f9,R1,d6,d9 hb2];exact⟨_,rfl,hR2.more (by omega),hx'.trans (Ex.refl l _ d q) (i4 _) (by omega) (i4 _) (by omega),hb2⟩
      ·rw[d9 (by omega),f8,PB,Qk];exact⟨_,rfl,hR2.more (by omega),hx'.trans (Ex.refl l _ d q) (i4 _) (by omega) (i4 _) (by omega),hb2⟩
     exact⟨s',r1,r2,r3,fun h=>absurd h r4⟩
   ·rw[d9 c32,f8,pE,Ip,y9 (by omega)];obtain⟨s',r1,r2,r3,r4⟩:=ih (en-(d+1)) (by omega) (d+1) s B rfl (by omega) (by omega) hR hF hE hel (by omega) (fun j y q h1 h2=>hin j y q (by omega) h2);refine⟨s',r1,r2.more (by omega),(Ex.refl l s (d+1) en).trans r3 (by omega) (i4 _) (by omega) (i4 _),fun hg i h1 h2=>?_⟩;by_cases e:i=d
    ·subst e;exact NdE.other ⟨by omega,by omega,by omega⟩
    ·exact r4 hg i (by omega) h2
  ·rw[d9 cb];exact⟨s,rfl,hR.more (by omega),Ex.refl _ _ _ _,fun h=>absurd h cb⟩
 ·rw[d9 (by omega),f8,PB,Qk];exact⟨s,rfl,hR.more (by omega),Ex.refl _ _ _ _,fun _ i h1 h2=>by omega⟩
end
end
section
theorem Kc.cover{l:List d7}{i j:Nat}{ks:List Nat}(h:Kc l i j ks):∀p,i≤p→p<j→∃k∈ks,∃(x:d7) (q:Nat),l[k]? =some x∧x.Cs=(q:Int)-(k+1)∧k≤p∧p<q∧i≤k∧q≤j:=by
 induction h with
 |nil=>intro p h1 h2;omega
 |cons i k j x ks hx hs hk kids rest ih=>
  have:=rest.le;intro p h1 h2;by_cases c:p<k
  ·exact⟨i,G0,x,k,hx,hs,h1,c,i4 _,by omega⟩
  ·obtain⟨k',m,y,q,a1,a2,a3,a4,a5,a6⟩:=ih p (by omega) h2;exact⟨k',H6 _ m,y,q,a1,a2,a3,a4,by omega,a6⟩
structure Fx(l:List d7)(fi:Nat)(s s':d8)(lo hi:Nat):Prop where
 types:s.P.To<+:s'.P.To
 marks:∀i:Nat,(i<lo∨hi≤i)→s'.P.Ms[i]? =s.P.Ms[i]?
 par:∀i:Nat,kd l i=5→s'.P.Ms[i]? =s.P.Ms[i]?
 recs:s'.P.Rs=s.P.Rs
 fields:s'.P.Hs=s.P.Hs
 own:s'.Rs=s.Rs
 bad:s.F.Code≠0→s'.F.Code≠0
 flen:s'.P.As.length=s.P.As.length
 foth:∀i:Nat,i≠fi→s'.P.As[i]? =s.P.As[i]?
 fcur:∀f,s.P.As[fi]? =some f→∃f',s'.P.As[fi]? =some f'∧f'.Gs=f.Gs∧f'.Es=f.Es∧f'.By=f.By∧f'.At=f.At
 slots:s.P.Ss<+:s'.P.Ss
 vars:s.P.Vars.length≤s'.P.Vars.length
 points:s.P.Ps<+:s'.P.Ps
theorem Fx.refl(l:List d7)(fi:Nat)(s:d8)(lo hi:Nat):Fx l fi s s lo hi:=⟨L7 _,fun _ _=>rfl,fun _ _=>rfl,rfl,rfl,rfl,id,rfl,fun _ _=>rfl,fun f hf=>⟨f,hf,rfl,rfl,rfl,rfl⟩,L7 _,i4 _,L7 _⟩
theorem Fx.trans{l:List d7}{fi:Nat}{s s' s'':d8}{lo hi lo' hi' lo2 hi2:Nat}(h:Fx l fi s s' lo hi)(h':Fx l fi s' s'' lo' hi')(a:lo2≤lo)(b:hi≤hi2)(c:lo2≤lo')(d:hi'≤hi2):Fx l fi s s'' lo2 hi2:=
 ⟨h.types.trans h'.types,fun i hi=>(h'.marks i (by omega)).trans (h.marks i (by omega)),fun i hi=>(h'.par i hi).trans (h.par i hi),h'.recs.trans h.recs,h'.fields.trans h.fields,h'.own.trans h.own,fun hb=>h'.bad (h.bad hb),h'.flen.trans h.flen,fun i hi=>(h'.foth i hi).trans (h.foth i hi),
  fun f hf=>by
  obtain⟨f1,a1,a2,a3,a4,a5⟩:=h.fcur f hf;obtain⟨f2,b1,b2,b3,b4,b5⟩:=h'.fcur f1 a1;exact⟨f2,b1,b2.trans a2,b3.trans a3,b4.trans a4,b5.trans a5⟩,h.slots.trans h'.slots,Q4 h.vars h'.vars,h.points.trans h'.points⟩
theorem Ex.fx{l:List d7}{s s':d8}{lo hi:Nat}(h:Ex l s s' lo hi)(fi:Nat):Fx l fi s s' lo hi:=
 ⟨h.types,h.marks,h.par,h.recs,h.fields,h.own,h.bad,by rw[h.fns],fun i _=>by rw[h.fns],fun f hf=>⟨f,by rw[h.fns];exact hf,rfl,rfl,rfl,rfl⟩,by rw[h.slots];exact L7 _,by rw[h.vars];exact i4 _,by rw[h.points];exact L7 _⟩
theorem NdE.fx{l:List d7}{fi:Nat}{s s':d8}{Sl Sl':Int}{i lo hi:Nat}(h:NdE l s Sl i)(e:Fx l fi s s' lo hi)(hS:Sl≤Sl')(hi:i<lo∨hi≤i):NdE l s' Sl' i:=by
 refine⟨fun hk=>?_,fun hk=>?_,fun hk=>?_,fun hk=>?_⟩
 ·obtain⟨m,h1,h2,h3,h4⟩:=h.k26 hk;exact⟨m,by rw[e.marks i hi];exact h1,h2,by omega,h4.ext e.types⟩
 ·obtain⟨m,h1,h2⟩:=h.k27 hk;exact⟨m,by rw[e.marks i hi];exact h1,by rw[e.flen];exact h2⟩
 ·obtain⟨m,h1,h2⟩:=h.k32 hk;exact⟨m,by rw[e.marks i hi];exact h1,h2.ext e.types⟩
 ·obtain⟨m,h1,h2⟩:=h.k32t hk;exact⟨m,by rw[e.marks i hi];exact h1,h2.ext e.types⟩
def NdS(l:List d7)(s:d8)(Sl:Int)(i:Nat):Prop:=7≤kd l i→kd l i≤13→∃m,s.P.Ms[i]? =some m∧0≤m.Qs∧(kd l i=7→0≤m.Do∧m.Do<Sl∧C7 s.P.To m.Ts)
theorem NdS.fx{l:List d7}{fi:Nat}{s s':d8}{Sl Sl':Int}{i lo hi:Nat}(h:NdS l s Sl i)(e:Fx l fi s s' lo hi)(hS:Sl≤Sl')(hi:i<lo∨hi≤i):NdS l s' Sl' i:=by intro a b;obtain⟨m,h1,h2,h3⟩:=h a b;exact⟨m,by rw[e.marks i hi];exact h1,h2,fun c=>⟨(h3 c).1,by have:=(h3 c).2.1;omega,(h3 c).2.2.ext e.types⟩⟩
theorem NdS.other{l:List d7}{s:d8}{Sl:Int}{i:Nat}(h:kd l i<7∨13<kd l i):NdS l s Sl i:=fun a b=>by omega
def U6(s:d8)(fi:Nat)(f:t8)(name:b38)(t first:Int):d8:=
 ⟨⟨s.P.No,s.P.Ms,s.P.To,s.P.Rs,s.P.Hs,s.P.As.set fi ⟨f.In,f.Gs,f.Es,f.By,f.At,w64 (f.Ss+1),f.Or,f.Ps⟩,s.P.Ss++[t],s.P.Vars++[⟨fi,name,f.Ss,first,0⟩],s.P.Ps⟩,s.Rs,s.F⟩
theorem UU(s:d8)(fi:Nat)(f:t8)(hf:s.P.As[fi]? =some f)(env:List v8)(hel:env.length≤90000000000)(hb:tot s≤90000000000)(name:b38)(t blk first:Int):cM d5 s (fi:Int) env name t blk first=some ((env++[⟨name,f.Ss,blk,s.P.Vars.length⟩],U6 s fi f name t first,()),()):=by
 have hfl:=(l3.1 hf).1;have hfe:=(l3.1 hf).2;unfold tot at hb;have h1:([]:List v8).length+env.length≤100000000000:=(by rw[L6];omega);have h2:env.length+ [(v8.mk name f.Ss blk (s.P.Vars.length:Int))].length≤100000000000:=(by rw[A3];omega);have h3:s.P.Vars.length+ [(J0.mk (fi:Int) name f.Ss first 0)].length≤100000000000:=(by rw[A3];omega)
 have h4:s.P.Ss.length+ [t].length≤100000000000:=(by rw[A3];omega);have h5:([]:List t8).length+s.P.As.length≤100000000000:=(by rw[L6];omega);rw[b1C,eS,l4 hfl,d6,hfe,V3 (by decide) h1,d6,J4,V3 (by decide) h2,d6,V3 (by decide) h3,d6,V3 (by decide) h4,d6,V3 (by decide) h5,d6,J4,l4 hfl,d6,E0,hf,d6,d6];rfl
theorem WY{l:List d7}{nr B fi:Nat}{s:d8}{f:t8}(hR:RI l nr B s)(hf:s.P.As[fi]? =some f)(name:b38)(t first:Int)(ht:s.F.Code=0→C7 s.P.To t):RI l nr (B+2) (U6 s fi f name t first):=by
 refine⟨hR.nodes,hR.marks,?_,hR.ty,hR.mt,hR.fl,hR.rc,fun g hg=>?_,fun c x hx=>?_⟩
 ·have:=hR.big;unfold tot U6 at*;simp only[o9,A3,Du];omega
 ·rcases List.mem_or_eq_of_mem_set hg with hg|rfl
  ·exact hR.fn g hg
  ·obtain⟨k,x,a1,a2,a3,a4,a5⟩:=hR.fn f (M7 hf);exact⟨k,x,a1,a2,a3,a4,a5⟩
 ·rcases A7.1 hx with hx|hx
  ·exact hR.sl c x hx
  ·rw[O0.1 hx];exact ht c
theorem IW{s:d8}{fi:Nat}{At Sl:Int}(hF:FI s fi At Sl){f:t8}(hf:s.P.As[fi]? =some f)(hS:Sl<200)(name:b38)(t first:Int):FI (U6 s fi f name t first) fi At (Sl+1):=by have hfl:=(l3.1 hf).1;obtain⟨f0,h1,h2,h3⟩:=hF.f;rw[hf]at h1;cases h1;have:=hF.sl0;refine⟨⟨⟨f.In,f.Gs,f.Es,f.By,f.At,w64 (f.Ss+1),f.Or,f.Ps⟩,by unfold U6;simp only;rw[P3 hfl],h2,by simp only;rw[h3,wrap64 (by omega) (by omega)]⟩,hF.at0,by omega,?_,by omega⟩;have:=hF.sum;unfold U6;simp only[o9,A3];omega
theorem DR(l:List d7){s:d8}{fi:Nat}{f:t8}(hf:s.P.As[fi]? =some f)(name:b38)(t first:Int)(lo hi:Nat):Fx l fi s (U6 s fi f name t first) lo hi:=by have hfl:=(l3.1 hf).1;refine⟨L7 _,fun _ _=>rfl,fun _ _=>rfl,rfl,rfl,rfl,id,by unfold U6;simp only[Du],fun i hi=>by unfold U6;simp only;rw[Y0 (Ne.symm hi)],fun g hg=>?_,List.prefix_append _ _,by unfold U6;simp only[o9];omega,L7 _⟩;rw[hf]at hg;cases hg;exact⟨⟨f.In,f.Gs,f.Es,f.By,f.At,w64 (f.Ss+1),f.Or,f.Ps⟩,by unfold U6;simp only;rw[P3 hfl],rfl,rfl,rfl,rfl⟩
theorem OW{s:d8}{fi:Nat}{f:t8}{env:List v8}{Sl:Int}(hE:EOk env Sl s.P.Vars.length)(h0:0≤Sl)(hfs:f.Ss=Sl)(name:b38)(t blk first:Int):EOk (env++[⟨name,f.Ss,blk,s.P.Vars.length⟩]) (Sl+1) (U6 s fi f name t first).P.Vars.length:=by
 have e:(U6 s fi f name t first).P.Vars.length=s.P.Vars.length+1:=(by unfold U6;simp only[o9,A3])
 rw[e];intro v hv;rcases A7.1 hv with hv|hv
 ·obtain⟨a,b,c,d⟩:=hE v hv;exact⟨a,by omega,c,by omega⟩
 ·rw[O0.1 hv];simp only;omega
theorem EOk.mono{env:List v8}{Sl Sl':Int}{v v':Nat}(h:EOk env Sl v)(a:Sl≤Sl')(b:v≤v'):EOk env Sl' v':=fun x hx=>by obtain⟨h1,h2,h3,h4⟩:=h x hx;exact⟨h1,by omega,h3,by omega⟩
section
variable{l:List d7}(hM:J9 l)(hl:l.length≤30000)(htx:∀n∈l,n.Ds.length≤65536)
include hM hl htx
theorem Ek:∀(n b:Nat) (x:d7) (q:Nat),l[b]? =some x→x.Cs=(q:Int)-(b+1)→q-b=n→(14≤x.Ks∧x.Ks≤32)→∀j,b≤j→j<q→14≤kd l j∧kd l j≤32:=by
 intro n
 induction n using Nat.strongRecOn with
 |_ n ih=>
 intro b x q hx hs hn hk j h1 h2;obtain⟨st,ks,t1,t2,t3,t4,t5,t6,t7⟩:=hM.nd b x hx;have est:st=q:=(by omega);subst est;by_cases e:j=b
 ·subst e;rw[p9 hx];exact hk
 by_cases c20:x.Ks≤20
 ·have:=Dv hM hl htx _ b x st hx hs rfl ⟨hk.1,c20⟩ j h1 h2;omega
 obtain⟨k,hkm,y,q2,a1,a2,a3,a4,a5,a6⟩:=t5.cover j (by omega) h2;have hso:E2 (kd l k)=101∨E2 (kd l k)=116:=by
  have hmem:E2 (kd l k)∈E5 l ks:=List.mem_map.2 ⟨k,hkm,rfl⟩;by_cases c27:x.Ks=27
  ·exact .inl (t6.k27 c27 _ hmem)
  by_cases c28:x.Ks=28∨x.Ks=31
  ·rw[t6.k28 c28]at hmem;simp at hmem;exact .inl hmem
  by_cases c29:x.Ks=12∨x.Ks=29∨x.Ks=30
  ·rw[t6.k12 c29]at hmem;simp at hmem;exact .inl hmem
  by_cases c32:x.Ks=32
  ·rcases t6.k32 c32 with⟨h,_⟩|⟨h,_⟩
   ·rw[h]at hmem;simp at hmem;exact .inr hmem
   ·rw[h]at hmem;simp at hmem;exact hmem.symm
  ·have:=(t6.kr (by omega)).1;rw[this]at hmem;exact nomatch hmem
 have hky:14≤y.Ks∧y.Ks≤32:=by
  rw[←p9 a1];rcases hso with h|h
  ·have:=I0 h;omega
  ·have:=S6 h;omega
 exact ih (q2-k) (by omega) k y q2 a1 a2 rfl hky j a3 a4
theorem SW(fi:Nat)(At Sl:Int)(env:List v8)(at0:Nat)(x0:d7)(hx0:l[at0]? =some x0)(hk0:21≤x0.Ks∧x0.Ks≤32)(en:Nat)(he:x0.Cs=(en:Int)-(at0+1))(hen:en≤l.length)(hae:at0+1≤en)(hw:WFo l (at0+1) en)(nr:Nat)(s:d8)(B:Nat)(hR:RI l nr B s)(hF:FI s fi At Sl)(hE:EOk env Sl s.P.Vars.length)(hel:env.length≤100000000000)(hB:B+(en-at0)≤80000000000):∃s',qS d5 s (fi:Int) env (at0:Int)=some ((s',()),())∧RI l nr (B+(en-at0)) s'∧Ex l s s' at0 en∧(s'.F.Code=0→∀i,at0≤i→i<en→NdE l s' Sl i∧NdS l s' Sl i):=by
 rw[ZU,cH];obtain⟨s',r1,r2,r3,r4⟩:=a2L hM hl htx fi At Sl env at0 x0 hx0 en he hen nr _ at0 s B rfl (i4 _) (by omega) hR hF hE hel hB (fun j y q h1 h2 hy hq=>by
  by_cases e:j=at0
  ·subst e;rw[hx0]at hy;cases hy;omega
  ·obtain⟨z,k,g1,g2,g3,g4,g5⟩:=hw.inside j (by omega) h2;rw[hy]at g1;cases g1;omega)
 refine⟨s',r1,r2,r3,fun hg i h1 h2=>⟨r4 hg i h1 h2,NdS.other ?_⟩⟩;have:=Ek hM hl htx _ at0 x0 en hx0 he rfl (by omega) i h1 h2;omega
end
end
section
def ptS(s:d8)(p:N4):d8:=⟨⟨s.P.No,s.P.Ms,s.P.To,s.P.Rs,s.P.Hs,s.P.As,s.P.Ss,s.P.Vars,s.P.Ps++[p]⟩,s.Rs,s.F⟩
def vrS(s:d8)(V:List J0):d8:=⟨⟨s.P.No,s.P.Ms,s.P.To,s.P.Rs,s.P.Hs,s.P.As,s.P.Ss,V,s.P.Ps⟩,s.Rs,s.F⟩
theorem a8I{l:List d7}{nr B:Nat}{s:d8}(h:RI l nr B s)(p:N4):RI l nr (B+1) (ptS s p):=by refine⟨h.nodes,h.marks,?_,h.ty,h.mt,h.fl,h.rc,h.fn,h.sl⟩;have:=h.big;unfold tot ptS at*;simp only[o9,A3];omega
theorem a9P{l:List d7}{nr B:Nat}{s:d8}(h:RI l nr B s)(V:List J0)(hV:V.length=s.P.Vars.length):RI l nr B (vrS s V):=by refine⟨h.nodes,h.marks,?_,h.ty,h.mt,h.fl,h.rc,h.fn,h.sl⟩;have:=h.big;unfold tot vrS at*;simp only;omega
theorem a28(l:List d7)(fi:Nat)(s:d8)(p:N4)(lo hi:Nat):Fx l fi s (ptS s p) lo hi:=⟨L7 _,fun _ _=>rfl,fun _ _=>rfl,rfl,rfl,rfl,id,rfl,fun _ _=>rfl,fun f hf=>⟨f,hf,rfl,rfl,rfl,rfl⟩,L7 _,i4 _,List.prefix_append _ _⟩
theorem a2Z(l:List d7)(fi:Nat)(s:d8)(V:List J0)(hV:V.length=s.P.Vars.length)(lo hi:Nat):Fx l fi s (vrS s V) lo hi:=⟨L7 _,fun _ _=>rfl,fun _ _=>rfl,rfl,rfl,rfl,id,rfl,fun _ _=>rfl,fun f hf=>⟨f,hf,rfl,rfl,rfl,rfl⟩,L7 _,by show _≤V.length;omega,L7 _⟩
theorem FI.of{s s':d8}{fi:Nat}{At Sl:Int}(h:FI s fi At Sl)(h1:s'.P.As=s.P.As)(h2:s'.P.Ss=s.P.Ss):FI s' fi At Sl:=⟨by rw[h1];exact h.f,h.at0,h.sl0,by rw[h2];exact h.sum,h.s2⟩
theorem b2x(s:d8)(hV:s.P.Vars.length≤90000000000)(env:List v8)(hel:env.length≤90000000000)(Sl:Int)(hE:EOk env Sl s.P.Vars.length)(b:Int):∃V,BG d5 env b s=some ((vrS s V,()),())∧V.length=s.P.Vars.length:=by
 have hz:([]:List J0).length+s.P.Vars.length≤100000000000:=(by rw[L6];omega);have loop:∀(n i:Nat) (V:List J0),env.length-i=n→V.length=s.P.Vars.length→∃V',Vj d5 env b (i:Int) s V=some ((vrS s V',()),())∧V'.length=s.P.Vars.length:=by
  intro n
  induction n with
  |zero=>intro i V hi hv;rw[OF,Ww,d9 (by omega),f8,a7E,pJ];exact⟨V,rfl,hv⟩
  |succ n ih=>
   intro i V hi hv;have hil:i<env.length:=(by omega);obtain⟨_,_,v3,v4⟩:=hE _ (A4 hil);have ea:env[i].At=((env[i].At.toNat:Nat):Int):=(by omega);have hal:env[i].At.toNat<V.length:=(by omega);have e:=fun V' (h:V'.length=s.P.Vars.length)=>ih (i+1) V' (by omega) h;rw[OF,Ww,f6 (by omega),f9,l4 hil,d6,d6,y9 (by omega)];cases decide (env[i].Xs=b)with
   |false=>exact e V hv
   |true=>rw[f9,ea,l4 hal,d6,E0,o5 hal,d6,d6];simp only[Q5,d6];exact e _ (by rw[Du];exact hv)
 rw[ZI,rT,V3 (by decide) hz,d6,J4];exact loop _ 0 _ rfl rfl
def stI(l:List d7)(lo hi:Nat):List Nat:=(List.range' lo (hi-lo)).filter fun i=>decide (7≤kd l i∧kd l i≤13)
theorem R8(l:List d7){a b c:Nat}(h1:a≤b)(h2:b≤c):stI l a c=stI l a b++stI l b c:=by unfold stI;rw[←List.filter_append];have e:c-a=(b-a)+(c-b):=(by omega);have e2:a+1*(b-a)=b:=(by omega);rw[e,←List.range'_append,e2]
theorem Ch{l:List d7}{a b i:Nat}(h:i∈stI l a b):(a≤i∧i<b)∧7≤kd l i∧kd l i≤13:=by unfold stI at h;rw[List.mem_filter,List.mem_range'_1]at h;have:=D3 h.2;omega
theorem Ep{l:List d7}{a b:Nat}(h:∀i,a≤i→i<b→kd l i<7∨13<kd l i):stI l a b=[]:=by unfold stI;rw[List.filter_eq_nil_iff];intro i hi;rw[List.mem_range'_1]at hi;have:=h i hi.1 (by omega);rw[decide_eq_true_eq];omega
theorem IJ(l:List d7)(a:Nat):stI l a a=[]:=Ep fun i h1 h2=>by omega
theorem Fr{l:List d7}{a b:Nat}(h:7≤kd l a∧kd l a≤13)(hab:a<b):stI l a b=a::stI l (a+1) b:=by rw[R8 l (Nat.le_succ a) hab];have e:a+1-a=1:=(by omega);unfold stI;rw[e,List.range'_one,List.filter_cons_of_pos (by rw[decide_eq_true_eq];exact h),List.filter_nil,List.singleton_append]
theorem Hb{l:List d7}{a b:Nat}(h:kd l a<7∨13<kd l a)(hab:a<b):stI l a b=stI l (a+1) b:=by rw[R8 l (Nat.le_succ a) hab,Ep (a:=a) (b:=a+1) (fun i h1 h2=>by rw[show i=a by omega];exact h),J4]
def Kl(l:List d7)(fi i:Nat):N4:=match l[i]? with|some x=>⟨fi,i,x.Ls,x.Id⟩|none=>⟨0,0,0,0⟩
theorem tR{l:List d7}{i:Nat}{x:d7}(h:l[i]? =some x)(fi:Nat):Kl l fi i=⟨fi,i,x.Ls,x.Id⟩:=by unfold Kl;rw[h]
structure PT(l:List d7)(fi:Nat)(s s':d8)(lo hi:Nat):Prop where
 pts:s'.P.Ps=s.P.Ps++(stI l lo hi).map (Kl l fi)
 num:∀i,i∈stI l lo hi→∃m,s'.P.Ms[i]? =some m∧m.Qs=(s.P.Ps.length:Int)+((stI l lo i).length:Int)
theorem PT.none{l:List d7}{fi:Nat}{s s':d8}{lo hi:Nat}(h:s'.P.Ps=s.P.Ps)(hn:∀i,lo≤i→i<hi→kd l i<7∨13<kd l i):PT l fi s s' lo hi:=
 ⟨by rw[Ep hn,h,List.map_nil,O1],fun i hi=>by rw[Ep hn]at hi;exact nomatch hi⟩
theorem PT.trans{l:List d7}{fi:Nat}{s s1 s':d8}{lo mid hi lo' hi':Nat}(h:PT l fi s s1 lo mid)(h':PT l fi s1 s' mid hi)(hm:∀i:Nat,(i<lo'∨hi'≤i)→s'.P.Ms[i]? =s1.P.Ms[i]?)(e:lo'=mid)(a:lo≤mid)(b:mid≤hi):PT l fi s s' lo hi:=by
 subst e;refine⟨by rw[h'.pts,h.pts,R8 l a b,D9,G5],fun i hi=>?_⟩;rw[R8 l a b,A7]at hi;rcases hi with hi|hi
 ·obtain⟨m,m1,m2⟩:=h.num i hi;obtain⟨⟨_,c⟩,_⟩:=Ch hi;exact⟨m,by rw[hm i (.inl c)];exact m1,m2⟩
 ·obtain⟨m,m1,m2⟩:=h'.num i hi;obtain⟨⟨c,_⟩,_⟩:=Ch hi;refine⟨m,m1,?_⟩;rw[m2,h.pts,R8 l a c,o9,o9,E1];omega
theorem PT.cons{l:List d7}{fi:Nat}{s s0 s':d8}{b hi:Nat}{x:d7}{m:i8}(hx:l[b]? =some x)(hk:7≤x.Ks∧x.Ks≤13)(h0:s0.P.Ps=s.P.Ps++[⟨fi,b,x.Ls,x.Id⟩])(hm:s'.P.Ms[b]? =some m)(hp:m.Qs=(s.P.Ps.length:Int))(h:PT l fi s0 s' (b+1) hi)(hb:b<hi):PT l fi s s' b hi:=by
 have hkb:7≤kd l b∧kd l b≤13:=(by rw[p9 hx];exact hk);refine⟨by rw[h.pts,h0,Fr hkb hb,List.map_cons,tR hx,G5,List.singleton_append],fun i hi=>?_⟩;rw[Fr hkb hb,F9]at hi;rcases hi with rfl|hi
 ·exact⟨m,hm,by rw[hp,IJ];simp⟩
 ·obtain⟨m',m1,m2⟩:=h.num i hi;obtain⟨⟨c,_⟩,_⟩:=Ch hi;refine⟨m',m1,?_⟩;rw[m2,h0,Fr hkb (by omega),o9,A3,I5];omega
theorem PT.skip{l:List d7}{fi:Nat}{s s':d8}{b hi:Nat}(hk:kd l b<7∨13<kd l b)(h:PT l fi s s' (b+1) hi)(hb:b<hi):PT l fi s s' b hi:=by refine⟨by rw[h.pts,Hb hk hb],fun i hi=>?_⟩;rw[Hb hk hb]at hi;obtain⟨m,m1,m2⟩:=h.num i hi;obtain⟨⟨c,_⟩,_⟩:=Ch hi;exact⟨m,m1,by rw[m2,Hb hk (by omega)]⟩
structure Cf(l:List d7)(nr f0:Nat)(At:Int)(s:d8)(Sl:Int)(B lo hi:Nat)(s':d8)(Sl':Int):Prop where
 ri:RI l nr (B+6*(hi-lo)) s'
 fx:Fx l f0 s s' lo hi
 fi:FI s' f0 At Sl'
 sl:Sl≤Sl'
 nd:s'.F.Code=0→∀i,lo≤i→i<hi→NdE l s' Sl' i∧NdS l s' Sl' i
 pt:s'.F.Code=0→PT l f0 s s' lo hi
def Bk(l:List d7)(nr fi:Nat)(At:Int)(n:Nat):Prop:=∀(b:Nat) (x:d7) (st:Nat),st-b=n→l[b]? =some x→x.Cs=(st:Int)-(b+1)→b+1≤st→st≤l.length→x.Ks=6→∀(s:d8) (env:List v8) (Sl:Int) (B:Nat),RI l nr B s→FI s fi At Sl→EOk env Sl s.P.Vars.length→env.length+(st-b)≤80000000000→B+6*(st-b)≤80000000000→
 ∃s' Sl',iF d5 s (fi:Int) env (b:Int)=some ((s',()),())∧Cf l nr fi At s Sl B b st s' Sl'
def Stm(l:List d7)(nr fi:Nat)(At:Int)(n:Nat):Prop:=∀(b:Nat) (x:d7) (st:Nat),st-b=n→l[b]? =some x→x.Cs=(st:Int)-(b+1)→b+1≤st→st≤l.length→7≤x.Ks∧x.Ks≤13→∀(s:d8) (env:List v8) (blk:Int) (Sl:Int) (B:Nat),RI l nr B s→FI s fi At Sl→EOk env Sl s.P.Vars.length→env.length+(st-b)≤80000000000→B+6*(st-b)≤80000000000→
 ∃env' s' Sl',DN d5 s (fi:Int) env blk (b:Int)=some ((env',s',()),())∧Cf l nr fi At s Sl B b st s' Sl'∧EOk env' Sl' s'.P.Vars.length∧env'.length≤env.length+1
section
variable{l:List d7}(hM:J9 l)(hl:l.length≤30000)(htx:∀n∈l,n.Ds.length≤65536)
include hM hl htx
theorem a2y(nr fi:Nat)(At:Int)(n:Nat)(ih:∀m,m<n→Stm l nr fi At m):Bk l nr fi At n:=by
 intro b x st hn hx hs hb1 hst hk s env Sl B hR hF hE hel hB;obtain⟨st',ks,t1,t2,t3,t4,t5,t6,t7⟩:=hM.nd b x hx;have est:st'=st:=(by omega);subst est;have hkl:=t5.le;have hks:∀p∈ks,7≤kd l p∧kd l p≤13:=fun p hp=>bZ (Nb (t6.k6 hk) p hp);have hnd:=hR.nodes;have loop:∀(m e c0:Nat) (s:d8) (env:List v8) (Sl:Int) (B:Nat),ks.length-e=m→e≤ks.length→b+1≤c0→Kc l c0 st' (ks.drop e)→RI l nr B s→FI s fi At Sl→EOk env Sl s.P.Vars.length→env.length+(st'-c0)≤80000000000→B+6*(st'-c0)≤80000000000→
   ∃s' Sl',aQ d5 (fi:Int) env (b:Int) ((i7 ks,()),()) (e:Int) s=some ((s',()),())∧Cf l nr fi At s Sl B c0 st' s' Sl':=by
  intro m
  induction m with
  |zero=>
   intro e c0 s env Sl B hm he hc0 hK hR hF hE hel hB;have hc:c0=st':=by rw[N3 (by omega)]at hK;cases hK;rfl
   have hbig:=hR.big;unfold tot at hbig;obtain⟨V,v1,v2⟩:=b2x s (by omega) env (by omega) Sl hE (b:Int);rw[FG,Wi];simp only[B0];rw[d9 (by omega),f8,v1];exact⟨_,Sl,rfl,(a9P hR V v2).more (by omega),a2Z l fi s V v2 _ _,hF.of rfl rfl,P4 _,fun _ i h1 h2=>by omega,fun _=>PT.none rfl fun i h1 h2=>by omega⟩
  |succ m ihm=>
   intro e c0 s env Sl B hm he hc0 hK hR hF hE hel hB;have hel':e<ks.length:=(by omega);have g:=C6 hel';have ga:=D7 hel';rw[J8 hel']at hK;obtain⟨ek,y,q,hy,hys,hq1,hq2,hrest⟩:=hK.first
   have hky:=hks _ (A4 hel');rw[ek,p9 hy]at hky;rw[FG,Wi];simp only[B0];rw[f6 (by omega),f9,R1,d6];by_cases cb:s.F.Code=0
   ·rw[f6 cb,A2,f8,g,d6,E0,ga,d6,ek,y9 (by omega)];obtain⟨env',s1,Sl1,k1,k2,k3,k4⟩:=ih (q-c0) (by omega) c0 y q rfl hy hys hq1 (by omega) hky s env (b:Int) Sl B hR hF hE (by omega) (by omega);rw[k1,d6];obtain⟨s',Sl',r1,r2⟩:=ihm (e+1) q s1 env' Sl1 (B+6*(q-c0)) (by omega) (by omega) (by omega) hrest k2.ri k2.fi k3 (by omega) (by omega);have hg1:s'.F.Code=0→s1.F.Code=0:=fun hg=>S9 fun hc=>r2.fx.bad hc hg;refine⟨s',Sl',r1,r2.ri.more (by omega),k2.fx.trans r2.fx (i4 _) (by omega) (by omega) (i4 _),r2.fi,Int.le_trans k2.sl r2.sl,fun hg i h1 h2=>?_,fun hg=>(k2.pt (hg1 hg)).trans (r2.pt hg) r2.fx.marks rfl (by omega) (by omega)⟩;by_cases hi:i<q
    ·have hg1:=hg1 hg;obtain⟨n1,n2⟩:=k2.nd hg1 i h1 hi;exact⟨n1.fx r2.fx r2.sl (.inl hi),n2.fx r2.fx r2.sl (.inl hi)⟩
    ·exact r2.nd hg i (by omega) h2
   ·rw[d9 cb];exact⟨s,Sl,rfl,hR.more (by omega),Fx.refl _ _ _ _ _,hF,P4 _,fun h=>absurd h cb,fun h=>absurd h cb⟩
 rw[a57,bO,hnd,T8 (by omega) hx t1 t3 t5,d6];obtain⟨s',Sl',r1,r2⟩:=loop _ 0 (b+1) s env Sl B rfl (C9 _) (i4 _) (by rw[T4];exact t5) hR hF hE (by omega) (by omega);refine⟨s',Sl',r1,r2.ri.more (by omega),r2.fx.trans (Fx.refl l fi s' b st') (by omega) (i4 _) (i4 _) (i4 _),r2.fi,r2.sl,fun hg i h1 h2=>?_,fun hg=>(r2.pt hg).skip (.inl (by rw[p9 hx];omega)) (by omega)⟩;by_cases e:i=b
 ·subst e;have:=p9 hx;exact⟨NdE.other ⟨by omega,by omega,by omega⟩,NdS.other (.inl (by omega))⟩
 ·exact r2.nd hg i (by omega) h2
end
end
section
theorem aM{l:List d7}{ks:List Nat}(h:E5 l ks=[]):ks=[]:=by unfold E5 at h;exact List.map_eq_nil_iff.1 h
theorem BZ{l:List d7}{k num:Int}{i:Nat}{ks:List Nat}(h:Fam k num i (E5 l ks) (fkd l ks))(hk:8≤k∧k≤13):∀p∈ks,kd l p=6∨21≤kd l p∧kd l p≤32:=by
 intro p hp;have hm:E2 (kd l p)∈E5 l ks:=List.mem_map.2 ⟨p,hp,rfl⟩;have hs:E2 (kd l p)=101∨E2 (kd l p)=98:=by
  by_cases c8:k=8
  ·rw[(h.k8 c8).1]at hm;simp at hm;exact .inl hm
  by_cases c9:k=9
  ·rcases h.k9 c9 with e|e
   ·rw[e]at hm;simp at hm;exact hm
   ·rw[e]at hm;simp at hm;exact hm
  by_cases c10:k=10
  ·rw[h.k10 c10]at hm;simp at hm;exact hm
  by_cases c11:k=11
  ·rcases h.k11 c11 with e|e
   ·rw[e]at hm;exact nomatch hm
   ·rw[e]at hm;simp at hm;exact .inl hm
  by_cases c12:k=12
  ·rw[h.k12 (.inl c12)]at hm;simp at hm;exact .inl hm
  ·have c13:k=13:=(by omega);rw[(h.k13 c13).1]at hm;simp at hm;exact .inl hm
 rcases hs with e|e
 ·exact .inr (I0 e)
 ·exact .inl (Pl e)
section
variable{l:List d7}(hM:J9 l)(hl:l.length≤30000)(htx:∀n∈l,n.Ds.length≤65536)
include hM hl htx
theorem a3Y(nr fi:Nat)(At:Int)(n:Nat)(ih:∀m,m<n→Bk l nr fi At m):Stm l nr fi At n:=by
 intro b x st hn hx hs hb1 hst hk s env blk Sl B hR hF hE hel hB;obtain⟨st',ks,t1,t2,t3,t4,t5,t6,t7⟩:=hM.nd b x hx;have est:st'=st:=(by omega);subst est;have hkl:=t5.le;have hnd:=hR.nodes;have hmk:=hR.marks;have hbig:=hR.big;unfold tot at hbig;have hbl:=(l3.1 hx).1;have hxe:=(l3.1 hx).2;have hkb:=p9 hx;have h5:kd l b≠5:=(by omega);have h6:=hR.ty.len;have hz:s.P.Ps.length+ [(N4.mk (fi:Int) (b:Int) x.Ls x.Id)].length≤100000000000:=(by rw[A3];omega);have hmb:b<(ptS s ⟨fi,b,x.Ls,x.Id⟩).P.Ms.length:=(by show b<s.P.Ms.length;omega);have hml:(ptS s ⟨fi,b,x.Ls,x.Id⟩).P.Ms.length≤90000000:=(by show s.P.Ms.length≤_;omega);rw[b0X,rR,hnd,l4 hbl,d6,hxe,V3 (by decide) hz,d6,Pn];have e0:(d8.mk (l9.mk l s.P.Ms s.P.To s.P.Rs s.P.Hs s.P.As s.P.Ss s.P.Vars (s.P.Ps++[(N4.mk (fi:Int) (b:Int) x.Ls x.Id)])) s.Rs s.F)=ptS s ⟨fi,b,x.Ls,x.Id⟩:=(by rw[←hnd];rfl);rw[e0,Bt _ hml b hmb,d6];have hR0:=(a8I hR ⟨fi,b,x.Ls,x.Id⟩).mark b ⟨0,0,s.P.Ps.length⟩ (P4 _) (by show(0:Int)<s.P.To.length;omega);have hX0:Fx l fi s (x5 (ptS s ⟨fi,b,x.Ls,x.Id⟩) b ⟨0,0,s.P.Ps.length⟩) b st':=(a28 l fi s ⟨fi,b,x.Ls,x.Id⟩ b st').trans ((Ex.mark l _ b ⟨0,0,s.P.Ps.length⟩ b st' (i4 _) (by omega) h5).fx fi) (i4 _) (i4 _) (i4 _) (i4 _);have hF0:FI (x5 (ptS s ⟨fi,b,x.Ls,x.Id⟩) b ⟨0,0,s.P.Ps.length⟩) fi At Sl:=hF.of rfl rfl;have hm0:(x5 (ptS s ⟨fi,b,x.Ls,x.Id⟩) b ⟨0,0,s.P.Ps.length⟩).P.Ms[b]? =some ⟨0,0,s.P.Ps.length⟩:=(by unfold x5;simp only;rw[P3 hmb]);have hV0:(x5 (ptS s ⟨fi,b,x.Ls,x.Id⟩) b ⟨0,0,s.P.Ps.length⟩).P.Vars=s.P.Vars:=rfl;have hF00:(x5 (ptS s ⟨fi,b,x.Ls,x.Id⟩) b ⟨0,0,s.P.Ps.length⟩).F=s.F:=rfl;have hP0:(x5 (ptS s ⟨fi,b,x.Ls,x.Id⟩) b ⟨0,0,s.P.Ps.length⟩).P.Ps=s.P.Ps++[⟨fi,b,x.Ls,x.Id⟩]:=rfl;generalize x5 (ptS s ⟨fi,b,x.Ls,x.Id⟩) b ⟨0,0,s.P.Ps.length⟩=s0 at*;have hnd0:=hR0.nodes;simp only;rw[hnd0,T8 (by omega) hx t1 t3 t5,d6];by_cases c7:x.Ks=7
 ·
  obtain⟨e1,e2⟩:=H2 (t6.k7 c7);have hne:ks≠ []:=(by rintro rfl;simp at e1);obtain⟨k,ks',rfl⟩:=List.exists_cons_of_ne_nil hne;have hne2:ks'≠ []:=(by rintro rfl;simp at e1);obtain⟨k2,ks'',rfl⟩:=List.exists_cons_of_ne_nil hne2;have hnil:ks''=[]:=(by simp at e1;exact e1);subst hnil;have s1:=S6 (e2 0 (by simp) (by simp));have s2:=I0 (e2 1 (by simp) (by simp));simp only[H7,Z6]at s1 s2;obtain⟨rfl,y,q,hy,hys,hq1,hq2,hr⟩:=t5.first
  obtain⟨rfl,z,q2,hz',hzs,hz1,hz2,hr2⟩:=hr.first
  have:q2=st':=(by cases hr2;rfl);subst this;rw[p9 hy]at s1;rw[p9 hz']at s2;obtain⟨stz,kz,z1,z2,z3,z4,z5,z6,z7⟩:=hM.nd _ z hz';have estz:stz=q2:=(by omega);subst estz;have g0:f5 (i7 [b+1,k2]) (0:Int)=some ((b+1:Nat):Int):=C6 (i:=0) (ks:=[b+1,k2]) (by simp);have ga0:(i7 [b+1,k2])[Int.toNat 0]? =some ((b+1:Nat):Int):=D7 (i:=0) (ks:=[b+1,k2]) (by simp);have g1:f5 (i7 [b+1,k2]) (1:Int)=some ((k2:Nat):Int):=C6 (i:=1) (ks:=[b+1,k2]) (by simp);have ga1:(i7 [b+1,k2])[Int.toNat 1]? =some ((k2:Nat):Int):=D7 (i:=1) (ks:=[b+1,k2]) (by simp);rw[f6 c7,A2,f8];have ei:([b+1,k2]:List Nat).map (fun(k:Nat)=>(k:Int))=i7 [b+1,k2]:=rfl;rw[ei];simp only;rw[g0,d6,ga0,d6];obtain⟨t,sa,a1,a2,a3,a4,a5⟩:=SB hM hl htx (b+1) y k2 hy hys (by omega) s0 nr (B+1) hR0 (by omega);have hFa:=hF0.ex a3;have hVa:sa.P.Vars=s.P.Vars:=a3.vars.trans hV0;rw[a1,d6,R1,d6];have hyk:y.Ks≠14:=(by omega);have fin:∀(s2:d8),RI l nr (B+1+(k2-(b+1))+(stz-k2)) s2→Ex l sa s2 k2 stz→(s2.F.Code=0→sa.F.Code=0∧∀i,k2≤i→i<stz→NdE l s2 Sl i∧NdS l s2 Sl i)→
    ∃env' s' Sl',sH d5 (fi:Int) env blk (b:Int) s ((t,sa,()),()) s2 x=some ((env',s',()),())∧Cf l nr fi At s Sl B b stz s' Sl'∧EOk env' Sl' s'.P.Vars.length∧env'.length≤env.length+1:=by
   intro s2 hR2 hX2 hN2;have hX02:Fx l fi s s2 b stz:=(hX0.trans (a3.fx fi) (i4 _) (i4 _) (by omega) (by omega)).trans (hX2.fx fi) (i4 _) (i4 _) (by omega) (i4 _);have hF2:=hFa.ex hX2;have hV2:s2.P.Vars=s.P.Vars:=hX2.vars.trans hVa;have hnd2:=hR2.nodes;have hmk2:=hR2.marks;have j5:∀f:x8,(s2.F.Code≠0→f.Code≠0)→(f.Code=0→Sl<200)→∃env' s' Sl',jQ d5 (fi:Int) env blk (b:Int) s ((t,sa,()),()) ⟨s2.P,s2.Rs,f⟩ x=some ((env',s',()),())∧Cf l nr fi At s Sl B b stz s' Sl'∧EOk env' Sl' s'.P.Vars.length∧env'.length≤env.length+1:=by
    intro f hf h200;have hg:f.Code=0→s2.F.Code=0:=fun c=>S9 fun hc=>hf hc c;have hR3:=hR2.fault f hg;have hX3:Fx l fi s2 ⟨s2.P,s2.Rs,f⟩ b stz:=⟨L7 _,fun _ _=>rfl,fun _ _=>rfl,rfl,rfl,rfl,hf,rfl,fun _ _=>rfl,fun g hg=>⟨g,hg,rfl,rfl,rfl,rfl⟩,L7 _,i4 _,L7 _⟩;have hF3:FI ⟨s2.P,s2.Rs,f⟩ fi At Sl:=hF2.of rfl rfl;rw[a58,mG,R1,d6];by_cases cf:f.Code=0
    ·obtain⟨ga,hN⟩:=hN2 (hg cf);have tI:C7 sa.P.To t:=by
      rcases a5 ga with⟨h,_⟩|⟨_,h⟩
      ·exact absurd h hyk
      ·exact h
     have tI2:C7 s2.P.To t:=tI.ext hX2.types;obtain⟨g,hgf,hga,hgs⟩:=hF2.f;have hgl:=(l3.1 hgf).1;have hge:=(l3.1 hgf).2;have hbig2:=hR2.big;have hsum:=hF2.sum;have hat:=hF2.at0;rw[f6 cf,A2,f8];simp only;rw[l4 hgl,d6,hge,Pn,Bt _ (by simp only;omega) b (by simp only;omega),d6];have hR4:=hR3.mark b ⟨t,g.Ss,s.P.Ps.length⟩ (by have:=tI2.1;simp only;omega) tI2.2.1;have hX4:=Ex.mark l (⟨s2.P,s2.Rs,f⟩:d8) b ⟨t,g.Ss,s.P.Ps.length⟩ b stz (i4 _) (by omega) h5;have hbig4:=hR4.big;have hsl2:s2.P.Ss.length≤tot s2:=(by unfold tot;omega);simp only;rw[UU (x5 (⟨s2.P,s2.Rs,f⟩:d8) b ⟨t,g.Ss,s.P.Ps.length⟩) fi g hgf env (by omega) (by omega) x.Ds t blk _];refine⟨_,_,Sl+1,rfl,⟨?_,?_,?_,by omega,fun hg0 i h1 h2=>?_,fun _=>?_⟩,?_,by simp⟩
     ·exact(WY hR4 hgf x.Ds t _ (fun _=>tI2)).more (by omega)
     ·exact(hX02.trans hX3 (i4 _) (i4 _) (i4 _) (i4 _)).trans ((hX4.fx fi).trans (DR l (s:=x5 (⟨s2.P,s2.Rs,f⟩:d8) b ⟨t,g.Ss,s.P.Ps.length⟩) hgf x.Ds t _ b stz) (i4 _) (i4 _) (i4 _) (i4 _)) (i4 _) (i4 _) (i4 _) (i4 _)
     ·exact IW (hF3.ex hX4) hgf (h200 cf) x.Ds t _
     ·by_cases e:i=b
      ·subst e;refine⟨NdE.other ⟨by omega,by omega,by omega⟩,fun _ _=>⟨⟨t,g.Ss,s.P.Ps.length⟩,?_,by simp only;omega,fun _=>⟨?_,?_,tI2⟩⟩⟩
       ·show((x5 (⟨s2.P,s2.Rs,f⟩:d8) i ⟨t,g.Ss,s.P.Ps.length⟩).P.Ms)[i]? =_;unfold x5;simp only;rw[P3 (by omega)]
       ·have:=hF2.sl0;simp only;omega
       ·simp only;omega
      ·by_cases e2:i<k2
       ·have:=Dv hM hl htx _ (b+1) y k2 hy hys rfl (by omega) i (by omega) e2;exact⟨NdE.other ⟨by omega,by omega,by omega⟩,NdS.other (.inr (by omega))⟩
       ·obtain⟨n1,n2⟩:=hN i (by omega) h2;have hXm:=Ex.mark l (⟨s2.P,s2.Rs,f⟩:d8) b ⟨t,g.Ss,s.P.Ps.length⟩ b (b+1) (i4 _) (by omega) h5;have hXt:∀first:Int,Fx l fi s2 (U6 (x5 (⟨s2.P,s2.Rs,f⟩:d8) b ⟨t,g.Ss,s.P.Ps.length⟩) fi g x.Ds t first) b (b+1):=fun first=>(Fx.trans (lo2:=b) (hi2:=b+1) (⟨L7 _,fun _ _=>rfl,fun _ _=>rfl,rfl,rfl,rfl,hf,rfl,fun _ _=>rfl,fun g hg=>⟨g,hg,rfl,rfl,rfl,rfl⟩,L7 _,i4 _,L7 _⟩:Fx l fi s2 ⟨s2.P,s2.Rs,f⟩ b (b+1)) (hXm.fx fi) (i4 _) (i4 _) (i4 _) (i4 _)).trans (DR l (s:=x5 (⟨s2.P,s2.Rs,f⟩:d8) b ⟨t,g.Ss,s.P.Ps.length⟩) hgf x.Ds t first b (b+1)) (i4 _) (i4 _) (i4 _) (i4 _)
        exact⟨n1.fx (hXt _) (by omega) (.inr (by omega)),n2.fx (hXt _) (by omega) (.inr (by omega))⟩
     ·refine PT.cons (s0:=s0) (m:=⟨t,g.Ss,s.P.Ps.length⟩) hx hk hP0 ?_ rfl (PT.none (hX2.points.trans a3.points) fun i h1 h2=>?_) (by omega)
      ·show((x5 (⟨s2.P,s2.Rs,f⟩:d8) b ⟨t,g.Ss,s.P.Ps.length⟩).P.Ms)[b]? =_;unfold x5;simp only;rw[P3 (by omega)]
      ·by_cases e2:i<k2
       ·have:=Dv hM hl htx _ (b+1) y k2 hy hys rfl (by omega) i h1 e2;omega
       ·have:=Ek hM hl htx _ k2 z stz hz' hzs rfl (by omega) i (by omega) h2;omega
     ·exact OW (by show EOk env Sl s2.P.Vars.length;rw[hV2];exact hE) (hF2.sl0) hgs x.Ds t blk _
    ·rw[d9 cf];exact⟨env,_,Sl,rfl,⟨hR3.more (by omega),hX02.trans hX3 (i4 _) (i4 _) (i4 _) (i4 _),hF3,P4 _,fun h=>absurd h cf,fun h=>absurd h cf⟩,by show EOk env Sl s2.P.Vars.length;rw[hV2];exact hE,by omega⟩
   have j4:∀f:x8,(s2.F.Code≠0→f.Code≠0)→∃env' s' Sl',wI d5 (fi:Int) env blk (b:Int) s ((t,sa,()),()) ⟨s2.P,s2.Rs,f⟩ x=some ((env',s',()),())∧Cf l nr fi At s Sl B b stz s' Sl'∧EOk env' Sl' s'.P.Vars.length∧env'.length≤env.length+1:=by
    intro f hf;obtain⟨g,hgf,hga,hgs⟩:=hF2.f;have hgl:=(l3.1 hgf).1;rw[a24,Yo];simp only;rw[l4 hgl,d6];have hge4:=(l3.1 hgf).2;by_cases c200:s2.P.As[fi].Ss≥200
    ·rw[f6 c200];obtain⟨f',f1,f2⟩:=W9 ⟨s2.P,s2.Rs,f⟩ 13 (by decide) b (by rw[hnd2];exact hbl);rw[f9,f1,d6];exact j5 f' (fun _=>f2) (fun h=>absurd h f2)
    ·rw[d9 c200];exact j5 f hf (fun _=>by rw[hge4]at c200;omega)
   have l1:∀(m i:Nat) (f:x8),env.length-i=m→(s2.F.Code≠0→f.Code≠0)→∃env' s' Sl',Pw d5 (fi:Int) env blk (b:Int) s ((t,sa,()),()) (i:Int) ⟨s2.P,s2.Rs,f⟩ x=some ((env',s',()),())∧Cf l nr fi At s Sl B b stz s' Sl'∧EOk env' Sl' s'.P.Vars.length∧env'.length≤env.length+1:=by
    intro m
    induction m with
    |zero=>intro i f hi hf;rw[XZ,Xc,d9 (by omega),f8];exact j4 f hf
    |succ m ihm=>
     intro i f hi hf;have hil:i<env.length:=(by omega);have e:=ihm (i+1) f (by omega) hf;obtain⟨f',f1,f2⟩:=W9 ⟨s2.P,s2.Rs,f⟩ 7 (by decide) b (by rw[hnd2];exact hbl);have e':=ihm (i+1) f' (by omega) (fun _=>f2);rw[XZ,Xc,f6 (by omega),f9,l4 hil,d6,d6,y9 (by omega),f1];cases decide (env[i].In=x.Ds)with
     |false=>exact e
     |true=>
      rw[f9];cases decide (env[i].Xs=blk)with
      |false=>exact e
      |true=>exact e'
   rw[a5K,qD];have:=l1 _ 0 s2.F rfl id;exact this
  simp only;by_cases cb:sa.F.Code=0
  ·obtain⟨s2,r1,r2,r3,r4⟩:=SW hM hl htx fi At Sl env k2 z hz' s2 stz hzs z3 z2 z4 nr sa _ a2 hFa (by rw[hVa];exact hE) (by omega) (by omega);rw[f6 cb,A2,D5,f9,g1,d6,ga1,d6,r1,d6];exact fin s2 r2 r3 (fun hg=>⟨cb,r4 hg⟩)
  ·rw[d9 cb,D5,A2,f8];exact fin sa (a2.more (by omega)) (Ex.refl _ _ _ _) (fun h=>absurd h cb)
 ·
  rw[d9 c7,D5,f9];have hks:=BZ t6 (show 8≤x.Ks∧x.Ks≤13 by omega);have loop:∀(m e c0:Nat) (sA:d8) (SA:Int) (B':Nat),ks.length-e=m→e≤ks.length→b+1≤c0→Kc l c0 st' (ks.drop e)→RI l nr B' sA→FI sA fi At SA→EOk env SA sA.P.Vars.length→B'+6*(st'-c0)≤80000000000→
    ∃s' Sl',Oh d5 (fi:Int) env ((i7 ks,()),()) (e:Int) sA=some ((env,s',()),())∧Cf l nr fi At sA SA B' c0 st' s' Sl'∧EOk env Sl' s'.P.Vars.length:=by
   intro m
   induction m with
   |zero=>
    intro e c0 sA SA B' hm he hc0 hK hRA hFA hEA hBA;have hc:c0=st':=by rw[N3 (by omega)]at hK;cases hK;rfl
    rw[YE,Tl];simp only[B0];rw[d9 (by omega),f8,b2a,eN];exact⟨sA,SA,rfl,⟨hRA.more (by omega),Fx.refl _ _ _ _ _,hFA,P4 _,fun _ i h1 h2=>by omega,fun _=>PT.none rfl fun i h1 h2=>by omega⟩,hEA⟩
   |succ m ihm=>
    intro e c0 sA SA B' hm he hc0 hK hRA hFA hEA hBA;have hel':e<ks.length:=(by omega);have g:=C6 hel';have ga:=D7 hel';rw[J8 hel']at hK;obtain⟨ek,y,q,hy,hys,hq1,hq2,hrest⟩:=hK.first
    have hky:=hks _ (A4 hel');rw[ek,p9 hy]at hky;have hyl:=(l3.1 hy).1;have hye:=(l3.1 hy).2;have hndA:=hRA.nodes;rw[YE,Tl];simp only[B0];rw[f6 (by omega),f9,R1,d6];by_cases cb:sA.F.Code=0
    ·rw[f6 cb,A2,f8,g,d6,E0,ga,d6,ek,hndA,l4 hyl,d6,hye,y9 (by omega),d6,d6,d6,d6];have next:∀(s1:d8) (S1:Int),Cf l nr fi At sA SA B' c0 q s1 S1→∃s' Sl',Oh d5 (fi:Int) env ((i7 ks,()),()) ((e+1:Nat):Int) s1=some ((env,s',()),())∧Cf l nr fi At sA SA B' c0 st' s' Sl'∧EOk env Sl' s'.P.Vars.length:=by
      intro s1 S1 k2;obtain⟨s',Sl',r1,r2,r3⟩:=ihm (e+1) q s1 S1 (B'+6*(q-c0)) (by omega) (by omega) (by omega) hrest k2.ri k2.fi (hEA.mono k2.sl k2.fx.vars) (by omega);have hg1:s'.F.Code=0→s1.F.Code=0:=fun hg=>S9 fun hc=>r2.fx.bad hc hg;refine⟨s',Sl',r1,⟨r2.ri.more (by omega),k2.fx.trans r2.fx (i4 _) (by omega) (by omega) (i4 _),r2.fi,Int.le_trans k2.sl r2.sl,fun hg i h1 h2=>?_,fun hg=>(k2.pt (hg1 hg)).trans (r2.pt hg) r2.fx.marks rfl (by omega) (by omega)⟩,r3⟩;by_cases hi:i<q
      ·have hg1:=hg1 hg;obtain⟨n1,n2⟩:=k2.nd hg1 i h1 hi;exact⟨n1.fx r2.fx r2.sl (.inl hi),n2.fx r2.fx r2.sl (.inl hi)⟩
      ·exact r2.nd hg i (by omega) h2
     by_cases c6:y.Ks=6
     ·rw[f6 c6,f9];obtain⟨s1,S1,k1,k2⟩:=ih (q-c0) (by omega) c0 y q rfl hy hys hq1 (by omega) c6 sA env SA B' hRA hFA hEA (by omega) (by omega);rw[k1,d6];exact next s1 S1 k2
     ·rw[d9 c6,f8];obtain⟨stz,kz,z1,z2,z3,z4,z5,z6,z7⟩:=hM.nd _ y hy;have estz:stz=q:=(by omega);subst estz;obtain⟨s1,r1,r2,r3,r4⟩:=SW hM hl htx fi At SA env c0 y hy (by omega) stz hys z3 z2 z4 nr sA B' hRA hFA hEA (by omega) (by omega);rw[r1,d6];exact next s1 SA ⟨r2.more (by omega),r3.fx fi,hFA.ex r3,P4 _,r4,fun _=>PT.none r3.points fun i h1 h2=>by have:=Ek hM hl htx _ c0 y stz hy hys rfl (by omega) i h1 h2;omega⟩
    ·rw[d9 cb];exact⟨sA,SA,rfl,⟨hRA.more (by omega),Fx.refl _ _ _ _ _,hFA,P4 _,fun h=>absurd h cb,fun h=>absurd h cb⟩,hEA⟩
  obtain⟨s',Sl',r1,r2,r3⟩:=loop _ 0 (b+1) s0 Sl (B+1) rfl (C9 _) (i4 _) (by rw[T4];exact t5) hR0 hF0 (by rw[hV0];exact hE) (by omega);refine⟨env,s',Sl',r1,⟨r2.ri.more (by omega),hX0.trans r2.fx (i4 _) (i4 _) (by omega) (i4 _),r2.fi,r2.sl,fun hg i h1 h2=>?_,fun hg=>PT.cons (s0:=s0) (m:=⟨0,0,s.P.Ps.length⟩) hx hk hP0 (by rw[r2.fx.marks b (.inl (by omega))];exact hm0) rfl (r2.pt hg) (by omega)⟩,r3,by omega⟩;by_cases e:i=b
  ·subst e;refine⟨NdE.other ⟨by omega,by omega,by omega⟩,fun _ _=>⟨⟨0,0,s.P.Ps.length⟩,?_,by simp only;omega,fun h=>by omega⟩⟩;rw[r2.fx.marks i (.inl (by omega))];exact hm0
  ·exact r2.nd hg i (by omega) h2
theorem a59(nr fi:Nat)(At:Int):∀n,Bk l nr fi At n∧Stm l nr fi At n:=by
 intro n
 induction n using Nat.strongRecOn with
 |_ n ih=>exact⟨a2y hM hl htx nr fi At n (fun m h=>(ih m h).2),a3Y hM hl htx nr fi At n (fun m h=>(ih m h).1)⟩
end
end
section
theorem Kc.drop{l:List d7}{i j:Nat}{ks:List Nat}(h:Kc l i j ks):∀n,n≤ks.length→∃c,i≤c∧Kc l c j (ks.drop n):=by
 induction h with
 |nil i=>intro n hn;exact⟨i,i4 _,by rw[List.drop_nil];exact .nil i⟩
 |cons i k j x ks hx hs hk kids rest ih=>
  intro n hn;cases n with
  |zero=>exact⟨i,i4 _,.cons i k j x ks hx hs hk kids rest⟩
  |succ n=>obtain⟨c,h1,h2⟩:=ih n (by simp at hn;omega);exact⟨c,by omega,h2⟩
structure Gx(l:List d7)(fi:Nat)(s s':d8)(lo hi:Nat):Prop where
 types:s.P.To<+:s'.P.To
 marks:∀i:Nat,(i<lo∨hi≤i)→s'.P.Ms[i]? =s.P.Ms[i]?
 par:∀i:Nat,kd l i=5→s'.P.Ms[i]? =s.P.Ms[i]?
 recs:s'.P.Rs=s.P.Rs
 fields:s'.P.Hs=s.P.Hs
 own:s'.Rs=s.Rs
 bad:s.F.Code≠0→s'.F.Code≠0
 flen:s'.P.As.length=s.P.As.length
 foth:∀i:Nat,i≠fi→s'.P.As[i]? =s.P.As[i]?
 fcur:∀f,s.P.As[fi]? =some f→∃f',s'.P.As[fi]? =some f'∧f'.Gs=f.Gs∧f'.Es=f.Es∧f'.By=f.By
 slots:s.P.Ss<+:s'.P.Ss
theorem Fx.gx{l:List d7}{fi:Nat}{s s':d8}{lo hi:Nat}(h:Fx l fi s s' lo hi):Gx l fi s s' lo hi:=⟨h.types,h.marks,h.par,h.recs,h.fields,h.own,h.bad,h.flen,h.foth,fun f hf=>by obtain⟨f',a1,a2,a3,a4,_⟩:=h.fcur f hf;exact⟨f',a1,a2,a3,a4⟩,h.slots⟩
theorem Gx.trans{l:List d7}{fi:Nat}{s s' s'':d8}{lo hi lo' hi' lo2 hi2:Nat}(h:Gx l fi s s' lo hi)(h':Gx l fi s' s'' lo' hi')(a:lo2≤lo)(b:hi≤hi2)(c:lo2≤lo')(d:hi'≤hi2):Gx l fi s s'' lo2 hi2:=
 ⟨h.types.trans h'.types,fun i hi=>(h'.marks i (by omega)).trans (h.marks i (by omega)),fun i hi=>(h'.par i hi).trans (h.par i hi),h'.recs.trans h.recs,h'.fields.trans h.fields,h'.own.trans h.own,fun hb=>h'.bad (h.bad hb),h'.flen.trans h.flen,fun i hi=>(h'.foth i hi).trans (h.foth i hi),
  fun f hf=>by
  obtain⟨f1,a1,a2,a3,a4⟩:=h.fcur f hf;obtain⟨f2,b1,b2,b3,b4⟩:=h'.fcur f1 a1;exact⟨f2,b1,b2.trans a2,b3.trans a3,b4.trans a4⟩,h.slots.trans h'.slots⟩
theorem NdE.gx{l:List d7}{fi:Nat}{s s':d8}{Sl:Int}{i lo hi:Nat}(h:NdE l s Sl i)(e:Gx l fi s s' lo hi)(hi:i<lo∨hi≤i):NdE l s' Sl i:=by
 refine⟨fun hk=>?_,fun hk=>?_,fun hk=>?_,fun hk=>?_⟩
 ·obtain⟨m,h1,h2,h3,h4⟩:=h.k26 hk;exact⟨m,by rw[e.marks i hi];exact h1,h2,by omega,h4.ext e.types⟩
 ·obtain⟨m,h1,h2⟩:=h.k27 hk;exact⟨m,by rw[e.marks i hi];exact h1,by rw[e.flen];exact h2⟩
 ·obtain⟨m,h1,h2⟩:=h.k32 hk;exact⟨m,by rw[e.marks i hi];exact h1,h2.ext e.types⟩
 ·obtain⟨m,h1,h2⟩:=h.k32t hk;exact⟨m,by rw[e.marks i hi];exact h1,h2.ext e.types⟩
theorem NdS.gx{l:List d7}{fi:Nat}{s s':d8}{Sl:Int}{i lo hi:Nat}(h:NdS l s Sl i)(e:Gx l fi s s' lo hi)(hi:i<lo∨hi≤i):NdS l s' Sl i:=by intro a b;obtain⟨m,h1,h2,h3⟩:=h a b;exact⟨m,by rw[e.marks i hi];exact h1,h2,fun c=>⟨(h3 c).1,(h3 c).2.1,(h3 c).2.2.ext e.types⟩⟩
theorem G9.gx{l:List d7}{fi:Nat}{s s':d8}{lo hi p:Nat}(h:G9 s p)(hp:kd l p=5)(e:Gx l fi s s' lo hi):G9 s' p:=by obtain⟨m,h1,h2⟩:=h;exact⟨m,by rw[e.par p hp];exact h1,h2.ext e.types⟩
def fnS(s:d8)(fi:Nat)(f:t8):d8:=⟨⟨s.P.No,s.P.Ms,s.P.To,s.P.Rs,s.P.Hs,s.P.As.set fi f,s.P.Ss,s.P.Vars,s.P.Ps⟩,s.Rs,s.F⟩
theorem VN{l:List d7}{nr B:Nat}{s:d8}(h:RI l nr B s){fi:Nat}{f g:t8}(hf:s.P.As[fi]? =some f)(h1:g.Gs=f.Gs)(h2:g.Es=f.Es)(h3:g.By=f.By):RI l nr B (fnS s fi g):=by
 refine⟨h.nodes,h.marks,?_,h.ty,h.mt,h.fl,h.rc,fun x hx=>?_,h.sl⟩
 ·have:=h.big;unfold tot fnS at*;simp only[Du];omega
 ·rcases List.mem_or_eq_of_mem_set hx with hx|rfl
  ·exact h.fn x hx
  ·obtain⟨k,y,a1,a2,a3,a4,a5⟩:=h.fn f (M7 hf);exact⟨k,y,h1.trans a1,a2,a3,h2.trans a4,by rw[h3];exact a5⟩
theorem nL(l:List d7){s:d8}{fi:Nat}{f g:t8}(hf:s.P.As[fi]? =some f)(h1:g.Gs=f.Gs)(h2:g.Es=f.Es)(h3:g.By=f.By)(lo hi:Nat):Gx l fi s (fnS s fi g) lo hi:=by have hfl:=(l3.1 hf).1;refine⟨L7 _,fun _ _=>rfl,fun _ _=>rfl,rfl,rfl,rfl,id,by unfold fnS;simp only[Du],fun i hi=>by unfold fnS;simp only;rw[Y0 (Ne.symm hi)],fun x hx=>?_,L7 _⟩;rw[hf]at hx;cases hx;exact⟨g,by unfold fnS;simp only;rw[P3 hfl],h1,h2,h3⟩
def It(l:List d7)(s:d8)(f:t8):Prop:=∃(k st np bp:Nat) (x:d7) (ks:List Nat),f.Gs=(k:Int)∧l[k]? =some x∧x.Cs=(st:Int)-(k+1)∧Kc l (k+1) st ks∧ks.length=np+2∧ks[np+1]? =some bp∧f.Es=(np:Int)∧0≤f.At∧(np:Int)≤f.Ss∧f.At+f.Ss≤s.P.Ss.length∧f.Ss≤200∧∀i,bp≤i→i<st→NdE l s f.Ss i∧NdS l s f.Ss i
theorem a9F{l:List d7}(hl:l.length≤30000)(nr fi:Nat)(At:Int)(ks:List Nat)(np:Nat)(hkl:ks.length=np+2)(hkl2:ks.length≤l.length)(hin:∀p∈ks,p<l.length)(hks:∀(i:Nat) (h1:i<ks.length),i<np→kd l ks[i]=5)(h20:np≤20):∀(n c:Nat) (d:d8) (env:List v8) (B:Nat),np-c=n→c≤np→RI l nr B d→FI d fi At c→EOk env c d.P.Vars.length→env.length=c→(d.F.Code=0→∀p∈ks,kd l p=5→G9 d p)→B+2*n≤80000000000→∃d' env',Xt d5 (fi:Int) ((i7 ks,()),()) (c:Int) d env=yA d5 (fi:Int) ((i7 ks,()),()) d' env'∧RI l nr (B+2*n) d'∧FI d' fi At np∧EOk env' np d'.P.Vars.length∧env'.length=np∧Fx l fi d d' 0 0∧d'.F=d.F∧d'.P.Ps=d.P.Ps:=by
 have ew:w64 (((i7 ks).length:Int)-2)=(np:Int):=(by rw[B0,wrap64 (by omega) (by omega)];omega);have ew2:w64 ((np:Int)+1)=((np+1:Nat):Int):=y9 (by omega);intro n
 induction n with
 |zero=>intro c d env B hn hc hR hF hE he hG hB;have:c=np:=(by omega);subst this;rw[GP,Xx];simp only;rw[ew,d9 (by omega),f8];exact⟨d,env,rfl,hR,hF,hE,he,Fx.refl _ _ _ _ _,rfl,rfl⟩
 |succ n ih=>
  intro c d env B hn hc hR hF hE he hG hB;have hcl:c<ks.length:=(by omega);have hl1:np+1<ks.length:=(by omega);have hp:=hin _ (A4 hcl);have hnd:=hR.nodes;have hmk:=hR.marks;have hbig:=hR.big;have hpm:ks[c]<d.P.Ms.length:=(by omega);obtain⟨f,hf,hfa,hfs⟩:=hF.f;rw[GP,Xx];simp only;rw[ew,f6 (by omega),f9,C6 hcl,d6,E0,D7 hcl,d6,hnd,l4 hp,d6,d6,d6,l4 hpm,d6,ew2,C6 hl1,d6,E0,D7 hl1,d6,UU d fi f hf env (by omega) (by omega),d6,y9 (by omega)];have tI:d.F.Code=0→C7 d.P.To d.P.Ms[ks[c]].Ts:=fun hg=>by obtain⟨m,h1,h2⟩:=hG hg _ (A4 hcl) (hks c hcl (by omega));rw[o5 hpm]at h1;cases h1;exact h2
  have hcast:((c:Int)+1)=((c+1:Nat):Int):=(by omega);have hF2:=IW hF hf (by omega) l[ks[c]].Ds d.P.Ms[ks[c]].Ts (d.P.Ps.length:Int);have hE2:=OW (fi:=fi) (t:=d.P.Ms[ks[c]].Ts) hE (by omega) hfs l[ks[c]].Ds ((ks[np+1]:Nat):Int) (d.P.Ps.length:Int);rw[hcast]at hF2 hE2;obtain⟨d',env',r1,r2,r3,r4,r5,r6,r7,r8⟩:=ih (c+1) (U6 d fi f l[ks[c]].Ds d.P.Ms[ks[c]].Ts (d.P.Ps.length:Int)) _ (B+2) (by omega) (by omega) (WY hR hf _ _ _ tI) hF2 hE2 (by simp;exact he) (fun hg p hp' hp5=>hG hg p hp' hp5) (by omega);exact⟨d',env',r1,r2.more (by omega),r3,r4,r5,(DR l hf _ _ _ 0 0).trans r6 (i4 _) (i4 _) (i4 _) (i4 _),r7,r8⟩
section
variable{l:List d7}(hM:J9 l)(hl:l.length≤30000)(htx:∀n∈l,n.Ds.length≤65536)
include hM hl htx
theorem NI{ks:List Nat}{np k st c1:Nat}(hks:∀(i:Nat) (h1:i<ks.length),i<np→kd l ks[i]=5)(hty:∀h1:np<ks.length,14≤kd l ks[np]∧kd l ks[np]≤20)(hlen:ks.length=np+2)(hK:Kc l (k+1) st ks)(hc:∀h:np+1<ks.length,ks[np+1]=c1):∀i,k<i→i<c1→c1≤st→kd l i<7∨13<kd l i:=by
 intro i h1 h2 h3;obtain⟨p,hp,y,q2,a1,a2,a3,a4,a5,a6⟩:=hK.cover i (by omega) (by omega);obtain⟨j,hj,rfl⟩:=List.getElem_of_mem hp;by_cases cj:j<np
 ·have h5:=hks j hj cj;rw[p9 a1]at h5;obtain⟨st',kk,z1,z2,z3,z4,z5,z6,z7⟩:=hM.nd _ y a1;by_cases e:i=ks[j]
  ·rw[e,p9 a1];omega
  ·have est:st'=q2:=(by omega);subst est;obtain⟨k2,hk2,y2,q3,b1,b2,b3,b4,b5,b6⟩:=z5.cover i (by omega) a4;have hmem:E2 (kd l k2)∈E5 l kk:=List.mem_map.2 ⟨k2,hk2,rfl⟩;rw[z6.k3 (.inr (.inl h5))]at hmem;simp at hmem;have ht:=S6 hmem;rw[p9 b1]at ht;have:=Dv hM hl htx _ k2 y2 q3 b1 b2 rfl (by omega) i b3 b4;omega
 ·by_cases cn:j=np
  ·subst cn;have ht:=hty hj;rw[p9 a1]at ht;have:=Dv hM hl htx _ ks[j] y q2 a1 a2 rfl ht i a3 a4;omega
  ·have ej:j=np+1:=(by omega);subst ej;have:=hc hj;omega
theorem a5j(nr fi:Nat)(s:d8)(B:Nat)(hR:RI l nr B s)(f:t8)(hf:s.P.As[fi]? =some f)(hZ:f.Ss=0∧f.Es≤20)(hP:s.F.Code=0→PmF l s f)(hB:B+10*l.length≤70000000000):∃(s':d8) (k st:Nat) (x:d7),uN d5 s (fi:Int)=some ((s',()),())∧RI l nr (B+10*l.length) s'∧f.Gs=(k:Int)∧l[k]? =some x∧x.Ks=4∧x.Cs=(st:Int)-(k+1)∧Gx l fi s s' (k+1) st∧(s'.F.Code=0→∃f',s'.P.As[fi]? =some f'∧It l s' f')∧(s'.F.Code=0→PT l fi s s' k st):=by
 have hfl:=(l3.1 hf).1;have hnd:=hR.nodes;have hbig:=hR.big;unfold tot at hbig;obtain⟨k,x,hk,hx,hx4,hpn,_⟩:=hR.fn f (M7 hf);obtain⟨st,ks,t1,t2,t3,t4,t5,t6,t7⟩:=hM.nd k x hx;have hkl:=t5.le;obtain⟨np,n1,n2,n3,n4,n5⟩:=Ju t6 hx4;have hin:∀p∈ks,p<l.length:=fun p hp=>by obtain⟨_,h2,_⟩:=t5.mem p hp;omega
 have hz:([]:List t8).length+s.P.As.length≤100000000000:=(by rw[L6];omega);rw[a9B,bW,V3 (by decide) hz,d6,J4,l4 hfl,d6,E0,hf,d6,d6];simp only[Q5,d6];have g1:(s.P.As.set fi ⟨f.In,f.Gs,f.Es,f.By,s.P.Ss.length,f.Ss,f.Or,f.Ps⟩)[fi]? =some ⟨f.In,f.Gs,f.Es,f.By,s.P.Ss.length,f.Ss,f.Or,f.Ps⟩:=P3 hfl;have l1:fi<(s.P.As.set fi ⟨f.In,f.Gs,f.Es,f.By,s.P.Ss.length,f.Ss,f.Or,f.Ps⟩).length:=(by rw[Du];exact hfl);rw[l4 l1,d6,g1,d6,d6,List.set_set];simp only;have g2:(s.P.As.set fi ⟨f.In,f.Gs,f.Es,f.By,s.P.Ss.length,f.Ss,s.P.Ps.length,f.Ps⟩)[fi]? =some ⟨f.In,f.Gs,f.Es,f.By,s.P.Ss.length,f.Ss,s.P.Ps.length,f.Ps⟩:=P3 hfl;have l2:fi<(s.P.As.set fi ⟨f.In,f.Gs,f.Es,f.By,s.P.Ss.length,f.Ss,s.P.Ps.length,f.Ps⟩).length:=(by rw[Du];exact hfl);rw[l4 l2,d6,g2,d6,d6];simp only;rw[hnd,hk,T8 (by omega) hx t1 t3 t5,d6];have e0:(d8.mk (l9.mk l s.P.Ms s.P.To s.P.Rs s.P.Hs (s.P.As.set fi ⟨f.In,f.Gs,f.Es,f.By,s.P.Ss.length,f.Ss,s.P.Ps.length,f.Ps⟩) s.P.Ss s.P.Vars s.P.Ps) s.Rs s.F)=fnS s fi ⟨f.In,f.Gs,f.Es,f.By,s.P.Ss.length,f.Ss,s.P.Ps.length,f.Ps⟩:=(by rw[←hnd];rfl);rw[←hk,e0];have hR1:=VN hR hf (g:=⟨f.In,f.Gs,f.Es,f.By,s.P.Ss.length,f.Ss,s.P.Ps.length,f.Ps⟩) rfl rfl rfl;have hX1:=nL l hf (g:=⟨f.In,f.Gs,f.Es,f.By,s.P.Ss.length,f.Ss,s.P.Ps.length,f.Ps⟩) rfl rfl rfl (k+1) st;have hF1:FI (fnS s fi ⟨f.In,f.Gs,f.Es,f.By,s.P.Ss.length,f.Ss,s.P.Ps.length,f.Ps⟩) fi s.P.Ss.length ((0:Nat):Int):=⟨⟨_,g2,rfl,hZ.1⟩,by omega,by omega,by show(s.P.Ss.length:Int)+_=s.P.Ss.length;omega,by omega⟩;obtain⟨d',env',r1,r2,r3,r4,r5,r6,r7,r8⟩:=a9F hl nr fi s.P.Ss.length ks np n1 (by omega) hin n3 (by have:=hZ.2;omega) _ 0 (fnS s fi ⟨f.In,f.Gs,f.Es,f.By,s.P.Ss.length,f.Ss,s.P.Ps.length,f.Ps⟩) [] B rfl (C9 _) hR1 hF1 (fun v hv=>nomatch hv) rfl (fun hg p hp hp5=>hP hg k st x ks hk hx t1 t5 p hp hp5) (by omega);have hl1:np+1<ks.length:=(by omega);have ew:w64 (((i7 ks).length:Int)-2)=(np:Int):=(by rw[B0,wrap64 (by omega) (by omega)];omega);have ew2:w64 ((np:Int)+1)=((np+1:Nat):Int):=y9 (by omega);obtain⟨c1,hc1,hK⟩:=t5.drop (np+1) (by omega);rw[J8 hl1,N3 (by omega)]at hK;obtain⟨ek,y,q,hy,hys,hq1,hq2,hrest⟩:=hK.first
 have hq:q=st:=(by cases hrest;rfl);subst hq;have hy6:=n5 hl1;rw[ek,p9 hy]at hy6;obtain⟨s2,S2,k1,k2⟩:=(a59 hM hl htx nr fi s.P.Ss.length (q-c1)).1 c1 y q rfl hy hys hq1 t3 hy6 d' env' np _ r2 r3 r4 (by omega) (by omega);obtain⟨f2,hf2,hfa2,hfs2⟩:=k2.fi.f;have hfl2:=(l3.1 hf2).1;have hbig2:=k2.ri.big;unfold tot at hbig2;have hz2:([]:List t8).length+s2.P.As.length≤100000000000:=(by rw[L6];omega);have ei:(ks.map (fun(k:Nat)=>(k:Int)))=i7 ks:=rfl;rw[ei,show Xt d5 (fi:Int) ((i7 ks,()),()) 0 _ []=_ from r1,a7m,Yt];simp only;rw[ew,ew2,C6 hl1,d6,E0,D7 hl1,d6,ek,k1,d6];simp only;rw[V3 (by decide) hz2,d6,J4,l4 hfl2,d6,E0,hf2,d6,d6,d6,d6,d6];simp only[Q5,d6];have hX3:=nL l hf2 (g:=⟨f2.In,f2.Gs,f2.Es,f2.By,f2.At,f2.Ss,f2.Or,w64 ((s2.P.Ps.length:Int)-f2.Or)⟩) rfl rfl rfl (k+1) q;have hX:Gx l fi s (fnS s2 fi ⟨f2.In,f2.Gs,f2.Es,f2.By,f2.At,f2.Ss,f2.Or,w64 ((s2.P.Ps.length:Int)-f2.Or)⟩) (k+1) q:=by
  have hXp:Gx l fi (fnS s fi ⟨f.In,f.Gs,f.Es,f.By,s.P.Ss.length,f.Ss,s.P.Ps.length,f.Ps⟩) d' (k+1) q:=by have:=r6.gx;exact⟨this.types,fun i _=>this.marks i (by omega),this.par,this.recs,this.fields,this.own,this.bad,this.flen,this.foth,this.fcur,this.slots⟩
  exact((hX1.trans hXp (i4 _) (i4 _) (i4 _) (i4 _)).trans k2.fx.gx (i4 _) (i4 _) (by omega) (i4 _)).trans hX3 (i4 _) (i4 _) (i4 _) (i4 _)
 refine⟨_,k,q,x,rfl,RI.more (B:=B+2*(np-0)+6*(q-c1)) (VN k2.ri hf2 rfl rfl rfl) (by omega),hk,hx,hx4,t1,hX,fun hg=>?_,fun hg=>?_⟩
 ·obtain⟨f3,hf3,a1,a2,a3⟩:=hX.fcur f hf;have hself:(fnS s2 fi ⟨f2.In,f2.Gs,f2.Es,f2.By,f2.At,f2.Ss,f2.Or,w64 ((s2.P.Ps.length:Int)-f2.Or)⟩).P.As[fi]? =some ⟨f2.In,f2.Gs,f2.Es,f2.By,f2.At,f2.Ss,f2.Or,w64 ((s2.P.Ps.length:Int)-f2.Or)⟩:=(by unfold fnS;simp only;rw[P3 hfl2]);rw[hself]at hf3;cases hf3;have hsum:=k2.fi.sum;have hat:=k2.fi.at0;refine⟨_,hself,k,q,np,c1,x,ks,a1.trans hk,hx,t1,t5,n1,by rw[o5 hl1,ek],by rw[a2,hpn];exact n2,by simp only;omega,by have:=k2.sl;simp only;omega,by show f2.At+f2.Ss≤s2.P.Ss.length;omega,by have:=k2.fi.s2;show f2.Ss≤200;omega,fun i h1 h2=>?_⟩;obtain⟨z1,z2⟩:=k2.nd hg i h1 h2;rw[←hfs2]at z1 z2;exact⟨z1.gx (nL l hf2 (g:=⟨f2.In,f2.Gs,f2.Es,f2.By,f2.At,f2.Ss,f2.Or,w64 ((s2.P.Ps.length:Int)-f2.Or)⟩) rfl rfl rfl 0 0) (.inr (by omega)),z2.gx (nL l hf2 (g:=⟨f2.In,f2.Gs,f2.Es,f2.By,f2.At,f2.Ss,f2.Or,w64 ((s2.P.Ps.length:Int)-f2.Or)⟩) rfl rfl rfl 0 0) (.inr (by omega))⟩
 ·have hP:=k2.pt hg;have hnone:∀i,k≤i→i<c1→kd l i<7∨13<kd l i:=fun i h1 h2=>by
   by_cases e:i=k
   ·subst e;rw[p9 hx];omega
   ·exact NI hM hl htx n3 n4 n1 t5 (fun _=>ek) i (by omega) h2 (by omega)
  have e0:stI l k q=stI l c1 q:=(by rw[R8 l (show k≤c1 by omega) (show c1≤q by omega),Ep hnone,J4]);have eP:d'.P.Ps=s.P.Ps:=r8;refine⟨?_,fun i hi=>?_⟩
  ·show s2.P.Ps=_;rw[e0,hP.pts,eP]
  ·rw[e0]at hi;obtain⟨m,m1,m2⟩:=hP.num i hi;obtain⟨⟨c,_⟩,_⟩:=Ch hi;refine⟨m,m1,?_⟩;rw[m2,eP,R8 l (show k≤c1 by omega) c,Ep hnone,J4]
end
end
section
def en(l:List d7)(k:Nat):Nat:=match l[k]? with|some x=>k+1+x.Cs.toNat|none=>k
theorem eX{l:List d7}{k st:Nat}{x:d7}(hx:l[k]? =some x)(hs:x.Cs=(st:Int)-(k+1))(h:k+1≤st):en l k=st:=by unfold en;rw[hx];simp only;omega
def Y1(l:List d7):Nat→List Nat→List N4
 |_,[]=>[]
 |fi,k::ts=>(stI l k (en l k)).map (Kl l fi)++Y1 l (fi+1) ts
theorem Vz(l:List d7)(fi k:Nat)(ts:List Nat):Y1 l fi (k::ts)=(stI l k (en l k)).map (Kl l fi)++Y1 l (fi+1) ts:=rfl
theorem fU(l:List d7):∀(a b:List Nat) (fi:Nat),Y1 l fi (a++b)=Y1 l fi a++Y1 l (fi+a.length) b
 | [],b,fi=>rfl
 |k::a,b,fi=>by rw[List.cons_append,Vz,Vz,fU l a b (fi+1),G5,I5,show fi+1+a.length=fi+(a.length+1) by omega]
structure Pts(l:List d7)(s:d8)(ts:List Nat)(n:Nat):Prop where
 pts:s.P.Ps=Y1 l 0 (ts.take n)
 num:∀j k,j<n→ts[j]? =some k→∀p∈stI l k (en l k),∃m,s.P.Ms[p]? =some m∧m.Qs=((Y1 l 0 (ts.take j)).length:Int)+((stI l k p).length:Int)
theorem Pts.more{l:List d7}{s s':d8}{ts:List Nat}{n k lo hi:Nat}(h:Pts l s ts n)(hk:ts[n]? =some k)(hP:PT l n s s' k (en l k))(hm:∀i:Nat,(i<lo∨hi≤i)→s'.P.Ms[i]? =s.P.Ms[i]?)(hd:∀j k',j<n→ts[j]? =some k'→en l k'≤lo):Pts l s' ts (n+1):=by
 obtain⟨hnl,hne⟩:=l3.1 hk;have e:ts.take (n+1)=ts.take n++[k]:=(by rw[List.take_add_one,hk];rfl);have el:(ts.take n).length=n:=(by rw[List.length_take];omega);refine⟨?_,fun j k' hj hk' p hp=>?_⟩
 ·rw[hP.pts,h.pts,e,fU,el,Nat.zero_add];rw[Vz];exact congrArg _ (O1 _).symm
 ·by_cases c:j=n
  ·subst c;rw[hk]at hk';cases hk';obtain⟨m,m1,m2⟩:=hP.num p hp;exact⟨m,m1,by rw[m2,h.pts]⟩
  ·obtain⟨m,m1,m2⟩:=h.num j k' (by omega) hk' p hp;obtain⟨⟨_,d⟩,_⟩:=Ch hp;have:=hd j k' (by omega) hk';exact⟨m,by rw[hm p (.inl (by omega))];exact m1,m2⟩
structure Wp(l:List d7)(s:d8)(nr:Nat):Prop where
 ri:RI l nr 70000000000 s
 good:s.F.Code=0
 recs:s.P.Rs.length=nr
 nr100:nr≤100
 fns:∀f∈s.P.As,It l s f
 pm:∀f∈s.P.As,PmF l s f
 fn100:s.P.As.length≤100
 order:∃ts:List Nat,s.P.As.map t8.Gs=i7 ts∧ts.Pairwise (· < ·)
 pts:∃ts:List Nat,s.P.As.map t8.Gs=i7 ts∧Pts l s ts ts.length
section
variable{l:List d7}(hM:J9 l)
include hM
theorem a3k:∀(n b:Nat) (x:d7) (q:Nat),l[b]? =some x→x.Cs=(q:Int)-(b+1)→q-b=n→5≤x.Ks→∀j,b≤j→j<q→5≤kd l j:=by
 intro n
 induction n using Nat.strongRecOn with
 |_ n ih=>
 intro b x q hx hs hn hk j h1 h2;obtain⟨st,ks,t1,t2,t3,t4,t5,t6,t7⟩:=hM.nd b x hx;have est:st=q:=(by omega);subst est;by_cases e:j=b
 ·subst e;rw[p9 hx];exact hk
 obtain⟨k,hkm,y,q2,a1,a2,a3,a4,a5,a6⟩:=t5.cover j (by omega) h2;have hmem:E2 (kd l k)∈E5 l ks:=List.mem_map.2 ⟨k,hkm,rfl⟩;have hk5:5≤kd l k:=by
  by_cases c5:x.Ks=3∨x.Ks=5∨x.Ks=20
  ·rw[t6.k3 c5]at hmem;simp at hmem;have:=S6 hmem;omega
  by_cases c6:x.Ks=6
  ·have:=bZ (t6.k6 c6 _ hmem);omega
  by_cases c7:x.Ks=7
  ·rw[t6.k7 c7]at hmem;simp at hmem;rcases hmem with h|h
   ·have:=S6 h;omega
   ·have:=I0 h;omega
  by_cases c8:8≤x.Ks∧x.Ks≤13
  ·have:=BZ t6 c8 k hkm;omega
  by_cases c27:x.Ks=27
  ·have:=I0 (t6.k27 c27 _ hmem);omega
  by_cases c28:x.Ks=28∨x.Ks=31
  ·rw[t6.k28 c28]at hmem;simp at hmem;have:=I0 hmem;omega
  by_cases c29:x.Ks=12∨x.Ks=29∨x.Ks=30
  ·rw[t6.k12 c29]at hmem;simp at hmem;have:=I0 hmem;omega
  by_cases c32:x.Ks=32
  ·rcases t6.k32 c32 with⟨h,_⟩|⟨h,_⟩
   ·rw[h]at hmem;simp at hmem;have:=S6 hmem;omega
   ·rw[h]at hmem;simp at hmem;rcases hmem with h|h
    ·have:=S6 h;omega
    ·have:=I0 h;omega
  ·have:=(t6.kr (by omega)).1;rw[this]at hmem;exact nomatch hmem
 rw[p9 a1]at hk5;exact ih (q2-k) (by omega) k y q2 a1 a2 rfl hk5 j a3 a4
theorem DO(b:Nat)(x:d7)(q:Nat)(hx:l[b]? =some x)(hs:x.Cs=(q:Int)-(b+1))(hk:x.Ks=4):∀j,b<j→j<q→5≤kd l j:=by
 intro j h1 h2;obtain⟨st,ks,t1,t2,t3,t4,t5,t6,t7⟩:=hM.nd b x hx;have est:st=q:=(by omega);subst est;obtain⟨np,n1,n2,n3,n4,n5⟩:=Ju t6 hk;obtain⟨k,hkm,y,q2,a1,a2,a3,a4,a5,a6⟩:=t5.cover j (by omega) h2;obtain⟨i,hi,rfl⟩:=List.getElem_of_mem hkm;have hk5:5≤kd l ks[i]:=by
  by_cases c:i<np
  ·have:=n3 i hi c;omega
  ·by_cases c2:i=np
   ·subst c2;have:=n4 hi;omega
   ·have:i=np+1:=(by omega);subst this;have:=n5 hi;omega
 rw[p9 a1]at hk5;exact a3k hM _ ks[i] y q2 a1 a2 rfl hk5 j a3 a4
end
theorem Gx.nodes{l:List d7}{fi:Nat}{s s':d8}{lo hi:Nat}(h:Gx l fi s s' lo hi):s'.P.As.map t8.Gs=s.P.As.map t8.Gs:=by
 apply List.ext_getElem?
 intro i;rw[I6,I6];by_cases e:i=fi
 ·subst e;cases hf:s.P.As[i]? with
  |none=>
   have:s'.P.As[i]? =none:=by rw[List.getElem?_eq_none_iff]at hf⊢;rw[h.flen];exact hf
   rw[this]
  |some f=>obtain⟨f',a1,a2,_⟩:=h.fcur f hf;rw[a1];simp[a2]
 ·rw[h.foth i e]
theorem It.gx{l:List d7}{fi:Nat}{s s':d8}{lo hi:Nat}{f:t8}(h:It l s f)(e:Gx l fi s s' lo hi)(hd:∀(k st:Nat) (x:d7),f.Gs=(k:Int)→l[k]? =some x→x.Cs=(st:Int)-(k+1)→∀i,k<i→i<st→i<lo∨hi≤i):It l s' f:=by obtain⟨k,st,np,bp,x,ks,a1,a2,a3,a4,a5,a6,a7,a8,a9,a10,a12,a11⟩:=h;have hlen:=e.slots.length_le;refine⟨k,st,np,bp,x,ks,a1,a2,a3,a4,a5,a6,a7,a8,a9,by omega,a12,fun i h1 h2=>?_⟩;obtain⟨z1,z2⟩:=a11 i h1 h2;have hbp:=(a4.mem bp (M7 a6)).1;have:=hd k st x a1 a2 a3 i (by omega) h2;exact⟨z1.gx e this,z2.gx e this⟩
section
variable{l:List d7}(hM:J9 l)(hl:l.length≤30000)(htx:∀n∈l,n.Ds.length≤65536)
include hM hl htx
theorem a60(nr N:Nat)(hN:N≤100)(ts:List Nat)(hts:ts.Pairwise (· < ·)):∀(n i:Nat) (s:d8) (B:Nat),N-i=n→i≤N→RI l nr B s→s.P.As.length=N→s.P.As.map t8.Gs=i7 ts→(s.F.Code=0→(∀f∈s.P.As,PmF l s f)∧(∀(j:Nat) (f:t8),j<i→s.P.As[j]? =some f→It l s f))→(∀(j:Nat) (f:t8),i≤j→s.P.As[j]? =some f→f.Ss=0∧f.Es≤20)→B+(10*l.length)*n≤69000000000→(s.F.Code=0→Pts l s ts i)→∃s',He d5 (N:Int) (i:Int) s=Tm d5 s'∧RI l nr (B+(10*l.length)*n) s'∧s'.P.Rs=s.P.Rs∧s'.P.As.length=N∧s'.P.As.map t8.Gs=i7 ts∧(s.F.Code≠0→s'.F.Code≠0)∧(s'.F.Code=0→(∀f∈s'.P.As,PmF l s' f)∧(∀f∈s'.P.As,It l s' f)∧Pts l s' ts N):=by
 intro n
 induction n with
 |zero=>intro i s B hn hi hR hlen hmap hg hz hB hQ;rw[kX,Jw,d9 (by omega),f8];refine⟨s,rfl,hR.more (by omega),rfl,hlen,hmap,id,fun h=>⟨(hg h).1,fun f hf=>?_,(show i=N by omega)▸hQ h⟩⟩;obtain⟨j,hj,rfl⟩:=List.getElem_of_mem hf;exact(hg h).2 j _ (by omega) (o5 hj)
 |succ n ih=>
  intro i s B hn hi hR hlen hmap hg hz hB hQ;rw[Nat.mul_succ]at hB;have hil:i<s.P.As.length:=(by omega);rw[kX,Jw,f6 (by omega),f9,R1,d6,y9 (by omega)];by_cases cb:s.F.Code=0
  ·rw[f6 cb,A2,D5,f9];have hf:s.P.As[i]? =some s.P.As[i]:=o5 hil;obtain⟨s1,k,st,x,r1,r2,r3,r4,r5,r6,r7,r8,r9⟩:=a5j hM hl htx nr i s B hR _ hf (hz i _ (i4 _) hf) (fun _=>(hg cb).1 _ (A4 hil)) (by omega);have hmap1:=r7.nodes.trans hmap;have hkts:∃(h:i<ts.length),ts[i]=k:=by
    have h1:=congrArg (fun L=>L[i]?) hmap;simp only[I6,hf,F4]at h1;have hil2:i<ts.length:=by have:=congrArg List.length hmap;rw[E1,B0]at this;omega
    rw[D7 hil2,r3]at h1;injection h1 with h1
    exact⟨hil2,by omega⟩
   obtain⟨hit,hkt⟩:=hkts;rw[r1,d6];obtain⟨s',z1,z2,z3,z4,z5,z6,z7⟩:=ih (i+1) s1 (B+10*l.length) (by omega) (by omega) r2 (by rw[r7.flen];exact hlen) hmap1 (fun hg1=>by
    obtain⟨p1,p2⟩:=hg cb;refine⟨fun f hf1=>?_,fun j f hj hfj=>?_⟩
    ·
     obtain⟨j,hj,rfl⟩:=List.getElem_of_mem hf1;have hjs:j<s.P.As.length:=(by rw[←r7.flen];exact hj);have hnode:s1.P.As[j].Gs=s.P.As[j].Gs:=by have:=congrArg (fun L=>L[j]?) r7.nodes;simp only[I6,o5 hj,o5 hjs,F4]at this;injection this
     intro k0 st0 x0 ks0 a1 a2 a3 a4 p hp hp5;exact(p1 _ (A4 hjs) k0 st0 x0 ks0 (hnode.symm.trans a1) a2 a3 a4 p hp hp5).gx hp5 r7
    ·by_cases e:j=i
     ·subst e;obtain⟨f',b1,b2⟩:=r8 hg1;rw[hfj]at b1;cases b1;exact b2
     ·rw[r7.foth j e]at hfj;refine(p2 j f (by omega) hfj).gx r7 (fun k0 st0 x0 a1 a2 a3 i' h1 h2=>?_);have hjt:∃(h:j<ts.length),ts[j]=k0:=by
       have h1:=congrArg (fun L=>L[j]?) hmap;simp only[I6,hfj,F4]at h1;have hjl2:j<ts.length:=(by omega);rw[D7 hjl2,a1]at h1;injection h1 with h1
       exact⟨hjl2,by omega⟩
      obtain⟨hj2,hk2⟩:=hjt;have hlt:k0<k:=by have:=List.pairwise_iff_getElem.1 hts j i hj2 hit (by omega);omega
      have hx04:x0.Ks=4:=by obtain⟨kk,xx,c1,c2,c3,_⟩:=hR.fn f (M7 hfj);have:kk=k0:=(by omega);subst this;rw[a2]at c2;cases c2;exact c3
      have:¬k<st0:=fun hlt2=>by have:=DO hM k0 x0 st0 a2 a3 hx04 k hlt hlt2;rw[p9 r4]at this;omega
      left
      omega) (fun j f hj hfj=>by rw[r7.foth j (by omega)]at hfj;exact hz j f (by omega) hfj) (by omega) (fun hg1=>by
    have hst:=(hM.nd k x r4);obtain⟨st2,ks2,y1,y2,y3,y4,y5,_⟩:=hst;have yl:=y5.le;have hk1:k+1≤st:=(by omega);have hen:=eX r4 r6 hk1;refine(hQ cb).more (lo:=k+1) (hi:=st) (by rw[o5 hit,hkt]) (by rw[hen];exact r9 hg1) r7.marks (fun j k0 hj hk0=>?_);obtain⟨hjt,hjk⟩:=l3.1 hk0;have hjl:j<s.P.As.length:=(by omega);have hfj:s.P.As[j]? =some s.P.As[j]:=o5 hjl;have h1:=congrArg (fun L=>L[j]?) hmap;simp only[I6,hfj,F4]at h1;rw[D7 hjt]at h1;injection h1 with h1
    obtain⟨kk,xx,c1,c2,c3,_⟩:=hR.fn _ (A4 hjl);have ekk:kk=k0:=(by omega);subst ekk;have hlt:kk<k:=by have:=List.pairwise_iff_getElem.1 hts j i hjt hit (by omega);omega
    obtain⟨st3,ks3,w1,w2,w3,w4,w5,_⟩:=hM.nd kk xx c2;have wl:=w5.le;rw[eX c2 w1 (by omega)];have:¬k<st3:=fun hlt2=>by have:=DO hM kk xx st3 c2 w1 c3 k hlt hlt2;rw[p9 r4]at this;omega
    omega)
   exact⟨s',z1,z2.more (by rw[Nat.mul_succ];omega),z3.trans r7.recs,z4,z5,fun h=>absurd cb h,z7⟩
  ·rw[d9 cb,D5,A2,f8];obtain⟨s',z1,z2,z3,z4,z5,z6,z7⟩:=ih (i+1) s B (by omega) (by omega) hR hlen hmap (fun h=>absurd h cb) (fun j f hj hfj=>hz j f (by omega) hfj) (by omega) (fun h=>absurd h cb);exact⟨s',z1,z2.more (by rw[Nat.mul_succ];omega),z3,z4,z5,z6,z7⟩
theorem a7Y(N:Int)(s:d8)(hN:N≤100000000000)(hb:s.F.Code≠0):∀(n i:Nat),N.toNat-i=n→He d5 N (i:Int) s=Tm d5 s:=by
 intro n
 induction n with
 |zero=>intro i hi;rw[kX,Jw,d9 (by omega),f8]
 |succ n ih=>intro i hi;have e:=ih (i+1) (by omega);rw[kX,Jw,f6 (by omega),f9,R1,d6,d9 hb,y9 (by omega)];exact e
end
end
section
def Nt(l:List d7)(r:Option ((l9 × x8 × Unit) × Unit)):Prop:=∃(P:l9) (f:x8),r=some ((P,f,()),())∧(f.Code=0→∃s nr,P=s.P∧Wp l s nr∧J9 l)
theorem NL(s:d8)(f:x8):tot ⟨s.P,s.Rs,f⟩=tot s:=rfl
theorem a1u(l:List d7)(s:d8)(hb:s.F.Code≠0):Nt l (Tm d5 s):=by rw[NG,Qd,R1,d6,d9 hb];exact⟨_,_,rfl,fun h=>absurd h hb⟩
section
variable{l:List d7}(hM:J9 l)(hl:l.length≤30000)(htx:∀n∈l,n.Ds.length≤65536)
include hM hl htx
theorem wW(s:d8)(hb:s.F.Code≠0)(ht:tot s≤90000000000):Nt l (Ka d5 s):=by have hf:s.P.As.length≤tot s:=(by unfold tot;omega);rw[FZ,Vt,show He d5 (s.P.As.length:Int) 0 s=_ from a7Y hM hl htx (s.P.As.length:Int) s (by omega) hb _ 0 rfl];exact a1u l s hb
theorem QF{nr:Nat}(hnr:nr≤100){s:d8}(hR:RI l nr (40*(l.length+10)*(l.length+10)) s)(hrec:s.F.Code=0→s.P.Rs.length=nr)(hZ:∀f∈s.P.As,f.At=0∧f.Ss=0∧f.Es≤20)(hP:s.F.Code=0→(∀f∈s.P.As,PmF l s f)∧(∃ts:List Nat,s.P.As.map t8.Gs=i7 ts∧ts.Pairwise (· < ·))∧s.P.As.length≤100)(hP0:s.P.Ps=[]):Nt l (lJ d5 s):=by
 have e2:40*(l.length+10)*(l.length+10)=40*((l.length+10)*(l.length+10)):=Nat.mul_assoc _ _ _;have hsq2:(l.length+10)*(l.length+10)≤30010*30010:=Nat.mul_le_mul (by omega) (by omega);have hbig:=hR.big;have ht:tot s≤90000000000:=Q4 hbig (by rw[e2];exact Q4 (Nat.mul_le_mul_left 40 hsq2) (by decide));have hfl:s.P.As.length≤tot s:=(by unfold tot;omega);rw[b02,kR,R1,d6];by_cases cb:s.F.Code=0
 ·rw[f6 cb,A2,D5,f9];obtain⟨hp1,⟨ts,hp2,hp3⟩,hp4⟩:=hP cb;obtain⟨n,hn,n1,n2⟩:=SE s (by omega) ([109,97,105,110]:b38);rw[hn,d6];by_cases c0:n<0
  ·rw[f6 c0];exact wW hM hl htx ⟨s.P,s.Rs,⟨11,0,0⟩⟩ (show(11:Int)≠0 by decide) (by rw[NL];exact ht)
  ·have en:n=((n.toNat:Nat):Int):=(by omega);have hnl:n.toNat<s.P.As.length:=(by omega);have hft:s.P.As[n.toNat]? =some s.P.As[n.toNat]:=o5 hnl;have ok:Nt l (Ka d5 s):=by
    have hlen2:(10*l.length)*s.P.As.length≤(10*l.length)*100:=Nat.mul_le_mul_left _ hp4;obtain⟨s',z1,z2,z3,z4,z5,z6,z7⟩:=a60 hM hl htx nr s.P.As.length hp4 ts hp3 _ 0 s _ rfl (C9 _) hR rfl hp2 (fun _=>⟨hp1,fun j f hj _=>absurd hj (Nat.not_lt_zero _)⟩) (fun j f _ hf=>(hZ f (M7 hf)).2) (by simp only[Nat.sub_zero];omega) (fun _=>⟨hP0,fun j k hj=>absurd hj (Nat.not_lt_zero _)⟩);have hNt:ts.length=s.P.As.length:=by have:=congrArg List.length hp2;rw[E1,B0]at this;omega
    rw[FZ,Vt,show He d5 (s.P.As.length:Int) 0 s=_ from z1,NG,Qd,R1,d6];by_cases cg:s'.F.Code=0
    ·rw[f6 cg];simp only[Nat.sub_zero]at z2;exact⟨_,_,rfl,fun _=>⟨s',nr,rfl,⟨z2.more (by omega),cg,by rw[z3];exact hrec cb,hnr,(z7 cg).2.1,(z7 cg).1,by omega,⟨ts,z5,hp3⟩,⟨ts,z5,by rw[hNt];exact(z7 cg).2.2⟩⟩,hM⟩⟩
    ·rw[d9 cg];exact⟨_,_,rfl,fun h=>absurd h cg⟩
   have j2:Nt l (qP d5 ((n,()),()) s):=by obtain⟨k,x,a1,a2,_⟩:=hR.fn _ (A4 hnl);have hkl:=(l3.1 a2).1;obtain⟨f,f1,f2⟩:=W9 s 11 (by decide) k (by rw[hR.nodes];exact hkl);rw[a5y,Zo];simp only;rw[en,l4 hnl,d6,E0,hft,d6,d6,a1,Lu,f1,d6];exact wW hM hl htx ⟨s.P,s.Rs,f⟩ f2 (by rw[NL];exact ht)
   have gN:f5 s.P.As n=some s.P.As[n.toNat]:=Jz (by omega) n2;have gT:s.P.As[Int.toNat n]? =some s.P.As[n.toNat]:=hft;rw[d9 c0,f8];simp only;rw[gN,d6,gT,d6,d6];cases decide (s.P.As[n.toNat].Es>0)with
   |true=>exact j2
   |false=>
    rw[f8,d6,d6,d6];cases decide (s.P.As[n.toNat].By=0)with
    |true=>exact ok
    |false=>exact j2
 ·rw[d9 cb];exact wW hM hl htx s cb ht
end
theorem a7a{l:List d7}(hl:l.length≤30000)(htx:∀n∈l,n.Ds.length≤65536):Nt l (wL d5 l):=by
 obtain⟨b,h1,h2⟩:=NP (by omega) htx;rw[a1Q,fW,h1,d6];cases b with
 |false=>exact⟨_,_,rfl,fun h=>absurd h (by decide)⟩
 |true=>
  have hM:=h2 rfl;have o24:Hz 24 (l.length:Int):=(by unfold Hz maxLen;omega);obtain⟨s1,nr,g1,g2,g3⟩:=b3q hM hl htx (List.replicate (Int.toNat (l.length:Int)) ⟨0,0,0⟩) (by simp) (fun m hm=>by rw[List.eq_of_mem_replicate hm]);have e1:20*(l.length+10)*(l.length+10)=20*((l.length+10)*(l.length+10)):=Nat.mul_assoc _ _ _;have e2:40*(l.length+10)*(l.length+10)=40*((l.length+10)*(l.length+10)):=Nat.mul_assoc _ _ _;rw[A2,f8,T7 o24,d6,g1,d6,R1,d6];by_cases cb:s1.F.Code=0
  ·obtain⟨s2,k1,k2,k3,k4,k5⟩:=b1t hM hl htx g2;rw[f6 cb,A2,D5,f9,k1,d6];exact QF hM hl htx g3 k2 (fun hg=>by rw[k3.recs];exact g2.recs cb) k4 k5 (by rw[k3.points];exact g2.points)
  ·rw[d9 cb,D5,A2,f8];exact QF hM hl htx g3 (g2.ri.more (by omega)) (fun hg=>absurd hg cb) (fun f hf=>by rw[g2.fns]at hf;exact nomatch hf) (fun hg=>absurd hg cb) g2.points
end
section
structure CI(l:List d7)(P:l9)(c:i9):Prop where
 nodes:c.L=l
 prog:c.P=P
 tys:c.T=P.To
 len:c.M.length=l.length
 ty:∀m∈c.M,0≤m.Ts∧m.Ts<P.To.length
 rf:∀(i:Nat) (m:i8),c.M[i]? =some m→∃m0,P.Ms[i]? =some m0∧m.Qs=m0.Qs∧(kd l i≠29→m.Do=m0.Do)∧(kd l i<21∨kd l i=32→m.Ts=m0.Ts)
theorem CI.fault{l:List d7}{P:l9}{c:i9}(h:CI l P c)(f:x8):CI l P ⟨c.L,c.M,c.P,c.T,f,c.By⟩:=⟨h.nodes,h.prog,h.tys,h.len,h.ty,h.rf⟩
structure Cx(c c':i9)(lo hi:Nat):Prop where
 marks:∀i:Nat,(i<lo∨hi≤i)→c'.M[i]? =c.M[i]?
 res:c'.By=c.By
 bad:c.F.Code≠0→c'.F.Code≠0
theorem Cx.refl(c:i9)(lo hi:Nat):Cx c c lo hi:=⟨fun _ _=>rfl,rfl,id⟩
theorem Cx.trans{c c' c'':i9}{lo hi lo' hi' lo2 hi2:Nat}(h:Cx c c' lo hi)(h':Cx c' c'' lo' hi')(a:lo2≤lo)(b:hi≤hi2)(d:lo2≤lo')(e:hi'≤hi2):Cx c c'' lo2 hi2:=⟨fun i hi=>(h'.marks i (by omega)).trans (h.marks i (by omega)),h'.res.trans h.res,fun hb=>h'.bad (h.bad hb)⟩
theorem Cx.fault(c:i9)(f:x8)(hf:f.Code≠0)(lo hi:Nat):Cx c ⟨c.L,c.M,c.P,c.T,f,c.By⟩ lo hi:=⟨fun _ _=>rfl,rfl,fun _=>hf⟩
theorem Im(c:i9)(e:Int)(he:e≠0)(i:Nat)(hi:i<c.L.length):∃f:x8,Eh d5 c e (i:Int)=some (((⟨c.L,c.M,c.P,c.T,f,c.By⟩:i9),()),())∧f.Code≠0:=by
 rw[a5Q,sM];by_cases cb:c.F.Code=0
 ·rw[f6 cb,f9,l4 hi,d6,d6];exact⟨_,rfl,he⟩
 ·rw[d9 cb];exact⟨c.F,rfl,cb⟩
theorem X3(c:i9)(b:Bool)(i:Nat)(hi:i<c.L.length):∃f:x8,J5 d5 c b (i:Int)=some (((⟨c.L,c.M,c.P,c.T,f,c.By⟩:i9),()),())∧(f.Code=0→c.F.Code=0∧b=true):=by
 rw[b1T,qR];cases b with
 |true=>exact⟨c.F,rfl,fun h=>⟨h,rfl⟩⟩
 |false=>obtain⟨f,f1,f2⟩:=Im c 9 (by decide) i hi;rw[f8,f1];exact⟨f,rfl,fun h=>absurd h f2⟩
theorem a6M(T:List o0)(a b:Int):∃r,AY d5 T a b=some ((r,()),())∧(r=true→0≤a∧a<T.length∧0≤b∧b<T.length∧(a=b∨a=5)):=by
 rw[a8R,dL];by_cases a0:a<0
 ·rw[f6 a0];exact⟨_,rfl,fun h=>nomatch h⟩
 by_cases b0:b<0
 ·rw[d9 a0,f6 b0];exact⟨_,rfl,fun h=>nomatch h⟩
 by_cases a1:a≥(T.length:Int)
 ·rw[d9 a0,d9 b0,f6 a1];exact⟨_,rfl,fun h=>nomatch h⟩
 by_cases b1:b≥(T.length:Int)
 ·rw[d9 a0,d9 b0,d9 a1,f6 b1];exact⟨_,rfl,fun h=>nomatch h⟩
 rw[d9 a0,d9 b0,d9 a1,d9 b1,f8,f8,f8,f8];by_cases a5:a=5
 ·have g:f5 T b=some T[b.toNat]:=Jz (by omega) (by omega);rw[f6 a5,f9,g,d6,d6];cases decide (T[b.toNat].Ks=6)with
  |true=>exact⟨_,rfl,fun _=>⟨by omega,by omega,by omega,by omega,.inr a5⟩⟩
  |false=>
   rw[f8];cases decide (T[b.toNat].Ks=7)with
   |true=>exact⟨_,rfl,fun _=>⟨by omega,by omega,by omega,by omega,.inr a5⟩⟩
   |false=>exact⟨_,rfl,fun _=>⟨by omega,by omega,by omega,by omega,.inr a5⟩⟩
 ·rw[d9 a5];exact⟨_,rfl,fun h=>⟨by omega,by omega,by omega,by omega,.inl (D3 h)⟩⟩
theorem Oc(c:i9)(a b:Int):∃r,Ae d5 c a b=some ((r,()),())∧(r=true→0≤a∧a<c.T.length∧0≤b∧b<c.T.length∧(a=b∨a=5)):=by obtain⟨r,h1,h2⟩:=a6M c.T a b;rw[a42,cQ,h1];exact⟨r,rfl,h2⟩
theorem Qn(c:i9)(t:Int)(h0:0≤t)(h1:t<c.T.length):∃x,c.T[t.toNat]? =some x∧f5 c.T t=some x∧Lf d5 c t=some ((x.Ks,()),()):=by have hl:t.toNat<c.T.length:=(by omega);have g:f5 c.T t=some c.T[t.toNat]:=Jz h0 h1;refine⟨c.T[t.toNat],o5 hl,g,?_⟩;rw[a1w,oN,g];rfl
theorem a1O(c:i9)(t x:Int)(h0:0≤t)(h1:t<c.T.length)(hT:∀y,c.T[0]? =some y→y.Ks≠7):∃r,wA d5 c t x=some ((r,()),())∧(r=true→t≠0):=by
 obtain⟨y,y1,y2,y3⟩:=Qn c t h0 h1;rw[a94,gO];cases decide (x=105)with
 |true=>exact⟨_,rfl,fun h=>by have:=D3 h;omega⟩
 |false=>
  rw[f8];cases decide (x=99)with
  |true=>exact⟨_,rfl,fun h=>by have:=D3 h;omega⟩
  |false=>
   rw[f8];cases decide (x=108)with
   |true=>
    rw[f9];by_cases c3:t=3
    ·rw[f6 c3];exact⟨_,rfl,fun _=>by omega⟩
    ·rw[d9 c3,f8,y3,d6];refine⟨_,rfl,fun h=>?_⟩;have hk:=D3 h;rintro rfl;exact hT y y1 hk
   |false=>
    rw[f8];by_cases c1:t=1
    ·rw[f6 c1];exact⟨_,rfl,fun _=>by omega⟩
    ·rw[d9 c1,f8];by_cases c2:t=2
     ·rw[f6 c2];exact⟨_,rfl,fun _=>by omega⟩
     ·rw[d9 c2];exact⟨_,rfl,fun h=>by have:=D3 h;omega⟩
def Hj(c:i9)(i:Nat)(m:i8)(t:Int):i9:=⟨c.L,c.M.set i ⟨t,m.Do,m.Qs⟩,c.P,c.T,c.F,c.By⟩
theorem a5I(c:i9)(hl:c.M.length≤90000000)(i:Nat)(m:i8)(hm:c.M[i]? =some m)(t:Int):tV d5 c (i:Int) t=some ((Hj c i m t,()),()):=by have hi:=(l3.1 hm).1;have hz:([]:List i8).length+c.M.length≤100000000:=(by rw[L6];omega);rw[a4Y,fC,H8 (by decide) hz,d6,J4,l4 hi,d6,E0,hm,d6,d6];rfl
theorem CI.typed{l:List d7}{P:l9}{c:i9}(h:CI l P c){i:Nat}{m:i8}(hm:c.M[i]? =some m)(t:Int)(h0:0≤t)(h1:t<P.To.length)(hk:21≤kd l i)(h32:kd l i=32→t=m.Ts):CI l P (Hj c i m t):=by
 have hi:=(l3.1 hm).1;refine⟨h.nodes,h.prog,h.tys,by unfold Hj;simp only[Du];exact h.len,fun x hx=>?_,fun j x hx=>?_⟩
 ·rcases List.mem_or_eq_of_mem_set hx with hx|rfl
  ·exact h.ty x hx
  ·exact⟨h0,h1⟩
 ·unfold Hj at hx;simp only at hx;by_cases e:j=i
  ·subst e;rw[P3 hi]at hx;cases hx;obtain⟨m0,a1,a2,a3,a4⟩:=h.rf j m hm;exact⟨m0,a1,a2,a3,fun hh=>by
    rcases hh with hh|hh
    ·omega
    ·show t=m0.Ts;rw[h32 hh];exact a4 (.inr hh)⟩
  ·rw[Y0 (Ne.symm e)]at hx;exact h.rf j x hx
theorem Cx.typed(c:i9)(i:Nat)(m:i8)(t:Int)(lo hi:Nat)(h1:lo≤i)(h2:i<hi):Cx c (Hj c i m t) lo hi:=⟨fun j hj=>by unfold Hj;simp only;rw[Y0 (by omega)],rfl,id⟩
def Pm(n:Int):Nat:=if n=5 then 2 else if n=0∨n=7 then 0 else 1
theorem b2e(n:Int)(h1:1≤n)(h8:n≤8):∃(row:b38) (t:Int),CW d5 n=some ((row,t,()),())∧row.length=Pm n∧1≤t∧t≤4:=by have:n=1∨n=2∨n=3∨n=4∨n=5∨n=6∨n=7∨n=8:=(by omega);rw[ZM,iB];rcases this with rfl|rfl|rfl|rfl|rfl|rfl|rfl|rfl<;>exact⟨_,_,rfl,rfl,by decide,by decide⟩
theorem a54(c:i9)(op a b:Int)(h6:6≤c.T.length)(hT:∀y,c.T[0]? =some y→y.Ks<5)(a0:0≤a)(a1:a<c.T.length)(b0:0≤b)(b1:b<c.T.length):∃r:Int,xN d5 c op a b=some ((r,()),())∧0≤r∧r≤4∧(0<r→a≠0∧b≠0):=by
 obtain⟨x,x1,x2,x3⟩:=Qn c a a0 a1;obtain⟨y,y1,y2,y3⟩:=Qn c b b0 b1;have none:∃r:Int,Gc d5=some ((r,()),())∧0≤r∧r≤4∧(0<r→a≠0∧b≠0):=⟨0,a3i,by omega,by omega,fun h=>by omega⟩;have zero:∃r:Int,(some ((0,()),()):Option RT2)=some ((r,()),())∧0≤r∧r≤4∧(0<r→a≠0∧b≠0):=⟨0,rfl,by omega,by omega,fun h=>by omega⟩;have j0:∃r:Int,pW d5 a b=some ((r,()),())∧0≤r∧r≤4∧(0<r→a≠0∧b≠0):=by
  rw[a1Z,Za];by_cases e:a=b
  ·rw[f6 e,f9];by_cases p:a>0
   ·rw[f6 p];exact⟨2,rfl,by omega,by omega,fun _=>by omega⟩
   ·rw[d9 p];exact none
  ·rw[d9 e];exact none
 have j1:∃r:Int,bD d5 a b ((x.Ks,()),()) ((y.Ks,()),()) c=some ((r,()),())∧0≤r∧r≤4∧(0<r→a≠0∧b≠0):=by
  rw[b19,oS];by_cases xa:x.Ks≥5
  ·by_cases ya:y.Ks≥5
   ·have na:a≠0:=(by rintro rfl;have:=hT x x1;omega);have nb:b≠0:=(by rintro rfl;have:=hT y y1;omega);obtain⟨r1,g1,_⟩:=Oc c a b;obtain⟨r2,g2,_⟩:=Oc c b a;have two:∃r:Int,(((Ae d5 c a b)).bind fun(f:RT0)=>(cond f.1.1 (some ((2,()),())) (((Ae d5 c b a)).bind fun(h:RT0)=>(cond h.1.1 (some ((2,()),())) (some ((0,()),()))))))=some ((r,()),())∧0≤r∧r≤4∧(0<r→a≠0∧b≠0):=by
     rw[g1,g2];cases r1 with
     |true=>exact⟨2,rfl,by omega,by omega,fun _=>⟨na,nb⟩⟩
     |false=>
      cases r2 with
      |true=>exact⟨2,rfl,by omega,by omega,fun _=>⟨na,nb⟩⟩
      |false=>exact⟨0,rfl,by omega,by omega,fun _=>⟨na,nb⟩⟩
    rw[f6 xa,f6 ya,f9,f9];cases decide (x.Ks=5)with
    |false=>exact two
    |true=>
     rw[A2,f8];cases decide (y.Ks=5)with
     |false=>exact two
     |true=>exact zero
   ·rw[f6 xa,d9 ya];exact j0
  ·rw[d9 xa];exact j0
 rw[a4o,sS,x3,d6,y3,d6];by_cases o6:op=6
 ·rw[f6 o6];exact j1
 by_cases o7:op=7
 ·rw[d9 o6,f6 o7];exact j1
 rw[d9 o6,d9 o7,f8,f8];by_cases e:a=b
 ·have j2:∃r:Int,dI d5 a=some ((r,()),())∧0≤r∧r≤4∧(0<r→a≠0∧b≠0):=by
   rw[a03,iG];by_cases c2:a=2
   ·rw[f6 c2];exact⟨2,rfl,by omega,by omega,fun _=>by omega⟩
   ·rw[d9 c2];exact none
  have j3:∃r:Int,dS d5 op a=some ((r,()),())∧0≤r∧r≤4∧(0<r→a≠0∧b≠0):=by
   rw[a6d,lL];by_cases c3:a=3
   ·rw[f6 c3,f9];by_cases o1:op=1
    ·rw[f6 o1];exact⟨3,rfl,by omega,by omega,fun _=>by omega⟩
    ·rw[d9 o1];exact none
   ·rw[d9 c3];exact none
  rw[f6 e,A2,f8];by_cases o14:op=14
  ·rw[f6 o14];exact j2
  by_cases o15:op=15
  ·rw[d9 o14,f6 o15];exact j2
  rw[d9 o14,d9 o15,f8,f8];by_cases o8:op≥8
  ·rw[f6 o8,f9];by_cases c1:a=1
   ·rw[f6 c1];exact⟨2,rfl,by omega,by omega,fun _=>by omega⟩
   ·rw[d9 c1];exact none
  ·rw[d9 o8,f8];by_cases c1:a=1
   ·rw[f6 c1];exact⟨1,rfl,by omega,by omega,fun _=>by omega⟩
   ·rw[d9 c1,f8];by_cases c4:a=4
    ·rw[f6 c4,f9];by_cases o3:op≤3
     ·rw[f6 o3];exact⟨4,rfl,by omega,by omega,fun _=>by omega⟩
     ·rw[d9 o3];exact j3
    ·rw[d9 c4];exact j3
 ·rw[d9 e];exact zero
end
section
structure W4(l:List d7)(P:l9)(nr:Nat):Prop where
 may:J9 l
 small:l.length≤30000
 tx:∀n∈l,n.Ds.length≤65536
 ty:Y2 nr P.To
 tl:P.To.length≤70000000000
 recs:P.Rs.length=nr
 fl:∀f∈P.Hs,C7 P.To f.Ts
 fll:P.Hs.length≤70000000000
 rc:∀r∈P.Rs,0≤r.Us∧0≤r.Vs∧r.Us+r.Vs≤P.Hs.length
 fnr:∀f∈P.As,f.By=0∨C7 P.To f.By
 fnp:∀f∈P.As,0≤f.At∧0≤f.Es∧f.At+f.Es≤P.Ss.length
 sll:P.Ss.length≤70000000000
 sl:∀t∈P.Ss,C7 P.To t
structure EnC(l:List d7)(P:l9)(i:Nat):Prop where
 k26:kd l i=26→∃m,P.Ms[i]? =some m∧C7 P.To m.Ts
 k27:kd l i=27→∃m,P.Ms[i]? =some m∧(-8≤m.Do∧m.Do≤ -1∨0≤m.Do∧m.Do<P.As.length)
 k32:kd l i=32→∃m,P.Ms[i]? =some m∧C7 P.To m.Ts
 k7:kd l i=7→∃m,P.Ms[i]? =some m∧C7 P.To m.Ts
structure EF(l:List d7)(P:l9)(M:List i8)(i:Nat):Prop where
 k27:kd l i=27→∀(x:d7) (st:Nat) (ks:List Nat),l[i]? =some x→x.Cs=(st:Int)-(i+1)→Kc l (i+1) st ks→∃m,M[i]? =some m∧(m.Do<0→ -8≤m.Do∧ks.length=Pm (-m.Do)∧m.Ts≠0)∧(0≤m.Do→∃f,P.As[m.Do.toNat]? =some f∧f.Es=ks.length∧m.Ts=f.By)
 k29:kd l i=29→∃m,M[i]? =some m∧0≤m.Do
 kid:21≤kd l i→∀(x:d7) (st:Nat) (ks:List Nat),l[i]? =some x→x.Cs=(st:Int)-(i+1)→Kc l (i+1) st ks→∀k∈ks,21≤kd l k→∃m,M[k]? =some m∧m.Ts≠0
theorem EF.same{l:List d7}{P:l9}{M M':List i8}{i:Nat}{x:d7}{st:Nat}(h:EF l P M i)(hx:l[i]? =some x)(hs:x.Cs=(st:Int)-(i+1))(e:∀j,i≤j→j<st→M'[j]? =M[j]?)(hst:i+1≤st):EF l P M' i:=by
 refine⟨fun hk y st' ks a1 a2 a3=>?_,fun hk=>?_,fun hk y st' ks a1 a2 a3 k hkm hk2=>?_⟩
 ·obtain⟨m,b1,b2,b3⟩:=h.k27 hk y st' ks a1 a2 a3;exact⟨m,by rw[e i (i4 _) (by omega)];exact b1,b2,b3⟩
 ·obtain⟨m,b1,b2⟩:=h.k29 hk;exact⟨m,by rw[e i (i4 _) (by omega)];exact b1,b2⟩
 ·obtain⟨m,b1,b2⟩:=h.kid hk y st' ks a1 a2 a3 k hkm hk2;rw[hx]at a1;cases a1;obtain⟨c1,c2,_⟩:=a3.mem k hkm;exact⟨m,by rw[e k (by omega) (by omega)];exact b1,b2⟩
theorem EF.other{l:List d7}{P:l9}{M:List i8}{i:Nat}(h:kd l i<21):EF l P M i:=⟨fun hk=>by omega,fun hk=>by omega,fun hk=>by omega⟩
def Xb(l:List d7)(P:l9)(n:Nat):Prop:=∀(b:Nat) (x:d7) (q:Nat),q-b=n→l[b]? =some x→x.Cs=(q:Int)-(b+1)→b+1≤q→q≤l.length→21≤x.Ks→x.Ks≤32→∀c:i9,CI l P c→(∀i,b≤i→i<q→c.M[i]? =P.Ms[i]?∧EnC l P i)→
 ∃t c',Q8 d5 c (b:Int)=some ((t,c',()),())∧CI l P c'∧Cx c c' b q∧0≤t∧t<P.To.length∧(c'.F.Code=0→(x.Ks≠27→t≠0)∧(∃m,c'.M[b]? =some m∧m.Ts=t)∧∀i,b≤i→i<q→EF l P c'.M i)
section
variable{l:List d7}{P:l9}{nr:Nat}(hC:W4 l P nr)
include hC
theorem b3M(at0:Nat)(ks:List Nat)(hkl:ks.length≤l.length)(hks:∀p∈ks,21≤kd l p∧kd l p≤32)(st:Nat)(hst:st≤l.length)(N:Nat)(ih:∀m,m<N→Xb l P m):∀(n e c0:Nat) (d:i9) (hv:List Int),ks.length-e=n→e≤ks.length→Kc l c0 st (ks.drop e)→st-c0<N→CI l P d→(∀i,c0≤i→i<st→d.M[i]? =P.Ms[i]?∧EnC l P i)→hv.length=e→(∀t∈hv,0≤t∧t<(P.To.length:Int))→∃d' hv',Xh d5 (at0:Int) ((i7 ks,()),()) (e:Int) d hv=AD d5 (at0:Int) d' ((i7 ks,()),()) hv'∧CI l P d'∧Cx d d' c0 st∧hv'.length=ks.length∧(∀t∈hv',0≤t∧t<(P.To.length:Int))∧hv<+:hv'∧(d'.F.Code=0→(∀(j:Nat) (hj:j<ks.length),e≤j→∃m,d'.M[ks[j]]? =some m∧hv'[j]? =some m.Ts)∧∀i,c0≤i→i<st→EF l P d'.M i):=by
 intro n;have hsm:=hC.small
 induction n with
 |zero=>
  intro e c0 d hv hn he hK hN hI hM hl hr;have hc:c0=st:=by rw[N3 (by omega)]at hK;cases hK;rfl
  rw[LW,Re];simp only[B0];rw[d9 (by omega),f8];exact⟨d,hv,rfl,hI,Cx.refl _ _ _,by omega,hr,L7 _,fun _=>⟨fun j hj hje=>by omega,fun i h1 h2=>by omega⟩⟩
 |succ n ihn=>
  intro e c0 d hv hn he hK hN hI hM hl hr;have hel:e<ks.length:=(by omega);have g:=C6 hel;have ga:=D7 hel;rw[J8 hel]at hK;obtain⟨ek,y,q,hy,hys,hq1,hq2,hrest⟩:=hK.first
  have hky:=hks _ (A4 hel);rw[ek,p9 hy]at hky;have n1:ks.length-(e+1)=n:=(by omega);have n2:e+1≤ks.length:=(by omega);have n3:st-q<N:=(by omega);have n4:q≤st:=hq2;have n5:c0≤q:=(by omega);have n6:hv.length+1≤100000000:=(by omega);have n7:w64 ((e:Int)+1)=((e+1:Nat):Int):=y9 (by omega);have n8:(e:Int)<(ks.length:Int):=(by omega);have n9:hv.length+1=e+1:=(by omega);obtain⟨t,d1,r1,r2,r3,r4,r5,r6⟩:=ih (q-c0) (by omega) c0 y q rfl hy hys hq1 (by omega) hky.1 hky.2 d hI (fun i h1 h2=>hM i h1 (by omega));have hz:hv.length+ [t].length≤100000000:=n6;rw[LW,Re];simp only[B0];rw[f6 n8,f9,g,d6,E0,ga,d6,ek,r1,d6];simp only;rw[H8 (by decide) hz,d6,n7];obtain⟨d',hv',k1,k2,k3,k4,k5,k6,k7⟩:=ihn (e+1) q d1 (hv++[t]) n1 n2 hrest n3 r2 (fun i h1 h2=>by rw[r3.marks i (.inr h1)];exact hM i (Q4 n5 h1) h2) (by rw[o9,A3];exact n9) (fun x hx=>by
   rcases A7.1 hx with hx|hx
   ·exact hr x hx
   ·rw[O0.1 hx];exact⟨r4,r5⟩)
  refine⟨d',hv',k1,k2,r3.trans k3 (i4 _) hq2 n5 (i4 _),k4,k5,(List.prefix_append _ _).trans k6,fun hg=>?_⟩;obtain⟨z1,z2⟩:=k7 hg;have hg1:d1.F.Code=0:=S9 fun hc=>k3.bad hc hg;obtain⟨w1,⟨m,w2,w3⟩,w4⟩:=r6 hg1;clear r6 k7;refine⟨fun j hj hje=>?_,fun i h1 h2=>?_⟩
  ·by_cases ej:j=e
   ·subst ej;refine⟨m,by rw[ek,k3.marks c0 (.inl (by omega))];exact w2,?_⟩;have hp:(hv++[t])[j]? =some t:=(by rw[Z5 (by omega),hl,Xz];rfl);have hlt:j<(hv++[t]).length:=(by rw[o9,A3];omega);obtain⟨tl',htl⟩:=k6;rw[←htl,T0 hlt,hp,w3]
   ·exact z1 j hj (by omega)
  ·by_cases hi:i<q
   ·obtain⟨xx,kk,g1,g2,g3,g4,g5⟩:=(WFo.cons c0 q q y hy hys hq1 (by
      obtain⟨st',_,t1,t2,t3,t4,_⟩:=hC.may.nd c0 y hy;have:st'=q:=(by omega);subst this;exact t4) (WFo.nil q)).inside i h1 hi
    exact(w4 i h1 hi).same g1 g2 (fun j h3 h4=>k3.marks j (.inl (by omega))) g3
   ·exact z2 i (by omega) h2
end
end
section
section
variable{l:List d7}{P:l9}{nr:Nat}(hC:W4 l P nr)
include hC
theorem b2t(row:b38)(t:Int)(ks:List Nat)(hkl:ks.length≤30000)(hin:∀p∈ks,p<l.length)(hv:List Int)(h1:row.length=ks.length)(h2:hv.length=ks.length)(hr:∀t∈hv,0≤t∧t<(P.To.length:Int)):∀(n i:Nat) (d:i9),ks.length-i=n→CI l P d→∃f:x8,Vb d5 ((row,t,()),()) ((i7 ks,()),()) (i:Int) d hv=DQ d5 ((row,t,()),()) ⟨d.L,d.M,d.P,d.T,f,d.By⟩∧(f.Code=0→d.F.Code=0∧∀(j:Nat) (y:Int),i≤j→hv[j]? =some y→y≠0):=by
 intro n
 induction n with
 |zero=>intro i d hi hI;rw[SI,Up];simp only[B0];rw[d9 (by omega),f8];exact⟨d.F,rfl,fun h=>⟨h,fun j y hj hy=>by have:=(l3.1 hy).1;omega⟩⟩
 |succ n ih=>
  intro i d hi hI;have hil:i<ks.length:=(by omega);have hih:i<hv.length:=(by omega);have hir:i<row.length:=(by omega);have hkp:=hin _ (A4 hil);have hrt:=hr _ (A4 hih);have hty:=hI.tys;obtain⟨r,g1,g2⟩:=a1O d hv[i] (row[i].toNat:Int) hrt.1 (by rw[hty];exact hrt.2) (fun y hy=>by
   rw[hty,hC.ty.base 0 (by omega)]at hy;cases hy
   decide)
  obtain⟨f,f1,f2⟩:=X3 d r ks[i] (by rw[hI.nodes];exact hkp);obtain⟨f',k1,k2⟩:=ih (i+1) ⟨d.L,d.M,d.P,d.T,f,d.By⟩ (by omega) (hI.fault f);rw[SI,Up];simp only[B0];rw[f6 (by omega),f9,l4 hih,d6,E0,o5 hih,d6,l4 hir,d6,g1,d6,C6 hil,d6,D7 hil,d6,f1,d6,y9 (by omega)];refine⟨f',k1,fun hg=>?_⟩;obtain⟨z1,z2⟩:=k2 hg;obtain⟨w1,w2⟩:=f2 z1;refine⟨w1,fun j y hj hy=>?_⟩;by_cases e:j=i
  ·subst e;rw[o5 hih]at hy;cases hy;exact g2 w2
  ·exact z2 j y (by omega) hy
theorem b15(g:t8)(ks:List Nat)(hkl:ks.length≤30000)(hin:∀p∈ks,p<l.length)(hv:List Int)(h2:hv.length=ks.length)(ha:0≤g.At)(hp:g.Es=ks.length)(hs:g.At+g.Es≤P.Ss.length):∀(n i:Nat) (d:i9),ks.length-i=n→CI l P d→∃f:x8,Pz d5 ((i7 ks,()),()) (i:Int) d g hv=xT d5 ⟨d.L,d.M,d.P,d.T,f,d.By⟩ g∧(f.Code=0→d.F.Code=0∧∀(j:Nat) (y:Int),i≤j→hv[j]? =some y→y≠0):=by
 have hsll:=hC.sll;intro n
 induction n with
 |zero=>intro i d hi hI;rw[OM,Wl];simp only[B0];rw[d9 (by omega),f8];exact⟨d.F,rfl,fun h=>⟨h,fun j y hj hy=>by have:=(l3.1 hy).1;omega⟩⟩
 |succ n ih=>
  intro i d hi hI;have hil:i<ks.length:=(by omega);have hih:i<hv.length:=(by omega);have hkp:=hin _ (A4 hil);have hpr:=hI.prog;have es:w64 (g.At+(i:Int))=(((g.At+i).toNat:Nat):Int):=(by rw[wrap64 (by omega) (by omega)];omega);have hsl:(g.At+i).toNat<P.Ss.length:=(by omega);have tI:=hC.sl _ (A4 hsl);obtain⟨r,g1,g2⟩:=Oc d hv[i] P.Ss[(g.At+i).toNat];obtain⟨f,f1,f2⟩:=X3 d r ks[i] (by rw[hI.nodes];exact hkp);obtain⟨f',k1,k2⟩:=ih (i+1) ⟨d.L,d.M,d.P,d.T,f,d.By⟩ (by omega) (hI.fault f);rw[OM,Wl];simp only[B0];rw[f6 (by omega),f9,l4 hih,d6,E0,o5 hih,d6,hpr,es,l4 hsl,d6,g1,d6,C6 hil,d6,D7 hil,d6,f1,d6,y9 (by omega)];rw[←hpr];refine⟨f',k1,fun hg=>?_⟩;obtain⟨z1,z2⟩:=k2 hg;obtain⟨w1,w2⟩:=f2 z1;refine⟨w1,fun j y hj hy=>?_⟩;by_cases e:j=i
  ·subst e;rw[o5 hih]at hy;cases hy;have:=(g2 w2).2.2.2.2;have:=tI.1;omega
  ·exact z2 j y (by omega) hy
theorem a6O(b:Nat)(x:d7)(q:Nat)(hx:l[b]? =some x)(hs:x.Cs=(q:Int)-(b+1))(hbq:b+1≤q)(hq:q≤l.length)(hk:x.Ks=27)(ih:∀m,m<q-b→Xb l P m)(c:i9)(hI:CI l P c)(hM:∀i,b≤i→i<q→c.M[i]? =P.Ms[i]?∧EnC l P i)(ks:List Nat)(hks:Kc l (b+1) q ks):∃t c',yT d5 c (b:Int)=some ((t,c',()),())∧CI l P c'∧Cx c c' (b+1) q∧0≤t∧t<(P.To.length:Int)∧(c'.F.Code=0→(∀k∈ks,∃m,c'.M[k]? =some m∧m.Ts≠0)∧(∃m,c'.M[b]? =some m∧(m.Do<0→ -8≤m.Do∧ks.length=Pm (-m.Do)∧t≠0)∧(0≤m.Do→∃f,P.As[m.Do.toNat]? =some f∧f.Es=ks.length∧t=f.By))∧∀i,b+1≤i→i<q→EF l P c'.M i):=by
 have hsm:=hC.small;have hkle:=hks.le;have h6:=hC.ty.len;have hbl:=(l3.1 hx).1;obtain⟨st,ks',t1,t2,t3,t4,t5,t6,t7⟩:=hC.may.nd b x hx;have est:st=q:=(by omega);subst est;have:=t5.det hks;subst this;have hke:∀p∈ks',21≤kd l p∧kd l p≤32:=fun p hp=>I0 (Nb (t6.k27 hk) p hp);have hin:∀p∈ks',p<l.length:=fun p hp=>by obtain⟨_,h2,_⟩:=hks.mem p hp;omega
 obtain⟨d,hv,k1,k2,k3,k4,k5,_,k7⟩:=b3M hC b ks' (by omega) hke st hq (st-b) ih _ 0 (b+1) c [] rfl (C9 _) (by rw[T4];exact hks) (by omega) hI (fun i h1 h2=>hM i (by omega) h2) rfl (fun t ht=>nomatch ht);have hdb:d.M[b]? =P.Ms[b]? :=(by rw[k3.marks b (.inl (by omega))];exact(hM b (i4 _) (by omega)).1);obtain⟨m,m1,m2⟩:=(hM b (i4 _) (by omega)).2.k27 (by rw[p9 hx];exact hk);rw[m1]at hdb;have hbM:=(l3.1 hdb).1;have hbMe:=(l3.1 hdb).2;have ei:(ks'.map (fun(k:Nat)=>(k:Int)))=i7 ks':=rfl;rw[a1E,lB,hI.nodes,T8 (by omega) hx t1 t3 hks,d6,ei,show Xh d5 (b:Int) ((i7 ks',()),()) 0 c []=_ from k1,a5R,Zh];have bad:∀(f:x8),f.Code≠0→∃t c',(some ((0,(⟨d.L,d.M,d.P,d.T,f,d.By⟩:i9),()),()):b3W)=some ((t,c',()),())∧CI l P c'∧Cx c c' (b+1) st∧0≤t∧t<(P.To.length:Int)∧(c'.F.Code=0→(∀k∈ks',∃m,c'.M[k]? =some m∧m.Ts≠0)∧(∃m,c'.M[b]? =some m∧(m.Do<0→ -8≤m.Do∧ks'.length=Pm (-m.Do)∧t≠0)∧(0≤m.Do→∃f,P.As[m.Do.toNat]? =some f∧f.Es=ks'.length∧t=f.By))∧∀i,b+1≤i→i<st→EF l P c'.M i):=fun f hf=>⟨0,_,rfl,k2.fault f,k3.trans (Cx.fault d f hf (b+1) st) (i4 _) (i4 _) (i4 _) (i4 _),P4 _,by omega,fun h=>absurd h hf⟩;by_cases cb:d.F.Code=0
 ·obtain⟨z1,z2⟩:=k7 cb;have done:∀(t:Int) (f:x8),0≤t→t<(P.To.length:Int)→(f.Code=0→d.F.Code=0∧∀(j:Nat) (y:Int),0≤j→hv[j]? =some y→y≠0)→((m.Do<0→ -8≤m.Do∧ks'.length=Pm (-m.Do)∧t≠0)∧(0≤m.Do→∃f,P.As[m.Do.toNat]? =some f∧f.Es=ks'.length∧t=f.By))→
    ∃t' c',(some ((t,(⟨d.L,d.M,d.P,d.T,f,d.By⟩:i9),()),()):b3W)=some ((t',c',()),())∧CI l P c'∧Cx c c' (b+1) st∧0≤t'∧t'<(P.To.length:Int)∧(c'.F.Code=0→(∀k∈ks',∃m,c'.M[k]? =some m∧m.Ts≠0)∧(∃m,c'.M[b]? =some m∧(m.Do<0→ -8≤m.Do∧ks'.length=Pm (-m.Do)∧t'≠0)∧(0≤m.Do→∃f,P.As[m.Do.toNat]? =some f∧f.Es=ks'.length∧t'=f.By))∧∀i,b+1≤i→i<st→EF l P c'.M i):=by
   intro t f h0 h1 hf hm;refine⟨t,_,rfl,k2.fault f,k3.trans ⟨fun _ _=>rfl,rfl,fun hb=>absurd cb hb⟩ (i4 _) (i4 _) (i4 _) (i4 _),h0,h1,fun hg=>⟨fun k hk2=>?_,⟨m,hdb,hm⟩,z2⟩⟩;obtain⟨j,hj,rfl⟩:=List.getElem_of_mem hk2;obtain⟨mm,a1,a2⟩:=z1 j hj (C9 _);exact⟨mm,a1,(hf hg).2 j _ (C9 _) a2⟩
  rw[f6 cb,A2,f8,l4 hbM,d6,hbMe];by_cases cr:m.Do<0
  ·have e0:w64 (0-m.Do)= -m.Do:=(by rw[wrap64 (by omega) (by omega)];omega);obtain⟨row,t,r1,r2,r3,r4⟩:=b2e (-m.Do) (by omega) (by omega);rw[f6 cr,f9,e0,r1,d6];simp only[B0];by_cases el:(row.length:Int)=(ks'.length:Int)
   ·obtain⟨f,f1,f2⟩:=b2t hC row t ks' (by omega) hin hv (by omega) k4 k5 _ 0 d rfl k2;rw[f6 el,A2,f8,show Vb d5 ((row,t,()),()) ((i7 ks',()),()) 0 d hv=_ from f1,a2G,fY];exact done t f (by omega) (by omega) f2 ⟨fun _=>⟨by omega,by omega,by omega⟩,fun h=>by omega⟩
   ·obtain⟨f,f1,f2⟩:=Im d 10 (by decide) b (by rw[k2.nodes];exact hbl);rw[d9 el,D5,f9,f1,d6];exact bad f f2
  ·have er:m.Do=((m.Do.toNat:Nat):Int):=(by omega);have hfl:m.Do.toNat<P.As.length:=(by omega);have gF:f5 P.As m.Do=some P.As[m.Do.toNat]:=Jz (by omega) (by omega);obtain⟨p1,p2,p3⟩:=hC.fnp _ (A4 hfl);have hres:0≤P.As[m.Do.toNat].By∧P.As[m.Do.toNat].By<(P.To.length:Int):=by
    rcases hC.fnr _ (A4 hfl)with h|h
    ·rw[h];omega
    ·have:=h.1;have:=h.2.1;omega
   rw[d9 cr,f8,k2.prog,gF,d6];simp only[B0];by_cases ep:P.As[m.Do.toNat].Es=(ks'.length:Int)
   ·obtain⟨f,f1,f2⟩:=b15 hC P.As[m.Do.toNat] ks' (by omega) hin hv k4 p1 ep p3 _ 0 d rfl k2;rw[f6 ep,A2,f8,show Pz d5 ((i7 ks',()),()) 0 d P.As[m.Do.toNat] hv=_ from f1,b1s,nD];exact done _ f hres.1 hres.2 f2 ⟨fun h=>absurd h cr,fun _=>⟨_,o5 hfl,ep,rfl⟩⟩
   ·obtain⟨f,f1,f2⟩:=Im d 10 (by decide) b (by rw[k2.nodes];exact hbl);rw[d9 ep,D5,f9,f1,d6];exact bad f f2
 ·rw[d9 cb];exact bad d.F cb
end
end
section
theorem a90{nr:Nat}{T:List o0}(h:Y2 nr T){i:Nat}{x:o0}(hx:T[i]? =some x)(hk:x.Ks=6):∃j:Nat,x.Of=(j:Int)∧j<nr:=by
 by_cases c:i<6
 ·rw[h.base i c]at hx;cases hx;simp only at hk;omega
 ·by_cases c2:i<6+nr
  ·have:=h.recs (i-6) (by omega);have e:6+(i-6)=i:=(by omega);rw[e,hx]at this;cases this;exact⟨i-6,rfl,by omega⟩
  ·have:=(h.lists i x (by omega) hx).1;omega
theorem a3y{nr:Nat}{T:List o0}(h:Y2 nr T){i:Nat}{x:o0}(hx:T[i]? =some x)(hk:x.Ks=7):C7 T x.Of:=by
 by_cases c:i<6
 ·rw[h.base i c]at hx;cases hx;simp only at hk;omega
 ·by_cases c2:i<6+nr
  ·have:=h.recs (i-6) (by omega);have e:6+(i-6)=i:=(by omega);rw[e,hx]at this;cases this;simp only at hk;omega
  ·obtain⟨_,a,b,c⟩:=h.lists i x (by omega) hx;exact⟨a,b,c⟩
section
variable{l:List d7}{P:l9}{nr:Nat}(hC:W4 l P nr)
include hC
theorem Nm(b:Nat)(x:d7)(q:Nat)(hx:l[b]? =some x)(hbq:b+1≤q)(hq:q≤l.length)(hk:21≤x.Ks)(hw:WFo l (b+1) q)(c c1:i9)(t:Int)(m:i8)(hI:CI l P c1)(hX:Cx c c1 b q)(hm:c1.M[b]? =some m)(h0:0≤t)(h1:t<(P.To.length:Int))(h32:x.Ks=32→t=m.Ts)(hE:c1.F.Code=0→(x.Ks≠27→t≠0)∧(∀i,b+1≤i→i<q→EF l P c1.M i)∧EF l P (c1.M.set b ⟨t,m.Do,m.Qs⟩) b):∃t' c',I9 d5 (b:Int) t c1=some ((t',c',()),())∧CI l P c'∧Cx c c' b q∧0≤t'∧t'<(P.To.length:Int)∧(c'.F.Code=0→(x.Ks≠27→t'≠0)∧(∃m,c'.M[b]? =some m∧m.Ts=t')∧∀i,b≤i→i<q→EF l P c'.M i):=by
 have hsm:=hC.small;have hbM:=(l3.1 hm).1;rw[a1L,pR,a5I c1 (by rw[hI.len];omega) b m hm t];refine⟨t,_,rfl,hI.typed hm t h0 h1 (by rw[p9 hx];exact hk) (fun h=>h32 (by rw[←p9 hx];exact h)),hX.trans (Cx.typed c1 b m t b q (i4 _) (by omega)) (i4 _) (i4 _) (i4 _) (i4 _),h0,h1,fun hg=>?_⟩;obtain⟨e1,e2,e3⟩:=hE hg;refine⟨e1,⟨⟨t,m.Do,m.Qs⟩,by unfold Hj;simp only;rw[P3 hbM],rfl⟩,fun i i1 i2=>?_⟩;by_cases e:i=b
 ·subst e;exact e3
 ·obtain⟨y,k,g1,g2,g3,g4,g5⟩:=hw.inside i (by omega) i2;exact(e2 i (by omega) i2).same g1 g2 (fun j j1 j2=>by unfold Hj;simp only;rw[Y0 (by omega)]) g3
theorem a7L(b:Nat)(hb:b<l.length)(a:Int)(d:i9)(hI:CI l P d)(m:i8)(hm:d.M[b]? =some m)(hk:kd l b=29)(g:M9)(hg:0≤g.Us∧0≤g.Vs∧g.Us+g.Vs≤(P.Hs.length:Int)):∀(n i:Nat),g.Vs.toNat-i=n→∃t d',Tq d5 (b:Int) (i:Int) ((a,d,()),()) g=some ((t,d',()),())∧CI l P d'∧Cx d d' b (b+1)∧0≤t∧t<(P.To.length:Int)∧(∃m',d'.M[b]? =some m'∧(d'.F.Code=0→0≤m'.Do))∧(d'.F.Code=0→d.F.Code=0∧C7 P.To t):=by
 have hsm:=hC.small;have h6:=hC.ty.len;have hfl:=hC.fll;have hbM:=(l3.1 hm).1;have hnd:=hI.nodes;intro n
 induction n with
 |zero=>intro i hi;obtain⟨f,f1,f2⟩:=Im d 8 (by decide) b (by rw[hnd];exact hb);rw[HP,Tn,d9 (by omega),f8,a39,nN];simp only;rw[f1];exact⟨0,_,rfl,hI.fault f,Cx.fault d f f2 _ _,P4 _,by omega,⟨m,hm,fun h=>absurd h f2⟩,fun h=>absurd h f2⟩
 |succ n ih=>
  intro i hi;have es:w64 (g.Us+(i:Int))=(((g.Us+i).toNat:Nat):Int):=(by rw[wrap64 (by omega) (by omega)];omega);have hfi:(g.Us+i).toNat<P.Hs.length:=(by omega);have tI:=hC.fl _ (A4 hfi);have e:=ih (i+1) (by omega);have hz:([]:List i8).length+d.M.length≤100000000:=(by rw[L6,hI.len];omega);rw[HP,Tn,f6 (by omega),f9];simp only;have gP:f5 d.P.Hs (((g.Us+i).toNat:Nat):Int)=some P.Hs[(g.Us+i).toNat]:=(by rw[hI.prog,l4 hfi]);have gL:f5 d.L (b:Int)=some l[b]:=(by rw[hnd,l4 hb]);rw[es,gP,d6,gL,d6,y9 (by omega)];cases decide (P.Hs[(g.Us+i).toNat].In=l[b].Ds)with
  |false=>exact e
  |true=>
   rw[f9,H8 (by decide) hz,d6,J4,l4 hbM,d6,E0,hm,d6,d6];simp only[Q5,d6];refine⟨_,_,rfl,⟨hI.nodes,hI.prog,hI.tys,by simp only[Du];exact hI.len,fun y hy=>?_,fun j y hy=>?_⟩,⟨fun j hj=>by simp only;rw[Y0 (by omega)],rfl,id⟩,?_,?_,⟨⟨m.Ts,i,m.Qs⟩,by simp only;rw[P3 hbM],fun _=>by simp only;omega⟩,fun h=>⟨h,?_⟩⟩
   ·rcases List.mem_or_eq_of_mem_set hy with hy|rfl
    ·exact hI.ty y hy
    ·exact hI.ty m (M7 hm)
   ·simp only at hy;by_cases ej:j=b
    ·subst ej;rw[P3 hbM]at hy;cases hy;obtain⟨m0,a1,a2,a3,a4⟩:=hI.rf j m hm;exact⟨m0,a1,a2,fun h=>absurd hk h,a4⟩
    ·rw[Y0 (Ne.symm ej)]at hy;exact hI.rf j y hy
   ·have:=tI.1;omega
   ·exact tI.2.1
   ·exact tI
end
end
section
theorem Gy{l:List d7}{i j:Nat}{ks:List Nat}(h:Kc l i j ks)(h2:ks.length=2):∃(k0 k1:Nat) (y z:d7),ks=[k0,k1]∧k0=i∧l[k0]? =some y∧y.Cs=(k1:Int)-(k0+1)∧k0+1≤k1∧l[k1]? =some z∧z.Cs=(j:Int)-(k1+1)∧k1+1≤j:=by
 obtain⟨k0,ks',rfl⟩:∃k ks',ks=k::ks':=(by cases ks with|nil=>simp at h2|cons k ks=>exact⟨k,ks,rfl⟩);obtain⟨k1,ks'',rfl⟩:∃k ks'',ks'=k::ks'':=(by cases ks' with|nil=>simp at h2|cons k ks=>exact⟨k,ks,rfl⟩);have hn:ks''=[]:=(by simp at h2;exact h2);subst hn;obtain⟨rfl,y,q,hy,hys,hq1,hq2,hr⟩:=h.first
 obtain⟨rfl,z,q2,hz,hzs,hz1,hz2,hr2⟩:=hr.first
 have:q2=j:=(by cases hr2;rfl);subst this;exact⟨k0,k1,y,z,rfl,rfl,hy,hys,hq1,hz,hzs,hz1⟩
theorem Uf{l:List d7}{i j:Nat}{ks:List Nat}(h:Kc l i j ks)(h1:ks.length=1):∃(y:d7),ks=[i]∧l[i]? =some y∧y.Cs=(j:Int)-(i+1)∧i+1≤j:=by
 obtain⟨k0,ks',rfl⟩:∃k ks',ks=k::ks':=(by cases ks with|nil=>simp at h1|cons k ks=>exact⟨k,ks,rfl⟩);have hn:ks'=[]:=(by simp at h1;exact h1);subst hn;obtain⟨rfl,y,q,hy,hys,hq1,hq2,hr⟩:=h.first
 have:q=j:=(by cases hr;rfl);subst this;exact⟨y,rfl,hy,hys,hq1⟩
theorem EF.mk'{l:List d7}{P:l9}{M:List i8}{b q:Nat}{x:d7}{ks:List Nat}(hx:l[b]? =some x)(hs:x.Cs=(q:Int)-(b+1))(hks:Kc l (b+1) q ks)(h27:x.Ks≠27)(h29:x.Ks=29→∃m,M[b]? =some m∧0≤m.Do)(hk:∀k∈ks,21≤kd l k→∃m,M[k]? =some m∧m.Ts≠0):EF l P M b:=by refine⟨fun h=>absurd h (by rw[p9 hx];exact h27),fun h=>h29 (by rw[←p9 hx];exact h),fun _ y st ks' a1 a2 a3 k hkm h21=>?_⟩;rw[hx]at a1;cases a1;have:st=q:=(by omega);subst this;have:=hks.det a3;subst this;exact hk k hkm h21
section
variable{l:List d7}{P:l9}{nr:Nat}(hC:W4 l P nr)
include hC
theorem FT(b:Nat)(x:d7)(q:Nat)(hx:l[b]? =some x)(hs:x.Cs=(q:Int)-(b+1))(hbq:b+1≤q)(hq:q≤l.length)(hk:21≤x.Ks)(h27:x.Ks≠27)(h29:x.Ks≠29)(hw:WFo l (b+1) q)(c:i9)(t:Int)(hI:CI l P c)(h0:C7 P.To t∨t=5)(ks:List Nat)(hks:Kc l (b+1) q ks)(hin:∀i,b+1≤i→i<q→kd l i<21)(h32:∀m,c.M[b]? =some m→x.Ks=32→t=m.Ts):∃t' c',I9 d5 (b:Int) t c=some ((t',c',()),())∧CI l P c'∧Cx c c' b q∧0≤t'∧t'<(P.To.length:Int)∧(c'.F.Code=0→(x.Ks≠27→t'≠0)∧(∃m,c'.M[b]? =some m∧m.Ts=t')∧∀i,b≤i→i<q→EF l P c'.M i):=by
 have hbM:b<c.M.length:=(by rw[hI.len];omega);have h6:=hC.ty.len;have ht:1≤t∧t<(P.To.length:Int):=by
  rcases h0 with h|h
  ·exact⟨h.1,h.2.1⟩
  ·omega
 refine Nm hC b x q hx hbq hq hk hw c c t c.M[b] hI (Cx.refl _ _ _) (o5 hbM) (by omega) ht.2 (h32 _ (o5 hbM)) (fun hg=>⟨fun _=>by omega,fun i i1 i2=>EF.other (hin i i1 i2),EF.mk' hx hs hks h27 (fun h=>absurd h h29) (fun k hkm h21=>?_)⟩);obtain⟨k1,k2,_⟩:=hks.mem k hkm;have:=hin k k1 k2;omega
end
end
section
section
variable{l:List d7}{P:l9}{nr:Nat}(hC:W4 l P nr)
include hC
set_option maxHeartbeats 4000000 in
theorem b3c(N:Nat)(ih:∀m,m<N→Xb l P m):Xb l P N:=by
 intro b x q hN hx hs hbq hq hk1 hk2 c hI hM;have hk1':=hk1;have hsm:=hC.small;have h6:=hC.ty.len;have hM':=hC.may;obtain⟨st,ks,t1,t2,t3,t4,t5,t6,t7⟩:=hC.may.nd b x hx;have est:st=q:=(by omega);subst est;have hkle:=t5.le;have hbl:=(l3.1 hx).1;have hxe:=(l3.1 hx).2;have hbM:b<c.M.length:=(by rw[hI.len];omega);have hmb:c.M[b]? =some c.M[b]:=o5 hbM;have hT0:∀y,c.T[0]? =some y→y.Ks<5:=fun y hy=>by
  rw[hI.tys,hC.ty.base 0 (by omega)]at hy;cases hy
  decide
 have ei:(ks.map (fun(k:Nat)=>(k:Int)))=i7 ks:=rfl;rw[b1q,Zm];by_cases cb:c.F.Code=0
 ·rw[f6 cb,A2,f8,hI.nodes,l4 hbl,d6,hxe,T8 (by omega) hx t1 t3 t5,d6,ei,l4 hbM,d6];by_cases c25:x.Ks≤25
  ·rw[f6 (by omega),f6 c25,f9,f9];have hks:ks=[]:=by have:=(t6.kr (by omega)).1;exact aM this
   subst hks;have hin:∀i,b+1≤i→i<st→kd l i<21:=fun i i1 i2=>by cases t5;omega
   have go:∀t:Int,1≤t∧t≤5→_:=fun t ht=>FT hC b x st hx hs hbq hq hk1 (by omega) (by omega) t4 c t hI (show C7 P.To t∨t=5 by
    by_cases e:t=5
    ·exact .inr e
    ·exact .inl ⟨ht.1,by omega,e⟩) [] t5 hin (fun _ _ h=>absurd h (by omega))
   have hk:x.Ks=21∨x.Ks=22∨x.Ks=23∨x.Ks=24∨x.Ks=25:=(by omega);have lit:∀(k:Int) (t:Int),x.Ks=k→f5 ([1,4,3,2,5]:List Int) (IntKind.wrap .u8 (k-21))=some t→([1,4,3,2,5]:List Int)[(Int.toNat (IntKind.wrap .u8 (k-21)))]? =some t→1≤t∧t≤5→∃t c',(((f5 ([1,4,3,2,5]:List Int) (IntKind.wrap .u8 (x.Ks-21))).bind fun f=>((([1,4,3,2,5]:List Int)[(Int.toNat (IntKind.wrap .u8 (x.Ks-21)))]?).bind fun h=>(I9 d5 (b:Int) h c))))=some ((t,c',()),())∧CI l P c'∧Cx c c' b st∧0≤t∧t<P.To.length∧(c'.F.Code=0→(x.Ks≠27→t≠0)∧(∃m,c'.M[b]? =some m∧m.Ts=t)∧∀i,b≤i→i<st→EF l P c'.M i):=by intro k t e g1 g2 ht;rw[e,g1,d6,g2,d6,←e];exact go t ht
   rcases hk with e|e|e|e|e
   ·exact lit 21 1 e rfl rfl (by decide)
   ·exact lit 22 4 e rfl rfl (by decide)
   ·exact lit 23 3 e rfl rfl (by decide)
   ·exact lit 24 2 e rfl rfl (by decide)
   ·exact lit 25 5 e rfl rfl (by decide)
  rw[f6 (by omega),d9 c25,f9,f8,a93,qO];by_cases c27:x.Ks=27
  ·obtain⟨t,c1,r1,r2,r3,r4,r5,r6⟩:=a6O hC b x st hx hs hbq hq c27 (fun m hm=>ih m (by omega)) c hI hM ks t5;have hb1:b<c1.M.length:=(by rw[r2.len];omega);have hm1:c1.M[b]? =some c1.M[b]:=o5 hb1;rw[f6 c27,f9,r1,d6];refine Nm hC b x st hx hbq hq hk1 t4 c c1 t c1.M[b] r2 (r3.trans (Cx.refl c1 b st) (by omega) (i4 _) (i4 _) (i4 _)) hm1 r4 r5 (fun h=>absurd h (by rw[c27];decide)) (fun hg=>?_);obtain⟨z1,⟨m,z2,z3,z4⟩,z5⟩:=r6 hg;rw[hm1]at z2;cases z2;refine⟨fun h=>absurd c27 h,z5,⟨fun _ y st' ks' a1 a2 a3=>?_,fun h=>by rw[p9 hx]at h;omega,fun _ y st' ks' a1 a2 a3 k hkm _=>?_⟩⟩
   ·rw[hx]at a1;cases a1;have:st'=st:=(by omega);subst this;have:=t5.det a3;subst this;exact⟨_,P3 hb1,z3,z4⟩
   ·rw[hx]at a1;cases a1;have:st'=st:=(by omega);subst this;have:=t5.det a3;subst this;obtain⟨w1,_⟩:=t5.mem k hkm;obtain⟨mm,w2,w3⟩:=z1 k hkm;exact⟨mm,by rw[Y0 (by omega)];exact w2,w3⟩
  rw[d9 c27,f8];have kid:∀(k q':Nat) (y:d7) (d:i9),b+1≤k→q'≤st→l[k]? =some y→y.Cs=(q':Int)-(k+1)→k+1≤q'→21≤y.Ks→y.Ks≤32→CI l P d→(∀i,k≤i→d.M[i]? =c.M[i]?)→∃t c',Q8 d5 d (k:Int)=some ((t,c',()),())∧CI l P c'∧Cx d c' k q'∧0≤t∧t<P.To.length∧(c'.F.Code=0→(y.Ks≠27→t≠0)∧(∃m,c'.M[k]? =some m∧m.Ts=t)∧∀i,k≤i→i<q'→EF l P c'.M i):=by intro k q' y d a1 a2 a3 a4 a5 a6 a7 a8 a9;exact ih (q'-k) (by omega) k y q' rfl a3 a4 a5 (by omega) a6 a7 d a8 (fun i i1 i2=>by rw[a9 i i1];exact hM i (by omega) (by omega))
  by_cases c28:x.Ks=28∨x.Ks=31
  ·have n29:¬x.Ks=29:=(by omega);have n30:¬x.Ks=30:=(by omega);have n31:¬x.Ks=28→x.Ks=31:=fun h=>by omega
   have hS:=t6.k28 c28;obtain⟨e1,e2⟩:=H2 hS;obtain⟨k0,k1,y,z,rfl,hk0,hy,hys,hy1,hz,hzs,hz1⟩:=Gy t5 e1;have s0:=I0 (e2 0 (by simp) (by simp));have s1:=I0 (e2 1 (by simp) (by simp));simp only[H7,Z6]at s0 s1;rw[p9 hy]at s0;rw[p9 hz]at s1;have g0:f5 (i7 [k0,k1]) (0:Int)=some ((k0:Nat):Int):=C6 (i:=0) (ks:=[k0,k1]) (by simp);have ga0:(i7 [k0,k1])[Int.toNat 0]? =some ((k0:Nat):Int):=D7 (i:=0) (ks:=[k0,k1]) (by simp);have g1:f5 (i7 [k0,k1]) (1:Int)=some ((k1:Nat):Int):=C6 (i:=1) (ks:=[k0,k1]) (by simp);have ga1:(i7 [k0,k1])[Int.toNat 1]? =some ((k1:Nat):Int):=D7 (i:=1) (ks:=[k0,k1]) (by simp);obtain⟨ta,ca,a1,a2,a3,a4,a5,a6⟩:=kid k0 k1 y c (by omega) (by omega) hy hys hy1 s0.1 s0.2 hI (fun _ _=>rfl);obtain⟨tb,cc,b1,b2,b3,b4,b5,b6⟩:=kid k1 st z ca (by omega) (i4 _) hz hzs hz1 s1.1 s1.2 a2 (fun i hi=>a3.marks i (.inr hi));have hX:Cx c cc b st:=(a3.trans b3 (lo2:=b) (hi2:=st) (by omega) (by omega) (by omega) (i4 _));have hbc:b<cc.M.length:=(by rw[b2.len];omega);have hmc:cc.M[b]? =some cc.M[b]:=o5 hbc;have hk0l:k0<cc.L.length:=(by rw[b2.nodes];exact(l3.1 hy).1);have hk1l:k1<cc.L.length:=(by rw[b2.nodes];exact(l3.1 hz).1);have hbl2:b<cc.L.length:=(by rw[b2.nodes];exact hbl);have fin:∀(t:Int) (f:x8),0≤t→t<(P.To.length:Int)→(f.Code=0→cc.F.Code=0∧t≠0∧ta≠0∧tb≠0)→∃t' c',I9 d5 (b:Int) t (⟨cc.L,cc.M,cc.P,cc.T,f,cc.By⟩:i9)=some ((t',c',()),())∧CI l P c'∧Cx c c' b st∧0≤t'∧t'<(P.To.length:Int)∧(c'.F.Code=0→(x.Ks≠27→t'≠0)∧(∃m,c'.M[b]? =some m∧m.Ts=t')∧∀i,b≤i→i<st→EF l P c'.M i):=by
    intro t f h0 h1 hf;refine Nm hC b x st hx hbq hq hk1' t4 c ⟨cc.L,cc.M,cc.P,cc.T,f,cc.By⟩ t cc.M[b] (b2.fault f) ⟨hX.marks,hX.res,fun hb=>absurd cb hb⟩ hmc h0 h1 (fun h=>absurd h (by rcases c28 with e|e<;>rw[e]<;>decide)) (fun hg=>?_);obtain⟨f1,f2,f3,f4⟩:=hf hg;have fa:ca.F.Code=0:=S9 fun hc=>b3.bad hc f1;obtain⟨p1,⟨ma,p2,p3⟩,p4⟩:=a6 fa;obtain⟨q1,⟨mb,q2,q3⟩,q4⟩:=b6 f1;clear a6 b6 kid hf;refine⟨fun _=>f2,fun i i1 i2=>?_,EF.mk' hx t1 t5 c27 (fun h=>absurd h n29) (fun k hkm _=>?_)⟩
    ·by_cases hi:i<k1
     ·obtain⟨xx,kk,w1,w2,w3,w4,w5⟩:=t4.inside i i1 i2;have hkk:kk≤k1:=by obtain⟨stz,kz,z1,z2,z3,z4,z5,z6,z7⟩:=hC.may.nd _ y hy;have:stz=k1:=(by omega);subst this;obtain⟨xx',kk',v1,v2,v3,v4,v5⟩:=(WFo.cons k0 stz stz y hy hys hy1 z4 (WFo.nil stz)).inside i (by omega) hi;rw[w1]at v1;cases v1;omega
      exact(p4 i (by omega) hi).same w1 w2 (fun j j1 j2=>b3.marks j (.inl (by omega))) w3
     ·exact q4 i (by omega) i2
    ·simp at hkm;rcases hkm with rfl|rfl
     ·exact⟨ma,by rw[Y0 (by omega),b3.marks k (.inl (by omega))];exact p2,by rw[p3];exact f3⟩
     ·exact⟨mb,by rw[Y0 (by omega)];exact q2,by rw[q3];exact f4⟩
   by_cases d28:x.Ks=28
   ·obtain⟨w,w1,w2,w3⟩:=Qn cc ta a4 (by rw[b2.tys];exact a5);rw[f6 d28,f9];simp only;rw[g0,d6,ga0,d6,a1,d6,g1,d6,ga1,d6,b1,d6];simp only;rw[w3,d6,w2];have j1:∀t:Int,0≤t→t<(P.To.length:Int)→(0<t→ta≠0)→∃t' c',bG d5 (b:Int) t ((tb,cc,()),()) ((i7 [k0,k1],()),())=some ((t',c',()),())∧CI l P c'∧Cx c c' b st∧0≤t'∧t'<(P.To.length:Int)∧(c'.F.Code=0→(x.Ks≠27→t'≠0)∧(∃m,c'.M[b]? =some m∧m.Ts=t')∧∀i,b≤i→i<st→EF l P c'.M i):=by intro t h0 h1 hta;obtain⟨f,f1,f2⟩:=X3 cc (decide (t>0)) k0 hk0l;obtain⟨f',f3,f4⟩:=X3 ⟨cc.L,cc.M,cc.P,cc.T,f,cc.By⟩ (decide (tb=1)) k1 hk1l;rw[b2S,gU];simp only;rw[g0,d6,ga0,d6,f1,d6,g1,d6,ga1,d6];simp only;rw[f3,d6];refine fin t f' h0 h1 (fun hg=>?_);obtain⟨u1,u2⟩:=f4 hg;obtain⟨u3,u4⟩:=f2 u1;have v1:=D3 u2;have v2:=D3 u4;exact⟨u3,by omega,hta (by omega),by omega⟩
    have j2:∀t:Int,0≤t→t<(P.To.length:Int)→(0<t→ta≠0)→∃t' c',iK d5 (b:Int) t ((ta,ca,()),()) ((tb,cc,()),()) ((i7 [k0,k1],()),())=some ((t',c',()),())∧CI l P c'∧Cx c c' b st∧0≤t'∧t'<(P.To.length:Int)∧(c'.F.Code=0→(x.Ks≠27→t'≠0)∧(∃m,c'.M[b]? =some m∧m.Ts=t')∧∀i,b≤i→i<st→EF l P c'.M i):=by
     intro t h0 h1 hta;rw[b2K,bE];simp only;by_cases e3:ta=3
     ·rw[f6 e3];exact j1 1 (by omega) (by omega) (fun _=>by omega)
     ·rw[d9 e3];exact j1 t h0 h1 hta
    by_cases e7:w.Ks=7
    ·rw[f6 e7,f9,d6];rw[b2.tys]at w1;have tI:=a3y hC.ty w1 e7;refine j2 w.Of (by have:=tI.1;omega) tI.2.1 (fun _ h=>?_);rw[h]at w1;have:=hC.ty.base 0 (by omega);rw[show Int.toNat 0=0 from rfl,this]at w1;cases w1;simp only at e7;omega
    ·rw[d9 e7];exact j2 0 (by omega) (by omega) (fun h=>by omega)
   ·have d31:x.Ks=31:=n31 d28;obtain⟨r,p1,p2,p3,p4⟩:=a54 cc x.Ns ta tb (by rw[b2.tys];omega) (fun y hy=>by
     rw[b2.tys,hC.ty.base 0 (by omega)]at hy;cases hy
     decide) a4 (by rw[b2.tys];exact a5) b4 (by rw[b2.tys];exact b5)
    obtain⟨f,f1,f2⟩:=X3 cc (decide (r>0)) b hbl2;rw[d9 d28,f8,d9 n29,f8,d9 n30,f8,f6 d31,f9];simp only;rw[g0,d6,ga0,d6,a1,d6,g1,d6,ga1,d6,b1,d6];simp only;rw[p1,d6,f1,d6];refine fin r f p2 (by omega) (fun hg=>?_);obtain⟨u1,u2⟩:=f2 hg;have v:=D3 u2;obtain⟨w1,w2⟩:=p4 (by omega);exact⟨u1,by omega,w1,w2⟩
  have n28:¬x.Ks=28:=fun h=>c28 (.inl h);have n31:¬x.Ks=31:=fun h=>c28 (.inr h);have one:∀(k:Nat) (y:d7) (ca:i9) (ta:Int),b+1≤k→l[k]? =some y→y.Cs=(st:Int)-(k+1)→CI l P ca→Cx c ca k st→(ca.F.Code=0→(∃m,ca.M[k]? =some m∧m.Ts=ta)∧∀i,k≤i→i<st→EF l P ca.M i)→(∀i,b+1≤i→i<k→kd l i<21)→(∀k'∈ks,21≤kd l k'→k'=k)→¬x.Ks=29→
    ∀(t:Int) (f:x8),0≤t→t<(P.To.length:Int)→(x.Ks=32→t=c.M[b].Ts)→(f.Code=0→ca.F.Code=0∧t≠0∧ta≠0)→∃t' c',I9 d5 (b:Int) t (⟨ca.L,ca.M,ca.P,ca.T,f,ca.By⟩:i9)=some ((t',c',()),())∧CI l P c'∧Cx c c' b st∧0≤t'∧t'<(P.To.length:Int)∧(c'.F.Code=0→(x.Ks≠27→t'≠0)∧(∃m,c'.M[b]? =some m∧m.Ts=t')∧∀i,b≤i→i<st→EF l P c'.M i):=by
   intro k y ca ta hbk hy hys hIa hXa hFa hlow hkk h29 t f h0 h1 h32 hf;have hbc:b<ca.M.length:=(by rw[hIa.len];omega);have hmc:ca.M[b]? =some ca.M[b]:=o5 hbc;have hX:Cx c ca b st:=hXa.trans (Cx.refl ca b st) (by omega) (i4 _) (i4 _) (i4 _);refine Nm hC b x st hx hbq hq hk1' t4 c ⟨ca.L,ca.M,ca.P,ca.T,f,ca.By⟩ t ca.M[b] (hIa.fault f) ⟨hX.marks,hX.res,fun hb=>absurd cb hb⟩ hmc h0 h1 (fun h=>by
    have e:=hXa.marks b (.inl (by omega));rw[hmc,hmb]at e;injection e with e
    rw[e];exact h32 h) (fun hg=>?_)
   obtain⟨f1,f2,f3⟩:=hf hg;obtain⟨⟨ma,p2,p3⟩,p4⟩:=hFa f1;clear hFa hf kid;refine⟨fun _=>f2,fun i i1 i2=>?_,EF.mk' hx t1 t5 c27 (fun h=>absurd h h29) (fun k' hkm h21=>?_)⟩
   ·by_cases hi:i<k
    ·exact EF.other (hlow i i1 hi)
    ·exact p4 i (by omega) i2
   ·have:=hkk k' hkm h21;subst this;exact⟨ma,by rw[Y0 (by omega)];exact p2,by rw[p3];exact f3⟩
  rw[d9 n28,f8];by_cases c29:x.Ks=29
  ·obtain⟨e1,e2⟩:=H2 (t6.k12 (.inr (.inl c29)));obtain⟨y,rfl,hy,hys,hy1⟩:=Uf t5 e1;have s0:=I0 (e2 0 (by simp) (by simp));simp only[H7]at s0;rw[p9 hy]at s0;have g0:f5 (i7 [b+1]) (0:Int)=some ((b+1:Nat):Int):=C6 (i:=0) (ks:=[b+1]) (by simp);have ga0:(i7 [b+1])[Int.toNat 0]? =some ((b+1:Nat):Int):=D7 (i:=0) (ks:=[b+1]) (by simp);have hk29:kd l b=29:=(by rw[p9 hx];exact c29);obtain⟨ta,ca,a1,a2,a3,a4,a5,a6⟩:=kid (b+1) st y c (i4 _) (i4 _) hy hys hy1 s0.1 s0.2 hI (fun _ _=>rfl);have hkl:b+1<ca.L.length:=(by rw[a2.nodes];exact(l3.1 hy).1);have hbc:b<ca.M.length:=(by rw[a2.len];exact hbl);have hmc:ca.M[b]? =some ca.M[b]:=o5 hbc;have hXa:Cx c ca b st:=a3.trans (Cx.refl ca b st) (Nat.le_succ b) (i4 _) (i4 _) (i4 _);clear one;rw[f6 c29,f9];simp only;rw[g0,d6,ga0,d6,a1z,jD,a1];simp only[d6];have j0:∃t' c',((eG d5 ((b+1:Nat):Int) ((ta,ca,()),())).bind fun(t:A5)=>I9 d5 (b:Int) t.1.1 t.1.2.1)=some ((t',c',()),())∧CI l P c'∧Cx c c' b st∧0≤t'∧t'<(P.To.length:Int)∧(c'.F.Code=0→(x.Ks≠27→t'≠0)∧(∃m,c'.M[b]? =some m∧m.Ts=t')∧∀i,b≤i→i<st→EF l P c'.M i):=by obtain⟨f,f1,f2⟩:=Im ca 9 (by decide) (b+1) hkl;rw[a3V,pQ];simp only;rw[f1,d6,d6];exact Nm hC b x st hx hbq hq hk1' t4 c ⟨ca.L,ca.M,ca.P,ca.T,f,ca.By⟩ 0 ca.M[b] (a2.fault f) ⟨hXa.marks,hXa.res,fun hb=>absurd cb hb⟩ hmc (P4 _) (by clear a6 kid;omega) (fun h=>absurd h (by rw[c29];decide)) (fun hg=>absurd hg f2)
   by_cases fa:ca.F.Code=0
   ·obtain⟨w,w1,w2,w3⟩:=Qn ca ta a4 (by rw[a2.tys];exact a5);rw[f6 fa,A2,f8,w3,d6];simp only;by_cases e6:w.Ks=6
    ·rw[a2.tys]at w1;obtain⟨j,j1,j2⟩:=a90 hC.ty w1 e6;have hjr:j<P.Rs.length:=(by rw[hC.recs];exact j2);have hta:ta≠0:=fun h=>by rw[h,show Int.toNat 0=0 from rfl,hC.ty.base 0 (by decide)]at w1;cases w1;exact absurd e6 (by decide)
     have gR:f5 ca.P.Rs w.Of=some P.Rs[j]:=(by rw[a2.prog,j1,l4 hjr]);obtain⟨t,d',q1,q2,q3,q4,q5,⟨m',q6,q7⟩,q8⟩:=a7L hC b hbl ta ca a2 ca.M[b] hmc hk29 P.Rs[j] (hC.rc _ (A4 hjr)) _ 0 rfl;rw[f6 e6,A2,f8,w2,d6,gR,d6,show Tq d5 (b:Int) 0 ((ta,ca,()),()) P.Rs[j]=_ from q1,d6];refine Nm hC b x st hx hbq hq hk1' t4 c d' t m' q2 (hXa.trans q3 (i4 _) (i4 _) (i4 _) hbq) q6 q4 q5 (fun h=>absurd h (by rw[c29];decide)) (fun hg=>?_);obtain⟨u1,u2⟩:=q8 hg;obtain⟨v1,⟨ma,v2,v3⟩,v4⟩:=a6 u1;have hb':=(l3.1 q6).1;have u3:=u2.1;clear a6 kid q8;refine⟨fun _=>by omega,fun i i1 i2=>?_,EF.mk' hx t1 t5 c27 (fun _=>⟨_,P3 hb',q7 hg⟩) (fun k' hkm _=>?_)⟩
     ·obtain⟨xx,kk,g1,g2,g3,g4,g5⟩:=t4.inside i i1 i2;exact(v4 i i1 i2).same g1 g2 (fun jj j1 j2=>q3.marks jj (.inr (by omega))) g3
     ·have:=O0.1 hkm;subst this;exact⟨ma,by rw[Y0 (by omega),q3.marks (b+1) (.inr (i4 _))];exact v2,by rw[v3];exact hta⟩
    ·rw[d9 e6];exact j0
   ·rw[d9 fa];exact j0
  rw[d9 c29,f8];by_cases c30:x.Ks=30
  ·obtain⟨e1,e2⟩:=H2 (t6.k12 (.inr (.inr c30)));obtain⟨y,rfl,hy,hys,hy1⟩:=Uf t5 e1;have s0:=I0 (e2 0 (by simp) (by simp));simp only[H7]at s0;rw[p9 hy]at s0;have g0:f5 (i7 [b+1]) (0:Int)=some ((b+1:Nat):Int):=C6 (i:=0) (ks:=[b+1]) (by simp);have ga0:(i7 [b+1])[Int.toNat 0]? =some ((b+1:Nat):Int):=D7 (i:=0) (ks:=[b+1]) (by simp);have hlow:∀i,b+1≤i→i<b+1→kd l i<21:=fun i i1 i2=>by omega
   have hkk:∀k'∈ [b+1],21≤kd l k'→k'=b+1:=fun k' hk' _=>O0.1 hk';obtain⟨ta,ca,a1,a2,a3,a4,a5,a6⟩:=kid (b+1) st y c (i4 _) (i4 _) hy hys hy1 s0.1 s0.2 hI (fun _ _=>rfl);have hkl:b+1<ca.L.length:=(by rw[a2.nodes];exact(l3.1 hy).1);have fin:=one (b+1) y ca ta (i4 _) hy hys a2 a3 (fun h=>⟨(a6 h).2.1,(a6 h).2.2⟩) hlow hkk c29;have mst:∀B:Bool,(B=true→ta≠0)→∃t' c',(((J5 d5 ca B ((b+1:Nat):Int))).bind fun(r:RT4)=>(I9 d5 (b:Int) ta r.1.1))=some ((t',c',()),())∧CI l P c'∧Cx c c' b st∧0≤t'∧t'<(P.To.length:Int)∧(c'.F.Code=0→(x.Ks≠27→t'≠0)∧(∃m,c'.M[b]? =some m∧m.Ts=t')∧∀i,b≤i→i<st→EF l P c'.M i):=by intro B hB;obtain⟨f,f1,f2⟩:=X3 ca B (b+1) hkl;rw[f1,d6];exact fin ta f a4 a5 (fun h=>absurd h (by rw[c30];decide)) (fun hg=>⟨(f2 hg).1,hB (f2 hg).2,hB (f2 hg).2⟩)
   have mT:=mst (decide (ta=4)) (fun h=>by have:=D3 h;rw[this];decide);have mF:=mst false (fun h=>nomatch h);rw[f6 c30,f9];simp only;rw[g0,d6,ga0,d6,a1,d6];simp only[d6];have tr:∀v:Int,v≠0→ta=v→_:=fun v hv h=>mst true (fun _=>by rw[h];exact hv);have two:∃t' c',(cond (decide (x.Ns=12)) (cond (decide (ta=1)) (((J5 d5 ca true ((b+1:Nat):Int))).bind fun(r:RT4)=>(I9 d5 (b:Int) ta r.1.1)) (((J5 d5 ca (decide (ta=4)) ((b+1:Nat):Int))).bind fun(r:RT4)=>(I9 d5 (b:Int) ta r.1.1))) (((J5 d5 ca false ((b+1:Nat):Int))).bind fun(r:RT4)=>(I9 d5 (b:Int) ta r.1.1)))=some ((t',c',()),())∧CI l P c'∧Cx c c' b st∧0≤t'∧t'<(P.To.length:Int)∧(c'.F.Code=0→(x.Ks≠27→t'≠0)∧(∃m,c'.M[b]? =some m∧m.Ts=t')∧∀i,b≤i→i<st→EF l P c'.M i):=by
    cases decide (x.Ns=12)with
    |false=>exact mF
    |true=>
     rw[f9];by_cases v1:ta=1
     ·rw[f6 v1];exact tr 1 (by decide) v1
     ·rw[d9 v1];exact mT
   cases decide (x.Ns=13)with
   |false=>exact two
   |true=>
    rw[f9];by_cases v2:ta=2
    ·rw[f6 v2];exact tr 2 (by decide) v2
    ·rw[d9 v2];exact two
  rw[d9 c30,f8,d9 n31,f8];obtain⟨hmP,hEn⟩:=hM b (i4 _) (by omega);have rest:∀t:Int,C7 P.To t→(∀i,b+1≤i→i<st→kd l i<21)→(x.Ks=32→t=c.M[b].Ts)→∃t' c',I9 d5 (b:Int) t c=some ((t',c',()),())∧CI l P c'∧Cx c c' b st∧0≤t'∧t'<(P.To.length:Int)∧(c'.F.Code=0→(x.Ks≠27→t'≠0)∧(∃m,c'.M[b]? =some m∧m.Ts=t')∧∀i,b≤i→i<st→EF l P c'.M i):=fun t ht hin h32=>FT hC b x st hx hs hbq hq hk1' c27 c29 t4 c t hI (.inl ht) ks t5 hin (fun m hm h=>by rw[hmb]at hm;injection hm with hm;rw[←hm];exact h32 h);by_cases c32:x.Ks=32
  ·obtain⟨m,m1,m2⟩:=hEn.k32 (by rw[p9 hx];exact c32);have em:c.M[b]=m:=by
    rw[hmP,m1]at hmb;injection hmb with hmb
    exact hmb.symm
   rw[f6 c32,f9];simp only[B0];rcases t6.k32 c32 with⟨hS,_⟩|⟨hS,_⟩
   ·obtain⟨e1,e2⟩:=H2 hS;obtain⟨y,rfl,hy,hys,hy1⟩:=Uf t5 e1;have s0:=S6 (e2 0 (by simp) (by simp));simp only[H7]at s0;rw[p9 hy]at s0;rw[d9 (by simp),f8,em];exact rest _ m2 (fun i i1 i2=>by
     have:=Dv hC.may hC.small hC.tx _ (b+1) y st hy hys rfl (by omega) i i1 i2;omega) (fun _=>by rw[em])
   ·obtain⟨e1,e2⟩:=H2 hS;obtain⟨k0,k1,y,z,rfl,hk0,hy,hys,hy1,hz,hzs,hz1⟩:=Gy t5 e1;have s0:=S6 (e2 0 (by simp) (by simp));have s1:=I0 (e2 1 (by simp) (by simp));simp only[H7,Z6]at s0 s1;have hlow:∀i,b+1≤i→i<k1→kd l i<21:=fun i i1 i2=>by have:=Dv hC.may hC.small hC.tx _ k0 y k1 hy hys rfl (by rw[←p9 hy];omega) i (by omega) i2;omega
    have hkk:∀k'∈ [k0,k1],21≤kd l k'→k'=k1:=fun k' hk' h21=>by
     simp at hk';rcases hk' with rfl|rfl
     ·omega
     ·rfl
    rw[p9 hz]at s1;have g1:f5 (i7 [k0,k1]) (1:Int)=some ((k1:Nat):Int):=C6 (i:=1) (ks:=[k0,k1]) (by simp);have ga1:(i7 [k0,k1])[Int.toNat 1]? =some ((k1:Nat):Int):=D7 (i:=1) (ks:=[k0,k1]) (by simp);obtain⟨ta,ca,a1,a2,a3,a4,a5,a6⟩:=kid k1 st z c (by omega) (i4 _) hz hzs hz1 s1.1 s1.2 hI (fun _ _=>rfl);have hkl:k1<ca.L.length:=(by rw[a2.nodes];exact(l3.1 hz).1);obtain⟨f,f1,f2⟩:=X3 ca (decide (ta=1)) k1 hkl;have hb1:b+1≤k1:=(by clear a6 kid one;omega);rw[f6 (by simp),f9,g1,d6,ga1,d6,a1,d6];simp only[d6];rw[f1,d6,em];refine one k1 z ca ta hb1 hz hzs a2 a3 (fun h=>⟨(a6 h).2.1,(a6 h).2.2⟩) hlow hkk c29 m.Ts f (Int.le_trans (by decide) m2.1) m2.2.1 (fun _=>by rw[em]) (fun hg=>?_);obtain⟨u1,u2⟩:=f2 hg;have u3:=D3 u2;have u4:=m2.1;clear a6 kid one;exact⟨u1,by omega,by omega⟩
  ·have c26:x.Ks=26:=(by clear one kid;omega);obtain⟨m,m1,m2⟩:=hEn.k26 (by rw[p9 hx];exact c26);have em:c.M[b]=m:=by
    rw[hmP,m1]at hmb;injection hmb with hmb
    exact hmb.symm
   have hks:ks=[]:=aM (t6.kr (by clear one kid;omega)).1;subst hks;rw[d9 c32,f8,em];exact rest _ m2 (fun i i1 i2=>by cases t5;clear one kid;omega) (fun h=>absurd h c32)
 ·rw[d9 cb];exact⟨0,c,rfl,hI,Cx.refl _ _ _,P4 _,by omega,fun h=>absurd h cb⟩
end
end
section
theorem Mw{l:List d7}{P:l9}{nr:Nat}(hC:W4 l P nr):∀n,Xb l P n:=by
 intro n
 induction n using Nat.strongRecOn with
 |_ n ih=>exact b3c hC n ih
theorem a67{l:List d7}{s:d8}{nr:Nat}(h:Wp l s nr)(hM:J9 l)(hl:l.length≤30000)(htx:∀n∈l,n.Ds.length≤65536):W4 l s.P nr:=by
 have hbig:=h.ri.big;unfold tot at hbig;refine⟨hM,hl,htx,h.ri.ty,by omega,h.recs,h.ri.fl h.good,by omega,h.ri.rc,fun f hf=>?_,fun f hf=>?_,by omega,h.ri.sl h.good⟩
 ·obtain⟨k,x,_,_,_,_,h5⟩:=h.ri.fn f hf;exact h5
 ·obtain⟨k,st,np,bp,x,ks,_,_,_,_,_,_,h7,h8,h9,h10,_⟩:=h.fns f hf;omega
theorem b00{l:List d7}{s:d8}{Sl:Int}{i:Nat}(h:NdE l s Sl i)(h7:NdS l s Sl i):EnC l s.P i:=
 ⟨fun hk=>by obtain⟨m,a,_,_,b⟩:=h.k26 hk;exact⟨m,a,b⟩,fun hk=>h.k27 hk,fun hk=>h.k32 hk,fun hk=>by obtain⟨m,a,_,b⟩:=h7 (by omega) (by omega);exact⟨m,a,(b hk).2.2⟩⟩
end
section
structure SF(l:List d7)(M:List i8)(R:Int)(i:Nat):Prop where
 kid:7≤kd l i→kd l i≤12→∀(x:d7) (st:Nat) (ks:List Nat),l[i]? =some x→x.Cs=(st:Int)-(i+1)→Kc l (i+1) st ks→∀k∈ks,21≤kd l k→∃m,M[k]? =some m∧m.Ts≠0
 ret:kd l i=11→∀(x:d7) (st:Nat) (ks:List Nat),l[i]? =some x→x.Cs=(st:Int)-(i+1)→Kc l (i+1) st ks→(ks=[]→R=0)∧(ks≠ []→R≠0)
theorem SF.same{l:List d7}{M M':List i8}{R:Int}{i:Nat}{x:d7}{st:Nat}(h:SF l M R i)(hx:l[i]? =some x)(hs:x.Cs=(st:Int)-(i+1))(e:∀j,i≤j→j<st→M'[j]? =M[j]?):SF l M' R i:=by refine⟨fun a b y st' ks a1 a2 a3 k hkm h21=>?_,h.ret⟩;obtain⟨m,b1,b2⟩:=h.kid a b y st' ks a1 a2 a3 k hkm h21;rw[hx]at a1;cases a1;obtain⟨c1,c2,_⟩:=a3.mem k hkm;exact⟨m,by rw[e k (by omega) (by omega)];exact b1,b2⟩
theorem SF.other{l:List d7}{M:List i8}{R:Int}{i:Nat}(h:kd l i<7∨13<kd l i):SF l M R i:=⟨fun a b=>by omega,fun a=>by omega⟩
inductive En(l:List d7):Nat→Prop
 |ret(b:Nat)(x:d7)(hx:l[b]? =some x)(hk:x.Ks=11):En l b
 |both(b st k0 k1 k2:Nat)(x:d7)(hx:l[b]? =some x)(hk:x.Ks=9)(hs:x.Cs=(st:Int)-(b+1))(hks:Kc l (b+1) st [k0,k1,k2])
   (x1:d7) (st1:Nat) (ks1:List Nat) (y1:Nat) (hx1:l[k1]? =some x1) (hs1:x1.Cs=(st1:Int)-(k1+1)) (hk1:Kc l (k1+1) st1 ks1) (hy1:ks1.getLast? =some y1) (h1:En l y1)
   (x2:d7) (st2:Nat) (ks2:List Nat) (y2:Nat) (hx2:l[k2]? =some x2) (hs2:x2.Cs=(st2:Int)-(k2+1)) (hk2:Kc l (k2+1) st2 ks2) (hy2:ks2.getLast? =some y2) (h2:En l y2):En l b
def LEn(l:List d7)(ks:List Nat):Prop:=∃y,ks.getLast? =some y∧En l y
def BEn(l:List d7)(k:Nat):Prop:=∃(x:d7) (st:Nat) (ks:List Nat),l[k]? =some x∧x.Cs=(st:Int)-(k+1)∧Kc l (k+1) st ks∧LEn l ks
def wT(l:List d7)(P:l9)(n:Nat):Prop:=∀(b:Nat) (x:d7) (q:Nat),q-b=n→l[b]? =some x→x.Cs=(q:Int)-(b+1)→b+1≤q→q≤l.length→7≤x.Ks→x.Ks≤13→∀c:i9,CI l P c→(∀i,b≤i→i<q→c.M[i]? =P.Ms[i]?∧EnC l P i)→
 ∃e c',Hq d5 c (b:Int)=some ((e,c',()),())∧CI l P c'∧Cx c c' b q∧(c'.F.Code=0→∀i,b≤i→i<q→EF l P c'.M i∧SF l c'.M c.By i)∧(c'.F.Code=0→e=true→En l b)
def Sv(l:List d7)(P:l9)(n:Nat):Prop:=∀(b:Nat) (x:d7) (q:Nat),q-b=n→l[b]? =some x→x.Cs=(q:Int)-(b+1)→b+1≤q→q≤l.length→x.Ks=6→∀c:i9,CI l P c→(∀i,b≤i→i<q→c.M[i]? =P.Ms[i]?∧EnC l P i)→
 ∃e c',qI d5 c (b:Int)=some ((e,c',()),())∧CI l P c'∧Cx c c' b q∧(c'.F.Code=0→∀i,b≤i→i<q→EF l P c'.M i∧SF l c'.M c.By i)∧(c'.F.Code=0→e=true→BEn l b)
section
variable{l:List d7}{P:l9}{nr:Nat}(hC:W4 l P nr)
include hC
theorem a3q(N:Nat)(ih:∀m,m<N→wT l P m):Sv l P N:=by
 intro b x q hN hx hs hbq hq hk c hI hM;have hsm:=hC.small;obtain⟨st,ks,t1,t2,t3,t4,t5,t6,t7⟩:=hC.may.nd b x hx;have est:st=q:=(by omega);subst est;have hkle:=t5.le;have hks:∀p∈ks,7≤kd l p∧kd l p≤13:=fun p hp=>bZ (Nb (t6.k6 hk) p hp);have loop:∀(n e c0:Nat) (a:Bool) (d:i9),ks.length-e=n→e≤ks.length→b+1≤c0→Kc l c0 st (ks.drop e)→CI l P d→(∀i,c0≤i→i<st→d.M[i]? =P.Ms[i]?∧EnC l P i)→(d.F.Code=0→a=true→LEn l (ks.take e))→
   ∃a' d',sK d5 a ((i7 ks,()),()) (e:Int) d=some ((a',d',()),())∧CI l P d'∧Cx d d' c0 st∧(d'.F.Code=0→∀i,c0≤i→i<st→EF l P d'.M i∧SF l d'.M d.By i)∧(d'.F.Code=0→a'=true→LEn l ks):=by
  intro n
  induction n with
  |zero=>
   intro e c0 a d hn he hc0 hK hId hMd hA;have hc:c0=st:=by rw[N3 (by omega)]at hK;cases hK;rfl
   rw[QG,Rq];simp only[B0];rw[d9 (by omega),f8,a4m,fD];exact⟨a,d,rfl,hId,Cx.refl _ _ _,fun _ i h1 h2=>by omega,by rw[List.take_of_length_le (by omega)]at hA;exact hA⟩
  |succ n ihn=>
   intro e c0 a d hn he hc0 hK hId hMd hA;have hel:e<ks.length:=(by omega);have g:=C6 hel;have ga:=D7 hel;rw[J8 hel]at hK;obtain⟨ek,y,q,hy,hys,hq1,hq2,hrest⟩:=hK.first
   have hky:=hks _ (A4 hel);rw[ek,p9 hy]at hky;have n1:ks.length-(e+1)=n:=(by omega);have n2:e+1≤ks.length:=(by omega);have n3:b+1≤q:=(by omega);have n5:c0≤q:=(by omega);have n7:w64 ((e:Int)+1)=((e+1:Nat):Int):=y9 (by omega);have n8:(e:Int)<(ks.length:Int):=(by omega);obtain⟨a1,d1,r1,r2,r3,r6,r7⟩:=ih (q-c0) (by omega) c0 y q rfl hy hys hq1 (by omega) hky.1 hky.2 d hId (fun i h1 h2=>hMd i h1 (by omega));rw[QG,Rq];simp only[B0];rw[f6 n8,f9,g,d6,E0,ga,d6,ek,r1,d6,n7];obtain⟨a',d',k1,k2,k3,k7,k8⟩:=ihn (e+1) q a1 d1 n1 n2 n3 hrest r2 (fun i h1 h2=>by rw[r3.marks i (.inr h1)];exact hMd i (Q4 n5 h1) h2) (fun hg ht=>⟨c0,by rw[List.take_add_one,o5 hel,ek];simp,r7 hg ht⟩);refine⟨a',d',k1,k2,r3.trans k3 (i4 _) hq2 n5 (i4 _),fun hg i h1 h2=>?_,k8⟩;have z2:=k7 hg;have hg1:d1.F.Code=0:=S9 fun hc=>k3.bad hc hg;have w4:=r6 hg1;rw[r3.res]at z2;clear r6 k7;by_cases hi:i<q
   ·obtain⟨st',_,u1,u2,u3,u4,_⟩:=hC.may.nd c0 y hy;have:st'=q:=(by omega);subst this;obtain⟨xx,kk,g1,g2,g3,g4,g5⟩:=(WFo.cons c0 st' st' y hy hys hq1 u4 (WFo.nil st')).inside i h1 hi;obtain⟨p1,p2⟩:=w4 i h1 hi;exact⟨p1.same g1 g2 (fun j h3 h4=>k3.marks j (.inl (by omega))) g3,p2.same g1 g2 (fun j h3 h4=>k3.marks j (.inl (by omega)))⟩
   ·exact z2 i (by omega) h2
 have ei:(ks.map (fun(k:Nat)=>(k:Int)))=i7 ks:=rfl;rw[ZC,iQ,hI.nodes,T8 (by omega) hx t1 t3 t5,d6,ei];obtain⟨a',d',k1,k2,k3,k4,k5⟩:=loop _ 0 (b+1) false c rfl (C9 _) (i4 _) (by rw[T4];exact t5) hI (fun i h1 h2=>hM i (by omega) h2) (fun _ h=>nomatch h);refine⟨a',d',k1,k2,k3.trans (Cx.refl d' b st) (by omega) (i4 _) (i4 _) (i4 _),fun hg i h1 h2=>?_,fun hg ht=>⟨x,st,ks,hx,t1,t5,k5 hg ht⟩⟩;by_cases e:i=b
 ·subst e;have:=p9 hx;exact⟨EF.other (by omega),SF.other (.inl (by omega))⟩
 ·exact k4 hg i (by omega) h2
end
end
section
section
variable{l:List d7}{P:l9}{nr:Nat}(hC:W4 l P nr)
include hC
theorem a45(N:Nat)(ih:∀m,m<N→Sv l P m)(b st:Nat)(hst:st≤l.length)(hN:st-b=N)(ks:List Nat)(hkl:ks.length≤l.length):∀(n e c0:Nat) (a:Bool) (d:i9),ks.length-e=n→e≤ks.length→b+1≤c0→(∀(j:Nat) (hj:j<ks.length),e≤j→kd l ks[j]=6)→Kc l c0 st (ks.drop e)→CI l P d→(∀i,c0≤i→i<st→d.M[i]? =P.Ms[i]?∧EnC l P i)→∃a' d',Om d5 a (e:Int) d ((i7 ks,()),())=some ((a',d',()),())∧CI l P d'∧Cx d d' c0 st∧(d'.F.Code=0→∀i,c0≤i→i<st→EF l P d'.M i∧SF l d'.M d.By i)∧(d'.F.Code=0→a'=true→a=true∧∀(j:Nat) (hj:j<ks.length),e≤j→BEn l ks[j]):=by
 have hsm:=hC.small;intro n
 induction n with
 |zero=>
  intro e c0 a d hn he hc0 h6 hK hId hMd;have hc:c0=st:=by rw[N3 (by omega)]at hK;cases hK;rfl
  rw[JZ,Sn];simp only[B0];rw[d9 (by omega),f8,a6L,sJ];exact⟨a,d,rfl,hId,Cx.refl _ _ _,fun _ i h1 h2=>by omega,fun _ ha=>⟨ha,fun j hj hej=>by omega⟩⟩
 |succ n ihn=>
  intro e c0 a d hn he hc0 h6 hK hId hMd;have hel:e<ks.length:=(by omega);have g:=C6 hel;have ga:=D7 hel;have hk6:=h6 e hel (i4 _);rw[J8 hel]at hK;obtain⟨ek,y,q,hy,hys,hq1,hq2,hrest⟩:=hK.first
  rw[ek,p9 hy]at hk6;have n1:ks.length-(e+1)=n:=(by omega);have n2:e+1≤ks.length:=(by omega);have n3:b+1≤q:=(by omega);have n5:c0≤q:=(by omega);have n7:w64 ((e:Int)+1)=((e+1:Nat):Int):=y9 (by omega);have n8:(e:Int)<(ks.length:Int):=(by omega);obtain⟨a1,d1,r1,r2,r3,r6,r7⟩:=ih (q-c0) (by omega) c0 y q rfl hy hys hq1 (by omega) hk6 d hId (fun i h1 h2=>hMd i h1 (by omega));have next:∀a2:Bool,(a2=true→a=true∧a1=true)→∃a' d',Om d5 a2 ((e+1:Nat):Int) d1 ((i7 ks,()),())=some ((a',d',()),())∧CI l P d'∧Cx d d' c0 st∧(d'.F.Code=0→∀i,c0≤i→i<st→EF l P d'.M i∧SF l d'.M d.By i)∧(d'.F.Code=0→a'=true→a=true∧∀(j:Nat) (hj:j<ks.length),e≤j→BEn l ks[j]):=by
   intro a2 ha2;obtain⟨a',d',k1,k2,k3,k7,k8⟩:=ihn (e+1) q a2 d1 n1 n2 n3 (fun j hj hje=>h6 j hj (by omega)) hrest r2 (fun i h1 h2=>by rw[r3.marks i (.inr h1)];exact hMd i (Q4 n5 h1) h2);refine⟨a',d',k1,k2,r3.trans k3 (i4 _) hq2 n5 (i4 _),fun hg i h1 h2=>?_,fun hg ht=>?_⟩
   rotate_left
   ·obtain⟨w1,w2⟩:=k8 hg ht;obtain⟨w3,w4⟩:=ha2 w1;have hg1:d1.F.Code=0:=S9 fun hc=>k3.bad hc hg;refine⟨w3,fun j hj hej=>?_⟩;by_cases ej:e=j
    ·subst ej;rw[ek];exact r7 hg1 w4
    ·exact w2 j hj (by omega)
   have z2:=k7 hg;have hg1:d1.F.Code=0:=S9 fun hc=>k3.bad hc hg;have w4:=r6 hg1;rw[r3.res]at z2;clear r6 k7;by_cases hi:i<q
   ·obtain⟨st',_,u1,u2,u3,u4,_⟩:=hC.may.nd c0 y hy;have:st'=q:=(by omega);subst this;obtain⟨xx,kk,g1,g2,g3,g4,g5⟩:=(WFo.cons c0 st' st' y hy hys hq1 u4 (WFo.nil st')).inside i h1 hi;obtain⟨p1,p2⟩:=w4 i h1 hi;exact⟨p1.same g1 g2 (fun j h3 h4=>k3.marks j (.inl (by omega))) g3,p2.same g1 g2 (fun j h3 h4=>k3.marks j (.inl (by omega)))⟩
   ·exact z2 i (by omega) h2
  rw[JZ,Sn];simp only[B0];rw[f6 n8,f9,g,d6,E0,ga,d6,ek,r1,d6,n7];cases a with
  |true=>exact next a1 (fun h=>⟨rfl,h⟩)
  |false=>exact next false (fun h=>nomatch h)
end
end
section
section
variable{l:List d7}{P:l9}{nr:Nat}(hC:W4 l P nr)
include hC
theorem zV(b:Nat)(x:d7)(st:Nat)(hx:l[b]? =some x)(hs:x.Cs=(st:Int)-(b+1))(ks:List Nat)(hks:Kc l (b+1) st ks)(hk:7≤x.Ks∧x.Ks≤13)(c ca:i9)(k:Nat)(y:d7)(ta:Int)(hbk:b+1≤k)(hkst:k≤st)(hy:l[k]? =some y)(hyk:21≤y.Ks∧y.Ks≤32)(hys:y.Cs=(st:Int)-(k+1))(hI:CI l P ca)(hX:Cx c ca k st)(f:x8)(hE:f.Code=0→(∃m,ca.M[k]? =some m∧m.Ts=ta)∧∀i,k≤i→i<st→EF l P ca.M i)(hlow:∀i,b+1≤i→i<k→14≤kd l i∧kd l i<21)(hkk:∀k'∈ks,21≤kd l k'→k'=k)(hf:c.F.Code≠0→f.Code≠0)(hne:f.Code=0→x.Ks≤12→ta≠0)(hret:f.Code=0→x.Ks=11→(ks=[]→c.By=0)∧(ks≠ []→c.By≠0)):CI l P ⟨ca.L,ca.M,ca.P,ca.T,f,ca.By⟩∧Cx c ⟨ca.L,ca.M,ca.P,ca.T,f,ca.By⟩ b st∧(f.Code=0→∀i,b≤i→i<st→EF l P ca.M i∧SF l ca.M c.By i):=by
 refine⟨hI.fault f,⟨fun i hi=>hX.marks i (by omega),hX.res,hf⟩,fun hg i i1 i2=>?_⟩;obtain⟨⟨m,m1,m2⟩,m3⟩:=hE hg;have hn:=hne hg;have hr:=hret hg;clear hE hne hret;by_cases e:i=b
 ·subst e;have hke:=p9 hx;refine⟨EF.other (by omega),⟨fun _ h12 z st' ks' a1 a2 a3 k' hkm h21=>?_,fun h11 z st' ks' a1 a2 a3=>?_⟩⟩
  ·rw[hx]at a1;cases a1;have:st'=st:=(by omega);subst this;have:=hks.det a3;subst this;have:=hkk k' hkm h21;subst this;exact⟨m,m1,by rw[m2];exact hn (by omega)⟩
  ·rw[hx]at a1;cases a1;have:st'=st:=(by omega);subst this;have:=hks.det a3;subst this;exact hr (by omega)
 ·by_cases h:i<k
  ·obtain⟨w1,w2⟩:=hlow i (by omega) h;exact⟨EF.other w2,SF.other (.inr (by omega))⟩
  ·refine⟨m3 i (by omega) i2,SF.other (.inr ?_)⟩;have:=Ek hC.may hC.small hC.tx _ k y st hy hys rfl (by omega) i (by omega) i2;omega
end
end
section
section
variable{l:List d7}{P:l9}{nr:Nat}(hC:W4 l P nr)
include hC
theorem a6Q(b:Nat)(x:d7)(q:Nat)(hx:l[b]? =some x)(hs:x.Cs=(q:Int)-(b+1))(hbq:b+1≤q)(hq:q≤l.length)(hk:x.Ks=12∨x.Ks=13)(c:i9)(hI:CI l P c)(hM:∀i,b≤i→i<q→c.M[i]? =P.Ms[i]?∧EnC l P i):∃e c',Hq d5 c (b:Int)=some ((e,c',()),())∧CI l P c'∧Cx c c' b q∧(c'.F.Code=0→∀i,b≤i→i<q→EF l P c'.M i∧SF l c'.M c.By i)∧(c'.F.Code=0→e=true→En l b):=by
 have hsm:=hC.small;obtain⟨st,ks,t1,t2,t3,t4,t5,t6,t7⟩:=hC.may.nd b x hx;have est:st=q:=(by omega);subst est;have hbl:=(l3.1 hx).1;have hxe:=(l3.1 hx).2;have hS:E5 l ks=[101]:=by
  rcases hk with h|h
  ·exact t6.k12 (.inl h)
  ·exact(t6.k13 h).1
 obtain⟨e1,e2⟩:=H2 hS;obtain⟨y,rfl,hy,hys,hy1⟩:=Uf t5 e1;have s0:=I0 (e2 0 (by simp) (by simp));simp only[H7]at s0;rw[p9 hy]at s0;have g0:f5 (i7 [b+1]) (0:Int)=some ((b+1:Nat):Int):=C6 (i:=0) (ks:=[b+1]) (by simp);have ga0:(i7 [b+1])[Int.toNat 0]? =some ((b+1:Nat):Int):=D7 (i:=0) (ks:=[b+1]) (by simp);have ei:(([b+1]:List Nat).map (fun(k:Nat)=>(k:Int)))=i7 [b+1]:=rfl;have k7:¬x.Ks=7:=(by omega);have k8:¬x.Ks=8:=(by omega);have k9:¬x.Ks=9:=(by omega);have k10:¬x.Ks=10:=(by omega);have k11:¬x.Ks=11:=(by omega);have hkr:7≤x.Ks∧x.Ks≤13:=(by omega);rw[Un,Gv];by_cases cb:c.F.Code=0
 ·rw[f6 cb,A2,f8,hI.nodes,T8 (by omega) hx t1 t3 t5,d6,l4 hbl,d6,hxe,ei,d9 k7,f8,d9 k8,f8,d9 k9,f8,d9 k10,f8,d9 k11,f8];obtain⟨ta,ca,a1,a2,a3,a4,a5,a6⟩:=Mw hC _ (b+1) y st rfl hy hys hy1 t3 s0.1 s0.2 c hI (fun i i1 i2=>hM i (by omega) i2);have hkl:b+1<ca.L.length:=(by rw[a2.nodes];exact(l3.1 hy).1);have hlow:∀i,b+1≤i→i<b+1→14≤kd l i∧kd l i<21:=fun i i1 i2=>absurd i2 (Nat.not_lt_of_le i1);have hkk:∀k'∈ [b+1],21≤kd l k'→k'=b+1:=fun k' hk' _=>O0.1 hk';have fin:=fun(f:x8) (h1:f.Code=0→ca.F.Code=0) (h2:f.Code=0→x.Ks≤12→ta≠0)=>zV hC b x st hx t1 [b+1] t5 hkr c ca (b+1) y ta (i4 _) t2 hy s0 hys a2 a3 f (fun hg=>⟨(a6 (h1 hg)).2.1,(a6 (h1 hg)).2.2⟩) hlow hkk (fun h=>absurd cb h) h2 (fun _ h=>absurd h k11);simp only;rw[g0,d6,ga0,d6,a1];simp only[d6];rcases hk with h12|h13
  ·obtain⟨f,f1,f2⟩:=X3 ca (!(decide (ta=0))) (b+1) hkl;rw[f6 h12,f9,f1];obtain⟨z1,z2,z3⟩:=fin f (fun hg=>(f2 hg).1) (fun hg _=>by have:=(f2 hg).2;simpa using this);exact⟨false,_,rfl,z1,z2,z3,fun _ h=>nomatch h⟩
  ·have n12:¬x.Ks=12:=(by rw[h13];decide);rw[d9 n12,f8,a1];obtain⟨z1,z2,z3⟩:=fin ca.F id (fun _ h=>by rw[h13]at h;exact absurd h (by decide));exact⟨false,_,rfl,z1,z2,z3,fun _ h=>nomatch h⟩
 ·rw[d9 cb];exact⟨false,c,rfl,hI,Cx.refl _ _ _,fun h=>absurd h cb,fun _ h=>nomatch h⟩
end
end
end
section
section
section
variable{l:List d7}{P:l9}{nr:Nat}(hC:W4 l P nr)
include hC
theorem b2C(b:Nat)(x:d7)(q:Nat)(hx:l[b]? =some x)(hs:x.Cs=(q:Int)-(b+1))(hbq:b+1≤q)(hq:q≤l.length)(hk:x.Ks=11)(c:i9)(hI:CI l P c)(hM:∀i,b≤i→i<q→c.M[i]? =P.Ms[i]?∧EnC l P i):∃e c',Hq d5 c (b:Int)=some ((e,c',()),())∧CI l P c'∧Cx c c' b q∧(c'.F.Code=0→∀i,b≤i→i<q→EF l P c'.M i∧SF l c'.M c.By i)∧(c'.F.Code=0→e=true→En l b):=by
 have hsm:=hC.small;obtain⟨st,ks,t1,t2,t3,t4,t5,t6,t7⟩:=hC.may.nd b x hx;have est:st=q:=(by omega);subst est;have hbl:=(l3.1 hx).1;have hxe:=(l3.1 hx).2;have k7:¬x.Ks=7:=(by omega);have k8:¬x.Ks=8:=(by omega);have k9:¬x.Ks=9:=(by omega);have k10:¬x.Ks=10:=(by omega);have hkr:7≤x.Ks∧x.Ks≤13:=(by omega);have ei:(ks.map (fun(k:Nat)=>(k:Int)))=i7 ks:=rfl;rw[Un,Gv];by_cases cb:c.F.Code=0
 ·rw[f6 cb,A2,f8,hI.nodes,T8 (by omega) hx t1 t3 t5,d6,l4 hbl,d6,hxe,ei,d9 k7,f8,d9 k8,f8,d9 k9,f8,d9 k10,f8,f6 hk,f9];simp only[B0];rcases t6.k11 hk with hS|hS
  ·have hks:=aM hS;subst hks;have hst:st=b+1:=(by cases t5;rfl);have hbL:b<c.L.length:=(by rw[hI.nodes];exact hbl);obtain⟨f,f1,f2⟩:=X3 c (decide (c.By=0)) b hbL;rw[f6 (by simp),f9,f1];refine⟨true,_,rfl,hI.fault f,⟨fun _ _=>rfl,rfl,fun h=>absurd cb h⟩,fun hg i i1 i2=>?_,fun _ _=>.ret b x hx hk⟩;have:i=b:=(by omega);subst this;have hr:=D3 (f2 hg).2;refine⟨EF.other (by rw[p9 hx];omega),⟨fun _ _ z st' ks' a1 a2 a3 k' hkm _=>?_,fun _ z st' ks' a1 a2 a3=>?_⟩⟩
   ·rw[hx]at a1;cases a1;have:st'=st:=(by omega);subst this;have:=t5.det a3;subst this;exact nomatch hkm
   ·rw[hx]at a1;cases a1;have:st'=st:=(by omega);subst this;have:=t5.det a3;subst this;exact⟨fun _=>hr,fun h=>absurd rfl h⟩
  ·obtain⟨e1,e2⟩:=H2 hS;obtain⟨y,rfl,hy,hys,hy1⟩:=Uf t5 e1;have s0:=I0 (e2 0 (by simp) (by simp));simp only[H7]at s0;rw[p9 hy]at s0;have g0:f5 (i7 [b+1]) (0:Int)=some ((b+1:Nat):Int):=C6 (i:=0) (ks:=[b+1]) (by simp);have ga0:(i7 [b+1])[Int.toNat 0]? =some ((b+1:Nat):Int):=D7 (i:=0) (ks:=[b+1]) (by simp);obtain⟨ta,ca,a1,a2,a3,a4,a5,a6⟩:=Mw hC _ (b+1) y st rfl hy hys hy1 t3 s0.1 s0.2 c hI (fun i i1 i2=>hM i (by omega) i2);have hkl:b+1<ca.L.length:=(by rw[a2.nodes];exact(l3.1 hy).1);have hlow:∀i,b+1≤i→i<b+1→14≤kd l i∧kd l i<21:=fun i i1 i2=>absurd i2 (Nat.not_lt_of_le i1);have hkk:∀k'∈ [b+1],21≤kd l k'→k'=b+1:=fun k' hk' _=>O0.1 hk';have fin:=fun(f:x8) (h1:f.Code=0→ca.F.Code=0) (h2:f.Code=0→ta≠0∧c.By≠0)=>zV hC b x st hx t1 [b+1] t5 hkr c ca (b+1) y ta (i4 _) t2 hy s0 hys a2 a3 f (fun hg=>⟨(a6 (h1 hg)).2.1,(a6 (h1 hg)).2.2⟩) hlow hkk (fun h=>absurd cb h) (fun hg _=>(h2 hg).1) (fun hg _=>⟨fun h=>absurd h (by simp),fun _=>(h2 hg).2⟩);rw[d9 (by simp),f8,g0,d6,ga0,d6,a1];simp only[d6];by_cases cr:c.By=0
   ·obtain⟨f,f1,f2⟩:=X3 ca false (b+1) hkl;rw[f6 cr,A2,f8,f1];obtain⟨z1,z2,z3⟩:=fin f (fun hg=>(f2 hg).1) (fun hg=>absurd (f2 hg).2 (by decide));exact⟨true,_,rfl,z1,z2,z3,fun _ _=>.ret b x hx hk⟩
   ·obtain⟨r,r1,r2⟩:=Oc ca ta c.By;obtain⟨f,f1,f2⟩:=X3 ca r (b+1) hkl;rw[d9 cr,D5,f9,r1];simp only[d6];rw[f1];obtain⟨z1,z2,z3⟩:=fin f (fun hg=>(f2 hg).1) (fun hg=>⟨by
     have h5:=(r2 (f2 hg).2).2.2.2.2;rcases h5 with h|h
     ·rw[h];exact cr
     ·rw[h];decide,cr⟩)
    exact⟨true,_,rfl,z1,z2,z3,fun _ _=>.ret b x hx hk⟩
 ·rw[d9 cb];exact⟨false,c,rfl,hI,Cx.refl _ _ _,fun h=>absurd h cb,fun _ h=>nomatch h⟩
end
end
section
section
variable{l:List d7}{P:l9}{nr:Nat}(hC:W4 l P nr)
include hC
theorem a8g(b:Nat)(x:d7)(q:Nat)(hx:l[b]? =some x)(hs:x.Cs=(q:Int)-(b+1))(hbq:b+1≤q)(hq:q≤l.length)(hk:x.Ks=7)(c:i9)(hI:CI l P c)(hM:∀i,b≤i→i<q→c.M[i]? =P.Ms[i]?∧EnC l P i):∃e c',Hq d5 c (b:Int)=some ((e,c',()),())∧CI l P c'∧Cx c c' b q∧(c'.F.Code=0→∀i,b≤i→i<q→EF l P c'.M i∧SF l c'.M c.By i)∧(c'.F.Code=0→e=true→En l b):=by
 have hsm:=hC.small;obtain⟨st,ks,t1,t2,t3,t4,t5,t6,t7⟩:=hC.may.nd b x hx;have est:st=q:=(by omega);subst est;have hbl:=(l3.1 hx).1;have hxe:=(l3.1 hx).2;have hkr:7≤x.Ks∧x.Ks≤13:=(by omega);obtain⟨m,m1,m2⟩:=(hM b (i4 _) hbq).2.k7 (by rw[p9 hx];exact hk);obtain⟨e1,e2⟩:=H2 (t6.k7 hk);obtain⟨k0,k1,y,z,rfl,hk0,hy,hys,hy1,hz,hzs,hz1⟩:=Gy t5 e1;have s0:=S6 (e2 0 (by simp) (by simp));have s1:=I0 (e2 1 (by simp) (by simp));simp only[H7,Z6]at s0 s1;rw[p9 hy]at s0;rw[p9 hz]at s1;have g1:f5 (i7 [k0,k1]) (1:Int)=some ((k1:Nat):Int):=C6 (i:=1) (ks:=[k0,k1]) (by simp);have ga1:(i7 [k0,k1])[Int.toNat 1]? =some ((k1:Nat):Int):=D7 (i:=1) (ks:=[k0,k1]) (by simp);have ei:(([k0,k1]:List Nat).map (fun(k:Nat)=>(k:Int)))=i7 [k0,k1]:=rfl;have hty:=Dv hC.may hC.small hC.tx _ k0 y k1 hy hys rfl (by omega);have hlow:∀i,b+1≤i→i<k1→14≤kd l i∧kd l i<21:=fun i i1 i2=>by have:=hty i (by omega) i2;omega
 have hkk:∀k'∈ [k0,k1],21≤kd l k'→k'=k1:=fun k' hk' h21=>by
  simp at hk';rcases hk' with rfl|rfl
  ·have:=hty k' (i4 _) (by omega);omega
  ·rfl
 have hbk1:b+1≤k1:=(by omega);rw[Un,Gv];by_cases cb:c.F.Code=0
 ·rw[f6 cb,A2,f8,hI.nodes,T8 (by omega) hx t1 t3 t5,d6,l4 hbl,d6,hxe,ei,f6 hk,f9];obtain⟨ta,ca,a1,a2,a3,a4,a5,a6⟩:=Mw hC _ k1 z st rfl hz hzs hz1 t3 s1.1 s1.2 c hI (fun i i1 i2=>hM i (by omega) i2);have hkl:k1<ca.L.length:=(by rw[a2.nodes];exact(l3.1 hz).1);have hmb:ca.M[b]? =some m:=(by rw[a3.marks b (.inl hbk1),(hM b (i4 _) hbq).1];exact m1);have hbM:=(l3.1 hmb).1;have hbMe:=(l3.1 hmb).2;obtain⟨r,r1,r2⟩:=Oc ca ta m.Ts;obtain⟨f,f1,f2⟩:=X3 ca r k1 hkl;simp only;rw[g1,d6,ga1,d6,a1,d6,l4 hbM,d6,hbMe];simp only[d6];rw[r1];simp only[d6];rw[f1];have n11:¬x.Ks=11:=(by rw[hk];decide);obtain⟨z1,z2,z3⟩:=zV hC b x st hx t1 [k0,k1] t5 hkr c ca k1 z ta hbk1 (Nat.le_of_lt hz1) hz s1 hzs a2 a3 f (fun hg=>⟨(a6 (f2 hg).1).2.1,(a6 (f2 hg).1).2.2⟩) hlow hkk (fun h=>absurd cb h) (fun hg _=>by
   have h5:=(r2 (f2 hg).2).2.2.2.2;have:=m2.1;clear a6;omega) (fun _ h=>absurd h n11)
  exact⟨false,_,rfl,z1,z2,z3,fun _ h=>nomatch h⟩
 ·rw[d9 cb];exact⟨false,c,rfl,hI,Cx.refl _ _ _,fun h=>absurd h cb,fun _ h=>nomatch h⟩
end
end
section
section
variable{l:List d7}{P:l9}{nr:Nat}(hC:W4 l P nr)
include hC
set_option maxHeartbeats 2000000 in
theorem a6o(b:Nat)(x:d7)(q:Nat)(hx:l[b]? =some x)(hs:x.Cs=(q:Int)-(b+1))(hbq:b+1≤q)(hq:q≤l.length)(hk:x.Ks=8)(c:i9)(hI:CI l P c)(hM:∀i,b≤i→i<q→c.M[i]? =P.Ms[i]?∧EnC l P i):∃e c',Hq d5 c (b:Int)=some ((e,c',()),())∧CI l P c'∧Cx c c' b q∧(c'.F.Code=0→∀i,b≤i→i<q→EF l P c'.M i∧SF l c'.M c.By i)∧(c'.F.Code=0→e=true→En l b):=by
 have hsm:=hC.small;obtain⟨st,ks,t1,t2,t3,t4,t5,t6,t7⟩:=hC.may.nd b x hx;have est:st=q:=(by omega);subst est;have hbl:=(l3.1 hx).1;have hxe:=(l3.1 hx).2;obtain⟨f1,f2⟩:=t6.k8 hk;obtain⟨e1,e2⟩:=H2 f1;obtain⟨k0,k1,y,z,rfl,hk0,hy,hys,hy1,hz,hzs,hz1⟩:=Gy t5 e1;have s0:=I0 (e2 0 (by simp) (by simp));have s1:=I0 (e2 1 (by simp) (by simp));simp only[H7,Z6]at s0 s1;rw[p9 hy]at s0;rw[p9 hz]at s1;have fk:y.Ks≠27:=by have:fkd l [k0,k1]=y.Ks:=p9 hy;rw[this]at f2;omega
 have g0:f5 (i7 [k0,k1]) (0:Int)=some ((k0:Nat):Int):=C6 (i:=0) (ks:=[k0,k1]) (by simp);have ga0:(i7 [k0,k1])[Int.toNat 0]? =some ((k0:Nat):Int):=D7 (i:=0) (ks:=[k0,k1]) (by simp);have g1:f5 (i7 [k0,k1]) (1:Int)=some ((k1:Nat):Int):=C6 (i:=1) (ks:=[k0,k1]) (by simp);have ga1:(i7 [k0,k1])[Int.toNat 1]? =some ((k1:Nat):Int):=D7 (i:=1) (ks:=[k0,k1]) (by simp);have ei:(([k0,k1]:List Nat).map (fun(k:Nat)=>(k:Int)))=i7 [k0,k1]:=rfl;have hin0:=Ek hC.may hC.small hC.tx _ k0 y k1 hy hys rfl (by omega);have hin1:=Ek hC.may hC.small hC.tx _ k1 z st hz hzs rfl (by omega);have hkl0:=(l3.1 hy).1;have hye:=(l3.1 hy).2;have hkl1:=(l3.1 hz).1;rw[Un,Gv];by_cases cb:c.F.Code=0
 ·have n7:¬x.Ks=7:=(by rw[hk];decide);rw[f6 cb,A2,f8,hI.nodes,T8 (by omega) hx t1 t3 t5,d6,l4 hbl,d6,hxe,ei,d9 n7,f8,f6 hk,f9];obtain⟨ta,ca,a1,a2,a3,a4,a5,a6⟩:=Mw hC _ k0 y k1 rfl hy hys hy1 (by omega) s0.1 s0.2 c hI (fun i i1 i2=>hM i (by omega) (by omega));obtain⟨tb,cc,b1,b2,b3,b4,b5,b6⟩:=Mw hC _ k1 z st rfl hz hzs hz1 t3 s1.1 s1.2 ca a2 (fun i i1 i2=>by rw[a3.marks i (.inr i1)];exact hM i (by omega) i2);have key:∀f:x8,(f.Code=0→cc.F.Code=0)→∃e c',Mg d5 ((ta,ca,()),()) ((tb,cc,()),()) ⟨cc.L,cc.M,cc.P,cc.T,f,cc.By⟩ ((i7 [k0,k1],()),())=some ((e,c',()),())∧CI l P c'∧Cx c c' b st∧(c'.F.Code=0→∀i,b≤i→i<st→EF l P c'.M i∧SF l c'.M c.By i)∧(c'.F.Code=0→e=true→En l b):=by
   intro f hf;obtain⟨r,r1,r2⟩:=Oc ⟨cc.L,cc.M,cc.P,cc.T,f,cc.By⟩ tb ta;obtain⟨f',f1',f2'⟩:=X3 ⟨cc.L,cc.M,cc.P,cc.T,f,cc.By⟩ r k1 (by simp only;rw[b2.nodes];exact hkl1);rw[a5G,gX];simp only;rw[r1];simp only[d6];rw[g1,d6,ga1,d6,f1'];refine⟨false,_,rfl,b2.fault f',⟨fun i hi=>?_,by show cc.By=c.By;rw[b3.res,a3.res],fun h=>absurd cb h⟩,fun hg i i1 i2=>?_,fun _ h=>nomatch h⟩
   ·show cc.M[i]? =c.M[i]?;rw[b3.marks i (by omega),a3.marks i (by omega)]
   ·obtain⟨hg1,hg2⟩:=f2' hg;have hgc:=hf hg1;have hga:ca.F.Code=0:=S9 fun hc=>b3.bad hc hgc;obtain⟨p1,⟨m,m1,m2⟩,p3⟩:=a6 hga;obtain⟨q1,⟨m',m1',m2'⟩,q3⟩:=b6 hgc;have hta:=p1 fk;have hfit:=(r2 hg2).2.2.2.2;have htb:tb≠0:=by
     rcases hfit with h|h
     ·rw[h];exact hta
     ·rw[h];decide
    clear a6 b6;have same:∀j,k0≤j→j<k1→cc.M[j]? =ca.M[j]? :=fun j j1 j2=>b3.marks j (.inl j2);show EF l P cc.M i∧SF l cc.M c.By i;by_cases e:i=b
    ·subst e;have hke:=p9 hx;refine⟨EF.other (by omega),⟨fun _ _ w st' ks' w1 w2 w3 k' hkm h21=>?_,fun h11=>by omega⟩⟩;rw[hx]at w1;cases w1;have:st'=st:=(by omega);subst this;have:=t5.det w3;subst this;rcases F9.1 hkm with rfl|hkm
     ·exact⟨m,by rw[same k' (i4 _) hy1];exact m1,by rw[m2];exact hta⟩
     ·rw[O0.1 hkm];exact⟨m',m1',by rw[m2'];exact htb⟩
    ·by_cases h:i<k1
     ·obtain⟨st0,_,u1,u2,u3,u4,_⟩:=hC.may.nd k0 y hy;have:st0=k1:=(by omega);subst this;obtain⟨xx,kk,v1,v2,v3,v4,v5⟩:=(WFo.cons k0 st0 st0 y hy hys hy1 u4 (WFo.nil st0)).inside i (by omega) h;refine⟨(p3 i (by omega) h).same v1 v2 (fun j j1 j2=>same j (by omega) (by omega)) v3,SF.other (.inr ?_)⟩;have:=hin0 i (by omega) h;omega
     ·refine⟨q3 i (by omega) i2,SF.other (.inr ?_)⟩;have:=hin1 i (by omega) i2;omega
  have same0:(⟨cc.L,cc.M,cc.P,cc.T,cc.F,cc.By⟩:i9)=cc:=rfl;have k0':=key cc.F id;rw[same0]at k0';simp only;rw[g0,d6,ga0,d6,a1];simp only[d6];rw[g1,d6,ga1,d6,b1];simp only[d6];by_cases cg:cc.F.Code=0
  ·rw[f6 cg,f9,b2.nodes,l4 hkl0,d6,hye];by_cases c28:y.Ks=28
   ·obtain⟨st0,ks0,u1,u2,u3,u4,u5,u6,_⟩:=hC.may.nd k0 y hy;obtain⟨v1,v2⟩:=H2 (u6.k28 (.inl c28));obtain⟨j0,j1,y0,y1,rfl,hj0,hy0,hy0s,hy01,hy1',hy1s,hy11⟩:=Gy u5 v1;have hm:k0+1<cc.M.length:=(by rw[b2.len];omega);have ew:w64 ((k0:Int)+1)=((k0+1:Nat):Int):=y9 (by omega);rw[f6 c28,f9,ew,l4 hm,d6];by_cases c3:cc.M[k0+1].Ts=3
    ·obtain⟨f,f1,f2⟩:=Im cc 9 (by decide) k0 (by rw[b2.nodes];exact hkl0);rw[f6 c3,f9,f1];exact key f (fun h=>absurd h f2)
    ·rw[d9 c3];exact k0'
   ·rw[d9 c28];exact k0'
  ·rw[d9 cg];exact k0'
 ·rw[d9 cb];exact⟨false,c,rfl,hI,Cx.refl _ _ _,fun h=>absurd h cb,fun _ h=>nomatch h⟩
end
end
section
section
variable{l:List d7}{P:l9}{nr:Nat}(hC:W4 l P nr)
include hC
set_option maxHeartbeats 2000000 in
theorem a3z(N:Nat)(ih:∀m,m<N→Sv l P m)(b:Nat)(x:d7)(q:Nat)(hN:q-b=N)(hx:l[b]? =some x)(hs:x.Cs=(q:Int)-(b+1))(hbq:b+1≤q)(hq:q≤l.length)(hk:x.Ks=9∨x.Ks=10)(c:i9)(hI:CI l P c)(hM:∀i,b≤i→i<q→c.M[i]? =P.Ms[i]?∧EnC l P i):∃e c',Hq d5 c (b:Int)=some ((e,c',()),())∧CI l P c'∧Cx c c' b q∧(c'.F.Code=0→∀i,b≤i→i<q→EF l P c'.M i∧SF l c'.M c.By i)∧(c'.F.Code=0→e=true→En l b):=by
 have hsm:=hC.small;obtain⟨st,ks,t1,t2,t3,t4,t5,t6,t7⟩:=hC.may.nd b x hx;have est:st=q:=(by omega);subst est;have hbl:=(l3.1 hx).1;have hxe:=(l3.1 hx).2;have hS:∃S':List Int,E5 l ks=101::S'∧(∀s∈S',s=98)∧(S'.length=1∨S'.length=2∧x.Ks=9):=by
  rcases hk with h|h
  ·rcases t6.k9 h with h'|h'
   ·exact⟨[98],h',by simp,.inl rfl⟩
   ·exact⟨[98,98],h',by simp,.inr ⟨rfl,h⟩⟩
  ·exact⟨[98],t6.k10 h,by simp,.inl rfl⟩
 obtain⟨S',hS1,hS2,hS3⟩:=hS;obtain⟨e1,e2⟩:=H2 hS1;rw[I5]at e1;have hkle:=t5.le;obtain⟨k0,kr,rfl⟩:∃k kr,ks=k::kr:=by
  cases ks with
  |nil=>simp at e1
  |cons k kr=>exact⟨k,kr,rfl⟩
 have t5':=t5;obtain⟨rfl,y,q1,hy,hys,hy1,hy2,hrest⟩:=t5.first
 have s0:=I0 (e2 0 (by simp) (by simp));simp only[H7]at s0;rw[p9 hy]at s0;have h6:∀(j:Nat) (hj:j<((b+1)::kr).length),1≤j→kd l ((b+1)::kr)[j]=6:=fun j hj hj1=>by
  have hj':j<(101::S').length:=(by rw[I5];omega);have h:=e2 j hj hj';have hm:(101::S')[j]∈S':=by obtain⟨j',rfl⟩:∃j',j=j'+1:=⟨j-1,by omega⟩;rw[Z6];exact A4 _
  exact Pl (h.trans (hS2 _ hm))
 have g0:f5 (i7 ((b+1)::kr)) (0:Int)=some ((b+1:Nat):Int):=C6 (i:=0) (ks:=(b+1)::kr) (by simp);have ga0:(i7 ((b+1)::kr))[Int.toNat 0]? =some ((b+1:Nat):Int):=D7 (i:=0) (ks:=(b+1)::kr) (by simp);have ei:(((b+1)::kr:List Nat).map (fun(k:Nat)=>(k:Int)))=i7 ((b+1)::kr):=rfl;have hin0:=Ek hC.may hC.small hC.tx _ (b+1) y q1 hy hys rfl (by omega);have hkl0:=(l3.1 hy).1;rw[Un,Gv];by_cases cb:c.F.Code=0
 ·have n7:¬x.Ks=7:=(by omega);have n8:¬x.Ks=8:=(by omega);rw[f6 cb,A2,f8,hI.nodes,T8 (by omega) hx t1 t3 t5',d6,l4 hbl,d6,hxe,ei,d9 n7,f8,d9 n8,f8];have key:∃e c',fT d5 c ((i7 ((b+1)::kr),()),())=some ((e,c',()),())∧CI l P c'∧Cx c c' b st∧(c'.F.Code=0→∀i,b≤i→i<st→EF l P c'.M i∧SF l c'.M c.By i)∧(c'.F.Code=0→e=true→En l b):=by
   obtain⟨ta,ca,a1,a2,a3,a4,a5,a6⟩:=Mw hC _ (b+1) y q1 rfl hy hys hy1 (by omega) s0.1 s0.2 c hI (fun i i1 i2=>hM i (by omega) (by omega));obtain⟨f,f1,f2⟩:=X3 ca (decide (ta=2)) (b+1) (by rw[a2.nodes];exact hkl0);have hcI:=a2.fault f;obtain⟨a',d',b1,b2,b3,b4,b5⟩:=a45 hC N ih b st t3 hN ((b+1)::kr) (Q4 (Nat.le_add_left _ _) (Q4 hkle t3)) _ 1 q1 (decide (((i7 ((b+1)::kr)).length:Int)=3)) ⟨ca.L,ca.M,ca.P,ca.T,f,ca.By⟩ rfl (by simp) (by omega) h6 (by simpa using hrest) hcI (fun i i1 i2=>by
    show ca.M[i]? =P.Ms[i]?∧EnC l P i;rw[a3.marks i (.inr i1)];exact hM i (by omega) i2)
   rw[b3H,Yx];simp only;rw[g0,d6,ga0,d6,a1];simp only[d6];rw[f1];simp only[d6];refine⟨a',d',b1,b2,⟨fun i hi=>?_,by rw[b3.res];exact a3.res,fun h=>absurd cb h⟩,fun hg i i1 i2=>?_,fun hg ht=>?_⟩
   ·rw[b3.marks i (by omega)];exact a3.marks i (by omega)
   ·have hgf:f.Code=0:=S9 fun hc=>b3.bad hc hg;obtain⟨hga,hgt⟩:=f2 hgf;have hta:ta=2:=D3 hgt;obtain⟨p1,⟨m,m1,m2⟩,p3⟩:=a6 hga;have z4:=b4 hg;have hres:(⟨ca.L,ca.M,ca.P,ca.T,f,ca.By⟩:i9).By=c.By:=a3.res;rw[hres]at z4;clear a6 b4 b5;have same:∀j,b+1≤j→j<q1→d'.M[j]? =ca.M[j]? :=fun j j1 j2=>b3.marks j (.inl j2);by_cases e:i=b
    ·subst e;have hke:=p9 hx;refine⟨EF.other (by omega),⟨fun _ _ w st' ks' w1 w2 w3 k' hkm h21=>?_,fun h11=>by omega⟩⟩;rw[hx]at w1;cases w1;have:st'=st:=(by omega);subst this;have:=t5'.det w3;subst this;obtain⟨j,hj,rfl⟩:=List.getElem_of_mem hkm;by_cases hj0:j=0
     ·subst hj0;refine⟨m,?_,by rw[m2,hta];decide⟩;show d'.M[i+1]? =some m;rw[same _ (i4 _) hy1];exact m1
     ·have:=h6 j hj (by omega);omega
    ·by_cases h:i<q1
     ·obtain⟨st0,_,u1,u2,u3,u4,_⟩:=hC.may.nd (b+1) y hy;have:st0=q1:=(by omega);subst this;obtain⟨xx,kk,v1,v2,v3,v4,v5⟩:=(WFo.cons (b+1) st0 st0 y hy hys hy1 u4 (WFo.nil st0)).inside i (by omega) h;refine⟨(p3 i (by omega) h).same v1 v2 (fun j j1 j2=>same j (by omega) (by omega)) v3,SF.other (.inr ?_)⟩;have:=hin0 i (by omega) h;omega
     ·exact z4 i (by omega) i2
   ·obtain⟨w1,w2⟩:=b5 hg ht;have w3:((i7 ((b+1)::kr)).length:Int)=3:=D3 w1;rw[B0]at w3;clear a6 b4 b5;have hk9:x.Ks=9:=by rw[I5]at e1 w3;omega
    match kr,t5',w2,w3 with
    | [k1,k2],t5',w2,w3=>obtain⟨x1,s1,l1,p1,p2,p3,y1,p4,p5⟩:=w2 1 (by simp) (i4 _);obtain⟨x2,s2,l2,r1,r2,r3,y2,r4,r5⟩:=w2 2 (by simp) (by omega);exact .both b st (b+1) k1 k2 x hx hk9 t1 t5' x1 s1 l1 y1 p1 p2 p3 p4 p5 x2 s2 l2 y2 r1 r2 r3 r4 r5
    | [],_,_,w3=>simp at w3
    | [_],_,_,w3=>simp at w3
    |_::_::_::_,_,_,w3=>simp at w3;omega
  rcases hk with h|h
  ·rw[f6 h,f9];exact key
  ·rw[d9 (by rw[h];decide),f8,f6 h,f9];exact key
 ·rw[d9 cb];exact⟨false,c,rfl,hI,Cx.refl _ _ _,fun h=>absurd h cb,fun _ h=>nomatch h⟩
theorem a3e(N:Nat)(ih:∀m,m<N→Sv l P m):wT l P N:=by
 intro b x q hN hx hs hbq hq h7 h13 c hI hM;have hk:x.Ks=7∨x.Ks=8∨(x.Ks=9∨x.Ks=10)∨x.Ks=11∨(x.Ks=12∨x.Ks=13):=(by omega);rcases hk with h|h|h|h|h
 ·exact a8g hC b x q hx hs hbq hq h c hI hM
 ·exact a6o hC b x q hx hs hbq hq h c hI hM
 ·exact a3z hC N ih b x q hN hx hs hbq hq h c hI hM
 ·exact b2C hC b x q hx hs hbq hq h c hI hM
 ·exact a6Q hC b x q hx hs hbq hq h c hI hM
theorem b0L:∀n,wT l P n∧Sv l P n:=by
 intro n
 induction n using Nat.strongRecOn with
 |_ n ih=>exact⟨a3e hC n (fun m hm=>(ih m hm).2),a3q hC n (fun m hm=>(ih m hm).1)⟩
end
end
end
section
theorem CI.res{l:List d7}{P:l9}{c:i9}(h:CI l P c)(r:Int):CI l P ⟨c.L,c.M,c.P,c.T,c.F,r⟩:=⟨h.nodes,h.prog,h.tys,h.len,h.ty,h.rf⟩
def FC(l:List d7)(P:l9)(M:List i8)(f:t8):Prop:=∀(k st np bp:Nat) (x:d7) (ks:List Nat),f.Gs=(k:Int)→l[k]? =some x→x.Cs=(st:Int)-(k+1)→Kc l (k+1) st ks→ks.length=np+2→ks[np+1]? =some bp→
 (∀i,bp≤i→i<st→EF l P M i∧SF l M f.By i)∧(f.By≠0→BEn l bp)
theorem b1E{l:List d7}{P:l9}{M M':List i8}{R:Int}{lo hi:Nat}(hw:WFo l lo hi)(h:∀i,lo≤i→i<hi→EF l P M i∧SF l M R i)(e:∀j,lo≤j→j<hi→M'[j]? =M[j]?):∀i,lo≤i→i<hi→EF l P M' i∧SF l M' R i:=by intro i i1 i2;obtain⟨xx,kk,v1,v2,v3,v4,v5⟩:=hw.inside i i1 i2;obtain⟨p1,p2⟩:=h i i1 i2;exact⟨p1.same v1 v2 (fun j j1 j2=>e j (by omega) (by omega)) v3,p2.same v1 v2 (fun j j1 j2=>e j (by omega) (by omega))⟩
theorem a5w{P:l9}{ts:List Nat}(hm:P.As.map t8.Gs=i7 ts)(hts:ts.Pairwise (· < ·)){i j:Nat}(hij:i<j){f g:t8}(hf:P.As[i]? =some f)(hg:P.As[j]? =some g){a b:Nat}(ha:f.Gs=(a:Int))(hb:g.Gs=(b:Int)):a<b:=by
 have at':∀(i:Nat) (f:t8) (a:Nat),P.As[i]? =some f→f.Gs=(a:Int)→∃h:i<ts.length,ts[i]=a:=by
  intro i f a hf ha;have h1:=congrArg (fun L=>L[i]?) hm;simp only[I6,hf,F4]at h1;have hil:=(l3.1 hf).1;have hlt:i<ts.length:=by have:=congrArg List.length hm;rw[E1,B0]at this;omega
  rw[D7 hlt,ha]at h1;injection h1 with h1
  exact⟨hlt,by omega⟩
 obtain⟨h1,e1⟩:=at' i f a hf ha;obtain⟨h2,e2⟩:=at' j g b hg hb;have:=List.pairwise_iff_getElem.1 hts i j h1 h2 hij;omega
section
variable{l:List d7}{s:d8}{nr:Nat}(h:Wp l s nr)(hM:J9 l)(hl:l.length≤30000)(htx:∀n∈l,n.Ds.length≤65536)
include h hM hl htx
theorem IR{i j:Nat}(hij:i<j){f g:t8}(hf:s.P.As[i]? =some f)(hg:s.P.As[j]? =some g){a b st:Nat}(ha:f.Gs=(a:Int))(hb:g.Gs=(b:Int)){x:d7}(hx:l[a]? =some x)(hs:x.Cs=(st:Int)-(a+1)):st≤b:=by obtain⟨ts,h1,h2⟩:=h.order;have hlt:=a5w h1 h2 hij hf hg ha hb;obtain⟨a',x',c1,c2,c3,_⟩:=h.ri.fn f (M7 hf);obtain⟨b',y',d1,d2,d3,_⟩:=h.ri.fn g (M7 hg);have e1:a'=a:=(by omega);have e2:b'=b:=(by omega);subst e1 e2;rw[hx]at c2;cases c2;refine Nat.le_of_not_lt fun hlt2=>?_;have:=DO hM a' x st hx hs c3 b' hlt hlt2;rw[p9 d2]at this;omega
set_option maxHeartbeats 2000000 in
theorem b0Y(ft:x8):∀(n c:Nat) (d:i9),s.P.As.length-c=n→c≤s.P.As.length→CI l s.P d→(∀(j:Nat) (f:t8),c≤j→s.P.As[j]? =some f→∀(k i:Nat),f.Gs=(k:Int)→k≤i→d.M[i]? =s.P.Ms[i]?)→(d.F.Code=0→∀(j:Nat) (f:t8),j<c→s.P.As[j]? =some f→FC l s.P d.M f)→∃d',Hl d5 l ((s.P,ft,()),()) (c:Int) d=Zc d5 ((s.P,ft,()),()) d'∧CI l s.P d'∧(d'.F.Code=0→∀f∈s.P.As,FC l s.P d'.M f):=by
 have hC:=a67 h hM hl htx;have hfn:=h.fn100;intro n
 induction n with
 |zero=>intro c d hn hc hI hU hF;rw[QZ,Sz];simp only;rw[d9 (by omega),f8];refine⟨d,rfl,hI,fun hg f hf=>?_⟩;obtain⟨j,hj,rfl⟩:=List.getElem_of_mem hf;exact hF hg j _ (by omega) (o5 hj)
 |succ n ih=>
  intro c d hn hc hI hU hF;have hcl:c<s.P.As.length:=(by omega);have hfc:s.P.As[c]? =some s.P.As[c]:=o5 hcl;have hfm:=A4 hcl;generalize hfe:s.P.As[c]=f at hfc hfm;obtain⟨k,st,np,bp,x,ks,a1,a2,a3,a4,a5,a6,a7,a8,a9,a10,a12,a11⟩:=h.fns f hfm;obtain⟨k',x',c1,c2,c3,_⟩:=h.ri.fn f hfm;have ek:k'=k:=(by omega);subst ek;rw[a2]at c2;cases c2;obtain⟨st',ks',t1,t2,t3,t4,t5,t6,t7⟩:=hM.nd k' x a2;have est:st'=st:=(by omega);subst est;have:=t5.det a4;subst this;obtain⟨np',n1,n2,n3,n4,n5⟩:=Ju t6 c3;have enp:np'=np:=(by omega);subst enp;have hkle:=t5.le;have hl1:np'+1<ks'.length:=(by omega);rw[o5 hl1]at a6;injection a6 with a6
  have hy6:=n5 hl1;rw[a6]at hy6;obtain⟨cK,hcK,hK⟩:=t5.drop (np'+1) (by omega);rw[J8 hl1,N3 (by omega),a6]at hK;obtain⟨ecK,y,q,hy,hys,hq1,hq2,hrest⟩:=hK.first
  subst ecK;have hq:q=st':=(by cases hrest;rfl);subst hq;rw[p9 hy]at hy6;have hbpk:=(t5.mem bp (by rw[←a6];exact A4 hl1)).1;have ew:w64 (((i7 ks').length:Int)-1)=((np'+1:Nat):Int):=(by rw[B0,wrap64 (by omega) (by omega)];omega);have ei:(ks'.map (fun(k:Nat)=>(k:Int)))=i7 ks':=rfl;obtain⟨e,d1,r1,r2,r3,r4,r5⟩:=(b0L hC (q-bp)).2 bp y q rfl hy hys hq1 t3 hy6 ⟨d.L,d.M,d.P,d.T,d.F,f.By⟩ (hI.res _) (fun i i1 i2=>⟨hU c f (i4 _) hfc k' i a1 (by omega),b00 (a11 i i1 i2).1 (a11 i i1 i2).2⟩);have hr3:d1.By=f.By:=r3.res;have hmk:∀i:Nat,(i<bp∨q≤i)→d1.M[i]? =d.M[i]? :=fun i hi=>r3.marks i hi;have hbad:d.F.Code≠0→d1.F.Code≠0:=r3.bad;have next:∀g:x8,(g.Code=0→d1.F.Code=0)→(g.Code=0→f.By≠0→e=true)→
    ∃d',Hl d5 l ((s.P,ft,()),()) ((c+1:Nat):Int) ⟨d1.L,d1.M,d1.P,d1.T,g,d1.By⟩=Zc d5 ((s.P,ft,()),()) d'∧CI l s.P d'∧(d'.F.Code=0→∀f∈s.P.As,FC l s.P d'.M f):=by
   intro g hg1 hg2;refine ih (c+1) _ (by omega) (by omega) (r2.fault g) (fun j fj hj hfj kj i hkj hi=>?_) (fun hg j fj hj hfj=>?_)
   ·have:=IR h hM hl htx (i:=c) (j:=j) (by omega) hfc hfj a1 hkj a2 t1;show d1.M[i]? =_;rw[hmk i (by omega)];exact hU j fj (by omega) hfj kj i hkj hi
   ·have hgd:d1.F.Code=0:=hg1 hg;show FC l s.P d1.M fj;by_cases ej:j=c
    ·subst ej;rw[hfc]at hfj;cases hfj;intro k2 st2 np2 bp2 x2 ks2 b1 b2 b3 b4 b5 b6;have e2:k2=k':=(by omega);subst e2;rw[a2]at b2;cases b2;have e3:st2=q:=(by omega);subst e3;have:=b4.det a4;subst this;have e4:np2=np':=(by omega);subst e4;rw[o5 hl1,a6]at b6;cases b6;exact⟨r4 hgd,fun hR=>r5 hgd (hg2 hg hR)⟩
    ·have hgd0:d.F.Code=0:=S9 fun hc=>hbad hc hgd;have hold:=hF hgd0 j fj (by omega) hfj;intro k2 st2 np2 bp2 x2 ks2 b1 b2 b3 b4 b5 b6;have hap:=IR h hM hl htx (i:=j) (j:=c) (by omega) hfj hfc b1 a1 b2 b3;obtain⟨o1,o2⟩:=hold k2 st2 np2 bp2 x2 ks2 b1 b2 b3 b4 b5 b6;obtain⟨cL,hcL,hL⟩:=b4.drop (np2+1) (by omega);have hl2:np2+1<ks2.length:=(by omega);rw[o5 hl2]at b6;injection b6 with b6
     rw[J8 hl2,N3 (by omega),b6]at hL;obtain⟨ecL,y2,q2,hy2,hys2,hq12,hq22,hrest2⟩:=hL.first
     subst ecL;have hq':q2=st2:=(by cases hrest2;rfl);subst hq';obtain⟨st3,_,u1,u2,u3,u4,_⟩:=hM.nd bp2 y2 hy2;have:st3=q2:=(by omega);subst this;exact⟨b1E (WFo.cons bp2 st3 st3 y2 hy2 hys2 hq12 u4 (WFo.nil st3)) o1 (fun i i1 i2=>hmk i (by omega)),o2⟩
  have same1:(⟨d1.L,d1.M,d1.P,d1.T,d1.F,d1.By⟩:i9)=d1:=rfl;have n0:=next d1.F id
  rw[same1]at n0;rw[QZ,Sz];simp only;rw[f6 (by omega),f9,l4 hcl,d6,hfe,a1,T8 (by omega) a2 t1 t3 t5,d6,ei,d6];simp only;rw[ew,C6 hl1,d6,E0,D7 hl1,d6,a6,r1];simp only[d6];rw[hr3,y9 (by omega)];by_cases cr:f.By=0
  ·rw[f6 cr,A2,f8];exact n0 (fun _ hR=>absurd cr hR)
  ·rw[d9 cr,D5,f9];cases e with
   |true=>exact n0 (fun _ _=>rfl)
   |false=>obtain⟨g,g1,g2⟩:=Im d1 12 (by decide) k' (by rw[r2.nodes];exact(l3.1 a2).1);rw[D5,f9,a1,g1];simp only[d6];exact next g (fun hg=>absurd hg g2) (fun hg=>absurd hg g2)
end
end
structure iR(n:Nat)(l:List d7)(s:d8)(nr:Nat)(M:List i8):Prop where
 res:Wp l s nr
 may:J9 l
 small:l.length≤10*n+31
 txt:D6 l≤n
 ci:∃d,CI l s.P d∧d.M=M
 fc:∀f∈s.P.As,FC l s.P M f
def prog(s:d8)(M:List i8):l9:=⟨s.P.No,M,s.P.To,s.P.Rs,s.P.Hs,s.P.As,s.P.Ss,s.P.Vars,s.P.Ps⟩
theorem a6z{l:List d7}(hl:l.length≤30000)(htx:∀n∈l,n.Ds.length≤65536):∃(P:l9) (f:x8),EK d5 l=some ((P,f,()),())∧(f.Code=0→∃s nr M,P=prog s M∧Wp l s nr∧J9 l∧(∃d,CI l s.P d∧d.M=M)∧∀f∈s.P.As,FC l s.P M f):=by
 obtain⟨P,ft,h1,h2⟩:=a7a hl htx;rw[b0u,qX,h1,d6];simp only;by_cases c:ft.Code=0
 ·obtain⟨s,nr,rfl,hR,hM⟩:=h2 c;have hI:CI l s.P ⟨l,s.P.Ms,s.P,s.P.To,⟨0,0,0⟩,0⟩:=⟨rfl,rfl,rfl,hR.ri.marks,hR.ri.mt,fun i m hi=>⟨m,hi,rfl,fun _=>rfl,fun _=>rfl⟩⟩;obtain⟨d',r1,r2,r3⟩:=b0Y hR hM hl htx ft _ 0 _ rfl (C9 _) hI (fun _ _ _ _ _ _ _ _=>rfl) (fun _ j f hj=>absurd hj (Nat.not_lt_zero _));rw[f6 c,A2,f8,show Hl d5 l ((s.P,ft,()),()) 0 (i9.mk l s.P.Ms s.P s.P.To (x8.mk 0 0 0) 0)=_ from r1,b1O,dD];by_cases cg:d'.F.Code=0
  ·rw[f6 cg];exact⟨_,_,rfl,fun _=>⟨s,nr,d'.M,rfl,hR,hM,⟨d',r2,rfl⟩,r3 cg⟩⟩
  ·rw[d9 cg];exact⟨_,_,rfl,fun h=>absurd h cg⟩
 ·rw[d9 c];exact⟨_,_,rfl,fun h=>absurd h c⟩
theorem a9D(b:b38)(hb:b.length≤2900):∃(P:l9) (f:x8),Zd d5 b=some ((P,f,()),())∧(f.Code=0→∃l s nr M,P=prog s M∧iR b.length l s nr M):=by
 obtain⟨x,f,h1,h2,h3⟩:=b3L b;rw[a1a,rY,h1,d6];simp only;by_cases c:f.Code=0
 ·obtain⟨P,g,g1,g2⟩:=a6z (l:=x) (by omega) (fun n hn=>by have:=BB hn;omega);rw[f6 c,A2,f8,g1,d6];refine⟨P,g,rfl,fun hg=>?_⟩;obtain⟨s,nr,M,e,k1,k2,k3,k4⟩:=g2 hg;exact⟨x,s,nr,M,e,k1,k2,h2,h3,k3,k4⟩
 ·rw[d9 c];exact⟨_,_,rfl,fun h=>absurd h c⟩
abbrev Bs:=b38
def Fc(S:List Bs)(t:Bs):Int × List Bs:=match S.findIdx? (fun s=>decide (t=s))with
 |some i=>(i,S)
 |none=>(S.length,S++[t])
def eU(T:List o0)(t:Int):Int × Int:=match T[t.toNat]? with
 |some y=>(if y.Ks=6 then 22 else 21,y.Of)
 |none=>(21,0)
def Aq(T:List o0)(x:d7)(m:i8)(S:List Bs):Int × Int × List Bs:=
 if x.Ks=21 then(2,x.Ns,S)else if x.Ks=22 then(4,x.Ns,S)else if x.Ks=23 then(5,(Fc S x.Ds).1,(Fc S x.Ds).2)else if x.Ks=24 then(3,x.Ns,S)else if x.Ks=26 then(7,m.Do,S)
 else if x.Ks=27 then(if m.Do<0 then(20, -m.Do,S)else(19,m.Do,S))else if x.Ks=28 then(15,0,S)else if x.Ks=29 then(17,m.Do,S)else if x.Ks=30 then(9,x.Ns,S)else if x.Ks=31 then(10,x.Ns,S)
 else if x.Ks=32 then((eU T m.Ts).1,(eU T m.Ts).2,S)else(6,0,S)
inductive GX(l:List d7)(M:List i8)(T:List o0):Nat→List Nat→List Bs→List i6→List Bs→Prop
 |nil(o:Nat)(S:List Bs):GX l M T o [] S [] S
 |log(o b st k0 k1:Nat)(ks:List Nat)(x:d7)(S S1 S2 S3:List Bs)(a c d:List i6)(hx:l[b]? =some x)(hk:x.Ks=31)(hn:14≤x.Ns)(hs:x.Cs=(st:Int)-(b+1))(hks:Kc l (b+1) st [k0,k1])
   (h0:GX l M T o [k0] S a S1) (h1:GX l M T (o+a.length+1) [k1] S1 c S2) (h2:GX l M T (o+a.length+1+c.length) ks S2 d S3):GX l M T o (b::ks) S (a++(⟨x.Ns-1,((o+a.length+1+c.length:Nat):Int),x.Ls⟩::(c++d))) S3
 |oth(o b st:Nat)(ks' es ks:List Nat)(x:d7)(m:i8)(S S1 S2 S3:List Bs)(op arg:Int)(a d:List i6)(hx:l[b]? =some x)(hk:21≤x.Ks∧x.Ks≤32)(hn:x.Ks=31→x.Ns<14)(hs:x.Cs=(st:Int)-(b+1))(hks:Kc l (b+1) st ks')(hes:es=if x.Ks=32 then ks'.tail else ks')(hm:M[b]? =some m)
   (h0:GX l M T o es S a S1) (hl:Aq T x m S1=(op,arg,S2)) (h2:GX l M T (o+a.length+1) ks S2 d S3):GX l M T o (b::ks) S (a++(⟨op,arg,x.Ls⟩::d)) S3
def Bkd(l:List d7)(k:Nat)(ks:List Nat):Prop:=∃(y:d7) (st:Nat),l[k]? =some y∧y.Cs=(st:Int)-(k+1)∧Kc l (k+1) st ks
def rA(x y:d7)(m:i8):i6:=if y.Ks=26 then⟨8,m.Do,x.Ls⟩else if y.Ks=28 then⟨16,0,y.Ls⟩else⟨18,m.Do,y.Ls⟩
inductive Af(l:List d7)(M:List i8)(b:Nat)(x:d7)(m:i8):List Nat→List i6→Prop
 |var(st k0 k1:Nat)(hk:x.Ks=7)(hs:x.Cs=(st:Int)-(b+1))(hks:Kc l (b+1) st [k0,k1]):Af l M b x m [k1] [⟨8,m.Do,x.Ls⟩]
 |set(st k0 k1:Nat)(y:d7)(m0:i8)(is:List Nat)(hk:x.Ks=8)(hs:x.Cs=(st:Int)-(b+1))(hks:Kc l (b+1) st [k0,k1])(hy:l[k0]? =some y)(hyk:y.Ks=26∨y.Ks=28∨y.Ks=29)(hm0:M[k0]? =some m0)(hi:Kc l (k0+1) k1 is):Af l M b x m (is++[k1]) [rA x y m0]
 |ret0(hk:x.Ks=11)(hs:x.Cs=((b+1:Nat):Int)-(b+1)):Af l M b x m [] [⟨26,0,x.Ls⟩]
 |ret1(st:Nat)(hk:x.Ks=11)(hs:x.Cs=(st:Int)-(b+1))(hks:Kc l (b+1) st [b+1]):Af l M b x m [b+1] [⟨25,0,x.Ls⟩]
 |print(st:Nat)(hk:x.Ks=12)(hs:x.Cs=(st:Int)-(b+1))(hks:Kc l (b+1) st [b+1]):Af l M b x m [b+1] [⟨23,0,x.Ls⟩]
 |pop(st:Nat)(m0:i8)(hk:x.Ks=13)(hs:x.Cs=(st:Int)-(b+1))(hks:Kc l (b+1) st [b+1])(hm0:M[b+1]? =some m0)(ht:m0.Ts≠0):Af l M b x m [b+1] [⟨24,0,x.Ls⟩]
 |run(st:Nat)(m0:i8)(hk:x.Ks=13)(hs:x.Cs=(st:Int)-(b+1))(hks:Kc l (b+1) st [b+1])(hm0:M[b+1]? =some m0)(ht:m0.Ts=0):Af l M b x m [b+1] []
inductive GS(l:List d7)(M:List i8)(T:List o0):Nat→List Nat→List Bs→List i6→List Bs→Prop
 |nil(o:Nat)(S:List Bs):GS l M T o [] S [] S
 |smp(o b:Nat)(ks es:List Nat)(x:d7)(m:i8)(S S1 S2:List Bs)(a t d:List i6)(hx:l[b]? =some x)(hm:M[b]? =some m)(hT:Af l M b x m es t)(h0:GX l M T (o+1) es S a S1)(h2:GS l M T (o+1+a.length+t.length) ks S1 d S2):GS l M T o (b::ks) S (⟨1,m.Qs,x.Ls⟩::(a++(t++d))) S2
 |if2(o b st k1:Nat)(ks ks1:List Nat)(x:d7)(m:i8)(S S1 S2 S3:List Bs)(a c d:List i6)(hx:l[b]? =some x)(hm:M[b]? =some m)(hk:x.Ks=9)(hs:x.Cs=(st:Int)-(b+1))(hks:Kc l (b+1) st [b+1,k1])(hb:Bkd l k1 ks1)
   (h0:GX l M T (o+1) [b+1] S a S1) (h1:GS l M T (o+a.length+2) ks1 S1 c S2) (h2:GS l M T (o+a.length+2+c.length) ks S2 d S3):GS l M T o (b::ks) S (⟨1,m.Qs,x.Ls⟩::(a++(⟨12,((o+a.length+2+c.length:Nat):Int),x.Ls⟩::(c++d)))) S3
 |if3(o b st k1 k2:Nat)(ks ks1 ks2:List Nat)(x:d7)(m:i8)(S S1 S2 S3 S4:List Bs)(a c e d:List i6)(hx:l[b]? =some x)(hm:M[b]? =some m)(hk:x.Ks=9)(hs:x.Cs=(st:Int)-(b+1))(hks:Kc l (b+1) st [b+1,k1,k2])(hb1:Bkd l k1 ks1)(hb2:Bkd l k2 ks2)
   (h0:GX l M T (o+1) [b+1] S a S1) (h1:GS l M T (o+a.length+2) ks1 S1 c S2) (h3:GS l M T (o+a.length+c.length+3) ks2 S2 e S3) (h2:GS l M T (o+a.length+c.length+3+e.length) ks S3 d S4):
   GS l M T o (b::ks) S (⟨1,m.Qs,x.Ls⟩::(a++(⟨12,((o+a.length+c.length+3:Nat):Int),x.Ls⟩::(c++(⟨11,((o+a.length+c.length+3+e.length:Nat):Int),x.Ls⟩::(e++d)))))) S4
 |whl(o b st k1:Nat)(ks ks1:List Nat)(x:d7)(m:i8)(S S1 S2 S3:List Bs)(a c d:List i6)(hx:l[b]? =some x)(hm:M[b]? =some m)(hk:x.Ks=10)(hs:x.Cs=(st:Int)-(b+1))(hks:Kc l (b+1) st [b+1,k1])(hb:Bkd l k1 ks1)
   (h0:GX l M T (o+1) [b+1] S a S1) (h1:GS l M T (o+a.length+2) ks1 S1 c S2) (h2:GS l M T (o+a.length+c.length+3) ks S2 d S3):
   GS l M T o (b::ks) S (⟨1,m.Qs,x.Ls⟩::(a++(⟨12,((o+a.length+c.length+3:Nat):Int),x.Ls⟩::(c++(⟨11,(o:Int),x.Ls⟩::d))))) S3
inductive GC(l:List d7)(M:List i8)(T:List o0):Nat→List t8→List Bs→List i6→List y7→List Bs→Prop
 |nil(A:Nat)(S:List Bs):GC l M T A [] S [] [] S
 |cons(A k st bp:Nat)(f:t8)(fs:List t8)(S S1 S2:List Bs)(x:d7)(ks ks2:List Nat)(a I:List i6)(E:List y7)(hn:f.Gs=(k:Int))(hx:l[k]? =some x)(hs:x.Cs=(st:Int)-(k+1))(hks:Kc l (k+1) st ks)(hb:ks.getLast? =some bp)(hbd:Bkd l bp ks2)
   (h0:GS l M T 0 ks2 S a S1) (h2:GC l M T (A+a.length+1) fs S1 I E S2):GC l M T A (f::fs) S (a++(⟨26,0,x.Ls⟩::I)) (⟨A,(a.length:Int)+1,f.Es,f.Ss,if f.By=0 then 0 else 1⟩::E) S2
theorem GX.cat{l:List d7}{M:List i8}{T:List o0}{o k:Nat}{ks:List Nat}{S S1 S2:List Bs}{a c:List i6}(h:GX l M T o [k] S a S1)(h':GX l M T (o+a.length) ks S1 c S2):GX l M T o (k::ks) S (a++c) S2:=by
 cases h with
 |log _ _ st k0 k1 _ x _ T1 T2 _ a c' d hx hk hn hs hks h0 h1 h2=>cases h2;have e:o+(a++((⟨x.Ns-1,((o+a.length+1+c'.length:Nat):Int),x.Ls⟩:i6)::(c'++[]))).length=o+a.length+1+c'.length:=(by simp;omega);rw[e]at h';have:=GX.log o k st k0 k1 ks x S T1 S1 S2 a c' c hx hk hn hs hks h0 h1 h';simpa using this
 |oth _ _ st ks' es _ x m _ T1 T2 _ op arg a d hx hk hn hs hks hes hm h0 hl h2=>cases h2;have e:o+(a++[(⟨op,arg,x.Ls⟩:i6)]).length=o+a.length+1:=(by simp;omega);rw[e]at h';have:=GX.oth o k st ks' es ks x m S T1 S1 S2 op arg a c hx hk hn hs hks hes hm h0 hl h';simpa using this
theorem GX.app{l:List d7}{M:List i8}{T:List o0}{o:Nat}{js ks:List Nat}{S S1 S2:List Bs}{a c:List i6}(h:GX l M T o js S a S1):GX l M T (o+a.length) ks S1 c S2→GX l M T o (js++ks) S (a++c) S2:=by
 induction h with
 |nil o S=>intro h';exact h'
 |log o b st k0 k1 js x S T1 T2 S1 a c' d hx hk hn hs hks h0 h1 h2 _ _ ih=>intro h';have e:o+(a++((⟨x.Ns-1,((o+a.length+1+c'.length:Nat):Int),x.Ls⟩:i6)::(c'++d))).length=o+a.length+1+c'.length+d.length:=(by simp;omega);rw[e]at h';have:=GX.log o b st k0 k1 (js++ks) x S T1 T2 _ a c' _ hx hk hn hs hks h0 h1 (ih h');simpa using this
 |oth o b st ks' es js x m S T1 T2 S1 op arg a d hx hk hn hs hks hes hm h0 hl h2 _ ih=>intro h';have e:o+(a++((⟨op,arg,x.Ls⟩:i6)::d)).length=o+a.length+1+d.length:=(by simp;omega);rw[e]at h';have:=GX.oth o b st ks' es (js++ks) x m S T1 T2 _ op arg a _ hx hk hn hs hks hes hm h0 hl (ih h');simpa using this
def ps(l:List d7)(i:Nat):Nat:=((l.take i).map fun n=>n.Ds.length).sum
def Ef(S:List Bs):Nat:=(S.map List.length).sum
theorem b2l{l:List d7}{i:Nat}{x:d7}(h:l[i]? =some x):ps l (i+1)=ps l i+x.Ds.length:=by unfold ps;rw[List.take_add_one,h,D9,Ya];simp
theorem Y3(l:List d7){i j:Nat}(h:i≤j):ps l i≤ps l j:=by obtain⟨d,rfl⟩:=Nat.exists_eq_add_of_le h;unfold ps;rw[List.take_add,D9,Ya];omega
theorem a0S(S:List Bs)(t:Bs):(Fc S t).2.length≤S.length+1∧Ef (Fc S t).2≤Ef S+t.length:=by
 unfold Fc;split
 ·exact⟨Nat.le_add_right _ _,Nat.le_add_right _ _⟩
 ·simp[Ef]
theorem a2C{T:List o0}{x:d7}{m:i8}{S S2:List Bs}{op arg:Int}(h:Aq T x m S=(op,arg,S2)):S2.length≤S.length+1∧Ef S2≤Ef S+x.Ds.length:=by
 have t:=a0S S x.Ds;have e:S2=(Aq T x m S).2.2:=(by rw[h]);have hs:S2=S∨S2=(Fc S x.Ds).2:=by
  rw[e];unfold Aq
  repeat' split
  all_goals first|exact .inl rfl|exact .inr rfl
 rcases hs with rfl|rfl
 ·omega
 ·exact t
theorem Kc.app{l:List d7}{i j k:Nat}{a b:List Nat}(h:Kc l i j a):Kc l j k b→Kc l i k (a++b):=by
 induction h with
 |nil i=>exact fun h=>h
 |cons i q j x ks hx hs hk kids rest ih=>exact fun h=>.cons i q k x _ hx hs hk kids (ih h)
theorem Kc.hd{l:List d7}{i j k:Nat}{ks:List Nat}(h:Kc l i j (k::ks)):∃q,k=i∧i+1≤q∧Kc l i q [k]∧Kc l q j ks:=by
 cases h with
 |cons _ q _ x _ hx hs hk kids rest=>exact⟨q,rfl,hk,.cons _ q q x [] hx hs hk kids (.nil q),rest⟩
theorem GX.len{l:List d7}{M:List i8}{T:List o0}{o:Nat}{ks:List Nat}{S S':List Bs}{c:List i6}(h:GX l M T o ks S c S'):∀lo hi,Kc l lo hi ks→c.length+lo≤hi∧S'.length+lo≤S.length+hi∧Ef S'+ps l lo≤Ef S+ps l hi:=by
 induction h with
 |nil o S=>intro lo hi hK;have:=hK.le;have:=Y3 l (i:=lo) (j:=hi) (by omega);simp only[L6];omega
 |log o b st k0 k1 ks x S S1 S2 S3 a c d hx hk hn hs hks h0 h1 h2 i0 i1 i2=>
  intro lo hi hK;obtain⟨rfl,y,q,hy,hys,hq1,hq2,hrest⟩:=hK.first
  rw[hx]at hy;cases hy;have:q=st:=(by omega);subst this;obtain⟨q0,rfl,hq01,K0,hr0⟩:=hks.hd;obtain⟨q1,rfl,hq11,K1,hr1⟩:=hr0.hd;have e1:q1=q:=(by cases hr1;rfl);subst e1;obtain⟨p1,p2,p3⟩:=i0 _ _ K0;obtain⟨r1,r2,r3⟩:=i1 _ _ K1;obtain⟨w1,w2,w3⟩:=i2 _ _ hrest;have:=Y3 l (i:=b) (j:=b+1) (by omega);simp only[o9,I5];omega
 |oth o b st ks' es ks x m S S1 S2 S3 op arg a d hx hk hn hs hks hes hm h0 hl h2 i0 i2=>
  intro lo hi hK;obtain⟨rfl,y,q,hy,hys,hq1,hq2,hrest⟩:=hK.first
  rw[hx]at hy;cases hy;have:q=st:=(by omega);subst this;have hE:∃lo',b+1≤lo'∧Kc l lo' q es:=by
   by_cases c:x.Ks=32
   ·rw[if_pos c]at hes;cases ks' with
    |nil=>exact⟨b+1,i4 _,by rw[hes];exact hks⟩
    |cons k0 kr=>
     obtain⟨rfl,y0,q0,hy0,hys0,hq01,hq02,hr0⟩:=hks.first
     exact⟨q0,by omega,by rw[hes];exact hr0⟩
   ·rw[if_neg c]at hes;exact⟨b+1,i4 _,by rw[hes];exact hks⟩
  obtain⟨lo',hlo,hE⟩:=hE;obtain⟨p1,p2,p3⟩:=i0 _ _ hE;obtain⟨w1,w2,w3⟩:=i2 _ _ hrest;obtain⟨z1,z2⟩:=a2C hl;have:=Y3 l hlo;have:=b2l hx;simp only[o9,I5];omega
section
def txs:List Bs→Nat→List (Bs × Int)
 | [],_=>[]
 |s::S,n=>(s,(n:Int))::txs S (n+1)
theorem a5o(S:List Bs)(t:Bs):∀n,txs (S++[t]) n=txs S n++[(t,((n+S.length:Nat):Int))]:=by
 induction S with
 |nil=>intro n;simp[txs]
 |cons s S ih=>intro n;have:=ih (n+1);have e:n+1+S.length=n+(S.length+1):=(by omega);simp only[List.cons_append,txs,this,I5,e]
theorem QJ(t:Bs):∀(S:List Bs) (n:Nat),Dg eqS (txs S n) t=S.findIdx? (fun s=>decide (t=s)):=by
 intro S
 induction S with
 |nil=>intro n;rfl
 |cons s S ih=>intro n;have:=ih (n+1);unfold Dg at this⊢;rw[txs,List.findIdx?_cons,List.findIdx?_cons,this]
theorem ZE:∀(S:List Bs) (n i:Nat),(txs S n)[i]? =(S[i]?).map fun s=>(s,((n+i:Nat):Int)):=by
 intro S
 induction S with
 |nil=>intro n i;simp[txs]
 |cons s S ih=>
  intro n i;cases i with
  |zero=>simp[txs]
  |succ i=>rw[txs,List.getElem?_cons_succ,List.getElem?_cons_succ,ih];have e:n+1+i=n+(i+1):=(by omega);rw[e]
def mkr(P:l9)(F:Nat)(Fs:List y7)(I:List i6)(S:List Bs):u9:=⟨P,⟨I,Fs,S⟩,F,txs S 0⟩
section
variable{P:l9}{F:Nat}{Fs:List y7}
theorem a6h{l:List d7}(hl:l.length≤100000000)(m:u9)(hm:m.p_.No=l){b:Nat}{x:d7}{st:Nat}(hx:l[b]? =some x)(hs:x.Cs=(st:Int)-(b+1))(hst:st≤l.length){c:Nat}{ks:List Nat}(h:Kc l c st ks):∀d:List Int,d.length+ks.length≤l.length→jS d5 (b:Int) m (c:Int) d=some ((d++i7 ks,()),(m,())):=by
 have hbl:b<l.length:=(l3.1 hx).1;have hxe:l[b]=x:=(l3.1 hx).2;have w1:w64 ((b:Int)+x.Cs)=(st:Int)-1:=by rw[hs,wrap64 (by omega) (by omega)];omega
 induction h with
 |nil c=>intro d hd;rw[SC,Xr,hm,l4 hbl,d6,hxe,w1,d9 (by omega),f8,b05,nP];unfold i7;rw[List.map_nil,O1]
 |cons c k j y ks hy hys hk kids rest ih=>intro d hd;have hkj:=rest.le;have hcl:c<l.length:=(by omega);have hye:l[c]=y:=(l3.1 hy).2;have e1:w64 ((c:Int)+w64 (1+y.Cs))=(k:Int):=(by rw[hys,wrap64 (n:=1+((k:Int)-(c+1))) (by omega) (by omega),wrap64 (by omega) (by omega)];omega);rw[I5]at hd;have hz:d.length+ [(c:Int)].length≤100000000:=(by rw[A3];omega);have:=ih hs hst w1 (d++[(c:Int)]) (by rw[o9,A3];omega);rw[SC,Xr,hm,l4 hbl,d6,hxe,w1,f6 (by omega),f9,H8 (by decide) hz,d6,l4 hcl,d6,hye,e1,this,G5];rfl
theorem Wd{l:List d7}(hl:l.length≤100000000)(m:u9)(hm:m.p_.No=l){b:Nat}{x:d7}{st:Nat}(hx:l[b]? =some x)(hs:x.Cs=(st:Int)-(b+1))(hst:st≤l.length){ks:List Nat}(h:Kc l (b+1) st ks):Jm d5 m (b:Int)=some ((i7 ks,()),(m,())):=by have:=h.le;rw[a7j,aG,y9 (by omega),a6h hl m hm hx hs hst h [] (by rw[L6];omega),J4]
theorem Ob{l:List d7}(hP:P.No=l)(I:List i6)(S:List Bs)(o:Nat)(ho:I.length=F+o)(hI:I.length≤90000000)(op arg:Int){b:Nat}{x:d7}(hx:l[b]? =some x):Q2 d5 (mkr P F Fs I S) op arg (b:Int)=some (((o:Int),()),(mkr P F Fs (I++[⟨op,arg,x.Ls⟩]) S,())):=by
 have hbl:=(l3.1 hx).1;have hxe:=(l3.1 hx).2;have hz:I.length+ [(i6.mk op arg x.Ls)].length≤100000000:=(by rw[A3];omega);rw[a6r,pO];unfold mkr;simp only;rw[hP,l4 hbl,d6,hxe,H8 (by decide) hz,d6];have e:w64 (w64 (((I++[(i6.mk op arg x.Ls)]).length:Int)-1)-(F:Int))=(o:Int):=by rw[o9,A3,wrap64 (n:=((I.length+1:Nat):Int)-1) (by omega) (by omega),wrap64 (by omega) (by omega)];omega
 rw[e]
theorem ZJ{α:Type}(X Y:List α)(i j:α):(X++(i::Y)).set X.length j=X++(j::Y):=by
 induction X with
 |nil=>rfl
 |cons a X ih=>simp[ih]
theorem Qc(X Y:List i6)(S:List Bs)(i:i6)(o:Nat)(ho:X.length=F+o)(hI:X.length+Y.length≤90000000):Ma d5 (mkr P F Fs (X++(i::Y)) S) (o:Int)=some ((),(mkr P F Fs (X++(⟨i.Op,((o+1+Y.length:Nat):Int),i.Ls⟩::Y)) S,())):=by
 have e1:w64 ((F:Int)+(o:Int))=((X.length:Nat):Int):=(by rw[wrap64 (by omega) (by omega)];omega);have hl:X.length<(X++(i::Y)).length:=(by simp);have hg:(X++(i::Y))[X.length]? =some i:=(by simp);have e2:w64 (((X++(i::Y)).length:Int)-(F:Int))=((o+1+Y.length:Nat):Int):=by rw[o9,I5,wrap64 (by omega) (by omega)];omega
 rw[ZN,cR,UQ,Qa];unfold mkr;simp only[d6];rw[e1,e2,l4 hl,d6,E0,hg,d6,d6];simp only[Q5,d6,ZJ]
theorem a3A(I:List i6)(S:List Bs)(hS:S.length≤90000000)(t:Bs):AA d5 (mkr P F Fs I S) t=some (((Fc S t).1,()),(mkr P F Fs I (Fc S t).2,())):=by
 rw[b0l,rP];unfold mkr Fc;simp only;unfold Wn Dz;rw[QJ];cases hf:S.findIdx? (fun s=>decide (t=s))with
 |some i=>
  have hi:i<S.length:=by have:=List.findIdx?_eq_some_iff_getElem.1 hf;exact this.1
  simp only[Option.isSome_some,f9,d6,ZE,o5 hi,F4];rw[XQ,Sj];simp
 |none=>have hz:S.length+ [t].length≤100000000:=(by rw[A3];omega);simp only[Option.isSome_none,f8];rw[XQ,Sj];simp only;rw[D5,f9,H8 (by decide) hz,d6];unfold Mi;rw[QJ,hf];simp only;rw[a5o];simp
theorem a2U(I:List i6)(S:List Bs)(hS:S.length≤90000000)(x:d7)(hk:21≤x.Ks∧x.Ks≤32)(m:i8)(hr:x.Ks=27→ -1000000≤m.Do)(hT:x.Ks=32→0≤m.Ts∧m.Ts<P.To.length):uE d5 (mkr P F Fs I S) x m=some (((Aq P.To x m S).1,(Aq P.To x m S).2.1,()),(mkr P F Fs I (Aq P.To x m S).2.2,())):=by
 rw[a3U,Yf];unfold Aq;by_cases c:x.Ks=21
 ·rw[f6 c,if_pos c];rfl
 rw[d9 c,if_neg c,f8];by_cases c:x.Ks=22
 ·rw[f6 c,if_pos c];rfl
 rw[d9 c,if_neg c,f8];by_cases c:x.Ks=23
 ·rw[f6 c,if_pos c,f9,a3A I S hS];rfl
 rw[d9 c,if_neg c,f8];by_cases c:x.Ks=24
 ·rw[f6 c,if_pos c];rfl
 rw[d9 c,if_neg c,f8];by_cases c:x.Ks=26
 ·rw[f6 c,if_pos c];rfl
 rw[d9 c,if_neg c,f8];by_cases c:x.Ks=27
 ·rw[f6 c,if_pos c,f9];by_cases c0:m.Do<0
  ·have hr:=hr c;have e:w64 (0-m.Do)= -m.Do:=(by rw[Int.zero_sub];exact wrap64 (by omega) (by omega));rw[f6 c0,if_pos c0,e];rfl
  ·rw[d9 c0,if_neg c0];rfl
 rw[d9 c,if_neg c,f8];by_cases c:x.Ks=28
 ·rw[f6 c,if_pos c];rfl
 rw[d9 c,if_neg c,f8];by_cases c:x.Ks=29
 ·rw[f6 c,if_pos c];rfl
 rw[d9 c,if_neg c,f8];by_cases c:x.Ks=30
 ·rw[f6 c,if_pos c];rfl
 rw[d9 c,if_neg c,f8];by_cases c:x.Ks=31
 ·rw[f6 c,if_pos c];rfl
 rw[d9 c,if_neg c,f8];by_cases c:x.Ks=32
 ·obtain⟨h0,h1⟩:=hT c;have hl:m.Ts.toNat<P.To.length:=(by omega);have g:f5 P.To m.Ts=some P.To[m.Ts.toNat]:=Jz h0 h1;rw[f6 c,if_pos c,f9];show(f5 P.To m.Ts).bind _=_;rw[g,d6];unfold eU;rw[o5 hl];simp only;by_cases c6:P.To[m.Ts.toNat].Ks=6
  ·rw[f6 c6,if_pos c6];rfl
  ·rw[d9 c6,if_neg c6];rfl
 rw[d9 c,if_neg c];rfl
end
end
section
structure GEn(l:List d7)(P:l9):Prop where
 nodes:P.No=l
 may:J9 l
 small:l.length≤30000
 tx:∀n∈l,n.Ds.length≤65536
 len:P.Ms.length=l.length
 ty:∀m∈P.Ms,0≤m.Ts∧m.Ts<P.To.length
def Ax(l:List d7)(M:List i8)(lo hi:Nat):Prop:=∀i,lo≤i→i<hi→kd l i=27→∃m,M[i]? =some m∧ -1000000≤m.Do
theorem Ax.sub{l:List d7}{M:List i8}{lo hi lo' hi':Nat}(h:Ax l M lo hi)(a:lo≤lo')(b:hi'≤hi):Ax l M lo' hi':=fun i i1 i2=>h i (by omega) (by omega)
theorem HC{l:List d7}{x:d7}{b q:Nat}{ks:List Nat}(hK:Kc l (b+1) q ks)(h:Fam x.Ks x.Ns b (E5 l ks) (fkd l ks))(hk:21≤x.Ks∧x.Ks≤32):∃lo',b+1≤lo'∧Kc l lo' q (if x.Ks=32 then ks.tail else ks)∧∀p∈(if x.Ks=32 then ks.tail else ks),21≤kd l p∧kd l p≤32:=by
 by_cases c:x.Ks=32
 ·rw[if_pos c];have hl:∃k0 kr,ks=k0::kr∧∀p∈kr,E2 (kd l p)=101:=by
   rcases h.k32 c with h|h
   ·obtain⟨e1,e2⟩:=H2 h.1;cases ks with
    |nil=>simp at e1
    |cons k0 kr=>have:kr=[]:=(by simpa using e1);exact⟨k0,kr,rfl,fun p hp=>by rw[this]at hp;exact nomatch hp⟩
   ·obtain⟨e1,e2⟩:=H2 h.1;cases ks with
    |nil=>simp at e1
    |cons k0 kr=>refine⟨k0,kr,rfl,fun p hp=>?_⟩;obtain⟨j,hj,rfl⟩:=List.getElem_of_mem hp;have hj0:j=0:=(by simp at e1;omega);subst hj0;exact e2 1 (by simp;omega) (by simp)
  obtain⟨k0,kr,rfl,hkr⟩:=hl;obtain⟨q0,_,h1,_,h2⟩:=hK.hd;exact⟨q0,by omega,h2,fun p hp=>I0 (hkr p hp)⟩
 ·rw[if_neg c];refine⟨b+1,i4 _,hK,fun p hp=>?_⟩;have hall:∀s∈E5 l ks,s=101:=by
   by_cases c1:x.Ks≤26
   ·rw[(h.kr (by omega)).1];intro s hs;exact nomatch hs
   by_cases c2:x.Ks=27
   ·exact h.k27 c2
   by_cases c3:x.Ks=28∨x.Ks=31
   ·rw[h.k28 c3];simp
   ·rw[h.k12 (by omega)];simp
  exact I0 (Nb hall p hp)
theorem a0W(ks:List Nat):x6 (i7 ks) 1 ((i7 ks).length:Int)=i7 ks.tail:=by
 unfold x6 i7;cases ks with
 |nil=>rfl
 |cons k ks=>simp only[List.map_cons,I5,E1,List.tail_cons];have e:((((ks.length+1:Nat):Int)-1).toNat)=ks.length:=(by omega);rw[e,show Int.toNat 1=1 from rfl,List.drop_succ_cons,T4,List.take_of_length_le (by simp)]
def dF(l:List d7)(P:l9)(n:Nat):Prop:=∀(b:Nat) (x:d7) (q:Nat),q-b=n→l[b]? =some x→x.Cs=(q:Int)-(b+1)→b+1≤q→q≤l.length→21≤x.Ks→x.Ks≤32→Ax l P.Ms b q→
 ∀(F:Nat) (Fs:List y7) (I:List i6) (S:List Bs) (o:Nat),I.length=F+o→I.length+(q-b)≤80000000→S.length+(q-b)≤80000000→
 ∃c S',X1 d5 (mkr P F Fs I S) (b:Int)=some ((),(mkr P F Fs (I++c) S',()))∧GX l P.Ms P.To o [b] S c S'
section
variable{l:List d7}{P:l9}(hG:GEn l P)
include hG
theorem b1e(N:Nat)(ih:∀m,m<N→dF l P m)(a:Int)(x:d7)(mk:i8)(ks:List Nat)(st:Nat)(hst:st≤l.length)(hkl:ks.length≤l.length)(hks:∀p∈ks,21≤kd l p∧kd l p≤32)(F:Nat)(Fs:List y7):∀(n e c0 o:Nat) (I:List i6) (S:List Bs),ks.length-e=n→e≤ks.length→Kc l c0 st (ks.drop e)→st-c0<N→Ax l P.Ms c0 st→I.length=F+o→I.length+(st-c0)≤80000000→S.length+(st-c0)≤80000000→∃c S',Tp d5 a (i7 ks) ((i7 ks).length:Int) (e:Int) x mk (mkr P F Fs I S)=EA d5 a x mk (mkr P F Fs (I++c) S')∧GX l P.Ms P.To o (ks.drop e) S c S':=by
 have hsm:=hG.small;intro n
 induction n with
 |zero=>intro e c0 o I S hn he hK hN hR ho hI hS;rw[VV,Xk,B0,d9 (by omega),f8,N3 (by omega)];exact⟨[],S,by rw[O1],.nil _ _⟩
 |succ n ihn=>
  intro e c0 o I S hn he hK hN hR ho hI hS;have hel:e<ks.length:=(by omega);have g:=C6 hel;rw[J8 hel]at hK⊢;obtain⟨ek,y,q,hy,hys,hq1,hq2,hrest⟩:=hK.first
  have hky:=hks _ (A4 hel);rw[ek,p9 hy]at hky;obtain⟨c,S1,r1,r2⟩:=ih (q-c0) (by omega) c0 y q rfl hy hys hq1 (by omega) hky.1 hky.2 (hR.sub (i4 _) hq2) F Fs I S o ho (by omega) (by omega);obtain⟨q',_,_,hK1,_⟩:=hK.hd;have hq':q'=q:=by
   have hq2':=hK1.first
   obtain⟨_,y',q2,hy',hys',_,_,hr'⟩:=hq2';have:q2=q':=(by cases hr';rfl);rw[hy]at hy';cases hy';omega
  subst hq';rw[ek]at hK1;obtain⟨z1,z2,_⟩:=r2.len _ _ hK1;obtain⟨c',S',k1,k2⟩:=ihn (e+1) q' (o+c.length) (I++c) S1 (by omega) (by omega) hrest (by omega) (hR.sub (by omega) (i4 _)) (by rw[o9];omega) (by rw[o9];omega) (by omega);refine⟨c++c',S',?_,?_⟩
  ·rw[VV,Xk,B0,f6 (by omega),f9,g,d6,ek,r1];simp only[d6];rw[y9 (by omega),←B0,k1,G5]
  ·rw[ek];exact r2.cat k2
set_option maxHeartbeats 2000000 in
theorem a8o(N:Nat)(ih:∀m,m<N→dF l P m):dF l P N:=by
 intro b x q hN hx hs hbq hq hk1 hk2 hR F Fs I S o ho hI hS;have hsm:=hG.small;obtain⟨st,ks,t1,t2,t3,t4,t5,t6,t7⟩:=hG.may.nd b x hx;have est:st=q:=(by omega);subst est;have hkle:=t5.le;have hbl:=(l3.1 hx).1;have hxe:=(l3.1 hx).2;have hbM:b<P.Ms.length:=(by rw[hG.len];omega);have hmb:P.Ms[b]? =some P.Ms[b]:=o5 hbM;have hmt:=hG.ty _ (A4 hbM);have hp:∀(I:List i6) (S:List Bs),(mkr P F Fs I S).p_=P:=fun _ _=>rfl;have hnd:=hG.nodes;obtain⟨lo',hlo,hKe,hke⟩:=HC t5 t6 ⟨hk1,hk2⟩;have hgk:=Wd (by omega) (mkr P F Fs I S) hG.nodes hx t1 t3 t5;rw[a9N,sN,hp,hnd,l4 hbl,d6,hxe,l4 hbM,d6,hgk,d6];simp only;have j3:(x.Ks=31→x.Ns<14)→∃c S',Qm d5 (b:Int) (i7 (if x.Ks=32 then ks.tail else ks)) x P.Ms[b] ((i7 ks,()),(mkr P F Fs I S,()))=some ((),(mkr P F Fs (I++c) S',()))∧GX l P.Ms P.To o [b] S c S':=by
  intro hn;rw[b1i,rD];simp only;generalize hes:(if x.Ks=32 then ks.tail else ks)=es at hKe hke;have hle:=hKe.le;obtain⟨c,S1,r1,r2⟩:=b1e hG N ih (b:Int) x P.Ms[b] es st t3 (by omega) hke F Fs _ 0 lo' o I S rfl (C9 _) (by rw[T4];exact hKe) (by omega) (hR.sub (by omega) (i4 _)) ho (by omega) (by omega);rw[T4]at r2;obtain⟨z1,z2,_⟩:=r2.len _ _ hKe;have hlast:=a2U (P:=P) (F:=F) (Fs:=Fs) (I++c) S1 (by omega) x ⟨hk1,hk2⟩ P.Ms[b] (fun c27=>by
   obtain⟨m,m1,m2⟩:=hR b (i4 _) hbq (by rw[p9 hx];exact c27);rw[hmb]at m1;cases m1;exact m2) (fun _=>hmt)
  generalize hli:Aq P.To x P.Ms[b] S1=li at hlast;obtain⟨op,arg,S2⟩:=li;have hput:=Ob (P:=P) (F:=F) (Fs:=Fs) hnd (I++c) S2 (o+c.length) (by rw[o9];omega) (by rw[o9];omega) op arg hx;rw[show Tp d5 (b:Int) (i7 es) ((i7 es).length:Int) 0 x P.Ms[b] (mkr P F Fs I S)=_ from r1,a8f,oY,hlast];simp only[d6];rw[hput];simp only[d6];refine⟨c++[⟨op,arg,x.Ls⟩],S2,by rw[G5],?_⟩;exact .oth o b st ks es [] x P.Ms[b] S S1 S2 S2 op arg c [] hx ⟨hk1,hk2⟩ hn t1 t5 hes.symm hmb r2 hli (.nil _ _)
 by_cases c32:x.Ks=32
 ·have hkn:1≤ks.length:=by
   rcases t6.k32 c32 with h|h
   ·have:=(H2 h.1).1;simp at this;omega
   ·have:=(H2 h.1).1;simp at this;omega
  have:=j3 (fun h=>by omega);rw[if_pos c32]at this;rw[f6 c32,f9,T7 (show C8 (1:Int) ((i7 ks).length:Int) ((i7 ks).length:Int)from⟨by omega,by rw[B0];omega,P4 _⟩),d6,a0W];exact this
 rw[if_neg c32]at j3;rw[d9 c32,f8];by_cases c31:x.Ks=31
 ·rw[f6 c31,f9];have j2:14≤x.Ns→x.Ns≤15→∃c S',bU d5 (b:Int) x ((i7 ks,()),(mkr P F Fs I S,()))=some ((),(mkr P F Fs (I++c) S',()))∧GX l P.Ms P.To o [b] S c S':=by
   intro h14 h15;obtain⟨e1,e2⟩:=H2 (t6.k28 (.inr c31));have t5':=t5;obtain⟨k0,k1,y,z,rfl,hk0,hy,hys,hy1,hz,hzs,hz1⟩:=Gy t5 e1;have s0:=I0 (e2 0 (by simp) (by simp));have s1:=I0 (e2 1 (by simp) (by simp));simp only[H7,Z6]at s0 s1;rw[p9 hy]at s0;rw[p9 hz]at s1;obtain⟨q0,e0,_,K0,K1⟩:=t5'.hd;obtain⟨q1,e1',_,K1',K2⟩:=K1.hd;have eq1:q1=st:=(by cases K2;rfl);subst eq1 e1';have g0:f5 (i7 [k0,k1]) (0:Int)=some ((k0:Nat):Int):=C6 (i:=0) (ks:=[k0,k1]) (by simp);have ga0:(i7 [k0,k1])[Int.toNat 0]? =some ((k0:Nat):Int):=D7 (i:=0) (ks:=[k0,k1]) (by simp);have g1:f5 (i7 [k0,k1]) (1:Int)=some ((k1:Nat):Int):=C6 (i:=1) (ks:=[k0,k1]) (by simp);have ga1:(i7 [k0,k1])[Int.toNat 1]? =some ((k1:Nat):Int):=D7 (i:=1) (ks:=[k0,k1]) (by simp);obtain⟨a,S1,a1,a2⟩:=ih (k1-k0) (by omega) k0 y k1 rfl hy hys hy1 (by omega) s0.1 s0.2 (hR.sub (by omega) (by omega)) F Fs I S o ho (by omega) (by omega);rw[←e0]at K0;obtain⟨z1,z2,_⟩:=a2.len _ _ K0;have j1:∃c S',lZ d5 (b:Int) (x.Ns-1) ((),(mkr P F Fs (I++a) S1,())) ((i7 [k0,k1],()),(mkr P F Fs I S,()))=some ((),(mkr P F Fs (I++c) S',()))∧GX l P.Ms P.To o [b] S c S':=by have hput:=Ob (P:=P) (F:=F) (Fs:=Fs) hnd (I++a) S1 (o+a.length) (by rw[o9];omega) (by rw[o9];omega) (x.Ns-1) 0 hx;obtain⟨c,S2,b1,b2⟩:=ih (q1-k1) (by omega) k1 z q1 rfl hz hzs hz1 t3 s1.1 s1.2 (hR.sub (by omega) (by omega)) F Fs (I++a++[⟨x.Ns-1,0,x.Ls⟩]) S1 (o+a.length+1) (by simp only[o9,A3];omega) (by simp only[o9,A3];omega) (by omega);obtain⟨w1,w2,_⟩:=b2.len _ _ K1';have hland:=Qc (P:=P) (F:=F) (Fs:=Fs) (I++a) c S2 ⟨x.Ns-1,0,x.Ls⟩ (o+a.length) (by rw[o9];omega) (by simp only[o9];omega);rw[a6i,dU];simp only;rw[hput];simp only[d6];rw[g1,d6,ga1,d6,b1];simp only[d6];rw[show I++a++[(⟨x.Ns-1,0,x.Ls⟩:i6)]++c=I++a++((⟨x.Ns-1,0,x.Ls⟩:i6)::c) by simp,hland];simp only[d6];have:=GX.log (T:=P.To) (M:=P.Ms) o b q1 k0 k1 [] x S S1 S2 S2 a c [] hx c31 h14 t1 t5' a2 b2 (.nil _ _);rw[O1]at this;exact⟨_,S2,by rw[G5],this⟩
   rw[a9c,lN];simp only;rw[g0,d6,ga0,d6,a1];simp only[d6];by_cases c15:x.Ns=15
   ·rw[c15]at j1;rw[f6 c15,f9];exact j1
   ·have e14:x.Ns=14:=(by omega);rw[e14]at j1;rw[d9 c15];exact j1
  have hn31:=t7.n31 c31;by_cases c14:x.Ns=14
  ·rw[f6 c14,f9];exact j2 (by omega) (by omega)
  ·by_cases c15:x.Ns=15
   ·rw[d9 c14,f8,f6 c15,f9];exact j2 (by omega) (by omega)
   ·rw[d9 c14,f8,d9 c15,f8];exact j3 (fun _=>by omega)
 ·rw[d9 c31,f8];exact j3 (fun h=>absurd h c31)
theorem tM:∀n,dF l P n:=by
 intro n
 induction n using Nat.strongRecOn with
 |_ n ih=>exact a8o hG n ih
end
end
section
variable{l:List d7}{M:List i8}{T:List o0}
theorem GS.cat{o b:Nat}{ks:List Nat}{S S1 S2:List Bs}{u v:List i6}(h:GS l M T o [b] S u S1)(h':GS l M T (o+u.length) ks S1 v S2):GS l M T o (b::ks) S (u++v) S2:=by
 cases h with
 |smp _ _ _ es x m _ T1 _ a t d hx hm hT h0 h2=>cases h2;have e:o+((⟨1,m.Qs,x.Ls⟩:i6)::(a++(t++[]))).length=o+1+a.length+t.length:=(by simp;omega);rw[e]at h';have:=GS.smp o b ks es x m S S1 S2 a t v hx hm hT h0 h';simpa using this
 |if2 _ _ st k1 _ ks1 x m _ T1 T2 _ a c d hx hm hk hs hks hb h0 h1 h2=>cases h2;have e:o+((⟨1,m.Qs,x.Ls⟩:i6)::(a++((⟨12,((o+a.length+2+c.length:Nat):Int),x.Ls⟩:i6)::(c++[])))).length=o+a.length+2+c.length:=(by simp;omega);rw[e]at h';have:=GS.if2 o b st k1 ks ks1 x m S T1 S1 S2 a c v hx hm hk hs hks hb h0 h1 h';simpa using this
 |if3 _ _ st k1 k2 _ ks1 ks2 x m _ T1 T2 T3 _ a c e d hx hm hk hs hks hb1 hb2 h0 h1 h3 h2=>cases h2;have ee:o+((⟨1,m.Qs,x.Ls⟩:i6)::(a++((⟨12,((o+a.length+c.length+3:Nat):Int),x.Ls⟩:i6)::(c++((⟨11,((o+a.length+c.length+3+e.length:Nat):Int),x.Ls⟩:i6)::(e++[])))))).length=o+a.length+c.length+3+e.length:=(by simp;omega);rw[ee]at h';have:=GS.if3 o b st k1 k2 ks ks1 ks2 x m S T1 T2 S1 S2 a c e v hx hm hk hs hks hb1 hb2 h0 h1 h3 h';simpa using this
 |whl _ _ st k1 _ ks1 x m _ T1 T2 _ a c d hx hm hk hs hks hb h0 h1 h2=>cases h2;have e:o+((⟨1,m.Qs,x.Ls⟩:i6)::(a++((⟨12,((o+a.length+c.length+3:Nat):Int),x.Ls⟩:i6)::(c++((⟨11,(o:Int),x.Ls⟩:i6)::[]))))).length=o+a.length+c.length+3:=(by simp;omega);rw[e]at h';have:=GS.whl o b st k1 ks ks1 x m S T1 S1 S2 a c v hx hm hk hs hks hb h0 h1 h';simpa using this
theorem Af.kc{b:Nat}{x:d7}{m:i8}{es:List Nat}{t:List i6}(h:Af l M b x m es t){st:Nat}(hs:x.Cs=(st:Int)-(b+1)):t.length≤1∧∃lo hi,b+1≤lo∧hi≤st∧Kc l lo hi es:=by
 cases h with
 |var st' k0 k1 hk hs' hks=>have:st'=st:=(by omega);subst this;obtain⟨q,_,h1,_,h2⟩:=hks.hd;exact⟨i4 _,q,st',by omega,i4 _,h2⟩
 |set st' k0 k1 y m0 is hk hs' hks hy hyk hm0 hi=>have:st'=st:=(by omega);subst this;obtain⟨q,rfl,h1,_,h2⟩:=hks.hd;obtain⟨q2,rfl,h3,h4,h5⟩:=h2.hd;have:q2=st':=(by cases h5;rfl);subst this;exact⟨i4 _,b+1+1,q2,by omega,i4 _,hi.app h4⟩
 |ret0 hk hs'=>exact⟨i4 _,b+1,b+1,i4 _,by omega,.nil _⟩
 |ret1 st' hk hs' hks=>have:st'=st:=(by omega);subst this;exact⟨i4 _,b+1,st',i4 _,i4 _,hks⟩
 |print st' hk hs' hks=>have:st'=st:=(by omega);subst this;exact⟨i4 _,b+1,st',i4 _,i4 _,hks⟩
 |pop st' m0 hk hs' hks hm0 ht=>have:st'=st:=(by omega);subst this;exact⟨i4 _,b+1,st',i4 _,i4 _,hks⟩
 |run st' m0 hk hs' hks hm0 ht=>have:st'=st:=(by omega);subst this;exact⟨by simp,b+1,st',i4 _,i4 _,hks⟩
theorem Kc.end{i j q:Nat}{k:Nat}{y:d7}(h:Kc l i j [k])(hy:l[k]? =some y)(hs:y.Cs=(q:Int)-(k+1)):k=i∧q=j∧i+1≤j:=by
 obtain⟨rfl,y',q',hy',hs',h1,h2,h3⟩:=h.first
 rw[hy]at hy';cases hy';have:q'=j:=(by cases h3;rfl);omega
theorem GS.len{o:Nat}{ks:List Nat}{S S':List Bs}{c:List i6}(h:GS l M T o ks S c S'):∀lo hi,Kc l lo hi ks→c.length+3*lo≤3*hi∧S'.length+lo≤S.length+hi∧Ef S'+ps l lo≤Ef S+ps l hi:=by
 induction h with
 |nil o S=>intro lo hi hK;have:=hK.le;have:=Y3 l (i:=lo) (j:=hi) (by omega);simp only[L6];omega
 |smp o b ks es x m S S1 S2 a t d hx hm hT h0 h2 i2=>
  intro lo hi hK;obtain⟨rfl,y,q,hy,hys,hq1,hq2,hrest⟩:=hK.first
  rw[hx]at hy;cases hy;obtain⟨t1,lo',hi',t2,t3,t4⟩:=hT.kc hys;obtain⟨p1,p2,p3⟩:=h0.len _ _ t4;obtain⟨w1,w2,w3⟩:=i2 _ _ hrest;have:=t4.le;have:=Y3 l (i:=b) (j:=lo') (by omega);have:=Y3 l t3;simp only[o9,I5];omega
 |if2 o b st k1 ks ks1 x m S S1 S2 S3 a c d hx hm hk hs hks hb h0 h1 h2 i1 i2=>
  intro lo hi hK;obtain⟨rfl,y,q,hy,hys,hq1,hq2,hrest⟩:=hK.first
  rw[hx]at hy;cases hy;have:q=st:=(by omega);subst this;obtain⟨q0,e0,hq0,K0,hr0⟩:=hks.hd;obtain⟨q1,rfl,hq1',K1,hr1⟩:=hr0.hd;have e1:q1=q:=(by cases hr1;rfl);subst e1;obtain⟨y1,st1,b1,b2,b3⟩:=hb;obtain⟨_,rfl,_⟩:=K1.end b1 b2;obtain⟨p1,p2,p3⟩:=h0.len _ _ K0;obtain⟨r1,r2,r3⟩:=i1 _ _ b3;obtain⟨w1,w2,w3⟩:=i2 _ _ hrest;have:=b3.le;have:=Y3 l (i:=b) (j:=b+1) (by omega);have:=Y3 l (i:=k1) (j:=k1+1) (by omega);simp only[o9,I5];omega
 |if3 o b st k1 k2 ks ks1 ks2 x m S S1 S2 S3 S4 a c e d hx hm hk hs hks hb1 hb2 h0 h1 h3 h2 i1 i3 i2=>
  intro lo hi hK;obtain⟨rfl,y,q,hy,hys,hq1,hq2,hrest⟩:=hK.first
  rw[hx]at hy;cases hy;have:q=st:=(by omega);subst this;obtain⟨q0,e0,hq0,K0,hr0⟩:=hks.hd;obtain⟨q1,rfl,hq1',K1,hr1⟩:=hr0.hd;obtain⟨q2,rfl,hq2',K2,hr2⟩:=hr1.hd;have e1:q2=q:=(by cases hr2;rfl);subst e1;obtain⟨y1,st1,b1,b2,b3⟩:=hb1;obtain⟨_,rfl,_⟩:=K1.end b1 b2;obtain⟨y2,st2,d1,d2,d3⟩:=hb2;obtain⟨_,rfl,_⟩:=K2.end d1 d2;obtain⟨p1,p2,p3⟩:=h0.len _ _ K0;obtain⟨r1,r2,r3⟩:=i1 _ _ b3;obtain⟨u1,u2,u3⟩:=i3 _ _ d3;obtain⟨w1,w2,w3⟩:=i2 _ _ hrest;have:=b3.le;have:=d3.le;have:=Y3 l (i:=b) (j:=b+1) (by omega);have:=Y3 l (i:=k1) (j:=k1+1) (by omega);have:=Y3 l (i:=st1) (j:=st1+1) (by omega);simp only[o9,I5];omega
 |whl o b st k1 ks ks1 x m S S1 S2 S3 a c d hx hm hk hs hks hb h0 h1 h2 i1 i2=>
  intro lo hi hK;obtain⟨rfl,y,q,hy,hys,hq1,hq2,hrest⟩:=hK.first
  rw[hx]at hy;cases hy;have:q=st:=(by omega);subst this;obtain⟨q0,e0,hq0,K0,hr0⟩:=hks.hd;obtain⟨q1,rfl,hq1',K1,hr1⟩:=hr0.hd;have e1:q1=q:=(by cases hr1;rfl);subst e1;obtain⟨y1,st1,b1,b2,b3⟩:=hb;obtain⟨_,rfl,_⟩:=K1.end b1 b2;obtain⟨p1,p2,p3⟩:=h0.len _ _ K0;obtain⟨r1,r2,r3⟩:=i1 _ _ b3;obtain⟨w1,w2,w3⟩:=i2 _ _ hrest;have:=b3.le;have:=Y3 l (i:=b) (j:=b+1) (by omega);have:=Y3 l (i:=k1) (j:=k1+1) (by omega);simp only[o9,I5];omega
end
section
def oC(l:List d7)(P:l9)(n:Nat):Prop:=∀(b:Nat) (x:d7) (q:Nat),q-b=n→l[b]? =some x→x.Cs=(q:Int)-(b+1)→b+1≤q→q≤l.length→7≤x.Ks→x.Ks≤13→Ax l P.Ms b q→
 ∀(F:Nat) (Fs:List y7) (I:List i6) (S:List Bs) (o:Nat),I.length=F+o→I.length+3*(q-b)≤80000000→S.length+(q-b)≤80000000→
 ∃c S',tA d5 (mkr P F Fs I S) (b:Int)=some ((),(mkr P F Fs (I++c) S',()))∧GS l P.Ms P.To o [b] S c S'
def wQ(l:List d7)(P:l9)(n:Nat):Prop:=∀(b:Nat) (x:d7) (q:Nat),q-b=n→l[b]? =some x→x.Cs=(q:Int)-(b+1)→b+1≤q→q≤l.length→x.Ks=6→Ax l P.Ms b q→
 ∀(F:Nat) (Fs:List y7) (I:List i6) (S:List Bs) (o:Nat),I.length=F+o→I.length+3*(q-b)≤80000000→S.length+(q-b)≤80000000→
 ∃c S' ks,Ml d5 (mkr P F Fs I S) (b:Int)=some ((),(mkr P F Fs (I++c) S',()))∧Kc l (b+1) q ks∧GS l P.Ms P.To o ks S c S'
section
variable{l:List d7}{P:l9}(hG:GEn l P)
include hG
theorem b28(N:Nat)(ih:∀m,m<N→oC l P m)(m0:u9)(ks:List Nat)(st:Nat)(hst:st≤l.length)(hkl:ks.length≤l.length)(hks:∀p∈ks,7≤kd l p∧kd l p≤13)(F:Nat)(Fs:List y7):∀(n e c0 o:Nat) (I:List i6) (S:List Bs),ks.length-e=n→e≤ks.length→Kc l c0 st (ks.drop e)→st-c0<N→Ax l P.Ms c0 st→I.length=F+o→I.length+3*(st-c0)≤80000000→S.length+(st-c0)≤80000000→∃c S',mI d5 ((i7 ks,()),(m0,())) (e:Int) (mkr P F Fs I S)=some ((),(mkr P F Fs (I++c) S',()))∧GS l P.Ms P.To o (ks.drop e) S c S':=by
 have hsm:=hG.small;intro n
 induction n with
 |zero=>intro e c0 o I S hn he hK hN hR ho hI hS;rw[TT,Uv];simp only[B0];rw[d9 (by omega),f8,N3 (by omega)];exact⟨[],S,by rw[O1],.nil _ _⟩
 |succ n ihn=>
  intro e c0 o I S hn he hK hN hR ho hI hS;have hel:e<ks.length:=(by omega);have g:=C6 hel;have ga:=D7 hel;rw[J8 hel]at hK⊢;obtain⟨ek,y,q,hy,hys,hq1,hq2,hrest⟩:=hK.first
  have hky:=hks _ (A4 hel);rw[ek,p9 hy]at hky;obtain⟨c,S1,r1,r2⟩:=ih (q-c0) (by omega) c0 y q rfl hy hys hq1 (by omega) hky.1 hky.2 (hR.sub (i4 _) hq2) F Fs I S o ho (by omega) (by omega);obtain⟨q',_,_,hK1,_⟩:=hK.hd;rw[ek]at hK1;have hq':q=q':=(hK1.end hy hys).2.1;subst hq';obtain⟨z1,z2,_⟩:=r2.len _ _ hK1;obtain⟨c',S',k1,k2⟩:=ihn (e+1) q (o+c.length) (I++c) S1 (by omega) (by omega) hrest (by omega) (hR.sub (by omega) (i4 _)) (by rw[o9];omega) (by rw[o9];omega) (by omega);refine⟨c++c',S',?_,?_⟩
  ·rw[TT,Uv];simp only[B0];rw[f6 (by omega),f9,g,d6,E0,ga,d6,ek,r1];simp only[d6];rw[y9 (by omega),k1,G5]
  ·rw[ek];exact r2.cat k2
theorem a4t(N:Nat)(ih:∀m,m<N→oC l P m):wQ l P N:=by intro b x q hN hx hs hbq hq hk hR F Fs I S o ho hI hS;have hsm:=hG.small;obtain⟨st,ks,t1,t2,t3,t4,t5,t6,t7⟩:=hG.may.nd b x hx;have est:st=q:=(by omega);subst est;have hkle:=t5.le;have hks:∀p∈ks,7≤kd l p∧kd l p≤13:=fun p hp=>bZ (Nb (t6.k6 hk) p hp);have hgk:=Wd (by omega) (mkr P F Fs I S) hG.nodes hx t1 t3 t5;obtain⟨c,S',r1,r2⟩:=b28 hG N ih (mkr P F Fs I S) ks st t3 (by omega) hks F Fs _ 0 (b+1) o I S rfl (C9 _) (by rw[T4];exact t5) (by omega) (hR.sub (by omega) (i4 _)) ho (by omega) (by omega);rw[T4]at r2;rw[b0a,iZ,hgk];simp only[d6];exact⟨c,S',ks,r1,t5,r2⟩
theorem a6x(a:Int)(kl:List Int)(m0:u9)(ks:List Nat)(st:Nat)(hst:st≤l.length)(hkl:ks.length≤l.length)(hks:∀p∈ks,21≤kd l p∧kd l p≤32)(F:Nat)(Fs:List y7):∀(n e c0 o:Nat) (I:List i6) (S:List Bs),ks.length-e=n→e≤ks.length→Kc l c0 st (ks.drop e)→Ax l P.Ms c0 st→I.length=F+o→I.length+(st-c0)≤80000000→S.length+(st-c0)≤80000000→∃c S',Tf d5 a kl ((i7 ks,()),(m0,())) (e:Int) (mkr P F Fs I S)=BP d5 a kl (mkr P F Fs (I++c) S')∧GX l P.Ms P.To o (ks.drop e) S c S':=by
 have hsm:=hG.small;intro n
 induction n with
 |zero=>intro e c0 o I S hn he hK hR ho hI hS;rw[RW,Wo];simp only[B0];rw[d9 (by omega),f8,N3 (by omega)];exact⟨[],S,by rw[O1],.nil _ _⟩
 |succ n ihn=>
  intro e c0 o I S hn he hK hR ho hI hS;have hel:e<ks.length:=(by omega);have g:=C6 hel;have ga:=D7 hel;rw[J8 hel]at hK⊢;obtain⟨ek,y,q,hy,hys,hq1,hq2,hrest⟩:=hK.first
  have hky:=hks _ (A4 hel);rw[ek,p9 hy]at hky;obtain⟨c,S1,r1,r2⟩:=tM hG (q-c0) c0 y q rfl hy hys hq1 (by omega) hky.1 hky.2 (hR.sub (i4 _) hq2) F Fs I S o ho (by omega) (by omega);obtain⟨q',_,_,hK1,_⟩:=hK.hd;rw[ek]at hK1;have hq':q=q':=(hK1.end hy hys).2.1;subst hq';obtain⟨z1,z2,_⟩:=r2.len _ _ hK1;obtain⟨c',S',k1,k2⟩:=ihn (e+1) q (o+c.length) (I++c) S1 (by omega) (by omega) hrest (hR.sub (by omega) (i4 _)) (by rw[o9];omega) (by rw[o9];omega) (by omega);refine⟨c++c',S',?_,?_⟩
  ·rw[RW,Wo];simp only[B0];rw[f6 (by omega),f9,g,d6,E0,ga,d6,ek,r1];simp only[d6];rw[y9 (by omega),k1,G5]
  ·rw[ek];exact r2.cat k2
end
end
section
variable{l:List d7}{P:l9}(hG:GEn l P)
include hG
theorem b2n(b:Nat)(x:d7)(hx:l[b]? =some x)(k0 k1 st:Nat)(y z:d7)(hy:l[k0]? =some y)(hys:y.Cs=(k1:Int)-(k0+1))(hy1:k0+1≤k1)(hyk:y.Ks=26∨y.Ks=28∨y.Ks=29)(hz:l[k1]? =some z)(hzs:z.Cs=(st:Int)-(k1+1))(hz1:k1+1≤st)(hst:st≤l.length)(hzk:21≤z.Ks∧z.Ks≤32)(K1:Kc l k1 st [k1])(hR:Ax l P.Ms k0 st)(hm0:k0<P.Ms.length)(F:Nat)(Fs:List y7)(I:List i6)(S:List Bs)(o:Nat)(ho:I.length=F+o)(hI:I.length+2*(st-k0)≤80000000)(hS:S.length+(st-k0)≤80000000):∃(is:List Nat) (c:List i6) (S':List Bs),EQ d5 (mkr P F Fs I S) (b:Int) (i7 [k0,k1])=some ((),(mkr P F Fs (I++c++[rA x y P.Ms[k0]]) S',()))∧Kc l (k0+1) k1 is∧GX l P.Ms P.To o (is++[k1]) S c S':=by
 have hsm:=hG.small;have hnd:=hG.nodes;have hp:∀(I:List i6) (S:List Bs),(mkr P F Fs I S).p_=P:=fun _ _=>rfl;obtain⟨st0,is,t1,t2,t3,t4,t5,t6,t7⟩:=hG.may.nd k0 y hy;have est:st0=k1:=(by omega);subst est;have hisl:=t5.le;have hke:∀p∈is,21≤kd l p∧kd l p≤32:=by obtain⟨_,_,_,h⟩:=HC t5 t6 (by omega);rw[if_neg (by omega)]at h;exact h
 have hgk:=Wd (by omega) (mkr P F Fs I S) hG.nodes hy t1 t3 t5;have g0:f5 (i7 [k0,st0]) (0:Int)=some ((k0:Nat):Int):=C6 (i:=0) (ks:=[k0,st0]) (by simp);have g1:f5 (i7 [k0,st0]) (1:Int)=some ((st0:Nat):Int):=C6 (i:=1) (ks:=[k0,st0]) (by simp);obtain⟨c1,S1,a1,a2⟩:=a6x hG (b:Int) (i7 [k0,st0]) (mkr P F Fs I S) is st0 t3 (by omega) hke F Fs _ 0 (k0+1) o I S rfl (C9 _) (by rw[T4];exact t5) (hR.sub (by omega) (by omega)) ho (by omega) (by omega);rw[T4]at a2;obtain⟨z1,z2,_⟩:=a2.len _ _ t5;obtain⟨c2,S2,b1,b2⟩:=tM hG (st-st0) st0 z st rfl hz hzs hz1 hst hzk.1 hzk.2 (hR.sub (by omega) (i4 _)) F Fs (I++c1) S1 (o+c1.length) (by rw[o9];omega) (by rw[o9];omega) (by omega);obtain⟨w1,w2,_⟩:=b2.len _ _ K1;have hyl:=(l3.1 hy).1;have hye:=(l3.1 hy).2;have hput:=fun(op arg:Int) (i:Nat) (u:d7) (hu:l[i]? =some u)=>Ob (P:=P) (F:=F) (Fs:=Fs) hnd (I++c1++c2) S2 (o+(c1.length+c2.length)) (by simp only[o9];omega) (by simp only[o9];omega) op arg hu;refine⟨is,c1++c2,S2,?_,t5,a2.app b2⟩;rw[a9n,nK,g0,d6,hgk];simp only[d6];rw[show Tf d5 (b:Int) (i7 [k0,st0]) ((i7 is,()),(mkr P F Fs I S,())) 0 (mkr P F Fs I S)=_ from a1,b0f,aF,g1,d6,b1];simp only[d6];rw[g0,d6,hp,l4 hm0,d6,d6,hnd,l4 hyl,d6,hye];unfold rA;by_cases c26:y.Ks=26
 ·rw[f6 c26,if_pos c26,f9,hput _ _ b x hx];simp only[d6,G5]
 ·rw[d9 c26,if_neg c26,f8];by_cases c28:y.Ks=28
  ·rw[f6 c28,if_pos c28,f9,d6,hput _ _ k0 y hy];simp only[d6,G5]
  ·have c29:y.Ks=29:=(by omega);rw[d9 c28,if_neg c28,f8,f6 c29,f9,d6,hput _ _ k0 y hy];simp only[d6,G5]
set_option maxHeartbeats 4000000 in
theorem a8s(N:Nat)(ihB:∀m,m<N→wQ l P m):oC l P N:=by
 intro b x q hN hx hs hbq hq h7 h13 hR F Fs I S o ho hI hS;have hsm:=hG.small;have hnd:=hG.nodes;have hp:∀(I:List i6) (S:List Bs),(mkr P F Fs I S).p_=P:=fun _ _=>rfl;obtain⟨st,ks,t1,t2,t3,t4,t5,t6,t7⟩:=hG.may.nd b x hx;have est:st=q:=(by omega);subst est;have hkle:=t5.le;have hbl:=(l3.1 hx).1;have hxe:=(l3.1 hx).2;have hbM:b<P.Ms.length:=(by rw[hG.len];omega);have hmb:P.Ms[b]? =some P.Ms[b]:=o5 hbM;have hgk:=Wd (by omega) (mkr P F Fs I S) hG.nodes hx t1 t3 t5;have hput0:=Ob (P:=P) (F:=F) (Fs:=Fs) hnd I S o ho (by omega) 1 P.Ms[b].Qs hx;rw[YZ,rZ,hgk];simp only[d6];rw[hp,l4 hbM,d6,hput0];simp only[d6];rw[hp,hnd,l4 hbl,d6,hxe];generalize hI1:I++[(⟨1,P.Ms[b].Qs,x.Ls⟩:i6)]=I1;have lI1:I1.length=F+(o+1):=(by rw[←hI1,o9,A3];omega);have fin:∀(es:List Nat) (t c:List i6) (S1:List Bs),Af l P.Ms b x P.Ms[b] es t→GX l P.Ms P.To (o+1) es S c S1→∃c' S',(some ((),(mkr P F Fs (I1++c++t) S1,())):b3Z)=some ((),(mkr P F Fs (I++c') S',()))∧GS l P.Ms P.To o [b] S c' S':=by intro es t c S1 hT hX;refine⟨_,S1,?_,.smp o b [] es x P.Ms[b] S S1 S1 c t [] hx hmb hT hX (.nil _ _)⟩;rw[←hI1];simp
 have ex:∀(k qk:Nat) (y:d7),l[k]? =some y→y.Cs=(qk:Int)-(k+1)→k+1≤qk→b+1≤k→qk≤st→21≤y.Ks∧y.Ks≤32→Kc l k qk [k]→∃c S',X1 d5 (mkr P F Fs I1 S) (k:Int)=some ((),(mkr P F Fs (I1++c) S',()))∧GX l P.Ms P.To (o+1) [k] S c S'∧c.length+k≤qk∧S'.length+k≤S.length+qk:=by intro k qk y hy hys h1 h2 h3 hk hK;obtain⟨c,S',a1,a2⟩:=tM hG (qk-k) k y qk rfl hy hys h1 (by omega) hk.1 hk.2 (hR.sub (by omega) h3) F Fs I1 S (o+1) lI1 (by omega) (by omega);obtain⟨z1,z2,_⟩:=a2.len _ _ hK;exact⟨c,S',a1,a2,z1,z2⟩
 have pt:∀(c:List i6) (S':List Bs) (n:Nat) (op arg:Int),c.length=n→I1.length+n≤90000000→Q2 d5 (mkr P F Fs (I1++c) S') op arg (b:Int)=some ((((o+1+n:Nat):Int),()),(mkr P F Fs (I1++c++[⟨op,arg,x.Ls⟩]) S',())):=by intro c S' n op arg hn hl;subst hn;rw[Ob (P:=P) (F:=F) (Fs:=Fs) hnd (I1++c) S' (o+1+c.length) (by rw[o9];omega) (by rw[o9];omega) op arg hx]
 by_cases c7:x.Ks=7
 ·obtain⟨e1,e2⟩:=H2 (t6.k7 c7);have t5':=t5;obtain⟨k0,k1,y,z,rfl,hk0,hy,hys,hy1,hz,hzs,hz1⟩:=Gy t5 e1;have s1:=I0 (e2 1 (by simp) (by simp));simp only[Z6,H7]at s1;rw[p9 hz]at s1;obtain⟨q0,_,_,_,K1⟩:=t5'.hd;obtain⟨q1,e1',_,K1',K2⟩:=K1.hd;have eq1:q1=st:=(by cases K2;rfl);subst eq1 e1';have g1:f5 (i7 [k0,k1]) (1:Int)=some ((k1:Nat):Int):=C6 (i:=1) (ks:=[k0,k1]) (by simp);have ga1:(i7 [k0,k1])[Int.toNat 1]? =some ((k1:Nat):Int):=D7 (i:=1) (ks:=[k0,k1]) (by simp);obtain⟨c,S1,a1,a2,a3,a4⟩:=ex k1 q1 z hz hzs hz1 (by omega) (i4 _) s1 K1';rw[f6 c7,f9,g1,d6,ga1,d6,a1];simp only[d6];rw[hp,l4 hbM,d6,pt c S1 _ 8 P.Ms[b].Do rfl (by omega)];simp only[d6];exact fin [k1] _ c S1 (.var q1 k0 k1 c7 t1 t5') a2
 rw[d9 c7,f8];by_cases c8:x.Ks=8
 ·obtain⟨f1,f2⟩:=t6.k8 c8;obtain⟨e1,e2⟩:=H2 f1;have t5':=t5;obtain⟨k0,k1,y,z,rfl,hk0,hy,hys,hy1,hz,hzs,hz1⟩:=Gy t5 e1;have s1:=I0 (e2 1 (by simp) (by simp));simp only[Z6,H7]at s1;rw[p9 hz]at s1;have fk:y.Ks=26∨y.Ks=28∨y.Ks=29:=by have:fkd l [k0,k1]=y.Ks:=p9 hy;rw[this]at f2;exact f2
  obtain⟨q0,_,_,_,K1⟩:=t5'.hd;obtain⟨q1,e1',_,K1',K2⟩:=K1.hd;have eq1:q1=st:=(by cases K2;rfl);subst eq1 e1';have hm0:k0<P.Ms.length:=(by rw[hG.len];omega);obtain⟨is,c,S',a1,a2,a3⟩:=b2n hG b x hx k0 k1 q1 y z hy hys hy1 fk hz hzs hz1 t3 s1 K1' (hR.sub (by omega) (i4 _)) hm0 F Fs I1 S (o+1) lI1 (by omega) (by omega);rw[f6 c8,f9,a1];simp only[d6];exact fin (is++[k1]) _ c S' (.set q1 k0 k1 y P.Ms[k0] is c8 t1 t5' hy fk (o5 hm0) a2) a3
 rw[d9 c8,f8];have one:∀(S':List Int),E5 l ks=101::S'→∃(y:d7) (q1:Nat) (kr:List Nat),ks=(b+1)::kr∧l[b+1]? =some y∧y.Cs=(q1:Int)-(b+1+1)∧b+1+1≤q1∧q1≤st∧(21≤y.Ks∧y.Ks≤32)∧Kc l (b+1) q1 [b+1]∧Kc l q1 st kr∧f5 (i7 ks) (0:Int)=some ((b+1:Nat):Int)∧(i7 ks)[Int.toNat 0]? =some ((b+1:Nat):Int):=by
  intro S' hS';obtain⟨e1,e2⟩:=H2 hS';obtain⟨k0,kr,rfl⟩:∃k kr,ks=k::kr:=by
   cases ks with
   |nil=>simp at e1
   |cons k kr=>exact⟨k,kr,rfl⟩
  obtain⟨q1,rfl,h1,K0,Kr⟩:=t5.hd;obtain⟨_,y,q1',hy,hys,hy1,hy2,hr⟩:=t5.first
  have s0:=I0 (e2 0 (by simp) (by simp));simp only[H7]at s0;rw[p9 hy]at s0;have hqq:q1'=q1:=(K0.end hy hys).2.1;subst hqq;exact⟨y,q1',kr,rfl,hy,hys,hy1,hy2,s0,K0,Kr,C6 (i:=0) (ks:=(b+1)::kr) (by simp),D7 (i:=0) (ks:=(b+1)::kr) (by simp)⟩
 by_cases c9:x.Ks=9
 ·rw[f6 c9,f9];have hS9:∃S',E5 l ks=101::S'∧(S'=[98]∨S'=[98,98]):=by
   rcases t6.k9 c9 with h|h
   ·exact⟨_,h,.inl rfl⟩
   ·exact⟨_,h,.inr rfl⟩
  obtain⟨S',hS',hS2⟩:=hS9;obtain⟨e1,e2⟩:=H2 hS';obtain⟨y,q1,kr,rfl,hy,hys,hy1,hy2,hyk,K0,Kr,g0,ga0⟩:=one S' hS';obtain⟨a,S1,a1,a2,a3,a4⟩:=ex (b+1) q1 y hy hys hy1 (i4 _) hy2 hyk K0;rw[g0,d6,ga0,d6,a1];simp only[d6];rw[pt a S1 _ 12 0 rfl (by omega)];simp only[d6];obtain⟨k1,kr1,rfl⟩:∃k kr1,kr=k::kr1:=by
   cases kr with
   |nil=>rcases hS2 with rfl|rfl<;>simp at e1
   |cons k kr1=>exact⟨k,kr1,rfl⟩
  obtain⟨q2,hk1,hq2,Kb,Kr2⟩:=Kr.hd;subst hk1;obtain⟨_,y1,q2',hb1,hbs1,_,_,_⟩:=Kb.first
  have hqq:q2'=q2:=(Kb.end hb1 hbs1).2.1;subst hqq;have h61:y1.Ks=6:=by have h:=e2 1 (by simp) (by rcases hS2 with rfl|rfl<;>simp);simp only[Z6,H7]at h;rw[p9 hb1]at h;refine Pl (h.trans ?_);rcases hS2 with rfl|rfl<;>rfl
  have hr2le:=Kr2.le;have g1:f5 (i7 ((b+1)::k1::kr1)) (1:Int)=some ((k1:Nat):Int):=C6 (i:=1) (ks:=(b+1)::k1::kr1) (by simp);have ga1:(i7 ((b+1)::k1::kr1))[Int.toNat 1]? =some ((k1:Nat):Int):=D7 (i:=1) (ks:=(b+1)::k1::kr1) (by simp);obtain⟨c,S2,ks1,b1,b2,b3⟩:=ihB (q2'-k1) (by omega) k1 y1 q2' rfl hb1 hbs1 hq2 (by omega) h61 (hR.sub (by omega) (by omega)) F Fs (I1++a++[⟨12,0,x.Ls⟩]) S1 (o+a.length+2) (by simp only[o9,A3];omega) (by simp only[o9,A3];omega) (by omega);obtain⟨w1,w2,_⟩:=b3.len _ _ b2;rw[g1,d6,ga1,d6,b1];simp only[d6];rcases hS2 with rfl|rfl
  ·have hkr1:kr1=[]:=(by simpa using e1);subst hkr1;have eq2:q2'=st:=(by cases Kr2;rfl);subst eq2;rw[d9 (by simp[i7]),f8,RT,Rf];have hland:=Qc (P:=P) (F:=F) (Fs:=Fs) (I1++a) c S2 ⟨12,0,x.Ls⟩ (o+1+a.length) (by rw[o9];omega) (by simp only[o9];omega);rw[show I1++a++[(⟨12,0,x.Ls⟩:i6)]++c=I1++a++((⟨12,0,x.Ls⟩:i6)::c) by simp,hland];simp only[d6];have hg:=GS.if2 (T:=P.To) o b q2' k1 [] ks1 x P.Ms[b] S S1 S2 S2 a c [] hx hmb c9 t1 t5 ⟨y1,q2',hb1,hbs1,b2⟩ a2 b3 (.nil _ _);refine⟨_,S2,?_,hg⟩;have ea:o+1+a.length+1+c.length=o+a.length+2+c.length:=(by omega);rw[←hI1,ea];simp
  ·obtain⟨k2,kr2,rfl⟩:∃k kr2,kr1=k::kr2:=by
    cases kr1 with
    |nil=>simp at e1
    |cons k kr2=>exact⟨k,kr2,rfl⟩
   have hkr2:kr2=[]:=(by simpa using e1);subst hkr2;obtain⟨q3,hk2,hq3,Kb2,Kr3⟩:=Kr2.hd;subst hk2;have eq3:q3=st:=(by cases Kr3;rfl);subst eq3;obtain⟨_,y2,q3',hb2,hbs2,_,_,_⟩:=Kb2.first
   have hqq:q3'=q3:=(Kb2.end hb2 hbs2).2.1;subst hqq;have h62:y2.Ks=6:=by have h:=e2 2 (by simp) (by simp);simp only[Z6,H7]at h;rw[p9 hb2]at h;exact Pl h
   have g2:f5 (i7 [b+1,k1,k2]) (2:Int)=some ((k2:Nat):Int):=C6 (i:=2) (ks:=[b+1,k1,k2]) (by simp);have ga2:(i7 [b+1,k1,k2])[Int.toNat 2]? =some ((k2:Nat):Int):=D7 (i:=2) (ks:=[b+1,k1,k2]) (by simp);rw[f6 (by simp[i7]),f9];have e12:I1++a++[(⟨12,0,x.Ls⟩:i6)]++c=I1++(a++[(⟨12,0,x.Ls⟩:i6)]++c):=(by simp);rw[e12,pt _ S2 (a.length+1+c.length) 11 0 (by simp;omega) (by omega)];simp only[d6];have hland:=Qc (P:=P) (F:=F) (Fs:=Fs) (I1++a) (c++[⟨11,0,x.Ls⟩]) S2 ⟨12,0,x.Ls⟩ (o+1+a.length) (by rw[o9];omega) (by simp only[o9,A3];omega);rw[show I1++(a++[(⟨12,0,x.Ls⟩:i6)]++c)++[⟨11,0,x.Ls⟩]=I1++a++((⟨12,0,x.Ls⟩:i6)::(c++[⟨11,0,x.Ls⟩])) by simp,hland];simp only[d6];have ea:o+1+a.length+1+(c++[(⟨11,0,x.Ls⟩:i6)]).length=o+a.length+c.length+3:=(by simp;omega);rw[ea,g2,d6,ga2,d6];obtain⟨e,S3,ks2,d1,d2,d3⟩:=ihB (q3'-k2) (by omega) k2 y2 q3' rfl hb2 hbs2 hq3 t3 h62 (hR.sub (by omega) (i4 _)) F Fs (I1++a++((⟨12,((o+a.length+c.length+3:Nat):Int),x.Ls⟩:i6)::(c++[⟨11,0,x.Ls⟩]))) S2 (o+a.length+c.length+3) (by simp only[o9,I5,L6];omega) (by simp only[o9,I5,L6];omega) (by omega);obtain⟨v1,v2,_⟩:=d3.len _ _ d2;rw[d1];simp only[d6];rw[RT,Rf];have hland2:=Qc (P:=P) (F:=F) (Fs:=Fs) (I1++a++((⟨12,((o+a.length+c.length+3:Nat):Int),x.Ls⟩:i6)::c)) e S3 ⟨11,0,x.Ls⟩ (o+1+(a.length+1+c.length)) (by simp only[o9,I5];omega) (by simp only[o9,I5];omega);rw[show I1++a++((⟨12,((o+a.length+c.length+3:Nat):Int),x.Ls⟩:i6)::(c++[⟨11,0,x.Ls⟩]))++e=I1++a++((⟨12,((o+a.length+c.length+3:Nat):Int),x.Ls⟩:i6)::c)++((⟨11,0,x.Ls⟩:i6)::e) by simp,hland2];simp only[d6];have hg:=GS.if3 (T:=P.To) o b q3' k1 k2 [] ks1 ks2 x P.Ms[b] S S1 S2 S3 S3 a c e [] hx hmb c9 t1 t5 ⟨y1,_,hb1,hbs1,b2⟩ ⟨y2,q3',hb2,hbs2,d2⟩ a2 b3 d3 (.nil _ _);refine⟨_,S3,?_,hg⟩;have eb:o+1+(a.length+1+c.length)+1+e.length=o+a.length+c.length+3+e.length:=(by omega);rw[←hI1,eb];simp
 rw[d9 c9,f8];by_cases c10:x.Ks=10
 ·rw[f6 c10,f9];obtain⟨e1,e2⟩:=H2 (t6.k10 c10);obtain⟨y,q1,kr,rfl,hy,hys,hy1,hy2,hyk,K0,Kr,g0,ga0⟩:=one _ (t6.k10 c10);obtain⟨a,S1,a1,a2,a3,a4⟩:=ex (b+1) q1 y hy hys hy1 (i4 _) hy2 hyk K0;rw[g0,d6,ga0,d6,a1];simp only[d6];rw[pt a S1 _ 12 0 rfl (by omega)];simp only[d6];obtain⟨k1,kr1,rfl⟩:∃k kr1,kr=k::kr1:=by
   cases kr with
   |nil=>simp at e1
   |cons k kr1=>exact⟨k,kr1,rfl⟩
  have hkr1:kr1=[]:=(by simpa using e1);subst hkr1;obtain⟨q2,hk1,hq2,Kb,Kr2⟩:=Kr.hd;subst hk1;have eq2:q2=st:=(by cases Kr2;rfl);subst eq2;obtain⟨_,y1,q2',hb1,hbs1,_,_,_⟩:=Kb.first
  have hqq:q2'=q2:=(Kb.end hb1 hbs1).2.1;subst hqq;have h61:y1.Ks=6:=by have h:=e2 1 (by simp) (by simp);simp only[Z6,H7]at h;rw[p9 hb1]at h;exact Pl h
  have g1:f5 (i7 [b+1,k1]) (1:Int)=some ((k1:Nat):Int):=C6 (i:=1) (ks:=[b+1,k1]) (by simp);have ga1:(i7 [b+1,k1])[Int.toNat 1]? =some ((k1:Nat):Int):=D7 (i:=1) (ks:=[b+1,k1]) (by simp);obtain⟨c,S2,ks1,b1,b2,b3⟩:=ihB (q2'-k1) (by omega) k1 y1 q2' rfl hb1 hbs1 hq2 (by omega) h61 (hR.sub (by omega) (by omega)) F Fs (I1++a++[⟨12,0,x.Ls⟩]) S1 (o+a.length+2) (by simp only[o9,A3];omega) (by simp only[o9,A3];omega) (by omega);obtain⟨w1,w2,_⟩:=b3.len _ _ b2;rw[g1,d6,ga1,d6,b1];simp only[d6];have e12:I1++a++[(⟨12,0,x.Ls⟩:i6)]++c=I1++(a++[(⟨12,0,x.Ls⟩:i6)]++c):=(by simp);rw[e12,pt _ S2 (a.length+1+c.length) 11 (o:Int) (by simp;omega) (by omega)];simp only[d6];have hland:=Qc (P:=P) (F:=F) (Fs:=Fs) (I1++a) (c++[⟨11,(o:Int),x.Ls⟩]) S2 ⟨12,0,x.Ls⟩ (o+1+a.length) (by rw[o9];omega) (by simp only[o9,A3];omega);rw[show I1++(a++[(⟨12,0,x.Ls⟩:i6)]++c)++[⟨11,(o:Int),x.Ls⟩]=I1++a++((⟨12,0,x.Ls⟩:i6)::(c++[⟨11,(o:Int),x.Ls⟩])) by simp,hland];simp only[d6];have hg:=GS.whl (T:=P.To) o b q2' k1 [] ks1 x P.Ms[b] S S1 S2 S2 a c [] hx hmb c10 t1 t5 ⟨y1,q2',hb1,hbs1,b2⟩ a2 b3 (.nil _ _);refine⟨_,S2,?_,hg⟩;have ea:o+1+a.length+1+(c++[(⟨11,(o:Int),x.Ls⟩:i6)]).length=o+a.length+c.length+3:=(by simp;omega);rw[←hI1,ea];simp
 rw[d9 c10,f8];by_cases c11:x.Ks=11
 ·rw[f6 c11,f9];rcases t6.k11 c11 with h|h
  ·have hks:=aM h;subst hks;have hst:st=b+1:=(by cases t5;rfl);rw[f6 (by simp[i7]),f9];have:=pt [] S 0 26 0 rfl (by omega);rw[O1]at this;rw[this];simp only[d6];have:=fin [] [⟨26,0,x.Ls⟩] [] S (.ret0 c11 (by rw[hst]at t1;exact t1)) (.nil _ _);rw[O1]at this;exact this
  ·obtain⟨e1,e2⟩:=H2 h;obtain⟨y,q1,kr,rfl,hy,hys,hy1,hy2,hyk,K0,Kr,g0,ga0⟩:=one _ h;have hkr:kr=[]:=(by simpa using e1);subst hkr;have eq2:q1=st:=(by cases Kr;rfl);subst eq2;obtain⟨a,S1,a1,a2,a3,a4⟩:=ex (b+1) q1 y hy hys hy1 (i4 _) hy2 hyk K0;rw[d9 (by simp[i7]),f8,g0,d6,ga0,d6,a1];simp only[d6];rw[pt a S1 _ 25 0 rfl (by omega)];simp only[d6];exact fin [b+1] _ a S1 (.ret1 q1 c11 t1 t5) a2
 rw[d9 c11,f8];have h1:E5 l ks=[101]:=by
  by_cases c12:x.Ks=12
  ·exact t6.k12 (.inl c12)
  ·exact(t6.k13 (by omega)).1
 obtain⟨e1,e2⟩:=H2 h1;obtain⟨y,q1,kr,rfl,hy,hys,hy1,hy2,hyk,K0,Kr,g0,ga0⟩:=one _ h1;have hkr:kr=[]:=(by simpa using e1);subst hkr;have eq2:q1=st:=(by cases Kr;rfl);subst eq2;obtain⟨a,S1,a1,a2,a3,a4⟩:=ex (b+1) q1 y hy hys hy1 (i4 _) hy2 hyk K0;by_cases c12:x.Ks=12
 ·rw[f6 c12,f9,g0,d6,ga0,d6,a1];simp only[d6];rw[pt a S1 _ 23 0 rfl (by omega)];simp only[d6];exact fin [b+1] _ a S1 (.print q1 c12 t1 t5) a2
 ·have c13:x.Ks=13:=(by omega);have hm1:b+1<P.Ms.length:=(by rw[hG.len];omega);rw[d9 c12,f8,f6 c13,f9,g0,d6,ga0,d6,a1];simp only[d6];rw[hp,l4 hm1,d6];by_cases ct:P.Ms[b+1].Ts=0
  ·rw[f6 ct,A2,f8];have:=fin [b+1] [] a S1 (.run q1 P.Ms[b+1] c13 t1 t5 (o5 hm1) ct) a2;rw[O1]at this;exact this
  ·rw[d9 ct,D5,f9,pt a S1 _ 24 0 rfl (by omega)];simp only[d6];exact fin [b+1] _ a S1 (.pop q1 P.Ms[b+1] c13 t1 t5 (o5 hm1) ct) a2
theorem a1r:∀n,oC l P n∧wQ l P n:=by
 intro n
 induction n using Nat.strongRecOn with
 |_ n ih=>exact⟨a8s hG n (fun m hm=>(ih m hm).2),a4t hG n (fun m hm=>(ih m hm).1)⟩
end
section
variable{l:List d7}{s:d8}{nr:Nat}{M:List i8}{n:Nat}(h:iR n l s nr M)(hn:n≤2900)
include h hn
theorem a8z:GEn l (prog s M):=by obtain⟨d,hI,rfl⟩:=h.ci;have hs:=h.small;exact⟨h.res.ri.nodes,h.may,by omega,fun x hx=>by have:=BB hx;have:=h.txt;omega,hI.len,hI.ty⟩
theorem a1g{f:t8}(hf:f∈s.P.As):∃(k st np bp:Nat) (x y:d7) (ks:List Nat),f.Gs=(k:Int)∧l[k]? =some x∧x.Ks=4∧x.Cs=(st:Int)-(k+1)∧Kc l (k+1) st ks∧ks.length=np+2∧ks.getLast? =some bp∧k+1≤bp∧l[bp]? =some y∧y.Ks=6∧y.Cs=(st:Int)-(bp+1)∧bp+1≤st∧st≤l.length∧f.Es=(np:Int)∧(np:Int)≤f.Ss∧f.Ss≤200∧0≤f.At∧f.At+f.Ss≤s.P.Ss.length∧(∀i,bp≤i→i<st→NdE l s f.Ss i∧NdS l s f.Ss i)∧(∀i,bp≤i→i<st→EF l s.P M i∧SF l M f.By i)∧(f.By≠0→BEn l bp):=by
 obtain⟨k,st,np,bp,x,ks,a1,a2,a3,a4,a5,a6,a7,a8,a9,a10,a12,a11⟩:=h.res.fns f hf;obtain⟨k',x',c1,c2,c3,_⟩:=h.res.ri.fn f hf;have ek:k'=k:=(by omega);subst ek;rw[a2]at c2;cases c2;obtain⟨z1,z2⟩:=h.fc f hf k' st np bp x ks a1 a2 a3 a4 a5 a6;obtain⟨st',ks',t1,t2,t3,t4,t5,t6,t7⟩:=h.may.nd k' x a2;have est:st'=st:=(by omega);subst est;have:=t5.det a4;subst this;obtain⟨np',n1,n2,n3,n4,n5⟩:=Ju t6 c3;have enp:np'=np:=(by omega);subst enp;have hl1:np'+1<ks'.length:=(by omega);have hlast:ks'.getLast? =some bp:=by rw[List.getLast?_eq_getElem?,n1];exact a6
 rw[o5 hl1]at a6;injection a6 with a6
 have hy6:=n5 hl1;rw[a6]at hy6;obtain⟨cK,hcK,hK⟩:=t5.drop (np'+1) (by omega);rw[J8 hl1,N3 (by omega),a6]at hK;obtain⟨ecK,y,q,hy,hys,hq1,hq2,hrest⟩:=hK.first
 have hq:q=st':=(by cases hrest;rfl);subst hq ecK;rw[p9 hy]at hy6;have hbpk:=(t5.mem bp (by rw[←a6];exact A4 hl1)).1;exact⟨k',q,np',bp,x,y,ks',a1,a2,c3,t1,t5,n1,hlast,hbpk,hy,hy6,hys,hq1,t3,a7,a9,a12,a8,a10,a11,z1,z2⟩
theorem b25{f:t8}(hf:f∈s.P.As){bp st:Nat}(hst:st≤l.length)(hE:∀i,bp≤i→i<st→EF l s.P M i∧SF l M f.By i):Ax l (prog s M).Ms bp st:=by
 intro i i1 i2 hk;have hil:i<l.length:=(by omega);have hx:=o5 hil;obtain⟨q,ks,t1,t2,t3,t4,t5,t6,t7⟩:=h.may.nd i _ hx;obtain⟨m,m1,m2,m3⟩:=(hE i i1 i2).1.k27 hk _ q ks hx t1 t5;refine⟨m,m1,?_⟩;by_cases c:m.Do<0
 ·have:=(m2 c).1;omega
 ·omega
set_option maxHeartbeats 2000000 in
theorem a23:∀(m i A:Nat) (I:List i6) (E:List y7) (S:List Bs) (F0:Nat),s.P.As.length-i=m→i≤s.P.As.length→I.length=A→E.length≤i→A+100000*m≤70000000→S.length+40000*m≤70000000→∃I' E' S' F',Xu d5 (prog s M) (i:Int) (mkr (prog s M) F0 E I S)=Zy d5 (mkr (prog s M) F' (E++E') (I++I') S')∧GC l M s.P.To A (s.P.As.drop i) S I' E' S':=by
 have hG:=a8z h hn;have hsm:=hG.small;have hnd:=hG.nodes;have hfn:=h.res.fn100;intro m
 induction m with
 |zero=>intro i A I E S F0 hm hi hA hE hb hS;rw[JE,Vm,d9 (by show¬(i:Int)<(s.P.As.length:Int);omega),f8,N3 (by omega)];exact⟨[],[],S,F0,by rw[O1,O1],.nil _ _⟩
 |succ m ih=>
  intro i A I E S F0 hm hi hA hE hb hS;have hil:i<s.P.As.length:=(by omega);have hgf:f5 (prog s M).As (i:Int)=some s.P.As[i]:=l4 hil;obtain⟨k,st,np,bp,x,y,ks,a1,a2,a3,a4,a5,a6,a7,a8,b1,b2,b3,b4,b5,b6,b7,b8,b9,b10,d1,d2,d3⟩:=a1g h hn (A4 hil);have hkle:=a5.le;have hl1:np+1<ks.length:=(by omega);have hbp:ks[np+1]=bp:=by rw[List.getLast?_eq_getElem?,a6,show np+2-1=np+1 from rfl,o5 hl1]at a7;injection a7
  have ew:w64 (((i7 ks).length:Int)-1)=((np+1:Nat):Int):=(by rw[B0,wrap64 (by omega) (by omega)];omega);have hgk:=Wd (by omega) (mkr (prog s M) A E I S) hnd a2 a4 b5 a5;obtain⟨c,S1,ks2,r1,r2,r3⟩:=(a1r hG (st-bp)).2 bp y st rfl b1 b3 b4 b5 b2 (b25 h hn (A4 hil) b5 d2) A E I S 0 (by omega) (by omega) (by omega);obtain⟨z1,z2,_⟩:=r3.len _ _ r2;have hput:=Ob (P:=prog s M) (F:=A) (Fs:=E) hnd (I++c) S1 c.length (by rw[o9];omega) (by rw[o9];omega) 26 0 a2;have ehere:w64 (((I++c++[(⟨26,0,x.Ls⟩:i6)]).length:Int)-(A:Int))=(c.length:Int)+1:=by simp only[o9,A3];rw[wrap64 (by omega) (by omega)];omega
  have hz:E.length+ [(y7.mk (A:Int) ((c.length:Int)+1) s.P.As[i].Es s.P.As[i].Ss (if s.P.As[i].By=0 then 0 else 1))].length≤100000000:=(by rw[A3];omega);obtain⟨I',E',S',F',k1,k2⟩:=ih (i+1) (A+c.length+1) (I++c++[⟨26,0,x.Ls⟩]) (E++[⟨A,(c.length:Int)+1,s.P.As[i].Es,s.P.As[i].Ss,if s.P.As[i].By=0 then 0 else 1⟩]) S1 A (by omega) (by omega) (by simp only[o9,A3];omega) (by rw[o9,A3];omega) (by omega) (by omega);have hgc:=GC.cons A k st bp s.P.As[i] (s.P.As.drop (i+1)) S S1 S' x ks ks2 c I' E' a1 a2 a4 a5 a7 ⟨y,st,b1,b3,r2⟩ r3 k2;rw[←J8 hil]at hgc;refine⟨_,_,S',F',?_,hgc⟩;have last:∀r:Int,r=(if s.P.As[i].By=0 then 0 else 1)→kM d5 (prog s M) (i:Int) (((c.length:Int),()),(mkr (prog s M) A E (I++c++[⟨26,0,x.Ls⟩]) S1,())) (((c.length:Int)+1,()),()) s.P.As[i] r=Zy d5 (mkr (prog s M) F' (E++(⟨A,(c.length:Int)+1,s.P.As[i].Es,s.P.As[i].Ss,if s.P.As[i].By=0 then 0 else 1⟩::E')) (I++(c++(⟨26,0,x.Ls⟩::I'))) S'):=by intro r hr;subst hr;rw[a9A,lT];simp only;have hfs:(mkr (prog s M) A E (I++c++[⟨26,0,x.Ls⟩]) S1).c_.As=E:=rfl;have hfr:(mkr (prog s M) A E (I++c++[⟨26,0,x.Ls⟩]) S1).from_=(A:Int):=rfl;rw[hfs,hfr,H8 (by decide) hz,d6,a2c,gV];simp only;rw[y9 (by omega)];have k1':=k1;unfold mkr at k1';unfold mkr;simp only;rw[k1'];simp
  have hmk:(u9.mk (mkr (prog s M) F0 E I S).p_ (mkr (prog s M) F0 E I S).c_ ((mkr (prog s M) F0 E I S).c_.Is.length:Int) (mkr (prog s M) F0 E I S).texts_)=mkr (prog s M) A E I S:=by unfold mkr;simp only[hA]
  rw[JE,Vm,f6 (by show(i:Int)<(s.P.As.length:Int);omega),f9,hgf,d6,hmk,a1,hgk];simp only[d6];rw[ew,C6 hl1,d6,E0,D7 hl1,d6,hbp,r1];simp only[d6];rw[hput];simp only[d6];rw[UQ,Qa];have hil':(mkr (prog s M) A E (I++c++[⟨26,0,x.Ls⟩]) S1).c_.Is=I++c++[⟨26,0,x.Ls⟩]:=rfl;have hfr':(mkr (prog s M) A E (I++c++[⟨26,0,x.Ls⟩]) S1).from_=(A:Int):=rfl;rw[hil',hfr',ehere];simp only[d6];by_cases cr:s.P.As[i].By=0
  ·rw[f6 cr,A2,f8];exact last 0 (by rw[if_pos cr])
  ·rw[d9 cr,D5,f9];exact last 1 (by rw[if_neg cr])
theorem b0k:∃I E S,fV d5 (prog s M)=some (((⟨I,E,S⟩:l7),()),())∧GC l M s.P.To 0 s.P.As [] I E S:=by have hfn:=h.res.fn100;obtain⟨I,E,S,F',k1,k2⟩:=a23 h hn _ 0 0 [] [] [] 0 rfl (C9 _) rfl (i4 _) (by omega) (by simp;omega);rw[T4]at k2;refine⟨I,E,S,?_,k2⟩;rw[a0B,lH,show Xu d5 (prog s M) 0 (u9.mk (prog s M) (l7.mk ([]:List i6) ([]:List y7) ([]:List Bs)) 0 ([]:List (Bs × Int)))=_ from k1,a4j,fB];rfl
end
end Go.Proofs.YtihbbcealnnpiaaGreatDoor
