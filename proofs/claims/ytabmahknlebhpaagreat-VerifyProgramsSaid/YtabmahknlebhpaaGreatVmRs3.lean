/- Parts of the proof. -/
import Derived.Test.YtabmahknlebhpaaGreatVmQA
set_option linter.unusedVariables false
set_option linter.unusedSectionVars false
namespace Go.Proofs.YtabmahknlebhpaaGreat
section
section
def l5(ks:List Nat):List Int:=ks.map fun(k:Nat)=>(k:Int)
theorem A9(ks:List Nat):(l5 ks).length=ks.length:=by unfold l5;rw[H2]
theorem C6{ks:List Nat}{i:Nat}(h:i<ks.length):i6 (l5 ks) (i:Int)=some ((ks[i]:Nat):Int):=by rw[l7 (by rw[A9];exact h)];simp[l5]
theorem D9{ks:List Nat}{i:Nat}(h:i<ks.length):(l5 ks)[i]? =some ((ks[i]:Nat):Int):=by simp[l5,h]
theorem wH(ks:List Nat)(i:Nat):x8 (l5 ks) (0:Int) (i:Int)=l5 (ks.take i):=by unfold x8 l5;rw[List.map_take];simp
theorem Kc.sorted{l:List d7}{i j:Nat}{ks:List Nat}(h:Kc l i j ks):ks.Pairwise (· < ·):=by
 induction h with
 |nil=>exact List.Pairwise.nil
 |cons i k j x ks hx hs hk kids rest ih=>exact List.Pairwise.cons (fun p hp=>by have:=(rest.mem p hp).1;omega) ih
theorem KT{l:List d7}(hM:J6 l)(hl:l.length≤30000)(k:Int):∃ts:List Nat,bW d5 l k=some ((l5 ts,()),())∧ts.length≤l.length∧(∀p∈ts,∃x,l[p]? =some x∧x.Ks=k)∧ts.Pairwise (· < ·):=by
 obtain⟨x,hx,hk,hs,h0,hw⟩:=hM.root;obtain⟨ks,hks⟩:=hw.kc;have hkl:=hks.le;have hkids:=T8 (l:=l) (by omega) hx (st:=l.length) (by omega) (i8 _) hks;have loop:∀(n i:Nat),ks.length-i=n→aO d5 l k ((l5 ks,()),()) (i:Int) (l5 ((ks.take i).filter fun p=>decide (kd l p=k)))=some ((l5 (ks.filter fun p=>decide (kd l p=k)),()),()):=by
  intro n
  induction n with
  |zero=>intro i hi;rw[PL,Ya];simp only[A9];rw[d8 (by omega),i5,a68,hY,List.take_of_length_le (by omega)]
  |succ n ih=>
   intro i hi;have hil:i<ks.length:=(by omega);obtain⟨_,_,y,q,hy,_⟩:=hks.mem _ (y5 hil);have hyl:=(l9.1 hy).1;have hye:=(l9.1 hy).2;have g:=C6 hil;have ga:=D9 hil;have hfl:=List.length_filter_le (fun p=>decide (kd l p=k)) (ks.take i);rw[List.length_take]at hfl;have hz:(l5 ((ks.take i).filter fun p=>decide (kd l p=k))).length+ [((ks[i]:Nat):Int)].length≤100000000:=(by rw[A9,y4];omega);have e:=ih (i+1) (by omega);rw[List.take_add_one,p8 hil,List.filter_append]at e;rw[PL,Ya];simp only[A9];rw[f9 (by omega),i7,g,d6,B8,ga,d6,l7 hyl,hye,d6,z8 (by omega)];by_cases c:y.Ks=k
   ·have e1:l5 ((ks.take i).filter fun p=>decide (kd l p=k))++[((ks[i]:Nat):Int)]=l5 ((ks.take i).filter (fun p=>decide (kd l p=k))++(Option.toList (some ks[i])).filter fun p=>decide (kd l p=k)):=by simp[l5,u0 hy,c]
    rw[f9 c,i7,d6,d6,J9 (by decide) hz,d6,e1];exact e
   ·have e1:(ks.take i).filter (fun p=>decide (kd l p=k))++(Option.toList (some ks[i])).filter (fun p=>decide (kd l p=k))=(ks.take i).filter fun p=>decide (kd l p=k):=by simp[u0 hy,c]
    rw[e1]at e;rw[d8 c,i5];exact e
 rw[a9S,xG,show U7 d5 l 0=_ from hkids,d6];have l0:=loop _ 0 rfl;rw[List.take_zero]at l0;refine⟨_,l0,?_,fun p hp=>?_,hks.sorted.filter _⟩
 ·have:=List.length_filter_le (fun p=>decide (kd l p=k)) ks;omega
 ·obtain⟨h1,h2⟩:=List.mem_filter.1 hp;obtain⟨_,_,y,q,hy,_⟩:=hks.mem p h1;refine⟨y,hy,?_⟩;rw[←u0 hy];exact D6 h2
theorem nA{l:List d7}(ks:List Nat)(hk:∀p∈ks,p<l.length)(hkl:ks.length≤30000)(s:b5Y):∃b,Qg d5 l (l5 ks) s=some ((b,()),()):=by
 have loop:∀(n i:Nat),ks.length-i=n→∃b,kL d5 l (l5 ks) s (i:Int)=some ((b,()),()):=by
  intro n
  induction n with
  |zero=>intro i hi;rw[XK,Vg,A9,d8 (by omega),i5,a9h,kJ];exact⟨_,rfl⟩
  |succ n ih=>
   intro i hi;have hil:i<ks.length:=(by omega);have hyl:=hk _ (y5 hil);have e:=ih (i+1) (by omega);rw[XK,Vg,A9,f9 (by omega),i7,C6 hil,d6,l7 hyl,d6,z8 (by omega)];cases decide (l[ks[i]].Gs=s)with
   |true=>exact⟨_,rfl⟩
   |false=>exact e
 rw[a8b,fM];exact loop _ 0 rfl
theorem KU(s:b5Y):∃n:Int,sN d5 s=some ((n,()),())∧0≤n∧n≤8:=by
 have loop:∀(W:List (b5Y)) (hd:W=([([]:b5Y),([108,101,110]:b5Y),([116,101,120,116]:b5Y),([114,101]:b5Y),([105,109]:b5Y),([112,97,105,114]:b5Y),([99,104,114]:b5Y),([114,101,97,100]:b5Y),([114,97,110,100]:b5Y)]:List (b5Y))) (hW:W.length=9),∀(n i:Nat),W.length-i=n→∃n:Int,rL d5 s (i:Int)=some ((n,()),())∧0≤n∧n≤8:=by
  intro W hd hW n
  induction n with
  |zero=>intro i hi;rw[a1c,Xt,←hd,d8 (by omega),i5,a8u,nW];exact⟨0,rfl,by omega,by omega⟩
  |succ n ih=>
   intro i hi;have hil:i<W.length:=(by omega);have e:=ih (i+1) (by omega);rw[a1c,Xt,←hd,f9 (by omega),i7,l7 hil,d6,B8,p8 hil,d6,z8 (by omega)];cases decide (W[i]=s)with
   |true=>exact⟨_,rfl,by omega,by omega⟩
   |false=>exact e
 rw[a6S,pY];exact loop _ rfl rfl _ 0 rfl
theorem OD(s:d9)(hs:s.P.As.length≤100000000000)(name:b5Y):∃n:Int,fA d5 s name=some ((n,()),())∧ -1≤n∧n<s.P.As.length:=by
 have loop:∀(n i:Nat),s.P.As.length-i=n→∃n:Int,fT d5 name s (i:Int)=some ((n,()),())∧ -1≤n∧n<s.P.As.length:=by
  intro n
  induction n with
  |zero=>intro i hi;rw[PY,Sk,d8 (by omega),i5,a2p,lN];exact⟨-1,rfl,by omega,by omega⟩
  |succ n ih=>
   intro i hi;have hil:i<s.P.As.length:=(by omega);have e:=ih (i+1) (by omega);rw[PY,Sk,f9 (by omega),i7,l7 hil,d6,z8 (by omega)];cases decide (s.P.As[i].Js=name)with
   |true=>exact⟨_,rfl,by omega,by omega⟩
   |false=>exact e
 rw[b4n,kP];exact loop _ 0 rfl
theorem a8O(n:Nat)(hn:n≤30000):∃T,DC d5 (n:Int)=some ((T,()),())∧Z8 (min n 100) T∧T.length=6+min n 100:=by
 have loop:∀(m i:Nat) (T:List r9),min n 100-i=m→i≤min n 100→Z8 i T→T.length=6+i→∃T',kD d5 (n:Int) (i:Int) T=some ((T',()),())∧Z8 (min n 100) T'∧T'.length=6+min n 100:=by
  intro m
  induction m with
  |zero=>
   intro i T hi hle h hl;have:i=min n 100:=(by omega);rw[XE,Ww,b3z,gC,←this];refine⟨T,?_,h,hl⟩;by_cases c:(i:Int)<(n:Int)
   ·rw[f9 c,d8 (by omega)];rfl
   ·rw[d8 c];rfl
  |succ m ih=>
   intro i T hi hle h hl;have hz:T.length+ [(r9.mk 6 (i:Int))].length≤100000000:=(by rw[y4];omega);rw[XE,Ww,f9 (by omega),f9 (by omega),i7,i7,J9 (by decide) hz,d6,z8 (by omega)];refine ih (i+1) _ (by omega) (by omega) ⟨?_,fun j hj=>?_,fun j hj=>?_,fun j x hj hx=>?_⟩ (by rw[o5,y4];omega)
   ·rw[o5,y4];omega
   ·rw[R3 (by omega)];exact h.base j hj
   ·by_cases c:j<i
    ·rw[R3 (by omega)];exact h.recs j c
    ·have:j=i:=(by omega);subst this;rw[Ci (by omega)];have:6+j-T.length=0:=(by omega);rw[this];rfl
   ·have:=(l9.1 hx).1;rw[o5,y4]at this;omega
 rw[b4T,jY];refine loop _ 0 _ rfl (C8 _) ⟨by simp,fun i hi=>?_,fun i hi=>absurd hi (Nat.not_lt_zero _),fun i x hi hx=>?_⟩ rfl
 ·have:i=0∨i=1∨i=2∨i=3∨i=4∨i=5:=(by omega);rcases this with rfl|rfl|rfl|rfl|rfl|rfl<;>rfl
 ·have:=(l9.1 hx).1;simp at this;omega
section
variable{l:List d7}(hM:J6 l)(hl:l.length≤30000)(htx:∀n∈l,n.Gs.length≤65536)
include hM hl htx
theorem a5S(b:Nat)(x:d7)(st:Nat)(hx:l[b]? =some x)(hs:x.Cs=(st:Int)-(b+1))(hk:14≤x.Ks∧x.Ks≤20)(s:d9)(nr B:Nat)(hR:RI l nr B s)(hB:B+(st-b)≤80000000000):∃t s',rY d5 s (b:Int)=some ((t,s',()),())∧RI l nr (B+(st-b)) s'∧Ex l s s' b st∧(t=0∨C7 s'.P.To t)∧(s'.F.Code=0→x.Ks=14∧t=0∨(x.Ks≠14∧TKd s'.P.To t x.Ks)∧C7 s'.P.To t):=
 AW hM hl htx _ (fun a b=>by rw[a7E,kT,LZ,AP]) _ b x st hx hs rfl hk s nr B hR hB
theorem PD(b:Nat)(x:d7)(st:Nat)(hx:l[b]? =some x)(hs:x.Cs=(st:Int)-(b+1))(hk:14≤x.Ks∧x.Ks≤20)(s:d9)(nr B:Nat)(hR:RI l nr B s)(hB:B+(st-b)≤80000000000):∃t s',bI d5 s (b:Int)=some ((t,s',()),())∧RI l nr (B+(st-b)) s'∧Ex l s s' b st∧(t=0∨C7 s'.P.To t)∧(s'.F.Code=0→x.Ks=14∧t=0∨(x.Ks≠14∧TKd s'.P.To t x.Ks)∧C7 s'.P.To t):=
 AW hM hl htx _ (fun a b=>by rw[b3Q,vG,JK,Mw]) _ b x st hx hs rfl hk s nr B hR hB
theorem a0B(b:Nat)(x:d7)(st:Nat)(hx:l[b]? =some x)(hs:x.Cs=(st:Int)-(b+1))(hk:14≤x.Ks∧x.Ks≤20)(s:d9)(nr B:Nat)(hR:RI l nr B s)(hB:B+(st-b)≤80000000000):∃t s',Wm d5 s (b:Int)=some ((t,s',()),())∧RI l nr (B+(st-b)) s'∧Ex l s s' b st∧(t=0∨C7 s'.P.To t)∧(s'.F.Code=0→x.Ks=14∧t=0∨(x.Ks≠14∧TKd s'.P.To t x.Ks)∧C7 s'.P.To t):=
 AW hM hl htx _ (fun a b=>by rw[b0S,pB,Ou]) _ b x st hx hs rfl hk s nr B hR hB
end
end
section
structure Kp(s s':d9):Prop where
 fns:s'.P.As=s.P.As
 slots:s'.P.Ss=s.P.Ss
 vars:s'.P.Vars=s.P.Vars
 points:s'.P.Es=s.P.Es
 own:s'.Rs=s.Rs
 bad:s.F.Code≠0→s'.F.Code≠0
theorem Kp.refl(s:d9):Kp s s:=⟨rfl,rfl,rfl,rfl,rfl,id⟩
theorem Kp.trans{s s' s'':d9}(h:Kp s s')(h':Kp s' s''):Kp s s'':=⟨h'.fns.trans h.fns,h'.slots.trans h.slots,h'.vars.trans h.vars,h'.points.trans h.points,h'.own.trans h.own,fun hb=>h'.bad (h.bad hb)⟩
theorem Ex.kp{l:List d7}{s s':d9}{lo hi:Nat}(h:Ex l s s' lo hi):Kp s s':=⟨h.fns,h.slots,h.vars,h.points,h.own,h.bad⟩
theorem Kp.fault(s:d9)(f:y6)(hf:f.Code≠0):Kp s ⟨s.P,s.Rs,f⟩:=⟨rfl,rfl,rfl,rfl,rfl,fun _=>hf⟩
section
variable{l:List d7}(hM:J6 l)(hl:l.length≤30000)(htx:∀n∈l,n.Gs.length≤65536)
include hM hl htx
theorem a14(a:d9)(ha:a.P.No=l)(ts:List Nat)(hts:∀p∈ts,p<l.length)(htl:ts.length≤l.length):∀(n c:Nat) (d:d9) (M:List l4),ts.length-c=n→c≤ts.length→d.P=⟨l,M,[],[],[],[],[],[],[]⟩→M.length=l.length→(∀m∈M,m.Ts=0)→d.Rs.length=c→(100<c→d.F.Code≠0)→∃(d':d9) (M':List l4),Sv d5 a ((l5 ts,()),()) (c:Int) d=Sw d5 a ((l5 ts,()),()) d'∧d'.P=⟨l,M',[],[],[],[],[],[],[]⟩∧M'.length=l.length∧(∀m∈M',m.Ts=0)∧d'.Rs.length=ts.length∧(100<ts.length→d'.F.Code≠0):=by
 intro n
 induction n with
 |zero=>intro c d M hn hc hP hMl hMt hR hb;have:c=ts.length:=(by omega);rw[XD,bD];simp only[A9];rw[d8 (by omega),i5];exact⟨d,M,rfl,hP,hMl,hMt,by omega,fun h=>hb (by omega)⟩
 |succ n ih=>
  intro c d M hn hc hP hMl hMt hR hb;have hcl:c<ts.length:=(by omega);have hp:=hts _ (y5 hcl);have g:=C6 hcl;have j1:∀d1:d9,d1.P=d.P→d1.Rs=d.Rs→(100≤c→d1.F.Code≠0)→∃(d':d9) (M':List l4),vI d5 a ((l5 ts,()),()) (c:Int) d1=Sw d5 a ((l5 ts,()),()) d'∧d'.P=⟨l,M',[],[],[],[],[],[],[]⟩∧M'.length=l.length∧(∀m∈M',m.Ts=0)∧d'.Rs.length=ts.length∧(100<ts.length→d'.F.Code≠0):=by
   intro d1 h1 h2 h3;have hm:ts[c]<d1.P.Ms.length:=(by rw[h1,hP];simp only;omega);have hz:d1.Rs.length+ [l[ts[c]].Gs].length≤100000000:=(by rw[h2,y4];omega);rw[b0P,jW];simp only;rw[g,d6,Bv d1 (by rw[h1,hP];simp only;omega) _ hm,d6,d6,ha,l7 hp,d6];have e:((x9 d1 ts[c] (l4.mk 0 (c:Int) 0),()):d9 × Unit).1.Rs=d1.Rs:=rfl;simp only;rw[show(x9 d1 ts[c] (l4.mk 0 (c:Int) 0)).Rs=d1.Rs from rfl,J9 (by decide) hz,d6,b4z,dS,z8 (by omega)];refine ih (c+1) _ (M.set ts[c] (l4.mk 0 (c:Int) 0)) (by omega) (by omega) ?_ (by rw[T4];exact hMl) (fun m hm=>?_) ?_ (fun h=>h3 (by omega))
   ·show(x9 d1 ts[c] (l4.mk 0 (c:Int) 0)).P=_;unfold x9;simp only[h1,hP]
   ·rcases List.mem_or_eq_of_mem_set hm with hm|rfl
    ·exact hMt m hm
    ·rfl
   ·show(d1.Rs++_).length=_;rw[h2,o5,y4,hR]
  have j2:∀d1:d9,d1.P=d.P→d1.Rs=d.Rs→(100≤c→d1.F.Code≠0)→∃(d':d9) (M':List l4),qS d5 a ((l5 ts,()),()) (c:Int) d1=Sw d5 a ((l5 ts,()),()) d'∧d'.P=⟨l,M',[],[],[],[],[],[],[]⟩∧M'.length=l.length∧(∀m∈M',m.Ts=0)∧d'.Rs.length=ts.length∧(100<ts.length→d'.F.Code≠0):=by
   intro d1 h1 h2 h3;obtain⟨b,hb1⟩:=nA (l:=l) (ts.take c) (fun p hp=>hts p (List.mem_of_mem_take hp)) (by rw[List.length_take];omega) l[ts[c]].Gs;rw[b40,eY];simp only[A9];rw[W5 (show B9 (0:Int) (c:Int) (ts.length:Int)from⟨by omega,by omega,by omega⟩),d6,g,d6,ha,l7 hp,d6,wH,hb1,d6];cases b with
   |false=>exact j1 d1 h1 h2 h3
   |true=>obtain⟨f,f1,f2⟩:=Z0 d1 7 (by decide) ts[c] (by rw[h1,hP];exact hp);rw[i7,d6,a0Y,f1,d6];exact j1 ⟨d1.P,d1.Rs,f⟩ h1 h2 (fun _=>f2)
  rw[XD,bD];simp only[A9];rw[f9 (by omega),i7];by_cases c100:(c:Int)≥100
  ·obtain⟨f,f1,f2⟩:=Z0 d 13 (by decide) ts[c] (by rw[hP];exact hp);rw[f9 c100,i7,g,d6,a0Y,f1,d6];exact j2 ⟨d.P,d.Rs,f⟩ rfl rfl (fun _=>f2)
  ·rw[d8 c100,i5];exact j2 d rfl rfl (fun h=>absurd h (by omega))
theorem b1X(a:d9)(ha:a.P.No=l)(b:RT3)(ci:Int)(ks:List Nat)(hkl:ks.length≤l.length)(hks:∀p∈ks,kd l p=3)(e0:Int)(nr st:Nat)(hst:st≤l.length):∀(n h c0:Nat) (j:d9) (B:Nat),ks.length-h=n→h≤ks.length→Kc l c0 st (ks.drop h)→RI l nr B j→B+(st-c0)≤80000000000→(∃j',Nh d5 a b ci ((l5 ks,()),()) e0 ci (h:Int) j=some ((j',()),())∧RI l nr (B+(st-c0)) j'∧Kp j j'∧j'.F.Code≠0)∨∃j',Nh d5 a b ci ((l5 ks,()),()) e0 ci (h:Int) j=Wj d5 a b ci ((l5 ks,()),()) e0 ci j'∧RI l nr (B+(st-c0)) j'∧Kp j j'∧j'.P.Id.length=j.P.Id.length+n∧j'.P.Rs=j.P.Rs:=by
 intro n
 induction n with
 |zero=>intro h c0 j B hn hh hK hR hB;rw[RD,Vv];simp only[A9];rw[d8 (by omega),i5];exact .inr ⟨j,rfl,hR.more (by omega),Kp.refl _,rfl,rfl⟩
 |succ n ih=>
  intro h c0 j B hn hh hK hR hB;have hhl:h<ks.length:=(by omega);have g:=C6 hhl;rw[H5 hhl]at hK;obtain⟨ek,x,q,hx,hxs,hq1,hq2,hrest⟩:=hK.first
  have hk3:=hks _ (y5 hhl);have hxl:=(l9.1 hx).1;have hp:ks[h]<l.length:=(by rw[ek];exact hxl);have hx3:x.Ks=3:=(by rw[←u0 hx,←ek];exact hk3);have hnd:=hR.nodes;obtain⟨st',kk,t1,t2,t3,t4,t5,t6,t7⟩:=hM.nd c0 x hx;have est:st'=q:=(by omega);subst est;obtain⟨e1,e2⟩:=B7 (t6.k3 (.inl hx3));obtain⟨k0,kk',rfl⟩:∃k kk',kk=k::kk':=by
   cases kk with
   |nil=>simp at e1
   |cons k kk=>exact⟨k,kk,rfl⟩
  have hk1:=X2 (e2 0 (by simp) (by simp));obtain⟨rfl,y,q2,hy,hys,hy1,hy2,_⟩:=t5.first
  rw[H1,u0 hy]at hk1;have j8:∀j1:d9,j1.P=j.P→j1.Rs=j.Rs→(j.F.Code≠0→j1.F.Code≠0)→
    (∃j',Zl d5 a b ci ((l5 ks,()),()) e0 (h:Int) ci j1=some ((j',()),())∧RI l nr (B+(st-c0)) j'∧Kp j j'∧j'.F.Code≠0)∨
    ∃j',Zl d5 a b ci ((l5 ks,()),()) e0 (h:Int) ci j1=Wj d5 a b ci ((l5 ks,()),()) e0 ci j'∧RI l nr (B+(st-c0)) j'∧Kp j j'∧j'.P.Id.length=j.P.Id.length+(n+1)∧j'.P.Rs=j.P.Rs:=by
   intro j1 h1 h2 h3;have hR1:RI l nr B j1:=by have:=hR.fault j1.F (fun c=>T0 fun hc=>h3 hc c);rw[←h1,←h2]at this;exact this
   have hKp1:Kp j j1:=⟨by rw[h1],by rw[h1],by rw[h1],by rw[h1],h2,h3⟩;rw[a6Y,jE,Q9,d6];by_cases cb:j1.F.Code=0
   ·obtain⟨t,s1,k1,k2,k3,k4,k5⟩:=a5S hM hl htx (c0+1) y q2 hy hys (by omega) j1 nr B hR1 (by omega);have hbig:=k2.big;unfold tot at hbig;have hmk:=k2.marks;rw[f9 cb,x4,i5];simp only;rw[g,d6,z8 (by omega),ek,k1,d6,d6,LZ];simp only;rw[Bv s1 (by omega) c0 (by omega),d6,d6,ha,l7 hxl,d6];have hz:s1.P.Id.length+ [(Q1.mk l[c0].Gs t)].length≤100000000000:=(by rw[y4];omega);have tT:0≤t∧t<s1.P.To.length:=by
     have:=k2.ty.len;rcases k4 with rfl|k4
     ·omega
     ·have:=k4.1;have:=k4.2.1;omega
    have hR2:=k2.mark c0 (l4.mk t 0 0) tT.1 tT.2;simp only;rw[show(x9 s1 c0 (l4.mk t 0 0)).P.Id=s1.P.Id from rfl,U5 (by decide) hz,d6,b4M,cY,z8 (by omega)];simp only;have hyk:y.Ks≠14:=(by omega);generalize hs2:(⟨⟨(x9 s1 c0 (l4.mk t 0 0)).P.No,(x9 s1 c0 (l4.mk t 0 0)).P.Ms,(x9 s1 c0 (l4.mk t 0 0)).P.To,(x9 s1 c0 (l4.mk t 0 0)).P.Rs,s1.P.Id++[(Q1.mk l[c0].Gs t)],(x9 s1 c0 (l4.mk t 0 0)).P.As,(x9 s1 c0 (l4.mk t 0 0)).P.Ss,(x9 s1 c0 (l4.mk t 0 0)).P.Vars,(x9 s1 c0 (l4.mk t 0 0)).P.Es⟩,(x9 s1 c0 (l4.mk t 0 0)).Rs,(x9 s1 c0 (l4.mk t 0 0)).F⟩:d9)=s2;have hF:s2.F=s1.F:=(by rw[←hs2];rfl);have hfl:s2.P.Id=s1.P.Id++[(Q1.mk l[c0].Gs t)]:=(by rw[←hs2]);have hKp2:Kp s1 s2:=(by rw[←hs2];exact⟨rfl,rfl,rfl,rfl,rfl,id⟩);have hrc:s2.P.Rs=j.P.Rs:=(by rw[←hs2];exact k3.recs.trans (by rw[h1]));have hlenf:s2.P.Id.length=j.P.Id.length+1:=(by rw[hfl,o5,y4,k3.fields,h1]);have hR3:RI l nr (B+(q2-(c0+1))+1) s2:=by
     rw[←hs2];refine⟨hR2.nodes,hR2.marks,?_,hR2.ty,hR2.mt,fun cg f hf=>?_,fun r hr=>?_,hR2.fn,hR2.sl⟩
     ·have:=hR2.big;unfold tot at this⊢;simp only[o5,y4];have e:(x9 s1 c0 (l4.mk t 0 0)).P.Id=s1.P.Id:=rfl;rw[e]at this;omega
     ·rcases z0.1 hf with hf|hf
      ·exact hR2.fl cg f hf
      ·rw[I2.1 hf];rcases k5 cg with⟨h,_⟩|⟨_,h⟩
       ·exact absurd h hyk
       ·exact h
     ·have:=hR2.rc r hr;have e:(x9 s1 c0 (l4.mk t 0 0)).P.Id=s1.P.Id:=rfl;rw[e]at this;exact⟨this.1,this.2.1,by simp only[o5,y4];omega⟩
    rcases ih (h+1) st' s2 (B+(q2-(c0+1))+1) (by omega) (by omega) hrest hR3 (by omega)with⟨j',m1,m2,m3,m4⟩|⟨j',m1,m2,m3,m4,m5⟩
    ·exact .inl ⟨j',m1,m2.more (by omega),(hKp1.trans k3.kp).trans (hKp2.trans m3),m4⟩
    ·exact .inr ⟨j',m1,m2.more (by omega),(hKp1.trans k3.kp).trans (hKp2.trans m3),by omega,m5.trans hrc⟩
   ·rw[d8 cb];exact .inl ⟨j1,rfl,hR1.more (by omega),hKp1,cb⟩
  have j9:∀j1:d9,j1.P=j.P→j1.Rs=j.Rs→(j.F.Code≠0→j1.F.Code≠0)→
    (∃j',Wt d5 a b ci ((l5 ks,()),()) e0 (h:Int) ci j1=some ((j',()),())∧RI l nr (B+(st-c0)) j'∧Kp j j'∧j'.F.Code≠0)∨
    ∃j',Wt d5 a b ci ((l5 ks,()),()) e0 (h:Int) ci j1=Wj d5 a b ci ((l5 ks,()),()) e0 ci j'∧RI l nr (B+(st-c0)) j'∧Kp j j'∧j'.P.Id.length=j.P.Id.length+(n+1)∧j'.P.Rs=j.P.Rs:=by
   intro j1 h1 h2 h3;have hall:∀p∈ks.take h,p<l.length:=by
    intro p hp';have:=hks p (List.mem_of_mem_take hp');unfold kd at this;split at this
    ·rename_i y' hy';exact(l9.1 hy').1
    ·omega
   obtain⟨b',hb1⟩:=nA (l:=l) (ks.take h) hall (by rw[List.length_take];omega) l[ks[h]].Gs;rw[b0Z,iK];simp only[A9];rw[W5 (show B9 (0:Int) (h:Int) (ks.length:Int)from⟨by omega,by omega,by omega⟩),d6,g,d6,ha,l7 hp,d6,wH,hb1,d6];cases b' with
   |false=>exact j8 j1 h1 h2 h3
   |true=>obtain⟨f,f1,f2⟩:=Z0 j1 7 (by decide) ks[h] (by rw[h1,hnd];exact hp);rw[i7,d6,AP,f1,d6];exact j8 ⟨j1.P,j1.Rs,f⟩ h1 h2 (fun _=>f2)
  rw[RD,Vv];simp only[A9];rw[f9 (by omega),i7];by_cases c100:(h:Int)≥100
  ·obtain⟨f,f1,f2⟩:=Z0 j 13 (by decide) ks[h] (by rw[hnd];exact hp);rw[f9 c100,i7,g,d6,AP,f1,d6];exact j9 ⟨j.P,j.Rs,f⟩ rfl rfl (fun _=>f2)
  ·rw[d8 c100,i5];exact j9 j rfl rfl id
end
end
section
theorem a2I{k:Int}(h:F4 k=102):k=3:=by
 unfold F4 sk2 sk1 sk0 at h
 repeat' split at h
 all_goals omega
theorem a7S{k:Int}(h:F4 k=112):k=5:=by
 unfold F4 sk2 sk1 sk0 at h
 repeat' split at h
 all_goals omega
theorem Mf{k:Int}(h:F4 k=98):k=6:=by
 unfold F4 sk2 sk1 sk0 at h
 repeat' split at h
 all_goals omega
theorem a8h{k:Int}(h:F4 k=48):k=14:=by
 unfold F4 sk2 sk1 sk0 at h
 repeat' split at h
 all_goals omega
theorem D7{k:Int}(h:F4 k=101):21≤k∧k≤32:=by
 unfold F4 sk2 sk1 sk0 at h
 repeat' split at h
 all_goals omega
theorem mR{k:Int}(h:F4 k=115):7≤k∧k≤13:=by
 unfold F4 sk2 sk1 sk0 at h
 repeat' split at h
 all_goals omega
theorem Mt{l:List d7}{ks:List Nat}{c:Int}(h:∀s∈E9 l ks,s=c):∀p∈ks,F4 (kd l p)=c:=fun p hp=>h _ (List.mem_map.2 ⟨p,hp,rfl⟩)
section
variable{l:List d7}(hM:J6 l)(hl:l.length≤30000)(htx:∀n∈l,n.Gs.length≤65536)
include hM hl htx
theorem a5g(a:d9)(ha:a.P.No=l)(ts:List Nat)(hts:∀p∈ts,∃x,l[p]? =some x∧x.Ks=2)(htl:ts.length≤l.length)(nr:Nat):∀(n c:Nat) (d:d9) (B:Nat),ts.length-c=n→c≤ts.length→RI l nr B d→d.P.Rs.length=c→B+(l.length+1)*n≤80000000000→∃d',jG d5 a ((l5 ts,()),()) (c:Int) d=some ((d',()),())∧RI l nr (B+(l.length+1)*n) d'∧Kp d d'∧(d'.F.Code=0→d'.P.Rs.length=ts.length):=by
 intro n
 induction n with
 |zero=>intro c d B hn hc hR hrc hB;rw[QN,Ye];simp only[A9];rw[d8 (by omega),i5,a1P,oC];exact⟨d,rfl,hR.more (by omega),Kp.refl _,fun _=>by omega⟩
 |succ n ih=>
  intro c d B hn hc hR hrc hB;have hcl:c<ts.length:=(by omega);have g:=C6 hcl;obtain⟨x,hx,hk⟩:=hts _ (y5 hcl);have hxl:=(l9.1 hx).1;obtain⟨st,ks,t1,t2,t3,t4,t5,t6,t7⟩:=hM.nd _ x hx;have hks3:∀p∈ks,kd l p=3:=fun p hp=>a2I (Mt (t6.k2 hk) p hp);have hkl:=t5.le;have hBn:B+(l.length+1)*n+(l.length+1)≤80000000000:=(by rw[Nat.mul_succ]at hB;omega);rw[QN,Ye];simp only[A9];rw[f9 (by omega),i7,g,d6,ha,T8 (by omega) hx t1 t3 t5,d6];have hS:=b1X hM hl htx a ha ((l5 ts,()),()) (c:Int) ks (by omega) hks3 (d.P.Id.length:Int) nr st t3 _ 0 (ts[c]+1) d B rfl (C8 _) (by rw[L9];exact t5) hR (by omega);rcases hS with⟨j',m1,m2,m3,m4⟩|⟨j',m1,m2,m3,m4,m5⟩
  ·exact⟨j',m1,m2.more (by rw[Nat.mul_succ];omega),m3,fun h=>absurd h m4⟩
  ·have hbig:=m2.big;unfold tot at hbig;have hz:j'.P.Rs.length+ [(N1.mk l[ts[c]].Gs (d.P.Id.length:Int) ((l5 ks).length:Int))].length≤100000000000:=(by rw[y4];omega);rw[show Nh d5 a ((l5 ts,()),()) (c:Int) ((ks.map (fun(k:Nat)=>(k:Int)),()),()) (d.P.Id.length:Int) (c:Int) 0 d=_ from m1,a99,qN];simp only;rw[g,d6,ha,l7 hxl,d6,U5 (by decide) hz,d6,a39,sU,z8 (by omega)];generalize hs2:(⟨⟨j'.P.No,j'.P.Ms,j'.P.To,j'.P.Rs++[(N1.mk l[ts[c]].Gs (d.P.Id.length:Int) ((l5 ks).length:Int))],j'.P.Id,j'.P.As,j'.P.Ss,j'.P.Vars,j'.P.Es⟩,j'.Rs,j'.F⟩:d9)=s2;have hR2:RI l nr (B+(st-(ts[c]+1))+1) s2:=by
    rw[←hs2];refine⟨m2.nodes,m2.marks,?_,m2.ty,m2.mt,m2.fl,fun r hr=>?_,m2.fn,m2.sl⟩
    ·have:=m2.big;unfold tot at this⊢;simp only[o5,y4];omega
    ·rcases z0.1 hr with hr|hr
     ·exact m2.rc r hr
     ·rw[I2.1 hr,A9];simp only;omega
   have hK2:Kp j' s2:=(by rw[←hs2];exact⟨rfl,rfl,rfl,rfl,rfl,id⟩);obtain⟨d',r1,r2,r3,r4⟩:=ih (c+1) s2 _ (by omega) (by omega) hR2 (by rw[←hs2];simp only[o5,y4];rw[m5];omega) (by omega);exact⟨d',r1,r2.more (by rw[Nat.mul_succ];omega),(m3.trans hK2).trans r3,r4⟩
structure XM(l:List d7)(nr:Nat)(s:d9):Prop where
 ri:RI l nr (20*(l.length+10)*(l.length+10)) s
 fns:s.P.As=[]
 slots:s.P.Ss=[]
 vars:s.P.Vars=[]
 points:s.P.Es=[]
 recs:s.F.Code=0→s.P.Rs.length=nr
theorem a2m(M:List l4)(hMl:M.length=l.length)(hMt:∀m∈M,m.Ts=0):∃s' nr,DE d5 ⟨⟨l,M,[],[],[],[],[],[],[]⟩,[],⟨0,0,0⟩⟩=some ((s',()),())∧XM l nr s'∧nr≤100:=by
 obtain⟨ts,h1,h2,h3,_⟩:=KT hM hl 2;have hts:∀p∈ts,p<l.length:=fun p hp=>by obtain⟨x,hx,_⟩:=h3 p hp;exact(l9.1 hx).1
 obtain⟨d',M',g1,g2,g3,g4,g5,g6⟩:=a14 hM hl htx ⟨⟨l,M,[],[],[],[],[],[],[]⟩,[],⟨0,0,0⟩⟩ rfl ts hts h2 _ 0 ⟨⟨l,M,[],[],[],[],[],[],[]⟩,[],⟨0,0,0⟩⟩ M rfl (C8 _) rfl hMl hMt rfl (fun h=>absurd h (by omega));obtain⟨T,b1,b2,b3⟩:=a8O ts.length (by omega);rw[a1S,jC];simp only;rw[h1,d6,show Sv d5 _ ((l5 ts,()),()) 0 _=_ from g1,b0b,lU];simp only[A9];rw[b1,d6,g2];have hR:RI l (min ts.length 100) (106+ts.length) ⟨⟨l,M',T,[],[],[],[],[],[]⟩,d'.Rs,d'.F⟩:=by
  refine⟨rfl,g3,?_,b2,fun m hm=>?_,fun _ f hf=>(nomatch hf),fun r hr=>(nomatch hr),fun f hf=>(nomatch hf),fun _ t ht=>(nomatch ht)⟩
  ·unfold tot;simp only[I0];omega
  ·have:=g4 m hm;simp only;omega
 have hsq:(l.length+1)*ts.length≤(l.length+1)*l.length:=Nat.mul_le_mul_left _ h2;have hsq2:(l.length+1)*l.length≤30001*30000:=Nat.mul_le_mul (by omega) hl;obtain⟨s',r1,r2,r3,r4⟩:=a5g hM hl htx ⟨⟨l,M,[],[],[],[],[],[],[]⟩,[],⟨0,0,0⟩⟩ rfl ts h3 h2 (min ts.length 100) _ 0 ⟨⟨l,M',T,[],[],[],[],[],[]⟩,d'.Rs,d'.F⟩ _ rfl (C8 _) hR rfl (by simp only[Nat.sub_zero];omega);refine⟨s',min ts.length 100,r1,⟨r2.more ?_,r3.fns,r3.slots,r3.vars,r3.points,fun hg=>?_⟩,by omega⟩
 ·have e:20*(l.length+10)*(l.length+10)=20*((l.length+10)*(l.length+10)):=Nat.mul_assoc _ _ _;have e2:(l.length+10)*(l.length+10)=(l.length+1)*l.length+(19*l.length+100):=by have:(l.length+10)=(l.length+1)+9:=(by omega);rw[Nat.add_mul,Nat.mul_add];have:10*(l.length+10)=10*l.length+100:=(by omega);rw[this,Nat.add_mul,Nat.one_mul];omega
  simp only[Nat.sub_zero];rw[e,e2];omega
 ·have:=r4 hg;by_cases c:100<ts.length
  ·exact absurd hg (r3.bad (g6 c))
  ·omega
end
end
section
theorem Kc.det{l:List d7}{i j:Nat}{a:List Nat}(h:Kc l i j a):∀{b:List Nat},Kc l i j b→a=b:=by
 induction h with
 |nil i=>
  intro b hb;cases b with
  |nil=>rfl
  |cons k b=>
   obtain⟨_,x,q,_,_,h1,h2,_⟩:=hb.first
   omega
 |cons i k j x ks hx hs hk kids rest ih=>
  intro b hb;have hkj:=rest.le;cases b with
  |nil=>cases hb;omega
  |cons k' b=>
   obtain⟨rfl,y,q,hy,hys,h1,h2,hr⟩:=hb.first
   rw[hx]at hy;cases hy;have:q=k:=(by omega);subst this;rw[ih hr]
def G7(s:d9)(p:Nat):Prop:=∃m,s.P.Ms[p]? =some m∧C7 s.P.To m.Ts
def PmF(l:List d7)(s:d9)(f:t9):Prop:=∀(k st:Nat) (x:d7) (ks:List Nat),f.Hs=(k:Int)→l[k]? =some x→x.Cs=(st:Int)-(k+1)→Kc l (k+1) st ks→∀p∈ks,kd l p=5→G7 s p
theorem G7.ex{l:List d7}{s s':d9}{lo hi p:Nat}(h:G7 s p)(hp:kd l p=5)(e:Ex l s s' lo hi):G7 s' p:=by obtain⟨m,h1,h2⟩:=h;exact⟨m,by rw[e.par p hp];exact h1,h2.ext e.types⟩
theorem G7.mark{s:d9}{p:Nat}(h:G7 s p)(i:Nat)(m:l4)(hm:i=p→C7 s.P.To m.Ts):G7 (x9 s i m) p:=by
 obtain⟨m0,h1,h2⟩:=h;by_cases e:i=p
 ·subst e;have hl:=(l9.1 h1).1;exact⟨m,by unfold x9;simp only;rw[Q2 hl],hm rfl⟩
 ·exact⟨m0,by unfold x9;simp only;rw[Z1 e];exact h1,h2⟩
theorem G7.self{s:d9}{p:Nat}(hp:p<s.P.Ms.length)(m:l4)(hm:C7 s.P.To m.Ts):G7 (x9 s p m) p:=
 ⟨m,by unfold x9;simp only;rw[Q2 hp],hm⟩
structure Kh(s s':d9):Prop where
 slots:s'.P.Ss=s.P.Ss
 vars:s'.P.Vars=s.P.Vars
 points:s'.P.Es=s.P.Es
 recs:s'.P.Rs=s.P.Rs
 own:s'.Rs=s.Rs
 bad:s.F.Code≠0→s'.F.Code≠0
theorem Kh.refl(s:d9):Kh s s:=⟨rfl,rfl,rfl,rfl,rfl,id⟩
theorem Kh.trans{s s' s'':d9}(h:Kh s s')(h':Kh s' s''):Kh s s'':=⟨h'.slots.trans h.slots,h'.vars.trans h.vars,h'.points.trans h.points,h'.recs.trans h.recs,h'.own.trans h.own,fun hb=>h'.bad (h.bad hb)⟩
theorem Ex.kh{l:List d7}{s s':d9}{lo hi:Nat}(h:Ex l s s' lo hi):Kh s s':=⟨h.slots,h.vars,h.points,h.recs,h.own,h.bad⟩
theorem Kh.mark(s:d9)(i:Nat)(m:l4):Kh s (x9 s i m):=⟨rfl,rfl,rfl,rfl,rfl,id⟩
theorem Qa{l:List d7}{x:d7}{k:Nat}{ks:List Nat}(h:Fam x.Ks x.Ns k (E9 l ks) (fkd l ks))(hk:x.Ks=4):∃n:Nat,ks.length=n+2∧x.Ns=(n:Int)∧(∀(i:Nat) (h1:i<ks.length),i<n→kd l ks[i]=5)∧(∀h1:n<ks.length,14≤kd l ks[n]∧kd l ks[n]≤20)∧∀h1:n+1<ks.length,kd l ks[n+1]=6:=by
 obtain⟨P,t,e1,e2,e3,e4⟩:=h.k4 hk;obtain⟨f1,f2⟩:=B7 e1;rw[o5]at f1;refine⟨P.length,f1,e2,fun i h1 h2=>?_,fun h1=>?_,fun h1=>?_⟩
 ·have:=f2 i h1 (by rw[o5];omega);rw[List.getElem_append_left h2]at this;exact a7S (this.trans (e3 _ (y5 h2)))
 ·have:=f2 P.length h1 (by rw[o5];simp);rw[List.getElem_append_right (i8 _)]at this;simp only[Rf,H1]at this;rcases e4 with rfl|rfl
  ·have:=X2 this;omega
  ·have:=a8h this;omega
 ·have:=f2 (P.length+1) h1 (by rw[o5];simp);rw[List.getElem_append_right (by omega)]at this;have e:P.length+1-P.length=1:=(by omega);simp only[e,Z2,H1]at this;exact Mf this
section
variable{l:List d7}(hM:J6 l)(hl:l.length≤30000)(htx:∀n∈l,n.Gs.length≤65536)
include hM hl htx
theorem a1w(a:d9)(ha:a.P.No=l)(b:RT3)(ci:Int)(at':Int)(ks:List Nat)(np:Nat)(hkl:ks.length=np+2)(hkl2:ks.length≤l.length)(hks:∀(i:Nat) (h1:i<ks.length),i<np→kd l ks[i]=5)(nr st:Nat)(hst:st≤l.length):∀(n h c0:Nat) (j:d9) (B:Nat),np-h=n→h≤np→Kc l c0 st (ks.drop h)→RI l nr B j→(j.F.Code=0→∀f∈j.P.As,PmF l j f)→(j.F.Code=0→∀p∈ks.take h,G7 j p)→(j.F.Code=0→h≤20)→B+(st-c0)≤80000000000→(∃j',Pt d5 a b ci at' ((l5 ks,()),()) (h:Int) ci j=some ((j',()),())∧RI l nr (B+(st-c0)) j'∧Kh j j'∧j'.P.As=j.P.As∧j'.F.Code≠0)∨∃j' c1 B',Pt d5 a b ci at' ((l5 ks,()),()) (h:Int) ci j=Jk d5 a b ci at' ((l5 ks,()),()) ci j'∧Kc l c1 st (ks.drop np)∧c0≤c1∧B'=B+(c1-c0)∧RI l nr B' j'∧Kh j j'∧j'.P.As=j.P.As∧(j'.F.Code=0→∀f∈j'.P.As,PmF l j' f)∧(j'.F.Code=0→∀p∈ks.take np,G7 j' p)∧(j'.F.Code=0→np≤20):=by
 intro n;have ew:w64 (((l5 ks).length:Int)-2)=(np:Int):=by rw[A9,wrap64 (by omega) (by omega)];omega
 induction n with
 |zero=>intro h c0 j B hn hh hK hR hP hG h20 hB;have:h=np:=(by omega);subst this;rw[SP,Tg];simp only;rw[ew,d8 (by omega),i5];exact .inr ⟨j,c0,B,rfl,hK,i8 _,by omega,hR,Kh.refl _,rfl,hP,hG,h20⟩
 |succ n ih=>
  intro h c0 j B hn hh hK hR hP hG h20 hB;have hhl:h<ks.length:=(by omega);have g:=C6 hhl;rw[H5 hhl]at hK;obtain⟨ek,x,q,hx,hxs,hq1,hq2,hrest⟩:=hK.first
  have hk5:=hks h hhl (by omega);have hxl:=(l9.1 hx).1;have hp:ks[h]<l.length:=(by rw[ek];exact hxl);have hx5:x.Ks=5:=(by rw[←u0 hx,←ek];exact hk5);have hnd:=hR.nodes;obtain⟨st',kk,t1,t2,t3,t4,t5,t6,t7⟩:=hM.nd c0 x hx;have est:st'=q:=(by omega);subst est;obtain⟨e1,e2⟩:=B7 (t6.k3 (.inr (.inl hx5)));obtain⟨k0,kk',rfl⟩:∃k kk',kk=k::kk':=by
   cases kk with
   |nil=>simp at e1
   |cons k kk=>exact⟨k,kk,rfl⟩
  have hk1:=X2 (e2 0 (by simp) (by simp));obtain⟨rfl,y,q2,hy,hys,hy1,hy2,_⟩:=t5.first
  rw[H1,u0 hy]at hk1;have j4:∀j1:d9,j1.P=j.P→j1.Rs=j.Rs→(j.F.Code≠0→j1.F.Code≠0)→(20≤h→j1.F.Code≠0)→
    (∃j',Zb d5 a b ci at' ((l5 ks,()),()) (h:Int) ci j1=some ((j',()),())∧RI l nr (B+(st-c0)) j'∧Kh j j'∧j'.P.As=j.P.As∧j'.F.Code≠0)∨
    ∃j' c1 B',Zb d5 a b ci at' ((l5 ks,()),()) (h:Int) ci j1=Jk d5 a b ci at' ((l5 ks,()),()) ci j'∧Kc l c1 st (ks.drop np)∧c0≤c1∧B'=B+(c1-c0)∧RI l nr B' j'∧Kh j j'∧j'.P.As=j.P.As∧(j'.F.Code=0→∀f∈j'.P.As,PmF l j' f)∧(j'.F.Code=0→∀p∈ks.take np,G7 j' p)∧(j'.F.Code=0→np≤20):=by
   intro j1 h1 h2 h3 h4;have hg1:j1.F.Code=0→j.F.Code=0:=fun c=>T0 fun hc=>h3 hc c;have hR1:RI l nr B j1:=by have:=hR.fault j1.F hg1;rw[←h1,←h2]at this;exact this
   have hK1:Kh j j1:=⟨by rw[h1],by rw[h1],by rw[h1],by rw[h1],h2,h3⟩;have hgp:∀p,G7 j p→G7 j1 p:=fun p h=>by unfold G7 at h⊢;rw[h1];exact h
   rw[a4k,uA,Q9,d6];by_cases cb:j1.F.Code=0
   ·obtain⟨t,s1,k1,k2,k3,k4,k5⟩:=PD hM hl htx (c0+1) y q2 hy hys (by omega) j1 nr B hR1 (by omega);have hmk:=k2.marks;rw[f9 cb,x4,i5];simp only;rw[g,d6,z8 (by omega),ek,k1,d6,d6,JK];simp only;rw[Bv s1 (by omega) c0 (by omega),d6,a2X,iR,z8 (by omega)];simp only;have tT:0≤t∧t<s1.P.To.length:=by
     have:=k2.ty.len;rcases k4 with rfl|k4
     ·omega
     ·have:=k4.1;have:=k4.2.1;omega
    have hR2:=(k2.mark c0 (l4.mk t 0 0) tT.1 tT.2).more (show B+(q2-(c0+1))≤B+(st'-c0) by omega);have hyk:y.Ks≠14:=(by omega);have tI:s1.F.Code=0→C7 s1.P.To t:=fun cg=>by
     rcases k5 cg with⟨h,_⟩|⟨_,h⟩
     ·exact absurd h hyk
     ·exact h
    have hgood:∀p,kd l p=5→s1.F.Code=0→G7 j p→G7 (x9 s1 c0 (l4.mk t 0 0)) p:=fun p hp5 cg hgp0=>((hgp p hgp0).ex hp5 k3).mark c0 _ (fun _=>tI cg);have hbg:s1.F.Code=0→j.F.Code=0:=fun c=>hg1 cb;rcases ih (h+1) st' (x9 s1 c0 (l4.mk t 0 0)) (B+(st'-c0)) (by omega) (by omega) hrest hR2 (fun cg f hf=>by
      have hf':f∈j.P.As:=by have:(x9 s1 c0 (l4.mk t 0 0)).P.As=j.P.As:=k3.fns.trans (by rw[h1]);rw[←this];exact hf
      intro k0 st0 x0 ks0 a1 a2 a3 a4 p hp' hp5;exact hgood p hp5 cg (hP (hbg cg) f hf' k0 st0 x0 ks0 a1 a2 a3 a4 p hp' hp5)) (fun cg p hp'=>by
      rw[List.take_add_one,p8 hhl]at hp';rcases z0.1 hp' with hp'|hp'
      ·have hi:∃i,∃(hi:i<ks.length),i<np∧ks[i]=p:=by obtain⟨i,hi,rfl⟩:=List.getElem_of_mem hp';rw[List.length_take]at hi;exact⟨i,by omega,by omega,by rw[List.getElem_take]⟩
       obtain⟨i,hi1,hi2,rfl⟩:=hi;exact hgood _ (hks i hi1 hi2) cg (hG (hbg cg) _ hp')
      ·have:p=c0:=(by simpa[ek]using hp');subst this;exact G7.self (by omega) _ (tI cg)) (fun _=>Nat.lt_of_not_le fun hge=>h4 hge cb) (by omega)with⟨j',m1,m2,m3,m4,m5⟩|⟨j',c1,B',m1,m2,m3,m4,m5,m6,m7,m8,m9,m10⟩
    ·exact .inl ⟨j',m1,m2.more (by omega),((hK1.trans k3.kh).trans (Kh.mark _ _ _)).trans m3,m4.trans (k3.fns.trans (by rw[h1])),m5⟩
    ·exact .inr ⟨j',c1,B',m1,m2,by omega,by omega,m5,((hK1.trans k3.kh).trans (Kh.mark _ _ _)).trans m6,m7.trans (k3.fns.trans (by rw[h1])),m8,m9,m10⟩
   ·rw[d8 cb];exact .inl ⟨j1,rfl,hR1.more (by omega),hK1,by rw[h1],cb⟩
  have j5:∀j1:d9,j1.P=j.P→j1.Rs=j.Rs→(j.F.Code≠0→j1.F.Code≠0)→(20≤h→j1.F.Code≠0)→
    (∃j',Wo d5 a b ci at' ((l5 ks,()),()) (h:Int) ci j1=some ((j',()),())∧RI l nr (B+(st-c0)) j'∧Kh j j'∧j'.P.As=j.P.As∧j'.F.Code≠0)∨
    ∃j' c1 B',Wo d5 a b ci at' ((l5 ks,()),()) (h:Int) ci j1=Jk d5 a b ci at' ((l5 ks,()),()) ci j'∧Kc l c1 st (ks.drop np)∧c0≤c1∧B'=B+(c1-c0)∧RI l nr B' j'∧Kh j j'∧j'.P.As=j.P.As∧(j'.F.Code=0→∀f∈j'.P.As,PmF l j' f)∧(j'.F.Code=0→∀p∈ks.take np,G7 j' p)∧(j'.F.Code=0→np≤20):=by
   intro j1 h1 h2 h3 h4;have hall:∀p∈ks.take h,p<l.length:=by
    intro p hp';obtain⟨i,hi,rfl⟩:=List.getElem_of_mem hp';rw[List.length_take]at hi;rw[List.getElem_take];have:=hks i (by omega) (by omega);unfold kd at this;split at this
    ·rename_i y' hy';exact(l9.1 hy').1
    ·omega
   obtain⟨b',hb1⟩:=nA (l:=l) (ks.take h) hall (by rw[List.length_take];omega) l[ks[h]].Gs;rw[a58,nL];simp only[A9];rw[W5 (show B9 (0:Int) (h:Int) (ks.length:Int)from⟨by omega,by omega,by omega⟩),d6,g,d6,ha,l7 hp,d6,wH,hb1,d6];cases b' with
   |false=>exact j4 j1 h1 h2 h3 h4
   |true=>obtain⟨f,f1,f2⟩:=Z0 j1 7 (by decide) ks[h] (by rw[h1,hnd];exact hp);rw[i7,d6,Mw,f1,d6];exact j4 ⟨j1.P,j1.Rs,f⟩ h1 h2 (fun _=>f2) (fun _=>f2)
  rw[SP,Tg];simp only;rw[ew,f9 (by omega),i7];by_cases c20:(h:Int)≥20
  ·obtain⟨f,f1,f2⟩:=Z0 j 13 (by decide) ks[h] (by rw[hnd];exact hp);rw[f9 c20,i7,g,d6,Mw,f1,d6];exact j5 ⟨j.P,j.Rs,f⟩ rfl rfl (fun _=>f2) (fun _=>f2)
  ·rw[d8 c20,i5];exact j5 j rfl rfl id (fun h=>absurd h (by omega))
end
end
section
theorem a89{ts:List Nat}{c:Nat}(h:c<ts.length):l5 (ts.take c)++[((ts[c]:Nat):Int)]=l5 (ts.take (c+1)):=by unfold l5;rw[List.take_add_one,p8 h,F9];rfl
section
variable{l:List d7}(hM:J6 l)(hl:l.length≤30000)(htx:∀n∈l,n.Gs.length≤65536)
include hM hl htx
theorem a8H(a:d9)(ha:a.P.No=l)(b:RT3)(ci:Nat)(q0:Nat)(x:d7)(hx:l[q0]? =some x)(hx4:x.Ks=4)(st:Nat)(hxs:x.Cs=(st:Int)-(q0+1))(hst:st≤l.length)(ks:List Nat)(hks:Kc l (q0+1) st ks)(hf:Fam x.Ks x.Ns q0 (E9 l ks) (fkd l ks))(np:Nat)(hkl:ks.length=np+2)(nr c1:Nat)(j:d9)(B:Nat)(hq1:q0+1≤c1)(hK:Kc l c1 st (ks.drop np))(hR:RI l nr B j)(hP:j.F.Code=0→∀f∈j.P.As,PmF l j f)(hG:j.F.Code=0→∀p∈ks.take np,G7 j p)(h20:j.F.Code=0→np≤20)(hZ:∀f∈j.P.As,f.At=0∧f.Ss=0∧f.Ps≤20)(hB:B+(st-c1)+1≤80000000000):(∃j',Jk d5 a b (ci:Int) (q0:Int) ((l5 ks,()),()) (ci:Int) j=some ((j',()),())∧RI l nr (B+(st-c1)+1) j'∧Kh j j'∧(∀f∈j'.P.As,f.At=0∧f.Ss=0∧f.Ps≤20)∧j'.F.Code≠0)∨∃j',Jk d5 a b (ci:Int) (q0:Int) ((l5 ks,()),()) (ci:Int) j=Te d5 a b (w64 ((ci:Int)+1)) j'∧RI l nr (B+(st-c1)+1) j'∧Kh j j'∧(∀f∈j'.P.As,f.At=0∧f.Ss=0∧f.Ps≤20)∧(j'.F.Code=0→∀f∈j'.P.As,PmF l j' f)∧j'.P.As.map t9.Hs=j.P.As.map t9.Hs++[(q0:Int)]:=by
 have hkle:=hks.le;have ew:w64 (((l5 ks).length:Int)-2)=(np:Int):=(by rw[A9,wrap64 (by omega) (by omega)];omega);obtain⟨n',n1,n2,n3,n4,n5⟩:=Qa hf hx4;have:n'=np:=(by omega);subst this;have hnl:n'<ks.length:=(by omega);have g:=C6 hnl;rw[H5 hnl]at hK;obtain⟨ek,y,q,hy,hys,hy1,hy2,hrest⟩:=hK.first
 have hyk:=n4 hnl;rw[ek,u0 hy]at hyk;have hql:=(l9.1 hx).1;have hyl:=(l9.1 hy).1;rw[b2B,dZ,Q9,d6];by_cases cb:j.F.Code=0
 ·obtain⟨t,s1,k1,k2,k3,k4,k5⟩:=PD hM hl htx c1 y q hy hys (by omega) j nr B hR (by omega);have hmk:=k2.marks;have hbig:=k2.big;unfold tot at hbig;rw[f9 cb,x4,i5];simp only;rw[ew,g,d6,ek,k1,d6,JK];simp only;rw[Bv s1 (by omega) q0 (by omega),d6,ha,l7 hql,d6];have hz:s1.P.As.length+ [(t9.mk l[q0].Gs (q0:Int) (n':Int) t 0 0 0 0)].length≤100000000000:=(by rw[y4];omega);simp only;rw[show(x9 s1 q0 (l4.mk t (ci:Int) 0)).P.As=s1.P.As from rfl,U5 (by decide) hz,d6,b0W,uC];simp only;have tT:0≤t∧t<s1.P.To.length:=by
   have:=k2.ty.len;rcases k4 with rfl|k4
   ·omega
   ·have:=k4.1;have:=k4.2.1;omega
  have hR2:=k2.mark q0 (l4.mk t (ci:Int) 0) tT.1 tT.2;refine .inr ⟨_,rfl,?_,?_,?_,?_,by simp only[F9,k3.fns];rfl⟩
  ·refine RI.more (B:=B+(q-c1)+1) ⟨hR2.nodes,hR2.marks,?_,hR2.ty,hR2.mt,hR2.fl,hR2.rc,fun f hf'=>?_,hR2.sl⟩ (by omega)
   ·have:=hR2.big;unfold tot at this⊢;simp only[o5,y4];have e:(x9 s1 q0 (l4.mk t (ci:Int) 0)).P.As=s1.P.As:=rfl;rw[e]at this;omega
   ·rcases z0.1 hf' with hf'|hf'
    ·exact hR2.fn f hf'
    ·rw[I2.1 hf'];exact⟨q0,x,rfl,hx,hx4,n2.symm,k4⟩
  ·exact⟨k3.slots,k3.vars,k3.points,k3.recs,k3.own,k3.bad⟩
  ·intro f hf';rcases z0.1 hf' with hf'|hf'
   ·rw[k3.fns]at hf';exact hZ f hf'
   ·rw[I2.1 hf'];exact⟨rfl,rfl,by have:=h20 cb;simp only;omega⟩
  ·intro cg f hf';have mk:∀p,kd l p=5→G7 j p→G7 (x9 s1 q0 (l4.mk t (ci:Int) 0)) p:=fun p hp hg=>(hg.ex hp k3).mark q0 _ (fun e=>by
    subst e;rw[u0 hx]at hp;omega)
   have up:∀p,G7 (x9 s1 q0 (l4.mk t (ci:Int) 0)) p→G7 (⟨⟨(x9 s1 q0 (l4.mk t (ci:Int) 0)).P.No,(x9 s1 q0 (l4.mk t (ci:Int) 0)).P.Ms,(x9 s1 q0 (l4.mk t (ci:Int) 0)).P.To,(x9 s1 q0 (l4.mk t (ci:Int) 0)).P.Rs,(x9 s1 q0 (l4.mk t (ci:Int) 0)).P.Id,s1.P.As++[(t9.mk l[q0].Gs (q0:Int) (n':Int) t 0 0 0 0)],(x9 s1 q0 (l4.mk t (ci:Int) 0)).P.Ss,(x9 s1 q0 (l4.mk t (ci:Int) 0)).P.Vars,(x9 s1 q0 (l4.mk t (ci:Int) 0)).P.Es⟩,(x9 s1 q0 (l4.mk t (ci:Int) 0)).Rs,(x9 s1 q0 (l4.mk t (ci:Int) 0)).F⟩:d9) p:=fun p h=>h;rcases z0.1 hf' with hf'|hf'
   ·rw[k3.fns]at hf';intro k0 st0 x0 ks0 a1 a2 a3 a4 p hp' hp5;exact up p (mk p hp5 (hP cb f hf' k0 st0 x0 ks0 a1 a2 a3 a4 p hp' hp5))
   ·rw[I2.1 hf'];intro k0 st0 x0 ks0 a1 a2 a3 a4 p hp' hp5;have ek0:q0=k0:=(by simp only at a1;omega);subst ek0;rw[hx]at a2;cases a2;have est:st0=st:=(by omega);subst est;have:=hks.det a4;subst this;refine up p (mk p hp5 (hG cb p ?_));obtain⟨i,hi,rfl⟩:=List.getElem_of_mem hp';have hin:i<n':=by
     refine Nat.lt_of_not_le fun hge=>?_;by_cases e1:i=n'
     ·subst e1;have:=n4 hi;omega
     ·have e2:i=n'+1:=(by omega);subst e2;have:=n5 hi;omega
    exact List.mem_take_iff_getElem.2 ⟨i,by omega,rfl⟩
 ·rw[d8 cb];exact .inl ⟨j,rfl,hR.more (by omega),Kh.refl _,hZ,cb⟩
set_option maxHeartbeats 2000000 in
theorem a2i(a:d9)(ha:a.P.No=l)(ts:List Nat)(hts:∀p∈ts,∃x,l[p]? =some x∧x.Ks=4)(htl:ts.length≤l.length)(nr:Nat):∀(n c:Nat) (d:d9) (B:Nat),ts.length-c=n→c≤ts.length→RI l nr B d→(d.F.Code=0→∀f∈d.P.As,PmF l d f)→(∀f∈d.P.As,f.At=0∧f.Ss=0∧f.Ps≤20)→d.P.As.map t9.Hs=l5 (ts.take c)→(100<c→d.F.Code≠0)→B+(l.length+1)*n≤80000000000→∃d',Te d5 a ((l5 ts,()),()) (c:Int) d=some ((d',()),())∧RI l nr (B+(l.length+1)*n) d'∧Kh d d'∧(∀f∈d'.P.As,f.At=0∧f.Ss=0∧f.Ps≤20)∧(d'.F.Code=0→(∀f∈d'.P.As,PmF l d' f)∧d'.P.As.map t9.Hs=l5 ts∧ts.length≤100):=by
 intro n
 induction n with
 |zero=>intro c d B hn hc hR hP hZ hN h100 hB;rw[OJ,Yy];simp only[A9];rw[d8 (by omega),i5,a6c,cO];exact⟨d,rfl,hR.more (by omega),Kh.refl _,hZ,fun hg=>⟨hP hg,by rw[hN,List.take_of_length_le (by omega)],Nat.le_of_not_lt fun h=>h100 (by omega) hg⟩⟩
 |succ n ih=>
  intro c d B hn hc hR hP hZ hN h100 hB;have hcl:c<ts.length:=(by omega);have g:=C6 hcl;obtain⟨x,hx,hk⟩:=hts _ (y5 hcl);have hxl:=(l9.1 hx).1;have hall:∀p∈ts,p<l.length:=fun p hp=>by obtain⟨x,hx,_⟩:=hts p hp;exact(l9.1 hx).1
  obtain⟨st,ks,t1,t2,t3,t4,t5,t6,t7⟩:=hM.nd _ x hx;have hkl:=t5.le;obtain⟨np,n1,n2,n3,n4,n5⟩:=Qa t6 hk;have hnd:=hR.nodes;have hBn:B+(l.length+1)*n+(l.length+1)≤80000000000:=(by rw[Nat.mul_succ]at hB;omega);have j7:∀d1:d9,d1.P=d.P→d1.Rs=d.Rs→(d.F.Code≠0→d1.F.Code≠0)→(100≤c→d1.F.Code≠0)→
    ∃d',vW d5 a ((l5 ts,()),()) (c:Int) ((ts[c]:Nat):Int) (c:Int) d1=some ((d',()),())∧RI l nr (B+(l.length+1)*(n+1)) d'∧Kh d d'∧(∀f∈d'.P.As,f.At=0∧f.Ss=0∧f.Ps≤20)∧(d'.F.Code=0→(∀f∈d'.P.As,PmF l d' f)∧d'.P.As.map t9.Hs=l5 ts∧ts.length≤100):=by
   intro d1 h1 h2 h3 h4;have hg1:d1.F.Code=0→d.F.Code=0:=fun c=>T0 fun hc=>h3 hc c;have hR1:RI l nr B d1:=by have:=hR.fault d1.F hg1;rw[←h1,←h2]at this;exact this
   have hK1:Kh d d1:=⟨by rw[h1],by rw[h1],by rw[h1],by rw[h1],h2,h3⟩;have hgp:∀p,G7 d p→G7 d1 p:=fun p h=>by unfold G7 at h⊢;rw[h1];exact h
   rw[b4o,gE,ha,T8 (by omega) hx t1 t3 t5,d6];rcases a1w hM hl htx a ha ((l5 ts,()),()) (c:Int) ((ts[c]:Nat):Int) ks np n1 (by omega) n3 nr st t3 _ 0 (ts[c]+1) d1 B rfl (C8 _) (by rw[L9];exact t5) hR1
     (fun cg f hf k0 st0 x0 ks0 a1 a2 a3 a4 p hp' hp5=>hgp p (hP (hg1 cg) f (by rw[←h1];exact hf) k0 st0 x0 ks0 a1 a2 a3 a4 p hp' hp5)) (fun _ p hp=>by rw[List.take_zero]at hp;exact nomatch hp) (fun _=>C8 _) (by omega)with⟨j',m1,m2,m3,m4,m5⟩|⟨j',c1,B',m1,m2,m3,m4,m5,m6,m7,m8,m9,m10⟩
   ·exact⟨j',m1,m2.more (by rw[Nat.mul_succ];omega),hK1.trans m3,fun f hf=>by rw[m4,h1]at hf;exact hZ f hf,fun h=>absurd h m5⟩
   ·have hc1:=m2.le;rw[show Pt d5 a ((l5 ts,()),()) (c:Int) ((ts[c]:Nat):Int) ((ks.map (fun(k:Nat)=>(k:Int)),()),()) 0 (c:Int) d1=_ from m1];rcases a8H hM hl htx a ha ((l5 ts,()),()) c ts[c] x hx hk st t1 t3 ks t5 t6 np n1 nr c1 j' B' m3 m2 m5 m8 m9 m10 (fun f hf=>by rw[m7,h1]at hf;exact hZ f hf) (by omega)with⟨j2,r1,r2,r3,r4,r5⟩|⟨j2,r1,r2,r3,r4,r5,r6⟩
    ·exact⟨j2,r1,r2.more (by rw[Nat.mul_succ];omega),(hK1.trans m6).trans r3,r4,fun h=>absurd h r5⟩
    ·rw[r1,z8 (by omega)];obtain⟨d',z1,z2,z3,z4,z5⟩:=ih (c+1) j2 _ (by omega) (by omega) r2 r5 r4 (by rw[r6,m7,h1,hN,a89 hcl]) (fun h=>r3.bad (m6.bad (h4 (by omega)))) (by omega);exact⟨d',z1,z2.more (by rw[Nat.mul_succ];omega),((hK1.trans m6).trans r3).trans z3,z4,z5⟩
  have j2:∀d1:d9,d1.P=d.P→d1.Rs=d.Rs→(d.F.Code≠0→d1.F.Code≠0)→(100≤c→d1.F.Code≠0)→
    ∃d',pC d5 a ((l5 ts,()),()) (c:Int) ((ts[c]:Nat):Int) (c:Int) d1=some ((d',()),())∧RI l nr (B+(l.length+1)*(n+1)) d'∧Kh d d'∧(∀f∈d'.P.As,f.At=0∧f.Ss=0∧f.Ps≤20)∧(d'.F.Code=0→(∀f∈d'.P.As,PmF l d' f)∧d'.P.As.map t9.Hs=l5 ts∧ts.length≤100):=by
   intro d1 h1 h2 h3 h4;obtain⟨f,f1,f2⟩:=Z0 d1 7 (by decide) ts[c] (by rw[h1,hnd];exact hxl);rw[a1h,fK,Mw,f1,d6];exact j7 ⟨d1.P,d1.Rs,f⟩ h1 h2 (fun _=>f2) (fun _=>f2)
  have j10:∀d1:d9,d1.P=d.P→d1.Rs=d.Rs→(d.F.Code≠0→d1.F.Code≠0)→(100≤c→d1.F.Code≠0)→
    ∃d',jP d5 a ((l5 ts,()),()) (c:Int) ((ts[c]:Nat):Int) d1=some ((d',()),())∧RI l nr (B+(l.length+1)*(n+1)) d'∧Kh d d'∧(∀f∈d'.P.As,f.At=0∧f.Ss=0∧f.Ps≤20)∧(d'.F.Code=0→(∀f∈d'.P.As,PmF l d' f)∧d'.P.As.map t9.Hs=l5 ts∧ts.length≤100):=by
   intro d1 h1 h2 h3 h4;obtain⟨b',hb1⟩:=nA (l:=l) (ts.take c) (fun p hp=>hall p (List.mem_of_mem_take hp)) (by rw[List.length_take];omega) l[ts[c]].Gs;obtain⟨bt,hbt,_⟩:=KU l[ts[c]].Gs;rw[b4j,sR];simp only[A9];rw[W5 (show B9 (0:Int) (c:Int) (ts.length:Int)from⟨by omega,by omega,by omega⟩),d6,ha,l7 hxl,d6,wH,hb1,d6];cases b' with
   |true=>exact j2 d1 h1 h2 h3 h4
   |false=>
    rw[i5,d6,hbt,d6];cases decide (bt>0)with
    |true=>exact j2 d1 h1 h2 h3 h4
    |false=>exact j7 d1 h1 h2 h3 h4
  rw[OJ,Yy];simp only[A9];rw[f9 (by omega),i7,g,d6];by_cases c100:(c:Int)≥100
  ·obtain⟨f,f1,f2⟩:=Z0 d 13 (by decide) ts[c] (by rw[hnd];exact hxl);rw[f9 c100,i7,Mw,f1,d6];exact j10 ⟨d.P,d.Rs,f⟩ rfl rfl (fun _=>f2) (fun _=>f2)
  ·rw[d8 c100,i5];exact j10 d rfl rfl id (fun h=>absurd h (by omega))
theorem a4e{nr:Nat}{s:d9}(h:XM l nr s):∃s',KF d5 s=some ((s',()),())∧RI l nr (40*(l.length+10)*(l.length+10)) s'∧Kh s s'∧(∀f∈s'.P.As,f.At=0∧f.Ss=0∧f.Ps≤20)∧(s'.F.Code=0→(∀f∈s'.P.As,PmF l s' f)∧(∃ts:List Nat,s'.P.As.map t9.Hs=l5 ts∧ts.Pairwise (· < ·))∧s'.P.As.length≤100):=by
 obtain⟨ts,h1,h2,h3,hsorted⟩:=KT hM hl 4;have e1:20*(l.length+10)*(l.length+10)=20*((l.length+10)*(l.length+10)):=Nat.mul_assoc _ _ _;have e2:40*(l.length+10)*(l.length+10)=40*((l.length+10)*(l.length+10)):=Nat.mul_assoc _ _ _;have hsq:(l.length+1)*ts.length≤(l.length+10)*(l.length+10):=Nat.mul_le_mul (by omega) (by omega);have hsq2:(l.length+10)*(l.length+10)≤30010*30010:=Nat.mul_le_mul (by omega) (by omega);have hnd:=h.ri.nodes;obtain⟨d',r1,r2,r3,r4,r5⟩:=a2i hM hl htx s hnd ts h3 h2 nr _ 0 s _ rfl (C8 _) h.ri (fun _ f hf=>by rw[h.fns]at hf;exact nomatch hf) (fun f hf=>by rw[h.fns]at hf;exact nomatch hf) (by rw[h.fns];rfl) (fun h=>absurd h (by omega)) (by simp only[Nat.sub_zero];omega);rw[a5q,jF,hnd,h1,d6];exact⟨d',r1,r2.more (by simp only[Nat.sub_zero];omega),r3,r4,fun hg=>⟨(r5 hg).1,⟨ts,(r5 hg).2.1,hsorted⟩,by
  have h1:=congrArg List.length (r5 hg).2.1;rw[H2,A9]at h1;have:=(r5 hg).2.2;omega⟩⟩
end
end
section
structure NdE(l:List d7)(s:d9)(slots:Int)(i:Nat):Prop where
 k26:kd l i=26→∃m,s.P.Ms[i]? =some m∧0≤m.Ds∧m.Ds<slots∧C7 s.P.To m.Ts
 k27:kd l i=27→∃m,s.P.Ms[i]? =some m∧(-8≤m.Ds∧m.Ds≤ -1∨0≤m.Ds∧m.Ds<s.P.As.length)
 k32:kd l i=32→∃m,s.P.Ms[i]? =some m∧C7 s.P.To m.Ts
 k32t:kd l i=32→∃m,s.P.Ms[i]? =some m∧TKd s.P.To m.Ts (kd l (i+1))
theorem NdE.ex{l:List d7}{s s':d9}{slots:Int}{i lo hi:Nat}(h:NdE l s slots i)(e:Ex l s s' lo hi)(hi:i<lo∨hi≤i):NdE l s' slots i:=by
 refine⟨fun hk=>?_,fun hk=>?_,fun hk=>?_,fun hk=>?_⟩
 ·obtain⟨m,h1,h2,h3,h4⟩:=h.k26 hk;exact⟨m,by rw[e.marks i hi];exact h1,h2,h3,h4.ext e.types⟩
 ·obtain⟨m,h1,h2⟩:=h.k27 hk;exact⟨m,by rw[e.marks i hi];exact h1,by rw[e.fns];exact h2⟩
 ·obtain⟨m,h1,h2⟩:=h.k32 hk;exact⟨m,by rw[e.marks i hi];exact h1,h2.ext e.types⟩
 ·obtain⟨m,h1,h2⟩:=h.k32t hk;exact⟨m,by rw[e.marks i hi];exact h1,h2.ext e.types⟩
theorem NdE.other{l:List d7}{s:d9}{slots:Int}{i:Nat}(h:kd l i≠26∧kd l i≠27∧kd l i≠32):NdE l s slots i:=⟨fun hk=>absurd hk h.1,fun hk=>absurd hk h.2.1,fun hk=>absurd hk h.2.2,fun hk=>absurd hk h.2.2⟩
structure FI(s:d9)(fi:Nat)(At Sl:Int):Prop where
 f:∃f,s.P.As[fi]? =some f∧f.At=At∧f.Ss=Sl
 at0:0≤At
 sl0:0≤Sl
 sum:At+Sl=s.P.Ss.length
 s2:Sl≤200
theorem FI.ex{l:List d7}{s s':d9}{fi lo hi:Nat}{At Sl:Int}(h:FI s fi At Sl)(e:Ex l s s' lo hi):FI s' fi At Sl:=⟨by rw[e.fns];exact h.f,h.at0,h.sl0,by rw[e.slots];exact h.sum,h.s2⟩
def EOk(env:List w7)(Sl:Int)(vars:Nat):Prop:=∀v∈env,0≤v.Ys∧v.Ys<Sl∧0≤v.At∧v.At<vars
theorem a6d{l:List d7}(hl:l.length≤30000)(a:Int)(env:List w7)(at0:Nat)(s:d9)(hnd:s.P.No=l)(x0:d7)(hx0:l[at0]? =some x0)(en:Nat)(he:x0.Cs=(en:Int)-(at0+1))(hen:en≤l.length)(hg:s.F.Code=0)(q:Nat)(hq:q≤en):∀(n d:Nat),q-d=n→d≤q→(∀j,d≤j→j<q→14≤kd l j∧kd l j≤20)→Lh d5 a env (at0:Int) (d:Int) s=Lh d5 a env (at0:Int) (q:Int) s:=by
 have hl0:=(l9.1 hx0).1;have hxe:=(l9.1 hx0).2;have ew:w64 ((at0:Int)+x0.Cs)=(en:Int)-1:=(by rw[he,wrap64 (by omega) (by omega)];omega);intro n
 induction n with
 |zero=>
      intro d hn hd hk;have:d=q:=by omega
      subst this;rfl
 |succ n ih=>intro d hn hd hk;have hdl:d<l.length:=(by omega);have hkd:=hk d (i8 _) (by omega);have hke:kd l d=l[d].Ks:=u0 (p8 hdl);have e:=ih (d+1) (by omega) (by omega) (fun j h1 h2=>hk j (by omega) h2);rw[xP,Oe,hnd,l7 hl0,d6,hxe,ew,f9 (by omega),i7,Q9,d6,f9 hg,x4,i5,l7 hdl,d6,d8 (by omega),i5,d8 (by omega),i5,d8 (by omega),i5,sH,Lu,z8 (by omega)];exact e
theorem a1p(a:Int)(at0 d:Int)(s:d9)(x:d7)(Sl:Int)(vars:Nat)(env:List w7)(hE:EOk env Sl vars)(hel:env.length≤100000000000):∀(n i:Nat) (e:Int),env.length-i=n→(e= -1∨0≤e∧e<Sl)→∃e',Nb d5 a env at0 d e (i:Int) s x=JY d5 a env at0 d e' s∧(e'= -1∨0≤e'∧e'<Sl):=by
 intro n
 induction n with
 |zero=>intro i e hi he;rw[QI,Uh,d8 (by omega),i5];exact⟨e,rfl,he⟩
 |succ n ih=>
  intro i e hi he;have hil:i<env.length:=(by omega);obtain⟨v1,v2,_,_⟩:=hE _ (y5 hil);have e1:=ih (i+1) env[i].Ys (by omega) (.inr ⟨v1,v2⟩);have e2:=ih (i+1) e (by omega) he;rw[QI,Uh,f9 (by omega),i7,l7 hil,d6,d6,z8 (by omega)];cases decide (env[i].Js=x.Gs)with
  |true=>exact e1
  |false=>exact e2
section
variable{l:List d7}(hM:J6 l)(hl:l.length≤30000)(htx:∀n∈l,n.Gs.length≤65536)
include hM hl htx
theorem Mr:∀(n b:Nat) (x:d7) (q:Nat),l[b]? =some x→x.Cs=(q:Int)-(b+1)→q-b=n→(14≤x.Ks∧x.Ks≤20)→∀j,b≤j→j<q→14≤kd l j∧kd l j≤20:=by
 intro n
 induction n using Nat.strongRecOn with
 |_ n ih=>
 intro b x q hx hs hn hk j h1 h2;obtain⟨st,ks,t1,t2,t3,t4,t5,t6,t7⟩:=hM.nd b x hx;have est:st=q:=(by omega);subst est;by_cases e:j=b
 ·subst e;rw[u0 hx];exact hk
 by_cases c20:x.Ks=20
 ·obtain⟨e1,e2⟩:=B7 (t6.k3 (.inr (.inr c20)));obtain⟨k,ks',rfl⟩:∃k ks',ks=k::ks':=by
   cases ks with
   |nil=>simp at e1
   |cons k ks=>exact⟨k,ks,rfl⟩
  have hk1:=X2 (e2 0 (by simp) (by simp));obtain⟨rfl,y,q2,hy,hys,hq1,hq2,hr⟩:=t5.first
  rw[H1,u0 hy]at hk1;have hnil:ks'=[]:=(by simp at e1;exact e1);subst hnil;have:q2=st:=(by cases hr;rfl);subst this;exact ih _ (by omega) (b+1) y q2 hy hys rfl (by omega) j (by omega) h2
 ·have:=(t6.kr (by omega)).1;have hks:ks=[]:=(by unfold E9 at this;exact List.map_eq_nil_iff.1 this);subst hks;have:st=b+1:=(by cases t5;rfl);omega
theorem b01(fi:Nat)(At Sl:Int)(env:List w7)(at0:Nat)(x0:d7)(hx0:l[at0]? =some x0)(en:Nat)(he:x0.Cs=(en:Int)-(at0+1))(hen:en≤l.length)(nr:Nat):∀(n d:Nat) (s:d9) (B:Nat),en-d=n→at0≤d→d≤en→RI l nr B s→FI s fi At Sl→EOk env Sl s.P.Vars.length→env.length≤100000000000→B+(en-d)≤80000000000→(∀(j:Nat) (y:d7) (q:Nat),d≤j→j<en→l[j]? =some y→y.Cs=(q:Int)-(j+1)→q≤en)→∃s',Lh d5 (fi:Int) env (at0:Int) (d:Int) s=some ((s',()),())∧RI l nr (B+(en-d)) s'∧Ex l s s' d en∧(s'.F.Code=0→∀i,d≤i→i<en→NdE l s' Sl i):=by
 have hl0:=(l9.1 hx0).1;have hxe:=(l9.1 hx0).2;have ew:w64 ((at0:Int)+x0.Cs)=(en:Int)-1:=(by rw[he,wrap64 (by omega) (by omega)];omega);intro n
 induction n using Nat.strongRecOn with
 |_ n ih=>
 intro d s B hn had hd hR hF hE hel hB hin;have hnd:=hR.nodes;have hmk:=hR.marks;rw[xP,Oe,hnd,l7 hl0,d6,hxe,ew];by_cases cd:d<en
 ·have hdl:d<l.length:=(by omega);have hx:l[d]? =some l[d]:=p8 hdl;have hke:kd l d=l[d].Ks:=u0 hx;rw[f9 (by omega),i7,Q9,d6];by_cases cb:s.F.Code=0
  ·rw[f9 cb,x4,i5,l7 hdl,d6];have bad:∀{r:b5I},(∃f:y6,r=some (((⟨s.P,s.Rs,f⟩:d9),()),())∧f.Code≠0)→∃s',r=some ((s',()),())∧RI l nr (B+(en-d)) s'∧Ex l s s' d en∧(s'.F.Code=0→∀i,d≤i→i<en→NdE l s' Sl i):=by rintro r ⟨f,f1,f2⟩;exact⟨_,f1,(hR.fault f (fun h=>absurd h f2)).more (by omega),Ex.fault l s f f2 _ _,fun h=>absurd h f2⟩
   have go:∀(m:l4),0≤m.Ts→m.Ts<s.P.To.length→kd l d≠5→NdE l (x9 s d m) Sl d→∃s',Ph d5 (fi:Int) env (at0:Int) (d:Int) (x9 s d m)=some ((s',()),())∧RI l nr (B+(en-d)) s'∧Ex l s s' d en∧(s'.F.Code=0→∀i,d≤i→i<en→NdE l s' Sl i):=by
    intro m m0 m1 m5 mN;have hx':=Ex.mark l s d m d (d+1) (i8 _) (by omega) m5;obtain⟨s',r1,r2,r3,r4⟩:=ih (en-(d+1)) (by omega) (d+1) (x9 s d m) B rfl (by omega) (by omega) (hR.mark d m m0 m1) (hF.ex hx') hE hel (by omega) (fun j y q h1 h2=>hin j y q (by omega) h2);rw[sH,Lu,z8 (by omega)];refine⟨s',r1,r2.more (by omega),hx'.trans r3 (i8 _) (by omega) (by omega) (i8 _),fun hg i h1 h2=>?_⟩;by_cases e:i=d
    ·subst e;exact mN.ex r3 (by omega)
    ·exact r4 hg i (by omega) h2
   by_cases c26:l[d].Ks=26
   ·rw[f9 c26,i7];obtain⟨e',g1,g2⟩:=a1p (fi:Int) (at0:Int) (d:Int) s l[d] Sl s.P.Vars.length env hE hel _ 0 (-1) rfl (.inl rfl);rw[show Nb d5 (fi:Int) env (at0:Int) (d:Int) (-1) 0 s l[d]=_ from g1,b0M,kC];rcases g2 with rfl|⟨v1,v2⟩
    ·rw[f9 (by omega),i7];obtain⟨f,f1,f2⟩:=Z0 s 8 (by decide) d (by rw[hnd];exact hdl);rw[f1];exact bad ⟨f,rfl,f2⟩
    ·obtain⟨f,hf,hfa,hfs⟩:=hF.f;have hfl:=(l9.1 hf).1;have hfe:=(l9.1 hf).2;have hsum:=hF.sum;have hat:=hF.at0;have hbig:=hR.big;unfold tot at hbig;have eslot:w64 (f.At+e')=(((f.At+e').toNat:Nat):Int):=(by rw[hfa,wrap64 (by omega) (by omega)];omega);have hsl:(f.At+e').toNat<s.P.Ss.length:=(by rw[hfa];omega);rw[d8 (by omega),i5,l7 hfl,d6,hfe,eslot,l7 hsl,d6,B8,p8 hsl,d6,Ou,Bv s (by omega) d (by omega),d6];have tI:=hR.sl cb _ (y5 hsl);refine go ⟨s.P.Ss[(f.At+e').toNat],e',0⟩ (by have:=tI.1;simp only;omega) tI.2.1 (by rw[hke,c26];decide) ⟨fun _=>⟨⟨s.P.Ss[(f.At+e').toNat],e',0⟩,?_,v1,v2,tI⟩,fun h=>?_,fun h=>?_,fun h=>?_⟩
     ·unfold x9;simp only;rw[Q2 (by omega)]
     ·rw[hke,c26]at h;omega
     ·rw[hke,c26]at h;omega
     ·rw[hke,c26]at h;omega
   rw[d8 c26,i5];by_cases c27:l[d].Ks=27
   ·have hbig:=hR.big;unfold tot at hbig;obtain⟨k,hk,hk1,hk2⟩:=OD s (by omega) l[d].Gs;obtain⟨bt,hbt,hb0,hb8⟩:=KU l[d].Gs;have set:∀m:Int,(-8≤m∧m≤ -1∨0≤m∧m<s.P.As.length)→∃s',nZ d5 (fi:Int) env (at0:Int) (d:Int) m s=some ((s',()),())∧RI l nr (B+(en-d)) s'∧Ex l s s' d en∧(s'.F.Code=0→∀i,d≤i→i<en→NdE l s' Sl i):=by
     intro m hm;rw[b2T,nE,Ou,Bv s (by omega) d (by omega),d6];have h6:=hR.ty.len;refine go ⟨0,m,0⟩ (N0 _) (by simp only;omega) (by rw[hke,c27];decide) ⟨fun h=>?_,fun _=>⟨⟨0,m,0⟩,?_,hm⟩,fun h=>?_,fun h=>?_⟩
     ·rw[hke,c27]at h;omega
     ·unfold x9;simp only;rw[Q2 (by omega)]
     ·rw[hke,c27]at h;omega
     ·rw[hke,c27]at h;omega
    rw[f9 c27,i7,hk,d6];by_cases ck:k<0
    ·have e0:w64 (0-bt)= -bt:=(by rw[wrap64 (by omega) (by omega)];omega);rw[f9 ck,i7,hbt,d6];simp only;rw[e0];by_cases cz: -bt=0
     ·rw[f9 cz,i7];obtain⟨f,f1,f2⟩:=Z0 s 8 (by decide) d (by rw[hnd];exact hdl);rw[f1];exact bad ⟨f,rfl,f2⟩
     ·rw[d8 cz,i5];exact set (-bt) (.inl ⟨by omega,by omega⟩)
    ·rw[d8 ck,i5];exact set k (.inr ⟨by omega,hk2⟩)
   rw[d8 c27,i5];by_cases c32:l[d].Ks=32
   ·rw[f9 c32,i7,z8 (by omega)];obtain⟨st,ks,t1,t2,t3,t4,t5,t6,t7⟩:=hM.nd d _ hx;have hne:ks≠ []:=by rintro rfl;rcases t6.k32 c32 with⟨h,_⟩|⟨h,_⟩<;>exact absurd h (by simp[E9])
    obtain⟨k,ks',rfl⟩:=List.exists_cons_of_ne_nil hne;have hs0:F4 (kd l k)=116:=by
     rcases t6.k32 c32 with⟨h,_⟩|⟨h,_⟩
     ·exact(B7 h).2 0 (by simp) (by simp)
     ·exact(B7 h).2 0 (by simp) (by simp)
    obtain⟨rfl,y,q,hy,hys,hq1,hq2,hr⟩:=t5.first
    have hk1:=X2 hs0;rw[u0 hy]at hk1;have hsten:=hin d _ st (i8 _) cd hx t1;obtain⟨t,s1,k1,k2,k3,k4,k5⟩:=a0B hM hl htx (d+1) y q hy hys (by omega) s nr B hR (by omega);have hmk1:=k2.marks;have tT:0≤t∧t<s1.P.To.length:=by
     have:=k2.ty.len;rcases k4 with rfl|k4
     ·omega
     ·have:=k4.1;have:=k4.2.1;omega
    rw[k1,d6];simp only;rw[Ou,Bv s1 (by omega) d (by omega),d6];simp only;have h5:kd l d≠5:=(by rw[hke,c32];decide);have hx':Ex l s (x9 s1 d ⟨t,0,0⟩) d q:=(k3.trans (Ex.refl l s1 (d+1) q) (i8 _) (i8 _) (i8 _) (i8 _)).trans (Ex.mark l s1 d ⟨t,0,0⟩ d (d+1) (i8 _) (by omega) h5) (by omega) (i8 _) (i8 _) (by omega);have hR2:=k2.mark d ⟨t,0,0⟩ tT.1 tT.2;have hF2:=hF.ex hx';have hV:(x9 s1 d ⟨t,0,0⟩).P.Vars=s.P.Vars:=k3.vars;rw[sH,Lu,z8 (by omega)];by_cases cg:s1.F.Code=0
    ·have tI:C7 s1.P.To t:=by
      rcases k5 cg with⟨h,_⟩|⟨_,h⟩
      ·omega
      ·exact h
     have tK:TKd s1.P.To t y.Ks:=by
      rcases k5 cg with⟨h,_⟩|⟨h,_⟩
      ·omega
      ·exact h.2
     have hty:=Mr hM hl htx _ (d+1) y q hy hys rfl (by omega);rw[a6d hl (fi:Int) env at0 (x9 s1 d ⟨t,0,0⟩) hR2.nodes x0 hx0 en he hen cg q (by omega) _ (d+1) rfl (by omega) hty];obtain⟨s',r1,r2,r3,r4⟩:=ih (en-q) (by omega) q (x9 s1 d ⟨t,0,0⟩) (B+(q-(d+1))) rfl (by omega) (by omega) hR2 hF2 (by rw[hV];exact hE) hel (by omega) (fun j y q h1 h2=>hin j y q (by omega) h2);refine⟨s',r1,r2.more (by omega),hx'.trans r3 (i8 _) (by omega) (by omega) (i8 _),fun hg i h1 h2=>?_⟩;by_cases e:i=d
     ·subst e;refine NdE.ex (s:=x9 s1 i ⟨t,0,0⟩) ⟨fun h=>?_,fun h=>?_,fun _=>⟨⟨t,0,0⟩,?_,tI⟩,fun _=>⟨⟨t,0,0⟩,?_,by rw[u0 hy];exact tK⟩⟩ r3 (by omega)
      ·rw[hke,c32]at h;omega
      ·rw[hke,c32]at h;omega
      ·unfold x9;simp only;rw[Q2 (by omega)]
      ·unfold x9;simp only;rw[Q2 (by omega)]
     ·by_cases e2:i<q
      ·have:=hty i (by omega) e2;exact NdE.other ⟨by omega,by omega,by omega⟩
      ·exact r4 hg i (by omega) h2
    ·have hb2:(x9 s1 d ⟨t,0,0⟩).F.Code≠0:=cg;obtain⟨s',r1,r2,r3,r4⟩:∃s',Lh d5 (fi:Int) env (at0:Int) ((d+1:Nat):Int) (x9 s1 d ⟨t,0,0⟩)=some ((s',()),())∧RI l nr (B+(en-d)) s'∧Ex l s s' d en∧s'.F.Code≠0:=by
      rw[xP,Oe,hR2.nodes,l7 hl0,d6,hxe,ew];by_cases c2:d+1<en
      ·rw[f9 (by omega),i7,Q9,d6,d8 hb2];exact⟨_,rfl,hR2.more (by omega),hx'.trans (Ex.refl l _ d q) (i8 _) (by omega) (i8 _) (by omega),hb2⟩
      ·rw[d8 (by omega),i5,QH,Wh];exact⟨_,rfl,hR2.more (by omega),hx'.trans (Ex.refl l _ d q) (i8 _) (by omega) (i8 _) (by omega),hb2⟩
     exact⟨s',r1,r2,r3,fun h=>absurd h r4⟩
   ·rw[d8 c32,i5,sH,Lu,z8 (by omega)];obtain⟨s',r1,r2,r3,r4⟩:=ih (en-(d+1)) (by omega) (d+1) s B rfl (by omega) (by omega) hR hF hE hel (by omega) (fun j y q h1 h2=>hin j y q (by omega) h2);refine⟨s',r1,r2.more (by omega),(Ex.refl l s (d+1) en).trans r3 (by omega) (i8 _) (by omega) (i8 _),fun hg i h1 h2=>?_⟩;by_cases e:i=d
    ·subst e;exact NdE.other ⟨by omega,by omega,by omega⟩
    ·exact r4 hg i (by omega) h2
  ·rw[d8 cb];exact⟨s,rfl,hR.more (by omega),Ex.refl _ _ _ _,fun h=>absurd h cb⟩
 ·rw[d8 (by omega),i5,QH,Wh];exact⟨s,rfl,hR.more (by omega),Ex.refl _ _ _ _,fun _ i h1 h2=>by omega⟩
end
end
section
theorem Kc.cover{l:List d7}{i j:Nat}{ks:List Nat}(h:Kc l i j ks):∀p,i≤p→p<j→∃k∈ks,∃(x:d7) (q:Nat),l[k]? =some x∧x.Cs=(q:Int)-(k+1)∧k≤p∧p<q∧i≤k∧q≤j:=by
 induction h with
 |nil=>intro p h1 h2;omega
 |cons i k j x ks hx hs hk kids rest ih=>
  have:=rest.le;intro p h1 h2;by_cases c:p<k
  ·exact⟨i,E2,x,k,hx,hs,h1,c,i8 _,by omega⟩
  ·obtain⟨k',m,y,q,a1,a2,a3,a4,a5,a6⟩:=ih p (by omega) h2;exact⟨k',F7 _ m,y,q,a1,a2,a3,a4,by omega,a6⟩
structure Fx(l:List d7)(fi:Nat)(s s':d9)(lo hi:Nat):Prop where
 types:s.P.To<+:s'.P.To
 marks:∀i:Nat,(i<lo∨hi≤i)→s'.P.Ms[i]? =s.P.Ms[i]?
 par:∀i:Nat,kd l i=5→s'.P.Ms[i]? =s.P.Ms[i]?
 recs:s'.P.Rs=s.P.Rs
 fields:s'.P.Id=s.P.Id
 own:s'.Rs=s.Rs
 bad:s.F.Code≠0→s'.F.Code≠0
 flen:s'.P.As.length=s.P.As.length
 foth:∀i:Nat,i≠fi→s'.P.As[i]? =s.P.As[i]?
 fcur:∀f,s.P.As[fi]? =some f→∃f',s'.P.As[fi]? =some f'∧f'.Hs=f.Hs∧f'.Ps=f.Ps∧f'.By=f.By∧f'.At=f.At
 slots:s.P.Ss<+:s'.P.Ss
 vars:s.P.Vars.length≤s'.P.Vars.length
 points:s.P.Es<+:s'.P.Es
theorem Fx.refl(l:List d7)(fi:Nat)(s:d9)(lo hi:Nat):Fx l fi s s lo hi:=⟨L8 _,fun _ _=>rfl,fun _ _=>rfl,rfl,rfl,rfl,id,rfl,fun _ _=>rfl,fun f hf=>⟨f,hf,rfl,rfl,rfl,rfl⟩,L8 _,i8 _,L8 _⟩
theorem Fx.trans{l:List d7}{fi:Nat}{s s' s'':d9}{lo hi lo' hi' lo2 hi2:Nat}(h:Fx l fi s s' lo hi)(h':Fx l fi s' s'' lo' hi')(a:lo2≤lo)(b:hi≤hi2)(c:lo2≤lo')(d:hi'≤hi2):Fx l fi s s'' lo2 hi2:=
 ⟨h.types.trans h'.types,fun i hi=>(h'.marks i (by omega)).trans (h.marks i (by omega)),fun i hi=>(h'.par i hi).trans (h.par i hi),h'.recs.trans h.recs,h'.fields.trans h.fields,h'.own.trans h.own,fun hb=>h'.bad (h.bad hb),h'.flen.trans h.flen,fun i hi=>(h'.foth i hi).trans (h.foth i hi),
  fun f hf=>by
  obtain⟨f1,a1,a2,a3,a4,a5⟩:=h.fcur f hf;obtain⟨f2,b1,b2,b3,b4,b5⟩:=h'.fcur f1 a1;exact⟨f2,b1,b2.trans a2,b3.trans a3,b4.trans a4,b5.trans a5⟩,h.slots.trans h'.slots,Ea h.vars h'.vars,h.points.trans h'.points⟩
theorem Ex.fx{l:List d7}{s s':d9}{lo hi:Nat}(h:Ex l s s' lo hi)(fi:Nat):Fx l fi s s' lo hi:=
 ⟨h.types,h.marks,h.par,h.recs,h.fields,h.own,h.bad,by rw[h.fns],fun i _=>by rw[h.fns],fun f hf=>⟨f,by rw[h.fns];exact hf,rfl,rfl,rfl,rfl⟩,by rw[h.slots];exact L8 _,by rw[h.vars];exact i8 _,by rw[h.points];exact L8 _⟩
theorem NdE.fx{l:List d7}{fi:Nat}{s s':d9}{Sl Sl':Int}{i lo hi:Nat}(h:NdE l s Sl i)(e:Fx l fi s s' lo hi)(hS:Sl≤Sl')(hi:i<lo∨hi≤i):NdE l s' Sl' i:=by
 refine⟨fun hk=>?_,fun hk=>?_,fun hk=>?_,fun hk=>?_⟩
 ·obtain⟨m,h1,h2,h3,h4⟩:=h.k26 hk;exact⟨m,by rw[e.marks i hi];exact h1,h2,by omega,h4.ext e.types⟩
 ·obtain⟨m,h1,h2⟩:=h.k27 hk;exact⟨m,by rw[e.marks i hi];exact h1,by rw[e.flen];exact h2⟩
 ·obtain⟨m,h1,h2⟩:=h.k32 hk;exact⟨m,by rw[e.marks i hi];exact h1,h2.ext e.types⟩
 ·obtain⟨m,h1,h2⟩:=h.k32t hk;exact⟨m,by rw[e.marks i hi];exact h1,h2.ext e.types⟩
def NdS(l:List d7)(s:d9)(Sl:Int)(i:Nat):Prop:=7≤kd l i→kd l i≤13→∃m,s.P.Ms[i]? =some m∧0≤m.In∧(kd l i=7→0≤m.Ds∧m.Ds<Sl∧C7 s.P.To m.Ts)
theorem NdS.fx{l:List d7}{fi:Nat}{s s':d9}{Sl Sl':Int}{i lo hi:Nat}(h:NdS l s Sl i)(e:Fx l fi s s' lo hi)(hS:Sl≤Sl')(hi:i<lo∨hi≤i):NdS l s' Sl' i:=by intro a b;obtain⟨m,h1,h2,h3⟩:=h a b;exact⟨m,by rw[e.marks i hi];exact h1,h2,fun c=>⟨(h3 c).1,by have:=(h3 c).2.1;omega,(h3 c).2.2.ext e.types⟩⟩
theorem NdS.other{l:List d7}{s:d9}{Sl:Int}{i:Nat}(h:kd l i<7∨13<kd l i):NdS l s Sl i:=fun a b=>by omega
def U1(s:d9)(fi:Nat)(f:t9)(name:b5Y)(t first:Int):d9:=
 ⟨⟨s.P.No,s.P.Ms,s.P.To,s.P.Rs,s.P.Id,s.P.As.set fi ⟨f.Js,f.Hs,f.Ps,f.By,f.At,w64 (f.Ss+1),f.Us,f.Es⟩,s.P.Ss++[t],s.P.Vars++[⟨fi,name,f.Ss,first,0⟩],s.P.Es⟩,s.Rs,s.F⟩
theorem MJ(s:d9)(fi:Nat)(f:t9)(hf:s.P.As[fi]? =some f)(env:List w7)(hel:env.length≤90000000000)(hb:tot s≤90000000000)(name:b5Y)(t blk first:Int):wL d5 s (fi:Int) env name t blk first=some ((env++[⟨name,f.Ss,blk,s.P.Vars.length⟩],U1 s fi f name t first,()),()):=by
 have hfl:=(l9.1 hf).1;have hfe:=(l9.1 hf).2;unfold tot at hb;have h1:([]:List w7).length+env.length≤100000000000:=(by rw[I0];omega);have h2:env.length+ [(w7.mk name f.Ss blk (s.P.Vars.length:Int))].length≤100000000000:=(by rw[y4];omega);have h3:s.P.Vars.length+ [(I8.mk (fi:Int) name f.Ss first 0)].length≤100000000000:=(by rw[y4];omega)
 have h4:s.P.Ss.length+ [t].length≤100000000000:=(by rw[y4];omega);have h5:([]:List t9).length+s.P.As.length≤100000000000:=(by rw[I0];omega);rw[a7H,pV,l7 hfl,d6,hfe,U5 (by decide) h1,d6,Z9,U5 (by decide) h2,d6,U5 (by decide) h3,d6,U5 (by decide) h4,d6,U5 (by decide) h5,d6,Z9,l7 hfl,d6,B8,hf,d6,d6];rfl
theorem XU{l:List d7}{nr B fi:Nat}{s:d9}{f:t9}(hR:RI l nr B s)(hf:s.P.As[fi]? =some f)(name:b5Y)(t first:Int)(ht:s.F.Code=0→C7 s.P.To t):RI l nr (B+2) (U1 s fi f name t first):=by
 refine⟨hR.nodes,hR.marks,?_,hR.ty,hR.mt,hR.fl,hR.rc,fun g hg=>?_,fun c x hx=>?_⟩
 ·have:=hR.big;unfold tot U1 at*;simp only[o5,y4,T4];omega
 ·rcases List.mem_or_eq_of_mem_set hg with hg|rfl
  ·exact hR.fn g hg
  ·obtain⟨k,x,a1,a2,a3,a4,a5⟩:=hR.fn f (K8 hf);exact⟨k,x,a1,a2,a3,a4,a5⟩
 ·rcases z0.1 hx with hx|hx
  ·exact hR.sl c x hx
  ·rw[I2.1 hx];exact ht c
theorem KS{s:d9}{fi:Nat}{At Sl:Int}(hF:FI s fi At Sl){f:t9}(hf:s.P.As[fi]? =some f)(hS:Sl<200)(name:b5Y)(t first:Int):FI (U1 s fi f name t first) fi At (Sl+1):=by have hfl:=(l9.1 hf).1;obtain⟨f0,h1,h2,h3⟩:=hF.f;rw[hf]at h1;cases h1;have:=hF.sl0;refine⟨⟨⟨f.Js,f.Hs,f.Ps,f.By,f.At,w64 (f.Ss+1),f.Us,f.Es⟩,by unfold U1;simp only;rw[Q2 hfl],h2,by simp only;rw[h3,wrap64 (by omega) (by omega)]⟩,hF.at0,by omega,?_,by omega⟩;have:=hF.sum;unfold U1;simp only[o5,y4];omega
theorem HM(l:List d7){s:d9}{fi:Nat}{f:t9}(hf:s.P.As[fi]? =some f)(name:b5Y)(t first:Int)(lo hi:Nat):Fx l fi s (U1 s fi f name t first) lo hi:=by have hfl:=(l9.1 hf).1;refine⟨L8 _,fun _ _=>rfl,fun _ _=>rfl,rfl,rfl,rfl,id,by unfold U1;simp only[T4],fun i hi=>by unfold U1;simp only;rw[Z1 (Ne.symm hi)],fun g hg=>?_,List.prefix_append _ _,by unfold U1;simp only[o5];omega,L8 _⟩;rw[hf]at hg;cases hg;exact⟨⟨f.Js,f.Hs,f.Ps,f.By,f.At,w64 (f.Ss+1),f.Us,f.Es⟩,by unfold U1;simp only;rw[Q2 hfl],rfl,rfl,rfl,rfl⟩
theorem OA{s:d9}{fi:Nat}{f:t9}{env:List w7}{Sl:Int}(hE:EOk env Sl s.P.Vars.length)(h0:0≤Sl)(hfs:f.Ss=Sl)(name:b5Y)(t blk first:Int):EOk (env++[⟨name,f.Ss,blk,s.P.Vars.length⟩]) (Sl+1) (U1 s fi f name t first).P.Vars.length:=by
 have e:(U1 s fi f name t first).P.Vars.length=s.P.Vars.length+1:=(by unfold U1;simp only[o5,y4])
 rw[e];intro v hv;rcases z0.1 hv with hv|hv
 ·obtain⟨a,b,c,d⟩:=hE v hv;exact⟨a,by omega,c,by omega⟩
 ·rw[I2.1 hv];simp only;omega
theorem EOk.mono{env:List w7}{Sl Sl':Int}{v v':Nat}(h:EOk env Sl v)(a:Sl≤Sl')(b:v≤v'):EOk env Sl' v':=fun x hx=>by obtain⟨h1,h2,h3,h4⟩:=h x hx;exact⟨h1,by omega,h3,by omega⟩
section
variable{l:List d7}(hM:J6 l)(hl:l.length≤30000)(htx:∀n∈l,n.Gs.length≤65536)
include hM hl htx
theorem Ug:∀(n b:Nat) (x:d7) (q:Nat),l[b]? =some x→x.Cs=(q:Int)-(b+1)→q-b=n→(14≤x.Ks∧x.Ks≤32)→∀j,b≤j→j<q→14≤kd l j∧kd l j≤32:=by
 intro n
 induction n using Nat.strongRecOn with
 |_ n ih=>
 intro b x q hx hs hn hk j h1 h2;obtain⟨st,ks,t1,t2,t3,t4,t5,t6,t7⟩:=hM.nd b x hx;have est:st=q:=(by omega);subst est;by_cases e:j=b
 ·subst e;rw[u0 hx];exact hk
 by_cases c20:x.Ks≤20
 ·have:=Mr hM hl htx _ b x st hx hs rfl ⟨hk.1,c20⟩ j h1 h2;omega
 obtain⟨k,hkm,y,q2,a1,a2,a3,a4,a5,a6⟩:=t5.cover j (by omega) h2;have hso:F4 (kd l k)=101∨F4 (kd l k)=116:=by
  have hmem:F4 (kd l k)∈E9 l ks:=List.mem_map.2 ⟨k,hkm,rfl⟩;by_cases c27:x.Ks=27
  ·exact .inl (t6.k27 c27 _ hmem)
  by_cases c28:x.Ks=28∨x.Ks=31
  ·rw[t6.k28 c28]at hmem;simp at hmem;exact .inl hmem
  by_cases c29:x.Ks=12∨x.Ks=29∨x.Ks=30
  ·rw[t6.k12 c29]at hmem;simp at hmem;exact .inl hmem
  by_cases c32:x.Ks=32
  ·rcases t6.k32 c32 with⟨h,_⟩|⟨h,_⟩
   ·rw[h]at hmem;simp at hmem;exact .inr hmem
   ·rw[h]at hmem;simp at hmem;exact hmem.symm
  ·have:=(t6.kr (by omega)).1;rw[this]at hmem;exact nomatch hmem
 have hky:14≤y.Ks∧y.Ks≤32:=by
  rw[←u0 a1];rcases hso with h|h
  ·have:=D7 h;omega
  ·have:=X2 h;omega
 exact ih (q2-k) (by omega) k y q2 a1 a2 rfl hky j a3 a4
theorem OW(fi:Nat)(At Sl:Int)(env:List w7)(at0:Nat)(x0:d7)(hx0:l[at0]? =some x0)(hk0:21≤x0.Ks∧x0.Ks≤32)(en:Nat)(he:x0.Cs=(en:Int)-(at0+1))(hen:en≤l.length)(hae:at0+1≤en)(hw:WFo l (at0+1) en)(nr:Nat)(s:d9)(B:Nat)(hR:RI l nr B s)(hF:FI s fi At Sl)(hE:EOk env Sl s.P.Vars.length)(hel:env.length≤100000000000)(hB:B+(en-at0)≤80000000000):∃s',eW d5 s (fi:Int) env (at0:Int)=some ((s',()),())∧RI l nr (B+(en-at0)) s'∧Ex l s s' at0 en∧(s'.F.Code=0→∀i,at0≤i→i<en→NdE l s' Sl i∧NdS l s' Sl i):=by
 rw[a2o,nB];obtain⟨s',r1,r2,r3,r4⟩:=b01 hM hl htx fi At Sl env at0 x0 hx0 en he hen nr _ at0 s B rfl (i8 _) (by omega) hR hF hE hel hB (fun j y q h1 h2 hy hq=>by
  by_cases e:j=at0
  ·subst e;rw[hx0]at hy;cases hy;omega
  ·obtain⟨z,k,g1,g2,g3,g4,g5⟩:=hw.inside j (by omega) h2;rw[hy]at g1;cases g1;omega)
 refine⟨s',r1,r2,r3,fun hg i h1 h2=>⟨r4 hg i h1 h2,NdS.other ?_⟩⟩;have:=Ug hM hl htx _ at0 x0 en hx0 he rfl (by omega) i h1 h2;omega
end
end
section
def ptS(s:d9)(p:R1):d9:=⟨⟨s.P.No,s.P.Ms,s.P.To,s.P.Rs,s.P.Id,s.P.As,s.P.Ss,s.P.Vars,s.P.Es++[p]⟩,s.Rs,s.F⟩
def vrS(s:d9)(V:List I8):d9:=⟨⟨s.P.No,s.P.Ms,s.P.To,s.P.Rs,s.P.Id,s.P.As,s.P.Ss,V,s.P.Es⟩,s.Rs,s.F⟩
theorem a2c{l:List d7}{nr B:Nat}{s:d9}(h:RI l nr B s)(p:R1):RI l nr (B+1) (ptS s p):=by refine⟨h.nodes,h.marks,?_,h.ty,h.mt,h.fl,h.rc,h.fn,h.sl⟩;have:=h.big;unfold tot ptS at*;simp only[o5,y4];omega
theorem b1e{l:List d7}{nr B:Nat}{s:d9}(h:RI l nr B s)(V:List I8)(hV:V.length=s.P.Vars.length):RI l nr B (vrS s V):=by refine⟨h.nodes,h.marks,?_,h.ty,h.mt,h.fl,h.rc,h.fn,h.sl⟩;have:=h.big;unfold tot vrS at*;simp only;omega
theorem a9e(l:List d7)(fi:Nat)(s:d9)(p:R1)(lo hi:Nat):Fx l fi s (ptS s p) lo hi:=⟨L8 _,fun _ _=>rfl,fun _ _=>rfl,rfl,rfl,rfl,id,rfl,fun _ _=>rfl,fun f hf=>⟨f,hf,rfl,rfl,rfl,rfl⟩,L8 _,i8 _,List.prefix_append _ _⟩
theorem b3A(l:List d7)(fi:Nat)(s:d9)(V:List I8)(hV:V.length=s.P.Vars.length)(lo hi:Nat):Fx l fi s (vrS s V) lo hi:=⟨L8 _,fun _ _=>rfl,fun _ _=>rfl,rfl,rfl,rfl,id,rfl,fun _ _=>rfl,fun f hf=>⟨f,hf,rfl,rfl,rfl,rfl⟩,L8 _,by show _≤V.length;omega,L8 _⟩
theorem FI.of{s s':d9}{fi:Nat}{At Sl:Int}(h:FI s fi At Sl)(h1:s'.P.As=s.P.As)(h2:s'.P.Ss=s.P.Ss):FI s' fi At Sl:=⟨by rw[h1];exact h.f,h.at0,h.sl0,by rw[h2];exact h.sum,h.s2⟩
theorem b3m(s:d9)(hV:s.P.Vars.length≤90000000000)(env:List w7)(hel:env.length≤90000000000)(Sl:Int)(hE:EOk env Sl s.P.Vars.length)(b:Int):∃V,JR d5 env b s=some ((vrS s V,()),())∧V.length=s.P.Vars.length:=by
 have hz:([]:List I8).length+s.P.Vars.length≤100000000000:=(by rw[I0];omega);have loop:∀(n i:Nat) (V:List I8),env.length-i=n→V.length=s.P.Vars.length→∃V',Yr d5 env b (i:Int) s V=some ((vrS s V',()),())∧V'.length=s.P.Vars.length:=by
  intro n
  induction n with
  |zero=>intro i V hi hv;rw[a0A,Ry,d8 (by omega),i5,a3Q,kS];exact⟨V,rfl,hv⟩
  |succ n ih=>
   intro i V hi hv;have hil:i<env.length:=(by omega);obtain⟨_,_,v3,v4⟩:=hE _ (y5 hil);have ea:env[i].At=((env[i].At.toNat:Nat):Int):=(by omega);have hal:env[i].At.toNat<V.length:=(by omega);have e:=fun V' (h:V'.length=s.P.Vars.length)=>ih (i+1) V' (by omega) h;rw[a0A,Ry,f9 (by omega),i7,l7 hil,d6,d6,z8 (by omega)];cases decide (env[i].Zs=b)with
   |false=>exact e V hv
   |true=>rw[i7,ea,l7 hal,d6,B8,p8 hal,d6,d6];simp only[G4,d6];exact e _ (by rw[T4];exact hv)
 rw[b3Y,mS,U5 (by decide) hz,d6,Z9];exact loop _ 0 _ rfl rfl
structure Dv(l:List d7)(nr fi:Nat)(At:Int)(s:d9)(Sl:Int)(B lo hi:Nat)(s':d9)(Sl':Int):Prop where
 ri:RI l nr (B+6*(hi-lo)) s'
 fx:Fx l fi s s' lo hi
 fi:FI s' fi At Sl'
 sl:Sl≤Sl'
 nd:s'.F.Code=0→∀i,lo≤i→i<hi→NdE l s' Sl' i∧NdS l s' Sl' i
def Bk(l:List d7)(nr fi:Nat)(At:Int)(n:Nat):Prop:=∀(b:Nat) (x:d7) (st:Nat),st-b=n→l[b]? =some x→x.Cs=(st:Int)-(b+1)→b+1≤st→st≤l.length→x.Ks=6→∀(s:d9) (env:List w7) (Sl:Int) (B:Nat),RI l nr B s→FI s fi At Sl→EOk env Sl s.P.Vars.length→env.length+(st-b)≤80000000000→B+6*(st-b)≤80000000000→
 ∃s' Sl',tQ d5 s (fi:Int) env (b:Int)=some ((s',()),())∧Dv l nr fi At s Sl B b st s' Sl'
def Stm(l:List d7)(nr fi:Nat)(At:Int)(n:Nat):Prop:=∀(b:Nat) (x:d7) (st:Nat),st-b=n→l[b]? =some x→x.Cs=(st:Int)-(b+1)→b+1≤st→st≤l.length→7≤x.Ks∧x.Ks≤13→∀(s:d9) (env:List w7) (blk:Int) (Sl:Int) (B:Nat),RI l nr B s→FI s fi At Sl→EOk env Sl s.P.Vars.length→env.length+(st-b)≤80000000000→B+6*(st-b)≤80000000000→
 ∃env' s' Sl',HN d5 s (fi:Int) env blk (b:Int)=some ((env',s',()),())∧Dv l nr fi At s Sl B b st s' Sl'∧EOk env' Sl' s'.P.Vars.length∧env'.length≤env.length+1
section
variable{l:List d7}(hM:J6 l)(hl:l.length≤30000)(htx:∀n∈l,n.Gs.length≤65536)
include hM hl htx
theorem b0l(nr fi:Nat)(At:Int)(n:Nat)(ih:∀m,m<n→Stm l nr fi At m):Bk l nr fi At n:=by
 intro b x st hn hx hs hb1 hst hk s env Sl B hR hF hE hel hB;obtain⟨st',ks,t1,t2,t3,t4,t5,t6,t7⟩:=hM.nd b x hx;have est:st'=st:=(by omega);subst est;have hkl:=t5.le;have hks:∀p∈ks,7≤kd l p∧kd l p≤13:=fun p hp=>mR (Mt (t6.k6 hk) p hp);have hnd:=hR.nodes;have loop:∀(m e c0:Nat) (s:d9) (env:List w7) (Sl:Int) (B:Nat),ks.length-e=m→e≤ks.length→b+1≤c0→Kc l c0 st' (ks.drop e)→RI l nr B s→FI s fi At Sl→EOk env Sl s.P.Vars.length→env.length+(st'-c0)≤80000000000→B+6*(st'-c0)≤80000000000→
   ∃s' Sl',jM d5 (fi:Int) env (b:Int) ((l5 ks,()),()) (e:Int) s=some ((s',()),())∧Dv l nr fi At s Sl B c0 st' s' Sl':=by
  intro m
  induction m with
  |zero=>
   intro e c0 s env Sl B hm he hc0 hK hR hF hE hel hB;have hc:c0=st':=by rw[J1 (by omega)]at hK;cases hK;rfl
   have hbig:=hR.big;unfold tot at hbig;obtain⟨V,v1,v2⟩:=b3m s (by omega) env (by omega) Sl hE (b:Int);rw[a1a,Uc];simp only[A9];rw[d8 (by omega),i5,v1];exact⟨_,Sl,rfl,(b1e hR V v2).more (by omega),b3A l fi s V v2 _ _,hF.of rfl rfl,N0 _,fun _ i h1 h2=>by omega⟩
  |succ m ihm=>
   intro e c0 s env Sl B hm he hc0 hK hR hF hE hel hB;have hel':e<ks.length:=(by omega);have g:=C6 hel';have ga:=D9 hel';rw[H5 hel']at hK;obtain⟨ek,y,q,hy,hys,hq1,hq2,hrest⟩:=hK.first
   have hky:=hks _ (y5 hel');rw[ek,u0 hy]at hky;rw[a1a,Uc];simp only[A9];rw[f9 (by omega),i7,Q9,d6];by_cases cb:s.F.Code=0
   ·rw[f9 cb,x4,i5,g,d6,B8,ga,d6,ek,z8 (by omega)];obtain⟨env',s1,Sl1,k1,k2,k3,k4⟩:=ih (q-c0) (by omega) c0 y q rfl hy hys hq1 (by omega) hky s env (b:Int) Sl B hR hF hE (by omega) (by omega);rw[k1,d6];obtain⟨s',Sl',r1,r2⟩:=ihm (e+1) q s1 env' Sl1 (B+6*(q-c0)) (by omega) (by omega) (by omega) hrest k2.ri k2.fi k3 (by omega) (by omega);refine⟨s',Sl',r1,r2.ri.more (by omega),k2.fx.trans r2.fx (i8 _) (by omega) (by omega) (i8 _),r2.fi,Int.le_trans k2.sl r2.sl,fun hg i h1 h2=>?_⟩;by_cases hi:i<q
    ·have hg1:s1.F.Code=0:=T0 fun hc=>r2.fx.bad hc hg;obtain⟨n1,n2⟩:=k2.nd hg1 i h1 hi;exact⟨n1.fx r2.fx r2.sl (.inl hi),n2.fx r2.fx r2.sl (.inl hi)⟩
    ·exact r2.nd hg i (by omega) h2
   ·rw[d8 cb];exact⟨s,Sl,rfl,hR.more (by omega),Fx.refl _ _ _ _ _,hF,N0 _,fun h=>absurd h cb⟩
 rw[a8d,kA,hnd,T8 (by omega) hx t1 t3 t5,d6];obtain⟨s',Sl',r1,r2⟩:=loop _ 0 (b+1) s env Sl B rfl (C8 _) (i8 _) (by rw[L9];exact t5) hR hF hE (by omega) (by omega);refine⟨s',Sl',r1,r2.ri.more (by omega),r2.fx.trans (Fx.refl l fi s' b st') (by omega) (i8 _) (i8 _) (i8 _),r2.fi,r2.sl,fun hg i h1 h2=>?_⟩;by_cases e:i=b
 ·subst e;have:=u0 hx;exact⟨NdE.other ⟨by omega,by omega,by omega⟩,NdS.other (.inl (by omega))⟩
 ·exact r2.nd hg i (by omega) h2
end
end
section
theorem Il{l:List d7}{ks:List Nat}(h:E9 l ks=[]):ks=[]:=by unfold E9 at h;exact List.map_eq_nil_iff.1 h
theorem a0C{l:List d7}{k num:Int}{i:Nat}{ks:List Nat}(h:Fam k num i (E9 l ks) (fkd l ks))(hk:8≤k∧k≤13):∀p∈ks,kd l p=6∨21≤kd l p∧kd l p≤32:=by
 intro p hp;have hm:F4 (kd l p)∈E9 l ks:=List.mem_map.2 ⟨p,hp,rfl⟩;have hs:F4 (kd l p)=101∨F4 (kd l p)=98:=by
  by_cases c8:k=8
  ·rw[(h.k8 c8).1]at hm;simp at hm;exact .inl hm
  by_cases c9:k=9
  ·rcases h.k9 c9 with e|e
   ·rw[e]at hm;simp at hm;exact hm
   ·rw[e]at hm;simp at hm;exact hm
  by_cases c10:k=10
  ·rw[h.k10 c10]at hm;simp at hm;exact hm
  by_cases c11:k=11
  ·rcases h.k11 c11 with e|e
   ·rw[e]at hm;exact nomatch hm
   ·rw[e]at hm;simp at hm;exact .inl hm
  by_cases c12:k=12
  ·rw[h.k12 (.inl c12)]at hm;simp at hm;exact .inl hm
  ·have c13:k=13:=(by omega);rw[(h.k13 c13).1]at hm;simp at hm;exact .inl hm
 rcases hs with e|e
 ·exact .inr (D7 e)
 ·exact .inl (Mf e)
section
variable{l:List d7}(hM:J6 l)(hl:l.length≤30000)(htx:∀n∈l,n.Gs.length≤65536)
include hM hl htx
theorem b2o(nr fi:Nat)(At:Int)(n:Nat)(ih:∀m,m<n→Bk l nr fi At m):Stm l nr fi At n:=by
 intro b x st hn hx hs hb1 hst hk s env blk Sl B hR hF hE hel hB;obtain⟨st',ks,t1,t2,t3,t4,t5,t6,t7⟩:=hM.nd b x hx;have est:st'=st:=(by omega);subst est;have hkl:=t5.le;have hnd:=hR.nodes;have hmk:=hR.marks;have hbig:=hR.big;unfold tot at hbig;have hbl:=(l9.1 hx).1;have hxe:=(l9.1 hx).2;have hkb:=u0 hx;have h5:kd l b≠5:=(by omega);have h6:=hR.ty.len;have hz:s.P.Es.length+ [(R1.mk (fi:Int) (b:Int) x.Ls x.If)].length≤100000000000:=(by rw[y4];omega);have hmb:b<(ptS s ⟨fi,b,x.Ls,x.If⟩).P.Ms.length:=(by show b<s.P.Ms.length;omega);have hml:(ptS s ⟨fi,b,x.Ls,x.If⟩).P.Ms.length≤90000000:=(by show s.P.Ms.length≤_;omega);rw[b48,qE,hnd,l7 hbl,d6,hxe,U5 (by decide) hz,d6,Ou];have e0:(d9.mk (s9.mk l s.P.Ms s.P.To s.P.Rs s.P.Id s.P.As s.P.Ss s.P.Vars (s.P.Es++[(R1.mk (fi:Int) (b:Int) x.Ls x.If)])) s.Rs s.F)=ptS s ⟨fi,b,x.Ls,x.If⟩:=(by rw[←hnd];rfl);rw[e0,Bv _ hml b hmb,d6];have hR0:=(a2c hR ⟨fi,b,x.Ls,x.If⟩).mark b ⟨0,0,s.P.Es.length⟩ (N0 _) (by show(0:Int)<s.P.To.length;omega);have hX0:Fx l fi s (x9 (ptS s ⟨fi,b,x.Ls,x.If⟩) b ⟨0,0,s.P.Es.length⟩) b st':=(a9e l fi s ⟨fi,b,x.Ls,x.If⟩ b st').trans ((Ex.mark l _ b ⟨0,0,s.P.Es.length⟩ b st' (i8 _) (by omega) h5).fx fi) (i8 _) (i8 _) (i8 _) (i8 _);have hF0:FI (x9 (ptS s ⟨fi,b,x.Ls,x.If⟩) b ⟨0,0,s.P.Es.length⟩) fi At Sl:=hF.of rfl rfl;have hm0:(x9 (ptS s ⟨fi,b,x.Ls,x.If⟩) b ⟨0,0,s.P.Es.length⟩).P.Ms[b]? =some ⟨0,0,s.P.Es.length⟩:=(by unfold x9;simp only;rw[Q2 hmb]);have hV0:(x9 (ptS s ⟨fi,b,x.Ls,x.If⟩) b ⟨0,0,s.P.Es.length⟩).P.Vars=s.P.Vars:=rfl;have hF00:(x9 (ptS s ⟨fi,b,x.Ls,x.If⟩) b ⟨0,0,s.P.Es.length⟩).F=s.F:=rfl;generalize x9 (ptS s ⟨fi,b,x.Ls,x.If⟩) b ⟨0,0,s.P.Es.length⟩=s0 at*;have hnd0:=hR0.nodes;simp only;rw[hnd0,T8 (by omega) hx t1 t3 t5,d6];by_cases c7:x.Ks=7
 ·
  obtain⟨e1,e2⟩:=B7 (t6.k7 c7);have hne:ks≠ []:=(by rintro rfl;simp at e1);obtain⟨k,ks',rfl⟩:=List.exists_cons_of_ne_nil hne;have hne2:ks'≠ []:=(by rintro rfl;simp at e1);obtain⟨k2,ks'',rfl⟩:=List.exists_cons_of_ne_nil hne2;have hnil:ks''=[]:=(by simp at e1;exact e1);subst hnil;have s1:=X2 (e2 0 (by simp) (by simp));have s2:=D7 (e2 1 (by simp) (by simp));simp only[H1,Z2]at s1 s2;obtain⟨rfl,y,q,hy,hys,hq1,hq2,hr⟩:=t5.first
  obtain⟨rfl,z,q2,hz',hzs,hz1,hz2,hr2⟩:=hr.first
  have:q2=st':=(by cases hr2;rfl);subst this;rw[u0 hy]at s1;rw[u0 hz']at s2;obtain⟨stz,kz,z1,z2,z3,z4,z5,z6,z7⟩:=hM.nd _ z hz';have estz:stz=q2:=(by omega);subst estz;have g0:i6 (l5 [b+1,k2]) (0:Int)=some ((b+1:Nat):Int):=C6 (i:=0) (ks:=[b+1,k2]) (by simp);have ga0:(l5 [b+1,k2])[Int.toNat 0]? =some ((b+1:Nat):Int):=D9 (i:=0) (ks:=[b+1,k2]) (by simp);have g1:i6 (l5 [b+1,k2]) (1:Int)=some ((k2:Nat):Int):=C6 (i:=1) (ks:=[b+1,k2]) (by simp);have ga1:(l5 [b+1,k2])[Int.toNat 1]? =some ((k2:Nat):Int):=D9 (i:=1) (ks:=[b+1,k2]) (by simp);rw[f9 c7,x4,i5];have ei:([b+1,k2]:List Nat).map (fun(k:Nat)=>(k:Int))=l5 [b+1,k2]:=rfl;rw[ei];simp only;rw[g0,d6,ga0,d6];obtain⟨t,sa,a1,a2,a3,a4,a5⟩:=a0B hM hl htx (b+1) y k2 hy hys (by omega) s0 nr (B+1) hR0 (by omega);have hFa:=hF0.ex a3;have hVa:sa.P.Vars=s.P.Vars:=a3.vars.trans hV0;rw[a1,d6,Q9,d6];have hyk:y.Ks≠14:=(by omega);have fin:∀(s2:d9),RI l nr (B+1+(k2-(b+1))+(stz-k2)) s2→Ex l sa s2 k2 stz→(s2.F.Code=0→sa.F.Code=0∧∀i,k2≤i→i<stz→NdE l s2 Sl i∧NdS l s2 Sl i)→
    ∃env' s' Sl',cP d5 (fi:Int) env blk (b:Int) s ((t,sa,()),()) s2 x=some ((env',s',()),())∧Dv l nr fi At s Sl B b stz s' Sl'∧EOk env' Sl' s'.P.Vars.length∧env'.length≤env.length+1:=by
   intro s2 hR2 hX2 hN2;have hX02:Fx l fi s s2 b stz:=(hX0.trans (a3.fx fi) (i8 _) (i8 _) (by omega) (by omega)).trans (hX2.fx fi) (i8 _) (i8 _) (by omega) (i8 _);have hF2:=hFa.ex hX2;have hV2:s2.P.Vars=s.P.Vars:=hX2.vars.trans hVa;have hnd2:=hR2.nodes;have hmk2:=hR2.marks;have j5:∀f:y6,(s2.F.Code≠0→f.Code≠0)→(f.Code=0→Sl<200)→∃env' s' Sl',dT d5 (fi:Int) env blk (b:Int) s ((t,sa,()),()) ⟨s2.P,s2.Rs,f⟩ x=some ((env',s',()),())∧Dv l nr fi At s Sl B b stz s' Sl'∧EOk env' Sl' s'.P.Vars.length∧env'.length≤env.length+1:=by
    intro f hf h200;have hg:f.Code=0→s2.F.Code=0:=fun c=>T0 fun hc=>hf hc c;have hR3:=hR2.fault f hg;have hX3:Fx l fi s2 ⟨s2.P,s2.Rs,f⟩ b stz:=⟨L8 _,fun _ _=>rfl,fun _ _=>rfl,rfl,rfl,rfl,hf,rfl,fun _ _=>rfl,fun g hg=>⟨g,hg,rfl,rfl,rfl,rfl⟩,L8 _,i8 _,L8 _⟩;have hF3:FI ⟨s2.P,s2.Rs,f⟩ fi At Sl:=hF2.of rfl rfl;rw[a4w,bY,Q9,d6];by_cases cf:f.Code=0
    ·obtain⟨ga,hN⟩:=hN2 (hg cf);have tI:C7 sa.P.To t:=by
      rcases a5 ga with⟨h,_⟩|⟨_,h⟩
      ·exact absurd h hyk
      ·exact h
     have tI2:C7 s2.P.To t:=tI.ext hX2.types;obtain⟨g,hgf,hga,hgs⟩:=hF2.f;have hgl:=(l9.1 hgf).1;have hge:=(l9.1 hgf).2;have hbig2:=hR2.big;have hsum:=hF2.sum;have hat:=hF2.at0;rw[f9 cf,x4,i5];simp only;rw[l7 hgl,d6,hge,Ou,Bv _ (by simp only;omega) b (by simp only;omega),d6];have hR4:=hR3.mark b ⟨t,g.Ss,s.P.Es.length⟩ (by have:=tI2.1;simp only;omega) tI2.2.1;have hX4:=Ex.mark l (⟨s2.P,s2.Rs,f⟩:d9) b ⟨t,g.Ss,s.P.Es.length⟩ b stz (i8 _) (by omega) h5;have hbig4:=hR4.big;have hsl2:s2.P.Ss.length≤tot s2:=(by unfold tot;omega);simp only;rw[MJ (x9 (⟨s2.P,s2.Rs,f⟩:d9) b ⟨t,g.Ss,s.P.Es.length⟩) fi g hgf env (by omega) (by omega) x.Gs t blk _];refine⟨_,_,Sl+1,rfl,⟨?_,?_,?_,by omega,fun hg0 i h1 h2=>?_⟩,?_,by simp⟩
     ·exact(XU hR4 hgf x.Gs t _ (fun _=>tI2)).more (by omega)
     ·exact(hX02.trans hX3 (i8 _) (i8 _) (i8 _) (i8 _)).trans ((hX4.fx fi).trans (HM l (s:=x9 (⟨s2.P,s2.Rs,f⟩:d9) b ⟨t,g.Ss,s.P.Es.length⟩) hgf x.Gs t _ b stz) (i8 _) (i8 _) (i8 _) (i8 _)) (i8 _) (i8 _) (i8 _) (i8 _)
     ·exact KS (hF3.ex hX4) hgf (h200 cf) x.Gs t _
     ·by_cases e:i=b
      ·subst e;refine⟨NdE.other ⟨by omega,by omega,by omega⟩,fun _ _=>⟨⟨t,g.Ss,s.P.Es.length⟩,?_,by simp only;omega,fun _=>⟨?_,?_,tI2⟩⟩⟩
       ·show((x9 (⟨s2.P,s2.Rs,f⟩:d9) i ⟨t,g.Ss,s.P.Es.length⟩).P.Ms)[i]? =_;unfold x9;simp only;rw[Q2 (by omega)]
       ·have:=hF2.sl0;simp only;omega
       ·simp only;omega
      ·by_cases e2:i<k2
       ·have:=Mr hM hl htx _ (b+1) y k2 hy hys rfl (by omega) i (by omega) e2;exact⟨NdE.other ⟨by omega,by omega,by omega⟩,NdS.other (.inr (by omega))⟩
       ·obtain⟨n1,n2⟩:=hN i (by omega) h2;have hXm:=Ex.mark l (⟨s2.P,s2.Rs,f⟩:d9) b ⟨t,g.Ss,s.P.Es.length⟩ b (b+1) (i8 _) (by omega) h5;have hXt:∀first:Int,Fx l fi s2 (U1 (x9 (⟨s2.P,s2.Rs,f⟩:d9) b ⟨t,g.Ss,s.P.Es.length⟩) fi g x.Gs t first) b (b+1):=fun first=>(Fx.trans (lo2:=b) (hi2:=b+1) (⟨L8 _,fun _ _=>rfl,fun _ _=>rfl,rfl,rfl,rfl,hf,rfl,fun _ _=>rfl,fun g hg=>⟨g,hg,rfl,rfl,rfl,rfl⟩,L8 _,i8 _,L8 _⟩:Fx l fi s2 ⟨s2.P,s2.Rs,f⟩ b (b+1)) (hXm.fx fi) (i8 _) (i8 _) (i8 _) (i8 _)).trans (HM l (s:=x9 (⟨s2.P,s2.Rs,f⟩:d9) b ⟨t,g.Ss,s.P.Es.length⟩) hgf x.Gs t first b (b+1)) (i8 _) (i8 _) (i8 _) (i8 _)
        exact⟨n1.fx (hXt _) (by omega) (.inr (by omega)),n2.fx (hXt _) (by omega) (.inr (by omega))⟩
     ·exact OA (by show EOk env Sl s2.P.Vars.length;rw[hV2];exact hE) (hF2.sl0) hgs x.Gs t blk _
    ·rw[d8 cf];exact⟨env,_,Sl,rfl,⟨hR3.more (by omega),hX02.trans hX3 (i8 _) (i8 _) (i8 _) (i8 _),hF3,N0 _,fun h=>absurd h cf⟩,by show EOk env Sl s2.P.Vars.length;rw[hV2];exact hE,by omega⟩
   have j4:∀f:y6,(s2.F.Code≠0→f.Code≠0)→∃env' s' Sl',BE d5 (fi:Int) env blk (b:Int) s ((t,sa,()),()) ⟨s2.P,s2.Rs,f⟩ x=some ((env',s',()),())∧Dv l nr fi At s Sl B b stz s' Sl'∧EOk env' Sl' s'.P.Vars.length∧env'.length≤env.length+1:=by
    intro f hf;obtain⟨g,hgf,hga,hgs⟩:=hF2.f;have hgl:=(l9.1 hgf).1;rw[b4D,eC];simp only;rw[l7 hgl,d6];have hge4:=(l9.1 hgf).2;by_cases c200:s2.P.As[fi].Ss≥200
    ·rw[f9 c200];obtain⟨f',f1,f2⟩:=Z0 ⟨s2.P,s2.Rs,f⟩ 13 (by decide) b (by rw[hnd2];exact hbl);rw[i7,f1,d6];exact j5 f' (fun _=>f2) (fun h=>absurd h f2)
    ·rw[d8 c200];exact j5 f hf (fun _=>by rw[hge4]at c200;omega)
   have l1:∀(m i:Nat) (f:y6),env.length-i=m→(s2.F.Code≠0→f.Code≠0)→∃env' s' Sl',Nd d5 (fi:Int) env blk (b:Int) s ((t,sa,()),()) (i:Int) ⟨s2.P,s2.Rs,f⟩ x=some ((env',s',()),())∧Dv l nr fi At s Sl B b stz s' Sl'∧EOk env' Sl' s'.P.Vars.length∧env'.length≤env.length+1:=by
    intro m
    induction m with
    |zero=>intro i f hi hf;rw[RK,Si,d8 (by omega),i5];exact j4 f hf
    |succ m ihm=>
     intro i f hi hf;have hil:i<env.length:=(by omega);have e:=ihm (i+1) f (by omega) hf;obtain⟨f',f1,f2⟩:=Z0 ⟨s2.P,s2.Rs,f⟩ 7 (by decide) b (by rw[hnd2];exact hbl);have e':=ihm (i+1) f' (by omega) (fun _=>f2);rw[RK,Si,f9 (by omega),i7,l7 hil,d6,d6,z8 (by omega),f1];cases decide (env[i].Js=x.Gs)with
     |false=>exact e
     |true=>
      rw[i7];cases decide (env[i].Zs=blk)with
      |false=>exact e
      |true=>exact e'
   rw[a76,iZ];have:=l1 _ 0 s2.F rfl id;exact this
  simp only;by_cases cb:sa.F.Code=0
  ·obtain⟨s2,r1,r2,r3,r4⟩:=OW hM hl htx fi At Sl env k2 z hz' s2 stz hzs z3 z2 z4 nr sa _ a2 hFa (by rw[hVa];exact hE) (by omega) (by omega);rw[f9 cb,x4,D3,i7,g1,d6,ga1,d6,r1,d6];exact fin s2 r2 r3 (fun hg=>⟨cb,r4 hg⟩)
  ·rw[d8 cb,D3,x4,i5];exact fin sa (a2.more (by omega)) (Ex.refl _ _ _ _) (fun h=>absurd h cb)
 ·
  rw[d8 c7,D3,i7];have hks:=a0C t6 (show 8≤x.Ks∧x.Ks≤13 by omega);have loop:∀(m e c0:Nat) (sA:d9) (SA:Int) (B':Nat),ks.length-e=m→e≤ks.length→b+1≤c0→Kc l c0 st' (ks.drop e)→RI l nr B' sA→FI sA fi At SA→EOk env SA sA.P.Vars.length→B'+6*(st'-c0)≤80000000000→
    ∃s' Sl',Mk d5 (fi:Int) env ((l5 ks,()),()) (e:Int) sA=some ((env,s',()),())∧Dv l nr fi At sA SA B' c0 st' s' Sl'∧EOk env Sl' s'.P.Vars.length:=by
   intro m
   induction m with
   |zero=>
    intro e c0 sA SA B' hm he hc0 hK hRA hFA hEA hBA;have hc:c0=st':=by rw[J1 (by omega)]at hK;cases hK;rfl
    rw[MW,Tz];simp only[A9];rw[d8 (by omega),i5,b5o,qD];exact⟨sA,SA,rfl,⟨hRA.more (by omega),Fx.refl _ _ _ _ _,hFA,N0 _,fun _ i h1 h2=>by omega⟩,hEA⟩
   |succ m ihm=>
    intro e c0 sA SA B' hm he hc0 hK hRA hFA hEA hBA;have hel':e<ks.length:=(by omega);have g:=C6 hel';have ga:=D9 hel';rw[H5 hel']at hK;obtain⟨ek,y,q,hy,hys,hq1,hq2,hrest⟩:=hK.first
    have hky:=hks _ (y5 hel');rw[ek,u0 hy]at hky;have hyl:=(l9.1 hy).1;have hye:=(l9.1 hy).2;have hndA:=hRA.nodes;rw[MW,Tz];simp only[A9];rw[f9 (by omega),i7,Q9,d6];by_cases cb:sA.F.Code=0
    ·rw[f9 cb,x4,i5,g,d6,B8,ga,d6,ek,hndA,l7 hyl,d6,hye,z8 (by omega),d6,d6,d6,d6];have next:∀(s1:d9) (S1:Int),Dv l nr fi At sA SA B' c0 q s1 S1→∃s' Sl',Mk d5 (fi:Int) env ((l5 ks,()),()) ((e+1:Nat):Int) s1=some ((env,s',()),())∧Dv l nr fi At sA SA B' c0 st' s' Sl'∧EOk env Sl' s'.P.Vars.length:=by
      intro s1 S1 k2;obtain⟨s',Sl',r1,r2,r3⟩:=ihm (e+1) q s1 S1 (B'+6*(q-c0)) (by omega) (by omega) (by omega) hrest k2.ri k2.fi (hEA.mono k2.sl k2.fx.vars) (by omega);refine⟨s',Sl',r1,⟨r2.ri.more (by omega),k2.fx.trans r2.fx (i8 _) (by omega) (by omega) (i8 _),r2.fi,Int.le_trans k2.sl r2.sl,fun hg i h1 h2=>?_⟩,r3⟩;by_cases hi:i<q
      ·have hg1:s1.F.Code=0:=T0 fun hc=>r2.fx.bad hc hg;obtain⟨n1,n2⟩:=k2.nd hg1 i h1 hi;exact⟨n1.fx r2.fx r2.sl (.inl hi),n2.fx r2.fx r2.sl (.inl hi)⟩
      ·exact r2.nd hg i (by omega) h2
     by_cases c6:y.Ks=6
     ·rw[f9 c6,i7];obtain⟨s1,S1,k1,k2⟩:=ih (q-c0) (by omega) c0 y q rfl hy hys hq1 (by omega) c6 sA env SA B' hRA hFA hEA (by omega) (by omega);rw[k1,d6];exact next s1 S1 k2
     ·rw[d8 c6,i5];obtain⟨stz,kz,z1,z2,z3,z4,z5,z6,z7⟩:=hM.nd _ y hy;have estz:stz=q:=(by omega);subst estz;obtain⟨s1,r1,r2,r3,r4⟩:=OW hM hl htx fi At SA env c0 y hy (by omega) stz hys z3 z2 z4 nr sA B' hRA hFA hEA (by omega) (by omega);rw[r1,d6];exact next s1 SA ⟨r2.more (by omega),r3.fx fi,hFA.ex r3,N0 _,r4⟩
    ·rw[d8 cb];exact⟨sA,SA,rfl,⟨hRA.more (by omega),Fx.refl _ _ _ _ _,hFA,N0 _,fun h=>absurd h cb⟩,hEA⟩
  obtain⟨s',Sl',r1,r2,r3⟩:=loop _ 0 (b+1) s0 Sl (B+1) rfl (C8 _) (i8 _) (by rw[L9];exact t5) hR0 hF0 (by rw[hV0];exact hE) (by omega);refine⟨env,s',Sl',r1,⟨r2.ri.more (by omega),hX0.trans r2.fx (i8 _) (i8 _) (by omega) (i8 _),r2.fi,r2.sl,fun hg i h1 h2=>?_⟩,r3,by omega⟩;by_cases e:i=b
  ·subst e;refine⟨NdE.other ⟨by omega,by omega,by omega⟩,fun _ _=>⟨⟨0,0,s.P.Es.length⟩,?_,by simp only;omega,fun h=>by omega⟩⟩;rw[r2.fx.marks i (.inl (by omega))];exact hm0
  ·exact r2.nd hg i (by omega) h2
theorem a65(nr fi:Nat)(At:Int):∀n,Bk l nr fi At n∧Stm l nr fi At n:=by
 intro n
 induction n using Nat.strongRecOn with
 |_ n ih=>exact⟨b0l hM hl htx nr fi At n (fun m h=>(ih m h).2),b2o hM hl htx nr fi At n (fun m h=>(ih m h).1)⟩
end
end
section
theorem Kc.drop{l:List d7}{i j:Nat}{ks:List Nat}(h:Kc l i j ks):∀n,n≤ks.length→∃c,i≤c∧Kc l c j (ks.drop n):=by
 induction h with
 |nil i=>intro n hn;exact⟨i,i8 _,by rw[List.drop_nil];exact .nil i⟩
 |cons i k j x ks hx hs hk kids rest ih=>
  intro n hn;cases n with
  |zero=>exact⟨i,i8 _,.cons i k j x ks hx hs hk kids rest⟩
  |succ n=>obtain⟨c,h1,h2⟩:=ih n (by simp at hn;omega);exact⟨c,by omega,h2⟩
structure Gx(l:List d7)(fi:Nat)(s s':d9)(lo hi:Nat):Prop where
 types:s.P.To<+:s'.P.To
 marks:∀i:Nat,(i<lo∨hi≤i)→s'.P.Ms[i]? =s.P.Ms[i]?
 par:∀i:Nat,kd l i=5→s'.P.Ms[i]? =s.P.Ms[i]?
 recs:s'.P.Rs=s.P.Rs
 fields:s'.P.Id=s.P.Id
 own:s'.Rs=s.Rs
 bad:s.F.Code≠0→s'.F.Code≠0
 flen:s'.P.As.length=s.P.As.length
 foth:∀i:Nat,i≠fi→s'.P.As[i]? =s.P.As[i]?
 fcur:∀f,s.P.As[fi]? =some f→∃f',s'.P.As[fi]? =some f'∧f'.Hs=f.Hs∧f'.Ps=f.Ps∧f'.By=f.By
 slots:s.P.Ss<+:s'.P.Ss
theorem Fx.gx{l:List d7}{fi:Nat}{s s':d9}{lo hi:Nat}(h:Fx l fi s s' lo hi):Gx l fi s s' lo hi:=⟨h.types,h.marks,h.par,h.recs,h.fields,h.own,h.bad,h.flen,h.foth,fun f hf=>by obtain⟨f',a1,a2,a3,a4,_⟩:=h.fcur f hf;exact⟨f',a1,a2,a3,a4⟩,h.slots⟩
theorem Gx.trans{l:List d7}{fi:Nat}{s s' s'':d9}{lo hi lo' hi' lo2 hi2:Nat}(h:Gx l fi s s' lo hi)(h':Gx l fi s' s'' lo' hi')(a:lo2≤lo)(b:hi≤hi2)(c:lo2≤lo')(d:hi'≤hi2):Gx l fi s s'' lo2 hi2:=
 ⟨h.types.trans h'.types,fun i hi=>(h'.marks i (by omega)).trans (h.marks i (by omega)),fun i hi=>(h'.par i hi).trans (h.par i hi),h'.recs.trans h.recs,h'.fields.trans h.fields,h'.own.trans h.own,fun hb=>h'.bad (h.bad hb),h'.flen.trans h.flen,fun i hi=>(h'.foth i hi).trans (h.foth i hi),
  fun f hf=>by
  obtain⟨f1,a1,a2,a3,a4⟩:=h.fcur f hf;obtain⟨f2,b1,b2,b3,b4⟩:=h'.fcur f1 a1;exact⟨f2,b1,b2.trans a2,b3.trans a3,b4.trans a4⟩,h.slots.trans h'.slots⟩
theorem NdE.gx{l:List d7}{fi:Nat}{s s':d9}{Sl:Int}{i lo hi:Nat}(h:NdE l s Sl i)(e:Gx l fi s s' lo hi)(hi:i<lo∨hi≤i):NdE l s' Sl i:=by
 refine⟨fun hk=>?_,fun hk=>?_,fun hk=>?_,fun hk=>?_⟩
 ·obtain⟨m,h1,h2,h3,h4⟩:=h.k26 hk;exact⟨m,by rw[e.marks i hi];exact h1,h2,by omega,h4.ext e.types⟩
 ·obtain⟨m,h1,h2⟩:=h.k27 hk;exact⟨m,by rw[e.marks i hi];exact h1,by rw[e.flen];exact h2⟩
 ·obtain⟨m,h1,h2⟩:=h.k32 hk;exact⟨m,by rw[e.marks i hi];exact h1,h2.ext e.types⟩
 ·obtain⟨m,h1,h2⟩:=h.k32t hk;exact⟨m,by rw[e.marks i hi];exact h1,h2.ext e.types⟩
theorem NdS.gx{l:List d7}{fi:Nat}{s s':d9}{Sl:Int}{i lo hi:Nat}(h:NdS l s Sl i)(e:Gx l fi s s' lo hi)(hi:i<lo∨hi≤i):NdS l s' Sl i:=by intro a b;obtain⟨m,h1,h2,h3⟩:=h a b;exact⟨m,by rw[e.marks i hi];exact h1,h2,fun c=>⟨(h3 c).1,(h3 c).2.1,(h3 c).2.2.ext e.types⟩⟩
theorem G7.gx{l:List d7}{fi:Nat}{s s':d9}{lo hi p:Nat}(h:G7 s p)(hp:kd l p=5)(e:Gx l fi s s' lo hi):G7 s' p:=by obtain⟨m,h1,h2⟩:=h;exact⟨m,by rw[e.par p hp];exact h1,h2.ext e.types⟩
def fnS(s:d9)(fi:Nat)(f:t9):d9:=⟨⟨s.P.No,s.P.Ms,s.P.To,s.P.Rs,s.P.Id,s.P.As.set fi f,s.P.Ss,s.P.Vars,s.P.Es⟩,s.Rs,s.F⟩
theorem UH{l:List d7}{nr B:Nat}{s:d9}(h:RI l nr B s){fi:Nat}{f g:t9}(hf:s.P.As[fi]? =some f)(h1:g.Hs=f.Hs)(h2:g.Ps=f.Ps)(h3:g.By=f.By):RI l nr B (fnS s fi g):=by
 refine⟨h.nodes,h.marks,?_,h.ty,h.mt,h.fl,h.rc,fun x hx=>?_,h.sl⟩
 ·have:=h.big;unfold tot fnS at*;simp only[T4];omega
 ·rcases List.mem_or_eq_of_mem_set hx with hx|rfl
  ·exact h.fn x hx
  ·obtain⟨k,y,a1,a2,a3,a4,a5⟩:=h.fn f (K8 hf);exact⟨k,y,h1.trans a1,a2,a3,h2.trans a4,by rw[h3];exact a5⟩
theorem kR(l:List d7){s:d9}{fi:Nat}{f g:t9}(hf:s.P.As[fi]? =some f)(h1:g.Hs=f.Hs)(h2:g.Ps=f.Ps)(h3:g.By=f.By)(lo hi:Nat):Gx l fi s (fnS s fi g) lo hi:=by have hfl:=(l9.1 hf).1;refine⟨L8 _,fun _ _=>rfl,fun _ _=>rfl,rfl,rfl,rfl,id,by unfold fnS;simp only[T4],fun i hi=>by unfold fnS;simp only;rw[Z1 (Ne.symm hi)],fun x hx=>?_,L8 _⟩;rw[hf]at hx;cases hx;exact⟨g,by unfold fnS;simp only;rw[Q2 hfl],h1,h2,h3⟩
def Ku(l:List d7)(s:d9)(f:t9):Prop:=∃(k st np bp:Nat) (x:d7) (ks:List Nat),f.Hs=(k:Int)∧l[k]? =some x∧x.Cs=(st:Int)-(k+1)∧Kc l (k+1) st ks∧ks.length=np+2∧ks[np+1]? =some bp∧f.Ps=(np:Int)∧0≤f.At∧(np:Int)≤f.Ss∧f.At+f.Ss≤s.P.Ss.length∧f.Ss≤200∧∀i,bp≤i→i<st→NdE l s f.Ss i∧NdS l s f.Ss i
theorem a6D{l:List d7}(hl:l.length≤30000)(nr fi:Nat)(At:Int)(ks:List Nat)(np:Nat)(hkl:ks.length=np+2)(hkl2:ks.length≤l.length)(hin:∀p∈ks,p<l.length)(hks:∀(i:Nat) (h1:i<ks.length),i<np→kd l ks[i]=5)(h20:np≤20):∀(n c:Nat) (d:d9) (env:List w7) (B:Nat),np-c=n→c≤np→RI l nr B d→FI d fi At c→EOk env c d.P.Vars.length→env.length=c→(d.F.Code=0→∀p∈ks,kd l p=5→G7 d p)→B+2*n≤80000000000→∃d' env',bG d5 (fi:Int) ((l5 ks,()),()) (c:Int) d env=CS d5 (fi:Int) ((l5 ks,()),()) d' env'∧RI l nr (B+2*n) d'∧FI d' fi At np∧EOk env' np d'.P.Vars.length∧env'.length=np∧Fx l fi d d' 0 0∧d'.F=d.F:=by
 have ew:w64 (((l5 ks).length:Int)-2)=(np:Int):=(by rw[A9,wrap64 (by omega) (by omega)];omega);have ew2:w64 ((np:Int)+1)=((np+1:Nat):Int):=z8 (by omega);intro n
 induction n with
 |zero=>intro c d env B hn hc hR hF hE he hG hB;have:c=np:=(by omega);subst this;rw[WV,Yw];simp only;rw[ew,d8 (by omega),i5];exact⟨d,env,rfl,hR,hF,hE,he,Fx.refl _ _ _ _ _,rfl⟩
 |succ n ih=>
  intro c d env B hn hc hR hF hE he hG hB;have hcl:c<ks.length:=(by omega);have hl1:np+1<ks.length:=(by omega);have hp:=hin _ (y5 hcl);have hnd:=hR.nodes;have hmk:=hR.marks;have hbig:=hR.big;have hpm:ks[c]<d.P.Ms.length:=(by omega);obtain⟨f,hf,hfa,hfs⟩:=hF.f;rw[WV,Yw];simp only;rw[ew,f9 (by omega),i7,C6 hcl,d6,B8,D9 hcl,d6,hnd,l7 hp,d6,d6,d6,l7 hpm,d6,ew2,C6 hl1,d6,B8,D9 hl1,d6,MJ d fi f hf env (by omega) (by omega),d6,z8 (by omega)];have tI:d.F.Code=0→C7 d.P.To d.P.Ms[ks[c]].Ts:=fun hg=>by obtain⟨m,h1,h2⟩:=hG hg _ (y5 hcl) (hks c hcl (by omega));rw[p8 hpm]at h1;cases h1;exact h2
  have hcast:((c:Int)+1)=((c+1:Nat):Int):=(by omega);have hF2:=KS hF hf (by omega) l[ks[c]].Gs d.P.Ms[ks[c]].Ts (d.P.Es.length:Int);have hE2:=OA (fi:=fi) (t:=d.P.Ms[ks[c]].Ts) hE (by omega) hfs l[ks[c]].Gs ((ks[np+1]:Nat):Int) (d.P.Es.length:Int);rw[hcast]at hF2 hE2;obtain⟨d',env',r1,r2,r3,r4,r5,r6,r7⟩:=ih (c+1) (U1 d fi f l[ks[c]].Gs d.P.Ms[ks[c]].Ts (d.P.Es.length:Int)) _ (B+2) (by omega) (by omega) (XU hR hf _ _ _ tI) hF2 hE2 (by simp;exact he) (fun hg p hp' hp5=>hG hg p hp' hp5) (by omega);exact⟨d',env',r1,r2.more (by omega),r3,r4,r5,(HM l hf _ _ _ 0 0).trans r6 (i8 _) (i8 _) (i8 _) (i8 _),r7⟩
section
variable{l:List d7}(hM:J6 l)(hl:l.length≤30000)(htx:∀n∈l,n.Gs.length≤65536)
include hM hl htx
theorem a9j(nr fi:Nat)(s:d9)(B:Nat)(hR:RI l nr B s)(f:t9)(hf:s.P.As[fi]? =some f)(hZ:f.Ss=0∧f.Ps≤20)(hP:s.F.Code=0→PmF l s f)(hB:B+10*l.length≤70000000000):∃(s':d9) (k st:Nat) (x:d7),JT d5 s (fi:Int)=some ((s',()),())∧RI l nr (B+10*l.length) s'∧f.Hs=(k:Int)∧l[k]? =some x∧x.Ks=4∧x.Cs=(st:Int)-(k+1)∧Gx l fi s s' (k+1) st∧(s'.F.Code=0→∃f',s'.P.As[fi]? =some f'∧Ku l s' f'):=by
 have hfl:=(l9.1 hf).1;have hnd:=hR.nodes;have hbig:=hR.big;unfold tot at hbig;obtain⟨k,x,hk,hx,hx4,hpn,_⟩:=hR.fn f (K8 hf);obtain⟨st,ks,t1,t2,t3,t4,t5,t6,t7⟩:=hM.nd k x hx;have hkl:=t5.le;obtain⟨np,n1,n2,n3,n4,n5⟩:=Qa t6 hx4;have hin:∀p∈ks,p<l.length:=fun p hp=>by obtain⟨_,h2,_⟩:=t5.mem p hp;omega
 have hz:([]:List t9).length+s.P.As.length≤100000000000:=(by rw[I0];omega);rw[a2P,oD,U5 (by decide) hz,d6,Z9,l7 hfl,d6,B8,hf,d6,d6];simp only[G4,d6];have g1:(s.P.As.set fi ⟨f.Js,f.Hs,f.Ps,f.By,s.P.Ss.length,f.Ss,f.Us,f.Es⟩)[fi]? =some ⟨f.Js,f.Hs,f.Ps,f.By,s.P.Ss.length,f.Ss,f.Us,f.Es⟩:=Q2 hfl;have l1:fi<(s.P.As.set fi ⟨f.Js,f.Hs,f.Ps,f.By,s.P.Ss.length,f.Ss,f.Us,f.Es⟩).length:=(by rw[T4];exact hfl);rw[l7 l1,d6,g1,d6,d6,List.set_set];simp only;have g2:(s.P.As.set fi ⟨f.Js,f.Hs,f.Ps,f.By,s.P.Ss.length,f.Ss,s.P.Es.length,f.Es⟩)[fi]? =some ⟨f.Js,f.Hs,f.Ps,f.By,s.P.Ss.length,f.Ss,s.P.Es.length,f.Es⟩:=Q2 hfl;have l2:fi<(s.P.As.set fi ⟨f.Js,f.Hs,f.Ps,f.By,s.P.Ss.length,f.Ss,s.P.Es.length,f.Es⟩).length:=(by rw[T4];exact hfl);rw[l7 l2,d6,g2,d6,d6];simp only;rw[hnd,hk,T8 (by omega) hx t1 t3 t5,d6];have e0:(d9.mk (s9.mk l s.P.Ms s.P.To s.P.Rs s.P.Id (s.P.As.set fi ⟨f.Js,f.Hs,f.Ps,f.By,s.P.Ss.length,f.Ss,s.P.Es.length,f.Es⟩) s.P.Ss s.P.Vars s.P.Es) s.Rs s.F)=fnS s fi ⟨f.Js,f.Hs,f.Ps,f.By,s.P.Ss.length,f.Ss,s.P.Es.length,f.Es⟩:=(by rw[←hnd];rfl);rw[←hk,e0];have hR1:=UH hR hf (g:=⟨f.Js,f.Hs,f.Ps,f.By,s.P.Ss.length,f.Ss,s.P.Es.length,f.Es⟩) rfl rfl rfl;have hX1:=kR l hf (g:=⟨f.Js,f.Hs,f.Ps,f.By,s.P.Ss.length,f.Ss,s.P.Es.length,f.Es⟩) rfl rfl rfl (k+1) st;have hF1:FI (fnS s fi ⟨f.Js,f.Hs,f.Ps,f.By,s.P.Ss.length,f.Ss,s.P.Es.length,f.Es⟩) fi s.P.Ss.length ((0:Nat):Int):=⟨⟨_,g2,rfl,hZ.1⟩,by omega,by omega,by show(s.P.Ss.length:Int)+_=s.P.Ss.length;omega,by omega⟩;obtain⟨d',env',r1,r2,r3,r4,r5,r6,r7⟩:=a6D hl nr fi s.P.Ss.length ks np n1 (by omega) hin n3 (by have:=hZ.2;omega) _ 0 (fnS s fi ⟨f.Js,f.Hs,f.Ps,f.By,s.P.Ss.length,f.Ss,s.P.Es.length,f.Es⟩) [] B rfl (C8 _) hR1 hF1 (fun v hv=>nomatch hv) rfl (fun hg p hp hp5=>hP hg k st x ks hk hx t1 t5 p hp hp5) (by omega);have hl1:np+1<ks.length:=(by omega);have ew:w64 (((l5 ks).length:Int)-2)=(np:Int):=(by rw[A9,wrap64 (by omega) (by omega)];omega);have ew2:w64 ((np:Int)+1)=((np+1:Nat):Int):=z8 (by omega);obtain⟨c1,hc1,hK⟩:=t5.drop (np+1) (by omega);rw[H5 hl1,J1 (by omega)]at hK;obtain⟨ek,y,q,hy,hys,hq1,hq2,hrest⟩:=hK.first
 have hq:q=st:=(by cases hrest;rfl);subst hq;have hy6:=n5 hl1;rw[ek,u0 hy]at hy6;obtain⟨s2,S2,k1,k2⟩:=(a65 hM hl htx nr fi s.P.Ss.length (q-c1)).1 c1 y q rfl hy hys hq1 t3 hy6 d' env' np _ r2 r3 r4 (by omega) (by omega);obtain⟨f2,hf2,hfa2,hfs2⟩:=k2.fi.f;have hfl2:=(l9.1 hf2).1;have hbig2:=k2.ri.big;unfold tot at hbig2;have hz2:([]:List t9).length+s2.P.As.length≤100000000000:=(by rw[I0];omega);have ei:(ks.map (fun(k:Nat)=>(k:Int)))=l5 ks:=rfl;rw[ei,show bG d5 (fi:Int) ((l5 ks,()),()) 0 _ []=_ from r1,a6V,wN];simp only;rw[ew,ew2,C6 hl1,d6,B8,D9 hl1,d6,ek,k1,d6];simp only;rw[U5 (by decide) hz2,d6,Z9,l7 hfl2,d6,B8,hf2,d6,d6,d6,d6,d6];simp only[G4,d6];have hX3:=kR l hf2 (g:=⟨f2.Js,f2.Hs,f2.Ps,f2.By,f2.At,f2.Ss,f2.Us,w64 ((s2.P.Es.length:Int)-f2.Us)⟩) rfl rfl rfl (k+1) q;have hX:Gx l fi s (fnS s2 fi ⟨f2.Js,f2.Hs,f2.Ps,f2.By,f2.At,f2.Ss,f2.Us,w64 ((s2.P.Es.length:Int)-f2.Us)⟩) (k+1) q:=by
  have hXp:Gx l fi (fnS s fi ⟨f.Js,f.Hs,f.Ps,f.By,s.P.Ss.length,f.Ss,s.P.Es.length,f.Es⟩) d' (k+1) q:=by have:=r6.gx;exact⟨this.types,fun i _=>this.marks i (by omega),this.par,this.recs,this.fields,this.own,this.bad,this.flen,this.foth,this.fcur,this.slots⟩
  exact((hX1.trans hXp (i8 _) (i8 _) (i8 _) (i8 _)).trans k2.fx.gx (i8 _) (i8 _) (by omega) (i8 _)).trans hX3 (i8 _) (i8 _) (i8 _) (i8 _)
 refine⟨_,k,q,x,rfl,RI.more (B:=B+2*(np-0)+6*(q-c1)) (UH k2.ri hf2 rfl rfl rfl) (by omega),hk,hx,hx4,t1,hX,fun hg=>?_⟩;obtain⟨f3,hf3,a1,a2,a3⟩:=hX.fcur f hf;have hself:(fnS s2 fi ⟨f2.Js,f2.Hs,f2.Ps,f2.By,f2.At,f2.Ss,f2.Us,w64 ((s2.P.Es.length:Int)-f2.Us)⟩).P.As[fi]? =some ⟨f2.Js,f2.Hs,f2.Ps,f2.By,f2.At,f2.Ss,f2.Us,w64 ((s2.P.Es.length:Int)-f2.Us)⟩:=(by unfold fnS;simp only;rw[Q2 hfl2]);rw[hself]at hf3;cases hf3;have hsum:=k2.fi.sum;have hat:=k2.fi.at0;refine⟨_,hself,k,q,np,c1,x,ks,a1.trans hk,hx,t1,t5,n1,by rw[p8 hl1,ek],by rw[a2,hpn];exact n2,by simp only;omega,by have:=k2.sl;simp only;omega,by show f2.At+f2.Ss≤s2.P.Ss.length;omega,by have:=k2.fi.s2;show f2.Ss≤200;omega,fun i h1 h2=>?_⟩;obtain⟨z1,z2⟩:=k2.nd hg i h1 h2;rw[←hfs2]at z1 z2;exact⟨z1.gx (kR l hf2 (g:=⟨f2.Js,f2.Hs,f2.Ps,f2.By,f2.At,f2.Ss,f2.Us,w64 ((s2.P.Es.length:Int)-f2.Us)⟩) rfl rfl rfl 0 0) (.inr (by omega)),z2.gx (kR l hf2 (g:=⟨f2.Js,f2.Hs,f2.Ps,f2.By,f2.At,f2.Ss,f2.Us,w64 ((s2.P.Es.length:Int)-f2.Us)⟩) rfl rfl rfl 0 0) (.inr (by omega))⟩
end
end
section
structure Yt(l:List d7)(s:d9)(nr:Nat):Prop where
 ri:RI l nr 70000000000 s
 good:s.F.Code=0
 recs:s.P.Rs.length=nr
 nr100:nr≤100
 fns:∀f∈s.P.As,Ku l s f
 pm:∀f∈s.P.As,PmF l s f
 fn100:s.P.As.length≤100
 order:∃ts:List Nat,s.P.As.map t9.Hs=l5 ts∧ts.Pairwise (· < ·)
section
variable{l:List d7}(hM:J6 l)
include hM
theorem a7P:∀(n b:Nat) (x:d7) (q:Nat),l[b]? =some x→x.Cs=(q:Int)-(b+1)→q-b=n→5≤x.Ks→∀j,b≤j→j<q→5≤kd l j:=by
 intro n
 induction n using Nat.strongRecOn with
 |_ n ih=>
 intro b x q hx hs hn hk j h1 h2;obtain⟨st,ks,t1,t2,t3,t4,t5,t6,t7⟩:=hM.nd b x hx;have est:st=q:=(by omega);subst est;by_cases e:j=b
 ·subst e;rw[u0 hx];exact hk
 obtain⟨k,hkm,y,q2,a1,a2,a3,a4,a5,a6⟩:=t5.cover j (by omega) h2;have hmem:F4 (kd l k)∈E9 l ks:=List.mem_map.2 ⟨k,hkm,rfl⟩;have hk5:5≤kd l k:=by
  by_cases c5:x.Ks=3∨x.Ks=5∨x.Ks=20
  ·rw[t6.k3 c5]at hmem;simp at hmem;have:=X2 hmem;omega
  by_cases c6:x.Ks=6
  ·have:=mR (t6.k6 c6 _ hmem);omega
  by_cases c7:x.Ks=7
  ·rw[t6.k7 c7]at hmem;simp at hmem;rcases hmem with h|h
   ·have:=X2 h;omega
   ·have:=D7 h;omega
  by_cases c8:8≤x.Ks∧x.Ks≤13
  ·have:=a0C t6 c8 k hkm;omega
  by_cases c27:x.Ks=27
  ·have:=D7 (t6.k27 c27 _ hmem);omega
  by_cases c28:x.Ks=28∨x.Ks=31
  ·rw[t6.k28 c28]at hmem;simp at hmem;have:=D7 hmem;omega
  by_cases c29:x.Ks=12∨x.Ks=29∨x.Ks=30
  ·rw[t6.k12 c29]at hmem;simp at hmem;have:=D7 hmem;omega
  by_cases c32:x.Ks=32
  ·rcases t6.k32 c32 with⟨h,_⟩|⟨h,_⟩
   ·rw[h]at hmem;simp at hmem;have:=X2 hmem;omega
   ·rw[h]at hmem;simp at hmem;rcases hmem with h|h
    ·have:=X2 h;omega
    ·have:=D7 h;omega
  ·have:=(t6.kr (by omega)).1;rw[this]at hmem;exact nomatch hmem
 rw[u0 a1]at hk5;exact ih (q2-k) (by omega) k y q2 a1 a2 rfl hk5 j a3 a4
theorem RY(b:Nat)(x:d7)(q:Nat)(hx:l[b]? =some x)(hs:x.Cs=(q:Int)-(b+1))(hk:x.Ks=4):∀j,b<j→j<q→5≤kd l j:=by
 intro j h1 h2;obtain⟨st,ks,t1,t2,t3,t4,t5,t6,t7⟩:=hM.nd b x hx;have est:st=q:=(by omega);subst est;obtain⟨np,n1,n2,n3,n4,n5⟩:=Qa t6 hk;obtain⟨k,hkm,y,q2,a1,a2,a3,a4,a5,a6⟩:=t5.cover j (by omega) h2;obtain⟨i,hi,rfl⟩:=List.getElem_of_mem hkm;have hk5:5≤kd l ks[i]:=by
  by_cases c:i<np
  ·have:=n3 i hi c;omega
  ·by_cases c2:i=np
   ·subst c2;have:=n4 hi;omega
   ·have:i=np+1:=(by omega);subst this;have:=n5 hi;omega
 rw[u0 a1]at hk5;exact a7P hM _ ks[i] y q2 a1 a2 rfl hk5 j a3 a4
end
theorem Gx.nodes{l:List d7}{fi:Nat}{s s':d9}{lo hi:Nat}(h:Gx l fi s s' lo hi):s'.P.As.map t9.Hs=s.P.As.map t9.Hs:=by
 apply List.ext_getElem?
 intro i;rw[M1,M1];by_cases e:i=fi
 ·subst e;cases hf:s.P.As[i]? with
  |none=>
   have:s'.P.As[i]? =none:=by rw[List.getElem?_eq_none_iff]at hf⊢;rw[h.flen];exact hf
   rw[this]
  |some f=>obtain⟨f',a1,a2,_⟩:=h.fcur f hf;rw[a1];simp[a2]
 ·rw[h.foth i e]
theorem Ku.gx{l:List d7}{fi:Nat}{s s':d9}{lo hi:Nat}{f:t9}(h:Ku l s f)(e:Gx l fi s s' lo hi)(hd:∀(k st:Nat) (x:d7),f.Hs=(k:Int)→l[k]? =some x→x.Cs=(st:Int)-(k+1)→∀i,k<i→i<st→i<lo∨hi≤i):Ku l s' f:=by obtain⟨k,st,np,bp,x,ks,a1,a2,a3,a4,a5,a6,a7,a8,a9,a10,a12,a11⟩:=h;have hlen:=e.slots.length_le;refine⟨k,st,np,bp,x,ks,a1,a2,a3,a4,a5,a6,a7,a8,a9,by omega,a12,fun i h1 h2=>?_⟩;obtain⟨z1,z2⟩:=a11 i h1 h2;have hbp:=(a4.mem bp (K8 a6)).1;have:=hd k st x a1 a2 a3 i (by omega) h2;exact⟨z1.gx e this,z2.gx e this⟩
section
variable{l:List d7}(hM:J6 l)(hl:l.length≤30000)(htx:∀n∈l,n.Gs.length≤65536)
include hM hl htx
theorem a8M(nr N:Nat)(hN:N≤100)(ts:List Nat)(hts:ts.Pairwise (· < ·)):∀(n i:Nat) (s:d9) (B:Nat),N-i=n→i≤N→RI l nr B s→s.P.As.length=N→s.P.As.map t9.Hs=l5 ts→(s.F.Code=0→(∀f∈s.P.As,PmF l s f)∧(∀(j:Nat) (f:t9),j<i→s.P.As[j]? =some f→Ku l s f))→(∀(j:Nat) (f:t9),i≤j→s.P.As[j]? =some f→f.Ss=0∧f.Ps≤20)→B+(10*l.length)*n≤69000000000→∃s',Ic d5 (N:Int) (i:Int) s=Wq d5 s'∧RI l nr (B+(10*l.length)*n) s'∧s'.P.Rs=s.P.Rs∧s'.P.As.length=N∧s'.P.As.map t9.Hs=l5 ts∧(s.F.Code≠0→s'.F.Code≠0)∧(s'.F.Code=0→(∀f∈s'.P.As,PmF l s' f)∧∀f∈s'.P.As,Ku l s' f):=by
 intro n
 induction n with
 |zero=>intro i s B hn hi hR hlen hmap hg hz hB;rw[iP,Jl,d8 (by omega),i5];refine⟨s,rfl,hR.more (by omega),rfl,hlen,hmap,id,fun h=>⟨(hg h).1,fun f hf=>?_⟩⟩;obtain⟨j,hj,rfl⟩:=List.getElem_of_mem hf;exact(hg h).2 j _ (by omega) (p8 hj)
 |succ n ih=>
  intro i s B hn hi hR hlen hmap hg hz hB;rw[Nat.mul_succ]at hB;have hil:i<s.P.As.length:=(by omega);rw[iP,Jl,f9 (by omega),i7,Q9,d6,z8 (by omega)];by_cases cb:s.F.Code=0
  ·rw[f9 cb,x4,D3,i7];have hf:s.P.As[i]? =some s.P.As[i]:=p8 hil;obtain⟨s1,k,st,x,r1,r2,r3,r4,r5,r6,r7,r8⟩:=a9j hM hl htx nr i s B hR _ hf (hz i _ (i8 _) hf) (fun _=>(hg cb).1 _ (y5 hil)) (by omega);have hmap1:=r7.nodes.trans hmap;have hkts:∃(h:i<ts.length),ts[i]=k:=by
    have h1:=congrArg (fun L=>L[i]?) hmap;simp only[M1,hf,G0]at h1;have hil2:i<ts.length:=by have:=congrArg List.length hmap;rw[H2,A9]at this;omega
    rw[D9 hil2,r3]at h1;injection h1 with h1
    exact⟨hil2,by omega⟩
   obtain⟨hit,hkt⟩:=hkts;rw[r1,d6];obtain⟨s',z1,z2,z3,z4,z5,z6,z7⟩:=ih (i+1) s1 (B+10*l.length) (by omega) (by omega) r2 (by rw[r7.flen];exact hlen) hmap1 (fun hg1=>by
    obtain⟨p1,p2⟩:=hg cb;refine⟨fun f hf1=>?_,fun j f hj hfj=>?_⟩
    ·
     obtain⟨j,hj,rfl⟩:=List.getElem_of_mem hf1;have hjs:j<s.P.As.length:=(by rw[←r7.flen];exact hj);have hnode:s1.P.As[j].Hs=s.P.As[j].Hs:=by have:=congrArg (fun L=>L[j]?) r7.nodes;simp only[M1,p8 hj,p8 hjs,G0]at this;injection this
     intro k0 st0 x0 ks0 a1 a2 a3 a4 p hp hp5;exact(p1 _ (y5 hjs) k0 st0 x0 ks0 (hnode.symm.trans a1) a2 a3 a4 p hp hp5).gx hp5 r7
    ·by_cases e:j=i
     ·subst e;obtain⟨f',b1,b2⟩:=r8 hg1;rw[hfj]at b1;cases b1;exact b2
     ·rw[r7.foth j e]at hfj;refine(p2 j f (by omega) hfj).gx r7 (fun k0 st0 x0 a1 a2 a3 i' h1 h2=>?_);have hjt:∃(h:j<ts.length),ts[j]=k0:=by
       have h1:=congrArg (fun L=>L[j]?) hmap;simp only[M1,hfj,G0]at h1;have hjl2:j<ts.length:=(by omega);rw[D9 hjl2,a1]at h1;injection h1 with h1
       exact⟨hjl2,by omega⟩
      obtain⟨hj2,hk2⟩:=hjt;have hlt:k0<k:=by have:=List.pairwise_iff_getElem.1 hts j i hj2 hit (by omega);omega
      have hx04:x0.Ks=4:=by obtain⟨kk,xx,c1,c2,c3,_⟩:=hR.fn f (K8 hfj);have:kk=k0:=(by omega);subst this;rw[a2]at c2;cases c2;exact c3
      have:¬k<st0:=fun hlt2=>by have:=RY hM k0 x0 st0 a2 a3 hx04 k hlt hlt2;rw[u0 r4]at this;omega
      left
      omega) (fun j f hj hfj=>by rw[r7.foth j (by omega)]at hfj;exact hz j f (by omega) hfj) (by omega)
   exact⟨s',z1,z2.more (by rw[Nat.mul_succ];omega),z3.trans r7.recs,z4,z5,fun h=>absurd cb h,z7⟩
  ·rw[d8 cb,D3,x4,i5];obtain⟨s',z1,z2,z3,z4,z5,z6,z7⟩:=ih (i+1) s B (by omega) (by omega) hR hlen hmap (fun h=>absurd h cb) (fun j f hj hfj=>hz j f (by omega) hfj) (by omega);exact⟨s',z1,z2.more (by rw[Nat.mul_succ];omega),z3,z4,z5,z6,z7⟩
theorem a2x(N:Int)(s:d9)(hN:N≤100000000000)(hb:s.F.Code≠0):∀(n i:Nat),N.toNat-i=n→Ic d5 N (i:Int) s=Wq d5 s:=by
 intro n
 induction n with
 |zero=>intro i hi;rw[iP,Jl,d8 (by omega),i5]
 |succ n ih=>intro i hi;have e:=ih (i+1) (by omega);rw[iP,Jl,f9 (by omega),i7,Q9,d6,d8 hb,z8 (by omega)];exact e
end
end
section
def Pc(l:List d7)(r:Option ((s9 × y6 × Unit) × Unit)):Prop:=∃(P:s9) (f:y6),r=some ((P,f,()),())∧(f.Code=0→∃s nr,P=s.P∧Yt l s nr∧J6 l)
theorem ZH(s:d9)(f:y6):tot ⟨s.P,s.Rs,f⟩=tot s:=rfl
theorem a2f(l:List d7)(s:d9)(hb:s.F.Code≠0):Pc l (Wq d5 s):=by rw[XQ,Wf,Q9,d6,d8 hb];exact⟨_,_,rfl,fun h=>absurd h hb⟩
section
variable{l:List d7}(hM:J6 l)(hl:l.length≤30000)(htx:∀n∈l,n.Gs.length≤65536)
include hM hl htx
theorem GR(s:d9)(hb:s.F.Code≠0)(ht:tot s≤90000000000):Pc l (Ll d5 s):=by have hf:s.P.As.length≤tot s:=(by unfold tot;omega);rw[NG,Yl,show Ic d5 (s.P.As.length:Int) 0 s=_ from a2x hM hl htx (s.P.As.length:Int) s (by omega) hb _ 0 rfl];exact a2f l s hb
theorem TO{nr:Nat}(hnr:nr≤100){s:d9}(hR:RI l nr (40*(l.length+10)*(l.length+10)) s)(hrec:s.F.Code=0→s.P.Rs.length=nr)(hZ:∀f∈s.P.As,f.At=0∧f.Ss=0∧f.Ps≤20)(hP:s.F.Code=0→(∀f∈s.P.As,PmF l s f)∧(∃ts:List Nat,s.P.As.map t9.Hs=l5 ts∧ts.Pairwise (· < ·))∧s.P.As.length≤100):Pc l (eO d5 s):=by
 have e2:40*(l.length+10)*(l.length+10)=40*((l.length+10)*(l.length+10)):=Nat.mul_assoc _ _ _;have hsq2:(l.length+10)*(l.length+10)≤30010*30010:=Nat.mul_le_mul (by omega) (by omega);have hbig:=hR.big;have ht:tot s≤90000000000:=Ea hbig (by rw[e2];exact Ea (Nat.mul_le_mul_left 40 hsq2) (by decide));have hfl:s.P.As.length≤tot s:=(by unfold tot;omega);rw[a8R,lY,Q9,d6];by_cases cb:s.F.Code=0
 ·rw[f9 cb,x4,D3,i7];obtain⟨hp1,⟨ts,hp2,hp3⟩,hp4⟩:=hP cb;obtain⟨n,hn,n1,n2⟩:=OD s (by omega) ([109,97,105,110]:b5Y);rw[hn,d6];by_cases c0:n<0
  ·rw[f9 c0];exact GR hM hl htx ⟨s.P,s.Rs,⟨11,0,0⟩⟩ (show(11:Int)≠0 by decide) (by rw[ZH];exact ht)
  ·have en:n=((n.toNat:Nat):Int):=(by omega);have hnl:n.toNat<s.P.As.length:=(by omega);have hft:s.P.As[n.toNat]? =some s.P.As[n.toNat]:=p8 hnl;have ok:Pc l (Ll d5 s):=by
    have hlen2:(10*l.length)*s.P.As.length≤(10*l.length)*100:=Nat.mul_le_mul_left _ hp4;obtain⟨s',z1,z2,z3,z4,z5,z6,z7⟩:=a8M hM hl htx nr s.P.As.length hp4 ts hp3 _ 0 s _ rfl (C8 _) hR rfl hp2 (fun _=>⟨hp1,fun j f hj _=>absurd hj (Nat.not_lt_zero _)⟩) (fun j f _ hf=>(hZ f (K8 hf)).2) (by simp only[Nat.sub_zero];omega);rw[NG,Yl,show Ic d5 (s.P.As.length:Int) 0 s=_ from z1,XQ,Wf,Q9,d6];by_cases cg:s'.F.Code=0
    ·rw[f9 cg];simp only[Nat.sub_zero]at z2;exact⟨_,_,rfl,fun _=>⟨s',nr,rfl,⟨z2.more (by omega),cg,by rw[z3];exact hrec cb,hnr,(z7 cg).2,(z7 cg).1,by omega,⟨ts,z5,hp3⟩⟩,hM⟩⟩
    ·rw[d8 cg];exact⟨_,_,rfl,fun h=>absurd h cg⟩
   have j2:Pc l (qP d5 ((n,()),()) s):=by obtain⟨k,x,a1,a2,_⟩:=hR.fn _ (y5 hnl);have hkl:=(l9.1 a2).1;obtain⟨f,f1,f2⟩:=Z0 s 11 (by decide) k (by rw[hR.nodes];exact hkl);rw[a4x,kQ];simp only;rw[en,l7 hnl,d6,B8,hft,d6,d6,a1,Mw,f1,d6];exact GR hM hl htx ⟨s.P,s.Rs,f⟩ f2 (by rw[ZH];exact ht)
   have gN:i6 s.P.As n=some s.P.As[n.toNat]:=Hg (by omega) n2;have gT:s.P.As[Int.toNat n]? =some s.P.As[n.toNat]:=hft;rw[d8 c0,i5];simp only;rw[gN,d6,gT,d6,d6];cases decide (s.P.As[n.toNat].Ps>0)with
   |true=>exact j2
   |false=>
    rw[i5,d6,d6,d6];cases decide (s.P.As[n.toNat].By=0)with
    |true=>exact ok
    |false=>exact j2
 ·rw[d8 cb];exact GR hM hl htx s cb ht
end
theorem a7Q{l:List d7}(hl:l.length≤30000)(htx:∀n∈l,n.Gs.length≤65536):Pc l (xZ d5 l):=by
 obtain⟨b,h1,h2⟩:=WC (by omega) htx;rw[b4r,wS,h1,d6];cases b with
 |false=>exact⟨_,_,rfl,fun h=>absurd h (by decide)⟩
 |true=>
  have hM:=h2 rfl;have o24:R2 24 (l.length:Int):=(by unfold R2 maxLen;omega);obtain⟨s1,nr,g1,g2,g3⟩:=a2m hM hl htx (List.replicate (Int.toNat (l.length:Int)) ⟨0,0,0⟩) (by simp) (fun m hm=>by rw[List.eq_of_mem_replicate hm]);have e1:20*(l.length+10)*(l.length+10)=20*((l.length+10)*(l.length+10)):=Nat.mul_assoc _ _ _;have e2:40*(l.length+10)*(l.length+10)=40*((l.length+10)*(l.length+10)):=Nat.mul_assoc _ _ _;rw[x4,i5,W5 o24,d6,g1,d6,Q9,d6];by_cases cb:s1.F.Code=0
  ·obtain⟨s2,k1,k2,k3,k4,k5⟩:=a4e hM hl htx g2;rw[f9 cb,x4,D3,i7,k1,d6];exact TO hM hl htx g3 k2 (fun hg=>by rw[k3.recs];exact g2.recs cb) k4 k5
  ·rw[d8 cb,D3,x4,i5];exact TO hM hl htx g3 (g2.ri.more (by omega)) (fun hg=>absurd hg cb) (fun f hf=>by rw[g2.fns]at hf;exact nomatch hf) (fun hg=>absurd hg cb)
end
section
structure CI(l:List d7)(P:s9)(c:l8):Prop where
 nodes:c.L=l
 prog:c.P=P
 tys:c.T=P.To
 len:c.M.length=l.length
 ty:∀m∈c.M,0≤m.Ts∧m.Ts<P.To.length
 rf:∀(i:Nat) (m:l4),c.M[i]? =some m→∃m0,P.Ms[i]? =some m0∧m.In=m0.In∧(kd l i≠29→m.Ds=m0.Ds)∧(kd l i<21∨kd l i=32→m.Ts=m0.Ts)
theorem CI.fault{l:List d7}{P:s9}{c:l8}(h:CI l P c)(f:y6):CI l P ⟨c.L,c.M,c.P,c.T,f,c.By⟩:=⟨h.nodes,h.prog,h.tys,h.len,h.ty,h.rf⟩
structure Cx(c c':l8)(lo hi:Nat):Prop where
 marks:∀i:Nat,(i<lo∨hi≤i)→c'.M[i]? =c.M[i]?
 res:c'.By=c.By
 bad:c.F.Code≠0→c'.F.Code≠0
theorem Cx.refl(c:l8)(lo hi:Nat):Cx c c lo hi:=⟨fun _ _=>rfl,rfl,id⟩
theorem Cx.trans{c c' c'':l8}{lo hi lo' hi' lo2 hi2:Nat}(h:Cx c c' lo hi)(h':Cx c' c'' lo' hi')(a:lo2≤lo)(b:hi≤hi2)(d:lo2≤lo')(e:hi'≤hi2):Cx c c'' lo2 hi2:=⟨fun i hi=>(h'.marks i (by omega)).trans (h.marks i (by omega)),h'.res.trans h.res,fun hb=>h'.bad (h.bad hb)⟩
theorem Cx.fault(c:l8)(f:y6)(hf:f.Code≠0)(lo hi:Nat):Cx c ⟨c.L,c.M,c.P,c.T,f,c.By⟩ lo hi:=⟨fun _ _=>rfl,rfl,fun _=>hf⟩
theorem Ih(c:l8)(e:Int)(he:e≠0)(i:Nat)(hi:i<c.L.length):∃f:y6,Ef d5 c e (i:Int)=some (((⟨c.L,c.M,c.P,c.T,f,c.By⟩:l8),()),())∧f.Code≠0:=by
 rw[a2b,oM];by_cases cb:c.F.Code=0
 ·rw[f9 cb,i7,l7 hi,d6,d6];exact⟨_,rfl,he⟩
 ·rw[d8 cb];exact⟨c.F,rfl,cb⟩
theorem Y0(c:l8)(b:Bool)(i:Nat)(hi:i<c.L.length):∃f:y6,J4 d5 c b (i:Int)=some (((⟨c.L,c.M,c.P,c.T,f,c.By⟩:l8),()),())∧(f.Code=0→c.F.Code=0∧b=true):=by
 rw[a73,uL];cases b with
 |true=>exact⟨c.F,rfl,fun h=>⟨h,rfl⟩⟩
 |false=>obtain⟨f,f1,f2⟩:=Ih c 9 (by decide) i hi;rw[i5,f1];exact⟨f,rfl,fun h=>absurd h f2⟩
theorem a6A(T:List r9)(a b:Int):∃r,AN d5 T a b=some ((r,()),())∧(r=true→0≤a∧a<T.length∧0≤b∧b<T.length∧(a=b∨a=5)):=by
 rw[b1N,pZ];by_cases a0:a<0
 ·rw[f9 a0];exact⟨_,rfl,fun h=>nomatch h⟩
 by_cases b0:b<0
 ·rw[d8 a0,f9 b0];exact⟨_,rfl,fun h=>nomatch h⟩
 by_cases a1:a≥(T.length:Int)
 ·rw[d8 a0,d8 b0,f9 a1];exact⟨_,rfl,fun h=>nomatch h⟩
 by_cases b1:b≥(T.length:Int)
 ·rw[d8 a0,d8 b0,d8 a1,f9 b1];exact⟨_,rfl,fun h=>nomatch h⟩
 rw[d8 a0,d8 b0,d8 a1,d8 b1,i5,i5,i5,i5];by_cases a5:a=5
 ·have g:i6 T b=some T[b.toNat]:=Hg (by omega) (by omega);rw[f9 a5,i7,g,d6,d6];cases decide (T[b.toNat].Ks=6)with
  |true=>exact⟨_,rfl,fun _=>⟨by omega,by omega,by omega,by omega,.inr a5⟩⟩
  |false=>
   rw[i5];cases decide (T[b.toNat].Ks=7)with
   |true=>exact⟨_,rfl,fun _=>⟨by omega,by omega,by omega,by omega,.inr a5⟩⟩
   |false=>exact⟨_,rfl,fun _=>⟨by omega,by omega,by omega,by omega,.inr a5⟩⟩
 ·rw[d8 a5];exact⟨_,rfl,fun h=>⟨by omega,by omega,by omega,by omega,.inl (D6 h)⟩⟩
theorem Oh(c:l8)(a b:Int):∃r,Au d5 c a b=some ((r,()),())∧(r=true→0≤a∧a<c.T.length∧0≤b∧b<c.T.length∧(a=b∨a=5)):=by obtain⟨r,h1,h2⟩:=a6A c.T a b;rw[b4P,nI,h1];exact⟨r,rfl,h2⟩
theorem bE(c:l8)(t:Int)(h0:0≤t)(h1:t<c.T.length):∃x,c.T[t.toNat]? =some x∧i6 c.T t=some x∧Jy d5 c t=some ((x.Ks,()),()):=by have hl:t.toNat<c.T.length:=(by omega);have g:i6 c.T t=some c.T[t.toNat]:=Hg h0 h1;refine⟨c.T[t.toNat],p8 hl,g,?_⟩;rw[a7l,fN,g];rfl
theorem b0x(c:l8)(t x:Int)(h0:0≤t)(h1:t<c.T.length)(hT:∀y,c.T[0]? =some y→y.Ks≠7):∃r,HP d5 c t x=some ((r,()),())∧(r=true→t≠0):=by
 obtain⟨y,y1,y2,y3⟩:=bE c t h0 h1;rw[a9d,rO];cases decide (x=105)with
 |true=>exact⟨_,rfl,fun h=>by have:=D6 h;omega⟩
 |false=>
  rw[i5];cases decide (x=99)with
  |true=>exact⟨_,rfl,fun h=>by have:=D6 h;omega⟩
  |false=>
   rw[i5];cases decide (x=108)with
   |true=>
    rw[i7];by_cases c3:t=3
    ·rw[f9 c3];exact⟨_,rfl,fun _=>by omega⟩
    ·rw[d8 c3,i5,y3,d6];refine⟨_,rfl,fun h=>?_⟩;have hk:=D6 h;rintro rfl;exact hT y y1 hk
   |false=>
    rw[i5];by_cases c1:t=1
    ·rw[f9 c1];exact⟨_,rfl,fun _=>by omega⟩
    ·rw[d8 c1,i5];by_cases c2:t=2
     ·rw[f9 c2];exact⟨_,rfl,fun _=>by omega⟩
     ·rw[d8 c2];exact⟨_,rfl,fun h=>by have:=D6 h;omega⟩
def Gq(c:l8)(i:Nat)(m:l4)(t:Int):l8:=⟨c.L,c.M.set i ⟨t,m.Ds,m.In⟩,c.P,c.T,c.F,c.By⟩
theorem a4y(c:l8)(hl:c.M.length≤90000000)(i:Nat)(m:l4)(hm:c.M[i]? =some m)(t:Int):BR d5 c (i:Int) t=some ((Gq c i m t,()),()):=by have hi:=(l9.1 hm).1;have hz:([]:List l4).length+c.M.length≤100000000:=(by rw[I0];omega);rw[a8J,xD,J9 (by decide) hz,d6,Z9,l7 hi,d6,B8,hm,d6,d6];rfl
theorem CI.typed{l:List d7}{P:s9}{c:l8}(h:CI l P c){i:Nat}{m:l4}(hm:c.M[i]? =some m)(t:Int)(h0:0≤t)(h1:t<P.To.length)(hk:21≤kd l i)(h32:kd l i=32→t=m.Ts):CI l P (Gq c i m t):=by
 have hi:=(l9.1 hm).1;refine⟨h.nodes,h.prog,h.tys,by unfold Gq;simp only[T4];exact h.len,fun x hx=>?_,fun j x hx=>?_⟩
 ·rcases List.mem_or_eq_of_mem_set hx with hx|rfl
  ·exact h.ty x hx
  ·exact⟨h0,h1⟩
 ·unfold Gq at hx;simp only at hx;by_cases e:j=i
  ·subst e;rw[Q2 hi]at hx;cases hx;obtain⟨m0,a1,a2,a3,a4⟩:=h.rf j m hm;exact⟨m0,a1,a2,a3,fun hh=>by
    rcases hh with hh|hh
    ·omega
    ·show t=m0.Ts;rw[h32 hh];exact a4 (.inr hh)⟩
  ·rw[Z1 (Ne.symm e)]at hx;exact h.rf j x hx
theorem Cx.typed(c:l8)(i:Nat)(m:l4)(t:Int)(lo hi:Nat)(h1:lo≤i)(h2:i<hi):Cx c (Gq c i m t) lo hi:=⟨fun j hj=>by unfold Gq;simp only;rw[Z1 (by omega)],rfl,id⟩
def Qx(n:Int):Nat:=if n=5 then 2 else if n=0∨n=7 then 0 else 1
theorem b42(n:Int)(h1:1≤n)(h8:n≤8):∃(row:b5Y) (t:Int),CO d5 n=some ((row,t,()),())∧row.length=Qx n∧1≤t∧t≤4:=by have:n=1∨n=2∨n=3∨n=4∨n=5∨n=6∨n=7∨n=8:=(by omega);rw[a2G,gY];rcases this with rfl|rfl|rfl|rfl|rfl|rfl|rfl|rfl<;>exact⟨_,_,rfl,rfl,by decide,by decide⟩
theorem a6g(c:l8)(op a b:Int)(h6:6≤c.T.length)(hT:∀y,c.T[0]? =some y→y.Ks<5)(a0:0≤a)(a1:a<c.T.length)(b0:0≤b)(b1:b<c.T.length):∃r:Int,FQ d5 c op a b=some ((r,()),())∧0≤r∧r≤4∧(0<r→a≠0∧b≠0):=by
 obtain⟨x,x1,x2,x3⟩:=bE c a a0 a1;obtain⟨y,y1,y2,y3⟩:=bE c b b0 b1;have none:∃r:Int,Ht d5=some ((r,()),())∧0≤r∧r≤4∧(0<r→a≠0∧b≠0):=⟨0,b1A,by omega,by omega,fun h=>by omega⟩;have zero:∃r:Int,(some ((0,()),()):Option RT2)=some ((r,()),())∧0≤r∧r≤4∧(0<r→a≠0∧b≠0):=⟨0,rfl,by omega,by omega,fun h=>by omega⟩;have j0:∃r:Int,dC d5 a b=some ((r,()),())∧0≤r∧r≤4∧(0<r→a≠0∧b≠0):=by
  rw[a3E,iW];by_cases e:a=b
  ·rw[f9 e,i7];by_cases p:a>0
   ·rw[f9 p];exact⟨2,rfl,by omega,by omega,fun _=>by omega⟩
   ·rw[d8 p];exact none
  ·rw[d8 e];exact none
 have j1:∃r:Int,kE d5 a b ((x.Ks,()),()) ((y.Ks,()),()) c=some ((r,()),())∧0≤r∧r≤4∧(0<r→a≠0∧b≠0):=by
  rw[a57,pS];by_cases xa:x.Ks≥5
  ·by_cases ya:y.Ks≥5
   ·have na:a≠0:=(by rintro rfl;have:=hT x x1;omega);have nb:b≠0:=(by rintro rfl;have:=hT y y1;omega);obtain⟨r1,g1,_⟩:=Oh c a b;obtain⟨r2,g2,_⟩:=Oh c b a;have two:∃r:Int,(((Au d5 c a b)).bind fun(f:RT0)=>(cond f.1.1 (some ((2,()),())) (((Au d5 c b a)).bind fun(h:RT0)=>(cond h.1.1 (some ((2,()),())) (some ((0,()),()))))))=some ((r,()),())∧0≤r∧r≤4∧(0<r→a≠0∧b≠0):=by
     rw[g1,g2];cases r1 with
     |true=>exact⟨2,rfl,by omega,by omega,fun _=>⟨na,nb⟩⟩
     |false=>
      cases r2 with
      |true=>exact⟨2,rfl,by omega,by omega,fun _=>⟨na,nb⟩⟩
      |false=>exact⟨0,rfl,by omega,by omega,fun _=>⟨na,nb⟩⟩
    rw[f9 xa,f9 ya,i7,i7];cases decide (x.Ks=5)with
    |false=>exact two
    |true=>
     rw[x4,i5];cases decide (y.Ks=5)with
     |false=>exact two
     |true=>exact zero
   ·rw[f9 xa,d8 ya];exact j0
  ·rw[d8 xa];exact j0
 rw[b5a,lK,x3,d6,y3,d6];by_cases o6:op=6
 ·rw[f9 o6];exact j1
 by_cases o7:op=7
 ·rw[d8 o6,f9 o7];exact j1
 rw[d8 o6,d8 o7,i5,i5];by_cases e:a=b
 ·have j2:∃r:Int,qF d5 a=some ((r,()),())∧0≤r∧r≤4∧(0<r→a≠0∧b≠0):=by
   rw[a3K,qM];by_cases c2:a=2
   ·rw[f9 c2];exact⟨2,rfl,by omega,by omega,fun _=>by omega⟩
   ·rw[d8 c2];exact none
  have j3:∃r:Int,pF d5 op a=some ((r,()),())∧0≤r∧r≤4∧(0<r→a≠0∧b≠0):=by
   rw[b1Z,eV];by_cases c3:a=3
   ·rw[f9 c3,i7];by_cases o1:op=1
    ·rw[f9 o1];exact⟨3,rfl,by omega,by omega,fun _=>by omega⟩
    ·rw[d8 o1];exact none
   ·rw[d8 c3];exact none
  rw[f9 e,x4,i5];by_cases o14:op=14
  ·rw[f9 o14];exact j2
  by_cases o15:op=15
  ·rw[d8 o14,f9 o15];exact j2
  rw[d8 o14,d8 o15,i5,i5];by_cases o8:op≥8
  ·rw[f9 o8,i7];by_cases c1:a=1
   ·rw[f9 c1];exact⟨2,rfl,by omega,by omega,fun _=>by omega⟩
   ·rw[d8 c1];exact none
  ·rw[d8 o8,i5];by_cases c1:a=1
   ·rw[f9 c1];exact⟨1,rfl,by omega,by omega,fun _=>by omega⟩
   ·rw[d8 c1,i5];by_cases c4:a=4
    ·rw[f9 c4,i7];by_cases o3:op≤3
     ·rw[f9 o3];exact⟨4,rfl,by omega,by omega,fun _=>by omega⟩
     ·rw[d8 o3];exact j3
    ·rw[d8 c4];exact j3
 ·rw[d8 e];exact zero
end
section
structure X1(l:List d7)(P:s9)(nr:Nat):Prop where
 may:J6 l
 small:l.length≤30000
 tx:∀n∈l,n.Gs.length≤65536
 ty:Z8 nr P.To
 tl:P.To.length≤70000000000
 recs:P.Rs.length=nr
 fl:∀f∈P.Id,C7 P.To f.Ts
 fll:P.Id.length≤70000000000
 rc:∀r∈P.Rs,0≤r.Ws∧0≤r.Xs∧r.Ws+r.Xs≤P.Id.length
 fnr:∀f∈P.As,f.By=0∨C7 P.To f.By
 fnp:∀f∈P.As,0≤f.At∧0≤f.Ps∧f.At+f.Ps≤P.Ss.length
 sll:P.Ss.length≤70000000000
 sl:∀t∈P.Ss,C7 P.To t
structure EnC(l:List d7)(P:s9)(i:Nat):Prop where
 k26:kd l i=26→∃m,P.Ms[i]? =some m∧C7 P.To m.Ts
 k27:kd l i=27→∃m,P.Ms[i]? =some m∧(-8≤m.Ds∧m.Ds≤ -1∨0≤m.Ds∧m.Ds<P.As.length)
 k32:kd l i=32→∃m,P.Ms[i]? =some m∧C7 P.To m.Ts
 k7:kd l i=7→∃m,P.Ms[i]? =some m∧C7 P.To m.Ts
structure EF(l:List d7)(P:s9)(M:List l4)(i:Nat):Prop where
 k27:kd l i=27→∀(x:d7) (st:Nat) (ks:List Nat),l[i]? =some x→x.Cs=(st:Int)-(i+1)→Kc l (i+1) st ks→∃m,M[i]? =some m∧(m.Ds<0→ -8≤m.Ds∧ks.length=Qx (-m.Ds)∧m.Ts≠0)∧(0≤m.Ds→∃f,P.As[m.Ds.toNat]? =some f∧f.Ps=ks.length∧m.Ts=f.By)
 k29:kd l i=29→∃m,M[i]? =some m∧0≤m.Ds
 kid:21≤kd l i→∀(x:d7) (st:Nat) (ks:List Nat),l[i]? =some x→x.Cs=(st:Int)-(i+1)→Kc l (i+1) st ks→∀k∈ks,21≤kd l k→∃m,M[k]? =some m∧m.Ts≠0
theorem EF.same{l:List d7}{P:s9}{M M':List l4}{i:Nat}{x:d7}{st:Nat}(h:EF l P M i)(hx:l[i]? =some x)(hs:x.Cs=(st:Int)-(i+1))(e:∀j,i≤j→j<st→M'[j]? =M[j]?)(hst:i+1≤st):EF l P M' i:=by
 refine⟨fun hk y st' ks a1 a2 a3=>?_,fun hk=>?_,fun hk y st' ks a1 a2 a3 k hkm hk2=>?_⟩
 ·obtain⟨m,b1,b2,b3⟩:=h.k27 hk y st' ks a1 a2 a3;exact⟨m,by rw[e i (i8 _) (by omega)];exact b1,b2,b3⟩
 ·obtain⟨m,b1,b2⟩:=h.k29 hk;exact⟨m,by rw[e i (i8 _) (by omega)];exact b1,b2⟩
 ·obtain⟨m,b1,b2⟩:=h.kid hk y st' ks a1 a2 a3 k hkm hk2;rw[hx]at a1;cases a1;obtain⟨c1,c2,_⟩:=a3.mem k hkm;exact⟨m,by rw[e k (by omega) (by omega)];exact b1,b2⟩
theorem EF.other{l:List d7}{P:s9}{M:List l4}{i:Nat}(h:kd l i<21):EF l P M i:=⟨fun hk=>by omega,fun hk=>by omega,fun hk=>by omega⟩
def aH(l:List d7)(P:s9)(n:Nat):Prop:=∀(b:Nat) (x:d7) (q:Nat),q-b=n→l[b]? =some x→x.Cs=(q:Int)-(b+1)→b+1≤q→q≤l.length→21≤x.Ks→x.Ks≤32→∀c:l8,CI l P c→(∀i,b≤i→i<q→c.M[i]? =P.Ms[i]?∧EnC l P i)→
 ∃t c',Q6 d5 c (b:Int)=some ((t,c',()),())∧CI l P c'∧Cx c c' b q∧0≤t∧t<P.To.length∧(c'.F.Code=0→(x.Ks≠27→t≠0)∧(∃m,c'.M[b]? =some m∧m.Ts=t)∧∀i,b≤i→i<q→EF l P c'.M i)
section
variable{l:List d7}{P:s9}{nr:Nat}(hC:X1 l P nr)
include hC
theorem a9U(at0:Nat)(ks:List Nat)(hkl:ks.length≤l.length)(hks:∀p∈ks,21≤kd l p∧kd l p≤32)(st:Nat)(hst:st≤l.length)(N:Nat)(ih:∀m,m<N→aH l P m):∀(n e c0:Nat) (d:l8) (hv:List Int),ks.length-e=n→e≤ks.length→Kc l c0 st (ks.drop e)→st-c0<N→CI l P d→(∀i,c0≤i→i<st→d.M[i]? =P.Ms[i]?∧EnC l P i)→hv.length=e→(∀t∈hv,0≤t∧t<(P.To.length:Int))→∃d' hv',Wp d5 (at0:Int) ((l5 ks,()),()) (e:Int) d hv=FV d5 (at0:Int) d' ((l5 ks,()),()) hv'∧CI l P d'∧Cx d d' c0 st∧hv'.length=ks.length∧(∀t∈hv',0≤t∧t<(P.To.length:Int))∧hv<+:hv'∧(d'.F.Code=0→(∀(j:Nat) (hj:j<ks.length),e≤j→∃m,d'.M[ks[j]]? =some m∧hv'[j]? =some m.Ts)∧∀i,c0≤i→i<st→EF l P d'.M i):=by
 intro n;have hsm:=hC.small
 induction n with
 |zero=>
  intro e c0 d hv hn he hK hN hI hM hl hr;have hc:c0=st:=by rw[J1 (by omega)]at hK;cases hK;rfl
  rw[OM,Vz];simp only[A9];rw[d8 (by omega),i5];exact⟨d,hv,rfl,hI,Cx.refl _ _ _,by omega,hr,L8 _,fun _=>⟨fun j hj hje=>by omega,fun i h1 h2=>by omega⟩⟩
 |succ n ihn=>
  intro e c0 d hv hn he hK hN hI hM hl hr;have hel:e<ks.length:=(by omega);have g:=C6 hel;have ga:=D9 hel;rw[H5 hel]at hK;obtain⟨ek,y,q,hy,hys,hq1,hq2,hrest⟩:=hK.first
  have hky:=hks _ (y5 hel);rw[ek,u0 hy]at hky;have n1:ks.length-(e+1)=n:=(by omega);have n2:e+1≤ks.length:=(by omega);have n3:st-q<N:=(by omega);have n4:q≤st:=hq2;have n5:c0≤q:=(by omega);have n6:hv.length+1≤100000000:=(by omega);have n7:w64 ((e:Int)+1)=((e+1:Nat):Int):=z8 (by omega);have n8:(e:Int)<(ks.length:Int):=(by omega);have n9:hv.length+1=e+1:=(by omega);obtain⟨t,d1,r1,r2,r3,r4,r5,r6⟩:=ih (q-c0) (by omega) c0 y q rfl hy hys hq1 (by omega) hky.1 hky.2 d hI (fun i h1 h2=>hM i h1 (by omega));have hz:hv.length+ [t].length≤100000000:=n6;rw[OM,Vz];simp only[A9];rw[f9 n8,i7,g,d6,B8,ga,d6,ek,r1,d6];simp only;rw[J9 (by decide) hz,d6,n7];obtain⟨d',hv',k1,k2,k3,k4,k5,k6,k7⟩:=ihn (e+1) q d1 (hv++[t]) n1 n2 hrest n3 r2 (fun i h1 h2=>by rw[r3.marks i (.inr h1)];exact hM i (Ea n5 h1) h2) (by rw[o5,y4];exact n9) (fun x hx=>by
   rcases z0.1 hx with hx|hx
   ·exact hr x hx
   ·rw[I2.1 hx];exact⟨r4,r5⟩)
  refine⟨d',hv',k1,k2,r3.trans k3 (i8 _) hq2 n5 (i8 _),k4,k5,(List.prefix_append _ _).trans k6,fun hg=>?_⟩;obtain⟨z1,z2⟩:=k7 hg;have hg1:d1.F.Code=0:=T0 fun hc=>k3.bad hc hg;obtain⟨w1,⟨m,w2,w3⟩,w4⟩:=r6 hg1;clear r6 k7;refine⟨fun j hj hje=>?_,fun i h1 h2=>?_⟩
  ·by_cases ej:j=e
   ·subst ej;refine⟨m,by rw[ek,k3.marks c0 (.inl (by omega))];exact w2,?_⟩;have hp:(hv++[t])[j]? =some t:=(by rw[Ci (by omega),hl,Rf];rfl);have hlt:j<(hv++[t]).length:=(by rw[o5,y4];omega);obtain⟨tl',htl⟩:=k6;rw[←htl,R3 hlt,hp,w3]
   ·exact z1 j hj (by omega)
  ·by_cases hi:i<q
   ·obtain⟨xx,kk,g1,g2,g3,g4,g5⟩:=(WFo.cons c0 q q y hy hys hq1 (by
      obtain⟨st',_,t1,t2,t3,t4,_⟩:=hC.may.nd c0 y hy;have:st'=q:=(by omega);subst this;exact t4) (WFo.nil q)).inside i h1 hi
    exact(w4 i h1 hi).same g1 g2 (fun j h3 h4=>k3.marks j (.inl (by omega))) g3
   ·exact z2 i (by omega) h2
end
end
section
section
variable{l:List d7}{P:s9}{nr:Nat}(hC:X1 l P nr)
include hC
theorem a8C(row:b5Y)(t:Int)(ks:List Nat)(hkl:ks.length≤30000)(hin:∀p∈ks,p<l.length)(hv:List Int)(h1:row.length=ks.length)(h2:hv.length=ks.length)(hr:∀t∈hv,0≤t∧t<(P.To.length:Int)):∀(n i:Nat) (d:l8),ks.length-i=n→CI l P d→∃f:y6,Vw d5 ((row,t,()),()) ((l5 ks,()),()) (i:Int) d hv=IA d5 ((row,t,()),()) ⟨d.L,d.M,d.P,d.T,f,d.By⟩∧(f.Code=0→d.F.Code=0∧∀(j:Nat) (y:Int),i≤j→hv[j]? =some y→y≠0):=by
 intro n
 induction n with
 |zero=>intro i d hi hI;rw[XP,Yp];simp only[A9];rw[d8 (by omega),i5];exact⟨d.F,rfl,fun h=>⟨h,fun j y hj hy=>by have:=(l9.1 hy).1;omega⟩⟩
 |succ n ih=>
  intro i d hi hI;have hil:i<ks.length:=(by omega);have hih:i<hv.length:=(by omega);have hir:i<row.length:=(by omega);have hkp:=hin _ (y5 hil);have hrt:=hr _ (y5 hih);have hty:=hI.tys;obtain⟨r,g1,g2⟩:=b0x d hv[i] (row[i].toNat:Int) hrt.1 (by rw[hty];exact hrt.2) (fun y hy=>by
   rw[hty,hC.ty.base 0 (by omega)]at hy;cases hy
   decide)
  obtain⟨f,f1,f2⟩:=Y0 d r ks[i] (by rw[hI.nodes];exact hkp);obtain⟨f',k1,k2⟩:=ih (i+1) ⟨d.L,d.M,d.P,d.T,f,d.By⟩ (by omega) (hI.fault f);rw[XP,Yp];simp only[A9];rw[f9 (by omega),i7,l7 hih,d6,B8,p8 hih,d6,l7 hir,d6,g1,d6,C6 hil,d6,D9 hil,d6,f1,d6,z8 (by omega)];refine⟨f',k1,fun hg=>?_⟩;obtain⟨z1,z2⟩:=k2 hg;obtain⟨w1,w2⟩:=f2 z1;refine⟨w1,fun j y hj hy=>?_⟩;by_cases e:j=i
  ·subst e;rw[p8 hih]at hy;cases hy;exact g2 w2
  ·exact z2 j y (by omega) hy
theorem a3d(g:t9)(ks:List Nat)(hkl:ks.length≤30000)(hin:∀p∈ks,p<l.length)(hv:List Int)(h2:hv.length=ks.length)(ha:0≤g.At)(hp:g.Ps=ks.length)(hs:g.At+g.Ps≤P.Ss.length):∀(n i:Nat) (d:l8),ks.length-i=n→CI l P d→∃f:y6,Rz d5 ((l5 ks,()),()) (i:Int) d g hv=IQ d5 ⟨d.L,d.M,d.P,d.T,f,d.By⟩ g∧(f.Code=0→d.F.Code=0∧∀(j:Nat) (y:Int),i≤j→hv[j]? =some y→y≠0):=by
 have hsll:=hC.sll;intro n
 induction n with
 |zero=>intro i d hi hI;rw[MT,Wc];simp only[A9];rw[d8 (by omega),i5];exact⟨d.F,rfl,fun h=>⟨h,fun j y hj hy=>by have:=(l9.1 hy).1;omega⟩⟩
 |succ n ih=>
  intro i d hi hI;have hil:i<ks.length:=(by omega);have hih:i<hv.length:=(by omega);have hkp:=hin _ (y5 hil);have hpr:=hI.prog;have es:w64 (g.At+(i:Int))=(((g.At+i).toNat:Nat):Int):=(by rw[wrap64 (by omega) (by omega)];omega);have hsl:(g.At+i).toNat<P.Ss.length:=(by omega);have tI:=hC.sl _ (y5 hsl);obtain⟨r,g1,g2⟩:=Oh d hv[i] P.Ss[(g.At+i).toNat];obtain⟨f,f1,f2⟩:=Y0 d r ks[i] (by rw[hI.nodes];exact hkp);obtain⟨f',k1,k2⟩:=ih (i+1) ⟨d.L,d.M,d.P,d.T,f,d.By⟩ (by omega) (hI.fault f);rw[MT,Wc];simp only[A9];rw[f9 (by omega),i7,l7 hih,d6,B8,p8 hih,d6,hpr,es,l7 hsl,d6,g1,d6,C6 hil,d6,D9 hil,d6,f1,d6,z8 (by omega)];rw[←hpr];refine⟨f',k1,fun hg=>?_⟩;obtain⟨z1,z2⟩:=k2 hg;obtain⟨w1,w2⟩:=f2 z1;refine⟨w1,fun j y hj hy=>?_⟩;by_cases e:j=i
  ·subst e;rw[p8 hih]at hy;cases hy;have:=(g2 w2).2.2.2.2;have:=tI.1;omega
  ·exact z2 j y (by omega) hy
theorem a7X(b:Nat)(x:d7)(q:Nat)(hx:l[b]? =some x)(hs:x.Cs=(q:Int)-(b+1))(hbq:b+1≤q)(hq:q≤l.length)(hk:x.Ks=27)(ih:∀m,m<q-b→aH l P m)(c:l8)(hI:CI l P c)(hM:∀i,b≤i→i<q→c.M[i]? =P.Ms[i]?∧EnC l P i)(ks:List Nat)(hks:Kc l (b+1) q ks):∃t c',JB d5 c (b:Int)=some ((t,c',()),())∧CI l P c'∧Cx c c' (b+1) q∧0≤t∧t<(P.To.length:Int)∧(c'.F.Code=0→(∀k∈ks,∃m,c'.M[k]? =some m∧m.Ts≠0)∧(∃m,c'.M[b]? =some m∧(m.Ds<0→ -8≤m.Ds∧ks.length=Qx (-m.Ds)∧t≠0)∧(0≤m.Ds→∃f,P.As[m.Ds.toNat]? =some f∧f.Ps=ks.length∧t=f.By))∧∀i,b+1≤i→i<q→EF l P c'.M i):=by
 have hsm:=hC.small;have hkle:=hks.le;have h6:=hC.ty.len;have hbl:=(l9.1 hx).1;obtain⟨st,ks',t1,t2,t3,t4,t5,t6,t7⟩:=hC.may.nd b x hx;have est:st=q:=(by omega);subst est;have:=t5.det hks;subst this;have hke:∀p∈ks',21≤kd l p∧kd l p≤32:=fun p hp=>D7 (Mt (t6.k27 hk) p hp);have hin:∀p∈ks',p<l.length:=fun p hp=>by obtain⟨_,h2,_⟩:=hks.mem p hp;omega
 obtain⟨d,hv,k1,k2,k3,k4,k5,_,k7⟩:=a9U hC b ks' (by omega) hke st hq (st-b) ih _ 0 (b+1) c [] rfl (C8 _) (by rw[L9];exact hks) (by omega) hI (fun i h1 h2=>hM i (by omega) h2) rfl (fun t ht=>nomatch ht);have hdb:d.M[b]? =P.Ms[b]? :=(by rw[k3.marks b (.inl (by omega))];exact(hM b (i8 _) (by omega)).1);obtain⟨m,m1,m2⟩:=(hM b (i8 _) (by omega)).2.k27 (by rw[u0 hx];exact hk);rw[m1]at hdb;have hbM:=(l9.1 hdb).1;have hbMe:=(l9.1 hdb).2;have ei:(ks'.map (fun(k:Nat)=>(k:Int)))=l5 ks':=rfl;rw[b2A,uV,hI.nodes,T8 (by omega) hx t1 t3 hks,d6,ei,show Wp d5 (b:Int) ((l5 ks',()),()) 0 c []=_ from k1,b1h,nN];have bad:∀(f:y6),f.Code≠0→∃t c',(some ((0,(⟨d.L,d.M,d.P,d.T,f,d.By⟩:l8),()),()):b5K)=some ((t,c',()),())∧CI l P c'∧Cx c c' (b+1) st∧0≤t∧t<(P.To.length:Int)∧(c'.F.Code=0→(∀k∈ks',∃m,c'.M[k]? =some m∧m.Ts≠0)∧(∃m,c'.M[b]? =some m∧(m.Ds<0→ -8≤m.Ds∧ks'.length=Qx (-m.Ds)∧t≠0)∧(0≤m.Ds→∃f,P.As[m.Ds.toNat]? =some f∧f.Ps=ks'.length∧t=f.By))∧∀i,b+1≤i→i<st→EF l P c'.M i):=fun f hf=>⟨0,_,rfl,k2.fault f,k3.trans (Cx.fault d f hf (b+1) st) (i8 _) (i8 _) (i8 _) (i8 _),N0 _,by omega,fun h=>absurd h hf⟩;by_cases cb:d.F.Code=0
 ·obtain⟨z1,z2⟩:=k7 cb;have done:∀(t:Int) (f:y6),0≤t→t<(P.To.length:Int)→(f.Code=0→d.F.Code=0∧∀(j:Nat) (y:Int),0≤j→hv[j]? =some y→y≠0)→((m.Ds<0→ -8≤m.Ds∧ks'.length=Qx (-m.Ds)∧t≠0)∧(0≤m.Ds→∃f,P.As[m.Ds.toNat]? =some f∧f.Ps=ks'.length∧t=f.By))→
    ∃t' c',(some ((t,(⟨d.L,d.M,d.P,d.T,f,d.By⟩:l8),()),()):b5K)=some ((t',c',()),())∧CI l P c'∧Cx c c' (b+1) st∧0≤t'∧t'<(P.To.length:Int)∧(c'.F.Code=0→(∀k∈ks',∃m,c'.M[k]? =some m∧m.Ts≠0)∧(∃m,c'.M[b]? =some m∧(m.Ds<0→ -8≤m.Ds∧ks'.length=Qx (-m.Ds)∧t'≠0)∧(0≤m.Ds→∃f,P.As[m.Ds.toNat]? =some f∧f.Ps=ks'.length∧t'=f.By))∧∀i,b+1≤i→i<st→EF l P c'.M i):=by
   intro t f h0 h1 hf hm;refine⟨t,_,rfl,k2.fault f,k3.trans ⟨fun _ _=>rfl,rfl,fun hb=>absurd cb hb⟩ (i8 _) (i8 _) (i8 _) (i8 _),h0,h1,fun hg=>⟨fun k hk2=>?_,⟨m,hdb,hm⟩,z2⟩⟩;obtain⟨j,hj,rfl⟩:=List.getElem_of_mem hk2;obtain⟨mm,a1,a2⟩:=z1 j hj (C8 _);exact⟨mm,a1,(hf hg).2 j _ (C8 _) a2⟩
  rw[f9 cb,x4,i5,l7 hbM,d6,hbMe];by_cases cr:m.Ds<0
  ·have e0:w64 (0-m.Ds)= -m.Ds:=(by rw[wrap64 (by omega) (by omega)];omega);obtain⟨row,t,r1,r2,r3,r4⟩:=b42 (-m.Ds) (by omega) (by omega);rw[f9 cr,i7,e0,r1,d6];simp only[A9];by_cases el:(row.length:Int)=(ks'.length:Int)
   ·obtain⟨f,f1,f2⟩:=a8C hC row t ks' (by omega) hin hv (by omega) k4 k5 _ 0 d rfl k2;rw[f9 el,x4,i5,show Vw d5 ((row,t,()),()) ((l5 ks',()),()) 0 d hv=_ from f1,a1k,lH];exact done t f (by omega) (by omega) f2 ⟨fun _=>⟨by omega,by omega,by omega⟩,fun h=>by omega⟩
   ·obtain⟨f,f1,f2⟩:=Ih d 10 (by decide) b (by rw[k2.nodes];exact hbl);rw[d8 el,D3,i7,f1,d6];exact bad f f2
  ·have er:m.Ds=((m.Ds.toNat:Nat):Int):=(by omega);have hfl:m.Ds.toNat<P.As.length:=(by omega);have gF:i6 P.As m.Ds=some P.As[m.Ds.toNat]:=Hg (by omega) (by omega);obtain⟨p1,p2,p3⟩:=hC.fnp _ (y5 hfl);have hres:0≤P.As[m.Ds.toNat].By∧P.As[m.Ds.toNat].By<(P.To.length:Int):=by
    rcases hC.fnr _ (y5 hfl)with h|h
    ·rw[h];omega
    ·have:=h.1;have:=h.2.1;omega
   rw[d8 cr,i5,k2.prog,gF,d6];simp only[A9];by_cases ep:P.As[m.Ds.toNat].Ps=(ks'.length:Int)
   ·obtain⟨f,f1,f2⟩:=a3d hC P.As[m.Ds.toNat] ks' (by omega) hin hv k4 p1 ep p3 _ 0 d rfl k2;rw[f9 ep,x4,i5,show Rz d5 ((l5 ks',()),()) 0 d P.As[m.Ds.toNat] hv=_ from f1,b3L,sO];exact done _ f hres.1 hres.2 f2 ⟨fun h=>absurd h cr,fun _=>⟨_,p8 hfl,ep,rfl⟩⟩
   ·obtain⟨f,f1,f2⟩:=Ih d 10 (by decide) b (by rw[k2.nodes];exact hbl);rw[d8 ep,D3,i7,f1,d6];exact bad f f2
 ·rw[d8 cb];exact bad d.F cb
end
end
section
theorem b4B{nr:Nat}{T:List r9}(h:Z8 nr T){i:Nat}{x:r9}(hx:T[i]? =some x)(hk:x.Ks=6):∃j:Nat,x.Of=(j:Int)∧j<nr:=by
 by_cases c:i<6
 ·rw[h.base i c]at hx;cases hx;simp only at hk;omega
 ·by_cases c2:i<6+nr
  ·have:=h.recs (i-6) (by omega);have e:6+(i-6)=i:=(by omega);rw[e,hx]at this;cases this;exact⟨i-6,rfl,by omega⟩
  ·have:=(h.lists i x (by omega) hx).1;omega
theorem a35{nr:Nat}{T:List r9}(h:Z8 nr T){i:Nat}{x:r9}(hx:T[i]? =some x)(hk:x.Ks=7):C7 T x.Of:=by
 by_cases c:i<6
 ·rw[h.base i c]at hx;cases hx;simp only at hk;omega
 ·by_cases c2:i<6+nr
  ·have:=h.recs (i-6) (by omega);have e:6+(i-6)=i:=(by omega);rw[e,hx]at this;cases this;simp only at hk;omega
  ·obtain⟨_,a,b,c⟩:=h.lists i x (by omega) hx;exact⟨a,b,c⟩
section
variable{l:List d7}{P:s9}{nr:Nat}(hC:X1 l P nr)
include hC
theorem Qo(b:Nat)(x:d7)(q:Nat)(hx:l[b]? =some x)(hbq:b+1≤q)(hq:q≤l.length)(hk:21≤x.Ks)(hw:WFo l (b+1) q)(c c1:l8)(t:Int)(m:l4)(hI:CI l P c1)(hX:Cx c c1 b q)(hm:c1.M[b]? =some m)(h0:0≤t)(h1:t<(P.To.length:Int))(h32:x.Ks=32→t=m.Ts)(hE:c1.F.Code=0→(x.Ks≠27→t≠0)∧(∀i,b+1≤i→i<q→EF l P c1.M i)∧EF l P (c1.M.set b ⟨t,m.Ds,m.In⟩) b):∃t' c',I5 d5 (b:Int) t c1=some ((t',c',()),())∧CI l P c'∧Cx c c' b q∧0≤t'∧t'<(P.To.length:Int)∧(c'.F.Code=0→(x.Ks≠27→t'≠0)∧(∃m,c'.M[b]? =some m∧m.Ts=t')∧∀i,b≤i→i<q→EF l P c'.M i):=by
 have hsm:=hC.small;have hbM:=(l9.1 hm).1;rw[a6w,gJ,a4y c1 (by rw[hI.len];omega) b m hm t];refine⟨t,_,rfl,hI.typed hm t h0 h1 (by rw[u0 hx];exact hk) (fun h=>h32 (by rw[←u0 hx];exact h)),hX.trans (Cx.typed c1 b m t b q (i8 _) (by omega)) (i8 _) (i8 _) (i8 _) (i8 _),h0,h1,fun hg=>?_⟩;obtain⟨e1,e2,e3⟩:=hE hg;refine⟨e1,⟨⟨t,m.Ds,m.In⟩,by unfold Gq;simp only;rw[Q2 hbM],rfl⟩,fun i i1 i2=>?_⟩;by_cases e:i=b
 ·subst e;exact e3
 ·obtain⟨y,k,g1,g2,g3,g4,g5⟩:=hw.inside i (by omega) i2;exact(e2 i (by omega) i2).same g1 g2 (fun j j1 j2=>by unfold Gq;simp only;rw[Z1 (by omega)]) g3
theorem a1W(b:Nat)(hb:b<l.length)(a:Int)(d:l8)(hI:CI l P d)(m:l4)(hm:d.M[b]? =some m)(hk:kd l b=29)(g:N1)(hg:0≤g.Ws∧0≤g.Xs∧g.Ws+g.Xs≤(P.Id.length:Int)):∀(n i:Nat),g.Xs.toNat-i=n→∃t d',Tp d5 (b:Int) (i:Int) ((a,d,()),()) g=some ((t,d',()),())∧CI l P d'∧Cx d d' b (b+1)∧0≤t∧t<(P.To.length:Int)∧(∃m',d'.M[b]? =some m'∧(d'.F.Code=0→0≤m'.Ds))∧(d'.F.Code=0→d.F.Code=0∧C7 P.To t):=by
 have hsm:=hC.small;have h6:=hC.ty.len;have hfl:=hC.fll;have hbM:=(l9.1 hm).1;have hnd:=hI.nodes;intro n
 induction n with
 |zero=>intro i hi;obtain⟨f,f1,f2⟩:=Ih d 8 (by decide) b (by rw[hnd];exact hb);rw[UL,aZ,d8 (by omega),i5,a38,oN];simp only;rw[f1];exact⟨0,_,rfl,hI.fault f,Cx.fault d f f2 _ _,N0 _,by omega,⟨m,hm,fun h=>absurd h f2⟩,fun h=>absurd h f2⟩
 |succ n ih=>
  intro i hi;have es:w64 (g.Ws+(i:Int))=(((g.Ws+i).toNat:Nat):Int):=(by rw[wrap64 (by omega) (by omega)];omega);have hfi:(g.Ws+i).toNat<P.Id.length:=(by omega);have tI:=hC.fl _ (y5 hfi);have e:=ih (i+1) (by omega);have hz:([]:List l4).length+d.M.length≤100000000:=(by rw[I0,hI.len];omega);rw[UL,aZ,f9 (by omega),i7];simp only;have gP:i6 d.P.Id (((g.Ws+i).toNat:Nat):Int)=some P.Id[(g.Ws+i).toNat]:=(by rw[hI.prog,l7 hfi]);have gL:i6 d.L (b:Int)=some l[b]:=(by rw[hnd,l7 hb]);rw[es,gP,d6,gL,d6,z8 (by omega)];cases decide (P.Id[(g.Ws+i).toNat].Js=l[b].Gs)with
  |false=>exact e
  |true=>
   rw[i7,J9 (by decide) hz,d6,Z9,l7 hbM,d6,B8,hm,d6,d6];simp only[G4,d6];refine⟨_,_,rfl,⟨hI.nodes,hI.prog,hI.tys,by simp only[T4];exact hI.len,fun y hy=>?_,fun j y hy=>?_⟩,⟨fun j hj=>by simp only;rw[Z1 (by omega)],rfl,id⟩,?_,?_,⟨⟨m.Ts,i,m.In⟩,by simp only;rw[Q2 hbM],fun _=>by simp only;omega⟩,fun h=>⟨h,?_⟩⟩
   ·rcases List.mem_or_eq_of_mem_set hy with hy|rfl
    ·exact hI.ty y hy
    ·exact hI.ty m (K8 hm)
   ·simp only at hy;by_cases ej:j=b
    ·subst ej;rw[Q2 hbM]at hy;cases hy;obtain⟨m0,a1,a2,a3,a4⟩:=hI.rf j m hm;exact⟨m0,a1,a2,fun h=>absurd hk h,a4⟩
    ·rw[Z1 (Ne.symm ej)]at hy;exact hI.rf j y hy
   ·have:=tI.1;omega
   ·exact tI.2.1
   ·exact tI
end
end
section
theorem Hw{l:List d7}{i j:Nat}{ks:List Nat}(h:Kc l i j ks)(h2:ks.length=2):∃(k0 k1:Nat) (y z:d7),ks=[k0,k1]∧k0=i∧l[k0]? =some y∧y.Cs=(k1:Int)-(k0+1)∧k0+1≤k1∧l[k1]? =some z∧z.Cs=(j:Int)-(k1+1)∧k1+1≤j:=by
 obtain⟨k0,ks',rfl⟩:∃k ks',ks=k::ks':=(by cases ks with|nil=>simp at h2|cons k ks=>exact⟨k,ks,rfl⟩);obtain⟨k1,ks'',rfl⟩:∃k ks'',ks'=k::ks'':=(by cases ks' with|nil=>simp at h2|cons k ks=>exact⟨k,ks,rfl⟩);have hn:ks''=[]:=(by simp at h2;exact h2);subst hn;obtain⟨rfl,y,q,hy,hys,hq1,hq2,hr⟩:=h.first
 obtain⟨rfl,z,q2,hz,hzs,hz1,hz2,hr2⟩:=hr.first
 have:q2=j:=(by cases hr2;rfl);subst this;exact⟨k0,k1,y,z,rfl,rfl,hy,hys,hq1,hz,hzs,hz1⟩
theorem Yh{l:List d7}{i j:Nat}{ks:List Nat}(h:Kc l i j ks)(h1:ks.length=1):∃(y:d7),ks=[i]∧l[i]? =some y∧y.Cs=(j:Int)-(i+1)∧i+1≤j:=by
 obtain⟨k0,ks',rfl⟩:∃k ks',ks=k::ks':=(by cases ks with|nil=>simp at h1|cons k ks=>exact⟨k,ks,rfl⟩);have hn:ks'=[]:=(by simp at h1;exact h1);subst hn;obtain⟨rfl,y,q,hy,hys,hq1,hq2,hr⟩:=h.first
 have:q=j:=(by cases hr;rfl);subst this;exact⟨y,rfl,hy,hys,hq1⟩
theorem EF.mk'{l:List d7}{P:s9}{M:List l4}{b q:Nat}{x:d7}{ks:List Nat}(hx:l[b]? =some x)(hs:x.Cs=(q:Int)-(b+1))(hks:Kc l (b+1) q ks)(h27:x.Ks≠27)(h29:x.Ks=29→∃m,M[b]? =some m∧0≤m.Ds)(hk:∀k∈ks,21≤kd l k→∃m,M[k]? =some m∧m.Ts≠0):EF l P M b:=by refine⟨fun h=>absurd h (by rw[u0 hx];exact h27),fun h=>h29 (by rw[←u0 hx];exact h),fun _ y st ks' a1 a2 a3 k hkm h21=>?_⟩;rw[hx]at a1;cases a1;have:st=q:=(by omega);subst this;have:=hks.det a3;subst this;exact hk k hkm h21
section
variable{l:List d7}{P:s9}{nr:Nat}(hC:X1 l P nr)
include hC
theorem a0S(b:Nat)(x:d7)(q:Nat)(hx:l[b]? =some x)(hs:x.Cs=(q:Int)-(b+1))(hbq:b+1≤q)(hq:q≤l.length)(hk:21≤x.Ks)(h27:x.Ks≠27)(h29:x.Ks≠29)(hw:WFo l (b+1) q)(c:l8)(t:Int)(hI:CI l P c)(h0:C7 P.To t∨t=5)(ks:List Nat)(hks:Kc l (b+1) q ks)(hin:∀i,b+1≤i→i<q→kd l i<21)(h32:∀m,c.M[b]? =some m→x.Ks=32→t=m.Ts):∃t' c',I5 d5 (b:Int) t c=some ((t',c',()),())∧CI l P c'∧Cx c c' b q∧0≤t'∧t'<(P.To.length:Int)∧(c'.F.Code=0→(x.Ks≠27→t'≠0)∧(∃m,c'.M[b]? =some m∧m.Ts=t')∧∀i,b≤i→i<q→EF l P c'.M i):=by
 have hbM:b<c.M.length:=(by rw[hI.len];omega);have h6:=hC.ty.len;have ht:1≤t∧t<(P.To.length:Int):=by
  rcases h0 with h|h
  ·exact⟨h.1,h.2.1⟩
  ·omega
 refine Qo hC b x q hx hbq hq hk hw c c t c.M[b] hI (Cx.refl _ _ _) (p8 hbM) (by omega) ht.2 (h32 _ (p8 hbM)) (fun hg=>⟨fun _=>by omega,fun i i1 i2=>EF.other (hin i i1 i2),EF.mk' hx hs hks h27 (fun h=>absurd h h29) (fun k hkm h21=>?_)⟩);obtain⟨k1,k2,_⟩:=hks.mem k hkm;have:=hin k k1 k2;omega
end
end
section
section
variable{l:List d7}{P:s9}{nr:Nat}(hC:X1 l P nr)
include hC
set_option maxHeartbeats 4000000 in
theorem a1C(N:Nat)(ih:∀m,m<N→aH l P m):aH l P N:=by
 intro b x q hN hx hs hbq hq hk1 hk2 c hI hM;have hk1':=hk1;have hsm:=hC.small;have h6:=hC.ty.len;have hM':=hC.may;obtain⟨st,ks,t1,t2,t3,t4,t5,t6,t7⟩:=hC.may.nd b x hx;have est:st=q:=(by omega);subst est;have hkle:=t5.le;have hbl:=(l9.1 hx).1;have hxe:=(l9.1 hx).2;have hbM:b<c.M.length:=(by rw[hI.len];omega);have hmb:c.M[b]? =some c.M[b]:=p8 hbM;have hT0:∀y,c.T[0]? =some y→y.Ks<5:=fun y hy=>by
  rw[hI.tys,hC.ty.base 0 (by omega)]at hy;cases hy
  decide
 have ei:(ks.map (fun(k:Nat)=>(k:Int)))=l5 ks:=rfl;rw[a6L,rK];by_cases cb:c.F.Code=0
 ·rw[f9 cb,x4,i5,hI.nodes,l7 hbl,d6,hxe,T8 (by omega) hx t1 t3 t5,d6,ei,l7 hbM,d6];by_cases c25:x.Ks≤25
  ·rw[f9 (by omega),f9 c25,i7,i7];have hks:ks=[]:=by have:=(t6.kr (by omega)).1;exact Il this
   subst hks;have hin:∀i,b+1≤i→i<st→kd l i<21:=fun i i1 i2=>by cases t5;omega
   have go:∀t:Int,1≤t∧t≤5→_:=fun t ht=>a0S hC b x st hx hs hbq hq hk1 (by omega) (by omega) t4 c t hI (show C7 P.To t∨t=5 by
    by_cases e:t=5
    ·exact .inr e
    ·exact .inl ⟨ht.1,by omega,e⟩) [] t5 hin (fun _ _ h=>absurd h (by omega))
   have hk:x.Ks=21∨x.Ks=22∨x.Ks=23∨x.Ks=24∨x.Ks=25:=(by omega);have lit:∀(k:Int) (t:Int),x.Ks=k→i6 ([1,4,3,2,5]:List Int) (IntKind.wrap .u8 (k-21))=some t→([1,4,3,2,5]:List Int)[(Int.toNat (IntKind.wrap .u8 (k-21)))]? =some t→1≤t∧t≤5→∃t c',(((i6 ([1,4,3,2,5]:List Int) (IntKind.wrap .u8 (x.Ks-21))).bind fun f=>((([1,4,3,2,5]:List Int)[(Int.toNat (IntKind.wrap .u8 (x.Ks-21)))]?).bind fun h=>(I5 d5 (b:Int) h c))))=some ((t,c',()),())∧CI l P c'∧Cx c c' b st∧0≤t∧t<P.To.length∧(c'.F.Code=0→(x.Ks≠27→t≠0)∧(∃m,c'.M[b]? =some m∧m.Ts=t)∧∀i,b≤i→i<st→EF l P c'.M i):=by intro k t e g1 g2 ht;rw[e,g1,d6,g2,d6,←e];exact go t ht
   rcases hk with e|e|e|e|e
   ·exact lit 21 1 e rfl rfl (by decide)
   ·exact lit 22 4 e rfl rfl (by decide)
   ·exact lit 23 3 e rfl rfl (by decide)
   ·exact lit 24 2 e rfl rfl (by decide)
   ·exact lit 25 5 e rfl rfl (by decide)
  rw[f9 (by omega),d8 c25,i7,i5,a42,gI];by_cases c27:x.Ks=27
  ·obtain⟨t,c1,r1,r2,r3,r4,r5,r6⟩:=a7X hC b x st hx hs hbq hq c27 (fun m hm=>ih m (by omega)) c hI hM ks t5;have hb1:b<c1.M.length:=(by rw[r2.len];omega);have hm1:c1.M[b]? =some c1.M[b]:=p8 hb1;rw[f9 c27,i7,r1,d6];refine Qo hC b x st hx hbq hq hk1 t4 c c1 t c1.M[b] r2 (r3.trans (Cx.refl c1 b st) (by omega) (i8 _) (i8 _) (i8 _)) hm1 r4 r5 (fun h=>absurd h (by rw[c27];decide)) (fun hg=>?_);obtain⟨z1,⟨m,z2,z3,z4⟩,z5⟩:=r6 hg;rw[hm1]at z2;cases z2;refine⟨fun h=>absurd c27 h,z5,⟨fun _ y st' ks' a1 a2 a3=>?_,fun h=>by rw[u0 hx]at h;omega,fun _ y st' ks' a1 a2 a3 k hkm _=>?_⟩⟩
   ·rw[hx]at a1;cases a1;have:st'=st:=(by omega);subst this;have:=t5.det a3;subst this;exact⟨_,Q2 hb1,z3,z4⟩
   ·rw[hx]at a1;cases a1;have:st'=st:=(by omega);subst this;have:=t5.det a3;subst this;obtain⟨w1,_⟩:=t5.mem k hkm;obtain⟨mm,w2,w3⟩:=z1 k hkm;exact⟨mm,by rw[Z1 (by omega)];exact w2,w3⟩
  rw[d8 c27,i5];have kid:∀(k q':Nat) (y:d7) (d:l8),b+1≤k→q'≤st→l[k]? =some y→y.Cs=(q':Int)-(k+1)→k+1≤q'→21≤y.Ks→y.Ks≤32→CI l P d→(∀i,k≤i→d.M[i]? =c.M[i]?)→∃t c',Q6 d5 d (k:Int)=some ((t,c',()),())∧CI l P c'∧Cx d c' k q'∧0≤t∧t<P.To.length∧(c'.F.Code=0→(y.Ks≠27→t≠0)∧(∃m,c'.M[k]? =some m∧m.Ts=t)∧∀i,k≤i→i<q'→EF l P c'.M i):=by intro k q' y d a1 a2 a3 a4 a5 a6 a7 a8 a9;exact ih (q'-k) (by omega) k y q' rfl a3 a4 a5 (by omega) a6 a7 d a8 (fun i i1 i2=>by rw[a9 i i1];exact hM i (by omega) (by omega))
  by_cases c28:x.Ks=28∨x.Ks=31
  ·have n29:¬x.Ks=29:=(by omega);have n30:¬x.Ks=30:=(by omega);have n31:¬x.Ks=28→x.Ks=31:=fun h=>by omega
   have hS:=t6.k28 c28;obtain⟨e1,e2⟩:=B7 hS;obtain⟨k0,k1,y,z,rfl,hk0,hy,hys,hy1,hz,hzs,hz1⟩:=Hw t5 e1;have s0:=D7 (e2 0 (by simp) (by simp));have s1:=D7 (e2 1 (by simp) (by simp));simp only[H1,Z2]at s0 s1;rw[u0 hy]at s0;rw[u0 hz]at s1;have g0:i6 (l5 [k0,k1]) (0:Int)=some ((k0:Nat):Int):=C6 (i:=0) (ks:=[k0,k1]) (by simp);have ga0:(l5 [k0,k1])[Int.toNat 0]? =some ((k0:Nat):Int):=D9 (i:=0) (ks:=[k0,k1]) (by simp);have g1:i6 (l5 [k0,k1]) (1:Int)=some ((k1:Nat):Int):=C6 (i:=1) (ks:=[k0,k1]) (by simp);have ga1:(l5 [k0,k1])[Int.toNat 1]? =some ((k1:Nat):Int):=D9 (i:=1) (ks:=[k0,k1]) (by simp);obtain⟨ta,ca,a1,a2,a3,a4,a5,a6⟩:=kid k0 k1 y c (by omega) (by omega) hy hys hy1 s0.1 s0.2 hI (fun _ _=>rfl);obtain⟨tb,cc,b1,b2,b3,b4,b5,b6⟩:=kid k1 st z ca (by omega) (i8 _) hz hzs hz1 s1.1 s1.2 a2 (fun i hi=>a3.marks i (.inr hi));have hX:Cx c cc b st:=(a3.trans b3 (lo2:=b) (hi2:=st) (by omega) (by omega) (by omega) (i8 _));have hbc:b<cc.M.length:=(by rw[b2.len];omega);have hmc:cc.M[b]? =some cc.M[b]:=p8 hbc;have hk0l:k0<cc.L.length:=(by rw[b2.nodes];exact(l9.1 hy).1);have hk1l:k1<cc.L.length:=(by rw[b2.nodes];exact(l9.1 hz).1);have hbl2:b<cc.L.length:=(by rw[b2.nodes];exact hbl);have fin:∀(t:Int) (f:y6),0≤t→t<(P.To.length:Int)→(f.Code=0→cc.F.Code=0∧t≠0∧ta≠0∧tb≠0)→∃t' c',I5 d5 (b:Int) t (⟨cc.L,cc.M,cc.P,cc.T,f,cc.By⟩:l8)=some ((t',c',()),())∧CI l P c'∧Cx c c' b st∧0≤t'∧t'<(P.To.length:Int)∧(c'.F.Code=0→(x.Ks≠27→t'≠0)∧(∃m,c'.M[b]? =some m∧m.Ts=t')∧∀i,b≤i→i<st→EF l P c'.M i):=by
    intro t f h0 h1 hf;refine Qo hC b x st hx hbq hq hk1' t4 c ⟨cc.L,cc.M,cc.P,cc.T,f,cc.By⟩ t cc.M[b] (b2.fault f) ⟨hX.marks,hX.res,fun hb=>absurd cb hb⟩ hmc h0 h1 (fun h=>absurd h (by rcases c28 with e|e<;>rw[e]<;>decide)) (fun hg=>?_);obtain⟨f1,f2,f3,f4⟩:=hf hg;have fa:ca.F.Code=0:=T0 fun hc=>b3.bad hc f1;obtain⟨p1,⟨ma,p2,p3⟩,p4⟩:=a6 fa;obtain⟨q1,⟨mb,q2,q3⟩,q4⟩:=b6 f1;clear a6 b6 kid hf;refine⟨fun _=>f2,fun i i1 i2=>?_,EF.mk' hx t1 t5 c27 (fun h=>absurd h n29) (fun k hkm _=>?_)⟩
    ·by_cases hi:i<k1
     ·obtain⟨xx,kk,w1,w2,w3,w4,w5⟩:=t4.inside i i1 i2;have hkk:kk≤k1:=by obtain⟨stz,kz,z1,z2,z3,z4,z5,z6,z7⟩:=hC.may.nd _ y hy;have:stz=k1:=(by omega);subst this;obtain⟨xx',kk',v1,v2,v3,v4,v5⟩:=(WFo.cons k0 stz stz y hy hys hy1 z4 (WFo.nil stz)).inside i (by omega) hi;rw[w1]at v1;cases v1;omega
      exact(p4 i (by omega) hi).same w1 w2 (fun j j1 j2=>b3.marks j (.inl (by omega))) w3
     ·exact q4 i (by omega) i2
    ·simp at hkm;rcases hkm with rfl|rfl
     ·exact⟨ma,by rw[Z1 (by omega),b3.marks k (.inl (by omega))];exact p2,by rw[p3];exact f3⟩
     ·exact⟨mb,by rw[Z1 (by omega)];exact q2,by rw[q3];exact f4⟩
   by_cases d28:x.Ks=28
   ·obtain⟨w,w1,w2,w3⟩:=bE cc ta a4 (by rw[b2.tys];exact a5);rw[f9 d28,i7];simp only;rw[g0,d6,ga0,d6,a1,d6,g1,d6,ga1,d6,b1,d6];simp only;rw[w3,d6,w2];have j1:∀t:Int,0≤t→t<(P.To.length:Int)→(0<t→ta≠0)→∃t' c',eI d5 (b:Int) t ((tb,cc,()),()) ((l5 [k0,k1],()),())=some ((t',c',()),())∧CI l P c'∧Cx c c' b st∧0≤t'∧t'<(P.To.length:Int)∧(c'.F.Code=0→(x.Ks≠27→t'≠0)∧(∃m,c'.M[b]? =some m∧m.Ts=t')∧∀i,b≤i→i<st→EF l P c'.M i):=by intro t h0 h1 hta;obtain⟨f,f1,f2⟩:=Y0 cc (decide (t>0)) k0 hk0l;obtain⟨f',f3,f4⟩:=Y0 ⟨cc.L,cc.M,cc.P,cc.T,f,cc.By⟩ (decide (tb=1)) k1 hk1l;rw[b4J,dF];simp only;rw[g0,d6,ga0,d6,f1,d6,g1,d6,ga1,d6];simp only;rw[f3,d6];refine fin t f' h0 h1 (fun hg=>?_);obtain⟨u1,u2⟩:=f4 hg;obtain⟨u3,u4⟩:=f2 u1;have v1:=D6 u2;have v2:=D6 u4;exact⟨u3,by omega,hta (by omega),by omega⟩
    have j2:∀t:Int,0≤t→t<(P.To.length:Int)→(0<t→ta≠0)→∃t' c',vL d5 (b:Int) t ((ta,ca,()),()) ((tb,cc,()),()) ((l5 [k0,k1],()),())=some ((t',c',()),())∧CI l P c'∧Cx c c' b st∧0≤t'∧t'<(P.To.length:Int)∧(c'.F.Code=0→(x.Ks≠27→t'≠0)∧(∃m,c'.M[b]? =some m∧m.Ts=t')∧∀i,b≤i→i<st→EF l P c'.M i):=by
     intro t h0 h1 hta;rw[a33,jS];simp only;by_cases e3:ta=3
     ·rw[f9 e3];exact j1 1 (by omega) (by omega) (fun _=>by omega)
     ·rw[d8 e3];exact j1 t h0 h1 hta
    by_cases e7:w.Ks=7
    ·rw[f9 e7,i7,d6];rw[b2.tys]at w1;have tI:=a35 hC.ty w1 e7;refine j2 w.Of (by have:=tI.1;omega) tI.2.1 (fun _ h=>?_);rw[h]at w1;have:=hC.ty.base 0 (by omega);rw[show Int.toNat 0=0 from rfl,this]at w1;cases w1;simp only at e7;omega
    ·rw[d8 e7];exact j2 0 (by omega) (by omega) (fun h=>by omega)
   ·have d31:x.Ks=31:=n31 d28;obtain⟨r,p1,p2,p3,p4⟩:=a6g cc x.Ns ta tb (by rw[b2.tys];omega) (fun y hy=>by
     rw[b2.tys,hC.ty.base 0 (by omega)]at hy;cases hy
     decide) a4 (by rw[b2.tys];exact a5) b4 (by rw[b2.tys];exact b5)
    obtain⟨f,f1,f2⟩:=Y0 cc (decide (r>0)) b hbl2;rw[d8 d28,i5,d8 n29,i5,d8 n30,i5,f9 d31,i7];simp only;rw[g0,d6,ga0,d6,a1,d6,g1,d6,ga1,d6,b1,d6];simp only;rw[p1,d6,f1,d6];refine fin r f p2 (by omega) (fun hg=>?_);obtain⟨u1,u2⟩:=f2 hg;have v:=D6 u2;obtain⟨w1,w2⟩:=p4 (by omega);exact⟨u1,by omega,w1,w2⟩
  have n28:¬x.Ks=28:=fun h=>c28 (.inl h);have n31:¬x.Ks=31:=fun h=>c28 (.inr h);have one:∀(k:Nat) (y:d7) (ca:l8) (ta:Int),b+1≤k→l[k]? =some y→y.Cs=(st:Int)-(k+1)→CI l P ca→Cx c ca k st→(ca.F.Code=0→(∃m,ca.M[k]? =some m∧m.Ts=ta)∧∀i,k≤i→i<st→EF l P ca.M i)→(∀i,b+1≤i→i<k→kd l i<21)→(∀k'∈ks,21≤kd l k'→k'=k)→¬x.Ks=29→
    ∀(t:Int) (f:y6),0≤t→t<(P.To.length:Int)→(x.Ks=32→t=c.M[b].Ts)→(f.Code=0→ca.F.Code=0∧t≠0∧ta≠0)→∃t' c',I5 d5 (b:Int) t (⟨ca.L,ca.M,ca.P,ca.T,f,ca.By⟩:l8)=some ((t',c',()),())∧CI l P c'∧Cx c c' b st∧0≤t'∧t'<(P.To.length:Int)∧(c'.F.Code=0→(x.Ks≠27→t'≠0)∧(∃m,c'.M[b]? =some m∧m.Ts=t')∧∀i,b≤i→i<st→EF l P c'.M i):=by
   intro k y ca ta hbk hy hys hIa hXa hFa hlow hkk h29 t f h0 h1 h32 hf;have hbc:b<ca.M.length:=(by rw[hIa.len];omega);have hmc:ca.M[b]? =some ca.M[b]:=p8 hbc;have hX:Cx c ca b st:=hXa.trans (Cx.refl ca b st) (by omega) (i8 _) (i8 _) (i8 _);refine Qo hC b x st hx hbq hq hk1' t4 c ⟨ca.L,ca.M,ca.P,ca.T,f,ca.By⟩ t ca.M[b] (hIa.fault f) ⟨hX.marks,hX.res,fun hb=>absurd cb hb⟩ hmc h0 h1 (fun h=>by
    have e:=hXa.marks b (.inl (by omega));rw[hmc,hmb]at e;injection e with e
    rw[e];exact h32 h) (fun hg=>?_)
   obtain⟨f1,f2,f3⟩:=hf hg;obtain⟨⟨ma,p2,p3⟩,p4⟩:=hFa f1;clear hFa hf kid;refine⟨fun _=>f2,fun i i1 i2=>?_,EF.mk' hx t1 t5 c27 (fun h=>absurd h h29) (fun k' hkm h21=>?_)⟩
   ·by_cases hi:i<k
    ·exact EF.other (hlow i i1 hi)
    ·exact p4 i (by omega) i2
   ·have:=hkk k' hkm h21;subst this;exact⟨ma,by rw[Z1 (by omega)];exact p2,by rw[p3];exact f3⟩
  rw[d8 n28,i5];by_cases c29:x.Ks=29
  ·obtain⟨e1,e2⟩:=B7 (t6.k12 (.inr (.inl c29)));obtain⟨y,rfl,hy,hys,hy1⟩:=Yh t5 e1;have s0:=D7 (e2 0 (by simp) (by simp));simp only[H1]at s0;rw[u0 hy]at s0;have g0:i6 (l5 [b+1]) (0:Int)=some ((b+1:Nat):Int):=C6 (i:=0) (ks:=[b+1]) (by simp);have ga0:(l5 [b+1])[Int.toNat 0]? =some ((b+1:Nat):Int):=D9 (i:=0) (ks:=[b+1]) (by simp);have hk29:kd l b=29:=(by rw[u0 hx];exact c29);obtain⟨ta,ca,a1,a2,a3,a4,a5,a6⟩:=kid (b+1) st y c (i8 _) (i8 _) hy hys hy1 s0.1 s0.2 hI (fun _ _=>rfl);have hkl:b+1<ca.L.length:=(by rw[a2.nodes];exact(l9.1 hy).1);have hbc:b<ca.M.length:=(by rw[a2.len];exact hbl);have hmc:ca.M[b]? =some ca.M[b]:=p8 hbc;have hXa:Cx c ca b st:=a3.trans (Cx.refl ca b st) (Nat.le_succ b) (i8 _) (i8 _) (i8 _);clear one;rw[f9 c29,i7];simp only;rw[g0,d6,ga0,d6,b4e,cJ,a1];simp only[d6];have j0:∃t' c',((sW d5 ((b+1:Nat):Int) ((ta,ca,()),())).bind fun(t:A6)=>I5 d5 (b:Int) t.1.1 t.1.2.1)=some ((t',c',()),())∧CI l P c'∧Cx c c' b st∧0≤t'∧t'<(P.To.length:Int)∧(c'.F.Code=0→(x.Ks≠27→t'≠0)∧(∃m,c'.M[b]? =some m∧m.Ts=t')∧∀i,b≤i→i<st→EF l P c'.M i):=by obtain⟨f,f1,f2⟩:=Ih ca 9 (by decide) (b+1) hkl;rw[a9c,xA];simp only;rw[f1,d6,d6];exact Qo hC b x st hx hbq hq hk1' t4 c ⟨ca.L,ca.M,ca.P,ca.T,f,ca.By⟩ 0 ca.M[b] (a2.fault f) ⟨hXa.marks,hXa.res,fun hb=>absurd cb hb⟩ hmc (N0 _) (by clear a6 kid;omega) (fun h=>absurd h (by rw[c29];decide)) (fun hg=>absurd hg f2)
   by_cases fa:ca.F.Code=0
   ·obtain⟨w,w1,w2,w3⟩:=bE ca ta a4 (by rw[a2.tys];exact a5);rw[f9 fa,x4,i5,w3,d6];simp only;by_cases e6:w.Ks=6
    ·rw[a2.tys]at w1;obtain⟨j,j1,j2⟩:=b4B hC.ty w1 e6;have hjr:j<P.Rs.length:=(by rw[hC.recs];exact j2);have hta:ta≠0:=fun h=>by rw[h,show Int.toNat 0=0 from rfl,hC.ty.base 0 (by decide)]at w1;cases w1;exact absurd e6 (by decide)
     have gR:i6 ca.P.Rs w.Of=some P.Rs[j]:=(by rw[a2.prog,j1,l7 hjr]);obtain⟨t,d',q1,q2,q3,q4,q5,⟨m',q6,q7⟩,q8⟩:=a1W hC b hbl ta ca a2 ca.M[b] hmc hk29 P.Rs[j] (hC.rc _ (y5 hjr)) _ 0 rfl;rw[f9 e6,x4,i5,w2,d6,gR,d6,show Tp d5 (b:Int) 0 ((ta,ca,()),()) P.Rs[j]=_ from q1,d6];refine Qo hC b x st hx hbq hq hk1' t4 c d' t m' q2 (hXa.trans q3 (i8 _) (i8 _) (i8 _) hbq) q6 q4 q5 (fun h=>absurd h (by rw[c29];decide)) (fun hg=>?_);obtain⟨u1,u2⟩:=q8 hg;obtain⟨v1,⟨ma,v2,v3⟩,v4⟩:=a6 u1;have hb':=(l9.1 q6).1;have u3:=u2.1;clear a6 kid q8;refine⟨fun _=>by omega,fun i i1 i2=>?_,EF.mk' hx t1 t5 c27 (fun _=>⟨_,Q2 hb',q7 hg⟩) (fun k' hkm _=>?_)⟩
     ·obtain⟨xx,kk,g1,g2,g3,g4,g5⟩:=t4.inside i i1 i2;exact(v4 i i1 i2).same g1 g2 (fun jj j1 j2=>q3.marks jj (.inr (by omega))) g3
     ·have:=I2.1 hkm;subst this;exact⟨ma,by rw[Z1 (by omega),q3.marks (b+1) (.inr (i8 _))];exact v2,by rw[v3];exact hta⟩
    ·rw[d8 e6];exact j0
   ·rw[d8 fa];exact j0
  rw[d8 c29,i5];by_cases c30:x.Ks=30
  ·obtain⟨e1,e2⟩:=B7 (t6.k12 (.inr (.inr c30)));obtain⟨y,rfl,hy,hys,hy1⟩:=Yh t5 e1;have s0:=D7 (e2 0 (by simp) (by simp));simp only[H1]at s0;rw[u0 hy]at s0;have g0:i6 (l5 [b+1]) (0:Int)=some ((b+1:Nat):Int):=C6 (i:=0) (ks:=[b+1]) (by simp);have ga0:(l5 [b+1])[Int.toNat 0]? =some ((b+1:Nat):Int):=D9 (i:=0) (ks:=[b+1]) (by simp);have hlow:∀i,b+1≤i→i<b+1→kd l i<21:=fun i i1 i2=>by omega
   have hkk:∀k'∈ [b+1],21≤kd l k'→k'=b+1:=fun k' hk' _=>I2.1 hk';obtain⟨ta,ca,a1,a2,a3,a4,a5,a6⟩:=kid (b+1) st y c (i8 _) (i8 _) hy hys hy1 s0.1 s0.2 hI (fun _ _=>rfl);have hkl:b+1<ca.L.length:=(by rw[a2.nodes];exact(l9.1 hy).1);have fin:=one (b+1) y ca ta (i8 _) hy hys a2 a3 (fun h=>⟨(a6 h).2.1,(a6 h).2.2⟩) hlow hkk c29;have mst:∀B:Bool,(B=true→ta≠0)→∃t' c',(((J4 d5 ca B ((b+1:Nat):Int))).bind fun(r:RT4)=>(I5 d5 (b:Int) ta r.1.1))=some ((t',c',()),())∧CI l P c'∧Cx c c' b st∧0≤t'∧t'<(P.To.length:Int)∧(c'.F.Code=0→(x.Ks≠27→t'≠0)∧(∃m,c'.M[b]? =some m∧m.Ts=t')∧∀i,b≤i→i<st→EF l P c'.M i):=by intro B hB;obtain⟨f,f1,f2⟩:=Y0 ca B (b+1) hkl;rw[f1,d6];exact fin ta f a4 a5 (fun h=>absurd h (by rw[c30];decide)) (fun hg=>⟨(f2 hg).1,hB (f2 hg).2,hB (f2 hg).2⟩)
   have mT:=mst (decide (ta=4)) (fun h=>by have:=D6 h;rw[this];decide);have mF:=mst false (fun h=>nomatch h);rw[f9 c30,i7];simp only;rw[g0,d6,ga0,d6,a1,d6];simp only[d6];have tr:∀v:Int,v≠0→ta=v→_:=fun v hv h=>mst true (fun _=>by rw[h];exact hv);have two:∃t' c',(cond (decide (x.Ns=12)) (cond (decide (ta=1)) (((J4 d5 ca true ((b+1:Nat):Int))).bind fun(r:RT4)=>(I5 d5 (b:Int) ta r.1.1)) (((J4 d5 ca (decide (ta=4)) ((b+1:Nat):Int))).bind fun(r:RT4)=>(I5 d5 (b:Int) ta r.1.1))) (((J4 d5 ca false ((b+1:Nat):Int))).bind fun(r:RT4)=>(I5 d5 (b:Int) ta r.1.1)))=some ((t',c',()),())∧CI l P c'∧Cx c c' b st∧0≤t'∧t'<(P.To.length:Int)∧(c'.F.Code=0→(x.Ks≠27→t'≠0)∧(∃m,c'.M[b]? =some m∧m.Ts=t')∧∀i,b≤i→i<st→EF l P c'.M i):=by
    cases decide (x.Ns=12)with
    |false=>exact mF
    |true=>
     rw[i7];by_cases v1:ta=1
     ·rw[f9 v1];exact tr 1 (by decide) v1
     ·rw[d8 v1];exact mT
   cases decide (x.Ns=13)with
   |false=>exact two
   |true=>
    rw[i7];by_cases v2:ta=2
    ·rw[f9 v2];exact tr 2 (by decide) v2
    ·rw[d8 v2];exact two
  rw[d8 c30,i5,d8 n31,i5];obtain⟨hmP,hEn⟩:=hM b (i8 _) (by omega);have rest:∀t:Int,C7 P.To t→(∀i,b+1≤i→i<st→kd l i<21)→(x.Ks=32→t=c.M[b].Ts)→∃t' c',I5 d5 (b:Int) t c=some ((t',c',()),())∧CI l P c'∧Cx c c' b st∧0≤t'∧t'<(P.To.length:Int)∧(c'.F.Code=0→(x.Ks≠27→t'≠0)∧(∃m,c'.M[b]? =some m∧m.Ts=t')∧∀i,b≤i→i<st→EF l P c'.M i):=fun t ht hin h32=>a0S hC b x st hx hs hbq hq hk1' c27 c29 t4 c t hI (.inl ht) ks t5 hin (fun m hm h=>by rw[hmb]at hm;injection hm with hm;rw[←hm];exact h32 h);by_cases c32:x.Ks=32
  ·obtain⟨m,m1,m2⟩:=hEn.k32 (by rw[u0 hx];exact c32);have em:c.M[b]=m:=by
    rw[hmP,m1]at hmb;injection hmb with hmb
    exact hmb.symm
   rw[f9 c32,i7];simp only[A9];rcases t6.k32 c32 with⟨hS,_⟩|⟨hS,_⟩
   ·obtain⟨e1,e2⟩:=B7 hS;obtain⟨y,rfl,hy,hys,hy1⟩:=Yh t5 e1;have s0:=X2 (e2 0 (by simp) (by simp));simp only[H1]at s0;rw[u0 hy]at s0;rw[d8 (by simp),i5,em];exact rest _ m2 (fun i i1 i2=>by
     have:=Mr hC.may hC.small hC.tx _ (b+1) y st hy hys rfl (by omega) i i1 i2;omega) (fun _=>by rw[em])
   ·obtain⟨e1,e2⟩:=B7 hS;obtain⟨k0,k1,y,z,rfl,hk0,hy,hys,hy1,hz,hzs,hz1⟩:=Hw t5 e1;have s0:=X2 (e2 0 (by simp) (by simp));have s1:=D7 (e2 1 (by simp) (by simp));simp only[H1,Z2]at s0 s1;have hlow:∀i,b+1≤i→i<k1→kd l i<21:=fun i i1 i2=>by have:=Mr hC.may hC.small hC.tx _ k0 y k1 hy hys rfl (by rw[←u0 hy];omega) i (by omega) i2;omega
    have hkk:∀k'∈ [k0,k1],21≤kd l k'→k'=k1:=fun k' hk' h21=>by
     simp at hk';rcases hk' with rfl|rfl
     ·omega
     ·rfl
    rw[u0 hz]at s1;have g1:i6 (l5 [k0,k1]) (1:Int)=some ((k1:Nat):Int):=C6 (i:=1) (ks:=[k0,k1]) (by simp);have ga1:(l5 [k0,k1])[Int.toNat 1]? =some ((k1:Nat):Int):=D9 (i:=1) (ks:=[k0,k1]) (by simp);obtain⟨ta,ca,a1,a2,a3,a4,a5,a6⟩:=kid k1 st z c (by omega) (i8 _) hz hzs hz1 s1.1 s1.2 hI (fun _ _=>rfl);have hkl:k1<ca.L.length:=(by rw[a2.nodes];exact(l9.1 hz).1);obtain⟨f,f1,f2⟩:=Y0 ca (decide (ta=1)) k1 hkl;have hb1:b+1≤k1:=(by clear a6 kid one;omega);rw[f9 (by simp),i7,g1,d6,ga1,d6,a1,d6];simp only[d6];rw[f1,d6,em];refine one k1 z ca ta hb1 hz hzs a2 a3 (fun h=>⟨(a6 h).2.1,(a6 h).2.2⟩) hlow hkk c29 m.Ts f (Int.le_trans (by decide) m2.1) m2.2.1 (fun _=>by rw[em]) (fun hg=>?_);obtain⟨u1,u2⟩:=f2 hg;have u3:=D6 u2;have u4:=m2.1;clear a6 kid one;exact⟨u1,by omega,by omega⟩
  ·have c26:x.Ks=26:=(by clear one kid;omega);obtain⟨m,m1,m2⟩:=hEn.k26 (by rw[u0 hx];exact c26);have em:c.M[b]=m:=by
    rw[hmP,m1]at hmb;injection hmb with hmb
    exact hmb.symm
   have hks:ks=[]:=Il (t6.kr (by clear one kid;omega)).1;subst hks;rw[d8 c32,i5,em];exact rest _ m2 (fun i i1 i2=>by cases t5;clear one kid;omega) (fun h=>absurd h c32)
 ·rw[d8 cb];exact⟨0,c,rfl,hI,Cx.refl _ _ _,N0 _,by omega,fun h=>absurd h cb⟩
end
end
section
theorem Mn{l:List d7}{P:s9}{nr:Nat}(hC:X1 l P nr):∀n,aH l P n:=by
 intro n
 induction n using Nat.strongRecOn with
 |_ n ih=>exact a1C hC n ih
theorem a9J{l:List d7}{s:d9}{nr:Nat}(h:Yt l s nr)(hM:J6 l)(hl:l.length≤30000)(htx:∀n∈l,n.Gs.length≤65536):X1 l s.P nr:=by
 have hbig:=h.ri.big;unfold tot at hbig;refine⟨hM,hl,htx,h.ri.ty,by omega,h.recs,h.ri.fl h.good,by omega,h.ri.rc,fun f hf=>?_,fun f hf=>?_,by omega,h.ri.sl h.good⟩
 ·obtain⟨k,x,_,_,_,_,h5⟩:=h.ri.fn f hf;exact h5
 ·obtain⟨k,st,np,bp,x,ks,_,_,_,_,_,_,h7,h8,h9,h10,_⟩:=h.fns f hf;omega
theorem a6M{l:List d7}{s:d9}{Sl:Int}{i:Nat}(h:NdE l s Sl i)(h7:NdS l s Sl i):EnC l s.P i:=
 ⟨fun hk=>by obtain⟨m,a,_,_,b⟩:=h.k26 hk;exact⟨m,a,b⟩,fun hk=>h.k27 hk,fun hk=>h.k32 hk,fun hk=>by obtain⟨m,a,_,b⟩:=h7 (by omega) (by omega);exact⟨m,a,(b hk).2.2⟩⟩
end
section
structure SF(l:List d7)(M:List l4)(R:Int)(i:Nat):Prop where
 kid:7≤kd l i→kd l i≤12→∀(x:d7) (st:Nat) (ks:List Nat),l[i]? =some x→x.Cs=(st:Int)-(i+1)→Kc l (i+1) st ks→∀k∈ks,21≤kd l k→∃m,M[k]? =some m∧m.Ts≠0
 ret:kd l i=11→∀(x:d7) (st:Nat) (ks:List Nat),l[i]? =some x→x.Cs=(st:Int)-(i+1)→Kc l (i+1) st ks→(ks=[]→R=0)∧(ks≠ []→R≠0)
theorem SF.same{l:List d7}{M M':List l4}{R:Int}{i:Nat}{x:d7}{st:Nat}(h:SF l M R i)(hx:l[i]? =some x)(hs:x.Cs=(st:Int)-(i+1))(e:∀j,i≤j→j<st→M'[j]? =M[j]?):SF l M' R i:=by refine⟨fun a b y st' ks a1 a2 a3 k hkm h21=>?_,h.ret⟩;obtain⟨m,b1,b2⟩:=h.kid a b y st' ks a1 a2 a3 k hkm h21;rw[hx]at a1;cases a1;obtain⟨c1,c2,_⟩:=a3.mem k hkm;exact⟨m,by rw[e k (by omega) (by omega)];exact b1,b2⟩
theorem SF.other{l:List d7}{M:List l4}{R:Int}{i:Nat}(h:kd l i<7∨13<kd l i):SF l M R i:=⟨fun a b=>by omega,fun a=>by omega⟩
inductive En(l:List d7):Nat→Prop
 |ret(b:Nat)(x:d7)(hx:l[b]? =some x)(hk:x.Ks=11):En l b
 |both(b st k0 k1 k2:Nat)(x:d7)(hx:l[b]? =some x)(hk:x.Ks=9)(hs:x.Cs=(st:Int)-(b+1))(hks:Kc l (b+1) st [k0,k1,k2])
   (x1:d7) (st1:Nat) (ks1:List Nat) (y1:Nat) (hx1:l[k1]? =some x1) (hs1:x1.Cs=(st1:Int)-(k1+1)) (hk1:Kc l (k1+1) st1 ks1) (hy1:ks1.getLast? =some y1) (h1:En l y1)
   (x2:d7) (st2:Nat) (ks2:List Nat) (y2:Nat) (hx2:l[k2]? =some x2) (hs2:x2.Cs=(st2:Int)-(k2+1)) (hk2:Kc l (k2+1) st2 ks2) (hy2:ks2.getLast? =some y2) (h2:En l y2):En l b
def LEn(l:List d7)(ks:List Nat):Prop:=∃y,ks.getLast? =some y∧En l y
def BEn(l:List d7)(k:Nat):Prop:=∃(x:d7) (st:Nat) (ks:List Nat),l[k]? =some x∧x.Cs=(st:Int)-(k+1)∧Kc l (k+1) st ks∧LEn l ks
def EU(l:List d7)(P:s9)(n:Nat):Prop:=∀(b:Nat) (x:d7) (q:Nat),q-b=n→l[b]? =some x→x.Cs=(q:Int)-(b+1)→b+1≤q→q≤l.length→7≤x.Ks→x.Ks≤13→∀c:l8,CI l P c→(∀i,b≤i→i<q→c.M[i]? =P.Ms[i]?∧EnC l P i)→
 ∃e c',Gy d5 c (b:Int)=some ((e,c',()),())∧CI l P c'∧Cx c c' b q∧(c'.F.Code=0→∀i,b≤i→i<q→EF l P c'.M i∧SF l c'.M c.By i)∧(c'.F.Code=0→e=true→En l b)
def Vj(l:List d7)(P:s9)(n:Nat):Prop:=∀(b:Nat) (x:d7) (q:Nat),q-b=n→l[b]? =some x→x.Cs=(q:Int)-(b+1)→b+1≤q→q≤l.length→x.Ks=6→∀c:l8,CI l P c→(∀i,b≤i→i<q→c.M[i]? =P.Ms[i]?∧EnC l P i)→
 ∃e c',oW d5 c (b:Int)=some ((e,c',()),())∧CI l P c'∧Cx c c' b q∧(c'.F.Code=0→∀i,b≤i→i<q→EF l P c'.M i∧SF l c'.M c.By i)∧(c'.F.Code=0→e=true→BEn l b)
section
variable{l:List d7}{P:s9}{nr:Nat}(hC:X1 l P nr)
include hC
theorem a2n(N:Nat)(ih:∀m,m<N→EU l P m):Vj l P N:=by
 intro b x q hN hx hs hbq hq hk c hI hM;have hsm:=hC.small;obtain⟨st,ks,t1,t2,t3,t4,t5,t6,t7⟩:=hC.may.nd b x hx;have est:st=q:=(by omega);subst est;have hkle:=t5.le;have hks:∀p∈ks,7≤kd l p∧kd l p≤13:=fun p hp=>mR (Mt (t6.k6 hk) p hp);have loop:∀(n e c0:Nat) (a:Bool) (d:l8),ks.length-e=n→e≤ks.length→b+1≤c0→Kc l c0 st (ks.drop e)→CI l P d→(∀i,c0≤i→i<st→d.M[i]? =P.Ms[i]?∧EnC l P i)→(d.F.Code=0→a=true→LEn l (ks.take e))→
   ∃a' d',pW d5 a ((l5 ks,()),()) (e:Int) d=some ((a',d',()),())∧CI l P d'∧Cx d d' c0 st∧(d'.F.Code=0→∀i,c0≤i→i<st→EF l P d'.M i∧SF l d'.M d.By i)∧(d'.F.Code=0→a'=true→LEn l ks):=by
  intro n
  induction n with
  |zero=>
   intro e c0 a d hn he hc0 hK hId hMd hA;have hc:c0=st:=by rw[J1 (by omega)]at hK;cases hK;rfl
   rw[NW,aF];simp only[A9];rw[d8 (by omega),i5,a3Y,vC];exact⟨a,d,rfl,hId,Cx.refl _ _ _,fun _ i h1 h2=>by omega,by rw[List.take_of_length_le (by omega)]at hA;exact hA⟩
  |succ n ihn=>
   intro e c0 a d hn he hc0 hK hId hMd hA;have hel:e<ks.length:=(by omega);have g:=C6 hel;have ga:=D9 hel;rw[H5 hel]at hK;obtain⟨ek,y,q,hy,hys,hq1,hq2,hrest⟩:=hK.first
   have hky:=hks _ (y5 hel);rw[ek,u0 hy]at hky;have n1:ks.length-(e+1)=n:=(by omega);have n2:e+1≤ks.length:=(by omega);have n3:b+1≤q:=(by omega);have n5:c0≤q:=(by omega);have n7:w64 ((e:Int)+1)=((e+1:Nat):Int):=z8 (by omega);have n8:(e:Int)<(ks.length:Int):=(by omega);obtain⟨a1,d1,r1,r2,r3,r6,r7⟩:=ih (q-c0) (by omega) c0 y q rfl hy hys hq1 (by omega) hky.1 hky.2 d hId (fun i h1 h2=>hMd i h1 (by omega));rw[NW,aF];simp only[A9];rw[f9 n8,i7,g,d6,B8,ga,d6,ek,r1,d6,n7];obtain⟨a',d',k1,k2,k3,k7,k8⟩:=ihn (e+1) q a1 d1 n1 n2 n3 hrest r2 (fun i h1 h2=>by rw[r3.marks i (.inr h1)];exact hMd i (Ea n5 h1) h2) (fun hg ht=>⟨c0,by rw[List.take_add_one,p8 hel,ek];simp,r7 hg ht⟩);refine⟨a',d',k1,k2,r3.trans k3 (i8 _) hq2 n5 (i8 _),fun hg i h1 h2=>?_,k8⟩;have z2:=k7 hg;have hg1:d1.F.Code=0:=T0 fun hc=>k3.bad hc hg;have w4:=r6 hg1;rw[r3.res]at z2;clear r6 k7;by_cases hi:i<q
   ·obtain⟨st',_,u1,u2,u3,u4,_⟩:=hC.may.nd c0 y hy;have:st'=q:=(by omega);subst this;obtain⟨xx,kk,g1,g2,g3,g4,g5⟩:=(WFo.cons c0 st' st' y hy hys hq1 u4 (WFo.nil st')).inside i h1 hi;obtain⟨p1,p2⟩:=w4 i h1 hi;exact⟨p1.same g1 g2 (fun j h3 h4=>k3.marks j (.inl (by omega))) g3,p2.same g1 g2 (fun j h3 h4=>k3.marks j (.inl (by omega)))⟩
   ·exact z2 i (by omega) h2
 have ei:(ks.map (fun(k:Nat)=>(k:Int)))=l5 ks:=rfl;rw[a3S,qA,hI.nodes,T8 (by omega) hx t1 t3 t5,d6,ei];obtain⟨a',d',k1,k2,k3,k4,k5⟩:=loop _ 0 (b+1) false c rfl (C8 _) (i8 _) (by rw[L9];exact t5) hI (fun i h1 h2=>hM i (by omega) h2) (fun _ h=>nomatch h);refine⟨a',d',k1,k2,k3.trans (Cx.refl d' b st) (by omega) (i8 _) (i8 _) (i8 _),fun hg i h1 h2=>?_,fun hg ht=>⟨x,st,ks,hx,t1,t5,k5 hg ht⟩⟩;by_cases e:i=b
 ·subst e;have:=u0 hx;exact⟨EF.other (by omega),SF.other (.inl (by omega))⟩
 ·exact k4 hg i (by omega) h2
end
end
section
section
variable{l:List d7}{P:s9}{nr:Nat}(hC:X1 l P nr)
include hC
theorem a8z(N:Nat)(ih:∀m,m<N→Vj l P m)(b st:Nat)(hst:st≤l.length)(hN:st-b=N)(ks:List Nat)(hkl:ks.length≤l.length):∀(n e c0:Nat) (a:Bool) (d:l8),ks.length-e=n→e≤ks.length→b+1≤c0→(∀(j:Nat) (hj:j<ks.length),e≤j→kd l ks[j]=6)→Kc l c0 st (ks.drop e)→CI l P d→(∀i,c0≤i→i<st→d.M[i]? =P.Ms[i]?∧EnC l P i)→∃a' d',Oi d5 a (e:Int) d ((l5 ks,()),())=some ((a',d',()),())∧CI l P d'∧Cx d d' c0 st∧(d'.F.Code=0→∀i,c0≤i→i<st→EF l P d'.M i∧SF l d'.M d.By i)∧(d'.F.Code=0→a'=true→a=true∧∀(j:Nat) (hj:j<ks.length),e≤j→BEn l ks[j]):=by
 have hsm:=hC.small;intro n
 induction n with
 |zero=>
  intro e c0 a d hn he hc0 h6 hK hId hMd;have hc:c0=st:=by rw[J1 (by omega)]at hK;cases hK;rfl
  rw[MK,aV];simp only[A9];rw[d8 (by omega),i5,b1j,eE];exact⟨a,d,rfl,hId,Cx.refl _ _ _,fun _ i h1 h2=>by omega,fun _ ha=>⟨ha,fun j hj hej=>by omega⟩⟩
 |succ n ihn=>
  intro e c0 a d hn he hc0 h6 hK hId hMd;have hel:e<ks.length:=(by omega);have g:=C6 hel;have ga:=D9 hel;have hk6:=h6 e hel (i8 _);rw[H5 hel]at hK;obtain⟨ek,y,q,hy,hys,hq1,hq2,hrest⟩:=hK.first
  rw[ek,u0 hy]at hk6;have n1:ks.length-(e+1)=n:=(by omega);have n2:e+1≤ks.length:=(by omega);have n3:b+1≤q:=(by omega);have n5:c0≤q:=(by omega);have n7:w64 ((e:Int)+1)=((e+1:Nat):Int):=z8 (by omega);have n8:(e:Int)<(ks.length:Int):=(by omega);obtain⟨a1,d1,r1,r2,r3,r6,r7⟩:=ih (q-c0) (by omega) c0 y q rfl hy hys hq1 (by omega) hk6 d hId (fun i h1 h2=>hMd i h1 (by omega));have next:∀a2:Bool,(a2=true→a=true∧a1=true)→∃a' d',Oi d5 a2 ((e+1:Nat):Int) d1 ((l5 ks,()),())=some ((a',d',()),())∧CI l P d'∧Cx d d' c0 st∧(d'.F.Code=0→∀i,c0≤i→i<st→EF l P d'.M i∧SF l d'.M d.By i)∧(d'.F.Code=0→a'=true→a=true∧∀(j:Nat) (hj:j<ks.length),e≤j→BEn l ks[j]):=by
   intro a2 ha2;obtain⟨a',d',k1,k2,k3,k7,k8⟩:=ihn (e+1) q a2 d1 n1 n2 n3 (fun j hj hje=>h6 j hj (by omega)) hrest r2 (fun i h1 h2=>by rw[r3.marks i (.inr h1)];exact hMd i (Ea n5 h1) h2);refine⟨a',d',k1,k2,r3.trans k3 (i8 _) hq2 n5 (i8 _),fun hg i h1 h2=>?_,fun hg ht=>?_⟩
   rotate_left
   ·obtain⟨w1,w2⟩:=k8 hg ht;obtain⟨w3,w4⟩:=ha2 w1;have hg1:d1.F.Code=0:=T0 fun hc=>k3.bad hc hg;refine⟨w3,fun j hj hej=>?_⟩;by_cases ej:e=j
    ·subst ej;rw[ek];exact r7 hg1 w4
    ·exact w2 j hj (by omega)
   have z2:=k7 hg;have hg1:d1.F.Code=0:=T0 fun hc=>k3.bad hc hg;have w4:=r6 hg1;rw[r3.res]at z2;clear r6 k7;by_cases hi:i<q
   ·obtain⟨st',_,u1,u2,u3,u4,_⟩:=hC.may.nd c0 y hy;have:st'=q:=(by omega);subst this;obtain⟨xx,kk,g1,g2,g3,g4,g5⟩:=(WFo.cons c0 st' st' y hy hys hq1 u4 (WFo.nil st')).inside i h1 hi;obtain⟨p1,p2⟩:=w4 i h1 hi;exact⟨p1.same g1 g2 (fun j h3 h4=>k3.marks j (.inl (by omega))) g3,p2.same g1 g2 (fun j h3 h4=>k3.marks j (.inl (by omega)))⟩
   ·exact z2 i (by omega) h2
  rw[MK,aV];simp only[A9];rw[f9 n8,i7,g,d6,B8,ga,d6,ek,r1,d6,n7];cases a with
  |true=>exact next a1 (fun h=>⟨rfl,h⟩)
  |false=>exact next false (fun h=>nomatch h)
end
end
section
section
variable{l:List d7}{P:s9}{nr:Nat}(hC:X1 l P nr)
include hC
theorem GH(b:Nat)(x:d7)(st:Nat)(hx:l[b]? =some x)(hs:x.Cs=(st:Int)-(b+1))(ks:List Nat)(hks:Kc l (b+1) st ks)(hk:7≤x.Ks∧x.Ks≤13)(c ca:l8)(k:Nat)(y:d7)(ta:Int)(hbk:b+1≤k)(hkst:k≤st)(hy:l[k]? =some y)(hyk:21≤y.Ks∧y.Ks≤32)(hys:y.Cs=(st:Int)-(k+1))(hI:CI l P ca)(hX:Cx c ca k st)(f:y6)(hE:f.Code=0→(∃m,ca.M[k]? =some m∧m.Ts=ta)∧∀i,k≤i→i<st→EF l P ca.M i)(hlow:∀i,b+1≤i→i<k→14≤kd l i∧kd l i<21)(hkk:∀k'∈ks,21≤kd l k'→k'=k)(hf:c.F.Code≠0→f.Code≠0)(hne:f.Code=0→x.Ks≤12→ta≠0)(hret:f.Code=0→x.Ks=11→(ks=[]→c.By=0)∧(ks≠ []→c.By≠0)):CI l P ⟨ca.L,ca.M,ca.P,ca.T,f,ca.By⟩∧Cx c ⟨ca.L,ca.M,ca.P,ca.T,f,ca.By⟩ b st∧(f.Code=0→∀i,b≤i→i<st→EF l P ca.M i∧SF l ca.M c.By i):=by
 refine⟨hI.fault f,⟨fun i hi=>hX.marks i (by omega),hX.res,hf⟩,fun hg i i1 i2=>?_⟩;obtain⟨⟨m,m1,m2⟩,m3⟩:=hE hg;have hn:=hne hg;have hr:=hret hg;clear hE hne hret;by_cases e:i=b
 ·subst e;have hke:=u0 hx;refine⟨EF.other (by omega),⟨fun _ h12 z st' ks' a1 a2 a3 k' hkm h21=>?_,fun h11 z st' ks' a1 a2 a3=>?_⟩⟩
  ·rw[hx]at a1;cases a1;have:st'=st:=(by omega);subst this;have:=hks.det a3;subst this;have:=hkk k' hkm h21;subst this;exact⟨m,m1,by rw[m2];exact hn (by omega)⟩
  ·rw[hx]at a1;cases a1;have:st'=st:=(by omega);subst this;have:=hks.det a3;subst this;exact hr (by omega)
 ·by_cases h:i<k
  ·obtain⟨w1,w2⟩:=hlow i (by omega) h;exact⟨EF.other w2,SF.other (.inr (by omega))⟩
  ·refine⟨m3 i (by omega) i2,SF.other (.inr ?_)⟩;have:=Ug hC.may hC.small hC.tx _ k y st hy hys rfl (by omega) i (by omega) i2;omega
end
end
section
section
variable{l:List d7}{P:s9}{nr:Nat}(hC:X1 l P nr)
include hC
theorem a3U(b:Nat)(x:d7)(q:Nat)(hx:l[b]? =some x)(hs:x.Cs=(q:Int)-(b+1))(hbq:b+1≤q)(hq:q≤l.length)(hk:x.Ks=12∨x.Ks=13)(c:l8)(hI:CI l P c)(hM:∀i,b≤i→i<q→c.M[i]? =P.Ms[i]?∧EnC l P i):∃e c',Gy d5 c (b:Int)=some ((e,c',()),())∧CI l P c'∧Cx c c' b q∧(c'.F.Code=0→∀i,b≤i→i<q→EF l P c'.M i∧SF l c'.M c.By i)∧(c'.F.Code=0→e=true→En l b):=by
 have hsm:=hC.small;obtain⟨st,ks,t1,t2,t3,t4,t5,t6,t7⟩:=hC.may.nd b x hx;have est:st=q:=(by omega);subst est;have hbl:=(l9.1 hx).1;have hxe:=(l9.1 hx).2;have hS:E9 l ks=[101]:=by
  rcases hk with h|h
  ·exact t6.k12 (.inl h)
  ·exact(t6.k13 h).1
 obtain⟨e1,e2⟩:=B7 hS;obtain⟨y,rfl,hy,hys,hy1⟩:=Yh t5 e1;have s0:=D7 (e2 0 (by simp) (by simp));simp only[H1]at s0;rw[u0 hy]at s0;have g0:i6 (l5 [b+1]) (0:Int)=some ((b+1:Nat):Int):=C6 (i:=0) (ks:=[b+1]) (by simp);have ga0:(l5 [b+1])[Int.toNat 0]? =some ((b+1:Nat):Int):=D9 (i:=0) (ks:=[b+1]) (by simp);have ei:(([b+1]:List Nat).map (fun(k:Nat)=>(k:Int)))=l5 [b+1]:=rfl;have k7:¬x.Ks=7:=(by omega);have k8:¬x.Ks=8:=(by omega);have k9:¬x.Ks=9:=(by omega);have k10:¬x.Ks=10:=(by omega);have k11:¬x.Ks=11:=(by omega);have hkr:7≤x.Ks∧x.Ks≤13:=(by omega);rw[Ub,Ge];by_cases cb:c.F.Code=0
 ·rw[f9 cb,x4,i5,hI.nodes,T8 (by omega) hx t1 t3 t5,d6,l7 hbl,d6,hxe,ei,d8 k7,i5,d8 k8,i5,d8 k9,i5,d8 k10,i5,d8 k11,i5];obtain⟨ta,ca,a1,a2,a3,a4,a5,a6⟩:=Mn hC _ (b+1) y st rfl hy hys hy1 t3 s0.1 s0.2 c hI (fun i i1 i2=>hM i (by omega) i2);have hkl:b+1<ca.L.length:=(by rw[a2.nodes];exact(l9.1 hy).1);have hlow:∀i,b+1≤i→i<b+1→14≤kd l i∧kd l i<21:=fun i i1 i2=>absurd i2 (Nat.not_lt_of_le i1);have hkk:∀k'∈ [b+1],21≤kd l k'→k'=b+1:=fun k' hk' _=>I2.1 hk';have fin:=fun(f:y6) (h1:f.Code=0→ca.F.Code=0) (h2:f.Code=0→x.Ks≤12→ta≠0)=>GH hC b x st hx t1 [b+1] t5 hkr c ca (b+1) y ta (i8 _) t2 hy s0 hys a2 a3 f (fun hg=>⟨(a6 (h1 hg)).2.1,(a6 (h1 hg)).2.2⟩) hlow hkk (fun h=>absurd cb h) h2 (fun _ h=>absurd h k11);simp only;rw[g0,d6,ga0,d6,a1];simp only[d6];rcases hk with h12|h13
  ·obtain⟨f,f1,f2⟩:=Y0 ca (!(decide (ta=0))) (b+1) hkl;rw[f9 h12,i7,f1];obtain⟨z1,z2,z3⟩:=fin f (fun hg=>(f2 hg).1) (fun hg _=>by have:=(f2 hg).2;simpa using this);exact⟨false,_,rfl,z1,z2,z3,fun _ h=>nomatch h⟩
  ·have n12:¬x.Ks=12:=(by rw[h13];decide);rw[d8 n12,i5,a1];obtain⟨z1,z2,z3⟩:=fin ca.F id (fun _ h=>by rw[h13]at h;exact absurd h (by decide));exact⟨false,_,rfl,z1,z2,z3,fun _ h=>nomatch h⟩
 ·rw[d8 cb];exact⟨false,c,rfl,hI,Cx.refl _ _ _,fun h=>absurd h cb,fun _ h=>nomatch h⟩
end
end
end
section
section
section
variable{l:List d7}{P:s9}{nr:Nat}(hC:X1 l P nr)
include hC
theorem b4I(b:Nat)(x:d7)(q:Nat)(hx:l[b]? =some x)(hs:x.Cs=(q:Int)-(b+1))(hbq:b+1≤q)(hq:q≤l.length)(hk:x.Ks=11)(c:l8)(hI:CI l P c)(hM:∀i,b≤i→i<q→c.M[i]? =P.Ms[i]?∧EnC l P i):∃e c',Gy d5 c (b:Int)=some ((e,c',()),())∧CI l P c'∧Cx c c' b q∧(c'.F.Code=0→∀i,b≤i→i<q→EF l P c'.M i∧SF l c'.M c.By i)∧(c'.F.Code=0→e=true→En l b):=by
 have hsm:=hC.small;obtain⟨st,ks,t1,t2,t3,t4,t5,t6,t7⟩:=hC.may.nd b x hx;have est:st=q:=(by omega);subst est;have hbl:=(l9.1 hx).1;have hxe:=(l9.1 hx).2;have k7:¬x.Ks=7:=(by omega);have k8:¬x.Ks=8:=(by omega);have k9:¬x.Ks=9:=(by omega);have k10:¬x.Ks=10:=(by omega);have hkr:7≤x.Ks∧x.Ks≤13:=(by omega);have ei:(ks.map (fun(k:Nat)=>(k:Int)))=l5 ks:=rfl;rw[Ub,Ge];by_cases cb:c.F.Code=0
 ·rw[f9 cb,x4,i5,hI.nodes,T8 (by omega) hx t1 t3 t5,d6,l7 hbl,d6,hxe,ei,d8 k7,i5,d8 k8,i5,d8 k9,i5,d8 k10,i5,f9 hk,i7];simp only[A9];rcases t6.k11 hk with hS|hS
  ·have hks:=Il hS;subst hks;have hst:st=b+1:=(by cases t5;rfl);have hbL:b<c.L.length:=(by rw[hI.nodes];exact hbl);obtain⟨f,f1,f2⟩:=Y0 c (decide (c.By=0)) b hbL;rw[f9 (by simp),i7,f1];refine⟨true,_,rfl,hI.fault f,⟨fun _ _=>rfl,rfl,fun h=>absurd cb h⟩,fun hg i i1 i2=>?_,fun _ _=>.ret b x hx hk⟩;have:i=b:=(by omega);subst this;have hr:=D6 (f2 hg).2;refine⟨EF.other (by rw[u0 hx];omega),⟨fun _ _ z st' ks' a1 a2 a3 k' hkm _=>?_,fun _ z st' ks' a1 a2 a3=>?_⟩⟩
   ·rw[hx]at a1;cases a1;have:st'=st:=(by omega);subst this;have:=t5.det a3;subst this;exact nomatch hkm
   ·rw[hx]at a1;cases a1;have:st'=st:=(by omega);subst this;have:=t5.det a3;subst this;exact⟨fun _=>hr,fun h=>absurd rfl h⟩
  ·obtain⟨e1,e2⟩:=B7 hS;obtain⟨y,rfl,hy,hys,hy1⟩:=Yh t5 e1;have s0:=D7 (e2 0 (by simp) (by simp));simp only[H1]at s0;rw[u0 hy]at s0;have g0:i6 (l5 [b+1]) (0:Int)=some ((b+1:Nat):Int):=C6 (i:=0) (ks:=[b+1]) (by simp);have ga0:(l5 [b+1])[Int.toNat 0]? =some ((b+1:Nat):Int):=D9 (i:=0) (ks:=[b+1]) (by simp);obtain⟨ta,ca,a1,a2,a3,a4,a5,a6⟩:=Mn hC _ (b+1) y st rfl hy hys hy1 t3 s0.1 s0.2 c hI (fun i i1 i2=>hM i (by omega) i2);have hkl:b+1<ca.L.length:=(by rw[a2.nodes];exact(l9.1 hy).1);have hlow:∀i,b+1≤i→i<b+1→14≤kd l i∧kd l i<21:=fun i i1 i2=>absurd i2 (Nat.not_lt_of_le i1);have hkk:∀k'∈ [b+1],21≤kd l k'→k'=b+1:=fun k' hk' _=>I2.1 hk';have fin:=fun(f:y6) (h1:f.Code=0→ca.F.Code=0) (h2:f.Code=0→ta≠0∧c.By≠0)=>GH hC b x st hx t1 [b+1] t5 hkr c ca (b+1) y ta (i8 _) t2 hy s0 hys a2 a3 f (fun hg=>⟨(a6 (h1 hg)).2.1,(a6 (h1 hg)).2.2⟩) hlow hkk (fun h=>absurd cb h) (fun hg _=>(h2 hg).1) (fun hg _=>⟨fun h=>absurd h (by simp),fun _=>(h2 hg).2⟩);rw[d8 (by simp),i5,g0,d6,ga0,d6,a1];simp only[d6];by_cases cr:c.By=0
   ·obtain⟨f,f1,f2⟩:=Y0 ca false (b+1) hkl;rw[f9 cr,x4,i5,f1];obtain⟨z1,z2,z3⟩:=fin f (fun hg=>(f2 hg).1) (fun hg=>absurd (f2 hg).2 (by decide));exact⟨true,_,rfl,z1,z2,z3,fun _ _=>.ret b x hx hk⟩
   ·obtain⟨r,r1,r2⟩:=Oh ca ta c.By;obtain⟨f,f1,f2⟩:=Y0 ca r (b+1) hkl;rw[d8 cr,D3,i7,r1];simp only[d6];rw[f1];obtain⟨z1,z2,z3⟩:=fin f (fun hg=>(f2 hg).1) (fun hg=>⟨by
     have h5:=(r2 (f2 hg).2).2.2.2.2;rcases h5 with h|h
     ·rw[h];exact cr
     ·rw[h];decide,cr⟩)
    exact⟨true,_,rfl,z1,z2,z3,fun _ _=>.ret b x hx hk⟩
 ·rw[d8 cb];exact⟨false,c,rfl,hI,Cx.refl _ _ _,fun h=>absurd h cb,fun _ h=>nomatch h⟩
end
end
section
section
variable{l:List d7}{P:s9}{nr:Nat}(hC:X1 l P nr)
include hC
theorem b2a(b:Nat)(x:d7)(q:Nat)(hx:l[b]? =some x)(hs:x.Cs=(q:Int)-(b+1))(hbq:b+1≤q)(hq:q≤l.length)(hk:x.Ks=7)(c:l8)(hI:CI l P c)(hM:∀i,b≤i→i<q→c.M[i]? =P.Ms[i]?∧EnC l P i):∃e c',Gy d5 c (b:Int)=some ((e,c',()),())∧CI l P c'∧Cx c c' b q∧(c'.F.Code=0→∀i,b≤i→i<q→EF l P c'.M i∧SF l c'.M c.By i)∧(c'.F.Code=0→e=true→En l b):=by
 have hsm:=hC.small;obtain⟨st,ks,t1,t2,t3,t4,t5,t6,t7⟩:=hC.may.nd b x hx;have est:st=q:=(by omega);subst est;have hbl:=(l9.1 hx).1;have hxe:=(l9.1 hx).2;have hkr:7≤x.Ks∧x.Ks≤13:=(by omega);obtain⟨m,m1,m2⟩:=(hM b (i8 _) hbq).2.k7 (by rw[u0 hx];exact hk);obtain⟨e1,e2⟩:=B7 (t6.k7 hk);obtain⟨k0,k1,y,z,rfl,hk0,hy,hys,hy1,hz,hzs,hz1⟩:=Hw t5 e1;have s0:=X2 (e2 0 (by simp) (by simp));have s1:=D7 (e2 1 (by simp) (by simp));simp only[H1,Z2]at s0 s1;rw[u0 hy]at s0;rw[u0 hz]at s1;have g1:i6 (l5 [k0,k1]) (1:Int)=some ((k1:Nat):Int):=C6 (i:=1) (ks:=[k0,k1]) (by simp);have ga1:(l5 [k0,k1])[Int.toNat 1]? =some ((k1:Nat):Int):=D9 (i:=1) (ks:=[k0,k1]) (by simp);have ei:(([k0,k1]:List Nat).map (fun(k:Nat)=>(k:Int)))=l5 [k0,k1]:=rfl;have hty:=Mr hC.may hC.small hC.tx _ k0 y k1 hy hys rfl (by omega);have hlow:∀i,b+1≤i→i<k1→14≤kd l i∧kd l i<21:=fun i i1 i2=>by have:=hty i (by omega) i2;omega
 have hkk:∀k'∈ [k0,k1],21≤kd l k'→k'=k1:=fun k' hk' h21=>by
  simp at hk';rcases hk' with rfl|rfl
  ·have:=hty k' (i8 _) (by omega);omega
  ·rfl
 have hbk1:b+1≤k1:=(by omega);rw[Ub,Ge];by_cases cb:c.F.Code=0
 ·rw[f9 cb,x4,i5,hI.nodes,T8 (by omega) hx t1 t3 t5,d6,l7 hbl,d6,hxe,ei,f9 hk,i7];obtain⟨ta,ca,a1,a2,a3,a4,a5,a6⟩:=Mn hC _ k1 z st rfl hz hzs hz1 t3 s1.1 s1.2 c hI (fun i i1 i2=>hM i (by omega) i2);have hkl:k1<ca.L.length:=(by rw[a2.nodes];exact(l9.1 hz).1);have hmb:ca.M[b]? =some m:=(by rw[a3.marks b (.inl hbk1),(hM b (i8 _) hbq).1];exact m1);have hbM:=(l9.1 hmb).1;have hbMe:=(l9.1 hmb).2;obtain⟨r,r1,r2⟩:=Oh ca ta m.Ts;obtain⟨f,f1,f2⟩:=Y0 ca r k1 hkl;simp only;rw[g1,d6,ga1,d6,a1,d6,l7 hbM,d6,hbMe];simp only[d6];rw[r1];simp only[d6];rw[f1];have n11:¬x.Ks=11:=(by rw[hk];decide);obtain⟨z1,z2,z3⟩:=GH hC b x st hx t1 [k0,k1] t5 hkr c ca k1 z ta hbk1 (Nat.le_of_lt hz1) hz s1 hzs a2 a3 f (fun hg=>⟨(a6 (f2 hg).1).2.1,(a6 (f2 hg).1).2.2⟩) hlow hkk (fun h=>absurd cb h) (fun hg _=>by
   have h5:=(r2 (f2 hg).2).2.2.2.2;have:=m2.1;clear a6;omega) (fun _ h=>absurd h n11)
  exact⟨false,_,rfl,z1,z2,z3,fun _ h=>nomatch h⟩
 ·rw[d8 cb];exact⟨false,c,rfl,hI,Cx.refl _ _ _,fun h=>absurd h cb,fun _ h=>nomatch h⟩
end
end
section
section
variable{l:List d7}{P:s9}{nr:Nat}(hC:X1 l P nr)
include hC
set_option maxHeartbeats 2000000 in
theorem b4U(b:Nat)(x:d7)(q:Nat)(hx:l[b]? =some x)(hs:x.Cs=(q:Int)-(b+1))(hbq:b+1≤q)(hq:q≤l.length)(hk:x.Ks=8)(c:l8)(hI:CI l P c)(hM:∀i,b≤i→i<q→c.M[i]? =P.Ms[i]?∧EnC l P i):∃e c',Gy d5 c (b:Int)=some ((e,c',()),())∧CI l P c'∧Cx c c' b q∧(c'.F.Code=0→∀i,b≤i→i<q→EF l P c'.M i∧SF l c'.M c.By i)∧(c'.F.Code=0→e=true→En l b):=by
 have hsm:=hC.small;obtain⟨st,ks,t1,t2,t3,t4,t5,t6,t7⟩:=hC.may.nd b x hx;have est:st=q:=(by omega);subst est;have hbl:=(l9.1 hx).1;have hxe:=(l9.1 hx).2;obtain⟨f1,f2⟩:=t6.k8 hk;obtain⟨e1,e2⟩:=B7 f1;obtain⟨k0,k1,y,z,rfl,hk0,hy,hys,hy1,hz,hzs,hz1⟩:=Hw t5 e1;have s0:=D7 (e2 0 (by simp) (by simp));have s1:=D7 (e2 1 (by simp) (by simp));simp only[H1,Z2]at s0 s1;rw[u0 hy]at s0;rw[u0 hz]at s1;have fk:y.Ks≠27:=by have:fkd l [k0,k1]=y.Ks:=u0 hy;rw[this]at f2;omega
 have g0:i6 (l5 [k0,k1]) (0:Int)=some ((k0:Nat):Int):=C6 (i:=0) (ks:=[k0,k1]) (by simp);have ga0:(l5 [k0,k1])[Int.toNat 0]? =some ((k0:Nat):Int):=D9 (i:=0) (ks:=[k0,k1]) (by simp);have g1:i6 (l5 [k0,k1]) (1:Int)=some ((k1:Nat):Int):=C6 (i:=1) (ks:=[k0,k1]) (by simp);have ga1:(l5 [k0,k1])[Int.toNat 1]? =some ((k1:Nat):Int):=D9 (i:=1) (ks:=[k0,k1]) (by simp);have ei:(([k0,k1]:List Nat).map (fun(k:Nat)=>(k:Int)))=l5 [k0,k1]:=rfl;have hin0:=Ug hC.may hC.small hC.tx _ k0 y k1 hy hys rfl (by omega);have hin1:=Ug hC.may hC.small hC.tx _ k1 z st hz hzs rfl (by omega);have hkl0:=(l9.1 hy).1;have hye:=(l9.1 hy).2;have hkl1:=(l9.1 hz).1;rw[Ub,Ge];by_cases cb:c.F.Code=0
 ·have n7:¬x.Ks=7:=(by rw[hk];decide);rw[f9 cb,x4,i5,hI.nodes,T8 (by omega) hx t1 t3 t5,d6,l7 hbl,d6,hxe,ei,d8 n7,i5,f9 hk,i7];obtain⟨ta,ca,a1,a2,a3,a4,a5,a6⟩:=Mn hC _ k0 y k1 rfl hy hys hy1 (by omega) s0.1 s0.2 c hI (fun i i1 i2=>hM i (by omega) (by omega));obtain⟨tb,cc,b1,b2,b3,b4,b5,b6⟩:=Mn hC _ k1 z st rfl hz hzs hz1 t3 s1.1 s1.2 ca a2 (fun i i1 i2=>by rw[a3.marks i (.inr i1)];exact hM i (by omega) i2);have key:∀f:y6,(f.Code=0→cc.F.Code=0)→∃e c',Ql d5 ((ta,ca,()),()) ((tb,cc,()),()) ⟨cc.L,cc.M,cc.P,cc.T,f,cc.By⟩ ((l5 [k0,k1],()),())=some ((e,c',()),())∧CI l P c'∧Cx c c' b st∧(c'.F.Code=0→∀i,b≤i→i<st→EF l P c'.M i∧SF l c'.M c.By i)∧(c'.F.Code=0→e=true→En l b):=by
   intro f hf;obtain⟨r,r1,r2⟩:=Oh ⟨cc.L,cc.M,cc.P,cc.T,f,cc.By⟩ tb ta;obtain⟨f',f1',f2'⟩:=Y0 ⟨cc.L,cc.M,cc.P,cc.T,f,cc.By⟩ r k1 (by simp only;rw[b2.nodes];exact hkl1);rw[a5B,eS];simp only;rw[r1];simp only[d6];rw[g1,d6,ga1,d6,f1'];refine⟨false,_,rfl,b2.fault f',⟨fun i hi=>?_,by show cc.By=c.By;rw[b3.res,a3.res],fun h=>absurd cb h⟩,fun hg i i1 i2=>?_,fun _ h=>nomatch h⟩
   ·show cc.M[i]? =c.M[i]?;rw[b3.marks i (by omega),a3.marks i (by omega)]
   ·obtain⟨hg1,hg2⟩:=f2' hg;have hgc:=hf hg1;have hga:ca.F.Code=0:=T0 fun hc=>b3.bad hc hgc;obtain⟨p1,⟨m,m1,m2⟩,p3⟩:=a6 hga;obtain⟨q1,⟨m',m1',m2'⟩,q3⟩:=b6 hgc;have hta:=p1 fk;have hfit:=(r2 hg2).2.2.2.2;have htb:tb≠0:=by
     rcases hfit with h|h
     ·rw[h];exact hta
     ·rw[h];decide
    clear a6 b6;have same:∀j,k0≤j→j<k1→cc.M[j]? =ca.M[j]? :=fun j j1 j2=>b3.marks j (.inl j2);show EF l P cc.M i∧SF l cc.M c.By i;by_cases e:i=b
    ·subst e;have hke:=u0 hx;refine⟨EF.other (by omega),⟨fun _ _ w st' ks' w1 w2 w3 k' hkm h21=>?_,fun h11=>by omega⟩⟩;rw[hx]at w1;cases w1;have:st'=st:=(by omega);subst this;have:=t5.det w3;subst this;rcases D4.1 hkm with rfl|hkm
     ·exact⟨m,by rw[same k' (i8 _) hy1];exact m1,by rw[m2];exact hta⟩
     ·rw[I2.1 hkm];exact⟨m',m1',by rw[m2'];exact htb⟩
    ·by_cases h:i<k1
     ·obtain⟨st0,_,u1,u2,u3,u4,_⟩:=hC.may.nd k0 y hy;have:st0=k1:=(by omega);subst this;obtain⟨xx,kk,v1,v2,v3,v4,v5⟩:=(WFo.cons k0 st0 st0 y hy hys hy1 u4 (WFo.nil st0)).inside i (by omega) h;refine⟨(p3 i (by omega) h).same v1 v2 (fun j j1 j2=>same j (by omega) (by omega)) v3,SF.other (.inr ?_)⟩;have:=hin0 i (by omega) h;omega
     ·refine⟨q3 i (by omega) i2,SF.other (.inr ?_)⟩;have:=hin1 i (by omega) i2;omega
  have same0:(⟨cc.L,cc.M,cc.P,cc.T,cc.F,cc.By⟩:l8)=cc:=rfl;have k0':=key cc.F id;rw[same0]at k0';simp only;rw[g0,d6,ga0,d6,a1];simp only[d6];rw[g1,d6,ga1,d6,b1];simp only[d6];by_cases cg:cc.F.Code=0
  ·rw[f9 cg,i7,b2.nodes,l7 hkl0,d6,hye];by_cases c28:y.Ks=28
   ·obtain⟨st0,ks0,u1,u2,u3,u4,u5,u6,_⟩:=hC.may.nd k0 y hy;obtain⟨v1,v2⟩:=B7 (u6.k28 (.inl c28));obtain⟨j0,j1,y0,y1,rfl,hj0,hy0,hy0s,hy01,hy1',hy1s,hy11⟩:=Hw u5 v1;have hm:k0+1<cc.M.length:=(by rw[b2.len];omega);have ew:w64 ((k0:Int)+1)=((k0+1:Nat):Int):=z8 (by omega);rw[f9 c28,i7,ew,l7 hm,d6];by_cases c3:cc.M[k0+1].Ts=3
    ·obtain⟨f,f1,f2⟩:=Ih cc 9 (by decide) k0 (by rw[b2.nodes];exact hkl0);rw[f9 c3,i7,f1];exact key f (fun h=>absurd h f2)
    ·rw[d8 c3];exact k0'
   ·rw[d8 c28];exact k0'
  ·rw[d8 cg];exact k0'
 ·rw[d8 cb];exact⟨false,c,rfl,hI,Cx.refl _ _ _,fun h=>absurd h cb,fun _ h=>nomatch h⟩
end
end
section
section
variable{l:List d7}{P:s9}{nr:Nat}(hC:X1 l P nr)
include hC
set_option maxHeartbeats 2000000 in
theorem a4o(N:Nat)(ih:∀m,m<N→Vj l P m)(b:Nat)(x:d7)(q:Nat)(hN:q-b=N)(hx:l[b]? =some x)(hs:x.Cs=(q:Int)-(b+1))(hbq:b+1≤q)(hq:q≤l.length)(hk:x.Ks=9∨x.Ks=10)(c:l8)(hI:CI l P c)(hM:∀i,b≤i→i<q→c.M[i]? =P.Ms[i]?∧EnC l P i):∃e c',Gy d5 c (b:Int)=some ((e,c',()),())∧CI l P c'∧Cx c c' b q∧(c'.F.Code=0→∀i,b≤i→i<q→EF l P c'.M i∧SF l c'.M c.By i)∧(c'.F.Code=0→e=true→En l b):=by
 have hsm:=hC.small;obtain⟨st,ks,t1,t2,t3,t4,t5,t6,t7⟩:=hC.may.nd b x hx;have est:st=q:=(by omega);subst est;have hbl:=(l9.1 hx).1;have hxe:=(l9.1 hx).2;have hS:∃S':List Int,E9 l ks=101::S'∧(∀s∈S',s=98)∧(S'.length=1∨S'.length=2∧x.Ks=9):=by
  rcases hk with h|h
  ·rcases t6.k9 h with h'|h'
   ·exact⟨[98],h',by simp,.inl rfl⟩
   ·exact⟨[98,98],h',by simp,.inr ⟨rfl,h⟩⟩
  ·exact⟨[98],t6.k10 h,by simp,.inl rfl⟩
 obtain⟨S',hS1,hS2,hS3⟩:=hS;obtain⟨e1,e2⟩:=B7 hS1;rw[F3]at e1;have hkle:=t5.le;obtain⟨k0,kr,rfl⟩:∃k kr,ks=k::kr:=by
  cases ks with
  |nil=>simp at e1
  |cons k kr=>exact⟨k,kr,rfl⟩
 have t5':=t5;obtain⟨rfl,y,q1,hy,hys,hy1,hy2,hrest⟩:=t5.first
 have s0:=D7 (e2 0 (by simp) (by simp));simp only[H1]at s0;rw[u0 hy]at s0;have h6:∀(j:Nat) (hj:j<((b+1)::kr).length),1≤j→kd l ((b+1)::kr)[j]=6:=fun j hj hj1=>by
  have hj':j<(101::S').length:=(by rw[F3];omega);have h:=e2 j hj hj';have hm:(101::S')[j]∈S':=by obtain⟨j',rfl⟩:∃j',j=j'+1:=⟨j-1,by omega⟩;rw[Z2];exact y5 _
  exact Mf (h.trans (hS2 _ hm))
 have g0:i6 (l5 ((b+1)::kr)) (0:Int)=some ((b+1:Nat):Int):=C6 (i:=0) (ks:=(b+1)::kr) (by simp);have ga0:(l5 ((b+1)::kr))[Int.toNat 0]? =some ((b+1:Nat):Int):=D9 (i:=0) (ks:=(b+1)::kr) (by simp);have ei:(((b+1)::kr:List Nat).map (fun(k:Nat)=>(k:Int)))=l5 ((b+1)::kr):=rfl;have hin0:=Ug hC.may hC.small hC.tx _ (b+1) y q1 hy hys rfl (by omega);have hkl0:=(l9.1 hy).1;rw[Ub,Ge];by_cases cb:c.F.Code=0
 ·have n7:¬x.Ks=7:=(by omega);have n8:¬x.Ks=8:=(by omega);rw[f9 cb,x4,i5,hI.nodes,T8 (by omega) hx t1 t3 t5',d6,l7 hbl,d6,hxe,ei,d8 n7,i5,d8 n8,i5];have key:∃e c',dJ d5 c ((l5 ((b+1)::kr),()),())=some ((e,c',()),())∧CI l P c'∧Cx c c' b st∧(c'.F.Code=0→∀i,b≤i→i<st→EF l P c'.M i∧SF l c'.M c.By i)∧(c'.F.Code=0→e=true→En l b):=by
   obtain⟨ta,ca,a1,a2,a3,a4,a5,a6⟩:=Mn hC _ (b+1) y q1 rfl hy hys hy1 (by omega) s0.1 s0.2 c hI (fun i i1 i2=>hM i (by omega) (by omega));obtain⟨f,f1,f2⟩:=Y0 ca (decide (ta=2)) (b+1) (by rw[a2.nodes];exact hkl0);have hcI:=a2.fault f;obtain⟨a',d',b1,b2,b3,b4,b5⟩:=a8z hC N ih b st t3 hN ((b+1)::kr) (Ea (Nat.le_add_left _ _) (Ea hkle t3)) _ 1 q1 (decide (((l5 ((b+1)::kr)).length:Int)=3)) ⟨ca.L,ca.M,ca.P,ca.T,f,ca.By⟩ rfl (by simp) (by omega) h6 (by simpa using hrest) hcI (fun i i1 i2=>by
    show ca.M[i]? =P.Ms[i]?∧EnC l P i;rw[a3.marks i (.inr i1)];exact hM i (by omega) i2)
   rw[a52,cH];simp only;rw[g0,d6,ga0,d6,a1];simp only[d6];rw[f1];simp only[d6];refine⟨a',d',b1,b2,⟨fun i hi=>?_,by rw[b3.res];exact a3.res,fun h=>absurd cb h⟩,fun hg i i1 i2=>?_,fun hg ht=>?_⟩
   ·rw[b3.marks i (by omega)];exact a3.marks i (by omega)
   ·have hgf:f.Code=0:=T0 fun hc=>b3.bad hc hg;obtain⟨hga,hgt⟩:=f2 hgf;have hta:ta=2:=D6 hgt;obtain⟨p1,⟨m,m1,m2⟩,p3⟩:=a6 hga;have z4:=b4 hg;have hres:(⟨ca.L,ca.M,ca.P,ca.T,f,ca.By⟩:l8).By=c.By:=a3.res;rw[hres]at z4;clear a6 b4 b5;have same:∀j,b+1≤j→j<q1→d'.M[j]? =ca.M[j]? :=fun j j1 j2=>b3.marks j (.inl j2);by_cases e:i=b
    ·subst e;have hke:=u0 hx;refine⟨EF.other (by omega),⟨fun _ _ w st' ks' w1 w2 w3 k' hkm h21=>?_,fun h11=>by omega⟩⟩;rw[hx]at w1;cases w1;have:st'=st:=(by omega);subst this;have:=t5'.det w3;subst this;obtain⟨j,hj,rfl⟩:=List.getElem_of_mem hkm;by_cases hj0:j=0
     ·subst hj0;refine⟨m,?_,by rw[m2,hta];decide⟩;show d'.M[i+1]? =some m;rw[same _ (i8 _) hy1];exact m1
     ·have:=h6 j hj (by omega);omega
    ·by_cases h:i<q1
     ·obtain⟨st0,_,u1,u2,u3,u4,_⟩:=hC.may.nd (b+1) y hy;have:st0=q1:=(by omega);subst this;obtain⟨xx,kk,v1,v2,v3,v4,v5⟩:=(WFo.cons (b+1) st0 st0 y hy hys hy1 u4 (WFo.nil st0)).inside i (by omega) h;refine⟨(p3 i (by omega) h).same v1 v2 (fun j j1 j2=>same j (by omega) (by omega)) v3,SF.other (.inr ?_)⟩;have:=hin0 i (by omega) h;omega
     ·exact z4 i (by omega) i2
   ·obtain⟨w1,w2⟩:=b5 hg ht;have w3:((l5 ((b+1)::kr)).length:Int)=3:=D6 w1;rw[A9]at w3;clear a6 b4 b5;have hk9:x.Ks=9:=by rw[F3]at e1 w3;omega
    match kr,t5',w2,w3 with
    | [k1,k2],t5',w2,w3=>obtain⟨x1,s1,l1,p1,p2,p3,y1,p4,p5⟩:=w2 1 (by simp) (i8 _);obtain⟨x2,s2,l2,r1,r2,r3,y2,r4,r5⟩:=w2 2 (by simp) (by omega);exact .both b st (b+1) k1 k2 x hx hk9 t1 t5' x1 s1 l1 y1 p1 p2 p3 p4 p5 x2 s2 l2 y2 r1 r2 r3 r4 r5
    | [],_,_,w3=>simp at w3
    | [_],_,_,w3=>simp at w3
    |_::_::_::_,_,_,w3=>simp at w3;omega
  rcases hk with h|h
  ·rw[f9 h,i7];exact key
  ·rw[d8 (by rw[h];decide),i5,f9 h,i7];exact key
 ·rw[d8 cb];exact⟨false,c,rfl,hI,Cx.refl _ _ _,fun h=>absurd h cb,fun _ h=>nomatch h⟩
theorem a3b(N:Nat)(ih:∀m,m<N→Vj l P m):EU l P N:=by
 intro b x q hN hx hs hbq hq h7 h13 c hI hM;have hk:x.Ks=7∨x.Ks=8∨(x.Ks=9∨x.Ks=10)∨x.Ks=11∨(x.Ks=12∨x.Ks=13):=(by omega);rcases hk with h|h|h|h|h
 ·exact b2a hC b x q hx hs hbq hq h c hI hM
 ·exact b4U hC b x q hx hs hbq hq h c hI hM
 ·exact a4o hC N ih b x q hN hx hs hbq hq h c hI hM
 ·exact b4I hC b x q hx hs hbq hq h c hI hM
 ·exact a3U hC b x q hx hs hbq hq h c hI hM
theorem b1H:∀n,EU l P n∧Vj l P n:=by
 intro n
 induction n using Nat.strongRecOn with
 |_ n ih=>exact⟨a3b hC n (fun m hm=>(ih m hm).2),a2n hC n (fun m hm=>(ih m hm).1)⟩
end
end
section
theorem CI.res{l:List d7}{P:s9}{c:l8}(h:CI l P c)(r:Int):CI l P ⟨c.L,c.M,c.P,c.T,c.F,r⟩:=⟨h.nodes,h.prog,h.tys,h.len,h.ty,h.rf⟩
def FC(l:List d7)(P:s9)(M:List l4)(f:t9):Prop:=∀(k st np bp:Nat) (x:d7) (ks:List Nat),f.Hs=(k:Int)→l[k]? =some x→x.Cs=(st:Int)-(k+1)→Kc l (k+1) st ks→ks.length=np+2→ks[np+1]? =some bp→
 (∀i,bp≤i→i<st→EF l P M i∧SF l M f.By i)∧(f.By≠0→BEn l bp)
theorem b4c{l:List d7}{P:s9}{M M':List l4}{R:Int}{lo hi:Nat}(hw:WFo l lo hi)(h:∀i,lo≤i→i<hi→EF l P M i∧SF l M R i)(e:∀j,lo≤j→j<hi→M'[j]? =M[j]?):∀i,lo≤i→i<hi→EF l P M' i∧SF l M' R i:=by intro i i1 i2;obtain⟨xx,kk,v1,v2,v3,v4,v5⟩:=hw.inside i i1 i2;obtain⟨p1,p2⟩:=h i i1 i2;exact⟨p1.same v1 v2 (fun j j1 j2=>e j (by omega) (by omega)) v3,p2.same v1 v2 (fun j j1 j2=>e j (by omega) (by omega))⟩
theorem a6m{P:s9}{ts:List Nat}(hm:P.As.map t9.Hs=l5 ts)(hts:ts.Pairwise (· < ·)){i j:Nat}(hij:i<j){f g:t9}(hf:P.As[i]? =some f)(hg:P.As[j]? =some g){a b:Nat}(ha:f.Hs=(a:Int))(hb:g.Hs=(b:Int)):a<b:=by
 have at':∀(i:Nat) (f:t9) (a:Nat),P.As[i]? =some f→f.Hs=(a:Int)→∃h:i<ts.length,ts[i]=a:=by
  intro i f a hf ha;have h1:=congrArg (fun L=>L[i]?) hm;simp only[M1,hf,G0]at h1;have hil:=(l9.1 hf).1;have hlt:i<ts.length:=by have:=congrArg List.length hm;rw[H2,A9]at this;omega
  rw[D9 hlt,ha]at h1;injection h1 with h1
  exact⟨hlt,by omega⟩
 obtain⟨h1,e1⟩:=at' i f a hf ha;obtain⟨h2,e2⟩:=at' j g b hg hb;have:=List.pairwise_iff_getElem.1 hts i j h1 h2 hij;omega
section
variable{l:List d7}{s:d9}{nr:Nat}(h:Yt l s nr)(hM:J6 l)(hl:l.length≤30000)(htx:∀n∈l,n.Gs.length≤65536)
include h hM hl htx
theorem zG{i j:Nat}(hij:i<j){f g:t9}(hf:s.P.As[i]? =some f)(hg:s.P.As[j]? =some g){a b st:Nat}(ha:f.Hs=(a:Int))(hb:g.Hs=(b:Int)){x:d7}(hx:l[a]? =some x)(hs:x.Cs=(st:Int)-(a+1)):st≤b:=by obtain⟨ts,h1,h2⟩:=h.order;have hlt:=a6m h1 h2 hij hf hg ha hb;obtain⟨a',x',c1,c2,c3,_⟩:=h.ri.fn f (K8 hf);obtain⟨b',y',d1,d2,d3,_⟩:=h.ri.fn g (K8 hg);have e1:a'=a:=(by omega);have e2:b'=b:=(by omega);subst e1 e2;rw[hx]at c2;cases c2;refine Nat.le_of_not_lt fun hlt2=>?_;have:=RY hM a' x st hx hs c3 b' hlt hlt2;rw[u0 d2]at this;omega
set_option maxHeartbeats 2000000 in
theorem b2h(ft:y6):∀(n c:Nat) (d:l8),s.P.As.length-c=n→c≤s.P.As.length→CI l s.P d→(∀(j:Nat) (f:t9),c≤j→s.P.As[j]? =some f→∀(k i:Nat),f.Hs=(k:Int)→k≤i→d.M[i]? =s.P.Ms[i]?)→(d.F.Code=0→∀(j:Nat) (f:t9),j<c→s.P.As[j]? =some f→FC l s.P d.M f)→∃d',Hc d5 l ((s.P,ft,()),()) (c:Int) d=jU d5 ((s.P,ft,()),()) d'∧CI l s.P d'∧(d'.F.Code=0→∀f∈s.P.As,FC l s.P d'.M f):=by
 have hC:=a9J h hM hl htx;have hfn:=h.fn100;intro n
 induction n with
 |zero=>intro c d hn hc hI hU hF;rw[OT,Vb];simp only;rw[d8 (by omega),i5];refine⟨d,rfl,hI,fun hg f hf=>?_⟩;obtain⟨j,hj,rfl⟩:=List.getElem_of_mem hf;exact hF hg j _ (by omega) (p8 hj)
 |succ n ih=>
  intro c d hn hc hI hU hF;have hcl:c<s.P.As.length:=(by omega);have hfc:s.P.As[c]? =some s.P.As[c]:=p8 hcl;have hfm:=y5 hcl;generalize hfe:s.P.As[c]=f at hfc hfm;obtain⟨k,st,np,bp,x,ks,a1,a2,a3,a4,a5,a6,a7,a8,a9,a10,a12,a11⟩:=h.fns f hfm;obtain⟨k',x',c1,c2,c3,_⟩:=h.ri.fn f hfm;have ek:k'=k:=(by omega);subst ek;rw[a2]at c2;cases c2;obtain⟨st',ks',t1,t2,t3,t4,t5,t6,t7⟩:=hM.nd k' x a2;have est:st'=st:=(by omega);subst est;have:=t5.det a4;subst this;obtain⟨np',n1,n2,n3,n4,n5⟩:=Qa t6 c3;have enp:np'=np:=(by omega);subst enp;have hkle:=t5.le;have hl1:np'+1<ks'.length:=(by omega);rw[p8 hl1]at a6;injection a6 with a6
  have hy6:=n5 hl1;rw[a6]at hy6;obtain⟨cK,hcK,hK⟩:=t5.drop (np'+1) (by omega);rw[H5 hl1,J1 (by omega),a6]at hK;obtain⟨ecK,y,q,hy,hys,hq1,hq2,hrest⟩:=hK.first
  subst ecK;have hq:q=st':=(by cases hrest;rfl);subst hq;rw[u0 hy]at hy6;have hbpk:=(t5.mem bp (by rw[←a6];exact y5 hl1)).1;have ew:w64 (((l5 ks').length:Int)-1)=((np'+1:Nat):Int):=(by rw[A9,wrap64 (by omega) (by omega)];omega);have ei:(ks'.map (fun(k:Nat)=>(k:Int)))=l5 ks':=rfl;obtain⟨e,d1,r1,r2,r3,r4,r5⟩:=(b1H hC (q-bp)).2 bp y q rfl hy hys hq1 t3 hy6 ⟨d.L,d.M,d.P,d.T,d.F,f.By⟩ (hI.res _) (fun i i1 i2=>⟨hU c f (i8 _) hfc k' i a1 (by omega),a6M (a11 i i1 i2).1 (a11 i i1 i2).2⟩);have hr3:d1.By=f.By:=r3.res;have hmk:∀i:Nat,(i<bp∨q≤i)→d1.M[i]? =d.M[i]? :=fun i hi=>r3.marks i hi;have hbad:d.F.Code≠0→d1.F.Code≠0:=r3.bad;have next:∀g:y6,(g.Code=0→d1.F.Code=0)→(g.Code=0→f.By≠0→e=true)→
    ∃d',Hc d5 l ((s.P,ft,()),()) ((c+1:Nat):Int) ⟨d1.L,d1.M,d1.P,d1.T,g,d1.By⟩=jU d5 ((s.P,ft,()),()) d'∧CI l s.P d'∧(d'.F.Code=0→∀f∈s.P.As,FC l s.P d'.M f):=by
   intro g hg1 hg2;refine ih (c+1) _ (by omega) (by omega) (r2.fault g) (fun j fj hj hfj kj i hkj hi=>?_) (fun hg j fj hj hfj=>?_)
   ·have:=zG h hM hl htx (i:=c) (j:=j) (by omega) hfc hfj a1 hkj a2 t1;show d1.M[i]? =_;rw[hmk i (by omega)];exact hU j fj (by omega) hfj kj i hkj hi
   ·have hgd:d1.F.Code=0:=hg1 hg;show FC l s.P d1.M fj;by_cases ej:j=c
    ·subst ej;rw[hfc]at hfj;cases hfj;intro k2 st2 np2 bp2 x2 ks2 b1 b2 b3 b4 b5 b6;have e2:k2=k':=(by omega);subst e2;rw[a2]at b2;cases b2;have e3:st2=q:=(by omega);subst e3;have:=b4.det a4;subst this;have e4:np2=np':=(by omega);subst e4;rw[p8 hl1,a6]at b6;cases b6;exact⟨r4 hgd,fun hR=>r5 hgd (hg2 hg hR)⟩
    ·have hgd0:d.F.Code=0:=T0 fun hc=>hbad hc hgd;have hold:=hF hgd0 j fj (by omega) hfj;intro k2 st2 np2 bp2 x2 ks2 b1 b2 b3 b4 b5 b6;have hap:=zG h hM hl htx (i:=j) (j:=c) (by omega) hfj hfc b1 a1 b2 b3;obtain⟨o1,o2⟩:=hold k2 st2 np2 bp2 x2 ks2 b1 b2 b3 b4 b5 b6;obtain⟨cL,hcL,hL⟩:=b4.drop (np2+1) (by omega);have hl2:np2+1<ks2.length:=(by omega);rw[p8 hl2]at b6;injection b6 with b6
     rw[H5 hl2,J1 (by omega),b6]at hL;obtain⟨ecL,y2,q2,hy2,hys2,hq12,hq22,hrest2⟩:=hL.first
     subst ecL;have hq':q2=st2:=(by cases hrest2;rfl);subst hq';obtain⟨st3,_,u1,u2,u3,u4,_⟩:=hM.nd bp2 y2 hy2;have:st3=q2:=(by omega);subst this;exact⟨b4c (WFo.cons bp2 st3 st3 y2 hy2 hys2 hq12 u4 (WFo.nil st3)) o1 (fun i i1 i2=>hmk i (by omega)),o2⟩
  have same1:(⟨d1.L,d1.M,d1.P,d1.T,d1.F,d1.By⟩:l8)=d1:=rfl;have n0:=next d1.F id
  rw[same1]at n0;rw[OT,Vb];simp only;rw[f9 (by omega),i7,l7 hcl,d6,hfe,a1,T8 (by omega) a2 t1 t3 t5,d6,ei,d6];simp only;rw[ew,C6 hl1,d6,B8,D9 hl1,d6,a6,r1];simp only[d6];rw[hr3,z8 (by omega)];by_cases cr:f.By=0
  ·rw[f9 cr,x4,i5];exact n0 (fun _ hR=>absurd cr hR)
  ·rw[d8 cr,D3,i7];cases e with
   |true=>exact n0 (fun _ _=>rfl)
   |false=>obtain⟨g,g1,g2⟩:=Ih d1 12 (by decide) k' (by rw[r2.nodes];exact(l9.1 a2).1);rw[D3,i7,a1,g1];simp only[d6];exact next g (fun hg=>absurd hg g2) (fun hg=>absurd hg g2)
end
end
end
section
section
structure Rc(n:Nat)(l:List d7)(s:d9)(nr:Nat)(M:List l4):Prop where
 res:Yt l s nr
 may:J6 l
 small:l.length≤10*n+31
 txt:D1 l≤n
 ci:∃d,CI l s.P d∧d.M=M
 fc:∀f∈s.P.As,FC l s.P M f
def prog(s:d9)(M:List l4):s9:=⟨s.P.No,M,s.P.To,s.P.Rs,s.P.Id,s.P.As,s.P.Ss,s.P.Vars,s.P.Es⟩
theorem a7h{l:List d7}(hl:l.length≤30000)(htx:∀n∈l,n.Gs.length≤65536):∃(P:s9) (f:y6),FZ d5 l=some ((P,f,()),())∧(f.Code=0→∃s nr M,P=prog s M∧Yt l s nr∧J6 l∧(∃d,CI l s.P d∧d.M=M)∧∀f∈s.P.As,FC l s.P M f):=by
 obtain⟨P,ft,h1,h2⟩:=a7Q hl htx;rw[a90,gS,h1,d6];simp only;by_cases c:ft.Code=0
 ·obtain⟨s,nr,rfl,hR,hM⟩:=h2 c;have hI:CI l s.P ⟨l,s.P.Ms,s.P,s.P.To,⟨0,0,0⟩,0⟩:=⟨rfl,rfl,rfl,hR.ri.marks,hR.ri.mt,fun i m hi=>⟨m,hi,rfl,fun _=>rfl,fun _=>rfl⟩⟩;obtain⟨d',r1,r2,r3⟩:=b2h hR hM hl htx ft _ 0 _ rfl (C8 _) hI (fun _ _ _ _ _ _ _ _=>rfl) (fun _ j f hj=>absurd hj (Nat.not_lt_zero _));rw[f9 c,x4,i5,show Hc d5 l ((s.P,ft,()),()) 0 (l8.mk l s.P.Ms s.P s.P.To (y6.mk 0 0 0) 0)=_ from r1,b2e,wG];by_cases cg:d'.F.Code=0
  ·rw[f9 cg];exact⟨_,_,rfl,fun _=>⟨s,nr,d'.M,rfl,hR,hM,⟨d',r2,rfl⟩,r3 cg⟩⟩
  ·rw[d8 cg];exact⟨_,_,rfl,fun h=>absurd h cg⟩
 ·rw[d8 c];exact⟨_,_,rfl,fun h=>absurd h c⟩
theorem b3Z(b:b5Y)(hb:b.length≤2900):∃(P:s9) (f:y6),rP d5 b=some ((P,f,()),())∧(f.Code=0→∃l s nr M,P=prog s M∧Rc b.length l s nr M):=by
 obtain⟨x,f,h1,h2,h3⟩:=a97 b;rw[b1U,vV,h1,d6];simp only;by_cases c:f.Code=0
 ·obtain⟨P,g,g1,g2⟩:=a7h (l:=x) (by omega) (fun n hn=>by have:=uU hn;omega);rw[f9 c,x4,i5,g1,d6];refine⟨P,g,rfl,fun hg=>?_⟩;obtain⟨s,nr,M,e,k1,k2,k3,k4⟩:=g2 hg;exact⟨x,s,nr,M,e,k1,k2,h2,h3,k3,k4⟩
 ·rw[d8 c];exact⟨_,_,rfl,fun h=>absurd h c⟩
abbrev Bs:=b5Y
def V3(S:List Bs)(t:Bs):Int × List Bs:=match S.findIdx? (fun s=>decide (t=s))with
 |some i=>(i,S)
 |none=>(S.length,S++[t])
def Zt(T:List r9)(t:Int):Int × Int:=match T[t.toNat]? with
 |some y=>(if y.Ks=6 then 22 else 21,y.Of)
 |none=>(21,0)
def W8(T:List r9)(x:d7)(m:l4)(S:List Bs):Int × Int × List Bs:=
 if x.Ks=21 then(2,x.Ns,S)else if x.Ks=22 then(4,x.Ns,S)else if x.Ks=23 then(5,(V3 S x.Gs).1,(V3 S x.Gs).2)else if x.Ks=24 then(3,x.Ns,S)else if x.Ks=26 then(7,m.Ds,S)
 else if x.Ks=27 then(if m.Ds<0 then(20, -m.Ds,S)else(19,m.Ds,S))else if x.Ks=28 then(15,0,S)else if x.Ks=29 then(17,m.Ds,S)else if x.Ks=30 then(9,x.Ns,S)else if x.Ks=31 then(10,x.Ns,S)
 else if x.Ks=32 then((Zt T m.Ts).1,(Zt T m.Ts).2,S)else(6,0,S)
inductive GX(l:List d7)(M:List l4)(T:List r9):Nat→List Nat→List Bs→List i9→List Bs→Prop
 |nil(o:Nat)(S:List Bs):GX l M T o [] S [] S
 |log(o b st k0 k1:Nat)(ks:List Nat)(x:d7)(S S1 S2 S3:List Bs)(a c d:List i9)(hx:l[b]? =some x)(hk:x.Ks=31)(hn:14≤x.Ns)(hs:x.Cs=(st:Int)-(b+1))(hks:Kc l (b+1) st [k0,k1])
   (h0:GX l M T o [k0] S a S1) (h1:GX l M T (o+a.length+1) [k1] S1 c S2) (h2:GX l M T (o+a.length+1+c.length) ks S2 d S3):GX l M T o (b::ks) S (a++(⟨x.Ns-1,((o+a.length+1+c.length:Nat):Int),x.Ls⟩::(c++d))) S3
 |oth(o b st:Nat)(ks' es ks:List Nat)(x:d7)(m:l4)(S S1 S2 S3:List Bs)(op arg:Int)(a d:List i9)(hx:l[b]? =some x)(hk:21≤x.Ks∧x.Ks≤32)(hn:x.Ks=31→x.Ns<14)(hs:x.Cs=(st:Int)-(b+1))(hks:Kc l (b+1) st ks')(hes:es=if x.Ks=32 then ks'.tail else ks')(hm:M[b]? =some m)
   (h0:GX l M T o es S a S1) (hl:W8 T x m S1=(op,arg,S2)) (h2:GX l M T (o+a.length+1) ks S2 d S3):GX l M T o (b::ks) S (a++(⟨op,arg,x.Ls⟩::d)) S3
def Bkd(l:List d7)(k:Nat)(ks:List Nat):Prop:=∃(y:d7) (st:Nat),l[k]? =some y∧y.Cs=(st:Int)-(k+1)∧Kc l (k+1) st ks
def Wu(x y:d7)(m:l4):i9:=if y.Ks=26 then⟨8,m.Ds,x.Ls⟩else if y.Ks=28 then⟨16,0,y.Ls⟩else⟨18,m.Ds,y.Ls⟩
inductive Bc(l:List d7)(M:List l4)(b:Nat)(x:d7)(m:l4):List Nat→List i9→Prop
 |var(st k0 k1:Nat)(hk:x.Ks=7)(hs:x.Cs=(st:Int)-(b+1))(hks:Kc l (b+1) st [k0,k1]):Bc l M b x m [k1] [⟨8,m.Ds,x.Ls⟩]
 |set(st k0 k1:Nat)(y:d7)(m0:l4)(is:List Nat)(hk:x.Ks=8)(hs:x.Cs=(st:Int)-(b+1))(hks:Kc l (b+1) st [k0,k1])(hy:l[k0]? =some y)(hyk:y.Ks=26∨y.Ks=28∨y.Ks=29)(hm0:M[k0]? =some m0)(hi:Kc l (k0+1) k1 is):Bc l M b x m (is++[k1]) [Wu x y m0]
 |ret0(hk:x.Ks=11)(hs:x.Cs=((b+1:Nat):Int)-(b+1)):Bc l M b x m [] [⟨26,0,x.Ls⟩]
 |ret1(st:Nat)(hk:x.Ks=11)(hs:x.Cs=(st:Int)-(b+1))(hks:Kc l (b+1) st [b+1]):Bc l M b x m [b+1] [⟨25,0,x.Ls⟩]
 |print(st:Nat)(hk:x.Ks=12)(hs:x.Cs=(st:Int)-(b+1))(hks:Kc l (b+1) st [b+1]):Bc l M b x m [b+1] [⟨23,0,x.Ls⟩]
 |pop(st:Nat)(m0:l4)(hk:x.Ks=13)(hs:x.Cs=(st:Int)-(b+1))(hks:Kc l (b+1) st [b+1])(hm0:M[b+1]? =some m0)(ht:m0.Ts≠0):Bc l M b x m [b+1] [⟨24,0,x.Ls⟩]
 |run(st:Nat)(m0:l4)(hk:x.Ks=13)(hs:x.Cs=(st:Int)-(b+1))(hks:Kc l (b+1) st [b+1])(hm0:M[b+1]? =some m0)(ht:m0.Ts=0):Bc l M b x m [b+1] []
inductive GS(l:List d7)(M:List l4)(T:List r9):Nat→List Nat→List Bs→List i9→List Bs→Prop
 |nil(o:Nat)(S:List Bs):GS l M T o [] S [] S
 |smp(o b:Nat)(ks es:List Nat)(x:d7)(m:l4)(S S1 S2:List Bs)(a t d:List i9)(hx:l[b]? =some x)(hm:M[b]? =some m)(hT:Bc l M b x m es t)(h0:GX l M T (o+1) es S a S1)(h2:GS l M T (o+1+a.length+t.length) ks S1 d S2):GS l M T o (b::ks) S (⟨1,m.In,x.Ls⟩::(a++(t++d))) S2
 |if2(o b st k1:Nat)(ks ks1:List Nat)(x:d7)(m:l4)(S S1 S2 S3:List Bs)(a c d:List i9)(hx:l[b]? =some x)(hm:M[b]? =some m)(hk:x.Ks=9)(hs:x.Cs=(st:Int)-(b+1))(hks:Kc l (b+1) st [b+1,k1])(hb:Bkd l k1 ks1)
   (h0:GX l M T (o+1) [b+1] S a S1) (h1:GS l M T (o+a.length+2) ks1 S1 c S2) (h2:GS l M T (o+a.length+2+c.length) ks S2 d S3):GS l M T o (b::ks) S (⟨1,m.In,x.Ls⟩::(a++(⟨12,((o+a.length+2+c.length:Nat):Int),x.Ls⟩::(c++d)))) S3
 |if3(o b st k1 k2:Nat)(ks ks1 ks2:List Nat)(x:d7)(m:l4)(S S1 S2 S3 S4:List Bs)(a c e d:List i9)(hx:l[b]? =some x)(hm:M[b]? =some m)(hk:x.Ks=9)(hs:x.Cs=(st:Int)-(b+1))(hks:Kc l (b+1) st [b+1,k1,k2])(hb1:Bkd l k1 ks1)(hb2:Bkd l k2 ks2)
   (h0:GX l M T (o+1) [b+1] S a S1) (h1:GS l M T (o+a.length+2) ks1 S1 c S2) (h3:GS l M T (o+a.length+c.length+3) ks2 S2 e S3) (h2:GS l M T (o+a.length+c.length+3+e.length) ks S3 d S4):
   GS l M T o (b::ks) S (⟨1,m.In,x.Ls⟩::(a++(⟨12,((o+a.length+c.length+3:Nat):Int),x.Ls⟩::(c++(⟨11,((o+a.length+c.length+3+e.length:Nat):Int),x.Ls⟩::(e++d)))))) S4
 |whl(o b st k1:Nat)(ks ks1:List Nat)(x:d7)(m:l4)(S S1 S2 S3:List Bs)(a c d:List i9)(hx:l[b]? =some x)(hm:M[b]? =some m)(hk:x.Ks=10)(hs:x.Cs=(st:Int)-(b+1))(hks:Kc l (b+1) st [b+1,k1])(hb:Bkd l k1 ks1)
   (h0:GX l M T (o+1) [b+1] S a S1) (h1:GS l M T (o+a.length+2) ks1 S1 c S2) (h2:GS l M T (o+a.length+c.length+3) ks S2 d S3):
   GS l M T o (b::ks) S (⟨1,m.In,x.Ls⟩::(a++(⟨12,((o+a.length+c.length+3:Nat):Int),x.Ls⟩::(c++(⟨11,(o:Int),x.Ls⟩::d))))) S3
inductive GC(l:List d7)(M:List l4)(T:List r9):Nat→List t9→List Bs→List i9→List o0→List Bs→Prop
 |nil(A:Nat)(S:List Bs):GC l M T A [] S [] [] S
 |cons(A k st bp:Nat)(f:t9)(fs:List t9)(S S1 S2:List Bs)(x:d7)(ks ks2:List Nat)(a I:List i9)(E:List o0)(hn:f.Hs=(k:Int))(hx:l[k]? =some x)(hs:x.Cs=(st:Int)-(k+1))(hks:Kc l (k+1) st ks)(hb:ks.getLast? =some bp)(hbd:Bkd l bp ks2)
   (h0:GS l M T 0 ks2 S a S1) (h2:GC l M T (A+a.length+1) fs S1 I E S2):GC l M T A (f::fs) S (a++(⟨26,0,x.Ls⟩::I)) (⟨A,(a.length:Int)+1,f.Ps,f.Ss,if f.By=0 then 0 else 1⟩::E) S2
theorem GX.cat{l:List d7}{M:List l4}{T:List r9}{o k:Nat}{ks:List Nat}{S S1 S2:List Bs}{a c:List i9}(h:GX l M T o [k] S a S1)(h':GX l M T (o+a.length) ks S1 c S2):GX l M T o (k::ks) S (a++c) S2:=by
 cases h with
 |log _ _ st k0 k1 _ x _ T1 T2 _ a c' d hx hk hn hs hks h0 h1 h2=>cases h2;have e:o+(a++((⟨x.Ns-1,((o+a.length+1+c'.length:Nat):Int),x.Ls⟩:i9)::(c'++[]))).length=o+a.length+1+c'.length:=(by simp;omega);rw[e]at h';have:=GX.log o k st k0 k1 ks x S T1 S1 S2 a c' c hx hk hn hs hks h0 h1 h';simpa using this
 |oth _ _ st ks' es _ x m _ T1 T2 _ op arg a d hx hk hn hs hks hes hm h0 hl h2=>cases h2;have e:o+(a++[(⟨op,arg,x.Ls⟩:i9)]).length=o+a.length+1:=(by simp;omega);rw[e]at h';have:=GX.oth o k st ks' es ks x m S T1 S1 S2 op arg a c hx hk hn hs hks hes hm h0 hl h';simpa using this
theorem GX.app{l:List d7}{M:List l4}{T:List r9}{o:Nat}{js ks:List Nat}{S S1 S2:List Bs}{a c:List i9}(h:GX l M T o js S a S1):GX l M T (o+a.length) ks S1 c S2→GX l M T o (js++ks) S (a++c) S2:=by
 induction h with
 |nil o S=>intro h';exact h'
 |log o b st k0 k1 js x S T1 T2 S1 a c' d hx hk hn hs hks h0 h1 h2 _ _ ih=>intro h';have e:o+(a++((⟨x.Ns-1,((o+a.length+1+c'.length:Nat):Int),x.Ls⟩:i9)::(c'++d))).length=o+a.length+1+c'.length+d.length:=(by simp;omega);rw[e]at h';have:=GX.log o b st k0 k1 (js++ks) x S T1 T2 _ a c' _ hx hk hn hs hks h0 h1 (ih h');simpa using this
 |oth o b st ks' es js x m S T1 T2 S1 op arg a d hx hk hn hs hks hes hm h0 hl h2 _ ih=>intro h';have e:o+(a++((⟨op,arg,x.Ls⟩:i9)::d)).length=o+a.length+1+d.length:=(by simp;omega);rw[e]at h';have:=GX.oth o b st ks' es (js++ks) x m S T1 T2 _ op arg a _ hx hk hn hs hks hes hm h0 hl (ih h');simpa using this
def ps(l:List d7)(i:Nat):Nat:=((l.take i).map fun n=>n.Gs.length).sum
def Y6(S:List Bs):Nat:=(S.map List.length).sum
theorem b4v{l:List d7}{i:Nat}{x:d7}(h:l[i]? =some x):ps l (i+1)=ps l i+x.Gs.length:=by unfold ps;rw[List.take_add_one,h,F9,Ri];simp
theorem W4(l:List d7){i j:Nat}(h:i≤j):ps l i≤ps l j:=by obtain⟨d,rfl⟩:=Nat.exists_eq_add_of_le h;unfold ps;rw[List.take_add,F9,Ri];omega
theorem a96(S:List Bs)(t:Bs):(V3 S t).2.length≤S.length+1∧Y6 (V3 S t).2≤Y6 S+t.length:=by
 unfold V3;split
 ·exact⟨Nat.le_add_right _ _,Nat.le_add_right _ _⟩
 ·simp[Y6]
theorem a3p{T:List r9}{x:d7}{m:l4}{S S2:List Bs}{op arg:Int}(h:W8 T x m S=(op,arg,S2)):S2.length≤S.length+1∧Y6 S2≤Y6 S+x.Gs.length:=by
 have t:=a96 S x.Gs;have e:S2=(W8 T x m S).2.2:=(by rw[h]);have hs:S2=S∨S2=(V3 S x.Gs).2:=by
  rw[e];unfold W8
  repeat' split
  all_goals first|exact .inl rfl|exact .inr rfl
 rcases hs with rfl|rfl
 ·omega
 ·exact t
theorem Kc.app{l:List d7}{i j k:Nat}{a b:List Nat}(h:Kc l i j a):Kc l j k b→Kc l i k (a++b):=by
 induction h with
 |nil i=>exact fun h=>h
 |cons i q j x ks hx hs hk kids rest ih=>exact fun h=>.cons i q k x _ hx hs hk kids (ih h)
theorem Kc.hd{l:List d7}{i j k:Nat}{ks:List Nat}(h:Kc l i j (k::ks)):∃q,k=i∧i+1≤q∧Kc l i q [k]∧Kc l q j ks:=by
 cases h with
 |cons _ q _ x _ hx hs hk kids rest=>exact⟨q,rfl,hk,.cons _ q q x [] hx hs hk kids (.nil q),rest⟩
theorem GX.len{l:List d7}{M:List l4}{T:List r9}{o:Nat}{ks:List Nat}{S S':List Bs}{c:List i9}(h:GX l M T o ks S c S'):∀lo hi,Kc l lo hi ks→c.length+lo≤hi∧S'.length+lo≤S.length+hi∧Y6 S'+ps l lo≤Y6 S+ps l hi:=by
 induction h with
 |nil o S=>intro lo hi hK;have:=hK.le;have:=W4 l (i:=lo) (j:=hi) (by omega);simp only[I0];omega
 |log o b st k0 k1 ks x S S1 S2 S3 a c d hx hk hn hs hks h0 h1 h2 i0 i1 i2=>
  intro lo hi hK;obtain⟨rfl,y,q,hy,hys,hq1,hq2,hrest⟩:=hK.first
  rw[hx]at hy;cases hy;have:q=st:=(by omega);subst this;obtain⟨q0,rfl,hq01,K0,hr0⟩:=hks.hd;obtain⟨q1,rfl,hq11,K1,hr1⟩:=hr0.hd;have e1:q1=q:=(by cases hr1;rfl);subst e1;obtain⟨p1,p2,p3⟩:=i0 _ _ K0;obtain⟨r1,r2,r3⟩:=i1 _ _ K1;obtain⟨w1,w2,w3⟩:=i2 _ _ hrest;have:=W4 l (i:=b) (j:=b+1) (by omega);simp only[o5,F3];omega
 |oth o b st ks' es ks x m S S1 S2 S3 op arg a d hx hk hn hs hks hes hm h0 hl h2 i0 i2=>
  intro lo hi hK;obtain⟨rfl,y,q,hy,hys,hq1,hq2,hrest⟩:=hK.first
  rw[hx]at hy;cases hy;have:q=st:=(by omega);subst this;have hE:∃lo',b+1≤lo'∧Kc l lo' q es:=by
   by_cases c:x.Ks=32
   ·rw[if_pos c]at hes;cases ks' with
    |nil=>exact⟨b+1,i8 _,by rw[hes];exact hks⟩
    |cons k0 kr=>
     obtain⟨rfl,y0,q0,hy0,hys0,hq01,hq02,hr0⟩:=hks.first
     exact⟨q0,by omega,by rw[hes];exact hr0⟩
   ·rw[if_neg c]at hes;exact⟨b+1,i8 _,by rw[hes];exact hks⟩
  obtain⟨lo',hlo,hE⟩:=hE;obtain⟨p1,p2,p3⟩:=i0 _ _ hE;obtain⟨w1,w2,w3⟩:=i2 _ _ hrest;obtain⟨z1,z2⟩:=a3p hl;have:=W4 l hlo;have:=b4v hx;simp only[o5,F3];omega
end
section
def txs:List Bs→Nat→List (Bs × Int)
 | [],_=>[]
 |s::S,n=>(s,(n:Int))::txs S (n+1)
theorem b1T(S:List Bs)(t:Bs):∀n,txs (S++[t]) n=txs S n++[(t,((n+S.length:Nat):Int))]:=by
 induction S with
 |nil=>intro n;simp[txs]
 |cons s S ih=>intro n;have:=ih (n+1);have e:n+1+S.length=n+(S.length+1):=(by omega);simp only[List.cons_append,txs,this,F3,e]
theorem UO(t:Bs):∀(S:List Bs) (n:Nat),Cu eqS (txs S n) t=S.findIdx? (fun s=>decide (t=s)):=by
 intro S
 induction S with
 |nil=>intro n;rfl
 |cons s S ih=>intro n;have:=ih (n+1);unfold Cu at this⊢;rw[txs,List.findIdx?_cons,List.findIdx?_cons,this]
theorem b4t:∀(S:List Bs) (n i:Nat),(txs S n)[i]? =(S[i]?).map fun s=>(s,((n+i:Nat):Int)):=by
 intro S
 induction S with
 |nil=>intro n i;simp[txs]
 |cons s S ih=>
  intro n i;cases i with
  |zero=>simp[txs]
  |succ i=>rw[txs,List.getElem?_cons_succ,List.getElem?_cons_succ,ih];have e:n+1+i=n+(i+1):=(by omega);rw[e]
def mkr(P:s9)(F:Nat)(Fs:List o0)(I:List i9)(S:List Bs):v8:=⟨P,⟨I,Fs,S⟩,F,txs S 0⟩
section
variable{P:s9}{F:Nat}{Fs:List o0}
theorem a4V{l:List d7}(hl:l.length≤100000000)(m:v8)(hm:m.p_.No=l){b:Nat}{x:d7}{st:Nat}(hx:l[b]? =some x)(hs:x.Cs=(st:Int)-(b+1))(hst:st≤l.length){c:Nat}{ks:List Nat}(h:Kc l c st ks):∀d:List Int,d.length+ks.length≤l.length→qX d5 (b:Int) m (c:Int) d=some ((d++l5 ks,()),(m,())):=by
 have hbl:b<l.length:=(l9.1 hx).1;have hxe:l[b]=x:=(l9.1 hx).2;have w1:w64 ((b:Int)+x.Cs)=(st:Int)-1:=by rw[hs,wrap64 (by omega) (by omega)];omega
 induction h with
 |nil c=>intro d hd;rw[OY,Rn,hm,l7 hbl,d6,hxe,w1,d8 (by omega),i5,b2c,nR];unfold l5;rw[List.map_nil,R4]
 |cons c k j y ks hy hys hk kids rest ih=>intro d hd;have hkj:=rest.le;have hcl:c<l.length:=(by omega);have hye:l[c]=y:=(l9.1 hy).2;have e1:w64 ((c:Int)+w64 (1+y.Cs))=(k:Int):=(by rw[hys,wrap64 (n:=1+((k:Int)-(c+1))) (by omega) (by omega),wrap64 (by omega) (by omega)];omega);rw[F3]at hd;have hz:d.length+ [(c:Int)].length≤100000000:=(by rw[y4];omega);have:=ih hs hst w1 (d++[(c:Int)]) (by rw[o5,y4];omega);rw[OY,Rn,hm,l7 hbl,d6,hxe,w1,f9 (by omega),i7,J9 (by decide) hz,d6,l7 hcl,d6,hye,e1,this,M9];rfl
theorem Se{l:List d7}(hl:l.length≤100000000)(m:v8)(hm:m.p_.No=l){b:Nat}{x:d7}{st:Nat}(hx:l[b]? =some x)(hs:x.Cs=(st:Int)-(b+1))(hst:st≤l.length){ks:List Nat}(h:Kc l (b+1) st ks):Ka d5 m (b:Int)=some ((l5 ks,()),(m,())):=by have:=h.le;rw[b1D,fO,z8 (by omega),a4V hl m hm hx hs hst h [] (by rw[I0];omega),Z9]
theorem Qq{l:List d7}(hP:P.No=l)(I:List i9)(S:List Bs)(o:Nat)(ho:I.length=F+o)(hI:I.length≤90000000)(op arg:Int){b:Nat}{x:d7}(hx:l[b]? =some x):P8 d5 (mkr P F Fs I S) op arg (b:Int)=some (((o:Int),()),(mkr P F Fs (I++[⟨op,arg,x.Ls⟩]) S,())):=by
 have hbl:=(l9.1 hx).1;have hxe:=(l9.1 hx).2;have hz:I.length+ [(i9.mk op arg x.Ls)].length≤100000000:=(by rw[y4];omega);rw[a7O,cA];unfold mkr;simp only;rw[hP,l7 hbl,d6,hxe,J9 (by decide) hz,d6];have e:w64 (w64 (((I++[(i9.mk op arg x.Ls)]).length:Int)-1)-(F:Int))=(o:Int):=by rw[o5,y4,wrap64 (n:=((I.length+1:Nat):Int)-1) (by omega) (by omega),wrap64 (by omega) (by omega)];omega
 rw[e]
theorem a5f{α:Type}(X Y:List α)(i j:α):(X++(i::Y)).set X.length j=X++(j::Y):=by
 induction X with
 |nil=>rfl
 |cons a X ih=>simp[ih]
theorem Sy(X Y:List i9)(S:List Bs)(i:i9)(o:Nat)(ho:X.length=F+o)(hI:X.length+Y.length≤90000000):Qb d5 (mkr P F Fs (X++(i::Y)) S) (o:Int)=some ((),(mkr P F Fs (X++(⟨i.Op,((o+1+Y.length:Nat):Int),i.Ls⟩::Y)) S,())):=by
 have e1:w64 ((F:Int)+(o:Int))=((X.length:Nat):Int):=(by rw[wrap64 (by omega) (by omega)];omega);have hl:X.length<(X++(i::Y)).length:=(by simp);have hg:(X++(i::Y))[X.length]? =some i:=(by simp);have e2:w64 (((X++(i::Y)).length:Int)-(F:Int))=((o+1+Y.length:Nat):Int):=by rw[o5,F3,wrap64 (by omega) (by omega)];omega
 rw[a6s,vO,ND,Sx];unfold mkr;simp only[d6];rw[e1,e2,l7 hl,d6,B8,hg,d6,d6];simp only[G4,d6,a5f]
theorem b3H(I:List i9)(S:List Bs)(hS:S.length≤90000000)(t:Bs):JQ d5 (mkr P F Fs I S) t=some (((V3 S t).1,()),(mkr P F Fs I (V3 S t).2,())):=by
 rw[a3q,uB];unfold mkr V3;simp only;unfold Ul Fp;rw[UO];cases hf:S.findIdx? (fun s=>decide (t=s))with
 |some i=>
  have hi:i<S.length:=by have:=List.findIdx?_eq_some_iff_getElem.1 hf;exact this.1
  simp only[Option.isSome_some,i7,d6,b4t,p8 hi,G0];rw[PN,Ve];simp
 |none=>have hz:S.length+ [t].length≤100000000:=(by rw[y4];omega);simp only[Option.isSome_none,i5];rw[PN,Ve];simp only;rw[D3,i7,J9 (by decide) hz,d6];unfold Qf;rw[UO,hf];simp only;rw[b1T];simp
theorem a79(I:List i9)(S:List Bs)(hS:S.length≤90000000)(x:d7)(hk:21≤x.Ks∧x.Ks≤32)(m:l4)(hr:x.Ks=27→ -1000000≤m.Ds)(hT:x.Ks=32→0≤m.Ts∧m.Ts<P.To.length):JH d5 (mkr P F Fs I S) x m=some (((W8 P.To x m S).1,(W8 P.To x m S).2.1,()),(mkr P F Fs I (W8 P.To x m S).2.2,())):=by
 rw[a3c,dI];unfold W8;by_cases c:x.Ks=21
 ·rw[f9 c,if_pos c];rfl
 rw[d8 c,if_neg c,i5];by_cases c:x.Ks=22
 ·rw[f9 c,if_pos c];rfl
 rw[d8 c,if_neg c,i5];by_cases c:x.Ks=23
 ·rw[f9 c,if_pos c,i7,b3H I S hS];rfl
 rw[d8 c,if_neg c,i5];by_cases c:x.Ks=24
 ·rw[f9 c,if_pos c];rfl
 rw[d8 c,if_neg c,i5];by_cases c:x.Ks=26
 ·rw[f9 c,if_pos c];rfl
 rw[d8 c,if_neg c,i5];by_cases c:x.Ks=27
 ·rw[f9 c,if_pos c,i7];by_cases c0:m.Ds<0
  ·have hr:=hr c;have e:w64 (0-m.Ds)= -m.Ds:=(by rw[Int.zero_sub];exact wrap64 (by omega) (by omega));rw[f9 c0,if_pos c0,e];rfl
  ·rw[d8 c0,if_neg c0];rfl
 rw[d8 c,if_neg c,i5];by_cases c:x.Ks=28
 ·rw[f9 c,if_pos c];rfl
 rw[d8 c,if_neg c,i5];by_cases c:x.Ks=29
 ·rw[f9 c,if_pos c];rfl
 rw[d8 c,if_neg c,i5];by_cases c:x.Ks=30
 ·rw[f9 c,if_pos c];rfl
 rw[d8 c,if_neg c,i5];by_cases c:x.Ks=31
 ·rw[f9 c,if_pos c];rfl
 rw[d8 c,if_neg c,i5];by_cases c:x.Ks=32
 ·obtain⟨h0,h1⟩:=hT c;have hl:m.Ts.toNat<P.To.length:=(by omega);have g:i6 P.To m.Ts=some P.To[m.Ts.toNat]:=Hg h0 h1;rw[f9 c,if_pos c,i7];show(i6 P.To m.Ts).bind _=_;rw[g,d6];unfold Zt;rw[p8 hl];simp only;by_cases c6:P.To[m.Ts.toNat].Ks=6
  ·rw[f9 c6,if_pos c6];rfl
  ·rw[d8 c6,if_neg c6];rfl
 rw[d8 c,if_neg c];rfl
end
end
section
structure GEn(l:List d7)(P:s9):Prop where
 nodes:P.No=l
 may:J6 l
 small:l.length≤30000
 tx:∀n∈l,n.Gs.length≤65536
 len:P.Ms.length=l.length
 ty:∀m∈P.Ms,0≤m.Ts∧m.Ts<P.To.length
def Bh(l:List d7)(M:List l4)(lo hi:Nat):Prop:=∀i,lo≤i→i<hi→kd l i=27→∃m,M[i]? =some m∧ -1000000≤m.Ds
theorem Bh.sub{l:List d7}{M:List l4}{lo hi lo' hi':Nat}(h:Bh l M lo hi)(a:lo≤lo')(b:hi'≤hi):Bh l M lo' hi':=fun i i1 i2=>h i (by omega) (by omega)
theorem Pg{l:List d7}{x:d7}{b q:Nat}{ks:List Nat}(hK:Kc l (b+1) q ks)(h:Fam x.Ks x.Ns b (E9 l ks) (fkd l ks))(hk:21≤x.Ks∧x.Ks≤32):∃lo',b+1≤lo'∧Kc l lo' q (if x.Ks=32 then ks.tail else ks)∧∀p∈(if x.Ks=32 then ks.tail else ks),21≤kd l p∧kd l p≤32:=by
 by_cases c:x.Ks=32
 ·rw[if_pos c];have hl:∃k0 kr,ks=k0::kr∧∀p∈kr,F4 (kd l p)=101:=by
   rcases h.k32 c with h|h
   ·obtain⟨e1,e2⟩:=B7 h.1;cases ks with
    |nil=>simp at e1
    |cons k0 kr=>have:kr=[]:=(by simpa using e1);exact⟨k0,kr,rfl,fun p hp=>by rw[this]at hp;exact nomatch hp⟩
   ·obtain⟨e1,e2⟩:=B7 h.1;cases ks with
    |nil=>simp at e1
    |cons k0 kr=>refine⟨k0,kr,rfl,fun p hp=>?_⟩;obtain⟨j,hj,rfl⟩:=List.getElem_of_mem hp;have hj0:j=0:=(by simp at e1;omega);subst hj0;exact e2 1 (by simp;omega) (by simp)
  obtain⟨k0,kr,rfl,hkr⟩:=hl;obtain⟨q0,_,h1,_,h2⟩:=hK.hd;exact⟨q0,by omega,h2,fun p hp=>D7 (hkr p hp)⟩
 ·rw[if_neg c];refine⟨b+1,i8 _,hK,fun p hp=>?_⟩;have hall:∀s∈E9 l ks,s=101:=by
   by_cases c1:x.Ks≤26
   ·rw[(h.kr (by omega)).1];intro s hs;exact nomatch hs
   by_cases c2:x.Ks=27
   ·exact h.k27 c2
   by_cases c3:x.Ks=28∨x.Ks=31
   ·rw[h.k28 c3];simp
   ·rw[h.k12 (by omega)];simp
  exact D7 (Mt hall p hp)
theorem b4Z(ks:List Nat):x8 (l5 ks) 1 ((l5 ks).length:Int)=l5 ks.tail:=by
 unfold x8 l5;cases ks with
 |nil=>rfl
 |cons k ks=>simp only[List.map_cons,F3,H2,List.tail_cons];have e:((((ks.length+1:Nat):Int)-1).toNat)=ks.length:=(by omega);rw[e,show Int.toNat 1=1 from rfl,List.drop_succ_cons,L9,List.take_of_length_le (by simp)]
def nO(l:List d7)(P:s9)(n:Nat):Prop:=∀(b:Nat) (x:d7) (q:Nat),q-b=n→l[b]? =some x→x.Cs=(q:Int)-(b+1)→b+1≤q→q≤l.length→21≤x.Ks→x.Ks≤32→Bh l P.Ms b q→
 ∀(F:Nat) (Fs:List o0) (I:List i9) (S:List Bs) (o:Nat),I.length=F+o→I.length+(q-b)≤80000000→S.length+(q-b)≤80000000→
 ∃c S',X4 d5 (mkr P F Fs I S) (b:Int)=some ((),(mkr P F Fs (I++c) S',()))∧GX l P.Ms P.To o [b] S c S'
section
variable{l:List d7}{P:s9}(hG:GEn l P)
include hG
theorem b0R(N:Nat)(ih:∀m,m<N→nO l P m)(a:Int)(x:d7)(mk:l4)(ks:List Nat)(st:Nat)(hst:st≤l.length)(hkl:ks.length≤l.length)(hks:∀p∈ks,21≤kd l p∧kd l p≤32)(F:Nat)(Fs:List o0):∀(n e c0 o:Nat) (I:List i9) (S:List Bs),ks.length-e=n→e≤ks.length→Kc l c0 st (ks.drop e)→st-c0<N→Bh l P.Ms c0 st→I.length=F+o→I.length+(st-c0)≤80000000→S.length+(st-c0)≤80000000→∃c S',Ro d5 a (l5 ks) ((l5 ks).length:Int) (e:Int) x mk (mkr P F Fs I S)=IL d5 a x mk (mkr P F Fs (I++c) S')∧GX l P.Ms P.To o (ks.drop e) S c S':=by
 have hsm:=hG.small;intro n
 induction n with
 |zero=>intro e c0 o I S hn he hK hN hR ho hI hS;rw[RW,Sm,A9,d8 (by omega),i5,J1 (by omega)];exact⟨[],S,by rw[R4],.nil _ _⟩
 |succ n ihn=>
  intro e c0 o I S hn he hK hN hR ho hI hS;have hel:e<ks.length:=(by omega);have g:=C6 hel;rw[H5 hel]at hK⊢;obtain⟨ek,y,q,hy,hys,hq1,hq2,hrest⟩:=hK.first
  have hky:=hks _ (y5 hel);rw[ek,u0 hy]at hky;obtain⟨c,S1,r1,r2⟩:=ih (q-c0) (by omega) c0 y q rfl hy hys hq1 (by omega) hky.1 hky.2 (hR.sub (i8 _) hq2) F Fs I S o ho (by omega) (by omega);obtain⟨q',_,_,hK1,_⟩:=hK.hd;have hq':q'=q:=by
   have hq2':=hK1.first
   obtain⟨_,y',q2,hy',hys',_,_,hr'⟩:=hq2';have:q2=q':=(by cases hr';rfl);rw[hy]at hy';cases hy';omega
  subst hq';rw[ek]at hK1;obtain⟨z1,z2,_⟩:=r2.len _ _ hK1;obtain⟨c',S',k1,k2⟩:=ihn (e+1) q' (o+c.length) (I++c) S1 (by omega) (by omega) hrest (by omega) (hR.sub (by omega) (i8 _)) (by rw[o5];omega) (by rw[o5];omega) (by omega);refine⟨c++c',S',?_,?_⟩
  ·rw[RW,Sm,A9,f9 (by omega),i7,g,d6,ek,r1];simp only[d6];rw[z8 (by omega),←A9,k1,M9]
  ·rw[ek];exact r2.cat k2
set_option maxHeartbeats 2000000 in
theorem b04(N:Nat)(ih:∀m,m<N→nO l P m):nO l P N:=by
 intro b x q hN hx hs hbq hq hk1 hk2 hR F Fs I S o ho hI hS;have hsm:=hG.small;obtain⟨st,ks,t1,t2,t3,t4,t5,t6,t7⟩:=hG.may.nd b x hx;have est:st=q:=(by omega);subst est;have hkle:=t5.le;have hbl:=(l9.1 hx).1;have hxe:=(l9.1 hx).2;have hbM:b<P.Ms.length:=(by rw[hG.len];omega);have hmb:P.Ms[b]? =some P.Ms[b]:=p8 hbM;have hmt:=hG.ty _ (y5 hbM);have hp:∀(I:List i9) (S:List Bs),(mkr P F Fs I S).p_=P:=fun _ _=>rfl;have hnd:=hG.nodes;obtain⟨lo',hlo,hKe,hke⟩:=Pg t5 t6 ⟨hk1,hk2⟩;have hgk:=Se (by omega) (mkr P F Fs I S) hG.nodes hx t1 t3 t5;rw[a2H,wQ,hp,hnd,l7 hbl,d6,hxe,l7 hbM,d6,hgk,d6];simp only;have j3:(x.Ks=31→x.Ns<14)→∃c S',aR d5 (b:Int) (l5 (if x.Ks=32 then ks.tail else ks)) x P.Ms[b] ((l5 ks,()),(mkr P F Fs I S,()))=some ((),(mkr P F Fs (I++c) S',()))∧GX l P.Ms P.To o [b] S c S':=by
  intro hn;rw[b0n,iJ];simp only;generalize hes:(if x.Ks=32 then ks.tail else ks)=es at hKe hke;have hle:=hKe.le;obtain⟨c,S1,r1,r2⟩:=b0R hG N ih (b:Int) x P.Ms[b] es st t3 (by omega) hke F Fs _ 0 lo' o I S rfl (C8 _) (by rw[L9];exact hKe) (by omega) (hR.sub (by omega) (i8 _)) ho (by omega) (by omega);rw[L9]at r2;obtain⟨z1,z2,_⟩:=r2.len _ _ hKe;have hlast:=a79 (P:=P) (F:=F) (Fs:=Fs) (I++c) S1 (by omega) x ⟨hk1,hk2⟩ P.Ms[b] (fun c27=>by
   obtain⟨m,m1,m2⟩:=hR b (i8 _) hbq (by rw[u0 hx];exact c27);rw[hmb]at m1;cases m1;exact m2) (fun _=>hmt)
  generalize hli:W8 P.To x P.Ms[b] S1=li at hlast;obtain⟨op,arg,S2⟩:=li;have hput:=Qq (P:=P) (F:=F) (Fs:=Fs) hnd (I++c) S2 (o+c.length) (by rw[o5];omega) (by rw[o5];omega) op arg hx;rw[show Ro d5 (b:Int) (l5 es) ((l5 es).length:Int) 0 x P.Ms[b] (mkr P F Fs I S)=_ from r1,a5U,uM,hlast];simp only[d6];rw[hput];simp only[d6];refine⟨c++[⟨op,arg,x.Ls⟩],S2,by rw[M9],?_⟩;exact .oth o b st ks es [] x P.Ms[b] S S1 S2 S2 op arg c [] hx ⟨hk1,hk2⟩ hn t1 t5 hes.symm hmb r2 hli (.nil _ _)
 by_cases c32:x.Ks=32
 ·have hkn:1≤ks.length:=by
   rcases t6.k32 c32 with h|h
   ·have:=(B7 h.1).1;simp at this;omega
   ·have:=(B7 h.1).1;simp at this;omega
  have:=j3 (fun h=>by omega);rw[if_pos c32]at this;rw[f9 c32,i7,W5 (show B9 (1:Int) ((l5 ks).length:Int) ((l5 ks).length:Int)from⟨by omega,by rw[A9];omega,N0 _⟩),d6,b4Z];exact this
 rw[if_neg c32]at j3;rw[d8 c32,i5];by_cases c31:x.Ks=31
 ·rw[f9 c31,i7];have j2:14≤x.Ns→x.Ns≤15→∃c S',iU d5 (b:Int) x ((l5 ks,()),(mkr P F Fs I S,()))=some ((),(mkr P F Fs (I++c) S',()))∧GX l P.Ms P.To o [b] S c S':=by
   intro h14 h15;obtain⟨e1,e2⟩:=B7 (t6.k28 (.inr c31));have t5':=t5;obtain⟨k0,k1,y,z,rfl,hk0,hy,hys,hy1,hz,hzs,hz1⟩:=Hw t5 e1;have s0:=D7 (e2 0 (by simp) (by simp));have s1:=D7 (e2 1 (by simp) (by simp));simp only[H1,Z2]at s0 s1;rw[u0 hy]at s0;rw[u0 hz]at s1;obtain⟨q0,e0,_,K0,K1⟩:=t5'.hd;obtain⟨q1,e1',_,K1',K2⟩:=K1.hd;have eq1:q1=st:=(by cases K2;rfl);subst eq1 e1';have g0:i6 (l5 [k0,k1]) (0:Int)=some ((k0:Nat):Int):=C6 (i:=0) (ks:=[k0,k1]) (by simp);have ga0:(l5 [k0,k1])[Int.toNat 0]? =some ((k0:Nat):Int):=D9 (i:=0) (ks:=[k0,k1]) (by simp);have g1:i6 (l5 [k0,k1]) (1:Int)=some ((k1:Nat):Int):=C6 (i:=1) (ks:=[k0,k1]) (by simp);have ga1:(l5 [k0,k1])[Int.toNat 1]? =some ((k1:Nat):Int):=D9 (i:=1) (ks:=[k0,k1]) (by simp);obtain⟨a,S1,a1,a2⟩:=ih (k1-k0) (by omega) k0 y k1 rfl hy hys hy1 (by omega) s0.1 s0.2 (hR.sub (by omega) (by omega)) F Fs I S o ho (by omega) (by omega);rw[←e0]at K0;obtain⟨z1,z2,_⟩:=a2.len _ _ K0;have j1:∃c S',uG d5 (b:Int) (x.Ns-1) ((),(mkr P F Fs (I++a) S1,())) ((l5 [k0,k1],()),(mkr P F Fs I S,()))=some ((),(mkr P F Fs (I++c) S',()))∧GX l P.Ms P.To o [b] S c S':=by have hput:=Qq (P:=P) (F:=F) (Fs:=Fs) hnd (I++a) S1 (o+a.length) (by rw[o5];omega) (by rw[o5];omega) (x.Ns-1) 0 hx;obtain⟨c,S2,b1,b2⟩:=ih (q1-k1) (by omega) k1 z q1 rfl hz hzs hz1 t3 s1.1 s1.2 (hR.sub (by omega) (by omega)) F Fs (I++a++[⟨x.Ns-1,0,x.Ls⟩]) S1 (o+a.length+1) (by simp only[o5,y4];omega) (by simp only[o5,y4];omega) (by omega);obtain⟨w1,w2,_⟩:=b2.len _ _ K1';have hland:=Sy (P:=P) (F:=F) (Fs:=Fs) (I++a) c S2 ⟨x.Ns-1,0,x.Ls⟩ (o+a.length) (by rw[o5];omega) (by simp only[o5];omega);rw[b1f,lX];simp only;rw[hput];simp only[d6];rw[g1,d6,ga1,d6,b1];simp only[d6];rw[show I++a++[(⟨x.Ns-1,0,x.Ls⟩:i9)]++c=I++a++((⟨x.Ns-1,0,x.Ls⟩:i9)::c) by simp,hland];simp only[d6];have:=GX.log (T:=P.To) (M:=P.Ms) o b q1 k0 k1 [] x S S1 S2 S2 a c [] hx c31 h14 t1 t5' a2 b2 (.nil _ _);rw[R4]at this;exact⟨_,S2,by rw[M9],this⟩
   rw[b2H,sS];simp only;rw[g0,d6,ga0,d6,a1];simp only[d6];by_cases c15:x.Ns=15
   ·rw[c15]at j1;rw[f9 c15,i7];exact j1
   ·have e14:x.Ns=14:=(by omega);rw[e14]at j1;rw[d8 c15];exact j1
  have hn31:=t7.n31 c31;by_cases c14:x.Ns=14
  ·rw[f9 c14,i7];exact j2 (by omega) (by omega)
  ·by_cases c15:x.Ns=15
   ·rw[d8 c14,i5,f9 c15,i7];exact j2 (by omega) (by omega)
   ·rw[d8 c14,i5,d8 c15,i5];exact j3 (fun _=>by omega)
 ·rw[d8 c31,i5];exact j3 (fun h=>absurd h c31)
theorem HI:∀n,nO l P n:=by
 intro n
 induction n using Nat.strongRecOn with
 |_ n ih=>exact b04 hG n ih
end
end
section
variable{l:List d7}{M:List l4}{T:List r9}
theorem GS.cat{o b:Nat}{ks:List Nat}{S S1 S2:List Bs}{u v:List i9}(h:GS l M T o [b] S u S1)(h':GS l M T (o+u.length) ks S1 v S2):GS l M T o (b::ks) S (u++v) S2:=by
 cases h with
 |smp _ _ _ es x m _ T1 _ a t d hx hm hT h0 h2=>cases h2;have e:o+((⟨1,m.In,x.Ls⟩:i9)::(a++(t++[]))).length=o+1+a.length+t.length:=(by simp;omega);rw[e]at h';have:=GS.smp o b ks es x m S S1 S2 a t v hx hm hT h0 h';simpa using this
 |if2 _ _ st k1 _ ks1 x m _ T1 T2 _ a c d hx hm hk hs hks hb h0 h1 h2=>cases h2;have e:o+((⟨1,m.In,x.Ls⟩:i9)::(a++((⟨12,((o+a.length+2+c.length:Nat):Int),x.Ls⟩:i9)::(c++[])))).length=o+a.length+2+c.length:=(by simp;omega);rw[e]at h';have:=GS.if2 o b st k1 ks ks1 x m S T1 S1 S2 a c v hx hm hk hs hks hb h0 h1 h';simpa using this
 |if3 _ _ st k1 k2 _ ks1 ks2 x m _ T1 T2 T3 _ a c e d hx hm hk hs hks hb1 hb2 h0 h1 h3 h2=>cases h2;have ee:o+((⟨1,m.In,x.Ls⟩:i9)::(a++((⟨12,((o+a.length+c.length+3:Nat):Int),x.Ls⟩:i9)::(c++((⟨11,((o+a.length+c.length+3+e.length:Nat):Int),x.Ls⟩:i9)::(e++[])))))).length=o+a.length+c.length+3+e.length:=(by simp;omega);rw[ee]at h';have:=GS.if3 o b st k1 k2 ks ks1 ks2 x m S T1 T2 S1 S2 a c e v hx hm hk hs hks hb1 hb2 h0 h1 h3 h';simpa using this
 |whl _ _ st k1 _ ks1 x m _ T1 T2 _ a c d hx hm hk hs hks hb h0 h1 h2=>cases h2;have e:o+((⟨1,m.In,x.Ls⟩:i9)::(a++((⟨12,((o+a.length+c.length+3:Nat):Int),x.Ls⟩:i9)::(c++((⟨11,(o:Int),x.Ls⟩:i9)::[]))))).length=o+a.length+c.length+3:=(by simp;omega);rw[e]at h';have:=GS.whl o b st k1 ks ks1 x m S T1 S1 S2 a c v hx hm hk hs hks hb h0 h1 h';simpa using this
theorem Bc.kc{b:Nat}{x:d7}{m:l4}{es:List Nat}{t:List i9}(h:Bc l M b x m es t){st:Nat}(hs:x.Cs=(st:Int)-(b+1)):t.length≤1∧∃lo hi,b+1≤lo∧hi≤st∧Kc l lo hi es:=by
 cases h with
 |var st' k0 k1 hk hs' hks=>have:st'=st:=(by omega);subst this;obtain⟨q,_,h1,_,h2⟩:=hks.hd;exact⟨i8 _,q,st',by omega,i8 _,h2⟩
 |set st' k0 k1 y m0 is hk hs' hks hy hyk hm0 hi=>have:st'=st:=(by omega);subst this;obtain⟨q,rfl,h1,_,h2⟩:=hks.hd;obtain⟨q2,rfl,h3,h4,h5⟩:=h2.hd;have:q2=st':=(by cases h5;rfl);subst this;exact⟨i8 _,b+1+1,q2,by omega,i8 _,hi.app h4⟩
 |ret0 hk hs'=>exact⟨i8 _,b+1,b+1,i8 _,by omega,.nil _⟩
 |ret1 st' hk hs' hks=>have:st'=st:=(by omega);subst this;exact⟨i8 _,b+1,st',i8 _,i8 _,hks⟩
 |print st' hk hs' hks=>have:st'=st:=(by omega);subst this;exact⟨i8 _,b+1,st',i8 _,i8 _,hks⟩
 |pop st' m0 hk hs' hks hm0 ht=>have:st'=st:=(by omega);subst this;exact⟨i8 _,b+1,st',i8 _,i8 _,hks⟩
 |run st' m0 hk hs' hks hm0 ht=>have:st'=st:=(by omega);subst this;exact⟨by simp,b+1,st',i8 _,i8 _,hks⟩
theorem Kc.end{i j q:Nat}{k:Nat}{y:d7}(h:Kc l i j [k])(hy:l[k]? =some y)(hs:y.Cs=(q:Int)-(k+1)):k=i∧q=j∧i+1≤j:=by
 obtain⟨rfl,y',q',hy',hs',h1,h2,h3⟩:=h.first
 rw[hy]at hy';cases hy';have:q'=j:=(by cases h3;rfl);omega
theorem GS.len{o:Nat}{ks:List Nat}{S S':List Bs}{c:List i9}(h:GS l M T o ks S c S'):∀lo hi,Kc l lo hi ks→c.length+3*lo≤3*hi∧S'.length+lo≤S.length+hi∧Y6 S'+ps l lo≤Y6 S+ps l hi:=by
 induction h with
 |nil o S=>intro lo hi hK;have:=hK.le;have:=W4 l (i:=lo) (j:=hi) (by omega);simp only[I0];omega
 |smp o b ks es x m S S1 S2 a t d hx hm hT h0 h2 i2=>
  intro lo hi hK;obtain⟨rfl,y,q,hy,hys,hq1,hq2,hrest⟩:=hK.first
  rw[hx]at hy;cases hy;obtain⟨t1,lo',hi',t2,t3,t4⟩:=hT.kc hys;obtain⟨p1,p2,p3⟩:=h0.len _ _ t4;obtain⟨w1,w2,w3⟩:=i2 _ _ hrest;have:=t4.le;have:=W4 l (i:=b) (j:=lo') (by omega);have:=W4 l t3;simp only[o5,F3];omega
 |if2 o b st k1 ks ks1 x m S S1 S2 S3 a c d hx hm hk hs hks hb h0 h1 h2 i1 i2=>
  intro lo hi hK;obtain⟨rfl,y,q,hy,hys,hq1,hq2,hrest⟩:=hK.first
  rw[hx]at hy;cases hy;have:q=st:=(by omega);subst this;obtain⟨q0,e0,hq0,K0,hr0⟩:=hks.hd;obtain⟨q1,rfl,hq1',K1,hr1⟩:=hr0.hd;have e1:q1=q:=(by cases hr1;rfl);subst e1;obtain⟨y1,st1,b1,b2,b3⟩:=hb;obtain⟨_,rfl,_⟩:=K1.end b1 b2;obtain⟨p1,p2,p3⟩:=h0.len _ _ K0;obtain⟨r1,r2,r3⟩:=i1 _ _ b3;obtain⟨w1,w2,w3⟩:=i2 _ _ hrest;have:=b3.le;have:=W4 l (i:=b) (j:=b+1) (by omega);have:=W4 l (i:=k1) (j:=k1+1) (by omega);simp only[o5,F3];omega
 |if3 o b st k1 k2 ks ks1 ks2 x m S S1 S2 S3 S4 a c e d hx hm hk hs hks hb1 hb2 h0 h1 h3 h2 i1 i3 i2=>
  intro lo hi hK;obtain⟨rfl,y,q,hy,hys,hq1,hq2,hrest⟩:=hK.first
  rw[hx]at hy;cases hy;have:q=st:=(by omega);subst this;obtain⟨q0,e0,hq0,K0,hr0⟩:=hks.hd;obtain⟨q1,rfl,hq1',K1,hr1⟩:=hr0.hd;obtain⟨q2,rfl,hq2',K2,hr2⟩:=hr1.hd;have e1:q2=q:=(by cases hr2;rfl);subst e1;obtain⟨y1,st1,b1,b2,b3⟩:=hb1;obtain⟨_,rfl,_⟩:=K1.end b1 b2;obtain⟨y2,st2,d1,d2,d3⟩:=hb2;obtain⟨_,rfl,_⟩:=K2.end d1 d2;obtain⟨p1,p2,p3⟩:=h0.len _ _ K0;obtain⟨r1,r2,r3⟩:=i1 _ _ b3;obtain⟨u1,u2,u3⟩:=i3 _ _ d3;obtain⟨w1,w2,w3⟩:=i2 _ _ hrest;have:=b3.le;have:=d3.le;have:=W4 l (i:=b) (j:=b+1) (by omega);have:=W4 l (i:=k1) (j:=k1+1) (by omega);have:=W4 l (i:=st1) (j:=st1+1) (by omega);simp only[o5,F3];omega
 |whl o b st k1 ks ks1 x m S S1 S2 S3 a c d hx hm hk hs hks hb h0 h1 h2 i1 i2=>
  intro lo hi hK;obtain⟨rfl,y,q,hy,hys,hq1,hq2,hrest⟩:=hK.first
  rw[hx]at hy;cases hy;have:q=st:=(by omega);subst this;obtain⟨q0,e0,hq0,K0,hr0⟩:=hks.hd;obtain⟨q1,rfl,hq1',K1,hr1⟩:=hr0.hd;have e1:q1=q:=(by cases hr1;rfl);subst e1;obtain⟨y1,st1,b1,b2,b3⟩:=hb;obtain⟨_,rfl,_⟩:=K1.end b1 b2;obtain⟨p1,p2,p3⟩:=h0.len _ _ K0;obtain⟨r1,r2,r3⟩:=i1 _ _ b3;obtain⟨w1,w2,w3⟩:=i2 _ _ hrest;have:=b3.le;have:=W4 l (i:=b) (j:=b+1) (by omega);have:=W4 l (i:=k1) (j:=k1+1) (by omega);simp only[o5,F3];omega
end
section
def bM(l:List d7)(P:s9)(n:Nat):Prop:=∀(b:Nat) (x:d7) (q:Nat),q-b=n→l[b]? =some x→x.Cs=(q:Int)-(b+1)→b+1≤q→q≤l.length→7≤x.Ks→x.Ks≤13→Bh l P.Ms b q→
 ∀(F:Nat) (Fs:List o0) (I:List i9) (S:List Bs) (o:Nat),I.length=F+o→I.length+3*(q-b)≤80000000→S.length+(q-b)≤80000000→
 ∃c S',BI d5 (mkr P F Fs I S) (b:Int)=some ((),(mkr P F Fs (I++c) S',()))∧GS l P.Ms P.To o [b] S c S'
def EI(l:List d7)(P:s9)(n:Nat):Prop:=∀(b:Nat) (x:d7) (q:Nat),q-b=n→l[b]? =some x→x.Cs=(q:Int)-(b+1)→b+1≤q→q≤l.length→x.Ks=6→Bh l P.Ms b q→
 ∀(F:Nat) (Fs:List o0) (I:List i9) (S:List Bs) (o:Nat),I.length=F+o→I.length+3*(q-b)≤80000000→S.length+(q-b)≤80000000→
 ∃c S' ks,Oy d5 (mkr P F Fs I S) (b:Int)=some ((),(mkr P F Fs (I++c) S',()))∧Kc l (b+1) q ks∧GS l P.Ms P.To o ks S c S'
section
variable{l:List d7}{P:s9}(hG:GEn l P)
include hG
theorem b1C(N:Nat)(ih:∀m,m<N→bM l P m)(m0:v8)(ks:List Nat)(st:Nat)(hst:st≤l.length)(hkl:ks.length≤l.length)(hks:∀p∈ks,7≤kd l p∧kd l p≤13)(F:Nat)(Fs:List o0):∀(n e c0 o:Nat) (I:List i9) (S:List Bs),ks.length-e=n→e≤ks.length→Kc l c0 st (ks.drop e)→st-c0<N→Bh l P.Ms c0 st→I.length=F+o→I.length+3*(st-c0)≤80000000→S.length+(st-c0)≤80000000→∃c S',kY d5 ((l5 ks,()),(m0,())) (e:Int) (mkr P F Fs I S)=some ((),(mkr P F Fs (I++c) S',()))∧GS l P.Ms P.To o (ks.drop e) S c S':=by
 have hsm:=hG.small;intro n
 induction n with
 |zero=>intro e c0 o I S hn he hK hN hR ho hI hS;rw[MX,Yd];simp only[A9];rw[d8 (by omega),i5,J1 (by omega)];exact⟨[],S,by rw[R4],.nil _ _⟩
 |succ n ihn=>
  intro e c0 o I S hn he hK hN hR ho hI hS;have hel:e<ks.length:=(by omega);have g:=C6 hel;have ga:=D9 hel;rw[H5 hel]at hK⊢;obtain⟨ek,y,q,hy,hys,hq1,hq2,hrest⟩:=hK.first
  have hky:=hks _ (y5 hel);rw[ek,u0 hy]at hky;obtain⟨c,S1,r1,r2⟩:=ih (q-c0) (by omega) c0 y q rfl hy hys hq1 (by omega) hky.1 hky.2 (hR.sub (i8 _) hq2) F Fs I S o ho (by omega) (by omega);obtain⟨q',_,_,hK1,_⟩:=hK.hd;rw[ek]at hK1;have hq':q=q':=(hK1.end hy hys).2.1;subst hq';obtain⟨z1,z2,_⟩:=r2.len _ _ hK1;obtain⟨c',S',k1,k2⟩:=ihn (e+1) q (o+c.length) (I++c) S1 (by omega) (by omega) hrest (by omega) (hR.sub (by omega) (i8 _)) (by rw[o5];omega) (by rw[o5];omega) (by omega);refine⟨c++c',S',?_,?_⟩
  ·rw[MX,Yd];simp only[A9];rw[f9 (by omega),i7,g,d6,B8,ga,d6,ek,r1];simp only[d6];rw[z8 (by omega),k1,M9]
  ·rw[ek];exact r2.cat k2
theorem a4G(N:Nat)(ih:∀m,m<N→bM l P m):EI l P N:=by intro b x q hN hx hs hbq hq hk hR F Fs I S o ho hI hS;have hsm:=hG.small;obtain⟨st,ks,t1,t2,t3,t4,t5,t6,t7⟩:=hG.may.nd b x hx;have est:st=q:=(by omega);subst est;have hkle:=t5.le;have hks:∀p∈ks,7≤kd l p∧kd l p≤13:=fun p hp=>mR (Mt (t6.k6 hk) p hp);have hgk:=Se (by omega) (mkr P F Fs I S) hG.nodes hx t1 t3 t5;obtain⟨c,S',r1,r2⟩:=b1C hG N ih (mkr P F Fs I S) ks st t3 (by omega) hks F Fs _ 0 (b+1) o I S rfl (C8 _) (by rw[L9];exact t5) (by omega) (hR.sub (by omega) (i8 _)) ho (by omega) (by omega);rw[L9]at r2;rw[a5A,pK,hgk];simp only[d6];exact⟨c,S',ks,r1,t5,r2⟩
theorem b2w(a:Int)(kl:List Int)(m0:v8)(ks:List Nat)(st:Nat)(hst:st≤l.length)(hkl:ks.length≤l.length)(hks:∀p∈ks,21≤kd l p∧kd l p≤32)(F:Nat)(Fs:List o0):∀(n e c0 o:Nat) (I:List i9) (S:List Bs),ks.length-e=n→e≤ks.length→Kc l c0 st (ks.drop e)→Bh l P.Ms c0 st→I.length=F+o→I.length+(st-c0)≤80000000→S.length+(st-c0)≤80000000→∃c S',Yo d5 a kl ((l5 ks,()),(m0,())) (e:Int) (mkr P F Fs I S)=IY d5 a kl (mkr P F Fs (I++c) S')∧GX l P.Ms P.To o (ks.drop e) S c S':=by
 have hsm:=hG.small;intro n
 induction n with
 |zero=>intro e c0 o I S hn he hK hR ho hI hS;rw[a08,Zo];simp only[A9];rw[d8 (by omega),i5,J1 (by omega)];exact⟨[],S,by rw[R4],.nil _ _⟩
 |succ n ihn=>
  intro e c0 o I S hn he hK hR ho hI hS;have hel:e<ks.length:=(by omega);have g:=C6 hel;have ga:=D9 hel;rw[H5 hel]at hK⊢;obtain⟨ek,y,q,hy,hys,hq1,hq2,hrest⟩:=hK.first
  have hky:=hks _ (y5 hel);rw[ek,u0 hy]at hky;obtain⟨c,S1,r1,r2⟩:=HI hG (q-c0) c0 y q rfl hy hys hq1 (by omega) hky.1 hky.2 (hR.sub (i8 _) hq2) F Fs I S o ho (by omega) (by omega);obtain⟨q',_,_,hK1,_⟩:=hK.hd;rw[ek]at hK1;have hq':q=q':=(hK1.end hy hys).2.1;subst hq';obtain⟨z1,z2,_⟩:=r2.len _ _ hK1;obtain⟨c',S',k1,k2⟩:=ihn (e+1) q (o+c.length) (I++c) S1 (by omega) (by omega) hrest (hR.sub (by omega) (i8 _)) (by rw[o5];omega) (by rw[o5];omega) (by omega);refine⟨c++c',S',?_,?_⟩
  ·rw[a08,Zo];simp only[A9];rw[f9 (by omega),i7,g,d6,B8,ga,d6,ek,r1];simp only[d6];rw[z8 (by omega),k1,M9]
  ·rw[ek];exact r2.cat k2
end
end
end
section
variable{l:List d7}{P:s9}(hG:GEn l P)
include hG
theorem a8f(b:Nat)(x:d7)(hx:l[b]? =some x)(k0 k1 st:Nat)(y z:d7)(hy:l[k0]? =some y)(hys:y.Cs=(k1:Int)-(k0+1))(hy1:k0+1≤k1)(hyk:y.Ks=26∨y.Ks=28∨y.Ks=29)(hz:l[k1]? =some z)(hzs:z.Cs=(st:Int)-(k1+1))(hz1:k1+1≤st)(hst:st≤l.length)(hzk:21≤z.Ks∧z.Ks≤32)(K1:Kc l k1 st [k1])(hR:Bh l P.Ms k0 st)(hm0:k0<P.Ms.length)(F:Nat)(Fs:List o0)(I:List i9)(S:List Bs)(o:Nat)(ho:I.length=F+o)(hI:I.length+2*(st-k0)≤80000000)(hS:S.length+(st-k0)≤80000000):∃(is:List Nat) (c:List i9) (S':List Bs),FX d5 (mkr P F Fs I S) (b:Int) (l5 [k0,k1])=some ((),(mkr P F Fs (I++c++[Wu x y P.Ms[k0]]) S',()))∧Kc l (k0+1) k1 is∧GX l P.Ms P.To o (is++[k1]) S c S':=by
 have hsm:=hG.small;have hnd:=hG.nodes;have hp:∀(I:List i9) (S:List Bs),(mkr P F Fs I S).p_=P:=fun _ _=>rfl;obtain⟨st0,is,t1,t2,t3,t4,t5,t6,t7⟩:=hG.may.nd k0 y hy;have est:st0=k1:=(by omega);subst est;have hisl:=t5.le;have hke:∀p∈is,21≤kd l p∧kd l p≤32:=by obtain⟨_,_,_,h⟩:=Pg t5 t6 (by omega);rw[if_neg (by omega)]at h;exact h
 have hgk:=Se (by omega) (mkr P F Fs I S) hG.nodes hy t1 t3 t5;have g0:i6 (l5 [k0,st0]) (0:Int)=some ((k0:Nat):Int):=C6 (i:=0) (ks:=[k0,st0]) (by simp);have g1:i6 (l5 [k0,st0]) (1:Int)=some ((st0:Nat):Int):=C6 (i:=1) (ks:=[k0,st0]) (by simp);obtain⟨c1,S1,a1,a2⟩:=b2w hG (b:Int) (l5 [k0,st0]) (mkr P F Fs I S) is st0 t3 (by omega) hke F Fs _ 0 (k0+1) o I S rfl (C8 _) (by rw[L9];exact t5) (hR.sub (by omega) (by omega)) ho (by omega) (by omega);rw[L9]at a2;obtain⟨z1,z2,_⟩:=a2.len _ _ t5;obtain⟨c2,S2,b1,b2⟩:=HI hG (st-st0) st0 z st rfl hz hzs hz1 hst hzk.1 hzk.2 (hR.sub (by omega) (i8 _)) F Fs (I++c1) S1 (o+c1.length) (by rw[o5];omega) (by rw[o5];omega) (by omega);obtain⟨w1,w2,_⟩:=b2.len _ _ K1;have hyl:=(l9.1 hy).1;have hye:=(l9.1 hy).2;have hput:=fun(op arg:Int) (i:Nat) (u:d7) (hu:l[i]? =some u)=>Qq (P:=P) (F:=F) (Fs:=Fs) hnd (I++c1++c2) S2 (o+(c1.length+c2.length)) (by simp only[o5];omega) (by simp only[o5];omega) op arg hu;refine⟨is,c1++c2,S2,?_,t5,a2.app b2⟩;rw[a4D,cU,g0,d6,hgk];simp only[d6];rw[show Yo d5 (b:Int) (l5 [k0,st0]) ((l5 is,()),(mkr P F Fs I S,())) 0 (mkr P F Fs I S)=_ from a1,b4g,tW,g1,d6,b1];simp only[d6];rw[g0,d6,hp,l7 hm0,d6,d6,hnd,l7 hyl,d6,hye];unfold Wu;by_cases c26:y.Ks=26
 ·rw[f9 c26,if_pos c26,i7,hput _ _ b x hx];simp only[d6,M9]
 ·rw[d8 c26,if_neg c26,i5];by_cases c28:y.Ks=28
  ·rw[f9 c28,if_pos c28,i7,d6,hput _ _ k0 y hy];simp only[d6,M9]
  ·have c29:y.Ks=29:=(by omega);rw[d8 c28,if_neg c28,i5,f9 c29,i7,d6,hput _ _ k0 y hy];simp only[d6,M9]
set_option maxHeartbeats 4000000 in
theorem a8U(N:Nat)(ihB:∀m,m<N→EI l P m):bM l P N:=by
 intro b x q hN hx hs hbq hq h7 h13 hR F Fs I S o ho hI hS;have hsm:=hG.small;have hnd:=hG.nodes;have hp:∀(I:List i9) (S:List Bs),(mkr P F Fs I S).p_=P:=fun _ _=>rfl;obtain⟨st,ks,t1,t2,t3,t4,t5,t6,t7⟩:=hG.may.nd b x hx;have est:st=q:=(by omega);subst est;have hkle:=t5.le;have hbl:=(l9.1 hx).1;have hxe:=(l9.1 hx).2;have hbM:b<P.Ms.length:=(by rw[hG.len];omega);have hmb:P.Ms[b]? =some P.Ms[b]:=p8 hbM;have hgk:=Se (by omega) (mkr P F Fs I S) hG.nodes hx t1 t3 t5;have hput0:=Qq (P:=P) (F:=F) (Fs:=Fs) hnd I S o ho (by omega) 1 P.Ms[b].In hx;rw[a3A,cW,hgk];simp only[d6];rw[hp,l7 hbM,d6,hput0];simp only[d6];rw[hp,hnd,l7 hbl,d6,hxe];generalize hI1:I++[(⟨1,P.Ms[b].In,x.Ls⟩:i9)]=I1;have lI1:I1.length=F+(o+1):=(by rw[←hI1,o5,y4];omega);have fin:∀(es:List Nat) (t c:List i9) (S1:List Bs),Bc l P.Ms b x P.Ms[b] es t→GX l P.Ms P.To (o+1) es S c S1→∃c' S',(some ((),(mkr P F Fs (I1++c++t) S1,())):b5M)=some ((),(mkr P F Fs (I++c') S',()))∧GS l P.Ms P.To o [b] S c' S':=by intro es t c S1 hT hX;refine⟨_,S1,?_,.smp o b [] es x P.Ms[b] S S1 S1 c t [] hx hmb hT hX (.nil _ _)⟩;rw[←hI1];simp
 have ex:∀(k qk:Nat) (y:d7),l[k]? =some y→y.Cs=(qk:Int)-(k+1)→k+1≤qk→b+1≤k→qk≤st→21≤y.Ks∧y.Ks≤32→Kc l k qk [k]→∃c S',X4 d5 (mkr P F Fs I1 S) (k:Int)=some ((),(mkr P F Fs (I1++c) S',()))∧GX l P.Ms P.To (o+1) [k] S c S'∧c.length+k≤qk∧S'.length+k≤S.length+qk:=by intro k qk y hy hys h1 h2 h3 hk hK;obtain⟨c,S',a1,a2⟩:=HI hG (qk-k) k y qk rfl hy hys h1 (by omega) hk.1 hk.2 (hR.sub (by omega) h3) F Fs I1 S (o+1) lI1 (by omega) (by omega);obtain⟨z1,z2,_⟩:=a2.len _ _ hK;exact⟨c,S',a1,a2,z1,z2⟩
 have pt:∀(c:List i9) (S':List Bs) (n:Nat) (op arg:Int),c.length=n→I1.length+n≤90000000→P8 d5 (mkr P F Fs (I1++c) S') op arg (b:Int)=some ((((o+1+n:Nat):Int),()),(mkr P F Fs (I1++c++[⟨op,arg,x.Ls⟩]) S',())):=by intro c S' n op arg hn hl;subst hn;rw[Qq (P:=P) (F:=F) (Fs:=Fs) hnd (I1++c) S' (o+1+c.length) (by rw[o5];omega) (by rw[o5];omega) op arg hx]
 by_cases c7:x.Ks=7
 ·obtain⟨e1,e2⟩:=B7 (t6.k7 c7);have t5':=t5;obtain⟨k0,k1,y,z,rfl,hk0,hy,hys,hy1,hz,hzs,hz1⟩:=Hw t5 e1;have s1:=D7 (e2 1 (by simp) (by simp));simp only[Z2,H1]at s1;rw[u0 hz]at s1;obtain⟨q0,_,_,_,K1⟩:=t5'.hd;obtain⟨q1,e1',_,K1',K2⟩:=K1.hd;have eq1:q1=st:=(by cases K2;rfl);subst eq1 e1';have g1:i6 (l5 [k0,k1]) (1:Int)=some ((k1:Nat):Int):=C6 (i:=1) (ks:=[k0,k1]) (by simp);have ga1:(l5 [k0,k1])[Int.toNat 1]? =some ((k1:Nat):Int):=D9 (i:=1) (ks:=[k0,k1]) (by simp);obtain⟨c,S1,a1,a2,a3,a4⟩:=ex k1 q1 z hz hzs hz1 (by omega) (i8 _) s1 K1';rw[f9 c7,i7,g1,d6,ga1,d6,a1];simp only[d6];rw[hp,l7 hbM,d6,pt c S1 _ 8 P.Ms[b].Ds rfl (by omega)];simp only[d6];exact fin [k1] _ c S1 (.var q1 k0 k1 c7 t1 t5') a2
 rw[d8 c7,i5];by_cases c8:x.Ks=8
 ·obtain⟨f1,f2⟩:=t6.k8 c8;obtain⟨e1,e2⟩:=B7 f1;have t5':=t5;obtain⟨k0,k1,y,z,rfl,hk0,hy,hys,hy1,hz,hzs,hz1⟩:=Hw t5 e1;have s1:=D7 (e2 1 (by simp) (by simp));simp only[Z2,H1]at s1;rw[u0 hz]at s1;have fk:y.Ks=26∨y.Ks=28∨y.Ks=29:=by have:fkd l [k0,k1]=y.Ks:=u0 hy;rw[this]at f2;exact f2
  obtain⟨q0,_,_,_,K1⟩:=t5'.hd;obtain⟨q1,e1',_,K1',K2⟩:=K1.hd;have eq1:q1=st:=(by cases K2;rfl);subst eq1 e1';have hm0:k0<P.Ms.length:=(by rw[hG.len];omega);obtain⟨is,c,S',a1,a2,a3⟩:=a8f hG b x hx k0 k1 q1 y z hy hys hy1 fk hz hzs hz1 t3 s1 K1' (hR.sub (by omega) (i8 _)) hm0 F Fs I1 S (o+1) lI1 (by omega) (by omega);rw[f9 c8,i7,a1];simp only[d6];exact fin (is++[k1]) _ c S' (.set q1 k0 k1 y P.Ms[k0] is c8 t1 t5' hy fk (p8 hm0) a2) a3
 rw[d8 c8,i5];have one:∀(S':List Int),E9 l ks=101::S'→∃(y:d7) (q1:Nat) (kr:List Nat),ks=(b+1)::kr∧l[b+1]? =some y∧y.Cs=(q1:Int)-(b+1+1)∧b+1+1≤q1∧q1≤st∧(21≤y.Ks∧y.Ks≤32)∧Kc l (b+1) q1 [b+1]∧Kc l q1 st kr∧i6 (l5 ks) (0:Int)=some ((b+1:Nat):Int)∧(l5 ks)[Int.toNat 0]? =some ((b+1:Nat):Int):=by
  intro S' hS';obtain⟨e1,e2⟩:=B7 hS';obtain⟨k0,kr,rfl⟩:∃k kr,ks=k::kr:=by
   cases ks with
   |nil=>simp at e1
   |cons k kr=>exact⟨k,kr,rfl⟩
  obtain⟨q1,rfl,h1,K0,Kr⟩:=t5.hd;obtain⟨_,y,q1',hy,hys,hy1,hy2,hr⟩:=t5.first
  have s0:=D7 (e2 0 (by simp) (by simp));simp only[H1]at s0;rw[u0 hy]at s0;have hqq:q1'=q1:=(K0.end hy hys).2.1;subst hqq;exact⟨y,q1',kr,rfl,hy,hys,hy1,hy2,s0,K0,Kr,C6 (i:=0) (ks:=(b+1)::kr) (by simp),D9 (i:=0) (ks:=(b+1)::kr) (by simp)⟩
 by_cases c9:x.Ks=9
 ·rw[f9 c9,i7];have hS9:∃S',E9 l ks=101::S'∧(S'=[98]∨S'=[98,98]):=by
   rcases t6.k9 c9 with h|h
   ·exact⟨_,h,.inl rfl⟩
   ·exact⟨_,h,.inr rfl⟩
  obtain⟨S',hS',hS2⟩:=hS9;obtain⟨e1,e2⟩:=B7 hS';obtain⟨y,q1,kr,rfl,hy,hys,hy1,hy2,hyk,K0,Kr,g0,ga0⟩:=one S' hS';obtain⟨a,S1,a1,a2,a3,a4⟩:=ex (b+1) q1 y hy hys hy1 (i8 _) hy2 hyk K0;rw[g0,d6,ga0,d6,a1];simp only[d6];rw[pt a S1 _ 12 0 rfl (by omega)];simp only[d6];obtain⟨k1,kr1,rfl⟩:∃k kr1,kr=k::kr1:=by
   cases kr with
   |nil=>rcases hS2 with rfl|rfl<;>simp at e1
   |cons k kr1=>exact⟨k,kr1,rfl⟩
  obtain⟨q2,hk1,hq2,Kb,Kr2⟩:=Kr.hd;subst hk1;obtain⟨_,y1,q2',hb1,hbs1,_,_,_⟩:=Kb.first
  have hqq:q2'=q2:=(Kb.end hb1 hbs1).2.1;subst hqq;have h61:y1.Ks=6:=by have h:=e2 1 (by simp) (by rcases hS2 with rfl|rfl<;>simp);simp only[Z2,H1]at h;rw[u0 hb1]at h;refine Mf (h.trans ?_);rcases hS2 with rfl|rfl<;>rfl
  have hr2le:=Kr2.le;have g1:i6 (l5 ((b+1)::k1::kr1)) (1:Int)=some ((k1:Nat):Int):=C6 (i:=1) (ks:=(b+1)::k1::kr1) (by simp);have ga1:(l5 ((b+1)::k1::kr1))[Int.toNat 1]? =some ((k1:Nat):Int):=D9 (i:=1) (ks:=(b+1)::k1::kr1) (by simp);obtain⟨c,S2,ks1,b1,b2,b3⟩:=ihB (q2'-k1) (by omega) k1 y1 q2' rfl hb1 hbs1 hq2 (by omega) h61 (hR.sub (by omega) (by omega)) F Fs (I1++a++[⟨12,0,x.Ls⟩]) S1 (o+a.length+2) (by simp only[o5,y4];omega) (by simp only[o5,y4];omega) (by omega);obtain⟨w1,w2,_⟩:=b3.len _ _ b2;rw[g1,d6,ga1,d6,b1];simp only[d6];rcases hS2 with rfl|rfl
  ·have hkr1:kr1=[]:=(by simpa using e1);subst hkr1;have eq2:q2'=st:=(by cases Kr2;rfl);subst eq2;rw[d8 (by simp[l5]),i5,a01,Sf];have hland:=Sy (P:=P) (F:=F) (Fs:=Fs) (I1++a) c S2 ⟨12,0,x.Ls⟩ (o+1+a.length) (by rw[o5];omega) (by simp only[o5];omega);rw[show I1++a++[(⟨12,0,x.Ls⟩:i9)]++c=I1++a++((⟨12,0,x.Ls⟩:i9)::c) by simp,hland];simp only[d6];have hg:=GS.if2 (T:=P.To) o b q2' k1 [] ks1 x P.Ms[b] S S1 S2 S2 a c [] hx hmb c9 t1 t5 ⟨y1,q2',hb1,hbs1,b2⟩ a2 b3 (.nil _ _);refine⟨_,S2,?_,hg⟩;have ea:o+1+a.length+1+c.length=o+a.length+2+c.length:=(by omega);rw[←hI1,ea];simp
  ·obtain⟨k2,kr2,rfl⟩:∃k kr2,kr1=k::kr2:=by
    cases kr1 with
    |nil=>simp at e1
    |cons k kr2=>exact⟨k,kr2,rfl⟩
   have hkr2:kr2=[]:=(by simpa using e1);subst hkr2;obtain⟨q3,hk2,hq3,Kb2,Kr3⟩:=Kr2.hd;subst hk2;have eq3:q3=st:=(by cases Kr3;rfl);subst eq3;obtain⟨_,y2,q3',hb2,hbs2,_,_,_⟩:=Kb2.first
   have hqq:q3'=q3:=(Kb2.end hb2 hbs2).2.1;subst hqq;have h62:y2.Ks=6:=by have h:=e2 2 (by simp) (by simp);simp only[Z2,H1]at h;rw[u0 hb2]at h;exact Mf h
   have g2:i6 (l5 [b+1,k1,k2]) (2:Int)=some ((k2:Nat):Int):=C6 (i:=2) (ks:=[b+1,k1,k2]) (by simp);have ga2:(l5 [b+1,k1,k2])[Int.toNat 2]? =some ((k2:Nat):Int):=D9 (i:=2) (ks:=[b+1,k1,k2]) (by simp);rw[f9 (by simp[l5]),i7];have e12:I1++a++[(⟨12,0,x.Ls⟩:i9)]++c=I1++(a++[(⟨12,0,x.Ls⟩:i9)]++c):=(by simp);rw[e12,pt _ S2 (a.length+1+c.length) 11 0 (by simp;omega) (by omega)];simp only[d6];have hland:=Sy (P:=P) (F:=F) (Fs:=Fs) (I1++a) (c++[⟨11,0,x.Ls⟩]) S2 ⟨12,0,x.Ls⟩ (o+1+a.length) (by rw[o5];omega) (by simp only[o5,y4];omega);rw[show I1++(a++[(⟨12,0,x.Ls⟩:i9)]++c)++[⟨11,0,x.Ls⟩]=I1++a++((⟨12,0,x.Ls⟩:i9)::(c++[⟨11,0,x.Ls⟩])) by simp,hland];simp only[d6];have ea:o+1+a.length+1+(c++[(⟨11,0,x.Ls⟩:i9)]).length=o+a.length+c.length+3:=(by simp;omega);rw[ea,g2,d6,ga2,d6];obtain⟨e,S3,ks2,d1,d2,d3⟩:=ihB (q3'-k2) (by omega) k2 y2 q3' rfl hb2 hbs2 hq3 t3 h62 (hR.sub (by omega) (i8 _)) F Fs (I1++a++((⟨12,((o+a.length+c.length+3:Nat):Int),x.Ls⟩:i9)::(c++[⟨11,0,x.Ls⟩]))) S2 (o+a.length+c.length+3) (by simp only[o5,F3,I0];omega) (by simp only[o5,F3,I0];omega) (by omega);obtain⟨v1,v2,_⟩:=d3.len _ _ d2;rw[d1];simp only[d6];rw[a01,Sf];have hland2:=Sy (P:=P) (F:=F) (Fs:=Fs) (I1++a++((⟨12,((o+a.length+c.length+3:Nat):Int),x.Ls⟩:i9)::c)) e S3 ⟨11,0,x.Ls⟩ (o+1+(a.length+1+c.length)) (by simp only[o5,F3];omega) (by simp only[o5,F3];omega);rw[show I1++a++((⟨12,((o+a.length+c.length+3:Nat):Int),x.Ls⟩:i9)::(c++[⟨11,0,x.Ls⟩]))++e=I1++a++((⟨12,((o+a.length+c.length+3:Nat):Int),x.Ls⟩:i9)::c)++((⟨11,0,x.Ls⟩:i9)::e) by simp,hland2];simp only[d6];have hg:=GS.if3 (T:=P.To) o b q3' k1 k2 [] ks1 ks2 x P.Ms[b] S S1 S2 S3 S3 a c e [] hx hmb c9 t1 t5 ⟨y1,_,hb1,hbs1,b2⟩ ⟨y2,q3',hb2,hbs2,d2⟩ a2 b3 d3 (.nil _ _);refine⟨_,S3,?_,hg⟩;have eb:o+1+(a.length+1+c.length)+1+e.length=o+a.length+c.length+3+e.length:=(by omega);rw[←hI1,eb];simp
 rw[d8 c9,i5];by_cases c10:x.Ks=10
 ·rw[f9 c10,i7];obtain⟨e1,e2⟩:=B7 (t6.k10 c10);obtain⟨y,q1,kr,rfl,hy,hys,hy1,hy2,hyk,K0,Kr,g0,ga0⟩:=one _ (t6.k10 c10);obtain⟨a,S1,a1,a2,a3,a4⟩:=ex (b+1) q1 y hy hys hy1 (i8 _) hy2 hyk K0;rw[g0,d6,ga0,d6,a1];simp only[d6];rw[pt a S1 _ 12 0 rfl (by omega)];simp only[d6];obtain⟨k1,kr1,rfl⟩:∃k kr1,kr=k::kr1:=by
   cases kr with
   |nil=>simp at e1
   |cons k kr1=>exact⟨k,kr1,rfl⟩
  have hkr1:kr1=[]:=(by simpa using e1);subst hkr1;obtain⟨q2,hk1,hq2,Kb,Kr2⟩:=Kr.hd;subst hk1;have eq2:q2=st:=(by cases Kr2;rfl);subst eq2;obtain⟨_,y1,q2',hb1,hbs1,_,_,_⟩:=Kb.first
  have hqq:q2'=q2:=(Kb.end hb1 hbs1).2.1;subst hqq;have h61:y1.Ks=6:=by have h:=e2 1 (by simp) (by simp);simp only[Z2,H1]at h;rw[u0 hb1]at h;exact Mf h
  have g1:i6 (l5 [b+1,k1]) (1:Int)=some ((k1:Nat):Int):=C6 (i:=1) (ks:=[b+1,k1]) (by simp);have ga1:(l5 [b+1,k1])[Int.toNat 1]? =some ((k1:Nat):Int):=D9 (i:=1) (ks:=[b+1,k1]) (by simp);obtain⟨c,S2,ks1,b1,b2,b3⟩:=ihB (q2'-k1) (by omega) k1 y1 q2' rfl hb1 hbs1 hq2 (by omega) h61 (hR.sub (by omega) (by omega)) F Fs (I1++a++[⟨12,0,x.Ls⟩]) S1 (o+a.length+2) (by simp only[o5,y4];omega) (by simp only[o5,y4];omega) (by omega);obtain⟨w1,w2,_⟩:=b3.len _ _ b2;rw[g1,d6,ga1,d6,b1];simp only[d6];have e12:I1++a++[(⟨12,0,x.Ls⟩:i9)]++c=I1++(a++[(⟨12,0,x.Ls⟩:i9)]++c):=(by simp);rw[e12,pt _ S2 (a.length+1+c.length) 11 (o:Int) (by simp;omega) (by omega)];simp only[d6];have hland:=Sy (P:=P) (F:=F) (Fs:=Fs) (I1++a) (c++[⟨11,(o:Int),x.Ls⟩]) S2 ⟨12,0,x.Ls⟩ (o+1+a.length) (by rw[o5];omega) (by simp only[o5,y4];omega);rw[show I1++(a++[(⟨12,0,x.Ls⟩:i9)]++c)++[⟨11,(o:Int),x.Ls⟩]=I1++a++((⟨12,0,x.Ls⟩:i9)::(c++[⟨11,(o:Int),x.Ls⟩])) by simp,hland];simp only[d6];have hg:=GS.whl (T:=P.To) o b q2' k1 [] ks1 x P.Ms[b] S S1 S2 S2 a c [] hx hmb c10 t1 t5 ⟨y1,q2',hb1,hbs1,b2⟩ a2 b3 (.nil _ _);refine⟨_,S2,?_,hg⟩;have ea:o+1+a.length+1+(c++[(⟨11,(o:Int),x.Ls⟩:i9)]).length=o+a.length+c.length+3:=(by simp;omega);rw[←hI1,ea];simp
 rw[d8 c10,i5];by_cases c11:x.Ks=11
 ·rw[f9 c11,i7];rcases t6.k11 c11 with h|h
  ·have hks:=Il h;subst hks;have hst:st=b+1:=(by cases t5;rfl);rw[f9 (by simp[l5]),i7];have:=pt [] S 0 26 0 rfl (by omega);rw[R4]at this;rw[this];simp only[d6];have:=fin [] [⟨26,0,x.Ls⟩] [] S (.ret0 c11 (by rw[hst]at t1;exact t1)) (.nil _ _);rw[R4]at this;exact this
  ·obtain⟨e1,e2⟩:=B7 h;obtain⟨y,q1,kr,rfl,hy,hys,hy1,hy2,hyk,K0,Kr,g0,ga0⟩:=one _ h;have hkr:kr=[]:=(by simpa using e1);subst hkr;have eq2:q1=st:=(by cases Kr;rfl);subst eq2;obtain⟨a,S1,a1,a2,a3,a4⟩:=ex (b+1) q1 y hy hys hy1 (i8 _) hy2 hyk K0;rw[d8 (by simp[l5]),i5,g0,d6,ga0,d6,a1];simp only[d6];rw[pt a S1 _ 25 0 rfl (by omega)];simp only[d6];exact fin [b+1] _ a S1 (.ret1 q1 c11 t1 t5) a2
 rw[d8 c11,i5];have h1:E9 l ks=[101]:=by
  by_cases c12:x.Ks=12
  ·exact t6.k12 (.inl c12)
  ·exact(t6.k13 (by omega)).1
 obtain⟨e1,e2⟩:=B7 h1;obtain⟨y,q1,kr,rfl,hy,hys,hy1,hy2,hyk,K0,Kr,g0,ga0⟩:=one _ h1;have hkr:kr=[]:=(by simpa using e1);subst hkr;have eq2:q1=st:=(by cases Kr;rfl);subst eq2;obtain⟨a,S1,a1,a2,a3,a4⟩:=ex (b+1) q1 y hy hys hy1 (i8 _) hy2 hyk K0;by_cases c12:x.Ks=12
 ·rw[f9 c12,i7,g0,d6,ga0,d6,a1];simp only[d6];rw[pt a S1 _ 23 0 rfl (by omega)];simp only[d6];exact fin [b+1] _ a S1 (.print q1 c12 t1 t5) a2
 ·have c13:x.Ks=13:=(by omega);have hm1:b+1<P.Ms.length:=(by rw[hG.len];omega);rw[d8 c12,i5,f9 c13,i7,g0,d6,ga0,d6,a1];simp only[d6];rw[hp,l7 hm1,d6];by_cases ct:P.Ms[b+1].Ts=0
  ·rw[f9 ct,x4,i5];have:=fin [b+1] [] a S1 (.run q1 P.Ms[b+1] c13 t1 t5 (p8 hm1) ct) a2;rw[R4]at this;exact this
  ·rw[d8 ct,D3,i7,pt a S1 _ 24 0 rfl (by omega)];simp only[d6];exact fin [b+1] _ a S1 (.pop q1 P.Ms[b+1] c13 t1 t5 (p8 hm1) ct) a2
theorem a6h:∀n,bM l P n∧EI l P n:=by
 intro n
 induction n using Nat.strongRecOn with
 |_ n ih=>exact⟨a8U hG n (fun m hm=>(ih m hm).2),a4G hG n (fun m hm=>(ih m hm).1)⟩
end
section
variable{l:List d7}{s:d9}{nr:Nat}{M:List l4}{n:Nat}(h:Rc n l s nr M)(hn:n≤2900)
include h hn
theorem a5L:GEn l (prog s M):=by obtain⟨d,hI,rfl⟩:=h.ci;have hs:=h.small;exact⟨h.res.ri.nodes,h.may,by omega,fun x hx=>by have:=uU hx;have:=h.txt;omega,hI.len,hI.ty⟩
theorem xO{f:t9}(hf:f∈s.P.As):∃(k st np bp:Nat) (x y:d7) (ks:List Nat),f.Hs=(k:Int)∧l[k]? =some x∧x.Ks=4∧x.Cs=(st:Int)-(k+1)∧Kc l (k+1) st ks∧ks.length=np+2∧ks.getLast? =some bp∧k+1≤bp∧l[bp]? =some y∧y.Ks=6∧y.Cs=(st:Int)-(bp+1)∧bp+1≤st∧st≤l.length∧f.Ps=(np:Int)∧(np:Int)≤f.Ss∧f.Ss≤200∧0≤f.At∧f.At+f.Ss≤s.P.Ss.length∧(∀i,bp≤i→i<st→NdE l s f.Ss i∧NdS l s f.Ss i)∧(∀i,bp≤i→i<st→EF l s.P M i∧SF l M f.By i)∧(f.By≠0→BEn l bp):=by
 obtain⟨k,st,np,bp,x,ks,a1,a2,a3,a4,a5,a6,a7,a8,a9,a10,a12,a11⟩:=h.res.fns f hf;obtain⟨k',x',c1,c2,c3,_⟩:=h.res.ri.fn f hf;have ek:k'=k:=(by omega);subst ek;rw[a2]at c2;cases c2;obtain⟨z1,z2⟩:=h.fc f hf k' st np bp x ks a1 a2 a3 a4 a5 a6;obtain⟨st',ks',t1,t2,t3,t4,t5,t6,t7⟩:=h.may.nd k' x a2;have est:st'=st:=(by omega);subst est;have:=t5.det a4;subst this;obtain⟨np',n1,n2,n3,n4,n5⟩:=Qa t6 c3;have enp:np'=np:=(by omega);subst enp;have hl1:np'+1<ks'.length:=(by omega);have hlast:ks'.getLast? =some bp:=by rw[List.getLast?_eq_getElem?,n1];exact a6
 rw[p8 hl1]at a6;injection a6 with a6
 have hy6:=n5 hl1;rw[a6]at hy6;obtain⟨cK,hcK,hK⟩:=t5.drop (np'+1) (by omega);rw[H5 hl1,J1 (by omega),a6]at hK;obtain⟨ecK,y,q,hy,hys,hq1,hq2,hrest⟩:=hK.first
 have hq:q=st':=(by cases hrest;rfl);subst hq ecK;rw[u0 hy]at hy6;have hbpk:=(t5.mem bp (by rw[←a6];exact y5 hl1)).1;exact⟨k',q,np',bp,x,y,ks',a1,a2,c3,t1,t5,n1,hlast,hbpk,hy,hy6,hys,hq1,t3,a7,a9,a12,a8,a10,a11,z1,z2⟩
theorem a8Q{f:t9}(hf:f∈s.P.As){bp st:Nat}(hst:st≤l.length)(hE:∀i,bp≤i→i<st→EF l s.P M i∧SF l M f.By i):Bh l (prog s M).Ms bp st:=by
 intro i i1 i2 hk;have hil:i<l.length:=(by omega);have hx:=p8 hil;obtain⟨q,ks,t1,t2,t3,t4,t5,t6,t7⟩:=h.may.nd i _ hx;obtain⟨m,m1,m2,m3⟩:=(hE i i1 i2).1.k27 hk _ q ks hx t1 t5;refine⟨m,m1,?_⟩;by_cases c:m.Ds<0
 ·have:=(m2 c).1;omega
 ·omega
set_option maxHeartbeats 2000000 in
theorem b3F:∀(m i A:Nat) (I:List i9) (E:List o0) (S:List Bs) (F0:Nat),s.P.As.length-i=m→i≤s.P.As.length→I.length=A→E.length≤i→A+100000*m≤70000000→S.length+40000*m≤70000000→∃I' E' S' F',Vx d5 (prog s M) (i:Int) (mkr (prog s M) F0 E I S)=kZ d5 (mkr (prog s M) F' (E++E') (I++I') S')∧GC l M s.P.To A (s.P.As.drop i) S I' E' S':=by
 have hG:=a5L h hn;have hsm:=hG.small;have hnd:=hG.nodes;have hfn:=h.res.fn100;intro m
 induction m with
 |zero=>intro i A I E S F0 hm hi hA hE hb hS;rw[TT,Sd,d8 (by show¬(i:Int)<(s.P.As.length:Int);omega),i5,J1 (by omega)];exact⟨[],[],S,F0,by rw[R4,R4],.nil _ _⟩
 |succ m ih=>
  intro i A I E S F0 hm hi hA hE hb hS;have hil:i<s.P.As.length:=(by omega);have hgf:i6 (prog s M).As (i:Int)=some s.P.As[i]:=l7 hil;obtain⟨k,st,np,bp,x,y,ks,a1,a2,a3,a4,a5,a6,a7,a8,b1,b2,b3,b4,b5,b6,b7,b8,b9,b10,d1,d2,d3⟩:=xO h hn (y5 hil);have hkle:=a5.le;have hl1:np+1<ks.length:=(by omega);have hbp:ks[np+1]=bp:=by rw[List.getLast?_eq_getElem?,a6,show np+2-1=np+1 from rfl,p8 hl1]at a7;injection a7
  have ew:w64 (((l5 ks).length:Int)-1)=((np+1:Nat):Int):=(by rw[A9,wrap64 (by omega) (by omega)];omega);have hgk:=Se (by omega) (mkr (prog s M) A E I S) hnd a2 a4 b5 a5;obtain⟨c,S1,ks2,r1,r2,r3⟩:=(a6h hG (st-bp)).2 bp y st rfl b1 b3 b4 b5 b2 (a8Q h hn (y5 hil) b5 d2) A E I S 0 (by omega) (by omega) (by omega);obtain⟨z1,z2,_⟩:=r3.len _ _ r2;have hput:=Qq (P:=prog s M) (F:=A) (Fs:=E) hnd (I++c) S1 c.length (by rw[o5];omega) (by rw[o5];omega) 26 0 a2;have ehere:w64 (((I++c++[(⟨26,0,x.Ls⟩:i9)]).length:Int)-(A:Int))=(c.length:Int)+1:=by simp only[o5,y4];rw[wrap64 (by omega) (by omega)];omega
  have hz:E.length+ [(o0.mk (A:Int) ((c.length:Int)+1) s.P.As[i].Ps s.P.As[i].Ss (if s.P.As[i].By=0 then 0 else 1))].length≤100000000:=(by rw[y4];omega);obtain⟨I',E',S',F',k1,k2⟩:=ih (i+1) (A+c.length+1) (I++c++[⟨26,0,x.Ls⟩]) (E++[⟨A,(c.length:Int)+1,s.P.As[i].Ps,s.P.As[i].Ss,if s.P.As[i].By=0 then 0 else 1⟩]) S1 A (by omega) (by omega) (by simp only[o5,y4];omega) (by rw[o5,y4];omega) (by omega) (by omega);have hgc:=GC.cons A k st bp s.P.As[i] (s.P.As.drop (i+1)) S S1 S' x ks ks2 c I' E' a1 a2 a4 a5 a7 ⟨y,st,b1,b3,r2⟩ r3 k2;rw[←H5 hil]at hgc;refine⟨_,_,S',F',?_,hgc⟩;have last:∀r:Int,r=(if s.P.As[i].By=0 then 0 else 1)→uI d5 (prog s M) (i:Int) (((c.length:Int),()),(mkr (prog s M) A E (I++c++[⟨26,0,x.Ls⟩]) S1,())) (((c.length:Int)+1,()),()) s.P.As[i] r=kZ d5 (mkr (prog s M) F' (E++(⟨A,(c.length:Int)+1,s.P.As[i].Ps,s.P.As[i].Ss,if s.P.As[i].By=0 then 0 else 1⟩::E')) (I++(c++(⟨26,0,x.Ls⟩::I'))) S'):=by intro r hr;subst hr;rw[a1z,iY];simp only;have hfs:(mkr (prog s M) A E (I++c++[⟨26,0,x.Ls⟩]) S1).c_.As=E:=rfl;have hfr:(mkr (prog s M) A E (I++c++[⟨26,0,x.Ls⟩]) S1).from_=(A:Int):=rfl;rw[hfs,hfr,J9 (by decide) hz,d6,b2X,lV];simp only;rw[z8 (by omega)];have k1':=k1;unfold mkr at k1';unfold mkr;simp only;rw[k1'];simp
  have hmk:(v8.mk (mkr (prog s M) F0 E I S).p_ (mkr (prog s M) F0 E I S).c_ ((mkr (prog s M) F0 E I S).c_.Is.length:Int) (mkr (prog s M) F0 E I S).texts_)=mkr (prog s M) A E I S:=by unfold mkr;simp only[hA]
  rw[TT,Sd,f9 (by show(i:Int)<(s.P.As.length:Int);omega),i7,hgf,d6,hmk,a1,hgk];simp only[d6];rw[ew,C6 hl1,d6,B8,D9 hl1,d6,hbp,r1];simp only[d6];rw[hput];simp only[d6];rw[ND,Sx];have hil':(mkr (prog s M) A E (I++c++[⟨26,0,x.Ls⟩]) S1).c_.Is=I++c++[⟨26,0,x.Ls⟩]:=rfl;have hfr':(mkr (prog s M) A E (I++c++[⟨26,0,x.Ls⟩]) S1).from_=(A:Int):=rfl;rw[hil',hfr',ehere];simp only[d6];by_cases cr:s.P.As[i].By=0
  ·rw[f9 cr,x4,i5];exact last 0 (by rw[if_pos cr])
  ·rw[d8 cr,D3,i7];exact last 1 (by rw[if_neg cr])
theorem b0A:∃I E S,gW d5 (prog s M)=some (((⟨I,E,S⟩:l6),()),())∧GC l M s.P.To 0 s.P.As [] I E S:=by have hfn:=h.res.fn100;obtain⟨I,E,S,F',k1,k2⟩:=b3F h hn _ 0 0 [] [] [] 0 rfl (C8 _) rfl (i8 _) (by omega) (by simp;omega);rw[L9]at k2;refine⟨I,E,S,?_,k2⟩;rw[a2C,qK,show Vx d5 (prog s M) 0 (v8.mk (prog s M) (l6.mk ([]:List i9) ([]:List o0) ([]:List Bs)) 0 ([]:List (Bs × Int)))=_ from k1,a8o,mC];rfl
end
section
def Ot:List Nat:=[0,0,0,0,0,0,0,0,1,1,2,0,1,1,1,2,3,1,2,0,1,1,0,1,1,1,0]
def Pn:List Nat:=[0,0,1,1,1,1,1,1,0,1,1,0,0,0,0,1,0,1,0,0,1,1,1,0,0,0,0]
def H3(E:List o0)(x:i9):Nat × Nat:=
 if x.Op=19 then(match E[x.A.toNat]? with|some f=>(f.Ps.toNat,f.By.toNat)|none=>(0,0))
 else if x.Op=20∧x.A=7 then(0,1)else if x.Op=20∧x.A=5 then(2,1)else(Ot.getD x.Op.toNat 0,Pn.getD x.Op.toNat 0)
structure Q5(E:List o0)(R:Int)(x:i9)(d:Nat):Prop where
 t:(H3 E x).1≤d
 p1:x.Op=1→d=0
 p25:x.Op=25→d=1∧R=1
 p26:x.Op=26→d=0∧R=0
def Suc(E:List o0)(i:Nat)(x:i9)(d:Nat)(j:Int)(d':Nat):Prop:=
 (x.Op=11∨x.Op=12)∧j=x.A∧d'=d-(H3 E x).1∨(x.Op=13∨x.Op=14)∧j=x.A∧d'=d∨(x.Op≠11∧x.Op≠25∧x.Op≠26)∧j=(i:Int)+1∧d'=d-(H3 E x).1+(H3 E x).2
def Seg(E:List o0)(R:Int)(X:Int→Nat→Prop)(o:Nat)(c:List i9)(W:Nat→Option Nat):Prop:=
 ∀i x d,c[i]? =some x→W (o+i)=some d→Q5 E R x d∧∀j d',Suc E (o+i) x d j d'→X j d'∨∃k,j=((k:Nat):Int)∧o≤k∧k≤o+c.length∧W k=some d'
variable{E:List o0}{R:Int}{X X':Int→Nat→Prop}
theorem Seg.nil(o:Nat)(W:Nat→Option Nat):Seg E R X o [] W:=fun i x d h=>by simp at h
theorem Seg.mono{o:Nat}{c:List i9}{W:Nat→Option Nat}(h:Seg E R X o c W)(hX:∀j d,X j d→X' j d):Seg E R X' o c W:=fun i x d h1 h2=>by obtain⟨a,b⟩:=h i x d h1 h2;exact⟨a,fun j d' hs=>(b j d' hs).imp (hX j d') id⟩
theorem Seg.close{o:Nat}{c:List i9}{W:Nat→Option Nat}(h:Seg E R X o c W)(hX:∀j d,X j d→X' j d∨∃k,j=((k:Nat):Int)∧o≤k∧k≤o+c.length∧W k=some d):Seg E R X' o c W:=fun i x d h1 h2=>by
 obtain⟨a,b⟩:=h i x d h1 h2;refine⟨a,fun j d' hs=>?_⟩;rcases b j d' hs with h|h
 ·exact hX j d' h
 ·exact .inr h
theorem Seg.one{o:Nat}{x:i9}{W:Nat→Option Nat}(h:∀d,W o=some d→Q5 E R x d∧∀j d',Suc E o x d j d'→X j d'∨j=((o+1:Nat):Int)∧W (o+1)=some d'):Seg E R X o [x] W:=by
 intro i y d h1 h2;cases i with
 |succ i=>simp at h1
 |zero=>
  simp only[List.getElem?_cons_zero,F8]at h1;subst h1;obtain⟨a,b⟩:=h d h2;refine⟨a,fun j d' hs=>?_⟩;rcases b j d' hs with h|⟨h,hw⟩
  ·exact .inl h
  ·exact .inr ⟨o+1,h,by omega,by simp,hw⟩
theorem Seg.cat{o:Nat}{c c':List i9}{W1 W2:Nat→Option Nat}(h1:Seg E R X o c W1)(h2:Seg E R X (o+c.length) c' W2)(hw:∀d,W1 (o+c.length)=some d→W2 (o+c.length)=some d):∃W,Seg E R X o (c++c') W∧(∀j,j<o+c.length→W j=W1 j)∧(∀j,o+c.length≤j→W j=W2 j)∧∀d,W1 o=some d→W o=some d:=by
 refine⟨fun j=>if j<o+c.length then W1 j else W2 j,?_,fun j hj=>if_pos hj,fun j hj=>if_neg (by omega),fun d hd=>?_⟩
 ·intro i x d hx hd;by_cases hi:i<c.length
  ·rw[R3 hi]at hx;simp only at hd;rw[if_pos (by omega)]at hd;obtain⟨a,b⟩:=h1 i x d hx hd;refine⟨a,fun j d' hs=>?_⟩;rcases b j d' hs with h|⟨k,e,k1,k2,k3⟩
   ·exact .inl h
   ·refine .inr ⟨k,e,k1,by rw[o5];omega,?_⟩;simp only;by_cases hk:k<o+c.length
    ·rw[if_pos hk];exact k3
    ·have:k=o+c.length:=(by omega);subst this;rw[if_neg hk];exact hw _ k3
  ·rw[Ci (by omega)]at hx;simp only at hd;rw[if_neg (by omega)]at hd;have e1:o+c.length+(i-c.length)=o+i:=(by omega);obtain⟨a,b⟩:=h2 (i-c.length) x d hx (by rw[e1];exact hd);rw[e1]at b;refine⟨a,fun j d' hs=>?_⟩;rcases b j d' hs with h|⟨k,e,k1,k2,k3⟩
   ·exact .inl h
   ·refine .inr ⟨k,e,by omega,by rw[o5];omega,?_⟩;simp only;rw[if_neg (by omega)];exact k3
 ·simp only;by_cases hc:o<o+c.length
  ·rw[if_pos hc];exact hd
  ·rw[if_neg hc];have:o=o+c.length:=(by omega);rw[←this]at hw;exact hw d hd
def Ty(E:List o0)(R:Int)(X:Int→Nat→Prop)(o:Nat)(c:List i9)(d:Nat)(d':Option Nat):Prop:=∃W,Seg E R X o c W∧W o=some d∧W (o+c.length)=d'
theorem Ty.nil(o d:Nat):Ty E R X o [] d (some d):=⟨fun _=>some d,Seg.nil _ _,rfl,rfl⟩
theorem Ty.mono{o d:Nat}{c:List i9}{d':Option Nat}(h:Ty E R X o c d d')(hX:∀j d,X j d→X' j d):Ty E R X' o c d d':=by obtain⟨W,h1,h2,h3⟩:=h;exact⟨W,h1.mono hX,h2,h3⟩
theorem Ty.cat{o d d1:Nat}{c c':List i9}{d2:Option Nat}(h1:Ty E R X o c d (some d1))(h2:Ty E R X (o+c.length) c' d1 d2):Ty E R X o (c++c') d d2:=by obtain⟨W1,a1,a2,a3⟩:=h1;obtain⟨W2,b1,b2,b3⟩:=h2;obtain⟨W,w1,w2,w3,w4⟩:=a1.cat b1 (fun d h=>by rw[a3]at h;cases h;exact b2);refine⟨W,w1,w4 _ a2,?_⟩;rw[o5,show o+(c.length+c'.length)=o+c.length+c'.length by omega,w3 _ (by omega),b3]
theorem Ty.dead{o d d1:Nat}{c c':List i9}{d2:Option Nat}(h1:Ty E R X o c d none)(h2:Ty E R X (o+c.length) c' d1 d2):Ty E R X o (c++c') d d2:=by obtain⟨W1,a1,a2,a3⟩:=h1;obtain⟨W2,b1,b2,b3⟩:=h2;obtain⟨W,w1,w2,w3,w4⟩:=a1.cat b1 (fun d h=>by rw[a3]at h;cases h);refine⟨W,w1,w4 _ a2,?_⟩;rw[o5,show o+(c.length+c'.length)=o+c.length+c'.length by omega,w3 _ (by omega),b3]
theorem Ty.out{o d:Nat}{c:List i9}(h:Ty E R X o c d none)(d':Nat):Ty E R X o c d (some d'):=by
 obtain⟨W,h1,h2,h3⟩:=h;have hne:c.length≠0:=fun e=>by rw[e,Nat.add_zero,h2]at h3;cases h3
 refine⟨fun j=>if j=o+c.length then some d' else W j,fun i x e hx he=>?_,?_,if_pos rfl⟩
 ·have hi:i<c.length:=(l9.1 hx).1;simp only at he;rw[if_neg (by omega)]at he;obtain⟨a,b⟩:=h1 i x e hx he;refine⟨a,fun j d' hs=>?_⟩;rcases b j d' hs with h|⟨k,e,k1,k2,k3⟩
  ·exact .inl h
  ·refine .inr ⟨k,e,k1,k2,?_⟩;simp only;by_cases hk:k=o+c.length
   ·subst hk;rw[h3]at k3;cases k3
   ·rw[if_neg hk];exact k3
 ·simp only;rw[if_neg (by omega)];exact h2
theorem Ty.step{o d:Nat}{x:i9}(h:Q5 E R x d)(hx:x.Op≠11∧x.Op≠12∧x.Op≠13∧x.Op≠14)(d':Nat)(hd:d'=d-(H3 E x).1+(H3 E x).2):Ty E R X o [x] d (some d'):=by
 refine⟨fun j=>if j=o then some d else some d',Seg.one (fun e he=>?_),if_pos rfl,if_neg (by simp)⟩;simp only[if_true,F8]at he;subst he;refine⟨h,fun j e hs=>?_⟩;rcases hs with⟨h1,_⟩|⟨h1,_⟩|⟨_,h2,h3⟩
 ·omega
 ·omega
 ·exact .inr ⟨by omega,by rw[if_neg (by omega),hd,h3]⟩
theorem Ty.jump{o d:Nat}{x:i9}(h:Q5 E R x d)(hx:x.Op≠11)(d':Nat)(hd:d'=d-(H3 E x).1+(H3 E x).2)(hX:∀e,(x.Op=12→e=d-(H3 E x).1)→(x.Op=13∨x.Op=14→e=d)→(x.Op=12∨x.Op=13∨x.Op=14)→X x.A e):Ty E R X o [x] d (some d'):=by
 refine⟨fun j=>if j=o then some d else some d',Seg.one (fun e he=>?_),if_pos rfl,if_neg (by simp)⟩;simp only[if_true,F8]at he;subst he;refine⟨h,fun j e hs=>?_⟩;rcases hs with⟨h1,h2,h3⟩|⟨h1,h2,h3⟩|⟨_,h2,h3⟩
 ·left;rw[h2];exact hX e (fun _=>h3) (fun h=>by omega) (by omega)
 ·left;rw[h2];exact hX e (fun h=>by omega) (fun _=>h3) (by omega)
 ·exact .inr ⟨by omega,by rw[if_neg (by omega),hd,h3]⟩
theorem Ty.stop{o d:Nat}{x:i9}(h:Q5 E R x d)(hx:x.Op=11∨x.Op=25∨x.Op=26)(hX:x.Op=11→X x.A (d-(H3 E x).1)):Ty E R X o [x] d none:=by
 refine⟨fun j=>if j=o then some d else none,Seg.one (fun e he=>?_),if_pos rfl,if_neg (by simp)⟩;simp only[if_true,F8]at he;subst he;refine⟨h,fun j e hs=>?_⟩;rcases hs with⟨h1,h2,h3⟩|⟨h1,_⟩|⟨h1,_⟩
 ·left;rw[h2,h3];exact hX (by omega)
 ·omega
 ·omega
end
section
structure Vn(l:List d7)(P:s9)(M:List l4)(T:List r9)(E:List o0):Prop where
 may:J6 l
 ent:∀(i:Nat) (f:t9),P.As[i]? =some f→∃e,E[i]? =some e∧e.Ps=f.Ps∧e.By=if f.By=0 then 0 else 1
def ExF(l:List d7)(P:s9)(M:List l4)(T:List r9)(i:Nat):Prop:=EF l P M i∧(kd l i=32→∃m,M[i]? =some m∧TKd T m.Ts (kd l (i+1)))
def tyz(M:List l4)(b:Nat):Bool:=match M[b]? with|some m=>decide (m.Ts=0)|none=>false
def nv(l:List d7)(M:List l4)(b:Nat):Nat:=if kd l b=27∧tyz M b=true then 0 else 1
def nvs(l:List d7)(M:List l4)(ks:List Nat):Nat:=(ks.map (nv l M)).sum
theorem Y4(l:List d7)(M:List l4)(k:Nat)(ks:List Nat):nvs l M (k::ks)=nv l M k+nvs l M ks:=by unfold nvs;rw[List.map_cons,List.sum_cons]
theorem Ai(l:List d7)(M:List l4):nvs l M []=0:=rfl
theorem U8{l:List d7}{M:List l4}{b:Nat}(h:kd l b≠27∨∃m,M[b]? =some m∧m.Ts≠0):nv l M b=1:=by
 unfold nv;rw[if_neg];rintro⟨h1,h2⟩;rcases h with h|⟨m,h3,h4⟩
 ·exact h h1
 ·unfold tyz at h2;rw[h3]at h2;exact h4 (D6 h2)
theorem JM{l:List d7}{M:List l4}:∀{ks:List Nat},(∀k∈ks,nv l M k=1)→nvs l M ks=ks.length
 | [],_=>rfl
 |k::ks,h=>by rw[Y4,h k E2,JM (fun k hk=>h k (F7 _ hk)),F3];omega
theorem IG(E:List o0){x:i9}(h:x.Op≠19∧x.Op≠20):H3 E x=(Ot.getD x.Op.toNat 0,Pn.getD x.Op.toNat 0):=by unfold H3;rw[if_neg h.1,if_neg (fun c=>h.2 c.1),if_neg (fun c=>h.2 c.1)]
section
variable{l:List d7}{P:s9}{M:List l4}{T:List r9}{E:List o0}{R:Int}{X:Int→Nat→Prop}
theorem Ty.close{X':Int→Nat→Prop}{o d e:Nat}{c:List i9}(h:Ty E R X' o c d (some e))(hX:∀j dd,X' j dd→X j dd∨j=((o+c.length:Nat):Int)∧dd=e∨j=(o:Int)∧dd=d):Ty E R X o c d (some e):=by
 obtain⟨W,h1,h2,h3⟩:=h;refine⟨W,h1.close (fun j dd hj=>?_),h2,h3⟩;rcases hX j dd hj with h|⟨ha,hb⟩|⟨ha,hb⟩
 ·exact .inl h
 ·exact .inr ⟨o+c.length,ha,by omega,i8 _,by rw[hb];exact h3⟩
 ·exact .inr ⟨o,ha,i8 _,by omega,by rw[hb];exact h2⟩
theorem b4O(hT:Vn l P M T E){b st:Nat}{x:d7}(hx:l[b]? =some x)(hk:21≤x.Ks∧x.Ks≤32)(hn:x.Ks=31→x.Ns<14)(hs:x.Cs=(st:Int)-(b+1)){ks:List Nat}(hks:Kc l (b+1) st ks){m:l4}(hm:M[b]? =some m)(hE:ExF l P M T b){S S2:List Bs}{op arg:Int}(hl:W8 T x m S=(op,arg,S2))(ln:Int):H3 E ⟨op,arg,ln⟩=(nvs l M (if x.Ks=32 then ks.tail else ks),nv l M b)∧op≠1∧op≠11∧op≠12∧op≠13∧op≠14∧op≠25∧op≠26:=by
 obtain⟨st',ks',t1,t2,t3,t4,t5,t6,t7⟩:=hT.may.nd b x hx;have est:st'=st:=(by omega);subst est;have:=t5.det hks;subst this;have hkd:=u0 hx;have ones:∀k∈(if x.Ks=32 then ks'.tail else ks'),nv l M k=1:=fun k hkm=>by
  obtain⟨lo,h1,h2,h3⟩:=Pg t5 t6 hk;have hk2:=h3 k hkm;have hmem:k∈ks':=by
   split at hkm
   ·exact List.mem_of_mem_tail hkm
   ·exact hkm
  exact U8 (.inr (hE.1.kid (by rw[hkd];exact hk.1) x st' ks' hx t1 t5 k hmem hk2.1))
 rw[JM ones];have n1:x.Ks≠27→nv l M b=1:=fun h=>U8 (.inl (by rw[hkd];exact h));unfold W8 at hl;by_cases c27:x.Ks=27
 ·rw[if_neg (by omega:¬x.Ks=32)];rw[if_neg (by omega:¬x.Ks=21),if_neg (by omega:¬x.Ks=22),if_neg (by omega:¬x.Ks=23),if_neg (by omega:¬x.Ks=24),if_neg (by omega:¬x.Ks=26),if_pos c27]at hl;obtain⟨m',e1,e2,e3⟩:=hE.1.k27 (by rw[hkd];exact c27) x st' ks' hx t1 t5;rw[hm]at e1;cases e1;by_cases c0:m.Ds<0
  ·rw[if_pos c0]at hl;cases hl;obtain⟨r1,r2,r3⟩:=e2 c0;rw[U8 (.inr ⟨m,hm,r3⟩),r2];refine⟨?_,by decide,by decide,by decide,by decide,by decide,by decide,by decide⟩;have hr:m.Ds= -1∨m.Ds= -2∨m.Ds= -3∨m.Ds= -4∨m.Ds= -5∨m.Ds= -6∨m.Ds= -7∨m.Ds= -8:=(by omega);rcases hr with h|h|h|h|h|h|h|h<;>rw[h]<;>rfl
  ·rw[if_neg c0]at hl;cases hl;obtain⟨f,f1,f2,f3⟩:=e3 (by omega);obtain⟨e,g1,g2,g3⟩:=hT.ent _ f f1;refine⟨?_,by decide,by decide,by decide,by decide,by decide,by decide,by decide⟩;unfold H3;rw[if_pos rfl,g1];simp only;rw[g2,f2,g3,B8];congr 1;unfold nv tyz;rw[hm];simp only;by_cases cz:f.By=0
   ·rw[if_pos cz,if_pos ⟨by rw[hkd];exact c27,by rw[f3];exact f9 cz⟩];rfl
   ·rw[if_neg cz,if_neg (fun c=>cz (by have:=D6 c.2;rw[←f3];exact this))];rfl
 rw[n1 c27];have leaf:x.Ks≤26→ks'=[]:=fun h=>Il (t6.kr (by omega)).1;by_cases c21:x.Ks=21
 ·rw[if_pos c21]at hl;cases hl;rw[leaf (by omega),if_neg (by omega:¬x.Ks=32)];exact⟨rfl,by decide,by decide,by decide,by decide,by decide,by decide,by decide⟩
 rw[if_neg c21]at hl;by_cases c22:x.Ks=22
 ·rw[if_pos c22]at hl;cases hl;rw[leaf (by omega),if_neg (by omega:¬x.Ks=32)];exact⟨rfl,by decide,by decide,by decide,by decide,by decide,by decide,by decide⟩
 rw[if_neg c22]at hl;by_cases c23:x.Ks=23
 ·rw[if_pos c23]at hl;cases hl;rw[leaf (by omega),if_neg (by omega:¬x.Ks=32)];exact⟨rfl,by decide,by decide,by decide,by decide,by decide,by decide,by decide⟩
 rw[if_neg c23]at hl;by_cases c24:x.Ks=24
 ·rw[if_pos c24]at hl;cases hl;rw[leaf (by omega),if_neg (by omega:¬x.Ks=32)];exact⟨rfl,by decide,by decide,by decide,by decide,by decide,by decide,by decide⟩
 rw[if_neg c24]at hl;by_cases c26:x.Ks=26
 ·rw[if_pos c26]at hl;cases hl;rw[leaf (by omega),if_neg (by omega:¬x.Ks=32)];exact⟨rfl,by decide,by decide,by decide,by decide,by decide,by decide,by decide⟩
 rw[if_neg c26,if_neg c27]at hl;by_cases c28:x.Ks=28
 ·rw[if_pos c28]at hl;cases hl;have:=(B7 (t6.k28 (.inl c28))).1;rw[if_neg (by omega:¬x.Ks=32),this];exact⟨rfl,by decide,by decide,by decide,by decide,by decide,by decide,by decide⟩
 rw[if_neg c28]at hl;by_cases c29:x.Ks=29
 ·rw[if_pos c29]at hl;cases hl;have:=(B7 (t6.k12 (.inr (.inl c29)))).1;rw[if_neg (by omega:¬x.Ks=32),this];exact⟨rfl,by decide,by decide,by decide,by decide,by decide,by decide,by decide⟩
 rw[if_neg c29]at hl;by_cases c30:x.Ks=30
 ·rw[if_pos c30]at hl;cases hl;have:=(B7 (t6.k12 (.inr (.inr c30)))).1;rw[if_neg (by omega:¬x.Ks=32),this];exact⟨rfl,by decide,by decide,by decide,by decide,by decide,by decide,by decide⟩
 rw[if_neg c30]at hl;by_cases c31:x.Ks=31
 ·rw[if_pos c31]at hl;cases hl;have:=(B7 (t6.k28 (.inr c31))).1;rw[if_neg (by omega:¬x.Ks=32),this];exact⟨rfl,by decide,by decide,by decide,by decide,by decide,by decide,by decide⟩
 rw[if_neg c31]at hl;by_cases c32:x.Ks=32
 ·rw[if_pos c32]at hl;rw[if_pos c32];obtain⟨m',m1,m2⟩:=hE.2 (by rw[hkd];exact c32);rw[hm]at m1;cases m1;have hfk:∀k,fkd l ks'=k→k≠0→kd l (b+1)=k:=fun k h h0=>by
   cases ks' with
   |nil=>exact absurd h.symm h0
   |cons k0 kr=>obtain⟨_,rfl,_⟩:=t5.hd;exact h
  unfold Zt at hl;rcases t6.k32 c32 with⟨hS,hf⟩|⟨hS,hf⟩
  ·obtain⟨y,y1,y2⟩:=m2.1 (hfk 19 hf (by decide));rw[y1]at hl;simp only[y2,if_true]at hl;cases hl;have:=(B7 hS).1;rw[List.length_tail,this];exact⟨rfl,by decide,by decide,by decide,by decide,by decide,by decide,by decide⟩
  ·obtain⟨y,y1,y2⟩:=m2.2 (hfk 20 hf (by decide));rw[y1]at hl;simp only[y2]at hl;rw[if_neg (by decide)]at hl;cases hl;have:=(B7 hS).1;rw[List.length_tail,this];exact⟨rfl,by decide,by decide,by decide,by decide,by decide,by decide,by decide⟩
 ·have c25:x.Ks=25:=(by omega);rw[if_neg c32]at hl;cases hl;rw[leaf (by omega),if_neg c32];exact⟨rfl,by decide,by decide,by decide,by decide,by decide,by decide,by decide⟩
theorem rB(hT:Vn l P M T E){o:Nat}{ks:List Nat}{S S':List Bs}{c:List i9}(h:GX l M T o ks S c S'):∀(X:Int→Nat→Prop) (lo hi:Nat),Kc l lo hi ks→(∀i,lo≤i→i<hi→ExF l P M T i)→∀d,Ty E R X o c d (some (d+nvs l M ks)):=by
 induction h with
 |nil o S=>intro X lo hi hK hF d;exact Ty.nil o d
 |log o b st k0 k1 ks x S S1 S2 S3 a c d hx hk hn hs hks h0 h1 h2 i0 i1 i2=>
  intro X lo hi hK hF dd;obtain⟨rfl,y,q,hy,hys,hq1,hq2,hrest⟩:=hK.first
  rw[hx]at hy;cases hy;have:q=st:=(by omega);subst this;obtain⟨st',ks',t1,t2,t3,t4,t5,t6,t7⟩:=hT.may.nd b x hx;have est:st'=q:=(by omega);subst est;have:=t5.det hks;subst this;have hkd:=u0 hx;obtain⟨e1,e2⟩:=B7 (t6.k28 (.inr hk));have s0:=D7 (e2 0 (by simp) (by simp));have s1:=D7 (e2 1 (by simp) (by simp));simp only[H1,Z2]at s0 s1;have hEb:=(hF b (i8 _) (by omega)).1;have v0:=U8 (l:=l) (.inr (hEb.kid (by omega) x st' [k0,k1] hx t1 t5 k0 (by simp) s0.1));have v1:=U8 (l:=l) (.inr (hEb.kid (by omega) x st' [k0,k1] hx t1 t5 k1 (by simp) s1.1));have vb:nv l M b=1:=U8 (.inl (by omega));obtain⟨q0,rfl,hq01,K0,hr0⟩:=hks.hd;obtain⟨q1,rfl,hq11,K1,hr1⟩:=hr0.hd;have eq1:q1=st':=(by cases hr1;rfl);subst eq1;have hn31:=t7.n31 hk;have hop:x.Ns-1=13∨x.Ns-1=14:=(by omega);have heff:H3 E ⟨x.Ns-1,((o+a.length+1+c.length:Nat):Int),x.Ls⟩=(1,0):=by rw[IG E (by simp only;omega)];simp only;rcases hop with h|h<;>rw[h]<;>rfl
  have hX:∀j e,X j e→(X j e∨j=((o+a.length+1+c.length:Nat):Int)∧e=dd+1):=fun _ _ h=>.inl h;have ha:=i0 (fun j e=>X j e∨j=((o+a.length+1+c.length:Nat):Int)∧e=dd+1) _ _ K0 (fun i i1 i2=>hF i (by omega) (by omega)) dd;rw[Y4,Ai,v0]at ha;have hj:Ty E R (fun j e=>X j e∨j=((o+a.length+1+c.length:Nat):Int)∧e=dd+1) (o+a.length) [(⟨x.Ns-1,((o+a.length+1+c.length:Nat):Int),x.Ls⟩:i9)] (dd+1) (some dd):=by
   refine Ty.jump ⟨by rw[heff];omega,fun h=>?_,fun h=>?_,fun h=>?_⟩ (fun h=>?_) dd (by rw[heff];omega) (fun e h12 h13 _=>.inr ⟨rfl,h13 (by simp only;omega)⟩)
   all_goals simp only at h;omega
  have hc:=i1 (fun j e=>X j e∨j=((o+a.length+1+c.length:Nat):Int)∧e=dd+1) _ _ K1 (fun i i1 i2=>hF i (by omega) (by omega)) dd;rw[Y4,Ai,v1]at hc;have hac:=Ty.cat (Ty.cat ha hj) (by simpa[Nat.add_assoc]using hc);have hcl:=hac.close (X:=X) (fun j e h=>by
   rcases h with h|⟨h1,h2⟩
   ·exact .inl h
   ·refine .inr (.inl ⟨?_,h2⟩);rw[h1];simp only[o5,y4];omega)
  have hd:=i2 X _ _ hrest (fun i i1 i2=>hF i (by omega) i2) (dd+1);have hall:=Ty.cat hcl (by simpa[Nat.add_assoc,Nat.add_comm,Nat.add_left_comm]using hd);rw[Y4,vb];have e:a++(⟨x.Ns-1,((o+a.length+1+c.length:Nat):Int),x.Ls⟩::(c++d))=a++[(⟨x.Ns-1,((o+a.length+1+c.length:Nat):Int),x.Ls⟩:i9)]++c++d:=(by simp);rw[e];exact hall
 |oth o b st ks' es ks x m S S1 S2 S3 op arg a d hx hk hn hs hks hes hm h0 hl h2 i0 i2=>
  intro X lo hi hK hF dd;obtain⟨rfl,y,q,hy,hys,hq1,hq2,hrest⟩:=hK.first
  rw[hx]at hy;cases hy;have:q=st:=(by omega);subst this;obtain⟨st',ks2,t1,t2,t3,t4,t5,t6,t7⟩:=hT.may.nd b x hx;have est:st'=q:=(by omega);subst est;have:=t5.det hks;subst this;obtain⟨lo',hlo,hKe,hke⟩:=Pg t5 t6 hk;rw[←hes]at hKe;obtain⟨f1,f2,f3,f4,f5,f6,f7,f8⟩:=b4O (E:=E) hT hx hk hn t1 t5 hm (hF b (i8 _) (by omega)) hl x.Ls;rw[←hes]at f1;have ha:=i0 X _ _ hKe (fun i i1 i2=>hF i (by omega) (by omega)) dd;have hj:Ty E R X (o+a.length) [(⟨op,arg,x.Ls⟩:i9)] (dd+nvs l M es) (some (dd+nv l M b)):=
   Ty.step ⟨by rw[f1];simp only;omega,fun h=>absurd h f2,fun h=>absurd h f7,fun h=>absurd h f8⟩ ⟨f3,f4,f5,f6⟩ _ (by rw[f1];simp only;omega)
  have hd:=i2 X _ _ hrest (fun i i1 i2=>hF i (by omega) i2) (dd+nv l M b);have hall:=Ty.cat (Ty.cat ha hj) (by simpa[Nat.add_assoc]using hd);rw[Y4];have e:a++((⟨op,arg,x.Ls⟩:i9)::d)=a++[(⟨op,arg,x.Ls⟩:i9)]++d:=(by simp);rw[e];exact hall
end
end
end Go.Proofs.YtabmahknlebhpaaGreat
