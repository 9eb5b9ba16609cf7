/- Parts of the proof. -/
import Derived.Test.YtihbbcealnnpiaaGreatDoorGmRs4
set_option linter.unusedVariables false
namespace Go.Proofs.YtihbbcealnnpiaaGreatDoor
theorem gI{α:Type}{xs:List α}{i:Nat}{x:α}(h:xs[i]? =some x):f5 xs (i:Int)=some x:=by obtain⟨h1,h2⟩:=l3.1 h;rw[l5 h1,h2]
def Ao(d:Int)(x:i5):i5:=if 11≤x.Op∧x.Op≤14 then⟨x.Op,x.A+d,x.Ls⟩else x
def shf(d:Int)(r:List i5):List i5:=r.map (Ao d)
theorem Fy(d:Int):shf d []=[]:=rfl
theorem J4(d:Int)(r:List i5):(shf d r).length=r.length:=F9 _
theorem Po(d:Int)(a b:List i5):shf d (a++b)=shf d a++shf d b:=G0
theorem He(d:Int)(x:i5)(b:List i5):shf d (x::b)=Ao d x::shf d b:=rfl
theorem a19(d e:Int)(x:i5):Ao d (Ao e x)=Ao (e+d) x:=by
 unfold Ao;by_cases c:11≤x.Op∧x.Op≤14
 ·rw[if_pos c,if_pos c,if_pos c,Int.add_assoc]
 ·rw[if_neg c,if_neg c,if_neg c]
theorem qC(d e:Int)(r:List i5):shf d (shf e r)=shf (e+d) r:=by unfold shf;rw[List.map_map];exact List.map_congr_left fun x _=>a19 d e x
theorem a9k(x:i5):Ao 0 x=x:=by
 unfold Ao;split
 ·rw[Int.add_zero]
 ·rfl
theorem a7j(r:List i5):shf 0 r=r:=by
 unfold shf
 induction r with
 |nil=>rfl
 |cons x r ih=>rw[List.map_cons,a9k,ih]
theorem oZ{d op A ln:Int}(h:11≤op∧op≤14):Ao d ⟨op,A,ln⟩=⟨op,A+d,ln⟩:=if_pos h
theorem Qi{d op A ln:Int}(h:op<11∨14<op):Ao d ⟨op,A,ln⟩=⟨op,A,ln⟩:=if_neg (show¬(11≤op∧op≤14) by omega)
def JB(r:List i5):Prop:=∀x∈r,11≤x.Op→x.Op≤14→ -200000≤x.A∧x.A≤200000
theorem b3I(b:List i5)(d:Int)(hb:b.length≤1000000)(hd: -1000000≤d∧d≤1000000)(hJ:JB b):∀(n i:Nat) (out:List i5),b.length-i=n→i≤b.length→out.length+n≤1000000→jC d5 b d (i:Int) out=some ((out++shf d (b.drop i),()),()):=by
 intro n
 induction n with
 |zero=>intro i out hn hi ho;rw[NT,Xo,d9 (by omega),f6,a9Y,qP,N1 (by omega),Fy,J6]
 |succ n ih=>
  intro i out hn hi ho;have hil:i<b.length:=(by omega);have hj:=hJ b[i] (B0 hil);have j1:∀A,Te d5 b d (i:Int) b[i] A out=some ((out++((⟨b[i].Op,A,b[i].Ls⟩:i5)::shf d (b.drop (i+1))),()),()):=by intro A;rw[b1b,qU,G9 (by decide) (by simp;omega),d6,a4l,iW,z8 (by omega),ih (i+1) _ (by omega) (by omega) (by simp;omega),G7];rfl
  rw[NT,Xo,f7 (by omega),f9,l5 hil,d6,j1,j1,L4 hil,He];unfold Ao;by_cases c1:11≤b[i].Op
  ·rw[f7 (show b[i].Op≥11 from c1),f9];by_cases c2:b[i].Op≤14
   ·have:=hj c1 c2;rw[f7 c2,f9,if_pos ⟨c1,c2⟩,wrap64 (by omega) (by omega)]
   ·rw[d9 c2,f6,if_neg (fun h=>c2 h.2)]
  ·rw[d9 (show¬b[i].Op≥11 from c1),f6,if_neg (fun h=>c1 h.1)]
theorem Il{a b:List i5}(h:a.length+b.length≤1000000)(hJ:JB b):E6 d5 a b=some ((a++shf a.length b,()),()):=by
 have hm:CT d5 b (a.length:Int)=some ((shf a.length b,()),()):=by rw[a6q,kZ];exact b3I b _ (by omega) ⟨by omega,by omega⟩ hJ _ 0 [] rfl (D0 _) (by simp;omega)
 rw[b2N,rE,G9 (by decide) (by simp;omega),d6,hm,d6,O0];simp only;rw[G9 (by decide) (by rw[J4];omega),d6]
theorem JB.one{op A ln:Int}(h:(op<11∨14<op)∨(-200000≤A∧A≤200000)):JB [(⟨op,A,ln⟩:i5)]:=by intro x hx;rw[N9]at hx;subst hx;intro h1 h2;simp only at h1 h2⊢;omega
theorem JB.nil:JB []:=fun x hx=>nomatch hx
def JI(o n:Nat)(c:List i5):Prop:=∀x∈c,11≤x.Op→x.Op≤14→(o:Int)≤x.A∧x.A≤n
theorem JI.mono{o n o' n':Nat}{c:List i5}(h:JI o n c)(h1:o'≤o)(h2:n≤n'):JI o' n' c:=fun x hx a b=>by have:=h x hx a b;omega
theorem JI.app{o n:Nat}{a c:List i5}(h:JI o n a)(h':JI o n c):JI o n (a++c):=fun x hx=>(A8.1 hx).elim (h x) (h' x)
theorem JI.cons{o n:Nat}{y:i5}{c:List i5}(h:(y.Op<11∨14<y.Op)∨((o:Int)≤y.A∧y.A≤n))(h':JI o n c):JI o n (y::c):=fun x hx=>(F8.1 hx).elim (fun e=>by subst e;omega) (h' x)
theorem JI.nil{o n:Nat}:JI o n []:=fun x hx=>nomatch hx
theorem JI.jb{o n:Nat}{c:List i5}(h:JI o n c)(hn:n≤200000)(hc:o≤n):JB (shf (-o) c):=by
 intro x hx h1 h2;unfold shf at hx;obtain⟨y,hy,rfl⟩:=List.mem_map.1 hx;unfold Ao at h1 h2⊢;by_cases c:11≤y.Op∧y.Op≤14
 ·have:=h y hy c.1 c.2;rw[if_pos c];simp only;omega
 ·rw[if_neg c]at h1 h2;exact absurd ⟨h1,h2⟩ c
theorem SD{T:List o4}{x:d7}{m:i8}{S S2:List Bs}{op arg:Int}(h:R1 T x m S=(op,arg,S2)):op<11∨14<op:=by
 have e:op=(R1 T x m S).1:=(by rw[h]);have g:(Jn T m.Ts).1=22∨(Jn T m.Ts).1=21:=by
  unfold Jn;split
  ·simp only;split
   ·exact .inl rfl
   ·exact .inr rfl
  ·exact .inr rfl
 rw[e];unfold R1
 repeat' split
 all_goals first|(simp only;omega)|(simp only at*;omega)
theorem GX.ji{l:List d7}{M:List i8}{T:List o4}{o:Nat}{ks:List Nat}{S S':List Bs}{c:List i5}(h:GX l M T o ks S c S'):JI o (o+c.length) c:=by
 induction h with
 |nil o S=>exact .nil
 |log o b st k0 k1 ks x S S1 S2 S3 a c d hx hk hn hs hks h0 h1 h2 i0 i1 i2=>simp only[o0,C9];exact(i0.mono (by omega) (by omega)).app (.cons (.inr (by simp only;omega)) ((i1.mono (by omega) (by omega)).app (i2.mono (by omega) (by omega))))
 |oth o b st ks' es ks x m S S1 S2 S3 op arg a d hx hk hn hs hks hes hm h0 hl h2 i0 i2=>simp only[o0,C9];exact(i0.mono (by omega) (by omega)).app (.cons (.inl (SD hl)) (i2.mono (by omega) (by omega)))
theorem b1Y(x y:d7)(m:i8):(Hz x y m).Op<11∨14<(Hz x y m).Op:=by
 unfold Hz
 repeat' split
 all_goals(simp only;omega)
theorem X8.ji{l:List d7}{M:List i8}{b:Nat}{x:d7}{m:i8}{es:List Nat}{t:List i5}(h:X8 l M b x m es t)(o n:Nat):JI o n t:=by
 cases h with
 |set st k0 k1 y m0 is hk hs hks hy hyk hm0 hi=>exact .cons (.inl (b1Y x y m0)) .nil
 |run=>exact .nil
 |_=>exact .cons (.inl (by simp only;omega)) .nil
theorem GS.ji{l:List d7}{M:List i8}{T:List o4}{o:Nat}{ks:List Nat}{S S':List Bs}{c:List i5}(h:GS l M T o ks S c S'):JI o (o+c.length) c:=by
 induction h with
 |nil o S=>exact .nil
 |smp o b ks es x m S S1 S2 a t d hx hm hT h0 h2 i2=>simp only[o0,C9];exact .cons (.inl (by simp only;omega)) ((h0.ji.mono (by omega) (by omega)).app ((hT.ji _ _).app (i2.mono (by omega) (by omega))))
 |if2 o b st k1 ks ks1 x m S S1 S2 S3 a c d hx hm hk hs hks hb h0 h1 h2 i1 i2=>simp only[o0,C9];exact .cons (.inl (by simp only;omega)) ((h0.ji.mono (by omega) (by omega)).app (.cons (.inr (by simp only;omega)) ((i1.mono (by omega) (by omega)).app (i2.mono (by omega) (by omega)))))
 |if3 o b st k1 k2 ks ks1 ks2 x m S S1 S2 S3 S4 a c e d hx hm hk hs hks hb1 hb2 h0 h1 h3 h2 i1 i3 i2=>simp only[o0,C9];exact .cons (.inl (by simp only;omega)) ((h0.ji.mono (by omega) (by omega)).app (.cons (.inr (by simp only;omega)) ((i1.mono (by omega) (by omega)).app (.cons (.inr (by simp only;omega)) ((i3.mono (by omega) (by omega)).app (i2.mono (by omega) (by omega)))))))
 |whl o b st k1 ks ks1 x m S S1 S2 S3 a c d hx hm hk hs hks hb h0 h1 h2 i1 i2=>simp only[o0,C9];exact .cons (.inl (by simp only;omega)) ((h0.ji.mono (by omega) (by omega)).app (.cons (.inr (by simp only;omega)) ((i1.mono (by omega) (by omega)).app (.cons (.inr (by simp only;omega)) (i2.mono (by omega) (by omega))))))
def lst(t:Bs):List Bs→Int→Int→Int
 | [],_,n=>n
 |s::S,i,n=>lst t S (i+1) (if s=t then i else n)
theorem a7Y{t:Bs}:∀{S:List Bs} (i n:Int),t∉S→lst t S i n=n:=by
 intro S
 induction S with
 |nil=>intro i n _;rfl
 |cons s S ih=>intro i n h;rw[F8,not_or]at h;rw[lst,if_neg (fun e=>h.1 e.symm),ih _ _ h.2]
theorem a38{t:Bs}:∀{S:List Bs} (i n:Int),S.Nodup→lst t S i n=match S.findIdx? (fun s=>decide (t=s))with
  |some j=>i+j
  |none=>n:=by
 intro S
 induction S with
 |nil=>intro i n _;rfl
 |cons s S ih=>
  intro i n h;rw[List.nodup_cons]at h;rw[lst,List.findIdx?_cons];by_cases e:s=t
  ·subst e;rw[if_pos rfl,a7Y _ _ h.1,f7 rfl,if_pos rfl];simp
  ·rw[if_neg e,ih _ _ h.2,d9 (fun h=>e h.symm)];cases S.findIdx? (fun s=>decide (t=s))with
   |none=>rfl
   |some j=>show i+1+(j:Int)=i+((j+1:Nat):Int);omega
theorem a2L{S:List Bs}(t:Bs)(h:S.Nodup):(Y3 S t).2.Nodup:=by
 unfold Y3;split
 ·exact h
 ·rename_i e;rw[List.findIdx?_eq_none_iff]at e;simp only;rw[List.nodup_append];refine⟨h,List.nodup_cons.2 ⟨by simp,List.nodup_nil⟩,fun a ha b hb=>?_⟩;rw[N9]at hb;subst hb;intro e2;subst e2;simpa using e _ ha
theorem LX{T:List o4}{x:d7}{m:i8}{S S2:List Bs}{op arg:Int}(h:R1 T x m S=(op,arg,S2))(hS:S.Nodup):S2.Nodup:=by
 have e:S2=(R1 T x m S).2.2:=(by rw[h]);have t:=a2L x.Ds hS;rw[e];unfold R1
 repeat' split
 all_goals first|exact hS|exact t
theorem GX.nodup{l:List d7}{M:List i8}{T:List o4}{o:Nat}{ks:List Nat}{S S':List Bs}{c:List i5}(h:GX l M T o ks S c S'):S.Nodup→S'.Nodup:=by
 induction h with
 |nil o S=>exact fun h=>h
 |log o b st k0 k1 ks x S S1 S2 S3 a c d hx hk hn hs hks h0 h1 h2 i0 i1 i2=>exact fun h=>i2 (i1 (i0 h))
 |oth o b st ks' es ks x m S S1 S2 S3 op arg a d hx hk hn hs hks hes hm h0 hl h2 i0 i2=>exact fun h=>i2 (LX hl (i0 h))
theorem GS.nodup{l:List d7}{M:List i8}{T:List o4}{o:Nat}{ks:List Nat}{S S':List Bs}{c:List i5}(h:GS l M T o ks S c S'):S.Nodup→S'.Nodup:=by
 induction h with
 |nil o S=>exact fun h=>h
 |smp o b ks es x m S S1 S2 a t d hx hm hT h0 h2 i2=>exact fun h=>i2 (h0.nodup h)
 |if2 o b st k1 ks ks1 x m S S1 S2 S3 a c d hx hm hk hs hks hb h0 h1 h2 i1 i2=>exact fun h=>i2 (i1 (h0.nodup h))
 |if3 o b st k1 k2 ks ks1 ks2 x m S S1 S2 S3 S4 a c e d hx hm hk hs hks hb1 hb2 h0 h1 h3 h2 i1 i3 i2=>exact fun h=>i2 (i3 (i1 (h0.nodup h)))
 |whl o b st k1 ks ks1 x m S S1 S2 S3 a c d hx hm hk hs hks hb h0 h1 h2 i1 i2=>exact fun h=>i2 (i1 (h0.nodup h))
end Go.Proofs.YtihbbcealnnpiaaGreatDoor
