/- Parts of the proof. -/
import Derived.Test.YtabmahknlebhpaaGreatVmXI
set_option linter.unusedVariables false
namespace Go.Proofs.YtabmahknlebhpaaGreat
abbrev at0(w:List Int)(i:Nat):Int:=w.getD i 0
def V0(w:List Int)(i j:Nat):List Int:=(w.set i (at0 w j)).set j (at0 w i)
theorem Fg(w:List Int)(i j:Nat):(V0 w i j).length=w.length:=by simp[V0]
theorem Ag{w:List Int}{i j:Nat}(hi:i<w.length)(hj:j<w.length)(k:Nat):at0 (V0 w i j) k=if k=j then at0 w i else if k=i then at0 w j else at0 w k:=by
 simp only[at0,V0,List.getD_eq_getElem?_getD,List.getElem?_set,T4];by_cases h1:k=j
 ·subst h1;simp[hj]
 ·by_cases h2:k=i
  ·subst h2;simp[h1,Ne.symm h1,hi]
  ·simp[h1,h2,Ne.symm h1,Ne.symm h2]
theorem X5{w:List Int}{i:Nat}(h:i<w.length):w[i]=at0 w i:=by simp[at0,List.getD_eq_getElem?_getD,h]
theorem GT{w:List Int}{i j:Nat}(hi:i<w.length)(hj:j<w.length):(V0 w i j).Perm w:=by have:=List.set_set_perm hi hj;rw[X5 hi,X5 hj]at this;exact this
def P7(w:List Int)(n:Nat):Prop:=∀k,0<k→k<n→at0 w ((k-1)/2)≤at0 w k
structure Iy(w:List Int)(j:Nat):Prop where
 a:∀i,0<i→i<w.length→i≠j→at0 w ((i-1)/2)≤at0 w i
 b:∀i,0<i→i<w.length→(i-1)/2=j→0<j→at0 w ((j-1)/2)≤at0 w i
theorem Iy.step{w:List Int}{j:Nat}(h:Iy w j)(h0:0<j)(hj:j<w.length)(hl:at0 w j<at0 w ((j-1)/2)):Iy (V0 w ((j-1)/2) j) ((j-1)/2):=by
 have hp:(j-1)/2<w.length:=(by omega);have hne:(j-1)/2≠j:=(by omega);refine⟨fun i hi hil hne'=>?_,fun i hi hil hpi hp0=>?_⟩
 ·rw[Fg]at hil;rw[Ag hp hj,Ag hp hj,if_neg hne'];by_cases e1:i=j
  ·subst e1;rw[if_pos rfl,if_neg hne,if_pos rfl];omega
  ·rw[if_neg e1];by_cases e2:(i-1)/2=j
   ·rw[if_pos e2];exact h.b i hi hil e2 h0
   ·rw[if_neg e2];have:=h.a i hi hil e1;by_cases e3:(i-1)/2=(j-1)/2
    ·rw[if_pos e3];rw[e3]at this;omega
    ·rw[if_neg e3];exact this
 ·rw[Fg]at hil;have q1:((j-1)/2-1)/2≠j:=(by omega);have q2:((j-1)/2-1)/2≠(j-1)/2:=(by omega);rw[Ag hp hj,Ag hp hj,if_neg q1,if_neg q2];have hpp:=h.a ((j-1)/2) hp0 hp hne;by_cases e1:i=j
  ·subst e1;rw[if_pos rfl];exact hpp
  ·rw[if_neg e1,if_neg (by omega:i≠(j-1)/2)];have:=h.a i hi hil e1;rw[hpi]at this;omega
theorem Iy.done{w:List Int}{j:Nat}(h:Iy w j)(hl:j=0∨at0 w ((j-1)/2)≤at0 w j):P7 w w.length:=fun k hk hkl=>by
 by_cases e:k=j
 ·subst e;rcases hl with hl|hl
  ·omega
  ·exact hl
 ·exact h.a k hk hkl e
structure Kz(w:List Int)(n i:Nat):Prop where
 a:∀k,0<k→k<n→(k-1)/2≠i→at0 w ((k-1)/2)≤at0 w k
 b:∀k,0<k→k<n→(k-1)/2=i→0<i→at0 w ((i-1)/2)≤at0 w k
theorem Kz.step{w:List Int}{n i j:Nat}(h:Kz w n i)(hn:n≤w.length)(h0:0<j)(hj:j<n)(hij:(j-1)/2=i)(hm:∀k,0<k→k<n→(k-1)/2=i→at0 w j≤at0 w k)(hl:at0 w j<at0 w i):Kz (V0 w i j) n j:=by
 have hi':i<w.length:=(by omega);have hj':j<w.length:=(by omega);refine⟨fun k hk hkn hne=>?_,fun k hk hkn hpk hj0=>?_⟩
 ·rw[Ag hi' hj',Ag hi' hj',if_neg hne];by_cases e1:(k-1)/2=i
  ·rw[if_pos e1];by_cases e2:k=j
   ·rw[if_pos e2];omega
   ·rw[if_neg e2,if_neg (by omega:k≠i)];exact hm k hk hkn e1
  ·rw[if_neg e1];by_cases e2:k=j
   ·subst e2;exact absurd hij e1
   ·rw[if_neg e2];by_cases e3:k=i
    ·subst e3;rw[if_pos rfl];exact h.b j h0 hj hij hk
    ·rw[if_neg e3];exact h.a k hk hkn e1
 ·rw[Ag hi' hj',Ag hi' hj',hij,if_neg (by omega:i≠j),if_pos rfl,if_neg (by omega:k≠j),if_neg (by omega:k≠i)];have:=h.a k hk hkn (by omega);rw[hpk]at this;exact this
theorem Kz.done{w:List Int}{n i:Nat}(h:Kz w n i)(hm:∀k,0<k→k<n→(k-1)/2=i→at0 w i≤at0 w k):P7 w n:=fun k hk hkn=>by
 by_cases e:(k-1)/2=i
 ·rw[e];exact hm k hk hkn e
 ·exact h.a k hk hkn e
theorem P7.top{w:List Int}{n:Nat}(h:P7 w n):∀k,k<n→at0 w 0≤at0 w k:=fun k=>by
 induction k using Nat.strongRecOn with
 |_ k ih=>
  intro hk;by_cases e:k=0
  ·subst e;exact N0 _
  ·have h1:=ih ((k-1)/2) (by omega) (by omega);have h2:=h k (by omega) hk;omega
theorem P7.take{w:List Int}{n:Nat}(h:P7 w n):P7 (w.take n) n:=fun k hk hkn=>by
 have e:∀q,q<n→at0 (w.take n) q=at0 w q:=fun q hq=>by simp[at0,List.getD_eq_getElem?_getD,hq]
 rw[e _ (by omega),e _ hkn];exact h k hk hkn
theorem P7.pop{w:List Int}(h:P7 w w.length)(h0:0<w.length):Kz (V0 w 0 (w.length-1)) (w.length-1) 0:=by refine⟨fun k hk hkn hne=>?_,fun k _ _ _ h=>absurd h (by omega)⟩;rw[Ag h0 (by omega),Ag h0 (by omega),if_neg (by omega),if_neg (by omega),if_neg (by omega),if_neg (by omega)];exact h k hk (by omega)
theorem P7.push{w:List Int}(h:P7 w w.length)(x:Int):Iy (w++[x]) w.length:=by
 have e:∀q,q<w.length→at0 (w++[x]) q=at0 w q:=fun q hq=>by simp[at0,List.getD_eq_getElem?_getD,R3 hq]
 refine⟨fun i hi hil hne=>?_,fun i hi hil hp _=>?_⟩
 ·simp at hil;rw[e _ (by omega),e _ (by omega)];exact h i hi (by omega)
 ·simp at hil;omega
end Go.Proofs.YtabmahknlebhpaaGreat
