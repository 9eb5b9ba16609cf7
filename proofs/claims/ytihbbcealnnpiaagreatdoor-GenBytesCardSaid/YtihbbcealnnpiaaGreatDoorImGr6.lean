/- Parts of the proof. -/
import Derived.Test.YtihbbcealnnpiaaGreatDoorImRs7
import Derived.Test.YtihbbcealnnpiaaGreatDoorImQC
import Derived.Test.YtihbbcealnnpiaaGreatDoorImQL
set_option linter.unusedVariables false
set_option linter.unusedSectionVars false
namespace Go.Proofs.YtihbbcealnnpiaaGreatDoor
section
section
set_option maxRecDepth 100000
theorem ZV:yN d5=some ((true,()),()):=a6p (i:=.l16_awake) (r:=((true,()),())) (by kernel_rfl)
theorem b2M{l:List d7}{M:List l8}{T:List v7}(hM:L0 l)(hl:l.length<=30000){A:Nat}{z:List x8}{S B:List Bs}{I:List p8}{E:List D7}(h:GC l M T A z S I E B):I.length<=100000*z.length/\E.length=z.length/\B.length<=S.length+30000*z.length:=by
 induction h with
 |nil=>exact⟨by simp,rfl,by simp⟩
 |cons A k st bp f z S S1 S2 x ks ks2 a I E hn hx hs hks hb hbd h0 h2 ih=>obtain⟨Y,N,X⟩:=ih;obtain⟨y,q,H,G,F⟩:=hbd;obtain⟨J,C,U,K,L,O,Z,Q,P⟩:=hM.nd bp y H;have e:J=q:=(by omega);subst e;obtain⟨V,R,g3⟩:=h0.len _ _ F;simp only[t8,F8];omega
theorem a2e(b:b6H):∃(P:w8) (ok:Bool),CP d5 b=some ((P,ok,()),())/\(ok=true->b.length<=2000/\∃l s B M,P=prog s M/\Ni b.length l s B M):=by
 rw[b1T,sL];by_cases c:(b.length:Int)>2000
 ·rw[f6 c];exact⟨_,_,rfl,λh=>nomatch h⟩
 ·obtain⟨P,f,C,z⟩:=b1Q b (by omega);rw[d9 c,f9,C,d6];exact⟨_,_,rfl,λh=>⟨by omega,z (F3 h)⟩⟩
end
section
def Dz(x:p8):Bool:=decide (x.Op=1)
theorem b0m{l:List d7}{M:List l8}{b:Nat}{x:d7}{m:l8}{es:List Nat}{t:List p8}(h:Bj l M b x m es t):t.filter Dz=[]/\(x.Ks=7\/x.Ks=8\/x.Ks=11\/x.Ks=12\/x.Ks=13):=by
 cases h with
 |var st k0 k1 hk hs hks=>exact⟨rfl,.inl hk⟩
 |set st k0 k1 y m0 is hk hs hks hy hyk hm0 hi=>
  refine⟨?_,.inr (.inl hk)⟩;unfold Ta
  repeat' split
  all_goals rfl
 |ret0 hk hs=>exact⟨rfl,.inr (.inr (.inl hk))⟩
 |ret1 st hk hs hks=>exact⟨rfl,.inr (.inr (.inl hk))⟩
 |print st hk hs hks=>exact⟨rfl,.inr (.inr (.inr (.inl hk)))⟩
 |pop st m0 hk hs hks hm0 ht=>exact⟨rfl,.inr (.inr (.inr (.inr hk)))⟩
 |run st m0 hk hs hks hm0 ht=>exact⟨rfl,.inr (.inr (.inr (.inr hk)))⟩
section
variable{l:List d7}(hM:L0 l)(hl:l.length<=30000)(htx:∀n∈l,n.Ds.length<=65536)
include hM hl htx
end
end
section
def InB(c:s8)(i:Nat)(e:D7)(B:List p8):Prop:=c.As[i]? =some e/\∃p r:List p8,e.At=(p.length:Int)/\e.In=(B.length:Int)/\c.On=p++(B++r)
theorem InB.sum{c:s8}{i:Nat}{e:D7}{B:List p8}(h:InB c i e B):0<=e.At/\0<=e.In/\e.At+e.In<=c.On.length:=by obtain⟨_,p,r,F,C,z⟩:=h;rw[z];simp only[t8];omega
theorem InB.at{c:s8}{i:Nat}{e:D7}{B:List p8}(h:InB c i e B)(q:Nat)(z:q<B.length):c.On[(e.At+(q:Int)).toNat]? =some B[q]:=by obtain⟨_,p,r,C,G,F⟩:=h;rw[C,F,show((p.length:Int)+(q:Int)).toNat=p.length+q by omega,Fb (by omega),show p.length+q-p.length=q by omega,Ae z,w9 z]
section
variable{c:s8}(hc:c.On.length<=100000000)(hf:c.As.length<=1000)
include hc hf
end
end
end
end Go.Proofs.YtihbbcealnnpiaaGreatDoor
