/- Parts of the proof. -/
import Derived.Test.YtihbbcealnnpiaaGreatDoorHmGr3
import Derived.Test.YtihbbcealnnpiaaGreatDoorHmQA
import Derived.Test.YtihbbcealnnpiaaGreatDoorHmQL
set_option linter.unusedVariables false
namespace Go.Proofs.YtihbbcealnnpiaaGreatDoor
section
set_option maxRecDepth 100000
theorem WK:vJ d5=some ((true,()),()):=a4H (i:=.l16_awake) (r:=((true,()),())) (by kernel_rfl)
theorem b0v{l:List d7}{M:List i8}{T:List o0}(hM:J9 l)(hl:l.length≤30000){A:Nat}{fs:List t8}{S S':List Bs}{I:List i6}{E:List y7}(h:GC l M T A fs S I E S'):I.length≤100000*fs.length∧E.length=fs.length∧S'.length≤S.length+30000*fs.length:=by
 induction h with
 |nil=>exact⟨by simp,rfl,by simp⟩
 |cons A k st bp f fs S S1 S2 x ks ks2 a I E hn hx hs hks hb hbd h0 h2 ih=>obtain⟨i1,i2,i3⟩:=ih;obtain⟨y,q,hy,hys,hK⟩:=hbd;obtain⟨q',ks',t1,t2,t3,t4,t5,t6,t7⟩:=hM.nd bp y hy;have e:q'=q:=(by omega);subst e;obtain⟨g1,g2,g3⟩:=h0.len _ _ hK;simp only[o9,I5];omega
theorem a0I(b:b38):∃(P:l9) (ok:Bool),zI d5 b=some ((P,ok,()),())∧(ok=true→b.length≤2000∧∃l s nr M,P=prog s M∧iR b.length l s nr M):=by
 rw[a9G,pL];by_cases c:(b.length:Int)>2000
 ·rw[f6 c];exact⟨_,_,rfl,fun h=>nomatch h⟩
 ·obtain⟨P,f,g1,g2⟩:=a9D b (by omega);rw[d9 c,f8,g1,d6];exact⟨_,_,rfl,fun h=>⟨by omega,g2 (D3 h)⟩⟩
end
end Go.Proofs.YtihbbcealnnpiaaGreatDoor
