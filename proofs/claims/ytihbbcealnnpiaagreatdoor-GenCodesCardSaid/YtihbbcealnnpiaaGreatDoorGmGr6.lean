/- Parts of the proof. -/
import Derived.Test.YtihbbcealnnpiaaGreatDoorGmGr5
import Derived.Test.YtihbbcealnnpiaaGreatDoorGmQA
import Derived.Test.YtihbbcealnnpiaaGreatDoorGmQL
set_option linter.unusedVariables false
namespace Go.Proofs.YtihbbcealnnpiaaGreatDoor
section
set_option maxRecDepth 100000
theorem WV:wM d5=some ((true,()),()):=a4G (i:=.l16_awake) (r:=((true,()),())) (by kernel_rfl)
theorem b0x{l:List d7}{M:List i8}{T:List o4}(hM:L9 l)(hl:l.length≤30000){A:Nat}{fs:List u9}{S S':List Bs}{I:List i5}{E:List B3}(h:GC l M T A fs S I E S'):I.length≤100000*fs.length∧E.length=fs.length∧S'.length≤S.length+30000*fs.length:=by
 induction h with
 |nil=>exact⟨by simp,rfl,by simp⟩
 |cons A k st bp f fs S S1 S2 x ks ks2 a I E hn hx hs hks hb hbd h0 h2 ih=>obtain⟨i1,i2,i3⟩:=ih;obtain⟨y,q,hy,hys,hK⟩:=hbd;obtain⟨q',ks',t1,t2,t3,t4,t5,t6,t7⟩:=hM.nd bp y hy;have e:q'=q:=(by omega);subst e;obtain⟨g1,g2,g3⟩:=h0.len _ _ hK;simp only[o0,C9];omega
theorem a0N(b:b36):∃(P:l7) (ok:Bool),AL d5 b=some ((P,ok,()),())∧(ok=true→b.length≤2000∧∃l s nr M,P=prog s M∧jR b.length l s nr M):=by
 rw[a9K,qQ];by_cases c:(b.length:Int)>2000
 ·rw[f7 c];exact⟨_,_,rfl,fun h=>nomatch h⟩
 ·obtain⟨P,f,g1,g2⟩:=a9H b (by omega);rw[d9 c,f6,g1,d6];exact⟨_,_,rfl,fun h=>⟨by omega,g2 (E3 h)⟩⟩
theorem a09(b:b36):AF d5 b=some ((true,()),()):=by
 obtain⟨P,ok,g1,g2⟩:=a0N b;rw[a4Y,sD,g1,d6];simp only;cases ok with
 |false=>rw[D6,f9,WV];rfl
 |true=>obtain⟨hl,l,s,nr,M,rfl,hS⟩:=g2 rfl;obtain⟨I,E,S,k1,hC⟩:=b0n hS (by omega);have hsm:=hS.small;have hfn:=hS.res.fn100;obtain⟨b1,b2,b3⟩:=b0x hS.may (by omega) hC;rw[I6]at b3;rw[A4,f6,k1,d6,a5m hS (by omega) hC,d6,a3S ⟨I,E,S⟩ (by show I.length≤_;omega) (by show E.length≤_;omega) (by show S.length≤_;omega),d6,f9,WV];rfl
theorem a8n(b:b36)(h:AF d5 b=some ((true,()),())):d5 (.l16_GenCodes b)=some ((true,()),()):=h
theorem a3C(b:b36)(h:b.length≤140737488351232):l16_GenCodes b=some true:=a8u b (a8n b (a09 b))
end
end Go.Proofs.YtihbbcealnnpiaaGreatDoor
