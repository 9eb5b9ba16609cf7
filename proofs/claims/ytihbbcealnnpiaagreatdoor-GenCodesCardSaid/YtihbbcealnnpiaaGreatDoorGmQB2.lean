/- Parts of the proof. -/
import Derived.Test.YtihbbcealnnpiaaGreatDoorGmQC
set_option linter.unusedVariables false
namespace Go.Proofs.YtihbbcealnnpiaaGreatDoor
section
open Go.RowKit
set_option maxRecDepth 100000
set_option maxHeartbeats 4000000
noncomputable section
def eD(g:Q_g)(a:Int)(b:Int)(c:C4)(d:d7):b3V:=
 (cond (decide (b<0)) ((y9 16 ([]:List (b36)) c.1.2.1.Is).bind fun e=>((y9 16 e ([d.Ds]:List (b36))).bind fun f=>DS g a (c.1.2.1.Is.length:Int) c f)) (DS g a b c c.1.2.1.Is))
def Wh(g:Q_g)(a:Int)(b:Int)(c:C4)(d:(List (b36))):b3V:=
 ((G3 g (B8.mk c.1.2.1.P d) 5 b a).bind fun e=>Q9 g c d e.1.1)
def Zf(g:Q_g)(a:B8)(b:Int)(c:(List Int))(d:(List i5)):b3V:=
 ((f5 c 0).bind fun e=>((J7 g a.P.No e).bind fun f=>((Ot g a f.1.1).bind fun h=>((f5 c 1).bind fun j=>((V5 g h.1.2.1 j).bind fun k=>((E6 g d h.1.1).bind fun l=>((E6 g l.1.1 k.1.1).bind fun m=>((f5 c 0).bind fun n=>((f5 k.1.2.1.P.Ms n).bind fun o=>((f5 c 0).bind fun p=>((f5 k.1.2.1.P.No p).bind fun q=>(cond (decide (q.Ks=26)) ((G3 g k.1.2.1 8 o.Do b).bind fun s=>((E6 g m.1.1 s.1.1).bind fun t=>(some ((t.1.1,k.1.2.1,()),())))) (cond (decide (q.Ks=28)) ((f5 c 0).bind fun u=>((G3 g k.1.2.1 16 0 u).bind fun v=>((E6 g m.1.1 v.1.1).bind fun w=>(some ((w.1.1,k.1.2.1,()),()))))) ((f5 c 0).bind fun y=>((G3 g k.1.2.1 18 o.Do y).bind fun z=>((E6 g m.1.1 z.1.1).bind fun a1=>(some ((a1.1.1,k.1.2.1,()),()))))))))))))))))))
def Jz(g:Q_g)(a:B8)(b:Int):b3V:=
 ((J7 g a.P.No b).bind fun c=>((f5 a.P.Ms b).bind fun d=>((G3 g a 1 d.If b).bind fun e=>((f5 a.P.Ms b).bind fun f=>((f5 a.P.No b).bind fun h=>(cond (decide (h.Ks=7)) ((f5 c.1.1 1).bind fun j=>((c.1.1[(Int.toNat 1)]?).bind fun k=>((V5 g a k).bind fun l=>((E6 g e.1.1 l.1.1).bind fun m=>((G3 g l.1.2.1 8 f.Do b).bind fun n=>((E6 g m.1.1 n.1.1).bind fun o=>(some ((o.1.1,l.1.2.1,()),())))))))) (cond (decide (h.Ks=8)) ((zV g a b c.1.1 e.1.1).bind fun p=>(some ((p.1.1,p.1.2.1,()),()))) (cond (decide (h.Ks=9)) ((f5 c.1.1 0).bind fun q=>((c.1.1[(Int.toNat 0)]?).bind fun s=>((V5 g a s).bind fun t=>((f5 c.1.1 1).bind fun u=>((c.1.1[(Int.toNat 1)]?).bind fun v=>((Px g t.1.2.1 v).bind fun w=>(cond (decide ((c.1.1.length:Int)=2)) ((E6 g e.1.1 t.1.1).bind fun y=>((G3 g w.1.2.1 12 (w64 (1+(w.1.1.length:Int))) b).bind fun z=>((E6 g y.1.1 z.1.1).bind fun a1=>((E6 g a1.1.1 w.1.1).bind fun b1=>(some ((b1.1.1,w.1.2.1,()),())))))) ((f5 c.1.1 2).bind fun c1=>((c.1.1[(Int.toNat 2)]?).bind fun d1=>((Px g w.1.2.1 d1).bind fun e1=>((E6 g e.1.1 t.1.1).bind fun f1=>((G3 g e1.1.2.1 12 (w64 (2+(w.1.1.length:Int))) b).bind fun h1=>((E6 g f1.1.1 h1.1.1).bind fun j1=>((E6 g j1.1.1 w.1.1).bind fun k1=>((G3 g e1.1.2.1 11 (w64 (1+(e1.1.1.length:Int))) b).bind fun l1=>((E6 g k1.1.1 l1.1.1).bind fun m1=>((E6 g m1.1.1 e1.1.1).bind fun n1=>(some ((n1.1.1,e1.1.2.1,()),()))))))))))))))))))) (cond (decide (h.Ks=10)) ((f5 c.1.1 0).bind fun o1=>((c.1.1[(Int.toNat 0)]?).bind fun p1=>((V5 g a p1).bind fun q1=>((f5 c.1.1 1).bind fun s1=>((c.1.1[(Int.toNat 1)]?).bind fun t1=>((Px g q1.1.2.1 t1).bind fun u1=>((E6 g e.1.1 q1.1.1).bind fun v1=>((G3 g u1.1.2.1 12 (w64 (2+(u1.1.1.length:Int))) b).bind fun w1=>((E6 g v1.1.1 w1.1.1).bind fun y1=>((E6 g y1.1.1 u1.1.1).bind fun z1=>((G3 g u1.1.2.1 11 (w64 (0-(z1.1.1.length:Int))) b).bind fun a2=>((E6 g z1.1.1 a2.1.1).bind fun b2=>(some ((b2.1.1,u1.1.2.1,()),())))))))))))))) (cond (decide (h.Ks=11)) (cond (decide ((c.1.1.length:Int)=0)) ((G3 g a 26 0 b).bind fun c2=>((E6 g e.1.1 c2.1.1).bind fun d2=>(some ((d2.1.1,a,()),())))) ((f5 c.1.1 0).bind fun e2=>((c.1.1[(Int.toNat 0)]?).bind fun f2=>((V5 g a f2).bind fun h2=>((E6 g e.1.1 h2.1.1).bind fun j2=>((G3 g h2.1.2.1 25 0 b).bind fun k2=>((E6 g j2.1.1 k2.1.1).bind fun l2=>(some ((l2.1.1,h2.1.2.1,()),()))))))))) (cond (decide (h.Ks=12)) ((f5 c.1.1 0).bind fun m2=>((c.1.1[(Int.toNat 0)]?).bind fun n2=>((V5 g a n2).bind fun o2=>((E6 g e.1.1 o2.1.1).bind fun p2=>((G3 g o2.1.2.1 23 0 b).bind fun q2=>((E6 g p2.1.1 q2.1.1).bind fun s2=>(some ((s2.1.1,o2.1.2.1,()),())))))))) ((f5 c.1.1 0).bind fun t2=>((c.1.1[(Int.toNat 0)]?).bind fun u2=>((V5 g a u2).bind fun v2=>((E6 g e.1.1 v2.1.1).bind fun w2=>((f5 c.1.1 0).bind fun y2=>((c.1.1[(Int.toNat 0)]?).bind fun z2=>((f5 v2.1.2.1.P.Ms z2).bind fun a3=>(cond (!(decide (a3.Ts=0))) ((G3 g v2.1.2.1 24 0 b).bind fun b3=>((E6 g w2.1.1 b3.1.1).bind fun c3=>(some ((c3.1.1,v2.1.2.1,()),())))) (some ((w2.1.1,v2.1.2.1,()),())))))))))))))))))))))
def sH(g:Q_g)(a:B8)(b:Int):b3V:=
 ((J7 g a.P.No b).bind fun c=>Jl g c 0 a ([]:List i5))
def Vx(g:Q_g)(a:RT3)(b:Int)(c:B8)(d:(List i5)):b3V:=
 (cond (decide (b<(a.1.1.length:Int))) ((f5 a.1.1 b).bind fun e=>((a.1.1[(Int.toNat b)]?).bind fun f=>((Jh g c f).bind fun h=>((E6 g d h.1.1).bind fun j=>Jl g a (w64 (b+1)) h.1.2.1 j.1.1)))) (Sg g c d))
def qF(g:Q_g)(a:B8)(b:(List i5)):b3V:=
 (some ((b,a,()),()))
def lR(g:Q_g)(a:l7):b30:=
 Re g a 0 (B8.mk a ([]:List (b36))) ([]:List i5) ([]:List B3)
def Ru(g:Q_g)(a:l7)(b:Int)(c:B8)(d:(List i5))(e:(List B3)):b30:=
 (cond (decide (b<(a.As.length:Int))) ((f5 a.As b).bind fun f=>((J7 g a.No f.Gs).bind fun h=>((f5 h.1.1 (w64 ((h.1.1.length:Int)-1))).bind fun j=>((h.1.1[(Int.toNat (w64 ((h.1.1.length:Int)-1)))]?).bind fun k=>((Px g c k).bind fun l=>((G3 g l.1.2.1 26 0 f.Gs).bind fun m=>((E6 g l.1.1 m.1.1).bind fun n=>(cond (!(decide (f.By=0))) (dH g a b l d n f 1 e) (dH g a b l d n f 0 e))))))))) (sQ g c d e))
def sT(g:Q_g)(a:l7)(b:Int)(c:C4)(d:(List i5))(e:R5)(f:u9)(h:Int)(j:(List B3)):b30:=
 ((y9 40 j ([(B3.mk (d.length:Int) (e.1.1.length:Int) f.Es f.Ss h)]:List B3)).bind fun k=>((y9 24 d e.1.1).bind fun l=>MG g a b c l k))
def qK(g:Q_g)(a:B8)(b:(List i5))(c:(List B3)):b30:=
 (some (((o9.mk b c a.Is),()),()))
def oK(g:Q_g)(a:l7)(b:Int)(c:C4)(d:(List i5))(e:(List B3)):b30:=
 Re g a (w64 (b+1)) c.1.2.1 d e
def sD(g:Q_g)(a:(b36)):Option RT0:=
 ((AL g a).bind fun b=>(cond (!b.1.2.1) ((wM g).bind fun c=>(some ((c.1.1,()),()))) ((gX g b.1.1).bind fun d=>((xP g b.1.1).bind fun e=>((DT g d.1.1 e.1.1).bind fun f=>(cond f.1.1 ((wM g).bind fun h=>(some ((h.1.1,()),()))) (some ((false,()),()))))))))
end
end
end Go.Proofs.YtihbbcealnnpiaaGreatDoor
