/- Parts of the proof. -/
import Derived.Test.YtihbbcealnnpiaaGreatDoorHmQC
set_option linter.unusedVariables false
namespace Go.Proofs.YtihbbcealnnpiaaGreatDoor
section
open Go.RowKit
set_option maxRecDepth 100000
set_option maxHeartbeats 4000000
noncomputable section
def SK(g:Q_g)(a:Int)(b:(List Int))(c:B8)(d:d7):b3X:=
 ((RJ g c b).bind fun e=>((f5 e.1.2.1.P.Ms a).bind fun f=>(cond (decide (d.Ks=21)) ((H4 g e.1.2.1 2 d.Ns a).bind fun h=>W3 g e e.1.2.1.Js h.1.1) (cond (decide (d.Ks=22)) ((H4 g e.1.2.1 4 d.Ns a).bind fun j=>W3 g e e.1.2.1.Js j.1.1) (cond (decide (d.Ks=23)) (uV g a (-1) e 0 d) (cond (decide (d.Ks=24)) ((H4 g e.1.2.1 3 d.Ns a).bind fun k=>W3 g e e.1.2.1.Js k.1.1) (cond (decide (d.Ks=25)) ((H4 g e.1.2.1 6 0 a).bind fun l=>W3 g e e.1.2.1.Js l.1.1) (cond (decide (d.Ks=26)) ((H4 g e.1.2.1 7 f.Do a).bind fun m=>W3 g e e.1.2.1.Js m.1.1) (cond (decide (d.Ks=27)) ((H4 g e.1.2.1 19 f.Do a).bind fun n=>(cond (decide (f.Do<0)) ((H4 g e.1.2.1 20 (w64 (0-f.Do)) a).bind fun o=>W3 g e e.1.2.1.Js o.1.1) (W3 g e e.1.2.1.Js n.1.1))) (cond (decide (d.Ks=28)) ((H4 g e.1.2.1 15 0 a).bind fun p=>W3 g e e.1.2.1.Js p.1.1) (cond (decide (d.Ks=29)) ((H4 g e.1.2.1 17 f.Do a).bind fun q=>W3 g e e.1.2.1.Js q.1.1) (cond (decide (d.Ks=30)) ((H4 g e.1.2.1 9 d.Ns a).bind fun s=>W3 g e e.1.2.1.Js s.1.1) (cond (decide (d.Ks=31)) ((H4 g e.1.2.1 10 d.Ns a).bind fun t=>W3 g e e.1.2.1.Js t.1.1) (cond (decide (d.Ks=32)) ((f5 e.1.2.1.P.Ms a).bind fun u=>((f5 e.1.2.1.P.To u.Ts).bind fun v=>((H4 g e.1.2.1 21 v.Of a).bind fun w=>(cond (decide (v.Ks=6)) ((H4 g e.1.2.1 22 v.Of a).bind fun y=>W3 g e e.1.2.1.Js y.1.1) (W3 g e e.1.2.1.Js w.1.1))))) (W3 g e e.1.2.1.Js ([]:List i6))))))))))))))))
def FD(g:Q_g)(a:Int)(b:B8)(c:d7)(d:RT3):b3X:=
 (cond (decide (c.Ks=32)) ((okP (C8 1 (d.1.1.length:Int) (d.1.1.length:Int))).bind fun _=>TJ g a (x6 d.1.1 1 (d.1.1.length:Int)) b c) (TJ g a d.1.1 b c))
def NT(g:Q_g)(a:Int)(b:Int)(c:C2)(d:d7):b3X:=
 (cond (decide (b<0)) ((y8 16 ([]:List (b38)) c.1.2.1.Js).bind fun e=>((y8 16 e ([d.Ds]:List (b38))).bind fun f=>TX g a (c.1.2.1.Js.length:Int) c f)) (TX g a b c c.1.2.1.Js))
def WP(g:Q_g)(a:Int)(b:Int)(c:C2)(d:(List (b38))):b3X:=
 ((H4 g (B8.mk c.1.2.1.P d) 5 b a).bind fun e=>W3 g c d e.1.1)
def RH(g:Q_g)(a:B8)(b:Int)(c:(List Int))(d:(List i6)):b3X:=
 ((f5 c 0).bind fun e=>((O4 g a.P.No e).bind fun f=>((RJ g a f.1.1).bind fun h=>((f5 c 1).bind fun j=>((Cc g h.1.2.1 j).bind fun k=>((E8 g d h.1.1).bind fun l=>((E8 g l.1.1 k.1.1).bind fun m=>((f5 c 0).bind fun n=>((f5 k.1.2.1.P.Ms n).bind fun o=>((f5 c 0).bind fun p=>((f5 k.1.2.1.P.No p).bind fun q=>(cond (decide (q.Ks=26)) ((H4 g k.1.2.1 8 o.Do b).bind fun s=>((E8 g m.1.1 s.1.1).bind fun t=>(some ((t.1.1,k.1.2.1,()),())))) (cond (decide (q.Ks=28)) ((f5 c 0).bind fun u=>((H4 g k.1.2.1 16 0 u).bind fun v=>((E8 g m.1.1 v.1.1).bind fun w=>(some ((w.1.1,k.1.2.1,()),()))))) ((f5 c 0).bind fun y=>((H4 g k.1.2.1 18 o.Do y).bind fun z=>((E8 g m.1.1 z.1.1).bind fun a1=>(some ((a1.1.1,k.1.2.1,()),()))))))))))))))))))
def UI(g:Q_g)(a:B8)(b:Int):b3X:=
 ((O4 g a.P.No b).bind fun c=>((f5 a.P.Ms b).bind fun d=>((H4 g a 1 d.Qs b).bind fun e=>((f5 a.P.Ms b).bind fun f=>((f5 a.P.No b).bind fun h=>(cond (decide (h.Ks=7)) ((f5 c.1.1 1).bind fun j=>((c.1.1[(Int.toNat 1)]?).bind fun k=>((Cc g a k).bind fun l=>((E8 g e.1.1 l.1.1).bind fun m=>((H4 g l.1.2.1 8 f.Do b).bind fun n=>((E8 g m.1.1 n.1.1).bind fun o=>(some ((o.1.1,l.1.2.1,()),())))))))) (cond (decide (h.Ks=8)) ((a6W g a b c.1.1 e.1.1).bind fun p=>(some ((p.1.1,p.1.2.1,()),()))) (cond (decide (h.Ks=9)) ((f5 c.1.1 0).bind fun q=>((c.1.1[(Int.toNat 0)]?).bind fun s=>((Cc g a s).bind fun t=>((f5 c.1.1 1).bind fun u=>((c.1.1[(Int.toNat 1)]?).bind fun v=>((qH g t.1.2.1 v).bind fun w=>(cond (decide ((c.1.1.length:Int)=2)) ((E8 g e.1.1 t.1.1).bind fun y=>((H4 g w.1.2.1 12 (w64 (1+(w.1.1.length:Int))) b).bind fun z=>((E8 g y.1.1 z.1.1).bind fun a1=>((E8 g a1.1.1 w.1.1).bind fun b1=>(some ((b1.1.1,w.1.2.1,()),())))))) ((f5 c.1.1 2).bind fun c1=>((c.1.1[(Int.toNat 2)]?).bind fun d1=>((qH g w.1.2.1 d1).bind fun e1=>((E8 g e.1.1 t.1.1).bind fun f1=>((H4 g e1.1.2.1 12 (w64 (2+(w.1.1.length:Int))) b).bind fun h1=>((E8 g f1.1.1 h1.1.1).bind fun j1=>((E8 g j1.1.1 w.1.1).bind fun k1=>((H4 g e1.1.2.1 11 (w64 (1+(e1.1.1.length:Int))) b).bind fun l1=>((E8 g k1.1.1 l1.1.1).bind fun m1=>((E8 g m1.1.1 e1.1.1).bind fun n1=>(some ((n1.1.1,e1.1.2.1,()),()))))))))))))))))))) (cond (decide (h.Ks=10)) ((f5 c.1.1 0).bind fun o1=>((c.1.1[(Int.toNat 0)]?).bind fun p1=>((Cc g a p1).bind fun q1=>((f5 c.1.1 1).bind fun s1=>((c.1.1[(Int.toNat 1)]?).bind fun t1=>((qH g q1.1.2.1 t1).bind fun u1=>((E8 g e.1.1 q1.1.1).bind fun v1=>((H4 g u1.1.2.1 12 (w64 (2+(u1.1.1.length:Int))) b).bind fun w1=>((E8 g v1.1.1 w1.1.1).bind fun y1=>((E8 g y1.1.1 u1.1.1).bind fun z1=>((H4 g u1.1.2.1 11 (w64 (0-(z1.1.1.length:Int))) b).bind fun a2=>((E8 g z1.1.1 a2.1.1).bind fun b2=>(some ((b2.1.1,u1.1.2.1,()),())))))))))))))) (cond (decide (h.Ks=11)) (cond (decide ((c.1.1.length:Int)=0)) ((H4 g a 26 0 b).bind fun c2=>((E8 g e.1.1 c2.1.1).bind fun d2=>(some ((d2.1.1,a,()),())))) ((f5 c.1.1 0).bind fun e2=>((c.1.1[(Int.toNat 0)]?).bind fun f2=>((Cc g a f2).bind fun h2=>((E8 g e.1.1 h2.1.1).bind fun j2=>((H4 g h2.1.2.1 25 0 b).bind fun k2=>((E8 g j2.1.1 k2.1.1).bind fun l2=>(some ((l2.1.1,h2.1.2.1,()),()))))))))) (cond (decide (h.Ks=12)) ((f5 c.1.1 0).bind fun m2=>((c.1.1[(Int.toNat 0)]?).bind fun n2=>((Cc g a n2).bind fun o2=>((E8 g e.1.1 o2.1.1).bind fun p2=>((H4 g o2.1.2.1 23 0 b).bind fun q2=>((E8 g p2.1.1 q2.1.1).bind fun s2=>(some ((s2.1.1,o2.1.2.1,()),())))))))) ((f5 c.1.1 0).bind fun t2=>((c.1.1[(Int.toNat 0)]?).bind fun u2=>((Cc g a u2).bind fun v2=>((E8 g e.1.1 v2.1.1).bind fun w2=>((f5 c.1.1 0).bind fun y2=>((c.1.1[(Int.toNat 0)]?).bind fun z2=>((f5 v2.1.2.1.P.Ms z2).bind fun a3=>(cond (!(decide (a3.Ts=0))) ((H4 g v2.1.2.1 24 0 b).bind fun b3=>((E8 g w2.1.1 b3.1.1).bind fun c3=>(some ((c3.1.1,v2.1.2.1,()),())))) (some ((w2.1.1,v2.1.2.1,()),())))))))))))))))))))))
def QB(g:Q_g)(a:B8)(b:Int):b3X:=
 ((O4 g a.P.No b).bind fun c=>LK g c 0 a ([]:List i6))
def II(g:Q_g)(a:RT3)(b:Int)(c:B8)(d:(List i6)):b3X:=
 (cond (decide (b<(a.1.1.length:Int))) ((f5 a.1.1 b).bind fun e=>((a.1.1[(Int.toNat b)]?).bind fun f=>((a4g g c f).bind fun h=>((E8 g d h.1.1).bind fun j=>LK g a (w64 (b+1)) h.1.2.1 j.1.1)))) (a2v g c d))
def WW(g:Q_g)(a:B8)(b:(List i6)):b3X:=
 (some ((b,a,()),()))
def UM(g:Q_g)(a:l9):b30:=
 GY g a 0 (B8.mk a ([]:List (b38))) ([]:List i6) ([]:List y7)
def SU(g:Q_g)(a:l9)(b:Int)(c:B8)(d:(List i6))(e:(List y7)):b30:=
 (cond (decide (b<(a.As.length:Int))) ((f5 a.As b).bind fun f=>((O4 g a.No f.Gs).bind fun h=>((f5 h.1.1 (w64 ((h.1.1.length:Int)-1))).bind fun j=>((h.1.1[(Int.toNat (w64 ((h.1.1.length:Int)-1)))]?).bind fun k=>((qH g c k).bind fun l=>((H4 g l.1.2.1 26 0 f.Gs).bind fun m=>((E8 g l.1.1 m.1.1).bind fun n=>(cond (!(decide (f.By=0))) (JW g a b l d n f 1 e) (JW g a b l d n f 0 e))))))))) (b2L g c d e))
def WO(g:Q_g)(a:l9)(b:Int)(c:C2)(d:(List i6))(e:Q6)(f:t8)(h:Int)(j:(List y7)):b30:=
 ((y8 40 j ([(y7.mk (d.length:Int) (e.1.1.length:Int) f.Es f.Ss h)]:List y7)).bind fun k=>((y8 24 d e.1.1).bind fun l=>a4p g a b c l k))
def PR(g:Q_g)(a:B8)(b:(List i6))(c:(List y7)):b30:=
 (some (((l7.mk b c a.Js),()),()))
def YK(g:Q_g)(a:l9)(b:Int)(c:C2)(d:(List i6))(e:(List y7)):b30:=
 GY g a (w64 (b+1)) c.1.2.1 d e
def VU(g:Q_g)(a:l7)(b:l7):Option RT0:=
 (cond (!(decide ((a.Is.length:Int)=(b.Is.length:Int)))) (some ((false,()),())) (cond (!(decide ((a.As.length:Int)=(b.As.length:Int)))) (some ((false,()),())) (cond (!(decide ((a.Js.length:Int)=(b.Js.length:Int)))) (some ((false,()),())) (MO g a 0 b))))
def XG(g:Q_g)(a:l7)(b:Int)(c:l7):Option RT0:=
 (cond (decide (b<(a.Is.length:Int))) ((f5 a.Is b).bind fun d=>((f5 c.Is b).bind fun e=>(cond (!((decide (d.Op=e.Op)&&(decide (d.A=e.A)&&decide (d.Ls=e.Ls))))) (some ((false,()),())) (MO g a (w64 (b+1)) c)))) (a5Y g a c))
def FJ(g:Q_g)(a:l7)(b:l7):Option RT0:=
 YL g a 0 b
def NJ(g:Q_g)(a:l7)(b:Int)(c:l7):Option RT0:=
 (cond (decide (b<(a.As.length:Int))) ((f5 a.As b).bind fun d=>((f5 c.As b).bind fun e=>(cond (!((decide (d.At=e.At)&&(decide (d.If=e.If)&&(decide (d.Es=e.Es)&&(decide (d.Ss=e.Ss)&&decide (d.By=e.By))))))) (some ((false,()),())) (YL g a (w64 (b+1)) c)))) (a2r g a c))
def RQ(g:Q_g)(a:l7)(b:l7):Option RT0:=
 TW g a 0 b
def PE(g:Q_g)(a:l7)(b:Int)(c:l7):Option RT0:=
 (cond (decide (b<(a.Js.length:Int))) ((f5 a.Js b).bind fun d=>((f5 c.Js b).bind fun e=>(cond (!(decide (d=e))) (some ((false,()),())) (TW g a (w64 (b+1)) c)))) (a3I g))
def GG(g:Q_g):Option RT0:=
 (some ((true,()),()))
end
end
end Go.Proofs.YtihbbcealnnpiaaGreatDoor
