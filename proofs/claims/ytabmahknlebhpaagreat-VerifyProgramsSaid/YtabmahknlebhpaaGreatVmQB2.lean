/- Parts of the proof. -/
import Derived.Test.YtabmahknlebhpaaGreatVmQC
set_option linter.unusedVariables false
namespace Go.Proofs.YtabmahknlebhpaaGreat
section
open Go.RowKit
set_option maxRecDepth 100000
set_option maxHeartbeats 4000000
noncomputable section
def lX(g:Q_g)(a:Int)(b:Int)(c:F5)(d:N4):b5M:=
 ((P8 g c.2.1 b 0 a).bind fun e=>((i6 d.1.1 1).bind fun f=>((d.1.1[(Int.toNat 1)]?).bind fun h=>((X4 g e.2.1 h).bind fun j=>((Qb g j.2.1 e.1.1).bind fun k=>(some ((()),(k.2.1,()))))))))
def sS(g:Q_g)(a:Int)(b:d7)(c:N4):b5M:=
 ((i6 c.1.1 0).bind fun d=>((c.1.1[(Int.toNat 0)]?).bind fun e=>((X4 g c.2.1 e).bind fun f=>(cond (decide (b.Ns=15)) (uG g a 14 f c) (uG g a 13 f c)))))
def iJ(g:Q_g)(a:Int)(b:(List Int))(c:d7)(d:l4)(e:N4):b5M:=
 Ro g a b (b.length:Int) 0 c d e.2.1
def uM(g:Q_g)(a:Int)(b:d7)(c:l4)(d:v8):b5M:=
 ((JH g d b c).bind fun e=>((P8 g e.2.1 e.1.1 e.1.2.1 a).bind fun f=>(some ((()),(f.2.1,())))))
def cU(g:Q_g)(a:v8)(b:Int)(c:(List Int)):b5M:=
 ((i6 c 0).bind fun d=>((Ka g a d).bind fun e=>Yo g b c e 0 e.2.1))
def Zo(g:Q_g)(a:Int)(b:(List Int))(c:N4)(d:Int)(e:v8):b5M:=
 (cond (decide (d<(c.1.1.length:Int))) ((i6 c.1.1 d).bind fun f=>((c.1.1[(Int.toNat d)]?).bind fun h=>((X4 g e h).bind fun j=>Yo g a b c (w64 (d+1)) j.2.1))) (IY g a b e))
def tW(g:Q_g)(a:Int)(b:(List Int))(c:v8):b5M:=
 ((i6 b 1).bind fun d=>((X4 g c d).bind fun e=>((i6 b 0).bind fun f=>((i6 e.2.1.p_.Ms f).bind fun h=>((i6 b 0).bind fun j=>((i6 e.2.1.p_.No j).bind fun k=>(cond (decide (k.Ks=26)) ((P8 g e.2.1 8 h.Ds a).bind fun l=>(some ((()),(l.2.1,())))) (cond (decide (k.Ks=28)) ((i6 b 0).bind fun m=>((P8 g e.2.1 16 0 m).bind fun n=>(some ((()),(n.2.1,()))))) (cond (decide (k.Ks=29)) ((i6 b 0).bind fun o=>((P8 g e.2.1 18 h.Ds o).bind fun p=>(some ((()),(p.2.1,()))))) (some ((()),(e.2.1,()))))))))))))
def cW(g:Q_g)(a:v8)(b:Int):b5M:=
 ((Ka g a b).bind fun c=>((i6 c.2.1.p_.Ms b).bind fun d=>((P8 g c.2.1 1 d.In b).bind fun e=>((i6 e.2.1.p_.No b).bind fun f=>(cond (decide (f.Ks=7)) ((i6 c.1.1 1).bind fun h=>((c.1.1[(Int.toNat 1)]?).bind fun j=>((X4 g e.2.1 j).bind fun k=>((i6 k.2.1.p_.Ms b).bind fun l=>((P8 g k.2.1 8 l.Ds b).bind fun m=>(some ((()),(m.2.1,())))))))) (cond (decide (f.Ks=8)) ((FX g e.2.1 b c.1.1).bind fun n=>(some ((()),(n.2.1,())))) (cond (decide (f.Ks=9)) ((i6 c.1.1 0).bind fun o=>((c.1.1[(Int.toNat 0)]?).bind fun p=>((X4 g e.2.1 p).bind fun q=>((P8 g q.2.1 12 0 b).bind fun s=>((i6 c.1.1 1).bind fun t=>((c.1.1[(Int.toNat 1)]?).bind fun u=>((Oy g s.2.1 u).bind fun v=>(cond (decide ((c.1.1.length:Int)=3)) ((P8 g v.2.1 11 0 b).bind fun w=>((Qb g w.2.1 s.1.1).bind fun y=>((i6 c.1.1 2).bind fun z=>((c.1.1[(Int.toNat 2)]?).bind fun a1=>((Oy g y.2.1 a1).bind fun b1=>CQ g w.1.1 b1.2.1))))) (CQ g s.1.1 v.2.1))))))))) (cond (decide (f.Ks=10)) ((i6 c.1.1 0).bind fun c1=>((c.1.1[(Int.toNat 0)]?).bind fun d1=>((X4 g e.2.1 d1).bind fun e1=>((P8 g e1.2.1 12 0 b).bind fun f1=>((i6 c.1.1 1).bind fun h1=>((c.1.1[(Int.toNat 1)]?).bind fun j1=>((Oy g f1.2.1 j1).bind fun k1=>((P8 g k1.2.1 11 e.1.1 b).bind fun l1=>((Qb g l1.2.1 f1.1.1).bind fun m1=>(some ((()),(m1.2.1,())))))))))))) (cond (decide (f.Ks=11)) (cond (decide ((c.1.1.length:Int)=0)) ((P8 g e.2.1 26 0 b).bind fun n1=>(some ((()),(n1.2.1,())))) ((i6 c.1.1 0).bind fun o1=>((c.1.1[(Int.toNat 0)]?).bind fun p1=>((X4 g e.2.1 p1).bind fun q1=>((P8 g q1.2.1 25 0 b).bind fun s1=>(some ((()),(s1.2.1,())))))))) (cond (decide (f.Ks=12)) ((i6 c.1.1 0).bind fun t1=>((c.1.1[(Int.toNat 0)]?).bind fun u1=>((X4 g e.2.1 u1).bind fun v1=>((P8 g v1.2.1 23 0 b).bind fun w1=>(some ((()),(w1.2.1,()))))))) (cond (decide (f.Ks=13)) ((i6 c.1.1 0).bind fun y1=>((c.1.1[(Int.toNat 0)]?).bind fun z1=>((X4 g e.2.1 z1).bind fun a2=>((i6 c.1.1 0).bind fun b2=>((c.1.1[(Int.toNat 0)]?).bind fun c2=>((i6 a2.2.1.p_.Ms c2).bind fun d2=>(cond (!(decide (d2.Ts=0))) ((P8 g a2.2.1 24 0 b).bind fun e2=>(some ((()),(e2.2.1,())))) (some ((()),(a2.2.1,())))))))))) (some ((()),(e.2.1,()))))))))))))))
def Sf(g:Q_g)(a:Int)(b:v8):b5M:=
 ((Qb g b a).bind fun c=>(some ((()),(c.2.1,()))))
def pK(g:Q_g)(a:v8)(b:Int):b5M:=
 ((Ka g a b).bind fun c=>kY g c 0 c.2.1)
def Yd(g:Q_g)(a:N4)(b:Int)(c:v8):b5M:=
 (cond (decide (b<(a.1.1.length:Int))) ((i6 a.1.1 b).bind fun d=>((a.1.1[(Int.toNat b)]?).bind fun e=>((BI g c e).bind fun f=>kY g a (w64 (b+1)) f.2.1))) (some ((()),(c,()))))
def qK(g:Q_g)(a:s9):b5Q:=
 Vx g a 0 (v8.mk a (l6.mk ([]:List i9) ([]:List o0) ([]:List (b5Y))) 0 ([]:List ((b5Y) × Int)))
def Sd(g:Q_g)(a:s9)(b:Int)(c:v8):b5Q:=
 (cond (decide (b<(a.As.length:Int))) ((i6 a.As b).bind fun d=>((Ka g (v8.mk c.p_ c.c_ (c.c_.Is.length:Int) c.texts_) d.Hs).bind fun e=>((i6 e.1.1 (w64 ((e.1.1.length:Int)-1))).bind fun f=>((e.1.1[(Int.toNat (w64 ((e.1.1.length:Int)-1)))]?).bind fun h=>((Oy g e.2.1 h).bind fun j=>((P8 g j.2.1 26 0 d.Hs).bind fun k=>((FJ g k.2.1).bind fun l=>(cond (!(decide (d.By=0))) (uI g a b k l d 1) (uI g a b k l d 0))))))))) (kZ g c))
def iY(g:Q_g)(a:s9)(b:Int)(c:RT1)(d:RT2)(e:t9)(f:Int):b5Q:=
 ((A4 40 c.2.1.c_.As ([(o0.mk c.2.1.from_ d.1.1 e.Ps e.Ss f)]:List o0)).bind fun h=>MG g a b c h)
def mC(g:Q_g)(a:v8):b5Q:=
 (some ((a.c_,()),()))
def lV(g:Q_g)(a:s9)(b:Int)(c:RT1)(d:(List o0)):b5Q:=
 Vx g a (w64 (b+1)) (v8.mk c.2.1.p_ (l6.mk c.2.1.c_.Is d c.2.1.c_.Vs) c.2.1.from_ c.2.1.texts_)
def NX(g:Q_g):Option RT0:=
 ((rP g ([102,110,32,109,97,105,110,40,41,32,123,32,112,114,105,110,116,32,49,32,43,32,50,59,32,125]:b5Y)).bind fun a=>((gW g a.1.1).bind fun b=>((dE g b.1.1 0).bind fun c=>(cond (decide (c.1.2.1=0)) (cond (decide ((c.1.1.length:Int)=6)) ((i6 c.1.1 0).bind fun d=>((c.1.1[(Int.toNat 0)]?).bind fun e=>(cond (decide (e=0)) ((i6 c.1.1 1).bind fun f=>((c.1.1[(Int.toNat 1)]?).bind fun h=>(cond (decide (h=0)) ((i6 c.1.1 2).bind fun j=>((c.1.1[(Int.toNat 2)]?).bind fun k=>(cond (decide (k=1)) ((i6 c.1.1 3).bind fun l=>((c.1.1[(Int.toNat 3)]?).bind fun m=>(cond (decide (m=2)) ((i6 c.1.1 4).bind fun n=>((c.1.1[(Int.toNat 4)]?).bind fun o=>(cond (decide (o=1)) ((i6 c.1.1 5).bind fun p=>((c.1.1[(Int.toNat 5)]?).bind fun q=>(some (((decide (q=0)),()),())))) (some ((false,()),()))))) (some ((false,()),()))))) (some ((false,()),()))))) (some ((false,()),()))))) (some ((false,()),()))))) (some ((false,()),()))) (some ((false,()),()))))))
def xE(g:Q_g)(a:(b5Y)):Option BM:=
 (cond (decide ((a.length:Int)>2000)) (some (((s9.mk ([]:List d7) ([]:List l4) ([]:List r9) ([]:List N1) ([]:List Q1) ([]:List t9) ([]:List Int) ([]:List I8) ([]:List R1)),false,()),())) ((rP g a).bind fun b=>(some ((b.1.1,(decide (b.1.2.1.Code=0)),()),()))))
def uN(g:Q_g)(a:(b5Y)):Option RT0:=
 ((DI g a).bind fun b=>(cond (!b.1.2.1) ((xL g).bind fun c=>(some ((c.1.1,()),()))) ((gW g b.1.1).bind fun d=>((Zi g d.1.1).bind fun e=>(cond (!(decide (e.1.1=0))) (some ((false,()),())) (cond (!(decide (e.1.2.1=0))) (some ((false,()),())) (cond (!(decide (e.1.2.2.1=0))) (some ((false,()),())) (rH g 0 d))))))))
def Uo(g:Q_g)(a:Int)(b:N9):Option RT0:=
 (cond (decide (a<(b.1.1.As.length:Int))) ((dE g b.1.1 a).bind fun c=>(cond (!(decide (c.1.2.1=0))) (some ((false,()),())) ((i6 b.1.1.As a).bind fun d=>(cond (!(decide ((c.1.1.length:Int)=d.Do))) (some ((false,()),())) (Qm g a 0 b c))))) (UE g))
def Xv(g:Q_g)(a:Int)(b:Int)(c:N9)(d:Lm):Option RT0:=
 (cond (decide (b<(d.1.1.length:Int))) ((i6 c.1.1.As a).bind fun e=>((i6 c.1.1.Is (w64 (e.At+b))).bind fun f=>(cond (decide (f.Op=1)) ((i6 d.1.1 b).bind fun h=>((d.1.1[(Int.toNat b)]?).bind fun j=>(cond (decide (j>0)) (some ((false,()),())) (Qm g a (w64 (b+1)) c d)))) (Qm g a (w64 (b+1)) c d)))) (EA g a c))
def kH(g:Q_g):Option RT0:=
 ((xL g).bind fun a=>(some ((a.1.1,()),())))
def sD(g:Q_g)(a:Int)(b:N9):Option RT0:=
 rH g (w64 (a+1)) b
def Ow(g:Q_g)(a:x5):Option RT2:=
 Cf g a 0
def Xa(g:Q_g)(a:x5)(b:Int):Option RT2:=
 (cond (decide (b<(a.D.length:Int))) ((i6 a.D b).bind fun c=>(cond (decide (c≥0)) ((i6 a.On b).bind fun d=>(cond (!d) (some ((b,()),())) (Cf g a (w64 (b+1))))) (Cf g a (w64 (b+1))))) (QR g))
def rF(g:Q_g):Option RT2:=
 (some (((-1),()),()))
def Nu(g:Q_g)(a:x5)(b:Int)(c:Int):Option RT7:=
 (cond (!(decide (a.Qs=0))) (some ((a,()),())) (cond (decide (b≥a.E.Do)) (some (((x5.mk a.E a.D a.On 17),()),())) ((i6 a.D b).bind fun d=>((a.D[(Int.toNat b)]?).bind fun e=>(cond (decide (e≥0)) ((i6 a.D b).bind fun f=>((a.D[(Int.toNat b)]?).bind fun h=>(cond (!(decide (h=c))) (some (((x5.mk a.E a.D a.On 18),()),())) (tY g b c a)))) (tY g b c a))))))
def Mc(g:Q_g)(a:Int)(b:Int)(c:x5):Option RT7:=
 ((i6 c.D a).bind fun d=>((c.D[(Int.toNat a)]?).bind fun e=>((G4 c.D (Int.toNat a) b).bind fun f=>(some (((x5.mk c.E f c.On c.Qs),()),())))))
def aP(g:Q_g)(a:l6)(b:i9):b5L:=
 (cond (decide (b.Op=19)) ((i6 a.As b.A).bind fun c=>((i6 a.As b.A).bind fun d=>(some ((c.Ps,d.By,()),())))) (cond (decide (b.Op=20)) (cond (decide (b.A=7)) (some ((0,1,()),())) (uJ g b)) (uJ g b)))
def Rp(g:Q_g)(a:i9):b5L:=
 ((i6 ([0,0,0,0,0,0,0,0,1,1,2,0,1,1,1,2,3,1,2,0,1,1,0,1,1,1,0]:List Int) a.Op).bind fun b=>((([0,0,0,0,0,0,0,0,1,1,2,0,1,1,1,2,3,1,2,0,1,1,0,1,1,1,0]:List Int)[(Int.toNat a.Op)]?).bind fun c=>((i6 ([0,0,1,1,1,1,1,1,0,1,1,0,0,0,0,1,0,1,0,0,1,1,1,0,0,0,0]:List Int) a.Op).bind fun d=>((([0,0,1,1,1,1,1,1,0,1,1,0,0,0,0,1,0,1,0,0,1,1,1,0,0,0,0]:List Int)[(Int.toNat a.Op)]?).bind fun e=>(some ((c,e,()),()))))))
def Xu(g:Q_g)(a:i9):b5L:=
 (cond (decide (a.Op=20)) (cond (decide (a.A=5)) (some ((2,1,()),())) (kB g a)) (kB g a))
def Wk(g:Q_g)(a:x5)(b:l6)(c:Int):Option RT7:=
 ((i6 b.Is (w64 (a.E.At+c))).bind fun d=>((i6 a.D c).bind fun e=>((a.D[(Int.toNat c)]?).bind fun f=>((i6 a.On c).bind fun h=>((a.On[(Int.toNat c)]?).bind fun j=>((G4 a.On (Int.toNat c) true).bind fun k=>((aM g b d).bind fun l=>(cond (decide (l.1.1>f)) (V7 g a k) (cond (decide (d.Op=1)) (cond (!(decide (f=0))) (V7 g a k) (cond (decide (d.Op=25)) (cond (!(decide (f=1))) (V7 g a k) (cond (!(decide (a.E.By=1))) (V7 g a k) (cond (decide (d.Op=26)) (cond (!(decide (f=0))) (V7 g a k) (cond (!(decide (a.E.By=0))) (V7 g a k) (Bo g c f l a d k))) (Bo g c f l a d k)))) (cond (decide (d.Op=26)) (cond (!(decide (f=0))) (V7 g a k) (cond (!(decide (a.E.By=0))) (V7 g a k) (Bo g c f l a d k))) (Bo g c f l a d k)))) (cond (decide (d.Op=25)) (cond (!(decide (f=1))) (V7 g a k) (cond (!(decide (a.E.By=1))) (V7 g a k) (cond (decide (d.Op=26)) (cond (!(decide (f=0))) (V7 g a k) (cond (!(decide (a.E.By=0))) (V7 g a k) (Bo g c f l a d k))) (Bo g c f l a d k)))) (cond (decide (d.Op=26)) (cond (!(decide (f=0))) (V7 g a k) (cond (!(decide (a.E.By=0))) (V7 g a k) (Bo g c f l a d k))) (Bo g c f l a d k))))))))))))
def lI(g:Q_g)(a:x5)(b:(List Bool)):Option RT7:=
 (some (((x5.mk a.E a.D b 18),()),()))
def Om(g:Q_g)(a:Int)(b:Int)(c:A8)(d:x5)(e:i9)(f:(List Bool)):Option RT7:=
 ((V1 g (x5.mk d.E d.D f d.Qs) e.A (w64 (b-c.1.1))).bind fun h=>Bg g a b c h.1.1 e)
def Og(g:Q_g)(a:Int)(b:Int)(c:A8)(d:x5)(e:i9)(f:(List Bool)):Option RT7:=
 ((V1 g (x5.mk d.E d.D f d.Qs) e.A b).bind fun h=>Bg g a b c h.1.1 e)
def Tu(g:Q_g)(a:Int)(b:Int)(c:A8)(d:x5)(e:i9)(f:(List Bool)):Option RT7:=
 (cond (decide (e.Op=11)) (GB g a b c d e f) (cond (decide (e.Op=12)) (GB g a b c d e f) (cond (decide (e.Op=13)) (zC g a b c d e f) (cond (decide (e.Op=14)) (zC g a b c d e f) (Bg g a b c (x5.mk d.E d.D f d.Qs) e)))))
def Px(g:Q_g)(a:Int)(b:Int)(c:A8)(d:x5)(e:i9):Option RT7:=
 (cond (decide (e.Op=11)) (some ((d,()),())) (cond (decide (e.Op=25)) (some ((d,()),())) (cond (decide (e.Op=26)) (some ((d,()),())) ((V1 g d (w64 (a+1)) (w64 ((w64 (b-c.1.1))+c.1.2.1))).bind fun f=>(some ((f.1.1,()),()))))))
def Xo(g:Q_g)(a:l6)(b:o0):b5X:=
 ((okP (R2 8 b.Do)).bind fun _=>((okP (R2 1 b.Do)).bind fun _=>Py g b 0 a (List.replicate (Int.toNat b.Do) (0:Int))))
def Yb(g:Q_g)(a:o0)(b:Int)(c:l6)(d:(List Int)):b5X:=
 (cond (decide (b<((List.replicate (Int.toNat a.Do) (0:Int)).length:Int))) ((i6 d b).bind fun e=>((d[(Int.toNat b)]?).bind fun f=>((G4 d (Int.toNat b) (-1)).bind fun h=>Py g a (w64 (b+1)) c h))) (BJ g c a d))
def Un(g:Q_g)(a:l6)(b:o0)(c:(List Int)):b5X:=
 ((V1 g (x5.mk b c (List.replicate (Int.toNat b.Do) (false:Bool)) 0) 0 0).bind fun d=>Oq g 0 a d.1.1)
def Dn(g:Q_g)(a:Int)(b:l6)(c:x5):b5X:=
 (cond (decide (c.Qs=0)) ((nU g c).bind fun d=>(cond (decide (d.1.1<0)) (some ((c,0,()),())) ((aD g c b d.1.1).bind fun e=>Oq g d.1.1 b e.1.1))) (OI g a c))
def Ud(g:Q_g)(a:Int)(b:x5):b5X:=
 (some ((b,a,()),()))
def fE(g:Q_g)(a:l6):Option RT0:=
 (cond (decide ((a.As.length:Int)>100)) (some ((false,()),())) (cond (decide ((a.Is.length:Int)>65536)) (some ((false,()),())) (cond (decide ((a.Vs.length:Int)>65536)) (some ((false,()),())) (Mz g 0 a 0))))
def Su(g:Q_g)(a:Int)(b:l6)(c:Int):Option RT0:=
 (cond (decide (c<(b.As.length:Int))) ((i6 b.As c).bind fun d=>(cond (!(decide (d.At=a))) (some ((false,()),())) (cond (decide (d.Do<0)) (some ((false,()),())) (cond (decide (d.Do>(b.Is.length:Int))) (some ((false,()),())) (cond (decide (d.Ps<0)) (some ((false,()),())) (cond (decide (d.Ps>d.Ss)) (some ((false,()),())) (cond (decide (d.Ss>200)) (some ((false,()),())) (cond (!(decide (d.By=0))) (cond (!(decide (d.By=1))) (some ((false,()),())) (Mz g (w64 (a+d.Do)) b (w64 (c+1)))) (Mz g (w64 (a+d.Do)) b (w64 (c+1))))))))))) (dX g a b))
def oO(g:Q_g)(a:Int)(b:l6):Option RT0:=
 Xz g a 0 b 0
def Ti(g:Q_g)(a:Int)(b:Int)(c:l6)(d:Int):Option RT0:=
 (cond (decide (d<(c.Vs.length:Int))) ((i6 c.Vs d).bind fun e=>(cond (decide ((e.length:Int)>1048576)) (some ((false,()),())) ((i6 c.Vs d).bind fun f=>Xz g a (w64 (b+(f.length:Int))) c (w64 (d+1))))) (Sz g a b c))
def Yc(g:Q_g)(a:Int)(b:Int)(c:l6):Option RT0:=
 Oj g a b c 0
def Xl(g:Q_g)(a:Int)(b:Int)(c:l6)(d:Int):Option RT0:=
 (cond (decide (d<(c.Is.length:Int))) ((i6 c.Is d).bind fun e=>(cond (decide (e.Op=0)) (some ((false,()),())) (cond (decide (e.Op>26)) (some ((false,()),())) (cond (decide (e.Ls<0)) (some ((false,()),())) (cond (decide (e.Ls>2147483647)) (some ((false,()),())) (Oj g a b c (w64 (d+1)))))))) (CD g a b c))
def Zd(g:Q_g)(a:Int)(b:Int)(c:l6):Option RT0:=
 (cond (decide (a=(c.Is.length:Int))) (some (((decide (b≤1048576)),()),())) (some ((false,()),())))
def Ii(g:Q_g)(a:Int)(b:Int)(c:Int):Option RT0:=
 (cond (decide (a≥b)) (some (((decide (a<c)),()),())) (some ((false,()),())))
def Ia(g:Q_g)(a:l6)(b:o0)(c:i9):Option RT2:=
 (cond (decide (c.Op=1)) (Hu g c) (cond (decide (c.Op=17)) (Hu g c) (cond (decide (c.Op=18)) (Hu g c) (cond (decide (c.Op=21)) (Hu g c) (cond (decide (c.Op=22)) (Hu g c) (cond (decide (c.Op=7)) (Yn g b c) (cond (decide (c.Op=8)) (Yn g b c) (cond (decide (c.Op=5)) ((V9 g c.A 0 (a.Vs.length:Int)).bind fun d=>(cond (!d.1.1) (some ((19,()),())) (R7 g))) (cond (decide (c.Op=19)) ((V9 g c.A 0 (a.As.length:Int)).bind fun e=>(cond (!e.1.1) (some ((19,()),())) (R7 g))) (cond (decide (c.Op=3)) ((V9 g c.A 0 2).bind fun f=>(cond (!f.1.1) (some ((23,()),())) (R7 g))) (cond (decide (c.Op=4)) ((V9 g c.A 0 8388608).bind fun h=>(cond (!h.1.1) (some ((23,()),())) (R7 g))) (cond (decide (c.Op=9)) ((V9 g c.A 12 14).bind fun j=>(cond (!j.1.1) (some ((23,()),())) (R7 g))) (cond (decide (c.Op=10)) ((V9 g c.A 1 12).bind fun k=>(cond (!k.1.1) (some ((23,()),())) (R7 g))) (cond (decide (c.Op=20)) ((V9 g c.A 1 9).bind fun l=>(cond (!l.1.1) (some ((23,()),())) (R7 g))) (cond (decide (c.Op=11)) (Gv g b c) (cond (decide (c.Op=12)) (Gv g b c) (cond (decide (c.Op=13)) (Gv g b c) (cond (decide (c.Op=14)) (Gv g b c) (R7 g)))))))))))))))))))
def Qh(g:Q_g)(a:i9):Option RT2:=
 (cond (decide (a.A<0)) (some ((19,()),())) (R7 g))
def Pi(g:Q_g)(a:o0)(b:i9):Option RT2:=
 ((V9 g b.A 0 a.Ss).bind fun c=>(cond (!c.1.1) (some ((19,()),())) (R7 g)))
def Ju(g:Q_g)(a:o0)(b:i9):Option RT2:=
 ((V9 g b.A 0 a.Do).bind fun c=>(cond (!c.1.1) (some ((17,()),())) (R7 g)))
def Lo(g:Q_g):Option RT2:=
 (some ((0,()),()))
def Sa(g:Q_g)(a:l6):b5N:=
 ((JZ g a).bind fun b=>(cond (!b.1.1) (some ((1,0,0,()),())) (Hz g a 0)))
def Ke(g:Q_g)(a:l6)(b:Int):b5N:=
 (cond (decide (b<(a.As.length:Int))) ((i6 a.As b).bind fun c=>Gp g b 0 a b c) (uD g a))
def Ja(g:Q_g)(a:Int)(b:Int)(c:l6)(d:Int)(e:o0):b5N:=
 (cond (decide (b<e.Do)) ((i6 c.Is (w64 (e.At+b))).bind fun f=>((Fc g c e f).bind fun h=>(cond (!(decide (h.1.1=0))) (some ((h.1.1,a,b,()),())) (Gp g a (w64 (b+1)) c d e)))) (tO g c d))
def Xy(g:Q_g)(a:l6):b5N:=
 Tw g a 0
def Ue(g:Q_g)(a:l6)(b:Int):b5N:=
 Hz g a (w64 (b+1))
def Kl(g:Q_g)(a:l6)(b:Int):b5N:=
 (cond (decide (b<(a.As.length:Int))) ((i6 a.As b).bind fun c=>((Kt g a c).bind fun d=>(cond (!(decide (d.1.1.Qs=0))) (some ((d.1.1.Qs,b,d.1.2.1,()),())) (Tw g a (w64 (b+1)))))) (YO g))
def Sj(g:Q_g):b5N:=
 (some ((0,0,0,()),()))
end
end
end Go.Proofs.YtabmahknlebhpaaGreat
