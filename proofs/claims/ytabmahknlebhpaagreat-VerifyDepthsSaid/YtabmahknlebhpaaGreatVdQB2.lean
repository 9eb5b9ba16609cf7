/- Parts of the proof. -/
import Derived.Test.YtabmahknlebhpaaGreatVdQC
namespace Go.Proofs.YtabmahknlebhpaaGreat
open Go.RowKit
set_option linter.unusedVariables false
set_option maxRecDepth 100000
set_option maxHeartbeats 4000000
noncomputable section
def Qb336 (g : Q_g) (a : GGenMaker) (b : Int) : Option RT13 :=
 ((getI a.p_.Nodes b).bind fun c => ((getI a.p_.Marks b).bind fun d => ((g (.c327 a b)).bind fun (e : RT12) => (cond (decide (c.Kind = 32)) ((okP (CutR 1 (e.1.1.length : Int) (e.1.1.length : Int))).bind fun _ => g (.c340 b (cutL e.1.1 1 (e.1.1.length : Int)) c d e)) (cond (decide (c.Kind = 31)) (cond (decide (c.Num = 14)) (g (.c339 b c e)) (cond (decide (c.Num = 15)) (g (.c339 b c e)) (g (.c340 b e.1.1 c d e)))) (g (.c340 b e.1.1 c d e)))))))
def Qb337 (g : Q_g) (a : Int) (b : (List Int)) (c : Int) (d : Int) (e : GApiNode) (f : GApiMark) (h : GGenMaker) : Option RT13 :=
 (cond (decide (d < c)) ((getI b d).bind fun j => ((g (.c336 h j)).bind fun (k : RT13) => g (.c337 a b c (w64 (d + 1)) e f k.2.1))) (g (.c341 a e f h)))
def Qb338 (g : Q_g) (a : Int) (b : Int) (c : RT13) (d : RT12) : Option RT13 :=
 ((g (.c330 c.2.1 b 0 a)).bind fun (e : RT1) => ((getI d.1.1 1).bind fun f => ((d.1.1[(Int.toNat 1)]?).bind fun h => ((g (.c336 e.2.1 h)).bind fun (j : RT13) => ((g (.c332 j.2.1 e.1.1)).bind fun (k : RT13) => (some ((()), (k.2.1, ()))))))))
def Qb339 (g : Q_g) (a : Int) (b : GApiNode) (c : RT12) : Option RT13 :=
 ((getI c.1.1 0).bind fun d => ((c.1.1[(Int.toNat 0)]?).bind fun e => ((g (.c336 c.2.1 e)).bind fun (f : RT13) => (cond (decide (b.Num = 15)) (g (.c338 a 14 f c)) (g (.c338 a 13 f c))))))
def Qb340 (g : Q_g) (a : Int) (b : (List Int)) (c : GApiNode) (d : GApiMark) (e : RT12) : Option RT13 :=
 g (.c337 a b (b.length : Int) 0 c d e.2.1)
def Qb341 (g : Q_g) (a : Int) (b : GApiNode) (c : GApiMark) (d : GGenMaker) : Option RT13 :=
 ((g (.c335 d b c)).bind fun (e : RT14) => ((g (.c330 e.2.1 e.1.1 e.1.2.1 a)).bind fun (f : RT1) => (some ((()), (f.2.1, ())))))
def Qb342 (g : Q_g) (a : GGenMaker) (b : Int) (c : (List Int)) : Option RT13 :=
 ((getI c 0).bind fun d => ((g (.c327 a d)).bind fun (e : RT12) => g (.c343 b c e 0 e.2.1)))
def Qb343 (g : Q_g) (a : Int) (b : (List Int)) (c : RT12) (d : Int) (e : GGenMaker) : Option RT13 :=
 (cond (decide (d < (c.1.1.length : Int))) ((getI c.1.1 d).bind fun f => ((c.1.1[(Int.toNat d)]?).bind fun h => ((g (.c336 e h)).bind fun (j : RT13) => g (.c343 a b c (w64 (d + 1)) j.2.1)))) (g (.c344 a b e)))
def Qb344 (g : Q_g) (a : Int) (b : (List Int)) (c : GGenMaker) : Option RT13 :=
 ((getI b 1).bind fun d => ((g (.c336 c d)).bind fun (e : RT13) => ((getI b 0).bind fun f => ((getI e.2.1.p_.Marks f).bind fun h => ((getI b 0).bind fun j => ((getI e.2.1.p_.Nodes j).bind fun k => (cond (decide (k.Kind = 26)) ((g (.c330 e.2.1 8 h.Ref a)).bind fun (l : RT1) => (some ((()), (l.2.1, ())))) (cond (decide (k.Kind = 28)) ((getI b 0).bind fun m => ((g (.c330 e.2.1 16 0 m)).bind fun (n : RT1) => (some ((()), (n.2.1, ()))))) (cond (decide (k.Kind = 29)) ((getI b 0).bind fun o => ((g (.c330 e.2.1 18 h.Ref o)).bind fun (p : RT1) => (some ((()), (p.2.1, ()))))) (some ((()), (e.2.1, ()))))))))))))
def Qb345 (g : Q_g) (a : GGenMaker) (b : Int) : Option RT13 :=
 ((g (.c327 a b)).bind fun (c : RT12) => ((getI c.2.1.p_.Marks b).bind fun d => ((g (.c330 c.2.1 1 d.Point b)).bind fun (e : RT1) => ((getI e.2.1.p_.Nodes b).bind fun f => (cond (decide (f.Kind = 7)) ((getI c.1.1 1).bind fun h => ((c.1.1[(Int.toNat 1)]?).bind fun j => ((g (.c336 e.2.1 j)).bind fun (k : RT13) => ((getI k.2.1.p_.Marks b).bind fun l => ((g (.c330 k.2.1 8 l.Ref b)).bind fun (m : RT1) => (some ((()), (m.2.1, ())))))))) (cond (decide (f.Kind = 8)) ((g (.c342 e.2.1 b c.1.1)).bind fun (n : RT13) => (some ((()), (n.2.1, ())))) (cond (decide (f.Kind = 9)) ((getI c.1.1 0).bind fun o => ((c.1.1[(Int.toNat 0)]?).bind fun p => ((g (.c336 e.2.1 p)).bind fun (q : RT13) => ((g (.c330 q.2.1 12 0 b)).bind fun (s : RT1) => ((getI c.1.1 1).bind fun t => ((c.1.1[(Int.toNat 1)]?).bind fun u => ((g (.c347 s.2.1 u)).bind fun (v : RT13) => (cond (decide ((c.1.1.length : Int) = 3)) ((g (.c330 v.2.1 11 0 b)).bind fun (w : RT1) => ((g (.c332 w.2.1 s.1.1)).bind fun (y : RT13) => ((getI c.1.1 2).bind fun z => ((c.1.1[(Int.toNat 2)]?).bind fun a1 => ((g (.c347 y.2.1 a1)).bind fun (b1 : RT13) => g (.c346 w.1.1 b1.2.1)))))) (g (.c346 s.1.1 v.2.1)))))))))) (cond (decide (f.Kind = 10)) ((getI c.1.1 0).bind fun c1 => ((c.1.1[(Int.toNat 0)]?).bind fun d1 => ((g (.c336 e.2.1 d1)).bind fun (e1 : RT13) => ((g (.c330 e1.2.1 12 0 b)).bind fun (f1 : RT1) => ((getI c.1.1 1).bind fun h1 => ((c.1.1[(Int.toNat 1)]?).bind fun j1 => ((g (.c347 f1.2.1 j1)).bind fun (k1 : RT13) => ((g (.c330 k1.2.1 11 e.1.1 b)).bind fun (l1 : RT1) => ((g (.c332 l1.2.1 f1.1.1)).bind fun (m1 : RT13) => (some ((()), (m1.2.1, ())))))))))))) (cond (decide (f.Kind = 11)) (cond (decide ((c.1.1.length : Int) = 0)) ((g (.c330 e.2.1 26 0 b)).bind fun (n1 : RT1) => (some ((()), (n1.2.1, ())))) ((getI c.1.1 0).bind fun o1 => ((c.1.1[(Int.toNat 0)]?).bind fun p1 => ((g (.c336 e.2.1 p1)).bind fun (q1 : RT13) => ((g (.c330 q1.2.1 25 0 b)).bind fun (s1 : RT1) => (some ((()), (s1.2.1, ())))))))) (cond (decide (f.Kind = 12)) ((getI c.1.1 0).bind fun t1 => ((c.1.1[(Int.toNat 0)]?).bind fun u1 => ((g (.c336 e.2.1 u1)).bind fun (v1 : RT13) => ((g (.c330 v1.2.1 23 0 b)).bind fun (w1 : RT1) => (some ((()), (w1.2.1, ()))))))) (cond (decide (f.Kind = 13)) ((getI c.1.1 0).bind fun y1 => ((c.1.1[(Int.toNat 0)]?).bind fun z1 => ((g (.c336 e.2.1 z1)).bind fun (a2 : RT13) => ((getI c.1.1 0).bind fun b2 => ((c.1.1[(Int.toNat 0)]?).bind fun c2 => ((getI a2.2.1.p_.Marks c2).bind fun d2 => (cond (!(decide (d2.Type_ = 0))) ((g (.c330 a2.2.1 24 0 b)).bind fun (e2 : RT1) => (some ((()), (e2.2.1, ())))) (some ((()), (a2.2.1, ())))))))))) (some ((()), (e.2.1, ()))))))))))))))
def Qb346 (g : Q_g) (a : Int) (b : GGenMaker) : Option RT13 :=
 ((g (.c332 b a)).bind fun (c : RT13) => (some ((()), (c.2.1, ()))))
def Qb347 (g : Q_g) (a : GGenMaker) (b : Int) : Option RT13 :=
 ((g (.c327 a b)).bind fun (c : RT12) => g (.c348 c 0 c.2.1))
def Qb348 (g : Q_g) (a : RT12) (b : Int) (c : GGenMaker) : Option RT13 :=
 (cond (decide (b < (a.1.1.length : Int))) ((getI a.1.1 b).bind fun d => ((a.1.1[(Int.toNat b)]?).bind fun e => ((g (.c345 c e)).bind fun (f : RT13) => g (.c348 a (w64 (b + 1)) f.2.1)))) (some ((()), (c, ()))))
def Qb349 (g : Q_g) (a : GApiProg) : Option RT35 :=
 g (.c350 a 0 (GGenMaker.mk a (GApiCode.mk ([] : List GApiIns) ([] : List GApiEntry) ([] : List (List UInt8))) 0 ([] : List ((List UInt8) × Int))))
def Qb350 (g : Q_g) (a : GApiProg) (b : Int) (c : GGenMaker) : Option RT35 :=
 (cond (decide (b < (a.Fns.length : Int))) ((getI a.Fns b).bind fun d => ((g (.c327 (GGenMaker.mk c.p_ c.c_ (c.c_.Ins.length : Int) c.texts_) d.Node)).bind fun (e : RT12) => ((getI e.1.1 (w64 ((e.1.1.length : Int) - 1))).bind fun f => ((e.1.1[(Int.toNat (w64 ((e.1.1.length : Int) - 1)))]?).bind fun h => ((g (.c347 e.2.1 h)).bind fun (j : RT13) => ((g (.c330 j.2.1 26 0 d.Node)).bind fun (k : RT1) => ((g (.c331 k.2.1)).bind fun (l : RT2) => (cond (!(decide (d.Result = 0))) (g (.c351 a b k l d 1)) (g (.c351 a b k l d 0)))))))))) (g (.c352 c)))
def Qb351 (g : Q_g) (a : GApiProg) (b : Int) (c : RT1) (d : RT2) (e : GApiFn) (f : Int) : Option RT35 :=
 ((appD 40 c.2.1.c_.Fns ([(GApiEntry.mk c.2.1.from_ d.1.1 e.Params e.Slots f)] : List GApiEntry)).bind fun h => g (.c353 a b c h))
def Qb352 (g : Q_g) (a : GGenMaker) : Option RT35 :=
 (some ((a.c_, ()), ()))
def Qb353 (g : Q_g) (a : GApiProg) (b : Int) (c : RT1) (d : (List GApiEntry)) : Option RT35 :=
 g (.c350 a (w64 (b + 1)) (GGenMaker.mk c.2.1.p_ (GApiCode.mk c.2.1.c_.Ins d c.2.1.c_.Strs) c.2.1.from_ c.2.1.texts_))
def Qb354 (g : Q_g)  : Option RT0 :=
 ((g (.c280 ([102, 110, 32, 109, 97, 105, 110, 40, 41, 32, 123, 32, 112, 114, 105, 110, 116, 32, 49, 32, 43, 32, 50, 59, 32, 125] : List UInt8))).bind fun (a : RT34) => ((g (.c349 a.1.1)).bind fun (b : RT35) => ((g (.c326 b.1.1 0)).bind fun (c : RT36) => (cond (decide (c.1.2.1 = 0)) (cond (decide ((c.1.1.length : Int) = 6)) ((getI c.1.1 0).bind fun d => ((c.1.1[(Int.toNat 0)]?).bind fun e => (cond (decide (e = 0)) ((getI c.1.1 1).bind fun f => ((c.1.1[(Int.toNat 1)]?).bind fun h => (cond (decide (h = 0)) ((getI c.1.1 2).bind fun j => ((c.1.1[(Int.toNat 2)]?).bind fun k => (cond (decide (k = 1)) ((getI c.1.1 3).bind fun l => ((c.1.1[(Int.toNat 3)]?).bind fun m => (cond (decide (m = 2)) ((getI c.1.1 4).bind fun n => ((c.1.1[(Int.toNat 4)]?).bind fun o => (cond (decide (o = 1)) ((getI c.1.1 5).bind fun p => ((c.1.1[(Int.toNat 5)]?).bind fun q => (some (((decide (q = 0)), ()), ())))) (some ((false, ()), ()))))) (some ((false, ()), ()))))) (some ((false, ()), ()))))) (some ((false, ()), ()))))) (some ((false, ()), ()))))) (some ((false, ()), ()))) (some ((false, ()), ()))))))
def Qb355 (g : Q_g) (a : GR17F) : Option RT2 :=
 g (.c356 a 0)
def Qb356 (g : Q_g) (a : GR17F) (b : Int) : Option RT2 :=
 (cond (decide (b < (a.D.length : Int))) ((getI a.D b).bind fun c => (cond (decide (c ≥ 0)) ((getI a.Gone b).bind fun d => (cond (!d) (some ((b, ()), ())) (g (.c356 a (w64 (b + 1)))))) (g (.c356 a (w64 (b + 1)))))) (g (.c357)))
def Qb357 (g : Q_g)  : Option RT2 :=
 (some (((-1), ()), ()))
def Qb358 (g : Q_g) (a : GR17F) (b : Int) (c : Int) : Option RT7 :=
 (cond (!(decide (a.Error = 0))) (some ((a, ()), ())) (cond (decide (b ≥ a.E.Len)) (some (((GR17F.mk a.E a.D a.Gone 17), ()), ())) ((getI a.D b).bind fun d => ((a.D[(Int.toNat b)]?).bind fun e => (cond (decide (e ≥ 0)) ((getI a.D b).bind fun f => ((a.D[(Int.toNat b)]?).bind fun h => (cond (!(decide (h = c))) (some (((GR17F.mk a.E a.D a.Gone 18), ()), ())) (g (.c359 b c a))))) (g (.c359 b c a)))))))
def Qb359 (g : Q_g) (a : Int) (b : Int) (c : GR17F) : Option RT7 :=
 ((getI c.D a).bind fun d => ((c.D[(Int.toNat a)]?).bind fun e => ((setN c.D (Int.toNat a) b).bind fun f => (some (((GR17F.mk c.E f c.Gone c.Error), ()), ())))))
def Qb360 (g : Q_g) (a : GApiCode) (b : GApiIns) : Option RT15 :=
 (cond (decide (b.Op = 19)) ((getI a.Fns b.A).bind fun c => ((getI a.Fns b.A).bind fun d => (some ((c.Params, d.Result, ()), ())))) (cond (decide (b.Op = 20)) (cond (decide (b.A = 7)) (some ((0, 1, ()), ())) (g (.c362 b))) (g (.c362 b))))
def Qb361 (g : Q_g) (a : GApiIns) : Option RT15 :=
 ((getI Qk5 a.Op).bind fun b => ((Qk5[(Int.toNat a.Op)]?).bind fun c => ((getI Qk6 a.Op).bind fun d => ((Qk6[(Int.toNat a.Op)]?).bind fun e => (some ((c, e, ()), ()))))))
def Qb362 (g : Q_g) (a : GApiIns) : Option RT15 :=
 (cond (decide (a.Op = 20)) (cond (decide (a.A = 5)) (some ((2, 1, ()), ())) (g (.c361 a))) (g (.c361 a)))
def Qb363 (g : Q_g) (a : GR17F) (b : GApiCode) (c : Int) : Option RT7 :=
 ((getI b.Ins (w64 (a.E.At + c))).bind fun d => ((getI a.D c).bind fun e => ((a.D[(Int.toNat c)]?).bind fun f => ((getI a.Gone c).bind fun h => ((a.Gone[(Int.toNat c)]?).bind fun j => ((setN a.Gone (Int.toNat c) true).bind fun k => ((g (.c360 b d)).bind fun (l : RT15) => (cond (decide (l.1.1 > f)) (g (.c364 a k)) (cond (decide (d.Op = 1)) (cond (!(decide (f = 0))) (g (.c364 a k)) (cond (decide (d.Op = 25)) (cond (!(decide (f = 1))) (g (.c364 a k)) (cond (!(decide (a.E.Result = 1))) (g (.c364 a k)) (cond (decide (d.Op = 26)) (cond (!(decide (f = 0))) (g (.c364 a k)) (cond (!(decide (a.E.Result = 0))) (g (.c364 a k)) (g (.c367 c f l a d k)))) (g (.c367 c f l a d k))))) (cond (decide (d.Op = 26)) (cond (!(decide (f = 0))) (g (.c364 a k)) (cond (!(decide (a.E.Result = 0))) (g (.c364 a k)) (g (.c367 c f l a d k)))) (g (.c367 c f l a d k))))) (cond (decide (d.Op = 25)) (cond (!(decide (f = 1))) (g (.c364 a k)) (cond (!(decide (a.E.Result = 1))) (g (.c364 a k)) (cond (decide (d.Op = 26)) (cond (!(decide (f = 0))) (g (.c364 a k)) (cond (!(decide (a.E.Result = 0))) (g (.c364 a k)) (g (.c367 c f l a d k)))) (g (.c367 c f l a d k))))) (cond (decide (d.Op = 26)) (cond (!(decide (f = 0))) (g (.c364 a k)) (cond (!(decide (a.E.Result = 0))) (g (.c364 a k)) (g (.c367 c f l a d k)))) (g (.c367 c f l a d k)))))))))))))
def Qb364 (g : Q_g) (a : GR17F) (b : (List Bool)) : Option RT7 :=
 (some (((GR17F.mk a.E a.D b 18), ()), ()))
def Qb365 (g : Q_g) (a : Int) (b : Int) (c : RT15) (d : GR17F) (e : GApiIns) (f : (List Bool)) : Option RT7 :=
 ((g (.c358 (GR17F.mk d.E d.D f d.Error) e.A (w64 (b - c.1.1)))).bind fun (h : RT7) => g (.c368 a b c h.1.1 e))
def Qb366 (g : Q_g) (a : Int) (b : Int) (c : RT15) (d : GR17F) (e : GApiIns) (f : (List Bool)) : Option RT7 :=
 ((g (.c358 (GR17F.mk d.E d.D f d.Error) e.A b)).bind fun (h : RT7) => g (.c368 a b c h.1.1 e))
def Qb367 (g : Q_g) (a : Int) (b : Int) (c : RT15) (d : GR17F) (e : GApiIns) (f : (List Bool)) : Option RT7 :=
 (cond (decide (e.Op = 11)) (g (.c365 a b c d e f)) (cond (decide (e.Op = 12)) (g (.c365 a b c d e f)) (cond (decide (e.Op = 13)) (g (.c366 a b c d e f)) (cond (decide (e.Op = 14)) (g (.c366 a b c d e f)) (g (.c368 a b c (GR17F.mk d.E d.D f d.Error) e))))))
def Qb368 (g : Q_g) (a : Int) (b : Int) (c : RT15) (d : GR17F) (e : GApiIns) : Option RT7 :=
 (cond (decide (e.Op = 11)) (some ((d, ()), ())) (cond (decide (e.Op = 25)) (some ((d, ()), ())) (cond (decide (e.Op = 26)) (some ((d, ()), ())) ((g (.c358 d (w64 (a + 1)) (w64 ((w64 (b - c.1.1)) + c.1.2.1)))).bind fun (f : RT7) => (some ((f.1.1, ()), ()))))))
def Qb369 (g : Q_g) (a : GApiCode) (b : GApiEntry) : Option RT16 :=
 ((okP (MakeOb 8 b.Len)).bind fun _ => ((okP (MakeOb 1 b.Len)).bind fun _ => g (.c370 b 0 a (List.replicate (Int.toNat b.Len) (0 : Int)))))
def Qb370 (g : Q_g) (a : GApiEntry) (b : Int) (c : GApiCode) (d : (List Int)) : Option RT16 :=
 (cond (decide (b < ((List.replicate (Int.toNat a.Len) (0 : Int)).length : Int))) ((getI d b).bind fun e => ((d[(Int.toNat b)]?).bind fun f => ((setN d (Int.toNat b) (-1)).bind fun h => g (.c370 a (w64 (b + 1)) c h)))) (g (.c371 c a d)))
def Qb371 (g : Q_g) (a : GApiCode) (b : GApiEntry) (c : (List Int)) : Option RT16 :=
 ((g (.c358 (GR17F.mk b c (List.replicate (Int.toNat b.Len) (false : Bool)) 0) 0 0)).bind fun (d : RT7) => g (.c372 0 a d.1.1))
def Qb372 (g : Q_g) (a : Int) (b : GApiCode) (c : GR17F) : Option RT16 :=
 (cond (decide (c.Error = 0)) ((g (.c355 c)).bind fun (d : RT2) => (cond (decide (d.1.1 < 0)) (some ((c, 0, ()), ())) ((g (.c363 c b d.1.1)).bind fun (e : RT7) => g (.c372 d.1.1 b e.1.1)))) (g (.c373 a c)))
def Qb373 (g : Q_g) (a : Int) (b : GR17F) : Option RT16 :=
 (some ((b, a, ()), ()))
def Qb374 (g : Q_g) (a : GApiCode) : Option RT0 :=
 (cond (decide ((a.Fns.length : Int) > 100)) (some ((false, ()), ())) (cond (decide ((a.Ins.length : Int) > 65536)) (some ((false, ()), ())) (cond (decide ((a.Strs.length : Int) > 65536)) (some ((false, ()), ())) (g (.c375 0 a 0)))))
def Qb375 (g : Q_g) (a : Int) (b : GApiCode) (c : Int) : Option RT0 :=
 (cond (decide (c < (b.Fns.length : Int))) ((getI b.Fns c).bind fun d => (cond (!(decide (d.At = a))) (some ((false, ()), ())) (cond (decide (d.Len < 0)) (some ((false, ()), ())) (cond (decide (d.Len > (b.Ins.length : Int))) (some ((false, ()), ())) (cond (decide (d.Params < 0)) (some ((false, ()), ())) (cond (decide (d.Params > d.Slots)) (some ((false, ()), ())) (cond (decide (d.Slots > 200)) (some ((false, ()), ())) (cond (!(decide (d.Result = 0))) (cond (!(decide (d.Result = 1))) (some ((false, ()), ())) (g (.c375 (w64 (a + d.Len)) b (w64 (c + 1))))) (g (.c375 (w64 (a + d.Len)) b (w64 (c + 1)))))))))))) (g (.c376 a b)))
def Qb376 (g : Q_g) (a : Int) (b : GApiCode) : Option RT0 :=
 g (.c377 a 0 b 0)
def Qb377 (g : Q_g) (a : Int) (b : Int) (c : GApiCode) (d : Int) : Option RT0 :=
 (cond (decide (d < (c.Strs.length : Int))) ((getI c.Strs d).bind fun e => (cond (decide ((e.length : Int) > 1048576)) (some ((false, ()), ())) ((getI c.Strs d).bind fun f => g (.c377 a (w64 (b + (f.length : Int))) c (w64 (d + 1)))))) (g (.c378 a b c)))
def Qb378 (g : Q_g) (a : Int) (b : Int) (c : GApiCode) : Option RT0 :=
 g (.c379 a b c 0)
def Qb379 (g : Q_g) (a : Int) (b : Int) (c : GApiCode) (d : Int) : Option RT0 :=
 (cond (decide (d < (c.Ins.length : Int))) ((getI c.Ins d).bind fun e => (cond (decide (e.Op = 0)) (some ((false, ()), ())) (cond (decide (e.Op > 26)) (some ((false, ()), ())) (cond (decide (e.Line < 0)) (some ((false, ()), ())) (cond (decide (e.Line > 2147483647)) (some ((false, ()), ())) (g (.c379 a b c (w64 (d + 1))))))))) (g (.c380 a b c)))
def Qb380 (g : Q_g) (a : Int) (b : Int) (c : GApiCode) : Option RT0 :=
 (cond (decide (a = (c.Ins.length : Int))) (some (((decide (b ≤ 1048576)), ()), ())) (some ((false, ()), ())))
def Qb381 (g : Q_g) (a : Int) (b : Int) (c : Int) : Option RT0 :=
 (cond (decide (a ≥ b)) (some (((decide (a < c)), ()), ())) (some ((false, ()), ())))
def Qb382 (g : Q_g) (a : GApiCode) (b : GApiEntry) (c : GApiIns) : Option RT2 :=
 (cond (decide (c.Op = 1)) (g (.c383 c)) (cond (decide (c.Op = 17)) (g (.c383 c)) (cond (decide (c.Op = 18)) (g (.c383 c)) (cond (decide (c.Op = 21)) (g (.c383 c)) (cond (decide (c.Op = 22)) (g (.c383 c)) (cond (decide (c.Op = 7)) (g (.c384 b c)) (cond (decide (c.Op = 8)) (g (.c384 b c)) (cond (decide (c.Op = 5)) ((g (.c381 c.A 0 (a.Strs.length : Int))).bind fun (d : RT0) => (cond (!d.1.1) (some ((19, ()), ())) (g (.c386)))) (cond (decide (c.Op = 19)) ((g (.c381 c.A 0 (a.Fns.length : Int))).bind fun (e : RT0) => (cond (!e.1.1) (some ((19, ()), ())) (g (.c386)))) (cond (decide (c.Op = 3)) ((g (.c381 c.A 0 2)).bind fun (f : RT0) => (cond (!f.1.1) (some ((23, ()), ())) (g (.c386)))) (cond (decide (c.Op = 4)) ((g (.c381 c.A 0 8388608)).bind fun (h : RT0) => (cond (!h.1.1) (some ((23, ()), ())) (g (.c386)))) (cond (decide (c.Op = 9)) ((g (.c381 c.A 12 14)).bind fun (j : RT0) => (cond (!j.1.1) (some ((23, ()), ())) (g (.c386)))) (cond (decide (c.Op = 10)) ((g (.c381 c.A 1 12)).bind fun (k : RT0) => (cond (!k.1.1) (some ((23, ()), ())) (g (.c386)))) (cond (decide (c.Op = 20)) ((g (.c381 c.A 1 9)).bind fun (l : RT0) => (cond (!l.1.1) (some ((23, ()), ())) (g (.c386)))) (cond (decide (c.Op = 11)) (g (.c385 b c)) (cond (decide (c.Op = 12)) (g (.c385 b c)) (cond (decide (c.Op = 13)) (g (.c385 b c)) (cond (decide (c.Op = 14)) (g (.c385 b c)) (g (.c386))))))))))))))))))))
def Qb383 (g : Q_g) (a : GApiIns) : Option RT2 :=
 (cond (decide (a.A < 0)) (some ((19, ()), ())) (g (.c386)))
def Qb384 (g : Q_g) (a : GApiEntry) (b : GApiIns) : Option RT2 :=
 ((g (.c381 b.A 0 a.Slots)).bind fun (c : RT0) => (cond (!c.1.1) (some ((19, ()), ())) (g (.c386))))
def Qb385 (g : Q_g) (a : GApiEntry) (b : GApiIns) : Option RT2 :=
 ((g (.c381 b.A 0 a.Len)).bind fun (c : RT0) => (cond (!c.1.1) (some ((17, ()), ())) (g (.c386))))
def Qb386 (g : Q_g)  : Option RT2 :=
 (some ((0, ()), ()))
def Qb387 (g : Q_g) (a : GApiCode) : Option RT26 :=
 ((g (.c374 a)).bind fun (b : RT0) => (cond (!b.1.1) (some ((1, 0, 0, ()), ())) (g (.c388 a 0))))
def Qb388 (g : Q_g) (a : GApiCode) (b : Int) : Option RT26 :=
 (cond (decide (b < (a.Fns.length : Int))) ((getI a.Fns b).bind fun c => g (.c389 b 0 a b c)) (g (.c390 a)))
def Qb389 (g : Q_g) (a : Int) (b : Int) (c : GApiCode) (d : Int) (e : GApiEntry) : Option RT26 :=
 (cond (decide (b < e.Len)) ((getI c.Ins (w64 (e.At + b))).bind fun f => ((g (.c382 c e f)).bind fun (h : RT2) => (cond (!(decide (h.1.1 = 0))) (some ((h.1.1, a, b, ()), ())) (g (.c389 a (w64 (b + 1)) c d e))))) (g (.c391 c d)))
def Qb390 (g : Q_g) (a : GApiCode) : Option RT26 :=
 g (.c392 a 0)
def Qb391 (g : Q_g) (a : GApiCode) (b : Int) : Option RT26 :=
 g (.c388 a (w64 (b + 1)))
def Qb392 (g : Q_g) (a : GApiCode) (b : Int) : Option RT26 :=
 (cond (decide (b < (a.Fns.length : Int))) ((getI a.Fns b).bind fun c => ((g (.c369 a c)).bind fun (d : RT16) => (cond (!(decide (d.1.1.Error = 0))) (some ((d.1.1.Error, b, d.1.2.1, ()), ())) (g (.c392 a (w64 (b + 1))))))) (g (.c393)))
def Qb393 (g : Q_g)  : Option RT26 :=
 (some ((0, 0, 0, ()), ()))
def Qb394 (g : Q_g) (a : GApiCode) : Option RT0 :=
 ((g (.c281 a)).bind fun (b : RT0) => (cond b.1.1 ((g (.l17_awake)).bind fun (c : RT0) => (some ((c.1.1, ()), ()))) ((g (.c319 a)).bind fun (d : RT26) => ((g (.c387 a)).bind fun (e : RT26) => (cond (decide (d.1.1 = e.1.1)) (cond (decide (d.1.2.1 = e.1.2.1)) (cond (decide (d.1.2.2.1 = e.1.2.2.1)) ((g (.l17_awake)).bind fun (f : RT0) => (some ((f.1.1, ()), ()))) (some ((false, ()), ()))) (some ((false, ()), ()))) (some ((false, ()), ())))))))
def Qb395 (g : Q_g) (a : GApiCode) (b : Int) : Option RT0 :=
 ((g (.c281 a)).bind fun (c : RT0) => (cond c.1.1 ((g (.l17_awake)).bind fun (d : RT0) => (some ((d.1.1, ()), ()))) ((g (.c326 a b)).bind fun (e : RT36) => ((g (.c387 a)).bind fun (f : RT26) => (cond (!(decide (f.1.1 = 0))) (cond (decide ((e.1.1.length : Int) = 0)) (cond (decide (e.1.2.1 = f.1.1)) ((g (.l17_awake)).bind fun (h : RT0) => (some ((h.1.1, ()), ()))) (some ((false, ()), ()))) (some ((false, ()), ()))) (cond (decide (b < 0)) (g (.c396 e)) (cond (decide (b ≥ (a.Fns.length : Int))) (g (.c396 e)) ((getI a.Fns b).bind fun j => ((g (.c369 a j)).bind fun (k : RT16) => (cond (!(decide (e.1.2.1 = 0))) (some ((false, ()), ())) (cond (!(decide ((e.1.1.length : Int) = (k.1.1.D.length : Int)))) (some ((false, ()), ())) (g (.c397 0 k e)))))))))))))
def Qb396 (g : Q_g) (a : RT36) : Option RT0 :=
 (cond (decide ((a.1.1.length : Int) = 0)) (cond (decide (a.1.2.1 = 20)) ((g (.l17_awake)).bind fun (b : RT0) => (some ((b.1.1, ()), ()))) (some ((false, ()), ()))) (some ((false, ()), ())))
def Qb397 (g : Q_g) (a : Int) (b : RT16) (c : RT36) : Option RT0 :=
 (cond (decide (a < (c.1.1.length : Int))) ((getI c.1.1 a).bind fun d => ((c.1.1[(Int.toNat a)]?).bind fun e => ((getI b.1.1.D a).bind fun f => ((b.1.1.D[(Int.toNat a)]?).bind fun h => (cond (!(decide (e = h))) (some ((false, ()), ())) (g (.c397 (w64 (a + 1)) b c))))))) (g (.c398)))
def Qb398 (g : Q_g)  : Option RT0 :=
 ((g (.l17_awake)).bind fun (a : RT0) => (some ((a.1.1, ()), ())))
def Qb399 (g : Q_g) (a : (List UInt8)) : Option RT37 :=
 (cond (decide ((a.length : Int) > 2000)) (some (((GApiProg.mk ([] : List GApiNode) ([] : List GApiMark) ([] : List GApiType) ([] : List GApiRec) ([] : List GApiField) ([] : List GApiFn) ([] : List Int) ([] : List GApiVar) ([] : List GApiPoint)), false, ()), ())) ((g (.c280 a)).bind fun (b : RT34) => (some ((b.1.1, (decide (b.1.2.1.Code = 0)), ()), ()))))
def Qb400 (g : Q_g) (a : (List UInt8)) : Option RT0 :=
 ((g (.l17_source a)).bind fun (b : RT37) => (cond (!b.1.2.1) ((g (.l17_awake)).bind fun (c : RT0) => (some ((c.1.1, ()), ()))) ((g (.c349 b.1.1)).bind fun (d : RT35) => ((g (.c319 d.1.1)).bind fun (e : RT26) => (cond (!(decide (e.1.1 = 0))) (some ((false, ()), ())) (cond (!(decide (e.1.2.1 = 0))) (some ((false, ()), ())) (cond (!(decide (e.1.2.2.1 = 0))) (some ((false, ()), ())) (g (.c401 0 d)))))))))
def Qb401 (g : Q_g) (a : Int) (b : RT35) : Option RT0 :=
 (cond (decide (a < (b.1.1.Fns.length : Int))) ((g (.c326 b.1.1 a)).bind fun (c : RT36) => (cond (!(decide (c.1.2.1 = 0))) (some ((false, ()), ())) ((getI b.1.1.Fns a).bind fun d => (cond (!(decide ((c.1.1.length : Int) = d.Len))) (some ((false, ()), ())) (g (.c402 a 0 b c)))))) (g (.c403)))
def Qb402 (g : Q_g) (a : Int) (b : Int) (c : RT35) (d : RT36) : Option RT0 :=
 (cond (decide (b < (d.1.1.length : Int))) ((getI c.1.1.Fns a).bind fun e => ((getI c.1.1.Ins (w64 (e.At + b))).bind fun f => (cond (decide (f.Op = 1)) ((getI d.1.1 b).bind fun h => ((d.1.1[(Int.toNat b)]?).bind fun j => (cond (decide (j > 0)) (some ((false, ()), ())) (g (.c402 a (w64 (b + 1)) c d))))) (g (.c402 a (w64 (b + 1)) c d))))) (g (.c404 a c)))
def Qb403 (g : Q_g)  : Option RT0 :=
 ((g (.l17_awake)).bind fun (a : RT0) => (some ((a.1.1, ()), ())))
def Qb404 (g : Q_g) (a : Int) (b : RT35) : Option RT0 :=
 g (.c401 (w64 (a + 1)) b)
end
end Go.Proofs.YtabmahknlebhpaaGreat
